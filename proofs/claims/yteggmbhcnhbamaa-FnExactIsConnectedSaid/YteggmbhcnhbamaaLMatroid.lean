/-
  Is a size with a list of sets a matroid: of program and reference the same. Condition: lists of at most 2^44 elements.
-/
import Derived.Test.YteggmbhcnhbamaaFx3
import Derived.Test.YteggmbhcnhbamaaFx4
import Derived.Test.YteggmbhcnhbamaaLFamily
import Derived.Test.YteggmbhcnhbamaaGvFirstFailure
import Derived.Test.YteggmbhcnhbamaaGvSpecFailure
namespace Go.Proofs.Yteggmbhcnhbamaa.L
open Go.RowKit Go.Proofs.Yteggmbhcnhbamaa.F Go.Proofs.YteggmbhcnhbamaaW.PrintWords Go.Proofs.YteggmbhcnhbamaaW.PrintLast Go.Proofs.YteggmbhcnhbamaaW.PrintMore
open Go.Proofs.Yteggmbhcnhbamaa.Bits
open Go.Proofs.Yteggmbhcnhbamaa.Mt (sdiff bit_sdiff elems mem_elems cnt full ins del Mat lt256)
set_option linter.unusedSimpArgs false
set_option linter.unusedVariables false
theorem del_add : ∀ a : Nat, a < 256 → ∀ e : Nat, e < 8 → a.testBit e = true → del a e + 2 ^ e = a := by decide +kernel
theorem ins_add : ∀ a : Nat, a < 256 → ∀ f : Nat, f < 8 → a.testBit f = false → ins a f = a + 2 ^ f := by decide +kernel
theorem del_lt {a e : Nat} (h : a < 256) : del a e < 256 := Nat.lt_of_le_of_lt (Mt.le_of_sub (Mt.del_sub a e)) h
theorem mem_ints {B : List Nat} {x : Nat} : ((x : Int) ∈ ints B) ↔ x ∈ B := by
  simp only [ints, List.mem_map]
  constructor
  · rintro ⟨y, hy, e⟩
    have : y = x := by omega
    rw [← this]; exact hy
  · intro h; exact ⟨x, h, rfl⟩
/-- Some element of b can be put for e in a. -/
def exch (B : List Nat) (a b e : Nat) : Bool := (elems (sdiff b a)).any fun f => decide (ins (del a e) f ∈ B)
theorem exch_range {B : List Nat} {N a b e : Nat} (hN : N ≤ 8) (hb : b < 2 ^ N) : exch B a b e = (List.range N).any fun f => b.testBit f && (!a.testBit f && decide (ins (del a e) f ∈ B)) := by
  unfold exch
  rw [Bool.eq_iff_iff]
  simp only [List.any_eq_true, mem_elems, List.mem_range, bit_sdiff, Bool.and_eq_true, Bool.not_eq_true', decide_eq_true_eq]
  constructor
  · rintro ⟨f, ⟨_, h1, h2⟩, h3⟩; exact ⟨f, Mt.bit_lt hb h1, h1, h2, h3⟩
  · rintro ⟨f, h0, h1, h2, h3⟩; exact ⟨f, ⟨by omega, h1, h2⟩, h3⟩
def matB (B : List Nat) : Bool := B.all fun a => B.all fun b => (elems (sdiff a b)).all fun e => exch B a b e
def isMatroid (n : Int) (l : List Int) : Bool := isFamily n l && decide (0 < l.length) && matB (l.map Int.toNat)
theorem toNat_ints (B : List Nat) : (ints B).map Int.toNat = B := by
  simp only [ints, List.map_map]
  induction B with
  | nil => rfl
  | cons x t ih => simp only [List.map_cons, ih]; rfl
/-- What a matroid holds. -/
theorem mat_parts {n : Int} {l : List Int} (h : isMatroid n l = true) : ∃ (N : Nat) (B : List Nat), n = N ∧ l = ints B ∧ B.Pairwise (· < ·) ∧ Mat N B := by
  unfold isMatroid at h
  simp only [Bool.and_eq_true, decide_eq_true_eq] at h
  obtain ⟨⟨h1, h2⟩, h3⟩ := h
  obtain ⟨N, B, rfl, hN, rfl, hB, hp⟩ := fam_parts h1
  rw [toNat_ints] at h3
  refine ⟨N, B, rfl, rfl, hp, ⟨hN, hB, ?_, ?_⟩⟩
  · intro e; rw [e] at h2; simp [ints] at h2
  · intro a ha b hb e he hbe
    have h4 := List.all_eq_true.1 (List.all_eq_true.1 (List.all_eq_true.1 h3 a ha) b hb) e (mem_elems.2 ⟨Mt.bit_lt (n := 8) (lt256 hN (hB a ha)) he, by rw [bit_sdiff, he, hbe]; rfl⟩)
    simp only [exch, List.any_eq_true, mem_elems, bit_sdiff, Bool.and_eq_true, Bool.not_eq_true', decide_eq_true_eq] at h4
    obtain ⟨f, ⟨_, h5, h6⟩, h7⟩ := h4
    exact ⟨f, h5, h6, h7⟩
/-! ### the first failure: is there one? -/
theorem foldr_pick {α ρ : Type} (p : α → Bool) (g : α → ρ) (r : ρ) (c : ρ → Bool) (hg : ∀ x, c (g x) = true) : ∀ l : List α, c (l.foldr (fun x r => if p x = true then g x else r) r) = (l.any p || c r)
  | [] => by simp
  | x :: t => by
    simp only [List.foldr_cons, List.any_cons]
    cases h : p x
    · simp only [Bool.false_eq_true, if_false, Bool.false_or]; exact foldr_pick p g r c hg t
    · simp [hg]
theorem has_s (a e : Nat) (ha : a < 256) (he : e ≤ 64) : spec_l2Has.f (a : Int) (e : Int) = some (a.testBit e) := by
  unfold spec_l2Has.f; rw [wrapu_in (by omega) (by omega), if_pos (by omega), has_bit _ _ (by omega) (by omega)]
section
variable {N : Nat} {B : List Nat}
theorem getB (i : Nat) (hi : i < B.length) : rd (ints B) (i : Int) = ((B[i] : Nat) : Int) := rd_ints B i hi
theorem exch_s (hN : N ≤ 8) (hB : ∀ b ∈ B, b < 2 ^ N) (hl : B.length ≤ 17592186044416) {a b e : Nat} (ha : a < 2 ^ N) (hb : b < 2 ^ N) (he : a.testBit e = true) :
    Ev (fun k => spec_l4Exchange.f k (N : Int) (ints B) a b e) (exch B a b e) := by
  have ha8 := lt256 hN ha
  have hb8 := lt256 hN hb
  have he8 : e < 8 := Mt.bit_lt (n := 8) ha8 he
  rw [exch_range hN hb]
  unfold spec_l4Exchange.f
  have h := loop_back (fun k f => spec_l4Exchange.l0 k a b e f N (ints B)) N (fun f r => (b.testBit f && (!a.testBit f && decide (ins (del a e) f ∈ B))) || r) false
    (by simp only [spec_l4Exchange.l0, show ¬ ((N : Int) < (N : Int)) by omega, if_false]; exact Ev.now _) fun f hf r hr => by
      simp only [spec_l4Exchange.l0, show ((f : Int) < (N : Int)) by omega, if_true, has_s b f hb8 (by omega), has_s a f ha8 (by omega), Option.bind_some, wrap_succ (show f < 9223372036854775807 by omega)]
      cases h1 : b.testBit f
      · simp only [Bool.false_eq_true, if_false, Bool.false_and, Bool.false_or]; exact hr
      · cases h2 : a.testBit f
        · have hd := del_lt (e := e) ha8
          have e1 := del_add a ha8 e he8 he
          have hdf : (del a e).testBit f = false := by rw [Mt.bit_del, h2]; rfl
          have e2 := ins_add (del a e) hd f (by omega) hdf
          have ew : wrap64 ((wrap64 ((a : Int) - (shl .i64 1 (IntKind.u64.wrap (e : Int))))) + (shl .i64 1 (IntKind.u64.wrap (f : Int)))) = ((ins (del a e) f : Nat) : Int) := by
            have p1 : 2 ^ e ≤ 2 ^ 8 := Nat.pow_le_pow_right (by decide) (by omega)
            have p2 : 2 ^ f ≤ 2 ^ 8 := Nat.pow_le_pow_right (by decide) (by omega)
            rw [wrapu_in (by omega) (by omega), wrapu_in (n := (f : Int)) (by omega) (by omega), shl_one e (by omega), shl_one f (by omega), e2]
            generalize 2 ^ e = x at e1 p1 ⊢
            generalize 2 ^ f = y at p2 ⊢
            rw [wrap_in (n := (a : Int) - (x : Int)) (by omega) (by omega), wrap_in (by omega) (by omega)]
            omega
          simp only [Bool.false_eq_true, if_false, Bool.not_false, Bool.true_and]
          simp only [show (0 : Int) ≤ IntKind.u64.wrap (e : Int) by rw [wrapu_in (by omega) (by omega)]; omega, show (0 : Int) ≤ IntKind.u64.wrap (f : Int) by rw [wrapu_in (by omega) (by omega)]; omega, if_true, ew]
          refine Ev.bind (HasSet_s (ints B) _ (by rw [ints_length]; exact hl)) ?_
          simp only [mem_ints]
          by_cases hm : ins (del a e) f ∈ B
          · simp only [hm, decide_true, if_true, Bool.true_or]; exact Ev.now _
          · simp only [hm, decide_false, Bool.false_eq_true, if_false, Bool.false_or]; exact hr
        · simp only [if_true, Bool.not_true, Bool.false_and, Bool.and_false, Bool.false_or]; exact hr
  rw [foldr_any, Bool.or_false] at h
  exact h
/-- The failing element of two bases, as the reference looks for it: over all places. -/
def ffS (N : Nat) (B : List Nat) : Int × Int × Int × Bool :=
  (List.range B.length).foldr (fun i r => (List.range B.length).foldr (fun j r => (List.range N).foldr (fun e r =>
    if (B.getD i 0).testBit e && (!(B.getD j 0).testBit e && !exch B (B.getD i 0) (B.getD j 0) e) then (((B.getD i 0 : Nat) : Int), ((B.getD j 0 : Nat) : Int), (e : Int), true) else r) r) r) (0, 0, 0, false)
/-- The same, as the program looks for it: over the elements of the difference. -/
def ffI (B : List Nat) : Int × Int × Int × Bool :=
  (List.range B.length).foldr (fun i r => (List.range B.length).foldr (fun j r => (List.range (elems (sdiff (B.getD i 0) (B.getD j 0))).length).foldr (fun m r =>
    if !exch B (B.getD i 0) (B.getD j 0) ((elems (sdiff (B.getD i 0) (B.getD j 0))).getD m 0) then (((B.getD i 0 : Nat) : Int), ((B.getD j 0 : Nat) : Int), (((elems (sdiff (B.getD i 0) (B.getD j 0))).getD m 0 : Nat) : Int), true) else r) r) r) (0, 0, 0, false)
theorem getD_get (i : Nat) (hi : i < B.length) : B.getD i 0 = B[i] := by simp [List.getElem?_eq_getElem hi]
theorem rd_get' (i : Nat) (hi : i < B.length) : rd (ints B) (i : Int) = ((B.getD i 0 : Nat) : Int) := by rw [rd_ints B i hi, getD_get i hi]
theorem getD_lt (hB : ∀ b ∈ B, b < 2 ^ N) (i : Nat) (hi : i < B.length) : B.getD i 0 < 2 ^ N := by rw [getD_get i hi]; exact hB _ (List.getElem_mem hi)
theorem failure_s (hN : N ≤ 8) (hB : ∀ b ∈ B, b < 2 ^ N) (hl : B.length ≤ 17592186044416) : Ev (fun k => spec_FirstFailure.l0 k (N : Int) (ints B) 0) (ffS N B) := by
  refine loop_back (fun k i => spec_FirstFailure.l0 k (N : Int) (ints B) i) B.length _ (0, 0, 0, false) ?_ fun i hi r hr => ?_
  · simp only [spec_FirstFailure.l0, ints_length, show ¬ ((B.length : Int) < (B.length : Int)) by omega, if_false]; exact Ev.now _
  simp only [spec_FirstFailure.l0, ints_length, show ((i : Int) < (B.length : Int)) by omega, show (0 : Int) ≤ (i : Int) by omega, if_true]
  refine loop_back (fun k j => spec_FirstFailure.l1 k (N : Int) (ints B) i j) B.length _ r ?_ fun j hj r hr => ?_
  · simp only [spec_FirstFailure.l1, ints_length, show ¬ ((B.length : Int) < (B.length : Int)) by omega, if_false, wrap_succ (show i < 9223372036854775807 by omega)]; exact hr
  simp only [spec_FirstFailure.l1, ints_length, show ((j : Int) < (B.length : Int)) by omega, show (0 : Int) ≤ (j : Int) by omega, if_true]
  have ha := getD_lt hB i hi
  have hb := getD_lt hB j hj
  have ea := rd_get' i hi
  have eb := rd_get' j hj
  refine loop_back (fun k e => spec_FirstFailure.l2 k (N : Int) (ints B) i j e) N _ r ?_ fun e he r hr => ?_
  · simp only [spec_FirstFailure.l2, show ¬ ((N : Int) < (N : Int)) by omega, if_false, wrap_succ (show j < 9223372036854775807 by omega)]; exact hr
  generalize B.getD i 0 = a at ha ea ⊢
  generalize B.getD j 0 = b at hb eb ⊢
  simp only [spec_FirstFailure.l2, show ((e : Int) < (N : Int)) by omega, if_true, ea, eb, has_s a e (lt256 hN ha) (by omega), has_s b e (lt256 hN hb) (by omega), Option.bind_some, wrap_succ (show e < 9223372036854775807 by omega)]
  cases h1 : a.testBit e
  · simp only [Bool.false_eq_true, if_false, Bool.false_and]; exact hr
  · cases h2 : b.testBit e
    · simp only [if_true, Bool.false_eq_true, if_false, Bool.not_false, Bool.true_and]
      refine Ev.bind (exch_s hN hB hl ha hb h1) ?_
      cases h3 : exch B a b e
      · simp only [Bool.false_eq_true, if_false, Bool.not_false, if_true]; exact Ev.now _
      · simp only [if_true, Bool.not_true, Bool.false_eq_true, if_false]; exact hr
    · simp only [if_true, Bool.not_true, Bool.false_and, Bool.and_false, Bool.false_eq_true, if_false]; exact hr
theorem anyO_ev (Q : Nat → Int → Option Bool) (p : Nat → Bool) : ∀ l : List Nat, (∀ x ∈ l, Ev (fun k => Q k (x : Int)) (p x)) → Ev (fun k => anyO (Q k) (ints l)) (l.any p)
  | [], _ => by simp only [ints, List.map_nil, anyO, List.any_nil]; exact Ev.now _
  | x :: t, h => by
    simp only [ints, List.map_cons, anyO, List.any_cons]
    refine Ev.bind (h x (List.mem_cons_self ..)) ?_
    cases hp : p x
    · simp only [Bool.false_eq_true, if_false, Bool.false_or]; exact anyO_ev Q p t fun y hy => h y (List.mem_cons_of_mem _ hy)
    · simp only [if_true, Bool.true_or]; exact Ev.now _
theorem elemsI_nat {s : Nat} (h : s < 256) : elemsI (s : Int) = elems s := by unfold elemsI; rw [if_pos (by simp [isAny]; omega)]; rfl
theorem sdiff256 {a b : Nat} (h : a < 256) : sdiff a b < 256 := sdiff_lt (n := 8) h
theorem failure_i (hN : N ≤ 8) (hB : ∀ b ∈ B, b < 2 ^ N) (hl : B.length ≤ 17592186044416) : Ev (fun k => impl_FirstFailure.l0 k (ints B) 0) (ffI B) := by
  refine loop_back (fun k i => impl_FirstFailure.l0 k (ints B) i) B.length _ (0, 0, 0, false) ?_ fun i hi r hr => ?_
  · simp only [impl_FirstFailure.l0, ints_length, show ¬ ((B.length : Int) < (B.length : Int)) by omega, if_false]; exact Ev.now _
  simp only [impl_FirstFailure.l0, ints_length, show ((i : Int) < (B.length : Int)) by omega, show (0 : Int) ≤ (i : Int) by omega, if_true]
  have ha := getD_lt hB i hi
  have ea := rd_get' i hi
  refine loop_back (fun k j => impl_FirstFailure.l1 k (ints B) i j) B.length _ r ?_ fun j hj r hr => ?_
  · simp only [impl_FirstFailure.l1, ints_length, show ¬ ((B.length : Int) < (B.length : Int)) by omega, if_false, wrap_succ (show i < 9223372036854775807 by omega)]; exact hr
  have hb := getD_lt hB j hj
  have eb := rd_get' j hj
  generalize B.getD i 0 = a at ha ea ⊢
  generalize B.getD j 0 = b at hb eb ⊢
  have ha8 := lt256 hN ha
  have hb8 := lt256 hN hb
  simp only [impl_FirstFailure.l1, ints_length, show ((j : Int) < (B.length : Int)) by omega, show (0 : Int) ≤ (j : Int) by omega, if_true, ea, eb, bits_andNot a b (by omega) (by omega)]
  refine Ev.bind (ElementsOf_i _) ?_
  rw [elemsI_nat (sdiff256 ha8)]
  have hes : ∀ e ∈ elems (sdiff a b), e < 8 ∧ a.testBit e = true := fun e he => by
    have := mem_elems.1 he
    rw [bit_sdiff] at this; simp at this; exact ⟨this.1, this.2.1⟩
  have hlen := elems_length (sdiff a b)
  generalize elems (sdiff a b) = es at hes hlen ⊢
  refine loop_back (fun k m => impl_FirstFailure.l2 k (ints B) i j (ints es) m) es.length _ r ?_ fun m hm r hr => ?_
  · simp only [impl_FirstFailure.l2, ints_length, show ¬ ((es.length : Int) < (es.length : Int)) by omega, if_false, wrap_succ (show j < 9223372036854775807 by omega)]; exact hr
  have he := hes es[m] (List.getElem_mem hm)
  have ee := rd_ints es m hm
  rw [show es.getD m 0 = es[m] by simp [List.getElem?_eq_getElem hm]]
  generalize es[m] = e at he ee ⊢
  simp only [impl_FirstFailure.l2, ints_length, show ((m : Int) < (es.length : Int)) by omega, show (0 : Int) ≤ (m : Int) by omega, if_true, ea, eb, ee, bits_andNot b a (by omega) (by omega), wrap_succ (show m < 9223372036854775807 by omega)]
  refine Ev.bind (ElementsOf_i _) ?_
  rw [elemsI_nat (sdiff256 hb8)]
  have hlf := elems_length (sdiff b a)
  simp only [ints_length, show (elems (sdiff b a)).length ≤ 17592186044416 by omega, if_true]
  refine Ev.bind (anyO_ev (fun k => impl_FirstFailure.q k (ints B) a e) (fun f => decide (ins (del a e) f ∈ B)) (elems (sdiff b a)) fun f hf => ?_) ?_
  · have hf8 := (mem_elems.1 hf).1
    have p1 : 2 ^ e ≤ 2 ^ 8 := Nat.pow_le_pow_right (by decide) (by omega)
    have p2 : 2 ^ f ≤ 2 ^ 8 := Nat.pow_le_pow_right (by decide) (by omega)
    have hd := del_lt (e := e) ha8
    simp only [impl_FirstFailure.q, show (0 : Int) ≤ (e : Int) by omega, show (0 : Int) ≤ (f : Int) by omega, if_true, shl_one e (by omega), shl_one f (by omega)]
    rw [bits_andNot a (2 ^ e) (by omega) (by omega), bits_or (sdiff a (2 ^ e)) (2 ^ f) (by have : sdiff a (2 ^ e) < 256 := hd; omega) (by omega)]
    have hh := HasSet_i (ints B) ((sdiff a (2 ^ e) ||| 2 ^ f : Nat) : Int) (by rw [ints_length]; exact hl)
    rw [show decide (((sdiff a (2 ^ e) ||| 2 ^ f : Nat) : Int) ∈ ints B) = decide (ins (del a e) f ∈ B) by rw [decide_eq_decide]; exact mem_ints] at hh
    exact hh
  show Ev _ (if (!exch B a b e) = true then _ else r)
  rw [show ((elems (sdiff b a)).any fun f => decide (ins (del a e) f ∈ B)) = exch B a b e from rfl]
  cases h3 : exch B a b e
  · simp only [Bool.false_eq_true, if_false, Bool.not_false, if_true]; exact Ev.now _
  · simp only [if_true, Bool.not_true, Bool.false_eq_true, if_false]; exact hr
theorem foldr_c {α ρ : Type} (c : ρ → Bool) (F : α → ρ → ρ) (P : α → Bool) (h : ∀ x r, c (F x r) = (P x || c r)) (r : ρ) : ∀ l : List α, c (l.foldr F r) = (l.any P || c r)
  | [] => by simp
  | x :: t => by rw [List.foldr_cons, h, foldr_c c F P h r t, List.any_cons, Bool.or_assoc]
theorem foldr_c' {α ρ : Type} (c : ρ → Bool) (p : α → Bool) (g : α → ρ) (hg : ∀ x, c (g x) = true) (r : ρ) (l : List α) : c (l.foldr (fun x r => if p x = true then g x else r) r) = (l.any p || c r) :=
  foldr_c c _ p (fun x r => by cases h : p x <;> simp [h, hg]) r l
theorem ffS_bad (hN : N ≤ 8) (hB : ∀ b ∈ B, b < 2 ^ N) : (ffS N B).2.2.2 = !matB B := by
  unfold ffS
  rw [foldr_c (fun r : Int × Int × Int × Bool => r.2.2.2) _ (fun i => (List.range B.length).any fun j => (List.range N).any fun e => (B.getD i 0).testBit e && (!(B.getD j 0).testBit e && !exch B (B.getD i 0) (B.getD j 0) e)) (fun i r => by
    rw [foldr_c (fun r : Int × Int × Int × Bool => r.2.2.2) _ (fun j => (List.range N).any fun e => (B.getD i 0).testBit e && (!(B.getD j 0).testBit e && !exch B (B.getD i 0) (B.getD j 0) e)) (fun j r => by
      exact foldr_c' (fun r : Int × Int × Int × Bool => r.2.2.2) _ _ (fun _ => rfl) r _)])]
  rw [Bool.or_false, Bool.eq_iff_iff]
  simp only [List.any_eq_true, List.mem_range, Bool.and_eq_true, Bool.not_eq_true']
  constructor
  · rintro ⟨i, hi, j, hj, e, he, h1, h2, h3⟩
    rw [getD_get i hi] at h1 h3
    rw [getD_get j hj] at h2 h3
    rw [Bool.eq_false_iff]
    intro hm
    have := List.all_eq_true.1 (List.all_eq_true.1 (List.all_eq_true.1 hm B[i] (List.getElem_mem hi)) B[j] (List.getElem_mem hj)) e (mem_elems.2 ⟨by omega, by rw [bit_sdiff, h1, h2]; rfl⟩)
    rw [h3] at this; cases this
  · intro hm
    obtain ⟨a, ha, h⟩ := List.all_eq_false.1 hm
    obtain ⟨b, hb, h⟩ := List.all_eq_false.1 (Bool.eq_false_iff.2 h)
    obtain ⟨e, he, h⟩ := List.all_eq_false.1 (Bool.eq_false_iff.2 h)
    obtain ⟨i, hi, rfl⟩ := List.getElem_of_mem ha
    obtain ⟨j, hj, rfl⟩ := List.getElem_of_mem hb
    have hd := (mem_elems.1 he).2
    rw [bit_sdiff] at hd
    simp only [Bool.and_eq_true, Bool.not_eq_true'] at hd
    refine ⟨i, hi, j, hj, e, Mt.bit_lt (hB _ ha) hd.1, ?_⟩
    rw [getD_get i hi, getD_get j hj]
    exact ⟨hd.1, hd.2, Bool.eq_false_iff.2 h⟩
theorem ffI_bad : (ffI B).2.2.2 = !matB B := by
  unfold ffI
  rw [foldr_c (fun r : Int × Int × Int × Bool => r.2.2.2) _ (fun i => (List.range B.length).any fun j => (List.range (elems (sdiff (B.getD i 0) (B.getD j 0))).length).any fun m => !exch B (B.getD i 0) (B.getD j 0) ((elems (sdiff (B.getD i 0) (B.getD j 0))).getD m 0)) (fun i r => by
    rw [foldr_c (fun r : Int × Int × Int × Bool => r.2.2.2) _ (fun j => (List.range (elems (sdiff (B.getD i 0) (B.getD j 0))).length).any fun m => !exch B (B.getD i 0) (B.getD j 0) ((elems (sdiff (B.getD i 0) (B.getD j 0))).getD m 0)) (fun j r => by
      exact foldr_c' (fun r : Int × Int × Int × Bool => r.2.2.2) _ _ (fun _ => rfl) r _)])]
  rw [Bool.or_false, Bool.eq_iff_iff]
  simp only [List.any_eq_true, List.mem_range, Bool.not_eq_true']
  constructor
  · rintro ⟨i, hi, j, hj, m, hm, h3⟩
    rw [getD_get i hi, getD_get j hj] at h3 hm
    rw [Bool.eq_false_iff]
    intro hmm
    rw [show (elems (sdiff B[i] B[j])).getD m 0 = (elems (sdiff B[i] B[j]))[m] by simp [List.getElem?_eq_getElem hm]] at h3
    have := List.all_eq_true.1 (List.all_eq_true.1 (List.all_eq_true.1 hmm B[i] (List.getElem_mem hi)) B[j] (List.getElem_mem hj)) _ (List.getElem_mem hm)
    rw [h3] at this; cases this
  · intro hm
    obtain ⟨a, ha, h⟩ := List.all_eq_false.1 hm
    obtain ⟨b, hb, h⟩ := List.all_eq_false.1 (Bool.eq_false_iff.2 h)
    obtain ⟨e, he, h⟩ := List.all_eq_false.1 (Bool.eq_false_iff.2 h)
    obtain ⟨i, hi, rfl⟩ := List.getElem_of_mem ha
    obtain ⟨j, hj, rfl⟩ := List.getElem_of_mem hb
    obtain ⟨m, hm, rfl⟩ := List.getElem_of_mem he
    refine ⟨i, hi, j, hj, m, ?_, ?_⟩
    · rw [getD_get i hi, getD_get j hj]; exact hm
    · rw [getD_get i hi, getD_get j hj, show (elems (sdiff B[i] B[j])).getD m 0 = (elems (sdiff B[i] B[j]))[m] by simp [List.getElem?_eq_getElem hm]]
      exact Bool.eq_false_iff.2 h
end
theorem IsMatroid_s (n : Int) (l : List Int) (hl : l.length ≤ 17592186044416) : Ev (fun k => spec_IsMatroid.f k n l) (isMatroid n l) := by
  unfold spec_IsMatroid.f spec_FirstFailure.f isMatroid
  have hf := IsFamily_s n l hl
  cases h : isFamily n l
  · rw [h] at hf
    refine Ev.bind (Ev.bind hf (by simp only [Bool.false_eq_true, if_false]; exact Ev.now _)) (Ev.bind hf ?_)
    simp only [Bool.false_eq_true, if_false, Bool.false_and]; exact Ev.now _
  · rw [h] at hf
    obtain ⟨N, B, rfl, hN, rfl, hB, hp⟩ := fam_parts h
    rw [ints_length] at hl
    refine Ev.bind (Ev.bind hf (by simp only [if_true]; exact failure_s hN hB hl)) (Ev.bind hf ?_)
    simp only [if_true, ffS_bad hN hB, Bool.not_not, toNat_ints, Bool.true_and, ints_length]
    by_cases h0 : 0 < B.length
    · simp only [show ((B.length : Int) > 0) by omega, if_true, h0, decide_true, Bool.true_and]; exact Ev.now _
    · simp only [show ¬ ((B.length : Int) > 0) by omega, if_false, h0, decide_false, Bool.false_and]; exact Ev.now _
theorem IsMatroid_i (n : Int) (l : List Int) (hl : l.length ≤ 17592186044416) : Ev (fun k => impl_IsMatroid.f k n l) (isMatroid n l) := by
  unfold impl_IsMatroid.f impl_FirstFailure.f isMatroid
  have hf := IsFamily_i n l hl
  cases h : isFamily n l
  · rw [h] at hf
    refine Ev.bind (Ev.bind hf (by simp only [Bool.false_eq_true, if_false]; exact Ev.now _)) (Ev.bind hf ?_)
    simp only [Bool.false_eq_true, if_false, Bool.false_and]; exact Ev.now _
  · rw [h] at hf
    obtain ⟨N, B, rfl, hN, rfl, hB, hp⟩ := fam_parts h
    rw [ints_length] at hl
    refine Ev.bind (Ev.bind hf (by simp only [if_true]; exact failure_i hN hB hl)) (Ev.bind hf ?_)
    simp only [if_true, ffI_bad, Bool.not_not, toNat_ints, Bool.true_and, ints_length]
    by_cases h0 : 0 < B.length
    · simp only [show ((B.length : Int) > 0) by omega, if_true, h0, decide_true, Bool.true_and]; exact Ev.now _
    · simp only [show ¬ ((B.length : Int) > 0) by omega, if_false, h0, decide_false, Bool.false_and]; exact Ev.now _
end Go.Proofs.Yteggmbhcnhbamaa.L
