/-
  The functions on sets of eight elements: what the printed functions answer, as plain functions. No condition: they are told for all whole numbers.
-/
import Derived.Test.YtjfdmgjfhplglaaFx2
import Derived.Test.YtjfdmgjfhplglaaBits
namespace Go.Proofs.Ytjfdmgjfhplglaa.L
open Go.RowKit Go.Proofs.Ytjfdmgjfhplglaa.F Go.Proofs.YtjfdmgjfhplglaaW.PrintWords Go.Proofs.YtjfdmgjfhplglaaW.PrintLast Go.Proofs.YtjfdmgjfhplglaaW.PrintMore
open Go.Proofs.Ytjfdmgjfhplglaa.Bits

theorem Ev.succ {α : Type} {g : Nat → Option α} {r : α} (h : Ev (fun k => g (k + 1)) r) : Ev g r := Ev.step (fun _ => rfl) h

def ints (l : List Nat) : List Int := l.map fun x : Nat => (x : Int)
def elems (s : Nat) : List Nat := (List.range 8).filter s.testBit
/-- The set of the places, from k on, of what p holds of. -/
def packL (p : Nat → Bool) : Nat → List Nat → Nat
  | _, [] => 0
  | k, e :: l => (if p e then 2 ^ k else 0) + packL p (k + 1) l
/-- The sum of the powers of what stands at the places, from k on, that p holds of. -/
def unpackL (p : Nat → Bool) : Nat → List Nat → Nat
  | _, [] => 0
  | k, e :: l => (if p k then 2 ^ e else 0) + unpackL p (k + 1) l
theorem rd_ints (l : List Nat) (j : Nat) (h : j < l.length) : rd (ints l) (j : Int) = ((l[j]'h : Nat) : Int) := by
  simp [rd, ints, List.getElem?_eq_getElem h]
theorem ints_length (l : List Nat) : (ints l).length = l.length := by simp [ints]
theorem mem_elems {s e : Nat} : e ∈ elems s ↔ e < 8 ∧ s.testBit e = true := by simp [elems]
theorem elems_length (s : Nat) : (elems s).length ≤ 8 := by
  have := List.length_filter_le s.testBit (List.range 8); simpa [elems] using this
/-- A number that is a set of eight elements. -/
def isAny (s : Int) : Bool := decide (0 ≤ s ∧ s < 256)

theorem isAny_i (s : Int) : impl_isAny.f s = some (isAny s) := by
  unfold impl_isAny.f isAny
  split <;> simp <;> omega

theorem l1In (x a b : Int) : spec_l1In.f x a b = some (decide (a ≤ x ∧ x ≤ b)) := by
  unfold spec_l1In.f
  split <;> simp <;> omega

theorem IsSet_s (n s : Int) : spec_IsSet.f n s = some (decide (0 ≤ n ∧ n ≤ 8 ∧ 0 ≤ s ∧ s < 2 ^ n.toNat)) := by
  unfold spec_IsSet.f
  simp only [l1In, Option.bind_some, decide_eq_true_eq]
  split
  · rename_i h
    obtain ⟨m, rfl⟩ := Int.eq_ofNat_of_zero_le h.1
    have hm : m ≤ 8 := by omega
    have hp : (2 : Nat) ^ m ≤ 2 ^ 8 := Nat.pow_le_pow_right (by decide) hm
    rw [wrapu_in (by omega) (by omega), shl_one m (by omega), if_pos (by omega)]
    rw [wrap_in (by generalize 2 ^ m = x at hp ⊢; omega) (by generalize 2 ^ m = x at hp ⊢; omega)]
    simp only [Int.toNat_natCast, Option.some.injEq, decide_eq_decide]
    have : (2 : Int) ^ m = ((2 ^ m : Nat) : Int) := by simp
    rw [this]
    generalize 2 ^ m = x at hp ⊢
    omega
  · simp; omega

theorem HasElement_s (s e : Int) : spec_HasElement.f s e = some (isAny s && decide (0 ≤ e ∧ e < 8) && s.toNat.testBit e.toNat) := by
  unfold spec_HasElement.f isAny
  simp only [IsSet_s, l1In, Option.bind_some, decide_eq_true_eq]
  by_cases hs : 0 ≤ s ∧ s < 256
  · rw [if_pos (by simp; omega)]
    by_cases he : 0 ≤ e ∧ e < 8
    · rw [if_pos (by omega)]
      obtain ⟨a, rfl⟩ := Int.eq_ofNat_of_zero_le hs.1
      obtain ⟨b, rfl⟩ := Int.eq_ofNat_of_zero_le he.1
      unfold spec_l2Has.f
      rw [wrapu_in (by omega) (by omega), if_pos (by omega), has_bit _ _ (by omega) (by omega)]
      simp; omega
    · rw [if_neg (by omega)]; simp [he]
  · rw [if_neg (by simp; omega)]; simp [hs]

theorem HasElement_i (s e : Int) : impl_HasElement.f s e = some (isAny s && decide (0 ≤ e ∧ e < 8) && s.toNat.testBit e.toNat) := by
  unfold impl_HasElement.f
  rw [isAny_i]
  simp only [Option.bind_some]
  cases hs : isAny s
  · simp
  · rw [if_pos rfl]
    have hs' : 0 ≤ s ∧ s < 256 := by simpa [isAny] using hs
    by_cases h0 : e ≥ 0
    · rw [if_pos h0]
      by_cases h8 : e < 8
      · obtain ⟨a, rfl⟩ := Int.eq_ofNat_of_zero_le hs'.1
        obtain ⟨b, rfl⟩ := Int.eq_ofNat_of_zero_le h0
        rw [if_pos h8, if_pos h0, has_bit _ _ (by omega) (by omega)]
        simp; omega
      · rw [if_neg h8]; simp; omega
    · rw [if_neg h0]; simp; omega

/-- The elements of a number: none where it is no set. -/
def elemsI (s : Int) : List Nat := if isAny s then elems s.toNat else []

theorem mem_elemsI {s : Int} {e : Nat} (h : e ∈ elemsI s) : e < 8 := by
  unfold elemsI at h; split at h
  · exact (mem_elems.1 h).1
  · simp at h
theorem elemsI_length (s : Int) : (elemsI s).length ≤ 8 := by
  unfold elemsI; split
  · exact elems_length _
  · simp

theorem elems_loop (s : Int) (L : Nat → List Int → Int → Option (List Int))
    (hL : ∀ k (acc : List Int) (i : Nat), L (k + 1) acc i = if (i : Int) < 8 then (if (isAny s && decide (0 ≤ (i : Int) ∧ (i : Int) < 8) && s.toNat.testBit (i : Int).toNat) = true then (if acc.length < 17592186044416 then L k (acc ++ [(i : Int)]) (wrap64 ((i : Int) + 1)) else none) else L k acc (wrap64 ((i : Int) + 1))) else some acc) :
    ∀ (d i : Nat) (acc : List Int), i + d = 8 → acc.length ≤ i → Ev (fun k => L k acc i) (acc ++ ints ((List.range' i d).filter fun e => isAny s && s.toNat.testBit e))
  | 0, i, acc, hd, _ => by
    obtain rfl : i = 8 := by omega
    refine Ev.succ ?_
    simp only [hL, show ¬ (((8 : Nat) : Int) < 8) by decide, if_false]
    simpa [ints] using Ev.now acc
  | d + 1, i, acc, hd, ha => by
    refine Ev.succ ?_
    have h8 : (i : Int) < 8 := by omega
    have hw : wrap64 ((i : Int) + 1) = ((i + 1 : Nat) : Int) := wrap_in (by omega) (by omega)
    simp only [hL, h8, hw, if_true, Int.toNat_natCast, Int.natCast_nonneg, decide_true, Bool.and_true, and_self]
    rw [List.range'_succ]
    cases hb : (isAny s && s.toNat.testBit i)
    · simp only [hb, List.filter_cons, Bool.false_eq_true, if_false]
      exact elems_loop s L hL d (i + 1) acc (by omega) (by omega)
    · simp only [hb, List.filter_cons, if_true, show acc.length < 17592186044416 by omega]
      have := elems_loop s L hL d (i + 1) (acc ++ [(i : Int)]) (by omega) (by simp; omega)
      simpa [ints] using this

theorem elemsI_eq (s : Int) : (List.range' 0 8).filter (fun e => isAny s && s.toNat.testBit e) = elemsI s := by
  unfold elemsI elems
  rw [List.range_eq_range']
  cases isAny s <;> simp

theorem ElementsOf_s (s : Int) : Ev (fun k => spec_ElementsOf.f k s) (ints (elemsI s)) := by
  have := elems_loop s (fun k acc i => spec_ElementsOf.l0 k s acc i) (fun k acc i => by simp only [spec_ElementsOf.l0, HasElement_s, Option.bind_some]) 8 0 [] rfl (by simp)
  rw [elemsI_eq] at this
  simpa [spec_ElementsOf.f] using this
theorem ElementsOf_i (s : Int) : Ev (fun k => impl_ElementsOf.f k s) (ints (elemsI s)) := by
  have := elems_loop s (fun k acc i => impl_ElementsOf.l0 k s acc i) (fun k acc i => by simp only [impl_ElementsOf.l0, HasElement_i, Option.bind_some]) 8 0 [] rfl (by simp)
  rw [elemsI_eq] at this
  simpa [impl_ElementsOf.f] using this

/-- The element test on any two numbers. -/
def hasI (s : Int) (e : Nat) : Bool := isAny s && decide (e < 8) && s.toNat.testBit e
theorem HasElement_sn (s : Int) (e : Nat) : spec_HasElement.f s (e : Int) = some (hasI s e) := by
  rw [HasElement_s]; simp [hasI, show ((e : Int) < 8) ↔ e < 8 by omega]
theorem HasElement_in (s : Int) (e : Nat) : impl_HasElement.f s (e : Int) = some (hasI s e) := by
  rw [HasElement_i]; simp [hasI, show ((e : Int) < 8) ↔ e < 8 by omega]

theorem packL_lt (p : Nat → Bool) : ∀ (l : List Nat) (k : Nat), 2 ^ k + packL p k l ≤ 2 ^ (k + l.length)
  | [], k => by simp [packL]
  | e :: l, k => by
    have := packL_lt p l (k + 1)
    rw [List.length_cons, show k + (l.length + 1) = k + 1 + l.length by omega]
    have h2 : 2 ^ (k + 1) = 2 ^ k + 2 ^ k := by rw [Nat.pow_succ]; omega
    rw [h2] at this
    simp only [packL]
    generalize 2 ^ (k + 1 + l.length) = x at this ⊢
    generalize 2 ^ k = y at this ⊢
    split <;> omega

theorem pack_loop_s (s : Int) (es : List Nat) (hl : es.length ≤ 8) : ∀ (d i acc : Nat), i + d = es.length → acc < 2 ^ i → Ev (fun k => spec_PackSet.l0 k s acc (ints es) i) ((acc + packL (hasI s) i (es.drop i) : Nat) : Int)
  | 0, i, acc, hd, _ => by
    refine Ev.succ ?_
    have h : ¬ ((i : Int) < ((ints es).length : Int)) := by rw [ints_length]; omega
    have : es.drop i = [] := List.drop_eq_nil_of_le (by omega)
    simp only [spec_PackSet.l0, h, if_false, this, packL]
    exact Ev.now _
  | d + 1, i, acc, hd, ha => by
    refine Ev.succ ?_
    have hi : i < es.length := by omega
    have h : ((i : Int) < ((ints es).length : Int)) := by rw [ints_length]; omega
    have h0 : (0 : Int) ≤ (i : Int) := by omega
    have hw : wrap64 ((i : Int) + 1) = ((i + 1 : Nat) : Int) := wrap_in (by omega) (by omega)
    have hu : IntKind.u64.wrap (i : Int) = (i : Int) := wrapu_in (by omega) (by omega)
    have hp : 2 ^ i ≤ 2 ^ 7 := Nat.pow_le_pow_right (by decide) (by omega)
    have hs : wrap64 ((acc : Int) + shl .i64 1 (i : Int)) = ((acc + 2 ^ i : Nat) : Int) := by
      rw [shl_one i (by omega)]
      generalize 2 ^ i = x at hp ha
      exact wrap_in (by omega) (by omega)
    have hd' : es.drop i = es[i] :: es.drop (i + 1) := List.drop_eq_getElem_cons hi
    simp only [spec_PackSet.l0, h, h0, if_true, rd_ints es i hi, HasElement_sn, Option.bind_some, hw, hu, hs, hd', packL]
    cases hb : hasI s es[i]
    · simp only [Bool.false_eq_true, if_false, Nat.zero_add]
      exact pack_loop_s s es hl d (i + 1) acc (by omega) (by have := Nat.pow_lt_pow_succ (n := i) (show 1 < 2 by decide); omega)
    · simp only [if_true]
      have := pack_loop_s s es hl d (i + 1) (acc + 2 ^ i) (by omega) (by rw [Nat.pow_succ]; omega)
      rwa [Nat.add_assoc] at this

theorem or_pow (acc i : Nat) (h : acc < 2 ^ i) : acc ||| 2 ^ i = acc + 2 ^ i := by
  have := Nat.two_pow_add_eq_or_of_lt h 1
  rw [Nat.mul_one] at this
  rw [Nat.or_comm, ← this, Nat.add_comm]

theorem pack_loop_i (s : Int) (es : List Nat) (hl : es.length ≤ 8) : ∀ (d i acc : Nat), i + d = es.length → acc < 2 ^ i → Ev (fun k => impl_PackSet.l0 k s acc (ints es) es.length i) ((acc + packL (hasI s) i (es.drop i) : Nat) : Int)
  | 0, i, acc, hd, _ => by
    refine Ev.succ ?_
    have h : ¬ ((i : Int) < (es.length : Int)) := by omega
    have : es.drop i = [] := List.drop_eq_nil_of_le (by omega)
    simp only [impl_PackSet.l0, h, if_false, this, packL]
    exact Ev.now _
  | d + 1, i, acc, hd, ha => by
    refine Ev.succ ?_
    have hi : i < es.length := by omega
    have h : ((i : Int) < (es.length : Int)) := by omega
    have h' : ((i : Int) < ((ints es).length : Int)) := by rw [ints_length]; omega
    have h0 : (0 : Int) ≤ (i : Int) := by omega
    have hw : wrap64 ((i : Int) + 1) = ((i + 1 : Nat) : Int) := wrap_in (by omega) (by omega)
    have hp : 2 ^ i ≤ 2 ^ 7 := Nat.pow_le_pow_right (by decide) (by omega)
    have hs : Go.bits .or .i64 (acc : Int) (shl .i64 1 (i : Int)) = ((acc + 2 ^ i : Nat) : Int) := by
      rw [shl_one i (by omega), bits_or _ _ (by omega) (by omega), or_pow _ _ ha]
    have hd' : es.drop i = es[i] :: es.drop (i + 1) := List.drop_eq_getElem_cons hi
    simp only [impl_PackSet.l0, h, h', h0, if_true, rd_ints es i hi, HasElement_in, Option.bind_some, hw, hs, hd', packL]
    cases hb : hasI s es[i]
    · simp only [Bool.false_eq_true, if_false, Nat.zero_add]
      exact pack_loop_i s es hl d (i + 1) acc (by omega) (by have := Nat.pow_lt_pow_succ (n := i) (show 1 < 2 by decide); omega)
    · simp only [if_true]
      have := pack_loop_i s es hl d (i + 1) (acc + 2 ^ i) (by omega) (by rw [Nat.pow_succ]; omega)
      rwa [Nat.add_assoc] at this

/-- The places of a set's elements in another. -/
def packI (s keep : Int) : Nat := packL (hasI s) 0 (elemsI keep)
theorem PackSet_s (s keep : Int) : Ev (fun k => spec_PackSet.f k s keep) (packI s keep) := by
  unfold spec_PackSet.f
  refine Ev.bind (ElementsOf_s keep) ?_
  have := pack_loop_s s (elemsI keep) (elemsI_length _) _ 0 0 (Nat.zero_add _) (by decide)
  simpa [packI] using this
theorem packL_none (p : Nat → Bool) (h : ∀ e, p e = false) : ∀ (l : List Nat) (k : Nat), packL p k l = 0
  | [], _ => rfl
  | e :: l, k => by simp [packL, h, packL_none p h l]
theorem PackSet_i (s keep : Int) : Ev (fun k => impl_PackSet.f k s keep) (packI s keep) := by
  unfold impl_PackSet.f
  simp only [isAny_i, Option.bind_some]
  cases hs : isAny s
  · simp only [Bool.false_eq_true, if_false]
    have : packI s keep = 0 := packL_none _ (fun e => by simp [hasI, hs]) _ _
    rw [this]; exact Ev.now _
  · simp only [if_true]
    refine Ev.bind (ElementsOf_i keep) ?_
    have := pack_loop_i s (elemsI keep) (elemsI_length _) _ 0 0 (Nat.zero_add _) (by decide)
    simpa [packI, ints_length] using this
theorem drop_cons {α : Type} {l r : List α} {i : Nat} {a : α} (h : l.drop i = a :: r) : ∃ hi : i < l.length, l[i] = a ∧ l.drop (i + 1) = r := by
  have hi : i < l.length := by
    rcases Nat.lt_or_ge i l.length with h' | h'
    · exact h'
    · rw [List.drop_eq_nil_of_le h'] at h; cases h
  refine ⟨hi, ?_⟩
  rw [List.drop_eq_getElem_cons hi] at h
  exact ⟨(List.cons.inj h).1, (List.cons.inj h).2⟩

theorem unpackL_lt (p : Nat → Bool) : ∀ (l : List Nat) (k : Nat), l.Pairwise (· < ·) → (∀ e ∈ l, e < 8) → ∀ b, (∀ e ∈ l, b ≤ e) → b ≤ 8 → unpackL p k l + 2 ^ b ≤ 2 ^ 8
  | [], k, _, _, b, _, h8 => by
    have := Nat.pow_le_pow_right (n := 2) (by decide) h8
    simp only [unpackL]; omega
  | e :: l, k, hs, h8, b, hb, _ => by
    have he : e < 8 := h8 e (by simp)
    have hs' := List.pairwise_cons.1 hs
    have ih := unpackL_lt p l (k + 1) hs'.2 (fun x hx => h8 x (by simp [hx])) (e + 1) (fun x hx => hs'.1 x hx) (by omega)
    have h2 : 2 ^ (e + 1) = 2 ^ e + 2 ^ e := by rw [Nat.pow_succ]; omega
    have h3 : 2 ^ b ≤ 2 ^ e := Nat.pow_le_pow_right (by decide) (hb e (by simp))
    simp only [unpackL]
    rw [h2] at ih
    generalize 2 ^ e = x at *
    generalize 2 ^ b = y at *
    split <;> omega

theorem unpack_loop_s (s : Nat) (hs : s < 256) (es : List Nat) (hl : es.length ≤ 8) (h8 : ∀ e ∈ es, e < 8) : ∀ (rest : List Nat) (i acc : Nat), es.drop i = rest → acc + unpackL s.testBit i rest < 2 ^ 40 → Ev (fun k => spec_UnpackSet.l0 k s acc (ints es) i) ((acc + unpackL s.testBit i rest : Nat) : Int)
  | [], i, acc, hd, _ => by
    refine Ev.succ ?_
    have hi : es.length ≤ i := List.drop_eq_nil_iff.1 hd
    have h : ¬ ((i : Int) < ((ints es).length : Int)) := by rw [ints_length]; omega
    simp only [spec_UnpackSet.l0, h, if_false, unpackL]
    exact Ev.now _
  | e :: rest, i, acc, hd, ha => by
    refine Ev.succ ?_
    obtain ⟨hi, he, hr⟩ := drop_cons hd
    have he8 : e < 8 := h8 e (by rw [← he]; exact List.getElem_mem hi)
    have h : ((i : Int) < ((ints es).length : Int)) := by rw [ints_length]; omega
    have h0 : (0 : Int) ≤ (i : Int) := by omega
    have h0e : (0 : Int) ≤ (e : Int) := by omega
    have hw : wrap64 ((i : Int) + 1) = ((i + 1 : Nat) : Int) := wrap_in (by omega) (by omega)
    have hu : IntKind.u64.wrap (e : Int) = (e : Int) := wrapu_in (by omega) (by omega)
    have hu' : IntKind.u64.wrap (i : Int) = (i : Int) := wrapu_in (by omega) (by omega)
    have hb : spec_l2Has.f (s : Int) (i : Int) = some (s.testBit i) := by
      unfold spec_l2Has.f; rw [hu', if_pos h0, has_bit _ _ (by omega) (by omega)]
    have hrd := rd_ints es i hi
    rw [he] at hrd
    simp only [unpackL] at ha
    simp only [spec_UnpackSet.l0, h, h0, if_true, hrd, hb, Option.bind_some, hw, hu, h0e, unpackL]
    cases hbi : s.testBit i
    · simp only [Bool.false_eq_true, if_false, Nat.zero_add]
      rw [hbi] at ha
      exact unpack_loop_s s hs es hl h8 rest (i + 1) acc hr (by simpa using ha)
    · rw [hbi] at ha
      simp only [if_true] at ha ⊢
      have hs : wrap64 ((acc : Int) + shl .i64 1 (e : Int)) = ((acc + 2 ^ e : Nat) : Int) := by
        rw [shl_one e (by omega)]
        generalize 2 ^ e = x at ha
        exact wrap_in (by omega) (by omega)
      rw [hs]
      have := unpack_loop_s s ‹s < 256› es hl h8 rest (i + 1) (acc + 2 ^ e) hr (by omega)
      rwa [Nat.add_assoc] at this

/-- The sum of the powers of the elements at these places. -/
def sumAt (es : List Nat) : List Nat → Nat
  | [] => 0
  | x :: l => 2 ^ es.getD x 0 + sumAt es l

theorem unpack_loop_i (es : List Nat) (hl : es.length ≤ 8) (h8 : ∀ e ∈ es, e < 8) (hes : es.Pairwise (· < ·)) (xs : List Nat) (hx8 : xs.length ≤ 8) : ∀ (rest : List Nat) (i acc : Nat), xs.drop i = rest → rest.Pairwise (· < ·) → (∀ x ∈ rest, x < es.length → acc < 2 ^ es.getD x 0) → acc < 256 →
    Ev (fun k => impl_UnpackSet.l0 k (ints es) acc (ints xs) xs.length i) (((if rest.all (· < es.length) then acc + sumAt es rest else 0) : Nat) : Int)
  | [], i, acc, hd, _, _, _ => by
    refine Ev.succ ?_
    have hi : xs.length ≤ i := List.drop_eq_nil_iff.1 hd
    have h : ¬ ((i : Int) < (xs.length : Int)) := by omega
    simp only [impl_UnpackSet.l0, h, if_false, sumAt, List.all_nil, if_true]
    exact Ev.now _
  | x :: rest, i, acc, hd, hp, hb, ha => by
    refine Ev.succ ?_
    obtain ⟨hi, hx, hr⟩ := drop_cons hd
    have h : ((i : Int) < (xs.length : Int)) := by omega
    have h' : ((i : Int) < ((ints xs).length : Int)) := by rw [ints_length]; omega
    have h0 : (0 : Int) ≤ (i : Int) := by omega
    have h0x : (0 : Int) ≤ (x : Int) := by omega
    have hw : wrap64 ((i : Int) + 1) = ((i + 1 : Nat) : Int) := wrap_in (by omega) (by omega)
    have hrd := rd_ints xs i hi
    rw [hx] at hrd
    simp only [impl_UnpackSet.l0, h, h', h0, h0x, if_true, hrd, hw, ge_iff_le]
    have hp' := List.pairwise_cons.1 hp
    by_cases hxl : x < es.length
    · have h1 : ¬ (((ints es).length : Int) ≤ (x : Int)) := by rw [ints_length]; omega
      have h2 : ((x : Int) < ((ints es).length : Int)) := by rw [ints_length]; omega
      have hre := rd_ints es x hxl
      have he8 : es[x] < 8 := h8 _ (List.getElem_mem hxl)
      have hg : es.getD x 0 = es[x] := by simp [List.getElem?_eq_getElem hxl]
      have hlt : acc < 2 ^ es[x] := by rw [← hg]; exact hb x (by simp) hxl
      have hpw : 2 ^ es[x] ≤ 2 ^ 7 := Nat.pow_le_pow_right (by decide) (by omega)
      have h0e : (0 : Int) ≤ ((es[x] : Nat) : Int) := by omega
      have hs : Go.bits .or .i64 (acc : Int) (shl .i64 1 ((es[x] : Nat) : Int)) = ((acc + 2 ^ es[x] : Nat) : Int) := by
        rw [shl_one _ (by omega), bits_or _ _ (by omega) (by omega), or_pow _ _ hlt]
      simp only [h1, h2, hre, h0e, if_true, if_false, hs]
      have := unpack_loop_i es hl h8 hes xs hx8 rest (i + 1) (acc + 2 ^ es[x]) hr hp'.2 (fun y hy hyl => by
        have hxy : x < y := hp'.1 y hy
        have : es[x] < es[y] := List.pairwise_iff_getElem.1 hes x y hxl hyl hxy
        have hg' : es.getD y 0 = es[y] := by simp [List.getElem?_eq_getElem hyl]
        rw [hg']
        have h3 : 2 ^ (es[x] + 1) ≤ 2 ^ es[y] := Nat.pow_le_pow_right (by decide) this
        have h4 : 2 ^ (es[x] + 1) = 2 ^ es[x] + 2 ^ es[x] := by rw [Nat.pow_succ]; omega
        omega) (by omega)
      simp only [List.all_cons, hxl, decide_true, Bool.true_and, sumAt, hg, ← Nat.add_assoc]
      exact this
    · have h1 : (((ints es).length : Int) ≤ (x : Int)) := by rw [ints_length]; omega
      simp only [h1, if_true, List.all_cons, hxl, decide_false, Bool.false_and, Bool.false_eq_true, if_false]
      exact Ev.now _

theorem sumAt_shift (es : List Nat) (a : Nat) : ∀ l : List Nat, sumAt (a :: es) (l.map (· + 1)) = sumAt es l
  | [] => rfl
  | x :: l => by simp [sumAt, sumAt_shift es a l]

theorem unpackL_shift (p : Nat → Bool) : ∀ (l : List Nat) (k : Nat), unpackL p (k + 1) l = unpackL (fun i => p (i + 1)) k l
  | [], _ => rfl
  | e :: l, k => by simp [unpackL, unpackL_shift p l]

theorem sumAt_range (p : Nat → Bool) : ∀ (es : List Nat) , sumAt es ((List.range es.length).filter p) = unpackL p 0 es := by
  intro es
  induction es generalizing p with
  | nil => rfl
  | cons a es ih =>
    rw [List.length_cons, List.range_succ_eq_map, List.filter_cons]
    have hm : List.filter p (List.map Nat.succ (List.range es.length)) = ((List.range es.length).filter (fun i => p (i + 1))).map (· + 1) := by
      rw [List.filter_map]; rfl
    rw [hm]
    simp only [unpackL, unpackL_shift]
    rw [← ih (fun i => p (i + 1))]
    split
    · simp [sumAt, sumAt_shift]
    · simp [sumAt_shift]

theorem elems_pairwise (s : Nat) : (elems s).Pairwise (· < ·) := List.Pairwise.filter _ List.pairwise_lt_range
theorem elemsI_pairwise (s : Int) : (elemsI s).Pairwise (· < ·) := by
  unfold elemsI; split
  · exact elems_pairwise _
  · exact List.Pairwise.nil

theorem elems_small (s n : Nat) (hn : n ≤ 8) (h : s < 2 ^ n) : elems s = (List.range n).filter s.testBit := by
  unfold elems
  obtain ⟨m, hm⟩ : ∃ m, 8 = n + m := ⟨8 - n, by omega⟩
  rw [hm, List.range_add, List.filter_append]
  have : List.filter s.testBit (List.map (fun x => n + x) (List.range m)) = [] := by
    rw [List.filter_eq_nil_iff]
    intro a ha
    obtain ⟨b, _, rfl⟩ := List.mem_map.1 ha
    rw [Nat.testBit_lt_two_pow (Nat.lt_of_lt_of_le h (Nat.pow_le_pow_right (by decide) (by omega)))]
    simp
  rw [this, List.append_nil]

theorem lt_of_elems (s n : Nat) (hs : s < 256) (h : ∀ e ∈ elems s, e < n) : s < 2 ^ n := by
  apply Nat.lt_pow_two_of_testBit
  intro i hi
  cases hb : s.testBit i
  · rfl
  · have : i < 8 := by
      rcases Nat.lt_or_ge i 8 with h' | h'
      · exact h'
      · rw [Nat.testBit_lt_two_pow (Nat.lt_of_lt_of_le hs (Nat.pow_le_pow_right (n := 2) (by decide) h'))] at hb; cases hb
    have := h i (mem_elems.2 ⟨this, hb⟩)
    omega

/-- The elements of a set at the places that another tells. -/
def unpackI (s keep : Int) : Nat := if 0 ≤ s ∧ s < 2 ^ (elemsI keep).length then unpackL s.toNat.testBit 0 (elemsI keep) else 0

theorem UnpackSet_s (s keep : Int) : Ev (fun k => spec_UnpackSet.f k s keep) (unpackI s keep) := by
  unfold spec_UnpackSet.f
  refine Ev.bind (ElementsOf_s keep) ?_
  have hl := elemsI_length keep
  simp only [IsSet_s, Option.bind_some, ints_length, decide_eq_true_eq, Int.toNat_natCast]
  unfold unpackI
  by_cases h : 0 ≤ s ∧ s < 2 ^ (elemsI keep).length
  · have hc : (0 : Int) ≤ ((elemsI keep).length : Int) ∧ ((elemsI keep).length : Int) ≤ 8 ∧ 0 ≤ s ∧ s < 2 ^ (elemsI keep).length := ⟨by omega, by omega, h.1, h.2⟩
    rw [if_pos h]
    simp only [hc, and_self, if_true]
    obtain ⟨n, rfl⟩ := Int.eq_ofNat_of_zero_le h.1
    have hp : (2 : Nat) ^ (elemsI keep).length ≤ 2 ^ 8 := Nat.pow_le_pow_right (by decide) hl
    have hn : n < 2 ^ (elemsI keep).length := by have := h.2; rw [show (2 : Int) ^ (elemsI keep).length = ((2 ^ (elemsI keep).length : Nat) : Int) by simp] at this; omega
    have hu := unpackL_lt n.testBit (elemsI keep) 0 (elemsI_pairwise keep) (fun e he => mem_elemsI he) 0 (by simp) (by omega)
    have := unpack_loop_s n (by omega) (elemsI keep) hl (fun e he => mem_elemsI he) (elemsI keep) 0 0 rfl (by omega)
    simpa using this
  · have hc : ¬ ((0 : Int) ≤ ((elemsI keep).length : Int) ∧ ((elemsI keep).length : Int) ≤ 8 ∧ 0 ≤ s ∧ s < 2 ^ (elemsI keep).length) := fun hh => h hh.2.2
    simp only [hc, if_false]
    rw [if_neg h]
    exact Ev.now _

theorem UnpackSet_i (s keep : Int) : Ev (fun k => impl_UnpackSet.f k s keep) (unpackI s keep) := by
  unfold impl_UnpackSet.f
  refine Ev.bind (ElementsOf_i keep) (Ev.bind (ElementsOf_i s) ?_)
  have hl := elemsI_length keep
  have := unpack_loop_i (elemsI keep) hl (fun e he => mem_elemsI he) (elemsI_pairwise keep) (elemsI s) (elemsI_length s) (elemsI s) 0 0 rfl (elemsI_pairwise s) (fun x _ _ => Nat.two_pow_pos _) (by decide)
  have e : (if (elemsI s).all (· < (elemsI keep).length) then 0 + sumAt (elemsI keep) (elemsI s) else 0) = unpackI s keep := by
    unfold unpackI
    cases hs : isAny s
    · have hel : elemsI s = [] := by simp [elemsI, hs]
      have h' : ¬ (0 ≤ s ∧ s < 256) := by simpa [isAny] using hs
      have hp : (2 : Nat) ^ (elemsI keep).length ≤ 2 ^ 8 := Nat.pow_le_pow_right (by decide) hl
      have : ¬ (0 ≤ s ∧ s < 2 ^ (elemsI keep).length) := fun hh => h' ⟨hh.1, by have := hh.2; rw [show (2 : Int) ^ (elemsI keep).length = ((2 ^ (elemsI keep).length : Nat) : Int) by simp] at this; omega⟩
      simp [hel, this, sumAt]
    · have h' : 0 ≤ s ∧ s < 256 := by simpa [isAny] using hs
      obtain ⟨n, rfl⟩ := Int.eq_ofNat_of_zero_le h'.1
      have hel : elemsI (n : Int) = elems n := by simp [elemsI, hs]
      rw [hel]
      have hcast : ((0 : Int) ≤ (n : Int) ∧ (n : Int) < 2 ^ (elemsI keep).length) ↔ n < 2 ^ (elemsI keep).length := by
        rw [show (2 : Int) ^ (elemsI keep).length = ((2 ^ (elemsI keep).length : Nat) : Int) by simp]; omega
      by_cases hlt : n < 2 ^ (elemsI keep).length
      · have hall : (elems n).all (· < (elemsI keep).length) = true := by
          rw [elems_small n _ hl hlt, List.all_eq_true]
          intro x hx; simp at hx; simp [hx.1]
        rw [if_pos hall, if_pos (hcast.2 hlt), Nat.zero_add, elems_small n _ hl hlt, sumAt_range]; simp
      · have hall : ¬ (elems n).all (· < (elemsI keep).length) = true := fun hh => hlt (lt_of_elems n _ (by omega) (by simpa using hh))
        rw [if_neg hall, if_neg (fun hh => hlt (hcast.1 hh))]
  rw [e] at this
  simpa [ints_length] using this
end Go.Proofs.Ytjfdmgjfhplglaa.L
