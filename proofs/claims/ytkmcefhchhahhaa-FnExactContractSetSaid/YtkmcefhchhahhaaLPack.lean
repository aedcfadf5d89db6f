/-
  Sets that are packed into the places of another's elements, and unpacked: what both functions answer. No condition: they are told for all whole numbers.
-/
import Derived.Test.YtkmcefhchhahhaaFx7
import Derived.Test.YtkmcefhchhahhaaLSets
namespace Go.Proofs.Ytkmcefhchhahhaa.L
open Go.RowKit Go.Proofs.Ytkmcefhchhahhaa.F Go.Proofs.YtkmcefhchhahhaaW.PrintWords Go.Proofs.YtkmcefhchhahhaaW.PrintLast Go.Proofs.YtkmcefhchhahhaaW.PrintMore
open Go.Proofs.Ytkmcefhchhahhaa.Bits
open Go.Proofs.Ytkmcefhchhahhaa.Mt (sdiff bit_sdiff elems mem_elems)
/-- The set of the places, from k on, of what p holds of. -/
def packL (p : Nat → Bool) : Nat → List Nat → Nat
  | _, [] => 0
  | k, e :: l => (if p e then 2 ^ k else 0) + packL p (k + 1) l
/-- The sum of the powers of what stands at the places, from k on, that p holds of. -/
def unpackL (p : Nat → Bool) : Nat → List Nat → Nat
  | _, [] => 0
  | k, e :: l => (if p k then 2 ^ e else 0) + unpackL p (k + 1) l
theorem packL_lt (p : Nat → Bool) : ∀ (l : List Nat) (k : Nat), 2 ^ k + packL p k l ≤ 2 ^ (k + l.length)
  | [], k => by simp [packL]
  | e :: l, k => by
    have := packL_lt p l (k + 1)
    rw [List.length_cons, show k + (l.length + 1) = k + 1 + l.length by omega]
    have h2 : 2 ^ (k + 1) = 2 ^ k + 2 ^ k := by rw [Nat.pow_succ]; omega
    rw [h2] at this
    simp only [packL]
    generalize 2 ^ (k + 1 + l.length) = x at this ⊢
    generalize 2 ^ k = y at this ⊢
    split <;> omega

theorem pack_loop_s (s : Int) (es : List Nat) (hl : es.length ≤ 8) : ∀ (d i acc : Nat), i + d = es.length → acc < 2 ^ i → Ev (fun k => spec_PackSet.l0 k s acc (ints es) i) ((acc + packL (hasI s) i (es.drop i) : Nat) : Int)
  | 0, i, acc, hd, _ => by
    refine Ev.succ ?_
    have h : ¬ ((i : Int) < ((ints es).length : Int)) := by rw [ints_length]; omega
    have : es.drop i = [] := List.drop_eq_nil_of_le (by omega)
    simp only [spec_PackSet.l0, h, if_false, this, packL]
    exact Ev.now _
  | d + 1, i, acc, hd, ha => by
    refine Ev.succ ?_
    have hi : i < es.length := by omega
    have h : ((i : Int) < ((ints es).length : Int)) := by rw [ints_length]; omega
    have h0 : (0 : Int) ≤ (i : Int) := by omega
    have hw : wrap64 ((i : Int) + 1) = ((i + 1 : Nat) : Int) := wrap_in (by omega) (by omega)
    have hu : IntKind.u64.wrap (i : Int) = (i : Int) := wrapu_in (by omega) (by omega)
    have hp : 2 ^ i ≤ 2 ^ 7 := Nat.pow_le_pow_right (by decide) (by omega)
    have hs : wrap64 ((acc : Int) + shl .i64 1 (i : Int)) = ((acc + 2 ^ i : Nat) : Int) := by
      rw [shl_one i (by omega)]
      generalize 2 ^ i = x at hp ha
      exact wrap_in (by omega) (by omega)
    have hd' : es.drop i = es[i] :: es.drop (i + 1) := List.drop_eq_getElem_cons hi
    simp only [spec_PackSet.l0, h, h0, if_true, rd_ints es i hi, HasElement_sn, Option.bind_some, hw, hu, hs, hd', packL]
    cases hb : hasI s es[i]
    · simp only [Bool.false_eq_true, if_false, Nat.zero_add]
      exact pack_loop_s s es hl d (i + 1) acc (by omega) (by have := Nat.pow_lt_pow_succ (n := i) (show 1 < 2 by decide); omega)
    · simp only [if_true]
      have := pack_loop_s s es hl d (i + 1) (acc + 2 ^ i) (by omega) (by rw [Nat.pow_succ]; omega)
      rwa [Nat.add_assoc] at this
/-- The places of a set's elements in another. -/
def packI (s keep : Int) : Nat := packL (hasI s) 0 (elemsI keep)
theorem PackSet_s (s keep : Int) : Ev (fun k => spec_PackSet.f k s keep) (packI s keep) := by
  unfold spec_PackSet.f
  refine Ev.bind (ElementsOf_s keep) ?_
  have := pack_loop_s s (elemsI keep) (elemsI_length _) _ 0 0 (Nat.zero_add _) (by decide)
  simpa [packI] using this
theorem packL_none (p : Nat → Bool) (h : ∀ e, p e = false) : ∀ (l : List Nat) (k : Nat), packL p k l = 0
  | [], _ => rfl
  | e :: l, k => by simp [packL, h, packL_none p h l]
theorem unpackL_lt (p : Nat → Bool) : ∀ (l : List Nat) (k : Nat), l.Pairwise (· < ·) → (∀ e ∈ l, e < 8) → ∀ b, (∀ e ∈ l, b ≤ e) → b ≤ 8 → unpackL p k l + 2 ^ b ≤ 2 ^ 8
  | [], k, _, _, b, _, h8 => by
    have := Nat.pow_le_pow_right (n := 2) (by decide) h8
    simp only [unpackL]; omega
  | e :: l, k, hs, h8, b, hb, _ => by
    have he : e < 8 := h8 e (by simp)
    have hs' := List.pairwise_cons.1 hs
    have ih := unpackL_lt p l (k + 1) hs'.2 (fun x hx => h8 x (by simp [hx])) (e + 1) (fun x hx => hs'.1 x hx) (by omega)
    have h2 : 2 ^ (e + 1) = 2 ^ e + 2 ^ e := by rw [Nat.pow_succ]; omega
    have h3 : 2 ^ b ≤ 2 ^ e := Nat.pow_le_pow_right (by decide) (hb e (by simp))
    simp only [unpackL]
    rw [h2] at ih
    generalize 2 ^ e = x at *
    generalize 2 ^ b = y at *
    split <;> omega

/-- The sum of the powers of the elements at these places. -/
def sumAt (es : List Nat) : List Nat → Nat
  | [] => 0
  | x :: l => 2 ^ es.getD x 0 + sumAt es l

theorem unpack_loop_i (es : List Nat) (hl : es.length ≤ 8) (h8 : ∀ e ∈ es, e < 8) (hes : es.Pairwise (· < ·)) (xs : List Nat) (hx8 : xs.length ≤ 8) : ∀ (rest : List Nat) (i acc : Nat), xs.drop i = rest → rest.Pairwise (· < ·) → (∀ x ∈ rest, x < es.length → acc < 2 ^ es.getD x 0) → acc < 256 →
    Ev (fun k => impl_UnpackSet.l0 k (ints es) acc (ints xs) xs.length i) (((if rest.all (· < es.length) then acc + sumAt es rest else 0) : Nat) : Int)
  | [], i, acc, hd, _, _, _ => by
    refine Ev.succ ?_
    have hi : xs.length ≤ i := List.drop_eq_nil_iff.1 hd
    have h : ¬ ((i : Int) < (xs.length : Int)) := by omega
    simp only [impl_UnpackSet.l0, h, if_false, sumAt, List.all_nil, if_true]
    exact Ev.now _
  | x :: rest, i, acc, hd, hp, hb, ha => by
    refine Ev.succ ?_
    obtain ⟨hi, hx, hr⟩ := drop_cons hd
    have h : ((i : Int) < (xs.length : Int)) := by omega
    have h' : ((i : Int) < ((ints xs).length : Int)) := by rw [ints_length]; omega
    have h0 : (0 : Int) ≤ (i : Int) := by omega
    have h0x : (0 : Int) ≤ (x : Int) := by omega
    have hw : wrap64 ((i : Int) + 1) = ((i + 1 : Nat) : Int) := wrap_in (by omega) (by omega)
    have hrd := rd_ints xs i hi
    rw [hx] at hrd
    simp only [impl_UnpackSet.l0, h, h', h0, h0x, if_true, hrd, hw, ge_iff_le]
    have hp' := List.pairwise_cons.1 hp
    by_cases hxl : x < es.length
    · have h1 : ¬ (((ints es).length : Int) ≤ (x : Int)) := by rw [ints_length]; omega
      have h2 : ((x : Int) < ((ints es).length : Int)) := by rw [ints_length]; omega
      have hre := rd_ints es x hxl
      have he8 : es[x] < 8 := h8 _ (List.getElem_mem hxl)
      have hg : es.getD x 0 = es[x] := by simp [List.getElem?_eq_getElem hxl]
      have hlt : acc < 2 ^ es[x] := by rw [← hg]; exact hb x (by simp) hxl
      have hpw : 2 ^ es[x] ≤ 2 ^ 7 := Nat.pow_le_pow_right (by decide) (by omega)
      have h0e : (0 : Int) ≤ ((es[x] : Nat) : Int) := by omega
      have hs : Go.bits .or .i64 (acc : Int) (shl .i64 1 ((es[x] : Nat) : Int)) = ((acc + 2 ^ es[x] : Nat) : Int) := by
        rw [shl_one _ (by omega), bits_or _ _ (by omega) (by omega), or_pow _ _ hlt]
      simp only [h1, h2, hre, h0e, if_true, if_false, hs]
      have := unpack_loop_i es hl h8 hes xs hx8 rest (i + 1) (acc + 2 ^ es[x]) hr hp'.2 (fun y hy hyl => by
        have hxy : x < y := hp'.1 y hy
        have : es[x] < es[y] := List.pairwise_iff_getElem.1 hes x y hxl hyl hxy
        have hg' : es.getD y 0 = es[y] := by simp [List.getElem?_eq_getElem hyl]
        rw [hg']
        have h3 : 2 ^ (es[x] + 1) ≤ 2 ^ es[y] := Nat.pow_le_pow_right (by decide) this
        have h4 : 2 ^ (es[x] + 1) = 2 ^ es[x] + 2 ^ es[x] := by rw [Nat.pow_succ]; omega
        omega) (by omega)
      simp only [List.all_cons, hxl, decide_true, Bool.true_and, sumAt, hg, ← Nat.add_assoc]
      exact this
    · have h1 : (((ints es).length : Int) ≤ (x : Int)) := by rw [ints_length]; omega
      simp only [h1, if_true, List.all_cons, hxl, decide_false, Bool.false_and, Bool.false_eq_true, if_false]
      exact Ev.now _
theorem sumAt_shift (es : List Nat) (a : Nat) : ∀ l : List Nat, sumAt (a :: es) (l.map (· + 1)) = sumAt es l
  | [] => rfl
  | x :: l => by simp [sumAt, sumAt_shift es a l]

theorem unpackL_shift (p : Nat → Bool) : ∀ (l : List Nat) (k : Nat), unpackL p (k + 1) l = unpackL (fun i => p (i + 1)) k l
  | [], _ => rfl
  | e :: l, k => by simp [unpackL, unpackL_shift p l]

theorem sumAt_range (p : Nat → Bool) : ∀ (es : List Nat) , sumAt es ((List.range es.length).filter p) = unpackL p 0 es := by
  intro es
  induction es generalizing p with
  | nil => rfl
  | cons a es ih =>
    rw [List.length_cons, List.range_succ_eq_map, List.filter_cons]
    have hm : List.filter p (List.map Nat.succ (List.range es.length)) = ((List.range es.length).filter (fun i => p (i + 1))).map (· + 1) := by
      rw [List.filter_map]; rfl
    rw [hm]
    simp only [unpackL, unpackL_shift]
    rw [← ih (fun i => p (i + 1))]
    split
    · simp [sumAt, sumAt_shift]
    · simp [sumAt_shift]

/-- The elements of a set at the places that another tells. -/
def unpackI (s keep : Int) : Nat := if 0 ≤ s ∧ s < 2 ^ (elemsI keep).length then unpackL s.toNat.testBit 0 (elemsI keep) else 0

theorem UnpackSet_i (s keep : Int) : Ev (fun k => impl_UnpackSet.f k s keep) (unpackI s keep) := by
  unfold impl_UnpackSet.f
  refine Ev.bind (ElementsOf_i keep) (Ev.bind (ElementsOf_i s) ?_)
  have hl := elemsI_length keep
  have := unpack_loop_i (elemsI keep) hl (fun e he => mem_elemsI he) (elemsI_pairwise keep) (elemsI s) (elemsI_length s) (elemsI s) 0 0 rfl (elemsI_pairwise s) (fun x _ _ => Nat.two_pow_pos _) (by decide)
  have e : (if (elemsI s).all (· < (elemsI keep).length) then 0 + sumAt (elemsI keep) (elemsI s) else 0) = unpackI s keep := by
    unfold unpackI
    cases hs : isAny s
    · have hel : elemsI s = [] := by simp [elemsI, hs]
      have h' : ¬ (0 ≤ s ∧ s < 256) := by simpa [isAny] using hs
      have hp : (2 : Nat) ^ (elemsI keep).length ≤ 2 ^ 8 := Nat.pow_le_pow_right (by decide) hl
      have : ¬ (0 ≤ s ∧ s < 2 ^ (elemsI keep).length) := fun hh => h' ⟨hh.1, by have := hh.2; rw [show (2 : Int) ^ (elemsI keep).length = ((2 ^ (elemsI keep).length : Nat) : Int) by simp] at this; omega⟩
      simp [hel, this, sumAt]
    · have h' : 0 ≤ s ∧ s < 256 := by simpa [isAny] using hs
      obtain ⟨n, rfl⟩ := Int.eq_ofNat_of_zero_le h'.1
      have hel : elemsI (n : Int) = elems n := by simp [elemsI, hs]
      rw [hel]
      have hcast : ((0 : Int) ≤ (n : Int) ∧ (n : Int) < 2 ^ (elemsI keep).length) ↔ n < 2 ^ (elemsI keep).length := by
        rw [show (2 : Int) ^ (elemsI keep).length = ((2 ^ (elemsI keep).length : Nat) : Int) by simp]; omega
      by_cases hlt : n < 2 ^ (elemsI keep).length
      · have hall : (elems n).all (· < (elemsI keep).length) = true := by
          rw [elems_small n _ hl hlt, List.all_eq_true]
          intro x hx; simp at hx; simp [hx.1]
        rw [if_pos hall, if_pos (hcast.2 hlt), Nat.zero_add, elems_small n _ hl hlt, sumAt_range]; simp
      · have hall : ¬ (elems n).all (· < (elemsI keep).length) = true := fun hh => hlt (lt_of_elems n _ (by omega) (by simpa using hh))
        rw [if_neg hall, if_neg (fun hh => hlt (hcast.1 hh))]
  rw [e] at this
  simpa [ints_length] using this
end Go.Proofs.Ytkmcefhchhahhaa.L
