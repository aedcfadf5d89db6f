/- Several texts of this session in one: Bits, Loops, LSets, Mat, LFamily, LMatroid, LRank, LSortSets, LSum, LLists, LMark, LCase, PuFnExactDirectSum, LawFnExactDirectSum. Conditions: as each theorem says. -/
import Derived.Test.YtkmcefhchhahhaaZDirectSum0
import Derived.Laws.BitsLemmas
import Derived.Test.YtkmcefhchhahhaaZDirectSum2
import Derived.Test.YtkmcefhchhahhaaZDirectSum1
import Derived.Test.YtkmcefhchhahhaaZDirectSum3
import Derived.Test.YtkmcefhchhahhaaRows
import Derived.WalkKit
import Derived.ProofKit
import Derived.OpenShut
import Derived.ShutString
import Derived.ChangeOld
import Derived.Below
import Derived.SizedLaws
import Derived.Lib.SmallJoins
set_option maxRecDepth 100000
section
namespace Go.Proofs.Ytkmcefhchhahhaa.Bits
open Go.Proofs.Ytkmcefhchhahhaa.Mt (sdiff qo)
open Go.RowKit Go.Proofs.YtkmcefhchhahhaaW.PrintWords Go.Proofs.YtkmcefhchhahhaaW.PrintLast Go.Proofs.YtkmcefhchhahhaaW.PrintMore

theorem qR {n : Int} (h0 : -9223372036854775808 ≤ n) (h1 : n < 9223372036854775808) : wrap64 n = n := by unfold wrap64; omega
theorem jY {n : Int} (h0 : -9223372036854775808 ≤ n) (h1 : n < 9223372036854775808) : IntKind.i64.wrap n = n := by rw [IntKind.wrap_i64]; omega
theorem ju {n : Int} (h0 : 0 ≤ n) (h1 : n < 18446744073709551616) : IntKind.u64.wrap n = n := by
  simp [IntKind.wrap, IntKind.bits, IntKind.signed]; omega
theorem jm (a : Nat) (ha : a < 2 ^ 63) : (BitVec.ofInt 64 (a : Int)).toNat = a := by
  simp; omega
theorem Q2 (a b : Nat) (ha : a < 2 ^ 63) (hb : b < 2 ^ 63) : Go.bits .and .i64 (a : Int) (b : Int) = ((a &&& b : Nat) : Int) := by
  have hab : a &&& b < 2 ^ 63 := Nat.and_lt_two_pow _ hb
  show IntKind.i64.wrap (((BitVec.ofInt 64 (a : Int) &&& BitVec.ofInt 64 (b : Int)).toNat : Nat) : Int) = _
  rw [BitVec.toNat_and, jm a ha, jm b hb]
  exact jY (by omega) (by omega)
theorem Z4 (a b : Nat) (ha : a < 2 ^ 63) (hb : b < 2 ^ 63) : Go.bits .or .i64 (a : Int) (b : Int) = ((a ||| b : Nat) : Int) := by
  have hab : a ||| b < 2 ^ 63 := Nat.or_lt_two_pow ha hb
  show IntKind.i64.wrap (((BitVec.ofInt 64 (a : Int) ||| BitVec.ofInt 64 (b : Int)).toNat : Nat) : Int) = _
  rw [BitVec.toNat_or, jm a ha, jm b hb]
  exact jY (by omega) (by omega)
theorem ZH {a b n : Nat} (ha : a < 2 ^ n) : sdiff a b < 2 ^ n := Nat.xor_lt_two_pow ha (Nat.lt_of_le_of_lt Nat.and_le_left ha)
theorem jT (a b : Nat) (ha : a < 2 ^ 63) (hb : b < 2 ^ 63) : Go.bits .andNot .i64 (a : Int) (b : Int) = ((sdiff a b : Nat) : Int) := by
  have hab : sdiff a b < 2 ^ 63 := ZH ha
  show IntKind.i64.wrap (((BitVec.ofInt 64 (a : Int) &&& ~~~ BitVec.ofInt 64 (b : Int)).toNat : Nat) : Int) = _
  have : (BitVec.ofInt 64 (a : Int) &&& ~~~ BitVec.ofInt 64 (b : Int)).toNat = sdiff a b := by
    apply Nat.eq_of_testBit_eq
    intro i
    rw [qo]
    rw [BitVec.toNat_and, Nat.testBit_and, jm a ha]
    by_cases hi : i < 64
    · rw [BitVec.testBit_toNat, BitVec.getLsbD_not, ← BitVec.testBit_toNat, jm b hb]; simp [hi]
    · have : a.testBit i = false := Nat.testBit_lt_two_pow (Nat.lt_of_lt_of_le ha (Nat.pow_le_pow_right (by decide) (by omega)))
      simp [this]
  rw [this]
  exact jY (by omega) (by omega)
theorem j3 (e : Nat) (he : e < 63) : shl .i64 1 (e : Int) = ((2 ^ e : Nat) : Int) := by
  have h : 2 ^ e < 2 ^ 63 := Nat.pow_lt_pow_right (by decide) he
  unfold shl
  rw [Nat.min_eq_left (by simp [IntKind.bits]; omega), Int.one_mul, Int.toNat_natCast]
  rw [show (2 : Int) ^ e = ((2 ^ e : Nat) : Int) by simp]
  generalize 2 ^ e = x at h ⊢
  exact jY (by omega) (by omega)
theorem Jo (a e : Nat) (he : e ≤ 64) : shr .i64 (a : Int) (e : Int) = ((a >>> e : Nat) : Int) := by
  unfold shr
  rw [Nat.min_eq_left (by simp [IntKind.bits]; omega), Int.toNat_natCast, Nat.shiftRight_eq_div_pow]
  simp
theorem Qg (a e : Nat) (ha : a < 2 ^ 63) (he : e ≤ 64) : (Go.bits .and .i64 (shr .i64 (a : Int) (e : Int)) 1 == 1) = a.testBit e := by
  have h1 : a >>> e < 2 ^ 63 := Nat.lt_of_le_of_lt (by rw [Nat.shiftRight_eq_div_pow]; exact Nat.div_le_self _ _) ha
  rw [Jo a e he, show (1 : Int) = ((1 : Nat) : Int) from rfl, Q2 _ _ h1 (by decide)]
  simp only [Nat.testBit, Nat.and_comm 1]
  rcases Nat.mod_two_eq_zero_or_one (a >>> e) with h | h <;> simp [Nat.and_one_is_mod, h] <;> rfl

end Go.Proofs.Ytkmcefhchhahhaa.Bits
end
section
namespace Go.Proofs.Ytkmcefhchhahhaa.L
open Go.RowKit Go.Proofs.YtkmcefhchhahhaaW.PrintWords Go.Proofs.YtkmcefhchhahhaaW.PrintLast Go.Proofs.YtkmcefhchhahhaaW.PrintMore
open Go.Proofs.Ytkmcefhchhahhaa.Bits

theorem Ev.succ {α : Type} {g : Nat → Option α} {r : α} (h : Ev (fun k => g (k + 1)) r) : Ev g r := Ev.step (fun _ => rfl) h
theorem Ev.some {α : Type} {r s : α} (h : r = s) : Ev (fun _ => Option.some r) s := h ▸ Ev.now r
theorem qg {i : Nat} (h : i < 9223372036854775807) : wrap64 ((i : Int) + 1) = ((i + 1 : Nat) : Int) := qR (by omega) (by omega)

/-- A loop that asks of all places, and says no at the first that fails. -/
theorem ZC (L : Nat → Int → Option Bool) (n : Nat) (p : Nat → Bool) (hend : ∀ k, L (k + 1) (n : Int) = some true)
    (hstep : ∀ i, i < n → ∀ k, L (k + 1) (i : Int) = if p i = true then L k ((i + 1 : Nat) : Int) else some false) :
    ∀ d i, i + d = n → Ev (fun k => L k (i : Int)) ((List.range' i d).all p)
  | 0, i, hd => by
    obtain rfl : i = n := by omega
    refine Ev.succ ?_
    simp only [hend]; exact Ev.now _
  | d + 1, i, hd => by
    refine Ev.succ ?_
    rw [List.range'_succ, List.all_cons]
    simp only [hstep i (by omega)]
    cases hp : p i
    · simp only [Bool.false_eq_true, if_false, Bool.false_and]; exact Ev.now _
    · simp only [if_true, Bool.true_and]; exact ZC L n p hend hstep d (i + 1) (by omega)
theorem Qy (L : Nat → Int → Option Bool) (n : Nat) (p : Nat → Bool) (hend : ∀ k, L (k + 1) (n : Int) = some true)
    (hstep : ∀ i, i < n → ∀ k, L (k + 1) (i : Int) = if p i = true then L k ((i + 1 : Nat) : Int) else some false) :
    Ev (fun k => L k 0) ((List.range n).all p) := by
  rw [List.range_eq_range']; exact ZC L n p hend hstep n 0 (by omega)
/-- A loop that gathers: at each place the state takes a step; an invariant goes along. -/
theorem y3 {σ ρ : Type} (L : Nat → σ → Int → Option ρ) (n : Nat) (step : σ → Nat → σ) (inv : Nat → σ → Prop) (fin : σ → ρ)
    (hend : ∀ s, inv n s → Ev (fun k => L (k + 1) s (n : Int)) (fin s))
    (hstep : ∀ i s, i < n → inv i s → inv (i + 1) (step s i) ∧ ∀ r, Ev (fun k => L k (step s i) ((i + 1 : Nat) : Int)) r → Ev (fun k => L (k + 1) s (i : Int)) r) :
    ∀ d i s, i + d = n → inv i s → Ev (fun k => L k s (i : Int)) (fin ((List.range' i d).foldl step s))
  | 0, i, s, hd, hi => by
    obtain rfl : i = n := by omega
    exact Ev.succ (hend s hi)
  | d + 1, i, s, hd, hi => by
    refine Ev.succ ?_
    obtain ⟨h1, h2⟩ := hstep i s (by omega) hi
    exact h2 _ (y3 L n step inv fin hend hstep d (i + 1) (step s i) (by omega) h1)
theorem vt {σ ρ : Type} (L : Nat → σ → Int → Option ρ) (n : Nat) (step : σ → Nat → σ) (inv : Nat → σ → Prop) (fin : σ → ρ)
    (hend : ∀ s, inv n s → Ev (fun k => L (k + 1) s (n : Int)) (fin s))
    (hstep : ∀ i s, i < n → inv i s → inv (i + 1) (step s i) ∧ ∀ r, Ev (fun k => L k (step s i) ((i + 1 : Nat) : Int)) r → Ev (fun k => L (k + 1) s (i : Int)) r) (s : σ) (h : inv 0 s) :
    Ev (fun k => L k s 0) (fin ((List.range n).foldl step s)) := by
  rw [List.range_eq_range']; exact y3 L n step inv fin hend hstep n 0 s (by omega) h

/-- A loop that gathers, and what stands behind it. -/
theorem jR {σ ρ : Type} (L : Nat → σ → Int → Option ρ) (n : Nat) (step : σ → Nat → σ) (inv : Nat → σ → Prop)
    (hstep : ∀ i s, i < n → inv i s → inv (i + 1) (step s i) ∧ ∀ r, Ev (fun k => L k (step s i) ((i + 1 : Nat) : Int)) r → Ev (fun k => L (k + 1) s (i : Int)) r) (s : σ) (h : inv 0 s) :
    inv n ((List.range n).foldl step s) ∧ ∀ r, Ev (fun k => L k ((List.range n).foldl step s) (n : Int)) r → Ev (fun k => L k s 0) r := by
  have key : ∀ d i s, i + d = n → inv i s → inv n ((List.range' i d).foldl step s) ∧ ∀ r, Ev (fun k => L k ((List.range' i d).foldl step s) (n : Int)) r → Ev (fun k => L k s (i : Int)) r := by
    intro d
    induction d with
    | zero => intro i s hd hi; obtain rfl : i = n := by omega
              exact ⟨hi, fun r h => h⟩
    | succ d ih =>
      intro i s hd hi
      obtain ⟨h1, h2⟩ := hstep i s (by omega) hi
      obtain ⟨h3, h4⟩ := ih (i + 1) (step s i) (by omega) h1
      rw [List.range'_succ, List.foldl_cons]
      exact ⟨h3, fun r h => Ev.succ (h2 r (h4 r h))⟩
  rw [List.range_eq_range']
  exact key n 0 s (by omega) h
/-- A loop from its end back: what a place makes of the answer of what follows. -/
theorem qI {ρ : Type} (L : Nat → Int → Option ρ) (n : Nat) (f : Nat → ρ → ρ) (last : ρ) (hend : Ev (fun k => L (k + 1) (n : Int)) last)
    (hstep : ∀ i, i < n → ∀ r, Ev (fun k => L k ((i + 1 : Nat) : Int)) r → Ev (fun k => L (k + 1) (i : Int)) (f i r)) : Ev (fun k => L k 0) ((List.range n).foldr f last) := by
  have key : ∀ d i, i + d = n → Ev (fun k => L k (i : Int)) ((List.range' i d).foldr f last) := by
    intro d
    induction d with
    | zero => intro i hd; obtain rfl : i = n := by omega
              exact Ev.succ hend
    | succ d ih =>
      intro i hd
      rw [List.range'_succ, List.foldr_cons]
      exact Ev.succ (hstep i (by omega) _ (ih (i + 1) (by omega)))
  rw [List.range_eq_range']
  exact key n 0 (by omega)
theorem vJ {α : Type} (p : α → Bool) (r : Bool) : ∀ l : List α, l.foldr (fun i r => p i && r) r = (l.all p && r)
  | [] => by simp
  | a :: l => by rw [List.foldr_cons, List.all_cons, vJ p r l, Bool.and_assoc]
theorem vU {α : Type} (p : α → Bool) (r : Bool) : ∀ l : List α, l.foldr (fun i r => p i || r) r = (l.any p || r)
  | [] => by simp
  | a :: l => by rw [List.foldr_cons, List.any_cons, vU p r l, Bool.or_assoc]
theorem q4 (l : List Int) (j : Nat) : rd l (j : Int) = l.getD j 0 := by simp [rd]
end Go.Proofs.Ytkmcefhchhahhaa.L
end
section
namespace Go.Proofs.Ytkmcefhchhahhaa.L
open Go.RowKit Go.Proofs.Ytkmcefhchhahhaa.F Go.Proofs.YtkmcefhchhahhaaW.PrintWords Go.Proofs.YtkmcefhchhahhaaW.PrintLast Go.Proofs.YtkmcefhchhahhaaW.PrintMore
open Go.Proofs.Ytkmcefhchhahhaa.Bits
open Go.Proofs.Ytkmcefhchhahhaa.Mt (sdiff qo elems qJ)

def ints (l : List Nat) : List Int := l.map fun x : Nat => (x : Int)
theorem Z7 (l : List Nat) (j : Nat) (h : j < l.length) : rd (ints l) (j : Int) = ((l[j]'h : Nat) : Int) := by
  simp [rd, ints, List.getElem?_eq_getElem h]
theorem zO (l : List Nat) : (ints l).length = l.length := by simp [ints]
theorem vE (s : Nat) : (elems s).length ≤ 8 := by
  have := List.length_filter_le s.testBit (List.range 8); simpa [elems] using this
/-- A number that is a set of eight elements. -/
def isAny (s : Int) : Bool := decide (0 ≤ s ∧ s < 256)

theorem Ja (s : Int) : qC.f s = some (isAny s) := by
  unfold qC.f isAny
  split <;> simp <;> omega

theorem l1In (x a b : Int) : qm.f x a b = some (decide (a ≤ x ∧ x ≤ b)) := by
  unfold qm.f
  split <;> simp <;> omega

theorem Je (n s : Int) : ql.f n s = some (decide (0 ≤ n ∧ n ≤ 8 ∧ 0 ≤ s ∧ s < 2 ^ n.toNat)) := by
  unfold ql.f
  simp only [l1In, Option.bind_some, decide_eq_true_eq]
  split
  · rename_i h
    obtain ⟨m, rfl⟩ := Int.eq_ofNat_of_zero_le h.1
    have hm : m ≤ 8 := by omega
    have hp : (2 : Nat) ^ m ≤ 2 ^ 8 := Nat.pow_le_pow_right (by decide) hm
    rw [ju (by omega) (by omega), j3 m (by omega), if_pos (by omega)]
    rw [qR (by generalize 2 ^ m = x at hp ⊢; omega) (by generalize 2 ^ m = x at hp ⊢; omega)]
    simp only [Int.toNat_natCast, Option.some.injEq, decide_eq_decide]
    have : (2 : Int) ^ m = ((2 ^ m : Nat) : Int) := by simp
    rw [this]
    generalize 2 ^ m = x at hp ⊢
    omega
  · simp; omega

theorem ZD (n : Int) : qw.f n = some (decide (0 ≤ n ∧ n ≤ 8)) := by
  unfold qw.f
  split <;> simp <;> omega
theorem Ju (n s : Int) : qL.f n s = some (decide (0 ≤ n ∧ n ≤ 8 ∧ 0 ≤ s ∧ s < 2 ^ n.toNat)) := by
  unfold qL.f
  rw [ZD]
  simp only [Option.bind_some, decide_eq_true_eq]
  by_cases h : 0 ≤ n ∧ n ≤ 8
  · rw [if_pos h]
    by_cases hs : s ≥ 0
    · rw [if_pos hs, if_pos h.1]
      obtain ⟨m, rfl⟩ := Int.eq_ofNat_of_zero_le h.1
      rw [j3 m (by omega)]
      simp only [Int.toNat_natCast, Option.some.injEq, decide_eq_decide]
      have : (2 : Int) ^ m = ((2 ^ m : Nat) : Int) := by simp
      rw [this]
      generalize 2 ^ m = x
      omega
    · rw [if_neg hs]; simp; omega
  · rw [if_neg h]; simp; omega
theorem Zm (s e : Int) : qz.f s e = some (isAny s && decide (0 ≤ e ∧ e < 8) && s.toNat.testBit e.toNat) := by
  unfold qz.f
  rw [Ja]
  simp only [Option.bind_some]
  cases hs : isAny s
  · simp
  · rw [if_pos rfl]
    have hs' : 0 ≤ s ∧ s < 256 := by simpa [isAny] using hs
    by_cases h0 : e ≥ 0
    · rw [if_pos h0]
      by_cases h8 : e < 8
      · obtain ⟨a, rfl⟩ := Int.eq_ofNat_of_zero_le hs'.1
        obtain ⟨b, rfl⟩ := Int.eq_ofNat_of_zero_le h0
        rw [if_pos h8, if_pos h0, Qg _ _ (by omega) (by omega)]
        simp; omega
      · rw [if_neg h8]; simp; omega
    · rw [if_neg h0]; simp; omega

/-- The elements of a number: none where it is no set. -/
def yC (s : Int) : List Nat := if isAny s then elems s.toNat else []

theorem vp (s : Int) (L : Nat → List Int → Int → Option (List Int))
    (hL : ∀ k (acc : List Int) (i : Nat), L (k + 1) acc i = if (i : Int) < 8 then (if (isAny s && decide (0 ≤ (i : Int) ∧ (i : Int) < 8) && s.toNat.testBit (i : Int).toNat) = true then (if acc.length < 17592186044416 then L k (acc ++ [(i : Int)]) (wrap64 ((i : Int) + 1)) else none) else L k acc (wrap64 ((i : Int) + 1))) else some acc) :
    ∀ (d i : Nat) (acc : List Int), i + d = 8 → acc.length ≤ i → Ev (fun k => L k acc i) (acc ++ ints ((List.range' i d).filter fun e => isAny s && s.toNat.testBit e))
  | 0, i, acc, hd, _ => by
    obtain rfl : i = 8 := by omega
    refine Ev.succ ?_
    simp only [hL, show ¬ (((8 : Nat) : Int) < 8) by decide, if_false]
    simpa [ints] using Ev.now acc
  | d + 1, i, acc, hd, ha => by
    refine Ev.succ ?_
    have h8 : (i : Int) < 8 := by omega
    have hw : wrap64 ((i : Int) + 1) = ((i + 1 : Nat) : Int) := qR (by omega) (by omega)
    simp only [hL, h8, hw, if_true, Int.toNat_natCast, Int.natCast_nonneg, decide_true, Bool.and_true, and_self]
    rw [List.range'_succ]
    cases hb : (isAny s && s.toNat.testBit i)
    · simp only [hb, List.filter_cons, Bool.false_eq_true, if_false]
      exact vp s L hL d (i + 1) acc (by omega) (by omega)
    · simp only [hb, List.filter_cons, if_true, show acc.length < 17592186044416 by omega]
      have := vp s L hL d (i + 1) (acc ++ [(i : Int)]) (by omega) (by simp; omega)
      simpa [ints] using this

theorem Qr (s : Int) : (List.range' 0 8).filter (fun e => isAny s && s.toNat.testBit e) = yC s := by
  unfold yC elems
  rw [List.range_eq_range']
  cases isAny s <;> simp

theorem vv (s : Int) : Ev (fun k => zG.f k s) (ints (yC s)) := by
  have := vp s (fun k acc i => zG.l0 k s acc i) (fun k acc i => by simp only [zG.l0, Zm, Option.bind_some]) 8 0 [] rfl (by simp)
  rw [Qr] at this
  simpa [zG.f] using this

end Go.Proofs.Ytkmcefhchhahhaa.L
end
section
namespace Go.Proofs.Ytkmcefhchhahhaa.Mt
theorem yo (a b i : Nat) : (a ||| b).testBit i = (a.testBit i || b.testBit i) := Nat.testBit_or a b i
theorem yi (a b i : Nat) : (a &&& b).testBit i = (a.testBit i && b.testBit i) := Nat.testBit_and a b i
theorem y9 (e i : Nat) : (2 ^ e).testBit i = decide (e = i) := by
  rw [Nat.testBit_two_pow]
theorem Q6 (i : Nat) : (0 : Nat).testBit i = false := Nat.zero_testBit i
theorem ext {a b : Nat} (h : ∀ i, a.testBit i = b.testBit i) : a = b := Nat.eq_of_testBit_eq h
/-- s with e; s without e. -/
def ins (s e : Nat) : Nat := s ||| 2 ^ e
def del (s e : Nat) : Nat := sdiff s (2 ^ e)
theorem yj (s e i : Nat) : (ins s e).testBit i = (s.testBit i || decide (e = i)) := by rw [ins, yo, y9]
theorem jz (s e i : Nat) : (del s e).testBit i = (s.testBit i && !decide (e = i)) := by rw [del, qo, y9]
def sub (a b : Nat) : Prop := ∀ i, a.testBit i = true → b.testBit i = true
theorem ZL {a b : Nat} : sub a b ↔ a &&& b = a := by
  constructor
  · intro h; apply ext; intro i; rw [yi]; have := h i; cases ha : a.testBit i <;> simp_all
  · intro h i hi; have := congrArg (fun x => Nat.testBit x i) h; simp only [yi, hi, Bool.true_and] at this; exact this
theorem Jh (s e : Nat) : sub (del s e) s := fun i hi => by rw [jz] at hi; simp at hi; exact hi.1
theorem Z5 {a b : Nat} (h : ¬ sub a b) : ∃ i, a.testBit i = true ∧ b.testBit i = false := by
  apply Classical.byContradiction
  intro hn; apply h; intro i hi
  cases hb : b.testBit i
  · exact absurd ⟨i, hi, hb⟩ hn
  · rfl
theorem vH {s n i : Nat} (h : s < 2 ^ n) (hi : s.testBit i = true) : i < n := by
  rcases Nat.lt_or_ge i n with h' | h'
  · exact h'
  · rw [Nat.testBit_lt_two_pow (Nat.lt_of_lt_of_le h (Nat.pow_le_pow_right (by decide) h'))] at hi; cases hi
theorem QE {a b : Nat} (h : sub a b) : a ≤ b := by rw [ZL] at h; rw [← h]; exact Nat.and_le_right
/-- All elements below n. -/
def full (n : Nat) : Nat := 2 ^ n - 1
def cnt (s : Nat) : Nat := (List.range 8).countP s.testBit
theorem vm (p q : Nat → Bool) : ∀ l : List Nat, l.countP (fun i => p i || q i) + l.countP (fun i => p i && q i) = l.countP p + l.countP q
  | [] => rfl
  | a :: l => by
    have := vm p q l
    simp only [List.countP_cons]
    cases p a <;> cases q a <;> simp <;> omega
theorem ZW (a b : Nat) : cnt (a ||| b) + cnt (a &&& b) = cnt a + cnt b := by
  have := vm a.testBit b.testBit (List.range 8)
  simp only [cnt]
  rw [show Nat.testBit (a ||| b) = fun i => a.testBit i || b.testBit i from funext (yo a b), show Nat.testBit (a &&& b) = fun i => a.testBit i && b.testBit i from funext (yi a b)]
  exact this
theorem QU {a b : Nat} (h : sub a b) : cnt a ≤ cnt b := List.countP_mono_left fun i _ hi => h i hi
theorem QQ : cnt 0 = 0 := by decide
theorem Q4 (s : Nat) : cnt s ≤ 8 := by have := List.countP_le_length (p := s.testBit) (l := List.range 8); simpa [cnt] using this
theorem Zh {a b : Nat} (h : a &&& b = 0) : cnt (a ||| b) = cnt a + cnt b := by have := ZW a b; rw [h, QQ] at this; omega
theorem Jf {e : Nat} (h : e < 8) : cnt (2 ^ e) = 1 := by
  have : ∀ e, e < 8 → cnt (2 ^ e) = 1 := by decide
  exact this e h
theorem Qk {s e : Nat} (he : e < 8) (h : s.testBit e = false) : cnt (ins s e) = cnt s + 1 := by
  have : s &&& 2 ^ e = 0 := ext fun i => by
    rw [yi, y9, Q6]; by_cases hi : e = i
    · subst hi; simp [h]
    · simp [hi]
  rw [ins, Zh this, Jf he]
theorem y8 {s e : Nat} (he : e < 8) (h : s.testBit e = true) : cnt (del s e) + 1 = cnt s := by
  have k : ins (del s e) e = s := ext fun i => by
    rw [yj, jz]; by_cases hi : e = i
    · subst hi; simp [h]
    · simp [hi]
  have := Qk (s := del s e) he (by simp [jz])
  rw [k] at this; omega
/-- The bases of a matroid of n elements: by exchange. -/
structure Mat (n : Nat) (B : List Nat) : Prop where
  size : n ≤ 8
  lt : ∀ b ∈ B, b < 2 ^ n
  ne : B ≠ []
  ex : ∀ a ∈ B, ∀ b ∈ B, ∀ e, a.testBit e = true → b.testBit e = false → ∃ f, b.testBit f = true ∧ a.testBit f = false ∧ ins (del a e) f ∈ B
section
variable {n : Nat} {B : List Nat}
theorem jX {s n : Nat} (hn : n ≤ 8) (h : s < 2 ^ n) : s < 256 := Nat.lt_of_lt_of_le h (Nat.pow_le_pow_right (n := 2) (by decide) hn)
theorem Mat.lt8 (M : Mat n B) {b : Nat} (h : b ∈ B) : b < 256 := jX M.size (M.lt b h)
theorem Mat.JG (M : Mat n B) {b e : Nat} (h : b ∈ B) (he : b.testBit e = true) : e < 8 := vH (n := 8) (M.lt8 h) he
theorem QW {a e f : Nat} (ha : a < 256) (hf8 : f < 8) (he : a.testBit e = true) (hf : a.testBit f = false) : cnt (ins (del a e) f) = cnt a := by
  have h8 : e < 8 := vH (n := 8) ha he
  have h1 := y8 h8 he
  have h2 := Qk (s := del a e) hf8 (by rw [jz, hf]; rfl)
  omega
theorem Mat.le (M : Mat n B) : ∀ k a b, a ∈ B → b ∈ B → cnt (sdiff a b) = k → cnt a ≤ cnt b := by
  intro k
  induction k using Nat.strongRecOn with
  | _ k ih =>
    intro a b ha hb hk
    by_cases hs : sub a b
    · exact QU hs
    · obtain ⟨e, he, heb⟩ := Z5 hs
      obtain ⟨f, hfb, hfa, hin⟩ := M.ex a ha b hb e he heb
      have e8 := M.JG ha he
      have f8 := M.JG hb hfb
      have hsw := QW (M.lt8 ha) f8 he hfa
      have hd : sdiff (ins (del a e) f) b = del (sdiff a b) e := ext fun i => by
        simp only [qo, yj, jz]
        by_cases hi : f = i
        · subst hi; simp [hfb]
        · simp only [hi, decide_false, Bool.or_false]; cases a.testBit i <;> cases b.testBit i <;> simp
      have hc := y8 (s := sdiff a b) e8 (by rw [qo, he, heb]; rfl)
      have := ih (cnt (del (sdiff a b) e)) (by omega) (ins (del a e) f) b hin hb (by rw [hd])
      omega
/-- The rank of s: the most that a base has of it. -/
def rk (B : List Nat) (s : Nat) : Nat := B.foldl (fun m b => max m (cnt (s &&& b))) 0
/-- A set within a base. -/
def ind (B : List Nat) (s : Nat) : Prop := ∃ b ∈ B, sub s b
/-- What is within a base grows to a base by elements of any other. -/
theorem Mat.grow (M : Mat n B) {I c : Nat} (hI : ind B I) (hc : c ∈ B) : ∃ b ∈ B, sub I b ∧ sub b (I ||| c) := by
  obtain ⟨b0, hb0, hs0⟩ := hI
  have key : ∀ k b, b ∈ B → sub I b → cnt (sdiff b (I ||| c)) = k → ∃ b ∈ B, sub I b ∧ sub b (I ||| c) := by
    intro k
    induction k using Nat.strongRecOn with
    | _ k ih =>
      intro b hb hs hk
      by_cases hh : sub b (I ||| c)
      · exact ⟨b, hb, hs, hh⟩
      · obtain ⟨e, he, hn⟩ := Z5 hh
        rw [yo] at hn
        have hn' := Bool.or_eq_false_iff.1 hn
        obtain ⟨f, hfc, hfb, hin⟩ := M.ex b hb c hc e he hn'.2
        have hd : sdiff (ins (del b e) f) (I ||| c) = del (sdiff b (I ||| c)) e := ext fun i => by
          simp only [qo, yj, jz, yo]
          by_cases hi : f = i
          · subst hi; simp [hfc]
          · simp only [hi, decide_false, Bool.or_false]; cases b.testBit i <;> cases I.testBit i <;> cases c.testBit i <;> simp
        have h1 := y8 (s := sdiff b (I ||| c)) (M.JG hb he) (by rw [qo, he, yo, hn]; rfl)
        refine ih _ (by rw [hd]; omega) _ hin (fun i hi => ?_) rfl
        rw [yj, jz, hs i hi]
        have : e ≠ i := fun h => by subst h; rw [hi] at hn'; exact absurd hn'.1 (by simp)
        simp [this]
  exact key _ b0 hb0 hs0 rfl
end
end Go.Proofs.Ytkmcefhchhahhaa.Mt
end
section
namespace Go.Proofs.Ytkmcefhchhahhaa.L
open Go.RowKit Go.Proofs.Ytkmcefhchhahhaa.F Go.Proofs.YtkmcefhchhahhaaW.PrintWords Go.Proofs.YtkmcefhchhahhaaW.PrintLast Go.Proofs.YtkmcefhchhahhaaW.PrintMore
open Go.Proofs.Ytkmcefhchhahhaa.Bits
open Go.Proofs.Ytkmcefhchhahhaa.Mt (sdiff qo elems qJ cnt Q4 full)
set_option linter.unusedSimpArgs false
set_option linter.unusedVariables false
theorem yP (l : List Int) (x : Int) : ((List.range l.length).any fun i => decide (l.getD i 0 = x)) = decide (x ∈ l) := by
  rw [Bool.eq_iff_iff]
  simp only [List.any_eq_true, List.mem_range, decide_eq_true_eq]
  constructor
  · rintro ⟨i, hi, h⟩
    rw [← h, List.getD_eq_getElem?_getD, List.getElem?_eq_getElem hi]; exact List.getElem_mem hi
  · intro h
    obtain ⟨i, hi, he⟩ := List.getElem_of_mem h
    exact ⟨i, hi, by rw [List.getD_eq_getElem?_getD, List.getElem?_eq_getElem hi]; exact he⟩
theorem Q5 (l : List Int) (x : Int) (hl : l.length ≤ 17592186044416) : Ev (fun k => zS.f k l x) (decide (x ∈ l)) := by
  unfold zS.f
  have h := qI (fun k i => zS.l0 k l x i) l.length (fun i r => decide (l.getD i 0 = x) || r) false
    (by simp only [zS.l0, show ¬ ((l.length : Int) < (l.length : Int)) by omega, if_false]; exact Ev.now _) fun i hi r hr => by
      simp only [zS.l0, show ((i : Int) < (l.length : Int)) by omega, show (0 : Int) ≤ (i : Int) by omega, if_true, q4, qg (show i < 9223372036854775807 by omega)]
      by_cases h : l.getD i 0 = x
      · simp only [h, if_true, decide_true, Bool.true_or]; exact Ev.now _
      · simp only [h, if_false, decide_false, Bool.false_or]; exact hr
  rw [vU, Bool.or_false, yP] at h
  exact h
theorem QK (l : List Int) (x : Int) (hl : l.length ≤ 17592186044416) : Ev (fun k => qY.f k l x) (decide (x ∈ l)) := by
  unfold qY.f qk.f zM.f
  have key : ∃ r : Int, Ev (fun k => zM.l0 k l x (l.length : Int) 0) r ∧ decide (r ≥ 0) = decide (x ∈ l) := by
    refine ⟨(List.range l.length).foldr (fun i r => if x = l.getD i 0 then (i : Int) else r) (-1), ?_, ?_⟩
    · refine qI (fun k i => zM.l0 k l x (l.length : Int) i) l.length _ (-1) ?_ fun i hi r hr => ?_
      · simp only [zM.l0, show ¬ ((l.length : Int) < (l.length : Int)) by omega, if_false]; exact Ev.now _
      · simp only [zM.l0, show ((i : Int) < (l.length : Int)) by omega, show (0 : Int) ≤ (i : Int) by omega, if_true, q4, qg (show i < 9223372036854775807 by omega)]
        by_cases h : x = l.getD i 0
        · rw [if_pos h]; simp only [if_pos h]; exact Ev.now _
        · rw [if_neg h]; simp only [if_neg h]; exact hr
    · have hh : ∀ L : List Nat, (0 ≤ L.foldr (fun i r => if x = l.getD i 0 then (i : Int) else r) (-1)) ↔ (L.any fun i => decide (l.getD i 0 = x)) = true := by
        intro L
        induction L with
        | nil => simp
        | cons i t ih =>
          simp only [List.foldr_cons, List.any_cons, Bool.or_eq_true, decide_eq_true_eq]
          by_cases h : x = l.getD i 0
          · simp only [if_pos h]; exact ⟨fun _ => .inl h.symm, fun _ => by omega⟩
          · simp only [if_neg h]; rw [ih]; exact ⟨.inr, fun hh => hh.elim (fun e => absurd e.symm h) id⟩
      rw [← yP, Bool.eq_iff_iff, decide_eq_true_eq]
      exact hh _
  obtain ⟨r, hr, e⟩ := key
  refine Ev.bind (Ev.bind hr (Ev.now _)) ?_
  rw [← e]; exact Ev.now _
def vS (n s : Int) : Bool := decide (0 ≤ n ∧ n ≤ 8 ∧ 0 ≤ s ∧ s < 2 ^ n.toNat)
def jr (n : Int) (l : List Int) : Bool := ((List.range l.length).all fun i => vS n (l.getD i 0) && (decide (i = 0) || decide (l.getD (i - 1) 0 < l.getD i 0))) && decide (0 ≤ n ∧ n ≤ 8)
theorem yY {i : Nat} (h : i < 9223372036854775807) (h0 : 0 < i) : wrap64 ((i : Int) - 1) = ((i - 1 : Nat) : Int) := by rw [qR (by omega) (by omega)]; omega
theorem ZV (n : Int) (l : List Int) (hl : l.length ≤ 17592186044416) : Ev (fun k => zK.f k n l) (jr n l) := by
  unfold zK.f
  have h := qI (fun k i => zK.l0 k n l i) l.length (fun i r => (vS n (l.getD i 0) && (decide (i = 0) || decide (l.getD (i - 1) 0 < l.getD i 0))) && r) (decide (0 ≤ n ∧ n ≤ 8))
    (by simp only [zK.l0, show ¬ ((l.length : Int) < (l.length : Int)) by omega, if_false, l1In, Option.bind_some]; exact Ev.now _) fun i hi r hr => by
      simp only [zK.l0, show ((i : Int) < (l.length : Int)) by omega, show (0 : Int) ≤ (i : Int) by omega, if_true, q4, Je, Option.bind_some, decide_eq_true_eq, qg (show i < 9223372036854775807 by omega)]
      unfold vS
      by_cases hs : 0 ≤ n ∧ n ≤ 8 ∧ 0 ≤ l.getD i 0 ∧ l.getD i 0 < 2 ^ n.toNat
      · simp only [hs, and_self, if_true, decide_true, Bool.true_and]
        by_cases h0 : i = 0
        · subst h0
          simp only [show ¬ (((0 : Nat) : Int) > 0) by omega, if_false, decide_true, Bool.true_or, Bool.true_and]; exact hr
        · simp only [show ((i : Int) > 0) by omega, if_true, yY (show i < 9223372036854775807 by omega) (Nat.pos_of_ne_zero h0), show (0 : Int) ≤ ((i - 1 : Nat) : Int) by omega, show ((i - 1 : Nat) : Int) < (l.length : Int) by omega, q4, h0, decide_false, Bool.false_or]
          by_cases hc : l.getD (i - 1) 0 < l.getD i 0
          · simp only [show ¬ (l.getD (i - 1) 0 ≥ l.getD i 0) by omega, if_false, hc, decide_true, Bool.true_and]; exact hr
          · simp only [show (l.getD (i - 1) 0 ≥ l.getD i 0) by omega, if_true, hc, decide_false, Bool.false_and]; exact Ev.now _
      · simp only [if_neg hs, decide_eq_false hs, Bool.false_and]; exact Ev.now _
  rw [vJ] at h
  exact h
theorem ZU (n : Int) (l : List Int) (hl : l.length ≤ 17592186044416) : Ev (fun k => zL.f k n l) (jr n l) := by
  unfold zL.f
  have h := qI (fun k i => zL.l0 k n l l (l.length : Int) i) l.length (fun i r => (vS n (l.getD i 0) && (decide (i = 0) || decide (l.getD (i - 1) 0 < l.getD i 0))) && r) (decide (0 ≤ n ∧ n ≤ 8))
    (by simp only [zL.l0, show ¬ ((l.length : Int) < (l.length : Int)) by omega, if_false, ZD, Option.bind_some]; exact Ev.now _) fun i hi r hr => by
      simp only [zL.l0, show ((i : Int) < (l.length : Int)) by omega, show (0 : Int) ≤ (i : Int) by omega, if_true, q4, Ju, Option.bind_some, decide_eq_true_eq, qg (show i < 9223372036854775807 by omega)]
      unfold vS
      by_cases hs : 0 ≤ n ∧ n ≤ 8 ∧ 0 ≤ l.getD i 0 ∧ l.getD i 0 < 2 ^ n.toNat
      · simp only [hs, and_self, if_true, decide_true, Bool.true_and]
        by_cases h0 : i = 0
        · subst h0
          simp only [show ¬ (((0 : Nat) : Int) > 0) by omega, if_false, decide_true, Bool.true_or, Bool.true_and]; exact hr
        · simp only [show ((i : Int) > 0) by omega, if_true, yY (show i < 9223372036854775807 by omega) (Nat.pos_of_ne_zero h0), show (0 : Int) ≤ ((i - 1 : Nat) : Int) by omega, show ((i - 1 : Nat) : Int) < (l.length : Int) by omega, q4, h0, decide_false, Bool.false_or]
          by_cases hc : l.getD (i - 1) 0 < l.getD i 0
          · simp only [show ¬ (l.getD i 0 ≤ l.getD (i - 1) 0) by omega, if_false, hc, decide_true, Bool.true_and]; exact hr
          · simp only [show (l.getD i 0 ≤ l.getD (i - 1) 0) by omega, if_true, hc, decide_false, Bool.false_and]; exact Ev.now _
      · simp only [if_neg hs, decide_eq_false hs, Bool.false_and]; exact Ev.now _
  rw [vJ] at h
  exact h
/-- What a family holds, in natural numbers. -/
theorem vR {n : Int} {l : List Int} (h : jr n l = true) : ∃ (N : Nat) (B : List Nat), n = N ∧ N ≤ 8 ∧ l = ints B ∧ (∀ b ∈ B, b < 2 ^ N) ∧ B.Pairwise (· < ·) := by
  unfold jr at h
  simp only [Bool.and_eq_true, decide_eq_true_eq, List.all_eq_true, List.mem_range, Bool.or_eq_true] at h
  obtain ⟨h1, h2, h3⟩ := h
  obtain ⟨N, rfl⟩ := Int.eq_ofNat_of_zero_le h2
  have hset : ∀ i (hi : i < l.length), 0 ≤ l[i] ∧ l[i] < 2 ^ N := fun i hi => by
    have := (h1 i hi).1
    simp only [vS, decide_eq_true_eq, Int.toNat_natCast, List.getD_eq_getElem?_getD, List.getElem?_eq_getElem hi, Option.getD_some] at this
    exact ⟨this.2.2.1, this.2.2.2⟩
  have hstep : ∀ i (hi : i + 1 < l.length), l[i] < l[i + 1] := fun i hi => by
    have := (h1 (i + 1) hi).2
    simp only [Nat.succ_ne_zero, false_or, Nat.add_sub_cancel, List.getD_eq_getElem?_getD, List.getElem?_eq_getElem hi, List.getElem?_eq_getElem (show i < l.length by omega), Option.getD_some] at this
    exact this
  have hlt : ∀ j (hj : j < l.length) i (hi : i < j), l[i] < l[j] := by
    intro j
    induction j with
    | zero => intro _ i hi; omega
    | succ j ih =>
      intro hj i hi
      by_cases e : i = j
      · subst e; exact hstep i hj
      · exact Int.lt_trans (ih (by omega) i (by omega)) (hstep j hj)
  refine ⟨N, l.map Int.toNat, rfl, by omega, ?_, ?_, ?_⟩
  · apply List.ext_getElem (by simp [ints])
    intro i h1 h2
    have := (hset i h1).1
    simp [ints]; omega
  · intro b hb
    obtain ⟨x, hx, rfl⟩ := List.mem_map.1 hb
    obtain ⟨i, hi, rfl⟩ := List.getElem_of_mem hx
    have := hset i hi
    have e : (2 : Int) ^ N = ((2 ^ N : Nat) : Int) := by simp
    rw [e] at this
    generalize 2 ^ N = y at this ⊢
    omega
  · rw [List.pairwise_iff_getElem]
    intro i j hi hj hij
    simp only [List.length_map] at hi hj
    have := hlt j hj i hij
    have := (hset i hi).1
    simp only [List.getElem_map]; omega
end Go.Proofs.Ytkmcefhchhahhaa.L
end
section
namespace Go.Proofs.Ytkmcefhchhahhaa.L
open Go.RowKit Go.Proofs.Ytkmcefhchhahhaa.F Go.Proofs.YtkmcefhchhahhaaW.PrintWords Go.Proofs.YtkmcefhchhahhaaW.PrintLast Go.Proofs.YtkmcefhchhahhaaW.PrintMore
open Go.Proofs.Ytkmcefhchhahhaa.Bits
open Go.Proofs.Ytkmcefhchhahhaa.Mt (sdiff qo elems qJ cnt full ins del Mat jX)
set_option linter.unusedSimpArgs false
set_option linter.unusedVariables false
theorem Jl : ∀ a : Nat, a < 256 → ∀ e : Nat, e < 8 → a.testBit e = true → del a e + 2 ^ e = a := by decide +kernel
theorem Jb : ∀ a : Nat, a < 256 → ∀ f : Nat, f < 8 → a.testBit f = false → ins a f = a + 2 ^ f := by decide +kernel
theorem QX {a e : Nat} (h : a < 256) : del a e < 256 := Nat.lt_of_le_of_lt (Mt.QE (Mt.Jh a e)) h
theorem ZI {B : List Nat} {x : Nat} : ((x : Int) ∈ ints B) ↔ x ∈ B := by
  simp only [ints, List.mem_map]
  constructor
  · rintro ⟨y, hy, e⟩
    have : y = x := by omega
    rw [← this]; exact hy
  · intro h; exact ⟨x, h, rfl⟩
/-- Some element of b can be put for e in a. -/
def vq (B : List Nat) (a b e : Nat) : Bool := (elems (sdiff b a)).any fun f => decide (ins (del a e) f ∈ B)
theorem ZT {B : List Nat} {N a b e : Nat} (hN : N ≤ 8) (hb : b < 2 ^ N) : vq B a b e = (List.range N).any fun f => b.testBit f && (!a.testBit f && decide (ins (del a e) f ∈ B)) := by
  unfold vq
  rw [Bool.eq_iff_iff]
  simp only [List.any_eq_true, qJ, List.mem_range, qo, Bool.and_eq_true, Bool.not_eq_true', decide_eq_true_eq]
  constructor
  · rintro ⟨f, ⟨_, h1, h2⟩, h3⟩; exact ⟨f, Mt.vH hb h1, h1, h2, h3⟩
  · rintro ⟨f, h0, h1, h2, h3⟩; exact ⟨f, ⟨by omega, h1, h2⟩, h3⟩
def JK (B : List Nat) : Bool := B.all fun a => B.all fun b => (elems (sdiff a b)).all fun e => vq B a b e
def qB (n : Int) (l : List Int) : Bool := jr n l && decide (0 < l.length) && JK (l.map Int.toNat)
theorem jv (B : List Nat) : (ints B).map Int.toNat = B := by
  simp only [ints, List.map_map]
  induction B with
  | nil => rfl
  | cons x t ih => simp only [List.map_cons, ih]; rfl
/-- What a matroid holds. -/
theorem vk {n : Int} {l : List Int} (h : qB n l = true) : ∃ (N : Nat) (B : List Nat), n = N ∧ l = ints B ∧ B.Pairwise (· < ·) ∧ Mat N B := by
  unfold qB at h
  simp only [Bool.and_eq_true, decide_eq_true_eq] at h
  obtain ⟨⟨h1, h2⟩, h3⟩ := h
  obtain ⟨N, B, rfl, hN, rfl, hB, hp⟩ := vR h1
  rw [jv] at h3
  refine ⟨N, B, rfl, rfl, hp, ⟨hN, hB, ?_, ?_⟩⟩
  · intro e; rw [e] at h2; simp [ints] at h2
  · intro a ha b hb e he hbe
    have h4 := List.all_eq_true.1 (List.all_eq_true.1 (List.all_eq_true.1 h3 a ha) b hb) e (qJ.2 ⟨Mt.vH (n := 8) (jX hN (hB a ha)) he, by rw [qo, he, hbe]; rfl⟩)
    simp only [vq, List.any_eq_true, qJ, qo, Bool.and_eq_true, Bool.not_eq_true', decide_eq_true_eq] at h4
    obtain ⟨f, ⟨_, h5, h6⟩, h7⟩ := h4
    exact ⟨f, h5, h6, h7⟩
theorem Z9 (a e : Nat) (ha : a < 256) (he : e ≤ 64) : z6.f (a : Int) (e : Int) = some (a.testBit e) := by
  unfold z6.f; rw [ju (by omega) (by omega), if_pos (by omega), Qg _ _ (by omega) (by omega)]
section
variable {N : Nat} {B : List Nat}
theorem JB (hN : N ≤ 8) (hB : ∀ b ∈ B, b < 2 ^ N) (hl : B.length ≤ 17592186044416) {a b e : Nat} (ha : a < 2 ^ N) (hb : b < 2 ^ N) (he : a.testBit e = true) :
    Ev (fun k => zy.f k (N : Int) (ints B) a b e) (vq B a b e) := by
  have ha8 := jX hN ha
  have hb8 := jX hN hb
  have he8 : e < 8 := Mt.vH (n := 8) ha8 he
  rw [ZT hN hb]
  unfold zy.f
  have h := qI (fun k f => zy.l0 k a b e f N (ints B)) N (fun f r => (b.testBit f && (!a.testBit f && decide (ins (del a e) f ∈ B))) || r) false
    (by simp only [zy.l0, show ¬ ((N : Int) < (N : Int)) by omega, if_false]; exact Ev.now _) fun f hf r hr => by
      simp only [zy.l0, show ((f : Int) < (N : Int)) by omega, if_true, Z9 b f hb8 (by omega), Z9 a f ha8 (by omega), Option.bind_some, qg (show f < 9223372036854775807 by omega)]
      cases h1 : b.testBit f
      · simp only [Bool.false_eq_true, if_false, Bool.false_and, Bool.false_or]; exact hr
      · cases h2 : a.testBit f
        · have hd := QX (e := e) ha8
          have e1 := Jl a ha8 e he8 he
          have hdf : (del a e).testBit f = false := by rw [Mt.jz, h2]; rfl
          have e2 := Jb (del a e) hd f (by omega) hdf
          have ew : wrap64 ((wrap64 ((a : Int) - (shl .i64 1 (IntKind.u64.wrap (e : Int))))) + (shl .i64 1 (IntKind.u64.wrap (f : Int)))) = ((ins (del a e) f : Nat) : Int) := by
            have p1 : 2 ^ e ≤ 2 ^ 8 := Nat.pow_le_pow_right (by decide) (by omega)
            have p2 : 2 ^ f ≤ 2 ^ 8 := Nat.pow_le_pow_right (by decide) (by omega)
            rw [ju (by omega) (by omega), ju (n := (f : Int)) (by omega) (by omega), j3 e (by omega), j3 f (by omega), e2]
            generalize 2 ^ e = x at e1 p1 ⊢
            generalize 2 ^ f = y at p2 ⊢
            rw [qR (n := (a : Int) - (x : Int)) (by omega) (by omega), qR (by omega) (by omega)]
            omega
          simp only [Bool.false_eq_true, if_false, Bool.not_false, Bool.true_and]
          simp only [show (0 : Int) ≤ IntKind.u64.wrap (e : Int) by rw [ju (by omega) (by omega)]; omega, show (0 : Int) ≤ IntKind.u64.wrap (f : Int) by rw [ju (by omega) (by omega)]; omega, if_true, ew]
          refine Ev.bind (Q5 (ints B) _ (by rw [zO]; exact hl)) ?_
          simp only [ZI]
          by_cases hm : ins (del a e) f ∈ B
          · simp only [hm, decide_true, if_true, Bool.true_or]; exact Ev.now _
          · simp only [hm, decide_false, Bool.false_eq_true, if_false, Bool.false_or]; exact hr
        · simp only [if_true, Bool.not_true, Bool.false_and, Bool.and_false, Bool.false_or]; exact hr
  rw [vU, Bool.or_false] at h
  exact h
/-- The failing element of two bases, as1 the reference looks for it: over all places. -/
def ffS (N : Nat) (B : List Nat) : Int × Int × Int × Bool :=
  (List.range B.length).foldr (fun i r => (List.range B.length).foldr (fun j r => (List.range N).foldr (fun e r =>
    if (B.getD i 0).testBit e && (!(B.getD j 0).testBit e && !vq B (B.getD i 0) (B.getD j 0) e) then (((B.getD i 0 : Nat) : Int), ((B.getD j 0 : Nat) : Int), (e : Int), true) else r) r) r) (0, 0, 0, false)
/-- The same, as1 the program looks for it: over the elements of the difference. -/
def ffI (B : List Nat) : Int × Int × Int × Bool :=
  (List.range B.length).foldr (fun i r => (List.range B.length).foldr (fun j r => (List.range (elems (sdiff (B.getD i 0) (B.getD j 0))).length).foldr (fun m r =>
    if !vq B (B.getD i 0) (B.getD j 0) ((elems (sdiff (B.getD i 0) (B.getD j 0))).getD m 0) then (((B.getD i 0 : Nat) : Int), ((B.getD j 0 : Nat) : Int), (((elems (sdiff (B.getD i 0) (B.getD j 0))).getD m 0 : Nat) : Int), true) else r) r) r) (0, 0, 0, false)
theorem qN (i : Nat) (hi : i < B.length) : B.getD i 0 = B[i] := by simp [List.getElem?_eq_getElem hi]
theorem jE (i : Nat) (hi : i < B.length) : rd (ints B) (i : Int) = ((B.getD i 0 : Nat) : Int) := by rw [Z7 B i hi, qN i hi]
theorem jB (hB : ∀ b ∈ B, b < 2 ^ N) (i : Nat) (hi : i < B.length) : B.getD i 0 < 2 ^ N := by rw [qN i hi]; exact hB _ (List.getElem_mem hi)
theorem QB (hN : N ≤ 8) (hB : ∀ b ∈ B, b < 2 ^ N) (hl : B.length ≤ 17592186044416) : Ev (fun k => zm.l0 k (N : Int) (ints B) 0) (ffS N B) := by
  refine qI (fun k i => zm.l0 k (N : Int) (ints B) i) B.length _ (0, 0, 0, false) ?_ fun i hi r hr => ?_
  · simp only [zm.l0, zO, show ¬ ((B.length : Int) < (B.length : Int)) by omega, if_false]; exact Ev.now _
  simp only [zm.l0, zO, show ((i : Int) < (B.length : Int)) by omega, show (0 : Int) ≤ (i : Int) by omega, if_true]
  refine qI (fun k j => zm.l1 k (N : Int) (ints B) i j) B.length _ r ?_ fun j hj r hr => ?_
  · simp only [zm.l1, zO, show ¬ ((B.length : Int) < (B.length : Int)) by omega, if_false, qg (show i < 9223372036854775807 by omega)]; exact hr
  simp only [zm.l1, zO, show ((j : Int) < (B.length : Int)) by omega, show (0 : Int) ≤ (j : Int) by omega, if_true]
  have ha := jB hB i hi
  have hb := jB hB j hj
  have ea := jE i hi
  have eb := jE j hj
  refine qI (fun k e => zm.l2 k (N : Int) (ints B) i j e) N _ r ?_ fun e he r hr => ?_
  · simp only [zm.l2, show ¬ ((N : Int) < (N : Int)) by omega, if_false, qg (show j < 9223372036854775807 by omega)]; exact hr
  generalize B.getD i 0 = a at ha ea ⊢
  generalize B.getD j 0 = b at hb eb ⊢
  simp only [zm.l2, show ((e : Int) < (N : Int)) by omega, if_true, ea, eb, Z9 a e (jX hN ha) (by omega), Z9 b e (jX hN hb) (by omega), Option.bind_some, qg (show e < 9223372036854775807 by omega)]
  cases h1 : a.testBit e
  · simp only [Bool.false_eq_true, if_false, Bool.false_and]; exact hr
  · cases h2 : b.testBit e
    · simp only [if_true, Bool.false_eq_true, if_false, Bool.not_false, Bool.true_and]
      refine Ev.bind (JB hN hB hl ha hb h1) ?_
      cases h3 : vq B a b e
      · simp only [Bool.false_eq_true, if_false, Bool.not_false, if_true]; exact Ev.now _
      · simp only [if_true, Bool.not_true, Bool.false_eq_true, if_false]; exact hr
    · simp only [if_true, Bool.not_true, Bool.false_and, Bool.and_false, Bool.false_eq_true, if_false]; exact hr
theorem Qo (Q : Nat → Int → Option Bool) (p : Nat → Bool) : ∀ l : List Nat, (∀ x ∈ l, Ev (fun k => Q k (x : Int)) (p x)) → Ev (fun k => Zn (Q k) (ints l)) (l.any p)
  | [], _ => by simp only [ints, List.map_nil, Zn, List.any_nil]; exact Ev.now _
  | x :: t, h => by
    simp only [ints, List.map_cons, Zn, List.any_cons]
    refine Ev.bind (h x (List.mem_cons_self ..)) ?_
    cases hp : p x
    · simp only [Bool.false_eq_true, if_false, Bool.false_or]; exact Qo Q p t fun y hy => h y (List.mem_cons_of_mem _ hy)
    · simp only [if_true, Bool.true_or]; exact Ev.now _
theorem yq {s : Nat} (h : s < 256) : yC (s : Int) = elems s := by unfold yC; rw [if_pos (by simp [isAny]; omega)]; rfl
theorem ZK {a b : Nat} (h : a < 256) : sdiff a b < 256 := ZH (n := 8) h
theorem QA (hN : N ≤ 8) (hB : ∀ b ∈ B, b < 2 ^ N) (hl : B.length ≤ 17592186044416) : Ev (fun k => zk.l0 k (ints B) 0) (ffI B) := by
  refine qI (fun k i => zk.l0 k (ints B) i) B.length _ (0, 0, 0, false) ?_ fun i hi r hr => ?_
  · simp only [zk.l0, zO, show ¬ ((B.length : Int) < (B.length : Int)) by omega, if_false]; exact Ev.now _
  simp only [zk.l0, zO, show ((i : Int) < (B.length : Int)) by omega, show (0 : Int) ≤ (i : Int) by omega, if_true]
  have ha := jB hB i hi
  have ea := jE i hi
  refine qI (fun k j => zk.l1 k (ints B) i j) B.length _ r ?_ fun j hj r hr => ?_
  · simp only [zk.l1, zO, show ¬ ((B.length : Int) < (B.length : Int)) by omega, if_false, qg (show i < 9223372036854775807 by omega)]; exact hr
  have hb := jB hB j hj
  have eb := jE j hj
  generalize B.getD i 0 = a at ha ea ⊢
  generalize B.getD j 0 = b at hb eb ⊢
  have ha8 := jX hN ha
  have hb8 := jX hN hb
  simp only [zk.l1, zO, show ((j : Int) < (B.length : Int)) by omega, show (0 : Int) ≤ (j : Int) by omega, if_true, ea, eb, jT a b (by omega) (by omega)]
  refine Ev.bind (vv _) ?_
  rw [yq (ZK ha8)]
  have hes : ∀ e ∈ elems (sdiff a b), e < 8 ∧ a.testBit e = true := fun e he => by
    have := qJ.1 he
    rw [qo] at this; simp at this; exact ⟨this.1, this.2.1⟩
  have hlen := vE (sdiff a b)
  generalize elems (sdiff a b) = es at hes hlen ⊢
  refine qI (fun k m => zk.l2 k (ints B) i j (ints es) m) es.length _ r ?_ fun m hm r hr => ?_
  · simp only [zk.l2, zO, show ¬ ((es.length : Int) < (es.length : Int)) by omega, if_false, qg (show j < 9223372036854775807 by omega)]; exact hr
  have he := hes es[m] (List.getElem_mem hm)
  have ee := Z7 es m hm
  rw [show es.getD m 0 = es[m] by simp [List.getElem?_eq_getElem hm]]
  generalize es[m] = e at he ee ⊢
  simp only [zk.l2, zO, show ((m : Int) < (es.length : Int)) by omega, show (0 : Int) ≤ (m : Int) by omega, if_true, ea, eb, ee, jT b a (by omega) (by omega), qg (show m < 9223372036854775807 by omega)]
  refine Ev.bind (vv _) ?_
  rw [yq (ZK hb8)]
  have hlf := vE (sdiff b a)
  simp only [zO, show (elems (sdiff b a)).length ≤ 17592186044416 by omega, if_true]
  refine Ev.bind (Qo (fun k => zk.q k (ints B) a e) (fun f => decide (ins (del a e) f ∈ B)) (elems (sdiff b a)) fun f hf => ?_) ?_
  · have hf8 := (qJ.1 hf).1
    have p1 : 2 ^ e ≤ 2 ^ 8 := Nat.pow_le_pow_right (by decide) (by omega)
    have p2 : 2 ^ f ≤ 2 ^ 8 := Nat.pow_le_pow_right (by decide) (by omega)
    have hd := QX (e := e) ha8
    simp only [zk.q, show (0 : Int) ≤ (e : Int) by omega, show (0 : Int) ≤ (f : Int) by omega, if_true, j3 e (by omega), j3 f (by omega)]
    rw [jT a (2 ^ e) (by omega) (by omega), Z4 (sdiff a (2 ^ e)) (2 ^ f) (by have : sdiff a (2 ^ e) < 256 := hd; omega) (by omega)]
    have hh := QK (ints B) ((sdiff a (2 ^ e) ||| 2 ^ f : Nat) : Int) (by rw [zO]; exact hl)
    rw [show decide (((sdiff a (2 ^ e) ||| 2 ^ f : Nat) : Int) ∈ ints B) = decide (ins (del a e) f ∈ B) by rw [decide_eq_decide]; exact ZI] at hh
    exact hh
  show Ev _ (if (!vq B a b e) = true then _ else r)
  rw [show ((elems (sdiff b a)).any fun f => decide (ins (del a e) f ∈ B)) = vq B a b e from rfl]
  cases h3 : vq B a b e
  · simp only [Bool.false_eq_true, if_false, Bool.not_false, if_true]; exact Ev.now _
  · simp only [if_true, Bool.not_true, Bool.false_eq_true, if_false]; exact hr
theorem j5 {α ρ : Type} (c : ρ → Bool) (F : α → ρ → ρ) (P : α → Bool) (h : ∀ x r, c (F x r) = (P x || c r)) (r : ρ) : ∀ l : List α, c (l.foldr F r) = (l.any P || c r)
  | [] => by simp
  | x :: t => by rw [List.foldr_cons, h, j5 c F P h r t, List.any_cons, Bool.or_assoc]
theorem Zs {α ρ : Type} (c : ρ → Bool) (p : α → Bool) (g : α → ρ) (hg : ∀ x, c (g x) = true) (r : ρ) (l : List α) : c (l.foldr (fun x r => if p x = true then g x else r) r) = (l.any p || c r) :=
  j5 c _ p (fun x r => by cases h : p x <;> simp [h, hg]) r l
theorem Jd (hN : N ≤ 8) (hB : ∀ b ∈ B, b < 2 ^ N) : (ffS N B).2.2.2 = !JK B := by
  unfold ffS
  rw [j5 (fun r : Int × Int × Int × Bool => r.2.2.2) _ (fun i => (List.range B.length).any fun j => (List.range N).any fun e => (B.getD i 0).testBit e && (!(B.getD j 0).testBit e && !vq B (B.getD i 0) (B.getD j 0) e)) (fun i r => by
    rw [j5 (fun r : Int × Int × Int × Bool => r.2.2.2) _ (fun j => (List.range N).any fun e => (B.getD i 0).testBit e && (!(B.getD j 0).testBit e && !vq B (B.getD i 0) (B.getD j 0) e)) (fun j r => by
      exact Zs (fun r : Int × Int × Int × Bool => r.2.2.2) _ _ (fun _ => rfl) r _)])]
  rw [Bool.or_false, Bool.eq_iff_iff]
  simp only [List.any_eq_true, List.mem_range, Bool.and_eq_true, Bool.not_eq_true']
  constructor
  · rintro ⟨i, hi, j, hj, e, he, h1, h2, h3⟩
    rw [qN i hi] at h1 h3
    rw [qN j hj] at h2 h3
    rw [Bool.eq_false_iff]
    intro hm
    have := List.all_eq_true.1 (List.all_eq_true.1 (List.all_eq_true.1 hm B[i] (List.getElem_mem hi)) B[j] (List.getElem_mem hj)) e (qJ.2 ⟨by omega, by rw [qo, h1, h2]; rfl⟩)
    rw [h3] at this; cases this
  · intro hm
    obtain ⟨a, ha, h⟩ := List.all_eq_false.1 hm
    obtain ⟨b, hb, h⟩ := List.all_eq_false.1 (Bool.eq_false_iff.2 h)
    obtain ⟨e, he, h⟩ := List.all_eq_false.1 (Bool.eq_false_iff.2 h)
    obtain ⟨i, hi, rfl⟩ := List.getElem_of_mem ha
    obtain ⟨j, hj, rfl⟩ := List.getElem_of_mem hb
    have hd := (qJ.1 he).2
    rw [qo] at hd
    simp only [Bool.and_eq_true, Bool.not_eq_true'] at hd
    refine ⟨i, hi, j, hj, e, Mt.vH (hB _ ha) hd.1, ?_⟩
    rw [qN i hi, qN j hj]
    exact ⟨hd.1, hd.2, Bool.eq_false_iff.2 h⟩
theorem Js : (ffI B).2.2.2 = !JK B := by
  unfold ffI
  rw [j5 (fun r : Int × Int × Int × Bool => r.2.2.2) _ (fun i => (List.range B.length).any fun j => (List.range (elems (sdiff (B.getD i 0) (B.getD j 0))).length).any fun m => !vq B (B.getD i 0) (B.getD j 0) ((elems (sdiff (B.getD i 0) (B.getD j 0))).getD m 0)) (fun i r => by
    rw [j5 (fun r : Int × Int × Int × Bool => r.2.2.2) _ (fun j => (List.range (elems (sdiff (B.getD i 0) (B.getD j 0))).length).any fun m => !vq B (B.getD i 0) (B.getD j 0) ((elems (sdiff (B.getD i 0) (B.getD j 0))).getD m 0)) (fun j r => by
      exact Zs (fun r : Int × Int × Int × Bool => r.2.2.2) _ _ (fun _ => rfl) r _)])]
  rw [Bool.or_false, Bool.eq_iff_iff]
  simp only [List.any_eq_true, List.mem_range, Bool.not_eq_true']
  constructor
  · rintro ⟨i, hi, j, hj, m, hm, h3⟩
    rw [qN i hi, qN j hj] at h3 hm
    rw [Bool.eq_false_iff]
    intro hmm
    rw [show (elems (sdiff B[i] B[j])).getD m 0 = (elems (sdiff B[i] B[j]))[m] by simp [List.getElem?_eq_getElem hm]] at h3
    have := List.all_eq_true.1 (List.all_eq_true.1 (List.all_eq_true.1 hmm B[i] (List.getElem_mem hi)) B[j] (List.getElem_mem hj)) _ (List.getElem_mem hm)
    rw [h3] at this; cases this
  · intro hm
    obtain ⟨a, ha, h⟩ := List.all_eq_false.1 hm
    obtain ⟨b, hb, h⟩ := List.all_eq_false.1 (Bool.eq_false_iff.2 h)
    obtain ⟨e, he, h⟩ := List.all_eq_false.1 (Bool.eq_false_iff.2 h)
    obtain ⟨i, hi, rfl⟩ := List.getElem_of_mem ha
    obtain ⟨j, hj, rfl⟩ := List.getElem_of_mem hb
    obtain ⟨m, hm, rfl⟩ := List.getElem_of_mem he
    refine ⟨i, hi, j, hj, m, ?_, ?_⟩
    · rw [qN i hi, qN j hj]; exact hm
    · rw [qN i hi, qN j hj, show (elems (sdiff B[i] B[j])).getD m 0 = (elems (sdiff B[i] B[j]))[m] by simp [List.getElem?_eq_getElem hm]]
      exact Bool.eq_false_iff.2 h
end
theorem vW (n : Int) (l : List Int) (hl : l.length ≤ 17592186044416) : Ev (fun k => z7.f k n l) (qB n l) := by
  unfold z7.f zm.f qB
  have hf := ZV n l hl
  cases h : jr n l
  · rw [h] at hf
    refine Ev.bind (Ev.bind hf (by simp only [Bool.false_eq_true, if_false]; exact Ev.now _)) (Ev.bind hf ?_)
    simp only [Bool.false_eq_true, if_false, Bool.false_and]; exact Ev.now _
  · rw [h] at hf
    obtain ⟨N, B, rfl, hN, rfl, hB, hp⟩ := vR h
    rw [zO] at hl
    refine Ev.bind (Ev.bind hf (by simp only [if_true]; exact QB hN hB hl)) (Ev.bind hf ?_)
    simp only [if_true, Jd hN hB, Bool.not_not, jv, Bool.true_and, zO]
    by_cases h0 : 0 < B.length
    · simp only [show ((B.length : Int) > 0) by omega, if_true, h0, decide_true, Bool.true_and]; exact Ev.now _
    · simp only [show ¬ ((B.length : Int) > 0) by omega, if_false, h0, decide_false, Bool.false_and]; exact Ev.now _
theorem yc (n : Int) (l : List Int) (hl : l.length ≤ 17592186044416) : Ev (fun k => z8.f k n l) (qB n l) := by
  unfold z8.f zk.f qB
  have hf := ZU n l hl
  cases h : jr n l
  · rw [h] at hf
    refine Ev.bind (Ev.bind hf (by simp only [Bool.false_eq_true, if_false]; exact Ev.now _)) (Ev.bind hf ?_)
    simp only [Bool.false_eq_true, if_false, Bool.false_and]; exact Ev.now _
  · rw [h] at hf
    obtain ⟨N, B, rfl, hN, rfl, hB, hp⟩ := vR h
    rw [zO] at hl
    refine Ev.bind (Ev.bind hf (by simp only [if_true]; exact QA hN hB hl)) (Ev.bind hf ?_)
    simp only [if_true, Js, Bool.not_not, jv, Bool.true_and, zO]
    by_cases h0 : 0 < B.length
    · simp only [show ((B.length : Int) > 0) by omega, if_true, h0, decide_true, Bool.true_and]; exact Ev.now _
    · simp only [show ¬ ((B.length : Int) > 0) by omega, if_false, h0, decide_false, Bool.false_and]; exact Ev.now _
end Go.Proofs.Ytkmcefhchhahhaa.L
end
section
namespace Go.Proofs.Ytkmcefhchhahhaa.L
open Go.RowKit Go.Proofs.Ytkmcefhchhahhaa.F Go.Proofs.YtkmcefhchhahhaaW.PrintWords Go.Proofs.YtkmcefhchhahhaaW.PrintLast Go.Proofs.YtkmcefhchhahhaaW.PrintMore
open Go.Proofs.Ytkmcefhchhahhaa.Bits
open Go.Proofs.Ytkmcefhchhahhaa.Mt (sdiff qo elems qJ cnt Q4 full ins del Mat jX rk)
set_option linter.unusedSimpArgs false
set_option linter.unusedVariables false
section
variable {N : Nat} {B : List Nat}
end
end Go.Proofs.Ytkmcefhchhahhaa.L
end
section
namespace Go.Proofs.Ytkmcefhchhahhaa.L
open Go.RowKit Go.Proofs.Ytkmcefhchhahhaa.F Go.Proofs.YtkmcefhchhahhaaW.PrintWords Go.Proofs.YtkmcefhchhahhaaW.PrintLast Go.Proofs.YtkmcefhchhahhaaW.PrintMore
open Go.Proofs.Ytkmcefhchhahhaa.Bits
open Go.Proofs.Ytkmcefhchhahhaa.Mt (jU yw vF yR QF)
set_option linter.unusedSimpArgs false
set_option linter.unusedVariables false
/-- The sets of a list, in order, each once. -/
def jV (L : List Nat) : List Nat := (List.range 256).filter fun s => decide (s ∈ L)
theorem Zp {L : List Nat} (h : L.Pairwise (· < ·)) : (ints L).Pairwise (· < ·) := by
  unfold ints
  rw [List.pairwise_map]
  exact h.imp fun h => by omega
theorem Z8 {L : List Nat} {x : Int} : x ∈ ints L ↔ ∃ n, n ∈ L ∧ (n : Int) = x := by simp [ints]
theorem y7 (p : Nat → Bool) (n : Nat) : ((List.range n).filter p).Pairwise (· < ·) := List.Pairwise.filter _ List.pairwise_lt_range
theorem vM {L : List Nat} (hL : ∀ x ∈ L, x < 256) {s : Nat} : s ∈ jV L ↔ s ∈ L := by
  unfold jV
  rw [List.mem_filter, List.mem_range, decide_eq_true_eq]
  exact ⟨fun h => h.2, fun h => ⟨hL s h, h⟩⟩
theorem vw (L : List Nat) : (jV L).Pairwise (· < ·) := y7 _ _
theorem yT (L : List Nat) : (jV L).length ≤ 256 := by
  have := List.length_filter_le (fun s => decide (s ∈ L)) (List.range 256)
  rwa [List.length_range] at this
theorem yy {L : List Nat} (hL : ∀ x ∈ L, x < 256) : jU (ints L) = ints (jV L) := yw (Zp (vw L)) fun x => by
  rw [Z8, Z8]
  exact ⟨fun ⟨n, h, e⟩ => ⟨n, (vM hL).1 h, e⟩, fun ⟨n, h, e⟩ => ⟨n, (vM hL).2 h, e⟩⟩
theorem ye : ∀ {l l' : List Nat}, l.Pairwise (· < ·) → l'.Pairwise (· < ·) → (∀ x, x ∈ l ↔ x ∈ l') → l = l'
  | [], [], _, _, _ => rfl
  | [], b :: _, _, _, hm => absurd ((hm b).2 (List.mem_cons_self ..)) (by simp)
  | a :: _, [], _, _, hm => absurd ((hm a).1 (List.mem_cons_self ..)) (by simp)
  | a :: l, b :: l', h, h', hm => by
    rw [List.pairwise_cons] at h h'
    have hab : a = b := by
      rcases List.mem_cons.1 ((hm a).1 (List.mem_cons_self ..)) with e | e
      · exact e
      · rcases List.mem_cons.1 ((hm b).2 (List.mem_cons_self ..)) with e' | e'
        · exact e'.symm
        · have := h'.1 a e; have := h.1 b e'; omega
    subst hab
    rw [ye h.2 h'.2 fun x => ⟨fun hx => by
      rcases List.mem_cons.1 ((hm x).1 (List.mem_cons_of_mem _ hx)) with e | e
      · subst e; have := h.1 x hx; omega
      · exact e, fun hx => by
      rcases List.mem_cons.1 ((hm x).2 (List.mem_cons_of_mem _ hx)) with e | e
      · subst e; have := h'.1 x hx; omega
      · exact e⟩]
/-- A sorted family is its own sorting. -/
theorem QR {L : List Nat} (hL : ∀ x ∈ L, x < 256) (h : L.Pairwise (· < ·)) : jV L = L := ye (vw L) h fun _ => vM hL
theorem jP {L : List Nat} (hL : ∀ x ∈ L, x < 256) (h : L.Pairwise (· < ·)) : L.length ≤ 256 := by rw [← QR hL h]; exact yT L
theorem y2 (s : List Int) (x : Int) (j : Nat) (h : s.Pairwise (· < ·)) (h1 : ∀ a ∈ s.take j, a < x) (h2 : ∀ a ∈ s.drop j, x < a) :
    (s.take j ++ [x] ++ s.drop j).Pairwise (· < ·) ∧ ∀ a, a ∈ s.take j ++ [x] ++ s.drop j ↔ a = x ∨ a ∈ s := by
  have e : s.take j ++ s.drop j = s := List.take_append_drop j s
  have hp : (s.take j ++ s.drop j).Pairwise (· < ·) := by rw [e]; exact h
  rw [List.pairwise_append] at hp
  constructor
  · rw [List.pairwise_append, List.pairwise_append]
    refine ⟨⟨hp.1, by simp, fun a ha b hb => ?_⟩, hp.2.1, fun a ha b hb => ?_⟩
    · simp only [List.mem_singleton] at hb; subst hb; exact h1 a ha
    · rcases List.mem_append.1 ha with ha | ha
      · exact hp.2.2 a ha b hb
      · simp only [List.mem_singleton] at ha; subst ha; exact h2 b hb
  · intro a
    have hm : a ∈ s ↔ a ∈ s.take j ∨ a ∈ s.drop j := by
      have := List.mem_append (a := a) (s := s.take j) (t := s.drop j)
      rwa [e] at this
    rw [hm]
    simp only [List.mem_append, List.mem_singleton]
    constructor
    · rintro ((h | h) | h)
      · exact .inr (.inl h)
      · exact .inl h
      · exact .inr (.inr h)
    · rintro (h | h | h)
      · exact .inl (.inr h)
      · exact .inl (.inl h)
      · exact .inr h
theorem yu (l s : List Int) (i : Nat) (hi : i < l.length) (hl : l.length < 17592186044416) (hs : s.Pairwise (· < ·)) (hlen : s.length ≤ i) (r : List Int)
    (hcont : ∀ s' : List Int, s'.Pairwise (· < ·) → (∀ a, a ∈ s' ↔ a = l.getD i 0 ∨ a ∈ s) → s'.length ≤ i + 1 → Ev (fun k => zh.l0 k l s' ((i + 1 : Nat) : Int)) r) :
    ∀ (d j : Nat), j + d = s.length → (∀ a ∈ s.take j, a < l.getD i 0) → Ev (fun k => zh.l1 k l s (i : Int) (j : Int)) r
  | 0, j, hd, h1 => by
    have hj : j = s.length := by omega
    subst hj
    have hf := y2 s (l.getD i 0) s.length hs h1 (by simp)
    have hl1 := hcont _ hf.1 hf.2 (by simp; omega)
    refine Ev.succ ?_
    simp only [zh.l1, show ¬ ((s.length : Int) < (s.length : Int)) by omega, if_false, Option.bind_some, show (0 : Int) ≤ (s.length : Int) by omega, show (s.length : Int) ≤ (s.length : Int) by omega, if_true, Int.toNat_natCast,
      show (0 : Int) ≤ (i : Int) by omega, show (i : Int) < (l.length : Int) by omega, q4, List.nil_append, List.length_nil, Nat.zero_add, qg (show i < 9223372036854775807 by omega)]
    simp only [show (s.drop s.length).length < 17592186044416 by simp, show (s.take s.length).length < 17592186044416 by simp; omega, if_true,
      show (s.take s.length ++ [l.getD i 0]).length + (s.drop s.length).length < 17592186044416 by simp; omega]
    exact hl1
  | d + 1, j, hd, h1 => by
    have hj : j < s.length := by omega
    have e1 : s.getD j 0 = s[j] := by simp [List.getElem?_eq_getElem hj]
    refine Ev.succ ?_
    simp only [zh.l1, show ((j : Int) < (s.length : Int)) by omega, if_true, show (0 : Int) ≤ (j : Int) by omega, show (0 : Int) ≤ (i : Int) by omega, show (i : Int) < (l.length : Int) by omega, q4,
      qg (show i < 9223372036854775807 by omega), qg (show j < 9223372036854775807 by omega)]
    by_cases c : s.getD j 0 < l.getD i 0
    · simp only [c, if_true]
      refine yu l s i hi hl hs hlen r hcont d (j + 1) (by omega) fun a ha => ?_
      rw [List.take_succ_eq_append_getElem hj, List.mem_append] at ha
      rcases ha with ha | ha
      · exact h1 a ha
      · simp only [List.mem_singleton] at ha; subst ha; rw [← e1]; exact c
    · simp only [c, if_false]
      by_cases c2 : s.getD j 0 = l.getD i 0
      · simp only [c2, if_true]
        refine hcont s hs (fun a => ⟨.inr, fun h => ?_⟩) (by omega)
        rcases h with h | h
        · rw [h, ← c2, e1]; exact List.getElem_mem hj
        · exact h
      · simp only [c2, if_false]
        have h2 : ∀ a ∈ s.drop j, l.getD i 0 < a := fun a ha => by
          rw [List.drop_eq_getElem_cons hj] at ha
          rcases List.mem_cons.1 ha with ha | ha
          · subst ha; rw [e1] at c c2; omega
          · have hp : (s.drop j).Pairwise (· < ·) := List.Pairwise.drop hs
            rw [List.drop_eq_getElem_cons hj, List.pairwise_cons] at hp
            have := hp.1 a ha
            rw [e1] at c c2; omega
        have hf := y2 s (l.getD i 0) j hs h1 h2
        have hl1 := hcont _ hf.1 hf.2 (by simp; omega)
        simp only [Option.bind_some, show (j : Int) ≤ (s.length : Int) by omega, if_true, Int.toNat_natCast, List.nil_append, List.length_nil, Nat.zero_add]
        simp only [show (s.drop j).length < 17592186044416 by simp; omega, show (s.take j).length < 17592186044416 by simp; omega, if_true,
          show (s.take j ++ [l.getD i 0]).length + (s.drop j).length < 17592186044416 by simp; omega]
        exact hl1
theorem yD (l : List Int) (hl : l.length < 17592186044416) : ∀ (d i : Nat) (s : List Int), i + d = l.length → s.Pairwise (· < ·) → (∀ a, a ∈ s ↔ a ∈ l.take i) → s.length ≤ i → Ev (fun k => zh.l0 k l s (i : Int)) (jU l)
  | 0, i, s, hd, hs, hm, _ => by
    have hi : i = l.length := by omega
    subst hi
    rw [List.take_length] at hm
    refine Ev.succ ?_
    simp only [zh.l0, show ¬ ((l.length : Int) < (l.length : Int)) by omega, if_false]
    exact Ev.some (yw hs hm).symm
  | d + 1, i, s, hd, hs, hm, hlen => by
    have hi : i < l.length := by omega
    refine Ev.succ ?_
    simp only [zh.l0, show ((i : Int) < (l.length : Int)) by omega, if_true]
    refine yu l s i hi hl hs hlen _ (fun s' h1 h2 h3 => ?_) s.length 0 (by omega) (by simp)
    refine yD l hl d (i + 1) s' (by omega) h1 (fun a => ?_) h3
    rw [h2, hm, List.take_succ_eq_append_getElem hi, List.mem_append, List.mem_singleton, show l.getD i 0 = l[i] by simp [List.getElem?_eq_getElem hi]]
    exact ⟨fun h => h.elim .inr .inl, fun h => h.elim .inr .inl⟩
theorem Zu (l : List Int) (hl : l.length < 17592186044416) : Ev (fun k => zh.f k l) (jU l) := by
  unfold zh.f
  exact yD l hl l.length 0 [] (by omega) (by simp) (by simp) (by simp)
theorem Z0 {L : List Nat} (hL : ∀ x ∈ L, x < 256) (hl : L.length < 17592186044416) : Ev (fun k => zh.f k (ints L)) (ints (jV L)) := by
  rw [← yy hL]; exact Zu _ (by rw [zO]; exact hl)
end Go.Proofs.Ytkmcefhchhahhaa.L
end
section
namespace Go.Proofs.Ytkmcefhchhahhaa.L
open Go.RowKit Go.Proofs.Ytkmcefhchhahhaa.F Go.Proofs.YtkmcefhchhahhaaW.PrintWords Go.Proofs.YtkmcefhchhahhaaW.PrintLast Go.Proofs.YtkmcefhchhahhaaW.PrintMore
open Go.Proofs.Ytkmcefhchhahhaa.Bits
open Go.Proofs.Ytkmcefhchhahhaa.Mt (Mat jX)
set_option linter.unusedSimpArgs false
set_option linter.unusedVariables false
theorem Qm (a e : Nat) (he : e ≤ 64) (h : a * 2 ^ e < 2 ^ 63) : shl .i64 (a : Int) (e : Int) = ((a * 2 ^ e : Nat) : Int) := by
  unfold shl
  rw [Nat.min_eq_left (by simp [IntKind.bits]; omega), Int.toNat_natCast]
  rw [show ((a : Int) * (2 : Int) ^ e) = ((a * 2 ^ e : Nat) : Int) by simp]
  generalize a * 2 ^ e = x at h ⊢
  exact jY (by omega) (by omega)
/-- The sums of one set with the sets of a list; of the sets of two lists. -/
def vx (N x : Nat) (C : List Nat) : List Nat := C.map fun y => x + y * 2 ^ N
def q6 (N : Nat) (C : List Nat) : List Nat → List Nat
  | [] => []
  | x :: B => vx N x C ++ q6 N C B
theorem yb (N : Nat) (C : List Nat) : ∀ A B : List Nat, q6 N C (A ++ B) = q6 N C A ++ q6 N C B
  | [], B => rfl
  | x :: A, B => by rw [List.cons_append, q6, q6, yb N C A B, List.append_assoc]
theorem vy (N : Nat) (C : List Nat) : ∀ B : List Nat, (q6 N C B).length = B.length * C.length
  | [] => by simp [q6]
  | x :: B => by rw [q6, List.length_append, vy N C B, vx, List.length_map, List.length_cons, Nat.add_mul]; omega
theorem yQ (N : Nat) (B C : List Nat) (i : Nat) (hi : i < B.length) : q6 N C (B.take (i + 1)) = q6 N C (B.take i) ++ vx N (B.getD i 0) C := by
  rw [List.take_succ_eq_append_getElem hi, yb, show B.getD i 0 = B[i] by simp [List.getElem?_eq_getElem hi]]
  simp [q6]
theorem yU (N x : Nat) (C : List Nat) (j : Nat) (hj : j < C.length) : ints (vx N x (C.take (j + 1))) = ints (vx N x (C.take j)) ++ [((x + C.getD j 0 * 2 ^ N : Nat) : Int)] := by
  rw [List.take_succ_eq_append_getElem hj, show C.getD j 0 = C[j] by simp [List.getElem?_eq_getElem hj]]
  unfold vx ints
  rw [List.map_append, List.map_append]; rfl
theorem vV (A B : List Nat) : ints (A ++ B) = ints A ++ ints B := by unfold ints; rw [List.map_append]
theorem ZO {N M x y : Nat} (h : N + M ≤ 8) (hx : x < 2 ^ N) (hy : y < 2 ^ M) : x + y * 2 ^ N < 256 := by
  have h1 : y * 2 ^ N + 2 ^ N ≤ 2 ^ M * 2 ^ N := by
    have := Nat.mul_le_mul_right (2 ^ N) (show y + 1 ≤ 2 ^ M from hy)
    rwa [Nat.add_mul, Nat.one_mul] at this
  have h2 : 2 ^ M * 2 ^ N ≤ 2 ^ 8 := by rw [← Nat.pow_add]; exact Nat.pow_le_pow_right (by decide) (by omega)
  omega
theorem Zg {N M : Nat} (h : N + M ≤ 8) {C : List Nat} (hC : ∀ y ∈ C, y < 2 ^ M) : ∀ B : List Nat, (∀ x ∈ B, x < 2 ^ N) → ∀ z ∈ q6 N C B, z < 256
  | [], _, z, hz => by simp [q6] at hz
  | x :: B, hB, z, hz => by
    rw [q6, List.mem_append] at hz
    rcases hz with hz | hz
    · obtain ⟨y, hy, rfl⟩ := List.mem_map.1 hz
      exact ZO h (hB x (List.mem_cons_self ..)) (hC y hy)
    · exact Zg h hC B (fun x hx => hB x (List.mem_cons_of_mem _ hx)) z hz
/-- The direct sum, where the two are matroids that are small enough. -/
def ZZ (n : Int) (l : List Int) (n' : Int) (l' : List Int) : Int × List Int × Bool :=
  if qB n l && (qB n' l' && decide (n + n' ≤ 8)) then (n + n', ints (jV (q6 n.toNat (l'.map Int.toNat) (l.map Int.toNat))), true) else (0, [], false)
theorem ZJ (n : Int) (l : List Int) (n' : Int) (l' : List Int) : (ZZ n l n' l').2.1.length ≤ 17592186044416 := by
  unfold ZZ; split
  · have := yT (q6 n.toNat (l'.map Int.toNat) (l.map Int.toNat))
    rw [zO]; omega
  · simp
section
variable {N M : Nat} {B C : List Nat}
theorem Z6 (hB : B.length ≤ 256) (hC : C.length ≤ 256) (i j : Nat) (x : Nat) : (ints (q6 N C (B.take i)) ++ ints (vx N x (C.take j))).length < 17592186044416 := by
  rw [List.length_append, zO, zO, vy, vx, List.length_map, List.length_take, List.length_take]
  have := Nat.mul_le_mul (show min i B.length ≤ 256 by omega) hC
  omega
theorem JR (h : N + M ≤ 8) (hB : ∀ x ∈ B, x < 2 ^ N) (hC : ∀ y ∈ C, y < 2 ^ M) (hlB : B.length ≤ 256) (hlC : C.length ≤ 256) : Ev (fun k => zf.l0 k [] 0 N (ints B) M (ints C)) (((N + M : Nat) : Int), ints (jV (q6 N C B)), true) := by
  have key := jR (fun k acc i => zf.l0 k acc i N (ints B) M (ints C)) B.length (fun acc i => acc ++ ints (vx N (B.getD i 0) C)) (fun i acc => acc = ints (q6 N C (B.take i)))
    (fun i acc hi ha => ⟨by rw [yQ N B C i hi, ha, vV], fun r hr => by
      have hx := jB hB i hi
      have ex := jE (B := B) i hi
      simp only [zf.l0, zO, show ((i : Int) < (B.length : Int)) by omega, if_true]
      have inner := jR (fun k out j => zf.l1 k out i j N (ints B) M (ints C)) C.length (fun out j => out ++ [((B.getD i 0 + C.getD j 0 * 2 ^ N : Nat) : Int)]) (fun j out => out = ints (q6 N C (B.take i)) ++ ints (vx N (B.getD i 0) (C.take j)))
        (fun j out hj ho => ⟨by rw [yU N _ C j hj, ho, List.append_assoc], fun r hr => by
          have hy := jB hC j hj
          have ey := jE (B := C) j hj
          have hout : out.length < 17592186044416 := by rw [ho]; exact Z6 hlB hlC i j _
          generalize B.getD i 0 = x at hx ex hr
          generalize C.getD j 0 = y at hy ey hr
          have hs := ZO h hx hy
          have hu : IntKind.u64.wrap (N : Int) = (N : Int) := ju (by omega) (by omega)
          have e1 : shl .i64 (y : Int) (N : Int) = ((y * 2 ^ N : Nat) : Int) := Qm y N (by omega) (by omega)
          have e2 : wrap64 ((x : Int) + ((y * 2 ^ N : Nat) : Int)) = ((x + y * 2 ^ N : Nat) : Int) := by rw [qR (by omega) (by omega)]; omega
          simp only [zf.l1, zO, show ((i : Int) < (B.length : Int)) by omega, show ((j : Int) < (C.length : Int)) by omega, show (0 : Int) ≤ (i : Int) by omega, show (0 : Int) ≤ (j : Int) by omega, show (0 : Int) ≤ (N : Int) by omega, if_true, hu, ex, ey, e1, e2, hout, qg (show j < 9223372036854775807 by omega)]
          exact hr⟩) acc (by rw [ha]; simp [vx, ints])
      refine inner.2 _ (Ev.succ ?_)
      rw [inner.1, List.take_length]
      simp only [zf.l1, zO, show ¬ ((C.length : Int) < (C.length : Int)) by omega, if_false, qg (show i < 9223372036854775807 by omega)]
      rw [← ha]; exact hr⟩) [] (by simp [q6, ints])
  refine key.2 _ (Ev.succ ?_)
  rw [key.1, List.take_length]
  have hlen := vy N C B
  have hm := Nat.mul_le_mul hlB hlC
  simp only [zf.l0, zO, show ¬ ((B.length : Int) < (B.length : Int)) by omega, if_false, qR (show -9223372036854775808 ≤ (N : Int) + (M : Int) by omega) (show (N : Int) + (M : Int) < 9223372036854775808 by omega)]
  refine Ev.bind (Z0 (Zg h hC B hB) (by omega)) (Ev.some ?_)
  simp
theorem JO (h : N + M ≤ 8) (hB : ∀ x ∈ B, x < 2 ^ N) (hC : ∀ y ∈ C, y < 2 ^ M) (hlB : B.length ≤ 256) (hlC : C.length ≤ 256) : Ev (fun k => zg.l0 k (ints B) (B.length : Int) 0 N (ints B) M (ints C) (wrap64 ((N : Int) + (M : Int))) []) (((N + M : Nat) : Int), ints (jV (q6 N C B)), true) := by
  rw [qR (show -9223372036854775808 ≤ (N : Int) + (M : Int) by omega) (show (N : Int) + (M : Int) < 9223372036854775808 by omega)]
  have key := jR (fun k acc i => zg.l0 k (ints B) (B.length : Int) i N (ints B) M (ints C) ((N : Int) + (M : Int)) acc) B.length (fun acc i => acc ++ ints (vx N (B.getD i 0) C)) (fun i acc => acc = ints (q6 N C (B.take i)))
    (fun i acc hi ha => ⟨by rw [yQ N B C i hi, ha, vV], fun r hr => by
      have hx := jB hB i hi
      have ex := jE (B := B) i hi
      simp only [zg.l0, zO, show ((i : Int) < (B.length : Int)) by omega, show (0 : Int) ≤ (i : Int) by omega, if_true, ex]
      generalize hxx : B.getD i 0 = x at hx hr
      have inner := jR (fun k out j => zg.l1 k (x : Int) (ints B) (B.length : Int) i (ints C) (C.length : Int) j N (ints B) M (ints C) ((N : Int) + (M : Int)) out) C.length (fun out j => out ++ [((x + C.getD j 0 * 2 ^ N : Nat) : Int)]) (fun j out => out = ints (q6 N C (B.take i)) ++ ints (vx N x (C.take j)))
        (fun j out hj ho => ⟨by rw [yU N _ C j hj, ho, List.append_assoc], fun r hr => by
          have hy := jB hC j hj
          have ey := jE (B := C) j hj
          have hout : out.length < 17592186044416 := by rw [ho]; exact Z6 hlB hlC i j _
          generalize C.getD j 0 = y at hy ey hr
          have hs := ZO h hx hy
          have e1 : shl .i64 (y : Int) (N : Int) = ((y * 2 ^ N : Nat) : Int) := Qm y N (by omega) (by omega)
          have e2 : Go.bits .or .i64 (x : Int) ((y * 2 ^ N : Nat) : Int) = ((x + y * 2 ^ N : Nat) : Int) := by
            rw [Z4 _ _ (by omega) (by omega)]
            congr 1
            rw [Nat.or_comm, Nat.add_comm, ← Nat.shiftLeft_eq, Nat.shiftLeft_add_eq_or_of_lt hx]
          simp only [zg.l1, zO, show ((j : Int) < (C.length : Int)) by omega, show (0 : Int) ≤ (j : Int) by omega, show (0 : Int) ≤ (N : Int) by omega, if_true, ey, e1, e2, hout, qg (show j < 9223372036854775807 by omega)]
          exact hr⟩) acc (by rw [ha]; simp [vx, ints])
      refine inner.2 _ (Ev.succ ?_)
      rw [inner.1, List.take_length]
      simp only [zg.l1, zO, show ¬ ((C.length : Int) < (C.length : Int)) by omega, if_false, qg (show i < 9223372036854775807 by omega)]
      rw [← ha]; exact hr⟩) [] (by simp [q6, ints])
  refine key.2 _ (Ev.succ ?_)
  rw [key.1, List.take_length]
  have hlen := vy N C B
  have hm := Nat.mul_le_mul hlB hlC
  have hsort : ∀ k, qE.f k (ints (q6 N C B)) = some (ints (jV (q6 N C B))) := fun k => by
    unfold qE.f
    rw [zO, if_pos (by omega), yy (Zg h hC B hB)]
  simp only [zg.l0, zO, show ¬ ((B.length : Int) < (B.length : Int)) by omega, if_false, hsort, Option.bind_some]
  exact Ev.some (by simp)
end
theorem Zo (n : Int) (l : List Int) (n' : Int) (l' : List Int) (hl : l.length ≤ 17592186044416) (hl' : l'.length ≤ 17592186044416) : Ev (fun k => zf.f k n l n' l') (ZZ n l n' l') := by
  unfold zf.f ZZ
  refine Ev.bind (vW n l hl) ?_
  cases h : qB n l
  · simp only [Bool.false_eq_true, if_false, Bool.false_and]
    refine Ev.succ ?_
    simp only [zf.j0, if_true]; exact Ev.now _
  simp only [if_true, Bool.true_and]
  refine Ev.bind (vW n' l' hl') ?_
  cases h' : qB n' l'
  · simp only [Bool.false_eq_true, if_false, Bool.false_and]
    refine Ev.succ ?_
    simp only [zf.j0, if_true]; exact Ev.now _
  obtain ⟨N, B, rfl, rfl, hp, M⟩ := vk h
  obtain ⟨N', B', rfl, rfl, hp', M'⟩ := vk h'
  have h8 := M.size
  have h8' := M'.size
  simp only [if_true, Bool.true_and, jv, Int.toNat_natCast, qR (show -9223372036854775808 ≤ (N : Int) + (N' : Int) by omega) (show (N : Int) + (N' : Int) < 9223372036854775808 by omega)]
  refine Ev.succ ?_
  simp only [zf.j0, decide_eq_true_eq]
  by_cases h9 : N + N' ≤ 8
  · simp only [show ¬ ((N : Int) + (N' : Int) > 8) by omega, show (N : Int) + (N' : Int) ≤ 8 by omega, if_true, if_false]
    have := JR h9 M.lt M'.lt (jP (fun b hb => M.lt8 hb) hp) (jP (fun b hb => M'.lt8 hb) hp')
    simpa using this
  · simp only [show (N : Int) + (N' : Int) > 8 by omega, show ¬ ((N : Int) + (N' : Int) ≤ 8) by omega, if_true, if_false]; exact Ev.now _
theorem Zy (n : Int) (l : List Int) (n' : Int) (l' : List Int) (hl : l.length ≤ 17592186044416) (hl' : l'.length ≤ 17592186044416) : Ev (fun k => zg.f k n l n' l') (ZZ n l n' l') := by
  unfold zg.f ZZ
  refine Ev.bind (yc n l hl) ?_
  cases h : qB n l
  · simp only [Bool.false_eq_true, if_false, Bool.false_and]
    refine Ev.succ ?_
    simp only [zg.j0, if_true]; exact Ev.now _
  simp only [if_true, Bool.true_and]
  refine Ev.bind (yc n' l' hl') ?_
  cases h' : qB n' l'
  · simp only [Bool.false_eq_true, if_false, Bool.false_and]
    refine Ev.succ ?_
    simp only [zg.j0, if_true]; exact Ev.now _
  obtain ⟨N, B, rfl, rfl, hp, M⟩ := vk h
  obtain ⟨N', B', rfl, rfl, hp', M'⟩ := vk h'
  have h8 := M.size
  have h8' := M'.size
  simp only [if_true, Bool.true_and, jv, Int.toNat_natCast]
  refine Ev.succ ?_
  have hw : wrap64 ((N : Int) + (N' : Int)) = (N : Int) + (N' : Int) := qR (by omega) (by omega)
  simp only [zg.j0, decide_eq_true_eq, hw]
  by_cases h9 : N + N' ≤ 8
  · simp only [show ¬ ((N : Int) + (N' : Int) > 8) by omega, show (N : Int) + (N' : Int) ≤ 8 by omega, if_true, if_false, zO]
    have := JO h9 M.lt M'.lt (jP (fun b hb => M.lt8 hb) hp) (jP (fun b hb => M'.lt8 hb) hp')
    rw [hw] at this
    simpa using this
  · simp only [show (N : Int) + (N' : Int) > 8 by omega, show ¬ ((N : Int) + (N' : Int) ≤ 8) by omega, if_true, if_false]; exact Ev.now _
end Go.Proofs.Ytkmcefhchhahhaa.L
end
section
namespace Go.Proofs.Ytkmcefhchhahhaa.L
open Go.RowKit Go.Proofs.Ytkmcefhchhahhaa.F Go.Proofs.YtkmcefhchhahhaaW.PrintWords Go.Proofs.YtkmcefhchhahhaaW.PrintLast Go.Proofs.YtkmcefhchhahhaaW.PrintMore
open Go.Proofs.Ytkmcefhchhahhaa.Bits

theorem y6 (l l' : List Int) (h : l.length = l'.length) : (List.range l.length).all (fun i => decide (l.getD i 0 = l'.getD i 0)) = decide (l = l') := by
  rw [Bool.eq_iff_iff, List.all_eq_true, decide_eq_true_iff]
  constructor
  · intro hh
    apply List.ext_getElem h
    intro i h1 h2
    have := hh i (by simpa using h1)
    simpa [List.getElem?_eq_getElem h1, List.getElem?_eq_getElem h2] using this
  · rintro rfl i _
    simp

theorem JM (l l' : List Int) (h : l.length ≤ 17592186044416) : Ev (fun k => qf.f k l l') (decide (l = l')) := by
  unfold qf.f
  by_cases e : l.length = l'.length
  · simp only [show ((l.length : Int) = (l'.length : Int)) by omega, if_true]
    rw [← y6 l l' e]
    refine Qy _ _ _ (fun k => by simp only [qf.l0, show ¬ ((l.length : Int) < (l.length : Int)) by omega, if_false]) ?_
    intro i hi k
    simp only [qf.l0, show ((i : Int) < (l.length : Int)) by omega, show ((i : Int) < (l'.length : Int)) by omega, show (0 : Int) ≤ (i : Int) by omega, if_true, q4, qg (show i < 9223372036854775807 by omega), decide_eq_true_eq]
  · simp only [show ¬ ((l.length : Int) = (l'.length : Int)) by omega, if_false]
    rw [show decide (l = l') = false by simp; rintro rfl; exact e rfl]
    exact Ev.now _

theorem JA (l : List Int) (n : Int) (h : l.length ≤ 17592186044416) (h0 : 0 ≤ n) (h1 : n ≤ 1048576) : qK.f l n = some (if n < l.length then -1 else n - l.length) := by
  unfold qK.f
  have hw : wrap64 (n - (l.length : Int)) = n - (l.length : Int) := qR (by omega) (by omega)
  rw [hw]
  split
  · rw [if_pos (by omega)]
  · rw [if_neg (by omega)]
theorem yX (l : List Int) : ∀ n, n ≤ l.length → (List.range n).foldl (fun a i => a.set i (l.getD i 0)) (List.replicate l.length 0) = l.take n ++ List.replicate (l.length - n) 0
  | 0, _ => by simp
  | n + 1, h => by
    rw [List.range_succ, List.foldl_append, yX l n (by omega)]
    simp only [List.foldl_cons, List.foldl_nil]
    obtain ⟨m, hm⟩ : ∃ m, l.length - n = m + 1 := ⟨l.length - n - 1, by omega⟩
    rw [hm, List.replicate_succ, List.set_append_right _ _ (by simp; omega)]
    have : n - (List.take n l).length = 0 := by simp; omega
    rw [this, List.set_cons_zero, show l.length - (n + 1) = m by omega]
    have hg : l.getD n 0 = l[n] := by simp [List.getElem?_eq_getElem (show n < l.length by omega)]
    rw [List.take_succ_eq_append_getElem (by omega), List.append_assoc, List.singleton_append, hg]

theorem JE (l : List Int) (h : l.length ≤ 17592186044416) : Ev (fun k => qa.f k l) l := by
  unfold qa.f
  simp only [show (0 : Int) ≤ (l.length : Int) by omega, Int.toNat_natCast, show l.length ≤ 35184372088832 by omega, if_true]
  have key := vt (fun k s i => qa.l0 k l s i) l.length (fun a i => a.set i (l.getD i 0)) (fun _ s => s.length = l.length) id
    (fun s hs => by
      simp only [qa.l0, show ¬ ((l.length : Int) < (l.length : Int)) by omega, if_false]
      exact Ev.now _)
    (fun i s hi hs => ⟨by simp [hs], fun r hr => by
      simp only [qa.l0, show ((i : Int) < (l.length : Int)) by omega, show ((i : Int) < (s.length : Int)) by omega, show (0 : Int) ≤ (i : Int) by omega, if_true, Int.toNat_natCast, q4, qg (show i < 9223372036854775807 by omega)]
      exact hr⟩) (List.replicate l.length 0) (by simp)
  rw [yX l l.length (Nat.le_refl _)] at key
  simpa using key
end Go.Proofs.Ytkmcefhchhahhaa.L
end
section
namespace Go.Proofs.Ytkmcefhchhahhaa.L
open Go.RowKit Go.Proofs.Ytkmcefhchhahhaa.F Go.Proofs.YtkmcefhchhahhaaW.PrintWords Go.Proofs.YtkmcefhchhahhaaW.PrintLast Go.Proofs.YtkmcefhchhahhaaW.PrintMore
open Go.Proofs.Ytkmcefhchhahhaa.Bits
set_option linter.unusedSimpArgs false
/-- n numbers from m on. -/
def jA (n : Nat) (m : Int) : List Int := (List.range n).map fun i : Nat => m + (i : Int)
theorem jj (n : Nat) (m : Int) : (jA n m).length = n := by simp [jA]
theorem Qw (n : Nat) (m : Int) (i : Nat) (h : i < n) : (jA n m).getD i 0 = m + i := by simp [jA, h]
theorem yO (l : List Int) (m : Int) : ∀ n, n ≤ l.length → (List.range n).foldl (fun (s : List Int × Int) i => (s.1.set i s.2, s.2 + 1)) (l, m) = (jA n m ++ l.drop n, m + n)
  | 0, _ => by simp [jA]
  | n + 1, h => by
    rw [List.range_succ, List.foldl_append, yO l m n (by omega)]
    simp only [List.foldl_cons, List.foldl_nil, Prod.mk.injEq]
    refine ⟨?_, by omega⟩
    rw [List.set_append_right _ _ (by rw [jj]; exact Nat.le_refl n), jj, Nat.sub_self, List.drop_eq_getElem_cons (by omega), List.set_cons_zero]
    simp [jA, List.range_succ]
theorem ZM (l : List Int) (m : Int) (h : l.length ≤ 17592186044416) (h0 : 0 ≤ m) (h1 : m ≤ 140737488355328) : Ev (fun k => zY.f k l m) (m + l.length, jA l.length m) := by
  unfold zY.f
  have key := vt (fun k (s : List Int × Int) i => zY.l0 k s.1 s.2 i) l.length (fun s i => (s.1.set i s.2, s.2 + 1)) (fun i s => s.1.length = l.length ∧ s.2 = m + i) (fun s => (s.2, s.1))
    (fun s hs => by
      simp only [zY.l0, hs.1, show ¬ ((l.length : Int) < (l.length : Int)) by omega, if_false]
      exact Ev.now _)
    (fun i s hi hs => ⟨⟨by simp [hs.1], by simp only [hs.2]; omega⟩, fun r hr => by
      have hw : wrap64 (s.2 + 1) = s.2 + 1 := qR (by omega) (by omega)
      simp only [zY.l0, hs.1, show ((i : Int) < (l.length : Int)) by omega, show (0 : Int) ≤ (i : Int) by omega, if_true, Int.toNat_natCast, hw, qg (show i < 9223372036854775807 by omega)]
      exact hr⟩) (l, m) ⟨rfl, by simp⟩
  rw [yO l m l.length (Nat.le_refl _)] at key
  simpa using key
theorem QZ (n : Nat) (m : Int) (h : n ≤ 17592186044416) (h0 : 0 ≤ m) (h1 : m ≤ 140737488355328) : Ev (fun k => zZ.f k (jA n m) m) (m + n) := by
  unfold zZ.f
  have key := vt (fun k (s : Int) i => zZ.l0 k (jA n m) s i) n (fun s _ => s + 1) (fun i s => s = m + i) id
    (fun s hs => by
      simp only [zZ.l0, jj, show ¬ ((n : Int) < (n : Int)) by omega, if_false]
      exact Ev.now _)
    (fun i s hi hs => ⟨by rw [hs]; omega, fun r hr => by
      have hw : wrap64 (s + 1) = s + 1 := qR (by omega) (by omega)
      have hg : rd (jA n m) (i : Int) = s := by rw [q4, Qw n m i hi, hs]
      simp only [zZ.l0, jj, hg, show ((i : Int) < (n : Int)) by omega, show (0 : Int) ≤ (i : Int) by omega, if_true, hw, qg (show i < 9223372036854775807 by omega)]
      exact hr⟩) m (by simp)
  have e : ∀ n : Nat, (List.range n).foldl (fun (s : Int) _ => s + 1) m = m + n := by
    intro n
    induction n with
    | zero => simp
    | succ n ih => rw [List.range_succ, List.foldl_append, ih]; simp; omega
  rw [e n] at key
  exact key
end Go.Proofs.Ytkmcefhchhahhaa.L
end
section
namespace Go.Proofs.Ytkmcefhchhahhaa.L
open Go.RowKit Go.Proofs.Ytkmcefhchhahhaa.F Go.Proofs.YtkmcefhchhahhaaW.PrintWords Go.Proofs.YtkmcefhchhahhaaW.PrintLast Go.Proofs.YtkmcefhchhahhaaW.PrintMore
open Go.Proofs.Ytkmcefhchhahhaa.Bits
set_option linter.unusedSimpArgs false
theorem szM (n : Int) (l : List Int) (m0 : Int) (h : l.length ≤ 17592186044416) (h0 : 0 ≤ m0) (h1 : m0 ≤ 1048576) : ∃ m, qb.f n l m0 = some m ∧ (m < 0 ∨ (0 ≤ m ∧ m ≤ m0)) := by
  unfold qb.f
  rw [JA l m0 h h0 h1]
  simp only [Option.bind_some]
  by_cases hn : m0 < (l.length : Int)
  · rw [if_pos hn, if_pos (by decide)]; exact ⟨_, rfl, .inl (by decide)⟩
  · rw [if_neg hn, if_neg (by omega)]; exact ⟨_, rfl, .inr (by omega)⟩
theorem qZ (n : Int) (l : List Int) (h : l.length ≤ 17592186044416) : Ev (fun k => zl.f k n l) (n, l) := by
  unfold zl.f; exact Ev.bind (JE l h) (Ev.now _)
theorem vP (n : Int) (l : List Int) (h : l.length ≤ 17592186044416) : Ev (fun k => zr.f k n l n l) true := by
  unfold zr.f
  simp only [if_true]
  refine Ev.bind (JM l l h) ?_
  simp only [decide_true, if_true]; exact Ev.now _
theorem ya (n : Int) (l : List Int) (h : l.length ≤ 17592186044416) : Ev (fun k => zz.f k n l 1) (1 + l.length, jA l.length 1) := by
  unfold zz.f; exact Ev.bind (ZM l 1 h (by decide) (by decide)) (Ev.now _)
theorem JU (n : Int) (l : List Int) (m : Int) (h : l.length ≤ 17592186044416) (h0 : 0 ≤ m) (h1 : m ≤ 140737488355328) : Ev (fun k => zz.f k n l m) (m + l.length, jA l.length m) := by
  unfold zz.f; exact Ev.bind (ZM l m h h0 h1) (Ev.now _)
theorem Zz (n : Int) (m : Nat) (h : m ≤ 17592186044416) : Ev (fun k => qe.f k n (jA m 1) 1) (1 + m) := by
  unfold qe.f
  refine Ev.bind (QZ m 1 h (by decide) (by decide)) ?_
  rw [if_neg (by omega)]; exact Ev.now _
end Go.Proofs.Ytkmcefhchhahhaa.L
end
section
namespace Go.Proofs.Ytkmcefhchhahhaa.Pure
open Go.RowKit Go.Proofs.Ytkmcefhchhahhaa.F Go.Proofs.Ytkmcefhchhahhaa.L Go.Proofs.YtkmcefhchhahhaaW.PrintWords Go.Proofs.YtkmcefhchhahhaaW.PrintLast Go.Proofs.YtkmcefhchhahhaaW.PrintMore
set_option linter.unusedSimpArgs false
theorem FnExactDirectSum (n : Int) (l : List Int) (n' : Int) (l' : List Int) (_ : (Lit.int .i64 n).wf = true) (hl : l.length * 8 ≤ 140737488351232) (_ : ∀ x ∈ l, (Lit.int .i64 x).wf = true) (_ : (Lit.int .i64 n').wf = true) (hl' : l'.length * 8 ≤ 140737488351232) (_ : ∀ x ∈ l', (Lit.int .i64 x).wf = true) :
    ∃ k, zc.f k n l n' l' = some true := by
  have h1 : l.length ≤ 17592186044416 := by omega
  have h1' : l'.length ≤ 17592186044416 := by omega
  refine Ev.rounds ?_
  unfold zc.f
  obtain ⟨m, hm, hx⟩ := szM n l 1048576 h1 (by decide) (by decide)
  simp only [hm, Option.bind_some]
  by_cases h : m < 0
  · simp only [h, if_true]; exact Ev.now _
  obtain ⟨m', hm', hx'⟩ := szM n' l' m h1' (by omega) (by omega)
  simp only [h, if_false, hm', Option.bind_some]
  by_cases h' : m' < 0
  · simp only [h', if_true]; exact Ev.now _
  simp only [h', if_false]
  have hi := Zy n l n' l' h1 h1'
  have h2 := ZJ n l n' l'
  refine Ev.bind (qZ n l h1) (Ev.bind (qZ n' l' h1') (Ev.bind (Zo n l n' l' h1 h1') (Ev.bind (qZ n l h1) (Ev.bind (qZ n' l' h1') (Ev.bind hi ?_)))))
  generalize ZZ n l n' l' = t at hi h2 ⊢
  obtain ⟨tn, tl, tb⟩ := t
  have he := vP tn tl h2
  have hh := Zz tn tl.length h2
  refine Ev.bind he ?_
  simp only [if_true, bne_self_eq_false]
  refine Ev.succ ?_
  simp only [zc.j0, Bool.false_eq_true, if_false]
  refine Ev.bind (qZ n l h1) (Ev.bind (vP n l h1) ?_)
  simp only [if_true]
  refine Ev.bind (qZ n' l' h1') (Ev.bind (vP n' l' h1') ?_)
  simp only [if_true]
  refine Ev.bind (ya n l h1) (Ev.bind (JU n' l' (1 + l.length) h1' (by omega) (by omega)) ?_)
  simp only [show ¬ (1 + (l.length : Int) + (l'.length : Int) < 0) by omega, if_false]
  refine Ev.bind he ?_
  simp only [if_true, bne_self_eq_false]
  refine Ev.succ ?_
  simp only [zc.j1, Bool.false_eq_true, if_false]
  refine Ev.bind (ya tn tl h2) (Ev.bind hh ?_)
  simp only [show ¬ (1 + (tl.length : Int) < 0) by omega, if_false, if_true]
  refine Ev.bind (qZ n l h1) (Ev.bind (qZ n' l' h1') (Ev.bind hi (Ev.bind he ?_)))
  simp only [if_true, bne_self_eq_false]
  refine Ev.succ ?_
  simp only [zc.j2, Bool.false_eq_true, if_false]
  refine Ev.bind hh ?_
  simp only [show ¬ (1 + (tl.length : Int) < 0) by omega, if_false, if_true]
  exact Ev.now _
end Go.Proofs.Ytkmcefhchhahhaa.Pure
end
section
namespace Go.Proofs.Ytkmcefhchhahhaa.fnExactDirectSum
open Go.ChangeShapes Go.WideShapes Go.ChangeAt Go.RowKit Go.Joins
open Go.ChangeMaps (open_string shut_string)
set_option linter.unusedVariables false
theorem lifted (os : Os) (started : os.Started) (H : Type) (enc : TypeId × Value → H) :
    ReturnsInHanded {} Try.checked os 8 .any (Rows.fnExactDirectSumSpec.pre6 enc Try.prog Try.f8 Rows.fnExactDirectSumRow.domain false) (Rows.fnExactDirectSumSpec.post enc Try.prog Try.f8 false true false false) := by
  refine returnsInHanded_of_change_sized (C := Try.checked) Open.own started (by kernel_rfl) Try.func8
    (ChangeSpec.witness6 (enc := enc) (C := Try.checked) false ⟨#[], #[.agg #[.int .i64 0, .slice none 0 0], .agg #[.int .i64 0, .slice none 0 0]], []⟩ 8 (by kernel_rfl) (by kernel_rfl) (by kernel_rfl) (by kernel_rfl)) ?_
  intro W base args ds gs before hval0 hW hcnd hsz0 _
  have hsz : (DataW.weightsEach Try.prog (Try.f8.params.toList ++ Rows.fnExactDirectSumSpec.plain.varTypes Try.prog) (ds ++ gs)).all (· ≤ reachBytes) = true := hsz0
  have hval : ∀ (j : Nat) t v, Try.f8.params[j]? = some t → args[j]? = some v → Value.okWide Try.prog W .any base t v := hval0
  have hW' := hW
  obtain ⟨p, q, hA0, hV, rfl, hfz, hnd⟩ := hW
  have hA : DataW.TrodAll enc Try.prog W 0 (fun _ => true) true Try.f8.params.toList args.toList ds p := hA0
  rw [Try.params8] at hA hval hsz
  obtain ⟨v0, vs0, d0, ds0, p0, q0, hargs, rfl, rfl, h0, r0⟩ := trodAll_cons hA
  obtain ⟨v1, vs1, d1, ds1, p1, q1, rfl, rfl, rfl, h1, r1⟩ := trodAll_cons r0
  obtain ⟨rfl, rfl, rfl⟩ := trodAll_nil r1
  obtain rfl : args = #[v0, v1] := by cases args; simp_all
  obtain ⟨rfl, rfl⟩ := trodVars_none hV
  have k0 := h0
  have lt0 : ∀ x ∈ p0, x.block < W.heap.size := by obtain ⟨m, hm⟩ := k0; exact DataW.trod_lt m _ _ _ hm
  obtain ⟨v0_0, v0_1, y0_0, y0_1, fuel0, rfl, hd0, hp0, t0_0, t0_1⟩ := open_agg2 Try.underlying24 (by kernel_rfl) (by kernel_rfl) (hval 0 24 v0 rfl rfl) h0
  have z0 : (DataW.weightsEach Try.prog [3, 22] [y0_0.1, y0_1.1]).all (· ≤ reachBytes) = true := Open.y0 hsz (j := 0) (t := 24) rfl (congrArg some hd0) Try.underlying24
  obtain ⟨a0_0, e0_0, _, w0_0⟩ := DataW.trod_int Try.underlying3 t0_0
  obtain rfl : v0_0 = _ := (List.cons.inj e0_0).1
  obtain ⟨A0_1, c0_1, l0_1, rfl, hr0_1, hc0_1, hn0_1, hw0_1⟩ := Open.ZB (j := 1) Try.underlying22 Try.underlying3 (by kernel_rfl) (by kernel_rfl) z0 rfl rfl t0_1
  have k1 := h1
  have lt1 : ∀ x ∈ p1, x.block < W.heap.size := by obtain ⟨m, hm⟩ := k1; exact DataW.trod_lt m _ _ _ hm
  obtain ⟨v1_0, v1_1, y1_0, y1_1, fuel1, rfl, hd1, hp1, t1_0, t1_1⟩ := open_agg2 Try.underlying24 (by kernel_rfl) (by kernel_rfl) (hval 1 24 v1 rfl rfl) h1
  have z1 : (DataW.weightsEach Try.prog [3, 22] [y1_0.1, y1_1.1]).all (· ≤ reachBytes) = true := Open.y0 hsz (j := 1) (t := 24) rfl (congrArg some hd1) Try.underlying24
  obtain ⟨a1_0, e1_0, _, w1_0⟩ := DataW.trod_int Try.underlying3 t1_0
  obtain rfl : v1_0 = _ := (List.cons.inj e1_0).1
  obtain ⟨A1_1, c1_1, l1_1, rfl, hr1_1, hc1_1, hn1_1, hw1_1⟩ := Open.ZB (j := 1) Try.underlying22 Try.underlying3 (by kernel_rfl) (by kernel_rfl) z1 rfl rfl t1_1
  obtain ⟨k, h⟩ := Pure.FnExactDirectSum a0_0 l0_1 a1_0 l1_1 w0_0 hn0_1 hw0_1 w1_0 hn1_1 hw1_1
  refine (F.zc.calls (w := W) (hr0_1 := hr0_1) (hc0_1 := hc0_1) (hr1_1 := hr1_1) (hc1_1 := hc1_1) (h := h)).mono ?_
  rintro e W' ⟨he, hd⟩
  have bel : Below W.heap.size W W' := by first | exact hd | exact hd.below
  subst he
  exact ⟨_, rfl, _, _, _, [], _, [], hW', trodAll_mk1 (shut_bool Try.underlying4 _), (trodAll_cons_mk (Below.trod Open.laidOut (by kernel_rfl) (of_decide_eq_true (by kernel_rfl)) k0 bel lt0) (trodAll_cons_mk (Below.trod Open.laidOut (by kernel_rfl) (of_decide_eq_true (by kernel_rfl)) k1 bel lt1) trodAll_mk0)), rfl, bel.frame _, fun h => by cases h⟩
theorem over : Rows.fnExactDirectSumRow.holds Try.pinned (OpenSpec.ofChange Rows.fnExactDirectSumSpec) :=
  OpenClaim.holds_of_wide 8 Try.f8 rfl rfl rfl rfl rfl rfl rfl ⟨rfl, rfl, rfl, rfl, rfl⟩ rfl rfl rfl rfl rfl (by kernel_rfl) Try.func8 (by kernel_rfl)
    (of_decide_eq_true (by kernel_rfl)) (by unfold Func.isWrapper; first | (rw [if_pos (by decide +kernel)]; kernel_rfl) | (rw [if_neg (by decide +kernel)]; exact ⟨rfl, rfl⟩))
    (fun os started H enc _ => lifted os started H enc)
theorem proved : Rows.FnExactDirectSumSaid := over
end Go.Proofs.Ytkmcefhchhahhaa.fnExactDirectSum
namespace Go.Proofs.Ytkmcefhchhahhaa
/-- The row, under a short name, for the claim. -/
theorem fnExactDirectSum_holds : Rows.FnExactDirectSumSaid := fnExactDirectSum.proved
#print axioms fnExactDirectSum_holds
end Go.Proofs.Ytkmcefhchhahhaa
end
