/- Several texts of this session in one: LFromTable, LMark, LCase, PuFnExactFromRankTable, LawFnExactFromRankTable. Conditions: as each theorem says. -/
import Derived.Test.YtmeopnlkddflaaaZFromRankTable2
import Derived.Test.YtmeopnlkddflaaaZFromRankTable3
import Derived.Test.YtmeopnlkddflaaaZFromRankTable1
import Derived.Test.YtmeopnlkddflaaaRows
import Derived.Test.YtmeopnlkddflaaaZFromRankTable0
import Derived.WalkKit
import Derived.ProofKit
import Derived.OpenShut
import Derived.ShutString
import Derived.ChangeOld
import Derived.Below
import Derived.SizedLaws
import Derived.Lib.SmallJoins
set_option maxRecDepth 100000
section
namespace Go.Proofs.Ytmeopnlkddflaaa.L
open Go.RowKit Go.Proofs.Ytmeopnlkddflaaa.F Go.Proofs.YtmeopnlkddflaaaW.PrintWords Go.Proofs.YtmeopnlkddflaaaW.PrintLast Go.Proofs.YtmeopnlkddflaaaW.PrintMore
open Go.Proofs.Ytmeopnlkddflaaa.Bits
open Go.Proofs.Ytmeopnlkddflaaa.Mt (cnt full Mat jj)
set_option linter.unusedSimpArgs false
set_option linter.unusedVariables false
/-- Is a set's number in the table its size, and that of all elements? -/
def qP (N : Nat) (l : List Int) (s : Nat) : Bool := decide (l.getD s 0 = (cnt s : Int)) && decide (l.getD s 0 = l.getD (full N) 0)
def jM (N : Nat) (l : List Int) (m : Nat) : List Nat := (List.range m).filter (qP N l)
theorem vo (N : Nat) (l : List Int) (m : Nat) : (jM N l m).length ≤ m := by
  have := List.length_filter_le (qP N l) (List.range m)
  rwa [List.length_range] at this
def jk (n : Int) (l : List Int) : Int × List Int × Bool :=
  if (decide (0 ≤ n ∧ n ≤ 8) && decide (l.length = 2 ^ n.toNat)) && (qz n (ints (jM n.toNat l (2 ^ n.toNat))) && decide (je n (ints (jM n.toNat l (2 ^ n.toNat))) = l)) then (n, ints (jM n.toNat l (2 ^ n.toNat)), true) else (0, [], false)
theorem vP (n : Int) (l : List Int) : (jk n l).2.1.length ≤ 17592186044416 := by
  unfold jk; split
  · rename_i h
    simp only [Bool.and_eq_true, decide_eq_true_eq] at h
    have h1 := vo n.toNat l (2 ^ n.toNat)
    have h2 : 2 ^ n.toNat ≤ 2 ^ 8 := Nat.pow_le_pow_right (by decide) (by omega)
    rw [zK]; omega
  · simp
section
variable {N : Nat} {l : List Int}
theorem Q9 (hN : N ≤ 8) (hl : l.length = 2 ^ N) : Ev (fun k => zj.l0 k N l 0 N []) (if je N (ints (jM N l (2 ^ N))) = l then ((N : Int), ints (jM N l (2 ^ N)), true) else (0, [], false)) := by
  have hp : (2 : Nat) ^ N ≤ 2 ^ 8 := Nat.pow_le_pow_right (by decide) hN
  have hf : full N < l.length := by rw [hl]; exact Mt.Zy N
  have key := j9 (fun k acc s => zj.l0 k N l s N acc) (2 ^ N) (fun acc s => if qP N l s = true then acc ++ [(s : Int)] else acc) (fun s acc => acc = ints (jM N l s))
    (fun s acc hs ha => ⟨by
      rw [ha]; unfold jM
      rw [List.range_succ, List.filter_append]
      cases h : qP N l s <;> simp [ints, h], fun r hr => by
      have hlen : acc.length < 17592186044416 := by have := vo N l s; rw [ha, zK]; omega
      have hs8 := jj hN hs
      simp only [zj.l0, jF hN, Option.bind_some, jw.2 hs, if_true, show (0 : Int) ≤ (s : Int) by omega, show (s : Int) < (l.length : Int) by omega, show (0 : Int) ≤ ((full N : Nat) : Int) by omega, show ((full N : Nat) : Int) < (l.length : Int) by omega, qN, qe (show s < 9223372036854775807 by omega)]
      refine Ev.bind (yz _) ?_
      rw [vu hs8]
      by_cases h : l.getD s 0 = (cnt s : Int)
      · by_cases h2 : l.getD s 0 = l.getD (full N) 0
        · rw [show qP N l s = true by unfold qP; rw [decide_eq_true h, decide_eq_true h2]; rfl] at hr
          simp only [if_true] at hr
          simp only [if_pos h, if_pos h2, if_pos hlen]; exact hr
        · rw [show qP N l s = false by unfold qP; rw [decide_eq_false h2, Bool.and_false]] at hr
          simp only [Bool.false_eq_true, if_false] at hr
          simp only [if_pos h, if_neg h2]; exact hr
      · rw [show qP N l s = false by unfold qP; rw [decide_eq_false h, Bool.false_and]] at hr
        simp only [Bool.false_eq_true, if_false] at hr
        simp only [if_neg h]; exact hr⟩) [] (by simp [jM, ints])
  refine key.2 _ (Ev.succ ?_)
  rw [key.1]
  simp only [zj.l0, jF hN, Option.bind_some, if_neg (fun h => Nat.lt_irrefl _ (jw.1 h))]
  have hlen := vo N l (2 ^ N)
  refine Ev.bind (y6 _ _ (by rw [zK]; omega)) (Ev.bind (QR _ _ (j6 _ _)) ?_)
  by_cases he : je (N : Int) (ints (jM N l (2 ^ N))) = l
  · simp only [decide_eq_true he, if_true]; rw [if_pos he]; exact Ev.now _
  · simp only [decide_eq_false he, Bool.false_eq_true, if_false]; rw [if_neg he]; exact Ev.now _
end
theorem vN (n : Int) (l : List Int) (hl : l.length ≤ 17592186044416) : Ev (fun k => zj.f k n l) (jk n l) := by
  unfold zj.f jk
  rw [QJ]
  simp only [Option.bind_some]
  by_cases h : 0 ≤ n ∧ n ≤ 8
  · obtain ⟨N, rfl⟩ : ∃ N : Nat, n = N := ⟨n.toNat, by omega⟩
    have hN : N ≤ 8 := by omega
    have hp : (2 : Nat) ^ N ≤ 2 ^ 8 := Nat.pow_le_pow_right (by decide) hN
    have hfl : full N + 1 = 2 ^ N := by unfold Mt.full; have := Nat.two_pow_pos N; omega
    have hw : wrap64 (((full N : Nat) : Int) + 1) = ((2 ^ N : Nat) : Int) := by rw [qR (by omega) (by omega)]; omega
    simp only [decide_eq_true h, if_true, jF hN, Option.bind_some, hw, Bool.true_and, Int.toNat_natCast]
    refine Ev.succ ?_
    simp only [zj.j0]
    by_cases hlen : l.length = 2 ^ N
    · have e : ((l.length : Int) != ((2 ^ N : Nat) : Int)) = false := bne_eq_false_iff_eq.mpr (by omega)
      rw [decide_eq_true hlen]
      simp only [e, Bool.false_eq_true, if_false, Bool.true_and]
      have hs := Q9 hN hlen
      by_cases he : je (N : Int) (ints (jM N l (2 ^ N))) = l
      · have hm : qz (N : Int) (ints (jM N l (2 ^ N))) = true := by
          cases hm : qz (N : Int) (ints (jM N l (2 ^ N)))
          · unfold je at he
            rw [hm] at he
            simp only [Bool.false_eq_true, if_false] at he
            rw [← he] at hlen
            have := Nat.two_pow_pos N
            rw [List.length_nil] at hlen; omega
          · rfl
        rw [if_pos he] at hs
        simp only [hm, decide_eq_true he, Bool.and_self, if_true]; exact hs
      · rw [if_neg he] at hs
        simp only [decide_eq_false he, Bool.and_false, Bool.false_eq_true, if_false]; exact hs
    · have e : ((l.length : Int) != ((2 ^ N : Nat) : Int)) = true := bne_iff_ne.mpr (by omega)
      rw [decide_eq_false hlen]
      simp only [e, if_true, Bool.false_and, Bool.false_eq_true, if_false]; exact Ev.now _
  · simp only [decide_eq_false h, Bool.false_eq_true, if_false, Bool.false_and]
    refine Ev.succ ?_
    simp only [zj.j0, if_true]; exact Ev.now _
theorem vR (n : Int) (l : List Int) (hl : l.length ≤ 17592186044416) : Ev (fun k => zf.f k n l) (jk n l) := by
  unfold zf.f jk
  rw [vn]
  simp only [Option.bind_some]
  by_cases h : 0 ≤ n ∧ n ≤ 8
  · obtain ⟨N, rfl⟩ : ∃ N : Nat, n = N := ⟨n.toNat, by omega⟩
    have hN : N ≤ 8 := by omega
    have hp : (2 : Nat) ^ N ≤ 2 ^ 8 := Nat.pow_le_pow_right (by decide) hN
    rw [decide_eq_true h]
    simp only [if_true, show (0 : Int) ≤ (N : Int) by omega, jg N (by omega), Bool.true_and, Int.toNat_natCast]
    refine Ev.succ ?_
    simp only [zf.j0]
    by_cases hlen : l.length = 2 ^ N
    · have e : ((l.length : Int) != ((2 ^ N : Nat) : Int)) = false := bne_eq_false_iff_eq.mpr (by omega)
      have hf : full N < l.length := by rw [hlen]; exact Mt.Zy N
      rw [decide_eq_true hlen]
      simp only [e, Bool.false_eq_true, if_false, Bool.true_and, jE hN, Option.bind_some, show (0 : Int) ≤ ((full N : Nat) : Int) by omega, show ((full N : Nat) : Int) < (l.length : Int) by omega, if_true, qN]
      have hs : Ev (fun k => zv.f k (N : Int) l (l.getD (full N) 0)) (ints (jM N l (2 ^ N))) := by
        unfold zv.f jM
        refine Qk (fun _ => zv.q l (l.getD (full N) 0)) (qP N l) hN fun s hs => ?_
        have hs8 := jj hN hs
        have eq : zv.q l (l.getD (full N) 0) (s : Int) = some (qP N l s) := by
          unfold zv.q qP
          simp only [show (0 : Int) ≤ (s : Int) by omega, show (s : Int) < (l.length : Int) by omega, if_true, qN, yp, vu hs8, Option.bind_some]
          by_cases h1 : l.getD s 0 = l.getD (full N) 0
          · rw [if_pos h1, decide_eq_true h1, Bool.and_true, h1, Option.some.injEq, Bool.eq_iff_iff, decide_eq_true_eq, decide_eq_true_eq]
            exact eq_comm
          · rw [if_neg h1, decide_eq_false h1, Bool.and_false]
        rw [eq]; exact Ev.now _
      have hlen2 := vo N l (2 ^ N)
      refine Ev.bind hs (Ev.bind (vH (N : Int) (ints (jM N l (2 ^ N))) (by rw [zK]; omega)) ?_)
      cases hm : qz (N : Int) (ints (jM N l (2 ^ N)))
      · simp only [Bool.false_eq_true, if_false, Bool.false_and]; exact Ev.now _
      simp only [if_true, Bool.true_and]
      refine Ev.bind (y3 (N : Int) (ints (jM N l (2 ^ N))) (by rw [zK]; omega)) (Ev.bind (QU _ _ (j6 _ _)) ?_)
      by_cases he : je (N : Int) (ints (jM N l (2 ^ N))) = l
      · simp only [decide_eq_true he, if_true]; exact Ev.now _
      · simp only [decide_eq_false he, Bool.false_eq_true, if_false]; exact Ev.now _
    · have e : ((l.length : Int) != ((2 ^ N : Nat) : Int)) = true := bne_iff_ne.mpr (by omega)
      rw [decide_eq_false hlen]
      simp only [e, if_true, Bool.false_and, Bool.false_eq_true, if_false]; exact Ev.now _
  · simp only [decide_eq_false h, Bool.false_eq_true, if_false, Bool.false_and]
    refine Ev.succ ?_
    simp only [zf.j0, if_true]; exact Ev.now _
end Go.Proofs.Ytmeopnlkddflaaa.L
end
section
namespace Go.Proofs.Ytmeopnlkddflaaa.L
open Go.RowKit Go.Proofs.Ytmeopnlkddflaaa.F Go.Proofs.YtmeopnlkddflaaaW.PrintWords Go.Proofs.YtmeopnlkddflaaaW.PrintLast Go.Proofs.YtmeopnlkddflaaaW.PrintMore
open Go.Proofs.Ytmeopnlkddflaaa.Bits
set_option linter.unusedSimpArgs false
/-- n numbers from m on. -/
def jH (n : Nat) (m : Int) : List Int := (List.range n).map fun i : Nat => m + (i : Int)
theorem jh (n : Nat) (m : Int) : (jH n m).length = n := by simp [jH]
theorem ZP (n : Nat) (m : Int) (i : Nat) (h : i < n) : (jH n m).getD i 0 = m + i := by simp [jH, h]
theorem yx (l : List Int) (m : Int) : ∀ n, n ≤ l.length → (List.range n).foldl (fun (s : List Int × Int) i => (s.1.set i s.2, s.2 + 1)) (l, m) = (jH n m ++ l.drop n, m + n)
  | 0, _ => by simp [jH]
  | n + 1, h => by
    rw [List.range_succ, List.foldl_append, yx l m n (by omega)]
    simp only [List.foldl_cons, List.foldl_nil, Prod.mk.injEq]
    refine ⟨?_, by omega⟩
    rw [List.set_append_right _ _ (by rw [jh]; exact Nat.le_refl n), jh, Nat.sub_self, List.drop_eq_getElem_cons (by omega), List.set_cons_zero]
    simp [jH, List.range_succ]
theorem yY (l : List Int) (m : Int) (h : l.length ≤ 17592186044416) (h0 : 0 ≤ m) (h1 : m ≤ 140737488355328) : Ev (fun k => zL.f k l m) (m + l.length, jH l.length m) := by
  unfold zL.f
  have key := jr (fun k (s : List Int × Int) i => zL.l0 k s.1 s.2 i) l.length (fun s i => (s.1.set i s.2, s.2 + 1)) (fun i s => s.1.length = l.length ∧ s.2 = m + i) (fun s => (s.2, s.1))
    (fun s hs => by
      simp only [zL.l0, hs.1, show ¬ ((l.length : Int) < (l.length : Int)) by omega, if_false]
      exact Ev.now _)
    (fun i s hi hs => ⟨⟨by simp [hs.1], by simp only [hs.2]; omega⟩, fun r hr => by
      have hw : wrap64 (s.2 + 1) = s.2 + 1 := qR (by omega) (by omega)
      simp only [zL.l0, hs.1, show ((i : Int) < (l.length : Int)) by omega, show (0 : Int) ≤ (i : Int) by omega, if_true, Int.toNat_natCast, hw, qe (show i < 9223372036854775807 by omega)]
      exact hr⟩) (l, m) ⟨rfl, by simp⟩
  rw [yx l m l.length (Nat.le_refl _)] at key
  simpa using key
theorem Qj (n : Nat) (m : Int) (h : n ≤ 17592186044416) (h0 : 0 ≤ m) (h1 : m ≤ 140737488355328) : Ev (fun k => zT.f k (jH n m) m) (m + n) := by
  unfold zT.f
  have key := jr (fun k (s : Int) i => zT.l0 k (jH n m) s i) n (fun s _ => s + 1) (fun i s => s = m + i) id
    (fun s hs => by
      simp only [zT.l0, jh, show ¬ ((n : Int) < (n : Int)) by omega, if_false]
      exact Ev.now _)
    (fun i s hi hs => ⟨by rw [hs]; omega, fun r hr => by
      have hw : wrap64 (s + 1) = s + 1 := qR (by omega) (by omega)
      have hg : rd (jH n m) (i : Int) = s := by rw [qN, ZP n m i hi, hs]
      simp only [zT.l0, jh, hg, show ((i : Int) < (n : Int)) by omega, show (0 : Int) ≤ (i : Int) by omega, if_true, hw, qe (show i < 9223372036854775807 by omega)]
      exact hr⟩) m (by simp)
  have e : ∀ n : Nat, (List.range n).foldl (fun (s : Int) _ => s + 1) m = m + n := by
    intro n
    induction n with
    | zero => simp
    | succ n ih => rw [List.range_succ, List.foldl_append, ih]; simp; omega
  rw [e n] at key
  exact key
end Go.Proofs.Ytmeopnlkddflaaa.L
end
section
namespace Go.Proofs.Ytmeopnlkddflaaa.L
open Go.RowKit Go.Proofs.Ytmeopnlkddflaaa.F Go.Proofs.YtmeopnlkddflaaaW.PrintWords Go.Proofs.YtmeopnlkddflaaaW.PrintLast Go.Proofs.YtmeopnlkddflaaaW.PrintMore
open Go.Proofs.Ytmeopnlkddflaaa.Bits
set_option linter.unusedSimpArgs false
theorem ZN (n : Int) (l : List Int) (h : l.length ≤ 17592186044416) : Ev (fun k => zy.f k n l n l) true := by
  unfold zy.f
  simp only [if_true]
  refine Ev.bind (Qh l l h) ?_
  simp only [decide_true, if_true]; exact Ev.now _
theorem yZ (n : Int) (l : List Int) (h : l.length ≤ 17592186044416) : Ev (fun k => qs.f k n l 1) (1 + l.length, jH l.length 1) := by
  unfold qs.f; exact Ev.bind (yY l 1 h (by decide) (by decide)) (Ev.now _)
theorem yW (n : Int) (m : Nat) (h : m ≤ 17592186044416) : Ev (fun k => qd.f k n (jH m 1) 1) (1 + m) := by
  unfold qd.f
  refine Ev.bind (Qj m 1 h (by decide) (by decide)) ?_
  rw [if_neg (by omega)]; exact Ev.now _
end Go.Proofs.Ytmeopnlkddflaaa.L
end
section
namespace Go.Proofs.Ytmeopnlkddflaaa.Pure
open Go.RowKit Go.Proofs.Ytmeopnlkddflaaa.F Go.Proofs.Ytmeopnlkddflaaa.L Go.Proofs.YtmeopnlkddflaaaW.PrintWords Go.Proofs.YtmeopnlkddflaaaW.PrintLast Go.Proofs.YtmeopnlkddflaaaW.PrintMore
set_option linter.unusedSimpArgs false
theorem FnExactFromRankTable (n : Int) (l : List Int) (_ : (Lit.int .i64 n).wf = true) (hl : l.length * 8 ≤ 140737488351232) (_ : ∀ x ∈ l, (Lit.int .i64 x).wf = true) :
    ∃ k, zc.f k n l = some true := by
  have h1 : l.length ≤ 17592186044416 := by omega
  refine Ev.rounds ?_
  unfold zc.f
  by_cases h : (l.length : Int) > 1048576
  · simp only [h, if_true]; exact Ev.now _
  simp only [h, if_false]
  have hi := vR n l h1
  have h2 := vP n l
  refine Ev.bind (yJ l h1) (Ev.bind (vN n l h1) (Ev.bind (yJ l h1) (Ev.bind hi ?_)))
  generalize jk n l = t at hi h2 ⊢
  obtain ⟨tn, tl, tb⟩ := t
  have he := ZN tn tl h2
  have hh := yW tn tl.length h2
  have hx := Qh l l h1
  simp only [decide_true] at hx
  refine Ev.bind he ?_
  simp only [if_true, bne_self_eq_false]
  refine Ev.succ ?_
  simp only [zc.j0, Bool.false_eq_true, if_false]
  refine Ev.bind (yJ l h1) (Ev.bind hx ?_)
  simp only [if_true]
  refine Ev.bind (yY l 1 h1 (by omega) (by omega)) ?_
  simp only [show ¬ (1 + (l.length : Int) < 0) by omega, if_false]
  refine Ev.bind he ?_
  simp only [if_true, bne_self_eq_false]
  refine Ev.succ ?_
  simp only [zc.j1, Bool.false_eq_true, if_false]
  refine Ev.bind (yZ tn tl h2) (Ev.bind hh ?_)
  simp only [show ¬ (1 + (tl.length : Int) < 0) by omega, if_false, if_true]
  refine Ev.bind (yJ l h1) (Ev.bind hi (Ev.bind he ?_))
  simp only [if_true, bne_self_eq_false]
  refine Ev.succ ?_
  simp only [zc.j2, Bool.false_eq_true, if_false]
  refine Ev.bind hh ?_
  simp only [show ¬ (1 + (tl.length : Int) < 0) by omega, if_false, if_true]
  exact Ev.now _
end Go.Proofs.Ytmeopnlkddflaaa.Pure
end
section
namespace Go.Proofs.Ytmeopnlkddflaaa.fnExactFromRankTable
open Go.ChangeShapes Go.WideShapes Go.ChangeAt Go.RowKit Go.Joins
open Go.ChangeMaps (open_string shut_string)
set_option linter.unusedVariables false
theorem lifted (os : Os) (started : os.Started) (H : Type) (enc : TypeId × Value → H) :
    ReturnsInHanded {} Try.checked os 8 .any (Rows.fnExactFromRankTableSpec.pre6 enc Try.prog Try.f8 Rows.fnExactFromRankTableRow.domain false) (Rows.fnExactFromRankTableSpec.post enc Try.prog Try.f8 false true false false) := by
  refine returnsInHanded_of_change_sized (C := Try.checked) Open.own started (by kernel_rfl) Try.func8
    (ChangeSpec.witness6 (enc := enc) (C := Try.checked) false ⟨#[], #[.int .i64 0, .slice none 0 0], []⟩ 8 (by kernel_rfl) (by kernel_rfl) (by kernel_rfl) (by kernel_rfl)) ?_
  intro W base args ds gs before hval0 hW hcnd hsz0 _
  have hsz : (DataW.weightsEach Try.prog (Try.f8.params.toList ++ Rows.fnExactFromRankTableSpec.plain.varTypes Try.prog) (ds ++ gs)).all (· ≤ reachBytes) = true := hsz0
  have hval : ∀ (j : Nat) t v, Try.f8.params[j]? = some t → args[j]? = some v → Value.okWide Try.prog W .any base t v := hval0
  have hW' := hW
  obtain ⟨p, q, hA0, hV, rfl, hfz, hnd⟩ := hW
  have hA : DataW.TrodAll enc Try.prog W 0 (fun _ => true) true Try.f8.params.toList args.toList ds p := hA0
  rw [Try.params8] at hA hval hsz
  obtain ⟨v0, vs0, d0, ds0, p0, q0, hargs, rfl, rfl, h0, r0⟩ := trodAll_cons hA
  obtain ⟨v1, vs1, d1, ds1, p1, q1, rfl, rfl, rfl, h1, r1⟩ := trodAll_cons r0
  obtain ⟨rfl, rfl, rfl⟩ := trodAll_nil r1
  obtain rfl : args = #[v0, v1] := by cases args; simp_all
  obtain ⟨rfl, rfl⟩ := trodVars_none hV
  obtain ⟨a0, rfl, rfl, rfl, w0⟩ := open_int Try.underlying3 (hval 0 3 v0 rfl rfl) h0
  have k1 := h1
  have lt1 : ∀ x ∈ p1, x.block < W.heap.size := by obtain ⟨m, hm⟩ := k1; exact DataW.trod_lt m _ _ _ hm
  obtain ⟨x1, n1, q1_, rfl⟩ := okWide_slice Try.underlying22 (hval 1 22 v1 rfl rfl)
  obtain ⟨fuel1, g1⟩ := h1
  have g1' : DataW.trod enc Try.prog W 0 (fun _ => true) true fuel1 22 [.slice x1 n1 q1_] = some (d1, p1) := by simpa [Value.cells] using g1
  obtain ⟨A1, c1, l1, e1, hr1, hc1, hn1, hw1⟩ := Open.Qm (ts := [3, 22]) (j := 1) Try.underlying22 Try.underlying3 (by kernel_rfl) (by kernel_rfl) hsz rfl rfl g1'
  obtain ⟨rfl, rfl, rfl⟩ : x1 = A1 ∧ n1 = l1.length ∧ q1_ = c1 := by simpa using e1
  obtain ⟨k, h⟩ := Pure.FnExactFromRankTable a0 l1 w0 hn1 hw1
  refine (F.zc.calls (w := W) (hr1 := hr1) (hc1 := hc1) (h := h)).mono ?_
  rintro e W' ⟨he, hd⟩
  have bel : Below W.heap.size W W' := by first | exact hd | exact hd.below
  subst he
  exact ⟨_, rfl, _, _, _, [], _, [], hW', trodAll_mk1 (shut_bool Try.underlying4 _), (trodAll_cons_mk (shut_int Try.underlying3 w0) (trodAll_cons_mk (Below.trod Open.laidOut (by kernel_rfl) (of_decide_eq_true (by kernel_rfl)) k1 bel lt1) trodAll_mk0)), rfl, bel.frame _, fun h => by cases h⟩
theorem over : Rows.fnExactFromRankTableRow.holds Try.pinned (OpenSpec.ofChange Rows.fnExactFromRankTableSpec) :=
  OpenClaim.holds_of_wide 8 Try.f8 rfl rfl rfl rfl rfl rfl rfl ⟨rfl, rfl, rfl, rfl, rfl⟩ rfl rfl rfl rfl rfl (by kernel_rfl) Try.func8 (by kernel_rfl)
    (of_decide_eq_true (by kernel_rfl)) (by unfold Func.isWrapper; first | (rw [if_pos (by decide +kernel)]; kernel_rfl) | (rw [if_neg (by decide +kernel)]; exact ⟨rfl, rfl⟩))
    (fun os started H enc _ => lifted os started H enc)
theorem proved : Rows.FnExactFromRankTableSaid := over
end Go.Proofs.Ytmeopnlkddflaaa.fnExactFromRankTable
namespace Go.Proofs.Ytmeopnlkddflaaa
/-- The row, under a short name, for the claim. -/
theorem fnExactFromRankTable_holds : Rows.FnExactFromRankTableSaid := fnExactFromRankTable.proved
#print axioms fnExactFromRankTable_holds
end Go.Proofs.Ytmeopnlkddflaaa
end
