/-
  How many pieces some edges of a graph leave: of the program and of the reference the same. Condition: lists of at most 2^44 elements.
-/
import Derived.Test.YtopkfhnnapncgaaFx16
import Derived.Test.YtopkfhnnapncgaaLGraph
namespace Go.Proofs.Ytopkfhnnapncgaa.L
open Go.RowKit Go.Proofs.Ytopkfhnnapncgaa.F Go.Proofs.YtopkfhnnapncgaaW.PrintWords Go.Proofs.YtopkfhnnapncgaaW.PrintLast Go.Proofs.YtopkfhnnapncgaaW.PrintMore
open Go.Proofs.Ytopkfhnnapncgaa.Bits
open Go.Proofs.Ytopkfhnnapncgaa.Mt (elems mem_elems)
set_option linter.unusedSimpArgs false
set_option linter.unusedVariables false
/-- Whoever is b becomes a. -/
def relabel (l : List Int) (a b : Int) : List Int := l.map fun x => if x = b then a else x
/-- One edge: the pieces of its ends become one. -/
def pstep (F T : List Int) (st : List Int × Int) (k : Nat) : List Int × Int :=
  if st.1.getD (F.getD k 0).toNat 0 = st.1.getD (T.getD k 0).toNat 0 then st else (relabel st.1 (st.1.getD (F.getD k 0).toNat 0) (st.1.getD (T.getD k 0).toNat 0), st.2 - 1)
def numbers (V : Nat) : List Int := (List.range V).map fun i : Nat => (i : Int)
def piecesN (V : Nat) (F T : List Int) (s : Nat) : Int := ((elems s).foldl (pstep F T) (numbers V, (V : Int))).2
def piecesI (v : Int) (F T : List Int) (s : Int) : Int := if isGraph v F T && decide (0 ≤ s ∧ s < 2 ^ F.length) then piecesN v.toNat F T s.toNat else -1
theorem relabel_length (l : List Int) (a b : Int) : (relabel l a b).length = l.length := by simp [relabel]
theorem pstep_length (F T : List Int) (st : List Int × Int) (k : Nat) : (pstep F T st k).1.length = st.1.length := by
  unfold pstep; split
  · rfl
  · exact relabel_length _ _ _
theorem fold_relabel (l : List Int) (a b : Int) : ∀ n, n ≤ l.length → (List.range n).foldl (fun s i => if s.getD i 0 = b then s.set i a else s) l = relabel (l.take n) a b ++ l.drop n
  | 0, _ => by simp [relabel]
  | n + 1, h => by
    rw [List.range_succ, List.foldl_append, fold_relabel l a b n (by omega)]
    have hl : (relabel (l.take n) a b).length = n := by rw [relabel_length]; simp; omega
    have hd : l.drop n = l[n] :: l.drop (n + 1) := List.drop_eq_getElem_cons (by omega)
    have hg : (relabel (l.take n) a b ++ l.drop n).getD n 0 = l[n] := by
      rw [List.getD_eq_getElem?_getD, List.getElem?_append_right (by omega), hl, Nat.sub_self, hd]; rfl
    simp only [List.foldl_cons, List.foldl_nil, hg]
    have ht : l.take (n + 1) = l.take n ++ [l[n]] := List.take_succ_eq_append_getElem (by omega)
    by_cases hb : l[n] = b
    · rw [if_pos hb, List.set_append_right _ _ (by omega), hl, Nat.sub_self, hd, List.set_cons_zero, ht]
      simp [relabel, hb]
    · rw [if_neg hb, hd, ht]
      unfold relabel
      rw [List.map_append, List.append_assoc, List.map_cons, if_neg hb]; rfl
section
variable {V : Nat} {F T : List Int}
/-- The relabelling loop of the reference, and what stands behind it. -/
theorem relabel_s (hV : V ≤ 6) (x1 x7 x8 a b : Int) (l : List Int) (hl : l.length = V) (r : Int)
    (hr : Ev (fun k => spec_l14Pieces.l1 k x1 (relabel l a b) (wrap64 (x7 - 1)) (wrap64 (x8 + 1)) V F T) r) : Ev (fun k => spec_l14Pieces.l2 k x1 l x7 x8 a b 0 V F T) r := by
  have key := loop_reach (fun k s i => spec_l14Pieces.l2 k x1 s x7 x8 a b i V F T) V (fun s i => if s.getD i 0 = b then s.set i a else s) (fun _ s => s.length = V)
    (fun i s hi hs => ⟨by split <;> simp [hs], fun r hr => by
      simp only [spec_l14Pieces.l2, hs, show ((i : Int) < (V : Int)) by omega, show (0 : Int) ≤ (i : Int) by omega, if_true, rd_getD, Int.toNat_natCast, wrap_succ (show i < 9223372036854775807 by omega)]
      by_cases h : s.getD i 0 = b
      · simp only [h, if_true] at hr ⊢; exact hr
      · simp only [h, if_false] at hr ⊢; exact hr⟩) l hl
  refine key.2 r (Ev.succ ?_)
  have e := fold_relabel l a b l.length (Nat.le_refl _)
  rw [List.take_length, List.drop_length, List.append_nil, hl] at e
  rw [e]
  simp only [spec_l14Pieces.l2, show ¬ ((V : Int) < (V : Int)) by omega, if_false]
  exact hr
theorem relabel_i (hV : V ≤ 6) (x7 a b x30 x31 v : Int) (es l : List Int) (hl : l.length = V) (r : Int)
    (hr : Ev (fun k => impl_pieces.l1 k (relabel l a b) x7 es x30 (wrap64 (x31 + 1)) v F T) r) : Ev (fun k => impl_pieces.l2 k l x7 a b es x30 x31 (l.length : Int) 0 v F T) r := by
  have key := loop_reach (fun k s i => impl_pieces.l2 k s x7 a b es x30 x31 (l.length : Int) i v F T) V (fun s i => if s.getD i 0 = b then s.set i a else s) (fun _ s => s.length = V)
    (fun i s hi hs => ⟨by split <;> simp [hs], fun r hr => by
      simp only [impl_pieces.l2, hs, hl, show ((i : Int) < (V : Int)) by omega, show (0 : Int) ≤ (i : Int) by omega, if_true, rd_getD, Int.toNat_natCast, wrap_succ (show i < 9223372036854775807 by omega)]
      by_cases h : s.getD i 0 = b
      · simp only [h, if_true, hl] at hr ⊢; exact hr
      · simp only [h, if_false, hl] at hr ⊢; exact hr⟩) l hl
  refine key.2 r (Ev.succ ?_)
  have e := fold_relabel l a b l.length (Nat.le_refl _)
  rw [List.take_length, List.drop_length, List.append_nil, hl] at e
  rw [e]
  simp only [impl_pieces.l2, hl, show ¬ ((V : Int) < (V : Int)) by omega, if_false]
  exact hr
theorem ends_in (h : ∀ i, i < F.length → (0 ≤ F.getD i 0 ∧ F.getD i 0 < V ∧ 0 ≤ T.getD i 0 ∧ T.getD i 0 < V)) {i : Nat} (hi : i < F.length) : ∃ a b : Nat, F.getD i 0 = a ∧ T.getD i 0 = b ∧ a < V ∧ b < V := by
  obtain ⟨h1, h2, h3, h4⟩ := h i hi
  obtain ⟨a, ha⟩ := Int.eq_ofNat_of_zero_le h1
  obtain ⟨b, hb⟩ := Int.eq_ofNat_of_zero_le h3
  exact ⟨a, b, ha, hb, by omega, by omega⟩
theorem pieces_s (hV : V ≤ 6) (hF : F.length ≤ 8) (hFT : F.length = T.length) (h : ∀ i, i < F.length → (0 ≤ F.getD i 0 ∧ F.getD i 0 < V ∧ 0 ≤ T.getD i 0 ∧ T.getD i 0 < V)) {s : Nat} (hs : s < 2 ^ F.length) :
    Ev (fun k => spec_l14Pieces.f k V F T s) (piecesN V F T s) := by
  unfold spec_l14Pieces.f
  have hp : (2 : Nat) ^ F.length ≤ 2 ^ 8 := Nat.pow_le_pow_right (by decide) hF
  have key := loop_reach (fun k acc i => spec_l14Pieces.l0 k s acc i V F T) V (fun acc i => acc ++ [(i : Int)]) (fun i acc => acc = numbers i)
    (fun i acc hi ha => ⟨by rw [ha]; simp [numbers, List.range_succ], fun r hr => by
      have hl : acc.length < 17592186044416 := by rw [ha]; simp [numbers]; omega
      simp only [spec_l14Pieces.l0, show ((i : Int) < (V : Int)) by omega, hl, if_true, wrap_succ (show i < 9223372036854775807 by omega)]
      exact hr⟩) [] rfl
  refine key.2 _ (Ev.succ ?_)
  rw [key.1]
  simp only [spec_l14Pieces.l0, show ¬ ((V : Int) < (V : Int)) by omega, if_false]
  -- the edges, one by one
  have key2 := loop_fold0 (fun k (st : List Int × Int) i => spec_l14Pieces.l1 k s st.1 st.2 i V F T) F.length (fun st i => if s.testBit i then pstep F T st i else st) (fun i st => st.1.length = V ∧ -8 ≤ st.2 + 8 - V + i ∧ st.2 ≤ V ∧ (V : Int) - i ≤ st.2) (fun st => st.2)
    (fun st hst => by
      simp only [spec_l14Pieces.l1, show ¬ ((F.length : Int) < (F.length : Int)) by omega, if_false]
      exact Ev.now _)
    (fun i st hi hst => by
      obtain ⟨a, b, ha, hb, haV, hbV⟩ := ends_in h hi
      have hps : pstep F T st i = if st.1.getD a 0 = st.1.getD b 0 then st else (relabel st.1 (st.1.getD a 0) (st.1.getD b 0), st.2 - 1) := by
        unfold pstep; rw [ha, hb]; rfl
      refine ⟨?_, fun r hr => ?_⟩
      · split
        · rw [hps]; split
          · exact ⟨hst.1, by omega, by omega, by omega⟩
          · exact ⟨by rw [relabel_length]; exact hst.1, by simp only; omega, by simp only; omega, by simp only; omega⟩
        · exact ⟨hst.1, by omega, by omega, by omega⟩
      · have hbit : spec_l2Has.f (s : Int) (i : Int) = some (s.testBit i) := by
          unfold spec_l2Has.f; rw [wrapu_in (by omega) (by omega), if_pos (by omega), has_bit _ _ (by omega) (by omega)]
        simp only [spec_l14Pieces.l1, show ((i : Int) < (F.length : Int)) by omega, show ((i : Int) < (T.length : Int)) by omega, show (0 : Int) ≤ (i : Int) by omega, if_true, rd_getD, ha, hb, hst.1, show (0 : Int) ≤ (a : Int) by omega, show (0 : Int) ≤ (b : Int) by omega, show ((a : Int) < (V : Int)) by omega, show ((b : Int) < (V : Int)) by omega, hbit, Option.bind_some]
        cases hsb : s.testBit i
        · simp only [hsb, Bool.false_eq_true, if_false] at hr ⊢
          refine Ev.succ ?_
          simp only [spec_l14Pieces.j2, if_true, wrap_succ (show i < 9223372036854775807 by omega)]
          exact hr
        · simp only [hsb, if_true] at hr ⊢
          rw [hps] at hr
          by_cases he : st.1.getD a 0 = st.1.getD b 0
          · rw [if_pos he] at hr
            simp only [he, beq_self_eq_true]
            refine Ev.succ ?_
            simp only [spec_l14Pieces.j2, if_true, wrap_succ (show i < 9223372036854775807 by omega)]
            exact hr
          · rw [if_neg he] at hr
            rw [show (st.1.getD a 0 == st.1.getD b 0) = false from beq_eq_false_iff_ne.2 he]
            refine Ev.succ ?_
            simp only [spec_l14Pieces.j2, Bool.false_eq_true, if_false]
            refine relabel_s hV _ _ _ _ _ st.1 hst.1 r ?_
            rw [wrap_in (by omega) (by omega)]
            simp only [wrap_succ (show i < 9223372036854775807 by omega)]
            exact hr) (numbers V, (V : Int)) ⟨by simp [numbers], by simp only; omega, by simp, by simp⟩
  have e : (List.range F.length).foldl (fun st i => if s.testBit i then pstep F T st i else st) (numbers V, (V : Int)) = (elems s).foldl (pstep F T) (numbers V, (V : Int)) := by
    rw [elems_small s F.length hF hs, List.foldl_filter]
  rw [e] at key2
  exact key2
theorem pieces_l (hV : V ≤ 6) (hF : F.length ≤ 8) (hFT : F.length = T.length) (h : ∀ i, i < F.length → (0 ≤ F.getD i 0 ∧ F.getD i 0 < V ∧ 0 ≤ T.getD i 0 ∧ T.getD i 0 < V)) (L : List Nat) (h8 : L.length ≤ 8) (hmem : ∀ e ∈ L, e < F.length) :
    Ev (fun k => impl_pieces.l1 k (numbers V) V (ints L) (L.length : Int) 0 V F T) ((L.foldl (pstep F T) (numbers V, (V : Int))).2) := by
  have key2 := loop_fold0 (fun k (st : List Int × Int) i => impl_pieces.l1 k st.1 st.2 (ints L) (L.length : Int) i V F T) L.length (fun st i => pstep F T st (L.getD i 0)) (fun i st => st.1.length = V ∧ st.2 ≤ V ∧ (V : Int) - i ≤ st.2) (fun st => st.2)
    (fun st hst => by
      simp only [impl_pieces.l1, ints_length, show ¬ ((L.length : Int) < (L.length : Int)) by omega, if_false]
      exact Ev.now _)
    (fun i st hi hst => by
      have hg : L.getD i 0 = L[i] := by simp [List.getElem?_eq_getElem hi]
      have he : L[i] < F.length := hmem _ (List.getElem_mem hi)
      have hrd := rd_ints L i hi
      generalize L[i] = x at hg he hrd
      obtain ⟨a, b, ha, hb, haV, hbV⟩ := ends_in h he
      have hps : pstep F T st x = if st.1.getD a 0 = st.1.getD b 0 then st else (relabel st.1 (st.1.getD a 0) (st.1.getD b 0), st.2 - 1) := by
        unfold pstep; rw [ha, hb]; rfl
      rw [hg]
      refine ⟨?_, fun r hr => ?_⟩
      · rw [hps]; split
        · exact ⟨hst.1, by omega, by omega⟩
        · exact ⟨by rw [relabel_length]; exact hst.1, by simp only; omega, by simp only; omega⟩
      · rw [hps] at hr
        simp only [impl_pieces.l1, ints_length, show ((i : Int) < (L.length : Int)) by omega, show (0 : Int) ≤ (i : Int) by omega, if_true, hrd, show (0 : Int) ≤ ((x : Nat) : Int) by omega, show (((x : Nat) : Int) < (F.length : Int)) by omega, show (((x : Nat) : Int) < (T.length : Int)) by omega,
          rd_getD, ha, hb, hst.1, show (0 : Int) ≤ (a : Int) by omega, show (0 : Int) ≤ (b : Int) by omega, show ((a : Int) < (V : Int)) by omega, show ((b : Int) < (V : Int)) by omega, wrap_succ (show i < 9223372036854775807 by omega)]
        by_cases he : st.1.getD a 0 = st.1.getD b 0
        · rw [if_pos he] at hr
          simp only [he, if_true]
          simpa [ints_length] using hr
        · rw [if_neg he] at hr
          simp only [he, if_false]
          have := relabel_i (F := F) (T := T) hV (wrap64 (st.2 - 1)) (st.1.getD a 0) (st.1.getD b 0) (L.length : Int) (i : Int) V (ints L) st.1 hst.1 r (by
            rw [wrap_in (by omega) (by omega), wrap_succ (show i < 9223372036854775807 by omega)]
            simpa [ints_length] using hr)
          rw [hst.1] at this
          exact this) (numbers V, (V : Int)) ⟨by simp [numbers], by simp, by simp⟩
  have e : (List.range L.length).foldl (fun st i => pstep F T st (L.getD i 0)) (numbers V, (V : Int)) = L.foldl (pstep F T) (numbers V, (V : Int)) := by
    rw [← List.foldl_map (f := fun i => L.getD i 0) (g := pstep F T)]
    congr 1
    apply List.ext_getElem (by simp)
    intro i h1 h2
    simp [List.getElem?_eq_getElem h2]
  rw [e] at key2
  simpa using key2
theorem pieces_i (hV : V ≤ 6) (hF : F.length ≤ 8) (hFT : F.length = T.length) (h : ∀ i, i < F.length → (0 ≤ F.getD i 0 ∧ F.getD i 0 < V ∧ 0 ≤ T.getD i 0 ∧ T.getD i 0 < V)) {s : Nat} (hs : s < 2 ^ F.length) :
    Ev (fun k => impl_pieces.f k V F T s) (piecesN V F T s) := by
  unfold impl_pieces.f
  have hp : (2 : Nat) ^ F.length ≤ 2 ^ 8 := Nat.pow_le_pow_right (by decide) hF
  simp only [show (0 : Int) ≤ (V : Int) by omega, Int.toNat_natCast, show V ≤ 35184372088832 by omega, if_true, Option.bind_some, List.length_replicate]
  have key := loop_reach (fun k l i => impl_pieces.l0 k s l V i V F T) V (fun l i => l.set i (i : Int)) (fun i l => l = numbers i ++ List.replicate (V - i) 0)
    (fun i l hi hl => ⟨by
      rw [hl, List.set_append_right _ _ (by simp [numbers])]
      obtain ⟨m, hm⟩ : ∃ m, V - i = m + 1 := ⟨V - i - 1, by omega⟩
      rw [hm, List.replicate_succ, show i - (numbers i).length = 0 by simp [numbers], List.set_cons_zero, show V - (i + 1) = m by omega]
      simp [numbers, List.range_succ], fun r hr => by
      have hll : l.length = V := by rw [hl]; simp [numbers]; omega
      simp only [impl_pieces.l0, hll, show ((i : Int) < (V : Int)) by omega, show (0 : Int) ≤ (i : Int) by omega, if_true, Int.toNat_natCast, wrap_succ (show i < 9223372036854775807 by omega)]
      exact hr⟩) (List.replicate V 0) (by simp [numbers])
  refine key.2 _ (Ev.succ ?_)
  rw [key.1, show numbers V ++ List.replicate (V - V) 0 = numbers V by simp]
  simp only [impl_pieces.l0, show ¬ ((V : Int) < (V : Int)) by omega, if_false]
  have hes : elemsI (s : Int) = elems s := by unfold elemsI; rw [if_pos (by simp [isAny]; omega)]; rfl
  refine Ev.bind (ElementsOf_i (s : Int)) ?_
  rw [hes]
  have hmem : ∀ e ∈ elems s, e < F.length := fun e he => by
    rw [elems_small s F.length hF hs] at he; simp at he; exact he.1
  have h8 := elems_length s
  unfold piecesN
  have := pieces_l hV hF hFT h (elems s) h8 hmem
  simpa [ints_length] using this
end
theorem PiecesOf_s (v : Int) (F T : List Int) (s : Int) : Ev (fun k => spec_PiecesOf.f k v F T s) (piecesI v F T s) := by
  unfold spec_PiecesOf.f piecesI
  refine Ev.bind (IsGraph_s v F T) ?_
  cases hg : isGraph v F T
  · simp only [Bool.false_eq_true, if_false, Bool.false_and]; exact Ev.now _
  obtain ⟨V, rfl, hV, hF, hFT, hin⟩ := graph_parts hg
  simp only [if_true, IsSet_s, Option.bind_some, decide_eq_true_eq, Int.toNat_natCast, Bool.true_and]
  by_cases hs : 0 ≤ s ∧ s < 2 ^ F.length
  · simp only [show (0 : Int) ≤ (F.length : Int) ∧ (F.length : Int) ≤ 8 ∧ 0 ≤ s ∧ s < 2 ^ F.length from ⟨by omega, by omega, hs.1, hs.2⟩, hs, and_self, if_true]
    obtain ⟨n, rfl⟩ := Int.eq_ofNat_of_zero_le hs.1
    have hn : n < 2 ^ F.length := by have := hs.2; rw [show (2 : Int) ^ F.length = ((2 ^ F.length : Nat) : Int) by simp] at this; omega
    refine Ev.bind (pieces_s hV hF hFT hin hn) ?_
    simp only [Int.toNat_natCast]; exact Ev.now _
  · simp only [show ¬ ((0 : Int) ≤ (F.length : Int) ∧ (F.length : Int) ≤ 8 ∧ 0 ≤ s ∧ s < 2 ^ F.length) from fun h => hs ⟨h.2.2.1, h.2.2.2⟩, if_neg hs, if_false]; exact Ev.now _
theorem PiecesOf_i (v : Int) (F T : List Int) (s : Int) : Ev (fun k => impl_PiecesOf.f k v F T s) (piecesI v F T s) := by
  unfold impl_PiecesOf.f piecesI
  refine Ev.bind (IsGraph_i v F T) ?_
  cases hg : isGraph v F T
  · simp only [Bool.false_eq_true, if_false, Bool.false_and]; exact Ev.now _
  obtain ⟨V, rfl, hV, hF, hFT, hin⟩ := graph_parts hg
  simp only [if_true, IsSet_i, Option.bind_some, decide_eq_true_eq, Int.toNat_natCast, Bool.true_and]
  by_cases hs : 0 ≤ s ∧ s < 2 ^ F.length
  · simp only [show (0 : Int) ≤ (F.length : Int) ∧ (F.length : Int) ≤ 8 ∧ 0 ≤ s ∧ s < 2 ^ F.length from ⟨by omega, by omega, hs.1, hs.2⟩, hs, and_self, if_true]
    obtain ⟨n, rfl⟩ := Int.eq_ofNat_of_zero_le hs.1
    have hn : n < 2 ^ F.length := by have := hs.2; rw [show (2 : Int) ^ F.length = ((2 ^ F.length : Nat) : Int) by simp] at this; omega
    refine Ev.bind (pieces_i hV hF hFT hin hn) ?_
    simp only [Int.toNat_natCast]; exact Ev.now _
  · simp only [show ¬ ((0 : Int) ≤ (F.length : Int) ∧ (F.length : Int) ≤ 8 ∧ 0 ≤ s ∧ s < 2 ^ F.length) from fun h => hs ⟨h.2.2.1, h.2.2.2⟩, if_neg hs, if_false]; exact Ev.now _
end Go.Proofs.Ytopkfhnnapncgaa.L
