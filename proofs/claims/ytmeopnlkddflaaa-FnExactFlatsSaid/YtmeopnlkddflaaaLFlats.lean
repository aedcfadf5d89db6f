/-
  Closures and flats: of program and reference the same. Condition: lists of at most 2^44 elements.
-/
import Derived.Test.YtmeopnlkddflaaaFx8
import Derived.Test.YtmeopnlkddflaaaFx10
import Derived.Test.YtmeopnlkddflaaaFx9
import Derived.Test.YtmeopnlkddflaaaFx12
import Derived.Test.YtmeopnlkddflaaaLRank
import Derived.Test.YtmeopnlkddflaaaGvFlatsIn
namespace Go.Proofs.Ytmeopnlkddflaaa.L
open Go.RowKit Go.Proofs.Ytmeopnlkddflaaa.F Go.Proofs.YtmeopnlkddflaaaW.PrintWords Go.Proofs.YtmeopnlkddflaaaW.PrintLast Go.Proofs.YtmeopnlkddflaaaW.PrintMore
open Go.Proofs.Ytmeopnlkddflaaa.Bits
open Go.Proofs.Ytmeopnlkddflaaa.Mt (sdiff bit_sdiff elems mem_elems cnt cnt_le full ins del Mat lt256 rk)
set_option linter.unusedSimpArgs false
set_option linter.unusedVariables false
/-- setsOf over a predicate that says p of all sets of N elements. -/
theorem setsO_run (q : Int → Option Bool) (p : Nat → Bool) {N : Nat} (hN : N ≤ 8) (hq : ∀ s : Nat, s < 2 ^ N → q (s : Int) = some (p s)) :
    ∀ (d j fuel : Nat) (out : List Int), j + d = 2 ^ N → d < fuel → out.length ≤ j → setsO q fuel (N : Int) out (j : Int) = some (out ++ ints ((List.range' j d).filter p))
  | 0, j, fuel + 1, out, hd, _, ho => by
    have hn : ¬ ((j : Int) ≤ ((full N : Nat) : Int)) := fun h => by have := le_full.1 h; omega
    simp only [setsO, FullSet_i hN, Option.bind_some, if_neg hn]
    simp [ints]
  | d + 1, j, fuel + 1, out, hd, hf, ho => by
    have hp : (2 : Nat) ^ N ≤ 2 ^ 8 := Nat.pow_le_pow_right (by decide) hN
    have hj : j < 2 ^ N := by omega
    simp only [setsO, FullSet_i hN, Option.bind_some, le_full.2 hj, if_true, hq j hj, wrap_succ (show j < 9223372036854775807 by omega)]
    rw [List.range'_succ, List.filter_cons]
    cases h : p j
    · simp only [Bool.false_eq_true, if_false]
      exact setsO_run q p hN hq d (j + 1) fuel out (by omega) (by omega) (by omega)
    · simp only [if_true, show out.length < 17592186044416 by omega]
      rw [setsO_run q p hN hq d (j + 1) fuel (out ++ [(j : Int)]) (by omega) (by omega) (by simp; omega)]
      simp [ints]
theorem Ev_all (Q : Nat → Int → Option Bool) (p : Nat → Bool) : ∀ m : Nat, (∀ s : Nat, s < m → Ev (fun k => Q k (s : Int)) (p s)) → ∃ K, ∀ k, K ≤ k → ∀ s : Nat, s < m → Q k (s : Int) = some (p s)
  | 0, _ => ⟨0, fun _ _ s hs => absurd hs (Nat.not_lt_zero s)⟩
  | m + 1, h => by
    obtain ⟨K, hK⟩ := Ev_all Q p m fun s hs => h s (by omega)
    obtain ⟨K', hK'⟩ := h m (by omega)
    refine ⟨max K K', fun k hk s hs => ?_⟩
    by_cases e : s = m
    · subst e; exact hK' k (by omega)
    · exact hK k (by omega) s (by omega)
theorem setsO_ev (Q : Nat → Int → Option Bool) (p : Nat → Bool) {N : Nat} (hN : N ≤ 8) (h : ∀ s : Nat, s < 2 ^ N → Ev (fun k => Q k (s : Int)) (p s)) : Ev (fun k => setsO (Q k) k (N : Int) [] 0) (ints ((List.range (2 ^ N)).filter p)) := by
  obtain ⟨K, hK⟩ := Ev_all Q p (2 ^ N) h
  refine ⟨max K (2 ^ N + 1), fun k hk => ?_⟩
  have := setsO_run (Q k) p hN (hK k (by omega)) (2 ^ N) 0 k [] (by omega) (by omega) (by simp)
  rw [List.range_eq_range']
  simpa using this
/-! ### closures -/
def clo (B : List Nat) (s a n : Nat) : Nat := (List.range n).foldl (fun acc e => if rk B (ins s e) = rk B s then acc ||| 2 ^ e else acc) a
theorem bit_clo (B : List Nat) (s a i : Nat) : ∀ n, (clo B s a n).testBit i = (a.testBit i || (decide (i < n) && decide (rk B (ins s i) = rk B s)))
  | 0 => by simp [clo]
  | n + 1 => by
    have ih := bit_clo B s a i n
    unfold clo at ih ⊢
    rw [List.range_succ, List.foldl_append]
    simp only [List.foldl_cons, List.foldl_nil]
    by_cases h : rk B (ins s n) = rk B s
    · rw [if_pos h, Mt.bit_or, ih, Mt.bit_pow]
      by_cases e : n = i
      · subst e; simp [h]
      · have : (i < n + 1) = (i < n) := by apply propext; omega
        simp [e, this]
    · rw [if_neg h, ih]
      by_cases e : i = n
      · subst e; simp [h]
      · have : (i < n + 1) = (i < n) := by apply propext; omega
        simp [this]
theorem clo_same {N : Nat} {B : List Nat} {s : Nat} (hs : s < 2 ^ N) : clo B s s N = clo B s 0 N := Mt.ext fun i => by
  rw [bit_clo, bit_clo, Nat.zero_testBit, Bool.false_or]
  cases h : s.testBit i
  · simp
  · simp [Mt.bit_lt hs h, Mt.ins_eq h]
theorem clo_lt {N : Nat} {B : List Nat} {s n : Nat} (hn : n ≤ N) {a : Nat} (ha : a < 2 ^ N) : clo B s a n < 2 ^ N := Mt.lt_of_bits fun i hi => by
  rw [bit_clo] at hi
  simp only [Bool.or_eq_true, Bool.and_eq_true, decide_eq_true_eq] at hi
  rcases hi with h | h
  · exact Mt.bit_lt ha h
  · omega
section
variable {N : Nat} {B : List Nat}
theorem clo_s (hN : N ≤ 8) (hB : ∀ b ∈ B, b < 2 ^ N) (hl : B.length ≤ 17592186044416) {s : Nat} (hs : s < 2 ^ N) : Ev (fun k => spec_l5Closure.f k N (ints B) s) (clo B s 0 N : Int) := by
  have hs8 := lt256 hN hs
  unfold spec_l5Closure.f
  refine Ev.bind (rank_s hN hB hl hs8 _) ?_
  rw [← clo_same hs]
  have key := loop_fold0 (fun k (a : Nat) e => spec_l5Closure.l0 k s a (rk B s : Int) e N (ints B)) N (fun acc e => if rk B (ins s e) = rk B s then acc ||| 2 ^ e else acc) (fun i a => a < 2 ^ N) (fun a => (a : Int))
    (fun a _ => by simp only [spec_l5Closure.l0, show ¬ ((N : Int) < (N : Int)) by omega, if_false]; exact Ev.now _)
    (fun e a he ha => by
      have ha8 := lt256 hN ha
      have hp : 2 ^ e ≤ 2 ^ 8 := Nat.pow_le_pow_right (by decide) (by omega)
      have hor : a ||| 2 ^ e < 2 ^ N := Nat.or_lt_two_pow ha (Nat.pow_lt_pow_right (by decide) he)
      have hor8 : s ||| 2 ^ e < 2 ^ N := Nat.or_lt_two_pow hs (Nat.pow_lt_pow_right (by decide) he)
      refine ⟨by split <;> assumption, fun r hr => ?_⟩
      simp only [spec_l5Closure.l0, show ((e : Int) < (N : Int)) by omega, if_true, wrap_succ (show e < 9223372036854775807 by omega)]
      rw [wrapu_in (by omega) (by omega)]
      simp only [show (0 : Int) ≤ (e : Int) by omega, if_true, shl_one e (by omega), bits_or s (2 ^ e) (by omega) (by omega), bits_or a (2 ^ e) (by omega) (by omega)]
      refine Ev.bind (rank_s hN hB hl (lt256 hN hor8) _) ?_
      by_cases h : rk B (ins s e) = rk B s
      · rw [if_pos h] at hr
        simp only [show ((rk B (s ||| 2 ^ e) : Int) = (rk B s : Int)) from by rw [show s ||| 2 ^ e = ins s e from rfl, h], if_true]; exact hr
      · rw [if_neg h] at hr
        simp only [show ¬ ((rk B (s ||| 2 ^ e) : Int) = (rk B s : Int)) from fun hh => h (by rw [show s ||| 2 ^ e = ins s e from rfl] at hh; omega), if_false]; exact hr) s hs
  exact key
theorem clo_i (hN : N ≤ 8) (hB : ∀ b ∈ B, b < 2 ^ N) (hl : B.length ≤ 17592186044416) {s : Nat} (hs : s < 2 ^ N) : Ev (fun k => impl_closure.f k N (ints B) s) (clo B s 0 N : Int) := by
  have hs8 := lt256 hN hs
  unfold impl_closure.f
  refine Ev.bind (rank_i hN hB hl hs8 _) ?_
  have key := loop_fold0 (fun k (a : Nat) e => impl_closure.l0 k s (rk B s : Int) a e N (ints B)) N (fun acc e => if rk B (ins s e) = rk B s then acc ||| 2 ^ e else acc) (fun i a => a < 2 ^ N) (fun a => (a : Int))
    (fun a _ => by simp only [impl_closure.l0, show ¬ ((N : Int) < (N : Int)) by omega, if_false]; exact Ev.now _)
    (fun e a he ha => by
      have ha8 := lt256 hN ha
      have hp : 2 ^ e ≤ 2 ^ 8 := Nat.pow_le_pow_right (by decide) (by omega)
      have hor : a ||| 2 ^ e < 2 ^ N := Nat.or_lt_two_pow ha (Nat.pow_lt_pow_right (by decide) he)
      have hor8 : s ||| 2 ^ e < 2 ^ N := Nat.or_lt_two_pow hs (Nat.pow_lt_pow_right (by decide) he)
      refine ⟨by split <;> assumption, fun r hr => ?_⟩
      simp only [impl_closure.l0, show ((e : Int) < (N : Int)) by omega, if_true, wrap_succ (show e < 9223372036854775807 by omega), show (0 : Int) ≤ (e : Int) by omega, shl_one e (by omega), bits_or s (2 ^ e) (by omega) (by omega), bits_or a (2 ^ e) (by omega) (by omega)]
      refine Ev.bind (rank_i hN hB hl (lt256 hN hor8) _) ?_
      by_cases h : rk B (ins s e) = rk B s
      · rw [if_pos h] at hr
        simp only [show ((rk B (s ||| 2 ^ e) : Int) = (rk B s : Int)) from by rw [show s ||| 2 ^ e = ins s e from rfl, h], if_true]; exact hr
      · rw [if_neg h] at hr
        simp only [show ¬ ((rk B (s ||| 2 ^ e) : Int) = (rk B s : Int)) from fun hh => h (by rw [show s ||| 2 ^ e = ins s e from rfl] at hh; omega), if_false]; exact hr) 0 (Nat.two_pow_pos N)
  exact key
def isFl (N : Nat) (B : List Nat) (s : Nat) : Bool := decide (clo B s 0 N = s)
def flatsN (N : Nat) (B : List Nat) (n : Nat) : List Nat := (List.range n).filter (isFl N B)
theorem flats_s (M : Mat N B) (hl : B.length ≤ 17592186044416) : Ev (fun k => spec_l7Flats.f k N (ints B)) (ints (flatsN N B (2 ^ N))) := by
  unfold spec_l7Flats.f
  have hp : (2 : Nat) ^ N ≤ 2 ^ 8 := Nat.pow_le_pow_right (by decide) M.size
  have key := loop_reach (fun k acc s => spec_l7Flats.l0 k acc s N (ints B)) (2 ^ N) (fun acc s => if isFl N B s = true then acc ++ [(s : Int)] else acc) (fun s acc => acc = ints (flatsN N B s))
    (fun s acc hs ha => ⟨by
      rw [ha]; unfold flatsN
      rw [List.range_succ, List.filter_append]
      cases h : isFl N B s <;> simp [ints, h], fun r hr => by
      have hlen : acc.length < 17592186044416 := by
        have := List.length_filter_le (isFl N B) (List.range s)
        rw [List.length_range] at this
        rw [ha, ints_length]; unfold flatsN; omega
      simp only [spec_l7Flats.l0, FullSet_s M.size, Option.bind_some, le_full.2 hs, if_true, wrap_succ (show s < 9223372036854775807 by omega)]
      refine Ev.bind (clo_s M.size M.lt hl hs) ?_
      by_cases h : clo B s 0 N = s
      · rw [show isFl N B s = true from decide_eq_true h] at hr
        simp only [if_true] at hr
        simp only [h, if_true, hlen]; exact hr
      · rw [show isFl N B s = false from decide_eq_false h] at hr
        simp only [Bool.false_eq_true, if_false] at hr
        simp only [show ¬ ((clo B s 0 N : Int) = (s : Int)) by omega, if_false]; exact hr⟩) [] (by simp [flatsN, ints])
  refine key.2 _ (Ev.succ ?_)
  rw [key.1]
  simp only [spec_l7Flats.l0, FullSet_s M.size, Option.bind_some, if_neg (fun h => Nat.lt_irrefl _ (le_full.1 h))]
  exact Ev.now _
theorem flats_i (M : Mat N B) (hl : B.length ≤ 17592186044416) : Ev (fun k => impl_flatsIn.f k N (ints B)) (ints (flatsN N B (2 ^ N))) := by
  unfold impl_flatsIn.f
  refine setsO_ev (fun k => impl_flatsIn.q k N (ints B)) (isFl N B) M.size fun s hs => ?_
  unfold impl_flatsIn.q
  refine Ev.bind (clo_i M.size M.lt hl hs) (Ev.some ?_)
  unfold isFl
  rw [Bool.eq_iff_iff, beq_iff_eq, decide_eq_true_eq]; omega
end
def flatsI (n : Int) (l : List Int) : List Int := if isMatroid n l = true then ints (flatsN n.toNat (l.map Int.toNat) (2 ^ n.toNat)) else []
theorem flatsI_length (n : Int) (l : List Int) : (flatsI n l).length ≤ 17592186044416 := by
  unfold flatsI
  split
  · rename_i h
    obtain ⟨N, B, rfl, rfl, hp, M⟩ := mat_parts h
    have hp : (2 : Nat) ^ N ≤ 2 ^ 8 := Nat.pow_le_pow_right (by decide) M.size
    have := List.length_filter_le (isFl N B) (List.range (2 ^ N))
    rw [List.length_range] at this
    rw [ints_length, Int.toNat_natCast, toNat_ints]; unfold flatsN; omega
  · simp
theorem Flats_s (n : Int) (l : List Int) (hl : l.length ≤ 17592186044416) : Ev (fun k => spec_Flats.f k n l) (flatsI n l) := by
  unfold spec_Flats.f flatsI
  refine Ev.bind (IsMatroid_s n l hl) ?_
  cases h : isMatroid n l
  · simp only [Bool.false_eq_true, if_false]; exact Ev.now _
  obtain ⟨N, B, rfl, rfl, hp, M⟩ := mat_parts h
  rw [ints_length] at hl
  simp only [if_true, toNat_ints, Int.toNat_natCast]
  exact Ev.bind (flats_s M hl) (Ev.now _)
theorem Flats_i (n : Int) (l : List Int) (hl : l.length ≤ 17592186044416) : Ev (fun k => impl_Flats.f k n l) (flatsI n l) := by
  unfold impl_Flats.f flatsI
  refine Ev.bind (IsMatroid_i n l hl) ?_
  cases h : isMatroid n l
  · simp only [Bool.false_eq_true, if_false]; exact Ev.now _
  obtain ⟨N, B, rfl, rfl, hp, M⟩ := mat_parts h
  rw [ints_length] at hl
  simp only [if_true, toNat_ints, Int.toNat_natCast]
  exact Ev.bind (flats_i M hl) (Ev.now _)
end Go.Proofs.Ytmeopnlkddflaaa.L
