/- Several texts of this session in one: LTabs, Fx5, LSets, LMatrix, LCell, LReduce, LReduceS, LReduceI, Mat, LFamily, Fx8. Conditions: as each theorem says. -/
import Derived.Test.YtopkfhnnapncgaaZDualMatrix5
import Derived.Test.YtopkfhnnapncgaaZDualMatrix0
import Derived.Test.YtopkfhnnapncgaaZDualMatrix1
import Derived.Test.YtopkfhnnapncgaaZDualMatrix3
import Derived.Test.YtopkfhnnapncgaaZDualMatrix2
import Derived.Test.YtopkfhnnapncgaaZDualMatrix4
set_option maxHeartbeats 8000000
set_option maxRecDepth 100000
section
namespace Go.Proofs.Ytopkfhnnapncgaa.L
open Go.RowKit Go.Proofs.YtopkfhnnapncgaaW.PrintWords Go.Proofs.YtopkfhnnapncgaaW.PrintLast Go.Proofs.YtopkfhnnapncgaaW.PrintMore
open Go.Proofs.Ytopkfhnnapncgaa.Bits
set_option linter.unusedSimpArgs false
set_option linter.unusedVariables false
abbrev Tab := Nat → Nat → Int
def zZ (M : Tab) (R C : Nat) : List Int := (List.range (R * C)).map fun k => M (k / C) (k % C)
def qS (M : Tab) (C i : Nat) : List Int := (List.range C).map (M i)
def qf (M : Tab) (R C : Nat) : List (List Int) := (List.range R).map (qS M C)
def jy (l : List Int) (C : Nat) : Tab := fun i j => l.getD (i * C + j) 0
def upd (M : Tab) (i j : Nat) (v : Int) : Tab := fun a b => if a = i ∧ b = j then v else M a b
theorem Zf {i j C : Nat} (hj : j < C) : (i * C + j) / C = i := by
  rw [Nat.mul_comm, Nat.mul_add_div (by omega), Nat.div_eq_of_lt hj, Nat.add_zero]
theorem y2 {i j C : Nat} (hj : j < C) : (i * C + j) % C = j := by
  rw [Nat.mul_comm, Nat.mul_add_mod, Nat.mod_eq_of_lt hj]
theorem jP {R C i j : Nat} (hi : i < R) (hj : j < C) : i * C + j < R * C := by
  have := Nat.mul_le_mul_right C (show i + 1 ≤ R by omega)
  rw [Nat.succ_mul] at this; omega
theorem qn (M : Tab) (R C : Nat) : (zZ M R C).length = R * C := by simp [zZ]
theorem jb (M : Tab) (C i : Nat) : (qS M C i).length = C := by simp [qS]
theorem qA (M : Tab) (R C : Nat) : (qf M R C).length = R := by simp [qf]
theorem qK (M : Tab) {R C i j : Nat} (hi : i < R) (hj : j < C) : (zZ M R C).getD (i * C + j) 0 = M i j := by
  have h := jP hi hj
  simp [zZ, List.getD_eq_getElem?_getD, h, Zf hj, y2 hj]
theorem vH (M : Tab) {C i j : Nat} (hj : j < C) : (qS M C i).getD j 0 = M i j := by
  simp [qS, List.getD_eq_getElem?_getD, hj]
theorem yn (M : Tab) {R C i : Nat} (hi : i < R) : (qf M R C).getD i [] = qS M C i := by
  simp [qf, List.getD_eq_getElem?_getD, hi]
theorem Qv {R C k : Nat} (h : k < R * C) : 0 < C := by
  rcases Nat.eq_zero_or_pos C with rfl | h'
  · simp at h
  · exact h'
theorem Vh {R C k : Nat} (h : k < R * C) : k / C < R := (Nat.div_lt_iff_lt_mul (Qv h)).2 h
theorem QN {M N : Tab} {R C : Nat} (h : ∀ i j, i < R → j < C → M i j = N i j) : zZ M R C = zZ N R C := by
  refine List.map_congr_left fun k hk => h _ _ (Vh (List.mem_range.1 hk)) (Nat.mod_lt _ (Qv (List.mem_range.1 hk)))
theorem Zw {M N : Tab} {C i : Nat} (h : ∀ j, j < C → M i j = N i j) : qS M C i = qS N C i := List.map_congr_left fun j hj => h j (List.mem_range.1 hj)
theorem QK {M N : Tab} {R C : Nat} (h : ∀ i j, i < R → j < C → M i j = N i j) : qf M R C = qf N R C := List.map_congr_left fun i hi => Zw fun j hj => h i j (List.mem_range.1 hi) hj
theorem Qk {l : List Int} {R C : Nat} (hl : l.length = R * C) : zZ (jy l C) R C = l := by
  refine List.ext_getElem (by rw [qn, hl]) fun k h1 h2 => ?_
  simp only [zZ, jy, List.getElem_map, List.getElem_range]
  rw [Nat.mul_comm, Nat.div_add_mod]
  simp [List.getD_eq_getElem?_getD, h2]
theorem yg (M : Tab) {R C i j : Nat} (hi : i < R) (hj : j < C) (v : Int) : (zZ M R C).set (i * C + j) v = zZ (upd M i j v) R C := by
  refine List.ext_getElem (by simp [zZ]) fun k h1 h2 => ?_
  rw [List.getElem_set]
  simp only [zZ, upd, List.getElem_map, List.getElem_range]
  by_cases c : i * C + j = k
  · subst c
    rw [if_pos rfl, if_pos ⟨Zf hj, y2 hj⟩]
  · rw [if_neg c, if_neg]
    rintro ⟨rfl, rfl⟩
    exact c (by rw [Nat.mul_comm]; exact Nat.div_add_mod k C)
theorem Vf (M : Tab) {C i j : Nat} (hj : j < C) (v : Int) : (qS M C i).set j v = qS (upd M i j v) C i := by
  refine List.ext_getElem (by simp [qS]) fun k h1 h2 => ?_
  rw [List.getElem_set]
  simp only [qS, upd, List.getElem_map, List.getElem_range]
  by_cases c : j = k
  · subst c; simp
  · simp [c, show ¬ k = j from fun h => c h.symm]
theorem JB (M N : Tab) {R C i : Nat} (hi : i < R) (h : ∀ a b, a ≠ i → N a b = M a b) : (qf M R C).set i (qS N C i) = qf N R C := by
  refine List.ext_getElem (by simp [qf]) fun k h1 h2 => ?_
  rw [List.getElem_set]
  simp only [qf, List.getElem_map, List.getElem_range]
  by_cases c : i = k
  · subst c; rw [if_pos rfl]
  · rw [if_neg c]; exact Zw fun j _ => (h k j (Ne.symm c)).symm
theorem Z1 (M : Tab) {R C i j : Nat} (hi : i < R) (hj : j < C) (v : Int) : (qf M R C).set i ((qS M C i).set j v) = qf (upd M i j v) R C := by
  rw [Vf M hj]
  exact JB _ _ hi fun a b h => by unfold upd; rw [if_neg (fun c => h c.1)]
theorem Qy (M : Tab) (R C : Nat) : (qf M R C).flatten = zZ M R C := by
  induction R with
  | zero => simp [qf, zZ]
  | succ R ih =>
    have h1 : qf M (R + 1) C = qf M R C ++ [qS M C R] := by simp [qf, List.range_succ]
    rw [h1, List.flatten_append, ih, List.flatten_singleton]
    refine List.ext_getElem (by simp [zZ, qS, Nat.succ_mul]) fun k h2 h3 => ?_
    rw [List.getElem_append]
    simp only [qn]
    split
    · simp [zZ]
    · rename_i hk
      simp only [qn, Nat.succ_mul] at h3
      have hm : k - R * C < C := by omega
      obtain ⟨m, rfl⟩ : ∃ m, k = R * C + m := ⟨k - R * C, by omega⟩
      simp only [qS, zZ, List.getElem_map, List.getElem_range, Nat.add_sub_cancel_left]
      rw [Nat.add_sub_cancel_left] at hm
      rw [Zf hm, y2 hm]
theorem J0 (M : Tab) {R C t : Nat} (h : t ≤ R) : (qf M R C).take t = qf M t C := by
  rw [qf, ← List.map_take, List.take_range, Nat.min_eq_left h]; rfl
theorem Qi (M : Tab) {R C t : Nat} (h : t ≤ R) : (zZ M R C).take (t * C) = zZ M t C := by
  rw [zZ, ← List.map_take, List.take_range, Nat.min_eq_left (Nat.mul_le_mul_right _ h)]; rfl
def je (F : (Nat → Int) → Nat → Int) (M : Tab) (j : Nat) : Tab := fun i c => if c = j then F (fun i => M i j) i else M i c
def qj (F : (Nat → Int) → Nat → Int) (M : Tab) : Tab := fun i c => F (fun i => M i c) i
theorem JY (F : (Nat → Int) → Nat → Int) (M : Tab) (n : Nat) : (List.range n).foldl (je F) M = fun i c => if c < n then F (fun i => M i c) i else M i c := by
  induction n with
  | zero => funext i c; simp
  | succ n ih =>
    rw [List.range_succ, List.foldl_append, List.foldl_cons, List.foldl_nil, ih]
    funext i c
    unfold je
    by_cases h1 : c = n
    · subst h1
      simp
    · by_cases h2 : c < n
      · simp [h1, h2, Nat.lt_succ_of_lt h2]
      · simp [h1, h2, show ¬ c < n + 1 by omega]
theorem yd (F : (Nat → Int) → Nat → Int) (M : Tab) (R C : Nat) : zZ ((List.range C).foldl (je F) M) R C = zZ (qj F M) R C := by
  rw [JY]; exact QN fun i j _ hj => by simp [hj, qj]
theorem yV (F : (Nat → Int) → Nat → Int) (M : Tab) (R C : Nat) : qf ((List.range C).foldl (je F) M) R C = qf (qj F M) R C := by
  rw [JY]; exact QK fun i j _ hj => by simp [hj, qj]
def jc (a b : Nat) (f : Nat → Int) (i : Nat) : Int := if i = b then f a else if i = a then f b else f i
def jT (p : Int) (r : Nat) (x : Int) (f : Nat → Int) (i : Nat) : Int := if i = r then Int.tmod (f r * x) p else f i
def Ze (p : Int) (r i0 : Nat) (g : Int) (f : Nat → Int) (i : Nat) : Int := if i = i0 then Int.tmod (f i0 + (p - g) * f r) p else f i
def qQ (p : Int) (r col : Nat) (M : Tab) (i : Nat) : Tab := if i = r then M else qj (Ze p r i (M i col)) M
def vN (p : Int) (r col R : Nat) (M : Tab) : Tab := (List.range R).foldl (qQ p r col) M
/-- The inverse of a number in a Qm field. -/
def jC (p a : Int) : Int := ((a.toNat ^ (p.toNat - 2) % p.toNat : Nat) : Int)
def jJ (p : Int) (R t col : Nat) (M : Tab) : Tab := vN p t col R (qj (jT p t (jC p (M t col))) M)
/-- Where a column has a number that is not 0, from row t on. -/
def qq (M : Tab) (R t col : Nat) : Nat := ((List.range' t (R - t)).find? fun i => decide (M i col ≠ 0)).getD R
structure Red where
  t : Nat
  M : Tab
  ps : List Int
def qw (p : Int) (R : Nat) (s : Red) (j : Nat) : Red :=
  if qq s.M R s.t j < R then ⟨s.t + 1, jJ p R s.t j (qj (jc s.t (qq s.M R s.t j)) s.M), s.ps ++ [(j : Int)]⟩ else s
def yl (p : Int) (R C : Nat) (M : Tab) : Red := (List.range C).foldl (qw p R) ⟨0, M, []⟩
def InF (p : Int) (R C : Nat) (M : Tab) : Prop := ∀ i j, i < R → j < C → 0 ≤ M i j ∧ M i j < p
theorem JQ {x p : Int} (h : 0 ≤ x) (hp : 2 ≤ p) : 0 ≤ Int.tmod x p ∧ Int.tmod x p < p := by
  rw [Int.tmod_eq_emod_of_nonneg h]; exact ⟨Int.emod_nonneg _ (by omega), Int.emod_lt_of_pos _ (by omega)⟩
section
variable {p : Int} {R C : Nat} {M : Tab}
theorem InF.swap (h : InF p R C M) {a b : Nat} (ha : a < R) (hb : b < R) : InF p R C (qj (jc a b) M) := fun i j hi hj => by
  unfold qj jc
  split
  · exact h a j ha hj
  · split
    · exact h b j hb hj
    · exact h i j hi hj
theorem InF.scale (h : InF p R C M) (hp : 2 ≤ p) {r : Nat} (hr : r < R) {x : Int} (hx : 0 ≤ x) : InF p R C (qj (jT p r x) M) := fun i j hi hj => by
  unfold qj jT
  split
  · exact JQ (Int.mul_nonneg (h r j hr hj).1 hx) hp
  · exact h i j hi hj
theorem InF.elim (h : InF p R C M) (hp : 2 ≤ p) {r i0 : Nat} (hr : r < R) (hi0 : i0 < R) {g : Int} (hg : 0 ≤ g ∧ g < p) : InF p R C (qj (Ze p r i0 g) M) := fun i j hi hj => by
  unfold qj Ze
  split
  · refine JQ ?_ hp
    have h1 := (h i0 j hi0 hj).1
    have h2 := Int.mul_nonneg (show 0 ≤ p - g by omega) (h r j hr hj).1
    show 0 ≤ M i0 j + (p - g) * M r j
    exact Int.add_nonneg h1 h2
  · exact h i j hi hj
theorem InF.qQ (h : InF p R C M) (hp : 2 ≤ p) {r col i : Nat} (hr : r < R) (hc : col < C) (hi : i < R) : InF p R C (qQ p r col M i) := by
  unfold L.qQ
  split
  · exact h
  · exact h.elim hp hr hi (h i col hi hc)
theorem InF.vN (hp : 2 ≤ p) {r col : Nat} (hr : r < R) (hc : col < C) : ∀ n, n ≤ R → ∀ {M : Tab}, InF p R C M → InF p R C ((List.range n).foldl (L.qQ p r col) M)
  | 0, _, _, h => h
  | n + 1, hn, M, h => by
    rw [List.range_succ, List.foldl_append]
    exact (InF.vN hp hr hc n (by omega) h).qQ hp hr hc (by omega)
theorem vK (p a : Int) : 0 ≤ jC p a := Int.natCast_nonneg _
theorem JX {p : Int} (hp : 2 ≤ p) (a : Int) : jC p a < p := by
  have h : a.toNat ^ (p.toNat - 2) % p.toNat < p.toNat := Nat.mod_lt _ (by omega)
  unfold jC
  omega
theorem InF.pivot (h : InF p R C M) (hp : 2 ≤ p) {r col : Nat} (hr : r < R) (hc : col < C) : InF p R C (jJ p R r col M) := by
  unfold jJ L.vN
  exact InF.vN hp hr hc R (Nat.le_refl _) (h.scale hp hr (vK _ _))
end
theorem yP {M : Tab} {R a col : Nat} (h : a < R) : qq M R a col = if M a col = 0 then qq M R (a + 1) col else a := by
  unfold qq
  obtain ⟨m, hm⟩ : ∃ m, R - a = m + 1 := ⟨R - a - 1, by omega⟩
  rw [hm, List.range'_succ, List.find?_cons, show R - (a + 1) = m by omega]
  by_cases c : M a col = 0
  · simp [c]
  · simp [c]
theorem vL (M : Tab) (R col : Nat) : qq M R R col = R := by simp [qq]
theorem j5 (M : Tab) (R col : Nat) : ∀ d a, a + d = R → a ≤ qq M R a col ∧ qq M R a col ≤ R ∧ (qq M R a col < R → M (qq M R a col) col ≠ 0) ∧ ∀ i, a ≤ i → i < qq M R a col → M i col = 0
  | 0, a, h => by
    obtain rfl : a = R := by omega
    rw [vL]; exact ⟨Nat.le_refl _, Nat.le_refl _, fun h => absurd h (by omega), fun i h1 h2 => absurd h1 (by omega)⟩
  | d + 1, a, h => by
    rw [yP (show a < R by omega)]
    by_cases c : M a col = 0
    · rw [if_pos c]
      obtain ⟨h1, h2, h3, h4⟩ := j5 M R col d (a + 1) (by omega)
      exact ⟨by omega, h2, h3, fun i h5 h6 => by
        rcases Nat.eq_or_lt_of_le h5 with rfl | h7
        · exact c
        · exact h4 i h7 h6⟩
    · rw [if_neg c]
      exact ⟨Nat.le_refl _, by omega, fun _ => c, fun i h5 h6 => absurd h5 (by omega)⟩
theorem Q8 (M : Tab) {R C i : Nat} (hi : i < R) : ((zZ M R C).take ((i + 1) * C)).drop (i * C) = qS M C i := by
  rw [Qi M (show i + 1 ≤ R by omega)]
  refine List.ext_getElem (by simp [zZ, qS, Nat.succ_mul]) fun k h1 h2 => ?_
  rw [jb] at h2
  simp only [List.getElem_drop, zZ, qS, List.getElem_map, List.getElem_range, Zf h2, y2 h2]
theorem Ql (M : Tab) (C i : Nat) : zZ M i C ++ qS M C i = zZ M (i + 1) C := by
  rw [← Qy, ← Qy, show qf M (i + 1) C = qf M i C ++ [qS M C i] by simp [qf, List.range_succ], List.flatten_append, List.flatten_singleton]
theorem J3 (M : Tab) (C i : Nat) : qf M i C ++ [qS M C i] = qf M (i + 1) C := by simp [qf, List.range_succ]
theorem J2 (M : Tab) {R C a b : Nat} (ha : a < R) (hb : b < R) : ((qf M R C).set a (qS M C b)).set b (qS M C a) = qf (qj (jc a b) M) R C := by
  refine List.ext_getElem (by simp [qf]) fun k h1 h2 => ?_
  rw [List.getElem_set, List.getElem_set]
  simp only [qf, List.getElem_map, List.getElem_range]
  by_cases c1 : b = k
  · subst c1; rw [if_pos rfl]; unfold qS qj jc; simp
  · rw [if_neg c1]
    by_cases c2 : a = k
    · subst c2; rw [if_pos rfl]; unfold qS qj jc; simp [Ne.symm c1]
    · rw [if_neg c2]; unfold qS qj jc; simp [Ne.symm c1, Ne.symm c2]
structure Z3 (p : Int) (R C : Nat) (s : Red) : Prop where
  t_le : s.t ≤ R
  inF : InF p R C s.M
  len : s.ps.length = s.t
theorem Z3.step {p : Int} {R C : Nat} {s : Red} (h : Z3 p R C s) (hp : 2 ≤ p) {j : Nat} (hj : j < C) : Z3 p R C (qw p R s j) := by
  unfold qw
  split
  · rename_i hlt
    obtain ⟨h1, h2, h3, h4⟩ := j5 s.M R j (R - s.t) s.t (by have := h.t_le; omega)
    exact ⟨by show s.t + 1 ≤ R; omega, (h.inF.swap (by omega) hlt).pivot hp (by omega) hj, by show (s.ps ++ [(j : Int)]).length = s.t + 1; rw [List.length_append, h.len]; rfl⟩
  · exact h
theorem QR {p : Int} {R : Nat} {s : Red} (h : s.t = R) (j : Nat) : qw p R s j = s := by
  unfold qw
  rw [h, vL, if_neg (Nat.lt_irrefl _)]
theorem Za {p : Int} {R : Nat} : ∀ (l : List Nat) {s : Red}, s.t = R → l.foldl (qw p R) s = s
  | [], _, _ => rfl
  | j :: l, s, h => by rw [List.foldl_cons, QR h, Za l h]
end Go.Proofs.Ytopkfhnnapncgaa.L
end
section
namespace Go.Proofs.Ytopkfhnnapncgaa.F
open Go.RowKit Go.Proofs.YtopkfhnnapncgaaW.PrintWords Go.Proofs.YtopkfhnnapncgaaW.PrintLast Go.Proofs.YtopkfhnnapncgaaW.PrintMore
attribute [local go_sem] jG jE jY j8 jl jk jK jM   -- for this text's walks alone
set_option linter.unusedVariables false
set_option linter.unusedSimpArgs false

def jI.f (a0 : Int) (a1 : Int) : Option (Bool) := (zL.f a0 0 8).bind fun t256 => (if t256 = true then (if 0 ≤ (IntKind.u64.wrap (a0)) then ((zL.f a1 0 (wrap64 ((shl .i64 1 (IntKind.u64.wrap (a0))) - 1))).bind fun t257 => (some t257)) else (none)) else (some false))
theorem jI.calls (a0 : Int) (a1 : Int) (r : Bool) (w : World) (h : jI.f a0 a1 = some r) :
  Calls Try.prog 49 #[.int .i64 a0, .int .i64 a1] w fun e w' => e = .returned (.bool r) ∧ zw w w' := by
 have H : ((zL.f a0 0 8).bind fun t256 => (if t256 = true then (if 0 ≤ (IntKind.u64.wrap (a0)) then ((zL.f a1 0 (wrap64 ((shl .i64 1 (IntKind.u64.wrap (a0))) - 1))).bind fun t257 => (some t257)) else (none)) else (some false))) = some r := h
 clear h
 replace H := Option.bind_eq_some_iff.mp H
 obtain ⟨t256, A30, H⟩ := H
 replace H : (if t256 = true then (if 0 ≤ (IntKind.u64.wrap (a0)) then ((zL.f a1 0 (wrap64 ((shl .i64 1 (IntKind.u64.wrap (a0))) - 1))).bind fun t257 => (some t257)) else (none)) else (some false)) = some r := H
 have A3 := Aside0.mk A30
 clear A30
 by_cases c4 : t256 = true
 ·subst c4
  have H1 : (if 0 ≤ (IntKind.u64.wrap (a0)) then ((zL.f a1 0 (wrap64 ((shl .i64 1 (IntKind.u64.wrap (a0))) - 1))).bind fun t257 => (some t257)) else (none)) = some r := by rw [if_pos rfl] at H; exact H
  clear H
  have H := H1
  clear H1
  obtain ⟨ji5, hji5⟩ : ∃ j_ : Int, (IntKind.u64.wrap (a0)) = j_ := ⟨_, rfl⟩
  replace H : (if 0 ≤ (ji5) then ((zL.f a1 0 (wrap64 ((shl .i64 1 (ji5)) - 1))).bind fun t257 => (some t257)) else (none)) = some r := by first | (rw [hji5] at H; exact H) | (simp only [hji5] at H ⊢; exact H)
  (try rw [hji5] at A3)
  by_cases c6 : 0 ≤ (ji5)
  ·rw [if_pos c6] at H
   have c6b0 := eq_true c6
   have c6b1 : decide (0 ≤ (ji5)) = true := decide_eq_true c6
   clear c6
   obtain ⟨ji7, hji7⟩ : ∃ j_ : Int, (shl .i64 1 (ji5)) = j_ := ⟨_, rfl⟩
   replace H : ((zL.f a1 0 (wrap64 ((ji7) - 1))).bind fun t257 => (some t257)) = some r := by first | (rw [hji7] at H; exact H) | (simp only [hji7] at H ⊢; exact H)
   (try rw [hji7] at A3)
   have hji7_ : (IntKind.i64.wrap (1 * 2 ^ min (ji5).toNat 64)) = ji7 := hji7
   have hji7z : (ji5) ≤ 64 → (IntKind.i64.wrap (1 * 2 ^ (ji5).toNat)) = ji7 := Qf hji7
   have hji7u : (IntKind.i64.wrap (2 ^ min (ji5).toNat 64)) = ji7 := by have h_ := hji7_; rw [Int.one_mul] at h_; exact h_
   have hji7v : (ji5) ≤ 64 → (IntKind.i64.wrap (2 ^ (ji5).toNat)) = ji7 := fun hle_ => by have h_ := hji7z hle_; rw [Int.one_mul] at h_; exact h_
   have hji7y : (wrap64 (1 * 2 ^ min (ji5).toNat 64)) = ji7 := (zf _).symm.trans hji7_
   have hji7x : (ji5) ≤ 64 → (wrap64 (1 * 2 ^ (ji5).toNat)) = ji7 := fun h_ => (zf _).symm.trans (hji7z h_)
   replace H := Option.bind_eq_some_iff.mp H
   obtain ⟨t257, A80, H⟩ := H
   replace H : (some t257) = some r := H
   have A8 := Aside0.mk A80
   clear A80
   obtain rfl := Option.some.inj H
   go_enter Try.func49, Try.ntmps49
   go_wp2_with (first | ((with_reducible refine zp (f := 43) rfl ?_); refine zP (some 6) rfl rfl Try.func43 (by kernel_rfl) rfl #[.int .i64 a0, .int .i64 0, .int .i64 8] rfl sqM ?_; (with_reducible refine (zL.calls a0 0 8 true _ A3.out).mono ?_); rintro e w' ⟨rfl, ⟨nd, rfl⟩⟩; refine ⟨_, rfl, ?_⟩) | (go_at_call 43; (try simp only [zf, zh]); (with_reducible refine (zL.calls a1 0 (wrap64 ((ji7) - 1)) t257 _ A8.out).mono ?_); rintro e w' ⟨rfl, ⟨nd, rfl⟩⟩))
   go_ret
   exact ⟨by first | rfl | (simp; done) | (simp only [← hji5, ← hji7] <;> (first | rfl | simp)) | (simp [*]; done), by repeat (first | exact zw.refl _ | apply zw.step)⟩
  ·rw [if_neg c6] at H
   exact absurd H (by simp)
 ·replace c4 := Bool.eq_false_iff.mpr c4
  subst c4
  have H1 : (some false) = some r := by rw [if_neg (show ¬ (false = true) by decide)] at H; exact H
  clear H
  have H := H1
  clear H1
  obtain rfl := Option.some.inj H
  go_enter Try.func49, Try.ntmps49
  go_wp2_with (first | ((with_reducible refine zp (f := 43) rfl ?_); refine zP (some 6) rfl rfl Try.func43 (by kernel_rfl) rfl #[.int .i64 a0, .int .i64 0, .int .i64 8] rfl sqM ?_; (with_reducible refine (zL.calls a0 0 8 false _ A3.out).mono ?_); rintro e w' ⟨rfl, ⟨nd, rfl⟩⟩; refine ⟨_, rfl, ?_⟩))
  go_ret
  exact ⟨sqD, by repeat (first | exact zw.refl _ | apply zw.step)⟩

def vF.f (a0 : Int) (a1 : Int) : Option (Bool) := if 0 ≤ (IntKind.u64.wrap (a1)) then (some ((Go.bits .and .i64 (shr .i64 a0 (IntKind.u64.wrap (a1))) 1) == 1)) else (none)
theorem vF.calls (a0 : Int) (a1 : Int) (r : Bool) (w : World) (h : vF.f a0 a1 = some r) :
  Calls Try.prog 70 #[.int .i64 a0, .int .i64 a1] w fun e w' => e = .returned (.bool r) ∧ zw w w' := by
 have H : (if 0 ≤ (IntKind.u64.wrap (a1)) then (some ((Go.bits .and .i64 (shr .i64 a0 (IntKind.u64.wrap (a1))) 1) == 1)) else (none)) = some r := h
 clear h
 obtain ⟨ji3, hji3⟩ : ∃ j_ : Int, (IntKind.u64.wrap (a1)) = j_ := ⟨_, rfl⟩
 replace H : (if 0 ≤ (ji3) then (some ((Go.bits .and .i64 (shr .i64 a0 (ji3)) 1) == 1)) else (none)) = some r := by first | (rw [hji3] at H; exact H) | (simp only [hji3] at H ⊢; exact H)
 by_cases c4 : 0 ≤ (ji3)
 ·rw [if_pos c4] at H
  have c4b0 := eq_true c4
  have c4b1 : decide (0 ≤ (ji3)) = true := decide_eq_true c4
  clear c4
  obtain ⟨ji5, hji5⟩ : ∃ j_ : Int, (shr .i64 a0 (ji3)) = j_ := ⟨_, rfl⟩
  replace H : (some ((Go.bits .and .i64 (ji5) 1) == 1)) = some r := by first | (rw [hji5] at H; exact H) | (simp only [hji5] at H ⊢; exact H)
  have hji5_ : (a0 / 2 ^ min (ji3).toNat 64) = ji5 := hji5
  have hji5z : (ji3) ≤ 64 → (a0 / 2 ^ (ji3).toNat) = ji5 := Qo hji5
  obtain rfl := Option.some.inj H
  go_enter Try.func70, Try.ntmps70
  go_wp2
  go_ret
  exact ⟨by first | rfl | (simp; done) | (simp only [← hji3, ← hji5] <;> (first | rfl | simp)) | (simp [*]; done), by repeat (first | exact zw.refl _ | apply zw.step)⟩
 ·rw [if_neg c4] at H
  exact absurd H (by simp)

mutual
def zt.l0 : Nat → Int → Int → Int → Int → List Int → Int → Int → Option (Int)
 | 0, _, _, _, _, _, _, _ => none
 | k + 1, x0, x1, x2, x4, x11, x12, x13 => if x13 < x2 then ((vF.f x4 x13).bind fun t264 => (if t264 = true then (zt.l1 k x0 x1 x2 x4 x11 x12 x13 x12) else (zt.l0 k x0 x1 x2 x4 x11 x12 (wrap64 (x13 + 1))))) else (some x12)
def zt.j2 : Nat → Int → Int → Int → Int → List Int → Int → Int → Int → Option (Int)
 | 0, _, _, _, _, _, _, _, _ => none
 | k + 1, x0, x1, x2, x4, x11, x12, x13, x14 => if x14 ≥ x1 then (zt.l0 k x0 x1 x2 x4 x11 x12 (wrap64 (x13 + 1))) else (zt.l2 k x0 x1 x2 x4 x11 x12 x13 x14 0)
def zt.l2 : Nat → Int → Int → Int → Int → List Int → Int → Int → Int → Int → Option (Int)
 | 0, _, _, _, _, _, _, _, _, _ => none
 | k + 1, x0, x1, x2, x4, x11, x12, x13, x14, x15 => if x15 < x2 then (if 0 ≤ (wrap64 ((wrap64 (x14 * x2)) + x15)) then (if (wrap64 ((wrap64 (x14 * x2)) + x15)) < (x11.length : Int) then (if 0 ≤ (wrap64 ((wrap64 (x12 * x2)) + x15)) then (if (wrap64 ((wrap64 (x12 * x2)) + x15)) < (x11.length : Int) then (zt.l2 k x0 x1 x2 x4 ((x11.set ((wrap64 ((wrap64 (x14 * x2)) + x15)) : Int).toNat (rd x11 (wrap64 ((wrap64 (x12 * x2)) + x15)))).set ((wrap64 ((wrap64 (x12 * x2)) + x15)) : Int).toNat (rd x11 (wrap64 ((wrap64 (x14 * x2)) + x15)))) x12 x13 x14 (wrap64 (x15 + 1))) else (none)) else (none)) else (none)) else (none)) else (zt.l3 k x0 x1 x2 x4 x11 x12 x13 (wrap64 (x12 + 1)))
def zt.l3 : Nat → Int → Int → Int → Int → List Int → Int → Int → Int → Option (Int)
 | 0, _, _, _, _, _, _, _, _ => none
 | k + 1, x0, x1, x2, x4, x11, x12, x13, x17 => if x17 < x1 then (if 0 ≤ (wrap64 ((wrap64 (x17 * x2)) + x13)) then (if (wrap64 ((wrap64 (x17 * x2)) + x13)) < (x11.length : Int) then (if 0 ≤ (wrap64 ((wrap64 (x12 * x2)) + x13)) then (if (wrap64 ((wrap64 (x12 * x2)) + x13)) < (x11.length : Int) then (zt.l4 k x0 x1 x2 x4 x11 x12 x13 x17 (rd x11 (wrap64 ((wrap64 (x17 * x2)) + x13))) (rd x11 (wrap64 ((wrap64 (x12 * x2)) + x13))) 0) else (none)) else (none)) else (none)) else (none)) else (zt.l0 k x0 x1 x2 x4 x11 (wrap64 (x12 + 1)) (wrap64 (x13 + 1)))
def zt.l4 : Nat → Int → Int → Int → Int → List Int → Int → Int → Int → Int → Int → Int → Option (Int)
 | 0, _, _, _, _, _, _, _, _, _, _, _ => none
 | k + 1, x0, x1, x2, x4, x11, x12, x13, x17, x18, x19, x20 => if x20 < x2 then (if 0 ≤ (wrap64 ((wrap64 (x17 * x2)) + x20)) then (if (wrap64 ((wrap64 (x17 * x2)) + x20)) < (x11.length : Int) then (if 0 ≤ (wrap64 ((wrap64 (x12 * x2)) + x20)) then (if (wrap64 ((wrap64 (x12 * x2)) + x20)) < (x11.length : Int) then (if x0 = 0 then (none) else (zt.l4 k x0 x1 x2 x4 (x11.set ((wrap64 ((wrap64 (x17 * x2)) + x20)) : Int).toNat (Int.tmod (wrap64 ((Int.tmod (wrap64 ((wrap64 ((rd x11 (wrap64 ((wrap64 (x17 * x2)) + x20))) * x19)) - (wrap64 ((rd x11 (wrap64 ((wrap64 (x12 * x2)) + x20))) * x18)))) x0) + x0)) x0)) x12 x13 x17 x18 x19 (wrap64 (x20 + 1)))) else (none)) else (none)) else (none)) else (none)) else (zt.l3 k x0 x1 x2 x4 x11 x12 x13 (wrap64 (x17 + 1)))
def zt.l1 : Nat → Int → Int → Int → Int → List Int → Int → Int → Int → Option (Int)
 | 0, _, _, _, _, _, _, _, _ => none
 | k + 1, x0, x1, x2, x4, x11, x12, x13, x14 => if x14 < x1 then (if 0 ≤ (wrap64 ((wrap64 (x14 * x2)) + x13)) then (if (wrap64 ((wrap64 (x14 * x2)) + x13)) < (x11.length : Int) then (if (rd x11 (wrap64 ((wrap64 (x14 * x2)) + x13))) = 0 then (zt.l1 k x0 x1 x2 x4 x11 x12 x13 (wrap64 (x14 + 1))) else (zt.j2 k x0 x1 x2 x4 x11 x12 x13 x14)) else (none)) else (none)) else (zt.j2 k x0 x1 x2 x4 x11 x12 x13 x14)
end
def zt.f (k : Nat) (a0 : Int) (a1 : Int) (a2 : Int) (l3 : List Int) (a4 : Int) : Option (Int) := (some (([] : List Int) : List Int)).bind fun y258 => (if y258.length + l3.length < 17592186044416 then (zt.l0 k a0 a1 a2 a4 (y258 ++ l3) 0 0) else (none))
def zt.T25 : Bool × List (List Nat × List Nat) := (true, [([], []), ([], []), ([], []), ([1, 2], [1, 2]), ([], []), ([3, 4], [3, 4]), ([], []), ([], []), ([], []), ([7, 8], [7, 8]), ([], []), ([9, 10], [9, 10]), ([6, 11], [6, 11]), ([12], [12]), ([], []), ([13, 14], [13, 14]), ([], []), ([], []), ([], []), ([17, 18], [17, 18]), ([], []), ([19, 20], [19, 20]), ([16, 21], [16, 21]), ([22], [22]), ([], []), ([23, 24], [23, 24]), ([15, 25], [15, 25]), ([], []), ([26, 27], [26, 27]), ([], []), ([28, 29], [28, 29]), ([], []), ([30, 31], [30, 31]), ([0, 5, 0, 1, 2, 3, 4, 5, 6, 7, 8, 9, 10, 11, 12, 13, 14, 15, 16, 17, 18, 19, 20, 21, 22, 23, 24, 25, 26, 27, 28, 29, 30, 31, 32], [0, 5]), ([33, 32, 0, 1, 2, 3, 4, 5, 6, 7, 8, 9, 10, 11, 12, 13, 14, 15, 16, 17, 18, 19, 20, 21, 22, 23, 24, 25, 26, 27, 28, 29, 30, 31, 32], [32, 33])])
def zt.B25 : List Nat := [0, 0, 0, 6, 0, 30, 0, 0, 0, 384, 0, 1920, 4032, 8128, 0, 32704, 0, 0, 0, 393216, 0, 1966080, 4128768, 8323072, 0, 33488896, 67108800, 0, 268435392, 0, 1073741760, 0, 4294967232, 8589934591, 17179869183]
theorem zt.zav : jQ .any (opsOf Try.f57 25) = zt.T25 := by kernel_rfl
theorem zt.YV : jf zt.T25.2 zt.B25 = true := by kernel_rfl
theorem zt.calls (k : Nat) (a0 : Int) (a1 : Int) (a2 : Int) (A3 : Option Addr) (c3 : Nat) (l3 : List Int) (a4 : Int) (r : Int) (w : World) (hr3 : Kd.C (Kd.int .i64) w A3 l3.length l3) (hc3 : l3.length ≤ c3) (h : zt.f k a0 a1 a2 l3 a4 = some r) :
  Calls Try.prog 57 #[.int .i64 a0, .int .i64 a1, .int .i64 a2, .slice A3 l3.length c3, .int .i64 a4] w fun e w' => e = .returned (.int .i64 r) ∧ Below w.heap.size w w' := by
 have HR3 := Aside0.mk hr3
 have HC3 := Aside0.mk hc3
 clear hr3 hc3
 have HB := Aside0.mk (Below.refl w.heap.size w)
 have H : ((some (([] : List Int) : List Int)).bind fun y258 => (if y258.length + l3.length < 17592186044416 then (zt.l0 k a0 a1 a2 a4 (y258 ++ l3) 0 0) else (none))) = some r := h
 clear h
 obtain ⟨y258, hy258⟩ : ∃ y_ : List Int, y_ = (([] : List Int)) := ⟨_, rfl⟩
 replace H : (if y258.length + l3.length < 17592186044416 then (zt.l0 k a0 a1 a2 a4 (y258 ++ l3) 0 0) else (none)) = some r := by first | (rw [hy258]; with_reducible exact H) | (have H2_ := (Option.bind_some _ _).symm.trans H; rw [hy258]; with_reducible exact H2_) | (have H2_ := (Option.bind_some _ _).symm.trans H; with_reducible exact H2_) | with_reducible exact H | (rw [hy258]; exact H) | exact H
 have Ny258 := Aside0.mk hy258
 clear hy258
 by_cases c6 : y258.length + l3.length < 17592186044416
 ·rw [if_pos c6] at H
  have LMc6 := Aside0.mk c6
  clear c6
  obtain ⟨y261, hy261⟩ : ∃ y_ : List Int, y_ = (y258 ++ l3) := ⟨_, rfl⟩
  replace H : (zt.l0 k a0 a1 a2 a4 y261 0 0) = some r := by first | (rw [hy261]; with_reducible exact H) | (have H2_ := (Option.bind_some _ _).symm.trans H; rw [hy261]; with_reducible exact H2_) | (have H2_ := (Option.bind_some _ _).symm.trans H; with_reducible exact H2_) | with_reducible exact H | (rw [hy261]; exact H) | exact H
  have Ny261 := Aside0.mk hy261
  clear hy261
  have H' := Aside0.mk H
  clear H
  go_enter Try.func57, Try.ntmps57
  go_wp2_with (first | ((with_reducible refine zC (N := 21) rfl ?_); refine Kd.yC (Kd.int .i64) _ 3 ?hg (N := 21) ?hd (xs := ([] : List Int)) (inner := []) (ok := fun _ => True) (okp := fun _ => True) ?hr ?hp (fun _ hk => hk) trivial (Below.refl _ _) (Nat.le_refl _) (by simp) ?_; (case hd => rfl); (case hg => rfl); (case hr => exact sqG); (case hp => exact (qy.none _ _)); intro v259 w7 ho8 hb hg_ hnew_; clear hg_ hnew_; (first | rw [← Ny258.out] at ho8 | (simp only [Int.reduceToNat] at ho8; rw [← Ny258.out] at ho8)); have n0_ := Aside0.mk (Kd.qo ho8 (zJ sqB)); have n1_ := Aside0.mk (zg sqB hb); clear HB; have HO260 := n0_; have HB := n1_; clear n0_ n1_; clear hb ho8) | ((with_reducible refine qP (b := .append) (xs := #[.tmp 21, .tmp 22]) rfl ?_); at_builtin; refine Kd.jB (Kd.int .i64) (w0 := w) w.heap.size rfl (.tmp 21) (.tmp 22) 22 3 (.int .i64 0) 8 rfl Try.underlying22 vt rfl (by decide) (by omega) v259 y258 l3 _ _ _ (fun _ => True) (fun _ => False) rfl rfl ?aO ?aR (fun _ _ h => h) (fun _ h => h.elim) ?aF ?aB ?aS ?aL ?_; (case aR => exact sqC (Kd.z1 HR3.out HB.out)); (case aB => exact sqB); (case aF => exact (fun _ _ => trivial)); (case aO => exact (sqR HO260.out)); (case aS => exact (zJ sqB)); (case aL => have := LMc6.out; omega); intro v262 w9 ho hb hg hat; rw [← Ny261.out] at ho; have n0_ := Aside0.mk (hb); have n1_ := Aside0.mk (ho); clear HB; clear HO260; have HB := n0_; have HO263 := n1_; clear n0_ n1_; clear ho hb hg hat))
  go_loopg [12, 13] k (fun kq v12 v13 w' => ∃ (x11_1 : List Int) (x12_1 : Int) (x13_1 : Int), v12 = .int .i64 x12_1 ∧ v13 = .int .i64 x13_1 ∧ Aside0 (zt.l0 kq a0 a1 a2 a4 x11_1 x12_1 x13_1 = some r) ∧ Aside0 (kq ≤ k) ∧ Aside0 (Kd.R (Kd.int .i64) 3 w' w.heap.size (fun _ => True) v262 x11_1) ∧ Aside0 (Below w.heap.size w w'))
  case atStart => exact ⟨(y261), (0), (0), (sqD), (sqD), H', ⟨Nat.le_refl _⟩, ⟨sqR HO263.out⟩, ⟨sqB⟩⟩
  case round =>
   clear H'
   try clear p2
   try clear c3
   try clear c5
   try clear c6
   obtain ⟨x11_1, x12_1, x13_1, rfl, rfl, HA, HK1, HO_11, HB⟩ := hrel
   cases gk with
   | zero => exact absurd HA.out (by simp [zt.l0])
   | succ k1 =>
    have H := HA.out
    clear HA
    simp only [zt.l0] at H
    by_cases c10 : x13_1 < a2
    ·rw [if_pos c10] at H
     have c10b0 : decide (x13_1 < a2) = true := decide_eq_true c10
     clear c10
     replace H := Option.bind_eq_some_iff.mp H
     obtain ⟨t264, A110, H⟩ := H
     replace H : (if t264 = true then (zt.l1 k1 a0 a1 a2 a4 x11_1 x12_1 x13_1 x12_1) else (zt.l0 k1 a0 a1 a2 a4 x11_1 x12_1 (wrap64 (x13_1 + 1)))) = some r := H
     have A11 := Aside0.mk A110
     clear A110
     by_cases c12 : t264 = true
     ·subst c12
      have H1 : (zt.l1 k1 a0 a1 a2 a4 x11_1 x12_1 x13_1 x12_1) = some r := by rw [if_pos rfl] at H; exact H
      clear H
      have H := H1
      clear H1
      have HC13 := Aside0.mk H
      clear H
      go_upto_block 2 with (first | ((with_reducible refine zp (f := 70) rfl ?_); refine zP (some 31) rfl rfl Try.func70 (by kernel_rfl) rfl #[.int .i64 a4, .int .i64 x13_1] rfl sqM ?_; (with_reducible refine (vF.calls a4 x13_1 true _ A11.out).mono ?_); rintro e w' ⟨rfl, ⟨nd, rfl⟩⟩; refine ⟨_, rfl, ?_⟩))
      (try simp only [Act.put, List.setIfInBounds_toArray, List.set_cons_zero, List.set_cons_succ])
      go_cut [14] (fun v14 wc => ∃ (kq : Nat) (x14_12 : Int), v14 = .int .i64 x14_12 ∧ Aside0 (zt.j2 kq a0 a1 a2 a4 x11_1 x12_1 x13_1 x14_12 = some r) ∧ Aside0 (kq ≤ k1) ∧ Aside0 (Kd.R (Kd.int .i64) 3 wc w.heap.size (fun _ => True) v262 x11_1) ∧ Aside0 (Below w.heap.size w wc))
      case first =>
       have H := HC13.out
       clear HC13
       have H' := Aside0.mk H
       clear H
       go_wp2
       go_loopg [14] k1 (fun kq v14 w' => ∃ (x14_2 : Int), v14 = .int .i64 x14_2 ∧ Aside0 (zt.l1 kq a0 a1 a2 a4 x11_1 x12_1 x13_1 x14_2 = some r) ∧ Aside0 (kq ≤ k1) ∧ Aside0 (Kd.R (Kd.int .i64) 3 w' w.heap.size (fun _ => True) v262 x11_1) ∧ Aside0 (Below w.heap.size w w'))
       case atStart => exact ⟨(x12_1), (sqD), H', ⟨Nat.le_refl _⟩, ⟨sqR HO_11.out⟩, ⟨sqB⟩⟩
       case round =>
        clear H'
        try clear c1
        try clear p2
        try clear c3
        try clear c5
        try clear c6
        try clear p6
        try clear c7
        try clear c10
        try clear c10b0
        try clear c12
        try clear p2
        obtain ⟨x14_2, rfl, HA, HK2, HO_11, HB⟩ := hrel
        cases gk with
        | zero => exact absurd HA.out (by simp [zt.l1])
        | succ k2 =>
         have H := HA.out
         clear HA
         simp only [zt.l1] at H
         by_cases c14 : x14_2 < a1
         ·rw [if_pos c14] at H
          have c14b0 : decide (x14_2 < a1) = true := decide_eq_true c14
          clear c14
          (first | rw [c14b0] | (simp only [zf, zh]; rw [c14b0]) | skip)
          obtain ⟨ji15, hji15⟩ : ∃ j_ : Int, (wrap64 ((wrap64 (x14_2 * a2)) + x13_1)) = j_ := ⟨_, rfl⟩
          replace H : (if 0 ≤ (ji15) then (if (ji15) < (x11_1.length : Int) then (if (rd x11_1 (ji15)) = 0 then (zt.l1 k2 a0 a1 a2 a4 x11_1 x12_1 x13_1 (wrap64 (x14_2 + 1))) else (zt.j2 k2 a0 a1 a2 a4 x11_1 x12_1 x13_1 x14_2)) else (none)) else (none)) = some r := by first | (rw [hji15] at H; exact H) | (simp only [hji15] at H ⊢; exact H)
          have hji15w : (IntKind.i64.wrap ((wrap64 (x14_2 * a2)) + x13_1)) = ji15 := (zf _).trans hji15
          by_cases c16 : 0 ≤ (ji15)
          ·rw [if_pos c16] at H
           have c16b0 : decide (0 ≤ (ji15)) = true := decide_eq_true c16
           clear c16
           by_cases c17 : (ji15) < (x11_1.length : Int)
           ·rw [if_pos c17] at H
            have c17b0 : decide ((ji15) < (x11_1.length : Int)) = true := decide_eq_true c17
            clear c17
            by_cases c18 : (rd x11_1 (ji15)) = 0
            ·rw [if_pos c18] at H
             have c18b0 : ((rd x11_1 (ji15)) == 0) = true := beq_iff_eq.mpr c18
             have c18b1 : ((rd x11_1 (ji15)) != 0) = false := bne_eq_false_iff_eq.mpr c18
             clear c18
             have H' := Aside0.mk H
             clear H
             obtain ⟨Ao19, co19, eo19⟩ := Kd.zU HO_11.out
             subst eo19
             have p265 : 0 ≤ ((ji15) : Int) := of_decide_eq_true sqA
             have q265 : (ji15) < (x11_1.length : Int) := of_decide_eq_true sqA
             obtain ⟨ad265, e265, hx265_0⟩ := Kd.qh (Kd.zu HO_11.out).2.2 (ji15) p265 q265
             cases e265
             replace p265 := eq_true p265
             replace q265 := eq_true q265
             go_wp2
             go_roundg k2
             case measure => have := HK1.out; have := HK2.out; omega
             case rel => exact ⟨(wrap64 (x14_2 + 1)), (sqD), H', ⟨by have := HK1.out; have := HK2.out; omega⟩, ⟨sqR HO_11.out⟩, ⟨sqB⟩⟩
            ·rw [if_neg c18] at H
             have c18b0 : ((rd x11_1 (ji15)) == 0) = false := beq_eq_false_iff_ne.mpr c18
             have c18b1 : ((rd x11_1 (ji15)) != 0) = true := bne_iff_ne.mpr c18
             have H' := Aside0.mk H
             clear H
             obtain ⟨Ao20, co20, eo20⟩ := Kd.zU HO_11.out
             subst eo20
             have p265 : 0 ≤ ((ji15) : Int) := of_decide_eq_true sqA
             have q265 : (ji15) < (x11_1.length : Int) := of_decide_eq_true sqA
             obtain ⟨ad265, e265, hx265_0⟩ := Kd.qh (Kd.zu HO_11.out).2.2 (ji15) p265 q265
             cases e265
             replace p265 := eq_true p265
             replace q265 := eq_true q265
             go_wp2
             go_meet
             case rel => exact ⟨_, (x14_2), (sqD), H', ⟨by have := HK1.out; have := HK2.out; first | omega | exact Nat.le_refl _⟩, ⟨sqR HO_11.out⟩, ⟨sqB⟩⟩
           ·rw [if_neg c17] at H
            exact absurd H (by simp)
          ·rw [if_neg c16] at H
           exact absurd H (by simp)
         ·rw [if_neg c14] at H
          have c14b0 : decide (x14_2 < a1) = false := decide_eq_false c14
          clear c14
          (first | rw [c14b0] | (simp only [zf, zh]; rw [c14b0]) | skip)
          have H' := Aside0.mk H
          clear H
          go_wp2
          go_meet
          case rel => exact ⟨_, (x14_2), (sqD), H', ⟨by have := HK1.out; have := HK2.out; first | omega | exact Nat.le_refl _⟩, ⟨sqR HO_11.out⟩, ⟨sqB⟩⟩
      case rest =>
       clear HC13
       try clear c1
       try clear p2
       try clear q2
       try clear hx2
       try clear c3
       try clear c5
       try clear c6
       try clear p6
       try clear c7
       try clear c10
       try clear c10b0
       try clear c12
       try clear c14
       try clear c14b0
       try clear c16
       try clear c16b0
       try clear c17
       try clear c17b0
       try clear c18
       try clear c18b0
       try clear c18b1
       try clear hx265_0
       try clear p2
       try clear p265
       try clear p6
       try clear q265
       obtain ⟨kq, x14_12, rfl, HA, HJ12, HO_11, HB⟩ := hcut
       cases kq with
       | zero => exact absurd HA.out (by simp [zt.j2])
       | succ kj12 =>
        have H := HA.out
        clear HA
        simp only [zt.j2] at H
        by_cases c21 : x14_12 ≥ a1
        ·rw [if_pos c21] at H
         have c21b0 : decide (a1 ≤ x14_12) = true := decide_eq_true c21
         clear c21
         have H' := Aside0.mk H
         clear H
         go_wp2
         go_roundg kj12
         case measure => have := HK1.out; have := HJ12.out; omega
         case rel => exact ⟨(x11_1), (x12_1), (wrap64 (x13_1 + 1)), (sqD), (sqD), H', ⟨by have := HK1.out; have := HJ12.out; omega⟩, ⟨sqR HO_11.out⟩, ⟨sqB⟩⟩
        ·rw [if_neg c21] at H
         have c21b0 : decide (a1 ≤ x14_12) = false := decide_eq_false c21
         clear c21
         have H' := Aside0.mk H
         clear H
         go_wp2
         go_loopg [15] kj12 (fun kq v15 w' => ∃ (x11_3 : List Int) (x15_3 : Int), v15 = .int .i64 x15_3 ∧ Aside0 (zt.l2 kq a0 a1 a2 a4 x11_3 x12_1 x13_1 x14_12 x15_3 = some r) ∧ Aside0 (kq ≤ kj12) ∧ Aside0 (Kd.R (Kd.int .i64) 3 w' w.heap.size (fun _ => True) v262 x11_3) ∧ Aside0 (Below w.heap.size w w'))
         case atStart => exact ⟨(x11_1), (0), (sqD), H', ⟨Nat.le_refl _⟩, ⟨sqR HO_11.out⟩, ⟨sqB⟩⟩
         case round =>
          clear H'
          try clear c1
          try clear c2
          try clear p2
          try clear q2
          try clear hx2
          try clear c3
          try clear c5
          try clear c6
          try clear p6
          try clear c7
          try clear c10
          try clear c10b0
          try clear c12
          try clear c14
          try clear c14b0
          try clear c16
          try clear c16b0
          try clear c17
          try clear c17b0
          try clear c18
          try clear c18b0
          try clear c18b1
          try clear c21
          try clear c21b0
          try clear hx265_0
          try clear p2
          try clear p265
          try clear p6
          try clear q2
          try clear q265
          obtain ⟨x11_3, x15_3, rfl, HA, HK3, HO_11, HB⟩ := hrel
          cases gk with
          | zero => exact absurd HA.out (by simp [zt.l2])
          | succ k3 =>
           have H := HA.out
           clear HA
           simp only [zt.l2] at H
           by_cases c22 : x15_3 < a2
           ·rw [if_pos c22] at H
            have c22b0 : decide (x15_3 < a2) = true := decide_eq_true c22
            clear c22
            obtain ⟨ji23, hji23⟩ : ∃ j_ : Int, (wrap64 ((wrap64 (x14_12 * a2)) + x15_3)) = j_ := ⟨_, rfl⟩
            replace H : (if 0 ≤ (ji23) then (if (ji23) < (x11_3.length : Int) then (if 0 ≤ (wrap64 ((wrap64 (x12_1 * a2)) + x15_3)) then (if (wrap64 ((wrap64 (x12_1 * a2)) + x15_3)) < (x11_3.length : Int) then (zt.l2 k3 a0 a1 a2 a4 ((x11_3.set ((ji23) : Int).toNat (rd x11_3 (wrap64 ((wrap64 (x12_1 * a2)) + x15_3)))).set ((wrap64 ((wrap64 (x12_1 * a2)) + x15_3)) : Int).toNat (rd x11_3 (ji23))) x12_1 x13_1 x14_12 (wrap64 (x15_3 + 1))) else (none)) else (none)) else (none)) else (none)) = some r := by first | (rw [hji23] at H; exact H) | (simp only [hji23] at H ⊢; exact H)
            have hji23w : (IntKind.i64.wrap ((wrap64 (x14_12 * a2)) + x15_3)) = ji23 := (zf _).trans hji23
            by_cases c24 : 0 ≤ (ji23)
            ·rw [if_pos c24] at H
             have c24b0 : decide (0 ≤ (ji23)) = true := decide_eq_true c24
             clear c24
             by_cases c25 : (ji23) < (x11_3.length : Int)
             ·rw [if_pos c25] at H
              have c25b0 : decide ((ji23) < (x11_3.length : Int)) = true := decide_eq_true c25
              clear c25
              obtain ⟨ji26, hji26⟩ : ∃ j_ : Int, (wrap64 ((wrap64 (x12_1 * a2)) + x15_3)) = j_ := ⟨_, rfl⟩
              replace H : (if 0 ≤ (ji26) then (if (ji26) < (x11_3.length : Int) then (zt.l2 k3 a0 a1 a2 a4 ((x11_3.set ((ji23) : Int).toNat (rd x11_3 (ji26))).set ((ji26) : Int).toNat (rd x11_3 (ji23))) x12_1 x13_1 x14_12 (wrap64 (x15_3 + 1))) else (none)) else (none)) = some r := by first | (rw [hji26] at H; exact H) | (simp only [hji26] at H ⊢; exact H)
              have hji26w : (IntKind.i64.wrap ((wrap64 (x12_1 * a2)) + x15_3)) = ji26 := (zf _).trans hji26
              by_cases c27 : 0 ≤ (ji26)
              ·rw [if_pos c27] at H
               have c27b0 : decide (0 ≤ (ji26)) = true := decide_eq_true c27
               clear c27
               by_cases c28 : (ji26) < (x11_3.length : Int)
               ·rw [if_pos c28] at H
                have c28b0 : decide ((ji26) < (x11_3.length : Int)) = true := decide_eq_true c28
                clear c28
                obtain ⟨y268, hy268⟩ : ∃ y_ : List Int, y_ = (x11_3.set ((ji23) : Int).toNat (rd x11_3 (ji26))) := ⟨_, rfl⟩
                replace H : (zt.l2 k3 a0 a1 a2 a4 (y268.set ((ji26) : Int).toNat (rd x11_3 (ji23))) x12_1 x13_1 x14_12 (wrap64 (x15_3 + 1))) = some r := by first | (rw [hy268]; with_reducible exact H) | (have H2_ := (Option.bind_some _ _).symm.trans H; rw [hy268]; with_reducible exact H2_) | (have H2_ := (Option.bind_some _ _).symm.trans H; with_reducible exact H2_) | with_reducible exact H | (rw [hy268]; exact H) | exact H
                have Ny268 := Aside0.mk hy268
                clear hy268
                obtain ⟨y269, hy269⟩ : ∃ y_ : List Int, y_ = (y268.set ((ji26) : Int).toNat (rd x11_3 (ji23))) := ⟨_, rfl⟩
                replace H : (zt.l2 k3 a0 a1 a2 a4 y269 x12_1 x13_1 x14_12 (wrap64 (x15_3 + 1))) = some r := by first | (rw [hy269]; with_reducible exact H) | (have H2_ := (Option.bind_some _ _).symm.trans H; rw [hy269]; with_reducible exact H2_) | (have H2_ := (Option.bind_some _ _).symm.trans H; with_reducible exact H2_) | with_reducible exact H | (rw [hy269]; exact H) | exact H
                have Ny269 := Aside0.mk hy269
                clear hy269
                have H' := Aside0.mk H
                clear H
                obtain ⟨Ao31, co31, eo31⟩ := Kd.zU HO_11.out
                subst eo31
                have p266 : 0 ≤ ((ji23) : Int) := of_decide_eq_true sqA
                have q266 : (ji23) < (x11_3.length : Int) := of_decide_eq_true sqA
                obtain ⟨ad266, e266, hx266_0⟩ := Kd.qh (Kd.zu HO_11.out).2.2 (ji23) p266 q266
                cases e266
                replace p266 := eq_true p266
                replace q266 := eq_true q266
                have p267 : 0 ≤ ((ji26) : Int) := of_decide_eq_true sqA
                have q267 : (ji26) < (x11_3.length : Int) := of_decide_eq_true sqA
                obtain ⟨ad267, e267, hx267_0⟩ := Kd.qh (Kd.zu HO_11.out).2.2 (ji26) p267 q267
                obtain rfl : ad266 = ad267 := (by injection e267)
                replace p267 := eq_true p267
                replace q267 := eq_true q267
                have p29 : 0 ≤ ((ji23) : Int) := of_decide_eq_true sqA
                have q29 : ((ji23) : Int) < ((x11_3.length : Int) : Int) := of_decide_eq_true sqA
                obtain ⟨go29, co29, eo29, gb29, gl29, cl29, HG29⟩ := Kd.vq HO_11.out (by omega)
                (first | cases eo29 | (injection eo29 with ea_ en_ ec_; (first | subst ea_ | (injection ea_ with ea_; subst ea_)); subst ec_; clear en_))
                (try simp only [add_plain] at *)
                have GB29 := Aside0.mk gb29
                have GG29 := Aside0.mk HG29
                clear gb29 gl29 HG29
                (first | simp only [add_plain] at hx266_0 | skip)
                (first | simp only [add_plain] at hx267_0 | skip)
                obtain ⟨hx29_0, hf29_0⟩ := Kd.qX 0 HO_11.out ((ji23) : Int) p29 q29
                replace p29 := eq_true p29
                replace q29 := eq_true q29
                have HP32 := Kd.ye HO_11.out ((ji23) : Int) (rd x11_3 (ji26))
                go_wp2_with (first | ((with_reducible refine jH (t := 3) (p := 80) rfl ?_); refine jt (t := 3) (p := 80) (v := ?vo_w33) (w1 := (wr.setCell ⟨go29, ((ji23) : Int).toNat, none⟩ (.int .i64 (rd x11_3 (ji26))))) ?hg ?ho ?hn ?hr ?_; (case ho => rfl); (case hg => rfl); (case hn => rfl); (case hr => exact sqG); intro w33 hw; have hg : wr.grownBy w33 (some go29) := (by rw [hw]; exact HP32.2); have hp_ : Kd.R (Kd.int .i64) 3 w33 w.heap.size (fun _ => True) (.slice (some ⟨go29, 0, none⟩) x11_3.length co31) y268 := (by rw [hw, Ny268.out]; exact HP32.1); clear HP32; have n0_ := Aside0.mk (hp_); have n1_ := Aside0.mk ((by rw [hw]; exact zO (HB.out) GB29.out : Below w.heap.size w w33)); clear HO_11; clear HB; have HO_11 := n0_; have HB := n1_; clear n0_ n1_; clear hg hw hp_; have p30 : 0 ≤ ((ji26) : Int) := of_decide_eq_true sqA; have q30 : ((ji26) : Int) < ((x11_3.length : Int) : Int) := of_decide_eq_true sqA; obtain ⟨hx30_0, hf30_0⟩ := Kd.qX 0 HO_11.out ((ji26) : Int) p30 q30; replace p30 := eq_true p30; replace q30 := eq_true q30; obtain ⟨hy34_, hz34_⟩ := Kd.qX 0 HO_11.out ((ji26) : Int) (of_decide_eq_true sqA) (of_decide_eq_true sqA); have HP34 := Kd.ye HO_11.out ((ji26) : Int) (rd x11_3 (ji23))) | ((with_reducible refine jH (t := 3) (p := 88) rfl ?_); refine jt (t := 3) (p := 88) (v := ?vo_w35) (w1 := (w33.setCell ⟨go29, ((ji26) : Int).toNat, none⟩ (.int .i64 (rd x11_3 (ji23))))) ?hg ?ho ?hn ?hr ?_; (case ho => rfl); (case hg => rfl); (case hn => rfl); (case hr => exact sqG); intro w35 hw; have hg : w33.grownBy w35 (some go29) := (by rw [hw]; exact HP34.2); have hp_ : Kd.R (Kd.int .i64) 3 w35 w.heap.size (fun _ => True) (.slice (some ⟨go29, 0, none⟩) x11_3.length co31) y269 := (by rw [hw, Ny269.out]; exact HP34.1); clear HP34; have n0_ := Aside0.mk (hp_); have n1_ := Aside0.mk ((by rw [hw]; exact zO (HB.out) GB29.out : Below w.heap.size w w35)); clear HO_11; clear HB; have HO_11 := n0_; have HB := n1_; clear n0_ n1_; clear hg hw hp_))
                go_roundg k3
                case measure => have := HK1.out; have := HJ12.out; have := HK3.out; omega
                case rel => exact ⟨(y269), (wrap64 (x15_3 + 1)), (sqD), H', ⟨by have := HK1.out; have := HJ12.out; have := HK3.out; omega⟩, ⟨sqR HO_11.out⟩, ⟨sqB⟩⟩
               ·rw [if_neg c28] at H
                exact absurd H (by simp)
              ·rw [if_neg c27] at H
               exact absurd H (by simp)
             ·rw [if_neg c25] at H
              exact absurd H (by simp)
            ·rw [if_neg c24] at H
             exact absurd H (by simp)
           ·rw [if_neg c22] at H
            have c22b0 : decide (x15_3 < a2) = false := decide_eq_false c22
            clear c22
            have H' := Aside0.mk H
            clear H
            go_wp2
            go_loopg [17] k3 (fun kq v17 w' => ∃ (x11_4 : List Int) (x17_4 : Int), v17 = .int .i64 x17_4 ∧ Aside0 (zt.l3 kq a0 a1 a2 a4 x11_4 x12_1 x13_1 x17_4 = some r) ∧ Aside0 (kq ≤ k3) ∧ Aside0 (Kd.R (Kd.int .i64) 3 w' w.heap.size (fun _ => True) v262 x11_4) ∧ Aside0 (Below w.heap.size w w'))
            case atStart => exact ⟨(x11_3), (wrap64 (x12_1 + 1)), (sqD), H', ⟨Nat.le_refl _⟩, ⟨sqR HO_11.out⟩, ⟨sqB⟩⟩
            case round =>
             clear H'
             try clear c1
             try clear c2
             try clear p2
             try clear q2
             try clear hx2
             try clear c3
             try clear p3
             try clear q3
             try clear hx3
             try clear c5
             try clear c6
             try clear p6
             try clear c7
             try clear c10
             try clear c10b0
             try clear c12
             try clear c14
             try clear c14b0
             try clear c16
             try clear c16b0
             try clear c17
             try clear c17b0
             try clear c18
             try clear c18b0
             try clear c18b1
             try clear c21
             try clear c21b0
             try clear c22
             try clear c22b0
             try clear c24
             try clear c24b0
             try clear c25
             try clear c25b0
             try clear p26
             try clear q26
             try clear hx26
             try clear c27
             try clear c27b0
             try clear c28
             try clear c28b0
             try clear p29
             try clear q29
             try clear hx29
             try clear hf29
             try clear p30
             try clear q30
             try clear hx30
             try clear hf30
             try clear hx265_0
             try clear hx266_0
             try clear hx267_0
             try clear hx29_0
             try clear hx30_0
             try clear p2
             try clear p265
             try clear p266
             try clear p267
             try clear p29
             try clear p30
             try clear p6
             try clear q2
             try clear q265
             try clear q266
             try clear q267
             try clear q29
             try clear q30
             obtain ⟨x11_4, x17_4, rfl, HA, HK4, HO_11, HB⟩ := hrel
             cases gk with
             | zero => exact absurd HA.out (by simp [zt.l3])
             | succ k4 =>
              have H := HA.out
              clear HA
              simp only [zt.l3] at H
              by_cases c36 : x17_4 < a1
              ·rw [if_pos c36] at H
               have c36b0 : decide (x17_4 < a1) = true := decide_eq_true c36
               clear c36
               obtain ⟨ji37, hji37⟩ : ∃ j_ : Int, (wrap64 ((wrap64 (x17_4 * a2)) + x13_1)) = j_ := ⟨_, rfl⟩
               replace H : (if 0 ≤ (ji37) then (if (ji37) < (x11_4.length : Int) then (if 0 ≤ (wrap64 ((wrap64 (x12_1 * a2)) + x13_1)) then (if (wrap64 ((wrap64 (x12_1 * a2)) + x13_1)) < (x11_4.length : Int) then (zt.l4 k4 a0 a1 a2 a4 x11_4 x12_1 x13_1 x17_4 (rd x11_4 (ji37)) (rd x11_4 (wrap64 ((wrap64 (x12_1 * a2)) + x13_1))) 0) else (none)) else (none)) else (none)) else (none)) = some r := by first | (rw [hji37] at H; exact H) | (simp only [hji37] at H ⊢; exact H)
               have hji37w : (IntKind.i64.wrap ((wrap64 (x17_4 * a2)) + x13_1)) = ji37 := (zf _).trans hji37
               by_cases c38 : 0 ≤ (ji37)
               ·rw [if_pos c38] at H
                have c38b0 : decide (0 ≤ (ji37)) = true := decide_eq_true c38
                clear c38
                by_cases c39 : (ji37) < (x11_4.length : Int)
                ·rw [if_pos c39] at H
                 have c39b0 : decide ((ji37) < (x11_4.length : Int)) = true := decide_eq_true c39
                 clear c39
                 obtain ⟨ji40, hji40⟩ : ∃ j_ : Int, (wrap64 ((wrap64 (x12_1 * a2)) + x13_1)) = j_ := ⟨_, rfl⟩
                 replace H : (if 0 ≤ (ji40) then (if (ji40) < (x11_4.length : Int) then (zt.l4 k4 a0 a1 a2 a4 x11_4 x12_1 x13_1 x17_4 (rd x11_4 (ji37)) (rd x11_4 (ji40)) 0) else (none)) else (none)) = some r := by first | (rw [hji40] at H; exact H) | (simp only [hji40] at H ⊢; exact H)
                 have hji40w : (IntKind.i64.wrap ((wrap64 (x12_1 * a2)) + x13_1)) = ji40 := (zf _).trans hji40
                 by_cases c41 : 0 ≤ (ji40)
                 ·rw [if_pos c41] at H
                  have c41b0 : decide (0 ≤ (ji40)) = true := decide_eq_true c41
                  clear c41
                  by_cases c42 : (ji40) < (x11_4.length : Int)
                  ·rw [if_pos c42] at H
                   have c42b0 : decide ((ji40) < (x11_4.length : Int)) = true := decide_eq_true c42
                   clear c42
                   have H' := Aside0.mk H
                   clear H
                   obtain ⟨Ao43, co43, eo43⟩ := Kd.zU HO_11.out
                   subst eo43
                   have p270 : 0 ≤ ((ji37) : Int) := of_decide_eq_true sqA
                   have q270 : (ji37) < (x11_4.length : Int) := of_decide_eq_true sqA
                   obtain ⟨ad270, e270, hx270_0⟩ := Kd.qh (Kd.zu HO_11.out).2.2 (ji37) p270 q270
                   cases e270
                   replace p270 := eq_true p270
                   replace q270 := eq_true q270
                   have p271 : 0 ≤ ((ji40) : Int) := of_decide_eq_true sqA
                   have q271 : (ji40) < (x11_4.length : Int) := of_decide_eq_true sqA
                   obtain ⟨ad271, e271, hx271_0⟩ := Kd.qh (Kd.zu HO_11.out).2.2 (ji40) p271 q271
                   obtain rfl : ad270 = ad271 := (by injection e271)
                   replace p271 := eq_true p271
                   replace q271 := eq_true q271
                   go_wp2
                   go_loopg [20] k4 (fun kq v20 w' => ∃ (x11_5 : List Int) (x20_5 : Int), v20 = .int .i64 x20_5 ∧ Aside0 (zt.l4 kq a0 a1 a2 a4 x11_5 x12_1 x13_1 x17_4 (rd x11_4 (ji37)) (rd x11_4 (ji40)) x20_5 = some r) ∧ Aside0 (kq ≤ k4) ∧ Aside0 (Kd.R (Kd.int .i64) 3 w' w.heap.size (fun _ => True) (.slice (some ad270) x11_4.length co43) x11_5) ∧ Aside0 (Below w.heap.size w w'))
                   case atStart => exact ⟨(x11_4), (0), (sqD), H', ⟨Nat.le_refl _⟩, ⟨sqR HO_11.out⟩, ⟨sqB⟩⟩
                   case round =>
                    clear H'
                    try clear c1
                    try clear c2
                    try clear p2
                    try clear q2
                    try clear hx2
                    try clear c3
                    try clear p3
                    try clear q3
                    try clear hx3
                    try clear c4
                    try clear c5
                    try clear c6
                    try clear p6
                    try clear c7
                    try clear c10
                    try clear c10b0
                    try clear c12
                    try clear c14
                    try clear c14b0
                    try clear c16
                    try clear c16b0
                    try clear c17
                    try clear c17b0
                    try clear c18
                    try clear c18b0
                    try clear c18b1
                    try clear c21
                    try clear c21b0
                    try clear c22
                    try clear c22b0
                    try clear c24
                    try clear c24b0
                    try clear c25
                    try clear c25b0
                    try clear p26
                    try clear q26
                    try clear hx26
                    try clear c27
                    try clear c27b0
                    try clear p27
                    try clear q27
                    try clear hx27
                    try clear c28
                    try clear c28b0
                    try clear p29
                    try clear q29
                    try clear hx29
                    try clear hf29
                    try clear p30
                    try clear q30
                    try clear hx30
                    try clear hf30
                    try clear c36
                    try clear c36b0
                    try clear c38
                    try clear c38b0
                    try clear c39
                    try clear c39b0
                    try clear c41
                    try clear c41b0
                    try clear c42
                    try clear c42b0
                    try clear hx265_0
                    try clear hx266_0
                    try clear hx267_0
                    try clear hx270_0
                    try clear hx271_0
                    try clear hx29_0
                    try clear hx30_0
                    try clear p2
                    try clear p26
                    try clear p265
                    try clear p266
                    try clear p267
                    try clear p270
                    try clear p271
                    try clear p29
                    try clear p3
                    try clear p30
                    try clear p6
                    try clear q2
                    try clear q26
                    try clear q265
                    try clear q266
                    try clear q267
                    try clear q270
                    try clear q271
                    try clear q29
                    try clear q3
                    try clear q30
                    obtain ⟨x11_5, x20_5, rfl, HA, HK5, HO_11, HB⟩ := hrel
                    have hl11_5 := (Kd.zu HO_11.out).1
                    rw [hl11_5] at HO_11
                    (try simp only [hl11_5])
                    cases gk with
                    | zero => exact absurd HA.out (by simp [zt.l4])
                    | succ k5 =>
                     have H := HA.out
                     clear HA
                     simp only [zt.l4] at H
                     by_cases c44 : x20_5 < a2
                     ·rw [if_pos c44] at H
                      have c44b0 : decide (x20_5 < a2) = true := decide_eq_true c44
                      clear c44
                      obtain ⟨ji45, hji45⟩ : ∃ j_ : Int, (wrap64 ((wrap64 (x17_4 * a2)) + x20_5)) = j_ := ⟨_, rfl⟩
                      replace H : (if 0 ≤ (ji45) then (if (ji45) < (x11_5.length : Int) then (if 0 ≤ (wrap64 ((wrap64 (x12_1 * a2)) + x20_5)) then (if (wrap64 ((wrap64 (x12_1 * a2)) + x20_5)) < (x11_5.length : Int) then (if a0 = 0 then (none) else (zt.l4 k5 a0 a1 a2 a4 (x11_5.set ((ji45) : Int).toNat (Int.tmod (wrap64 ((Int.tmod (wrap64 ((wrap64 ((rd x11_5 (ji45)) * (rd x11_4 (ji40)))) - (wrap64 ((rd x11_5 (wrap64 ((wrap64 (x12_1 * a2)) + x20_5))) * (rd x11_4 (ji37)))))) a0) + a0)) a0)) x12_1 x13_1 x17_4 (rd x11_4 (ji37)) (rd x11_4 (ji40)) (wrap64 (x20_5 + 1)))) else (none)) else (none)) else (none)) else (none)) = some r := by first | (rw [hji45] at H; exact H) | (simp only [hji45] at H ⊢; exact H)
                      have hji45w : (IntKind.i64.wrap ((wrap64 (x17_4 * a2)) + x20_5)) = ji45 := (zf _).trans hji45
                      by_cases c46 : 0 ≤ (ji45)
                      ·rw [if_pos c46] at H
                       have c46b0 : decide (0 ≤ (ji45)) = true := decide_eq_true c46
                       clear c46
                       by_cases c47 : (ji45) < (x11_5.length : Int)
                       ·rw [if_pos c47] at H
                        have c47b0 : decide ((ji45) < (x11_5.length : Int)) = true := decide_eq_true c47
                        (try simp only [hl11_5] at c47b0)
                        clear c47
                        obtain ⟨ji48, hji48⟩ : ∃ j_ : Int, (wrap64 ((wrap64 (x12_1 * a2)) + x20_5)) = j_ := ⟨_, rfl⟩
                        replace H : (if 0 ≤ (ji48) then (if (ji48) < (x11_5.length : Int) then (if a0 = 0 then (none) else (zt.l4 k5 a0 a1 a2 a4 (x11_5.set ((ji45) : Int).toNat (Int.tmod (wrap64 ((Int.tmod (wrap64 ((wrap64 ((rd x11_5 (ji45)) * (rd x11_4 (ji40)))) - (wrap64 ((rd x11_5 (ji48)) * (rd x11_4 (ji37)))))) a0) + a0)) a0)) x12_1 x13_1 x17_4 (rd x11_4 (ji37)) (rd x11_4 (ji40)) (wrap64 (x20_5 + 1)))) else (none)) else (none)) = some r := by first | (rw [hji48] at H; exact H) | (simp only [hji48] at H ⊢; exact H)
                        have hji48w : (IntKind.i64.wrap ((wrap64 (x12_1 * a2)) + x20_5)) = ji48 := (zf _).trans hji48
                        by_cases c49 : 0 ≤ (ji48)
                        ·rw [if_pos c49] at H
                         have c49b0 : decide (0 ≤ (ji48)) = true := decide_eq_true c49
                         clear c49
                         by_cases c50 : (ji48) < (x11_5.length : Int)
                         ·rw [if_pos c50] at H
                          have c50b0 : decide ((ji48) < (x11_5.length : Int)) = true := decide_eq_true c50
                          (try simp only [hl11_5] at c50b0)
                          clear c50
                          by_cases c51 : a0 = 0
                          ·rw [if_pos c51] at H
                           exact absurd H (by simp)
                          ·rw [if_neg c51] at H
                           have c51b0 : (a0 == 0) = false := beq_eq_false_iff_ne.mpr c51
                           have c51b1 : (a0 != 0) = true := bne_iff_ne.mpr c51
                           obtain ⟨y274, hy274⟩ : ∃ y_ : List Int, y_ = (x11_5.set ((ji45) : Int).toNat (Int.tmod (wrap64 ((Int.tmod (wrap64 ((wrap64 ((rd x11_5 (ji45)) * (rd x11_4 (ji40)))) - (wrap64 ((rd x11_5 (ji48)) * (rd x11_4 (ji37)))))) a0) + a0)) a0)) := ⟨_, rfl⟩
                           replace H : (zt.l4 k5 a0 a1 a2 a4 y274 x12_1 x13_1 x17_4 (rd x11_4 (ji37)) (rd x11_4 (ji40)) (wrap64 (x20_5 + 1))) = some r := by first | (rw [hy274]; with_reducible exact H) | (have H2_ := (Option.bind_some _ _).symm.trans H; rw [hy274]; with_reducible exact H2_) | (have H2_ := (Option.bind_some _ _).symm.trans H; with_reducible exact H2_) | with_reducible exact H | (rw [hy274]; exact H) | exact H
                           have Ny274 := Aside0.mk hy274
                           clear hy274
                           have H' := Aside0.mk H
                           clear H
                           try go_wp2
                           have n0_ := Aside0.mk (Kd.qM HO_11.out)
                           have n1_ := Aside0.mk (zT HB.out)
                           clear HO_11 HB; have HO_11 := n0_; have HB := n1_; clear n0_ n1_
                           have p272 : 0 ≤ ((ji45) : Int) := of_decide_eq_true sqA
                           have q272 : (ji45) < (x11_5.length : Int) := of_decide_eq_true sqA
                           obtain ⟨ad272, e272, hx272_0⟩ := Kd.qh (Kd.zu HO_11.out).2.2 (ji45) p272 q272
                           obtain rfl : ad270 = ad272 := (by injection e272)
                           replace p272 := eq_true p272
                           replace q272 := eq_true q272
                           have p273 : 0 ≤ ((ji48) : Int) := of_decide_eq_true sqA
                           have q273 : (ji48) < (x11_5.length : Int) := of_decide_eq_true sqA
                           obtain ⟨ad273, e273, hx273_0⟩ := Kd.qh (Kd.zu HO_11.out).2.2 (ji48) p273 q273
                           obtain rfl : ad270 = ad273 := (by injection e273)
                           replace p273 := eq_true p273
                           replace q273 := eq_true q273
                           have p52 : 0 ≤ ((ji45) : Int) := of_decide_eq_true sqA
                           have q52 : ((ji45) : Int) < ((x11_5.length : Int) : Int) := of_decide_eq_true sqA
                           obtain ⟨go52, co52, eo52, gb52, gl52, cl52, HG52⟩ := Kd.vq HO_11.out (by omega)
                           (first | cases eo52 | (injection eo52 with ea_ en_ ec_; (first | subst ea_ | (injection ea_ with ea_; subst ea_)); subst ec_; clear en_))
                           (try simp only [add_plain] at *)
                           have GB52 := Aside0.mk gb52
                           have GG52 := Aside0.mk HG52
                           clear gb52 gl52 HG52
                           (first | simp only [add_plain] at hx270_0 | skip)
                           (first | simp only [add_plain] at hx271_0 | skip)
                           (first | simp only [add_plain] at hx272_0 | skip)
                           (first | simp only [add_plain] at hx273_0 | skip)
                           obtain ⟨hx52_0, hf52_0⟩ := Kd.qX 0 HO_11.out ((ji45) : Int) p52 q52
                           replace p52 := eq_true p52
                           replace q52 := eq_true q52
                           have HP54 := Kd.Zr HO_11.out ((ji45) : Int) (Int.tmod (wrap64 ((Int.tmod (wrap64 ((wrap64 ((rd x11_5 (ji45)) * (rd x11_4 (ji40)))) - (wrap64 ((rd x11_5 (ji48)) * (rd x11_4 (ji37)))))) a0) + a0)) a0)
                           rw [← Ny274.out] at HP54
                           have HQ54 := Aside0.mk HP54
                           clear HP54
                           refine jU (n := 35) (S := fun w' => w'.cell? ⟨go52, ((ji45)).toNat, none⟩ = some (.int .i64 (rd x11_5 (ji45))) ∧ w'.cell? ⟨go52, ((ji48)).toNat, none⟩ = some (.int .i64 (rd x11_5 (ji48)))) (ds := [34]) #[false, false, false, false, false, false, false, false, false, false, false, false, false, false, false, false, false, false, false, false, false, false, false, false, false, false, false, false, false, false, false, false, false, false, false] (by kernel_rfl) rfl rfl ⟨hx272_0, hx273_0⟩ (fun hHeld => ?_); refine qZ zt.zav zt.YV (fun HT_ HW_ => ?_)
                           generalize wr.drew = w53 at HO_11 HB GG52 HQ54 hf52_0 hx272_0 hx273_0 hx52_0 hHeld ⊢
                           refine zx (i := 0) (N := some 117) (v := ?_) (a' := ?_) #[true, false, false, false, false, false, false, false, false, false, false, false, false, false, false, false, false, false, false, false, false, false, false, false, false, false, false, false, false, false, false, false, false, false, false] rfl rfl (zn HT_.out (by kernel_rfl)) (fun _ _ _ h => h) (Or.inl ⟨by rfl, ?_⟩) ?_ ?_
                           rotate_left
                           ·intro w'; go_simp; with_reducible rfl
                           rotate_left
                           ·simp only [Act.put, List.setIfInBounds_toArray, List.set_cons_zero, List.set_cons_succ, zf, zh]; rfl
                           refine zx (i := 1) (N := some 118) (v := ?_) (a' := ?_) #[true, true, false, false, false, false, false, false, false, false, false, false, false, false, false, false, false, false, false, false, false, false, false, false, false, false, false, false, false, false, false, false, false, false, false] rfl rfl (zn HT_.out (by kernel_rfl)) (fun _ _ _ h => h) (Or.inl ⟨by rfl, ?_⟩) ?_ ?_
                           rotate_left
                           ·intro w'; go_simp; with_reducible rfl
                           rotate_left
                           ·simp only [Act.put, List.setIfInBounds_toArray, List.set_cons_zero, List.set_cons_succ, zf, zh]; rfl
                           refine zx (i := 2) (N := some 119) (v := ?_) (a' := ?_) #[true, true, true, false, false, false, false, false, false, false, false, false, false, false, false, false, false, false, false, false, false, false, false, false, false, false, false, false, false, false, false, false, false, false, false] rfl rfl (zn HT_.out (by kernel_rfl)) (fun _ _ _ h => h) (Or.inl ⟨by rfl, ?_⟩) ?_ ?_
                           rotate_left
                           ·intro w'; go_simp; with_reducible rfl
                           rotate_left
                           ·simp only [Act.put, List.setIfInBounds_toArray, List.set_cons_zero, List.set_cons_succ, zf, zh]; rfl
                           refine zx (i := 3) (N := some 120) (v := ?_) (a' := ?_) #[true, true, true, true, false, false, false, false, false, false, false, false, false, false, false, false, false, false, false, false, false, false, false, false, false, false, false, false, false, false, false, false, false, false, false] rfl rfl (zn HT_.out (by kernel_rfl)) (fun _ _ _ h => h) (Or.inl ⟨by rfl, ?_⟩) ?_ ?_
                           rotate_left
                           ·intro w'; go_simp; with_reducible rfl
                           rotate_left
                           ·simp only [Act.put, List.setIfInBounds_toArray, List.set_cons_zero, List.set_cons_succ, zf, zh]; rfl
                           refine zx (i := 4) (N := some 121) (v := ?_) (a' := ?_) #[true, true, true, true, true, false, false, false, false, false, false, false, false, false, false, false, false, false, false, false, false, false, false, false, false, false, false, false, false, false, false, false, false, false, false] rfl rfl (zn HT_.out (by kernel_rfl)) (fun _ _ _ h => h) (Or.inl ⟨by rfl, ?_⟩) ?_ ?_
                           rotate_left
                           ·intro w'; go_simp; with_reducible rfl
                           rotate_left
                           ·simp only [Act.put, List.setIfInBounds_toArray, List.set_cons_zero, List.set_cons_succ, zf, zh]; rfl
                           refine zx (i := 5) (N := some 122) (v := ?_) (a' := ?_) #[true, true, true, true, true, true, false, false, false, false, false, false, false, false, false, false, false, false, false, false, false, false, false, false, false, false, false, false, false, false, false, false, false, false, false] rfl rfl (zn HT_.out (by kernel_rfl)) (fun _ _ _ h => h) (Or.inl ⟨by rfl, ?_⟩) ?_ ?_
                           rotate_left
                           ·intro w'; go_simp; with_reducible rfl
                           rotate_left
                           ·simp only [Act.put, List.setIfInBounds_toArray, List.set_cons_zero, List.set_cons_succ, zf, zh]; rfl
                           refine zx (i := 6) (N := some 123) (v := ?_) (a' := ?_) #[true, true, true, true, true, true, true, false, false, false, false, false, false, false, false, false, false, false, false, false, false, false, false, false, false, false, false, false, false, false, false, false, false, false, false] rfl rfl (zn HT_.out (by kernel_rfl)) (fun _ _ _ h => h) (Or.inl ⟨by rfl, ?_⟩) ?_ ?_
                           rotate_left
                           ·intro w'; go_simp; with_reducible rfl
                           rotate_left
                           ·simp only [Act.put, List.setIfInBounds_toArray, List.set_cons_zero, List.set_cons_succ, zf, zh]; rfl
                           refine zx (i := 7) (N := some 124) (v := ?_) (a' := ?_) #[true, true, true, true, true, true, true, true, false, false, false, false, false, false, false, false, false, false, false, false, false, false, false, false, false, false, false, false, false, false, false, false, false, false, false] rfl rfl (zn HT_.out (by kernel_rfl)) (fun _ _ _ h => h) (Or.inl ⟨by rfl, ?_⟩) ?_ ?_
                           rotate_left
                           ·intro w'; go_simp; with_reducible rfl
                           rotate_left
                           ·simp only [Act.put, List.setIfInBounds_toArray, List.set_cons_zero, List.set_cons_succ, zf, zh]; rfl
                           refine zx (i := 8) (N := some 125) (v := ?_) (a' := ?_) #[true, true, true, true, true, true, true, true, true, false, false, false, false, false, false, false, false, false, false, false, false, false, false, false, false, false, false, false, false, false, false, false, false, false, false] rfl rfl (zn HT_.out (by kernel_rfl)) (fun _ _ _ h => h) (Or.inl ⟨by rfl, ?_⟩) ?_ ?_
                           rotate_left
                           ·intro w'; go_simp; with_reducible rfl
                           rotate_left
                           ·simp only [Act.put, List.setIfInBounds_toArray, List.set_cons_zero, List.set_cons_succ, zf, zh]; rfl
                           refine zx (i := 9) (N := some 126) (v := ?_) (a' := ?_) #[true, true, true, true, true, true, true, true, true, true, false, false, false, false, false, false, false, false, false, false, false, false, false, false, false, false, false, false, false, false, false, false, false, false, false] rfl rfl (zn HT_.out (by kernel_rfl)) (fun _ _ _ h => h) (Or.inl ⟨by rfl, ?_⟩) ?_ ?_
                           rotate_left
                           ·intro w'; go_simp; with_reducible rfl
                           rotate_left
                           ·simp only [Act.put, List.setIfInBounds_toArray, List.set_cons_zero, List.set_cons_succ, zf, zh]; rfl
                           refine zx (i := 10) (N := some 127) (v := ?_) (a' := ?_) #[true, true, true, true, true, true, true, true, true, true, true, false, false, false, false, false, false, false, false, false, false, false, false, false, false, false, false, false, false, false, false, false, false, false, false] rfl rfl (zn HT_.out (by kernel_rfl)) (fun _ _ _ h => h) (Or.inl ⟨by rfl, ?_⟩) ?_ ?_
                           rotate_left
                           ·intro w'; go_simp; with_reducible rfl
                           rotate_left
                           ·simp only [Act.put, List.setIfInBounds_toArray, List.set_cons_zero, List.set_cons_succ, zf, zh]; rfl
                           refine zx (i := 11) (N := some 128) (v := ?_) (a' := ?_) #[true, true, true, true, true, true, true, true, true, true, true, true, false, false, false, false, false, false, false, false, false, false, false, false, false, false, false, false, false, false, false, false, false, false, false] rfl rfl (zn HT_.out (by kernel_rfl)) (fun _ _ _ h => h) (Or.inl ⟨by rfl, ?_⟩) ?_ ?_
                           rotate_left
                           ·intro w'; go_simp; with_reducible rfl
                           rotate_left
                           ·simp only [Act.put, List.setIfInBounds_toArray, List.set_cons_zero, List.set_cons_succ, zf, zh]; rfl
                           refine zx (i := 12) (N := some 129) (v := ?_) (a' := ?_) #[true, true, true, true, true, true, true, true, true, true, true, true, true, false, false, false, false, false, false, false, false, false, false, false, false, false, false, false, false, false, false, false, false, false, false] rfl rfl (zn HT_.out (by kernel_rfl)) (fun _ _ _ h => h) (Or.inl ⟨by rfl, ?_⟩) ?_ ?_
                           rotate_left
                           ·intro w'; go_simp; with_reducible rfl
                           rotate_left
                           ·simp only [Act.put, List.setIfInBounds_toArray, List.set_cons_zero, List.set_cons_succ, zf, zh]; rfl
                           refine zx (i := 14) (N := some 131) (v := ?_) (a' := ?_) #[true, true, true, true, true, true, true, true, true, true, true, true, true, false, true, false, false, false, false, false, false, false, false, false, false, false, false, false, false, false, false, false, false, false, false] rfl rfl (zn HT_.out (by kernel_rfl)) (fun _ _ _ h => h) (Or.inl ⟨by rfl, ?_⟩) ?_ ?_
                           rotate_left
                           ·intro w'; go_simp; with_reducible rfl
                           rotate_left
                           ·simp only [Act.put, List.setIfInBounds_toArray, List.set_cons_zero, List.set_cons_succ, zf, zh]; rfl
                           refine zx (i := 16) (N := some 133) (v := ?_) (a' := ?_) #[true, true, true, true, true, true, true, true, true, true, true, true, true, false, true, false, true, false, false, false, false, false, false, false, false, false, false, false, false, false, false, false, false, false, false] rfl rfl (zn HT_.out (by kernel_rfl)) (fun _ _ _ h => h) (Or.inl ⟨by rfl, ?_⟩) ?_ ?_
                           rotate_left
                           ·intro w'; go_simp; with_reducible rfl
                           rotate_left
                           ·simp only [Act.put, List.setIfInBounds_toArray, List.set_cons_zero, List.set_cons_succ, zf, zh]; rfl
                           refine zx (i := 17) (N := some 134) (v := ?_) (a' := ?_) #[true, true, true, true, true, true, true, true, true, true, true, true, true, false, true, false, true, true, false, false, false, false, false, false, false, false, false, false, false, false, false, false, false, false, false] rfl rfl (zn HT_.out (by kernel_rfl)) (fun _ _ _ h => h) (Or.inl ⟨by rfl, ?_⟩) ?_ ?_
                           rotate_left
                           ·intro w'; go_simp; with_reducible rfl
                           rotate_left
                           ·simp only [Act.put, List.setIfInBounds_toArray, List.set_cons_zero, List.set_cons_succ, zf, zh]; rfl
                           refine zx (i := 18) (N := some 135) (v := ?_) (a' := ?_) #[true, true, true, true, true, true, true, true, true, true, true, true, true, false, true, false, true, true, true, false, false, false, false, false, false, false, false, false, false, false, false, false, false, false, false] rfl rfl (zn HT_.out (by kernel_rfl)) (fun _ _ _ h => h) (Or.inl ⟨by rfl, ?_⟩) ?_ ?_
                           rotate_left
                           ·intro w'; go_simp; with_reducible rfl
                           rotate_left
                           ·simp only [Act.put, List.setIfInBounds_toArray, List.set_cons_zero, List.set_cons_succ, zf, zh]; rfl
                           refine zx (i := 19) (N := some 136) (v := ?_) (a' := ?_) #[true, true, true, true, true, true, true, true, true, true, true, true, true, false, true, false, true, true, true, true, false, false, false, false, false, false, false, false, false, false, false, false, false, false, false] rfl rfl (zn HT_.out (by kernel_rfl)) (fun _ _ _ h => h) (Or.inl ⟨by rfl, ?_⟩) ?_ ?_
                           rotate_left
                           ·intro w'; go_simp; with_reducible rfl
                           rotate_left
                           ·simp only [Act.put, List.setIfInBounds_toArray, List.set_cons_zero, List.set_cons_succ, zf, zh]; rfl
                           refine zx (i := 20) (N := some 137) (v := ?_) (a' := ?_) #[true, true, true, true, true, true, true, true, true, true, true, true, true, false, true, false, true, true, true, true, true, false, false, false, false, false, false, false, false, false, false, false, false, false, false] rfl rfl (zn HT_.out (by kernel_rfl)) (fun _ _ _ h => h) (Or.inl ⟨by rfl, ?_⟩) ?_ ?_
                           rotate_left
                           ·intro w'; go_simp; with_reducible rfl
                           rotate_left
                           ·simp only [Act.put, List.setIfInBounds_toArray, List.set_cons_zero, List.set_cons_succ, zf, zh]; rfl
                           refine zx (i := 21) (N := some 138) (v := ?_) (a' := ?_) #[true, true, true, true, true, true, true, true, true, true, true, true, true, false, true, false, true, true, true, true, true, true, false, false, false, false, false, false, false, false, false, false, false, false, false] rfl rfl (zn HT_.out (by kernel_rfl)) (fun _ _ _ h => h) (Or.inl ⟨by rfl, ?_⟩) ?_ ?_
                           rotate_left
                           ·intro w'; go_simp; with_reducible rfl
                           rotate_left
                           ·simp only [Act.put, List.setIfInBounds_toArray, List.set_cons_zero, List.set_cons_succ, zf, zh]; rfl
                           refine zx (i := 22) (N := some 139) (v := ?_) (a' := ?_) #[true, true, true, true, true, true, true, true, true, true, true, true, true, false, true, false, true, true, true, true, true, true, true, false, false, false, false, false, false, false, false, false, false, false, false] rfl rfl (zn HT_.out (by kernel_rfl)) (fun _ _ _ h => h) (Or.inl ⟨by rfl, ?_⟩) ?_ ?_
                           rotate_left
                           ·intro w'; go_simp; with_reducible rfl
                           rotate_left
                           ·simp only [Act.put, List.setIfInBounds_toArray, List.set_cons_zero, List.set_cons_succ, zf, zh]; rfl
                           refine zx (i := 24) (N := some 141) (v := ?_) (a' := ?_) #[true, true, true, true, true, true, true, true, true, true, true, true, true, false, true, false, true, true, true, true, true, true, true, false, true, false, false, false, false, false, false, false, false, false, false] rfl rfl (zn HT_.out (by kernel_rfl)) (fun _ _ _ h => h) (Or.inl ⟨by rfl, ?_⟩) ?_ ?_
                           rotate_left
                           ·intro w'; go_simp; with_reducible rfl
                           rotate_left
                           ·simp only [Act.put, List.setIfInBounds_toArray, List.set_cons_zero, List.set_cons_succ, zf, zh]; rfl
                           refine zx (i := 27) (N := some 144) (v := ?_) (a' := ?_) #[true, true, true, true, true, true, true, true, true, true, true, true, true, false, true, false, true, true, true, true, true, true, true, false, true, false, false, true, false, false, false, false, false, false, false] rfl rfl (zn HT_.out (by kernel_rfl)) (fun _ _ _ h => h) (Or.inl ⟨by rfl, ?_⟩) ?_ ?_
                           rotate_left
                           ·intro w'; go_simp; with_reducible rfl
                           rotate_left
                           ·simp only [Act.put, List.setIfInBounds_toArray, List.set_cons_zero, List.set_cons_succ, zf, zh]; rfl
                           refine zx (i := 29) (N := some 146) (v := ?_) (a' := ?_) #[true, true, true, true, true, true, true, true, true, true, true, true, true, false, true, false, true, true, true, true, true, true, true, false, true, false, false, true, false, true, false, false, false, false, false] rfl rfl (zn HT_.out (by kernel_rfl)) (fun _ _ _ h => h) (Or.inl ⟨by rfl, ?_⟩) ?_ ?_
                           rotate_left
                           ·intro w'; go_simp; with_reducible rfl
                           rotate_left
                           ·simp only [Act.put, List.setIfInBounds_toArray, List.set_cons_zero, List.set_cons_succ, zf, zh]; rfl
                           refine zx (i := 31) (N := some 148) (v := ?_) (a' := ?_) #[true, true, true, true, true, true, true, true, true, true, true, true, true, false, true, false, true, true, true, true, true, true, true, false, true, false, false, true, false, true, false, true, false, false, false] rfl rfl (zn HT_.out (by kernel_rfl)) (fun _ _ _ h => h) (Or.inl ⟨by rfl, ?_⟩) ?_ ?_
                           rotate_left
                           ·intro w'; go_simp; with_reducible rfl
                           rotate_left
                           ·simp only [Act.put, List.setIfInBounds_toArray, List.set_cons_zero, List.set_cons_succ, zf, zh]; rfl
                           refine qe (i := 13) (N := some 130) (v := ?_) (a' := ?_) #[true, true, true, true, true, true, true, true, true, true, true, true, true, true, true, false, true, true, true, true, true, true, true, false, true, false, false, true, false, true, false, true, false, false, false] rfl rfl (zM HT_.out HW_.out (by kernel_rfl)) (fun _ _ _ h => h) (Or.inl ⟨by rfl, ?_⟩) hHeld ?_ ?_
                           rotate_left
                           ·rintro w' ⟨s0, s1⟩; go_simp; with_reducible rfl
                           rotate_left
                           ·simp only [Act.put, List.setIfInBounds_toArray, List.set_cons_zero, List.set_cons_succ, zf, zh]; rfl
                           refine zx (i := 15) (N := some 132) (v := ?_) (a' := ?_) #[true, true, true, true, true, true, true, true, true, true, true, true, true, true, true, true, true, true, true, true, true, true, true, false, true, false, false, true, false, true, false, true, false, false, false] rfl rfl (zn HT_.out (by kernel_rfl)) (fun _ _ _ h => h) (Or.inl ⟨by rfl, ?_⟩) ?_ ?_
                           rotate_left
                           ·intro w'; go_simp; with_reducible rfl
                           rotate_left
                           ·simp only [Act.put, List.setIfInBounds_toArray, List.set_cons_zero, List.set_cons_succ, zf, zh]; rfl
                           refine qe (i := 23) (N := some 140) (v := ?_) (a' := ?_) #[true, true, true, true, true, true, true, true, true, true, true, true, true, true, true, true, true, true, true, true, true, true, true, true, true, false, false, true, false, true, false, true, false, false, false] rfl rfl (zM HT_.out HW_.out (by kernel_rfl)) (fun _ _ _ h => h) (Or.inl ⟨by rfl, ?_⟩) hHeld ?_ ?_
                           rotate_left
                           ·rintro w' ⟨s0, s1⟩; go_simp; with_reducible rfl
                           rotate_left
                           ·simp only [Act.put, List.setIfInBounds_toArray, List.set_cons_zero, List.set_cons_succ, zf, zh]; rfl
                           refine zx (i := 25) (N := some 142) (v := ?_) (a' := ?_) #[true, true, true, true, true, true, true, true, true, true, true, true, true, true, true, true, true, true, true, true, true, true, true, true, true, true, false, true, false, true, false, true, false, false, false] rfl rfl (zn HT_.out (by kernel_rfl)) (fun _ _ _ h => h) (Or.inl ⟨by rfl, ?_⟩) ?_ ?_
                           rotate_left
                           ·intro w'; go_simp; with_reducible rfl
                           rotate_left
                           ·simp only [Act.put, List.setIfInBounds_toArray, List.set_cons_zero, List.set_cons_succ, zf, zh]; rfl
                           refine zx (i := 26) (N := some 143) (v := ?_) (a' := ?_) #[true, true, true, true, true, true, true, true, true, true, true, true, true, true, true, true, true, true, true, true, true, true, true, true, true, true, true, true, false, true, false, true, false, false, false] rfl rfl (zn HT_.out (by kernel_rfl)) (fun _ _ _ h => h) (Or.inl ⟨by rfl, ?_⟩) ?_ ?_
                           rotate_left
                           ·intro w'; go_simp; with_reducible rfl
                           rotate_left
                           ·simp only [Act.put, List.setIfInBounds_toArray, List.set_cons_zero, List.set_cons_succ, zf, zh]; rfl
                           refine zx (i := 28) (N := some 145) (v := ?_) (a' := ?_) #[true, true, true, true, true, true, true, true, true, true, true, true, true, true, true, true, true, true, true, true, true, true, true, true, true, true, true, true, true, true, false, true, false, false, false] rfl rfl (zn HT_.out (by kernel_rfl)) (fun _ _ _ h => h) (Or.inl ⟨by rfl, ?_⟩) ?_ ?_
                           rotate_left
                           ·intro w'; go_simp; with_reducible rfl
                           rotate_left
                           ·simp only [Act.put, List.setIfInBounds_toArray, List.set_cons_zero, List.set_cons_succ, zf, zh]; rfl
                           refine zx (i := 30) (N := some 147) (v := ?_) (a' := ?_) #[true, true, true, true, true, true, true, true, true, true, true, true, true, true, true, true, true, true, true, true, true, true, true, true, true, true, true, true, true, true, true, true, false, false, false] rfl rfl (zn HT_.out (by kernel_rfl)) (fun _ _ _ h => h) (Or.inl ⟨by rfl, ?_⟩) ?_ ?_
                           rotate_left
                           ·intro w'; go_simp; with_reducible rfl
                           rotate_left
                           ·simp only [Act.put, List.setIfInBounds_toArray, List.set_cons_zero, List.set_cons_succ, zf, zh]; rfl
                           refine zx (i := 32) (N := some 149) (v := ?_) (a' := ?_) #[true, true, true, true, true, true, true, true, true, true, true, true, true, true, true, true, true, true, true, true, true, true, true, true, true, true, true, true, true, true, true, true, true, false, false] rfl rfl (zn HT_.out (by kernel_rfl)) (fun _ _ _ h => h) (Or.inl ⟨by rfl, ?_⟩) ?_ ?_
                           rotate_left
                           ·intro w'; go_simp; with_reducible rfl
                           rotate_left
                           ·simp only [Act.put, List.setIfInBounds_toArray, List.set_cons_zero, List.set_cons_succ, zf, zh]; rfl
                           refine zx (i := 33) (N := some 150) (v := ?_) (a' := ?_) #[true, true, true, true, true, true, true, true, true, true, true, true, true, true, true, true, true, true, true, true, true, true, true, true, true, true, true, true, true, true, true, true, true, true, false] rfl rfl (zn HT_.out (by kernel_rfl)) (fun _ _ _ h => h) (Or.inl ⟨by rfl, ?_⟩) ?_ ?_
                           rotate_left
                           ·intro w'; go_simp; with_reducible rfl
                           rotate_left
                           ·simp only [Act.put, List.setIfInBounds_toArray, List.set_cons_zero, List.set_cons_succ, zf, zh]; rfl
                           refine ym (i := 34) (N := none) #[true, true, true, true, true, true, true, true, true, true, true, true, true, true, true, true, true, true, true, true, true, true, true, true, true, true, true, true, true, true, true, true, true, true, true] rfl rfl (jr HT_.out (by kernel_rfl)) (by decide) (fun K hK => ?_)
                           refine yj (w1 := ?_) (by rfl) rfl ?_ ?_
                           rotate_left
                           ·go_simp
                            rfl
                           refine hK.out _ _ ?_
                           clear hK K
                           refine vI (jO HT_.out (by kernel_rfl)) ?_
                           try go_wp2
                           (try simp only [← hl11_5])
                           go_roundg k5
                           case measure => have := HK1.out; have := HJ12.out; have := HK3.out; have := HK4.out; have := HK5.out; omega
                           case rel => exact ⟨(y274), (wrap64 (x20_5 + 1)), (sqD), H', ⟨by have := HK1.out; have := HJ12.out; have := HK3.out; have := HK4.out; have := HK5.out; omega⟩, ⟨by (try simp only [hl11_5]); refine sqR ?_; exact HQ54.out⟩, ⟨by repeat (first | (with_reducible first | exact HB.out | apply qc | apply z6 | apply zT | refine zO ?_ GB52.out) | exact HB.out)⟩⟩
                         ·rw [if_neg c50] at H
                          exact absurd H (by simp)
                        ·rw [if_neg c49] at H
                         exact absurd H (by simp)
                       ·rw [if_neg c47] at H
                        exact absurd H (by simp)
                      ·rw [if_neg c46] at H
                       exact absurd H (by simp)
                     ·rw [if_neg c44] at H
                      have c44b0 : decide (x20_5 < a2) = false := decide_eq_false c44
                      clear c44
                      have H' := Aside0.mk H
                      clear H
                      go_wp2
                      (try simp only [← hl11_5])
                      go_roundg k5
                      case measure => have := HK1.out; have := HJ12.out; have := HK3.out; have := HK4.out; have := HK5.out; omega
                      case rel => exact ⟨(x11_5), (wrap64 (x17_4 + 1)), (sqD), H', ⟨by have := HK1.out; have := HJ12.out; have := HK3.out; have := HK4.out; have := HK5.out; omega⟩, ⟨by (try simp only [hl11_5]); refine sqR ?_; exact HO_11.out⟩, ⟨sqB⟩⟩
                  ·rw [if_neg c42] at H
                   exact absurd H (by simp)
                 ·rw [if_neg c41] at H
                  exact absurd H (by simp)
                ·rw [if_neg c39] at H
                 exact absurd H (by simp)
               ·rw [if_neg c38] at H
                exact absurd H (by simp)
              ·rw [if_neg c36] at H
               have c36b0 : decide (x17_4 < a1) = false := decide_eq_false c36
               clear c36
               have H' := Aside0.mk H
               clear H
               go_wp2
               go_roundg k4
               case measure => have := HK1.out; have := HJ12.out; have := HK3.out; have := HK4.out; omega
               case rel => exact ⟨(x11_4), (wrap64 (x12_1 + 1)), (wrap64 (x13_1 + 1)), (sqD), (sqD), H', ⟨by have := HK1.out; have := HJ12.out; have := HK3.out; have := HK4.out; omega⟩, ⟨sqR HO_11.out⟩, ⟨sqB⟩⟩
     ·replace c12 := Bool.eq_false_iff.mpr c12
      subst c12
      have H1 : (zt.l0 k1 a0 a1 a2 a4 x11_1 x12_1 (wrap64 (x13_1 + 1))) = some r := by rw [if_neg (show ¬ (false = true) by decide)] at H; exact H
      clear H
      have H := H1
      clear H1
      have H' := Aside0.mk H
      clear H
      go_wp2_with (first | ((with_reducible refine zp (f := 70) rfl ?_); refine zP (some 31) rfl rfl Try.func70 (by kernel_rfl) rfl #[.int .i64 a4, .int .i64 x13_1] rfl sqM ?_; (with_reducible refine (vF.calls a4 x13_1 false _ A11.out).mono ?_); rintro e w' ⟨rfl, ⟨nd, rfl⟩⟩; refine ⟨_, rfl, ?_⟩))
      go_roundg k1
      case measure => have := HK1.out; omega
      case rel => exact ⟨(x11_1), (x12_1), (wrap64 (x13_1 + 1)), (sqD), (sqD), H', ⟨by have := HK1.out; omega⟩, ⟨sqR HO_11.out⟩, ⟨sqB⟩⟩
    ·rw [if_neg c10] at H
     have c10b0 : decide (x13_1 < a2) = false := decide_eq_false c10
     clear c10
     obtain rfl := Option.some.inj H
     go_wp2
     go_ret
     exact ⟨sqE, sqB⟩
 ·rw [if_neg c6] at H
  exact absurd H (by simp)

def qV.f (k : Nat) (a0_0 : Int) (a0_1 : Int) (a0_2 : Int) (l0_3 : List Int) (a1 : Int) : Option (Int) := (zq.f k a0_0 a0_1 a0_2 l0_3).bind fun t276 => (if t276 = true then ((jI.f a0_2 a1).bind fun t277 => (if t277 = true then ((zt.f k a0_0 a0_1 a0_2 l0_3 a1).bind fun t278 => (some t278)) else (some (-1)))) else (some (-1)))
theorem qV.calls (k : Nat) (a0_0 : Int) (a0_1 : Int) (a0_2 : Int) (A0_3 : Option Addr) (c0_3 : Nat) (l0_3 : List Int) (a1 : Int) (r : Int) (w : World) (hr0_3 : Kd.C (Kd.int .i64) w A0_3 l0_3.length l0_3) (hc0_3 : l0_3.length ≤ c0_3) (h : qV.f k a0_0 a0_1 a0_2 l0_3 a1 = some r) :
  Calls Try.prog 30 #[.agg #[.int .i64 a0_0, .int .i64 a0_1, .int .i64 a0_2, .slice A0_3 l0_3.length c0_3], .int .i64 a1] w fun e w' => e = .returned (.int .i64 r) ∧ Below w.heap.size w w' := by
 have hu27 := Try.underlying27
 have HR0_3 := Aside0.mk hr0_3
 have HC0_3 := Aside0.mk hc0_3
 clear hr0_3 hc0_3
 have HB := Aside0.mk (Below.refl w.heap.size w)
 have H : ((zq.f k a0_0 a0_1 a0_2 l0_3).bind fun t276 => (if t276 = true then ((jI.f a0_2 a1).bind fun t277 => (if t277 = true then ((zt.f k a0_0 a0_1 a0_2 l0_3 a1).bind fun t278 => (some t278)) else (some (-1)))) else (some (-1)))) = some r := h
 clear h
 replace H := Option.bind_eq_some_iff.mp H
 obtain ⟨t276, A30, H⟩ := H
 replace H : (if t276 = true then ((jI.f a0_2 a1).bind fun t277 => (if t277 = true then ((zt.f k a0_0 a0_1 a0_2 l0_3 a1).bind fun t278 => (some t278)) else (some (-1)))) else (some (-1))) = some r := H
 have A3 := Aside0.mk A30
 clear A30
 by_cases c4 : t276 = true
 ·subst c4
  have H1 : ((jI.f a0_2 a1).bind fun t277 => (if t277 = true then ((zt.f k a0_0 a0_1 a0_2 l0_3 a1).bind fun t278 => (some t278)) else (some (-1)))) = some r := by rw [if_pos rfl] at H; exact H
  clear H
  have H := H1
  clear H1
  replace H := Option.bind_eq_some_iff.mp H
  obtain ⟨t277, A50, H⟩ := H
  replace H : (if t277 = true then ((zt.f k a0_0 a0_1 a0_2 l0_3 a1).bind fun t278 => (some t278)) else (some (-1))) = some r := H
  have A5 := Aside0.mk A50
  clear A50
  by_cases c6 : t277 = true
  ·subst c6
   have H1 : ((zt.f k a0_0 a0_1 a0_2 l0_3 a1).bind fun t278 => (some t278)) = some r := by rw [if_pos rfl] at H; exact H
   clear H
   have H := H1
   clear H1
   replace H := Option.bind_eq_some_iff.mp H
   obtain ⟨t278, A70, H⟩ := H
   replace H : (some t278) = some r := H
   have A7 := Aside0.mk A70
   clear A70
   obtain rfl := Option.some.inj H
   go_enter Try.func30, Try.ntmps30
   go_wp2_with (first | ((with_reducible refine zC (N := 2) rfl ?_); refine zD ?hg (N := 2) ?hd (cs := #[.int .i64 a0_0, .int .i64 a0_1, .int .i64 a0_2, .slice A0_3 l0_3.length c0_3]) (t := 27) ?hr ?_; (case hd => rfl); (case hg => rfl); (case hr => exact sqG); intro gb275 hg w8 hbox hb; have n0_ := Aside0.mk (zg sqB hb); have n1_ := Aside0.mk (hbox); have n2_ := Aside0.mk ((sqS hg : w.heap.size ≤ gb275)); have n3_ := Aside0.mk ((sqS hg : w.heap.size ≤ gb275)); clear HB; have HB := n0_; have BK275 := n1_; have GW275 := n2_; have GE275 := n3_; clear n0_ n1_ n2_ n3_; clear hb hbox hg; have hcz9_0 : w8.cell? ⟨gb275, 0, none⟩ = some (.int .i64 a0_0) := (zb BK275.out 0).trans rfl; have hcz9_1 : w8.cell? ⟨gb275, 1, none⟩ = some (.int .i64 a0_1) := (zb BK275.out 1).trans rfl; have hcz9_2 : w8.cell? ⟨gb275, 2, none⟩ = some (.int .i64 a0_2) := (zb BK275.out 2).trans rfl; have hcz9_3 : w8.cell? ⟨gb275, 3, none⟩ = some (.slice A0_3 l0_3.length c0_3) := (zb BK275.out 3).trans rfl; have hfz9_0 := za BK275.out 0; have hfz9_1 := za BK275.out 1; have hfz9_2 := za BK275.out 2; have hfz9_3 := za BK275.out 3) | ((with_reducible refine zp (f := 37) rfl ?_); refine zP (some 6) rfl rfl Try.func37 (by kernel_rfl) rfl #[.agg #[.int .i64 a0_0, .int .i64 a0_1, .int .i64 a0_2, .slice A0_3 l0_3.length c0_3]] rfl sqM ?_; (with_reducible refine (zq.calls k a0_0 a0_1 a0_2 _ _ l0_3 true _ ?side1 ?side2 A3.out).mono ?_); (case side1 => exact sqC (Kd.z1 HR0_3.out HB.out)); (case side2 => exact HC0_3.out); rintro e w10 ⟨rfl, hb⟩; refine ⟨_, rfl, ?_⟩; have n0_ := Aside0.mk (ze (g := gb275) (o := .cells #[.int .i64 a0_0, .int .i64 a0_1, .int .i64 a0_2, .slice A0_3 l0_3.length c0_3] 27 (0, 0)) (sqK BK275.out) hb); have n1_ := Aside0.mk (zg sqB hb); clear BK275; clear HB; have BK275 := n0_; have HB := n1_; clear n0_ n1_; (try clear hb); (try clear hb2); (try clear hk); (try clear hi); have hcz11_0 : w10.cell? ⟨gb275, 0, none⟩ = some (.int .i64 a0_0) := (zb BK275.out 0).trans rfl; have hcz11_1 : w10.cell? ⟨gb275, 1, none⟩ = some (.int .i64 a0_1) := (zb BK275.out 1).trans rfl; have hcz11_2 : w10.cell? ⟨gb275, 2, none⟩ = some (.int .i64 a0_2) := (zb BK275.out 2).trans rfl; have hcz11_3 : w10.cell? ⟨gb275, 3, none⟩ = some (.slice A0_3 l0_3.length c0_3) := (zb BK275.out 3).trans rfl; have hfz11_0 := za BK275.out 0; have hfz11_1 := za BK275.out 1; have hfz11_2 := za BK275.out 2; have hfz11_3 := za BK275.out 3) | (go_at_call 49; (try simp only [zf, zh]); (with_reducible refine (jI.calls a0_2 a1 true _ A5.out).mono ?_); rintro e w' ⟨rfl, ⟨nd, rfl⟩⟩) | ((with_reducible refine zp (f := 57) rfl ?_); refine zP (some 24) rfl rfl Try.func57 (by kernel_rfl) rfl #[.int .i64 a0_0, .int .i64 a0_1, .int .i64 a0_2, .slice A0_3 l0_3.length c0_3, .int .i64 a1] rfl sqM ?_; (with_reducible refine (zt.calls k a0_0 a0_1 a0_2 _ _ l0_3 a1 t278 _ ?side1 ?side2 A7.out).mono ?_); (case side1 => exact sqC (Kd.z1 HR0_3.out sqB)); (case side2 => exact HC0_3.out); rintro e w12 ⟨rfl, hb⟩; refine ⟨_, rfl, ?_⟩; have n0_ := Aside0.mk (ze (g := gb275) (o := .cells #[.int .i64 a0_0, .int .i64 a0_1, .int .i64 a0_2, .slice A0_3 l0_3.length c0_3] 27 (0, 0)) (sqK BK275.out) hb); have n1_ := Aside0.mk (zg sqB hb); clear BK275; clear HB; have BK275 := n0_; have HB := n1_; clear n0_ n1_; (try clear hb); (try clear hb2); (try clear hk); (try clear hi)))
   go_ret
   exact ⟨sqE, sqB⟩
  ·replace c6 := Bool.eq_false_iff.mpr c6
   subst c6
   have H1 : (some (-1)) = some r := by rw [if_neg (show ¬ (false = true) by decide)] at H; exact H
   clear H
   have H := H1
   clear H1
   obtain rfl := Option.some.inj H
   go_enter Try.func30, Try.ntmps30
   go_wp2_with (first | ((with_reducible refine zC (N := 2) rfl ?_); refine zD ?hg (N := 2) ?hd (cs := #[.int .i64 a0_0, .int .i64 a0_1, .int .i64 a0_2, .slice A0_3 l0_3.length c0_3]) (t := 27) ?hr ?_; (case hd => rfl); (case hg => rfl); (case hr => exact sqG); intro gb275 hg w13 hbox hb; have n0_ := Aside0.mk (zg sqB hb); have n1_ := Aside0.mk (hbox); have n2_ := Aside0.mk ((sqS hg : w.heap.size ≤ gb275)); have n3_ := Aside0.mk ((sqS hg : w.heap.size ≤ gb275)); clear HB; have HB := n0_; have BK275 := n1_; have GW275 := n2_; have GE275 := n3_; clear n0_ n1_ n2_ n3_; clear hb hbox hg; have hcz14_0 : w13.cell? ⟨gb275, 0, none⟩ = some (.int .i64 a0_0) := (zb BK275.out 0).trans rfl; have hcz14_1 : w13.cell? ⟨gb275, 1, none⟩ = some (.int .i64 a0_1) := (zb BK275.out 1).trans rfl; have hcz14_2 : w13.cell? ⟨gb275, 2, none⟩ = some (.int .i64 a0_2) := (zb BK275.out 2).trans rfl; have hcz14_3 : w13.cell? ⟨gb275, 3, none⟩ = some (.slice A0_3 l0_3.length c0_3) := (zb BK275.out 3).trans rfl; have hfz14_0 := za BK275.out 0; have hfz14_1 := za BK275.out 1; have hfz14_2 := za BK275.out 2; have hfz14_3 := za BK275.out 3) | ((with_reducible refine zp (f := 37) rfl ?_); refine zP (some 6) rfl rfl Try.func37 (by kernel_rfl) rfl #[.agg #[.int .i64 a0_0, .int .i64 a0_1, .int .i64 a0_2, .slice A0_3 l0_3.length c0_3]] rfl sqM ?_; (with_reducible refine (zq.calls k a0_0 a0_1 a0_2 _ _ l0_3 true _ ?side1 ?side2 A3.out).mono ?_); (case side1 => exact sqC (Kd.z1 HR0_3.out HB.out)); (case side2 => exact HC0_3.out); rintro e w15 ⟨rfl, hb⟩; refine ⟨_, rfl, ?_⟩; have n0_ := Aside0.mk (ze (g := gb275) (o := .cells #[.int .i64 a0_0, .int .i64 a0_1, .int .i64 a0_2, .slice A0_3 l0_3.length c0_3] 27 (0, 0)) (sqK BK275.out) hb); have n1_ := Aside0.mk (zg sqB hb); clear BK275; clear HB; have BK275 := n0_; have HB := n1_; clear n0_ n1_; (try clear hb); (try clear hb2); (try clear hk); (try clear hi); have hcz16_0 : w15.cell? ⟨gb275, 0, none⟩ = some (.int .i64 a0_0) := (zb BK275.out 0).trans rfl; have hcz16_1 : w15.cell? ⟨gb275, 1, none⟩ = some (.int .i64 a0_1) := (zb BK275.out 1).trans rfl; have hcz16_2 : w15.cell? ⟨gb275, 2, none⟩ = some (.int .i64 a0_2) := (zb BK275.out 2).trans rfl; have hcz16_3 : w15.cell? ⟨gb275, 3, none⟩ = some (.slice A0_3 l0_3.length c0_3) := (zb BK275.out 3).trans rfl; have hfz16_0 := za BK275.out 0; have hfz16_1 := za BK275.out 1; have hfz16_2 := za BK275.out 2; have hfz16_3 := za BK275.out 3) | (go_at_call 49; (try simp only [zf, zh]); (with_reducible refine (jI.calls a0_2 a1 false _ A5.out).mono ?_); rintro e w' ⟨rfl, ⟨nd, rfl⟩⟩))
   go_ret
   exact ⟨sqE, sqB⟩
 ·replace c4 := Bool.eq_false_iff.mpr c4
  subst c4
  have H1 : (some (-1)) = some r := by rw [if_neg (show ¬ (false = true) by decide)] at H; exact H
  clear H
  have H := H1
  clear H1
  obtain rfl := Option.some.inj H
  go_enter Try.func30, Try.ntmps30
  go_wp2_with (first | ((with_reducible refine zC (N := 2) rfl ?_); refine zD ?hg (N := 2) ?hd (cs := #[.int .i64 a0_0, .int .i64 a0_1, .int .i64 a0_2, .slice A0_3 l0_3.length c0_3]) (t := 27) ?hr ?_; (case hd => rfl); (case hg => rfl); (case hr => exact sqG); intro gb275 hg w17 hbox hb; have n0_ := Aside0.mk (zg sqB hb); have n1_ := Aside0.mk (hbox); have n2_ := Aside0.mk ((sqS hg : w.heap.size ≤ gb275)); have n3_ := Aside0.mk ((sqS hg : w.heap.size ≤ gb275)); clear HB; have HB := n0_; have BK275 := n1_; have GW275 := n2_; have GE275 := n3_; clear n0_ n1_ n2_ n3_; clear hb hbox hg; have hcz18_0 : w17.cell? ⟨gb275, 0, none⟩ = some (.int .i64 a0_0) := (zb BK275.out 0).trans rfl; have hcz18_1 : w17.cell? ⟨gb275, 1, none⟩ = some (.int .i64 a0_1) := (zb BK275.out 1).trans rfl; have hcz18_2 : w17.cell? ⟨gb275, 2, none⟩ = some (.int .i64 a0_2) := (zb BK275.out 2).trans rfl; have hcz18_3 : w17.cell? ⟨gb275, 3, none⟩ = some (.slice A0_3 l0_3.length c0_3) := (zb BK275.out 3).trans rfl; have hfz18_0 := za BK275.out 0; have hfz18_1 := za BK275.out 1; have hfz18_2 := za BK275.out 2; have hfz18_3 := za BK275.out 3) | ((with_reducible refine zp (f := 37) rfl ?_); refine zP (some 6) rfl rfl Try.func37 (by kernel_rfl) rfl #[.agg #[.int .i64 a0_0, .int .i64 a0_1, .int .i64 a0_2, .slice A0_3 l0_3.length c0_3]] rfl sqM ?_; (with_reducible refine (zq.calls k a0_0 a0_1 a0_2 _ _ l0_3 false _ ?side1 ?side2 A3.out).mono ?_); (case side1 => exact sqC (Kd.z1 HR0_3.out HB.out)); (case side2 => exact HC0_3.out); rintro e w19 ⟨rfl, hb⟩; refine ⟨_, rfl, ?_⟩; have n0_ := Aside0.mk (ze (g := gb275) (o := .cells #[.int .i64 a0_0, .int .i64 a0_1, .int .i64 a0_2, .slice A0_3 l0_3.length c0_3] 27 (0, 0)) (sqK BK275.out) hb); have n1_ := Aside0.mk (zg sqB hb); clear BK275; clear HB; have BK275 := n0_; have HB := n1_; clear n0_ n1_; (try clear hb); (try clear hb2); (try clear hk); (try clear hi)))
  go_ret
  exact ⟨sqE, sqB⟩

def jS.f (a0 : Int) (a1 : Int) : Option (Bool) := (z7.f a0).bind fun t279 => (if t279 = true then (if a1 ≥ 0 then (if 0 ≤ a0 then (some (decide (a1 < (shl .i64 1 a0)))) else (none)) else (some false)) else (some false))
theorem jS.calls (a0 : Int) (a1 : Int) (r : Bool) (w : World) (h : jS.f a0 a1 = some r) :
  Calls Try.prog 51 #[.int .i64 a0, .int .i64 a1] w fun e w' => e = .returned (.bool r) ∧ zw w w' := by
 have H : ((z7.f a0).bind fun t279 => (if t279 = true then (if a1 ≥ 0 then (if 0 ≤ a0 then (some (decide (a1 < (shl .i64 1 a0)))) else (none)) else (some false)) else (some false))) = some r := h
 clear h
 replace H := Option.bind_eq_some_iff.mp H
 obtain ⟨t279, A30, H⟩ := H
 replace H : (if t279 = true then (if a1 ≥ 0 then (if 0 ≤ a0 then (some (decide (a1 < (shl .i64 1 a0)))) else (none)) else (some false)) else (some false)) = some r := H
 have A3 := Aside0.mk A30
 clear A30
 by_cases c4 : t279 = true
 ·subst c4
  have H1 : (if a1 ≥ 0 then (if 0 ≤ a0 then (some (decide (a1 < (shl .i64 1 a0)))) else (none)) else (some false)) = some r := by rw [if_pos rfl] at H; exact H
  clear H
  have H := H1
  clear H1
  by_cases c5 : a1 ≥ 0
  ·rw [if_pos c5] at H
   have c5b0 : decide (0 ≤ a1) = true := decide_eq_true c5
   clear c5
   by_cases c6 : 0 ≤ a0
   ·rw [if_pos c6] at H
    have c6b0 := eq_true c6
    have c6b1 : decide (0 ≤ a0) = true := decide_eq_true c6
    clear c6
    obtain ⟨ji7, hji7⟩ : ∃ j_ : Int, (shl .i64 1 a0) = j_ := ⟨_, rfl⟩
    replace H : (some (decide (a1 < (ji7)))) = some r := by first | (rw [hji7] at H; exact H) | (simp only [hji7] at H ⊢; exact H)
    (try rw [hji7] at A3)
    have hji7_ : (IntKind.i64.wrap (1 * 2 ^ min a0.toNat 64)) = ji7 := hji7
    have hji7z : a0 ≤ 64 → (IntKind.i64.wrap (1 * 2 ^ a0.toNat)) = ji7 := Qf hji7
    have hji7u : (IntKind.i64.wrap (2 ^ min a0.toNat 64)) = ji7 := by have h_ := hji7_; rw [Int.one_mul] at h_; exact h_
    have hji7v : a0 ≤ 64 → (IntKind.i64.wrap (2 ^ a0.toNat)) = ji7 := fun hle_ => by have h_ := hji7z hle_; rw [Int.one_mul] at h_; exact h_
    have hji7y : (wrap64 (1 * 2 ^ min a0.toNat 64)) = ji7 := (zf _).symm.trans hji7_
    have hji7x : a0 ≤ 64 → (wrap64 (1 * 2 ^ a0.toNat)) = ji7 := fun h_ => (zf _).symm.trans (hji7z h_)
    obtain rfl := Option.some.inj H
    go_enter Try.func51, Try.ntmps51
    go_wp2_with (first | ((with_reducible refine zp (f := 68) rfl ?_); refine zP (some 6) rfl rfl Try.func68 (by kernel_rfl) rfl #[.int .i64 a0] rfl sqM ?_; (with_reducible refine (z7.calls a0 true _ A3.out).mono ?_); rintro e w' ⟨rfl, ⟨nd, rfl⟩⟩; refine ⟨_, rfl, ?_⟩))
    go_ret
    exact ⟨by first | rfl | (simp; done) | (simp only [← hji7] <;> (first | rfl | simp)) | (simp [*]; done), by repeat (first | exact zw.refl _ | apply zw.step)⟩
   ·rw [if_neg c6] at H
    exact absurd H (by simp)
  ·rw [if_neg c5] at H
   have c5b0 : decide (0 ≤ a1) = false := decide_eq_false c5
   clear c5
   obtain rfl := Option.some.inj H
   go_enter Try.func51, Try.ntmps51
   go_wp2_with (first | ((with_reducible refine zp (f := 68) rfl ?_); refine zP (some 6) rfl rfl Try.func68 (by kernel_rfl) rfl #[.int .i64 a0] rfl sqM ?_; (with_reducible refine (z7.calls a0 true _ A3.out).mono ?_); rintro e w' ⟨rfl, ⟨nd, rfl⟩⟩; refine ⟨_, rfl, ?_⟩))
   go_ret
   exact ⟨sqD, by repeat (first | exact zw.refl _ | apply zw.step)⟩
 ·replace c4 := Bool.eq_false_iff.mpr c4
  subst c4
  have H1 : (some false) = some r := by rw [if_neg (show ¬ (false = true) by decide)] at H; exact H
  clear H
  have H := H1
  clear H1
  obtain rfl := Option.some.inj H
  go_enter Try.func51, Try.ntmps51
  go_wp2_with (first | ((with_reducible refine zp (f := 68) rfl ?_); refine zP (some 6) rfl rfl Try.func68 (by kernel_rfl) rfl #[.int .i64 a0] rfl sqM ?_; (with_reducible refine (z7.calls a0 false _ A3.out).mono ?_); rintro e w' ⟨rfl, ⟨nd, rfl⟩⟩; refine ⟨_, rfl, ?_⟩))
  go_ret
  exact ⟨sqD, by repeat (first | exact zw.refl _ | apply zw.step)⟩

def jL.f (a0 : Int) : Option (Bool) := if a0 ≥ 0 then (some (decide (a0 < 256))) else (some false)
theorem jL.calls (a0 : Int) (r : Bool) (w : World) (h : jL.f a0 = some r) :
  Calls Try.prog 76 #[.int .i64 a0] w fun e w' => e = .returned (.bool r) ∧ zw w w' := by
 have H : (if a0 ≥ 0 then (some (decide (a0 < 256))) else (some false)) = some r := h
 clear h
 by_cases c2 : a0 ≥ 0
 ·rw [if_pos c2] at H
  have c2b0 : decide (0 ≤ a0) = true := decide_eq_true c2
  clear c2
  obtain rfl := Option.some.inj H
  go_enter Try.func76, Try.ntmps76
  go_wp2
  go_ret
  exact ⟨sqD, by repeat (first | exact zw.refl _ | apply zw.step)⟩
 ·rw [if_neg c2] at H
  have c2b0 : decide (0 ≤ a0) = false := decide_eq_false c2
  clear c2
  obtain rfl := Option.some.inj H
  go_enter Try.func76, Try.ntmps76
  go_wp2
  go_ret
  exact ⟨sqD, by repeat (first | exact zw.refl _ | apply zw.step)⟩

def jA.f (a0 : Int) (a1 : Int) : Option (Bool) := (jL.f a0).bind fun t282 => (if t282 = true then (if a1 ≥ 0 then (if a1 < 8 then (if 0 ≤ a1 then (some ((Go.bits .and .i64 (shr .i64 a0 a1) 1) == 1)) else (none)) else (some false)) else (some false)) else (some false))
theorem jA.calls (a0 : Int) (a1 : Int) (r : Bool) (w : World) (h : jA.f a0 a1 = some r) :
  Calls Try.prog 75 #[.int .i64 a0, .int .i64 a1] w fun e w' => e = .returned (.bool r) ∧ zw w w' := by
 have H : ((jL.f a0).bind fun t282 => (if t282 = true then (if a1 ≥ 0 then (if a1 < 8 then (if 0 ≤ a1 then (some ((Go.bits .and .i64 (shr .i64 a0 a1) 1) == 1)) else (none)) else (some false)) else (some false)) else (some false))) = some r := h
 clear h
 replace H := Option.bind_eq_some_iff.mp H
 obtain ⟨t282, A30, H⟩ := H
 replace H : (if t282 = true then (if a1 ≥ 0 then (if a1 < 8 then (if 0 ≤ a1 then (some ((Go.bits .and .i64 (shr .i64 a0 a1) 1) == 1)) else (none)) else (some false)) else (some false)) else (some false)) = some r := H
 have A3 := Aside0.mk A30
 clear A30
 by_cases c4 : t282 = true
 ·subst c4
  have H1 : (if a1 ≥ 0 then (if a1 < 8 then (if 0 ≤ a1 then (some ((Go.bits .and .i64 (shr .i64 a0 a1) 1) == 1)) else (none)) else (some false)) else (some false)) = some r := by rw [if_pos rfl] at H; exact H
  clear H
  have H := H1
  clear H1
  by_cases c5 : a1 ≥ 0
  ·rw [if_pos c5] at H
   have c5b0 : decide (0 ≤ a1) = true := decide_eq_true c5
   clear c5
   by_cases c6 : a1 < 8
   ·rw [if_pos c6] at H
    have c6b0 : decide (a1 < 8) = true := decide_eq_true c6
    clear c6
    by_cases c7 : 0 ≤ a1
    ·rw [if_pos c7] at H
     have c7b0 := eq_true c7
     have c7b1 : decide (0 ≤ a1) = true := decide_eq_true c7
     clear c7
     obtain ⟨ji8, hji8⟩ : ∃ j_ : Int, (shr .i64 a0 a1) = j_ := ⟨_, rfl⟩
     replace H : (some ((Go.bits .and .i64 (ji8) 1) == 1)) = some r := by first | (rw [hji8] at H; exact H) | (simp only [hji8] at H ⊢; exact H)
     (try rw [hji8] at A3)
     have hji8_ : (a0 / 2 ^ min a1.toNat 64) = ji8 := hji8
     have hji8z : a1 ≤ 64 → (a0 / 2 ^ a1.toNat) = ji8 := Qo hji8
     obtain rfl := Option.some.inj H
     go_enter Try.func75, Try.ntmps75
     go_wp2_with (first | ((with_reducible refine zp (f := 76) rfl ?_); refine zP (some 6) rfl rfl Try.func76 (by kernel_rfl) rfl #[.int .i64 a0] rfl sqM ?_; (with_reducible refine (jL.calls a0 true _ A3.out).mono ?_); rintro e w' ⟨rfl, ⟨nd, rfl⟩⟩; refine ⟨_, rfl, ?_⟩))
     go_ret
     exact ⟨by first | rfl | (simp; done) | (simp only [← hji8] <;> (first | rfl | simp)) | (simp [*]; done), by repeat (first | exact zw.refl _ | apply zw.step)⟩
    ·rw [if_neg c7] at H
     exact absurd H (by simp)
   ·rw [if_neg c6] at H
    have c6b0 : decide (a1 < 8) = false := decide_eq_false c6
    clear c6
    obtain rfl := Option.some.inj H
    go_enter Try.func75, Try.ntmps75
    go_wp2_with (first | ((with_reducible refine zp (f := 76) rfl ?_); refine zP (some 6) rfl rfl Try.func76 (by kernel_rfl) rfl #[.int .i64 a0] rfl sqM ?_; (with_reducible refine (jL.calls a0 true _ A3.out).mono ?_); rintro e w' ⟨rfl, ⟨nd, rfl⟩⟩; refine ⟨_, rfl, ?_⟩))
    go_ret
    exact ⟨sqD, by repeat (first | exact zw.refl _ | apply zw.step)⟩
  ·rw [if_neg c5] at H
   have c5b0 : decide (0 ≤ a1) = false := decide_eq_false c5
   clear c5
   obtain rfl := Option.some.inj H
   go_enter Try.func75, Try.ntmps75
   go_wp2_with (first | ((with_reducible refine zp (f := 76) rfl ?_); refine zP (some 6) rfl rfl Try.func76 (by kernel_rfl) rfl #[.int .i64 a0] rfl sqM ?_; (with_reducible refine (jL.calls a0 true _ A3.out).mono ?_); rintro e w' ⟨rfl, ⟨nd, rfl⟩⟩; refine ⟨_, rfl, ?_⟩))
   go_ret
   exact ⟨sqD, by repeat (first | exact zw.refl _ | apply zw.step)⟩
 ·replace c4 := Bool.eq_false_iff.mpr c4
  subst c4
  have H1 : (some false) = some r := by rw [if_neg (show ¬ (false = true) by decide)] at H; exact H
  clear H
  have H := H1
  clear H1
  obtain rfl := Option.some.inj H
  go_enter Try.func75, Try.ntmps75
  go_wp2_with (first | ((with_reducible refine zp (f := 76) rfl ?_); refine zP (some 6) rfl rfl Try.func76 (by kernel_rfl) rfl #[.int .i64 a0] rfl sqM ?_; (with_reducible refine (jL.calls a0 false _ A3.out).mono ?_); rintro e w' ⟨rfl, ⟨nd, rfl⟩⟩; refine ⟨_, rfl, ?_⟩))
  go_ret
  exact ⟨sqD, by repeat (first | exact zw.refl _ | apply zw.step)⟩

def zV.l0 : Nat → Int → List Int → Int → Option (List Int)
 | 0, _, _, _ => none
 | k + 1, x0, x3, x4 => if x4 < 8 then ((jA.f x0 x4).bind fun t286 => (if t286 = true then (if x3.length < 17592186044416 then (zV.l0 k x0 (x3 ++ [x4]) (wrap64 (x4 + 1))) else (none)) else (zV.l0 k x0 x3 (wrap64 (x4 + 1))))) else (some x3)
def zV.f (k : Nat) (a0 : Int) : Option (List Int) := zV.l0 k a0 (([] : List Int)) 0
theorem zV.calls (k : Nat) (a0 : Int) (r : List Int) (w : World) (h : zV.f k a0 = some r) :
  Calls Try.prog 71 #[.int .i64 a0] w fun e w' => ∃ v0_ : Value, e = .returned (v0_) ∧ Kd.R (Kd.int .i64) 3 w' w.heap.size (fun _ => True) v0_ r ∧ Below w.heap.size w w' := by
 have HB := Aside0.mk (Below.refl w.heap.size w)
 have H : (zV.l0 k a0 (([] : List Int)) 0) = some r := h
 clear h
 obtain ⟨y283, hy283⟩ : ∃ y_ : List Int, y_ = (([] : List Int)) := ⟨_, rfl⟩
 replace H : (zV.l0 k a0 y283 0) = some r := by first | (rw [hy283]; with_reducible exact H) | (have H2_ := (Option.bind_some _ _).symm.trans H; rw [hy283]; with_reducible exact H2_) | (have H2_ := (Option.bind_some _ _).symm.trans H; with_reducible exact H2_) | with_reducible exact H | (rw [hy283]; exact H) | exact H
 have Ny283 := Aside0.mk hy283
 clear hy283
 have H' := Aside0.mk H
 clear H
 go_enter Try.func71, Try.ntmps71
 go_wp2_with (first | ((with_reducible refine zC (N := 5) rfl ?_); refine Kd.yC (Kd.int .i64) _ 3 ?hg (N := 5) ?hd (xs := ([] : List Int)) (inner := []) (ok := fun _ => True) (okp := fun _ => True) ?hr ?hp (fun _ hk => hk) trivial (Below.refl _ _) (Nat.le_refl _) (by simp) ?_; (case hd => rfl); (case hg => rfl); (case hr => exact sqG); (case hp => exact (qy.none _ _)); intro v284 w2 ho3 hb hg_ hnew_; clear hg_ hnew_; (first | rw [← Ny283.out] at ho3 | (simp only [Int.reduceToNat] at ho3; rw [← Ny283.out] at ho3)); have n0_ := Aside0.mk (Kd.qo ho3 (zJ sqB)); have n1_ := Aside0.mk (zg sqB hb); clear HB; have HO285 := n0_; have HB := n1_; clear n0_ n1_; clear hb ho3))
 go_loopg [3, 4] k (fun kq v3 v4 w' => ∃ (x3_1 : List Int) (x4_1 : Int), v4 = .int .i64 x4_1 ∧ Aside0 (zV.l0 kq a0 x3_1 x4_1 = some r) ∧ Aside0 (kq ≤ k) ∧ Aside0 (Kd.R (Kd.int .i64) 3 w' w.heap.size (fun _ => True) v3 x3_1) ∧ Aside0 (Below w.heap.size w w'))
 case atStart => exact ⟨(y283), (0), (sqD), H', ⟨Nat.le_refl _⟩, ⟨sqR HO285.out⟩, ⟨sqB⟩⟩
 case round =>
  clear H'
  try clear p2
  obtain ⟨x3_1, x4_1, rfl, HA, HK1, HO_3, HB⟩ := hrel
  cases gk with
  | zero => exact absurd HA.out (by simp [zV.l0])
  | succ k1 =>
   have H := HA.out
   clear HA
   simp only [zV.l0] at H
   by_cases c4 : x4_1 < 8
   ·rw [if_pos c4] at H
    have c4b0 : decide (x4_1 < 8) = true := decide_eq_true c4
    clear c4
    replace H := Option.bind_eq_some_iff.mp H
    obtain ⟨t286, A50, H⟩ := H
    replace H : (if t286 = true then (if x3_1.length < 17592186044416 then (zV.l0 k1 a0 (x3_1 ++ [x4_1]) (wrap64 (x4_1 + 1))) else (none)) else (zV.l0 k1 a0 x3_1 (wrap64 (x4_1 + 1)))) = some r := H
    have A5 := Aside0.mk A50
    clear A50
    by_cases c6 : t286 = true
    ·subst c6
     have H1 : (if x3_1.length < 17592186044416 then (zV.l0 k1 a0 (x3_1 ++ [x4_1]) (wrap64 (x4_1 + 1))) else (none)) = some r := by rw [if_pos rfl] at H; exact H
     clear H
     have H := H1
     clear H1
     by_cases c7 : x3_1.length < 17592186044416
     ·rw [if_pos c7] at H
      have LMc7 := Aside0.mk c7
      clear c7
      obtain ⟨y287, hy287⟩ : ∃ y_ : List Int, y_ = (x3_1 ++ [x4_1]) := ⟨_, rfl⟩
      replace H : (zV.l0 k1 a0 y287 (wrap64 (x4_1 + 1))) = some r := by first | (rw [hy287]; with_reducible exact H) | (have H2_ := (Option.bind_some _ _).symm.trans H; rw [hy287]; with_reducible exact H2_) | (have H2_ := (Option.bind_some _ _).symm.trans H; with_reducible exact H2_) | with_reducible exact H | (rw [hy287]; exact H) | exact H
      have Ny287 := Aside0.mk hy287
      clear hy287
      have H' := Aside0.mk H
      clear H
      go_wp2_with (first | ((with_reducible refine zp (f := 75) rfl ?_); refine zP (some 12) rfl rfl Try.func75 (by kernel_rfl) rfl #[.int .i64 a0, .int .i64 x4_1] rfl sqM ?_; (with_reducible refine (jA.calls a0 x4_1 true _ A5.out).mono ?_); rintro e w' ⟨rfl, ⟨nd, rfl⟩⟩; refine ⟨_, rfl, ?_⟩) | ((with_reducible refine qP (b := .append) (xs := #[.tmp 13, .tmp 15]) rfl ?_); at_builtin; refine Kd.yU (Kd.int .i64) (w0 := w) w.heap.size rfl (.tmp 13) (.tmp 15) 22 3 (.int .i64 0) 8 rfl Try.underlying22 vt rfl (by decide) (by omega) u3 x3_1 x4_1 [.int .i64 x4_1] (fun _ => True) (fun _ => False) rfl rfl ?aP (fun _ hk => hk.elim) ?aF ?aO ?aB ?aS ?aL ?_; (case aP => exact rfl); (case aB => exact sqB); (case aF => exact (fun _ _ => trivial)); (case aO => exact (sqR HO_3.out)); (case aS => exact (zJ sqB)); (case aL => have := LMc7.out; omega); intro v288 w8 ho hb hg hat; rw [← Ny287.out] at ho; have n0_ := Aside0.mk (hb); have n1_ := Aside0.mk (ho); clear HB; clear HO_3; have HB := n0_; have HO289 := n1_; clear n0_ n1_; clear ho hb hg hat))
      go_roundg k1
      case measure => have := HK1.out; omega
      case rel => exact ⟨(y287), (wrap64 (x4_1 + 1)), (sqD), H', ⟨by have := HK1.out; omega⟩, ⟨sqR HO289.out⟩, ⟨sqB⟩⟩
     ·rw [if_neg c7] at H
      exact absurd H (by simp)
    ·replace c6 := Bool.eq_false_iff.mpr c6
     subst c6
     have H1 : (zV.l0 k1 a0 x3_1 (wrap64 (x4_1 + 1))) = some r := by rw [if_neg (show ¬ (false = true) by decide)] at H; exact H
     clear H
     have H := H1
     clear H1
     have H' := Aside0.mk H
     clear H
     go_wp2_with (first | ((with_reducible refine zp (f := 75) rfl ?_); refine zP (some 12) rfl rfl Try.func75 (by kernel_rfl) rfl #[.int .i64 a0, .int .i64 x4_1] rfl sqM ?_; (with_reducible refine (jA.calls a0 x4_1 false _ A5.out).mono ?_); rintro e w' ⟨rfl, ⟨nd, rfl⟩⟩; refine ⟨_, rfl, ?_⟩))
     go_roundg k1
     case measure => have := HK1.out; omega
     case rel => exact ⟨(x3_1), (wrap64 (x4_1 + 1)), (sqD), H', ⟨by have := HK1.out; omega⟩, ⟨sqR HO_3.out⟩, ⟨sqB⟩⟩
   ·rw [if_neg c4] at H
    have c4b0 : decide (x4_1 < 8) = false := decide_eq_false c4
    clear c4
    obtain rfl := Option.some.inj H
    go_wp2
    go_ret
    exact ⟨_, sqE, sqR HO_3.out, sqB⟩

mutual
def zK.l0 : Nat → List Int → Int → Int → Int → Int → List Int → Int → Int → Int → List Int → Option (Int × Int × Int × List Int)
 | 0, _, _, _, _, _, _, _, _, _, _ => none
 | k + 1, x5, x7, x291000, x291001, x291002, x291003, x296000, x296001, x296002, x296003 => if x7 < x291001 then (zK.l1 k x5 x7 x5 (x5.length : Int) 0 x291000 x291001 x291002 x291003 x296000 x296001 x296002 x296003) else (some (x296000, x296001, x296002, x296003))
def zK.l1 : Nat → List Int → Int → List Int → Int → Int → Int → Int → Int → List Int → Int → Int → Int → List Int → Option (Int × Int × Int × List Int)
 | 0, _, _, _, _, _, _, _, _, _, _, _, _, _ => none
 | k + 1, x5, x7, x25, x26, x27, x291000, x291001, x291002, x291003, x296000, x296001, x296002, x296003 => if x27 < x26 then (if 0 ≤ x27 then (if x27 < (x25.length : Int) then ((q6.f x291000 x291001 x291002 x291003 x7 (rd x25 x27)).bind fun t297 => (if x296003.length < 17592186044416 then (zK.l1 k x5 x7 x25 x26 (wrap64 (x27 + 1)) x291000 x291001 x291002 x291003 x296000 x296001 x296002 (x296003 ++ [t297])) else (none))) else (none)) else (none)) else (zK.l0 k x5 (wrap64 (x7 + 1)) x291000 x291001 x291002 x291003 x296000 x296001 x296002 x296003)
end
def zK.f (k : Nat) (a0_0 : Int) (a0_1 : Int) (a0_2 : Int) (l0_3 : List Int) (a1 : Int) : Option (Int × Int × Int × List Int) := (zV.f k a1).bind fun t292 => (zK.l0 k t292 0 a0_0 a0_1 a0_2 l0_3 a0_0 a0_1 (t292.length : Int) ([] : List Int))
def zK.T9 : Bool × List (List Nat × List Nat) := (true, [([], []), ([0], [0]), ([], []), ([], []), ([], []), ([2, 3, 4], [2, 3, 4]), ([5], [5]), ([1, 6, 5], [1, 6]), ([0, 1, 2, 3, 4, 5, 6, 7], []), ([8, 7, 7, 0, 1, 2, 3, 4, 5, 6, 7], [7, 8])])
def zK.B9 : List Nat := [0, 1, 0, 0, 0, 28, 60, 127, 255, 511]
theorem zK.tab9 : jQ .any (opsOf Try.f59 9) = zK.T9 := by kernel_rfl
theorem zK.zas : jf zK.T9.2 zK.B9 = true := by kernel_rfl
theorem zK.calls (k : Nat) (a0_0 : Int) (a0_1 : Int) (a0_2 : Int) (A0_3 : Option Addr) (c0_3 : Nat) (l0_3 : List Int) (a1 : Int) (r1 : Int) (r2 : Int) (r3 : Int) (r4 : List Int) (w : World) (hr0_3 : Kd.C (Kd.int .i64) w A0_3 l0_3.length l0_3) (hc0_3 : l0_3.length ≤ c0_3) (h : zK.f k a0_0 a0_1 a0_2 l0_3 a1 = some (r1, r2, r3, r4)) :
  Calls Try.prog 59 #[.agg #[.int .i64 a0_0, .int .i64 a0_1, .int .i64 a0_2, .slice A0_3 l0_3.length c0_3], .int .i64 a1] w fun e w' => ∃ v3_ : Value, e = .returned (.agg #[.int .i64 r1, .int .i64 r2, .int .i64 r3, v3_]) ∧ Kd.R (Kd.int .i64) 3 w' w.heap.size (fun _ => True) v3_ r4 ∧ Below w.heap.size w w' := by
 have hu27 := Try.underlying27
 have HR0_3 := Aside0.mk hr0_3
 have HC0_3 := Aside0.mk hc0_3
 clear hr0_3 hc0_3
 have HB := Aside0.mk (Below.refl w.heap.size w)
 have H : ((zV.f k a1).bind fun t292 => (zK.l0 k t292 0 a0_0 a0_1 a0_2 l0_3 a0_0 a0_1 (t292.length : Int) ([] : List Int))) = some (r1, r2, r3, r4) := h
 clear h
 replace H := Option.bind_eq_some_iff.mp H
 obtain ⟨t292, A30, H⟩ := H
 replace H : (zK.l0 k t292 0 a0_0 a0_1 a0_2 l0_3 a0_0 a0_1 (t292.length : Int) ([] : List Int)) = some (r1, r2, r3, r4) := H
 have A3 := Aside0.mk A30
 clear A30
 have H' := Aside0.mk H
 clear H
 go_enter Try.func59, Try.ntmps59
 go_wp2_with (first | ((with_reducible refine zC (N := 2) rfl ?_); refine zD ?hg (N := 2) ?hd (cs := #[.int .i64 a0_0, .int .i64 a0_1, .int .i64 a0_2, .slice A0_3 l0_3.length c0_3]) (t := 27) ?hr ?_; (case hd => rfl); (case hg => rfl); (case hr => exact sqG); intro gb290 hg w4 hbox hb; have n0_ := Aside0.mk (zg sqB hb); have n1_ := Aside0.mk (hbox); have n2_ := Aside0.mk ((sqS hg : w.heap.size ≤ gb290)); have n3_ := Aside0.mk ((sqS hg : w.heap.size ≤ gb290)); clear HB; have HB := n0_; have BK290 := n1_; have GW290 := n2_; have GE290 := n3_; clear n0_ n1_ n2_ n3_; clear hb hbox hg) | ((with_reducible refine zC (N := 4) rfl ?_); refine zD ?hg (N := 4) ?hd (cs := #[.int .i64 0, .int .i64 0, .int .i64 0, .slice none 0 0]) (t := 27) ?hr ?_; (case hd => rfl); (case hg => rfl); (case hr => exact sqG); intro gb291 hg w5 hbox hb; have n0_ := Aside0.mk (ze (g := gb290) (o := .cells #[.int .i64 a0_0, .int .i64 a0_1, .int .i64 a0_2, .slice A0_3 l0_3.length c0_3] 27 (0, 0)) (sqK BK290.out) hb); have n1_ := Aside0.mk (zg sqB hb); have n2_ := Aside0.mk (hbox); have n3_ := Aside0.mk ((sqS hg : w.heap.size ≤ gb291)); have n4_ := Aside0.mk ((sqS hg : w.heap.size ≤ gb291)); have n5_ := Aside0.mk ((by rw [hg]; exact Nat.ne_of_lt (zI (g := gb290) (o := .cells #[.int .i64 a0_0, .int .i64 a0_1, .int .i64 a0_2, .slice A0_3 l0_3.length c0_3] 27 (0, 0)) (sqK BK290.out)) : gb290 ≠ gb291)); have n6_ := Aside0.mk ((by rw [hg]; exact Nat.ne_of_gt (zI (g := gb290) (o := .cells #[.int .i64 a0_0, .int .i64 a0_1, .int .i64 a0_2, .slice A0_3 l0_3.length c0_3] 27 (0, 0)) (sqK BK290.out)) : gb291 ≠ gb290)); clear BK290; clear HB; have BK290 := n0_; have HB := n1_; have BK291 := n2_; have GW291 := n3_; have GE291 := n4_; have NB290_291 := n5_; have NB291_290 := n6_; clear n0_ n1_ n2_ n3_ n4_ n5_ n6_; clear hb hbox hg) | ((with_reducible refine zp (f := 71) rfl ?_); refine zP (some 11) rfl rfl Try.func71 (by kernel_rfl) rfl #[.int .i64 a1] rfl sqM ?_; (with_reducible refine (zV.calls k a1 t292 _ A3.out).mono ?_); rintro e w6 ⟨v293, rfl, ho0, hb⟩; refine ⟨_, rfl, ?_⟩; have n0_ := Aside0.mk (Kd.qo ho0 (zJ sqB)); have n1_ := Aside0.mk (ze (g := gb290) (o := .cells #[.int .i64 a0_0, .int .i64 a0_1, .int .i64 a0_2, .slice A0_3 l0_3.length c0_3] 27 (0, 0)) (sqK BK290.out) hb); have n2_ := Aside0.mk (ze (g := gb291) (o := .cells #[.int .i64 0, .int .i64 0, .int .i64 0, .slice none 0 0] 27 (0, 0)) (sqK BK291.out) hb); have n3_ := Aside0.mk (zg sqB hb); clear BK290; clear BK291; clear HB; have HO294 := n0_; have BK290 := n1_; have BK291 := n2_; have HB := n3_; clear n0_ n1_ n2_ n3_; (try clear hb); (try clear hb2); (try clear hk); (try clear hi); (try clear ho0); have hnb7 := NB290_291.out; have hnc7 := NB291_290.out; have hcz8_0 : w6.cell? ⟨gb290, 0, none⟩ = some (.int .i64 a0_0) := (zb BK290.out 0).trans rfl; have hcz8_1 : w6.cell? ⟨gb290, 1, none⟩ = some (.int .i64 a0_1) := (zb BK290.out 1).trans rfl; have hcz8_2 : w6.cell? ⟨gb290, 2, none⟩ = some (.int .i64 a0_2) := (zb BK290.out 2).trans rfl; have hcz8_3 : w6.cell? ⟨gb290, 3, none⟩ = some (.slice A0_3 l0_3.length c0_3) := (zb BK290.out 3).trans rfl; have hfz8_0 := za BK290.out 0; have hfz8_1 := za BK290.out 1; have hfz8_2 := za BK290.out 2; have hfz8_3 := za BK290.out 3; obtain ⟨Ao9, co9, eo9⟩ := Kd.zU HO294.out; subst eo9) | ((with_reducible refine zC (N := 6) rfl ?_); refine zD ?hg (N := 6) ?hd (cs := #[.int .i64 0, .int .i64 0, .int .i64 0, .slice none 0 0]) (t := 27) ?hr ?_; (case hd => rfl); (case hg => rfl); (case hr => exact sqG); intro gb295 hg w10 hbox hb; have n0_ := Aside0.mk (Kd.zG (sqR HO294.out) hb); have n1_ := Aside0.mk (ze (g := gb290) (o := .cells #[.int .i64 a0_0, .int .i64 a0_1, .int .i64 a0_2, .slice A0_3 l0_3.length c0_3] 27 (0, 0)) (sqK BK290.out) hb); have n2_ := Aside0.mk (ze (g := gb291) (o := .cells #[.int .i64 0, .int .i64 0, .int .i64 0, .slice none 0 0] 27 (0, 0)) (sqK BK291.out) hb); have n3_ := Aside0.mk (zg sqB hb); have n4_ := Aside0.mk (hbox); have n5_ := Aside0.mk ((sqS hg : w.heap.size ≤ gb295)); have n6_ := Aside0.mk ((sqS hg : w.heap.size ≤ gb295)); have n7_ := Aside0.mk ((by rw [hg]; exact Nat.ne_of_lt (zI (g := gb290) (o := .cells #[.int .i64 a0_0, .int .i64 a0_1, .int .i64 a0_2, .slice A0_3 l0_3.length c0_3] 27 (0, 0)) (sqK BK290.out)) : gb290 ≠ gb295)); have n8_ := Aside0.mk ((by rw [hg]; exact Nat.ne_of_gt (zI (g := gb290) (o := .cells #[.int .i64 a0_0, .int .i64 a0_1, .int .i64 a0_2, .slice A0_3 l0_3.length c0_3] 27 (0, 0)) (sqK BK290.out)) : gb295 ≠ gb290)); have n9_ := Aside0.mk ((by rw [hg]; exact Nat.ne_of_lt (zI (g := gb291) (o := .cells #[.int .i64 0, .int .i64 0, .int .i64 0, .slice none 0 0] 27 (0, 0)) (sqK BK291.out)) : gb291 ≠ gb295)); have n10_ := Aside0.mk ((by rw [hg]; exact Nat.ne_of_gt (zI (g := gb291) (o := .cells #[.int .i64 0, .int .i64 0, .int .i64 0, .slice none 0 0] 27 (0, 0)) (sqK BK291.out)) : gb295 ≠ gb291)); clear HO294; clear BK290; clear BK291; clear HB; have HO294 := n0_; have BK290 := n1_; have BK291 := n2_; have HB := n3_; have BK295 := n4_; have GW295 := n5_; have GE295 := n6_; have NB290_295 := n7_; have NB295_290 := n8_; have NB291_295 := n9_; have NB295_291 := n10_; clear n0_ n1_ n2_ n3_ n4_ n5_ n6_ n7_ n8_ n9_ n10_; clear hb hbox hg; have hnb11 := NB295_290.out; have hnc11 := NB290_295.out; have hnb12 := NB295_291.out; have hnc12 := NB291_295.out; have hcz13_0 : w10.cell? ⟨gb295, 0, none⟩ = some (.int .i64 0) := (zb BK295.out 0).trans rfl; have hcz13_1 : w10.cell? ⟨gb295, 1, none⟩ = some (.int .i64 0) := (zb BK295.out 1).trans rfl; have hcz13_2 : w10.cell? ⟨gb295, 2, none⟩ = some (.int .i64 0) := (zb BK295.out 2).trans rfl; have hcz13_3 : w10.cell? ⟨gb295, 3, none⟩ = some (.slice none 0 0) := (zb BK295.out 3).trans rfl; have hfz13_0 := za BK295.out 0; have hfz13_1 := za BK295.out 1; have hfz13_2 := za BK295.out 2; have hfz13_3 := za BK295.out 3))
 go_loopg [7] k (fun kq v7 w' => ∃ (x7_1 : Int) (x296003_1 : List Int) (u296003 : Value), v7 = .int .i64 x7_1 ∧ Aside0 (zK.l0 kq t292 x7_1 a0_0 a0_1 a0_2 l0_3 a0_0 a0_1 (t292.length : Int) x296003_1 = some (r1, r2, r3, r4)) ∧ Aside0 (kq ≤ k) ∧ Aside0 (Kd.R (Kd.int .i64) 3 w' w.heap.size (fun k_ => some k_ ≠ (u296003 : Value).ownBlock) (.slice Ao9 t292.length co9) t292) ∧ Aside0 (Kd.R (Kd.int .i64) 3 w' w.heap.size (fun k_ => some k_ ≠ ((.slice Ao9 t292.length co9) : Value).ownBlock) u296003 x296003_1) ∧ Aside0 (w'.heap[gb290]? = some (.cells #[.int .i64 a0_0, .int .i64 a0_1, .int .i64 a0_2, (.slice A0_3 l0_3.length c0_3)] 27 (0, 0))) ∧ Aside0 (w'.heap[gb291]? = some (.cells #[.int .i64 0, .int .i64 0, .int .i64 0, (.slice none 0 0)] 27 (0, 0))) ∧ Aside0 (w'.heap[gb295]? = some (.cells #[.int .i64 a0_0, .int .i64 a0_1, .int .i64 (t292.length : Int), u296003] 27 (0, 0))) ∧ Aside0 (Below w.heap.size w w'))
 case atStart => exact ⟨(0), (([] : List Int)), (.slice none 0 0), (sqD), H', ⟨Nat.le_refl _⟩, ⟨by refine sqR ?_; exact Kd.zo (Kd.zj (p := ⟨gb295, 3, none⟩) (Kd.zj (p := ⟨gb295, 2, none⟩) (Kd.zj (p := ⟨gb295, 1, none⟩) (Kd.zj (p := ⟨gb295, 0, none⟩) (Kd.zF HO294.out BK295.out (by decide)) (fun _ hk => hk.2) (.int .i64 a0_0)) (fun _ hk => hk.2) (.int .i64 a0_1)) (fun _ hk => hk.2) (.int .i64 (t292.length : Int))) (fun _ hk => hk.2) (.slice none 0 0)) (fun _ hk => (by simp [Value.ownBlock]))⟩, ⟨sqN⟩, ⟨by refine sqK ?_; refine zi ?_ NB290_295.out _; refine sqK ?_; refine zi ?_ NB290_295.out _; refine sqK ?_; refine zi ?_ NB290_295.out _; refine sqK ?_; refine zi ?_ NB290_295.out _; refine sqK ?_; exact BK290.out⟩, ⟨by refine sqK ?_; refine zi ?_ NB291_295.out _; refine sqK ?_; refine zi ?_ NB291_295.out _; refine sqK ?_; refine zi ?_ NB291_295.out _; refine sqK ?_; refine zi ?_ NB291_295.out _; refine sqK ?_; exact BK291.out⟩, ⟨by refine sqK ?_; refine zy (cs := #[.int .i64 a0_0, .int .i64 a0_1, .int .i64 (t292.length : Int), .slice none 0 0]) ?_ 3 _ rfl; refine sqK ?_; refine zy (cs := #[.int .i64 a0_0, .int .i64 a0_1, .int .i64 0, .slice none 0 0]) ?_ 2 _ rfl; refine sqK ?_; refine zy (cs := #[.int .i64 a0_0, .int .i64 0, .int .i64 0, .slice none 0 0]) ?_ 1 _ rfl; refine sqK ?_; refine zy (cs := #[.int .i64 0, .int .i64 0, .int .i64 0, .slice none 0 0]) ?_ 0 _ rfl; refine sqK ?_; exact BK295.out⟩, ⟨sqB⟩⟩
 case round =>
  clear H'
  try clear c1
  try clear p2
  try clear c5
  try clear c7
  try clear c11
  try clear c12
  try clear hcz13_0
  try clear hcz13_1
  try clear hcz13_2
  try clear hcz13_3
  try clear hcz8_0
  try clear hcz8_1
  try clear hcz8_2
  try clear hcz8_3
  try clear hfz13_0
  try clear hfz13_1
  try clear hfz13_2
  try clear hfz13_3
  try clear hfz8_0
  try clear hfz8_1
  try clear hfz8_2
  try clear hfz8_3
  obtain ⟨x7_1, x296003_1, u296003, rfl, HA, HK1, HO_5, HO_296003, BK290, BK291, BK295, HB⟩ := hrel
  cases gk with
  | zero => exact absurd HA.out (by simp [zK.l0])
  | succ k1 =>
   have H := HA.out
   clear HA
   simp only [zK.l0] at H
   by_cases c14 : x7_1 < a0_1
   ·rw [if_pos c14] at H
    have c14b0 : decide (x7_1 < a0_1) = true := decide_eq_true c14
    clear c14
    have H' := Aside0.mk H
    clear H
    have hnb15 := NB290_291.out
    have hnc15 := NB291_290.out
    have hnb16 := NB290_295.out
    have hnc16 := NB295_290.out
    have hcz17_0 : wr.cell? ⟨gb290, 0, none⟩ = some (.int .i64 a0_0) := (zb BK290.out 0).trans rfl
    have hcz17_1 : wr.cell? ⟨gb290, 1, none⟩ = some (.int .i64 a0_1) := (zb BK290.out 1).trans rfl
    have hcz17_2 : wr.cell? ⟨gb290, 2, none⟩ = some (.int .i64 a0_2) := (zb BK290.out 2).trans rfl
    have hcz17_3 : wr.cell? ⟨gb290, 3, none⟩ = some (.slice A0_3 l0_3.length c0_3) := (zb BK290.out 3).trans rfl
    have hfz17_0 := za BK290.out 0; have hfz17_1 := za BK290.out 1; have hfz17_2 := za BK290.out 2; have hfz17_3 := za BK290.out 3
    go_wp2
    go_loopg [27] k1 (fun kq v27 w' => ∃ (x27_2 : Int) (x296003_2 : List Int) (u296003 : Value), v27 = .int .i64 x27_2 ∧ Aside0 (zK.l1 kq t292 x7_1 t292 (t292.length : Int) x27_2 a0_0 a0_1 a0_2 l0_3 a0_0 a0_1 (t292.length : Int) x296003_2 = some (r1, r2, r3, r4)) ∧ Aside0 (kq ≤ k1) ∧ Aside0 (Kd.R (Kd.int .i64) 3 w' w.heap.size (fun k_ => some k_ ≠ (u296003 : Value).ownBlock) (.slice Ao9 t292.length co9) t292) ∧ Aside0 (Kd.R (Kd.int .i64) 3 w' w.heap.size (fun k_ => some k_ ≠ (u296003 : Value).ownBlock) (.slice Ao9 t292.length co9) t292) ∧ Aside0 (Kd.R (Kd.int .i64) 3 w' w.heap.size (fun k_ => some k_ ≠ ((.slice Ao9 t292.length co9) : Value).ownBlock ∧ some k_ ≠ ((.slice Ao9 t292.length co9) : Value).ownBlock) u296003 x296003_2) ∧ Aside0 (w'.heap[gb290]? = some (.cells #[.int .i64 a0_0, .int .i64 a0_1, .int .i64 a0_2, (.slice A0_3 l0_3.length c0_3)] 27 (0, 0))) ∧ Aside0 (w'.heap[gb291]? = some (.cells #[.int .i64 0, .int .i64 0, .int .i64 0, (.slice none 0 0)] 27 (0, 0))) ∧ Aside0 (w'.heap[gb295]? = some (.cells #[.int .i64 a0_0, .int .i64 a0_1, .int .i64 (t292.length : Int), u296003] 27 (0, 0))) ∧ Aside0 (Below w.heap.size w w'))
    case atStart => exact ⟨(0), (x296003_1), (u296003), (sqD), H', ⟨Nat.le_refl _⟩, ⟨sqR HO_5.out⟩, ⟨sqR HO_5.out⟩, ⟨by refine sqR ?_; exact Kd.zo HO_296003.out (fun _ hk => by first | exact ⟨hk, hk⟩ | (refine ⟨?_, ?_⟩ <;> intro e_ <;> simp only [e_, ne_eq, not_true_eq_false, and_false, false_and] at hk))⟩, ⟨sqK BK290.out⟩, ⟨sqK BK291.out⟩, ⟨sqK BK295.out⟩, ⟨sqB⟩⟩
    case round =>
     clear H'
     try clear c1
     try clear p2
     try clear c5
     try clear c7
     try clear c11
     try clear c12
     try clear c14
     try clear c14b0
     try clear c15
     try clear c16
     try clear hcz13_0
     try clear hcz13_1
     try clear hcz13_2
     try clear hcz13_3
     try clear hcz17_0
     try clear hcz17_1
     try clear hcz17_2
     try clear hcz17_3
     try clear hcz8_0
     try clear hcz8_1
     try clear hcz8_2
     try clear hcz8_3
     try clear hfz13_0
     try clear hfz13_1
     try clear hfz13_2
     try clear hfz13_3
     try clear hfz17_0
     try clear hfz17_1
     try clear hfz17_2
     try clear hfz17_3
     try clear hfz8_0
     try clear hfz8_1
     try clear hfz8_2
     try clear hfz8_3
     try clear p2
     obtain ⟨x27_2, x296003_2, u296003, rfl, HA, HK2, HO_5, HO_25, HO_296003, BK290, BK291, BK295, HB⟩ := hrel
     cases gk with
     | zero => exact absurd HA.out (by simp [zK.l1])
     | succ k2 =>
      have H := HA.out
      clear HA
      simp only [zK.l1] at H
      by_cases c18 : x27_2 < (t292.length : Int)
      ·rw [if_pos c18] at H
       have c18b0 : decide (x27_2 < (t292.length : Int)) = true := decide_eq_true c18
       clear c18
       by_cases c19 : 0 ≤ x27_2
       ·rw [if_pos c19] at H
        have c19b0 : decide (0 ≤ x27_2) = true := decide_eq_true c19
        clear c19
        by_cases c20 : x27_2 < (t292.length : Int)
        ·rw [if_pos c20] at H
         have c20b0 : decide (x27_2 < (t292.length : Int)) = true := decide_eq_true c20
         clear c20
         replace H := Option.bind_eq_some_iff.mp H
         obtain ⟨t297, A210, H⟩ := H
         replace H : (if x296003_2.length < 17592186044416 then (zK.l1 k2 t292 x7_1 t292 (t292.length : Int) (wrap64 (x27_2 + 1)) a0_0 a0_1 a0_2 l0_3 a0_0 a0_1 (t292.length : Int) (x296003_2 ++ [t297])) else (none)) = some (r1, r2, r3, r4) := H
         have A21 := Aside0.mk A210
         clear A210
         by_cases c22 : x296003_2.length < 17592186044416
         ·rw [if_pos c22] at H
          have LMc22 := Aside0.mk c22
          clear c22
          obtain ⟨y298, hy298⟩ : ∃ y_ : List Int, y_ = (x296003_2 ++ [t297]) := ⟨_, rfl⟩
          replace H : (zK.l1 k2 t292 x7_1 t292 (t292.length : Int) (wrap64 (x27_2 + 1)) a0_0 a0_1 a0_2 l0_3 a0_0 a0_1 (t292.length : Int) y298) = some (r1, r2, r3, r4) := by first | (rw [hy298]; with_reducible exact H) | (have H2_ := (Option.bind_some _ _).symm.trans H; rw [hy298]; with_reducible exact H2_) | (have H2_ := (Option.bind_some _ _).symm.trans H; with_reducible exact H2_) | with_reducible exact H | (rw [hy298]; exact H) | exact H
          have Ny298 := Aside0.mk hy298
          clear hy298
          have H' := Aside0.mk H
          clear H
          have p296 : 0 ≤ (x27_2 : Int) := of_decide_eq_true sqA
          have q296 : x27_2 < (t292.length : Int) := of_decide_eq_true sqA
          obtain ⟨ad296, e296, hx296_0⟩ := Kd.qh (Kd.zu HO_25.out).2.2 x27_2 p296 q296
          cases e296
          replace p296 := eq_true p296
          replace q296 := eq_true q296
          try go_wp2
          have n0_ := Aside0.mk (Kd.qM HO_5.out)
          have n1_ := Aside0.mk (Kd.qM HO_25.out)
          have n2_ := Aside0.mk (Kd.qM HO_296003.out)
          have n3_ := Aside0.mk (qd BK290.out)
          have n4_ := Aside0.mk (qd BK291.out)
          have n5_ := Aside0.mk (qd BK295.out)
          have n6_ := Aside0.mk (zT HB.out)
          clear HO_5 HO_25 HO_296003 BK290 BK291 BK295 HB; have HO_5 := n0_; have HO_25 := n1_; have HO_296003 := n2_; have BK290 := n3_; have BK291 := n4_; have BK295 := n5_; have HB := n6_; clear n0_ n1_ n2_ n3_ n4_ n5_ n6_
          refine jU (n := 10) (S := fun w' => w'.cell? ⟨gb295, 0, none⟩ = some (.int .i64 a0_0) ∧ w'.cell? ⟨gb295, 1, none⟩ = some (.int .i64 a0_1) ∧ w'.cell? ⟨gb295, 2, none⟩ = some (.int .i64 (t292.length : Int)) ∧ w'.cell? ⟨gb295, 3, none⟩ = some (u296003) ∧ w'.cell? ⟨gb290, 0, none⟩ = some (.int .i64 a0_0) ∧ w'.cell? ⟨gb290, 1, none⟩ = some (.int .i64 a0_1) ∧ w'.cell? ⟨gb290, 2, none⟩ = some (.int .i64 a0_2) ∧ w'.cell? ⟨gb290, 3, none⟩ = some (.slice A0_3 l0_3.length c0_3)) (ds := [9]) #[false, false, false, false, false, false, false, false, false, false] (by kernel_rfl) rfl rfl ⟨(zb BK295.out 0).trans rfl, (zb BK295.out 1).trans rfl, (zb BK295.out 2).trans rfl, (zb BK295.out 3).trans rfl, (zb BK290.out 0).trans rfl, (zb BK290.out 1).trans rfl, (zb BK290.out 2).trans rfl, (zb BK290.out 3).trans rfl⟩ (fun hHeld => ?_); refine qZ zK.tab9 zK.zas (fun HT_ HW_ => ?_)
          generalize wr.drew = w23 at HO_5 HO_25 HO_296003 BK290 BK291 BK295 HB hHeld ⊢
          refine zx (i := 0) (N := some 31) (v := ?_) (a' := ?_) #[true, false, false, false, false, false, false, false, false, false] rfl rfl (zn HT_.out (by kernel_rfl)) (fun _ _ _ h => h) (Or.inl ⟨by rfl, ?_⟩) ?_ ?_
          rotate_left
          ·intro w'; go_simp; with_reducible rfl
          rotate_left
          ·simp only [Act.put, List.setIfInBounds_toArray, List.set_cons_zero, List.set_cons_succ, zf, zh]; rfl
          refine zx (i := 3) (N := some 34) (v := ?_) (a' := ?_) #[true, false, false, true, false, false, false, false, false, false] rfl rfl (zn HT_.out (by kernel_rfl)) (fun _ _ _ h => h) (Or.inl ⟨by rfl, ?_⟩) ?_ ?_
          rotate_left
          ·intro w'; go_simp; with_reducible rfl
          rotate_left
          ·simp only [Act.put, List.setIfInBounds_toArray, List.set_cons_zero, List.set_cons_succ, zf, zh]; rfl
          refine zx (i := 4) (N := some 35) (v := ?_) (a' := ?_) #[true, false, false, true, true, false, false, false, false, false] rfl rfl (zn HT_.out (by kernel_rfl)) (fun _ _ _ h => h) (Or.inl ⟨by rfl, ?_⟩) ?_ ?_
          rotate_left
          ·intro w'; go_simp; with_reducible rfl
          rotate_left
          ·simp only [Act.put, List.setIfInBounds_toArray, List.set_cons_zero, List.set_cons_succ, zf, zh]; rfl
          refine qe (i := 1) (N := some 32) (v := ?_) (a' := ?_) #[true, true, false, true, true, false, false, false, false, false] rfl rfl (zM HT_.out HW_.out (by kernel_rfl)) (fun _ _ _ h => h) (Or.inl ⟨by rfl, ?_⟩) hHeld ?_ ?_
          rotate_left
          ·rintro w' ⟨s0, s1, s2, s3, s4, s5, s6, s7⟩; go_simp; with_reducible rfl
          rotate_left
          ·simp only [Act.put, List.setIfInBounds_toArray, List.set_cons_zero, List.set_cons_succ, zf, zh]; rfl
          refine qe (i := 2) (N := some 33) (v := ?_) (a' := ?_) #[true, true, true, true, true, false, false, false, false, false] rfl rfl (zM HT_.out HW_.out (by kernel_rfl)) (fun _ _ _ h => h) (Or.inl ⟨by rfl, ?_⟩) hHeld ?_ ?_
          rotate_left
          ·rintro w' ⟨s0, s1, s2, s3, s4, s5, s6, s7⟩; go_simp; with_reducible rfl
          rotate_left
          ·simp only [Act.put, List.setIfInBounds_toArray, List.set_cons_zero, List.set_cons_succ, zf, zh]; rfl
          refine Zq (i := 5) (N := some 36) #[true, true, true, true, true, true, false, false, false, false] rfl rfl (jr HT_.out (by kernel_rfl)) (by decide) (fun K hK => ?_)
          refine yX Try.func40 (by kernel_rfl) rfl #[.agg #[.int .i64 a0_0, .int .i64 a0_1, .int .i64 a0_2, .slice A0_3 l0_3.length c0_3], .int .i64 x7_1, .int .i64 (rd t292 x27_2)] (by rfl) rfl rfl sqM ?_
          with_reducible refine (q6.calls a0_0 a0_1 a0_2 _ _ l0_3 x7_1 (rd t292 x27_2) t297 _ ?side1 ?side2 A21.out).mono ?_
          (case side1 => exact sqC (Kd.z1 HR0_3.out HB.out))
          (case side2 => exact HC0_3.out)
          rintro e w24 ⟨rfl, hb⟩
          refine ⟨_, rfl, ?_⟩
          have n0_ := Aside0.mk (Kd.zG (sqR HO_5.out) hb)
          have n1_ := Aside0.mk (Kd.zG (sqR HO_25.out) hb)
          have n2_ := Aside0.mk (Kd.zG (sqR HO_296003.out) hb)
          have n3_ := Aside0.mk (ze (g := gb290) (o := .cells #[.int .i64 a0_0, .int .i64 a0_1, .int .i64 a0_2, .slice A0_3 l0_3.length c0_3] 27 (0, 0)) (sqK BK290.out) hb)
          have n4_ := Aside0.mk (ze (g := gb291) (o := .cells #[.int .i64 0, .int .i64 0, .int .i64 0, .slice none 0 0] 27 (0, 0)) (sqK BK291.out) hb)
          have n5_ := Aside0.mk (ze (g := gb295) (o := .cells #[.int .i64 a0_0, .int .i64 a0_1, .int .i64 (t292.length : Int), u296003] 27 (0, 0)) (sqK BK295.out) hb)
          have n6_ := Aside0.mk (zg sqB hb)
          clear HO_5 HO_25 HO_296003 BK290 BK291 BK295 HB; have HO_5 := n0_; have HO_25 := n1_; have HO_296003 := n2_; have BK290 := n3_; have BK291 := n4_; have BK295 := n5_; have HB := n6_; clear n0_ n1_ n2_ n3_ n4_ n5_ n6_; (try clear hb); (try clear hb2); (try clear hk); (try clear hi)
          refine hK.out _ _ ⟨(zb BK295.out 0).trans rfl, (zb BK295.out 1).trans rfl, (zb BK295.out 2).trans rfl, (zb BK295.out 3).trans rfl, (zb BK290.out 0).trans rfl, (zb BK290.out 1).trans rfl, (zb BK290.out 2).trans rfl, (zb BK290.out 3).trans rfl⟩ (fun hHeld => ?_)
          clear hK K
          refine yi (a' := ?_) ?_ ?_
          rotate_left
          ·show Act.put _ (some 36) _ = _; simp only [Act.put, List.setIfInBounds_toArray, List.set_cons_zero, List.set_cons_succ, zf, zh]; rfl
          refine Zq (i := 6) (N := some 37) #[true, true, true, true, true, true, true, false, false, false] rfl rfl (jr HT_.out (by kernel_rfl)) (by decide) (fun K hK => ?_)
          refine Y5 (w1 := ?_) (v := ?_) (by rfl) rfl ?_ ?_
          rotate_left 2
          ·go_simp
           constructor
           ·rfl
           ·rfl
          refine hK.out _ _ ⟨(zb (jN BK295.out _) 0).trans rfl, (zb (jN BK295.out _) 1).trans rfl, (zb (jN BK295.out _) 2).trans rfl, (zb (jN BK295.out _) 3).trans rfl, (zb (jN BK290.out _) 0).trans rfl, (zb (jN BK290.out _) 1).trans rfl, (zb (jN BK290.out _) 2).trans rfl, (zb (jN BK290.out _) 3).trans rfl⟩ (fun hHeld => ?_)
          clear hK K
          refine yi (a' := ?_) ?_ ?_
          rotate_left
          ·show Act.put _ (some 37) _ = _; simp only [Act.put, List.setIfInBounds_toArray, List.set_cons_zero, List.set_cons_succ, zf, zh]; rfl
          refine Zq (i := 7) (N := some 38) #[true, true, true, true, true, true, true, true, false, false] rfl rfl (jr HT_.out (by kernel_rfl)) (by decide) (fun K hK => ?_)
          refine Kd.Qe (Kd.int .i64) (w0 := w) w.heap.size (by rfl) (.tmp 32) (.tmp 37) 22 3 (.int .i64 0) 8 rfl Try.underlying22 vt rfl (by decide) (by omega) u296003 x296003_2 t297 [.int .i64 t297] (fun k_ => some k_ ≠ (.slice (some ad296) t292.length co9 : Value).ownBlock ∧ some k_ ≠ (.slice (some ad296) t292.length co9 : Value).ownBlock) (fun _ => False) rfl rfl ?aP (fun _ hk => hk.elim) ?aF ?aO ?aB ?aS ?aL ?_
          (case aP => exact rfl)
          (case aB => exact sqB)
          (case aF => exact (fun k_ hk => ⟨Kd.vE (Kd.jg (sqR HO_5.out)) k_ hk, Kd.vE (Kd.jg (sqR HO_25.out)) k_ hk⟩))
          (case aO => exact (sqR HO_296003.out))
          (case aS => exact (zJ sqB))
          (case aL => have := LMc22.out; omega)
          intro v299 w25 ho hb hg hat
          rw [← Ny298.out] at ho
          have n0_ := Aside0.mk (Kd.qY (ok := (fun _ => True)) (by refine sqR ?_; exact Kd.zo HO_5.out (fun _ hk => ⟨trivial, by first | exact hk | exact fun h_ => hk (h_.trans ((fun (A : Option Addr) (x y c : Nat) => (by cases A <;> rfl : (Value.slice A x c).ownBlock = (Value.slice A y c).ownBlock)) _ _ _ _))⟩)) hg hat)
          have n1_ := Aside0.mk (Kd.qY (ok := (fun _ => True)) (by refine sqR ?_; exact Kd.zo HO_25.out (fun _ hk => ⟨trivial, by first | exact hk | exact fun h_ => hk (h_.trans ((fun (A : Option Addr) (x y c : Nat) => (by cases A <;> rfl : (Value.slice A x c).ownBlock = (Value.slice A y c).ownBlock)) _ _ _ _))⟩)) hg hat)
          have n2_ := Aside0.mk (zX (g := gb290) (o := .cells #[.int .i64 a0_0, .int .i64 a0_1, .int .i64 a0_2, .slice A0_3 l0_3.length c0_3] 27 (0, 0)) (sqK BK290.out) hg (Kd.qH HO_296003.out BK290.out (by decide)))
          have n3_ := Aside0.mk (zX (g := gb291) (o := .cells #[.int .i64 0, .int .i64 0, .int .i64 0, .slice none 0 0] 27 (0, 0)) (sqK BK291.out) hg (Kd.qH HO_296003.out BK291.out (by decide)))
          have n4_ := Aside0.mk (zX (g := gb295) (o := .cells #[.int .i64 a0_0, .int .i64 a0_1, .int .i64 (t292.length : Int), u296003] 27 (0, 0)) (sqK BK295.out) hg (Kd.qH HO_296003.out BK295.out (by decide)))
          have n5_ := Aside0.mk (hb)
          have n6_ := Aside0.mk (ho)
          clear HO_5 HO_25 BK290 BK291 BK295 HB HO_296003; have HO_5 := n0_; have HO_25 := n1_; have BK290 := n2_; have BK291 := n3_; have BK295 := n4_; have HB := n5_; have HO300 := n6_; clear n0_ n1_ n2_ n3_ n4_ n5_ n6_ ho hb hg hat
          obtain ⟨Ao26, co26, eo26⟩ := Kd.zU HO300.out
          (first | subst eo26 | (injection eo26 with f1_ f2_ f3_; have f4_ := f1_.symm; have f5_ := f3_.symm; clear f1_ f2_ f3_; subst f4_; subst f5_))
          refine hK.out _ _ ⟨(zb BK295.out 0).trans rfl, (zb BK295.out 1).trans rfl, (zb BK295.out 2).trans rfl, (zb BK295.out 3).trans rfl, (zb BK290.out 0).trans rfl, (zb BK290.out 1).trans rfl, (zb BK290.out 2).trans rfl, (zb BK290.out 3).trans rfl⟩ (fun hHeld => ?_)
          clear hK K
          refine yi (a' := ?_) ?_ ?_
          rotate_left
          ·show Act.put _ (some 38) _ = _; simp only [Act.put, List.setIfInBounds_toArray, List.set_cons_zero, List.set_cons_succ, zf, zh]; rfl
          refine zx (i := 8) (N := some 39) (v := ?_) (a' := ?_) #[true, true, true, true, true, true, true, true, true, false] rfl rfl (zn HT_.out (by kernel_rfl)) (fun _ _ _ h => h) (Or.inl ⟨by rfl, ?_⟩) ?_ ?_
          rotate_left
          ·intro w'; go_simp; with_reducible rfl
          rotate_left
          ·simp only [Act.put, List.setIfInBounds_toArray, List.set_cons_zero, List.set_cons_succ, zf, zh]; rfl
          refine ym (i := 9) (N := none) #[true, true, true, true, true, true, true, true, true, true] rfl rfl (jr HT_.out (by kernel_rfl)) (by decide) (fun K hK => ?_)
          have hs27 : w25.cell? ⟨gb295, 3, none⟩ = some (u296003) := (zb BK295.out 3).trans rfl
          have hfs27 := za BK295.out 3
          have hns27_0 := NB290_295.out
          have hns27_1 := NB291_295.out
          have hms27_0 := NB295_290.out
          have hms27_1 := NB295_291.out
          refine yj (w1 := ?_) (by rfl) rfl ?_ ?_
          rotate_left
          ·go_simp
           rfl
          refine hK.out _ _ ?_
          clear hK K
          refine vI (jO HT_.out (by kernel_rfl)) ?_
          try go_wp2
          go_roundg k2
          case measure => have := HK1.out; have := HK2.out; omega
          case rel => exact ⟨(wrap64 (x27_2 + 1)), (y298), (.slice Ao26 y298.length co26), (sqD), H', ⟨by have := HK1.out; have := HK2.out; omega⟩, ⟨by refine sqR ?_; exact Kd.zo (Kd.zj (p := ⟨gb295, 3, none⟩) (Kd.zF HO_5.out BK295.out (by decide)) (fun _ hk => hk.2) (.slice Ao26 y298.length co26)) (fun _ hk => hk.1.2)⟩, ⟨by refine sqR ?_; exact Kd.zo (Kd.zj (p := ⟨gb295, 3, none⟩) (Kd.zF HO_25.out BK295.out (by decide)) (fun _ hk => hk.2) (.slice Ao26 y298.length co26)) (fun _ hk => hk.1.2)⟩, ⟨by refine sqR ?_; exact Kd.zo (Kd.zj (p := ⟨gb295, 3, none⟩) (Kd.zF HO300.out BK295.out (by decide)) (fun _ hk => hk.2) (.slice Ao26 y298.length co26)) (fun _ hk => by first | exact ⟨hk.1.1, hk.1.2⟩ | (refine ⟨?_, ?_⟩ <;> intro e_ <;> simp only [e_, ne_eq, not_true_eq_false, and_false, false_and] at hk))⟩, ⟨by refine sqK ?_; refine zi ?_ NB290_295.out _; refine sqK ?_; exact BK290.out⟩, ⟨by refine sqK ?_; refine zi ?_ NB291_295.out _; refine sqK ?_; exact BK291.out⟩, ⟨by refine sqK ?_; refine zy (cs := #[.int .i64 a0_0, .int .i64 a0_1, .int .i64 (t292.length : Int), u296003]) ?_ 3 _ rfl; refine sqK ?_; exact BK295.out⟩, ⟨sqB⟩⟩
         ·rw [if_neg c22] at H
          exact absurd H (by simp)
        ·rw [if_neg c20] at H
         exact absurd H (by simp)
       ·rw [if_neg c19] at H
        exact absurd H (by simp)
      ·rw [if_neg c18] at H
       have c18b0 : decide (x27_2 < (t292.length : Int)) = false := decide_eq_false c18
       clear c18
       have H' := Aside0.mk H
       clear H
       go_wp2
       go_roundg k2
       case measure => have := HK1.out; have := HK2.out; omega
       case rel => exact ⟨(wrap64 (x7_1 + 1)), (x296003_2), (u296003), (sqD), H', ⟨by have := HK1.out; have := HK2.out; omega⟩, ⟨sqR HO_5.out⟩, ⟨by refine sqR ?_; exact Kd.zo HO_296003.out (fun _ hk => hk.1)⟩, ⟨sqK BK290.out⟩, ⟨sqK BK291.out⟩, ⟨sqK BK295.out⟩, ⟨sqB⟩⟩
   ·rw [if_neg c14] at H
    have c14b0 : decide (x7_1 < a0_1) = false := decide_eq_false c14
    clear c14
    simp only [Option.some.injEq, Prod.mk.injEq] at H
    obtain ⟨rfl, rfl, rfl, rfl⟩ := H
    have hnb28 := NB290_291.out
    have hnc28 := NB291_290.out
    have hnb29 := NB290_295.out
    have hnc29 := NB295_290.out
    have hcz30_0 : wr.cell? ⟨gb290, 0, none⟩ = some (.int .i64 a0_0) := (zb BK290.out 0).trans rfl
    have hcz30_1 : wr.cell? ⟨gb290, 1, none⟩ = some (.int .i64 a0_1) := (zb BK290.out 1).trans rfl
    have hcz30_2 : wr.cell? ⟨gb290, 2, none⟩ = some (.int .i64 a0_2) := (zb BK290.out 2).trans rfl
    have hcz30_3 : wr.cell? ⟨gb290, 3, none⟩ = some (.slice A0_3 l0_3.length c0_3) := (zb BK290.out 3).trans rfl
    have hfz30_0 := za BK290.out 0; have hfz30_1 := za BK290.out 1; have hfz30_2 := za BK290.out 2; have hfz30_3 := za BK290.out 3
    have hnb31 := NB295_291.out
    have hnc31 := NB291_295.out
    have hcz32_0 : wr.cell? ⟨gb295, 0, none⟩ = some (.int .i64 a0_0) := (zb BK295.out 0).trans rfl
    have hcz32_1 : wr.cell? ⟨gb295, 1, none⟩ = some (.int .i64 a0_1) := (zb BK295.out 1).trans rfl
    have hcz32_2 : wr.cell? ⟨gb295, 2, none⟩ = some (.int .i64 (t292.length : Int)) := (zb BK295.out 2).trans rfl
    have hcz32_3 : wr.cell? ⟨gb295, 3, none⟩ = some (u296003) := (zb BK295.out 3).trans rfl
    have hfz32_0 := za BK295.out 0; have hfz32_1 := za BK295.out 1; have hfz32_2 := za BK295.out 2; have hfz32_3 := za BK295.out 3
    have hcz33_0 : wr.cell? ⟨gb291, 0, none⟩ = some (.int .i64 0) := (zb BK291.out 0).trans rfl
    have hcz33_1 : wr.cell? ⟨gb291, 1, none⟩ = some (.int .i64 0) := (zb BK291.out 1).trans rfl
    have hcz33_2 : wr.cell? ⟨gb291, 2, none⟩ = some (.int .i64 0) := (zb BK291.out 2).trans rfl
    have hcz33_3 : wr.cell? ⟨gb291, 3, none⟩ = some (.slice none 0 0) := (zb BK291.out 3).trans rfl
    have hfz33_0 := za BK291.out 0; have hfz33_1 := za BK291.out 1; have hfz33_2 := za BK291.out 2; have hfz33_3 := za BK291.out 3
    obtain ⟨Ao34, co34, eo34⟩ := Kd.zU HO_296003.out
    subst eo34
    go_wp2
    refine bodyPost_ret (results_cell_row rfl _ _ gb291 27 #[.int .i64 a0_0, .int .i64 a0_1, .int .i64 (t292.length : Int), .slice Ao34 x296003_1.length co34] (0, 0) _ rfl (by refine sqK ?_; refine zy (cs := #[.int .i64 a0_0, .int .i64 a0_1, .int .i64 (t292.length : Int), .slice none 0 0]) ?_ 3 _ rfl; refine sqK ?_; refine zy (cs := #[.int .i64 a0_0, .int .i64 a0_1, .int .i64 0, .slice none 0 0]) ?_ 2 _ rfl; refine sqK ?_; refine zy (cs := #[.int .i64 a0_0, .int .i64 0, .int .i64 0, .slice none 0 0]) ?_ 1 _ rfl; refine sqK ?_; refine zy (cs := #[.int .i64 0, .int .i64 0, .int .i64 0, .slice none 0 0]) ?_ 0 _ rfl; refine sqK ?_; exact BK291.out) Try.underlying27 rfl (by kernel_rfl)) rfl ?_
    exact ⟨_, sqE, by refine sqR ?_; exact Kd.zo (Kd.zj (p := ⟨gb291, 3, none⟩) (Kd.zj (p := ⟨gb291, 2, none⟩) (Kd.zj (p := ⟨gb291, 1, none⟩) (Kd.zj (p := ⟨gb291, 0, none⟩) (Kd.zF HO_296003.out BK291.out (by decide)) (fun _ hk => hk.2) (.int .i64 a0_0)) (fun _ hk => hk.2) (.int .i64 a0_1)) (fun _ hk => hk.2) (.int .i64 (t292.length : Int))) (fun _ hk => hk.2) (.slice Ao34 x296003_1.length co34)) (fun _ hk => trivial), sqB⟩

end Go.Proofs.Ytopkfhnnapncgaa.F
end
section
namespace Go.Proofs.Ytopkfhnnapncgaa.L
open Go.RowKit Go.Proofs.Ytopkfhnnapncgaa.F Go.Proofs.YtopkfhnnapncgaaW.PrintWords Go.Proofs.YtopkfhnnapncgaaW.PrintLast Go.Proofs.YtopkfhnnapncgaaW.PrintMore
open Go.Proofs.Ytopkfhnnapncgaa.Bits
open Go.Proofs.Ytopkfhnnapncgaa.Mt (sdiff qR elems Qs)

def ints (l : List Nat) : List Int := l.map fun x : Nat => (x : Int)
theorem JD (l : List Nat) (j : Nat) (h : j < l.length) : rd (ints l) (j : Int) = ((l[j]'h : Nat) : Int) := by
  simp [rd, ints, List.getElem?_eq_getElem h]
theorem l1In (x a b : Int) : zL.f x a b = some (decide (a ≤ x ∧ x ≤ b)) := by
  unfold zL.f
  split <;> simp <;> omega

theorem Vt (n : Int) : z7.f n = some (decide (0 ≤ n ∧ n ≤ 8)) := by
  unfold z7.f
  split <;> simp <;> omega
end Go.Proofs.Ytopkfhnnapncgaa.L
end
section
namespace Go.Proofs.Ytopkfhnnapncgaa.L
open Go.RowKit Go.Proofs.Ytopkfhnnapncgaa.F Go.Proofs.YtopkfhnnapncgaaW.PrintWords Go.Proofs.YtopkfhnnapncgaaW.PrintLast Go.Proofs.YtopkfhnnapncgaaW.PrintMore
open Go.Proofs.Ytopkfhnnapncgaa.Bits
set_option linter.unusedSimpArgs false
def isField (p : Int) : Bool := decide (p = 2 ∨ p = 3 ∨ p = 5 ∨ p = 7)
theorem Ve (p : Int) : qx.f p = some (isField p) := by
  unfold qx.f isField
  by_cases h2 : p = 2
  · simp [h2]
  by_cases h3 : p = 3
  · simp [h3]
  by_cases h5 : p = 5
  · simp [h5]
  rw [if_neg h2, if_neg h3, if_neg h5]
  simp only [h2, h3, h5, false_or]
  rfl
theorem J5 (p : Int) : zW.f p = some (isField p) := by
  unfold zW.f isField
  by_cases h2 : p = 2
  · simp [h2]
  by_cases h3 : p = 3
  · simp [h3]
  by_cases h5 : p = 5
  · simp [h5]
  rw [if_neg h2, if_neg h3, if_neg h5]
  simp only [h2, h3, h5, false_or]
  rfl
/-- What a matrix is. -/
def jd (p r c : Int) (l : List Int) : Bool :=
  isField p && decide (0 ≤ r ∧ r ≤ 8 ∧ 0 ≤ c ∧ c ≤ 8 ∧ (l.length : Int) = r * c) && l.all fun x => decide (0 ≤ x ∧ x < p)
theorem ju {p r c : Int} {l : List Int} (h : ¬ (isField p = true ∧ 0 ≤ r ∧ r ≤ 8 ∧ 0 ≤ c ∧ c ≤ 8 ∧ (l.length : Int) = r * c)) : jd p r c l = false := by
  unfold jd
  cases hp : isField p
  · simp
  · have : ¬ (0 ≤ r ∧ r ≤ 8 ∧ 0 ≤ c ∧ c ≤ 8 ∧ (l.length : Int) = r * c) := fun hh => h ⟨hp, hh⟩
    simp only [this, decide_false, Bool.and_false, Bool.false_and]
theorem Zp {r c : Int} (hr : 0 ≤ r ∧ r ≤ 8) (hc : 0 ≤ c ∧ c ≤ 8) : 0 ≤ r * c ∧ r * c ≤ 64 :=
  ⟨Int.mul_nonneg hr.1 hc.1, by have := Int.mul_le_mul hr.2 hc.2 hc.1 (by omega : (0 : Int) ≤ 8); omega⟩
theorem Zd {p r c : Int} {l : List Int} (h : isField p = true ∧ 0 ≤ r ∧ r ≤ 8 ∧ 0 ≤ c ∧ c ≤ 8 ∧ (l.length : Int) = r * c) : jd p r c l = l.all fun x => decide (0 ≤ x ∧ x < p) := by
  unfold jd; simp only [h.1, h.2, and_self, decide_true, Bool.and_self, Bool.true_and]
theorem jv {p : Int} (h : isField p = true) : 2 ≤ p ∧ p ≤ 7 := by
  have : p = 2 ∨ p = 3 ∨ p = 5 ∨ p = 7 := of_decide_eq_true h
  omega
theorem ZR (p r c : Int) (l : List Int) : Ev (fun k => zq.f k p r c l) (jd p r c l) := by
  have no : ∀ p r c l, Ev (fun k => zq.j0 k true p r c l) false := fun p r c l => Ev.succ (by simp only [zq.j0, if_true]; exact Ev.now _)
  unfold zq.f
  simp only [l1In, J5, Option.bind_some, decide_eq_true_eq]
  by_cases hp : isField p = true
  · simp only [hp, if_true]
    by_cases hr : 0 ≤ r ∧ r ≤ 8
    · simp only [hr, and_self, if_true]
      by_cases hc : 0 ≤ c ∧ c ≤ 8
      · simp only [hc, and_self, if_true]
        have hm := Zp hr hc
        have hw : wrap64 (r * c) = r * c := jh (by omega) (by omega)
        rw [hw]
        by_cases he : (l.length : Int) = r * c
        · rw [show ((l.length : Int) != r * c) = false by simp [he], Zd ⟨hp, hr.1, hr.2, hc.1, hc.2, he⟩]
          have hp2 := jv hp
          refine Ev.succ ?_
          simp only [zq.j0, Bool.false_eq_true, if_false]
          rw [← yF l 0]
          refine Zl (fun k i => zq.l0 k i p r c l) _ _ (fun k => by simp only [zq.l0, show ¬ ((l.length : Int) < (l.length : Int)) by omega, if_false]) ?_
          intro i hi k
          have hw : wrap64 (p - 1) = p - 1 := jh (by omega) (by omega)
          simp only [zq.l0, show ((i : Int) < (l.length : Int)) by omega, show (0 : Int) ≤ (i : Int) by omega, if_true, qL, zY (show i < 9223372036854775807 by omega), l1In, hw, Option.bind_some, decide_eq_true_eq]
          generalize l.getD i 0 = x
          by_cases h1 : 0 ≤ x ∧ x ≤ p - 1
          · rw [if_pos h1, if_pos (by omega)]
          · rw [if_neg h1, if_neg (by omega)]
        · rw [show ((l.length : Int) != r * c) = true by simp [he], ju (fun hh => he hh.2.2.2.2.2)]; exact no _ _ _ _
      · simp only [hc, if_false]; rw [ju (fun hh => hc ⟨hh.2.2.2.1, hh.2.2.2.2.1⟩)]; exact no _ _ _ _
    · simp only [hr, if_false]; rw [ju (fun hh => hr ⟨hh.2.1, hh.2.2.1⟩)]; exact no _ _ _ _
  · simp only [hp, if_false]; rw [ju (fun hh => hp hh.1)]; exact no _ _ _ _
theorem Jo (p r c : Int) (l : List Int) : Ev (fun k => zv.f k p r c l) (jd p r c l) := by
  have no : ∀ p r c l, Ev (fun k => zv.j0 k true p r c l) false := fun p r c l => Ev.succ (by simp only [zv.j0, if_true]; exact Ev.now _)
  unfold zv.f
  simp only [Vt, Ve, Option.bind_some, decide_eq_true_eq]
  by_cases hp : isField p = true
  · simp only [hp, if_true]
    by_cases hr : 0 ≤ r ∧ r ≤ 8
    · simp only [hr, and_self, if_true]
      by_cases hc : 0 ≤ c ∧ c ≤ 8
      · simp only [hc, and_self, if_true]
        have hm := Zp hr hc
        have hw : wrap64 (r * c) = r * c := jh (by omega) (by omega)
        rw [hw]
        by_cases he : (l.length : Int) = r * c
        · rw [show ((l.length : Int) != r * c) = false by simp [he], Zd ⟨hp, hr.1, hr.2, hc.1, hc.2, he⟩]
          refine Ev.succ ?_
          simp only [zv.j0, Bool.false_eq_true, if_false]
          rw [← yF l 0]
          refine Zl (fun k i => zv.l0 k l (l.length : Int) i p r c l) _ _ (fun k => by simp only [zv.l0, show ¬ ((l.length : Int) < (l.length : Int)) by omega, if_false]) ?_
          intro i hi k
          simp only [zv.l0, show ((i : Int) < (l.length : Int)) by omega, show (0 : Int) ≤ (i : Int) by omega, if_true, qL, zY (show i < 9223372036854775807 by omega), decide_eq_true_eq]
          generalize l.getD i 0 = x
          by_cases h1 : x < 0
          · rw [if_pos h1, if_neg (by omega)]
          rw [if_neg h1]
          by_cases h2 : x ≥ p
          · rw [if_pos h2, if_neg (by omega)]
          rw [if_neg h2, if_pos (by omega)]
        · rw [show ((l.length : Int) != r * c) = true by simp [he], ju (fun hh => he hh.2.2.2.2.2)]; exact no _ _ _ _
      · simp only [hc, if_false]; rw [ju (fun hh => hc ⟨hh.2.2.2.1, hh.2.2.2.2.1⟩)]; exact no _ _ _ _
    · simp only [hr, if_false]; rw [ju (fun hh => hr ⟨hh.2.1, hh.2.2.1⟩)]; exact no _ _ _ _
  · simp only [hp, if_false]; rw [ju (fun hh => hp hh.1)]; exact no _ _ _ _
theorem y0 (p r c : Int) (l : List Int) (h : l.length ≤ 17592186044416) : Ev (fun k => zE.f k p r c l) (p, r, c, l) := by
  unfold zE.f
  exact Ev.bind (YR l h) (Ev.now _)
theorem y4 (p r c : Int) (l : List Int) (p' r' c' : Int) (l' : List Int) (h : l.length ≤ 17592186044416) : Ev (fun k => zB.f k p r c l p' r' c' l') (decide ((p, r, c, l) = (p', r', c', l'))) := by
  unfold zB.f
  by_cases h1 : p = p'
  · by_cases h2 : r = r'
    · by_cases h3 : c = c'
      · simp only [h1, h2, h3, if_true]
        refine Ev.bind (YZ l l' h) ?_
        by_cases h4 : l = l'
        · simp only [h4, decide_true, if_true]; exact Ev.now _
        · simp only [h4, decide_false, Bool.false_eq_true, if_false]; simp only [Prod.mk.injEq, h4, and_false, decide_false]; exact Ev.now _
      · simp only [h1, h2, h3, if_true, if_false, Prod.mk.injEq, and_false, false_and, decide_false]; exact Ev.now _
    · simp only [h1, h2, if_true, if_false, Prod.mk.injEq, and_false, false_and, decide_false]; exact Ev.now _
  · simp only [h1, if_false, Prod.mk.injEq, false_and, decide_false]; exact Ev.now _
theorem VZ (p r c : Int) (l : List Int) (n : Int) (h : l.length ≤ 17592186044416) (h0 : 0 ≤ n) (h1 : n ≤ 1048576) : ∃ m, qD.f p r c l n = some m ∧ (m < 0 ∨ (0 ≤ m ∧ m ≤ 1048576 ∧ l.length ≤ 1048576)) := by
  unfold qD.f
  rw [YY l n h h0 h1]
  simp only [Option.bind_some]
  by_cases hn : n < (l.length : Int)
  · rw [if_pos hn, if_pos (by decide)]
    exact ⟨_, rfl, .inl (by decide)⟩
  · rw [if_neg hn, if_neg (by omega)]
    exact ⟨_, rfl, .inr (by omega)⟩
end Go.Proofs.Ytopkfhnnapncgaa.L
end
section
namespace Go.Proofs.Ytopkfhnnapncgaa.L
open Go.RowKit Go.Proofs.Ytopkfhnnapncgaa.F Go.Proofs.YtopkfhnnapncgaaW.PrintWords Go.Proofs.YtopkfhnnapncgaaW.PrintLast Go.Proofs.YtopkfhnnapncgaaW.PrintMore
open Go.Proofs.Ytopkfhnnapncgaa.Bits
set_option linter.unusedSimpArgs false
set_option linter.unusedVariables false
/-- What a matrix holds, in natural numbers' places. -/
theorem vw {p r c : Int} {l : List Int} (h : jd p r c l = true) : ∃ R C : Nat, r = R ∧ c = C ∧ R ≤ 8 ∧ C ≤ 8 ∧ l.length = R * C ∧ 2 ≤ p ∧ p ≤ 7 ∧ isField p = true ∧ ∀ x ∈ l, 0 ≤ x ∧ x < p := by
  unfold jd at h
  simp only [Bool.and_eq_true, decide_eq_true_eq] at h
  obtain ⟨⟨h1, h2, h3, h4, h5, h6⟩, h7⟩ := h
  obtain ⟨R, rfl⟩ := Int.eq_ofNat_of_zero_le h2
  obtain ⟨C, rfl⟩ := Int.eq_ofNat_of_zero_le h4
  have := jv h1
  refine ⟨R, C, rfl, rfl, by omega, by omega, ?_, this.1, this.2, h1, fun x hx => ?_⟩
  · have : ((l.length : Nat) : Int) = ((R * C : Nat) : Int) := by rw [h6]; simp
    omega
  · have := List.all_eq_true.1 h7 x hx; simpa using this
/-- The index of a cell, as1 the program computes it. -/
theorem qT {i C j : Nat} (hi : i ≤ 8) (hC : C ≤ 8) (hj : j ≤ 8) : wrap64 ((wrap64 ((i : Int) * (C : Int))) + (j : Int)) = ((i * C + j : Nat) : Int) := by
  have h : i * C ≤ 8 * 8 := Nat.mul_le_mul hi hC
  have e : (i : Int) * (C : Int) = ((i * C : Nat) : Int) := by simp
  rw [e, jh (n := ((i * C : Nat) : Int)) (by omega) (by omega), jh (by omega) (by omega)]; omega
theorem QP {l : List Int} {p : Int} (hp : 2 ≤ p) (h : ∀ x ∈ l, 0 ≤ x ∧ x < p) (i : Nat) : 0 ≤ l.getD i 0 ∧ l.getD i 0 < p := by
  by_cases hi : i < l.length
  · have := h l[i] (List.getElem_mem hi); simpa [List.getElem?_eq_getElem hi] using this
  · simp [List.getElem?_eq_none (Nat.le_of_not_lt hi)]; omega
end Go.Proofs.Ytopkfhnnapncgaa.L
end
section
namespace Go.Proofs.Ytopkfhnnapncgaa.L
open Go.RowKit Go.Proofs.Ytopkfhnnapncgaa.F Go.Proofs.YtopkfhnnapncgaaW.PrintWords Go.Proofs.YtopkfhnnapncgaaW.PrintLast Go.Proofs.YtopkfhnnapncgaaW.PrintMore
open Go.Proofs.Ytopkfhnnapncgaa.Bits
set_option linter.unusedSimpArgs false
set_option linter.unusedVariables false
theorem JZ : ∀ k : Nat, (zA.f (k + 20) 2 1 = some 1 ∧ zz.f (k + 20) 2 1 = some 1) ∧
    (zA.f (k + 20) 3 1 = some 1 ∧ zz.f (k + 20) 3 1 = some 1) ∧ (zA.f (k + 20) 3 2 = some 2 ∧ zz.f (k + 20) 3 2 = some 2) ∧
    (zA.f (k + 20) 5 1 = some 1 ∧ zz.f (k + 20) 5 1 = some 1) ∧ (zA.f (k + 20) 5 2 = some 3 ∧ zz.f (k + 20) 5 2 = some 3) ∧ (zA.f (k + 20) 5 3 = some 2 ∧ zz.f (k + 20) 5 3 = some 2) ∧ (zA.f (k + 20) 5 4 = some 4 ∧ zz.f (k + 20) 5 4 = some 4) ∧
    (zA.f (k + 20) 7 1 = some 1 ∧ zz.f (k + 20) 7 1 = some 1) ∧ (zA.f (k + 20) 7 2 = some 4 ∧ zz.f (k + 20) 7 2 = some 4) ∧ (zA.f (k + 20) 7 3 = some 5 ∧ zz.f (k + 20) 7 3 = some 5) ∧ (zA.f (k + 20) 7 4 = some 2 ∧ zz.f (k + 20) 7 4 = some 2) ∧ (zA.f (k + 20) 7 5 = some 3 ∧ zz.f (k + 20) 7 5 = some 3) ∧ (zA.f (k + 20) 7 6 = some 6 ∧ zz.f (k + 20) 7 6 = some 6) :=
  fun k => ⟨⟨by kernel_rfl, by kernel_rfl⟩, ⟨by kernel_rfl, by kernel_rfl⟩, ⟨by kernel_rfl, by kernel_rfl⟩, ⟨by kernel_rfl, by kernel_rfl⟩, ⟨by kernel_rfl, by kernel_rfl⟩, ⟨by kernel_rfl, by kernel_rfl⟩, ⟨by kernel_rfl, by kernel_rfl⟩, ⟨by kernel_rfl, by kernel_rfl⟩, ⟨by kernel_rfl, by kernel_rfl⟩, ⟨by kernel_rfl, by kernel_rfl⟩, ⟨by kernel_rfl, by kernel_rfl⟩, ⟨by kernel_rfl, by kernel_rfl⟩, ⟨by kernel_rfl, by kernel_rfl⟩⟩
theorem Jd {p a : Int} (hp : isField p = true) (ha : 1 ≤ a) (hap : a < p) : ∀ k, zA.f (k + 20) p a = some (jC p a) ∧ zz.f (k + 20) p a = some (jC p a) := fun k => by
  obtain ⟨h1, h2, h3, h4, h5, h6, h7, h8, h9, h10, h11, h12, h13⟩ := JZ k
  have hp : p = 2 ∨ p = 3 ∨ p = 5 ∨ p = 7 := by simpa [isField] using hp
  rcases hp with rfl | rfl | rfl | rfl
  · obtain rfl : a = 1 := by omega
    exact h1
  · rcases (show a = 1 ∨ a = 2 by omega) with rfl | rfl <;> assumption
  · rcases (show a = 1 ∨ a = 2 ∨ a = 3 ∨ a = 4 by omega) with rfl | rfl | rfl | rfl <;> assumption
  · rcases (show a = 1 ∨ a = 2 ∨ a = 3 ∨ a = 4 ∨ a = 5 ∨ a = 6 by omega) with rfl | rfl | rfl | rfl | rfl | rfl <;> assumption
theorem zag {p a : Int} (hp : isField p = true) (ha : 1 ≤ a) (hap : a < p) : Ev (fun k => zA.f k p a) (jC p a) :=
  ⟨20, fun k hk => by obtain ⟨m, rfl⟩ := Nat.exists_eq_add_of_le hk; rw [Nat.add_comm]; exact (Jd hp ha hap m).1⟩
theorem zad {p a : Int} (hp : isField p = true) (ha : 1 ≤ a) (hap : a < p) : Ev (fun k => zz.f k p a) (jC p a) :=
  ⟨20, fun k hk => by obtain ⟨m, rfl⟩ := Nat.exists_eq_add_of_le hk; rw [Nat.add_comm]; exact (Jd hp ha hap m).2⟩
theorem Zu {x y : Int} (hx : 0 ≤ x ∧ x ≤ 7) (hy : 0 ≤ y ∧ y ≤ 7) : 0 ≤ x * y ∧ x * y ≤ 64 := Zp ⟨hx.1, by omega⟩ ⟨hy.1, by omega⟩
theorem wrap_mul {x y : Int} (hx : 0 ≤ x ∧ x ≤ 7) (hy : 0 ≤ y ∧ y ≤ 7) : wrap64 (x * y) = x * y := jh (by have := Zu hx hy; omega) (by have := Zu hx hy; omega)
theorem Zt {p g : Int} (hp : 2 ≤ p ∧ p ≤ 7) (hg : 0 ≤ g ∧ g < p) : wrap64 (p - g) = p - g := jh (by omega) (by omega)
theorem Qq {x p g y : Int} (hp : 2 ≤ p ∧ p ≤ 7) (hx : 0 ≤ x ∧ x < p) (hg : 0 ≤ g ∧ g < p) (hy : 0 ≤ y ∧ y < p) : wrap64 (x + wrap64 (wrap64 (p - g) * y)) = x + (p - g) * y := by
  rw [Zt hp hg, wrap_mul ⟨by omega, by omega⟩ ⟨hy.1, by omega⟩]
  have := Zu (x := p - g) (y := y) ⟨by omega, by omega⟩ ⟨hy.1, by omega⟩
  exact jh (by omega) (by omega)
theorem Vz (M : Tab) (a b j : Nat) : upd (upd M a j (M b j)) b j (M a j) = je (jc a b) M j := by
  funext i c
  unfold upd je jc
  by_cases h1 : c = j
  · subst h1
    by_cases h2 : i = b
    · subst h2; simp
    · by_cases h3 : i = a
      · subst h3; simp [h2]
      · simp [h2, h3]
  · simp [h1]
theorem Qp (M : Tab) (p : Int) (r j : Nat) (x : Int) : upd M r j (Int.tmod (M r j * x) p) = je (jT p r x) M j := by
  funext i c
  unfold upd je jT
  by_cases h1 : c = j
  · subst h1
    by_cases h2 : i = r
    · subst h2; simp
    · simp [h2]
  · simp [h1]
theorem Je (M : Tab) (p : Int) (r i0 j : Nat) (g : Int) : upd M i0 j (Int.tmod (M i0 j + (p - g) * M r j) p) = je (Ze p r i0 g) M j := by
  funext i c
  unfold upd je Ze
  by_cases h1 : c = j
  · subst h1
    by_cases h2 : i = i0
    · subst h2; simp
    · simp [h2]
  · simp [h1]
/-- What a fold by columns leaves alone is in the field still. -/
theorem yc {p : Int} {R C : Nat} {F : (Nat → Int) → Nat → Int} (hF : ∀ M : Tab, InF p R C M → InF p R C (qj F M)) {M : Tab} (h : InF p R C M) {j : Nat} (hj : j < C) : InF p R C (je F M j) := fun i c hi hc => by
  unfold je
  split
  · exact hF M h i j hi hj
  · exact h i c hi hc
section
variable {p : Int} {R C : Nat} (hR : R ≤ 8) (hC : C ≤ 8) (hf : isField p = true)
include hR hC
theorem Y7 {a b : Nat} (ha : a < R) (hb : b < R) (M : Tab) : Ev (fun k => zR.f k p R C (zZ M R C) a b) (zZ (qj (jc a b) M) R C) := by
  unfold zR.f
  have key := vk (fun k (M : Tab) j => zR.l0 k a b j p R C (zZ M R C)) C (fun M j => je (jc a b) M j) (fun _ _ => True) (fun M => zZ M R C)
    (fun M _ => by simp only [zR.l0, show ¬ ((C : Int) < (C : Int)) by omega, if_false]; exact Ev.now _)
    (fun j M hj _ => ⟨trivial, fun r hr => by
      have h1 := jP ha hj
      have h2 := jP hb hj
      simp only [zR.l0, show ((j : Int) < (C : Int)) by omega, if_true, qT (show a ≤ 8 by omega) hC (show j ≤ 8 by omega), qT (show b ≤ 8 by omega) hC (show j ≤ 8 by omega), qn, Int.toNat_natCast, qL, qK M ha hj, qK M hb hj,
        show (0 : Int) ≤ ((a * C + j : Nat) : Int) by omega, show ((a * C + j : Nat) : Int) < ((R * C : Nat) : Int) by omega, show (0 : Int) ≤ ((b * C + j : Nat) : Int) by omega, show ((b * C + j : Nat) : Int) < ((R * C : Nat) : Int) by omega, zY (show j < 9223372036854775807 by omega), yg _ ha hj, yg _ hb hj, Vz]
      exact hr⟩) M trivial
  rw [yd] at key
  exact key
include hf
theorem Yn {t col : Nat} (ht : t < R) (hc : col < C) {M : Tab} (hM : InF p R C M) (hx : M t col ≠ 0) : Ev (fun k => zl.f k p R C (zZ M R C) t col) (zZ (jJ p R t col M) R C) := by
  have hp := jv hf
  have h1 := jP ht hc
  have hv := hM t col ht hc
  unfold zl.f
  simp only [qT (show t ≤ 8 by omega) hC (show col ≤ 8 by omega), qn, show (0 : Int) ≤ ((t * C + col : Nat) : Int) by omega, show ((t * C + col : Nat) : Int) < ((R * C : Nat) : Int) by omega, if_true, qL, qK M ht hc]
  refine Ev.bind (zag hf (show 1 ≤ M t col by omega) hv.2) ?_
  have hi0 := vK p (M t col)
  have hi1 := JX hp.1 (M t col)
  have l1 := q8 (fun k (M' : Tab) j => zl.l0 k t col (jC p (M t col)) j p R C (zZ M' R C)) C (fun M' j => je (jT p t (jC p (M t col))) M' j) (fun _ M' => InF p R C M')
    (fun j M' hj hM' => ⟨yc (fun N hN => hN.scale hp.1 ht hi0) hM' hj, fun r hr => by
      have h2 := jP ht hj
      have hb := hM' t j ht hj
      simp only [zl.l0, show ((j : Int) < (C : Int)) by omega, if_true, qT (show t ≤ 8 by omega) hC (show j ≤ 8 by omega), qn, Int.toNat_natCast, qL, qK M' ht hj,
        show (0 : Int) ≤ ((t * C + j : Nat) : Int) by omega, show ((t * C + j : Nat) : Int) < ((R * C : Nat) : Int) by omega, zY (show j < 9223372036854775807 by omega), show ¬ p = 0 by omega, if_false,
        wrap_mul (x := M' t j) (y := jC p (M t col)) ⟨by omega, by omega⟩ ⟨by omega, by omega⟩, yg _ ht hj, Qp]
      exact hr⟩) M hM
  refine l1.2 _ (Ev.succ ?_)
  simp only [zl.l0, show ¬ ((C : Int) < (C : Int)) by omega, if_false]
  rw [yd]
  have hM1 : InF p R C (qj (jT p t (jC p (M t col))) M) := hM.scale hp.1 ht hi0
  show Ev _ (zZ (vN p t col R (qj (jT p t (jC p (M t col))) M)) R C)
  generalize qj (jT p t (jC p (M t col))) M = M1 at hM1
  refine vk (fun k (M' : Tab) i => zl.l1 k t col i p R C (zZ M' R C)) R (qQ p t col) (fun _ M' => InF p R C M') (fun M' => zZ M' R C)
    (fun M' _ => by simp only [zl.l1, show ¬ ((R : Int) < (R : Int)) by omega, if_false]; exact Ev.now _)
    (fun i M' hi hM' => ⟨hM'.qQ hp.1 ht hc hi, fun r hr => by
      have h2 := jP hi hc
      have hg := hM' i col hi hc
      simp only [zl.l1, show ((i : Int) < (R : Int)) by omega, if_true, qT (show i ≤ 8 by omega) hC (show col ≤ 8 by omega), qn, qL, qK M' hi hc, show (0 : Int) ≤ ((i * C + col : Nat) : Int) by omega, show ((i * C + col : Nat) : Int) < ((R * C : Nat) : Int) by omega]
      by_cases hit : i = t
      · subst hit
        rw [qQ, if_pos rfl] at hr
        refine Ev.succ ?_
        simp only [zl.l2, show ((0 : Int) < (C : Int)) by omega, if_true, zY (show i < 9223372036854775807 by omega)]
        exact hr
      · rw [qQ, if_neg hit] at hr
        generalize M' i col = g at hr hg
        have l2 := q8 (fun k (N : Tab) j => zl.l2 k t col i g j p R C (zZ N R C)) C (fun N j => je (Ze p t i g) N j) (fun _ N => InF p R C N)
          (fun j N hj hN => ⟨yc (fun N hN => hN.elim hp.1 ht hi hg) hN hj, fun r hr => by
            have h3 := jP hi hj
            have h4 := jP ht hj
            simp only [zl.l2, show ((j : Int) < (C : Int)) by omega, if_true, show ¬ ((i : Int) = (t : Int)) by omega, if_false, qT (show i ≤ 8 by omega) hC (show j ≤ 8 by omega), qT (show t ≤ 8 by omega) hC (show j ≤ 8 by omega), qn, Int.toNat_natCast, qL, qK N hi hj, qK N ht hj,
              show (0 : Int) ≤ ((i * C + j : Nat) : Int) by omega, show ((i * C + j : Nat) : Int) < ((R * C : Nat) : Int) by omega, show (0 : Int) ≤ ((t * C + j : Nat) : Int) by omega, show ((t * C + j : Nat) : Int) < ((R * C : Nat) : Int) by omega, zY (show j < 9223372036854775807 by omega), show ¬ p = 0 by omega,
              Qq (x := N i j) (g := g) (y := N t j) hp (hN i j hi hj) hg (hN t j ht hj), yg _ hi hj, Je]
            exact hr⟩) M' hM'
        refine l2.2 _ (Ev.succ ?_)
        simp only [zl.l2, show ¬ ((C : Int) < (C : Int)) by omega, if_false, zY (show i < 9223372036854775807 by omega)]
        rw [yd]
        exact hr⟩) M1 hM1
end
end Go.Proofs.Ytopkfhnnapncgaa.L
end
section
namespace Go.Proofs.Ytopkfhnnapncgaa.L
open Go.RowKit Go.Proofs.Ytopkfhnnapncgaa.F Go.Proofs.YtopkfhnnapncgaaW.PrintWords Go.Proofs.YtopkfhnnapncgaaW.PrintLast Go.Proofs.YtopkfhnnapncgaaW.PrintMore
open Go.Proofs.Ytopkfhnnapncgaa.Bits
set_option linter.unusedSimpArgs false
set_option linter.unusedVariables false
section
variable {p : Int} {R C : Nat} (hR : R ≤ 8) (hC : C ≤ 8) (hf : isField p = true)
include hR hC
theorem VC {t j : Nat} (hj : j < C) (M : Tab) (l : List Int) (r : Int × Int × Int × List Int) (h : Ev (fun k => zk.j3 k t j (qq M R t j : Nat) p R C l p R C (zZ M R C)) r) :
    ∀ d a, a + d = R → qq M R a j = qq M R t j → Ev (fun k => zk.l1 k t j (a : Nat) p R C l p R C (zZ M R C)) r
  | 0, a, ha, he => by
    obtain rfl : a = R := by omega
    rw [vL] at he
    rw [← he] at h
    refine Ev.succ ?_
    simp only [zk.l1, show ¬ ((a : Int) < (a : Int)) by omega, if_false]
    exact h
  | d + 1, a, ha, he => by
    have hlt : a < R := by omega
    have h1 := jP hlt hj
    rw [yP hlt] at he
    refine Ev.succ ?_
    simp only [zk.l1, show ((a : Int) < (R : Int)) by omega, if_true, qT (show a ≤ 8 by omega) hC (show j ≤ 8 by omega), qn, qL, qK M hlt hj, show (0 : Int) ≤ ((a * C + j : Nat) : Int) by omega, show ((a * C + j : Nat) : Int) < ((R * C : Nat) : Int) by omega, zY (show a < 9223372036854775807 by omega)]
    by_cases c : M a j = 0
    · rw [if_pos c] at he
      simp only [c, if_true]
      exact VC hj M l r h d (a + 1) (by omega) he
    · rw [if_neg c] at he
      simp only [c, if_false]
      rw [← he] at h
      exact h
include hf
theorem zam (l : List Int) : ∀ d j (s : Red), j + d = C → Z3 p R C s →
    Ev (fun k => zk.l0 k (s.t : Nat) (j : Nat) p R C l p R C (zZ s.M R C)) (p, (((List.range' j d).foldl (qw p R) s).t : Int), (C : Int), zZ ((List.range' j d).foldl (qw p R) s).M ((List.range' j d).foldl (qw p R) s).t C) := by
  have hp := jv hf
  have fin : ∀ (s : Red), Z3 p R C s → ∀ j : Int, Ev (fun k => zk.j1 k (s.t : Nat) j false p R C l p R C (zZ s.M R C)) (p, (s.t : Int), (C : Int), zZ s.M s.t C) := fun s hs j => by
    have ht := hs.t_le
    have hm := Zp (r := (s.t : Int)) (c := (C : Int)) ⟨by omega, by omega⟩ ⟨by omega, by omega⟩
    have hw : wrap64 ((s.t : Int) * (C : Int)) = ((s.t * C : Nat) : Int) := by rw [jh (by omega) (by omega)]; simp
    have hle : s.t * C ≤ R * C := Nat.mul_le_mul_right _ ht
    have hRC : R * C ≤ 64 := Nat.le_trans (Nat.mul_le_mul hR hC) (by decide)
    refine Ev.succ ?_
    simp only [zk.j1, Bool.false_eq_true, if_false, Option.bind_some, hw, show (0 : Int) ≤ ((s.t * C : Nat) : Int) by omega, if_true, qn, show ((s.t * C : Nat) : Int) ≤ ((R * C : Nat) : Int) by omega, Int.toNat_natCast, Qi s.M ht, List.length_nil, show 0 + s.t * C < 17592186044416 by omega, List.nil_append]
    exact Ev.now _
  intro d
  induction d with
  | zero =>
    intro j s hj hs
    obtain rfl : j = C := by omega
    refine Ev.succ ?_
    simp only [zk.l0, show ¬ ((j : Int) < (j : Int)) by omega, if_false]
    exact fin s hs _
  | succ d ih =>
    intro j s hj hs
    have hjC : j < C := by omega
    refine Ev.succ ?_
    simp only [zk.l0, show ((j : Int) < (C : Int)) by omega, if_true]
    by_cases ht : s.t = R
    · rw [Za _ ht]
      simp only [show decide ((s.t : Int) < (R : Int)) = false from decide_eq_false (by omega)]
      exact fin s hs _
    · have htR : s.t < R := by have := hs.t_le; omega
      simp only [show decide ((s.t : Int) < (R : Int)) = true from decide_eq_true (by omega)]
      refine Ev.succ ?_
      simp only [zk.j1, if_true]
      have ho := hs.step hp.1 hjC
      have hrec := ih (j + 1) (qw p R s j) (by omega) ho
      rw [List.range'_succ, List.foldl_cons]
      refine VC hR hC hjC s.M l _ ?_ (R - s.t) s.t (by omega) rfl
      refine Ev.succ ?_
      obtain ⟨f1, f2, f3, f4⟩ := j5 s.M R j (R - s.t) s.t (by omega)
      by_cases c : qq s.M R s.t j = R
      · have he : qw p R s j = s := by unfold qw; rw [if_neg (by omega)]
        rw [he] at hrec ⊢
        simp only [zk.j3, c, if_true, zY (show j < 9223372036854775807 by omega)]
        exact hrec
      · have hlt : qq s.M R s.t j < R := by omega
        have he : qw p R s j = ⟨s.t + 1, jJ p R s.t j (qj (jc s.t (qq s.M R s.t j)) s.M), s.ps ++ [(j : Int)]⟩ := by unfold qw; rw [if_pos hlt]
        rw [he] at hrec ⊢
        simp only [zk.j3, show ¬ (((qq s.M R s.t j : Nat) : Int) = (R : Int)) by omega, if_false, zY (show j < 9223372036854775807 by omega), zY (show s.t < 9223372036854775807 by omega)]
        refine Ev.bind (Y7 hR hC htR hlt s.M) ?_
        have hsw := hs.inF.swap (M := s.M) htR hlt
        refine Ev.bind (Yn hR hC hf htR hjC hsw ?_) hrec
        unfold qj jc
        by_cases c2 : s.t = qq s.M R s.t j
        · rw [if_pos c2]; rw [← c2] at f3; exact f3 htR
        · rw [if_neg c2, if_pos rfl]; exact f3 hlt
end
/-- What the reduced matrix is. -/
def jj (p r c : Int) (l : List Int) : Red := yl p r.toNat c.toNat (jy l c.toNat)
def QV (p r c : Int) (l : List Int) : Int × Int × Int × List Int :=
  if jd p r c l = true then (p, ((jj p r c l).t : Int), c, zZ (jj p r c l).M (jj p r c l).t c.toNat) else (0, 0, 0, [])
theorem Qh {p : Int} {R C : Nat} {l : List Int} (hl : l.length = R * C) (hp : 2 ≤ p) (hx : ∀ x ∈ l, 0 ≤ x ∧ x < p) : Z3 p R C ⟨0, jy l C, []⟩ :=
  ⟨Nat.zero_le _, fun i j _ _ => QP hp hx _, rfl⟩
theorem Z0 (p r c : Int) (l : List Int) : Ev (fun k => zk.f k p r c l) (QV p r c l) := by
  unfold zk.f QV
  refine Ev.bind (ZR p r c l) ?_
  cases h : jd p r c l
  · simp only [Bool.false_eq_true, if_false]; exact Ev.now _
  obtain ⟨R, C, rfl, rfl, hR, hC, hl, h2, h7, hf, hx⟩ := vw h
  have hRC : R * C ≤ 64 := Nat.le_trans (Nat.mul_le_mul hR hC) (by decide)
  simp only [if_true, qm.f, Option.bind_some, List.length_nil, show 0 + l.length < 17592186044416 by omega, List.nil_append]
  have key := zam hR hC hf l C 0 ⟨0, jy l C, []⟩ (by omega) (Qh hl h2 hx)
  rw [Qk hl, ← List.range_eq_range'] at key
  unfold jj
  rw [Int.toNat_natCast, Int.toNat_natCast]
  exact key
end Go.Proofs.Ytopkfhnnapncgaa.L
end
section
namespace Go.Proofs.Ytopkfhnnapncgaa.L
open Go.RowKit Go.Proofs.Ytopkfhnnapncgaa.F Go.Proofs.YtopkfhnnapncgaaW.PrintWords Go.Proofs.YtopkfhnnapncgaaW.PrintLast Go.Proofs.YtopkfhnnapncgaaW.PrintMore
open Go.Proofs.Ytopkfhnnapncgaa.Bits
set_option linter.unusedSimpArgs false
set_option linter.unusedVariables false
theorem yO (M : Tab) {R C i : Nat} (hi : i < R) : zN (qf M R C) (i : Int) = qS M C i := by
  unfold zN; rw [Int.toNat_natCast]; exact yn M hi
theorem Jv (M : Tab) {R C a b : Nat} (ha : a < R) (hb : b < R) : Q7 (qf M R C) (a : Int) (b : Int) = some (qf (qj (jc a b) M) R C) := by
  unfold Q7
  rw [if_pos ⟨by omega, by rw [qA]; omega, by omega, by rw [qA]; omega⟩]
  simp only [Int.toNat_natCast, yn M ha, yn M hb, J2 M ha hb]
section
variable {p : Int} {R C : Nat} (hR : R ≤ 8) (hC : C ≤ 8) (hf : isField p = true)
include hR
theorem VH {t j : Nat} (ps : List Int) (hj : j < C) (M : Tab) (l : List Int) (r : Int × Int × Int × List Int × List Int) (h : Ev (fun k => zd.j3 k (qf M R C) ps j t (qq M R t j : Nat) p R C l) r) :
    ∀ d a, a + d = R → qq M R a j = qq M R t j → Ev (fun k => zd.l2 k (qf M R C) ps j t (a : Nat) p R C l) r
  | 0, a, ha, he => by
    obtain rfl : a = R := by omega
    rw [vL] at he
    rw [← he] at h
    refine Ev.succ ?_
    simp only [zd.l2, qA, show ¬ ((a : Int) < (a : Int)) by omega, if_false]
    exact h
  | d + 1, a, ha, he => by
    have hlt : a < R := by omega
    rw [yP hlt] at he
    refine Ev.succ ?_
    simp only [zd.l2, qA, show ((a : Int) < (R : Int)) by omega, if_true, show (0 : Int) ≤ (a : Int) by omega, show (0 : Int) ≤ (j : Int) by omega, yO M hlt, jb, show ((j : Int) < (C : Int)) by omega, qL, vH M hj, zY (show a < 9223372036854775807 by omega)]
    by_cases c : M a j = 0
    · rw [if_pos c] at he
      simp only [c, if_true]
      exact VH ps hj M l r h d (a + 1) (by omega) he
    · rw [if_neg c] at he
      simp only [c, if_false]
      rw [← he] at h
      exact h
include hC hf
theorem Yk {t col : Nat} (ps : List Int) (hps : ps.length ≤ 8) (ht : t < R) (hc : col < C) {M : Tab} (hM : InF p R C M) (hx : M t col ≠ 0) (l : List Int) (r : Int × Int × Int × List Int × List Int)
    (h : Ev (fun k => zd.l1 k (qf (jJ p R t col M) R C) (ps ++ [(col : Int)]) ((col + 1 : Nat) : Int) p R C l) r) :
    Ev (fun k => zd.l3 k (qf M R C) ps col t (jC p (M t col)) (C : Int) 0 p R C l) r := by
  have hp := jv hf
  have hv := hM t col ht hc
  have hi0 := vK p (M t col)
  have hi1 := JX hp.1 (M t col)
  have l1 := q8 (fun k (M' : Tab) j => zd.l3 k (qf M' R C) ps col t (jC p (M t col)) (C : Int) j p R C l) C (fun M' j => je (jT p t (jC p (M t col))) M' j) (fun _ M' => InF p R C M')
    (fun j M' hj hM' => ⟨yc (fun N hN => hN.scale hp.1 ht hi0) hM' hj, fun r hr => by
      have hb := hM' t j ht hj
      simp only [zd.l3, show ((j : Int) < (C : Int)) by omega, if_true, qA, show (0 : Int) ≤ (t : Int) by omega, show ((t : Int) < (R : Int)) by omega, show (0 : Int) ≤ (j : Int) by omega, yO M' ht, jb, Int.toNat_natCast, qL, vH M' hj,
        zY (show j < 9223372036854775807 by omega), show ¬ p = 0 by omega, if_false,
        wrap_mul (x := M' t j) (y := jC p (M t col)) ⟨by omega, by omega⟩ ⟨by omega, by omega⟩, Z1 _ ht hj, Qp]
      exact hr⟩) M hM
  refine l1.2 _ (Ev.succ ?_)
  simp only [zd.l3, show ¬ ((C : Int) < (C : Int)) by omega, if_false, qA]
  rw [yV]
  have hM1 : InF p R C (qj (jT p t (jC p (M t col))) M) := hM.scale hp.1 ht hi0
  replace h : Ev (fun k => zd.l1 k (qf (vN p t col R (qj (jT p t (jC p (M t col))) M)) R C) (ps ++ [(col : Int)]) ((col + 1 : Nat) : Int) p R C l) r := h
  generalize qj (jT p t (jC p (M t col))) M = M1 at hM1 h ⊢
  have l4 := q8 (fun k (M' : Tab) i => zd.l4 k (qf M' R C) ps col t (R : Int) i p R C l) R (qQ p t col) (fun _ M' => InF p R C M')
    (fun i M' hi hM' => ⟨hM'.qQ hp.1 ht hc hi, fun r hr => by
      have hg := hM' i col hi hc
      simp only [zd.l4, show ((i : Int) < (R : Int)) by omega, if_true, qA, show (0 : Int) ≤ (i : Int) by omega, show (0 : Int) ≤ (col : Int) by omega, yO M' hi, jb, show ((col : Int) < (C : Int)) by omega, qL, vH M' hc]
      by_cases hit : i = t
      · subst hit
        rw [qQ, if_pos rfl] at hr
        refine Ev.succ ?_
        simp only [zd.l5, show ((0 : Int) < (C : Int)) by omega, if_true, zY (show i < 9223372036854775807 by omega)]
        exact hr
      · rw [qQ, if_neg hit] at hr
        generalize M' i col = g at hr hg ⊢
        have l2 := q8 (fun k (N : Tab) j => zd.l5 k (qf N R C) ps col t (i : Int) g j (R : Int) (i : Int) p R C l) C (fun N j => je (Ze p t i g) N j) (fun _ N => InF p R C N)
          (fun j N hj hN => ⟨yc (fun N hN => hN.elim hp.1 ht hi hg) hN hj, fun r hr => by
            simp only [zd.l5, show ((j : Int) < (C : Int)) by omega, if_true, show ¬ ((i : Int) = (t : Int)) by omega, if_false, qA, show (0 : Int) ≤ (i : Int) by omega, show ((i : Int) < (R : Int)) by omega, show (0 : Int) ≤ (j : Int) by omega, yO N hi, yO N ht, jb, show (0 : Int) ≤ (t : Int) by omega, show ((t : Int) < (R : Int)) by omega, Int.toNat_natCast, qL, vH N hj,
              zY (show j < 9223372036854775807 by omega), show ¬ p = 0 by omega,
              Qq (x := N i j) (g := g) (y := N t j) hp (hN i j hi hj) hg (hN t j ht hj), Z1 _ hi hj, Je]
            exact hr⟩) M' hM'
        refine l2.2 _ (Ev.succ ?_)
        simp only [zd.l5, show ¬ ((C : Int) < (C : Int)) by omega, if_false, zY (show i < 9223372036854775807 by omega)]
        rw [yV]
        exact hr⟩) M1 hM1
  refine l4.2 _ (Ev.succ ?_)
  simp only [zd.l4, show ¬ ((R : Int) < (R : Int)) by omega, if_false, show ps.length < 17592186044416 by omega, if_true, zY (show col < 9223372036854775807 by omega)]
  exact h
theorem zaw (l : List Int) : ∀ d j (s : Red), j + d = C → Z3 p R C s →
    Ev (fun k => zd.l1 k (qf s.M R C) s.ps (j : Nat) p R C l) (p, (((List.range' j d).foldl (qw p R) s).t : Int), (C : Int), zZ ((List.range' j d).foldl (qw p R) s).M ((List.range' j d).foldl (qw p R) s).t C, ((List.range' j d).foldl (qw p R) s).ps) := by
  have hp := jv hf
  intro d
  induction d with
  | zero =>
    intro j s hj hs
    obtain rfl : j = C := by omega
    have ht := hs.t_le
    have hlen := hs.len
    have hRC : R * j ≤ 64 := Nat.le_trans (Nat.mul_le_mul hR hC) (by decide)
    refine Ev.succ ?_
    simp only [zd.l1, show ¬ ((j : Int) < (j : Int)) by omega, if_false, hlen, show (0 : Int) ≤ (s.t : Int) by omega, if_true, qA, show ((s.t : Int) ≤ (R : Int)) by omega, Option.bind_some, Int.toNat_natCast, J0 s.M ht]
    refine vk (fun k (x : List Int) i => zd.l6 k s.ps (qf s.M s.t j) (s.t : Int) i p (s.t : Int) (j : Int) x) s.t (fun x i => x ++ qS s.M j i) (fun i x => x = zZ s.M i j) (fun x => (p, (s.t : Int), (j : Int), x, s.ps))
      (fun x hx => by simp only [zd.l6, show ¬ ((s.t : Int) < (s.t : Int)) by omega, if_false]; exact Ev.now _)
      (fun i x hi hx => ⟨by rw [hx]; exact Ql s.M j i, fun r hr => by
        have hle : i * j ≤ R * j := Nat.mul_le_mul_right _ (by omega)
        simp only [zd.l6, show ((i : Int) < (s.t : Int)) by omega, if_true, show (0 : Int) ≤ (i : Int) by omega, qA, yO s.M hi, jb, show x.length + j < 17592186044416 by rw [hx, qn]; omega, zY (show i < 9223372036854775807 by omega)]
        exact hr⟩) [] (by simp [zZ]) |> fun q => ?_
    have hfold : (List.range s.t).foldl (fun x i => x ++ qS s.M j i) [] = zZ s.M s.t j := by
      have : ∀ n, (List.range n).foldl (fun x i => x ++ qS s.M j i) [] = zZ s.M n j := fun n => by
        induction n with
        | zero => simp [zZ]
        | succ n ih => rw [List.range_succ, List.foldl_append, ih]; exact Ql s.M j n
      exact this _
    rw [hfold] at q
    exact q
  | succ d ih =>
    intro j s hj hs
    have hjC : j < C := by omega
    have hlen := hs.len
    have htle := hs.t_le
    refine Ev.succ ?_
    simp only [zd.l1, show ((j : Int) < (C : Int)) by omega, if_true, hlen]
    have ho := hs.step hp.1 hjC
    have hrec := ih (j + 1) (qw p R s j) (by omega) ho
    rw [List.range'_succ, List.foldl_cons]
    obtain ⟨f1, f2, f3, f4⟩ := j5 s.M R j (R - s.t) s.t (by omega)
    refine VH hR s.ps hjC s.M l _ ?_ (R - s.t) s.t (by omega) rfl
    refine Ev.succ ?_
    by_cases c : qq s.M R s.t j = R
    · have he : qw p R s j = s := by unfold qw; rw [if_neg (by omega)]
      rw [he] at hrec ⊢
      simp only [zd.j3, c, qA, show ((R : Int) ≥ (R : Int)) by omega, if_true, zY (show j < 9223372036854775807 by omega)]
      exact hrec
    · have hlt : qq s.M R s.t j < R := by omega
      have htR : s.t < R := by omega
      have he : qw p R s j = ⟨s.t + 1, jJ p R s.t j (qj (jc s.t (qq s.M R s.t j)) s.M), s.ps ++ [(j : Int)]⟩ := by unfold qw; rw [if_pos hlt]
      rw [he] at hrec ⊢
      have hsw := hs.inF.swap (M := s.M) htR hlt
      have hne : (qj (jc s.t (qq s.M R s.t j)) s.M) s.t j ≠ 0 := by
        unfold qj jc
        by_cases c2 : s.t = qq s.M R s.t j
        · rw [if_pos c2]; rw [← c2] at f3; exact f3 htR
        · rw [if_neg c2, if_pos rfl]; exact f3 hlt
      simp only [zd.j3, qA, show ¬ (((qq s.M R s.t j : Nat) : Int) ≥ (R : Int)) by omega, if_false, Jv s.M htR hlt, Option.bind_some, show (0 : Int) ≤ (s.t : Int) by omega, show ((s.t : Int) < (R : Int)) by omega, if_true, show (0 : Int) ≤ (j : Int) by omega, yO _ htR, jb, show ((j : Int) < (C : Int)) by omega, qL, vH _ hjC]
      have hv := hsw s.t j htR hjC
      refine Ev.bind (zad hf (show 1 ≤ (qj (jc s.t (qq s.M R s.t j)) s.M) s.t j by omega) hv.2) ?_
      exact Yk hR hC hf s.ps (by omega) htR hjC hsw hne l _ hrec
end
def JT (p : Int) (R C : Nat) (l : List Int) : Int × Int × Int × List Int × List Int :=
  (p, ((yl p R C (jy l C)).t : Int), (C : Int), zZ (yl p R C (jy l C)).M (yl p R C (jy l C)).t C, (yl p R C (jy l C)).ps)
theorem VK {p : Int} {R C : Nat} (hR : R ≤ 8) (hC : C ≤ 8) (hf : isField p = true) {l : List Int} (hl : l.length = R * C) (hx : ∀ x ∈ l, 0 ≤ x ∧ x < p) : Ev (fun k => zd.f k p R C l) (JT p R C l) := by
  have hp := jv hf
  have hRC : R * C ≤ 64 := Nat.le_trans (Nat.mul_le_mul hR hC) (by decide)
  have key := zaw hR hC hf l C 0 ⟨0, jy l C, []⟩ (by omega) (Qh hl hp.1 hx)
  rw [← List.range_eq_range'] at key
  unfold zd.f
  have l0 := q8 (fun k (x : List (List Int)) i => zd.l0 k x i p R C l) R (fun x i => x ++ [qS (jy l C) C i]) (fun i x => x = qf (jy l C) i C)
    (fun i x hi hxx => ⟨by rw [hxx]; exact J3 _ C i, fun r hr => by
      have hle : (i + 1) * C ≤ R * C := Nat.mul_le_mul_right _ (by omega)
      have hle2 : i * C ≤ (i + 1) * C := Nat.mul_le_mul_right _ (by omega)
      have m1 := Zp (r := (i : Int)) (c := (C : Int)) ⟨by omega, by omega⟩ ⟨by omega, by omega⟩
      have m2 := Zp (r := ((i + 1 : Nat) : Int)) (c := (C : Int)) ⟨by omega, by omega⟩ ⟨by omega, by omega⟩
      have w1 : wrap64 ((i : Int) * (C : Int)) = ((i * C : Nat) : Int) := by rw [jh (by omega) (by omega)]; simp
      have w2 : wrap64 (((i + 1 : Nat) : Int) * (C : Int)) = (((i + 1) * C : Nat) : Int) := by rw [jh (by omega) (by omega), Int.natCast_mul]
      have hrow : (l.take ((i + 1) * C)).drop (i * C) = qS (jy l C) C i := by
        have := Q8 (jy l C) hi (C := C)
        rw [Qk hl] at this; exact this
      have hlen : x.length = i := by rw [hxx, qA]
      simp only [zd.l0, show ((i : Int) < (R : Int)) by omega, if_true, Option.bind_some, zY (show i < 9223372036854775807 by omega), w1, w2, show (0 : Int) ≤ ((i * C : Nat) : Int) by omega, show ((i * C : Nat) : Int) ≤ (((i + 1) * C : Nat) : Int) by omega, show (((i + 1) * C : Nat) : Int) ≤ (l.length : Int) by omega, Int.toNat_natCast, hrow, jb, List.length_nil, show 0 + C < 17592186044416 by omega, hlen, show i < 5864062014805 by omega, List.nil_append]
      exact hr⟩) [] (by simp [qf])
  have hfold := l0.1
  refine l0.2 _ (Ev.succ ?_)
  simp only [zd.l0, show ¬ ((R : Int) < (R : Int)) by omega, if_false]
  rw [hfold]
  exact key
end Go.Proofs.Ytopkfhnnapncgaa.L
end
section
namespace Go.Proofs.Ytopkfhnnapncgaa.Mt
theorem j4 (a b i : Nat) : (a ||| b).testBit i = (a.testBit i || b.testBit i) := Nat.testBit_or a b i
theorem jx (a b i : Nat) : (a &&& b).testBit i = (a.testBit i && b.testBit i) := Nat.testBit_and a b i
theorem QT (e i : Nat) : (2 ^ e).testBit i = decide (e = i) := by
  rw [Nat.testBit_two_pow]
theorem jF (i : Nat) : (0 : Nat).testBit i = false := Nat.zero_testBit i
theorem ext {a b : Nat} (h : ∀ i, a.testBit i = b.testBit i) : a = b := Nat.eq_of_testBit_eq h
/-- s with e; s without e. -/
def ins (s e : Nat) : Nat := s ||| 2 ^ e
def del (s e : Nat) : Nat := sdiff s (2 ^ e)
theorem qp (s e i : Nat) : (ins s e).testBit i = (s.testBit i || decide (e = i)) := by rw [ins, j4, QT]
theorem qO (s e i : Nat) : (del s e).testBit i = (s.testBit i && !decide (e = i)) := by rw [del, qR, QT]
def sub (a b : Nat) : Prop := ∀ i, a.testBit i = true → b.testBit i = true
theorem yW (a : Nat) : sub a a := fun _ h => h
theorem jm {a b c : Nat} (h : sub a b) (k : sub b c) : sub a c := fun i hi => k i (h i hi)
theorem yS {a b : Nat} (h : sub a b) (k : sub b a) : a = b := ext fun i => by
  have h1 := h i; have h2 := k i
  cases ha : a.testBit i <;> cases hb : b.testBit i <;> simp_all
theorem Zy {a b : Nat} : sub a b ↔ a &&& b = a := by
  constructor
  · intro h; apply ext; intro i; rw [jx]; have := h i; cases ha : a.testBit i <;> simp_all
  · intro h i hi; have := congrArg (fun x => Nat.testBit x i) h; simp only [jx, hi, Bool.true_and] at this; exact this
theorem Qa {a b : Nat} : sub a b ↔ sdiff a b = 0 := by
  constructor
  · intro h; apply ext; intro i; rw [qR, jF]; have := h i; cases ha : a.testBit i <;> simp_all
  · intro h i hi
    have := congrArg (fun x => Nat.testBit x i) h
    simp only [qR, hi, jF, Bool.true_and, Bool.not_eq_false'] at this; exact this
theorem yz (s e : Nat) : sub s (ins s e) := fun i hi => by rw [qp, hi, Bool.true_or]
theorem JS (s e : Nat) : (ins s e).testBit e = true := by simp [qp]
theorem yb (s e : Nat) : sub (del s e) s := fun i hi => by rw [qO] at hi; simp at hi; exact hi.1
theorem jw (a b : Nat) : sub (a &&& b) a := fun i hi => by rw [jx] at hi; simp at hi; exact hi.1
theorem vP (a b : Nat) : sub (a &&& b) b := fun i hi => by rw [jx] at hi; simp at hi; exact hi.2
theorem Q6 (a b : Nat) : sub a (a ||| b) := fun i hi => by rw [j4, hi, Bool.true_or]
theorem Ym {a b c : Nat} (h : sub c a) (k : sub c b) : sub c (a &&& b) := fun i hi => by rw [jx, h i hi, k i hi]; rfl
theorem YM {s e : Nat} (h : s.testBit e = true) : ins s e = s := ext fun i => by
  rw [qp]; by_cases he : e = i
  · subst he; simp [h]
  · simp [he]
theorem QI {a b : Nat} (h : ¬ sub a b) : ∃ i, a.testBit i = true ∧ b.testBit i = false := by
  apply Classical.byContradiction
  intro hn; apply h; intro i hi
  cases hb : b.testBit i
  · exact absurd ⟨i, hi, hb⟩ hn
  · rfl
theorem jV {s n i : Nat} (h : s < 2 ^ n) (hi : s.testBit i = true) : i < n := by
  rcases Nat.lt_or_ge i n with h' | h'
  · exact h'
  · rw [Nat.testBit_lt_two_pow (Nat.lt_of_lt_of_le h (Nat.pow_le_pow_right (by decide) h'))] at hi; cases hi
theorem yN {s n : Nat} (h : ∀ i, s.testBit i = true → i < n) : s < 2 ^ n := Nat.lt_pow_two_of_testBit s fun i hi => by
  cases hb : s.testBit i
  · rfl
  · have := h i hb; omega
theorem qJ {a b n : Nat} (h : sub a b) (hb : b < 2 ^ n) : a < 2 ^ n := yN fun i hi => jV hb (h i hi)
/-- All elements below n. -/
def full (n : Nat) : Nat := 2 ^ n - 1
theorem VV (n i : Nat) : (full n).testBit i = decide (i < n) := Nat.testBit_two_pow_sub_one n i
theorem Vl {s n : Nat} (h : s < 2 ^ n) : sub s (full n) := fun i hi => by rw [VV]; exact decide_eq_true (jV h hi)
def cnt (s : Nat) : Nat := (List.range 8).countP s.testBit
theorem yD (p q : Nat → Bool) : ∀ l : List Nat, l.countP (fun i => p i || q i) + l.countP (fun i => p i && q i) = l.countP p + l.countP q
  | [] => rfl
  | a :: l => by
    have := yD p q l
    simp only [List.countP_cons]
    cases p a <;> cases q a <;> simp <;> omega
theorem ZT (a b : Nat) : cnt (a ||| b) + cnt (a &&& b) = cnt a + cnt b := by
  have := yD a.testBit b.testBit (List.range 8)
  simp only [cnt]
  rw [show Nat.testBit (a ||| b) = fun i => a.testBit i || b.testBit i from funext (j4 a b), show Nat.testBit (a &&& b) = fun i => a.testBit i && b.testBit i from funext (jx a b)]
  exact this
theorem vD {a b : Nat} (h : sub a b) : cnt a ≤ cnt b := List.countP_mono_left fun i _ hi => h i hi
theorem VM : cnt 0 = 0 := by decide
theorem Yz (s : Nat) : cnt s ≤ 8 := by have := List.countP_le_length (p := s.testBit) (l := List.range 8); simpa [cnt] using this
theorem yQ {a b : Nat} (h : a &&& b = 0) : cnt (a ||| b) = cnt a + cnt b := by have := ZT a b; rw [h, VM] at this; omega
theorem Ys {e : Nat} (h : e < 8) : cnt (2 ^ e) = 1 := by
  have : ∀ e, e < 8 → cnt (2 ^ e) = 1 := by decide
  exact this e h
theorem Qz (a b : Nat) : cnt (sdiff a b) + cnt (a &&& b) = cnt a := by
  have h : sdiff a b &&& (a &&& b) = 0 := ext fun i => by simp only [jx, qR, jF]; cases a.testBit i <;> cases b.testBit i <;> rfl
  have k : sdiff a b ||| (a &&& b) = a := ext fun i => by simp only [j4, jx, qR]; cases a.testBit i <;> cases b.testBit i <;> rfl
  rw [← yQ h, k]
theorem vX {a b : Nat} (h : sub b a) : cnt (sdiff a b) + cnt b = cnt a := by
  have := Qz a b
  rwa [show a &&& b = b from by rw [Nat.and_comm]; exact Zy.1 h] at this
theorem yv {s e : Nat} (he : e < 8) (h : s.testBit e = false) : cnt (ins s e) = cnt s + 1 := by
  have : s &&& 2 ^ e = 0 := ext fun i => by
    rw [jx, QT, jF]; by_cases hi : e = i
    · subst hi; simp [h]
    · simp [hi]
  rw [ins, yQ this, Ys he]
theorem yt {s e : Nat} (he : e < 8) (h : s.testBit e = true) : cnt (del s e) + 1 = cnt s := by
  have k : ins (del s e) e = s := ext fun i => by
    rw [qp, qO]; by_cases hi : e = i
    · subst hi; simp [h]
    · simp [hi]
  have := yv (s := del s e) he (by simp [qO])
  rw [k] at this; omega
theorem Yc {s e : Nat} (he : e < 8) (h : s.testBit e = true) : 0 < cnt s := by have := yt he h; omega
theorem ZS {s : Nat} (hs : s < 256) (h : cnt s = 0) : s = 0 := by
  apply ext; intro i; rw [jF]
  cases hb : s.testBit i
  · rfl
  · have := Yc (jV (n := 8) hs hb) hb; omega
theorem ZN {a b : Nat} (ha : a < 256) (h : cnt (a &&& b) = cnt a) : sub a b := by
  have := Qz a b
  have hz : cnt (sdiff a b) = 0 := by omega
  exact Qa.2 (ZS (qJ (n := 8) (fun i hi => by rw [qR] at hi; simp at hi; exact hi.1) ha) hz)
theorem V1 {n : Nat} (h : n ≤ 8) : cnt (full n) = n := by
  have : ∀ n, n ≤ 8 → cnt (full n) = n := by decide
  exact this n h
theorem yY {a b : Nat} (h : cnt b < cnt a) : ∃ i, a.testBit i = true ∧ b.testBit i = false :=
  QI fun k => by have := vD k; omega

/-- The bases of a matroid of n elements: by exchange. -/
structure Mat (n : Nat) (B : List Nat) : Prop where
  size : n ≤ 8
  lt : ∀ b ∈ B, b < 2 ^ n
  ne : B ≠ []
  ex : ∀ a ∈ B, ∀ b ∈ B, ∀ e, a.testBit e = true → b.testBit e = false → ∃ f, b.testBit f = true ∧ a.testBit f = false ∧ ins (del a e) f ∈ B
section
variable {n : Nat} {B : List Nat}
theorem yR {s n : Nat} (hn : n ≤ 8) (h : s < 2 ^ n) : s < 256 := Nat.lt_of_lt_of_le h (Nat.pow_le_pow_right (n := 2) (by decide) hn)
theorem Mat.lt8 (M : Mat n B) {b : Nat} (h : b ∈ B) : b < 256 := yR M.size (M.lt b h)
theorem Mat.YC (M : Mat n B) {b e : Nat} (h : b ∈ B) (he : b.testBit e = true) : e < 8 := jV (n := 8) (M.lt8 h) he
theorem Vw {a e f : Nat} (ha : a < 256) (hf8 : f < 8) (he : a.testBit e = true) (hf : a.testBit f = false) : cnt (ins (del a e) f) = cnt a := by
  have h8 : e < 8 := jV (n := 8) ha he
  have h1 := yt h8 he
  have h2 := yv (s := del a e) hf8 (by rw [qO, hf]; rfl)
  omega
theorem Mat.le (M : Mat n B) : ∀ k a b, a ∈ B → b ∈ B → cnt (sdiff a b) = k → cnt a ≤ cnt b := by
  intro k
  induction k using Nat.strongRecOn with
  | _ k ih =>
    intro a b ha hb hk
    by_cases hs : sub a b
    · exact vD hs
    · obtain ⟨e, he, heb⟩ := QI hs
      obtain ⟨f, hfb, hfa, hin⟩ := M.ex a ha b hb e he heb
      have e8 := M.YC ha he
      have f8 := M.YC hb hfb
      have hsw := Vw (M.lt8 ha) f8 he hfa
      have hd : sdiff (ins (del a e) f) b = del (sdiff a b) e := ext fun i => by
        simp only [qR, qp, qO]
        by_cases hi : f = i
        · subst hi; simp [hfb]
        · simp only [hi, decide_false, Bool.or_false]; cases a.testBit i <;> cases b.testBit i <;> simp
      have hc := yt (s := sdiff a b) e8 (by rw [qR, he, heb]; rfl)
      have := ih (cnt (del (sdiff a b) e)) (by omega) (ins (del a e) f) b hin hb (by rw [hd])
      omega
/-- All bases are of one size. -/
theorem Mat.Y2 (M : Mat n B) {a b : Nat} (ha : a ∈ B) (hb : b ∈ B) : cnt a = cnt b := Nat.le_antisymm (M.le _ a b ha hb rfl) (M.le _ b a hb ha rfl)

/-- The rank of s: the most that a base has of it. -/
def rk (B : List Nat) (s : Nat) : Nat := B.foldl (fun m b => max m (cnt (s &&& b))) 0
theorem y3 {α : Type} (f : α → Nat) : ∀ (l : List α) (m k : Nat), l.foldl (fun m b => max m (f b)) m ≤ k ↔ m ≤ k ∧ ∀ b ∈ l, f b ≤ k
  | [], m, k => by simp
  | a :: l, m, k => by
    rw [List.foldl_cons, y3 f l]
    simp only [List.mem_cons, forall_eq_or_imp, Nat.max_le, and_assoc]
theorem JV {s k : Nat} : rk B s ≤ k ↔ ∀ b ∈ B, cnt (s &&& b) ≤ k := by
  unfold rk; rw [y3 (fun b => cnt (s &&& b))]; simp
theorem Vk {b : Nat} (hb : b ∈ B) (s : Nat) : cnt (s &&& b) ≤ rk B s := JV.1 (Nat.le_refl _) b hb
theorem Yu (hB : B ≠ []) (s : Nat) : ∃ b ∈ B, cnt (s &&& b) = rk B s := by
  apply Classical.byContradiction
  intro h
  have h1 : ∀ b ∈ B, cnt (s &&& b) < rk B s := fun b hb => Nat.lt_of_le_of_ne (Vk hb s) fun e => h ⟨b, hb, e⟩
  obtain ⟨c, hc⟩ := List.exists_mem_of_ne_nil B hB
  have h2 : rk B s ≤ rk B s - 1 := JV.2 fun b hb => by have := h1 b hb; omega
  have := h1 c hc
  omega
theorem Qu (s : Nat) : rk B s ≤ cnt s := JV.2 fun _ _ => vD (jw _ _)
theorem jX {s t : Nat} (h : sub s t) : rk B s ≤ rk B t := JV.2 fun b hb => Nat.le_trans (vD (fun i hi => by
  rw [jx] at hi ⊢; simp at hi ⊢; exact ⟨h i hi.1, hi.2⟩)) (Vk hb t)
/-- A set within a base. -/
def ind (B : List Nat) (s : Nat) : Prop := ∃ b ∈ B, sub s b
theorem vB {s t : Nat} (h : sub s t) (k : ind B t) : ind B s := by obtain ⟨b, hb, hs⟩ := k; exact ⟨b, hb, jm h hs⟩
theorem vm (hB : B ≠ []) {s : Nat} (hs : s < 256) : ind B s ↔ rk B s = cnt s := by
  constructor
  · rintro ⟨b, hb, h⟩
    have := Vk hb s
    rw [Zy.1 h] at this
    exact Nat.le_antisymm (Qu s) this
  · intro h
    obtain ⟨b, hb, hc⟩ := Yu hB s
    exact ⟨b, hb, ZN hs (by omega)⟩
/-- What is within a base grows to a base by elements of any other. -/
theorem Mat.grow (M : Mat n B) {I c : Nat} (hI : ind B I) (hc : c ∈ B) : ∃ b ∈ B, sub I b ∧ sub b (I ||| c) := by
  obtain ⟨b0, hb0, hs0⟩ := hI
  have key : ∀ k b, b ∈ B → sub I b → cnt (sdiff b (I ||| c)) = k → ∃ b ∈ B, sub I b ∧ sub b (I ||| c) := by
    intro k
    induction k using Nat.strongRecOn with
    | _ k ih =>
      intro b hb hs hk
      by_cases hh : sub b (I ||| c)
      · exact ⟨b, hb, hs, hh⟩
      · obtain ⟨e, he, hn⟩ := QI hh
        rw [j4] at hn
        have hn' := Bool.or_eq_false_iff.1 hn
        obtain ⟨f, hfc, hfb, hin⟩ := M.ex b hb c hc e he hn'.2
        have hd : sdiff (ins (del b e) f) (I ||| c) = del (sdiff b (I ||| c)) e := ext fun i => by
          simp only [qR, qp, qO, j4]
          by_cases hi : f = i
          · subst hi; simp [hfc]
          · simp only [hi, decide_false, Bool.or_false]; cases b.testBit i <;> cases I.testBit i <;> cases c.testBit i <;> simp
        have h1 := yt (s := sdiff b (I ||| c)) (M.YC hb he) (by rw [qR, he, j4, hn]; rfl)
        refine ih _ (by rw [hd]; omega) _ hin (fun i hi => ?_) rfl
        rw [qp, qO, hs i hi]
        have : e ≠ i := fun h => by subst h; rw [hi] at hn'; exact absurd hn'.1 (by simp)
        simp [this]
  exact key _ b0 hb0 hs0 rfl
/-- The smaller of two independent sets takes an element of the greater. -/
theorem Mat.Yl (M : Mat n B) {I J : Nat} (hI : ind B I) (hJ : ind B J) (h : cnt I < cnt J) : ∃ x, J.testBit x = true ∧ I.testBit x = false ∧ ind B (ins I x) := by
  obtain ⟨c, hc, hJc⟩ := hJ
  obtain ⟨b, hb, hIb, hbc⟩ := M.grow hI hc
  apply Classical.byContradiction
  intro hn
  have h1 : sub (b &&& J) I := fun i hi => by
    rw [jx] at hi; simp at hi
    cases hx : I.testBit i
    · exact absurd ⟨i, hi.2, hx, b, hb, fun j hj => by
        rw [qp] at hj; rcases Bool.or_eq_true_iff.1 hj with hj | hj
        · exact hIb j hj
        · rw [← of_decide_eq_true hj]; exact hi.1⟩ hn
    · rfl
  -- b without I lies in c without J
  have h2 : sub (sdiff b I) (sdiff c J) := fun i hi => by
    rw [qR] at hi ⊢; simp at hi
    have h3 := hbc i hi.1
    rw [j4, hi.2, Bool.false_or] at h3
    rw [h3, Bool.true_and]
    cases hj : J.testBit i
    · rfl
    · have := h1 i (by rw [jx, hi.1, hj]; rfl); rw [hi.2] at this; cases this
  have c1 := vD h2
  have c2 := vX hIb
  have c3 := vX hJc
  have c4 := M.Y2 hb hc
  omega
/-- An independent part of s that is as1 great as1 its rank, around any independent part of s. -/
theorem Mat.yx (M : Mat n B) {s I : Nat} (hs : s < 256) (hI : ind B I) (hIs : sub I s) : ∃ J, ind B J ∧ sub I J ∧ sub J s ∧ cnt J = rk B s := by
  obtain ⟨b, hb, hc⟩ := Yu M.ne s
  have hJ0 : ind B (s &&& b) := ⟨b, hb, vP _ _⟩
  have key : ∀ k I, ind B I → sub I s → rk B s - cnt I = k → ∃ J, ind B J ∧ sub I J ∧ sub J s ∧ cnt J = rk B s := by
    intro k
    induction k with
    | zero =>
      intro I hI hIs hk
      have h1 : cnt I ≤ rk B s := by rw [← (vm M.ne (qJ (n := 8) hIs hs)).1 hI]; exact jX hIs
      exact ⟨I, hI, yW _, hIs, by omega⟩
    | succ k ih =>
      intro I hI hIs hk
      obtain ⟨x, hx, hxI, hin⟩ := M.Yl hI hJ0 (by omega)
      have hxs : s.testBit x = true := jw _ _ x hx
      have h8 : x < 8 := jV (n := 8) hs hxs
      have h1 := yv h8 hxI
      have hsub : sub (ins I x) s := fun i hi => by
        rw [qp] at hi; rcases Bool.or_eq_true_iff.1 hi with hi | hi
        · exact hIs i hi
        · rw [← of_decide_eq_true hi]; exact hxs
      obtain ⟨J, h2, h3, h4, h5⟩ := ih (ins I x) hin hsub (by omega)
      exact ⟨J, h2, jm (yz I x) h3, h4, h5⟩
  exact key _ I hI hIs rfl
theorem ZV (hB : B ≠ []) : ind B 0 := by
  obtain ⟨c, hc⟩ := List.exists_mem_of_ne_nil B hB
  exact ⟨c, hc, fun i hi => by rw [jF] at hi; cases hi⟩
/-- The rank of what is gathered and of what is common: no more than both together. -/
theorem Mat.Y3 (M : Mat n B) {s t : Nat} (hs : s < 256) (ht : t < 256) : rk B (s ||| t) + rk B (s &&& t) ≤ rk B s + rk B t := by
  have hst : s ||| t < 256 := Nat.or_lt_two_pow (n := 8) hs ht
  have hand : s &&& t < 256 := Nat.and_lt_two_pow (n := 8) _ ht
  obtain ⟨I, hI, _, hIs, hIc⟩ := M.yx hand (ZV M.ne) (fun i hi => by rw [jF] at hi; cases hi)
  obtain ⟨J, hJ, hIJ, hJs, hJc⟩ := M.yx hst hI (jm hIs (jm (jw _ _) (Q6 _ _)))
  have h1 : ind B (J &&& s) := vB (jw _ _) hJ
  have h2 : ind B (J &&& t) := vB (jw _ _) hJ
  have hJ8 : J < 256 := qJ (n := 8) hJs hst
  have c1 : cnt (J &&& s) ≤ rk B s := by
    rw [← (vm M.ne (qJ (n := 8) (jw _ _) hJ8)).1 h1]; exact jX (vP _ _)
  have c2 : cnt (J &&& t) ≤ rk B t := by
    rw [← (vm M.ne (qJ (n := 8) (jw _ _) hJ8)).1 h2]; exact jX (vP _ _)
  have c3 := ZT (J &&& s) (J &&& t)
  have e1 : J &&& s ||| J &&& t = J := ext fun i => by
    rw [j4, jx, jx]; have := hJs i; rw [j4] at this
    revert this
    cases J.testBit i <;> cases s.testBit i <;> cases t.testBit i <;> simp
  have e2 : sub I (J &&& s &&& (J &&& t)) := fun i hi => by
    have a := hIJ i hi; have b := hIs i hi; rw [jx] at b; simp at b
    simp [a, b]
  have c4 := vD e2
  rw [e1] at c3
  omega
end
end Go.Proofs.Ytopkfhnnapncgaa.Mt
end
section
namespace Go.Proofs.Ytopkfhnnapncgaa.L
open Go.RowKit Go.Proofs.Ytopkfhnnapncgaa.F Go.Proofs.YtopkfhnnapncgaaW.PrintWords Go.Proofs.YtopkfhnnapncgaaW.PrintLast Go.Proofs.YtopkfhnnapncgaaW.PrintMore
open Go.Proofs.Ytopkfhnnapncgaa.Bits
open Go.Proofs.Ytopkfhnnapncgaa.Mt (sdiff qR elems Qs cnt Yz full)
set_option linter.unusedSimpArgs false
set_option linter.unusedVariables false
theorem Qw (l : List Int) (x : Int) : ((List.range l.length).any fun i => decide (l.getD i 0 = x)) = decide (x ∈ l) := by
  rw [Bool.eq_iff_iff]
  simp only [List.any_eq_true, List.mem_range, decide_eq_true_eq]
  constructor
  · rintro ⟨i, hi, h⟩
    rw [← h, List.getD_eq_getElem?_getD, List.getElem?_eq_getElem hi]; exact List.getElem_mem hi
  · intro h
    obtain ⟨i, hi, he⟩ := List.getElem_of_mem h
    exact ⟨i, hi, by rw [List.getD_eq_getElem?_getD, List.getElem?_eq_getElem hi]; exact he⟩
theorem VU (l : List Int) (x : Int) (hl : l.length ≤ 17592186044416) : Ev (fun k => qu.f k l x) (decide (x ∈ l)) := by
  unfold qu.f
  have h := Qg (fun k i => qu.l0 k l x i) l.length (fun i r => decide (l.getD i 0 = x) || r) false
    (by simp only [qu.l0, show ¬ ((l.length : Int) < (l.length : Int)) by omega, if_false]; exact Ev.now _) fun i hi r hr => by
      simp only [qu.l0, show ((i : Int) < (l.length : Int)) by omega, show (0 : Int) ≤ (i : Int) by omega, if_true, qL, zY (show i < 9223372036854775807 by omega)]
      by_cases h : l.getD i 0 = x
      · simp only [h, if_true, decide_true, Bool.true_or]; exact Ev.now _
      · simp only [h, if_false, decide_false, Bool.false_or]; exact hr
  rw [Zn, Bool.or_false, Qw] at h
  exact h
end Go.Proofs.Ytopkfhnnapncgaa.L
end
section
namespace Go.Proofs.Ytopkfhnnapncgaa.F
open Go.RowKit Go.Proofs.YtopkfhnnapncgaaW.PrintWords Go.Proofs.YtopkfhnnapncgaaW.PrintLast Go.Proofs.YtopkfhnnapncgaaW.PrintMore
attribute [local go_sem] jG jE jY j8 jl jk jK jM   -- for this text's walks alone
set_option linter.unusedVariables false
set_option linter.unusedSimpArgs false

def zS.j0 : Nat → Int → Bool → Int → Int → Int → List Int → Option (Int)
 | 0, _, _, _, _, _, _ => none
 | k + 1, x1, x16, x302000, x302001, x302002, x302003 => if x16 = true then (some (-1)) else ((zK.f k x302000 x302001 x302002 x302003 x1).bind fun bt304 => ((zd.f k bt304.1 bt304.2.1 bt304.2.2.1 bt304.2.2.2).bind fun bt310 => (some (bt310.2.2.2.2.length : Int))))
def zS.f (k : Nat) (a0_0 : Int) (a0_1 : Int) (a0_2 : Int) (l0_3 : List Int) (a1 : Int) : Option (Int) := (zv.f k a0_0 a0_1 a0_2 l0_3).bind fun t302 => (if t302 = true then ((jS.f a0_2 a1).bind fun t303 => (zS.j0 k a1 (!t303) a0_0 a0_1 a0_2 l0_3)) else (zS.j0 k a1 true a0_0 a0_1 a0_2 l0_3))
theorem zS.calls (k : Nat) (a0_0 : Int) (a0_1 : Int) (a0_2 : Int) (A0_3 : Option Addr) (c0_3 : Nat) (l0_3 : List Int) (a1 : Int) (r : Int) (w : World) (hr0_3 : Kd.C (Kd.int .i64) w A0_3 l0_3.length l0_3) (hc0_3 : l0_3.length ≤ c0_3) (h : zS.f k a0_0 a0_1 a0_2 l0_3 a1 = some r) :
  Calls Try.prog 31 #[.agg #[.int .i64 a0_0, .int .i64 a0_1, .int .i64 a0_2, .slice A0_3 l0_3.length c0_3], .int .i64 a1] w fun e w' => e = .returned (.int .i64 r) ∧ Below w.heap.size w w' := by
 have hu27 := Try.underlying27
 have HR0_3 := Aside0.mk hr0_3
 have HC0_3 := Aside0.mk hc0_3
 clear hr0_3 hc0_3
 have HB := Aside0.mk (Below.refl w.heap.size w)
 have H : ((zv.f k a0_0 a0_1 a0_2 l0_3).bind fun t302 => (if t302 = true then ((jS.f a0_2 a1).bind fun t303 => (zS.j0 k a1 (!t303) a0_0 a0_1 a0_2 l0_3)) else (zS.j0 k a1 true a0_0 a0_1 a0_2 l0_3))) = some r := h
 clear h
 have HC3 := Aside0.mk H
 clear H
 go_enter Try.func31, Try.ntmps31
 go_upto_region 1 with (first | ((with_reducible refine zC (N := 2) rfl ?_); refine zD ?hg (N := 2) ?hd (cs := #[.int .i64 a0_0, .int .i64 a0_1, .int .i64 a0_2, .slice A0_3 l0_3.length c0_3]) (t := 27) ?hr ?_; (case hd => rfl); (case hg => rfl); (case hr => exact sqG); intro gb301 hg w4 hbox hb; have n0_ := Aside0.mk (zg sqB hb); have n1_ := Aside0.mk (hbox); have n2_ := Aside0.mk ((sqS hg : w.heap.size ≤ gb301)); have n3_ := Aside0.mk ((sqS hg : w.heap.size ≤ gb301)); clear HB; have HB := n0_; have BK301 := n1_; have GW301 := n2_; have GE301 := n3_; clear n0_ n1_ n2_ n3_; clear hb hbox hg))
 (try simp only [Act.put, List.setIfInBounds_toArray, List.set_cons_zero, List.set_cons_succ])
 go_cut [16] (fun v16 wc => ∃ (kq : Nat) (x16_2 : Bool), v16 = .bool x16_2 ∧ Aside0 (zS.j0 kq a1 x16_2 a0_0 a0_1 a0_2 l0_3 = some r) ∧ Aside0 (kq ≤ k) ∧ Aside0 (wc.heap[gb301]? = some (.cells #[.int .i64 a0_0, .int .i64 a0_1, .int .i64 a0_2, (.slice A0_3 l0_3.length c0_3)] 27 (0, 0))) ∧ Aside0 (Below w.heap.size w wc))
 case first =>
  have H := HC3.out
  clear HC3
  replace H := Option.bind_eq_some_iff.mp H
  obtain ⟨t302, A50, H⟩ := H
  replace H : (if t302 = true then ((jS.f a0_2 a1).bind fun t303 => (zS.j0 k a1 (!t303) a0_0 a0_1 a0_2 l0_3)) else (zS.j0 k a1 true a0_0 a0_1 a0_2 l0_3)) = some r := H
  have A5 := Aside0.mk A50
  clear A50
  by_cases c6 : t302 = true
  ·subst c6
   have H1 : ((jS.f a0_2 a1).bind fun t303 => (zS.j0 k a1 (!t303) a0_0 a0_1 a0_2 l0_3)) = some r := by rw [if_pos rfl] at H; exact H
   clear H
   have H := H1
   clear H1
   replace H := Option.bind_eq_some_iff.mp H
   obtain ⟨t303, A70, H⟩ := H
   replace H : (zS.j0 k a1 (!t303) a0_0 a0_1 a0_2 l0_3) = some r := H
   have A7 := Aside0.mk A70
   clear A70
   have H' := Aside0.mk H
   clear H
   have hcz8_0 : w4.cell? ⟨gb301, 0, none⟩ = some (.int .i64 a0_0) := (zb BK301.out 0).trans rfl
   have hcz8_1 : w4.cell? ⟨gb301, 1, none⟩ = some (.int .i64 a0_1) := (zb BK301.out 1).trans rfl
   have hcz8_2 : w4.cell? ⟨gb301, 2, none⟩ = some (.int .i64 a0_2) := (zb BK301.out 2).trans rfl
   have hcz8_3 : w4.cell? ⟨gb301, 3, none⟩ = some (.slice A0_3 l0_3.length c0_3) := (zb BK301.out 3).trans rfl
   have hfz8_0 := za BK301.out 0; have hfz8_1 := za BK301.out 1; have hfz8_2 := za BK301.out 2; have hfz8_3 := za BK301.out 3
   go_wp2_with (first | ((with_reducible refine zp (f := 39) rfl ?_); refine zP (some 8) rfl rfl Try.func39 (by kernel_rfl) rfl #[.agg #[.int .i64 a0_0, .int .i64 a0_1, .int .i64 a0_2, .slice A0_3 l0_3.length c0_3]] rfl sqM ?_; (with_reducible refine (zv.calls k a0_0 a0_1 a0_2 _ _ l0_3 true _ ?side1 ?side2 A5.out).mono ?_); (case side1 => exact sqC (Kd.z1 HR0_3.out HB.out)); (case side2 => exact HC0_3.out); rintro e w9 ⟨rfl, hb⟩; refine ⟨_, rfl, ?_⟩; have n0_ := Aside0.mk (ze (g := gb301) (o := .cells #[.int .i64 a0_0, .int .i64 a0_1, .int .i64 a0_2, .slice A0_3 l0_3.length c0_3] 27 (0, 0)) (sqK BK301.out) hb); have n1_ := Aside0.mk (zg sqB hb); clear BK301; clear HB; have BK301 := n0_; have HB := n1_; clear n0_ n1_; (try clear hb); (try clear hb2); (try clear hk); (try clear hi); have hcz10_0 : w9.cell? ⟨gb301, 0, none⟩ = some (.int .i64 a0_0) := (zb BK301.out 0).trans rfl; have hcz10_1 : w9.cell? ⟨gb301, 1, none⟩ = some (.int .i64 a0_1) := (zb BK301.out 1).trans rfl; have hcz10_2 : w9.cell? ⟨gb301, 2, none⟩ = some (.int .i64 a0_2) := (zb BK301.out 2).trans rfl; have hcz10_3 : w9.cell? ⟨gb301, 3, none⟩ = some (.slice A0_3 l0_3.length c0_3) := (zb BK301.out 3).trans rfl; have hfz10_0 := za BK301.out 0; have hfz10_1 := za BK301.out 1; have hfz10_2 := za BK301.out 2; have hfz10_3 := za BK301.out 3) | (go_at_call 51; (try simp only [zf, zh]); (with_reducible refine (jS.calls a0_2 a1 t303 _ A7.out).mono ?_); rintro e w' ⟨rfl, ⟨nd, rfl⟩⟩))
   go_meet
   case rel => exact ⟨_, (!t303), (sqD), H', ⟨by first | omega | exact Nat.le_refl _⟩, ⟨sqK BK301.out⟩, ⟨sqB⟩⟩
  ·replace c6 := Bool.eq_false_iff.mpr c6
   subst c6
   have H1 : (zS.j0 k a1 true a0_0 a0_1 a0_2 l0_3) = some r := by rw [if_neg (show ¬ (false = true) by decide)] at H; exact H
   clear H
   have H := H1
   clear H1
   have H' := Aside0.mk H
   clear H
   have hcz11_0 : w4.cell? ⟨gb301, 0, none⟩ = some (.int .i64 a0_0) := (zb BK301.out 0).trans rfl
   have hcz11_1 : w4.cell? ⟨gb301, 1, none⟩ = some (.int .i64 a0_1) := (zb BK301.out 1).trans rfl
   have hcz11_2 : w4.cell? ⟨gb301, 2, none⟩ = some (.int .i64 a0_2) := (zb BK301.out 2).trans rfl
   have hcz11_3 : w4.cell? ⟨gb301, 3, none⟩ = some (.slice A0_3 l0_3.length c0_3) := (zb BK301.out 3).trans rfl
   have hfz11_0 := za BK301.out 0; have hfz11_1 := za BK301.out 1; have hfz11_2 := za BK301.out 2; have hfz11_3 := za BK301.out 3
   go_wp2_with (first | ((with_reducible refine zp (f := 39) rfl ?_); refine zP (some 8) rfl rfl Try.func39 (by kernel_rfl) rfl #[.agg #[.int .i64 a0_0, .int .i64 a0_1, .int .i64 a0_2, .slice A0_3 l0_3.length c0_3]] rfl sqM ?_; (with_reducible refine (zv.calls k a0_0 a0_1 a0_2 _ _ l0_3 false _ ?side1 ?side2 A5.out).mono ?_); (case side1 => exact sqC (Kd.z1 HR0_3.out HB.out)); (case side2 => exact HC0_3.out); rintro e w12 ⟨rfl, hb⟩; refine ⟨_, rfl, ?_⟩; have n0_ := Aside0.mk (ze (g := gb301) (o := .cells #[.int .i64 a0_0, .int .i64 a0_1, .int .i64 a0_2, .slice A0_3 l0_3.length c0_3] 27 (0, 0)) (sqK BK301.out) hb); have n1_ := Aside0.mk (zg sqB hb); clear BK301; clear HB; have BK301 := n0_; have HB := n1_; clear n0_ n1_; (try clear hb); (try clear hb2); (try clear hk); (try clear hi)))
   go_meet
   case rel => exact ⟨_, (true), (sqD), H', ⟨by first | omega | exact Nat.le_refl _⟩, ⟨sqK BK301.out⟩, ⟨sqB⟩⟩
 case rest =>
  clear HC3
  try clear p2
  try clear c3
  try clear c6
  try clear hcz10_0
  try clear hcz10_1
  try clear hcz10_2
  try clear hcz10_3
  try clear hcz11_0
  try clear hcz11_1
  try clear hcz11_2
  try clear hcz11_3
  try clear hcz8_0
  try clear hcz8_1
  try clear hcz8_2
  try clear hcz8_3
  try clear hfz10_0
  try clear hfz10_1
  try clear hfz10_2
  try clear hfz10_3
  try clear hfz11_0
  try clear hfz11_1
  try clear hfz11_2
  try clear hfz11_3
  try clear hfz8_0
  try clear hfz8_1
  try clear hfz8_2
  try clear hfz8_3
  obtain ⟨kq, x16_2, rfl, HA, HJ2, BK301, HB⟩ := hcut
  cases kq with
  | zero => exact absurd HA.out (by simp [zS.j0])
  | succ kj2 =>
   have H := HA.out
   clear HA
   simp only [zS.j0] at H
   by_cases c13 : x16_2 = true
   ·subst c13
    have H1 : (some (-1)) = some r := by rw [if_pos rfl] at H; exact H
    clear H
    have H := H1
    clear H1
    obtain rfl := Option.some.inj H
    go_wp2
    go_ret
    exact ⟨sqE, sqB⟩
   ·replace c13 := Bool.eq_false_iff.mpr c13
    subst c13
    have H1 : ((zK.f kj2 a0_0 a0_1 a0_2 l0_3 a1).bind fun bt304 => ((zd.f kj2 bt304.1 bt304.2.1 bt304.2.2.1 bt304.2.2.2).bind fun bt310 => (some (bt310.2.2.2.2.length : Int)))) = some r := by rw [if_neg (show ¬ (false = true) by decide)] at H; exact H
    clear H
    have H := H1
    clear H1
    replace H := Option.bind_eq_some_iff.mp H
    obtain ⟨⟨t304, t305, t306, t307⟩, A140, H⟩ := H
    replace H : ((zd.f kj2 t304 t305 t306 t307).bind fun bt310 => (some (bt310.2.2.2.2.length : Int))) = some r := H
    have A14 := Aside0.mk A140
    clear A140
    replace H := Option.bind_eq_some_iff.mp H
    obtain ⟨⟨t310, t311, t312, t313, t316⟩, A150, H⟩ := H
    replace H : (some (t316.length : Int)) = some r := H
    have A15 := Aside0.mk A150
    clear A150
    obtain rfl := Option.some.inj H
    have hcz16_0 : wc.cell? ⟨gb301, 0, none⟩ = some (.int .i64 a0_0) := (zb BK301.out 0).trans rfl
    have hcz16_1 : wc.cell? ⟨gb301, 1, none⟩ = some (.int .i64 a0_1) := (zb BK301.out 1).trans rfl
    have hcz16_2 : wc.cell? ⟨gb301, 2, none⟩ = some (.int .i64 a0_2) := (zb BK301.out 2).trans rfl
    have hcz16_3 : wc.cell? ⟨gb301, 3, none⟩ = some (.slice A0_3 l0_3.length c0_3) := (zb BK301.out 3).trans rfl
    have hfz16_0 := za BK301.out 0; have hfz16_1 := za BK301.out 1; have hfz16_2 := za BK301.out 2; have hfz16_3 := za BK301.out 3
    go_wp2_with (first | ((with_reducible refine zp (f := 59) rfl ?_); refine zP (some 20) rfl rfl Try.func59 (by kernel_rfl) rfl #[.agg #[.int .i64 a0_0, .int .i64 a0_1, .int .i64 a0_2, .slice A0_3 l0_3.length c0_3], .int .i64 a1] rfl sqM ?_; (with_reducible refine (zK.calls kj2 a0_0 a0_1 a0_2 _ _ l0_3 a1 t304 t305 t306 t307 _ ?side1 ?side2 A14.out).mono ?_); (case side1 => exact sqC (Kd.z1 HR0_3.out HB.out)); (case side2 => exact HC0_3.out); rintro e w17 ⟨v308, rfl, ho0, hb⟩; refine ⟨_, rfl, ?_⟩; have n0_ := Aside0.mk (Kd.qo ho0 (zJ sqB)); have n1_ := Aside0.mk (ze (g := gb301) (o := .cells #[.int .i64 a0_0, .int .i64 a0_1, .int .i64 a0_2, .slice A0_3 l0_3.length c0_3] 27 (0, 0)) (sqK BK301.out) hb); have n2_ := Aside0.mk (zg sqB hb); clear BK301; clear HB; have HO309 := n0_; have BK301 := n1_; have HB := n2_; clear n0_ n1_ n2_; (try clear hb); (try clear hb2); (try clear hk); (try clear hi); (try clear ho0); obtain ⟨Ao18, co18, eo18⟩ := Kd.zU HO309.out; subst eo18) | ((with_reducible refine zp (f := 58) rfl ?_); refine zP (some 21) rfl rfl Try.func58 (by kernel_rfl) rfl #[.agg #[.int .i64 t304, .int .i64 t305, .int .i64 t306, .slice Ao18 t307.length co18]] rfl sqM ?_; (with_reducible refine (zd.calls kj2 t304 t305 t306 _ _ t307 t310 t311 t312 t313 t316 _ ?side1 ?side2 A15.out).mono ?_); (case side1 => exact sqC (Kd.zu HO309.out).2.2); (case side2 => exact (Kd.zu HO309.out).2.1); rintro e w19 ⟨v314, v317, rfl, ho0, ho1, hb⟩; refine ⟨_, rfl, ?_⟩; have n0_ := Aside0.mk (Kd.zo (Kd.VL (Kd.VL (Kd.zaj (sqR HO309.out) hb) (Kd.qC ho0)) (Kd.qC ho1)) (fun _ h_ => h_.1)); have n1_ := Aside0.mk (Kd.qo (Kd.qG ho0 (Kd.jg (sqR HO309.out))) (zJ sqB)); have n2_ := Aside0.mk (Kd.qo (Kd.qG ho1 (Kd.jg (sqR HO309.out))) (zJ sqB)); have n3_ := Aside0.mk (ze (g := gb301) (o := .cells #[.int .i64 a0_0, .int .i64 a0_1, .int .i64 a0_2, .slice A0_3 l0_3.length c0_3] 27 (0, 0)) (sqK BK301.out) hb); have n4_ := Aside0.mk (zg sqB hb); clear HO309; clear BK301; clear HB; have HO309 := n0_; have HO315 := n1_; have HO318 := n2_; have BK301 := n3_; have HB := n4_; clear n0_ n1_ n2_ n3_ n4_; (try clear hb); (try clear hb2); (try clear hk); (try clear hi); (try clear ho0); (try clear ho1)) | ((with_reducible refine zC (N := 5) rfl ?_); refine zD ?hg (N := 5) ?hd (cs := #[.int .i64 0, .int .i64 0, .int .i64 0, .slice none 0 0]) (t := 27) ?hr ?_; (case hd => rfl); (case hg => rfl); (case hr => exact sqG); intro gb319 hg w20 hbox hb; have n0_ := Aside0.mk (Kd.zG (sqR HO309.out) hb); have n1_ := Aside0.mk (Kd.zG (sqR HO315.out) hb); have n2_ := Aside0.mk (Kd.zG (sqR HO318.out) hb); have n3_ := Aside0.mk (ze (g := gb301) (o := .cells #[.int .i64 a0_0, .int .i64 a0_1, .int .i64 a0_2, .slice A0_3 l0_3.length c0_3] 27 (0, 0)) (sqK BK301.out) hb); have n4_ := Aside0.mk (zg sqB hb); have n5_ := Aside0.mk (hbox); have n6_ := Aside0.mk ((sqS hg : w.heap.size ≤ gb319)); have n7_ := Aside0.mk ((sqS hg : w.heap.size ≤ gb319)); have n8_ := Aside0.mk ((by rw [hg]; exact Nat.ne_of_lt (zI (g := gb301) (o := .cells #[.int .i64 a0_0, .int .i64 a0_1, .int .i64 a0_2, .slice A0_3 l0_3.length c0_3] 27 (0, 0)) (sqK BK301.out)) : gb301 ≠ gb319)); have n9_ := Aside0.mk ((by rw [hg]; exact Nat.ne_of_gt (zI (g := gb301) (o := .cells #[.int .i64 a0_0, .int .i64 a0_1, .int .i64 a0_2, .slice A0_3 l0_3.length c0_3] 27 (0, 0)) (sqK BK301.out)) : gb319 ≠ gb301)); clear HO309; clear HO315; clear HO318; clear BK301; clear HB; have HO309 := n0_; have HO315 := n1_; have HO318 := n2_; have BK301 := n3_; have HB := n4_; have BK319 := n5_; have GW319 := n6_; have GE319 := n7_; have NB301_319 := n8_; have NB319_301 := n9_; clear n0_ n1_ n2_ n3_ n4_ n5_ n6_ n7_ n8_ n9_; clear hb hbox hg; have hnb21 := NB319_301.out; have hnc21 := NB301_319.out; have hcz22_0 : w20.cell? ⟨gb319, 0, none⟩ = some (.int .i64 0) := (zb BK319.out 0).trans rfl; have hcz22_1 : w20.cell? ⟨gb319, 1, none⟩ = some (.int .i64 0) := (zb BK319.out 1).trans rfl; have hcz22_2 : w20.cell? ⟨gb319, 2, none⟩ = some (.int .i64 0) := (zb BK319.out 2).trans rfl; have hcz22_3 : w20.cell? ⟨gb319, 3, none⟩ = some (.slice none 0 0) := (zb BK319.out 3).trans rfl; have hfz22_0 := za BK319.out 0; have hfz22_1 := za BK319.out 1; have hfz22_2 := za BK319.out 2; have hfz22_3 := za BK319.out 3; obtain ⟨Ao23, co23, eo23⟩ := Kd.zU HO315.out; subst eo23; obtain ⟨Ao24, co24, eo24⟩ := Kd.zU HO318.out; subst eo24))
    go_ret
    exact ⟨sqE, sqB⟩

def j6.f (k : Nat) (a0_0 : Int) (a0_1 : Int) (a0_2 : Int) (l0_3 : List Int) (a1 : Int) : Option (Bool) := (qD.f a0_0 a0_1 a0_2 l0_3 1048576).bind fun t321 => (if t321 < 0 then (some true) else ((zE.f k a0_0 a0_1 a0_2 l0_3).bind fun bt322 => ((qV.f k bt322.1 bt322.2.1 bt322.2.2.1 bt322.2.2.2 a1).bind fun t328 => ((zE.f k a0_0 a0_1 a0_2 l0_3).bind fun bt329 => ((zS.f k bt329.1 bt329.2.1 bt329.2.2.1 bt329.2.2.2 a1).bind fun t336 => (if t336 = t328 then ((zE.f k a0_0 a0_1 a0_2 l0_3).bind fun bt337 => ((zB.f k bt329.1 bt329.2.1 bt329.2.2.1 bt329.2.2.2 bt337.1 bt337.2.1 bt337.2.2.1 bt337.2.2.2).bind fun t343 => (if t343 = true then (some true) else (none)))) else (none)))))))
theorem j6.calls (k : Nat) (a0_0 : Int) (a0_1 : Int) (a0_2 : Int) (A0_3 : Option Addr) (c0_3 : Nat) (l0_3 : List Int) (a1 : Int) (r : Bool) (w : World) (hr0_3 : Kd.C (Kd.int .i64) w A0_3 l0_3.length l0_3) (hc0_3 : l0_3.length ≤ c0_3) (h : j6.f k a0_0 a0_1 a0_2 l0_3 a1 = some r) :
  Calls Try.prog 8 #[.agg #[.int .i64 a0_0, .int .i64 a0_1, .int .i64 a0_2, .slice A0_3 l0_3.length c0_3], .int .i64 a1] w fun e w' => e = .returned (.bool r) ∧ Below w.heap.size w w' := by
 have hu24 := Try.underlying24
 have hu27 := Try.underlying27
 have HR0_3 := Aside0.mk hr0_3
 have HC0_3 := Aside0.mk hc0_3
 clear hr0_3 hc0_3
 have HB := Aside0.mk (Below.refl w.heap.size w)
 have H : ((qD.f a0_0 a0_1 a0_2 l0_3 1048576).bind fun t321 => (if t321 < 0 then (some true) else ((zE.f k a0_0 a0_1 a0_2 l0_3).bind fun bt322 => ((qV.f k bt322.1 bt322.2.1 bt322.2.2.1 bt322.2.2.2 a1).bind fun t328 => ((zE.f k a0_0 a0_1 a0_2 l0_3).bind fun bt329 => ((zS.f k bt329.1 bt329.2.1 bt329.2.2.1 bt329.2.2.2 a1).bind fun t336 => (if t336 = t328 then ((zE.f k a0_0 a0_1 a0_2 l0_3).bind fun bt337 => ((zB.f k bt329.1 bt329.2.1 bt329.2.2.1 bt329.2.2.2 bt337.1 bt337.2.1 bt337.2.2.1 bt337.2.2.2).bind fun t343 => (if t343 = true then (some true) else (none)))) else (none)))))))) = some r := h
 clear h
 replace H := Option.bind_eq_some_iff.mp H
 obtain ⟨t321, A30, H⟩ := H
 replace H : (if t321 < 0 then (some true) else ((zE.f k a0_0 a0_1 a0_2 l0_3).bind fun bt322 => ((qV.f k bt322.1 bt322.2.1 bt322.2.2.1 bt322.2.2.2 a1).bind fun t328 => ((zE.f k a0_0 a0_1 a0_2 l0_3).bind fun bt329 => ((zS.f k bt329.1 bt329.2.1 bt329.2.2.1 bt329.2.2.2 a1).bind fun t336 => (if t336 = t328 then ((zE.f k a0_0 a0_1 a0_2 l0_3).bind fun bt337 => ((zB.f k bt329.1 bt329.2.1 bt329.2.2.1 bt329.2.2.2 bt337.1 bt337.2.1 bt337.2.2.1 bt337.2.2.2).bind fun t343 => (if t343 = true then (some true) else (none)))) else (none))))))) = some r := H
 have A3 := Aside0.mk A30
 clear A30
 by_cases c4 : t321 < 0
 ·rw [if_pos c4] at H
  have c4b0 : decide (t321 < 0) = true := decide_eq_true c4
  clear c4
  obtain rfl := Option.some.inj H
  go_enter Try.func8, Try.ntmps8
  go_wp2_with (first | ((with_reducible refine zC (N := 2) rfl ?_); refine zD ?hg (N := 2) ?hd (cs := #[.int .i64 a0_0, .int .i64 a0_1, .int .i64 a0_2, .slice A0_3 l0_3.length c0_3]) (t := 24) ?hr ?_; (case hd => rfl); (case hg => rfl); (case hr => exact sqG); intro gb320 hg w5 hbox hb; have n0_ := Aside0.mk (zg sqB hb); have n1_ := Aside0.mk (hbox); have n2_ := Aside0.mk ((sqS hg : w.heap.size ≤ gb320)); have n3_ := Aside0.mk ((sqS hg : w.heap.size ≤ gb320)); clear HB; have HB := n0_; have BK320 := n1_; have GW320 := n2_; have GE320 := n3_; clear n0_ n1_ n2_ n3_; clear hb hbox hg; have hcz6_0 : w5.cell? ⟨gb320, 0, none⟩ = some (.int .i64 a0_0) := (zb BK320.out 0).trans rfl; have hcz6_1 : w5.cell? ⟨gb320, 1, none⟩ = some (.int .i64 a0_1) := (zb BK320.out 1).trans rfl; have hcz6_2 : w5.cell? ⟨gb320, 2, none⟩ = some (.int .i64 a0_2) := (zb BK320.out 2).trans rfl; have hcz6_3 : w5.cell? ⟨gb320, 3, none⟩ = some (.slice A0_3 l0_3.length c0_3) := (zb BK320.out 3).trans rfl; have hfz6_0 := za BK320.out 0; have hfz6_1 := za BK320.out 1; have hfz6_2 := za BK320.out 2; have hfz6_3 := za BK320.out 3) | ((with_reducible refine zp (f := 11) rfl ?_); refine zP (some 11) rfl rfl Try.func11 (by kernel_rfl) rfl #[.agg #[.int .i64 a0_0, .int .i64 a0_1, .int .i64 a0_2, .slice A0_3 l0_3.length c0_3], .int .i64 1048576] rfl sqM ?_; (with_reducible refine (qD.calls a0_0 a0_1 a0_2 _ _ l0_3 1048576 t321 _ ?side1 ?side2 A3.out).mono ?_); (case side1 => exact sqC (Kd.z1 HR0_3.out HB.out)); (case side2 => exact HC0_3.out); rintro e w7 ⟨rfl, hb⟩; refine ⟨_, rfl, ?_⟩; have n0_ := Aside0.mk (ze (g := gb320) (o := .cells #[.int .i64 a0_0, .int .i64 a0_1, .int .i64 a0_2, .slice A0_3 l0_3.length c0_3] 24 (0, 0)) (sqK BK320.out) hb); have n1_ := Aside0.mk (zg sqB hb); clear BK320; clear HB; have BK320 := n0_; have HB := n1_; clear n0_ n1_; (try clear hb); (try clear hb2); (try clear hk); (try clear hi)))
  go_ret
  exact ⟨sqE, sqB⟩
 ·rw [if_neg c4] at H
  have c4b0 : decide (t321 < 0) = false := decide_eq_false c4
  clear c4
  replace H := Option.bind_eq_some_iff.mp H
  obtain ⟨⟨t322, t323, t324, t325⟩, A80, H⟩ := H
  replace H : ((qV.f k t322 t323 t324 t325 a1).bind fun t328 => ((zE.f k a0_0 a0_1 a0_2 l0_3).bind fun bt329 => ((zS.f k bt329.1 bt329.2.1 bt329.2.2.1 bt329.2.2.2 a1).bind fun t336 => (if t336 = t328 then ((zE.f k a0_0 a0_1 a0_2 l0_3).bind fun bt337 => ((zB.f k bt329.1 bt329.2.1 bt329.2.2.1 bt329.2.2.2 bt337.1 bt337.2.1 bt337.2.2.1 bt337.2.2.2).bind fun t343 => (if t343 = true then (some true) else (none)))) else (none))))) = some r := H
  have A8 := Aside0.mk A80
  clear A80
  replace H := Option.bind_eq_some_iff.mp H
  obtain ⟨t328, A90, H⟩ := H
  replace H : ((zE.f k a0_0 a0_1 a0_2 l0_3).bind fun bt329 => ((zS.f k bt329.1 bt329.2.1 bt329.2.2.1 bt329.2.2.2 a1).bind fun t336 => (if t336 = t328 then ((zE.f k a0_0 a0_1 a0_2 l0_3).bind fun bt337 => ((zB.f k bt329.1 bt329.2.1 bt329.2.2.1 bt329.2.2.2 bt337.1 bt337.2.1 bt337.2.2.1 bt337.2.2.2).bind fun t343 => (if t343 = true then (some true) else (none)))) else (none)))) = some r := H
  have A9 := Aside0.mk A90
  clear A90
  replace H := Option.bind_eq_some_iff.mp H
  obtain ⟨⟨t329, t330, t331, t332⟩, A100, H⟩ := H
  replace H : ((zS.f k t329 t330 t331 t332 a1).bind fun t336 => (if t336 = t328 then ((zE.f k a0_0 a0_1 a0_2 l0_3).bind fun bt337 => ((zB.f k t329 t330 t331 t332 bt337.1 bt337.2.1 bt337.2.2.1 bt337.2.2.2).bind fun t343 => (if t343 = true then (some true) else (none)))) else (none))) = some r := H
  have A10 := Aside0.mk A100
  clear A100
  replace H := Option.bind_eq_some_iff.mp H
  obtain ⟨t336, A110, H⟩ := H
  replace H : (if t336 = t328 then ((zE.f k a0_0 a0_1 a0_2 l0_3).bind fun bt337 => ((zB.f k t329 t330 t331 t332 bt337.1 bt337.2.1 bt337.2.2.1 bt337.2.2.2).bind fun t343 => (if t343 = true then (some true) else (none)))) else (none)) = some r := H
  have A11 := Aside0.mk A110
  clear A110
  by_cases c12 : t336 = t328
  ·rw [if_pos c12] at H
   have c12b0 : (t336 == t328) = true := beq_iff_eq.mpr c12
   have c12b1 : (t336 != t328) = false := bne_eq_false_iff_eq.mpr c12
   clear c12
   replace H := Option.bind_eq_some_iff.mp H
   obtain ⟨⟨t337, t338, t339, t340⟩, A130, H⟩ := H
   replace H : ((zB.f k t329 t330 t331 t332 t337 t338 t339 t340).bind fun t343 => (if t343 = true then (some true) else (none))) = some r := H
   have A13 := Aside0.mk A130
   clear A130
   replace H := Option.bind_eq_some_iff.mp H
   obtain ⟨t343, A140, H⟩ := H
   replace H : (if t343 = true then (some true) else (none)) = some r := H
   have A14 := Aside0.mk A140
   clear A140
   by_cases c15 : t343 = true
   ·subst c15
    have H1 : (some true) = some r := by rw [if_pos rfl] at H; exact H
    clear H
    have H := H1
    clear H1
    obtain rfl := Option.some.inj H
    go_enter Try.func8, Try.ntmps8
    try go_wp2_with (first | ((with_reducible refine zC (N := 2) rfl ?_); refine zD ?hg (N := 2) ?hd (cs := #[.int .i64 a0_0, .int .i64 a0_1, .int .i64 a0_2, .slice A0_3 l0_3.length c0_3]) (t := 24) ?hr ?_; (case hd => rfl); (case hg => rfl); (case hr => exact sqG); intro gb320 hg w16 hbox hb; have n0_ := Aside0.mk (zg sqB hb); have n1_ := Aside0.mk (hbox); have n2_ := Aside0.mk ((sqS hg : w.heap.size ≤ gb320)); have n3_ := Aside0.mk ((sqS hg : w.heap.size ≤ gb320)); clear HB; have HB := n0_; have BK320 := n1_; have GW320 := n2_; have GE320 := n3_; clear n0_ n1_ n2_ n3_; clear hb hbox hg; have hcz17_0 : w16.cell? ⟨gb320, 0, none⟩ = some (.int .i64 a0_0) := (zb BK320.out 0).trans rfl; have hcz17_1 : w16.cell? ⟨gb320, 1, none⟩ = some (.int .i64 a0_1) := (zb BK320.out 1).trans rfl; have hcz17_2 : w16.cell? ⟨gb320, 2, none⟩ = some (.int .i64 a0_2) := (zb BK320.out 2).trans rfl; have hcz17_3 : w16.cell? ⟨gb320, 3, none⟩ = some (.slice A0_3 l0_3.length c0_3) := (zb BK320.out 3).trans rfl; have hfz17_0 := za BK320.out 0; have hfz17_1 := za BK320.out 1; have hfz17_2 := za BK320.out 2; have hfz17_3 := za BK320.out 3) | ((with_reducible refine zp (f := 11) rfl ?_); refine zP (some 11) rfl rfl Try.func11 (by kernel_rfl) rfl #[.agg #[.int .i64 a0_0, .int .i64 a0_1, .int .i64 a0_2, .slice A0_3 l0_3.length c0_3], .int .i64 1048576] rfl sqM ?_; (with_reducible refine (qD.calls a0_0 a0_1 a0_2 _ _ l0_3 1048576 t321 _ ?side1 ?side2 A3.out).mono ?_); (case side1 => exact sqC (Kd.z1 HR0_3.out HB.out)); (case side2 => exact HC0_3.out); rintro e w18 ⟨rfl, hb⟩; refine ⟨_, rfl, ?_⟩; have n0_ := Aside0.mk (ze (g := gb320) (o := .cells #[.int .i64 a0_0, .int .i64 a0_1, .int .i64 a0_2, .slice A0_3 l0_3.length c0_3] 24 (0, 0)) (sqK BK320.out) hb); have n1_ := Aside0.mk (zg sqB hb); clear BK320; clear HB; have BK320 := n0_; have HB := n1_; clear n0_ n1_; (try clear hb); (try clear hb2); (try clear hk); (try clear hi); have hcz19_0 : w18.cell? ⟨gb320, 0, none⟩ = some (.int .i64 a0_0) := (zb BK320.out 0).trans rfl; have hcz19_1 : w18.cell? ⟨gb320, 1, none⟩ = some (.int .i64 a0_1) := (zb BK320.out 1).trans rfl; have hcz19_2 : w18.cell? ⟨gb320, 2, none⟩ = some (.int .i64 a0_2) := (zb BK320.out 2).trans rfl; have hcz19_3 : w18.cell? ⟨gb320, 3, none⟩ = some (.slice A0_3 l0_3.length c0_3) := (zb BK320.out 3).trans rfl; have hfz19_0 := za BK320.out 0; have hfz19_1 := za BK320.out 1; have hfz19_2 := za BK320.out 2; have hfz19_3 := za BK320.out 3) | ((with_reducible refine zp (f := 13) rfl ?_); refine zP (some 15) rfl rfl Try.func13 (by kernel_rfl) rfl #[.agg #[.int .i64 a0_0, .int .i64 a0_1, .int .i64 a0_2, .slice A0_3 l0_3.length c0_3]] rfl sqM ?_; (with_reducible refine (zE.calls k a0_0 a0_1 a0_2 _ _ l0_3 t322 t323 t324 t325 _ ?side1 ?side2 A8.out).mono ?_); (case side1 => exact sqC (Kd.z1 HR0_3.out HB.out)); (case side2 => exact HC0_3.out); rintro e w20 ⟨v326, rfl, ho0, hb⟩; refine ⟨_, rfl, ?_⟩; have n0_ := Aside0.mk (Kd.qo ho0 (zJ sqB)); have n1_ := Aside0.mk (ze (g := gb320) (o := .cells #[.int .i64 a0_0, .int .i64 a0_1, .int .i64 a0_2, .slice A0_3 l0_3.length c0_3] 24 (0, 0)) (sqK BK320.out) hb); have n2_ := Aside0.mk (zg sqB hb); clear BK320; clear HB; have HO327 := n0_; have BK320 := n1_; have HB := n2_; clear n0_ n1_ n2_; (try clear hb); (try clear hb2); (try clear hk); (try clear hi); (try clear ho0); obtain ⟨Ao21, co21, eo21⟩ := Kd.zU HO327.out; subst eo21) | ((with_reducible refine zp (f := 30) rfl ?_); refine zP (some 17) rfl rfl Try.func30 (by kernel_rfl) rfl #[.agg #[.int .i64 t322, .int .i64 t323, .int .i64 t324, .slice Ao21 t325.length co21], .int .i64 a1] rfl sqM ?_; (with_reducible refine (qV.calls k t322 t323 t324 _ _ t325 a1 t328 _ ?side1 ?side2 A9.out).mono ?_); (case side1 => exact sqC (Kd.zu HO327.out).2.2); (case side2 => exact (Kd.zu HO327.out).2.1); rintro e w22 ⟨rfl, hb⟩; refine ⟨_, rfl, ?_⟩; have n0_ := Aside0.mk (Kd.zG (sqR HO327.out) hb); have n1_ := Aside0.mk (ze (g := gb320) (o := .cells #[.int .i64 a0_0, .int .i64 a0_1, .int .i64 a0_2, .slice A0_3 l0_3.length c0_3] 24 (0, 0)) (sqK BK320.out) hb); have n2_ := Aside0.mk (zg sqB hb); clear HO327; clear BK320; clear HB; have HO327 := n0_; have BK320 := n1_; have HB := n2_; clear n0_ n1_ n2_; (try clear hb); (try clear hb2); (try clear hk); (try clear hi); have hcz23_0 : w22.cell? ⟨gb320, 0, none⟩ = some (.int .i64 a0_0) := (zb BK320.out 0).trans rfl; have hcz23_1 : w22.cell? ⟨gb320, 1, none⟩ = some (.int .i64 a0_1) := (zb BK320.out 1).trans rfl; have hcz23_2 : w22.cell? ⟨gb320, 2, none⟩ = some (.int .i64 a0_2) := (zb BK320.out 2).trans rfl; have hcz23_3 : w22.cell? ⟨gb320, 3, none⟩ = some (.slice A0_3 l0_3.length c0_3) := (zb BK320.out 3).trans rfl; have hfz23_0 := za BK320.out 0; have hfz23_1 := za BK320.out 1; have hfz23_2 := za BK320.out 2; have hfz23_3 := za BK320.out 3) | ((with_reducible refine zp (f := 13) rfl ?_); refine zP (some 19) rfl rfl Try.func13 (by kernel_rfl) rfl #[.agg #[.int .i64 a0_0, .int .i64 a0_1, .int .i64 a0_2, .slice A0_3 l0_3.length c0_3]] rfl sqM ?_; (with_reducible refine (zE.calls k a0_0 a0_1 a0_2 _ _ l0_3 t329 t330 t331 t332 _ ?side1 ?side2 A10.out).mono ?_); (case side1 => exact sqC (Kd.z1 HR0_3.out HB.out)); (case side2 => exact HC0_3.out); rintro e w24 ⟨v333, rfl, ho0, hb⟩; refine ⟨_, rfl, ?_⟩; have n0_ := Aside0.mk (Kd.qg (sqR HO327.out) (Kd.qC ho0) hb); have n1_ := Aside0.mk (Kd.qo (Kd.qG ho0 (Kd.jg (sqR HO327.out))) (zJ sqB)); have n2_ := Aside0.mk (ze (g := gb320) (o := .cells #[.int .i64 a0_0, .int .i64 a0_1, .int .i64 a0_2, .slice A0_3 l0_3.length c0_3] 24 (0, 0)) (sqK BK320.out) hb); have n3_ := Aside0.mk (zg sqB hb); clear HO327; clear BK320; clear HB; have HO327 := n0_; have HO334 := n1_; have BK320 := n2_; have HB := n3_; clear n0_ n1_ n2_ n3_; (try clear hb); (try clear hb2); (try clear hk); (try clear hi); (try clear ho0)) | ((with_reducible refine zC (N := 7) rfl ?_); refine zD ?hg (N := 7) ?hd (cs := #[.int .i64 0, .int .i64 0, .int .i64 0, .slice none 0 0]) (t := 27) ?hr ?_; (case hd => rfl); (case hg => rfl); (case hr => exact sqG); intro gb335 hg w25 hbox hb; have n0_ := Aside0.mk (Kd.zG (sqR HO327.out) hb); have n1_ := Aside0.mk (Kd.zG (sqR HO334.out) hb); have n2_ := Aside0.mk (ze (g := gb320) (o := .cells #[.int .i64 a0_0, .int .i64 a0_1, .int .i64 a0_2, .slice A0_3 l0_3.length c0_3] 24 (0, 0)) (sqK BK320.out) hb); have n3_ := Aside0.mk (zg sqB hb); have n4_ := Aside0.mk (hbox); have n5_ := Aside0.mk ((sqS hg : w.heap.size ≤ gb335)); have n6_ := Aside0.mk ((sqS hg : w.heap.size ≤ gb335)); have n7_ := Aside0.mk ((by rw [hg]; exact Nat.ne_of_lt (zI (g := gb320) (o := .cells #[.int .i64 a0_0, .int .i64 a0_1, .int .i64 a0_2, .slice A0_3 l0_3.length c0_3] 24 (0, 0)) (sqK BK320.out)) : gb320 ≠ gb335)); have n8_ := Aside0.mk ((by rw [hg]; exact Nat.ne_of_gt (zI (g := gb320) (o := .cells #[.int .i64 a0_0, .int .i64 a0_1, .int .i64 a0_2, .slice A0_3 l0_3.length c0_3] 24 (0, 0)) (sqK BK320.out)) : gb335 ≠ gb320)); clear HO327; clear HO334; clear BK320; clear HB; have HO327 := n0_; have HO334 := n1_; have BK320 := n2_; have HB := n3_; have BK335 := n4_; have GW335 := n5_; have GE335 := n6_; have NB320_335 := n7_; have NB335_320 := n8_; clear n0_ n1_ n2_ n3_ n4_ n5_ n6_ n7_ n8_; clear hb hbox hg; have hnb26 := NB335_320.out; have hnc26 := NB320_335.out; have hcz27_0 : w25.cell? ⟨gb335, 0, none⟩ = some (.int .i64 0) := (zb BK335.out 0).trans rfl; have hcz27_1 : w25.cell? ⟨gb335, 1, none⟩ = some (.int .i64 0) := (zb BK335.out 1).trans rfl; have hcz27_2 : w25.cell? ⟨gb335, 2, none⟩ = some (.int .i64 0) := (zb BK335.out 2).trans rfl; have hcz27_3 : w25.cell? ⟨gb335, 3, none⟩ = some (.slice none 0 0) := (zb BK335.out 3).trans rfl; have hfz27_0 := za BK335.out 0; have hfz27_1 := za BK335.out 1; have hfz27_2 := za BK335.out 2; have hfz27_3 := za BK335.out 3; obtain ⟨Ao28, co28, eo28⟩ := Kd.zU HO334.out; subst eo28) | ((with_reducible refine zp (f := 31) rfl ?_); refine zP (some 22) rfl rfl Try.func31 (by kernel_rfl) rfl #[.agg #[.int .i64 t329, .int .i64 t330, .int .i64 t331, .slice Ao28 t332.length co28], .int .i64 a1] rfl sqM ?_; (with_reducible refine (zS.calls k t329 t330 t331 _ _ t332 a1 t336 _ ?side1 ?side2 A11.out).mono ?_); (case side1 => refine (Kd.zu (e := 3) (base := w.heap.size) (ok := fun k_ => (True ∧ some k_ ≠ (.slice Ao21 t325.length co21 : Value).ownBlock)) (n := t332.length) (c := co28) ?_).2.2; exact (by refine sqR ?_; exact (Kd.zo (Kd.zj (p := ⟨gb335, 3, none⟩) (Kd.zj (p := ⟨gb335, 2, none⟩) (Kd.zj (p := ⟨gb335, 1, none⟩) (Kd.zj (p := ⟨gb335, 0, none⟩) (Kd.zF HO334.out BK335.out (by decide)) (fun _ hk => hk.2) (.int .i64 t329)) (fun _ hk => hk.2) (.int .i64 t330)) (fun _ hk => hk.2) (.int .i64 t331)) (fun _ hk => hk.2) (.slice Ao28 t332.length co28)) (fun _ h_ => h_.1)))); (case side2 => exact (Kd.zu HO334.out).2.1); rintro e w29 ⟨rfl, hb⟩; refine ⟨_, rfl, ?_⟩; have n0_ := Aside0.mk (Kd.zG (by refine sqR ?_; exact (Kd.zo (Kd.zj (p := ⟨gb335, 3, none⟩) (Kd.zj (p := ⟨gb335, 2, none⟩) (Kd.zj (p := ⟨gb335, 1, none⟩) (Kd.zj (p := ⟨gb335, 0, none⟩) (Kd.zF HO327.out BK335.out (by decide)) (fun _ hk => hk.2) (.int .i64 t329)) (fun _ hk => hk.2) (.int .i64 t330)) (fun _ hk => hk.2) (.int .i64 t331)) (fun _ hk => hk.2) (.slice Ao28 t332.length co28)) (fun _ h_ => h_.1))) hb); have n1_ := Aside0.mk (Kd.zG (by refine sqR ?_; exact (Kd.zo (Kd.zj (p := ⟨gb335, 3, none⟩) (Kd.zj (p := ⟨gb335, 2, none⟩) (Kd.zj (p := ⟨gb335, 1, none⟩) (Kd.zj (p := ⟨gb335, 0, none⟩) (Kd.zF HO334.out BK335.out (by decide)) (fun _ hk => hk.2) (.int .i64 t329)) (fun _ hk => hk.2) (.int .i64 t330)) (fun _ hk => hk.2) (.int .i64 t331)) (fun _ hk => hk.2) (.slice Ao28 t332.length co28)) (fun _ h_ => h_.1))) hb); have n2_ := Aside0.mk (ze (g := gb320) (o := .cells #[.int .i64 a0_0, .int .i64 a0_1, .int .i64 a0_2, .slice A0_3 l0_3.length c0_3] 24 (0, 0)) (by refine sqK ?_; refine zi ?_ NB320_335.out _; refine sqK ?_; refine zi ?_ NB320_335.out _; refine sqK ?_; refine zi ?_ NB320_335.out _; refine sqK ?_; refine zi ?_ NB320_335.out _; refine sqK ?_; exact BK320.out) hb); have n3_ := Aside0.mk (ze (g := gb335) (o := .cells #[.int .i64 t329, .int .i64 t330, .int .i64 t331, .slice Ao28 t332.length co28] 27 (0, 0)) (by refine sqK ?_; refine zy (cs := #[.int .i64 t329, .int .i64 t330, .int .i64 t331, .slice none 0 0]) ?_ 3 _ rfl; refine sqK ?_; refine zy (cs := #[.int .i64 t329, .int .i64 t330, .int .i64 0, .slice none 0 0]) ?_ 2 _ rfl; refine sqK ?_; refine zy (cs := #[.int .i64 t329, .int .i64 0, .int .i64 0, .slice none 0 0]) ?_ 1 _ rfl; refine sqK ?_; refine zy (cs := #[.int .i64 0, .int .i64 0, .int .i64 0, .slice none 0 0]) ?_ 0 _ rfl; refine sqK ?_; exact BK335.out) hb); have n4_ := Aside0.mk (zg sqB hb); clear HO327; clear HO334; clear BK320; clear BK335; clear HB; have HO327 := n0_; have HO334 := n1_; have BK320 := n2_; have BK335 := n3_; have HB := n4_; clear n0_ n1_ n2_ n3_ n4_; (try clear hb); (try clear hb2); (try clear hk); (try clear hi)))
    have n0_ := Aside0.mk (Kd.qM HO327.out)
    have n1_ := Aside0.mk (Kd.qM HO334.out)
    have n2_ := Aside0.mk (qd BK320.out)
    have n3_ := Aside0.mk (qd BK335.out)
    have n4_ := Aside0.mk (zT HB.out)
    clear HO327 HO334 BK320 BK335 HB; have HO327 := n0_; have HO334 := n1_; have BK320 := n2_; have BK335 := n3_; have HB := n4_; clear n0_ n1_ n2_ n3_ n4_
    refine jU (n := 5) (S := fun w' => w'.cell? ⟨gb335, 0, none⟩ = some (.int .i64 t329) ∧ w'.cell? ⟨gb335, 1, none⟩ = some (.int .i64 t330) ∧ w'.cell? ⟨gb335, 2, none⟩ = some (.int .i64 t331) ∧ w'.cell? ⟨gb335, 3, none⟩ = some (.slice Ao28 t332.length co28) ∧ w'.cell? ⟨gb320, 0, none⟩ = some (.int .i64 a0_0) ∧ w'.cell? ⟨gb320, 1, none⟩ = some (.int .i64 a0_1) ∧ w'.cell? ⟨gb320, 2, none⟩ = some (.int .i64 a0_2) ∧ w'.cell? ⟨gb320, 3, none⟩ = some (.slice A0_3 l0_3.length c0_3)) (ds := []) #[false, false, false, false, false] (by kernel_rfl) rfl rfl ⟨(zb BK335.out 0).trans rfl, (zb BK335.out 1).trans rfl, (zb BK335.out 2).trans rfl, (zb BK335.out 3).trans rfl, (zb BK320.out 0).trans rfl, (zb BK320.out 1).trans rfl, (zb BK320.out 2).trans rfl, (zb BK320.out 3).trans rfl⟩ (fun hHeld => ?_)
    generalize w29.drew = w30 at HO327 HO334 BK320 BK335 HB hHeld ⊢
    refine qe (i := 0) (N := some 26) (v := ?_) (a' := ?_) #[true, false, false, false, false] rfl rfl (by kernel_rfl) (fun _ _ _ h => h) (Or.inl ⟨by rfl, ?_⟩) hHeld ?_ ?_
    rotate_left
    ·rintro w' ⟨s0, s1, s2, s3, s4, s5, s6, s7⟩; go_simp; with_reducible rfl
    rotate_left
    ·simp only [Act.put, List.setIfInBounds_toArray, List.set_cons_zero, List.set_cons_succ, zf, zh]; rfl
    refine qe (i := 1) (N := some 27) (v := ?_) (a' := ?_) #[true, true, false, false, false] rfl rfl (by kernel_rfl) (fun _ _ _ h => h) (Or.inl ⟨by rfl, ?_⟩) hHeld ?_ ?_
    rotate_left
    ·rintro w' ⟨s0, s1, s2, s3, s4, s5, s6, s7⟩; go_simp; with_reducible rfl
    rotate_left
    ·simp only [Act.put, List.setIfInBounds_toArray, List.set_cons_zero, List.set_cons_succ, zf, zh]; rfl
    refine Zq (i := 2) (N := some 28) #[true, true, true, false, false] rfl rfl (by kernel_rfl) (by decide) (fun K hK => ?_)
    refine yX Try.func13 (by kernel_rfl) rfl #[.agg #[.int .i64 a0_0, .int .i64 a0_1, .int .i64 a0_2, .slice A0_3 l0_3.length c0_3]] (by rfl) rfl rfl sqM ?_
    with_reducible refine (zE.calls k a0_0 a0_1 a0_2 _ _ l0_3 t337 t338 t339 t340 _ ?side1 ?side2 A13.out).mono ?_
    (case side1 => exact sqC (Kd.z1 HR0_3.out HB.out))
    (case side2 => exact HC0_3.out)
    rintro e w31 ⟨v341, rfl, ho0, hb⟩
    refine ⟨_, rfl, ?_⟩
    have n0_ := Aside0.mk (Kd.qg (sqR HO327.out) (Kd.qC ho0) hb)
    have n1_ := Aside0.mk (Kd.qg (sqR HO334.out) (Kd.qC ho0) hb)
    have n2_ := Aside0.mk (Kd.qo (Kd.qG (Kd.qG ho0 (Kd.jg (sqR HO327.out))) (Kd.jg (sqR HO334.out))) (zJ sqB))
    have n3_ := Aside0.mk (ze (g := gb320) (o := .cells #[.int .i64 a0_0, .int .i64 a0_1, .int .i64 a0_2, .slice A0_3 l0_3.length c0_3] 24 (0, 0)) (sqK BK320.out) hb)
    have n4_ := Aside0.mk (ze (g := gb335) (o := .cells #[.int .i64 t329, .int .i64 t330, .int .i64 t331, .slice Ao28 t332.length co28] 27 (0, 0)) (sqK BK335.out) hb)
    have n5_ := Aside0.mk (zg sqB hb)
    clear HO327 HO334 BK320 BK335 HB; have HO327 := n0_; have HO334 := n1_; have HO342 := n2_; have BK320 := n3_; have BK335 := n4_; have HB := n5_; clear n0_ n1_ n2_ n3_ n4_ n5_; (try clear hb); (try clear hb2); (try clear hk); (try clear hi); (try clear ho0)
    obtain ⟨Ao32, co32, eo32⟩ := Kd.zU HO342.out
    (first | subst eo32 | (injection eo32 with f1_ f2_ f3_; have f4_ := f1_.symm; have f5_ := f3_.symm; clear f1_ f2_ f3_; subst f4_; subst f5_))
    refine hK.out _ _ ⟨(zb BK335.out 0).trans rfl, (zb BK335.out 1).trans rfl, (zb BK335.out 2).trans rfl, (zb BK335.out 3).trans rfl, (zb BK320.out 0).trans rfl, (zb BK320.out 1).trans rfl, (zb BK320.out 2).trans rfl, (zb BK320.out 3).trans rfl⟩ (fun hHeld => ?_)
    clear hK K
    refine yi (a' := ?_) ?_ ?_
    rotate_left
    ·show Act.put _ (some 28) _ = _; simp only [Act.put, List.setIfInBounds_toArray, List.set_cons_zero, List.set_cons_succ, zf, zh]; rfl
    refine Zq (i := 3) (N := some 29) #[true, true, true, true, false] rfl rfl (by kernel_rfl) (by decide) (fun K hK => ?_)
    refine yX Try.func15 (by kernel_rfl) rfl #[.agg #[.int .i64 t329, .int .i64 t330, .int .i64 t331, .slice Ao28 t332.length co28], .agg #[.int .i64 t337, .int .i64 t338, .int .i64 t339, .slice Ao32 t340.length co32]] (by rfl) rfl rfl sqM ?_
    with_reducible refine (zB.calls k t329 t330 t331 _ _ t332 t337 t338 t339 _ _ t340 true _ ?side1 ?side2 ?side3 ?side4 A14.out).mono ?_
    (case side1 => exact sqC (Kd.zu HO334.out).2.2)
    (case side2 => exact (Kd.zu HO334.out).2.1)
    (case side3 => exact sqC (Kd.zu HO342.out).2.2)
    (case side4 => exact (Kd.zu HO342.out).2.1)
    rintro e w33 ⟨rfl, hb⟩
    refine ⟨_, rfl, ?_⟩
    have n0_ := Aside0.mk (Kd.zG (sqR HO327.out) hb)
    have n1_ := Aside0.mk (Kd.zG (sqR HO334.out) hb)
    have n2_ := Aside0.mk (Kd.zG (sqR HO342.out) hb)
    have n3_ := Aside0.mk (ze (g := gb320) (o := .cells #[.int .i64 a0_0, .int .i64 a0_1, .int .i64 a0_2, .slice A0_3 l0_3.length c0_3] 24 (0, 0)) (sqK BK320.out) hb)
    have n4_ := Aside0.mk (ze (g := gb335) (o := .cells #[.int .i64 t329, .int .i64 t330, .int .i64 t331, .slice Ao28 t332.length co28] 27 (0, 0)) (sqK BK335.out) hb)
    have n5_ := Aside0.mk (zg sqB hb)
    clear HO327 HO334 HO342 BK320 BK335 HB; have HO327 := n0_; have HO334 := n1_; have HO342 := n2_; have BK320 := n3_; have BK335 := n4_; have HB := n5_; clear n0_ n1_ n2_ n3_ n4_ n5_; (try clear hb); (try clear hb2); (try clear hk); (try clear hi)
    refine hK.out _ _ ⟨(zb BK335.out 0).trans rfl, (zb BK335.out 1).trans rfl, (zb BK335.out 2).trans rfl, (zb BK335.out 3).trans rfl, (zb BK320.out 0).trans rfl, (zb BK320.out 1).trans rfl, (zb BK320.out 2).trans rfl, (zb BK320.out 3).trans rfl⟩ (fun hHeld => ?_)
    clear hK K
    refine yi (a' := ?_) ?_ ?_
    rotate_left
    ·show Act.put _ (some 29) _ = _; simp only [Act.put, List.setIfInBounds_toArray, List.set_cons_zero, List.set_cons_succ, zf, zh]; rfl
    refine zx (i := 4) (N := some 30) (v := ?_) (a' := ?_) #[true, true, true, true, true] rfl rfl (by kernel_rfl) (fun _ _ _ h => h) (Or.inl ⟨by rfl, ?_⟩) ?_ ?_
    rotate_left
    ·intro w'; go_simp; with_reducible rfl
    rotate_left
    ·simp only [Act.put, List.setIfInBounds_toArray, List.set_cons_zero, List.set_cons_succ, zf, zh]; rfl
    refine vI (by kernel_rfl) ?_
    try go_wp2
    go_ret
    exact ⟨sqE, sqB⟩
   ·replace c15 := Bool.eq_false_iff.mpr c15
    subst c15
    have H1 : (none) = some r := by rw [if_neg (show ¬ (false = true) by decide)] at H; exact H
    clear H
    have H := H1
    clear H1
    exact absurd H (by simp)
  ·rw [if_neg c12] at H
   exact absurd H (by simp)

end Go.Proofs.Ytopkfhnnapncgaa.F
end
