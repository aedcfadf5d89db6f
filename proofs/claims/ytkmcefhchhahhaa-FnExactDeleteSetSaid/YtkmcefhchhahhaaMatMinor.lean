/-
  Minors, packed: which sets are their bases. Mathematics alone.
-/
import Derived.Test.YtkmcefhchhahhaaMat3
import Derived.Test.YtkmcefhchhahhaaMat4
namespace Go.Proofs.Ytkmcefhchhahhaa.Mt
variable {n : Nat} {B : List Nat}
theorem pk_lt256 (K s : Nat) : pk K s < 256 := Nat.lt_of_lt_of_le (pk_lt K s) (Nat.pow_le_pow_right (n := 2) (by decide) (cnt_le K))
theorem cnt_up {K t : Nat} (h : t < 2 ^ cnt K) : cnt (up K t) = cnt t := by
  have := cnt_pk K (up K t)
  rw [pk_up h, sub_iff_and.1 (up_sub K t)] at this
  exact this.symm
/-- T, packed, is a base of what is left on K when S has been shrunk. -/
def minorP (B : List Nat) (K S T : Nat) : Prop := T < 2 ^ cnt K ∧ cnt T + rk B S = rk B (K ||| S) ∧ rk B (up K T ||| S) = rk B (K ||| S)
def minorN (B : List Nat) (K S : Nat) : List Nat := (List.range (2 ^ cnt K)).filter fun t => decide (cnt t + rk B S = rk B (K ||| S)) && decide (rk B (up K t ||| S) = rk B (K ||| S))
theorem mem_minorN {K S T : Nat} : T ∈ minorN B K S ↔ minorP B K S T := by
  unfold minorN minorP
  rw [List.mem_filter, List.mem_range, Bool.and_eq_true, decide_eq_true_eq, decide_eq_true_eq]
theorem minorN_sorted (K S : Nat) : (minorN B K S).Pairwise (· < ·) := List.Pairwise.filter _ List.pairwise_lt_range
theorem minorN_lt {K S T : Nat} (h : T ∈ minorN B K S) : T < 2 ^ cnt K := (mem_minorN.1 h).1
theorem minorP_congr {B' : List Nat} (h : ∀ x, x ∈ B' ↔ x ∈ B) {K S T : Nat} : minorP B' K S T ↔ minorP B K S T := by
  unfold minorP; rw [rk_congr h, rk_congr h, rk_congr h]
theorem co_or_self {S : Nat} (hS : S < 2 ^ n) : co n S ||| S = full n := by rw [Nat.or_comm]; exact or_co hS
theorem Mat.con_pk (M : Mat n B) {S T : Nat} (hS : S < 2 ^ n) : T ∈ (conB B S).map (pk (co n S)) ↔ minorP B (co n S) S T := by
  have hK : co n S < 256 := lt256 M.size (co_lt n S)
  unfold minorP
  rw [List.mem_map, co_or_self hS]
  constructor
  · rintro ⟨s, hs, rfl⟩
    obtain ⟨h1, h2, h3, h4⟩ := (M.mem_con hS).1 hs
    have hsub : sub s (co n S) := fun i hi => by
      rw [bit_co, decide_eq_true (bit_lt h1 hi)]
      have : (s &&& S).testBit i = false := by rw [h2]; exact bit_zero i
      rw [bit_and, hi] at this; simpa using this
    refine ⟨pk_lt _ _, ?_, ?_⟩
    · rw [cnt_pk, sub_iff_and.1 hsub]; exact h3
    · rw [up_pk hK hsub]; exact h4
  · rintro ⟨h1, h2, h3⟩
    have hu := up_sub (co n S) T
    refine ⟨up (co n S) T, (M.mem_con hS).2 ⟨lt_of_sub hu (co_lt n S), ?_, ?_, h3⟩, pk_up h1⟩
    · apply ext; intro i
      rw [bit_and, bit_zero]
      cases hb : (up (co n S) T).testBit i
      · rfl
      · have := hu i hb; rw [bit_co] at this; simp only [Bool.and_eq_true, Bool.not_eq_true'] at this; rw [this.2]; rfl
    · rw [cnt_up h1]; exact h2
theorem Mat.res_pk (M : Mat n B) {K T : Nat} (hK : K < 256) : T ∈ (resB B K).map (pk K) ↔ minorP B K 0 T := by
  unfold minorP
  rw [List.mem_map, rk_zero, Nat.or_zero, Nat.or_zero]
  constructor
  · rintro ⟨s, hs, rfl⟩
    obtain ⟨h1, h2, h3⟩ := (M.mem_res hK).1 hs
    have h8 : s < 256 := lt_of_sub (n := 8) h1 hK
    refine ⟨pk_lt _ _, ?_, ?_⟩
    · rw [cnt_pk, sub_iff_and.1 h1]; exact h3
    · rw [up_pk hK h1, (ind_iff M.ne h8).1 h2]; exact h3
  · rintro ⟨h1, h2, h3⟩
    have hu := up_sub K T
    have h8 : up K T < 256 := lt_of_sub (n := 8) hu hK
    have hc := cnt_up h1
    exact ⟨up K T, (M.mem_res hK).2 ⟨hu, (ind_iff M.ne h8).2 (by omega), by omega⟩, pk_up h1⟩
/-! ### the packed sets are a matroid -/
theorem pk_pow {K f : Nat} (hf : f ∈ elems K) : pk K (2 ^ f) = 2 ^ (elems K).idxOf f := ext fun k => by
  rw [bit_pk, bit_pow, bit_pow]
  by_cases hk : k < (elems K).length
  · rw [decide_eq_true hk, Bool.true_and]
    have := idxOf_getD (elems_nodup K) hk
    by_cases e : f = (elems K).getD k 0
    · have h : (elems K).idxOf f = k := by rw [e]; exact this
      rw [decide_eq_true e, decide_eq_true h]
    · rw [decide_eq_false e]
      symm; rw [decide_eq_false_iff_not]
      intro h; apply e; rw [← h]; exact (getD_idxOf hf).symm
  · have hlt := List.idxOf_lt_length_of_mem hf
    rw [decide_eq_false hk, Bool.false_and]; symm; rw [decide_eq_false_iff_not]; omega
theorem pk_ins {K s f : Nat} (hf : f ∈ elems K) : pk K (ins s f) = ins (pk K s) ((elems K).idxOf f) := by unfold ins; rw [pk_or, pk_pow hf]
theorem pk_del {K s f : Nat} (hf : f ∈ elems K) : pk K (del s f) = del (pk K s) ((elems K).idxOf f) := by unfold del; rw [pk_sdiff, pk_pow hf]
theorem pk_mat {D : List Nat} {K : Nat} (hK : K < 256) (hne : D ≠ []) (hD : ∀ b ∈ D, sub b K) (hex : ∀ a ∈ D, ∀ b ∈ D, ∀ e, a.testBit e = true → b.testBit e = false → ∃ f, b.testBit f = true ∧ a.testBit f = false ∧ ins (del a e) f ∈ D) :
    Mat (cnt K) (D.map (pk K)) where
  size := cnt_le K
  lt := fun b hb => by obtain ⟨s, _, rfl⟩ := List.mem_map.1 hb; exact pk_lt K s
  ne := fun h => hne (List.map_eq_nil_iff.1 h)
  ex := fun a ha b hb e hae hbe => by
    obtain ⟨a', ha', rfl⟩ := List.mem_map.1 ha
    obtain ⟨b', hb', rfl⟩ := List.mem_map.1 hb
    rw [bit_pk, Bool.and_eq_true, decide_eq_true_eq] at hae
    rw [bit_pk, decide_eq_true hae.1, Bool.true_and] at hbe
    have hx : (elems K).getD e 0 ∈ elems K := by rw [List.getD_eq_getElem?_getD, List.getElem?_eq_getElem hae.1]; exact List.getElem_mem hae.1
    obtain ⟨f, h1, h2, h3⟩ := hex a' ha' b' hb' _ hae.2 hbe
    have hfK : f ∈ elems K := mem_elems.2 ⟨bit_lt (n := 8) hK (hD b' hb' f h1), hD b' hb' f h1⟩
    have hlt := List.idxOf_lt_length_of_mem hfK
    refine ⟨(elems K).idxOf f, ?_, ?_, List.mem_map.2 ⟨_, h3, ?_⟩⟩
    · rw [bit_pk, getD_idxOf hfK, h1, decide_eq_true hlt]; rfl
    · rw [bit_pk, getD_idxOf hfK, h2, Bool.and_false]
    · rw [pk_ins hfK, pk_del hx, idxOf_getD (elems_nodup K) hae.1]
theorem rk_pk {D : List Nat} {K s : Nat} (hD : ∀ b ∈ D, sub b K) : rk (D.map (pk K)) (pk K s) = rk D s := by
  have key : ∀ b ∈ D, cnt (pk K s &&& pk K b) = cnt (s &&& b) := fun b hb => by
    rw [← pk_and, cnt_pk, sub_iff_and.1 (sub_trans (and_sub_right s b) (hD b hb))]
  refine Nat.le_antisymm (rk_le.2 fun x hx => ?_) (rk_le.2 fun b hb => ?_)
  · obtain ⟨b, hb, rfl⟩ := List.mem_map.1 hx
    rw [key b hb]; exact le_rk hb s
  · rw [← key b hb]; exact le_rk (List.mem_map.2 ⟨b, hb, rfl⟩) _
theorem Mat.res_sub (M : Mat n B) {K b : Nat} (hK : K < 256) (h : b ∈ resB B K) : sub b K := ((M.mem_res hK).1 h).1
theorem Mat.res_mat (M : Mat n B) {K : Nat} (hK : K < 256) : Mat (cnt K) ((resB B K).map (pk K)) := pk_mat hK (M.res_ne hK) (fun _ h => M.res_sub hK h) (M.res_ex hK)
theorem Mat.con_mat (M : Mat n B) {S : Nat} (hS : S < 2 ^ n) : Mat (cnt (co n S)) ((conB B S).map (pk (co n S))) :=
  pk_mat (lt256 M.size (co_lt n S)) (M.con_ne hS) (fun b hb i hi => by
    obtain ⟨h1, h2, _⟩ := (M.mem_con hS).1 hb
    rw [bit_co, decide_eq_true (bit_lt h1 hi)]
    have : (b &&& S).testBit i = false := by rw [h2]; exact bit_zero i
    rw [bit_and, hi] at this; simpa using this) (M.con_ex hS)
/-- First delete, then contract what is packed: the minor at once. -/
theorem Mat.minor_pk (M : Mat n B) {G S T : Nat} (hS : S < 2 ^ n) (hd : G &&& S = 0) :
    minorP ((resB B (co n G)).map (pk (co n G))) (co (cnt (co n G)) (pk (co n G) S)) (pk (co n G) S) T ↔ minorP B (sdiff (co n G) S) S T := by
  have hK1 : co n G < 256 := lt256 M.size (co_lt n G)
  generalize hK : co n G = K1 at hK1
  have hSK : sub S K1 := fun i hi => by
    rw [← hK, bit_co, decide_eq_true (bit_lt hS hi)]
    have : (G &&& S).testBit i = false := by rw [hd]; exact bit_zero i
    rw [bit_and, hi] at this; simpa using this
  have hLK : sub (sdiff K1 S) K1 := fun i hi => by rw [bit_sdiff] at hi; simp only [Bool.and_eq_true] at hi; exact hi.1
  have hK2 : co (cnt K1) (pk K1 S) = pk K1 (sdiff K1 S) := by unfold co; rw [← pk_self, pk_sdiff]
  have hcL : cnt (pk K1 (sdiff K1 S)) = cnt (sdiff K1 S) := by rw [cnt_pk, sub_iff_and.1 hLK]
  have hL8 : sdiff K1 S < 256 := lt_of_sub (n := 8) hLK hK1
  have hrk : ∀ x, sub x K1 → rk ((resB B K1).map (pk K1)) (pk K1 x) = rk B x := fun x hx => by
    rw [rk_pk (fun b hb => M.res_sub hK1 hb), M.rk_res hK1 hx]
  have hup : ∀ T, T < 2 ^ cnt (sdiff K1 S) → up (pk K1 (sdiff K1 S)) T = pk K1 (up (sdiff K1 S) T) := fun T hT => by
    have h1 : pk (pk K1 (sdiff K1 S)) (pk K1 (up (sdiff K1 S) T)) = T := by rw [pk_pk hK1 hLK, pk_up hT]
    have h2 := up_pk (K := pk K1 (sdiff K1 S)) (s := pk K1 (up (sdiff K1 S) T)) (pk_lt256 _ _) (pk_mono (up_sub _ T))
    rw [h1] at h2; exact h2
  have hor : sdiff K1 S ||| S = K1 := ext fun i => by
    rw [bit_or, bit_sdiff]
    cases hb : S.testBit i
    · simp
    · simp [hSK i hb]
  unfold minorP
  rw [hK2, hcL, ← pk_or, hor, hrk S hSK, hrk K1 (sub_refl _)]
  constructor
  · rintro ⟨h1, h2, h3⟩
    rw [hup T h1, ← pk_or, hrk _ (or_sub (sub_trans (up_sub _ T) hLK) hSK)] at h3
    exact ⟨h1, h2, h3⟩
  · rintro ⟨h1, h2, h3⟩
    refine ⟨h1, h2, ?_⟩
    rw [hup T h1, ← pk_or, hrk _ (or_sub (sub_trans (up_sub _ T) hLK) hSK)]
    exact h3
end Go.Proofs.Ytkmcefhchhahhaa.Mt
