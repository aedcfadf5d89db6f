/-
  Restriction and contraction of a matroid given by its bases; sets that are packed: the places of their elements in a greater set. Plain mathematics: no program is named.
  Conditions: as each theorem's premises say.
-/
import Derived.Test.YtkmcefhchhahhaaMat2
namespace Go.Proofs.Ytkmcefhchhahhaa.Mt
set_option linter.unusedVariables false
theorem and_comm_sub {a b : Nat} (h : sub a b) : b &&& a = a := by rw [Nat.and_comm]; exact sub_iff_and.1 h
section
variable {n : Nat} {B : List Nat}
/-! ### 9. Restriction -/
/-- The bases of what is left when all but K is deleted. -/
def resB (B : List Nat) (K : Nat) : List Nat := (B.filter fun b => decide (cnt (b &&& K) = rk B K)).map (· &&& K)
theorem Mat.mem_res (M : Mat n B) {K s : Nat} (hK : K < 256) : s ∈ resB B K ↔ sub s K ∧ ind B s ∧ cnt s = rk B K := by
  unfold resB
  rw [List.mem_map]
  constructor
  · rintro ⟨b, hb, rfl⟩
    rw [List.mem_filter] at hb
    exact ⟨and_sub_right _ _, ⟨b, hb.1, and_sub_left _ _⟩, of_decide_eq_true hb.2⟩
  · rintro ⟨h1, ⟨b, hb, h2⟩, h3⟩
    have h4 : sub s (b &&& K) := sub_and h2 h1
    have h5 : cnt (b &&& K) ≤ rk B K := by rw [Nat.and_comm]; exact le_rk hb K
    have h6 : s = b &&& K := eq_of_sub_cnt h4 (Nat.and_lt_two_pow (n := 8) _ hK) (by omega)
    exact ⟨b, List.mem_filter.2 ⟨hb, decide_eq_true (by rw [← h6]; exact h3)⟩, h6.symm⟩
theorem Mat.ind_res (M : Mat n B) {K s : Nat} (hK : K < 256) (hs : sub s K) : ind (resB B K) s ↔ ind B s := by
  constructor
  · rintro ⟨t, ht, hst⟩
    exact ind_of_sub hst ((M.mem_res hK).1 ht).2.1
  · intro h
    obtain ⟨J, h1, h2, h3, h4⟩ := M.basisIn hK h hs
    exact ⟨J, (M.mem_res hK).2 ⟨h3, h1, h4⟩, h2⟩
theorem Mat.res_ne (M : Mat n B) {K : Nat} (hK : K < 256) : resB B K ≠ [] := fun h => by
  obtain ⟨J, hJ, _⟩ := (M.ind_res hK (s := 0) (fun i hi => by rw [bit_zero] at hi; cases hi)).2 (ind_zero M.ne)
  rw [h] at hJ; cases hJ
theorem Mat.rk_res (M : Mat n B) {K s : Nat} (hK : K < 256) (hs : sub s K) : rk (resB B K) s = rk B s := by
  have hs8 : s < 256 := lt_of_sub (n := 8) hs hK
  apply Nat.le_antisymm
  · refine rk_le.2 fun b hb => ?_
    have h1 := ((M.mem_res hK).1 hb).2.1
    have h2 := (ind_iff M.ne (lt_of_sub (n := 8) (and_sub_left s b) hs8)).1 (ind_of_sub (and_sub_right _ _) h1)
    rw [← h2]; exact rk_mono (and_sub_left _ _)
  · obtain ⟨J, h1, _, h3, h4⟩ := M.basisIn hs8 (ind_zero M.ne) (fun i hi => by rw [bit_zero] at hi; cases hi)
    obtain ⟨b, hb, h5⟩ := (M.ind_res hK (sub_trans h3 hs)).2 h1
    rw [← h4]
    exact Nat.le_trans (cnt_mono (sub_and h3 h5)) (le_rk hb s)
/-- Exchange, within K. -/
theorem Mat.res_ex (M : Mat n B) {K : Nat} (hK : K < 256) : ∀ a ∈ resB B K, ∀ b ∈ resB B K, ∀ e, a.testBit e = true → b.testBit e = false → ∃ f, b.testBit f = true ∧ a.testBit f = false ∧ ins (del a e) f ∈ resB B K := by
  intro a ha b hb e hea heb
  obtain ⟨ha1, ha2, ha3⟩ := (M.mem_res hK).1 ha
  obtain ⟨hb1, hb2, hb3⟩ := (M.mem_res hK).1 hb
  have ha8 : a < 256 := lt_of_sub (n := 8) ha1 hK
  have he8 := bit_lt (n := 8) ha8 hea
  have h1 := cnt_del he8 hea
  obtain ⟨x, hx1, hx2, hx3⟩ := M.augment (ind_of_sub (del_sub a e) ha2) hb2 (by omega)
  have hxe : e ≠ x := fun h => by subst h; rw [heb] at hx1; cases hx1
  have hxa : a.testBit x = false := by rw [bit_del] at hx2; simpa [hxe] using hx2
  have hx8 := bit_lt (n := 8) (lt_of_sub (n := 8) hb1 hK) hx1
  refine ⟨x, hx1, hxa, (M.mem_res hK).2 ⟨sub_ins_of (sub_trans (del_sub a e) ha1) (hb1 x hx1), hx3, ?_⟩⟩
  rw [cnt_swap ha8 hx8 hea hxa]; exact ha3

/-! ### 10. Contraction -/
/-- The bases of what is left when S is contracted. -/
def conB (B : List Nat) (S : Nat) : List Nat := (B.filter fun b => decide (cnt (b &&& S) = rk B S)).map (sdiff · S)
theorem Mat.mem_con (M : Mat n B) {S s : Nat} (hS : S < 2 ^ n) : s ∈ conB B S ↔ s < 2 ^ n ∧ s &&& S = 0 ∧ cnt s + rk B S = rk B (full n) ∧ rk B (s ||| S) = rk B (full n) := by
  unfold conB
  rw [List.mem_map]
  constructor
  · rintro ⟨b, hb, rfl⟩
    rw [List.mem_filter] at hb
    have h1 := cnt_split b S
    have h2 : cnt (b &&& S) = rk B S := of_decide_eq_true hb.2
    have hlt : sdiff b S < 2 ^ n := lt_of_sub (fun i hi => by rw [bit_sdiff] at hi; simp at hi; exact hi.1) (M.lt b hb.1)
    refine ⟨hlt, ext fun i => by rw [bit_and, bit_sdiff, bit_zero]; cases b.testBit i <;> cases S.testBit i <;> rfl, ?_, ?_⟩
    · rw [M.rk_full hb.1 (sub_refl _)]; omega
    · refine (M.span_iff (Nat.or_lt_two_pow hlt hS)).1 ⟨b, hb.1, fun i hi => ?_⟩
      rw [bit_or, bit_sdiff, hi]; cases S.testBit i <;> rfl
  · rintro ⟨h1, h2, h3, h4⟩
    obtain ⟨b, hb, h5⟩ := rk_at M.ne (s ||| S)
    have h6 : sub b (s ||| S) := by
      refine sub_of_cnt_and (M.lt8 hb) ?_
      rw [Nat.and_comm, h5, h4, M.rk_full hb (sub_refl _)]
    have h7 := cnt_split b S
    have h8 : cnt (b &&& S) ≤ rk B S := by rw [Nat.and_comm]; exact le_rk hb S
    have h9 : sub (sdiff b S) s := fun i hi => by
      rw [bit_sdiff] at hi; simp at hi
      have := h6 i hi.1; rw [bit_or, hi.2] at this; simpa using this
    have h10 := cnt_mono h9
    have h11 := M.rk_full hb (sub_refl (full n))
    have h12 : sdiff b S = s := eq_of_sub_cnt h9 (lt256 M.size h1) (by omega)
    exact ⟨b, List.mem_filter.2 ⟨hb, decide_eq_true (by rw [h12] at h7; omega)⟩, h12⟩
/-- By an independent part of S that is as great as its rank. -/
theorem Mat.mem_con_by (M : Mat n B) {S I : Nat} (hS : S < 2 ^ n) (hI : ind B I) (hIS : sub I S) (hIc : cnt I = rk B S) {s : Nat} : s ∈ conB B S ↔ s < 2 ^ n ∧ s &&& S = 0 ∧ s ||| I ∈ B := by
  rw [M.mem_con hS]
  have hI2 : I < 2 ^ n := lt_of_sub hIS hS
  constructor
  · rintro ⟨h1, h2, h3, h4⟩
    refine ⟨h1, h2, ?_⟩
    have hd : s &&& I = 0 := ext fun i => by
      have := congrArg (fun x => Nat.testBit x i) h2
      simp only [bit_and, bit_zero] at this ⊢
      have k := hIS i
      revert this k; cases s.testBit i <;> cases S.testBit i <;> cases I.testBit i <;> simp
    have hc := cnt_disjoint hd
    have hlt : s ||| I < 2 ^ n := Nat.or_lt_two_pow h1 hI2
    -- S adds nothing to s with I
    have hr : rk B (s ||| S) = rk B (s ||| I) := by
      refine M.rk_all (Nat.or_lt_two_pow h1 hS) (or_sub (sub_or_left _ _) (sub_trans hIS (sub_or_right _ _))) fun e he => ?_
      rw [bit_or] at he
      rcases Bool.or_eq_true_iff.1 he with he | he
      · rw [ins_eq (by rw [bit_or, he, Bool.true_or])]
      · refine M.rk_ins_mono hlt (bit_lt hS he) (sub_or_right s I) ?_
        apply Nat.le_antisymm _ (rk_mono (sub_ins I e))
        rw [(ind_iff M.ne (lt256 M.size hI2)).1 hI, hIc]
        exact rk_mono (sub_ins_of hIS he)
    have hind : ind B (s ||| I) := (ind_iff M.ne (lt256 M.size hlt)).2 (by omega)
    obtain ⟨b, hb, hsb⟩ := hind
    have hbc := M.rk_full hb (sub_refl (full n))
    have : s ||| I = b := eq_of_sub_cnt hsb (M.lt8 hb) (by omega)
    rw [this]; exact hb
  · rintro ⟨h1, h2, h3⟩
    have hd : s &&& I = 0 := ext fun i => by
      have := congrArg (fun x => Nat.testBit x i) h2
      simp only [bit_and, bit_zero] at this ⊢
      have k := hIS i
      revert this k; cases s.testBit i <;> cases S.testBit i <;> cases I.testBit i <;> simp
    have hc := cnt_disjoint hd
    have hbc := M.rk_full h3 (sub_refl (full n))
    refine ⟨h1, h2, by omega, (M.span_iff (Nat.or_lt_two_pow h1 hS)).1 ⟨_, h3, or_sub (sub_or_left _ _) (sub_trans hIS (sub_or_right _ _))⟩⟩
theorem Mat.con_ne (M : Mat n B) {S : Nat} (hS : S < 2 ^ n) : conB B S ≠ [] := fun h => by
  obtain ⟨b, hb, hc⟩ := rk_at M.ne S
  have : sdiff b S ∈ conB B S := List.mem_map.2 ⟨b, List.mem_filter.2 ⟨hb, decide_eq_true (by rw [Nat.and_comm]; exact hc)⟩, rfl⟩
  rw [h] at this; cases this
theorem Mat.con_ex (M : Mat n B) {S : Nat} (hS : S < 2 ^ n) : ∀ a ∈ conB B S, ∀ b ∈ conB B S, ∀ e, a.testBit e = true → b.testBit e = false → ∃ f, b.testBit f = true ∧ a.testBit f = false ∧ ins (del a e) f ∈ conB B S := by
  obtain ⟨I, hI, _, hIS, hIc⟩ := M.basisIn (lt256 M.size hS) (ind_zero M.ne) (fun i hi => by rw [bit_zero] at hi; cases hi)
  intro a ha b hb e hea heb
  obtain ⟨ha1, ha2, ha3⟩ := (M.mem_con_by hS hI hIS hIc).1 ha
  obtain ⟨hb1, hb2, hb3⟩ := (M.mem_con_by hS hI hIS hIc).1 hb
  have bitS : ∀ {s i}, s &&& S = 0 → s.testBit i = true → S.testBit i = false := fun {s i} h hs => by
    have := congrArg (fun x => Nat.testBit x i) h; simp only [bit_and, hs, bit_zero, Bool.true_and] at this; exact this
  have hIe : I.testBit e = false := by
    cases h : I.testBit e
    · rfl
    · have := bitS ha2 hea; rw [hIS e h] at this; cases this
  obtain ⟨f, hfb, hfa, hin⟩ := M.ex _ ha3 _ hb3 e (by rw [bit_or, hea]; rfl) (by rw [bit_or, heb, hIe]; rfl)
  rw [bit_or] at hfa
  have hfa' := Bool.or_eq_false_iff.1 hfa
  have hfb' : b.testBit f = true := by rw [bit_or, hfa'.2, Bool.or_false] at hfb; exact hfb
  refine ⟨f, hfb', hfa'.1, (M.mem_con_by hS hI hIS hIc).2 ⟨ins_lt (lt_of_sub (del_sub a e) ha1) (bit_lt hb1 hfb'), ?_, ?_⟩⟩
  · apply ext; intro i
    have k1 := congrArg (fun x => Nat.testBit x i) ha2
    simp only [bit_and, bit_zero] at k1
    rw [bit_and, bit_ins, bit_del, bit_zero]
    by_cases hfi : f = i
    · subst hfi; rw [bitS hb2 hfb']; simp
    · revert k1; cases a.testBit i <;> cases S.testBit i <;> simp [hfi]
  · rwa [show ins (del a e) f ||| I = ins (del (a ||| I) e) f from ext fun i => by
      simp only [bit_or, bit_ins, bit_del]
      by_cases hei : e = i
      · subst hei; simp [hIe]
      · cases a.testBit i <;> cases I.testBit i <;> cases decide (f = i) <;> simp [hei]]
theorem Mat.rk_con (M : Mat n B) {S s : Nat} (hS : S < 2 ^ n) (hs : s < 2 ^ n) (hd : s &&& S = 0) : rk (conB B S) s + rk B S = rk B (s ||| S) := by
  have hsS : s ||| S < 2 ^ n := Nat.or_lt_two_pow hs hS
  have split : ∀ b, cnt ((s ||| S) &&& b) = cnt (s &&& sdiff b S) + cnt (b &&& S) := fun b => by
    rw [← cnt_disjoint (a := s &&& sdiff b S) (b := b &&& S) (ext fun i => by simp only [bit_and, bit_sdiff, bit_zero]; cases s.testBit i <;> cases b.testBit i <;> cases S.testBit i <;> rfl)]
    congr 1; apply ext; intro i
    have k := congrArg (fun x => Nat.testBit x i) hd
    simp only [bit_and, bit_zero] at k
    simp only [bit_and, bit_or, bit_sdiff]
    revert k; cases s.testBit i <;> cases b.testBit i <;> cases S.testBit i <;> simp
  apply Nat.le_antisymm
  · obtain ⟨d, hd', hc⟩ := rk_at (M.con_ne hS) s
    obtain ⟨b, hb, rfl⟩ := List.mem_map.1 hd'
    rw [List.mem_filter] at hb
    have h1 := of_decide_eq_true hb.2
    have h2 := split b
    have h3 := le_rk hb.1 (s ||| S)
    omega
  · obtain ⟨I, hI, _, hIS, hIc⟩ := M.basisIn (lt256 M.size hS) (ind_zero M.ne) (fun i hi => by rw [bit_zero] at hi; cases hi)
    obtain ⟨J, ⟨b, hb, hJb⟩, hIJ, hJs, hJc⟩ := M.basisIn (lt256 M.size hsS) hI (sub_trans hIS (sub_or_right _ _))
    have h1 : cnt (b &&& S) = rk B S := by
      apply Nat.le_antisymm
      · rw [Nat.and_comm]; exact le_rk hb S
      · rw [← hIc]; exact cnt_mono (sub_and (sub_trans hIJ hJb) hIS)
    have h2 : sdiff b S ∈ conB B S := List.mem_map.2 ⟨b, List.mem_filter.2 ⟨hb, decide_eq_true h1⟩, rfl⟩
    have h3 := le_rk h2 s
    have h4 := split b
    have h5 : cnt J ≤ cnt ((s ||| S) &&& b) := cnt_mono (sub_and hJs hJb)
    omega
end

/-! ### 11. Packed sets -/
theorem elems_sorted (s : Nat) : (elems s).Pairwise (· < ·) := List.Pairwise.filter _ List.pairwise_lt_range
theorem elems_nodup (s : Nat) : (elems s).Nodup := (elems_sorted s).imp fun h => Nat.ne_of_lt h
theorem elems_length (s : Nat) : (elems s).length = cnt s := by rw [cnt, List.countP_eq_length_filter]; rfl
/-- Two rising lists of the same members are one. -/
theorem sorted_ext {l l' : List Nat} (h : l.Pairwise (· < ·)) (h' : l'.Pairwise (· < ·)) (hm : ∀ x, x ∈ l ↔ x ∈ l') : l = l' := by
  induction l generalizing l' with
  | nil => cases l' with
    | nil => rfl
    | cons a l' => exact absurd ((hm a).2 (by simp)) (by simp)
  | cons a l ih =>
    cases l' with
    | nil => exact absurd ((hm a).1 (by simp)) (by simp)
    | cons b l' =>
      rw [List.pairwise_cons] at h h'
      have hab : a = b := by
        have h1 := (hm a).1 (by simp)
        have h2 := (hm b).2 (by simp)
        rw [List.mem_cons] at h1 h2
        rcases h1 with h1 | h1
        · exact h1
        · rcases h2 with h2 | h2
          · exact h2.symm
          · have := h.1 b h2; have := h'.1 a h1; omega
      subst hab
      rw [ih h.2 h'.2 fun x => ?_]
      constructor
      · intro hx
        have h1 := (hm x).1 (by simp [hx])
        rw [List.mem_cons] at h1
        rcases h1 with h1 | h1
        · subst h1; have := h.1 x hx; omega
        · exact h1
      · intro hx
        have h1 := (hm x).2 (by simp [hx])
        rw [List.mem_cons] at h1
        rcases h1 with h1 | h1
        · subst h1; have := h'.1 x hx; omega
        · exact h1
/-- The places in K of s's elements. -/
def pk (K s : Nat) : Nat := setOf (elems K).length fun k => s.testBit ((elems K).getD k 0)
/-- The elements of K at the places in t. -/
def up (K t : Nat) : Nat := setOf 8 fun e => (elems K).contains e && t.testBit ((elems K).idxOf e)
theorem bit_pk (K s k : Nat) : (pk K s).testBit k = (decide (k < (elems K).length) && s.testBit ((elems K).getD k 0)) := bit_setOf _ _ _
theorem bit_up (K t e : Nat) : (up K t).testBit e = (decide (e < 8) && ((elems K).contains e && t.testBit ((elems K).idxOf e))) := bit_setOf _ _ _
theorem pk_lt (K s : Nat) : pk K s < 2 ^ cnt K := by rw [← elems_length]; exact setOf_lt _ _
theorem getD_idxOf {l : List Nat} {e : Nat} (h : e ∈ l) : l.getD (l.idxOf e) 0 = e := by
  have h1 : l.idxOf e < l.length := List.idxOf_lt_length_of_mem h
  simp [List.getElem?_eq_getElem h1]
theorem idxOf_getD {l : List Nat} (hn : l.Nodup) {k : Nat} (h : k < l.length) : l.idxOf (l.getD k 0) = k := by
  induction l generalizing k with
  | nil => simp at h
  | cons a l ih =>
    rw [List.nodup_cons] at hn
    cases k with
    | zero => simp
    | succ k =>
      have h' : k < l.length := by simpa using h
      have hm : l.getD k 0 ∈ l := by
        rw [List.getD_eq_getElem?_getD, List.getElem?_eq_getElem h']; exact List.getElem_mem h'
      have hne : (a == l.getD k 0) = false := by
        rw [beq_eq_false_iff_ne]; intro e; exact hn.1 (e ▸ hm)
      rw [List.getD_cons_succ, List.idxOf_cons, hne, ih hn.2 h']; rfl
theorem up_pk {K s : Nat} (hK : K < 256) (h : sub s K) : up K (pk K s) = s := ext fun e => by
  rw [bit_up]
  cases hs : s.testBit e
  · by_cases he : e ∈ elems K
    · rw [bit_pk, getD_idxOf he, hs]; simp
    · simp [he]
  · have h1 := bit_lt (n := 8) hK (h e hs)
    have he : e ∈ elems K := mem_elems.2 ⟨h1, h e hs⟩
    rw [bit_pk, getD_idxOf he, hs]
    have := List.idxOf_lt_length_of_mem he
    simp [h1, he, this]
theorem pk_up {K t : Nat} (h : t < 2 ^ cnt K) : pk K (up K t) = t := ext fun k => by
  rw [bit_pk]
  by_cases hk : k < (elems K).length
  · have hmem : (elems K).getD k 0 ∈ elems K := by
      rw [List.getD_eq_getElem?_getD, List.getElem?_eq_getElem hk]; exact List.getElem_mem hk
    rw [bit_up, idxOf_getD (elems_nodup K) hk]
    have h8 := (mem_elems.1 hmem).1
    rw [List.contains_iff_mem.2 hmem, decide_eq_true h8, decide_eq_true hk]; simp
  · cases ht : t.testBit k
    · simp [hk]
    · have := bit_lt h ht; rw [← elems_length] at this; exact absurd this hk
theorem up_sub (K t : Nat) : sub (up K t) K := fun e he => by
  rw [bit_up] at he; simp at he; exact (mem_elems.1 he.2.1).2
theorem pk_and (K s t : Nat) : pk K (s &&& t) = pk K s &&& pk K t := ext fun k => by
  rw [bit_pk, bit_and, bit_and, bit_pk, bit_pk]; cases decide (k < (elems K).length) <;> simp
theorem pk_or (K s t : Nat) : pk K (s ||| t) = pk K s ||| pk K t := ext fun k => by
  rw [bit_pk, bit_or, bit_or, bit_pk, bit_pk]; cases decide (k < (elems K).length) <;> simp
theorem pk_sdiff (K s t : Nat) : pk K (sdiff s t) = sdiff (pk K s) (pk K t) := ext fun k => by
  rw [bit_pk, bit_sdiff, bit_sdiff, bit_pk, bit_pk]; cases decide (k < (elems K).length) <;> simp
theorem pk_self {K : Nat} : pk K K = full (cnt K) := ext fun k => by
  rw [bit_pk, bit_full, elems_length]
  by_cases hk : k < cnt K
  · have hk' : k < (elems K).length := by rw [elems_length]; exact hk
    have hmem : (elems K).getD k 0 ∈ elems K := by
      rw [List.getD_eq_getElem?_getD, List.getElem?_eq_getElem hk']; exact List.getElem_mem hk'
    rw [(mem_elems.1 hmem).2]; simp
  · simp [hk]
theorem range_getD_map (l : List Nat) : (List.range l.length).map (fun k => l.getD k 0) = l := by
  apply List.ext_getElem (by simp)
  intro i h1 h2
  simp [List.getElem?_eq_getElem h2]
theorem cnt_pk (K s : Nat) : cnt (pk K s) = cnt (s &&& K) := by
  have h1 : cnt (pk K s) = (List.range (elems K).length).countP fun k => s.testBit ((elems K).getD k 0) := by
    unfold cnt
    have h8 : (elems K).length ≤ 8 := by rw [elems_length]; exact cnt_le K
    obtain ⟨m, hm⟩ : ∃ m, 8 = (elems K).length + m := ⟨8 - (elems K).length, by omega⟩
    rw [show List.range 8 = List.range ((elems K).length + m) by rw [← hm], List.range_add, List.countP_append]
    have h2 : List.countP (pk K s).testBit (List.map (fun x => (elems K).length + x) (List.range m)) = 0 := by
      rw [List.countP_eq_zero]
      intro a ha
      obtain ⟨x, _, rfl⟩ := List.mem_map.1 ha
      rw [bit_pk]; simp; intro h; omega
    rw [h2, Nat.add_zero]
    refine List.countP_congr fun k hk => ?_
    rw [bit_pk, decide_eq_true (by simpa using hk)]; simp
  rw [h1, show (List.range (elems K).length).countP (fun k => s.testBit ((elems K).getD k 0)) = ((List.range (elems K).length).map (fun k => (elems K).getD k 0)).countP s.testBit from by rw [List.countP_map]; rfl, range_getD_map, elems, List.countP_filter, cnt]
  refine List.countP_congr fun e _ => ?_
  rw [bit_and]
theorem pk_mono {K s t : Nat} (h : sub s t) : sub (pk K s) (pk K t) := fun k hk => by
  rw [bit_pk] at hk ⊢; simp only [Bool.and_eq_true] at hk ⊢; exact ⟨hk.1, h _ hk.2⟩
theorem pk_inj {K s t : Nat} (hK : K < 256) (hs : sub s K) (ht : sub t K) (h : pk K s = pk K t) : s = t := by rw [← up_pk hK hs, ← up_pk hK ht, h]
/-- Packing what is packed. -/
theorem pk_pk {K L s : Nat} (hK : K < 256) (h : sub L K) : pk (pk K L) (pk K s) = pk L s := by
  have hlt : pk K L < 256 := Nat.lt_of_lt_of_le (pk_lt K L) (Nat.pow_le_pow_right (n := 2) (by decide) (cnt_le K))
  have he : (elems (pk K L)).map (fun k => (elems K).getD k 0) = elems L := by
    refine sorted_ext ?_ (elems_sorted L) fun x => ?_
    · rw [List.pairwise_map]
      refine List.Pairwise.imp_of_mem (fun {a b} ha hb hab => ?_) (elems_sorted (pk K L))
      have h1 := (mem_elems.1 ha).2
      have h2 := (mem_elems.1 hb).2
      rw [bit_pk] at h1 h2
      simp only [Bool.and_eq_true, decide_eq_true_eq] at h1 h2
      have := List.pairwise_iff_getElem.1 (elems_sorted K) a b h1.1 h2.1 hab
      simpa [List.getElem?_eq_getElem h1.1, List.getElem?_eq_getElem h2.1] using this
    · rw [List.mem_map]
      constructor
      · rintro ⟨k, hk, rfl⟩
        have h1 := (mem_elems.1 hk).2
        rw [bit_pk] at h1
        simp only [Bool.and_eq_true, decide_eq_true_eq] at h1
        have hmem : (elems K).getD k 0 ∈ elems K := by
          rw [List.getD_eq_getElem?_getD, List.getElem?_eq_getElem h1.1]; exact List.getElem_mem h1.1
        exact mem_elems.2 ⟨(mem_elems.1 hmem).1, h1.2⟩
      · intro hx
        obtain ⟨h8, hb⟩ := mem_elems.1 hx
        have hxK : x ∈ elems K := mem_elems.2 ⟨h8, h x hb⟩
        have hlt' := List.idxOf_lt_length_of_mem hxK
        refine ⟨(elems K).idxOf x, mem_elems.2 ⟨?_, ?_⟩, getD_idxOf hxK⟩
        · rw [elems_length] at hlt'; have := cnt_le K; omega
        · rw [bit_pk, getD_idxOf hxK, hb, decide_eq_true hlt']; rfl
  apply ext; intro k
  rw [bit_pk, bit_pk, bit_pk, ← he, List.length_map]
  by_cases hk : k < (elems (pk K L)).length
  · have hmem : (elems (pk K L))[k] ∈ elems (pk K L) := List.getElem_mem hk
    have h1 := (mem_elems.1 hmem).2
    rw [bit_pk] at h1
    simp only [Bool.and_eq_true, decide_eq_true_eq] at h1
    simp [hk, h1.1]
  · simp [hk]
end Go.Proofs.Ytkmcefhchhahhaa.Mt
