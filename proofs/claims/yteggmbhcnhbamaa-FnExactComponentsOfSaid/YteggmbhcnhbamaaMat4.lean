/-
  Separators and components; flats that cover a flat; greatest proper flats. Plain mathematics: no program is named. Conditions: as each theorem's premises say.
-/
import Derived.Test.YteggmbhcnhbamaaMat2
namespace Go.Proofs.Yteggmbhcnhbamaa.Mt
set_option linter.unusedVariables false
section
variable {n : Nat} {B : List Nat}
/-! ### 12. Separators -/
def sep (n : Nat) (B : List Nat) (s : Nat) : Prop := rk B s + rk B (co n s) = rk B (full n)
theorem or_co {s : Nat} (hs : s < 2 ^ n) : s ||| co n s = full n := ext fun i => by
  rw [bit_or, bit_co, bit_full]
  cases hi : s.testBit i
  · simp
  · simp [bit_lt hs hi]
theorem and_co (s : Nat) : s &&& co n s = 0 := ext fun i => by
  rw [bit_and, bit_co, bit_zero]; cases s.testBit i <;> simp
theorem rk_zero : rk B 0 = 0 := Nat.le_antisymm (by have := rk_le_cnt (B := B) 0; rwa [cnt_zero] at this) (Nat.zero_le _)
theorem Mat.le_sep (M : Mat n B) {s : Nat} (hs : s < 2 ^ n) : rk B (full n) ≤ rk B s + rk B (co n s) := by
  have := M.submod (lt256 M.size hs) (lt256 M.size (co_lt n s))
  rw [or_co hs, and_co] at this; omega
theorem sep_co {s : Nat} (hs : s < 2 ^ n) (h : sep n B s) : sep n B (co n s) := by
  unfold sep at *; rw [co_co hs]; omega
theorem co_and {n s t : Nat} : co n (s &&& t) = co n s ||| co n t := ext fun i => by
  simp only [bit_co, bit_and, bit_or]; cases s.testBit i <;> cases t.testBit i <;> cases decide (i < n) <;> rfl
theorem co_or {n s t : Nat} : co n (s ||| t) = co n s &&& co n t := ext fun i => by
  simp only [bit_co, bit_and, bit_or]; cases s.testBit i <;> cases t.testBit i <;> cases decide (i < n) <;> rfl
theorem Mat.sep_and (M : Mat n B) {s t : Nat} (hs : s < 2 ^ n) (ht : t < 2 ^ n) (h : sep n B s) (k : sep n B t) : sep n B (s &&& t) := by
  have h1 := M.submod (lt256 M.size hs) (lt256 M.size ht)
  have h2 := M.submod (lt256 M.size (co_lt n s)) (lt256 M.size (co_lt n t))
  have h3 := M.le_sep (s := s &&& t) (Nat.and_lt_two_pow _ ht)
  have h4 := M.le_sep (s := s ||| t) (Nat.or_lt_two_pow hs ht)
  rw [co_and] at h3; rw [co_or] at h4
  unfold sep at *; rw [co_and]; omega
/-- A circuit lies within a separator, or outside of it. -/
theorem Mat.circ_sep (M : Mat n B) {s c : Nat} (hs : s < 2 ^ n) (h : sep n B s) (hc : circ n B c) {x y : Nat} (hx : c.testBit x = true) (hy : c.testBit y = true) (hxs : s.testBit x = true) : s.testBit y = true := by
  cases hys : s.testBit y
  case true => rfl
  exfalso
  have hc8 := lt256 M.size hc.1
  have h1 := M.submod (lt256 M.size hs) hc8
  have h2 := M.submod (s := co n s) (t := s ||| c) (lt256 M.size (co_lt n s)) (lt256 M.size (Nat.or_lt_two_pow hs hc.1))
  have e1 : co n s ||| (s ||| c) = full n := ext fun i => by
    rw [bit_or, bit_or, bit_co, bit_full]
    cases hi : s.testBit i
    · cases hci : c.testBit i
      · simp
      · simp [bit_lt hc.1 hci]
    · simp [bit_lt hs hi]
  have e2 : co n s &&& (s ||| c) = sdiff c s := ext fun i => by
    rw [bit_and, bit_or, bit_co, bit_sdiff]
    cases hi : s.testBit i
    · cases hci : c.testBit i
      · simp
      · simp [bit_lt hc.1 hci]
    · simp
  rw [e1, e2] at h2
  rw [Nat.and_comm s c] at h1
  have h3 : rk B (c &&& s) + rk B (sdiff c s) ≤ rk B c := by unfold sep at h; omega
  have i1 : ind B (c &&& s) := ind_of_sub (fun i hi => by
    rw [bit_and] at hi; simp at hi
    rw [bit_del, hi.1]
    have : y ≠ i := fun e => by subst e; rw [hys] at hi; exact absurd hi.2 (by simp)
    simp [this]) (hc.2.2 y hy)
  have i2 : ind B (sdiff c s) := ind_of_sub (fun i hi => by
    rw [bit_sdiff] at hi; simp at hi
    rw [bit_del, hi.1]
    have : x ≠ i := fun e => by subst e; rw [hxs] at hi; exact absurd hi.2 (by simp)
    simp [this]) (hc.2.2 x hx)
  have h4 := (ind_iff M.ne (lt_of_sub (n := 8) (and_sub_left c s) hc8)).1 i1
  have h5 := (ind_iff M.ne (lt_of_sub (n := 8) (fun i hi => by rw [bit_sdiff] at hi; simp at hi; exact hi.1) hc8)).1 i2
  have h6 := cnt_split c s
  have h7 : rk B c ≠ cnt c := fun e => hc.2.1 ((ind_iff M.ne hc8).2 e)
  have h8 : rk B c ≤ cnt c := rk_le_cnt c
  omega
/-- What no circuit crosses separates. -/
theorem Mat.sep_of_circ (M : Mat n B) {s : Nat} (hs : s < 2 ^ n) (h : ∀ c x y, circ n B c → c.testBit x = true → c.testBit y = true → s.testBit x = true → s.testBit y = true) : sep n B s := by
  apply Nat.le_antisymm _ (M.le_sep hs)
  obtain ⟨I, hI, _, hIs, hIc⟩ := M.basisIn (lt256 M.size hs) (ind_zero M.ne) (fun i hi => by rw [bit_zero] at hi; cases hi)
  obtain ⟨J, hJ, _, hJs, hJc⟩ := M.basisIn (lt256 M.size (co_lt n s)) (ind_zero M.ne) (fun i hi => by rw [bit_zero] at hi; cases hi)
  have hIJ : I ||| J < 2 ^ n := Nat.or_lt_two_pow (lt_of_sub hIs hs) (lt_of_sub hJs (co_lt n s))
  have hdis : I &&& J = 0 := ext fun i => by
    rw [bit_and, bit_zero]
    cases hi : I.testBit i
    · rfl
    · cases hj : J.testBit i
      · rfl
      · have := hJs i hj; rw [bit_co, hIs i hi] at this; simp at this
  have hind : ind B (I ||| J) := by
    apply Classical.byContradiction
    intro hn
    obtain ⟨c, hc, hcs⟩ := exists_circ hIJ M.size hn
    by_cases hx : ∃ x, c.testBit x = true ∧ s.testBit x = true
    · obtain ⟨x, hx, hxs⟩ := hx
      refine hc.2.1 (ind_of_sub (fun i hi => ?_) hI)
      have h1 := h c x i hc hx hi hxs
      have h2 := hcs i hi
      rw [bit_or] at h2
      rcases Bool.or_eq_true_iff.1 h2 with h2 | h2
      · exact h2
      · have := hJs i h2; rw [bit_co, h1] at this; simp at this
    · refine hc.2.1 (ind_of_sub (fun i hi => ?_) hJ)
      have h2 := hcs i hi
      rw [bit_or] at h2
      rcases Bool.or_eq_true_iff.1 h2 with h2 | h2
      · exact absurd ⟨i, hi, hIs i h2⟩ hx
      · exact h2
  have h1 := (ind_iff M.ne (lt256 M.size hIJ)).1 hind
  have h2 := cnt_disjoint hdis
  have h3 : rk B (I ||| J) ≤ rk B (full n) := rk_mono (sub_full hIJ)
  omega
/-- A component: a least separator that is not empty. -/
def comp (n : Nat) (B : List Nat) (k : Nat) : Prop := k < 2 ^ n ∧ k ≠ 0 ∧ sep n B k ∧ ∀ t, t < 2 ^ n → t ≠ 0 → sep n B t → sub t k → t = k
/-- Two elements are in one component just if a circuit has both. -/
theorem Mat.comp_iff (M : Mat n B) {e f : Nat} (he : e < n) (hf : f < n) (hef : e ≠ f) : (∃ k, comp n B k ∧ k.testBit e = true ∧ k.testBit f = true) ↔ ∃ c, circ n B c ∧ c.testBit e = true ∧ c.testBit f = true := by
  constructor
  · rintro ⟨k, ⟨hk, hk0, hks, hkm⟩, hke, hkf⟩
    -- the elements that are in one circuit with e
    have hdec : ∀ g, Decidable (g = e ∨ ∃ c, circ n B c ∧ c.testBit e = true ∧ c.testBit g = true) := fun g => Classical.propDecidable _
    let s := setOf n fun g => @decide _ (hdec g)
    have hbit : ∀ g, s.testBit g = true ↔ g < n ∧ (g = e ∨ ∃ c, circ n B c ∧ c.testBit e = true ∧ c.testBit g = true) := fun g => by
      show (setOf n _).testBit g = true ↔ _
      rw [bit_setOf]; simp
    have hs : s < 2 ^ n := setOf_lt _ _
    have hsep : sep n B s := M.sep_of_circ hs fun c x y hc hx hy hxs => by
      obtain ⟨_, h2⟩ := (hbit x).1 hxs
      refine (hbit y).2 ⟨bit_lt hc.1 hy, ?_⟩
      rcases h2 with h2 | h2
      · subst h2; exact .inr ⟨c, hc, hx, hy⟩
      · by_cases hye : y = e
        · exact .inl hye
        · exact .inr (M.circ_trans h2 ⟨c, hc, hx, hy⟩)
    have h1 := hkm (k &&& s) (Nat.and_lt_two_pow _ hs) (fun h0 => by
      have := congrArg (fun x => Nat.testBit x e) h0
      simp only [bit_and, bit_zero, hke, (hbit e).2 ⟨he, .inl rfl⟩] at this; cases this) (M.sep_and hk hs hks hsep) (and_sub_left _ _)
    have h2 : s.testBit f = true := by
      have := hkf; rw [← h1, bit_and] at this; simp at this; exact this.2
    rcases ((hbit f).1 h2).2 with h3 | h3
    · exact absurd h3.symm hef
    · exact h3
  · rintro ⟨c, hc, hce, hcf⟩
    have key : ∀ m k, k < 2 ^ n → sep n B k → k.testBit e = true → cnt k = m → ∃ k, comp n B k ∧ k.testBit e = true := by
      intro m
      induction m using Nat.strongRecOn with
      | _ m ih =>
        intro k hk hks hke hm
        by_cases hh : ∃ t, t < 2 ^ n ∧ t ≠ 0 ∧ sep n B t ∧ sub t k ∧ t ≠ k
        · obtain ⟨t, ht, ht0, hts, htk, htne⟩ := hh
          have hlt : cnt t < cnt k := by
            apply Nat.lt_of_not_le; intro h
            exact htne (eq_of_sub_cnt htk (lt256 M.size hk) h)
          cases hte : t.testBit e
          · have h1 := M.sep_and hk (co_lt n t) hks (sep_co ht hts)
            have h2 : cnt (k &&& co n t) < cnt k := by
              apply Nat.lt_of_not_le; intro h
              have h3 := eq_of_sub_cnt (and_sub_left k (co n t)) (lt256 M.size hk) h
              refine ht0 (ext fun i => ?_)
              rw [bit_zero]
              cases hi : t.testBit i
              · rfl
              · have := htk i hi
                rw [← h3, bit_and, bit_co, hi] at this; simp at this
            exact ih _ (by omega) _ (Nat.and_lt_two_pow _ (co_lt n t)) h1 (by rw [bit_and, hke, bit_co, hte]; simp [he]) rfl
          · exact ih _ (by omega) t ht hts hte rfl
        · refine ⟨k, ⟨hk, (fun h0 => by rw [h0, bit_zero] at hke; cases hke), hks, fun t ht ht0 hts htk => ?_⟩, hke⟩
          exact Classical.byContradiction fun hne => hh ⟨t, ht, ht0, hts, htk, hne⟩
    obtain ⟨k, hk, hke⟩ := key _ (full n) (full_lt n) (by
      unfold sep
      rw [show co n (full n) = 0 from ext fun i => by rw [bit_co, bit_full, bit_zero]; cases decide (i < n) <;> rfl, rk_zero]; rfl) (by rw [bit_full]; exact decide_eq_true he) rfl
    exact ⟨k, hk, hke, M.circ_sep hk.1 hk.2.2.1 hc hce hcf hke⟩

/-! ### 13. Flats -/
def flat (n : Nat) (B : List Nat) (s : Nat) : Prop := s < 2 ^ n ∧ cl n B s = s
theorem Mat.flat_cl (M : Mat n B) {s : Nat} (hs : s < 2 ^ n) : flat n B (cl n B s) := ⟨cl_lt s, M.cl_cl hs⟩
theorem flat_full : flat n B (full n) := ⟨full_lt n, cl_full⟩
theorem Mat.flat_eq (M : Mat n B) {s t : Nat} (hs : flat n B s) (ht : flat n B t) (h : sub s t) (hr : rk B t ≤ rk B s) : s = t := by
  refine sub_antisymm h fun i hi => ?_
  rw [← hs.2]
  refine mem_cl.2 ⟨bit_lt ht.1 hi, ?_⟩
  apply Nat.le_antisymm _ (rk_mono (sub_ins s i))
  exact Nat.le_trans (rk_mono (sub_ins_of h hi)) hr
theorem Mat.cl_sub_flat (M : Mat n B) {s t : Nat} (ht : flat n B t) (h : sub s t) : sub (cl n B s) t := by
  have := M.cl_mono ht.1 h; rwa [ht.2] at this
theorem Mat.flat_ins (M : Mat n B) {s e : Nat} (hs : flat n B s) (he : e < n) (hne : s.testBit e = false) : rk B (ins s e) = rk B s + 1 := by
  have h1 : rk B (ins s e) ≠ rk B s := fun h => by
    have := mem_cl (n := n).2 ⟨he, h⟩; rw [hs.2, hne] at this; cases this
  have h2 : rk B s ≤ rk B (ins s e) := rk_mono (sub_ins s e)
  have h3 := rk_ins_le (B := B) (s := s) (e := e) (Nat.lt_of_lt_of_le he M.size)
  omega
/-- A least flat above s. -/
def cover (n : Nat) (B : List Nat) (s t : Nat) : Prop := flat n B t ∧ sub s t ∧ t ≠ s ∧ ∀ u, flat n B u → sub s u → u ≠ s → sub u t → u = t
theorem Mat.cover_cl (M : Mat n B) {s e : Nat} (hs : flat n B s) (he : e < n) (hne : s.testBit e = false) : cover n B s (cl n B (ins s e)) := by
  have hlt := ins_lt hs.1 he
  have hme : (cl n B (ins s e)).testBit e = true := sub_cl hlt e (ins_mem s e)
  refine ⟨M.flat_cl hlt, sub_trans (sub_ins s e) (sub_cl hlt), (fun h => by rw [h, hne] at hme; cases hme), fun u hu hsu hus hut => ?_⟩
  refine M.flat_eq hu (M.flat_cl hlt) hut ?_
  rw [M.rk_cl hlt, M.flat_ins hs he hne]
  have : ¬ sub u s := fun h => hus (sub_antisymm h hsu)
  obtain ⟨f, hf, hfs⟩ := not_sub this
  rw [← M.flat_ins hs (bit_lt hu.1 hf) hfs]
  exact rk_mono (sub_ins_of hsu hf)
theorem Mat.cover_eq (M : Mat n B) {s t e : Nat} (hs : flat n B s) (ht : cover n B s t) (he : t.testBit e = true) (hne : s.testBit e = false) : t = cl n B (ins s e) := by
  have he' := bit_lt ht.1.1 he
  have h := M.cover_cl hs he' hne
  exact (ht.2.2.2 _ h.1 h.2.1 h.2.2.1 (M.cl_sub_flat ht.1 (sub_ins_of ht.2.1 he))).symm
/-- Two flats above s that cover it have nothing but s in common. -/
theorem Mat.cover_apart (M : Mat n B) {s t u : Nat} (hs : flat n B s) (ht : cover n B s t) (hu : cover n B s u) (hne : t ≠ u) {e : Nat} (h1 : t.testBit e = true) (h2 : u.testBit e = true) : s.testBit e = true := by
  cases h : s.testBit e
  · exact absurd ((M.cover_eq hs ht h1 h).trans (M.cover_eq hs hu h2 h).symm) hne
  · rfl
/-- Hyperplanes are the greatest proper flats. -/
theorem Mat.hyper_max (M : Mat n B) {x : Nat} : hyper n B x ↔ flat n B x ∧ x ≠ full n ∧ ∀ t, flat n B t → t ≠ full n → sub x t → x = t := by
  constructor
  · rintro ⟨h1, h2, h3⟩
    refine ⟨⟨h1, h2⟩, fun h => by rw [h] at h3; omega, fun t ht htf hxt => M.flat_eq ⟨h1, h2⟩ ht hxt ?_⟩
    have h4 : rk B t ≤ rk B (full n) := rk_mono (sub_full ht.1)
    have h5 : rk B t ≠ rk B (full n) := fun h => htf (M.flat_eq ht flat_full (sub_full ht.1) (Nat.le_of_eq h.symm))
    omega
  · rintro ⟨h1, h2, h3⟩
    have hns : ¬ span B x := fun h => h2 (M.flat_eq h1 flat_full (sub_full h1.1) (Nat.le_of_eq ((M.span_iff h1.1).1 h).symm))
    obtain ⟨y, hy, hxy⟩ := M.in_hyper h1.1 hns
    have : x = y := h3 y ⟨hy.1, hy.2.1⟩ (fun h => by have := hy.2.2; rw [h] at this; omega) hxy
    rw [this]; exact hy
end
end Go.Proofs.Yteggmbhcnhbamaa.Mt
