/-
  Closures, circuits, duals and hyperplanes of a matroid given by its bases. Plain mathematics: no program is named. Conditions: as each theorem's premises say.
-/
import Derived.Test.YteggmbhcnhbamaaMat
namespace Go.Proofs.Yteggmbhcnhbamaa.Mt
/-! ### 5. A set by what it holds -/
def setOf (n : Nat) (p : Nat → Bool) : Nat := (List.range n).foldl (fun o e => if p e then ins o e else o) 0
theorem bit_setOf_go (p : Nat → Bool) (i : Nat) : ∀ (l : List Nat) (o : Nat), (l.foldl (fun o e => if p e then ins o e else o) o).testBit i = (o.testBit i || (decide (i ∈ l) && p i))
  | [], o => by simp
  | a :: l, o => by
    rw [List.foldl_cons, bit_setOf_go p i l]
    by_cases ha : a = i
    · subst ha
      cases hp : p a <;> simp [bit_ins]
    · have : (i = a) = False := eq_false fun h => ha h.symm
      cases hp : p a <;> simp [bit_ins, ha, this]
theorem bit_setOf (n : Nat) (p : Nat → Bool) (i : Nat) : (setOf n p).testBit i = (decide (i < n) && p i) := by
  unfold setOf; rw [bit_setOf_go, bit_zero]; simp
theorem setOf_lt (n : Nat) (p : Nat → Bool) : setOf n p < 2 ^ n := lt_of_bits fun i hi => by rw [bit_setOf] at hi; simp at hi; exact hi.1
theorem ins_lt {s e n : Nat} (hs : s < 2 ^ n) (he : e < n) : ins s e < 2 ^ n := lt_of_bits fun i hi => by
  rw [bit_ins] at hi; rcases Bool.or_eq_true_iff.1 hi with hi | hi
  · exact bit_lt hs hi
  · rw [← of_decide_eq_true hi]; exact he
theorem sub_ins_of {s t e : Nat} (h : sub s t) (he : t.testBit e = true) : sub (ins s e) t := fun i hi => by
  rw [bit_ins] at hi; rcases Bool.or_eq_true_iff.1 hi with hi | hi
  · exact h i hi
  · rw [← of_decide_eq_true hi]; exact he
theorem ins_mono {s t : Nat} (e : Nat) (h : sub s t) : sub (ins s e) (ins t e) := sub_ins_of (sub_trans h (sub_ins t e)) (ins_mem t e)
theorem ins_del {s e : Nat} (h : s.testBit e = true) : ins (del s e) e = s := ext fun i => by
  rw [bit_ins, bit_del]; by_cases hi : e = i
  · subst hi; simp [h]
  · simp [hi]

section
variable {n : Nat} {B : List Nat}
/-- What adds nothing to the rank, one by one, adds nothing together. -/
theorem Mat.rk_all (M : Mat n B) {s t : Nat} (ht : t < 2 ^ n) (hst : sub s t) (h : ∀ e, t.testBit e = true → rk B (ins s e) = rk B s) : rk B t = rk B s := by
  have ht8 : t < 256 := lt256 M.size ht
  have hs8 : s < 256 := lt_of_sub (n := 8) hst ht8
  apply Nat.le_antisymm _ (rk_mono hst)
  obtain ⟨I, hI, _, hIs, hIc⟩ := M.basisIn hs8 (ind_zero M.ne) (fun i hi => by rw [bit_zero] at hi; cases hi)
  obtain ⟨J, hJ, hIJ, hJt, hJc⟩ := M.basisIn ht8 hI (sub_trans hIs hst)
  apply Nat.le_of_not_lt
  intro hlt
  obtain ⟨x, hxJ, hxI⟩ := exists_mem_of_cnt (a := J) (b := I) (by omega)
  have h8 : x < 8 := bit_lt (n := 8) (lt_of_sub (n := 8) hJt ht8) hxJ
  have h1 : ind B (ins I x) := ind_of_sub (sub_ins_of hIJ hxJ) hJ
  have h2 := (ind_iff M.ne (lt_of_sub (n := 8) (sub_ins_of (sub_trans hIJ hJt) (hJt x hxJ)) ht8)).1 h1
  have h3 := cnt_ins h8 hxI
  have h4 : rk B (ins I x) ≤ rk B (ins s x) := rk_mono (ins_mono x hIs)
  have h5 := h x (hJt x hxJ)
  omega
/-- The closure of s. -/
def cl (n : Nat) (B : List Nat) (s : Nat) : Nat := setOf n fun e => decide (rk B (ins s e) = rk B s)
theorem bit_cl (s e : Nat) : (cl n B s).testBit e = (decide (e < n) && decide (rk B (ins s e) = rk B s)) := bit_setOf _ _ _
theorem mem_cl {s e : Nat} : (cl n B s).testBit e = true ↔ e < n ∧ rk B (ins s e) = rk B s := by rw [bit_cl]; simp
theorem cl_lt (s : Nat) : cl n B s < 2 ^ n := setOf_lt _ _
theorem sub_cl {s : Nat} (hs : s < 2 ^ n) : sub s (cl n B s) := fun i hi => mem_cl.2 ⟨bit_lt hs hi, by rw [ins_eq hi]⟩
theorem Mat.rk_cl (M : Mat n B) {s : Nat} (hs : s < 2 ^ n) : rk B (cl n B s) = rk B s := M.rk_all (cl_lt s) (sub_cl hs) fun _ he => (mem_cl.1 he).2
/-- What adds nothing to s adds nothing to more. -/
theorem Mat.rk_ins_mono (M : Mat n B) {s t e : Nat} (ht : t < 2 ^ n) (he : e < n) (hst : sub s t) (h : rk B (ins s e) = rk B s) : rk B (ins t e) = rk B t := by
  have h1 := M.submod (s := ins s e) (t := t) (lt256 M.size (ins_lt (lt_of_sub hst ht) he)) (lt256 M.size ht)
  have h2 : ins s e ||| t = ins t e := ext fun i => by
    rw [bit_or, bit_ins, bit_ins]; have := hst i; revert this; cases s.testBit i <;> cases t.testBit i <;> cases decide (e = i) <;> simp
  have h3 : rk B s ≤ rk B (ins s e &&& t) := rk_mono (sub_and (sub_ins s e) hst)
  rw [h2] at h1
  have h4 : rk B t ≤ rk B (ins t e) := rk_mono (sub_ins t e)
  omega
theorem Mat.cl_mono (M : Mat n B) {s t : Nat} (ht : t < 2 ^ n) (hst : sub s t) : sub (cl n B s) (cl n B t) := fun _ hi =>
  mem_cl.2 ⟨(mem_cl.1 hi).1, M.rk_ins_mono ht (mem_cl.1 hi).1 hst (mem_cl.1 hi).2⟩
theorem Mat.cl_cl (M : Mat n B) {s : Nat} (hs : s < 2 ^ n) : cl n B (cl n B s) = cl n B s := by
  refine sub_antisymm (fun i hi => ?_) (sub_cl (cl_lt s))
  obtain ⟨h1, h2⟩ := mem_cl.1 hi
  refine mem_cl.2 ⟨h1, ?_⟩
  have h3 : rk B (ins s i) ≤ rk B (ins (cl n B s) i) := rk_mono (ins_mono i (sub_cl hs))
  rw [h2, M.rk_cl hs] at h3
  exact Nat.le_antisymm h3 (rk_mono (sub_ins s i))
theorem Mat.cl_sub (M : Mat n B) {s t : Nat} (ht : t < 2 ^ n) (h : sub s (cl n B t)) : sub (cl n B s) (cl n B t) := by
  have := M.cl_mono (cl_lt (n := n) (B := B) t) h; rwa [M.cl_cl ht] at this
theorem cl_full : cl n B (full n) = full n := by
  refine sub_antisymm (sub_full (cl_lt _)) (sub_cl (full_lt n))

/-! ### 6. Circuits -/
/-- A least dependent set. -/
def circ (n : Nat) (B : List Nat) (c : Nat) : Prop := c < 2 ^ n ∧ ¬ ind B c ∧ ∀ e, c.testBit e = true → ind B (del c e)
theorem exists_circ {d : Nat} (hd : d < 2 ^ n) (hn : n ≤ 8) (h : ¬ ind B d) : ∃ c, circ n B c ∧ sub c d := by
  have key : ∀ k d, d < 2 ^ n → ¬ ind B d → cnt d = k → ∃ c, circ n B c ∧ sub c d := by
    intro k
    induction k using Nat.strongRecOn with
    | _ k ih =>
      intro d hd h hk
      by_cases hh : ∀ e, d.testBit e = true → ind B (del d e)
      · exact ⟨d, ⟨hd, h, hh⟩, sub_refl d⟩
      · obtain ⟨e, he⟩ := Classical.not_forall.1 hh
        obtain ⟨he, hne⟩ := Classical.not_imp.1 he
        have := cnt_del (bit_lt (n := 8) (lt256 hn hd) he) he
        obtain ⟨c, hc, hs⟩ := ih _ (by omega) (del d e) (lt_of_sub (del_sub d e) hd) hne rfl
        exact ⟨c, hc, sub_trans hs (del_sub d e)⟩
  exact key _ d hd h rfl
theorem circ_sub_eq {c d : Nat} (hc : ¬ ind B c) (hd : circ n B d) (h : sub c d) : c = d := by
  refine sub_antisymm h fun i hi => ?_
  cases hci : c.testBit i
  · exact absurd (ind_of_sub (fun j hj => by
      rw [bit_del, h j hj, Bool.true_and]
      have : i ≠ j := fun e => by subst e; rw [hci] at hj; cases hj
      simp [this]) (hd.2.2 i hi)) hc
  · rfl
theorem Mat.circ_cl (M : Mat n B) {c e : Nat} (hc : circ n B c) (he : c.testBit e = true) : (cl n B (del c e)).testBit e = true := by
  refine mem_cl.2 ⟨bit_lt hc.1 he, ?_⟩
  rw [ins_del he]
  have hc8 := lt256 M.size hc.1
  have h1 := (ind_iff M.ne (lt_of_sub (n := 8) (del_sub c e) hc8)).1 (hc.2.2 e he)
  have h2 := cnt_del (bit_lt (n := 8) hc8 he) he
  have h3 : rk B c ≠ cnt c := fun h => hc.2.1 ((ind_iff M.ne hc8).2 h)
  have h4 : rk B (del c e) ≤ rk B c := rk_mono (del_sub c e)
  have h5 : rk B c ≤ cnt c := rk_le_cnt c
  omega
theorem Mat.circ_of_cl (M : Mat n B) {y e : Nat} (hy : y < 2 ^ n) (hye : y.testBit e = false) (he : (cl n B y).testBit e = true) : ∃ c, circ n B c ∧ c.testBit e = true ∧ sub c (ins y e) := by
  obtain ⟨h1, h2⟩ := mem_cl.1 he
  have hy8 := lt256 M.size hy
  obtain ⟨I, hI, _, hIs, hIc⟩ := M.basisIn hy8 (ind_zero M.ne) (fun i hi => by rw [bit_zero] at hi; cases hi)
  have hIe : I.testBit e = false := by
    cases h : I.testBit e
    · rfl
    · rw [hIs e h] at hye; cases hye
  have hIlt : I < 2 ^ n := lt_of_sub hIs hy
  have hlt := ins_lt hIlt h1
  have hdep : ¬ ind B (ins I e) := fun h => by
    have h3 := (ind_iff M.ne (lt256 M.size hlt)).1 h
    have h4 : rk B (ins I e) ≤ rk B (ins y e) := rk_mono (ins_mono e hIs)
    have h5 := cnt_ins (Nat.lt_of_lt_of_le h1 M.size) hIe
    omega
  obtain ⟨c, hc, hs⟩ := exists_circ hlt M.size hdep
  refine ⟨c, hc, ?_, sub_trans hs (ins_mono e hIs)⟩
  cases hce : c.testBit e
  · refine absurd (ind_of_sub (fun j hj => ?_) hI) hc.2.1
    have := hs j hj
    rw [bit_ins] at this
    rcases Bool.or_eq_true_iff.1 this with h | h
    · exact h
    · rw [← of_decide_eq_true h, hce] at hj; cases hj
  · rfl
/-- Two circuits with f in common, and e in the first alone: there is one with e, without f, in both. -/
theorem Mat.elim (M : Mat n B) {c d e f : Nat} (hc : circ n B c) (hd : circ n B d) (_ : c.testBit f = true) (hfd : d.testBit f = true) (hec : c.testBit e = true) (hed : d.testBit e = false) :
    ∃ x, circ n B x ∧ x.testBit e = true ∧ sub x (del (c ||| d) f) := by
  have hef : f ≠ e := fun h => by subst h; rw [hfd] at hed; cases hed
  have hcd : c ||| d < 2 ^ n := Nat.or_lt_two_pow hc.1 hd.1
  have hX : del (c ||| d) f < 2 ^ n := lt_of_sub (del_sub _ _) hcd
  have hY : del (del (c ||| d) f) e < 2 ^ n := lt_of_sub (del_sub _ _) hX
  -- f is in the closure of Y, so all of c is
  have h1 : (cl n B (del (del (c ||| d) f) e)).testBit f = true := by
    refine M.cl_mono hY (fun i hi => ?_) f (M.circ_cl hd hfd)
    rw [bit_del] at hi; simp at hi
    have : e ≠ i := fun h => by subst h; rw [hed] at hi; exact absurd hi.1 (by simp)
    rw [bit_del, bit_del, bit_or, hi.1]; simp [hi.2, this]
  have h2 : sub (del c e) (cl n B (del (del (c ||| d) f) e)) := fun i hi => by
    rw [bit_del] at hi; simp at hi
    by_cases hif : f = i
    · subst hif; exact h1
    · exact sub_cl hY i (by rw [bit_del, bit_del, bit_or, hi.1]; simp [hif, hi.2])
  have h3 : (cl n B (del (del (c ||| d) f) e)).testBit e = true := M.cl_sub hY h2 e (M.circ_cl hc hec)
  obtain ⟨x, hx, hxe, hxs⟩ := M.circ_of_cl hY (by simp [bit_del]) h3
  refine ⟨x, hx, hxe, sub_trans hxs ?_⟩
  rw [ins_del (by rw [bit_del, bit_or, hec]; simp [hef])]
  exact sub_refl _
/-- 'In one circuit' goes on from pair to pair. -/
theorem Mat.circ_trans (M : Mat n B) {e f g : Nat} (hef : ∃ c, circ n B c ∧ c.testBit e = true ∧ c.testBit f = true) (hfg : ∃ c, circ n B c ∧ c.testBit f = true ∧ c.testBit g = true) :
    ∃ c, circ n B c ∧ c.testBit e = true ∧ c.testBit g = true := by
  obtain ⟨c1, hc1, he1, hf1⟩ := hef
  obtain ⟨c2, hc2, hf2, hg2⟩ := hfg
  have key : ∀ k c1 c2, circ n B c1 → circ n B c2 → c1.testBit e = true → c2.testBit g = true → (∃ f, c1.testBit f = true ∧ c2.testBit f = true) → cnt (c1 ||| c2) = k → ∃ c, circ n B c ∧ c.testBit e = true ∧ c.testBit g = true := by
    intro k
    induction k using Nat.strongRecOn with
    | _ k ih =>
      intro c1 c2 hc1 hc2 he1 hg2 ⟨f, hf1, hf2⟩ hk
      cases he2 : c2.testBit e
      case true => exact ⟨c2, hc2, he2, hg2⟩
      -- e in c3, f not in it, c3 in both
      obtain ⟨c3, hc3, he3, hs3⟩ := M.elim hc1 hc2 hf1 hf2 he1 he2
      cases hg3 : c3.testBit g
      case true => exact ⟨c3, hc3, he3, hg3⟩
      have hf3 : c3.testBit f = false := by
        cases h : c3.testBit f
        · rfl
        · have := hs3 f h; simp [bit_del] at this
      -- c3 meets c2 outside of c1
      have hne : ¬ sub c3 c1 := fun h => by
        have := circ_sub_eq hc3.2.1 hc1 h
        rw [this, hf1] at hf3; cases hf3
      obtain ⟨x, hx3, hx1⟩ := not_sub hne
      have hx2 : c2.testBit x = true := by
        have := hs3 x hx3
        rw [bit_del, bit_or, hx1] at this; simp at this; exact this.1
      obtain ⟨c4, hc4, hg4, hs4⟩ := M.elim hc2 hc3 hx2 hx3 hg2 hg3
      have hne4 : ¬ sub c4 c2 := fun h => by
        have := circ_sub_eq hc4.2.1 hc2 h
        rw [this] at hs4
        have := hs4 x hx2; simp [bit_del] at this
      obtain ⟨z, hz4, hz2⟩ := not_sub hne4
      have hz1 : c1.testBit z = true := by
        have h1 := hs4 z hz4
        rw [bit_del, bit_or, hz2] at h1; simp at h1
        have h2 := hs3 z h1.1
        rw [bit_del, bit_or, hz2] at h2; simp at h2; exact h2.1
      have hx4 : c4.testBit x = false := by
        cases h : c4.testBit x
        · rfl
        · have := hs4 x h; simp [bit_del] at this
      refine ih _ ?_ c1 c4 hc1 hc4 he1 hg4 ⟨z, hz1, hz4⟩ rfl
      have hsub : sub (c1 ||| c4) (del (c1 ||| c2) x) := fun i hi => by
        have hix : x ≠ i := fun h => by subst h; rw [bit_or, hx1, hx4] at hi; cases hi
        rw [bit_del, bit_or]
        rw [bit_or] at hi
        rcases Bool.or_eq_true_iff.1 hi with hi | hi
        · simp [hi, hix]
        · have h1 := hs4 i hi
          rw [bit_del, bit_or] at h1; simp at h1
          rcases h1.1 with h | h
          · simp [h, hix]
          · have h2 := hs3 i h
            rw [bit_del, bit_or] at h2; simp at h2
            rcases h2.1 with h | h <;> simp [h, hix]
      have h1 := cnt_mono hsub
      have h2 := cnt_del (s := c1 ||| c2) (e := x) (bit_lt (n := 8) (lt256 M.size hc2.1) hx2) (by rw [bit_or, hx2, Bool.or_true])
      omega
  exact key _ c1 c2 hc1 hc2 he1 hg2 ⟨f, hf1, hf2⟩ rfl

/-! ### 7. Duals -/
theorem Mat.congr {B' : List Nat} (M : Mat n B) (h : ∀ x, x ∈ B' ↔ x ∈ B) : Mat n B' where
  size := M.size
  lt := fun b hb => M.lt b ((h b).1 hb)
  ne := fun he => by
    obtain ⟨c, hc⟩ := List.exists_mem_of_ne_nil B M.ne
    have := (h c).2 hc; rw [he] at this; cases this
  ex := fun a ha b hb e hea heb => by
    obtain ⟨f, h1, h2, h3⟩ := M.ex a ((h a).1 ha) b ((h b).1 hb) e hea heb
    exact ⟨f, h1, h2, (h _).2 h3⟩
theorem rk_congr {B' : List Nat} (h : ∀ x, x ∈ B' ↔ x ∈ B) (s : Nat) : rk B' s = rk B s :=
  Nat.le_antisymm (rk_le.2 fun b hb => le_rk ((h b).1 hb) s) (rk_le.2 fun b hb => le_rk ((h b).2 hb) s)
theorem ind_congr {B' : List Nat} (h : ∀ x, x ∈ B' ↔ x ∈ B) (s : Nat) : ind B' s ↔ ind B s :=
  ⟨fun ⟨b, hb, hs⟩ => ⟨b, (h b).1 hb, hs⟩, fun ⟨b, hb, hs⟩ => ⟨b, (h b).2 hb, hs⟩⟩
/-- The complement within n elements. -/
def co (n s : Nat) : Nat := sdiff (full n) s
theorem bit_co (n s i : Nat) : (co n s).testBit i = (decide (i < n) && !s.testBit i) := by rw [co, bit_sdiff, bit_full]
theorem co_lt (n s : Nat) : co n s < 2 ^ n := lt_of_bits fun i hi => by rw [bit_co] at hi; simp at hi; exact hi.1
theorem co_co {n s : Nat} (h : s < 2 ^ n) : co n (co n s) = s := ext fun i => by
  rw [bit_co, bit_co]
  cases hs : s.testBit i
  · cases hn : decide (i < n) <;> simp
  · have := bit_lt h hs; simp [this]
theorem cnt_co {n s : Nat} (hn : n ≤ 8) (h : s < 2 ^ n) : cnt (co n s) + cnt s = n := by
  have := cnt_sdiff_of_sub (sub_full h); rw [cnt_full hn] at this; exact this
theorem co_sub {n s t : Nat} (h : sub s t) : sub (co n t) (co n s) := fun i hi => by
  rw [bit_co] at hi ⊢; simp at hi ⊢
  refine ⟨hi.1, ?_⟩
  cases hs : s.testBit i
  · rfl
  · rw [h i hs] at hi; exact absurd hi.2 (by simp)
theorem co_sub_iff {n s t : Nat} (hs : s < 2 ^ n) (ht : t < 2 ^ n) : sub (co n t) (co n s) ↔ sub s t :=
  ⟨fun h => by have := co_sub (n := n) h; rwa [co_co hs, co_co ht] at this, co_sub⟩
/-- The other exchange: an element that comes in finds one that goes out. -/
theorem Mat.ex_in (M : Mat n B) {a b e : Nat} (ha : a ∈ B) (hb : b ∈ B) (heb : b.testBit e = true) (hea : a.testBit e = false) :
    ∃ f, a.testBit f = true ∧ b.testBit f = false ∧ ins (del a f) e ∈ B := by
  have key : ∀ k c, c ∈ B → c.testBit e = true → sub (a &&& b) c → sub c (a ||| b) → cnt (sdiff c a) = k → ∃ f, a.testBit f = true ∧ b.testBit f = false ∧ ins (del a f) e ∈ B := by
    intro k
    induction k using Nat.strongRecOn with
    | _ k ih =>
      intro c hc hce hab hcab hk
      by_cases hh : ∃ g, c.testBit g = true ∧ a.testBit g = false ∧ g ≠ e
      · obtain ⟨g, hgc, hga, hge⟩ := hh
        obtain ⟨h, hha, hhc, hin⟩ := M.ex c hc a ha g hgc hga
        have hd : sdiff (ins (del c g) h) a = del (sdiff c a) g := ext fun i => by
          simp only [bit_sdiff, bit_ins, bit_del]
          by_cases hi : h = i
          · subst hi; simp [hha]
          · simp only [hi, decide_false, Bool.or_false]; cases c.testBit i <;> cases a.testBit i <;> simp
        have h1 := cnt_del (s := sdiff c a) (M.bit8 hc hgc) (by rw [bit_sdiff, hgc, hga]; rfl)
        refine ih _ (by rw [hd]; omega) _ hin ?_ (fun i hi => ?_) (fun i hi => ?_) rfl
        · rw [bit_ins, bit_del, hce]; simp [hge]
        · have hci := hab i hi
          rw [bit_and] at hi; simp at hi
          have : g ≠ i := fun hgi => by subst hgi; rw [hga] at hi; exact absurd hi.1 (by simp)
          rw [bit_ins, bit_del, hci]; simp [this]
        · rw [bit_ins, bit_del] at hi
          rcases Bool.or_eq_true_iff.1 hi with hi | hi
          · simp at hi; exact hcab i hi.1
          · rw [← of_decide_eq_true hi, bit_or, hha, Bool.true_or]
      · -- c without a is e alone
        have hone : sdiff c a = 2 ^ e := ext fun i => by
          rw [bit_sdiff, bit_pow]
          by_cases hi : e = i
          · subst hi; simp [hce, hea]
          · cases hci : c.testBit i
            · simp [hi]
            · cases hai : a.testBit i
              · exact absurd ⟨i, hci, hai, fun h => hi h.symm⟩ hh
              · simp [hi]
        have h1 := cnt_split c a
        have h2 := cnt_split a c
        have h3 := M.eqcard ha hc
        have h4 : a &&& c = c &&& a := Nat.and_comm a c
        rw [hone, cnt_pow (M.bit8 hc hce)] at h1
        rw [h4] at h2
        have h5 : cnt (sdiff a c) = 1 := by omega
        obtain ⟨f, hf, _⟩ := exists_mem_of_cnt (a := sdiff a c) (b := 0) (by rw [cnt_zero]; omega)
        have hf' := hf
        rw [bit_sdiff] at hf'; simp at hf'
        have hbf : b.testBit f = false := by
          cases h : b.testBit f
          · rfl
          · have := hab f (by rw [bit_and, hf'.1, h]; rfl); rw [hf'.2] at this; cases this
        refine ⟨f, hf'.1, hbf, ?_⟩
        have honef : sdiff a c = 2 ^ f := by
          refine (eq_of_sub_cnt (a := 2 ^ f) (fun i hi => ?_) (lt_of_sub (n := 8) (fun i hi => by rw [bit_sdiff] at hi; simp at hi; exact hi.1) (M.lt8 ha)) ?_).symm
          · rw [bit_pow] at hi; rw [← of_decide_eq_true hi]; exact hf
          · rw [h5, cnt_pow (M.bit8 ha hf'.1)]; exact Nat.le_refl 1
        have : ins (del a f) e = c := ext fun i => by
          have k1 := congrArg (fun x => Nat.testBit x i) hone
          have k2 := congrArg (fun x => Nat.testBit x i) honef
          simp only [bit_sdiff, bit_pow] at k1 k2
          rw [bit_ins, bit_del]
          revert k1 k2
          cases decide (e = i) <;> cases decide (f = i) <;> cases a.testBit i <;> cases c.testBit i <;> simp
        rw [this]; exact hc
  exact key _ b hb heb (and_sub_right _ _) (sub_or_right _ _) rfl
/-- The dual's bases. -/
def dualB (n : Nat) (B : List Nat) : List Nat := B.map (co n)
theorem mem_dualB {n : Nat} {B : List Nat} {x : Nat} (hB : ∀ b ∈ B, b < 2 ^ n) (hx : x < 2 ^ n) : x ∈ dualB n B ↔ co n x ∈ B := by
  unfold dualB
  rw [List.mem_map]
  constructor
  · rintro ⟨b, hb, rfl⟩; rwa [co_co (hB b hb)]
  · intro h; exact ⟨_, h, co_co hx⟩
theorem Mat.dual (M : Mat n B) : Mat n (dualB n B) where
  size := M.size
  lt := fun b hb => by obtain ⟨c, _, rfl⟩ := List.mem_map.1 hb; exact co_lt n c
  ne := fun he => M.ne (List.map_eq_nil_iff.1 he)
  ex := fun a ha b hb e hea heb => by
    obtain ⟨c, hc, rfl⟩ := List.mem_map.1 ha
    obtain ⟨d, hd, rfl⟩ := List.mem_map.1 hb
    rw [bit_co] at hea heb
    simp at hea
    have hed : d.testBit e = true := by
      cases h : d.testBit e
      · rw [h] at heb; simp at heb; exact absurd hea.1 (by omega)
      · rfl
    obtain ⟨f, hfc, hfd, hin⟩ := M.ex_in hc hd hed hea.2
    have hfn : f < n := bit_lt (M.lt c hc) hfc
    refine ⟨f, by rw [bit_co, hfd]; simp [hfn], by rw [bit_co, hfc]; simp, List.mem_map.2 ⟨_, hin, ?_⟩⟩
    apply ext; intro i
    simp only [bit_co, bit_ins, bit_del]
    by_cases h1 : f = i
    · subst h1
      have : ¬ e = f := fun h => by subst h; rw [hea.2] at hfc; cases hfc
      simp [this, hfn]
    · by_cases h2 : e = i
      · subst h2; simp [h1]
      · simp [h1, h2]
theorem dual_dual (hB : ∀ b ∈ B, b < 2 ^ n) : dualB n (dualB n B) = B := by
  unfold dualB
  rw [List.map_map]
  conv => rhs; rw [← List.map_id B]
  exact List.map_congr_left fun b hb => co_co (hB b hb)
/-- The dual's rank. -/
theorem Mat.rk_dual (M : Mat n B) {s : Nat} (hs : s < 2 ^ n) : rk (dualB n B) s + rk B (full n) = cnt s + rk B (co n s) := by
  have step : ∀ b ∈ B, cnt (s &&& co n b) + rk B (full n) = cnt s + cnt (co n s &&& b) := fun b hb => by
    rw [M.rk_full hb (sub_refl _)]
    have h1 := cnt_split s b
    have h2 := cnt_split b s
    have h3 : sdiff s b = s &&& co n b := ext fun i => by
      rw [bit_sdiff, bit_and, bit_co]; cases hi : s.testBit i
      · rfl
      · have := bit_lt hs hi; simp [this]
    have h4 : sdiff b s = co n s &&& b := ext fun i => by
      rw [bit_sdiff, bit_and, bit_co]; cases hi : b.testBit i
      · simp
      · have := bit_lt (M.lt b hb) hi; simp [this]
    rw [h3] at h1; rw [h4, Nat.and_comm b s] at h2
    omega
  apply Nat.le_antisymm
  · obtain ⟨d, hd, hc⟩ := rk_at M.dual.ne s
    obtain ⟨b, hb, rfl⟩ := List.mem_map.1 hd
    have := step b hb
    have := le_rk hb (co n s)
    omega
  · obtain ⟨b, hb, hc⟩ := rk_at M.ne (co n s)
    have := step b hb
    have := le_rk (B := dualB n B) (List.mem_map.2 ⟨b, hb, rfl⟩) s
    omega
/-- A circuit and a circuit of the dual never have just one element in common. -/
theorem Mat.ortho (M : Mat n B) {c d : Nat} (hc : circ n B c) (hd : circ n (dualB n B) d) : cnt (c &&& d) ≠ 1 := by
  intro h1
  obtain ⟨e, he, _⟩ := exists_mem_of_cnt (a := c &&& d) (b := 0) (by rw [cnt_zero]; omega)
  rw [bit_and] at he; simp at he
  have h8 : c &&& d < 256 := Nat.and_lt_two_pow (n := 8) _ (lt256 M.size hd.1)
  have hone : c &&& d = 2 ^ e := by
    refine (eq_of_sub_cnt (a := 2 ^ e) (fun i hi => ?_) h8 ?_).symm
    · rw [bit_pow] at hi; rw [← of_decide_eq_true hi, bit_and, he.1, he.2]; rfl
    · rw [h1, cnt_pow (bit_lt (n := 8) (lt256 M.size hc.1) he.1)]; exact Nat.le_refl 1
  -- d without e misses a base b; c without e grows to a base by it
  obtain ⟨x, hx, hdx⟩ := hd.2.2 e he.2
  obtain ⟨b, hb, rfl⟩ := List.mem_map.1 hx
  obtain ⟨b', hb', hcb, hbb⟩ := M.grow (hc.2.2 e he.1) hb
  have heb' : b'.testBit e = false := by
    cases h : b'.testBit e
    · rfl
    · refine absurd ⟨b', hb', fun i hi => ?_⟩ hc.2.1
      by_cases hie : e = i
      · rw [← hie]; exact h
      · exact hcb i (by rw [bit_del, hi]; simp [hie])
  refine hd.2.1 ⟨co n b', List.mem_map.2 ⟨b', hb', rfl⟩, fun i hi => ?_⟩
  rw [bit_co, decide_eq_true (bit_lt hd.1 hi), Bool.true_and]
  cases hbi : b'.testBit i
  · rfl
  · exfalso
    by_cases hie : e = i
    · subst hie; rw [heb'] at hbi; cases hbi
    · have h2 := hbb i hbi
      rw [bit_or, bit_del] at h2
      rcases Bool.or_eq_true_iff.1 h2 with h | h
      · simp at h
        have := congrArg (fun x => Nat.testBit x i) hone
        simp only [bit_and, bit_pow, h.1, hi, hie] at this
        simp at this
      · have := hdx i (by rw [bit_del, hi]; simp [hie])
        rw [bit_co, h] at this; simp at this

/-! ### 8. Spanning sets, hyperplanes -/
/-- A set that a base lies in. -/
def span (B : List Nat) (s : Nat) : Prop := ∃ b ∈ B, sub b s
theorem Mat.span_iff (M : Mat n B) {s : Nat} (hs : s < 2 ^ n) : span B s ↔ rk B s = rk B (full n) := by
  constructor
  · rintro ⟨b, hb, h⟩
    rw [M.rk_full hb (sub_refl _)]
    apply Nat.le_antisymm
    · rw [← M.rk_full hb (sub_refl _)]; exact rk_mono (sub_full hs)
    · have := le_rk hb s; rwa [show s &&& b = b from by rw [Nat.and_comm]; exact sub_iff_and.1 h] at this
  · intro h
    obtain ⟨b, hb, hc⟩ := rk_at M.ne s
    refine ⟨b, hb, ?_⟩
    rw [M.rk_full hb (sub_refl _)] at h
    refine sub_of_cnt_and (M.lt8 hb) ?_
    rw [Nat.and_comm]; omega
theorem span_congr {B' : List Nat} (h : ∀ x, x ∈ B' ↔ x ∈ B) (s : Nat) : span B' s ↔ span B s :=
  ⟨fun ⟨b, hb, hs⟩ => ⟨b, (h b).1 hb, hs⟩, fun ⟨b, hb, hs⟩ => ⟨b, (h b).2 hb, hs⟩⟩
theorem span_dual (hB : ∀ b ∈ B, b < 2 ^ n) {s : Nat} (hs : s < 2 ^ n) : span B s ↔ ind (dualB n B) (co n s) := by
  constructor
  · rintro ⟨b, hb, h⟩; exact ⟨co n b, List.mem_map.2 ⟨b, hb, rfl⟩, co_sub h⟩
  · rintro ⟨d, hd, h⟩
    obtain ⟨b, hb, rfl⟩ := List.mem_map.1 hd
    exact ⟨b, hb, (co_sub_iff (hB b hb) hs).1 h⟩
/-- A flat one below the whole. -/
def hyper (n : Nat) (B : List Nat) (h : Nat) : Prop := h < 2 ^ n ∧ cl n B h = h ∧ rk B h + 1 = rk B (full n)
/-- Hyperplanes are the greatest sets that do not span. -/
theorem Mat.hyper_iff (M : Mat n B) {h : Nat} (hh : h < 2 ^ n) : hyper n B h ↔ ¬ span B h ∧ ∀ e, e < n → h.testBit e = false → span B (ins h e) := by
  constructor
  · rintro ⟨_, hcl, hr⟩
    refine ⟨fun hs => by rw [M.span_iff hh] at hs; omega, fun e he hne => ?_⟩
    rw [M.span_iff (ins_lt hh he)]
    have h1 : rk B (ins h e) ≠ rk B h := fun h1 => by
      have := mem_cl (n := n).2 ⟨he, h1⟩
      rw [hcl, hne] at this; cases this
    have h2 : rk B h ≤ rk B (ins h e) := rk_mono (sub_ins h e)
    have h3 : rk B (ins h e) ≤ rk B (full n) := rk_mono (sub_full (ins_lt hh he))
    omega
  · rintro ⟨h1, h2⟩
    have hne : rk B h ≠ rk B (full n) := fun h => h1 ((M.span_iff hh).2 h)
    have hle : rk B h ≤ rk B (full n) := rk_mono (sub_full hh)
    have hins : ∀ e, e < n → h.testBit e = false → rk B (ins h e) = rk B (full n) := fun e he hne => (M.span_iff (ins_lt hh he)).1 (h2 e he hne)
    refine ⟨hh, ?_, ?_⟩
    · refine sub_antisymm (fun i hi => ?_) (sub_cl hh)
      obtain ⟨hin, hir⟩ := mem_cl.1 hi
      cases hb : h.testBit i
      · have := hins i hin hb; omega
      · rfl
    · have : ¬ sub (full n) h := fun k => hne (Nat.le_antisymm hle (rk_mono k))
      obtain ⟨e, he, heh⟩ := not_sub this
      rw [bit_full] at he
      have h3 := hins e (of_decide_eq_true he) heh
      have h4 := rk_ins_le (B := B) (s := h) (e := e) (Nat.lt_of_lt_of_le (of_decide_eq_true he) M.size)
      omega
/-- Hyperplanes are the complements of the dual's circuits. -/
theorem Mat.hyper_dual (M : Mat n B) {h : Nat} (hh : h < 2 ^ n) : hyper n B h ↔ circ n (dualB n B) (co n h) := by
  rw [M.hyper_iff hh, span_dual M.lt hh]
  constructor
  · rintro ⟨h1, h2⟩
    refine ⟨co_lt n h, h1, fun e he => ?_⟩
    rw [bit_co] at he; simp at he
    have h3 := (span_dual M.lt (ins_lt hh he.1)).1 (h2 e he.1 he.2)
    rwa [show co n (ins h e) = del (co n h) e from ext fun i => by
      rw [bit_co, bit_del, bit_co, bit_ins]; cases h.testBit i <;> cases decide (e = i) <;> simp] at h3
  · rintro ⟨_, h1, h2⟩
    refine ⟨h1, fun e he hne => ?_⟩
    rw [span_dual M.lt (ins_lt hh he), show co n (ins h e) = del (co n h) e from ext fun i => by
      rw [bit_co, bit_del, bit_co, bit_ins]; cases h.testBit i <;> cases decide (e = i) <;> simp]
    exact h2 e (by rw [bit_co, hne]; simp [he])
/-- What does not span lies in a hyperplane. -/
theorem Mat.in_hyper (M : Mat n B) {s : Nat} (hs : s < 2 ^ n) (h : ¬ span B s) : ∃ x, hyper n B x ∧ sub s x := by
  have key : ∀ k s, s < 2 ^ n → ¬ span B s → n - cnt s = k → ∃ x, hyper n B x ∧ sub s x := by
    intro k
    induction k using Nat.strongRecOn with
    | _ k ih =>
      intro s hs h hk
      by_cases hh : ∀ e, e < n → s.testBit e = false → span B (ins s e)
      · exact ⟨s, (M.hyper_iff hs).2 ⟨h, hh⟩, sub_refl s⟩
      · obtain ⟨e, he⟩ := Classical.not_forall.1 hh
        obtain ⟨he, he2⟩ := Classical.not_imp.1 he
        obtain ⟨hes, hns⟩ := Classical.not_imp.1 he2
        have h1 := cnt_ins (Nat.lt_of_lt_of_le he M.size) hes
        have h2 := cnt_mono (sub_full (ins_lt hs he))
        rw [cnt_full M.size] at h2
        obtain ⟨x, hx, hsx⟩ := ih _ (by omega) (ins s e) (ins_lt hs he) hns rfl
        exact ⟨x, hx, sub_trans (sub_ins s e) hsx⟩
  exact key _ s hs h rfl
theorem Mat.hyper_not_span (M : Mat n B) {x s : Nat} (hx : hyper n B x) (h : sub s x) : ¬ span B s := fun ⟨b, hb, hs⟩ =>
  ((M.hyper_iff hx.1).1 hx).1 ⟨b, hb, sub_trans hs h⟩
/-- The bases are the least sets that span. -/
theorem Mat.base_iff (M : Mat n B) {s : Nat} : s ∈ B ↔ span B s ∧ ∀ t, span B t → sub t s → t = s := by
  constructor
  · intro hs
    refine ⟨⟨s, hs, sub_refl s⟩, fun t ⟨b, hb, hbt⟩ hts => ?_⟩
    have hbs : b = s := eq_of_sub_cnt (sub_trans hbt hts) (M.lt8 hs) (Nat.le_of_eq (M.eqcard hs hb))
    subst hbs
    exact sub_antisymm hts hbt
  · rintro ⟨⟨b, hb, hbs⟩, h⟩
    rw [← h b ⟨b, hb, sub_refl b⟩ hbs]; exact hb
/-- The bases are the greatest sets within bases. -/
theorem Mat.base_iff_ind (M : Mat n B) {s : Nat} : s ∈ B ↔ ind B s ∧ ∀ t, ind B t → sub s t → s = t := by
  constructor
  · intro hs
    refine ⟨⟨s, hs, sub_refl s⟩, fun t ⟨b, hb, htb⟩ hst => ?_⟩
    have hbs : s = b := eq_of_sub_cnt (sub_trans hst htb) (M.lt8 hb) (Nat.le_of_eq (M.eqcard hb hs))
    subst hbs
    exact sub_antisymm hst htb
  · rintro ⟨⟨b, hb, hsb⟩, h⟩
    rw [h b ⟨b, hb, sub_refl b⟩ hsb]; exact hb
end
end Go.Proofs.Yteggmbhcnhbamaa.Mt
