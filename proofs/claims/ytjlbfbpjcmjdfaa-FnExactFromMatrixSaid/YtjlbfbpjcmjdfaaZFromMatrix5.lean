/- Several texts of this session in one: Lin, Mat3, Elim, LGauss, LGaussS, LReduceI, LMatRank, LSubset, LFamily, LMatroid, LRank, LSetsOf, LIndep, LSortSets, LMinimal, LMaximal, LSame, LFromIndep, LMatOf, LLinMat, LFromMat, LMark, LMarkM, LCase, PuFnExactFromMatrix, LawFnExactFromMatrix. Conditions: as each theorem says. -/
import Derived.Test.YtjlbfbpjcmjdfaaZFromMatrix4
import Derived.Test.YtjlbfbpjcmjdfaaZFromMatrix1
import Derived.Test.YtjlbfbpjcmjdfaaZFromMatrix3
import Derived.Test.YtjlbfbpjcmjdfaaZFromMatrix2
import Derived.Test.YtjlbfbpjcmjdfaaRows
import Derived.Test.YtjlbfbpjcmjdfaaZFromMatrix0
import Derived.WalkKit
import Derived.ProofKit
import Derived.OpenShut
import Derived.ShutString
import Derived.ChangeOld
import Derived.Below
import Derived.SizedLaws
import Derived.Lib.SmallJoins
set_option maxRecDepth 100000
section
namespace Go.Proofs.Ytjlbfbpjcmjdfaa.Mt
set_option linter.unusedVariables false
def qJ (p : Int) : Prop := p = 2 ∨ p = 3 ∨ p = 5 ∨ p = 7
theorem qJ.pos {p : Int} (h : qJ p) : 2 ≤ p ∧ p ≤ 7 := by unfold qJ at h; omega
theorem zbv : ∀ p ∈ [2, 3, 5, 7], ∀ a ∈ List.range 7, ∀ b ∈ List.range 7, (a * b) % p = 0 → a % p = 0 ∨ b % p = 0 := by decide
theorem zbz : ∀ p ∈ [2, 3, 5, 7], ∀ a ∈ List.range 7, a % p ≠ 0 → ∃ b ∈ List.range 7, (a * b) % p = 1 := by decide
theorem qJ.nat {p : Int} (h : qJ p) : ∃ q : Nat, p = (q : Int) ∧ q ∈ [2, 3, 5, 7] := by
  rcases h with rfl | rfl | rfl | rfl
  · exact ⟨2, rfl, by decide⟩
  · exact ⟨3, rfl, by decide⟩
  · exact ⟨5, rfl, by decide⟩
  · exact ⟨7, rfl, by decide⟩
theorem qJ.res {p : Int} (h : qJ p) (x : Int) : ∃ a : Nat, a ∈ List.range 7 ∧ x % p = (a : Int) ∧ a % p.toNat = a := by
  have hp := h.pos
  have h0 := Int.emod_nonneg x (show p ≠ 0 by omega)
  have h1 := Int.emod_lt_of_pos x (show 0 < p by omega)
  refine ⟨(x % p).toNat, by simp; omega, by omega, Nat.mod_eq_of_lt (by omega)⟩
theorem qJ.Jy {p : Int} (h : qJ p) {x y : Int} (hxy : p ∣ x * y) : p ∣ x ∨ p ∣ y := by
  obtain ⟨q, rfl, hq⟩ := h.nat
  obtain ⟨a, ha, hxa, _⟩ := h.res x
  obtain ⟨b, hb, hyb, _⟩ := h.res y
  have h1 := Int.emod_eq_zero_of_dvd hxy
  rw [Int.mul_emod, hxa, hyb] at h1
  have h2 : (a * b) % q = 0 := by
    have : ((a * b % q : Nat) : Int) = 0 := by rw [Int.natCast_emod, Int.natCast_mul]; exact h1
    omega
  have key : ∀ {z : Int} {c : Nat}, z % (q : Int) = (c : Int) → c % q = 0 → (q : Int) ∣ z := fun {z c} hz hc => by
    apply Int.dvd_of_emod_eq_zero
    have h3 : (z % (q : Int)) % (q : Int) = z % (q : Int) := Int.emod_emod _ _
    rw [hz] at h3
    have : ((c % q : Nat) : Int) = (c : Int) := by rw [Int.natCast_emod]; exact h3
    rw [hz, ← this, hc]; rfl
  rcases zbv q hq a ha b hb h2 with h3 | h3
  · exact .inl (key hxa h3)
  · exact .inr (key hyb h3)
theorem qJ.inv {p : Int} (h : qJ p) {x : Int} (hx : ¬ p ∣ x) : ∃ y : Int, p ∣ x * y - 1 := by
  obtain ⟨q, rfl, hq⟩ := h.nat
  obtain ⟨a, ha, hxa, hm⟩ := h.res x
  have h1 : a % q ≠ 0 := fun h0 => hx (by
    apply Int.dvd_of_emod_eq_zero
    rw [Int.toNat_natCast] at hm
    rw [hxa, ← hm, h0]; rfl)
  obtain ⟨b, _, hb⟩ := zbz q hq a ha h1
  refine ⟨(b : Int), ?_⟩
  have h2 : (x * (b : Int)) % (q : Int) = 1 := by
    rw [Int.mul_emod, hxa]
    have : (((a * b) % q : Nat) : Int) = 1 := by rw [hb]; rfl
    rw [Int.natCast_emod, Int.natCast_mul, Int.mul_emod] at this
    have hqq : (a : Int) % (q : Int) = (a : Int) := by
      have : ((a % q : Nat) : Int) = (a : Int) := by rw [Int.toNat_natCast] at hm; rw [hm]
      rwa [Int.natCast_emod] at this
    rw [hqq] at this; exact this
  have h3 := Int.emod_add_mul_ediv (x * (b : Int)) (q : Int)
  rw [h2] at h3
  exact ⟨x * (b : Int) / (q : Int), by omega⟩

def dot (n : Nat) (u v : Nat → Int) : Int := ((List.range n).map fun j => u j * v j).sum
theorem yU {α : Type} (f g : α → Int) : ∀ l : List α, (l.map fun j => f j + g j).sum = (l.map f).sum + (l.map g).sum
  | [] => rfl
  | a :: l => by simp only [List.map_cons, List.sum_cons, yU f g l]; omega
theorem yq {α : Type} (c : Int) (f : α → Int) : ∀ l : List α, (l.map fun j => c * f j).sum = c * (l.map f).sum
  | [] => by simp
  | a :: l => by simp only [List.map_cons, List.sum_cons, yq c f l, Int.mul_add]
theorem vB (n : Nat) (u v w : Nat → Int) (c : Int) : dot n u (fun j => v j + c * w j) = dot n u v + c * dot n u w := by
  unfold dot
  rw [← yq, ← yU]
  congr 1
  apply List.map_congr_left
  intro j _
  rw [Int.mul_add, ← Int.mul_assoc, Int.mul_comm (u j) c, Int.mul_assoc]
theorem vG (n : Nat) (u v : Nat → Int) : dot n u v = dot n v u := by
  unfold dot; congr 1; apply List.map_congr_left; intro j _; exact Int.mul_comm _ _
theorem Z4 (n : Nat) (u v w : Nat → Int) (c : Int) : dot n (fun j => v j + c * w j) u = dot n v u + c * dot n w u := by
  rw [vG, vB, vG n u v, vG n u w]
theorem Z5 {p : Int} {α : Type} (f : α → Int) : ∀ l : List α, (∀ j ∈ l, p ∣ f j) → p ∣ (l.map f).sum
  | [], _ => by simp
  | a :: l, h => by
    simp only [List.map_cons, List.sum_cons]
    exact Int.dvd_add (h a (by simp)) (Z5 f l fun j hj => h j (by simp [hj]))
/-- A sum of which all but one place vanish. -/
theorem JT {p : Int} (f : Nat → Int) (k : Nat) : ∀ (l : List Nat), l.Nodup → k ∈ l → (∀ j ∈ l, j ≠ k → p ∣ f j) → p ∣ (l.map f).sum - f k
  | [], _, hk, _ => by cases hk
  | a :: l, hn, hk, h => by
    rw [List.nodup_cons] at hn
    simp only [List.map_cons, List.sum_cons]
    by_cases hak : a = k
    · subst hak
      have := Z5 (p := p) f l fun j hj => h j (by simp [hj]) fun e => hn.1 (e ▸ hj)
      rwa [show f a + (l.map f).sum - f a = (l.map f).sum by omega]
    · have hkl : k ∈ l := by rcases List.mem_cons.1 hk with h' | h'
                             · exact absurd h'.symm hak
                             · exact h'
      have h1 := JT f k l hn.2 hkl fun j hj => h j (by simp [hj])
      have h2 := h a (by simp) hak
      rw [show f a + (l.map f).sum - f k = f a + ((l.map f).sum - f k) by omega]
      exact Int.dvd_add h2 h1
theorem QF {p : Int} {n k : Nat} (hk : k < n) (u v : Nat → Int) (h : ∀ j, j < n → j ≠ k → p ∣ u j * v j) : p ∣ dot n u v - u k * v k :=
  JT (fun j => u j * v j) k (List.range n) List.nodup_range (List.mem_range.2 hk) fun j hj hjk => h j (List.mem_range.1 hj) hjk
/-- Only the places below n count, and only modulo p. -/
theorem YN {p : Int} {n : Nat} {u v w : Nat → Int} (h : ∀ j, j < n → p ∣ v j - w j) : p ∣ dot n u v - dot n u w := by
  have := Z5 (p := p) (fun j => u j * (v j - w j)) (List.range n) fun j hj => Int.dvd_mul_of_dvd_right (h j (List.mem_range.1 hj))
  have h2 : dot n u v - dot n u w = ((List.range n).map fun j => u j * (v j - w j)).sum := by
    have h3 := vB n u v w (-1)
    have h4 : (fun j => u j * (v j - w j)) = fun j => u j * (v j + (-1) * w j) := funext fun j => by congr 1; omega
    rw [h4]; show _ = dot n u (fun j => v j + (-1) * w j); rw [h3]; omega
  rw [h2]; exact this

/-- Vectors of n places modulo p that are closed under sums and multiples. -/
structure Sp (p : Int) (n : Nat) (K : (Nat → Int) → Prop) : Prop where
  fld : qJ p
  size : n ≤ 8
  zero : K fun _ => 0
  add : ∀ v w c, K v → K w → K fun j => v j + c * w j
  mod : ∀ v w, (∀ j, j < n → p ∣ v j - w j) → K v → K w
/-- Nothing but zero outside of s. -/
def VQ (p : Int) (n : Nat) (v : Nat → Int) (s : Nat) : Prop := ∀ j, j < n → s.testBit j = false → p ∣ v j
/-- No vector of K but zero has all that it has in s. -/
def li (p : Int) (n : Nat) (K : (Nat → Int) → Prop) (s : Nat) : Prop := ∀ v, K v → VQ p n v s → ∀ j, j < n → p ∣ v j
theorem za5 {p : Int} {n : Nat} {K : (Nat → Int) → Prop} {s t : Nat} (h : sub s t) (k : li p n K t) : li p n K s := fun v hv hs => k v hv fun j hj ht => hs j hj (by
  cases hb : s.testBit j
  · rfl
  · rw [h j hb] at ht; cases ht)
section
variable {p : Int} {n : Nat} {K : (Nat → Int) → Prop}
theorem Sp.smul (S : Sp p n K) {v : Nat → Int} (hv : K v) (c : Int) : K fun j => c * v j := by
  have := S.add _ _ c S.zero hv; exact S.mod _ _ (fun j _ => by show p ∣ 0 + c * v j - c * v j; rw [show 0 + c * v j - c * v j = 0 by omega]; exact Int.dvd_zero p) this
/-- What makes s dependent by e: a vector with 1 at e, and else within s. -/
theorem Sp.vec (S : Sp p n K) {s e : Nat} (he : e < n) (hs : li p n K s) (h : ¬ li p n K (ins s e)) : ∃ v, K v ∧ VQ p n v (ins s e) ∧ p ∣ v e - 1 := by
  obtain ⟨v, hv⟩ := Classical.not_forall.1 h
  obtain ⟨hK, hv2⟩ := Classical.not_imp.1 hv
  obtain ⟨hsup, hv3⟩ := Classical.not_imp.1 hv2
  obtain ⟨j, hj⟩ := Classical.not_forall.1 hv3
  obtain ⟨hjn, hjp⟩ := Classical.not_imp.1 hj
  have hve : ¬ p ∣ v e := fun h0 => hjp (hs v hK (fun i hi hsi => by
    by_cases hie : e = i
    · rw [← hie]; exact h0
    · exact hsup i hi (by rw [ql, hsi]; simp [hie])) j hjn)
  obtain ⟨y, hy⟩ := S.fld.inv hve
  refine ⟨fun j => y * v j, S.smul hK y, fun j hj hb => Int.dvd_mul_of_dvd_right (hsup j hj hb), ?_⟩
  show p ∣ y * v e - 1
  rw [Int.mul_comm]; exact hy
theorem Sp.Ji (S : Sp p n K) {s e : Nat} {v : Nat → Int} (he : e < n) (hv : K v) (hs : VQ p n v s) (h1 : ¬ p ∣ v e) : ¬ li p n K s := fun h => h1 (h v hv hs e he)
/-- A qX independent set. -/
def Zp (p : Int) (n : Nat) (K : (Nat → Int) → Prop) (s : Nat) : Prop := s < 2 ^ n ∧ li p n K s ∧ ∀ e, e < n → s.testBit e = false → ¬ li p n K (ins s e)
theorem Sp.ZQ (S : Sp p n K) {s : Nat} (hs : s < 2 ^ n) (h : li p n K s) : ∃ t, Zp p n K t ∧ sub s t := by
  have key : ∀ k s, s < 2 ^ n → li p n K s → n - cnt s = k → ∃ t, Zp p n K t ∧ sub s t := by
    intro k
    induction k using Nat.strongRecOn with
    | _ k ih =>
      intro s hs h hk
      by_cases hh : ∀ e, e < n → s.testBit e = false → ¬ li p n K (ins s e)
      · exact ⟨s, ⟨hs, h, hh⟩, yF s⟩
      · obtain ⟨e, he⟩ := Classical.not_forall.1 hh
        obtain ⟨he, he2⟩ := Classical.not_imp.1 he
        obtain ⟨hes, hli⟩ := Classical.not_imp.1 he2
        have hli := Classical.not_not.1 hli
        have h1 := Zc (Nat.lt_of_lt_of_le he S.size) hes
        have h2 := jB (VC (Qn hs he))
        rw [zaB S.size] at h2
        obtain ⟨t, ht, hst⟩ := ih _ (by omega) (ins s e) (Qn hs he) hli rfl
        exact ⟨t, ht, jf (Zg s e) hst⟩
  exact key _ s hs h rfl
theorem zbm : li p n K 0 := fun v _ hs j hj => hs j hj (jI j)
/-- A vector is what its places outside of a qX independent set make it. -/
theorem Sp.expand (S : Sp p n K) {a : Nat} (ha : Zp p n K a) (V : Nat → Nat → Int) (hV : ∀ x, x < n → a.testBit x = false → K (V x) ∧ VQ p n (V x) (ins a x) ∧ p ∣ V x x - 1) {u : Nat → Int} (hu : K u) :
    ∀ e, e < n → p ∣ u e - ((List.range n).map fun x => if a.testBit x then 0 else u x * V x e).sum := by
  -- take off, place by place
  have key : ∀ (l : List Nat), l.Nodup → (∀ x ∈ l, x < n) → K (fun e => u e - (l.map fun x => if a.testBit x then 0 else u x * V x e).sum) := by
    intro l
    induction l with
    | nil => intro _ _; exact S.mod _ _ (fun j _ => by simp) hu
    | cons x l ih =>
      intro hn hl
      rw [List.nodup_cons] at hn
      have h1 := ih hn.2 fun y hy => hl y (by simp [hy])
      cases hx : a.testBit x
      · refine S.mod _ _ (fun j _ => ?_) (S.add _ _ (-(u x)) h1 (hV x (hl x (by simp)) hx).1)
        simp only [List.map_cons, List.sum_cons, hx, Bool.false_eq_true, if_false]
        rw [show ∀ a b c : Int, a - b + -(u x) * c - (a - (u x * c + b)) = 0 from by intro a b c; rw [Int.neg_mul]; omega]
        exact Int.dvd_zero p
      · refine S.mod _ _ (fun j _ => ?_) h1
        simp only [List.map_cons, List.sum_cons, hx, if_true]
        rw [show ∀ a b : Int, a - b - (a - (0 + b)) = 0 from by intro a b; omega]
        exact Int.dvd_zero p
  have h1 := key (List.range n) List.nodup_range fun x hx => List.mem_range.1 hx
  refine ha.2.1 _ h1 fun j hj hja => ?_
  -- outside of a only its own place counts
  have h2 := JT (p := p) (fun x => if a.testBit x then 0 else u x * V x j) j (List.range n) List.nodup_range (List.mem_range.2 hj) fun x hx hxj => by
    show p ∣ if a.testBit x then 0 else u x * V x j
    cases hxa : a.testBit x
    · simp only [Bool.false_eq_true, if_false]
      refine Int.dvd_mul_of_dvd_right ((hV x (List.mem_range.1 hx) hxa).2.1 j hj ?_)
      rw [ql, hja]; simp [hxj]
    · simp
  simp only [hja, Bool.false_eq_true, if_false] at h2
  have h3 := Int.dvd_mul_of_dvd_right (b := u j) (hV j hj hja).2.2
  have h4 := Int.dvd_add h2 h3
  rw [show ∀ s m c : Int, s - c * m + c * (m - 1) = -(c - s) from by intro s m c; rw [Int.mul_sub]; omega] at h4
  exact (Int.dvd_neg).1 h4
/-- Exchange, for qX independent sets. -/
theorem Sp.ex (S : Sp p n K) {a b e : Nat} (ha : Zp p n K a) (hb : Zp p n K b) (hea : a.testBit e = true) (heb : b.testBit e = false) :
    ∃ f, b.testBit f = true ∧ a.testBit f = false ∧ Zp p n K (ins (del a e) f) := by
  have he := jW ha.1 hea
  -- for each place outside of a its vector
  have hV : ∀ x, ∃ v, (x < n → a.testBit x = false → K v ∧ VQ p n v (ins a x) ∧ p ∣ v x - 1) := fun x => by
    by_cases hx : x < n ∧ a.testBit x = false
    · obtain ⟨v, h⟩ := S.vec hx.1 ha.2.1 (ha.2.2 x hx.1 hx.2); exact ⟨v, fun _ _ => h⟩
    · exact ⟨fun _ => 0, fun h1 h2 => absurd ⟨h1, h2⟩ hx⟩
  let V : Nat → Nat → Int := fun x => Classical.choose (hV x)
  have hV' : ∀ x, x < n → a.testBit x = false → K (V x) ∧ VQ p n (V x) (ins a x) ∧ p ∣ V x x - 1 := fun x => Classical.choose_spec (hV x)
  obtain ⟨u, hu, hus, hue⟩ := S.vec he hb.2.1 (hb.2.2 e he heb)
  have hex := S.expand ha V hV' hu e he
  -- some place of b has e in its vector
  have hf : ∃ f, f < n ∧ b.testBit f = true ∧ a.testBit f = false ∧ ¬ p ∣ V f e := by
    apply Classical.byContradiction
    intro hn
    have h1 : p ∣ ((List.range n).map fun x => if a.testBit x then 0 else u x * V x e).sum := Z5 _ _ fun x hx => by
      cases hxa : a.testBit x
      · simp only [Bool.false_eq_true, if_false]
        by_cases hxb : b.testBit x = true
        · refine Int.dvd_mul_of_dvd_right ?_
          exact Classical.byContradiction fun h => hn ⟨x, List.mem_range.1 hx, hxb, hxa, h⟩
        · refine Int.dvd_mul_of_dvd_left (hus x (List.mem_range.1 hx) ?_)
          have hxe : e ≠ x := fun h => by subst h; rw [hea] at hxa; cases hxa
          rw [ql]; simp [hxb, hxe]
      · simp
    have h2 := Int.dvd_add hex h1
    rw [show ∀ a b : Int, a - b + b = a from by intros; omega] at h2
    have h3 := Int.dvd_sub h2 hue
    rw [show ∀ a : Int, a - (a - 1) = 1 from by intros; omega] at h3
    have := S.fld.pos
    have := Int.le_of_dvd (by decide) h3
    omega
  obtain ⟨f, hfn, hfb, hfa, hVe⟩ := hf
  obtain ⟨hVK, hVs, hV1⟩ := hV' f hfn hfa
  have hfe : f ≠ e := fun h => by subst h; rw [hea] at hfa; cases hfa
  have hsub : ∀ i, (ins (del a e) f).testBit i = false → i ≠ e → (ins a f).testBit i = false := fun i hi hie => by
    rw [ql, qU] at hi; rw [ql]
    have := Bool.or_eq_false_iff.1 hi
    simp only [Ne.symm hie, decide_false, Bool.not_false, Bool.and_true] at this
    rw [this.1, this.2]; rfl
  refine ⟨f, hfb, hfa, Qn (qO (yt a e) ha.1) hfn, fun w hw hws => ?_, fun g hg hgs => ?_⟩
  · -- w less w_f times the vector of f lies within a
    have h1 := S.add w (V f) (-(w f)) hw hVK
    have h2 := ha.2.1 _ h1 fun j hj hja => by
      show p ∣ w j + -(w f) * V f j
      by_cases hjf : j = f
      · subst hjf
        have := Int.dvd_mul_of_dvd_right (b := -(w j)) hV1
        rw [show ∀ x y : Int, -x * (y - 1) = x + -x * y from by intro x y; rw [Int.mul_sub]; omega] at this
        exact this
      · have hje : j ≠ e := fun h => by subst h; rw [hea] at hja; cases hja
        refine Int.dvd_add (hws j hj ?_) (Int.dvd_mul_of_dvd_right (hVs j hj ?_))
        · rw [ql, qU, hja]; simp [Ne.symm hjf]
        · rw [ql, hja]; simp [Ne.symm hjf]
    have h3 : p ∣ w f := by
      have h4 := h2 e he
      have h5 : p ∣ w e := hws e he (by rw [ql, qU]; simp [hfe])
      have h6 := Int.dvd_sub h4 h5
      rw [show ∀ x y z : Int, x + -y * z - x = -(y * z) from by intro x y z; rw [Int.neg_mul]; omega] at h6
      rcases S.fld.Jy ((Int.dvd_neg).1 h6) with h | h
      · exact h
      · exact absurd h hVe
    intro j hj
    have h4 := h2 j hj
    have h5 := Int.dvd_mul_of_dvd_left (c := V f j) ((Int.dvd_neg).2 h3)
    have h6 := Int.dvd_sub h4 h5
    rwa [show ∀ x y : Int, x + y - y = x from by intros; omega] at h6
  · by_cases hge : g = e
    · subst hge
      refine fun h => ha.2.2 f hfn hfa (za5 (fun i hi => ?_) h)
      rw [ql] at hi
      rw [ql, ql, qU]
      rcases Bool.or_eq_true_iff.1 hi with hi | hi
      · rw [hi]; cases decide (g = i) <;> simp
      · rw [hi]; simp
    · have hga : a.testBit g = false := by
        rw [ql, qU] at hgs
        have := (Bool.or_eq_false_iff.1 hgs).1
        simpa [Ne.symm hge] using this
      have hgf : f ≠ g := fun h => by subst h; rw [YM] at hgs; cases hgs
      obtain ⟨hGK, hGs, hG1⟩ := hV' g hg hga
      obtain ⟨y, hy⟩ := S.fld.inv hVe
      refine S.Ji (v := fun j => V g j + -(V g e * y) * V f j) hg (S.add _ _ _ hGK hVK) (fun j hj hjs => ?_) fun h => ?_
      · show p ∣ V g j + -(V g e * y) * V f j
        by_cases hje : j = e
        · subst hje
          have := Int.dvd_mul_of_dvd_right (b := -(V g j)) hy
          rw [show ∀ x y z : Int, -x * (z * y - 1) = x + -(x * y) * z from by intro x y z; rw [Int.mul_sub, Int.neg_mul, Int.neg_mul, Int.neg_mul, Int.mul_assoc x y z, Int.mul_comm z y]; omega] at this
          exact this
        · have hj1 : (ins (del a e) f).testBit j = false := by
            rw [ql] at hjs; exact (Bool.or_eq_false_iff.1 hjs).1
          have hj2 : decide (g = j) = false := by rw [ql] at hjs; exact (Bool.or_eq_false_iff.1 hjs).2
          have hj3 := hsub j hj1 hje
          refine Int.dvd_add (hGs j hj ?_) (Int.dvd_mul_of_dvd_right (hVs j hj hj3))
          rw [ql] at hj3 ⊢
          rw [(Bool.or_eq_false_iff.1 hj3).1, hj2]; rfl
      · have h1 : p ∣ V g g + -(V g e * y) * V f g := h
        have h2 : p ∣ V f g := hVs g hg (by rw [ql, hga]; simp [hgf])
        have h3 := Int.dvd_sub h1 (Int.dvd_mul_of_dvd_right (b := -(V g e * y)) h2)
        rw [show ∀ x y : Int, x + y - y = x from by intros; omega] at h3
        have h4 := Int.dvd_sub h3 hG1
        rw [show ∀ a : Int, a - (a - 1) = 1 from by intros; omega] at h4
        have := S.fld.pos
        have := Int.le_of_dvd (by decide) h4
        omega
/-- The bases of a space: its qX independent sets, in order. -/
noncomputable def linB (p : Int) (n : Nat) (K : (Nat → Int) → Prop) : List Nat := (List.range (2 ^ n)).filter fun s => @decide _ (Classical.propDecidable (Zp p n K s))
theorem vF {s : Nat} : s ∈ linB p n K ↔ Zp p n K s := by
  unfold linB; rw [List.mem_filter, List.mem_range]; simp only [decide_eq_true_eq]
  exact ⟨fun h => h.2, fun h => ⟨h.1, h⟩⟩
theorem Sp.mat (S : Sp p n K) : Mat n (linB p n K) where
  size := S.size
  lt := fun b hb => (vF.1 hb).1
  ne := fun h => by
    obtain ⟨t, ht, _⟩ := S.ZQ (s := 0) (Nat.two_pow_pos n) zbm
    have := vF.2 ht; rw [h] at this; cases this
  ex := fun a ha b hb e hea heb => by
    obtain ⟨f, h1, h2, h3⟩ := S.ex (vF.1 ha) (vF.1 hb) hea heb
    exact ⟨f, h1, h2, vF.2 h3⟩
theorem Sp.jD (S : Sp p n K) {s : Nat} (hs : s < 2 ^ n) : ind (linB p n K) s ↔ li p n K s := by
  constructor
  · rintro ⟨b, hb, h⟩; exact za5 h (vF.1 hb).2.1
  · intro h
    obtain ⟨t, ht, hst⟩ := S.ZQ hs h
    exact ⟨t, vF.2 ht, hst⟩
/-- The rank of s: the size of any part of it that is independent and gives all of it. -/
theorem Sp.rk (S : Sp p n K) {s q : Nat} (hs : s < 2 ^ n) (hq : sub q s) (h : li p n K q) (hall : ∀ e, s.testBit e = true → q.testBit e = false → ¬ li p n K (ins q e)) : rk (linB p n K) s = cnt q := by
  have hq2 : q < 2 ^ n := qO hq hs
  obtain ⟨J, hJ, hqJ, hJs, hJc⟩ := S.mat.y6 (jR S.size hs) ((S.jD hq2).2 h) hq
  rw [← hJc]
  have : J = q := vP (fun i hi => by
    cases hqi : q.testBit i
    · exact absurd ((S.jD (Qn hq2 (jW hs (hJs i hi)))).1 (yc (yO hqJ hi) hJ)) (hall i (hJs i hi) hqi)
    · rfl) hqJ
  rw [this]

structure Ann (p : Int) (n : Nat) (K K' : (Nat → Int) → Prop) : Prop where
  sp : Sp p n K
  sp' : Sp p n K'
  orth : ∀ v u, K v → K' u → p ∣ dot n u v
  all' : ∀ u, (∀ v, K v → p ∣ dot n u v) → K' u
  all : ∀ v, (∀ u, K' u → p ∣ dot n u v) → K v
theorem Ann.swap {K' : (Nat → Int) → Prop} (A : Ann p n K K') : Ann p n K' K where
  sp := A.sp'
  sp' := A.sp
  orth := fun v u hv hu => by rw [vG]; exact A.orth u v hu hv
  all' := fun u h => A.all u fun v hv => by rw [vG]; exact h v hv
  all := fun v h => A.all' v fun u hu => by rw [vG]; exact h u hu
theorem Ann.co {K' : (Nat → Int) → Prop} (A : Ann p n K K') {a : Nat} (ha : Zp p n K a) : Zp p n K' (co n a) := by
  have hV : ∀ x, ∃ v, (x < n → a.testBit x = false → K v ∧ VQ p n v (ins a x) ∧ p ∣ v x - 1) := fun x => by
    by_cases hx : x < n ∧ a.testBit x = false
    · obtain ⟨v, h⟩ := A.sp.vec hx.1 ha.2.1 (ha.2.2 x hx.1 hx.2); exact ⟨v, fun _ _ => h⟩
    · exact ⟨fun _ => 0, fun h1 h2 => absurd ⟨h1, h2⟩ hx⟩
  let V : Nat → Nat → Int := fun x => Classical.choose (hV x)
  have hV' : ∀ x, x < n → a.testBit x = false → K (V x) ∧ VQ p n (V x) (ins a x) ∧ p ∣ V x x - 1 := fun x => Classical.choose_spec (hV x)
  refine ⟨zcL n a, fun u hu hus => ?_, fun e he hea => ?_⟩
  · -- against the vector of x only x counts
    have hout : ∀ x, x < n → a.testBit x = false → p ∣ u x := fun x hx hxa => by
      obtain ⟨h1, h2, h3⟩ := hV' x hx hxa
      have h4 := A.orth _ _ h1 hu
      have h5 := QF (p := p) hx u (V x) fun j hj hjx => by
        cases hja : a.testBit j
        · exact Int.dvd_mul_of_dvd_right (h2 j hj (by rw [ql, hja]; simp [Ne.symm hjx]))
        · exact Int.dvd_mul_of_dvd_left (hus j hj (by rw [QT, hja]; simp))
      have h6 := Int.dvd_sub h4 h5
      rw [show ∀ a b : Int, a - (a - b) = b from by intros; omega] at h6
      have h7 := Int.dvd_sub h6 (Int.dvd_mul_of_dvd_right (b := u x) h3)
      rw [show ∀ a b : Int, a * b - a * (b - 1) = a from by intro a b; rw [Int.mul_sub]; omega] at h7
      exact h7
    intro j hj
    cases hja : a.testBit j
    · exact hout j hj hja
    · exact hus j hj (by rw [QT, hja]; simp)
  · have hae : a.testBit e = true := by
      rw [QT] at hea
      cases h : a.testBit e
      · rw [h] at hea; simp at hea; omega
      · rfl
    -- the vector with 1 at e, and against it what the vectors have at e
    let u : Nat → Int := fun j => if j = e then 1 else if a.testBit j then 0 else -(V j e)
    have hue : u e = 1 := by show (if e = e then (1 : Int) else _) = 1; rw [if_pos rfl]
    refine A.sp'.Ji (v := u) he (A.all' u fun v hv => ?_) (fun j hj hjs => ?_) (fun h => by
      rw [hue] at h; have := A.sp.fld.pos; have := Int.le_of_dvd (by decide) h; omega)
    · have hx := A.sp.expand ha V hV' hv e he
      -- dot u v: v e, less what the places outside of a make
      have h1 : dot n u v - (v e - ((List.range n).map fun x => if a.testBit x then 0 else v x * V x e).sum) = 0 := by
        have h2 : (fun j => u j * v j) = fun j => (if j = e then v j else 0) + (-1) * (if a.testBit j then 0 else v j * V j e) := funext fun j => by
          show (if j = e then (1 : Int) else if a.testBit j then 0 else -(V j e)) * v j = _
          by_cases hje : j = e
          · subst hje; simp [hae]
          · cases a.testBit j
            · simp [hje]; rw [Int.mul_comm, Int.mul_neg]
            · simp [hje]
        have h3 : dot n u v = ((List.range n).map fun j => if j = e then v j else 0).sum + (-1) * ((List.range n).map fun x => if a.testBit x then 0 else v x * V x e).sum := by
          unfold dot; rw [h2, yU, yq]
        have h4 : ∀ (l : List Nat), l.Nodup → e ∈ l → (l.map fun j => if j = e then v j else 0).sum = v e := by
          intro l
          induction l with
          | nil => intro _ h; cases h
          | cons x l ih =>
            intro hn hm
            rw [List.nodup_cons] at hn
            simp only [List.map_cons, List.sum_cons]
            by_cases hxe : x = e
            · subst hxe
              have : (l.map fun j => if j = x then v j else 0).sum = 0 := by
                have : l.map (fun j => if j = x then v j else 0) = l.map fun _ => 0 := List.map_congr_left fun j hj => by
                  rw [if_neg (fun h : j = x => hn.1 (h ▸ hj))]
                rw [this]; clear this hn ih hm
                induction l with
                | nil => rfl
                | cons _ l ih => rw [List.map_cons, List.sum_cons, ih]; rfl
              rw [this, if_pos rfl]; omega
            · rw [if_neg hxe, ih hn.2 (by rcases List.mem_cons.1 hm with h | h; exact absurd h.symm hxe; exact h)]; omega
        rw [h3, h4 _ List.nodup_range (List.mem_range.2 he)]; omega
      rw [show dot n u v = v e - ((List.range n).map fun x => if a.testBit x then 0 else v x * V x e).sum by omega]
      exact hx
    · show p ∣ if j = e then (1 : Int) else if a.testBit j then 0 else -(V j e)
      rw [ql] at hjs
      have h1 := Bool.or_eq_false_iff.1 hjs
      have hje : j ≠ e := fun h => by rw [h] at h1; simp at h1
      rw [if_neg hje]
      have : a.testBit j = true := by
        have := h1.1; rw [QT] at this
        cases h : a.testBit j
        · rw [h] at this; simp at this; omega
        · rfl
      rw [if_pos this]; exact Int.dvd_zero p
end
end Go.Proofs.Ytjlbfbpjcmjdfaa.Mt
end
section
namespace Go.Proofs.Ytjlbfbpjcmjdfaa.Mt
set_option linter.unusedVariables false
section
variable {n : Nat} {B : List Nat}
end

theorem vT (s : Nat) : (elems s).length = cnt s := by rw [cnt, List.countP_eq_length_filter]; rfl
end Go.Proofs.Ytjlbfbpjcmjdfaa.Mt
end
section
namespace Go.Proofs.Ytjlbfbpjcmjdfaa.Mt
set_option linter.unusedVariables false
/-- The vectors that R rows send to zero. -/
def Ker (p : Int) (n R : Nat) (a : Nat → Nat → Int) (v : Nat → Int) : Prop := ∀ i, i < R → p ∣ dot n (a i) v
theorem J3 {p : Int} {n R : Nat} (hp : qJ p) (hn : n ≤ 8) (a : Nat → Nat → Int) : Sp p n (Ker p n R a) where
  fld := hp
  size := hn
  zero := fun i _ => Z5 _ _ fun j _ => by simp
  add := fun v w c hv hw i hi => by rw [vB]; exact Int.dvd_add (hv i hi) (Int.dvd_mul_of_dvd_right (hw i hi))
  mod := fun v w h hv i hi => by
    have h1 := YN (u := a i) h
    have h2 := Int.dvd_sub (hv i hi) h1
    rwa [show ∀ x y : Int, x - (x - y) = y from by intros; omega] at h2
theorem ju {n : Nat} {u u' v : Nat → Int} (h : ∀ j, j < n → u j = u' j) : dot n u v = dot n u' v := by
  unfold dot; congr 1; apply List.map_congr_left; intro j hj; rw [h j (List.mem_range.1 hj)]
theorem ZT {p : Int} {n : Nat} {u u' v : Nat → Int} (h : ∀ j, j < n → p ∣ u j - u' j) : p ∣ dot n u v - dot n u' v := by
  rw [vG n u, vG n u']; exact YN h
theorem j4 {p x y : Int} (h : p ∣ x - y) : p ∣ x ↔ p ∣ y := by
  constructor
  · intro hx; have := Int.dvd_sub hx h; rwa [show x - (x - y) = y by omega] at this
  · intro hy; have := Int.dvd_add hy h; rwa [show y + (x - y) = x by omega] at this
/-- Rows that are made of one another, both ways, modulo p: row t is multiplied by f, and the others take y times themselves and g i times row t. -/
theorem zaD {p : Int} {n R t : Nat} {a b : Nat → Nat → Int} (hp : qJ p) (ht : t < R) (f : Int) (hf : ¬ p ∣ f) (y : Nat → Int) (hy : ∀ i, i < R → i ≠ t → ¬ p ∣ y i) (g : Nat → Int)
    (h1 : ∀ j, j < n → p ∣ b t j - f * a t j) (h2 : ∀ i, i < R → i ≠ t → ∀ j, j < n → p ∣ b i j - (y i * a i j + g i * a t j)) (v : Nat → Int) : Ker p n R a v ↔ Ker p n R b v := by
  have e1 : p ∣ dot n (b t) v - f * dot n (a t) v := by
    have h := ZT (v := v) h1
    have h3 := Z4 n v (fun _ => 0) (a t) f
    have h4 : dot n (fun _ => (0 : Int)) v = 0 := by
      unfold dot
      have : (fun j => (0 : Int) * v j) = fun _ => 0 := funext fun j => by omega
      rw [this]
      induction List.range n with
      | nil => rfl
      | cons _ l ih => rw [List.map_cons, List.sum_cons, ih]; rfl
    rw [h4] at h3
    have h5 : dot n (fun j => f * a t j) v = f * dot n (a t) v := by
      have h6 : (fun j => f * a t j) = fun j => (0 : Int) + f * a t j := funext fun j => by omega
      rw [h6, h3]; omega
    rwa [h5] at h
  have e2 : ∀ i, i < R → i ≠ t → p ∣ dot n (b i) v - (y i * dot n (a i) v + g i * dot n (a t) v) := fun i hi hit => by
    have h := ZT (v := v) (h2 i hi hit)
    have h3 := Z4 n v (fun j => y i * a i j) (a t) (g i)
    have h5 : dot n (fun j => y i * a i j) v = y i * dot n (a i) v := by
      unfold dot
      rw [← yq]; congr 1; apply List.map_congr_left; intro j _; rw [Int.mul_assoc]
    rw [h3, h5] at h; exact h
  constructor
  · intro hK i hi
    by_cases hit : i = t
    · subst hit; exact (j4 e1).2 (Int.dvd_mul_of_dvd_right (hK i hi))
    · exact (j4 (e2 i hi hit)).2 (Int.dvd_add (Int.dvd_mul_of_dvd_right (hK i hi)) (Int.dvd_mul_of_dvd_right (hK t ht)))
  · intro hK
    have ha : p ∣ dot n (a t) v := by
      rcases hp.Jy ((j4 e1).1 (hK t ht)) with h | h
      · exact absurd h hf
      · exact h
    intro i hi
    by_cases hit : i = t
    · subst hit; exact ha
    · have h3 := (j4 (e2 i hi hit)).1 (hK i hi)
      have h4 := Int.dvd_sub h3 (Int.dvd_mul_of_dvd_right (b := g i) ha)
      rw [show ∀ x y : Int, x + y - y = x from by intros; omega] at h4
      rcases hp.Jy h4 with h | h
      · exact absurd h (hy i hi hit)
      · exact h
/-- Two rows exchanged. -/
theorem za8 {p : Int} {n R t k : Nat} {a b : Nat → Nat → Int} (ht : t < R) (hk : k < R) (h1 : ∀ j, j < n → b t j = a k j) (h2 : ∀ j, j < n → b k j = a t j) (h3 : ∀ i, i < R → i ≠ t → i ≠ k → ∀ j, j < n → b i j = a i j) (v : Nat → Int) : Ker p n R a v ↔ Ker p n R b v := by
  constructor
  · intro h i hi
    by_cases hit : i = t
    · subst hit; rw [ju h1]; exact h k hk
    · by_cases hik : i = k
      · subst hik; rw [ju h2]; exact h t ht
      · rw [ju (h3 i hi hit hik)]; exact h i hi
  · intro h i hi
    by_cases hit : i = t
    · subst hit; rw [← ju h2]; exact h k hk
    · by_cases hik : i = k
      · subst hik; rw [← ju h1]; exact h t ht
      · rw [← ju (h3 i hi hit hik)]; exact h i hi

/-- The set of some places. -/
def bitsOf (P : List Nat) : Nat := setOf 8 P.contains
theorem vy (P : List Nat) (i : Nat) : (bitsOf P).testBit i = (decide (i < 8) && P.contains i) := Qm _ _ _
/-- Rows whose first t have a place each that is not zero there, and zero in all rows below; what is below the first t is zero at all places of s. -/
structure Steps (p : Int) (n R : Nat) (b : Nat → Nat → Int) (s : Nat) (P : List Nat) : Prop where
  len : P.length ≤ R
  nodup : P.Nodup
  mem : ∀ x ∈ P, x < n ∧ s.testBit x = true
  diag : ∀ k (hk : k < P.length), ¬ p ∣ b k P[k]
  below : ∀ k (hk : k < P.length), ∀ i, k < i → i < R → p ∣ b i P[k]
  zero : ∀ i, P.length ≤ i → i < R → ∀ c, c < n → s.testBit c = true → p ∣ b i c
section
variable {p : Int} {n R : Nat} {b : Nat → Nat → Int} {s : Nat} {P : List Nat}
theorem Steps.li (hp : qJ p) (hn : n ≤ 8) (h : Steps p n R b s P) : li p n (Ker p n R b) (bitsOf P) := by
  intro v hv hs
  have out : ∀ j, j < n → j ∉ P → p ∣ v j := fun j hj hjP => hs j hj (by rw [vy]; simp [hjP])
  -- from the last place on downwards
  have key : ∀ m k (hk : k < P.length), k + m + 1 = P.length → p ∣ v P[k] := by
    intro m
    induction m using Nat.strongRecOn with
    | _ m ih =>
      intro k hk hm
      have h1 := hv k (Nat.lt_of_lt_of_le hk h.len)
      have hkn := (h.mem P[k] (List.getElem_mem hk)).1
      have h2 := QF (p := p) hkn (b k) v fun j hj hjk => by
        by_cases hjP : j ∈ P
        · obtain ⟨i, hi, rfl⟩ := List.getElem_of_mem hjP
          rcases Nat.lt_trichotomy i k with hik | hik | hik
          · exact Int.dvd_mul_of_dvd_left (h.below i hi k hik (Nat.lt_of_lt_of_le hk h.len))
          · subst hik; exact absurd rfl hjk
          · exact Int.dvd_mul_of_dvd_right (ih (P.length - i - 1) (by omega) i hi (by omega))
        · exact Int.dvd_mul_of_dvd_right (out j hj hjP)
      have h3 := (j4 h2).1 h1
      rcases hp.Jy h3 with h4 | h4
      · exact absurd h4 (h.diag k hk)
      · exact h4
  intro j hj
  by_cases hjP : j ∈ P
  · obtain ⟨i, hi, rfl⟩ := List.getElem_of_mem hjP
    exact key (P.length - i - 1) i hi (by omega)
  · exact out j hj hjP
theorem Steps.Ji (hp : qJ p) (hn : n ≤ 8) (h : Steps p n R b s P) {e : Nat} (he : e < n) (hes : s.testBit e = true) (heP : e ∉ P) : ¬ Mt.li p n (Ker p n R b) (ins (bitsOf P) e) := by
  -- a vector with 1 at e that the rows from k on send to zero, k from the last row down
  have key : ∀ m, m ≤ P.length → ∃ v : Nat → Int, v e = 1 ∧ (∀ j, j < n → j ≠ e → (∀ i (hi : i < P.length), P.length - m ≤ i → P[i] ≠ j) → v j = 0) ∧ ∀ i, P.length - m ≤ i → i < R → p ∣ dot n (b i) v := by
    intro m
    induction m with
    | zero =>
      intro _
      refine ⟨fun j => if j = e then 1 else 0, if_pos rfl, fun j _ hje _ => if_neg hje, fun i hi hiR => ?_⟩
      have h2 := QF (p := p) he (b i) (fun j => if j = e then 1 else 0) fun j hj hje => by
        show p ∣ b i j * (if j = e then 1 else 0)
        rw [if_neg hje]; simp
      rw [j4 h2]
      exact Int.dvd_mul_of_dvd_left (h.zero i (by omega) hiR e he hes)
    | succ m ih =>
      intro hm
      obtain ⟨v, hve, hv0, hvK⟩ := ih (by omega)
      have hk : P.length - (m + 1) < P.length := by omega
      obtain ⟨k, hkdef⟩ : ∃ k, k = P.length - (m + 1) := ⟨_, rfl⟩
      have hkP : k < P.length := by omega
      have hkn := (h.mem P[k] (List.getElem_mem hkP)).1
      have hke : P[k] ≠ e := fun hh => heP (hh ▸ List.getElem_mem hkP)
      obtain ⟨z, hz⟩ := hp.inv (h.diag k hkP)
      have hvk : v P[k] = 0 := hv0 P[k] hkn hke fun i hi hik hh => by
        have := (List.getElem_inj h.nodup).1 hh; omega
      -- the unit vector at that place
      let w : Nat → Int := fun j => if j = P[k] then 1 else 0
      have hw : ∀ i, dot n (b i) w = b i P[k] := fun i => by
        have h2 := QF (p := 0) hkn (b i) w fun j hj hjk => by
          show (0 : Int) ∣ b i j * (if j = P[k] then 1 else 0)
          rw [if_neg hjk]; simp
        have h3 := Int.zero_dvd.1 h2
        have h4 : w P[k] = 1 := if_pos rfl
        rw [h4] at h3; omega
      refine ⟨fun j => v j + -(z * dot n (b k) v) * w j, ?_, fun j hj hje hjP => ?_, fun i hi hiR => ?_⟩
      · show v e + _ * (if e = P[k] then 1 else 0) = 1
        rw [if_neg (Ne.symm hke), hve]; omega
      · show v j + _ * (if j = P[k] then 1 else 0) = 0
        rw [if_neg (fun hh => hjP k hkP (by omega) hh.symm), hv0 j hj hje fun i hi hik => hjP i hi (by omega)]; omega
      · rw [vB, hw]
        by_cases hik : i = k
        · subst hik
          have := Int.dvd_mul_of_dvd_right (b := -(dot n (b i) v)) hz
          rw [show ∀ d c z : Int, -d * (c * z - 1) = d + -(z * d) * c from by intro d c z; rw [Int.mul_sub, Int.neg_mul, Int.neg_mul, Int.neg_mul, Int.mul_comm z d, Int.mul_assoc, Int.mul_comm z c]; omega] at this
          exact this
        · exact Int.dvd_add (hvK i (by omega) hiR) (Int.dvd_mul_of_dvd_right (h.below k hkP i (by omega) hiR))
  obtain ⟨v, hve, hv0, hvK⟩ := key P.length (Nat.le_refl _)
  refine (J3 hp hn b).Ji he (fun i hi => hvK i (by omega) hi) (fun j hj hjs => ?_) (by
    rw [hve]; intro hh; have := hp.pos; have := Int.le_of_dvd (by decide) hh; omega)
  rw [ql, vy] at hjs
  have h1 := Bool.or_eq_false_iff.1 hjs
  have h2 : j ∉ P := fun hh => by
    have := h1.1; simp [hh] at this; omega
  rw [hv0 j hj (fun hh => by rw [hh] at h1; simp at h1) fun i hi _ hh => h2 (hh ▸ List.getElem_mem hi)]
  exact Int.dvd_zero p
theorem V4 (hn : P.Nodup) (h8 : ∀ x ∈ P, x < 8) : cnt (bitsOf P) = P.length := by
  have h1 : cnt (bitsOf P) = (List.range 8).countP P.contains := by
    unfold cnt; refine List.countP_congr fun i hi => ?_
    rw [vy, decide_eq_true (List.mem_range.1 hi)]; simp
  rw [h1]
  have key : ∀ (l : List Nat), l.Nodup → (∀ x ∈ P, x ∈ l) → l.countP P.contains = P.length := by
    induction P with
    | nil =>
      intro l _ _
      rw [List.length_nil, List.countP_eq_zero]; intro a _; simp
    | cons x P ih =>
      intro l hl hm
      rw [List.nodup_cons] at hn
      have hx : x ∈ l := hm x (by simp)
      obtain ⟨l1, l2, rfl⟩ := List.append_of_mem hx
      have hl' : (l1 ++ l2).Nodup ∧ x ∉ l1 ++ l2 := by
        have : (x :: (l1 ++ l2)).Nodup := (List.perm_middle.nodup_iff).1 hl
        rw [List.nodup_cons] at this; exact ⟨this.2, this.1⟩
      have h2 := ih hn.2 (fun y hy => h8 y (by simp [hy])) (by
        unfold cnt; refine List.countP_congr fun i hi => ?_
        rw [vy, decide_eq_true (List.mem_range.1 hi)]; simp) (l1 ++ l2) hl'.1 fun y hy => by
          have := hm y (by simp [hy])
          rw [List.mem_append, List.mem_cons] at this
          rw [List.mem_append]
          rcases this with h | h | h
          · exact .inl h
          · subst h; exact absurd hy hn.1
          · exact .inr h
      rw [List.countP_append, List.countP_cons] 
      have h3 : ∀ l : List Nat, x ∉ l → l.countP (x :: P).contains = l.countP P.contains := fun l hxl => List.countP_congr fun y hy => by
        have : y ≠ x := fun h => hxl (h ▸ hy)
        simp [this]
      have h4 := hl'.2
      rw [List.mem_append, not_or] at h4
      rw [h3 l1 h4.1, h3 l2 h4.2]
      rw [List.countP_append] at h2
      simp
      omega
  exact key (List.range 8) List.nodup_range fun x hx => List.mem_range.2 (h8 x hx)
/-- The rank that rows in steps tell. -/
theorem Steps.rk (hp : qJ p) (hn : n ≤ 8) (hs : s < 2 ^ n) (h : Steps p n R b s P) : rk (linB p n (Ker p n R b)) s = P.length := by
  have h8 : ∀ x ∈ P, x < 8 := fun x hx => Nat.lt_of_lt_of_le (h.mem x hx).1 hn
  rw [← V4 h.nodup h8]
  refine (J3 hp hn b).rk hs (fun i hi => ?_) (h.li hp hn) fun e he heP => ?_
  · rw [vy] at hi; simp at hi; exact (h.mem i hi.2).2
  · refine h.Ji hp hn (jW hs he) he fun hh => ?_
    rw [vy] at heP; simp [hh, h8 e hh] at heP
end
end Go.Proofs.Ytjlbfbpjcmjdfaa.Mt
end
section
namespace Go.Proofs.Ytjlbfbpjcmjdfaa.L
open Go.Proofs.Ytjlbfbpjcmjdfaa.Mt
set_option linter.unusedSimpArgs false
set_option linter.unusedVariables false
/-- In the midst of an elimination: the columns of s below j are done. -/
structure PS (p : Int) (n R : Nat) (a : Tab) (s j : Nat) (M : Tab) (P : List Nat) : Prop where
  len : P.length ≤ R
  nodup : P.Nodup
  mem : ∀ x ∈ P, x < j ∧ s.testBit x = true
  diag : ∀ k (hk : k < P.length), ¬ p ∣ M k P[k]
  below : ∀ k (hk : k < P.length), ∀ i, k < i → i < R → p ∣ M i P[k]
  zero : ∀ i, P.length ≤ i → i < R → ∀ c, c < j → s.testBit c = true → p ∣ M i c
  ker : ∀ v, Ker p n R a v ↔ Ker p n R M v
section
variable {p : Int} {n R s j : Nat} {a M : Tab} {P : List Nat}
theorem PS.start : PS p n R a s 0 a [] where
  len := Nat.zero_le _
  nodup := List.nodup_nil
  mem := fun x hx => by cases hx
  diag := fun k hk => by cases hk
  below := fun k hk => by cases hk
  zero := fun i _ _ c hc => absurd hc (Nat.not_lt_zero c)
  ker := fun v => Iff.rfl
theorem PS.skip (h : PS p n R a s j M P) (hz : s.testBit j = true → ∀ i, P.length ≤ i → i < R → p ∣ M i j) : PS p n R a s (j + 1) M P :=
  { h with
    mem := fun x hx => ⟨by have := (h.mem x hx).1; omega, (h.mem x hx).2⟩
    zero := fun i h1 h2 c hc hs => by
      rcases Nat.lt_or_ge c j with h3 | h3
      · exact h.zero i h1 h2 c h3 hs
      · obtain rfl : c = j := by omega
        exact hz hs i h1 h2 }
theorem vE (t b : Nat) (M : Tab) (i c : Nat) : qg (jd t b) M i c = if i = b then M t c else if i = t then M b c else M i c := rfl
theorem PS.swap (h : PS p n R a s j M P) {b : Nat} (h1 : P.length ≤ b) (h2 : b < R) : PS p n R a s j (qg (jd P.length b) M) P := by
  have hrow : ∀ i c, i < P.length → qg (jd P.length b) M i c = M i c := fun i c hi => by rw [vE, if_neg (by omega), if_neg (by omega)]
  have hge : ∀ c, (∀ i, P.length ≤ i → i < R → p ∣ M i c) → ∀ i, P.length ≤ i → i < R → p ∣ qg (jd P.length b) M i c := fun c hc i hi hiR => by
    rw [vE]
    split
    · exact hc _ (Nat.le_refl _) (by omega)
    · split
      · exact hc _ h1 h2
      · exact hc _ hi hiR
  refine { h with diag := fun k hk => by rw [hrow k _ hk]; exact h.diag k hk, below := fun k hk i hki hiR => ?_, zero := fun i hi hiR c hc hs => hge c (fun i hi hiR => h.zero i hi hiR c hc hs) i hi hiR, ker := fun v => (h.ker v).trans ?_ }
  · rcases Nat.lt_or_ge i P.length with h3 | h3
    · rw [hrow i _ h3]; exact h.below k hk i hki hiR
    · exact hge _ (fun i' hi' hiR' => h.below k hk i' (by omega) hiR') i h3 hiR
  · by_cases hb : b = P.length
    · subst hb
      have : qg (jd P.length P.length) M = M := by
        funext i c; rw [vE]; by_cases e : i = P.length
        · subst e; simp
        · simp [e]
      rw [this]
    · refine za8 (t := P.length) (k := b) (by omega) h2 (fun c _ => ?_) (fun c _ => ?_) (fun i hi hit hib c _ => ?_) v
      · rw [vE, if_neg (Ne.symm hb), if_pos rfl]
      · rw [vE, if_pos rfl]
      · rw [vE, if_neg hib, if_neg hit]
theorem Vc {p x y : Int} (h : p ∣ x - y) (hy : p ∣ y) : p ∣ x := (j4 h).2 hy
theorem QN {p x y : Int} (h : p ∣ x - y) (hy : ¬ p ∣ y) : ¬ p ∣ x := fun hx => hy ((j4 h).1 hx)
theorem VV {p x y u v : Int} (hx : p ∣ x) (hy : p ∣ y) : p ∣ u * x + v * y := Int.dvd_add (Int.dvd_mul_of_dvd_right hx) (Int.dvd_mul_of_dvd_right hy)
theorem PS.row (hp : qJ p) (h : PS p n R a s j M P) (hj : j < n) (hs : s.testBit j = true) (ht : P.length < R) (hx : ¬ p ∣ M P.length j) {M' : Tab} (f : Int) (hf : ¬ p ∣ f) (y : Nat → Int) (hy : ∀ i, i < R → i ≠ P.length → ¬ p ∣ y i) (g : Nat → Int)
    (h1 : ∀ c, c < n → p ∣ M' P.length c - f * M P.length c) (h2 : ∀ i, i < R → i ≠ P.length → ∀ c, c < n → p ∣ M' i c - (y i * M i c + g i * M P.length c)) (h3 : ∀ i, P.length < i → i < R → p ∣ M' i j) :
    PS p n R a s (j + 1) M' (P ++ [j]) := by
  have hm : ∀ k (hk : k < P.length), P[k] < n := fun k hk => by have := (h.mem _ (List.getElem_mem hk)).1; omega
  have hcol : ∀ c, c < n → ∀ k, (∀ i, k < i → i < R → p ∣ M i c) → ∀ i, k < i → i < R → k < P.length → p ∣ M' i c := fun c hc k hk i hi hiR hkt => by
    by_cases hit : i = P.length
    · subst hit; exact Vc (h1 c hc) (Int.dvd_mul_of_dvd_right (hk _ hi hiR))
    · exact Vc (h2 i hiR hit c hc) (VV (hk i hi hiR) (hk _ hkt ht))
  have hmul : ∀ {x y : Int}, ¬ p ∣ x → ¬ p ∣ y → ¬ p ∣ x * y := fun hx hy hxy => (hp.Jy hxy).elim hx hy
  refine { len := ?_, nodup := ?_, mem := ?_, diag := ?_, below := ?_, zero := ?_, ker := ?_ }
  · rw [List.length_append]; exact ht
  · rw [List.nodup_append]
    refine ⟨h.nodup, List.nodup_cons.2 ⟨by simp, List.nodup_nil⟩, fun x hx y hy => ?_⟩
    rw [List.mem_singleton] at hy
    have := (h.mem x hx).1
    omega
  · intro x hx
    rcases List.mem_append.1 hx with hx | hx
    · exact ⟨by have := (h.mem x hx).1; omega, (h.mem x hx).2⟩
    · rw [List.mem_singleton] at hx; subst hx; exact ⟨by omega, hs⟩
  · intro k hk
    rw [List.length_append, List.length_singleton] at hk
    by_cases c : k < P.length
    · rw [List.getElem_append_left c]
      refine QN (h2 k (by omega) (by omega) _ (hm k c)) fun hd => ?_
      have h4 : p ∣ g k * M P.length P[k] := Int.dvd_mul_of_dvd_right (h.below k c _ c ht)
      have h5 := Int.dvd_sub hd h4
      rw [Int.add_sub_cancel] at h5
      exact hmul (hy k (by omega) (by omega)) (h.diag k c) h5
    · obtain rfl : k = P.length := by omega
      rw [List.getElem_append_right (Nat.le_refl _)]
      simp only [Nat.sub_self, List.getElem_singleton]
      exact QN (h1 j hj) (hmul hf hx)
  · intro k hk i hki hiR
    rw [List.length_append, List.length_singleton] at hk
    by_cases c : k < P.length
    · rw [List.getElem_append_left c]
      exact hcol _ (hm k c) k (h.below k c) i hki hiR c
    · obtain rfl : k = P.length := by omega
      rw [List.getElem_append_right (Nat.le_refl _)]
      simp only [Nat.sub_self, List.getElem_singleton]
      exact h3 i hki hiR
  · intro i hi hiR c hc hsc
    rw [List.length_append, List.length_singleton] at hi
    rcases Nat.lt_or_ge c j with h4 | h4
    · exact Vc (h2 i hiR (by omega) c (by omega)) (VV (h.zero i (by omega) hiR c h4 hsc) (h.zero _ (Nat.le_refl _) ht c h4 hsc))
    · obtain rfl : c = j := by omega
      exact h3 i (by omega) hiR
  · intro v
    exact (h.ker v).trans (zaD hp ht f hf y hy g h1 h2 v)
theorem PS.done (h : PS p n R a s n M P) : Mt.Steps p n R M s P :=
  ⟨h.len, h.nodup, h.mem, h.diag, h.below, fun i h1 h2 c hc hs => h.zero i h1 h2 c hc hs⟩
theorem PS.rk (hp : qJ p) (hn : n ≤ 8) (hs : s < 2 ^ n) (h : PS p n R a s n M P) : rk (linB p n (Ker p n R a)) s = P.length := by
  rw [show Ker p n R a = Ker p n R M from funext fun v => propext (h.ker v)]
  exact h.done.rk hp hn hs
theorem Jl {x : Int} (h0 : x ≠ 0) (h1 : 0 ≤ x ∧ x < p) : ¬ p ∣ x := fun h => by
  have := Int.le_of_dvd (by omega) h; omega
theorem yg (x p : Int) : p ∣ Int.tmod x p - x := by
  have := Int.mul_tdiv_add_tmod x p
  exact ⟨-(x.tdiv p), by rw [Int.mul_neg]; omega⟩
end
theorem Qs (p : Int) (t col : Nat) (M : Tab) : ∀ m, (List.range m).foldl (q8 p t col) M = fun i c => if i < m ∧ i ≠ t then Int.tmod (M i c + (p - M i col) * M t c) p else M i c
  | 0 => by funext i c; simp
  | m + 1 => by
    rw [List.range_succ, List.foldl_append, Qs p t col M m]
    funext i c
    show q8 p t col _ m i c = _
    unfold q8
    by_cases h1 : m = t
    · subst h1
      rw [if_pos rfl]
      by_cases h2 : i < m ∧ i ≠ m
      · rw [if_pos h2, if_pos ⟨by omega, h2.2⟩]
      · rw [if_neg h2, if_neg (by omega)]
    · rw [if_neg h1]
      show (QA p t m _ (fun i => _) i) = _
      unfold QA
      by_cases h2 : i = m
      · subst h2
        simp [h1]
      · rw [if_neg h2]
        show (if i < m ∧ i ≠ t then Int.tmod (M i c + (p - M i col) * M t c) p else M i c) = _
        by_cases h3 : i < m ∧ i ≠ t
        · rw [if_pos h3, if_pos ⟨by omega, h3.2⟩]
        · rw [if_neg h3, if_neg (by omega)]
theorem Zz (p : Int) (R t col : Nat) (M : Tab) (i c : Nat) (hi : i < R) : yf p R t col M i c =
    if i = t then Int.tmod (M t c * vo p (M t col)) p else Int.tmod (M i c + (p - M i col) * Int.tmod (M t c * vo p (M t col)) p) p := by
  unfold yf yN
  rw [Qs]
  by_cases h : i = t
  · subst h; simp [qg, vK]
  · simp [hi, h, qg, vK]
theorem zbG : ∀ p ∈ [2, 3, 5, 7], ∀ a ∈ List.range 7, 1 ≤ a → a < p → (p : Int) ∣ (a : Int) * vo p a - 1 := by decide
theorem zaU {p a : Int} (hp : qJ p) (ha : 1 ≤ a) (hap : a < p) : p ∣ a * vo p a - 1 := by
  obtain ⟨q, rfl, hq⟩ := hp.nat
  obtain ⟨b, rfl⟩ := Int.eq_ofNat_of_zero_le (show 0 ≤ a by omega)
  have hq7 : q ≤ 7 := by simp at hq; omega
  exact zbG q hq b (List.mem_range.2 (by omega)) (by omega) (by omega)
section
variable {p : Int} {n R s j : Nat} {a M : Tab} {P : List Nat}
theorem PS.pivot (hp : qJ p) (h : PS p n R a s j M P) (hj : j < n) (hs : s.testBit j = true) (ht : P.length < R) (hM : InF p R n M) (hx : M P.length j ≠ 0) : PS p n R a s (j + 1) (yf p R P.length j M) (P ++ [j]) := by
  have hv := hM _ j ht hj
  have hinv := zaU hp (show 1 ≤ M P.length j by omega) hv.2
  have hpp := hp.pos
  have hf : ¬ p ∣ vo p (M P.length j) := fun hd => by
    have h1 : p ∣ M P.length j * vo p (M P.length j) := Int.dvd_mul_of_dvd_right hd
    have h2 := Int.dvd_sub h1 hinv
    rw [show ∀ x : Int, x - (x - 1) = 1 from by intro x; omega] at h2
    have := Int.le_of_dvd (by omega) h2
    omega
  refine h.row hp hj hs ht (Jl hx hv) (vo p (M P.length j)) hf (fun _ => 1) (fun i _ _ hd => by have := Int.le_of_dvd (by omega) hd; omega) (fun i => (p - M i j) * vo p (M P.length j)) (fun c hc => ?_) (fun i hi hit c hc => ?_) (fun i hti hi => ?_)
  · rw [Zz _ _ _ _ _ _ _ ht, if_pos rfl, Int.mul_comm]; exact yg _ _
  · rw [Zz _ _ _ _ _ _ _ hi, if_neg hit]
    have h1 := yg (M i c + (p - M i j) * Int.tmod (M P.length c * vo p (M P.length j)) p) p
    have h2 : p ∣ (p - M i j) * (Int.tmod (M P.length c * vo p (M P.length j)) p - M P.length c * vo p (M P.length j)) := Int.dvd_mul_of_dvd_right (yg _ _)
    have h3 := Int.dvd_add h1 h2
    refine (show ∀ x y : Int, x = y → p ∣ x → p ∣ y from fun x y e h => e ▸ h) _ _ ?_ h3
    rw [Int.mul_sub, Int.mul_assoc, Int.mul_comm (vo p (M P.length j)) (M P.length c)]
    omega
  · rw [Zz _ _ _ _ _ _ _ hi, if_neg (by omega)]
    refine Vc (yg _ _) ?_
    have h2 : p ∣ (p - M i j) * (Int.tmod (M P.length j * vo p (M P.length j)) p - M P.length j * vo p (M P.length j)) := Int.dvd_mul_of_dvd_right (yg _ _)
    have h4 : p ∣ (p - M i j) * (M P.length j * vo p (M P.length j) - 1) := Int.dvd_mul_of_dvd_right hinv
    have h5 := Int.dvd_add (Int.dvd_add h2 h4) (Int.dvd_refl p)
    refine (show ∀ x y : Int, x = y → p ∣ x → p ∣ y from fun x y e h => e ▸ h) _ _ ?_ h5
    rw [Int.mul_sub, Int.mul_sub, Int.mul_one]
    omega
/-- One column of s, taken up by impl.reduce's step. -/
theorem PS.red (hp : qJ p) {st : Red} (h : PS p n R a s j st.M P) (ht : P.length = st.t) (hj : j < n) (hs : s.testBit j = true) (hM : InF p R n st.M) :
    ∃ P', P'.length = (qp p R st j).t ∧ PS p n R a s (j + 1) (qp p R st j).M P' ∧ (qp p R st j).M = (qp p R st j).M := by
  obtain ⟨h1, h2, h3, h4⟩ := jA st.M R j (R - st.t) st.t (by have := h.len; omega)
  by_cases c : zX st.M R st.t j < R
  · have he : qp p R st j = ⟨st.t + 1, yf p R st.t j (qg (jd st.t (zX st.M R st.t j)) st.M), st.ps ++ [(j : Int)]⟩ := by unfold qp; rw [if_pos c]
    rw [he]
    rw [← ht] at h1 ⊢
    rw [← ht] at c h3
    have hsw := h.swap (b := zX st.M R P.length j) h1 c
    refine ⟨P ++ [j], by rw [List.length_append]; rfl, hsw.pivot hp hj hs (by omega) (hM.swap (by omega) c) ?_, rfl⟩
    rw [vE]
    by_cases c2 : P.length = zX st.M R P.length j
    · rw [if_pos c2]; rw [← c2] at h3; exact h3 (by omega)
    · rw [if_neg c2, if_pos rfl]; exact h3 c
  · have he : qp p R st j = st := by unfold qp; rw [if_neg c]
    rw [he]
    exact ⟨P, ht, h.skip fun _ i hi hiR => by rw [h4 i (by omega) (by omega)]; exact Int.dvd_zero p, rfl⟩
end
def Vl (p : Int) (t i0 : Nat) (x y : Int) (f : Nat → Int) (i : Nat) : Int := if i = i0 then Int.tmod (Int.tmod (f i0 * y - f t * x) p + p) p else f i
def j7 (p : Int) (t col : Nat) (M : Tab) (i : Nat) : Tab := qg (Vl p t i (M i col) (M t col)) M
def yI (p : Int) (t col R : Nat) (M : Tab) : Tab := (List.range' (t + 1) (R - (t + 1))).foldl (j7 p t col) M
def vH (p : Int) (R : Nat) (st : Nat × Tab) (j : Nat) : Nat × Tab :=
  if zX st.2 R st.1 j < R then (st.1 + 1, yI p st.1 j R (qg (jd (zX st.2 R st.1 j) st.1) st.2)) else st
theorem V6 (a b : Nat) : jd a b = jd b a := by
  funext f i
  unfold jd
  by_cases h1 : i = a
  · by_cases h2 : i = b
    · subst h1; subst h2; rfl
    · simp [h1, h2]
      intro h; rw [h]
  · by_cases h2 : i = b
    · simp [h1, h2]
      intro h; rw [h]
    · simp [h1, h2]
theorem QP (p : Int) (t col : Nat) (M : Tab) : ∀ m, (List.range' (t + 1) m).foldl (j7 p t col) M = fun i c => if t < i ∧ i < t + 1 + m then Int.tmod (Int.tmod (M i c * M t col - M t c * M i col) p + p) p else M i c
  | 0 => by
    funext i c
    rw [if_neg (by omega)]; rfl
  | m + 1 => by
    rw [List.range'_concat, List.foldl_append, QP p t col M m, List.foldl_cons, List.foldl_nil]
    funext i c
    unfold j7 qg
    unfold Vl
    by_cases h2 : i = t + 1 + 1 * m
    · subst h2
      have e1 : ¬ (t < t + 1 + 1 * m ∧ t + 1 + 1 * m < t + 1 + m) := by omega
      have e2 : ¬ (t < t ∧ t < t + 1 + m) := by omega
      have e3 : t < t + 1 + 1 * m ∧ t + 1 + 1 * m < t + 1 + (m + 1) := by omega
      simp only [if_neg e1, if_neg e2, if_pos e3, if_true]
    · rw [if_neg h2]
      show (if t < i ∧ i < t + 1 + m then Int.tmod (Int.tmod (M i c * M t col - M t c * M i col) p + p) p else M i c) = _
      by_cases h3 : t < i ∧ i < t + 1 + m
      · rw [if_pos h3, if_pos ⟨by omega, by omega⟩]
      · rw [if_neg h3, if_neg (by omega)]
theorem Zs (p : Int) {t R : Nat} (col : Nat) (M : Tab) (ht : t < R) (i c : Nat) : yI p t col R M i c = if t < i ∧ i < R then Int.tmod (Int.tmod (M i c * M t col - M t c * M i col) p + p) p else M i c := by
  unfold yI
  rw [QP, show t + 1 + (R - (t + 1)) = R by omega]
theorem YE (v : Int) {p : Int} (hp : 0 < p) : -p < Int.tmod v p := by
  have := Int.tmod_lt_of_pos (-v) hp
  rw [Int.neg_tmod] at this
  omega
theorem zaW (v : Int) {p : Int} (hp : 2 ≤ p) : 0 ≤ Int.tmod (Int.tmod v p + p) p ∧ Int.tmod (Int.tmod v p + p) p < p := by
  have := YE v (show 0 < p by omega)
  exact J8 (by omega) hp
theorem YF (v p : Int) : p ∣ Int.tmod (Int.tmod v p + p) p - v := by
  have h1 := yg (Int.tmod v p + p) p
  have h2 := yg v p
  have h3 := Int.dvd_add (Int.dvd_add h1 h2) (Int.dvd_refl p)
  refine (show ∀ x y : Int, x = y → p ∣ x → p ∣ y from fun x y e h => e ▸ h) _ _ ?_ h3
  omega
section
variable {p : Int} {n R s j : Nat} {a M : Tab} {P : List Nat}
theorem InF.j7 (h : InF p R n M) (hp : 2 ≤ p) {t col i : Nat} : InF p R n (j7 p t col M i) := fun i' c hi hc => by
  unfold L.j7 qg Vl
  split
  · exact zaW _ hp
  · exact h i' c hi hc
theorem InF.YG (hp : 2 ≤ p) {t col : Nat} : ∀ (l : List Nat) {M : Tab}, InF p R n M → InF p R n (l.foldl (L.j7 p t col) M)
  | [], _, h => h
  | i :: l, _, h => InF.YG hp l (h.j7 hp)
theorem InF.yI (h : InF p R n M) (hp : 2 ≤ p) {t col : Nat} : InF p R n (yI p t col R M) := InF.YG hp _ h
theorem PS.fwd (hp : qJ p) (h : PS p n R a s j M P) (hj : j < n) (hs : s.testBit j = true) (ht : P.length < R) (hM : InF p R n M) (hx : M P.length j ≠ 0) : PS p n R a s (j + 1) (yI p P.length j R M) (P ++ [j]) := by
  have hv := hM _ j ht hj
  have hpp := hp.pos
  have h1p : ¬ p ∣ 1 := fun hd => by have := Int.le_of_dvd (by omega) hd; omega
  have hd := Jl hx hv
  refine h.row hp hj hs ht hd 1 h1p (fun i => if P.length < i then M P.length j else 1) (fun i _ _ => by show ¬ p ∣ if _ then _ else _; split <;> assumption) (fun i => if P.length < i then - M i j else 0) (fun c hc => ?_) (fun i hi hit c hc => ?_) (fun i hti hi => ?_)
  · rw [Zs _ _ _ ht, if_neg (by omega), Int.one_mul, Int.sub_self]; exact Int.dvd_zero p
  · rw [Zs _ _ _ ht]
    by_cases c1 : P.length < i
    · rw [if_pos (show P.length < i ∧ i < R from ⟨c1, hi⟩)]
      simp only [c1, if_true]
      have h2 := YF (M i c * M P.length j - M P.length c * M i j) p
      refine (show ∀ x y : Int, x = y → p ∣ x → p ∣ y from fun x y e h => e ▸ h) _ _ ?_ h2
      rw [Int.neg_mul, Int.mul_comm (M i c), Int.mul_comm (M P.length c)]
      omega
    · rw [if_neg (show ¬ (P.length < i ∧ i < R) by omega)]
      simp only [c1, if_false]
      rw [Int.one_mul, Int.zero_mul, Int.add_zero, Int.sub_self]
      exact Int.dvd_zero p
  · rw [Zs _ _ _ ht, if_pos (show P.length < i ∧ i < R from ⟨hti, hi⟩)]
    have h2 := YF (M i j * M P.length j - M P.length j * M i j) p
    rw [Int.mul_comm (M i j), Int.sub_self, Int.sub_zero] at h2
    rwa [Int.mul_comm (M i j), Int.sub_self]
/-- One column of s, taken up by spec.l4Rank's step. -/
theorem PS.vH (hp : qJ p) {st : Nat × Tab} (h : PS p n R a s j st.2 P) (ht : P.length = st.1) (hj : j < n) (hs : s.testBit j = true) (hM : InF p R n st.2) :
    ∃ P', P'.length = (L.vH p R st j).1 ∧ PS p n R a s (j + 1) (L.vH p R st j).2 P' ∧ InF p R n (L.vH p R st j).2 := by
  obtain ⟨h1, h2, h3, h4⟩ := jA st.2 R j (R - st.1) st.1 (by have := h.len; omega)
  by_cases c : zX st.2 R st.1 j < R
  · have he : L.vH p R st j = (st.1 + 1, yI p st.1 j R (qg (jd (zX st.2 R st.1 j) st.1) st.2)) := by unfold L.vH; rw [if_pos c]
    rw [he, V6]
    rw [← ht] at h1 ⊢
    rw [← ht] at c h3
    have hsw := h.swap (b := zX st.2 R P.length j) h1 c
    have hin := hM.swap (a := P.length) (b := zX st.2 R P.length j) (by omega) c
    refine ⟨P ++ [j], by rw [List.length_append]; rfl, hsw.fwd hp hj hs (by omega) hin ?_, hin.yI hp.pos.1⟩
    rw [vE]
    by_cases c2 : P.length = zX st.2 R P.length j
    · rw [if_pos c2]; rw [← c2] at h3; exact h3 (by omega)
    · rw [if_neg c2, if_pos rfl]; exact h3 c
  · have he : L.vH p R st j = st := by unfold L.vH; rw [if_neg c]
    rw [he]
    exact ⟨P, ht, h.skip fun _ i hi hiR => by rw [h4 i (by omega) (by omega)]; exact Int.dvd_zero p, hM⟩
def jV (p : Int) (R s : Nat) (M : Tab) (n : Nat) : Nat × Tab := (List.range n).foldl (fun st j => if s.testBit j = true then L.vH p R st j else st) (0, M)
def vv (p : Int) (R s : Nat) (M : Tab) (n : Nat) : Red := (List.range n).foldl (fun st j => if s.testBit j = true then qp p R st j else st) ⟨0, M, []⟩
theorem JM (hp : qJ p) (hM : InF p R n M) : ∀ m, m ≤ n → ∃ P, P.length = (jV p R s M m).1 ∧ PS p n R M s m (jV p R s M m).2 P ∧ InF p R n (jV p R s M m).2
  | 0, _ => ⟨[], rfl, PS.start, hM⟩
  | m + 1, hm => by
    obtain ⟨P, h1, h2, h3⟩ := JM hp hM m (by omega)
    have e : jV p R s M (m + 1) = if s.testBit m = true then L.vH p R (jV p R s M m) m else jV p R s M m := by unfold jV; rw [List.range_succ, List.foldl_append]; rfl
    rw [e]
    by_cases c : s.testBit m = true
    · rw [if_pos c]; exact h2.vH hp h1 (by omega) c h3
    · rw [if_neg c]; exact ⟨P, h1, h2.skip fun h => absurd h c, h3⟩
theorem JK (hp : qJ p) (hM : InF p R n M) : ∀ m, m ≤ n → ∃ P, P.length = (vv p R s M m).t ∧ PS p n R M s m (vv p R s M m).M P ∧ InF p R n (vv p R s M m).M
  | 0, _ => ⟨[], rfl, PS.start, hM⟩
  | m + 1, hm => by
    obtain ⟨P, h1, h2, h3⟩ := JK hp hM m (by omega)
    have e : vv p R s M (m + 1) = if s.testBit m = true then qp p R (vv p R s M m) m else vv p R s M m := by unfold vv; rw [List.range_succ, List.foldl_append]; rfl
    rw [e]
    by_cases c : s.testBit m = true
    · rw [if_pos c]
      obtain ⟨P', g1, g2, _⟩ := h2.red hp h1 (by omega) c h3
      refine ⟨P', g1, g2, ?_⟩
      unfold qp
      split
      · rename_i hlt
        have hle := h2.len
        obtain ⟨f1, _, _, _⟩ := jA (vv p R s M m).M R m (R - (vv p R s M m).t) (vv p R s M m).t (by omega)
        exact (h3.swap (by omega) hlt).pivot hp.pos.1 (by omega) (by omega)
      · exact h3
    · rw [if_neg c]; exact ⟨P, h1, h2.skip fun h => absurd h c, h3⟩
/-- Both count the rank of the columns of s. -/
theorem za6 (hp : qJ p) (hn : n ≤ 8) (hs : s < 2 ^ n) (hM : InF p R n M) : (jV p R s M n).1 = rk (linB p n (Ker p n R M)) s := by
  obtain ⟨P, h1, h2, _⟩ := JM (s := s) hp hM n (Nat.le_refl n)
  rw [h2.rk hp hn hs, h1]
theorem zcr (hp : qJ p) (hn : n ≤ 8) (hs : s < 2 ^ n) (hM : InF p R n M) : (vv p R s M n).t = rk (linB p n (Ker p n R M)) s := by
  obtain ⟨P, h1, h2, _⟩ := JK (s := s) hp hM n (Nat.le_refl n)
  rw [h2.rk hp hn hs, h1]
end
def vm (es : List Nat) (M : Tab) : Tab := fun i q => M i (es.getD q 0)
theorem Ja (es : List Nat) (p : Int) (t q : Nat) : ∀ (l : List Nat) (X : Tab), l.foldl (q8 p t q) (vm es X) = vm es (l.foldl (q8 p t (es.getD q 0)) X)
  | [], _ => rfl
  | i :: l, X => by
    rw [List.foldl_cons, List.foldl_cons, ← Ja es p t q l]
    congr 1
    unfold q8
    split
    · rfl
    · rfl
theorem Yg (es : List Nat) (p : Int) (R q : Nat) (A B : Red) (h1 : A.t = B.t) (h2 : A.M = vm es B.M) : (qp p R A q).t = (qp p R B (es.getD q 0)).t ∧ (qp p R A q).M = vm es (qp p R B (es.getD q 0)).M := by
  obtain ⟨ta, Ma, pa⟩ := A
  obtain ⟨tb, Mb, pb⟩ := B
  simp only at h1 h2
  subst h1
  subst h2
  have hf : zX (vm es Mb) R ta q = zX Mb R ta (es.getD q 0) := rfl
  unfold qp
  simp only [hf]
  split
  · refine ⟨rfl, ?_⟩
    show yf p R ta q (vm es (qg (jd ta (zX Mb R ta (es.getD q 0))) Mb)) = vm es (yf p R ta (es.getD q 0) (qg (jd ta (zX Mb R ta (es.getD q 0))) Mb))
    generalize qg (jd ta (zX Mb R ta (es.getD q 0))) Mb = X
    exact Ja es p ta q (List.range R) (qg (vK p ta (vo p (X ta (es.getD q 0)))) X)
  · exact ⟨rfl, rfl⟩
theorem JF (es : List Nat) (p : Int) (R : Nat) (M : Tab) : ∀ m, m ≤ es.length → ((List.range m).foldl (qp p R) ⟨0, vm es M, []⟩).t = ((es.take m).foldl (qp p R) ⟨0, M, []⟩).t ∧ ((List.range m).foldl (qp p R) ⟨0, vm es M, []⟩).M = vm es ((es.take m).foldl (qp p R) ⟨0, M, []⟩).M
  | 0, _ => ⟨rfl, rfl⟩
  | m + 1, hm => by
    obtain ⟨h1, h2⟩ := JF es p R M m (by omega)
    rw [List.range_succ, List.foldl_append, List.take_succ_eq_append_getElem (show m < es.length by omega), List.foldl_append]
    have hg : es.getD m 0 = es[m] := by simp [List.getD_eq_getElem?_getD, show m < es.length by omega]
    have := Yg es p R m _ _ h1 h2
    rw [hg] at this
    exact this
theorem zae (p : Int) (R s n : Nat) (M : Tab) : (y0 p R ((List.range n).filter s.testBit).length (vm ((List.range n).filter s.testBit) M)).t = (vv p R s M n).t := by
  unfold y0 vv
  rw [(JF _ p R M _ (Nat.le_refl _)).1, List.take_length, List.foldl_filter]
end Go.Proofs.Ytjlbfbpjcmjdfaa.L
end
section
namespace Go.Proofs.Ytjlbfbpjcmjdfaa.L
open Go.RowKit Go.Proofs.Ytjlbfbpjcmjdfaa.F Go.Proofs.YtjlbfbpjcmjdfaaW.PrintWords Go.Proofs.YtjlbfbpjcmjdfaaW.PrintLast Go.Proofs.YtjlbfbpjcmjdfaaW.PrintMore
open Go.Proofs.Ytjlbfbpjcmjdfaa.Bits
set_option linter.unusedSimpArgs false
set_option linter.unusedVariables false
theorem zbZ (a e : Nat) (ha : a < 256) (he : e ≤ 64) : jY.f (a : Int) (e : Int) = some (a.testBit e) := by
  unfold jY.f; rw [Z7 (by omega) (by omega), if_pos (by omega), YP _ _ (by omega) (by omega)]
theorem zbD (M : Tab) (p : Int) (t i0 j : Nat) (x y : Int) : upd M i0 j (Int.tmod (Int.tmod (M i0 j * y - M t j * x) p + p) p) = jh (Vl p t i0 x y) M j := by
  funext i c
  unfold upd jh Vl
  by_cases h1 : c = j
  · subst h1
    by_cases h2 : i = i0
    · subst h2; simp
    · simp [h2]
  · simp [h1]
theorem zav {a b x y p : Int} (hp : 2 ≤ p ∧ p ≤ 7) (ha : 0 ≤ a ∧ a < p) (hb : 0 ≤ b ∧ b < p) (hx : 0 ≤ x ∧ x < p) (hy : 0 ≤ y ∧ y < p) :
    wrap64 (Int.tmod (wrap64 (wrap64 (a * y) - wrap64 (b * x))) p + p) = Int.tmod (a * y - b * x) p + p := by
  rw [wrap_mul (x := a) (y := y) ⟨ha.1, by omega⟩ ⟨hy.1, by omega⟩, wrap_mul (x := b) (y := x) ⟨hb.1, by omega⟩ ⟨hx.1, by omega⟩]
  have h1 := yG (x := a) (y := y) ⟨ha.1, by omega⟩ ⟨hy.1, by omega⟩
  have h2 := yG (x := b) (y := x) ⟨hb.1, by omega⟩ ⟨hx.1, by omega⟩
  rw [show wrap64 (a * y - b * x) = a * y - b * x from qQ (by omega) (by omega)]
  have h3 := YE (a * y - b * x) (show 0 < p by omega)
  have h4 := Int.tmod_lt_of_pos (a * y - b * x) (show 0 < p by omega)
  exact qQ (by omega) (by omega)
section
variable {p : Int} {R C : Nat} (hR : R ≤ 8) (hC : C ≤ 8) (hf : isField p = true)
include hR hC
theorem zay {t j s : Nat} (hj : j < C) (M : Tab) (r : Int) (h : Ev (fun k => zg.j2 k p R C s (qj M R C) t j (zX M R t j : Nat)) r) :
    ∀ d a, a + d = R → zX M R a j = zX M R t j → Ev (fun k => zg.l1 k p R C s (qj M R C) t j (a : Nat)) r
  | 0, a, ha, he => by
    obtain rfl : a = R := by omega
    rw [y3] at he
    rw [← he] at h
    refine Ev.succ ?_
    simp only [zg.l1, show ¬ ((a : Int) < (a : Int)) by omega, if_false]
    exact h
  | d + 1, a, ha, he => by
    have hlt : a < R := by omega
    have h1 := yo hlt hj
    rw [Zu hlt] at he
    refine Ev.succ ?_
    simp only [zg.l1, show ((a : Int) < (R : Int)) by omega, if_true, jH (show a ≤ 8 by omega) hC (show j ≤ 8 by omega), qK, qY, jK M hlt hj, show (0 : Int) ≤ ((a * C + j : Nat) : Int) by omega, show ((a * C + j : Nat) : Int) < ((R * C : Nat) : Int) by omega, zS (show a < 9223372036854775807 by omega)]
    by_cases c : M a j = 0
    · rw [if_pos c] at he
      simp only [c, if_true]
      exact zay hj M r h d (a + 1) (by omega) he
    · rw [if_neg c] at he
      simp only [c, if_false]
      rw [← he] at h
      exact h
include hf
theorem zaZ {s : Nat} (hs : s < 256) : ∀ d j (st : Nat × Tab), j + d = C → st.1 ≤ R → InF p R C st.2 →
    Ev (fun k => zg.l0 k p R C s (qj st.2 R C) (st.1 : Nat) (j : Nat)) (((List.range' j d).foldl (fun st j => if s.testBit j = true then vH p R st j else st) st).1 : Int) := by
  have hp := jL hf
  intro d
  induction d with
  | zero =>
    intro j st hj ht hM
    obtain rfl : j = C := by omega
    refine Ev.succ ?_
    simp only [zg.l0, show ¬ ((j : Int) < (j : Int)) by omega, if_false]
    exact Ev.now _
  | succ d ih =>
    intro j st hj ht hM
    have hjC : j < C := by omega
    refine Ev.succ ?_
    simp only [zg.l0, show ((j : Int) < (C : Int)) by omega, if_true, zbZ s j hs (by omega), Option.bind_some, zS (show j < 9223372036854775807 by omega)]
    rw [List.range'_succ, List.foldl_cons]
    cases hb : s.testBit j
    · simp only [Bool.false_eq_true, if_false]
      exact ih (j + 1) st (by omega) ht hM
    simp only [if_true]
    obtain ⟨f1, f2, f3, f4⟩ := jA st.2 R j (R - st.1) st.1 (by omega)
    refine zay hR hC hjC st.2 _ ?_ (R - st.1) st.1 (by omega) rfl
    refine Ev.succ ?_
    by_cases c : zX st.2 R st.1 j < R
    · have he : vH p R st j = (st.1 + 1, yI p st.1 j R (qg (jd (zX st.2 R st.1 j) st.1) st.2)) := by unfold vH; rw [if_pos c]
      rw [he]
      have htR : st.1 < R := by omega
      simp only [zg.j2, show ¬ (((zX st.2 R st.1 j : Nat) : Int) ≥ (R : Int)) by omega, if_false]
      generalize zX st.2 R st.1 j = b at c f1 ⊢
      have l2 := jn (fun k (M : Tab) m => zg.l2 k p R C s (qj M R C) (st.1 : Nat) (j : Nat) (b : Nat) m) C (fun M m => jh (jd b st.1) M m) (fun _ _ => True)
        (fun m M hm _ => ⟨trivial, fun r hr => by
          have h1 := yo c hm
          have h2 := yo htR hm
          simp only [zg.l2, show ((m : Int) < (C : Int)) by omega, if_true, jH (show b ≤ 8 by omega) hC (show m ≤ 8 by omega), jH (show st.1 ≤ 8 by omega) hC (show m ≤ 8 by omega), qK, Int.toNat_natCast, qY, jK M c hm, jK M htR hm,
            show (0 : Int) ≤ ((b * C + m : Nat) : Int) by omega, show ((b * C + m : Nat) : Int) < ((R * C : Nat) : Int) by omega, show (0 : Int) ≤ ((st.1 * C + m : Nat) : Int) by omega, show ((st.1 * C + m : Nat) : Int) < ((R * C : Nat) : Int) by omega, zS (show m < 9223372036854775807 by omega), Zw _ c hm, Zw _ htR hm, za1]
          exact hr⟩) st.2 trivial
      refine l2.2 _ (Ev.succ ?_)
      simp only [zg.l2, show ¬ ((C : Int) < (C : Int)) by omega, if_false, zS (show st.1 < 9223372036854775807 by omega)]
      rw [ZP]
      have hM1 : InF p R C (qg (jd b st.1) st.2) := hM.swap c htR
      generalize qg (jd b st.1) st.2 = M1 at hM1 ⊢
      refine Qg (fun k (M' : Tab) i => zg.l3 k p R C s (qj M' R C) (st.1 : Nat) (j : Nat) i) R (j7 p st.1 j) (fun i M' => InF p R C M' ∧ st.1 < i) (fun M' => (((List.range' (j + 1) d).foldl (fun st j => if s.testBit j = true then vH p R st j else st) (st.1 + 1, M')).1 : Int))
        (fun M' hM' => ?_) (fun i M' hi hM' => ⟨⟨hM'.1.j7 hp.1, by omega⟩, fun r hr => ?_⟩) (R - (st.1 + 1)) (st.1 + 1) M1 (by omega) ⟨hM1, by omega⟩
      · simp only [zg.l3, show ¬ ((R : Int) < (R : Int)) by omega, if_false, zS (show st.1 < 9223372036854775807 by omega), zS (show j < 9223372036854775807 by omega)]
        exact ih (j + 1) (st.1 + 1, M') (by omega) htR hM'.1
      · obtain ⟨hM', hti⟩ := hM'
        have h1 := yo hi hjC
        have h2 := yo htR hjC
        have hx := hM' i j hi hjC
        have hy := hM' st.1 j htR hjC
        simp only [zg.l3, show ((i : Int) < (R : Int)) by omega, if_true, jH (show i ≤ 8 by omega) hC (show j ≤ 8 by omega), jH (show st.1 ≤ 8 by omega) hC (show j ≤ 8 by omega), qK, qY, jK M' hi hjC, jK M' htR hjC,
          show (0 : Int) ≤ ((i * C + j : Nat) : Int) by omega, show ((i * C + j : Nat) : Int) < ((R * C : Nat) : Int) by omega, show (0 : Int) ≤ ((st.1 * C + j : Nat) : Int) by omega, show ((st.1 * C + j : Nat) : Int) < ((R * C : Nat) : Int) by omega]
        unfold j7 at hr
        generalize M' i j = x at hr hx ⊢
        generalize M' st.1 j = y at hr hy ⊢
        have hstep : ∀ N : Tab, InF p R C N → InF p R C (qg (Vl p st.1 i x y) N) := fun N hN i' c' hi' hc' => by
          unfold qg Vl
          split
          · exact zaW _ hp.1
          · exact hN i' c' hi' hc'
        have l4 := jn (fun k (N : Tab) m => zg.l4 k p R C s (qj N R C) (st.1 : Nat) (j : Nat) (i : Nat) x y m) C (fun N m => jh (Vl p st.1 i x y) N m) (fun _ N => InF p R C N)
          (fun m N hm hN => ⟨Zy hstep hN hm, fun r hr => by
            have h3 := yo hi hm
            have h4 := yo htR hm
            simp only [zg.l4, show ((m : Int) < (C : Int)) by omega, if_true, jH (show i ≤ 8 by omega) hC (show m ≤ 8 by omega), jH (show st.1 ≤ 8 by omega) hC (show m ≤ 8 by omega), qK, Int.toNat_natCast, qY, jK N hi hm, jK N htR hm,
              show (0 : Int) ≤ ((i * C + m : Nat) : Int) by omega, show ((i * C + m : Nat) : Int) < ((R * C : Nat) : Int) by omega, show (0 : Int) ≤ ((st.1 * C + m : Nat) : Int) by omega, show ((st.1 * C + m : Nat) : Int) < ((R * C : Nat) : Int) by omega, zS (show m < 9223372036854775807 by omega), show ¬ p = 0 by omega, if_false,
              zav (a := N i m) (b := N st.1 m) (x := x) (y := y) hp (hN i m hi hm) (hN st.1 m htR hm) hx hy, Zw _ hi hm, zbD]
            exact hr⟩) M' hM'
        refine l4.2 _ (Ev.succ ?_)
        simp only [zg.l4, show ¬ ((C : Int) < (C : Int)) by omega, if_false, zS (show i < 9223372036854775807 by omega)]
        rw [ZP]
        exact hr
    · have he : vH p R st j = st := by unfold vH; rw [if_neg c]
      rw [he]
      simp only [zg.j2, show (((zX st.2 R st.1 j : Nat) : Int) ≥ (R : Int)) by omega, if_true, zS (show j < 9223372036854775807 by omega)]
      exact ih (j + 1) st (by omega) ht hM
theorem Ys {s : Nat} (hs : s < 2 ^ C) {l : List Int} (hl : l.length = R * C) (hx : ∀ x ∈ l, 0 ≤ x ∧ x < p) :
    Ev (fun k => zg.f k p R C l s) ((jV p R s (qD l C) C).1 : Int) := by
  have hp := jL hf
  have h256 : s < 256 := Nat.lt_of_lt_of_le hs (Nat.pow_le_pow_right (n := 2) (by decide) hC)
  have hRC : R * C ≤ 64 := Nat.le_trans (Nat.mul_le_mul hR hC) (by decide)
  have key := zaZ hR hC hf h256 C 0 (0, qD l C) (by omega) (Nat.zero_le _) (fun i j _ _ => J4 hp.1 hx _)
  rw [zao hl, ← List.range_eq_range'] at key
  unfold zg.f
  simp only [Option.bind_some, List.length_nil, show 0 + l.length < 17592186044416 by omega, if_true, List.nil_append]
  exact key
end
end Go.Proofs.Ytjlbfbpjcmjdfaa.L
end
section
namespace Go.Proofs.Ytjlbfbpjcmjdfaa.L
open Go.RowKit Go.Proofs.Ytjlbfbpjcmjdfaa.F Go.Proofs.YtjlbfbpjcmjdfaaW.PrintWords Go.Proofs.YtjlbfbpjcmjdfaaW.PrintLast Go.Proofs.YtjlbfbpjcmjdfaaW.PrintMore
open Go.Proofs.Ytjlbfbpjcmjdfaa.Bits
set_option linter.unusedSimpArgs false
set_option linter.unusedVariables false
theorem ZC (M : Tab) {R C i : Nat} (hi : i < R) : zG (qh M R C) (i : Int) = q4 M C i := by
  unfold zG; rw [Int.toNat_natCast]; exact yV M hi
theorem Yj (M : Tab) {R C a b : Nat} (ha : a < R) (hb : b < R) : Vt (qh M R C) (a : Int) (b : Int) = some (qh (qg (jd a b) M) R C) := by
  unfold Vt
  rw [if_pos ⟨by omega, by rw [qv]; omega, by omega, by rw [qv]; omega⟩]
  simp only [Int.toNat_natCast, yV M ha, yV M hb, zab M ha hb]
section
variable {p : Int} {R C : Nat} (hR : R ≤ 8) (hC : C ≤ 8) (hf : isField p = true)
include hR
theorem zaC {t j : Nat} (ps : List Int) (hj : j < C) (M : Tab) (l : List Int) (r : Int × Int × Int × List Int × List Int) (h : Ev (fun k => zc.j3 k (qh M R C) ps j t (zX M R t j : Nat) p R C l) r) :
    ∀ d a, a + d = R → zX M R a j = zX M R t j → Ev (fun k => zc.l2 k (qh M R C) ps j t (a : Nat) p R C l) r
  | 0, a, ha, he => by
    obtain rfl : a = R := by omega
    rw [y3] at he
    rw [← he] at h
    refine Ev.succ ?_
    simp only [zc.l2, qv, show ¬ ((a : Int) < (a : Int)) by omega, if_false]
    exact h
  | d + 1, a, ha, he => by
    have hlt : a < R := by omega
    rw [Zu hlt] at he
    refine Ev.succ ?_
    simp only [zc.l2, qv, show ((a : Int) < (R : Int)) by omega, if_true, show (0 : Int) ≤ (a : Int) by omega, show (0 : Int) ≤ (j : Int) by omega, ZC M hlt, ji, show ((j : Int) < (C : Int)) by omega, qY, ye M hj, zS (show a < 9223372036854775807 by omega)]
    by_cases c : M a j = 0
    · rw [if_pos c] at he
      simp only [c, if_true]
      exact zaC ps hj M l r h d (a + 1) (by omega) he
    · rw [if_neg c] at he
      simp only [c, if_false]
      rw [← he] at h
      exact h
include hC hf
theorem zbq {t col : Nat} (ps : List Int) (hps : ps.length ≤ 8) (ht : t < R) (hc : col < C) {M : Tab} (hM : InF p R C M) (hx : M t col ≠ 0) (l : List Int) (r : Int × Int × Int × List Int × List Int)
    (h : Ev (fun k => zc.l1 k (qh (yf p R t col M) R C) (ps ++ [(col : Int)]) ((col + 1 : Nat) : Int) p R C l) r) :
    Ev (fun k => zc.l3 k (qh M R C) ps col t (vo p (M t col)) (C : Int) 0 p R C l) r := by
  have hp := jL hf
  have hv := hM t col ht hc
  have hi0 := Qw p (M t col)
  have hi1 := zbE hp.1 (M t col)
  have l1 := jn (fun k (M' : Tab) j => zc.l3 k (qh M' R C) ps col t (vo p (M t col)) (C : Int) j p R C l) C (fun M' j => jh (vK p t (vo p (M t col))) M' j) (fun _ M' => InF p R C M')
    (fun j M' hj hM' => ⟨Zy (fun N hN => hN.scale hp.1 ht hi0) hM' hj, fun r hr => by
      have hb := hM' t j ht hj
      simp only [zc.l3, show ((j : Int) < (C : Int)) by omega, if_true, qv, show (0 : Int) ≤ (t : Int) by omega, show ((t : Int) < (R : Int)) by omega, show (0 : Int) ≤ (j : Int) by omega, ZC M' ht, ji, Int.toNat_natCast, qY, ye M' hj,
        zS (show j < 9223372036854775807 by omega), show ¬ p = 0 by omega, if_false,
        wrap_mul (x := M' t j) (y := vo p (M t col)) ⟨by omega, by omega⟩ ⟨by omega, by omega⟩, Je _ ht hj, Y7]
      exact hr⟩) M hM
  refine l1.2 _ (Ev.succ ?_)
  simp only [zc.l3, show ¬ ((C : Int) < (C : Int)) by omega, if_false, qv]
  rw [ZY]
  have hM1 : InF p R C (qg (vK p t (vo p (M t col))) M) := hM.scale hp.1 ht hi0
  replace h : Ev (fun k => zc.l1 k (qh (yN p t col R (qg (vK p t (vo p (M t col))) M)) R C) (ps ++ [(col : Int)]) ((col + 1 : Nat) : Int) p R C l) r := h
  generalize qg (vK p t (vo p (M t col))) M = M1 at hM1 h ⊢
  have l4 := jn (fun k (M' : Tab) i => zc.l4 k (qh M' R C) ps col t (R : Int) i p R C l) R (q8 p t col) (fun _ M' => InF p R C M')
    (fun i M' hi hM' => ⟨hM'.q8 hp.1 ht hc hi, fun r hr => by
      have hg := hM' i col hi hc
      simp only [zc.l4, show ((i : Int) < (R : Int)) by omega, if_true, qv, show (0 : Int) ≤ (i : Int) by omega, show (0 : Int) ≤ (col : Int) by omega, ZC M' hi, ji, show ((col : Int) < (C : Int)) by omega, qY, ye M' hc]
      by_cases hit : i = t
      · subst hit
        rw [q8, if_pos rfl] at hr
        refine Ev.succ ?_
        simp only [zc.l5, show ((0 : Int) < (C : Int)) by omega, if_true, zS (show i < 9223372036854775807 by omega)]
        exact hr
      · rw [q8, if_neg hit] at hr
        generalize M' i col = g at hr hg ⊢
        have l2 := jn (fun k (N : Tab) j => zc.l5 k (qh N R C) ps col t (i : Int) g j (R : Int) (i : Int) p R C l) C (fun N j => jh (QA p t i g) N j) (fun _ N => InF p R C N)
          (fun j N hj hN => ⟨Zy (fun N hN => hN.elim hp.1 ht hi hg) hN hj, fun r hr => by
            simp only [zc.l5, show ((j : Int) < (C : Int)) by omega, if_true, show ¬ ((i : Int) = (t : Int)) by omega, if_false, qv, show (0 : Int) ≤ (i : Int) by omega, show ((i : Int) < (R : Int)) by omega, show (0 : Int) ≤ (j : Int) by omega, ZC N hi, ZC N ht, ji, show (0 : Int) ≤ (t : Int) by omega, show ((t : Int) < (R : Int)) by omega, Int.toNat_natCast, qY, ye N hj,
              zS (show j < 9223372036854775807 by omega), show ¬ p = 0 by omega,
              Y8 (x := N i j) (g := g) (y := N t j) hp (hN i j hi hj) hg (hN t j ht hj), Je _ hi hj, zaG]
            exact hr⟩) M' hM'
        refine l2.2 _ (Ev.succ ?_)
        simp only [zc.l5, show ¬ ((C : Int) < (C : Int)) by omega, if_false, zS (show i < 9223372036854775807 by omega)]
        rw [ZY]
        exact hr⟩) M1 hM1
  refine l4.2 _ (Ev.succ ?_)
  simp only [zc.l4, show ¬ ((R : Int) < (R : Int)) by omega, if_false, show ps.length < 17592186044416 by omega, if_true, zS (show col < 9223372036854775807 by omega)]
  exact h
theorem zcJ (l : List Int) : ∀ d j (s : Red), j + d = C → JN p R C s →
    Ev (fun k => zc.l1 k (qh s.M R C) s.ps (j : Nat) p R C l) (p, (((List.range' j d).foldl (qp p R) s).t : Int), (C : Int), qj ((List.range' j d).foldl (qp p R) s).M ((List.range' j d).foldl (qp p R) s).t C, ((List.range' j d).foldl (qp p R) s).ps) := by
  have hp := jL hf
  intro d
  induction d with
  | zero =>
    intro j s hj hs
    obtain rfl : j = C := by omega
    have ht := hs.t_le
    have hlen := hs.len
    have hRC : R * j ≤ 64 := Nat.le_trans (Nat.mul_le_mul hR hC) (by decide)
    refine Ev.succ ?_
    simp only [zc.l1, show ¬ ((j : Int) < (j : Int)) by omega, if_false, hlen, show (0 : Int) ≤ (s.t : Int) by omega, if_true, qv, show ((s.t : Int) ≤ (R : Int)) by omega, Option.bind_some, Int.toNat_natCast, Y3 s.M ht]
    refine yK (fun k (x : List Int) i => zc.l6 k s.ps (qh s.M s.t j) (s.t : Int) i p (s.t : Int) (j : Int) x) s.t (fun x i => x ++ q4 s.M j i) (fun i x => x = qj s.M i j) (fun x => (p, (s.t : Int), (j : Int), x, s.ps))
      (fun x hx => by simp only [zc.l6, show ¬ ((s.t : Int) < (s.t : Int)) by omega, if_false]; exact Ev.now _)
      (fun i x hi hx => ⟨by rw [hx]; exact Qi s.M j i, fun r hr => by
        have hle : i * j ≤ R * j := Nat.mul_le_mul_right _ (by omega)
        simp only [zc.l6, show ((i : Int) < (s.t : Int)) by omega, if_true, show (0 : Int) ≤ (i : Int) by omega, qv, ZC s.M hi, ji, show x.length + j < 17592186044416 by rw [hx, qK]; omega, zS (show i < 9223372036854775807 by omega)]
        exact hr⟩) [] (by simp [qj]) |> fun q => ?_
    have hfold : (List.range s.t).foldl (fun x i => x ++ q4 s.M j i) [] = qj s.M s.t j := by
      have : ∀ n, (List.range n).foldl (fun x i => x ++ q4 s.M j i) [] = qj s.M n j := fun n => by
        induction n with
        | zero => simp [qj]
        | succ n ih => rw [List.range_succ, List.foldl_append, ih]; exact Qi s.M j n
      exact this _
    rw [hfold] at q
    exact q
  | succ d ih =>
    intro j s hj hs
    have hjC : j < C := by omega
    have hlen := hs.len
    have htle := hs.t_le
    refine Ev.succ ?_
    simp only [zc.l1, show ((j : Int) < (C : Int)) by omega, if_true, hlen]
    have ho := hs.step hp.1 hjC
    have hrec := ih (j + 1) (qp p R s j) (by omega) ho
    rw [List.range'_succ, List.foldl_cons]
    obtain ⟨f1, f2, f3, f4⟩ := jA s.M R j (R - s.t) s.t (by omega)
    refine zaC hR s.ps hjC s.M l _ ?_ (R - s.t) s.t (by omega) rfl
    refine Ev.succ ?_
    by_cases c : zX s.M R s.t j = R
    · have he : qp p R s j = s := by unfold qp; rw [if_neg (by omega)]
      rw [he] at hrec ⊢
      simp only [zc.j3, c, qv, show ((R : Int) ≥ (R : Int)) by omega, if_true, zS (show j < 9223372036854775807 by omega)]
      exact hrec
    · have hlt : zX s.M R s.t j < R := by omega
      have htR : s.t < R := by omega
      have he : qp p R s j = ⟨s.t + 1, yf p R s.t j (qg (jd s.t (zX s.M R s.t j)) s.M), s.ps ++ [(j : Int)]⟩ := by unfold qp; rw [if_pos hlt]
      rw [he] at hrec ⊢
      have hsw := hs.inF.swap (M := s.M) htR hlt
      have hne : (qg (jd s.t (zX s.M R s.t j)) s.M) s.t j ≠ 0 := by
        unfold qg jd
        by_cases c2 : s.t = zX s.M R s.t j
        · rw [if_pos c2]; rw [← c2] at f3; exact f3 htR
        · rw [if_neg c2, if_pos rfl]; exact f3 hlt
      simp only [zc.j3, qv, show ¬ (((zX s.M R s.t j : Nat) : Int) ≥ (R : Int)) by omega, if_false, Yj s.M htR hlt, Option.bind_some, show (0 : Int) ≤ (s.t : Int) by omega, show ((s.t : Int) < (R : Int)) by omega, if_true, show (0 : Int) ≤ (j : Int) by omega, ZC _ htR, ji, show ((j : Int) < (C : Int)) by omega, qY, ye _ hjC]
      have hv := hsw s.t j htR hjC
      refine Ev.bind (zcD hf (show 1 ≤ (qg (jd s.t (zX s.M R s.t j)) s.M) s.t j by omega) hv.2) ?_
      exact zbq hR hC hf s.ps (by omega) htR hjC hsw hne l _ hrec
end
end Go.Proofs.Ytjlbfbpjcmjdfaa.L
end
section
namespace Go.Proofs.Ytjlbfbpjcmjdfaa.L
open Go.RowKit Go.Proofs.Ytjlbfbpjcmjdfaa.F Go.Proofs.YtjlbfbpjcmjdfaaW.PrintWords Go.Proofs.YtjlbfbpjcmjdfaaW.PrintLast Go.Proofs.YtjlbfbpjcmjdfaaW.PrintMore
open Go.Proofs.Ytjlbfbpjcmjdfaa.Bits
set_option linter.unusedSimpArgs false
set_option linter.unusedVariables false
theorem QH {p : Int} (h : isField p = true) : Mt.qJ p := by simpa [isField, Mt.qJ] using h
section
variable {p : Int} {R C : Nat} (hR : R ≤ 8) (hC : C ≤ 8)
include hR hC
theorem za0 (hf : isField p = true) {X : Tab} (hX : InF p R C X) : Ev (fun k => zc.f k p R C (qj X R C)) (p, ((y0 p R C X).t : Int), (C : Int), qj (y0 p R C X).M (y0 p R C X).t C, (y0 p R C X).ps) := by
  have hp := jL hf
  have hRC : R * C ≤ 64 := Nat.le_trans (Nat.mul_le_mul hR hC) (by decide)
  have key := zcJ hR hC hf (qj X R C) C 0 ⟨0, X, []⟩ (by omega) ⟨Nat.zero_le _, hX, rfl⟩
  rw [← List.range_eq_range'] at key
  unfold zc.f
  have l0 := jn (fun k (x : List (List Int)) i => zc.l0 k x i p R C (qj X R C)) R (fun x i => x ++ [q4 X C i]) (fun i x => x = qh X i C)
    (fun i x hi hxx => ⟨by rw [hxx]; exact zah _ C i, fun r hr => by
      have hle : (i + 1) * C ≤ R * C := Nat.mul_le_mul_right _ (by omega)
      have hle2 : i * C ≤ (i + 1) * C := Nat.mul_le_mul_right _ (by omega)
      have m1 := QL (r := (i : Int)) (c := (C : Int)) ⟨by omega, by omega⟩ ⟨by omega, by omega⟩
      have m2 := QL (r := ((i + 1 : Nat) : Int)) (c := (C : Int)) ⟨by omega, by omega⟩ ⟨by omega, by omega⟩
      have w1 : wrap64 ((i : Int) * (C : Int)) = ((i * C : Nat) : Int) := by rw [qQ (by omega) (by omega)]; simp
      have w2 : wrap64 (((i + 1 : Nat) : Int) * (C : Int)) = (((i + 1) * C : Nat) : Int) := by rw [qQ (by omega) (by omega), Int.natCast_mul]
      have hlen : x.length = i := by rw [hxx, qv]
      simp only [zc.l0, show ((i : Int) < (R : Int)) by omega, if_true, Option.bind_some, zS (show i < 9223372036854775807 by omega), w1, w2, show (0 : Int) ≤ ((i * C : Nat) : Int) by omega, show ((i * C : Nat) : Int) ≤ (((i + 1) * C : Nat) : Int) by omega, qK, show (((i + 1) * C : Nat) : Int) ≤ ((R * C : Nat) : Int) by omega, Int.toNat_natCast, Vx X hi, ji, List.length_nil, show 0 + C < 17592186044416 by omega, hlen, show i < 5864062014805 by omega, List.nil_append]
      exact hr⟩) [] (by simp [qh])
  have hfold := l0.1
  refine l0.2 _ (Ev.succ ?_)
  simp only [zc.l0, show ¬ ((R : Int) < (R : Int)) by omega, if_false]
  rw [hfold]
  exact key
theorem zbY {s : Int} {es : List Nat} (hes : yx s = es) (hlt : ∀ e ∈ es, e < C) {l : List Int} (hl : l.length = R * C) :
    Ev (fun k => zt.f k p R C l s) (p, (R : Int), (es.length : Int), qj (vm es (qD l C)) R es.length) := by
  have h8 : es.length ≤ 8 := by rw [← hes]; exact Zr s
  have hRe : R * es.length ≤ 64 := Nat.le_trans (Nat.mul_le_mul hR h8) (by decide)
  unfold zt.f
  refine Ev.bind (yR s) ?_
  rw [hes]
  have hil : (ints es).length = es.length := by simp [ints]
  have l0 := jn (fun k (x : List Int) i => zt.l0 k (ints es) i p R C l p R ((ints es).length : Int) x) R (fun x i => x ++ q4 (vm es (qD l C)) es.length i) (fun i x => x = qj (vm es (qD l C)) i es.length)
    (fun i x hi hxx => ⟨by rw [hxx]; exact Qi _ _ i, fun r hr => by
      have hle : (i + 1) * es.length ≤ R * es.length := Nat.mul_le_mul_right _ (by omega)
      rw [Nat.succ_mul] at hle
      have hxl : x.length = i * es.length := by rw [hxx, qK]
      simp only [zt.l0, show ((i : Int) < (R : Int)) by omega, if_true]
      have l1 := jn (fun k (y : List Int) q => zt.l1 k (ints es) i (ints es) ((ints es).length : Int) q p R C l p R ((ints es).length : Int) y) es.length (fun y q => y ++ [qD l C i (es.getD q 0)]) (fun q y => y = x ++ (List.range q).map (vm es (qD l C) i))
        (fun q y hq hy => ⟨by rw [hy, List.range_succ, List.map_append, List.append_assoc]; rfl, fun r hr => by
          have he : es[q] ∈ es := List.getElem_mem hq
          have hg : es.getD q 0 = es[q] := by simp [List.getD_eq_getElem?_getD, hq]
          have hcl := zbA hl hi (hlt _ he)
          have h7 := hlt _ he
          have hyl : y.length = i * es.length + q := by rw [hy, List.length_append, hxl]; simp
          simp only [zt.l1, hil, show ((q : Int) < (es.length : Int)) by omega, if_true, show (0 : Int) ≤ (q : Int) by omega, J1 es q hq, jG.f, jH (show i ≤ 8 by omega) hC (show es[q] ≤ 8 by omega), show (0 : Int) ≤ ((i * C + es[q] : Nat) : Int) by omega, show ((i * C + es[q] : Nat) : Int) < (l.length : Int) by omega, qY, Option.bind_some, show y.length < 17592186044416 by omega, zS (show q < 9223372036854775807 by omega)]
          rw [hg] at hr
          rw [hil] at hr
          exact hr⟩) x (by simp)
      have l1e := l1.1
      refine l1.2 _ (Ev.succ ?_)
      simp only [zt.l1, hil, show ¬ ((es.length : Int) < (es.length : Int)) by omega, if_false, zS (show i < 9223372036854775807 by omega)]
      rw [l1e]
      rw [hil] at hr
      exact hr⟩) [] (by simp [qj])
  have l0e := l0.1
  refine l0.2 _ (Ev.succ ?_)
  simp only [zt.l0, show ¬ ((R : Int) < (R : Int)) by omega, if_false]
  rw [l0e, hil]
  exact Ev.now _
end
def JV (p r c : Int) (l : List Int) (s : Int) : Bool := jj p r c l && decide (0 ≤ c ∧ c ≤ 8 ∧ 0 ≤ s ∧ s < 2 ^ c.toNat)
def ZA (p r c : Int) (l : List Int) (s : Int) : Int := if JV p r c l s = true then ((jV p r.toNat s.toNat (qD l c.toNat) c.toNat).1 : Int) else -1
theorem Va (p r c : Int) (l : List Int) (s : Int) : Ev (fun k => zP.f k p r c l s) (ZA p r c l s) := by
  have no : Ev (fun k => zP.j0 k s true p r c l) (-1) := Ev.succ (by simp only [zP.j0, if_true]; exact Ev.now _)
  unfold zP.f ZA JV
  refine Ev.bind (QR p r c l) ?_
  cases h : jj p r c l
  · simp only [Bool.false_eq_true, if_false, Bool.false_and]; exact no
  simp only [if_true, Yx, Option.bind_some, Bool.true_and]
  by_cases hs : 0 ≤ c ∧ c ≤ 8 ∧ 0 ≤ s ∧ s < 2 ^ c.toNat
  · simp only [hs, decide_true, and_self, if_true, Bool.not_true]
    obtain ⟨R, C, rfl, rfl, hR, hC, hl, h2, h7, hf, hx⟩ := vX h
    obtain ⟨S, rfl⟩ := Int.eq_ofNat_of_zero_le hs.2.2.1
    rw [Int.toNat_natCast] at hs
    have hS : S < 2 ^ C := by have := hs.2.2.2; exact_mod_cast this
    have h256 : S < 256 := Nat.lt_of_lt_of_le hS (Nat.pow_le_pow_right (n := 2) (by decide) hC)
    have hp := jL hf
    have hM : InF p R C (qD l C) := fun i j _ _ => J4 hp.1 hx _
    have hes : yx (S : Int) = (List.range C).filter S.testBit := by
      rw [← VN S C hC hS]
      unfold yx; rw [if_pos (by simp [isAny]; omega)]; rfl
    have hlt : ∀ e ∈ (List.range C).filter S.testBit, e < C := fun e he => List.mem_range.1 (List.mem_filter.1 he).1
    have h8 : ((List.range C).filter S.testBit).length ≤ 8 := by rw [← hes]; exact Zr _
    refine Ev.succ ?_
    simp only [zP.j0, Bool.false_eq_true, if_false, Int.toNat_natCast]
    refine Ev.bind (zbY hR hC hes hlt hl) ?_
    have hX : InF p R ((List.range C).filter S.testBit).length (vm ((List.range C).filter S.testBit) (qD l C)) := fun i q hi hq => by
      unfold vm
      refine hM i _ hi (hlt _ ?_)
      rw [List.getD_eq_getElem?_getD, List.getElem?_eq_getElem hq]
      exact List.getElem_mem hq
    refine Ev.bind (za0 hR h8 hf hX) ?_
    refine Ev.some ?_
    have hlen : (y0 p R ((List.range C).filter S.testBit).length (vm ((List.range C).filter S.testBit) (qD l C))).ps.length = (y0 p R ((List.range C).filter S.testBit).length (vm ((List.range C).filter S.testBit) (qD l C))).t := by
      have hok : ∀ (js : List Nat) (st : Red), (∀ j ∈ js, j < ((List.range C).filter S.testBit).length) → JN p R ((List.range C).filter S.testBit).length st → JN p R ((List.range C).filter S.testBit).length (js.foldl (qp p R) st) := fun js => by
        induction js with
        | nil => intro st _ h; exact h
        | cons j js ih => intro st hj h; exact ih _ (fun x hx => hj x (List.mem_cons_of_mem _ hx)) (h.step hp.1 (hj j List.mem_cons_self))
      exact (hok _ _ (fun j hj => List.mem_range.1 hj) ⟨Nat.zero_le _, hX, rfl⟩).len
    rw [hlen, zae, zcr (QH hf) hC hS hM, ← za6 (QH hf) hC hS hM]
  · simp only [hs, decide_false, Bool.not_false, Bool.false_eq_true, if_false]; exact no
end Go.Proofs.Ytjlbfbpjcmjdfaa.L
end
section
namespace Go.Proofs.Ytjlbfbpjcmjdfaa.L
open Go.RowKit Go.Proofs.Ytjlbfbpjcmjdfaa.F Go.Proofs.YtjlbfbpjcmjdfaaW.PrintWords Go.Proofs.YtjlbfbpjcmjdfaaW.PrintLast Go.Proofs.YtjlbfbpjcmjdfaaW.PrintMore
open Go.Proofs.Ytjlbfbpjcmjdfaa.Bits
open Go.Proofs.Ytjlbfbpjcmjdfaa.Mt (qF jS)
theorem Qo {a : Nat} (ha : a < 256) : isAny (a : Int) = true := by simp [isAny]; omega
theorem V5 {a b : Nat} (ha : a < 256) (hb : b < 256) : jC.f (a : Int) (b : Int) = some (decide (a &&& b = a)) := by
  unfold jC.f
  rw [ZR, ZR]
  simp only [Qo ha, Qo hb, Option.bind_some, if_true, ym a b (by omega) (by omega)]
  rw [Option.some.injEq, Bool.eq_iff_iff, beq_iff_eq, decide_eq_true_eq, ← qF, jS]
  omega
end Go.Proofs.Ytjlbfbpjcmjdfaa.L
end
section
namespace Go.Proofs.Ytjlbfbpjcmjdfaa.L
open Go.RowKit Go.Proofs.Ytjlbfbpjcmjdfaa.F Go.Proofs.YtjlbfbpjcmjdfaaW.PrintWords Go.Proofs.YtjlbfbpjcmjdfaaW.PrintLast Go.Proofs.YtjlbfbpjcmjdfaaW.PrintMore
open Go.Proofs.Ytjlbfbpjcmjdfaa.Bits
open Go.Proofs.Ytjlbfbpjcmjdfaa.Mt (sdiff qt elems jN cnt zaN full)
set_option linter.unusedSimpArgs false
set_option linter.unusedVariables false
theorem YU (l : List Int) (x : Int) : ((List.range l.length).any fun i => decide (l.getD i 0 = x)) = decide (x ∈ l) := by
  rw [Bool.eq_iff_iff]
  simp only [List.any_eq_true, List.mem_range, decide_eq_true_eq]
  constructor
  · rintro ⟨i, hi, h⟩
    rw [← h, List.getD_eq_getElem?_getD, List.getElem?_eq_getElem hi]; exact List.getElem_mem hi
  · intro h
    obtain ⟨i, hi, he⟩ := List.getElem_of_mem h
    exact ⟨i, hi, by rw [List.getD_eq_getElem?_getD, List.getElem?_eq_getElem hi]; exact he⟩
theorem zbb (l : List Int) (x : Int) (hl : l.length ≤ 17592186044416) : Ev (fun k => jZ.f k l x) (decide (x ∈ l)) := by
  unfold jZ.f qy.f zN.f
  have key : ∃ r : Int, Ev (fun k => zN.l0 k l x (l.length : Int) 0) r ∧ decide (r ≥ 0) = decide (x ∈ l) := by
    refine ⟨(List.range l.length).foldr (fun i r => if x = l.getD i 0 then (i : Int) else r) (-1), ?_, ?_⟩
    · refine yE (fun k i => zN.l0 k l x (l.length : Int) i) l.length _ (-1) ?_ fun i hi r hr => ?_
      · simp only [zN.l0, show ¬ ((l.length : Int) < (l.length : Int)) by omega, if_false]; exact Ev.now _
      · simp only [zN.l0, show ((i : Int) < (l.length : Int)) by omega, show (0 : Int) ≤ (i : Int) by omega, if_true, qY, zS (show i < 9223372036854775807 by omega)]
        by_cases h : x = l.getD i 0
        · rw [if_pos h]; simp only [if_pos h]; exact Ev.now _
        · rw [if_neg h]; simp only [if_neg h]; exact hr
    · have hh : ∀ L : List Nat, (0 ≤ L.foldr (fun i r => if x = l.getD i 0 then (i : Int) else r) (-1)) ↔ (L.any fun i => decide (l.getD i 0 = x)) = true := by
        intro L
        induction L with
        | nil => simp
        | cons i t ih =>
          simp only [List.foldr_cons, List.any_cons, Bool.or_eq_true, decide_eq_true_eq]
          by_cases h : x = l.getD i 0
          · simp only [if_pos h]; exact ⟨fun _ => .inl h.symm, fun _ => by omega⟩
          · simp only [if_neg h]; rw [ih]; exact ⟨.inr, fun hh => hh.elim (fun e => absurd e.symm h) id⟩
      rw [← YU, Bool.eq_iff_iff, decide_eq_true_eq]
      exact hh _
  obtain ⟨r, hr, e⟩ := key
  refine Ev.bind (Ev.bind hr (Ev.now _)) ?_
  rw [← e]; exact Ev.now _
def QW (n s : Int) : Bool := decide (0 ≤ n ∧ n ≤ 8 ∧ 0 ≤ s ∧ s < 2 ^ n.toNat)
def ya (n : Int) (l : List Int) : Bool := ((List.range l.length).all fun i => QW n (l.getD i 0) && (decide (i = 0) || decide (l.getD (i - 1) 0 < l.getD i 0))) && decide (0 ≤ n ∧ n ≤ 8)
theorem zaa {i : Nat} (h : i < 9223372036854775807) (h0 : 0 < i) : wrap64 ((i : Int) - 1) = ((i - 1 : Nat) : Int) := by rw [qQ (by omega) (by omega)]; omega
theorem V9 (n : Int) (l : List Int) (hl : l.length ≤ 17592186044416) : Ev (fun k => zK.f k n l) (ya n l) := by
  unfold zK.f
  have h := yE (fun k i => zK.l0 k n l l (l.length : Int) i) l.length (fun i r => (QW n (l.getD i 0) && (decide (i = 0) || decide (l.getD (i - 1) 0 < l.getD i 0))) && r) (decide (0 ≤ n ∧ n ≤ 8))
    (by simp only [zK.l0, show ¬ ((l.length : Int) < (l.length : Int)) by omega, if_false, Qc, Option.bind_some]; exact Ev.now _) fun i hi r hr => by
      simp only [zK.l0, show ((i : Int) < (l.length : Int)) by omega, show (0 : Int) ≤ (i : Int) by omega, if_true, qY, Yx, Option.bind_some, decide_eq_true_eq, zS (show i < 9223372036854775807 by omega)]
      unfold QW
      by_cases hs : 0 ≤ n ∧ n ≤ 8 ∧ 0 ≤ l.getD i 0 ∧ l.getD i 0 < 2 ^ n.toNat
      · simp only [hs, and_self, if_true, decide_true, Bool.true_and]
        by_cases h0 : i = 0
        · subst h0
          simp only [show ¬ (((0 : Nat) : Int) > 0) by omega, if_false, decide_true, Bool.true_or, Bool.true_and]; exact hr
        · simp only [show ((i : Int) > 0) by omega, if_true, zaa (show i < 9223372036854775807 by omega) (Nat.pos_of_ne_zero h0), show (0 : Int) ≤ ((i - 1 : Nat) : Int) by omega, show ((i - 1 : Nat) : Int) < (l.length : Int) by omega, qY, h0, decide_false, Bool.false_or]
          by_cases hc : l.getD (i - 1) 0 < l.getD i 0
          · simp only [show ¬ (l.getD i 0 ≤ l.getD (i - 1) 0) by omega, if_false, hc, decide_true, Bool.true_and]; exact hr
          · simp only [show (l.getD i 0 ≤ l.getD (i - 1) 0) by omega, if_true, hc, decide_false, Bool.false_and]; exact Ev.now _
      · simp only [if_neg hs, decide_eq_false hs, Bool.false_and]; exact Ev.now _
  rw [JO] at h
  exact h
/-- What a family holds, in natural numbers. -/
theorem zai {n : Int} {l : List Int} (h : ya n l = true) : ∃ (N : Nat) (B : List Nat), n = N ∧ N ≤ 8 ∧ l = ints B ∧ (∀ b ∈ B, b < 2 ^ N) ∧ B.Pairwise (· < ·) := by
  unfold ya at h
  simp only [Bool.and_eq_true, decide_eq_true_eq, List.all_eq_true, List.mem_range, Bool.or_eq_true] at h
  obtain ⟨h1, h2, h3⟩ := h
  obtain ⟨N, rfl⟩ := Int.eq_ofNat_of_zero_le h2
  have hset : ∀ i (hi : i < l.length), 0 ≤ l[i] ∧ l[i] < 2 ^ N := fun i hi => by
    have := (h1 i hi).1
    simp only [QW, decide_eq_true_eq, Int.toNat_natCast, List.getD_eq_getElem?_getD, List.getElem?_eq_getElem hi, Option.getD_some] at this
    exact ⟨this.2.2.1, this.2.2.2⟩
  have hstep : ∀ i (hi : i + 1 < l.length), l[i] < l[i + 1] := fun i hi => by
    have := (h1 (i + 1) hi).2
    simp only [Nat.succ_ne_zero, false_or, Nat.add_sub_cancel, List.getD_eq_getElem?_getD, List.getElem?_eq_getElem hi, List.getElem?_eq_getElem (show i < l.length by omega), Option.getD_some] at this
    exact this
  have hlt : ∀ j (hj : j < l.length) i (hi : i < j), l[i] < l[j] := by
    intro j
    induction j with
    | zero => intro _ i hi; omega
    | succ j ih =>
      intro hj i hi
      by_cases e : i = j
      · subst e; exact hstep i hj
      · exact Int.lt_trans (ih (by omega) i (by omega)) (hstep j hj)
  refine ⟨N, l.map Int.toNat, rfl, by omega, ?_, ?_, ?_⟩
  · apply List.ext_getElem (by simp [ints])
    intro i h1 h2
    have := (hset i h1).1
    simp [ints]; omega
  · intro b hb
    obtain ⟨x, hx, rfl⟩ := List.mem_map.1 hb
    obtain ⟨i, hi, rfl⟩ := List.getElem_of_mem hx
    have := hset i hi
    have e : (2 : Int) ^ N = ((2 ^ N : Nat) : Int) := by simp
    rw [e] at this
    generalize 2 ^ N = y at this ⊢
    omega
  · rw [List.pairwise_iff_getElem]
    intro i j hi hj hij
    simp only [List.length_map] at hi hj
    have := hlt j hj i hij
    have := (hset i hi).1
    simp only [List.getElem_map]; omega
def YY (s : Int) : Nat := if isAny s then cnt s.toNat else 0
theorem zcu : ∀ s : Nat, s < 256 → jg.f (s : Int) = some (cnt s : Int) := by decide +kernel
theorem zaj (s : Int) : jM.f s = some (YY s : Int) := by
  unfold jM.f YY
  rw [ZR]
  simp only [Option.bind_some]
  cases h : isAny s
  · simp
  · have hs : 0 ≤ s ∧ s < 256 := by simpa [isAny] using h
    obtain ⟨a, rfl⟩ := Int.eq_ofNat_of_zero_le hs.1
    rw [Z7 (by omega) (by omega)]
    simp only [if_true, qW.f, Option.bind_some, Int.toNat_natCast]
    rw [zcu a (by omega)]; rfl
end Go.Proofs.Ytjlbfbpjcmjdfaa.L
end
section
namespace Go.Proofs.Ytjlbfbpjcmjdfaa.L
open Go.RowKit Go.Proofs.Ytjlbfbpjcmjdfaa.F Go.Proofs.YtjlbfbpjcmjdfaaW.PrintWords Go.Proofs.YtjlbfbpjcmjdfaaW.PrintLast Go.Proofs.YtjlbfbpjcmjdfaaW.PrintMore
open Go.Proofs.Ytjlbfbpjcmjdfaa.Bits
open Go.Proofs.Ytjlbfbpjcmjdfaa.Mt (sdiff qt elems jN cnt full ins del Mat jR)
set_option linter.unusedSimpArgs false
set_option linter.unusedVariables false
theorem zb3 {a e : Nat} (h : a < 256) : del a e < 256 := Nat.lt_of_le_of_lt (Mt.zac (Mt.yt a e)) h
theorem zaX {B : List Nat} {x : Nat} : ((x : Int) ∈ ints B) ↔ x ∈ B := by
  simp only [ints, List.mem_map]
  constructor
  · rintro ⟨y, hy, e⟩
    have : y = x := by omega
    rw [← this]; exact hy
  · intro h; exact ⟨x, h, rfl⟩
/-- Some element of b can be put for e in a. -/
def VM (B : List Nat) (a b e : Nat) : Bool := (elems (sdiff b a)).any fun f => decide (ins (del a e) f ∈ B)
def zbB (B : List Nat) : Bool := B.all fun a => B.all fun b => (elems (sdiff a b)).all fun e => VM B a b e
def vZ (n : Int) (l : List Int) : Bool := ya n l && decide (0 < l.length) && zbB (l.map Int.toNat)
theorem Q8 (B : List Nat) : (ints B).map Int.toNat = B := by
  simp only [ints, List.map_map]
  induction B with
  | nil => rfl
  | cons x t ih => simp only [List.map_cons, ih]; rfl
section
variable {N : Nat} {B : List Nat}
/-- The same, as1 the program looks for it: over the elements of the difference. -/
def ffI (B : List Nat) : Int × Int × Int × Bool :=
  (List.range B.length).foldr (fun i r => (List.range B.length).foldr (fun j r => (List.range (elems (sdiff (B.getD i 0) (B.getD j 0))).length).foldr (fun m r =>
    if !VM B (B.getD i 0) (B.getD j 0) ((elems (sdiff (B.getD i 0) (B.getD j 0))).getD m 0) then (((B.getD i 0 : Nat) : Int), ((B.getD j 0 : Nat) : Int), (((elems (sdiff (B.getD i 0) (B.getD j 0))).getD m 0 : Nat) : Int), true) else r) r) r) (0, 0, 0, false)
theorem vI (i : Nat) (hi : i < B.length) : B.getD i 0 = B[i] := by simp [List.getElem?_eq_getElem hi]
theorem YB (i : Nat) (hi : i < B.length) : rd (ints B) (i : Int) = ((B.getD i 0 : Nat) : Int) := by rw [J1 B i hi, vI i hi]
theorem YL (hB : ∀ b ∈ B, b < 2 ^ N) (i : Nat) (hi : i < B.length) : B.getD i 0 < 2 ^ N := by rw [vI i hi]; exact hB _ (List.getElem_mem hi)
theorem YC (Q : Nat → Int → Option Bool) (p : Nat → Bool) : ∀ l : List Nat, (∀ x ∈ l, Ev (fun k => Q k (x : Int)) (p x)) → Ev (fun k => Qk (Q k) (ints l)) (l.any p)
  | [], _ => by simp only [ints, List.map_nil, Qk, List.any_nil]; exact Ev.now _
  | x :: t, h => by
    simp only [ints, List.map_cons, Qk, List.any_cons]
    refine Ev.bind (h x (List.mem_cons_self ..)) ?_
    cases hp : p x
    · simp only [Bool.false_eq_true, if_false, Bool.false_or]; exact YC Q p t fun y hy => h y (List.mem_cons_of_mem _ hy)
    · simp only [if_true, Bool.true_or]; exact Ev.now _
theorem Q6 {s : Nat} (h : s < 256) : yx (s : Int) = elems s := by unfold yx; rw [if_pos (by simp [isAny]; omega)]; rfl
theorem VS {a b : Nat} (h : a < 256) : sdiff a b < 256 := VR (n := 8) h
theorem Y0 (hN : N ≤ 8) (hB : ∀ b ∈ B, b < 2 ^ N) (hl : B.length ≤ 17592186044416) : Ev (fun k => zj.l0 k (ints B) 0) (ffI B) := by
  refine yE (fun k i => zj.l0 k (ints B) i) B.length _ (0, 0, 0, false) ?_ fun i hi r hr => ?_
  · simp only [zj.l0, qi, show ¬ ((B.length : Int) < (B.length : Int)) by omega, if_false]; exact Ev.now _
  simp only [zj.l0, qi, show ((i : Int) < (B.length : Int)) by omega, show (0 : Int) ≤ (i : Int) by omega, if_true]
  have ha := YL hB i hi
  have ea := YB i hi
  refine yE (fun k j => zj.l1 k (ints B) i j) B.length _ r ?_ fun j hj r hr => ?_
  · simp only [zj.l1, qi, show ¬ ((B.length : Int) < (B.length : Int)) by omega, if_false, zS (show i < 9223372036854775807 by omega)]; exact hr
  have hb := YL hB j hj
  have eb := YB j hj
  generalize B.getD i 0 = a at ha ea ⊢
  generalize B.getD j 0 = b at hb eb ⊢
  have ha8 := jR hN ha
  have hb8 := jR hN hb
  simp only [zj.l1, qi, show ((j : Int) < (B.length : Int)) by omega, show (0 : Int) ≤ (j : Int) by omega, if_true, ea, eb, ym a b (by omega) (by omega)]
  refine Ev.bind (yR _) ?_
  rw [Q6 (VS ha8)]
  have hes : ∀ e ∈ elems (sdiff a b), e < 8 ∧ a.testBit e = true := fun e he => by
    have := jN.1 he
    rw [qt] at this; simp at this; exact ⟨this.1, this.2.1⟩
  have hlen := vT (sdiff a b)
  generalize elems (sdiff a b) = es at hes hlen ⊢
  refine yE (fun k m => zj.l2 k (ints B) i j (ints es) m) es.length _ r ?_ fun m hm r hr => ?_
  · simp only [zj.l2, qi, show ¬ ((es.length : Int) < (es.length : Int)) by omega, if_false, zS (show j < 9223372036854775807 by omega)]; exact hr
  have he := hes es[m] (List.getElem_mem hm)
  have ee := J1 es m hm
  rw [show es.getD m 0 = es[m] by simp [List.getElem?_eq_getElem hm]]
  generalize es[m] = e at he ee ⊢
  simp only [zj.l2, qi, show ((m : Int) < (es.length : Int)) by omega, show (0 : Int) ≤ (m : Int) by omega, if_true, ea, eb, ee, ym b a (by omega) (by omega), zS (show m < 9223372036854775807 by omega)]
  refine Ev.bind (yR _) ?_
  rw [Q6 (VS hb8)]
  have hlf := vT (sdiff b a)
  simp only [qi, show (elems (sdiff b a)).length ≤ 17592186044416 by omega, if_true]
  refine Ev.bind (YC (fun k => zj.q k (ints B) a e) (fun f => decide (ins (del a e) f ∈ B)) (elems (sdiff b a)) fun f hf => ?_) ?_
  · have hf8 := (jN.1 hf).1
    have p1 : 2 ^ e ≤ 2 ^ 8 := Nat.pow_le_pow_right (by decide) (by omega)
    have p2 : 2 ^ f ≤ 2 ^ 8 := Nat.pow_le_pow_right (by decide) (by omega)
    have hd := zb3 (e := e) ha8
    simp only [zj.q, show (0 : Int) ≤ (e : Int) by omega, show (0 : Int) ≤ (f : Int) by omega, if_true, Ze e (by omega), Ze f (by omega)]
    rw [ym a (2 ^ e) (by omega) (by omega), zbu (sdiff a (2 ^ e)) (2 ^ f) (by have : sdiff a (2 ^ e) < 256 := hd; omega) (by omega)]
    have hh := zbb (ints B) ((sdiff a (2 ^ e) ||| 2 ^ f : Nat) : Int) (by rw [qi]; exact hl)
    rw [show decide (((sdiff a (2 ^ e) ||| 2 ^ f : Nat) : Int) ∈ ints B) = decide (ins (del a e) f ∈ B) by rw [decide_eq_decide]; exact zaX] at hh
    exact hh
  show Ev _ (if (!VM B a b e) = true then _ else r)
  rw [show ((elems (sdiff b a)).any fun f => decide (ins (del a e) f ∈ B)) = VM B a b e from rfl]
  cases h3 : VM B a b e
  · simp only [Bool.false_eq_true, if_false, Bool.not_false, if_true]; exact Ev.now _
  · simp only [if_true, Bool.not_true, Bool.false_eq_true, if_false]; exact hr
theorem QJ {α ρ : Type} (c : ρ → Bool) (F : α → ρ → ρ) (P : α → Bool) (h : ∀ x r, c (F x r) = (P x || c r)) (r : ρ) : ∀ l : List α, c (l.foldr F r) = (l.any P || c r)
  | [] => by simp
  | x :: t => by rw [List.foldr_cons, h, QJ c F P h r t, List.any_cons, Bool.or_assoc]
theorem za9 {α ρ : Type} (c : ρ → Bool) (p : α → Bool) (g : α → ρ) (hg : ∀ x, c (g x) = true) (r : ρ) (l : List α) : c (l.foldr (fun x r => if p x = true then g x else r) r) = (l.any p || c r) :=
  QJ c _ p (fun x r => by cases h : p x <;> simp [h, hg]) r l
theorem zbs : (ffI B).2.2.2 = !zbB B := by
  unfold ffI
  rw [QJ (fun r : Int × Int × Int × Bool => r.2.2.2) _ (fun i => (List.range B.length).any fun j => (List.range (elems (sdiff (B.getD i 0) (B.getD j 0))).length).any fun m => !VM B (B.getD i 0) (B.getD j 0) ((elems (sdiff (B.getD i 0) (B.getD j 0))).getD m 0)) (fun i r => by
    rw [QJ (fun r : Int × Int × Int × Bool => r.2.2.2) _ (fun j => (List.range (elems (sdiff (B.getD i 0) (B.getD j 0))).length).any fun m => !VM B (B.getD i 0) (B.getD j 0) ((elems (sdiff (B.getD i 0) (B.getD j 0))).getD m 0)) (fun j r => by
      exact za9 (fun r : Int × Int × Int × Bool => r.2.2.2) _ _ (fun _ => rfl) r _)])]
  rw [Bool.or_false, Bool.eq_iff_iff]
  simp only [List.any_eq_true, List.mem_range, Bool.not_eq_true']
  constructor
  · rintro ⟨i, hi, j, hj, m, hm, h3⟩
    rw [vI i hi, vI j hj] at h3 hm
    rw [Bool.eq_false_iff]
    intro hmm
    rw [show (elems (sdiff B[i] B[j])).getD m 0 = (elems (sdiff B[i] B[j]))[m] by simp [List.getElem?_eq_getElem hm]] at h3
    have := List.all_eq_true.1 (List.all_eq_true.1 (List.all_eq_true.1 hmm B[i] (List.getElem_mem hi)) B[j] (List.getElem_mem hj)) _ (List.getElem_mem hm)
    rw [h3] at this; cases this
  · intro hm
    obtain ⟨a, ha, h⟩ := List.all_eq_false.1 hm
    obtain ⟨b, hb, h⟩ := List.all_eq_false.1 (Bool.eq_false_iff.2 h)
    obtain ⟨e, he, h⟩ := List.all_eq_false.1 (Bool.eq_false_iff.2 h)
    obtain ⟨i, hi, rfl⟩ := List.getElem_of_mem ha
    obtain ⟨j, hj, rfl⟩ := List.getElem_of_mem hb
    obtain ⟨m, hm, rfl⟩ := List.getElem_of_mem he
    refine ⟨i, hi, j, hj, m, ?_, ?_⟩
    · rw [vI i hi, vI j hj]; exact hm
    · rw [vI i hi, vI j hj, show (elems (sdiff B[i] B[j])).getD m 0 = (elems (sdiff B[i] B[j]))[m] by simp [List.getElem?_eq_getElem hm]]
      exact Bool.eq_false_iff.2 h
end
theorem VP (n : Int) (l : List Int) (hl : l.length ≤ 17592186044416) : Ev (fun k => qM.f k n l) (vZ n l) := by
  unfold qM.f zj.f vZ
  have hf := V9 n l hl
  cases h : ya n l
  · rw [h] at hf
    refine Ev.bind (Ev.bind hf (by simp only [Bool.false_eq_true, if_false]; exact Ev.now _)) (Ev.bind hf ?_)
    simp only [Bool.false_eq_true, if_false, Bool.false_and]; exact Ev.now _
  · rw [h] at hf
    obtain ⟨N, B, rfl, hN, rfl, hB, hp⟩ := zai h
    rw [qi] at hl
    refine Ev.bind (Ev.bind hf (by simp only [if_true]; exact Y0 hN hB hl)) (Ev.bind hf ?_)
    simp only [if_true, zbs, Bool.not_not, Q8, Bool.true_and, qi]
    by_cases h0 : 0 < B.length
    · simp only [show ((B.length : Int) > 0) by omega, if_true, h0, decide_true, Bool.true_and]; exact Ev.now _
    · simp only [show ¬ ((B.length : Int) > 0) by omega, if_false, h0, decide_false, Bool.false_and]; exact Ev.now _
end Go.Proofs.Ytjlbfbpjcmjdfaa.L
end
section
namespace Go.Proofs.Ytjlbfbpjcmjdfaa.L
open Go.RowKit Go.Proofs.Ytjlbfbpjcmjdfaa.F Go.Proofs.YtjlbfbpjcmjdfaaW.PrintWords Go.Proofs.YtjlbfbpjcmjdfaaW.PrintLast Go.Proofs.YtjlbfbpjcmjdfaaW.PrintMore
open Go.Proofs.Ytjlbfbpjcmjdfaa.Bits
open Go.Proofs.Ytjlbfbpjcmjdfaa.Mt (sdiff qt elems jN cnt zaN full ins del Mat jR rk)
set_option linter.unusedSimpArgs false
set_option linter.unusedVariables false
/-- The count, halving: a small number's bits. -/
theorem zak : ∀ s : Nat, s < 256 → cnt s = s % 2 + cnt (s / 2) := by decide +kernel
theorem QU : ∀ (d s : Nat) (x : Int), s < 2 ^ d → d ≤ 8 → 0 ≤ x → x + d ≤ 100 → Ev (fun k => z6.l0 k (s : Int) x) (x + cnt s)
  | 0, s, x, hs, _, h0, h1 => by
    have : s = 0 := by simp at hs; exact hs
    subst this
    refine Ev.succ ?_
    simp only [z6.l0, show ¬ (((0 : Nat) : Int) > 0) by omega, if_false]
    exact Ev.some (by rw [Mt.Q5]; omega)
  | d + 1, s, x, hs, hd, h0, h1 => by
    refine Ev.succ ?_
    by_cases hz : s = 0
    · subst hz
      simp only [z6.l0, show ¬ (((0 : Nat) : Int) > 0) by omega, if_false]
      exact Ev.some (by rw [Mt.Q5]; omega)
    · have h256 : s < 256 := Nat.lt_of_lt_of_le hs (Nat.pow_le_pow_right (n := 2) (by decide) hd)
      have hb := zak s h256
      have e1 : Go.bits .and .i64 (s : Int) 1 = ((s % 2 : Nat) : Int) := by
        have := VA s 1 (by omega) (by omega)
        rw [show ((1 : Nat) : Int) = 1 from rfl] at this
        rw [this, Nat.and_one_is_mod]
      have e2 : (s : Int) / 2 = ((s / 2 : Nat) : Int) := by omega
      have hlt : s / 2 < 2 ^ d := by rw [Nat.pow_succ] at hs; omega
      simp only [z6.l0, show ((s : Int) > 0) by omega, if_true, e1, e2]
      rw [qQ (by omega) (by omega)]
      have ih := QU d (s / 2) (x + ((s % 2 : Nat) : Int)) hlt (by omega) (by omega) (by omega)
      rw [show x + (cnt s : Int) = x + ((s % 2 : Nat) : Int) + (cnt (s / 2) : Int) by rw [hb]; omega]
      exact ih
theorem YZ (s : Int) : Ev (fun k => z6.f k s) (YY s : Int) := by
  unfold z6.f YY isAny
  simp only [zbC, Option.bind_some, decide_eq_true_eq]
  by_cases h : 0 ≤ s ∧ s < 256
  · obtain ⟨a, rfl⟩ := Int.eq_ofNat_of_zero_le h.1
    simp only [show (0 : Int) ≤ 8 ∧ (8 : Int) ≤ 8 ∧ (0 : Int) ≤ (a : Int) ∧ (a : Int) < 2 ^ (8 : Int).toNat from ⟨by omega, by omega, by omega, by simpa using h.2⟩, and_self, if_true, h, decide_true, Int.toNat_natCast]
    have := QU 8 a 0 (by omega) (by omega) (by omega) (by omega)
    simpa using this
  · have h' : ¬ (0 ≤ (8 : Int) ∧ (8 : Int) ≤ 8 ∧ 0 ≤ s ∧ s < 2 ^ (8 : Int).toNat) := fun hh => h ⟨hh.2.2.1, by simpa using hh.2.2.2⟩
    first
      | (simp only [if_neg h', if_neg h, decide_eq_false h, Bool.false_eq_true, if_false]; exact Ev.now _)
      | (simp only [h, decide_false, Bool.false_eq_true, if_false]; exact Ev.now _)
theorem VZ {s : Nat} (h : s < 256) : YY (s : Int) = cnt s := by unfold YY; rw [if_pos (by simp [isAny]; omega)]; rfl
section
variable {N : Nat} {B : List Nat}
end
theorem Jx {N : Nat} (hN : N ≤ 8) : jm.f (N : Int) = some ((full N : Nat) : Int) := by
  unfold jm.f full
  have hp : (2 : Nat) ^ N ≤ 2 ^ 8 := Nat.pow_le_pow_right (by decide) hN
  have h0 : 0 < (2 : Nat) ^ N := Nat.two_pow_pos N
  simp only [Qc, Option.bind_some, decide_eq_true_eq, show (0 : Int) ≤ (N : Int) ∧ (N : Int) ≤ 8 from ⟨by omega, by omega⟩, and_self, if_true, show (0 : Int) ≤ (N : Int) by omega, Ze N (by omega)]
  generalize 2 ^ N = x at hp h0
  rw [qQ (by omega) (by omega)]; simp; omega
theorem Qp {N : Nat} (hN : N ≤ 8) : qG.f (N : Int) = some ((full N : Nat) : Int) := by
  unfold qG.f full
  have hp : (2 : Nat) ^ N ≤ 2 ^ 8 := Nat.pow_le_pow_right (by decide) hN
  have h0 : 0 < (2 : Nat) ^ N := Nat.two_pow_pos N
  simp only [zbI, Option.bind_some, decide_eq_true_eq, show (0 : Int) ≤ (N : Int) ∧ (N : Int) ≤ 8 from ⟨by omega, by omega⟩, and_self, if_true]
  rw [Z7 (by omega) (by omega), Ze N (by omega), if_pos (by omega)]
  generalize 2 ^ N = x at hp h0
  rw [qQ (by omega) (by omega)]; simp; omega
theorem Z1 {N s : Nat} : ((s : Int) ≤ ((full N : Nat) : Int)) ↔ s < 2 ^ N := by
  have h0 : 0 < (2 : Nat) ^ N := Nat.two_pow_pos N
  unfold full
  generalize 2 ^ N = x at h0
  omega
end Go.Proofs.Ytjlbfbpjcmjdfaa.L
end
section
namespace Go.Proofs.Ytjlbfbpjcmjdfaa.L
open Go.RowKit Go.Proofs.Ytjlbfbpjcmjdfaa.F Go.Proofs.YtjlbfbpjcmjdfaaW.PrintWords Go.Proofs.YtjlbfbpjcmjdfaaW.PrintLast Go.Proofs.YtjlbfbpjcmjdfaaW.PrintMore
open Go.Proofs.Ytjlbfbpjcmjdfaa.Bits
open Go.Proofs.Ytjlbfbpjcmjdfaa.Mt (full)
set_option linter.unusedSimpArgs false
set_option linter.unusedVariables false
/-- setsOf over a predicate that says p of all sets of N elements. -/
theorem Qh (q : Int → Option Bool) (p : Nat → Bool) {N : Nat} (hN : N ≤ 8) (hq : ∀ s : Nat, s < 2 ^ N → q (s : Int) = some (p s)) :
    ∀ (d j fuel : Nat) (out : List Int), j + d = 2 ^ N → d < fuel → out.length ≤ j → yk q fuel (N : Int) out (j : Int) = some (out ++ ints ((List.range' j d).filter p))
  | 0, j, fuel + 1, out, hd, _, ho => by
    have hn : ¬ ((j : Int) ≤ ((full N : Nat) : Int)) := fun h => by have := Z1.1 h; omega
    simp only [yk, Jx hN, Option.bind_some, if_neg hn]
    simp [ints]
  | d + 1, j, fuel + 1, out, hd, hf, ho => by
    have hp : (2 : Nat) ^ N ≤ 2 ^ 8 := Nat.pow_le_pow_right (by decide) hN
    have hj : j < 2 ^ N := by omega
    simp only [yk, Jx hN, Option.bind_some, Z1.2 hj, if_true, hq j hj, zS (show j < 9223372036854775807 by omega)]
    rw [List.range'_succ, List.filter_cons]
    cases h : p j
    · simp only [Bool.false_eq_true, if_false]
      exact Qh q p hN hq d (j + 1) fuel out (by omega) (by omega) (by omega)
    · simp only [if_true, show out.length < 17592186044416 by omega]
      rw [Qh q p hN hq d (j + 1) fuel (out ++ [(j : Int)]) (by omega) (by omega) (by simp; omega)]
      simp [ints]
theorem zaY (Q : Nat → Int → Option Bool) (p : Nat → Bool) : ∀ m : Nat, (∀ s : Nat, s < m → Ev (fun k => Q k (s : Int)) (p s)) → ∃ K, ∀ k, K ≤ k → ∀ s : Nat, s < m → Q k (s : Int) = some (p s)
  | 0, _ => ⟨0, fun _ _ s hs => absurd hs (Nat.not_lt_zero s)⟩
  | m + 1, h => by
    obtain ⟨K, hK⟩ := zaY Q p m fun s hs => h s (by omega)
    obtain ⟨K', hK'⟩ := h m (by omega)
    refine ⟨max K K', fun k hk s hs => ?_⟩
    by_cases e : s = m
    · subst e; exact hK' k (by omega)
    · exact hK k (by omega) s (by omega)
theorem zaO (Q : Nat → Int → Option Bool) (p : Nat → Bool) {N : Nat} (hN : N ≤ 8) (h : ∀ s : Nat, s < 2 ^ N → Ev (fun k => Q k (s : Int)) (p s)) : Ev (fun k => yk (Q k) k (N : Int) [] 0) (ints ((List.range (2 ^ N)).filter p)) := by
  obtain ⟨K, hK⟩ := zaY Q p (2 ^ N) h
  refine ⟨max K (2 ^ N + 1), fun k hk => ?_⟩
  have := Qh (Q k) p hN (hK k (by omega)) (2 ^ N) 0 k [] (by omega) (by omega) (by simp)
  rw [List.range_eq_range']
  simpa using this
end Go.Proofs.Ytjlbfbpjcmjdfaa.L
end
section
namespace Go.Proofs.Ytjlbfbpjcmjdfaa.L
open Go.RowKit Go.Proofs.Ytjlbfbpjcmjdfaa.F Go.Proofs.YtjlbfbpjcmjdfaaW.PrintWords Go.Proofs.YtjlbfbpjcmjdfaaW.PrintLast Go.Proofs.YtjlbfbpjcmjdfaaW.PrintMore
open Go.Proofs.Ytjlbfbpjcmjdfaa.Bits
open Go.Proofs.Ytjlbfbpjcmjdfaa.Mt (sdiff cnt full Mat jR rk ind jD qF)
set_option linter.unusedSimpArgs false
set_option linter.unusedVariables false
def JG (B : List Nat) (s : Nat) : Bool := decide (rk B s = cnt s)
theorem Y9 {N : Nat} {B : List Nat} (M : Mat N B) {s : Nat} (hs : s < 256) : JG B s = true ↔ ind B s := by
  unfold JG; rw [decide_eq_true_eq, ← jD M.ne hs]
/-- The independent sets below a number, in order. -/
def J5 (B : List Nat) (m : Nat) : List Nat := (List.range m).filter (JG B)
theorem zbf (B : List Nat) (m : Nat) : (J5 B m).length ≤ m := by
  have := List.length_filter_le (JG B) (List.range m)
  rwa [List.length_range] at this
theorem YH {B : List Nat} {m s : Nat} (h : s ∈ J5 B m) : s < m := List.mem_range.1 (List.mem_filter.1 h).1
section
variable {N : Nat} {B : List Nat}
end
end Go.Proofs.Ytjlbfbpjcmjdfaa.L
end
section
namespace Go.Proofs.Ytjlbfbpjcmjdfaa.L
open Go.RowKit Go.Proofs.Ytjlbfbpjcmjdfaa.F Go.Proofs.YtjlbfbpjcmjdfaaW.PrintWords Go.Proofs.YtjlbfbpjcmjdfaaW.PrintLast Go.Proofs.YtjlbfbpjcmjdfaaW.PrintMore
open Go.Proofs.Ytjlbfbpjcmjdfaa.Bits
open Go.Proofs.Ytjlbfbpjcmjdfaa.Mt (y1 ZG vQ Zd Qf)
set_option linter.unusedSimpArgs false
set_option linter.unusedVariables false
/-- The sets of a list, in order, each once. -/
def jE (L : List Nat) : List Nat := (List.range 256).filter fun s => decide (s ∈ L)
theorem VU {L : List Nat} (h : L.Pairwise (· < ·)) : (ints L).Pairwise (· < ·) := by
  unfold ints
  rw [List.pairwise_map]
  exact h.imp fun h => by omega
theorem Yq {L : List Nat} {x : Int} : x ∈ ints L ↔ ∃ n, n ∈ L ∧ (n : Int) = x := by simp [ints]
theorem vR (p : Nat → Bool) (n : Nat) : ((List.range n).filter p).Pairwise (· < ·) := List.Pairwise.filter _ List.pairwise_lt_range
theorem Za {L : List Nat} (hL : ∀ x ∈ L, x < 256) {s : Nat} : s ∈ jE L ↔ s ∈ L := by
  unfold jE
  rw [List.mem_filter, List.mem_range, decide_eq_true_eq]
  exact ⟨fun h => h.2, fun h => ⟨hL s h, h⟩⟩
theorem ZK (L : List Nat) : (jE L).Pairwise (· < ·) := vR _ _
theorem zaq (L : List Nat) : (jE L).length ≤ 256 := by
  have := List.length_filter_le (fun s => decide (s ∈ L)) (List.range 256)
  rwa [List.length_range] at this
theorem V2 {L : List Nat} (hL : ∀ x ∈ L, x < 256) : y1 (ints L) = ints (jE L) := ZG (VU (ZK L)) fun x => by
  rw [Yq, Yq]
  exact ⟨fun ⟨n, h, e⟩ => ⟨n, (Za hL).1 h, e⟩, fun ⟨n, h, e⟩ => ⟨n, (Za hL).2 h, e⟩⟩
theorem yn : ∀ {l l' : List Nat}, l.Pairwise (· < ·) → l'.Pairwise (· < ·) → (∀ x, x ∈ l ↔ x ∈ l') → l = l'
  | [], [], _, _, _ => rfl
  | [], b :: _, _, _, hm => absurd ((hm b).2 (List.mem_cons_self ..)) (by simp)
  | a :: _, [], _, _, hm => absurd ((hm a).1 (List.mem_cons_self ..)) (by simp)
  | a :: l, b :: l', h, h', hm => by
    rw [List.pairwise_cons] at h h'
    have hab : a = b := by
      rcases List.mem_cons.1 ((hm a).1 (List.mem_cons_self ..)) with e | e
      · exact e
      · rcases List.mem_cons.1 ((hm b).2 (List.mem_cons_self ..)) with e' | e'
        · exact e'.symm
        · have := h'.1 a e; have := h.1 b e'; omega
    subst hab
    rw [yn h.2 h'.2 fun x => ⟨fun hx => by
      rcases List.mem_cons.1 ((hm x).1 (List.mem_cons_of_mem _ hx)) with e | e
      · subst e; have := h.1 x hx; omega
      · exact e, fun hx => by
      rcases List.mem_cons.1 ((hm x).2 (List.mem_cons_of_mem _ hx)) with e | e
      · subst e; have := h'.1 x hx; omega
      · exact e⟩]
end Go.Proofs.Ytjlbfbpjcmjdfaa.L
end
section
namespace Go.Proofs.Ytjlbfbpjcmjdfaa.L
open Go.RowKit Go.Proofs.Ytjlbfbpjcmjdfaa.F Go.Proofs.YtjlbfbpjcmjdfaaW.PrintWords Go.Proofs.YtjlbfbpjcmjdfaaW.PrintLast Go.Proofs.YtjlbfbpjcmjdfaaW.PrintMore
open Go.Proofs.Ytjlbfbpjcmjdfaa.Bits
open Go.Proofs.Ytjlbfbpjcmjdfaa.Mt (y1 ZG vQ Zd Qf sdiff sub qF jS)
set_option linter.unusedSimpArgs false
set_option linter.unusedVariables false
theorem JE {L : List Nat} (i : Nat) (hi : i < L.length) : (ints L).getD i 0 = ((L.getD i 0 : Nat) : Int) := by simp [ints, List.getElem?_eq_getElem hi]
theorem VD {p : Nat → Bool} (L : List Nat) (i : Nat) (hi : i < L.length) : (L.take (i + 1)).filter p = if p (L.getD i 0) = true then (L.take i).filter p ++ [L.getD i 0] else (L.take i).filter p := by
  rw [List.take_succ_eq_append_getElem hi, List.filter_append, show L.getD i 0 = L[i] by simp [List.getElem?_eq_getElem hi]]
  cases h : p L[i] <;> simp [h]
theorem zad {L : List Nat} (hL : ∀ x ∈ L, x < 256) (hl : L.length ≤ 17592186044416) : Ev (fun k => qd.f k (ints L)) true := by
  unfold qd.f
  rw [qi]
  have h := y9 (fun k i => qd.l0 k (ints L) (L.length : Int) i) L.length (fun _ => true)
    (fun k => by simp only [qd.l0, show ¬ ((L.length : Int) < (L.length : Int)) by omega, if_false])
    (fun i hi k => by
      have hlt : L.getD i 0 < 256 := by rw [show L.getD i 0 = L[i] by simp [List.getElem?_eq_getElem hi]]; exact hL _ (List.getElem_mem hi)
      simp only [qd.l0, qi, show ((i : Int) < (L.length : Int)) by omega, show (0 : Int) ≤ (i : Int) by omega, if_true, qY, JE i hi, ZR, Option.bind_some, zS (show i < 9223372036854775807 by omega)]
      rw [Qo hlt, if_pos rfl])
  have e : (List.range L.length).all (fun _ => true) = true := by simp
  rw [e] at h
  exact h
theorem YK (q : Int → Option Bool) (p : Nat → Bool) : ∀ L : List Nat, (∀ t ∈ L, q (t : Int) = some (p t)) → Qk q (ints L) = some (L.any p)
  | [], _ => rfl
  | t :: L, h => by
    have h1 := h t (List.mem_cons_self ..)
    have h2 := YK q p L fun s hs => h s (List.mem_cons_of_mem _ hs)
    simp only [ints, List.map_cons, Qk, List.any_cons] at h2 ⊢
    rw [h1, Option.bind_some]
    cases p t
    · simpa using h2
    · simp
theorem V8 {L : List Nat} (hL : ∀ x ∈ L, x < 256) (hl : L.length ≤ 17592186044416) (k : Nat) : je.f k (ints L) = some (ints (jE L)) := by
  unfold je.f
  rw [qi, if_pos hl, V2 hL]
end Go.Proofs.Ytjlbfbpjcmjdfaa.L
end
section
namespace Go.Proofs.Ytjlbfbpjcmjdfaa.L
open Go.RowKit Go.Proofs.Ytjlbfbpjcmjdfaa.F Go.Proofs.YtjlbfbpjcmjdfaaW.PrintWords Go.Proofs.YtjlbfbpjcmjdfaaW.PrintLast Go.Proofs.YtjlbfbpjcmjdfaaW.PrintMore
open Go.Proofs.Ytjlbfbpjcmjdfaa.Bits
open Go.Proofs.Ytjlbfbpjcmjdfaa.Mt (y1 ZG vQ Zd Qf sdiff sub qF jS)
set_option linter.unusedSimpArgs false
set_option linter.unusedVariables false
/-- Does no other set of the list hold s? -/
def qX (L : List Nat) (s : Nat) : Bool := L.all fun t => decide (t = s) || !decide (t &&& s = s)
/-- The qX sets of a list, in order. -/
def Vd (L : List Nat) : List Nat := (List.range 256).filter fun s => decide (s ∈ L) && qX L s
theorem Qu (L : List Nat) : (Vd L).Pairwise (· < ·) := vR _ _
theorem zba (L : List Nat) : (Vd L).length ≤ 256 := by
  have := List.length_filter_le (fun s => decide (s ∈ L) && qX L s) (List.range 256)
  rwa [List.length_range] at this
theorem VK {L : List Nat} (hL : ∀ x ∈ L, x < 256) {s : Nat} : s ∈ Vd L ↔ s ∈ L ∧ ∀ t ∈ L, sub s t → t = s := by
  unfold Vd qX
  rw [List.mem_filter, List.mem_range, Bool.and_eq_true, decide_eq_true_eq, List.all_eq_true]
  constructor
  · rintro ⟨_, h1, h2⟩
    refine ⟨h1, fun t ht hs => ?_⟩
    have := h2 t ht
    rw [qF, Nat.and_comm] at hs
    simpa [hs] using this
  · rintro ⟨h1, h2⟩
    refine ⟨hL s h1, h1, fun t ht => ?_⟩
    by_cases hs : t &&& s = s
    · simp [h2 t ht (qF.2 (by rw [Nat.and_comm]; exact hs))]
    · simp [hs]
theorem Ju {L : List Nat} (hL : ∀ x ∈ L, x < 256) (hl : L.length ≤ 17592186044416) : Ev (fun k => zr.f k (ints L)) (ints (Vd L)) := by
  unfold zr.f
  rw [qi]
  simp only [hl, if_true]
  refine Ev.bind (zad hL hl) ?_
  simp only [if_true, V8 hL hl, Option.bind_some]
  have hS := zaq L
  have hlen : ∀ i, (ints (((jE L).take i).filter (qX L))).length ≤ i := fun i => by
    have := List.length_filter_le (qX L) ((jE L).take i)
    rw [List.length_take] at this
    rw [qi]; omega
  have key := jn (fun k out i => zr.l0 k (ints L) out (ints (jE L)) i) (jE L).length (fun out i => if qX L ((jE L).getD i 0) = true then out ++ [(((jE L).getD i 0 : Nat) : Int)] else out) (fun i out => out = ints (((jE L).take i).filter (qX L)))
    (fun i out hi ho => ⟨by
      rw [VD (jE L) i hi, ho]
      split <;> simp [ints], fun r hr => by
      have hout : out.length < 17592186044416 := by have := hlen i; rw [← ho] at this; omega
      have hs8 : (jE L).getD i 0 < 256 := by
        rw [show (jE L).getD i 0 = (jE L)[i] by simp [List.getElem?_eq_getElem hi]]
        exact hL _ ((Za hL).1 (List.getElem_mem hi))
      have hq : Qk (zr.q (((jE L).getD i 0 : Nat) : Int)) (ints L) = some (!qX L ((jE L).getD i 0)) := by
        generalize (jE L).getD i 0 = s at hs8
        have := YK (zr.q (s : Int)) (fun t => !(decide (t = s) || !decide (t &&& s = s))) L fun t ht => by
          unfold zr.q
          by_cases e : t = s
          · subst e; simp
          · rw [if_neg (by omega), V5 hs8 (hL t ht), Nat.and_comm]; simp [e]
        rw [this]
        unfold qX
        rw [List.not_all_eq_any_not]
      simp only [zr.l0, qi, show ((i : Int) < ((jE L).length : Int)) by omega, show (0 : Int) ≤ (i : Int) by omega, if_true, qY, JE i hi, zS (show i < 9223372036854775807 by omega), hq, Option.bind_some]
      cases h : qX L ((jE L).getD i 0)
      · rw [h] at hr; simpa using hr
      · rw [h] at hr; simp only [if_true] at hr; simpa [hout] using hr⟩) [] (by simp [ints])
  refine key.2 _ (Ev.succ ?_)
  rw [key.1, List.take_length]
  simp only [zr.l0, qi, show ¬ (((jE L).length : Int) < ((jE L).length : Int)) by omega, if_false]
  refine Ev.some (congrArg ints ?_)
  refine yn (List.Pairwise.filter _ (ZK L)) (Qu L) fun s => ?_
  rw [VK hL, List.mem_filter, Za hL]
  unfold qX
  rw [List.all_eq_true]
  constructor
  · rintro ⟨h1, h2⟩
    refine ⟨h1, fun t ht hts => ?_⟩
    have := h2 t ht
    rw [qF, Nat.and_comm] at hts
    simpa [hts] using this
  · rintro ⟨h1, h2⟩
    refine ⟨h1, fun t ht => ?_⟩
    by_cases hts : t &&& s = s
    · simp [h2 t ht (qF.2 (by rw [Nat.and_comm]; exact hts))]
    · simp [hts]
end Go.Proofs.Ytjlbfbpjcmjdfaa.L
end
section
namespace Go.Proofs.Ytjlbfbpjcmjdfaa.L
open Go.RowKit Go.Proofs.Ytjlbfbpjcmjdfaa.F Go.Proofs.YtjlbfbpjcmjdfaaW.PrintWords Go.Proofs.YtjlbfbpjcmjdfaaW.PrintLast Go.Proofs.YtjlbfbpjcmjdfaaW.PrintMore
open Go.Proofs.Ytjlbfbpjcmjdfaa.Bits
end Go.Proofs.Ytjlbfbpjcmjdfaa.L
end
section
namespace Go.Proofs.Ytjlbfbpjcmjdfaa.L
open Go.RowKit Go.Proofs.Ytjlbfbpjcmjdfaa.F Go.Proofs.YtjlbfbpjcmjdfaaW.PrintWords Go.Proofs.YtjlbfbpjcmjdfaaW.PrintLast Go.Proofs.YtjlbfbpjcmjdfaaW.PrintMore
open Go.Proofs.Ytjlbfbpjcmjdfaa.Bits
open Go.Proofs.Ytjlbfbpjcmjdfaa.Mt (cnt full Mat jR rk)
set_option linter.unusedSimpArgs false
set_option linter.unusedVariables false
/-- The matroid whose bases are the qX of some sets, if it is one. -/
def Q0 (n : Int) (L : List Nat) : Int × List Int × Bool := if vZ n (ints (Vd L)) = true then (n, ints (Vd L), true) else (0, [], false)
theorem Qb (n : Int) {L : List Nat} (hL : ∀ x ∈ L, x < 256) (hl : L.length ≤ 17592186044416) : Ev (fun k => zY.f k n (ints L)) (Q0 n L) := by
  unfold zY.f Q0
  have hlen := zba L
  refine Ev.bind (Ju hL hl) (Ev.bind (VP n _ (by rw [qi]; omega)) ?_)
  cases vZ n (ints (Vd L))
  · simp only [Bool.false_eq_true, if_false]; exact Ev.now _
  · simp only [if_true]; exact Ev.now _
end Go.Proofs.Ytjlbfbpjcmjdfaa.L
end
section
namespace Go.Proofs.Ytjlbfbpjcmjdfaa.L
open Go.RowKit Go.Proofs.Ytjlbfbpjcmjdfaa.F Go.Proofs.YtjlbfbpjcmjdfaaW.PrintWords Go.Proofs.YtjlbfbpjcmjdfaaW.PrintLast Go.Proofs.YtjlbfbpjcmjdfaaW.PrintMore
open Go.Proofs.Ytjlbfbpjcmjdfaa.Bits
open Go.Proofs.Ytjlbfbpjcmjdfaa.Mt (sdiff qt elems jN Mat ins del jR)
set_option linter.unusedSimpArgs false
theorem VO {N : Nat} {B : List Nat} (hN : N ≤ 8) (hB : ∀ b ∈ B, b < 2 ^ N) (hs : B.Pairwise (· < ·)) : ya (N : Int) (ints B) = true := by
  have e2 : (2 : Int) ^ N = ((2 ^ N : Nat) : Int) := by simp
  unfold ya QW
  simp only [Bool.and_eq_true, decide_eq_true_eq, List.all_eq_true, List.mem_range, Bool.or_eq_true, Int.toNat_natCast, qi]
  refine ⟨fun i hi => ⟨?_, ?_⟩, by omega, by omega⟩
  · have := hB _ (List.getElem_mem hi)
    rw [show (ints B).getD i 0 = ((B[i] : Nat) : Int) by simp [ints, List.getElem?_eq_getElem hi], e2]
    omega
  · by_cases h0 : i = 0
    · exact .inl h0
    · right
      have := List.pairwise_iff_getElem.1 hs (i - 1) i (by omega) hi (by omega)
      rw [show (ints B).getD i 0 = ((B[i] : Nat) : Int) by simp [ints, List.getElem?_eq_getElem hi], show (ints B).getD (i - 1) 0 = ((B[i - 1] : Nat) : Int) by simp [ints, List.getElem?_eq_getElem (show i - 1 < B.length by omega)]]
      omega
theorem JZ {N : Nat} {B : List Nat} (M : Mat N B) (hs : B.Pairwise (· < ·)) : vZ (N : Int) (ints B) = true := by
  unfold vZ
  rw [VO M.size M.lt hs, Q8]
  have h0 : 0 < B.length := List.length_pos_iff.2 M.ne
  have hb : zbB B = true := by
    unfold zbB VM
    simp only [List.all_eq_true, List.any_eq_true, decide_eq_true_eq]
    intro a ha b hb e he
    have h1 := (jN.1 he).2
    rw [qt] at h1
    simp only [Bool.and_eq_true, Bool.not_eq_true'] at h1
    obtain ⟨f, hf1, hf2, hf3⟩ := M.ex a ha b hb e h1.1 h1.2
    refine ⟨f, jN.2 ⟨M.zbt hb hf1, ?_⟩, hf3⟩
    rw [qt, hf1, hf2]; rfl
  rw [hb, qi]; simp [h0]
end Go.Proofs.Ytjlbfbpjcmjdfaa.L
end
section
namespace Go.Proofs.Ytjlbfbpjcmjdfaa.L
open Go.Proofs.Ytjlbfbpjcmjdfaa.Mt
set_option linter.unusedSimpArgs false
set_option linter.unusedVariables false
section
variable {N : Nat} {B : List Nat}
theorem QM (M : Mat N B) {s : Nat} (hs : s < 2 ^ N) : s ∈ B ↔ cnt s = rk B (full N) ∧ rk B s = rk B (full N) := by
  obtain ⟨b0, hb0⟩ := List.exists_mem_of_ne_nil _ M.ne
  have hfull : rk B (full N) = cnt b0 := M.zbM hb0 (fun i h => h)
  constructor
  · intro h
    have hc : cnt s = cnt b0 := M.Ql h hb0
    have hi : ind B s := ⟨s, h, fun i hi => hi⟩
    have hr : rk B s = cnt s := (jD M.ne (jR M.size hs)).1 hi
    exact ⟨by omega, by omega⟩
  · rintro ⟨h1, h2⟩
    obtain ⟨b, hb, hsub⟩ : ind B s := (jD M.ne (jR M.size hs)).2 (by omega)
    have hc : cnt b = cnt b0 := M.Ql hb hb0
    have : s = b := yv hsub (M.lt8 hb) (by omega)
    rwa [this]
theorem zbl (M : Mat N B) (hs : B.Pairwise (· < ·)) : Vd (J5 B (2 ^ N)) = B := by
  have hL : ∀ x ∈ J5 B (2 ^ N), x < 256 := fun x hx => jR M.size (YH hx)
  have hmem : ∀ x, x ∈ J5 B (2 ^ N) ↔ x < 2 ^ N ∧ ind B x := fun x => by
    unfold J5
    rw [List.mem_filter, List.mem_range]
    exact and_congr_right fun h => Y9 M (jR M.size h)
  refine yn (Qu _) hs fun x => ?_
  rw [VK hL]
  constructor
  · rintro ⟨h1, h2⟩
    obtain ⟨hx, b, hb, hsub⟩ := (hmem x).1 h1
    have := h2 b ((hmem b).2 ⟨M.lt b hb, b, hb, fun i hi => hi⟩) hsub
    rwa [← this]
  · intro hx
    refine ⟨(hmem x).2 ⟨M.lt x hx, x, hx, fun i hi => hi⟩, fun t ht hsub => ?_⟩
    obtain ⟨htl, b, hb, hsb⟩ := (hmem t).1 ht
    have hc : cnt b = cnt x := M.Ql hb hx
    have h1 := jB hsub
    have h2 := jB hsb
    exact (yv hsub (jR M.size htl) (by omega)).symm
end
end Go.Proofs.Ytjlbfbpjcmjdfaa.L
end
section
namespace Go.Proofs.Ytjlbfbpjcmjdfaa.L
open Go.RowKit Go.Proofs.Ytjlbfbpjcmjdfaa.F Go.Proofs.YtjlbfbpjcmjdfaaW.PrintWords Go.Proofs.YtjlbfbpjcmjdfaaW.PrintLast Go.Proofs.YtjlbfbpjcmjdfaaW.PrintMore
open Go.Proofs.Ytjlbfbpjcmjdfaa.Bits
open Go.Proofs.Ytjlbfbpjcmjdfaa.Mt (full cnt rk linB Ker vF J3 Mat jR)
set_option linter.unusedSimpArgs false
set_option linter.unusedVariables false
/-- The rank of the columns of s. -/
def rkS (p : Int) (R C : Nat) (M : Tab) (s : Nat) : Nat := (jV p R s M C).1
def Qr (p : Int) (R C : Nat) (M : Tab) (s : Nat) : Bool := decide (cnt s = rkS p R C M (full C)) && decide (rkS p R C M s = rkS p R C M (full C))
def yY (p : Int) (R C : Nat) (M : Tab) (m : Nat) : List Nat := (List.range m).filter (Qr p R C M)
theorem Jf (N : Nat) : full N < 2 ^ N := by
  have h : ((full N : Nat) : Int) ≤ ((full N : Nat) : Int) := Int.le_refl _
  exact Z1.1 h
section
variable {p : Int} {R C : Nat} {M : Tab}
theorem ZW (hf : isField p = true) (hC : C ≤ 8) (R : Nat) (M : Tab) : Mat C (linB p C (Ker p C R M)) := (J3 (QH hf) hC M).mat
theorem ZD (p : Int) (R C : Nat) (M : Tab) : (linB p C (Ker p C R M)).Pairwise (· < ·) := vR _ _
theorem Jh (hf : isField p = true) (hC : C ≤ 8) (hM : InF p R C M) {s : Nat} (hs : s < 2 ^ C) : rkS p R C M s = rk (linB p C (Ker p C R M)) s := za6 (QH hf) hC hs hM
theorem Y5 (hf : isField p = true) (hC : C ≤ 8) (hM : InF p R C M) : yY p R C M (2 ^ C) = linB p C (Ker p C R M) := by
  refine yn (vR _ _) (ZD p R C M) fun s => ?_
  unfold yY Qr
  rw [List.mem_filter, List.mem_range, Bool.and_eq_true, decide_eq_true_eq, decide_eq_true_eq]
  constructor
  · rintro ⟨hs, h1, h2⟩
    refine (QM (ZW hf hC R M) hs).2 ?_
    rw [← Jh hf hC hM hs, ← Jh hf hC hM (Jf C)]
    exact ⟨h1, h2⟩
  · intro h
    have hs := (ZW hf hC R M).lt s h
    refine ⟨hs, ?_⟩
    rw [Jh hf hC hM hs, Jh hf hC hM (Jf C)]
    exact (QM (ZW hf hC R M) hs).1 h
end
def yb (p r c : Int) (l : List Int) : Int × List Int := if jj p r c l = true then (c, ints (yY p r.toNat c.toNat (qD l c.toNat) (2 ^ c.toNat))) else (0, [])
theorem Yc {C : Nat} (hC : C ≤ 8) : 2 ^ C ≤ 256 := Nat.pow_le_pow_right (n := 2) (by decide) hC
theorem QS (p : Int) (R C : Nat) (M : Tab) (m : Nat) : (yY p R C M m).length ≤ m := by
  have := List.length_filter_le (Qr p R C M) (List.range m)
  rwa [List.length_range] at this
theorem JS (p r c : Int) (l : List Int) : Ev (fun k => qH.f k p r c l) (yb p r c l) := by
  unfold qH.f yb
  refine Ev.bind (V1 p r c l) ?_
  cases h : jj p r c l
  · simp only [Bool.false_eq_true, if_false]; exact Ev.now _
  obtain ⟨R, C, rfl, rfl, hR, hC, hl, h2, h7, hf, hx⟩ := vX h
  simp only [if_true, Int.toNat_natCast]
  have h256 := Yc hC
  have main : Ev (fun k => zD.f k p R C l) ((C : Int), ints (yY p R C (qD l C) (2 ^ C))) := by
    unfold zD.f
    simp only [Qp hC, Option.bind_some]
    refine Ev.bind (Ys hR hC hf (Jf C) hl hx) ?_
    have key := jn (fun k (out : List Int) s => zD.l0 k p R C l (rkS p R C (qD l C) (full C) : Int) s C out) (2 ^ C) (fun out s => if Qr p R C (qD l C) s = true then out ++ [(s : Int)] else out) (fun s out => out = ints (yY p R C (qD l C) s))
      (fun s out hs ho => ⟨by
        unfold yY at ho ⊢
        rw [List.range_succ, List.filter_append, ho]
        by_cases hb : Qr p R C (qD l C) s = true
        · simp [hb, ints]
        · simp [hb, ints], fun r hr => by
        have hol : out.length ≤ s := by rw [ho]; simp only [ints, List.length_map]; exact QS _ _ _ _ _
        simp only [zD.l0, Qp hC, Option.bind_some, Z1.2 hs, if_true]
        refine Ev.bind (YZ (s : Int)) ?_
        rw [VZ (by omega)]
        unfold Qr at hr
        by_cases c1 : cnt s = rkS p R C (qD l C) (full C)
        · simp only [show ((cnt s : Nat) : Int) = ((rkS p R C (qD l C) (full C) : Nat) : Int) by omega, if_true]
          refine Ev.bind (Ys hR hC hf hs hl hx) ?_
          by_cases c2 : rkS p R C (qD l C) s = rkS p R C (qD l C) (full C)
          · rw [if_pos (by simp [c1, c2])] at hr
            unfold rkS at c2 hr ⊢
            simp only [show (((jV p R s (qD l C) C).1 : Nat) : Int) = (((jV p R (full C) (qD l C) C).1 : Nat) : Int) by omega, if_true, show out.length < 17592186044416 by omega, zS (show s < 9223372036854775807 by omega)]
            exact hr
          · rw [if_neg (by simp [c2])] at hr
            unfold rkS at c2 hr ⊢
            simp only [show ¬ ((((jV p R s (qD l C) C).1 : Nat) : Int) = (((jV p R (full C) (qD l C) C).1 : Nat) : Int)) by omega, if_false, zS (show s < 9223372036854775807 by omega)]
            exact hr
        · rw [if_neg (by simp [c1])] at hr
          simp only [show ¬ (((cnt s : Nat) : Int) = ((rkS p R C (qD l C) (full C) : Nat) : Int)) by omega, if_false, zS (show s < 9223372036854775807 by omega)]
          exact hr⟩) [] (by simp [ints, yY])
    have ke := key.1
    refine key.2 _ (Ev.succ ?_)
    simp only [zD.l0, Qp hC, Option.bind_some, if_neg (fun h => Nat.lt_irrefl _ (Z1.1 h))]
    rw [ke]
    exact Ev.now _
  exact Ev.bind main (Ev.now _)
theorem Qa (p r c : Int) (l : List Int) : Ev (fun k => zH.f k p r c l) (yb p r c l) := by
  unfold zH.f yb
  refine Ev.bind (QR p r c l) ?_
  cases h : jj p r c l
  · simp only [Bool.false_eq_true, if_false]; exact Ev.now _
  have hm := h
  obtain ⟨R, C, rfl, rfl, hR, hC, hl, h2, h7, hf, hx⟩ := vX h
  simp only [if_true, Int.toNat_natCast]
  have h256 := Yc hC
  have hM : InF p R C (qD l C) := fun i j _ _ => J4 (by omega) hx _
  have hset : Ev (fun k => zR.f k C p R C l) (ints (J5 (linB p C (Ker p C R (qD l C))) (2 ^ C))) := by
    unfold zR.f J5
    refine zaO (fun k => zR.q k p R C l) (JG (linB p C (Ker p C R (qD l C)))) hC fun s hs => ?_
    unfold zR.q
    refine Ev.bind (Va p R C l s) ?_
    have hok : JV p R C l s = true := by
      unfold JV
      rw [hm, Bool.true_and, decide_eq_true_eq, Int.toNat_natCast]
      exact ⟨by omega, by omega, by omega, by exact_mod_cast hs⟩
    unfold ZA
    rw [if_pos hok, Int.toNat_natCast, Int.toNat_natCast, Int.toNat_natCast, zaj, VZ (by omega)]
    simp only [Option.bind_some]
    refine Ev.some ?_
    unfold JG
    rw [← Jh hf hC hM hs]
    unfold rkS
    exact decide_eq_decide.2 ⟨fun h => by exact_mod_cast h, fun h => by exact_mod_cast h⟩
  have hlt : ∀ x ∈ J5 (linB p C (Ker p C R (qD l C))) (2 ^ C), x < 256 := fun x hx => Nat.lt_of_lt_of_le (YH hx) h256
  refine Ev.bind hset (Ev.bind (Qb (C : Int) hlt (Nat.le_trans (zbf _ _) (by omega))) ?_)
  unfold Q0
  rw [zbl (ZW hf hC R _) (ZD p R C _), if_pos (JZ (ZW hf hC R _) (ZD p R C _)), Y5 hf hC hM]
  exact Ev.now _
theorem QD (p r c : Int) (l : List Int) : (yb p r c l).2.length ≤ 17592186044416 := by
  unfold yb
  cases h : jj p r c l
  · simp
  obtain ⟨R, C, rfl, rfl, hR, hC, hl, h2, h7, hf, hx⟩ := vX h
  have h256 := Yc hC
  simp only [if_true, ints, List.length_map, Int.toNat_natCast]
  have := QS p R C (qD l C) (2 ^ C)
  omega
end Go.Proofs.Ytjlbfbpjcmjdfaa.L
end
section
namespace Go.Proofs.Ytjlbfbpjcmjdfaa.L
open Go.RowKit Go.Proofs.Ytjlbfbpjcmjdfaa.F Go.Proofs.YtjlbfbpjcmjdfaaW.PrintWords Go.Proofs.YtjlbfbpjcmjdfaaW.PrintLast Go.Proofs.YtjlbfbpjcmjdfaaW.PrintMore
open Go.Proofs.Ytjlbfbpjcmjdfaa.Bits
set_option linter.unusedSimpArgs false
/-- n numbers from m on. -/
def yp (n : Nat) (m : Int) : List Int := (List.range n).map fun i : Nat => m + (i : Int)
theorem vU (n : Nat) (m : Int) : (yp n m).length = n := by simp [yp]
theorem zaf (n : Nat) (m : Int) (i : Nat) (h : i < n) : (yp n m).getD i 0 = m + i := by simp [yp, h]
theorem Jv (l : List Int) (m : Int) : ∀ n, n ≤ l.length → (List.range n).foldl (fun (s : List Int × Int) i => (s.1.set i s.2, s.2 + 1)) (l, m) = (yp n m ++ l.drop n, m + n)
  | 0, _ => by simp [yp]
  | n + 1, h => by
    rw [List.range_succ, List.foldl_append, Jv l m n (by omega)]
    simp only [List.foldl_cons, List.foldl_nil, Prod.mk.injEq]
    refine ⟨?_, by omega⟩
    rw [List.set_append_right _ _ (by rw [vU]; exact Nat.le_refl n), vU, Nat.sub_self, List.drop_eq_getElem_cons (by omega), List.set_cons_zero]
    simp [yp, List.range_succ]
theorem VF (l : List Int) (m : Int) (h : l.length ≤ 17592186044416) (h0 : 0 ≤ m) (h1 : m ≤ 140737488355328) : Ev (fun k => zW.f k l m) (m + l.length, yp l.length m) := by
  unfold zW.f
  have key := yK (fun k (s : List Int × Int) i => zW.l0 k s.1 s.2 i) l.length (fun s i => (s.1.set i s.2, s.2 + 1)) (fun i s => s.1.length = l.length ∧ s.2 = m + i) (fun s => (s.2, s.1))
    (fun s hs => by
      simp only [zW.l0, hs.1, show ¬ ((l.length : Int) < (l.length : Int)) by omega, if_false]
      exact Ev.now _)
    (fun i s hi hs => ⟨⟨by simp [hs.1], by simp only [hs.2]; omega⟩, fun r hr => by
      have hw : wrap64 (s.2 + 1) = s.2 + 1 := qQ (by omega) (by omega)
      simp only [zW.l0, hs.1, show ((i : Int) < (l.length : Int)) by omega, show (0 : Int) ≤ (i : Int) by omega, if_true, Int.toNat_natCast, hw, zS (show i < 9223372036854775807 by omega)]
      exact hr⟩) (l, m) ⟨rfl, by simp⟩
  rw [Jv l m l.length (Nat.le_refl _)] at key
  simpa using key
theorem zaF (n : Nat) (m : Int) (h : n ≤ 17592186044416) (h0 : 0 ≤ m) (h1 : m ≤ 140737488355328) : Ev (fun k => qc.f k (yp n m) m) (m + n) := by
  unfold qc.f
  have key := yK (fun k (s : Int) i => qc.l0 k (yp n m) s i) n (fun s _ => s + 1) (fun i s => s = m + i) id
    (fun s hs => by
      simp only [qc.l0, vU, show ¬ ((n : Int) < (n : Int)) by omega, if_false]
      exact Ev.now _)
    (fun i s hi hs => ⟨by rw [hs]; omega, fun r hr => by
      have hw : wrap64 (s + 1) = s + 1 := qQ (by omega) (by omega)
      have hg : rd (yp n m) (i : Int) = s := by rw [qY, zaf n m i hi, hs]
      simp only [qc.l0, vU, hg, show ((i : Int) < (n : Int)) by omega, show (0 : Int) ≤ (i : Int) by omega, if_true, hw, zS (show i < 9223372036854775807 by omega)]
      exact hr⟩) m (by simp)
  have e : ∀ n : Nat, (List.range n).foldl (fun (s : Int) _ => s + 1) m = m + n := by
    intro n
    induction n with
    | zero => simp
    | succ n ih => rw [List.range_succ, List.foldl_append, ih]; simp; omega
  rw [e n] at key
  exact key
end Go.Proofs.Ytjlbfbpjcmjdfaa.L
end
section
namespace Go.Proofs.Ytjlbfbpjcmjdfaa.L
open Go.RowKit Go.Proofs.Ytjlbfbpjcmjdfaa.F Go.Proofs.YtjlbfbpjcmjdfaaW.PrintWords Go.Proofs.YtjlbfbpjcmjdfaaW.PrintLast Go.Proofs.YtjlbfbpjcmjdfaaW.PrintMore
open Go.Proofs.Ytjlbfbpjcmjdfaa.Bits
theorem Yh (p r c : Int) (l : List Int) (h : l.length ≤ 17592186044416) : Ev (fun k => zZ.f k p r c l 1) (1 + l.length, yp l.length 1) := by
  unfold zZ.f
  exact Ev.bind (VF l 1 h (by omega) (by omega)) (Ev.now _)
end Go.Proofs.Ytjlbfbpjcmjdfaa.L
end
section
namespace Go.Proofs.Ytjlbfbpjcmjdfaa.L
open Go.RowKit Go.Proofs.Ytjlbfbpjcmjdfaa.F Go.Proofs.YtjlbfbpjcmjdfaaW.PrintWords Go.Proofs.YtjlbfbpjcmjdfaaW.PrintLast Go.Proofs.YtjlbfbpjcmjdfaaW.PrintMore
open Go.Proofs.Ytjlbfbpjcmjdfaa.Bits
set_option linter.unusedSimpArgs false
theorem YS (n : Int) (l : List Int) (h : l.length ≤ 17592186044416) : Ev (fun k => zw.f k n l n l) true := by
  unfold zw.f
  simp only [if_true]
  refine Ev.bind (zbe l l h) ?_
  simp only [decide_true, if_true]; exact Ev.now _
theorem Vw (n : Int) (l : List Int) (h : l.length ≤ 17592186044416) : Ev (fun k => qR.f k n l 1) (1 + l.length, yp l.length 1) := by
  unfold qR.f; exact Ev.bind (VF l 1 h (by decide) (by decide)) (Ev.now _)
theorem VG (n : Int) (m : Nat) (h : m ≤ 17592186044416) : Ev (fun k => zU.f k n (yp m 1) 1) (1 + m) := by
  unfold zU.f
  refine Ev.bind (zaF m 1 h (by decide) (by decide)) ?_
  rw [if_neg (by omega)]; exact Ev.now _
end Go.Proofs.Ytjlbfbpjcmjdfaa.L
end
section
namespace Go.Proofs.Ytjlbfbpjcmjdfaa.Pure
open Go.RowKit Go.Proofs.Ytjlbfbpjcmjdfaa.F Go.Proofs.Ytjlbfbpjcmjdfaa.L Go.Proofs.YtjlbfbpjcmjdfaaW.PrintWords Go.Proofs.YtjlbfbpjcmjdfaaW.PrintLast Go.Proofs.YtjlbfbpjcmjdfaaW.PrintMore
set_option linter.unusedSimpArgs false
theorem FnExactFromMatrix (p r c : Int) (l : List Int) (_ : (Lit.int .i64 p).wf = true) (_ : (Lit.int .i64 r).wf = true) (_ : (Lit.int .i64 c).wf = true) (hl : l.length * 8 ≤ 140737488351232) (_ : ∀ x ∈ l, (Lit.int .i64 x).wf = true) :
    ∃ k, zh.f k p r c l = some true := by
  have h1 : l.length ≤ 17592186044416 := by omega
  refine Ev.rounds ?_
  unfold zh.f
  obtain ⟨n, hn, hb⟩ := zaT p r c l 1048576 h1 (by decide) (by decide)
  simp only [hn, Option.bind_some]
  by_cases h : n < 0
  · simp only [h, if_true]; exact Ev.now _
  simp only [h, if_false]
  have hm := QD p r c l
  refine Ev.bind (ZS p r c l h1) (Ev.bind (JS p r c l) (Ev.bind (ZS p r c l h1) (Ev.bind (Qa p r c l) ?_)))
  have hi := Qa p r c l
  generalize yb p r c l = m at hm hi
  obtain ⟨tn, tl⟩ := m
  simp only at hm hi ⊢
  have he := YS tn tl hm
  have hh := VG tn tl.length hm
  refine Ev.bind he ?_
  simp only [if_true]
  refine Ev.bind (ZS p r c l h1) (Ev.bind (zbd p r c l p r c l h1) ?_)
  simp only [decide_true, if_true]
  refine Ev.bind (Yh p r c l h1) ?_
  simp only [show ¬ (1 + (l.length : Int) < 0) by omega, if_false]
  refine Ev.bind he ?_
  simp only [Bool.not_true]
  refine Ev.succ ?_
  simp only [zh.j0, Bool.false_eq_true, if_false]
  refine Ev.bind (Vw tn tl hm) (Ev.bind hh ?_)
  simp only [show ¬ (1 + (tl.length : Int) < 0) by omega, if_false, if_true]
  refine Ev.bind (ZS p r c l h1) (Ev.bind hi (Ev.bind he ?_))
  simp only [if_true]
  refine Ev.bind hh ?_
  simp only [show ¬ (1 + (tl.length : Int) < 0) by omega, if_false, if_true]
  exact Ev.now _
end Go.Proofs.Ytjlbfbpjcmjdfaa.Pure
end
section
namespace Go.Proofs.Ytjlbfbpjcmjdfaa.fnExactFromMatrix
open Go.ChangeShapes Go.WideShapes Go.ChangeAt Go.RowKit Go.Joins
open Go.ChangeMaps (open_string shut_string)
set_option linter.unusedVariables false
theorem lifted (os : Os) (started : os.Started) (H : Type) (enc : TypeId × Value → H) :
    ReturnsInHanded {} Try.checked os 3 .any (Rows.fnExactFromMatrixSpec.pre6 enc Try.prog Try.f3 Rows.fnExactFromMatrixRow.domain false) (Rows.fnExactFromMatrixSpec.post enc Try.prog Try.f3 false true false false) := by
  refine returnsInHanded_of_change_sized (C := Try.checked) Open.own started (by kernel_rfl) Try.func3
    (ChangeSpec.witness6 (enc := enc) (C := Try.checked) false ⟨#[], #[.agg #[.int .i64 0, .int .i64 0, .int .i64 0, .slice none 0 0]], []⟩ 8 (by kernel_rfl) (by kernel_rfl) (by kernel_rfl) (by kernel_rfl)) ?_
  intro W base args ds gs before hval0 hW hcnd hsz0 _
  have hsz : (DataW.weightsEach Try.prog (Try.f3.params.toList ++ Rows.fnExactFromMatrixSpec.plain.varTypes Try.prog) (ds ++ gs)).all (· ≤ reachBytes) = true := hsz0
  have hval : ∀ (j : Nat) t v, Try.f3.params[j]? = some t → args[j]? = some v → Value.okWide Try.prog W .any base t v := hval0
  have hW' := hW
  obtain ⟨p, q, hA0, hV, rfl, hfz, hnd⟩ := hW
  have hA : DataW.TrodAll enc Try.prog W 0 (fun _ => true) true Try.f3.params.toList args.toList ds p := hA0
  rw [Try.params3] at hA hval hsz
  obtain ⟨v0, vs0, d0, ds0, p0, q0, hargs, rfl, rfl, h0, r0⟩ := trodAll_cons hA
  obtain ⟨rfl, rfl, rfl⟩ := trodAll_nil r0
  obtain rfl : args = #[v0] := by cases args; simp_all
  obtain ⟨rfl, rfl⟩ := trodVars_none hV
  have k0 := h0
  have lt0 : ∀ x ∈ p0, x.block < W.heap.size := by obtain ⟨m, hm⟩ := k0; exact DataW.trod_lt m _ _ _ hm
  obtain ⟨v0_0, v0_1, v0_2, v0_3, y0_0, y0_1, y0_2, y0_3, fuel0, rfl, hd0, hp0, t0_0, t0_1, t0_2, t0_3⟩ := open_agg4 Try.underlying24 (by kernel_rfl) (by kernel_rfl) (hval 0 24 v0 rfl rfl) h0
  have z0 : (DataW.weightsEach Try.prog [3, 3, 3, 22] [y0_0.1, y0_1.1, y0_2.1, y0_3.1]).all (· ≤ reachBytes) = true := Open.YW hsz (j := 0) (t := 24) rfl (congrArg some hd0) Try.underlying24
  obtain ⟨a0_0, e0_0, _, w0_0⟩ := DataW.trod_int Try.underlying3 t0_0
  obtain rfl : v0_0 = _ := (List.cons.inj e0_0).1
  obtain ⟨a0_1, e0_1, _, w0_1⟩ := DataW.trod_int Try.underlying3 t0_1
  obtain rfl : v0_1 = _ := (List.cons.inj e0_1).1
  obtain ⟨a0_2, e0_2, _, w0_2⟩ := DataW.trod_int Try.underlying3 t0_2
  obtain rfl : v0_2 = _ := (List.cons.inj e0_2).1
  obtain ⟨A0_3, c0_3, l0_3, rfl, hr0_3, hc0_3, hn0_3, hw0_3⟩ := Open.zbc (j := 3) Try.underlying22 Try.underlying3 (by kernel_rfl) (by kernel_rfl) z0 rfl rfl t0_3
  obtain ⟨k, h⟩ := Pure.FnExactFromMatrix a0_0 a0_1 a0_2 l0_3 w0_0 w0_1 w0_2 hn0_3 hw0_3
  refine (F.zh.calls (w := W) (hr0_3 := hr0_3) (hc0_3 := hc0_3) (h := h)).mono ?_
  rintro e W' ⟨he, hd⟩
  have bel : Below W.heap.size W W' := by first | exact hd | exact hd.below
  subst he
  exact ⟨_, rfl, _, _, _, [], _, [], hW', trodAll_mk1 (shut_bool Try.underlying4 _), (trodAll_cons_mk (Below.trod Open.laidOut (by kernel_rfl) (of_decide_eq_true (by kernel_rfl)) k0 bel lt0) trodAll_mk0), rfl, bel.frame _, fun h => by cases h⟩
theorem over : Rows.fnExactFromMatrixRow.holds Try.pinned (OpenSpec.ofChange Rows.fnExactFromMatrixSpec) :=
  OpenClaim.holds_of_wide 3 Try.f3 rfl rfl rfl rfl rfl rfl rfl ⟨rfl, rfl, rfl, rfl, rfl⟩ rfl rfl rfl rfl rfl (by kernel_rfl) Try.func3 (by kernel_rfl)
    (of_decide_eq_true (by kernel_rfl)) (by unfold Func.isWrapper; first | (rw [if_pos (by decide +kernel)]; kernel_rfl) | (rw [if_neg (by decide +kernel)]; exact ⟨rfl, rfl⟩))
    (fun os started H enc _ => lifted os started H enc)
theorem proved : Rows.FnExactFromMatrixSaid := over
end Go.Proofs.Ytjlbfbpjcmjdfaa.fnExactFromMatrix
namespace Go.Proofs.Ytjlbfbpjcmjdfaa
/-- The row, under a short name, for the claim. -/
theorem fnExactFromMatrix_holds : Rows.FnExactFromMatrixSaid := fnExactFromMatrix.proved
#print axioms fnExactFromMatrix_holds
end Go.Proofs.Ytjlbfbpjcmjdfaa
end
