/- Several texts of this session in one: Mat2, Mat4, Lin, Mat3, Elim, LGauss, LGaussS, LMatRank, LDual, LDualMat, LMark, LMarkM, PuFnExactDualMatrix, LawFnExactDualMatrix. Conditions: as each theorem says. -/
import Derived.Test.YtopkfhnnapncgaaZDualMatrix6
import Derived.Test.YtopkfhnnapncgaaZDualMatrix3
import Derived.Test.YtopkfhnnapncgaaZDualMatrix5
import Derived.Test.YtopkfhnnapncgaaZDualMatrix2
import Derived.Test.YtopkfhnnapncgaaRows
import Derived.Test.YtopkfhnnapncgaaZDualMatrix0
import Derived.WalkKit
import Derived.ProofKit
import Derived.OpenShut
import Derived.ShutString
import Derived.ChangeOld
import Derived.Below
import Derived.SizedLaws
import Derived.Lib.SmallJoins
set_option maxRecDepth 100000
section
namespace Go.Proofs.Ytopkfhnnapncgaa.Mt
def setOf (n : Nat) (p : Nat → Bool) : Nat := (List.range n).foldl (fun o e => if p e then ins o e else o) 0
theorem yZ (p : Nat → Bool) (i : Nat) : ∀ (l : List Nat) (o : Nat), (l.foldl (fun o e => if p e then ins o e else o) o).testBit i = (o.testBit i || (decide (i ∈ l) && p i))
  | [], o => by simp
  | a :: l, o => by
    rw [List.foldl_cons, yZ p i l]
    by_cases ha : a = i
    · subst ha
      cases hp : p a <;> simp [qp]
    · have : (i = a) = False := eq_false fun h => ha h.symm
      cases hp : p a <;> simp [qp, ha, this]
theorem Zs (n : Nat) (p : Nat → Bool) (i : Nat) : (setOf n p).testBit i = (decide (i < n) && p i) := by
  unfold setOf; rw [yZ, jF]; simp
theorem VX (n : Nat) (p : Nat → Bool) : setOf n p < 2 ^ n := yN fun i hi => by rw [Zs] at hi; simp at hi; exact hi.1
theorem Zo {s e n : Nat} (hs : s < 2 ^ n) (he : e < n) : ins s e < 2 ^ n := yN fun i hi => by
  rw [qp] at hi; rcases Bool.or_eq_true_iff.1 hi with hi | hi
  · exact jV hs hi
  · rw [← of_decide_eq_true hi]; exact he
theorem yf {s t e : Nat} (h : sub s t) (he : t.testBit e = true) : sub (ins s e) t := fun i hi => by
  rw [qp] at hi; rcases Bool.or_eq_true_iff.1 hi with hi | hi
  · exact h i hi
  · rw [← of_decide_eq_true hi]; exact he
theorem y7 {s t : Nat} (e : Nat) (h : sub s t) : sub (ins s e) (ins t e) := yf (jm h (yz t e)) (JS t e)
theorem JE {s e : Nat} (h : s.testBit e = true) : ins (del s e) e = s := ext fun i => by
  rw [qp, qO]; by_cases hi : e = i
  · subst hi; simp [h]
  · simp [hi]

section
variable {n : Nat} {B : List Nat}
/-- What adds nothing to the rank, one by one, adds nothing together. -/
theorem Mat.YG (M : Mat n B) {s t : Nat} (ht : t < 2 ^ n) (hst : sub s t) (h : ∀ e, t.testBit e = true → rk B (ins s e) = rk B s) : rk B t = rk B s := by
  have ht8 : t < 256 := yR M.size ht
  have hs8 : s < 256 := qJ (n := 8) hst ht8
  apply Nat.le_antisymm _ (jX hst)
  obtain ⟨I, hI, _, hIs, hIc⟩ := M.yx hs8 (ZV M.ne) (fun i hi => by rw [jF] at hi; cases hi)
  obtain ⟨J, hJ, hIJ, hJt, hJc⟩ := M.yx ht8 hI (jm hIs hst)
  apply Nat.le_of_not_lt
  intro hlt
  obtain ⟨x, hxJ, hxI⟩ := yY (a := J) (b := I) (by omega)
  have h8 : x < 8 := jV (n := 8) (qJ (n := 8) hJt ht8) hxJ
  have h1 : ind B (ins I x) := vB (yf hIJ hxJ) hJ
  have h2 := (vm M.ne (qJ (n := 8) (yf (jm hIJ hJt) (hJt x hxJ)) ht8)).1 h1
  have h3 := yv h8 hxI
  have h4 : rk B (ins I x) ≤ rk B (ins s x) := jX (y7 x hIs)
  have h5 := h x (hJt x hxJ)
  omega
/-- The closure of s. -/
def cl (n : Nat) (B : List Nat) (s : Nat) : Nat := setOf n fun e => decide (rk B (ins s e) = rk B s)
theorem YA (s e : Nat) : (cl n B s).testBit e = (decide (e < n) && decide (rk B (ins s e) = rk B s)) := Zs _ _ _
theorem vR {s e : Nat} : (cl n B s).testBit e = true ↔ e < n ∧ rk B (ins s e) = rk B s := by rw [YA]; simp
theorem Vq (s : Nat) : cl n B s < 2 ^ n := VX _ _
theorem QQ {s : Nat} (hs : s < 2 ^ n) : sub s (cl n B s) := fun i hi => vR.2 ⟨jV hs hi, by rw [YM hi]⟩
theorem Mat.zak (M : Mat n B) {s : Nat} (hs : s < 2 ^ n) : rk B (cl n B s) = rk B s := M.YG (Vq s) (QQ hs) fun _ he => (vR.1 he).2
/-- What adds nothing to s adds nothing to more. -/
theorem Mat.Ja (M : Mat n B) {s t e : Nat} (ht : t < 2 ^ n) (he : e < n) (hst : sub s t) (h : rk B (ins s e) = rk B s) : rk B (ins t e) = rk B t := by
  have h1 := M.Y3 (s := ins s e) (t := t) (yR M.size (Zo (qJ hst ht) he)) (yR M.size ht)
  have h2 : ins s e ||| t = ins t e := ext fun i => by
    rw [j4, qp, qp]; have := hst i; revert this; cases s.testBit i <;> cases t.testBit i <;> cases decide (e = i) <;> simp
  have h3 : rk B s ≤ rk B (ins s e &&& t) := jX (Ym (yz s e) hst)
  rw [h2] at h1
  have h4 : rk B t ≤ rk B (ins t e) := jX (yz t e)
  omega
theorem Mat.JJ (M : Mat n B) {s t : Nat} (ht : t < 2 ^ n) (hst : sub s t) : sub (cl n B s) (cl n B t) := fun _ hi =>
  vR.2 ⟨(vR.1 hi).1, M.Ja ht (vR.1 hi).1 hst (vR.1 hi).2⟩
theorem Mat.zap (M : Mat n B) {s : Nat} (hs : s < 2 ^ n) : cl n B (cl n B s) = cl n B s := by
  refine yS (fun i hi => ?_) (QQ (Vq s))
  obtain ⟨h1, h2⟩ := vR.1 hi
  refine vR.2 ⟨h1, ?_⟩
  have h3 : rk B (ins s i) ≤ rk B (ins (cl n B s) i) := jX (y7 i (QQ hs))
  rw [h2, M.zak hs] at h3
  exact Nat.le_antisymm h3 (jX (yz s i))
theorem Mat.YS (M : Mat n B) {s t : Nat} (ht : t < 2 ^ n) (h : sub s (cl n B t)) : sub (cl n B s) (cl n B t) := by
  have := M.JJ (Vq (n := n) (B := B) t) h; rwa [M.zap ht] at this
/-- A least dependent set. -/
def Jr (n : Nat) (B : List Nat) (c : Nat) : Prop := c < 2 ^ n ∧ ¬ ind B c ∧ ∀ e, c.testBit e = true → ind B (del c e)
theorem QZ {d : Nat} (hd : d < 2 ^ n) (hn : n ≤ 8) (h : ¬ ind B d) : ∃ c, Jr n B c ∧ sub c d := by
  have key : ∀ k d, d < 2 ^ n → ¬ ind B d → cnt d = k → ∃ c, Jr n B c ∧ sub c d := by
    intro k
    induction k using Nat.strongRecOn with
    | _ k ih =>
      intro d hd h hk
      by_cases hh : ∀ e, d.testBit e = true → ind B (del d e)
      · exact ⟨d, ⟨hd, h, hh⟩, yW d⟩
      · obtain ⟨e, he⟩ := Classical.not_forall.1 hh
        obtain ⟨he, hne⟩ := Classical.not_imp.1 he
        have := yt (jV (n := 8) (yR hn hd) he) he
        obtain ⟨c, hc, hs⟩ := ih _ (by omega) (del d e) (qJ (yb d e) hd) hne rfl
        exact ⟨c, hc, jm hs (yb d e)⟩
  exact key _ d hd h rfl
theorem Mat.JL (M : Mat n B) {c e : Nat} (hc : Jr n B c) (he : c.testBit e = true) : (cl n B (del c e)).testBit e = true := by
  refine vR.2 ⟨jV hc.1 he, ?_⟩
  rw [JE he]
  have hc8 := yR M.size hc.1
  have h1 := (vm M.ne (qJ (n := 8) (yb c e) hc8)).1 (hc.2.2 e he)
  have h2 := yt (jV (n := 8) hc8 he) he
  have h3 : rk B c ≠ cnt c := fun h => hc.2.1 ((vm M.ne hc8).2 h)
  have h4 : rk B (del c e) ≤ rk B c := jX (yb c e)
  have h5 : rk B c ≤ cnt c := Qu c
  omega
theorem Mat.Jz (M : Mat n B) {y e : Nat} (hy : y < 2 ^ n) (hye : y.testBit e = false) (he : (cl n B y).testBit e = true) : ∃ c, Jr n B c ∧ c.testBit e = true ∧ sub c (ins y e) := by
  obtain ⟨h1, h2⟩ := vR.1 he
  have hy8 := yR M.size hy
  obtain ⟨I, hI, _, hIs, hIc⟩ := M.yx hy8 (ZV M.ne) (fun i hi => by rw [jF] at hi; cases hi)
  have hIe : I.testBit e = false := by
    cases h : I.testBit e
    · rfl
    · rw [hIs e h] at hye; cases hye
  have hIlt : I < 2 ^ n := qJ hIs hy
  have hlt := Zo hIlt h1
  have hdep : ¬ ind B (ins I e) := fun h => by
    have h3 := (vm M.ne (yR M.size hlt)).1 h
    have h4 : rk B (ins I e) ≤ rk B (ins y e) := jX (y7 e hIs)
    have h5 := yv (Nat.lt_of_lt_of_le h1 M.size) hIe
    omega
  obtain ⟨c, hc, hs⟩ := QZ hlt M.size hdep
  refine ⟨c, hc, ?_, jm hs (y7 e hIs)⟩
  cases hce : c.testBit e
  · refine absurd (vB (fun j hj => ?_) hI) hc.2.1
    have := hs j hj
    rw [qp] at this
    rcases Bool.or_eq_true_iff.1 this with h | h
    · exact h
    · rw [← of_decide_eq_true h, hce] at hj; cases hj
  · rfl
/-- Two circuits with f in common, and e in the first alone: there is one with e, without f, in both. -/
theorem Mat.elim (M : Mat n B) {c d e f : Nat} (hc : Jr n B c) (hd : Jr n B d) (_ : c.testBit f = true) (hfd : d.testBit f = true) (hec : c.testBit e = true) (hed : d.testBit e = false) :
    ∃ x, Jr n B x ∧ x.testBit e = true ∧ sub x (del (c ||| d) f) := by
  have hef : f ≠ e := fun h => by subst h; rw [hfd] at hed; cases hed
  have hcd : c ||| d < 2 ^ n := Nat.or_lt_two_pow hc.1 hd.1
  have hX : del (c ||| d) f < 2 ^ n := qJ (yb _ _) hcd
  have hY : del (del (c ||| d) f) e < 2 ^ n := qJ (yb _ _) hX
  -- f is in the closure of Y, so all of c is
  have h1 : (cl n B (del (del (c ||| d) f) e)).testBit f = true := by
    refine M.JJ hY (fun i hi => ?_) f (M.JL hd hfd)
    rw [qO] at hi; simp at hi
    have : e ≠ i := fun h => by subst h; rw [hed] at hi; exact absurd hi.1 (by simp)
    rw [qO, qO, j4, hi.1]; simp [hi.2, this]
  have h2 : sub (del c e) (cl n B (del (del (c ||| d) f) e)) := fun i hi => by
    rw [qO] at hi; simp at hi
    by_cases hif : f = i
    · subst hif; exact h1
    · exact QQ hY i (by rw [qO, qO, j4, hi.1]; simp [hif, hi.2])
  have h3 : (cl n B (del (del (c ||| d) f) e)).testBit e = true := M.YS hY h2 e (M.JL hc hec)
  obtain ⟨x, hx, hxe, hxs⟩ := M.Jz hY (by simp [qO]) h3
  refine ⟨x, hx, hxe, jm hxs ?_⟩
  rw [JE (by rw [qO, j4, hec]; simp [hef])]
  exact yW _
theorem Mat.congr {B' : List Nat} (M : Mat n B) (h : ∀ x, x ∈ B' ↔ x ∈ B) : Mat n B' where
  size := M.size
  lt := fun b hb => M.lt b ((h b).1 hb)
  ne := fun he => by
    obtain ⟨c, hc⟩ := List.exists_mem_of_ne_nil B M.ne
    have := (h c).2 hc; rw [he] at this; cases this
  ex := fun a ha b hb e hea heb => by
    obtain ⟨f, h1, h2, h3⟩ := M.ex a ((h a).1 ha) b ((h b).1 hb) e hea heb
    exact ⟨f, h1, h2, (h _).2 h3⟩
end
end Go.Proofs.Ytopkfhnnapncgaa.Mt
end
section
namespace Go.Proofs.Ytopkfhnnapncgaa.Mt
set_option linter.unusedVariables false
section
variable {n : Nat} {B : List Nat}
end
end Go.Proofs.Ytopkfhnnapncgaa.Mt
end
section
namespace Go.Proofs.Ytopkfhnnapncgaa.Mt
set_option linter.unusedVariables false
def qU (p : Int) : Prop := p = 2 ∨ p = 3 ∨ p = 5 ∨ p = 7
theorem qU.pos {p : Int} (h : qU p) : 2 ≤ p ∧ p ≤ 7 := by unfold qU at h; omega
theorem Yb : ∀ p ∈ [2, 3, 5, 7], ∀ a ∈ List.range 7, ∀ b ∈ List.range 7, (a * b) % p = 0 → a % p = 0 ∨ b % p = 0 := by decide
theorem Yg : ∀ p ∈ [2, 3, 5, 7], ∀ a ∈ List.range 7, a % p ≠ 0 → ∃ b ∈ List.range 7, (a * b) % p = 1 := by decide
theorem qU.nat {p : Int} (h : qU p) : ∃ q : Nat, p = (q : Int) ∧ q ∈ [2, 3, 5, 7] := by
  rcases h with rfl | rfl | rfl | rfl
  · exact ⟨2, rfl, by decide⟩
  · exact ⟨3, rfl, by decide⟩
  · exact ⟨5, rfl, by decide⟩
  · exact ⟨7, rfl, by decide⟩
theorem qU.res {p : Int} (h : qU p) (x : Int) : ∃ a : Nat, a ∈ List.range 7 ∧ x % p = (a : Int) ∧ a % p.toNat = a := by
  have hp := h.pos
  have h0 := Int.emod_nonneg x (show p ≠ 0 by omega)
  have h1 := Int.emod_lt_of_pos x (show 0 < p by omega)
  refine ⟨(x % p).toNat, by simp; omega, by omega, Nat.mod_eq_of_lt (by omega)⟩
theorem qU.Qm {p : Int} (h : qU p) {x y : Int} (hxy : p ∣ x * y) : p ∣ x ∨ p ∣ y := by
  obtain ⟨q, rfl, hq⟩ := h.nat
  obtain ⟨a, ha, hxa, _⟩ := h.res x
  obtain ⟨b, hb, hyb, _⟩ := h.res y
  have h1 := Int.emod_eq_zero_of_dvd hxy
  rw [Int.mul_emod, hxa, hyb] at h1
  have h2 : (a * b) % q = 0 := by
    have : ((a * b % q : Nat) : Int) = 0 := by rw [Int.natCast_emod, Int.natCast_mul]; exact h1
    omega
  have key : ∀ {z : Int} {c : Nat}, z % (q : Int) = (c : Int) → c % q = 0 → (q : Int) ∣ z := fun {z c} hz hc => by
    apply Int.dvd_of_emod_eq_zero
    have h3 : (z % (q : Int)) % (q : Int) = z % (q : Int) := Int.emod_emod _ _
    rw [hz] at h3
    have : ((c % q : Nat) : Int) = (c : Int) := by rw [Int.natCast_emod]; exact h3
    rw [hz, ← this, hc]; rfl
  rcases Yb q hq a ha b hb h2 with h3 | h3
  · exact .inl (key hxa h3)
  · exact .inr (key hyb h3)
theorem qU.inv {p : Int} (h : qU p) {x : Int} (hx : ¬ p ∣ x) : ∃ y : Int, p ∣ x * y - 1 := by
  obtain ⟨q, rfl, hq⟩ := h.nat
  obtain ⟨a, ha, hxa, hm⟩ := h.res x
  have h1 : a % q ≠ 0 := fun h0 => hx (by
    apply Int.dvd_of_emod_eq_zero
    rw [Int.toNat_natCast] at hm
    rw [hxa, ← hm, h0]; rfl)
  obtain ⟨b, _, hb⟩ := Yg q hq a ha h1
  refine ⟨(b : Int), ?_⟩
  have h2 : (x * (b : Int)) % (q : Int) = 1 := by
    rw [Int.mul_emod, hxa]
    have : (((a * b) % q : Nat) : Int) = 1 := by rw [hb]; rfl
    rw [Int.natCast_emod, Int.natCast_mul, Int.mul_emod] at this
    have hqq : (a : Int) % (q : Int) = (a : Int) := by
      have : ((a % q : Nat) : Int) = (a : Int) := by rw [Int.toNat_natCast] at hm; rw [hm]
      rwa [Int.natCast_emod] at this
    rw [hqq] at this; exact this
  have h3 := Int.emod_add_mul_ediv (x * (b : Int)) (q : Int)
  rw [h2] at h3
  exact ⟨x * (b : Int) / (q : Int), by omega⟩

def dot (n : Nat) (u v : Nat → Int) : Int := ((List.range n).map fun j => u j * v j).sum
theorem ZA {α : Type} (f g : α → Int) : ∀ l : List α, (l.map fun j => f j + g j).sum = (l.map f).sum + (l.map g).sum
  | [] => rfl
  | a :: l => by simp only [List.map_cons, List.sum_cons, ZA f g l]; omega
theorem yo {α : Type} (c : Int) (f : α → Int) : ∀ l : List α, (l.map fun j => c * f j).sum = c * (l.map f).sum
  | [] => by simp
  | a :: l => by simp only [List.map_cons, List.sum_cons, yo c f l, Int.mul_add]
theorem vn (n : Nat) (u v w : Nat → Int) (c : Int) : dot n u (fun j => v j + c * w j) = dot n u v + c * dot n u w := by
  unfold dot
  rw [← yo, ← ZA]
  congr 1
  apply List.map_congr_left
  intro j _
  rw [Int.mul_add, ← Int.mul_assoc, Int.mul_comm (u j) c, Int.mul_assoc]
theorem vo (n : Nat) (u v : Nat → Int) : dot n u v = dot n v u := by
  unfold dot; congr 1; apply List.map_congr_left; intro j _; exact Int.mul_comm _ _
theorem Zb (n : Nat) (u v w : Nat → Int) (c : Int) : dot n (fun j => v j + c * w j) u = dot n v u + c * dot n w u := by
  rw [vo, vn, vo n u v, vo n u w]
theorem Zj {p : Int} {α : Type} (f : α → Int) : ∀ l : List α, (∀ j ∈ l, p ∣ f j) → p ∣ (l.map f).sum
  | [], _ => by simp
  | a :: l, h => by
    simp only [List.map_cons, List.sum_cons]
    exact Int.dvd_add (h a (by simp)) (Zj f l fun j hj => h j (by simp [hj]))
/-- A sum of which all but one place vanish. -/
theorem QM {p : Int} (f : Nat → Int) (k : Nat) : ∀ (l : List Nat), l.Nodup → k ∈ l → (∀ j ∈ l, j ≠ k → p ∣ f j) → p ∣ (l.map f).sum - f k
  | [], _, hk, _ => by cases hk
  | a :: l, hn, hk, h => by
    rw [List.nodup_cons] at hn
    simp only [List.map_cons, List.sum_cons]
    by_cases hak : a = k
    · subst hak
      have := Zj (p := p) f l fun j hj => h j (by simp [hj]) fun e => hn.1 (e ▸ hj)
      rwa [show f a + (l.map f).sum - f a = (l.map f).sum by omega]
    · have hkl : k ∈ l := by rcases List.mem_cons.1 hk with h' | h'
                             · exact absurd h'.symm hak
                             · exact h'
      have h1 := QM f k l hn.2 hkl fun j hj => h j (by simp [hj])
      have h2 := h a (by simp) hak
      rw [show f a + (l.map f).sum - f k = f a + ((l.map f).sum - f k) by omega]
      exact Int.dvd_add h2 h1
theorem QL {p : Int} {n k : Nat} (hk : k < n) (u v : Nat → Int) (h : ∀ j, j < n → j ≠ k → p ∣ u j * v j) : p ∣ dot n u v - u k * v k :=
  QM (fun j => u j * v j) k (List.range n) List.nodup_range (List.mem_range.2 hk) fun j hj hjk => h j (List.mem_range.1 hj) hjk
/-- Only the places below n count, and only modulo p. -/
theorem JO {p : Int} {n : Nat} {u v w : Nat → Int} (h : ∀ j, j < n → p ∣ v j - w j) : p ∣ dot n u v - dot n u w := by
  have := Zj (p := p) (fun j => u j * (v j - w j)) (List.range n) fun j hj => Int.dvd_mul_of_dvd_right (h j (List.mem_range.1 hj))
  have h2 : dot n u v - dot n u w = ((List.range n).map fun j => u j * (v j - w j)).sum := by
    have h3 := vn n u v w (-1)
    have h4 : (fun j => u j * (v j - w j)) = fun j => u j * (v j + (-1) * w j) := funext fun j => by congr 1; omega
    rw [h4]; show _ = dot n u (fun j => v j + (-1) * w j); rw [h3]; omega
  rw [h2]; exact this

/-- Vectors of n places modulo p that are closed under sums and multiples. -/
structure Sp (p : Int) (n : Nat) (K : (Nat → Int) → Prop) : Prop where
  fld : qU p
  size : n ≤ 8
  zero : K fun _ => 0
  add : ∀ v w c, K v → K w → K fun j => v j + c * w j
  mod : ∀ v w, (∀ j, j < n → p ∣ v j - w j) → K v → K w
/-- Nothing but zero outside of s. -/
def J9 (p : Int) (n : Nat) (v : Nat → Int) (s : Nat) : Prop := ∀ j, j < n → s.testBit j = false → p ∣ v j
/-- No vector of K but zero has all that it has in s. -/
def li (p : Int) (n : Nat) (K : (Nat → Int) → Prop) (s : Nat) : Prop := ∀ v, K v → J9 p n v s → ∀ j, j < n → p ∣ v j
theorem VF {p : Int} {n : Nat} {K : (Nat → Int) → Prop} {s t : Nat} (h : sub s t) (k : li p n K t) : li p n K s := fun v hv hs => k v hv fun j hj ht => hs j hj (by
  cases hb : s.testBit j
  · rfl
  · rw [h j hb] at ht; cases ht)
section
variable {p : Int} {n : Nat} {K : (Nat → Int) → Prop}
theorem Sp.smul (S : Sp p n K) {v : Nat → Int} (hv : K v) (c : Int) : K fun j => c * v j := by
  have := S.add _ _ c S.zero hv; exact S.mod _ _ (fun j _ => by show p ∣ 0 + c * v j - c * v j; rw [show 0 + c * v j - c * v j = 0 by omega]; exact Int.dvd_zero p) this
/-- What makes s dependent by e: a vector with 1 at e, and else within s. -/
theorem Sp.vec (S : Sp p n K) {s e : Nat} (he : e < n) (hs : li p n K s) (h : ¬ li p n K (ins s e)) : ∃ v, K v ∧ J9 p n v (ins s e) ∧ p ∣ v e - 1 := by
  obtain ⟨v, hv⟩ := Classical.not_forall.1 h
  obtain ⟨hK, hv2⟩ := Classical.not_imp.1 hv
  obtain ⟨hsup, hv3⟩ := Classical.not_imp.1 hv2
  obtain ⟨j, hj⟩ := Classical.not_forall.1 hv3
  obtain ⟨hjn, hjp⟩ := Classical.not_imp.1 hj
  have hve : ¬ p ∣ v e := fun h0 => hjp (hs v hK (fun i hi hsi => by
    by_cases hie : e = i
    · rw [← hie]; exact h0
    · exact hsup i hi (by rw [qp, hsi]; simp [hie])) j hjn)
  obtain ⟨y, hy⟩ := S.fld.inv hve
  refine ⟨fun j => y * v j, S.smul hK y, fun j hj hb => Int.dvd_mul_of_dvd_right (hsup j hj hb), ?_⟩
  show p ∣ y * v e - 1
  rw [Int.mul_comm]; exact hy
theorem Sp.QD (S : Sp p n K) {s e : Nat} {v : Nat → Int} (he : e < n) (hv : K v) (hs : J9 p n v s) (h1 : ¬ p ∣ v e) : ¬ li p n K s := fun h => h1 (h v hv hs e he)
/-- A greatest independent set. -/
def ZE (p : Int) (n : Nat) (K : (Nat → Int) → Prop) (s : Nat) : Prop := s < 2 ^ n ∧ li p n K s ∧ ∀ e, e < n → s.testBit e = false → ¬ li p n K (ins s e)
theorem Sp.y9 (S : Sp p n K) {s : Nat} (hs : s < 2 ^ n) (h : li p n K s) : ∃ t, ZE p n K t ∧ sub s t := by
  have key : ∀ k s, s < 2 ^ n → li p n K s → n - cnt s = k → ∃ t, ZE p n K t ∧ sub s t := by
    intro k
    induction k using Nat.strongRecOn with
    | _ k ih =>
      intro s hs h hk
      by_cases hh : ∀ e, e < n → s.testBit e = false → ¬ li p n K (ins s e)
      · exact ⟨s, ⟨hs, h, hh⟩, yW s⟩
      · obtain ⟨e, he⟩ := Classical.not_forall.1 hh
        obtain ⟨he, he2⟩ := Classical.not_imp.1 he
        obtain ⟨hes, hli⟩ := Classical.not_imp.1 he2
        have hli := Classical.not_not.1 hli
        have h1 := yv (Nat.lt_of_lt_of_le he S.size) hes
        have h2 := vD (Vl (Zo hs he))
        rw [V1 S.size] at h2
        obtain ⟨t, ht, hst⟩ := ih _ (by omega) (ins s e) (Zo hs he) hli rfl
        exact ⟨t, ht, jm (yz s e) hst⟩
  exact key _ s hs h rfl
theorem V9 : li p n K 0 := fun v _ hs j hj => hs j hj (jF j)
/-- A vector is what its places outside of a greatest independent set make it. -/
theorem Sp.expand (S : Sp p n K) {a : Nat} (ha : ZE p n K a) (V : Nat → Nat → Int) (hV : ∀ x, x < n → a.testBit x = false → K (V x) ∧ J9 p n (V x) (ins a x) ∧ p ∣ V x x - 1) {u : Nat → Int} (hu : K u) :
    ∀ e, e < n → p ∣ u e - ((List.range n).map fun x => if a.testBit x then 0 else u x * V x e).sum := by
  -- take off, place by place
  have key : ∀ (l : List Nat), l.Nodup → (∀ x ∈ l, x < n) → K (fun e => u e - (l.map fun x => if a.testBit x then 0 else u x * V x e).sum) := by
    intro l
    induction l with
    | nil => intro _ _; exact S.mod _ _ (fun j _ => by simp) hu
    | cons x l ih =>
      intro hn hl
      rw [List.nodup_cons] at hn
      have h1 := ih hn.2 fun y hy => hl y (by simp [hy])
      cases hx : a.testBit x
      · refine S.mod _ _ (fun j _ => ?_) (S.add _ _ (-(u x)) h1 (hV x (hl x (by simp)) hx).1)
        simp only [List.map_cons, List.sum_cons, hx, Bool.false_eq_true, if_false]
        rw [show ∀ a b c : Int, a - b + -(u x) * c - (a - (u x * c + b)) = 0 from by intro a b c; rw [Int.neg_mul]; omega]
        exact Int.dvd_zero p
      · refine S.mod _ _ (fun j _ => ?_) h1
        simp only [List.map_cons, List.sum_cons, hx, if_true]
        rw [show ∀ a b : Int, a - b - (a - (0 + b)) = 0 from by intro a b; omega]
        exact Int.dvd_zero p
  have h1 := key (List.range n) List.nodup_range fun x hx => List.mem_range.1 hx
  refine ha.2.1 _ h1 fun j hj hja => ?_
  -- outside of a only its own place counts
  have h2 := QM (p := p) (fun x => if a.testBit x then 0 else u x * V x j) j (List.range n) List.nodup_range (List.mem_range.2 hj) fun x hx hxj => by
    show p ∣ if a.testBit x then 0 else u x * V x j
    cases hxa : a.testBit x
    · simp only [Bool.false_eq_true, if_false]
      refine Int.dvd_mul_of_dvd_right ((hV x (List.mem_range.1 hx) hxa).2.1 j hj ?_)
      rw [qp, hja]; simp [hxj]
    · simp
  simp only [hja, Bool.false_eq_true, if_false] at h2
  have h3 := Int.dvd_mul_of_dvd_right (b := u j) (hV j hj hja).2.2
  have h4 := Int.dvd_add h2 h3
  rw [show ∀ s m c : Int, s - c * m + c * (m - 1) = -(c - s) from by intro s m c; rw [Int.mul_sub]; omega] at h4
  exact (Int.dvd_neg).1 h4
/-- Exchange, for greatest independent sets. -/
theorem Sp.ex (S : Sp p n K) {a b e : Nat} (ha : ZE p n K a) (hb : ZE p n K b) (hea : a.testBit e = true) (heb : b.testBit e = false) :
    ∃ f, b.testBit f = true ∧ a.testBit f = false ∧ ZE p n K (ins (del a e) f) := by
  have he := jV ha.1 hea
  -- for each place outside of a its vector
  have hV : ∀ x, ∃ v, (x < n → a.testBit x = false → K v ∧ J9 p n v (ins a x) ∧ p ∣ v x - 1) := fun x => by
    by_cases hx : x < n ∧ a.testBit x = false
    · obtain ⟨v, h⟩ := S.vec hx.1 ha.2.1 (ha.2.2 x hx.1 hx.2); exact ⟨v, fun _ _ => h⟩
    · exact ⟨fun _ => 0, fun h1 h2 => absurd ⟨h1, h2⟩ hx⟩
  let V : Nat → Nat → Int := fun x => Classical.choose (hV x)
  have hV' : ∀ x, x < n → a.testBit x = false → K (V x) ∧ J9 p n (V x) (ins a x) ∧ p ∣ V x x - 1 := fun x => Classical.choose_spec (hV x)
  obtain ⟨u, hu, hus, hue⟩ := S.vec he hb.2.1 (hb.2.2 e he heb)
  have hex := S.expand ha V hV' hu e he
  -- some place of b has e in its vector
  have hf : ∃ f, f < n ∧ b.testBit f = true ∧ a.testBit f = false ∧ ¬ p ∣ V f e := by
    apply Classical.byContradiction
    intro hn
    have h1 : p ∣ ((List.range n).map fun x => if a.testBit x then 0 else u x * V x e).sum := Zj _ _ fun x hx => by
      cases hxa : a.testBit x
      · simp only [Bool.false_eq_true, if_false]
        by_cases hxb : b.testBit x = true
        · refine Int.dvd_mul_of_dvd_right ?_
          exact Classical.byContradiction fun h => hn ⟨x, List.mem_range.1 hx, hxb, hxa, h⟩
        · refine Int.dvd_mul_of_dvd_left (hus x (List.mem_range.1 hx) ?_)
          have hxe : e ≠ x := fun h => by subst h; rw [hea] at hxa; cases hxa
          rw [qp]; simp [hxb, hxe]
      · simp
    have h2 := Int.dvd_add hex h1
    rw [show ∀ a b : Int, a - b + b = a from by intros; omega] at h2
    have h3 := Int.dvd_sub h2 hue
    rw [show ∀ a : Int, a - (a - 1) = 1 from by intros; omega] at h3
    have := S.fld.pos
    have := Int.le_of_dvd (by decide) h3
    omega
  obtain ⟨f, hfn, hfb, hfa, hVe⟩ := hf
  obtain ⟨hVK, hVs, hV1⟩ := hV' f hfn hfa
  have hfe : f ≠ e := fun h => by subst h; rw [hea] at hfa; cases hfa
  have hsub : ∀ i, (ins (del a e) f).testBit i = false → i ≠ e → (ins a f).testBit i = false := fun i hi hie => by
    rw [qp, qO] at hi; rw [qp]
    have := Bool.or_eq_false_iff.1 hi
    simp only [Ne.symm hie, decide_false, Bool.not_false, Bool.and_true] at this
    rw [this.1, this.2]; rfl
  refine ⟨f, hfb, hfa, Zo (qJ (yb a e) ha.1) hfn, fun w hw hws => ?_, fun g hg hgs => ?_⟩
  · -- w less w_f times the vector of f lies within a
    have h1 := S.add w (V f) (-(w f)) hw hVK
    have h2 := ha.2.1 _ h1 fun j hj hja => by
      show p ∣ w j + -(w f) * V f j
      by_cases hjf : j = f
      · subst hjf
        have := Int.dvd_mul_of_dvd_right (b := -(w j)) hV1
        rw [show ∀ x y : Int, -x * (y - 1) = x + -x * y from by intro x y; rw [Int.mul_sub]; omega] at this
        exact this
      · have hje : j ≠ e := fun h => by subst h; rw [hea] at hja; cases hja
        refine Int.dvd_add (hws j hj ?_) (Int.dvd_mul_of_dvd_right (hVs j hj ?_))
        · rw [qp, qO, hja]; simp [Ne.symm hjf]
        · rw [qp, hja]; simp [Ne.symm hjf]
    have h3 : p ∣ w f := by
      have h4 := h2 e he
      have h5 : p ∣ w e := hws e he (by rw [qp, qO]; simp [hfe])
      have h6 := Int.dvd_sub h4 h5
      rw [show ∀ x y z : Int, x + -y * z - x = -(y * z) from by intro x y z; rw [Int.neg_mul]; omega] at h6
      rcases S.fld.Qm ((Int.dvd_neg).1 h6) with h | h
      · exact h
      · exact absurd h hVe
    intro j hj
    have h4 := h2 j hj
    have h5 := Int.dvd_mul_of_dvd_left (c := V f j) ((Int.dvd_neg).2 h3)
    have h6 := Int.dvd_sub h4 h5
    rwa [show ∀ x y : Int, x + y - y = x from by intros; omega] at h6
  · by_cases hge : g = e
    · subst hge
      refine fun h => ha.2.2 f hfn hfa (VF (fun i hi => ?_) h)
      rw [qp] at hi
      rw [qp, qp, qO]
      rcases Bool.or_eq_true_iff.1 hi with hi | hi
      · rw [hi]; cases decide (g = i) <;> simp
      · rw [hi]; simp
    · have hga : a.testBit g = false := by
        rw [qp, qO] at hgs
        have := (Bool.or_eq_false_iff.1 hgs).1
        simpa [Ne.symm hge] using this
      have hgf : f ≠ g := fun h => by subst h; rw [JS] at hgs; cases hgs
      obtain ⟨hGK, hGs, hG1⟩ := hV' g hg hga
      obtain ⟨y, hy⟩ := S.fld.inv hVe
      refine S.QD (v := fun j => V g j + -(V g e * y) * V f j) hg (S.add _ _ _ hGK hVK) (fun j hj hjs => ?_) fun h => ?_
      · show p ∣ V g j + -(V g e * y) * V f j
        by_cases hje : j = e
        · subst hje
          have := Int.dvd_mul_of_dvd_right (b := -(V g j)) hy
          rw [show ∀ x y z : Int, -x * (z * y - 1) = x + -(x * y) * z from by intro x y z; rw [Int.mul_sub, Int.neg_mul, Int.neg_mul, Int.neg_mul, Int.mul_assoc x y z, Int.mul_comm z y]; omega] at this
          exact this
        · have hj1 : (ins (del a e) f).testBit j = false := by
            rw [qp] at hjs; exact (Bool.or_eq_false_iff.1 hjs).1
          have hj2 : decide (g = j) = false := by rw [qp] at hjs; exact (Bool.or_eq_false_iff.1 hjs).2
          have hj3 := hsub j hj1 hje
          refine Int.dvd_add (hGs j hj ?_) (Int.dvd_mul_of_dvd_right (hVs j hj hj3))
          rw [qp] at hj3 ⊢
          rw [(Bool.or_eq_false_iff.1 hj3).1, hj2]; rfl
      · have h1 : p ∣ V g g + -(V g e * y) * V f g := h
        have h2 : p ∣ V f g := hVs g hg (by rw [qp, hga]; simp [hgf])
        have h3 := Int.dvd_sub h1 (Int.dvd_mul_of_dvd_right (b := -(V g e * y)) h2)
        rw [show ∀ x y : Int, x + y - y = x from by intros; omega] at h3
        have h4 := Int.dvd_sub h3 hG1
        rw [show ∀ a : Int, a - (a - 1) = 1 from by intros; omega] at h4
        have := S.fld.pos
        have := Int.le_of_dvd (by decide) h4
        omega
/-- The bases of a space: its greatest independent sets, in order. -/
noncomputable def linB (p : Int) (n : Nat) (K : (Nat → Int) → Prop) : List Nat := (List.range (2 ^ n)).filter fun s => @decide _ (Classical.propDecidable (ZE p n K s))
theorem vA {s : Nat} : s ∈ linB p n K ↔ ZE p n K s := by
  unfold linB; rw [List.mem_filter, List.mem_range]; simp only [decide_eq_true_eq]
  exact ⟨fun h => h.2, fun h => ⟨h.1, h⟩⟩
theorem Sp.mat (S : Sp p n K) : Mat n (linB p n K) where
  size := S.size
  lt := fun b hb => (vA.1 hb).1
  ne := fun h => by
    obtain ⟨t, ht, _⟩ := S.y9 (s := 0) (Nat.two_pow_pos n) V9
    have := vA.2 ht; rw [h] at this; cases this
  ex := fun a ha b hb e hea heb => by
    obtain ⟨f, h1, h2, h3⟩ := S.ex (vA.1 ha) (vA.1 hb) hea heb
    exact ⟨f, h1, h2, vA.2 h3⟩
theorem Sp.vm (S : Sp p n K) {s : Nat} (hs : s < 2 ^ n) : ind (linB p n K) s ↔ li p n K s := by
  constructor
  · rintro ⟨b, hb, h⟩; exact VF h (vA.1 hb).2.1
  · intro h
    obtain ⟨t, ht, hst⟩ := S.y9 hs h
    exact ⟨t, vA.2 ht, hst⟩
/-- The rank of s: the size of any part of it that is independent and gives all of it. -/
theorem Sp.rk (S : Sp p n K) {s q : Nat} (hs : s < 2 ^ n) (hq : sub q s) (h : li p n K q) (hall : ∀ e, s.testBit e = true → q.testBit e = false → ¬ li p n K (ins q e)) : rk (linB p n K) s = cnt q := by
  have hq2 : q < 2 ^ n := qJ hq hs
  obtain ⟨J, hJ, hqJ, hJs, hJc⟩ := S.mat.yx (yR S.size hs) ((S.vm hq2).2 h) hq
  rw [← hJc]
  have : J = q := yS (fun i hi => by
    cases hqi : q.testBit i
    · exact absurd ((S.vm (Zo hq2 (jV hs (hJs i hi)))).1 (vB (yf hqJ hi) hJ)) (hall i (hJs i hi) hqi)
    · rfl) hqJ
  rw [this]

structure Ann (p : Int) (n : Nat) (K K' : (Nat → Int) → Prop) : Prop where
  sp : Sp p n K
  sp' : Sp p n K'
  orth : ∀ v u, K v → K' u → p ∣ dot n u v
  all' : ∀ u, (∀ v, K v → p ∣ dot n u v) → K' u
  all : ∀ v, (∀ u, K' u → p ∣ dot n u v) → K v
theorem Ann.swap {K' : (Nat → Int) → Prop} (A : Ann p n K K') : Ann p n K' K where
  sp := A.sp'
  sp' := A.sp
  orth := fun v u hv hu => by rw [vo]; exact A.orth u v hu hv
  all' := fun u h => A.all u fun v hv => by rw [vo]; exact h v hv
  all := fun v h => A.all' v fun u hu => by rw [vo]; exact h u hu
end
end Go.Proofs.Ytopkfhnnapncgaa.Mt
end
section
namespace Go.Proofs.Ytopkfhnnapncgaa.Mt
set_option linter.unusedVariables false
section
variable {n : Nat} {B : List Nat}
end

end Go.Proofs.Ytopkfhnnapncgaa.Mt
end
section
namespace Go.Proofs.Ytopkfhnnapncgaa.Mt
set_option linter.unusedVariables false
/-- The vectors that R rows send to zero. -/
def Ker (p : Int) (n R : Nat) (a : Nat → Nat → Int) (v : Nat → Int) : Prop := ∀ i, i < R → p ∣ dot n (a i) v
theorem VJ {p : Int} {n R : Nat} (hp : qU p) (hn : n ≤ 8) (a : Nat → Nat → Int) : Sp p n (Ker p n R a) where
  fld := hp
  size := hn
  zero := fun i _ => Zj _ _ fun j _ => by simp
  add := fun v w c hv hw i hi => by rw [vn]; exact Int.dvd_add (hv i hi) (Int.dvd_mul_of_dvd_right (hw i hi))
  mod := fun v w h hv i hi => by
    have h1 := JO (u := a i) h
    have h2 := Int.dvd_sub (hv i hi) h1
    rwa [show ∀ x y : Int, x - (x - y) = y from by intros; omega] at h2
theorem jn {n : Nat} {u u' v : Nat → Int} (h : ∀ j, j < n → u j = u' j) : dot n u v = dot n u' v := by
  unfold dot; congr 1; apply List.map_congr_left; intro j hj; rw [h j (List.mem_range.1 hj)]
theorem y6 {p : Int} {n : Nat} {u u' v : Nat → Int} (h : ∀ j, j < n → p ∣ u j - u' j) : p ∣ dot n u v - dot n u' v := by
  rw [vo n u, vo n u']; exact JO h
theorem jW {p x y : Int} (h : p ∣ x - y) : p ∣ x ↔ p ∣ y := by
  constructor
  · intro hx; have := Int.dvd_sub hx h; rwa [show x - (x - y) = y by omega] at this
  · intro hy; have := Int.dvd_add hy h; rwa [show y + (x - y) = x by omega] at this
/-- Rows that are made of one another, both ways, modulo p: row t is multiplied by f, and the others take y times themselves and g i times row t. -/
theorem VW {p : Int} {n R t : Nat} {a b : Nat → Nat → Int} (hp : qU p) (ht : t < R) (f : Int) (hf : ¬ p ∣ f) (y : Nat → Int) (hy : ∀ i, i < R → i ≠ t → ¬ p ∣ y i) (g : Nat → Int)
    (h1 : ∀ j, j < n → p ∣ b t j - f * a t j) (h2 : ∀ i, i < R → i ≠ t → ∀ j, j < n → p ∣ b i j - (y i * a i j + g i * a t j)) (v : Nat → Int) : Ker p n R a v ↔ Ker p n R b v := by
  have e1 : p ∣ dot n (b t) v - f * dot n (a t) v := by
    have h := y6 (v := v) h1
    have h3 := Zb n v (fun _ => 0) (a t) f
    have h4 : dot n (fun _ => (0 : Int)) v = 0 := by
      unfold dot
      have : (fun j => (0 : Int) * v j) = fun _ => 0 := funext fun j => by omega
      rw [this]
      induction List.range n with
      | nil => rfl
      | cons _ l ih => rw [List.map_cons, List.sum_cons, ih]; rfl
    rw [h4] at h3
    have h5 : dot n (fun j => f * a t j) v = f * dot n (a t) v := by
      have h6 : (fun j => f * a t j) = fun j => (0 : Int) + f * a t j := funext fun j => by omega
      rw [h6, h3]; omega
    rwa [h5] at h
  have e2 : ∀ i, i < R → i ≠ t → p ∣ dot n (b i) v - (y i * dot n (a i) v + g i * dot n (a t) v) := fun i hi hit => by
    have h := y6 (v := v) (h2 i hi hit)
    have h3 := Zb n v (fun j => y i * a i j) (a t) (g i)
    have h5 : dot n (fun j => y i * a i j) v = y i * dot n (a i) v := by
      unfold dot
      rw [← yo]; congr 1; apply List.map_congr_left; intro j _; rw [Int.mul_assoc]
    rw [h3, h5] at h; exact h
  constructor
  · intro hK i hi
    by_cases hit : i = t
    · subst hit; exact (jW e1).2 (Int.dvd_mul_of_dvd_right (hK i hi))
    · exact (jW (e2 i hi hit)).2 (Int.dvd_add (Int.dvd_mul_of_dvd_right (hK i hi)) (Int.dvd_mul_of_dvd_right (hK t ht)))
  · intro hK
    have ha : p ∣ dot n (a t) v := by
      rcases hp.Qm ((jW e1).1 (hK t ht)) with h | h
      · exact absurd h hf
      · exact h
    intro i hi
    by_cases hit : i = t
    · subst hit; exact ha
    · have h3 := (jW (e2 i hi hit)).1 (hK i hi)
      have h4 := Int.dvd_sub h3 (Int.dvd_mul_of_dvd_right (b := g i) ha)
      rw [show ∀ x y : Int, x + y - y = x from by intros; omega] at h4
      rcases hp.Qm h4 with h | h
      · exact absurd h (hy i hi hit)
      · exact h
/-- Two rows exchanged. -/
theorem V3 {p : Int} {n R t k : Nat} {a b : Nat → Nat → Int} (ht : t < R) (hk : k < R) (h1 : ∀ j, j < n → b t j = a k j) (h2 : ∀ j, j < n → b k j = a t j) (h3 : ∀ i, i < R → i ≠ t → i ≠ k → ∀ j, j < n → b i j = a i j) (v : Nat → Int) : Ker p n R a v ↔ Ker p n R b v := by
  constructor
  · intro h i hi
    by_cases hit : i = t
    · subst hit; rw [jn h1]; exact h k hk
    · by_cases hik : i = k
      · subst hik; rw [jn h2]; exact h t ht
      · rw [jn (h3 i hi hit hik)]; exact h i hi
  · intro h i hi
    by_cases hit : i = t
    · subst hit; rw [← jn h2]; exact h k hk
    · by_cases hik : i = k
      · subst hik; rw [← jn h1]; exact h t ht
      · rw [← jn (h3 i hi hit hik)]; exact h i hi

/-- The set of some places. -/
def bitsOf (P : List Nat) : Nat := setOf 8 P.contains
theorem j9 (P : List Nat) (i : Nat) : (bitsOf P).testBit i = (decide (i < 8) && P.contains i) := Zs _ _ _
/-- Rows whose first t have a place each that is not zero there, and zero in all rows below; what is below the first t is zero at all places of s. -/
structure Steps (p : Int) (n R : Nat) (b : Nat → Nat → Int) (s : Nat) (P : List Nat) : Prop where
  len : P.length ≤ R
  nodup : P.Nodup
  mem : ∀ x ∈ P, x < n ∧ s.testBit x = true
  diag : ∀ k (hk : k < P.length), ¬ p ∣ b k P[k]
  below : ∀ k (hk : k < P.length), ∀ i, k < i → i < R → p ∣ b i P[k]
  zero : ∀ i, P.length ≤ i → i < R → ∀ c, c < n → s.testBit c = true → p ∣ b i c
section
variable {p : Int} {n R : Nat} {b : Nat → Nat → Int} {s : Nat} {P : List Nat}
theorem Steps.li (hp : qU p) (hn : n ≤ 8) (h : Steps p n R b s P) : li p n (Ker p n R b) (bitsOf P) := by
  intro v hv hs
  have out : ∀ j, j < n → j ∉ P → p ∣ v j := fun j hj hjP => hs j hj (by rw [j9]; simp [hjP])
  -- from the last place on downwards
  have key : ∀ m k (hk : k < P.length), k + m + 1 = P.length → p ∣ v P[k] := by
    intro m
    induction m using Nat.strongRecOn with
    | _ m ih =>
      intro k hk hm
      have h1 := hv k (Nat.lt_of_lt_of_le hk h.len)
      have hkn := (h.mem P[k] (List.getElem_mem hk)).1
      have h2 := QL (p := p) hkn (b k) v fun j hj hjk => by
        by_cases hjP : j ∈ P
        · obtain ⟨i, hi, rfl⟩ := List.getElem_of_mem hjP
          rcases Nat.lt_trichotomy i k with hik | hik | hik
          · exact Int.dvd_mul_of_dvd_left (h.below i hi k hik (Nat.lt_of_lt_of_le hk h.len))
          · subst hik; exact absurd rfl hjk
          · exact Int.dvd_mul_of_dvd_right (ih (P.length - i - 1) (by omega) i hi (by omega))
        · exact Int.dvd_mul_of_dvd_right (out j hj hjP)
      have h3 := (jW h2).1 h1
      rcases hp.Qm h3 with h4 | h4
      · exact absurd h4 (h.diag k hk)
      · exact h4
  intro j hj
  by_cases hjP : j ∈ P
  · obtain ⟨i, hi, rfl⟩ := List.getElem_of_mem hjP
    exact key (P.length - i - 1) i hi (by omega)
  · exact out j hj hjP
theorem Steps.QD (hp : qU p) (hn : n ≤ 8) (h : Steps p n R b s P) {e : Nat} (he : e < n) (hes : s.testBit e = true) (heP : e ∉ P) : ¬ Mt.li p n (Ker p n R b) (ins (bitsOf P) e) := by
  -- a vector with 1 at e that the rows from k on send to zero, k from the last row down
  have key : ∀ m, m ≤ P.length → ∃ v : Nat → Int, v e = 1 ∧ (∀ j, j < n → j ≠ e → (∀ i (hi : i < P.length), P.length - m ≤ i → P[i] ≠ j) → v j = 0) ∧ ∀ i, P.length - m ≤ i → i < R → p ∣ dot n (b i) v := by
    intro m
    induction m with
    | zero =>
      intro _
      refine ⟨fun j => if j = e then 1 else 0, if_pos rfl, fun j _ hje _ => if_neg hje, fun i hi hiR => ?_⟩
      have h2 := QL (p := p) he (b i) (fun j => if j = e then 1 else 0) fun j hj hje => by
        show p ∣ b i j * (if j = e then 1 else 0)
        rw [if_neg hje]; simp
      rw [jW h2]
      exact Int.dvd_mul_of_dvd_left (h.zero i (by omega) hiR e he hes)
    | succ m ih =>
      intro hm
      obtain ⟨v, hve, hv0, hvK⟩ := ih (by omega)
      have hk : P.length - (m + 1) < P.length := by omega
      obtain ⟨k, hkdef⟩ : ∃ k, k = P.length - (m + 1) := ⟨_, rfl⟩
      have hkP : k < P.length := by omega
      have hkn := (h.mem P[k] (List.getElem_mem hkP)).1
      have hke : P[k] ≠ e := fun hh => heP (hh ▸ List.getElem_mem hkP)
      obtain ⟨z, hz⟩ := hp.inv (h.diag k hkP)
      have hvk : v P[k] = 0 := hv0 P[k] hkn hke fun i hi hik hh => by
        have := (List.getElem_inj h.nodup).1 hh; omega
      -- the unit vector at that place
      let w : Nat → Int := fun j => if j = P[k] then 1 else 0
      have hw : ∀ i, dot n (b i) w = b i P[k] := fun i => by
        have h2 := QL (p := 0) hkn (b i) w fun j hj hjk => by
          show (0 : Int) ∣ b i j * (if j = P[k] then 1 else 0)
          rw [if_neg hjk]; simp
        have h3 := Int.zero_dvd.1 h2
        have h4 : w P[k] = 1 := if_pos rfl
        rw [h4] at h3; omega
      refine ⟨fun j => v j + -(z * dot n (b k) v) * w j, ?_, fun j hj hje hjP => ?_, fun i hi hiR => ?_⟩
      · show v e + _ * (if e = P[k] then 1 else 0) = 1
        rw [if_neg (Ne.symm hke), hve]; omega
      · show v j + _ * (if j = P[k] then 1 else 0) = 0
        rw [if_neg (fun hh => hjP k hkP (by omega) hh.symm), hv0 j hj hje fun i hi hik => hjP i hi (by omega)]; omega
      · rw [vn, hw]
        by_cases hik : i = k
        · subst hik
          have := Int.dvd_mul_of_dvd_right (b := -(dot n (b i) v)) hz
          rw [show ∀ d c z : Int, -d * (c * z - 1) = d + -(z * d) * c from by intro d c z; rw [Int.mul_sub, Int.neg_mul, Int.neg_mul, Int.neg_mul, Int.mul_comm z d, Int.mul_assoc, Int.mul_comm z c]; omega] at this
          exact this
        · exact Int.dvd_add (hvK i (by omega) hiR) (Int.dvd_mul_of_dvd_right (h.below k hkP i (by omega) hiR))
  obtain ⟨v, hve, hv0, hvK⟩ := key P.length (Nat.le_refl _)
  refine (VJ hp hn b).QD he (fun i hi => hvK i (by omega) hi) (fun j hj hjs => ?_) (by
    rw [hve]; intro hh; have := hp.pos; have := Int.le_of_dvd (by decide) hh; omega)
  rw [qp, j9] at hjs
  have h1 := Bool.or_eq_false_iff.1 hjs
  have h2 : j ∉ P := fun hh => by
    have := h1.1; simp [hh] at this; omega
  rw [hv0 j hj (fun hh => by rw [hh] at h1; simp at h1) fun i hi _ hh => h2 (hh ▸ List.getElem_mem hi)]
  exact Int.dvd_zero p
theorem Jn (hn : P.Nodup) (h8 : ∀ x ∈ P, x < 8) : cnt (bitsOf P) = P.length := by
  have h1 : cnt (bitsOf P) = (List.range 8).countP P.contains := by
    unfold cnt; refine List.countP_congr fun i hi => ?_
    rw [j9, decide_eq_true (List.mem_range.1 hi)]; simp
  rw [h1]
  have key : ∀ (l : List Nat), l.Nodup → (∀ x ∈ P, x ∈ l) → l.countP P.contains = P.length := by
    induction P with
    | nil =>
      intro l _ _
      rw [List.length_nil, List.countP_eq_zero]; intro a _; simp
    | cons x P ih =>
      intro l hl hm
      rw [List.nodup_cons] at hn
      have hx : x ∈ l := hm x (by simp)
      obtain ⟨l1, l2, rfl⟩ := List.append_of_mem hx
      have hl' : (l1 ++ l2).Nodup ∧ x ∉ l1 ++ l2 := by
        have : (x :: (l1 ++ l2)).Nodup := (List.perm_middle.nodup_iff).1 hl
        rw [List.nodup_cons] at this; exact ⟨this.2, this.1⟩
      have h2 := ih hn.2 (fun y hy => h8 y (by simp [hy])) (by
        unfold cnt; refine List.countP_congr fun i hi => ?_
        rw [j9, decide_eq_true (List.mem_range.1 hi)]; simp) (l1 ++ l2) hl'.1 fun y hy => by
          have := hm y (by simp [hy])
          rw [List.mem_append, List.mem_cons] at this
          rw [List.mem_append]
          rcases this with h | h | h
          · exact .inl h
          · subst h; exact absurd hy hn.1
          · exact .inr h
      rw [List.countP_append, List.countP_cons] 
      have h3 : ∀ l : List Nat, x ∉ l → l.countP (x :: P).contains = l.countP P.contains := fun l hxl => List.countP_congr fun y hy => by
        have : y ≠ x := fun h => hxl (h ▸ hy)
        simp [this]
      have h4 := hl'.2
      rw [List.mem_append, not_or] at h4
      rw [h3 l1 h4.1, h3 l2 h4.2]
      rw [List.countP_append] at h2
      simp
      omega
  exact key (List.range 8) List.nodup_range fun x hx => List.mem_range.2 (h8 x hx)
/-- The rank that rows in steps tell. -/
theorem Steps.rk (hp : qU p) (hn : n ≤ 8) (hs : s < 2 ^ n) (h : Steps p n R b s P) : rk (linB p n (Ker p n R b)) s = P.length := by
  have h8 : ∀ x ∈ P, x < 8 := fun x hx => Nat.lt_of_lt_of_le (h.mem x hx).1 hn
  rw [← Jn h.nodup h8]
  refine (VJ hp hn b).rk hs (fun i hi => ?_) (h.li hp hn) fun e he heP => ?_
  · rw [j9] at hi; simp at hi; exact (h.mem i hi.2).2
  · refine h.QD hp hn (jV hs he) he fun hh => ?_
    rw [j9] at heP; simp [hh, h8 e hh] at heP
end
end Go.Proofs.Ytopkfhnnapncgaa.Mt
end
section
namespace Go.Proofs.Ytopkfhnnapncgaa.L
open Go.Proofs.Ytopkfhnnapncgaa.Mt
set_option linter.unusedSimpArgs false
set_option linter.unusedVariables false
/-- In the midst of an elimination: the columns of s below j are done. -/
structure PS (p : Int) (n R : Nat) (a : Tab) (s j : Nat) (M : Tab) (P : List Nat) : Prop where
  len : P.length ≤ R
  nodup : P.Nodup
  mem : ∀ x ∈ P, x < j ∧ s.testBit x = true
  diag : ∀ k (hk : k < P.length), ¬ p ∣ M k P[k]
  below : ∀ k (hk : k < P.length), ∀ i, k < i → i < R → p ∣ M i P[k]
  zero : ∀ i, P.length ≤ i → i < R → ∀ c, c < j → s.testBit c = true → p ∣ M i c
  ker : ∀ v, Ker p n R a v ↔ Ker p n R M v
section
variable {p : Int} {n R s j : Nat} {a M : Tab} {P : List Nat}
theorem PS.skip (h : PS p n R a s j M P) (hz : s.testBit j = true → ∀ i, P.length ≤ i → i < R → p ∣ M i j) : PS p n R a s (j + 1) M P :=
  { h with
    mem := fun x hx => ⟨by have := (h.mem x hx).1; omega, (h.mem x hx).2⟩
    zero := fun i h1 h2 c hc hs => by
      rcases Nat.lt_or_ge c j with h3 | h3
      · exact h.zero i h1 h2 c h3 hs
      · obtain rfl : c = j := by omega
        exact hz hs i h1 h2 }
theorem j7 (t b : Nat) (M : Tab) (i c : Nat) : qj (jc t b) M i c = if i = b then M t c else if i = t then M b c else M i c := rfl
theorem PS.swap (h : PS p n R a s j M P) {b : Nat} (h1 : P.length ≤ b) (h2 : b < R) : PS p n R a s j (qj (jc P.length b) M) P := by
  have hrow : ∀ i c, i < P.length → qj (jc P.length b) M i c = M i c := fun i c hi => by rw [j7, if_neg (by omega), if_neg (by omega)]
  have hge : ∀ c, (∀ i, P.length ≤ i → i < R → p ∣ M i c) → ∀ i, P.length ≤ i → i < R → p ∣ qj (jc P.length b) M i c := fun c hc i hi hiR => by
    rw [j7]
    split
    · exact hc _ (Nat.le_refl _) (by omega)
    · split
      · exact hc _ h1 h2
      · exact hc _ hi hiR
  refine { h with diag := fun k hk => by rw [hrow k _ hk]; exact h.diag k hk, below := fun k hk i hki hiR => ?_, zero := fun i hi hiR c hc hs => hge c (fun i hi hiR => h.zero i hi hiR c hc hs) i hi hiR, ker := fun v => (h.ker v).trans ?_ }
  · rcases Nat.lt_or_ge i P.length with h3 | h3
    · rw [hrow i _ h3]; exact h.below k hk i hki hiR
    · exact hge _ (fun i' hi' hiR' => h.below k hk i' (by omega) hiR') i h3 hiR
  · by_cases hb : b = P.length
    · subst hb
      have : qj (jc P.length P.length) M = M := by
        funext i c; rw [j7]; by_cases e : i = P.length
        · subst e; simp
        · simp [e]
      rw [this]
    · refine V3 (t := P.length) (k := b) (by omega) h2 (fun c _ => ?_) (fun c _ => ?_) (fun i hi hit hib c _ => ?_) v
      · rw [j7, if_neg (Ne.symm hb), if_pos rfl]
      · rw [j7, if_pos rfl]
      · rw [j7, if_neg hib, if_neg hit]
theorem QW {p x y : Int} (h : p ∣ x - y) (hy : p ∣ y) : p ∣ x := (jW h).2 hy
theorem Z2 {p x y : Int} (h : p ∣ x - y) (hy : ¬ p ∣ y) : ¬ p ∣ x := fun hx => hy ((jW h).1 hx)
theorem Q3 {p x y u v : Int} (hx : p ∣ x) (hy : p ∣ y) : p ∣ u * x + v * y := Int.dvd_add (Int.dvd_mul_of_dvd_right hx) (Int.dvd_mul_of_dvd_right hy)
theorem PS.row (hp : qU p) (h : PS p n R a s j M P) (hj : j < n) (hs : s.testBit j = true) (ht : P.length < R) (hx : ¬ p ∣ M P.length j) {M' : Tab} (f : Int) (hf : ¬ p ∣ f) (y : Nat → Int) (hy : ∀ i, i < R → i ≠ P.length → ¬ p ∣ y i) (g : Nat → Int)
    (h1 : ∀ c, c < n → p ∣ M' P.length c - f * M P.length c) (h2 : ∀ i, i < R → i ≠ P.length → ∀ c, c < n → p ∣ M' i c - (y i * M i c + g i * M P.length c)) (h3 : ∀ i, P.length < i → i < R → p ∣ M' i j) :
    PS p n R a s (j + 1) M' (P ++ [j]) := by
  have hm : ∀ k (hk : k < P.length), P[k] < n := fun k hk => by have := (h.mem _ (List.getElem_mem hk)).1; omega
  have hcol : ∀ c, c < n → ∀ k, (∀ i, k < i → i < R → p ∣ M i c) → ∀ i, k < i → i < R → k < P.length → p ∣ M' i c := fun c hc k hk i hi hiR hkt => by
    by_cases hit : i = P.length
    · subst hit; exact QW (h1 c hc) (Int.dvd_mul_of_dvd_right (hk _ hi hiR))
    · exact QW (h2 i hiR hit c hc) (Q3 (hk i hi hiR) (hk _ hkt ht))
  have hmul : ∀ {x y : Int}, ¬ p ∣ x → ¬ p ∣ y → ¬ p ∣ x * y := fun hx hy hxy => (hp.Qm hxy).elim hx hy
  refine { len := ?_, nodup := ?_, mem := ?_, diag := ?_, below := ?_, zero := ?_, ker := ?_ }
  · rw [List.length_append]; exact ht
  · rw [List.nodup_append]
    refine ⟨h.nodup, List.nodup_cons.2 ⟨by simp, List.nodup_nil⟩, fun x hx y hy => ?_⟩
    rw [List.mem_singleton] at hy
    have := (h.mem x hx).1
    omega
  · intro x hx
    rcases List.mem_append.1 hx with hx | hx
    · exact ⟨by have := (h.mem x hx).1; omega, (h.mem x hx).2⟩
    · rw [List.mem_singleton] at hx; subst hx; exact ⟨by omega, hs⟩
  · intro k hk
    rw [List.length_append, List.length_singleton] at hk
    by_cases c : k < P.length
    · rw [List.getElem_append_left c]
      refine Z2 (h2 k (by omega) (by omega) _ (hm k c)) fun hd => ?_
      have h4 : p ∣ g k * M P.length P[k] := Int.dvd_mul_of_dvd_right (h.below k c _ c ht)
      have h5 := Int.dvd_sub hd h4
      rw [Int.add_sub_cancel] at h5
      exact hmul (hy k (by omega) (by omega)) (h.diag k c) h5
    · obtain rfl : k = P.length := by omega
      rw [List.getElem_append_right (Nat.le_refl _)]
      simp only [Nat.sub_self, List.getElem_singleton]
      exact Z2 (h1 j hj) (hmul hf hx)
  · intro k hk i hki hiR
    rw [List.length_append, List.length_singleton] at hk
    by_cases c : k < P.length
    · rw [List.getElem_append_left c]
      exact hcol _ (hm k c) k (h.below k c) i hki hiR c
    · obtain rfl : k = P.length := by omega
      rw [List.getElem_append_right (Nat.le_refl _)]
      simp only [Nat.sub_self, List.getElem_singleton]
      exact h3 i hki hiR
  · intro i hi hiR c hc hsc
    rw [List.length_append, List.length_singleton] at hi
    rcases Nat.lt_or_ge c j with h4 | h4
    · exact QW (h2 i hiR (by omega) c (by omega)) (Q3 (h.zero i (by omega) hiR c h4 hsc) (h.zero _ (Nat.le_refl _) ht c h4 hsc))
    · obtain rfl : c = j := by omega
      exact h3 i (by omega) hiR
  · intro v
    exact (h.ker v).trans (VW hp ht f hf y hy g h1 h2 v)
theorem PS.done (h : PS p n R a s n M P) : Mt.Steps p n R M s P :=
  ⟨h.len, h.nodup, h.mem, h.diag, h.below, fun i h1 h2 c hc hs => h.zero i h1 h2 c hc hs⟩
theorem PS.rk (hp : qU p) (hn : n ≤ 8) (hs : s < 2 ^ n) (h : PS p n R a s n M P) : rk (linB p n (Ker p n R a)) s = P.length := by
  rw [show Ker p n R a = Ker p n R M from funext fun v => propext (h.ker v)]
  exact h.done.rk hp hn hs
theorem Jq {x : Int} (h0 : x ≠ 0) (h1 : 0 ≤ x ∧ x < p) : ¬ p ∣ x := fun h => by
  have := Int.le_of_dvd (by omega) h; omega
theorem yp (x p : Int) : p ∣ Int.tmod x p - x := by
  have := Int.mul_tdiv_add_tmod x p
  exact ⟨-(x.tdiv p), by rw [Int.mul_neg]; omega⟩
end
theorem ZB (p : Int) (t col : Nat) (M : Tab) : ∀ m, (List.range m).foldl (qQ p t col) M = fun i c => if i < m ∧ i ≠ t then Int.tmod (M i c + (p - M i col) * M t c) p else M i c
  | 0 => by funext i c; simp
  | m + 1 => by
    rw [List.range_succ, List.foldl_append, ZB p t col M m]
    funext i c
    show qQ p t col _ m i c = _
    unfold qQ
    by_cases h1 : m = t
    · subst h1
      rw [if_pos rfl]
      by_cases h2 : i < m ∧ i ≠ m
      · rw [if_pos h2, if_pos ⟨by omega, h2.2⟩]
      · rw [if_neg h2, if_neg (by omega)]
    · rw [if_neg h1]
      show (Ze p t m _ (fun i => _) i) = _
      unfold Ze
      by_cases h2 : i = m
      · subst h2
        simp [h1]
      · rw [if_neg h2]
        show (if i < m ∧ i ≠ t then Int.tmod (M i c + (p - M i col) * M t c) p else M i c) = _
        by_cases h3 : i < m ∧ i ≠ t
        · rw [if_pos h3, if_pos ⟨by omega, h3.2⟩]
        · rw [if_neg h3, if_neg (by omega)]
theorem vl (p : Int) (R t col : Nat) (M : Tab) (i c : Nat) (hi : i < R) : jJ p R t col M i c =
    if i = t then Int.tmod (M t c * jC p (M t col)) p else Int.tmod (M i c + (p - M i col) * Int.tmod (M t c * jC p (M t col)) p) p := by
  unfold jJ vN
  rw [ZB]
  by_cases h : i = t
  · subst h; simp [qj, jT]
  · simp [hi, h, qj, jT]
theorem V5 : ∀ p ∈ [2, 3, 5, 7], ∀ a ∈ List.range 7, 1 ≤ a → a < p → (p : Int) ∣ (a : Int) * jC p a - 1 := by decide
theorem Q2 {p a : Int} (hp : qU p) (ha : 1 ≤ a) (hap : a < p) : p ∣ a * jC p a - 1 := by
  obtain ⟨q, rfl, hq⟩ := hp.nat
  obtain ⟨b, rfl⟩ := Int.eq_ofNat_of_zero_le (show 0 ≤ a by omega)
  have hq7 : q ≤ 7 := by simp at hq; omega
  exact V5 q hq b (List.mem_range.2 (by omega)) (by omega) (by omega)
section
variable {p : Int} {n R s j : Nat} {a M : Tab} {P : List Nat}
theorem PS.pivot (hp : qU p) (h : PS p n R a s j M P) (hj : j < n) (hs : s.testBit j = true) (ht : P.length < R) (hM : InF p R n M) (hx : M P.length j ≠ 0) : PS p n R a s (j + 1) (jJ p R P.length j M) (P ++ [j]) := by
  have hv := hM _ j ht hj
  have hinv := Q2 hp (show 1 ≤ M P.length j by omega) hv.2
  have hpp := hp.pos
  have hf : ¬ p ∣ jC p (M P.length j) := fun hd => by
    have h1 : p ∣ M P.length j * jC p (M P.length j) := Int.dvd_mul_of_dvd_right hd
    have h2 := Int.dvd_sub h1 hinv
    rw [show ∀ x : Int, x - (x - 1) = 1 from by intro x; omega] at h2
    have := Int.le_of_dvd (by omega) h2
    omega
  refine h.row hp hj hs ht (Jq hx hv) (jC p (M P.length j)) hf (fun _ => 1) (fun i _ _ hd => by have := Int.le_of_dvd (by omega) hd; omega) (fun i => (p - M i j) * jC p (M P.length j)) (fun c hc => ?_) (fun i hi hit c hc => ?_) (fun i hti hi => ?_)
  · rw [vl _ _ _ _ _ _ _ ht, if_pos rfl, Int.mul_comm]; exact yp _ _
  · rw [vl _ _ _ _ _ _ _ hi, if_neg hit]
    have h1 := yp (M i c + (p - M i j) * Int.tmod (M P.length c * jC p (M P.length j)) p) p
    have h2 : p ∣ (p - M i j) * (Int.tmod (M P.length c * jC p (M P.length j)) p - M P.length c * jC p (M P.length j)) := Int.dvd_mul_of_dvd_right (yp _ _)
    have h3 := Int.dvd_add h1 h2
    refine (show ∀ x y : Int, x = y → p ∣ x → p ∣ y from fun x y e h => e ▸ h) _ _ ?_ h3
    rw [Int.mul_sub, Int.mul_assoc, Int.mul_comm (jC p (M P.length j)) (M P.length c)]
    omega
  · rw [vl _ _ _ _ _ _ _ hi, if_neg (by omega)]
    refine QW (yp _ _) ?_
    have h2 : p ∣ (p - M i j) * (Int.tmod (M P.length j * jC p (M P.length j)) p - M P.length j * jC p (M P.length j)) := Int.dvd_mul_of_dvd_right (yp _ _)
    have h4 : p ∣ (p - M i j) * (M P.length j * jC p (M P.length j) - 1) := Int.dvd_mul_of_dvd_right hinv
    have h5 := Int.dvd_add (Int.dvd_add h2 h4) (Int.dvd_refl p)
    refine (show ∀ x y : Int, x = y → p ∣ x → p ∣ y from fun x y e h => e ▸ h) _ _ ?_ h5
    rw [Int.mul_sub, Int.mul_sub, Int.mul_one]
    omega
end
section
variable {p : Int} {n R s j : Nat} {a M : Tab} {P : List Nat}
end
end Go.Proofs.Ytopkfhnnapncgaa.L
end
section
namespace Go.Proofs.Ytopkfhnnapncgaa.L
open Go.RowKit Go.Proofs.Ytopkfhnnapncgaa.F Go.Proofs.YtopkfhnnapncgaaW.PrintWords Go.Proofs.YtopkfhnnapncgaaW.PrintLast Go.Proofs.YtopkfhnnapncgaaW.PrintMore
open Go.Proofs.Ytopkfhnnapncgaa.Bits
set_option linter.unusedSimpArgs false
set_option linter.unusedVariables false
section
variable {p : Int} {R C : Nat} (hR : R ≤ 8) (hC : C ≤ 8) (hf : isField p = true)
include hR hC
include hf
end
end Go.Proofs.Ytopkfhnnapncgaa.L
end
section
namespace Go.Proofs.Ytopkfhnnapncgaa.L
open Go.RowKit Go.Proofs.Ytopkfhnnapncgaa.F Go.Proofs.YtopkfhnnapncgaaW.PrintWords Go.Proofs.YtopkfhnnapncgaaW.PrintLast Go.Proofs.YtopkfhnnapncgaaW.PrintMore
open Go.Proofs.Ytopkfhnnapncgaa.Bits
set_option linter.unusedSimpArgs false
set_option linter.unusedVariables false
theorem JG {p : Int} (h : isField p = true) : Mt.qU p := by simpa [isField, Mt.qU] using h
section
variable {p : Int} {R C : Nat} (hR : R ≤ 8) (hC : C ≤ 8)
include hR hC
end
end Go.Proofs.Ytopkfhnnapncgaa.L
end
section
namespace Go.Proofs.Ytopkfhnnapncgaa.L
open Go.Proofs.Ytopkfhnnapncgaa.Mt
set_option linter.unusedSimpArgs false
set_option linter.unusedVariables false
/-- In the midst of the reduction: every row done begins at its pivot, the others have nothing so far. -/
structure RI (p : Int) (R C j : Nat) (st : Red) (P : List Nat) : Prop where
  ps : st.ps = ints P
  len : P.length = st.t
  t_le : st.t ≤ R
  inF : InF p R C st.M
  sort : P.Pairwise (· < ·)
  lt : ∀ x ∈ P, x < j
  zero : ∀ i, st.t ≤ i → i < R → ∀ c, c < j → st.M i c = 0
  piv : ∀ i (h : i < P.length), st.M i P[i] ≠ 0 ∧ ∀ c, c < P[i] → st.M i c = 0
theorem JA {x p : Int} (h0 : 0 ≤ x) (h1 : x < p) : Int.tmod x p = x := by rw [Int.tmod_eq_emod_of_nonneg h0, Int.emod_eq_of_lt h0 h1]
theorem Jp (p : Int) (hp : 2 ≤ p) : Int.tmod p p = 0 := by rw [Int.tmod_eq_emod_of_nonneg (by omega), Int.emod_self]
theorem tmod_one {x p : Int} (hp : 2 ≤ p) (h0 : 0 ≤ x) (h : p ∣ x - 1) : Int.tmod x p = 1 := by
  rw [Int.tmod_eq_emod_of_nonneg h0]
  obtain ⟨k, hk⟩ := h
  rw [show x = 1 + p * k by omega, Int.add_mul_emod_self_left]
  exact Int.emod_eq_of_lt (by omega) (by omega)
section
variable {p : Int} {R C j : Nat} {st : Red} {P : List Nat}
theorem RI.step (hp : qU p) (h : RI p R C j st P) (hj : j < C) : ∃ P', RI p R C (j + 1) (qw p R st j) P' := by
  have hpp := hp.pos
  obtain ⟨f1, f2, f3, f4⟩ := j5 st.M R j (R - st.t) st.t (by have := h.t_le; omega)
  by_cases c : qq st.M R st.t j < R
  · have he : qw p R st j = ⟨st.t + 1, jJ p R st.t j (qj (jc st.t (qq st.M R st.t j)) st.M), st.ps ++ [(j : Int)]⟩ := by unfold qw; rw [if_pos c]
    rw [he]
    generalize qq st.M R st.t j = b at c f1 f3
    have htR : st.t < R := by omega
    have hS : InF p R C (qj (jc st.t b) st.M) := h.inF.swap htR c
    have hrow : ∀ i c', i < st.t → qj (jc st.t b) st.M i c' = st.M i c' := fun i c' hi => by rw [j7, if_neg (by omega), if_neg (by omega)]
    have hz : ∀ i, st.t ≤ i → i < R → ∀ c', c' < j → qj (jc st.t b) st.M i c' = 0 := fun i hi hiR c' hc' => by
      rw [j7]
      split
      · exact h.zero _ (Nat.le_refl _) htR c' hc'
      · split
        · exact h.zero _ (by omega) c c' hc'
        · exact h.zero _ hi hiR c' hc'
    have hx : qj (jc st.t b) st.M st.t j ≠ 0 := by
      rw [j7]
      by_cases c2 : st.t = b
      · rw [if_pos c2]; subst c2; exact f3 c
      · rw [if_neg c2, if_pos rfl]; exact f3 c
    have hxx := hS st.t j htR hj
    generalize qj (jc st.t b) st.M = S at hS hrow hz hx hxx
    have hone : Int.tmod (S st.t j * jC p (S st.t j)) p = 1 := tmod_one hpp.1 (Int.mul_nonneg hxx.1 (vK _ _)) (Q2 hp (by omega) hxx.2)
    have hlow : ∀ i c', i < R → c' < j → jJ p R st.t j S i c' = if i = st.t then 0 else S i c' := fun i c' hi hc' => by
      rw [vl _ _ _ _ _ _ _ hi, hz st.t (Nat.le_refl _) htR c' hc', Int.zero_mul, Int.zero_tmod]
      split
      · rfl
      · have hb := hS i c' hi (by omega)
        rw [Int.mul_zero, Int.add_zero, JA hb.1 hb.2]
    refine ⟨P ++ [j], { ps := by show st.ps ++ [(j : Int)] = _; rw [h.ps]; simp [ints], len := by rw [List.length_append, h.len]; rfl, t_le := htR, inF := hS.pivot hpp.1 htR hj, sort := ?_, lt := ?_, zero := ?_, piv := ?_ }⟩
    · rw [List.pairwise_append]
      exact ⟨h.sort, List.pairwise_singleton _ _, fun x hxP y hy => by rw [List.mem_singleton] at hy; have := h.lt x hxP; omega⟩
    · intro x hx
      rcases List.mem_append.1 hx with hx | hx
      · have := h.lt x hx; omega
      · rw [List.mem_singleton] at hx; omega
    · intro i hi hiR c' hc'
      have hi' : st.t + 1 ≤ i := hi
      show jJ p R st.t j S i c' = 0
      rcases Nat.lt_or_ge c' j with h5 | h5
      · rw [hlow i c' hiR h5, if_neg (by omega)]; exact hz i (by omega) hiR c' h5
      · obtain rfl : c' = j := by omega
        rw [vl _ _ _ _ _ _ _ hiR, if_neg (by omega), hone, Int.mul_one, show S i c' + (p - S i c') = p by omega]
        exact Jp p hpp.1
    · intro i hi
      rw [List.length_append, List.length_singleton] at hi
      by_cases c3 : i < P.length
      · rw [List.getElem_append_left c3]
        have hit : i < st.t := by have := h.len; omega
        have hlt := h.lt P[i] (List.getElem_mem c3)
        refine ⟨?_, fun c' hc' => ?_⟩
        · show jJ p R st.t j S i P[i] ≠ 0
          rw [hlow i _ (by omega) hlt, if_neg (by omega), hrow i _ hit]; exact (h.piv i c3).1
        · show jJ p R st.t j S i c' = 0
          rw [hlow i _ (by omega) (by omega), if_neg (by omega), hrow i _ hit]; exact (h.piv i c3).2 c' hc'
      · obtain rfl : i = P.length := by omega
        rw [List.getElem_append_right (Nat.le_refl _)]
        simp only [Nat.sub_self, List.getElem_singleton]
        have hl := h.len
        refine ⟨?_, fun c' hc' => ?_⟩
        · show jJ p R st.t j S P.length j ≠ 0
          rw [hl, vl _ _ _ _ _ _ _ htR, if_pos rfl, hone]; decide
        · show jJ p R st.t j S P.length c' = 0
          rw [hl, hlow _ _ htR hc', if_pos rfl]
  · have he : qw p R st j = st := by unfold qw; rw [if_neg c]
    rw [he]
    have hz : ∀ i, st.t ≤ i → i < R → ∀ c', c' < j + 1 → st.M i c' = 0 := fun i hi hiR c' hc' => by
      rcases Nat.lt_or_ge c' j with h5 | h5
      · exact h.zero i hi hiR c' h5
      · obtain rfl : c' = j := by omega
        exact f4 i hi (by omega)
    have hl : ∀ x ∈ P, x < j + 1 := fun x hx => by have := h.lt x hx; omega
    exact ⟨P, { h with lt := hl, zero := hz }⟩
theorem RI.run (hp : qU p) {M : Tab} (hM : InF p R C M) : ∀ m, m ≤ C → ∃ P, RI p R C m ((List.range m).foldl (qw p R) ⟨0, M, []⟩) P
  | 0, _ => ⟨[], { ps := rfl, len := rfl, t_le := Nat.zero_le _, inF := hM, sort := List.Pairwise.nil, lt := fun x hx => (by cases hx), zero := fun i _ _ c hc => absurd hc (Nat.not_lt_zero c), piv := fun i hi => (by cases hi) }⟩
  | m + 1, hm => by
    obtain ⟨P, h⟩ := RI.run hp hM m (by omega)
    rw [List.range_succ, List.foldl_append]
    exact h.step hp (by omega)
end
def vx (p : Int) (C : Nat) (P : List Nat) (M : Tab) (j : Nat) : List Int := (List.range P.length).foldl (fun row i => row.set (P.getD i 0) (Int.tmod (p - M i j) p)) ((List.replicate C (0 : Int)).set j 1)
def yr (p : Int) (C : Nat) (P : List Nat) (M : Tab) (m : Nat) : List Int := (List.range m).foldl (fun x j => if j ∈ P then x else x ++ vx p C P M j) []
def vC (P : List Nat) (m : Nat) : Nat := (List.range m).foldl (fun n j => if j ∈ P then n else n + 1) 0
theorem yq (p : Int) (C : Nat) (P : List Nat) (M : Tab) (j : Nat) : (vx p C P M j).length = C := by
  unfold vx
  have : ∀ (l : List Nat) (r : List Int), (l.foldl (fun row i => row.set (P.getD i 0) (Int.tmod (p - M i j) p)) r).length = r.length := fun l => by
    induction l with
    | nil => intro r; rfl
    | cons i l ih => intro r; rw [List.foldl_cons, ih, List.length_set]
  rw [this, List.length_set, List.length_replicate]
theorem vZ (P : List Nat) (m : Nat) : vC P (m + 1) = if m ∈ P then vC P m else vC P m + 1 := by unfold vC; rw [List.range_succ, List.foldl_append]; rfl
theorem yL (p : Int) (C : Nat) (P : List Nat) (M : Tab) (m : Nat) : yr p C P M (m + 1) = if m ∈ P then yr p C P M m else yr p C P M m ++ vx p C P M m := by unfold yr; rw [List.range_succ, List.foldl_append]; rfl
theorem vU (p : Int) (C : Nat) (P : List Nat) (M : Tab) : ∀ m, (yr p C P M m).length = vC P m * C
  | 0 => by simp [yr, vC]
  | m + 1 => by
    rw [yL, vZ]
    split
    · exact vU p C P M m
    · rw [List.length_append, yq, vU p C P M m, Nat.succ_mul]
theorem Zh (P : List Nat) : ∀ m, vC P m ≤ m
  | 0 => Nat.le_refl _
  | m + 1 => by rw [vZ]; have := Zh P m; split <;> omega
theorem VB (m : Nat) : ∀ P : List Nat, P.Nodup → (P.filter fun x => decide (x < m + 1)).length = (P.filter fun x => decide (x < m)).length + if m ∈ P then 1 else 0
  | [], _ => by simp
  | x :: P, h => by
    obtain ⟨hx, hP⟩ := List.nodup_cons.1 h
    have ih := VB m P hP
    by_cases c1 : x = m
    · subst c1
      rw [if_neg hx] at ih
      simp [List.filter_cons, ih]
    · by_cases c2 : x < m
      · simp only [List.filter_cons, show x < m + 1 by omega, c2, decide_true, if_true, List.length_cons, ih, List.mem_cons, Ne.symm c1, false_or]
        omega
      · simp only [List.filter_cons, show ¬ x < m + 1 by omega, c2, decide_false, Bool.false_eq_true, if_false, ih, List.mem_cons, Ne.symm c1, false_or]
theorem y1 {P : List Nat} (hP : P.Nodup) : ∀ m, vC P m + (P.filter fun x => decide (x < m)).length = m
  | 0 => by simp [vC]
  | m + 1 => by
    rw [vZ, VB m P hP]
    have := y1 hP m
    split <;> omega
theorem ZC {P : List Nat} {C : Nat} (hs : P.Pairwise (· < ·)) (hlt : ∀ x ∈ P, x < C) : vC P C + P.length = C := by
  have h := y1 (hs.imp (fun h => Nat.ne_of_lt h)) C
  rwa [List.filter_eq_self.2 (fun x hx => decide_eq_true (hlt x hx))] at h
end Go.Proofs.Ytopkfhnnapncgaa.L
end
section
namespace Go.Proofs.Ytopkfhnnapncgaa.L
open Go.RowKit Go.Proofs.Ytopkfhnnapncgaa.F Go.Proofs.YtopkfhnnapncgaaW.PrintWords Go.Proofs.YtopkfhnnapncgaaW.PrintLast Go.Proofs.YtopkfhnnapncgaaW.PrintMore
open Go.Proofs.Ytopkfhnnapncgaa.Bits
set_option linter.unusedSimpArgs false
set_option linter.unusedVariables false
theorem Vs {l : List Int} {x : Int} (hl : l.length ≤ 17592186044416) : Ev (fun k => (qt.f k l x)) (decide (x ∈ l)) := by
  unfold qt.f zQ.f
  have h := Qg (fun k i => (zQ.l0 k l x (l.length : Int) i).bind fun t => some (decide (t ≥ 0))) l.length (fun i r => decide (l.getD i 0 = x) || r) false
    (by simp only [zQ.l0, show ¬ ((l.length : Int) < (l.length : Int)) by omega, if_false, Option.bind_some]; exact Ev.now _) fun i hi r hr => by
      simp only [zQ.l0, show ((i : Int) < (l.length : Int)) by omega, show (0 : Int) ≤ (i : Int) by omega, if_true, qL, zY (show i < 9223372036854775807 by omega)]
      by_cases h : l.getD i 0 = x
      · simp only [h, if_true, decide_true, Bool.true_or, Option.bind_some, show ((i : Int) ≥ 0) by omega]; exact Ev.now _
      · simp only [show ¬ (x = l.getD i 0) from fun e => h e.symm, h, if_false, decide_false, Bool.false_or]; exact hr
  rw [Zn, Bool.or_false, Qw] at h
  exact h
theorem yT {P : List Nat} {j : Nat} : ((j : Int) ∈ ints P) ↔ j ∈ P := by
  unfold ints
  constructor
  · intro h
    obtain ⟨x, hx, he⟩ := List.mem_map.1 h
    have : x = j := by exact_mod_cast he
    exact this ▸ hx
  · intro h; exact List.mem_map.2 ⟨j, h, rfl⟩
section
variable {p : Int} {R C : Nat} (hR : R ≤ 8) (hC : C ≤ 8) (hf : isField p = true)
include hR hC
theorem Vu {st : Red} {P : List Nat} (h : RI p R C C st P) : Ev (fun k => zH.f k p st.t C (zZ st.M st.t C)) (ints P) := by
  have hlen := h.len
  have htle := h.t_le
  unfold zH.f
  have key := q8 (fun k (x : List Int) i => zH.l0 k x i p st.t C (zZ st.M st.t C)) st.t (fun x i => x ++ [((P.getD i 0 : Nat) : Int)]) (fun i x => x = ints (P.take i))
    (fun i x hi hx => ⟨by
      rw [hx, List.take_succ_eq_append_getElem (show i < P.length by omega), show P.getD i 0 = P[i] by simp [List.getD_eq_getElem?_getD, show i < P.length by omega]]
      unfold ints
      rw [List.map_append]
      rfl, fun r hr => by
      have hiP : i < P.length := by omega
      have hg : P.getD i 0 = P[i] := by simp [List.getD_eq_getElem?_getD, hiP]
      have hlt := h.lt P[i] (List.getElem_mem hiP)
      obtain ⟨hp1, hp2⟩ := h.piv i hiP
      have hxl : x.length = i := by rw [hx]; simp [ints]; omega
      simp only [zH.l0, show ((i : Int) < (st.t : Int)) by omega, if_true]
      have inner : ∀ d c, c + d = P[i] → Ev (fun k => zH.l1 k x i (c : Nat) p st.t C (zZ st.M st.t C)) r := fun d => by
        induction d with
        | zero =>
          intro c hc
          obtain rfl : c = P[i] := by omega
          have h1 := jP hi hlt
          rw [hg] at hr
          refine Ev.succ ?_
          simp only [zH.l1, qT (show i ≤ 8 by omega) hC (show P[i] ≤ 8 by omega), qn, qL, qK st.M hi hlt, show (0 : Int) ≤ ((i * C + P[i] : Nat) : Int) by omega, show ((i * C + P[i] : Nat) : Int) < ((st.t * C : Nat) : Int) by omega, if_true, hp1, if_false, show x.length < 17592186044416 by omega, zY (show i < 9223372036854775807 by omega)]
          exact hr
        | succ d ih =>
          intro c hc
          have hcC : c < C := by omega
          have h1 := jP hi hcC
          refine Ev.succ ?_
          simp only [zH.l1, qT (show i ≤ 8 by omega) hC (show c ≤ 8 by omega), qn, qL, qK st.M hi hcC, show (0 : Int) ≤ ((i * C + c : Nat) : Int) by omega, show ((i * C + c : Nat) : Int) < ((st.t * C : Nat) : Int) by omega, if_true, hp2 c (by omega), zY (show c < 9223372036854775807 by omega)]
          exact ih (c + 1) (by omega)
      exact inner P[i] 0 (by omega)⟩) [] (by simp [ints])
  have ke := key.1
  refine key.2 _ (Ev.succ ?_)
  simp only [zH.l0, show ¬ ((st.t : Int) < (st.t : Int)) by omega, if_false]
  rw [ke, ← hlen, List.take_length]
  exact Ev.now _
include hf
theorem YX {st : Red} {P : List Nat} (h : RI p R C C st P) (l : List Int) : Ev (fun k => zr.l0 k (ints P) 0 p R C l p st.t C (zZ st.M st.t C) p 0 C []) (p, (vC P C : Int), (C : Int), yr p C P st.M C, true) := by
  have hlen := h.len
  have htle := h.t_le
  have hp := jv hf
  have hil : (ints P).length = P.length := by simp [ints]
  have key := q8 (fun k (s : Nat × List Int) j => zr.l0 k (ints P) j p R C l p st.t C (zZ st.M st.t C) p (s.1 : Int) C s.2) C (fun s j => if j ∈ P then s else (s.1 + 1, s.2 ++ vx p C P st.M j)) (fun j s => s.1 = vC P j ∧ s.2 = yr p C P st.M j)
    (fun j s hj hs => ⟨by
      rw [vZ, yL]
      split
      · exact hs
      · exact ⟨by rw [hs.1], by rw [hs.2]⟩, fun r hr => by
      have hnle := Zh P j
      have hsl : s.2.length ≤ 64 := by rw [hs.2, vU]; exact Nat.le_trans (Nat.mul_le_mul (show vC P j ≤ 8 by omega) hC) (by decide)
      simp only [zr.l0, show ((j : Int) < (C : Int)) by omega, if_true]
      refine Ev.bind (VU (ints P) j (by omega)) ?_
      by_cases c : j ∈ P
      · rw [if_pos c] at hr
        simp only [show decide ((j : Int) ∈ ints P) = true from decide_eq_true (yT.2 c), if_true, zY (show j < 9223372036854775807 by omega)]
        exact hr
      · rw [if_neg c] at hr
        simp only [show decide ((j : Int) ∈ ints P) = false from decide_eq_false (fun hh => c (yT.1 hh)), Bool.false_eq_true, if_false, show (0 : Int) ≤ (C : Int) by omega, if_true, Int.toNat_natCast, show C ≤ 35184372088832 by omega, Option.bind_some, show (0 : Int) ≤ (j : Int) by omega, List.length_replicate, show ((j : Int) < (C : Int)) by omega]
        have inner := q8 (fun k (row : List Int) i => zr.l1 k (ints P) j row i p R C l p st.t C (zZ st.M st.t C) p (s.1 : Int) C s.2) P.length (fun row i => row.set (P.getD i 0) (Int.tmod (p - st.M i j) p)) (fun _ row => row.length = C)
          (fun i row hi hrow => ⟨by rw [List.length_set]; exact hrow, fun r hr => by
            have hg : P.getD i 0 = P[i] := by simp [List.getD_eq_getElem?_getD, hi]
            have hlt := h.lt P[i] (List.getElem_mem hi)
            have hit : i < st.t := by omega
            have h1 := jP hit hj
            have hb := h.inF i j (by omega) hj
            rw [hg] at hr
            simp only [zr.l1, show ((i : Int) < (st.t : Int)) by omega, if_true, show (0 : Int) ≤ (i : Int) by omega, hil, show ((i : Int) < (P.length : Int)) by omega, qT (show i ≤ 8 by omega) hC (show j ≤ 8 by omega), qn, show (0 : Int) ≤ ((i * C + j : Nat) : Int) by omega, show ((i * C + j : Nat) : Int) < ((st.t * C : Nat) : Int) by omega, show ¬ p = 0 by omega, if_false, JD P i hi, show (0 : Int) ≤ ((P[i] : Nat) : Int) by omega, hrow, show (((P[i] : Nat) : Int) < (C : Int)) by omega, Int.toNat_natCast, qL, qK st.M hit hj, Zt hp hb, zY (show i < 9223372036854775807 by omega)]
            exact hr⟩) ((List.replicate C (0 : Int)).set j 1) (by simp)
        refine inner.2 _ (Ev.succ ?_)
        have hrl := inner.1
        simp only [zr.l1, hlen, show ¬ ((st.t : Int) < (st.t : Int)) by omega, if_false]
        rw [← hlen, show (List.range P.length).foldl (fun row i => row.set (P.getD i 0) (Int.tmod (p - st.M i j) p)) ((List.replicate C (0 : Int)).set j 1) = vx p C P st.M j from rfl] at *
        simp only [yq, show s.2.length + C < 17592186044416 by omega, if_true, zY (show j < 9223372036854775807 by omega), zY (show s.1 < 9223372036854775807 by have := hs.1; omega)]
        exact hr⟩) (0, []) ⟨rfl, rfl⟩
  have k1 := key.1
  generalize (List.range C).foldl (fun (s : Nat × List Int) j => if j ∈ P then s else (s.1 + 1, s.2 ++ vx p C P st.M j)) (0, []) = e at key k1
  refine key.2 _ (Ev.succ ?_)
  simp only [zr.l0, show ¬ ((C : Int) < (C : Int)) by omega, if_false]
  rw [k1.1, k1.2]
  exact Ev.now _
theorem YN {st : Red} {P : List Nat} (h : RI p R C C st P) (l : List Int) (n : Int) : Ev (fun k => zm.l0 k (ints P) 0 p R C l p st.t C (zZ st.M st.t C) p n C []) (p, n, (C : Int), yr p C P st.M C, true) := by
  have hlen := h.len
  have htle := h.t_le
  have hp := jv hf
  have hil : (ints P).length = P.length := by simp [ints]
  have key := q8 (fun k (s : List Int) j => zm.l0 k (ints P) j p R C l p st.t C (zZ st.M st.t C) p n C s) C (fun s j => if j ∈ P then s else s ++ vx p C P st.M j) (fun j s => s = yr p C P st.M j)
    (fun j s hj hs => ⟨by
      rw [yL, hs], fun r hr => by
      have hnle := Zh P j
      have hsl : s.length ≤ 64 := by rw [hs, vU]; exact Nat.le_trans (Nat.mul_le_mul (show vC P j ≤ 8 by omega) hC) (by decide)
      simp only [zm.l0, show ((j : Int) < (C : Int)) by omega, if_true]
      refine Ev.bind (Vs (by omega)) ?_
      by_cases c : j ∈ P
      · rw [if_pos c] at hr
        simp only [show decide ((j : Int) ∈ ints P) = true from decide_eq_true (yT.2 c), if_true, zY (show j < 9223372036854775807 by omega)]
        exact hr
      · rw [if_neg c] at hr
        simp only [show decide ((j : Int) ∈ ints P) = false from decide_eq_false (fun hh => c (yT.1 hh)), Bool.false_eq_true, if_false, show (0 : Int) ≤ (C : Int) by omega, if_true, Int.toNat_natCast, show C ≤ 35184372088832 by omega, Option.bind_some, show (0 : Int) ≤ (j : Int) by omega, List.length_replicate, show ((j : Int) < (C : Int)) by omega, hil]
        have inner := q8 (fun k (row : List Int) i => zm.l1 k (ints P) j row (ints P) (P.length : Int) i p R C l p st.t C (zZ st.M st.t C) p n C s) P.length (fun row i => row.set (P.getD i 0) (Int.tmod (p - st.M i j) p)) (fun _ row => row.length = C)
          (fun i row hi hrow => ⟨by rw [List.length_set]; exact hrow, fun r hr => by
            have hg : P.getD i 0 = P[i] := by simp [List.getD_eq_getElem?_getD, hi]
            have hlt := h.lt P[i] (List.getElem_mem hi)
            have hit : i < st.t := by omega
            have h1 := jP hit hj
            have hb := h.inF i j (by omega) hj
            rw [hg] at hr
            simp only [zm.l1, show ((i : Int) < (P.length : Int)) by omega, if_true, show (0 : Int) ≤ (i : Int) by omega, hil, q6.f, qT (show i ≤ 8 by omega) hC (show j ≤ 8 by omega), qn, show (0 : Int) ≤ ((i * C + j : Nat) : Int) by omega, show ((i * C + j : Nat) : Int) < ((st.t * C : Nat) : Int) by omega, Option.bind_some, show ¬ p = 0 by omega, if_false, JD P i hi, show (0 : Int) ≤ ((P[i] : Nat) : Int) by omega, hrow, show (((P[i] : Nat) : Int) < (C : Int)) by omega, Int.toNat_natCast, qL, qK st.M hit hj, Zt hp hb, zY (show i < 9223372036854775807 by omega)]
            exact hr⟩) ((List.replicate C (0 : Int)).set j 1) (by simp)
        refine inner.2 _ (Ev.succ ?_)
        rw [show (List.range P.length).foldl (fun row i => row.set (P.getD i 0) (Int.tmod (p - st.M i j) p)) ((List.replicate C (0 : Int)).set j 1) = vx p C P st.M j from rfl]
        simp only [zm.l1, show ¬ ((P.length : Int) < (P.length : Int)) by omega, if_false, yq, show s.length + C < 17592186044416 by omega, if_true, zY (show j < 9223372036854775807 by omega)]
        exact hr⟩) [] rfl
  have k1 := key.1
  refine key.2 _ (Ev.succ ?_)
  simp only [zm.l0, show ¬ ((C : Int) < (C : Int)) by omega, if_false]
  rw [k1]
  exact Ev.now _
end
/-- The dual's matrix, in numbers. -/
def ZD (p r c : Int) (l : List Int) : Int × Int × Int × List Int × Bool :=
  if jd p r c l = true then (p, c - ((jj p r c l).t : Int), c, yr p c.toNat ((jj p r c l).ps.map Int.toNat) (jj p r c l).M c.toNat, true) else (0, 0, 0, [], false)
theorem ZX (P : List Nat) : (ints P).map Int.toNat = P := by
  unfold ints; rw [List.map_map]; exact (List.map_congr_left fun x _ => Int.toNat_natCast x).trans (List.map_id P)
theorem QS (p r c : Int) (l : List Int) : Ev (fun k => zr.f k p r c l) (ZD p r c l) := by
  unfold zr.f ZD
  refine Ev.bind (ZR p r c l) ?_
  have hred := Z0 p r c l
  unfold QV at hred
  cases h : jd p r c l
  · simp only [Bool.false_eq_true, if_false]; exact Ev.now _
  rw [h] at hred
  obtain ⟨R, C, rfl, rfl, hR, hC, hl, h2, h7, hf, hx⟩ := vw h
  simp only [if_true, Int.toNat_natCast] at hred ⊢
  refine Ev.bind hred ?_
  have hM0 : InF p R C (jy l C) := fun i j _ _ => QP (by omega) hx _
  obtain ⟨P, hP⟩ := RI.run (R := R) (JG hf) hM0 C (Nat.le_refl C)
  have e : jj p R C l = (List.range C).foldl (qw p R) ⟨0, jy l C, []⟩ := by unfold jj yl; rw [Int.toNat_natCast, Int.toNat_natCast]
  rw [← e] at hP
  refine Ev.bind (Vu hR hC hP) ?_
  have hcount := ZC hP.sort hP.lt
  have hlen := hP.len
  have key := YX hR hC hf hP l
  rw [hP.ps, ZX, show (C : Int) - ((jj p R C l).t : Int) = (vC P C : Int) by omega]
  exact key
theorem Zc (p r c : Int) (l : List Int) : Ev (fun k => zm.f k p r c l) (ZD p r c l) := by
  unfold zm.f ZD
  refine Ev.bind (Jo p r c l) ?_
  cases h : jd p r c l
  · simp only [Bool.false_eq_true, if_false]; exact Ev.now _
  obtain ⟨R, C, rfl, rfl, hR, hC, hl, h2, h7, hf, hx⟩ := vw h
  simp only [if_true, Int.toNat_natCast]
  refine Ev.bind (VK hR hC hf hl hx) ?_
  unfold JT
  have hM0 : InF p R C (jy l C) := fun i j _ _ => QP (by omega) hx _
  obtain ⟨P, hP⟩ := RI.run (R := R) (JG hf) hM0 C (Nat.le_refl C)
  have e : jj p R C l = (List.range C).foldl (qw p R) ⟨0, jy l C, []⟩ := by unfold jj yl; rw [Int.toNat_natCast, Int.toNat_natCast]
  have e2 : yl p R C (jy l C) = jj p R C l := by rw [e]; rfl
  rw [← e] at hP
  simp only [e2]
  have hlen := hP.len
  have htC : (jj p R C l).t ≤ C := by have := ZC hP.sort hP.lt; omega
  have hpl : (jj p R C l).ps.length = (jj p R C l).t := by rw [hP.ps]; simp [ints, hlen]
  rw [hpl, show wrap64 ((C : Int) - ((jj p R C l).t : Int)) = (C : Int) - ((jj p R C l).t : Int) from jh (by omega) (by omega)]
  have key := YN hR hC hf hP l ((C : Int) - ((jj p R C l).t : Int))
  rw [hP.ps, ZX]
  exact key
theorem QU (p r c : Int) (l : List Int) : (ZD p r c l).2.2.2.1.length ≤ 64 := by
  unfold ZD
  cases h : jd p r c l
  · simp
  obtain ⟨R, C, rfl, rfl, hR, hC, hl, h2, h7, hf, hx⟩ := vw h
  simp only [if_true, vU, Int.toNat_natCast]
  have := Zh ((jj p R C l).ps.map Int.toNat) C
  exact Nat.le_trans (Nat.mul_le_mul (Nat.le_trans this hC) hC) (by decide)
end Go.Proofs.Ytopkfhnnapncgaa.L
end
section
namespace Go.Proofs.Ytopkfhnnapncgaa.L
open Go.RowKit Go.Proofs.Ytopkfhnnapncgaa.F Go.Proofs.YtopkfhnnapncgaaW.PrintWords Go.Proofs.YtopkfhnnapncgaaW.PrintLast Go.Proofs.YtopkfhnnapncgaaW.PrintMore
open Go.Proofs.Ytopkfhnnapncgaa.Bits
set_option linter.unusedSimpArgs false
/-- n numbers from m on. -/
def vW (n : Nat) (m : Int) : List Int := (List.range n).map fun i : Nat => m + (i : Int)
theorem vy (n : Nat) (m : Int) : (vW n m).length = n := by simp [vW]
theorem Vg (n : Nat) (m : Int) (i : Nat) (h : i < n) : (vW n m).getD i 0 = m + i := by simp [vW, h]
theorem Qt (l : List Int) (m : Int) : ∀ n, n ≤ l.length → (List.range n).foldl (fun (s : List Int × Int) i => (s.1.set i s.2, s.2 + 1)) (l, m) = (vW n m ++ l.drop n, m + n)
  | 0, _ => by simp [vW]
  | n + 1, h => by
    rw [List.range_succ, List.foldl_append, Qt l m n (by omega)]
    simp only [List.foldl_cons, List.foldl_nil, Prod.mk.injEq]
    refine ⟨?_, by omega⟩
    rw [List.set_append_right _ _ (by rw [vy]; exact Nat.le_refl n), vy, Nat.sub_self, List.drop_eq_getElem_cons (by omega), List.set_cons_zero]
    simp [vW, List.range_succ]
theorem VA (l : List Int) (m : Int) (h : l.length ≤ 17592186044416) (h0 : 0 ≤ m) (h1 : m ≤ 140737488355328) : Ev (fun k => qa.f k l m) (m + l.length, vW l.length m) := by
  unfold qa.f
  have key := vk (fun k (s : List Int × Int) i => qa.l0 k s.1 s.2 i) l.length (fun s i => (s.1.set i s.2, s.2 + 1)) (fun i s => s.1.length = l.length ∧ s.2 = m + i) (fun s => (s.2, s.1))
    (fun s hs => by
      simp only [qa.l0, hs.1, show ¬ ((l.length : Int) < (l.length : Int)) by omega, if_false]
      exact Ev.now _)
    (fun i s hi hs => ⟨⟨by simp [hs.1], by simp only [hs.2]; omega⟩, fun r hr => by
      have hw : wrap64 (s.2 + 1) = s.2 + 1 := jh (by omega) (by omega)
      simp only [qa.l0, hs.1, show ((i : Int) < (l.length : Int)) by omega, show (0 : Int) ≤ (i : Int) by omega, if_true, Int.toNat_natCast, hw, zY (show i < 9223372036854775807 by omega)]
      exact hr⟩) (l, m) ⟨rfl, by simp⟩
  rw [Qt l m l.length (Nat.le_refl _)] at key
  simpa using key
theorem Vp (n : Nat) (m : Int) (h : n ≤ 17592186044416) (h0 : 0 ≤ m) (h1 : m ≤ 140737488355328) : Ev (fun k => qb.f k (vW n m) m) (m + n) := by
  unfold qb.f
  have key := vk (fun k (s : Int) i => qb.l0 k (vW n m) s i) n (fun s _ => s + 1) (fun i s => s = m + i) id
    (fun s hs => by
      simp only [qb.l0, vy, show ¬ ((n : Int) < (n : Int)) by omega, if_false]
      exact Ev.now _)
    (fun i s hi hs => ⟨by rw [hs]; omega, fun r hr => by
      have hw : wrap64 (s + 1) = s + 1 := jh (by omega) (by omega)
      have hg : rd (vW n m) (i : Int) = s := by rw [qL, Vg n m i hi, hs]
      simp only [qb.l0, vy, hg, show ((i : Int) < (n : Int)) by omega, show (0 : Int) ≤ (i : Int) by omega, if_true, hw, zY (show i < 9223372036854775807 by omega)]
      exact hr⟩) m (by simp)
  have e : ∀ n : Nat, (List.range n).foldl (fun (s : Int) _ => s + 1) m = m + n := by
    intro n
    induction n with
    | zero => simp
    | succ n ih => rw [List.range_succ, List.foldl_append, ih]; simp; omega
  rw [e n] at key
  exact key
end Go.Proofs.Ytopkfhnnapncgaa.L
end
section
namespace Go.Proofs.Ytopkfhnnapncgaa.L
open Go.RowKit Go.Proofs.Ytopkfhnnapncgaa.F Go.Proofs.YtopkfhnnapncgaaW.PrintWords Go.Proofs.YtopkfhnnapncgaaW.PrintLast Go.Proofs.YtopkfhnnapncgaaW.PrintMore
open Go.Proofs.Ytopkfhnnapncgaa.Bits
theorem Z8 (p r c : Int) (l : List Int) (h : l.length ≤ 17592186044416) : Ev (fun k => qk.f k p r c l 1) (1 + l.length, vW l.length 1) := by
  unfold qk.f
  exact Ev.bind (VA l 1 h (by omega) (by omega)) (Ev.now _)
theorem ZY (p r c : Int) (n : Nat) (h : n ≤ 17592186044416) : Ev (fun k => qz.f k p r c (vW n 1) 1) (1 + n) := by
  unfold qz.f
  refine Ev.bind (Vp n 1 h (by omega) (by omega)) ?_
  simp only [show ¬ (1 + (n : Int) < 0) by omega, if_false]; exact Ev.now _
end Go.Proofs.Ytopkfhnnapncgaa.L
end
section
namespace Go.Proofs.Ytopkfhnnapncgaa.Pure
open Go.RowKit Go.Proofs.Ytopkfhnnapncgaa.F Go.Proofs.Ytopkfhnnapncgaa.L Go.Proofs.YtopkfhnnapncgaaW.PrintWords Go.Proofs.YtopkfhnnapncgaaW.PrintLast Go.Proofs.YtopkfhnnapncgaaW.PrintMore
theorem FnExactDualMatrix (p r c : Int) (l : List Int) (_ : (Lit.int .i64 p).wf = true) (_ : (Lit.int .i64 r).wf = true) (_ : (Lit.int .i64 c).wf = true) (hl : l.length * 8 ≤ 140737488351232) (_ : ∀ x ∈ l, (Lit.int .i64 x).wf = true) :
    ∃ k, zc.f k p r c l = some true := by
  have h1 : l.length ≤ 17592186044416 := by omega
  refine Ev.rounds ?_
  unfold zc.f
  obtain ⟨n, hn, hb⟩ := VZ p r c l 1048576 h1 (by decide) (by decide)
  simp only [hn, Option.bind_some]
  by_cases h : n < 0
  · simp only [h, if_true]; exact Ev.now _
  simp only [h, if_false]
  have hm : (ZD p r c l).2.2.2.1.length ≤ 17592186044416 := Nat.le_trans (QU p r c l) (by decide)
  refine Ev.bind (y0 p r c l h1) (Ev.bind (QS p r c l) (Ev.bind (y0 p r c l h1) (Ev.bind (Zc p r c l) ?_)))
  have hi := Zc p r c l
  generalize ZD p r c l = m at hm hi
  obtain ⟨p', r', c', l', o⟩ := m
  simp only at hm hi ⊢
  refine Ev.bind (y4 p' r' c' l' p' r' c' l' hm) ?_
  simp only [decide_true, if_true, bne_self_eq_false]
  refine Ev.succ ?_
  simp only [zc.j0, Bool.false_eq_true, if_false]
  refine Ev.bind (y0 p r c l h1) (Ev.bind (y4 p r c l p r c l h1) ?_)
  simp only [decide_true, if_true]
  refine Ev.bind (Z8 p r c l h1) ?_
  simp only [show ¬ (1 + (l.length : Int) < 0) by omega, if_false]
  refine Ev.bind (y4 p' r' c' l' p' r' c' l' hm) ?_
  simp only [decide_true, if_true, bne_self_eq_false]
  refine Ev.succ ?_
  simp only [zc.j1, Bool.false_eq_true, if_false]
  refine Ev.bind (Z8 p' r' c' l' hm) (Ev.bind (ZY p' r' c' l'.length hm) ?_)
  simp only [show ¬ (1 + (l'.length : Int) < 0) by omega, if_false, if_true]
  refine Ev.bind (y0 p r c l h1) (Ev.bind hi (Ev.bind (y4 p' r' c' l' p' r' c' l' hm) ?_))
  simp only [decide_true, if_true, bne_self_eq_false]
  refine Ev.succ ?_
  simp only [zc.j2, Bool.false_eq_true, if_false]
  refine Ev.bind (ZY p' r' c' l'.length hm) ?_
  simp only [show ¬ (1 + (l'.length : Int) < 0) by omega, if_false, if_true]
  exact Ev.now _
end Go.Proofs.Ytopkfhnnapncgaa.Pure
end
section
namespace Go.Proofs.Ytopkfhnnapncgaa.fnExactDualMatrix
open Go.ChangeShapes Go.WideShapes Go.ChangeAt Go.RowKit Go.Joins
open Go.ChangeMaps (open_string shut_string)
set_option linter.unusedVariables false
theorem lifted (os : Os) (started : os.Started) (H : Type) (enc : TypeId × Value → H) :
    ReturnsInHanded {} Try.checked os 10 .any (Rows.fnExactDualMatrixSpec.pre6 enc Try.prog Try.f10 Rows.fnExactDualMatrixRow.domain false) (Rows.fnExactDualMatrixSpec.post enc Try.prog Try.f10 false true false false) := by
  refine returnsInHanded_of_change_sized (C := Try.checked) Open.own started (by kernel_rfl) Try.func10
    (ChangeSpec.witness6 (enc := enc) (C := Try.checked) false ⟨#[], #[.agg #[.int .i64 0, .int .i64 0, .int .i64 0, .slice none 0 0]], []⟩ 8 (by kernel_rfl) (by kernel_rfl) (by kernel_rfl) (by kernel_rfl)) ?_
  intro W base args ds gs before hval0 hW hcnd hsz0 _
  have hsz : (DataW.weightsEach Try.prog (Try.f10.params.toList ++ Rows.fnExactDualMatrixSpec.plain.varTypes Try.prog) (ds ++ gs)).all (· ≤ reachBytes) = true := hsz0
  have hval : ∀ (j : Nat) t v, Try.f10.params[j]? = some t → args[j]? = some v → Value.okWide Try.prog W .any base t v := hval0
  have hW' := hW
  obtain ⟨p, q, hA0, hV, rfl, hfz, hnd⟩ := hW
  have hA : DataW.TrodAll enc Try.prog W 0 (fun _ => true) true Try.f10.params.toList args.toList ds p := hA0
  rw [Try.params10] at hA hval hsz
  obtain ⟨v0, vs0, d0, ds0, p0, q0, hargs, rfl, rfl, h0, r0⟩ := trodAll_cons hA
  obtain ⟨rfl, rfl, rfl⟩ := trodAll_nil r0
  obtain rfl : args = #[v0] := by cases args; simp_all
  obtain ⟨rfl, rfl⟩ := trodVars_none hV
  have k0 := h0
  have lt0 : ∀ x ∈ p0, x.block < W.heap.size := by obtain ⟨m, hm⟩ := k0; exact DataW.trod_lt m _ _ _ hm
  obtain ⟨v0_0, v0_1, v0_2, v0_3, y0_0, y0_1, y0_2, y0_3, fuel0, rfl, hd0, hp0, t0_0, t0_1, t0_2, t0_3⟩ := open_agg4 Try.underlying24 (by kernel_rfl) (by kernel_rfl) (hval 0 24 v0 rfl rfl) h0
  have z0 : (DataW.weightsEach Try.prog [3, 3, 3, 22] [y0_0.1, y0_1.1, y0_2.1, y0_3.1]).all (· ≤ reachBytes) = true := Open.J8 hsz (j := 0) (t := 24) rfl (congrArg some hd0) Try.underlying24
  obtain ⟨a0_0, e0_0, _, w0_0⟩ := DataW.trod_int Try.underlying3 t0_0
  obtain rfl : v0_0 = _ := (List.cons.inj e0_0).1
  obtain ⟨a0_1, e0_1, _, w0_1⟩ := DataW.trod_int Try.underlying3 t0_1
  obtain rfl : v0_1 = _ := (List.cons.inj e0_1).1
  obtain ⟨a0_2, e0_2, _, w0_2⟩ := DataW.trod_int Try.underlying3 t0_2
  obtain rfl : v0_2 = _ := (List.cons.inj e0_2).1
  obtain ⟨A0_3, c0_3, l0_3, rfl, hr0_3, hc0_3, hn0_3, hw0_3⟩ := Open.VN (j := 3) Try.underlying22 Try.underlying3 (by kernel_rfl) (by kernel_rfl) z0 rfl rfl t0_3
  obtain ⟨k, h⟩ := Pure.FnExactDualMatrix a0_0 a0_1 a0_2 l0_3 w0_0 w0_1 w0_2 hn0_3 hw0_3
  refine (F.zc.calls (w := W) (hr0_3 := hr0_3) (hc0_3 := hc0_3) (h := h)).mono ?_
  rintro e W' ⟨he, hd⟩
  have bel : Below W.heap.size W W' := by first | exact hd | exact hd.below
  subst he
  exact ⟨_, rfl, _, _, _, [], _, [], hW', trodAll_mk1 (shut_bool Try.underlying4 _), (trodAll_cons_mk (Below.trod Open.laidOut (by kernel_rfl) (of_decide_eq_true (by kernel_rfl)) k0 bel lt0) trodAll_mk0), rfl, bel.frame _, fun h => by cases h⟩
theorem over : Rows.fnExactDualMatrixRow.holds Try.pinned (OpenSpec.ofChange Rows.fnExactDualMatrixSpec) :=
  OpenClaim.holds_of_wide 10 Try.f10 rfl rfl rfl rfl rfl rfl rfl ⟨rfl, rfl, rfl, rfl, rfl⟩ rfl rfl rfl rfl rfl (by kernel_rfl) Try.func10 (by kernel_rfl)
    (of_decide_eq_true (by kernel_rfl)) (by unfold Func.isWrapper; first | (rw [if_pos (by decide +kernel)]; kernel_rfl) | (rw [if_neg (by decide +kernel)]; exact ⟨rfl, rfl⟩))
    (fun os started H enc _ => lifted os started H enc)
theorem proved : Rows.FnExactDualMatrixSaid := over
end Go.Proofs.Ytopkfhnnapncgaa.fnExactDualMatrix
namespace Go.Proofs.Ytopkfhnnapncgaa
/-- The row, under a short name, for the claim. -/
theorem fnExactDualMatrix_holds : Rows.FnExactDualMatrixSaid := fnExactDualMatrix.proved
#print axioms fnExactDualMatrix_holds
end Go.Proofs.Ytopkfhnnapncgaa
end
