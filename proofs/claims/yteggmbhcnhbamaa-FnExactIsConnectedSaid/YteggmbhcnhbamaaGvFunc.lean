/-
  slices.IndexFunc and slices.ContainsFunc over []int, of whatever function value that answers as a plain partial function says and turns nothing that lay. No condition but that the partial function answers.
-/
import Derived.Test.YteggmbhcnhbamaaFx0
namespace Go.Proofs.Yteggmbhcnhbamaa.F
open Go.RowKit Go.Proofs.YteggmbhcnhbamaaW.PrintWords Go.Proofs.YteggmbhcnhbamaaW.PrintLast Go.Proofs.YteggmbhcnhbamaaW.PrintMore
set_option linter.unusedSimpArgs false
set_option linter.unusedVariables false
/-- Function g, bound to lb, answers as the partial function q says, in every world in which all that lay in w lies unturned. -/
def PredO (g : Nat) (lb : Array Value) (q : Int → Option Bool) (w : World) : Prop :=
  ∀ (W : World) (x : Int) (r : Bool), q x = some r → Below w.heap.size w W → Calls Try.prog g (#[.int .i64 x] ++ lb) W fun e w' => e = .returned (.bool r) ∧ Below W.heap.size W w'
/-- The place of the first element of which q says yes, counted from i; -1 where there is none. -/
def idxO (q : Int → Option Bool) : Int → List Int → Option Int
  | _, [] => some (-1)
  | i, x :: t => (q x).bind fun b => if b = true then some i else idxO q (i + 1) t
def anyO (q : Int → Option Bool) : List Int → Option Bool
  | [] => some false
  | x :: t => (q x).bind fun b => if b = true then some true else anyO q t
theorem idxO_any (q : Int → Option Bool) : ∀ (l : List Int) (i : Int) (r : Bool), 0 ≤ i → anyO q l = some r → ∃ m, idxO q i l = some m ∧ decide (0 ≤ m) = r
  | [], i, r, _, h => by
    simp only [anyO, Option.some.injEq] at h
    exact ⟨-1, rfl, by rw [← h]; rfl⟩
  | x :: t, i, r, h0, h => by
    simp only [anyO, Option.bind_eq_some_iff] at h
    obtain ⟨b, hb, h⟩ := h
    cases b with
    | true => simp only [if_true, Option.some.injEq] at h; exact ⟨i, by simp [idxO, hb], by rw [← h]; simpa using h0⟩
    | false =>
      simp only [Bool.false_eq_true, if_false] at h
      obtain ⟨m, h1, h2⟩ := idxO_any q t (i + 1) r (by omega) h
      exact ⟨m, by simp [idxO, hb, h1], h2⟩
set_option maxHeartbeats 8000000 in
set_option maxRecDepth 100000 in
theorem IndexFunc_calls (q : Int → Option Bool) (g : Nat) (lb : Array Value) (eg : ∀ args w, (callFunc g args).run Try.prog w = .ok (.enter g args) w) (A0 : Option Addr) (c0 : Nat) (l0 : List Int) (r : Int) (w : World)
    (hp : PredO g lb q w) (hr0 : Kd.C (Kd.int .i64) w A0 l0.length l0) (hc0 : l0.length ≤ c0) (hs : l0.length ≤ 17592186044416) (h : idxO q 0 l0 = some r) :
    Calls Try.prog 95 #[.slice A0 l0.length c0, .func (.func g) #[] lb] w fun e w' => e = .returned (.int .i64 r) ∧ Below w.heap.size w w' := by
  have HR0 := Aside0.mk hr0
  have HC0 := Aside0.mk hc0
  have HP := Aside0.mk hp
  have H0 := Aside0.mk h
  have HS := Aside0.mk hs
  clear hr0 hc0 hp h hs
  go_enter Try.func95, Try.ntmps95
  go_wp2
  go_loopg [8] l0.length (fun kq v8 w' => ∃ (i : Int), v8 = .int .i64 i ∧ Aside0 (0 ≤ i ∧ i ≤ l0.length) ∧ Aside0 (idxO q i (l0.drop i.toNat) = some r) ∧ Aside0 (l0.length - i.toNat ≤ kq) ∧ Aside0 (Below w.heap.size w w'))
  case atStart => exact ⟨0, rfl, ⟨Int.le_refl _, by omega⟩, ⟨by simpa using H0.out⟩, ⟨by simp⟩, ⟨Below.refl _ _⟩⟩
  case round =>
    clear H0
    obtain ⟨i, rfl, HI, HD, HK, HB⟩ := hrel
    by_cases c3 : i < (l0.length : Int)
    · have hi0 := HI.out.1
      have hi : i.toNat < l0.length := by omega
      have hi1 : (i + 1).toNat = i.toNat + 1 := by omega
      have c3b0 : decide (i < (l0.length : Int)) = true := decide_eq_true c3
      obtain ⟨ad, ead, hx⟩ := Kd.at_int (Kd.C_below HR0.out HB.out) i hi0 c3
      cases ead
      have hd := HD.out
      rw [List.drop_eq_getElem_cons hi] at hd
      simp only [idxO, Option.bind_eq_some_iff] at hd
      obtain ⟨b, hb, hd⟩ := hd
      have hrd : rd l0 i = l0[i.toNat] := by simp [rd, List.getElem?_eq_getElem hi]
      rw [← hrd] at hb
      have HD' := Aside0.mk hd
      have HBb := Aside0.mk hb
      have HI1 := Aside0.mk hi1
      have HI2 := Aside0.mk (show 0 ≤ i ∧ i + 1 ≤ l0.length by omega)
      have p7 := eq_true hi0
      have q7 := eq_true c3
      clear hd hb hrd HD hi hi0 c3 hi1
      have hcall := HP.out _ _ _ HBb.out HB.out
      cases b with
      | true =>
        have hr := HD'.out
        simp only [if_true, Option.some.injEq] at hr
        subst hr
        clear HD'
        go_wp2
        refine hcall.mono ?_
        rintro e w' ⟨rfl, hb⟩
        have n0_ := Aside0.mk (below_step HB.out hb)
        clear HB hb hx hcall
        have HB := n0_
        clear n0_
        go_wp2
        go_ret
        exact ⟨rfl, HB.out⟩
      | false =>
        have hr := HD'.out
        simp only [Bool.false_eq_true, if_false] at hr
        have HD2 := Aside0.mk hr
        clear HD' hr
        go_wp2
        refine hcall.mono ?_
        rintro e w' ⟨rfl, hb⟩
        have n0_ := Aside0.mk (below_step HB.out hb)
        clear HB hb hx hcall
        have HB := n0_
        clear n0_
        go_wp2
        go_roundg (l0.length - (i.toNat + 1))
        case measure => have := HK.out; have := HI2.out; omega
        case rel => exact ⟨i + 1, by rw [show wrap64 (i + 1) = i + 1 from by unfold wrap64; have := HI2.out; have := HS.out; omega], ⟨by have := HI2.out; omega⟩, ⟨by rw [HI1.out]; exact HD2.out⟩, ⟨by rw [HI1.out]; exact Nat.le_refl _⟩, HB⟩
    · have c3b0 : decide (i < (l0.length : Int)) = false := decide_eq_false c3
      have hi : i.toNat = l0.length := by have := HI.out; omega
      have hd := HD.out
      rw [hi, List.drop_length] at hd
      simp only [idxO, Option.some.injEq] at hd
      subst hd
      clear HD hi
      go_wp2
      go_ret
      exact ⟨rfl, HB.out⟩
set_option maxHeartbeats 8000000 in
set_option maxRecDepth 100000 in
theorem ContainsFunc_calls (q : Int → Option Bool) (g : Nat) (lb : Array Value) (eg : ∀ args w, (callFunc g args).run Try.prog w = .ok (.enter g args) w) (A0 : Option Addr) (c0 : Nat) (l0 : List Int) (r : Bool) (w : World)
    (hp : PredO g lb q w) (hr0 : Kd.C (Kd.int .i64) w A0 l0.length l0) (hc0 : l0.length ≤ c0) (hs : l0.length ≤ 17592186044416) (h : anyO q l0 = some r) :
    Calls Try.prog 60 #[.slice A0 l0.length c0, .func (.func g) #[] lb] w fun e w' => e = .returned (.bool r) ∧ Below w.heap.size w w' := by
  obtain ⟨m, hm, rfl⟩ := idxO_any q l0 0 r (by decide) h
  have hcall := IndexFunc_calls q g lb eg A0 c0 l0 m
  have HR0 := Aside0.mk hr0
  have HC0 := Aside0.mk hc0
  have HP := Aside0.mk hp
  have H0 := Aside0.mk hm
  have HS := Aside0.mk hs
  clear hr0 hc0 hp h hm hs
  go_enter Try.func60, Try.ntmps60
  go_wp2_with (go_at_call 95; refine (hcall _ HP.out HR0.out HC0.out HS.out H0.out).mono ?_; rintro e w' ⟨rfl, hb⟩)
  go_ret
  exact ⟨rfl, hb⟩
end Go.Proofs.Yteggmbhcnhbamaa.F
