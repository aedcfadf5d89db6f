/- Several texts of this session in one: GvSwap, GvReduce. Conditions: as each theorem says. -/
import Derived.Test.YtjlbfbpjcmjdfaaZFromMatrix0
import Derived.Test.YtjlbfbpjcmjdfaaZFromMatrix2
set_option maxHeartbeats 8000000
set_option maxRecDepth 100000
section
namespace Go.Proofs.Ytjlbfbpjcmjdfaa.F
open Go.RowKit Go.Proofs.YtjlbfbpjcmjdfaaW.PrintWords Go.Proofs.YtjlbfbpjcmjdfaaW.PrintLast Go.Proofs.YtjlbfbpjcmjdfaaW.PrintMore
set_option linter.unusedSimpArgs false
set_option linter.unusedVariables false
/-- The table with rows i and j changed about. -/
def Vt (l : List (List Int)) (i j : Int) : Option (List (List Int)) :=
  if 0 ≤ i ∧ i < (l.length : Int) ∧ 0 ≤ j ∧ j < (l.length : Int) then some ((l.set i.toNat (l.getD j.toNat [])).set j.toNat (l.getD i.toNat [])) else none
theorem Yi {l r : List (List Int)} {i j : Int} (h : Vt l i j = some r) : 0 ≤ i ∧ i < (l.length : Int) ∧ 0 ≤ j ∧ j < (l.length : Int) ∧ r = (l.set i.toNat (l.getD j.toNat [])).set j.toNat (l.getD i.toNat []) := by
  unfold Vt at h
  split at h
  · rename_i c; exact ⟨c.1, c.2.1, c.2.2.1, c.2.2.2, (Option.some.inj h).symm⟩
  · cases h
theorem za4 {α : Type} (l : List α) (m : Nat) {x : α} (h : l[m]? = some x) : (l.drop (m * 1)).take 1 = [x] := by
  rw [Nat.mul_one]
  obtain ⟨hm, rfl⟩ := List.getElem?_eq_some_iff.1 h
  rw [List.drop_eq_getElem_cons hm]
  rfl
theorem zcm {α : Type} {d : Kd α} (hs : d.sz = 1) {e g n cap i j base : Nat} {ok : Nat → Prop} {W : World} {xs : List α} (h : Kd.S d e W base ok (.slice (some ⟨g, 0, none⟩) n cap) xs) (z : α) (hi : i < xs.length) (hj : j < xs.length) {u v : Value}
    (hu : W.cell? ⟨g, i, none⟩ = some u) (hv : W.cell? ⟨g, j, none⟩ = some v) :
    Kd.S d e ((W.setCell ⟨g, i, none⟩ v).setCell ⟨g, j, none⟩ u) base ok (.slice (some ⟨g, 0, none⟩) n cap) ((xs.set i (xs.getD j z)).set j (xs.getD i z)) := by
  obtain ⟨f, hok, inner, ho, hr⟩ := h
  obtain ⟨hil, hcase⟩ := ho
  rcases hcase with ⟨hv0, _⟩ | ⟨g', cap', cur, hvv, hbase, hblk, hn, hm, hsz, htake⟩
  · cases hv0
  injection hvv with ha hn' hc'
  injection ha with ha
  injection ha with ha _ _
  subst ha
  subst hc'
  have hlen : xs.zipIdx.length = xs.length := List.length_zipIdx
  rw [hlen] at hn' hil htake hn
  subst hn'
  change inner.length = xs.length * d.sz at hil
  change cur.size = cap * d.sz at hsz
  change cur.toList.take (xs.length * d.sz) = inner at htake
  have hiC : i < cur.size := by rw [hsz, hs]; omega
  have hjC : j < cur.size := by rw [hsz, hs]; omega
  have hcell : ∀ m, W.cell? ⟨g, m, none⟩ = cur[m]? := fun m => zb hblk m
  rw [hcell] at hu hv
  have hin : ∀ m, m < xs.length → inner[m]? = cur[m]? := fun m hm => by
    rw [← htake, List.getElem?_take, if_pos (by rw [hs]; omega), Array.getElem?_toList]
  have hb2 : ((W.setCell ⟨g, i, none⟩ v).setCell ⟨g, j, none⟩ u).heap[g]? = some (.cells ((cur.setIfInBounds i v).setIfInBounds j u) e (0, 0)) := by
    simp [World.setCell, hblk, Array.getElem?_modify]
  have hfar : ∀ k, k ≠ g → ((W.setCell ⟨g, i, none⟩ v).setCell ⟨g, j, none⟩ u).heap[k]? = W.heap[k]? := fun k hk => (Below.heap_setCell _ ⟨g, j, none⟩ u k hk).trans (Below.heap_setCell _ ⟨g, i, none⟩ v k hk)
  have hlen' : ((xs.set i (xs.getD j z)).set j (xs.getD i z)).length = xs.length := by rw [List.length_set, List.length_set]
  refine ⟨fun k => if f k = i then j else if f k = j then i else f k, hok, (inner.set i v).set j u, ⟨?_, Or.inr ⟨g, cap, _, ?_, hbase, hb2, ?_, hm, ?_, ?_⟩⟩, ?_, fun m p hp => ?_⟩
  · rw [List.length_set, List.length_set, hil, List.length_zipIdx, hlen']; rfl
  · rw [List.length_zipIdx, hlen']
  · rw [List.length_zipIdx, hlen']; exact hn
  · rw [Array.size_setIfInBounds, Array.size_setIfInBounds]; exact hsz
  · rw [List.length_zipIdx, hlen']
    change List.take (xs.length * d.sz) _ = _
    rw [← htake, Array.toList_setIfInBounds, Array.toList_setIfInBounds, List.take_set, List.take_set]
  · rw [List.length_set, List.length_set, hil, List.length_zipIdx, hlen']; rfl
  · have hpm : p.2 = m ∧ ((xs.set i (xs.getD j z)).set j (xs.getD i z))[m]? = some p.1 := by
      rw [List.getElem?_zipIdx, Nat.zero_add] at hp
      obtain ⟨q, hq, rfl⟩ := Option.map_eq_some_iff.1 hp
      exact ⟨rfl, hq⟩
    obtain ⟨hp2, hp1⟩ := hpm
    have hml : m < xs.length := by
      have := (List.getElem?_eq_some_iff.1 hp1).1
      rw [hlen'] at this; exact this
    have old : ∀ m', m' < xs.length → ∀ x, xs[m']? = some x → ∀ c, inner[m']? = some c → d.M W base (fun k => (ok k ∧ some k ≠ (Value.slice (some ⟨g, 0, none⟩) xs.length cap).ownBlock) ∧ f k = m') x [c] := fun m' hm' x hx c hc => by
      have h1 := hr.2 m' (x, m') (Kd.QY hx)
      change d.M W base _ x ((inner.drop (m' * d.sz)).take d.sz) at h1
      rw [hs, za4 inner m' hc] at h1
      exact h1
    have give : ∀ m', m' < xs.length → ∀ c, inner[m']? = some c → (∀ k, f k = m' → (if f k = i then j else if f k = j then i else f k) = m) → xs[m']? = some p.1 → ((inner.set i v).set j u)[m]? = some c →
        d.M ((W.setCell ⟨g, i, none⟩ v).setCell ⟨g, j, none⟩ u) base (fun k => (ok k ∧ some k ≠ (Value.slice (some ⟨g, 0, none⟩) xs.length cap).ownBlock) ∧ (if f k = i then j else if f k = j then i else f k) = p.2) p.1 ((((inner.set i v).set j u).drop (m * d.sz)).take d.sz) := fun m' hm' c hc hf hx hnew => by
      rw [hs, za4 _ m hnew, hp2]
      refine d.M_mono (fun k hk => ⟨hk.1, hf k hk.2⟩) (d.M_move (fun k hk => hfar k ?_) (old m' hm' _ hx c hc))
      intro he
      exact hk.1.2 (by rw [he]; rfl)
    have hil' : i < inner.length := by rw [hil, hs]; omega
    have hjl' : j < inner.length := by rw [hil, hs]; omega
    have gd : ∀ m', m' < xs.length → xs[m']? = some (xs.getD m' z) := fun m' hm' => by rw [List.getD_eq_getElem?_getD, List.getElem?_eq_getElem hm']; rfl
    by_cases c1 : m = j
    · subst c1
      rw [List.getElem?_set_self (by rw [List.length_set]; exact hj)] at hp1
      refine give i hi u ((hin i hi).trans hu) (fun k hk => by rw [if_pos hk]) ?_ ?_
      · rw [gd i hi]; exact hp1
      · rw [List.getElem?_set_self (by rw [List.length_set]; exact hjl')]
    · rw [List.getElem?_set_ne (Ne.symm c1)] at hp1
      by_cases c2 : m = i
      · subst c2
        rw [List.getElem?_set_self hi] at hp1
        refine give j hj v ((hin j hj).trans hv) (fun k hk => by rw [if_neg (by omega), if_pos hk]) ?_ ?_
        · rw [gd j hj]; exact hp1
        · rw [List.getElem?_set_ne (Ne.symm c1), List.getElem?_set_self hil']
      · rw [List.getElem?_set_ne (Ne.symm c2)] at hp1
        have hmi : m < inner.length := by rw [hil, hs]; omega
        refine give m hml inner[m] (List.getElem?_eq_getElem hmi) (fun k hk => by rw [if_neg (by omega), if_neg (by omega)]; exact hk) hp1 ?_
        rw [List.getElem?_set_ne (Ne.symm c1), List.getElem?_set_ne (Ne.symm c2), List.getElem?_eq_getElem hmi]
/-- Two blocks whose cells are of different types are two. -/
theorem Yd {W : World} {g h t s : Nat} {a b : Array Value} (hg : W.heap[g]? = some (.cells a t (0, 0))) (hh : W.heap[h]? = some (.cells b s (0, 0))) (hts : t ≠ s) : g ≠ h := by
  rintro rfl
  rw [hg] at hh
  injection hh with hh
  injection hh with _ hh _
  exact hts hh
theorem Vz {W : World} {g h t : Nat} {cs : Array Value} {i j : Nat} {u v : Value} (hb : W.heap[g]? = some (.cells cs t (0, 0))) (hne : g ≠ h) : ((W.setCell ⟨h, i, none⟩ u).setCell ⟨h, j, none⟩ v).heap[g]? = some (.cells cs t (0, 0)) :=
  zJ (zJ hb hne u) hne v
theorem zb6 {α : Type} {d : Kd α} {e W base ok v xs} (h : d.R e W base ok v xs) {g t : Nat} {cells : Array Value} (hb : W.heap[g]? = some (.cells cells t (0, 0))) (ht : ∀ q, q ∈ e :: d.E → q ≠ t) (i j : Nat) (x y : Value) : d.R e ((W.setCell ⟨g, i, none⟩ x).setCell ⟨g, j, none⟩ y) base ok v xs :=
  Kd.zy (Kd.zF (p := ⟨g, j, none⟩) (Kd.zF (p := ⟨g, i, none⟩) (Kd.zV h hb ht) (fun _ hk => hk.2) x) (fun _ hk => hk.2) y) (fun _ hk => hk.1)
end Go.Proofs.Ytjlbfbpjcmjdfaa.F
end
section
namespace Go.Proofs.Ytjlbfbpjcmjdfaa.F
open Go.RowKit Go.Proofs.YtjlbfbpjcmjdfaaW.PrintWords Go.Proofs.YtjlbfbpjcmjdfaaW.PrintLast Go.Proofs.YtjlbfbpjcmjdfaaW.PrintMore
attribute [local go_sem] j9 j8 vO vV jO jP vl j6   -- for this text's walks alone
set_option linter.unusedVariables false
set_option linter.unusedSimpArgs false
theorem zaS : (Try.prog.info? 22).map (fun i => (i.zero, i.size, i.bytes)) = some (some (.slice none 0 0), 1, 24) := by kernel_rfl
def zG (xs : List (List Int)) (i : Int) : (List Int) := xs.getD i.toNat ([] : List Int)
theorem yD {w : World} {A : Option Addr} {n : Nat} {xs : List (List Int)} (h : Kd.C (Kd.slice 3 (Kd.int .i64)) w A n xs) (i : Int) (h0 : 0 ≤ i) (h1 : i < n) : ∃ ad A0 c0, A = some ad ∧ w.cell? (ad.add i.toNat) = some (.slice A0 (zG xs i).length c0) ∧ (zG xs i).length ≤ c0 ∧ (Kd.int .i64).C w A0 (zG xs i).length (zG xs i) := by
  obtain ⟨ad, c, e, _, hK, hc0⟩ := Kd.zcz h ([] : List Int) i h0 h1
  have hc : ∀ j u, c[j]? = some u → w.cell? (ad.add (i.toNat * 1 + j)) = some u := hc0
  obtain ⟨A0, c0, rfl, l0, g0⟩ := hK
  exact ⟨ad, A0, c0, e, by have hq := hc 0 _ rfl; rwa [Nat.mul_one, Nat.add_zero] at hq, l0, g0⟩

mutual
def zc.l0 : Nat → List (List Int) → Int → Int → Int → Int → List Int → Option (Int × Int × Int × List Int × List Int)
  | 0, _, _, _, _, _, _ => none
  | k + 1, x4, x5, x199000, x199001, x199002, x199003 => if x5 < x199001 then ((some (([] : List Int) : List Int)).bind fun y203 => (if 0 ≤ (wrap64 (x5 * x199002)) then (if (wrap64 (x5 * x199002)) ≤ (wrap64 ((wrap64 (x5 + 1)) * x199002)) then (if (wrap64 ((wrap64 (x5 + 1)) * x199002)) ≤ (x199003.length : Int) then (if y203.length + ((x199003.take ((wrap64 ((wrap64 (x5 + 1)) * x199002)) : Int).toNat).drop ((wrap64 (x5 * x199002)) : Int).toNat).length < 17592186044416 then (if x4.length < 5864062014805 then (zc.l0 k (x4 ++ [(y203 ++ ((x199003.take ((wrap64 ((wrap64 (x5 + 1)) * x199002)) : Int).toNat).drop ((wrap64 (x5 * x199002)) : Int).toNat))]) (wrap64 (x5 + 1)) x199000 x199001 x199002 x199003) else (none)) else (none)) else (none)) else (none)) else (none))) else (zc.l1 k x4 (([] : List Int)) 0 x199000 x199001 x199002 x199003)
def zc.l1 : Nat → List (List Int) → List Int → Int → Int → Int → Int → List Int → Option (Int × Int × Int × List Int × List Int)
  | 0, _, _, _, _, _, _, _ => none
  | k + 1, x4, x6, x7, x199000, x199001, x199002, x199003 => if x7 < x199002 then (zc.l2 k x4 x6 x7 (x6.length : Int) (x6.length : Int) x199000 x199001 x199002 x199003) else (if 0 ≤ (x6.length : Int) then (if (x6.length : Int) ≤ (x4.length : Int) then ((some (x4.take ((x6.length : Int) : Int).toNat : List (List Int))).bind fun y245 => (zc.l6 k x6 y245 (y245.length : Int) 0 x199000 (x6.length : Int) x199002 (([] : List Int)))) else (none)) else (none))
def zc.j3 : Nat → List (List Int) → List Int → Int → Int → Int → Int → Int → Int → List Int → Option (Int × Int × Int × List Int × List Int)
  | 0, _, _, _, _, _, _, _, _, _ => none
  | k + 1, x4, x6, x7, x8, x9, x199000, x199001, x199002, x199003 => if x9 ≥ (x4.length : Int) then (zc.l1 k x4 x6 (wrap64 (x7 + 1)) x199000 x199001 x199002 x199003) else ((Vt x4 x8 x9).bind fun x4 => (if 0 ≤ x8 then (if x8 < (x4.length : Int) then (if 0 ≤ x7 then (if x7 < ((zG x4 x8).length : Int) then ((zp.f k x199000 (rd (zG x4 x8) x7)).bind fun t220 => (zc.l3 k x4 x6 x7 x8 t220 ((zG x4 x8).length : Int) 0 x199000 x199001 x199002 x199003)) else (none)) else (none)) else (none)) else (none)))
def zc.l3 : Nat → List (List Int) → List Int → Int → Int → Int → Int → Int → Int → Int → Int → List Int → Option (Int × Int × Int × List Int × List Int)
  | 0, _, _, _, _, _, _, _, _, _, _, _ => none
  | k + 1, x4, x6, x7, x8, x10, x100, x101, x199000, x199001, x199002, x199003 => if x101 < x100 then (if 0 ≤ x8 then (if x8 < (x4.length : Int) then (if 0 ≤ x101 then (if x101 < ((zG x4 x8).length : Int) then (if x199000 = 0 then (none) else (zc.l3 k (x4.set (x8 : Int).toNat ((zG x4 x8).set (x101 : Int).toNat (Int.tmod (wrap64 ((rd (zG x4 x8) x101) * x10)) x199000))) x6 x7 x8 x10 x100 (wrap64 (x101 + 1)) x199000 x199001 x199002 x199003)) else (none)) else (none)) else (none)) else (none)) else (zc.l4 k x4 x6 x7 x8 (x4.length : Int) 0 x199000 x199001 x199002 x199003)
def zc.l4 : Nat → List (List Int) → List Int → Int → Int → Int → Int → Int → Int → Int → List Int → Option (Int × Int × Int × List Int × List Int)
  | 0, _, _, _, _, _, _, _, _, _, _ => none
  | k + 1, x4, x6, x7, x8, x124, x125, x199000, x199001, x199002, x199003 => if x125 < x124 then (if 0 ≤ x125 then (if x125 < (x4.length : Int) then (if 0 ≤ x7 then (if x7 < ((zG x4 x125).length : Int) then (zc.l5 k x4 x6 x7 x8 x125 (rd (zG x4 x125) x7) 0 x124 x125 x199000 x199001 x199002 x199003) else (none)) else (none)) else (none)) else (none)) else (if x6.length < 17592186044416 then (zc.l1 k x4 (x6 ++ [x7]) (wrap64 (x7 + 1)) x199000 x199001 x199002 x199003) else (none))
def zc.l5 : Nat → List (List Int) → List Int → Int → Int → Int → Int → Int → Int → Int → Int → Int → Int → List Int → Option (Int × Int × Int × List Int × List Int)
  | 0, _, _, _, _, _, _, _, _, _, _, _, _, _ => none
  | k + 1, x4, x6, x7, x8, x12, x13, x14, x124, x125, x199000, x199001, x199002, x199003 => if x14 < x199002 then (if x12 = x8 then (zc.l4 k x4 x6 x7 x8 x124 (wrap64 (x125 + 1)) x199000 x199001 x199002 x199003) else (if 0 ≤ x12 then (if x12 < (x4.length : Int) then (if 0 ≤ x14 then (if x14 < ((zG x4 x12).length : Int) then (if 0 ≤ x8 then (if x8 < (x4.length : Int) then (if x14 < ((zG x4 x8).length : Int) then (if x199000 = 0 then (none) else (zc.l5 k (x4.set (x12 : Int).toNat ((zG x4 x12).set (x14 : Int).toNat (Int.tmod (wrap64 ((rd (zG x4 x12) x14) + (wrap64 ((wrap64 (x199000 - x13)) * (rd (zG x4 x8) x14))))) x199000))) x6 x7 x8 x12 x13 (wrap64 (x14 + 1)) x124 x125 x199000 x199001 x199002 x199003)) else (none)) else (none)) else (none)) else (none)) else (none)) else (none)) else (none))) else (zc.l4 k x4 x6 x7 x8 x124 (wrap64 (x125 + 1)) x199000 x199001 x199002 x199003)
def zc.l2 : Nat → List (List Int) → List Int → Int → Int → Int → Int → Int → Int → List Int → Option (Int × Int × Int × List Int × List Int)
  | 0, _, _, _, _, _, _, _, _, _ => none
  | k + 1, x4, x6, x7, x8, x9, x199000, x199001, x199002, x199003 => if x9 < (x4.length : Int) then (if 0 ≤ x9 then (if 0 ≤ x7 then (if x7 < ((zG x4 x9).length : Int) then (if (rd (zG x4 x9) x7) = 0 then (zc.l2 k x4 x6 x7 x8 (wrap64 (x9 + 1)) x199000 x199001 x199002 x199003) else (zc.j3 k x4 x6 x7 x8 x9 x199000 x199001 x199002 x199003)) else (none)) else (none)) else (none)) else (zc.j3 k x4 x6 x7 x8 x9 x199000 x199001 x199002 x199003)
def zc.l6 : Nat → List Int → List (List Int) → Int → Int → Int → Int → Int → List Int → Option (Int × Int × Int × List Int × List Int)
  | 0, _, _, _, _, _, _, _, _ => none
  | k + 1, x6, x191, x192, x193, x245000, x245001, x245002, x245003 => if x193 < x192 then (if 0 ≤ x193 then (if x193 < (x191.length : Int) then (if x245003.length + (zG x191 x193).length < 17592186044416 then (zc.l6 k x6 x191 x192 (wrap64 (x193 + 1)) x245000 x245001 x245002 (x245003 ++ (zG x191 x193))) else (none)) else (none)) else (none)) else (some (x245000, x245001, x245002, x245003, x6))
end
def zc.f (k : Nat) (a0_0 : Int) (a0_1 : Int) (a0_2 : Int) (l0_3 : List Int) : Option (Int × Int × Int × List Int × List Int) := zc.l0 k (([] : List (List Int))) 0 a0_0 a0_1 a0_2 l0_3
def zc.T15 : Bool × List (List Nat × List Nat) := (true, [([], []), ([], []), ([], []), ([], []), ([], []), ([], []), ([4, 5], [4, 5]), ([6], [6]), ([], []), ([], []), ([8, 9], [8, 9]), ([10], [10]), ([0, 1, 0, 1, 4, 5, 6, 7, 11], [0, 1]), ([12, 7, 0, 1, 4, 5, 6, 7, 11], [7, 12]), ([2, 3, 0, 1, 2, 3, 4, 5, 6, 7, 8, 9, 10, 11, 12, 13], [2, 3]), ([14, 11, 13, 0, 1, 2, 3, 4, 5, 6, 7, 8, 9, 10, 11, 12, 13], [11, 14])])
def zc.B15 : List Nat := [0, 0, 0, 0, 0, 0, 48, 112, 0, 0, 768, 1792, 4083, 8179, 16383, 32767]
theorem zc.zcT : vq .any (opsOf Try.f37 15) = zc.T15 := by kernel_rfl
theorem zc.zb7 : vk zc.T15.2 zc.B15 = true := by kernel_rfl
def zc.T16 : Bool × List (List Nat × List Nat) := (true, [([], []), ([0], [0]), ([], []), ([], []), ([2, 3], [2, 3]), ([4], [4]), ([], []), ([5, 6], [5, 6]), ([7], [7]), ([1, 8], [1, 8]), ([9, 9, 0, 1, 2, 3, 4, 5, 6, 7, 8, 9], [9])])
def zc.B16 : List Nat := [0, 1, 0, 0, 12, 28, 0, 124, 252, 511, 1023]
theorem zc.zcG : vq .any (opsOf Try.f37 16) = zc.T16 := by kernel_rfl
theorem zc.zci : vk zc.T16.2 zc.B16 = true := by kernel_rfl
def zc.T20 : Bool × List (List Nat × List Nat) := (true, [([], []), ([], []), ([0, 1], [0, 1]), ([2], [2]), ([], []), ([], []), ([], []), ([5, 6], [5, 6]), ([7], [7]), ([], []), ([8, 9], [8, 9]), ([10], [10]), ([], []), ([11, 12], [11, 12]), ([], []), ([14], [14]), ([13, 15], [13, 15]), ([3, 4, 0, 1, 2, 3, 4, 5, 6, 7, 8, 9, 10, 11, 12, 13, 14, 15, 16], [3, 4]), ([17, 16, 0, 1, 2, 3, 4, 5, 6, 7, 8, 9, 10, 11, 12, 13, 14, 15, 16], [16, 17])])
def zc.B20 : List Nat := [0, 0, 3, 7, 0, 0, 0, 96, 224, 0, 992, 2016, 0, 8160, 0, 16384, 65504, 131071, 262143]
theorem zc.zcQ : vq .any (opsOf Try.f37 20) = zc.T20 := by kernel_rfl
theorem zc.zca : vk zc.T20.2 zc.B20 = true := by kernel_rfl
def zc.T29 : Bool × List (List Nat × List Nat) := (true, [([], []), ([], []), ([0, 1], [0, 1]), ([2], [2]), ([], []), ([], []), ([], []), ([5, 6], [5, 6]), ([7], [7]), ([], []), ([8, 9], [8, 9]), ([10], [10]), ([], []), ([12], [12]), ([], []), ([13, 14], [13, 14]), ([], []), ([], []), ([16, 17], [16, 17]), ([18], [18]), ([], []), ([19, 20], [19, 20]), ([21], [21]), ([15, 22], [15, 22]), ([11, 23], [11, 23]), ([], []), ([25], [25]), ([24, 26], [24, 26]), ([3, 4, 0, 1, 2, 3, 4, 5, 6, 7, 8, 9, 10, 11, 12, 13, 14, 15, 16, 17, 18, 19, 20, 21, 22, 23, 24, 25, 26, 27], [3, 4]), ([28, 27, 0, 1, 2, 3, 4, 5, 6, 7, 8, 9, 10, 11, 12, 13, 14, 15, 16, 17, 18, 19, 20, 21, 22, 23, 24, 25, 26, 27], [27, 28])])
def zc.B29 : List Nat := [0, 0, 3, 7, 0, 0, 0, 96, 224, 0, 992, 2016, 0, 4096, 0, 28672, 0, 0, 196608, 458752, 0, 2031616, 4128768, 8384512, 16777184, 0, 33554432, 134217696, 268435455, 536870911]
theorem zc.zcS : vq .any (opsOf Try.f37 29) = zc.T29 := by kernel_rfl
theorem zc.zct : vk zc.T29.2 zc.B29 = true := by kernel_rfl
theorem zc.calls (k : Nat) (a0_0 : Int) (a0_1 : Int) (a0_2 : Int) (A0_3 : Option Addr) (c0_3 : Nat) (l0_3 : List Int) (r1 : Int) (r2 : Int) (r3 : Int) (r4 : List Int) (r5 : List Int) (w : World) (hr0_3 : Kd.C (Kd.int .i64) w A0_3 l0_3.length l0_3) (hc0_3 : l0_3.length ≤ c0_3) (h : zc.f k a0_0 a0_1 a0_2 l0_3 = some (r1, r2, r3, r4, r5)) :
    Calls Try.prog 37 #[.agg #[.int .i64 a0_0, .int .i64 a0_1, .int .i64 a0_2, .slice A0_3 l0_3.length c0_3]] w fun e w' => ∃ v3_ v4_ : Value, e = .returned (.tuple #[.agg #[.int .i64 r1, .int .i64 r2, .int .i64 r3, v3_], v4_]) ∧ Kd.R (Kd.int .i64) 3 w' w.heap.size (fun k_ => some k_ ≠ (v4_ : Value).ownBlock) v3_ r4 ∧ Kd.R (Kd.int .i64) 3 w' w.heap.size (fun k_ => some k_ ≠ (v3_ : Value).ownBlock) v4_ r5 ∧ Below w.heap.size w w' := by
  have hu29 := Try.underlying29
  have HR0_3 := Aside0.mk hr0_3
  have HC0_3 := Aside0.mk hc0_3
  clear hr0_3 hc0_3
  have HB := Aside0.mk (Below.refl w.heap.size w)
  have H : (zc.l0 k (([] : List (List Int))) 0 a0_0 a0_1 a0_2 l0_3) = some (r1, r2, r3, r4, r5) := h
  clear h
  obtain ⟨y200, hy200⟩ : ∃ y_ : List (List Int), y_ = (([] : List (List Int))) := ⟨_, rfl⟩
  replace H : (zc.l0 k y200 0 a0_0 a0_1 a0_2 l0_3) = some (r1, r2, r3, r4, r5) := by first | (rw [hy200]; with_reducible exact H) | (have H2_ := (Option.bind_some _ _).symm.trans H; rw [hy200]; with_reducible exact H2_) | (have H2_ := (Option.bind_some _ _).symm.trans H; with_reducible exact H2_) | with_reducible exact H | (rw [hy200]; exact H) | exact H
  have Ny200 := Aside0.mk hy200
  clear hy200
  have H' := Aside0.mk H
  clear H
  go_enter Try.func37, Try.ntmps37
  go_wp2_with (first | ((with_reducible refine zq (N := 1) rfl ?_); refine zo ?hg (N := 1) ?hd (cs := #[.int .i64 a0_0, .int .i64 a0_1, .int .i64 a0_2, .slice A0_3 l0_3.length c0_3]) (t := 29) ?hr ?_; (case hd => rfl); (case hg => rfl); (case hr => exact sqG); intro gb198 hg w2 hbox hb; have n0_ := Aside0.mk (ze sqB hb); have n1_ := Aside0.mk (hbox); have n2_ := Aside0.mk ((sqS hg : w.heap.size ≤ gb198)); have n3_ := Aside0.mk ((sqS hg : w.heap.size ≤ gb198)); clear HB; have HB := n0_; have BK198 := n1_; have GW198 := n2_; have GE198 := n3_; clear n0_ n1_ n2_ n3_; clear hb hbox hg) | ((with_reducible refine zq (N := 2) rfl ?_); refine zo ?hg (N := 2) ?hd (cs := #[.int .i64 0, .int .i64 0, .int .i64 0, .slice none 0 0]) (t := 29) ?hr ?_; (case hd => rfl); (case hg => rfl); (case hr => exact sqG); intro gb199 hg w3 hbox hb; have n0_ := Aside0.mk (zd (g := gb198) (o := .cells #[.int .i64 a0_0, .int .i64 a0_1, .int .i64 a0_2, .slice A0_3 l0_3.length c0_3] 29 (0, 0)) (sqK BK198.out) hb); have n1_ := Aside0.mk (ze sqB hb); have n2_ := Aside0.mk (hbox); have n3_ := Aside0.mk ((sqS hg : w.heap.size ≤ gb199)); have n4_ := Aside0.mk ((sqS hg : w.heap.size ≤ gb199)); have n5_ := Aside0.mk ((by rw [hg]; exact Nat.ne_of_lt (zz (g := gb198) (o := .cells #[.int .i64 a0_0, .int .i64 a0_1, .int .i64 a0_2, .slice A0_3 l0_3.length c0_3] 29 (0, 0)) (sqK BK198.out)) : gb198 ≠ gb199)); have n6_ := Aside0.mk ((by rw [hg]; exact Nat.ne_of_gt (zz (g := gb198) (o := .cells #[.int .i64 a0_0, .int .i64 a0_1, .int .i64 a0_2, .slice A0_3 l0_3.length c0_3] 29 (0, 0)) (sqK BK198.out)) : gb199 ≠ gb198)); clear BK198; clear HB; have BK198 := n0_; have HB := n1_; have BK199 := n2_; have GW199 := n3_; have GE199 := n4_; have NB198_199 := n5_; have NB199_198 := n6_; clear n0_ n1_ n2_ n3_ n4_ n5_ n6_; clear hb hbox hg) | ((with_reducible refine zq (N := 18) rfl ?_); refine Kd.zcA (Kd.slice 3 (Kd.int .i64)) _ 22 ?hg (N := 18) ?hd (xs := ([] : List (List Int))) (inner := []) (ok := fun _ => True) (okp := fun _ => True) ?hr ?hp (fun _ hk => hk) trivial (Below.refl _ _) (Nat.le_refl _) (by simp) ?_; (case hd => rfl); (case hg => rfl); (case hr => exact sqG); (case hp => exact (qx.none _ _)); intro v201 w4 ho5 hb hg_ hnew_; clear hg_ hnew_; (first | rw [← Ny200.out] at ho5 | (simp only [Int.reduceToNat] at ho5; rw [← Ny200.out] at ho5)); have n0_ := Aside0.mk (Kd.zby ho5 (zB sqB)); have n1_ := Aside0.mk (zd (g := gb198) (o := .cells #[.int .i64 a0_0, .int .i64 a0_1, .int .i64 a0_2, .slice A0_3 l0_3.length c0_3] 29 (0, 0)) (sqK BK198.out) hb); have n2_ := Aside0.mk (zd (g := gb199) (o := .cells #[.int .i64 0, .int .i64 0, .int .i64 0, .slice none 0 0] 29 (0, 0)) (sqK BK199.out) hb); have n3_ := Aside0.mk (ze sqB hb); clear BK198; clear BK199; clear HB; have HO202 := n0_; have BK198 := n1_; have BK199 := n2_; have HB := n3_; clear n0_ n1_ n2_ n3_; clear hb ho5))
  go_loopg [4, 5] k (fun kq v4 v5 w' => ∃ (x4_1 : List (List Int)) (x5_1 : Int), v5 = .int .i64 x5_1 ∧ Aside0 (zc.l0 kq x4_1 x5_1 a0_0 a0_1 a0_2 l0_3 = some (r1, r2, r3, r4, r5)) ∧ Aside0 (kq ≤ k) ∧ Aside0 (Kd.S (Kd.slice 3 (Kd.int .i64)) 22 w' w.heap.size (fun _ => True) v4 x4_1) ∧ Aside0 (w'.heap[gb198]? = some (.cells #[.int .i64 a0_0, .int .i64 a0_1, .int .i64 a0_2, (.slice A0_3 l0_3.length c0_3)] 29 (0, 0))) ∧ Aside0 (w'.heap[gb199]? = some (.cells #[.int .i64 0, .int .i64 0, .int .i64 0, (.slice none 0 0)] 29 (0, 0))) ∧ Aside0 (Below w.heap.size w w'))
  case atStart => exact ⟨(y200), (0), (sqD), H', ⟨Nat.le_refl _⟩, ⟨by (with_reducible repeat (first | apply Kd.qC | apply Kd.qB | apply Kd.qI)); exact HO202.out⟩, ⟨sqK BK198.out⟩, ⟨sqK BK199.out⟩, ⟨sqB⟩⟩
  case round =>
    clear H'
    try clear p2
    try clear c3
    obtain ⟨x4_1, x5_1, rfl, HA, HK1, HO_4, BK198, BK199, HB⟩ := hrel
    cases gk with
    | zero => exact absurd HA.out (by simp [zc.l0])
    | succ k1 =>
      have H := HA.out
      clear HA
      simp only [zc.l0] at H
      by_cases c6 : x5_1 < a0_1
      · rw [if_pos c6] at H
        have c6b0 : decide (x5_1 < a0_1) = true := decide_eq_true c6
        clear c6
        obtain ⟨y203, hy203⟩ : ∃ y_ : List Int, y_ = (([] : List Int)) := ⟨_, rfl⟩
        replace H : (if 0 ≤ (wrap64 (x5_1 * a0_2)) then (if (wrap64 (x5_1 * a0_2)) ≤ (wrap64 ((wrap64 (x5_1 + 1)) * a0_2)) then (if (wrap64 ((wrap64 (x5_1 + 1)) * a0_2)) ≤ (l0_3.length : Int) then (if y203.length + ((l0_3.take ((wrap64 ((wrap64 (x5_1 + 1)) * a0_2)) : Int).toNat).drop ((wrap64 (x5_1 * a0_2)) : Int).toNat).length < 17592186044416 then (if x4_1.length < 5864062014805 then (zc.l0 k1 (x4_1 ++ [(y203 ++ ((l0_3.take ((wrap64 ((wrap64 (x5_1 + 1)) * a0_2)) : Int).toNat).drop ((wrap64 (x5_1 * a0_2)) : Int).toNat))]) (wrap64 (x5_1 + 1)) a0_0 a0_1 a0_2 l0_3) else (none)) else (none)) else (none)) else (none)) else (none)) = some (r1, r2, r3, r4, r5) := by first | (rw [hy203]; with_reducible exact H) | (have H2_ := (Option.bind_some _ _).symm.trans H; rw [hy203]; with_reducible exact H2_) | (have H2_ := (Option.bind_some _ _).symm.trans H; with_reducible exact H2_) | with_reducible exact H | (rw [hy203]; exact H) | exact H
        have Ny203 := Aside0.mk hy203
        clear hy203
        obtain ⟨ji7, hji7⟩ : ∃ j_ : Int, (wrap64 (x5_1 * a0_2)) = j_ := ⟨_, rfl⟩
        replace H : (if 0 ≤ (ji7) then (if (ji7) ≤ (wrap64 ((wrap64 (x5_1 + 1)) * a0_2)) then (if (wrap64 ((wrap64 (x5_1 + 1)) * a0_2)) ≤ (l0_3.length : Int) then (if y203.length + ((l0_3.take ((wrap64 ((wrap64 (x5_1 + 1)) * a0_2)) : Int).toNat).drop ((ji7) : Int).toNat).length < 17592186044416 then (if x4_1.length < 5864062014805 then (zc.l0 k1 (x4_1 ++ [(y203 ++ ((l0_3.take ((wrap64 ((wrap64 (x5_1 + 1)) * a0_2)) : Int).toNat).drop ((ji7) : Int).toNat))]) (wrap64 (x5_1 + 1)) a0_0 a0_1 a0_2 l0_3) else (none)) else (none)) else (none)) else (none)) else (none)) = some (r1, r2, r3, r4, r5) := by first | (rw [hji7] at H; exact H) | (simp only [hji7] at H ⊢; exact H)
        have hji7w : (IntKind.i64.wrap (x5_1 * a0_2)) = ji7 := (zk _).trans hji7
        by_cases c8 : 0 ≤ (ji7)
        · rw [if_pos c8] at H
          have c8b0 := eq_true c8
          have c8b1 : decide (0 ≤ (ji7)) = true := decide_eq_true c8
          clear c8
          by_cases c9 : (ji7) ≤ (wrap64 ((wrap64 (x5_1 + 1)) * a0_2))
          · rw [if_pos c9] at H
            have c9b0 := eq_true c9
            have c9b1 : decide ((ji7) ≤ (wrap64 ((wrap64 (x5_1 + 1)) * a0_2))) = true := decide_eq_true c9
            by_cases c10 : (wrap64 ((wrap64 (x5_1 + 1)) * a0_2)) ≤ (l0_3.length : Int)
            · rw [if_pos c10] at H
              have c10b0 := eq_true c10
              have c10b1 : decide ((wrap64 ((wrap64 (x5_1 + 1)) * a0_2)) ≤ (l0_3.length : Int)) = true := decide_eq_true c10
              by_cases c11 : y203.length + ((l0_3.take ((wrap64 ((wrap64 (x5_1 + 1)) * a0_2)) : Int).toNat).drop ((ji7) : Int).toNat).length < 17592186044416
              · rw [if_pos c11] at H
                have LMc11 := Aside0.mk c11
                clear c11
                obtain ⟨y207, hy207⟩ : ∃ y_ : List Int, y_ = (y203 ++ ((l0_3.take ((wrap64 ((wrap64 (x5_1 + 1)) * a0_2)) : Int).toNat).drop ((ji7) : Int).toNat)) := ⟨_, rfl⟩
                replace H : (if x4_1.length < 5864062014805 then (zc.l0 k1 (x4_1 ++ [y207]) (wrap64 (x5_1 + 1)) a0_0 a0_1 a0_2 l0_3) else (none)) = some (r1, r2, r3, r4, r5) := by first | (rw [hy207]; with_reducible exact H) | (have H2_ := (Option.bind_some _ _).symm.trans H; rw [hy207]; with_reducible exact H2_) | (have H2_ := (Option.bind_some _ _).symm.trans H; with_reducible exact H2_) | with_reducible exact H | (rw [hy207]; exact H) | exact H
                have Ny207 := Aside0.mk hy207
                clear hy207
                by_cases c12 : x4_1.length < 5864062014805
                · rw [if_pos c12] at H
                  have LMc12 := Aside0.mk c12
                  clear c12
                  obtain ⟨y210, hy210⟩ : ∃ y_ : List (List Int), y_ = (x4_1 ++ [y207]) := ⟨_, rfl⟩
                  replace H : (zc.l0 k1 y210 (wrap64 (x5_1 + 1)) a0_0 a0_1 a0_2 l0_3) = some (r1, r2, r3, r4, r5) := by first | (rw [hy210]; with_reducible exact H) | (have H2_ := (Option.bind_some _ _).symm.trans H; rw [hy210]; with_reducible exact H2_) | (have H2_ := (Option.bind_some _ _).symm.trans H; with_reducible exact H2_) | with_reducible exact H | (rw [hy210]; exact H) | exact H
                  have Ny210 := Aside0.mk hy210
                  clear hy210
                  have H' := Aside0.mk H
                  clear H
                  have hnb13 := NB198_199.out
                  have hnc13 := NB199_198.out
                  have hcz14_0 : wr.cell? ⟨gb198, 0, none⟩ = some (.int .i64 a0_0) := (zb BK198.out 0).trans rfl
                  have hcz14_1 : wr.cell? ⟨gb198, 1, none⟩ = some (.int .i64 a0_1) := (zb BK198.out 1).trans rfl
                  have hcz14_2 : wr.cell? ⟨gb198, 2, none⟩ = some (.int .i64 a0_2) := (zb BK198.out 2).trans rfl
                  have hcz14_3 : wr.cell? ⟨gb198, 3, none⟩ = some (.slice A0_3 l0_3.length c0_3) := (zb BK198.out 3).trans rfl
                  have hfz14_0 := za BK198.out 0; have hfz14_1 := za BK198.out 1; have hfz14_2 := za BK198.out 2; have hfz14_3 := za BK198.out 3
                  go_wp2_with (first | ((with_reducible refine zq (N := 26) rfl ?_); refine Kd.yZ (Kd.int .i64) _ 3 ?hg (N := 26) ?hd (xs := ([] : List Int)) (inner := []) (ok := fun _ => True) (okp := fun _ => True) ?hr ?hp (fun _ hk => hk) trivial (Below.refl _ _) (Nat.le_refl _) (by simp) ?_; (case hd => rfl); (case hg => rfl); (case hr => exact sqG); (case hp => exact (qx.none _ _)); intro v204 w15 ho16 hb hg_ hnew_; clear hg_ hnew_; (first | rw [← Ny203.out] at ho16 | (simp only [Int.reduceToNat] at ho16; rw [← Ny203.out] at ho16)); have n0_ := Aside0.mk (Kd.QX (by (with_reducible repeat (first | apply Kd.qC | apply Kd.qB | apply Kd.qI)); exact HO_4.out) (Kd.qS ho16) hb); have n1_ := Aside0.mk (Kd.qq ho16 (zB sqB)); have n2_ := Aside0.mk (zd (g := gb198) (o := .cells #[.int .i64 a0_0, .int .i64 a0_1, .int .i64 a0_2, .slice A0_3 l0_3.length c0_3] 29 (0, 0)) (sqK BK198.out) hb); have n3_ := Aside0.mk (zd (g := gb199) (o := .cells #[.int .i64 0, .int .i64 0, .int .i64 0, .slice none 0 0] 29 (0, 0)) (sqK BK199.out) hb); have n4_ := Aside0.mk (ze sqB hb); clear HO_4; clear BK198; clear BK199; clear HB; have HO_4 := n0_; have HO205 := n1_; have BK198 := n2_; have BK199 := n3_; have HB := n4_; clear n0_ n1_ n2_ n3_ n4_; clear hb ho16; have hcz17_0 : w15.cell? ⟨gb198, 0, none⟩ = some (.int .i64 a0_0) := (zb BK198.out 0).trans rfl; have hcz17_1 : w15.cell? ⟨gb198, 1, none⟩ = some (.int .i64 a0_1) := (zb BK198.out 1).trans rfl; have hcz17_2 : w15.cell? ⟨gb198, 2, none⟩ = some (.int .i64 a0_2) := (zb BK198.out 2).trans rfl; have hcz17_3 : w15.cell? ⟨gb198, 3, none⟩ = some (.slice A0_3 l0_3.length c0_3) := (zb BK198.out 3).trans rfl; have hfz17_0 := za BK198.out 0; have hfz17_1 := za BK198.out 1; have hfz17_2 := za BK198.out 2; have hfz17_3 := za BK198.out 3; obtain ⟨i018, hi018, _, hsz18, _⟩ := info_parts yT; obtain ⟨A18, hcut18, hA18, hC18⟩ := JY (P := Try.prog) (Value.int .i64) 0 22 3 .i64 .i64 Try.underlying22 hi018 hsz18 A0_3 c0_3 l0_3 (ji7) (wrap64 ((wrap64 (x5_1 + 1)) * a0_2)) (of_decide_eq_true sqA) (by first | omega | exact of_decide_eq_true sqA) (of_decide_eq_true sqA) HC0_3.out; have HR206 := Aside0.mk (Kd.Jk (h1 := fun _ => rfl) (hA18 _ (Kd.Q9 HR0_3.out))); have HC206 := Aside0.mk hC18; clear hA18 hC18 hi018 hsz18) | ((with_reducible refine qT (b := .append) (xs := #[.tmp 26, .tmp 38]) rfl ?_); at_builtin; refine Kd.vC (Kd.int .i64) (w0 := w) w.heap.size rfl (.tmp 26) (.tmp 38) 22 3 (.int .i64 0) 8 rfl Try.underlying22 yT rfl (by decide) (by omega) v204 y203 ((l0_3.take ((wrap64 ((wrap64 (x5_1 + 1)) * a0_2)) : Int).toNat).drop ((ji7) : Int).toNat) _ _ _ (fun _ => True) (fun _ => False) rfl rfl ?aO ?aR (fun _ _ h => h) (fun _ h => h.elim) ?aF ?aB ?aS ?aL ?_; (case aR => first | (rw [← show ((l0_3.take ((wrap64 ((wrap64 (x5_1 + 1)) * a0_2)) : Int).toNat).drop ((ji7) : Int).toNat).length = ((wrap64 ((wrap64 (x5_1 + 1)) * a0_2)).toNat - (ji7).toNat) from (by rw [List.length_drop, List.length_take]; have h_ : ((wrap64 ((wrap64 (x5_1 + 1)) * a0_2)) : Int) ≤ (l0_3.length : Int) := of_decide_eq_true sqA; omega)]; exact sqC (Kd.zI HR206.out HB.out)) | (exact sqC (Kd.zI HR206.out HB.out))); (case aB => exact sqB); (case aF => exact (fun _ _ => trivial)); (case aO => exact (sqR HO205.out)); (case aS => exact (zB sqB)); (case aL => have := LMc11.out; have hlx_ := (show ((l0_3.take ((wrap64 ((wrap64 (x5_1 + 1)) * a0_2)) : Int).toNat).drop ((ji7) : Int).toNat).length = ((wrap64 ((wrap64 (x5_1 + 1)) * a0_2)).toNat - (ji7).toNat) from (by rw [List.length_drop, List.length_take]; have h_ : ((wrap64 ((wrap64 (x5_1 + 1)) * a0_2)) : Int) ≤ (l0_3.length : Int) := of_decide_eq_true sqA; omega)); omega); intro v208 w19 ho hb hg hat; rw [← Ny207.out] at ho; have n0_ := Aside0.mk (Kd.JR (ok := (fun _ => True)) (by (with_reducible repeat (first | apply Kd.qC | apply Kd.qB | apply Kd.qI)); exact HO_4.out) hg hat); have n1_ := Aside0.mk (qZ (g := gb198) (o := .cells #[.int .i64 a0_0, .int .i64 a0_1, .int .i64 a0_2, .slice A0_3 l0_3.length c0_3] 29 (0, 0)) (sqK BK198.out) hg (Kd.vz HO205.out BK198.out (by decide))); have n2_ := Aside0.mk (qZ (g := gb199) (o := .cells #[.int .i64 0, .int .i64 0, .int .i64 0, .slice none 0 0] 29 (0, 0)) (sqK BK199.out) hg (Kd.vz HO205.out BK199.out (by decide))); have n3_ := Aside0.mk (hb); have n4_ := Aside0.mk (ho); clear HO_4; clear BK198; clear BK199; clear HB; clear HO205; have HO_4 := n0_; have BK198 := n1_; have BK199 := n2_; have HB := n3_; have HO209 := n4_; clear n0_ n1_ n2_ n3_ n4_; clear ho hb hg hat; obtain ⟨Ao21, co21, eo21⟩ := Kd.z8 HO209.out; subst eo21) | ((with_reducible refine qT (b := .append) (xs := #[.tmp 25, .tmp 40]) rfl ?_); at_builtin; refine Kd.zbg (Kd.slice 3 (Kd.int .i64)) (w0 := w) w.heap.size rfl (.tmp 25) (.tmp 40) 62 22 (.slice none 0 0) 24 rfl Try.underlying62 zaS rfl (by decide) (by omega) u4 x4_1 y207 [.slice Ao21 y207.length co21] (fun _ => True) (fun k_ => some k_ = (.slice Ao21 y207.length co21 : Value).ownBlock) rfl rfl ?aP (fun k_ hk_ => ((Kd.zy (ok' := fun k_ => ((fun _ => True)) k_ ∧ some k_ ≠ (u4 : Value).ownBlock) (Kd.VW (HO209.out) (Kd.YO HO_4.out) (by decide)) (fun k_ hk => ⟨trivial, hk.2⟩))).1 k_ hk_.symm) ?aF ?aO ?aB ?aS ?aL ?_; (case aP => exact Kd.zaI (Kd.zy (Kd.yH rfl (Kd.zy (ok' := fun k_ => ((fun _ => True)) k_ ∧ some k_ ≠ (u4 : Value).ownBlock) (Kd.VW (HO209.out) (Kd.YO HO_4.out) (by decide)) (fun k_ hk => ⟨trivial, hk.2⟩))) (fun _ h_ => h_))); (case aB => exact sqB); (case aF => exact (fun _ _ => trivial)); (case aO => exact (by (with_reducible repeat (first | apply Kd.qC | apply Kd.qB | apply Kd.qI)); exact Kd.vJ HO_4.out (fun k_ hk => ⟨trivial, fun e_ => hk.2 e_⟩))); (case aS => exact (zB sqB)); (case aL => have := LMc12.out; omega); intro v211 w20 ho hb hg hat; rw [← Ny210.out] at ho; have n0_ := Aside0.mk (qZ (g := gb198) (o := .cells #[.int .i64 a0_0, .int .i64 a0_1, .int .i64 a0_2, .slice A0_3 l0_3.length c0_3] 29 (0, 0)) (sqK BK198.out) hg (Kd.S_ne HO_4.out BK198.out (by decide))); have n1_ := Aside0.mk (qZ (g := gb199) (o := .cells #[.int .i64 0, .int .i64 0, .int .i64 0, .slice none 0 0] 29 (0, 0)) (sqK BK199.out) hg (Kd.S_ne HO_4.out BK199.out (by decide))); have n2_ := Aside0.mk (hb); have n3_ := Aside0.mk (ho); clear BK198; clear BK199; clear HB; clear HO_4; clear HO209; have BK198 := n0_; have BK199 := n1_; have HB := n2_; have HO212 := n3_; clear n0_ n1_ n2_ n3_; clear ho hb hg hat))
                  go_roundg k1
                  case measure => have := HK1.out; omega
                  case rel => exact ⟨(y210), (wrap64 (x5_1 + 1)), (sqD), H', ⟨by have := HK1.out; omega⟩, ⟨by (with_reducible repeat (first | apply Kd.qC | apply Kd.qB | apply Kd.qI)); exact HO212.out⟩, ⟨sqK BK198.out⟩, ⟨sqK BK199.out⟩, ⟨sqB⟩⟩
                · rw [if_neg c12] at H
                  exact absurd H (by simp)
              · rw [if_neg c11] at H
                exact absurd H (by simp)
            · rw [if_neg c10] at H
              exact absurd H (by simp)
          · rw [if_neg c9] at H
            exact absurd H (by simp)
        · rw [if_neg c8] at H
          exact absurd H (by simp)
      · rw [if_neg c6] at H
        have c6b0 : decide (x5_1 < a0_1) = false := decide_eq_false c6
        clear c6
        obtain ⟨y213, hy213⟩ : ∃ y_ : List Int, y_ = (([] : List Int)) := ⟨_, rfl⟩
        replace H : (zc.l1 k1 x4_1 y213 0 a0_0 a0_1 a0_2 l0_3) = some (r1, r2, r3, r4, r5) := by first | (rw [hy213]; with_reducible exact H) | (have H2_ := (Option.bind_some _ _).symm.trans H; rw [hy213]; with_reducible exact H2_) | (have H2_ := (Option.bind_some _ _).symm.trans H; with_reducible exact H2_) | with_reducible exact H | (rw [hy213]; exact H) | exact H
        have Ny213 := Aside0.mk hy213
        clear hy213
        have H' := Aside0.mk H
        clear H
        have hnb22 := NB198_199.out
        have hnc22 := NB199_198.out
        have hcz23_0 : wr.cell? ⟨gb198, 0, none⟩ = some (.int .i64 a0_0) := (zb BK198.out 0).trans rfl
        have hcz23_1 : wr.cell? ⟨gb198, 1, none⟩ = some (.int .i64 a0_1) := (zb BK198.out 1).trans rfl
        have hcz23_2 : wr.cell? ⟨gb198, 2, none⟩ = some (.int .i64 a0_2) := (zb BK198.out 2).trans rfl
        have hcz23_3 : wr.cell? ⟨gb198, 3, none⟩ = some (.slice A0_3 l0_3.length c0_3) := (zb BK198.out 3).trans rfl
        have hfz23_0 := za BK198.out 0; have hfz23_1 := za BK198.out 1; have hfz23_2 := za BK198.out 2; have hfz23_3 := za BK198.out 3
        go_wp2_with (first | ((with_reducible refine zq (N := 42) rfl ?_); refine Kd.yZ (Kd.int .i64) _ 3 ?hg (N := 42) ?hd (xs := ([] : List Int)) (inner := []) (ok := fun _ => True) (okp := fun _ => True) ?hr ?hp (fun _ hk => hk) trivial (Below.refl _ _) (Nat.le_refl _) (by simp) ?_; (case hd => rfl); (case hg => rfl); (case hr => exact sqG); (case hp => exact (qx.none _ _)); intro v214 w24 ho25 hb hg_ hnew_; clear hg_ hnew_; (first | rw [← Ny213.out] at ho25 | (simp only [Int.reduceToNat] at ho25; rw [← Ny213.out] at ho25)); have n0_ := Aside0.mk (Kd.QX (by (with_reducible repeat (first | apply Kd.qC | apply Kd.qB | apply Kd.qI)); exact HO_4.out) (Kd.qS ho25) hb); have n1_ := Aside0.mk (Kd.qq ho25 (zB sqB)); have n2_ := Aside0.mk (zd (g := gb198) (o := .cells #[.int .i64 a0_0, .int .i64 a0_1, .int .i64 a0_2, .slice A0_3 l0_3.length c0_3] 29 (0, 0)) (sqK BK198.out) hb); have n3_ := Aside0.mk (zd (g := gb199) (o := .cells #[.int .i64 0, .int .i64 0, .int .i64 0, .slice none 0 0] 29 (0, 0)) (sqK BK199.out) hb); have n4_ := Aside0.mk (ze sqB hb); clear HO_4; clear BK198; clear BK199; clear HB; have HO_4 := n0_; have HO215 := n1_; have BK198 := n2_; have BK199 := n3_; have HB := n4_; clear n0_ n1_ n2_ n3_ n4_; clear hb ho25))
        go_loopg [6, 7] k1 (fun kq v6 v7 w' => ∃ (x4_2 : List (List Int)) (x6_2 : List Int) (x7_2 : Int), v7 = .int .i64 x7_2 ∧ Aside0 (zc.l1 kq x4_2 x6_2 x7_2 a0_0 a0_1 a0_2 l0_3 = some (r1, r2, r3, r4, r5)) ∧ Aside0 (kq ≤ k1) ∧ Aside0 (Kd.S (Kd.slice 3 (Kd.int .i64)) 22 w' w.heap.size (fun k_ => some k_ ≠ (v6 : Value).ownBlock) u4 x4_2) ∧ Aside0 (Kd.R (Kd.int .i64) 3 w' w.heap.size (fun _ => True) v6 x6_2) ∧ Aside0 (w'.heap[gb198]? = some (.cells #[.int .i64 a0_0, .int .i64 a0_1, .int .i64 a0_2, (.slice A0_3 l0_3.length c0_3)] 29 (0, 0))) ∧ Aside0 (w'.heap[gb199]? = some (.cells #[.int .i64 0, .int .i64 0, .int .i64 0, (.slice none 0 0)] 29 (0, 0))) ∧ Aside0 (Below w.heap.size w w'))
        case atStart => exact ⟨(x4_1), (y213), (0), (sqD), H', ⟨Nat.le_refl _⟩, ⟨by (with_reducible repeat (first | apply Kd.qC | apply Kd.qB | apply Kd.qI)); exact Kd.vJ HO_4.out (fun _ hk => hk.2)⟩, ⟨sqR HO215.out⟩, ⟨sqK BK198.out⟩, ⟨sqK BK199.out⟩, ⟨sqB⟩⟩
        case round =>
          clear H'
          try clear c1
          try clear c2
          try clear p2
          try clear c3
          try clear c6
          try clear c6b0
          try clear p6
          try clear c8
          try clear c8b0
          try clear c8b1
          try clear c9
          try clear c9b0
          try clear c9b1
          try clear c10
          try clear c10b0
          try clear c10b1
          try clear c11
          try clear c12
          try clear c13
          try clear c22
          try clear hcz14_0
          try clear hcz14_1
          try clear hcz14_2
          try clear hcz14_3
          try clear hcz17_0
          try clear hcz17_1
          try clear hcz17_2
          try clear hcz17_3
          try clear hcz23_0
          try clear hcz23_1
          try clear hcz23_2
          try clear hcz23_3
          try clear hfz14_0
          try clear hfz14_1
          try clear hfz14_2
          try clear hfz14_3
          try clear hfz17_0
          try clear hfz17_1
          try clear hfz17_2
          try clear hfz17_3
          try clear hfz23_0
          try clear hfz23_1
          try clear hfz23_2
          try clear hfz23_3
          try clear p2
          obtain ⟨x4_2, x6_2, x7_2, rfl, HA, HK2, HO_4, HO_6, BK198, BK199, HB⟩ := hrel
          cases gk with
          | zero => exact absurd HA.out (by simp [zc.l1])
          | succ k2 =>
            have H := HA.out
            clear HA
            simp only [zc.l1] at H
            by_cases c26 : x7_2 < a0_2
            · rw [if_pos c26] at H
              have c26b0 : decide (x7_2 < a0_2) = true := decide_eq_true c26
              clear c26
              have HC27 := Aside0.mk H
              clear H
              have hnb28 := NB198_199.out
              have hnc28 := NB199_198.out
              have hcz29_0 : wr.cell? ⟨gb198, 0, none⟩ = some (.int .i64 a0_0) := (zb BK198.out 0).trans rfl
              have hcz29_1 : wr.cell? ⟨gb198, 1, none⟩ = some (.int .i64 a0_1) := (zb BK198.out 1).trans rfl
              have hcz29_2 : wr.cell? ⟨gb198, 2, none⟩ = some (.int .i64 a0_2) := (zb BK198.out 2).trans rfl
              have hcz29_3 : wr.cell? ⟨gb198, 3, none⟩ = some (.slice A0_3 l0_3.length c0_3) := (zb BK198.out 3).trans rfl
              have hfz29_0 := za BK198.out 0; have hfz29_1 := za BK198.out 1; have hfz29_2 := za BK198.out 2; have hfz29_3 := za BK198.out 3
              obtain ⟨Ao30, co30, eo30⟩ := Kd.z8 HO_6.out
              subst eo30
              go_upto_block 4 with (fail)
              go_cut [9] (fun v9 wc => ∃ (kq : Nat) (x9_26 : Int), v9 = .int .i64 x9_26 ∧ Aside0 (zc.j3 kq x4_2 x6_2 x7_2 (x6_2.length : Int) x9_26 a0_0 a0_1 a0_2 l0_3 = some (r1, r2, r3, r4, r5)) ∧ Aside0 (kq ≤ k2) ∧ Aside0 (Kd.S (Kd.slice 3 (Kd.int .i64)) 22 wc w.heap.size (fun k_ => some k_ ≠ ((.slice Ao30 x6_2.length co30) : Value).ownBlock) u4 x4_2) ∧ Aside0 (Kd.R (Kd.int .i64) 3 wc w.heap.size (fun _ => True) (.slice Ao30 x6_2.length co30) x6_2) ∧ Aside0 (wc.heap[gb198]? = some (.cells #[.int .i64 a0_0, .int .i64 a0_1, .int .i64 a0_2, (.slice A0_3 l0_3.length c0_3)] 29 (0, 0))) ∧ Aside0 (wc.heap[gb199]? = some (.cells #[.int .i64 0, .int .i64 0, .int .i64 0, (.slice none 0 0)] 29 (0, 0))) ∧ Aside0 (Below w.heap.size w wc))
              case first =>
                have H := HC27.out
                clear HC27
                have H' := Aside0.mk H
                clear H
                go_wp2
                go_loopg [9] k2 (fun kq v9 w' => ∃ (x9_3 : Int), v9 = .int .i64 x9_3 ∧ Aside0 (zc.l2 kq x4_2 x6_2 x7_2 (x6_2.length : Int) x9_3 a0_0 a0_1 a0_2 l0_3 = some (r1, r2, r3, r4, r5)) ∧ Aside0 (kq ≤ k2) ∧ Aside0 (Kd.S (Kd.slice 3 (Kd.int .i64)) 22 w' w.heap.size (fun k_ => some k_ ≠ ((.slice Ao30 x6_2.length co30) : Value).ownBlock) u4 x4_2) ∧ Aside0 (Kd.R (Kd.int .i64) 3 w' w.heap.size (fun _ => True) (.slice Ao30 x6_2.length co30) x6_2) ∧ Aside0 (w'.heap[gb198]? = some (.cells #[.int .i64 a0_0, .int .i64 a0_1, .int .i64 a0_2, (.slice A0_3 l0_3.length c0_3)] 29 (0, 0))) ∧ Aside0 (w'.heap[gb199]? = some (.cells #[.int .i64 0, .int .i64 0, .int .i64 0, (.slice none 0 0)] 29 (0, 0))) ∧ Aside0 (Below w.heap.size w w'))
                case atStart => exact ⟨((x6_2.length : Int)), (sqD), H', ⟨Nat.le_refl _⟩, ⟨by (with_reducible repeat (first | apply Kd.qC | apply Kd.qB | apply Kd.qI)); exact HO_4.out⟩, ⟨sqR HO_6.out⟩, ⟨sqK BK198.out⟩, ⟨sqK BK199.out⟩, ⟨sqB⟩⟩
                case round =>
                  clear H'
                  try clear c1
                  try clear c2
                  try clear p2
                  try clear c3
                  try clear c6
                  try clear c6b0
                  try clear p6
                  try clear c8
                  try clear c8b0
                  try clear c8b1
                  try clear c9
                  try clear c9b0
                  try clear c9b1
                  try clear c10
                  try clear c10b0
                  try clear c10b1
                  try clear c11
                  try clear c12
                  try clear c13
                  try clear c22
                  try clear c26
                  try clear c26b0
                  try clear c28
                  try clear hcz14_0
                  try clear hcz14_1
                  try clear hcz14_2
                  try clear hcz14_3
                  try clear hcz17_0
                  try clear hcz17_1
                  try clear hcz17_2
                  try clear hcz17_3
                  try clear hcz23_0
                  try clear hcz23_1
                  try clear hcz23_2
                  try clear hcz23_3
                  try clear hcz29_0
                  try clear hcz29_1
                  try clear hcz29_2
                  try clear hcz29_3
                  try clear hfz14_0
                  try clear hfz14_1
                  try clear hfz14_2
                  try clear hfz14_3
                  try clear hfz17_0
                  try clear hfz17_1
                  try clear hfz17_2
                  try clear hfz17_3
                  try clear hfz23_0
                  try clear hfz23_1
                  try clear hfz23_2
                  try clear hfz23_3
                  try clear hfz29_0
                  try clear hfz29_1
                  try clear hfz29_2
                  try clear hfz29_3
                  try clear p2
                  try clear p6
                  obtain ⟨x9_3, rfl, HA, HK3, HO_4, HO_6, BK198, BK199, HB⟩ := hrel
                  cases gk with
                  | zero => exact absurd HA.out (by simp [zc.l2])
                  | succ k3 =>
                    have H := HA.out
                    clear HA
                    simp only [zc.l2] at H
                    by_cases c31 : x9_3 < (x4_2.length : Int)
                    · rw [if_pos c31] at H
                      have c31b0 : decide (x9_3 < (x4_2.length : Int)) = true := decide_eq_true c31
                      clear c31
                      (first | rw [c31b0] | (simp only [zk, zm]; rw [c31b0]) | skip)
                      by_cases c32 : 0 ≤ x9_3
                      · rw [if_pos c32] at H
                        have c32b0 : decide (0 ≤ x9_3) = true := decide_eq_true c32
                        clear c32
                        by_cases c33 : 0 ≤ x7_2
                        · rw [if_pos c33] at H
                          have c33b0 : decide (0 ≤ x7_2) = true := decide_eq_true c33
                          clear c33
                          by_cases c34 : x7_2 < ((zG x4_2 x9_3).length : Int)
                          · rw [if_pos c34] at H
                            have c34b0 : decide (x7_2 < ((zG x4_2 x9_3).length : Int)) = true := decide_eq_true c34
                            clear c34
                            by_cases c35 : (rd (zG x4_2 x9_3) x7_2) = 0
                            · rw [if_pos c35] at H
                              have c35b0 : ((rd (zG x4_2 x9_3) x7_2) == 0) = true := beq_iff_eq.mpr c35
                              have c35b1 : ((rd (zG x4_2 x9_3) x7_2) != 0) = false := bne_eq_false_iff_eq.mpr c35
                              clear c35
                              have H' := Aside0.mk H
                              clear H
                              obtain ⟨Ao36, co36, eo36⟩ := Kd.y4 HO_4.out
                              subst eo36
                              have p216 : 0 ≤ (x9_3 : Int) := of_decide_eq_true sqA
                              have q216 : x9_3 < (x4_2.length : Int) := of_decide_eq_true sqA
                              obtain ⟨ad216, A216_0, c216_0, e216, hx216_0, hl216_0, hi216_0⟩ := yD (Kd.qk HO_4.out).2.2 x9_3 p216 q216
                              cases e216
                              obtain ⟨ce216, hce216, hMe216, hcc216⟩ := Kd.Zo HO_4.out [] x9_3 p216 (by first | exact q216 | exact of_decide_eq_true sqA | (have e_ := (Kd.qk HO_4.out).1; omega))
                              obtain ⟨ve216_0, rfl, ge216_0⟩ := hMe216
                              have hv216_0 := hcc216 0 _ rfl
                              rw [Nat.add_zero, show ((Kd.slice 3 (Kd.int .i64))).sz = 1 from rfl, Nat.mul_one] at hv216_0
                              replace hv216_0 := Option.some.inj (hv216_0.symm.trans hx216_0)
                              rw [hv216_0] at ge216_0
                              have HL216_0 := Aside0.mk (show Kd.R (Kd.int .i64) 3 _ _ _ _ (zG x4_2 x9_3) from ge216_0)
                              clear hv216_0 ge216_0
                              have HX216_0 := Aside0.mk hx216_0
                              clear hcc216 hce216
                              have HR216_0 := Aside0.mk hi216_0
                              have HC216_0 := Aside0.mk hl216_0
                              clear hi216_0 hl216_0
                              replace p216 := eq_true p216
                              replace q216 := eq_true q216
                              have p217 : 0 ≤ (x7_2 : Int) := of_decide_eq_true sqA
                              have q217 : x7_2 < ((zG x4_2 x9_3).length : Int) := of_decide_eq_true sqA
                              obtain ⟨ad217, e217, hx217_0⟩ := Kd.qm (by repeat (first | (with_reducible exact HR216_0.out) | (with_reducible refine Kd.yj ?_ _) | (with_reducible refine Kd.vW ?_ _) | (with_reducible refine Kd.yQ ?_) | exact HR216_0.out)) x7_2 p217 q217
                              cases e217
                              replace p217 := eq_true p217
                              replace q217 := eq_true q217
                              go_wp2
                              go_roundg k3
                              case measure => have := HK1.out; have := HK2.out; have := HK3.out; omega
                              case rel => exact ⟨(wrap64 (x9_3 + 1)), (sqD), H', ⟨by have := HK1.out; have := HK2.out; have := HK3.out; omega⟩, ⟨by (with_reducible repeat (first | apply Kd.qC | apply Kd.qB | apply Kd.qI)); exact HO_4.out⟩, ⟨sqR HO_6.out⟩, ⟨sqK BK198.out⟩, ⟨sqK BK199.out⟩, ⟨sqB⟩⟩
                            · rw [if_neg c35] at H
                              have c35b0 : ((rd (zG x4_2 x9_3) x7_2) == 0) = false := beq_eq_false_iff_ne.mpr c35
                              have c35b1 : ((rd (zG x4_2 x9_3) x7_2) != 0) = true := bne_iff_ne.mpr c35
                              have H' := Aside0.mk H
                              clear H
                              obtain ⟨Ao37, co37, eo37⟩ := Kd.y4 HO_4.out
                              subst eo37
                              have p216 : 0 ≤ (x9_3 : Int) := of_decide_eq_true sqA
                              have q216 : x9_3 < (x4_2.length : Int) := of_decide_eq_true sqA
                              obtain ⟨ad216, A216_0, c216_0, e216, hx216_0, hl216_0, hi216_0⟩ := yD (Kd.qk HO_4.out).2.2 x9_3 p216 q216
                              cases e216
                              obtain ⟨ce216, hce216, hMe216, hcc216⟩ := Kd.Zo HO_4.out [] x9_3 p216 (by first | exact q216 | exact of_decide_eq_true sqA | (have e_ := (Kd.qk HO_4.out).1; omega))
                              obtain ⟨ve216_0, rfl, ge216_0⟩ := hMe216
                              have hv216_0 := hcc216 0 _ rfl
                              rw [Nat.add_zero, show ((Kd.slice 3 (Kd.int .i64))).sz = 1 from rfl, Nat.mul_one] at hv216_0
                              replace hv216_0 := Option.some.inj (hv216_0.symm.trans hx216_0)
                              rw [hv216_0] at ge216_0
                              have HL216_0 := Aside0.mk (show Kd.R (Kd.int .i64) 3 _ _ _ _ (zG x4_2 x9_3) from ge216_0)
                              clear hv216_0 ge216_0
                              have HX216_0 := Aside0.mk hx216_0
                              clear hcc216 hce216
                              have HR216_0 := Aside0.mk hi216_0
                              have HC216_0 := Aside0.mk hl216_0
                              clear hi216_0 hl216_0
                              replace p216 := eq_true p216
                              replace q216 := eq_true q216
                              have p217 : 0 ≤ (x7_2 : Int) := of_decide_eq_true sqA
                              have q217 : x7_2 < ((zG x4_2 x9_3).length : Int) := of_decide_eq_true sqA
                              obtain ⟨ad217, e217, hx217_0⟩ := Kd.qm (by repeat (first | (with_reducible exact HR216_0.out) | (with_reducible refine Kd.yj ?_ _) | (with_reducible refine Kd.vW ?_ _) | (with_reducible refine Kd.yQ ?_) | exact HR216_0.out)) x7_2 p217 q217
                              cases e217
                              replace p217 := eq_true p217
                              replace q217 := eq_true q217
                              go_wp2
                              go_meet
                              case rel => exact ⟨_, (x9_3), (sqD), H', ⟨by have := HK1.out; have := HK2.out; have := HK3.out; first | omega | exact Nat.le_refl _⟩, ⟨by (with_reducible repeat (first | apply Kd.qC | apply Kd.qB | apply Kd.qI)); exact HO_4.out⟩, ⟨sqR HO_6.out⟩, ⟨sqK BK198.out⟩, ⟨sqK BK199.out⟩, ⟨sqB⟩⟩
                          · rw [if_neg c34] at H
                            exact absurd H (by simp)
                        · rw [if_neg c33] at H
                          exact absurd H (by simp)
                      · rw [if_neg c32] at H
                        exact absurd H (by simp)
                    · rw [if_neg c31] at H
                      have c31b0 : decide (x9_3 < (x4_2.length : Int)) = false := decide_eq_false c31
                      clear c31
                      (first | rw [c31b0] | (simp only [zk, zm]; rw [c31b0]) | skip)
                      have H' := Aside0.mk H
                      clear H
                      obtain ⟨Ao38, co38, eo38⟩ := Kd.y4 HO_4.out
                      subst eo38
                      go_wp2
                      go_meet
                      case rel => exact ⟨_, (x9_3), (sqD), H', ⟨by have := HK1.out; have := HK2.out; have := HK3.out; first | omega | exact Nat.le_refl _⟩, ⟨by (with_reducible repeat (first | apply Kd.qC | apply Kd.qB | apply Kd.qI)); exact HO_4.out⟩, ⟨sqR HO_6.out⟩, ⟨sqK BK198.out⟩, ⟨sqK BK199.out⟩, ⟨sqB⟩⟩
              case rest =>
                clear HC27
                try clear c1
                try clear c2
                try clear p2
                try clear q2
                try clear hx2
                try clear c3
                try clear c6
                try clear c6b0
                try clear p6
                try clear c8
                try clear c8b0
                try clear c8b1
                try clear c9
                try clear c9b0
                try clear c9b1
                try clear c10
                try clear c10b0
                try clear c10b1
                try clear c11
                try clear c12
                try clear c13
                try clear c21
                try clear p21
                try clear q21
                try clear hx21
                try clear c22
                try clear c26
                try clear c26b0
                try clear c28
                try clear c31
                try clear c31b0
                try clear c32
                try clear c32b0
                try clear c33
                try clear c33b0
                try clear c34
                try clear c34b0
                try clear c35
                try clear c35b0
                try clear c35b1
                try clear c37
                try clear hcz14_0
                try clear hcz14_1
                try clear hcz14_2
                try clear hcz14_3
                try clear hcz17_0
                try clear hcz17_1
                try clear hcz17_2
                try clear hcz17_3
                try clear hcz23_0
                try clear hcz23_1
                try clear hcz23_2
                try clear hcz23_3
                try clear hcz29_0
                try clear hcz29_1
                try clear hcz29_2
                try clear hcz29_3
                try clear hfz14_0
                try clear hfz14_1
                try clear hfz14_2
                try clear hfz14_3
                try clear hfz17_0
                try clear hfz17_1
                try clear hfz17_2
                try clear hfz17_3
                try clear hfz23_0
                try clear hfz23_1
                try clear hfz23_2
                try clear hfz23_3
                try clear hfz29_0
                try clear hfz29_1
                try clear hfz29_2
                try clear hfz29_3
                try clear hx216_0
                try clear hx217_0
                try clear p2
                try clear p216
                try clear p217
                try clear p6
                try clear q216
                try clear q217
                obtain ⟨kq, x9_26, rfl, HA, HJ26, HO_4, HO_6, BK198, BK199, HB⟩ := hcut
                cases kq with
                | zero => exact absurd HA.out (by simp [zc.j3])
                | succ kj26 =>
                  have H := HA.out
                  clear HA
                  simp only [zc.j3] at H
                  by_cases c39 : x9_26 ≥ (x4_2.length : Int)
                  · rw [if_pos c39] at H
                    have c39b0 : decide ((x4_2.length : Int) ≤ x9_26) = true := decide_eq_true c39
                    clear c39
                    have H' := Aside0.mk H
                    clear H
                    obtain ⟨Ao40, co40, eo40⟩ := Kd.y4 HO_4.out
                    subst eo40
                    go_wp2
                    go_roundg kj26
                    case measure => have := HK1.out; have := HK2.out; have := HJ26.out; omega
                    case rel => exact ⟨(x4_2), (x6_2), (wrap64 (x7_2 + 1)), (sqD), H', ⟨by have := HK1.out; have := HK2.out; have := HJ26.out; omega⟩, ⟨by (with_reducible repeat (first | apply Kd.qC | apply Kd.qB | apply Kd.qI)); exact HO_4.out⟩, ⟨sqR HO_6.out⟩, ⟨sqK BK198.out⟩, ⟨sqK BK199.out⟩, ⟨sqB⟩⟩
                  · rw [if_neg c39] at H
                    have c39b0 : decide ((x4_2.length : Int) ≤ x9_26) = false := decide_eq_false c39
                    clear c39
                    replace H := Option.bind_eq_some_iff.mp H
                    obtain ⟨t205, A410, H⟩ := H
                    (try dsimp only at H)
                    have H' := Aside0.mk H
                    clear H
                    obtain ⟨Ao46, co46, eo46⟩ := Kd.y4 HO_4.out
                    subst eo46
                    go_wp2
                    have q_ := Yi A410
                    clear A410
                    rw [Int.toNat_natCast] at q_
                    have hs4_ := HO_4.out
                    obtain ⟨pi_, qi_, pk_, qk_, ht_⟩ := q_
                    obtain ⟨ad15, Ai_, ci_, ei_, hxi_, hli_, hii_⟩ := yD (Kd.qk hs4_).2.2 (x6_2.length : Int) pi_ qi_
                    cases ei_
                    rw [Int.toNat_natCast] at hxi_
                    obtain ⟨adk, Ak_, ck_, ek_, hxk_, hlk_, hik_⟩ := yD (Kd.qk hs4_).2.2 x9_26 pk_ qk_
                    cases ek_
                    clear hli_ hii_ hlk_ hik_
                    obtain ⟨g15, cap15, eg15, bg15, lg15, cl15, gb15⟩ := Kd.zbW hs4_ (by omega)
                    injection eg15 with ea_ en_ ec_; injection ea_ with ea_; clear en_ ec_ lg15 hs4_
                    have ei15 : (ad15.add x6_2.length) = ⟨g15, x6_2.length, none⟩ := by rw [ea_, add_plain]
                    have ek15 : (ad15.add x9_26.toNat) = ⟨g15, x9_26.toNat, none⟩ := by rw [ea_, add_plain]
                    have pi0_ : (x6_2.length < x4_2.length) = True := eq_true (by omega)
                    have qi0_ : ((x6_2.length : Int) < (x4_2.length : Int)) = True := eq_true qi_
                    have pk0_ : (0 ≤ x9_26) = True := eq_true pk_
                    have qk0_ : (x9_26 < (x4_2.length : Int)) = True := eq_true qk_
                    have pi1_ : decide (x6_2.length < x4_2.length) = true := decide_eq_true (by omega)
                    have qi1_ : decide ((x6_2.length : Int) < (x4_2.length : Int)) = true := decide_eq_true qi_
                    have pk1_ : decide (0 ≤ x9_26) = true := decide_eq_true pk_
                    have qk1_ : decide (x9_26 < (x4_2.length : Int)) = true := decide_eq_true qk_
                    have KEEP := Aside0.mk (And.intro bg15 (And.intro ht_ (And.intro pi_ (And.intro qi_ (And.intro pk_ (And.intro qk_ (And.intro ea_ (And.intro ei15 ek15))))))))
                    clear bg15 ht_ pi_ qi_ pk_ qk_ ea_ ei15 ek15
                    refine y2 (n := 16) (S := fun w' => w'.cell? (ad15.add x6_2.length) = some (.slice Ai_ (zG x4_2 (x6_2.length : Int)).length ci_) ∧ w'.cell? (ad15.add x9_26.toNat) = some (.slice Ak_ (zG x4_2 x9_26).length ck_)) (ds := [13, 15]) #[false, false, false, false, false, false, false, false, false, false, false, false, false, false, false, false] (by kernel_rfl) rfl rfl ⟨hxi_, hxk_⟩ (fun hHeld => ?_); refine vw zc.zcT zc.zb7 (fun HT_ HW_ => ?_)
                    have n0_ := Aside0.mk (Kd.qI HO_4.out)
                    have n1_ := Aside0.mk (Kd.vx HO_6.out)
                    have n2_ := Aside0.mk (qL BK198.out)
                    have n3_ := Aside0.mk (qL BK199.out)
                    have n4_ := Aside0.mk (qf HB.out)
                    have n5_ := Aside0.mk (qL gb15)
                    clear HO_4 HO_6 BK198 BK199 HB gb15 hxi_ hxk_
                    generalize wc.drew = w15 at n0_ n1_ n2_ n3_ n4_ n5_ hHeld ⊢
                    refine zO (i := 0) (N := some 72) (v := ?_) (a' := ?_) #[true, false, false, false, false, false, false, false, false, false, false, false, false, false, false, false] rfl rfl (zv HT_.out (by kernel_rfl)) (fun _ _ _ h => h) (Or.inl ⟨by rfl, ?_⟩) ?_ ?_
                    rotate_left
                    · intro w'; go_simp; with_reducible rfl
                    rotate_left
                    · simp only [Act.put, List.setIfInBounds_toArray, List.set_cons_zero, List.set_cons_succ, zk, zm]; rfl
                    refine zO (i := 1) (N := some 73) (v := ?_) (a' := ?_) #[true, true, false, false, false, false, false, false, false, false, false, false, false, false, false, false] rfl rfl (zv HT_.out (by kernel_rfl)) (fun _ _ _ h => h) (Or.inl ⟨by rfl, ?_⟩) ?_ ?_
                    rotate_left
                    · intro w'; go_simp; with_reducible rfl
                    rotate_left
                    · simp only [Act.put, List.setIfInBounds_toArray, List.set_cons_zero, List.set_cons_succ, zk, zm]; rfl
                    refine zO (i := 2) (N := some 74) (v := ?_) (a' := ?_) #[true, true, true, false, false, false, false, false, false, false, false, false, false, false, false, false] rfl rfl (zv HT_.out (by kernel_rfl)) (fun _ _ _ h => h) (Or.inl ⟨by rfl, ?_⟩) ?_ ?_
                    rotate_left
                    · intro w'; go_simp; with_reducible rfl
                    rotate_left
                    · simp only [Act.put, List.setIfInBounds_toArray, List.set_cons_zero, List.set_cons_succ, zk, zm]; rfl
                    refine zO (i := 3) (N := some 75) (v := ?_) (a' := ?_) #[true, true, true, true, false, false, false, false, false, false, false, false, false, false, false, false] rfl rfl (zv HT_.out (by kernel_rfl)) (fun _ _ _ h => h) (Or.inl ⟨by rfl, ?_⟩) ?_ ?_
                    rotate_left
                    · intro w'; go_simp; with_reducible rfl
                    rotate_left
                    · simp only [Act.put, List.setIfInBounds_toArray, List.set_cons_zero, List.set_cons_succ, zk, zm]; rfl
                    refine zO (i := 4) (N := some 76) (v := ?_) (a' := ?_) #[true, true, true, true, true, false, false, false, false, false, false, false, false, false, false, false] rfl rfl (zv HT_.out (by kernel_rfl)) (fun _ _ _ h => h) (Or.inl ⟨by rfl, ?_⟩) ?_ ?_
                    rotate_left
                    · intro w'; go_simp; with_reducible rfl
                    rotate_left
                    · simp only [Act.put, List.setIfInBounds_toArray, List.set_cons_zero, List.set_cons_succ, zk, zm]; rfl
                    refine zO (i := 5) (N := some 77) (v := ?_) (a' := ?_) #[true, true, true, true, true, true, false, false, false, false, false, false, false, false, false, false] rfl rfl (zv HT_.out (by kernel_rfl)) (fun _ _ _ h => h) (Or.inl ⟨by rfl, ?_⟩) ?_ ?_
                    rotate_left
                    · intro w'; go_simp; with_reducible rfl
                    rotate_left
                    · simp only [Act.put, List.setIfInBounds_toArray, List.set_cons_zero, List.set_cons_succ, zk, zm]; rfl
                    refine zO (i := 6) (N := some 78) (v := ?_) (a' := ?_) #[true, true, true, true, true, true, true, false, false, false, false, false, false, false, false, false] rfl rfl (zv HT_.out (by kernel_rfl)) (fun _ _ _ h => h) (Or.inl ⟨by rfl, ?_⟩) ?_ ?_
                    rotate_left
                    · intro w'; go_simp; with_reducible rfl
                    rotate_left
                    · simp only [Act.put, List.setIfInBounds_toArray, List.set_cons_zero, List.set_cons_succ, zk, zm]; rfl
                    refine jt (i := 7) (N := some 79) (v := ?_) (a' := ?_) #[true, true, true, true, true, true, true, true, false, false, false, false, false, false, false, false] rfl rfl (qE HT_.out HW_.out (by kernel_rfl)) (fun _ _ _ h => h) (Or.inl ⟨by rfl, ?_⟩) hHeld ?_ ?_
                    rotate_left
                    · rintro w' ⟨s0, s1⟩; go_simp; with_reducible rfl
                    rotate_left
                    · simp only [Act.put, List.setIfInBounds_toArray, List.set_cons_zero, List.set_cons_succ, zk, zm]; rfl
                    refine zO (i := 8) (N := some 80) (v := ?_) (a' := ?_) #[true, true, true, true, true, true, true, true, true, false, false, false, false, false, false, false] rfl rfl (zv HT_.out (by kernel_rfl)) (fun _ _ _ h => h) (Or.inl ⟨by rfl, ?_⟩) ?_ ?_
                    rotate_left
                    · intro w'; go_simp; with_reducible rfl
                    rotate_left
                    · simp only [Act.put, List.setIfInBounds_toArray, List.set_cons_zero, List.set_cons_succ, zk, zm]; rfl
                    refine zO (i := 9) (N := some 81) (v := ?_) (a' := ?_) #[true, true, true, true, true, true, true, true, true, true, false, false, false, false, false, false] rfl rfl (zv HT_.out (by kernel_rfl)) (fun _ _ _ h => h) (Or.inl ⟨by rfl, ?_⟩) ?_ ?_
                    rotate_left
                    · intro w'; go_simp; with_reducible rfl
                    rotate_left
                    · simp only [Act.put, List.setIfInBounds_toArray, List.set_cons_zero, List.set_cons_succ, zk, zm]; rfl
                    refine zO (i := 10) (N := some 82) (v := ?_) (a' := ?_) #[true, true, true, true, true, true, true, true, true, true, true, false, false, false, false, false] rfl rfl (zv HT_.out (by kernel_rfl)) (fun _ _ _ h => h) (Or.inl ⟨by rfl, ?_⟩) ?_ ?_
                    rotate_left
                    · intro w'; go_simp; with_reducible rfl
                    rotate_left
                    · simp only [Act.put, List.setIfInBounds_toArray, List.set_cons_zero, List.set_cons_succ, zk, zm]; rfl
                    refine jt (i := 11) (N := some 83) (v := ?_) (a' := ?_) #[true, true, true, true, true, true, true, true, true, true, true, true, false, false, false, false] rfl rfl (qE HT_.out HW_.out (by kernel_rfl)) (fun _ _ _ h => h) (Or.inl ⟨by rfl, ?_⟩) hHeld ?_ ?_
                    rotate_left
                    · rintro w' ⟨s0, s1⟩; go_simp; with_reducible rfl
                    rotate_left
                    · simp only [Act.put, List.setIfInBounds_toArray, List.set_cons_zero, List.set_cons_succ, zk, zm]; rfl
                    refine zO (i := 12) (N := some 84) (v := ?_) (a' := ?_) #[true, true, true, true, true, true, true, true, true, true, true, true, true, false, false, false] rfl rfl (zv HT_.out (by kernel_rfl)) (fun _ _ _ h => h) (Or.inl ⟨by rfl, ?_⟩) ?_ ?_
                    rotate_left
                    · intro w'; go_simp; with_reducible rfl
                    rotate_left
                    · simp only [Act.put, List.setIfInBounds_toArray, List.set_cons_zero, List.set_cons_succ, zk, zm]; rfl
                    refine Jz (i := 13) (N := none) #[true, true, true, true, true, true, true, true, true, true, true, true, true, true, false, false] rfl rfl (jX HT_.out (by kernel_rfl)) (by decide) (fun K hK => ?_)
                    have hs_ := hHeld.1
                    have hfs_ : w15.frozen? (ad15.add x6_2.length) = false := by rw [KEEP.out.2.2.2.2.2.2.2.1]; exact za n5_.out _
                    refine QV (w1 := ?_) (by rfl) rfl ?_ ?_
                    rotate_left
                    · go_simp
                      rfl
                    refine hK.out _ _ ?_
                    clear hK K hs_ hfs_
                    refine zO (i := 14) (N := some 85) (v := ?_) (a' := ?_) #[true, true, true, true, true, true, true, true, true, true, true, true, true, true, true, false] rfl rfl (zv HT_.out (by kernel_rfl)) (fun _ _ _ h => h) (Or.inl ⟨by rfl, ?_⟩) ?_ ?_
                    rotate_left
                    · intro w'; go_simp; with_reducible rfl
                    rotate_left
                    · simp only [Act.put, List.setIfInBounds_toArray, List.set_cons_zero, List.set_cons_succ, zk, zm]; rfl
                    refine Jz (i := 15) (N := none) #[true, true, true, true, true, true, true, true, true, true, true, true, true, true, true, true] rfl rfl (jX HT_.out (by kernel_rfl)) (by decide) (fun K hK => ?_)
                    have hb_ : (World.setCell w15 (ad15.add x6_2.length) (.slice Ak_ (zG x4_2 x9_26).length ck_)).heap[g15]? = some (.cells (cl15.setIfInBounds x6_2.length (.slice Ak_ (zG x4_2 x9_26).length ck_)) 22 (0, 0)) := by rw [KEEP.out.2.2.2.2.2.2.2.1]; simp [World.setCell, n5_.out, Array.getElem?_modify]
                    have hs_ : ∃ u_, World.cell? (World.setCell w15 (ad15.add x6_2.length) (.slice Ak_ (zG x4_2 x9_26).length ck_)) (ad15.add x9_26.toNat) = some u_ := by
                      have h2_ := hHeld.2
                      rw [KEEP.out.2.2.2.2.2.2.2.2] at h2_ ⊢
                      rw [zb n5_.out] at h2_
                      rw [zb hb_]
                      have h3_ := (Array.getElem?_eq_some_iff.1 h2_).1
                      exact ⟨_, Array.getElem?_eq_getElem (by rw [Array.size_setIfInBounds]; exact h3_)⟩
                    obtain ⟨u_, hs_⟩ := hs_
                    have hfs_ : World.frozen? (World.setCell w15 (ad15.add x6_2.length) (.slice Ak_ (zG x4_2 x9_26).length ck_)) (ad15.add x9_26.toNat) = false := by rw [KEEP.out.2.2.2.2.2.2.2.2]; exact za hb_ _
                    refine QV (w1 := ?_) (by rfl) rfl ?_ ?_
                    rotate_left
                    · go_simp
                      rfl
                    refine hK.out _ _ ?_
                    clear hK K hs_ hfs_ hb_
                    refine Qx (yJ HT_.out (by kernel_rfl)) ?_
                    clear HT_ HW_
                    obtain ⟨bg15, ht_, pi_, qi_, pk_, qk_, ea_, ei15, ek15⟩ := KEEP.out
                    clear KEEP
                    rw [ei15, ek15] at hHeld ⊢
                    have hs4_ := n0_.out
                    rw [ea_] at hs4_
                    have f0_ := zcm (z := []) (by rfl) hs4_ (i := x6_2.length) (j := x9_26.toNat) (by omega) (by omega) hHeld.1 hHeld.2
                    rw [← ht_, ← ea_] at f0_
                    have f1_ := zb6 n1_.out n5_.out (by decide) x6_2.length x9_26.toNat (.slice Ak_ (zG x4_2 x9_26).length ck_) (.slice Ai_ (zG x4_2 (x6_2.length : Int)).length ci_)
                    have f2_ := Vz (i := x6_2.length) (j := x9_26.toNat) (u := .slice Ak_ (zG x4_2 x9_26).length ck_) (v := .slice Ai_ (zG x4_2 (x6_2.length : Int)).length ci_) n2_.out (Yd n2_.out n5_.out (by decide))
                    have f3_ := Vz (i := x6_2.length) (j := x9_26.toNat) (u := .slice Ak_ (zG x4_2 x9_26).length ck_) (v := .slice Ai_ (zG x4_2 (x6_2.length : Int)).length ci_) n3_.out (Yd n3_.out n5_.out (by decide))
                    have f4_ := qa (j := x9_26.toNat) (v := .slice Ai_ (zG x4_2 (x6_2.length : Int)).length ci_) (qa (j := x6_2.length) (v := .slice Ak_ (zG x4_2 x9_26).length ck_) n4_.out bg15) bg15
                    have hl_ : x4_2.length = t205.length := by rw [ht_, List.length_set, List.length_set]
                    clear n0_ n1_ n2_ n3_ n4_ n5_ bg15 ht_ pi_ qi_ pk_ qk_ ei15 ek15 hHeld hs4_
                    generalize (World.setCell (World.setCell w15 ⟨g15, x6_2.length, none⟩ (.slice Ak_ (zG x4_2 x9_26).length ck_)) ⟨g15, x9_26.toNat, none⟩ (.slice Ai_ (zG x4_2 (x6_2.length : Int)).length ci_)) = wc at f0_ f1_ f2_ f3_ f4_ ⊢
                    obtain ⟨Ao46, hA_⟩ : ∃ A_ : Option Addr, A_ = some ad15 := ⟨_, rfl⟩
                    obtain ⟨n15, hn15⟩ : ∃ n_ : Nat, n_ = x4_2.length := ⟨_, rfl⟩
                    rw [← hA_, hl_] at f0_ ⊢
                    have KEEPA := Aside0.mk hA_
                    have KN := Aside0.mk hn15
                    have KEEPL := Aside0.mk (show t205.length = n15 from by rw [hn15]; exact hl_.symm)
                    clear hA_ ea_ hl_ hn15 pi0_ qi0_ pk0_ qk0_ pi1_ qi1_ pk1_ qk1_
                    generalize ht_ : t205 = x4_2 at f0_ H' KEEPL ⊢
                    clear ht_
                    have HO_4 := Aside0.mk f0_
                    have HO_6 := Aside0.mk f1_
                    have BK198 := Aside0.mk f2_
                    have BK199 := Aside0.mk f3_
                    have HB := Aside0.mk f4_
                    clear f0_ f1_ f2_ f3_ f4_
                    have H := H'.out
                    clear H'
                    by_cases c41 : 0 ≤ (x6_2.length : Int)
                    · rw [if_pos c41] at H
                      have c41b0 : decide (0 ≤ (x6_2.length : Int)) = true := decide_eq_true c41
                      have c41b1 : decide (0 ≤ x6_2.length) = true := decide_eq_true (by omega)
                      clear c41
                      by_cases c42 : (x6_2.length : Int) < (x4_2.length : Int)
                      · rw [if_pos c42] at H
                        have c42b0 : decide ((x6_2.length : Int) < (x4_2.length : Int)) = true := decide_eq_true c42
                        have c42b1 : decide (x6_2.length < x4_2.length) = true := decide_eq_true (Int.ofNat_lt.mp c42)
                        clear c42
                        by_cases c43 : 0 ≤ x7_2
                        · rw [if_pos c43] at H
                          have c43b0 : decide (0 ≤ x7_2) = true := decide_eq_true c43
                          clear c43
                          by_cases c44 : x7_2 < ((zG x4_2 (x6_2.length : Int)).length : Int)
                          · rw [if_pos c44] at H
                            have c44b0 : decide (x7_2 < ((zG x4_2 (x6_2.length : Int)).length : Int)) = true := decide_eq_true c44
                            clear c44
                            replace H := Option.bind_eq_some_iff.mp H
                            obtain ⟨t220, A450, H⟩ := H
                            replace H : (zc.l3 kj26 x4_2 x6_2 x7_2 (x6_2.length : Int) t220 ((zG x4_2 (x6_2.length : Int)).length : Int) 0 a0_0 a0_1 a0_2 l0_3) = some (r1, r2, r3, r4, r5) := H
                            have A45 := Aside0.mk A450
                            clear A450
                            have H' := Aside0.mk H
                            clear H
                            try go_wp2
                            have n0_ := Aside0.mk (Kd.qI HO_4.out)
                            have n1_ := Aside0.mk (Kd.vx HO_6.out)
                            have n2_ := Aside0.mk (qL BK198.out)
                            have n3_ := Aside0.mk (qL BK199.out)
                            have n4_ := Aside0.mk (qf HB.out)
                            clear HO_4 HO_6 BK198 BK199 HB; have HO_4 := n0_; have HO_6 := n1_; have BK198 := n2_; have BK199 := n3_; have HB := n4_; clear n0_ n1_ n2_ n3_ n4_
                            have p218 : 0 ≤ ((x6_2.length : Int) : Int) := of_decide_eq_true sqA
                            have q218 : (x6_2.length : Int) < (x4_2.length : Int) := of_decide_eq_true sqA
                            obtain ⟨ad218, A218_0, c218_0, e218, hx218_0, hl218_0, hi218_0⟩ := yD (Kd.qk HO_4.out).2.2 (x6_2.length : Int) p218 q218
                            cases e218
                            obtain ⟨ce218, hce218, hMe218, hcc218⟩ := Kd.Zo HO_4.out [] (x6_2.length : Int) p218 (by first | exact q218 | exact of_decide_eq_true sqA | (have e_ := (Kd.qk HO_4.out).1; omega))
                            obtain ⟨ve218_0, rfl, ge218_0⟩ := hMe218
                            have hv218_0 := hcc218 0 _ rfl
                            rw [Nat.add_zero, show ((Kd.slice 3 (Kd.int .i64))).sz = 1 from rfl, Nat.mul_one] at hv218_0
                            replace hv218_0 := Option.some.inj (hv218_0.symm.trans hx218_0)
                            rw [hv218_0] at ge218_0
                            have HL218_0 := Aside0.mk (show Kd.R (Kd.int .i64) 3 _ _ _ _ (zG x4_2 (x6_2.length : Int)) from ge218_0)
                            clear hv218_0 ge218_0
                            have HX218_0 := Aside0.mk hx218_0
                            clear hcc218 hce218
                            have HR218_0 := Aside0.mk hi218_0
                            have HC218_0 := Aside0.mk hl218_0
                            clear hi218_0 hl218_0
                            (try simp only [Go.IntWalk.toNatUp] at hx218_0)
                            replace p218 := eq_true p218
                            replace q218 := eq_true q218
                            have p219 : 0 ≤ (x7_2 : Int) := of_decide_eq_true sqA
                            have q219 : x7_2 < ((zG x4_2 (x6_2.length : Int)).length : Int) := of_decide_eq_true sqA
                            obtain ⟨ad219, e219, hx219_0⟩ := Kd.qm (by repeat (first | (with_reducible exact HR218_0.out) | (with_reducible refine Kd.yj ?_ _) | (with_reducible refine Kd.vW ?_ _) | (with_reducible refine Kd.yQ ?_) | exact HR218_0.out)) x7_2 p219 q219
                            cases e219
                            replace p219 := eq_true p219
                            replace q219 := eq_true q219
                            refine y2 (n := 11) (S := fun w' => w'.cell? ⟨gb198, 0, none⟩ = some (.int .i64 a0_0) ∧ w'.cell? ⟨gb198, 1, none⟩ = some (.int .i64 a0_1) ∧ w'.cell? ⟨gb198, 2, none⟩ = some (.int .i64 a0_2) ∧ w'.cell? ⟨gb198, 3, none⟩ = some (.slice A0_3 l0_3.length c0_3) ∧ w'.cell? (ad218.add x6_2.length) = some (.slice (some ad219) (zG x4_2 (x6_2.length : Int)).length c218_0) ∧ w'.cell? (ad219.add (x7_2).toNat) = some (.int .i64 (rd (zG x4_2 (x6_2.length : Int)) x7_2))) (ds := []) #[false, false, false, false, false, false, false, false, false, false, false] (by kernel_rfl) rfl rfl ⟨(zb BK198.out 0).trans rfl, (zb BK198.out 1).trans rfl, (zb BK198.out 2).trans rfl, (zb BK198.out 3).trans rfl, hx218_0, hx219_0⟩ (fun hHeld => ?_); refine vw zc.zcG zc.zci (fun HT_ HW_ => ?_)
                            generalize wc.drew = w47 at HO_4 HO_6 BK198 BK199 HB HL218_0 HR218_0 HX218_0 hx218_0 hx219_0 hHeld ⊢
                            refine zO (i := 0) (N := some 86) (v := ?_) (a' := ?_) #[true, false, false, false, false, false, false, false, false, false, false] rfl rfl (zv HT_.out (by kernel_rfl)) (fun _ _ _ h => h) (Or.inl ⟨by rfl, ?_⟩) ?_ ?_
                            rotate_left
                            · intro w'; go_simp; with_reducible rfl
                            rotate_left
                            · simp only [Act.put, List.setIfInBounds_toArray, List.set_cons_zero, List.set_cons_succ, zk, zm]; rfl
                            refine zO (i := 2) (N := some 88) (v := ?_) (a' := ?_) #[true, false, true, false, false, false, false, false, false, false, false] rfl rfl (zv HT_.out (by kernel_rfl)) (fun _ _ _ h => h) (Or.inl ⟨by rfl, ?_⟩) ?_ ?_
                            rotate_left
                            · intro w'; go_simp; with_reducible rfl
                            rotate_left
                            · simp only [Act.put, List.setIfInBounds_toArray, List.set_cons_zero, List.set_cons_succ, zk, zm]; rfl
                            refine zO (i := 3) (N := some 89) (v := ?_) (a' := ?_) #[true, false, true, true, false, false, false, false, false, false, false] rfl rfl (zv HT_.out (by kernel_rfl)) (fun _ _ _ h => h) (Or.inl ⟨by rfl, ?_⟩) ?_ ?_
                            rotate_left
                            · intro w'; go_simp; with_reducible rfl
                            rotate_left
                            · simp only [Act.put, List.setIfInBounds_toArray, List.set_cons_zero, List.set_cons_succ, zk, zm]; rfl
                            refine zO (i := 4) (N := some 90) (v := ?_) (a' := ?_) #[true, false, true, true, true, false, false, false, false, false, false] rfl rfl (zv HT_.out (by kernel_rfl)) (fun _ _ _ h => h) (Or.inl ⟨by rfl, ?_⟩) ?_ ?_
                            rotate_left
                            · intro w'; go_simp; with_reducible rfl
                            rotate_left
                            · simp only [Act.put, List.setIfInBounds_toArray, List.set_cons_zero, List.set_cons_succ, zk, zm]; rfl
                            refine zO (i := 6) (N := some 92) (v := ?_) (a' := ?_) #[true, false, true, true, true, false, true, false, false, false, false] rfl rfl (zv HT_.out (by kernel_rfl)) (fun _ _ _ h => h) (Or.inl ⟨by rfl, ?_⟩) ?_ ?_
                            rotate_left
                            · intro w'; go_simp; with_reducible rfl
                            rotate_left
                            · simp only [Act.put, List.setIfInBounds_toArray, List.set_cons_zero, List.set_cons_succ, zk, zm]; rfl
                            refine jt (i := 1) (N := some 87) (v := ?_) (a' := ?_) #[true, true, true, true, true, false, true, false, false, false, false] rfl rfl (qE HT_.out HW_.out (by kernel_rfl)) (fun _ _ _ h => h) (Or.inl ⟨by rfl, ?_⟩) hHeld ?_ ?_
                            rotate_left
                            · rintro w' ⟨s0, s1, s2, s3, s4, s5⟩; go_simp; with_reducible rfl
                            rotate_left
                            · simp only [Act.put, List.setIfInBounds_toArray, List.set_cons_zero, List.set_cons_succ, zk, zm]; rfl
                            refine jt (i := 5) (N := some 91) (v := ?_) (a' := ?_) #[true, true, true, true, true, true, true, false, false, false, false] rfl rfl (qE HT_.out HW_.out (by kernel_rfl)) (fun _ _ _ h => h) (Or.inl ⟨by rfl, ?_⟩) hHeld ?_ ?_
                            rotate_left
                            · rintro w' ⟨s0, s1, s2, s3, s4, s5⟩; go_simp; with_reducible rfl
                            rotate_left
                            · simp only [Act.put, List.setIfInBounds_toArray, List.set_cons_zero, List.set_cons_succ, zk, zm]; rfl
                            refine zO (i := 7) (N := some 93) (v := ?_) (a' := ?_) #[true, true, true, true, true, true, true, true, false, false, false] rfl rfl (zv HT_.out (by kernel_rfl)) (fun _ _ _ h => h) (Or.inl ⟨by rfl, ?_⟩) ?_ ?_
                            rotate_left
                            · intro w'; go_simp; with_reducible rfl
                            rotate_left
                            · simp only [Act.put, List.setIfInBounds_toArray, List.set_cons_zero, List.set_cons_succ, zk, zm]; rfl
                            refine jt (i := 8) (N := some 94) (v := ?_) (a' := ?_) #[true, true, true, true, true, true, true, true, true, false, false] rfl rfl (qE HT_.out HW_.out (by kernel_rfl)) (fun _ _ _ h => h) (Or.inl ⟨by rfl, ?_⟩) hHeld ?_ ?_
                            rotate_left
                            · rintro w' ⟨s0, s1, s2, s3, s4, s5⟩; go_simp; with_reducible rfl
                            rotate_left
                            · simp only [Act.put, List.setIfInBounds_toArray, List.set_cons_zero, List.set_cons_succ, zk, zm]; rfl
                            refine Jb (i := 9) (N := some 95) #[true, true, true, true, true, true, true, true, true, true, false] rfl rfl (jX HT_.out (by kernel_rfl)) (by decide) (fun K hK => ?_)
                            refine Zk Try.func50 (by kernel_rfl) rfl #[.int .i64 a0_0, .int .i64 (rd (zG x4_2 (x6_2.length : Int)) x7_2)] (by rfl) rfl rfl sqM ?_
                            with_reducible refine (zp.calls kj26 a0_0 (rd (zG x4_2 (x6_2.length : Int)) x7_2) t220 _ A45.out).mono ?_
                            rintro e w' ⟨rfl, ⟨nd, rfl⟩⟩
                            refine ⟨_, rfl, ?_⟩
                            refine hK.out _ _ ⟨(zb BK198.out 0).trans rfl, (zb BK198.out 1).trans rfl, (zb BK198.out 2).trans rfl, (zb BK198.out 3).trans rfl, hHeld.2.2.2.2.1, hHeld.2.2.2.2.2⟩ (fun hHeld => ?_)
                            clear hK K
                            refine vt (a' := ?_) ?_ ?_
                            rotate_left
                            · show Act.put _ (some 95) _ = _; simp only [Act.put, List.setIfInBounds_toArray, List.set_cons_zero, List.set_cons_succ, zk, zm]; rfl
                            refine zO (i := 10) (N := some 10) (v := ?_) (a' := ?_) #[true, true, true, true, true, true, true, true, true, true, true] rfl rfl (zv HT_.out (by kernel_rfl)) (fun _ _ _ h => h) (Or.inl ⟨by rfl, ?_⟩) ?_ ?_
                            rotate_left
                            · intro w'; go_simp; with_reducible rfl
                            rotate_left
                            · simp only [Act.put, List.setIfInBounds_toArray, List.set_cons_zero, List.set_cons_succ, zk, zm]; rfl
                            refine Qx (yJ HT_.out (by kernel_rfl)) ?_
                            have p221 : 0 ≤ ((x6_2.length : Int) : Int) := of_decide_eq_true sqA
                            have q221 : (x6_2.length : Int) < (x4_2.length : Int) := of_decide_eq_true sqA
                            obtain ⟨ad221, A221_0, c221_0, e221, hx221_0, hl221_0, hi221_0⟩ := yD (Kd.qk HO_4.out).2.2 (x6_2.length : Int) p221 q221
                            obtain rfl : ad218 = ad221 := (by injection e221)
                            obtain ⟨ce221, hce221, hMe221, hcc221⟩ := Kd.Zo HO_4.out [] (x6_2.length : Int) p221 (by first | exact q221 | exact of_decide_eq_true sqA | (have e_ := (Kd.qk HO_4.out).1; omega))
                            obtain ⟨ve221_0, rfl, ge221_0⟩ := hMe221
                            have hv221_0 := hcc221 0 _ rfl
                            rw [Nat.add_zero, show ((Kd.slice 3 (Kd.int .i64))).sz = 1 from rfl, Nat.mul_one] at hv221_0
                            replace hv221_0 := Option.some.inj (hv221_0.symm.trans hx221_0)
                            rw [hv221_0] at ge221_0
                            have HL221_0 := Aside0.mk (show Kd.R (Kd.int .i64) 3 _ _ _ _ (zG x4_2 (x6_2.length : Int)) from ge221_0)
                            clear hv221_0 ge221_0
                            have HX221_0 := Aside0.mk hx221_0
                            clear hcc221 hce221
                            have HR221_0 := Aside0.mk hi221_0
                            have HC221_0 := Aside0.mk hl221_0
                            clear hi221_0 hl221_0
                            (try simp only [Go.IntWalk.toNatUp] at hx221_0)
                            replace p221 := eq_true p221
                            replace q221 := eq_true q221
                            have ea_ := Option.some.inj (hx218_0.symm.trans hx221_0)
                            injection ea_ with ea_ en_ ec_
                            subst ea_
                            subst ec_
                            clear en_
                            try go_wp2
                            go_loopg [101] kj26 (fun kq v101 w' => ∃ (x4_4 : List (List Int)) (x101_4 : Int), v101 = .int .i64 x101_4 ∧ Aside0 (zc.l3 kq x4_4 x6_2 x7_2 (x6_2.length : Int) t220 ((zG x4_2 (x6_2.length : Int)).length : Int) x101_4 a0_0 a0_1 a0_2 l0_3 = some (r1, r2, r3, r4, r5)) ∧ Aside0 (kq ≤ kj26) ∧ Aside0 (Kd.S (Kd.slice 3 (Kd.int .i64)) 22 w' w.heap.size (fun k_ => some k_ ≠ ((.slice Ao30 x6_2.length co30) : Value).ownBlock) (.slice (some ad218) x4_2.length co46) x4_4) ∧ Aside0 (Kd.R (Kd.int .i64) 3 w' w.heap.size (fun _ => True) (.slice Ao30 x6_2.length co30) x6_2) ∧ Aside0 (w'.heap[gb198]? = some (.cells #[.int .i64 a0_0, .int .i64 a0_1, .int .i64 a0_2, (.slice A0_3 l0_3.length c0_3)] 29 (0, 0))) ∧ Aside0 (w'.heap[gb199]? = some (.cells #[.int .i64 0, .int .i64 0, .int .i64 0, (.slice none 0 0)] 29 (0, 0))) ∧ Aside0 (Below w.heap.size w w'))
                            case atStart => exact ⟨(x4_2), (0), (sqD), H', ⟨Nat.le_refl _⟩, ⟨by (with_reducible repeat (first | apply Kd.qC | apply Kd.qB | apply Kd.qI)); exact HO_4.out⟩, ⟨sqR HO_6.out⟩, ⟨sqK BK198.out⟩, ⟨sqK BK199.out⟩, ⟨sqB⟩⟩
                            case round =>
                              clear H'
                              try clear c1
                              try clear c2
                              try clear p2
                              try clear q2
                              try clear hx2
                              try clear c3
                              try clear c4
                              try clear c5
                              try clear c6
                              try clear c6b0
                              try clear p6
                              try clear c8
                              try clear c8b0
                              try clear c8b1
                              try clear c9
                              try clear c9b0
                              try clear c9b1
                              try clear c10
                              try clear c10b0
                              try clear c10b1
                              try clear c11
                              try clear c12
                              try clear c13
                              try clear c21
                              try clear p21
                              try clear q21
                              try clear hx21
                              try clear c22
                              try clear p22
                              try clear q22
                              try clear hx22
                              try clear c26
                              try clear c26b0
                              try clear c28
                              try clear c31
                              try clear c31b0
                              try clear c32
                              try clear c32b0
                              try clear c33
                              try clear c33b0
                              try clear c34
                              try clear c34b0
                              try clear c35
                              try clear c35b0
                              try clear c35b1
                              try clear c37
                              try clear c39
                              try clear c39b0
                              try clear c41
                              try clear c41b0
                              try clear c41b1
                              try clear c42
                              try clear c42b0
                              try clear c42b1
                              try clear c43
                              try clear c43b0
                              try clear c44
                              try clear c44b0
                              try clear hcz14_0
                              try clear hcz14_1
                              try clear hcz14_2
                              try clear hcz14_3
                              try clear hcz17_0
                              try clear hcz17_1
                              try clear hcz17_2
                              try clear hcz17_3
                              try clear hcz23_0
                              try clear hcz23_1
                              try clear hcz23_2
                              try clear hcz23_3
                              try clear hcz29_0
                              try clear hcz29_1
                              try clear hcz29_2
                              try clear hcz29_3
                              try clear hfz14_0
                              try clear hfz14_1
                              try clear hfz14_2
                              try clear hfz14_3
                              try clear hfz17_0
                              try clear hfz17_1
                              try clear hfz17_2
                              try clear hfz17_3
                              try clear hfz23_0
                              try clear hfz23_1
                              try clear hfz23_2
                              try clear hfz23_3
                              try clear hfz29_0
                              try clear hfz29_1
                              try clear hfz29_2
                              try clear hfz29_3
                              try clear hx216_0
                              try clear hx217_0
                              try clear hx218_0
                              try clear hx219_0
                              try clear hx221_0
                              try clear p2
                              try clear p21
                              try clear p216
                              try clear p217
                              try clear p218
                              try clear p219
                              try clear p221
                              try clear p6
                              try clear q2
                              try clear q21
                              try clear q216
                              try clear q217
                              try clear q218
                              try clear q219
                              try clear q221
                              obtain ⟨x4_4, x101_4, rfl, HA, HK4, HO_4, HO_6, BK198, BK199, HB⟩ := hrel
                              have hl4_4 := (Kd.qk HO_4.out).1
                              rw [hl4_4] at HO_4
                              (try simp only [hl4_4])
                              (try simp only [hl4_4] at BK198)
                              (try simp only [hl4_4] at BK199)
                              (try simp only [hl4_4] at HO_6)
                              cases gk with
                              | zero => exact absurd HA.out (by simp [zc.l3])
                              | succ k4 =>
                                have H := HA.out
                                clear HA
                                simp only [zc.l3] at H
                                by_cases c48 : x101_4 < ((zG x4_2 (x6_2.length : Int)).length : Int)
                                · rw [if_pos c48] at H
                                  have c48b0 : decide (x101_4 < ((zG x4_2 (x6_2.length : Int)).length : Int)) = true := decide_eq_true c48
                                  clear c48
                                  by_cases c49 : 0 ≤ (x6_2.length : Int)
                                  · rw [if_pos c49] at H
                                    have c49b0 : decide (0 ≤ (x6_2.length : Int)) = true := decide_eq_true c49
                                    have c49b1 : decide (0 ≤ x6_2.length) = true := decide_eq_true (by omega)
                                    clear c49
                                    by_cases c50 : (x6_2.length : Int) < (x4_4.length : Int)
                                    · rw [if_pos c50] at H
                                      have c50b0 : decide ((x6_2.length : Int) < (x4_4.length : Int)) = true := decide_eq_true c50
                                      have c50b1 : decide (x6_2.length < x4_4.length) = true := decide_eq_true (Int.ofNat_lt.mp c50)
                                      clear c50
                                      by_cases c51 : 0 ≤ x101_4
                                      · rw [if_pos c51] at H
                                        have c51b0 : decide (0 ≤ x101_4) = true := decide_eq_true c51
                                        clear c51
                                        by_cases c52 : x101_4 < ((zG x4_4 (x6_2.length : Int)).length : Int)
                                        · rw [if_pos c52] at H
                                          have c52b0 : decide (x101_4 < ((zG x4_4 (x6_2.length : Int)).length : Int)) = true := decide_eq_true c52
                                          clear c52
                                          by_cases c53 : a0_0 = 0
                                          · rw [if_pos c53] at H
                                            exact absurd H (by simp)
                                          · rw [if_neg c53] at H
                                            have c53b0 : (a0_0 == 0) = false := beq_eq_false_iff_ne.mpr c53
                                            have c53b1 : (a0_0 != 0) = true := bne_iff_ne.mpr c53
                                            obtain ⟨y225, hy225⟩ : ∃ y_ : List Int, y_ = ((zG x4_4 (x6_2.length : Int)).set (x101_4 : Int).toNat (Int.tmod (wrap64 ((rd (zG x4_4 (x6_2.length : Int)) x101_4) * t220)) a0_0)) := ⟨_, rfl⟩
                                            replace H : (zc.l3 k4 (x4_4.set ((x6_2.length : Int) : Int).toNat y225) x6_2 x7_2 (x6_2.length : Int) t220 ((zG x4_2 (x6_2.length : Int)).length : Int) (wrap64 (x101_4 + 1)) a0_0 a0_1 a0_2 l0_3) = some (r1, r2, r3, r4, r5) := by first | (rw [hy225]; with_reducible exact H) | (have H2_ := (Option.bind_some _ _).symm.trans H; rw [hy225]; with_reducible exact H2_) | (have H2_ := (Option.bind_some _ _).symm.trans H; with_reducible exact H2_) | with_reducible exact H | (rw [hy225]; exact H) | exact H
                                            have Ny225 := Aside0.mk hy225
                                            clear hy225
                                            obtain ⟨y227, hy227⟩ : ∃ y_ : List (List Int), y_ = (x4_4.set ((x6_2.length : Int) : Int).toNat y225) := ⟨_, rfl⟩
                                            replace H : (zc.l3 k4 y227 x6_2 x7_2 (x6_2.length : Int) t220 ((zG x4_2 (x6_2.length : Int)).length : Int) (wrap64 (x101_4 + 1)) a0_0 a0_1 a0_2 l0_3) = some (r1, r2, r3, r4, r5) := by first | (rw [hy227]; with_reducible exact H) | (have H2_ := (Option.bind_some _ _).symm.trans H; rw [hy227]; with_reducible exact H2_) | (have H2_ := (Option.bind_some _ _).symm.trans H; with_reducible exact H2_) | with_reducible exact H | (rw [hy227]; exact H) | exact H
                                            have Ny227 := Aside0.mk hy227
                                            clear hy227
                                            have H' := Aside0.mk H
                                            clear H
                                            try go_wp2
                                            have n0_ := Aside0.mk (Kd.qI HO_4.out)
                                            have n1_ := Aside0.mk (Kd.vx HO_6.out)
                                            have n2_ := Aside0.mk (qL BK198.out)
                                            have n3_ := Aside0.mk (qL BK199.out)
                                            have n4_ := Aside0.mk (qf HB.out)
                                            clear HO_4 HO_6 BK198 BK199 HB; have HO_4 := n0_; have HO_6 := n1_; have BK198 := n2_; have BK199 := n3_; have HB := n4_; clear n0_ n1_ n2_ n3_ n4_
                                            have p222 : 0 ≤ ((x6_2.length : Int) : Int) := of_decide_eq_true sqA
                                            have q222 : (x6_2.length : Int) < (x4_4.length : Int) := of_decide_eq_true sqA
                                            obtain ⟨ad222, A222_0, c222_0, e222, hx222_0, hl222_0, hi222_0⟩ := yD (Kd.qk HO_4.out).2.2 (x6_2.length : Int) p222 q222
                                            obtain rfl : ad218 = ad222 := (by injection e222)
                                            obtain ⟨ce222, hce222, hMe222, hcc222⟩ := Kd.Zo HO_4.out [] (x6_2.length : Int) p222 (by first | exact q222 | exact of_decide_eq_true sqA | (have e_ := (Kd.qk HO_4.out).1; omega))
                                            obtain ⟨ve222_0, rfl, ge222_0⟩ := hMe222
                                            have hv222_0 := hcc222 0 _ rfl
                                            rw [Nat.add_zero, show ((Kd.slice 3 (Kd.int .i64))).sz = 1 from rfl, Nat.mul_one] at hv222_0
                                            replace hv222_0 := Option.some.inj (hv222_0.symm.trans hx222_0)
                                            rw [hv222_0] at ge222_0
                                            have HL222_0 := Aside0.mk (show Kd.R (Kd.int .i64) 3 _ _ _ _ (zG x4_4 (x6_2.length : Int)) from ge222_0)
                                            clear hv222_0 ge222_0
                                            have HX222_0 := Aside0.mk hx222_0
                                            clear hcc222 hce222
                                            have HR222_0 := Aside0.mk hi222_0
                                            have HC222_0 := Aside0.mk hl222_0
                                            clear hi222_0 hl222_0
                                            (try simp only [Go.IntWalk.toNatUp] at hx222_0)
                                            (try simp only [hl4_4] at p222)
                                            (try simp only [hl4_4] at q222)
                                            (try simp only [hl4_4] at hx222_0)
                                            replace p222 := eq_true p222
                                            replace q222 := eq_true q222
                                            have p223 : 0 ≤ ((x6_2.length : Int) : Int) := of_decide_eq_true sqA
                                            have q223 : (x6_2.length : Int) < (x4_4.length : Int) := of_decide_eq_true sqA
                                            obtain ⟨ad223, A223_0, c223_0, e223, hx223_0, hl223_0, hi223_0⟩ := yD (Kd.qk HO_4.out).2.2 (x6_2.length : Int) p223 q223
                                            obtain rfl : ad218 = ad223 := (by injection e223)
                                            obtain ⟨ce223, hce223, hMe223, hcc223⟩ := Kd.Zo HO_4.out [] (x6_2.length : Int) p223 (by first | exact q223 | exact of_decide_eq_true sqA | (have e_ := (Kd.qk HO_4.out).1; omega))
                                            obtain ⟨ve223_0, rfl, ge223_0⟩ := hMe223
                                            have hv223_0 := hcc223 0 _ rfl
                                            rw [Nat.add_zero, show ((Kd.slice 3 (Kd.int .i64))).sz = 1 from rfl, Nat.mul_one] at hv223_0
                                            replace hv223_0 := Option.some.inj (hv223_0.symm.trans hx223_0)
                                            rw [hv223_0] at ge223_0
                                            have HL223_0 := Aside0.mk (show Kd.R (Kd.int .i64) 3 _ _ _ _ (zG x4_4 (x6_2.length : Int)) from ge223_0)
                                            clear hv223_0 ge223_0
                                            have HX223_0 := Aside0.mk hx223_0
                                            clear hcc223 hce223
                                            have HR223_0 := Aside0.mk hi223_0
                                            have HC223_0 := Aside0.mk hl223_0
                                            clear hi223_0 hl223_0
                                            (try simp only [Go.IntWalk.toNatUp] at hx223_0)
                                            (try simp only [hl4_4] at p223)
                                            (try simp only [hl4_4] at q223)
                                            (try simp only [hl4_4] at hx223_0)
                                            replace p223 := eq_true p223
                                            replace q223 := eq_true q223
                                            have ea_ := Option.some.inj (hx222_0.symm.trans hx223_0)
                                            injection ea_ with ea_ en_ ec_
                                            subst ea_
                                            subst ec_
                                            clear en_
                                            have p224 : 0 ≤ (x101_4 : Int) := of_decide_eq_true sqA
                                            have q224 : x101_4 < ((zG x4_4 (x6_2.length : Int)).length : Int) := of_decide_eq_true sqA
                                            obtain ⟨ad224, e224, hx224_0⟩ := Kd.qm (by repeat (first | (with_reducible exact HR223_0.out) | (with_reducible refine Kd.yj ?_ _) | (with_reducible refine Kd.vW ?_ _) | (with_reducible refine Kd.yQ ?_) | exact HR223_0.out)) x101_4 p224 q224
                                            cases e224
                                            replace p224 := eq_true p224
                                            replace q224 := eq_true q224
                                            have p54 : 0 ≤ (x101_4 : Int) := of_decide_eq_true sqA
                                            have q54 : (x101_4 : Int) < (((zG x4_4 (x6_2.length : Int)).length : Int) : Int) := of_decide_eq_true sqA
                                            obtain ⟨go54, co54, eo54, gb54, gl54, cl54, HG54⟩ := Kd.ZE HL222_0.out (by omega)
                                            (first | cases eo54 | (injection eo54 with ea_ en_ ec_; (first | subst ea_ | (injection ea_ with ea_; subst ea_)); subst ec_; clear en_))
                                            (try simp only [add_plain] at *)
                                            have GB54 := Aside0.mk gb54
                                            have GG54 := Aside0.mk HG54
                                            clear gb54 gl54 HG54
                                            (first | simp only [add_plain] at hx224_0 | skip)
                                            obtain ⟨hx54_0, hf54_0⟩ := Kd.yi 0 HL222_0.out (x101_4 : Int) p54 q54
                                            replace p54 := eq_true p54
                                            replace q54 := eq_true q54
                                            have hq56 : ((x6_2.length : Int) : Int) < (x4_4.length : Int) := (by have h_ : ((x6_2.length : Int) : Int) < ((x4_4.length : Int) : Int) := of_decide_eq_true sqA; first | exact h_ | (have e_ := (Kd.qk HO_4.out).1; omega) | simpa only [List.length_set, List.length_set] using h_)
                                            obtain ⟨oki56, ce56, hcl56, hM56, hcc56, hok56, hbk56⟩ := Kd.VE HO_4.out [] ((x6_2.length : Int) : Int) (of_decide_eq_true sqA) hq56
                                            obtain ⟨ve56_0, rfl, ge56_0⟩ := hM56
                                            have hv56 := hcc56 0 _ rfl
                                            rw [Nat.add_zero, show ((Kd.slice 3 (Kd.int .i64))).sz = 1 from rfl, Nat.mul_one] at hv56
                                            replace hv56 := Option.some.inj (hv56.symm.trans HX222_0.out)
                                            subst hv56
                                            clear hcc56 hcl56
                                            replace ge56_0 := (show Kd.R (Kd.int .i64) 3 _ _ _ _ (zG x4_4 (x6_2.length : Int)) from ge56_0)
                                            have HP56 := Kd.Qe ge56_0 (x101_4 : Int) (Int.tmod (wrap64 ((rd (zG x4_4 (x6_2.length : Int)) x101_4) * t220)) a0_0)
                                            rw [← Ny225.out] at HP56
                                            have HS56 := hbk56 HP56.2 (fun k_ e_ => by injection e_ with e_; subst e_; exact ge56_0.1 _ rfl) (x' := y225) (Kd.zaI HP56.1)
                                            rw [← Ny227.out] at HS56
                                            have HQ56 := Aside0.mk HS56
                                            clear HP56 HS56 hbk56 hok56
                                            refine y2 (n := 19) (S := fun w' => w'.cell? ⟨gb198, 0, none⟩ = some (.int .i64 a0_0) ∧ w'.cell? ⟨gb198, 1, none⟩ = some (.int .i64 a0_1) ∧ w'.cell? ⟨gb198, 2, none⟩ = some (.int .i64 a0_2) ∧ w'.cell? ⟨gb198, 3, none⟩ = some (.slice A0_3 l0_3.length c0_3) ∧ w'.cell? (ad218.add x6_2.length) = some (.slice (some ⟨go54, 0, none⟩) (zG x4_4 (x6_2.length : Int)).length c222_0) ∧ w'.cell? (ad218.add x6_2.length) = some (.slice (some ⟨go54, 0, none⟩) (zG x4_4 (x6_2.length : Int)).length c222_0) ∧ w'.cell? ⟨go54, (x101_4).toNat, none⟩ = some (.int .i64 (rd (zG x4_4 (x6_2.length : Int)) x101_4))) (ds := [18]) #[false, false, false, false, false, false, false, false, false, false, false, false, false, false, false, false, false, false, false] (by kernel_rfl) rfl rfl ⟨(zb BK198.out 0).trans rfl, (zb BK198.out 1).trans rfl, (zb BK198.out 2).trans rfl, (zb BK198.out 3).trans rfl, hx222_0, hx223_0, hx224_0⟩ (fun hHeld => ?_); refine vw zc.zcQ zc.zca (fun HT_ HW_ => ?_)
                                            generalize wr.drew = w55 at HO_4 HO_6 BK198 BK199 HB GG54 HL222_0 HL223_0 HQ56 HR222_0 HR223_0 HX222_0 HX223_0 hf54_0 hx222_0 hx223_0 hx224_0 hx54_0 hHeld ⊢
                                            refine zO (i := 0) (N := some 104) (v := ?_) (a' := ?_) #[true, false, false, false, false, false, false, false, false, false, false, false, false, false, false, false, false, false, false] rfl rfl (zv HT_.out (by kernel_rfl)) (fun _ _ _ h => h) (Or.inl ⟨by rfl, ?_⟩) ?_ ?_
                                            rotate_left
                                            · intro w'; go_simp; with_reducible rfl
                                            rotate_left
                                            · simp only [Act.put, List.setIfInBounds_toArray, List.set_cons_zero, List.set_cons_succ, zk, zm]; rfl
                                            refine zO (i := 1) (N := some 105) (v := ?_) (a' := ?_) #[true, true, false, false, false, false, false, false, false, false, false, false, false, false, false, false, false, false, false] rfl rfl (zv HT_.out (by kernel_rfl)) (fun _ _ _ h => h) (Or.inl ⟨by rfl, ?_⟩) ?_ ?_
                                            rotate_left
                                            · intro w'; go_simp; with_reducible rfl
                                            rotate_left
                                            · simp only [Act.put, List.setIfInBounds_toArray, List.set_cons_zero, List.set_cons_succ, zk, zm]; rfl
                                            refine zO (i := 2) (N := some 106) (v := ?_) (a' := ?_) #[true, true, true, false, false, false, false, false, false, false, false, false, false, false, false, false, false, false, false] rfl rfl (zv HT_.out (by kernel_rfl)) (fun _ _ _ h => h) (Or.inl ⟨by rfl, ?_⟩) ?_ ?_
                                            rotate_left
                                            · intro w'; go_simp; with_reducible rfl
                                            rotate_left
                                            · simp only [Act.put, List.setIfInBounds_toArray, List.set_cons_zero, List.set_cons_succ, zk, zm]; rfl
                                            refine zO (i := 4) (N := some 108) (v := ?_) (a' := ?_) #[true, true, true, false, true, false, false, false, false, false, false, false, false, false, false, false, false, false, false] rfl rfl (zv HT_.out (by kernel_rfl)) (fun _ _ _ h => h) (Or.inl ⟨by rfl, ?_⟩) ?_ ?_
                                            rotate_left
                                            · intro w'; go_simp; with_reducible rfl
                                            rotate_left
                                            · simp only [Act.put, List.setIfInBounds_toArray, List.set_cons_zero, List.set_cons_succ, zk, zm]; rfl
                                            refine zO (i := 5) (N := some 109) (v := ?_) (a' := ?_) #[true, true, true, false, true, true, false, false, false, false, false, false, false, false, false, false, false, false, false] rfl rfl (zv HT_.out (by kernel_rfl)) (fun _ _ _ h => h) (Or.inl ⟨by rfl, ?_⟩) ?_ ?_
                                            rotate_left
                                            · intro w'; go_simp; with_reducible rfl
                                            rotate_left
                                            · simp only [Act.put, List.setIfInBounds_toArray, List.set_cons_zero, List.set_cons_succ, zk, zm]; rfl
                                            refine zO (i := 6) (N := some 110) (v := ?_) (a' := ?_) #[true, true, true, false, true, true, true, false, false, false, false, false, false, false, false, false, false, false, false] rfl rfl (zv HT_.out (by kernel_rfl)) (fun _ _ _ h => h) (Or.inl ⟨by rfl, ?_⟩) ?_ ?_
                                            rotate_left
                                            · intro w'; go_simp; with_reducible rfl
                                            rotate_left
                                            · simp only [Act.put, List.setIfInBounds_toArray, List.set_cons_zero, List.set_cons_succ, zk, zm]; rfl
                                            refine zO (i := 7) (N := some 111) (v := ?_) (a' := ?_) #[true, true, true, false, true, true, true, true, false, false, false, false, false, false, false, false, false, false, false] rfl rfl (zv HT_.out (by kernel_rfl)) (fun _ _ _ h => h) (Or.inl ⟨by rfl, ?_⟩) ?_ ?_
                                            rotate_left
                                            · intro w'; go_simp; with_reducible rfl
                                            rotate_left
                                            · simp only [Act.put, List.setIfInBounds_toArray, List.set_cons_zero, List.set_cons_succ, zk, zm]; rfl
                                            refine zO (i := 9) (N := some 113) (v := ?_) (a' := ?_) #[true, true, true, false, true, true, true, true, false, true, false, false, false, false, false, false, false, false, false] rfl rfl (zv HT_.out (by kernel_rfl)) (fun _ _ _ h => h) (Or.inl ⟨by rfl, ?_⟩) ?_ ?_
                                            rotate_left
                                            · intro w'; go_simp; with_reducible rfl
                                            rotate_left
                                            · simp only [Act.put, List.setIfInBounds_toArray, List.set_cons_zero, List.set_cons_succ, zk, zm]; rfl
                                            refine zO (i := 12) (N := some 116) (v := ?_) (a' := ?_) #[true, true, true, false, true, true, true, true, false, true, false, false, true, false, false, false, false, false, false] rfl rfl (zv HT_.out (by kernel_rfl)) (fun _ _ _ h => h) (Or.inl ⟨by rfl, ?_⟩) ?_ ?_
                                            rotate_left
                                            · intro w'; go_simp; with_reducible rfl
                                            rotate_left
                                            · simp only [Act.put, List.setIfInBounds_toArray, List.set_cons_zero, List.set_cons_succ, zk, zm]; rfl
                                            refine zO (i := 14) (N := some 118) (v := ?_) (a' := ?_) #[true, true, true, false, true, true, true, true, false, true, false, false, true, false, true, false, false, false, false] rfl rfl (zv HT_.out (by kernel_rfl)) (fun _ _ _ h => h) (Or.inl ⟨by rfl, ?_⟩) ?_ ?_
                                            rotate_left
                                            · intro w'; go_simp; with_reducible rfl
                                            rotate_left
                                            · simp only [Act.put, List.setIfInBounds_toArray, List.set_cons_zero, List.set_cons_succ, zk, zm]; rfl
                                            refine jt (i := 3) (N := some 107) (v := ?_) (a' := ?_) #[true, true, true, true, true, true, true, true, false, true, false, false, true, false, true, false, false, false, false] rfl rfl (qE HT_.out HW_.out (by kernel_rfl)) (fun _ _ _ h => h) (Or.inl ⟨by rfl, ?_⟩) hHeld ?_ ?_
                                            rotate_left
                                            · rintro w' ⟨s0, s1, s2, s3, s4, s5, s6⟩; go_simp; with_reducible rfl
                                            rotate_left
                                            · simp only [Act.put, List.setIfInBounds_toArray, List.set_cons_zero, List.set_cons_succ, zk, zm]; rfl
                                            refine jt (i := 8) (N := some 112) (v := ?_) (a' := ?_) #[true, true, true, true, true, true, true, true, true, true, false, false, true, false, true, false, false, false, false] rfl rfl (qE HT_.out HW_.out (by kernel_rfl)) (fun _ _ _ h => h) (Or.inl ⟨by rfl, ?_⟩) hHeld ?_ ?_
                                            rotate_left
                                            · rintro w' ⟨s0, s1, s2, s3, s4, s5, s6⟩; go_simp; with_reducible rfl
                                            rotate_left
                                            · simp only [Act.put, List.setIfInBounds_toArray, List.set_cons_zero, List.set_cons_succ, zk, zm]; rfl
                                            refine zO (i := 10) (N := some 114) (v := ?_) (a' := ?_) #[true, true, true, true, true, true, true, true, true, true, true, false, true, false, true, false, false, false, false] rfl rfl (zv HT_.out (by kernel_rfl)) (fun _ _ _ h => h) (Or.inl ⟨by rfl, ?_⟩) ?_ ?_
                                            rotate_left
                                            · intro w'; go_simp; with_reducible rfl
                                            rotate_left
                                            · simp only [Act.put, List.setIfInBounds_toArray, List.set_cons_zero, List.set_cons_succ, zk, zm]; rfl
                                            refine jt (i := 11) (N := some 115) (v := ?_) (a' := ?_) #[true, true, true, true, true, true, true, true, true, true, true, true, true, false, true, false, false, false, false] rfl rfl (qE HT_.out HW_.out (by kernel_rfl)) (fun _ _ _ h => h) (Or.inl ⟨by rfl, ?_⟩) hHeld ?_ ?_
                                            rotate_left
                                            · rintro w' ⟨s0, s1, s2, s3, s4, s5, s6⟩; go_simp; with_reducible rfl
                                            rotate_left
                                            · simp only [Act.put, List.setIfInBounds_toArray, List.set_cons_zero, List.set_cons_succ, zk, zm]; rfl
                                            refine zO (i := 13) (N := some 117) (v := ?_) (a' := ?_) #[true, true, true, true, true, true, true, true, true, true, true, true, true, true, true, false, false, false, false] rfl rfl (zv HT_.out (by kernel_rfl)) (fun _ _ _ h => h) (Or.inl ⟨by rfl, ?_⟩) ?_ ?_
                                            rotate_left
                                            · intro w'; go_simp; with_reducible rfl
                                            rotate_left
                                            · simp only [Act.put, List.setIfInBounds_toArray, List.set_cons_zero, List.set_cons_succ, zk, zm]; rfl
                                            refine jt (i := 15) (N := some 119) (v := ?_) (a' := ?_) #[true, true, true, true, true, true, true, true, true, true, true, true, true, true, true, true, false, false, false] rfl rfl (qE HT_.out HW_.out (by kernel_rfl)) (fun _ _ _ h => h) (Or.inl ⟨by rfl, ?_⟩) hHeld ?_ ?_
                                            rotate_left
                                            · rintro w' ⟨s0, s1, s2, s3, s4, s5, s6⟩; go_simp; with_reducible rfl
                                            rotate_left
                                            · simp only [Act.put, List.setIfInBounds_toArray, List.set_cons_zero, List.set_cons_succ, zk, zm]; rfl
                                            refine zO (i := 16) (N := some 120) (v := ?_) (a' := ?_) #[true, true, true, true, true, true, true, true, true, true, true, true, true, true, true, true, true, false, false] rfl rfl (zv HT_.out (by kernel_rfl)) (fun _ _ _ h => h) (Or.inl ⟨by rfl, ?_⟩) ?_ ?_
                                            rotate_left
                                            · intro w'; go_simp; with_reducible rfl
                                            rotate_left
                                            · simp only [Act.put, List.setIfInBounds_toArray, List.set_cons_zero, List.set_cons_succ, zk, zm]; rfl
                                            refine zO (i := 17) (N := some 121) (v := ?_) (a' := ?_) #[true, true, true, true, true, true, true, true, true, true, true, true, true, true, true, true, true, true, false] rfl rfl (zv HT_.out (by kernel_rfl)) (fun _ _ _ h => h) (Or.inl ⟨by rfl, ?_⟩) ?_ ?_
                                            rotate_left
                                            · intro w'; go_simp; with_reducible rfl
                                            rotate_left
                                            · simp only [Act.put, List.setIfInBounds_toArray, List.set_cons_zero, List.set_cons_succ, zk, zm]; rfl
                                            refine Jz (i := 18) (N := none) #[true, true, true, true, true, true, true, true, true, true, true, true, true, true, true, true, true, true, true] rfl rfl (jX HT_.out (by kernel_rfl)) (by decide) (fun K hK => ?_)
                                            refine QV (w1 := ?_) (by rfl) rfl ?_ ?_
                                            rotate_left
                                            · go_simp
                                              rfl
                                            refine hK.out _ _ ?_
                                            clear hK K
                                            refine Qx (yJ HT_.out (by kernel_rfl)) ?_
                                            try go_wp2
                                            (try simp only [← hl4_4])
                                            go_roundg k4
                                            case measure => have := HK1.out; have := HK2.out; have := HJ26.out; have := HK4.out; omega
                                            case rel => exact ⟨(y227), (wrap64 (x101_4 + 1)), (sqD), H', ⟨by have := HK1.out; have := HK2.out; have := HJ26.out; have := HK4.out; omega⟩, ⟨by (try simp only [hl4_4]); (with_reducible repeat (first | apply Kd.qC | apply Kd.qB | apply Kd.qI)); exact HQ56.out⟩, ⟨by (try simp only [hl4_4]); refine sqR ?_; exact Kd.zy (Kd.zF (p := ⟨go54, (x101_4 : Int).toNat, none⟩) (Kd.zaJ HO_6.out rfl ((HL222_0.out.1 _ rfl).1)) (fun _ hk => hk.2) (.int .i64 (Int.tmod (wrap64 ((rd (zG x4_4 (x6_2.length : Int)) x101_4) * t220)) a0_0))) (fun _ hk => trivial)⟩, ⟨by (try simp only [hl4_4]); refine sqK ?_; refine zJ ?_ (by have h_ := Kd.vz HL222_0.out BK198.out (by decide); intro e_; exact h_ (by rw [e_]; rfl)) _; refine sqK ?_; exact BK198.out⟩, ⟨by (try simp only [hl4_4]); refine sqK ?_; refine zJ ?_ (by have h_ := Kd.vz HL222_0.out BK199.out (by decide); intro e_; exact h_ (by rw [e_]; rfl)) _; refine sqK ?_; exact BK199.out⟩, ⟨by repeat (first | (with_reducible first | exact HB.out | apply qw | apply z7 | apply qf | refine qa ?_ GB54.out | refine qa ?_ GE198.out | refine qa ?_ GE199.out) | exact HB.out)⟩⟩
                                        · rw [if_neg c52] at H
                                          exact absurd H (by simp)
                                      · rw [if_neg c51] at H
                                        exact absurd H (by simp)
                                    · rw [if_neg c50] at H
                                      exact absurd H (by simp)
                                  · rw [if_neg c49] at H
                                    exact absurd H (by simp)
                                · rw [if_neg c48] at H
                                  have c48b0 : decide (x101_4 < ((zG x4_2 (x6_2.length : Int)).length : Int)) = false := decide_eq_false c48
                                  clear c48
                                  have H' := Aside0.mk H
                                  clear H
                                  go_wp2
                                  go_loopg [125] k4 (fun kq v125 w' => ∃ (x4_5 : List (List Int)) (x125_5 : Int), v125 = .int .i64 x125_5 ∧ Aside0 (zc.l4 kq x4_5 x6_2 x7_2 (x6_2.length : Int) (x4_4.length : Int) x125_5 a0_0 a0_1 a0_2 l0_3 = some (r1, r2, r3, r4, r5)) ∧ Aside0 (kq ≤ k4) ∧ Aside0 (Kd.S (Kd.slice 3 (Kd.int .i64)) 22 w' w.heap.size (fun k_ => some k_ ≠ ((.slice Ao30 x6_2.length co30) : Value).ownBlock) (.slice (some ad218) x4_4.length co46) x4_5) ∧ Aside0 (Kd.R (Kd.int .i64) 3 w' w.heap.size (fun _ => True) (.slice Ao30 x6_2.length co30) x6_2) ∧ Aside0 (w'.heap[gb198]? = some (.cells #[.int .i64 a0_0, .int .i64 a0_1, .int .i64 a0_2, (.slice A0_3 l0_3.length c0_3)] 29 (0, 0))) ∧ Aside0 (w'.heap[gb199]? = some (.cells #[.int .i64 0, .int .i64 0, .int .i64 0, (.slice none 0 0)] 29 (0, 0))) ∧ Aside0 (Below w.heap.size w w'))
                                  case atStart => exact ⟨(x4_4), (0), (sqD), H', ⟨Nat.le_refl _⟩, ⟨by (try simp only [hl4_4]); (with_reducible repeat (first | apply Kd.qC | apply Kd.qB | apply Kd.qI)); exact HO_4.out⟩, ⟨by (try simp only [hl4_4]); refine sqR ?_; exact HO_6.out⟩, ⟨by (try simp only [hl4_4]); refine sqK ?_; exact BK198.out⟩, ⟨by (try simp only [hl4_4]); refine sqK ?_; exact BK199.out⟩, ⟨sqB⟩⟩
                                  case round =>
                                    clear H'
                                    try clear c1
                                    try clear c2
                                    try clear p2
                                    try clear q2
                                    try clear hx2
                                    try clear c3
                                    try clear c4
                                    try clear c5
                                    try clear p5
                                    try clear q5
                                    try clear hx5
                                    try clear hf5
                                    try clear c6
                                    try clear c6b0
                                    try clear p6
                                    try clear c8
                                    try clear c8b0
                                    try clear c8b1
                                    try clear c9
                                    try clear c9b0
                                    try clear c9b1
                                    try clear c10
                                    try clear c10b0
                                    try clear c10b1
                                    try clear c11
                                    try clear c12
                                    try clear c13
                                    try clear c21
                                    try clear p21
                                    try clear q21
                                    try clear hx21
                                    try clear c22
                                    try clear p22
                                    try clear q22
                                    try clear hx22
                                    try clear c26
                                    try clear c26b0
                                    try clear c28
                                    try clear c31
                                    try clear c31b0
                                    try clear c32
                                    try clear c32b0
                                    try clear c33
                                    try clear c33b0
                                    try clear c34
                                    try clear c34b0
                                    try clear c35
                                    try clear c35b0
                                    try clear c35b1
                                    try clear c37
                                    try clear c39
                                    try clear c39b0
                                    try clear c41
                                    try clear c41b0
                                    try clear c41b1
                                    try clear c42
                                    try clear c42b0
                                    try clear c42b1
                                    try clear c43
                                    try clear c43b0
                                    try clear c44
                                    try clear c44b0
                                    try clear c48
                                    try clear c48b0
                                    try clear c49
                                    try clear c49b0
                                    try clear c49b1
                                    try clear c50
                                    try clear c50b0
                                    try clear c50b1
                                    try clear c51
                                    try clear c51b0
                                    try clear c52
                                    try clear c52b0
                                    try clear c53
                                    try clear c53b0
                                    try clear c53b1
                                    try clear p54
                                    try clear q54
                                    try clear hx54
                                    try clear hf54
                                    try clear c56
                                    try clear q56
                                    try clear hcz14_0
                                    try clear hcz14_1
                                    try clear hcz14_2
                                    try clear hcz14_3
                                    try clear hcz17_0
                                    try clear hcz17_1
                                    try clear hcz17_2
                                    try clear hcz17_3
                                    try clear hcz23_0
                                    try clear hcz23_1
                                    try clear hcz23_2
                                    try clear hcz23_3
                                    try clear hcz29_0
                                    try clear hcz29_1
                                    try clear hcz29_2
                                    try clear hcz29_3
                                    try clear hfz14_0
                                    try clear hfz14_1
                                    try clear hfz14_2
                                    try clear hfz14_3
                                    try clear hfz17_0
                                    try clear hfz17_1
                                    try clear hfz17_2
                                    try clear hfz17_3
                                    try clear hfz23_0
                                    try clear hfz23_1
                                    try clear hfz23_2
                                    try clear hfz23_3
                                    try clear hfz29_0
                                    try clear hfz29_1
                                    try clear hfz29_2
                                    try clear hfz29_3
                                    try clear hx216_0
                                    try clear hx217_0
                                    try clear hx218_0
                                    try clear hx219_0
                                    try clear hx221_0
                                    try clear hx222_0
                                    try clear hx223_0
                                    try clear hx224_0
                                    try clear hx54_0
                                    try clear p2
                                    try clear p21
                                    try clear p216
                                    try clear p217
                                    try clear p218
                                    try clear p219
                                    try clear p22
                                    try clear p221
                                    try clear p222
                                    try clear p223
                                    try clear p224
                                    try clear p54
                                    try clear p6
                                    try clear q2
                                    try clear q21
                                    try clear q216
                                    try clear q217
                                    try clear q218
                                    try clear q219
                                    try clear q22
                                    try clear q221
                                    try clear q222
                                    try clear q223
                                    try clear q224
                                    try clear q54
                                    obtain ⟨x4_5, x125_5, rfl, HA, HK5, HO_4, HO_6, BK198, BK199, HB⟩ := hrel
                                    have hl4_5 := (Kd.qk HO_4.out).1
                                    rw [hl4_5] at HO_4
                                    (try simp only [hl4_5])
                                    (try simp only [hl4_5] at BK198)
                                    (try simp only [hl4_5] at BK199)
                                    (try simp only [hl4_5] at HO_6)
                                    cases gk with
                                    | zero => exact absurd HA.out (by simp [zc.l4])
                                    | succ k5 =>
                                      have H := HA.out
                                      clear HA
                                      simp only [zc.l4] at H
                                      by_cases c58 : x125_5 < (x4_4.length : Int)
                                      · rw [if_pos c58] at H
                                        have c58b0 : decide (x125_5 < (x4_4.length : Int)) = true := decide_eq_true c58
                                        (try simp only [hl4_4, hl4_5] at c58b0)
                                        (try simp only [hl4_4, hl4_5] at c58b1)
                                        clear c58
                                        by_cases c59 : 0 ≤ x125_5
                                        · rw [if_pos c59] at H
                                          have c59b0 : decide (0 ≤ x125_5) = true := decide_eq_true c59
                                          clear c59
                                          by_cases c60 : x125_5 < (x4_5.length : Int)
                                          · rw [if_pos c60] at H
                                            have c60b0 : decide (x125_5 < (x4_5.length : Int)) = true := decide_eq_true c60
                                            clear c60
                                            by_cases c61 : 0 ≤ x7_2
                                            · rw [if_pos c61] at H
                                              have c61b0 : decide (0 ≤ x7_2) = true := decide_eq_true c61
                                              clear c61
                                              by_cases c62 : x7_2 < ((zG x4_5 x125_5).length : Int)
                                              · rw [if_pos c62] at H
                                                have c62b0 : decide (x7_2 < ((zG x4_5 x125_5).length : Int)) = true := decide_eq_true c62
                                                clear c62
                                                have H' := Aside0.mk H
                                                clear H
                                                have p231 : 0 ≤ (x125_5 : Int) := of_decide_eq_true sqA
                                                have q231 : x125_5 < (x4_5.length : Int) := of_decide_eq_true sqA
                                                obtain ⟨ad231, A231_0, c231_0, e231, hx231_0, hl231_0, hi231_0⟩ := yD (Kd.qk HO_4.out).2.2 x125_5 p231 q231
                                                obtain rfl : ad218 = ad231 := (by injection e231)
                                                obtain ⟨ce231, hce231, hMe231, hcc231⟩ := Kd.Zo HO_4.out [] x125_5 p231 (by first | exact q231 | exact of_decide_eq_true sqA | (have e_ := (Kd.qk HO_4.out).1; omega))
                                                obtain ⟨ve231_0, rfl, ge231_0⟩ := hMe231
                                                have hv231_0 := hcc231 0 _ rfl
                                                rw [Nat.add_zero, show ((Kd.slice 3 (Kd.int .i64))).sz = 1 from rfl, Nat.mul_one] at hv231_0
                                                replace hv231_0 := Option.some.inj (hv231_0.symm.trans hx231_0)
                                                rw [hv231_0] at ge231_0
                                                have HL231_0 := Aside0.mk (show Kd.R (Kd.int .i64) 3 _ _ _ _ (zG x4_5 x125_5) from ge231_0)
                                                clear hv231_0 ge231_0
                                                have HX231_0 := Aside0.mk hx231_0
                                                clear hcc231 hce231
                                                have HR231_0 := Aside0.mk hi231_0
                                                have HC231_0 := Aside0.mk hl231_0
                                                clear hi231_0 hl231_0
                                                replace p231 := eq_true p231
                                                replace q231 := eq_true q231
                                                have p232 : 0 ≤ (x7_2 : Int) := of_decide_eq_true sqA
                                                have q232 : x7_2 < ((zG x4_5 x125_5).length : Int) := of_decide_eq_true sqA
                                                obtain ⟨ad232, e232, hx232_0⟩ := Kd.qm (by repeat (first | (with_reducible exact HR231_0.out) | (with_reducible refine Kd.yj ?_ _) | (with_reducible refine Kd.vW ?_ _) | (with_reducible refine Kd.yQ ?_) | exact HR231_0.out)) x7_2 p232 q232
                                                cases e232
                                                replace p232 := eq_true p232
                                                replace q232 := eq_true q232
                                                go_wp2
                                                go_loopg [14] k5 (fun kq v14 w' => ∃ (x4_6 : List (List Int)) (x14_6 : Int), v14 = .int .i64 x14_6 ∧ Aside0 (zc.l5 kq x4_6 x6_2 x7_2 (x6_2.length : Int) x125_5 (rd (zG x4_5 x125_5) x7_2) x14_6 (x4_4.length : Int) x125_5 a0_0 a0_1 a0_2 l0_3 = some (r1, r2, r3, r4, r5)) ∧ Aside0 (kq ≤ k5) ∧ Aside0 (Kd.S (Kd.slice 3 (Kd.int .i64)) 22 w' w.heap.size (fun k_ => some k_ ≠ ((.slice Ao30 x6_2.length co30) : Value).ownBlock) (.slice (some ad218) x4_5.length co46) x4_6) ∧ Aside0 (Kd.R (Kd.int .i64) 3 w' w.heap.size (fun _ => True) (.slice Ao30 x6_2.length co30) x6_2) ∧ Aside0 (w'.heap[gb198]? = some (.cells #[.int .i64 a0_0, .int .i64 a0_1, .int .i64 a0_2, (.slice A0_3 l0_3.length c0_3)] 29 (0, 0))) ∧ Aside0 (w'.heap[gb199]? = some (.cells #[.int .i64 0, .int .i64 0, .int .i64 0, (.slice none 0 0)] 29 (0, 0))) ∧ Aside0 (Below w.heap.size w w'))
                                                case atStart => exact ⟨(x4_5), (0), (sqD), H', ⟨Nat.le_refl _⟩, ⟨by (try simp only [hl4_4]); (try simp only [hl4_5]); (with_reducible repeat (first | apply Kd.qC | apply Kd.qB | apply Kd.qI)); exact HO_4.out⟩, ⟨by (try simp only [hl4_4]); (try simp only [hl4_5]); refine sqR ?_; exact HO_6.out⟩, ⟨by (try simp only [hl4_4]); (try simp only [hl4_5]); refine sqK ?_; exact BK198.out⟩, ⟨by (try simp only [hl4_4]); (try simp only [hl4_5]); refine sqK ?_; exact BK199.out⟩, ⟨sqB⟩⟩
                                                case round =>
                                                  clear H'
                                                  try clear c1
                                                  try clear c2
                                                  try clear p2
                                                  try clear q2
                                                  try clear hx2
                                                  try clear c3
                                                  try clear c4
                                                  try clear c5
                                                  try clear p5
                                                  try clear q5
                                                  try clear hx5
                                                  try clear hf5
                                                  try clear c6
                                                  try clear c6b0
                                                  try clear p6
                                                  try clear c8
                                                  try clear c8b0
                                                  try clear c8b1
                                                  try clear c9
                                                  try clear c9b0
                                                  try clear c9b1
                                                  try clear c10
                                                  try clear c10b0
                                                  try clear c10b1
                                                  try clear c11
                                                  try clear c12
                                                  try clear c13
                                                  try clear c21
                                                  try clear p21
                                                  try clear q21
                                                  try clear hx21
                                                  try clear c22
                                                  try clear p22
                                                  try clear q22
                                                  try clear hx22
                                                  try clear c23
                                                  try clear p23
                                                  try clear q23
                                                  try clear hx23
                                                  try clear c26
                                                  try clear c26b0
                                                  try clear c28
                                                  try clear c31
                                                  try clear c31b0
                                                  try clear c32
                                                  try clear c32b0
                                                  try clear c33
                                                  try clear c33b0
                                                  try clear c34
                                                  try clear c34b0
                                                  try clear c35
                                                  try clear c35b0
                                                  try clear c35b1
                                                  try clear c37
                                                  try clear c39
                                                  try clear c39b0
                                                  try clear c41
                                                  try clear c41b0
                                                  try clear c41b1
                                                  try clear c42
                                                  try clear c42b0
                                                  try clear c42b1
                                                  try clear c43
                                                  try clear c43b0
                                                  try clear c44
                                                  try clear c44b0
                                                  try clear c48
                                                  try clear c48b0
                                                  try clear c49
                                                  try clear c49b0
                                                  try clear c49b1
                                                  try clear c50
                                                  try clear c50b0
                                                  try clear c50b1
                                                  try clear c51
                                                  try clear c51b0
                                                  try clear c52
                                                  try clear c52b0
                                                  try clear c53
                                                  try clear c53b0
                                                  try clear c53b1
                                                  try clear p54
                                                  try clear q54
                                                  try clear hx54
                                                  try clear hf54
                                                  try clear c56
                                                  try clear q56
                                                  try clear c58
                                                  try clear c58b0
                                                  try clear c59
                                                  try clear c59b0
                                                  try clear c60
                                                  try clear c60b0
                                                  try clear c61
                                                  try clear c61b0
                                                  try clear c62
                                                  try clear c62b0
                                                  try clear hcz14_0
                                                  try clear hcz14_1
                                                  try clear hcz14_2
                                                  try clear hcz14_3
                                                  try clear hcz17_0
                                                  try clear hcz17_1
                                                  try clear hcz17_2
                                                  try clear hcz17_3
                                                  try clear hcz23_0
                                                  try clear hcz23_1
                                                  try clear hcz23_2
                                                  try clear hcz23_3
                                                  try clear hcz29_0
                                                  try clear hcz29_1
                                                  try clear hcz29_2
                                                  try clear hcz29_3
                                                  try clear hfz14_0
                                                  try clear hfz14_1
                                                  try clear hfz14_2
                                                  try clear hfz14_3
                                                  try clear hfz17_0
                                                  try clear hfz17_1
                                                  try clear hfz17_2
                                                  try clear hfz17_3
                                                  try clear hfz23_0
                                                  try clear hfz23_1
                                                  try clear hfz23_2
                                                  try clear hfz23_3
                                                  try clear hfz29_0
                                                  try clear hfz29_1
                                                  try clear hfz29_2
                                                  try clear hfz29_3
                                                  try clear hx216_0
                                                  try clear hx217_0
                                                  try clear hx218_0
                                                  try clear hx219_0
                                                  try clear hx221_0
                                                  try clear hx222_0
                                                  try clear hx223_0
                                                  try clear hx224_0
                                                  try clear hx231_0
                                                  try clear hx232_0
                                                  try clear hx54_0
                                                  try clear p2
                                                  try clear p21
                                                  try clear p216
                                                  try clear p217
                                                  try clear p218
                                                  try clear p219
                                                  try clear p22
                                                  try clear p221
                                                  try clear p222
                                                  try clear p223
                                                  try clear p224
                                                  try clear p231
                                                  try clear p232
                                                  try clear p5
                                                  try clear p54
                                                  try clear p6
                                                  try clear q2
                                                  try clear q21
                                                  try clear q216
                                                  try clear q217
                                                  try clear q218
                                                  try clear q219
                                                  try clear q22
                                                  try clear q221
                                                  try clear q222
                                                  try clear q223
                                                  try clear q224
                                                  try clear q231
                                                  try clear q232
                                                  try clear q5
                                                  try clear q54
                                                  try clear q56
                                                  obtain ⟨x4_6, x14_6, rfl, HA, HK6, HO_4, HO_6, BK198, BK199, HB⟩ := hrel
                                                  have hl4_6 := (Kd.qk HO_4.out).1
                                                  rw [hl4_6] at HO_4
                                                  (try simp only [hl4_6])
                                                  (try simp only [hl4_6] at BK198)
                                                  (try simp only [hl4_6] at BK199)
                                                  (try simp only [hl4_6] at HO_6)
                                                  cases gk with
                                                  | zero => exact absurd HA.out (by simp [zc.l5])
                                                  | succ k6 =>
                                                    have H := HA.out
                                                    clear HA
                                                    simp only [zc.l5] at H
                                                    by_cases c63 : x14_6 < a0_2
                                                    · rw [if_pos c63] at H
                                                      have c63b0 : decide (x14_6 < a0_2) = true := decide_eq_true c63
                                                      clear c63
                                                      by_cases c64 : x125_5 = (x6_2.length : Int)
                                                      · rw [if_pos c64] at H
                                                        have c64b0 : (x125_5 == (x6_2.length : Int)) = true := beq_iff_eq.mpr c64
                                                        have c64b1 : (x125_5 != (x6_2.length : Int)) = false := bne_eq_false_iff_eq.mpr c64
                                                        clear c64
                                                        have H' := Aside0.mk H
                                                        clear H
                                                        have hnb65 := NB198_199.out
                                                        have hnc65 := NB199_198.out
                                                        have hcz66_0 : wr.cell? ⟨gb198, 0, none⟩ = some (.int .i64 a0_0) := (zb BK198.out 0).trans rfl
                                                        have hcz66_1 : wr.cell? ⟨gb198, 1, none⟩ = some (.int .i64 a0_1) := (zb BK198.out 1).trans rfl
                                                        have hcz66_2 : wr.cell? ⟨gb198, 2, none⟩ = some (.int .i64 a0_2) := (zb BK198.out 2).trans rfl
                                                        have hcz66_3 : wr.cell? ⟨gb198, 3, none⟩ = some (.slice A0_3 l0_3.length c0_3) := (zb BK198.out 3).trans rfl
                                                        have hfz66_0 := za BK198.out 0; have hfz66_1 := za BK198.out 1; have hfz66_2 := za BK198.out 2; have hfz66_3 := za BK198.out 3
                                                        go_wp2
                                                        (try simp only [← hl4_5, ← hl4_6])
                                                        go_roundg k6
                                                        case measure => have := HK1.out; have := HK2.out; have := HJ26.out; have := HK4.out; have := HK5.out; have := HK6.out; omega
                                                        case rel => exact ⟨(x4_6), (wrap64 (x125_5 + 1)), (sqD), H', ⟨by have := HK1.out; have := HK2.out; have := HJ26.out; have := HK4.out; have := HK5.out; have := HK6.out; omega⟩, ⟨by (try simp only [hl4_4]); (try simp only [hl4_5]); (try simp only [hl4_6]); (with_reducible repeat (first | apply Kd.qC | apply Kd.qB | apply Kd.qI)); exact HO_4.out⟩, ⟨by (try simp only [hl4_4]); (try simp only [hl4_5]); (try simp only [hl4_6]); refine sqR ?_; exact HO_6.out⟩, ⟨by (try simp only [hl4_4]); (try simp only [hl4_5]); (try simp only [hl4_6]); refine sqK ?_; exact BK198.out⟩, ⟨by (try simp only [hl4_4]); (try simp only [hl4_5]); (try simp only [hl4_6]); refine sqK ?_; exact BK199.out⟩, ⟨sqB⟩⟩
                                                      · rw [if_neg c64] at H
                                                        have c64b0 : (x125_5 == (x6_2.length : Int)) = false := beq_eq_false_iff_ne.mpr c64
                                                        have c64b1 : (x125_5 != (x6_2.length : Int)) = true := bne_iff_ne.mpr c64
                                                        by_cases c67 : 0 ≤ x125_5
                                                        · rw [if_pos c67] at H
                                                          have c67b0 : decide (0 ≤ x125_5) = true := decide_eq_true c67
                                                          clear c67
                                                          by_cases c68 : x125_5 < (x4_6.length : Int)
                                                          · rw [if_pos c68] at H
                                                            have c68b0 : decide (x125_5 < (x4_6.length : Int)) = true := decide_eq_true c68
                                                            clear c68
                                                            by_cases c69 : 0 ≤ x14_6
                                                            · rw [if_pos c69] at H
                                                              have c69b0 : decide (0 ≤ x14_6) = true := decide_eq_true c69
                                                              clear c69
                                                              by_cases c70 : x14_6 < ((zG x4_6 x125_5).length : Int)
                                                              · rw [if_pos c70] at H
                                                                have c70b0 : decide (x14_6 < ((zG x4_6 x125_5).length : Int)) = true := decide_eq_true c70
                                                                clear c70
                                                                by_cases c71 : 0 ≤ (x6_2.length : Int)
                                                                · rw [if_pos c71] at H
                                                                  have c71b0 : decide (0 ≤ (x6_2.length : Int)) = true := decide_eq_true c71
                                                                  have c71b1 : decide (0 ≤ x6_2.length) = true := decide_eq_true (by omega)
                                                                  clear c71
                                                                  by_cases c72 : (x6_2.length : Int) < (x4_6.length : Int)
                                                                  · rw [if_pos c72] at H
                                                                    have c72b0 : decide ((x6_2.length : Int) < (x4_6.length : Int)) = true := decide_eq_true c72
                                                                    have c72b1 : decide (x6_2.length < x4_6.length) = true := decide_eq_true (Int.ofNat_lt.mp c72)
                                                                    clear c72
                                                                    by_cases c73 : x14_6 < ((zG x4_6 (x6_2.length : Int)).length : Int)
                                                                    · rw [if_pos c73] at H
                                                                      have c73b0 : decide (x14_6 < ((zG x4_6 (x6_2.length : Int)).length : Int)) = true := decide_eq_true c73
                                                                      clear c73
                                                                      by_cases c74 : a0_0 = 0
                                                                      · rw [if_pos c74] at H
                                                                        exact absurd H (by simp)
                                                                      · rw [if_neg c74] at H
                                                                        have c74b0 : (a0_0 == 0) = false := beq_eq_false_iff_ne.mpr c74
                                                                        have c74b1 : (a0_0 != 0) = true := bne_iff_ne.mpr c74
                                                                        obtain ⟨y238, hy238⟩ : ∃ y_ : List Int, y_ = ((zG x4_6 x125_5).set (x14_6 : Int).toNat (Int.tmod (wrap64 ((rd (zG x4_6 x125_5) x14_6) + (wrap64 ((wrap64 (a0_0 - (rd (zG x4_5 x125_5) x7_2))) * (rd (zG x4_6 (x6_2.length : Int)) x14_6))))) a0_0)) := ⟨_, rfl⟩
                                                                        replace H : (zc.l5 k6 (x4_6.set (x125_5 : Int).toNat y238) x6_2 x7_2 (x6_2.length : Int) x125_5 (rd (zG x4_5 x125_5) x7_2) (wrap64 (x14_6 + 1)) (x4_4.length : Int) x125_5 a0_0 a0_1 a0_2 l0_3) = some (r1, r2, r3, r4, r5) := by first | (rw [hy238]; with_reducible exact H) | (have H2_ := (Option.bind_some _ _).symm.trans H; rw [hy238]; with_reducible exact H2_) | (have H2_ := (Option.bind_some _ _).symm.trans H; with_reducible exact H2_) | with_reducible exact H | (rw [hy238]; exact H) | exact H
                                                                        have Ny238 := Aside0.mk hy238
                                                                        clear hy238
                                                                        obtain ⟨y240, hy240⟩ : ∃ y_ : List (List Int), y_ = (x4_6.set (x125_5 : Int).toNat y238) := ⟨_, rfl⟩
                                                                        replace H : (zc.l5 k6 y240 x6_2 x7_2 (x6_2.length : Int) x125_5 (rd (zG x4_5 x125_5) x7_2) (wrap64 (x14_6 + 1)) (x4_4.length : Int) x125_5 a0_0 a0_1 a0_2 l0_3) = some (r1, r2, r3, r4, r5) := by first | (rw [hy240]; with_reducible exact H) | (have H2_ := (Option.bind_some _ _).symm.trans H; rw [hy240]; with_reducible exact H2_) | (have H2_ := (Option.bind_some _ _).symm.trans H; with_reducible exact H2_) | with_reducible exact H | (rw [hy240]; exact H) | exact H
                                                                        have Ny240 := Aside0.mk hy240
                                                                        clear hy240
                                                                        have H' := Aside0.mk H
                                                                        clear H
                                                                        have hnb76 := NB198_199.out
                                                                        have hnc76 := NB199_198.out
                                                                        have hcz77_0 : wr.cell? ⟨gb198, 0, none⟩ = some (.int .i64 a0_0) := (zb BK198.out 0).trans rfl
                                                                        have hcz77_1 : wr.cell? ⟨gb198, 1, none⟩ = some (.int .i64 a0_1) := (zb BK198.out 1).trans rfl
                                                                        have hcz77_2 : wr.cell? ⟨gb198, 2, none⟩ = some (.int .i64 a0_2) := (zb BK198.out 2).trans rfl
                                                                        have hcz77_3 : wr.cell? ⟨gb198, 3, none⟩ = some (.slice A0_3 l0_3.length c0_3) := (zb BK198.out 3).trans rfl
                                                                        have hfz77_0 := za BK198.out 0; have hfz77_1 := za BK198.out 1; have hfz77_2 := za BK198.out 2; have hfz77_3 := za BK198.out 3
                                                                        try go_wp2
                                                                        have n0_ := Aside0.mk (Kd.qI HO_4.out)
                                                                        have n1_ := Aside0.mk (Kd.vx HO_6.out)
                                                                        have n2_ := Aside0.mk (qL BK198.out)
                                                                        have n3_ := Aside0.mk (qL BK199.out)
                                                                        have n4_ := Aside0.mk (qf HB.out)
                                                                        clear HO_4 HO_6 BK198 BK199 HB; have HO_4 := n0_; have HO_6 := n1_; have BK198 := n2_; have BK199 := n3_; have HB := n4_; clear n0_ n1_ n2_ n3_ n4_
                                                                        have p233 : 0 ≤ (x125_5 : Int) := of_decide_eq_true sqA
                                                                        have q233 : x125_5 < (x4_6.length : Int) := of_decide_eq_true sqA
                                                                        obtain ⟨ad233, A233_0, c233_0, e233, hx233_0, hl233_0, hi233_0⟩ := yD (Kd.qk HO_4.out).2.2 x125_5 p233 q233
                                                                        obtain rfl : ad218 = ad233 := (by injection e233)
                                                                        obtain ⟨ce233, hce233, hMe233, hcc233⟩ := Kd.Zo HO_4.out [] x125_5 p233 (by first | exact q233 | exact of_decide_eq_true sqA | (have e_ := (Kd.qk HO_4.out).1; omega))
                                                                        obtain ⟨ve233_0, rfl, ge233_0⟩ := hMe233
                                                                        have hv233_0 := hcc233 0 _ rfl
                                                                        rw [Nat.add_zero, show ((Kd.slice 3 (Kd.int .i64))).sz = 1 from rfl, Nat.mul_one] at hv233_0
                                                                        replace hv233_0 := Option.some.inj (hv233_0.symm.trans hx233_0)
                                                                        rw [hv233_0] at ge233_0
                                                                        have HL233_0 := Aside0.mk (show Kd.R (Kd.int .i64) 3 _ _ _ _ (zG x4_6 x125_5) from ge233_0)
                                                                        clear hv233_0 ge233_0
                                                                        have HX233_0 := Aside0.mk hx233_0
                                                                        clear hcc233 hce233
                                                                        have HR233_0 := Aside0.mk hi233_0
                                                                        have HC233_0 := Aside0.mk hl233_0
                                                                        clear hi233_0 hl233_0
                                                                        replace p233 := eq_true p233
                                                                        replace q233 := eq_true q233
                                                                        have p234 : 0 ≤ (x125_5 : Int) := of_decide_eq_true sqA
                                                                        have q234 : x125_5 < (x4_6.length : Int) := of_decide_eq_true sqA
                                                                        obtain ⟨ad234, A234_0, c234_0, e234, hx234_0, hl234_0, hi234_0⟩ := yD (Kd.qk HO_4.out).2.2 x125_5 p234 q234
                                                                        obtain rfl : ad218 = ad234 := (by injection e234)
                                                                        obtain ⟨ce234, hce234, hMe234, hcc234⟩ := Kd.Zo HO_4.out [] x125_5 p234 (by first | exact q234 | exact of_decide_eq_true sqA | (have e_ := (Kd.qk HO_4.out).1; omega))
                                                                        obtain ⟨ve234_0, rfl, ge234_0⟩ := hMe234
                                                                        have hv234_0 := hcc234 0 _ rfl
                                                                        rw [Nat.add_zero, show ((Kd.slice 3 (Kd.int .i64))).sz = 1 from rfl, Nat.mul_one] at hv234_0
                                                                        replace hv234_0 := Option.some.inj (hv234_0.symm.trans hx234_0)
                                                                        rw [hv234_0] at ge234_0
                                                                        have HL234_0 := Aside0.mk (show Kd.R (Kd.int .i64) 3 _ _ _ _ (zG x4_6 x125_5) from ge234_0)
                                                                        clear hv234_0 ge234_0
                                                                        have HX234_0 := Aside0.mk hx234_0
                                                                        clear hcc234 hce234
                                                                        have HR234_0 := Aside0.mk hi234_0
                                                                        have HC234_0 := Aside0.mk hl234_0
                                                                        clear hi234_0 hl234_0
                                                                        replace p234 := eq_true p234
                                                                        replace q234 := eq_true q234
                                                                        have ea_ := Option.some.inj (hx233_0.symm.trans hx234_0)
                                                                        injection ea_ with ea_ en_ ec_
                                                                        subst ea_
                                                                        subst ec_
                                                                        clear en_
                                                                        have p235 : 0 ≤ (x14_6 : Int) := of_decide_eq_true sqA
                                                                        have q235 : x14_6 < ((zG x4_6 x125_5).length : Int) := of_decide_eq_true sqA
                                                                        obtain ⟨ad235, e235, hx235_0⟩ := Kd.qm (by repeat (first | (with_reducible exact HR234_0.out) | (with_reducible refine Kd.yj ?_ _) | (with_reducible refine Kd.vW ?_ _) | (with_reducible refine Kd.yQ ?_) | exact HR234_0.out)) x14_6 p235 q235
                                                                        cases e235
                                                                        replace p235 := eq_true p235
                                                                        replace q235 := eq_true q235
                                                                        have p236 : 0 ≤ ((x6_2.length : Int) : Int) := of_decide_eq_true sqA
                                                                        have q236 : (x6_2.length : Int) < (x4_6.length : Int) := of_decide_eq_true sqA
                                                                        obtain ⟨ad236, A236_0, c236_0, e236, hx236_0, hl236_0, hi236_0⟩ := yD (Kd.qk HO_4.out).2.2 (x6_2.length : Int) p236 q236
                                                                        obtain rfl : ad218 = ad236 := (by injection e236)
                                                                        obtain ⟨ce236, hce236, hMe236, hcc236⟩ := Kd.Zo HO_4.out [] (x6_2.length : Int) p236 (by first | exact q236 | exact of_decide_eq_true sqA | (have e_ := (Kd.qk HO_4.out).1; omega))
                                                                        obtain ⟨ve236_0, rfl, ge236_0⟩ := hMe236
                                                                        have hv236_0 := hcc236 0 _ rfl
                                                                        rw [Nat.add_zero, show ((Kd.slice 3 (Kd.int .i64))).sz = 1 from rfl, Nat.mul_one] at hv236_0
                                                                        replace hv236_0 := Option.some.inj (hv236_0.symm.trans hx236_0)
                                                                        rw [hv236_0] at ge236_0
                                                                        have HL236_0 := Aside0.mk (show Kd.R (Kd.int .i64) 3 _ _ _ _ (zG x4_6 (x6_2.length : Int)) from ge236_0)
                                                                        clear hv236_0 ge236_0
                                                                        have HX236_0 := Aside0.mk hx236_0
                                                                        clear hcc236 hce236
                                                                        have HR236_0 := Aside0.mk hi236_0
                                                                        have HC236_0 := Aside0.mk hl236_0
                                                                        clear hi236_0 hl236_0
                                                                        (try simp only [Go.IntWalk.toNatUp] at hx236_0)
                                                                        (try simp only [hl4_4, hl4_5, hl4_6] at p236)
                                                                        (try simp only [hl4_4, hl4_5, hl4_6] at q236)
                                                                        (try simp only [hl4_4, hl4_5, hl4_6] at hx236_0)
                                                                        replace p236 := eq_true p236
                                                                        replace q236 := eq_true q236
                                                                        have p237 : 0 ≤ (x14_6 : Int) := of_decide_eq_true sqA
                                                                        have q237 : x14_6 < ((zG x4_6 (x6_2.length : Int)).length : Int) := of_decide_eq_true sqA
                                                                        obtain ⟨ad237, e237, hx237_0⟩ := Kd.qm (by repeat (first | (with_reducible exact HR236_0.out) | (with_reducible refine Kd.yj ?_ _) | (with_reducible refine Kd.vW ?_ _) | (with_reducible refine Kd.yQ ?_) | exact HR236_0.out)) x14_6 p237 q237
                                                                        cases e237
                                                                        replace p237 := eq_true p237
                                                                        replace q237 := eq_true q237
                                                                        have p75 : 0 ≤ (x14_6 : Int) := of_decide_eq_true sqA
                                                                        have q75 : (x14_6 : Int) < (((zG x4_6 x125_5).length : Int) : Int) := of_decide_eq_true sqA
                                                                        obtain ⟨go75, co75, eo75, gb75, gl75, cl75, HG75⟩ := Kd.ZE HL233_0.out (by omega)
                                                                        (first | cases eo75 | (injection eo75 with ea_ en_ ec_; (first | subst ea_ | (injection ea_ with ea_; subst ea_)); subst ec_; clear en_))
                                                                        (try simp only [add_plain] at *)
                                                                        have GB75 := Aside0.mk gb75
                                                                        have GG75 := Aside0.mk HG75
                                                                        clear gb75 gl75 HG75
                                                                        (first | simp only [add_plain] at hx235_0 | skip)
                                                                        obtain ⟨hx75_0, hf75_0⟩ := Kd.yi 0 HL233_0.out (x14_6 : Int) p75 q75
                                                                        replace p75 := eq_true p75
                                                                        replace q75 := eq_true q75
                                                                        have hq79 : (x125_5 : Int) < (x4_6.length : Int) := (by have h_ : (x125_5 : Int) < ((x4_6.length : Int) : Int) := of_decide_eq_true sqA; first | exact h_ | (have e_ := (Kd.qk HO_4.out).1; omega) | simpa only [List.length_set, List.length_set] using h_)
                                                                        obtain ⟨oki79, ce79, hcl79, hM79, hcc79, hok79, hbk79⟩ := Kd.VE HO_4.out [] (x125_5 : Int) (of_decide_eq_true sqA) hq79
                                                                        obtain ⟨ve79_0, rfl, ge79_0⟩ := hM79
                                                                        have hv79 := hcc79 0 _ rfl
                                                                        rw [Nat.add_zero, show ((Kd.slice 3 (Kd.int .i64))).sz = 1 from rfl, Nat.mul_one] at hv79
                                                                        replace hv79 := Option.some.inj (hv79.symm.trans HX233_0.out)
                                                                        subst hv79
                                                                        clear hcc79 hcl79
                                                                        replace ge79_0 := (show Kd.R (Kd.int .i64) 3 _ _ _ _ (zG x4_6 x125_5) from ge79_0)
                                                                        have HP79 := Kd.Qe ge79_0 (x14_6 : Int) (Int.tmod (wrap64 ((rd (zG x4_6 x125_5) x14_6) + (wrap64 ((wrap64 (a0_0 - (rd (zG x4_5 x125_5) x7_2))) * (rd (zG x4_6 (x6_2.length : Int)) x14_6))))) a0_0)
                                                                        rw [← Ny238.out] at HP79
                                                                        have HS79 := hbk79 HP79.2 (fun k_ e_ => by injection e_ with e_; subst e_; exact ge79_0.1 _ rfl) (x' := y238) (Kd.zaI HP79.1)
                                                                        rw [← Ny240.out] at HS79
                                                                        have HQ79 := Aside0.mk HS79
                                                                        clear HP79 HS79 hbk79 hok79
                                                                        refine y2 (n := 30) (S := fun w' => w'.cell? ⟨gb198, 0, none⟩ = some (.int .i64 a0_0) ∧ w'.cell? ⟨gb198, 1, none⟩ = some (.int .i64 a0_1) ∧ w'.cell? ⟨gb198, 2, none⟩ = some (.int .i64 a0_2) ∧ w'.cell? ⟨gb198, 3, none⟩ = some (.slice A0_3 l0_3.length c0_3) ∧ w'.cell? (ad218.add (x125_5).toNat) = some (.slice (some ⟨go75, 0, none⟩) (zG x4_6 x125_5).length c233_0) ∧ w'.cell? (ad218.add (x125_5).toNat) = some (.slice (some ⟨go75, 0, none⟩) (zG x4_6 x125_5).length c233_0) ∧ w'.cell? ⟨go75, (x14_6).toNat, none⟩ = some (.int .i64 (rd (zG x4_6 x125_5) x14_6)) ∧ w'.cell? (ad218.add x6_2.length) = some (.slice (some ad237) (zG x4_6 (x6_2.length : Int)).length c236_0) ∧ w'.cell? (ad237.add (x14_6).toNat) = some (.int .i64 (rd (zG x4_6 (x6_2.length : Int)) x14_6))) (ds := [29]) #[false, false, false, false, false, false, false, false, false, false, false, false, false, false, false, false, false, false, false, false, false, false, false, false, false, false, false, false, false, false] (by kernel_rfl) rfl rfl ⟨(zb BK198.out 0).trans rfl, (zb BK198.out 1).trans rfl, (zb BK198.out 2).trans rfl, (zb BK198.out 3).trans rfl, hx233_0, hx234_0, hx235_0, hx236_0, hx237_0⟩ (fun hHeld => ?_); refine vw zc.zcS zc.zct (fun HT_ HW_ => ?_)
                                                                        generalize wr.drew = w78 at HO_4 HO_6 BK198 BK199 HB GG75 HL233_0 HL234_0 HL236_0 HQ79 HR233_0 HR234_0 HR236_0 HX233_0 HX234_0 HX236_0 hf75_0 hx233_0 hx234_0 hx235_0 hx236_0 hx237_0 hx75_0 hHeld ⊢
                                                                        refine zO (i := 0) (N := some 146) (v := ?_) (a' := ?_) #[true, false, false, false, false, false, false, false, false, false, false, false, false, false, false, false, false, false, false, false, false, false, false, false, false, false, false, false, false, false] rfl rfl (zv HT_.out (by kernel_rfl)) (fun _ _ _ h => h) (Or.inl ⟨by rfl, ?_⟩) ?_ ?_
                                                                        rotate_left
                                                                        · intro w'; go_simp; with_reducible rfl
                                                                        rotate_left
                                                                        · simp only [Act.put, List.setIfInBounds_toArray, List.set_cons_zero, List.set_cons_succ, zk, zm]; rfl
                                                                        refine zO (i := 1) (N := some 147) (v := ?_) (a' := ?_) #[true, true, false, false, false, false, false, false, false, false, false, false, false, false, false, false, false, false, false, false, false, false, false, false, false, false, false, false, false, false] rfl rfl (zv HT_.out (by kernel_rfl)) (fun _ _ _ h => h) (Or.inl ⟨by rfl, ?_⟩) ?_ ?_
                                                                        rotate_left
                                                                        · intro w'; go_simp; with_reducible rfl
                                                                        rotate_left
                                                                        · simp only [Act.put, List.setIfInBounds_toArray, List.set_cons_zero, List.set_cons_succ, zk, zm]; rfl
                                                                        refine zO (i := 2) (N := some 148) (v := ?_) (a' := ?_) #[true, true, true, false, false, false, false, false, false, false, false, false, false, false, false, false, false, false, false, false, false, false, false, false, false, false, false, false, false, false] rfl rfl (zv HT_.out (by kernel_rfl)) (fun _ _ _ h => h) (Or.inl ⟨by rfl, ?_⟩) ?_ ?_
                                                                        rotate_left
                                                                        · intro w'; go_simp; with_reducible rfl
                                                                        rotate_left
                                                                        · simp only [Act.put, List.setIfInBounds_toArray, List.set_cons_zero, List.set_cons_succ, zk, zm]; rfl
                                                                        refine zO (i := 4) (N := some 150) (v := ?_) (a' := ?_) #[true, true, true, false, true, false, false, false, false, false, false, false, false, false, false, false, false, false, false, false, false, false, false, false, false, false, false, false, false, false] rfl rfl (zv HT_.out (by kernel_rfl)) (fun _ _ _ h => h) (Or.inl ⟨by rfl, ?_⟩) ?_ ?_
                                                                        rotate_left
                                                                        · intro w'; go_simp; with_reducible rfl
                                                                        rotate_left
                                                                        · simp only [Act.put, List.setIfInBounds_toArray, List.set_cons_zero, List.set_cons_succ, zk, zm]; rfl
                                                                        refine zO (i := 5) (N := some 151) (v := ?_) (a' := ?_) #[true, true, true, false, true, true, false, false, false, false, false, false, false, false, false, false, false, false, false, false, false, false, false, false, false, false, false, false, false, false] rfl rfl (zv HT_.out (by kernel_rfl)) (fun _ _ _ h => h) (Or.inl ⟨by rfl, ?_⟩) ?_ ?_
                                                                        rotate_left
                                                                        · intro w'; go_simp; with_reducible rfl
                                                                        rotate_left
                                                                        · simp only [Act.put, List.setIfInBounds_toArray, List.set_cons_zero, List.set_cons_succ, zk, zm]; rfl
                                                                        refine zO (i := 6) (N := some 152) (v := ?_) (a' := ?_) #[true, true, true, false, true, true, true, false, false, false, false, false, false, false, false, false, false, false, false, false, false, false, false, false, false, false, false, false, false, false] rfl rfl (zv HT_.out (by kernel_rfl)) (fun _ _ _ h => h) (Or.inl ⟨by rfl, ?_⟩) ?_ ?_
                                                                        rotate_left
                                                                        · intro w'; go_simp; with_reducible rfl
                                                                        rotate_left
                                                                        · simp only [Act.put, List.setIfInBounds_toArray, List.set_cons_zero, List.set_cons_succ, zk, zm]; rfl
                                                                        refine zO (i := 7) (N := some 153) (v := ?_) (a' := ?_) #[true, true, true, false, true, true, true, true, false, false, false, false, false, false, false, false, false, false, false, false, false, false, false, false, false, false, false, false, false, false] rfl rfl (zv HT_.out (by kernel_rfl)) (fun _ _ _ h => h) (Or.inl ⟨by rfl, ?_⟩) ?_ ?_
                                                                        rotate_left
                                                                        · intro w'; go_simp; with_reducible rfl
                                                                        rotate_left
                                                                        · simp only [Act.put, List.setIfInBounds_toArray, List.set_cons_zero, List.set_cons_succ, zk, zm]; rfl
                                                                        refine zO (i := 9) (N := some 155) (v := ?_) (a' := ?_) #[true, true, true, false, true, true, true, true, false, true, false, false, false, false, false, false, false, false, false, false, false, false, false, false, false, false, false, false, false, false] rfl rfl (zv HT_.out (by kernel_rfl)) (fun _ _ _ h => h) (Or.inl ⟨by rfl, ?_⟩) ?_ ?_
                                                                        rotate_left
                                                                        · intro w'; go_simp; with_reducible rfl
                                                                        rotate_left
                                                                        · simp only [Act.put, List.setIfInBounds_toArray, List.set_cons_zero, List.set_cons_succ, zk, zm]; rfl
                                                                        refine zO (i := 12) (N := some 158) (v := ?_) (a' := ?_) #[true, true, true, false, true, true, true, true, false, true, false, false, true, false, false, false, false, false, false, false, false, false, false, false, false, false, false, false, false, false] rfl rfl (zv HT_.out (by kernel_rfl)) (fun _ _ _ h => h) (Or.inl ⟨by rfl, ?_⟩) ?_ ?_
                                                                        rotate_left
                                                                        · intro w'; go_simp; with_reducible rfl
                                                                        rotate_left
                                                                        · simp only [Act.put, List.setIfInBounds_toArray, List.set_cons_zero, List.set_cons_succ, zk, zm]; rfl
                                                                        refine zO (i := 14) (N := some 160) (v := ?_) (a' := ?_) #[true, true, true, false, true, true, true, true, false, true, false, false, true, false, true, false, false, false, false, false, false, false, false, false, false, false, false, false, false, false] rfl rfl (zv HT_.out (by kernel_rfl)) (fun _ _ _ h => h) (Or.inl ⟨by rfl, ?_⟩) ?_ ?_
                                                                        rotate_left
                                                                        · intro w'; go_simp; with_reducible rfl
                                                                        rotate_left
                                                                        · simp only [Act.put, List.setIfInBounds_toArray, List.set_cons_zero, List.set_cons_succ, zk, zm]; rfl
                                                                        refine zO (i := 16) (N := some 162) (v := ?_) (a' := ?_) #[true, true, true, false, true, true, true, true, false, true, false, false, true, false, true, false, true, false, false, false, false, false, false, false, false, false, false, false, false, false] rfl rfl (zv HT_.out (by kernel_rfl)) (fun _ _ _ h => h) (Or.inl ⟨by rfl, ?_⟩) ?_ ?_
                                                                        rotate_left
                                                                        · intro w'; go_simp; with_reducible rfl
                                                                        rotate_left
                                                                        · simp only [Act.put, List.setIfInBounds_toArray, List.set_cons_zero, List.set_cons_succ, zk, zm]; rfl
                                                                        refine zO (i := 17) (N := some 163) (v := ?_) (a' := ?_) #[true, true, true, false, true, true, true, true, false, true, false, false, true, false, true, false, true, true, false, false, false, false, false, false, false, false, false, false, false, false] rfl rfl (zv HT_.out (by kernel_rfl)) (fun _ _ _ h => h) (Or.inl ⟨by rfl, ?_⟩) ?_ ?_
                                                                        rotate_left
                                                                        · intro w'; go_simp; with_reducible rfl
                                                                        rotate_left
                                                                        · simp only [Act.put, List.setIfInBounds_toArray, List.set_cons_zero, List.set_cons_succ, zk, zm]; rfl
                                                                        refine zO (i := 18) (N := some 164) (v := ?_) (a' := ?_) #[true, true, true, false, true, true, true, true, false, true, false, false, true, false, true, false, true, true, true, false, false, false, false, false, false, false, false, false, false, false] rfl rfl (zv HT_.out (by kernel_rfl)) (fun _ _ _ h => h) (Or.inl ⟨by rfl, ?_⟩) ?_ ?_
                                                                        rotate_left
                                                                        · intro w'; go_simp; with_reducible rfl
                                                                        rotate_left
                                                                        · simp only [Act.put, List.setIfInBounds_toArray, List.set_cons_zero, List.set_cons_succ, zk, zm]; rfl
                                                                        refine zO (i := 20) (N := some 166) (v := ?_) (a' := ?_) #[true, true, true, false, true, true, true, true, false, true, false, false, true, false, true, false, true, true, true, false, true, false, false, false, false, false, false, false, false, false] rfl rfl (zv HT_.out (by kernel_rfl)) (fun _ _ _ h => h) (Or.inl ⟨by rfl, ?_⟩) ?_ ?_
                                                                        rotate_left
                                                                        · intro w'; go_simp; with_reducible rfl
                                                                        rotate_left
                                                                        · simp only [Act.put, List.setIfInBounds_toArray, List.set_cons_zero, List.set_cons_succ, zk, zm]; rfl
                                                                        refine zO (i := 25) (N := some 171) (v := ?_) (a' := ?_) #[true, true, true, false, true, true, true, true, false, true, false, false, true, false, true, false, true, true, true, false, true, false, false, false, false, true, false, false, false, false] rfl rfl (zv HT_.out (by kernel_rfl)) (fun _ _ _ h => h) (Or.inl ⟨by rfl, ?_⟩) ?_ ?_
                                                                        rotate_left
                                                                        · intro w'; go_simp; with_reducible rfl
                                                                        rotate_left
                                                                        · simp only [Act.put, List.setIfInBounds_toArray, List.set_cons_zero, List.set_cons_succ, zk, zm]; rfl
                                                                        refine jt (i := 3) (N := some 149) (v := ?_) (a' := ?_) #[true, true, true, true, true, true, true, true, false, true, false, false, true, false, true, false, true, true, true, false, true, false, false, false, false, true, false, false, false, false] rfl rfl (qE HT_.out HW_.out (by kernel_rfl)) (fun _ _ _ h => h) (Or.inl ⟨by rfl, ?_⟩) hHeld ?_ ?_
                                                                        rotate_left
                                                                        · rintro w' ⟨s0, s1, s2, s3, s4, s5, s6, s7, s8⟩; go_simp; with_reducible rfl
                                                                        rotate_left
                                                                        · simp only [Act.put, List.setIfInBounds_toArray, List.set_cons_zero, List.set_cons_succ, zk, zm]; rfl
                                                                        refine jt (i := 8) (N := some 154) (v := ?_) (a' := ?_) #[true, true, true, true, true, true, true, true, true, true, false, false, true, false, true, false, true, true, true, false, true, false, false, false, false, true, false, false, false, false] rfl rfl (qE HT_.out HW_.out (by kernel_rfl)) (fun _ _ _ h => h) (Or.inl ⟨by rfl, ?_⟩) hHeld ?_ ?_
                                                                        rotate_left
                                                                        · rintro w' ⟨s0, s1, s2, s3, s4, s5, s6, s7, s8⟩; go_simp; with_reducible rfl
                                                                        rotate_left
                                                                        · simp only [Act.put, List.setIfInBounds_toArray, List.set_cons_zero, List.set_cons_succ, zk, zm]; rfl
                                                                        refine zO (i := 10) (N := some 156) (v := ?_) (a' := ?_) #[true, true, true, true, true, true, true, true, true, true, true, false, true, false, true, false, true, true, true, false, true, false, false, false, false, true, false, false, false, false] rfl rfl (zv HT_.out (by kernel_rfl)) (fun _ _ _ h => h) (Or.inl ⟨by rfl, ?_⟩) ?_ ?_
                                                                        rotate_left
                                                                        · intro w'; go_simp; with_reducible rfl
                                                                        rotate_left
                                                                        · simp only [Act.put, List.setIfInBounds_toArray, List.set_cons_zero, List.set_cons_succ, zk, zm]; rfl
                                                                        refine jt (i := 11) (N := some 157) (v := ?_) (a' := ?_) #[true, true, true, true, true, true, true, true, true, true, true, true, true, false, true, false, true, true, true, false, true, false, false, false, false, true, false, false, false, false] rfl rfl (qE HT_.out HW_.out (by kernel_rfl)) (fun _ _ _ h => h) (Or.inl ⟨by rfl, ?_⟩) hHeld ?_ ?_
                                                                        rotate_left
                                                                        · rintro w' ⟨s0, s1, s2, s3, s4, s5, s6, s7, s8⟩; go_simp; with_reducible rfl
                                                                        rotate_left
                                                                        · simp only [Act.put, List.setIfInBounds_toArray, List.set_cons_zero, List.set_cons_succ, zk, zm]; rfl
                                                                        refine jt (i := 13) (N := some 159) (v := ?_) (a' := ?_) #[true, true, true, true, true, true, true, true, true, true, true, true, true, true, true, false, true, true, true, false, true, false, false, false, false, true, false, false, false, false] rfl rfl (qE HT_.out HW_.out (by kernel_rfl)) (fun _ _ _ h => h) (Or.inl ⟨by rfl, ?_⟩) hHeld ?_ ?_
                                                                        rotate_left
                                                                        · rintro w' ⟨s0, s1, s2, s3, s4, s5, s6, s7, s8⟩; go_simp; with_reducible rfl
                                                                        rotate_left
                                                                        · simp only [Act.put, List.setIfInBounds_toArray, List.set_cons_zero, List.set_cons_succ, zk, zm]; rfl
                                                                        refine zO (i := 15) (N := some 161) (v := ?_) (a' := ?_) #[true, true, true, true, true, true, true, true, true, true, true, true, true, true, true, true, true, true, true, false, true, false, false, false, false, true, false, false, false, false] rfl rfl (zv HT_.out (by kernel_rfl)) (fun _ _ _ h => h) (Or.inl ⟨by rfl, ?_⟩) ?_ ?_
                                                                        rotate_left
                                                                        · intro w'; go_simp; with_reducible rfl
                                                                        rotate_left
                                                                        · simp only [Act.put, List.setIfInBounds_toArray, List.set_cons_zero, List.set_cons_succ, zk, zm]; rfl
                                                                        refine jt (i := 19) (N := some 165) (v := ?_) (a' := ?_) #[true, true, true, true, true, true, true, true, true, true, true, true, true, true, true, true, true, true, true, true, true, false, false, false, false, true, false, false, false, false] rfl rfl (qE HT_.out HW_.out (by kernel_rfl)) (fun _ _ _ h => h) (Or.inl ⟨by rfl, ?_⟩) hHeld ?_ ?_
                                                                        rotate_left
                                                                        · rintro w' ⟨s0, s1, s2, s3, s4, s5, s6, s7, s8⟩; go_simp; with_reducible rfl
                                                                        rotate_left
                                                                        · simp only [Act.put, List.setIfInBounds_toArray, List.set_cons_zero, List.set_cons_succ, zk, zm]; rfl
                                                                        refine zO (i := 21) (N := some 167) (v := ?_) (a' := ?_) #[true, true, true, true, true, true, true, true, true, true, true, true, true, true, true, true, true, true, true, true, true, true, false, false, false, true, false, false, false, false] rfl rfl (zv HT_.out (by kernel_rfl)) (fun _ _ _ h => h) (Or.inl ⟨by rfl, ?_⟩) ?_ ?_
                                                                        rotate_left
                                                                        · intro w'; go_simp; with_reducible rfl
                                                                        rotate_left
                                                                        · simp only [Act.put, List.setIfInBounds_toArray, List.set_cons_zero, List.set_cons_succ, zk, zm]; rfl
                                                                        refine jt (i := 22) (N := some 168) (v := ?_) (a' := ?_) #[true, true, true, true, true, true, true, true, true, true, true, true, true, true, true, true, true, true, true, true, true, true, true, false, false, true, false, false, false, false] rfl rfl (qE HT_.out HW_.out (by kernel_rfl)) (fun _ _ _ h => h) (Or.inl ⟨by rfl, ?_⟩) hHeld ?_ ?_
                                                                        rotate_left
                                                                        · rintro w' ⟨s0, s1, s2, s3, s4, s5, s6, s7, s8⟩; go_simp; with_reducible rfl
                                                                        rotate_left
                                                                        · simp only [Act.put, List.setIfInBounds_toArray, List.set_cons_zero, List.set_cons_succ, zk, zm]; rfl
                                                                        refine zO (i := 23) (N := some 169) (v := ?_) (a' := ?_) #[true, true, true, true, true, true, true, true, true, true, true, true, true, true, true, true, true, true, true, true, true, true, true, true, false, true, false, false, false, false] rfl rfl (zv HT_.out (by kernel_rfl)) (fun _ _ _ h => h) (Or.inl ⟨by rfl, ?_⟩) ?_ ?_
                                                                        rotate_left
                                                                        · intro w'; go_simp; with_reducible rfl
                                                                        rotate_left
                                                                        · simp only [Act.put, List.setIfInBounds_toArray, List.set_cons_zero, List.set_cons_succ, zk, zm]; rfl
                                                                        refine zO (i := 24) (N := some 170) (v := ?_) (a' := ?_) #[true, true, true, true, true, true, true, true, true, true, true, true, true, true, true, true, true, true, true, true, true, true, true, true, true, true, false, false, false, false] rfl rfl (zv HT_.out (by kernel_rfl)) (fun _ _ _ h => h) (Or.inl ⟨by rfl, ?_⟩) ?_ ?_
                                                                        rotate_left
                                                                        · intro w'; go_simp; with_reducible rfl
                                                                        rotate_left
                                                                        · simp only [Act.put, List.setIfInBounds_toArray, List.set_cons_zero, List.set_cons_succ, zk, zm]; rfl
                                                                        refine jt (i := 26) (N := some 172) (v := ?_) (a' := ?_) #[true, true, true, true, true, true, true, true, true, true, true, true, true, true, true, true, true, true, true, true, true, true, true, true, true, true, true, false, false, false] rfl rfl (qE HT_.out HW_.out (by kernel_rfl)) (fun _ _ _ h => h) (Or.inl ⟨by rfl, ?_⟩) hHeld ?_ ?_
                                                                        rotate_left
                                                                        · rintro w' ⟨s0, s1, s2, s3, s4, s5, s6, s7, s8⟩; go_simp; with_reducible rfl
                                                                        rotate_left
                                                                        · simp only [Act.put, List.setIfInBounds_toArray, List.set_cons_zero, List.set_cons_succ, zk, zm]; rfl
                                                                        refine zO (i := 27) (N := some 173) (v := ?_) (a' := ?_) #[true, true, true, true, true, true, true, true, true, true, true, true, true, true, true, true, true, true, true, true, true, true, true, true, true, true, true, true, false, false] rfl rfl (zv HT_.out (by kernel_rfl)) (fun _ _ _ h => h) (Or.inl ⟨by rfl, ?_⟩) ?_ ?_
                                                                        rotate_left
                                                                        · intro w'; go_simp; with_reducible rfl
                                                                        rotate_left
                                                                        · simp only [Act.put, List.setIfInBounds_toArray, List.set_cons_zero, List.set_cons_succ, zk, zm]; rfl
                                                                        refine zO (i := 28) (N := some 174) (v := ?_) (a' := ?_) #[true, true, true, true, true, true, true, true, true, true, true, true, true, true, true, true, true, true, true, true, true, true, true, true, true, true, true, true, true, false] rfl rfl (zv HT_.out (by kernel_rfl)) (fun _ _ _ h => h) (Or.inl ⟨by rfl, ?_⟩) ?_ ?_
                                                                        rotate_left
                                                                        · intro w'; go_simp; with_reducible rfl
                                                                        rotate_left
                                                                        · simp only [Act.put, List.setIfInBounds_toArray, List.set_cons_zero, List.set_cons_succ, zk, zm]; rfl
                                                                        refine Jz (i := 29) (N := none) #[true, true, true, true, true, true, true, true, true, true, true, true, true, true, true, true, true, true, true, true, true, true, true, true, true, true, true, true, true, true] rfl rfl (jX HT_.out (by kernel_rfl)) (by decide) (fun K hK => ?_)
                                                                        refine QV (w1 := ?_) (by rfl) rfl ?_ ?_
                                                                        rotate_left
                                                                        · go_simp
                                                                          rfl
                                                                        refine hK.out _ _ ?_
                                                                        clear hK K
                                                                        refine Qx (yJ HT_.out (by kernel_rfl)) ?_
                                                                        try go_wp2
                                                                        (try simp only [← hl4_6])
                                                                        go_roundg k6
                                                                        case measure => have := HK1.out; have := HK2.out; have := HJ26.out; have := HK4.out; have := HK5.out; have := HK6.out; omega
                                                                        case rel => exact ⟨(y240), (wrap64 (x14_6 + 1)), (sqD), H', ⟨by have := HK1.out; have := HK2.out; have := HJ26.out; have := HK4.out; have := HK5.out; have := HK6.out; omega⟩, ⟨by (try simp only [hl4_4]); (try simp only [hl4_5]); (try simp only [hl4_6]); (with_reducible repeat (first | apply Kd.qC | apply Kd.qB | apply Kd.qI)); exact HQ79.out⟩, ⟨by (try simp only [hl4_4]); (try simp only [hl4_5]); (try simp only [hl4_6]); refine sqR ?_; exact Kd.zy (Kd.zF (p := ⟨go75, (x14_6 : Int).toNat, none⟩) (Kd.zaJ HO_6.out rfl ((HL233_0.out.1 _ rfl).1)) (fun _ hk => hk.2) (.int .i64 (Int.tmod (wrap64 ((rd (zG x4_6 x125_5) x14_6) + (wrap64 ((wrap64 (a0_0 - (rd (zG x4_5 x125_5) x7_2))) * (rd (zG x4_6 (x6_2.length : Int)) x14_6))))) a0_0))) (fun _ hk => trivial)⟩, ⟨by (try simp only [hl4_4]); (try simp only [hl4_5]); (try simp only [hl4_6]); refine sqK ?_; refine zJ ?_ (by have h_ := Kd.vz HL233_0.out BK198.out (by decide); intro e_; exact h_ (by rw [e_]; rfl)) _; refine sqK ?_; exact BK198.out⟩, ⟨by (try simp only [hl4_4]); (try simp only [hl4_5]); (try simp only [hl4_6]); refine sqK ?_; refine zJ ?_ (by have h_ := Kd.vz HL233_0.out BK199.out (by decide); intro e_; exact h_ (by rw [e_]; rfl)) _; refine sqK ?_; exact BK199.out⟩, ⟨by repeat (first | (with_reducible first | exact HB.out | apply qw | apply z7 | apply qf | refine qa ?_ GB75.out | refine qa ?_ GE198.out | refine qa ?_ GE199.out) | exact HB.out)⟩⟩
                                                                    · rw [if_neg c73] at H
                                                                      exact absurd H (by simp)
                                                                  · rw [if_neg c72] at H
                                                                    exact absurd H (by simp)
                                                                · rw [if_neg c71] at H
                                                                  exact absurd H (by simp)
                                                              · rw [if_neg c70] at H
                                                                exact absurd H (by simp)
                                                            · rw [if_neg c69] at H
                                                              exact absurd H (by simp)
                                                          · rw [if_neg c68] at H
                                                            exact absurd H (by simp)
                                                        · rw [if_neg c67] at H
                                                          exact absurd H (by simp)
                                                    · rw [if_neg c63] at H
                                                      have c63b0 : decide (x14_6 < a0_2) = false := decide_eq_false c63
                                                      clear c63
                                                      have H' := Aside0.mk H
                                                      clear H
                                                      have hnb81 := NB198_199.out
                                                      have hnc81 := NB199_198.out
                                                      have hcz82_0 : wr.cell? ⟨gb198, 0, none⟩ = some (.int .i64 a0_0) := (zb BK198.out 0).trans rfl
                                                      have hcz82_1 : wr.cell? ⟨gb198, 1, none⟩ = some (.int .i64 a0_1) := (zb BK198.out 1).trans rfl
                                                      have hcz82_2 : wr.cell? ⟨gb198, 2, none⟩ = some (.int .i64 a0_2) := (zb BK198.out 2).trans rfl
                                                      have hcz82_3 : wr.cell? ⟨gb198, 3, none⟩ = some (.slice A0_3 l0_3.length c0_3) := (zb BK198.out 3).trans rfl
                                                      have hfz82_0 := za BK198.out 0; have hfz82_1 := za BK198.out 1; have hfz82_2 := za BK198.out 2; have hfz82_3 := za BK198.out 3
                                                      go_wp2
                                                      (try simp only [← hl4_5, ← hl4_6])
                                                      go_roundg k6
                                                      case measure => have := HK1.out; have := HK2.out; have := HJ26.out; have := HK4.out; have := HK5.out; have := HK6.out; omega
                                                      case rel => exact ⟨(x4_6), (wrap64 (x125_5 + 1)), (sqD), H', ⟨by have := HK1.out; have := HK2.out; have := HJ26.out; have := HK4.out; have := HK5.out; have := HK6.out; omega⟩, ⟨by (try simp only [hl4_4]); (try simp only [hl4_5]); (try simp only [hl4_6]); (with_reducible repeat (first | apply Kd.qC | apply Kd.qB | apply Kd.qI)); exact HO_4.out⟩, ⟨by (try simp only [hl4_4]); (try simp only [hl4_5]); (try simp only [hl4_6]); refine sqR ?_; exact HO_6.out⟩, ⟨by (try simp only [hl4_4]); (try simp only [hl4_5]); (try simp only [hl4_6]); refine sqK ?_; exact BK198.out⟩, ⟨by (try simp only [hl4_4]); (try simp only [hl4_5]); (try simp only [hl4_6]); refine sqK ?_; exact BK199.out⟩, ⟨sqB⟩⟩
                                              · rw [if_neg c62] at H
                                                exact absurd H (by simp)
                                            · rw [if_neg c61] at H
                                              exact absurd H (by simp)
                                          · rw [if_neg c60] at H
                                            exact absurd H (by simp)
                                        · rw [if_neg c59] at H
                                          exact absurd H (by simp)
                                      · rw [if_neg c58] at H
                                        have c58b0 : decide (x125_5 < (x4_4.length : Int)) = false := decide_eq_false c58
                                        (try simp only [hl4_4, hl4_5] at c58b0)
                                        (try simp only [hl4_4, hl4_5] at c58b1)
                                        clear c58
                                        by_cases c83 : x6_2.length < 17592186044416
                                        · rw [if_pos c83] at H
                                          have LMc83 := Aside0.mk c83
                                          clear c83
                                          obtain ⟨y228, hy228⟩ : ∃ y_ : List Int, y_ = (x6_2 ++ [x7_2]) := ⟨_, rfl⟩
                                          replace H : (zc.l1 k5 x4_5 y228 (wrap64 (x7_2 + 1)) a0_0 a0_1 a0_2 l0_3) = some (r1, r2, r3, r4, r5) := by first | (rw [hy228]; with_reducible exact H) | (have H2_ := (Option.bind_some _ _).symm.trans H; rw [hy228]; with_reducible exact H2_) | (have H2_ := (Option.bind_some _ _).symm.trans H; with_reducible exact H2_) | with_reducible exact H | (rw [hy228]; exact H) | exact H
                                          have Ny228 := Aside0.mk hy228
                                          clear hy228
                                          have H' := Aside0.mk H
                                          clear H
                                          go_wp2_with (first | ((with_reducible refine qT (b := .append) (xs := #[.tmp 176, .tmp 178]) rfl ?_); at_builtin; refine Kd.yC (Kd.int .i64) (w0 := w) w.heap.size rfl (.tmp 176) (.tmp 178) 22 3 (.int .i64 0) 8 rfl Try.underlying22 yT rfl (by decide) (by omega) (.slice Ao30 x6_2.length co30) x6_2 x7_2 [.int .i64 x7_2] (fun _ => True) (fun _ => False) rfl rfl ?aP (fun _ hk => hk.elim) ?aF ?aO ?aB ?aS ?aL ?_; (case aP => exact rfl); (case aB => exact sqB); (case aF => exact (fun _ _ => trivial)); (case aO => exact (sqR HO_6.out)); (case aS => exact (zB sqB)); (case aL => have := LMc83.out; omega); intro v229 w84 ho hb hg hat; rw [← Ny228.out] at ho; have n0_ := Aside0.mk (Kd.JR (ok := (fun _ => True)) (by (with_reducible repeat (first | apply Kd.qC | apply Kd.qB | apply Kd.qI)); exact Kd.vJ HO_4.out (fun _ hk => ⟨trivial, by first | exact hk | exact fun h_ => hk (h_.trans ((fun (A : Option Addr) (x y c : Nat) => (by cases A <;> rfl : (Value.slice A x c).ownBlock = (Value.slice A y c).ownBlock)) _ _ _ _))⟩)) hg hat); have n1_ := Aside0.mk (qZ (g := gb198) (o := .cells #[.int .i64 a0_0, .int .i64 a0_1, .int .i64 a0_2, .slice A0_3 l0_3.length c0_3] 29 (0, 0)) (sqK BK198.out) hg (Kd.vz HO_6.out BK198.out (by decide))); have n2_ := Aside0.mk (qZ (g := gb199) (o := .cells #[.int .i64 0, .int .i64 0, .int .i64 0, .slice none 0 0] 29 (0, 0)) (sqK BK199.out) hg (Kd.vz HO_6.out BK199.out (by decide))); have n3_ := Aside0.mk (hb); have n4_ := Aside0.mk (ho); clear HO_4; clear BK198; clear BK199; clear HB; clear HO_6; have HO_4 := n0_; have BK198 := n1_; have BK199 := n2_; have HB := n3_; have HO230 := n4_; clear n0_ n1_ n2_ n3_ n4_; clear ho hb hg hat))
                                          (try simp only [← hl4_4, ← hl4_5])
                                          rw [KEEPL.out, KN.out, Option.some.inj KEEPA.out]
                                          go_roundg k5
                                          case measure => have := HK1.out; have := HK2.out; have := HJ26.out; have := HK4.out; have := HK5.out; omega
                                          case rel => exact ⟨(x4_5), (y228), (wrap64 (x7_2 + 1)), (sqD), H', ⟨by have := HK1.out; have := HK2.out; have := HJ26.out; have := HK4.out; have := HK5.out; omega⟩, ⟨by (try rw [← KN.out]); (try rw [← KEEPL.out]); (try rw [← Option.some.inj KEEPA.out]); (try simp only [hl4_4]); (try simp only [hl4_5]); (with_reducible repeat (first | apply Kd.qC | apply Kd.qB | apply Kd.qI)); exact Kd.vJ HO_4.out (fun _ hk => hk.2)⟩, ⟨by (try rw [← KN.out]); (try rw [← KEEPL.out]); (try rw [← Option.some.inj KEEPA.out]); (try simp only [hl4_4]); (try simp only [hl4_5]); refine sqR ?_; exact HO230.out⟩, ⟨by (try rw [← KN.out]); (try rw [← KEEPL.out]); (try rw [← Option.some.inj KEEPA.out]); (try simp only [hl4_4]); (try simp only [hl4_5]); refine sqK ?_; exact BK198.out⟩, ⟨by (try rw [← KN.out]); (try rw [← KEEPL.out]); (try rw [← Option.some.inj KEEPA.out]); (try simp only [hl4_4]); (try simp only [hl4_5]); refine sqK ?_; exact BK199.out⟩, ⟨sqB⟩⟩
                                        · rw [if_neg c83] at H
                                          exact absurd H (by simp)
                          · rw [if_neg c44] at H
                            exact absurd H (by simp)
                        · rw [if_neg c43] at H
                          exact absurd H (by simp)
                      · rw [if_neg c42] at H
                        exact absurd H (by simp)
                    · rw [if_neg c41] at H
                      exact absurd H (by simp)
            · rw [if_neg c26] at H
              have c26b0 : decide (x7_2 < a0_2) = false := decide_eq_false c26
              clear c26
              obtain ⟨y241, hy241⟩ : ∃ y_ : List Int, y_ = (([] : List Int)) := ⟨_, rfl⟩
              replace H : (if 0 ≤ (x6_2.length : Int) then (if (x6_2.length : Int) ≤ (x4_2.length : Int) then ((some (x4_2.take ((x6_2.length : Int) : Int).toNat : List (List Int))).bind fun y245 => (zc.l6 k2 x6_2 y245 (y245.length : Int) 0 a0_0 (x6_2.length : Int) a0_2 y241)) else (none)) else (none)) = some (r1, r2, r3, r4, r5) := by first | (rw [hy241]; with_reducible exact H) | (have H2_ := (Option.bind_some _ _).symm.trans H; rw [hy241]; with_reducible exact H2_) | (have H2_ := (Option.bind_some _ _).symm.trans H; with_reducible exact H2_) | with_reducible exact H | (rw [hy241]; exact H) | exact H
              have Ny241 := Aside0.mk hy241
              clear hy241
              by_cases c85 : 0 ≤ (x6_2.length : Int)
              · rw [if_pos c85] at H
                have c85b0 := eq_true c85
                have c85b1 : decide (0 ≤ (x6_2.length : Int)) = true := decide_eq_true c85
                clear c85
                by_cases c86 : (x6_2.length : Int) ≤ (x4_2.length : Int)
                · rw [if_pos c86] at H
                  have c86b0 := eq_true c86
                  have c86b1 : decide ((x6_2.length : Int) ≤ (x4_2.length : Int)) = true := decide_eq_true c86
                  clear c86
                  obtain ⟨y245, hy245⟩ : ∃ y_ : List (List Int), y_ = (x4_2.take ((x6_2.length : Int) : Int).toNat) := ⟨_, rfl⟩
                  replace H : (zc.l6 k2 x6_2 y245 (y245.length : Int) 0 a0_0 (x6_2.length : Int) a0_2 y241) = some (r1, r2, r3, r4, r5) := by first | (rw [hy245]; with_reducible exact H) | (have H2_ := (Option.bind_some _ _).symm.trans H; rw [hy245]; with_reducible exact H2_) | (have H2_ := (Option.bind_some _ _).symm.trans H; with_reducible exact H2_) | with_reducible exact H | (rw [hy245]; exact H) | exact H
                  have Ny245 := Aside0.mk hy245
                  clear hy245
                  have H' := Aside0.mk H
                  clear H
                  have hnb87 := NB198_199.out
                  have hnc87 := NB199_198.out
                  have hcz88_0 : wr.cell? ⟨gb198, 0, none⟩ = some (.int .i64 a0_0) := (zb BK198.out 0).trans rfl
                  have hcz88_1 : wr.cell? ⟨gb198, 1, none⟩ = some (.int .i64 a0_1) := (zb BK198.out 1).trans rfl
                  have hcz88_2 : wr.cell? ⟨gb198, 2, none⟩ = some (.int .i64 a0_2) := (zb BK198.out 2).trans rfl
                  have hcz88_3 : wr.cell? ⟨gb198, 3, none⟩ = some (.slice A0_3 l0_3.length c0_3) := (zb BK198.out 3).trans rfl
                  have hfz88_0 := za BK198.out 0; have hfz88_1 := za BK198.out 1; have hfz88_2 := za BK198.out 2; have hfz88_3 := za BK198.out 3
                  obtain ⟨Ao89, co89, eo89⟩ := Kd.z8 HO_6.out
                  subst eo89
                  go_wp2_with (first | ((with_reducible refine zq (N := 186) rfl ?_); refine Kd.yZ (Kd.int .i64) _ 3 ?hg (N := 186) ?hd (xs := ([] : List Int)) (inner := []) (ok := fun _ => True) (okp := fun _ => True) ?hr ?hp (fun _ hk => hk) trivial (Below.refl _ _) (Nat.le_refl _) (by simp) ?_; (case hd => rfl); (case hg => rfl); (case hr => exact sqG); (case hp => exact (qx.none _ _)); intro v242 w90 ho91 hb hg_ hnew_; clear hg_ hnew_; (first | rw [← Ny241.out] at ho91 | (simp only [Int.reduceToNat] at ho91; rw [← Ny241.out] at ho91)); have n0_ := Aside0.mk (Kd.QX (by (with_reducible repeat (first | apply Kd.qC | apply Kd.qB | apply Kd.qI)); exact HO_4.out) (Kd.qS ho91) hb); have n1_ := Aside0.mk (Kd.qz (sqR HO_6.out) (Kd.qS ho91) hb); have n2_ := Aside0.mk (Kd.qq (Kd.ja ho91 (Kd.vr (sqR HO_6.out))) (zB sqB)); have n3_ := Aside0.mk (zd (g := gb198) (o := .cells #[.int .i64 a0_0, .int .i64 a0_1, .int .i64 a0_2, .slice A0_3 l0_3.length c0_3] 29 (0, 0)) (sqK BK198.out) hb); have n4_ := Aside0.mk (zd (g := gb199) (o := .cells #[.int .i64 0, .int .i64 0, .int .i64 0, .slice none 0 0] 29 (0, 0)) (sqK BK199.out) hb); have n5_ := Aside0.mk (ze sqB hb); clear HO_4; clear HO_6; clear BK198; clear BK199; clear HB; have HO_4 := n0_; have HO_6 := n1_; have HO243 := n2_; have BK198 := n3_; have BK199 := n4_; have HB := n5_; clear n0_ n1_ n2_ n3_ n4_ n5_; clear hb ho91; obtain ⟨Ao92, co92, eo92⟩ := Kd.z8 HO243.out; subst eo92) | ((with_reducible refine zq (N := 15) rfl ?_); refine zo ?hg (N := 15) ?hd (cs := #[.int .i64 0, .int .i64 0, .int .i64 0, .slice none 0 0]) (t := 29) ?hr ?_; (case hd => rfl); (case hg => rfl); (case hr => exact sqG); intro gb244 hg w93 hbox hb; have n0_ := Aside0.mk (Kd.QI (by (with_reducible repeat (first | apply Kd.qC | apply Kd.qB | apply Kd.qI)); exact HO_4.out) hb); have n1_ := Aside0.mk (Kd.zE (sqR HO_6.out) hb); have n2_ := Aside0.mk (Kd.zE (sqR HO243.out) hb); have n3_ := Aside0.mk (zd (g := gb198) (o := .cells #[.int .i64 a0_0, .int .i64 a0_1, .int .i64 a0_2, .slice A0_3 l0_3.length c0_3] 29 (0, 0)) (sqK BK198.out) hb); have n4_ := Aside0.mk (zd (g := gb199) (o := .cells #[.int .i64 0, .int .i64 0, .int .i64 0, .slice none 0 0] 29 (0, 0)) (sqK BK199.out) hb); have n5_ := Aside0.mk (ze sqB hb); have n6_ := Aside0.mk (hbox); have n7_ := Aside0.mk ((sqS hg : w.heap.size ≤ gb244)); have n8_ := Aside0.mk ((sqS hg : w.heap.size ≤ gb244)); have n9_ := Aside0.mk ((by rw [hg]; exact Nat.ne_of_lt (zz (g := gb198) (o := .cells #[.int .i64 a0_0, .int .i64 a0_1, .int .i64 a0_2, .slice A0_3 l0_3.length c0_3] 29 (0, 0)) (sqK BK198.out)) : gb198 ≠ gb244)); have n10_ := Aside0.mk ((by rw [hg]; exact Nat.ne_of_gt (zz (g := gb198) (o := .cells #[.int .i64 a0_0, .int .i64 a0_1, .int .i64 a0_2, .slice A0_3 l0_3.length c0_3] 29 (0, 0)) (sqK BK198.out)) : gb244 ≠ gb198)); have n11_ := Aside0.mk ((by rw [hg]; exact Nat.ne_of_lt (zz (g := gb199) (o := .cells #[.int .i64 0, .int .i64 0, .int .i64 0, .slice none 0 0] 29 (0, 0)) (sqK BK199.out)) : gb199 ≠ gb244)); have n12_ := Aside0.mk ((by rw [hg]; exact Nat.ne_of_gt (zz (g := gb199) (o := .cells #[.int .i64 0, .int .i64 0, .int .i64 0, .slice none 0 0] 29 (0, 0)) (sqK BK199.out)) : gb244 ≠ gb199)); clear HO_4; clear HO_6; clear HO243; clear BK198; clear BK199; clear HB; have HO_4 := n0_; have HO_6 := n1_; have HO243 := n2_; have BK198 := n3_; have BK199 := n4_; have HB := n5_; have BK244 := n6_; have GW244 := n7_; have GE244 := n8_; have NB198_244 := n9_; have NB244_198 := n10_; have NB199_244 := n11_; have NB244_199 := n12_; clear n0_ n1_ n2_ n3_ n4_ n5_ n6_ n7_ n8_ n9_ n10_ n11_ n12_; clear hb hbox hg; have hnb94 := NB244_198.out; have hnc94 := NB198_244.out; have hnb95 := NB244_199.out; have hnc95 := NB199_244.out; have hcz96_0 : w93.cell? ⟨gb244, 0, none⟩ = some (.int .i64 0) := (zb BK244.out 0).trans rfl; have hcz96_1 : w93.cell? ⟨gb244, 1, none⟩ = some (.int .i64 0) := (zb BK244.out 1).trans rfl; have hcz96_2 : w93.cell? ⟨gb244, 2, none⟩ = some (.int .i64 0) := (zb BK244.out 2).trans rfl; have hcz96_3 : w93.cell? ⟨gb244, 3, none⟩ = some (.slice none 0 0) := (zb BK244.out 3).trans rfl; have hfz96_0 := za BK244.out 0; have hfz96_1 := za BK244.out 1; have hfz96_2 := za BK244.out 2; have hfz96_3 := za BK244.out 3) | ((with_reducible refine jq (t := 29) (p := 15) rfl ?_); refine jb (t := 29) (p := 15) (v := ?vo_w97) (w1 := ((((w93.setCell ⟨gb244, 0, none⟩ (.int .i64 a0_0)).setCell ⟨gb244, 1, none⟩ (.int .i64 (x6_2.length : Int))).setCell ⟨gb244, 2, none⟩ (.int .i64 a0_2)).setCell ⟨gb244, 3, none⟩ (.slice Ao92 y241.length co92))) ?hg ?ho ?hn ?hr ?_; (case ho => rfl); (case hg => rfl); (case hn => rfl); (case hr => exact sqG); intro w97 hw; have n0_ : Aside0 (Kd.S (Kd.slice 3 (Kd.int .i64)) 22 w97 w.heap.size (fun k_ => some k_ ≠ (.slice Ao89 x6_2.length co89 : Value).ownBlock ∧ some k_ ≠ (.slice Ao92 y241.length co92 : Value).ownBlock) u4 x4_2) := ⟨(by rw [hw]; exact (by (with_reducible repeat (first | apply Kd.qC | apply Kd.qB | apply Kd.qI)); exact Kd.vJ (Kd.VI (p := ⟨gb244, 3, none⟩) (Kd.VI (p := ⟨gb244, 2, none⟩) (Kd.VI (p := ⟨gb244, 1, none⟩) (Kd.VI (p := ⟨gb244, 0, none⟩) (Kd.Yn HO_4.out BK244.out (by decide)) (fun _ hk => hk.2) (.int .i64 a0_0)) (fun _ hk => hk.2) (.int .i64 (x6_2.length : Int))) (fun _ hk => hk.2) (.int .i64 a0_2)) (fun _ hk => hk.2) (.slice Ao92 y241.length co92)) (fun _ hk => by first | exact ⟨hk.1.1, hk.1.2⟩ | (refine ⟨?_, ?_⟩ <;> intro e_ <;> simp only [e_, ne_eq, not_true_eq_false, and_false, false_and] at hk))))⟩; have n1_ : Aside0 (Kd.R (Kd.int .i64) 3 w97 w.heap.size (fun k_ => some k_ ≠ (.slice Ao92 y241.length co92 : Value).ownBlock) (.slice Ao89 x6_2.length co89) x6_2) := ⟨(by rw [hw]; exact (by refine sqR ?_; exact Kd.zy (Kd.zF (p := ⟨gb244, 3, none⟩) (Kd.zF (p := ⟨gb244, 2, none⟩) (Kd.zF (p := ⟨gb244, 1, none⟩) (Kd.zF (p := ⟨gb244, 0, none⟩) (Kd.zV HO_6.out BK244.out (by decide)) (fun _ hk => hk.2) (.int .i64 a0_0)) (fun _ hk => hk.2) (.int .i64 (x6_2.length : Int))) (fun _ hk => hk.2) (.int .i64 a0_2)) (fun _ hk => hk.2) (.slice Ao92 y241.length co92)) (fun _ hk => hk.1.2)))⟩; have n2_ : Aside0 (Kd.R (Kd.int .i64) 3 w97 w.heap.size (fun k_ => some k_ ≠ (.slice Ao89 x6_2.length co89 : Value).ownBlock) (.slice Ao92 y241.length co92) y241) := ⟨(by rw [hw]; exact (by refine sqR ?_; exact Kd.zy (Kd.zF (p := ⟨gb244, 3, none⟩) (Kd.zF (p := ⟨gb244, 2, none⟩) (Kd.zF (p := ⟨gb244, 1, none⟩) (Kd.zF (p := ⟨gb244, 0, none⟩) (Kd.zV HO243.out BK244.out (by decide)) (fun _ hk => hk.2) (.int .i64 a0_0)) (fun _ hk => hk.2) (.int .i64 (x6_2.length : Int))) (fun _ hk => hk.2) (.int .i64 a0_2)) (fun _ hk => hk.2) (.slice Ao92 y241.length co92)) (fun _ hk => hk.1.2)))⟩; have n3_ : Aside0 (w97.heap[gb198]? = some (.cells #[.int .i64 a0_0, .int .i64 a0_1, .int .i64 a0_2, .slice A0_3 l0_3.length c0_3] 29 (0, 0))) := ⟨(by rw [hw]; exact (by refine sqK ?_; refine zJ ?_ NB198_244.out _; refine sqK ?_; refine zJ ?_ NB198_244.out _; refine sqK ?_; refine zJ ?_ NB198_244.out _; refine sqK ?_; refine zJ ?_ NB198_244.out _; refine sqK ?_; exact BK198.out))⟩; have n4_ : Aside0 (w97.heap[gb199]? = some (.cells #[.int .i64 0, .int .i64 0, .int .i64 0, .slice none 0 0] 29 (0, 0))) := ⟨(by rw [hw]; exact (by refine sqK ?_; refine zJ ?_ NB199_244.out _; refine sqK ?_; refine zJ ?_ NB199_244.out _; refine sqK ?_; refine zJ ?_ NB199_244.out _; refine sqK ?_; refine zJ ?_ NB199_244.out _; refine sqK ?_; exact BK199.out))⟩; have n5_ : Aside0 (w97.heap[gb244]? = some (.cells #[.int .i64 a0_0, .int .i64 (x6_2.length : Int), .int .i64 a0_2, .slice Ao92 y241.length co92] 29 (0, 0))) := ⟨(by rw [hw]; exact (by refine sqK ?_; refine zL (cs := #[.int .i64 a0_0, .int .i64 (x6_2.length : Int), .int .i64 a0_2, .slice none 0 0]) ?_ 3 _ rfl; refine sqK ?_; refine zL (cs := #[.int .i64 a0_0, .int .i64 (x6_2.length : Int), .int .i64 0, .slice none 0 0]) ?_ 2 _ rfl; refine sqK ?_; refine zL (cs := #[.int .i64 a0_0, .int .i64 0, .int .i64 0, .slice none 0 0]) ?_ 1 _ rfl; refine sqK ?_; refine zL (cs := #[.int .i64 0, .int .i64 0, .int .i64 0, .slice none 0 0]) ?_ 0 _ rfl; refine sqK ?_; exact BK244.out))⟩; have n6_ : Aside0 (Below w.heap.size w w97) := ⟨(by rw [hw]; exact sqB)⟩; clear hw; clear HO_4; clear HO_6; clear HO243; clear BK198; clear BK199; clear BK244; clear HB; have HO_4 := n0_; have HO_6 := n1_; have HO243 := n2_; have BK198 := n3_; have BK199 := n4_; have BK244 := n5_; have HB := n6_; clear n0_ n1_ n2_ n3_ n4_ n5_ n6_; obtain ⟨Ao99, co99, eo99⟩ := Kd.y4 HO_4.out; subst eo99; have q98 : ((x6_2.length : Int) : Int) ≤ ((x4_2.length : Int) : Int) := of_decide_eq_true sqA; obtain ⟨i098, hi098, _, hsz98, _⟩ := info_parts zaS; have hroom98 : x4_2.length ≤ co99 := (Kd.qk HO_4.out).2.1; have hC98 : Kd.C (Kd.slice 3 (Kd.int .i64)) _ Ao99 x4_2.length x4_2 := (Kd.qk HO_4.out).2.2; have hcut98 := zcs (P := Try.prog) 62 22 .i64 Try.underlying62 hi098 Ao99 x4_2.length co99 (x6_2.length : Int) (of_decide_eq_true sqA) q98 hroom98; have hr98 := Kd.zaR (m := ((x6_2.length : Int) : Int).toNat) hC98 (by omega); have hy98 : y245.length = ((x6_2.length : Int) : Int).toNat := (by rw [Ny245.out, List.length_take]; omega); rw [← Ny245.out] at hr98; rw [← hy98] at hcut98; have HR248 := Aside0.mk hr98; have HC248 := Aside0.mk (show y245.length ≤ co99 from by omega); clear hr98 hC98 hroom98 hi098 hsz98; have KY98 := Aside0.mk hy98; clear hy98; have KL98 := Aside0.mk (show ((x6_2.length : Int) : Int).toNat ≤ x4_2.length from by omega); replace q98 := eq_true q98))
                  go_loopg [193] k2 (fun kq v193 w' => ∃ (x193_3 : Int) (x245003_3 : List Int) (u245003 : Value), v193 = .int .i64 x193_3 ∧ Aside0 (zc.l6 kq x6_2 y245 (y245.length : Int) x193_3 a0_0 (x6_2.length : Int) a0_2 x245003_3 = some (r1, r2, r3, r4, r5)) ∧ Aside0 (kq ≤ k2) ∧ Aside0 (Kd.R (Kd.int .i64) 3 w' w.heap.size (fun k_ => some k_ ≠ (u245003 : Value).ownBlock) (.slice Ao89 x6_2.length co89) x6_2) ∧ Aside0 (Kd.R (Kd.int .i64) 3 w' w.heap.size (fun k_ => some k_ ≠ ((.slice Ao89 x6_2.length co89) : Value).ownBlock) u245003 x245003_3) ∧ Aside0 (w'.heap[gb198]? = some (.cells #[.int .i64 a0_0, .int .i64 a0_1, .int .i64 a0_2, (.slice A0_3 l0_3.length c0_3)] 29 (0, 0))) ∧ Aside0 (w'.heap[gb199]? = some (.cells #[.int .i64 0, .int .i64 0, .int .i64 0, (.slice none 0 0)] 29 (0, 0))) ∧ Aside0 (w'.heap[gb244]? = some (.cells #[.int .i64 a0_0, .int .i64 (x6_2.length : Int), .int .i64 a0_2, u245003] 29 (0, 0))) ∧ Aside0 (Below w.heap.size w w') ∧ Aside0 (Kd.S (Kd.slice 3 (Kd.int .i64)) 22 w' w.heap.size (fun k_ => some k_ ≠ (u245003 : Value).ownBlock) (.slice Ao99 x4_2.length co99) x4_2))
                  case atStart => exact ⟨(0), (y241), (.slice Ao92 y241.length co92), (sqD), H', ⟨Nat.le_refl _⟩, ⟨sqR HO_6.out⟩, ⟨sqR HO243.out⟩, ⟨sqK BK198.out⟩, ⟨sqK BK199.out⟩, ⟨sqK BK244.out⟩, ⟨sqB⟩, ⟨by (with_reducible repeat (first | apply Kd.qC | apply Kd.qB | apply Kd.qI)); first | exact Kd.vJ HO_4.out (fun _ hk => hk.2) | exact Kd.vJ HO_4.out (fun _ hk => hk.1.2) | exact Kd.vJ HO_4.out (fun _ hk => hk.1) | exact Kd.vJ HO_4.out (fun _ hk => hk.1.1.2) | exact HO_4.out⟩⟩
                  case round =>
                    clear H'
                    try clear c2
                    try clear p2
                    try clear q2
                    try clear hx2
                    try clear c4
                    try clear c5
                    try clear p5
                    try clear q5
                    try clear c6
                    try clear p6
                    try clear c7
                    try clear p7
                    try clear q7
                    try clear hx7
                    try clear hf7
                    try clear c8
                    try clear c9
                    try clear q9
                    try clear q21
                    try clear q22
                    try clear c23
                    try clear p23
                    try clear q23
                    try clear hx23
                    try clear c26
                    try clear c26b0
                    try clear c41
                    try clear c42
                    try clear c43
                    try clear c44
                    try clear p54
                    try clear q54
                    try clear q56
                    try clear c58
                    try clear c58b0
                    try clear c59
                    try clear c60
                    try clear c61
                    try clear c62
                    try clear c63
                    try clear c63b0
                    try clear c64
                    try clear c64b0
                    try clear c64b1
                    try clear p64
                    try clear c65
                    try clear c67
                    try clear c67b0
                    try clear c68
                    try clear c68b0
                    try clear c69
                    try clear c69b0
                    try clear c70
                    try clear c70b0
                    try clear c71
                    try clear c71b0
                    try clear c71b1
                    try clear c72
                    try clear c72b0
                    try clear c72b1
                    try clear c73
                    try clear c73b0
                    try clear c74
                    try clear c74b0
                    try clear c74b1
                    try clear p75
                    try clear q75
                    try clear hx75
                    try clear hf75
                    try clear c76
                    try clear c79
                    try clear q79
                    try clear c81
                    try clear c83
                    try clear c85
                    try clear c85b0
                    try clear c85b1
                    try clear c86
                    try clear c86b0
                    try clear c86b1
                    try clear c87
                    try clear c94
                    try clear c95
                    try clear q98
                    try clear hcz66_0
                    try clear hcz66_1
                    try clear hcz66_2
                    try clear hcz66_3
                    try clear hcz77_0
                    try clear hcz77_1
                    try clear hcz77_2
                    try clear hcz77_3
                    try clear hcz82_0
                    try clear hcz82_1
                    try clear hcz82_2
                    try clear hcz82_3
                    try clear hcz88_0
                    try clear hcz88_1
                    try clear hcz88_2
                    try clear hcz88_3
                    try clear hcz96_0
                    try clear hcz96_1
                    try clear hcz96_2
                    try clear hcz96_3
                    try clear hfz66_0
                    try clear hfz66_1
                    try clear hfz66_2
                    try clear hfz66_3
                    try clear hfz77_0
                    try clear hfz77_1
                    try clear hfz77_2
                    try clear hfz77_3
                    try clear hfz82_0
                    try clear hfz82_1
                    try clear hfz82_2
                    try clear hfz82_3
                    try clear hfz88_0
                    try clear hfz88_1
                    try clear hfz88_2
                    try clear hfz88_3
                    try clear hfz96_0
                    try clear hfz96_1
                    try clear hfz96_2
                    try clear hfz96_3
                    try clear hx233_0
                    try clear hx234_0
                    try clear hx235_0
                    try clear hx236_0
                    try clear hx237_0
                    try clear hx75_0
                    try clear p233
                    try clear p234
                    try clear p235
                    try clear p236
                    try clear p237
                    try clear p54
                    try clear p6
                    try clear p75
                    try clear q2
                    try clear q21
                    try clear q216
                    try clear q217
                    try clear q218
                    try clear q219
                    try clear q22
                    try clear q221
                    try clear q222
                    try clear q223
                    try clear q224
                    try clear q231
                    try clear q232
                    try clear q233
                    try clear q234
                    try clear q235
                    try clear q236
                    try clear q237
                    try clear q5
                    try clear q54
                    try clear q56
                    try clear q75
                    try clear q98
                    obtain ⟨x193_3, x245003_3, u245003, rfl, HA, HK3, HO_6, HO_245003, BK198, BK199, BK244, HB, HS4⟩ := hrel
                    cases gk with
                    | zero => exact absurd HA.out (by simp [zc.l6])
                    | succ k3 =>
                      have H := HA.out
                      clear HA
                      simp only [zc.l6] at H
                      by_cases c100 : x193_3 < (y245.length : Int)
                      · rw [if_pos c100] at H
                        have c100b0 : decide (x193_3 < (y245.length : Int)) = true := decide_eq_true c100
                        clear c100
                        by_cases c101 : 0 ≤ x193_3
                        · rw [if_pos c101] at H
                          have c101b0 : decide (0 ≤ x193_3) = true := decide_eq_true c101
                          clear c101
                          by_cases c102 : x193_3 < (y245.length : Int)
                          · rw [if_pos c102] at H
                            have c102b0 : decide (x193_3 < (y245.length : Int)) = true := decide_eq_true c102
                            clear c102
                            by_cases c103 : x245003_3.length + (zG y245 x193_3).length < 17592186044416
                            · rw [if_pos c103] at H
                              have LMc103 := Aside0.mk c103
                              clear c103
                              obtain ⟨y250, hy250⟩ : ∃ y_ : List Int, y_ = (x245003_3 ++ (zG y245 x193_3)) := ⟨_, rfl⟩
                              replace H : (zc.l6 k3 x6_2 y245 (y245.length : Int) (wrap64 (x193_3 + 1)) a0_0 (x6_2.length : Int) a0_2 y250) = some (r1, r2, r3, r4, r5) := by first | (rw [hy250]; with_reducible exact H) | (have H2_ := (Option.bind_some _ _).symm.trans H; rw [hy250]; with_reducible exact H2_) | (have H2_ := (Option.bind_some _ _).symm.trans H; with_reducible exact H2_) | with_reducible exact H | (rw [hy250]; exact H) | exact H
                              have Ny250 := Aside0.mk hy250
                              clear hy250
                              have H' := Aside0.mk H
                              clear H
                              have p249 : 0 ≤ (x193_3 : Int) := of_decide_eq_true sqA
                              have q249 : x193_3 < (y245.length : Int) := of_decide_eq_true sqA
                              have hr_ := Kd.zaR (m := ((x6_2.length : Int) : Int).toNat) (Kd.qk HS4.out).2.2 KL98.out
                              rw [← Ny245.out] at hr_
                              obtain ⟨ad249, A249_0, c249_0, e249, hx249_0, hl249_0, hi249_0⟩ := yD hr_ x193_3 p249 q249
                              clear hr_
                              cases e249

                              have HR249_0 := Aside0.mk hi249_0
                              have HC249_0 := Aside0.mk hl249_0
                              clear hi249_0 hl249_0
                              replace p249 := eq_true p249
                              replace q249 := eq_true q249
                              have hnb104 := NB244_198.out
                              have hnc104 := NB198_244.out
                              have hnb105 := NB244_199.out
                              have hnc105 := NB199_244.out
                              have hcz106_0 : wr.cell? ⟨gb244, 0, none⟩ = some (.int .i64 a0_0) := (zb BK244.out 0).trans rfl
                              have hcz106_1 : wr.cell? ⟨gb244, 1, none⟩ = some (.int .i64 (x6_2.length : Int)) := (zb BK244.out 1).trans rfl
                              have hcz106_2 : wr.cell? ⟨gb244, 2, none⟩ = some (.int .i64 a0_2) := (zb BK244.out 2).trans rfl
                              have hcz106_3 : wr.cell? ⟨gb244, 3, none⟩ = some (u245003) := (zb BK244.out 3).trans rfl
                              have hfz106_0 := za BK244.out 0; have hfz106_1 := za BK244.out 1; have hfz106_2 := za BK244.out 2; have hfz106_3 := za BK244.out 3
                              go_wp2_with (first | ((with_reducible refine qT (b := .append) (xs := #[.tmp 198, .tmp 199]) rfl ?_); at_builtin; refine Kd.vC (Kd.int .i64) (w0 := w) w.heap.size rfl (.tmp 198) (.tmp 199) 22 3 (.int .i64 0) 8 rfl Try.underlying22 yT rfl (by decide) (by omega) u245003 x245003_3 (zG y245 x193_3) _ _ _ (fun k_ => some k_ ≠ (.slice Ao89 x6_2.length co89 : Value).ownBlock) (fun _ => False) rfl rfl ?aO ?aR (fun _ _ h => h) (fun _ h => h.elim) ?aF ?aB ?aS ?aL ?_; (case aR => exact sqC HR249_0.out); (case aB => exact sqB); (case aF => exact (fun k_ hk => Kd.J6 (Kd.vr (sqR HO_6.out)) k_ hk)); (case aO => exact (sqR HO_245003.out)); (case aS => exact (zB sqB)); (case aL => have := LMc103.out; omega); intro v251 w107 ho hb hg hat; rw [← Ny250.out] at ho; have n0_ := Aside0.mk (Kd.ZX (ok := (fun _ => True)) (by refine sqR ?_; exact Kd.zy HO_6.out (fun _ hk => ⟨trivial, by first | exact hk | exact fun h_ => hk (h_.trans ((fun (A : Option Addr) (x y c : Nat) => (by cases A <;> rfl : (Value.slice A x c).ownBlock = (Value.slice A y c).ownBlock)) _ _ _ _))⟩)) hg hat); have n1_ := Aside0.mk (qZ (g := gb198) (o := .cells #[.int .i64 a0_0, .int .i64 a0_1, .int .i64 a0_2, .slice A0_3 l0_3.length c0_3] 29 (0, 0)) (sqK BK198.out) hg (Kd.vz HO_245003.out BK198.out (by decide))); have n2_ := Aside0.mk (qZ (g := gb199) (o := .cells #[.int .i64 0, .int .i64 0, .int .i64 0, .slice none 0 0] 29 (0, 0)) (sqK BK199.out) hg (Kd.vz HO_245003.out BK199.out (by decide))); have n3_ := Aside0.mk (qZ (g := gb244) (o := .cells #[.int .i64 a0_0, .int .i64 (x6_2.length : Int), .int .i64 a0_2, u245003] 29 (0, 0)) (sqK BK244.out) hg (Kd.vz HO_245003.out BK244.out (by decide))); have n4_ := Aside0.mk (hb); have n5_ := Aside0.mk (ho); have ns_ := Aside0.mk (Kd.JR (ok := (fun _ => True)) (v := u245003) (by (with_reducible repeat (first | apply Kd.qC | apply Kd.qB | apply Kd.qI)); exact Kd.vJ HS4.out (fun _ hk => ⟨trivial, hk⟩)) hg hat); clear HS4; have HS4 := ns_; clear ns_; clear HO_6; clear BK198; clear BK199; clear BK244; clear HB; clear HO_245003; have HO_6 := n0_; have BK198 := n1_; have BK199 := n2_; have BK244 := n3_; have HB := n4_; have HO252 := n5_; clear n0_ n1_ n2_ n3_ n4_ n5_; clear ho hb hg hat; obtain ⟨Ao108, co108, eo108⟩ := Kd.z8 HO252.out; subst eo108; have hcz109_0 : w107.cell? ⟨gb244, 0, none⟩ = some (.int .i64 a0_0) := (zb BK244.out 0).trans rfl; have hcz109_1 : w107.cell? ⟨gb244, 1, none⟩ = some (.int .i64 (x6_2.length : Int)) := (zb BK244.out 1).trans rfl; have hcz109_2 : w107.cell? ⟨gb244, 2, none⟩ = some (.int .i64 a0_2) := (zb BK244.out 2).trans rfl; have hcz109_3 : w107.cell? ⟨gb244, 3, none⟩ = some (u245003) := (zb BK244.out 3).trans rfl; have hfz109_0 := za BK244.out 0; have hfz109_1 := za BK244.out 1; have hfz109_2 := za BK244.out 2; have hfz109_3 := za BK244.out 3))
                              go_roundg k3
                              case measure => have := HK1.out; have := HK2.out; have := HK3.out; omega
                              case rel => exact ⟨(wrap64 (x193_3 + 1)), (y250), (.slice Ao108 y250.length co108), (sqD), H', ⟨by have := HK1.out; have := HK2.out; have := HK3.out; omega⟩, ⟨by refine sqR ?_; exact Kd.zy (Kd.zF (p := ⟨gb244, 3, none⟩) (Kd.zV HO_6.out BK244.out (by decide)) (fun _ hk => hk.2) (.slice Ao108 y250.length co108)) (fun _ hk => hk.1.2)⟩, ⟨by refine sqR ?_; exact Kd.zy (Kd.zF (p := ⟨gb244, 3, none⟩) (Kd.zV HO252.out BK244.out (by decide)) (fun _ hk => hk.2) (.slice Ao108 y250.length co108)) (fun _ hk => hk.1)⟩, ⟨by refine sqK ?_; refine zJ ?_ NB198_244.out _; refine sqK ?_; exact BK198.out⟩, ⟨by refine sqK ?_; refine zJ ?_ NB199_244.out _; refine sqK ?_; exact BK199.out⟩, ⟨by refine sqK ?_; refine zL (cs := #[.int .i64 a0_0, .int .i64 (x6_2.length : Int), .int .i64 a0_2, u245003]) ?_ 3 _ rfl; refine sqK ?_; exact BK244.out⟩, ⟨sqB⟩, ⟨by (with_reducible repeat (first | apply Kd.qC | apply Kd.qB | apply Kd.qI)); exact Kd.vJ (Kd.VI (p := ⟨gb244, 3, none⟩) (Kd.Yn HS4.out BK244.out (by decide)) (fun _ hk => hk.2) (.slice Ao108 y250.length co108)) (fun _ hk => hk.1.2)⟩⟩
                            · rw [if_neg c103] at H
                              exact absurd H (by simp)
                          · rw [if_neg c102] at H
                            exact absurd H (by simp)
                        · rw [if_neg c101] at H
                          exact absurd H (by simp)
                      · rw [if_neg c100] at H
                        have c100b0 : decide (x193_3 < (y245.length : Int)) = false := decide_eq_false c100
                        clear c100
                        simp only [Option.some.injEq, Prod.mk.injEq] at H
                        obtain ⟨rfl, rfl, rfl, rfl, rfl⟩ := H
                        have hnb110 := NB244_198.out
                        have hnc110 := NB198_244.out
                        have hnb111 := NB244_199.out
                        have hnc111 := NB199_244.out
                        have hcz112_0 : wr.cell? ⟨gb244, 0, none⟩ = some (.int .i64 a0_0) := (zb BK244.out 0).trans rfl
                        have hcz112_1 : wr.cell? ⟨gb244, 1, none⟩ = some (.int .i64 (x6_2.length : Int)) := (zb BK244.out 1).trans rfl
                        have hcz112_2 : wr.cell? ⟨gb244, 2, none⟩ = some (.int .i64 a0_2) := (zb BK244.out 2).trans rfl
                        have hcz112_3 : wr.cell? ⟨gb244, 3, none⟩ = some (u245003) := (zb BK244.out 3).trans rfl
                        have hfz112_0 := za BK244.out 0; have hfz112_1 := za BK244.out 1; have hfz112_2 := za BK244.out 2; have hfz112_3 := za BK244.out 3
                        have hnb113 := NB199_198.out
                        have hnc113 := NB198_199.out
                        have hcz114_0 : wr.cell? ⟨gb199, 0, none⟩ = some (.int .i64 0) := (zb BK199.out 0).trans rfl
                        have hcz114_1 : wr.cell? ⟨gb199, 1, none⟩ = some (.int .i64 0) := (zb BK199.out 1).trans rfl
                        have hcz114_2 : wr.cell? ⟨gb199, 2, none⟩ = some (.int .i64 0) := (zb BK199.out 2).trans rfl
                        have hcz114_3 : wr.cell? ⟨gb199, 3, none⟩ = some (.slice none 0 0) := (zb BK199.out 3).trans rfl
                        have hfz114_0 := za BK199.out 0; have hfz114_1 := za BK199.out 1; have hfz114_2 := za BK199.out 2; have hfz114_3 := za BK199.out 3
                        obtain ⟨Ao115, co115, eo115⟩ := Kd.z8 HO_245003.out
                        subst eo115
                        go_wp2
                        refine bodyPost_ret (vu rfl _ _ gb199 29 #[.int .i64 a0_0, .int .i64 (x6_2.length : Int), .int .i64 a0_2, .slice Ao115 x245003_3.length co115] (0, 0) _ rfl (by refine sqK ?_; refine zL (cs := #[.int .i64 a0_0, .int .i64 (x6_2.length : Int), .int .i64 a0_2, .slice none 0 0]) ?_ 3 _ rfl; refine sqK ?_; refine zL (cs := #[.int .i64 a0_0, .int .i64 (x6_2.length : Int), .int .i64 0, .slice none 0 0]) ?_ 2 _ rfl; refine sqK ?_; refine zL (cs := #[.int .i64 a0_0, .int .i64 0, .int .i64 0, .slice none 0 0]) ?_ 1 _ rfl; refine sqK ?_; refine zL (cs := #[.int .i64 0, .int .i64 0, .int .i64 0, .slice none 0 0]) ?_ 0 _ rfl; refine sqK ?_; exact BK199.out) Try.underlying29 rfl (by kernel_rfl)) rfl ?_
                        exact ⟨_, _, sqE, by refine sqR ?_; exact Kd.zy (Kd.zF (p := ⟨gb199, 3, none⟩) (Kd.zF (p := ⟨gb199, 2, none⟩) (Kd.zF (p := ⟨gb199, 1, none⟩) (Kd.zF (p := ⟨gb199, 0, none⟩) (Kd.zV HO_245003.out BK199.out (by decide)) (fun _ hk => hk.2) (.int .i64 a0_0)) (fun _ hk => hk.2) (.int .i64 (x6_2.length : Int))) (fun _ hk => hk.2) (.int .i64 a0_2)) (fun _ hk => hk.2) (.slice Ao115 x245003_3.length co115)) (fun _ hk => hk.1), by refine sqR ?_; exact Kd.zy (Kd.zF (p := ⟨gb199, 3, none⟩) (Kd.zF (p := ⟨gb199, 2, none⟩) (Kd.zF (p := ⟨gb199, 1, none⟩) (Kd.zF (p := ⟨gb199, 0, none⟩) (Kd.zV HO_6.out BK199.out (by decide)) (fun _ hk => hk.2) (.int .i64 a0_0)) (fun _ hk => hk.2) (.int .i64 (x6_2.length : Int))) (fun _ hk => hk.2) (.int .i64 a0_2)) (fun _ hk => hk.2) (.slice Ao115 x245003_3.length co115)) (fun _ hk => hk.1), sqB⟩
                · rw [if_neg c86] at H
                  exact absurd H (by simp)
              · rw [if_neg c85] at H
                exact absurd H (by simp)
end Go.Proofs.Ytjlbfbpjcmjdfaa.F
end
