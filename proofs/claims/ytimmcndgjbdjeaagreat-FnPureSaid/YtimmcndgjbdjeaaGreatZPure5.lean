/- Several texts of this session in one: Fx11, Fx13, Fx8, Fx14, Fx16, Fx19, Bits, Loops, LSets, Mat, LFamily, LMatroid, LRank. Conditions: as each theorem says. -/
import Derived.Test.YtimmcndgjbdjeaaGreatZPure0
import Derived.Test.YtimmcndgjbdjeaaGreatZPure1
import Derived.Test.YtimmcndgjbdjeaaGreatZPure2
import Derived.Test.YtimmcndgjbdjeaaGreatZPure4
import Derived.Test.YtimmcndgjbdjeaaGreatZPure3
import Derived.Laws.BitsLemmas
set_option maxHeartbeats 8000000
set_option maxRecDepth 100000
section
namespace Go.Proofs.YtimmcndgjbdjeaaGreat.F
open Go.RowKit Go.Proofs.YtimmcndgjbdjeaaGreatW.PrintWords Go.Proofs.YtimmcndgjbdjeaaGreatW.PrintLast Go.Proofs.YtimmcndgjbdjeaaGreatW.PrintMore
attribute [local go_sem] jN jM vw vp jy jA jQ jO   -- for this text's walks alone
set_option linter.unusedVariables false
set_option linter.unusedSimpArgs false

def qB.l0:Nat→List Int→Int→List Int→Int→Int→Option (Int)
 |0,_,_,_,_,_=>none
 |k+1,x5,x6,x12,x13,x14=>if x14<x13 then (if 0≤x14 then (if x14< (x12.length:Int) then (if (rd x12 x14)≥(x5.length:Int) then (some 0) else (if 0≤(rd x12 x14) then (if (rd x12 x14)< (x5.length:Int) then (if 0≤(rd x5 (rd x12 x14)) then (qB.l0 k x5 (Go.bits .or .i64 x6 (shl .i64 1 (rd x5 (rd x12 x14)))) x12 x13 (wrap64 (x14+1))) else (none)) else (none)) else (none))) else (none)) else (none)) else (some x6)
def qB.f (k:Nat)(a0:Int)(a1:Int):Option (Int):=(z6.f k a1).bind fun t563=>((z6.f k a0).bind fun t566=>(qB.l0 k t563 0 t566 (t566.length:Int) 0))
theorem qB.calls (k:Nat)(a0:Int)(a1:Int)(r:Int)(w:World)(h:qB.f k a0 a1=some r):Calls Tryz.prog 63 #[.int .i64 a0,.int .i64 a1] w fun e w'=>e= .returned (.int .i64 r)∧Below w.heap.size w w':=by have HB:=Aside0.mk (Below.refl w.heap.size w);have H:=h;unfold qB.f at H;clear h;replace H:=zF H;obtain ⟨t563,A3,H⟩:=H;replace H:=zF H;obtain ⟨t566,A4,H⟩:=H;have H':=Aside0.mk H;clear H;go_enter Tryz.func63,Tryz.ntmps63;(go_wp2_with (first|((with_reducible refine zb (f:=92) rfl ?_);refine zm (some 10) rfl rfl Tryz.func92 (by kernel_rfl) rfl #[.int .i64 a1] rfl sqM ?_;(with_reducible refine (z6.calls k a1 t563 _ A3.out).mono ?_);rintro e w5 ⟨v564,rfl,ho0,hb⟩;refine ⟨_,rfl,?_⟩;have q_:=f2 (Kd.zJ ho0 (zp sqB)) (zd sqB hb);clear HB;obtain ⟨HO565,HB⟩:=q_)|((with_reducible refine zb (f:=92) rfl ?_);refine zm (some 12) rfl rfl Tryz.func92 (by kernel_rfl) rfl #[.int .i64 a0] rfl sqM ?_;(with_reducible refine (z6.calls k a0 t566 _ A4.out).mono ?_);rintro e w6 ⟨v567,rfl,ho0,hb⟩;refine ⟨_,rfl,?_⟩;have q_:=f3 (Kd.zY (sqR HO565.out) (Kd.qx ho0) hb) (Kd.zJ (Kd.qy ho0 (Kd.jo (sqR HO565.out))) (zp sqB)) (zd sqB hb);clear HO565 HB;obtain ⟨HO565,HO568,HB⟩:=q_;obtain ⟨Ao7,co7,eo7⟩:=Kd.zG HO568.out;subst eo7)));(go_loopg [6,14] k (fun kq v6 v14 w'=> ∃(x6_1:Int) (x14_1:Int),v6= .int .i64 x6_1∧v14= .int .i64 x14_1∧Aside0 (qB.l0 kq t563 x6_1 t566 (t566.length:Int) x14_1=some r)∧Aside0 (kq≤k)∧Aside0 (Kd.R (Kd.int .i64) 3 w' w.heap.size (fun k_=>some k_≠((.slice Ao7 t566.length co7):Value).ownBlock) v564 t563)∧Aside0 (Kd.R (Kd.int .i64) 3 w' w.heap.size (fun k_=>some k_≠(v564:Value).ownBlock) (.slice Ao7 t566.length co7) t566)∧Aside0 (Below w.heap.size w w')));(case atStart=>exact ⟨(0),(0),(sqD),(sqD),H',⟨Nat.le_refl _⟩,⟨by refine sqR ?_;exact Kd.zB HO565.out (fun _ hk=>hk.2)⟩,⟨by refine sqR ?_;exact Kd.zB HO568.out (fun _ hk=>hk.2)⟩,⟨sqB⟩⟩);(case round=>clear H';obtain ⟨x6_1,x14_1,rfl,rfl,HA,HK1,HO_5,HO_12,HB⟩:=hrel;(cases gk with|zero=>exact absurd HA.out (by simp [qB.l0])|succ k1=>have H:=HA.out;clear HA;simp only [qB.l0] at H;by_cases c8:x14_1< (t566.length:Int);(·rw [if_pos c8] at H;have c8b0:decide (x14_1< (t566.length:Int))=true:=decide_eq_true c8;clear c8;by_cases c9:0≤x14_1;(·rw [if_pos c9] at H;have c9b0:decide (0≤x14_1)=true:=decide_eq_true c9;clear c9;by_cases c10:x14_1< (t566.length:Int);(·rw [if_pos c10] at H;have c10b0:decide (x14_1< (t566.length:Int))=true:=decide_eq_true c10;clear c10;by_cases c11:(rd t566 x14_1)≥(t563.length:Int);(·rw [if_pos c11] at H;have c11b0:decide ((t563.length:Int)≤(rd t566 x14_1))=true:=decide_eq_true c11;clear c11;obtain rfl:=Option.some.inj H;have p569:0≤(x14_1:Int):=of_decide_eq_true sqA;have q569:x14_1< (t566.length:Int):=of_decide_eq_true sqA;obtain ⟨ad569,e569,hx569_0⟩:=Kd.zP (Kd.zx HO_12.out).2.2 x14_1 p569 q569;cases e569;replace p569:=eq_true p569;replace q569:=eq_true q569;obtain ⟨Ao12,co12,eo12⟩:=Kd.zG HO_5.out;subst eo12;go_wp2;go_ret;exact ⟨sqE,sqB⟩);(·rw [if_neg c11] at H;have c11b0:decide ((t563.length:Int)≤(rd t566 x14_1))=false:=decide_eq_false c11;clear c11;by_cases c13:0≤(rd t566 x14_1);(·rw [if_pos c13] at H;have c13b0:decide (0≤(rd t566 x14_1))=true:=decide_eq_true c13;clear c13;by_cases c14:(rd t566 x14_1)< (t563.length:Int);(·rw [if_pos c14] at H;have c14b0:decide ((rd t566 x14_1)< (t563.length:Int))=true:=decide_eq_true c14;clear c14;by_cases c15:0≤(rd t563 (rd t566 x14_1));(·rw [if_pos c15] at H;have c15b0:=eq_true c15;have c15b1:decide (0≤(rd t563 (rd t566 x14_1)))=true:=decide_eq_true c15;clear c15;obtain ⟨ji16,hji16⟩: ∃j_:Int,(shl .i64 1 (rd t563 (rd t566 x14_1)))=j_:=⟨_,rfl⟩;(replace H:(qB.l0 k1 t563 (Go.bits .or .i64 x6_1 (ji16)) t566 (t566.length:Int) (wrap64 (x14_1+1)))=some r:=by first|(rw [hji16] at H;exact H)|(simp only [hji16] at H ⊢;exact H));have hji16_:(IntKind.i64.wrap (1*2 ^min (rd t563 (rd t566 x14_1)).toNat 64))=ji16:=hji16;have hji16z:(rd t563 (rd t566 x14_1))≤64→(IntKind.i64.wrap (1*2 ^(rd t563 (rd t566 x14_1)).toNat))=ji16:=vB hji16;(have hji16u:(IntKind.i64.wrap (2 ^min (rd t563 (rd t566 x14_1)).toNat 64))=ji16:=by have h_:=hji16_;rw [Int.one_mul] at h_;exact h_);(have hji16v:(rd t563 (rd t566 x14_1))≤64→(IntKind.i64.wrap (2 ^(rd t563 (rd t566 x14_1)).toNat))=ji16:=fun hle_=>by have h_:=hji16z hle_;rw [Int.one_mul] at h_;exact h_);have hji16y:(wrap64 (1*2 ^min (rd t563 (rd t566 x14_1)).toNat 64))=ji16:=(zL _).symm.trans hji16_;have hji16x:(rd t563 (rd t566 x14_1))≤64→(wrap64 (1*2 ^(rd t563 (rd t566 x14_1)).toNat))=ji16:=fun h_=>(zL _).symm.trans (hji16z h_);have H':=Aside0.mk H;clear H;have p569:0≤(x14_1:Int):=of_decide_eq_true sqA;have q569:x14_1< (t566.length:Int):=of_decide_eq_true sqA;obtain ⟨ad569,e569,hx569_0⟩:=Kd.zP (Kd.zx HO_12.out).2.2 x14_1 p569 q569;cases e569;replace p569:=eq_true p569;replace q569:=eq_true q569;obtain ⟨Ao17,co17,eo17⟩:=Kd.zG HO_5.out;subst eo17;have p570:0≤((rd t566 x14_1):Int):=of_decide_eq_true sqA;have q570:(rd t566 x14_1)< (t563.length:Int):=of_decide_eq_true sqA;obtain ⟨ad570,e570,hx570_0⟩:=Kd.zP (Kd.zx HO_5.out).2.2 (rd t566 x14_1) p570 q570;cases e570;replace p570:=eq_true p570;replace q570:=eq_true q570;go_wp2;(go_roundg k1);(case measure=>have:=HK1.out;omega);(case rel=>exact ⟨(Go.bits .or .i64 x6_1 (ji16)),(wrap64 (x14_1+1)),(by first|rfl|(simp;done)|(simp only [←hji16]<;>(first|rfl|simp))|(simp [*];done)),(sqD),H',⟨by have:=HK1.out;omega⟩,⟨sqR HO_5.out⟩,⟨sqR HO_12.out⟩,⟨sqB⟩⟩));(·rw [if_neg c15] at H;exact absurd H (by simp)));(·rw [if_neg c14] at H;exact absurd H (by simp)));(·rw [if_neg c13] at H;exact absurd H (by simp))));(·rw [if_neg c10] at H;exact absurd H (by simp)));(·rw [if_neg c9] at H;exact absurd H (by simp)));(·rw [if_neg c8] at H;have c8b0:decide (x14_1< (t566.length:Int))=false:=decide_eq_false c8;clear c8;obtain rfl:=Option.some.inj H;go_wp2;go_ret;exact ⟨sqE,sqB⟩)))

def qI.l0:Nat→Int→Int→List Int→Int→Option (Int)
 |0,_,_,_,_=>none
 |k+1,x0,x5,x6,x7=>if x7< (x6.length:Int) then (if 0≤x7 then ((q5.f x0 (rd x6 x7)).bind fun t637=>(if t637=true then (if 0≤(IntKind.u64.wrap (x7)) then (qI.l0 k x0 (wrap64 (x5+(shl .i64 1 (IntKind.u64.wrap (x7))))) x6 (wrap64 (x7+1))) else (none)) else (qI.l0 k x0 x5 x6 (wrap64 (x7+1))))) else (none)) else (some x5)
def qI.f (k:Nat)(a0:Int)(a1:Int):Option (Int):=(qf.f k a1).bind fun t633=>(qI.l0 k a0 0 t633 0)
theorem qI.calls (k:Nat)(a0:Int)(a1:Int)(r:Int)(w:World)(h:qI.f k a0 a1=some r):Calls Tryz.prog 70 #[.int .i64 a0,.int .i64 a1] w fun e w'=>e= .returned (.int .i64 r)∧Below w.heap.size w w':=by have HB:=Aside0.mk (Below.refl w.heap.size w);have H:=h;unfold qI.f at H;clear h;replace H:=zF H;obtain ⟨t633,A3,H⟩:=H;have H':=Aside0.mk H;clear H;go_enter Tryz.func70,Tryz.ntmps70;(go_wp2_with (first|((with_reducible refine zb (f:=91) rfl ?_);refine zm (some 9) rfl rfl Tryz.func91 (by kernel_rfl) rfl #[.int .i64 a1] rfl sqM ?_;(with_reducible refine (qf.calls k a1 t633 _ A3.out).mono ?_);rintro e w4 ⟨v634,rfl,ho0,hb⟩;refine ⟨_,rfl,?_⟩;have q_:=f2 (Kd.zJ ho0 (zp sqB)) (zd sqB hb);clear HB;obtain ⟨HO635,HB⟩:=q_)));(go_loopg [5,7] k (fun kq v5 v7 w'=> ∃(x5_1:Int) (x7_1:Int),v5= .int .i64 x5_1∧v7= .int .i64 x7_1∧Aside0 (qI.l0 kq a0 x5_1 t633 x7_1=some r)∧Aside0 (kq≤k)∧Aside0 (Kd.R (Kd.int .i64) 3 w' w.heap.size (fun _=>True) v634 t633)∧Aside0 (Below w.heap.size w w')));(case atStart=>exact ⟨(0),(0),(sqD),(sqD),H',⟨Nat.le_refl _⟩,⟨sqR HO635.out⟩,⟨sqB⟩⟩);(case round=>clear H';obtain ⟨x5_1,x7_1,rfl,rfl,HA,HK1,HO_6,HB⟩:=hrel;(cases gk with|zero=>exact absurd HA.out (by simp [qI.l0])|succ k1=>have H:=HA.out;clear HA;simp only [qI.l0] at H;by_cases c5:x7_1< (t633.length:Int);(·rw [if_pos c5] at H;have c5b0:decide (x7_1< (t633.length:Int))=true:=decide_eq_true c5;clear c5;by_cases c6:0≤x7_1;(·rw [if_pos c6] at H;have c6b0:decide (0≤x7_1)=true:=decide_eq_true c6;clear c6;replace H:=zF H;obtain ⟨t637,A7,H⟩:=H;by_cases c8:t637=true;(·subst c8;rw [if_pos rfl] at H;obtain ⟨ji9,hji9⟩: ∃j_:Int,(IntKind.u64.wrap (x7_1))=j_:=⟨_,rfl⟩;(replace H:(if 0≤(ji9) then (qI.l0 k1 a0 (wrap64 (x5_1+(shl .i64 1 (ji9)))) t633 (wrap64 (x7_1+1))) else (none))=some r:=by first|(rw [hji9] at H;exact H)|(simp only [hji9] at H ⊢;exact H));(try rw [hji9] at A7);by_cases c10:0≤(ji9);(·rw [if_pos c10] at H;have c10b0:=eq_true c10;have c10b1:decide (0≤(ji9))=true:=decide_eq_true c10;clear c10;obtain ⟨ji11,hji11⟩: ∃j_:Int,(shl .i64 1 (ji9))=j_:=⟨_,rfl⟩;(replace H:(qI.l0 k1 a0 (wrap64 (x5_1+(ji11))) t633 (wrap64 (x7_1+1)))=some r:=by first|(rw [hji11] at H;exact H)|(simp only [hji11] at H ⊢;exact H));(try rw [hji11] at A7);have hji11_:(IntKind.i64.wrap (1*2 ^min (ji9).toNat 64))=ji11:=hji11;have hji11z:(ji9)≤64→(IntKind.i64.wrap (1*2 ^(ji9).toNat))=ji11:=vB hji11;(have hji11u:(IntKind.i64.wrap (2 ^min (ji9).toNat 64))=ji11:=by have h_:=hji11_;rw [Int.one_mul] at h_;exact h_);(have hji11v:(ji9)≤64→(IntKind.i64.wrap (2 ^(ji9).toNat))=ji11:=fun hle_=>by have h_:=hji11z hle_;rw [Int.one_mul] at h_;exact h_);have hji11y:(wrap64 (1*2 ^min (ji9).toNat 64))=ji11:=(zL _).symm.trans hji11_;have hji11x:(ji9)≤64→(wrap64 (1*2 ^(ji9).toNat))=ji11:=fun h_=>(zL _).symm.trans (hji11z h_);have H':=Aside0.mk H;clear H;obtain ⟨Ao12,co12,eo12⟩:=Kd.zG HO_6.out;subst eo12;have p636:0≤(x7_1:Int):=of_decide_eq_true sqA;have q636:x7_1< (t633.length:Int):=of_decide_eq_true sqA;obtain ⟨ad636,e636,hx636_0⟩:=Kd.zP (Kd.zx HO_6.out).2.2 x7_1 p636 q636;cases e636;replace p636:=eq_true p636;replace q636:=eq_true q636;(go_wp2_with (first|((with_reducible refine zb (f:=107) rfl ?_);refine zm (some 21) rfl rfl Tryz.func107 (by kernel_rfl) rfl #[.int .i64 a0,.int .i64 (rd t633 x7_1)] rfl sqM ?_;(with_reducible refine (q5.calls a0 (rd t633 x7_1) true _ A7.out).mono ?_);rintro e w' ⟨rfl,⟨nd,rfl⟩⟩;refine ⟨_,rfl,?_⟩)));(go_roundg k1);(case measure=>have:=HK1.out;omega);(case rel=>exact ⟨(wrap64 (x5_1+(ji11))),(wrap64 (x7_1+1)),(by first|rfl|(simp;done)|(simp only [←hji11]<;>(first|rfl|simp))|(simp [*];done)),(sqD),H',⟨by have:=HK1.out;omega⟩,⟨sqR HO_6.out⟩,⟨sqB⟩⟩));(·rw [if_neg c10] at H;exact absurd H (by simp)));(·replace c8:=Bool.eq_false_iff.mpr c8;subst c8;rw [if_neg (show ¬(false=true) by decide)] at H;have H':=Aside0.mk H;clear H;obtain ⟨Ao13,co13,eo13⟩:=Kd.zG HO_6.out;subst eo13;have p636:0≤(x7_1:Int):=of_decide_eq_true sqA;have q636:x7_1< (t633.length:Int):=of_decide_eq_true sqA;obtain ⟨ad636,e636,hx636_0⟩:=Kd.zP (Kd.zx HO_6.out).2.2 x7_1 p636 q636;cases e636;replace p636:=eq_true p636;replace q636:=eq_true q636;(go_wp2_with (first|((with_reducible refine zb (f:=107) rfl ?_);refine zm (some 21) rfl rfl Tryz.func107 (by kernel_rfl) rfl #[.int .i64 a0,.int .i64 (rd t633 x7_1)] rfl sqM ?_;(with_reducible refine (q5.calls a0 (rd t633 x7_1) false _ A7.out).mono ?_);rintro e w' ⟨rfl,⟨nd,rfl⟩⟩;refine ⟨_,rfl,?_⟩)));(go_roundg k1);(case measure=>have:=HK1.out;omega);(case rel=>exact ⟨(x5_1),(wrap64 (x7_1+1)),(sqD),(sqD),H',⟨by have:=HK1.out;omega⟩,⟨sqR HO_6.out⟩,⟨sqB⟩⟩)));(·rw [if_neg c6] at H;exact absurd H (by simp)));(·rw [if_neg c5] at H;have c5b0:decide (x7_1< (t633.length:Int))=false:=decide_eq_false c5;clear c5;obtain rfl:=Option.some.inj H;obtain ⟨Ao14,co14,eo14⟩:=Kd.zG HO_6.out;subst eo14;go_wp2;go_ret;exact ⟨sqE,sqB⟩)))

def qS.l0:Nat→Int→List Int→List Int→Int→Option (Int×List Int)
 |0,_,_,_,_=>none
 |k+1,x0,x1,x5,x6=>if x6< (x1.length:Int) then (if 0≤x6 then ((qI.f k (rd x1 x6) x0).bind fun t643=>(if x5.length<17592186044416 then (qS.l0 k x0 x1 (x5++[t643]) (wrap64 (x6+1))) else (none))) else (none)) else ((z8.f k x0).bind fun t647=>((zn.f k x5).bind fun t648=>(some (t647,t648))))
def qS.f (k:Nat)(a0:Int)(l1:List Int):Option (Int×List Int):=qS.l0 k a0 l1 (([]:List Int)) 0
theorem qS.calls (k:Nat)(a0:Int)(A1:Option Addr)(c1:Nat)(l1:List Int)(r1:Int)(r2:List Int)(w:World)(hr1:Kd.C (Kd.int .i64) w A1 l1.length l1)(hc1:l1.length≤c1)(h:qS.f k a0 l1=some (r1,r2)):Calls Tryz.prog 40 #[.int .i64 a0,.slice A1 l1.length c1] w fun e w'=> ∃v1_:Value,e= .returned (.agg #[.int .i64 r1,v1_])∧Kd.R (Kd.int .i64) 3 w' w.heap.size (fun _=>True) v1_ r2∧Below w.heap.size w w':=by have hu26:=Tryz.underlying26;have HR1:=Aside0.mk hr1;have HC1:=Aside0.mk hc1;clear hr1 hc1;have HB:=Aside0.mk (Below.refl w.heap.size w);have H:=h;unfold qS.f at H;clear h;obtain ⟨y639,hy639⟩: ∃y_:List Int,y_=(([]:List Int)):=⟨_,rfl⟩;(replace H:(qS.l0 k a0 l1 y639 0)=some (r1,r2):=by first|(rw [hy639];with_reducible exact H)|(have H2_:=(Option.bind_some _ _).symm.trans H;rw [hy639];with_reducible exact H2_)|(have H2_:=(Option.bind_some _ _).symm.trans H;with_reducible exact H2_)|with_reducible exact H|(rw [hy639];exact H)|exact H);have Ny639:=Aside0.mk hy639;clear hy639;have H':=Aside0.mk H;clear H;go_enter Tryz.func40,Tryz.ntmps40;(go_wp2_with (first|((with_reducible refine zq (N:=4) rfl ?_);refine zw ?hg (N:=4) ?hd (cs:=#[.int .i64 0,.slice none 0 0]) (t:=26) ?hr ?_;(case hd=>rfl);(case hg=>rfl);(case hr=>exact sqG);intro gb638 hg w3 hbox hb;have q_:=f4 (zd sqB hb) hbox (sqS hg:w.heap.size≤gb638) (sqS hg:w.heap.size≤gb638);clear HB;obtain ⟨HB,BK638,GW638,GE638⟩:=q_;clear hb hbox hg)|((with_reducible refine zq (N:=7) rfl ?_);refine Kd.jL (Kd.int .i64) _ 3 ?hg (N:=7) ?hd (xs:=([]:List Int)) (inner:=[]) (ok:=fun _=>True) (okp:=fun _=>True) ?hr ?hp (fun _ hk=>hk) trivial (Below.refl _ _) (Nat.le_refl _) (by simp) ?_;(case hd=>rfl);(case hg=>rfl);(case hr=>exact sqG);(case hp=>exact (qv.none _ _));intro v640 w4 ho5 hb hg_ hnew_;clear hg_ hnew_;(first|rw [←Ny639.out] at ho5|(simp only [Int.reduceToNat] at ho5;rw [←Ny639.out] at ho5));have q_:=f3 (Kd.zJ ho5 (zp sqB)) (zh (sqK BK638.out) hb) (zd sqB hb);clear BK638 HB;obtain ⟨HO641,BK638,HB⟩:=q_;clear hb ho5)));(go_loopg [5,6] k (fun kq v5 v6 w'=> ∃(x5_1:List Int) (x6_1:Int),v6= .int .i64 x6_1∧Aside0 (qS.l0 kq a0 l1 x5_1 x6_1=some (r1,r2))∧Aside0 (kq≤k)∧Aside0 (Kd.R (Kd.int .i64) 3 w' w.heap.size (fun _=>True) v5 x5_1)∧Aside0 (w'.heap[gb638]? =some (.cells #[.int .i64 0,(.slice none 0 0)] 26 (0,0)))∧Aside0 (Below w.heap.size w w')));(case atStart=>exact ⟨(y639),(0),(sqD),H',⟨Nat.le_refl _⟩,⟨sqR HO641.out⟩,⟨sqK BK638.out⟩,⟨sqB⟩⟩);(case round=>clear H';obtain ⟨x5_1,x6_1,rfl,HA,HK1,HO_5,BK638,HB⟩:=hrel;(cases gk with|zero=>exact absurd HA.out (by simp [qS.l0])|succ k1=>have H:=HA.out;clear HA;simp only [qS.l0] at H;by_cases c6:x6_1< (l1.length:Int);(·rw [if_pos c6] at H;have c6b0:decide (x6_1< (l1.length:Int))=true:=decide_eq_true c6;clear c6;by_cases c7:0≤x6_1;(·rw [if_pos c7] at H;have c7b0:decide (0≤x6_1)=true:=decide_eq_true c7;clear c7;replace H:=zF H;obtain ⟨t643,A8,H⟩:=H;by_cases c9:x5_1.length<17592186044416;(·rw [if_pos c9] at H;have LMc9:=Aside0.mk c9;clear c9;obtain ⟨y644,hy644⟩: ∃y_:List Int,y_=(x5_1++[t643]):=⟨_,rfl⟩;(replace H:(qS.l0 k1 a0 l1 y644 (wrap64 (x6_1+1)))=some (r1,r2):=by first|(rw [hy644];with_reducible exact H)|(have H2_:=(Option.bind_some _ _).symm.trans H;rw [hy644];with_reducible exact H2_)|(have H2_:=(Option.bind_some _ _).symm.trans H;with_reducible exact H2_)|with_reducible exact H|(rw [hy644];exact H)|exact H);have Ny644:=Aside0.mk hy644;clear hy644;have H':=Aside0.mk H;clear H;have p642:0≤(x6_1:Int):=of_decide_eq_true sqA;have q642:x6_1< (l1.length:Int):=of_decide_eq_true sqA;obtain ⟨ad642,e642,hx642_0⟩:=Kd.zP HR1.out x6_1 p642 q642;cases e642;replace hx642_0:=(HB.out.cell (World.block_lt_of_cell? w _ hx642_0)).trans hx642_0;replace p642:=eq_true p642;replace q642:=eq_true q642;(go_wp2_with (first|((with_reducible refine zb (f:=70) rfl ?_);refine zm (some 20) rfl rfl Tryz.func70 (by kernel_rfl) rfl #[.int .i64 (rd l1 x6_1),.int .i64 a0] rfl sqM ?_;(with_reducible refine (qI.calls k1 (rd l1 x6_1) a0 t643 _ A8.out).mono ?_);rintro e w10 ⟨rfl,hb⟩;refine ⟨_,rfl,?_⟩;have q_:=f3 (Kd.zK (sqR HO_5.out) hb) (zh (sqK BK638.out) hb) (zd sqB hb);clear HO_5 BK638 HB;obtain ⟨HO_5,BK638,HB⟩:=q_)|((with_reducible refine qA (b:= .append) (xs:=#[.tmp 14,.tmp 21]) rfl ?_);at_builtin;refine Kd.jE (Kd.int .i64) (w0:=w) w.heap.size rfl (.tmp 14) (.tmp 21) 24 3 (.int .i64 0) 8 rfl Tryz.underlying24 jT rfl (by decide) (by omega) u5 x5_1 t643 [.int .i64 t643] (fun _=>True) (fun _=>False) rfl rfl ?aP (fun _ hk=>hk.elim) ?aF ?aO ?aB ?aS ?aL ?_;(case aP=>exact rfl);(case aB=>exact sqB);(case aF=>exact (fun _ _=>trivial));(case aO=>exact (sqR HO_5.out));(case aS=>exact (zp sqB));(case aL=>have:=LMc9.out;omega);intro v645 w11 ho hb hg hat;rw [←Ny644.out] at ho;have q_:=f3 (qz (sqK BK638.out) hg (Kd.vV HO_5.out BK638.out (by decide))) hb ho;clear BK638 HB HO_5;obtain ⟨BK638,HB,HO646⟩:=q_;clear ho hb hg hat)));(go_roundg k1);(case measure=>have:=HK1.out;omega);(case rel=>exact ⟨(y644),(wrap64 (x6_1+1)),(sqD),H',⟨by have:=HK1.out;omega⟩,⟨sqR HO646.out⟩,⟨sqK BK638.out⟩,⟨sqB⟩⟩));(·rw [if_neg c9] at H;exact absurd H (by simp)));(·rw [if_neg c7] at H;exact absurd H (by simp)));(·rw [if_neg c6] at H;have c6b0:decide (x6_1< (l1.length:Int))=false:=decide_eq_false c6;clear c6;replace H:=zF H;obtain ⟨t647,A12,H⟩:=H;replace H:=zF H;obtain ⟨t648,A13,H⟩:=H;simp only [Option.some.injEq,Prod.mk.injEq] at H;obtain ⟨rfl,rfl⟩:=H;(go_wp2_with (first|((with_reducible refine zb (f:=27) rfl ?_);refine zm (some 24) rfl rfl Tryz.func27 (by kernel_rfl) rfl #[.int .i64 a0] rfl sqM ?_;(with_reducible refine (z8.calls k1 a0 t647 _ A12.out).mono ?_);rintro e w' ⟨rfl,⟨nd,rfl⟩⟩;refine ⟨_,rfl,?_⟩;(try (rw [js wr];generalize hq_:World.drewN wr _=wr;have n0_:Aside0 (Kd.R (Kd.int .i64) 3 wr w.heap.size (fun _=>True) u5 x5_1):=⟨by rw [←hq_];exact (sqR HO_5.out)⟩;have n1_:Aside0 (wr.heap[gb638]? =some (.cells #[.int .i64 0,.slice none 0 0] 26 (0,0))):=⟨by rw [←hq_];exact (sqK BK638.out)⟩;have n2_:Aside0 (Below w.heap.size w wr):=⟨by rw [←hq_];exact sqB⟩;clear HO_5 BK638 HB hq_;have HO_5:=n0_;have BK638:=n1_;have HB:=n2_;clear n0_ n1_ n2_;have hczqgb638_0:wr.cell? ⟨gb638,0,none⟩=some (.int .i64 0):=(zr BK638.out 0).trans rfl;have hfzqgb638_0:=zo BK638.out 0;have hczqgb638_1:wr.cell? ⟨gb638,1,none⟩=some (.slice none 0 0):=(zr BK638.out 1).trans rfl;have hfzqgb638_1:=zo BK638.out 1));obtain ⟨Ao14,co14,eo14⟩:=Kd.zG HO_5.out;subst eo14)|((with_reducible refine zb (f:=71) rfl ?_);refine zm (some 26) rfl rfl Tryz.func71 (by kernel_rfl) rfl #[.slice Ao14 x5_1.length co14] rfl sqM ?_;(with_reducible refine (zn.calls k1 _ _ x5_1 t648 _ ?side1 ?side2 A13.out).mono ?_);(case side1=>exact sqC (Kd.zx HO_5.out).2.2);(case side2=>exact (Kd.zx HO_5.out).2.1);rintro e w15 ⟨v649,rfl,ho0,hb⟩;refine ⟨_,rfl,?_⟩;have q_:=f4 (Kd.zY (sqR HO_5.out) (Kd.qx ho0) hb) (Kd.zJ (Kd.qy ho0 (Kd.jo (sqR HO_5.out))) (zp sqB)) (zh (sqK BK638.out) hb) (zd sqB hb);clear HO_5 BK638 HB;obtain ⟨HO_5,HO650,BK638,HB⟩:=q_;obtain ⟨Ao16,co16,eo16⟩:=Kd.zG HO650.out;subst eo16;obtain ⟨_,_,_,_⟩:=z2 BK638.out)));refine bodyPost_ret (results_cell_row rfl _ _ gb638 26 #[.int .i64 t647,.slice Ao16 t648.length co16] (0,0) _ rfl (by refine sqK ?_;refine zA (cs:=#[.int .i64 t647,.slice none 0 0]) ?_ 1 _ rfl;refine sqK ?_;refine zA (cs:=#[.int .i64 0,.slice none 0 0]) ?_ 0 _ rfl;refine sqK ?_;exact BK638.out) Tryz.underlying26 rfl (by kernel_rfl)) rfl ?_;exact ⟨_,sqE,by refine sqR ?_;exact Kd.zB (Kd.zQ (p:=⟨gb638,1,none⟩) (Kd.zQ (p:=⟨gb638,0,none⟩) (Kd.zV HO650.out BK638.out (by decide)) (fun _ hk=>hk.2) (.int .i64 t647)) (fun _ hk=>hk.2) (.slice Ao16 t648.length co16)) (fun _ hk=>trivial),sqB⟩)))

end Go.Proofs.YtimmcndgjbdjeaaGreat.F
end
section
namespace Go.Proofs.YtimmcndgjbdjeaaGreat.F
open Go.RowKit Go.Proofs.YtimmcndgjbdjeaaGreatW.PrintWords Go.Proofs.YtimmcndgjbdjeaaGreatW.PrintLast Go.Proofs.YtimmcndgjbdjeaaGreatW.PrintMore
attribute [local go_sem] jN jM vw vp jy jA jQ jO   -- for this text's walks alone
set_option linter.unusedVariables false
set_option linter.unusedSimpArgs false

def ju.f (k:Nat)(l0:List Int):Option (Int×List Int×Int):=(vT.f k l0).bind fun bt524=>(some (bt524.1,bt524.2.1,bt524.2.2))
theorem ju.calls (k:Nat)(A0:Option Addr)(c0:Nat)(l0:List Int)(r1:Int)(r2:List Int)(r3:Int)(w:World)(hr0:Kd.C (Kd.int .u8) w A0 l0.length l0)(hc0:l0.length≤c0)(h:ju.f k l0=some (r1,r2,r3)):Calls Tryz.prog 6 #[.slice A0 l0.length c0] w fun e w'=> ∃v1_:Value,e= .returned (.tuple #[.agg #[.int .i64 r1,v1_],.int .i64 r3])∧Kd.R (Kd.int .i64) 3 w' w.heap.size (fun _=>True) v1_ r2∧Below w.heap.size w w':=by have hu26:=Tryz.underlying26;have HR0:=Aside0.mk hr0;have HC0:=Aside0.mk hc0;clear hr0 hc0;have HB:=Aside0.mk (Below.refl w.heap.size w);have H:=h;unfold ju.f at H;clear h;replace H:=zF H;obtain ⟨⟨t524,t525,t528⟩,A2,H⟩:=H;(try dsimp only at H);simp only [Option.some.injEq,Prod.mk.injEq] at H;obtain ⟨rfl,rfl,rfl⟩:=H;go_enter Tryz.func6,Tryz.ntmps6;(go_wp2_with (first|((with_reducible refine zq (N:=2) rfl ?_);refine zw ?hg (N:=2) ?hd (cs:=#[.int .i64 0,.slice none 0 0]) (t:=26) ?hr ?_;(case hd=>rfl);(case hg=>rfl);(case hr=>exact sqG);intro gb523 hg w3 hbox hb;have q_:=f4 (zd sqB hb) hbox (sqS hg:w.heap.size≤gb523) (sqS hg:w.heap.size≤gb523);clear HB;obtain ⟨HB,BK523,GW523,GE523⟩:=q_;clear hb hbox hg)|((with_reducible refine zb (f:=29) rfl ?_);refine zm (some 8) rfl rfl Tryz.func29 (by kernel_rfl) rfl #[.slice A0 l0.length c0] rfl sqM ?_;(with_reducible refine (vT.calls k _ _ l0 t524 t525 t528 _ ?side1 ?side2 A2.out).mono ?_);(case side1=>exact sqC (Kd.zO HR0.out HB.out));(case side2=>exact HC0.out);rintro e w4 ⟨v526,rfl,ho0,hb⟩;refine ⟨_,rfl,?_⟩;have q_:=f3 (Kd.zJ ho0 (zp sqB)) (zh (sqK BK523.out) hb) (zd sqB hb);clear BK523 HB;obtain ⟨HO527,BK523,HB⟩:=q_)|((with_reducible refine zq (N:=4) rfl ?_);refine zw ?hg (N:=4) ?hd (cs:=#[.int .i64 0,.slice none 0 0]) (t:=26) ?hr ?_;(case hd=>rfl);(case hg=>rfl);(case hr=>exact sqG);intro gb529 hg w5 hbox hb;have q_:=f8 (Kd.zK (sqR HO527.out) hb) (zh (sqK BK523.out) hb) (zd sqB hb) hbox (sqS hg:w.heap.size≤gb529) (sqS hg:w.heap.size≤gb529) (by rw [hg];exact Nat.ne_of_lt (zM (g:=gb523) (o:= .cells #[.int .i64 0,.slice none 0 0] 26 (0,0)) (sqK BK523.out)):gb523≠gb529) (by rw [hg];exact Nat.ne_of_gt (zM (g:=gb523) (o:= .cells #[.int .i64 0,.slice none 0 0] 26 (0,0)) (sqK BK523.out)):gb529≠gb523);clear HO527 BK523 HB;obtain ⟨HO527,BK523,HB,BK529,GW529,GE529,NB523_529,NB529_523⟩:=q_;clear hb hbox hg;have hnb6:=NB529_523.out;have hnc6:=NB523_529.out;obtain ⟨_,_,_,_⟩:=z2 BK529.out;obtain ⟨Ao8,co8,eo8⟩:=Kd.zG HO527.out;subst eo8;obtain ⟨_,_,_,_⟩:=z2 BK523.out)));refine bodyPost_ret (jw rfl _ _ gb523 26 #[.int .i64 t524,.slice Ao8 t525.length co8] (0,0) _ rfl (by refine sqK ?_;refine zA (cs:=#[.int .i64 t524,.slice none 0 0]) ?_ 1 _ rfl;refine sqK ?_;refine zA (cs:=#[.int .i64 0,.slice none 0 0]) ?_ 0 _ rfl;refine sqK ?_;refine qa ?_ NB523_529.out _;refine sqK ?_;refine qa ?_ NB523_529.out _;refine sqK ?_;exact BK523.out) Tryz.underlying26 rfl (by kernel_rfl)) rfl ?_;exact ⟨_,sqE,by refine sqR ?_;exact Kd.zB (Kd.zQ (p:=⟨gb523,1,none⟩) (Kd.zQ (p:=⟨gb523,0,none⟩) (Kd.zQ (p:=⟨gb529,1,none⟩) (Kd.zQ (p:=⟨gb529,0,none⟩) (Kd.zV (Kd.zV HO527.out BK529.out (by decide)) BK523.out (by decide)) (fun _ hk=>hk.1.2) (.int .i64 t524)) (fun _ hk=>hk.1.2) (.slice Ao8 t525.length co8)) (fun _ hk=>hk.2) (.int .i64 t524)) (fun _ hk=>hk.2) (.slice Ao8 t525.length co8)) (fun _ hk=>trivial),sqB⟩

def qN.l0:Nat→Int→List Int→Int→Int→Int→List Int→Option (List Int)
 |0,_,_,_,_,_,_=>none
 |k+1,x1,x5,x6,x7,x652000,x652001=>if x7< (x652001.length:Int) then (if 0≤x7 then ((z8.f k (Go.bits .and .i64 (rd x652001 x7) x1)).bind fun t657=>(if t657=x6 then (if x5.length<17592186044416 then (qN.l0 k x1 (x5++[Go.bits .and .i64 (rd x652001 x7) x1]) x6 (wrap64 (x7+1)) x652000 x652001) else (none)) else (qN.l0 k x1 x5 x6 (wrap64 (x7+1)) x652000 x652001))) else (none)) else ((zn.f k x5).bind fun t662=>(some t662))
def qN.f (k:Nat)(a0_0:Int)(l0_1:List Int)(a1:Int):Option (List Int):=(some (([]:List Int):List Int)).bind fun y652=>((jz.f k a0_0 l0_1 a1).bind fun t655=>(if t655<0 then (some y652) else (qN.l0 k a1 y652 t655 0 a0_0 l0_1)))
theorem qN.calls (k:Nat)(a0_0:Int)(A0_1:Option Addr)(c0_1:Nat)(l0_1:List Int)(a1:Int)(r:List Int)(w:World)(hr0_1:Kd.C (Kd.int .i64) w A0_1 l0_1.length l0_1)(hc0_1:l0_1.length≤c0_1)(h:qN.f k a0_0 l0_1 a1=some r):Calls Tryz.prog 41 #[.agg #[.int .i64 a0_0,.slice A0_1 l0_1.length c0_1],.int .i64 a1] w fun e w'=> ∃v0_:Value,e= .returned (v0_)∧Kd.R (Kd.int .i64) 3 w' w.heap.size (fun _=>True) v0_ r∧Below w.heap.size w w':=by have hu26:=Tryz.underlying26;have HR0_1:=Aside0.mk hr0_1;have HC0_1:=Aside0.mk hc0_1;clear hr0_1 hc0_1;have HB:=Aside0.mk (Below.refl w.heap.size w);have H:=h;unfold qN.f at H;clear h;obtain ⟨y652,hy652⟩: ∃y_:List Int,y_=(([]:List Int)):=⟨_,rfl⟩;(replace H:((jz.f k a0_0 l0_1 a1).bind fun t655=>(if t655<0 then (some y652) else (qN.l0 k a1 y652 t655 0 a0_0 l0_1)))=some r:=by first|(rw [hy652];with_reducible exact H)|(have H2_:=(Option.bind_some _ _).symm.trans H;rw [hy652];with_reducible exact H2_)|(have H2_:=(Option.bind_some _ _).symm.trans H;with_reducible exact H2_)|with_reducible exact H|(rw [hy652];exact H)|exact H);have Ny652:=Aside0.mk hy652;clear hy652;replace H:=zF H;obtain ⟨t655,A3,H⟩:=H;by_cases c4:t655<0;(·rw [if_pos c4] at H;have c4b0:decide (t655<0)=true:=decide_eq_true c4;clear c4;obtain rfl:=Option.some.inj H;go_enter Tryz.func41,Tryz.ntmps41;(go_wp2_with (first|((with_reducible refine zq (N:=2) rfl ?_);refine zw ?hg (N:=2) ?hd (cs:=#[.int .i64 a0_0,.slice A0_1 l0_1.length c0_1]) (t:=26) ?hr ?_;(case hd=>rfl);(case hg=>rfl);(case hr=>exact sqG);intro gb651 hg w5 hbox hb;have q_:=f4 (zd sqB hb) hbox (sqS hg:w.heap.size≤gb651) (sqS hg:w.heap.size≤gb651);clear HB;obtain ⟨HB,BK651,GW651,GE651⟩:=q_;clear hb hbox hg)|((with_reducible refine zq (N:=8) rfl ?_);refine Kd.jL (Kd.int .i64) _ 3 ?hg (N:=8) ?hd (xs:=([]:List Int)) (inner:=[]) (ok:=fun _=>True) (okp:=fun _=>True) ?hr ?hp (fun _ hk=>hk) trivial (Below.refl _ _) (Nat.le_refl _) (by simp) ?_;(case hd=>rfl);(case hg=>rfl);(case hr=>exact sqG);(case hp=>exact (qv.none _ _));intro v653 w6 ho7 hb hg_ hnew_;clear hg_ hnew_;(first|rw [←Ny652.out] at ho7|(simp only [Int.reduceToNat] at ho7;rw [←Ny652.out] at ho7));have q_:=f3 (Kd.zJ ho7 (zp sqB)) (zh (sqK BK651.out) hb) (zd sqB hb);clear BK651 HB;obtain ⟨HO654,BK651,HB⟩:=q_;clear hb ho7;obtain ⟨_,_,_,_⟩:=z2 BK651.out)|((with_reducible refine zb (f:=25) rfl ?_);refine zm (some 11) rfl rfl Tryz.func25 (by kernel_rfl) rfl #[.agg #[.int .i64 a0_0,.slice A0_1 l0_1.length c0_1],.int .i64 a1] rfl sqM ?_;(with_reducible refine (jz.calls k a0_0 _ _ l0_1 a1 t655 _ ?side1 ?side2 A3.out).mono ?_);(case side1=>exact sqC (Kd.zO HR0_1.out HB.out));(case side2=>exact HC0_1.out);rintro e w9 ⟨rfl,hb⟩;refine ⟨_,rfl,?_⟩;have q_:=f3 (Kd.zK (sqR HO654.out) hb) (zh (sqK BK651.out) hb) (zd sqB hb);clear HO654 BK651 HB;obtain ⟨HO654,BK651,HB⟩:=q_)));go_ret;exact ⟨_,sqE,sqR HO654.out,sqB⟩);(·rw [if_neg c4] at H;have c4b0:decide (t655<0)=false:=decide_eq_false c4;clear c4;have H':=Aside0.mk H;clear H;go_enter Tryz.func41,Tryz.ntmps41;(go_wp2_with (first|((with_reducible refine zq (N:=2) rfl ?_);refine zw ?hg (N:=2) ?hd (cs:=#[.int .i64 a0_0,.slice A0_1 l0_1.length c0_1]) (t:=26) ?hr ?_;(case hd=>rfl);(case hg=>rfl);(case hr=>exact sqG);intro gb651 hg w10 hbox hb;have q_:=f4 (zd sqB hb) hbox (sqS hg:w.heap.size≤gb651) (sqS hg:w.heap.size≤gb651);clear HB;obtain ⟨HB,BK651,GW651,GE651⟩:=q_;clear hb hbox hg)|((with_reducible refine zq (N:=8) rfl ?_);refine Kd.jL (Kd.int .i64) _ 3 ?hg (N:=8) ?hd (xs:=([]:List Int)) (inner:=[]) (ok:=fun _=>True) (okp:=fun _=>True) ?hr ?hp (fun _ hk=>hk) trivial (Below.refl _ _) (Nat.le_refl _) (by simp) ?_;(case hd=>rfl);(case hg=>rfl);(case hr=>exact sqG);(case hp=>exact (qv.none _ _));intro v653 w11 ho12 hb hg_ hnew_;clear hg_ hnew_;(first|rw [←Ny652.out] at ho12|(simp only [Int.reduceToNat] at ho12;rw [←Ny652.out] at ho12));have q_:=f3 (Kd.zJ ho12 (zp sqB)) (zh (sqK BK651.out) hb) (zd sqB hb);clear BK651 HB;obtain ⟨HO654,BK651,HB⟩:=q_;clear hb ho12;obtain ⟨_,_,_,_⟩:=z2 BK651.out)|((with_reducible refine zb (f:=25) rfl ?_);refine zm (some 11) rfl rfl Tryz.func25 (by kernel_rfl) rfl #[.agg #[.int .i64 a0_0,.slice A0_1 l0_1.length c0_1],.int .i64 a1] rfl sqM ?_;(with_reducible refine (jz.calls k a0_0 _ _ l0_1 a1 t655 _ ?side1 ?side2 A3.out).mono ?_);(case side1=>exact sqC (Kd.zO HR0_1.out HB.out));(case side2=>exact HC0_1.out);rintro e w14 ⟨rfl,hb⟩;refine ⟨_,rfl,?_⟩;have q_:=f3 (Kd.zK (sqR HO654.out) hb) (zh (sqK BK651.out) hb) (zd sqB hb);clear HO654 BK651 HB;obtain ⟨HO654,BK651,HB⟩:=q_)));(go_loopg [5,7] k (fun kq v5 v7 w'=> ∃(x5_1:List Int) (x7_1:Int),v7= .int .i64 x7_1∧Aside0 (qN.l0 kq a1 x5_1 t655 x7_1 a0_0 l0_1=some r)∧Aside0 (kq≤k)∧Aside0 (Kd.R (Kd.int .i64) 3 w' w.heap.size (fun _=>True) v5 x5_1)∧Aside0 (w'.heap[gb651]? =some (.cells #[.int .i64 a0_0,(.slice A0_1 l0_1.length c0_1)] 26 (0,0)))∧Aside0 (Below w.heap.size w w')));(case atStart=>exact ⟨(y652),(0),(sqD),H',⟨Nat.le_refl _⟩,⟨sqR HO654.out⟩,⟨sqK BK651.out⟩,⟨sqB⟩⟩);(case round=>clear H';obtain ⟨x5_1,x7_1,rfl,HA,HK1,HO_5,BK651,HB⟩:=hrel;(cases gk with|zero=>exact absurd HA.out (by simp [qN.l0])|succ k1=>have H:=HA.out;clear HA;simp only [qN.l0] at H;by_cases c15:x7_1< (l0_1.length:Int);(·rw [if_pos c15] at H;have c15b0:decide (x7_1< (l0_1.length:Int))=true:=decide_eq_true c15;clear c15;by_cases c16:0≤x7_1;(·rw [if_pos c16] at H;have c16b0:decide (0≤x7_1)=true:=decide_eq_true c16;clear c16;replace H:=zF H;obtain ⟨t657,A17,H⟩:=H;by_cases c18:t657=t655;(·rw [if_pos c18] at H;have c18b0:(t657==t655)=true:=beq_iff_eq.mpr c18;have c18b1:(t657 != t655)=false:=bne_eq_false_iff_eq.mpr c18;clear c18;by_cases c19:x5_1.length<17592186044416;(·rw [if_pos c19] at H;have LMc19:=Aside0.mk c19;clear c19;obtain ⟨y659,hy659⟩: ∃y_:List Int,y_=(x5_1++[Go.bits .and .i64 (rd l0_1 x7_1) a1]):=⟨_,rfl⟩;(replace H:(qN.l0 k1 a1 y659 t655 (wrap64 (x7_1+1)) a0_0 l0_1)=some r:=by first|(rw [hy659];with_reducible exact H)|(have H2_:=(Option.bind_some _ _).symm.trans H;rw [hy659];with_reducible exact H2_)|(have H2_:=(Option.bind_some _ _).symm.trans H;with_reducible exact H2_)|with_reducible exact H|(rw [hy659];exact H)|exact H);have Ny659:=Aside0.mk hy659;clear hy659;have H':=Aside0.mk H;clear H;obtain ⟨_,_,_,_⟩:=z2 BK651.out;have p656:0≤(x7_1:Int):=of_decide_eq_true sqA;have q656:x7_1< (l0_1.length:Int):=of_decide_eq_true sqA;obtain ⟨ad656,e656,hx656_0⟩:=Kd.zP HR0_1.out x7_1 p656 q656;cases e656;replace hx656_0:=(HB.out.cell (World.block_lt_of_cell? w _ hx656_0)).trans hx656_0;replace p656:=eq_true p656;replace q656:=eq_true q656;(go_wp2_with (first|((with_reducible refine zb (f:=27) rfl ?_);refine zm (some 29) rfl rfl Tryz.func27 (by kernel_rfl) rfl #[.int .i64 (Go.bits .and .i64 (rd l0_1 x7_1) a1)] rfl sqM ?_;(with_reducible refine (z8.calls k1 (Go.bits .and .i64 (rd l0_1 x7_1) a1) t657 _ A17.out).mono ?_);rintro e w' ⟨rfl,⟨nd,rfl⟩⟩;refine ⟨_,rfl,?_⟩;have p658:0≤(x7_1:Int):=of_decide_eq_true sqA;have q658:x7_1< (l0_1.length:Int):=of_decide_eq_true sqA;obtain ⟨ad658,e658,hx658_0⟩:=Kd.zP HR0_1.out x7_1 p658 q658;obtain rfl:ad656=ad658:=(by injection e658);replace hx658_0:=(HB.out.cell (World.block_lt_of_cell? w _ hx658_0)).trans hx658_0;replace p658:=eq_true p658;replace q658:=eq_true q658)|((with_reducible refine qA (b:= .append) (xs:=#[.tmp 32,.tmp 40]) rfl ?_);at_builtin;refine Kd.jE (Kd.int .i64) (w0:=w) w.heap.size rfl (.tmp 32) (.tmp 40) 24 3 (.int .i64 0) 8 rfl Tryz.underlying24 jT rfl (by decide) (by omega) u5 x5_1 (Go.bits .and .i64 (rd l0_1 x7_1) a1) [.int .i64 (Go.bits .and .i64 (rd l0_1 x7_1) a1)] (fun _=>True) (fun _=>False) rfl rfl ?aP (fun _ hk=>hk.elim) ?aF ?aO ?aB ?aS ?aL ?_;(case aP=>exact rfl);(case aB=>exact sqB);(case aF=>exact (fun _ _=>trivial));(case aO=>exact (sqR HO_5.out));(case aS=>exact (zp sqB));(case aL=>have:=LMc19.out;omega);intro v660 w21 ho hb hg hat;rw [←Ny659.out] at ho;have q_:=f3 (qz (sqK BK651.out) hg (Kd.vV HO_5.out BK651.out (by decide))) hb ho;clear BK651 HB HO_5;obtain ⟨BK651,HB,HO661⟩:=q_;clear ho hb hg hat)));(go_roundg k1);(case measure=>have:=HK1.out;omega);(case rel=>exact ⟨(y659),(wrap64 (x7_1+1)),(sqD),H',⟨by have:=HK1.out;omega⟩,⟨sqR HO661.out⟩,⟨sqK BK651.out⟩,⟨sqB⟩⟩));(·rw [if_neg c19] at H;exact absurd H (by simp)));(·rw [if_neg c18] at H;have c18b0:(t657==t655)=false:=beq_eq_false_iff_ne.mpr c18;have c18b1:(t657 != t655)=true:=bne_iff_ne.mpr c18;have H':=Aside0.mk H;clear H;obtain ⟨_,_,_,_⟩:=z2 BK651.out;have p656:0≤(x7_1:Int):=of_decide_eq_true sqA;have q656:x7_1< (l0_1.length:Int):=of_decide_eq_true sqA;obtain ⟨ad656,e656,hx656_0⟩:=Kd.zP HR0_1.out x7_1 p656 q656;cases e656;replace hx656_0:=(HB.out.cell (World.block_lt_of_cell? w _ hx656_0)).trans hx656_0;replace p656:=eq_true p656;replace q656:=eq_true q656;(go_wp2_with (first|((with_reducible refine zb (f:=27) rfl ?_);refine zm (some 29) rfl rfl Tryz.func27 (by kernel_rfl) rfl #[.int .i64 (Go.bits .and .i64 (rd l0_1 x7_1) a1)] rfl sqM ?_;(with_reducible refine (z8.calls k1 (Go.bits .and .i64 (rd l0_1 x7_1) a1) t657 _ A17.out).mono ?_);rintro e w' ⟨rfl,⟨nd,rfl⟩⟩;refine ⟨_,rfl,?_⟩)));(go_roundg k1);(case measure=>have:=HK1.out;omega);(case rel=>exact ⟨(x5_1),(wrap64 (x7_1+1)),(sqD),H',⟨by have:=HK1.out;omega⟩,⟨sqR HO_5.out⟩,⟨sqK BK651.out⟩,⟨sqB⟩⟩)));(·rw [if_neg c16] at H;exact absurd H (by simp)));(·rw [if_neg c15] at H;have c15b0:decide (x7_1< (l0_1.length:Int))=false:=decide_eq_false c15;clear c15;replace H:=zF H;obtain ⟨t662,A23,H⟩:=H;obtain rfl:=Option.some.inj H;obtain ⟨_,_,_,_⟩:=z2 BK651.out;obtain ⟨Ao25,co25,eo25⟩:=Kd.zG HO_5.out;subst eo25;(go_wp2_with (first|((with_reducible refine zb (f:=71) rfl ?_);refine zm (some 43) rfl rfl Tryz.func71 (by kernel_rfl) rfl #[.slice Ao25 x5_1.length co25] rfl sqM ?_;(with_reducible refine (zn.calls k1 _ _ x5_1 t662 _ ?side1 ?side2 A23.out).mono ?_);(case side1=>exact sqC (Kd.zx HO_5.out).2.2);(case side2=>exact (Kd.zx HO_5.out).2.1);rintro e w26 ⟨v663,rfl,ho0,hb⟩;refine ⟨_,rfl,?_⟩;have q_:=f4 (Kd.zY (sqR HO_5.out) (Kd.qx ho0) hb) (Kd.zJ (Kd.qy ho0 (Kd.jo (sqR HO_5.out))) (zp sqB)) (zh (sqK BK651.out) hb) (zd sqB hb);clear HO_5 BK651 HB;obtain ⟨HO_5,HO664,BK651,HB⟩:=q_)));go_ret;exact ⟨_,sqE,by refine sqR ?_;exact Kd.zB HO664.out (fun _ hk=>trivial),sqB⟩))))

def jF.f (k:Nat)(a0_0:Int)(l0_1:List Int)(a1:Int):Option (Int×List Int):=(jz.f k a0_0 l0_1 a1).bind fun t667=>(if t667<0 then (some (0,([]:List Int))) else ((qn.f a0_0).bind fun t668=>((qN.f k a0_0 l0_1 (wrap64 (t668 - a1))).bind fun t669=>((qS.f k (wrap64 (t668 - a1)) t669).bind fun bt672=>(some (bt672.1,bt672.2))))))
theorem jF.calls (k:Nat)(a0_0:Int)(A0_1:Option Addr)(c0_1:Nat)(l0_1:List Int)(a1:Int)(r1:Int)(r2:List Int)(w:World)(hr0_1:Kd.C (Kd.int .i64) w A0_1 l0_1.length l0_1)(hc0_1:l0_1.length≤c0_1)(h:jF.f k a0_0 l0_1 a1=some (r1,r2)):Calls Tryz.prog 13 #[.agg #[.int .i64 a0_0,.slice A0_1 l0_1.length c0_1],.int .i64 a1] w fun e w'=> ∃v1_:Value,e= .returned (.agg #[.int .i64 r1,v1_])∧Kd.R (Kd.int .i64) 3 w' w.heap.size (fun _=>True) v1_ r2∧Below w.heap.size w w':=by have hu26:=Tryz.underlying26;have HR0_1:=Aside0.mk hr0_1;have HC0_1:=Aside0.mk hc0_1;clear hr0_1 hc0_1;have HB:=Aside0.mk (Below.refl w.heap.size w);have H:=h;unfold jF.f at H;clear h;replace H:=zF H;obtain ⟨t667,A3,H⟩:=H;by_cases c4:t667<0;(·rw [if_pos c4] at H;have c4b0:decide (t667<0)=true:=decide_eq_true c4;clear c4;simp only [Option.some.injEq,Prod.mk.injEq] at H;obtain ⟨rfl,rfl⟩:=H;go_enter Tryz.func13,Tryz.ntmps13;(go_wp2_with (first|((with_reducible refine zq (N:=2) rfl ?_);refine zw ?hg (N:=2) ?hd (cs:=#[.int .i64 a0_0,.slice A0_1 l0_1.length c0_1]) (t:=26) ?hr ?_;(case hd=>rfl);(case hg=>rfl);(case hr=>exact sqG);intro gb665 hg w5 hbox hb;have q_:=f4 (zd sqB hb) hbox (sqS hg:w.heap.size≤gb665) (sqS hg:w.heap.size≤gb665);clear HB;obtain ⟨HB,BK665,GW665,GE665⟩:=q_;clear hb hbox hg)|((with_reducible refine zq (N:=4) rfl ?_);refine zw ?hg (N:=4) ?hd (cs:=#[.int .i64 0,.slice none 0 0]) (t:=26) ?hr ?_;(case hd=>rfl);(case hg=>rfl);(case hr=>exact sqG);intro gb666 hg w6 hbox hb;have q_:=f7 (zh (sqK BK665.out) hb) (zd sqB hb) hbox (sqS hg:w.heap.size≤gb666) (sqS hg:w.heap.size≤gb666) (by rw [hg];exact Nat.ne_of_lt (zM (g:=gb665) (o:= .cells #[.int .i64 a0_0,.slice A0_1 l0_1.length c0_1] 26 (0,0)) (sqK BK665.out)):gb665≠gb666) (by rw [hg];exact Nat.ne_of_gt (zM (g:=gb665) (o:= .cells #[.int .i64 a0_0,.slice A0_1 l0_1.length c0_1] 26 (0,0)) (sqK BK665.out)):gb666≠gb665);clear BK665 HB;obtain ⟨BK665,HB,BK666,GW666,GE666,NB665_666,NB666_665⟩:=q_;clear hb hbox hg;have hnb7:=NB665_666.out;have hnc7:=NB666_665.out;obtain ⟨_,_,_,_⟩:=z2 BK665.out)|((with_reducible refine zb (f:=25) rfl ?_);refine zm (some 8) rfl rfl Tryz.func25 (by kernel_rfl) rfl #[.agg #[.int .i64 a0_0,.slice A0_1 l0_1.length c0_1],.int .i64 a1] rfl sqM ?_;(with_reducible refine (jz.calls k a0_0 _ _ l0_1 a1 t667 _ ?side1 ?side2 A3.out).mono ?_);(case side1=>exact sqC (Kd.zO HR0_1.out HB.out));(case side2=>exact HC0_1.out);rintro e w9 ⟨rfl,hb⟩;refine ⟨_,rfl,?_⟩;have q_:=f3 (zh (sqK BK665.out) hb) (zh (sqK BK666.out) hb) (zd sqB hb);clear BK665 BK666 HB;obtain ⟨BK665,BK666,HB⟩:=q_;obtain ⟨_,_,_,_⟩:=z2 BK666.out)));refine bodyPost_ret (results_cell_row rfl _ _ gb666 26 #[.int .i64 0,.slice none 0 0] (0,0) _ rfl (by refine sqK ?_;refine zA (cs:=#[.int .i64 0,.slice none 0 0]) ?_ 1 _ rfl;refine sqK ?_;refine zA (cs:=#[.int .i64 0,.slice none 0 0]) ?_ 0 _ rfl;refine sqK ?_;exact BK666.out) Tryz.underlying26 rfl (by kernel_rfl)) rfl ?_;exact ⟨_,sqE,sqN,sqB⟩);(·rw [if_neg c4] at H;have c4b0:decide (t667<0)=false:=decide_eq_false c4;clear c4;replace H:=zF H;obtain ⟨t668,A11,H⟩:=H;replace H:=zF H;obtain ⟨t669,A12,H⟩:=H;replace H:=zF H;obtain ⟨⟨t672,t673⟩,A13,H⟩:=H;(try dsimp only at H);simp only [Option.some.injEq,Prod.mk.injEq] at H;obtain ⟨rfl,rfl⟩:=H;go_enter Tryz.func13,Tryz.ntmps13;(go_wp2_with (first|((with_reducible refine zq (N:=2) rfl ?_);refine zw ?hg (N:=2) ?hd (cs:=#[.int .i64 a0_0,.slice A0_1 l0_1.length c0_1]) (t:=26) ?hr ?_;(case hd=>rfl);(case hg=>rfl);(case hr=>exact sqG);intro gb665 hg w14 hbox hb;have q_:=f4 (zd sqB hb) hbox (sqS hg:w.heap.size≤gb665) (sqS hg:w.heap.size≤gb665);clear HB;obtain ⟨HB,BK665,GW665,GE665⟩:=q_;clear hb hbox hg)|((with_reducible refine zq (N:=4) rfl ?_);refine zw ?hg (N:=4) ?hd (cs:=#[.int .i64 0,.slice none 0 0]) (t:=26) ?hr ?_;(case hd=>rfl);(case hg=>rfl);(case hr=>exact sqG);intro gb666 hg w15 hbox hb;have q_:=f7 (zh (sqK BK665.out) hb) (zd sqB hb) hbox (sqS hg:w.heap.size≤gb666) (sqS hg:w.heap.size≤gb666) (by rw [hg];exact Nat.ne_of_lt (zM (g:=gb665) (o:= .cells #[.int .i64 a0_0,.slice A0_1 l0_1.length c0_1] 26 (0,0)) (sqK BK665.out)):gb665≠gb666) (by rw [hg];exact Nat.ne_of_gt (zM (g:=gb665) (o:= .cells #[.int .i64 a0_0,.slice A0_1 l0_1.length c0_1] 26 (0,0)) (sqK BK665.out)):gb666≠gb665);clear BK665 HB;obtain ⟨BK665,HB,BK666,GW666,GE666,NB665_666,NB666_665⟩:=q_;clear hb hbox hg;have hnb16:=NB665_666.out;have hnc16:=NB666_665.out;obtain ⟨_,_,_,_⟩:=z2 BK665.out)|((with_reducible refine zb (f:=25) rfl ?_);refine zm (some 8) rfl rfl Tryz.func25 (by kernel_rfl) rfl #[.agg #[.int .i64 a0_0,.slice A0_1 l0_1.length c0_1],.int .i64 a1] rfl sqM ?_;(with_reducible refine (jz.calls k a0_0 _ _ l0_1 a1 t667 _ ?side1 ?side2 A3.out).mono ?_);(case side1=>exact sqC (Kd.zO HR0_1.out HB.out));(case side2=>exact HC0_1.out);rintro e w18 ⟨rfl,hb⟩;refine ⟨_,rfl,?_⟩;have q_:=f3 (zh (sqK BK665.out) hb) (zh (sqK BK666.out) hb) (zd sqB hb);clear BK665 BK666 HB;obtain ⟨BK665,BK666,HB⟩:=q_;obtain ⟨_,_,_,_⟩:=z2 BK665.out)|((with_reducible refine zb (f:=39) rfl ?_);refine zm (some 13) rfl rfl Tryz.func39 (by kernel_rfl) rfl #[.int .i64 a0_0] rfl sqM ?_;(with_reducible refine (qn.calls a0_0 t668 _ A11.out).mono ?_);rintro e w' ⟨rfl,⟨nd,rfl⟩⟩;refine ⟨_,rfl,?_⟩;(try (rw [js w18];generalize hq_:World.drewN w18 _=w18;have n0_:Aside0 (w18.heap[gb665]? =some (.cells #[.int .i64 a0_0,.slice A0_1 l0_1.length c0_1] 26 (0,0))):=⟨by rw [←hq_];exact (sqK BK665.out)⟩;have n1_:Aside0 (w18.heap[gb666]? =some (.cells #[.int .i64 0,.slice none 0 0] 26 (0,0))):=⟨by rw [←hq_];exact (sqK BK666.out)⟩;have n2_:Aside0 (Below w.heap.size w w18):=⟨by rw [←hq_];exact sqB⟩;clear BK665 BK666 HB hq_;have BK665:=n0_;have BK666:=n1_;have HB:=n2_;clear n0_ n1_ n2_;have hczqgb665_0:w18.cell? ⟨gb665,0,none⟩=some (.int .i64 a0_0):=(zr BK665.out 0).trans rfl;have hfzqgb665_0:=zo BK665.out 0;have hczqgb665_1:w18.cell? ⟨gb665,1,none⟩=some (.slice A0_1 l0_1.length c0_1):=(zr BK665.out 1).trans rfl;have hfzqgb665_1:=zo BK665.out 1;have hczqgb666_0:w18.cell? ⟨gb666,0,none⟩=some (.int .i64 0):=(zr BK666.out 0).trans rfl;have hfzqgb666_0:=zo BK666.out 0;have hczqgb666_1:w18.cell? ⟨gb666,1,none⟩=some (.slice none 0 0):=(zr BK666.out 1).trans rfl;have hfzqgb666_1:=zo BK666.out 1)))|((with_reducible refine zb (f:=41) rfl ?_);refine zm (some 19) rfl rfl Tryz.func41 (by kernel_rfl) rfl #[.agg #[.int .i64 a0_0,.slice A0_1 l0_1.length c0_1],.int .i64 (wrap64 (t668 - a1))] rfl sqM ?_;(with_reducible refine (qN.calls k a0_0 _ _ l0_1 (wrap64 (t668 - a1)) t669 _ ?side1 ?side2 A12.out).mono ?_);(case side1=>exact sqC (Kd.zO HR0_1.out HB.out));(case side2=>exact HC0_1.out);rintro e w20 ⟨v670,rfl,ho0,hb⟩;refine ⟨_,rfl,?_⟩;have q_:=f4 (Kd.zJ ho0 (zp sqB)) (zh (sqK BK665.out) hb) (zh (sqK BK666.out) hb) (zd sqB hb);clear BK665 BK666 HB;obtain ⟨HO671,BK665,BK666,HB⟩:=q_;obtain ⟨Ao21,co21,eo21⟩:=Kd.zG HO671.out;subst eo21)|((with_reducible refine zb (f:=40) rfl ?_);refine zm (some 20) rfl rfl Tryz.func40 (by kernel_rfl) rfl #[.int .i64 (wrap64 (t668 - a1)),.slice Ao21 t669.length co21] rfl sqM ?_;(with_reducible refine (qS.calls k (wrap64 (t668 - a1)) _ _ t669 t672 t673 _ ?side1 ?side2 A13.out).mono ?_);(case side1=>exact sqC (Kd.zx HO671.out).2.2);(case side2=>exact (Kd.zx HO671.out).2.1);rintro e w22 ⟨v674,rfl,ho0,hb⟩;refine ⟨_,rfl,?_⟩;have q_:=f5 (Kd.zY (sqR HO671.out) (Kd.qx ho0) hb) (Kd.zJ (Kd.qy ho0 (Kd.jo (sqR HO671.out))) (zp sqB)) (zh (sqK BK665.out) hb) (zh (sqK BK666.out) hb) (zd sqB hb);clear HO671 BK665 BK666 HB;obtain ⟨HO671,HO675,BK665,BK666,HB⟩:=q_;obtain ⟨_,_,_,_⟩:=z2 BK666.out;obtain ⟨Ao24,co24,eo24⟩:=Kd.zG HO675.out;subst eo24)));refine bodyPost_ret (results_cell_row rfl _ _ gb666 26 #[.int .i64 t672,.slice Ao24 t673.length co24] (0,0) _ rfl (by refine sqK ?_;refine zA (cs:=#[.int .i64 t672,.slice none 0 0]) ?_ 1 _ rfl;refine sqK ?_;refine zA (cs:=#[.int .i64 0,.slice none 0 0]) ?_ 0 _ rfl;refine sqK ?_;exact BK666.out) Tryz.underlying26 rfl (by kernel_rfl)) rfl ?_;exact ⟨_,sqE,by refine sqR ?_;exact Kd.zB (Kd.zQ (p:=⟨gb666,1,none⟩) (Kd.zQ (p:=⟨gb666,0,none⟩) (Kd.zV HO675.out BK666.out (by decide)) (fun _ hk=>hk.2) (.int .i64 t672)) (fun _ hk=>hk.2) (.slice Ao24 t673.length co24)) (fun _ hk=>trivial),sqB⟩)

end Go.Proofs.YtimmcndgjbdjeaaGreat.F
end
section
namespace Go.Proofs.YtimmcndgjbdjeaaGreat.F
open Go.RowKit Go.Proofs.YtimmcndgjbdjeaaGreatW.PrintWords Go.Proofs.YtimmcndgjbdjeaaGreatW.PrintLast Go.Proofs.YtimmcndgjbdjeaaGreatW.PrintMore
attribute [local go_sem] jN jM vw vp jy jA jQ jO   -- for this text's walks alone
set_option linter.unusedVariables false
set_option linter.unusedSimpArgs false

def vC.f (a0:Int):Option (Int):=(j6.f a0).bind fun t557=>(some t557)
theorem vC.calls (a0:Int)(r:Int)(w:World)(h:vC.f a0=some r):Calls Tryz.prog 82 #[.int .u64 a0] w fun e w'=>e= .returned (.int .i64 r)∧zu w w':=by have H:=h;unfold vC.f at H;clear h;replace H:=zF H;obtain ⟨t557,A2,H⟩:=H;obtain rfl:=Option.some.inj H;go_enter Tryz.func82,Tryz.ntmps82;(go_wp2_with (first|((with_reducible refine zb (f:=112) rfl ?_);refine zm (some 7) rfl rfl Tryz.func112 (by kernel_rfl) rfl #[.int .u64 a0] rfl sqM ?_;(with_reducible refine (j6.calls a0 t557 _ A2.out).mono ?_);rintro e w' ⟨rfl,⟨nd,rfl⟩⟩;refine ⟨_,rfl,?_⟩)));go_ret;exact ⟨sqD,by repeat (first|exact zu.refl _|apply zu.step)⟩

def jq.f (a0:Int):Option (Int):=(qQ.f a0).bind fun t558=>(if t558=true then ((vC.f (IntKind.u64.wrap (a0))).bind fun t559=>(some t559)) else (some 0))
theorem jq.calls (a0:Int)(r:Int)(w:World)(h:jq.f a0=some r):Calls Tryz.prog 48 #[.int .i64 a0] w fun e w'=>e= .returned (.int .i64 r)∧zu w w':=by have H:=h;unfold jq.f at H;clear h;replace H:=zF H;obtain ⟨t558,A2,H⟩:=H;by_cases c3:t558=true;(·subst c3;rw [if_pos rfl] at H;replace H:=zF H;obtain ⟨t559,A4,H⟩:=H;obtain rfl:=Option.some.inj H;go_enter Tryz.func48,Tryz.ntmps48;(go_wp2_with (first|((with_reducible refine zb (f:=81) rfl ?_);refine zm (some 4) rfl rfl Tryz.func81 (by kernel_rfl) rfl #[.int .i64 a0] rfl sqM ?_;(with_reducible refine (qQ.calls a0 true _ A2.out).mono ?_);rintro e w' ⟨rfl,⟨nd,rfl⟩⟩;refine ⟨_,rfl,?_⟩)|((with_reducible refine zb (f:=82) rfl ?_);refine zm (some 8) rfl rfl Tryz.func82 (by kernel_rfl) rfl #[.int .u64 (IntKind.u64.wrap (a0))] rfl sqM ?_;(with_reducible refine (vC.calls (IntKind.u64.wrap (a0)) t559 _ A4.out).mono ?_);rintro e w' ⟨rfl,⟨nd,rfl⟩⟩;refine ⟨_,rfl,?_⟩)));go_ret;exact ⟨sqD,by repeat (first|exact zu.refl _|apply zu.step)⟩);(·replace c3:=Bool.eq_false_iff.mpr c3;subst c3;rw [if_neg (show ¬(false=true) by decide)] at H;obtain rfl:=Option.some.inj H;go_enter Tryz.func48,Tryz.ntmps48;(go_wp2_with (first|((with_reducible refine zb (f:=81) rfl ?_);refine zm (some 4) rfl rfl Tryz.func81 (by kernel_rfl) rfl #[.int .i64 a0] rfl sqM ?_;(with_reducible refine (qQ.calls a0 false _ A2.out).mono ?_);rintro e w' ⟨rfl,⟨nd,rfl⟩⟩;refine ⟨_,rfl,?_⟩)));go_ret;exact ⟨sqD,by repeat (first|exact zu.refl _|apply zu.step)⟩)

def qL.l0:Nat→Int→Int→List Int→Int→Int→Option (Int)
 |0,_,_,_,_,_=>none
 |k+1,x1,x5,x9,x10,x11=>if x11<x10 then (if 0≤x11 then (if x11< (x9.length:Int) then ((jq.f (Go.bits .and .i64 x1 (rd x9 x11))).bind fun t562=>(qL.l0 k x1 (mx x5 t562) x9 x10 (wrap64 (x11+1)))) else (none)) else (none)) else (some x5)
def qL.f (k:Nat)(a0_0:Int)(l0_1:List Int)(a1:Int):Option (Int):=qL.l0 k a1 0 l0_1 (l0_1.length:Int) 0
theorem qL.calls (k:Nat)(a0_0:Int)(A0_1:Option Addr)(c0_1:Nat)(l0_1:List Int)(a1:Int)(r:Int)(w:World)(hr0_1:Kd.C (Kd.int .i64) w A0_1 l0_1.length l0_1)(hc0_1:l0_1.length≤c0_1)(h:qL.f k a0_0 l0_1 a1=some r):Calls Tryz.prog 49 #[.agg #[.int .i64 a0_0,.slice A0_1 l0_1.length c0_1],.int .i64 a1] w fun e w'=>e= .returned (.int .i64 r)∧Below w.heap.size w w':=by have hu26:=Tryz.underlying26;have HR0_1:=Aside0.mk hr0_1;have HC0_1:=Aside0.mk hc0_1;clear hr0_1 hc0_1;have HB:=Aside0.mk (Below.refl w.heap.size w);have H:=h;unfold qL.f at H;clear h;have H':=Aside0.mk H;clear H;go_enter Tryz.func49,Tryz.ntmps49;(go_wp2_with (first|((with_reducible refine zq (N:=2) rfl ?_);refine zw ?hg (N:=2) ?hd (cs:=#[.int .i64 a0_0,.slice A0_1 l0_1.length c0_1]) (t:=26) ?hr ?_;(case hd=>rfl);(case hg=>rfl);(case hr=>exact sqG);intro gb560 hg w3 hbox hb;have q_:=f4 (zd sqB hb) hbox (sqS hg:w.heap.size≤gb560) (sqS hg:w.heap.size≤gb560);clear HB;obtain ⟨HB,BK560,GW560,GE560⟩:=q_;clear hb hbox hg;obtain ⟨_,_,_,_⟩:=z2 BK560.out)));(go_loopg [5,11] k (fun kq v5 v11 w'=> ∃(x5_1:Int) (x11_1:Int),v5= .int .i64 x5_1∧v11= .int .i64 x11_1∧Aside0 (qL.l0 kq a1 x5_1 l0_1 (l0_1.length:Int) x11_1=some r)∧Aside0 (kq≤k)∧Aside0 (w'.heap[gb560]? =some (.cells #[.int .i64 a0_0,(.slice A0_1 l0_1.length c0_1)] 26 (0,0)))∧Aside0 (Below w.heap.size w w')));(case atStart=>exact ⟨(0),(0),(sqD),(sqD),H',⟨Nat.le_refl _⟩,⟨sqK BK560.out⟩,⟨sqB⟩⟩);(case round=>clear H';obtain ⟨x5_1,x11_1,rfl,rfl,HA,HK1,BK560,HB⟩:=hrel;(cases gk with|zero=>exact absurd HA.out (by simp [qL.l0])|succ k1=>have H:=HA.out;clear HA;simp only [qL.l0] at H;by_cases c5:x11_1< (l0_1.length:Int);(·rw [if_pos c5] at H;have c5b0:decide (x11_1< (l0_1.length:Int))=true:=decide_eq_true c5;clear c5;by_cases c6:0≤x11_1;(·rw [if_pos c6] at H;have c6b0:decide (0≤x11_1)=true:=decide_eq_true c6;clear c6;by_cases c7:x11_1< (l0_1.length:Int);(·rw [if_pos c7] at H;have c7b0:decide (x11_1< (l0_1.length:Int))=true:=decide_eq_true c7;clear c7;replace H:=zF H;obtain ⟨t562,A8,H⟩:=H;obtain ⟨ji9,hji9⟩: ∃j_:Int,(mx x5_1 t562)=j_:=⟨_,rfl⟩;(replace H:(qL.l0 k1 a1 ji9 l0_1 (l0_1.length:Int) (wrap64 (x11_1+1)))=some r:=by first|(rw [hji9] at H;exact H)|(simp only [hji9] at H ⊢;exact H));(try rw [hji9] at A8);have hji9_:(if x5_1<t562 then t562 else x5_1)=ji9:=hji9;have H':=Aside0.mk H;clear H;have p561:0≤(x11_1:Int):=of_decide_eq_true sqA;have q561:x11_1< (l0_1.length:Int):=of_decide_eq_true sqA;obtain ⟨ad561,e561,hx561_0⟩:=Kd.zP HR0_1.out x11_1 p561 q561;cases e561;replace hx561_0:=(HB.out.cell (World.block_lt_of_cell? w _ hx561_0)).trans hx561_0;replace p561:=eq_true p561;replace q561:=eq_true q561;(go_wp2_with (first|((with_reducible refine zb (f:=48) rfl ?_);refine zm (some 19) rfl rfl Tryz.func48 (by kernel_rfl) rfl #[.int .i64 (Go.bits .and .i64 a1 (rd l0_1 x11_1))] rfl sqM ?_;(with_reducible refine (jq.calls (Go.bits .and .i64 a1 (rd l0_1 x11_1)) t562 _ A8.out).mono ?_);rintro e w' ⟨rfl,⟨nd,rfl⟩⟩;refine ⟨_,rfl,?_⟩)));(go_roundg k1);(case measure=>have:=HK1.out;omega);(case rel=>exact ⟨(ji9),(wrap64 (x11_1+1)),(by first|rfl|(simp;done)|(simp only [←hji9]<;>(first|rfl|simp))|(simp [*];done)),(sqD),H',⟨by have:=HK1.out;omega⟩,⟨sqK BK560.out⟩,⟨sqB⟩⟩));(·rw [if_neg c7] at H;exact absurd H (by simp)));(·rw [if_neg c6] at H;exact absurd H (by simp)));(·rw [if_neg c5] at H;have c5b0:decide (x11_1< (l0_1.length:Int))=false:=decide_eq_false c5;clear c5;obtain rfl:=Option.some.inj H;go_wp2;go_ret;exact ⟨sqE,sqB⟩)))

end Go.Proofs.YtimmcndgjbdjeaaGreat.F
end
section
namespace Go.Proofs.YtimmcndgjbdjeaaGreat.F
open Go.RowKit Go.Proofs.YtimmcndgjbdjeaaGreatW.PrintWords Go.Proofs.YtimmcndgjbdjeaaGreatW.PrintLast Go.Proofs.YtimmcndgjbdjeaaGreatW.PrintMore
attribute [local go_sem] jN jM vw vp jy jA jQ jO   -- for this text's walks alone
set_option linter.unusedVariables false
set_option linter.unusedSimpArgs false

def qo.l0:Nat→Int→Int→Int→Int→Int→Int→List Int→Int→List Int→Option (Int×List Int)
 |0,_,_,_,_,_,_,_,_,_=>none
 |k+1,x1,x2,x7,x8,x10,x572000,x572001,x577000,x577001=>(qZ.f x577000).bind fun t577=>(if x10≤t577 then ((jq.f x10).bind fun t578=>(if t578=x8 then ((qB.f k x10 x1).bind fun t579=>((qL.f k x572000 x572001 (Go.bits .or .i64 t579 x2)).bind fun t580=>(if (wrap64 (t580 - x7))=x8 then (if x577001.length<17592186044416 then (qo.l0 k x1 x2 x7 x8 (wrap64 (x10+1)) x572000 x572001 x577000 (x577001++[x10])) else (none)) else (qo.l0 k x1 x2 x7 x8 (wrap64 (x10+1)) x572000 x572001 x577000 x577001)))) else (qo.l0 k x1 x2 x7 x8 (wrap64 (x10+1)) x572000 x572001 x577000 x577001))) else (some (x577000,x577001)))
def qo.f (k:Nat)(a0_0:Int)(l0_1:List Int)(a1:Int)(a2:Int):Option (Int×List Int):=(qL.f k a0_0 l0_1 a2).bind fun t573=>((qL.f k a0_0 l0_1 (Go.bits .or .i64 a1 a2)).bind fun t574=>((jq.f a1).bind fun t575=>(qo.l0 k a1 a2 t573 (wrap64 (t574 - t573)) 0 a0_0 l0_1 t575 ([]:List Int))))
def qo.T7:Bool×List (List Nat×List Nat):=(true,[([],[]),([0],[0]),([],[]),([1,2],[1,2]),([3,1],[3]),([4],[4]),([4],[4]),([4],[4]),([6,7,4,4],[4,6,7]),([4],[4]),([8,9,4],[4,8,9]),([5,10,8,4],[4,5,10]),([4],[4]),([11,12,4],[4,11,12]),([4],[4]),([13,14,4],[4,13,14]),([4,15],[4,15])])
def qo.B7:List Nat:=[0,1,0,7,15,31,31,31,223,31,991,2047,31,8191,31,32767,65535]
theorem qo.zaQ:vW .any (opsOf Tryz.f33 7)=qo.T7:=by kernel_rfl
theorem qo.VL:vk qo.T7.2 qo.B7=true:=by kernel_rfl
theorem qo.calls (k:Nat)(a0_0:Int)(A0_1:Option Addr)(c0_1:Nat)(l0_1:List Int)(a1:Int)(a2:Int)(r1:Int)(r2:List Int)(w:World)(hr0_1:Kd.C (Kd.int .i64) w A0_1 l0_1.length l0_1)(hc0_1:l0_1.length≤c0_1)(h:qo.f k a0_0 l0_1 a1 a2=some (r1,r2)):Calls Tryz.prog 33 #[.agg #[.int .i64 a0_0,.slice A0_1 l0_1.length c0_1],.int .i64 a1,.int .i64 a2] w fun e w'=> ∃v1_:Value,e= .returned (.agg #[.int .i64 r1,v1_])∧Kd.R (Kd.int .i64) 3 w' w.heap.size (fun _=>True) v1_ r2∧Below w.heap.size w w':=by have hu26:=Tryz.underlying26;have HR0_1:=Aside0.mk hr0_1;have HC0_1:=Aside0.mk hc0_1;clear hr0_1 hc0_1;have HB:=Aside0.mk (Below.refl w.heap.size w);have H:=h;unfold qo.f at H;clear h;replace H:=zF H;obtain ⟨t573,A4,H⟩:=H;replace H:=zF H;obtain ⟨t574,A5,H⟩:=H;replace H:=zF H;obtain ⟨t575,A6,H⟩:=H;have H':=Aside0.mk H;clear H;go_enter Tryz.func33,Tryz.ntmps33;(go_wp2_with (first|((with_reducible refine zq (N:=3) rfl ?_);refine zw ?hg (N:=3) ?hd (cs:=#[.int .i64 a0_0,.slice A0_1 l0_1.length c0_1]) (t:=26) ?hr ?_;(case hd=>rfl);(case hg=>rfl);(case hr=>exact sqG);intro gb571 hg w7 hbox hb;have q_:=f4 (zd sqB hb) hbox (sqS hg:w.heap.size≤gb571) (sqS hg:w.heap.size≤gb571);clear HB;obtain ⟨HB,BK571,GW571,GE571⟩:=q_;clear hb hbox hg)|((with_reducible refine zq (N:=6) rfl ?_);refine zw ?hg (N:=6) ?hd (cs:=#[.int .i64 0,.slice none 0 0]) (t:=26) ?hr ?_;(case hd=>rfl);(case hg=>rfl);(case hr=>exact sqG);intro gb572 hg w8 hbox hb;have q_:=f7 (zh (sqK BK571.out) hb) (zd sqB hb) hbox (sqS hg:w.heap.size≤gb572) (sqS hg:w.heap.size≤gb572) (by rw [hg];exact Nat.ne_of_lt (zM (g:=gb571) (o:= .cells #[.int .i64 a0_0,.slice A0_1 l0_1.length c0_1] 26 (0,0)) (sqK BK571.out)):gb571≠gb572) (by rw [hg];exact Nat.ne_of_gt (zM (g:=gb571) (o:= .cells #[.int .i64 a0_0,.slice A0_1 l0_1.length c0_1] 26 (0,0)) (sqK BK571.out)):gb572≠gb571);clear BK571 HB;obtain ⟨BK571,HB,BK572,GW572,GE572,NB571_572,NB572_571⟩:=q_;clear hb hbox hg;have hnb9:=NB571_572.out;have hnc9:=NB572_571.out;obtain ⟨_,_,_,_⟩:=z2 BK571.out)|((with_reducible refine zb (f:=49) rfl ?_);refine zm (some 13) rfl rfl Tryz.func49 (by kernel_rfl) rfl #[.agg #[.int .i64 a0_0,.slice A0_1 l0_1.length c0_1],.int .i64 a2] rfl sqM ?_;(with_reducible refine (qL.calls k a0_0 _ _ l0_1 a2 t573 _ ?side1 ?side2 A4.out).mono ?_);(case side1=>exact sqC (Kd.zO HR0_1.out HB.out));(case side2=>exact HC0_1.out);rintro e w11 ⟨rfl,hb⟩;refine ⟨_,rfl,?_⟩;have q_:=f3 (zh (sqK BK571.out) hb) (zh (sqK BK572.out) hb) (zd sqB hb);clear BK571 BK572 HB;obtain ⟨BK571,BK572,HB⟩:=q_;obtain ⟨_,_,_,_⟩:=z2 BK571.out)|((with_reducible refine zb (f:=49) rfl ?_);refine zm (some 18) rfl rfl Tryz.func49 (by kernel_rfl) rfl #[.agg #[.int .i64 a0_0,.slice A0_1 l0_1.length c0_1],.int .i64 (Go.bits .or .i64 a1 a2)] rfl sqM ?_;(with_reducible refine (qL.calls k a0_0 _ _ l0_1 (Go.bits .or .i64 a1 a2) t574 _ ?side1 ?side2 A5.out).mono ?_);(case side1=>exact sqC (Kd.zO HR0_1.out HB.out));(case side2=>exact HC0_1.out);rintro e w13 ⟨rfl,hb⟩;refine ⟨_,rfl,?_⟩;have q_:=f3 (zh (sqK BK571.out) hb) (zh (sqK BK572.out) hb) (zd sqB hb);clear BK571 BK572 HB;obtain ⟨BK571,BK572,HB⟩:=q_)|((with_reducible refine zb (f:=48) rfl ?_);refine zm (some 22) rfl rfl Tryz.func48 (by kernel_rfl) rfl #[.int .i64 a1] rfl sqM ?_;(with_reducible refine (jq.calls a1 t575 _ A6.out).mono ?_);rintro e w' ⟨rfl,⟨nd,rfl⟩⟩;refine ⟨_,rfl,?_⟩;(try (rw [js w13];generalize hq_:World.drewN w13 _=w13;have n0_:Aside0 (w13.heap[gb571]? =some (.cells #[.int .i64 a0_0,.slice A0_1 l0_1.length c0_1] 26 (0,0))):=⟨by rw [←hq_];exact (sqK BK571.out)⟩;have n1_:Aside0 (w13.heap[gb572]? =some (.cells #[.int .i64 0,.slice none 0 0] 26 (0,0))):=⟨by rw [←hq_];exact (sqK BK572.out)⟩;have n2_:Aside0 (Below w.heap.size w w13):=⟨by rw [←hq_];exact sqB⟩;clear BK571 BK572 HB hq_;have BK571:=n0_;have BK572:=n1_;have HB:=n2_;clear n0_ n1_ n2_;have hczqgb571_0:w13.cell? ⟨gb571,0,none⟩=some (.int .i64 a0_0):=(zr BK571.out 0).trans rfl;have hfzqgb571_0:=zo BK571.out 0;have hczqgb571_1:w13.cell? ⟨gb571,1,none⟩=some (.slice A0_1 l0_1.length c0_1):=(zr BK571.out 1).trans rfl;have hfzqgb571_1:=zo BK571.out 1;have hczqgb572_0:w13.cell? ⟨gb572,0,none⟩=some (.int .i64 0):=(zr BK572.out 0).trans rfl;have hfzqgb572_0:=zo BK572.out 0;have hczqgb572_1:w13.cell? ⟨gb572,1,none⟩=some (.slice none 0 0):=(zr BK572.out 1).trans rfl;have hfzqgb572_1:=zo BK572.out 1)))|((with_reducible refine zq (N:=9) rfl ?_);refine zw ?hg (N:=9) ?hd (cs:=#[.int .i64 0,.slice none 0 0]) (t:=26) ?hr ?_;(case hd=>rfl);(case hg=>rfl);(case hr=>exact sqG);intro gb576 hg w14 hbox hb;have q_:=f10 (zh (sqK BK571.out) hb) (zh (sqK BK572.out) hb) (zd sqB hb) hbox (sqS hg:w.heap.size≤gb576) (sqS hg:w.heap.size≤gb576) (by rw [hg];exact Nat.ne_of_lt (zM (g:=gb571) (o:= .cells #[.int .i64 a0_0,.slice A0_1 l0_1.length c0_1] 26 (0,0)) (sqK BK571.out)):gb571≠gb576) (by rw [hg];exact Nat.ne_of_gt (zM (g:=gb571) (o:= .cells #[.int .i64 a0_0,.slice A0_1 l0_1.length c0_1] 26 (0,0)) (sqK BK571.out)):gb576≠gb571) (by rw [hg];exact Nat.ne_of_lt (zM (g:=gb572) (o:= .cells #[.int .i64 0,.slice none 0 0] 26 (0,0)) (sqK BK572.out)):gb572≠gb576) (by rw [hg];exact Nat.ne_of_gt (zM (g:=gb572) (o:= .cells #[.int .i64 0,.slice none 0 0] 26 (0,0)) (sqK BK572.out)):gb576≠gb572);clear BK571 BK572 HB;obtain ⟨BK571,BK572,HB,BK576,GW576,GE576,NB571_576,NB576_571,NB572_576,NB576_572⟩:=q_;clear hb hbox hg;have hnb15:=NB576_571.out;have hnc15:=NB571_576.out;have hnb16:=NB576_572.out;have hnc16:=NB572_576.out;obtain ⟨_,_,_,_⟩:=z2 BK576.out)));(go_loopg [10] k (fun kq v10 w'=> ∃(x10_1:Int) (x577001_1:List Int) (u577001:Value),v10= .int .i64 x10_1∧Aside0 (qo.l0 kq a1 a2 t573 (wrap64 (t574 - t573)) x10_1 a0_0 l0_1 t575 x577001_1=some (r1,r2))∧Aside0 (kq≤k)∧Aside0 (Kd.R (Kd.int .i64) 3 w' w.heap.size (fun _=>True) u577001 x577001_1)∧Aside0 (w'.heap[gb571]? =some (.cells #[.int .i64 a0_0,(.slice A0_1 l0_1.length c0_1)] 26 (0,0)))∧Aside0 (w'.heap[gb572]? =some (.cells #[.int .i64 0,(.slice none 0 0)] 26 (0,0)))∧Aside0 (w'.heap[gb576]? =some (.cells #[.int .i64 t575,u577001] 26 (0,0)))∧Aside0 (Below w.heap.size w w')));(case atStart=>exact ⟨(0),(([]:List Int)),(.slice none 0 0),(sqD),H',⟨Nat.le_refl _⟩,⟨sqN⟩,⟨by refine sqK ?_;refine qa ?_ NB571_576.out _;refine sqK ?_;refine qa ?_ NB571_576.out _;refine sqK ?_;exact BK571.out⟩,⟨by refine sqK ?_;refine qa ?_ NB572_576.out _;refine sqK ?_;refine qa ?_ NB572_576.out _;refine sqK ?_;exact BK572.out⟩,⟨by refine sqK ?_;refine zA (cs:=#[.int .i64 t575,.slice none 0 0]) ?_ 1 _ rfl;refine sqK ?_;refine zA (cs:=#[.int .i64 0,.slice none 0 0]) ?_ 0 _ rfl;refine sqK ?_;exact BK576.out⟩,⟨sqB⟩⟩);(case round=>clear H';obtain ⟨x10_1,x577001_1,u577001,rfl,HA,HK1,HO_577001,BK571,BK572,BK576,HB⟩:=hrel;(cases gk with|zero=>exact absurd HA.out (by simp [qo.l0])|succ k1=>have H:=HA.out;clear HA;simp only [qo.l0] at H;replace H:=zF H;obtain ⟨t577,A18,H⟩:=H;by_cases c19:x10_1≤t577;(·rw [if_pos c19] at H;have c19b0:decide (x10_1≤t577)=true:=decide_eq_true c19;clear c19;replace H:=zF H;obtain ⟨t578,A20,H⟩:=H;by_cases c21:t578=(wrap64 (t574 - t573));(·rw [if_pos c21] at H;have c21b0:(t578==(wrap64 (t574 - t573)))=true:=beq_iff_eq.mpr c21;have c21b1:(t578 != (wrap64 (t574 - t573)))=false:=bne_eq_false_iff_eq.mpr c21;clear c21;replace H:=zF H;obtain ⟨t579,A22,H⟩:=H;replace H:=zF H;obtain ⟨t580,A23,H⟩:=H;by_cases c24:(wrap64 (t580 - t573))=(wrap64 (t574 - t573));(·rw [if_pos c24] at H;have c24b0:((wrap64 (t580 - t573))==(wrap64 (t574 - t573)))=true:=beq_iff_eq.mpr c24;have c24b1:((wrap64 (t580 - t573)) != (wrap64 (t574 - t573)))=false:=bne_eq_false_iff_eq.mpr c24;clear c24;by_cases c25:x577001_1.length<17592186044416;(·rw [if_pos c25] at H;have LMc25:=Aside0.mk c25;clear c25;obtain ⟨y581,hy581⟩: ∃y_:List Int,y_=(x577001_1++[x10_1]):=⟨_,rfl⟩;(replace H:(qo.l0 k1 a1 a2 t573 (wrap64 (t574 - t573)) (wrap64 (x10_1+1)) a0_0 l0_1 t575 y581)=some (r1,r2):=by first|(rw [hy581];with_reducible exact H)|(have H2_:=(Option.bind_some _ _).symm.trans H;rw [hy581];with_reducible exact H2_)|(have H2_:=(Option.bind_some _ _).symm.trans H;with_reducible exact H2_)|with_reducible exact H|(rw [hy581];exact H)|exact H);have Ny581:=Aside0.mk hy581;clear hy581;have H':=Aside0.mk H;clear H;have hnb26:=NB576_571.out;have hnc26:=NB571_576.out;have hnb27:=NB576_572.out;have hnc27:=NB572_576.out;obtain ⟨_,_,_,_⟩:=z2 BK576.out;(try go_wp2_with (first|((with_reducible refine zb (f:=34) rfl ?_);refine zm (some 27) rfl rfl Tryz.func34 (by kernel_rfl) rfl #[.int .i64 t575] rfl sqM ?_;(with_reducible refine (qZ.calls t575 t577 _ A18.out).mono ?_);rintro e w' ⟨rfl,⟨nd,rfl⟩⟩;refine ⟨_,rfl,?_⟩;(try (rw [js wr];generalize hq_:World.drewN wr _=wr;have n0_:Aside0 (Kd.R (Kd.int .i64) 3 wr w.heap.size (fun _=>True) u577001 x577001_1):=⟨by rw [←hq_];exact (sqR HO_577001.out)⟩;have n1_:Aside0 (wr.heap[gb571]? =some (.cells #[.int .i64 a0_0,.slice A0_1 l0_1.length c0_1] 26 (0,0))):=⟨by rw [←hq_];exact (sqK BK571.out)⟩;have n2_:Aside0 (wr.heap[gb572]? =some (.cells #[.int .i64 0,.slice none 0 0] 26 (0,0))):=⟨by rw [←hq_];exact (sqK BK572.out)⟩;have n3_:Aside0 (wr.heap[gb576]? =some (.cells #[.int .i64 t575,u577001] 26 (0,0))):=⟨by rw [←hq_];exact (sqK BK576.out)⟩;have n4_:Aside0 (Below w.heap.size w wr):=⟨by rw [←hq_];exact sqB⟩;clear HO_577001 BK571 BK572 BK576 HB hq_;have HO_577001:=n0_;have BK571:=n1_;have BK572:=n2_;have BK576:=n3_;have HB:=n4_;clear n0_ n1_ n2_ n3_ n4_;have hczqgb571_0:wr.cell? ⟨gb571,0,none⟩=some (.int .i64 a0_0):=(zr BK571.out 0).trans rfl;have hfzqgb571_0:=zo BK571.out 0;have hczqgb571_1:wr.cell? ⟨gb571,1,none⟩=some (.slice A0_1 l0_1.length c0_1):=(zr BK571.out 1).trans rfl;have hfzqgb571_1:=zo BK571.out 1;have hczqgb572_0:wr.cell? ⟨gb572,0,none⟩=some (.int .i64 0):=(zr BK572.out 0).trans rfl;have hfzqgb572_0:=zo BK572.out 0;have hczqgb572_1:wr.cell? ⟨gb572,1,none⟩=some (.slice none 0 0):=(zr BK572.out 1).trans rfl;have hfzqgb572_1:=zo BK572.out 1;have hczqgb576_0:wr.cell? ⟨gb576,0,none⟩=some (.int .i64 t575):=(zr BK576.out 0).trans rfl;have hfzqgb576_0:=zo BK576.out 0;have hczqgb576_1:wr.cell? ⟨gb576,1,none⟩=some (u577001):=(zr BK576.out 1).trans rfl;have hfzqgb576_1:=zo BK576.out 1)))));have q_:=f5 (Kd.jV HO_577001.out) (qR BK571.out) (qR BK572.out) (qR BK576.out) (zg HB.out);clear HO_577001 BK571 BK572 BK576 HB;obtain ⟨HO_577001,BK571,BK572,BK576,HB⟩:=q_;refine vm (n:=17) (S:=fun w'=>w'.cell? ⟨gb571,0,none⟩=some (.int .i64 a0_0)∧w'.cell? ⟨gb571,1,none⟩=some (.slice A0_1 l0_1.length c0_1)) (ds:=[]) #[false,false,false,false,false,false,false,false,false,false,false,false,false,false,false,false,false] (by kernel_rfl) rfl rfl tH (fun hHeld=> ?_);refine jc qo.zaQ qo.VL (fun HT_ HW_=> ?_);generalize wr.drew=w29 at HO_577001 BK571 BK572 BK576 HB hHeld ⊢;refine tP 0 (some 31) (h:= ?_);refine tP 2 (some 33) (h:= ?_);refine tO 1 (some 32) (h:=fun K hK=> ?_);refine vM Tryz.func48 (by kernel_rfl) rfl #[.int .i64 x10_1] (by rfl) rfl rfl sqM ?_;(with_reducible refine (jq.calls x10_1 t578 _ A20.out).mono ?_);rintro e w' ⟨rfl,⟨nd,rfl⟩⟩;refine ⟨_,rfl,?_⟩;refine hK.out _ _ tH (fun hHeld=> ?_);clear hK K;refine tN (h:= ?_);refine tP 3 (some 34) (h:= ?_);refine tP 4 (some 35) (h:= ?_);refine tP 6 (some 37) (h:= ?_);refine tP 7 (some 38) (h:= ?_);refine tP 9 (some 40) (h:= ?_);refine tP 12 (some 43) (h:= ?_);refine tP 14 (some 45) (h:= ?_);refine tT 5 (some 36) (h:= ?_);refine tO 8 (some 39) (h:=fun K hK=> ?_);refine vM Tryz.func63 (by kernel_rfl) rfl #[.int .i64 x10_1,.int .i64 a1] (by rfl) rfl rfl sqM ?_;(with_reducible refine (qB.calls k1 x10_1 a1 t579 _ A22.out).mono ?_);rintro e w30 ⟨rfl,hb⟩;refine ⟨_,rfl,?_⟩;have q_:=f5 (Kd.zK (sqR HO_577001.out) hb) (zh (sqK BK571.out) hb) (zh (sqK BK572.out) hb) (zh (sqK BK576.out) hb) (zd sqB hb);clear HO_577001 BK571 BK572 BK576 HB;obtain ⟨HO_577001,BK571,BK572,BK576,HB⟩:=q_;refine hK.out _ _ tH (fun hHeld=> ?_);clear hK K;refine tN (h:= ?_);refine tP 10 (some 41) (h:= ?_);refine tO 11 (some 42) (h:=fun K hK=> ?_);refine vM Tryz.func49 (by kernel_rfl) rfl #[.agg #[.int .i64 a0_0,.slice A0_1 l0_1.length c0_1],.int .i64 (Go.bits .or .i64 t579 a2)] (by rfl) rfl rfl sqM ?_;(with_reducible refine (qL.calls k1 a0_0 _ _ l0_1 (Go.bits .or .i64 t579 a2) t580 _ ?side1 ?side2 A23.out).mono ?_);(case side1=>exact sqC (Kd.zO HR0_1.out HB.out));(case side2=>exact HC0_1.out);rintro e w31 ⟨rfl,hb⟩;refine ⟨_,rfl,?_⟩;have q_:=f5 (Kd.zK (sqR HO_577001.out) hb) (zh (sqK BK571.out) hb) (zh (sqK BK572.out) hb) (zh (sqK BK576.out) hb) (zd sqB hb);clear HO_577001 BK571 BK572 BK576 HB;obtain ⟨HO_577001,BK571,BK572,BK576,HB⟩:=q_;refine hK.out _ _ tH (fun hHeld=> ?_);clear hK K;refine tN (h:= ?_);refine tP 13 (some 44) (h:= ?_);refine tP 15 (some 46) (h:= ?_);refine tP 16 (some 47) (h:= ?_);refine vX (jH HT_.out (by kernel_rfl)) ?_;obtain ⟨_,_,_,_⟩:=z2 BK576.out;(try go_wp2_with (first|((with_reducible refine qA (b:= .append) (xs:=#[.tmp 49,.tmp 51]) rfl ?_);at_builtin;refine Kd.jE (Kd.int .i64) (w0:=w) w.heap.size rfl (.tmp 49) (.tmp 51) 24 3 (.int .i64 0) 8 rfl Tryz.underlying24 jT rfl (by decide) (by omega) u577001 x577001_1 x10_1 [.int .i64 x10_1] (fun _=>True) (fun _=>False) rfl rfl ?aP (fun _ hk=>hk.elim) ?aF ?aO ?aB ?aS ?aL ?_;(case aP=>exact rfl);(case aB=>exact sqB);(case aF=>exact (fun _ _=>trivial));(case aO=>exact (sqR HO_577001.out));(case aS=>exact (zp sqB));(case aL=>have:=LMc25.out;omega);intro v582 w33 ho hb hg hat;rw [←Ny581.out] at ho;have q_:=f5 (qz (sqK BK571.out) hg (Kd.vV HO_577001.out BK571.out (by decide))) (qz (sqK BK572.out) hg (Kd.vV HO_577001.out BK572.out (by decide))) (qz (sqK BK576.out) hg (Kd.vV HO_577001.out BK576.out (by decide))) hb ho;clear BK571 BK572 BK576 HB HO_577001;obtain ⟨BK571,BK572,BK576,HB,HO583⟩:=q_;clear ho hb hg hat;obtain ⟨Ao34,co34,eo34⟩:=Kd.zG HO583.out;subst eo34;obtain ⟨_,_,_,_⟩:=z2 BK576.out)));(go_roundg k1);(case measure=>have:=HK1.out;omega);(case rel=>exact ⟨(wrap64 (x10_1+1)),(y581),(.slice Ao34 y581.length co34),(sqD),H',⟨by have:=HK1.out;omega⟩,⟨by refine sqR ?_;exact Kd.zB (Kd.zQ (p:=⟨gb576,1,none⟩) (Kd.zV HO583.out BK576.out (by decide)) (fun _ hk=>hk.2) (.slice Ao34 y581.length co34)) (fun _ hk=>trivial)⟩,⟨by refine sqK ?_;refine qa ?_ NB571_576.out _;refine sqK ?_;exact BK571.out⟩,⟨by refine sqK ?_;refine qa ?_ NB572_576.out _;refine sqK ?_;exact BK572.out⟩,⟨by refine sqK ?_;refine zA (cs:=#[.int .i64 t575,u577001]) ?_ 1 _ rfl;refine sqK ?_;exact BK576.out⟩,⟨sqB⟩⟩));(·rw [if_neg c25] at H;exact absurd H (by simp)));(·rw [if_neg c24] at H;have c24b0:((wrap64 (t580 - t573))==(wrap64 (t574 - t573)))=false:=beq_eq_false_iff_ne.mpr c24;have c24b1:((wrap64 (t580 - t573)) != (wrap64 (t574 - t573)))=true:=bne_iff_ne.mpr c24;have H':=Aside0.mk H;clear H;have hnb36:=NB576_571.out;have hnc36:=NB571_576.out;have hnb37:=NB576_572.out;have hnc37:=NB572_576.out;obtain ⟨_,_,_,_⟩:=z2 BK576.out;(try go_wp2_with (first|((with_reducible refine zb (f:=34) rfl ?_);refine zm (some 27) rfl rfl Tryz.func34 (by kernel_rfl) rfl #[.int .i64 t575] rfl sqM ?_;(with_reducible refine (qZ.calls t575 t577 _ A18.out).mono ?_);rintro e w' ⟨rfl,⟨nd,rfl⟩⟩;refine ⟨_,rfl,?_⟩)));(try (rw [js wr];generalize hq_:World.drewN wr _=wr;have n0_:Aside0 (Kd.R (Kd.int .i64) 3 wr w.heap.size (fun _=>True) u577001 x577001_1):=⟨by rw [←hq_];exact (sqR HO_577001.out)⟩;have n1_:Aside0 (wr.heap[gb571]? =some (.cells #[.int .i64 a0_0,.slice A0_1 l0_1.length c0_1] 26 (0,0))):=⟨by rw [←hq_];exact (sqK BK571.out)⟩;have n2_:Aside0 (wr.heap[gb572]? =some (.cells #[.int .i64 0,.slice none 0 0] 26 (0,0))):=⟨by rw [←hq_];exact (sqK BK572.out)⟩;have n3_:Aside0 (wr.heap[gb576]? =some (.cells #[.int .i64 t575,u577001] 26 (0,0))):=⟨by rw [←hq_];exact (sqK BK576.out)⟩;have n4_:Aside0 (Below w.heap.size w wr):=⟨by rw [←hq_];exact sqB⟩;clear HO_577001 BK571 BK572 BK576 HB hq_;have HO_577001:=n0_;have BK571:=n1_;have BK572:=n2_;have BK576:=n3_;have HB:=n4_;clear n0_ n1_ n2_ n3_ n4_;have hczqgb571_0:wr.cell? ⟨gb571,0,none⟩=some (.int .i64 a0_0):=(zr BK571.out 0).trans rfl;have hfzqgb571_0:=zo BK571.out 0;have hczqgb571_1:wr.cell? ⟨gb571,1,none⟩=some (.slice A0_1 l0_1.length c0_1):=(zr BK571.out 1).trans rfl;have hfzqgb571_1:=zo BK571.out 1;have hczqgb572_0:wr.cell? ⟨gb572,0,none⟩=some (.int .i64 0):=(zr BK572.out 0).trans rfl;have hfzqgb572_0:=zo BK572.out 0;have hczqgb572_1:wr.cell? ⟨gb572,1,none⟩=some (.slice none 0 0):=(zr BK572.out 1).trans rfl;have hfzqgb572_1:=zo BK572.out 1;have hczqgb576_0:wr.cell? ⟨gb576,0,none⟩=some (.int .i64 t575):=(zr BK576.out 0).trans rfl;have hfzqgb576_0:=zo BK576.out 0;have hczqgb576_1:wr.cell? ⟨gb576,1,none⟩=some (u577001):=(zr BK576.out 1).trans rfl;have hfzqgb576_1:=zo BK576.out 1));have q_:=f5 (Kd.jV HO_577001.out) (qR BK571.out) (qR BK572.out) (qR BK576.out) (zg HB.out);clear HO_577001 BK571 BK572 BK576 HB;obtain ⟨HO_577001,BK571,BK572,BK576,HB⟩:=q_;refine vm (n:=17) (S:=fun w'=>w'.cell? ⟨gb571,0,none⟩=some (.int .i64 a0_0)∧w'.cell? ⟨gb571,1,none⟩=some (.slice A0_1 l0_1.length c0_1)) (ds:=[]) #[false,false,false,false,false,false,false,false,false,false,false,false,false,false,false,false,false] (by kernel_rfl) rfl rfl tH (fun hHeld=> ?_);refine jc qo.zaQ qo.VL (fun HT_ HW_=> ?_);generalize wr.drew=w39 at HO_577001 BK571 BK572 BK576 HB hHeld ⊢;refine tP 0 (some 31) (h:= ?_);refine tP 2 (some 33) (h:= ?_);refine tO 1 (some 32) (h:=fun K hK=> ?_);refine vM Tryz.func48 (by kernel_rfl) rfl #[.int .i64 x10_1] (by rfl) rfl rfl sqM ?_;(with_reducible refine (jq.calls x10_1 t578 _ A20.out).mono ?_);rintro e w' ⟨rfl,⟨nd,rfl⟩⟩;refine ⟨_,rfl,?_⟩;refine hK.out _ _ tH (fun hHeld=> ?_);clear hK K;refine tN (h:= ?_);refine tP 3 (some 34) (h:= ?_);refine tP 4 (some 35) (h:= ?_);refine tP 6 (some 37) (h:= ?_);refine tP 7 (some 38) (h:= ?_);refine tP 9 (some 40) (h:= ?_);refine tP 12 (some 43) (h:= ?_);refine tP 14 (some 45) (h:= ?_);refine tT 5 (some 36) (h:= ?_);refine tO 8 (some 39) (h:=fun K hK=> ?_);refine vM Tryz.func63 (by kernel_rfl) rfl #[.int .i64 x10_1,.int .i64 a1] (by rfl) rfl rfl sqM ?_;(with_reducible refine (qB.calls k1 x10_1 a1 t579 _ A22.out).mono ?_);rintro e w40 ⟨rfl,hb⟩;refine ⟨_,rfl,?_⟩;have q_:=f5 (Kd.zK (sqR HO_577001.out) hb) (zh (sqK BK571.out) hb) (zh (sqK BK572.out) hb) (zh (sqK BK576.out) hb) (zd sqB hb);clear HO_577001 BK571 BK572 BK576 HB;obtain ⟨HO_577001,BK571,BK572,BK576,HB⟩:=q_;refine hK.out _ _ tH (fun hHeld=> ?_);clear hK K;refine tN (h:= ?_);refine tP 10 (some 41) (h:= ?_);refine tO 11 (some 42) (h:=fun K hK=> ?_);refine vM Tryz.func49 (by kernel_rfl) rfl #[.agg #[.int .i64 a0_0,.slice A0_1 l0_1.length c0_1],.int .i64 (Go.bits .or .i64 t579 a2)] (by rfl) rfl rfl sqM ?_;(with_reducible refine (qL.calls k1 a0_0 _ _ l0_1 (Go.bits .or .i64 t579 a2) t580 _ ?side1 ?side2 A23.out).mono ?_);(case side1=>exact sqC (Kd.zO HR0_1.out HB.out));(case side2=>exact HC0_1.out);rintro e w41 ⟨rfl,hb⟩;refine ⟨_,rfl,?_⟩;have q_:=f5 (Kd.zK (sqR HO_577001.out) hb) (zh (sqK BK571.out) hb) (zh (sqK BK572.out) hb) (zh (sqK BK576.out) hb) (zd sqB hb);clear HO_577001 BK571 BK572 BK576 HB;obtain ⟨HO_577001,BK571,BK572,BK576,HB⟩:=q_;refine hK.out _ _ tH (fun hHeld=> ?_);clear hK K;refine tN (h:= ?_);refine tP 13 (some 44) (h:= ?_);refine tP 15 (some 46) (h:= ?_);refine tP 16 (some 47) (h:= ?_);refine vX (jH HT_.out (by kernel_rfl)) ?_;(try go_wp2);(go_roundg k1);(case measure=>have:=HK1.out;omega);(case rel=>exact ⟨(wrap64 (x10_1+1)),(x577001_1),(u577001),(sqD),H',⟨by have:=HK1.out;omega⟩,⟨sqR HO_577001.out⟩,⟨sqK BK571.out⟩,⟨sqK BK572.out⟩,⟨sqK BK576.out⟩,⟨sqB⟩⟩)));(·rw [if_neg c21] at H;have c21b0:(t578==(wrap64 (t574 - t573)))=false:=beq_eq_false_iff_ne.mpr c21;have c21b1:(t578 != (wrap64 (t574 - t573)))=true:=bne_iff_ne.mpr c21;have H':=Aside0.mk H;clear H;have hnb42:=NB576_571.out;have hnc42:=NB571_576.out;have hnb43:=NB576_572.out;have hnc43:=NB572_576.out;obtain ⟨_,_,_,_⟩:=z2 BK576.out;(try go_wp2_with (first|((with_reducible refine zb (f:=34) rfl ?_);refine zm (some 27) rfl rfl Tryz.func34 (by kernel_rfl) rfl #[.int .i64 t575] rfl sqM ?_;(with_reducible refine (qZ.calls t575 t577 _ A18.out).mono ?_);rintro e w' ⟨rfl,⟨nd,rfl⟩⟩;refine ⟨_,rfl,?_⟩)));(try (rw [js wr];generalize hq_:World.drewN wr _=wr;have n0_:Aside0 (Kd.R (Kd.int .i64) 3 wr w.heap.size (fun _=>True) u577001 x577001_1):=⟨by rw [←hq_];exact (sqR HO_577001.out)⟩;have n1_:Aside0 (wr.heap[gb571]? =some (.cells #[.int .i64 a0_0,.slice A0_1 l0_1.length c0_1] 26 (0,0))):=⟨by rw [←hq_];exact (sqK BK571.out)⟩;have n2_:Aside0 (wr.heap[gb572]? =some (.cells #[.int .i64 0,.slice none 0 0] 26 (0,0))):=⟨by rw [←hq_];exact (sqK BK572.out)⟩;have n3_:Aside0 (wr.heap[gb576]? =some (.cells #[.int .i64 t575,u577001] 26 (0,0))):=⟨by rw [←hq_];exact (sqK BK576.out)⟩;have n4_:Aside0 (Below w.heap.size w wr):=⟨by rw [←hq_];exact sqB⟩;clear HO_577001 BK571 BK572 BK576 HB hq_;have HO_577001:=n0_;have BK571:=n1_;have BK572:=n2_;have BK576:=n3_;have HB:=n4_;clear n0_ n1_ n2_ n3_ n4_;have hczqgb571_0:wr.cell? ⟨gb571,0,none⟩=some (.int .i64 a0_0):=(zr BK571.out 0).trans rfl;have hfzqgb571_0:=zo BK571.out 0;have hczqgb571_1:wr.cell? ⟨gb571,1,none⟩=some (.slice A0_1 l0_1.length c0_1):=(zr BK571.out 1).trans rfl;have hfzqgb571_1:=zo BK571.out 1;have hczqgb572_0:wr.cell? ⟨gb572,0,none⟩=some (.int .i64 0):=(zr BK572.out 0).trans rfl;have hfzqgb572_0:=zo BK572.out 0;have hczqgb572_1:wr.cell? ⟨gb572,1,none⟩=some (.slice none 0 0):=(zr BK572.out 1).trans rfl;have hfzqgb572_1:=zo BK572.out 1;have hczqgb576_0:wr.cell? ⟨gb576,0,none⟩=some (.int .i64 t575):=(zr BK576.out 0).trans rfl;have hfzqgb576_0:=zo BK576.out 0;have hczqgb576_1:wr.cell? ⟨gb576,1,none⟩=some (u577001):=(zr BK576.out 1).trans rfl;have hfzqgb576_1:=zo BK576.out 1));have q_:=f5 (Kd.jV HO_577001.out) (qR BK571.out) (qR BK572.out) (qR BK576.out) (zg HB.out);clear HO_577001 BK571 BK572 BK576 HB;obtain ⟨HO_577001,BK571,BK572,BK576,HB⟩:=q_;refine vm (n:=17) (S:=fun w'=>True) (ds:=[]) #[false,false,false,false,false,false,false,false,false,false,false,false,false,false,false,false,false] (by kernel_rfl) rfl rfl trivial (fun hHeld=> ?_);refine jc qo.zaQ qo.VL (fun HT_ HW_=> ?_);generalize wr.drew=w45 at HO_577001 BK571 BK572 BK576 HB hHeld ⊢;refine tP 0 (some 31) (h:= ?_);refine tP 2 (some 33) (h:= ?_);refine tO 1 (some 32) (h:=fun K hK=> ?_);refine vM Tryz.func48 (by kernel_rfl) rfl #[.int .i64 x10_1] (by rfl) rfl rfl sqM ?_;(with_reducible refine (jq.calls x10_1 t578 _ A20.out).mono ?_);rintro e w' ⟨rfl,⟨nd,rfl⟩⟩;refine ⟨_,rfl,?_⟩;refine hK.out _ _ trivial (fun hHeld=> ?_);clear hK K;refine tN (h:= ?_);refine tP 3 (some 34) (h:= ?_);refine tP 4 (some 35) (h:= ?_);refine vl (i:=5) (N:=some 36) (v:=undef) (a':= ?_) #[true,true,true,true,true,true,false,false,false,false,false,false,false,false,false,false,false] rfl rfl (jD HT_.out (by kernel_rfl)) (fun _ _ _ h=>h) (Or.inr ⟨by rfl,rfl⟩) ?_ ?_;rotate_left;(·simp only [Act.put,List.setIfInBounds_toArray,List.set_cons_zero,List.set_cons_succ,zL,zX];rfl);refine vl (i:=6) (N:=some 37) (v:=undef) (a':= ?_) #[true,true,true,true,true,true,true,false,false,false,false,false,false,false,false,false,false] rfl rfl (jD HT_.out (by kernel_rfl)) (fun _ _ _ h=>h) (Or.inr ⟨by rfl,rfl⟩) ?_ ?_;rotate_left;(·simp only [Act.put,List.setIfInBounds_toArray,List.set_cons_zero,List.set_cons_succ,zL,zX];rfl);refine vl (i:=7) (N:=some 38) (v:=undef) (a':= ?_) #[true,true,true,true,true,true,true,true,false,false,false,false,false,false,false,false,false] rfl rfl (jD HT_.out (by kernel_rfl)) (fun _ _ _ h=>h) (Or.inr ⟨by rfl,rfl⟩) ?_ ?_;rotate_left;(·simp only [Act.put,List.setIfInBounds_toArray,List.set_cons_zero,List.set_cons_succ,zL,zX];rfl);refine vl (i:=8) (N:=some 39) (v:=undef) (a':= ?_) #[true,true,true,true,true,true,true,true,true,false,false,false,false,false,false,false,false] rfl rfl (jD HT_.out (by kernel_rfl)) (fun _ _ _ h=>h) (Or.inr ⟨by rfl,rfl⟩) ?_ ?_;rotate_left;(·simp only [Act.put,List.setIfInBounds_toArray,List.set_cons_zero,List.set_cons_succ,zL,zX];rfl);refine vl (i:=9) (N:=some 40) (v:=undef) (a':= ?_) #[true,true,true,true,true,true,true,true,true,true,false,false,false,false,false,false,false] rfl rfl (jD HT_.out (by kernel_rfl)) (fun _ _ _ h=>h) (Or.inr ⟨by rfl,rfl⟩) ?_ ?_;rotate_left;(·simp only [Act.put,List.setIfInBounds_toArray,List.set_cons_zero,List.set_cons_succ,zL,zX];rfl);refine vl (i:=10) (N:=some 41) (v:=undef) (a':= ?_) #[true,true,true,true,true,true,true,true,true,true,true,false,false,false,false,false,false] rfl rfl (jD HT_.out (by kernel_rfl)) (fun _ _ _ h=>h) (Or.inr ⟨by rfl,rfl⟩) ?_ ?_;rotate_left;(·simp only [Act.put,List.setIfInBounds_toArray,List.set_cons_zero,List.set_cons_succ,zL,zX];rfl);refine vl (i:=11) (N:=some 42) (v:=undef) (a':= ?_) #[true,true,true,true,true,true,true,true,true,true,true,true,false,false,false,false,false] rfl rfl (jD HT_.out (by kernel_rfl)) (fun _ _ _ h=>h) (Or.inr ⟨by rfl,rfl⟩) ?_ ?_;rotate_left;(·simp only [Act.put,List.setIfInBounds_toArray,List.set_cons_zero,List.set_cons_succ,zL,zX];rfl);refine vl (i:=12) (N:=some 43) (v:=undef) (a':= ?_) #[true,true,true,true,true,true,true,true,true,true,true,true,true,false,false,false,false] rfl rfl (jD HT_.out (by kernel_rfl)) (fun _ _ _ h=>h) (Or.inr ⟨by rfl,rfl⟩) ?_ ?_;rotate_left;(·simp only [Act.put,List.setIfInBounds_toArray,List.set_cons_zero,List.set_cons_succ,zL,zX];rfl);refine vl (i:=13) (N:=some 44) (v:=undef) (a':= ?_) #[true,true,true,true,true,true,true,true,true,true,true,true,true,true,false,false,false] rfl rfl (jD HT_.out (by kernel_rfl)) (fun _ _ _ h=>h) (Or.inr ⟨by rfl,rfl⟩) ?_ ?_;rotate_left;(·simp only [Act.put,List.setIfInBounds_toArray,List.set_cons_zero,List.set_cons_succ,zL,zX];rfl);refine vl (i:=14) (N:=some 45) (v:=undef) (a':= ?_) #[true,true,true,true,true,true,true,true,true,true,true,true,true,true,true,false,false] rfl rfl (jD HT_.out (by kernel_rfl)) (fun _ _ _ h=>h) (Or.inr ⟨by rfl,rfl⟩) ?_ ?_;rotate_left;(·simp only [Act.put,List.setIfInBounds_toArray,List.set_cons_zero,List.set_cons_succ,zL,zX];rfl);refine vl (i:=15) (N:=some 46) (v:=undef) (a':= ?_) #[true,true,true,true,true,true,true,true,true,true,true,true,true,true,true,true,false] rfl rfl (jD HT_.out (by kernel_rfl)) (fun _ _ _ h=>h) (Or.inr ⟨by rfl,rfl⟩) ?_ ?_;rotate_left;(·simp only [Act.put,List.setIfInBounds_toArray,List.set_cons_zero,List.set_cons_succ,zL,zX];rfl);refine tP 16 (some 47) (h:= ?_);refine vX (jH HT_.out (by kernel_rfl)) ?_;(try go_wp2);(go_roundg k1);(case measure=>have:=HK1.out;omega);(case rel=>exact ⟨(wrap64 (x10_1+1)),(x577001_1),(u577001),(sqD),H',⟨by have:=HK1.out;omega⟩,⟨sqR HO_577001.out⟩,⟨sqK BK571.out⟩,⟨sqK BK572.out⟩,⟨sqK BK576.out⟩,⟨sqB⟩⟩)));(·rw [if_neg c19] at H;have c19b0:decide (x10_1≤t577)=false:=decide_eq_false c19;clear c19;simp only [Option.some.injEq,Prod.mk.injEq] at H;obtain ⟨rfl,rfl⟩:=H;have hnb46:=NB576_571.out;have hnc46:=NB571_576.out;have hnb47:=NB576_572.out;have hnc47:=NB572_576.out;obtain ⟨_,_,_,_⟩:=z2 BK576.out;(go_wp2_with (first|((with_reducible refine zb (f:=34) rfl ?_);refine zm (some 27) rfl rfl Tryz.func34 (by kernel_rfl) rfl #[.int .i64 t575] rfl sqM ?_;(with_reducible refine (qZ.calls t575 t577 _ A18.out).mono ?_);rintro e w' ⟨rfl,⟨nd,rfl⟩⟩;refine ⟨_,rfl,?_⟩;(try (rw [js wr];generalize hq_:World.drewN wr _=wr;have n0_:Aside0 (Kd.R (Kd.int .i64) 3 wr w.heap.size (fun _=>True) u577001 x577001_1):=⟨by rw [←hq_];exact (sqR HO_577001.out)⟩;have n1_:Aside0 (wr.heap[gb571]? =some (.cells #[.int .i64 a0_0,.slice A0_1 l0_1.length c0_1] 26 (0,0))):=⟨by rw [←hq_];exact (sqK BK571.out)⟩;have n2_:Aside0 (wr.heap[gb572]? =some (.cells #[.int .i64 0,.slice none 0 0] 26 (0,0))):=⟨by rw [←hq_];exact (sqK BK572.out)⟩;have n3_:Aside0 (wr.heap[gb576]? =some (.cells #[.int .i64 t575,u577001] 26 (0,0))):=⟨by rw [←hq_];exact (sqK BK576.out)⟩;have n4_:Aside0 (Below w.heap.size w wr):=⟨by rw [←hq_];exact sqB⟩;clear HO_577001 BK571 BK572 BK576 HB hq_;have HO_577001:=n0_;have BK571:=n1_;have BK572:=n2_;have BK576:=n3_;have HB:=n4_;clear n0_ n1_ n2_ n3_ n4_;have hczqgb571_0:wr.cell? ⟨gb571,0,none⟩=some (.int .i64 a0_0):=(zr BK571.out 0).trans rfl;have hfzqgb571_0:=zo BK571.out 0;have hczqgb571_1:wr.cell? ⟨gb571,1,none⟩=some (.slice A0_1 l0_1.length c0_1):=(zr BK571.out 1).trans rfl;have hfzqgb571_1:=zo BK571.out 1;have hczqgb572_0:wr.cell? ⟨gb572,0,none⟩=some (.int .i64 0):=(zr BK572.out 0).trans rfl;have hfzqgb572_0:=zo BK572.out 0;have hczqgb572_1:wr.cell? ⟨gb572,1,none⟩=some (.slice none 0 0):=(zr BK572.out 1).trans rfl;have hfzqgb572_1:=zo BK572.out 1;have hczqgb576_0:wr.cell? ⟨gb576,0,none⟩=some (.int .i64 t575):=(zr BK576.out 0).trans rfl;have hfzqgb576_0:=zo BK576.out 0;have hczqgb576_1:wr.cell? ⟨gb576,1,none⟩=some (u577001):=(zr BK576.out 1).trans rfl;have hfzqgb576_1:=zo BK576.out 1));have hnb49:=NB572_571.out;have hnc49:=NB571_572.out;obtain ⟨_,_,_,_⟩:=z2 BK572.out;obtain ⟨Ao51,co51,eo51⟩:=Kd.zG HO_577001.out;subst eo51)));refine bodyPost_ret (results_cell_row rfl _ _ gb572 26 #[.int .i64 t575,.slice Ao51 x577001_1.length co51] (0,0) _ rfl (by refine sqK ?_;refine zA (cs:=#[.int .i64 t575,.slice none 0 0]) ?_ 1 _ rfl;refine sqK ?_;refine zA (cs:=#[.int .i64 0,.slice none 0 0]) ?_ 0 _ rfl;refine sqK ?_;exact BK572.out) Tryz.underlying26 rfl (by kernel_rfl)) rfl ?_;exact ⟨_,sqE,by refine sqR ?_;exact Kd.zB (Kd.zQ (p:=⟨gb572,1,none⟩) (Kd.zQ (p:=⟨gb572,0,none⟩) (Kd.zV HO_577001.out BK572.out (by decide)) (fun _ hk=>hk.2) (.int .i64 t575)) (fun _ hk=>hk.2) (.slice Ao51 x577001_1.length co51)) (fun _ hk=>trivial),sqB⟩)))

end Go.Proofs.YtimmcndgjbdjeaaGreat.F
end
section
namespace Go.Proofs.YtimmcndgjbdjeaaGreat.F
open Go.RowKit Go.Proofs.YtimmcndgjbdjeaaGreatW.PrintWords Go.Proofs.YtimmcndgjbdjeaaGreatW.PrintLast Go.Proofs.YtimmcndgjbdjeaaGreatW.PrintMore
attribute [local go_sem] jN jM vw vp jy jA jQ jO   -- for this text's walks alone
set_option linter.unusedVariables false
set_option linter.unusedSimpArgs false

def qE.f (k:Nat)(a0_0:Int)(l0_1:List Int)(a1:Int):Option (Int×List Int):=(j9.f k a0_0 l0_1 a1).bind fun t586=>(if t586=true then ((qZ.f a0_0).bind fun t587=>((qo.f k a0_0 l0_1 (Go.bits .andNot .i64 t587 a1) 0).bind fun bt588=>(some (bt588.1,bt588.2)))) else (some (0,([]:List Int))))
def qE.T3:Bool×List (List Nat×List Nat):=(true,[([],[]),([],[]),([1],[1]),([2],[2]),([],[]),([3,4],[3,4]),([0,5,3],[0,5]),([6,6,0,1,2,3,4,5,6],[6])])
def qE.B3:List Nat:=[0,0,2,6,0,30,63,127]
theorem qE.Vk:vW .any (opsOf Tryz.f8 3)=qE.T3:=by kernel_rfl
theorem qE.Qh:vk qE.T3.2 qE.B3=true:=by kernel_rfl
theorem qE.calls (k:Nat)(a0_0:Int)(A0_1:Option Addr)(c0_1:Nat)(l0_1:List Int)(a1:Int)(r1:Int)(r2:List Int)(w:World)(hr0_1:Kd.C (Kd.int .i64) w A0_1 l0_1.length l0_1)(hc0_1:l0_1.length≤c0_1)(h:qE.f k a0_0 l0_1 a1=some (r1,r2)):Calls Tryz.prog 8 #[.agg #[.int .i64 a0_0,.slice A0_1 l0_1.length c0_1],.int .i64 a1] w fun e w'=> ∃v1_:Value,e= .returned (.agg #[.int .i64 r1,v1_])∧Kd.R (Kd.int .i64) 3 w' w.heap.size (fun _=>True) v1_ r2∧Below w.heap.size w w':=by have hu26:=Tryz.underlying26;have HR0_1:=Aside0.mk hr0_1;have HC0_1:=Aside0.mk hc0_1;clear hr0_1 hc0_1;have HB:=Aside0.mk (Below.refl w.heap.size w);have H:=h;unfold qE.f at H;clear h;replace H:=zF H;obtain ⟨t586,A3,H⟩:=H;by_cases c4:t586=true;(·subst c4;rw [if_pos rfl] at H;replace H:=zF H;obtain ⟨t587,A5,H⟩:=H;replace H:=zF H;obtain ⟨⟨t588,t589⟩,A6,H⟩:=H;(try dsimp only at H);simp only [Option.some.injEq,Prod.mk.injEq] at H;obtain ⟨rfl,rfl⟩:=H;go_enter Tryz.func8,Tryz.ntmps8;(try go_wp2_with (first|((with_reducible refine zq (N:=2) rfl ?_);refine zw ?hg (N:=2) ?hd (cs:=#[.int .i64 a0_0,.slice A0_1 l0_1.length c0_1]) (t:=26) ?hr ?_;(case hd=>rfl);(case hg=>rfl);(case hr=>exact sqG);intro gb584 hg w7 hbox hb;have q_:=f4 (zd sqB hb) hbox (sqS hg:w.heap.size≤gb584) (sqS hg:w.heap.size≤gb584);clear HB;obtain ⟨HB,BK584,GW584,GE584⟩:=q_;clear hb hbox hg)|((with_reducible refine zq (N:=4) rfl ?_);refine zw ?hg (N:=4) ?hd (cs:=#[.int .i64 0,.slice none 0 0]) (t:=26) ?hr ?_;(case hd=>rfl);(case hg=>rfl);(case hr=>exact sqG);intro gb585 hg w8 hbox hb;have q_:=f7 (zh (sqK BK584.out) hb) (zd sqB hb) hbox (sqS hg:w.heap.size≤gb585) (sqS hg:w.heap.size≤gb585) (by rw [hg];exact Nat.ne_of_lt (zM (g:=gb584) (o:= .cells #[.int .i64 a0_0,.slice A0_1 l0_1.length c0_1] 26 (0,0)) (sqK BK584.out)):gb584≠gb585) (by rw [hg];exact Nat.ne_of_gt (zM (g:=gb584) (o:= .cells #[.int .i64 a0_0,.slice A0_1 l0_1.length c0_1] 26 (0,0)) (sqK BK584.out)):gb585≠gb584);clear BK584 HB;obtain ⟨BK584,HB,BK585,GW585,GE585,NB584_585,NB585_584⟩:=q_;clear hb hbox hg;have hnb9:=NB584_585.out;have hnc9:=NB585_584.out;obtain ⟨_,_,_,_⟩:=z2 BK584.out)|((with_reducible refine zb (f:=32) rfl ?_);refine zm (some 7) rfl rfl Tryz.func32 (by kernel_rfl) rfl #[.agg #[.int .i64 a0_0,.slice A0_1 l0_1.length c0_1],.int .i64 a1] rfl sqM ?_;(with_reducible refine (j9.calls k a0_0 _ _ l0_1 a1 true _ ?side1 ?side2 A3.out).mono ?_);(case side1=>exact sqC (Kd.zO HR0_1.out HB.out));(case side2=>exact HC0_1.out);rintro e w11 ⟨rfl,hb⟩;refine ⟨_,rfl,?_⟩;have q_:=f3 (zh (sqK BK584.out) hb) (zh (sqK BK585.out) hb) (zd sqB hb);clear BK584 BK585 HB;obtain ⟨BK584,BK585,HB⟩:=q_)));have q_:=f3 (qR BK584.out) (qR BK585.out) (zg HB.out);clear BK584 BK585 HB;obtain ⟨BK584,BK585,HB⟩:=q_;refine vm (n:=8) (S:=fun w'=>w'.cell? ⟨gb584,0,none⟩=some (.int .i64 a0_0)∧w'.cell? ⟨gb584,1,none⟩=some (.slice A0_1 l0_1.length c0_1)) (ds:=[]) #[false,false,false,false,false,false,false,false] (by kernel_rfl) rfl rfl tH (fun hHeld=> ?_);refine jc qE.Vk qE.Qh (fun HT_ HW_=> ?_);generalize w11.drew=w12 at BK584 BK585 HB hHeld ⊢;refine tP 1 (some 11) (h:= ?_);refine tP 4 (some 14) (h:= ?_);refine tT 0 (some 10) (h:= ?_);refine tT 2 (some 12) (h:= ?_);refine tO 3 (some 13) (h:=fun K hK=> ?_);refine vM Tryz.func34 (by kernel_rfl) rfl #[.int .i64 a0_0] (by rfl) rfl rfl sqM ?_;(with_reducible refine (qZ.calls a0_0 t587 _ A5.out).mono ?_);rintro e w' ⟨rfl,⟨nd,rfl⟩⟩;refine ⟨_,rfl,?_⟩;refine hK.out _ _ tH (fun hHeld=> ?_);clear hK K;refine tN (h:= ?_);refine tP 5 (some 15) (h:= ?_);refine tO 6 (some 16) (h:=fun K hK=> ?_);refine vM Tryz.func33 (by kernel_rfl) rfl #[.agg #[.int .i64 a0_0,.slice A0_1 l0_1.length c0_1],.int .i64 (Go.bits .andNot .i64 t587 a1),.int .i64 0] (by rfl) rfl rfl sqM ?_;(with_reducible refine (qo.calls k a0_0 _ _ l0_1 (Go.bits .andNot .i64 t587 a1) 0 t588 t589 _ ?side1 ?side2 A6.out).mono ?_);(case side1=>exact sqC (Kd.zO HR0_1.out sqB));(case side2=>exact HC0_1.out);rintro e w13 ⟨v590,rfl,ho0,hb⟩;refine ⟨_,rfl,?_⟩;have q_:=f4 (Kd.zJ ho0 (zp sqB)) (zh (sqK BK584.out) hb) (zh (sqK BK585.out) hb) (zd sqB hb);clear BK584 BK585 HB;obtain ⟨HO591,BK584,BK585,HB⟩:=q_;obtain ⟨Ao15,co15,eo15⟩:=Kd.zG HO591.out;(first|subst eo15|(injection eo15 with f1_ f2_ f3_;have f4_:=f1_.symm;have f5_:=f3_.symm;clear f1_ f2_ f3_;subst f4_;subst f5_));refine hK.out _ _ tH (fun hHeld=> ?_);clear hK K;refine tN (h:= ?_);refine tO 7 none (h:=fun K hK=> ?_);have hs14:w13.cell? ⟨gb585,0,none⟩=some (.int .i64 0):=(zr BK585.out 0).trans rfl;have hfs14:=zo BK585.out 0;have hns14_0:=NB584_585.out;have hms14_0:=NB585_584.out;have hs16:w13.cell? ⟨gb585,1,none⟩=some (.slice none 0 0):=(zr BK585.out 1).trans rfl;have hfs16:=zo BK585.out 1;have hns16_0:=NB584_585.out;have hms16_0:=NB585_584.out;refine tK (h:= ?_);refine hK.out _ _ ⟨((cell_far (p:=⟨gb585,_,none⟩) NB584_585.out _).trans (((cell_far (p:=⟨gb585,_,none⟩) NB584_585.out _).trans (hHeld.1)))),((cell_far (p:=⟨gb585,_,none⟩) NB584_585.out _).trans (((cell_far (p:=⟨gb585,_,none⟩) NB584_585.out _).trans (hHeld.2))))⟩ (fun hHeld=> ?_);clear hK K;refine vX (jH HT_.out (by kernel_rfl)) ?_;(try go_wp2);refine bodyPost_ret (results_cell_row rfl _ _ gb585 26 #[.int .i64 t588,.slice Ao15 t589.length co15] (0,0) _ rfl (by refine sqK ?_;refine zA (cs:=#[.int .i64 t588,.slice none 0 0]) ?_ 1 _ rfl;refine sqK ?_;refine zA (cs:=#[.int .i64 0,.slice none 0 0]) ?_ 0 _ rfl;refine sqK ?_;exact BK585.out) Tryz.underlying26 rfl (by kernel_rfl)) rfl ?_;exact ⟨_,sqE,by refine sqR ?_;exact Kd.zB (Kd.zQ (p:=⟨gb585,1,none⟩) (Kd.zQ (p:=⟨gb585,0,none⟩) (Kd.zV HO591.out BK585.out (by decide)) (fun _ hk=>hk.2) (.int .i64 t588)) (fun _ hk=>hk.2) (.slice Ao15 t589.length co15)) (fun _ hk=>trivial),sqB⟩);(·replace c4:=Bool.eq_false_iff.mpr c4;subst c4;rw [if_neg (show ¬(false=true) by decide)] at H;simp only [Option.some.injEq,Prod.mk.injEq] at H;obtain ⟨rfl,rfl⟩:=H;go_enter Tryz.func8,Tryz.ntmps8;(go_wp2_with (first|((with_reducible refine zq (N:=2) rfl ?_);refine zw ?hg (N:=2) ?hd (cs:=#[.int .i64 a0_0,.slice A0_1 l0_1.length c0_1]) (t:=26) ?hr ?_;(case hd=>rfl);(case hg=>rfl);(case hr=>exact sqG);intro gb584 hg w17 hbox hb;have q_:=f4 (zd sqB hb) hbox (sqS hg:w.heap.size≤gb584) (sqS hg:w.heap.size≤gb584);clear HB;obtain ⟨HB,BK584,GW584,GE584⟩:=q_;clear hb hbox hg)|((with_reducible refine zq (N:=4) rfl ?_);refine zw ?hg (N:=4) ?hd (cs:=#[.int .i64 0,.slice none 0 0]) (t:=26) ?hr ?_;(case hd=>rfl);(case hg=>rfl);(case hr=>exact sqG);intro gb585 hg w18 hbox hb;have q_:=f7 (zh (sqK BK584.out) hb) (zd sqB hb) hbox (sqS hg:w.heap.size≤gb585) (sqS hg:w.heap.size≤gb585) (by rw [hg];exact Nat.ne_of_lt (zM (g:=gb584) (o:= .cells #[.int .i64 a0_0,.slice A0_1 l0_1.length c0_1] 26 (0,0)) (sqK BK584.out)):gb584≠gb585) (by rw [hg];exact Nat.ne_of_gt (zM (g:=gb584) (o:= .cells #[.int .i64 a0_0,.slice A0_1 l0_1.length c0_1] 26 (0,0)) (sqK BK584.out)):gb585≠gb584);clear BK584 HB;obtain ⟨BK584,HB,BK585,GW585,GE585,NB584_585,NB585_584⟩:=q_;clear hb hbox hg;have hnb19:=NB584_585.out;have hnc19:=NB585_584.out;obtain ⟨_,_,_,_⟩:=z2 BK584.out)|((with_reducible refine zb (f:=32) rfl ?_);refine zm (some 7) rfl rfl Tryz.func32 (by kernel_rfl) rfl #[.agg #[.int .i64 a0_0,.slice A0_1 l0_1.length c0_1],.int .i64 a1] rfl sqM ?_;(with_reducible refine (j9.calls k a0_0 _ _ l0_1 a1 false _ ?side1 ?side2 A3.out).mono ?_);(case side1=>exact sqC (Kd.zO HR0_1.out HB.out));(case side2=>exact HC0_1.out);rintro e w21 ⟨rfl,hb⟩;refine ⟨_,rfl,?_⟩;have q_:=f3 (zh (sqK BK584.out) hb) (zh (sqK BK585.out) hb) (zd sqB hb);clear BK584 BK585 HB;obtain ⟨BK584,BK585,HB⟩:=q_;obtain ⟨_,_,_,_⟩:=z2 BK585.out)));refine bodyPost_ret (results_cell_row rfl _ _ gb585 26 #[.int .i64 0,.slice none 0 0] (0,0) _ rfl (by refine sqK ?_;refine zA (cs:=#[.int .i64 0,.slice none 0 0]) ?_ 1 _ rfl;refine sqK ?_;refine zA (cs:=#[.int .i64 0,.slice none 0 0]) ?_ 0 _ rfl;refine sqK ?_;exact BK585.out) Tryz.underlying26 rfl (by kernel_rfl)) rfl ?_;exact ⟨_,sqE,sqN,sqB⟩)

def qC.f (k:Nat)(a0_0:Int)(l0_1:List Int)(a1:Int):Option (Int×List Int):=(j9.f k a0_0 l0_1 a1).bind fun t594=>(if t594=true then ((qZ.f a0_0).bind fun t595=>((qo.f k a0_0 l0_1 (Go.bits .andNot .i64 t595 a1) a1).bind fun bt596=>(some (bt596.1,bt596.2)))) else (some (0,([]:List Int))))
def qC.T3:Bool×List (List Nat×List Nat):=(true,[([],[]),([],[]),([1],[1]),([2],[2]),([],[]),([3,4],[3,4]),([],[]),([0,5,6,3],[0,5,6]),([7,7,0,1,2,3,4,5,6,7],[7])])
def qC.B3:List Nat:=[0,0,2,6,0,30,0,127,255]
theorem qC.Vk:vW .any (opsOf Tryz.f9 3)=qC.T3:=by kernel_rfl
theorem qC.Qh:vk qC.T3.2 qC.B3=true:=by kernel_rfl
theorem qC.calls (k:Nat)(a0_0:Int)(A0_1:Option Addr)(c0_1:Nat)(l0_1:List Int)(a1:Int)(r1:Int)(r2:List Int)(w:World)(hr0_1:Kd.C (Kd.int .i64) w A0_1 l0_1.length l0_1)(hc0_1:l0_1.length≤c0_1)(h:qC.f k a0_0 l0_1 a1=some (r1,r2)):Calls Tryz.prog 9 #[.agg #[.int .i64 a0_0,.slice A0_1 l0_1.length c0_1],.int .i64 a1] w fun e w'=> ∃v1_:Value,e= .returned (.agg #[.int .i64 r1,v1_])∧Kd.R (Kd.int .i64) 3 w' w.heap.size (fun _=>True) v1_ r2∧Below w.heap.size w w':=by have hu26:=Tryz.underlying26;have HR0_1:=Aside0.mk hr0_1;have HC0_1:=Aside0.mk hc0_1;clear hr0_1 hc0_1;have HB:=Aside0.mk (Below.refl w.heap.size w);have H:=h;unfold qC.f at H;clear h;replace H:=zF H;obtain ⟨t594,A3,H⟩:=H;by_cases c4:t594=true;(·subst c4;rw [if_pos rfl] at H;replace H:=zF H;obtain ⟨t595,A5,H⟩:=H;replace H:=zF H;obtain ⟨⟨t596,t597⟩,A6,H⟩:=H;(try dsimp only at H);simp only [Option.some.injEq,Prod.mk.injEq] at H;obtain ⟨rfl,rfl⟩:=H;go_enter Tryz.func9,Tryz.ntmps9;(try go_wp2_with (first|((with_reducible refine zq (N:=2) rfl ?_);refine zw ?hg (N:=2) ?hd (cs:=#[.int .i64 a0_0,.slice A0_1 l0_1.length c0_1]) (t:=26) ?hr ?_;(case hd=>rfl);(case hg=>rfl);(case hr=>exact sqG);intro gb592 hg w7 hbox hb;have q_:=f4 (zd sqB hb) hbox (sqS hg:w.heap.size≤gb592) (sqS hg:w.heap.size≤gb592);clear HB;obtain ⟨HB,BK592,GW592,GE592⟩:=q_;clear hb hbox hg)|((with_reducible refine zq (N:=4) rfl ?_);refine zw ?hg (N:=4) ?hd (cs:=#[.int .i64 0,.slice none 0 0]) (t:=26) ?hr ?_;(case hd=>rfl);(case hg=>rfl);(case hr=>exact sqG);intro gb593 hg w8 hbox hb;have q_:=f7 (zh (sqK BK592.out) hb) (zd sqB hb) hbox (sqS hg:w.heap.size≤gb593) (sqS hg:w.heap.size≤gb593) (by rw [hg];exact Nat.ne_of_lt (zM (g:=gb592) (o:= .cells #[.int .i64 a0_0,.slice A0_1 l0_1.length c0_1] 26 (0,0)) (sqK BK592.out)):gb592≠gb593) (by rw [hg];exact Nat.ne_of_gt (zM (g:=gb592) (o:= .cells #[.int .i64 a0_0,.slice A0_1 l0_1.length c0_1] 26 (0,0)) (sqK BK592.out)):gb593≠gb592);clear BK592 HB;obtain ⟨BK592,HB,BK593,GW593,GE593,NB592_593,NB593_592⟩:=q_;clear hb hbox hg;have hnb9:=NB592_593.out;have hnc9:=NB593_592.out;obtain ⟨_,_,_,_⟩:=z2 BK592.out)|((with_reducible refine zb (f:=32) rfl ?_);refine zm (some 7) rfl rfl Tryz.func32 (by kernel_rfl) rfl #[.agg #[.int .i64 a0_0,.slice A0_1 l0_1.length c0_1],.int .i64 a1] rfl sqM ?_;(with_reducible refine (j9.calls k a0_0 _ _ l0_1 a1 true _ ?side1 ?side2 A3.out).mono ?_);(case side1=>exact sqC (Kd.zO HR0_1.out HB.out));(case side2=>exact HC0_1.out);rintro e w11 ⟨rfl,hb⟩;refine ⟨_,rfl,?_⟩;have q_:=f3 (zh (sqK BK592.out) hb) (zh (sqK BK593.out) hb) (zd sqB hb);clear BK592 BK593 HB;obtain ⟨BK592,BK593,HB⟩:=q_)));have q_:=f3 (qR BK592.out) (qR BK593.out) (zg HB.out);clear BK592 BK593 HB;obtain ⟨BK592,BK593,HB⟩:=q_;refine vm (n:=9) (S:=fun w'=>w'.cell? ⟨gb592,0,none⟩=some (.int .i64 a0_0)∧w'.cell? ⟨gb592,1,none⟩=some (.slice A0_1 l0_1.length c0_1)) (ds:=[]) #[false,false,false,false,false,false,false,false,false] (by kernel_rfl) rfl rfl tH (fun hHeld=> ?_);refine jc qC.Vk qC.Qh (fun HT_ HW_=> ?_);generalize w11.drew=w12 at BK592 BK593 HB hHeld ⊢;refine tP 1 (some 11) (h:= ?_);refine tP 4 (some 14) (h:= ?_);refine tP 6 (some 16) (h:= ?_);refine tT 0 (some 10) (h:= ?_);refine tT 2 (some 12) (h:= ?_);refine tO 3 (some 13) (h:=fun K hK=> ?_);refine vM Tryz.func34 (by kernel_rfl) rfl #[.int .i64 a0_0] (by rfl) rfl rfl sqM ?_;(with_reducible refine (qZ.calls a0_0 t595 _ A5.out).mono ?_);rintro e w' ⟨rfl,⟨nd,rfl⟩⟩;refine ⟨_,rfl,?_⟩;refine hK.out _ _ tH (fun hHeld=> ?_);clear hK K;refine tN (h:= ?_);refine tP 5 (some 15) (h:= ?_);refine tO 7 (some 17) (h:=fun K hK=> ?_);refine vM Tryz.func33 (by kernel_rfl) rfl #[.agg #[.int .i64 a0_0,.slice A0_1 l0_1.length c0_1],.int .i64 (Go.bits .andNot .i64 t595 a1),.int .i64 a1] (by rfl) rfl rfl sqM ?_;(with_reducible refine (qo.calls k a0_0 _ _ l0_1 (Go.bits .andNot .i64 t595 a1) a1 t596 t597 _ ?side1 ?side2 A6.out).mono ?_);(case side1=>exact sqC (Kd.zO HR0_1.out sqB));(case side2=>exact HC0_1.out);rintro e w13 ⟨v598,rfl,ho0,hb⟩;refine ⟨_,rfl,?_⟩;have q_:=f4 (Kd.zJ ho0 (zp sqB)) (zh (sqK BK592.out) hb) (zh (sqK BK593.out) hb) (zd sqB hb);clear BK592 BK593 HB;obtain ⟨HO599,BK592,BK593,HB⟩:=q_;obtain ⟨Ao15,co15,eo15⟩:=Kd.zG HO599.out;(first|subst eo15|(injection eo15 with f1_ f2_ f3_;have f4_:=f1_.symm;have f5_:=f3_.symm;clear f1_ f2_ f3_;subst f4_;subst f5_));refine hK.out _ _ tH (fun hHeld=> ?_);clear hK K;refine tN (h:= ?_);refine tO 8 none (h:=fun K hK=> ?_);have hs14:w13.cell? ⟨gb593,0,none⟩=some (.int .i64 0):=(zr BK593.out 0).trans rfl;have hfs14:=zo BK593.out 0;have hns14_0:=NB592_593.out;have hms14_0:=NB593_592.out;have hs16:w13.cell? ⟨gb593,1,none⟩=some (.slice none 0 0):=(zr BK593.out 1).trans rfl;have hfs16:=zo BK593.out 1;have hns16_0:=NB592_593.out;have hms16_0:=NB593_592.out;refine tK (h:= ?_);refine hK.out _ _ ⟨((cell_far (p:=⟨gb593,_,none⟩) NB592_593.out _).trans (((cell_far (p:=⟨gb593,_,none⟩) NB592_593.out _).trans (hHeld.1)))),((cell_far (p:=⟨gb593,_,none⟩) NB592_593.out _).trans (((cell_far (p:=⟨gb593,_,none⟩) NB592_593.out _).trans (hHeld.2))))⟩ (fun hHeld=> ?_);clear hK K;refine vX (jH HT_.out (by kernel_rfl)) ?_;(try go_wp2);refine bodyPost_ret (results_cell_row rfl _ _ gb593 26 #[.int .i64 t596,.slice Ao15 t597.length co15] (0,0) _ rfl (by refine sqK ?_;refine zA (cs:=#[.int .i64 t596,.slice none 0 0]) ?_ 1 _ rfl;refine sqK ?_;refine zA (cs:=#[.int .i64 0,.slice none 0 0]) ?_ 0 _ rfl;refine sqK ?_;exact BK593.out) Tryz.underlying26 rfl (by kernel_rfl)) rfl ?_;exact ⟨_,sqE,by refine sqR ?_;exact Kd.zB (Kd.zQ (p:=⟨gb593,1,none⟩) (Kd.zQ (p:=⟨gb593,0,none⟩) (Kd.zV HO599.out BK593.out (by decide)) (fun _ hk=>hk.2) (.int .i64 t596)) (fun _ hk=>hk.2) (.slice Ao15 t597.length co15)) (fun _ hk=>trivial),sqB⟩);(·replace c4:=Bool.eq_false_iff.mpr c4;subst c4;rw [if_neg (show ¬(false=true) by decide)] at H;simp only [Option.some.injEq,Prod.mk.injEq] at H;obtain ⟨rfl,rfl⟩:=H;go_enter Tryz.func9,Tryz.ntmps9;(go_wp2_with (first|((with_reducible refine zq (N:=2) rfl ?_);refine zw ?hg (N:=2) ?hd (cs:=#[.int .i64 a0_0,.slice A0_1 l0_1.length c0_1]) (t:=26) ?hr ?_;(case hd=>rfl);(case hg=>rfl);(case hr=>exact sqG);intro gb592 hg w17 hbox hb;have q_:=f4 (zd sqB hb) hbox (sqS hg:w.heap.size≤gb592) (sqS hg:w.heap.size≤gb592);clear HB;obtain ⟨HB,BK592,GW592,GE592⟩:=q_;clear hb hbox hg)|((with_reducible refine zq (N:=4) rfl ?_);refine zw ?hg (N:=4) ?hd (cs:=#[.int .i64 0,.slice none 0 0]) (t:=26) ?hr ?_;(case hd=>rfl);(case hg=>rfl);(case hr=>exact sqG);intro gb593 hg w18 hbox hb;have q_:=f7 (zh (sqK BK592.out) hb) (zd sqB hb) hbox (sqS hg:w.heap.size≤gb593) (sqS hg:w.heap.size≤gb593) (by rw [hg];exact Nat.ne_of_lt (zM (g:=gb592) (o:= .cells #[.int .i64 a0_0,.slice A0_1 l0_1.length c0_1] 26 (0,0)) (sqK BK592.out)):gb592≠gb593) (by rw [hg];exact Nat.ne_of_gt (zM (g:=gb592) (o:= .cells #[.int .i64 a0_0,.slice A0_1 l0_1.length c0_1] 26 (0,0)) (sqK BK592.out)):gb593≠gb592);clear BK592 HB;obtain ⟨BK592,HB,BK593,GW593,GE593,NB592_593,NB593_592⟩:=q_;clear hb hbox hg;have hnb19:=NB592_593.out;have hnc19:=NB593_592.out;obtain ⟨_,_,_,_⟩:=z2 BK592.out)|((with_reducible refine zb (f:=32) rfl ?_);refine zm (some 7) rfl rfl Tryz.func32 (by kernel_rfl) rfl #[.agg #[.int .i64 a0_0,.slice A0_1 l0_1.length c0_1],.int .i64 a1] rfl sqM ?_;(with_reducible refine (j9.calls k a0_0 _ _ l0_1 a1 false _ ?side1 ?side2 A3.out).mono ?_);(case side1=>exact sqC (Kd.zO HR0_1.out HB.out));(case side2=>exact HC0_1.out);rintro e w21 ⟨rfl,hb⟩;refine ⟨_,rfl,?_⟩;have q_:=f3 (zh (sqK BK592.out) hb) (zh (sqK BK593.out) hb) (zd sqB hb);clear BK592 BK593 HB;obtain ⟨BK592,BK593,HB⟩:=q_;obtain ⟨_,_,_,_⟩:=z2 BK593.out)));refine bodyPost_ret (results_cell_row rfl _ _ gb593 26 #[.int .i64 0,.slice none 0 0] (0,0) _ rfl (by refine sqK ?_;refine zA (cs:=#[.int .i64 0,.slice none 0 0]) ?_ 1 _ rfl;refine sqK ?_;refine zA (cs:=#[.int .i64 0,.slice none 0 0]) ?_ 0 _ rfl;refine sqK ?_;exact BK593.out) Tryz.underlying26 rfl (by kernel_rfl)) rfl ?_;exact ⟨_,sqE,sqN,sqB⟩)

end Go.Proofs.YtimmcndgjbdjeaaGreat.F
end
section
namespace Go.Proofs.YtimmcndgjbdjeaaGreat.F
open Go.RowKit Go.Proofs.YtimmcndgjbdjeaaGreatW.PrintWords Go.Proofs.YtimmcndgjbdjeaaGreatW.PrintLast Go.Proofs.YtimmcndgjbdjeaaGreatW.PrintMore
attribute [local go_sem] jN jM vw vp jy jA jQ jO   -- for this text's walks alone
set_option linter.unusedVariables false
set_option linter.unusedSimpArgs false

mutual
def zH.l0:Nat→Int→ByteArray→Int→Int→List Int→Int→List Int→Int→List Int→Int→List Int→Option (Bool)
 |0,_,_,_,_,_,_,_,_,_,_,_=>none
 |k+1,x4,x5,x9,x702000,x702001,x708000,x708001,x713000,x713001,x718000,x718001=>if x9< (x708001.length:Int) then (if 0≤x9 then (zH.l0 k x4 x5 (wrap64 (x9+1)) x702000 x702001 x708000 (x708001.set (x9:Int).toNat 99) x713000 x713001 x718000 x718001) else (none)) else (zH.l1 k x4 x5 0 x702000 x702001 x713000 x713001 x718000 x718001)
def zH.l1:Nat→Int→ByteArray→Int→Int→List Int→Int→List Int→Int→List Int→Option (Bool)
 |0,_,_,_,_,_,_,_,_,_=>none
 |k+1,x4,x5,x10,x702000,x702001,x713000,x713001,x718000,x718001=>if x10< (x713001.length:Int) then (if 0≤x10 then (zH.l1 k x4 x5 (wrap64 (x10+1)) x702000 x702001 x713000 (x713001.set (x10:Int).toNat 99) x718000 x718001) else (none)) else (zH.l2 k x4 x5 0 x702000 x702001 x718000 x718001)
def zH.l2:Nat→Int→ByteArray→Int→Int→List Int→Int→List Int→Option (Bool)
 |0,_,_,_,_,_,_,_=>none
 |k+1,x4,x5,x11,x702000,x702001,x718000,x718001=>if x11< (x718001.length:Int) then (if 0≤x11 then (zH.l2 k x4 x5 (wrap64 (x11+1)) x702000 x702001 x718000 (x718001.set (x11:Int).toNat 99)) else (none)) else ((jt.f k x702001).bind fun t721=>(zH.l3 k x4 x5 t721 0 x702000 x702001))
def zH.l3:Nat→Int→ByteArray→List Int→Int→Int→List Int→Option (Bool)
 |0,_,_,_,_,_,_=>none
 |k+1,x4,x5,x12,x13,x702000,x702001=>if x13< (x12.length:Int) then (if 0≤x13 then (zH.l3 k x4 x5 (x12.set (x13:Int).toNat 99) (wrap64 (x13+1)) x702000 x702001) else (none)) else ((zW.f k x702000 x702001).bind fun t725=>(if t725.toList=x5.toList then ((qE.f k x702000 x702001 x4).bind fun bt726=>((jF.f k x702000 x702001 x4).bind fun bt730=>((zN.f k bt726.1 bt726.2 bt730.1 bt730.2).bind fun t734=>(if t734=true then ((qY.f k x702000 x702001).bind fun bt735=>((jh.f k x702000 x702001).bind fun bt739=>((zN.f k bt735.1 bt735.2 bt739.1 bt739.2).bind fun t743=>(some t743)))) else (none))))) else (none)))
end
def zH.f (k:Nat)(l0:List Int):Option (Bool):=(yP.f l0).bind fun t695=>(if t695=true then (some true) else ((ju.f k l0).bind fun bt696=>((zW.f k bt696.1 bt696.2.1).bind fun t702=>((qE.f k bt696.1 bt696.2.1 bt696.2.2).bind fun bt703=>((qC.f k bt696.1 bt696.2.1 bt696.2.2).bind fun bt708=>((qY.f k bt696.1 bt696.2.1).bind fun bt713=>(zH.l0 k bt696.2.2 t702 0 bt696.1 bt696.2.1 bt703.1 bt703.2 bt708.1 bt708.2 bt713.1 bt713.2)))))))
def zH.T25:Bool×List (List Nat×List Nat):=(true,[([],[]),([0],[0]),([],[]),([1,2],[1,2]),([3,1],[3]),([4],[4]),([4],[4]),([5,6,4,4],[4,5,6]),([4],[4]),([4],[4]),([8,9,7,4],[4,8,9]),([7,10,10,4],[4,7,10]),([4,11],[4,11]),([12,11],[12]),([13],[13]),([14,13,13],[13,14]),([13],[13]),([16,15,13],[13,16]),([15,17,17,13],[13,15,17]),([13,18],[13,18]),([19,18,0,1,2,3,4,5,6,7,8,9,10,11,12,13,14,15,16,17,18,19],[19])])
def zH.B25:List Nat:=[0,1,0,7,15,31,31,127,31,31,1023,2047,4095,8191,16383,32767,16383,131071,262143,524287,1048575]
theorem zH.zaM:vW .any (opsOf Tryz.f3 25)=zH.T25:=by kernel_rfl
theorem zH.Ys:vk zH.T25.2 zH.B25=true:=by kernel_rfl
theorem zH.calls (k:Nat)(A0:Option Addr)(c0:Nat)(l0:List Int)(r:Bool)(w:World)(hr0:Kd.C (Kd.int .u8) w A0 l0.length l0)(hc0:l0.length≤c0)(h:zH.f k l0=some r):Calls Tryz.prog 3 #[.slice A0 l0.length c0] w fun e w'=>e= .returned (.bool r)∧Below w.heap.size w w':=by have hu26:=Tryz.underlying26;have HR0:=Aside0.mk hr0;have HC0:=Aside0.mk hc0;clear hr0 hc0;have HB:=Aside0.mk (Below.refl w.heap.size w);have H:=h;unfold zH.f at H;clear h;replace H:=zF H;obtain ⟨t695,A2,H⟩:=H;by_cases c3:t695=true;(·subst c3;rw [if_pos rfl] at H;obtain rfl:=Option.some.inj H;go_enter Tryz.func3,Tryz.ntmps3;(go_wp2_with (first|((with_reducible refine zb (f:=5) rfl ?_);refine zm (some 15) rfl rfl Tryz.func5 (by kernel_rfl) rfl #[.slice A0 l0.length c0] rfl sqM ?_;(with_reducible refine (yP.calls _ _ l0 true _ ?side1 ?side2 A2.out).mono ?_);(case side1=>exact sqC HR0.out);(case side2=>exact HC0.out);rintro e w' ⟨rfl,⟨nd,rfl⟩⟩;refine ⟨_,rfl,?_⟩)));go_ret;exact ⟨sqE,sqB⟩);(·replace c3:=Bool.eq_false_iff.mpr c3;subst c3;rw [if_neg (show ¬(false=true) by decide)] at H;replace H:=zF H;obtain ⟨⟨t696,t697,t700⟩,A4,H⟩:=H;(try dsimp only at H);replace H:=zF H;obtain ⟨t702,A5,H⟩:=H;replace H:=zF H;obtain ⟨⟨t703,t704⟩,A6,H⟩:=H;(try dsimp only at H);replace H:=zF H;obtain ⟨⟨t708,t709⟩,A7,H⟩:=H;(try dsimp only at H);replace H:=zF H;obtain ⟨⟨t713,t714⟩,A8,H⟩:=H;(try dsimp only at H);have H':=Aside0.mk H;clear H;go_enter Tryz.func3,Tryz.ntmps3;(go_wp2_with (first|((with_reducible refine zb (f:=5) rfl ?_);refine zm (some 15) rfl rfl Tryz.func5 (by kernel_rfl) rfl #[.slice A0 l0.length c0] rfl sqM ?_;(with_reducible refine (yP.calls _ _ l0 false _ ?side1 ?side2 A2.out).mono ?_);(case side1=>exact sqC HR0.out);(case side2=>exact HC0.out);rintro e w' ⟨rfl,⟨nd,rfl⟩⟩;refine ⟨_,rfl,?_⟩)|((with_reducible refine zb (f:=6) rfl ?_);refine zm (some 18) rfl rfl Tryz.func6 (by kernel_rfl) rfl #[.slice A0 l0.length c0] rfl sqM ?_;(with_reducible refine (ju.calls k _ _ l0 t696 t697 t700 _ ?side1 ?side2 A4.out).mono ?_);(case side1=>exact sqC HR0.out);(case side2=>exact HC0.out);rintro e w9 ⟨v698,rfl,ho0,hb⟩;refine ⟨_,rfl,?_⟩;have q_:=f2 (Kd.zJ ho0 (zp sqB)) (zd sqB hb);clear HB;obtain ⟨HO699,HB⟩:=q_)|((with_reducible refine zq (N:=3) rfl ?_);refine zw ?hg (N:=3) ?hd (cs:=#[.int .i64 0,.slice none 0 0]) (t:=26) ?hr ?_;(case hd=>rfl);(case hg=>rfl);(case hr=>exact sqG);intro gb701 hg w10 hbox hb;have q_:=f5 (Kd.zK (sqR HO699.out) hb) (zd sqB hb) hbox (sqS hg:w.heap.size≤gb701) (sqS hg:w.heap.size≤gb701);clear HO699 HB;obtain ⟨HO699,HB,BK701,GW701,GE701⟩:=q_;clear hb hbox hg;obtain ⟨_,_,_,_⟩:=z2 BK701.out;obtain ⟨Ao12,co12,eo12⟩:=Kd.zG HO699.out;subst eo12)|((with_reducible refine zb (f:=7) rfl ?_);refine zm (some 22) rfl rfl Tryz.func7 (by kernel_rfl) rfl #[.agg #[.int .i64 t696,.slice Ao12 t697.length co12]] rfl sqM ?_;(with_reducible refine (zW.calls k t696 _ _ t697 t702 _ ?side1 ?side2 A5.out).mono ?_);(case side1=>refine (Kd.zx (e:=3) (base:=w.heap.size) (ok:=fun k_=>True) (n:=t697.length) (c:=co12) ?_).2.2;exact (by refine sqR ?_;exact (Kd.zB (Kd.zQ (p:=⟨gb701,1,none⟩) (Kd.zQ (p:=⟨gb701,0,none⟩) (Kd.zV HO699.out BK701.out (by decide)) (fun _ hk=>hk.2) (.int .i64 t696)) (fun _ hk=>hk.2) (.slice Ao12 t697.length co12)) (fun _ h_=>h_.1))));(case side2=>exact (Kd.zx HO699.out).2.1);rintro e w13 ⟨rfl,hb⟩;refine ⟨_,rfl,?_⟩;have q_:=f3 (Kd.zK (by refine sqR ?_;exact (Kd.zB (Kd.zQ (p:=⟨gb701,1,none⟩) (Kd.zQ (p:=⟨gb701,0,none⟩) (Kd.zV HO699.out BK701.out (by decide)) (fun _ hk=>hk.2) (.int .i64 t696)) (fun _ hk=>hk.2) (.slice Ao12 t697.length co12)) (fun _ h_=>h_.1))) hb) (zh (g:=gb701) (o:= .cells #[.int .i64 t696,.slice Ao12 t697.length co12] 26 (0,0)) (by refine sqK ?_;refine zA (cs:=#[.int .i64 t696,.slice none 0 0]) ?_ 1 _ rfl;refine sqK ?_;refine zA (cs:=#[.int .i64 0,.slice none 0 0]) ?_ 0 _ rfl;refine sqK ?_;exact BK701.out) hb) (zd sqB hb);clear HO699 BK701 HB;obtain ⟨HO699,BK701,HB⟩:=q_;obtain ⟨_,_,_,_⟩:=z2 BK701.out)|((with_reducible refine zb (f:=8) rfl ?_);refine zm (some 25) rfl rfl Tryz.func8 (by kernel_rfl) rfl #[.agg #[.int .i64 t696,.slice Ao12 t697.length co12],.int .i64 t700] rfl sqM ?_;(with_reducible refine (qE.calls k t696 _ _ t697 t700 t703 t704 _ ?side1 ?side2 A6.out).mono ?_);(case side1=>exact sqC (Kd.zx HO699.out).2.2);(case side2=>exact (Kd.zx HO699.out).2.1);rintro e w15 ⟨v705,rfl,ho0,hb⟩;refine ⟨_,rfl,?_⟩;have q_:=f4 (Kd.zY (sqR HO699.out) (Kd.qx ho0) hb) (Kd.zJ (Kd.qy ho0 (Kd.jo (sqR HO699.out))) (zp sqB)) (zh (sqK BK701.out) hb) (zd sqB hb);clear HO699 BK701 HB;obtain ⟨HO699,HO706,BK701,HB⟩:=q_)|((with_reducible refine zq (N:=6) rfl ?_);refine zw ?hg (N:=6) ?hd (cs:=#[.int .i64 0,.slice none 0 0]) (t:=26) ?hr ?_;(case hd=>rfl);(case hg=>rfl);(case hr=>exact sqG);intro gb707 hg w16 hbox hb;have q_:=f9 (Kd.zK (sqR HO699.out) hb) (Kd.zK (sqR HO706.out) hb) (zh (sqK BK701.out) hb) (zd sqB hb) hbox (sqS hg:w.heap.size≤gb707) (sqS hg:w.heap.size≤gb707) (by rw [hg];exact Nat.ne_of_lt (zM (g:=gb701) (o:= .cells #[.int .i64 t696,.slice Ao12 t697.length co12] 26 (0,0)) (sqK BK701.out)):gb701≠gb707) (by rw [hg];exact Nat.ne_of_gt (zM (g:=gb701) (o:= .cells #[.int .i64 t696,.slice Ao12 t697.length co12] 26 (0,0)) (sqK BK701.out)):gb707≠gb701);clear HO699 HO706 BK701 HB;obtain ⟨HO699,HO706,BK701,HB,BK707,GW707,GE707,NB701_707,NB707_701⟩:=q_;clear hb hbox hg;have hnb17:=NB707_701.out;have hnc17:=NB701_707.out;obtain ⟨_,_,_,_⟩:=z2 BK707.out;obtain ⟨Ao19,co19,eo19⟩:=Kd.zG HO706.out;subst eo19;obtain ⟨_,_,_,_⟩:=z2 BK701.out)|((with_reducible refine zb (f:=9) rfl ?_);refine zm (some 28) rfl rfl Tryz.func9 (by kernel_rfl) rfl #[.agg #[.int .i64 t696,.slice Ao12 t697.length co12],.int .i64 t700] rfl sqM ?_;(with_reducible refine (qC.calls k t696 _ _ t697 t700 t708 t709 _ ?side1 ?side2 A7.out).mono ?_);(case side1=>refine (Kd.zx (e:=3) (base:=w.heap.size) (ok:=fun k_=>(True∧some k_≠(.slice Ao19 t704.length co19:Value).ownBlock)) (n:=t697.length) (c:=co12) ?_).2.2;exact (by refine sqR ?_;exact (Kd.zB (Kd.zQ (p:=⟨gb707,1,none⟩) (Kd.zQ (p:=⟨gb707,0,none⟩) (Kd.zV HO699.out BK707.out (by decide)) (fun _ hk=>hk.2) (.int .i64 t703)) (fun _ hk=>hk.2) (.slice Ao19 t704.length co19)) (fun _ h_=>h_.1))));(case side2=>exact (Kd.zx HO699.out).2.1);rintro e w21 ⟨v710,rfl,ho0,hb⟩;refine ⟨_,rfl,?_⟩;have q_:=f6 (Kd.zY (by refine sqR ?_;exact (Kd.zB (Kd.zQ (p:=⟨gb707,1,none⟩) (Kd.zQ (p:=⟨gb707,0,none⟩) (Kd.zV HO699.out BK707.out (by decide)) (fun _ hk=>hk.2) (.int .i64 t703)) (fun _ hk=>hk.2) (.slice Ao19 t704.length co19)) (fun _ h_=>h_.1))) (Kd.qx ho0) hb) (Kd.zY (by refine sqR ?_;exact (Kd.zB (Kd.zQ (p:=⟨gb707,1,none⟩) (Kd.zQ (p:=⟨gb707,0,none⟩) (Kd.zV HO706.out BK707.out (by decide)) (fun _ hk=>hk.2) (.int .i64 t703)) (fun _ hk=>hk.2) (.slice Ao19 t704.length co19)) (fun _ h_=>h_.1))) (Kd.qx ho0) hb) (Kd.zJ (Kd.qy (Kd.qy ho0 (Kd.jo (by refine sqR ?_;exact (Kd.zB (Kd.zQ (p:=⟨gb707,1,none⟩) (Kd.zQ (p:=⟨gb707,0,none⟩) (Kd.zV HO699.out BK707.out (by decide)) (fun _ hk=>hk.2) (.int .i64 t703)) (fun _ hk=>hk.2) (.slice Ao19 t704.length co19)) (fun _ h_=>h_.1))))) (Kd.jo (by refine sqR ?_;exact (Kd.zB (Kd.zQ (p:=⟨gb707,1,none⟩) (Kd.zQ (p:=⟨gb707,0,none⟩) (Kd.zV HO706.out BK707.out (by decide)) (fun _ hk=>hk.2) (.int .i64 t703)) (fun _ hk=>hk.2) (.slice Ao19 t704.length co19)) (fun _ h_=>h_.1))))) (zp sqB)) (zh (g:=gb701) (o:= .cells #[.int .i64 t696,.slice Ao12 t697.length co12] 26 (0,0)) (by refine sqK ?_;refine qa ?_ NB701_707.out _;refine sqK ?_;refine qa ?_ NB701_707.out _;refine sqK ?_;exact BK701.out) hb) (zh (g:=gb707) (o:= .cells #[.int .i64 t703,.slice Ao19 t704.length co19] 26 (0,0)) (by refine sqK ?_;refine zA (cs:=#[.int .i64 t703,.slice none 0 0]) ?_ 1 _ rfl;refine sqK ?_;refine zA (cs:=#[.int .i64 0,.slice none 0 0]) ?_ 0 _ rfl;refine sqK ?_;exact BK707.out) hb) (zd sqB hb);clear HO699 HO706 BK701 BK707 HB;obtain ⟨HO699,HO706,HO711,BK701,BK707,HB⟩:=q_)|((with_reducible refine zq (N:=7) rfl ?_);refine zw ?hg (N:=7) ?hd (cs:=#[.int .i64 0,.slice none 0 0]) (t:=26) ?hr ?_;(case hd=>rfl);(case hg=>rfl);(case hr=>exact sqG);intro gb712 hg w22 hbox hb;have q_:=f13 (Kd.zK (sqR HO699.out) hb) (Kd.zK (sqR HO706.out) hb) (Kd.zK (sqR HO711.out) hb) (zh (sqK BK701.out) hb) (zh (sqK BK707.out) hb) (zd sqB hb) hbox (sqS hg:w.heap.size≤gb712) (sqS hg:w.heap.size≤gb712) (by rw [hg];exact Nat.ne_of_lt (zM (g:=gb701) (o:= .cells #[.int .i64 t696,.slice Ao12 t697.length co12] 26 (0,0)) (sqK BK701.out)):gb701≠gb712) (by rw [hg];exact Nat.ne_of_gt (zM (g:=gb701) (o:= .cells #[.int .i64 t696,.slice Ao12 t697.length co12] 26 (0,0)) (sqK BK701.out)):gb712≠gb701) (by rw [hg];exact Nat.ne_of_lt (zM (g:=gb707) (o:= .cells #[.int .i64 t703,.slice Ao19 t704.length co19] 26 (0,0)) (sqK BK707.out)):gb707≠gb712) (by rw [hg];exact Nat.ne_of_gt (zM (g:=gb707) (o:= .cells #[.int .i64 t703,.slice Ao19 t704.length co19] 26 (0,0)) (sqK BK707.out)):gb712≠gb707);clear HO699 HO706 HO711 BK701 BK707 HB;obtain ⟨HO699,HO706,HO711,BK701,BK707,HB,BK712,GW712,GE712,NB701_712,NB712_701,NB707_712,NB712_707⟩:=q_;clear hb hbox hg;have hnb23:=NB712_701.out;have hnc23:=NB701_712.out;have hnb24:=NB712_707.out;have hnc24:=NB707_712.out;obtain ⟨_,_,_,_⟩:=z2 BK712.out;obtain ⟨Ao26,co26,eo26⟩:=Kd.zG HO711.out;subst eo26;obtain ⟨_,_,_,_⟩:=z2 BK701.out)|((with_reducible refine zb (f:=10) rfl ?_);refine zm (some 30) rfl rfl Tryz.func10 (by kernel_rfl) rfl #[.agg #[.int .i64 t696,.slice Ao12 t697.length co12]] rfl sqM ?_;(with_reducible refine (qY.calls k t696 _ _ t697 t713 t714 _ ?side1 ?side2 A8.out).mono ?_);(case side1=>refine (Kd.zx (e:=3) (base:=w.heap.size) (ok:=fun k_=>((True∧some k_≠(.slice Ao19 t704.length co19:Value).ownBlock)∧some k_≠(.slice Ao26 t709.length co26:Value).ownBlock)) (n:=t697.length) (c:=co12) ?_).2.2;exact (by refine sqR ?_;exact (Kd.zB (Kd.zQ (p:=⟨gb712,1,none⟩) (Kd.zQ (p:=⟨gb712,0,none⟩) (Kd.zV HO699.out BK712.out (by decide)) (fun _ hk=>hk.2) (.int .i64 t708)) (fun _ hk=>hk.2) (.slice Ao26 t709.length co26)) (fun _ h_=>h_.1))));(case side2=>exact (Kd.zx HO699.out).2.1);rintro e w28 ⟨v715,rfl,ho0,hb⟩;refine ⟨_,rfl,?_⟩;have q_:=f8 (Kd.zY (by refine sqR ?_;exact (Kd.zB (Kd.zQ (p:=⟨gb712,1,none⟩) (Kd.zQ (p:=⟨gb712,0,none⟩) (Kd.zV HO699.out BK712.out (by decide)) (fun _ hk=>hk.2) (.int .i64 t708)) (fun _ hk=>hk.2) (.slice Ao26 t709.length co26)) (fun _ h_=>h_.1))) (Kd.qx ho0) hb) (Kd.zY (by refine sqR ?_;exact (Kd.zB (Kd.zQ (p:=⟨gb712,1,none⟩) (Kd.zQ (p:=⟨gb712,0,none⟩) (Kd.zV HO706.out BK712.out (by decide)) (fun _ hk=>hk.2) (.int .i64 t708)) (fun _ hk=>hk.2) (.slice Ao26 t709.length co26)) (fun _ h_=>h_.1))) (Kd.qx ho0) hb) (Kd.zY (by refine sqR ?_;exact (Kd.zB (Kd.zQ (p:=⟨gb712,1,none⟩) (Kd.zQ (p:=⟨gb712,0,none⟩) (Kd.zV HO711.out BK712.out (by decide)) (fun _ hk=>hk.2) (.int .i64 t708)) (fun _ hk=>hk.2) (.slice Ao26 t709.length co26)) (fun _ h_=>h_.1))) (Kd.qx ho0) hb) (Kd.zJ (Kd.qy (Kd.qy (Kd.qy ho0 (Kd.jo (by refine sqR ?_;exact (Kd.zB (Kd.zQ (p:=⟨gb712,1,none⟩) (Kd.zQ (p:=⟨gb712,0,none⟩) (Kd.zV HO699.out BK712.out (by decide)) (fun _ hk=>hk.2) (.int .i64 t708)) (fun _ hk=>hk.2) (.slice Ao26 t709.length co26)) (fun _ h_=>h_.1))))) (Kd.jo (by refine sqR ?_;exact (Kd.zB (Kd.zQ (p:=⟨gb712,1,none⟩) (Kd.zQ (p:=⟨gb712,0,none⟩) (Kd.zV HO706.out BK712.out (by decide)) (fun _ hk=>hk.2) (.int .i64 t708)) (fun _ hk=>hk.2) (.slice Ao26 t709.length co26)) (fun _ h_=>h_.1))))) (Kd.jo (by refine sqR ?_;exact (Kd.zB (Kd.zQ (p:=⟨gb712,1,none⟩) (Kd.zQ (p:=⟨gb712,0,none⟩) (Kd.zV HO711.out BK712.out (by decide)) (fun _ hk=>hk.2) (.int .i64 t708)) (fun _ hk=>hk.2) (.slice Ao26 t709.length co26)) (fun _ h_=>h_.1))))) (zp sqB)) (zh (g:=gb701) (o:= .cells #[.int .i64 t696,.slice Ao12 t697.length co12] 26 (0,0)) (by refine sqK ?_;refine qa ?_ NB701_712.out _;refine sqK ?_;refine qa ?_ NB701_712.out _;refine sqK ?_;exact BK701.out) hb) (zh (g:=gb707) (o:= .cells #[.int .i64 t703,.slice Ao19 t704.length co19] 26 (0,0)) (by refine sqK ?_;refine qa ?_ NB707_712.out _;refine sqK ?_;refine qa ?_ NB707_712.out _;refine sqK ?_;exact BK707.out) hb) (zh (g:=gb712) (o:= .cells #[.int .i64 t708,.slice Ao26 t709.length co26] 26 (0,0)) (by refine sqK ?_;refine zA (cs:=#[.int .i64 t708,.slice none 0 0]) ?_ 1 _ rfl;refine sqK ?_;refine zA (cs:=#[.int .i64 0,.slice none 0 0]) ?_ 0 _ rfl;refine sqK ?_;exact BK712.out) hb) (zd sqB hb);clear HO699 HO706 HO711 BK701 BK707 BK712 HB;obtain ⟨HO699,HO706,HO711,HO716,BK701,BK707,BK712,HB⟩:=q_)|((with_reducible refine zq (N:=8) rfl ?_);refine zw ?hg (N:=8) ?hd (cs:=#[.int .i64 0,.slice none 0 0]) (t:=26) ?hr ?_;(case hd=>rfl);(case hg=>rfl);(case hr=>exact sqG);intro gb717 hg w29 hbox hb;have q_:=f17 (Kd.zK (sqR HO699.out) hb) (Kd.zK (sqR HO706.out) hb) (Kd.zK (sqR HO711.out) hb) (Kd.zK (sqR HO716.out) hb) (zh (sqK BK701.out) hb) (zh (sqK BK707.out) hb) (zh (sqK BK712.out) hb) (zd sqB hb) hbox (sqS hg:w.heap.size≤gb717) (sqS hg:w.heap.size≤gb717) (by rw [hg];exact Nat.ne_of_lt (zM (g:=gb701) (o:= .cells #[.int .i64 t696,.slice Ao12 t697.length co12] 26 (0,0)) (sqK BK701.out)):gb701≠gb717) (by rw [hg];exact Nat.ne_of_gt (zM (g:=gb701) (o:= .cells #[.int .i64 t696,.slice Ao12 t697.length co12] 26 (0,0)) (sqK BK701.out)):gb717≠gb701) (by rw [hg];exact Nat.ne_of_lt (zM (g:=gb707) (o:= .cells #[.int .i64 t703,.slice Ao19 t704.length co19] 26 (0,0)) (sqK BK707.out)):gb707≠gb717) (by rw [hg];exact Nat.ne_of_gt (zM (g:=gb707) (o:= .cells #[.int .i64 t703,.slice Ao19 t704.length co19] 26 (0,0)) (sqK BK707.out)):gb717≠gb707) (by rw [hg];exact Nat.ne_of_lt (zM (g:=gb712) (o:= .cells #[.int .i64 t708,.slice Ao26 t709.length co26] 26 (0,0)) (sqK BK712.out)):gb712≠gb717) (by rw [hg];exact Nat.ne_of_gt (zM (g:=gb712) (o:= .cells #[.int .i64 t708,.slice Ao26 t709.length co26] 26 (0,0)) (sqK BK712.out)):gb717≠gb712);clear HO699 HO706 HO711 HO716 BK701 BK707 BK712 HB;obtain ⟨HO699,HO706,HO711,HO716,BK701,BK707,BK712,HB,BK717,GW717,GE717,NB701_717,NB717_701,NB707_717,NB717_707,NB712_717,NB717_712⟩:=q_;clear hb hbox hg;have hnb30:=NB717_701.out;have hnc30:=NB701_717.out;have hnb31:=NB717_707.out;have hnc31:=NB707_717.out;have hnb32:=NB717_712.out;have hnc32:=NB712_717.out;obtain ⟨_,_,_,_⟩:=z2 BK717.out;obtain ⟨Ao34,co34,eo34⟩:=Kd.zG HO716.out;subst eo34)));(go_loopg [9] k (fun kq v9 w'=> ∃(x9_1:Int) (x702001_1:List Int) (x708001_1:List Int) (x713001_1:List Int) (x718001_1:List Int) (u702001:Value) (u708001:Value) (u713001:Value) (u718001:Value),v9= .int .i64 x9_1∧Aside0 (zH.l0 kq t700 t702 x9_1 t696 x702001_1 t703 x708001_1 t708 x713001_1 t713 x718001_1=some r)∧Aside0 (kq≤k)∧Aside0 (Kd.R (Kd.int .i64) 3 w' w.heap.size (fun k_=>some k_≠(u708001:Value).ownBlock∧some k_≠(u713001:Value).ownBlock∧some k_≠(u718001:Value).ownBlock) u702001 x702001_1)∧Aside0 (Kd.R (Kd.int .i64) 3 w' w.heap.size (fun k_=>some k_≠(u702001:Value).ownBlock∧some k_≠(u713001:Value).ownBlock∧some k_≠(u718001:Value).ownBlock) u708001 x708001_1)∧Aside0 (Kd.R (Kd.int .i64) 3 w' w.heap.size (fun k_=>some k_≠(u702001:Value).ownBlock∧some k_≠(u708001:Value).ownBlock∧some k_≠(u718001:Value).ownBlock) u713001 x713001_1)∧Aside0 (Kd.R (Kd.int .i64) 3 w' w.heap.size (fun k_=>some k_≠(u702001:Value).ownBlock∧some k_≠(u708001:Value).ownBlock∧some k_≠(u713001:Value).ownBlock) u718001 x718001_1)∧Aside0 (w'.heap[gb701]? =some (.cells #[.int .i64 t696,u702001] 26 (0,0)))∧Aside0 (w'.heap[gb707]? =some (.cells #[.int .i64 t703,u708001] 26 (0,0)))∧Aside0 (w'.heap[gb712]? =some (.cells #[.int .i64 t708,u713001] 26 (0,0)))∧Aside0 (w'.heap[gb717]? =some (.cells #[.int .i64 t713,u718001] 26 (0,0)))∧Aside0 (Below w.heap.size w w')));(case atStart=>exact ⟨(0),(t697),(t704),(t709),(t714),(.slice Ao12 t697.length co12),(.slice Ao19 t704.length co19),(.slice Ao26 t709.length co26),(.slice Ao34 t714.length co34),(sqD),H',⟨Nat.le_refl _⟩,⟨by refine sqR ?_;exact Kd.zB (Kd.zQ (p:=⟨gb717,1,none⟩) (Kd.zQ (p:=⟨gb717,0,none⟩) (Kd.zV HO699.out BK717.out (by decide)) (fun _ hk=>hk.2) (.int .i64 t713)) (fun _ hk=>hk.2) (.slice Ao34 t714.length co34)) (fun _ hk=>by first|exact ⟨hk.1.1.1.2,⟨hk.1.1.2,hk.1.2⟩⟩|(refine ⟨?_,?_,?_⟩<;>intro e_<;>simp only [e_,ne_eq,not_true_eq_false,and_false,false_and] at hk))⟩,⟨by refine sqR ?_;exact Kd.zB (Kd.zQ (p:=⟨gb717,1,none⟩) (Kd.zQ (p:=⟨gb717,0,none⟩) (Kd.zV HO706.out BK717.out (by decide)) (fun _ hk=>hk.2) (.int .i64 t713)) (fun _ hk=>hk.2) (.slice Ao34 t714.length co34)) (fun _ hk=>by first|exact ⟨hk.1.1.1.2,⟨hk.1.1.2,hk.1.2⟩⟩|(refine ⟨?_,?_,?_⟩<;>intro e_<;>simp only [e_,ne_eq,not_true_eq_false,and_false,false_and] at hk))⟩,⟨by refine sqR ?_;exact Kd.zB (Kd.zQ (p:=⟨gb717,1,none⟩) (Kd.zQ (p:=⟨gb717,0,none⟩) (Kd.zV HO711.out BK717.out (by decide)) (fun _ hk=>hk.2) (.int .i64 t713)) (fun _ hk=>hk.2) (.slice Ao34 t714.length co34)) (fun _ hk=>by first|exact ⟨hk.1.1.1.2,⟨hk.1.1.2,hk.1.2⟩⟩|(refine ⟨?_,?_,?_⟩<;>intro e_<;>simp only [e_,ne_eq,not_true_eq_false,and_false,false_and] at hk))⟩,⟨by refine sqR ?_;exact Kd.zB (Kd.zQ (p:=⟨gb717,1,none⟩) (Kd.zQ (p:=⟨gb717,0,none⟩) (Kd.zV HO716.out BK717.out (by decide)) (fun _ hk=>hk.2) (.int .i64 t713)) (fun _ hk=>hk.2) (.slice Ao34 t714.length co34)) (fun _ hk=>by first|exact ⟨hk.1.1.1.2,⟨hk.1.1.2,hk.1.2⟩⟩|(refine ⟨?_,?_,?_⟩<;>intro e_<;>simp only [e_,ne_eq,not_true_eq_false,and_false,false_and] at hk))⟩,⟨by refine sqK ?_;refine qa ?_ NB701_717.out _;refine sqK ?_;refine qa ?_ NB701_717.out _;refine sqK ?_;exact BK701.out⟩,⟨by refine sqK ?_;refine qa ?_ NB707_717.out _;refine sqK ?_;refine qa ?_ NB707_717.out _;refine sqK ?_;exact BK707.out⟩,⟨by refine sqK ?_;refine qa ?_ NB712_717.out _;refine sqK ?_;refine qa ?_ NB712_717.out _;refine sqK ?_;exact BK712.out⟩,⟨by refine sqK ?_;refine zA (cs:=#[.int .i64 t713,.slice none 0 0]) ?_ 1 _ rfl;refine sqK ?_;refine zA (cs:=#[.int .i64 0,.slice none 0 0]) ?_ 0 _ rfl;refine sqK ?_;exact BK717.out⟩,⟨sqB⟩⟩);(case round=>clear H';obtain ⟨x9_1,x702001_1,x708001_1,x713001_1,x718001_1,u702001,u708001,u713001,u718001,rfl,HA,HK1,HO_702001,HO_708001,HO_713001,HO_718001,BK701,BK707,BK712,BK717,HB⟩:=hrel;(cases gk with|zero=>exact absurd HA.out (by simp [zH.l0])|succ k1=>have H:=HA.out;clear HA;simp only [zH.l0] at H;by_cases c35:x9_1< (x708001_1.length:Int);(·rw [if_pos c35] at H;have c35b0:decide (x9_1< (x708001_1.length:Int))=true:=decide_eq_true c35;clear c35;by_cases c36:0≤x9_1;(·rw [if_pos c36] at H;have c36b0:decide (0≤x9_1)=true:=decide_eq_true c36;clear c36;obtain ⟨y718,hy718⟩: ∃y_:List Int,y_=(x708001_1.set (x9_1:Int).toNat 99):=⟨_,rfl⟩;(replace H:(zH.l0 k1 t700 t702 (wrap64 (x9_1+1)) t696 x702001_1 t703 y718 t708 x713001_1 t713 x718001_1)=some r:=by first|(rw [hy718];with_reducible exact H)|(have H2_:=(Option.bind_some _ _).symm.trans H;rw [hy718];with_reducible exact H2_)|(have H2_:=(Option.bind_some _ _).symm.trans H;with_reducible exact H2_)|with_reducible exact H|(rw [hy718];exact H)|exact H);have Ny718:=Aside0.mk hy718;clear hy718;have H':=Aside0.mk H;clear H;have hnb38:=NB707_701.out;have hnc38:=NB701_707.out;have hnb39:=NB707_712.out;have hnc39:=NB712_707.out;have hnb40:=NB707_717.out;have hnc40:=NB717_707.out;obtain ⟨_,_,_,_⟩:=z2 BK707.out;obtain ⟨Ao42,co42,eo42⟩:=Kd.zG HO_708001.out;subst eo42;have p37:0≤(x9_1:Int):=of_decide_eq_true sqA;have q37:(x9_1:Int)< ((x708001_1.length:Int):Int):=of_decide_eq_true sqA;obtain ⟨go37,co37,eo37,gb37,gl37,cl37,HG37⟩:=Kd.QF HO_708001.out (by omega);(first|cases eo37|(injection eo37 with ea_ en_ ec_;(first|subst ea_|(injection ea_ with ea_;subst ea_));subst ec_;clear en_));(try simp only [add_plain] at*);have GB37:=Aside0.mk gb37;have GG37:=Aside0.mk HG37;clear gb37 gl37 HG37;obtain ⟨hx37_0,hf37_0⟩:=Kd.yZ 0 HO_708001.out (x9_1:Int) p37 q37;replace p37:=eq_true p37;replace q37:=eq_true q37;have HP43:=Kd.QA HO_708001.out (x9_1:Int) 99;(go_wp2_with (first|((with_reducible refine vJ (t:=3) (p:=41) rfl ?_);refine vr (t:=3) (p:=41) (v:= ?vo_w44) (w1:=(wr.setCell ⟨go37,(x9_1:Int).toNat,none⟩ (.int .i64 99))) ?hg ?ho ?hn ?hr ?_;(case ho=>rfl);(case hg=>rfl);(case hn=>rfl);(case hr=>exact sqG);intro w44 hw;have hg:wr.grownBy w44 (some go37):=(by rw [hw];exact HP43.2);have hp_:Kd.R (Kd.int .i64) 3 w44 w.heap.size (fun k_=>some k_≠(u702001:Value).ownBlock∧some k_≠(u713001:Value).ownBlock∧some k_≠(u718001:Value).ownBlock) (.slice (some ⟨go37,0,none⟩) x708001_1.length co42) y718:=(by rw [hw,Ny718.out];exact HP43.1);clear HP43;have q_:=f9 (Kd.jd (v:=(.slice (some ⟨go37,0,none⟩) x708001_1.length co42)) (v1:=(.slice (some ⟨go37,0,none⟩) x708001_1.length co42)) (ok:=(fun k_=>some k_≠(u713001:Value).ownBlock∧some k_≠(u718001:Value).ownBlock)) (by refine sqR ?_;exact Kd.zB HO_702001.out (fun _ hk=>⟨⟨hk.2.1,hk.2.2⟩,hk.1⟩)) hg (.inl rfl)) hp_ (Kd.jd (v:=(.slice (some ⟨go37,0,none⟩) x708001_1.length co42)) (v1:=(.slice (some ⟨go37,0,none⟩) x708001_1.length co42)) (ok:=(fun k_=>some k_≠(u702001:Value).ownBlock∧some k_≠(u718001:Value).ownBlock)) (by refine sqR ?_;exact Kd.zB HO_713001.out (fun _ hk=>⟨⟨hk.1,hk.2.2⟩,hk.2.1⟩)) hg (.inl rfl)) (Kd.jd (v:=(.slice (some ⟨go37,0,none⟩) x708001_1.length co42)) (v1:=(.slice (some ⟨go37,0,none⟩) x708001_1.length co42)) (ok:=(fun k_=>some k_≠(u702001:Value).ownBlock∧some k_≠(u713001:Value).ownBlock)) (by refine sqR ?_;exact Kd.zB HO_718001.out (fun _ hk=>⟨⟨hk.1,hk.2.2⟩,hk.2.1⟩)) hg (.inl rfl)) (qz (sqK BK701.out) hg (Kd.vV HO_708001.out BK701.out (by decide))) (qz (sqK BK707.out) hg (Kd.vV HO_708001.out BK707.out (by decide))) (qz (sqK BK712.out) hg (Kd.vV HO_708001.out BK712.out (by decide))) (qz (sqK BK717.out) hg (Kd.vV HO_708001.out BK717.out (by decide))) (by rw [hw];exact ze (HB.out) GB37.out:Below w.heap.size w w44);clear HO_702001 HO_708001 HO_713001 HO_718001 BK701 BK707 BK712 BK717 HB;obtain ⟨HO_702001,HO_708001,HO_713001,HO_718001,BK701,BK707,BK712,BK717,HB⟩:=q_;clear hg hw hp_)));(go_roundg k1);(case measure=>have:=HK1.out;omega);(case rel=>exact ⟨(wrap64 (x9_1+1)),(x702001_1),(y718),(x713001_1),(x718001_1),(u702001),(.slice (some ⟨go37,0,none⟩) x708001_1.length co42),(u713001),(u718001),(sqD),H',⟨by have:=HK1.out;omega⟩,⟨by refine sqR ?_;exact Kd.zB HO_702001.out (fun _ hk=>by first|exact ⟨hk.2,⟨hk.1.1,hk.1.2⟩⟩|(refine ⟨?_,?_,?_⟩<;>intro e_<;>simp only [e_,ne_eq,not_true_eq_false,and_false,false_and] at hk))⟩,⟨sqR HO_708001.out⟩,⟨by refine sqR ?_;exact Kd.zB HO_713001.out (fun _ hk=>by first|exact ⟨hk.1.1,⟨hk.2,hk.1.2⟩⟩|(refine ⟨?_,?_,?_⟩<;>intro e_<;>simp only [e_,ne_eq,not_true_eq_false,and_false,false_and] at hk))⟩,⟨by refine sqR ?_;exact Kd.zB HO_718001.out (fun _ hk=>by first|exact ⟨hk.1.1,⟨hk.2,hk.1.2⟩⟩|(refine ⟨?_,?_,?_⟩<;>intro e_<;>simp only [e_,ne_eq,not_true_eq_false,and_false,false_and] at hk))⟩,⟨sqK BK701.out⟩,⟨sqK BK707.out⟩,⟨sqK BK712.out⟩,⟨sqK BK717.out⟩,⟨sqB⟩⟩));(·rw [if_neg c36] at H;exact absurd H (by simp)));(·rw [if_neg c35] at H;have c35b0:decide (x9_1< (x708001_1.length:Int))=false:=decide_eq_false c35;clear c35;have H':=Aside0.mk H;clear H;have hnb45:=NB707_701.out;have hnc45:=NB701_707.out;have hnb46:=NB707_712.out;have hnc46:=NB712_707.out;have hnb47:=NB707_717.out;have hnc47:=NB717_707.out;obtain ⟨_,_,_,_⟩:=z2 BK707.out;obtain ⟨Ao49,co49,eo49⟩:=Kd.zG HO_708001.out;subst eo49;go_wp2;(go_loopg [10] k1 (fun kq v10 w'=> ∃(x10_2:Int) (x702001_2:List Int) (x708001_2:List Int) (x713001_2:List Int) (x718001_2:List Int) (u702001:Value) (u708001:Value) (u713001:Value) (u718001:Value),v10= .int .i64 x10_2∧Aside0 (zH.l1 kq t700 t702 x10_2 t696 x702001_2 t708 x713001_2 t713 x718001_2=some r)∧Aside0 (kq≤k1)∧Aside0 (Kd.R (Kd.int .i64) 3 w' w.heap.size (fun k_=>some k_≠(u708001:Value).ownBlock∧some k_≠(u713001:Value).ownBlock∧some k_≠(u718001:Value).ownBlock) u702001 x702001_2)∧Aside0 (Kd.R (Kd.int .i64) 3 w' w.heap.size (fun k_=>some k_≠(u702001:Value).ownBlock∧some k_≠(u713001:Value).ownBlock∧some k_≠(u718001:Value).ownBlock) u708001 x708001_2)∧Aside0 (Kd.R (Kd.int .i64) 3 w' w.heap.size (fun k_=>some k_≠(u702001:Value).ownBlock∧some k_≠(u708001:Value).ownBlock∧some k_≠(u718001:Value).ownBlock) u713001 x713001_2)∧Aside0 (Kd.R (Kd.int .i64) 3 w' w.heap.size (fun k_=>some k_≠(u702001:Value).ownBlock∧some k_≠(u708001:Value).ownBlock∧some k_≠(u713001:Value).ownBlock) u718001 x718001_2)∧Aside0 (w'.heap[gb701]? =some (.cells #[.int .i64 t696,u702001] 26 (0,0)))∧Aside0 (w'.heap[gb707]? =some (.cells #[.int .i64 t703,u708001] 26 (0,0)))∧Aside0 (w'.heap[gb712]? =some (.cells #[.int .i64 t708,u713001] 26 (0,0)))∧Aside0 (w'.heap[gb717]? =some (.cells #[.int .i64 t713,u718001] 26 (0,0)))∧Aside0 (Below w.heap.size w w')));(case atStart=>exact ⟨(0),(x702001_1),(x708001_1),(x713001_1),(x718001_1),(u702001),(.slice Ao49 x708001_1.length co49),(u713001),(u718001),(sqD),H',⟨Nat.le_refl _⟩,⟨sqR HO_702001.out⟩,⟨sqR HO_708001.out⟩,⟨sqR HO_713001.out⟩,⟨sqR HO_718001.out⟩,⟨sqK BK701.out⟩,⟨sqK BK707.out⟩,⟨sqK BK712.out⟩,⟨sqK BK717.out⟩,⟨sqB⟩⟩);(case round=>clear H';obtain ⟨x10_2,x702001_2,x708001_2,x713001_2,x718001_2,u702001,u708001,u713001,u718001,rfl,HA,HK2,HO_702001,HO_708001,HO_713001,HO_718001,BK701,BK707,BK712,BK717,HB⟩:=hrel;(cases gk with|zero=>exact absurd HA.out (by simp [zH.l1])|succ k2=>have H:=HA.out;clear HA;simp only [zH.l1] at H;by_cases c50:x10_2< (x713001_2.length:Int);(·rw [if_pos c50] at H;have c50b0:decide (x10_2< (x713001_2.length:Int))=true:=decide_eq_true c50;clear c50;by_cases c51:0≤x10_2;(·rw [if_pos c51] at H;have c51b0:decide (0≤x10_2)=true:=decide_eq_true c51;clear c51;obtain ⟨y719,hy719⟩: ∃y_:List Int,y_=(x713001_2.set (x10_2:Int).toNat 99):=⟨_,rfl⟩;(replace H:(zH.l1 k2 t700 t702 (wrap64 (x10_2+1)) t696 x702001_2 t708 y719 t713 x718001_2)=some r:=by first|(rw [hy719];with_reducible exact H)|(have H2_:=(Option.bind_some _ _).symm.trans H;rw [hy719];with_reducible exact H2_)|(have H2_:=(Option.bind_some _ _).symm.trans H;with_reducible exact H2_)|with_reducible exact H|(rw [hy719];exact H)|exact H);have Ny719:=Aside0.mk hy719;clear hy719;have H':=Aside0.mk H;clear H;have hnb53:=NB712_701.out;have hnc53:=NB701_712.out;have hnb54:=NB712_707.out;have hnc54:=NB707_712.out;have hnb55:=NB712_717.out;have hnc55:=NB717_712.out;obtain ⟨_,_,_,_⟩:=z2 BK712.out;obtain ⟨Ao57,co57,eo57⟩:=Kd.zG HO_713001.out;subst eo57;have p52:0≤(x10_2:Int):=of_decide_eq_true sqA;have q52:(x10_2:Int)< ((x713001_2.length:Int):Int):=of_decide_eq_true sqA;obtain ⟨go52,co52,eo52,gb52,gl52,cl52,HG52⟩:=Kd.QF HO_713001.out (by omega);(first|cases eo52|(injection eo52 with ea_ en_ ec_;(first|subst ea_|(injection ea_ with ea_;subst ea_));subst ec_;clear en_));(try simp only [add_plain] at*);have GB52:=Aside0.mk gb52;have GG52:=Aside0.mk HG52;clear gb52 gl52 HG52;obtain ⟨hx52_0,hf52_0⟩:=Kd.yZ 0 HO_713001.out (x10_2:Int) p52 q52;replace p52:=eq_true p52;replace q52:=eq_true q52;have HP58:=Kd.QA HO_713001.out (x10_2:Int) 99;(go_wp2_with (first|((with_reducible refine vJ (t:=3) (p:=52) rfl ?_);refine vr (t:=3) (p:=52) (v:= ?vo_w59) (w1:=(wr.setCell ⟨go52,(x10_2:Int).toNat,none⟩ (.int .i64 99))) ?hg ?ho ?hn ?hr ?_;(case ho=>rfl);(case hg=>rfl);(case hn=>rfl);(case hr=>exact sqG);intro w59 hw;have hg:wr.grownBy w59 (some go52):=(by rw [hw];exact HP58.2);have hp_:Kd.R (Kd.int .i64) 3 w59 w.heap.size (fun k_=>some k_≠(u702001:Value).ownBlock∧some k_≠(u708001:Value).ownBlock∧some k_≠(u718001:Value).ownBlock) (.slice (some ⟨go52,0,none⟩) x713001_2.length co57) y719:=(by rw [hw,Ny719.out];exact HP58.1);clear HP58;have q_:=f9 (Kd.jd (v:=(.slice (some ⟨go52,0,none⟩) x713001_2.length co57)) (v1:=(.slice (some ⟨go52,0,none⟩) x713001_2.length co57)) (ok:=(fun k_=>some k_≠(u708001:Value).ownBlock∧some k_≠(u718001:Value).ownBlock)) (by refine sqR ?_;exact Kd.zB HO_702001.out (fun _ hk=>⟨⟨hk.1,hk.2.2⟩,hk.2.1⟩)) hg (.inl rfl)) (Kd.jd (v:=(.slice (some ⟨go52,0,none⟩) x713001_2.length co57)) (v1:=(.slice (some ⟨go52,0,none⟩) x713001_2.length co57)) (ok:=(fun k_=>some k_≠(u702001:Value).ownBlock∧some k_≠(u718001:Value).ownBlock)) (by refine sqR ?_;exact Kd.zB HO_708001.out (fun _ hk=>⟨⟨hk.1,hk.2.2⟩,hk.2.1⟩)) hg (.inl rfl)) hp_ (Kd.jd (v:=(.slice (some ⟨go52,0,none⟩) x713001_2.length co57)) (v1:=(.slice (some ⟨go52,0,none⟩) x713001_2.length co57)) (ok:=(fun k_=>some k_≠(u702001:Value).ownBlock∧some k_≠(u708001:Value).ownBlock)) (by refine sqR ?_;exact Kd.zB HO_718001.out (fun _ hk=>⟨⟨hk.1,hk.2.1⟩,hk.2.2⟩)) hg (.inl rfl)) (qz (sqK BK701.out) hg (Kd.vV HO_713001.out BK701.out (by decide))) (qz (sqK BK707.out) hg (Kd.vV HO_713001.out BK707.out (by decide))) (qz (sqK BK712.out) hg (Kd.vV HO_713001.out BK712.out (by decide))) (qz (sqK BK717.out) hg (Kd.vV HO_713001.out BK717.out (by decide))) (by rw [hw];exact ze (HB.out) GB52.out:Below w.heap.size w w59);clear HO_702001 HO_708001 HO_713001 HO_718001 BK701 BK707 BK712 BK717 HB;obtain ⟨HO_702001,HO_708001,HO_713001,HO_718001,BK701,BK707,BK712,BK717,HB⟩:=q_;clear hg hw hp_)));(go_roundg k2);(case measure=>have:=HK1.out;have:=HK2.out;omega);(case rel=>exact ⟨(wrap64 (x10_2+1)),(x702001_2),(x708001_2),(y719),(x718001_2),(u702001),(u708001),(.slice (some ⟨go52,0,none⟩) x713001_2.length co57),(u718001),(sqD),H',⟨by have:=HK1.out;have:=HK2.out;omega⟩,⟨by refine sqR ?_;exact Kd.zB HO_702001.out (fun _ hk=>by first|exact ⟨hk.1.1,⟨hk.2,hk.1.2⟩⟩|(refine ⟨?_,?_,?_⟩<;>intro e_<;>simp only [e_,ne_eq,not_true_eq_false,and_false,false_and] at hk))⟩,⟨by refine sqR ?_;exact Kd.zB HO_708001.out (fun _ hk=>by first|exact ⟨hk.1.1,⟨hk.2,hk.1.2⟩⟩|(refine ⟨?_,?_,?_⟩<;>intro e_<;>simp only [e_,ne_eq,not_true_eq_false,and_false,false_and] at hk))⟩,⟨sqR HO_713001.out⟩,⟨by refine sqR ?_;exact Kd.zB HO_718001.out (fun _ hk=>by first|exact ⟨hk.1.1,⟨hk.1.2,hk.2⟩⟩|(refine ⟨?_,?_,?_⟩<;>intro e_<;>simp only [e_,ne_eq,not_true_eq_false,and_false,false_and] at hk))⟩,⟨sqK BK701.out⟩,⟨sqK BK707.out⟩,⟨sqK BK712.out⟩,⟨sqK BK717.out⟩,⟨sqB⟩⟩));(·rw [if_neg c51] at H;exact absurd H (by simp)));(·rw [if_neg c50] at H;have c50b0:decide (x10_2< (x713001_2.length:Int))=false:=decide_eq_false c50;clear c50;have H':=Aside0.mk H;clear H;have hnb60:=NB712_701.out;have hnc60:=NB701_712.out;have hnb61:=NB712_707.out;have hnc61:=NB707_712.out;have hnb62:=NB712_717.out;have hnc62:=NB717_712.out;obtain ⟨_,_,_,_⟩:=z2 BK712.out;obtain ⟨Ao64,co64,eo64⟩:=Kd.zG HO_713001.out;subst eo64;go_wp2;(go_loopg [11] k2 (fun kq v11 w'=> ∃(x11_3:Int) (x702001_3:List Int) (x708001_3:List Int) (x713001_3:List Int) (x718001_3:List Int) (u702001:Value) (u708001:Value) (u713001:Value) (u718001:Value),v11= .int .i64 x11_3∧Aside0 (zH.l2 kq t700 t702 x11_3 t696 x702001_3 t713 x718001_3=some r)∧Aside0 (kq≤k2)∧Aside0 (Kd.R (Kd.int .i64) 3 w' w.heap.size (fun k_=>some k_≠(u708001:Value).ownBlock∧some k_≠(u713001:Value).ownBlock∧some k_≠(u718001:Value).ownBlock) u702001 x702001_3)∧Aside0 (Kd.R (Kd.int .i64) 3 w' w.heap.size (fun k_=>some k_≠(u702001:Value).ownBlock∧some k_≠(u713001:Value).ownBlock∧some k_≠(u718001:Value).ownBlock) u708001 x708001_3)∧Aside0 (Kd.R (Kd.int .i64) 3 w' w.heap.size (fun k_=>some k_≠(u702001:Value).ownBlock∧some k_≠(u708001:Value).ownBlock∧some k_≠(u718001:Value).ownBlock) u713001 x713001_3)∧Aside0 (Kd.R (Kd.int .i64) 3 w' w.heap.size (fun k_=>some k_≠(u702001:Value).ownBlock∧some k_≠(u708001:Value).ownBlock∧some k_≠(u713001:Value).ownBlock) u718001 x718001_3)∧Aside0 (w'.heap[gb701]? =some (.cells #[.int .i64 t696,u702001] 26 (0,0)))∧Aside0 (w'.heap[gb707]? =some (.cells #[.int .i64 t703,u708001] 26 (0,0)))∧Aside0 (w'.heap[gb712]? =some (.cells #[.int .i64 t708,u713001] 26 (0,0)))∧Aside0 (w'.heap[gb717]? =some (.cells #[.int .i64 t713,u718001] 26 (0,0)))∧Aside0 (Below w.heap.size w w')));(case atStart=>exact ⟨(0),(x702001_2),(x708001_2),(x713001_2),(x718001_2),(u702001),(u708001),(.slice Ao64 x713001_2.length co64),(u718001),(sqD),H',⟨Nat.le_refl _⟩,⟨sqR HO_702001.out⟩,⟨sqR HO_708001.out⟩,⟨sqR HO_713001.out⟩,⟨sqR HO_718001.out⟩,⟨sqK BK701.out⟩,⟨sqK BK707.out⟩,⟨sqK BK712.out⟩,⟨sqK BK717.out⟩,⟨sqB⟩⟩);(case round=>clear H';obtain ⟨x11_3,x702001_3,x708001_3,x713001_3,x718001_3,u702001,u708001,u713001,u718001,rfl,HA,HK3,HO_702001,HO_708001,HO_713001,HO_718001,BK701,BK707,BK712,BK717,HB⟩:=hrel;(cases gk with|zero=>exact absurd HA.out (by simp [zH.l2])|succ k3=>have H:=HA.out;clear HA;simp only [zH.l2] at H;by_cases c65:x11_3< (x718001_3.length:Int);(·rw [if_pos c65] at H;have c65b0:decide (x11_3< (x718001_3.length:Int))=true:=decide_eq_true c65;clear c65;by_cases c66:0≤x11_3;(·rw [if_pos c66] at H;have c66b0:decide (0≤x11_3)=true:=decide_eq_true c66;clear c66;obtain ⟨y720,hy720⟩: ∃y_:List Int,y_=(x718001_3.set (x11_3:Int).toNat 99):=⟨_,rfl⟩;(replace H:(zH.l2 k3 t700 t702 (wrap64 (x11_3+1)) t696 x702001_3 t713 y720)=some r:=by first|(rw [hy720];with_reducible exact H)|(have H2_:=(Option.bind_some _ _).symm.trans H;rw [hy720];with_reducible exact H2_)|(have H2_:=(Option.bind_some _ _).symm.trans H;with_reducible exact H2_)|with_reducible exact H|(rw [hy720];exact H)|exact H);have Ny720:=Aside0.mk hy720;clear hy720;have H':=Aside0.mk H;clear H;have hnb68:=NB717_701.out;have hnc68:=NB701_717.out;have hnb69:=NB717_707.out;have hnc69:=NB707_717.out;have hnb70:=NB717_712.out;have hnc70:=NB712_717.out;obtain ⟨_,_,_,_⟩:=z2 BK717.out;obtain ⟨Ao72,co72,eo72⟩:=Kd.zG HO_718001.out;subst eo72;have p67:0≤(x11_3:Int):=of_decide_eq_true sqA;have q67:(x11_3:Int)< ((x718001_3.length:Int):Int):=of_decide_eq_true sqA;obtain ⟨go67,co67,eo67,gb67,gl67,cl67,HG67⟩:=Kd.QF HO_718001.out (by omega);(first|cases eo67|(injection eo67 with ea_ en_ ec_;(first|subst ea_|(injection ea_ with ea_;subst ea_));subst ec_;clear en_));(try simp only [add_plain] at*);have GB67:=Aside0.mk gb67;have GG67:=Aside0.mk HG67;clear gb67 gl67 HG67;obtain ⟨hx67_0,hf67_0⟩:=Kd.yZ 0 HO_718001.out (x11_3:Int) p67 q67;replace p67:=eq_true p67;replace q67:=eq_true q67;have HP73:=Kd.QA HO_718001.out (x11_3:Int) 99;(go_wp2_with (first|((with_reducible refine vJ (t:=3) (p:=63) rfl ?_);refine vr (t:=3) (p:=63) (v:= ?vo_w74) (w1:=(wr.setCell ⟨go67,(x11_3:Int).toNat,none⟩ (.int .i64 99))) ?hg ?ho ?hn ?hr ?_;(case ho=>rfl);(case hg=>rfl);(case hn=>rfl);(case hr=>exact sqG);intro w74 hw;have hg:wr.grownBy w74 (some go67):=(by rw [hw];exact HP73.2);have hp_:Kd.R (Kd.int .i64) 3 w74 w.heap.size (fun k_=>some k_≠(u702001:Value).ownBlock∧some k_≠(u708001:Value).ownBlock∧some k_≠(u713001:Value).ownBlock) (.slice (some ⟨go67,0,none⟩) x718001_3.length co72) y720:=(by rw [hw,Ny720.out];exact HP73.1);clear HP73;have q_:=f9 (Kd.jd (v:=(.slice (some ⟨go67,0,none⟩) x718001_3.length co72)) (v1:=(.slice (some ⟨go67,0,none⟩) x718001_3.length co72)) (ok:=(fun k_=>some k_≠(u708001:Value).ownBlock∧some k_≠(u713001:Value).ownBlock)) (by refine sqR ?_;exact Kd.zB HO_702001.out (fun _ hk=>⟨⟨hk.1,hk.2.1⟩,hk.2.2⟩)) hg (.inl rfl)) (Kd.jd (v:=(.slice (some ⟨go67,0,none⟩) x718001_3.length co72)) (v1:=(.slice (some ⟨go67,0,none⟩) x718001_3.length co72)) (ok:=(fun k_=>some k_≠(u702001:Value).ownBlock∧some k_≠(u713001:Value).ownBlock)) (by refine sqR ?_;exact Kd.zB HO_708001.out (fun _ hk=>⟨⟨hk.1,hk.2.1⟩,hk.2.2⟩)) hg (.inl rfl)) (Kd.jd (v:=(.slice (some ⟨go67,0,none⟩) x718001_3.length co72)) (v1:=(.slice (some ⟨go67,0,none⟩) x718001_3.length co72)) (ok:=(fun k_=>some k_≠(u702001:Value).ownBlock∧some k_≠(u708001:Value).ownBlock)) (by refine sqR ?_;exact Kd.zB HO_713001.out (fun _ hk=>⟨⟨hk.1,hk.2.1⟩,hk.2.2⟩)) hg (.inl rfl)) hp_ (qz (sqK BK701.out) hg (Kd.vV HO_718001.out BK701.out (by decide))) (qz (sqK BK707.out) hg (Kd.vV HO_718001.out BK707.out (by decide))) (qz (sqK BK712.out) hg (Kd.vV HO_718001.out BK712.out (by decide))) (qz (sqK BK717.out) hg (Kd.vV HO_718001.out BK717.out (by decide))) (by rw [hw];exact ze (HB.out) GB67.out:Below w.heap.size w w74);clear HO_702001 HO_708001 HO_713001 HO_718001 BK701 BK707 BK712 BK717 HB;obtain ⟨HO_702001,HO_708001,HO_713001,HO_718001,BK701,BK707,BK712,BK717,HB⟩:=q_;clear hg hw hp_)));(go_roundg k3);(case measure=>have:=HK1.out;have:=HK2.out;have:=HK3.out;omega);(case rel=>exact ⟨(wrap64 (x11_3+1)),(x702001_3),(x708001_3),(x713001_3),(y720),(u702001),(u708001),(u713001),(.slice (some ⟨go67,0,none⟩) x718001_3.length co72),(sqD),H',⟨by have:=HK1.out;have:=HK2.out;have:=HK3.out;omega⟩,⟨by refine sqR ?_;exact Kd.zB HO_702001.out (fun _ hk=>by first|exact ⟨hk.1.1,⟨hk.1.2,hk.2⟩⟩|(refine ⟨?_,?_,?_⟩<;>intro e_<;>simp only [e_,ne_eq,not_true_eq_false,and_false,false_and] at hk))⟩,⟨by refine sqR ?_;exact Kd.zB HO_708001.out (fun _ hk=>by first|exact ⟨hk.1.1,⟨hk.1.2,hk.2⟩⟩|(refine ⟨?_,?_,?_⟩<;>intro e_<;>simp only [e_,ne_eq,not_true_eq_false,and_false,false_and] at hk))⟩,⟨by refine sqR ?_;exact Kd.zB HO_713001.out (fun _ hk=>by first|exact ⟨hk.1.1,⟨hk.1.2,hk.2⟩⟩|(refine ⟨?_,?_,?_⟩<;>intro e_<;>simp only [e_,ne_eq,not_true_eq_false,and_false,false_and] at hk))⟩,⟨sqR HO_718001.out⟩,⟨sqK BK701.out⟩,⟨sqK BK707.out⟩,⟨sqK BK712.out⟩,⟨sqK BK717.out⟩,⟨sqB⟩⟩));(·rw [if_neg c66] at H;exact absurd H (by simp)));(·rw [if_neg c65] at H;have c65b0:decide (x11_3< (x718001_3.length:Int))=false:=decide_eq_false c65;clear c65;replace H:=zF H;obtain ⟨t721,A75,H⟩:=H;have H':=Aside0.mk H;clear H;have hnb76:=NB717_701.out;have hnc76:=NB701_717.out;have hnb77:=NB717_707.out;have hnc77:=NB707_717.out;have hnb78:=NB717_712.out;have hnc78:=NB712_717.out;obtain ⟨_,_,_,_⟩:=z2 BK717.out;obtain ⟨Ao80,co80,eo80⟩:=Kd.zG HO_718001.out;subst eo80;have hnb81:=NB701_707.out;have hnc81:=NB707_701.out;have hnb82:=NB701_712.out;have hnc82:=NB712_701.out;obtain ⟨_,_,_,_⟩:=z2 BK701.out;obtain ⟨Ao84,co84,eo84⟩:=Kd.zG HO_702001.out;subst eo84;(go_wp2_with (first|((with_reducible refine zb (f:=11) rfl ?_);refine zm (some 66) rfl rfl Tryz.func11 (by kernel_rfl) rfl #[.slice Ao84 x702001_3.length co84] rfl sqM ?_;(with_reducible refine (jt.calls k3 _ _ x702001_3 t721 _ ?side1 ?side2 A75.out).mono ?_);(case side1=>exact sqC (Kd.zx HO_702001.out).2.2);(case side2=>exact (Kd.zx HO_702001.out).2.1);rintro e w85 ⟨v722,rfl,ho0,hb⟩;refine ⟨_,rfl,?_⟩;have q_:=f10 (Kd.zY (sqR HO_702001.out) (Kd.qx ho0) hb) (Kd.zY (sqR HO_708001.out) (Kd.qx ho0) hb) (Kd.zY (sqR HO_713001.out) (Kd.qx ho0) hb) (Kd.zY (sqR HO_718001.out) (Kd.qx ho0) hb) (Kd.zJ (Kd.qy (Kd.qy (Kd.qy (Kd.qy ho0 (Kd.jo (sqR HO_702001.out))) (Kd.jo (sqR HO_708001.out))) (Kd.jo (sqR HO_713001.out))) (Kd.jo (sqR HO_718001.out))) (zp sqB)) (zh (sqK BK701.out) hb) (zh (sqK BK707.out) hb) (zh (sqK BK712.out) hb) (zh (sqK BK717.out) hb) (zd sqB hb);clear HO_702001 HO_708001 HO_713001 HO_718001 BK701 BK707 BK712 BK717 HB;obtain ⟨HO_702001,HO_708001,HO_713001,HO_718001,HO723,BK701,BK707,BK712,BK717,HB⟩:=q_)));(go_loopg [13] k3 (fun kq v13 w'=> ∃(x12_4:List Int) (x13_4:Int),v13= .int .i64 x13_4∧Aside0 (zH.l3 kq t700 t702 x12_4 x13_4 t696 x702001_3=some r)∧Aside0 (kq≤k3)∧Aside0 (Kd.R (Kd.int .i64) 3 w' w.heap.size (fun k_=>some k_≠((.slice Ao84 x702001_3.length co84):Value).ownBlock∧some k_≠(u708001:Value).ownBlock∧some k_≠(u713001:Value).ownBlock∧some k_≠((.slice Ao80 x718001_3.length co80):Value).ownBlock) v722 x12_4)∧Aside0 (Kd.R (Kd.int .i64) 3 w' w.heap.size (fun k_=>some k_≠(v722:Value).ownBlock∧some k_≠(u708001:Value).ownBlock∧some k_≠(u713001:Value).ownBlock∧some k_≠((.slice Ao80 x718001_3.length co80):Value).ownBlock) (.slice Ao84 x702001_3.length co84) x702001_3)∧Aside0 (Kd.R (Kd.int .i64) 3 w' w.heap.size (fun k_=>some k_≠(v722:Value).ownBlock∧some k_≠((.slice Ao84 x702001_3.length co84):Value).ownBlock∧some k_≠(u713001:Value).ownBlock∧some k_≠((.slice Ao80 x718001_3.length co80):Value).ownBlock) u708001 x708001_3)∧Aside0 (Kd.R (Kd.int .i64) 3 w' w.heap.size (fun k_=>some k_≠(v722:Value).ownBlock∧some k_≠((.slice Ao84 x702001_3.length co84):Value).ownBlock∧some k_≠(u708001:Value).ownBlock∧some k_≠((.slice Ao80 x718001_3.length co80):Value).ownBlock) u713001 x713001_3)∧Aside0 (Kd.R (Kd.int .i64) 3 w' w.heap.size (fun k_=>some k_≠(v722:Value).ownBlock∧some k_≠((.slice Ao84 x702001_3.length co84):Value).ownBlock∧some k_≠(u708001:Value).ownBlock∧some k_≠(u713001:Value).ownBlock) (.slice Ao80 x718001_3.length co80) x718001_3)∧Aside0 (w'.heap[gb701]? =some (.cells #[.int .i64 t696,(.slice Ao84 x702001_3.length co84)] 26 (0,0)))∧Aside0 (w'.heap[gb707]? =some (.cells #[.int .i64 t703,u708001] 26 (0,0)))∧Aside0 (w'.heap[gb712]? =some (.cells #[.int .i64 t708,u713001] 26 (0,0)))∧Aside0 (w'.heap[gb717]? =some (.cells #[.int .i64 t713,(.slice Ao80 x718001_3.length co80)] 26 (0,0)))∧Aside0 (Below w.heap.size w w')));(case atStart=>exact ⟨(t721),(0),(sqD),H',⟨Nat.le_refl _⟩,⟨by refine sqR ?_;exact Kd.zB HO723.out (fun _ hk=>⟨hk.1.1.1.2,⟨hk.1.1.2,⟨hk.1.2,hk.2⟩⟩⟩)⟩,⟨by refine sqR ?_;exact Kd.zB HO_702001.out (fun _ hk=>⟨hk.2,⟨hk.1.1,⟨hk.1.2.1,hk.1.2.2⟩⟩⟩)⟩,⟨by refine sqR ?_;exact Kd.zB HO_708001.out (fun _ hk=>⟨hk.2,⟨hk.1.1,⟨hk.1.2.1,hk.1.2.2⟩⟩⟩)⟩,⟨by refine sqR ?_;exact Kd.zB HO_713001.out (fun _ hk=>⟨hk.2,⟨hk.1.1,⟨hk.1.2.1,hk.1.2.2⟩⟩⟩)⟩,⟨by refine sqR ?_;exact Kd.zB HO_718001.out (fun _ hk=>⟨hk.2,⟨hk.1.1,⟨hk.1.2.1,hk.1.2.2⟩⟩⟩)⟩,⟨sqK BK701.out⟩,⟨sqK BK707.out⟩,⟨sqK BK712.out⟩,⟨sqK BK717.out⟩,⟨sqB⟩⟩);(case round=>clear H';obtain ⟨x12_4,x13_4,rfl,HA,HK4,HO_12,HO_702001,HO_708001,HO_713001,HO_718001,BK701,BK707,BK712,BK717,HB⟩:=hrel;(cases gk with|zero=>exact absurd HA.out (by simp [zH.l3])|succ k4=>have H:=HA.out;clear HA;simp only [zH.l3] at H;by_cases c86:x13_4< (x12_4.length:Int);(·rw [if_pos c86] at H;have c86b0:decide (x13_4< (x12_4.length:Int))=true:=decide_eq_true c86;clear c86;by_cases c87:0≤x13_4;(·rw [if_pos c87] at H;have c87b0:decide (0≤x13_4)=true:=decide_eq_true c87;clear c87;obtain ⟨y724,hy724⟩: ∃y_:List Int,y_=(x12_4.set (x13_4:Int).toNat 99):=⟨_,rfl⟩;(replace H:(zH.l3 k4 t700 t702 y724 (wrap64 (x13_4+1)) t696 x702001_3)=some r:=by first|(rw [hy724];with_reducible exact H)|(have H2_:=(Option.bind_some _ _).symm.trans H;rw [hy724];with_reducible exact H2_)|(have H2_:=(Option.bind_some _ _).symm.trans H;with_reducible exact H2_)|with_reducible exact H|(rw [hy724];exact H)|exact H);have Ny724:=Aside0.mk hy724;clear hy724;have H':=Aside0.mk H;clear H;obtain ⟨Ao89,co89,eo89⟩:=Kd.zG HO_12.out;subst eo89;have p88:0≤(x13_4:Int):=of_decide_eq_true sqA;have q88:(x13_4:Int)< ((x12_4.length:Int):Int):=of_decide_eq_true sqA;obtain ⟨go88,co88,eo88,gb88,gl88,cl88,HG88⟩:=Kd.QF HO_12.out (by omega);(first|cases eo88|(injection eo88 with ea_ en_ ec_;(first|subst ea_|(injection ea_ with ea_;subst ea_));subst ec_;clear en_));(try simp only [add_plain] at*);have GB88:=Aside0.mk gb88;have GG88:=Aside0.mk HG88;clear gb88 gl88 HG88;obtain ⟨hx88_0,hf88_0⟩:=Kd.yZ 0 HO_12.out (x13_4:Int) p88 q88;replace p88:=eq_true p88;replace q88:=eq_true q88;have HP90:=Kd.QA HO_12.out (x13_4:Int) 99;(go_wp2_with (first|((with_reducible refine vJ (t:=3) (p:=75) rfl ?_);refine vr (t:=3) (p:=75) (v:= ?vo_w91) (w1:=(wr.setCell ⟨go88,(x13_4:Int).toNat,none⟩ (.int .i64 99))) ?hg ?ho ?hn ?hr ?_;(case ho=>rfl);(case hg=>rfl);(case hn=>rfl);(case hr=>exact sqG);intro w91 hw;have hg:wr.grownBy w91 (some go88):=(by rw [hw];exact HP90.2);have hp_:Kd.R (Kd.int .i64) 3 w91 w.heap.size (fun k_=>some k_≠(.slice Ao84 x702001_3.length co84:Value).ownBlock∧some k_≠(u708001:Value).ownBlock∧some k_≠(u713001:Value).ownBlock∧some k_≠(.slice Ao80 x718001_3.length co80:Value).ownBlock) (.slice (some ⟨go88,0,none⟩) x12_4.length co89) y724:=(by rw [hw,Ny724.out];exact HP90.1);clear HP90;have q_:=f10 hp_ (Kd.jd (v:=(.slice (some ⟨go88,0,none⟩) x12_4.length co89)) (v1:=(.slice (some ⟨go88,0,none⟩) x12_4.length co89)) (ok:=(fun k_=>some k_≠(u708001:Value).ownBlock∧some k_≠(u713001:Value).ownBlock∧some k_≠(.slice Ao80 x718001_3.length co80:Value).ownBlock)) (by refine sqR ?_;exact Kd.zB HO_702001.out (fun _ hk=>⟨⟨hk.2.1,⟨hk.2.2.1,hk.2.2.2⟩⟩,hk.1⟩)) hg (.inl rfl)) (Kd.jd (v:=(.slice (some ⟨go88,0,none⟩) x12_4.length co89)) (v1:=(.slice (some ⟨go88,0,none⟩) x12_4.length co89)) (ok:=(fun k_=>some k_≠(.slice Ao84 x702001_3.length co84:Value).ownBlock∧some k_≠(u713001:Value).ownBlock∧some k_≠(.slice Ao80 x718001_3.length co80:Value).ownBlock)) (by refine sqR ?_;exact Kd.zB HO_708001.out (fun _ hk=>⟨⟨hk.2.1,⟨hk.2.2.1,hk.2.2.2⟩⟩,hk.1⟩)) hg (.inl rfl)) (Kd.jd (v:=(.slice (some ⟨go88,0,none⟩) x12_4.length co89)) (v1:=(.slice (some ⟨go88,0,none⟩) x12_4.length co89)) (ok:=(fun k_=>some k_≠(.slice Ao84 x702001_3.length co84:Value).ownBlock∧some k_≠(u708001:Value).ownBlock∧some k_≠(.slice Ao80 x718001_3.length co80:Value).ownBlock)) (by refine sqR ?_;exact Kd.zB HO_713001.out (fun _ hk=>⟨⟨hk.2.1,⟨hk.2.2.1,hk.2.2.2⟩⟩,hk.1⟩)) hg (.inl rfl)) (Kd.jd (v:=(.slice (some ⟨go88,0,none⟩) x12_4.length co89)) (v1:=(.slice (some ⟨go88,0,none⟩) x12_4.length co89)) (ok:=(fun k_=>some k_≠(.slice Ao84 x702001_3.length co84:Value).ownBlock∧some k_≠(u708001:Value).ownBlock∧some k_≠(u713001:Value).ownBlock)) (by refine sqR ?_;exact Kd.zB HO_718001.out (fun _ hk=>⟨⟨hk.2.1,⟨hk.2.2.1,hk.2.2.2⟩⟩,hk.1⟩)) hg (.inl rfl)) (qz (sqK BK701.out) hg (Kd.vV HO_12.out BK701.out (by decide))) (qz (sqK BK707.out) hg (Kd.vV HO_12.out BK707.out (by decide))) (qz (sqK BK712.out) hg (Kd.vV HO_12.out BK712.out (by decide))) (qz (sqK BK717.out) hg (Kd.vV HO_12.out BK717.out (by decide))) (by rw [hw];exact ze (HB.out) GB88.out:Below w.heap.size w w91);clear HO_12 HO_702001 HO_708001 HO_713001 HO_718001 BK701 BK707 BK712 BK717 HB;obtain ⟨HO_12,HO_702001,HO_708001,HO_713001,HO_718001,BK701,BK707,BK712,BK717,HB⟩:=q_;clear hg hw hp_)));(go_roundg k4);(case measure=>have:=HK1.out;have:=HK2.out;have:=HK3.out;have:=HK4.out;omega);(case rel=>exact ⟨(y724),(wrap64 (x13_4+1)),(sqD),H',⟨by have:=HK1.out;have:=HK2.out;have:=HK3.out;have:=HK4.out;omega⟩,⟨sqR HO_12.out⟩,⟨by refine sqR ?_;exact Kd.zB HO_702001.out (fun _ hk=>⟨hk.2,⟨hk.1.1,⟨hk.1.2.1,hk.1.2.2⟩⟩⟩)⟩,⟨by refine sqR ?_;exact Kd.zB HO_708001.out (fun _ hk=>⟨hk.2,⟨hk.1.1,⟨hk.1.2.1,hk.1.2.2⟩⟩⟩)⟩,⟨by refine sqR ?_;exact Kd.zB HO_713001.out (fun _ hk=>⟨hk.2,⟨hk.1.1,⟨hk.1.2.1,hk.1.2.2⟩⟩⟩)⟩,⟨by refine sqR ?_;exact Kd.zB HO_718001.out (fun _ hk=>⟨hk.2,⟨hk.1.1,⟨hk.1.2.1,hk.1.2.2⟩⟩⟩)⟩,⟨sqK BK701.out⟩,⟨sqK BK707.out⟩,⟨sqK BK712.out⟩,⟨sqK BK717.out⟩,⟨sqB⟩⟩));(·rw [if_neg c87] at H;exact absurd H (by simp)));(·rw [if_neg c86] at H;have c86b0:decide (x13_4< (x12_4.length:Int))=false:=decide_eq_false c86;clear c86;replace H:=zF H;obtain ⟨t725,A92,H⟩:=H;by_cases c93:t725.toList=t702.toList;(·rw [if_pos c93] at H;have c93b0:(t725.toList==t702.toList)=true:=beq_iff_eq.mpr c93;have c93b1:(t725.toList != t702.toList)=false:=bne_eq_false_iff_eq.mpr c93;clear c93;replace H:=zF H;obtain ⟨⟨t726,t727⟩,A94,H⟩:=H;(try dsimp only at H);replace H:=zF H;obtain ⟨⟨t730,t731⟩,A95,H⟩:=H;(try dsimp only at H);replace H:=zF H;obtain ⟨t734,A96,H⟩:=H;by_cases c97:t734=true;(·subst c97;rw [if_pos rfl] at H;replace H:=zF H;obtain ⟨⟨t735,t736⟩,A98,H⟩:=H;(try dsimp only at H);replace H:=zF H;obtain ⟨⟨t739,t740⟩,A99,H⟩:=H;(try dsimp only at H);replace H:=zF H;obtain ⟨t743,A100,H⟩:=H;obtain rfl:=Option.some.inj H;obtain ⟨Ao101,co101,eo101⟩:=Kd.zG HO_12.out;subst eo101;(try go_wp2);have q_:=f10 (Kd.jV HO_12.out) (Kd.jV HO_702001.out) (Kd.jV HO_708001.out) (Kd.jV HO_713001.out) (Kd.jV HO_718001.out) (qR BK701.out) (qR BK707.out) (qR BK712.out) (qR BK717.out) (zg HB.out);clear HO_12 HO_702001 HO_708001 HO_713001 HO_718001 BK701 BK707 BK712 BK717 HB;obtain ⟨HO_12,HO_702001,HO_708001,HO_713001,HO_718001,BK701,BK707,BK712,BK717,HB⟩:=q_;refine vm (n:=21) (S:=fun w'=>w'.cell? ⟨gb701,0,none⟩=some (.int .i64 t696)∧w'.cell? ⟨gb701,1,none⟩=some (.slice Ao84 x702001_3.length co84)) (ds:=[]) #[false,false,false,false,false,false,false,false,false,false,false,false,false,false,false,false,false,false,false,false,false] (by kernel_rfl) rfl rfl tH (fun hHeld=> ?_);refine jc zH.zaM zH.Ys (fun HT_ HW_=> ?_);generalize wr.drew=w102 at HO_12 HO_702001 HO_708001 HO_713001 HO_718001 BK701 BK707 BK712 BK717 HB hHeld ⊢;refine tP 2 (some 78) (h:= ?_);refine tT 0 (some 76) (h:= ?_);refine tO 1 (some 77) (h:=fun K hK=> ?_);refine vM Tryz.func7 (by kernel_rfl) rfl #[.agg #[.int .i64 t696,.slice Ao84 x702001_3.length co84]] (by rfl) rfl rfl sqM ?_;(with_reducible refine (zW.calls k4 t696 _ _ x702001_3 t725 _ ?side1 ?side2 A92.out).mono ?_);(case side1=>exact sqC (Kd.zx HO_702001.out).2.2);(case side2=>exact (Kd.zx HO_702001.out).2.1);rintro e w103 ⟨rfl,hb⟩;refine ⟨_,rfl,?_⟩;have q_:=f10 (Kd.zK (sqR HO_12.out) hb) (Kd.zK (sqR HO_702001.out) hb) (Kd.zK (sqR HO_708001.out) hb) (Kd.zK (sqR HO_713001.out) hb) (Kd.zK (sqR HO_718001.out) hb) (zh (sqK BK701.out) hb) (zh (sqK BK707.out) hb) (zh (sqK BK712.out) hb) (zh (sqK BK717.out) hb) (zd sqB hb);clear HO_12 HO_702001 HO_708001 HO_713001 HO_718001 BK701 BK707 BK712 BK717 HB;obtain ⟨HO_12,HO_702001,HO_708001,HO_713001,HO_718001,BK701,BK707,BK712,BK717,HB⟩:=q_;refine hK.out _ _ tH (fun hHeld=> ?_);clear hK K;refine tN (h:= ?_);refine tP 3 (some 79) (h:= ?_);refine tP 4 (some 80) (h:= ?_);refine tP 6 (some 82) (h:= ?_);refine tP 9 (some 85) (h:= ?_);refine tT 5 (some 81) (h:= ?_);refine tT 8 (some 84) (h:= ?_);refine tO 7 (some 83) (h:=fun K hK=> ?_);refine vM Tryz.func8 (by kernel_rfl) rfl #[.agg #[.int .i64 t696,.slice Ao84 x702001_3.length co84],.int .i64 t700] (by rfl) rfl rfl sqM ?_;(with_reducible refine (qE.calls k4 t696 _ _ x702001_3 t700 t726 t727 _ ?side1 ?side2 A94.out).mono ?_);(case side1=>exact sqC (Kd.zx HO_702001.out).2.2);(case side2=>exact (Kd.zx HO_702001.out).2.1);rintro e w104 ⟨v728,rfl,ho0,hb⟩;refine ⟨_,rfl,?_⟩;have q_:=f11 (Kd.zY (sqR HO_12.out) (Kd.qx ho0) hb) (Kd.zY (sqR HO_702001.out) (Kd.qx ho0) hb) (Kd.zY (sqR HO_708001.out) (Kd.qx ho0) hb) (Kd.zY (sqR HO_713001.out) (Kd.qx ho0) hb) (Kd.zY (sqR HO_718001.out) (Kd.qx ho0) hb) (Kd.zJ (Kd.qy (Kd.qy (Kd.qy (Kd.qy (Kd.qy ho0 (Kd.jo (sqR HO_12.out))) (Kd.jo (sqR HO_702001.out))) (Kd.jo (sqR HO_708001.out))) (Kd.jo (sqR HO_713001.out))) (Kd.jo (sqR HO_718001.out))) (zp sqB)) (zh (sqK BK701.out) hb) (zh (sqK BK707.out) hb) (zh (sqK BK712.out) hb) (zh (sqK BK717.out) hb) (zd sqB hb);clear HO_12 HO_702001 HO_708001 HO_713001 HO_718001 BK701 BK707 BK712 BK717 HB;obtain ⟨HO_12,HO_702001,HO_708001,HO_713001,HO_718001,HO729,BK701,BK707,BK712,BK717,HB⟩:=q_;refine hK.out _ _ tH (fun hHeld=> ?_);clear hK K;refine tN (h:= ?_);refine tO 10 (some 86) (h:=fun K hK=> ?_);refine vM Tryz.func13 (by kernel_rfl) rfl #[.agg #[.int .i64 t696,.slice Ao84 x702001_3.length co84],.int .i64 t700] (by rfl) rfl rfl sqM ?_;(with_reducible refine (jF.calls k4 t696 _ _ x702001_3 t700 t730 t731 _ ?side1 ?side2 A95.out).mono ?_);(case side1=>exact sqC (Kd.zx HO_702001.out).2.2);(case side2=>exact (Kd.zx HO_702001.out).2.1);rintro e w105 ⟨v732,rfl,ho0,hb⟩;refine ⟨_,rfl,?_⟩;have q_:=f12 (Kd.zY (sqR HO_12.out) (Kd.qx ho0) hb) (Kd.zY (sqR HO_702001.out) (Kd.qx ho0) hb) (Kd.zY (sqR HO_708001.out) (Kd.qx ho0) hb) (Kd.zY (sqR HO_713001.out) (Kd.qx ho0) hb) (Kd.zY (sqR HO_718001.out) (Kd.qx ho0) hb) (Kd.zY (sqR HO729.out) (Kd.qx ho0) hb) (Kd.zJ (Kd.qy (Kd.qy (Kd.qy (Kd.qy (Kd.qy (Kd.qy ho0 (Kd.jo (sqR HO_12.out))) (Kd.jo (sqR HO_702001.out))) (Kd.jo (sqR HO_708001.out))) (Kd.jo (sqR HO_713001.out))) (Kd.jo (sqR HO_718001.out))) (Kd.jo (sqR HO729.out))) (zp sqB)) (zh (sqK BK701.out) hb) (zh (sqK BK707.out) hb) (zh (sqK BK712.out) hb) (zh (sqK BK717.out) hb) (zd sqB hb);clear HO_12 HO_702001 HO_708001 HO_713001 HO_718001 HO729 BK701 BK707 BK712 BK717 HB;obtain ⟨HO_12,HO_702001,HO_708001,HO_713001,HO_718001,HO729,HO733,BK701,BK707,BK712,BK717,HB⟩:=q_;obtain ⟨Ao106,co106,eo106⟩:=Kd.zG HO729.out;(first|subst eo106|(injection eo106 with f1_ f2_ f3_;have f4_:=f1_.symm;have f5_:=f3_.symm;clear f1_ f2_ f3_;subst f4_;subst f5_));obtain ⟨Ao107,co107,eo107⟩:=Kd.zG HO733.out;(first|subst eo107|(injection eo107 with f1_ f2_ f3_;have f4_:=f1_.symm;have f5_:=f3_.symm;clear f1_ f2_ f3_;subst f4_;subst f5_));refine hK.out _ _ tH (fun hHeld=> ?_);clear hK K;refine tN (h:= ?_);refine tO 11 (some 87) (h:=fun K hK=> ?_);refine vM Tryz.func12 (by kernel_rfl) rfl #[.agg #[.int .i64 t726,.slice Ao106 t727.length co106],.agg #[.int .i64 t730,.slice Ao107 t731.length co107]] (by rfl) rfl rfl sqM ?_;(with_reducible refine (zN.calls k4 t726 _ _ t727 t730 _ _ t731 true _ ?side1 ?side2 ?side3 ?side4 A96.out).mono ?_);(case side1=>exact sqC (Kd.zx HO729.out).2.2);(case side2=>exact (Kd.zx HO729.out).2.1);(case side3=>exact sqC (Kd.zx HO733.out).2.2);(case side4=>exact (Kd.zx HO733.out).2.1);rintro e w108 ⟨rfl,hb⟩;refine ⟨_,rfl,?_⟩;have q_:=f12 (Kd.zK (sqR HO_12.out) hb) (Kd.zK (sqR HO_702001.out) hb) (Kd.zK (sqR HO_708001.out) hb) (Kd.zK (sqR HO_713001.out) hb) (Kd.zK (sqR HO_718001.out) hb) (Kd.zK (sqR HO729.out) hb) (Kd.zK (sqR HO733.out) hb) (zh (sqK BK701.out) hb) (zh (sqK BK707.out) hb) (zh (sqK BK712.out) hb) (zh (sqK BK717.out) hb) (zd sqB hb);clear HO_12 HO_702001 HO_708001 HO_713001 HO_718001 HO729 HO733 BK701 BK707 BK712 BK717 HB;obtain ⟨HO_12,HO_702001,HO_708001,HO_713001,HO_718001,HO729,HO733,BK701,BK707,BK712,BK717,HB⟩:=q_;refine hK.out _ _ tH (fun hHeld=> ?_);clear hK K;refine tN (h:= ?_);refine tP 12 (some 88) (h:= ?_);refine tP 13 (some 89) (h:= ?_);refine tT 14 (some 90) (h:= ?_);refine tT 16 (some 92) (h:= ?_);refine tO 15 (some 91) (h:=fun K hK=> ?_);refine vM Tryz.func10 (by kernel_rfl) rfl #[.agg #[.int .i64 t696,.slice Ao84 x702001_3.length co84]] (by rfl) rfl rfl sqM ?_;(with_reducible refine (qY.calls k4 t696 _ _ x702001_3 t735 t736 _ ?side1 ?side2 A98.out).mono ?_);(case side1=>exact sqC (Kd.zx HO_702001.out).2.2);(case side2=>exact (Kd.zx HO_702001.out).2.1);rintro e w109 ⟨v737,rfl,ho0,hb⟩;refine ⟨_,rfl,?_⟩;have q_:=f13 (Kd.zY (sqR HO_12.out) (Kd.qx ho0) hb) (Kd.zY (sqR HO_702001.out) (Kd.qx ho0) hb) (Kd.zY (sqR HO_708001.out) (Kd.qx ho0) hb) (Kd.zY (sqR HO_713001.out) (Kd.qx ho0) hb) (Kd.zY (sqR HO_718001.out) (Kd.qx ho0) hb) (Kd.zY (sqR HO729.out) (Kd.qx ho0) hb) (Kd.zY (sqR HO733.out) (Kd.qx ho0) hb) (Kd.zJ (Kd.qy (Kd.qy (Kd.qy (Kd.qy (Kd.qy (Kd.qy (Kd.qy ho0 (Kd.jo (sqR HO_12.out))) (Kd.jo (sqR HO_702001.out))) (Kd.jo (sqR HO_708001.out))) (Kd.jo (sqR HO_713001.out))) (Kd.jo (sqR HO_718001.out))) (Kd.jo (sqR HO729.out))) (Kd.jo (sqR HO733.out))) (zp sqB)) (zh (sqK BK701.out) hb) (zh (sqK BK707.out) hb) (zh (sqK BK712.out) hb) (zh (sqK BK717.out) hb) (zd sqB hb);clear HO_12 HO_702001 HO_708001 HO_713001 HO_718001 HO729 HO733 BK701 BK707 BK712 BK717 HB;obtain ⟨HO_12,HO_702001,HO_708001,HO_713001,HO_718001,HO729,HO733,HO738,BK701,BK707,BK712,BK717,HB⟩:=q_;refine hK.out _ _ tH (fun hHeld=> ?_);clear hK K;refine tN (h:= ?_);refine tO 17 (some 93) (h:=fun K hK=> ?_);refine vM Tryz.func14 (by kernel_rfl) rfl #[.agg #[.int .i64 t696,.slice Ao84 x702001_3.length co84]] (by rfl) rfl rfl sqM ?_;(with_reducible refine (jh.calls k4 t696 _ _ x702001_3 t739 t740 _ ?side1 ?side2 A99.out).mono ?_);(case side1=>exact sqC (Kd.zx HO_702001.out).2.2);(case side2=>exact (Kd.zx HO_702001.out).2.1);rintro e w110 ⟨v741,rfl,ho0,hb⟩;refine ⟨_,rfl,?_⟩;have q_:=f14 (Kd.zY (sqR HO_12.out) (Kd.qx ho0) hb) (Kd.zY (sqR HO_702001.out) (Kd.qx ho0) hb) (Kd.zY (sqR HO_708001.out) (Kd.qx ho0) hb) (Kd.zY (sqR HO_713001.out) (Kd.qx ho0) hb) (Kd.zY (sqR HO_718001.out) (Kd.qx ho0) hb) (Kd.zY (sqR HO729.out) (Kd.qx ho0) hb) (Kd.zY (sqR HO733.out) (Kd.qx ho0) hb) (Kd.zY (sqR HO738.out) (Kd.qx ho0) hb) (Kd.zJ (Kd.qy (Kd.qy (Kd.qy (Kd.qy (Kd.qy (Kd.qy (Kd.qy (Kd.qy ho0 (Kd.jo (sqR HO_12.out))) (Kd.jo (sqR HO_702001.out))) (Kd.jo (sqR HO_708001.out))) (Kd.jo (sqR HO_713001.out))) (Kd.jo (sqR HO_718001.out))) (Kd.jo (sqR HO729.out))) (Kd.jo (sqR HO733.out))) (Kd.jo (sqR HO738.out))) (zp sqB)) (zh (sqK BK701.out) hb) (zh (sqK BK707.out) hb) (zh (sqK BK712.out) hb) (zh (sqK BK717.out) hb) (zd sqB hb);clear HO_12 HO_702001 HO_708001 HO_713001 HO_718001 HO729 HO733 HO738 BK701 BK707 BK712 BK717 HB;obtain ⟨HO_12,HO_702001,HO_708001,HO_713001,HO_718001,HO729,HO733,HO738,HO742,BK701,BK707,BK712,BK717,HB⟩:=q_;obtain ⟨Ao111,co111,eo111⟩:=Kd.zG HO738.out;(first|subst eo111|(injection eo111 with f1_ f2_ f3_;have f4_:=f1_.symm;have f5_:=f3_.symm;clear f1_ f2_ f3_;subst f4_;subst f5_));obtain ⟨Ao112,co112,eo112⟩:=Kd.zG HO742.out;(first|subst eo112|(injection eo112 with f1_ f2_ f3_;have f4_:=f1_.symm;have f5_:=f3_.symm;clear f1_ f2_ f3_;subst f4_;subst f5_));refine hK.out _ _ tH (fun hHeld=> ?_);clear hK K;refine tN (h:= ?_);refine tO 18 (some 94) (h:=fun K hK=> ?_);refine vM Tryz.func12 (by kernel_rfl) rfl #[.agg #[.int .i64 t735,.slice Ao111 t736.length co111],.agg #[.int .i64 t739,.slice Ao112 t740.length co112]] (by rfl) rfl rfl sqM ?_;(with_reducible refine (zN.calls k4 t735 _ _ t736 t739 _ _ t740 t743 _ ?side1 ?side2 ?side3 ?side4 A100.out).mono ?_);(case side1=>exact sqC (Kd.zx HO738.out).2.2);(case side2=>exact (Kd.zx HO738.out).2.1);(case side3=>exact sqC (Kd.zx HO742.out).2.2);(case side4=>exact (Kd.zx HO742.out).2.1);rintro e w113 ⟨rfl,hb⟩;refine ⟨_,rfl,?_⟩;have q_:=f14 (Kd.zK (sqR HO_12.out) hb) (Kd.zK (sqR HO_702001.out) hb) (Kd.zK (sqR HO_708001.out) hb) (Kd.zK (sqR HO_713001.out) hb) (Kd.zK (sqR HO_718001.out) hb) (Kd.zK (sqR HO729.out) hb) (Kd.zK (sqR HO733.out) hb) (Kd.zK (sqR HO738.out) hb) (Kd.zK (sqR HO742.out) hb) (zh (sqK BK701.out) hb) (zh (sqK BK707.out) hb) (zh (sqK BK712.out) hb) (zh (sqK BK717.out) hb) (zd sqB hb);clear HO_12 HO_702001 HO_708001 HO_713001 HO_718001 HO729 HO733 HO738 HO742 BK701 BK707 BK712 BK717 HB;obtain ⟨HO_12,HO_702001,HO_708001,HO_713001,HO_718001,HO729,HO733,HO738,HO742,BK701,BK707,BK712,BK717,HB⟩:=q_;refine hK.out _ _ tH (fun hHeld=> ?_);clear hK K;refine tN (h:= ?_);refine tP 19 (some 95) (h:= ?_);refine tP 20 (some 2) (h:= ?_);refine vX (jH HT_.out (by kernel_rfl)) ?_;(try go_wp2);go_ret;exact ⟨sqE,sqB⟩);(·replace c97:=Bool.eq_false_iff.mpr c97;subst c97;rw [if_neg (show ¬(false=true) by decide)] at H;exact absurd H (by simp)));(·rw [if_neg c93] at H;have c93b0:(t725.toList==t702.toList)=false:=beq_eq_false_iff_ne.mpr c93;have c93b1:(t725.toList != t702.toList)=true:=bne_iff_ne.mpr c93;exact absurd H (by simp)))))))))))))))

end Go.Proofs.YtimmcndgjbdjeaaGreat.F
end
section
namespace Go.Proofs.YtimmcndgjbdjeaaGreat.Bits
open Go.Proofs.YtimmcndgjbdjeaaGreat.Mt (sdiff qF)
open Go.RowKit Go.Proofs.YtimmcndgjbdjeaaGreatW.PrintWords Go.Proofs.YtimmcndgjbdjeaaGreatW.PrintLast Go.Proofs.YtimmcndgjbdjeaaGreatW.PrintMore

theorem jf {n:Int}(h0: -9223372036854775808≤n)(h1:n<9223372036854775808):wrap64 n=n:=by unfold wrap64;omega
theorem Zy {n:Int}(h0: -9223372036854775808≤n)(h1:n<9223372036854775808):IntKind.i64.wrap n=n:=by rw [IntKind.wrap_i64];omega
theorem vZ {n:Int}(h0:0≤n)(h1:n<18446744073709551616):IntKind.u64.wrap n=n:=by
  simp [IntKind.wrap,IntKind.bits,IntKind.signed];omega
theorem yK (a:Nat)(ha:a<2 ^63):(BitVec.ofInt 64 (a:Int)).toNat=a:=by
  simp;omega
theorem Zw (a b:Nat)(ha:a<2 ^63)(hb:b<2 ^63):Go.bits .and .i64 (a:Int) (b:Int)=((a &&&b:Nat):Int):=by
  have hab:a &&&b<2 ^63:=Nat.and_lt_two_pow _ hb
  show IntKind.i64.wrap (((BitVec.ofInt 64 (a:Int) &&&BitVec.ofInt 64 (b:Int)).toNat:Nat):Int)=_
  rw [BitVec.toNat_and,yK a ha,yK b hb]
  exact Zy (by omega) (by omega)
theorem Q1 (a b:Nat)(ha:a<2 ^63)(hb:b<2 ^63):Go.bits .or .i64 (a:Int) (b:Int)=((a |||b:Nat):Int):=by
  have hab:a |||b<2 ^63:=Nat.or_lt_two_pow ha hb
  show IntKind.i64.wrap (((BitVec.ofInt 64 (a:Int) |||BitVec.ofInt 64 (b:Int)).toNat:Nat):Int)=_
  rw [BitVec.toNat_or,yK a ha,yK b hb]
  exact Zy (by omega) (by omega)
theorem Je {a b n:Nat}(ha:a<2 ^n):sdiff a b<2 ^n:=Nat.xor_lt_two_pow ha (Nat.lt_of_le_of_lt Nat.and_le_left ha)
theorem y0 (a b:Nat)(ha:a<2 ^63)(hb:b<2 ^63):Go.bits .andNot .i64 (a:Int) (b:Int)=((sdiff a b:Nat):Int):=by
  have hab:sdiff a b<2 ^63:=Je ha
  show IntKind.i64.wrap (((BitVec.ofInt 64 (a:Int) &&& ~~~ BitVec.ofInt 64 (b:Int)).toNat:Nat):Int)=_
  have:(BitVec.ofInt 64 (a:Int) &&& ~~~ BitVec.ofInt 64 (b:Int)).toNat=sdiff a b:=by
    apply Nat.eq_of_testBit_eq
    intro i
    rw [qF]
    rw [BitVec.toNat_and,Nat.testBit_and,yK a ha]
    by_cases hi:i<64
    · rw [BitVec.testBit_toNat,BitVec.getLsbD_not,←BitVec.testBit_toNat,yK b hb];simp [hi]
    · have:a.testBit i=false:=Nat.testBit_lt_two_pow (Nat.lt_of_lt_of_le ha (Nat.pow_le_pow_right (by decide) (by omega)))
      simp [this]
  rw [this]
  exact Zy (by omega) (by omega)
theorem yq (e:Nat)(he:e<63):shl .i64 1 (e:Int)=((2 ^e:Nat):Int):=by
  have h:2 ^e<2 ^63:=Nat.pow_lt_pow_right (by decide) he
  unfold shl
  rw [Nat.min_eq_left (by simp [IntKind.bits];omega),Int.one_mul,Int.toNat_natCast]
  rw [show (2:Int) ^e=((2 ^e:Nat):Int) by simp]
  generalize 2 ^e=x at h ⊢
  exact Zy (by omega) (by omega)
theorem zbc (a e:Nat)(he:e≤64):shr .i64 (a:Int) (e:Int)=((a >>> e:Nat):Int):=by
  unfold shr
  rw [Nat.min_eq_left (by simp [IntKind.bits];omega),Int.toNat_natCast,Nat.shiftRight_eq_div_pow]
  simp
theorem Vf (a e:Nat)(ha:a<2 ^63)(he:e≤64):(Go.bits .and .i64 (shr .i64 (a:Int) (e:Int)) 1==1)=a.testBit e:=by
  have h1:a >>> e<2 ^63:=Nat.lt_of_le_of_lt (by rw [Nat.shiftRight_eq_div_pow];exact Nat.div_le_self _ _) ha
  rw [zbc a e he,show (1:Int)=((1:Nat):Int) from rfl,Zw _ _ h1 (by decide)]
  simp only [Nat.testBit,Nat.and_comm 1]
  rcases Nat.mod_two_eq_zero_or_one (a >>> e) with h|h<;>simp [Nat.and_one_is_mod,h]<;>rfl

end Go.Proofs.YtimmcndgjbdjeaaGreat.Bits
end
section
namespace Go.Proofs.YtimmcndgjbdjeaaGreat.L
open Go.RowKit Go.Proofs.YtimmcndgjbdjeaaGreatW.PrintWords Go.Proofs.YtimmcndgjbdjeaaGreatW.PrintLast Go.Proofs.YtimmcndgjbdjeaaGreatW.PrintMore
open Go.Proofs.YtimmcndgjbdjeaaGreat.Bits

theorem Ev.succ {α:Type}{g:Nat→Option α}{r:α}(h:Ev (fun k=>g (k+1)) r):Ev g r:=Ev.step (fun _=>rfl) h
theorem Ev.some {α:Type}{r s:α}(h:r=s):Ev (fun _=>Option.some r) s:=h ▸Ev.now r
theorem z1 {i:Nat}(h:i<9223372036854775807):wrap64 ((i:Int)+1)=((i+1:Nat):Int):=jf (by omega) (by omega)

/-- A loop that asks of all places, and says no at the first that fails. -/
theorem V1 (L:Nat→Int→Option Bool)(n:Nat)(p:Nat→Bool)(hend: ∀k,L (k+1) (n:Int)=some true)
    (hstep: ∀i,i<n→ ∀k,L (k+1) (i:Int)=if p i=true then L k ((i+1:Nat):Int) else some false):
    ∀d i,i+d=n→Ev (fun k=>L k (i:Int)) ((List.range' i d).all p)
  |0,i,hd=>by
    obtain rfl:i=n:=by omega
    refine Ev.succ ?_
    simp only [hend];exact Ev.now _
  |d+1,i,hd=>by
    refine Ev.succ ?_
    rw [List.range'_succ,List.all_cons]
    simp only [hstep i (by omega)]
    cases hp:p i
    · simp only [Bool.false_eq_true,if_false,Bool.false_and];exact Ev.now _
    · simp only [if_true,Bool.true_and];exact V1 L n p hend hstep d (i+1) (by omega)
theorem JQ (L:Nat→Int→Option Bool)(n:Nat)(p:Nat→Bool)(hend: ∀k,L (k+1) (n:Int)=some true)
    (hstep: ∀i,i<n→ ∀k,L (k+1) (i:Int)=if p i=true then L k ((i+1:Nat):Int) else some false):
    Ev (fun k=>L k 0) ((List.range n).all p):=by
  rw [List.range_eq_range'];exact V1 L n p hend hstep n 0 (by omega)
/-- A loop that gathers: at each place the state takes a step; an invariant goes along. -/
theorem J8 {σ ρ:Type}(L:Nat→σ→Int→Option ρ)(n:Nat)(step:σ→Nat→σ)(inv:Nat→σ→Prop)(fin:σ→ρ)
    (hend: ∀s,inv n s→Ev (fun k=>L (k+1) s (n:Int)) (fin s))
    (hstep: ∀i s,i<n→inv i s→inv (i+1) (step s i)∧ ∀r,Ev (fun k=>L k (step s i) ((i+1:Nat):Int)) r→Ev (fun k=>L (k+1) s (i:Int)) r):
    ∀d i s,i+d=n→inv i s→Ev (fun k=>L k s (i:Int)) (fin ((List.range' i d).foldl step s))
  |0,i,s,hd,hi=>by
    obtain rfl:i=n:=by omega
    exact Ev.succ (hend s hi)
  |d+1,i,s,hd,hi=>by
    refine Ev.succ ?_
    obtain ⟨h1,h2⟩:=hstep i s (by omega) hi
    exact h2 _ (J8 L n step inv fin hend hstep d (i+1) (step s i) (by omega) h1)
theorem Q4 {σ ρ:Type}(L:Nat→σ→Int→Option ρ)(n:Nat)(step:σ→Nat→σ)(inv:Nat→σ→Prop)(fin:σ→ρ)
    (hend: ∀s,inv n s→Ev (fun k=>L (k+1) s (n:Int)) (fin s))
    (hstep: ∀i s,i<n→inv i s→inv (i+1) (step s i)∧ ∀r,Ev (fun k=>L k (step s i) ((i+1:Nat):Int)) r→Ev (fun k=>L (k+1) s (i:Int)) r) (s:σ) (h:inv 0 s):
    Ev (fun k=>L k s 0) (fin ((List.range n).foldl step s)):=by
  rw [List.range_eq_range'];exact J8 L n step inv fin hend hstep n 0 s (by omega) h

/-- A loop that gathers, and what stands behind it. -/
theorem yQ {σ ρ:Type}(L:Nat→σ→Int→Option ρ)(n:Nat)(step:σ→Nat→σ)(inv:Nat→σ→Prop)
    (hstep: ∀i s,i<n→inv i s→inv (i+1) (step s i)∧ ∀r,Ev (fun k=>L k (step s i) ((i+1:Nat):Int)) r→Ev (fun k=>L (k+1) s (i:Int)) r) (s:σ) (h:inv 0 s):
    inv n ((List.range n).foldl step s)∧ ∀r,Ev (fun k=>L k ((List.range n).foldl step s) (n:Int)) r→Ev (fun k=>L k s 0) r:=by
  have key: ∀d i s,i+d=n→inv i s→inv n ((List.range' i d).foldl step s)∧ ∀r,Ev (fun k=>L k ((List.range' i d).foldl step s) (n:Int)) r→Ev (fun k=>L k s (i:Int)) r:=by
    intro d
    induction d with
    | zero => intro i s hd hi; obtain rfl : i = n := by omega
              exact ⟨hi,fun r h=>h⟩
    |succ d ih=>
      intro i s hd hi
      obtain ⟨h1,h2⟩:=hstep i s (by omega) hi
      obtain ⟨h3,h4⟩:=ih (i+1) (step s i) (by omega) h1
      rw [List.range'_succ,List.foldl_cons]
      exact ⟨h3,fun r h=>Ev.succ (h2 r (h4 r h))⟩
  rw [List.range_eq_range']
  exact key n 0 s (by omega) h
/-- A loop from its end back: what a place makes of the answer of what follows. -/
theorem vo {ρ:Type}(L:Nat→Int→Option ρ)(n:Nat)(f:Nat→ρ→ρ)(last:ρ)(hend:Ev (fun k=>L (k+1) (n:Int)) last)
    (hstep: ∀i,i<n→ ∀r,Ev (fun k=>L k ((i+1:Nat):Int)) r→Ev (fun k=>L (k+1) (i:Int)) (f i r)):Ev (fun k=>L k 0) ((List.range n).foldr f last):=by
  have key: ∀d i,i+d=n→Ev (fun k=>L k (i:Int)) ((List.range' i d).foldr f last):=by
    intro d
    induction d with
    | zero => intro i hd; obtain rfl : i = n := by omega
              exact Ev.succ hend
    |succ d ih=>
      intro i hd
      rw [List.range'_succ,List.foldr_cons]
      exact Ev.succ (hstep i (by omega) _ (ih (i+1) (by omega)))
  rw [List.range_eq_range']
  exact key n 0 (by omega)
theorem Qy {α:Type}(p:α→Bool)(r:Bool): ∀l:List α,l.foldr (fun i r=>p i&&r) r=(l.all p&&r)
  | []=>by simp
  |a::l=>by rw [List.foldr_cons,List.all_cons,Qy p r l,Bool.and_assoc]
theorem Qz {α:Type}(p:α→Bool)(r:Bool): ∀l:List α,l.foldr (fun i r=>p i||r) r=(l.any p||r)
  | []=>by simp
  |a::l=>by rw [List.foldr_cons,List.any_cons,Qz p r l,Bool.or_assoc]
theorem yF (l:List Int)(j:Nat):rd l (j:Int)=l.getD j 0:=by simp [rd]
end Go.Proofs.YtimmcndgjbdjeaaGreat.L
end
section
namespace Go.Proofs.YtimmcndgjbdjeaaGreat.L
open Go.RowKit Go.Proofs.YtimmcndgjbdjeaaGreat.F Go.Proofs.YtimmcndgjbdjeaaGreatW.PrintWords Go.Proofs.YtimmcndgjbdjeaaGreatW.PrintLast Go.Proofs.YtimmcndgjbdjeaaGreatW.PrintMore
open Go.Proofs.YtimmcndgjbdjeaaGreat.Bits
open Go.Proofs.YtimmcndgjbdjeaaGreat.Mt (sdiff qF elems qV)

def ints (l:List Nat):List Int:=l.map fun x:Nat=>(x:Int)
theorem Zd (l:List Nat)(j:Nat)(h:j<l.length):rd (ints l) (j:Int)=((l[j]'h:Nat):Int):=by
  simp [rd,ints,List.getElem?_eq_getElem h]
theorem zE (l:List Nat):(ints l).length=l.length:=by simp [ints]
theorem vq (s:Nat):(elems s).length≤8:=by
  have:=List.length_filter_le s.testBit (List.range 8);simpa [elems] using this
/-- A number that is a set of eight elements. -/
def isAny (s:Int):Bool:=decide (0≤s∧s<256)

theorem YO (s:Int):qQ.f s=some (isAny s):=by
  unfold qQ.f isAny
  split<;>simp<;>omega

theorem zat (x a b:Int):qm.f x a b=some (decide (a≤x∧x≤b)):=by
  unfold qm.f
  split<;>simp<;>omega

theorem ZC (n s:Int):zU.f n s=some (decide (0≤n∧n≤8∧0≤s∧s<2 ^n.toNat)):=by
  unfold zU.f
  simp only [zat,Option.bind_some,decide_eq_true_eq]
  split
  · rename_i h
    obtain ⟨m,rfl⟩:=Int.eq_ofNat_of_zero_le h.1
    have hm:m≤8:=by omega
    have hp:(2:Nat) ^m≤2 ^8:=Nat.pow_le_pow_right (by decide) hm
    rw [vZ (by omega) (by omega),yq m (by omega),if_pos (by omega)]
    rw [jf (by generalize 2 ^m=x at hp ⊢;omega) (by generalize 2 ^m=x at hp ⊢;omega)]
    simp only [Int.toNat_natCast,Option.some.injEq,decide_eq_decide]
    have:(2:Int) ^m=((2 ^m:Nat):Int):=by simp
    rw [this]
    generalize 2 ^m=x at hp ⊢
    omega
  · simp;omega

theorem Qc (s e:Int):q5.f s e=some (isAny s&&decide (0≤e∧e<8)&&s.toNat.testBit e.toNat):=by
  unfold q5.f isAny
  simp only [ZC,zat,Option.bind_some,decide_eq_true_eq]
  by_cases hs:0≤s∧s<256
  · rw [if_pos (by simp;omega)]
    by_cases he:0≤e∧e<8
    · rw [if_pos (by omega)]
      obtain ⟨a,rfl⟩:=Int.eq_ofNat_of_zero_le hs.1
      obtain ⟨b,rfl⟩:=Int.eq_ofNat_of_zero_le he.1
      unfold qu.f
      rw [vZ (by omega) (by omega),if_pos (by omega),Vf _ _ (by omega) (by omega)]
      simp;omega
    · rw [if_neg (by omega)];simp [he]
  · rw [if_neg (by simp;omega)];simp [hs]

theorem Qi (n:Int):jg.f n=some (decide (0≤n∧n≤8)):=by
  unfold jg.f
  split<;>simp<;>omega
theorem Vn (n s:Int):jv.f n s=some (decide (0≤n∧n≤8∧0≤s∧s<2 ^n.toNat)):=by
  unfold jv.f
  rw [Qi]
  simp only [Option.bind_some,decide_eq_true_eq]
  by_cases h:0≤n∧n≤8
  · rw [if_pos h]
    by_cases hs:s≥0
    · rw [if_pos hs,if_pos h.1]
      obtain ⟨m,rfl⟩:=Int.eq_ofNat_of_zero_le h.1
      rw [yq m (by omega)]
      simp only [Int.toNat_natCast,Option.some.injEq,decide_eq_decide]
      have:(2:Int) ^m=((2 ^m:Nat):Int):=by simp
      rw [this]
      generalize 2 ^m=x
      omega
    · rw [if_neg hs];simp;omega
  · rw [if_neg h];simp;omega
theorem Vs (s e:Int):jG.f s e=some (isAny s&&decide (0≤e∧e<8)&&s.toNat.testBit e.toNat):=by
  unfold jG.f
  rw [YO]
  simp only [Option.bind_some]
  cases hs:isAny s
  · simp
  · rw [if_pos rfl]
    have hs':0≤s∧s<256:=by simpa [isAny] using hs
    by_cases h0:e≥0
    · rw [if_pos h0]
      by_cases h8:e<8
      · obtain ⟨a,rfl⟩:=Int.eq_ofNat_of_zero_le hs'.1
        obtain ⟨b,rfl⟩:=Int.eq_ofNat_of_zero_le h0
        rw [if_pos h8,if_pos h0,Vf _ _ (by omega) (by omega)]
        simp;omega
      · rw [if_neg h8];simp;omega
    · rw [if_neg h0];simp;omega

/-- The elements of a number: none where it is no set. -/
def qU (s:Int):List Nat:=if isAny s then elems s.toNat else []

theorem Yh {s:Int}{e:Nat}(h:e∈qU s):e<8:=by
  unfold qU at h;split at h
  · exact (qV.1 h).1
  · simp at h
theorem y2 (s:Int):(qU s).length≤8:=by
  unfold qU;split
  · exact vq _
  · simp

theorem Zh (s:Int)(L:Nat→List Int→Int→Option (List Int))
    (hL: ∀k (acc:List Int) (i:Nat),L (k+1) acc i=if (i:Int)<8 then (if (isAny s&&decide (0≤(i:Int)∧(i:Int)<8)&&s.toNat.testBit (i:Int).toNat)=true then (if acc.length<17592186044416 then L k (acc++[(i:Int)]) (wrap64 ((i:Int)+1)) else none) else L k acc (wrap64 ((i:Int)+1))) else some acc):
    ∀(d i:Nat) (acc:List Int),i+d=8→acc.length≤i→Ev (fun k=>L k acc i) (acc++ints ((List.range' i d).filter fun e=>isAny s&&s.toNat.testBit e))
  |0,i,acc,hd,_=>by
    obtain rfl:i=8:=by omega
    refine Ev.succ ?_
    simp only [hL,show ¬(((8:Nat):Int)<8) by decide,if_false]
    simpa [ints] using Ev.now acc
  |d+1,i,acc,hd,ha=>by
    refine Ev.succ ?_
    have h8:(i:Int)<8:=by omega
    have hw:wrap64 ((i:Int)+1)=((i+1:Nat):Int):=jf (by omega) (by omega)
    simp only [hL,h8,hw,if_true,Int.toNat_natCast,Int.natCast_nonneg,decide_true,Bool.and_true,and_self]
    rw [List.range'_succ]
    cases hb:(isAny s&&s.toNat.testBit i)
    · simp only [hb,List.filter_cons,Bool.false_eq_true,if_false]
      exact Zh s L hL d (i+1) acc (by omega) (by omega)
    · simp only [hb,List.filter_cons,if_true,show acc.length<17592186044416 by omega]
      have:=Zh s L hL d (i+1) (acc++[(i:Int)]) (by omega) (by simp;omega)
      simpa [ints] using this

theorem JN (s:Int):(List.range' 0 8).filter (fun e=>isAny s&&s.toNat.testBit e)=qU s:=by
  unfold qU elems
  rw [List.range_eq_range']
  cases isAny s<;>simp

theorem Qg (s:Int):Ev (fun k=>qf.f k s) (ints (qU s)):=by
  have:=Zh s (fun k acc i=>qf.l0 k s acc i) (fun k acc i=>by simp only [qf.l0,Qc,Option.bind_some]) 8 0 [] rfl (by simp)
  rw [JN] at this
  simpa [qf.f] using this
theorem yI (s:Int):Ev (fun k=>z6.f k s) (ints (qU s)):=by
  have:=Zh s (fun k acc i=>z6.l0 k s acc i) (fun k acc i=>by simp only [z6.l0,Vs,Option.bind_some]) 8 0 [] rfl (by simp)
  rw [JN] at this
  simpa [z6.f] using this

/-- The element test on any two numbers. -/
def Y6 (s:Int)(e:Nat):Bool:=isAny s&&decide (e<8)&&s.toNat.testBit e
theorem JH (s:Int)(e:Nat):q5.f s (e:Int)=some (Y6 s e):=by
  rw [Qc];simp [Y6,show ((e:Int)<8)↔e<8 by omega]
theorem drop_cons {α:Type}{l r:List α}{i:Nat}{a:α}(h:l.drop i=a::r): ∃hi:i<l.length,l[i]=a∧l.drop (i+1)=r:=by
  have hi:i<l.length:=by
    rcases Nat.lt_or_ge i l.length with h'|h'
    · exact h'
    · rw [List.drop_eq_nil_of_le h'] at h;cases h
  refine ⟨hi,?_⟩
  rw [List.drop_eq_getElem_cons hi] at h
  exact ⟨(List.cons.inj h).1,(List.cons.inj h).2⟩

theorem Jy (s:Nat):(elems s).Pairwise (· < ·):=List.Pairwise.filter _ List.pairwise_lt_range
theorem Zk (s:Int):(qU s).Pairwise (· < ·):=by
  unfold qU;split
  · exact Jy _
  · exact List.Pairwise.nil

theorem QH (s n:Nat)(hn:n≤8)(h:s<2 ^n):elems s=(List.range n).filter s.testBit:=by
  unfold elems
  obtain ⟨m,hm⟩: ∃m,8=n+m:=⟨8 - n,by omega⟩
  rw [hm,List.range_add,List.filter_append]
  have:List.filter s.testBit (List.map (fun x=>n+x) (List.range m))=[]:=by
    rw [List.filter_eq_nil_iff]
    intro a ha
    obtain ⟨b,_,rfl⟩:=List.mem_map.1 ha
    rw [Nat.testBit_lt_two_pow (Nat.lt_of_lt_of_le h (Nat.pow_le_pow_right (by decide) (by omega)))]
    simp
  rw [this,List.append_nil]

theorem VX (s n:Nat)(hs:s<256)(h: ∀e∈elems s,e<n):s<2 ^n:=by
  apply Nat.lt_pow_two_of_testBit
  intro i hi
  cases hb:s.testBit i
  · rfl
  · have:i<8:=by
      rcases Nat.lt_or_ge i 8 with h'|h'
      · exact h'
      · rw [Nat.testBit_lt_two_pow (Nat.lt_of_lt_of_le hs (Nat.pow_le_pow_right (n:=2) (by decide) h'))] at hb;cases hb
    have:=h i (qV.2 ⟨this,hb⟩)
    omega

theorem zbZ (acc i:Nat)(h:acc<2 ^i):acc |||2 ^i=acc+2 ^i:=by
  have:=Nat.two_pow_add_eq_or_of_lt h 1
  rw [Nat.mul_one] at this
  rw [Nat.or_comm,←this,Nat.add_comm]

end Go.Proofs.YtimmcndgjbdjeaaGreat.L
end
section
namespace Go.Proofs.YtimmcndgjbdjeaaGreat.Mt
theorem vS (a b i:Nat):(a |||b).testBit i=(a.testBit i||b.testBit i):=Nat.testBit_or a b i
theorem jX (a b i:Nat):(a &&&b).testBit i=(a.testBit i&&b.testBit i):=Nat.testBit_and a b i
theorem QZ (e i:Nat):(2 ^e).testBit i=decide (e=i):=by
  rw [Nat.testBit_two_pow]
theorem vR (i:Nat):(0:Nat).testBit i=false:=Nat.zero_testBit i
theorem ext {a b:Nat}(h: ∀i,a.testBit i=b.testBit i):a=b:=Nat.eq_of_testBit_eq h
/-- s with e; s without e. -/
def ins (s e:Nat):Nat:=s |||2 ^e
def del (s e:Nat):Nat:=sdiff s (2 ^e)
theorem vt (s e i:Nat):(ins s e).testBit i=(s.testBit i||decide (e=i)):=by rw [ins,vS,QZ]
theorem vv (s e i:Nat):(del s e).testBit i=(s.testBit i&& !decide (e=i)):=by rw [del,qF,QZ]
def sub (a b:Nat):Prop:= ∀i,a.testBit i=true→b.testBit i=true
theorem Q3 (a:Nat):sub a a:=fun _ h=>h
theorem vN {a b c:Nat}(h:sub a b)(k:sub b c):sub a c:=fun i hi=>k i (h i hi)
theorem Z8 {a b:Nat}(h:sub a b)(k:sub b a):a=b:=ext fun i=>by
  have h1:=h i;have h2:=k i
  cases ha:a.testBit i<;>cases hb:b.testBit i<;>simp_all
theorem yf {a b:Nat}:sub a b↔a &&&b=a:=by
  constructor
  · intro h;apply ext;intro i;rw [jX];have:=h i;cases ha:a.testBit i<;>simp_all
  · intro h i hi;have:=congrArg (fun x=>Nat.testBit x i) h;simp only [jX,hi,Bool.true_and] at this;exact this
theorem JK {a b:Nat}:sub a b↔sdiff a b=0:=by
  constructor
  · intro h;apply ext;intro i;rw [qF,vR];have:=h i;cases ha:a.testBit i<;>simp_all
  · intro h i hi
    have:=congrArg (fun x=>Nat.testBit x i) h
    simp only [qF,hi,vR,Bool.true_and,Bool.not_eq_false'] at this;exact this
theorem Ql (s e:Nat):sub s (ins s e):=fun i hi=>by rw [vt,hi,Bool.true_or]
theorem za4 (s e:Nat):(ins s e).testBit e=true:=by simp [vt]
theorem Zf (s e:Nat):sub (del s e) s:=fun i hi=>by rw [vv] at hi;simp at hi;exact hi.1
theorem jU (a b:Nat):sub (a &&&b) a:=fun i hi=>by rw [jX] at hi;simp at hi;exact hi.1
theorem yu (a b:Nat):sub (a &&&b) b:=fun i hi=>by rw [jX] at hi;simp at hi;exact hi.2
theorem Vx (a b:Nat):sub a (a |||b):=fun i hi=>by rw [vS,hi,Bool.true_or]
theorem Vd (a b:Nat):sub b (a |||b):=fun i hi=>by rw [vS,hi,Bool.or_true]
theorem Vl {a b c:Nat}(h:sub c a)(k:sub c b):sub c (a &&&b):=fun i hi=>by rw [jX,h i hi,k i hi];rfl
theorem zbN {s e:Nat}(h:s.testBit e=true):ins s e=s:=ext fun i=>by
  rw [vt];by_cases he:e=i
  · subst he;simp [h]
  · simp [he]
theorem Vp {a b:Nat}(h: ¬sub a b): ∃i,a.testBit i=true∧b.testBit i=false:=by
  apply Classical.byContradiction
  intro hn;apply h;intro i hi
  cases hb:b.testBit i
  · exact absurd ⟨i,hi,hb⟩ hn
  · rfl
theorem vP {s n i:Nat}(h:s<2 ^n)(hi:s.testBit i=true):i<n:=by
  rcases Nat.lt_or_ge i n with h'|h'
  · exact h'
  · rw [Nat.testBit_lt_two_pow (Nat.lt_of_lt_of_le h (Nat.pow_le_pow_right (by decide) h'))] at hi;cases hi
theorem Zg {s n:Nat}(h: ∀i,s.testBit i=true→i<n):s<2 ^n:=Nat.lt_pow_two_of_testBit s fun i hi=>by
  cases hb:s.testBit i
  · rfl
  · have:=h i hb;omega
theorem jx {a b n:Nat}(h:sub a b)(hb:b<2 ^n):a<2 ^n:=Zg fun i hi=>vP hb (h i hi)
theorem YY {a b:Nat}(h:sub a b):a≤b:=by rw [yf] at h;rw [←h];exact Nat.and_le_right
/-- All elements below n. -/
def full (n:Nat):Nat:=2 ^n - 1
theorem zaI (n i:Nat):(full n).testBit i=decide (i<n):=Nat.testBit_two_pow_sub_one n i
theorem QX (n:Nat):full n<2 ^n:=Nat.sub_lt (Nat.two_pow_pos n) (by decide)
def cnt (s:Nat):Nat:=(List.range 8).countP s.testBit
theorem ZQ (p q:Nat→Bool): ∀l:List Nat,l.countP (fun i=>p i||q i)+l.countP (fun i=>p i&&q i)=l.countP p+l.countP q
  | []=>rfl
  |a::l=>by
    have:=ZQ p q l
    simp only [List.countP_cons]
    cases p a<;>cases q a<;>simp<;>omega
theorem Jv (a b:Nat):cnt (a |||b)+cnt (a &&&b)=cnt a+cnt b:=by
  have:=ZQ a.testBit b.testBit (List.range 8)
  simp only [cnt]
  rw [show Nat.testBit (a |||b)=fun i=>a.testBit i||b.testBit i from funext (vS a b),show Nat.testBit (a &&&b)=fun i=>a.testBit i&&b.testBit i from funext (jX a b)]
  exact this
theorem yy {a b:Nat}(h:sub a b):cnt a≤cnt b:=List.countP_mono_left fun i _ hi=>h i hi
theorem Qn:cnt 0=0:=by decide
theorem yO (s:Nat):cnt s≤8:=by have:=List.countP_le_length (p:=s.testBit) (l:=List.range 8);simpa [cnt] using this
theorem Qd {a b:Nat}(h:a &&&b=0):cnt (a |||b)=cnt a+cnt b:=by have:=Jv a b;rw [h,Qn] at this;omega
theorem zbi {e:Nat}(h:e<8):cnt (2 ^e)=1:=by
  have: ∀e,e<8→cnt (2 ^e)=1:=by decide
  exact this e h
theorem J9 (a b:Nat):cnt (sdiff a b)+cnt (a &&&b)=cnt a:=by
  have h:sdiff a b &&&(a &&&b)=0:=ext fun i=>by simp only [jX,qF,vR];cases a.testBit i<;>cases b.testBit i<;>rfl
  have k:sdiff a b |||(a &&&b)=a:=ext fun i=>by simp only [vS,jX,qF];cases a.testBit i<;>cases b.testBit i<;>rfl
  rw [←Qd h,k]
theorem y7 {a b:Nat}(h:sub b a):cnt (sdiff a b)+cnt b=cnt a:=by
  have:=J9 a b
  rwa [show a &&&b=b from by rw [Nat.and_comm];exact yf.1 h] at this
theorem Qe {s e:Nat}(he:e<8)(h:s.testBit e=false):cnt (ins s e)=cnt s+1:=by
  have:s &&&2 ^e=0:=ext fun i=>by
    rw [jX,QZ,vR];by_cases hi:e=i
    · subst hi;simp [h]
    · simp [hi]
  rw [ins,Qd this,zbi he]
theorem ZG {s e:Nat}(he:e<8)(h:s.testBit e=true):cnt (del s e)+1=cnt s:=by
  have k:ins (del s e) e=s:=ext fun i=>by
    rw [vt,vv];by_cases hi:e=i
    · subst hi;simp [h]
    · simp [hi]
  have:=Qe (s:=del s e) he (by simp [vv])
  rw [k] at this;omega
theorem za7 {s e:Nat}(he:e<8)(h:s.testBit e=true):0<cnt s:=by have:=ZG he h;omega
theorem Jb {s:Nat}(hs:s<256)(h:cnt s=0):s=0:=by
  apply ext;intro i;rw [vR]
  cases hb:s.testBit i
  · rfl
  · have:=za7 (vP (n:=8) hs hb) hb;omega
theorem ZA {a b:Nat}(ha:a<256)(h:cnt (a &&&b)=cnt a):sub a b:=by
  have:=J9 a b
  have hz:cnt (sdiff a b)=0:=by omega
  exact JK.2 (Jb (jx (n:=8) (fun i hi=>by rw [qF] at hi;simp at hi;exact hi.1) ha) hz)
theorem JL {a b:Nat}(h:sub a b)(hb:b<256)(hc:cnt b≤cnt a):a=b:=by
  refine Z8 h (ZA hb ?_)
  have h1:=yy (jU b a)
  have:b &&&a=a:=by rw [Nat.and_comm];exact yf.1 h
  rw [this];have:=yy h;omega
theorem Qf {a b:Nat}(h:cnt b<cnt a): ∃i,a.testBit i=true∧b.testBit i=false:=
  Vp fun k=>by have:=yy k;omega

/-- The bases of a matroid of n elements: by exchange. -/
structure Mat (n:Nat)(B:List Nat):Prop where
  size:n≤8
  lt: ∀b∈B,b<2 ^n
  ne:B≠[]
  ex: ∀a∈B,∀b∈B,∀e,a.testBit e=true→b.testBit e=false→ ∃f,b.testBit f=true∧a.testBit f=false∧ins (del a e) f∈B
section
variable {n:Nat} {B:List Nat}
theorem jI {s n:Nat}(hn:n≤8)(h:s<2 ^n):s<256:=Nat.lt_of_lt_of_le h (Nat.pow_le_pow_right (n:=2) (by decide) hn)
theorem Mat.lt8 (M:Mat n B){b:Nat}(h:b∈B):b<256:=jI M.size (M.lt b h)
theorem Mat.zbd (M:Mat n B){b e:Nat}(h:b∈B)(he:b.testBit e=true):e<8:=vP (n:=8) (M.lt8 h) he
theorem zaP {a e f:Nat}(ha:a<256)(hf8:f<8)(he:a.testBit e=true)(hf:a.testBit f=false):cnt (ins (del a e) f)=cnt a:=by
  have h8:e<8:=vP (n:=8) ha he
  have h1:=ZG h8 he
  have h2:=Qe (s:=del a e) hf8 (by rw [vv,hf];rfl)
  omega
theorem Mat.le (M:Mat n B): ∀k a b,a∈B→b∈B→cnt (sdiff a b)=k→cnt a≤cnt b:=by
  intro k
  induction k using Nat.strongRecOn with
  |_ k ih=>
    intro a b ha hb hk
    by_cases hs:sub a b
    · exact yy hs
    · obtain ⟨e,he,heb⟩:=Vp hs
      obtain ⟨f,hfb,hfa,hin⟩:=M.ex a ha b hb e he heb
      have e8:=M.zbd ha he
      have f8:=M.zbd hb hfb
      have hsw:=zaP (M.lt8 ha) f8 he hfa
      have hd:sdiff (ins (del a e) f) b=del (sdiff a b) e:=ext fun i=>by
        simp only [qF,vt,vv]
        by_cases hi:f=i
        · subst hi;simp [hfb]
        · simp only [hi,decide_false,Bool.or_false];cases a.testBit i<;>cases b.testBit i<;>simp
      have hc:=ZG (s:=sdiff a b) e8 (by rw [qF,he,heb];rfl)
      have:=ih (cnt (del (sdiff a b) e)) (by omega) (ins (del a e) f) b hin hb (by rw [hd])
      omega
/-- All bases are of one size. -/
theorem Mat.zbM (M:Mat n B){a b:Nat}(ha:a∈B)(hb:b∈B):cnt a=cnt b:=Nat.le_antisymm (M.le _ a b ha hb rfl) (M.le _ b a hb ha rfl)

/-- The rank of s: the most that a base has of it. -/
def rk (B:List Nat)(s:Nat):Nat:=B.foldl (fun m b=>max m (cnt (s &&&b))) 0
theorem Qo {α:Type}(f:α→Nat): ∀(l:List α) (m k:Nat),l.foldl (fun m b=>max m (f b)) m≤k↔m≤k∧ ∀b∈l,f b≤k
  | [],m,k=>by simp
  |a::l,m,k=>by
    rw [List.foldl_cons,Qo f l]
    simp only [List.mem_cons,forall_eq_or_imp,Nat.max_le,and_assoc]
theorem YI {s k:Nat}:rk B s≤k↔ ∀b∈B,cnt (s &&&b)≤k:=by
  unfold rk;rw [Qo (fun b=>cnt (s &&&b))];simp
theorem Yv {b:Nat}(hb:b∈B)(s:Nat):cnt (s &&&b)≤rk B s:=YI.1 (Nat.le_refl _) b hb
theorem zby (hB:B≠[])(s:Nat): ∃b∈B,cnt (s &&&b)=rk B s:=by
  apply Classical.byContradiction
  intro h
  have h1: ∀b∈B,cnt (s &&&b)<rk B s:=fun b hb=>Nat.lt_of_le_of_ne (Yv hb s) fun e=>h ⟨b,hb,e⟩
  obtain ⟨c,hc⟩:=List.exists_mem_of_ne_nil B hB
  have h2:rk B s≤rk B s - 1:=YI.2 fun b hb=>by have:=h1 b hb;omega
  have:=h1 c hc
  omega
theorem y6 (s:Nat):rk B s≤cnt s:=YI.2 fun _ _=>yy (jU _ _)
theorem yc {s t:Nat}(h:sub s t):rk B s≤rk B t:=YI.2 fun b hb=>Nat.le_trans (yy (fun i hi=>by
  rw [jX] at hi ⊢;simp at hi ⊢;exact ⟨h i hi.1,hi.2⟩)) (Yv hb t)
/-- A set within a base. -/
def ind (B:List Nat)(s:Nat):Prop:= ∃b∈B,sub s b
theorem Zc {s t:Nat}(h:sub s t)(k:ind B t):ind B s:=by obtain ⟨b,hb,hs⟩:=k;exact ⟨b,hb,vN h hs⟩
theorem yG (hB:B≠[]){s:Nat}(hs:s<256):ind B s↔rk B s=cnt s:=by
  constructor
  · rintro ⟨b,hb,h⟩
    have:=Yv hb s
    rw [yf.1 h] at this
    exact Nat.le_antisymm (y6 s) this
  · intro h
    obtain ⟨b,hb,hc⟩:=zby hB s
    exact ⟨b,hb,ZA hs (by omega)⟩
/-- What is within a base grows to a base by elements of any other. -/
theorem Mat.grow (M:Mat n B){I c:Nat}(hI:ind B I)(hc:c∈B): ∃b∈B,sub I b∧sub b (I |||c):=by
  obtain ⟨b0,hb0,hs0⟩:=hI
  have key: ∀k b,b∈B→sub I b→cnt (sdiff b (I |||c))=k→ ∃b∈B,sub I b∧sub b (I |||c):=by
    intro k
    induction k using Nat.strongRecOn with
    |_ k ih=>
      intro b hb hs hk
      by_cases hh:sub b (I |||c)
      · exact ⟨b,hb,hs,hh⟩
      · obtain ⟨e,he,hn⟩:=Vp hh
        rw [vS] at hn
        have hn':=Bool.or_eq_false_iff.1 hn
        obtain ⟨f,hfc,hfb,hin⟩:=M.ex b hb c hc e he hn'.2
        have hd:sdiff (ins (del b e) f) (I |||c)=del (sdiff b (I |||c)) e:=ext fun i=>by
          simp only [qF,vt,vv,vS]
          by_cases hi:f=i
          · subst hi;simp [hfc]
          · simp only [hi,decide_false,Bool.or_false];cases b.testBit i<;>cases I.testBit i<;>cases c.testBit i<;>simp
        have h1:=ZG (s:=sdiff b (I |||c)) (M.zbd hb he) (by rw [qF,he,vS,hn];rfl)
        refine ih _ (by rw [hd];omega) _ hin (fun i hi=> ?_) rfl
        rw [vt,vv,hs i hi]
        have:e≠i:=fun h=>by subst h;rw [hi] at hn';exact absurd hn'.1 (by simp)
        simp [this]
  exact key _ b0 hb0 hs0 rfl
/-- The smaller of two independent sets takes an element of the greater. -/
theorem Mat.zba (M:Mat n B){I J:Nat}(hI:ind B I)(hJ:ind B J)(h:cnt I<cnt J): ∃x,J.testBit x=true∧I.testBit x=false∧ind B (ins I x):=by
  obtain ⟨c,hc,hJc⟩:=hJ
  obtain ⟨b,hb,hIb,hbc⟩:=M.grow hI hc
  apply Classical.byContradiction
  intro hn
  have h1:sub (b &&&J) I:=fun i hi=>by
    rw [jX] at hi;simp at hi
    cases hx:I.testBit i
    · exact absurd ⟨i,hi.2,hx,b,hb,fun j hj=>by
        rw [vt] at hj;rcases Bool.or_eq_true_iff.1 hj with hj|hj
        · exact hIb j hj
        · rw [←of_decide_eq_true hj];exact hi.1⟩ hn
    · rfl
  -- b without I lies in c without J
  have h2:sub (sdiff b I) (sdiff c J):=fun i hi=>by
    rw [qF] at hi ⊢;simp at hi
    have h3:=hbc i hi.1
    rw [vS,hi.2,Bool.false_or] at h3
    rw [h3,Bool.true_and]
    cases hj:J.testBit i
    · rfl
    · have:=h1 i (by rw [jX,hi.1,hj];rfl);rw [hi.2] at this;cases this
  have c1:=yy h2
  have c2:=y7 hIb
  have c3:=y7 hJc
  have c4:=M.zbM hb hc
  omega
/-- An independent part of s that is as1 great as1 its rank, around any independent part of s. -/
theorem Mat.Qa (M:Mat n B){s I:Nat}(hs:s<256)(hI:ind B I)(hIs:sub I s): ∃J,ind B J∧sub I J∧sub J s∧cnt J=rk B s:=by
  obtain ⟨b,hb,hc⟩:=zby M.ne s
  have hJ0:ind B (s &&&b):=⟨b,hb,yu _ _⟩
  have key: ∀k I,ind B I→sub I s→rk B s - cnt I=k→ ∃J,ind B J∧sub I J∧sub J s∧cnt J=rk B s:=by
    intro k
    induction k with
    |zero=>
      intro I hI hIs hk
      have h1:cnt I≤rk B s:=by rw [←(yG M.ne (jx (n:=8) hIs hs)).1 hI];exact yc hIs
      exact ⟨I,hI,Q3 _,hIs,by omega⟩
    |succ k ih=>
      intro I hI hIs hk
      obtain ⟨x,hx,hxI,hin⟩:=M.zba hI hJ0 (by omega)
      have hxs:s.testBit x=true:=jU _ _ x hx
      have h8:x<8:=vP (n:=8) hs hxs
      have h1:=Qe h8 hxI
      have hsub:sub (ins I x) s:=fun i hi=>by
        rw [vt] at hi;rcases Bool.or_eq_true_iff.1 hi with hi|hi
        · exact hIs i hi
        · rw [←of_decide_eq_true hi];exact hxs
      obtain ⟨J,h2,h3,h4,h5⟩:=ih (ins I x) hin hsub (by omega)
      exact ⟨J,h2,vN (Ql I x) h3,h4,h5⟩
  exact key _ I hI hIs rfl
theorem Q7 (hB:B≠[]):ind B 0:=by
  obtain ⟨c,hc⟩:=List.exists_mem_of_ne_nil B hB
  exact ⟨c,hc,fun i hi=>by rw [vR] at hi;cases hi⟩
/-- The rank of what is gathered and of what is common: no more than both together. -/
theorem Mat.zbQ (M:Mat n B){s t:Nat}(hs:s<256)(ht:t<256):rk B (s |||t)+rk B (s &&&t)≤rk B s+rk B t:=by
  have hst:s |||t<256:=Nat.or_lt_two_pow (n:=8) hs ht
  have hand:s &&&t<256:=Nat.and_lt_two_pow (n:=8) _ ht
  obtain ⟨I,hI,_,hIs,hIc⟩:=M.Qa hand (Q7 M.ne) (fun i hi=>by rw [vR] at hi;cases hi)
  obtain ⟨J,hJ,hIJ,hJs,hJc⟩:=M.Qa hst hI (vN hIs (vN (jU _ _) (Vx _ _)))
  have h1:ind B (J &&&s):=Zc (jU _ _) hJ
  have h2:ind B (J &&&t):=Zc (jU _ _) hJ
  have hJ8:J<256:=jx (n:=8) hJs hst
  have c1:cnt (J &&&s)≤rk B s:=by
    rw [←(yG M.ne (jx (n:=8) (jU _ _) hJ8)).1 h1];exact yc (yu _ _)
  have c2:cnt (J &&&t)≤rk B t:=by
    rw [←(yG M.ne (jx (n:=8) (jU _ _) hJ8)).1 h2];exact yc (yu _ _)
  have c3:=Jv (J &&&s) (J &&&t)
  have e1:J &&&s |||J &&&t=J:=ext fun i=>by
    rw [vS,jX,jX];have:=hJs i;rw [vS] at this
    revert this
    cases J.testBit i<;>cases s.testBit i<;>cases t.testBit i<;>simp
  have e2:sub I (J &&&s &&&(J &&&t)):=fun i hi=>by
    have a:=hIJ i hi;have b:=hIs i hi;rw [jX] at b;simp at b
    simp [a,b]
  have c4:=yy e2
  rw [e1] at c3
  omega
end
end Go.Proofs.YtimmcndgjbdjeaaGreat.Mt
end
section
namespace Go.Proofs.YtimmcndgjbdjeaaGreat.L
open Go.RowKit Go.Proofs.YtimmcndgjbdjeaaGreat.F Go.Proofs.YtimmcndgjbdjeaaGreatW.PrintWords Go.Proofs.YtimmcndgjbdjeaaGreatW.PrintLast Go.Proofs.YtimmcndgjbdjeaaGreatW.PrintMore
open Go.Proofs.YtimmcndgjbdjeaaGreat.Bits
open Go.Proofs.YtimmcndgjbdjeaaGreat.Mt (sdiff qF elems qV cnt yO full)
set_option linter.unusedSimpArgs false
set_option linter.unusedVariables false
theorem J1 (l:List Int)(x:Int):((List.range l.length).any fun i=>decide (l.getD i 0=x))=decide (x∈l):=by
  rw [Bool.eq_iff_iff]
  simp only [List.any_eq_true,List.mem_range,decide_eq_true_eq]
  constructor
  · rintro ⟨i,hi,h⟩
    rw [←h,List.getD_eq_getElem?_getD,List.getElem?_eq_getElem hi];exact List.getElem_mem hi
  · intro h
    obtain ⟨i,hi,he⟩:=List.getElem_of_mem h
    exact ⟨i,hi,by rw [List.getD_eq_getElem?_getD,List.getElem?_eq_getElem hi];exact he⟩
theorem zay (l:List Int)(x:Int)(hl:l.length≤17592186044416):Ev (fun k=>qO.f k l x) (decide (x∈l)):=by
  unfold qO.f
  have h:=vo (fun k i=>qO.l0 k l x i) l.length (fun i r=>decide (l.getD i 0=x)||r) false
    (by simp only [qO.l0,show ¬((l.length:Int)< (l.length:Int)) by omega,if_false];exact Ev.now _) fun i hi r hr=>by
      simp only [qO.l0,show ((i:Int)< (l.length:Int)) by omega,show (0:Int)≤(i:Int) by omega,if_true,yF,z1 (show i<9223372036854775807 by omega)]
      by_cases h:l.getD i 0=x
      · simp only [h,if_true,decide_true,Bool.true_or];exact Ev.now _
      · simp only [h,if_false,decide_false,Bool.false_or];exact hr
  rw [Qz,Bool.or_false,J1] at h
  exact h
theorem zaU (l:List Int)(x:Int)(hl:l.length≤17592186044416):Ev (fun k=>vQ.f k l x) (decide (x∈l)):=by
  unfold vQ.f jk.f qe.f
  have key: ∃r:Int,Ev (fun k=>qe.l0 k l x (l.length:Int) 0) r∧decide (r≥0)=decide (x∈l):=by
    refine ⟨(List.range l.length).foldr (fun i r=>if x=l.getD i 0 then (i:Int) else r) (-1),?_,?_⟩
    · refine vo (fun k i=>qe.l0 k l x (l.length:Int) i) l.length _ (-1) ?_ fun i hi r hr=> ?_
      · simp only [qe.l0,show ¬((l.length:Int)< (l.length:Int)) by omega,if_false];exact Ev.now _
      · simp only [qe.l0,show ((i:Int)< (l.length:Int)) by omega,show (0:Int)≤(i:Int) by omega,if_true,yF,z1 (show i<9223372036854775807 by omega)]
        by_cases h:x=l.getD i 0
        · rw [if_pos h];simp only [if_pos h];exact Ev.now _
        · rw [if_neg h];simp only [if_neg h];exact hr
    · have hh: ∀L:List Nat,(0≤L.foldr (fun i r=>if x=l.getD i 0 then (i:Int) else r) (-1))↔(L.any fun i=>decide (l.getD i 0=x))=true:=by
        intro L
        induction L with
        |nil=>simp
        |cons i t ih=>
          simp only [List.foldr_cons,List.any_cons,Bool.or_eq_true,decide_eq_true_eq]
          by_cases h:x=l.getD i 0
          · simp only [if_pos h];exact ⟨fun _=> .inl h.symm,fun _=>by omega⟩
          · simp only [if_neg h];rw [ih];exact ⟨.inr,fun hh=>hh.elim (fun e=>absurd e.symm h) id⟩
      rw [←J1,Bool.eq_iff_iff,decide_eq_true_eq]
      exact hh _
  obtain ⟨r,hr,e⟩:=key
  refine Ev.bind (Ev.bind hr (Ev.now _)) ?_
  rw [←e];exact Ev.now _
def vn (n s:Int):Bool:=decide (0≤n∧n≤8∧0≤s∧s<2 ^n.toNat)
def yh (n:Int)(l:List Int):Bool:=((List.range l.length).all fun i=>vn n (l.getD i 0)&&(decide (i=0)||decide (l.getD (i - 1) 0<l.getD i 0)))&&decide (0≤n∧n≤8)
theorem JU {i:Nat}(h:i<9223372036854775807)(h0:0<i):wrap64 ((i:Int) - 1)=((i - 1:Nat):Int):=by rw [jf (by omega) (by omega)];omega
theorem Yp (n:Int)(l:List Int)(hl:l.length≤17592186044416):Ev (fun k=>qd.f k n l) (yh n l):=by
  unfold qd.f
  have h:=vo (fun k i=>qd.l0 k n l i) l.length (fun i r=>(vn n (l.getD i 0)&&(decide (i=0)||decide (l.getD (i - 1) 0<l.getD i 0)))&&r) (decide (0≤n∧n≤8))
    (by simp only [qd.l0,show ¬((l.length:Int)< (l.length:Int)) by omega,if_false,zat,Option.bind_some];exact Ev.now _) fun i hi r hr=>by
      simp only [qd.l0,show ((i:Int)< (l.length:Int)) by omega,show (0:Int)≤(i:Int) by omega,if_true,yF,ZC,Option.bind_some,decide_eq_true_eq,z1 (show i<9223372036854775807 by omega)]
      unfold vn
      by_cases hs:0≤n∧n≤8∧0≤l.getD i 0∧l.getD i 0<2 ^n.toNat
      · simp only [hs,and_self,if_true,decide_true,Bool.true_and]
        by_cases h0:i=0
        · subst h0
          simp only [show ¬(((0:Nat):Int)>0) by omega,if_false,decide_true,Bool.true_or,Bool.true_and];exact hr
        · simp only [show ((i:Int)>0) by omega,if_true,JU (show i<9223372036854775807 by omega) (Nat.pos_of_ne_zero h0),show (0:Int)≤((i - 1:Nat):Int) by omega,show ((i - 1:Nat):Int)< (l.length:Int) by omega,yF,h0,decide_false,Bool.false_or]
          by_cases hc:l.getD (i - 1) 0<l.getD i 0
          · simp only [show ¬(l.getD (i - 1) 0≥l.getD i 0) by omega,if_false,hc,decide_true,Bool.true_and];exact hr
          · simp only [show (l.getD (i - 1) 0≥l.getD i 0) by omega,if_true,hc,decide_false,Bool.false_and];exact Ev.now _
      · simp only [if_neg hs,decide_eq_false hs,Bool.false_and];exact Ev.now _
  rw [Qy] at h
  exact h
theorem Yd (n:Int)(l:List Int)(hl:l.length≤17592186044416):Ev (fun k=>qt.f k n l) (yh n l):=by
  unfold qt.f
  have h:=vo (fun k i=>qt.l0 k n l l (l.length:Int) i) l.length (fun i r=>(vn n (l.getD i 0)&&(decide (i=0)||decide (l.getD (i - 1) 0<l.getD i 0)))&&r) (decide (0≤n∧n≤8))
    (by simp only [qt.l0,show ¬((l.length:Int)< (l.length:Int)) by omega,if_false,Qi,Option.bind_some];exact Ev.now _) fun i hi r hr=>by
      simp only [qt.l0,show ((i:Int)< (l.length:Int)) by omega,show (0:Int)≤(i:Int) by omega,if_true,yF,Vn,Option.bind_some,decide_eq_true_eq,z1 (show i<9223372036854775807 by omega)]
      unfold vn
      by_cases hs:0≤n∧n≤8∧0≤l.getD i 0∧l.getD i 0<2 ^n.toNat
      · simp only [hs,and_self,if_true,decide_true,Bool.true_and]
        by_cases h0:i=0
        · subst h0
          simp only [show ¬(((0:Nat):Int)>0) by omega,if_false,decide_true,Bool.true_or,Bool.true_and];exact hr
        · simp only [show ((i:Int)>0) by omega,if_true,JU (show i<9223372036854775807 by omega) (Nat.pos_of_ne_zero h0),show (0:Int)≤((i - 1:Nat):Int) by omega,show ((i - 1:Nat):Int)< (l.length:Int) by omega,yF,h0,decide_false,Bool.false_or]
          by_cases hc:l.getD (i - 1) 0<l.getD i 0
          · simp only [show ¬(l.getD i 0≤l.getD (i - 1) 0) by omega,if_false,hc,decide_true,Bool.true_and];exact hr
          · simp only [show (l.getD i 0≤l.getD (i - 1) 0) by omega,if_true,hc,decide_false,Bool.false_and];exact Ev.now _
      · simp only [if_neg hs,decide_eq_false hs,Bool.false_and];exact Ev.now _
  rw [Qy] at h
  exact h
/-- What a family holds, in natural numbers. -/
theorem Qr {n:Int}{l:List Int}(h:yh n l=true): ∃(N:Nat) (B:List Nat),n=N∧N≤8∧l=ints B∧(∀b∈B,b<2 ^N)∧B.Pairwise (· < ·):=by
  unfold yh at h
  simp only [Bool.and_eq_true,decide_eq_true_eq,List.all_eq_true,List.mem_range,Bool.or_eq_true] at h
  obtain ⟨h1,h2,h3⟩:=h
  obtain ⟨N,rfl⟩:=Int.eq_ofNat_of_zero_le h2
  have hset: ∀i (hi:i<l.length),0≤l[i]∧l[i]<2 ^N:=fun i hi=>by
    have:=(h1 i hi).1
    simp only [vn,decide_eq_true_eq,Int.toNat_natCast,List.getD_eq_getElem?_getD,List.getElem?_eq_getElem hi,Option.getD_some] at this
    exact ⟨this.2.2.1,this.2.2.2⟩
  have hstep: ∀i (hi:i+1<l.length),l[i]<l[i+1]:=fun i hi=>by
    have:=(h1 (i+1) hi).2
    simp only [Nat.succ_ne_zero,false_or,Nat.add_sub_cancel,List.getD_eq_getElem?_getD,List.getElem?_eq_getElem hi,List.getElem?_eq_getElem (show i<l.length by omega),Option.getD_some] at this
    exact this
  have hlt: ∀j (hj:j<l.length) i (hi:i<j),l[i]<l[j]:=by
    intro j
    induction j with
    |zero=>intro _ i hi;omega
    |succ j ih=>
      intro hj i hi
      by_cases e:i=j
      · subst e;exact hstep i hj
      · exact Int.lt_trans (ih (by omega) i (by omega)) (hstep j hj)
  refine ⟨N,l.map Int.toNat,rfl,by omega,?_,?_,?_⟩
  · apply List.ext_getElem (by simp [ints])
    intro i h1 h2
    have:=(hset i h1).1
    simp [ints];omega
  · intro b hb
    obtain ⟨x,hx,rfl⟩:=List.mem_map.1 hb
    obtain ⟨i,hi,rfl⟩:=List.getElem_of_mem hx
    have:=hset i hi
    have e:(2:Int) ^N=((2 ^N:Nat):Int):=by simp
    rw [e] at this
    generalize 2 ^N=y at this ⊢
    omega
  · rw [List.pairwise_iff_getElem]
    intro i j hi hj hij
    simp only [List.length_map] at hi hj
    have:=hlt j hj i hij
    have:=(hset i hi).1
    simp only [List.getElem_map];omega
def Vg (s:Int):Nat:=if isAny s then cnt s.toNat else 0
theorem zbC: ∀s:Nat,s<256→j6.f (s:Int)=some (cnt s:Int):=by decide+kernel
theorem Qw (s:Int):jq.f s=some (Vg s:Int):=by
  unfold jq.f Vg
  rw [YO]
  simp only [Option.bind_some]
  cases h:isAny s
  · simp
  · have hs:0≤s∧s<256:=by simpa [isAny] using h
    obtain ⟨a,rfl⟩:=Int.eq_ofNat_of_zero_le hs.1
    rw [vZ (by omega) (by omega)]
    simp only [if_true,vC.f,Option.bind_some,Int.toNat_natCast]
    rw [zbC a (by omega)];rfl
end Go.Proofs.YtimmcndgjbdjeaaGreat.L
end
section
namespace Go.Proofs.YtimmcndgjbdjeaaGreat.L
open Go.RowKit Go.Proofs.YtimmcndgjbdjeaaGreat.F Go.Proofs.YtimmcndgjbdjeaaGreatW.PrintWords Go.Proofs.YtimmcndgjbdjeaaGreatW.PrintLast Go.Proofs.YtimmcndgjbdjeaaGreatW.PrintMore
open Go.Proofs.YtimmcndgjbdjeaaGreat.Bits
open Go.Proofs.YtimmcndgjbdjeaaGreat.Mt (sdiff qF elems qV cnt full ins del Mat jI)
set_option linter.unusedSimpArgs false
set_option linter.unusedVariables false
theorem zbk: ∀a:Nat,a<256→ ∀e:Nat,e<8→a.testBit e=true→del a e+2 ^e=a:=by decide+kernel
theorem zbm: ∀a:Nat,a<256→ ∀f:Nat,f<8→a.testBit f=false→ins a f=a+2 ^f:=by decide+kernel
theorem zaV {a e:Nat}(h:a<256):del a e<256:=Nat.lt_of_le_of_lt (Mt.YY (Mt.Zf a e)) h
theorem Vw {B:List Nat}{x:Nat}:((x:Int)∈ints B)↔x∈B:=by
  simp only [ints,List.mem_map]
  constructor
  · rintro ⟨y,hy,e⟩
    have:y=x:=by omega
    rw [←this];exact hy
  · intro h;exact ⟨x,h,rfl⟩
/-- Some element of b can be put for e in a. -/
def ZO (B:List Nat)(a b e:Nat):Bool:=(elems (sdiff b a)).any fun f=>decide (ins (del a e) f∈B)
theorem Yq {B:List Nat}{N a b e:Nat}(hN:N≤8)(hb:b<2 ^N):ZO B a b e=(List.range N).any fun f=>b.testBit f&&(!a.testBit f&&decide (ins (del a e) f∈B)):=by
  unfold ZO
  rw [Bool.eq_iff_iff]
  simp only [List.any_eq_true,qV,List.mem_range,qF,Bool.and_eq_true,Bool.not_eq_true',decide_eq_true_eq]
  constructor
  · rintro ⟨f,⟨_,h1,h2⟩,h3⟩;exact ⟨f,Mt.vP hb h1,h1,h2,h3⟩
  · rintro ⟨f,h0,h1,h2,h3⟩;exact ⟨f,⟨by omega,h1,h2⟩,h3⟩
def zaW (B:List Nat):Bool:=B.all fun a=>B.all fun b=>(elems (sdiff a b)).all fun e=>ZO B a b e
def ja (n:Int)(l:List Int):Bool:=yh n l&&decide (0<l.length)&&zaW (l.map Int.toNat)
theorem j8 (B:List Nat):(ints B).map Int.toNat=B:=by
  simp only [ints,List.map_map]
  induction B with
  |nil=>rfl
  |cons x t ih=>simp only [List.map_cons,ih];rfl
/-- What a matroid holds. -/
theorem y4 {n:Int}{l:List Int}(h:ja n l=true): ∃(N:Nat) (B:List Nat),n=N∧l=ints B∧B.Pairwise (· < ·)∧Mat N B:=by
  unfold ja at h
  simp only [Bool.and_eq_true,decide_eq_true_eq] at h
  obtain ⟨⟨h1,h2⟩,h3⟩:=h
  obtain ⟨N,B,rfl,hN,rfl,hB,hp⟩:=Qr h1
  rw [j8] at h3
  refine ⟨N,B,rfl,rfl,hp,⟨hN,hB,?_,?_⟩⟩
  · intro e;rw [e] at h2;simp [ints] at h2
  · intro a ha b hb e he hbe
    have h4:=List.all_eq_true.1 (List.all_eq_true.1 (List.all_eq_true.1 h3 a ha) b hb) e (qV.2 ⟨Mt.vP (n:=8) (jI hN (hB a ha)) he,by rw [qF,he,hbe];rfl⟩)
    simp only [ZO,List.any_eq_true,qV,qF,Bool.and_eq_true,Bool.not_eq_true',decide_eq_true_eq] at h4
    obtain ⟨f,⟨_,h5,h6⟩,h7⟩:=h4
    exact ⟨f,h5,h6,h7⟩
theorem YA (a e:Nat)(ha:a<256)(he:e≤64):qu.f (a:Int) (e:Int)=some (a.testBit e):=by
  unfold qu.f;rw [vZ (by omega) (by omega),if_pos (by omega),Vf _ _ (by omega) (by omega)]
section
variable {N:Nat} {B:List Nat}
theorem zbL (hN:N≤8)(hB: ∀b∈B,b<2 ^N)(hl:B.length≤17592186044416){a b e:Nat}(ha:a<2 ^N)(hb:b<2 ^N)(he:a.testBit e=true):
    Ev (fun k=>z7.f k (N:Int) (ints B) a b e) (ZO B a b e):=by
  have ha8:=jI hN ha
  have hb8:=jI hN hb
  have he8:e<8:=Mt.vP (n:=8) ha8 he
  rw [Yq hN hb]
  unfold z7.f
  have h:=vo (fun k f=>z7.l0 k a b e f N (ints B)) N (fun f r=>(b.testBit f&&(!a.testBit f&&decide (ins (del a e) f∈B)))||r) false
    (by simp only [z7.l0,show ¬((N:Int)< (N:Int)) by omega,if_false];exact Ev.now _) fun f hf r hr=>by
      simp only [z7.l0,show ((f:Int)< (N:Int)) by omega,if_true,YA b f hb8 (by omega),YA a f ha8 (by omega),Option.bind_some,z1 (show f<9223372036854775807 by omega)]
      cases h1:b.testBit f
      · simp only [Bool.false_eq_true,if_false,Bool.false_and,Bool.false_or];exact hr
      · cases h2:a.testBit f
        · have hd:=zaV (e:=e) ha8
          have e1:=zbk a ha8 e he8 he
          have hdf:(del a e).testBit f=false:=by rw [Mt.vv,h2];rfl
          have e2:=zbm (del a e) hd f (by omega) hdf
          have ew:wrap64 ((wrap64 ((a:Int) - (shl .i64 1 (IntKind.u64.wrap (e:Int)))))+(shl .i64 1 (IntKind.u64.wrap (f:Int))))=((ins (del a e) f:Nat):Int):=by
            have p1:2 ^e≤2 ^8:=Nat.pow_le_pow_right (by decide) (by omega)
            have p2:2 ^f≤2 ^8:=Nat.pow_le_pow_right (by decide) (by omega)
            rw [vZ (by omega) (by omega),vZ (n:=(f:Int)) (by omega) (by omega),yq e (by omega),yq f (by omega),e2]
            generalize 2 ^e=x at e1 p1 ⊢
            generalize 2 ^f=y at p2 ⊢
            rw [jf (n:=(a:Int) - (x:Int)) (by omega) (by omega),jf (by omega) (by omega)]
            omega
          simp only [Bool.false_eq_true,if_false,Bool.not_false,Bool.true_and]
          simp only [show (0:Int)≤IntKind.u64.wrap (e:Int) by rw [vZ (by omega) (by omega)];omega,show (0:Int)≤IntKind.u64.wrap (f:Int) by rw [vZ (by omega) (by omega)];omega,if_true,ew]
          refine Ev.bind (zay (ints B) _ (by rw [zE];exact hl)) ?_
          simp only [Vw]
          by_cases hm:ins (del a e) f∈B
          · simp only [hm,decide_true,if_true,Bool.true_or];exact Ev.now _
          · simp only [hm,decide_false,Bool.false_eq_true,if_false,Bool.false_or];exact hr
        · simp only [if_true,Bool.not_true,Bool.false_and,Bool.and_false,Bool.false_or];exact hr
  rw [Qz,Bool.or_false] at h
  exact h
/-- The failing element of two bases, as1 the reference looks for it: over all places. -/
def ffS (N:Nat)(B:List Nat):Int×Int×Int×Bool:=
  (List.range B.length).foldr (fun i r=>(List.range B.length).foldr (fun j r=>(List.range N).foldr (fun e r=>
    if (B.getD i 0).testBit e&&(!(B.getD j 0).testBit e&& !ZO B (B.getD i 0) (B.getD j 0) e) then (((B.getD i 0:Nat):Int),((B.getD j 0:Nat):Int),(e:Int),true) else r) r) r) (0,0,0,false)
/-- The same, as1 the program looks for it: over the elements of the difference. -/
def ffI (B:List Nat):Int×Int×Int×Bool:=
  (List.range B.length).foldr (fun i r=>(List.range B.length).foldr (fun j r=>(List.range (elems (sdiff (B.getD i 0) (B.getD j 0))).length).foldr (fun m r=>
    if !ZO B (B.getD i 0) (B.getD j 0) ((elems (sdiff (B.getD i 0) (B.getD j 0))).getD m 0) then (((B.getD i 0:Nat):Int),((B.getD j 0:Nat):Int),(((elems (sdiff (B.getD i 0) (B.getD j 0))).getD m 0:Nat):Int),true) else r) r) r) (0,0,0,false)
theorem vK (i:Nat)(hi:i<B.length):B.getD i 0=B[i]:=by simp [List.getElem?_eq_getElem hi]
theorem yd (i:Nat)(hi:i<B.length):rd (ints B) (i:Int)=((B.getD i 0:Nat):Int):=by rw [Zd B i hi,vK i hi]
theorem yk (hB: ∀b∈B,b<2 ^N)(i:Nat)(hi:i<B.length):B.getD i 0<2 ^N:=by rw [vK i hi];exact hB _ (List.getElem_mem hi)
theorem zab (hN:N≤8)(hB: ∀b∈B,b<2 ^N)(hl:B.length≤17592186044416):Ev (fun k=>zz.l0 k (N:Int) (ints B) 0) (ffS N B):=by
  refine vo (fun k i=>zz.l0 k (N:Int) (ints B) i) B.length _ (0,0,0,false) ?_ fun i hi r hr=> ?_
  · simp only [zz.l0,zE,show ¬((B.length:Int)< (B.length:Int)) by omega,if_false];exact Ev.now _
  simp only [zz.l0,zE,show ((i:Int)< (B.length:Int)) by omega,show (0:Int)≤(i:Int) by omega,if_true]
  refine vo (fun k j=>zz.l1 k (N:Int) (ints B) i j) B.length _ r ?_ fun j hj r hr=> ?_
  · simp only [zz.l1,zE,show ¬((B.length:Int)< (B.length:Int)) by omega,if_false,z1 (show i<9223372036854775807 by omega)];exact hr
  simp only [zz.l1,zE,show ((j:Int)< (B.length:Int)) by omega,show (0:Int)≤(j:Int) by omega,if_true]
  have ha:=yk hB i hi
  have hb:=yk hB j hj
  have ea:=yd i hi
  have eb:=yd j hj
  refine vo (fun k e=>zz.l2 k (N:Int) (ints B) i j e) N _ r ?_ fun e he r hr=> ?_
  · simp only [zz.l2,show ¬((N:Int)< (N:Int)) by omega,if_false,z1 (show j<9223372036854775807 by omega)];exact hr
  generalize B.getD i 0=a at ha ea ⊢
  generalize B.getD j 0=b at hb eb ⊢
  simp only [zz.l2,show ((e:Int)< (N:Int)) by omega,if_true,ea,eb,YA a e (jI hN ha) (by omega),YA b e (jI hN hb) (by omega),Option.bind_some,z1 (show e<9223372036854775807 by omega)]
  cases h1:a.testBit e
  · simp only [Bool.false_eq_true,if_false,Bool.false_and];exact hr
  · cases h2:b.testBit e
    · simp only [if_true,Bool.false_eq_true,if_false,Bool.not_false,Bool.true_and]
      refine Ev.bind (zbL hN hB hl ha hb h1) ?_
      cases h3:ZO B a b e
      · simp only [Bool.false_eq_true,if_false,Bool.not_false,if_true];exact Ev.now _
      · simp only [if_true,Bool.not_true,Bool.false_eq_true,if_false];exact hr
    · simp only [if_true,Bool.not_true,Bool.false_and,Bool.and_false,Bool.false_eq_true,if_false];exact hr
theorem Yw (Q:Nat→Int→Option Bool)(p:Nat→Bool): ∀l:List Nat,(∀x∈l,Ev (fun k=>Q k (x:Int)) (p x))→Ev (fun k=>Ve (Q k) (ints l)) (l.any p)
  | [],_=>by simp only [ints,List.map_nil,Ve,List.any_nil];exact Ev.now _
  |x::t,h=>by
    simp only [ints,List.map_cons,Ve,List.any_cons]
    refine Ev.bind (h x (List.mem_cons_self ..)) ?_
    cases hp:p x
    · simp only [Bool.false_eq_true,if_false,Bool.false_or];exact Yw Q p t fun y hy=>h y (List.mem_cons_of_mem _ hy)
    · simp only [if_true,Bool.true_or];exact Ev.now _
theorem ZW {s:Nat}(h:s<256):qU (s:Int)=elems s:=by unfold qU;rw [if_pos (by simp [isAny];omega)];rfl
theorem VN {a b:Nat}(h:a<256):sdiff a b<256:=Je (n:=8) h
theorem Y2 (hN:N≤8)(hB: ∀b∈B,b<2 ^N)(hl:B.length≤17592186044416):Ev (fun k=>zy.l0 k (ints B) 0) (ffI B):=by
  refine vo (fun k i=>zy.l0 k (ints B) i) B.length _ (0,0,0,false) ?_ fun i hi r hr=> ?_
  · simp only [zy.l0,zE,show ¬((B.length:Int)< (B.length:Int)) by omega,if_false];exact Ev.now _
  simp only [zy.l0,zE,show ((i:Int)< (B.length:Int)) by omega,show (0:Int)≤(i:Int) by omega,if_true]
  have ha:=yk hB i hi
  have ea:=yd i hi
  refine vo (fun k j=>zy.l1 k (ints B) i j) B.length _ r ?_ fun j hj r hr=> ?_
  · simp only [zy.l1,zE,show ¬((B.length:Int)< (B.length:Int)) by omega,if_false,z1 (show i<9223372036854775807 by omega)];exact hr
  have hb:=yk hB j hj
  have eb:=yd j hj
  generalize B.getD i 0=a at ha ea ⊢
  generalize B.getD j 0=b at hb eb ⊢
  have ha8:=jI hN ha
  have hb8:=jI hN hb
  simp only [zy.l1,zE,show ((j:Int)< (B.length:Int)) by omega,show (0:Int)≤(j:Int) by omega,if_true,ea,eb,y0 a b (by omega) (by omega)]
  refine Ev.bind (yI _) ?_
  rw [ZW (VN ha8)]
  have hes: ∀e∈elems (sdiff a b),e<8∧a.testBit e=true:=fun e he=>by
    have:=qV.1 he
    rw [qF] at this;simp at this;exact ⟨this.1,this.2.1⟩
  have hlen:=vq (sdiff a b)
  generalize elems (sdiff a b)=es at hes hlen ⊢
  refine vo (fun k m=>zy.l2 k (ints B) i j (ints es) m) es.length _ r ?_ fun m hm r hr=> ?_
  · simp only [zy.l2,zE,show ¬((es.length:Int)< (es.length:Int)) by omega,if_false,z1 (show j<9223372036854775807 by omega)];exact hr
  have he:=hes es[m] (List.getElem_mem hm)
  have ee:=Zd es m hm
  rw [show es.getD m 0=es[m] by simp [List.getElem?_eq_getElem hm]]
  generalize es[m]=e at he ee ⊢
  simp only [zy.l2,zE,show ((m:Int)< (es.length:Int)) by omega,show (0:Int)≤(m:Int) by omega,if_true,ea,eb,ee,y0 b a (by omega) (by omega),z1 (show m<9223372036854775807 by omega)]
  refine Ev.bind (yI _) ?_
  rw [ZW (VN hb8)]
  have hlf:=vq (sdiff b a)
  simp only [zE,show (elems (sdiff b a)).length≤17592186044416 by omega,if_true]
  refine Ev.bind (Yw (fun k=>zy.q k (ints B) a e) (fun f=>decide (ins (del a e) f∈B)) (elems (sdiff b a)) fun f hf=> ?_) ?_
  · have hf8:=(qV.1 hf).1
    have p1:2 ^e≤2 ^8:=Nat.pow_le_pow_right (by decide) (by omega)
    have p2:2 ^f≤2 ^8:=Nat.pow_le_pow_right (by decide) (by omega)
    have hd:=zaV (e:=e) ha8
    simp only [zy.q,show (0:Int)≤(e:Int) by omega,show (0:Int)≤(f:Int) by omega,if_true,yq e (by omega),yq f (by omega)]
    rw [y0 a (2 ^e) (by omega) (by omega),Q1 (sdiff a (2 ^e)) (2 ^f) (by have:sdiff a (2 ^e)<256:=hd;omega) (by omega)]
    have hh:=zaU (ints B) ((sdiff a (2 ^e) |||2 ^f:Nat):Int) (by rw [zE];exact hl)
    rw [show decide (((sdiff a (2 ^e) |||2 ^f:Nat):Int)∈ints B)=decide (ins (del a e) f∈B) by rw [decide_eq_decide];exact Vw] at hh
    exact hh
  show Ev _ (if (!ZO B a b e)=true then _ else r)
  rw [show ((elems (sdiff b a)).any fun f=>decide (ins (del a e) f∈B))=ZO B a b e from rfl]
  cases h3:ZO B a b e
  · simp only [Bool.false_eq_true,if_false,Bool.not_false,if_true];exact Ev.now _
  · simp only [if_true,Bool.not_true,Bool.false_eq_true,if_false];exact hr
theorem ZL {α ρ:Type}(c:ρ→Bool)(F:α→ρ→ρ)(P:α→Bool)(h: ∀x r,c (F x r)=(P x||c r))(r:ρ): ∀l:List α,c (l.foldr F r)=(l.any P||c r)
  | []=>by simp
  |x::t=>by rw [List.foldr_cons,h,ZL c F P h r t,List.any_cons,Bool.or_assoc]
theorem VF {α ρ:Type}(c:ρ→Bool)(p:α→Bool)(g:α→ρ)(hg: ∀x,c (g x)=true)(r:ρ)(l:List α):c (l.foldr (fun x r=>if p x=true then g x else r) r)=(l.any p||c r):=
  ZL c _ p (fun x r=>by cases h:p x<;>simp [h,hg]) r l
theorem zbf (hN:N≤8)(hB: ∀b∈B,b<2 ^N):(ffS N B).2.2.2= !zaW B:=by
  unfold ffS
  rw [ZL (fun r:Int×Int×Int×Bool=>r.2.2.2) _ (fun i=>(List.range B.length).any fun j=>(List.range N).any fun e=>(B.getD i 0).testBit e&&(!(B.getD j 0).testBit e&& !ZO B (B.getD i 0) (B.getD j 0) e)) (fun i r=>by
    rw [ZL (fun r:Int×Int×Int×Bool=>r.2.2.2) _ (fun j=>(List.range N).any fun e=>(B.getD i 0).testBit e&&(!(B.getD j 0).testBit e&& !ZO B (B.getD i 0) (B.getD j 0) e)) (fun j r=>by
      exact VF (fun r:Int×Int×Int×Bool=>r.2.2.2) _ _ (fun _=>rfl) r _)])]
  rw [Bool.or_false,Bool.eq_iff_iff]
  simp only [List.any_eq_true,List.mem_range,Bool.and_eq_true,Bool.not_eq_true']
  constructor
  · rintro ⟨i,hi,j,hj,e,he,h1,h2,h3⟩
    rw [vK i hi] at h1 h3
    rw [vK j hj] at h2 h3
    rw [Bool.eq_false_iff]
    intro hm
    have:=List.all_eq_true.1 (List.all_eq_true.1 (List.all_eq_true.1 hm B[i] (List.getElem_mem hi)) B[j] (List.getElem_mem hj)) e (qV.2 ⟨by omega,by rw [qF,h1,h2];rfl⟩)
    rw [h3] at this;cases this
  · intro hm
    obtain ⟨a,ha,h⟩:=List.all_eq_false.1 hm
    obtain ⟨b,hb,h⟩:=List.all_eq_false.1 (Bool.eq_false_iff.2 h)
    obtain ⟨e,he,h⟩:=List.all_eq_false.1 (Bool.eq_false_iff.2 h)
    obtain ⟨i,hi,rfl⟩:=List.getElem_of_mem ha
    obtain ⟨j,hj,rfl⟩:=List.getElem_of_mem hb
    have hd:=(qV.1 he).2
    rw [qF] at hd
    simp only [Bool.and_eq_true,Bool.not_eq_true'] at hd
    refine ⟨i,hi,j,hj,e,Mt.vP (hB _ ha) hd.1,?_⟩
    rw [vK i hi,vK j hj]
    exact ⟨hd.1,hd.2,Bool.eq_false_iff.2 h⟩
theorem za5:(ffI B).2.2.2= !zaW B:=by
  unfold ffI
  rw [ZL (fun r:Int×Int×Int×Bool=>r.2.2.2) _ (fun i=>(List.range B.length).any fun j=>(List.range (elems (sdiff (B.getD i 0) (B.getD j 0))).length).any fun m=> !ZO B (B.getD i 0) (B.getD j 0) ((elems (sdiff (B.getD i 0) (B.getD j 0))).getD m 0)) (fun i r=>by
    rw [ZL (fun r:Int×Int×Int×Bool=>r.2.2.2) _ (fun j=>(List.range (elems (sdiff (B.getD i 0) (B.getD j 0))).length).any fun m=> !ZO B (B.getD i 0) (B.getD j 0) ((elems (sdiff (B.getD i 0) (B.getD j 0))).getD m 0)) (fun j r=>by
      exact VF (fun r:Int×Int×Int×Bool=>r.2.2.2) _ _ (fun _=>rfl) r _)])]
  rw [Bool.or_false,Bool.eq_iff_iff]
  simp only [List.any_eq_true,List.mem_range,Bool.not_eq_true']
  constructor
  · rintro ⟨i,hi,j,hj,m,hm,h3⟩
    rw [vK i hi,vK j hj] at h3 hm
    rw [Bool.eq_false_iff]
    intro hmm
    rw [show (elems (sdiff B[i] B[j])).getD m 0=(elems (sdiff B[i] B[j]))[m] by simp [List.getElem?_eq_getElem hm]] at h3
    have:=List.all_eq_true.1 (List.all_eq_true.1 (List.all_eq_true.1 hmm B[i] (List.getElem_mem hi)) B[j] (List.getElem_mem hj)) _ (List.getElem_mem hm)
    rw [h3] at this;cases this
  · intro hm
    obtain ⟨a,ha,h⟩:=List.all_eq_false.1 hm
    obtain ⟨b,hb,h⟩:=List.all_eq_false.1 (Bool.eq_false_iff.2 h)
    obtain ⟨e,he,h⟩:=List.all_eq_false.1 (Bool.eq_false_iff.2 h)
    obtain ⟨i,hi,rfl⟩:=List.getElem_of_mem ha
    obtain ⟨j,hj,rfl⟩:=List.getElem_of_mem hb
    obtain ⟨m,hm,rfl⟩:=List.getElem_of_mem he
    refine ⟨i,hi,j,hj,m,?_,?_⟩
    · rw [vK i hi,vK j hj];exact hm
    · rw [vK i hi,vK j hj,show (elems (sdiff B[i] B[j])).getD m 0=(elems (sdiff B[i] B[j]))[m] by simp [List.getElem?_eq_getElem hm]]
      exact Bool.eq_false_iff.2 h
end
theorem Zn (n:Int)(l:List Int)(hl:l.length≤17592186044416):Ev (fun k=>qP.f k n l) (ja n l):=by
  unfold qP.f zz.f ja
  have hf:=Yp n l hl
  cases h:yh n l
  · rw [h] at hf
    refine Ev.bind (Ev.bind hf (by simp only [Bool.false_eq_true,if_false];exact Ev.now _)) (Ev.bind hf ?_)
    simp only [Bool.false_eq_true,if_false,Bool.false_and];exact Ev.now _
  · rw [h] at hf
    obtain ⟨N,B,rfl,hN,rfl,hB,hp⟩:=Qr h
    rw [zE] at hl
    refine Ev.bind (Ev.bind hf (by simp only [if_true];exact zab hN hB hl)) (Ev.bind hf ?_)
    simp only [if_true,zbf hN hB,Bool.not_not,j8,Bool.true_and,zE]
    by_cases h0:0<B.length
    · simp only [show ((B.length:Int)>0) by omega,if_true,h0,decide_true,Bool.true_and];exact Ev.now _
    · simp only [show ¬((B.length:Int)>0) by omega,if_false,h0,decide_false,Bool.false_and];exact Ev.now _
theorem QR (n:Int)(l:List Int)(hl:l.length≤17592186044416):Ev (fun k=>jn.f k n l) (ja n l):=by
  unfold jn.f zy.f ja
  have hf:=Yd n l hl
  cases h:yh n l
  · rw [h] at hf
    refine Ev.bind (Ev.bind hf (by simp only [Bool.false_eq_true,if_false];exact Ev.now _)) (Ev.bind hf ?_)
    simp only [Bool.false_eq_true,if_false,Bool.false_and];exact Ev.now _
  · rw [h] at hf
    obtain ⟨N,B,rfl,hN,rfl,hB,hp⟩:=Qr h
    rw [zE] at hl
    refine Ev.bind (Ev.bind hf (by simp only [if_true];exact Y2 hN hB hl)) (Ev.bind hf ?_)
    simp only [if_true,za5,Bool.not_not,j8,Bool.true_and,zE]
    by_cases h0:0<B.length
    · simp only [show ((B.length:Int)>0) by omega,if_true,h0,decide_true,Bool.true_and];exact Ev.now _
    · simp only [show ¬((B.length:Int)>0) by omega,if_false,h0,decide_false,Bool.false_and];exact Ev.now _
end Go.Proofs.YtimmcndgjbdjeaaGreat.L
end
section
namespace Go.Proofs.YtimmcndgjbdjeaaGreat.L
open Go.RowKit Go.Proofs.YtimmcndgjbdjeaaGreat.F Go.Proofs.YtimmcndgjbdjeaaGreatW.PrintWords Go.Proofs.YtimmcndgjbdjeaaGreatW.PrintLast Go.Proofs.YtimmcndgjbdjeaaGreatW.PrintMore
open Go.Proofs.YtimmcndgjbdjeaaGreat.Bits
open Go.Proofs.YtimmcndgjbdjeaaGreat.Mt (sdiff qF elems qV cnt yO full ins del Mat jI rk)
set_option linter.unusedSimpArgs false
set_option linter.unusedVariables false
/-- The count, halving: a small number's bits. -/
theorem Y4: ∀s:Nat,s<256→cnt s=s%2+cnt (s / 2):=by decide+kernel
theorem Jw: ∀(d s:Nat) (x:Int),s<2 ^d→d≤8→0≤x→x+d≤100→Ev (fun k=>z8.l0 k (s:Int) x) (x+cnt s)
  |0,s,x,hs,_,h0,h1=>by
    have:s=0:=by simp at hs;exact hs
    subst this
    refine Ev.succ ?_
    simp only [z8.l0,show ¬(((0:Nat):Int)>0) by omega,if_false]
    exact Ev.some (by rw [Mt.Qn];omega)
  |d+1,s,x,hs,hd,h0,h1=>by
    refine Ev.succ ?_
    by_cases hz:s=0
    · subst hz
      simp only [z8.l0,show ¬(((0:Nat):Int)>0) by omega,if_false]
      exact Ev.some (by rw [Mt.Qn];omega)
    · have h256:s<256:=Nat.lt_of_lt_of_le hs (Nat.pow_le_pow_right (n:=2) (by decide) hd)
      have hb:=Y4 s h256
      have e1:Go.bits .and .i64 (s:Int) 1=((s%2:Nat):Int):=by
        have:=Zw s 1 (by omega) (by omega)
        rw [show ((1:Nat):Int)=1 from rfl] at this
        rw [this,Nat.and_one_is_mod]
      have e2:(s:Int) / 2=((s / 2:Nat):Int):=by omega
      have hlt:s / 2<2 ^d:=by rw [Nat.pow_succ] at hs;omega
      simp only [z8.l0,show ((s:Int)>0) by omega,if_true,e1,e2]
      rw [jf (by omega) (by omega)]
      have ih:=Jw d (s / 2) (x+((s%2:Nat):Int)) hlt (by omega) (by omega) (by omega)
      rw [show x+(cnt s:Int)=x+((s%2:Nat):Int)+(cnt (s / 2):Int) by rw [hb];omega]
      exact ih
theorem yo (s:Int):Ev (fun k=>z8.f k s) (Vg s:Int):=by
  unfold z8.f Vg isAny
  simp only [ZC,Option.bind_some,decide_eq_true_eq]
  by_cases h:0≤s∧s<256
  · obtain ⟨a,rfl⟩:=Int.eq_ofNat_of_zero_le h.1
    simp only [show (0:Int)≤8∧(8:Int)≤8∧(0:Int)≤(a:Int)∧(a:Int)<2 ^(8:Int).toNat from ⟨by omega,by omega,by omega,by simpa using h.2⟩,and_self,if_true,h,decide_true,Int.toNat_natCast]
    have:=Jw 8 a 0 (by omega) (by omega) (by omega) (by omega)
    simpa using this
  · have h': ¬(0≤(8:Int)∧(8:Int)≤8∧0≤s∧s<2 ^(8:Int).toNat):=fun hh=>h ⟨hh.2.2.1,by simpa using hh.2.2.2⟩
    first
      |(simp only [if_neg h',if_neg h,decide_eq_false h,Bool.false_eq_true,if_false];exact Ev.now _)
      |(simp only [h,decide_false,Bool.false_eq_true,if_false];exact Ev.now _)
theorem y9 {s:Nat}(h:s<256):Vg (s:Int)=cnt s:=by unfold Vg;rw [if_pos (by simp [isAny];omega)];rfl
theorem zcf (a b:Int):j7.f a b=some (max a b):=by
  unfold j7.f
  by_cases h:a>b
  · rw [if_pos h,show max a b=a by omega]
  · rw [if_neg h,show max a b=b by omega]
theorem Vt (B:List Nat)(s:Nat): ∀n,n≤B.length→((List.range n).foldl (fun (m:Int) i=>max m ((cnt (s &&&B.getD i 0):Nat):Int)) 0)=((rk (B.take n) s:Nat):Int)
  |0,_=>by simp [rk]
  |n+1,h=>by
    rw [List.range_succ,List.foldl_append,Vt B s n (by omega),List.take_succ_eq_append_getElem (by omega)]
    simp only [List.foldl_cons,List.foldl_nil,rk,List.foldl_append]
    rw [show B.getD n 0=B[n] by simp [List.getElem?_eq_getElem (show n<B.length by omega)]]
    omega
section
variable {N:Nat} {B:List Nat}
theorem zbK (hN:N≤8)(hB: ∀b∈B,b<2 ^N)(hl:B.length≤17592186044416){s:Nat}(hs:s<256)(n:Int):Ev (fun k=>qW.f k n (ints B) s) (rk B s:Int):=by
  unfold qW.f
  have key:=Q4 (fun k (m:Int) i=>qW.l0 k s m i n (ints B)) B.length (fun m i=>max m ((cnt (s &&&B.getD i 0):Nat):Int)) (fun _ _=>True) id
    (fun m _=>by simp only [qW.l0,zE,show ¬((B.length:Int)< (B.length:Int)) by omega,if_false];exact Ev.now _)
    (fun i m hi _=>⟨trivial,fun r hr=>by
      have hb:=yk hB i hi
      have eb:=yd i hi
      generalize B.getD i 0=b at hb eb hr
      have hb8:=jI hN hb
      simp only [qW.l0,zE,show ((i:Int)< (B.length:Int)) by omega,show (0:Int)≤(i:Int) by omega,if_true,eb,Zw b s (by omega) (by omega),z1 (show i<9223372036854775807 by omega)]
      refine Ev.bind (yo _) ?_
      rw [y9 (Nat.lt_of_le_of_lt Nat.and_le_left hb8),Nat.and_comm b s]
      simp only [zcf,Option.bind_some]
      exact hr⟩) 0 trivial
  have e:=Vt B s B.length (Nat.le_refl _)
  rw [List.take_length] at e
  rw [e] at key
  exact key
theorem Ym (hN:N≤8)(hB: ∀b∈B,b<2 ^N)(hl:B.length≤17592186044416){s:Nat}(hs:s<256)(n:Int):Ev (fun k=>qL.f k n (ints B) s) (rk B s:Int):=by
  unfold qL.f
  have key:=Q4 (fun k (m:Int) i=>qL.l0 k s m (ints B) ((ints B).length:Int) i) B.length (fun m i=>max m ((cnt (s &&&B.getD i 0):Nat):Int)) (fun _ _=>True) id
    (fun m _=>by simp only [qL.l0,zE,show ¬((B.length:Int)< (B.length:Int)) by omega,if_false];exact Ev.now _)
    (fun i m hi _=>⟨trivial,fun r hr=>by
      have hb:=yk hB i hi
      have eb:=yd i hi
      generalize B.getD i 0=b at hb eb hr
      have hb8:=jI hN hb
      simp only [qL.l0,zE,show ((i:Int)< (B.length:Int)) by omega,show (0:Int)≤(i:Int) by omega,if_true,eb,Zw s b (by omega) (by omega),z1 (show i<9223372036854775807 by omega),Qw,Option.bind_some]
      rw [y9 (Nat.lt_of_le_of_lt Nat.and_le_left hs)]
      rw [show mx m ((cnt (s &&&b):Nat):Int)=max m ((cnt (s &&&b):Nat):Int) by unfold mx;omega]
      simpa [zE] using hr⟩) 0 trivial
  have e:=Vt B s B.length (Nat.le_refl _)
  rw [List.take_length] at e
  rw [e] at key
  simpa [zE] using key
end
theorem y8 {N:Nat}(hN:N≤8):qZ.f (N:Int)=some ((full N:Nat):Int):=by
  unfold qZ.f full
  have hp:(2:Nat) ^N≤2 ^8:=Nat.pow_le_pow_right (by decide) hN
  have h0:0< (2:Nat) ^N:=Nat.two_pow_pos N
  simp only [Qi,Option.bind_some,decide_eq_true_eq,show (0:Int)≤(N:Int)∧(N:Int)≤8 from ⟨by omega,by omega⟩,and_self,if_true,show (0:Int)≤(N:Int) by omega,yq N (by omega)]
  generalize 2 ^N=x at hp h0
  rw [jf (by omega) (by omega)];simp;omega
theorem vU {N:Nat}(hN:N≤8):qn.f (N:Int)=some ((full N:Nat):Int):=by
  unfold qn.f full
  have hp:(2:Nat) ^N≤2 ^8:=Nat.pow_le_pow_right (by decide) hN
  have h0:0< (2:Nat) ^N:=Nat.two_pow_pos N
  simp only [zat,Option.bind_some,decide_eq_true_eq,show (0:Int)≤(N:Int)∧(N:Int)≤8 from ⟨by omega,by omega⟩,and_self,if_true]
  rw [vZ (by omega) (by omega),yq N (by omega),if_pos (by omega)]
  generalize 2 ^N=x at hp h0
  rw [jf (by omega) (by omega)];simp;omega
theorem YL {N s:Nat}:((s:Int)≤((full N:Nat):Int))↔s<2 ^N:=by
  have h0:0< (2:Nat) ^N:=Nat.two_pow_pos N
  unfold full
  generalize 2 ^N=x at h0
  omega
end Go.Proofs.YtimmcndgjbdjeaaGreat.L
end
