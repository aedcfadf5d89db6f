/- Several texts of this session in one: Fx9, Base, Bits, Loops, LLists, LTabs, Mat, Mat2, Mat4, Lin, Mat3, Elim, LGauss, LSets, LDual. Conditions: as each theorem says. -/
import Derived.Test.YtkeobjoaimedaaaGreatDoorZMatricesCard0
import Derived.Test.YtkeobjoaimedaaaGreatDoorZMatricesCard1
import Derived.Test.YtkeobjoaimedaaaGreatDoorZMatricesCard2
import Derived.Test.YtkeobjoaimedaaaGreatDoorZMatricesCard3
import Derived.Laws.BitsLemmas
set_option maxHeartbeats 8000000
set_option maxRecDepth 100000
set_option linter.unusedSimpArgs false
set_option linter.unusedVariables false
namespace Go.Proofs.YtkeobjoaimedaaaGreatDoor
section
namespace F
open Go.RowKit Wa Wb Wc
attribute [local go_sem] j9 vk vI vF jQ jN j6 jZ
mutual
def zm.j0:Nat→Int→Bool→Int→Int→Int→List Int→Int→Int→Int→List Int→Int→Int→Int→List Int→Option (Bool)
 |0,_,_,_,_,_,_,_,_,_,_,_,_,_,_=>none
 |k+1,x4,x112,x513000,x513001,x513002,x513003,x520000,x520001,x520002,x520003,x533000,x533001,x533002,x533003=>if x112=true then (none) else ((zG.f k x533000 x533001 x533002 x533003).bind fun t572=>((zq.f k t572).bind fun bt573=>((zu.f k x533000 x533001 x533002 x533003).bind fun t581=>(if t572.toList=t581.toList then ((zw.f k x533000 x533001 x533002 x533003).bind fun t582=>(if (bt573.2.2.2.2 != t582)=true then (none) else (if bt573.2.2.2.2=true then ((zN.f k bt573.1 bt573.2.1 bt573.2.2.1 bt573.2.2.2.1 x533000 x533001 x533002 x533003).bind fun t583=>(zm.j1 k x4 (!t583) x513000 x513001 x513002 x513003 x520000 x520001 x520002 x520003)) else (zm.j1 k x4 false x513000 x513001 x513002 x513003 x520000 x520001 x520002 x520003)))) else (none)))))
def zm.j1:Nat→Int→Bool→Int→Int→Int→List Int→Int→Int→Int→List Int→Option (Bool)
 |0,_,_,_,_,_,_,_,_,_,_=>none
 |k+1,x4,x138,x513000,x513001,x513002,x513003,x520000,x520001,x520002,x520003=>if x138=true then (none) else ((zw.f k x513000 x513001 x513002 x513003).bind fun t584=>(if t584=true then ((qz.f k x520000 x520001 x520002 x520003).bind fun bt585=>((zN.f k bt585.1 bt585.2.1 bt585.2.2.1 bt585.2.2.2 x520000 x520001 x520002 x520003).bind fun t591=>(if t591=true then ((jD.f x513002 x4).bind fun t592=>(if t592=true then ((qa.f k x520000 x520001 x520002 x520003 x4).bind fun t593=>((qR.f k x513000 x513001 x513002 x513003 x4).bind fun t594=>(some (t593==t594)))) else (some true))) else (none)))) else (some true)))
end
def zm.f (k:Nat)(l0:List Int):Option (Bool):=(yj.f l0).bind fun t504=>(if t504=true then (some true) else ((qX.f k l0).bind fun bt505=>((qz.f k bt505.1 bt505.2.1 bt505.2.2.1 bt505.2.2.2.1).bind fun bt513=>((qN.f k l0).bind fun bt520=>((q7.f k l0).bind fun bt534=>((zr.f k bt534.1 bt534.2).bind fun t536=>((qO.f k l0).bind fun t537=>((zq.f k t537).bind fun bt538=>((zl.f k t537).bind fun bt546=>((qa.f k bt505.1 bt505.2.1 bt505.2.2.1 bt505.2.2.2.1 bt505.2.2.2.2).bind fun t554=>((qR.f k bt505.1 bt505.2.1 bt505.2.2.1 bt505.2.2.2.1 bt505.2.2.2.2).bind fun t555=>(if t554=t555 then ((zj.f k bt505.1 bt505.2.1 bt505.2.2.1 bt505.2.2.2.1).bind fun bt556=>((zN.f k bt513.1 bt513.2.1 bt513.2.2.1 bt513.2.2.2 bt556.1 bt556.2.1 bt556.2.2.1 bt556.2.2.2).bind fun t562=>(if t562=true then ((q9.f k bt520.1 bt520.2.1 bt520.2.2.1 bt520.2.2.2.1 bt520.2.2.2.2.1 bt520.2.2.2.2.2.1 bt520.2.2.2.2.2.2.1 bt520.2.2.2.2.2.2.2).bind fun t563=>((zN.f k bt520.1 bt520.2.1 bt520.2.2.1 bt520.2.2.2.1 bt520.2.2.2.2.1 bt520.2.2.2.2.2.1 bt520.2.2.2.2.2.2.1 bt520.2.2.2.2.2.2.2).bind fun t564=>(if (t563 != t564)=true then (none) else ((zp.f k bt534.1 bt534.2).bind fun t565=>(if t536=t565 then (if t536=0 then (if (bt538.2.2.2.2 != bt546.2.2.2.2)=true then (none) else ((zN.f k bt538.1 bt538.2.1 bt538.2.2.1 bt538.2.2.2.1 bt546.1 bt546.2.1 bt546.2.2.1 bt546.2.2.2.1).bind fun t566=>(if t566=true then ((zx.f k bt520.1 bt520.2.1 bt520.2.2.1 bt520.2.2.2.1).bind fun t567=>((zw.f k bt520.1 bt520.2.1 bt520.2.2.1 bt520.2.2.2.1).bind fun t568=>(zm.j0 k bt505.2.2.2.2 (t567 != t568) bt505.1 bt505.2.1 bt505.2.2.1 bt505.2.2.2.1 bt513.1 bt513.2.1 bt513.2.2.1 bt513.2.2.2 bt520.1 bt520.2.1 bt520.2.2.1 bt520.2.2.2.1))) else (none)))) else (if bt534.1=0 then (none) else (if (Int.tmod (wrap64 (t536*bt534.2)) bt534.1)=1 then (if (bt538.2.2.2.2 != bt546.2.2.2.2)=true then (none) else ((zN.f k bt538.1 bt538.2.1 bt538.2.2.1 bt538.2.2.2.1 bt546.1 bt546.2.1 bt546.2.2.1 bt546.2.2.2.1).bind fun t569=>(if t569=true then ((zx.f k bt520.1 bt520.2.1 bt520.2.2.1 bt520.2.2.2.1).bind fun t570=>((zw.f k bt520.1 bt520.2.1 bt520.2.2.1 bt520.2.2.2.1).bind fun t571=>(zm.j0 k bt505.2.2.2.2 (t570 != t571) bt505.1 bt505.2.1 bt505.2.2.1 bt505.2.2.2.1 bt513.1 bt513.2.1 bt513.2.2.1 bt513.2.2.2 bt520.1 bt520.2.1 bt520.2.2.1 bt520.2.2.2.1))) else (none)))) else (none)))) else (none)))))) else (none)))) else (none)))))))))))))
def zm.T11:Bool×List (List Nat×List Nat):=(true,[([],[]),([],[]),([0,1],[0,1]),([],[]),([],[]),([3,4,2],[3,4]),([2,5],[2,5]),([6,5],[6]),([7],[7]),([7],[7]),([9,7,7],[7,9]),([8,10,10,7],[7,8,10]),([11,7],[7,11]),([7,12],[7,12]),([13,11],[13]),([14],[14]),([14],[14]),([15,16,14,14],[14,15,16]),([14],[14]),([14],[14]),([18,19,17,14],[14,18,19]),([17,20,14],[14,17,20]),([14,21],[14,21]),([22,20],[22]),([23],[23]),([23],[23]),([23],[23]),([25,26,23,23],[23,25,26]),([24,27,23],[23,24,27]),([23,28],[23,28]),([29,27],[29]),([30],[30]),([31,30],[30,31]),([32,30,30],[30,32]),([33],[33]),([33],[33]),([34,35,33],[33,34,35]),([33],[33]),([36,37,33],[33,36,37]),([38,33],[33,38]),([33,39,30],[30,33,39]),([30,40],[30,40]),([41,33],[41]),([42],[42]),([42],[42]),([43,44,42],[42,43,44]),([42,45],[42,45]),([46,42],[46]),([47],[47]),([47],[47]),([48,49,47,47],[47,48,49]),([50,47],[47,50]),([47,51],[47,51]),([52,50],[52]),([53],[53]),([54,53,53],[53,54]),([53],[53]),([56,55,53],[53,56]),([55,57,53],[53,55,57]),([53,58],[53,58])])
def zm.B11:List Nat:=[0,0,3,0,0,31,63,127,255,255,767,2047,4095,8191,16383,32767,32767,131071,32767,32767,1048575,2097151,4194303,8388607,16777215,16777215,16777215,117440511,268435455,536870911,1073741823,2147483647,4294967295,8589934591,17179869183,17179869183,68719476735,17179869183,274877906943,549755813887,1099511627775,2199023255551,4398046511103,8796093022207,8796093022207,35184372088831,70368744177663,140737488355327,281474976710655,281474976710655,1125899906842623,2251799813685247,4503599627370495,9007199254740991,18014398509481983,36028797018963967,18014398509481983,144115188075855871,288230376151711743,576460752303423487]
theorem zm.zcD:jX .any (opsOf Tryz.f3 11)=zm.T11:=by kernel_rfl
theorem zm.zbb:jh zm.T11.2 zm.B11=true:=by kernel_rfl
def zm.T17:Bool×List (List Nat×List Nat):=(true,[([],[]),([0],[0]),([1],[1]),([2,1],[2]),([3],[3]),([4,3,3],[3,4]),([3],[3]),([5,6,5,3],[3,5,6]),([7,7,3],[3,7]),([8],[8]),([9,8],[8,9]),([8],[8]),([10,11,8,8],[8,10,11]),([12,8],[8,12]),([13,12,8],[8,13]),([14],[14]),([14],[14]),([15,16,14,14],[14,15,16]),([14],[14]),([14],[14]),([18,19,17,14],[14,18,19]),([17,20,14],[14,17,20]),([14,21,8],[8,14,21]),([8,22,3],[3,8,22]),([3,23],[3,23]),([24,20,0,1,2,3,4,5,6,7,8,9,10,11,12,13,14,15,16,17,18,19,20,21,22,23,24],[24])])
def zm.B17:List Nat:=[0,1,3,7,15,31,15,127,255,511,1023,511,4095,8191,16383,32767,32767,131071,32767,32767,1048575,2097151,4194303,8388607,16777215,33554431]
theorem zm.Jx:jX .any (opsOf Tryz.f3 17)=zm.T17:=by kernel_rfl
theorem zm.ZQ:jh zm.T17.2 zm.B17=true:=by kernel_rfl
theorem zm.calls (k:Nat)(A0:Option Addr)(c0:Nat)(l0:List Int)(r:Bool)(w:World)(hr0:Kd.C (Kd.int .u8) w A0 l0.length l0)(hc0:l0.length≤c0)(h:zm.f k l0=some r)(hv:jH w:=by exact jH.step HV.out (by repeat (first|(with_reducible first|exact HB.out|apply z8|apply z6|apply zE|refine qi ?_ (Aside0.out (by assumption)))|exact HB.out))):Calls Tryz.prog 3 #[.slice A0 l0.length c0] w fun e w'=>e= .returned (.bool r)∧Below w.heap.size w w':=by have hu26:=Tryz.underlying26;have HR0:=Aside0.mk hr0;have HC0:=Aside0.mk hc0;clear hr0 hc0;have HV:=Aside0.mk hv;clear hv;have HB:=Aside0.mk (Below.refl w.heap.size w);have H:=h;unfold zm.f at H;clear h;replace H:=zF H;obtain ⟨t504,A2,H⟩:=H;by_cases c3:t504=true;(·subst c3;rw [if_pos rfl] at H;obtain rfl:=Option.some.inj H;go_enter Tryz.func3,Tryz.ntmps3;(go_wp2_with (first|((with_reducible refine sqc 4 ?_);refine sql 20 Tryz.func4 #[.slice A0 l0.length c0] ?_;(with_reducible refine (yj.calls _ _ l0 true _ ?side1 ?side2 A2.out).mono ?_);(case side1=>exact sqC HR0.out);(case side2=>exact HC0.out);rintro e w' ⟨rfl,⟨nd,rfl⟩⟩;refine ⟨_,rfl,?_⟩)));go_ret;exact ⟨sqE,sqB⟩);(·obtain rfl:=sqf c3;rw [if_neg sqz] at H;replace H:=zF H;obtain ⟨⟨t505,t506,t507,t508,t511⟩,A4,H⟩:=H;(try dsimp only at H);replace H:=zF H;obtain ⟨⟨t513,t514,t515,t516⟩,A5,H⟩:=H;(try dsimp only at H);replace H:=zF H;obtain ⟨⟨t520,t521,t522,t523,t526,t527,t528,t529⟩,A6,H⟩:=H;(try dsimp only at H);replace H:=zF H;obtain ⟨⟨t534,t535⟩,A7,H⟩:=H;(try dsimp only at H);replace H:=zF H;obtain ⟨t536,A8,H⟩:=H;replace H:=zF H;obtain ⟨t537,A9,H⟩:=H;replace H:=zF H;obtain ⟨⟨t538,t539,t540,t541,t544⟩,A10,H⟩:=H;(try dsimp only at H);replace H:=zF H;obtain ⟨⟨t546,t547,t548,t549,t552⟩,A11,H⟩:=H;(try dsimp only at H);have HC12:=Aside0.mk H;clear H;go_enter Tryz.func3,Tryz.ntmps3;(go_upto_region 11 with (first|((with_reducible refine sqc 4 ?_);refine sql 20 Tryz.func4 #[.slice A0 l0.length c0] ?_;(with_reducible refine (yj.calls _ _ l0 false _ ?side1 ?side2 A2.out).mono ?_);(case side1=>exact sqC HR0.out);(case side2=>exact HC0.out);rintro e w' ⟨rfl,⟨nd,rfl⟩⟩;refine ⟨_,rfl,?_⟩)|((with_reducible refine sqc 5 ?_);refine sql 23 Tryz.func5 #[.slice A0 l0.length c0] ?_;(with_reducible refine (qX.calls k _ _ l0 t505 t506 t507 t508 t511 _ ?side1 ?side2 A4.out).mono ?_);(case side1=>exact sqC HR0.out);(case side2=>exact HC0.out);rintro e w13 ⟨v509,rfl,ho0,hb⟩;refine ⟨_,rfl,?_⟩;have q_:=f2 (Kd.zX ho0 (zt sqB)) (za sqB hb);clear HB;obtain ⟨HO510,HB⟩:=q_)|((with_reducible refine sqd 3 ?_);refine sqx #[.int .i64 0,.int .i64 0,.int .i64 0,.slice none 0 0] 26 ?_;intro gb512 hg w14 hbox hb;have q_:=f5 (sqb HO510 hb) (za sqB hb) hbox (sqS hg:w.heap.size≤gb512) (sqS hg:w.heap.size≤gb512);clear HO510 HB;obtain ⟨HO510,HB,BK512,GW512,GE512⟩:=q_;clear hb hbox hg;obtain ⟨_,_,_,_,_,_,_,_⟩:=z4 BK512.out;obtain ⟨Ao16,co16,eo16⟩:=Kd.zH HO510.out;subst eo16)|((with_reducible refine sqc 6 ?_);refine sql 27 Tryz.func6 #[.agg #[.int .i64 t505,.int .i64 t506,.int .i64 t507,.slice Ao16 t508.length co16]] ?_;(with_reducible refine (qz.calls k t505 t506 t507 _ _ t508 t513 t514 t515 t516 _ ?side1 ?side2 A5.out).mono ?_);(case side1=>refine (Kd.ze (e:=3) (base:=w.heap.size) (ok:=fun k_=>True) (n:=t508.length) (c:=co16) ?_).2.2;exact (by refine sqR ?_;exact (Kd.zn (Kd.zd (p:=⟨gb512,3,none⟩) (Kd.zd (p:=⟨gb512,2,none⟩) (Kd.zd (p:=⟨gb512,1,none⟩) (Kd.zd (p:=⟨gb512,0,none⟩) (Kd.zv HO510.out BK512.out (by decide)) (fun _ hk=>hk.2) (.int .i64 t505)) (fun _ hk=>hk.2) (.int .i64 t506)) (fun _ hk=>hk.2) (.int .i64 t507)) (fun _ hk=>hk.2) (.slice Ao16 t508.length co16)) (fun _ h_=>h_.1))));(case side2=>exact (Kd.ze HO510.out).2.1);rintro e w17 ⟨v517,rfl,ho0,hb⟩;refine ⟨_,rfl,?_⟩;have q_:=f4 (Kd.qw (by refine sqR ?_;exact (Kd.zn (Kd.zd (p:=⟨gb512,3,none⟩) (Kd.zd (p:=⟨gb512,2,none⟩) (Kd.zd (p:=⟨gb512,1,none⟩) (Kd.zd (p:=⟨gb512,0,none⟩) (Kd.zv HO510.out BK512.out (by decide)) (fun _ hk=>hk.2) (.int .i64 t505)) (fun _ hk=>hk.2) (.int .i64 t506)) (fun _ hk=>hk.2) (.int .i64 t507)) (fun _ hk=>hk.2) (.slice Ao16 t508.length co16)) (fun _ h_=>h_.1))) hb) (Kd.zX ho0 (zt sqB)) (qo (g:=gb512) (o:= .cells #[.int .i64 t505,.int .i64 t506,.int .i64 t507,.slice Ao16 t508.length co16] 26 (0,0)) (by refine sqK ?_;refine zc (cs:=#[.int .i64 t505,.int .i64 t506,.int .i64 t507,.slice none 0 0]) ?_ 3 _ rfl;refine sqK ?_;refine zc (cs:=#[.int .i64 t505,.int .i64 t506,.int .i64 0,.slice none 0 0]) ?_ 2 _ rfl;refine sqK ?_;refine zc (cs:=#[.int .i64 t505,.int .i64 0,.int .i64 0,.slice none 0 0]) ?_ 1 _ rfl;refine sqK ?_;refine zc (cs:=#[.int .i64 0,.int .i64 0,.int .i64 0,.slice none 0 0]) ?_ 0 _ rfl;refine sqK ?_;exact BK512.out) hb) (za sqB hb);clear HO510 BK512 HB;obtain ⟨HO510,HO518,BK512,HB⟩:=q_)|((with_reducible refine sqd 5 ?_);refine sqx #[.int .i64 0,.int .i64 0,.int .i64 0,.slice none 0 0] 26 ?_;intro gb519 hg w18 hbox hb;have q_:=f9 (sqb HO510 hb) (sqb HO518 hb) (sqh BK512 hb) (za sqB hb) hbox (sqS hg:w.heap.size≤gb519) (sqS hg:w.heap.size≤gb519) (sqn BK512 hg) (sqm BK512 hg);clear HO510 HO518 BK512 HB;obtain ⟨HO510,HO518,BK512,HB,BK519,GW519,GE519,NB512_519,NB519_512⟩:=q_;clear hb hbox hg;have hnb19:=NB519_512.out;have hnc19:=NB512_519.out;obtain ⟨_,_,_,_,_,_,_,_⟩:=z4 BK519.out;obtain ⟨Ao21,co21,eo21⟩:=Kd.zH HO518.out;subst eo21)|((with_reducible refine sqc 7 ?_);refine sql 30 Tryz.func7 #[.slice A0 l0.length c0] ?_;(with_reducible refine (qN.calls k _ _ l0 t520 t521 t522 t523 t526 t527 t528 t529 _ ?side1 ?side2 A6.out).mono ?_);(case side1=>exact Kd.ql HR0.out sqB);(case side2=>exact HC0.out);rintro e w22 ⟨v524,v530,rfl,ho0,ho1,hb⟩;refine ⟨_,rfl,?_⟩;have q_:=f7 (Kd.qw (by refine sqR ?_;exact (Kd.zn (Kd.zd (p:=⟨gb519,3,none⟩) (Kd.zd (p:=⟨gb519,2,none⟩) (Kd.zd (p:=⟨gb519,1,none⟩) (Kd.zd (p:=⟨gb519,0,none⟩) (Kd.zv HO510.out BK519.out (by decide)) (fun _ hk=>hk.2) (.int .i64 t513)) (fun _ hk=>hk.2) (.int .i64 t514)) (fun _ hk=>hk.2) (.int .i64 t515)) (fun _ hk=>hk.2) (.slice Ao21 t516.length co21)) (fun _ h_=>h_.1))) hb) (Kd.qw (by refine sqR ?_;exact (Kd.zn (Kd.zd (p:=⟨gb519,3,none⟩) (Kd.zd (p:=⟨gb519,2,none⟩) (Kd.zd (p:=⟨gb519,1,none⟩) (Kd.zd (p:=⟨gb519,0,none⟩) (Kd.zv HO518.out BK519.out (by decide)) (fun _ hk=>hk.2) (.int .i64 t513)) (fun _ hk=>hk.2) (.int .i64 t514)) (fun _ hk=>hk.2) (.int .i64 t515)) (fun _ hk=>hk.2) (.slice Ao21 t516.length co21)) (fun _ h_=>h_.1))) hb) (Kd.zX ho0 (zt sqB)) (Kd.zX ho1 (zt sqB)) (sqh BK512 hb) (qo (g:=gb519) (o:= .cells #[.int .i64 t513,.int .i64 t514,.int .i64 t515,.slice Ao21 t516.length co21] 26 (0,0)) (by refine sqK ?_;refine zc (cs:=#[.int .i64 t513,.int .i64 t514,.int .i64 t515,.slice none 0 0]) ?_ 3 _ rfl;refine sqK ?_;refine zc (cs:=#[.int .i64 t513,.int .i64 t514,.int .i64 0,.slice none 0 0]) ?_ 2 _ rfl;refine sqK ?_;refine zc (cs:=#[.int .i64 t513,.int .i64 0,.int .i64 0,.slice none 0 0]) ?_ 1 _ rfl;refine sqK ?_;refine zc (cs:=#[.int .i64 0,.int .i64 0,.int .i64 0,.slice none 0 0]) ?_ 0 _ rfl;refine sqK ?_;exact BK519.out) hb) (za sqB hb);clear HO510 HO518 BK512 BK519 HB;obtain ⟨HO510,HO518,HO525,HO531,BK512,BK519,HB⟩:=q_)|((with_reducible refine sqd 6 ?_);refine sqx #[.int .i64 0,.int .i64 0,.int .i64 0,.slice none 0 0] 26 ?_;intro gb532 hg w23 hbox hb;have q_:=f14 (sqb HO510 hb) (sqb HO518 hb) (sqb HO525 hb) (sqb HO531 hb) (sqh BK512 hb) (sqh BK519 hb) (za sqB hb) hbox (sqS hg:w.heap.size≤gb532) (sqS hg:w.heap.size≤gb532) (sqn BK512 hg) (sqm BK512 hg) (sqn BK519 hg) (sqm BK519 hg);clear HO510 HO518 HO525 HO531 BK512 BK519 HB;obtain ⟨HO510,HO518,HO525,HO531,BK512,BK519,HB,BK532,GW532,GE532,NB512_532,NB532_512,NB519_532,NB532_519⟩:=q_;clear hb hbox hg)|((with_reducible refine sqd 7 ?_);refine sqx #[.int .i64 0,.int .i64 0,.int .i64 0,.slice none 0 0] 26 ?_;intro gb533 hg w24 hbox hb;have q_:=f17 (sqb HO510 hb) (sqb HO518 hb) (sqb HO525 hb) (sqb HO531 hb) (sqh BK512 hb) (sqh BK519 hb) (sqh BK532 hb) (za sqB hb) hbox (sqS hg:w.heap.size≤gb533) (sqS hg:w.heap.size≤gb533) (sqn BK512 hg) (sqm BK512 hg) (sqn BK519 hg) (sqm BK519 hg) (sqn BK532 hg) (sqm BK532 hg);clear HO510 HO518 HO525 HO531 BK512 BK519 BK532 HB;obtain ⟨HO510,HO518,HO525,HO531,BK512,BK519,BK532,HB,BK533,GW533,GE533,NB512_533,NB533_512,NB519_533,NB533_519,NB532_533,NB533_532⟩:=q_;clear hb hbox hg;have hnb25:=NB532_512.out;have hnc25:=NB512_532.out;have hnb26:=NB532_519.out;have hnc26:=NB519_532.out;have hnb27:=NB532_533.out;have hnc27:=NB533_532.out;obtain ⟨_,_,_,_,_,_,_,_⟩:=z4 BK532.out;obtain ⟨Ao29,co29,eo29⟩:=Kd.zH HO525.out;subst eo29;have hnb30:=NB533_512.out;have hnc30:=NB512_533.out;have hnb31:=NB533_519.out;have hnc31:=NB519_533.out;obtain ⟨_,_,_,_,_,_,_,_⟩:=z4 BK533.out;obtain ⟨Ao33,co33,eo33⟩:=Kd.zH HO531.out;subst eo33)|((with_reducible refine sqc 8 ?_);refine sql 35 Tryz.func8 #[.slice A0 l0.length c0] ?_;(with_reducible refine (q7.calls k _ _ l0 t534 t535 _ ?side1 ?side2 A7.out).mono ?_);(case side1=>exact Kd.ql HR0.out sqB);(case side2=>exact HC0.out);rintro e w34 ⟨rfl,hb⟩;refine ⟨_,rfl,?_⟩;have q_:=f9 (Kd.qw (by refine sqR ?_;exact (Kd.zn (Kd.zn (Kd.zd (p:=⟨gb533,3,none⟩) (Kd.zd (p:=⟨gb533,2,none⟩) (Kd.zd (p:=⟨gb533,1,none⟩) (Kd.zd (p:=⟨gb533,0,none⟩) (Kd.zd (p:=⟨gb532,3,none⟩) (Kd.zd (p:=⟨gb532,2,none⟩) (Kd.zd (p:=⟨gb532,1,none⟩) (Kd.zd (p:=⟨gb532,0,none⟩) (Kd.zv (Kd.zv HO510.out BK532.out (by decide)) BK533.out (by decide)) (fun _ hk=>hk.1.2) (.int .i64 t520)) (fun _ hk=>hk.1.2) (.int .i64 t521)) (fun _ hk=>hk.1.2) (.int .i64 t522)) (fun _ hk=>hk.1.2) (.slice Ao29 t523.length co29)) (fun _ hk=>hk.2) (.int .i64 t526)) (fun _ hk=>hk.2) (.int .i64 t527)) (fun _ hk=>hk.2) (.int .i64 t528)) (fun _ hk=>hk.2) (.slice Ao33 t529.length co33)) (fun _ h_=>h_.1)) (fun _ h_=>h_.1))) hb) (Kd.qw (by refine sqR ?_;exact (Kd.zn (Kd.zn (Kd.zd (p:=⟨gb533,3,none⟩) (Kd.zd (p:=⟨gb533,2,none⟩) (Kd.zd (p:=⟨gb533,1,none⟩) (Kd.zd (p:=⟨gb533,0,none⟩) (Kd.zd (p:=⟨gb532,3,none⟩) (Kd.zd (p:=⟨gb532,2,none⟩) (Kd.zd (p:=⟨gb532,1,none⟩) (Kd.zd (p:=⟨gb532,0,none⟩) (Kd.zv (Kd.zv HO518.out BK532.out (by decide)) BK533.out (by decide)) (fun _ hk=>hk.1.2) (.int .i64 t520)) (fun _ hk=>hk.1.2) (.int .i64 t521)) (fun _ hk=>hk.1.2) (.int .i64 t522)) (fun _ hk=>hk.1.2) (.slice Ao29 t523.length co29)) (fun _ hk=>hk.2) (.int .i64 t526)) (fun _ hk=>hk.2) (.int .i64 t527)) (fun _ hk=>hk.2) (.int .i64 t528)) (fun _ hk=>hk.2) (.slice Ao33 t529.length co33)) (fun _ h_=>h_.1)) (fun _ h_=>h_.1))) hb) (Kd.qw (by refine sqR ?_;exact (Kd.zn (Kd.zn (Kd.zd (p:=⟨gb533,3,none⟩) (Kd.zd (p:=⟨gb533,2,none⟩) (Kd.zd (p:=⟨gb533,1,none⟩) (Kd.zd (p:=⟨gb533,0,none⟩) (Kd.zd (p:=⟨gb532,3,none⟩) (Kd.zd (p:=⟨gb532,2,none⟩) (Kd.zd (p:=⟨gb532,1,none⟩) (Kd.zd (p:=⟨gb532,0,none⟩) (Kd.zv (Kd.zv HO525.out BK532.out (by decide)) BK533.out (by decide)) (fun _ hk=>hk.1.2) (.int .i64 t520)) (fun _ hk=>hk.1.2) (.int .i64 t521)) (fun _ hk=>hk.1.2) (.int .i64 t522)) (fun _ hk=>hk.1.2) (.slice Ao29 t523.length co29)) (fun _ hk=>hk.2) (.int .i64 t526)) (fun _ hk=>hk.2) (.int .i64 t527)) (fun _ hk=>hk.2) (.int .i64 t528)) (fun _ hk=>hk.2) (.slice Ao33 t529.length co33)) (fun _ h_=>h_.1)) (fun _ h_=>h_.1))) hb) (Kd.qw (by refine sqR ?_;exact (Kd.zn (Kd.zn (Kd.zd (p:=⟨gb533,3,none⟩) (Kd.zd (p:=⟨gb533,2,none⟩) (Kd.zd (p:=⟨gb533,1,none⟩) (Kd.zd (p:=⟨gb533,0,none⟩) (Kd.zd (p:=⟨gb532,3,none⟩) (Kd.zd (p:=⟨gb532,2,none⟩) (Kd.zd (p:=⟨gb532,1,none⟩) (Kd.zd (p:=⟨gb532,0,none⟩) (Kd.zv (Kd.zv HO531.out BK532.out (by decide)) BK533.out (by decide)) (fun _ hk=>hk.1.2) (.int .i64 t520)) (fun _ hk=>hk.1.2) (.int .i64 t521)) (fun _ hk=>hk.1.2) (.int .i64 t522)) (fun _ hk=>hk.1.2) (.slice Ao29 t523.length co29)) (fun _ hk=>hk.2) (.int .i64 t526)) (fun _ hk=>hk.2) (.int .i64 t527)) (fun _ hk=>hk.2) (.int .i64 t528)) (fun _ hk=>hk.2) (.slice Ao33 t529.length co33)) (fun _ h_=>h_.1)) (fun _ h_=>h_.1))) hb) (sqh BK512 hb) (sqh BK519 hb) (qo (g:=gb532) (o:= .cells #[.int .i64 t520,.int .i64 t521,.int .i64 t522,.slice Ao29 t523.length co29] 26 (0,0)) (by refine sqK ?_;refine zg ?_ NB532_533.out _;refine sqK ?_;refine zg ?_ NB532_533.out _;refine sqK ?_;refine zg ?_ NB532_533.out _;refine sqK ?_;refine zg ?_ NB532_533.out _;refine sqK ?_;refine zc (cs:=#[.int .i64 t520,.int .i64 t521,.int .i64 t522,.slice none 0 0]) ?_ 3 _ rfl;refine sqK ?_;refine zc (cs:=#[.int .i64 t520,.int .i64 t521,.int .i64 0,.slice none 0 0]) ?_ 2 _ rfl;refine sqK ?_;refine zc (cs:=#[.int .i64 t520,.int .i64 0,.int .i64 0,.slice none 0 0]) ?_ 1 _ rfl;refine sqK ?_;refine zc (cs:=#[.int .i64 0,.int .i64 0,.int .i64 0,.slice none 0 0]) ?_ 0 _ rfl;refine sqK ?_;exact BK532.out) hb) (qo (g:=gb533) (o:= .cells #[.int .i64 t526,.int .i64 t527,.int .i64 t528,.slice Ao33 t529.length co33] 26 (0,0)) (by refine sqK ?_;refine zc (cs:=#[.int .i64 t526,.int .i64 t527,.int .i64 t528,.slice none 0 0]) ?_ 3 _ rfl;refine sqK ?_;refine zc (cs:=#[.int .i64 t526,.int .i64 t527,.int .i64 0,.slice none 0 0]) ?_ 2 _ rfl;refine sqK ?_;refine zc (cs:=#[.int .i64 t526,.int .i64 0,.int .i64 0,.slice none 0 0]) ?_ 1 _ rfl;refine sqK ?_;refine zc (cs:=#[.int .i64 0,.int .i64 0,.int .i64 0,.slice none 0 0]) ?_ 0 _ rfl;refine sqK ?_;refine zg ?_ NB533_532.out _;refine sqK ?_;refine zg ?_ NB533_532.out _;refine sqK ?_;refine zg ?_ NB533_532.out _;refine sqK ?_;refine zg ?_ NB533_532.out _;refine sqK ?_;exact BK533.out) hb) (za sqB hb);clear HO510 HO518 HO525 HO531 BK512 BK519 BK532 BK533 HB;obtain ⟨HO510,HO518,HO525,HO531,BK512,BK519,BK532,BK533,HB⟩:=q_)|((with_reducible refine sqc 9 ?_);refine sql 40 Tryz.func9 #[.int .i64 t534,.int .i64 t535] ?_;(with_reducible refine (zr.calls k t534 t535 t536 _ A8.out).mono ?_);rintro e w' ⟨rfl,⟨nd,rfl⟩⟩;refine ⟨_,rfl,?_⟩;(try (rw [Q3 w34];generalize hq_:World.drewN w34 _=w34;have n0_:Aside0 (Kd.R (Kd.int .i64) 3 w34 w.heap.size (fun _=>True) (.slice Ao16 t508.length co16) t508):=⟨by rw [←hq_];exact (sqR HO510.out)⟩;have n1_:Aside0 (Kd.R (Kd.int .i64) 3 w34 w.heap.size (fun _=>True) (.slice Ao21 t516.length co21) t516):=⟨by rw [←hq_];exact (sqR HO518.out)⟩;have n2_:Aside0 (Kd.R (Kd.int .i64) 3 w34 w.heap.size (fun _=>True) (.slice Ao29 t523.length co29) t523):=⟨by rw [←hq_];exact (sqR HO525.out)⟩;have n3_:Aside0 (Kd.R (Kd.int .i64) 3 w34 w.heap.size (fun _=>True) (.slice Ao33 t529.length co33) t529):=⟨by rw [←hq_];exact (sqR HO531.out)⟩;have n4_:Aside0 (w34.heap[gb512]? =some (.cells #[.int .i64 t505,.int .i64 t506,.int .i64 t507,.slice Ao16 t508.length co16] 26 (0,0))):=⟨by rw [←hq_];exact (sqK BK512.out)⟩;have n5_:Aside0 (w34.heap[gb519]? =some (.cells #[.int .i64 t513,.int .i64 t514,.int .i64 t515,.slice Ao21 t516.length co21] 26 (0,0))):=⟨by rw [←hq_];exact (sqK BK519.out)⟩;have n6_:Aside0 (w34.heap[gb532]? =some (.cells #[.int .i64 t520,.int .i64 t521,.int .i64 t522,.slice Ao29 t523.length co29] 26 (0,0))):=⟨by rw [←hq_];exact (sqK BK532.out)⟩;have n7_:Aside0 (w34.heap[gb533]? =some (.cells #[.int .i64 t526,.int .i64 t527,.int .i64 t528,.slice Ao33 t529.length co33] 26 (0,0))):=⟨by rw [←hq_];exact (sqK BK533.out)⟩;have n8_:Aside0 (Below w.heap.size w w34):=⟨by rw [←hq_];exact sqB⟩;clear HO510 HO518 HO525 HO531 BK512 BK519 BK532 BK533 HB hq_;have HO510:=n0_;have HO518:=n1_;have HO525:=n2_;have HO531:=n3_;have BK512:=n4_;have BK519:=n5_;have BK532:=n6_;have BK533:=n7_;have HB:=n8_;clear n0_ n1_ n2_ n3_ n4_ n5_ n6_ n7_ n8_;have hczqgb512_0:w34.cell? ⟨gb512,0,none⟩=some (.int .i64 t505):=(zo BK512.out 0).trans rfl;have hfzqgb512_0:=zB BK512.out 0;have hczqgb512_1:w34.cell? ⟨gb512,1,none⟩=some (.int .i64 t506):=(zo BK512.out 1).trans rfl;have hfzqgb512_1:=zB BK512.out 1;have hczqgb512_2:w34.cell? ⟨gb512,2,none⟩=some (.int .i64 t507):=(zo BK512.out 2).trans rfl;have hfzqgb512_2:=zB BK512.out 2;have hczqgb512_3:w34.cell? ⟨gb512,3,none⟩=some (.slice Ao16 t508.length co16):=(zo BK512.out 3).trans rfl;have hfzqgb512_3:=zB BK512.out 3;have hczqgb519_0:w34.cell? ⟨gb519,0,none⟩=some (.int .i64 t513):=(zo BK519.out 0).trans rfl;have hfzqgb519_0:=zB BK519.out 0;have hczqgb519_1:w34.cell? ⟨gb519,1,none⟩=some (.int .i64 t514):=(zo BK519.out 1).trans rfl;have hfzqgb519_1:=zB BK519.out 1;have hczqgb519_2:w34.cell? ⟨gb519,2,none⟩=some (.int .i64 t515):=(zo BK519.out 2).trans rfl;have hfzqgb519_2:=zB BK519.out 2;have hczqgb519_3:w34.cell? ⟨gb519,3,none⟩=some (.slice Ao21 t516.length co21):=(zo BK519.out 3).trans rfl;have hfzqgb519_3:=zB BK519.out 3;have hczqgb532_0:w34.cell? ⟨gb532,0,none⟩=some (.int .i64 t520):=(zo BK532.out 0).trans rfl;have hfzqgb532_0:=zB BK532.out 0;have hczqgb532_1:w34.cell? ⟨gb532,1,none⟩=some (.int .i64 t521):=(zo BK532.out 1).trans rfl;have hfzqgb532_1:=zB BK532.out 1;have hczqgb532_2:w34.cell? ⟨gb532,2,none⟩=some (.int .i64 t522):=(zo BK532.out 2).trans rfl;have hfzqgb532_2:=zB BK532.out 2;have hczqgb532_3:w34.cell? ⟨gb532,3,none⟩=some (.slice Ao29 t523.length co29):=(zo BK532.out 3).trans rfl;have hfzqgb532_3:=zB BK532.out 3;have hczqgb533_0:w34.cell? ⟨gb533,0,none⟩=some (.int .i64 t526):=(zo BK533.out 0).trans rfl;have hfzqgb533_0:=zB BK533.out 0;have hczqgb533_1:w34.cell? ⟨gb533,1,none⟩=some (.int .i64 t527):=(zo BK533.out 1).trans rfl;have hfzqgb533_1:=zB BK533.out 1;have hczqgb533_2:w34.cell? ⟨gb533,2,none⟩=some (.int .i64 t528):=(zo BK533.out 2).trans rfl;have hfzqgb533_2:=zB BK533.out 2;have hczqgb533_3:w34.cell? ⟨gb533,3,none⟩=some (.slice Ao33 t529.length co33):=(zo BK533.out 3).trans rfl;have hfzqgb533_3:=zB BK533.out 3)))|((with_reducible refine sqc 10 ?_);refine sql 42 Tryz.func10 #[.slice A0 l0.length c0] ?_;(with_reducible refine (qO.calls k _ _ l0 t537 _ ?side1 ?side2 A9.out).mono ?_);(case side1=>exact sqC (Kd.ql HR0.out HB.out));(case side2=>exact HC0.out);rintro e w35 ⟨rfl,hb⟩;refine ⟨_,rfl,?_⟩;have q_:=f9 (sqb HO510 hb) (sqb HO518 hb) (sqb HO525 hb) (sqb HO531 hb) (sqh BK512 hb) (sqh BK519 hb) (sqh BK532 hb) (sqh BK533 hb) (za sqB hb);clear HO510 HO518 HO525 HO531 BK512 BK519 BK532 BK533 HB;obtain ⟨HO510,HO518,HO525,HO531,BK512,BK519,BK532,BK533,HB⟩:=q_)|((with_reducible refine sqc 11 ?_);refine sql 45 Tryz.func11 #[.string t537] ?_;(with_reducible refine (zq.calls k t537 t538 t539 t540 t541 t544 _ A10.out).mono ?_);rintro e w36 ⟨v542,rfl,ho0,hb⟩;refine ⟨_,rfl,?_⟩;have q_:=f10 (sqb HO510 hb) (sqb HO518 hb) (sqb HO525 hb) (sqb HO531 hb) (Kd.zX ho0 (zt sqB)) (sqh BK512 hb) (sqh BK519 hb) (sqh BK532 hb) (sqh BK533 hb) (za sqB hb);clear HO510 HO518 HO525 HO531 BK512 BK519 BK532 BK533 HB;obtain ⟨HO510,HO518,HO525,HO531,HO543,BK512,BK519,BK532,BK533,HB⟩:=q_)|((with_reducible refine sqd 12 ?_);refine sqx #[.int .i64 0,.int .i64 0,.int .i64 0,.slice none 0 0] 26 ?_;intro gb545 hg w37 hbox hb;have q_:=f21 (sqb HO510 hb) (sqb HO518 hb) (sqb HO525 hb) (sqb HO531 hb) (sqb HO543 hb) (sqh BK512 hb) (sqh BK519 hb) (sqh BK532 hb) (sqh BK533 hb) (za sqB hb) hbox (sqS hg:w.heap.size≤gb545) (sqS hg:w.heap.size≤gb545) (sqn BK512 hg) (sqm BK512 hg) (sqn BK519 hg) (sqm BK519 hg) (sqn BK532 hg) (sqm BK532 hg) (sqn BK533 hg) (sqm BK533 hg);clear HO510 HO518 HO525 HO531 HO543 BK512 BK519 BK532 BK533 HB;obtain ⟨HO510,HO518,HO525,HO531,HO543,BK512,BK519,BK532,BK533,HB,BK545,GW545,GE545,NB512_545,NB545_512,NB519_545,NB545_519,NB532_545,NB545_532,NB533_545,NB545_533⟩:=q_;clear hb hbox hg;have hnb38:=NB545_512.out;have hnc38:=NB512_545.out;have hnb39:=NB545_519.out;have hnc39:=NB519_545.out;have hnb40:=NB545_532.out;have hnc40:=NB532_545.out;have hnb41:=NB545_533.out;have hnc41:=NB533_545.out;obtain ⟨_,_,_,_,_,_,_,_⟩:=z4 BK545.out;obtain ⟨Ao43,co43,eo43⟩:=Kd.zH HO543.out;subst eo43)|((with_reducible refine sqc 12 ?_);refine sql 50 Tryz.func12 #[.string t537] ?_;(with_reducible refine (zl.calls k t537 t546 t547 t548 t549 t552 _ A11.out).mono ?_);rintro e w44 ⟨v550,rfl,ho0,hb⟩;refine ⟨_,rfl,?_⟩;have q_:=f12 (Kd.qw (by refine sqR ?_;exact (Kd.zn (Kd.zd (p:=⟨gb545,3,none⟩) (Kd.zd (p:=⟨gb545,2,none⟩) (Kd.zd (p:=⟨gb545,1,none⟩) (Kd.zd (p:=⟨gb545,0,none⟩) (Kd.zv HO510.out BK545.out (by decide)) (fun _ hk=>hk.2) (.int .i64 t538)) (fun _ hk=>hk.2) (.int .i64 t539)) (fun _ hk=>hk.2) (.int .i64 t540)) (fun _ hk=>hk.2) (.slice Ao43 t541.length co43)) (fun _ h_=>h_.1))) hb) (Kd.qw (by refine sqR ?_;exact (Kd.zn (Kd.zd (p:=⟨gb545,3,none⟩) (Kd.zd (p:=⟨gb545,2,none⟩) (Kd.zd (p:=⟨gb545,1,none⟩) (Kd.zd (p:=⟨gb545,0,none⟩) (Kd.zv HO518.out BK545.out (by decide)) (fun _ hk=>hk.2) (.int .i64 t538)) (fun _ hk=>hk.2) (.int .i64 t539)) (fun _ hk=>hk.2) (.int .i64 t540)) (fun _ hk=>hk.2) (.slice Ao43 t541.length co43)) (fun _ h_=>h_.1))) hb) (Kd.qw (by refine sqR ?_;exact (Kd.zn (Kd.zd (p:=⟨gb545,3,none⟩) (Kd.zd (p:=⟨gb545,2,none⟩) (Kd.zd (p:=⟨gb545,1,none⟩) (Kd.zd (p:=⟨gb545,0,none⟩) (Kd.zv HO525.out BK545.out (by decide)) (fun _ hk=>hk.2) (.int .i64 t538)) (fun _ hk=>hk.2) (.int .i64 t539)) (fun _ hk=>hk.2) (.int .i64 t540)) (fun _ hk=>hk.2) (.slice Ao43 t541.length co43)) (fun _ h_=>h_.1))) hb) (Kd.qw (by refine sqR ?_;exact (Kd.zn (Kd.zd (p:=⟨gb545,3,none⟩) (Kd.zd (p:=⟨gb545,2,none⟩) (Kd.zd (p:=⟨gb545,1,none⟩) (Kd.zd (p:=⟨gb545,0,none⟩) (Kd.zv HO531.out BK545.out (by decide)) (fun _ hk=>hk.2) (.int .i64 t538)) (fun _ hk=>hk.2) (.int .i64 t539)) (fun _ hk=>hk.2) (.int .i64 t540)) (fun _ hk=>hk.2) (.slice Ao43 t541.length co43)) (fun _ h_=>h_.1))) hb) (Kd.qw (by refine sqR ?_;exact (Kd.zn (Kd.zd (p:=⟨gb545,3,none⟩) (Kd.zd (p:=⟨gb545,2,none⟩) (Kd.zd (p:=⟨gb545,1,none⟩) (Kd.zd (p:=⟨gb545,0,none⟩) (Kd.zv HO543.out BK545.out (by decide)) (fun _ hk=>hk.2) (.int .i64 t538)) (fun _ hk=>hk.2) (.int .i64 t539)) (fun _ hk=>hk.2) (.int .i64 t540)) (fun _ hk=>hk.2) (.slice Ao43 t541.length co43)) (fun _ h_=>h_.1))) hb) (Kd.zX ho0 (zt sqB)) (sqh BK512 hb) (sqh BK519 hb) (sqh BK532 hb) (sqh BK533 hb) (qo (g:=gb545) (o:= .cells #[.int .i64 t538,.int .i64 t539,.int .i64 t540,.slice Ao43 t541.length co43] 26 (0,0)) (by refine sqK ?_;refine zc (cs:=#[.int .i64 t538,.int .i64 t539,.int .i64 t540,.slice none 0 0]) ?_ 3 _ rfl;refine sqK ?_;refine zc (cs:=#[.int .i64 t538,.int .i64 t539,.int .i64 0,.slice none 0 0]) ?_ 2 _ rfl;refine sqK ?_;refine zc (cs:=#[.int .i64 t538,.int .i64 0,.int .i64 0,.slice none 0 0]) ?_ 1 _ rfl;refine sqK ?_;refine zc (cs:=#[.int .i64 0,.int .i64 0,.int .i64 0,.slice none 0 0]) ?_ 0 _ rfl;refine sqK ?_;exact BK545.out) hb) (za sqB hb);clear HO510 HO518 HO525 HO531 HO543 BK512 BK519 BK532 BK533 BK545 HB;obtain ⟨HO510,HO518,HO525,HO531,HO543,HO551,BK512,BK519,BK532,BK533,BK545,HB⟩:=q_)|((with_reducible refine sqd 14 ?_);refine sqx #[.int .i64 0,.int .i64 0,.int .i64 0,.slice none 0 0] 26 ?_;intro gb553 hg w45 hbox hb;have q_:=f25 (sqb HO510 hb) (sqb HO518 hb) (sqb HO525 hb) (sqb HO531 hb) (sqb HO543 hb) (sqb HO551 hb) (sqh BK512 hb) (sqh BK519 hb) (sqh BK532 hb) (sqh BK533 hb) (sqh BK545 hb) (za sqB hb) hbox (sqS hg:w.heap.size≤gb553) (sqS hg:w.heap.size≤gb553) (sqn BK512 hg) (sqm BK512 hg) (sqn BK519 hg) (sqm BK519 hg) (sqn BK532 hg) (sqm BK532 hg) (sqn BK533 hg) (sqm BK533 hg) (sqn BK545 hg) (sqm BK545 hg);clear HO510 HO518 HO525 HO531 HO543 HO551 BK512 BK519 BK532 BK533 BK545 HB;obtain ⟨HO510,HO518,HO525,HO531,HO543,HO551,BK512,BK519,BK532,BK533,BK545,HB,BK553,GW553,GE553,NB512_553,NB553_512,NB519_553,NB553_519,NB532_553,NB553_532,NB533_553,NB553_533,NB545_553,NB553_545⟩:=q_;clear hb hbox hg;have hnb46:=NB553_512.out;have hnc46:=NB512_553.out;have hnb47:=NB553_519.out;have hnc47:=NB519_553.out;have hnb48:=NB553_532.out;have hnc48:=NB532_553.out;have hnb49:=NB553_533.out;have hnc49:=NB533_553.out;have hnb50:=NB553_545.out;have hnc50:=NB545_553.out;obtain ⟨_,_,_,_,_,_,_,_⟩:=z4 BK553.out;obtain ⟨Ao52,co52,eo52⟩:=Kd.zH HO551.out;subst eo52)));(try simp only [Act.put,List.setIfInBounds_toArray,List.set_cons_zero,List.set_cons_succ]);(go_cut [112] (fun v112 wc=> ∃(kq:Nat) (x112_11:Bool),v112= .bool x112_11∧Aside0 (zm.j0 kq t511 x112_11 t505 t506 t507 t508 t513 t514 t515 t516 t520 t521 t522 t523=some r)∧Aside0 (kq≤k)∧Aside0 (Kd.R (Kd.int .i64) 3 wc w.heap.size (fun _=>True) (.slice Ao16 t508.length co16) t508)∧Aside0 (Kd.R (Kd.int .i64) 3 wc w.heap.size (fun _=>True) (.slice Ao21 t516.length co21) t516)∧Aside0 (Kd.R (Kd.int .i64) 3 wc w.heap.size (fun _=>True) (.slice Ao29 t523.length co29) t523)∧Aside0 (wc.heap[gb512]? =some (.cells #[.int .i64 t505,.int .i64 t506,.int .i64 t507,(.slice Ao16 t508.length co16)] 26 (0,0)))∧Aside0 (wc.heap[gb519]? =some (.cells #[.int .i64 t513,.int .i64 t514,.int .i64 t515,(.slice Ao21 t516.length co21)] 26 (0,0)))∧Aside0 (wc.heap[gb532]? =some (.cells #[.int .i64 t520,.int .i64 t521,.int .i64 t522,(.slice Ao29 t523.length co29)] 26 (0,0)))∧Aside0 (Below w.heap.size w wc)));(case first=>as_aux_lemma=>have H:=HC12.out;clear HC12;replace H:=zF H;obtain ⟨t554,A53,H⟩:=H;replace H:=zF H;obtain ⟨t555,A54,H⟩:=H;by_cases c55:t554=t555;(·rw [if_pos c55] at H;have c55b0:(t554==t555)=true:=beq_iff_eq.mpr c55;have c55b1:(t554 != t555)=false:=bne_eq_false_iff_eq.mpr c55;clear c55;(first|rw [c55b0]|(simp only [zI,zV];rw [c55b0])|skip);replace H:=zF H;obtain ⟨⟨t556,t557,t558,t559⟩,A56,H⟩:=H;(try dsimp only at H);replace H:=zF H;obtain ⟨t562,A57,H⟩:=H;by_cases c58:t562=true;(·subst c58;rw [if_pos rfl] at H;replace H:=zF H;obtain ⟨t563,A59,H⟩:=H;replace H:=zF H;obtain ⟨t564,A60,H⟩:=H;by_cases c61:(t563 != t564)=true;(·rw [if_pos c61] at H;have c61b0:(t563 != t564)=true:=c61;(try (have c61b1:decide (t563=t564)=false:=by simpa using c61));(try (have c61b2:(t563==t564)=false:=by simpa using c61));(try (have c61b3: ¬(t563=t564):=by simpa using c61));clear c61;exact absurd H (by simp));(·rw [if_neg c61] at H;(have c61b0:(t563 != t564)=false:=by simpa using c61);(try (have c61b1:decide (t563=t564)=true:=by simpa using c61));(try (have c61b2:(t563==t564)=true:=by simpa using c61));clear c61;replace H:=zF H;obtain ⟨t565,A62,H⟩:=H;by_cases c63:t536=t565;(·rw [if_pos c63] at H;have c63b0:(t536==t565)=true:=beq_iff_eq.mpr c63;have c63b1:(t536 != t565)=false:=bne_eq_false_iff_eq.mpr c63;clear c63;by_cases c64:t536=0;(·rw [if_pos c64] at H;have c64b0:(t536==0)=true:=beq_iff_eq.mpr c64;have c64b1:(t536 != 0)=false:=bne_eq_false_iff_eq.mpr c64;clear c64;by_cases c65:(t544 != t552)=true;(·rw [if_pos c65] at H;have c65b0:(t544 != t552)=true:=c65;(try (have c65b1:decide (t544=t552)=false:=by simpa using c65));(try (have c65b2:(t544==t552)=false:=by simpa using c65));(try (have c65b3: ¬(t544=t552):=by simpa using c65));clear c65;exact absurd H (by simp));(·rw [if_neg c65] at H;(have c65b0:(t544 != t552)=false:=by simpa using c65);(try (have c65b1:decide (t544=t552)=true:=by simpa using c65));(try (have c65b2:(t544==t552)=true:=by simpa using c65));clear c65;replace H:=zF H;obtain ⟨t566,A66,H⟩:=H;by_cases c67:t566=true;(·subst c67;rw [if_pos rfl] at H;replace H:=zF H;obtain ⟨t567,A68,H⟩:=H;replace H:=zF H;obtain ⟨t568,A69,H⟩:=H;have H':=Aside0.mk H;clear H;(try go_wp2);have n0_:Aside0 (Kd.R (Kd.int .i64) 3 ((((w45.setCell ⟨gb553,0,none⟩ (.int .i64 t546)).setCell ⟨gb553,1,none⟩ (.int .i64 t547)).setCell ⟨gb553,2,none⟩ (.int .i64 t548)).setCell ⟨gb553,3,none⟩ (.slice Ao52 t549.length co52)) w.heap.size (fun _=>True) (.slice Ao16 t508.length co16) t508):=⟨by refine sqR ?_;exact Kd.zn (Kd.zd (p:=⟨gb553,3,none⟩) (Kd.zd (p:=⟨gb553,2,none⟩) (Kd.zd (p:=⟨gb553,1,none⟩) (Kd.zd (p:=⟨gb553,0,none⟩) (Kd.zv HO510.out BK553.out (by decide)) (fun _ hk=>hk.2) (.int .i64 t546)) (fun _ hk=>hk.2) (.int .i64 t547)) (fun _ hk=>hk.2) (.int .i64 t548)) (fun _ hk=>hk.2) (.slice Ao52 t549.length co52)) (fun _ hk=>trivial)⟩;have n1_:Aside0 (Kd.R (Kd.int .i64) 3 ((((w45.setCell ⟨gb553,0,none⟩ (.int .i64 t546)).setCell ⟨gb553,1,none⟩ (.int .i64 t547)).setCell ⟨gb553,2,none⟩ (.int .i64 t548)).setCell ⟨gb553,3,none⟩ (.slice Ao52 t549.length co52)) w.heap.size (fun _=>True) (.slice Ao21 t516.length co21) t516):=⟨by refine sqR ?_;exact Kd.zn (Kd.zd (p:=⟨gb553,3,none⟩) (Kd.zd (p:=⟨gb553,2,none⟩) (Kd.zd (p:=⟨gb553,1,none⟩) (Kd.zd (p:=⟨gb553,0,none⟩) (Kd.zv HO518.out BK553.out (by decide)) (fun _ hk=>hk.2) (.int .i64 t546)) (fun _ hk=>hk.2) (.int .i64 t547)) (fun _ hk=>hk.2) (.int .i64 t548)) (fun _ hk=>hk.2) (.slice Ao52 t549.length co52)) (fun _ hk=>trivial)⟩;have n2_:Aside0 (Kd.R (Kd.int .i64) 3 ((((w45.setCell ⟨gb553,0,none⟩ (.int .i64 t546)).setCell ⟨gb553,1,none⟩ (.int .i64 t547)).setCell ⟨gb553,2,none⟩ (.int .i64 t548)).setCell ⟨gb553,3,none⟩ (.slice Ao52 t549.length co52)) w.heap.size (fun _=>True) (.slice Ao29 t523.length co29) t523):=⟨by refine sqR ?_;exact Kd.zn (Kd.zd (p:=⟨gb553,3,none⟩) (Kd.zd (p:=⟨gb553,2,none⟩) (Kd.zd (p:=⟨gb553,1,none⟩) (Kd.zd (p:=⟨gb553,0,none⟩) (Kd.zv HO525.out BK553.out (by decide)) (fun _ hk=>hk.2) (.int .i64 t546)) (fun _ hk=>hk.2) (.int .i64 t547)) (fun _ hk=>hk.2) (.int .i64 t548)) (fun _ hk=>hk.2) (.slice Ao52 t549.length co52)) (fun _ hk=>trivial)⟩;have n3_:Aside0 (Kd.R (Kd.int .i64) 3 ((((w45.setCell ⟨gb553,0,none⟩ (.int .i64 t546)).setCell ⟨gb553,1,none⟩ (.int .i64 t547)).setCell ⟨gb553,2,none⟩ (.int .i64 t548)).setCell ⟨gb553,3,none⟩ (.slice Ao52 t549.length co52)) w.heap.size (fun _=>True) (.slice Ao33 t529.length co33) t529):=⟨by refine sqR ?_;exact Kd.zn (Kd.zd (p:=⟨gb553,3,none⟩) (Kd.zd (p:=⟨gb553,2,none⟩) (Kd.zd (p:=⟨gb553,1,none⟩) (Kd.zd (p:=⟨gb553,0,none⟩) (Kd.zv HO531.out BK553.out (by decide)) (fun _ hk=>hk.2) (.int .i64 t546)) (fun _ hk=>hk.2) (.int .i64 t547)) (fun _ hk=>hk.2) (.int .i64 t548)) (fun _ hk=>hk.2) (.slice Ao52 t549.length co52)) (fun _ hk=>trivial)⟩;have n4_:Aside0 (Kd.R (Kd.int .i64) 3 ((((w45.setCell ⟨gb553,0,none⟩ (.int .i64 t546)).setCell ⟨gb553,1,none⟩ (.int .i64 t547)).setCell ⟨gb553,2,none⟩ (.int .i64 t548)).setCell ⟨gb553,3,none⟩ (.slice Ao52 t549.length co52)) w.heap.size (fun _=>True) (.slice Ao43 t541.length co43) t541):=⟨by refine sqR ?_;exact Kd.zn (Kd.zd (p:=⟨gb553,3,none⟩) (Kd.zd (p:=⟨gb553,2,none⟩) (Kd.zd (p:=⟨gb553,1,none⟩) (Kd.zd (p:=⟨gb553,0,none⟩) (Kd.zv HO543.out BK553.out (by decide)) (fun _ hk=>hk.2) (.int .i64 t546)) (fun _ hk=>hk.2) (.int .i64 t547)) (fun _ hk=>hk.2) (.int .i64 t548)) (fun _ hk=>hk.2) (.slice Ao52 t549.length co52)) (fun _ hk=>trivial)⟩;have n5_:Aside0 (Kd.R (Kd.int .i64) 3 ((((w45.setCell ⟨gb553,0,none⟩ (.int .i64 t546)).setCell ⟨gb553,1,none⟩ (.int .i64 t547)).setCell ⟨gb553,2,none⟩ (.int .i64 t548)).setCell ⟨gb553,3,none⟩ (.slice Ao52 t549.length co52)) w.heap.size (fun _=>True) (.slice Ao52 t549.length co52) t549):=⟨by refine sqR ?_;exact Kd.zn (Kd.zd (p:=⟨gb553,3,none⟩) (Kd.zd (p:=⟨gb553,2,none⟩) (Kd.zd (p:=⟨gb553,1,none⟩) (Kd.zd (p:=⟨gb553,0,none⟩) (Kd.zv HO551.out BK553.out (by decide)) (fun _ hk=>hk.2) (.int .i64 t546)) (fun _ hk=>hk.2) (.int .i64 t547)) (fun _ hk=>hk.2) (.int .i64 t548)) (fun _ hk=>hk.2) (.slice Ao52 t549.length co52)) (fun _ hk=>trivial)⟩;have n6_:Aside0 (((((w45.setCell ⟨gb553,0,none⟩ (.int .i64 t546)).setCell ⟨gb553,1,none⟩ (.int .i64 t547)).setCell ⟨gb553,2,none⟩ (.int .i64 t548)).setCell ⟨gb553,3,none⟩ (.slice Ao52 t549.length co52)).heap[gb512]? =some (.cells #[.int .i64 t505,.int .i64 t506,.int .i64 t507,.slice Ao16 t508.length co16] 26 (0,0))):=⟨by refine sqK ?_;refine zg ?_ NB512_553.out _;refine sqK ?_;refine zg ?_ NB512_553.out _;refine sqK ?_;refine zg ?_ NB512_553.out _;refine sqK ?_;refine zg ?_ NB512_553.out _;refine sqK ?_;exact BK512.out⟩;have n7_:Aside0 (((((w45.setCell ⟨gb553,0,none⟩ (.int .i64 t546)).setCell ⟨gb553,1,none⟩ (.int .i64 t547)).setCell ⟨gb553,2,none⟩ (.int .i64 t548)).setCell ⟨gb553,3,none⟩ (.slice Ao52 t549.length co52)).heap[gb519]? =some (.cells #[.int .i64 t513,.int .i64 t514,.int .i64 t515,.slice Ao21 t516.length co21] 26 (0,0))):=⟨by refine sqK ?_;refine zg ?_ NB519_553.out _;refine sqK ?_;refine zg ?_ NB519_553.out _;refine sqK ?_;refine zg ?_ NB519_553.out _;refine sqK ?_;refine zg ?_ NB519_553.out _;refine sqK ?_;exact BK519.out⟩;have n8_:Aside0 (((((w45.setCell ⟨gb553,0,none⟩ (.int .i64 t546)).setCell ⟨gb553,1,none⟩ (.int .i64 t547)).setCell ⟨gb553,2,none⟩ (.int .i64 t548)).setCell ⟨gb553,3,none⟩ (.slice Ao52 t549.length co52)).heap[gb532]? =some (.cells #[.int .i64 t520,.int .i64 t521,.int .i64 t522,.slice Ao29 t523.length co29] 26 (0,0))):=⟨by refine sqK ?_;refine zg ?_ NB532_553.out _;refine sqK ?_;refine zg ?_ NB532_553.out _;refine sqK ?_;refine zg ?_ NB532_553.out _;refine sqK ?_;refine zg ?_ NB532_553.out _;refine sqK ?_;exact BK532.out⟩;have n9_:Aside0 (((((w45.setCell ⟨gb553,0,none⟩ (.int .i64 t546)).setCell ⟨gb553,1,none⟩ (.int .i64 t547)).setCell ⟨gb553,2,none⟩ (.int .i64 t548)).setCell ⟨gb553,3,none⟩ (.slice Ao52 t549.length co52)).heap[gb533]? =some (.cells #[.int .i64 t526,.int .i64 t527,.int .i64 t528,.slice Ao33 t529.length co33] 26 (0,0))):=⟨by refine sqK ?_;refine zg ?_ NB533_553.out _;refine sqK ?_;refine zg ?_ NB533_553.out _;refine sqK ?_;refine zg ?_ NB533_553.out _;refine sqK ?_;refine zg ?_ NB533_553.out _;refine sqK ?_;exact BK533.out⟩;have n10_:Aside0 (((((w45.setCell ⟨gb553,0,none⟩ (.int .i64 t546)).setCell ⟨gb553,1,none⟩ (.int .i64 t547)).setCell ⟨gb553,2,none⟩ (.int .i64 t548)).setCell ⟨gb553,3,none⟩ (.slice Ao52 t549.length co52)).heap[gb545]? =some (.cells #[.int .i64 t538,.int .i64 t539,.int .i64 t540,.slice Ao43 t541.length co43] 26 (0,0))):=⟨by refine sqK ?_;refine zg ?_ NB545_553.out _;refine sqK ?_;refine zg ?_ NB545_553.out _;refine sqK ?_;refine zg ?_ NB545_553.out _;refine sqK ?_;refine zg ?_ NB545_553.out _;refine sqK ?_;exact BK545.out⟩;have n11_:Aside0 (((((w45.setCell ⟨gb553,0,none⟩ (.int .i64 t546)).setCell ⟨gb553,1,none⟩ (.int .i64 t547)).setCell ⟨gb553,2,none⟩ (.int .i64 t548)).setCell ⟨gb553,3,none⟩ (.slice Ao52 t549.length co52)).heap[gb553]? =some (.cells #[.int .i64 t546,.int .i64 t547,.int .i64 t548,.slice Ao52 t549.length co52] 26 (0,0))):=⟨by refine sqK ?_;refine zc (cs:=#[.int .i64 t546,.int .i64 t547,.int .i64 t548,.slice none 0 0]) ?_ 3 _ rfl;refine sqK ?_;refine zc (cs:=#[.int .i64 t546,.int .i64 t547,.int .i64 0,.slice none 0 0]) ?_ 2 _ rfl;refine sqK ?_;refine zc (cs:=#[.int .i64 t546,.int .i64 0,.int .i64 0,.slice none 0 0]) ?_ 1 _ rfl;refine sqK ?_;refine zc (cs:=#[.int .i64 0,.int .i64 0,.int .i64 0,.slice none 0 0]) ?_ 0 _ rfl;refine sqK ?_;exact BK553.out⟩;have n12_:Aside0 (Below w.heap.size w ((((w45.setCell ⟨gb553,0,none⟩ (.int .i64 t546)).setCell ⟨gb553,1,none⟩ (.int .i64 t547)).setCell ⟨gb553,2,none⟩ (.int .i64 t548)).setCell ⟨gb553,3,none⟩ (.slice Ao52 t549.length co52))):=⟨sqB⟩;(try clear HO510);generalize ((((w45.setCell ⟨gb553,0,none⟩ (.int .i64 t546)).setCell ⟨gb553,1,none⟩ (.int .i64 t547)).setCell ⟨gb553,2,none⟩ (.int .i64 t548)).setCell ⟨gb553,3,none⟩ (.slice Ao52 t549.length co52))=w70 at n0_ n1_ n2_ n3_ n4_ n5_ n6_ n7_ n8_ n9_ n10_ n11_ n12_ ⊢;have HO510:=n0_;have HO518:=n1_;have HO525:=n2_;have HO531:=n3_;have HO543:=n4_;have HO551:=n5_;have BK512:=n6_;have BK519:=n7_;have BK532:=n8_;have BK533:=n9_;have BK545:=n10_;have BK553:=n11_;have HB:=n12_;clear n0_ n1_ n2_ n3_ n4_ n5_ n6_ n7_ n8_ n9_ n10_ n11_ n12_;have q_:=f13 (Kd.qx HO510.out) (Kd.qx HO518.out) (Kd.qx HO525.out) (Kd.qx HO531.out) (Kd.qx HO543.out) (Kd.qx HO551.out) (zL BK512.out) (zL BK519.out) (zL BK532.out) (zL BK533.out) (zL BK545.out) (zL BK553.out) (zE HB.out);clear HO510 HO518 HO525 HO531 HO543 HO551 BK512 BK519 BK532 BK533 BK545 BK553 HB;obtain ⟨HO510,HO518,HO525,HO531,HO543,HO551,BK512,BK519,BK532,BK533,BK545,BK553,HB⟩:=q_;refine jz (n:=60) (S:=fun w'=>w'.cell? ⟨gb512,0,none⟩=some (.int .i64 t505)∧w'.cell? ⟨gb512,1,none⟩=some (.int .i64 t506)∧w'.cell? ⟨gb512,2,none⟩=some (.int .i64 t507)∧w'.cell? ⟨gb512,3,none⟩=some (.slice Ao16 t508.length co16)∧w'.cell? ⟨gb519,0,none⟩=some (.int .i64 t513)∧w'.cell? ⟨gb519,1,none⟩=some (.int .i64 t514)∧w'.cell? ⟨gb519,2,none⟩=some (.int .i64 t515)∧w'.cell? ⟨gb519,3,none⟩=some (.slice Ao21 t516.length co21)∧w'.cell? ⟨gb532,0,none⟩=some (.int .i64 t520)∧w'.cell? ⟨gb532,1,none⟩=some (.int .i64 t521)∧w'.cell? ⟨gb532,2,none⟩=some (.int .i64 t522)∧w'.cell? ⟨gb532,3,none⟩=some (.slice Ao29 t523.length co29)∧w'.cell? ⟨gb533,0,none⟩=some (.int .i64 t526)∧w'.cell? ⟨gb533,1,none⟩=some (.int .i64 t527)∧w'.cell? ⟨gb533,2,none⟩=some (.int .i64 t528)∧w'.cell? ⟨gb533,3,none⟩=some (.slice Ao33 t529.length co33)∧w'.cell? ⟨gb545,0,none⟩=some (.int .i64 t538)∧w'.cell? ⟨gb545,1,none⟩=some (.int .i64 t539)∧w'.cell? ⟨gb545,2,none⟩=some (.int .i64 t540)∧w'.cell? ⟨gb545,3,none⟩=some (.slice Ao43 t541.length co43)∧w'.cell? ⟨gb553,0,none⟩=some (.int .i64 t546)∧w'.cell? ⟨gb553,1,none⟩=some (.int .i64 t547)∧w'.cell? ⟨gb553,2,none⟩=some (.int .i64 t548)∧w'.cell? ⟨gb553,3,none⟩=some (.slice Ao52 t549.length co52)) (ds:=[]) #[false,false,false,false,false,false,false,false,false,false,false,false,false,false,false,false,false,false,false,false,false,false,false,false,false,false,false,false,false,false,false,false,false,false,false,false,false,false,false,false,false,false,false,false,false,false,false,false,false,false,false,false,false,false,false,false,false,false,false,false] (by kernel_rfl) rfl rfl tH (fun hHeld=> ?_);refine qF zm.zcD zm.zbb (fun HT_ HW_=> ?_);generalize w70.drew=w71 at HO510 HO518 HO525 HO531 HO543 HO551 BK512 BK519 BK532 BK533 BK545 BK553 HB hHeld ⊢;refine tP 1 (some 54) ?_;refine tP 4 (some 57) ?_;refine tT 0 (some 53) ?_;refine tT 3 (some 56) ?_;refine tO 2 (some 55) fun K hK=> ?_;refine sqg Tryz.func13 #[.agg #[.int .i64 t505,.int .i64 t506,.int .i64 t507,.slice Ao16 t508.length co16],.int .i64 t511] ?_;(with_reducible refine (qa.calls k t505 t506 t507 _ _ t508 t511 t554 _ ?side1 ?side2 A53.out).mono ?_);(case side1=>exact sqC (Kd.ze HO510.out).2.2);(case side2=>exact (Kd.ze HO510.out).2.1);rintro e w72 ⟨rfl,hb⟩;refine ⟨_,rfl,?_⟩;have q_:=f13 (sqb HO510 hb) (sqb HO518 hb) (sqb HO525 hb) (sqb HO531 hb) (sqb HO543 hb) (sqb HO551 hb) (sqh BK512 hb) (sqh BK519 hb) (sqh BK532 hb) (sqh BK533 hb) (sqh BK545 hb) (sqh BK553 hb) (za sqB hb);clear HO510 HO518 HO525 HO531 HO543 HO551 BK512 BK519 BK532 BK533 BK545 BK553 HB;obtain ⟨HO510,HO518,HO525,HO531,HO543,HO551,BK512,BK519,BK532,BK533,BK545,BK553,HB⟩:=q_;refine hK.out _ _ tH (fun hHeld=> ?_);clear hK K;refine tN 55 (h:= ?_);refine tO 5 (some 58) fun K hK=> ?_;refine sqg Tryz.func14 #[.agg #[.int .i64 t505,.int .i64 t506,.int .i64 t507,.slice Ao16 t508.length co16],.int .i64 t511] ?_;(with_reducible refine (qR.calls k t505 t506 t507 _ _ t508 t511 t555 _ ?side1 ?side2 A54.out).mono ?_);(case side1=>exact sqC (Kd.ze HO510.out).2.2);(case side2=>exact (Kd.ze HO510.out).2.1);rintro e w73 ⟨rfl,hb⟩;refine ⟨_,rfl,?_⟩;have q_:=f13 (sqb HO510 hb) (sqb HO518 hb) (sqb HO525 hb) (sqb HO531 hb) (sqb HO543 hb) (sqb HO551 hb) (sqh BK512 hb) (sqh BK519 hb) (sqh BK532 hb) (sqh BK533 hb) (sqh BK545 hb) (sqh BK553 hb) (za sqB hb);clear HO510 HO518 HO525 HO531 HO543 HO551 BK512 BK519 BK532 BK533 BK545 BK553 HB;obtain ⟨HO510,HO518,HO525,HO531,HO543,HO551,BK512,BK519,BK532,BK533,BK545,BK553,HB⟩:=q_;refine hK.out _ _ tH (fun hHeld=> ?_);clear hK K;refine tN 58 (h:= ?_);refine tP 6 (some 59) ?_;refine tP 7 (some 60) ?_;refine tT 8 (some 61) ?_;refine tT 9 (some 62) ?_;refine tO 10 (some 63) fun K hK=> ?_;refine sqg Tryz.func16 #[.agg #[.int .i64 t505,.int .i64 t506,.int .i64 t507,.slice Ao16 t508.length co16]] ?_;(with_reducible refine (zj.calls k t505 t506 t507 _ _ t508 t556 t557 t558 t559 _ ?side1 ?side2 A56.out).mono ?_);(case side1=>exact sqC (Kd.ze HO510.out).2.2);(case side2=>exact (Kd.ze HO510.out).2.1);rintro e w74 ⟨v560,rfl,ho0,hb⟩;refine ⟨_,rfl,?_⟩;have q_:=f14 (sqb HO510 hb) (sqb HO518 hb) (sqb HO525 hb) (sqb HO531 hb) (sqb HO543 hb) (sqb HO551 hb) (Kd.zX ho0 (zt sqB)) (sqh BK512 hb) (sqh BK519 hb) (sqh BK532 hb) (sqh BK533 hb) (sqh BK545 hb) (sqh BK553 hb) (za sqB hb);clear HO510 HO518 HO525 HO531 HO543 HO551 BK512 BK519 BK532 BK533 BK545 BK553 HB;obtain ⟨HO510,HO518,HO525,HO531,HO543,HO551,HO561,BK512,BK519,BK532,BK533,BK545,BK553,HB⟩:=q_;obtain ⟨Ao75,co75,eo75⟩:=Kd.zH HO561.out;(first|subst eo75|(injection eo75 with f1_ f2_ f3_;have f4_:=f1_.symm;have f5_:=f3_.symm;clear f1_ f2_ f3_;subst f4_;subst f5_));refine hK.out _ _ tH (fun hHeld=> ?_);clear hK K;refine tN 63 (h:= ?_);refine tO 11 (some 64) fun K hK=> ?_;refine sqg Tryz.func15 #[.agg #[.int .i64 t513,.int .i64 t514,.int .i64 t515,.slice Ao21 t516.length co21],.agg #[.int .i64 t556,.int .i64 t557,.int .i64 t558,.slice Ao75 t559.length co75]] ?_;(with_reducible refine (zN.calls k t513 t514 t515 _ _ t516 t556 t557 t558 _ _ t559 true _ ?side1 ?side2 ?side3 ?side4 A57.out).mono ?_);(case side1=>exact sqC (Kd.ze HO518.out).2.2);(case side2=>exact (Kd.ze HO518.out).2.1);(case side3=>exact sqC (Kd.ze HO561.out).2.2);(case side4=>exact (Kd.ze HO561.out).2.1);rintro e w76 ⟨rfl,hb⟩;refine ⟨_,rfl,?_⟩;have q_:=f14 (sqb HO510 hb) (sqb HO518 hb) (sqb HO525 hb) (sqb HO531 hb) (sqb HO543 hb) (sqb HO551 hb) (sqb HO561 hb) (sqh BK512 hb) (sqh BK519 hb) (sqh BK532 hb) (sqh BK533 hb) (sqh BK545 hb) (sqh BK553 hb) (za sqB hb);clear HO510 HO518 HO525 HO531 HO543 HO551 HO561 BK512 BK519 BK532 BK533 BK545 BK553 HB;obtain ⟨HO510,HO518,HO525,HO531,HO543,HO551,HO561,BK512,BK519,BK532,BK533,BK545,BK553,HB⟩:=q_;refine hK.out _ _ tH (fun hHeld=> ?_);clear hK K;refine tN 64 (h:= ?_);refine tP 12 (some 65) ?_;refine tP 13 (some 66) ?_;refine tP 14 (some 67) ?_;(as_aux_lemma=>refine tT 15 (some 68) ?_;refine tT 16 (some 69) ?_;refine tT 18 (some 71) ?_;refine tT 19 (some 72) ?_;refine tO 17 (some 70) fun K hK=> ?_;refine sqg Tryz.func17 #[.agg #[.int .i64 t520,.int .i64 t521,.int .i64 t522,.slice Ao29 t523.length co29],.agg #[.int .i64 t526,.int .i64 t527,.int .i64 t528,.slice Ao33 t529.length co33]] ?_;(with_reducible refine (q9.calls k t520 t521 t522 _ _ t523 t526 t527 t528 _ _ t529 t563 _ ?side1 ?side2 ?side3 ?side4 A59.out).mono ?_);(case side1=>exact sqC (Kd.ze HO525.out).2.2);(case side2=>exact (Kd.ze HO525.out).2.1);(case side3=>exact sqC (Kd.ze HO531.out).2.2);(case side4=>exact (Kd.ze HO531.out).2.1);rintro e w77 ⟨rfl,hb⟩;refine ⟨_,rfl,?_⟩;have q_:=f14 (sqb HO510 hb) (sqb HO518 hb) (sqb HO525 hb) (sqb HO531 hb) (sqb HO543 hb) (sqb HO551 hb) (sqb HO561 hb) (sqh BK512 hb) (sqh BK519 hb) (sqh BK532 hb) (sqh BK533 hb) (sqh BK545 hb) (sqh BK553 hb) (za sqB hb);clear HO510 HO518 HO525 HO531 HO543 HO551 HO561 BK512 BK519 BK532 BK533 BK545 BK553 HB;obtain ⟨HO510,HO518,HO525,HO531,HO543,HO551,HO561,BK512,BK519,BK532,BK533,BK545,BK553,HB⟩:=q_;refine hK.out _ _ tH (fun hHeld=> ?_);clear hK K;refine tN 70 (h:= ?_);refine tO 20 (some 73) fun K hK=> ?_;refine sqg Tryz.func15 #[.agg #[.int .i64 t520,.int .i64 t521,.int .i64 t522,.slice Ao29 t523.length co29],.agg #[.int .i64 t526,.int .i64 t527,.int .i64 t528,.slice Ao33 t529.length co33]] ?_;(with_reducible refine (zN.calls k t520 t521 t522 _ _ t523 t526 t527 t528 _ _ t529 t564 _ ?side1 ?side2 ?side3 ?side4 A60.out).mono ?_);(case side1=>exact sqC (Kd.ze HO525.out).2.2);(case side2=>exact (Kd.ze HO525.out).2.1);(case side3=>exact sqC (Kd.ze HO531.out).2.2);(case side4=>exact (Kd.ze HO531.out).2.1);rintro e w78 ⟨rfl,hb⟩;refine ⟨_,rfl,?_⟩;have q_:=f14 (sqb HO510 hb) (sqb HO518 hb) (sqb HO525 hb) (sqb HO531 hb) (sqb HO543 hb) (sqb HO551 hb) (sqb HO561 hb) (sqh BK512 hb) (sqh BK519 hb) (sqh BK532 hb) (sqh BK533 hb) (sqh BK545 hb) (sqh BK553 hb) (za sqB hb);clear HO510 HO518 HO525 HO531 HO543 HO551 HO561 BK512 BK519 BK532 BK533 BK545 BK553 HB;obtain ⟨HO510,HO518,HO525,HO531,HO543,HO551,HO561,BK512,BK519,BK532,BK533,BK545,BK553,HB⟩:=q_;refine hK.out _ _ tH (fun hHeld=> ?_);clear hK K;refine tN 73 (h:= ?_);refine tP 21 (some 74) ?_;refine tP 22 (some 75) ?_;refine tP 23 (some 76) ?_;refine tP 24 (some 77) ?_;refine tP 25 (some 78) ?_;refine tP 26 (some 79) ?_;refine tO 27 (some 80) fun K hK=> ?_;refine sqg Tryz.func18 #[.int .i64 t534,.int .i64 t535] ?_;(with_reducible refine (zp.calls k t534 t535 t565 _ A62.out).mono ?_);rintro e w' ⟨rfl,⟨nd,rfl⟩⟩;refine ⟨_,rfl,?_⟩;refine hK.out _ _ tH (fun hHeld=> ?_);clear hK K;refine tN 80 (h:= ?_);refine tP 28 (some 81) ?_;refine tP 29 (some 82) ?_;refine tP 30 (some 83) ?_;(as_aux_lemma=>refine tP 31 (some 84) ?_;refine tP 32 (some 85) ?_;refine tP 33 (some 86) ?_;refine jj (i:=34) (N:=some 87) (v:=undef) (a':= ?_) #[true,true,true,true,true,true,true,true,true,true,true,true,true,true,true,true,true,true,true,true,true,true,true,true,true,true,true,true,true,true,true,true,true,true,true,false,false,false,false,false,false,false,false,false,false,false,false,false,false,false,false,false,false,false,false,false,false,false,false,false] rfl rfl (qV HT_.out (by kernel_rfl)) (fun _ _ _ h=>h) (Or.inr ⟨by rfl,rfl⟩) ?_ ?_;rotate_left;(·exact sqX);refine jj (i:=35) (N:=some 88) (v:=undef) (a':= ?_) #[true,true,true,true,true,true,true,true,true,true,true,true,true,true,true,true,true,true,true,true,true,true,true,true,true,true,true,true,true,true,true,true,true,true,true,true,false,false,false,false,false,false,false,false,false,false,false,false,false,false,false,false,false,false,false,false,false,false,false,false] rfl rfl (qV HT_.out (by kernel_rfl)) (fun _ _ _ h=>h) (Or.inr ⟨by rfl,rfl⟩) ?_ ?_;rotate_left;(·exact sqX);refine jj (i:=36) (N:=some 89) (v:=undef) (a':= ?_) #[true,true,true,true,true,true,true,true,true,true,true,true,true,true,true,true,true,true,true,true,true,true,true,true,true,true,true,true,true,true,true,true,true,true,true,true,true,false,false,false,false,false,false,false,false,false,false,false,false,false,false,false,false,false,false,false,false,false,false,false] rfl rfl (qV HT_.out (by kernel_rfl)) (fun _ _ _ h=>h) (Or.inr ⟨by rfl,rfl⟩) ?_ ?_;rotate_left;(·exact sqX);refine jj (i:=37) (N:=some 90) (v:=undef) (a':= ?_) #[true,true,true,true,true,true,true,true,true,true,true,true,true,true,true,true,true,true,true,true,true,true,true,true,true,true,true,true,true,true,true,true,true,true,true,true,true,true,false,false,false,false,false,false,false,false,false,false,false,false,false,false,false,false,false,false,false,false,false,false] rfl rfl (qV HT_.out (by kernel_rfl)) (fun _ _ _ h=>h) (Or.inr ⟨by rfl,rfl⟩) ?_ ?_;rotate_left;(·exact sqX);refine jj (i:=38) (N:=some 91) (v:=undef) (a':= ?_) #[true,true,true,true,true,true,true,true,true,true,true,true,true,true,true,true,true,true,true,true,true,true,true,true,true,true,true,true,true,true,true,true,true,true,true,true,true,true,true,false,false,false,false,false,false,false,false,false,false,false,false,false,false,false,false,false,false,false,false,false] rfl rfl (qV HT_.out (by kernel_rfl)) (fun _ _ _ h=>h) (Or.inr ⟨by rfl,rfl⟩) ?_ ?_;rotate_left;(·exact sqX);refine jj (i:=39) (N:=some 92) (v:=undef) (a':= ?_) #[true,true,true,true,true,true,true,true,true,true,true,true,true,true,true,true,true,true,true,true,true,true,true,true,true,true,true,true,true,true,true,true,true,true,true,true,true,true,true,true,false,false,false,false,false,false,false,false,false,false,false,false,false,false,false,false,false,false,false,false] rfl rfl (qV HT_.out (by kernel_rfl)) (fun _ _ _ h=>h) (Or.inr ⟨by rfl,rfl⟩) ?_ ?_;rotate_left;(·exact sqX);refine tP 40 (some 93) ?_;refine tP 41 (some 94) ?_;refine tP 42 (some 95) ?_;refine tP 43 (some 96) ?_;refine tP 44 (some 97) ?_;refine tP 45 (some 98) ?_;refine tP 46 (some 99) ?_;(as_aux_lemma=>refine tP 47 (some 100) ?_;refine tT 48 (some 101) ?_;refine tT 49 (some 102) ?_;refine tO 50 (some 103) fun K hK=> ?_;refine sqg Tryz.func15 #[.agg #[.int .i64 t538,.int .i64 t539,.int .i64 t540,.slice Ao43 t541.length co43],.agg #[.int .i64 t546,.int .i64 t547,.int .i64 t548,.slice Ao52 t549.length co52]] ?_;(with_reducible refine (zN.calls k t538 t539 t540 _ _ t541 t546 t547 t548 _ _ t549 true _ ?side1 ?side2 ?side3 ?side4 A66.out).mono ?_);(case side1=>exact sqC (Kd.ze HO543.out).2.2);(case side2=>exact (Kd.ze HO543.out).2.1);(case side3=>exact sqC (Kd.ze HO551.out).2.2);(case side4=>exact (Kd.ze HO551.out).2.1);rintro e w79 ⟨rfl,hb⟩;refine ⟨_,rfl,?_⟩;have q_:=f14 (sqb HO510 hb) (sqb HO518 hb) (sqb HO525 hb) (sqb HO531 hb) (sqb HO543 hb) (sqb HO551 hb) (sqb HO561 hb) (sqh BK512 hb) (sqh BK519 hb) (sqh BK532 hb) (sqh BK533 hb) (sqh BK545 hb) (sqh BK553 hb) (za sqB hb);clear HO510 HO518 HO525 HO531 HO543 HO551 HO561 BK512 BK519 BK532 BK533 BK545 BK553 HB;obtain ⟨HO510,HO518,HO525,HO531,HO543,HO551,HO561,BK512,BK519,BK532,BK533,BK545,BK553,HB⟩:=q_;refine hK.out _ _ tH (fun hHeld=> ?_);clear hK K;refine tN 103 (h:= ?_);refine tP 51 (some 104) ?_;refine tP 52 (some 105) ?_;refine tP 53 (some 106) ?_;refine tT 54 (some 107) ?_;refine tT 56 (some 109) ?_;refine tO 55 (some 108) fun K hK=> ?_;refine sqg Tryz.func19 #[.agg #[.int .i64 t520,.int .i64 t521,.int .i64 t522,.slice Ao29 t523.length co29]] ?_;(with_reducible refine (zx.calls k t520 t521 t522 _ _ t523 t567 _ ?side1 ?side2 A68.out).mono ?_);(case side1=>exact sqC (Kd.ze HO525.out).2.2);(case side2=>exact (Kd.ze HO525.out).2.1);rintro e w80 ⟨rfl,hb⟩;refine ⟨_,rfl,?_⟩;have q_:=f14 (sqb HO510 hb) (sqb HO518 hb) (sqb HO525 hb) (sqb HO531 hb) (sqb HO543 hb) (sqb HO551 hb) (sqb HO561 hb) (sqh BK512 hb) (sqh BK519 hb) (sqh BK532 hb) (sqh BK533 hb) (sqh BK545 hb) (sqh BK553 hb) (za sqB hb);clear HO510 HO518 HO525 HO531 HO543 HO551 HO561 BK512 BK519 BK532 BK533 BK545 BK553 HB;obtain ⟨HO510,HO518,HO525,HO531,HO543,HO551,HO561,BK512,BK519,BK532,BK533,BK545,BK553,HB⟩:=q_;refine hK.out _ _ tH (fun hHeld=> ?_);clear hK K;refine tN 108 (h:= ?_);refine tO 57 (some 110) fun K hK=> ?_;refine sqg Tryz.func20 #[.agg #[.int .i64 t520,.int .i64 t521,.int .i64 t522,.slice Ao29 t523.length co29]] ?_;(with_reducible refine (zw.calls k t520 t521 t522 _ _ t523 t568 _ ?side1 ?side2 A69.out).mono ?_);(case side1=>exact sqC (Kd.ze HO525.out).2.2);(case side2=>exact (Kd.ze HO525.out).2.1);rintro e w81 ⟨rfl,hb⟩;refine ⟨_,rfl,?_⟩;have q_:=f14 (sqb HO510 hb) (sqb HO518 hb) (sqb HO525 hb) (sqb HO531 hb) (sqb HO543 hb) (sqb HO551 hb) (sqb HO561 hb) (sqh BK512 hb) (sqh BK519 hb) (sqh BK532 hb) (sqh BK533 hb) (sqh BK545 hb) (sqh BK553 hb) (za sqB hb);clear HO510 HO518 HO525 HO531 HO543 HO551 HO561 BK512 BK519 BK532 BK533 BK545 BK553 HB;obtain ⟨HO510,HO518,HO525,HO531,HO543,HO551,HO561,BK512,BK519,BK532,BK533,BK545,BK553,HB⟩:=q_;refine hK.out _ _ tH (fun hHeld=> ?_);clear hK K;refine tN 110 (h:= ?_);refine tP 58 (some 111) ?_;refine tP 59 (some 112) ?_;refine jY (jn HT_.out (by kernel_rfl)) ?_;(try go_wp2);go_meet;(case rel=>exact ⟨_,((t567 != t568)),(sqD),H',⟨by first|omega|exact Nat.le_refl _⟩,⟨sqR HO510.out⟩,⟨sqR HO518.out⟩,⟨sqR HO525.out⟩,⟨sqK BK512.out⟩,⟨sqK BK519.out⟩,⟨sqK BK532.out⟩,⟨sqB⟩⟩)))));(·obtain rfl:=sqf c67;rw [if_neg sqz] at H;exact absurd H (by simp))));(·rw [if_neg c64] at H;have c64b0:(t536==0)=false:=beq_eq_false_iff_ne.mpr c64;have c64b1:(t536 != 0)=true:=bne_iff_ne.mpr c64;obtain ⟨c82,H⟩:=Jl H;have c82b0:(t534==0)=false:=beq_eq_false_iff_ne.mpr c82;have c82b1:(t534 != 0)=true:=bne_iff_ne.mpr c82;by_cases c83:(Int.tmod (wrap64 (t536*t535)) t534)=1;(·rw [if_pos c83] at H;have c83b0:((Int.tmod (wrap64 (t536*t535)) t534)==1)=true:=beq_iff_eq.mpr c83;have c83b1:((Int.tmod (wrap64 (t536*t535)) t534) != 1)=false:=bne_eq_false_iff_eq.mpr c83;clear c83;by_cases c84:(t544 != t552)=true;(·rw [if_pos c84] at H;have c84b0:(t544 != t552)=true:=c84;(try (have c84b1:decide (t544=t552)=false:=by simpa using c84));(try (have c84b2:(t544==t552)=false:=by simpa using c84));(try (have c84b3: ¬(t544=t552):=by simpa using c84));clear c84;exact absurd H (by simp));(·rw [if_neg c84] at H;(have c84b0:(t544 != t552)=false:=by simpa using c84);(try (have c84b1:decide (t544=t552)=true:=by simpa using c84));(try (have c84b2:(t544==t552)=true:=by simpa using c84));clear c84;replace H:=zF H;obtain ⟨t569,A85,H⟩:=H;by_cases c86:t569=true;(·subst c86;rw [if_pos rfl] at H;replace H:=zF H;obtain ⟨t570,A87,H⟩:=H;replace H:=zF H;obtain ⟨t571,A88,H⟩:=H;have H':=Aside0.mk H;clear H;(try go_wp2);have n0_:Aside0 (Kd.R (Kd.int .i64) 3 ((((w45.setCell ⟨gb553,0,none⟩ (.int .i64 t546)).setCell ⟨gb553,1,none⟩ (.int .i64 t547)).setCell ⟨gb553,2,none⟩ (.int .i64 t548)).setCell ⟨gb553,3,none⟩ (.slice Ao52 t549.length co52)) w.heap.size (fun _=>True) (.slice Ao16 t508.length co16) t508):=⟨by refine sqR ?_;exact Kd.zn (Kd.zd (p:=⟨gb553,3,none⟩) (Kd.zd (p:=⟨gb553,2,none⟩) (Kd.zd (p:=⟨gb553,1,none⟩) (Kd.zd (p:=⟨gb553,0,none⟩) (Kd.zv HO510.out BK553.out (by decide)) (fun _ hk=>hk.2) (.int .i64 t546)) (fun _ hk=>hk.2) (.int .i64 t547)) (fun _ hk=>hk.2) (.int .i64 t548)) (fun _ hk=>hk.2) (.slice Ao52 t549.length co52)) (fun _ hk=>trivial)⟩;have n1_:Aside0 (Kd.R (Kd.int .i64) 3 ((((w45.setCell ⟨gb553,0,none⟩ (.int .i64 t546)).setCell ⟨gb553,1,none⟩ (.int .i64 t547)).setCell ⟨gb553,2,none⟩ (.int .i64 t548)).setCell ⟨gb553,3,none⟩ (.slice Ao52 t549.length co52)) w.heap.size (fun _=>True) (.slice Ao21 t516.length co21) t516):=⟨by refine sqR ?_;exact Kd.zn (Kd.zd (p:=⟨gb553,3,none⟩) (Kd.zd (p:=⟨gb553,2,none⟩) (Kd.zd (p:=⟨gb553,1,none⟩) (Kd.zd (p:=⟨gb553,0,none⟩) (Kd.zv HO518.out BK553.out (by decide)) (fun _ hk=>hk.2) (.int .i64 t546)) (fun _ hk=>hk.2) (.int .i64 t547)) (fun _ hk=>hk.2) (.int .i64 t548)) (fun _ hk=>hk.2) (.slice Ao52 t549.length co52)) (fun _ hk=>trivial)⟩;have n2_:Aside0 (Kd.R (Kd.int .i64) 3 ((((w45.setCell ⟨gb553,0,none⟩ (.int .i64 t546)).setCell ⟨gb553,1,none⟩ (.int .i64 t547)).setCell ⟨gb553,2,none⟩ (.int .i64 t548)).setCell ⟨gb553,3,none⟩ (.slice Ao52 t549.length co52)) w.heap.size (fun _=>True) (.slice Ao29 t523.length co29) t523):=⟨by refine sqR ?_;exact Kd.zn (Kd.zd (p:=⟨gb553,3,none⟩) (Kd.zd (p:=⟨gb553,2,none⟩) (Kd.zd (p:=⟨gb553,1,none⟩) (Kd.zd (p:=⟨gb553,0,none⟩) (Kd.zv HO525.out BK553.out (by decide)) (fun _ hk=>hk.2) (.int .i64 t546)) (fun _ hk=>hk.2) (.int .i64 t547)) (fun _ hk=>hk.2) (.int .i64 t548)) (fun _ hk=>hk.2) (.slice Ao52 t549.length co52)) (fun _ hk=>trivial)⟩;have n3_:Aside0 (Kd.R (Kd.int .i64) 3 ((((w45.setCell ⟨gb553,0,none⟩ (.int .i64 t546)).setCell ⟨gb553,1,none⟩ (.int .i64 t547)).setCell ⟨gb553,2,none⟩ (.int .i64 t548)).setCell ⟨gb553,3,none⟩ (.slice Ao52 t549.length co52)) w.heap.size (fun _=>True) (.slice Ao33 t529.length co33) t529):=⟨by refine sqR ?_;exact Kd.zn (Kd.zd (p:=⟨gb553,3,none⟩) (Kd.zd (p:=⟨gb553,2,none⟩) (Kd.zd (p:=⟨gb553,1,none⟩) (Kd.zd (p:=⟨gb553,0,none⟩) (Kd.zv HO531.out BK553.out (by decide)) (fun _ hk=>hk.2) (.int .i64 t546)) (fun _ hk=>hk.2) (.int .i64 t547)) (fun _ hk=>hk.2) (.int .i64 t548)) (fun _ hk=>hk.2) (.slice Ao52 t549.length co52)) (fun _ hk=>trivial)⟩;have n4_:Aside0 (Kd.R (Kd.int .i64) 3 ((((w45.setCell ⟨gb553,0,none⟩ (.int .i64 t546)).setCell ⟨gb553,1,none⟩ (.int .i64 t547)).setCell ⟨gb553,2,none⟩ (.int .i64 t548)).setCell ⟨gb553,3,none⟩ (.slice Ao52 t549.length co52)) w.heap.size (fun _=>True) (.slice Ao43 t541.length co43) t541):=⟨by refine sqR ?_;exact Kd.zn (Kd.zd (p:=⟨gb553,3,none⟩) (Kd.zd (p:=⟨gb553,2,none⟩) (Kd.zd (p:=⟨gb553,1,none⟩) (Kd.zd (p:=⟨gb553,0,none⟩) (Kd.zv HO543.out BK553.out (by decide)) (fun _ hk=>hk.2) (.int .i64 t546)) (fun _ hk=>hk.2) (.int .i64 t547)) (fun _ hk=>hk.2) (.int .i64 t548)) (fun _ hk=>hk.2) (.slice Ao52 t549.length co52)) (fun _ hk=>trivial)⟩;have n5_:Aside0 (Kd.R (Kd.int .i64) 3 ((((w45.setCell ⟨gb553,0,none⟩ (.int .i64 t546)).setCell ⟨gb553,1,none⟩ (.int .i64 t547)).setCell ⟨gb553,2,none⟩ (.int .i64 t548)).setCell ⟨gb553,3,none⟩ (.slice Ao52 t549.length co52)) w.heap.size (fun _=>True) (.slice Ao52 t549.length co52) t549):=⟨by refine sqR ?_;exact Kd.zn (Kd.zd (p:=⟨gb553,3,none⟩) (Kd.zd (p:=⟨gb553,2,none⟩) (Kd.zd (p:=⟨gb553,1,none⟩) (Kd.zd (p:=⟨gb553,0,none⟩) (Kd.zv HO551.out BK553.out (by decide)) (fun _ hk=>hk.2) (.int .i64 t546)) (fun _ hk=>hk.2) (.int .i64 t547)) (fun _ hk=>hk.2) (.int .i64 t548)) (fun _ hk=>hk.2) (.slice Ao52 t549.length co52)) (fun _ hk=>trivial)⟩;have n6_:Aside0 (((((w45.setCell ⟨gb553,0,none⟩ (.int .i64 t546)).setCell ⟨gb553,1,none⟩ (.int .i64 t547)).setCell ⟨gb553,2,none⟩ (.int .i64 t548)).setCell ⟨gb553,3,none⟩ (.slice Ao52 t549.length co52)).heap[gb512]? =some (.cells #[.int .i64 t505,.int .i64 t506,.int .i64 t507,.slice Ao16 t508.length co16] 26 (0,0))):=⟨by refine sqK ?_;refine zg ?_ NB512_553.out _;refine sqK ?_;refine zg ?_ NB512_553.out _;refine sqK ?_;refine zg ?_ NB512_553.out _;refine sqK ?_;refine zg ?_ NB512_553.out _;refine sqK ?_;exact BK512.out⟩;have n7_:Aside0 (((((w45.setCell ⟨gb553,0,none⟩ (.int .i64 t546)).setCell ⟨gb553,1,none⟩ (.int .i64 t547)).setCell ⟨gb553,2,none⟩ (.int .i64 t548)).setCell ⟨gb553,3,none⟩ (.slice Ao52 t549.length co52)).heap[gb519]? =some (.cells #[.int .i64 t513,.int .i64 t514,.int .i64 t515,.slice Ao21 t516.length co21] 26 (0,0))):=⟨by refine sqK ?_;refine zg ?_ NB519_553.out _;refine sqK ?_;refine zg ?_ NB519_553.out _;refine sqK ?_;refine zg ?_ NB519_553.out _;refine sqK ?_;refine zg ?_ NB519_553.out _;refine sqK ?_;exact BK519.out⟩;have n8_:Aside0 (((((w45.setCell ⟨gb553,0,none⟩ (.int .i64 t546)).setCell ⟨gb553,1,none⟩ (.int .i64 t547)).setCell ⟨gb553,2,none⟩ (.int .i64 t548)).setCell ⟨gb553,3,none⟩ (.slice Ao52 t549.length co52)).heap[gb532]? =some (.cells #[.int .i64 t520,.int .i64 t521,.int .i64 t522,.slice Ao29 t523.length co29] 26 (0,0))):=⟨by refine sqK ?_;refine zg ?_ NB532_553.out _;refine sqK ?_;refine zg ?_ NB532_553.out _;refine sqK ?_;refine zg ?_ NB532_553.out _;refine sqK ?_;refine zg ?_ NB532_553.out _;refine sqK ?_;exact BK532.out⟩;have n9_:Aside0 (((((w45.setCell ⟨gb553,0,none⟩ (.int .i64 t546)).setCell ⟨gb553,1,none⟩ (.int .i64 t547)).setCell ⟨gb553,2,none⟩ (.int .i64 t548)).setCell ⟨gb553,3,none⟩ (.slice Ao52 t549.length co52)).heap[gb533]? =some (.cells #[.int .i64 t526,.int .i64 t527,.int .i64 t528,.slice Ao33 t529.length co33] 26 (0,0))):=⟨by refine sqK ?_;refine zg ?_ NB533_553.out _;refine sqK ?_;refine zg ?_ NB533_553.out _;refine sqK ?_;refine zg ?_ NB533_553.out _;refine sqK ?_;refine zg ?_ NB533_553.out _;refine sqK ?_;exact BK533.out⟩;have n10_:Aside0 (((((w45.setCell ⟨gb553,0,none⟩ (.int .i64 t546)).setCell ⟨gb553,1,none⟩ (.int .i64 t547)).setCell ⟨gb553,2,none⟩ (.int .i64 t548)).setCell ⟨gb553,3,none⟩ (.slice Ao52 t549.length co52)).heap[gb545]? =some (.cells #[.int .i64 t538,.int .i64 t539,.int .i64 t540,.slice Ao43 t541.length co43] 26 (0,0))):=⟨by refine sqK ?_;refine zg ?_ NB545_553.out _;refine sqK ?_;refine zg ?_ NB545_553.out _;refine sqK ?_;refine zg ?_ NB545_553.out _;refine sqK ?_;refine zg ?_ NB545_553.out _;refine sqK ?_;exact BK545.out⟩;have n11_:Aside0 (((((w45.setCell ⟨gb553,0,none⟩ (.int .i64 t546)).setCell ⟨gb553,1,none⟩ (.int .i64 t547)).setCell ⟨gb553,2,none⟩ (.int .i64 t548)).setCell ⟨gb553,3,none⟩ (.slice Ao52 t549.length co52)).heap[gb553]? =some (.cells #[.int .i64 t546,.int .i64 t547,.int .i64 t548,.slice Ao52 t549.length co52] 26 (0,0))):=⟨by refine sqK ?_;refine zc (cs:=#[.int .i64 t546,.int .i64 t547,.int .i64 t548,.slice none 0 0]) ?_ 3 _ rfl;refine sqK ?_;refine zc (cs:=#[.int .i64 t546,.int .i64 t547,.int .i64 0,.slice none 0 0]) ?_ 2 _ rfl;refine sqK ?_;refine zc (cs:=#[.int .i64 t546,.int .i64 0,.int .i64 0,.slice none 0 0]) ?_ 1 _ rfl;refine sqK ?_;refine zc (cs:=#[.int .i64 0,.int .i64 0,.int .i64 0,.slice none 0 0]) ?_ 0 _ rfl;refine sqK ?_;exact BK553.out⟩;have n12_:Aside0 (Below w.heap.size w ((((w45.setCell ⟨gb553,0,none⟩ (.int .i64 t546)).setCell ⟨gb553,1,none⟩ (.int .i64 t547)).setCell ⟨gb553,2,none⟩ (.int .i64 t548)).setCell ⟨gb553,3,none⟩ (.slice Ao52 t549.length co52))):=⟨sqB⟩;(try clear HO510);generalize ((((w45.setCell ⟨gb553,0,none⟩ (.int .i64 t546)).setCell ⟨gb553,1,none⟩ (.int .i64 t547)).setCell ⟨gb553,2,none⟩ (.int .i64 t548)).setCell ⟨gb553,3,none⟩ (.slice Ao52 t549.length co52))=w89 at n0_ n1_ n2_ n3_ n4_ n5_ n6_ n7_ n8_ n9_ n10_ n11_ n12_ ⊢;have HO510:=n0_;have HO518:=n1_;have HO525:=n2_;have HO531:=n3_;have HO543:=n4_;have HO551:=n5_;have BK512:=n6_;have BK519:=n7_;have BK532:=n8_;have BK533:=n9_;have BK545:=n10_;have BK553:=n11_;have HB:=n12_;clear n0_ n1_ n2_ n3_ n4_ n5_ n6_ n7_ n8_ n9_ n10_ n11_ n12_;have q_:=f13 (Kd.qx HO510.out) (Kd.qx HO518.out) (Kd.qx HO525.out) (Kd.qx HO531.out) (Kd.qx HO543.out) (Kd.qx HO551.out) (zL BK512.out) (zL BK519.out) (zL BK532.out) (zL BK533.out) (zL BK545.out) (zL BK553.out) (zE HB.out);clear HO510 HO518 HO525 HO531 HO543 HO551 BK512 BK519 BK532 BK533 BK545 BK553 HB;obtain ⟨HO510,HO518,HO525,HO531,HO543,HO551,BK512,BK519,BK532,BK533,BK545,BK553,HB⟩:=q_;refine jz (n:=60) (S:=fun w'=>w'.cell? ⟨gb512,0,none⟩=some (.int .i64 t505)∧w'.cell? ⟨gb512,1,none⟩=some (.int .i64 t506)∧w'.cell? ⟨gb512,2,none⟩=some (.int .i64 t507)∧w'.cell? ⟨gb512,3,none⟩=some (.slice Ao16 t508.length co16)∧w'.cell? ⟨gb519,0,none⟩=some (.int .i64 t513)∧w'.cell? ⟨gb519,1,none⟩=some (.int .i64 t514)∧w'.cell? ⟨gb519,2,none⟩=some (.int .i64 t515)∧w'.cell? ⟨gb519,3,none⟩=some (.slice Ao21 t516.length co21)∧w'.cell? ⟨gb532,0,none⟩=some (.int .i64 t520)∧w'.cell? ⟨gb532,1,none⟩=some (.int .i64 t521)∧w'.cell? ⟨gb532,2,none⟩=some (.int .i64 t522)∧w'.cell? ⟨gb532,3,none⟩=some (.slice Ao29 t523.length co29)∧w'.cell? ⟨gb533,0,none⟩=some (.int .i64 t526)∧w'.cell? ⟨gb533,1,none⟩=some (.int .i64 t527)∧w'.cell? ⟨gb533,2,none⟩=some (.int .i64 t528)∧w'.cell? ⟨gb533,3,none⟩=some (.slice Ao33 t529.length co33)∧w'.cell? ⟨gb545,0,none⟩=some (.int .i64 t538)∧w'.cell? ⟨gb545,1,none⟩=some (.int .i64 t539)∧w'.cell? ⟨gb545,2,none⟩=some (.int .i64 t540)∧w'.cell? ⟨gb545,3,none⟩=some (.slice Ao43 t541.length co43)∧w'.cell? ⟨gb553,0,none⟩=some (.int .i64 t546)∧w'.cell? ⟨gb553,1,none⟩=some (.int .i64 t547)∧w'.cell? ⟨gb553,2,none⟩=some (.int .i64 t548)∧w'.cell? ⟨gb553,3,none⟩=some (.slice Ao52 t549.length co52)) (ds:=[]) #[false,false,false,false,false,false,false,false,false,false,false,false,false,false,false,false,false,false,false,false,false,false,false,false,false,false,false,false,false,false,false,false,false,false,false,false,false,false,false,false,false,false,false,false,false,false,false,false,false,false,false,false,false,false,false,false,false,false,false,false] (by kernel_rfl) rfl rfl tH (fun hHeld=> ?_);refine qF zm.zcD zm.zbb (fun HT_ HW_=> ?_);generalize w89.drew=w90 at HO510 HO518 HO525 HO531 HO543 HO551 BK512 BK519 BK532 BK533 BK545 BK553 HB hHeld ⊢;refine tP 1 (some 54) ?_;refine tP 4 (some 57) ?_;refine tT 0 (some 53) ?_;(as_aux_lemma=>refine tT 3 (some 56) ?_;refine tO 2 (some 55) fun K hK=> ?_;refine sqg Tryz.func13 #[.agg #[.int .i64 t505,.int .i64 t506,.int .i64 t507,.slice Ao16 t508.length co16],.int .i64 t511] ?_;(with_reducible refine (qa.calls k t505 t506 t507 _ _ t508 t511 t554 _ ?side1 ?side2 A53.out).mono ?_);(case side1=>exact sqC (Kd.ze HO510.out).2.2);(case side2=>exact (Kd.ze HO510.out).2.1);rintro e w91 ⟨rfl,hb⟩;refine ⟨_,rfl,?_⟩;have q_:=f13 (sqb HO510 hb) (sqb HO518 hb) (sqb HO525 hb) (sqb HO531 hb) (sqb HO543 hb) (sqb HO551 hb) (sqh BK512 hb) (sqh BK519 hb) (sqh BK532 hb) (sqh BK533 hb) (sqh BK545 hb) (sqh BK553 hb) (za sqB hb);clear HO510 HO518 HO525 HO531 HO543 HO551 BK512 BK519 BK532 BK533 BK545 BK553 HB;obtain ⟨HO510,HO518,HO525,HO531,HO543,HO551,BK512,BK519,BK532,BK533,BK545,BK553,HB⟩:=q_;refine hK.out _ _ tH (fun hHeld=> ?_);clear hK K;refine tN 55 (h:= ?_);refine tO 5 (some 58) fun K hK=> ?_;refine sqg Tryz.func14 #[.agg #[.int .i64 t505,.int .i64 t506,.int .i64 t507,.slice Ao16 t508.length co16],.int .i64 t511] ?_;(with_reducible refine (qR.calls k t505 t506 t507 _ _ t508 t511 t555 _ ?side1 ?side2 A54.out).mono ?_);(case side1=>exact sqC (Kd.ze HO510.out).2.2);(case side2=>exact (Kd.ze HO510.out).2.1);rintro e w92 ⟨rfl,hb⟩;refine ⟨_,rfl,?_⟩;have q_:=f13 (sqb HO510 hb) (sqb HO518 hb) (sqb HO525 hb) (sqb HO531 hb) (sqb HO543 hb) (sqb HO551 hb) (sqh BK512 hb) (sqh BK519 hb) (sqh BK532 hb) (sqh BK533 hb) (sqh BK545 hb) (sqh BK553 hb) (za sqB hb);clear HO510 HO518 HO525 HO531 HO543 HO551 BK512 BK519 BK532 BK533 BK545 BK553 HB;obtain ⟨HO510,HO518,HO525,HO531,HO543,HO551,BK512,BK519,BK532,BK533,BK545,BK553,HB⟩:=q_;refine hK.out _ _ tH (fun hHeld=> ?_);clear hK K;refine tN 58 (h:= ?_);refine tP 6 (some 59) ?_;refine tP 7 (some 60) ?_;refine tT 8 (some 61) ?_;refine tT 9 (some 62) ?_;refine tO 10 (some 63) fun K hK=> ?_;refine sqg Tryz.func16 #[.agg #[.int .i64 t505,.int .i64 t506,.int .i64 t507,.slice Ao16 t508.length co16]] ?_;(with_reducible refine (zj.calls k t505 t506 t507 _ _ t508 t556 t557 t558 t559 _ ?side1 ?side2 A56.out).mono ?_);(case side1=>exact sqC (Kd.ze HO510.out).2.2);(case side2=>exact (Kd.ze HO510.out).2.1);rintro e w93 ⟨v560,rfl,ho0,hb⟩;refine ⟨_,rfl,?_⟩;have q_:=f14 (sqb HO510 hb) (sqb HO518 hb) (sqb HO525 hb) (sqb HO531 hb) (sqb HO543 hb) (sqb HO551 hb) (Kd.zX ho0 (zt sqB)) (sqh BK512 hb) (sqh BK519 hb) (sqh BK532 hb) (sqh BK533 hb) (sqh BK545 hb) (sqh BK553 hb) (za sqB hb);clear HO510 HO518 HO525 HO531 HO543 HO551 BK512 BK519 BK532 BK533 BK545 BK553 HB;obtain ⟨HO510,HO518,HO525,HO531,HO543,HO551,HO561,BK512,BK519,BK532,BK533,BK545,BK553,HB⟩:=q_;obtain ⟨Ao94,co94,eo94⟩:=Kd.zH HO561.out;(first|subst eo94|(injection eo94 with f1_ f2_ f3_;have f4_:=f1_.symm;have f5_:=f3_.symm;clear f1_ f2_ f3_;subst f4_;subst f5_));refine hK.out _ _ tH (fun hHeld=> ?_);clear hK K;refine tN 63 (h:= ?_);refine tO 11 (some 64) fun K hK=> ?_;refine sqg Tryz.func15 #[.agg #[.int .i64 t513,.int .i64 t514,.int .i64 t515,.slice Ao21 t516.length co21],.agg #[.int .i64 t556,.int .i64 t557,.int .i64 t558,.slice Ao94 t559.length co94]] ?_;(with_reducible refine (zN.calls k t513 t514 t515 _ _ t516 t556 t557 t558 _ _ t559 true _ ?side1 ?side2 ?side3 ?side4 A57.out).mono ?_);(case side1=>exact sqC (Kd.ze HO518.out).2.2);(case side2=>exact (Kd.ze HO518.out).2.1);(case side3=>exact sqC (Kd.ze HO561.out).2.2);(case side4=>exact (Kd.ze HO561.out).2.1);rintro e w95 ⟨rfl,hb⟩;refine ⟨_,rfl,?_⟩;have q_:=f14 (sqb HO510 hb) (sqb HO518 hb) (sqb HO525 hb) (sqb HO531 hb) (sqb HO543 hb) (sqb HO551 hb) (sqb HO561 hb) (sqh BK512 hb) (sqh BK519 hb) (sqh BK532 hb) (sqh BK533 hb) (sqh BK545 hb) (sqh BK553 hb) (za sqB hb);clear HO510 HO518 HO525 HO531 HO543 HO551 HO561 BK512 BK519 BK532 BK533 BK545 BK553 HB;obtain ⟨HO510,HO518,HO525,HO531,HO543,HO551,HO561,BK512,BK519,BK532,BK533,BK545,BK553,HB⟩:=q_;refine hK.out _ _ tH (fun hHeld=> ?_);clear hK K;refine tN 64 (h:= ?_);refine tP 12 (some 65) ?_;refine tP 13 (some 66) ?_;refine tP 14 (some 67) ?_;refine tT 15 (some 68) ?_;refine tT 16 (some 69) ?_;refine tT 18 (some 71) ?_;refine tT 19 (some 72) ?_;refine tO 17 (some 70) fun K hK=> ?_;refine sqg Tryz.func17 #[.agg #[.int .i64 t520,.int .i64 t521,.int .i64 t522,.slice Ao29 t523.length co29],.agg #[.int .i64 t526,.int .i64 t527,.int .i64 t528,.slice Ao33 t529.length co33]] ?_;(with_reducible refine (q9.calls k t520 t521 t522 _ _ t523 t526 t527 t528 _ _ t529 t563 _ ?side1 ?side2 ?side3 ?side4 A59.out).mono ?_);(case side1=>exact sqC (Kd.ze HO525.out).2.2);(case side2=>exact (Kd.ze HO525.out).2.1);(case side3=>exact sqC (Kd.ze HO531.out).2.2);(case side4=>exact (Kd.ze HO531.out).2.1);rintro e w96 ⟨rfl,hb⟩;refine ⟨_,rfl,?_⟩;have q_:=f14 (sqb HO510 hb) (sqb HO518 hb) (sqb HO525 hb) (sqb HO531 hb) (sqb HO543 hb) (sqb HO551 hb) (sqb HO561 hb) (sqh BK512 hb) (sqh BK519 hb) (sqh BK532 hb) (sqh BK533 hb) (sqh BK545 hb) (sqh BK553 hb) (za sqB hb);clear HO510 HO518 HO525 HO531 HO543 HO551 HO561 BK512 BK519 BK532 BK533 BK545 BK553 HB;obtain ⟨HO510,HO518,HO525,HO531,HO543,HO551,HO561,BK512,BK519,BK532,BK533,BK545,BK553,HB⟩:=q_;refine hK.out _ _ tH (fun hHeld=> ?_);clear hK K;refine tN 70 (h:= ?_);refine tO 20 (some 73) fun K hK=> ?_;refine sqg Tryz.func15 #[.agg #[.int .i64 t520,.int .i64 t521,.int .i64 t522,.slice Ao29 t523.length co29],.agg #[.int .i64 t526,.int .i64 t527,.int .i64 t528,.slice Ao33 t529.length co33]] ?_;(with_reducible refine (zN.calls k t520 t521 t522 _ _ t523 t526 t527 t528 _ _ t529 t564 _ ?side1 ?side2 ?side3 ?side4 A60.out).mono ?_);(case side1=>exact sqC (Kd.ze HO525.out).2.2);(case side2=>exact (Kd.ze HO525.out).2.1);(case side3=>exact sqC (Kd.ze HO531.out).2.2);(case side4=>exact (Kd.ze HO531.out).2.1);rintro e w97 ⟨rfl,hb⟩;refine ⟨_,rfl,?_⟩;have q_:=f14 (sqb HO510 hb) (sqb HO518 hb) (sqb HO525 hb) (sqb HO531 hb) (sqb HO543 hb) (sqb HO551 hb) (sqb HO561 hb) (sqh BK512 hb) (sqh BK519 hb) (sqh BK532 hb) (sqh BK533 hb) (sqh BK545 hb) (sqh BK553 hb) (za sqB hb);clear HO510 HO518 HO525 HO531 HO543 HO551 HO561 BK512 BK519 BK532 BK533 BK545 BK553 HB;obtain ⟨HO510,HO518,HO525,HO531,HO543,HO551,HO561,BK512,BK519,BK532,BK533,BK545,BK553,HB⟩:=q_;refine hK.out _ _ tH (fun hHeld=> ?_);clear hK K;refine tN 73 (h:= ?_);(as_aux_lemma=>refine tP 21 (some 74) ?_;refine tP 22 (some 75) ?_;refine tP 23 (some 76) ?_;refine tP 24 (some 77) ?_;refine tP 25 (some 78) ?_;refine tP 26 (some 79) ?_;refine tO 27 (some 80) fun K hK=> ?_;refine sqg Tryz.func18 #[.int .i64 t534,.int .i64 t535] ?_;(with_reducible refine (zp.calls k t534 t535 t565 _ A62.out).mono ?_);rintro e w' ⟨rfl,⟨nd,rfl⟩⟩;refine ⟨_,rfl,?_⟩;refine hK.out _ _ tH (fun hHeld=> ?_);clear hK K;refine tN 80 (h:= ?_);refine tP 28 (some 81) ?_;refine tP 29 (some 82) ?_;refine tP 30 (some 83) ?_;refine tP 31 (some 84) ?_;refine tP 32 (some 85) ?_;refine tP 33 (some 86) ?_;refine tP 34 (some 87) ?_;refine tP 35 (some 88) ?_;refine tP 36 (some 89) ?_;(as_aux_lemma=>refine tP 37 (some 90) ?_;refine tP 38 (some 91) ?_;refine tP 39 (some 92) ?_;refine tP 40 (some 93) ?_;refine tP 41 (some 94) ?_;refine tP 42 (some 95) ?_;refine tP 43 (some 96) ?_;refine tP 44 (some 97) ?_;refine tP 45 (some 98) ?_;refine tP 46 (some 99) ?_;refine tP 47 (some 100) ?_;refine tT 48 (some 101) ?_;refine tT 49 (some 102) ?_;refine tO 50 (some 103) fun K hK=> ?_;refine sqg Tryz.func15 #[.agg #[.int .i64 t538,.int .i64 t539,.int .i64 t540,.slice Ao43 t541.length co43],.agg #[.int .i64 t546,.int .i64 t547,.int .i64 t548,.slice Ao52 t549.length co52]] ?_;(with_reducible refine (zN.calls k t538 t539 t540 _ _ t541 t546 t547 t548 _ _ t549 true _ ?side1 ?side2 ?side3 ?side4 A85.out).mono ?_);(case side1=>exact sqC (Kd.ze HO543.out).2.2);(case side2=>exact (Kd.ze HO543.out).2.1);(case side3=>exact sqC (Kd.ze HO551.out).2.2);(case side4=>exact (Kd.ze HO551.out).2.1);rintro e w98 ⟨rfl,hb⟩;refine ⟨_,rfl,?_⟩;have q_:=f14 (sqb HO510 hb) (sqb HO518 hb) (sqb HO525 hb) (sqb HO531 hb) (sqb HO543 hb) (sqb HO551 hb) (sqb HO561 hb) (sqh BK512 hb) (sqh BK519 hb) (sqh BK532 hb) (sqh BK533 hb) (sqh BK545 hb) (sqh BK553 hb) (za sqB hb);clear HO510 HO518 HO525 HO531 HO543 HO551 HO561 BK512 BK519 BK532 BK533 BK545 BK553 HB;obtain ⟨HO510,HO518,HO525,HO531,HO543,HO551,HO561,BK512,BK519,BK532,BK533,BK545,BK553,HB⟩:=q_;refine hK.out _ _ tH (fun hHeld=> ?_);clear hK K;refine tN 103 (h:= ?_);refine tP 51 (some 104) ?_;refine tP 52 (some 105) ?_;(as_aux_lemma=>refine tP 53 (some 106) ?_;refine tT 54 (some 107) ?_;refine tT 56 (some 109) ?_;refine tO 55 (some 108) fun K hK=> ?_;refine sqg Tryz.func19 #[.agg #[.int .i64 t520,.int .i64 t521,.int .i64 t522,.slice Ao29 t523.length co29]] ?_;(with_reducible refine (zx.calls k t520 t521 t522 _ _ t523 t570 _ ?side1 ?side2 A87.out).mono ?_);(case side1=>exact sqC (Kd.ze HO525.out).2.2);(case side2=>exact (Kd.ze HO525.out).2.1);rintro e w99 ⟨rfl,hb⟩;refine ⟨_,rfl,?_⟩;have q_:=f14 (sqb HO510 hb) (sqb HO518 hb) (sqb HO525 hb) (sqb HO531 hb) (sqb HO543 hb) (sqb HO551 hb) (sqb HO561 hb) (sqh BK512 hb) (sqh BK519 hb) (sqh BK532 hb) (sqh BK533 hb) (sqh BK545 hb) (sqh BK553 hb) (za sqB hb);clear HO510 HO518 HO525 HO531 HO543 HO551 HO561 BK512 BK519 BK532 BK533 BK545 BK553 HB;obtain ⟨HO510,HO518,HO525,HO531,HO543,HO551,HO561,BK512,BK519,BK532,BK533,BK545,BK553,HB⟩:=q_;refine hK.out _ _ tH (fun hHeld=> ?_);clear hK K;refine tN 108 (h:= ?_);refine tO 57 (some 110) fun K hK=> ?_;refine sqg Tryz.func20 #[.agg #[.int .i64 t520,.int .i64 t521,.int .i64 t522,.slice Ao29 t523.length co29]] ?_;(with_reducible refine (zw.calls k t520 t521 t522 _ _ t523 t571 _ ?side1 ?side2 A88.out).mono ?_);(case side1=>exact sqC (Kd.ze HO525.out).2.2);(case side2=>exact (Kd.ze HO525.out).2.1);rintro e w100 ⟨rfl,hb⟩;refine ⟨_,rfl,?_⟩;have q_:=f14 (sqb HO510 hb) (sqb HO518 hb) (sqb HO525 hb) (sqb HO531 hb) (sqb HO543 hb) (sqb HO551 hb) (sqb HO561 hb) (sqh BK512 hb) (sqh BK519 hb) (sqh BK532 hb) (sqh BK533 hb) (sqh BK545 hb) (sqh BK553 hb) (za sqB hb);clear HO510 HO518 HO525 HO531 HO543 HO551 HO561 BK512 BK519 BK532 BK533 BK545 BK553 HB;obtain ⟨HO510,HO518,HO525,HO531,HO543,HO551,HO561,BK512,BK519,BK532,BK533,BK545,BK553,HB⟩:=q_;refine hK.out _ _ tH (fun hHeld=> ?_);clear hK K;refine tN 110 (h:= ?_);refine tP 58 (some 111) ?_;refine tP 59 (some 112) ?_;refine jY (jn HT_.out (by kernel_rfl)) ?_;(try go_wp2);go_meet;(case rel=>exact ⟨_,((t570 != t571)),(sqD),H',⟨by first|omega|exact Nat.le_refl _⟩,⟨sqR HO510.out⟩,⟨sqR HO518.out⟩,⟨sqR HO525.out⟩,⟨sqK BK512.out⟩,⟨sqK BK519.out⟩,⟨sqK BK532.out⟩,⟨sqB⟩⟩))))));(·obtain rfl:=sqf c86;rw [if_neg sqz] at H;exact absurd H (by simp))));(·rw [if_neg c83] at H;have c83b0:((Int.tmod (wrap64 (t536*t535)) t534)==1)=false:=beq_eq_false_iff_ne.mpr c83;have c83b1:((Int.tmod (wrap64 (t536*t535)) t534) != 1)=true:=bne_iff_ne.mpr c83;exact absurd H (by simp))));(·rw [if_neg c63] at H;have c63b0:(t536==t565)=false:=beq_eq_false_iff_ne.mpr c63;have c63b1:(t536 != t565)=true:=bne_iff_ne.mpr c63;exact absurd H (by simp))));(·obtain rfl:=sqf c58;rw [if_neg sqz] at H;exact absurd H (by simp)));(·rw [if_neg c55] at H;have c55b0:(t554==t555)=false:=beq_eq_false_iff_ne.mpr c55;have c55b1:(t554 != t555)=true:=bne_iff_ne.mpr c55;(first|rw [c55b0]|(simp only [zI,zV];rw [c55b0])|skip);exact absurd H (by simp)));(case rest=>as_aux_lemma=>clear HC12;obtain ⟨kq,x112_11,rfl,HA,HJ11,HO_513003,HO_520003,HO_533003,BK512,BK519,BK532,HB⟩:=hcut;(cases kq with|zero=>exact absurd HA.out (by simp [zm.j0])|succ kj11=>have H:=HA.out;clear HA;simp only [zm.j0] at H;by_cases c101:x112_11=true;(·subst c101;rw [if_pos rfl] at H;exact absurd H (by simp));(·obtain rfl:=sqf c101;rw [if_neg sqz] at H;replace H:=zF H;obtain ⟨t572,A102,H⟩:=H;replace H:=zF H;obtain ⟨⟨t573,t574,t575,t576,t579⟩,A103,H⟩:=H;(try dsimp only at H);have HC104:=Aside0.mk H;clear H;have hnb105:=NB532_512.out;have hnc105:=NB512_532.out;have hnb106:=NB532_519.out;have hnc106:=NB519_532.out;obtain ⟨_,_,_,_,_,_,_,_⟩:=z4 BK532.out;(go_upto_region 15 with (first|((with_reducible refine sqc 21 ?_);refine sql 114 Tryz.func21 #[.agg #[.int .i64 t520,.int .i64 t521,.int .i64 t522,.slice Ao29 t523.length co29]] ?_;(with_reducible refine (zG.calls kj11 t520 t521 t522 _ _ t523 t572 _ ?side1 ?side2 A102.out).mono ?_);(case side1=>exact sqC (Kd.ze HO_533003.out).2.2);(case side2=>exact (Kd.ze HO_533003.out).2.1);rintro e w108 ⟨rfl,hb⟩;refine ⟨_,rfl,?_⟩;have q_:=f7 (sqb HO_513003 hb) (sqb HO_520003 hb) (sqb HO_533003 hb) (sqh BK512 hb) (sqh BK519 hb) (sqh BK532 hb) (za sqB hb);clear HO_513003 HO_520003 HO_533003 BK512 BK519 BK532 HB;obtain ⟨HO_513003,HO_520003,HO_533003,BK512,BK519,BK532,HB⟩:=q_)|((with_reducible refine sqc 11 ?_);refine sql 117 Tryz.func11 #[.string t572] ?_;(with_reducible refine (zq.calls kj11 t572 t573 t574 t575 t576 t579 _ A103.out).mono ?_);rintro e w109 ⟨v577,rfl,ho0,hb⟩;refine ⟨_,rfl,?_⟩;have q_:=f8 (sqb HO_513003 hb) (sqb HO_520003 hb) (sqb HO_533003 hb) (Kd.zX ho0 (zt sqB)) (sqh BK512 hb) (sqh BK519 hb) (sqh BK532 hb) (za sqB hb);clear HO_513003 HO_520003 HO_533003 BK512 BK519 BK532 HB;obtain ⟨HO_513003,HO_520003,HO_533003,HO578,BK512,BK519,BK532,HB⟩:=q_)|((with_reducible refine sqd 17 ?_);refine sqx #[.int .i64 0,.int .i64 0,.int .i64 0,.slice none 0 0] 26 ?_;intro gb580 hg w110 hbox hb;have q_:=f17 (sqb HO_513003 hb) (sqb HO_520003 hb) (sqb HO_533003 hb) (sqb HO578 hb) (sqh BK512 hb) (sqh BK519 hb) (sqh BK532 hb) (za sqB hb) hbox (sqS hg:w.heap.size≤gb580) (sqS hg:w.heap.size≤gb580) (sqn BK512 hg) (sqm BK512 hg) (sqn BK519 hg) (sqm BK519 hg) (sqn BK532 hg) (sqm BK532 hg);clear HO_513003 HO_520003 HO_533003 HO578 BK512 BK519 BK532 HB;obtain ⟨HO_513003,HO_520003,HO_533003,HO578,BK512,BK519,BK532,HB,BK580,GW580,GE580,NB512_580,NB580_512,NB519_580,NB580_519,NB532_580,NB580_532⟩:=q_;clear hb hbox hg;have hnb111:=NB580_512.out;have hnc111:=NB512_580.out;have hnb112:=NB580_519.out;have hnc112:=NB519_580.out;have hnb113:=NB580_532.out;have hnc113:=NB532_580.out;obtain ⟨_,_,_,_,_,_,_,_⟩:=z4 BK580.out;obtain ⟨Ao115,co115,eo115⟩:=Kd.zH HO578.out;subst eo115)));(try simp only [Act.put,List.setIfInBounds_toArray,List.set_cons_zero,List.set_cons_succ]);(go_cut [138] (fun v138 wc=> ∃(kq:Nat) (x138_103:Bool),v138= .bool x138_103∧Aside0 (zm.j1 kq t511 x138_103 t505 t506 t507 t508 t513 t514 t515 t516=some r)∧Aside0 (kq≤kj11)∧Aside0 (Kd.R (Kd.int .i64) 3 wc w.heap.size (fun _=>True) (.slice Ao16 t508.length co16) t508)∧Aside0 (Kd.R (Kd.int .i64) 3 wc w.heap.size (fun _=>True) (.slice Ao21 t516.length co21) t516)∧Aside0 (wc.heap[gb512]? =some (.cells #[.int .i64 t505,.int .i64 t506,.int .i64 t507,(.slice Ao16 t508.length co16)] 26 (0,0)))∧Aside0 (wc.heap[gb519]? =some (.cells #[.int .i64 t513,.int .i64 t514,.int .i64 t515,(.slice Ao21 t516.length co21)] 26 (0,0)))∧Aside0 (Below w.heap.size w wc)));(case first=>as_aux_lemma=>have H:=HC104.out;clear HC104;replace H:=zF H;obtain ⟨t581,A116,H⟩:=H;obtain ⟨c117,H⟩:=zU H;have c117b0:(t572.toList==t581.toList)=true:=beq_iff_eq.mpr c117;have c117b1:(t572.toList != t581.toList)=false:=bne_eq_false_iff_eq.mpr c117;clear c117;(first|rw [c117b0]|(simp only [zI,zV];rw [c117b0])|skip);replace H:=zF H;obtain ⟨t582,A118,H⟩:=H;obtain ⟨c119,H⟩:=Jl H;(have c119b0:(t579 != t582)=false:=by simpa using c119);(try (have c119b1:decide (t579=t582)=true:=by simpa using c119));(try (have c119b2:(t579==t582)=true:=by simpa using c119));clear c119;by_cases c120:t579=true;(·subst c120;rw [if_pos rfl] at H;replace H:=zF H;obtain ⟨t583,A121,H⟩:=H;have H':=Aside0.mk H;clear H;have hnb122:=NB532_512.out;have hnc122:=NB512_532.out;have hnb123:=NB532_519.out;have hnc123:=NB519_532.out;have hnb124:=NB532_580.out;have hnc124:=NB580_532.out;obtain ⟨_,_,_,_,_,_,_,_⟩:=z4 BK532.out;(go_wp2_with (first|((with_reducible refine sqc 22 ?_);refine sql 122 Tryz.func22 #[.agg #[.int .i64 t520,.int .i64 t521,.int .i64 t522,.slice Ao29 t523.length co29]] ?_;(with_reducible refine (zu.calls kj11 t520 t521 t522 _ _ t523 t581 _ ?side1 ?side2 A116.out).mono ?_);(case side1=>refine (Kd.ze (e:=3) (base:=w.heap.size) (ok:=fun k_=>True) (n:=t523.length) (c:=co29) ?_).2.2;exact (by refine sqR ?_;exact (Kd.zn (Kd.zd (p:=⟨gb580,3,none⟩) (Kd.zd (p:=⟨gb580,2,none⟩) (Kd.zd (p:=⟨gb580,1,none⟩) (Kd.zd (p:=⟨gb580,0,none⟩) (Kd.zv HO_533003.out BK580.out (by decide)) (fun _ hk=>hk.2) (.int .i64 t573)) (fun _ hk=>hk.2) (.int .i64 t574)) (fun _ hk=>hk.2) (.int .i64 t575)) (fun _ hk=>hk.2) (.slice Ao115 t576.length co115)) (fun _ h_=>h_.1))));(case side2=>exact (Kd.ze HO_533003.out).2.1);rintro e w126 ⟨rfl,hb⟩;refine ⟨_,rfl,?_⟩;have q_:=f9 (Kd.qw (by refine sqR ?_;exact (Kd.zn (Kd.zd (p:=⟨gb580,3,none⟩) (Kd.zd (p:=⟨gb580,2,none⟩) (Kd.zd (p:=⟨gb580,1,none⟩) (Kd.zd (p:=⟨gb580,0,none⟩) (Kd.zv HO_513003.out BK580.out (by decide)) (fun _ hk=>hk.2) (.int .i64 t573)) (fun _ hk=>hk.2) (.int .i64 t574)) (fun _ hk=>hk.2) (.int .i64 t575)) (fun _ hk=>hk.2) (.slice Ao115 t576.length co115)) (fun _ h_=>h_.1))) hb) (Kd.qw (by refine sqR ?_;exact (Kd.zn (Kd.zd (p:=⟨gb580,3,none⟩) (Kd.zd (p:=⟨gb580,2,none⟩) (Kd.zd (p:=⟨gb580,1,none⟩) (Kd.zd (p:=⟨gb580,0,none⟩) (Kd.zv HO_520003.out BK580.out (by decide)) (fun _ hk=>hk.2) (.int .i64 t573)) (fun _ hk=>hk.2) (.int .i64 t574)) (fun _ hk=>hk.2) (.int .i64 t575)) (fun _ hk=>hk.2) (.slice Ao115 t576.length co115)) (fun _ h_=>h_.1))) hb) (Kd.qw (by refine sqR ?_;exact (Kd.zn (Kd.zd (p:=⟨gb580,3,none⟩) (Kd.zd (p:=⟨gb580,2,none⟩) (Kd.zd (p:=⟨gb580,1,none⟩) (Kd.zd (p:=⟨gb580,0,none⟩) (Kd.zv HO_533003.out BK580.out (by decide)) (fun _ hk=>hk.2) (.int .i64 t573)) (fun _ hk=>hk.2) (.int .i64 t574)) (fun _ hk=>hk.2) (.int .i64 t575)) (fun _ hk=>hk.2) (.slice Ao115 t576.length co115)) (fun _ h_=>h_.1))) hb) (Kd.qw (by refine sqR ?_;exact (Kd.zn (Kd.zd (p:=⟨gb580,3,none⟩) (Kd.zd (p:=⟨gb580,2,none⟩) (Kd.zd (p:=⟨gb580,1,none⟩) (Kd.zd (p:=⟨gb580,0,none⟩) (Kd.zv HO578.out BK580.out (by decide)) (fun _ hk=>hk.2) (.int .i64 t573)) (fun _ hk=>hk.2) (.int .i64 t574)) (fun _ hk=>hk.2) (.int .i64 t575)) (fun _ hk=>hk.2) (.slice Ao115 t576.length co115)) (fun _ h_=>h_.1))) hb) (sqh BK512 hb) (sqh BK519 hb) (sqh BK532 hb) (qo (g:=gb580) (o:= .cells #[.int .i64 t573,.int .i64 t574,.int .i64 t575,.slice Ao115 t576.length co115] 26 (0,0)) (by refine sqK ?_;refine zc (cs:=#[.int .i64 t573,.int .i64 t574,.int .i64 t575,.slice none 0 0]) ?_ 3 _ rfl;refine sqK ?_;refine zc (cs:=#[.int .i64 t573,.int .i64 t574,.int .i64 0,.slice none 0 0]) ?_ 2 _ rfl;refine sqK ?_;refine zc (cs:=#[.int .i64 t573,.int .i64 0,.int .i64 0,.slice none 0 0]) ?_ 1 _ rfl;refine sqK ?_;refine zc (cs:=#[.int .i64 0,.int .i64 0,.int .i64 0,.slice none 0 0]) ?_ 0 _ rfl;refine sqK ?_;exact BK580.out) hb) (za sqB hb);clear HO_513003 HO_520003 HO_533003 HO578 BK512 BK519 BK532 BK580 HB;obtain ⟨HO_513003,HO_520003,HO_533003,HO578,BK512,BK519,BK532,BK580,HB⟩:=q_;obtain ⟨_,_,_,_,_,_,_,_⟩:=z4 BK532.out)|(go_at_call 20;(try simp only [zI,zV]);(with_reducible refine (zw.calls kj11 t520 t521 t522 _ _ t523 t582 _ ?side1 ?side2 A118.out).mono ?_);(case side1=>exact sqC (Kd.ze HO_533003.out).2.2);(case side2=>exact (Kd.ze HO_533003.out).2.1);rintro e w128 ⟨rfl,hb⟩;have q_:=f9 (sqb HO_513003 hb) (sqb HO_520003 hb) (sqb HO_533003 hb) (sqb HO578 hb) (sqh BK512 hb) (sqh BK519 hb) (sqh BK532 hb) (sqh BK580 hb) (za sqB hb);clear HO_513003 HO_520003 HO_533003 HO578 BK512 BK519 BK532 BK580 HB;obtain ⟨HO_513003,HO_520003,HO_533003,HO578,BK512,BK519,BK532,BK580,HB⟩:=q_;have hnb129:=NB580_512.out;have hnc129:=NB512_580.out;have hnb130:=NB580_519.out;have hnc130:=NB519_580.out;obtain ⟨_,_,_,_,_,_,_,_⟩:=z4 BK580.out;obtain ⟨_,_,_,_,_,_,_,_⟩:=z4 BK532.out)|(go_at_call 15;(try simp only [zI,zV]);(with_reducible refine (zN.calls kj11 t573 t574 t575 _ _ t576 t520 t521 t522 _ _ t523 t583 _ ?side1 ?side2 ?side3 ?side4 A121.out).mono ?_);(case side1=>exact sqC (Kd.ze HO578.out).2.2);(case side2=>exact (Kd.ze HO578.out).2.1);(case side3=>exact sqC (Kd.ze HO_533003.out).2.2);(case side4=>exact (Kd.ze HO_533003.out).2.1);rintro e w133 ⟨rfl,hb⟩;have q_:=f9 (sqb HO_513003 hb) (sqb HO_520003 hb) (sqb HO_533003 hb) (sqb HO578 hb) (sqh BK512 hb) (sqh BK519 hb) (sqh BK532 hb) (sqh BK580 hb) (za sqB hb);clear HO_513003 HO_520003 HO_533003 HO578 BK512 BK519 BK532 BK580 HB;obtain ⟨HO_513003,HO_520003,HO_533003,HO578,BK512,BK519,BK532,BK580,HB⟩:=q_)));go_meet;(case rel=>exact ⟨_,(!t583),(sqD),H',⟨by have:=HJ11.out;first|omega|exact Nat.le_refl _⟩,⟨sqR HO_513003.out⟩,⟨sqR HO_520003.out⟩,⟨sqK BK512.out⟩,⟨sqK BK519.out⟩,⟨sqB⟩⟩));(·obtain rfl:=sqf c120;rw [if_neg sqz] at H;have H':=Aside0.mk H;clear H;have hnb134:=NB532_512.out;have hnc134:=NB512_532.out;have hnb135:=NB532_519.out;have hnc135:=NB519_532.out;have hnb136:=NB532_580.out;have hnc136:=NB580_532.out;obtain ⟨_,_,_,_,_,_,_,_⟩:=z4 BK532.out;(go_wp2_with (first|((with_reducible refine sqc 22 ?_);refine sql 122 Tryz.func22 #[.agg #[.int .i64 t520,.int .i64 t521,.int .i64 t522,.slice Ao29 t523.length co29]] ?_;(with_reducible refine (zu.calls kj11 t520 t521 t522 _ _ t523 t581 _ ?side1 ?side2 A116.out).mono ?_);(case side1=>refine (Kd.ze (e:=3) (base:=w.heap.size) (ok:=fun k_=>True) (n:=t523.length) (c:=co29) ?_).2.2;exact (by refine sqR ?_;exact (Kd.zn (Kd.zd (p:=⟨gb580,3,none⟩) (Kd.zd (p:=⟨gb580,2,none⟩) (Kd.zd (p:=⟨gb580,1,none⟩) (Kd.zd (p:=⟨gb580,0,none⟩) (Kd.zv HO_533003.out BK580.out (by decide)) (fun _ hk=>hk.2) (.int .i64 t573)) (fun _ hk=>hk.2) (.int .i64 t574)) (fun _ hk=>hk.2) (.int .i64 t575)) (fun _ hk=>hk.2) (.slice Ao115 t576.length co115)) (fun _ h_=>h_.1))));(case side2=>exact (Kd.ze HO_533003.out).2.1);rintro e w138 ⟨rfl,hb⟩;refine ⟨_,rfl,?_⟩;have q_:=f9 (Kd.qw (by refine sqR ?_;exact (Kd.zn (Kd.zd (p:=⟨gb580,3,none⟩) (Kd.zd (p:=⟨gb580,2,none⟩) (Kd.zd (p:=⟨gb580,1,none⟩) (Kd.zd (p:=⟨gb580,0,none⟩) (Kd.zv HO_513003.out BK580.out (by decide)) (fun _ hk=>hk.2) (.int .i64 t573)) (fun _ hk=>hk.2) (.int .i64 t574)) (fun _ hk=>hk.2) (.int .i64 t575)) (fun _ hk=>hk.2) (.slice Ao115 t576.length co115)) (fun _ h_=>h_.1))) hb) (Kd.qw (by refine sqR ?_;exact (Kd.zn (Kd.zd (p:=⟨gb580,3,none⟩) (Kd.zd (p:=⟨gb580,2,none⟩) (Kd.zd (p:=⟨gb580,1,none⟩) (Kd.zd (p:=⟨gb580,0,none⟩) (Kd.zv HO_520003.out BK580.out (by decide)) (fun _ hk=>hk.2) (.int .i64 t573)) (fun _ hk=>hk.2) (.int .i64 t574)) (fun _ hk=>hk.2) (.int .i64 t575)) (fun _ hk=>hk.2) (.slice Ao115 t576.length co115)) (fun _ h_=>h_.1))) hb) (Kd.qw (by refine sqR ?_;exact (Kd.zn (Kd.zd (p:=⟨gb580,3,none⟩) (Kd.zd (p:=⟨gb580,2,none⟩) (Kd.zd (p:=⟨gb580,1,none⟩) (Kd.zd (p:=⟨gb580,0,none⟩) (Kd.zv HO_533003.out BK580.out (by decide)) (fun _ hk=>hk.2) (.int .i64 t573)) (fun _ hk=>hk.2) (.int .i64 t574)) (fun _ hk=>hk.2) (.int .i64 t575)) (fun _ hk=>hk.2) (.slice Ao115 t576.length co115)) (fun _ h_=>h_.1))) hb) (Kd.qw (by refine sqR ?_;exact (Kd.zn (Kd.zd (p:=⟨gb580,3,none⟩) (Kd.zd (p:=⟨gb580,2,none⟩) (Kd.zd (p:=⟨gb580,1,none⟩) (Kd.zd (p:=⟨gb580,0,none⟩) (Kd.zv HO578.out BK580.out (by decide)) (fun _ hk=>hk.2) (.int .i64 t573)) (fun _ hk=>hk.2) (.int .i64 t574)) (fun _ hk=>hk.2) (.int .i64 t575)) (fun _ hk=>hk.2) (.slice Ao115 t576.length co115)) (fun _ h_=>h_.1))) hb) (sqh BK512 hb) (sqh BK519 hb) (sqh BK532 hb) (qo (g:=gb580) (o:= .cells #[.int .i64 t573,.int .i64 t574,.int .i64 t575,.slice Ao115 t576.length co115] 26 (0,0)) (by refine sqK ?_;refine zc (cs:=#[.int .i64 t573,.int .i64 t574,.int .i64 t575,.slice none 0 0]) ?_ 3 _ rfl;refine sqK ?_;refine zc (cs:=#[.int .i64 t573,.int .i64 t574,.int .i64 0,.slice none 0 0]) ?_ 2 _ rfl;refine sqK ?_;refine zc (cs:=#[.int .i64 t573,.int .i64 0,.int .i64 0,.slice none 0 0]) ?_ 1 _ rfl;refine sqK ?_;refine zc (cs:=#[.int .i64 0,.int .i64 0,.int .i64 0,.slice none 0 0]) ?_ 0 _ rfl;refine sqK ?_;exact BK580.out) hb) (za sqB hb);clear HO_513003 HO_520003 HO_533003 HO578 BK512 BK519 BK532 BK580 HB;obtain ⟨HO_513003,HO_520003,HO_533003,HO578,BK512,BK519,BK532,BK580,HB⟩:=q_;obtain ⟨_,_,_,_,_,_,_,_⟩:=z4 BK532.out)|(go_at_call 20;(try simp only [zI,zV]);(with_reducible refine (zw.calls kj11 t520 t521 t522 _ _ t523 t582 _ ?side1 ?side2 A118.out).mono ?_);(case side1=>exact sqC (Kd.ze HO_533003.out).2.2);(case side2=>exact (Kd.ze HO_533003.out).2.1);rintro e w140 ⟨rfl,hb⟩;have q_:=f9 (sqb HO_513003 hb) (sqb HO_520003 hb) (sqb HO_533003 hb) (sqb HO578 hb) (sqh BK512 hb) (sqh BK519 hb) (sqh BK532 hb) (sqh BK580 hb) (za sqB hb);clear HO_513003 HO_520003 HO_533003 HO578 BK512 BK519 BK532 BK580 HB;obtain ⟨HO_513003,HO_520003,HO_533003,HO578,BK512,BK519,BK532,BK580,HB⟩:=q_)));go_meet;(case rel=>exact ⟨_,(false),(sqD),H',⟨by have:=HJ11.out;first|omega|exact Nat.le_refl _⟩,⟨sqR HO_513003.out⟩,⟨sqR HO_520003.out⟩,⟨sqK BK512.out⟩,⟨sqK BK519.out⟩,⟨sqB⟩⟩)));(case rest=>as_aux_lemma=>clear HC104;obtain ⟨kq,x138_103,rfl,HA,HJ103,HO_513003,HO_520003,BK512,BK519,HB⟩:=hcut;(cases kq with|zero=>exact absurd HA.out (by simp [zm.j1])|succ kj103=>have H:=HA.out;clear HA;simp only [zm.j1] at H;by_cases c141:x138_103=true;(·subst c141;rw [if_pos rfl] at H;exact absurd H (by simp));(·obtain rfl:=sqf c141;rw [if_neg sqz] at H;replace H:=zF H;obtain ⟨t584,A142,H⟩:=H;by_cases c143:t584=true;(·subst c143;rw [if_pos rfl] at H;replace H:=zF H;obtain ⟨⟨t585,t586,t587,t588⟩,A144,H⟩:=H;(try dsimp only at H);replace H:=zF H;obtain ⟨t591,A145,H⟩:=H;by_cases c146:t591=true;(·subst c146;rw [if_pos rfl] at H;replace H:=zF H;obtain ⟨t592,A147,H⟩:=H;by_cases c148:t592=true;(·subst c148;rw [if_pos rfl] at H;replace H:=zF H;obtain ⟨t593,A149,H⟩:=H;replace H:=zF H;obtain ⟨t594,A150,H⟩:=H;obtain rfl:=Option.some.inj H;(try go_wp2);have q_:=f5 (Kd.qx HO_513003.out) (Kd.qx HO_520003.out) (zL BK512.out) (zL BK519.out) (zE HB.out);clear HO_513003 HO_520003 BK512 BK519 HB;obtain ⟨HO_513003,HO_520003,BK512,BK519,HB⟩:=q_;refine jz (n:=26) (S:=fun w'=>w'.cell? ⟨gb512,0,none⟩=some (.int .i64 t505)∧w'.cell? ⟨gb512,1,none⟩=some (.int .i64 t506)∧w'.cell? ⟨gb512,2,none⟩=some (.int .i64 t507)∧w'.cell? ⟨gb512,3,none⟩=some (.slice Ao16 t508.length co16)∧w'.cell? ⟨gb519,0,none⟩=some (.int .i64 t513)∧w'.cell? ⟨gb519,1,none⟩=some (.int .i64 t514)∧w'.cell? ⟨gb519,2,none⟩=some (.int .i64 t515)∧w'.cell? ⟨gb519,3,none⟩=some (.slice Ao21 t516.length co21)) (ds:=[]) #[false,false,false,false,false,false,false,false,false,false,false,false,false,false,false,false,false,false,false,false,false,false,false,false,false,false] (by kernel_rfl) rfl rfl tH (fun hHeld=> ?_);refine qF zm.Jx zm.ZQ (fun HT_ HW_=> ?_);generalize wc.drew=w151 at HO_513003 HO_520003 BK512 BK519 HB hHeld ⊢;refine tT 0 (some 139) ?_;refine tO 1 (some 140) fun K hK=> ?_;refine sqg Tryz.func20 #[.agg #[.int .i64 t505,.int .i64 t506,.int .i64 t507,.slice Ao16 t508.length co16]] ?_;(with_reducible refine (zw.calls kj103 t505 t506 t507 _ _ t508 true _ ?side1 ?side2 A142.out).mono ?_);(case side1=>exact sqC (Kd.ze HO_513003.out).2.2);(case side2=>exact (Kd.ze HO_513003.out).2.1);rintro e w152 ⟨rfl,hb⟩;refine ⟨_,rfl,?_⟩;have q_:=f5 (sqb HO_513003 hb) (sqb HO_520003 hb) (sqh BK512 hb) (sqh BK519 hb) (za sqB hb);clear HO_513003 HO_520003 BK512 BK519 HB;obtain ⟨HO_513003,HO_520003,BK512,BK519,HB⟩:=q_;refine hK.out _ _ tH (fun hHeld=> ?_);clear hK K;refine tN 140 (h:= ?_);refine tP 2 (some 141) ?_;refine tP 3 (some 142) ?_;refine tT 4 (some 143) ?_;refine tT 6 (some 145) ?_;refine tO 5 (some 144) fun K hK=> ?_;refine sqg Tryz.func6 #[.agg #[.int .i64 t513,.int .i64 t514,.int .i64 t515,.slice Ao21 t516.length co21]] ?_;(with_reducible refine (qz.calls kj103 t513 t514 t515 _ _ t516 t585 t586 t587 t588 _ ?side1 ?side2 A144.out).mono ?_);(case side1=>exact sqC (Kd.ze HO_520003.out).2.2);(case side2=>exact (Kd.ze HO_520003.out).2.1);rintro e w153 ⟨v589,rfl,ho0,hb⟩;refine ⟨_,rfl,?_⟩;have q_:=f6 (sqb HO_513003 hb) (sqb HO_520003 hb) (Kd.zX ho0 (zt sqB)) (sqh BK512 hb) (sqh BK519 hb) (za sqB hb);clear HO_513003 HO_520003 BK512 BK519 HB;obtain ⟨HO_513003,HO_520003,HO590,BK512,BK519,HB⟩:=q_;obtain ⟨Ao154,co154,eo154⟩:=Kd.zH HO590.out;(first|subst eo154|(injection eo154 with f1_ f2_ f3_;have f4_:=f1_.symm;have f5_:=f3_.symm;clear f1_ f2_ f3_;subst f4_;subst f5_));refine hK.out _ _ tH (fun hHeld=> ?_);clear hK K;refine tN 144 (h:= ?_);refine tO 7 (some 146) fun K hK=> ?_;refine sqg Tryz.func15 #[.agg #[.int .i64 t585,.int .i64 t586,.int .i64 t587,.slice Ao154 t588.length co154],.agg #[.int .i64 t513,.int .i64 t514,.int .i64 t515,.slice Ao21 t516.length co21]] ?_;(with_reducible refine (zN.calls kj103 t585 t586 t587 _ _ t588 t513 t514 t515 _ _ t516 true _ ?side1 ?side2 ?side3 ?side4 A145.out).mono ?_);(case side1=>exact sqC (Kd.ze HO590.out).2.2);(case side2=>exact (Kd.ze HO590.out).2.1);(case side3=>exact sqC (Kd.ze HO_520003.out).2.2);(case side4=>exact (Kd.ze HO_520003.out).2.1);rintro e w155 ⟨rfl,hb⟩;refine ⟨_,rfl,?_⟩;have q_:=f6 (sqb HO_513003 hb) (sqb HO_520003 hb) (sqb HO590 hb) (sqh BK512 hb) (sqh BK519 hb) (za sqB hb);clear HO_513003 HO_520003 HO590 BK512 BK519 HB;obtain ⟨HO_513003,HO_520003,HO590,BK512,BK519,HB⟩:=q_;refine hK.out _ _ tH (fun hHeld=> ?_);clear hK K;refine tN 146 (h:= ?_);refine tP 8 (some 147) ?_;refine tP 9 (some 148) ?_;refine tP 11 (some 150) ?_;refine tT 10 (some 149) ?_;refine tO 12 (some 151) fun K hK=> ?_;refine sqg Tryz.func23 #[.int .i64 t507,.int .i64 t511] ?_;(with_reducible refine (jD.calls t507 t511 true _ A147.out).mono ?_);rintro e w' ⟨rfl,⟨nd,rfl⟩⟩;refine ⟨_,rfl,?_⟩;refine hK.out _ _ tH (fun hHeld=> ?_);clear hK K;refine tN 151 (h:= ?_);refine tP 13 (some 152) ?_;refine tP 14 (some 153) ?_;(as_aux_lemma=>refine tP 16 (some 155) ?_;refine tP 19 (some 158) ?_;refine tT 15 (some 154) ?_;refine tT 18 (some 157) ?_;refine tO 17 (some 156) fun K hK=> ?_;refine sqg Tryz.func13 #[.agg #[.int .i64 t513,.int .i64 t514,.int .i64 t515,.slice Ao21 t516.length co21],.int .i64 t511] ?_;(with_reducible refine (qa.calls kj103 t513 t514 t515 _ _ t516 t511 t593 _ ?side1 ?side2 A149.out).mono ?_);(case side1=>exact sqC (Kd.ze HO_520003.out).2.2);(case side2=>exact (Kd.ze HO_520003.out).2.1);rintro e w156 ⟨rfl,hb⟩;refine ⟨_,rfl,?_⟩;have q_:=f6 (sqb HO_513003 hb) (sqb HO_520003 hb) (sqb HO590 hb) (sqh BK512 hb) (sqh BK519 hb) (za sqB hb);clear HO_513003 HO_520003 HO590 BK512 BK519 HB;obtain ⟨HO_513003,HO_520003,HO590,BK512,BK519,HB⟩:=q_;refine hK.out _ _ tH (fun hHeld=> ?_);clear hK K;refine tN 156 (h:= ?_);refine tO 20 (some 159) fun K hK=> ?_;refine sqg Tryz.func14 #[.agg #[.int .i64 t505,.int .i64 t506,.int .i64 t507,.slice Ao16 t508.length co16],.int .i64 t511] ?_;(with_reducible refine (qR.calls kj103 t505 t506 t507 _ _ t508 t511 t594 _ ?side1 ?side2 A150.out).mono ?_);(case side1=>exact sqC (Kd.ze HO_513003.out).2.2);(case side2=>exact (Kd.ze HO_513003.out).2.1);rintro e w157 ⟨rfl,hb⟩;refine ⟨_,rfl,?_⟩;have q_:=f6 (sqb HO_513003 hb) (sqb HO_520003 hb) (sqb HO590 hb) (sqh BK512 hb) (sqh BK519 hb) (za sqB hb);clear HO_513003 HO_520003 HO590 BK512 BK519 HB;obtain ⟨HO_513003,HO_520003,HO590,BK512,BK519,HB⟩:=q_;refine hK.out _ _ tH (fun hHeld=> ?_);clear hK K;refine tN 159 (h:= ?_);refine tP 21 (some 160) ?_;refine tP 22 (some 161) ?_;refine tP 23 (some 162) ?_;refine tP 24 (some 163) ?_;refine tP 25 (some 2) ?_;refine jY (jn HT_.out (by kernel_rfl)) ?_;(try go_wp2);go_ret;exact ⟨sqE,sqB⟩));(·obtain rfl:=sqf c148;rw [if_neg sqz] at H;obtain rfl:=Option.some.inj H;(try go_wp2);have q_:=f5 (Kd.qx HO_513003.out) (Kd.qx HO_520003.out) (zL BK512.out) (zL BK519.out) (zE HB.out);clear HO_513003 HO_520003 BK512 BK519 HB;obtain ⟨HO_513003,HO_520003,BK512,BK519,HB⟩:=q_;refine jz (n:=26) (S:=fun w'=>w'.cell? ⟨gb512,0,none⟩=some (.int .i64 t505)∧w'.cell? ⟨gb512,1,none⟩=some (.int .i64 t506)∧w'.cell? ⟨gb512,2,none⟩=some (.int .i64 t507)∧w'.cell? ⟨gb512,3,none⟩=some (.slice Ao16 t508.length co16)∧w'.cell? ⟨gb519,0,none⟩=some (.int .i64 t513)∧w'.cell? ⟨gb519,1,none⟩=some (.int .i64 t514)∧w'.cell? ⟨gb519,2,none⟩=some (.int .i64 t515)∧w'.cell? ⟨gb519,3,none⟩=some (.slice Ao21 t516.length co21)) (ds:=[]) #[false,false,false,false,false,false,false,false,false,false,false,false,false,false,false,false,false,false,false,false,false,false,false,false,false,false] (by kernel_rfl) rfl rfl tH (fun hHeld=> ?_);refine qF zm.Jx zm.ZQ (fun HT_ HW_=> ?_);generalize wc.drew=w158 at HO_513003 HO_520003 BK512 BK519 HB hHeld ⊢;refine tT 0 (some 139) ?_;refine tO 1 (some 140) fun K hK=> ?_;refine sqg Tryz.func20 #[.agg #[.int .i64 t505,.int .i64 t506,.int .i64 t507,.slice Ao16 t508.length co16]] ?_;(with_reducible refine (zw.calls kj103 t505 t506 t507 _ _ t508 true _ ?side1 ?side2 A142.out).mono ?_);(case side1=>exact sqC (Kd.ze HO_513003.out).2.2);(case side2=>exact (Kd.ze HO_513003.out).2.1);rintro e w159 ⟨rfl,hb⟩;refine ⟨_,rfl,?_⟩;have q_:=f5 (sqb HO_513003 hb) (sqb HO_520003 hb) (sqh BK512 hb) (sqh BK519 hb) (za sqB hb);clear HO_513003 HO_520003 BK512 BK519 HB;obtain ⟨HO_513003,HO_520003,BK512,BK519,HB⟩:=q_;refine hK.out _ _ tH (fun hHeld=> ?_);clear hK K;refine tN 140 (h:= ?_);refine tP 2 (some 141) ?_;refine tP 3 (some 142) ?_;refine tT 4 (some 143) ?_;(as_aux_lemma=>refine tT 6 (some 145) ?_;refine tO 5 (some 144) fun K hK=> ?_;refine sqg Tryz.func6 #[.agg #[.int .i64 t513,.int .i64 t514,.int .i64 t515,.slice Ao21 t516.length co21]] ?_;(with_reducible refine (qz.calls kj103 t513 t514 t515 _ _ t516 t585 t586 t587 t588 _ ?side1 ?side2 A144.out).mono ?_);(case side1=>exact sqC (Kd.ze HO_520003.out).2.2);(case side2=>exact (Kd.ze HO_520003.out).2.1);rintro e w160 ⟨v589,rfl,ho0,hb⟩;refine ⟨_,rfl,?_⟩;have q_:=f6 (sqb HO_513003 hb) (sqb HO_520003 hb) (Kd.zX ho0 (zt sqB)) (sqh BK512 hb) (sqh BK519 hb) (za sqB hb);clear HO_513003 HO_520003 BK512 BK519 HB;obtain ⟨HO_513003,HO_520003,HO590,BK512,BK519,HB⟩:=q_;obtain ⟨Ao161,co161,eo161⟩:=Kd.zH HO590.out;(first|subst eo161|(injection eo161 with f1_ f2_ f3_;have f4_:=f1_.symm;have f5_:=f3_.symm;clear f1_ f2_ f3_;subst f4_;subst f5_));refine hK.out _ _ tH (fun hHeld=> ?_);clear hK K;refine tN 144 (h:= ?_);refine tO 7 (some 146) fun K hK=> ?_;refine sqg Tryz.func15 #[.agg #[.int .i64 t585,.int .i64 t586,.int .i64 t587,.slice Ao161 t588.length co161],.agg #[.int .i64 t513,.int .i64 t514,.int .i64 t515,.slice Ao21 t516.length co21]] ?_;(with_reducible refine (zN.calls kj103 t585 t586 t587 _ _ t588 t513 t514 t515 _ _ t516 true _ ?side1 ?side2 ?side3 ?side4 A145.out).mono ?_);(case side1=>exact sqC (Kd.ze HO590.out).2.2);(case side2=>exact (Kd.ze HO590.out).2.1);(case side3=>exact sqC (Kd.ze HO_520003.out).2.2);(case side4=>exact (Kd.ze HO_520003.out).2.1);rintro e w162 ⟨rfl,hb⟩;refine ⟨_,rfl,?_⟩;have q_:=f6 (sqb HO_513003 hb) (sqb HO_520003 hb) (sqb HO590 hb) (sqh BK512 hb) (sqh BK519 hb) (za sqB hb);clear HO_513003 HO_520003 HO590 BK512 BK519 HB;obtain ⟨HO_513003,HO_520003,HO590,BK512,BK519,HB⟩:=q_;refine hK.out _ _ tH (fun hHeld=> ?_);clear hK K;refine tN 146 (h:= ?_);refine tP 8 (some 147) ?_;refine tP 9 (some 148) ?_;refine tP 11 (some 150) ?_;refine tT 10 (some 149) ?_;refine tO 12 (some 151) fun K hK=> ?_;refine sqg Tryz.func23 #[.int .i64 t507,.int .i64 t511] ?_;(with_reducible refine (jD.calls t507 t511 false _ A147.out).mono ?_);rintro e w' ⟨rfl,⟨nd,rfl⟩⟩;refine ⟨_,rfl,?_⟩;refine hK.out _ _ tH (fun hHeld=> ?_);clear hK K;refine tN 151 (h:= ?_);refine tP 13 (some 152) ?_;refine tP 14 (some 153) ?_;refine jj (i:=15) (N:=some 154) (v:=undef) (a':= ?_) #[true,true,true,true,true,true,true,true,true,true,true,true,true,true,true,true,false,false,false,false,false,false,false,false,false,false] rfl rfl (qV HT_.out (by kernel_rfl)) (fun _ _ _ h=>h) (Or.inr ⟨by rfl,rfl⟩) ?_ ?_;rotate_left;(·exact sqX);refine jj (i:=16) (N:=some 155) (v:=undef) (a':= ?_) #[true,true,true,true,true,true,true,true,true,true,true,true,true,true,true,true,true,false,false,false,false,false,false,false,false,false] rfl rfl (qV HT_.out (by kernel_rfl)) (fun _ _ _ h=>h) (Or.inr ⟨by rfl,rfl⟩) ?_ ?_;rotate_left;(·exact sqX);refine jj (i:=17) (N:=some 156) (v:=undef) (a':= ?_) #[true,true,true,true,true,true,true,true,true,true,true,true,true,true,true,true,true,true,false,false,false,false,false,false,false,false] rfl rfl (qV HT_.out (by kernel_rfl)) (fun _ _ _ h=>h) (Or.inr ⟨by rfl,rfl⟩) ?_ ?_;rotate_left;(·exact sqX);refine jj (i:=18) (N:=some 157) (v:=undef) (a':= ?_) #[true,true,true,true,true,true,true,true,true,true,true,true,true,true,true,true,true,true,true,false,false,false,false,false,false,false] rfl rfl (qV HT_.out (by kernel_rfl)) (fun _ _ _ h=>h) (Or.inr ⟨by rfl,rfl⟩) ?_ ?_;rotate_left;(·exact sqX);refine jj (i:=19) (N:=some 158) (v:=undef) (a':= ?_) #[true,true,true,true,true,true,true,true,true,true,true,true,true,true,true,true,true,true,true,true,false,false,false,false,false,false] rfl rfl (qV HT_.out (by kernel_rfl)) (fun _ _ _ h=>h) (Or.inr ⟨by rfl,rfl⟩) ?_ ?_;rotate_left;(·exact sqX);refine jj (i:=20) (N:=some 159) (v:=undef) (a':= ?_) #[true,true,true,true,true,true,true,true,true,true,true,true,true,true,true,true,true,true,true,true,true,false,false,false,false,false] rfl rfl (qV HT_.out (by kernel_rfl)) (fun _ _ _ h=>h) (Or.inr ⟨by rfl,rfl⟩) ?_ ?_;rotate_left;(·exact sqX);(as_aux_lemma=>refine jj (i:=21) (N:=some 160) (v:=undef) (a':= ?_) #[true,true,true,true,true,true,true,true,true,true,true,true,true,true,true,true,true,true,true,true,true,true,false,false,false,false] rfl rfl (qV HT_.out (by kernel_rfl)) (fun _ _ _ h=>h) (Or.inr ⟨by rfl,rfl⟩) ?_ ?_;rotate_left;(·exact sqX);refine tP 22 (some 161) ?_;refine tP 23 (some 162) ?_;refine tP 24 (some 163) ?_;refine tP 25 (some 2) ?_;refine jY (jn HT_.out (by kernel_rfl)) ?_;(try go_wp2);go_ret;exact ⟨sqE,sqB⟩))));(·obtain rfl:=sqf c146;rw [if_neg sqz] at H;exact absurd H (by simp)));(·obtain rfl:=sqf c143;rw [if_neg sqz] at H;obtain rfl:=Option.some.inj H;(try go_wp2);have q_:=f5 (Kd.qx HO_513003.out) (Kd.qx HO_520003.out) (zL BK512.out) (zL BK519.out) (zE HB.out);clear HO_513003 HO_520003 BK512 BK519 HB;obtain ⟨HO_513003,HO_520003,BK512,BK519,HB⟩:=q_;refine jz (n:=26) (S:=fun w'=>w'.cell? ⟨gb512,0,none⟩=some (.int .i64 t505)∧w'.cell? ⟨gb512,1,none⟩=some (.int .i64 t506)∧w'.cell? ⟨gb512,2,none⟩=some (.int .i64 t507)∧w'.cell? ⟨gb512,3,none⟩=some (.slice Ao16 t508.length co16)) (ds:=[]) #[false,false,false,false,false,false,false,false,false,false,false,false,false,false,false,false,false,false,false,false,false,false,false,false,false,false] (by kernel_rfl) rfl rfl tH (fun hHeld=> ?_);refine qF zm.Jx zm.ZQ (fun HT_ HW_=> ?_);generalize wc.drew=w163 at HO_513003 HO_520003 BK512 BK519 HB hHeld ⊢;refine tT 0 (some 139) ?_;refine tO 1 (some 140) fun K hK=> ?_;refine sqg Tryz.func20 #[.agg #[.int .i64 t505,.int .i64 t506,.int .i64 t507,.slice Ao16 t508.length co16]] ?_;(with_reducible refine (zw.calls kj103 t505 t506 t507 _ _ t508 false _ ?side1 ?side2 A142.out).mono ?_);(case side1=>exact sqC (Kd.ze HO_513003.out).2.2);(case side2=>exact (Kd.ze HO_513003.out).2.1);rintro e w164 ⟨rfl,hb⟩;refine ⟨_,rfl,?_⟩;have q_:=f5 (sqb HO_513003 hb) (sqb HO_520003 hb) (sqh BK512 hb) (sqh BK519 hb) (za sqB hb);clear HO_513003 HO_520003 BK512 BK519 HB;obtain ⟨HO_513003,HO_520003,BK512,BK519,HB⟩:=q_;refine hK.out _ _ tH (fun hHeld=> ?_);clear hK K;refine tN 140 (h:= ?_);refine tP 2 (some 141) ?_;refine tP 3 (some 142) ?_;refine jj (i:=4) (N:=some 143) (v:=undef) (a':= ?_) #[true,true,true,true,true,false,false,false,false,false,false,false,false,false,false,false,false,false,false,false,false,false,false,false,false,false] rfl rfl (qV HT_.out (by kernel_rfl)) (fun _ _ _ h=>h) (Or.inr ⟨by rfl,rfl⟩) ?_ ?_;rotate_left;(·exact sqX);refine jj (i:=5) (N:=some 144) (v:=undef) (a':= ?_) #[true,true,true,true,true,true,false,false,false,false,false,false,false,false,false,false,false,false,false,false,false,false,false,false,false,false] rfl rfl (qV HT_.out (by kernel_rfl)) (fun _ _ _ h=>h) (Or.inr ⟨by rfl,rfl⟩) ?_ ?_;rotate_left;(·exact sqX);refine jj (i:=6) (N:=some 145) (v:=undef) (a':= ?_) #[true,true,true,true,true,true,true,false,false,false,false,false,false,false,false,false,false,false,false,false,false,false,false,false,false,false] rfl rfl (qV HT_.out (by kernel_rfl)) (fun _ _ _ h=>h) (Or.inr ⟨by rfl,rfl⟩) ?_ ?_;rotate_left;(·exact sqX);refine jj (i:=7) (N:=some 146) (v:=undef) (a':= ?_) #[true,true,true,true,true,true,true,true,false,false,false,false,false,false,false,false,false,false,false,false,false,false,false,false,false,false] rfl rfl (qV HT_.out (by kernel_rfl)) (fun _ _ _ h=>h) (Or.inr ⟨by rfl,rfl⟩) ?_ ?_;rotate_left;(·exact sqX);refine jj (i:=8) (N:=some 147) (v:=undef) (a':= ?_) #[true,true,true,true,true,true,true,true,true,false,false,false,false,false,false,false,false,false,false,false,false,false,false,false,false,false] rfl rfl (qV HT_.out (by kernel_rfl)) (fun _ _ _ h=>h) (Or.inr ⟨by rfl,rfl⟩) ?_ ?_;rotate_left;(·exact sqX);refine jj (i:=9) (N:=some 148) (v:=undef) (a':= ?_) #[true,true,true,true,true,true,true,true,true,true,false,false,false,false,false,false,false,false,false,false,false,false,false,false,false,false] rfl rfl (qV HT_.out (by kernel_rfl)) (fun _ _ _ h=>h) (Or.inr ⟨by rfl,rfl⟩) ?_ ?_;rotate_left;(·exact sqX);refine jj (i:=10) (N:=some 149) (v:=undef) (a':= ?_) #[true,true,true,true,true,true,true,true,true,true,true,false,false,false,false,false,false,false,false,false,false,false,false,false,false,false] rfl rfl (qV HT_.out (by kernel_rfl)) (fun _ _ _ h=>h) (Or.inr ⟨by rfl,rfl⟩) ?_ ?_;rotate_left;(·exact sqX);(as_aux_lemma=>refine jj (i:=11) (N:=some 150) (v:=undef) (a':= ?_) #[true,true,true,true,true,true,true,true,true,true,true,true,false,false,false,false,false,false,false,false,false,false,false,false,false,false] rfl rfl (qV HT_.out (by kernel_rfl)) (fun _ _ _ h=>h) (Or.inr ⟨by rfl,rfl⟩) ?_ ?_;rotate_left;(·exact sqX);refine jj (i:=12) (N:=some 151) (v:=undef) (a':= ?_) #[true,true,true,true,true,true,true,true,true,true,true,true,true,false,false,false,false,false,false,false,false,false,false,false,false,false] rfl rfl (qV HT_.out (by kernel_rfl)) (fun _ _ _ h=>h) (Or.inr ⟨by rfl,rfl⟩) ?_ ?_;rotate_left;(·exact sqX);refine jj (i:=13) (N:=some 152) (v:=undef) (a':= ?_) #[true,true,true,true,true,true,true,true,true,true,true,true,true,true,false,false,false,false,false,false,false,false,false,false,false,false] rfl rfl (qV HT_.out (by kernel_rfl)) (fun _ _ _ h=>h) (Or.inr ⟨by rfl,rfl⟩) ?_ ?_;rotate_left;(·exact sqX);refine jj (i:=14) (N:=some 153) (v:=undef) (a':= ?_) #[true,true,true,true,true,true,true,true,true,true,true,true,true,true,true,false,false,false,false,false,false,false,false,false,false,false] rfl rfl (qV HT_.out (by kernel_rfl)) (fun _ _ _ h=>h) (Or.inr ⟨by rfl,rfl⟩) ?_ ?_;rotate_left;(·exact sqX);refine jj (i:=15) (N:=some 154) (v:=undef) (a':= ?_) #[true,true,true,true,true,true,true,true,true,true,true,true,true,true,true,true,false,false,false,false,false,false,false,false,false,false] rfl rfl (qV HT_.out (by kernel_rfl)) (fun _ _ _ h=>h) (Or.inr ⟨by rfl,rfl⟩) ?_ ?_;rotate_left;(·exact sqX);refine jj (i:=16) (N:=some 155) (v:=undef) (a':= ?_) #[true,true,true,true,true,true,true,true,true,true,true,true,true,true,true,true,true,false,false,false,false,false,false,false,false,false] rfl rfl (qV HT_.out (by kernel_rfl)) (fun _ _ _ h=>h) (Or.inr ⟨by rfl,rfl⟩) ?_ ?_;rotate_left;(·exact sqX);refine jj (i:=17) (N:=some 156) (v:=undef) (a':= ?_) #[true,true,true,true,true,true,true,true,true,true,true,true,true,true,true,true,true,true,false,false,false,false,false,false,false,false] rfl rfl (qV HT_.out (by kernel_rfl)) (fun _ _ _ h=>h) (Or.inr ⟨by rfl,rfl⟩) ?_ ?_;rotate_left;(·exact sqX);refine jj (i:=18) (N:=some 157) (v:=undef) (a':= ?_) #[true,true,true,true,true,true,true,true,true,true,true,true,true,true,true,true,true,true,true,false,false,false,false,false,false,false] rfl rfl (qV HT_.out (by kernel_rfl)) (fun _ _ _ h=>h) (Or.inr ⟨by rfl,rfl⟩) ?_ ?_;rotate_left;(·exact sqX);refine jj (i:=19) (N:=some 158) (v:=undef) (a':= ?_) #[true,true,true,true,true,true,true,true,true,true,true,true,true,true,true,true,true,true,true,true,false,false,false,false,false,false] rfl rfl (qV HT_.out (by kernel_rfl)) (fun _ _ _ h=>h) (Or.inr ⟨by rfl,rfl⟩) ?_ ?_;rotate_left;(·exact sqX);refine jj (i:=20) (N:=some 159) (v:=undef) (a':= ?_) #[true,true,true,true,true,true,true,true,true,true,true,true,true,true,true,true,true,true,true,true,true,false,false,false,false,false] rfl rfl (qV HT_.out (by kernel_rfl)) (fun _ _ _ h=>h) (Or.inr ⟨by rfl,rfl⟩) ?_ ?_;rotate_left;(·exact sqX);refine jj (i:=21) (N:=some 160) (v:=undef) (a':= ?_) #[true,true,true,true,true,true,true,true,true,true,true,true,true,true,true,true,true,true,true,true,true,true,false,false,false,false] rfl rfl (qV HT_.out (by kernel_rfl)) (fun _ _ _ h=>h) (Or.inr ⟨by rfl,rfl⟩) ?_ ?_;rotate_left;(·exact sqX);refine jj (i:=22) (N:=some 161) (v:=undef) (a':= ?_) #[true,true,true,true,true,true,true,true,true,true,true,true,true,true,true,true,true,true,true,true,true,true,true,false,false,false] rfl rfl (qV HT_.out (by kernel_rfl)) (fun _ _ _ h=>h) (Or.inr ⟨by rfl,rfl⟩) ?_ ?_;rotate_left;(·exact sqX);refine jj (i:=23) (N:=some 162) (v:=undef) (a':= ?_) #[true,true,true,true,true,true,true,true,true,true,true,true,true,true,true,true,true,true,true,true,true,true,true,true,false,false] rfl rfl (qV HT_.out (by kernel_rfl)) (fun _ _ _ h=>h) (Or.inr ⟨by rfl,rfl⟩) ?_ ?_;rotate_left;(·exact sqX);refine tP 24 (some 163) ?_;refine tP 25 (some 2) ?_;refine jY (jn HT_.out (by kernel_rfl)) ?_;(try go_wp2);go_ret;exact ⟨sqE,sqB⟩)))))))))
end F
end
section
namespace Mt
def sdiff (a b:Nat):Nat:=a ^^^(a &&&b)
theorem jv (a b i:Nat):(sdiff a b).testBit i=(a.testBit i&& !b.testBit i):=by
  simp [sdiff,Nat.testBit_xor,Nat.testBit_and];cases a.testBit i<;>cases b.testBit i<;>rfl
def elems (s:Nat):List Nat:=(List.range 8).filter s.testBit
theorem zaQ {s e:Nat}:e∈elems s↔e<8∧s.testBit e=true:=by simp [elems]
end Mt
end
section
namespace Bits
open Mt (sdiff jv)
open Go.RowKit Wa Wb Wc
theorem qh {n:Int}(h0: -9223372036854775808≤n)(h1:n<9223372036854775808):wrap64 n=n:=by unfold wrap64;omega
theorem JG {n:Int}(h0: -9223372036854775808≤n)(h1:n<9223372036854775808):IntKind.i64.wrap n=n:=by rw [IntKind.wrap_i64];omega
theorem Yt {n:Int}(h0:0≤n)(h1:n<18446744073709551616):IntKind.u64.wrap n=n:=by
  simp [IntKind.wrap,IntKind.bits,IntKind.signed];omega
theorem Vd (a:Nat)(ha:a<2 ^63):(BitVec.ofInt 64 (a:Int)).toNat=a:=by
  simp;omega
theorem zbp (a b:Nat)(ha:a<2 ^63)(hb:b<2 ^63):Go.bits .and .i64 (a:Int) (b:Int)=((a &&&b:Nat):Int):=by
  have hab:a &&&b<2 ^63:=Nat.and_lt_two_pow _ hb
  show IntKind.i64.wrap (((BitVec.ofInt 64 (a:Int) &&&BitVec.ofInt 64 (b:Int)).toNat:Nat):Int)=_
  rw [BitVec.toNat_and,Vd a ha,Vd b hb]
  exact JG (by omega) (by omega)
theorem Y6 (e:Nat)(he:e<63):shl .i64 1 (e:Int)=((2 ^e:Nat):Int):=by
  have h:2 ^e<2 ^63:=Nat.pow_lt_pow_right (by decide) he
  unfold shl
  rw [Nat.min_eq_left (by simp [IntKind.bits];omega),Int.one_mul,Int.toNat_natCast]
  rw [show (2:Int) ^e=((2 ^e:Nat):Int) by simp]
  generalize 2 ^e=x at h ⊢
  exact JG (by omega) (by omega)
theorem zcp (a e:Nat)(he:e≤64):shr .i64 (a:Int) (e:Int)=((a >>> e:Nat):Int):=by
  unfold shr
  rw [Nat.min_eq_left (by simp [IntKind.bits];omega),Int.toNat_natCast,Nat.shiftRight_eq_div_pow]
  simp
theorem zad (a e:Nat)(ha:a<2 ^63)(he:e≤64):(Go.bits .and .i64 (shr .i64 (a:Int) (e:Int)) 1==1)=a.testBit e:=by
  have h1:a >>> e<2 ^63:=Nat.lt_of_le_of_lt (by rw [Nat.shiftRight_eq_div_pow];exact Nat.div_le_self _ _) ha
  rw [zcp a e he,show (1:Int)=((1:Nat):Int) from rfl,zbp _ _ h1 (by decide)]
  simp only [Nat.testBit,Nat.and_comm 1]
  rcases Nat.mod_two_eq_zero_or_one (a >>> e) with h|h<;>simp [Nat.and_one_is_mod,h]<;>rfl
end Bits
end
section
namespace L
open Go.RowKit Wa Wb Wc
open Bits
theorem Ev.succ {α:Type}{g:Nat→Option α}{r:α}(h:Ev (fun k=>g (k+1)) r):Ev g r:=Ev.step (fun _=>rfl) h
theorem Ev.some {α:Type}{r s:α}(h:r=s):Ev (fun _=>Option.some r) s:=h ▸Ev.now r
theorem Ev.uniq {α:Type}{g:Nat→Option α}{r s:α}(h:Ev g r)(k:Ev g s):r=s:=by
  obtain ⟨a,h⟩:=h;obtain ⟨b,k⟩:=k
  have h1:=h (max a b) (Nat.le_max_left _ _);have h2:=k (max a b) (Nat.le_max_right _ _)
  exact Option.some.inj (h1.symm.trans h2)
theorem zO {i:Nat}(h:i<9223372036854775807):wrap64 ((i:Int)+1)=((i+1:Nat):Int):=qh (by omega) (by omega)
theorem Yc (L:Nat→Int→Option Bool)(n:Nat)(p:Nat→Bool)(hend: ∀k,L (k+1) (n:Int)=some true)
    (hstep: ∀i,i<n→ ∀k,L (k+1) (i:Int)=if p i=true then L k ((i+1:Nat):Int) else some false):
    ∀d i,i+d=n→Ev (fun k=>L k (i:Int)) ((List.range' i d).all p)
  |0,i,hd=>by
    obtain rfl:i=n:=by omega
    refine Ev.succ ?_
    simp only [hend];exact Ev.now _
  |d+1,i,hd=>by
    refine Ev.succ ?_
    rw [List.range'_succ,List.all_cons]
    simp only [hstep i (by omega)]
    cases hp:p i
    · simp only [Bool.false_eq_true,if_false,Bool.false_and];exact Ev.now _
    · simp only [if_true,Bool.true_and];exact Yc L n p hend hstep d (i+1) (by omega)
theorem Zf (L:Nat→Int→Option Bool)(n:Nat)(p:Nat→Bool)(hend: ∀k,L (k+1) (n:Int)=some true)
    (hstep: ∀i,i<n→ ∀k,L (k+1) (i:Int)=if p i=true then L k ((i+1:Nat):Int) else some false):
    Ev (fun k=>L k 0) ((List.range n).all p):=by
  rw [List.range_eq_range'];exact Yc L n p hend hstep n 0 (by omega)
theorem QF {σ ρ:Type}(L:Nat→σ→Int→Option ρ)(n:Nat)(step:σ→Nat→σ)(inv:Nat→σ→Prop)(fin:σ→ρ)
    (hend: ∀s,inv n s→Ev (fun k=>L (k+1) s (n:Int)) (fin s))
    (hstep: ∀i s,i<n→inv i s→inv (i+1) (step s i)∧ ∀r,Ev (fun k=>L k (step s i) ((i+1:Nat):Int)) r→Ev (fun k=>L (k+1) s (i:Int)) r):
    ∀d i s,i+d=n→inv i s→Ev (fun k=>L k s (i:Int)) (fin ((List.range' i d).foldl step s))
  |0,i,s,hd,hi=>by
    obtain rfl:i=n:=by omega
    exact Ev.succ (hend s hi)
  |d+1,i,s,hd,hi=>by
    refine Ev.succ ?_
    obtain ⟨h1,h2⟩:=hstep i s (by omega) hi
    exact h2 _ (QF L n step inv fin hend hstep d (i+1) (step s i) (by omega) h1)
theorem ZJ {σ ρ:Type}(L:Nat→σ→Int→Option ρ)(n:Nat)(step:σ→Nat→σ)(inv:Nat→σ→Prop)(fin:σ→ρ)
    (hend: ∀s,inv n s→Ev (fun k=>L (k+1) s (n:Int)) (fin s))
    (hstep: ∀i s,i<n→inv i s→inv (i+1) (step s i)∧ ∀r,Ev (fun k=>L k (step s i) ((i+1:Nat):Int)) r→Ev (fun k=>L (k+1) s (i:Int)) r) (s:σ) (h:inv 0 s):
    Ev (fun k=>L k s 0) (fin ((List.range n).foldl step s)):=by
  rw [List.range_eq_range'];exact QF L n step inv fin hend hstep n 0 s (by omega) h
theorem qB {σ ρ:Type}(L:Nat→σ→Int→Option ρ)(n:Nat)(step:σ→Nat→σ)(inv:Nat→σ→Prop)
    (hstep: ∀i s,i<n→inv i s→inv (i+1) (step s i)∧ ∀r,Ev (fun k=>L k (step s i) ((i+1:Nat):Int)) r→Ev (fun k=>L (k+1) s (i:Int)) r) (s:σ) (h:inv 0 s):
    inv n ((List.range n).foldl step s)∧ ∀r,Ev (fun k=>L k ((List.range n).foldl step s) (n:Int)) r→Ev (fun k=>L k s 0) r:=by
  have key: ∀d i s,i+d=n→inv i s→inv n ((List.range' i d).foldl step s)∧ ∀r,Ev (fun k=>L k ((List.range' i d).foldl step s) (n:Int)) r→Ev (fun k=>L k s (i:Int)) r:=by
    intro d
    induction d with
    | zero => intro i s hd hi; obtain rfl : i = n := by omega
              exact ⟨hi,fun r h=>h⟩
    |succ d ih=>
      intro i s hd hi
      obtain ⟨h1,h2⟩:=hstep i s (by omega) hi
      obtain ⟨h3,h4⟩:=ih (i+1) (step s i) (by omega) h1
      rw [List.range'_succ,List.foldl_cons]
      exact ⟨h3,fun r h=>Ev.succ (h2 r (h4 r h))⟩
  rw [List.range_eq_range']
  exact key n 0 s (by omega) h
theorem ji (l:List Int)(j:Nat):rd l (j:Int)=l.getD j 0:=by simp [rd]
theorem ZE {α:Type}(l:List α)(d:α)(p:α→Bool):(List.range l.length).all (fun i=>p (l.getD i d))=l.all p:=by
  rw [Bool.eq_iff_iff,List.all_eq_true,List.all_eq_true]
  constructor
  · intro h x hx
    obtain ⟨i,hi,rfl⟩:=List.getElem_of_mem hx
    have:=h i (by simpa using hi)
    simpa [List.getElem?_eq_getElem hi] using this
  · intro h i hi
    have hi:i<l.length:=by simpa using hi
    have:=h l[i] (List.getElem_mem hi)
    simpa [List.getElem?_eq_getElem hi] using this
end L
end
section
namespace L
open Go.RowKit F Wa Wb Wc
open Bits
theorem ZT (l l':List Int)(h:l.length=l'.length):(List.range l.length).all (fun i=>decide (l.getD i 0=l'.getD i 0))=decide (l=l'):=by
  rw [Bool.eq_iff_iff,List.all_eq_true,decide_eq_true_iff]
  constructor
  · intro hh
    apply List.ext_getElem h
    intro i h1 h2
    have:=hh i (by simpa using h1)
    simpa [List.getElem?_eq_getElem h1,List.getElem?_eq_getElem h2] using this
  · rintro rfl i _
    simp
end L
end
section
namespace L
open Go.RowKit Wa Wb Wc
open Bits
abbrev Tab:=Nat→Nat→Int
def zR (M:Tab)(R C:Nat):List Int:=(List.range (R*C)).map fun k=>M (k / C) (k%C)
def jf (M:Tab)(C i:Nat):List Int:=(List.range C).map (M i)
def qm (M:Tab)(R C:Nat):List (List Int):=(List.range R).map (jf M C)
def qC (l:List Int)(C:Nat):Tab:=fun i j=>l.getD (i*C+j) 0
def upd (M:Tab)(i j:Nat)(v:Int):Tab:=fun a b=>if a=i∧b=j then v else M a b
theorem Z5 {i j C:Nat}(hj:j<C):(i*C+j) / C=i:=by
  rw [Nat.mul_comm,Nat.mul_add_div (by omega),Nat.div_eq_of_lt hj,Nat.add_zero]
theorem Qv {i j C:Nat}(hj:j<C):(i*C+j)%C=j:=by
  rw [Nat.mul_comm,Nat.mul_add_mod,Nat.mod_eq_of_lt hj]
theorem jJ {R C i j:Nat}(hi:i<R)(hj:j<C):i*C+j<R*C:=by
  have:=Nat.mul_le_mul_right C (show i+1≤R by omega)
  rw [Nat.succ_mul] at this;omega
theorem qj (M:Tab)(R C:Nat):(zR M R C).length=R*C:=by simp [zR]
theorem jy (M:Tab)(C i:Nat):(jf M C i).length=C:=by simp [jf]
theorem qy (M:Tab)(R C:Nat):(qm M R C).length=R:=by simp [qm]
theorem qJ (M:Tab){R C i j:Nat}(hi:i<R)(hj:j<C):(zR M R C).getD (i*C+j) 0=M i j:=by
  have h:=jJ hi hj
  simp [zR,List.getD_eq_getElem?_getD,h,Z5 hj,Qv hj]
theorem yw (M:Tab){C i j:Nat}(hj:j<C):(jf M C i).getD j 0=M i j:=by
  simp [jf,List.getD_eq_getElem?_getD,hj]
theorem y9 (M:Tab){R C i:Nat}(hi:i<R):(qm M R C).getD i []=jf M C i:=by
  simp [qm,List.getD_eq_getElem?_getD,hi]
theorem QG {R C k:Nat}(h:k<R*C):0<C:=by
  rcases Nat.eq_zero_or_pos C with rfl|h'
  · simp at h
  · exact h'
theorem J8 {R C k:Nat}(h:k<R*C):k / C<R:=(Nat.div_lt_iff_lt_mul (QG h)).2 h
theorem Qr {M N:Tab}{R C:Nat}(h: ∀i j,i<R→j<C→M i j=N i j):zR M R C=zR N R C:=by
  refine List.map_congr_left fun k hk=>h _ _ (J8 (List.mem_range.1 hk)) (Nat.mod_lt _ (QG (List.mem_range.1 hk)))
theorem QU {M N:Tab}{C i:Nat}(h: ∀j,j<C→M i j=N i j):jf M C i=jf N C i:=List.map_congr_left fun j hj=>h j (List.mem_range.1 hj)
theorem VR {M N:Tab}{R C:Nat}(h: ∀i j,i<R→j<C→M i j=N i j):qm M R C=qm N R C:=List.map_congr_left fun i hi=>QU fun j hj=>h i j (List.mem_range.1 hi) hj
theorem Zr {l:List Int}{R C:Nat}(hl:l.length=R*C):zR (qC l C) R C=l:=by
  refine List.ext_getElem (by rw [qj,hl]) fun k h1 h2=> ?_
  simp only [zR,qC,List.getElem_map,List.getElem_range]
  rw [Nat.mul_comm,Nat.div_add_mod]
  simp [List.getD_eq_getElem?_getD,h2]
theorem vx (M:Tab){R C i j:Nat}(hi:i<R)(hj:j<C)(v:Int):(zR M R C).set (i*C+j) v=zR (upd M i j v) R C:=by
  refine List.ext_getElem (by simp [zR]) fun k h1 h2=> ?_
  rw [List.getElem_set]
  simp only [zR,upd,List.getElem_map,List.getElem_range]
  by_cases c:i*C+j=k
  · subst c
    rw [if_pos rfl,if_pos ⟨Z5 hj,Qv hj⟩]
  · rw [if_neg c,if_neg]
    rintro ⟨rfl,rfl⟩
    exact c (by rw [Nat.mul_comm];exact Nat.div_add_mod k C)
theorem zaI (M:Tab){C i j:Nat}(hj:j<C)(v:Int):(jf M C i).set j v=jf (upd M i j v) C i:=by
  refine List.ext_getElem (by simp [jf]) fun k h1 h2=> ?_
  rw [List.getElem_set]
  simp only [jf,upd,List.getElem_map,List.getElem_range]
  by_cases c:j=k
  · subst c;simp
  · simp [c,show ¬k=j from fun h=>c h.symm]
theorem Yy (M N:Tab){R C i:Nat}(hi:i<R)(h: ∀a b,a≠i→N a b=M a b):(qm M R C).set i (jf N C i)=qm N R C:=by
  refine List.ext_getElem (by simp [qm]) fun k h1 h2=> ?_
  rw [List.getElem_set]
  simp only [qm,List.getElem_map,List.getElem_range]
  by_cases c:i=k
  · subst c;rw [if_pos rfl]
  · rw [if_neg c];exact QU fun j _=>(h k j (Ne.symm c)).symm
theorem JB (M:Tab){R C i j:Nat}(hi:i<R)(hj:j<C)(v:Int):(qm M R C).set i ((jf M C i).set j v)=qm (upd M i j v) R C:=by
  rw [zaI M hj]
  exact Yy _ _ hi fun a b h=>by unfold upd;rw [if_neg (fun c=>h c.1)]
theorem QC (M:Tab)(R C:Nat):(qm M R C).flatten=zR M R C:=by
  induction R with
  |zero=>simp [qm,zR]
  |succ R ih=>
    have h1:qm M (R+1) C=qm M R C++[jf M C R]:=by simp [qm,List.range_succ]
    rw [h1,List.flatten_append,ih,List.flatten_singleton]
    refine List.ext_getElem (by simp [zR,jf,Nat.succ_mul]) fun k h2 h3=> ?_
    rw [List.getElem_append]
    simp only [qj]
    split
    · simp [zR]
    · rename_i hk
      simp only [qj,Nat.succ_mul] at h3
      have hm:k - R*C<C:=by omega
      obtain ⟨m,rfl⟩: ∃m,k=R*C+m:=⟨k - R*C,by omega⟩
      simp only [jf,zR,List.getElem_map,List.getElem_range,Nat.add_sub_cancel_left]
      rw [Nat.add_sub_cancel_left] at hm
      rw [Z5 hm,Qv hm]
theorem zay (M:Tab){R C t:Nat}(h:t≤R):(qm M R C).take t=qm M t C:=by
  rw [qm,←List.map_take,List.take_range,Nat.min_eq_left h];rfl
theorem Vb (M:Tab){R C t:Nat}(h:t≤R):(zR M R C).take (t*C)=zR M t C:=by
  rw [zR,←List.map_take,List.take_range,Nat.min_eq_left (Nat.mul_le_mul_right _ h)];rfl
def jo (F:(Nat→Int)→Nat→Int)(M:Tab)(j:Nat):Tab:=fun i c=>if c=j then F (fun i=>M i j) i else M i c
def z1 (F:(Nat→Int)→Nat→Int)(M:Tab):Tab:=fun i c=>F (fun i=>M i c) i
theorem zas (F:(Nat→Int)→Nat→Int)(M:Tab)(n:Nat):(List.range n).foldl (jo F) M=fun i c=>if c<n then F (fun i=>M i c) i else M i c:=by
  induction n with
  |zero=>funext i c;simp
  |succ n ih=>
    rw [List.range_succ,List.foldl_append,List.foldl_cons,List.foldl_nil,ih]
    funext i c
    unfold jo
    by_cases h1:c=n
    · subst h1
      simp
    · by_cases h2:c<n
      · simp [h1,h2,Nat.lt_succ_of_lt h2]
      · simp [h1,h2,show ¬c<n+1 by omega]
theorem vL (F:(Nat→Int)→Nat→Int)(M:Tab)(R C:Nat):zR ((List.range C).foldl (jo F) M) R C=zR (z1 F M) R C:=by
  rw [zas];exact Qr fun i j _ hj=>by simp [hj,z1]
theorem Qm (F:(Nat→Int)→Nat→Int)(M:Tab)(R C:Nat):qm ((List.range C).foldl (jo F) M) R C=qm (z1 F M) R C:=by
  rw [zas];exact VR fun i j _ hj=>by simp [hj,z1]
def qH (a b:Nat)(f:Nat→Int)(i:Nat):Int:=if i=b then f a else if i=a then f b else f i
def vn (p:Int)(r:Nat)(x:Int)(f:Nat→Int)(i:Nat):Int:=if i=r then Int.tmod (f r*x) p else f i
def Qq (p:Int)(r i0:Nat)(g:Int)(f:Nat→Int)(i:Nat):Int:=if i=i0 then Int.tmod (f i0+(p - g)*f r) p else f i
def ja (p:Int)(r col:Nat)(M:Tab)(i:Nat):Tab:=if i=r then M else z1 (Qq p r i (M i col)) M
def yA (p:Int)(r col R:Nat)(M:Tab):Tab:=(List.range R).foldl (ja p r col) M
def jO (p a:Int):Int:=((a.toNat ^(p.toNat - 2)%p.toNat:Nat):Int)
def ju (p:Int)(R t col:Nat)(M:Tab):Tab:=yA p t col R (z1 (vn p t (jO p (M t col))) M)
def zP (M:Tab)(R t col:Nat):Nat:=((List.range' t (R - t)).find? fun i=>decide (M i col≠0)).getD R
structure Red where
  t:Nat
  M:Tab
  ps:List Int
def zK (p:Int)(R:Nat)(s:Red)(j:Nat):Red:=
  if zP s.M R s.t j<R then ⟨s.t+1,ju p R s.t j (z1 (qH s.t (zP s.M R s.t j)) s.M),s.ps++[(j:Int)]⟩ else s
def vt (p:Int)(R C:Nat)(M:Tab):Red:=(List.range C).foldl (zK p R) ⟨0,M,[]⟩
def InF (p:Int)(R C:Nat)(M:Tab):Prop:= ∀i j,i<R→j<C→0≤M i j∧M i j<p
theorem VQ {x p:Int}(h:0≤x)(hp:2≤p):0≤Int.tmod x p∧Int.tmod x p<p:=by
  rw [Int.tmod_eq_emod_of_nonneg h];exact ⟨Int.emod_nonneg _ (by omega),Int.emod_lt_of_pos _ (by omega)⟩
section
variable {p:Int} {R C:Nat} {M:Tab}
theorem InF.swap (h:InF p R C M){a b:Nat}(ha:a<R)(hb:b<R):InF p R C (z1 (qH a b) M):=fun i j hi hj=>by
  unfold z1 qH
  split
  · exact h a j ha hj
  · split
    · exact h b j hb hj
    · exact h i j hi hj
theorem InF.scale (h:InF p R C M)(hp:2≤p){r:Nat}(hr:r<R){x:Int}(hx:0≤x):InF p R C (z1 (vn p r x) M):=fun i j hi hj=>by
  unfold z1 vn
  split
  · exact VQ (Int.mul_nonneg (h r j hr hj).1 hx) hp
  · exact h i j hi hj
theorem InF.elim (h:InF p R C M)(hp:2≤p){r i0:Nat}(hr:r<R)(hi0:i0<R){g:Int}(hg:0≤g∧g<p):InF p R C (z1 (Qq p r i0 g) M):=fun i j hi hj=>by
  unfold z1 Qq
  split
  · refine VQ ?_ hp
    have h1:=(h i0 j hi0 hj).1
    have h2:=Int.mul_nonneg (show 0≤p - g by omega) (h r j hr hj).1
    show 0≤M i0 j+(p - g)*M r j
    exact Int.add_nonneg h1 h2
  · exact h i j hi hj
theorem InF.ja (h:InF p R C M)(hp:2≤p){r col i:Nat}(hr:r<R)(hc:col<C)(hi:i<R):InF p R C (ja p r col M i):=by
  unfold L.ja
  split
  · exact h
  · exact h.elim hp hr hi (h i col hi hc)
theorem InF.yA (hp:2≤p){r col:Nat}(hr:r<R)(hc:col<C): ∀n,n≤R→ ∀ {M:Tab},InF p R C M→InF p R C ((List.range n).foldl (L.ja p r col) M)
  |0,_,_,h=>h
  |n+1,hn,M,h=>by
    rw [List.range_succ,List.foldl_append]
    exact (InF.yA hp hr hc n (by omega) h).ja hp hr hc (by omega)
theorem ya (p a:Int):0≤jO p a:=Int.natCast_nonneg _
theorem zae {p:Int}(hp:2≤p)(a:Int):jO p a<p:=by
  have h:a.toNat ^(p.toNat - 2)%p.toNat<p.toNat:=Nat.mod_lt _ (by omega)
  unfold jO
  omega
theorem InF.pivot (h:InF p R C M)(hp:2≤p){r col:Nat}(hr:r<R)(hc:col<C):InF p R C (ju p R r col M):=by
  unfold ju L.yA
  exact InF.yA hp hr hc R (Nat.le_refl _) (h.scale hp hr (ya _ _))
end
theorem yr {M:Tab}{R a col:Nat}(h:a<R):zP M R a col=if M a col=0 then zP M R (a+1) col else a:=by
  unfold zP
  obtain ⟨m,hm⟩: ∃m,R - a=m+1:=⟨R - a - 1,by omega⟩
  rw [hm,List.range'_succ,List.find?_cons,show R - (a+1)=m by omega]
  by_cases c:M a col=0
  · simp [c]
  · simp [c]
theorem vY (M:Tab)(R col:Nat):zP M R R col=R:=by simp [zP]
theorem jb (M:Tab)(R col:Nat): ∀d a,a+d=R→a≤zP M R a col∧zP M R a col≤R∧(zP M R a col<R→M (zP M R a col) col≠0)∧ ∀i,a≤i→i<zP M R a col→M i col=0
  |0,a,h=>by
    obtain rfl:a=R:=by omega
    rw [vY];exact ⟨Nat.le_refl _,Nat.le_refl _,fun h=>absurd h (by omega),fun i h1 h2=>absurd h1 (by omega)⟩
  |d+1,a,h=>by
    rw [yr (show a<R by omega)]
    by_cases c:M a col=0
    · rw [if_pos c]
      obtain ⟨h1,h2,h3,h4⟩:=jb M R col d (a+1) (by omega)
      exact ⟨by omega,h2,h3,fun i h5 h6=>by
        rcases Nat.eq_or_lt_of_le h5 with rfl|h7
        · exact c
        · exact h4 i h7 h6⟩
    · rw [if_neg c]
      exact ⟨Nat.le_refl _,by omega,fun _=>c,fun i h5 h6=>absurd h5 (by omega)⟩
theorem QN (M:Tab){R C i:Nat}(hi:i<R):((zR M R C).take ((i+1)*C)).drop (i*C)=jf M C i:=by
  rw [Vb M (show i+1≤R by omega)]
  refine List.ext_getElem (by simp [zR,jf,Nat.succ_mul]) fun k h1 h2=> ?_
  rw [jy] at h2
  simp only [List.getElem_drop,zR,jf,List.getElem_map,List.getElem_range,Z5 h2,Qv h2]
theorem QA (M:Tab)(C i:Nat):zR M i C++jf M C i=zR M (i+1) C:=by
  rw [←QC,←QC,show qm M (i+1) C=qm M i C++[jf M C i] by simp [qm,List.range_succ],List.flatten_append,List.flatten_singleton]
theorem JQ (M:Tab)(C i:Nat):qm M i C++[jf M C i]=qm M (i+1) C:=by simp [qm,List.range_succ]
theorem zaB (M:Tab){R C a b:Nat}(ha:a<R)(hb:b<R):((qm M R C).set a (jf M C b)).set b (jf M C a)=qm (z1 (qH a b) M) R C:=by
  refine List.ext_getElem (by simp [qm]) fun k h1 h2=> ?_
  rw [List.getElem_set,List.getElem_set]
  simp only [qm,List.getElem_map,List.getElem_range]
  by_cases c1:b=k
  · subst c1;rw [if_pos rfl];unfold jf z1 qH;simp
  · rw [if_neg c1]
    by_cases c2:a=k
    · subst c2;rw [if_pos rfl];unfold jf z1 qH;simp [Ne.symm c1]
    · rw [if_neg c2];unfold jf z1 qH;simp [Ne.symm c1,Ne.symm c2]
structure Qs (p:Int)(R C:Nat)(s:Red):Prop where
  t_le:s.t≤R
  inF:InF p R C s.M
  len:s.ps.length=s.t
theorem Qs.step {p:Int}{R C:Nat}{s:Red}(h:Qs p R C s)(hp:2≤p){j:Nat}(hj:j<C):Qs p R C (zK p R s j):=by
  unfold zK
  split
  · rename_i hlt
    obtain ⟨h1,h2,h3,h4⟩:=jb s.M R j (R - s.t) s.t (by have:=h.t_le;omega)
    exact ⟨by show s.t+1≤R;omega,(h.inF.swap (by omega) hlt).pivot hp (by omega) hj,by show (s.ps++[(j:Int)]).length=s.t+1;rw [List.length_append,h.len];rfl⟩
  · exact h
theorem Vo {p:Int}{R:Nat}{s:Red}(h:s.t=R)(j:Nat):zK p R s j=s:=by
  unfold zK
  rw [h,vY,if_neg (Nat.lt_irrefl _)]
theorem Qk {p:Int}{R:Nat}: ∀(l:List Nat) {s:Red},s.t=R→l.foldl (zK p R) s=s
  | [],_,_=>rfl
  |j::l,s,h=>by rw [List.foldl_cons,Vo h,Qk l h]
end L
end
section
namespace Mt
theorem vJ (a b i:Nat):(a |||b).testBit i=(a.testBit i||b.testBit i):=Nat.testBit_or a b i
theorem jW (a b i:Nat):(a &&&b).testBit i=(a.testBit i&&b.testBit i):=Nat.testBit_and a b i
theorem VD (e i:Nat):(2 ^e).testBit i=decide (e=i):=by
  rw [Nat.testBit_two_pow]
theorem j7 (i:Nat):(0:Nat).testBit i=false:=Nat.zero_testBit i
theorem ext {a b:Nat}(h: ∀i,a.testBit i=b.testBit i):a=b:=Nat.eq_of_testBit_eq h
def ins (s e:Nat):Nat:=s |||2 ^e
def del (s e:Nat):Nat:=sdiff s (2 ^e)
theorem qu (s e i:Nat):(ins s e).testBit i=(s.testBit i||decide (e=i)):=by rw [ins,vJ,VD]
theorem jq (s e i:Nat):(del s e).testBit i=(s.testBit i&& !decide (e=i)):=by rw [del,jv,VD]
def sub (a b:Nat):Prop:= ∀i,a.testBit i=true→b.testBit i=true
theorem Qg (a:Nat):sub a a:=fun _ h=>h
theorem jP {a b c:Nat}(h:sub a b)(k:sub b c):sub a c:=fun i hi=>k i (h i hi)
theorem ZX {a b:Nat}(h:sub a b)(k:sub b a):a=b:=ext fun i=>by
  have h1:=h i;have h2:=k i
  cases ha:a.testBit i<;>cases hb:b.testBit i<;>simp_all
theorem QQ {a b:Nat}:sub a b↔a &&&b=a:=by
  constructor
  · intro h;apply ext;intro i;rw [jW];have:=h i;cases ha:a.testBit i<;>simp_all
  · intro h i hi;have:=congrArg (fun x=>Nat.testBit x i) h;simp only [jW,hi,Bool.true_and] at this;exact this
theorem JK {a b:Nat}:sub a b↔sdiff a b=0:=by
  constructor
  · intro h;apply ext;intro i;rw [jv,j7];have:=h i;cases ha:a.testBit i<;>simp_all
  · intro h i hi
    have:=congrArg (fun x=>Nat.testBit x i) h
    simp only [jv,hi,j7,Bool.true_and,Bool.not_eq_false'] at this;exact this
theorem Zi (s e:Nat):sub s (ins s e):=fun i hi=>by rw [qu,hi,Bool.true_or]
theorem Y7 (s e:Nat):(ins s e).testBit e=true:=by simp [qu]
theorem yP (s e:Nat):sub (del s e) s:=fun i hi=>by rw [jq] at hi;simp at hi;exact hi.1
theorem jU (a b:Nat):sub (a &&&b) a:=fun i hi=>by rw [jW] at hi;simp at hi;exact hi.1
theorem yG (a b:Nat):sub (a &&&b) b:=fun i hi=>by rw [jW] at hi;simp at hi;exact hi.2
theorem Yh (a b:Nat):sub a (a |||b):=fun i hi=>by rw [vJ,hi,Bool.true_or]
theorem zb5 {a b c:Nat}(h:sub c a)(k:sub c b):sub c (a &&&b):=fun i hi=>by rw [jW,h i hi,k i hi];rfl
theorem zcV {s e:Nat}(h:s.testBit e=true):ins s e=s:=ext fun i=>by
  rw [qu];by_cases he:e=i
  · subst he;simp [h]
  · simp [he]
theorem Vr {a b:Nat}(h: ¬sub a b): ∃i,a.testBit i=true∧b.testBit i=false:=by
  apply Classical.byContradiction
  intro hn;apply h;intro i hi
  cases hb:b.testBit i
  · exact absurd ⟨i,hi,hb⟩ hn
  · rfl
theorem vz {s n i:Nat}(h:s<2 ^n)(hi:s.testBit i=true):i<n:=by
  rcases Nat.lt_or_ge i n with h'|h'
  · exact h'
  · rw [Nat.testBit_lt_two_pow (Nat.lt_of_lt_of_le h (Nat.pow_le_pow_right (by decide) h'))] at hi;cases hi
theorem yU {s n:Nat}(h: ∀i,s.testBit i=true→i<n):s<2 ^n:=Nat.lt_pow_two_of_testBit s fun i hi=>by
  cases hb:s.testBit i
  · rfl
  · have:=h i hb;omega
theorem je {a b n:Nat}(h:sub a b)(hb:b<2 ^n):a<2 ^n:=yU fun i hi=>vz hb (h i hi)
def full (n:Nat):Nat:=2 ^n - 1
theorem Z0 (n i:Nat):(full n).testBit i=decide (i<n):=Nat.testBit_two_pow_sub_one n i
theorem za2 {s n:Nat}(h:s<2 ^n):sub s (full n):=fun i hi=>by rw [Z0];exact decide_eq_true (vz h hi)
def cnt (s:Nat):Nat:=(List.range 8).countP s.testBit
theorem ZC (p q:Nat→Bool): ∀l:List Nat,l.countP (fun i=>p i||q i)+l.countP (fun i=>p i&&q i)=l.countP p+l.countP q
  | []=>rfl
  |a::l=>by
    have:=ZC p q l
    simp only [List.countP_cons]
    cases p a<;>cases q a<;>simp<;>omega
theorem Q8 (a b:Nat):cnt (a |||b)+cnt (a &&&b)=cnt a+cnt b:=by
  have:=ZC a.testBit b.testBit (List.range 8)
  simp only [cnt]
  rw [show Nat.testBit (a |||b)=fun i=>a.testBit i||b.testBit i from funext (vJ a b),show Nat.testBit (a &&&b)=fun i=>a.testBit i&&b.testBit i from funext (jW a b)]
  exact this
theorem yl {a b:Nat}(h:sub a b):cnt a≤cnt b:=List.countP_mono_left fun i _ hi=>h i hi
theorem za7:cnt 0=0:=by decide
theorem Qn {a b:Nat}(h:a &&&b=0):cnt (a |||b)=cnt a+cnt b:=by have:=Q8 a b;rw [h,za7] at this;omega
theorem zca {e:Nat}(h:e<8):cnt (2 ^e)=1:=by
  have: ∀e,e<8→cnt (2 ^e)=1:=by decide
  exact this e h
theorem JW (a b:Nat):cnt (sdiff a b)+cnt (a &&&b)=cnt a:=by
  have h:sdiff a b &&&(a &&&b)=0:=ext fun i=>by simp only [jW,jv,j7];cases a.testBit i<;>cases b.testBit i<;>rfl
  have k:sdiff a b |||(a &&&b)=a:=ext fun i=>by simp only [vJ,jW,jv];cases a.testBit i<;>cases b.testBit i<;>rfl
  rw [←Qn h,k]
theorem yI {a b:Nat}(h:sub b a):cnt (sdiff a b)+cnt b=cnt a:=by
  have:=JW a b
  rwa [show a &&&b=b from by rw [Nat.and_comm];exact QQ.1 h] at this
theorem Zl {s e:Nat}(he:e<8)(h:s.testBit e=false):cnt (ins s e)=cnt s+1:=by
  have:s &&&2 ^e=0:=ext fun i=>by
    rw [jW,VD,j7];by_cases hi:e=i
    · subst hi;simp [h]
    · simp [hi]
  rw [ins,Qn this,zca he]
theorem Zm {s e:Nat}(he:e<8)(h:s.testBit e=true):cnt (del s e)+1=cnt s:=by
  have k:ins (del s e) e=s:=ext fun i=>by
    rw [qu,jq];by_cases hi:e=i
    · subst hi;simp [h]
    · simp [hi]
  have:=Zl (s:=del s e) he (by simp [jq])
  rw [k] at this;omega
theorem zcd {s e:Nat}(he:e<8)(h:s.testBit e=true):0<cnt s:=by have:=Zm he h;omega
theorem Jq {s:Nat}(hs:s<256)(h:cnt s=0):s=0:=by
  apply ext;intro i;rw [j7]
  cases hb:s.testBit i
  · rfl
  · have:=zcd (vz (n:=8) hs hb) hb;omega
theorem JD {a b:Nat}(ha:a<256)(h:cnt (a &&&b)=cnt a):sub a b:=by
  have:=JW a b
  have hz:cnt (sdiff a b)=0:=by omega
  exact JK.2 (Jq (je (n:=8) (fun i hi=>by rw [jv] at hi;simp at hi;exact hi.1) ha) hz)
theorem zbg {n:Nat}(h:n≤8):cnt (full n)=n:=by
  have: ∀n,n≤8→cnt (full n)=n:=by decide
  exact this n h
theorem ZV {a b:Nat}(h:cnt b<cnt a): ∃i,a.testBit i=true∧b.testBit i=false:=
  Vr fun k=>by have:=yl k;omega
structure Mat (n:Nat)(B:List Nat):Prop where
  size:n≤8
  lt: ∀b∈B,b<2 ^n
  ne:B≠[]
  ex: ∀a∈B,∀b∈B,∀e,a.testBit e=true→b.testBit e=false→ ∃f,b.testBit f=true∧a.testBit f=false∧ins (del a e) f∈B
section
variable {n:Nat} {B:List Nat}
theorem ZU {s n:Nat}(hn:n≤8)(h:s<2 ^n):s<256:=Nat.lt_of_lt_of_le h (Nat.pow_le_pow_right (n:=2) (by decide) hn)
theorem Mat.lt8 (M:Mat n B){b:Nat}(h:b∈B):b<256:=ZU M.size (M.lt b h)
theorem Mat.zdc (M:Mat n B){b e:Nat}(h:b∈B)(he:b.testBit e=true):e<8:=vz (n:=8) (M.lt8 h) he
theorem zbd {a e f:Nat}(ha:a<256)(hf8:f<8)(he:a.testBit e=true)(hf:a.testBit f=false):cnt (ins (del a e) f)=cnt a:=by
  have h8:e<8:=vz (n:=8) ha he
  have h1:=Zm h8 he
  have h2:=Zl (s:=del a e) hf8 (by rw [jq,hf];rfl)
  omega
theorem Mat.le (M:Mat n B): ∀k a b,a∈B→b∈B→cnt (sdiff a b)=k→cnt a≤cnt b:=by
  intro k
  induction k using Nat.strongRecOn with
  |_ k ih=>
    intro a b ha hb hk
    by_cases hs:sub a b
    · exact yl hs
    · obtain ⟨e,he,heb⟩:=Vr hs
      obtain ⟨f,hfb,hfa,hin⟩:=M.ex a ha b hb e he heb
      have e8:=M.zdc ha he
      have f8:=M.zdc hb hfb
      have hsw:=zbd (M.lt8 ha) f8 he hfa
      have hd:sdiff (ins (del a e) f) b=del (sdiff a b) e:=ext fun i=>by
        simp only [jv,qu,jq]
        by_cases hi:f=i
        · subst hi;simp [hfb]
        · simp only [hi,decide_false,Bool.or_false];cases a.testBit i<;>cases b.testBit i<;>simp
      have hc:=Zm (s:=sdiff a b) e8 (by rw [jv,he,heb];rfl)
      have:=ih (cnt (del (sdiff a b) e)) (by omega) (ins (del a e) f) b hin hb (by rw [hd])
      omega
theorem Mat.zc5 (M:Mat n B){a b:Nat}(ha:a∈B)(hb:b∈B):cnt a=cnt b:=Nat.le_antisymm (M.le _ a b ha hb rfl) (M.le _ b a hb ha rfl)
def rk (B:List Nat)(s:Nat):Nat:=B.foldl (fun m b=>max m (cnt (s &&&b))) 0
theorem Z8 {α:Type}(f:α→Nat): ∀(l:List α) (m k:Nat),l.foldl (fun m b=>max m (f b)) m≤k↔m≤k∧ ∀b∈l,f b≤k
  | [],m,k=>by simp
  |a::l,m,k=>by
    rw [List.foldl_cons,Z8 f l]
    simp only [List.mem_cons,forall_eq_or_imp,Nat.max_le,and_assoc]
theorem zaf {s k:Nat}:rk B s≤k↔ ∀b∈B,cnt (s &&&b)≤k:=by
  unfold rk;rw [Z8 (fun b=>cnt (s &&&b))];simp
theorem zbI {b:Nat}(hb:b∈B)(s:Nat):cnt (s &&&b)≤rk B s:=zaf.1 (Nat.le_refl _) b hb
theorem zcx (hB:B≠[])(s:Nat): ∃b∈B,cnt (s &&&b)=rk B s:=by
  apply Classical.byContradiction
  intro h
  have h1: ∀b∈B,cnt (s &&&b)<rk B s:=fun b hb=>Nat.lt_of_le_of_ne (zbI hb s) fun e=>h ⟨b,hb,e⟩
  obtain ⟨c,hc⟩:=List.exists_mem_of_ne_nil B hB
  have h2:rk B s≤rk B s - 1:=zaf.2 fun b hb=>by have:=h1 b hb;omega
  have:=h1 c hc
  omega
theorem Va (s:Nat):rk B s≤cnt s:=zaf.2 fun _ _=>yl (jU _ _)
theorem vK {s t:Nat}(h:sub s t):rk B s≤rk B t:=zaf.2 fun b hb=>Nat.le_trans (yl (fun i hi=>by
  rw [jW] at hi ⊢;simp at hi ⊢;exact ⟨h i hi.1,hi.2⟩)) (zbI hb t)
def ind (B:List Nat)(s:Nat):Prop:= ∃b∈B,sub s b
theorem yt {s t:Nat}(h:sub s t)(k:ind B t):ind B s:=by obtain ⟨b,hb,hs⟩:=k;exact ⟨b,hb,jP h hs⟩
theorem vT (hB:B≠[]){s:Nat}(hs:s<256):ind B s↔rk B s=cnt s:=by
  constructor
  · rintro ⟨b,hb,h⟩
    have:=zbI hb s
    rw [QQ.1 h] at this
    exact Nat.le_antisymm (Va s) this
  · intro h
    obtain ⟨b,hb,hc⟩:=zcx hB s
    exact ⟨b,hb,JD hs (by omega)⟩
theorem Mat.grow (M:Mat n B){I c:Nat}(hI:ind B I)(hc:c∈B): ∃b∈B,sub I b∧sub b (I |||c):=by
  obtain ⟨b0,hb0,hs0⟩:=hI
  have key: ∀k b,b∈B→sub I b→cnt (sdiff b (I |||c))=k→ ∃b∈B,sub I b∧sub b (I |||c):=by
    intro k
    induction k using Nat.strongRecOn with
    |_ k ih=>
      intro b hb hs hk
      by_cases hh:sub b (I |||c)
      · exact ⟨b,hb,hs,hh⟩
      · obtain ⟨e,he,hn⟩:=Vr hh
        rw [vJ] at hn
        have hn':=Bool.or_eq_false_iff.1 hn
        obtain ⟨f,hfc,hfb,hin⟩:=M.ex b hb c hc e he hn'.2
        have hd:sdiff (ins (del b e) f) (I |||c)=del (sdiff b (I |||c)) e:=ext fun i=>by
          simp only [jv,qu,jq,vJ]
          by_cases hi:f=i
          · subst hi;simp [hfc]
          · simp only [hi,decide_false,Bool.or_false];cases b.testBit i<;>cases I.testBit i<;>cases c.testBit i<;>simp
        have h1:=Zm (s:=sdiff b (I |||c)) (M.zdc hb he) (by rw [jv,he,vJ,hn];rfl)
        refine ih _ (by rw [hd];omega) _ hin (fun i hi=> ?_) rfl
        rw [qu,jq,hs i hi]
        have:e≠i:=fun h=>by subst h;rw [hi] at hn';exact absurd hn'.1 (by simp)
        simp [this]
  exact key _ b0 hb0 hs0 rfl
theorem Mat.zbV (M:Mat n B){I J:Nat}(hI:ind B I)(hJ:ind B J)(h:cnt I<cnt J): ∃x,J.testBit x=true∧I.testBit x=false∧ind B (ins I x):=by
  obtain ⟨c,hc,hJc⟩:=hJ
  obtain ⟨b,hb,hIb,hbc⟩:=M.grow hI hc
  apply Classical.byContradiction
  intro hn
  have h1:sub (b &&&J) I:=fun i hi=>by
    rw [jW] at hi;simp at hi
    cases hx:I.testBit i
    · exact absurd ⟨i,hi.2,hx,b,hb,fun j hj=>by
        rw [qu] at hj;rcases Bool.or_eq_true_iff.1 hj with hj|hj
        · exact hIb j hj
        · rw [←of_decide_eq_true hj];exact hi.1⟩ hn
    · rfl
  have h2:sub (sdiff b I) (sdiff c J):=fun i hi=>by
    rw [jv] at hi ⊢;simp at hi
    have h3:=hbc i hi.1
    rw [vJ,hi.2,Bool.false_or] at h3
    rw [h3,Bool.true_and]
    cases hj:J.testBit i
    · rfl
    · have:=h1 i (by rw [jW,hi.1,hj];rfl);rw [hi.2] at this;cases this
  have c1:=yl h2
  have c2:=yI hIb
  have c3:=yI hJc
  have c4:=M.zc5 hb hc
  omega
theorem Mat.Zs (M:Mat n B){s I:Nat}(hs:s<256)(hI:ind B I)(hIs:sub I s): ∃J,ind B J∧sub I J∧sub J s∧cnt J=rk B s:=by
  obtain ⟨b,hb,hc⟩:=zcx M.ne s
  have hJ0:ind B (s &&&b):=⟨b,hb,yG _ _⟩
  have key: ∀k I,ind B I→sub I s→rk B s - cnt I=k→ ∃J,ind B J∧sub I J∧sub J s∧cnt J=rk B s:=by
    intro k
    induction k with
    |zero=>
      intro I hI hIs hk
      have h1:cnt I≤rk B s:=by rw [←(vT M.ne (je (n:=8) hIs hs)).1 hI];exact vK hIs
      exact ⟨I,hI,Qg _,hIs,by omega⟩
    |succ k ih=>
      intro I hI hIs hk
      obtain ⟨x,hx,hxI,hin⟩:=M.zbV hI hJ0 (by omega)
      have hxs:s.testBit x=true:=jU _ _ x hx
      have h8:x<8:=vz (n:=8) hs hxs
      have h1:=Zl h8 hxI
      have hsub:sub (ins I x) s:=fun i hi=>by
        rw [qu] at hi;rcases Bool.or_eq_true_iff.1 hi with hi|hi
        · exact hIs i hi
        · rw [←of_decide_eq_true hi];exact hxs
      obtain ⟨J,h2,h3,h4,h5⟩:=ih (ins I x) hin hsub (by omega)
      exact ⟨J,h2,jP (Zi I x) h3,h4,h5⟩
  exact key _ I hI hIs rfl
theorem Jn (hB:B≠[]):ind B 0:=by
  obtain ⟨c,hc⟩:=List.exists_mem_of_ne_nil B hB
  exact ⟨c,hc,fun i hi=>by rw [j7] at hi;cases hi⟩
theorem Mat.zdr (M:Mat n B){s t:Nat}(hs:s<256)(ht:t<256):rk B (s |||t)+rk B (s &&&t)≤rk B s+rk B t:=by
  have hst:s |||t<256:=Nat.or_lt_two_pow (n:=8) hs ht
  have hand:s &&&t<256:=Nat.and_lt_two_pow (n:=8) _ ht
  obtain ⟨I,hI,_,hIs,hIc⟩:=M.Zs hand (Jn M.ne) (fun i hi=>by rw [j7] at hi;cases hi)
  obtain ⟨J,hJ,hIJ,hJs,hJc⟩:=M.Zs hst hI (jP hIs (jP (jU _ _) (Yh _ _)))
  have h1:ind B (J &&&s):=yt (jU _ _) hJ
  have h2:ind B (J &&&t):=yt (jU _ _) hJ
  have hJ8:J<256:=je (n:=8) hJs hst
  have c1:cnt (J &&&s)≤rk B s:=by
    rw [←(vT M.ne (je (n:=8) (jU _ _) hJ8)).1 h1];exact vK (yG _ _)
  have c2:cnt (J &&&t)≤rk B t:=by
    rw [←(vT M.ne (je (n:=8) (jU _ _) hJ8)).1 h2];exact vK (yG _ _)
  have c3:=Q8 (J &&&s) (J &&&t)
  have e1:J &&&s |||J &&&t=J:=ext fun i=>by
    rw [vJ,jW,jW];have:=hJs i;rw [vJ] at this
    revert this
    cases J.testBit i<;>cases s.testBit i<;>cases t.testBit i<;>simp
  have e2:sub I (J &&&s &&&(J &&&t)):=fun i hi=>by
    have a:=hIJ i hi;have b:=hIs i hi;rw [jW] at b;simp at b
    simp [a,b]
  have c4:=yl e2
  rw [e1] at c3
  omega
end
end Mt
end
section
namespace Mt
def setOf (n:Nat)(p:Nat→Bool):Nat:=(List.range n).foldl (fun o e=>if p e then ins o e else o) 0
theorem Z6 (p:Nat→Bool)(i:Nat): ∀(l:List Nat) (o:Nat),(l.foldl (fun o e=>if p e then ins o e else o) o).testBit i=(o.testBit i||(decide (i∈l)&&p i))
  | [],o=>by simp
  |a::l,o=>by
    rw [List.foldl_cons,Z6 p i l]
    by_cases ha:a=i
    · subst ha
      cases hp:p a<;>simp [qu]
    · have:(i=a)=False:=eq_false fun h=>ha h.symm
      cases hp:p a<;>simp [qu,ha,this]
theorem QI (n:Nat)(p:Nat→Bool)(i:Nat):(setOf n p).testBit i=(decide (i<n)&&p i):=by
  unfold setOf;rw [Z6,j7];simp
theorem zbR (n:Nat)(p:Nat→Bool):setOf n p<2 ^n:=yU fun i hi=>by rw [QI] at hi;simp at hi;exact hi.1
theorem Qy {s e n:Nat}(hs:s<2 ^n)(he:e<n):ins s e<2 ^n:=yU fun i hi=>by
  rw [qu] at hi;rcases Bool.or_eq_true_iff.1 hi with hi|hi
  · exact vz hs hi
  · rw [←of_decide_eq_true hi];exact he
theorem yT {s t e:Nat}(h:sub s t)(he:t.testBit e=true):sub (ins s e) t:=fun i hi=>by
  rw [qu] at hi;rcases Bool.or_eq_true_iff.1 hi with hi|hi
  · exact h i hi
  · rw [←of_decide_eq_true hi];exact he
theorem Qu {s t:Nat}(e:Nat)(h:sub s t):sub (ins s e) (ins t e):=yT (jP h (Zi t e)) (Y7 t e)
theorem zaw {s e:Nat}(h:s.testBit e=true):ins (del s e) e=s:=ext fun i=>by
  rw [qu,jq];by_cases hi:e=i
  · subst hi;simp [h]
  · simp [hi]
section
variable {n:Nat} {B:List Nat}
theorem Mat.zdi (M:Mat n B){s t:Nat}(ht:t<2 ^n)(hst:sub s t)(h: ∀e,t.testBit e=true→rk B (ins s e)=rk B s):rk B t=rk B s:=by
  have ht8:t<256:=ZU M.size ht
  have hs8:s<256:=je (n:=8) hst ht8
  apply Nat.le_antisymm _ (vK hst)
  obtain ⟨I,hI,_,hIs,hIc⟩:=M.Zs hs8 (Jn M.ne) (fun i hi=>by rw [j7] at hi;cases hi)
  obtain ⟨J,hJ,hIJ,hJt,hJc⟩:=M.Zs ht8 hI (jP hIs hst)
  apply Nat.le_of_not_lt
  intro hlt
  obtain ⟨x,hxJ,hxI⟩:=ZV (a:=J) (b:=I) (by omega)
  have h8:x<8:=vz (n:=8) (je (n:=8) hJt ht8) hxJ
  have h1:ind B (ins I x):=yt (yT hIJ hxJ) hJ
  have h2:=(vT M.ne (je (n:=8) (yT (jP hIJ hJt) (hJt x hxJ)) ht8)).1 h1
  have h3:=Zl h8 hxI
  have h4:rk B (ins I x)≤rk B (ins s x):=vK (Qu x hIs)
  have h5:=h x (hJt x hxJ)
  omega
def cl (n:Nat)(B:List Nat)(s:Nat):Nat:=setOf n fun e=>decide (rk B (ins s e)=rk B s)
theorem zcZ (s e:Nat):(cl n B s).testBit e=(decide (e<n)&&decide (rk B (ins s e)=rk B s)):=QI _ _ _
theorem yF {s e:Nat}:(cl n B s).testBit e=true↔e<n∧rk B (ins s e)=rk B s:=by rw [zcZ];simp
theorem zbf (s:Nat):cl n B s<2 ^n:=zbR _ _
theorem VI {s:Nat}(hs:s<2 ^n):sub s (cl n B s):=fun i hi=>yF.2 ⟨vz hs hi,by rw [zcV hi]⟩
theorem Mat.zdy (M:Mat n B){s:Nat}(hs:s<2 ^n):rk B (cl n B s)=rk B s:=M.zdi (zbf s) (VI hs) fun _ he=>(yF.1 he).2
theorem Mat.V5 (M:Mat n B){s t e:Nat}(ht:t<2 ^n)(he:e<n)(hst:sub s t)(h:rk B (ins s e)=rk B s):rk B (ins t e)=rk B t:=by
  have h1:=M.zdr (s:=ins s e) (t:=t) (ZU M.size (Qy (je hst ht) he)) (ZU M.size ht)
  have h2:ins s e |||t=ins t e:=ext fun i=>by
    rw [vJ,qu,qu];have:=hst i;revert this;cases s.testBit i<;>cases t.testBit i<;>cases decide (e=i)<;>simp
  have h3:rk B s≤rk B (ins s e &&&t):=vK (zb5 (Zi s e) hst)
  rw [h2] at h1
  have h4:rk B t≤rk B (ins t e):=vK (Zi t e)
  omega
theorem Mat.zaq (M:Mat n B){s t:Nat}(ht:t<2 ^n)(hst:sub s t):sub (cl n B s) (cl n B t):=fun _ hi=>
  yF.2 ⟨(yF.1 hi).1,M.V5 ht (yF.1 hi).1 hst (yF.1 hi).2⟩
theorem Mat.zdW (M:Mat n B){s:Nat}(hs:s<2 ^n):cl n B (cl n B s)=cl n B s:=by
  refine ZX (fun i hi=> ?_) (VI (zbf s))
  obtain ⟨h1,h2⟩:=yF.1 hi
  refine yF.2 ⟨h1,?_⟩
  have h3:rk B (ins s i)≤rk B (ins (cl n B s) i):=vK (Qu i (VI hs))
  rw [h2,M.zdy hs] at h3
  exact Nat.le_antisymm h3 (vK (Zi s i))
theorem Mat.zcW (M:Mat n B){s t:Nat}(ht:t<2 ^n)(h:sub s (cl n B t)):sub (cl n B s) (cl n B t):=by
  have:=M.zaq (zbf (n:=n) (B:=B) t) h;rwa [M.zdW ht] at this
def YY (n:Nat)(B:List Nat)(c:Nat):Prop:=c<2 ^n∧ ¬ind B c∧ ∀e,c.testBit e=true→ind B (del c e)
theorem Ya {d:Nat}(hd:d<2 ^n)(hn:n≤8)(h: ¬ind B d): ∃c,YY n B c∧sub c d:=by
  have key: ∀k d,d<2 ^n→ ¬ind B d→cnt d=k→ ∃c,YY n B c∧sub c d:=by
    intro k
    induction k using Nat.strongRecOn with
    |_ k ih=>
      intro d hd h hk
      by_cases hh: ∀e,d.testBit e=true→ind B (del d e)
      · exact ⟨d,⟨hd,h,hh⟩,Qg d⟩
      · obtain ⟨e,he⟩:=Classical.not_forall.1 hh
        obtain ⟨he,hne⟩:=Classical.not_imp.1 he
        have:=Zm (vz (n:=8) (ZU hn hd) he) he
        obtain ⟨c,hc,hs⟩:=ih _ (by omega) (del d e) (je (yP d e) hd) hne rfl
        exact ⟨c,hc,jP hs (yP d e)⟩
  exact key _ d hd h rfl
theorem Mat.zar (M:Mat n B){c e:Nat}(hc:YY n B c)(he:c.testBit e=true):(cl n B (del c e)).testBit e=true:=by
  refine yF.2 ⟨vz hc.1 he,?_⟩
  rw [zaw he]
  have hc8:=ZU M.size hc.1
  have h1:=(vT M.ne (je (n:=8) (yP c e) hc8)).1 (hc.2.2 e he)
  have h2:=Zm (vz (n:=8) hc8 he) he
  have h3:rk B c≠cnt c:=fun h=>hc.2.1 ((vT M.ne hc8).2 h)
  have h4:rk B (del c e)≤rk B c:=vK (yP c e)
  have h5:rk B c≤cnt c:=Va c
  omega
theorem Mat.YZ (M:Mat n B){y e:Nat}(hy:y<2 ^n)(hye:y.testBit e=false)(he:(cl n B y).testBit e=true): ∃c,YY n B c∧c.testBit e=true∧sub c (ins y e):=by
  obtain ⟨h1,h2⟩:=yF.1 he
  have hy8:=ZU M.size hy
  obtain ⟨I,hI,_,hIs,hIc⟩:=M.Zs hy8 (Jn M.ne) (fun i hi=>by rw [j7] at hi;cases hi)
  have hIe:I.testBit e=false:=by
    cases h:I.testBit e
    · rfl
    · rw [hIs e h] at hye;cases hye
  have hIlt:I<2 ^n:=je hIs hy
  have hlt:=Qy hIlt h1
  have hdep: ¬ind B (ins I e):=fun h=>by
    have h3:=(vT M.ne (ZU M.size hlt)).1 h
    have h4:rk B (ins I e)≤rk B (ins y e):=vK (Qu e hIs)
    have h5:=Zl (Nat.lt_of_lt_of_le h1 M.size) hIe
    omega
  obtain ⟨c,hc,hs⟩:=Ya hlt M.size hdep
  refine ⟨c,hc,?_,jP hs (Qu e hIs)⟩
  cases hce:c.testBit e
  · refine absurd (yt (fun j hj=> ?_) hI) hc.2.1
    have:=hs j hj
    rw [qu] at this
    rcases Bool.or_eq_true_iff.1 this with h|h
    · exact h
    · rw [←of_decide_eq_true h,hce] at hj;cases hj
  · rfl
theorem Mat.elim (M:Mat n B){c d e f:Nat}(hc:YY n B c)(hd:YY n B d)(_:c.testBit f=true)(hfd:d.testBit f=true)(hec:c.testBit e=true)(hed:d.testBit e=false):
    ∃x,YY n B x∧x.testBit e=true∧sub x (del (c |||d) f):=by
  have hef:f≠e:=fun h=>by subst h;rw [hfd] at hed;cases hed
  have hcd:c |||d<2 ^n:=Nat.or_lt_two_pow hc.1 hd.1
  have hX:del (c |||d) f<2 ^n:=je (yP _ _) hcd
  have hY:del (del (c |||d) f) e<2 ^n:=je (yP _ _) hX
  have h1:(cl n B (del (del (c |||d) f) e)).testBit f=true:=by
    refine M.zaq hY (fun i hi=> ?_) f (M.zar hd hfd)
    rw [jq] at hi;simp at hi
    have:e≠i:=fun h=>by subst h;rw [hed] at hi;exact absurd hi.1 (by simp)
    rw [jq,jq,vJ,hi.1];simp [hi.2,this]
  have h2:sub (del c e) (cl n B (del (del (c |||d) f) e)):=fun i hi=>by
    rw [jq] at hi;simp at hi
    by_cases hif:f=i
    · subst hif;exact h1
    · exact VI hY i (by rw [jq,jq,vJ,hi.1];simp [hif,hi.2])
  have h3:(cl n B (del (del (c |||d) f) e)).testBit e=true:=M.zcW hY h2 e (M.zar hc hec)
  obtain ⟨x,hx,hxe,hxs⟩:=M.YZ hY (by simp [jq]) h3
  refine ⟨x,hx,hxe,jP hxs ?_⟩
  rw [zaw (by rw [jq,vJ,hec];simp [hef])]
  exact Qg _
theorem Mat.congr {B':List Nat}(M:Mat n B)(h: ∀x,x∈B'↔x∈B):Mat n B' where
  size:=M.size
  lt:=fun b hb=>M.lt b ((h b).1 hb)
  ne:=fun he=>by
    obtain ⟨c,hc⟩:=List.exists_mem_of_ne_nil B M.ne
    have:=(h c).2 hc;rw [he] at this;cases this
  ex:=fun a ha b hb e hea heb=>by
    obtain ⟨f,h1,h2,h3⟩:=M.ex a ((h a).1 ha) b ((h b).1 hb) e hea heb
    exact ⟨f,h1,h2,(h _).2 h3⟩
def co (n s:Nat):Nat:=sdiff (full n) s
theorem Q7 (n s i:Nat):(co n s).testBit i=(decide (i<n)&& !s.testBit i):=by rw [co,jv,Z0]
theorem zdG (n s:Nat):co n s<2 ^n:=yU fun i hi=>by rw [Q7] at hi;simp at hi;exact hi.1
end
end Mt
end
section
namespace Mt
section
variable {n:Nat} {B:List Nat}
def sep (n:Nat)(B:List Nat)(s:Nat):Prop:=rk B s+rk B (co n s)=rk B (full n)
end
end Mt
end
section
namespace Mt
def qD (p:Int):Prop:=p=2∨p=3∨p=5∨p=7
theorem qD.pos {p:Int}(h:qD p):2≤p∧p≤7:=by unfold qD at h;omega
theorem zcr: ∀p∈[2,3,5,7],∀a∈List.range 7,∀b∈List.range 7,(a*b)%p=0→a%p=0∨b%p=0:=by decide
theorem zbX: ∀p∈[2,3,5,7],∀a∈List.range 7,a%p≠0→ ∃b∈List.range 7,(a*b)%p=1:=by decide
theorem qD.nat {p:Int}(h:qD p): ∃q:Nat,p=(q:Int)∧q∈[2,3,5,7]:=by
  rcases h with rfl|rfl|rfl|rfl
  · exact ⟨2,rfl,by decide⟩
  · exact ⟨3,rfl,by decide⟩
  · exact ⟨5,rfl,by decide⟩
  · exact ⟨7,rfl,by decide⟩
theorem qD.res {p:Int}(h:qD p)(x:Int): ∃a:Nat,a∈List.range 7∧x%p=(a:Int)∧a%p.toNat=a:=by
  have hp:=h.pos
  have h0:=Int.emod_nonneg x (show p≠0 by omega)
  have h1:=Int.emod_lt_of_pos x (show 0<p by omega)
  refine ⟨(x%p).toNat,by simp;omega,by omega,Nat.mod_eq_of_lt (by omega)⟩
theorem qD.Vj {p:Int}(h:qD p){x y:Int}(hxy:p∣x*y):p∣x∨p∣y:=by
  obtain ⟨q,rfl,hq⟩:=h.nat
  obtain ⟨a,ha,hxa,_⟩:=h.res x
  obtain ⟨b,hb,hyb,_⟩:=h.res y
  have h1:=Int.emod_eq_zero_of_dvd hxy
  rw [Int.mul_emod,hxa,hyb] at h1
  have h2:(a*b)%q=0:=by
    have:((a*b%q:Nat):Int)=0:=by rw [Int.natCast_emod,Int.natCast_mul];exact h1
    omega
  have key: ∀ {z:Int} {c:Nat},z%(q:Int)=(c:Int)→c%q=0→(q:Int)∣z:=fun {z c} hz hc=>by
    apply Int.dvd_of_emod_eq_zero
    have h3:(z%(q:Int))%(q:Int)=z%(q:Int):=Int.emod_emod _ _
    rw [hz] at h3
    have:((c%q:Nat):Int)=(c:Int):=by rw [Int.natCast_emod];exact h3
    rw [hz,←this,hc];rfl
  rcases zcr q hq a ha b hb h2 with h3|h3
  · exact .inl (key hxa h3)
  · exact .inr (key hyb h3)
theorem qD.inv {p:Int}(h:qD p){x:Int}(hx: ¬p∣x): ∃y:Int,p∣x*y - 1:=by
  obtain ⟨q,rfl,hq⟩:=h.nat
  obtain ⟨a,ha,hxa,hm⟩:=h.res x
  have h1:a%q≠0:=fun h0=>hx (by
    apply Int.dvd_of_emod_eq_zero
    rw [Int.toNat_natCast] at hm
    rw [hxa,←hm,h0];rfl)
  obtain ⟨b,_,hb⟩:=zbX q hq a ha h1
  refine ⟨(b:Int),?_⟩
  have h2:(x*(b:Int))%(q:Int)=1:=by
    rw [Int.mul_emod,hxa]
    have:(((a*b)%q:Nat):Int)=1:=by rw [hb];rfl
    rw [Int.natCast_emod,Int.natCast_mul,Int.mul_emod] at this
    have hqq:(a:Int)%(q:Int)=(a:Int):=by
      have:((a%q:Nat):Int)=(a:Int):=by rw [Int.toNat_natCast] at hm;rw [hm]
      rwa [Int.natCast_emod] at this
    rw [hqq] at this;exact this
  have h3:=Int.emod_add_mul_ediv (x*(b:Int)) (q:Int)
  rw [h2] at h3
  exact ⟨x*(b:Int) / (q:Int),by omega⟩
def dot (n:Nat)(u v:Nat→Int):Int:=((List.range n).map fun j=>u j*v j).sum
theorem y8 {α:Type}(f g:α→Int): ∀l:List α,(l.map fun j=>f j+g j).sum=(l.map f).sum+(l.map g).sum
  | []=>rfl
  |a::l=>by simp only [List.map_cons,List.sum_cons,y8 f g l];omega
theorem yB {α:Type}(c:Int)(f:α→Int): ∀l:List α,(l.map fun j=>c*f j).sum=c*(l.map f).sum
  | []=>by simp
  |a::l=>by simp only [List.map_cons,List.sum_cons,yB c f l,Int.mul_add]
theorem vW (n:Nat)(u v w:Nat→Int)(c:Int):dot n u (fun j=>v j+c*w j)=dot n u v+c*dot n u w:=by
  unfold dot
  rw [←yB,←y8]
  congr 1
  apply List.map_congr_left
  intro j _
  rw [Int.mul_add,←Int.mul_assoc,Int.mul_comm (u j) c,Int.mul_assoc]
theorem vZ (n:Nat)(u v:Nat→Int):dot n u v=dot n v u:=by
  unfold dot;congr 1;apply List.map_congr_left;intro j _;exact Int.mul_comm _ _
theorem Z4 (n:Nat)(u v w:Nat→Int)(c:Int):dot n (fun j=>v j+c*w j) u=dot n v u+c*dot n w u:=by
  rw [vZ,vW,vZ n u v,vZ n u w]
theorem Z3 {p:Int}{α:Type}(f:α→Int): ∀l:List α,(∀j∈l,p∣f j)→p∣(l.map f).sum
  | [],_=>by simp
  |a::l,h=>by
    simp only [List.map_cons,List.sum_cons]
    exact Int.dvd_add (h a (by simp)) (Z3 f l fun j hj=>h j (by simp [hj]))
theorem VT {p:Int}(f:Nat→Int)(k:Nat): ∀(l:List Nat),l.Nodup→k∈l→(∀j∈l,j≠k→p∣f j)→p∣(l.map f).sum - f k
  | [],_,hk,_=>by cases hk
  |a::l,hn,hk,h=>by
    rw [List.nodup_cons] at hn
    simp only [List.map_cons,List.sum_cons]
    by_cases hak:a=k
    · subst hak
      have:=Z3 (p:=p) f l fun j hj=>h j (by simp [hj]) fun e=>hn.1 (e ▸hj)
      rwa [show f a+(l.map f).sum - f a=(l.map f).sum by omega]
    · have hkl : k ∈ l := by rcases List.mem_cons.1 hk with h' | h'
                             · exact absurd h'.symm hak
                             · exact h'
      have h1:=VT f k l hn.2 hkl fun j hj=>h j (by simp [hj])
      have h2:=h a (by simp) hak
      rw [show f a+(l.map f).sum - f k=f a+((l.map f).sum - f k) by omega]
      exact Int.dvd_add h2 h1
theorem QZ {p:Int}{n k:Nat}(hk:k<n)(u v:Nat→Int)(h: ∀j,j<n→j≠k→p∣u j*v j):p∣dot n u v - u k*v k:=
  VT (fun j=>u j*v j) k (List.range n) List.nodup_range (List.mem_range.2 hk) fun j hj hjk=>h j (List.mem_range.1 hj) hjk
theorem zat {p:Int}{n:Nat}{u v w:Nat→Int}(h: ∀j,j<n→p∣v j - w j):p∣dot n u v - dot n u w:=by
  have:=Z3 (p:=p) (fun j=>u j*(v j - w j)) (List.range n) fun j hj=>Int.dvd_mul_of_dvd_right (h j (List.mem_range.1 hj))
  have h2:dot n u v - dot n u w=((List.range n).map fun j=>u j*(v j - w j)).sum:=by
    have h3:=vW n u v w (-1)
    have h4:(fun j=>u j*(v j - w j))=fun j=>u j*(v j+(-1)*w j):=funext fun j=>by congr 1;omega
    rw [h4];show _=dot n u (fun j=>v j+(-1)*w j);rw [h3];omega
  rw [h2];exact this
structure Sp (p:Int)(n:Nat)(K:(Nat→Int)→Prop):Prop where
  fld:qD p
  size:n≤8
  zero:K fun _=>0
  add: ∀v w c,K v→K w→K fun j=>v j+c*w j
  mod: ∀v w,(∀j,j<n→p∣v j - w j)→K v→K w
def Ys (p:Int)(n:Nat)(v:Nat→Int)(s:Nat):Prop:= ∀j,j<n→s.testBit j=false→p∣v j
def li (p:Int)(n:Nat)(K:(Nat→Int)→Prop)(s:Nat):Prop:= ∀v,K v→Ys p n v s→ ∀j,j<n→p∣v j
theorem zbO {p:Int}{n:Nat}{K:(Nat→Int)→Prop}{s t:Nat}(h:sub s t)(k:li p n K t):li p n K s:=fun v hv hs=>k v hv fun j hj ht=>hs j hj (by
  cases hb:s.testBit j
  · rfl
  · rw [h j hb] at ht;cases ht)
section
variable {p:Int} {n:Nat} {K:(Nat→Int)→Prop}
theorem Sp.smul (S:Sp p n K){v:Nat→Int}(hv:K v)(c:Int):K fun j=>c*v j:=by
  have:=S.add _ _ c S.zero hv;exact S.mod _ _ (fun j _=>by show p∣0+c*v j - c*v j;rw [show 0+c*v j - c*v j=0 by omega];exact Int.dvd_zero p) this
theorem Sp.vec (S:Sp p n K){s e:Nat}(he:e<n)(hs:li p n K s)(h: ¬li p n K (ins s e)): ∃v,K v∧Ys p n v (ins s e)∧p∣v e - 1:=by
  obtain ⟨v,hv⟩:=Classical.not_forall.1 h
  obtain ⟨hK,hv2⟩:=Classical.not_imp.1 hv
  obtain ⟨hsup,hv3⟩:=Classical.not_imp.1 hv2
  obtain ⟨j,hj⟩:=Classical.not_forall.1 hv3
  obtain ⟨hjn,hjp⟩:=Classical.not_imp.1 hj
  have hve: ¬p∣v e:=fun h0=>hjp (hs v hK (fun i hi hsi=>by
    by_cases hie:e=i
    · rw [←hie];exact h0
    · exact hsup i hi (by rw [qu,hsi];simp [hie])) j hjn)
  obtain ⟨y,hy⟩:=S.fld.inv hve
  refine ⟨fun j=>y*v j,S.smul hK y,fun j hj hb=>Int.dvd_mul_of_dvd_right (hsup j hj hb),?_⟩
  show p∣y*v e - 1
  rw [Int.mul_comm];exact hy
theorem Sp.Js (S:Sp p n K){s e:Nat}{v:Nat→Int}(he:e<n)(hv:K v)(hs:Ys p n v s)(h1: ¬p∣v e): ¬li p n K s:=fun h=>h1 (h v hv hs e he)
def ZF (p:Int)(n:Nat)(K:(Nat→Int)→Prop)(s:Nat):Prop:=s<2 ^n∧li p n K s∧ ∀e,e<n→s.testBit e=false→ ¬li p n K (ins s e)
theorem Sp.Qi (S:Sp p n K){s:Nat}(hs:s<2 ^n)(h:li p n K s): ∃t,ZF p n K t∧sub s t:=by
  have key: ∀k s,s<2 ^n→li p n K s→n - cnt s=k→ ∃t,ZF p n K t∧sub s t:=by
    intro k
    induction k using Nat.strongRecOn with
    |_ k ih=>
      intro s hs h hk
      by_cases hh: ∀e,e<n→s.testBit e=false→ ¬li p n K (ins s e)
      · exact ⟨s,⟨hs,h,hh⟩,Qg s⟩
      · obtain ⟨e,he⟩:=Classical.not_forall.1 hh
        obtain ⟨he,he2⟩:=Classical.not_imp.1 he
        obtain ⟨hes,hli⟩:=Classical.not_imp.1 he2
        have hli:=Classical.not_not.1 hli
        have h1:=Zl (Nat.lt_of_lt_of_le he S.size) hes
        have h2:=yl (za2 (Qy hs he))
        rw [zbg S.size] at h2
        obtain ⟨t,ht,hst⟩:=ih _ (by omega) (ins s e) (Qy hs he) hli rfl
        exact ⟨t,ht,jP (Zi s e) hst⟩
  exact key _ s hs h rfl
theorem zch:li p n K 0:=fun v _ hs j hj=>hs j hj (j7 j)
theorem Sp.expand (S:Sp p n K){a:Nat}(ha:ZF p n K a)(V:Nat→Nat→Int)(hV: ∀x,x<n→a.testBit x=false→K (V x)∧Ys p n (V x) (ins a x)∧p∣V x x - 1){u:Nat→Int}(hu:K u):
    ∀e,e<n→p∣u e - ((List.range n).map fun x=>if a.testBit x then 0 else u x*V x e).sum:=by
  have key: ∀(l:List Nat),l.Nodup→(∀x∈l,x<n)→K (fun e=>u e - (l.map fun x=>if a.testBit x then 0 else u x*V x e).sum):=by
    intro l
    induction l with
    |nil=>intro _ _;exact S.mod _ _ (fun j _=>by simp) hu
    |cons x l ih=>
      intro hn hl
      rw [List.nodup_cons] at hn
      have h1:=ih hn.2 fun y hy=>hl y (by simp [hy])
      cases hx:a.testBit x
      · refine S.mod _ _ (fun j _=> ?_) (S.add _ _ (-(u x)) h1 (hV x (hl x (by simp)) hx).1)
        simp only [List.map_cons,List.sum_cons,hx,Bool.false_eq_true,if_false]
        rw [show ∀a b c:Int,a - b+ -(u x)*c - (a - (u x*c+b))=0 from by intro a b c;rw [Int.neg_mul];omega]
        exact Int.dvd_zero p
      · refine S.mod _ _ (fun j _=> ?_) h1
        simp only [List.map_cons,List.sum_cons,hx,if_true]
        rw [show ∀a b:Int,a - b - (a - (0+b))=0 from by intro a b;omega]
        exact Int.dvd_zero p
  have h1:=key (List.range n) List.nodup_range fun x hx=>List.mem_range.1 hx
  refine ha.2.1 _ h1 fun j hj hja=> ?_
  have h2:=VT (p:=p) (fun x=>if a.testBit x then 0 else u x*V x j) j (List.range n) List.nodup_range (List.mem_range.2 hj) fun x hx hxj=>by
    show p∣if a.testBit x then 0 else u x*V x j
    cases hxa:a.testBit x
    · simp only [Bool.false_eq_true,if_false]
      refine Int.dvd_mul_of_dvd_right ((hV x (List.mem_range.1 hx) hxa).2.1 j hj ?_)
      rw [qu,hja];simp [hxj]
    · simp
  simp only [hja,Bool.false_eq_true,if_false] at h2
  have h3:=Int.dvd_mul_of_dvd_right (b:=u j) (hV j hj hja).2.2
  have h4:=Int.dvd_add h2 h3
  rw [show ∀s m c:Int,s - c*m+c*(m - 1)= -(c - s) from by intro s m c;rw [Int.mul_sub];omega] at h4
  exact (Int.dvd_neg).1 h4
theorem Sp.ex (S:Sp p n K){a b e:Nat}(ha:ZF p n K a)(hb:ZF p n K b)(hea:a.testBit e=true)(heb:b.testBit e=false):
    ∃f,b.testBit f=true∧a.testBit f=false∧ZF p n K (ins (del a e) f):=by
  have he:=vz ha.1 hea
  have hV: ∀x,∃v,(x<n→a.testBit x=false→K v∧Ys p n v (ins a x)∧p∣v x - 1):=fun x=>by
    by_cases hx:x<n∧a.testBit x=false
    · obtain ⟨v,h⟩:=S.vec hx.1 ha.2.1 (ha.2.2 x hx.1 hx.2);exact ⟨v,fun _ _=>h⟩
    · exact ⟨fun _=>0,fun h1 h2=>absurd ⟨h1,h2⟩ hx⟩
  let V:Nat→Nat→Int:=fun x=>Classical.choose (hV x)
  have hV': ∀x,x<n→a.testBit x=false→K (V x)∧Ys p n (V x) (ins a x)∧p∣V x x - 1:=fun x=>Classical.choose_spec (hV x)
  obtain ⟨u,hu,hus,hue⟩:=S.vec he hb.2.1 (hb.2.2 e he heb)
  have hex:=S.expand ha V hV' hu e he
  have hf: ∃f,f<n∧b.testBit f=true∧a.testBit f=false∧ ¬p∣V f e:=by
    apply Classical.byContradiction
    intro hn
    have h1:p∣((List.range n).map fun x=>if a.testBit x then 0 else u x*V x e).sum:=Z3 _ _ fun x hx=>by
      cases hxa:a.testBit x
      · simp only [Bool.false_eq_true,if_false]
        by_cases hxb:b.testBit x=true
        · refine Int.dvd_mul_of_dvd_right ?_
          exact Classical.byContradiction fun h=>hn ⟨x,List.mem_range.1 hx,hxb,hxa,h⟩
        · refine Int.dvd_mul_of_dvd_left (hus x (List.mem_range.1 hx) ?_)
          have hxe:e≠x:=fun h=>by subst h;rw [hea] at hxa;cases hxa
          rw [qu];simp [hxb,hxe]
      · simp
    have h2:=Int.dvd_add hex h1
    rw [show ∀a b:Int,a - b+b=a from by intros;omega] at h2
    have h3:=Int.dvd_sub h2 hue
    rw [show ∀a:Int,a - (a - 1)=1 from by intros;omega] at h3
    have:=S.fld.pos
    have:=Int.le_of_dvd (by decide) h3
    omega
  obtain ⟨f,hfn,hfb,hfa,hVe⟩:=hf
  obtain ⟨hVK,hVs,hV1⟩:=hV' f hfn hfa
  have hfe:f≠e:=fun h=>by subst h;rw [hea] at hfa;cases hfa
  have hsub: ∀i,(ins (del a e) f).testBit i=false→i≠e→(ins a f).testBit i=false:=fun i hi hie=>by
    rw [qu,jq] at hi;rw [qu]
    have:=Bool.or_eq_false_iff.1 hi
    simp only [Ne.symm hie,decide_false,Bool.not_false,Bool.and_true] at this
    rw [this.1,this.2];rfl
  refine ⟨f,hfb,hfa,Qy (je (yP a e) ha.1) hfn,fun w hw hws=> ?_,fun g hg hgs=> ?_⟩
  ·
    have h1:=S.add w (V f) (-(w f)) hw hVK
    have h2:=ha.2.1 _ h1 fun j hj hja=>by
      show p∣w j+ -(w f)*V f j
      by_cases hjf:j=f
      · subst hjf
        have:=Int.dvd_mul_of_dvd_right (b:= -(w j)) hV1
        rw [show ∀x y:Int,-x*(y - 1)=x+ -x*y from by intro x y;rw [Int.mul_sub];omega] at this
        exact this
      · have hje:j≠e:=fun h=>by subst h;rw [hea] at hja;cases hja
        refine Int.dvd_add (hws j hj ?_) (Int.dvd_mul_of_dvd_right (hVs j hj ?_))
        · rw [qu,jq,hja];simp [Ne.symm hjf]
        · rw [qu,hja];simp [Ne.symm hjf]
    have h3:p∣w f:=by
      have h4:=h2 e he
      have h5:p∣w e:=hws e he (by rw [qu,jq];simp [hfe])
      have h6:=Int.dvd_sub h4 h5
      rw [show ∀x y z:Int,x+ -y*z - x= -(y*z) from by intro x y z;rw [Int.neg_mul];omega] at h6
      rcases S.fld.Vj ((Int.dvd_neg).1 h6) with h|h
      · exact h
      · exact absurd h hVe
    intro j hj
    have h4:=h2 j hj
    have h5:=Int.dvd_mul_of_dvd_left (c:=V f j) ((Int.dvd_neg).2 h3)
    have h6:=Int.dvd_sub h4 h5
    rwa [show ∀x y:Int,x+y - y=x from by intros;omega] at h6
  · by_cases hge:g=e
    · subst hge
      refine fun h=>ha.2.2 f hfn hfa (zbO (fun i hi=> ?_) h)
      rw [qu] at hi
      rw [qu,qu,jq]
      rcases Bool.or_eq_true_iff.1 hi with hi|hi
      · rw [hi];cases decide (g=i)<;>simp
      · rw [hi];simp
    · have hga:a.testBit g=false:=by
        rw [qu,jq] at hgs
        have:=(Bool.or_eq_false_iff.1 hgs).1
        simpa [Ne.symm hge] using this
      have hgf:f≠g:=fun h=>by subst h;rw [Y7] at hgs;cases hgs
      obtain ⟨hGK,hGs,hG1⟩:=hV' g hg hga
      obtain ⟨y,hy⟩:=S.fld.inv hVe
      refine S.Js (v:=fun j=>V g j+ -(V g e*y)*V f j) hg (S.add _ _ _ hGK hVK) (fun j hj hjs=> ?_) fun h=> ?_
      · show p∣V g j+ -(V g e*y)*V f j
        by_cases hje:j=e
        · subst hje
          have:=Int.dvd_mul_of_dvd_right (b:= -(V g j)) hy
          rw [show ∀x y z:Int,-x*(z*y - 1)=x+ -(x*y)*z from by intro x y z;rw [Int.mul_sub,Int.neg_mul,Int.neg_mul,Int.neg_mul,Int.mul_assoc x y z,Int.mul_comm z y];omega] at this
          exact this
        · have hj1:(ins (del a e) f).testBit j=false:=by
            rw [qu] at hjs;exact (Bool.or_eq_false_iff.1 hjs).1
          have hj2:decide (g=j)=false:=by rw [qu] at hjs;exact (Bool.or_eq_false_iff.1 hjs).2
          have hj3:=hsub j hj1 hje
          refine Int.dvd_add (hGs j hj ?_) (Int.dvd_mul_of_dvd_right (hVs j hj hj3))
          rw [qu] at hj3 ⊢
          rw [(Bool.or_eq_false_iff.1 hj3).1,hj2];rfl
      · have h1:p∣V g g+ -(V g e*y)*V f g:=h
        have h2:p∣V f g:=hVs g hg (by rw [qu,hga];simp [hgf])
        have h3:=Int.dvd_sub h1 (Int.dvd_mul_of_dvd_right (b:= -(V g e*y)) h2)
        rw [show ∀x y:Int,x+y - y=x from by intros;omega] at h3
        have h4:=Int.dvd_sub h3 hG1
        rw [show ∀a:Int,a - (a - 1)=1 from by intros;omega] at h4
        have:=S.fld.pos
        have:=Int.le_of_dvd (by decide) h4
        omega
noncomputable def linB (p:Int) (n:Nat) (K:(Nat→Int)→Prop):List Nat:=(List.range (2 ^n)).filter fun s=> @decide _ (Classical.propDecidable (ZF p n K s))
theorem yi {s:Nat}:s∈linB p n K↔ZF p n K s:=by
  unfold linB;rw [List.mem_filter,List.mem_range];simp only [decide_eq_true_eq]
  exact ⟨fun h=>h.2,fun h=>⟨h.1,h⟩⟩
theorem Sp.mat (S:Sp p n K):Mat n (linB p n K) where
  size:=S.size
  lt:=fun b hb=>(yi.1 hb).1
  ne:=fun h=>by
    obtain ⟨t,ht,_⟩:=S.Qi (s:=0) (Nat.two_pow_pos n) zch
    have:=yi.2 ht;rw [h] at this;cases this
  ex:=fun a ha b hb e hea heb=>by
    obtain ⟨f,h1,h2,h3⟩:=S.ex (yi.1 ha) (yi.1 hb) hea heb
    exact ⟨f,h1,h2,yi.2 h3⟩
theorem Sp.vT (S:Sp p n K){s:Nat}(hs:s<2 ^n):ind (linB p n K) s↔li p n K s:=by
  constructor
  · rintro ⟨b,hb,h⟩;exact zbO h (yi.1 hb).2.1
  · intro h
    obtain ⟨t,ht,hst⟩:=S.Qi hs h
    exact ⟨t,yi.2 ht,hst⟩
theorem Sp.rk (S:Sp p n K){s q:Nat}(hs:s<2 ^n)(hq:sub q s)(h:li p n K q)(hall: ∀e,s.testBit e=true→q.testBit e=false→ ¬li p n K (ins q e)):rk (linB p n K) s=cnt q:=by
  have hq2:q<2 ^n:=je hq hs
  obtain ⟨J,hJ,hqJ,hJs,hJc⟩:=S.mat.Zs (ZU S.size hs) ((S.vT hq2).2 h) hq
  rw [←hJc]
  have:J=q:=ZX (fun i hi=>by
    cases hqi:q.testBit i
    · exact absurd ((S.vT (Qy hq2 (vz hs (hJs i hi)))).1 (yt (yT hqJ hi) hJ)) (hall i (hJs i hi) hqi)
    · rfl) hqJ
  rw [this]
structure Ann (p:Int)(n:Nat)(K K':(Nat→Int)→Prop):Prop where
  sp:Sp p n K
  sp':Sp p n K'
  orth: ∀v u,K v→K' u→p∣dot n u v
  all': ∀u,(∀v,K v→p∣dot n u v)→K' u
  all: ∀v,(∀u,K' u→p∣dot n u v)→K v
theorem Ann.swap {K':(Nat→Int)→Prop}(A:Ann p n K K'):Ann p n K' K where
  sp:=A.sp'
  sp':=A.sp
  orth:=fun v u hv hu=>by rw [vZ];exact A.orth u v hu hv
  all':=fun u h=>A.all u fun v hv=>by rw [vZ];exact h v hv
  all:=fun v h=>A.all' v fun u hu=>by rw [vZ];exact h u hu
theorem Ann.co {K':(Nat→Int)→Prop}(A:Ann p n K K'){a:Nat}(ha:ZF p n K a):ZF p n K' (co n a):=by
  have hV: ∀x,∃v,(x<n→a.testBit x=false→K v∧Ys p n v (ins a x)∧p∣v x - 1):=fun x=>by
    by_cases hx:x<n∧a.testBit x=false
    · obtain ⟨v,h⟩:=A.sp.vec hx.1 ha.2.1 (ha.2.2 x hx.1 hx.2);exact ⟨v,fun _ _=>h⟩
    · exact ⟨fun _=>0,fun h1 h2=>absurd ⟨h1,h2⟩ hx⟩
  let V:Nat→Nat→Int:=fun x=>Classical.choose (hV x)
  have hV': ∀x,x<n→a.testBit x=false→K (V x)∧Ys p n (V x) (ins a x)∧p∣V x x - 1:=fun x=>Classical.choose_spec (hV x)
  refine ⟨zdG n a,fun u hu hus=> ?_,fun e he hea=> ?_⟩
  ·
    have hout: ∀x,x<n→a.testBit x=false→p∣u x:=fun x hx hxa=>by
      obtain ⟨h1,h2,h3⟩:=hV' x hx hxa
      have h4:=A.orth _ _ h1 hu
      have h5:=QZ (p:=p) hx u (V x) fun j hj hjx=>by
        cases hja:a.testBit j
        · exact Int.dvd_mul_of_dvd_right (h2 j hj (by rw [qu,hja];simp [Ne.symm hjx]))
        · exact Int.dvd_mul_of_dvd_left (hus j hj (by rw [Q7,hja];simp))
      have h6:=Int.dvd_sub h4 h5
      rw [show ∀a b:Int,a - (a - b)=b from by intros;omega] at h6
      have h7:=Int.dvd_sub h6 (Int.dvd_mul_of_dvd_right (b:=u x) h3)
      rw [show ∀a b:Int,a*b - a*(b - 1)=a from by intro a b;rw [Int.mul_sub];omega] at h7
      exact h7
    intro j hj
    cases hja:a.testBit j
    · exact hout j hj hja
    · exact hus j hj (by rw [Q7,hja];simp)
  · have hae:a.testBit e=true:=by
      rw [Q7] at hea
      cases h:a.testBit e
      · rw [h] at hea;simp at hea;omega
      · rfl
    let u:Nat→Int:=fun j=>if j=e then 1 else if a.testBit j then 0 else -(V j e)
    have hue:u e=1:=by show (if e=e then (1:Int) else _)=1;rw [if_pos rfl]
    refine A.sp'.Js (v:=u) he (A.all' u fun v hv=> ?_) (fun j hj hjs=> ?_) (fun h=>by
      rw [hue] at h;have:=A.sp.fld.pos;have:=Int.le_of_dvd (by decide) h;omega)
    · have hx:=A.sp.expand ha V hV' hv e he
      have h1:dot n u v - (v e - ((List.range n).map fun x=>if a.testBit x then 0 else v x*V x e).sum)=0:=by
        have h2:(fun j=>u j*v j)=fun j=>(if j=e then v j else 0)+(-1)*(if a.testBit j then 0 else v j*V j e):=funext fun j=>by
          show (if j=e then (1:Int) else if a.testBit j then 0 else -(V j e))*v j=_
          by_cases hje:j=e
          · subst hje;simp [hae]
          · cases a.testBit j
            · simp [hje];rw [Int.mul_comm,Int.mul_neg]
            · simp [hje]
        have h3:dot n u v=((List.range n).map fun j=>if j=e then v j else 0).sum+(-1)*((List.range n).map fun x=>if a.testBit x then 0 else v x*V x e).sum:=by
          unfold dot;rw [h2,y8,yB]
        have h4: ∀(l:List Nat),l.Nodup→e∈l→(l.map fun j=>if j=e then v j else 0).sum=v e:=by
          intro l
          induction l with
          |nil=>intro _ h;cases h
          |cons x l ih=>
            intro hn hm
            rw [List.nodup_cons] at hn
            simp only [List.map_cons,List.sum_cons]
            by_cases hxe:x=e
            · subst hxe
              have:(l.map fun j=>if j=x then v j else 0).sum=0:=by
                have:l.map (fun j=>if j=x then v j else 0)=l.map fun _=>0:=List.map_congr_left fun j hj=>by
                  rw [if_neg (fun h:j=x=>hn.1 (h ▸hj))]
                rw [this];clear this hn ih hm
                induction l with
                |nil=>rfl
                |cons _ l ih=>rw [List.map_cons,List.sum_cons,ih];rfl
              rw [this,if_pos rfl];omega
            · rw [if_neg hxe,ih hn.2 (by rcases List.mem_cons.1 hm with h|h;exact absurd h.symm hxe;exact h)];omega
        rw [h3,h4 _ List.nodup_range (List.mem_range.2 he)];omega
      rw [show dot n u v=v e - ((List.range n).map fun x=>if a.testBit x then 0 else v x*V x e).sum by omega]
      exact hx
    · show p∣if j=e then (1:Int) else if a.testBit j then 0 else -(V j e)
      rw [qu] at hjs
      have h1:=Bool.or_eq_false_iff.1 hjs
      have hje:j≠e:=fun h=>by rw [h] at h1;simp at h1
      rw [if_neg hje]
      have:a.testBit j=true:=by
        have:=h1.1;rw [Q7] at this
        cases h:a.testBit j
        · rw [h] at this;simp at this;omega
        · rfl
      rw [if_pos this];exact Int.dvd_zero p
end
end Mt
end
section
namespace Mt
section
variable {n:Nat} {B:List Nat}
end
theorem ZZ (s:Nat):(elems s).length=cnt s:=by rw [cnt,List.countP_eq_length_filter];rfl
end Mt
end
section
namespace Mt
def Ker (p:Int)(n R:Nat)(a:Nat→Nat→Int)(v:Nat→Int):Prop:= ∀i,i<R→p∣dot n (a i) v
theorem zbw {p:Int}{n R:Nat}(hp:qD p)(hn:n≤8)(a:Nat→Nat→Int):Sp p n (Ker p n R a) where
  fld:=hp
  size:=hn
  zero:=fun i _=>Z3 _ _ fun j _=>by simp
  add:=fun v w c hv hw i hi=>by rw [vW];exact Int.dvd_add (hv i hi) (Int.dvd_mul_of_dvd_right (hw i hi))
  mod:=fun v w h hv i hi=>by
    have h1:=zat (u:=a i) h
    have h2:=Int.dvd_sub (hv i hi) h1
    rwa [show ∀x y:Int,x - (x - y)=y from by intros;omega] at h2
theorem jr {n:Nat}{u u' v:Nat→Int}(h: ∀j,j<n→u j=u' j):dot n u v=dot n u' v:=by
  unfold dot;congr 1;apply List.map_congr_left;intro j hj;rw [h j (List.mem_range.1 hj)]
theorem Qf {p:Int}{n:Nat}{u u' v:Nat→Int}(h: ∀j,j<n→p∣u j - u' j):p∣dot n u v - dot n u' v:=by
  rw [vZ n u,vZ n u'];exact zat h
theorem vC {p x y:Int}(h:p∣x - y):p∣x↔p∣y:=by
  constructor
  · intro hx;have:=Int.dvd_sub hx h;rwa [show x - (x - y)=y by omega] at this
  · intro hy;have:=Int.dvd_add hy h;rwa [show y+(x - y)=x by omega] at this
theorem zbN {p:Int}{n R t:Nat}{a b:Nat→Nat→Int}(hp:qD p)(ht:t<R)(f:Int)(hf: ¬p∣f)(y:Nat→Int)(hy: ∀i,i<R→i≠t→ ¬p∣y i)(g:Nat→Int)
    (h1: ∀j,j<n→p∣b t j - f*a t j) (h2: ∀i,i<R→i≠t→ ∀j,j<n→p∣b i j - (y i*a i j+g i*a t j)) (v:Nat→Int):Ker p n R a v↔Ker p n R b v:=by
  have e1:p∣dot n (b t) v - f*dot n (a t) v:=by
    have h:=Qf (v:=v) h1
    have h3:=Z4 n v (fun _=>0) (a t) f
    have h4:dot n (fun _=>(0:Int)) v=0:=by
      unfold dot
      have:(fun j=>(0:Int)*v j)=fun _=>0:=funext fun j=>by omega
      rw [this]
      induction List.range n with
      |nil=>rfl
      |cons _ l ih=>rw [List.map_cons,List.sum_cons,ih];rfl
    rw [h4] at h3
    have h5:dot n (fun j=>f*a t j) v=f*dot n (a t) v:=by
      have h6:(fun j=>f*a t j)=fun j=>(0:Int)+f*a t j:=funext fun j=>by omega
      rw [h6,h3];omega
    rwa [h5] at h
  have e2: ∀i,i<R→i≠t→p∣dot n (b i) v - (y i*dot n (a i) v+g i*dot n (a t) v):=fun i hi hit=>by
    have h:=Qf (v:=v) (h2 i hi hit)
    have h3:=Z4 n v (fun j=>y i*a i j) (a t) (g i)
    have h5:dot n (fun j=>y i*a i j) v=y i*dot n (a i) v:=by
      unfold dot
      rw [←yB];congr 1;apply List.map_congr_left;intro j _;rw [Int.mul_assoc]
    rw [h3,h5] at h;exact h
  constructor
  · intro hK i hi
    by_cases hit:i=t
    · subst hit;exact (vC e1).2 (Int.dvd_mul_of_dvd_right (hK i hi))
    · exact (vC (e2 i hi hit)).2 (Int.dvd_add (Int.dvd_mul_of_dvd_right (hK i hi)) (Int.dvd_mul_of_dvd_right (hK t ht)))
  · intro hK
    have ha:p∣dot n (a t) v:=by
      rcases hp.Vj ((vC e1).1 (hK t ht)) with h|h
      · exact absurd h hf
      · exact h
    intro i hi
    by_cases hit:i=t
    · subst hit;exact ha
    · have h3:=(vC (e2 i hi hit)).1 (hK i hi)
      have h4:=Int.dvd_sub h3 (Int.dvd_mul_of_dvd_right (b:=g i) ha)
      rw [show ∀x y:Int,x+y - y=x from by intros;omega] at h4
      rcases hp.Vj h4 with h|h
      · exact absurd h (hy i hi hit)
      · exact h
theorem zbD {p:Int}{n R t k:Nat}{a b:Nat→Nat→Int}(ht:t<R)(hk:k<R)(h1: ∀j,j<n→b t j=a k j)(h2: ∀j,j<n→b k j=a t j)(h3: ∀i,i<R→i≠t→i≠k→ ∀j,j<n→b i j=a i j)(v:Nat→Int):Ker p n R a v↔Ker p n R b v:=by
  constructor
  · intro h i hi
    by_cases hit:i=t
    · subst hit;rw [jr h1];exact h k hk
    · by_cases hik:i=k
      · subst hik;rw [jr h2];exact h t ht
      · rw [jr (h3 i hi hit hik)];exact h i hi
  · intro h i hi
    by_cases hit:i=t
    · subst hit;rw [←jr h2];exact h k hk
    · by_cases hik:i=k
      · subst hik;rw [←jr h1];exact h t ht
      · rw [←jr (h3 i hi hit hik)];exact h i hi
def bitsOf (P:List Nat):Nat:=setOf 8 P.contains
theorem vQ (P:List Nat)(i:Nat):(bitsOf P).testBit i=(decide (i<8)&&P.contains i):=QI _ _ _
structure Steps (p:Int)(n R:Nat)(b:Nat→Nat→Int)(s:Nat)(P:List Nat):Prop where
  len:P.length≤R
  nodup:P.Nodup
  mem: ∀x∈P,x<n∧s.testBit x=true
  diag: ∀k (hk:k<P.length),¬p∣b k P[k]
  below: ∀k (hk:k<P.length),∀i,k<i→i<R→p∣b i P[k]
  zero: ∀i,P.length≤i→i<R→ ∀c,c<n→s.testBit c=true→p∣b i c
section
variable {p:Int} {n R:Nat} {b:Nat→Nat→Int} {s:Nat} {P:List Nat}
theorem Steps.li (hp:qD p)(hn:n≤8)(h:Steps p n R b s P):li p n (Ker p n R b) (bitsOf P):=by
  intro v hv hs
  have out: ∀j,j<n→j∉P→p∣v j:=fun j hj hjP=>hs j hj (by rw [vQ];simp [hjP])
  have key: ∀m k (hk:k<P.length),k+m+1=P.length→p∣v P[k]:=by
    intro m
    induction m using Nat.strongRecOn with
    |_ m ih=>
      intro k hk hm
      have h1:=hv k (Nat.lt_of_lt_of_le hk h.len)
      have hkn:=(h.mem P[k] (List.getElem_mem hk)).1
      have h2:=QZ (p:=p) hkn (b k) v fun j hj hjk=>by
        by_cases hjP:j∈P
        · obtain ⟨i,hi,rfl⟩:=List.getElem_of_mem hjP
          rcases Nat.lt_trichotomy i k with hik|hik|hik
          · exact Int.dvd_mul_of_dvd_left (h.below i hi k hik (Nat.lt_of_lt_of_le hk h.len))
          · subst hik;exact absurd rfl hjk
          · exact Int.dvd_mul_of_dvd_right (ih (P.length - i - 1) (by omega) i hi (by omega))
        · exact Int.dvd_mul_of_dvd_right (out j hj hjP)
      have h3:=(vC h2).1 h1
      rcases hp.Vj h3 with h4|h4
      · exact absurd h4 (h.diag k hk)
      · exact h4
  intro j hj
  by_cases hjP:j∈P
  · obtain ⟨i,hi,rfl⟩:=List.getElem_of_mem hjP
    exact key (P.length - i - 1) i hi (by omega)
  · exact out j hj hjP
theorem Steps.Js (hp:qD p)(hn:n≤8)(h:Steps p n R b s P){e:Nat}(he:e<n)(hes:s.testBit e=true)(heP:e∉P): ¬Mt.li p n (Ker p n R b) (ins (bitsOf P) e):=by
  have key: ∀m,m≤P.length→ ∃v:Nat→Int,v e=1∧(∀j,j<n→j≠e→(∀i (hi:i<P.length),P.length - m≤i→P[i]≠j)→v j=0)∧ ∀i,P.length - m≤i→i<R→p∣dot n (b i) v:=by
    intro m
    induction m with
    |zero=>
      intro _
      refine ⟨fun j=>if j=e then 1 else 0,if_pos rfl,fun j _ hje _=>if_neg hje,fun i hi hiR=> ?_⟩
      have h2:=QZ (p:=p) he (b i) (fun j=>if j=e then 1 else 0) fun j hj hje=>by
        show p∣b i j*(if j=e then 1 else 0)
        rw [if_neg hje];simp
      rw [vC h2]
      exact Int.dvd_mul_of_dvd_left (h.zero i (by omega) hiR e he hes)
    |succ m ih=>
      intro hm
      obtain ⟨v,hve,hv0,hvK⟩:=ih (by omega)
      have hk:P.length - (m+1)<P.length:=by omega
      obtain ⟨k,hkdef⟩: ∃k,k=P.length - (m+1):=⟨_,rfl⟩
      have hkP:k<P.length:=by omega
      have hkn:=(h.mem P[k] (List.getElem_mem hkP)).1
      have hke:P[k]≠e:=fun hh=>heP (hh ▸List.getElem_mem hkP)
      obtain ⟨z,hz⟩:=hp.inv (h.diag k hkP)
      have hvk:v P[k]=0:=hv0 P[k] hkn hke fun i hi hik hh=>by
        have:=(List.getElem_inj h.nodup).1 hh;omega
      let w:Nat→Int:=fun j=>if j=P[k] then 1 else 0
      have hw: ∀i,dot n (b i) w=b i P[k]:=fun i=>by
        have h2:=QZ (p:=0) hkn (b i) w fun j hj hjk=>by
          show (0:Int)∣b i j*(if j=P[k] then 1 else 0)
          rw [if_neg hjk];simp
        have h3:=Int.zero_dvd.1 h2
        have h4:w P[k]=1:=if_pos rfl
        rw [h4] at h3;omega
      refine ⟨fun j=>v j+ -(z*dot n (b k) v)*w j,?_,fun j hj hje hjP=> ?_,fun i hi hiR=> ?_⟩
      · show v e+_*(if e=P[k] then 1 else 0)=1
        rw [if_neg (Ne.symm hke),hve];omega
      · show v j+_*(if j=P[k] then 1 else 0)=0
        rw [if_neg (fun hh=>hjP k hkP (by omega) hh.symm),hv0 j hj hje fun i hi hik=>hjP i hi (by omega)];omega
      · rw [vW,hw]
        by_cases hik:i=k
        · subst hik
          have:=Int.dvd_mul_of_dvd_right (b:= -(dot n (b i) v)) hz
          rw [show ∀d c z:Int,-d*(c*z - 1)=d+ -(z*d)*c from by intro d c z;rw [Int.mul_sub,Int.neg_mul,Int.neg_mul,Int.neg_mul,Int.mul_comm z d,Int.mul_assoc,Int.mul_comm z c];omega] at this
          exact this
        · exact Int.dvd_add (hvK i (by omega) hiR) (Int.dvd_mul_of_dvd_right (h.below k hkP i (by omega) hiR))
  obtain ⟨v,hve,hv0,hvK⟩:=key P.length (Nat.le_refl _)
  refine (zbw hp hn b).Js he (fun i hi=>hvK i (by omega) hi) (fun j hj hjs=> ?_) (by
    rw [hve];intro hh;have:=hp.pos;have:=Int.le_of_dvd (by decide) hh;omega)
  rw [qu,vQ] at hjs
  have h1:=Bool.or_eq_false_iff.1 hjs
  have h2:j∉P:=fun hh=>by
    have:=h1.1;simp [hh] at this;omega
  rw [hv0 j hj (fun hh=>by rw [hh] at h1;simp at h1) fun i hi _ hh=>h2 (hh ▸List.getElem_mem hi)]
  exact Int.dvd_zero p
theorem Yz (hn:P.Nodup)(h8: ∀x∈P,x<8):cnt (bitsOf P)=P.length:=by
  have h1:cnt (bitsOf P)=(List.range 8).countP P.contains:=by
    unfold cnt;refine List.countP_congr fun i hi=> ?_
    rw [vQ,decide_eq_true (List.mem_range.1 hi)];simp
  rw [h1]
  have key: ∀(l:List Nat),l.Nodup→(∀x∈P,x∈l)→l.countP P.contains=P.length:=by
    induction P with
    |nil=>
      intro l _ _
      rw [List.length_nil,List.countP_eq_zero];intro a _;simp
    |cons x P ih=>
      intro l hl hm
      rw [List.nodup_cons] at hn
      have hx:x∈l:=hm x (by simp)
      obtain ⟨l1,l2,rfl⟩:=List.append_of_mem hx
      have hl':(l1++l2).Nodup∧x∉l1++l2:=by
        have:(x::(l1++l2)).Nodup:=(List.perm_middle.nodup_iff).1 hl
        rw [List.nodup_cons] at this;exact ⟨this.2,this.1⟩
      have h2:=ih hn.2 (fun y hy=>h8 y (by simp [hy])) (by
        unfold cnt;refine List.countP_congr fun i hi=> ?_
        rw [vQ,decide_eq_true (List.mem_range.1 hi)];simp) (l1++l2) hl'.1 fun y hy=>by
          have:=hm y (by simp [hy])
          rw [List.mem_append,List.mem_cons] at this
          rw [List.mem_append]
          rcases this with h|h|h
          · exact .inl h
          · subst h;exact absurd hy hn.1
          · exact .inr h
      rw [List.countP_append,List.countP_cons]
      have h3: ∀l:List Nat,x∉l→l.countP (x::P).contains=l.countP P.contains:=fun l hxl=>List.countP_congr fun y hy=>by
        have:y≠x:=fun h=>hxl (h ▸hy)
        simp [this]
      have h4:=hl'.2
      rw [List.mem_append,not_or] at h4
      rw [h3 l1 h4.1,h3 l2 h4.2]
      rw [List.countP_append] at h2
      simp
      omega
  exact key (List.range 8) List.nodup_range fun x hx=>List.mem_range.2 (h8 x hx)
theorem Steps.rk (hp:qD p)(hn:n≤8)(hs:s<2 ^n)(h:Steps p n R b s P):rk (linB p n (Ker p n R b)) s=P.length:=by
  have h8: ∀x∈P,x<8:=fun x hx=>Nat.lt_of_lt_of_le (h.mem x hx).1 hn
  rw [←Yz h.nodup h8]
  refine (zbw hp hn b).rk hs (fun i hi=> ?_) (h.li hp hn) fun e he heP=> ?_
  · rw [vQ] at hi;simp at hi;exact (h.mem i hi.2).2
  · refine h.Js hp hn (vz hs he) he fun hh=> ?_
    rw [vQ] at heP;simp [hh,h8 e hh] at heP
end
end Mt
end
section
namespace L
open Mt
structure PS (p:Int)(n R:Nat)(a:Tab)(s j:Nat)(M:Tab)(P:List Nat):Prop where
  len:P.length≤R
  nodup:P.Nodup
  mem: ∀x∈P,x<j∧s.testBit x=true
  diag: ∀k (hk:k<P.length),¬p∣M k P[k]
  below: ∀k (hk:k<P.length),∀i,k<i→i<R→p∣M i P[k]
  zero: ∀i,P.length≤i→i<R→ ∀c,c<j→s.testBit c=true→p∣M i c
  ker: ∀v,Ker p n R a v↔Ker p n R M v
section
variable {p:Int} {n R s j:Nat} {a M:Tab} {P:List Nat}
theorem PS.start:PS p n R a s 0 a [] where
  len:=Nat.zero_le _
  nodup:=List.nodup_nil
  mem:=fun x hx=>by cases hx
  diag:=fun k hk=>by cases hk
  below:=fun k hk=>by cases hk
  zero:=fun i _ _ c hc=>absurd hc (Nat.not_lt_zero c)
  ker:=fun v=>Iff.rfl
theorem PS.skip (h:PS p n R a s j M P)(hz:s.testBit j=true→ ∀i,P.length≤i→i<R→p∣M i j):PS p n R a s (j+1) M P:=
  {h with
    mem:=fun x hx=>⟨by have:=(h.mem x hx).1;omega,(h.mem x hx).2⟩
    zero:=fun i h1 h2 c hc hs=>by
      rcases Nat.lt_or_ge c j with h3|h3
      · exact h.zero i h1 h2 c h3 hs
      · obtain rfl:c=j:=by omega
        exact hz hs i h1 h2}
theorem jC (t b:Nat)(M:Tab)(i c:Nat):z1 (qH t b) M i c=if i=b then M t c else if i=t then M b c else M i c:=rfl
theorem PS.swap (h:PS p n R a s j M P){b:Nat}(h1:P.length≤b)(h2:b<R):PS p n R a s j (z1 (qH P.length b) M) P:=by
  have hrow: ∀i c,i<P.length→z1 (qH P.length b) M i c=M i c:=fun i c hi=>by rw [jC,if_neg (by omega),if_neg (by omega)]
  have hge: ∀c,(∀i,P.length≤i→i<R→p∣M i c)→ ∀i,P.length≤i→i<R→p∣z1 (qH P.length b) M i c:=fun c hc i hi hiR=>by
    rw [jC]
    split
    · exact hc _ (Nat.le_refl _) (by omega)
    · split
      · exact hc _ h1 h2
      · exact hc _ hi hiR
  refine {h with diag:=fun k hk=>by rw [hrow k _ hk];exact h.diag k hk,below:=fun k hk i hki hiR=> ?_,zero:=fun i hi hiR c hc hs=>hge c (fun i hi hiR=>h.zero i hi hiR c hc hs) i hi hiR,ker:=fun v=>(h.ker v).trans ?_}
  · rcases Nat.lt_or_ge i P.length with h3|h3
    · rw [hrow i _ h3];exact h.below k hk i hki hiR
    · exact hge _ (fun i' hi' hiR'=>h.below k hk i' (by omega) hiR') i h3 hiR
  · by_cases hb:b=P.length
    · subst hb
      have:z1 (qH P.length P.length) M=M:=by
        funext i c;rw [jC];by_cases e:i=P.length
        · subst e;simp
        · simp [e]
      rw [this]
    · refine zbD (t:=P.length) (k:=b) (by omega) h2 (fun c _=> ?_) (fun c _=> ?_) (fun i hi hit hib c _=> ?_) v
      · rw [jC,if_neg (Ne.symm hb),if_pos rfl]
      · rw [jC,if_pos rfl]
      · rw [jC,if_neg hib,if_neg hit]
theorem VP {p x y:Int}(h:p∣x - y)(hy:p∣y):p∣x:=(vC h).2 hy
theorem Q4 {p x y:Int}(h:p∣x - y)(hy: ¬p∣y): ¬p∣x:=fun hx=>hy ((vC h).1 hx)
theorem Yb {p x y u v:Int}(hx:p∣x)(hy:p∣y):p∣u*x+v*y:=Int.dvd_add (Int.dvd_mul_of_dvd_right hx) (Int.dvd_mul_of_dvd_right hy)
theorem PS.row (hp:qD p)(h:PS p n R a s j M P)(hj:j<n)(hs:s.testBit j=true)(ht:P.length<R)(hx: ¬p∣M P.length j){M':Tab}(f:Int)(hf: ¬p∣f)(y:Nat→Int)(hy: ∀i,i<R→i≠P.length→ ¬p∣y i)(g:Nat→Int)
    (h1: ∀c,c<n→p∣M' P.length c - f*M P.length c) (h2: ∀i,i<R→i≠P.length→ ∀c,c<n→p∣M' i c - (y i*M i c+g i*M P.length c)) (h3: ∀i,P.length<i→i<R→p∣M' i j):
    PS p n R a s (j+1) M' (P++[j]):=by
  have hm: ∀k (hk:k<P.length),P[k]<n:=fun k hk=>by have:=(h.mem _ (List.getElem_mem hk)).1;omega
  have hcol: ∀c,c<n→ ∀k,(∀i,k<i→i<R→p∣M i c)→ ∀i,k<i→i<R→k<P.length→p∣M' i c:=fun c hc k hk i hi hiR hkt=>by
    by_cases hit:i=P.length
    · subst hit;exact VP (h1 c hc) (Int.dvd_mul_of_dvd_right (hk _ hi hiR))
    · exact VP (h2 i hiR hit c hc) (Yb (hk i hi hiR) (hk _ hkt ht))
  have hmul: ∀ {x y:Int},¬p∣x→ ¬p∣y→ ¬p∣x*y:=fun hx hy hxy=>(hp.Vj hxy).elim hx hy
  refine {len:= ?_,nodup:= ?_,mem:= ?_,diag:= ?_,below:= ?_,zero:= ?_,ker:= ?_}
  · rw [List.length_append];exact ht
  · rw [List.nodup_append]
    refine ⟨h.nodup,List.nodup_cons.2 ⟨by simp,List.nodup_nil⟩,fun x hx y hy=> ?_⟩
    rw [List.mem_singleton] at hy
    have:=(h.mem x hx).1
    omega
  · intro x hx
    rcases List.mem_append.1 hx with hx|hx
    · exact ⟨by have:=(h.mem x hx).1;omega,(h.mem x hx).2⟩
    · rw [List.mem_singleton] at hx;subst hx;exact ⟨by omega,hs⟩
  · intro k hk
    rw [List.length_append,List.length_singleton] at hk
    by_cases c:k<P.length
    · rw [List.getElem_append_left c]
      refine Q4 (h2 k (by omega) (by omega) _ (hm k c)) fun hd=> ?_
      have h4:p∣g k*M P.length P[k]:=Int.dvd_mul_of_dvd_right (h.below k c _ c ht)
      have h5:=Int.dvd_sub hd h4
      rw [Int.add_sub_cancel] at h5
      exact hmul (hy k (by omega) (by omega)) (h.diag k c) h5
    · obtain rfl:k=P.length:=by omega
      rw [List.getElem_append_right (Nat.le_refl _)]
      simp only [Nat.sub_self,List.getElem_singleton]
      exact Q4 (h1 j hj) (hmul hf hx)
  · intro k hk i hki hiR
    rw [List.length_append,List.length_singleton] at hk
    by_cases c:k<P.length
    · rw [List.getElem_append_left c]
      exact hcol _ (hm k c) k (h.below k c) i hki hiR c
    · obtain rfl:k=P.length:=by omega
      rw [List.getElem_append_right (Nat.le_refl _)]
      simp only [Nat.sub_self,List.getElem_singleton]
      exact h3 i hki hiR
  · intro i hi hiR c hc hsc
    rw [List.length_append,List.length_singleton] at hi
    rcases Nat.lt_or_ge c j with h4|h4
    · exact VP (h2 i hiR (by omega) c (by omega)) (Yb (h.zero i (by omega) hiR c h4 hsc) (h.zero _ (Nat.le_refl _) ht c h4 hsc))
    · obtain rfl:c=j:=by omega
      exact h3 i (by omega) hiR
  · intro v
    exact (h.ker v).trans (zbN hp ht f hf y hy g h1 h2 v)
theorem PS.done (h:PS p n R a s n M P):Mt.Steps p n R M s P:=
  ⟨h.len,h.nodup,h.mem,h.diag,h.below,fun i h1 h2 c hc hs=>h.zero i h1 h2 c hc hs⟩
theorem PS.rk (hp:qD p)(hn:n≤8)(hs:s<2 ^n)(h:PS p n R a s n M P):rk (linB p n (Ker p n R a)) s=P.length:=by
  rw [show Ker p n R a=Ker p n R M from funext fun v=>propext (h.ker v)]
  exact h.done.rk hp hn hs
theorem Jv {x:Int}(h0:x≠0)(h1:0≤x∧x<p): ¬p∣x:=fun h=>by
  have:=Int.le_of_dvd (by omega) h;omega
theorem yv (x p:Int):p∣Int.tmod x p - x:=by
  have:=Int.mul_tdiv_add_tmod x p
  exact ⟨-(x.tdiv p),by rw [Int.mul_neg];omega⟩
end
theorem QS (p:Int)(t col:Nat)(M:Tab): ∀m,(List.range m).foldl (ja p t col) M=fun i c=>if i<m∧i≠t then Int.tmod (M i c+(p - M i col)*M t c) p else M i c
  |0=>by funext i c;simp
  |m+1=>by
    rw [List.range_succ,List.foldl_append,QS p t col M m]
    funext i c
    show ja p t col _ m i c=_
    unfold ja
    by_cases h1:m=t
    · subst h1
      rw [if_pos rfl]
      by_cases h2:i<m∧i≠m
      · rw [if_pos h2,if_pos ⟨by omega,h2.2⟩]
      · rw [if_neg h2,if_neg (by omega)]
    · rw [if_neg h1]
      show (Qq p t m _ (fun i=>_) i)=_
      unfold Qq
      by_cases h2:i=m
      · subst h2
        simp [h1]
      · rw [if_neg h2]
        show (if i<m∧i≠t then Int.tmod (M i c+(p - M i col)*M t c) p else M i c)=_
        by_cases h3:i<m∧i≠t
        · rw [if_pos h3,if_pos ⟨by omega,h3.2⟩]
        · rw [if_neg h3,if_neg (by omega)]
theorem jV (p:Int)(R t col:Nat)(M:Tab)(i c:Nat)(hi:i<R):ju p R t col M i c=
    if i=t then Int.tmod (M t c*jO p (M t col)) p else Int.tmod (M i c+(p - M i col)*Int.tmod (M t c*jO p (M t col)) p) p:=by
  unfold ju yA
  rw [QS]
  by_cases h:i=t
  · subst h;simp [z1,vn]
  · simp [hi,h,z1,vn]
theorem zb0: ∀p∈[2,3,5,7],∀a∈List.range 7,1≤a→a<p→(p:Int)∣(a:Int)*jO p a - 1:=by decide
theorem Ju {p a:Int}(hp:qD p)(ha:1≤a)(hap:a<p):p∣a*jO p a - 1:=by
  obtain ⟨q,rfl,hq⟩:=hp.nat
  obtain ⟨b,rfl⟩:=Int.eq_ofNat_of_zero_le (show 0≤a by omega)
  have hq7:q≤7:=by simp at hq;omega
  exact zb0 q hq b (List.mem_range.2 (by omega)) (by omega) (by omega)
section
variable {p:Int} {n R s j:Nat} {a M:Tab} {P:List Nat}
theorem PS.pivot (hp:qD p)(h:PS p n R a s j M P)(hj:j<n)(hs:s.testBit j=true)(ht:P.length<R)(hM:InF p R n M)(hx:M P.length j≠0):PS p n R a s (j+1) (ju p R P.length j M) (P++[j]):=by
  have hv:=hM _ j ht hj
  have hinv:=Ju hp (show 1≤M P.length j by omega) hv.2
  have hpp:=hp.pos
  have hf: ¬p∣jO p (M P.length j):=fun hd=>by
    have h1:p∣M P.length j*jO p (M P.length j):=Int.dvd_mul_of_dvd_right hd
    have h2:=Int.dvd_sub h1 hinv
    rw [show ∀x:Int,x - (x - 1)=1 from by intro x;omega] at h2
    have:=Int.le_of_dvd (by omega) h2
    omega
  refine h.row hp hj hs ht (Jv hx hv) (jO p (M P.length j)) hf (fun _=>1) (fun i _ _ hd=>by have:=Int.le_of_dvd (by omega) hd;omega) (fun i=>(p - M i j)*jO p (M P.length j)) (fun c hc=> ?_) (fun i hi hit c hc=> ?_) (fun i hti hi=> ?_)
  · rw [jV _ _ _ _ _ _ _ ht,if_pos rfl,Int.mul_comm];exact yv _ _
  · rw [jV _ _ _ _ _ _ _ hi,if_neg hit]
    have h1:=yv (M i c+(p - M i j)*Int.tmod (M P.length c*jO p (M P.length j)) p) p
    have h2:p∣(p - M i j)*(Int.tmod (M P.length c*jO p (M P.length j)) p - M P.length c*jO p (M P.length j)):=Int.dvd_mul_of_dvd_right (yv _ _)
    have h3:=Int.dvd_add h1 h2
    refine (show ∀x y:Int,x=y→p∣x→p∣y from fun x y e h=>e ▸h) _ _ ?_ h3
    rw [Int.mul_sub,Int.mul_assoc,Int.mul_comm (jO p (M P.length j)) (M P.length c)]
    omega
  · rw [jV _ _ _ _ _ _ _ hi,if_neg (by omega)]
    refine VP (yv _ _) ?_
    have h2:p∣(p - M i j)*(Int.tmod (M P.length j*jO p (M P.length j)) p - M P.length j*jO p (M P.length j)):=Int.dvd_mul_of_dvd_right (yv _ _)
    have h4:p∣(p - M i j)*(M P.length j*jO p (M P.length j) - 1):=Int.dvd_mul_of_dvd_right hinv
    have h5:=Int.dvd_add (Int.dvd_add h2 h4) (Int.dvd_refl p)
    refine (show ∀x y:Int,x=y→p∣x→p∣y from fun x y e h=>e ▸h) _ _ ?_ h5
    rw [Int.mul_sub,Int.mul_sub,Int.mul_one]
    omega
theorem PS.red (hp:qD p){st:Red}(h:PS p n R a s j st.M P)(ht:P.length=st.t)(hj:j<n)(hs:s.testBit j=true)(hM:InF p R n st.M):
    ∃P',P'.length=(zK p R st j).t∧PS p n R a s (j+1) (zK p R st j).M P'∧(zK p R st j).M=(zK p R st j).M:=by
  obtain ⟨h1,h2,h3,h4⟩:=jb st.M R j (R - st.t) st.t (by have:=h.len;omega)
  by_cases c:zP st.M R st.t j<R
  · have he:zK p R st j=⟨st.t+1,ju p R st.t j (z1 (qH st.t (zP st.M R st.t j)) st.M),st.ps++[(j:Int)]⟩:=by unfold zK;rw [if_pos c]
    rw [he]
    rw [←ht] at h1 ⊢
    rw [←ht] at c h3
    have hsw:=h.swap (b:=zP st.M R P.length j) h1 c
    refine ⟨P++[j],by rw [List.length_append];rfl,hsw.pivot hp hj hs (by omega) (hM.swap (by omega) c) ?_,rfl⟩
    rw [jC]
    by_cases c2:P.length=zP st.M R P.length j
    · rw [if_pos c2];rw [←c2] at h3;exact h3 (by omega)
    · rw [if_neg c2,if_pos rfl];exact h3 c
  · have he:zK p R st j=st:=by unfold zK;rw [if_neg c]
    rw [he]
    exact ⟨P,ht,h.skip fun _ i hi hiR=>by rw [h4 i (by omega) (by omega)];exact Int.dvd_zero p,rfl⟩
end
def V1 (p:Int)(t i0:Nat)(x y:Int)(f:Nat→Int)(i:Nat):Int:=if i=i0 then Int.tmod (Int.tmod (f i0*y - f t*x) p+p) p else f i
def vH (p:Int)(t col:Nat)(M:Tab)(i:Nat):Tab:=z1 (V1 p t i (M i col) (M t col)) M
def yR (p:Int)(t col R:Nat)(M:Tab):Tab:=(List.range' (t+1) (R - (t+1))).foldl (vH p t col) M
def vX (p:Int)(R:Nat)(st:Nat×Tab)(j:Nat):Nat×Tab:=
  if zP st.2 R st.1 j<R then (st.1+1,yR p st.1 j R (z1 (qH (zP st.2 R st.1 j) st.1) st.2)) else st
theorem YV (a b:Nat):qH a b=qH b a:=by
  funext f i
  unfold qH
  by_cases h1:i=a
  · by_cases h2:i=b
    · subst h1;subst h2;rfl
    · simp [h1,h2]
      intro h;rw [h]
  · by_cases h2:i=b
    · simp [h1,h2]
      intro h;rw [h]
    · simp [h1,h2]
theorem Jy (p:Int)(t col:Nat)(M:Tab): ∀m,(List.range' (t+1) m).foldl (vH p t col) M=fun i c=>if t<i∧i<t+1+m then Int.tmod (Int.tmod (M i c*M t col - M t c*M i col) p+p) p else M i c
  |0=>by
    funext i c
    rw [if_neg (by omega)];rfl
  |m+1=>by
    rw [List.range'_concat,List.foldl_append,Jy p t col M m,List.foldl_cons,List.foldl_nil]
    funext i c
    unfold vH z1
    unfold V1
    by_cases h2:i=t+1+1*m
    · subst h2
      have e1: ¬(t<t+1+1*m∧t+1+1*m<t+1+m):=by omega
      have e2: ¬(t<t∧t<t+1+m):=by omega
      have e3:t<t+1+1*m∧t+1+1*m<t+1+(m+1):=by omega
      simp only [if_neg e1,if_neg e2,if_pos e3,if_true]
    · rw [if_neg h2]
      show (if t<i∧i<t+1+m then Int.tmod (Int.tmod (M i c*M t col - M t c*M i col) p+p) p else M i c)=_
      by_cases h3:t<i∧i<t+1+m
      · rw [if_pos h3,if_pos ⟨by omega,by omega⟩]
      · rw [if_neg h3,if_neg (by omega)]
theorem ZN (p:Int){t R:Nat}(col:Nat)(M:Tab)(ht:t<R)(i c:Nat):yR p t col R M i c=if t<i∧i<R then Int.tmod (Int.tmod (M i c*M t col - M t c*M i col) p+p) p else M i c:=by
  unfold yR
  rw [Jy,show t+1+(R - (t+1))=R by omega]
theorem Y4 (v:Int){p:Int}(hp:0<p): -p<Int.tmod v p:=by
  have:=Int.tmod_lt_of_pos (-v) hp
  rw [Int.neg_tmod] at this
  omega
theorem zby (v:Int){p:Int}(hp:2≤p):0≤Int.tmod (Int.tmod v p+p) p∧Int.tmod (Int.tmod v p+p) p<p:=by
  have:=Y4 v (show 0<p by omega)
  exact VQ (by omega) hp
theorem Y5 (v p:Int):p∣Int.tmod (Int.tmod v p+p) p - v:=by
  have h1:=yv (Int.tmod v p+p) p
  have h2:=yv v p
  have h3:=Int.dvd_add (Int.dvd_add h1 h2) (Int.dvd_refl p)
  refine (show ∀x y:Int,x=y→p∣x→p∣y from fun x y e h=>e ▸h) _ _ ?_ h3
  omega
section
variable {p:Int} {n R s j:Nat} {a M:Tab} {P:List Nat}
theorem InF.vH (h:InF p R n M)(hp:2≤p){t col i:Nat}:InF p R n (vH p t col M i):=fun i' c hi hc=>by
  unfold L.vH z1 V1
  split
  · exact zby _ hp
  · exact h i' c hi hc
theorem InF.zah (hp:2≤p){t col:Nat}: ∀(l:List Nat) {M:Tab},InF p R n M→InF p R n (l.foldl (L.vH p t col) M)
  | [],_,h=>h
  |i::l,_,h=>InF.zah hp l (h.vH hp)
theorem InF.yR (h:InF p R n M)(hp:2≤p){t col:Nat}:InF p R n (yR p t col R M):=InF.zah hp _ h
theorem PS.fwd (hp:qD p)(h:PS p n R a s j M P)(hj:j<n)(hs:s.testBit j=true)(ht:P.length<R)(hM:InF p R n M)(hx:M P.length j≠0):PS p n R a s (j+1) (yR p P.length j R M) (P++[j]):=by
  have hv:=hM _ j ht hj
  have hpp:=hp.pos
  have h1p: ¬p∣1:=fun hd=>by have:=Int.le_of_dvd (by omega) hd;omega
  have hd:=Jv hx hv
  refine h.row hp hj hs ht hd 1 h1p (fun i=>if P.length<i then M P.length j else 1) (fun i _ _=>by show ¬p∣if _ then _ else _;split<;>assumption) (fun i=>if P.length<i then - M i j else 0) (fun c hc=> ?_) (fun i hi hit c hc=> ?_) (fun i hti hi=> ?_)
  · rw [ZN _ _ _ ht,if_neg (by omega),Int.one_mul,Int.sub_self];exact Int.dvd_zero p
  · rw [ZN _ _ _ ht]
    by_cases c1:P.length<i
    · rw [if_pos (show P.length<i∧i<R from ⟨c1,hi⟩)]
      simp only [c1,if_true]
      have h2:=Y5 (M i c*M P.length j - M P.length c*M i j) p
      refine (show ∀x y:Int,x=y→p∣x→p∣y from fun x y e h=>e ▸h) _ _ ?_ h2
      rw [Int.neg_mul,Int.mul_comm (M i c),Int.mul_comm (M P.length c)]
      omega
    · rw [if_neg (show ¬(P.length<i∧i<R) by omega)]
      simp only [c1,if_false]
      rw [Int.one_mul,Int.zero_mul,Int.add_zero,Int.sub_self]
      exact Int.dvd_zero p
  · rw [ZN _ _ _ ht,if_pos (show P.length<i∧i<R from ⟨hti,hi⟩)]
    have h2:=Y5 (M i j*M P.length j - M P.length j*M i j) p
    rw [Int.mul_comm (M i j),Int.sub_self,Int.sub_zero] at h2
    rwa [Int.mul_comm (M i j),Int.sub_self]
theorem PS.vX (hp:qD p){st:Nat×Tab}(h:PS p n R a s j st.2 P)(ht:P.length=st.1)(hj:j<n)(hs:s.testBit j=true)(hM:InF p R n st.2):
    ∃P',P'.length=(L.vX p R st j).1∧PS p n R a s (j+1) (L.vX p R st j).2 P'∧InF p R n (L.vX p R st j).2:=by
  obtain ⟨h1,h2,h3,h4⟩:=jb st.2 R j (R - st.1) st.1 (by have:=h.len;omega)
  by_cases c:zP st.2 R st.1 j<R
  · have he:L.vX p R st j=(st.1+1,yR p st.1 j R (z1 (qH (zP st.2 R st.1 j) st.1) st.2)):=by unfold L.vX;rw [if_pos c]
    rw [he,YV]
    rw [←ht] at h1 ⊢
    rw [←ht] at c h3
    have hsw:=h.swap (b:=zP st.2 R P.length j) h1 c
    have hin:=hM.swap (a:=P.length) (b:=zP st.2 R P.length j) (by omega) c
    refine ⟨P++[j],by rw [List.length_append];rfl,hsw.fwd hp hj hs (by omega) hin ?_,hin.yR hp.pos.1⟩
    rw [jC]
    by_cases c2:P.length=zP st.2 R P.length j
    · rw [if_pos c2];rw [←c2] at h3;exact h3 (by omega)
    · rw [if_neg c2,if_pos rfl];exact h3 c
  · have he:L.vX p R st j=st:=by unfold L.vX;rw [if_neg c]
    rw [he]
    exact ⟨P,ht,h.skip fun _ i hi hiR=>by rw [h4 i (by omega) (by omega)];exact Int.dvd_zero p,hM⟩
def yD (p:Int)(R s:Nat)(M:Tab)(n:Nat):Nat×Tab:=(List.range n).foldl (fun st j=>if s.testBit j=true then L.vX p R st j else st) (0,M)
def vv (p:Int)(R s:Nat)(M:Tab)(n:Nat):Red:=(List.range n).foldl (fun st j=>if s.testBit j=true then zK p R st j else st) ⟨0,M,[]⟩
theorem Vg (hp:qD p)(hM:InF p R n M): ∀m,m≤n→ ∃P,P.length=(yD p R s M m).1∧PS p n R M s m (yD p R s M m).2 P∧InF p R n (yD p R s M m).2
  |0,_=>⟨[],rfl,PS.start,hM⟩
  |m+1,hm=>by
    obtain ⟨P,h1,h2,h3⟩:=Vg hp hM m (by omega)
    have e:yD p R s M (m+1)=if s.testBit m=true then L.vX p R (yD p R s M m) m else yD p R s M m:=by unfold yD;rw [List.range_succ,List.foldl_append];rfl
    rw [e]
    by_cases c:s.testBit m=true
    · rw [if_pos c];exact h2.vX hp h1 (by omega) c h3
    · rw [if_neg c];exact ⟨P,h1,h2.skip fun h=>absurd h c,h3⟩
theorem QH (hp:qD p)(hM:InF p R n M): ∀m,m≤n→ ∃P,P.length=(vv p R s M m).t∧PS p n R M s m (vv p R s M m).M P∧InF p R n (vv p R s M m).M
  |0,_=>⟨[],rfl,PS.start,hM⟩
  |m+1,hm=>by
    obtain ⟨P,h1,h2,h3⟩:=QH hp hM m (by omega)
    have e:vv p R s M (m+1)=if s.testBit m=true then zK p R (vv p R s M m) m else vv p R s M m:=by unfold vv;rw [List.range_succ,List.foldl_append];rfl
    rw [e]
    by_cases c:s.testBit m=true
    · rw [if_pos c]
      obtain ⟨P',g1,g2,_⟩:=h2.red hp h1 (by omega) c h3
      refine ⟨P',g1,g2,?_⟩
      unfold zK
      split
      · rename_i hlt
        have hle:=h2.len
        obtain ⟨f1,_,_,_⟩:=jb (vv p R s M m).M R m (R - (vv p R s M m).t) (vv p R s M m).t (by omega)
        exact (h3.swap (by omega) hlt).pivot hp.pos.1 (by omega) (by omega)
      · exact h3
    · rw [if_neg c];exact ⟨P,h1,h2.skip fun h=>absurd h c,h3⟩
theorem YJ (hp:qD p)(hn:n≤8)(hs:s<2 ^n)(hM:InF p R n M):(yD p R s M n).1=rk (linB p n (Ker p n R M)) s:=by
  obtain ⟨P,h1,h2,_⟩:=Vg (s:=s) hp hM n (Nat.le_refl n)
  rw [h2.rk hp hn hs,h1]
theorem zdp (hp:qD p)(hn:n≤8)(hs:s<2 ^n)(hM:InF p R n M):(vv p R s M n).t=rk (linB p n (Ker p n R M)) s:=by
  obtain ⟨P,h1,h2,_⟩:=QH (s:=s) hp hM n (Nat.le_refl n)
  rw [h2.rk hp hn hs,h1]
end
def vO (es:List Nat)(M:Tab):Tab:=fun i q=>M i (es.getD q 0)
theorem Jj (es:List Nat)(p:Int)(t q:Nat): ∀(l:List Nat) (X:Tab),l.foldl (ja p t q) (vO es X)=vO es (l.foldl (ja p t (es.getD q 0)) X)
  | [],_=>rfl
  |i::l,X=>by
    rw [List.foldl_cons,List.foldl_cons,←Jj es p t q l]
    congr 1
    unfold ja
    split
    · rfl
    · rfl
theorem Yw (es:List Nat)(p:Int)(R q:Nat)(A B:Red)(h1:A.t=B.t)(h2:A.M=vO es B.M):(zK p R A q).t=(zK p R B (es.getD q 0)).t∧(zK p R A q).M=vO es (zK p R B (es.getD q 0)).M:=by
  obtain ⟨ta,Ma,pa⟩:=A
  obtain ⟨tb,Mb,pb⟩:=B
  simp only at h1 h2
  subst h1
  subst h2
  have hf:zP (vO es Mb) R ta q=zP Mb R ta (es.getD q 0):=rfl
  unfold zK
  simp only [hf]
  split
  · refine ⟨rfl,?_⟩
    show ju p R ta q (vO es (z1 (qH ta (zP Mb R ta (es.getD q 0))) Mb))=vO es (ju p R ta (es.getD q 0) (z1 (qH ta (zP Mb R ta (es.getD q 0))) Mb))
    generalize z1 (qH ta (zP Mb R ta (es.getD q 0))) Mb=X
    exact Jj es p ta q (List.range R) (z1 (vn p ta (jO p (X ta (es.getD q 0)))) X)
  · exact ⟨rfl,rfl⟩
theorem Vc (es:List Nat)(p:Int)(R:Nat)(M:Tab): ∀m,m≤es.length→((List.range m).foldl (zK p R) ⟨0,vO es M,[]⟩).t=((es.take m).foldl (zK p R) ⟨0,M,[]⟩).t∧((List.range m).foldl (zK p R) ⟨0,vO es M,[]⟩).M=vO es ((es.take m).foldl (zK p R) ⟨0,M,[]⟩).M
  |0,_=>⟨rfl,rfl⟩
  |m+1,hm=>by
    obtain ⟨h1,h2⟩:=Vc es p R M m (by omega)
    rw [List.range_succ,List.foldl_append,List.take_succ_eq_append_getElem (show m<es.length by omega),List.foldl_append]
    have hg:es.getD m 0=es[m]:=by simp [List.getD_eq_getElem?_getD,show m<es.length by omega]
    have:=Yw es p R m _ _ h1 h2
    rw [hg] at this
    exact this
theorem zaG (p:Int)(R s n:Nat)(M:Tab):(vt p R ((List.range n).filter s.testBit).length (vO ((List.range n).filter s.testBit) M)).t=(vv p R s M n).t:=by
  unfold vt vv
  rw [(Vc _ p R M _ (Nat.le_refl _)).1,List.take_length,List.foldl_filter]
end L
end
section
namespace L
open Go.RowKit F Wa Wb Wc
open Bits
open Mt (sdiff jv elems zaQ)
def ints (l:List Nat):List Int:=l.map fun x:Nat=>(x:Int)
theorem zcj (l:List Nat)(j:Nat)(h:j<l.length):rd (ints l) (j:Int)=((l[j]'h:Nat):Int):=by
  simp [rd,ints,List.getElem?_eq_getElem h]
theorem ZZ (s:Nat):(elems s).length≤8:=by
  have:=List.length_filter_le s.testBit (List.range 8);simpa [elems] using this
def isAny (s:Int):Bool:=decide (0≤s∧s<256)
theorem zb7 (s:Int):jI.f s=some (isAny s):=by
  unfold jI.f isAny
  split<;>simp<;>omega
theorem zdn (x a b:Int):zZ.f x a b=some (decide (a≤x∧x≤b)):=by
  unfold zZ.f
  split<;>simp<;>omega
theorem zan (n s:Int):jD.f n s=some (decide (0≤n∧n≤8∧0≤s∧s<2 ^n.toNat)):=by
  unfold jD.f
  simp only [zdn,Option.bind_some,decide_eq_true_eq]
  split
  · rename_i h
    obtain ⟨m,rfl⟩:=Int.eq_ofNat_of_zero_le h.1
    have hm:m≤8:=by omega
    have hp:(2:Nat) ^m≤2 ^8:=Nat.pow_le_pow_right (by decide) hm
    rw [Yt (by omega) (by omega),Y6 m (by omega),if_pos (by omega)]
    rw [qh (by generalize 2 ^m=x at hp ⊢;omega) (by generalize 2 ^m=x at hp ⊢;omega)]
    simp only [Int.toNat_natCast,Option.some.injEq,decide_eq_decide]
    have:(2:Int) ^m=((2 ^m:Nat):Int):=by simp
    rw [this]
    generalize 2 ^m=x at hp ⊢
    omega
  · simp;omega
theorem Yo (n:Int):qI.f n=some (decide (0≤n∧n≤8)):=by
  unfold qI.f
  split<;>simp<;>omega
theorem zcb (n s:Int):vr.f n s=some (decide (0≤n∧n≤8∧0≤s∧s<2 ^n.toNat)):=by
  unfold vr.f
  rw [Yo]
  simp only [Option.bind_some,decide_eq_true_eq]
  by_cases h:0≤n∧n≤8
  · rw [if_pos h]
    by_cases hs:s≥0
    · rw [if_pos hs,if_pos h.1]
      obtain ⟨m,rfl⟩:=Int.eq_ofNat_of_zero_le h.1
      rw [Y6 m (by omega)]
      simp only [Int.toNat_natCast,Option.some.injEq,decide_eq_decide]
      have:(2:Int) ^m=((2 ^m:Nat):Int):=by simp
      rw [this]
      generalize 2 ^m=x
      omega
    · rw [if_neg hs];simp;omega
  · rw [if_neg h];simp;omega
theorem VH (s e:Int):jg.f s e=some (isAny s&&decide (0≤e∧e<8)&&s.toNat.testBit e.toNat):=by
  unfold jg.f
  rw [zb7]
  simp only [Option.bind_some]
  cases hs:isAny s
  · simp
  · rw [if_pos rfl]
    have hs':0≤s∧s<256:=by simpa [isAny] using hs
    by_cases h0:e≥0
    · rw [if_pos h0]
      by_cases h8:e<8
      · obtain ⟨a,rfl⟩:=Int.eq_ofNat_of_zero_le hs'.1
        obtain ⟨b,rfl⟩:=Int.eq_ofNat_of_zero_le h0
        rw [if_pos h8,if_pos h0,zad _ _ (by omega) (by omega)]
        simp;omega
      · rw [if_neg h8];simp;omega
    · rw [if_neg h0];simp;omega
def Zb (s:Int):List Nat:=if isAny s then elems s.toNat else []
theorem ZD (s:Int):(Zb s).length≤8:=by
  unfold Zb;split
  · exact ZZ _
  · simp
theorem ZM (s:Int)(L:Nat→List Int→Int→Option (List Int))
    (hL: ∀k (acc:List Int) (i:Nat),L (k+1) acc i=if (i:Int)<8 then (if (isAny s&&decide (0≤(i:Int)∧(i:Int)<8)&&s.toNat.testBit (i:Int).toNat)=true then (if acc.length<17592186044416 then L k (acc++[(i:Int)]) (wrap64 ((i:Int)+1)) else none) else L k acc (wrap64 ((i:Int)+1))) else some acc):
    ∀(d i:Nat) (acc:List Int),i+d=8→acc.length≤i→Ev (fun k=>L k acc i) (acc++ints ((List.range' i d).filter fun e=>isAny s&&s.toNat.testBit e))
  |0,i,acc,hd,_=>by
    obtain rfl:i=8:=by omega
    refine Ev.succ ?_
    simp only [hL,show ¬(((8:Nat):Int)<8) by decide,if_false]
    simpa [ints] using Ev.now acc
  |d+1,i,acc,hd,ha=>by
    refine Ev.succ ?_
    have h8:(i:Int)<8:=by omega
    have hw:wrap64 ((i:Int)+1)=((i+1:Nat):Int):=qh (by omega) (by omega)
    simp only [hL,h8,hw,if_true,Int.toNat_natCast,Int.natCast_nonneg,decide_true,Bool.and_true,and_self]
    rw [List.range'_succ]
    cases hb:(isAny s&&s.toNat.testBit i)
    · simp only [hb,List.filter_cons,Bool.false_eq_true,if_false]
      exact ZM s L hL d (i+1) acc (by omega) (by omega)
    · simp only [hb,List.filter_cons,if_true,show acc.length<17592186044416 by omega]
      have:=ZM s L hL d (i+1) (acc++[(i:Int)]) (by omega) (by simp;omega)
      simpa [ints] using this
theorem zaD (s:Int):(List.range' 0 8).filter (fun e=>isAny s&&s.toNat.testBit e)=Zb s:=by
  unfold Zb elems
  rw [List.range_eq_range']
  cases isAny s<;>simp
theorem Vt (s:Int):Ev (fun k=>qb.f k s) (ints (Zb s)):=by
  have:=ZM s (fun k acc i=>qb.l0 k s acc i) (fun k acc i=>by simp only [qb.l0,VH,Option.bind_some]) 8 0 [] rfl (by simp)
  rw [zaD] at this
  simpa [qb.f] using this
theorem Yg (s n:Nat)(hn:n≤8)(h:s<2 ^n):elems s=(List.range n).filter s.testBit:=by
  unfold elems
  obtain ⟨m,hm⟩: ∃m,8=n+m:=⟨8 - n,by omega⟩
  rw [hm,List.range_add,List.filter_append]
  have:List.filter s.testBit (List.map (fun x=>n+x) (List.range m))=[]:=by
    rw [List.filter_eq_nil_iff]
    intro a ha
    obtain ⟨b,_,rfl⟩:=List.mem_map.1 ha
    rw [Nat.testBit_lt_two_pow (Nat.lt_of_lt_of_le h (Nat.pow_le_pow_right (by decide) (by omega)))]
    simp
  rw [this,List.append_nil]
end L
end
section
namespace L
open Mt
structure RI (p:Int)(R C j:Nat)(st:Red)(P:List Nat):Prop where
  ps:st.ps=ints P
  len:P.length=st.t
  t_le:st.t≤R
  inF:InF p R C st.M
  sort:P.Pairwise (· < ·)
  lt: ∀x∈P,x<j
  zero: ∀i,st.t≤i→i<R→ ∀c,c<j→st.M i c=0
  piv: ∀i (h:i<P.length),st.M i P[i]≠0∧ ∀c,c<P[i]→st.M i c=0
theorem ZR {x p:Int}(h0:0≤x)(h1:x<p):Int.tmod x p=x:=by rw [Int.tmod_eq_emod_of_nonneg h0,Int.emod_eq_of_lt h0 h1]
theorem Q5 (p:Int)(hp:2≤p):Int.tmod p p=0:=by rw [Int.tmod_eq_emod_of_nonneg (by omega),Int.emod_self]
theorem tmod_one {x p:Int}(hp:2≤p)(h0:0≤x)(h:p∣x - 1):Int.tmod x p=1:=by
  rw [Int.tmod_eq_emod_of_nonneg h0]
  obtain ⟨k,hk⟩:=h
  rw [show x=1+p*k by omega,Int.add_mul_emod_self_left]
  exact Int.emod_eq_of_lt (by omega) (by omega)
section
variable {p:Int} {R C j:Nat} {st:Red} {P:List Nat}
theorem RI.step (hp:qD p)(h:RI p R C j st P)(hj:j<C): ∃P',RI p R C (j+1) (zK p R st j) P':=by
  have hpp:=hp.pos
  obtain ⟨f1,f2,f3,f4⟩:=jb st.M R j (R - st.t) st.t (by have:=h.t_le;omega)
  by_cases c:zP st.M R st.t j<R
  · have he:zK p R st j=⟨st.t+1,ju p R st.t j (z1 (qH st.t (zP st.M R st.t j)) st.M),st.ps++[(j:Int)]⟩:=by unfold zK;rw [if_pos c]
    rw [he]
    generalize zP st.M R st.t j=b at c f1 f3
    have htR:st.t<R:=by omega
    have hS:InF p R C (z1 (qH st.t b) st.M):=h.inF.swap htR c
    have hrow: ∀i c',i<st.t→z1 (qH st.t b) st.M i c'=st.M i c':=fun i c' hi=>by rw [jC,if_neg (by omega),if_neg (by omega)]
    have hz: ∀i,st.t≤i→i<R→ ∀c',c'<j→z1 (qH st.t b) st.M i c'=0:=fun i hi hiR c' hc'=>by
      rw [jC]
      split
      · exact h.zero _ (Nat.le_refl _) htR c' hc'
      · split
        · exact h.zero _ (by omega) c c' hc'
        · exact h.zero _ hi hiR c' hc'
    have hx:z1 (qH st.t b) st.M st.t j≠0:=by
      rw [jC]
      by_cases c2:st.t=b
      · rw [if_pos c2];subst c2;exact f3 c
      · rw [if_neg c2,if_pos rfl];exact f3 c
    have hxx:=hS st.t j htR hj
    generalize z1 (qH st.t b) st.M=S at hS hrow hz hx hxx
    have hone:Int.tmod (S st.t j*jO p (S st.t j)) p=1:=tmod_one hpp.1 (Int.mul_nonneg hxx.1 (ya _ _)) (Ju hp (by omega) hxx.2)
    have hlow: ∀i c',i<R→c'<j→ju p R st.t j S i c'=if i=st.t then 0 else S i c':=fun i c' hi hc'=>by
      rw [jV _ _ _ _ _ _ _ hi,hz st.t (Nat.le_refl _) htR c' hc',Int.zero_mul,Int.zero_tmod]
      split
      · rfl
      · have hb:=hS i c' hi (by omega)
        rw [Int.mul_zero,Int.add_zero,ZR hb.1 hb.2]
    refine ⟨P++[j],{ps:=by show st.ps++[(j:Int)]=_;rw [h.ps];simp [ints],len:=by rw [List.length_append,h.len];rfl,t_le:=htR,inF:=hS.pivot hpp.1 htR hj,sort:= ?_,lt:= ?_,zero:= ?_,piv:= ?_}⟩
    · rw [List.pairwise_append]
      exact ⟨h.sort,List.pairwise_singleton _ _,fun x hxP y hy=>by rw [List.mem_singleton] at hy;have:=h.lt x hxP;omega⟩
    · intro x hx
      rcases List.mem_append.1 hx with hx|hx
      · have:=h.lt x hx;omega
      · rw [List.mem_singleton] at hx;omega
    · intro i hi hiR c' hc'
      have hi':st.t+1≤i:=hi
      show ju p R st.t j S i c'=0
      rcases Nat.lt_or_ge c' j with h5|h5
      · rw [hlow i c' hiR h5,if_neg (by omega)];exact hz i (by omega) hiR c' h5
      · obtain rfl:c'=j:=by omega
        rw [jV _ _ _ _ _ _ _ hiR,if_neg (by omega),hone,Int.mul_one,show S i c'+(p - S i c')=p by omega]
        exact Q5 p hpp.1
    · intro i hi
      rw [List.length_append,List.length_singleton] at hi
      by_cases c3:i<P.length
      · rw [List.getElem_append_left c3]
        have hit:i<st.t:=by have:=h.len;omega
        have hlt:=h.lt P[i] (List.getElem_mem c3)
        refine ⟨?_,fun c' hc'=> ?_⟩
        · show ju p R st.t j S i P[i]≠0
          rw [hlow i _ (by omega) hlt,if_neg (by omega),hrow i _ hit];exact (h.piv i c3).1
        · show ju p R st.t j S i c'=0
          rw [hlow i _ (by omega) (by omega),if_neg (by omega),hrow i _ hit];exact (h.piv i c3).2 c' hc'
      · obtain rfl:i=P.length:=by omega
        rw [List.getElem_append_right (Nat.le_refl _)]
        simp only [Nat.sub_self,List.getElem_singleton]
        have hl:=h.len
        refine ⟨?_,fun c' hc'=> ?_⟩
        · show ju p R st.t j S P.length j≠0
          rw [hl,jV _ _ _ _ _ _ _ htR,if_pos rfl,hone];decide
        · show ju p R st.t j S P.length c'=0
          rw [hl,hlow _ _ htR hc',if_pos rfl]
  · have he:zK p R st j=st:=by unfold zK;rw [if_neg c]
    rw [he]
    have hz: ∀i,st.t≤i→i<R→ ∀c',c'<j+1→st.M i c'=0:=fun i hi hiR c' hc'=>by
      rcases Nat.lt_or_ge c' j with h5|h5
      · exact h.zero i hi hiR c' h5
      · obtain rfl:c'=j:=by omega
        exact f4 i hi (by omega)
    have hl: ∀x∈P,x<j+1:=fun x hx=>by have:=h.lt x hx;omega
    exact ⟨P,{h with lt:=hl,zero:=hz}⟩
theorem RI.run (hp:qD p){M:Tab}(hM:InF p R C M): ∀m,m≤C→ ∃P,RI p R C m ((List.range m).foldl (zK p R) ⟨0,M,[]⟩) P
  |0,_=>⟨[],{ps:=rfl,len:=rfl,t_le:=Nat.zero_le _,inF:=hM,sort:=List.Pairwise.nil,lt:=fun x hx=>(by cases hx),zero:=fun i _ _ c hc=>absurd hc (Nat.not_lt_zero c),piv:=fun i hi=>(by cases hi)}⟩
  |m+1,hm=>by
    obtain ⟨P,h⟩:=RI.run hp hM m (by omega)
    rw [List.range_succ,List.foldl_append]
    exact h.step hp (by omega)
end
theorem zba (m:Nat): ∀P:List Nat,P.Nodup→(P.filter fun x=>decide (x<m+1)).length=(P.filter fun x=>decide (x<m)).length+if m∈P then 1 else 0
  | [],_=>by simp
  |x::P,h=>by
    obtain ⟨hx,hP⟩:=List.nodup_cons.1 h
    have ih:=zba m P hP
    by_cases c1:x=m
    · subst c1
      rw [if_neg hx] at ih
      simp [List.filter_cons,ih]
    · by_cases c2:x<m
      · simp only [List.filter_cons,show x<m+1 by omega,c2,decide_true,if_true,List.length_cons,ih,List.mem_cons,Ne.symm c1,false_or]
        omega
      · simp only [List.filter_cons,show ¬x<m+1 by omega,c2,decide_false,Bool.false_eq_true,if_false,ih,List.mem_cons,Ne.symm c1,false_or]
end L
end
end Go.Proofs.YtkeobjoaimedaaaGreatDoor
