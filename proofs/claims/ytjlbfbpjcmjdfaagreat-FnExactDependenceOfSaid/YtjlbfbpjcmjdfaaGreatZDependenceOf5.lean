/- Several texts of this session in one: Fx13, Bits, Loops, LLists, LTabs, LSets, LMatrix, LCell, LReduce, LReduceI, LReduceS, Mat, LFamily, Mat2, Mat4, Lin, Mat3, Elim, LGauss, LGaussS, LMatRank, LDual, LDualMat, LSubset. Conditions: as each theorem says. -/
import Derived.Test.YtjlbfbpjcmjdfaaGreatZDependenceOf0
import Derived.Test.YtjlbfbpjcmjdfaaGreatZDependenceOf1
import Derived.Test.YtjlbfbpjcmjdfaaGreatZDependenceOf2
import Derived.Test.YtjlbfbpjcmjdfaaGreatZDependenceOf3
import Derived.Test.YtjlbfbpjcmjdfaaGreatZDependenceOf4
import Derived.Laws.BitsLemmas
set_option maxHeartbeats 8000000
set_option maxRecDepth 100000
section
namespace Go.Proofs.YtjlbfbpjcmjdfaaGreat.F
open Go.RowKit Go.Proofs.YtjlbfbpjcmjdfaaGreatW.PrintWords Go.Proofs.YtjlbfbpjcmjdfaaGreatW.PrintLast Go.Proofs.YtjlbfbpjcmjdfaaGreatW.PrintMore
attribute [local go_sem] vq vr vT vY jN jO vt vv   -- for this text's walks alone
set_option linter.unusedVariables false
set_option linter.unusedSimpArgs false

mutual
def zz.j0:Nat→Int→List Int→Bool→List Int→Bool→Bool→Int→Int→Int→List Int→Int→Int→Int→List Int→Option (Bool)
 |0,_,_,_,_,_,_,_,_,_,_,_,_,_,_=>none
 |k+1,x1,x6,x7,x9,x10,x44,x545000,x545001,x545002,x545003,x563000,x563001,x563002,x563003=>if x44=true then (none) else ((q8.f k x545000 x545001 x545002 x545003).bind fun bt568=>((vE.f k x563000 x563001 x563002 x563003 bt568.1 bt568.2.1 bt568.2.2.1 bt568.2.2.2).bind fun t574=>(if t574=true then ((j5.f k x563000 x563001 x563002 x563003 1).bind fun bt575=>(if bt575.1<0 then (none) else ((qK.f k x9 x6).bind fun t577=>(if t577=true then (zz.j1 k x1 x6 x7 x9 (x10 != x7) x545000 x545001 x545002 x545003) else (none))))) else (none))))
def zz.j1:Nat→Int→List Int→Bool→List Int→Bool→Int→Int→Int→List Int→Option (Bool)
 |0,_,_,_,_,_,_,_,_,_=>none
 |k+1,x1,x6,x7,x9,x65,x545000,x545001,x545002,x545003=>if x65=true then (none) else ((qB.f k x9 1).bind fun bt578=>((qI.f k bt578.2 1).bind fun t580=>(if t580<0 then (none) else (if t580=bt578.1 then ((q8.f k x545000 x545001 x545002 x545003).bind fun bt581=>((zf.f k bt581.1 bt581.2.1 bt581.2.2.1 bt581.2.2.2 x1).bind fun bt587=>((qK.f k bt587.1 x6).bind fun t591=>(if t591=true then (zz.j2 k bt578.2 bt578.1 (bt587.2 != x7)) else (none))))) else (none)))))
def zz.j2:Nat→List Int→Int→Bool→Option (Bool)
 |0,_,_,_=>none
 |k+1,x9,x12,x92=>if x92=true then (none) else ((qI.f k x9 1).bind fun t592=>(if t592<0 then (none) else (if t592=x12 then (some true) else (none))))
end
def zz.f (k:Nat)(a0_0:Int)(a0_1:Int)(a0_2:Int)(l0_3:List Int)(a1:Int):Option (Bool):=(vm.f a0_0 a0_1 a0_2 l0_3 1048576).bind fun t545=>(if t545<0 then (some true) else ((q8.f k a0_0 a0_1 a0_2 l0_3).bind fun bt546=>((zx.f k bt546.1 bt546.2.1 bt546.2.2.1 bt546.2.2.2 a1).bind fun bt552=>((q8.f k a0_0 a0_1 a0_2 l0_3).bind fun bt556=>((zf.f k bt556.1 bt556.2.1 bt556.2.2.1 bt556.2.2.2 a1).bind fun bt563=>((qK.f k bt563.1 bt552.1).bind fun t567=>(if t567=true then (zz.j0 k a1 bt552.1 bt552.2 bt563.1 bt563.2 (bt563.2 != bt552.2) a0_0 a0_1 a0_2 l0_3 bt556.1 bt556.2.1 bt556.2.2.1 bt556.2.2.2) else (none))))))))
theorem zz.calls (k:Nat)(a0_0:Int)(a0_1:Int)(a0_2:Int)(A0_3:Option Addr)(c0_3:Nat)(l0_3:List Int)(a1:Int)(r:Bool)(w:World)(hr0_3:Kd.C (Kd.int .i64) w A0_3 l0_3.length l0_3)(hc0_3:l0_3.length≤c0_3)(h:zz.f k a0_0 a0_1 a0_2 l0_3 a1=some r):Calls Tryz.prog 3 #[.agg #[.int .i64 a0_0,.int .i64 a0_1,.int .i64 a0_2,.slice A0_3 l0_3.length c0_3],.int .i64 a1] w fun e w'=>e= .returned (.bool r)∧Below w.heap.size w w':=by have hu24:=Tryz.underlying24;have hu28:=Tryz.underlying28;have HR0_3:=Aside0.mk hr0_3;have HC0_3:=Aside0.mk hc0_3;clear hr0_3 hc0_3;have HB:=Aside0.mk (Below.refl w.heap.size w);have H:=h;unfold zz.f at H;clear h;replace H:=zU H;obtain ⟨t545,A3,H⟩:=H;by_cases c4:t545<0;(·rw [if_pos c4] at H;have c4b0:decide (t545<0)=true:=decide_eq_true c4;clear c4;obtain rfl:=Option.some.inj H;go_enter Tryz.func3,Tryz.ntmps3;(go_wp2_with (first|((with_reducible refine zk (N:=2) rfl ?_);refine zo ?hg (N:=2) ?hd (cs:=#[.int .i64 a0_0,.int .i64 a0_1,.int .i64 a0_2,.slice A0_3 l0_3.length c0_3]) (t:=24) ?hr ?_;(case hd=>rfl);(case hg=>rfl);(case hr=>exact sqG);intro gb544 hg w5 hbox hb;have q_:=f4 (za sqB hb) hbox (sqS hg:w.heap.size≤gb544) (sqS hg:w.heap.size≤gb544);clear HB;obtain ⟨HB,BK544,GW544,GE544⟩:=q_;clear hb hbox hg;obtain ⟨_,_,_,_,_,_,_,_⟩:=z4 BK544.out)|((with_reducible refine zc (f:=4) rfl ?_);refine zt (some 18) rfl rfl Tryz.func4 (by kernel_rfl) rfl #[.agg #[.int .i64 a0_0,.int .i64 a0_1,.int .i64 a0_2,.slice A0_3 l0_3.length c0_3],.int .i64 1048576] rfl sqM ?_;(with_reducible refine (vm.calls a0_0 a0_1 a0_2 _ _ l0_3 1048576 t545 _ ?side1 ?side2 A3.out).mono ?_);(case side1=>exact sqC (Kd.zC HR0_3.out HB.out));(case side2=>exact HC0_3.out);rintro e w7 ⟨rfl,hb⟩;refine ⟨_,rfl,?_⟩;have q_:=f2 (sqh BK544 hb) (za sqB hb);clear BK544 HB;obtain ⟨BK544,HB⟩:=q_)));go_ret;exact ⟨sqE,sqB⟩);(·rw [if_neg c4] at H;have c4b0:decide (t545<0)=false:=decide_eq_false c4;clear c4;replace H:=zU H;obtain ⟨⟨t546,t547,t548,t549⟩,A8,H⟩:=H;(try dsimp only at H);replace H:=zU H;obtain ⟨⟨t552,t555⟩,A9,H⟩:=H;(try dsimp only at H);replace H:=zU H;obtain ⟨⟨t556,t557,t558,t559⟩,A10,H⟩:=H;(try dsimp only at H);replace H:=zU H;obtain ⟨⟨t563,t566⟩,A11,H⟩:=H;(try dsimp only at H);have HC12:=Aside0.mk H;clear H;go_enter Tryz.func3,Tryz.ntmps3;(go_upto_region 8 with (first|((with_reducible refine zk (N:=2) rfl ?_);refine zo ?hg (N:=2) ?hd (cs:=#[.int .i64 a0_0,.int .i64 a0_1,.int .i64 a0_2,.slice A0_3 l0_3.length c0_3]) (t:=24) ?hr ?_;(case hd=>rfl);(case hg=>rfl);(case hr=>exact sqG);intro gb544 hg w13 hbox hb;have q_:=f4 (za sqB hb) hbox (sqS hg:w.heap.size≤gb544) (sqS hg:w.heap.size≤gb544);clear HB;obtain ⟨HB,BK544,GW544,GE544⟩:=q_;clear hb hbox hg;obtain ⟨_,_,_,_,_,_,_,_⟩:=z4 BK544.out)|((with_reducible refine zc (f:=4) rfl ?_);refine zt (some 18) rfl rfl Tryz.func4 (by kernel_rfl) rfl #[.agg #[.int .i64 a0_0,.int .i64 a0_1,.int .i64 a0_2,.slice A0_3 l0_3.length c0_3],.int .i64 1048576] rfl sqM ?_;(with_reducible refine (vm.calls a0_0 a0_1 a0_2 _ _ l0_3 1048576 t545 _ ?side1 ?side2 A3.out).mono ?_);(case side1=>exact sqC (Kd.zC HR0_3.out HB.out));(case side2=>exact HC0_3.out);rintro e w15 ⟨rfl,hb⟩;refine ⟨_,rfl,?_⟩;have q_:=f2 (sqh BK544 hb) (za sqB hb);clear BK544 HB;obtain ⟨BK544,HB⟩:=q_;obtain ⟨_,_,_,_,_,_,_,_⟩:=z4 BK544.out)|((with_reducible refine zc (f:=6) rfl ?_);refine zt (some 23) rfl rfl Tryz.func6 (by kernel_rfl) rfl #[.agg #[.int .i64 a0_0,.int .i64 a0_1,.int .i64 a0_2,.slice A0_3 l0_3.length c0_3]] rfl sqM ?_;(with_reducible refine (q8.calls k a0_0 a0_1 a0_2 _ _ l0_3 t546 t547 t548 t549 _ ?side1 ?side2 A8.out).mono ?_);(case side1=>exact sqC (Kd.zC HR0_3.out HB.out));(case side2=>exact HC0_3.out);rintro e w17 ⟨v550,rfl,ho0,hb⟩;refine ⟨_,rfl,?_⟩;have q_:=f3 (Kd.zS ho0 (zi sqB)) (sqh BK544 hb) (za sqB hb);clear BK544 HB;obtain ⟨HO551,BK544,HB⟩:=q_;obtain ⟨Ao18,co18,eo18⟩:=Kd.zP HO551.out;subst eo18)|((with_reducible refine zc (f:=5) rfl ?_);refine zt (some 25) rfl rfl Tryz.func5 (by kernel_rfl) rfl #[.agg #[.int .i64 t546,.int .i64 t547,.int .i64 t548,.slice Ao18 t549.length co18],.int .i64 a1] rfl sqM ?_;(with_reducible refine (zx.calls k t546 t547 t548 _ _ t549 a1 t552 t555 _ ?side1 ?side2 A9.out).mono ?_);(case side1=>exact sqC (Kd.zj HO551.out).2.2);(case side2=>exact (Kd.zj HO551.out).2.1);rintro e w19 ⟨v553,rfl,ho0,hb⟩;refine ⟨_,rfl,?_⟩;have q_:=f4 (sqe HO551 (Kd.qg ho0) hb) (Kd.zS (Kd.qi ho0 (Kd.q3 (sqR HO551.out))) (zi sqB)) (sqh BK544 hb) (za sqB hb);clear HO551 BK544 HB;obtain ⟨HO551,HO554,BK544,HB⟩:=q_;obtain ⟨_,_,_,_,_,_,_,_⟩:=z4 BK544.out)|((with_reducible refine zc (f:=6) rfl ?_);refine zt (some 29) rfl rfl Tryz.func6 (by kernel_rfl) rfl #[.agg #[.int .i64 a0_0,.int .i64 a0_1,.int .i64 a0_2,.slice A0_3 l0_3.length c0_3]] rfl sqM ?_;(with_reducible refine (q8.calls k a0_0 a0_1 a0_2 _ _ l0_3 t556 t557 t558 t559 _ ?side1 ?side2 A10.out).mono ?_);(case side1=>exact sqC (Kd.zC HR0_3.out HB.out));(case side2=>exact HC0_3.out);rintro e w21 ⟨v560,rfl,ho0,hb⟩;refine ⟨_,rfl,?_⟩;have q_:=f5 (sqe HO551 (Kd.qg ho0) hb) (sqe HO554 (Kd.qg ho0) hb) (Kd.zS (Kd.qi (Kd.qi ho0 (Kd.q3 (sqR HO551.out))) (Kd.q3 (sqR HO554.out))) (zi sqB)) (sqh BK544 hb) (za sqB hb);clear HO551 HO554 BK544 HB;obtain ⟨HO551,HO554,HO561,BK544,HB⟩:=q_)|((with_reducible refine zk (N:=8) rfl ?_);refine zo ?hg (N:=8) ?hd (cs:=#[.int .i64 0,.int .i64 0,.int .i64 0,.slice none 0 0]) (t:=28) ?hr ?_;(case hd=>rfl);(case hg=>rfl);(case hr=>exact sqG);intro gb562 hg w22 hbox hb;have q_:=f10 (sqb HO551 hb) (sqb HO554 hb) (sqb HO561 hb) (sqh BK544 hb) (za sqB hb) hbox (sqS hg:w.heap.size≤gb562) (sqS hg:w.heap.size≤gb562) (sqn BK544 hg) (sqm BK544 hg);clear HO551 HO554 HO561 BK544 HB;obtain ⟨HO551,HO554,HO561,BK544,HB,BK562,GW562,GE562,NB544_562,NB562_544⟩:=q_;clear hb hbox hg;have hnb23:=NB562_544.out;have hnc23:=NB544_562.out;obtain ⟨_,_,_,_,_,_,_,_⟩:=z4 BK562.out;obtain ⟨Ao25,co25,eo25⟩:=Kd.zP HO561.out;subst eo25)|((with_reducible refine zc (f:=7) rfl ?_);refine zt (some 33) rfl rfl Tryz.func7 (by kernel_rfl) rfl #[.agg #[.int .i64 t556,.int .i64 t557,.int .i64 t558,.slice Ao25 t559.length co25],.int .i64 a1] rfl sqM ?_;(with_reducible refine (zf.calls k t556 t557 t558 _ _ t559 a1 t563 t566 _ ?side1 ?side2 A11.out).mono ?_);(case side1=>refine (Kd.zj (e:=3) (base:=w.heap.size) (ok:=fun k_=>((True∧some k_≠(.slice Ao18 t549.length co18:Value).ownBlock)∧some k_≠(v553:Value).ownBlock)) (n:=t559.length) (c:=co25) ?_).2.2;exact (by refine sqR ?_;exact (Kd.zp (Kd.zy (p:=⟨gb562,3,none⟩) (Kd.zy (p:=⟨gb562,2,none⟩) (Kd.zy (p:=⟨gb562,1,none⟩) (Kd.zy (p:=⟨gb562,0,none⟩) (Kd.z7 HO561.out BK562.out (by decide)) (fun _ hk=>hk.2) (.int .i64 t556)) (fun _ hk=>hk.2) (.int .i64 t557)) (fun _ hk=>hk.2) (.int .i64 t558)) (fun _ hk=>hk.2) (.slice Ao25 t559.length co25)) (fun _ h_=>h_.1))));(case side2=>exact (Kd.zj HO561.out).2.1);rintro e w26 ⟨v564,rfl,ho0,hb⟩;refine ⟨_,rfl,?_⟩;have q_:=f7 (Kd.vJ (by refine sqR ?_;exact (Kd.zp (Kd.zy (p:=⟨gb562,3,none⟩) (Kd.zy (p:=⟨gb562,2,none⟩) (Kd.zy (p:=⟨gb562,1,none⟩) (Kd.zy (p:=⟨gb562,0,none⟩) (Kd.z7 HO551.out BK562.out (by decide)) (fun _ hk=>hk.2) (.int .i64 t556)) (fun _ hk=>hk.2) (.int .i64 t557)) (fun _ hk=>hk.2) (.int .i64 t558)) (fun _ hk=>hk.2) (.slice Ao25 t559.length co25)) (fun _ h_=>h_.1))) (Kd.qg ho0) hb) (Kd.vJ (by refine sqR ?_;exact (Kd.zp (Kd.zy (p:=⟨gb562,3,none⟩) (Kd.zy (p:=⟨gb562,2,none⟩) (Kd.zy (p:=⟨gb562,1,none⟩) (Kd.zy (p:=⟨gb562,0,none⟩) (Kd.z7 HO554.out BK562.out (by decide)) (fun _ hk=>hk.2) (.int .i64 t556)) (fun _ hk=>hk.2) (.int .i64 t557)) (fun _ hk=>hk.2) (.int .i64 t558)) (fun _ hk=>hk.2) (.slice Ao25 t559.length co25)) (fun _ h_=>h_.1))) (Kd.qg ho0) hb) (Kd.vJ (by refine sqR ?_;exact (Kd.zp (Kd.zy (p:=⟨gb562,3,none⟩) (Kd.zy (p:=⟨gb562,2,none⟩) (Kd.zy (p:=⟨gb562,1,none⟩) (Kd.zy (p:=⟨gb562,0,none⟩) (Kd.z7 HO561.out BK562.out (by decide)) (fun _ hk=>hk.2) (.int .i64 t556)) (fun _ hk=>hk.2) (.int .i64 t557)) (fun _ hk=>hk.2) (.int .i64 t558)) (fun _ hk=>hk.2) (.slice Ao25 t559.length co25)) (fun _ h_=>h_.1))) (Kd.qg ho0) hb) (Kd.zS (Kd.qi (Kd.qi (Kd.qi ho0 (Kd.q3 (by refine sqR ?_;exact (Kd.zp (Kd.zy (p:=⟨gb562,3,none⟩) (Kd.zy (p:=⟨gb562,2,none⟩) (Kd.zy (p:=⟨gb562,1,none⟩) (Kd.zy (p:=⟨gb562,0,none⟩) (Kd.z7 HO551.out BK562.out (by decide)) (fun _ hk=>hk.2) (.int .i64 t556)) (fun _ hk=>hk.2) (.int .i64 t557)) (fun _ hk=>hk.2) (.int .i64 t558)) (fun _ hk=>hk.2) (.slice Ao25 t559.length co25)) (fun _ h_=>h_.1))))) (Kd.q3 (by refine sqR ?_;exact (Kd.zp (Kd.zy (p:=⟨gb562,3,none⟩) (Kd.zy (p:=⟨gb562,2,none⟩) (Kd.zy (p:=⟨gb562,1,none⟩) (Kd.zy (p:=⟨gb562,0,none⟩) (Kd.z7 HO554.out BK562.out (by decide)) (fun _ hk=>hk.2) (.int .i64 t556)) (fun _ hk=>hk.2) (.int .i64 t557)) (fun _ hk=>hk.2) (.int .i64 t558)) (fun _ hk=>hk.2) (.slice Ao25 t559.length co25)) (fun _ h_=>h_.1))))) (Kd.q3 (by refine sqR ?_;exact (Kd.zp (Kd.zy (p:=⟨gb562,3,none⟩) (Kd.zy (p:=⟨gb562,2,none⟩) (Kd.zy (p:=⟨gb562,1,none⟩) (Kd.zy (p:=⟨gb562,0,none⟩) (Kd.z7 HO561.out BK562.out (by decide)) (fun _ hk=>hk.2) (.int .i64 t556)) (fun _ hk=>hk.2) (.int .i64 t557)) (fun _ hk=>hk.2) (.int .i64 t558)) (fun _ hk=>hk.2) (.slice Ao25 t559.length co25)) (fun _ h_=>h_.1))))) (zi sqB)) (sqh BK544 hb) (qj (g:=gb562) (o:= .cells #[.int .i64 t556,.int .i64 t557,.int .i64 t558,.slice Ao25 t559.length co25] 28 (0,0)) (by refine sqK ?_;refine zw (cs:=#[.int .i64 t556,.int .i64 t557,.int .i64 t558,.slice none 0 0]) ?_ 3 _ rfl;refine sqK ?_;refine zw (cs:=#[.int .i64 t556,.int .i64 t557,.int .i64 0,.slice none 0 0]) ?_ 2 _ rfl;refine sqK ?_;refine zw (cs:=#[.int .i64 t556,.int .i64 0,.int .i64 0,.slice none 0 0]) ?_ 1 _ rfl;refine sqK ?_;refine zw (cs:=#[.int .i64 0,.int .i64 0,.int .i64 0,.slice none 0 0]) ?_ 0 _ rfl;refine sqK ?_;exact BK562.out) hb) (za sqB hb);clear HO551 HO554 HO561 BK544 BK562 HB;obtain ⟨HO551,HO554,HO561,HO565,BK544,BK562,HB⟩:=q_)));(try simp only [Act.put,List.setIfInBounds_toArray,List.set_cons_zero,List.set_cons_succ]);(go_cut [44] (fun v44 wc=> ∃(kq:Nat) (x44_11:Bool),v44= .bool x44_11∧Aside0 (zz.j0 kq a1 t552 t555 t563 t566 x44_11 a0_0 a0_1 a0_2 l0_3 t556 t557 t558 t559=some r)∧Aside0 (kq≤k)∧Aside0 (Kd.R (Kd.int .i64) 3 wc w.heap.size (fun k_=>some k_≠(v564:Value).ownBlock∧some k_≠((.slice Ao25 t559.length co25):Value).ownBlock) v553 t552)∧Aside0 (Kd.R (Kd.int .i64) 3 wc w.heap.size (fun k_=>some k_≠(v553:Value).ownBlock∧some k_≠((.slice Ao25 t559.length co25):Value).ownBlock) v564 t563)∧Aside0 (Kd.R (Kd.int .i64) 3 wc w.heap.size (fun k_=>some k_≠(v553:Value).ownBlock∧some k_≠(v564:Value).ownBlock) (.slice Ao25 t559.length co25) t559)∧Aside0 (wc.heap[gb544]? =some (.cells #[.int .i64 a0_0,.int .i64 a0_1,.int .i64 a0_2,(.slice A0_3 l0_3.length c0_3)] 24 (0,0)))∧Aside0 (wc.heap[gb562]? =some (.cells #[.int .i64 t556,.int .i64 t557,.int .i64 t558,(.slice Ao25 t559.length co25)] 28 (0,0)))∧Aside0 (Below w.heap.size w wc)));(case first=>have H:=HC12.out;clear HC12;replace H:=zU H;obtain ⟨t567,A27,H⟩:=H;by_cases c28:t567=true;(·subst c28;rw [if_pos rfl] at H;have H':=Aside0.mk H;clear H;obtain ⟨Ao29,co29,eo29⟩:=Kd.zP HO565.out;subst eo29;obtain ⟨Ao30,co30,eo30⟩:=Kd.zP HO554.out;subst eo30;(go_wp2_with (first|((with_reducible refine zc (f:=8) rfl ?_);refine zt (some 38) rfl rfl Tryz.func8 (by kernel_rfl) rfl #[.slice Ao29 t563.length co29,.slice Ao30 t552.length co30] rfl sqM ?_;(with_reducible refine (qK.calls k _ _ t563 _ _ t552 true _ ?side1 ?side2 ?side3 ?side4 A27.out).mono ?_);(case side1=>exact sqC (Kd.zj HO565.out).2.2);(case side2=>exact (Kd.zj HO565.out).2.1);(case side3=>exact sqC (Kd.zj HO554.out).2.2);(case side4=>exact (Kd.zj HO554.out).2.1);rintro e w' ⟨rfl,⟨nd,rfl⟩⟩;refine ⟨_,rfl,?_⟩)));go_meet;(case rel=>exact ⟨_,((t566 != t555)),(sqD),H',⟨by first|omega|exact Nat.le_refl _⟩,⟨by refine sqR ?_;exact Kd.zp HO554.out (fun _ hk=>by first|exact ⟨hk.2,hk.1.2⟩|(refine ⟨?_,?_⟩<;>intro e_<;>simp only [e_,ne_eq,not_true_eq_false,and_false,false_and] at hk))⟩,⟨by refine sqR ?_;exact Kd.zp HO565.out (fun _ hk=>by first|exact ⟨hk.1.2,hk.2⟩|(refine ⟨?_,?_⟩<;>intro e_<;>simp only [e_,ne_eq,not_true_eq_false,and_false,false_and] at hk))⟩,⟨by refine sqR ?_;exact Kd.zp HO561.out (fun _ hk=>by first|exact ⟨hk.1.2,hk.2⟩|(refine ⟨?_,?_⟩<;>intro e_<;>simp only [e_,ne_eq,not_true_eq_false,and_false,false_and] at hk))⟩,⟨sqK BK544.out⟩,⟨sqK BK562.out⟩,⟨sqB⟩⟩));(·replace c28:=Bool.eq_false_iff.mpr c28;subst c28;rw [if_neg (show ¬(false=true) by decide)] at H;exact absurd H (by simp)));(case rest=>clear HC12;obtain ⟨kq,x44_11,rfl,HA,HJ11,HO_6,HO_9,HO_563003,BK544,BK562,HB⟩:=hcut;(cases kq with|zero=>exact absurd HA.out (by simp [zz.j0])|succ kj11=>have H:=HA.out;clear HA;simp only [zz.j0] at H;by_cases c31:x44_11=true;(·subst c31;rw [if_pos rfl] at H;exact absurd H (by simp));(·replace c31:=Bool.eq_false_iff.mpr c31;subst c31;rw [if_neg (show ¬(false=true) by decide)] at H;replace H:=zU H;obtain ⟨⟨t568,t569,t570,t571⟩,A32,H⟩:=H;(try dsimp only at H);replace H:=zU H;obtain ⟨t574,A33,H⟩:=H;by_cases c34:t574=true;(·subst c34;rw [if_pos rfl] at H;replace H:=zU H;obtain ⟨⟨t575,t576⟩,A35,H⟩:=H;(try dsimp only at H);have HC36:=Aside0.mk H;clear H;(try go_wp2);have q_:=f6 (Kd.qE HO_6.out) (Kd.qE HO_9.out) (Kd.qE HO_563003.out) (qb BK544.out) (qb BK562.out) (zD HB.out);clear HO_6 HO_9 HO_563003 BK544 BK562 HB;obtain ⟨HO_6,HO_9,HO_563003,BK544,BK562,HB⟩:=q_;refine jD (n:=5) (S:=fun w'=>w'.cell? ⟨gb562,0,none⟩=some (.int .i64 t556)∧w'.cell? ⟨gb562,1,none⟩=some (.int .i64 t557)∧w'.cell? ⟨gb562,2,none⟩=some (.int .i64 t558)∧w'.cell? ⟨gb562,3,none⟩=some (.slice Ao25 t559.length co25)∧w'.cell? ⟨gb544,0,none⟩=some (.int .i64 a0_0)∧w'.cell? ⟨gb544,1,none⟩=some (.int .i64 a0_1)∧w'.cell? ⟨gb544,2,none⟩=some (.int .i64 a0_2)∧w'.cell? ⟨gb544,3,none⟩=some (.slice A0_3 l0_3.length c0_3)) (ds:=[]) #[false,false,false,false,false] (by kernel_rfl) rfl rfl tH (fun hHeld=> ?_);generalize wc.drew=w37 at HO_6 HO_9 HO_563003 BK544 BK562 HB hHeld ⊢;refine QH (i:=0) (N:=some 45) (v:= ?_) (a':= ?_) #[true,false,false,false,false] rfl rfl (by kernel_rfl) (fun _ _ _ h=>h) (Or.inl ⟨by rfl,?_⟩) hHeld ?_ ?_;rotate_left;(·rintro w' ⟨s0,s1,s2,s3,s4,s5,s6,s7⟩;go_simp;with_reducible rfl);rotate_left;(·simp only [Act.put,List.setIfInBounds_toArray,List.set_cons_zero,List.set_cons_succ,zv,zG];rfl);refine QH (i:=1) (N:=some 46) (v:= ?_) (a':= ?_) #[true,true,false,false,false] rfl rfl (by kernel_rfl) (fun _ _ _ h=>h) (Or.inl ⟨by rfl,?_⟩) hHeld ?_ ?_;rotate_left;(·rintro w' ⟨s0,s1,s2,s3,s4,s5,s6,s7⟩;go_simp;with_reducible rfl);rotate_left;(·simp only [Act.put,List.setIfInBounds_toArray,List.set_cons_zero,List.set_cons_succ,zv,zG];rfl);refine zdV (i:=2) (N:=some 47) #[true,true,true,false,false] rfl rfl (by kernel_rfl) (by decide) (fun K hK=> ?_);refine y8 Tryz.func6 (by kernel_rfl) rfl #[.agg #[.int .i64 a0_0,.int .i64 a0_1,.int .i64 a0_2,.slice A0_3 l0_3.length c0_3]] (by rfl) rfl rfl sqM ?_;(with_reducible refine (q8.calls kj11 a0_0 a0_1 a0_2 _ _ l0_3 t568 t569 t570 t571 _ ?side1 ?side2 A32.out).mono ?_);(case side1=>exact sqC (Kd.zC HR0_3.out HB.out));(case side2=>exact HC0_3.out);rintro e w38 ⟨v572,rfl,ho0,hb⟩;refine ⟨_,rfl,?_⟩;have q_:=f7 (sqe HO_6 (Kd.qg ho0) hb) (sqe HO_9 (Kd.qg ho0) hb) (sqe HO_563003 (Kd.qg ho0) hb) (Kd.zS (Kd.qi (Kd.qi (Kd.qi ho0 (Kd.q3 (sqR HO_6.out))) (Kd.q3 (sqR HO_9.out))) (Kd.q3 (sqR HO_563003.out))) (zi sqB)) (sqh BK544 hb) (sqh BK562 hb) (za sqB hb);clear HO_6 HO_9 HO_563003 BK544 BK562 HB;obtain ⟨HO_6,HO_9,HO_563003,HO573,BK544,BK562,HB⟩:=q_;obtain ⟨Ao39,co39,eo39⟩:=Kd.zP HO573.out;(first|subst eo39|(injection eo39 with f1_ f2_ f3_;have f4_:=f1_.symm;have f5_:=f3_.symm;clear f1_ f2_ f3_;subst f4_;subst f5_));refine hK.out _ _ tH (fun hHeld=> ?_);clear hK K;refine tN 47 (h:= ?_);refine zdV (i:=3) (N:=some 48) #[true,true,true,true,false] rfl rfl (by kernel_rfl) (by decide) (fun K hK=> ?_);refine y8 Tryz.func9 (by kernel_rfl) rfl #[.agg #[.int .i64 t556,.int .i64 t557,.int .i64 t558,.slice Ao25 t559.length co25],.agg #[.int .i64 t568,.int .i64 t569,.int .i64 t570,.slice Ao39 t571.length co39]] (by rfl) rfl rfl sqM ?_;(with_reducible refine (vE.calls kj11 t556 t557 t558 _ _ t559 t568 t569 t570 _ _ t571 true _ ?side1 ?side2 ?side3 ?side4 A33.out).mono ?_);(case side1=>exact sqC (Kd.zj HO_563003.out).2.2);(case side2=>exact (Kd.zj HO_563003.out).2.1);(case side3=>exact sqC (Kd.zj HO573.out).2.2);(case side4=>exact (Kd.zj HO573.out).2.1);rintro e w40 ⟨rfl,hb⟩;refine ⟨_,rfl,?_⟩;have q_:=f7 (sqb HO_6 hb) (sqb HO_9 hb) (sqb HO_563003 hb) (sqb HO573 hb) (sqh BK544 hb) (sqh BK562 hb) (za sqB hb);clear HO_6 HO_9 HO_563003 HO573 BK544 BK562 HB;obtain ⟨HO_6,HO_9,HO_563003,HO573,BK544,BK562,HB⟩:=q_;refine hK.out _ _ tH (fun hHeld=> ?_);clear hK K;refine tN 48 (h:= ?_);refine jU (i:=4) (N:=some 49) (v:= ?_) (a':= ?_) #[true,true,true,true,true] rfl rfl (by kernel_rfl) (fun _ _ _ h=>h) (Or.inl ⟨by rfl,?_⟩) ?_ ?_;rotate_left;(·intro w';go_simp;with_reducible rfl);rotate_left;(·simp only [Act.put,List.setIfInBounds_toArray,List.set_cons_zero,List.set_cons_succ,zv,zG];rfl);refine vx (by kernel_rfl) ?_;have hnb41:=NB562_544.out;have hnc41:=NB544_562.out;obtain ⟨_,_,_,_,_,_,_,_⟩:=z4 BK562.out;(go_upto_region 14 with (first|((with_reducible refine zc (f:=10) rfl ?_);refine zt (some 52) rfl rfl Tryz.func10 (by kernel_rfl) rfl #[.agg #[.int .i64 t556,.int .i64 t557,.int .i64 t558,.slice Ao25 t559.length co25],.int .i64 1] rfl sqM ?_;(with_reducible refine (j5.calls kj11 t556 t557 t558 (fun k_=>some k_=(.slice Ao25 t559.length co25:Value).ownBlock) (.slice Ao25 t559.length co25) t559 1 t575 t576 w _ ?side1 ?side2 A35.out).mono ?_);(case side1=>repeat (first|(with_reducible first|exact HB.out|apply qw|apply zL|apply zD|refine zQ ?_ GE544.out|refine zQ ?_ GE562.out)|exact HB.out));(case side2=>exact Kd.Zq rfl HO_563003.out);rintro e w43 ⟨rfl,hy0,hb,hkp⟩;refine ⟨_,rfl,?_⟩;have q_:=f7 (Kd.zp (ok':=fun k_=>some k_≠(v564:Value).ownBlock∧some k_≠(.slice Ao25 t559.length co25:Value).ownBlock∧some k_≠(.slice Ao39 t571.length co39:Value).ownBlock) (Kd.Q7 (HO_6.out) hkp (fun k_ hk_ hs_=>by first|exact hk_.1.2 hs_|(have e_:some k_=_:=hs_;simp only [e_,ne_eq,not_true_eq_false,and_false,false_and] at hk_))) (fun k_ hk_=>by first|exact ⟨hk_.1.1.1,hk_.1.1.2,hk_.1.2⟩|(refine ⟨?_,?_,?_⟩<;>intro e_<;>simp only [e_,ne_eq,not_true_eq_false,and_false,false_and] at hk_))) (Kd.zp (ok':=fun k_=>some k_≠(v553:Value).ownBlock∧some k_≠(.slice Ao25 t559.length co25:Value).ownBlock∧some k_≠(.slice Ao39 t571.length co39:Value).ownBlock) (Kd.Q7 (HO_9.out) hkp (fun k_ hk_ hs_=>by first|exact hk_.1.2 hs_|(have e_:some k_=_:=hs_;simp only [e_,ne_eq,not_true_eq_false,and_false,false_and] at hk_))) (fun k_ hk_=>by first|exact ⟨hk_.1.1.1,hk_.1.1.2,hk_.1.2⟩|(refine ⟨?_,?_,?_⟩<;>intro e_<;>simp only [e_,ne_eq,not_true_eq_false,and_false,false_and] at hk_))) (Kd.Vs rfl hy0 (fun k_ e_=>HO_563003.out.1 k_ e_)) (yf (sqK BK544.out) hkp (fun hs_=>(fun e_=>(Kd.jB HO_563003.out BK544.out (by decide)) e_) hs_)) (yf (sqK BK562.out) hkp (fun hs_=>(fun e_=>(Kd.jB HO_563003.out BK562.out (by decide)) e_) hs_)) (Kd.zp (ok':=fun k_=>some k_≠(v553:Value).ownBlock∧some k_≠(v564:Value).ownBlock∧some k_≠(.slice Ao25 t559.length co25:Value).ownBlock) (Kd.Q7 (HO573.out) hkp (fun k_ hk_ hs_=>by first|exact hk_.2 hs_|(have e_:some k_=_:=hs_;simp only [e_,ne_eq,not_true_eq_false,and_false,false_and] at hk_))) (fun k_ hk_=>by first|exact ⟨hk_.1.1.1.2,hk_.1.1.2,hk_.1.2⟩|(refine ⟨?_,?_,?_⟩<;>intro e_<;>simp only [e_,ne_eq,not_true_eq_false,and_false,false_and] at hk_))) hb;clear HO_6 HO_9 HO_563003 BK544 BK562 HO573 HB;obtain ⟨HO_6,HO_9,HO_563003,BK544,BK562,HO573,HB⟩:=q_)));(try simp only [Act.put,List.setIfInBounds_toArray,List.set_cons_zero,List.set_cons_succ]);(go_cut [65] (fun v65 wc=> ∃(kq:Nat) (x65_35:Bool),v65= .bool x65_35∧Aside0 (zz.j1 kq a1 t552 t555 t563 x65_35 a0_0 a0_1 a0_2 l0_3=some r)∧Aside0 (kq≤kj11)∧Aside0 (Kd.R (Kd.int .i64) 3 wc w.heap.size (fun k_=>some k_≠(v564:Value).ownBlock∧some k_≠((.slice Ao25 t559.length co25):Value).ownBlock) v553 t552)∧Aside0 (Kd.R (Kd.int .i64) 3 wc w.heap.size (fun k_=>some k_≠(v553:Value).ownBlock∧some k_≠((.slice Ao25 t559.length co25):Value).ownBlock) v564 t563)∧Aside0 (Kd.R (Kd.int .i64) 3 wc w.heap.size (fun k_=>some k_≠(v553:Value).ownBlock∧some k_≠(v564:Value).ownBlock) (.slice Ao25 t559.length co25) t576)∧Aside0 (wc.heap[gb544]? =some (.cells #[.int .i64 a0_0,.int .i64 a0_1,.int .i64 a0_2,(.slice A0_3 l0_3.length c0_3)] 24 (0,0)))∧Aside0 (wc.heap[gb562]? =some (.cells #[.int .i64 t556,.int .i64 t557,.int .i64 t558,(.slice Ao25 t559.length co25)] 28 (0,0)))∧Aside0 (Below w.heap.size w wc)));(case first=>have H:=HC36.out;clear HC36;by_cases c44:t575<0;(·rw [if_pos c44] at H;exact absurd H (by simp));(·rw [if_neg c44] at H;have c44b0:decide (t575<0)=false:=decide_eq_false c44;clear c44;(first|rw [c44b0]|(simp only [zv,zG];rw [c44b0])|skip);replace H:=zU H;obtain ⟨t577,A45,H⟩:=H;by_cases c46:t577=true;(·subst c46;rw [if_pos rfl] at H;have H':=Aside0.mk H;clear H;obtain ⟨Ao47,co47,eo47⟩:=Kd.zP HO_9.out;subst eo47;obtain ⟨Ao48,co48,eo48⟩:=Kd.zP HO_6.out;subst eo48;(go_wp2_with (first|(go_at_call 8;(try simp only [zv,zG]);(with_reducible refine (qK.calls kj11 _ _ t563 _ _ t552 true _ ?side1 ?side2 ?side3 ?side4 A45.out).mono ?_);(case side1=>exact sqC (Kd.zj HO_9.out).2.2);(case side2=>exact (Kd.zj HO_9.out).2.1);(case side3=>exact sqC (Kd.zj HO_6.out).2.2);(case side4=>exact (Kd.zj HO_6.out).2.1);rintro e w' ⟨rfl,⟨nd,rfl⟩⟩)));go_meet;(case rel=>exact ⟨_,((t566 != t555)),(sqD),H',⟨by have:=HJ11.out;first|omega|exact Nat.le_refl _⟩,⟨by refine sqR ?_;exact Kd.zp HO_6.out (fun _ hk=>by first|exact ⟨hk.1,hk.2.1⟩|(refine ⟨?_,?_⟩<;>intro e_<;>simp only [e_,ne_eq,not_true_eq_false,and_false,false_and] at hk))⟩,⟨by refine sqR ?_;exact Kd.zp HO_9.out (fun _ hk=>by first|exact ⟨hk.1,hk.2.1⟩|(refine ⟨?_,?_⟩<;>intro e_<;>simp only [e_,ne_eq,not_true_eq_false,and_false,false_and] at hk))⟩,⟨by refine sqR ?_;exact Kd.zp HO_563003.out (fun _ hk=>by first|exact ⟨hk.1.1,hk.1.2⟩|(refine ⟨?_,?_⟩<;>intro e_<;>simp only [e_,ne_eq,not_true_eq_false,and_false,false_and] at hk))⟩,⟨sqK BK544.out⟩,⟨sqK BK562.out⟩,⟨sqB⟩⟩));(·replace c46:=Bool.eq_false_iff.mpr c46;subst c46;rw [if_neg (show ¬(false=true) by decide)] at H;exact absurd H (by simp))));(case rest=>clear HC36;obtain ⟨kq,x65_35,rfl,HA,HJ35,HO_6,HO_9,HO_563003,BK544,BK562,HB⟩:=hcut;have hl563003_35:=(Kd.zj HO_563003.out).1;rw [hl563003_35] at HO_563003;(try simp only [hl563003_35]);(try simp only [hl563003_35] at BK544);(try simp only [hl563003_35] at BK562);(try simp only [hl563003_35] at HO_6);(try simp only [hl563003_35] at HO_9);(cases kq with|zero=>exact absurd HA.out (by simp [zz.j1])|succ kj35=>have H:=HA.out;clear HA;simp only [zz.j1] at H;by_cases c49:x65_35=true;(·subst c49;rw [if_pos rfl] at H;exact absurd H (by simp));(·replace c49:=Bool.eq_false_iff.mpr c49;subst c49;rw [if_neg (show ¬(false=true) by decide)] at H;replace H:=zU H;obtain ⟨⟨t578,t579⟩,A50,H⟩:=H;(try dsimp only at H);replace H:=zU H;obtain ⟨t580,A51,H⟩:=H;by_cases c52:t580<0;(·rw [if_pos c52] at H;exact absurd H (by simp));(·rw [if_neg c52] at H;have c52b0:decide (t580<0)=false:=decide_eq_false c52;clear c52;by_cases c53:t580=t578;(·rw [if_pos c53] at H;have c53b0:(t580==t578)=true:=beq_iff_eq.mpr c53;have c53b1:(t580 != t578)=false:=bne_eq_false_iff_eq.mpr c53;clear c53;replace H:=zU H;obtain ⟨⟨t581,t582,t583,t584⟩,A54,H⟩:=H;(try dsimp only at H);replace H:=zU H;obtain ⟨⟨t587,t590⟩,A55,H⟩:=H;(try dsimp only at H);have HC56:=Aside0.mk H;clear H;obtain ⟨Ao57,co57,eo57⟩:=Kd.zP HO_9.out;subst eo57;(go_upto_region 25 with (first|((with_reducible refine zc (f:=11) rfl ?_);refine zt (some 68) rfl rfl Tryz.func11 (by kernel_rfl) rfl #[.slice Ao57 t563.length co57,.int .i64 1] rfl sqM ?_;(with_reducible refine (qB.calls kj35 (fun k_=>some k_=(.slice Ao57 t563.length co57:Value).ownBlock) (.slice Ao57 t563.length co57) t563 1 t578 t579 w _ ?side1 ?side2 A50.out).mono ?_);(case side1=>repeat (first|(with_reducible first|exact HB.out|apply qw|apply zL|apply zD|refine zQ ?_ GE544.out|refine zQ ?_ GE562.out)|exact HB.out));(case side2=>exact Kd.Zq rfl HO_9.out);rintro e w58 ⟨rfl,hy0,hb,hkp⟩;refine ⟨_,rfl,?_⟩;have q_:=f6 (Kd.zp (ok':=fun k_=>some k_≠(.slice Ao57 t563.length co57:Value).ownBlock∧some k_≠(.slice Ao25 t576.length co25:Value).ownBlock) (Kd.Q7 (HO_6.out) hkp (fun k_ hk_ hs_=>by first|exact hk_.1 hs_|(have e_:some k_=_:=hs_;simp only [e_,ne_eq,not_true_eq_false,and_false,false_and] at hk_))) (fun k_ hk_=>by first|exact ⟨hk_.1.1,hk_.1.2⟩|(refine ⟨?_,?_⟩<;>intro e_<;>simp only [e_,ne_eq,not_true_eq_false,and_false,false_and] at hk_))) (Kd.Vs rfl hy0 (fun k_ e_=>HO_9.out.1 k_ e_)) (Kd.zp (ok':=fun k_=>some k_≠(v553:Value).ownBlock∧some k_≠(.slice Ao57 t563.length co57:Value).ownBlock) (Kd.Q7 (HO_563003.out) hkp (fun k_ hk_ hs_=>by first|exact hk_.2 hs_|(have e_:some k_=_:=hs_;simp only [e_,ne_eq,not_true_eq_false,and_false,false_and] at hk_))) (fun k_ hk_=>by first|exact ⟨hk_.1.1,hk_.1.2⟩|(refine ⟨?_,?_⟩<;>intro e_<;>simp only [e_,ne_eq,not_true_eq_false,and_false,false_and] at hk_))) (yf (sqK BK544.out) hkp (fun hs_=>(fun e_=>(Kd.jB HO_9.out BK544.out (by decide)) e_) hs_)) (yf (sqK BK562.out) hkp (fun hs_=>(fun e_=>(Kd.jB HO_9.out BK562.out (by decide)) e_) hs_)) hb;clear HO_6 HO_9 HO_563003 BK544 BK562 HB;obtain ⟨HO_6,HO_9,HO_563003,BK544,BK562,HB⟩:=q_)|((with_reducible refine zc (f:=12) rfl ?_);refine zt (some 71) rfl rfl Tryz.func12 (by kernel_rfl) rfl #[.slice Ao57 t579.length co57,.int .i64 1] rfl (by (try simp only [List.map_toArray,List.map_cons,List.map_nil]);first|done|(rw [show t579.length=t563.length from (Kd.zj HO_9.out).1.symm]<;>rfl)|rfl|(simp only [List.length_drop,List.length_take];rfl)) ?_;(with_reducible refine (qI.calls kj35 _ _ t579 1 t580 _ ?side1 ?side2 A51.out).mono ?_);(case side1=>exact sqC (Kd.zj HO_9.out).2.2);(case side2=>rw [show t579.length=t563.length from (Kd.zj HO_9.out).1.symm];exact (Kd.zj HO_9.out).2.1);rintro e w' ⟨rfl,⟨nd,rfl⟩⟩;refine ⟨_,rfl,?_⟩;have hnb59:=NB544_562.out;have hnc59:=NB562_544.out;obtain ⟨_,_,_,_,_,_,_,_⟩:=z4 BK544.out)|((with_reducible refine zc (f:=6) rfl ?_);refine zt (some 79) rfl rfl Tryz.func6 (by kernel_rfl) rfl #[.agg #[.int .i64 a0_0,.int .i64 a0_1,.int .i64 a0_2,.slice A0_3 l0_3.length c0_3]] rfl sqM ?_;(with_reducible refine (q8.calls kj35 a0_0 a0_1 a0_2 _ _ l0_3 t581 t582 t583 t584 _ ?side1 ?side2 A54.out).mono ?_);(case side1=>exact sqC (Kd.zC HR0_3.out sqB));(case side2=>exact HC0_3.out);rintro e w61 ⟨v585,rfl,ho0,hb⟩;refine ⟨_,rfl,?_⟩;have q_:=f7 (sqe HO_6 (Kd.qg ho0) hb) (sqe HO_9 (Kd.qg ho0) hb) (sqe HO_563003 (Kd.qg ho0) hb) (Kd.zS (Kd.qi (Kd.qi (Kd.qi ho0 (Kd.q3 (sqR HO_6.out))) (Kd.q3 (sqR HO_9.out))) (Kd.q3 (sqR HO_563003.out))) (zi sqB)) (sqh BK544 hb) (sqh BK562 hb) (za sqB hb);clear HO_6 HO_9 HO_563003 BK544 BK562 HB;obtain ⟨HO_6,HO_9,HO_563003,HO586,BK544,BK562,HB⟩:=q_;obtain ⟨Ao62,co62,eo62⟩:=Kd.zP HO586.out;subst eo62)|((with_reducible refine zc (f:=7) rfl ?_);refine zt (some 81) rfl rfl Tryz.func7 (by kernel_rfl) rfl #[.agg #[.int .i64 t581,.int .i64 t582,.int .i64 t583,.slice Ao62 t584.length co62],.int .i64 a1] rfl sqM ?_;(with_reducible refine (zf.calls kj35 t581 t582 t583 _ _ t584 a1 t587 t590 _ ?side1 ?side2 A55.out).mono ?_);(case side1=>exact sqC (Kd.zj HO586.out).2.2);(case side2=>exact (Kd.zj HO586.out).2.1);rintro e w63 ⟨v588,rfl,ho0,hb⟩;refine ⟨_,rfl,?_⟩;have q_:=f8 (sqe HO_6 (Kd.qg ho0) hb) (sqe HO_9 (Kd.qg ho0) hb) (sqe HO_563003 (Kd.qg ho0) hb) (sqe HO586 (Kd.qg ho0) hb) (Kd.zS (Kd.qi (Kd.qi (Kd.qi (Kd.qi ho0 (Kd.q3 (sqR HO_6.out))) (Kd.q3 (sqR HO_9.out))) (Kd.q3 (sqR HO_563003.out))) (Kd.q3 (sqR HO586.out))) (zi sqB)) (sqh BK544 hb) (sqh BK562 hb) (za sqB hb);clear HO_6 HO_9 HO_563003 HO586 BK544 BK562 HB;obtain ⟨HO_6,HO_9,HO_563003,HO586,HO589,BK544,BK562,HB⟩:=q_)));(try simp only [Act.put,List.setIfInBounds_toArray,List.set_cons_zero,List.set_cons_succ]);(go_cut [92] (fun v92 wc=> ∃(kq:Nat) (x92_55:Bool),v92= .bool x92_55∧Aside0 (zz.j2 kq t579 t578 x92_55=some r)∧Aside0 (kq≤kj35)∧Aside0 (Kd.R (Kd.int .i64) 3 wc w.heap.size (fun k_=>some k_≠((.slice Ao25 t576.length co25):Value).ownBlock) (.slice Ao57 t563.length co57) t579)∧Aside0 (Kd.R (Kd.int .i64) 3 wc w.heap.size (fun k_=>some k_≠((.slice Ao57 t563.length co57):Value).ownBlock) (.slice Ao25 t576.length co25) t576)∧Aside0 (wc.heap[gb544]? =some (.cells #[.int .i64 a0_0,.int .i64 a0_1,.int .i64 a0_2,(.slice A0_3 l0_3.length c0_3)] 24 (0,0)))∧Aside0 (wc.heap[gb562]? =some (.cells #[.int .i64 t556,.int .i64 t557,.int .i64 t558,(.slice Ao25 t576.length co25)] 28 (0,0)))∧Aside0 (Below w.heap.size w wc)));(case first=>have H:=HC56.out;clear HC56;replace H:=zU H;obtain ⟨t591,A64,H⟩:=H;by_cases c65:t591=true;(·subst c65;rw [if_pos rfl] at H;have H':=Aside0.mk H;clear H;obtain ⟨Ao66,co66,eo66⟩:=Kd.zP HO589.out;subst eo66;obtain ⟨Ao67,co67,eo67⟩:=Kd.zP HO_6.out;subst eo67;(go_wp2_with (first|((with_reducible refine zc (f:=8) rfl ?_);refine zt (some 86) rfl rfl Tryz.func8 (by kernel_rfl) rfl #[.slice Ao66 t587.length co66,.slice Ao67 t552.length co67] rfl sqM ?_;(with_reducible refine (qK.calls kj35 _ _ t587 _ _ t552 true _ ?side1 ?side2 ?side3 ?side4 A64.out).mono ?_);(case side1=>exact sqC (Kd.zj HO589.out).2.2);(case side2=>exact (Kd.zj HO589.out).2.1);(case side3=>exact sqC (Kd.zj HO_6.out).2.2);(case side4=>exact (Kd.zj HO_6.out).2.1);rintro e w' ⟨rfl,⟨nd,rfl⟩⟩;refine ⟨_,rfl,?_⟩)));go_meet;(case rel=>exact ⟨_,((t590 != t555)),(sqD),H',⟨by have:=HJ11.out;have:=HJ35.out;first|omega|exact Nat.le_refl _⟩,⟨by (try simp only [hl563003_35]);refine sqR ?_;exact Kd.zp HO_9.out (fun _ hk=>hk.1.1.2)⟩,⟨by (try simp only [hl563003_35]);refine sqR ?_;exact Kd.zp HO_563003.out (fun _ hk=>hk.1.1.2)⟩,⟨by (try simp only [hl563003_35]);refine sqK ?_;exact BK544.out⟩,⟨by (try simp only [hl563003_35]);refine sqK ?_;exact BK562.out⟩,⟨sqB⟩⟩));(·replace c65:=Bool.eq_false_iff.mpr c65;subst c65;rw [if_neg (show ¬(false=true) by decide)] at H;exact absurd H (by simp)));(case rest=>clear HC56;obtain ⟨kq,x92_55,rfl,HA,HJ55,HO_9,HO_563003,BK544,BK562,HB⟩:=hcut;have hl9_55:=(Kd.zj HO_9.out).1;rw [hl9_55] at HO_9;(try simp only [hl9_55]);(try simp only [hl9_55] at BK544);(try simp only [hl9_55] at BK562);(try simp only [hl9_55] at HO_563003);(cases kq with|zero=>exact absurd HA.out (by simp [zz.j2])|succ kj55=>have H:=HA.out;clear HA;simp only [zz.j2] at H;by_cases c68:x92_55=true;(·subst c68;rw [if_pos rfl] at H;exact absurd H (by simp));(·replace c68:=Bool.eq_false_iff.mpr c68;subst c68;rw [if_neg (show ¬(false=true) by decide)] at H;replace H:=zU H;obtain ⟨t592,A69,H⟩:=H;by_cases c70:t592<0;(·rw [if_pos c70] at H;exact absurd H (by simp));(·rw [if_neg c70] at H;have c70b0:decide (t592<0)=false:=decide_eq_false c70;clear c70;by_cases c71:t592=t578;(·rw [if_pos c71] at H;have c71b0:(t592==t578)=true:=beq_iff_eq.mpr c71;have c71b1:(t592 != t578)=false:=bne_eq_false_iff_eq.mpr c71;clear c71;obtain rfl:=Option.some.inj H;(go_wp2_with (first|((with_reducible refine zc (f:=12) rfl ?_);refine zt (some 95) rfl rfl Tryz.func12 (by kernel_rfl) rfl #[.slice Ao57 t579.length co57,.int .i64 1] rfl sqM ?_;(with_reducible refine (qI.calls kj55 _ _ t579 1 t592 _ ?side1 ?side2 A69.out).mono ?_);(case side1=>exact sqC (Kd.zj HO_9.out).2.2);(case side2=>exact (Kd.zj HO_9.out).2.1);rintro e w' ⟨rfl,⟨nd,rfl⟩⟩;refine ⟨_,rfl,?_⟩)));go_ret;exact ⟨sqE,sqB⟩);(·rw [if_neg c71] at H;exact absurd H (by simp)))))));(·rw [if_neg c53] at H;exact absurd H (by simp)))))));(·replace c34:=Bool.eq_false_iff.mpr c34;subst c34;rw [if_neg (show ¬(false=true) by decide)] at H;exact absurd H (by simp))))))

end Go.Proofs.YtjlbfbpjcmjdfaaGreat.F
end
section
namespace Go.Proofs.YtjlbfbpjcmjdfaaGreat.Bits
open Go.Proofs.YtjlbfbpjcmjdfaaGreat.Mt (sdiff qQ)
open Go.RowKit Go.Proofs.YtjlbfbpjcmjdfaaGreatW.PrintWords Go.Proofs.YtjlbfbpjcmjdfaaGreatW.PrintLast Go.Proofs.YtjlbfbpjcmjdfaaGreatW.PrintMore

theorem ja {n:Int}(h0: -9223372036854775808≤n)(h1:n<9223372036854775808):wrap64 n=n:=by unfold wrap64;omega
theorem Jf {n:Int}(h0: -9223372036854775808≤n)(h1:n<9223372036854775808):IntKind.i64.wrap n=n:=by rw [IntKind.wrap_i64];omega
theorem yq {n:Int}(h0:0≤n)(h1:n<18446744073709551616):IntKind.u64.wrap n=n:=by
  simp [IntKind.wrap,IntKind.bits,IntKind.signed];omega
theorem Zg (a:Nat)(ha:a<2 ^63):(BitVec.ofInt 64 (a:Int)).toNat=a:=by
  simp;omega
theorem Jc (a b:Nat)(ha:a<2 ^63)(hb:b<2 ^63):Go.bits .and .i64 (a:Int) (b:Int)=((a &&&b:Nat):Int):=by
  have hab:a &&&b<2 ^63:=Nat.and_lt_two_pow _ hb
  show IntKind.i64.wrap (((BitVec.ofInt 64 (a:Int) &&&BitVec.ofInt 64 (b:Int)).toNat:Nat):Int)=_
  rw [BitVec.toNat_and,Zg a ha,Zg b hb]
  exact Jf (by omega) (by omega)
theorem zdK (a b:Nat)(ha:a<2 ^63)(hb:b<2 ^63):Go.bits .or .i64 (a:Int) (b:Int)=((a |||b:Nat):Int):=by
  have hab:a |||b<2 ^63:=Nat.or_lt_two_pow ha hb
  show IntKind.i64.wrap (((BitVec.ofInt 64 (a:Int) |||BitVec.ofInt 64 (b:Int)).toNat:Nat):Int)=_
  rw [BitVec.toNat_or,Zg a ha,Zg b hb]
  exact Jf (by omega) (by omega)
theorem zak {a b n:Nat}(ha:a<2 ^n):sdiff a b<2 ^n:=Nat.xor_lt_two_pow ha (Nat.lt_of_le_of_lt Nat.and_le_left ha)
theorem Zy (a b:Nat)(ha:a<2 ^63)(hb:b<2 ^63):Go.bits .andNot .i64 (a:Int) (b:Int)=((sdiff a b:Nat):Int):=by
  have hab:sdiff a b<2 ^63:=zak ha
  show IntKind.i64.wrap (((BitVec.ofInt 64 (a:Int) &&& ~~~ BitVec.ofInt 64 (b:Int)).toNat:Nat):Int)=_
  have:(BitVec.ofInt 64 (a:Int) &&& ~~~ BitVec.ofInt 64 (b:Int)).toNat=sdiff a b:=by
    apply Nat.eq_of_testBit_eq
    intro i
    rw [qQ]
    rw [BitVec.toNat_and,Nat.testBit_and,Zg a ha]
    by_cases hi:i<64
    · rw [BitVec.testBit_toNat,BitVec.getLsbD_not,←BitVec.testBit_toNat,Zg b hb];simp [hi]
    · have:a.testBit i=false:=Nat.testBit_lt_two_pow (Nat.lt_of_lt_of_le ha (Nat.pow_le_pow_right (by decide) (by omega)))
      simp [this]
  rw [this]
  exact Jf (by omega) (by omega)
theorem Zu (e:Nat)(he:e<63):shl .i64 1 (e:Int)=((2 ^e:Nat):Int):=by
  have h:2 ^e<2 ^63:=Nat.pow_lt_pow_right (by decide) he
  unfold shl
  rw [Nat.min_eq_left (by simp [IntKind.bits];omega),Int.one_mul,Int.toNat_natCast]
  rw [show (2:Int) ^e=((2 ^e:Nat):Int) by simp]
  generalize 2 ^e=x at h ⊢
  exact Jf (by omega) (by omega)
theorem zdE (a e:Nat)(he:e≤64):shr .i64 (a:Int) (e:Int)=((a >>> e:Nat):Int):=by
  unfold shr
  rw [Nat.min_eq_left (by simp [IntKind.bits];omega),Int.toNat_natCast,Nat.shiftRight_eq_div_pow]
  simp
theorem J2 (a e:Nat)(ha:a<2 ^63)(he:e≤64):(Go.bits .and .i64 (shr .i64 (a:Int) (e:Int)) 1==1)=a.testBit e:=by
  have h1:a >>> e<2 ^63:=Nat.lt_of_le_of_lt (by rw [Nat.shiftRight_eq_div_pow];exact Nat.div_le_self _ _) ha
  rw [zdE a e he,show (1:Int)=((1:Nat):Int) from rfl,Jc _ _ h1 (by decide)]
  simp only [Nat.testBit,Nat.and_comm 1]
  rcases Nat.mod_two_eq_zero_or_one (a >>> e) with h|h<;>simp [Nat.and_one_is_mod,h]<;>rfl

end Go.Proofs.YtjlbfbpjcmjdfaaGreat.Bits
end
section
namespace Go.Proofs.YtjlbfbpjcmjdfaaGreat.L
open Go.RowKit Go.Proofs.YtjlbfbpjcmjdfaaGreatW.PrintWords Go.Proofs.YtjlbfbpjcmjdfaaGreatW.PrintLast Go.Proofs.YtjlbfbpjcmjdfaaGreatW.PrintMore
open Go.Proofs.YtjlbfbpjcmjdfaaGreat.Bits

theorem Ev.succ {α:Type}{g:Nat→Option α}{r:α}(h:Ev (fun k=>g (k+1)) r):Ev g r:=Ev.step (fun _=>rfl) h
theorem Ev.some {α:Type}{r s:α}(h:r=s):Ev (fun _=>Option.some r) s:=h ▸Ev.now r
theorem Ev.uniq {α:Type}{g:Nat→Option α}{r s:α}(h:Ev g r)(k:Ev g s):r=s:=by
  obtain ⟨a,h⟩:=h;obtain ⟨b,k⟩:=k
  have h1:=h (max a b) (Nat.le_max_left _ _);have h2:=k (max a b) (Nat.le_max_right _ _)
  exact Option.some.inj (h1.symm.trans h2)
theorem zB {i:Nat}(h:i<9223372036854775807):wrap64 ((i:Int)+1)=((i+1:Nat):Int):=ja (by omega) (by omega)

/-- A loop that asks of all places, and says no at the first that fails. -/
theorem zam (L:Nat→Int→Option Bool)(n:Nat)(p:Nat→Bool)(hend: ∀k,L (k+1) (n:Int)=some true)
    (hstep: ∀i,i<n→ ∀k,L (k+1) (i:Int)=if p i=true then L k ((i+1:Nat):Int) else some false):
    ∀d i,i+d=n→Ev (fun k=>L k (i:Int)) ((List.range' i d).all p)
  |0,i,hd=>by
    obtain rfl:i=n:=by omega
    refine Ev.succ ?_
    simp only [hend];exact Ev.now _
  |d+1,i,hd=>by
    refine Ev.succ ?_
    rw [List.range'_succ,List.all_cons]
    simp only [hstep i (by omega)]
    cases hp:p i
    · simp only [Bool.false_eq_true,if_false,Bool.false_and];exact Ev.now _
    · simp only [if_true,Bool.true_and];exact zam L n p hend hstep d (i+1) (by omega)
theorem ZN (L:Nat→Int→Option Bool)(n:Nat)(p:Nat→Bool)(hend: ∀k,L (k+1) (n:Int)=some true)
    (hstep: ∀i,i<n→ ∀k,L (k+1) (i:Int)=if p i=true then L k ((i+1:Nat):Int) else some false):
    Ev (fun k=>L k 0) ((List.range n).all p):=by
  rw [List.range_eq_range'];exact zam L n p hend hstep n 0 (by omega)
/-- A loop that gathers: at each place the state takes a step; an invariant goes along. -/
theorem Ju {σ ρ:Type}(L:Nat→σ→Int→Option ρ)(n:Nat)(step:σ→Nat→σ)(inv:Nat→σ→Prop)(fin:σ→ρ)
    (hend: ∀s,inv n s→Ev (fun k=>L (k+1) s (n:Int)) (fin s))
    (hstep: ∀i s,i<n→inv i s→inv (i+1) (step s i)∧ ∀r,Ev (fun k=>L k (step s i) ((i+1:Nat):Int)) r→Ev (fun k=>L (k+1) s (i:Int)) r):
    ∀d i s,i+d=n→inv i s→Ev (fun k=>L k s (i:Int)) (fin ((List.range' i d).foldl step s))
  |0,i,s,hd,hi=>by
    obtain rfl:i=n:=by omega
    exact Ev.succ (hend s hi)
  |d+1,i,s,hd,hi=>by
    refine Ev.succ ?_
    obtain ⟨h1,h2⟩:=hstep i s (by omega) hi
    exact h2 _ (Ju L n step inv fin hend hstep d (i+1) (step s i) (by omega) h1)
theorem yt {σ ρ:Type}(L:Nat→σ→Int→Option ρ)(n:Nat)(step:σ→Nat→σ)(inv:Nat→σ→Prop)(fin:σ→ρ)
    (hend: ∀s,inv n s→Ev (fun k=>L (k+1) s (n:Int)) (fin s))
    (hstep: ∀i s,i<n→inv i s→inv (i+1) (step s i)∧ ∀r,Ev (fun k=>L k (step s i) ((i+1:Nat):Int)) r→Ev (fun k=>L (k+1) s (i:Int)) r) (s:σ) (h:inv 0 s):
    Ev (fun k=>L k s 0) (fin ((List.range n).foldl step s)):=by
  rw [List.range_eq_range'];exact Ju L n step inv fin hend hstep n 0 s (by omega) h

/-- A loop that gathers, and what stands behind it. -/
theorem qJ {σ ρ:Type}(L:Nat→σ→Int→Option ρ)(n:Nat)(step:σ→Nat→σ)(inv:Nat→σ→Prop)
    (hstep: ∀i s,i<n→inv i s→inv (i+1) (step s i)∧ ∀r,Ev (fun k=>L k (step s i) ((i+1:Nat):Int)) r→Ev (fun k=>L (k+1) s (i:Int)) r) (s:σ) (h:inv 0 s):
    inv n ((List.range n).foldl step s)∧ ∀r,Ev (fun k=>L k ((List.range n).foldl step s) (n:Int)) r→Ev (fun k=>L k s 0) r:=by
  have key: ∀d i s,i+d=n→inv i s→inv n ((List.range' i d).foldl step s)∧ ∀r,Ev (fun k=>L k ((List.range' i d).foldl step s) (n:Int)) r→Ev (fun k=>L k s (i:Int)) r:=by
    intro d
    induction d with
    | zero => intro i s hd hi; obtain rfl : i = n := by omega
              exact ⟨hi,fun r h=>h⟩
    |succ d ih=>
      intro i s hd hi
      obtain ⟨h1,h2⟩:=hstep i s (by omega) hi
      obtain ⟨h3,h4⟩:=ih (i+1) (step s i) (by omega) h1
      rw [List.range'_succ,List.foldl_cons]
      exact ⟨h3,fun r h=>Ev.succ (h2 r (h4 r h))⟩
  rw [List.range_eq_range']
  exact key n 0 s (by omega) h
/-- A loop from its end back: what a place makes of the answer of what follows. -/
theorem vy {ρ:Type}(L:Nat→Int→Option ρ)(n:Nat)(f:Nat→ρ→ρ)(last:ρ)(hend:Ev (fun k=>L (k+1) (n:Int)) last)
    (hstep: ∀i,i<n→ ∀r,Ev (fun k=>L k ((i+1:Nat):Int)) r→Ev (fun k=>L (k+1) (i:Int)) (f i r)):Ev (fun k=>L k 0) ((List.range n).foldr f last):=by
  have key: ∀d i,i+d=n→Ev (fun k=>L k (i:Int)) ((List.range' i d).foldr f last):=by
    intro d
    induction d with
    | zero => intro i hd; obtain rfl : i = n := by omega
              exact Ev.succ hend
    |succ d ih=>
      intro i hd
      rw [List.range'_succ,List.foldr_cons]
      exact Ev.succ (hstep i (by omega) _ (ih (i+1) (by omega)))
  rw [List.range_eq_range']
  exact key n 0 (by omega)
theorem JF {α:Type}(p:α→Bool)(r:Bool): ∀l:List α,l.foldr (fun i r=>p i&&r) r=(l.all p&&r)
  | []=>by simp
  |a::l=>by rw [List.foldr_cons,List.all_cons,JF p r l,Bool.and_assoc]
theorem Qs {α:Type}(p:α→Bool)(r:Bool): ∀l:List α,l.foldr (fun i r=>p i||r) r=(l.any p||r)
  | []=>by simp
  |a::l=>by rw [List.foldr_cons,List.any_cons,Qs p r l,Bool.or_assoc]
theorem qG (l:List Int)(j:Nat):rd l (j:Int)=l.getD j 0:=by simp [rd]
theorem ZE {α:Type}(l:List α)(d:α)(p:α→Bool):(List.range l.length).all (fun i=>p (l.getD i d))=l.all p:=by
  rw [Bool.eq_iff_iff,List.all_eq_true,List.all_eq_true]
  constructor
  · intro h x hx
    obtain ⟨i,hi,rfl⟩:=List.getElem_of_mem hx
    have:=h i (by simpa using hi)
    simpa [List.getElem?_eq_getElem hi] using this
  · intro h i hi
    have hi:i<l.length:=by simpa using hi
    have:=h l[i] (List.getElem_mem hi)
    simpa [List.getElem?_eq_getElem hi] using this
end Go.Proofs.YtjlbfbpjcmjdfaaGreat.L
end
section
namespace Go.Proofs.YtjlbfbpjcmjdfaaGreat.L
open Go.RowKit Go.Proofs.YtjlbfbpjcmjdfaaGreat.F Go.Proofs.YtjlbfbpjcmjdfaaGreatW.PrintWords Go.Proofs.YtjlbfbpjcmjdfaaGreatW.PrintLast Go.Proofs.YtjlbfbpjcmjdfaaGreatW.PrintMore
open Go.Proofs.YtjlbfbpjcmjdfaaGreat.Bits

theorem YR (l l':List Int)(h:l.length=l'.length):(List.range l.length).all (fun i=>decide (l.getD i 0=l'.getD i 0))=decide (l=l'):=by
  rw [Bool.eq_iff_iff,List.all_eq_true,decide_eq_true_iff]
  constructor
  · intro hh
    apply List.ext_getElem h
    intro i h1 h2
    have:=hh i (by simpa using h1)
    simpa [List.getElem?_eq_getElem h1,List.getElem?_eq_getElem h2] using this
  · rintro rfl i _
    simp

theorem YQ (l l':List Int)(h:l.length≤17592186044416):Ev (fun k=>qK.f k l l') (decide (l=l')):=by
  unfold qK.f
  by_cases e:l.length=l'.length
  · simp only [show ((l.length:Int)=(l'.length:Int)) by omega,if_true]
    rw [←YR l l' e]
    refine ZN _ _ _ (fun k=>by simp only [qK.l0,show ¬((l.length:Int)< (l.length:Int)) by omega,if_false]) ?_
    intro i hi k
    simp only [qK.l0,show ((i:Int)< (l.length:Int)) by omega,show ((i:Int)< (l'.length:Int)) by omega,show (0:Int)≤(i:Int) by omega,if_true,qG,zB (show i<9223372036854775807 by omega),decide_eq_true_eq]
  · simp only [show ¬((l.length:Int)=(l'.length:Int)) by omega,if_false]
    rw [show decide (l=l')=false by simp;rintro rfl;exact e rfl]
    exact Ev.now _
theorem zeh (l:List Int)(n:Int)(h:l.length≤17592186044416)(h0:0≤n)(h1:n≤1048576):vO.f l n=some (if n<l.length then -1 else n - l.length):=by
  unfold vO.f
  have hw:wrap64 (n - (l.length:Int))=n - (l.length:Int):=ja (by omega) (by omega)
  rw [hw]
  split
  · rw [if_pos (by omega)]
  · rw [if_neg (by omega)]
theorem V8 (l:List Int): ∀n,n≤l.length→(List.range n).foldl (fun a i=>a.set i (l.getD i 0)) (List.replicate l.length 0)=l.take n++List.replicate (l.length - n) 0
  |0,_=>by simp
  |n+1,h=>by
    rw [List.range_succ,List.foldl_append,V8 l n (by omega)]
    simp only [List.foldl_cons,List.foldl_nil]
    obtain ⟨m,hm⟩: ∃m,l.length - n=m+1:=⟨l.length - n - 1,by omega⟩
    rw [hm,List.replicate_succ,List.set_append_right _ _ (by simp;omega)]
    have:n - (List.take n l).length=0:=by simp;omega
    rw [this,List.set_cons_zero,show l.length - (n+1)=m by omega]
    have hg:l.getD n 0=l[n]:=by simp [List.getElem?_eq_getElem (show n<l.length by omega)]
    rw [List.take_succ_eq_append_getElem (by omega),List.append_assoc,List.singleton_append,hg]

theorem zep (l:List Int)(h:l.length≤17592186044416):Ev (fun k=>qY.f k l) l:=by
  unfold qY.f
  simp only [show (0:Int)≤(l.length:Int) by omega,Int.toNat_natCast,show l.length≤35184372088832 by omega,if_true]
  have key:=yt (fun k s i=>qY.l0 k l s i) l.length (fun a i=>a.set i (l.getD i 0)) (fun _ s=>s.length=l.length) id
    (fun s hs=>by
      simp only [qY.l0,show ¬((l.length:Int)< (l.length:Int)) by omega,if_false]
      exact Ev.now _)
    (fun i s hi hs=>⟨by simp [hs],fun r hr=>by
      simp only [qY.l0,show ((i:Int)< (l.length:Int)) by omega,show ((i:Int)< (s.length:Int)) by omega,show (0:Int)≤(i:Int) by omega,if_true,Int.toNat_natCast,qG,zB (show i<9223372036854775807 by omega)]
      exact hr⟩) (List.replicate l.length 0) (by simp)
  rw [V8 l l.length (Nat.le_refl _)] at key
  simpa using key
end Go.Proofs.YtjlbfbpjcmjdfaaGreat.L
end
section
namespace Go.Proofs.YtjlbfbpjcmjdfaaGreat.L
open Go.RowKit Go.Proofs.YtjlbfbpjcmjdfaaGreatW.PrintWords Go.Proofs.YtjlbfbpjcmjdfaaGreatW.PrintLast Go.Proofs.YtjlbfbpjcmjdfaaGreatW.PrintMore
open Go.Proofs.YtjlbfbpjcmjdfaaGreat.Bits
set_option linter.unusedSimpArgs false
set_option linter.unusedVariables false
abbrev Tab:=Nat→Nat→Int
def zY (M:Tab)(R C:Nat):List Int:=(List.range (R*C)).map fun k=>M (k / C) (k%C)
def jJ (M:Tab)(C i:Nat):List Int:=(List.range C).map (M i)
def qO (M:Tab)(R C:Nat):List (List Int):=(List.range R).map (jJ M C)
def qf (l:List Int)(C:Nat):Tab:=fun i j=>l.getD (i*C+j) 0
def upd (M:Tab)(i j:Nat)(v:Int):Tab:=fun a b=>if a=i∧b=j then v else M a b
theorem QZ {i j C:Nat}(hj:j<C):(i*C+j) / C=i:=by
  rw [Nat.mul_comm,Nat.mul_add_div (by omega),Nat.div_eq_of_lt hj,Nat.add_zero]
theorem Jp {i j C:Nat}(hj:j<C):(i*C+j)%C=j:=by
  rw [Nat.mul_comm,Nat.mul_add_mod,Nat.mod_eq_of_lt hj]
theorem jX {R C i j:Nat}(hi:i<R)(hj:j<C):i*C+j<R*C:=by
  have:=Nat.mul_le_mul_right C (show i+1≤R by omega)
  rw [Nat.succ_mul] at this;omega
theorem qm (M:Tab)(R C:Nat):(zY M R C).length=R*C:=by simp [zY]
theorem j9 (M:Tab)(C i:Nat):(jJ M C i).length=C:=by simp [jJ]
theorem q2 (M:Tab)(R C:Nat):(qO M R C).length=R:=by simp [qO]
theorem qV (M:Tab){R C i j:Nat}(hi:i<R)(hj:j<C):(zY M R C).getD (i*C+j) 0=M i j:=by
  have h:=jX hi hj
  simp [zY,List.getD_eq_getElem?_getD,h,QZ hj,Jp hj]
theorem Zm (M:Tab){C i j:Nat}(hj:j<C):(jJ M C i).getD j 0=M i j:=by
  simp [jJ,List.getD_eq_getElem?_getD,hj]
theorem Qa (M:Tab){R C i:Nat}(hi:i<R):(qO M R C).getD i []=jJ M C i:=by
  simp [qO,List.getD_eq_getElem?_getD,hi]
theorem V5 {R C k:Nat}(h:k<R*C):0<C:=by
  rcases Nat.eq_zero_or_pos C with rfl|h'
  · simp at h
  · exact h'
theorem Yg {R C k:Nat}(h:k<R*C):k / C<R:=(Nat.div_lt_iff_lt_mul (V5 h)).2 h
theorem zaa {M N:Tab}{R C:Nat}(h: ∀i j,i<R→j<C→M i j=N i j):zY M R C=zY N R C:=by
  refine List.map_congr_left fun k hk=>h _ _ (Yg (List.mem_range.1 hk)) (Nat.mod_lt _ (V5 (List.mem_range.1 hk)))
theorem JM {M N:Tab}{C i:Nat}(h: ∀j,j<C→M i j=N i j):jJ M C i=jJ N C i:=List.map_congr_left fun j hj=>h j (List.mem_range.1 hj)
theorem Y1 {M N:Tab}{R C:Nat}(h: ∀i j,i<R→j<C→M i j=N i j):qO M R C=qO N R C:=List.map_congr_left fun i hi=>JM fun j hj=>h i j (List.mem_range.1 hi) hj
theorem JA {l:List Int}{R C:Nat}(hl:l.length=R*C):zY (qf l C) R C=l:=by
  refine List.ext_getElem (by rw [qm,hl]) fun k h1 h2=> ?_
  simp only [zY,qf,List.getElem_map,List.getElem_range]
  rw [Nat.mul_comm,Nat.div_add_mod]
  simp [List.getD_eq_getElem?_getD,h2]
theorem yy (M:Tab){R C i j:Nat}(hi:i<R)(hj:j<C)(v:Int):(zY M R C).set (i*C+j) v=zY (upd M i j v) R C:=by
  refine List.ext_getElem (by simp [zY]) fun k h1 h2=> ?_
  rw [List.getElem_set]
  simp only [zY,upd,List.getElem_map,List.getElem_range]
  by_cases c:i*C+j=k
  · subst c
    rw [if_pos rfl,if_pos ⟨QZ hj,Jp hj⟩]
  · rw [if_neg c,if_neg]
    rintro ⟨rfl,rfl⟩
    exact c (by rw [Nat.mul_comm];exact Nat.div_add_mod k C)
theorem zcl (M:Tab){C i j:Nat}(hj:j<C)(v:Int):(jJ M C i).set j v=jJ (upd M i j v) C i:=by
  refine List.ext_getElem (by simp [jJ]) fun k h1 h2=> ?_
  rw [List.getElem_set]
  simp only [jJ,upd,List.getElem_map,List.getElem_range]
  by_cases c:j=k
  · subst c;simp
  · simp [c,show ¬k=j from fun h=>c h.symm]
theorem zbb (M N:Tab){R C i:Nat}(hi:i<R)(h: ∀a b,a≠i→N a b=M a b):(qO M R C).set i (jJ N C i)=qO N R C:=by
  refine List.ext_getElem (by simp [qO]) fun k h1 h2=> ?_
  rw [List.getElem_set]
  simp only [qO,List.getElem_map,List.getElem_range]
  by_cases c:i=k
  · subst c;rw [if_pos rfl]
  · rw [if_neg c];exact JM fun j _=>(h k j (Ne.symm c)).symm
theorem VO (M:Tab){R C i j:Nat}(hi:i<R)(hj:j<C)(v:Int):(qO M R C).set i ((jJ M C i).set j v)=qO (upd M i j v) R C:=by
  rw [zcl M hj]
  exact zbb _ _ hi fun a b h=>by unfold upd;rw [if_neg (fun c=>h c.1)]
theorem Yq (M:Tab)(R C:Nat):(qO M R C).flatten=zY M R C:=by
  induction R with
  |zero=>simp [qO,zY]
  |succ R ih=>
    have h1:qO M (R+1) C=qO M R C++[jJ M C R]:=by simp [qO,List.range_succ]
    rw [h1,List.flatten_append,ih,List.flatten_singleton]
    refine List.ext_getElem (by simp [zY,jJ,Nat.succ_mul]) fun k h2 h3=> ?_
    rw [List.getElem_append]
    simp only [qm]
    split
    · simp [zY]
    · rename_i hk
      simp only [qm,Nat.succ_mul] at h3
      have hm:k - R*C<C:=by omega
      obtain ⟨m,rfl⟩: ∃m,k=R*C+m:=⟨k - R*C,by omega⟩
      simp only [jJ,zY,List.getElem_map,List.getElem_range,Nat.add_sub_cancel_left]
      rw [Nat.add_sub_cancel_left] at hm
      rw [QZ hm,Jp hm]
theorem zb5 (M:Tab){R C t:Nat}(h:t≤R):(qO M R C).take t=qO M t C:=by
  rw [qO,←List.map_take,List.take_range,Nat.min_eq_left h];rfl
theorem Ya (M:Tab){R C t:Nat}(h:t≤R):(zY M R C).take (t*C)=zY M t C:=by
  rw [zY,←List.map_take,List.take_range,Nat.min_eq_left (Nat.mul_le_mul_right _ h)];rfl
def jR (F:(Nat→Int)→Nat→Int)(M:Tab)(j:Nat):Tab:=fun i c=>if c=j then F (fun i=>M i j) i else M i c
def qt (F:(Nat→Int)→Nat→Int)(M:Tab):Tab:=fun i c=>F (fun i=>M i c) i
theorem zbX (F:(Nat→Int)→Nat→Int)(M:Tab)(n:Nat):(List.range n).foldl (jR F) M=fun i c=>if c<n then F (fun i=>M i c) i else M i c:=by
  induction n with
  |zero=>funext i c;simp
  |succ n ih=>
    rw [List.range_succ,List.foldl_append,List.foldl_cons,List.foldl_nil,ih]
    funext i c
    unfold jR
    by_cases h1:c=n
    · subst h1
      simp
    · by_cases h2:c<n
      · simp [h1,h2,Nat.lt_succ_of_lt h2]
      · simp [h1,h2,show ¬c<n+1 by omega]
theorem yK (F:(Nat→Int)→Nat→Int)(M:Tab)(R C:Nat):zY ((List.range C).foldl (jR F) M) R C=zY (qt F M) R C:=by
  rw [zbX];exact zaa fun i j _ hj=>by simp [hj,qt]
theorem Q1 (F:(Nat→Int)→Nat→Int)(M:Tab)(R C:Nat):qO ((List.range C).foldl (jR F) M) R C=qO (qt F M) R C:=by
  rw [zbX];exact Y1 fun i j _ hj=>by simp [hj,qt]
def jv (a b:Nat)(f:Nat→Int)(i:Nat):Int:=if i=b then f a else if i=a then f b else f i
def ym (p:Int)(r:Nat)(x:Int)(f:Nat→Int)(i:Nat):Int:=if i=r then Int.tmod (f r*x) p else f i
def Jr (p:Int)(r i0:Nat)(g:Int)(f:Nat→Int)(i:Nat):Int:=if i=i0 then Int.tmod (f i0+(p - g)*f r) p else f i
def jA (p:Int)(r col:Nat)(M:Tab)(i:Nat):Tab:=if i=r then M else qt (Jr p r i (M i col)) M
def Zt (p:Int)(r col R:Nat)(M:Tab):Tab:=(List.range R).foldl (jA p r col) M
/-- The inverse of a number in a V3 field. -/
def vZ (p a:Int):Int:=((a.toNat ^(p.toNat - 2)%p.toNat:Nat):Int)
def vM (p:Int)(R t col:Nat)(M:Tab):Tab:=Zt p t col R (qt (ym p t (vZ p (M t col))) M)
/-- Where a column has a number that is not 0, from row t on. -/
def qc (M:Tab)(R t col:Nat):Nat:=((List.range' t (R - t)).find? fun i=>decide (M i col≠0)).getD R
structure Red where
  t:Nat
  M:Tab
  ps:List Int
def qd (p:Int)(R:Nat)(s:Red)(j:Nat):Red:=
  if qc s.M R s.t j<R then ⟨s.t+1,vM p R s.t j (qt (jv s.t (qc s.M R s.t j)) s.M),s.ps++[(j:Int)]⟩ else s
def vR (p:Int)(R C:Nat)(M:Tab):Red:=(List.range C).foldl (qd p R) ⟨0,M,[]⟩
def InF (p:Int)(R C:Nat)(M:Tab):Prop:= ∀i j,i<R→j<C→0≤M i j∧M i j<p
theorem J4 {x p:Int}(h:0≤x)(hp:2≤p):0≤Int.tmod x p∧Int.tmod x p<p:=by
  rw [Int.tmod_eq_emod_of_nonneg h];exact ⟨Int.emod_nonneg _ (by omega),Int.emod_lt_of_pos _ (by omega)⟩
section
variable {p:Int} {R C:Nat} {M:Tab}
theorem InF.swap (h:InF p R C M){a b:Nat}(ha:a<R)(hb:b<R):InF p R C (qt (jv a b) M):=fun i j hi hj=>by
  unfold qt jv
  split
  · exact h a j ha hj
  · split
    · exact h b j hb hj
    · exact h i j hi hj
theorem InF.scale (h:InF p R C M)(hp:2≤p){r:Nat}(hr:r<R){x:Int}(hx:0≤x):InF p R C (qt (ym p r x) M):=fun i j hi hj=>by
  unfold qt ym
  split
  · exact J4 (Int.mul_nonneg (h r j hr hj).1 hx) hp
  · exact h i j hi hj
theorem InF.elim (h:InF p R C M)(hp:2≤p){r i0:Nat}(hr:r<R)(hi0:i0<R){g:Int}(hg:0≤g∧g<p):InF p R C (qt (Jr p r i0 g) M):=fun i j hi hj=>by
  unfold qt Jr
  split
  · refine J4 ?_ hp
    have h1:=(h i0 j hi0 hj).1
    have h2:=Int.mul_nonneg (show 0≤p - g by omega) (h r j hr hj).1
    show 0≤M i0 j+(p - g)*M r j
    exact Int.add_nonneg h1 h2
  · exact h i j hi hj
theorem InF.jA (h:InF p R C M)(hp:2≤p){r col i:Nat}(hr:r<R)(hc:col<C)(hi:i<R):InF p R C (jA p r col M i):=by
  unfold L.jA
  split
  · exact h
  · exact h.elim hp hr hi (h i col hi hc)
theorem InF.Zt (hp:2≤p){r col:Nat}(hr:r<R)(hc:col<C): ∀n,n≤R→ ∀ {M:Tab},InF p R C M→InF p R C ((List.range n).foldl (L.jA p r col) M)
  |0,_,_,h=>h
  |n+1,hn,M,h=>by
    rw [List.range_succ,List.foldl_append]
    exact (InF.Zt hp hr hc n (by omega) h).jA hp hr hc (by omega)
theorem Zv (p a:Int):0≤vZ p a:=Int.natCast_nonneg _
theorem zbs {p:Int}(hp:2≤p)(a:Int):vZ p a<p:=by
  have h:a.toNat ^(p.toNat - 2)%p.toNat<p.toNat:=Nat.mod_lt _ (by omega)
  unfold vZ
  omega
theorem InF.pivot (h:InF p R C M)(hp:2≤p){r col:Nat}(hr:r<R)(hc:col<C):InF p R C (vM p R r col M):=by
  unfold vM L.Zt
  exact InF.Zt hp hr hc R (Nat.le_refl _) (h.scale hp hr (Zv _ _))
end
theorem ZT {M:Tab}{R a col:Nat}(h:a<R):qc M R a col=if M a col=0 then qc M R (a+1) col else a:=by
  unfold qc
  obtain ⟨m,hm⟩: ∃m,R - a=m+1:=⟨R - a - 1,by omega⟩
  rw [hm,List.range'_succ,List.find?_cons,show R - (a+1)=m by omega]
  by_cases c:M a col=0
  · simp [c]
  · simp [c]
theorem y0 (M:Tab)(R col:Nat):qc M R R col=R:=by simp [qc]
theorem j7 (M:Tab)(R col:Nat): ∀d a,a+d=R→a≤qc M R a col∧qc M R a col≤R∧(qc M R a col<R→M (qc M R a col) col≠0)∧ ∀i,a≤i→i<qc M R a col→M i col=0
  |0,a,h=>by
    obtain rfl:a=R:=by omega
    rw [y0];exact ⟨Nat.le_refl _,Nat.le_refl _,fun h=>absurd h (by omega),fun i h1 h2=>absurd h1 (by omega)⟩
  |d+1,a,h=>by
    rw [ZT (show a<R by omega)]
    by_cases c:M a col=0
    · rw [if_pos c]
      obtain ⟨h1,h2,h3,h4⟩:=j7 M R col d (a+1) (by omega)
      exact ⟨by omega,h2,h3,fun i h5 h6=>by
        rcases Nat.eq_or_lt_of_le h5 with rfl|h7
        · exact c
        · exact h4 i h7 h6⟩
    · rw [if_neg c]
      exact ⟨Nat.le_refl _,by omega,fun _=>c,fun i h5 h6=>absurd h5 (by omega)⟩
theorem JJ (M:Tab){R C i:Nat}(hi:i<R):((zY M R C).take ((i+1)*C)).drop (i*C)=jJ M C i:=by
  rw [Ya M (show i+1≤R by omega)]
  refine List.ext_getElem (by simp [zY,jJ,Nat.succ_mul]) fun k h1 h2=> ?_
  rw [j9] at h2
  simp only [List.getElem_drop,zY,jJ,List.getElem_map,List.getElem_range,QZ h2,Jp h2]
theorem Qp (M:Tab)(C i:Nat):zY M i C++jJ M C i=zY M (i+1) C:=by
  rw [←Yq,←Yq,show qO M (i+1) C=qO M i C++[jJ M C i] by simp [qO,List.range_succ],List.flatten_append,List.flatten_singleton]
theorem Yh (M:Tab)(C i:Nat):qO M i C++[jJ M C i]=qO M (i+1) C:=by simp [qO,List.range_succ]
theorem zb0 (M:Tab){R C a b:Nat}(ha:a<R)(hb:b<R):((qO M R C).set a (jJ M C b)).set b (jJ M C a)=qO (qt (jv a b) M) R C:=by
  refine List.ext_getElem (by simp [qO]) fun k h1 h2=> ?_
  rw [List.getElem_set,List.getElem_set]
  simp only [qO,List.getElem_map,List.getElem_range]
  by_cases c1:b=k
  · subst c1;rw [if_pos rfl];unfold jJ qt jv;simp
  · rw [if_neg c1]
    by_cases c2:a=k
    · subst c2;rw [if_pos rfl];unfold jJ qt jv;simp [Ne.symm c1]
    · rw [if_neg c2];unfold jJ qt jv;simp [Ne.symm c1,Ne.symm c2]
structure Jk (p:Int)(R C:Nat)(s:Red):Prop where
  t_le:s.t≤R
  inF:InF p R C s.M
  len:s.ps.length=s.t
theorem Jk.step {p:Int}{R C:Nat}{s:Red}(h:Jk p R C s)(hp:2≤p){j:Nat}(hj:j<C):Jk p R C (qd p R s j):=by
  unfold qd
  split
  · rename_i hlt
    obtain ⟨h1,h2,h3,h4⟩:=j7 s.M R j (R - s.t) s.t (by have:=h.t_le;omega)
    exact ⟨by show s.t+1≤R;omega,(h.inF.swap (by omega) hlt).pivot hp (by omega) hj,by show (s.ps++[(j:Int)]).length=s.t+1;rw [List.length_append,h.len];rfl⟩
  · exact h
theorem YC {p:Int}{R:Nat}{s:Red}(h:s.t=R)(j:Nat):qd p R s j=s:=by
  unfold qd
  rw [h,y0,if_neg (Nat.lt_irrefl _)]
theorem Q3 {p:Int}{R:Nat}: ∀(l:List Nat) {s:Red},s.t=R→l.foldl (qd p R) s=s
  | [],_,_=>rfl
  |j::l,s,h=>by rw [List.foldl_cons,YC h,Q3 l h]
end Go.Proofs.YtjlbfbpjcmjdfaaGreat.L
end
section
namespace Go.Proofs.YtjlbfbpjcmjdfaaGreat.L
open Go.RowKit Go.Proofs.YtjlbfbpjcmjdfaaGreat.F Go.Proofs.YtjlbfbpjcmjdfaaGreatW.PrintWords Go.Proofs.YtjlbfbpjcmjdfaaGreatW.PrintLast Go.Proofs.YtjlbfbpjcmjdfaaGreatW.PrintMore
open Go.Proofs.YtjlbfbpjcmjdfaaGreat.Bits
open Go.Proofs.YtjlbfbpjcmjdfaaGreat.Mt (sdiff qQ elems jW)

def ints (l:List Nat):List Int:=l.map fun x:Nat=>(x:Int)
theorem Qq (l:List Nat)(j:Nat)(h:j<l.length):rd (ints l) (j:Int)=((l[j]'h:Nat):Int):=by
  simp [rd,ints,List.getElem?_eq_getElem h]
theorem zN (l:List Nat):(ints l).length=l.length:=by simp [ints]
theorem Zc (s:Nat):(elems s).length≤8:=by
  have:=List.length_filter_le s.testBit (List.range 8);simpa [elems] using this
/-- A number that is a set of eight elements. -/
def isAny (s:Int):Bool:=decide (0≤s∧s<256)

theorem Q4 (s:Int):qS.f s=some (isAny s):=by
  unfold qS.f isAny
  split<;>simp<;>omega

theorem zcd (x a b:Int):zX.f x a b=some (decide (a≤x∧x≤b)):=by
  unfold zX.f
  split<;>simp<;>omega

theorem J3 (n s:Int):qx.f n s=some (decide (0≤n∧n≤8∧0≤s∧s<2 ^n.toNat)):=by
  unfold qx.f
  simp only [zcd,Option.bind_some,decide_eq_true_eq]
  split
  · rename_i h
    obtain ⟨m,rfl⟩:=Int.eq_ofNat_of_zero_le h.1
    have hm:m≤8:=by omega
    have hp:(2:Nat) ^m≤2 ^8:=Nat.pow_le_pow_right (by decide) hm
    rw [yq (by omega) (by omega),Zu m (by omega),if_pos (by omega)]
    rw [ja (by generalize 2 ^m=x at hp ⊢;omega) (by generalize 2 ^m=x at hp ⊢;omega)]
    simp only [Int.toNat_natCast,Option.some.injEq,decide_eq_decide]
    have:(2:Int) ^m=((2 ^m:Nat):Int):=by simp
    rw [this]
    generalize 2 ^m=x at hp ⊢
    omega
  · simp;omega

theorem YG (s e:Int):jI.f s e=some (isAny s&&decide (0≤e∧e<8)&&s.toNat.testBit e.toNat):=by
  unfold jI.f isAny
  simp only [J3,zcd,Option.bind_some,decide_eq_true_eq]
  by_cases hs:0≤s∧s<256
  · rw [if_pos (by simp;omega)]
    by_cases he:0≤e∧e<8
    · rw [if_pos (by omega)]
      obtain ⟨a,rfl⟩:=Int.eq_ofNat_of_zero_le hs.1
      obtain ⟨b,rfl⟩:=Int.eq_ofNat_of_zero_le he.1
      unfold qe.f
      rw [yq (by omega) (by omega),if_pos (by omega),J2 _ _ (by omega) (by omega)]
      simp;omega
    · rw [if_neg (by omega)];simp [he]
  · rw [if_neg (by simp;omega)];simp [hs]

theorem Jo (n:Int):qP.f n=some (decide (0≤n∧n≤8)):=by
  unfold qP.f
  split<;>simp<;>omega
theorem zbt (n s:Int):jZ.f n s=some (decide (0≤n∧n≤8∧0≤s∧s<2 ^n.toNat)):=by
  unfold jZ.f
  rw [Jo]
  simp only [Option.bind_some,decide_eq_true_eq]
  by_cases h:0≤n∧n≤8
  · rw [if_pos h]
    by_cases hs:s≥0
    · rw [if_pos hs,if_pos h.1]
      obtain ⟨m,rfl⟩:=Int.eq_ofNat_of_zero_le h.1
      rw [Zu m (by omega)]
      simp only [Int.toNat_natCast,Option.some.injEq,decide_eq_decide]
      have:(2:Int) ^m=((2 ^m:Nat):Int):=by simp
      rw [this]
      generalize 2 ^m=x
      omega
    · rw [if_neg hs];simp;omega
  · rw [if_neg h];simp;omega
theorem YS (s e:Int):jK.f s e=some (isAny s&&decide (0≤e∧e<8)&&s.toNat.testBit e.toNat):=by
  unfold jK.f
  rw [Q4]
  simp only [Option.bind_some]
  cases hs:isAny s
  · simp
  · rw [if_pos rfl]
    have hs':0≤s∧s<256:=by simpa [isAny] using hs
    by_cases h0:e≥0
    · rw [if_pos h0]
      by_cases h8:e<8
      · obtain ⟨a,rfl⟩:=Int.eq_ofNat_of_zero_le hs'.1
        obtain ⟨b,rfl⟩:=Int.eq_ofNat_of_zero_le h0
        rw [if_pos h8,if_pos h0,J2 _ _ (by omega) (by omega)]
        simp;omega
      · rw [if_neg h8];simp;omega
    · rw [if_neg h0];simp;omega

/-- The elements of a number: none where it is no set. -/
def y4 (s:Int):List Nat:=if isAny s then elems s.toNat else []

theorem ZF (s:Int):(y4 s).length≤8:=by
  unfold y4;split
  · exact Zc _
  · simp

theorem ZP (s:Int)(L:Nat→List Int→Int→Option (List Int))
    (hL: ∀k (acc:List Int) (i:Nat),L (k+1) acc i=if (i:Int)<8 then (if (isAny s&&decide (0≤(i:Int)∧(i:Int)<8)&&s.toNat.testBit (i:Int).toNat)=true then (if acc.length<17592186044416 then L k (acc++[(i:Int)]) (wrap64 ((i:Int)+1)) else none) else L k acc (wrap64 ((i:Int)+1))) else some acc):
    ∀(d i:Nat) (acc:List Int),i+d=8→acc.length≤i→Ev (fun k=>L k acc i) (acc++ints ((List.range' i d).filter fun e=>isAny s&&s.toNat.testBit e))
  |0,i,acc,hd,_=>by
    obtain rfl:i=8:=by omega
    refine Ev.succ ?_
    simp only [hL,show ¬(((8:Nat):Int)<8) by decide,if_false]
    simpa [ints] using Ev.now acc
  |d+1,i,acc,hd,ha=>by
    refine Ev.succ ?_
    have h8:(i:Int)<8:=by omega
    have hw:wrap64 ((i:Int)+1)=((i+1:Nat):Int):=ja (by omega) (by omega)
    simp only [hL,h8,hw,if_true,Int.toNat_natCast,Int.natCast_nonneg,decide_true,Bool.and_true,and_self]
    rw [List.range'_succ]
    cases hb:(isAny s&&s.toNat.testBit i)
    · simp only [hb,List.filter_cons,Bool.false_eq_true,if_false]
      exact ZP s L hL d (i+1) acc (by omega) (by omega)
    · simp only [hb,List.filter_cons,if_true,show acc.length<17592186044416 by omega]
      have:=ZP s L hL d (i+1) (acc++[(i:Int)]) (by omega) (by simp;omega)
      simpa [ints] using this

theorem V7 (s:Int):(List.range' 0 8).filter (fun e=>isAny s&&s.toNat.testBit e)=y4 s:=by
  unfold y4 elems
  rw [List.range_eq_range']
  cases isAny s<;>simp

theorem YB (s:Int):Ev (fun k=>qq.f k s) (ints (y4 s)):=by
  have:=ZP s (fun k acc i=>qq.l0 k s acc i) (fun k acc i=>by simp only [qq.l0,YG,Option.bind_some]) 8 0 [] rfl (by simp)
  rw [V7] at this
  simpa [qq.f] using this
theorem Ze (s:Int):Ev (fun k=>zZ.f k s) (ints (y4 s)):=by
  have:=ZP s (fun k acc i=>zZ.l0 k s acc i) (fun k acc i=>by simp only [zZ.l0,YS,Option.bind_some]) 8 0 [] rfl (by simp)
  rw [V7] at this
  simpa [zZ.f] using this

theorem Zp (s n:Nat)(hn:n≤8)(h:s<2 ^n):elems s=(List.range n).filter s.testBit:=by
  unfold elems
  obtain ⟨m,hm⟩: ∃m,8=n+m:=⟨8 - n,by omega⟩
  rw [hm,List.range_add,List.filter_append]
  have:List.filter s.testBit (List.map (fun x=>n+x) (List.range m))=[]:=by
    rw [List.filter_eq_nil_iff]
    intro a ha
    obtain ⟨b,_,rfl⟩:=List.mem_map.1 ha
    rw [Nat.testBit_lt_two_pow (Nat.lt_of_lt_of_le h (Nat.pow_le_pow_right (by decide) (by omega)))]
    simp
  rw [this,List.append_nil]

end Go.Proofs.YtjlbfbpjcmjdfaaGreat.L
end
section
namespace Go.Proofs.YtjlbfbpjcmjdfaaGreat.L
open Go.RowKit Go.Proofs.YtjlbfbpjcmjdfaaGreat.F Go.Proofs.YtjlbfbpjcmjdfaaGreatW.PrintWords Go.Proofs.YtjlbfbpjcmjdfaaGreatW.PrintLast Go.Proofs.YtjlbfbpjcmjdfaaGreatW.PrintMore
open Go.Proofs.YtjlbfbpjcmjdfaaGreat.Bits
set_option linter.unusedSimpArgs false
def isField (p:Int):Bool:=decide (p=2∨p=3∨p=5∨p=7)
theorem zb8 (p:Int):jb.f p=some (isField p):=by
  unfold jb.f isField
  by_cases h2:p=2
  · simp [h2]
  by_cases h3:p=3
  · simp [h3]
  by_cases h5:p=5
  · simp [h5]
  rw [if_neg h2,if_neg h3,if_neg h5]
  simp only [h2,h3,h5,false_or]
  rfl
theorem zb1 (p:Int):qu.f p=some (isField p):=by
  unfold qu.f isField
  by_cases h2:p=2
  · simp [h2]
  by_cases h3:p=3
  · simp [h3]
  by_cases h5:p=5
  · simp [h5]
  rw [if_neg h2,if_neg h3,if_neg h5]
  simp only [h2,h3,h5,false_or]
  rfl
/-- What a matrix is. -/
def ju (p r c:Int)(l:List Int):Bool:=
  isField p&&decide (0≤r∧r≤8∧0≤c∧c≤8∧(l.length:Int)=r*c)&&l.all fun x=>decide (0≤x∧x<p)
theorem vP {p r c:Int}{l:List Int}(h: ¬(isField p=true∧0≤r∧r≤8∧0≤c∧c≤8∧(l.length:Int)=r*c)):ju p r c l=false:=by
  unfold ju
  cases hp:isField p
  · simp
  · have: ¬(0≤r∧r≤8∧0≤c∧c≤8∧(l.length:Int)=r*c):=fun hh=>h ⟨hp,hh⟩
    simp only [this,decide_false,Bool.and_false,Bool.false_and]
theorem Qb {r c:Int}(hr:0≤r∧r≤8)(hc:0≤c∧c≤8):0≤r*c∧r*c≤64:=
  ⟨Int.mul_nonneg hr.1 hc.1,by have:=Int.mul_le_mul hr.2 hc.2 hc.1 (by omega:(0:Int)≤8);omega⟩
theorem Z0 {p r c:Int}{l:List Int}(h:isField p=true∧0≤r∧r≤8∧0≤c∧c≤8∧(l.length:Int)=r*c):ju p r c l=l.all fun x=>decide (0≤x∧x<p):=by
  unfold ju;simp only [h.1,h.2,and_self,decide_true,Bool.and_self,Bool.true_and]
theorem j4 {p:Int}(h:isField p=true):2≤p∧p≤7:=by
  have:p=2∨p=3∨p=5∨p=7:=of_decide_eq_true h
  omega
theorem QW (p r c:Int)(l:List Int):Ev (fun k=>zR.f k p r c l) (ju p r c l):=by
  have no: ∀p r c l,Ev (fun k=>zR.j0 k true p r c l) false:=fun p r c l=>Ev.succ (by simp only [zR.j0,if_true];exact Ev.now _)
  unfold zR.f
  simp only [zcd,zb1,Option.bind_some,decide_eq_true_eq]
  by_cases hp:isField p=true
  · simp only [hp,if_true]
    by_cases hr:0≤r∧r≤8
    · simp only [hr,and_self,if_true]
      by_cases hc:0≤c∧c≤8
      · simp only [hc,and_self,if_true]
        have hm:=Qb hr hc
        have hw:wrap64 (r*c)=r*c:=ja (by omega) (by omega)
        rw [hw]
        by_cases he:(l.length:Int)=r*c
        · rw [show ((l.length:Int) != r*c)=false by simp [he],Z0 ⟨hp,hr.1,hr.2,hc.1,hc.2,he⟩]
          have hp2:=j4 hp
          refine Ev.succ ?_
          simp only [zR.j0,Bool.false_eq_true,if_false]
          rw [←ZE l 0]
          refine ZN (fun k i=>zR.l0 k i p r c l) _ _ (fun k=>by simp only [zR.l0,show ¬((l.length:Int)< (l.length:Int)) by omega,if_false]) ?_
          intro i hi k
          have hw:wrap64 (p - 1)=p - 1:=ja (by omega) (by omega)
          simp only [zR.l0,show ((i:Int)< (l.length:Int)) by omega,show (0:Int)≤(i:Int) by omega,if_true,qG,zB (show i<9223372036854775807 by omega),zcd,hw,Option.bind_some,decide_eq_true_eq]
          generalize l.getD i 0=x
          by_cases h1:0≤x∧x≤p - 1
          · rw [if_pos h1,if_pos (by omega)]
          · rw [if_neg h1,if_neg (by omega)]
        · rw [show ((l.length:Int) != r*c)=true by simp [he],vP (fun hh=>he hh.2.2.2.2.2)];exact no _ _ _ _
      · simp only [hc,if_false];rw [vP (fun hh=>hc ⟨hh.2.2.2.1,hh.2.2.2.2.1⟩)];exact no _ _ _ _
    · simp only [hr,if_false];rw [vP (fun hh=>hr ⟨hh.2.1,hh.2.2.1⟩)];exact no _ _ _ _
  · simp only [hp,if_false];rw [vP (fun hh=>hp hh.1)];exact no _ _ _ _
theorem Zh (p r c:Int)(l:List Int):Ev (fun k=>zT.f k p r c l) (ju p r c l):=by
  have no: ∀p r c l,Ev (fun k=>zT.j0 k true p r c l) false:=fun p r c l=>Ev.succ (by simp only [zT.j0,if_true];exact Ev.now _)
  unfold zT.f
  simp only [Jo,zb8,Option.bind_some,decide_eq_true_eq]
  by_cases hp:isField p=true
  · simp only [hp,if_true]
    by_cases hr:0≤r∧r≤8
    · simp only [hr,and_self,if_true]
      by_cases hc:0≤c∧c≤8
      · simp only [hc,and_self,if_true]
        have hm:=Qb hr hc
        have hw:wrap64 (r*c)=r*c:=ja (by omega) (by omega)
        rw [hw]
        by_cases he:(l.length:Int)=r*c
        · rw [show ((l.length:Int) != r*c)=false by simp [he],Z0 ⟨hp,hr.1,hr.2,hc.1,hc.2,he⟩]
          refine Ev.succ ?_
          simp only [zT.j0,Bool.false_eq_true,if_false]
          rw [←ZE l 0]
          refine ZN (fun k i=>zT.l0 k l (l.length:Int) i p r c l) _ _ (fun k=>by simp only [zT.l0,show ¬((l.length:Int)< (l.length:Int)) by omega,if_false]) ?_
          intro i hi k
          simp only [zT.l0,show ((i:Int)< (l.length:Int)) by omega,show (0:Int)≤(i:Int) by omega,if_true,qG,zB (show i<9223372036854775807 by omega),decide_eq_true_eq]
          generalize l.getD i 0=x
          by_cases h1:x<0
          · rw [if_pos h1,if_neg (by omega)]
          rw [if_neg h1]
          by_cases h2:x≥p
          · rw [if_pos h2,if_neg (by omega)]
          rw [if_neg h2,if_pos (by omega)]
        · rw [show ((l.length:Int) != r*c)=true by simp [he],vP (fun hh=>he hh.2.2.2.2.2)];exact no _ _ _ _
      · simp only [hc,if_false];rw [vP (fun hh=>hc ⟨hh.2.2.2.1,hh.2.2.2.2.1⟩)];exact no _ _ _ _
    · simp only [hr,if_false];rw [vP (fun hh=>hr ⟨hh.2.1,hh.2.2.1⟩)];exact no _ _ _ _
  · simp only [hp,if_false];rw [vP (fun hh=>hp hh.1)];exact no _ _ _ _
theorem Jb (p r c:Int)(l:List Int)(h:l.length≤17592186044416):Ev (fun k=>q8.f k p r c l) (p,r,c,l):=by
  unfold q8.f
  exact Ev.bind (zep l h) (Ev.now _)
theorem zcz (p r c:Int)(l:List Int)(p' r' c':Int)(l':List Int)(h:l.length≤17592186044416):Ev (fun k=>vE.f k p r c l p' r' c' l') (decide ((p,r,c,l)=(p',r',c',l'))):=by
  unfold vE.f
  by_cases h1:p=p'
  · by_cases h2:r=r'
    · by_cases h3:c=c'
      · simp only [h1,h2,h3,if_true]
        refine Ev.bind (YQ l l' h) ?_
        by_cases h4:l=l'
        · simp only [h4,decide_true,if_true];exact Ev.now _
        · simp only [h4,decide_false,Bool.false_eq_true,if_false];simp only [Prod.mk.injEq,h4,and_false,decide_false];exact Ev.now _
      · simp only [h1,h2,h3,if_true,if_false,Prod.mk.injEq,and_false,false_and,decide_false];exact Ev.now _
    · simp only [h1,h2,if_true,if_false,Prod.mk.injEq,and_false,false_and,decide_false];exact Ev.now _
  · simp only [h1,if_false,Prod.mk.injEq,false_and,decide_false];exact Ev.now _
theorem zcv (p r c:Int)(l:List Int)(n:Int)(h:l.length≤17592186044416)(h0:0≤n)(h1:n≤1048576): ∃m,vm.f p r c l n=some m∧(m<0∨(0≤m∧m≤1048576∧l.length≤1048576)):=by
  unfold vm.f
  rw [zeh l n h h0 h1]
  simp only [Option.bind_some]
  by_cases hn:n< (l.length:Int)
  · rw [if_pos hn,if_pos (by decide)]
    exact ⟨_,rfl,.inl (by decide)⟩
  · rw [if_neg hn,if_neg (by omega)]
    exact ⟨_,rfl,.inr (by omega)⟩
end Go.Proofs.YtjlbfbpjcmjdfaaGreat.L
end
section
namespace Go.Proofs.YtjlbfbpjcmjdfaaGreat.L
open Go.RowKit Go.Proofs.YtjlbfbpjcmjdfaaGreat.F Go.Proofs.YtjlbfbpjcmjdfaaGreatW.PrintWords Go.Proofs.YtjlbfbpjcmjdfaaGreatW.PrintLast Go.Proofs.YtjlbfbpjcmjdfaaGreatW.PrintMore
open Go.Proofs.YtjlbfbpjcmjdfaaGreat.Bits
set_option linter.unusedSimpArgs false
set_option linter.unusedVariables false
/-- What a matrix holds, in natural numbers' places. -/
theorem vQ {p r c:Int}{l:List Int}(h:ju p r c l=true): ∃R C:Nat,r=R∧c=C∧R≤8∧C≤8∧l.length=R*C∧2≤p∧p≤7∧isField p=true∧ ∀x∈l,0≤x∧x<p:=by
  unfold ju at h
  simp only [Bool.and_eq_true,decide_eq_true_eq] at h
  obtain ⟨⟨h1,h2,h3,h4,h5,h6⟩,h7⟩:=h
  obtain ⟨R,rfl⟩:=Int.eq_ofNat_of_zero_le h2
  obtain ⟨C,rfl⟩:=Int.eq_ofNat_of_zero_le h4
  have:=j4 h1
  refine ⟨R,C,rfl,rfl,by omega,by omega,?_,this.1,this.2,h1,fun x hx=> ?_⟩
  · have:((l.length:Nat):Int)=((R*C:Nat):Int):=by rw [h6];simp
    omega
  · have:=List.all_eq_true.1 h7 x hx;simpa using this
theorem zbH {R C i j:Nat}{l:List Int}(hl:l.length=R*C)(hi:i<R)(hj:j<C):i*C+j<l.length:=by
  rw [hl];calc i*C+j<i*C+C:=by omega
    _=(i+1)*C:=by rw [Nat.succ_mul]
    _≤R*C:=Nat.mul_le_mul_right C hi
/-- The index of a cell, as1 the program computes it. -/
theorem qX {i C j:Nat}(hi:i≤8)(hC:C≤8)(hj:j≤8):wrap64 ((wrap64 ((i:Int)*(C:Int)))+(j:Int))=((i*C+j:Nat):Int):=by
  have h:i*C≤8*8:=Nat.mul_le_mul hi hC
  have e:(i:Int)*(C:Int)=((i*C:Nat):Int):=by simp
  rw [e,ja (n:=((i*C:Nat):Int)) (by omega) (by omega),ja (by omega) (by omega)];omega
theorem Zx {l:List Int}{p:Int}(hp:2≤p)(h: ∀x∈l,0≤x∧x<p)(i:Nat):0≤l.getD i 0∧l.getD i 0<p:=by
  by_cases hi:i<l.length
  · have:=h l[i] (List.getElem_mem hi);simpa [List.getElem?_eq_getElem hi] using this
  · simp [List.getElem?_eq_none (Nat.le_of_not_lt hi)];omega
end Go.Proofs.YtjlbfbpjcmjdfaaGreat.L
end
section
namespace Go.Proofs.YtjlbfbpjcmjdfaaGreat.L
open Go.RowKit Go.Proofs.YtjlbfbpjcmjdfaaGreat.F Go.Proofs.YtjlbfbpjcmjdfaaGreatW.PrintWords Go.Proofs.YtjlbfbpjcmjdfaaGreatW.PrintLast Go.Proofs.YtjlbfbpjcmjdfaaGreatW.PrintMore
open Go.Proofs.YtjlbfbpjcmjdfaaGreat.Bits
set_option linter.unusedSimpArgs false
set_option linter.unusedVariables false
theorem zac: ∀k:Nat,zE.f (k+20) 2 1=some 1∧zE.f (k+20) 3 1=some 1∧zE.f (k+20) 3 2=some 2∧zE.f (k+20) 5 1=some 1∧zE.f (k+20) 5 2=some 3∧zE.f (k+20) 5 3=some 2∧zE.f (k+20) 5 4=some 4∧zE.f (k+20) 7 1=some 1∧zE.f (k+20) 7 2=some 4∧zE.f (k+20) 7 3=some 5∧zE.f (k+20) 7 4=some 2∧zE.f (k+20) 7 5=some 3∧zE.f (k+20) 7 6=some 6:=
  fun k=>⟨by kernel_rfl,by kernel_rfl,by kernel_rfl,by kernel_rfl,by kernel_rfl,by kernel_rfl,by kernel_rfl,by kernel_rfl,by kernel_rfl,by kernel_rfl,by kernel_rfl,by kernel_rfl,by kernel_rfl⟩
theorem ze9 {p a:Int}(hp:isField p=true)(ha:1≤a)(hap:a<p): ∀k,zE.f (k+20) p a=some (vZ p a):=fun k=>by
  obtain ⟨h1,h2,h3,h4,h5,h6,h7,h8,h9,h10,h11,h12,h13⟩:=zac k
  have hp:p=2∨p=3∨p=5∨p=7:=by simpa [isField] using hp
  rcases hp with rfl|rfl|rfl|rfl
  · obtain rfl:a=1:=by omega
    exact h1
  · rcases (show a=1∨a=2 by omega) with rfl|rfl<;>assumption
  · rcases (show a=1∨a=2∨a=3∨a=4 by omega) with rfl|rfl|rfl|rfl<;>assumption
  · rcases (show a=1∨a=2∨a=3∨a=4∨a=5∨a=6 by omega) with rfl|rfl|rfl|rfl|rfl|rfl<;>assumption
theorem zd0 {p a:Int}(hp:isField p=true)(ha:1≤a)(hap:a<p):Ev (fun k=>zE.f k p a) (vZ p a):=
  ⟨20,fun k hk=>by obtain ⟨m,rfl⟩:=Nat.exists_eq_add_of_le hk;rw [Nat.add_comm];exact ze9 hp ha hap m⟩
theorem zaQ: ∀k:Nat,zF.f (k+20) 2 1=some 1∧zF.f (k+20) 3 1=some 1∧zF.f (k+20) 3 2=some 2∧zF.f (k+20) 5 1=some 1∧zF.f (k+20) 5 2=some 3∧zF.f (k+20) 5 3=some 2∧zF.f (k+20) 5 4=some 4∧zF.f (k+20) 7 1=some 1∧zF.f (k+20) 7 2=some 4∧zF.f (k+20) 7 3=some 5∧zF.f (k+20) 7 4=some 2∧zF.f (k+20) 7 5=some 3∧zF.f (k+20) 7 6=some 6:=
  fun k=>⟨by kernel_rfl,by kernel_rfl,by kernel_rfl,by kernel_rfl,by kernel_rfl,by kernel_rfl,by kernel_rfl,by kernel_rfl,by kernel_rfl,by kernel_rfl,by kernel_rfl,by kernel_rfl,by kernel_rfl⟩
theorem zfb {p a:Int}(hp:isField p=true)(ha:1≤a)(hap:a<p): ∀k,zF.f (k+20) p a=some (vZ p a):=fun k=>by
  obtain ⟨h1,h2,h3,h4,h5,h6,h7,h8,h9,h10,h11,h12,h13⟩:=zaQ k
  have hp:p=2∨p=3∨p=5∨p=7:=by simpa [isField] using hp
  rcases hp with rfl|rfl|rfl|rfl
  · obtain rfl:a=1:=by omega
    exact h1
  · rcases (show a=1∨a=2 by omega) with rfl|rfl<;>assumption
  · rcases (show a=1∨a=2∨a=3∨a=4 by omega) with rfl|rfl|rfl|rfl<;>assumption
  · rcases (show a=1∨a=2∨a=3∨a=4∨a=5∨a=6 by omega) with rfl|rfl|rfl|rfl|rfl|rfl<;>assumption
theorem zd3 {p a:Int}(hp:isField p=true)(ha:1≤a)(hap:a<p):Ev (fun k=>zF.f k p a) (vZ p a):=
  ⟨20,fun k hk=>by obtain ⟨m,rfl⟩:=Nat.exists_eq_add_of_le hk;rw [Nat.add_comm];exact zfb hp ha hap m⟩
theorem ZM {x y:Int}(hx:0≤x∧x≤7)(hy:0≤y∧y≤7):0≤x*y∧x*y≤64:=Qb ⟨hx.1,by omega⟩ ⟨hy.1,by omega⟩
theorem wrap_mul {x y:Int}(hx:0≤x∧x≤7)(hy:0≤y∧y≤7):wrap64 (x*y)=x*y:=ja (by have:=ZM hx hy;omega) (by have:=ZM hx hy;omega)
theorem Ye {p g:Int}(hp:2≤p∧p≤7)(hg:0≤g∧g<p):wrap64 (p - g)=p - g:=ja (by omega) (by omega)
theorem V6 {x p g y:Int}(hp:2≤p∧p≤7)(hx:0≤x∧x<p)(hg:0≤g∧g<p)(hy:0≤y∧y<p):wrap64 (x+wrap64 (wrap64 (p - g)*y))=x+(p - g)*y:=by
  rw [Ye hp hg,wrap_mul ⟨by omega,by omega⟩ ⟨hy.1,by omega⟩]
  have:=ZM (x:=p - g) (y:=y) ⟨by omega,by omega⟩ ⟨hy.1,by omega⟩
  exact ja (by omega) (by omega)
theorem zay (M:Tab)(a b j:Nat):upd (upd M a j (M b j)) b j (M a j)=jR (jv a b) M j:=by
  funext i c
  unfold upd jR jv
  by_cases h1:c=j
  · subst h1
    by_cases h2:i=b
    · subst h2;simp
    · by_cases h3:i=a
      · subst h3;simp [h2]
      · simp [h2,h3]
  · simp [h1]
theorem Yu (M:Tab)(p:Int)(r j:Nat)(x:Int):upd M r j (Int.tmod (M r j*x) p)=jR (ym p r x) M j:=by
  funext i c
  unfold upd jR ym
  by_cases h1:c=j
  · subst h1
    by_cases h2:i=r
    · subst h2;simp
    · simp [h2]
  · simp [h1]
theorem zaV (M:Tab)(p:Int)(r i0 j:Nat)(g:Int):upd M i0 j (Int.tmod (M i0 j+(p - g)*M r j) p)=jR (Jr p r i0 g) M j:=by
  funext i c
  unfold upd jR Jr
  by_cases h1:c=j
  · subst h1
    by_cases h2:i=i0
    · subst h2;simp
    · simp [h2]
  · simp [h1]
/-- What a fold by columns leaves alone is in the field still. -/
theorem Zk {p:Int}{R C:Nat}{F:(Nat→Int)→Nat→Int}(hF: ∀M:Tab,InF p R C M→InF p R C (qt F M)){M:Tab}(h:InF p R C M){j:Nat}(hj:j<C):InF p R C (jR F M j):=fun i c hi hc=>by
  unfold jR
  split
  · exact hF M h i j hi hj
  · exact h i c hi hc
/-- What the reduced matrix is. -/
def Zn (p r c:Int)(l:List Int):Red:=vR p r.toNat c.toNat (qf l c.toNat)
theorem V9 {p:Int}{R C:Nat}{l:List Int}(hl:l.length=R*C)(hp:2≤p)(hx: ∀x∈l,0≤x∧x<p):Jk p R C ⟨0,qf l C,[]⟩:=
  ⟨Nat.zero_le _,fun i j _ _=>Zx hp hx _,rfl⟩
section
variable {p:Int} {R C:Nat} (hR:R≤8) (hC:C≤8) (hf:isField p=true)
include hR hC
theorem zex {a b:Nat}(ha:a<R)(hb:b<R)(M:Tab):Ev (fun k=>qa.f k p R C (zY M R C) a b) (zY (qt (jv a b) M) R C):=by
  unfold qa.f
  have key:=yt (fun k (M:Tab) j=>qa.l0 k a b j p R C (zY M R C)) C (fun M j=>jR (jv a b) M j) (fun _ _=>True) (fun M=>zY M R C)
    (fun M _=>by simp only [qa.l0,show ¬((C:Int)< (C:Int)) by omega,if_false];exact Ev.now _)
    (fun j M hj _=>⟨trivial,fun r hr=>by
      have h1:=jX ha hj
      have h2:=jX hb hj
      simp only [qa.l0,show ((j:Int)< (C:Int)) by omega,if_true,qX (show a≤8 by omega) hC (show j≤8 by omega),qX (show b≤8 by omega) hC (show j≤8 by omega),qm,Int.toNat_natCast,qG,qV M ha hj,qV M hb hj,
        show (0:Int)≤((a*C+j:Nat):Int) by omega,show ((a*C+j:Nat):Int)< ((R*C:Nat):Int) by omega,show (0:Int)≤((b*C+j:Nat):Int) by omega,show ((b*C+j:Nat):Int)< ((R*C:Nat):Int) by omega,zB (show j<9223372036854775807 by omega),yy _ ha hj,yy _ hb hj,zay]
      exact hr⟩) M trivial
  rw [yK] at key
  exact key
include hf
theorem zdM {t col:Nat}(ht:t<R)(hc:col<C){M:Tab}(hM:InF p R C M)(hx:M t col≠0):Ev (fun k=>zm.f k p R C (zY M R C) t col) (zY (vM p R t col M) R C):=by
  have hp:=j4 hf
  have h1:=jX ht hc
  have hv:=hM t col ht hc
  unfold zm.f
  simp only [qX (show t≤8 by omega) hC (show col≤8 by omega),qm,show (0:Int)≤((t*C+col:Nat):Int) by omega,show ((t*C+col:Nat):Int)< ((R*C:Nat):Int) by omega,if_true,qG,qV M ht hc]
  refine Ev.bind (zd0 hf (show 1≤M t col by omega) hv.2) ?_
  have hi0:=Zv p (M t col)
  have hi1:=zbs hp.1 (M t col)
  have l1:=qJ (fun k (M':Tab) j=>zm.l0 k t col (vZ p (M t col)) j p R C (zY M' R C)) C (fun M' j=>jR (ym p t (vZ p (M t col))) M' j) (fun _ M'=>InF p R C M')
    (fun j M' hj hM'=>⟨Zk (fun N hN=>hN.scale hp.1 ht hi0) hM' hj,fun r hr=>by
      have h2:=jX ht hj
      have hb:=hM' t j ht hj
      simp only [zm.l0,show ((j:Int)< (C:Int)) by omega,if_true,qX (show t≤8 by omega) hC (show j≤8 by omega),qm,Int.toNat_natCast,qG,qV M' ht hj,
        show (0:Int)≤((t*C+j:Nat):Int) by omega,show ((t*C+j:Nat):Int)< ((R*C:Nat):Int) by omega,zB (show j<9223372036854775807 by omega),show ¬p=0 by omega,if_false,
        wrap_mul (x:=M' t j) (y:=vZ p (M t col)) ⟨by omega,by omega⟩ ⟨by omega,by omega⟩,yy _ ht hj,Yu]
      exact hr⟩) M hM
  refine l1.2 _ (Ev.succ ?_)
  simp only [zm.l0,show ¬((C:Int)< (C:Int)) by omega,if_false]
  rw [yK]
  have hM1:InF p R C (qt (ym p t (vZ p (M t col))) M):=hM.scale hp.1 ht hi0
  show Ev _ (zY (Zt p t col R (qt (ym p t (vZ p (M t col))) M)) R C)
  generalize qt (ym p t (vZ p (M t col))) M=M1 at hM1
  refine yt (fun k (M':Tab) i=>zm.l1 k t col i p R C (zY M' R C)) R (jA p t col) (fun _ M'=>InF p R C M') (fun M'=>zY M' R C)
    (fun M' _=>by simp only [zm.l1,show ¬((R:Int)< (R:Int)) by omega,if_false];exact Ev.now _)
    (fun i M' hi hM'=>⟨hM'.jA hp.1 ht hc hi,fun r hr=>by
      have h2:=jX hi hc
      have hg:=hM' i col hi hc
      simp only [zm.l1,show ((i:Int)< (R:Int)) by omega,if_true,qX (show i≤8 by omega) hC (show col≤8 by omega),qm,qG,qV M' hi hc,show (0:Int)≤((i*C+col:Nat):Int) by omega,show ((i*C+col:Nat):Int)< ((R*C:Nat):Int) by omega]
      by_cases hit:i=t
      · subst hit
        rw [jA,if_pos rfl] at hr
        refine Ev.succ ?_
        simp only [zm.l2,show ((0:Int)< (C:Int)) by omega,if_true,zB (show i<9223372036854775807 by omega)]
        exact hr
      · rw [jA,if_neg hit] at hr
        generalize M' i col=g at hr hg
        have l2:=qJ (fun k (N:Tab) j=>zm.l2 k t col i g j p R C (zY N R C)) C (fun N j=>jR (Jr p t i g) N j) (fun _ N=>InF p R C N)
          (fun j N hj hN=>⟨Zk (fun N hN=>hN.elim hp.1 ht hi hg) hN hj,fun r hr=>by
            have h3:=jX hi hj
            have h4:=jX ht hj
            simp only [zm.l2,show ((j:Int)< (C:Int)) by omega,if_true,show ¬((i:Int)=(t:Int)) by omega,if_false,qX (show i≤8 by omega) hC (show j≤8 by omega),qX (show t≤8 by omega) hC (show j≤8 by omega),qm,Int.toNat_natCast,qG,qV N hi hj,qV N ht hj,
              show (0:Int)≤((i*C+j:Nat):Int) by omega,show ((i*C+j:Nat):Int)< ((R*C:Nat):Int) by omega,show (0:Int)≤((t*C+j:Nat):Int) by omega,show ((t*C+j:Nat):Int)< ((R*C:Nat):Int) by omega,zB (show j<9223372036854775807 by omega),show ¬p=0 by omega,
              V6 (x:=N i j) (g:=g) (y:=N t j) hp (hN i j hi hj) hg (hN t j ht hj),yy _ hi hj,zaV]
            exact hr⟩) M' hM'
        refine l2.2 _ (Ev.succ ?_)
        simp only [zm.l2,show ¬((C:Int)< (C:Int)) by omega,if_false,zB (show i<9223372036854775807 by omega)]
        rw [yK]
        exact hr⟩) M1 hM1
end
end Go.Proofs.YtjlbfbpjcmjdfaaGreat.L
end
section
namespace Go.Proofs.YtjlbfbpjcmjdfaaGreat.L
open Go.RowKit Go.Proofs.YtjlbfbpjcmjdfaaGreat.F Go.Proofs.YtjlbfbpjcmjdfaaGreatW.PrintWords Go.Proofs.YtjlbfbpjcmjdfaaGreatW.PrintLast Go.Proofs.YtjlbfbpjcmjdfaaGreatW.PrintMore
open Go.Proofs.YtjlbfbpjcmjdfaaGreat.Bits
set_option linter.unusedSimpArgs false
set_option linter.unusedVariables false
theorem QT (M:Tab){R C i:Nat}(hi:i<R):zW (qO M R C) (i:Int)=jJ M C i:=by
  unfold zW;rw [Int.toNat_natCast];exact Qa M hi
theorem zaZ (M:Tab){R C a b:Nat}(ha:a<R)(hb:b<R):zax (qO M R C) (a:Int) (b:Int)=some (qO (qt (jv a b) M) R C):=by
  unfold zax
  rw [if_pos ⟨by omega,by rw [q2];omega,by omega,by rw [q2];omega⟩]
  simp only [Int.toNat_natCast,Qa M ha,Qa M hb,zb0 M ha hb]
section
variable {p:Int} {R C:Nat} (hR:R≤8) (hC:C≤8) (hf:isField p=true)
include hR
theorem zcX {t j:Nat}(ps:List Int)(hj:j<C)(M:Tab)(l:List Int)(r:Int×Int×Int×List Int×List Int)(h:Ev (fun k=>zd.j3 k (qO M R C) ps j t (qc M R t j:Nat) p R C l) r):
    ∀d a,a+d=R→qc M R a j=qc M R t j→Ev (fun k=>zd.l2 k (qO M R C) ps j t (a:Nat) p R C l) r
  |0,a,ha,he=>by
    obtain rfl:a=R:=by omega
    rw [y0] at he
    rw [←he] at h
    refine Ev.succ ?_
    simp only [zd.l2,q2,show ¬((a:Int)< (a:Int)) by omega,if_false]
    exact h
  |d+1,a,ha,he=>by
    have hlt:a<R:=by omega
    rw [ZT hlt] at he
    refine Ev.succ ?_
    simp only [zd.l2,q2,show ((a:Int)< (R:Int)) by omega,if_true,show (0:Int)≤(a:Int) by omega,show (0:Int)≤(j:Int) by omega,QT M hlt,j9,show ((j:Int)< (C:Int)) by omega,qG,Zm M hj,zB (show a<9223372036854775807 by omega)]
    by_cases c:M a j=0
    · rw [if_pos c] at he
      simp only [c,if_true]
      exact zcX ps hj M l r h d (a+1) (by omega) he
    · rw [if_neg c] at he
      simp only [c,if_false]
      rw [←he] at h
      exact h
include hC hf
theorem zdC {t col:Nat}(ps:List Int)(hps:ps.length≤8)(ht:t<R)(hc:col<C){M:Tab}(hM:InF p R C M)(hx:M t col≠0)(l:List Int)(r:Int×Int×Int×List Int×List Int)
    (h:Ev (fun k=>zd.l1 k (qO (vM p R t col M) R C) (ps++[(col:Int)]) ((col+1:Nat):Int) p R C l) r):
    Ev (fun k=>zd.l3 k (qO M R C) ps col t (vZ p (M t col)) (C:Int) 0 p R C l) r:=by
  have hp:=j4 hf
  have hv:=hM t col ht hc
  have hi0:=Zv p (M t col)
  have hi1:=zbs hp.1 (M t col)
  have l1:=qJ (fun k (M':Tab) j=>zd.l3 k (qO M' R C) ps col t (vZ p (M t col)) (C:Int) j p R C l) C (fun M' j=>jR (ym p t (vZ p (M t col))) M' j) (fun _ M'=>InF p R C M')
    (fun j M' hj hM'=>⟨Zk (fun N hN=>hN.scale hp.1 ht hi0) hM' hj,fun r hr=>by
      have hb:=hM' t j ht hj
      simp only [zd.l3,show ((j:Int)< (C:Int)) by omega,if_true,q2,show (0:Int)≤(t:Int) by omega,show ((t:Int)< (R:Int)) by omega,show (0:Int)≤(j:Int) by omega,QT M' ht,j9,Int.toNat_natCast,qG,Zm M' hj,
        zB (show j<9223372036854775807 by omega),show ¬p=0 by omega,if_false,
        wrap_mul (x:=M' t j) (y:=vZ p (M t col)) ⟨by omega,by omega⟩ ⟨by omega,by omega⟩,VO _ ht hj,Yu]
      exact hr⟩) M hM
  refine l1.2 _ (Ev.succ ?_)
  simp only [zd.l3,show ¬((C:Int)< (C:Int)) by omega,if_false,q2]
  rw [Q1]
  have hM1:InF p R C (qt (ym p t (vZ p (M t col))) M):=hM.scale hp.1 ht hi0
  replace h:Ev (fun k=>zd.l1 k (qO (Zt p t col R (qt (ym p t (vZ p (M t col))) M)) R C) (ps++[(col:Int)]) ((col+1:Nat):Int) p R C l) r:=h
  generalize qt (ym p t (vZ p (M t col))) M=M1 at hM1 h ⊢
  have l4:=qJ (fun k (M':Tab) i=>zd.l4 k (qO M' R C) ps col t (R:Int) i p R C l) R (jA p t col) (fun _ M'=>InF p R C M')
    (fun i M' hi hM'=>⟨hM'.jA hp.1 ht hc hi,fun r hr=>by
      have hg:=hM' i col hi hc
      simp only [zd.l4,show ((i:Int)< (R:Int)) by omega,if_true,q2,show (0:Int)≤(i:Int) by omega,show (0:Int)≤(col:Int) by omega,QT M' hi,j9,show ((col:Int)< (C:Int)) by omega,qG,Zm M' hc]
      by_cases hit:i=t
      · subst hit
        rw [jA,if_pos rfl] at hr
        refine Ev.succ ?_
        simp only [zd.l5,show ((0:Int)< (C:Int)) by omega,if_true,zB (show i<9223372036854775807 by omega)]
        exact hr
      · rw [jA,if_neg hit] at hr
        generalize M' i col=g at hr hg ⊢
        have l2:=qJ (fun k (N:Tab) j=>zd.l5 k (qO N R C) ps col t (i:Int) g j (R:Int) (i:Int) p R C l) C (fun N j=>jR (Jr p t i g) N j) (fun _ N=>InF p R C N)
          (fun j N hj hN=>⟨Zk (fun N hN=>hN.elim hp.1 ht hi hg) hN hj,fun r hr=>by
            simp only [zd.l5,show ((j:Int)< (C:Int)) by omega,if_true,show ¬((i:Int)=(t:Int)) by omega,if_false,q2,show (0:Int)≤(i:Int) by omega,show ((i:Int)< (R:Int)) by omega,show (0:Int)≤(j:Int) by omega,QT N hi,QT N ht,j9,show (0:Int)≤(t:Int) by omega,show ((t:Int)< (R:Int)) by omega,Int.toNat_natCast,qG,Zm N hj,
              zB (show j<9223372036854775807 by omega),show ¬p=0 by omega,
              V6 (x:=N i j) (g:=g) (y:=N t j) hp (hN i j hi hj) hg (hN t j ht hj),VO _ hi hj,zaV]
            exact hr⟩) M' hM'
        refine l2.2 _ (Ev.succ ?_)
        simp only [zd.l5,show ¬((C:Int)< (C:Int)) by omega,if_false,zB (show i<9223372036854775807 by omega)]
        rw [Q1]
        exact hr⟩) M1 hM1
  refine l4.2 _ (Ev.succ ?_)
  simp only [zd.l4,show ¬((R:Int)< (R:Int)) by omega,if_false,show ps.length<17592186044416 by omega,if_true,zB (show col<9223372036854775807 by omega)]
  exact h
theorem zdZ (l:List Int): ∀d j (s:Red),j+d=C→Jk p R C s→
    Ev (fun k=>zd.l1 k (qO s.M R C) s.ps (j:Nat) p R C l) (p,(((List.range' j d).foldl (qd p R) s).t:Int),(C:Int),zY ((List.range' j d).foldl (qd p R) s).M ((List.range' j d).foldl (qd p R) s).t C,((List.range' j d).foldl (qd p R) s).ps):=by
  have hp:=j4 hf
  intro d
  induction d with
  |zero=>
    intro j s hj hs
    obtain rfl:j=C:=by omega
    have ht:=hs.t_le
    have hlen:=hs.len
    have hRC:R*j≤64:=Nat.le_trans (Nat.mul_le_mul hR hC) (by decide)
    refine Ev.succ ?_
    simp only [zd.l1,show ¬((j:Int)< (j:Int)) by omega,if_false,hlen,show (0:Int)≤(s.t:Int) by omega,if_true,q2,show ((s.t:Int)≤(R:Int)) by omega,Option.bind_some,Int.toNat_natCast,zb5 s.M ht]
    refine yt (fun k (x:List Int) i=>zd.l6 k s.ps (qO s.M s.t j) (s.t:Int) i p (s.t:Int) (j:Int) x) s.t (fun x i=>x++jJ s.M j i) (fun i x=>x=zY s.M i j) (fun x=>(p,(s.t:Int),(j:Int),x,s.ps))
      (fun x hx=>by simp only [zd.l6,show ¬((s.t:Int)< (s.t:Int)) by omega,if_false];exact Ev.now _)
      (fun i x hi hx=>⟨by rw [hx];exact Qp s.M j i,fun r hr=>by
        have hle:i*j≤R*j:=Nat.mul_le_mul_right _ (by omega)
        simp only [zd.l6,show ((i:Int)< (s.t:Int)) by omega,if_true,show (0:Int)≤(i:Int) by omega,q2,QT s.M hi,j9,show x.length+j<17592186044416 by rw [hx,qm];omega,zB (show i<9223372036854775807 by omega)]
        exact hr⟩) [] (by simp [zY]) |> fun q=> ?_
    have hfold:(List.range s.t).foldl (fun x i=>x++jJ s.M j i) []=zY s.M s.t j:=by
      have: ∀n,(List.range n).foldl (fun x i=>x++jJ s.M j i) []=zY s.M n j:=fun n=>by
        induction n with
        |zero=>simp [zY]
        |succ n ih=>rw [List.range_succ,List.foldl_append,ih];exact Qp s.M j n
      exact this _
    rw [hfold] at q
    exact q
  |succ d ih=>
    intro j s hj hs
    have hjC:j<C:=by omega
    have hlen:=hs.len
    have htle:=hs.t_le
    refine Ev.succ ?_
    simp only [zd.l1,show ((j:Int)< (C:Int)) by omega,if_true,hlen]
    have ho:=hs.step hp.1 hjC
    have hrec:=ih (j+1) (qd p R s j) (by omega) ho
    rw [List.range'_succ,List.foldl_cons]
    obtain ⟨f1,f2,f3,f4⟩:=j7 s.M R j (R - s.t) s.t (by omega)
    refine zcX hR s.ps hjC s.M l _ ?_ (R - s.t) s.t (by omega) rfl
    refine Ev.succ ?_
    by_cases c:qc s.M R s.t j=R
    · have he:qd p R s j=s:=by unfold qd;rw [if_neg (by omega)]
      rw [he] at hrec ⊢
      simp only [zd.j3,c,q2,show ((R:Int)≥(R:Int)) by omega,if_true,zB (show j<9223372036854775807 by omega)]
      exact hrec
    · have hlt:qc s.M R s.t j<R:=by omega
      have htR:s.t<R:=by omega
      have he:qd p R s j=⟨s.t+1,vM p R s.t j (qt (jv s.t (qc s.M R s.t j)) s.M),s.ps++[(j:Int)]⟩:=by unfold qd;rw [if_pos hlt]
      rw [he] at hrec ⊢
      have hsw:=hs.inF.swap (M:=s.M) htR hlt
      have hne:(qt (jv s.t (qc s.M R s.t j)) s.M) s.t j≠0:=by
        unfold qt jv
        by_cases c2:s.t=qc s.M R s.t j
        · rw [if_pos c2];rw [←c2] at f3;exact f3 htR
        · rw [if_neg c2,if_pos rfl];exact f3 hlt
      simp only [zd.j3,q2,show ¬(((qc s.M R s.t j:Nat):Int)≥(R:Int)) by omega,if_false,zaZ s.M htR hlt,Option.bind_some,show (0:Int)≤(s.t:Int) by omega,show ((s.t:Int)< (R:Int)) by omega,if_true,show (0:Int)≤(j:Int) by omega,QT _ htR,j9,show ((j:Int)< (C:Int)) by omega,qG,Zm _ hjC]
      have hv:=hsw s.t j htR hjC
      refine Ev.bind (zd3 hf (show 1≤(qt (jv s.t (qc s.M R s.t j)) s.M) s.t j by omega) hv.2) ?_
      exact zdC hR hC hf s.ps (by omega) htR hjC hsw hne l _ hrec
end
def zbz (p:Int)(R C:Nat)(l:List Int):Int×Int×Int×List Int×List Int:=
  (p,((vR p R C (qf l C)).t:Int),(C:Int),zY (vR p R C (qf l C)).M (vR p R C (qf l C)).t C,(vR p R C (qf l C)).ps)
theorem zdb {p:Int}{R C:Nat}(hR:R≤8)(hC:C≤8)(hf:isField p=true){l:List Int}(hl:l.length=R*C)(hx: ∀x∈l,0≤x∧x<p):Ev (fun k=>zd.f k p R C l) (zbz p R C l):=by
  have hp:=j4 hf
  have hRC:R*C≤64:=Nat.le_trans (Nat.mul_le_mul hR hC) (by decide)
  have key:=zdZ hR hC hf l C 0 ⟨0,qf l C,[]⟩ (by omega) (V9 hl hp.1 hx)
  rw [←List.range_eq_range'] at key
  unfold zd.f
  have l0:=qJ (fun k (x:List (List Int)) i=>zd.l0 k x i p R C l) R (fun x i=>x++[jJ (qf l C) C i]) (fun i x=>x=qO (qf l C) i C)
    (fun i x hi hxx=>⟨by rw [hxx];exact Yh _ C i,fun r hr=>by
      have hle:(i+1)*C≤R*C:=Nat.mul_le_mul_right _ (by omega)
      have hle2:i*C≤(i+1)*C:=Nat.mul_le_mul_right _ (by omega)
      have m1:=Qb (r:=(i:Int)) (c:=(C:Int)) ⟨by omega,by omega⟩ ⟨by omega,by omega⟩
      have m2:=Qb (r:=((i+1:Nat):Int)) (c:=(C:Int)) ⟨by omega,by omega⟩ ⟨by omega,by omega⟩
      have w1:wrap64 ((i:Int)*(C:Int))=((i*C:Nat):Int):=by rw [ja (by omega) (by omega)];simp
      have w2:wrap64 (((i+1:Nat):Int)*(C:Int))=(((i+1)*C:Nat):Int):=by rw [ja (by omega) (by omega),Int.natCast_mul]
      have hrow:(l.take ((i+1)*C)).drop (i*C)=jJ (qf l C) C i:=by
        have:=JJ (qf l C) hi (C:=C)
        rw [JA hl] at this;exact this
      have hlen:x.length=i:=by rw [hxx,q2]
      simp only [zd.l0,show ((i:Int)< (R:Int)) by omega,if_true,Option.bind_some,zB (show i<9223372036854775807 by omega),w1,w2,show (0:Int)≤((i*C:Nat):Int) by omega,show ((i*C:Nat):Int)≤(((i+1)*C:Nat):Int) by omega,show (((i+1)*C:Nat):Int)≤(l.length:Int) by omega,Int.toNat_natCast,hrow,j9,List.length_nil,show 0+C<17592186044416 by omega,hlen,show i<5864062014805 by omega,List.nil_append]
      exact hr⟩) [] (by simp [qO])
  have hfold:=l0.1
  refine l0.2 _ (Ev.succ ?_)
  simp only [zd.l0,show ¬((R:Int)< (R:Int)) by omega,if_false]
  rw [hfold]
  exact key
end Go.Proofs.YtjlbfbpjcmjdfaaGreat.L
end
section
namespace Go.Proofs.YtjlbfbpjcmjdfaaGreat.L
open Go.RowKit Go.Proofs.YtjlbfbpjcmjdfaaGreat.F Go.Proofs.YtjlbfbpjcmjdfaaGreatW.PrintWords Go.Proofs.YtjlbfbpjcmjdfaaGreatW.PrintLast Go.Proofs.YtjlbfbpjcmjdfaaGreatW.PrintMore
open Go.Proofs.YtjlbfbpjcmjdfaaGreat.Bits
set_option linter.unusedSimpArgs false
set_option linter.unusedVariables false
section
variable {p:Int} {R C:Nat} (hR:R≤8) (hC:C≤8) (hf:isField p=true)
include hR hC
theorem zc6 {t j:Nat}(hj:j<C)(M:Tab)(l:List Int)(r:Int×Int×Int×List Int)(h:Ev (fun k=>zq.j3 k t j (qc M R t j:Nat) p R C l p R C (zY M R C)) r):
    ∀d a,a+d=R→qc M R a j=qc M R t j→Ev (fun k=>zq.l1 k t j (a:Nat) p R C l p R C (zY M R C)) r
  |0,a,ha,he=>by
    obtain rfl:a=R:=by omega
    rw [y0] at he
    rw [←he] at h
    refine Ev.succ ?_
    simp only [zq.l1,show ¬((a:Int)< (a:Int)) by omega,if_false]
    exact h
  |d+1,a,ha,he=>by
    have hlt:a<R:=by omega
    have h1:=jX hlt hj
    rw [ZT hlt] at he
    refine Ev.succ ?_
    simp only [zq.l1,show ((a:Int)< (R:Int)) by omega,if_true,qX (show a≤8 by omega) hC (show j≤8 by omega),qm,qG,qV M hlt hj,show (0:Int)≤((a*C+j:Nat):Int) by omega,show ((a*C+j:Nat):Int)< ((R*C:Nat):Int) by omega,zB (show a<9223372036854775807 by omega)]
    by_cases c:M a j=0
    · rw [if_pos c] at he
      simp only [c,if_true]
      exact zc6 hj M l r h d (a+1) (by omega) he
    · rw [if_neg c] at he
      simp only [c,if_false]
      rw [←he] at h
      exact h
include hf
theorem ze0 (l:List Int): ∀d j (s:Red),j+d=C→Jk p R C s→
    Ev (fun k=>zq.l0 k (s.t:Nat) (j:Nat) p R C l p R C (zY s.M R C)) (p,(((List.range' j d).foldl (qd p R) s).t:Int),(C:Int),zY ((List.range' j d).foldl (qd p R) s).M ((List.range' j d).foldl (qd p R) s).t C):=by
  have hp:=j4 hf
  have fin: ∀(s:Red),Jk p R C s→ ∀j:Int,Ev (fun k=>zq.j1 k (s.t:Nat) j false p R C l p R C (zY s.M R C)) (p,(s.t:Int),(C:Int),zY s.M s.t C):=fun s hs j=>by
    have ht:=hs.t_le
    have hm:=Qb (r:=(s.t:Int)) (c:=(C:Int)) ⟨by omega,by omega⟩ ⟨by omega,by omega⟩
    have hw:wrap64 ((s.t:Int)*(C:Int))=((s.t*C:Nat):Int):=by rw [ja (by omega) (by omega)];simp
    have hle:s.t*C≤R*C:=Nat.mul_le_mul_right _ ht
    have hRC:R*C≤64:=Nat.le_trans (Nat.mul_le_mul hR hC) (by decide)
    refine Ev.succ ?_
    simp only [zq.j1,Bool.false_eq_true,if_false,Option.bind_some,hw,show (0:Int)≤((s.t*C:Nat):Int) by omega,if_true,qm,show ((s.t*C:Nat):Int)≤((R*C:Nat):Int) by omega,Int.toNat_natCast,Ya s.M ht,List.length_nil,show 0+s.t*C<17592186044416 by omega,List.nil_append]
    exact Ev.now _
  intro d
  induction d with
  |zero=>
    intro j s hj hs
    obtain rfl:j=C:=by omega
    refine Ev.succ ?_
    simp only [zq.l0,show ¬((j:Int)< (j:Int)) by omega,if_false]
    exact fin s hs _
  |succ d ih=>
    intro j s hj hs
    have hjC:j<C:=by omega
    refine Ev.succ ?_
    simp only [zq.l0,show ((j:Int)< (C:Int)) by omega,if_true]
    by_cases ht:s.t=R
    · rw [Q3 _ ht]
      simp only [show decide ((s.t:Int)< (R:Int))=false from decide_eq_false (by omega)]
      exact fin s hs _
    · have htR:s.t<R:=by have:=hs.t_le;omega
      simp only [show decide ((s.t:Int)< (R:Int))=true from decide_eq_true (by omega)]
      refine Ev.succ ?_
      simp only [zq.j1,if_true]
      have ho:=hs.step hp.1 hjC
      have hrec:=ih (j+1) (qd p R s j) (by omega) ho
      rw [List.range'_succ,List.foldl_cons]
      refine zc6 hR hC hjC s.M l _ ?_ (R - s.t) s.t (by omega) rfl
      refine Ev.succ ?_
      obtain ⟨f1,f2,f3,f4⟩:=j7 s.M R j (R - s.t) s.t (by omega)
      by_cases c:qc s.M R s.t j=R
      · have he:qd p R s j=s:=by unfold qd;rw [if_neg (by omega)]
        rw [he] at hrec ⊢
        simp only [zq.j3,c,if_true,zB (show j<9223372036854775807 by omega)]
        exact hrec
      · have hlt:qc s.M R s.t j<R:=by omega
        have he:qd p R s j=⟨s.t+1,vM p R s.t j (qt (jv s.t (qc s.M R s.t j)) s.M),s.ps++[(j:Int)]⟩:=by unfold qd;rw [if_pos hlt]
        rw [he] at hrec ⊢
        simp only [zq.j3,show ¬(((qc s.M R s.t j:Nat):Int)=(R:Int)) by omega,if_false,zB (show j<9223372036854775807 by omega),zB (show s.t<9223372036854775807 by omega)]
        refine Ev.bind (zex hR hC htR hlt s.M) ?_
        have hsw:=hs.inF.swap (M:=s.M) htR hlt
        refine Ev.bind (zdM hR hC hf htR hjC hsw ?_) hrec
        unfold qt jv
        by_cases c2:s.t=qc s.M R s.t j
        · rw [if_pos c2];rw [←c2] at f3;exact f3 htR
        · rw [if_neg c2,if_pos rfl];exact f3 hlt
end
def Y2 (p r c:Int)(l:List Int):Int×Int×Int×List Int:=
  if ju p r c l=true then (p,((Zn p r c l).t:Int),c,zY (Zn p r c l).M (Zn p r c l).t c.toNat) else (0,0,0,[])
theorem VG (p r c:Int)(l:List Int):Ev (fun k=>zq.f k p r c l) (Y2 p r c l):=by
  unfold zq.f Y2
  refine Ev.bind (QW p r c l) ?_
  cases h:ju p r c l
  · simp only [Bool.false_eq_true,if_false];exact Ev.now _
  obtain ⟨R,C,rfl,rfl,hR,hC,hl,h2,h7,hf,hx⟩:=vQ h
  have hRC:R*C≤64:=Nat.le_trans (Nat.mul_le_mul hR hC) (by decide)
  simp only [if_true,q6.f,Option.bind_some,List.length_nil,show 0+l.length<17592186044416 by omega,List.nil_append]
  have key:=ze0 hR hC hf l C 0 ⟨0,qf l C,[]⟩ (by omega) (V9 hl h2 hx)
  rw [JA hl,←List.range_eq_range'] at key
  unfold Zn
  rw [Int.toNat_natCast,Int.toNat_natCast]
  exact key
end Go.Proofs.YtjlbfbpjcmjdfaaGreat.L
end
section
namespace Go.Proofs.YtjlbfbpjcmjdfaaGreat.Mt
theorem yF (a b i:Nat):(a |||b).testBit i=(a.testBit i||b.testBit i):=Nat.testBit_or a b i
theorem vW (a b i:Nat):(a &&&b).testBit i=(a.testBit i&&b.testBit i):=Nat.testBit_and a b i
theorem YO (e i:Nat):(2 ^e).testBit i=decide (e=i):=by
  rw [Nat.testBit_two_pow]
theorem yi (i:Nat):(0:Nat).testBit i=false:=Nat.zero_testBit i
theorem ext {a b:Nat}(h: ∀i,a.testBit i=b.testBit i):a=b:=Nat.eq_of_testBit_eq h
/-- s with e; s without e. -/
def ins (s e:Nat):Nat:=s |||2 ^e
def del (s e:Nat):Nat:=sdiff s (2 ^e)
theorem qU (s e i:Nat):(ins s e).testBit i=(s.testBit i||decide (e=i)):=by rw [ins,yF,YO]
theorem jn (s e i:Nat):(del s e).testBit i=(s.testBit i&& !decide (e=i)):=by rw [del,qQ,YO]
def sub (a b:Nat):Prop:= ∀i,a.testBit i=true→b.testBit i=true
theorem ZJ (a:Nat):sub a a:=fun _ h=>h
theorem vo {a b c:Nat}(h:sub a b)(k:sub b c):sub a c:=fun i hi=>k i (h i hi)
theorem yH {a b:Nat}(h:sub a b)(k:sub b a):a=b:=ext fun i=>by
  have h1:=h i;have h2:=k i
  cases ha:a.testBit i<;>cases hb:b.testBit i<;>simp_all
theorem qL {a b:Nat}:sub a b↔a &&&b=a:=by
  constructor
  · intro h;apply ext;intro i;rw [vW];have:=h i;cases ha:a.testBit i<;>simp_all
  · intro h i hi;have:=congrArg (fun x=>Nat.testBit x i) h;simp only [vW,hi,Bool.true_and] at this;exact this
theorem yp {a b:Nat}:sub a b↔sdiff a b=0:=by
  constructor
  · intro h;apply ext;intro i;rw [qQ,yi];have:=h i;cases ha:a.testBit i<;>simp_all
  · intro h i hi
    have:=congrArg (fun x=>Nat.testBit x i) h
    simp only [qQ,hi,yi,Bool.true_and,Bool.not_eq_false'] at this;exact this
theorem Qm (s e:Nat):sub s (ins s e):=fun i hi=>by rw [qU,hi,Bool.true_or]
theorem zbP (s e:Nat):(ins s e).testBit e=true:=by simp [qU]
theorem yr (s e:Nat):sub (del s e) s:=fun i hi=>by rw [jn] at hi;simp at hi;exact hi.1
theorem vB (a b:Nat):sub (a &&&b) a:=fun i hi=>by rw [vW] at hi;simp at hi;exact hi.1
theorem yW (a b:Nat):sub (a &&&b) b:=fun i hi=>by rw [vW] at hi;simp at hi;exact hi.2
theorem zaR (a b:Nat):sub a (a |||b):=fun i hi=>by rw [yF,hi,Bool.true_or]
theorem zdy {a b c:Nat}(h:sub c a)(k:sub c b):sub c (a &&&b):=fun i hi=>by rw [vW,h i hi,k i hi];rfl
theorem zev {s e:Nat}(h:s.testBit e=true):ins s e=s:=ext fun i=>by
  rw [qU];by_cases he:e=i
  · subst he;simp [h]
  · simp [he]
theorem YK {a b:Nat}(h: ¬sub a b): ∃i,a.testBit i=true∧b.testBit i=false:=by
  apply Classical.byContradiction
  intro hn;apply h;intro i hi
  cases hb:b.testBit i
  · exact absurd ⟨i,hi,hb⟩ hn
  · rfl
theorem vX {s n i:Nat}(h:s<2 ^n)(hi:s.testBit i=true):i<n:=by
  rcases Nat.lt_or_ge i n with h'|h'
  · exact h'
  · rw [Nat.testBit_lt_two_pow (Nat.lt_of_lt_of_le h (Nat.pow_le_pow_right (by decide) h'))] at hi;cases hi
theorem ZR {s n:Nat}(h: ∀i,s.testBit i=true→i<n):s<2 ^n:=Nat.lt_pow_two_of_testBit s fun i hi=>by
  cases hb:s.testBit i
  · rfl
  · have:=h i hb;omega
theorem jl {a b n:Nat}(h:sub a b)(hb:b<2 ^n):a<2 ^n:=ZR fun i hi=>vX hb (h i hi)
theorem zcm {a b:Nat}(h:sub a b):a≤b:=by rw [qL] at h;rw [←h];exact Nat.and_le_right
/-- All elements below n. -/
def full (n:Nat):Nat:=2 ^n - 1
theorem zaA (n i:Nat):(full n).testBit i=decide (i<n):=Nat.testBit_two_pow_sub_one n i
theorem zan {s n:Nat}(h:s<2 ^n):sub s (full n):=fun i hi=>by rw [zaA];exact decide_eq_true (vX h hi)
def cnt (s:Nat):Nat:=(List.range 8).countP s.testBit
theorem QC (p q:Nat→Bool): ∀l:List Nat,l.countP (fun i=>p i||q i)+l.countP (fun i=>p i&&q i)=l.countP p+l.countP q
  | []=>rfl
  |a::l=>by
    have:=QC p q l
    simp only [List.countP_cons]
    cases p a<;>cases q a<;>simp<;>omega
theorem Vc (a b:Nat):cnt (a |||b)+cnt (a &&&b)=cnt a+cnt b:=by
  have:=QC a.testBit b.testBit (List.range 8)
  simp only [cnt]
  rw [show Nat.testBit (a |||b)=fun i=>a.testBit i||b.testBit i from funext (yF a b),show Nat.testBit (a &&&b)=fun i=>a.testBit i&&b.testBit i from funext (vW a b)]
  exact this
theorem yc {a b:Nat}(h:sub a b):cnt a≤cnt b:=List.countP_mono_left fun i _ hi=>h i hi
theorem Vr:cnt 0=0:=by decide
theorem zcL (s:Nat):cnt s≤8:=by have:=List.countP_le_length (p:=s.testBit) (l:=List.range 8);simpa [cnt] using this
theorem Jl {a b:Nat}(h:a &&&b=0):cnt (a |||b)=cnt a+cnt b:=by have:=Vc a b;rw [h,Vr] at this;omega
theorem zdF {e:Nat}(h:e<8):cnt (2 ^e)=1:=by
  have: ∀e,e<8→cnt (2 ^e)=1:=by decide
  exact this e h
theorem Yr (a b:Nat):cnt (sdiff a b)+cnt (a &&&b)=cnt a:=by
  have h:sdiff a b &&&(a &&&b)=0:=ext fun i=>by simp only [vW,qQ,yi];cases a.testBit i<;>cases b.testBit i<;>rfl
  have k:sdiff a b |||(a &&&b)=a:=ext fun i=>by simp only [yF,vW,qQ];cases a.testBit i<;>cases b.testBit i<;>rfl
  rw [←Jl h,k]
theorem ZI {a b:Nat}(h:sub b a):cnt (sdiff a b)+cnt b=cnt a:=by
  have:=Yr a b
  rwa [show a &&&b=b from by rw [Nat.and_comm];exact qL.1 h] at this
theorem Qt {s e:Nat}(he:e<8)(h:s.testBit e=false):cnt (ins s e)=cnt s+1:=by
  have:s &&&2 ^e=0:=ext fun i=>by
    rw [vW,YO,yi];by_cases hi:e=i
    · subst hi;simp [h]
    · simp [hi]
  rw [ins,Jl this,zdF he]
theorem ZZ {s e:Nat}(he:e<8)(h:s.testBit e=true):cnt (del s e)+1=cnt s:=by
  have k:ins (del s e) e=s:=ext fun i=>by
    rw [qU,jn];by_cases hi:e=i
    · subst hi;simp [h]
    · simp [hi]
  have:=Qt (s:=del s e) he (by simp [jn])
  rw [k] at this;omega
theorem zdG {s e:Nat}(he:e<8)(h:s.testBit e=true):0<cnt s:=by have:=ZZ he h;omega
theorem Vm {s:Nat}(hs:s<256)(h:cnt s=0):s=0:=by
  apply ext;intro i;rw [yi]
  cases hb:s.testBit i
  · rfl
  · have:=zdG (vX (n:=8) hs hb) hb;omega
theorem Qi {a b:Nat}(ha:a<256)(h:cnt (a &&&b)=cnt a):sub a b:=by
  have:=Yr a b
  have hz:cnt (sdiff a b)=0:=by omega
  exact yp.2 (Vm (jl (n:=8) (fun i hi=>by rw [qQ] at hi;simp at hi;exact hi.1) ha) hz)
theorem ZB {a b:Nat}(h:sub a b)(hb:b<256)(hc:cnt b≤cnt a):a=b:=by
  refine yH h (Qi hb ?_)
  have h1:=yc (vB b a)
  have:b &&&a=a:=by rw [Nat.and_comm];exact qL.1 h
  rw [this];have:=yc h;omega
theorem zcY {n:Nat}(h:n≤8):cnt (full n)=n:=by
  have: ∀n,n≤8→cnt (full n)=n:=by decide
  exact this n h
theorem Js {a b:Nat}(h:cnt b<cnt a): ∃i,a.testBit i=true∧b.testBit i=false:=
  YK fun k=>by have:=yc k;omega

/-- The bases of a matroid of n elements: by exchange. -/
structure Mat (n:Nat)(B:List Nat):Prop where
  size:n≤8
  lt: ∀b∈B,b<2 ^n
  ne:B≠[]
  ex: ∀a∈B,∀b∈B,∀e,a.testBit e=true→b.testBit e=false→ ∃f,b.testBit f=true∧a.testBit f=false∧ins (del a e) f∈B
section
variable {n:Nat} {B:List Nat}
theorem jE {s n:Nat}(hn:n≤8)(h:s<2 ^n):s<256:=Nat.lt_of_lt_of_le h (Nat.pow_le_pow_right (n:=2) (by decide) hn)
theorem Mat.lt8 (M:Mat n B){b:Nat}(h:b∈B):b<256:=jE M.size (M.lt b h)
theorem Mat.zdU (M:Mat n B){b e:Nat}(h:b∈B)(he:b.testBit e=true):e<8:=vX (n:=8) (M.lt8 h) he
theorem zct {a e f:Nat}(ha:a<256)(hf8:f<8)(he:a.testBit e=true)(hf:a.testBit f=false):cnt (ins (del a e) f)=cnt a:=by
  have h8:e<8:=vX (n:=8) ha he
  have h1:=ZZ h8 he
  have h2:=Qt (s:=del a e) hf8 (by rw [jn,hf];rfl)
  omega
theorem Mat.le (M:Mat n B): ∀k a b,a∈B→b∈B→cnt (sdiff a b)=k→cnt a≤cnt b:=by
  intro k
  induction k using Nat.strongRecOn with
  |_ k ih=>
    intro a b ha hb hk
    by_cases hs:sub a b
    · exact yc hs
    · obtain ⟨e,he,heb⟩:=YK hs
      obtain ⟨f,hfb,hfa,hin⟩:=M.ex a ha b hb e he heb
      have e8:=M.zdU ha he
      have f8:=M.zdU hb hfb
      have hsw:=zct (M.lt8 ha) f8 he hfa
      have hd:sdiff (ins (del a e) f) b=del (sdiff a b) e:=ext fun i=>by
        simp only [qQ,qU,jn]
        by_cases hi:f=i
        · subst hi;simp [hfb]
        · simp only [hi,decide_false,Bool.or_false];cases a.testBit i<;>cases b.testBit i<;>simp
      have hc:=ZZ (s:=sdiff a b) e8 (by rw [qQ,he,heb];rfl)
      have:=ih (cnt (del (sdiff a b) e)) (by omega) (ins (del a e) f) b hin hb (by rw [hd])
      omega
/-- All bases are of one size. -/
theorem Mat.Jw (M:Mat n B){a b:Nat}(ha:a∈B)(hb:b∈B):cnt a=cnt b:=Nat.le_antisymm (M.le _ a b ha hb rfl) (M.le _ b a hb ha rfl)

/-- The rank of s: the most that a base has of it. -/
def rk (B:List Nat)(s:Nat):Nat:=B.foldl (fun m b=>max m (cnt (s &&&b))) 0
theorem Jm {α:Type}(f:α→Nat): ∀(l:List α) (m k:Nat),l.foldl (fun m b=>max m (f b)) m≤k↔m≤k∧ ∀b∈l,f b≤k
  | [],m,k=>by simp
  |a::l,m,k=>by
    rw [List.foldl_cons,Jm f l]
    simp only [List.mem_cons,forall_eq_or_imp,Nat.max_le,and_assoc]
theorem zaP {s k:Nat}:rk B s≤k↔ ∀b∈B,cnt (s &&&b)≤k:=by
  unfold rk;rw [Jm (fun b=>cnt (s &&&b))];simp
theorem zbT {b:Nat}(hb:b∈B)(s:Nat):cnt (s &&&b)≤rk B s:=zaP.1 (Nat.le_refl _) b hb
theorem zd5 (hB:B≠[])(s:Nat): ∃b∈B,cnt (s &&&b)=rk B s:=by
  apply Classical.byContradiction
  intro h
  have h1: ∀b∈B,cnt (s &&&b)<rk B s:=fun b hb=>Nat.lt_of_le_of_ne (zbT hb s) fun e=>h ⟨b,hb,e⟩
  obtain ⟨c,hc⟩:=List.exists_mem_of_ne_nil B hB
  have h2:rk B s≤rk B s - 1:=zaP.2 fun b hb=>by have:=h1 b hb;omega
  have:=h1 c hc
  omega
theorem yQ (s:Nat):rk B s≤cnt s:=zaP.2 fun _ _=>yc (vB _ _)
theorem yj {s t:Nat}(h:sub s t):rk B s≤rk B t:=zaP.2 fun b hb=>Nat.le_trans (yc (fun i hi=>by
  rw [vW] at hi ⊢;simp at hi ⊢;exact ⟨h i hi.1,hi.2⟩)) (zbT hb t)
theorem Mat.zdL (M:Mat n B){b:Nat}(hb:b∈B){s:Nat}(hs:sub (full n) s):rk B s=cnt b:=by
  apply Nat.le_antisymm
  · exact zaP.2 fun c hc=>by rw [M.Jw hb hc];exact yc (yW _ _)
  · have:=zbT hb s
    have h2:s &&&b=b:=by rw [Nat.and_comm];exact qL.1 (vo (zan (M.lt b hb)) hs)
    rwa [h2] at this
/-- A set within a base. -/
def ind (B:List Nat)(s:Nat):Prop:= ∃b∈B,sub s b
theorem yV {s t:Nat}(h:sub s t)(k:ind B t):ind B s:=by obtain ⟨b,hb,hs⟩:=k;exact ⟨b,hb,vo h hs⟩
theorem vw (hB:B≠[]){s:Nat}(hs:s<256):ind B s↔rk B s=cnt s:=by
  constructor
  · rintro ⟨b,hb,h⟩
    have:=zbT hb s
    rw [qL.1 h] at this
    exact Nat.le_antisymm (yQ s) this
  · intro h
    obtain ⟨b,hb,hc⟩:=zd5 hB s
    exact ⟨b,hb,Qi hs (by omega)⟩
/-- What is within a base grows to a base by elements of any other. -/
theorem Mat.grow (M:Mat n B){I c:Nat}(hI:ind B I)(hc:c∈B): ∃b∈B,sub I b∧sub b (I |||c):=by
  obtain ⟨b0,hb0,hs0⟩:=hI
  have key: ∀k b,b∈B→sub I b→cnt (sdiff b (I |||c))=k→ ∃b∈B,sub I b∧sub b (I |||c):=by
    intro k
    induction k using Nat.strongRecOn with
    |_ k ih=>
      intro b hb hs hk
      by_cases hh:sub b (I |||c)
      · exact ⟨b,hb,hs,hh⟩
      · obtain ⟨e,he,hn⟩:=YK hh
        rw [yF] at hn
        have hn':=Bool.or_eq_false_iff.1 hn
        obtain ⟨f,hfc,hfb,hin⟩:=M.ex b hb c hc e he hn'.2
        have hd:sdiff (ins (del b e) f) (I |||c)=del (sdiff b (I |||c)) e:=ext fun i=>by
          simp only [qQ,qU,jn,yF]
          by_cases hi:f=i
          · subst hi;simp [hfc]
          · simp only [hi,decide_false,Bool.or_false];cases b.testBit i<;>cases I.testBit i<;>cases c.testBit i<;>simp
        have h1:=ZZ (s:=sdiff b (I |||c)) (M.zdU hb he) (by rw [qQ,he,yF,hn];rfl)
        refine ih _ (by rw [hd];omega) _ hin (fun i hi=> ?_) rfl
        rw [qU,jn,hs i hi]
        have:e≠i:=fun h=>by subst h;rw [hi] at hn';exact absurd hn'.1 (by simp)
        simp [this]
  exact key _ b0 hb0 hs0 rfl
/-- The smaller of two independent sets takes an element of the greater. -/
theorem Mat.zdP (M:Mat n B){I J:Nat}(hI:ind B I)(hJ:ind B J)(h:cnt I<cnt J): ∃x,J.testBit x=true∧I.testBit x=false∧ind B (ins I x):=by
  obtain ⟨c,hc,hJc⟩:=hJ
  obtain ⟨b,hb,hIb,hbc⟩:=M.grow hI hc
  apply Classical.byContradiction
  intro hn
  have h1:sub (b &&&J) I:=fun i hi=>by
    rw [vW] at hi;simp at hi
    cases hx:I.testBit i
    · exact absurd ⟨i,hi.2,hx,b,hb,fun j hj=>by
        rw [qU] at hj;rcases Bool.or_eq_true_iff.1 hj with hj|hj
        · exact hIb j hj
        · rw [←of_decide_eq_true hj];exact hi.1⟩ hn
    · rfl
  -- b without I lies in c without J
  have h2:sub (sdiff b I) (sdiff c J):=fun i hi=>by
    rw [qQ] at hi ⊢;simp at hi
    have h3:=hbc i hi.1
    rw [yF,hi.2,Bool.false_or] at h3
    rw [h3,Bool.true_and]
    cases hj:J.testBit i
    · rfl
    · have:=h1 i (by rw [vW,hi.1,hj];rfl);rw [hi.2] at this;cases this
  have c1:=yc h2
  have c2:=ZI hIb
  have c3:=ZI hJc
  have c4:=M.Jw hb hc
  omega
/-- An independent part of s that is as1 great as1 its rank, around any independent part of s. -/
theorem Mat.Qv (M:Mat n B){s I:Nat}(hs:s<256)(hI:ind B I)(hIs:sub I s): ∃J,ind B J∧sub I J∧sub J s∧cnt J=rk B s:=by
  obtain ⟨b,hb,hc⟩:=zd5 M.ne s
  have hJ0:ind B (s &&&b):=⟨b,hb,yW _ _⟩
  have key: ∀k I,ind B I→sub I s→rk B s - cnt I=k→ ∃J,ind B J∧sub I J∧sub J s∧cnt J=rk B s:=by
    intro k
    induction k with
    |zero=>
      intro I hI hIs hk
      have h1:cnt I≤rk B s:=by rw [←(vw M.ne (jl (n:=8) hIs hs)).1 hI];exact yj hIs
      exact ⟨I,hI,ZJ _,hIs,by omega⟩
    |succ k ih=>
      intro I hI hIs hk
      obtain ⟨x,hx,hxI,hin⟩:=M.zdP hI hJ0 (by omega)
      have hxs:s.testBit x=true:=vB _ _ x hx
      have h8:x<8:=vX (n:=8) hs hxs
      have h1:=Qt h8 hxI
      have hsub:sub (ins I x) s:=fun i hi=>by
        rw [qU] at hi;rcases Bool.or_eq_true_iff.1 hi with hi|hi
        · exact hIs i hi
        · rw [←of_decide_eq_true hi];exact hxs
      obtain ⟨J,h2,h3,h4,h5⟩:=ih (ins I x) hin hsub (by omega)
      exact ⟨J,h2,vo (Qm I x) h3,h4,h5⟩
  exact key _ I hI hIs rfl
theorem VM (hB:B≠[]):ind B 0:=by
  obtain ⟨c,hc⟩:=List.exists_mem_of_ne_nil B hB
  exact ⟨c,hc,fun i hi=>by rw [yi] at hi;cases hi⟩
/-- The rank of what is gathered and of what is common: no more than both together. -/
theorem Mat.zen (M:Mat n B){s t:Nat}(hs:s<256)(ht:t<256):rk B (s |||t)+rk B (s &&&t)≤rk B s+rk B t:=by
  have hst:s |||t<256:=Nat.or_lt_two_pow (n:=8) hs ht
  have hand:s &&&t<256:=Nat.and_lt_two_pow (n:=8) _ ht
  obtain ⟨I,hI,_,hIs,hIc⟩:=M.Qv hand (VM M.ne) (fun i hi=>by rw [yi] at hi;cases hi)
  obtain ⟨J,hJ,hIJ,hJs,hJc⟩:=M.Qv hst hI (vo hIs (vo (vB _ _) (zaR _ _)))
  have h1:ind B (J &&&s):=yV (vB _ _) hJ
  have h2:ind B (J &&&t):=yV (vB _ _) hJ
  have hJ8:J<256:=jl (n:=8) hJs hst
  have c1:cnt (J &&&s)≤rk B s:=by
    rw [←(vw M.ne (jl (n:=8) (vB _ _) hJ8)).1 h1];exact yj (yW _ _)
  have c2:cnt (J &&&t)≤rk B t:=by
    rw [←(vw M.ne (jl (n:=8) (vB _ _) hJ8)).1 h2];exact yj (yW _ _)
  have c3:=Vc (J &&&s) (J &&&t)
  have e1:J &&&s |||J &&&t=J:=ext fun i=>by
    rw [yF,vW,vW];have:=hJs i;rw [yF] at this
    revert this
    cases J.testBit i<;>cases s.testBit i<;>cases t.testBit i<;>simp
  have e2:sub I (J &&&s &&&(J &&&t)):=fun i hi=>by
    have a:=hIJ i hi;have b:=hIs i hi;rw [vW] at b;simp at b
    simp [a,b]
  have c4:=yc e2
  rw [e1] at c3
  omega
end
end Go.Proofs.YtjlbfbpjcmjdfaaGreat.Mt
end
section
namespace Go.Proofs.YtjlbfbpjcmjdfaaGreat.L
open Go.RowKit Go.Proofs.YtjlbfbpjcmjdfaaGreat.F Go.Proofs.YtjlbfbpjcmjdfaaGreatW.PrintWords Go.Proofs.YtjlbfbpjcmjdfaaGreatW.PrintLast Go.Proofs.YtjlbfbpjcmjdfaaGreatW.PrintMore
open Go.Proofs.YtjlbfbpjcmjdfaaGreat.Bits
open Go.Proofs.YtjlbfbpjcmjdfaaGreat.Mt (sdiff qQ elems jW cnt zcL full)
set_option linter.unusedSimpArgs false
set_option linter.unusedVariables false
theorem Ys (l:List Int)(x:Int):((List.range l.length).any fun i=>decide (l.getD i 0=x))=decide (x∈l):=by
  rw [Bool.eq_iff_iff]
  simp only [List.any_eq_true,List.mem_range,decide_eq_true_eq]
  constructor
  · rintro ⟨i,hi,h⟩
    rw [←h,List.getD_eq_getElem?_getD,List.getElem?_eq_getElem hi];exact List.getElem_mem hi
  · intro h
    obtain ⟨i,hi,he⟩:=List.getElem_of_mem h
    exact ⟨i,hi,by rw [List.getD_eq_getElem?_getD,List.getElem?_eq_getElem hi];exact he⟩
theorem Qh (l:List Int)(x:Int)(hl:l.length≤17592186044416):Ev (fun k=>qp.f k l x) (decide (x∈l)):=by
  unfold qp.f
  have h:=vy (fun k i=>qp.l0 k l x i) l.length (fun i r=>decide (l.getD i 0=x)||r) false
    (by simp only [qp.l0,show ¬((l.length:Int)< (l.length:Int)) by omega,if_false];exact Ev.now _) fun i hi r hr=>by
      simp only [qp.l0,show ((i:Int)< (l.length:Int)) by omega,show (0:Int)≤(i:Int) by omega,if_true,qG,zB (show i<9223372036854775807 by omega)]
      by_cases h:l.getD i 0=x
      · simp only [h,if_true,decide_true,Bool.true_or];exact Ev.now _
      · simp only [h,if_false,decide_false,Bool.false_or];exact hr
  rw [Qs,Bool.or_false,Ys] at h
  exact h
theorem Vb (l:List Int)(x:Int)(hl:l.length≤17592186044416):Ev (fun k=>vz.f k l x) (decide (x∈l)):=by
  unfold vz.f jc.f z8.f
  have key: ∃r:Int,Ev (fun k=>z8.l0 k l x (l.length:Int) 0) r∧decide (r≥0)=decide (x∈l):=by
    refine ⟨(List.range l.length).foldr (fun i r=>if x=l.getD i 0 then (i:Int) else r) (-1),?_,?_⟩
    · refine vy (fun k i=>z8.l0 k l x (l.length:Int) i) l.length _ (-1) ?_ fun i hi r hr=> ?_
      · simp only [z8.l0,show ¬((l.length:Int)< (l.length:Int)) by omega,if_false];exact Ev.now _
      · simp only [z8.l0,show ((i:Int)< (l.length:Int)) by omega,show (0:Int)≤(i:Int) by omega,if_true,qG,zB (show i<9223372036854775807 by omega)]
        by_cases h:x=l.getD i 0
        · rw [if_pos h];simp only [if_pos h];exact Ev.now _
        · rw [if_neg h];simp only [if_neg h];exact hr
    · have hh: ∀L:List Nat,(0≤L.foldr (fun i r=>if x=l.getD i 0 then (i:Int) else r) (-1))↔(L.any fun i=>decide (l.getD i 0=x))=true:=by
        intro L
        induction L with
        |nil=>simp
        |cons i t ih=>
          simp only [List.foldr_cons,List.any_cons,Bool.or_eq_true,decide_eq_true_eq]
          by_cases h:x=l.getD i 0
          · simp only [if_pos h];exact ⟨fun _=> .inl h.symm,fun _=>by omega⟩
          · simp only [if_neg h];rw [ih];exact ⟨.inr,fun hh=>hh.elim (fun e=>absurd e.symm h) id⟩
      rw [←Ys,Bool.eq_iff_iff,decide_eq_true_eq]
      exact hh _
  obtain ⟨r,hr,e⟩:=key
  refine Ev.bind (Ev.bind hr (Ev.now _)) ?_
  rw [←e];exact Ev.now _
def QP (n s:Int):Bool:=decide (0≤n∧n≤8∧0≤s∧s<2 ^n.toNat)
def yM (n:Int)(l:List Int):Bool:=((List.range l.length).all fun i=>QP n (l.getD i 0)&&(decide (i=0)||decide (l.getD (i - 1) 0<l.getD i 0)))&&decide (0≤n∧n≤8)
theorem Yd {i:Nat}(h:i<9223372036854775807)(h0:0<i):wrap64 ((i:Int) - 1)=((i - 1:Nat):Int):=by rw [ja (by omega) (by omega)];omega
theorem za9 (n:Int)(l:List Int)(hl:l.length≤17592186044416):Ev (fun k=>ql.f k n l) (yM n l):=by
  unfold ql.f
  have h:=vy (fun k i=>ql.l0 k n l i) l.length (fun i r=>(QP n (l.getD i 0)&&(decide (i=0)||decide (l.getD (i - 1) 0<l.getD i 0)))&&r) (decide (0≤n∧n≤8))
    (by simp only [ql.l0,show ¬((l.length:Int)< (l.length:Int)) by omega,if_false,zcd,Option.bind_some];exact Ev.now _) fun i hi r hr=>by
      simp only [ql.l0,show ((i:Int)< (l.length:Int)) by omega,show (0:Int)≤(i:Int) by omega,if_true,qG,J3,Option.bind_some,decide_eq_true_eq,zB (show i<9223372036854775807 by omega)]
      unfold QP
      by_cases hs:0≤n∧n≤8∧0≤l.getD i 0∧l.getD i 0<2 ^n.toNat
      · simp only [hs,and_self,if_true,decide_true,Bool.true_and]
        by_cases h0:i=0
        · subst h0
          simp only [show ¬(((0:Nat):Int)>0) by omega,if_false,decide_true,Bool.true_or,Bool.true_and];exact hr
        · simp only [show ((i:Int)>0) by omega,if_true,Yd (show i<9223372036854775807 by omega) (Nat.pos_of_ne_zero h0),show (0:Int)≤((i - 1:Nat):Int) by omega,show ((i - 1:Nat):Int)< (l.length:Int) by omega,qG,h0,decide_false,Bool.false_or]
          by_cases hc:l.getD (i - 1) 0<l.getD i 0
          · simp only [show ¬(l.getD (i - 1) 0≥l.getD i 0) by omega,if_false,hc,decide_true,Bool.true_and];exact hr
          · simp only [show (l.getD (i - 1) 0≥l.getD i 0) by omega,if_true,hc,decide_false,Bool.false_and];exact Ev.now _
      · simp only [if_neg hs,decide_eq_false hs,Bool.false_and];exact Ev.now _
  rw [JF] at h
  exact h
theorem zbk (n:Int)(l:List Int)(hl:l.length≤17592186044416):Ev (fun k=>qk.f k n l) (yM n l):=by
  unfold qk.f
  have h:=vy (fun k i=>qk.l0 k n l l (l.length:Int) i) l.length (fun i r=>(QP n (l.getD i 0)&&(decide (i=0)||decide (l.getD (i - 1) 0<l.getD i 0)))&&r) (decide (0≤n∧n≤8))
    (by simp only [qk.l0,show ¬((l.length:Int)< (l.length:Int)) by omega,if_false,Jo,Option.bind_some];exact Ev.now _) fun i hi r hr=>by
      simp only [qk.l0,show ((i:Int)< (l.length:Int)) by omega,show (0:Int)≤(i:Int) by omega,if_true,qG,zbt,Option.bind_some,decide_eq_true_eq,zB (show i<9223372036854775807 by omega)]
      unfold QP
      by_cases hs:0≤n∧n≤8∧0≤l.getD i 0∧l.getD i 0<2 ^n.toNat
      · simp only [hs,and_self,if_true,decide_true,Bool.true_and]
        by_cases h0:i=0
        · subst h0
          simp only [show ¬(((0:Nat):Int)>0) by omega,if_false,decide_true,Bool.true_or,Bool.true_and];exact hr
        · simp only [show ((i:Int)>0) by omega,if_true,Yd (show i<9223372036854775807 by omega) (Nat.pos_of_ne_zero h0),show (0:Int)≤((i - 1:Nat):Int) by omega,show ((i - 1:Nat):Int)< (l.length:Int) by omega,qG,h0,decide_false,Bool.false_or]
          by_cases hc:l.getD (i - 1) 0<l.getD i 0
          · simp only [show ¬(l.getD i 0≤l.getD (i - 1) 0) by omega,if_false,hc,decide_true,Bool.true_and];exact hr
          · simp only [show (l.getD i 0≤l.getD (i - 1) 0) by omega,if_true,hc,decide_false,Bool.false_and];exact Ev.now _
      · simp only [if_neg hs,decide_eq_false hs,Bool.false_and];exact Ev.now _
  rw [JF] at h
  exact h
/-- What a family holds, in natural numbers. -/
theorem JE {n:Int}{l:List Int}(h:yM n l=true): ∃(N:Nat) (B:List Nat),n=N∧N≤8∧l=ints B∧(∀b∈B,b<2 ^N)∧B.Pairwise (· < ·):=by
  unfold yM at h
  simp only [Bool.and_eq_true,decide_eq_true_eq,List.all_eq_true,List.mem_range,Bool.or_eq_true] at h
  obtain ⟨h1,h2,h3⟩:=h
  obtain ⟨N,rfl⟩:=Int.eq_ofNat_of_zero_le h2
  have hset: ∀i (hi:i<l.length),0≤l[i]∧l[i]<2 ^N:=fun i hi=>by
    have:=(h1 i hi).1
    simp only [QP,decide_eq_true_eq,Int.toNat_natCast,List.getD_eq_getElem?_getD,List.getElem?_eq_getElem hi,Option.getD_some] at this
    exact ⟨this.2.2.1,this.2.2.2⟩
  have hstep: ∀i (hi:i+1<l.length),l[i]<l[i+1]:=fun i hi=>by
    have:=(h1 (i+1) hi).2
    simp only [Nat.succ_ne_zero,false_or,Nat.add_sub_cancel,List.getD_eq_getElem?_getD,List.getElem?_eq_getElem hi,List.getElem?_eq_getElem (show i<l.length by omega),Option.getD_some] at this
    exact this
  have hlt: ∀j (hj:j<l.length) i (hi:i<j),l[i]<l[j]:=by
    intro j
    induction j with
    |zero=>intro _ i hi;omega
    |succ j ih=>
      intro hj i hi
      by_cases e:i=j
      · subst e;exact hstep i hj
      · exact Int.lt_trans (ih (by omega) i (by omega)) (hstep j hj)
  refine ⟨N,l.map Int.toNat,rfl,by omega,?_,?_,?_⟩
  · apply List.ext_getElem (by simp [ints])
    intro i h1 h2
    have:=(hset i h1).1
    simp [ints];omega
  · intro b hb
    obtain ⟨x,hx,rfl⟩:=List.mem_map.1 hb
    obtain ⟨i,hi,rfl⟩:=List.getElem_of_mem hx
    have:=hset i hi
    have e:(2:Int) ^N=((2 ^N:Nat):Int):=by simp
    rw [e] at this
    generalize 2 ^N=y at this ⊢
    omega
  · rw [List.pairwise_iff_getElem]
    intro i j hi hj hij
    simp only [List.length_map] at hi hj
    have:=hlt j hj i hij
    have:=(hset i hi).1
    simp only [List.getElem_map];omega
def zbc (s:Int):Nat:=if isAny s then cnt s.toNat else 0
theorem zef: ∀s:Nat,s<256→vn.f (s:Int)=some (cnt s:Int):=by decide+kernel
theorem zce (s:Int):vV.f s=some (zbc s:Int):=by
  unfold vV.f zbc
  rw [Q4]
  simp only [Option.bind_some]
  cases h:isAny s
  · simp
  · have hs:0≤s∧s<256:=by simpa [isAny] using h
    obtain ⟨a,rfl⟩:=Int.eq_ofNat_of_zero_le hs.1
    rw [yq (by omega) (by omega)]
    simp only [if_true,vH.f,Option.bind_some,Int.toNat_natCast]
    rw [zef a (by omega)];rfl
end Go.Proofs.YtjlbfbpjcmjdfaaGreat.L
end
section
namespace Go.Proofs.YtjlbfbpjcmjdfaaGreat.Mt
def setOf (n:Nat)(p:Nat→Bool):Nat:=(List.range n).foldl (fun o e=>if p e then ins o e else o) 0
theorem Jd (p:Nat→Bool)(i:Nat): ∀(l:List Nat) (o:Nat),(l.foldl (fun o e=>if p e then ins o e else o) o).testBit i=(o.testBit i||(decide (i∈l)&&p i))
  | [],o=>by simp
  |a::l,o=>by
    rw [List.foldl_cons,Jd p i l]
    by_cases ha:a=i
    · subst ha
      cases hp:p a<;>simp [qU]
    · have:(i=a)=False:=eq_false fun h=>ha h.symm
      cases hp:p a<;>simp [qU,ha,this]
theorem JB (n:Nat)(p:Nat→Bool)(i:Nat):(setOf n p).testBit i=(decide (i<n)&&p i):=by
  unfold setOf;rw [Jd,yi];simp
theorem zc7 (n:Nat)(p:Nat→Bool):setOf n p<2 ^n:=ZR fun i hi=>by rw [JB] at hi;simp at hi;exact hi.1
theorem Jy {s e n:Nat}(hs:s<2 ^n)(he:e<n):ins s e<2 ^n:=ZR fun i hi=>by
  rw [qU] at hi;rcases Bool.or_eq_true_iff.1 hi with hi|hi
  · exact vX hs hi
  · rw [←of_decide_eq_true hi];exact he
theorem Z1 {s t e:Nat}(h:sub s t)(he:t.testBit e=true):sub (ins s e) t:=fun i hi=>by
  rw [qU] at hi;rcases Bool.or_eq_true_iff.1 hi with hi|hi
  · exact h i hi
  · rw [←of_decide_eq_true hi];exact he
theorem Q2 {s t:Nat}(e:Nat)(h:sub s t):sub (ins s e) (ins t e):=Z1 (vo h (Qm t e)) (zbP t e)
theorem zbA {s e:Nat}(h:s.testBit e=true):ins (del s e) e=s:=ext fun i=>by
  rw [qU,jn];by_cases hi:e=i
  · subst hi;simp [h]
  · simp [hi]

section
variable {n:Nat} {B:List Nat}
/-- What adds nothing to the rank, one by one, adds nothing together. -/
theorem Mat.zee (M:Mat n B){s t:Nat}(ht:t<2 ^n)(hst:sub s t)(h: ∀e,t.testBit e=true→rk B (ins s e)=rk B s):rk B t=rk B s:=by
  have ht8:t<256:=jE M.size ht
  have hs8:s<256:=jl (n:=8) hst ht8
  apply Nat.le_antisymm _ (yj hst)
  obtain ⟨I,hI,_,hIs,hIc⟩:=M.Qv hs8 (VM M.ne) (fun i hi=>by rw [yi] at hi;cases hi)
  obtain ⟨J,hJ,hIJ,hJt,hJc⟩:=M.Qv ht8 hI (vo hIs hst)
  apply Nat.le_of_not_lt
  intro hlt
  obtain ⟨x,hxJ,hxI⟩:=Js (a:=J) (b:=I) (by omega)
  have h8:x<8:=vX (n:=8) (jl (n:=8) hJt ht8) hxJ
  have h1:ind B (ins I x):=yV (Z1 hIJ hxJ) hJ
  have h2:=(vw M.ne (jl (n:=8) (Z1 (vo hIJ hJt) (hJt x hxJ)) ht8)).1 h1
  have h3:=Qt h8 hxI
  have h4:rk B (ins I x)≤rk B (ins s x):=yj (Q2 x hIs)
  have h5:=h x (hJt x hxJ)
  omega
/-- The closure of s. -/
def cl (n:Nat)(B:List Nat)(s:Nat):Nat:=setOf n fun e=>decide (rk B (ins s e)=rk B s)
theorem zeJ (s e:Nat):(cl n B s).testBit e=(decide (e<n)&&decide (rk B (ins s e)=rk B s)):=JB _ _ _
theorem ZA {s e:Nat}:(cl n B s).testBit e=true↔e<n∧rk B (ins s e)=rk B s:=by rw [zeJ];simp
theorem zdd (s:Nat):cl n B s<2 ^n:=zc7 _ _
theorem YD {s:Nat}(hs:s<2 ^n):sub s (cl n B s):=fun i hi=>ZA.2 ⟨vX hs hi,by rw [zev hi]⟩
theorem Mat.ze2 (M:Mat n B){s:Nat}(hs:s<2 ^n):rk B (cl n B s)=rk B s:=M.zee (zdd s) (YD hs) fun _ he=>(ZA.1 he).2
/-- What adds nothing to s adds nothing to more. -/
theorem Mat.zah (M:Mat n B){s t e:Nat}(ht:t<2 ^n)(he:e<n)(hst:sub s t)(h:rk B (ins s e)=rk B s):rk B (ins t e)=rk B t:=by
  have h1:=M.zen (s:=ins s e) (t:=t) (jE M.size (Jy (jl hst ht) he)) (jE M.size ht)
  have h2:ins s e |||t=ins t e:=ext fun i=>by
    rw [yF,qU,qU];have:=hst i;revert this;cases s.testBit i<;>cases t.testBit i<;>cases decide (e=i)<;>simp
  have h3:rk B s≤rk B (ins s e &&&t):=yj (zdy (Qm s e) hst)
  rw [h2] at h1
  have h4:rk B t≤rk B (ins t e):=yj (Qm t e)
  omega
theorem Mat.zbM (M:Mat n B){s t:Nat}(ht:t<2 ^n)(hst:sub s t):sub (cl n B s) (cl n B t):=fun _ hi=>
  ZA.2 ⟨(ZA.1 hi).1,M.zah ht (ZA.1 hi).1 hst (ZA.1 hi).2⟩
theorem Mat.zeT (M:Mat n B){s:Nat}(hs:s<2 ^n):cl n B (cl n B s)=cl n B s:=by
  refine yH (fun i hi=> ?_) (YD (zdd s))
  obtain ⟨h1,h2⟩:=ZA.1 hi
  refine ZA.2 ⟨h1,?_⟩
  have h3:rk B (ins s i)≤rk B (ins (cl n B s) i):=yj (Q2 i (YD hs))
  rw [h2,M.ze2 hs] at h3
  exact Nat.le_antisymm h3 (yj (Qm s i))
theorem Mat.zeD (M:Mat n B){s t:Nat}(ht:t<2 ^n)(h:sub s (cl n B t)):sub (cl n B s) (cl n B t):=by
  have:=M.zbM (zdd (n:=n) (B:=B) t) h;rwa [M.zeT ht] at this
/-- A least dependent set. -/
def QX (n:Nat)(B:List Nat)(c:Nat):Prop:=c<2 ^n∧ ¬ind B c∧ ∀e,c.testBit e=true→ind B (del c e)
theorem zaJ {d:Nat}(hd:d<2 ^n)(hn:n≤8)(h: ¬ind B d): ∃c,QX n B c∧sub c d:=by
  have key: ∀k d,d<2 ^n→ ¬ind B d→cnt d=k→ ∃c,QX n B c∧sub c d:=by
    intro k
    induction k using Nat.strongRecOn with
    |_ k ih=>
      intro d hd h hk
      by_cases hh: ∀e,d.testBit e=true→ind B (del d e)
      · exact ⟨d,⟨hd,h,hh⟩,ZJ d⟩
      · obtain ⟨e,he⟩:=Classical.not_forall.1 hh
        obtain ⟨he,hne⟩:=Classical.not_imp.1 he
        have:=ZZ (vX (n:=8) (jE hn hd) he) he
        obtain ⟨c,hc,hs⟩:=ih _ (by omega) (del d e) (jl (yr d e) hd) hne rfl
        exact ⟨c,hc,vo hs (yr d e)⟩
  exact key _ d hd h rfl
theorem zao {c d:Nat}(hc: ¬ind B c)(hd:QX n B d)(h:sub c d):c=d:=by
  refine yH h fun i hi=> ?_
  cases hci:c.testBit i
  · exact absurd (yV (fun j hj=>by
      rw [jn,h j hj,Bool.true_and]
      have:i≠j:=fun e=>by subst e;rw [hci] at hj;cases hj
      simp [this]) (hd.2.2 i hi)) hc
  · rfl
theorem Mat.zbL (M:Mat n B){c e:Nat}(hc:QX n B c)(he:c.testBit e=true):(cl n B (del c e)).testBit e=true:=by
  refine ZA.2 ⟨vX hc.1 he,?_⟩
  rw [zbA he]
  have hc8:=jE M.size hc.1
  have h1:=(vw M.ne (jl (n:=8) (yr c e) hc8)).1 (hc.2.2 e he)
  have h2:=ZZ (vX (n:=8) hc8 he) he
  have h3:rk B c≠cnt c:=fun h=>hc.2.1 ((vw M.ne hc8).2 h)
  have h4:rk B (del c e)≤rk B c:=yj (yr c e)
  have h5:rk B c≤cnt c:=yQ c
  omega
theorem Mat.za1 (M:Mat n B){y e:Nat}(hy:y<2 ^n)(hye:y.testBit e=false)(he:(cl n B y).testBit e=true): ∃c,QX n B c∧c.testBit e=true∧sub c (ins y e):=by
  obtain ⟨h1,h2⟩:=ZA.1 he
  have hy8:=jE M.size hy
  obtain ⟨I,hI,_,hIs,hIc⟩:=M.Qv hy8 (VM M.ne) (fun i hi=>by rw [yi] at hi;cases hi)
  have hIe:I.testBit e=false:=by
    cases h:I.testBit e
    · rfl
    · rw [hIs e h] at hye;cases hye
  have hIlt:I<2 ^n:=jl hIs hy
  have hlt:=Jy hIlt h1
  have hdep: ¬ind B (ins I e):=fun h=>by
    have h3:=(vw M.ne (jE M.size hlt)).1 h
    have h4:rk B (ins I e)≤rk B (ins y e):=yj (Q2 e hIs)
    have h5:=Qt (Nat.lt_of_lt_of_le h1 M.size) hIe
    omega
  obtain ⟨c,hc,hs⟩:=zaJ hlt M.size hdep
  refine ⟨c,hc,?_,vo hs (Q2 e hIs)⟩
  cases hce:c.testBit e
  · refine absurd (yV (fun j hj=> ?_) hI) hc.2.1
    have:=hs j hj
    rw [qU] at this
    rcases Bool.or_eq_true_iff.1 this with h|h
    · exact h
    · rw [←of_decide_eq_true h,hce] at hj;cases hj
  · rfl
/-- Two circuits with f in common, and e in the first alone: there is one with e, without f, in both. -/
theorem Mat.elim (M:Mat n B){c d e f:Nat}(hc:QX n B c)(hd:QX n B d)(_:c.testBit f=true)(hfd:d.testBit f=true)(hec:c.testBit e=true)(hed:d.testBit e=false):
    ∃x,QX n B x∧x.testBit e=true∧sub x (del (c |||d) f):=by
  have hef:f≠e:=fun h=>by subst h;rw [hfd] at hed;cases hed
  have hcd:c |||d<2 ^n:=Nat.or_lt_two_pow hc.1 hd.1
  have hX:del (c |||d) f<2 ^n:=jl (yr _ _) hcd
  have hY:del (del (c |||d) f) e<2 ^n:=jl (yr _ _) hX
  -- f is in the closure of Y, so all of c is
  have h1:(cl n B (del (del (c |||d) f) e)).testBit f=true:=by
    refine M.zbM hY (fun i hi=> ?_) f (M.zbL hd hfd)
    rw [jn] at hi;simp at hi
    have:e≠i:=fun h=>by subst h;rw [hed] at hi;exact absurd hi.1 (by simp)
    rw [jn,jn,yF,hi.1];simp [hi.2,this]
  have h2:sub (del c e) (cl n B (del (del (c |||d) f) e)):=fun i hi=>by
    rw [jn] at hi;simp at hi
    by_cases hif:f=i
    · subst hif;exact h1
    · exact YD hY i (by rw [jn,jn,yF,hi.1];simp [hif,hi.2])
  have h3:(cl n B (del (del (c |||d) f) e)).testBit e=true:=M.zeD hY h2 e (M.zbL hc hec)
  obtain ⟨x,hx,hxe,hxs⟩:=M.za1 hY (by simp [jn]) h3
  refine ⟨x,hx,hxe,vo hxs ?_⟩
  rw [zbA (by rw [jn,yF,hec];simp [hef])]
  exact ZJ _
theorem Mat.congr {B':List Nat}(M:Mat n B)(h: ∀x,x∈B'↔x∈B):Mat n B' where
  size:=M.size
  lt:=fun b hb=>M.lt b ((h b).1 hb)
  ne:=fun he=>by
    obtain ⟨c,hc⟩:=List.exists_mem_of_ne_nil B M.ne
    have:=(h c).2 hc;rw [he] at this;cases this
  ex:=fun a ha b hb e hea heb=>by
    obtain ⟨f,h1,h2,h3⟩:=M.ex a ((h a).1 ha) b ((h b).1 hb) e hea heb
    exact ⟨f,h1,h2,(h _).2 h3⟩
/-- The complement within n elements. -/
def co (n s:Nat):Nat:=sdiff (full n) s
theorem J9 (n s i:Nat):(co n s).testBit i=(decide (i<n)&& !s.testBit i):=by rw [co,qQ,zaA]
theorem zeV (n s:Nat):co n s<2 ^n:=ZR fun i hi=>by rw [J9] at hi;simp at hi;exact hi.1
/-- A set that a base lies in. -/
def span (B:List Nat)(s:Nat):Prop:= ∃b∈B,sub b s
/-- The bases are the least sets that span. -/
theorem Mat.Vq (M:Mat n B){s:Nat}:s∈B↔span B s∧ ∀t,span B t→sub t s→t=s:=by
  constructor
  · intro hs
    refine ⟨⟨s,hs,ZJ s⟩,fun t ⟨b,hb,hbt⟩ hts=> ?_⟩
    have hbs:b=s:=ZB (vo hbt hts) (M.lt8 hs) (Nat.le_of_eq (M.Jw hs hb))
    subst hbs
    exact yH hts hbt
  · rintro ⟨⟨b,hb,hbs⟩,h⟩
    rw [←h b ⟨b,hb,ZJ b⟩ hbs];exact hb
end
end Go.Proofs.YtjlbfbpjcmjdfaaGreat.Mt
end
section
namespace Go.Proofs.YtjlbfbpjcmjdfaaGreat.Mt
set_option linter.unusedVariables false
section
variable {n:Nat} {B:List Nat}
end
end Go.Proofs.YtjlbfbpjcmjdfaaGreat.Mt
end
section
namespace Go.Proofs.YtjlbfbpjcmjdfaaGreat.Mt
set_option linter.unusedVariables false
def jr (p:Int):Prop:=p=2∨p=3∨p=5∨p=7
theorem jr.pos {p:Int}(h:jr p):2≤p∧p≤7:=by unfold jr at h;omega
theorem zdB: ∀p∈[2,3,5,7],∀a∈List.range 7,∀b∈List.range 7,(a*b)%p=0→a%p=0∨b%p=0:=by decide
theorem zdx: ∀p∈[2,3,5,7],∀a∈List.range 7,a%p≠0→ ∃b∈List.range 7,(a*b)%p=1:=by decide
theorem jr.nat {p:Int}(h:jr p): ∃q:Nat,p=(q:Int)∧q∈[2,3,5,7]:=by
  rcases h with rfl|rfl|rfl|rfl
  · exact ⟨2,rfl,by decide⟩
  · exact ⟨3,rfl,by decide⟩
  · exact ⟨5,rfl,by decide⟩
  · exact ⟨7,rfl,by decide⟩
theorem jr.res {p:Int}(h:jr p)(x:Int): ∃a:Nat,a∈List.range 7∧x%p=(a:Int)∧a%p.toNat=a:=by
  have hp:=h.pos
  have h0:=Int.emod_nonneg x (show p≠0 by omega)
  have h1:=Int.emod_lt_of_pos x (show 0<p by omega)
  refine ⟨(x%p).toNat,by simp;omega,by omega,Nat.mod_eq_of_lt (by omega)⟩
theorem jr.V3 {p:Int}(h:jr p){x y:Int}(hxy:p∣x*y):p∣x∨p∣y:=by
  obtain ⟨q,rfl,hq⟩:=h.nat
  obtain ⟨a,ha,hxa,_⟩:=h.res x
  obtain ⟨b,hb,hyb,_⟩:=h.res y
  have h1:=Int.emod_eq_zero_of_dvd hxy
  rw [Int.mul_emod,hxa,hyb] at h1
  have h2:(a*b)%q=0:=by
    have:((a*b%q:Nat):Int)=0:=by rw [Int.natCast_emod,Int.natCast_mul];exact h1
    omega
  have key: ∀ {z:Int} {c:Nat},z%(q:Int)=(c:Int)→c%q=0→(q:Int)∣z:=fun {z c} hz hc=>by
    apply Int.dvd_of_emod_eq_zero
    have h3:(z%(q:Int))%(q:Int)=z%(q:Int):=Int.emod_emod _ _
    rw [hz] at h3
    have:((c%q:Nat):Int)=(c:Int):=by rw [Int.natCast_emod];exact h3
    rw [hz,←this,hc];rfl
  rcases zdB q hq a ha b hb h2 with h3|h3
  · exact .inl (key hxa h3)
  · exact .inr (key hyb h3)
theorem jr.inv {p:Int}(h:jr p){x:Int}(hx: ¬p∣x): ∃y:Int,p∣x*y - 1:=by
  obtain ⟨q,rfl,hq⟩:=h.nat
  obtain ⟨a,ha,hxa,hm⟩:=h.res x
  have h1:a%q≠0:=fun h0=>hx (by
    apply Int.dvd_of_emod_eq_zero
    rw [Int.toNat_natCast] at hm
    rw [hxa,←hm,h0];rfl)
  obtain ⟨b,_,hb⟩:=zdx q hq a ha h1
  refine ⟨(b:Int),?_⟩
  have h2:(x*(b:Int))%(q:Int)=1:=by
    rw [Int.mul_emod,hxa]
    have:(((a*b)%q:Nat):Int)=1:=by rw [hb];rfl
    rw [Int.natCast_emod,Int.natCast_mul,Int.mul_emod] at this
    have hqq:(a:Int)%(q:Int)=(a:Int):=by
      have:((a%q:Nat):Int)=(a:Int):=by rw [Int.toNat_natCast] at hm;rw [hm]
      rwa [Int.natCast_emod] at this
    rw [hqq] at this;exact this
  have h3:=Int.emod_add_mul_ediv (x*(b:Int)) (q:Int)
  rw [h2] at h3
  exact ⟨x*(b:Int) / (q:Int),by omega⟩

def dot (n:Nat)(u v:Nat→Int):Int:=((List.range n).map fun j=>u j*v j).sum
theorem Qd {α:Type}(f g:α→Int): ∀l:List α,(l.map fun j=>f j+g j).sum=(l.map f).sum+(l.map g).sum
  | []=>rfl
  |a::l=>by simp only [List.map_cons,List.sum_cons,Qd f g l];omega
theorem Zw {α:Type}(c:Int)(f:α→Int): ∀l:List α,(l.map fun j=>c*f j).sum=c*(l.map f).sum
  | []=>by simp
  |a::l=>by simp only [List.map_cons,List.sum_cons,Zw c f l,Int.mul_add]
theorem yX (n:Nat)(u v w:Nat→Int)(c:Int):dot n u (fun j=>v j+c*w j)=dot n u v+c*dot n u w:=by
  unfold dot
  rw [←Zw,←Qd]
  congr 1
  apply List.map_congr_left
  intro j _
  rw [Int.mul_add,←Int.mul_assoc,Int.mul_comm (u j) c,Int.mul_assoc]
theorem y1 (n:Nat)(u v:Nat→Int):dot n u v=dot n v u:=by
  unfold dot;congr 1;apply List.map_congr_left;intro j _;exact Int.mul_comm _ _
theorem Jn (n:Nat)(u v w:Nat→Int)(c:Int):dot n (fun j=>v j+c*w j) u=dot n v u+c*dot n w u:=by
  rw [y1,yX,y1 n u v,y1 n u w]
theorem Jj {p:Int}{α:Type}(f:α→Int): ∀l:List α,(∀j∈l,p∣f j)→p∣(l.map f).sum
  | [],_=>by simp
  |a::l,h=>by
    simp only [List.map_cons,List.sum_cons]
    exact Int.dvd_add (h a (by simp)) (Jj f l fun j hj=>h j (by simp [hj]))
/-- A sum of which all but one place vanish. -/
theorem YN {p:Int}(f:Nat→Int)(k:Nat): ∀(l:List Nat),l.Nodup→k∈l→(∀j∈l,j≠k→p∣f j)→p∣(l.map f).sum - f k
  | [],_,hk,_=>by cases hk
  |a::l,hn,hk,h=>by
    rw [List.nodup_cons] at hn
    simp only [List.map_cons,List.sum_cons]
    by_cases hak:a=k
    · subst hak
      have:=Jj (p:=p) f l fun j hj=>h j (by simp [hj]) fun e=>hn.1 (e ▸hj)
      rwa [show f a+(l.map f).sum - f a=(l.map f).sum by omega]
    · have hkl : k ∈ l := by rcases List.mem_cons.1 hk with h' | h'
                             · exact absurd h'.symm hak
                             · exact h'
      have h1:=YN f k l hn.2 hkl fun j hj=>h j (by simp [hj])
      have h2:=h a (by simp) hak
      rw [show f a+(l.map f).sum - f k=f a+((l.map f).sum - f k) by omega]
      exact Int.dvd_add h2 h1
theorem J1 {p:Int}{n k:Nat}(hk:k<n)(u v:Nat→Int)(h: ∀j,j<n→j≠k→p∣u j*v j):p∣dot n u v - u k*v k:=
  YN (fun j=>u j*v j) k (List.range n) List.nodup_range (List.mem_range.2 hk) fun j hj hjk=>h j (List.mem_range.1 hj) hjk
/-- Only the places below n count, and only modulo p. -/
theorem zbE {p:Int}{n:Nat}{u v w:Nat→Int}(h: ∀j,j<n→p∣v j - w j):p∣dot n u v - dot n u w:=by
  have:=Jj (p:=p) (fun j=>u j*(v j - w j)) (List.range n) fun j hj=>Int.dvd_mul_of_dvd_right (h j (List.mem_range.1 hj))
  have h2:dot n u v - dot n u w=((List.range n).map fun j=>u j*(v j - w j)).sum:=by
    have h3:=yX n u v w (-1)
    have h4:(fun j=>u j*(v j - w j))=fun j=>u j*(v j+(-1)*w j):=funext fun j=>by congr 1;omega
    rw [h4];show _=dot n u (fun j=>v j+(-1)*w j);rw [h3];omega
  rw [h2];exact this

/-- Vectors of n places modulo p that are closed under sums and multiples. -/
structure Sp (p:Int)(n:Nat)(K:(Nat→Int)→Prop):Prop where
  fld:jr p
  size:n≤8
  zero:K fun _=>0
  add: ∀v w c,K v→K w→K fun j=>v j+c*w j
  mod: ∀v w,(∀j,j<n→p∣v j - w j)→K v→K w
/-- Nothing but zero outside of s. -/
def zau (p:Int)(n:Nat)(v:Nat→Int)(s:Nat):Prop:= ∀j,j<n→s.testBit j=false→p∣v j
/-- No vector of K but zero has all that it has in s. -/
def li (p:Int)(n:Nat)(K:(Nat→Int)→Prop)(s:Nat):Prop:= ∀v,K v→zau p n v s→ ∀j,j<n→p∣v j
theorem zcP {p:Int}{n:Nat}{K:(Nat→Int)→Prop}{s t:Nat}(h:sub s t)(k:li p n K t):li p n K s:=fun v hv hs=>k v hv fun j hj ht=>hs j hj (by
  cases hb:s.testBit j
  · rfl
  · rw [h j hb] at ht;cases ht)
section
variable {p:Int} {n:Nat} {K:(Nat→Int)→Prop}
theorem Sp.smul (S:Sp p n K){v:Nat→Int}(hv:K v)(c:Int):K fun j=>c*v j:=by
  have:=S.add _ _ c S.zero hv;exact S.mod _ _ (fun j _=>by show p∣0+c*v j - c*v j;rw [show 0+c*v j - c*v j=0 by omega];exact Int.dvd_zero p) this
/-- What makes s dependent by e: a vector with 1 at e, and else within s. -/
theorem Sp.vec (S:Sp p n K){s e:Nat}(he:e<n)(hs:li p n K s)(h: ¬li p n K (ins s e)): ∃v,K v∧zau p n v (ins s e)∧p∣v e - 1:=by
  obtain ⟨v,hv⟩:=Classical.not_forall.1 h
  obtain ⟨hK,hv2⟩:=Classical.not_imp.1 hv
  obtain ⟨hsup,hv3⟩:=Classical.not_imp.1 hv2
  obtain ⟨j,hj⟩:=Classical.not_forall.1 hv3
  obtain ⟨hjn,hjp⟩:=Classical.not_imp.1 hj
  have hve: ¬p∣v e:=fun h0=>hjp (hs v hK (fun i hi hsi=>by
    by_cases hie:e=i
    · rw [←hie];exact h0
    · exact hsup i hi (by rw [qU,hsi];simp [hie])) j hjn)
  obtain ⟨y,hy⟩:=S.fld.inv hve
  refine ⟨fun j=>y*v j,S.smul hK y,fun j hj hb=>Int.dvd_mul_of_dvd_right (hsup j hj hb),?_⟩
  show p∣y*v e - 1
  rw [Int.mul_comm];exact hy
theorem Sp.VA (S:Sp p n K){s e:Nat}{v:Nat→Int}(he:e<n)(hv:K v)(hs:zau p n v s)(h1: ¬p∣v e): ¬li p n K s:=fun h=>h1 (h v hv hs e he)
/-- A jT independent set. -/
def QE (p:Int)(n:Nat)(K:(Nat→Int)→Prop)(s:Nat):Prop:=s<2 ^n∧li p n K s∧ ∀e,e<n→s.testBit e=false→ ¬li p n K (ins s e)
theorem Sp.Q5 (S:Sp p n K){s:Nat}(hs:s<2 ^n)(h:li p n K s): ∃t,QE p n K t∧sub s t:=by
  have key: ∀k s,s<2 ^n→li p n K s→n - cnt s=k→ ∃t,QE p n K t∧sub s t:=by
    intro k
    induction k using Nat.strongRecOn with
    |_ k ih=>
      intro s hs h hk
      by_cases hh: ∀e,e<n→s.testBit e=false→ ¬li p n K (ins s e)
      · exact ⟨s,⟨hs,h,hh⟩,ZJ s⟩
      · obtain ⟨e,he⟩:=Classical.not_forall.1 hh
        obtain ⟨he,he2⟩:=Classical.not_imp.1 he
        obtain ⟨hes,hli⟩:=Classical.not_imp.1 he2
        have hli:=Classical.not_not.1 hli
        have h1:=Qt (Nat.lt_of_lt_of_le he S.size) hes
        have h2:=yc (zan (Jy hs he))
        rw [zcY S.size] at h2
        obtain ⟨t,ht,hst⟩:=ih _ (by omega) (ins s e) (Jy hs he) hli rfl
        exact ⟨t,ht,vo (Qm s e) hst⟩
  exact key _ s hs h rfl
theorem zdw:li p n K 0:=fun v _ hs j hj=>hs j hj (yi j)
/-- A vector is what its places outside of a jT independent set make it. -/
theorem Sp.expand (S:Sp p n K){a:Nat}(ha:QE p n K a)(V:Nat→Nat→Int)(hV: ∀x,x<n→a.testBit x=false→K (V x)∧zau p n (V x) (ins a x)∧p∣V x x - 1){u:Nat→Int}(hu:K u):
    ∀e,e<n→p∣u e - ((List.range n).map fun x=>if a.testBit x then 0 else u x*V x e).sum:=by
  -- take off, place by place
  have key: ∀(l:List Nat),l.Nodup→(∀x∈l,x<n)→K (fun e=>u e - (l.map fun x=>if a.testBit x then 0 else u x*V x e).sum):=by
    intro l
    induction l with
    |nil=>intro _ _;exact S.mod _ _ (fun j _=>by simp) hu
    |cons x l ih=>
      intro hn hl
      rw [List.nodup_cons] at hn
      have h1:=ih hn.2 fun y hy=>hl y (by simp [hy])
      cases hx:a.testBit x
      · refine S.mod _ _ (fun j _=> ?_) (S.add _ _ (-(u x)) h1 (hV x (hl x (by simp)) hx).1)
        simp only [List.map_cons,List.sum_cons,hx,Bool.false_eq_true,if_false]
        rw [show ∀a b c:Int,a - b+ -(u x)*c - (a - (u x*c+b))=0 from by intro a b c;rw [Int.neg_mul];omega]
        exact Int.dvd_zero p
      · refine S.mod _ _ (fun j _=> ?_) h1
        simp only [List.map_cons,List.sum_cons,hx,if_true]
        rw [show ∀a b:Int,a - b - (a - (0+b))=0 from by intro a b;omega]
        exact Int.dvd_zero p
  have h1:=key (List.range n) List.nodup_range fun x hx=>List.mem_range.1 hx
  refine ha.2.1 _ h1 fun j hj hja=> ?_
  -- outside of a only its own place counts
  have h2:=YN (p:=p) (fun x=>if a.testBit x then 0 else u x*V x j) j (List.range n) List.nodup_range (List.mem_range.2 hj) fun x hx hxj=>by
    show p∣if a.testBit x then 0 else u x*V x j
    cases hxa:a.testBit x
    · simp only [Bool.false_eq_true,if_false]
      refine Int.dvd_mul_of_dvd_right ((hV x (List.mem_range.1 hx) hxa).2.1 j hj ?_)
      rw [qU,hja];simp [hxj]
    · simp
  simp only [hja,Bool.false_eq_true,if_false] at h2
  have h3:=Int.dvd_mul_of_dvd_right (b:=u j) (hV j hj hja).2.2
  have h4:=Int.dvd_add h2 h3
  rw [show ∀s m c:Int,s - c*m+c*(m - 1)= -(c - s) from by intro s m c;rw [Int.mul_sub];omega] at h4
  exact (Int.dvd_neg).1 h4
/-- Exchange, for jT independent sets. -/
theorem Sp.ex (S:Sp p n K){a b e:Nat}(ha:QE p n K a)(hb:QE p n K b)(hea:a.testBit e=true)(heb:b.testBit e=false):
    ∃f,b.testBit f=true∧a.testBit f=false∧QE p n K (ins (del a e) f):=by
  have he:=vX ha.1 hea
  -- for each place outside of a its vector
  have hV: ∀x,∃v,(x<n→a.testBit x=false→K v∧zau p n v (ins a x)∧p∣v x - 1):=fun x=>by
    by_cases hx:x<n∧a.testBit x=false
    · obtain ⟨v,h⟩:=S.vec hx.1 ha.2.1 (ha.2.2 x hx.1 hx.2);exact ⟨v,fun _ _=>h⟩
    · exact ⟨fun _=>0,fun h1 h2=>absurd ⟨h1,h2⟩ hx⟩
  let V:Nat→Nat→Int:=fun x=>Classical.choose (hV x)
  have hV': ∀x,x<n→a.testBit x=false→K (V x)∧zau p n (V x) (ins a x)∧p∣V x x - 1:=fun x=>Classical.choose_spec (hV x)
  obtain ⟨u,hu,hus,hue⟩:=S.vec he hb.2.1 (hb.2.2 e he heb)
  have hex:=S.expand ha V hV' hu e he
  -- some place of b has e in its vector
  have hf: ∃f,f<n∧b.testBit f=true∧a.testBit f=false∧ ¬p∣V f e:=by
    apply Classical.byContradiction
    intro hn
    have h1:p∣((List.range n).map fun x=>if a.testBit x then 0 else u x*V x e).sum:=Jj _ _ fun x hx=>by
      cases hxa:a.testBit x
      · simp only [Bool.false_eq_true,if_false]
        by_cases hxb:b.testBit x=true
        · refine Int.dvd_mul_of_dvd_right ?_
          exact Classical.byContradiction fun h=>hn ⟨x,List.mem_range.1 hx,hxb,hxa,h⟩
        · refine Int.dvd_mul_of_dvd_left (hus x (List.mem_range.1 hx) ?_)
          have hxe:e≠x:=fun h=>by subst h;rw [hea] at hxa;cases hxa
          rw [qU];simp [hxb,hxe]
      · simp
    have h2:=Int.dvd_add hex h1
    rw [show ∀a b:Int,a - b+b=a from by intros;omega] at h2
    have h3:=Int.dvd_sub h2 hue
    rw [show ∀a:Int,a - (a - 1)=1 from by intros;omega] at h3
    have:=S.fld.pos
    have:=Int.le_of_dvd (by decide) h3
    omega
  obtain ⟨f,hfn,hfb,hfa,hVe⟩:=hf
  obtain ⟨hVK,hVs,hV1⟩:=hV' f hfn hfa
  have hfe:f≠e:=fun h=>by subst h;rw [hea] at hfa;cases hfa
  have hsub: ∀i,(ins (del a e) f).testBit i=false→i≠e→(ins a f).testBit i=false:=fun i hi hie=>by
    rw [qU,jn] at hi;rw [qU]
    have:=Bool.or_eq_false_iff.1 hi
    simp only [Ne.symm hie,decide_false,Bool.not_false,Bool.and_true] at this
    rw [this.1,this.2];rfl
  refine ⟨f,hfb,hfa,Jy (jl (yr a e) ha.1) hfn,fun w hw hws=> ?_,fun g hg hgs=> ?_⟩
  · -- w less w_f times the vector of f lies within a
    have h1:=S.add w (V f) (-(w f)) hw hVK
    have h2:=ha.2.1 _ h1 fun j hj hja=>by
      show p∣w j+ -(w f)*V f j
      by_cases hjf:j=f
      · subst hjf
        have:=Int.dvd_mul_of_dvd_right (b:= -(w j)) hV1
        rw [show ∀x y:Int,-x*(y - 1)=x+ -x*y from by intro x y;rw [Int.mul_sub];omega] at this
        exact this
      · have hje:j≠e:=fun h=>by subst h;rw [hea] at hja;cases hja
        refine Int.dvd_add (hws j hj ?_) (Int.dvd_mul_of_dvd_right (hVs j hj ?_))
        · rw [qU,jn,hja];simp [Ne.symm hjf]
        · rw [qU,hja];simp [Ne.symm hjf]
    have h3:p∣w f:=by
      have h4:=h2 e he
      have h5:p∣w e:=hws e he (by rw [qU,jn];simp [hfe])
      have h6:=Int.dvd_sub h4 h5
      rw [show ∀x y z:Int,x+ -y*z - x= -(y*z) from by intro x y z;rw [Int.neg_mul];omega] at h6
      rcases S.fld.V3 ((Int.dvd_neg).1 h6) with h|h
      · exact h
      · exact absurd h hVe
    intro j hj
    have h4:=h2 j hj
    have h5:=Int.dvd_mul_of_dvd_left (c:=V f j) ((Int.dvd_neg).2 h3)
    have h6:=Int.dvd_sub h4 h5
    rwa [show ∀x y:Int,x+y - y=x from by intros;omega] at h6
  · by_cases hge:g=e
    · subst hge
      refine fun h=>ha.2.2 f hfn hfa (zcP (fun i hi=> ?_) h)
      rw [qU] at hi
      rw [qU,qU,jn]
      rcases Bool.or_eq_true_iff.1 hi with hi|hi
      · rw [hi];cases decide (g=i)<;>simp
      · rw [hi];simp
    · have hga:a.testBit g=false:=by
        rw [qU,jn] at hgs
        have:=(Bool.or_eq_false_iff.1 hgs).1
        simpa [Ne.symm hge] using this
      have hgf:f≠g:=fun h=>by subst h;rw [zbP] at hgs;cases hgs
      obtain ⟨hGK,hGs,hG1⟩:=hV' g hg hga
      obtain ⟨y,hy⟩:=S.fld.inv hVe
      refine S.VA (v:=fun j=>V g j+ -(V g e*y)*V f j) hg (S.add _ _ _ hGK hVK) (fun j hj hjs=> ?_) fun h=> ?_
      · show p∣V g j+ -(V g e*y)*V f j
        by_cases hje:j=e
        · subst hje
          have:=Int.dvd_mul_of_dvd_right (b:= -(V g j)) hy
          rw [show ∀x y z:Int,-x*(z*y - 1)=x+ -(x*y)*z from by intro x y z;rw [Int.mul_sub,Int.neg_mul,Int.neg_mul,Int.neg_mul,Int.mul_assoc x y z,Int.mul_comm z y];omega] at this
          exact this
        · have hj1:(ins (del a e) f).testBit j=false:=by
            rw [qU] at hjs;exact (Bool.or_eq_false_iff.1 hjs).1
          have hj2:decide (g=j)=false:=by rw [qU] at hjs;exact (Bool.or_eq_false_iff.1 hjs).2
          have hj3:=hsub j hj1 hje
          refine Int.dvd_add (hGs j hj ?_) (Int.dvd_mul_of_dvd_right (hVs j hj hj3))
          rw [qU] at hj3 ⊢
          rw [(Bool.or_eq_false_iff.1 hj3).1,hj2];rfl
      · have h1:p∣V g g+ -(V g e*y)*V f g:=h
        have h2:p∣V f g:=hVs g hg (by rw [qU,hga];simp [hgf])
        have h3:=Int.dvd_sub h1 (Int.dvd_mul_of_dvd_right (b:= -(V g e*y)) h2)
        rw [show ∀x y:Int,x+y - y=x from by intros;omega] at h3
        have h4:=Int.dvd_sub h3 hG1
        rw [show ∀a:Int,a - (a - 1)=1 from by intros;omega] at h4
        have:=S.fld.pos
        have:=Int.le_of_dvd (by decide) h4
        omega
/-- The bases of a space: its jT independent sets, in order. -/
noncomputable def linB (p:Int) (n:Nat) (K:(Nat→Int)→Prop):List Nat:=(List.range (2 ^n)).filter fun s=> @decide _ (Classical.propDecidable (QE p n K s))
theorem yo {s:Nat}:s∈linB p n K↔QE p n K s:=by
  unfold linB;rw [List.mem_filter,List.mem_range];simp only [decide_eq_true_eq]
  exact ⟨fun h=>h.2,fun h=>⟨h.1,h⟩⟩
theorem Sp.mat (S:Sp p n K):Mat n (linB p n K) where
  size:=S.size
  lt:=fun b hb=>(yo.1 hb).1
  ne:=fun h=>by
    obtain ⟨t,ht,_⟩:=S.Q5 (s:=0) (Nat.two_pow_pos n) zdw
    have:=yo.2 ht;rw [h] at this;cases this
  ex:=fun a ha b hb e hea heb=>by
    obtain ⟨f,h1,h2,h3⟩:=S.ex (yo.1 ha) (yo.1 hb) hea heb
    exact ⟨f,h1,h2,yo.2 h3⟩
theorem Sp.vw (S:Sp p n K){s:Nat}(hs:s<2 ^n):ind (linB p n K) s↔li p n K s:=by
  constructor
  · rintro ⟨b,hb,h⟩;exact zcP h (yo.1 hb).2.1
  · intro h
    obtain ⟨t,ht,hst⟩:=S.Q5 hs h
    exact ⟨t,yo.2 ht,hst⟩
/-- The rank of s: the size of any part of it that is independent and gives all of it. -/
theorem Sp.rk (S:Sp p n K){s q:Nat}(hs:s<2 ^n)(hq:sub q s)(h:li p n K q)(hall: ∀e,s.testBit e=true→q.testBit e=false→ ¬li p n K (ins q e)):rk (linB p n K) s=cnt q:=by
  have hq2:q<2 ^n:=jl hq hs
  obtain ⟨J,hJ,hqJ,hJs,hJc⟩:=S.mat.Qv (jE S.size hs) ((S.vw hq2).2 h) hq
  rw [←hJc]
  have:J=q:=yH (fun i hi=>by
    cases hqi:q.testBit i
    · exact absurd ((S.vw (Jy hq2 (vX hs (hJs i hi)))).1 (yV (Z1 hqJ hi) hJ)) (hall i (hJs i hi) hqi)
    · rfl) hqJ
  rw [this]

structure Ann (p:Int)(n:Nat)(K K':(Nat→Int)→Prop):Prop where
  sp:Sp p n K
  sp':Sp p n K'
  orth: ∀v u,K v→K' u→p∣dot n u v
  all': ∀u,(∀v,K v→p∣dot n u v)→K' u
  all: ∀v,(∀u,K' u→p∣dot n u v)→K v
theorem Ann.swap {K':(Nat→Int)→Prop}(A:Ann p n K K'):Ann p n K' K where
  sp:=A.sp'
  sp':=A.sp
  orth:=fun v u hv hu=>by rw [y1];exact A.orth u v hu hv
  all':=fun u h=>A.all u fun v hv=>by rw [y1];exact h v hv
  all:=fun v h=>A.all' v fun u hu=>by rw [y1];exact h u hu
theorem Ann.co {K':(Nat→Int)→Prop}(A:Ann p n K K'){a:Nat}(ha:QE p n K a):QE p n K' (co n a):=by
  have hV: ∀x,∃v,(x<n→a.testBit x=false→K v∧zau p n v (ins a x)∧p∣v x - 1):=fun x=>by
    by_cases hx:x<n∧a.testBit x=false
    · obtain ⟨v,h⟩:=A.sp.vec hx.1 ha.2.1 (ha.2.2 x hx.1 hx.2);exact ⟨v,fun _ _=>h⟩
    · exact ⟨fun _=>0,fun h1 h2=>absurd ⟨h1,h2⟩ hx⟩
  let V:Nat→Nat→Int:=fun x=>Classical.choose (hV x)
  have hV': ∀x,x<n→a.testBit x=false→K (V x)∧zau p n (V x) (ins a x)∧p∣V x x - 1:=fun x=>Classical.choose_spec (hV x)
  refine ⟨zeV n a,fun u hu hus=> ?_,fun e he hea=> ?_⟩
  · -- against the vector of x only x counts
    have hout: ∀x,x<n→a.testBit x=false→p∣u x:=fun x hx hxa=>by
      obtain ⟨h1,h2,h3⟩:=hV' x hx hxa
      have h4:=A.orth _ _ h1 hu
      have h5:=J1 (p:=p) hx u (V x) fun j hj hjx=>by
        cases hja:a.testBit j
        · exact Int.dvd_mul_of_dvd_right (h2 j hj (by rw [qU,hja];simp [Ne.symm hjx]))
        · exact Int.dvd_mul_of_dvd_left (hus j hj (by rw [J9,hja];simp))
      have h6:=Int.dvd_sub h4 h5
      rw [show ∀a b:Int,a - (a - b)=b from by intros;omega] at h6
      have h7:=Int.dvd_sub h6 (Int.dvd_mul_of_dvd_right (b:=u x) h3)
      rw [show ∀a b:Int,a*b - a*(b - 1)=a from by intro a b;rw [Int.mul_sub];omega] at h7
      exact h7
    intro j hj
    cases hja:a.testBit j
    · exact hout j hj hja
    · exact hus j hj (by rw [J9,hja];simp)
  · have hae:a.testBit e=true:=by
      rw [J9] at hea
      cases h:a.testBit e
      · rw [h] at hea;simp at hea;omega
      · rfl
    -- the vector with 1 at e, and against it what the vectors have at e
    let u:Nat→Int:=fun j=>if j=e then 1 else if a.testBit j then 0 else -(V j e)
    have hue:u e=1:=by show (if e=e then (1:Int) else _)=1;rw [if_pos rfl]
    refine A.sp'.VA (v:=u) he (A.all' u fun v hv=> ?_) (fun j hj hjs=> ?_) (fun h=>by
      rw [hue] at h;have:=A.sp.fld.pos;have:=Int.le_of_dvd (by decide) h;omega)
    · have hx:=A.sp.expand ha V hV' hv e he
      -- dot u v: v e, less what the places outside of a make
      have h1:dot n u v - (v e - ((List.range n).map fun x=>if a.testBit x then 0 else v x*V x e).sum)=0:=by
        have h2:(fun j=>u j*v j)=fun j=>(if j=e then v j else 0)+(-1)*(if a.testBit j then 0 else v j*V j e):=funext fun j=>by
          show (if j=e then (1:Int) else if a.testBit j then 0 else -(V j e))*v j=_
          by_cases hje:j=e
          · subst hje;simp [hae]
          · cases a.testBit j
            · simp [hje];rw [Int.mul_comm,Int.mul_neg]
            · simp [hje]
        have h3:dot n u v=((List.range n).map fun j=>if j=e then v j else 0).sum+(-1)*((List.range n).map fun x=>if a.testBit x then 0 else v x*V x e).sum:=by
          unfold dot;rw [h2,Qd,Zw]
        have h4: ∀(l:List Nat),l.Nodup→e∈l→(l.map fun j=>if j=e then v j else 0).sum=v e:=by
          intro l
          induction l with
          |nil=>intro _ h;cases h
          |cons x l ih=>
            intro hn hm
            rw [List.nodup_cons] at hn
            simp only [List.map_cons,List.sum_cons]
            by_cases hxe:x=e
            · subst hxe
              have:(l.map fun j=>if j=x then v j else 0).sum=0:=by
                have:l.map (fun j=>if j=x then v j else 0)=l.map fun _=>0:=List.map_congr_left fun j hj=>by
                  rw [if_neg (fun h:j=x=>hn.1 (h ▸hj))]
                rw [this];clear this hn ih hm
                induction l with
                |nil=>rfl
                |cons _ l ih=>rw [List.map_cons,List.sum_cons,ih];rfl
              rw [this,if_pos rfl];omega
            · rw [if_neg hxe,ih hn.2 (by rcases List.mem_cons.1 hm with h|h;exact absurd h.symm hxe;exact h)];omega
        rw [h3,h4 _ List.nodup_range (List.mem_range.2 he)];omega
      rw [show dot n u v=v e - ((List.range n).map fun x=>if a.testBit x then 0 else v x*V x e).sum by omega]
      exact hx
    · show p∣if j=e then (1:Int) else if a.testBit j then 0 else -(V j e)
      rw [qU] at hjs
      have h1:=Bool.or_eq_false_iff.1 hjs
      have hje:j≠e:=fun h=>by rw [h] at h1;simp at h1
      rw [if_neg hje]
      have:a.testBit j=true:=by
        have:=h1.1;rw [J9] at this
        cases h:a.testBit j
        · rw [h] at this;simp at this;omega
        · rfl
      rw [if_pos this];exact Int.dvd_zero p
end
end Go.Proofs.YtjlbfbpjcmjdfaaGreat.Mt
end
section
namespace Go.Proofs.YtjlbfbpjcmjdfaaGreat.Mt
set_option linter.unusedVariables false
section
variable {n:Nat} {B:List Nat}
end

theorem Zc (s:Nat):(elems s).length=cnt s:=by rw [cnt,List.countP_eq_length_filter];rfl
end Go.Proofs.YtjlbfbpjcmjdfaaGreat.Mt
end
section
namespace Go.Proofs.YtjlbfbpjcmjdfaaGreat.Mt
set_option linter.unusedVariables false
/-- The vectors that R rows send to zero. -/
def Ker (p:Int)(n R:Nat)(a:Nat→Nat→Int)(v:Nat→Int):Prop:= ∀i,i<R→p∣dot n (a i) v
theorem JG {p:Int}{n R:Nat}(hp:jr p)(hn:n≤8)(a:Nat→Nat→Int):Sp p n (Ker p n R a) where
  fld:=hp
  size:=hn
  zero:=fun i _=>Jj _ _ fun j _=>by simp
  add:=fun v w c hv hw i hi=>by rw [yX];exact Int.dvd_add (hv i hi) (Int.dvd_mul_of_dvd_right (hw i hi))
  mod:=fun v w h hv i hi=>by
    have h1:=zbE (u:=a i) h
    have h2:=Int.dvd_sub (hv i hi) h1
    rwa [show ∀x y:Int,x - (x - y)=y from by intros;omega] at h2
theorem vI {n:Nat}{u u' v:Nat→Int}(h: ∀j,j<n→u j=u' j):dot n u v=dot n u' v:=by
  unfold dot;congr 1;apply List.map_congr_left;intro j hj;rw [h j (List.mem_range.1 hj)]
theorem Q8 {p:Int}{n:Nat}{u u' v:Nat→Int}(h: ∀j,j<n→p∣u j - u' j):p∣dot n u v - dot n u' v:=by
  rw [y1 n u,y1 n u'];exact zbE h
theorem yC {p x y:Int}(h:p∣x - y):p∣x↔p∣y:=by
  constructor
  · intro hx;have:=Int.dvd_sub hx h;rwa [show x - (x - y)=y by omega] at this
  · intro hy;have:=Int.dvd_add hy h;rwa [show y+(x - y)=x by omega] at this
/-- Rows that are made of one another, both ways, modulo p: row t is multiplied by f, and the others take y times themselves and g i times row t. -/
theorem zcs {p:Int}{n R t:Nat}{a b:Nat→Nat→Int}(hp:jr p)(ht:t<R)(f:Int)(hf: ¬p∣f)(y:Nat→Int)(hy: ∀i,i<R→i≠t→ ¬p∣y i)(g:Nat→Int)
    (h1: ∀j,j<n→p∣b t j - f*a t j) (h2: ∀i,i<R→i≠t→ ∀j,j<n→p∣b i j - (y i*a i j+g i*a t j)) (v:Nat→Int):Ker p n R a v↔Ker p n R b v:=by
  have e1:p∣dot n (b t) v - f*dot n (a t) v:=by
    have h:=Q8 (v:=v) h1
    have h3:=Jn n v (fun _=>0) (a t) f
    have h4:dot n (fun _=>(0:Int)) v=0:=by
      unfold dot
      have:(fun j=>(0:Int)*v j)=fun _=>0:=funext fun j=>by omega
      rw [this]
      induction List.range n with
      |nil=>rfl
      |cons _ l ih=>rw [List.map_cons,List.sum_cons,ih];rfl
    rw [h4] at h3
    have h5:dot n (fun j=>f*a t j) v=f*dot n (a t) v:=by
      have h6:(fun j=>f*a t j)=fun j=>(0:Int)+f*a t j:=funext fun j=>by omega
      rw [h6,h3];omega
    rwa [h5] at h
  have e2: ∀i,i<R→i≠t→p∣dot n (b i) v - (y i*dot n (a i) v+g i*dot n (a t) v):=fun i hi hit=>by
    have h:=Q8 (v:=v) (h2 i hi hit)
    have h3:=Jn n v (fun j=>y i*a i j) (a t) (g i)
    have h5:dot n (fun j=>y i*a i j) v=y i*dot n (a i) v:=by
      unfold dot
      rw [←Zw];congr 1;apply List.map_congr_left;intro j _;rw [Int.mul_assoc]
    rw [h3,h5] at h;exact h
  constructor
  · intro hK i hi
    by_cases hit:i=t
    · subst hit;exact (yC e1).2 (Int.dvd_mul_of_dvd_right (hK i hi))
    · exact (yC (e2 i hi hit)).2 (Int.dvd_add (Int.dvd_mul_of_dvd_right (hK i hi)) (Int.dvd_mul_of_dvd_right (hK t ht)))
  · intro hK
    have ha:p∣dot n (a t) v:=by
      rcases hp.V3 ((yC e1).1 (hK t ht)) with h|h
      · exact absurd h hf
      · exact h
    intro i hi
    by_cases hit:i=t
    · subst hit;exact ha
    · have h3:=(yC (e2 i hi hit)).1 (hK i hi)
      have h4:=Int.dvd_sub h3 (Int.dvd_mul_of_dvd_right (b:=g i) ha)
      rw [show ∀x y:Int,x+y - y=x from by intros;omega] at h4
      rcases hp.V3 h4 with h|h
      · exact absurd h (hy i hi hit)
      · exact h
/-- Two rows exchanged. -/
theorem zcB {p:Int}{n R t k:Nat}{a b:Nat→Nat→Int}(ht:t<R)(hk:k<R)(h1: ∀j,j<n→b t j=a k j)(h2: ∀j,j<n→b k j=a t j)(h3: ∀i,i<R→i≠t→i≠k→ ∀j,j<n→b i j=a i j)(v:Nat→Int):Ker p n R a v↔Ker p n R b v:=by
  constructor
  · intro h i hi
    by_cases hit:i=t
    · subst hit;rw [vI h1];exact h k hk
    · by_cases hik:i=k
      · subst hik;rw [vI h2];exact h t ht
      · rw [vI (h3 i hi hit hik)];exact h i hi
  · intro h i hi
    by_cases hit:i=t
    · subst hit;rw [←vI h2];exact h k hk
    · by_cases hik:i=k
      · subst hik;rw [←vI h1];exact h t ht
      · rw [←vI (h3 i hi hit hik)];exact h i hi

/-- The set of some places. -/
def bitsOf (P:List Nat):Nat:=setOf 8 P.contains
theorem yR (P:List Nat)(i:Nat):(bitsOf P).testBit i=(decide (i<8)&&P.contains i):=JB _ _ _
/-- Rows whose first t have a place each that is not zero there, and zero in all rows below; what is below the first t is zero at all places of s. -/
structure Steps (p:Int)(n R:Nat)(b:Nat→Nat→Int)(s:Nat)(P:List Nat):Prop where
  len:P.length≤R
  nodup:P.Nodup
  mem: ∀x∈P,x<n∧s.testBit x=true
  diag: ∀k (hk:k<P.length),¬p∣b k P[k]
  below: ∀k (hk:k<P.length),∀i,k<i→i<R→p∣b i P[k]
  zero: ∀i,P.length≤i→i<R→ ∀c,c<n→s.testBit c=true→p∣b i c
section
variable {p:Int} {n R:Nat} {b:Nat→Nat→Int} {s:Nat} {P:List Nat}
theorem Steps.li (hp:jr p)(hn:n≤8)(h:Steps p n R b s P):li p n (Ker p n R b) (bitsOf P):=by
  intro v hv hs
  have out: ∀j,j<n→j∉P→p∣v j:=fun j hj hjP=>hs j hj (by rw [yR];simp [hjP])
  -- from the last place on downwards
  have key: ∀m k (hk:k<P.length),k+m+1=P.length→p∣v P[k]:=by
    intro m
    induction m using Nat.strongRecOn with
    |_ m ih=>
      intro k hk hm
      have h1:=hv k (Nat.lt_of_lt_of_le hk h.len)
      have hkn:=(h.mem P[k] (List.getElem_mem hk)).1
      have h2:=J1 (p:=p) hkn (b k) v fun j hj hjk=>by
        by_cases hjP:j∈P
        · obtain ⟨i,hi,rfl⟩:=List.getElem_of_mem hjP
          rcases Nat.lt_trichotomy i k with hik|hik|hik
          · exact Int.dvd_mul_of_dvd_left (h.below i hi k hik (Nat.lt_of_lt_of_le hk h.len))
          · subst hik;exact absurd rfl hjk
          · exact Int.dvd_mul_of_dvd_right (ih (P.length - i - 1) (by omega) i hi (by omega))
        · exact Int.dvd_mul_of_dvd_right (out j hj hjP)
      have h3:=(yC h2).1 h1
      rcases hp.V3 h3 with h4|h4
      · exact absurd h4 (h.diag k hk)
      · exact h4
  intro j hj
  by_cases hjP:j∈P
  · obtain ⟨i,hi,rfl⟩:=List.getElem_of_mem hjP
    exact key (P.length - i - 1) i hi (by omega)
  · exact out j hj hjP
theorem Steps.VA (hp:jr p)(hn:n≤8)(h:Steps p n R b s P){e:Nat}(he:e<n)(hes:s.testBit e=true)(heP:e∉P): ¬Mt.li p n (Ker p n R b) (ins (bitsOf P) e):=by
  -- a vector with 1 at e that the rows from k on send to zero, k from the last row down
  have key: ∀m,m≤P.length→ ∃v:Nat→Int,v e=1∧(∀j,j<n→j≠e→(∀i (hi:i<P.length),P.length - m≤i→P[i]≠j)→v j=0)∧ ∀i,P.length - m≤i→i<R→p∣dot n (b i) v:=by
    intro m
    induction m with
    |zero=>
      intro _
      refine ⟨fun j=>if j=e then 1 else 0,if_pos rfl,fun j _ hje _=>if_neg hje,fun i hi hiR=> ?_⟩
      have h2:=J1 (p:=p) he (b i) (fun j=>if j=e then 1 else 0) fun j hj hje=>by
        show p∣b i j*(if j=e then 1 else 0)
        rw [if_neg hje];simp
      rw [yC h2]
      exact Int.dvd_mul_of_dvd_left (h.zero i (by omega) hiR e he hes)
    |succ m ih=>
      intro hm
      obtain ⟨v,hve,hv0,hvK⟩:=ih (by omega)
      have hk:P.length - (m+1)<P.length:=by omega
      obtain ⟨k,hkdef⟩: ∃k,k=P.length - (m+1):=⟨_,rfl⟩
      have hkP:k<P.length:=by omega
      have hkn:=(h.mem P[k] (List.getElem_mem hkP)).1
      have hke:P[k]≠e:=fun hh=>heP (hh ▸List.getElem_mem hkP)
      obtain ⟨z,hz⟩:=hp.inv (h.diag k hkP)
      have hvk:v P[k]=0:=hv0 P[k] hkn hke fun i hi hik hh=>by
        have:=(List.getElem_inj h.nodup).1 hh;omega
      -- the unit vector at that place
      let w:Nat→Int:=fun j=>if j=P[k] then 1 else 0
      have hw: ∀i,dot n (b i) w=b i P[k]:=fun i=>by
        have h2:=J1 (p:=0) hkn (b i) w fun j hj hjk=>by
          show (0:Int)∣b i j*(if j=P[k] then 1 else 0)
          rw [if_neg hjk];simp
        have h3:=Int.zero_dvd.1 h2
        have h4:w P[k]=1:=if_pos rfl
        rw [h4] at h3;omega
      refine ⟨fun j=>v j+ -(z*dot n (b k) v)*w j,?_,fun j hj hje hjP=> ?_,fun i hi hiR=> ?_⟩
      · show v e+_*(if e=P[k] then 1 else 0)=1
        rw [if_neg (Ne.symm hke),hve];omega
      · show v j+_*(if j=P[k] then 1 else 0)=0
        rw [if_neg (fun hh=>hjP k hkP (by omega) hh.symm),hv0 j hj hje fun i hi hik=>hjP i hi (by omega)];omega
      · rw [yX,hw]
        by_cases hik:i=k
        · subst hik
          have:=Int.dvd_mul_of_dvd_right (b:= -(dot n (b i) v)) hz
          rw [show ∀d c z:Int,-d*(c*z - 1)=d+ -(z*d)*c from by intro d c z;rw [Int.mul_sub,Int.neg_mul,Int.neg_mul,Int.neg_mul,Int.mul_comm z d,Int.mul_assoc,Int.mul_comm z c];omega] at this
          exact this
        · exact Int.dvd_add (hvK i (by omega) hiR) (Int.dvd_mul_of_dvd_right (h.below k hkP i (by omega) hiR))
  obtain ⟨v,hve,hv0,hvK⟩:=key P.length (Nat.le_refl _)
  refine (JG hp hn b).VA he (fun i hi=>hvK i (by omega) hi) (fun j hj hjs=> ?_) (by
    rw [hve];intro hh;have:=hp.pos;have:=Int.le_of_dvd (by decide) hh;omega)
  rw [qU,yR] at hjs
  have h1:=Bool.or_eq_false_iff.1 hjs
  have h2:j∉P:=fun hh=>by
    have:=h1.1;simp [hh] at this;omega
  rw [hv0 j hj (fun hh=>by rw [hh] at h1;simp at h1) fun i hi _ hh=>h2 (hh ▸List.getElem_mem hi)]
  exact Int.dvd_zero p
theorem za2 (hn:P.Nodup)(h8: ∀x∈P,x<8):cnt (bitsOf P)=P.length:=by
  have h1:cnt (bitsOf P)=(List.range 8).countP P.contains:=by
    unfold cnt;refine List.countP_congr fun i hi=> ?_
    rw [yR,decide_eq_true (List.mem_range.1 hi)];simp
  rw [h1]
  have key: ∀(l:List Nat),l.Nodup→(∀x∈P,x∈l)→l.countP P.contains=P.length:=by
    induction P with
    |nil=>
      intro l _ _
      rw [List.length_nil,List.countP_eq_zero];intro a _;simp
    |cons x P ih=>
      intro l hl hm
      rw [List.nodup_cons] at hn
      have hx:x∈l:=hm x (by simp)
      obtain ⟨l1,l2,rfl⟩:=List.append_of_mem hx
      have hl':(l1++l2).Nodup∧x∉l1++l2:=by
        have:(x::(l1++l2)).Nodup:=(List.perm_middle.nodup_iff).1 hl
        rw [List.nodup_cons] at this;exact ⟨this.2,this.1⟩
      have h2:=ih hn.2 (fun y hy=>h8 y (by simp [hy])) (by
        unfold cnt;refine List.countP_congr fun i hi=> ?_
        rw [yR,decide_eq_true (List.mem_range.1 hi)];simp) (l1++l2) hl'.1 fun y hy=>by
          have:=hm y (by simp [hy])
          rw [List.mem_append,List.mem_cons] at this
          rw [List.mem_append]
          rcases this with h|h|h
          · exact .inl h
          · subst h;exact absurd hy hn.1
          · exact .inr h
      rw [List.countP_append,List.countP_cons]
      have h3: ∀l:List Nat,x∉l→l.countP (x::P).contains=l.countP P.contains:=fun l hxl=>List.countP_congr fun y hy=>by
        have:y≠x:=fun h=>hxl (h ▸hy)
        simp [this]
      have h4:=hl'.2
      rw [List.mem_append,not_or] at h4
      rw [h3 l1 h4.1,h3 l2 h4.2]
      rw [List.countP_append] at h2
      simp
      omega
  exact key (List.range 8) List.nodup_range fun x hx=>List.mem_range.2 (h8 x hx)
/-- The rank that rows in steps tell. -/
theorem Steps.rk (hp:jr p)(hn:n≤8)(hs:s<2 ^n)(h:Steps p n R b s P):rk (linB p n (Ker p n R b)) s=P.length:=by
  have h8: ∀x∈P,x<8:=fun x hx=>Nat.lt_of_lt_of_le (h.mem x hx).1 hn
  rw [←za2 h.nodup h8]
  refine (JG hp hn b).rk hs (fun i hi=> ?_) (h.li hp hn) fun e he heP=> ?_
  · rw [yR] at hi;simp at hi;exact (h.mem i hi.2).2
  · refine h.VA hp hn (vX hs he) he fun hh=> ?_
    rw [yR] at heP;simp [hh,h8 e hh] at heP
end
end Go.Proofs.YtjlbfbpjcmjdfaaGreat.Mt
end
section
namespace Go.Proofs.YtjlbfbpjcmjdfaaGreat.L
open Go.Proofs.YtjlbfbpjcmjdfaaGreat.Mt
set_option linter.unusedSimpArgs false
set_option linter.unusedVariables false
/-- In the midst of an elimination: the columns of s below j are done. -/
structure PS (p:Int)(n R:Nat)(a:Tab)(s j:Nat)(M:Tab)(P:List Nat):Prop where
  len:P.length≤R
  nodup:P.Nodup
  mem: ∀x∈P,x<j∧s.testBit x=true
  diag: ∀k (hk:k<P.length),¬p∣M k P[k]
  below: ∀k (hk:k<P.length),∀i,k<i→i<R→p∣M i P[k]
  zero: ∀i,P.length≤i→i<R→ ∀c,c<j→s.testBit c=true→p∣M i c
  ker: ∀v,Ker p n R a v↔Ker p n R M v
section
variable {p:Int} {n R s j:Nat} {a M:Tab} {P:List Nat}
theorem PS.start:PS p n R a s 0 a [] where
  len:=Nat.zero_le _
  nodup:=List.nodup_nil
  mem:=fun x hx=>by cases hx
  diag:=fun k hk=>by cases hk
  below:=fun k hk=>by cases hk
  zero:=fun i _ _ c hc=>absurd hc (Nat.not_lt_zero c)
  ker:=fun v=>Iff.rfl
theorem PS.skip (h:PS p n R a s j M P)(hz:s.testBit j=true→ ∀i,P.length≤i→i<R→p∣M i j):PS p n R a s (j+1) M P:=
  {h with
    mem:=fun x hx=>⟨by have:=(h.mem x hx).1;omega,(h.mem x hx).2⟩
    zero:=fun i h1 h2 c hc hs=>by
      rcases Nat.lt_or_ge c j with h3|h3
      · exact h.zero i h1 h2 c h3 hs
      · obtain rfl:c=j:=by omega
        exact hz hs i h1 h2}
theorem yg (t b:Nat)(M:Tab)(i c:Nat):qt (jv t b) M i c=if i=b then M t c else if i=t then M b c else M i c:=rfl
theorem PS.swap (h:PS p n R a s j M P){b:Nat}(h1:P.length≤b)(h2:b<R):PS p n R a s j (qt (jv P.length b) M) P:=by
  have hrow: ∀i c,i<P.length→qt (jv P.length b) M i c=M i c:=fun i c hi=>by rw [yg,if_neg (by omega),if_neg (by omega)]
  have hge: ∀c,(∀i,P.length≤i→i<R→p∣M i c)→ ∀i,P.length≤i→i<R→p∣qt (jv P.length b) M i c:=fun c hc i hi hiR=>by
    rw [yg]
    split
    · exact hc _ (Nat.le_refl _) (by omega)
    · split
      · exact hc _ h1 h2
      · exact hc _ hi hiR
  refine {h with diag:=fun k hk=>by rw [hrow k _ hk];exact h.diag k hk,below:=fun k hk i hki hiR=> ?_,zero:=fun i hi hiR c hc hs=>hge c (fun i hi hiR=>h.zero i hi hiR c hc hs) i hi hiR,ker:=fun v=>(h.ker v).trans ?_}
  · rcases Nat.lt_or_ge i P.length with h3|h3
    · rw [hrow i _ h3];exact h.below k hk i hki hiR
    · exact hge _ (fun i' hi' hiR'=>h.below k hk i' (by omega) hiR') i h3 hiR
  · by_cases hb:b=P.length
    · subst hb
      have:qt (jv P.length P.length) M=M:=by
        funext i c;rw [yg];by_cases e:i=P.length
        · subst e;simp
        · simp [e]
      rw [this]
    · refine zcB (t:=P.length) (k:=b) (by omega) h2 (fun c _=> ?_) (fun c _=> ?_) (fun i hi hit hib c _=> ?_) v
      · rw [yg,if_neg (Ne.symm hb),if_pos rfl]
      · rw [yg,if_pos rfl]
      · rw [yg,if_neg hib,if_neg hit]
theorem YE {p x y:Int}(h:p∣x - y)(hy:p∣y):p∣x:=(yC h).2 hy
theorem Vj {p x y:Int}(h:p∣x - y)(hy: ¬p∣y): ¬p∣x:=fun hx=>hy ((yC h).1 hx)
theorem zaM {p x y u v:Int}(hx:p∣x)(hy:p∣y):p∣u*x+v*y:=Int.dvd_add (Int.dvd_mul_of_dvd_right hx) (Int.dvd_mul_of_dvd_right hy)
theorem PS.row (hp:jr p)(h:PS p n R a s j M P)(hj:j<n)(hs:s.testBit j=true)(ht:P.length<R)(hx: ¬p∣M P.length j){M':Tab}(f:Int)(hf: ¬p∣f)(y:Nat→Int)(hy: ∀i,i<R→i≠P.length→ ¬p∣y i)(g:Nat→Int)
    (h1: ∀c,c<n→p∣M' P.length c - f*M P.length c) (h2: ∀i,i<R→i≠P.length→ ∀c,c<n→p∣M' i c - (y i*M i c+g i*M P.length c)) (h3: ∀i,P.length<i→i<R→p∣M' i j):
    PS p n R a s (j+1) M' (P++[j]):=by
  have hm: ∀k (hk:k<P.length),P[k]<n:=fun k hk=>by have:=(h.mem _ (List.getElem_mem hk)).1;omega
  have hcol: ∀c,c<n→ ∀k,(∀i,k<i→i<R→p∣M i c)→ ∀i,k<i→i<R→k<P.length→p∣M' i c:=fun c hc k hk i hi hiR hkt=>by
    by_cases hit:i=P.length
    · subst hit;exact YE (h1 c hc) (Int.dvd_mul_of_dvd_right (hk _ hi hiR))
    · exact YE (h2 i hiR hit c hc) (zaM (hk i hi hiR) (hk _ hkt ht))
  have hmul: ∀ {x y:Int},¬p∣x→ ¬p∣y→ ¬p∣x*y:=fun hx hy hxy=>(hp.V3 hxy).elim hx hy
  refine {len:= ?_,nodup:= ?_,mem:= ?_,diag:= ?_,below:= ?_,zero:= ?_,ker:= ?_}
  · rw [List.length_append];exact ht
  · rw [List.nodup_append]
    refine ⟨h.nodup,List.nodup_cons.2 ⟨by simp,List.nodup_nil⟩,fun x hx y hy=> ?_⟩
    rw [List.mem_singleton] at hy
    have:=(h.mem x hx).1
    omega
  · intro x hx
    rcases List.mem_append.1 hx with hx|hx
    · exact ⟨by have:=(h.mem x hx).1;omega,(h.mem x hx).2⟩
    · rw [List.mem_singleton] at hx;subst hx;exact ⟨by omega,hs⟩
  · intro k hk
    rw [List.length_append,List.length_singleton] at hk
    by_cases c:k<P.length
    · rw [List.getElem_append_left c]
      refine Vj (h2 k (by omega) (by omega) _ (hm k c)) fun hd=> ?_
      have h4:p∣g k*M P.length P[k]:=Int.dvd_mul_of_dvd_right (h.below k c _ c ht)
      have h5:=Int.dvd_sub hd h4
      rw [Int.add_sub_cancel] at h5
      exact hmul (hy k (by omega) (by omega)) (h.diag k c) h5
    · obtain rfl:k=P.length:=by omega
      rw [List.getElem_append_right (Nat.le_refl _)]
      simp only [Nat.sub_self,List.getElem_singleton]
      exact Vj (h1 j hj) (hmul hf hx)
  · intro k hk i hki hiR
    rw [List.length_append,List.length_singleton] at hk
    by_cases c:k<P.length
    · rw [List.getElem_append_left c]
      exact hcol _ (hm k c) k (h.below k c) i hki hiR c
    · obtain rfl:k=P.length:=by omega
      rw [List.getElem_append_right (Nat.le_refl _)]
      simp only [Nat.sub_self,List.getElem_singleton]
      exact h3 i hki hiR
  · intro i hi hiR c hc hsc
    rw [List.length_append,List.length_singleton] at hi
    rcases Nat.lt_or_ge c j with h4|h4
    · exact YE (h2 i hiR (by omega) c (by omega)) (zaM (h.zero i (by omega) hiR c h4 hsc) (h.zero _ (Nat.le_refl _) ht c h4 hsc))
    · obtain rfl:c=j:=by omega
      exact h3 i (by omega) hiR
  · intro v
    exact (h.ker v).trans (zcs hp ht f hf y hy g h1 h2 v)
theorem PS.done (h:PS p n R a s n M P):Mt.Steps p n R M s P:=
  ⟨h.len,h.nodup,h.mem,h.diag,h.below,fun i h1 h2 c hc hs=>h.zero i h1 h2 c hc hs⟩
theorem PS.rk (hp:jr p)(hn:n≤8)(hs:s<2 ^n)(h:PS p n R a s n M P):rk (linB p n (Ker p n R a)) s=P.length:=by
  rw [show Ker p n R a=Ker p n R M from funext fun v=>propext (h.ker v)]
  exact h.done.rk hp hn hs
theorem VP {x:Int}(h0:x≠0)(h1:0≤x∧x<p): ¬p∣x:=fun h=>by
  have:=Int.le_of_dvd (by omega) h;omega
theorem Zi (x p:Int):p∣Int.tmod x p - x:=by
  have:=Int.mul_tdiv_add_tmod x p
  exact ⟨-(x.tdiv p),by rw [Int.mul_neg];omega⟩
end
theorem JL (p:Int)(t col:Nat)(M:Tab): ∀m,(List.range m).foldl (jA p t col) M=fun i c=>if i<m∧i≠t then Int.tmod (M i c+(p - M i col)*M t c) p else M i c
  |0=>by funext i c;simp
  |m+1=>by
    rw [List.range_succ,List.foldl_append,JL p t col M m]
    funext i c
    show jA p t col _ m i c=_
    unfold jA
    by_cases h1:m=t
    · subst h1
      rw [if_pos rfl]
      by_cases h2:i<m∧i≠m
      · rw [if_pos h2,if_pos ⟨by omega,h2.2⟩]
      · rw [if_neg h2,if_neg (by omega)]
    · rw [if_neg h1]
      show (Jr p t m _ (fun i=>_) i)=_
      unfold Jr
      by_cases h2:i=m
      · subst h2
        simp [h1]
      · rw [if_neg h2]
        show (if i<m∧i≠t then Int.tmod (M i c+(p - M i col)*M t c) p else M i c)=_
        by_cases h3:i<m∧i≠t
        · rw [if_pos h3,if_pos ⟨by omega,h3.2⟩]
        · rw [if_neg h3,if_neg (by omega)]
theorem yU (p:Int)(R t col:Nat)(M:Tab)(i c:Nat)(hi:i<R):vM p R t col M i c=
    if i=t then Int.tmod (M t c*vZ p (M t col)) p else Int.tmod (M i c+(p - M i col)*Int.tmod (M t c*vZ p (M t col)) p) p:=by
  unfold vM Zt
  rw [JL]
  by_cases h:i=t
  · subst h;simp [qt,ym]
  · simp [hi,h,qt,ym]
theorem zdO: ∀p∈[2,3,5,7],∀a∈List.range 7,1≤a→a<p→(p:Int)∣(a:Int)*vZ p a - 1:=by decide
theorem zaU {p a:Int}(hp:jr p)(ha:1≤a)(hap:a<p):p∣a*vZ p a - 1:=by
  obtain ⟨q,rfl,hq⟩:=hp.nat
  obtain ⟨b,rfl⟩:=Int.eq_ofNat_of_zero_le (show 0≤a by omega)
  have hq7:q≤7:=by simp at hq;omega
  exact zdO q hq b (List.mem_range.2 (by omega)) (by omega) (by omega)
section
variable {p:Int} {n R s j:Nat} {a M:Tab} {P:List Nat}
theorem PS.pivot (hp:jr p)(h:PS p n R a s j M P)(hj:j<n)(hs:s.testBit j=true)(ht:P.length<R)(hM:InF p R n M)(hx:M P.length j≠0):PS p n R a s (j+1) (vM p R P.length j M) (P++[j]):=by
  have hv:=hM _ j ht hj
  have hinv:=zaU hp (show 1≤M P.length j by omega) hv.2
  have hpp:=hp.pos
  have hf: ¬p∣vZ p (M P.length j):=fun hd=>by
    have h1:p∣M P.length j*vZ p (M P.length j):=Int.dvd_mul_of_dvd_right hd
    have h2:=Int.dvd_sub h1 hinv
    rw [show ∀x:Int,x - (x - 1)=1 from by intro x;omega] at h2
    have:=Int.le_of_dvd (by omega) h2
    omega
  refine h.row hp hj hs ht (VP hx hv) (vZ p (M P.length j)) hf (fun _=>1) (fun i _ _ hd=>by have:=Int.le_of_dvd (by omega) hd;omega) (fun i=>(p - M i j)*vZ p (M P.length j)) (fun c hc=> ?_) (fun i hi hit c hc=> ?_) (fun i hti hi=> ?_)
  · rw [yU _ _ _ _ _ _ _ ht,if_pos rfl,Int.mul_comm];exact Zi _ _
  · rw [yU _ _ _ _ _ _ _ hi,if_neg hit]
    have h1:=Zi (M i c+(p - M i j)*Int.tmod (M P.length c*vZ p (M P.length j)) p) p
    have h2:p∣(p - M i j)*(Int.tmod (M P.length c*vZ p (M P.length j)) p - M P.length c*vZ p (M P.length j)):=Int.dvd_mul_of_dvd_right (Zi _ _)
    have h3:=Int.dvd_add h1 h2
    refine (show ∀x y:Int,x=y→p∣x→p∣y from fun x y e h=>e ▸h) _ _ ?_ h3
    rw [Int.mul_sub,Int.mul_assoc,Int.mul_comm (vZ p (M P.length j)) (M P.length c)]
    omega
  · rw [yU _ _ _ _ _ _ _ hi,if_neg (by omega)]
    refine YE (Zi _ _) ?_
    have h2:p∣(p - M i j)*(Int.tmod (M P.length j*vZ p (M P.length j)) p - M P.length j*vZ p (M P.length j)):=Int.dvd_mul_of_dvd_right (Zi _ _)
    have h4:p∣(p - M i j)*(M P.length j*vZ p (M P.length j) - 1):=Int.dvd_mul_of_dvd_right hinv
    have h5:=Int.dvd_add (Int.dvd_add h2 h4) (Int.dvd_refl p)
    refine (show ∀x y:Int,x=y→p∣x→p∣y from fun x y e h=>e ▸h) _ _ ?_ h5
    rw [Int.mul_sub,Int.mul_sub,Int.mul_one]
    omega
/-- One column of s, taken up by impl.reduce's step. -/
theorem PS.red (hp:jr p){st:Red}(h:PS p n R a s j st.M P)(ht:P.length=st.t)(hj:j<n)(hs:s.testBit j=true)(hM:InF p R n st.M):
    ∃P',P'.length=(qd p R st j).t∧PS p n R a s (j+1) (qd p R st j).M P'∧(qd p R st j).M=(qd p R st j).M:=by
  obtain ⟨h1,h2,h3,h4⟩:=j7 st.M R j (R - st.t) st.t (by have:=h.len;omega)
  by_cases c:qc st.M R st.t j<R
  · have he:qd p R st j=⟨st.t+1,vM p R st.t j (qt (jv st.t (qc st.M R st.t j)) st.M),st.ps++[(j:Int)]⟩:=by unfold qd;rw [if_pos c]
    rw [he]
    rw [←ht] at h1 ⊢
    rw [←ht] at c h3
    have hsw:=h.swap (b:=qc st.M R P.length j) h1 c
    refine ⟨P++[j],by rw [List.length_append];rfl,hsw.pivot hp hj hs (by omega) (hM.swap (by omega) c) ?_,rfl⟩
    rw [yg]
    by_cases c2:P.length=qc st.M R P.length j
    · rw [if_pos c2];rw [←c2] at h3;exact h3 (by omega)
    · rw [if_neg c2,if_pos rfl];exact h3 c
  · have he:qd p R st j=st:=by unfold qd;rw [if_neg c]
    rw [he]
    exact ⟨P,ht,h.skip fun _ i hi hiR=>by rw [h4 i (by omega) (by omega)];exact Int.dvd_zero p,rfl⟩
end
def zaW (p:Int)(t i0:Nat)(x y:Int)(f:Nat→Int)(i:Nat):Int:=if i=i0 then Int.tmod (Int.tmod (f i0*y - f t*x) p+p) p else f i
def yJ (p:Int)(t col:Nat)(M:Tab)(i:Nat):Tab:=qt (zaW p t i (M i col) (M t col)) M
def ZY (p:Int)(t col R:Nat)(M:Tab):Tab:=(List.range' (t+1) (R - (t+1))).foldl (yJ p t col) M
def yZ (p:Int)(R:Nat)(st:Nat×Tab)(j:Nat):Nat×Tab:=
  if qc st.2 R st.1 j<R then (st.1+1,ZY p st.1 j R (qt (jv (qc st.2 R st.1 j) st.1) st.2)) else st
theorem zbm (a b:Nat):jv a b=jv b a:=by
  funext f i
  unfold jv
  by_cases h1:i=a
  · by_cases h2:i=b
    · subst h1;subst h2;rfl
    · simp [h1,h2]
      intro h;rw [h]
  · by_cases h2:i=b
    · simp [h1,h2]
      intro h;rw [h]
    · simp [h1,h2]
theorem VK (p:Int)(t col:Nat)(M:Tab): ∀m,(List.range' (t+1) m).foldl (yJ p t col) M=fun i c=>if t<i∧i<t+1+m then Int.tmod (Int.tmod (M i c*M t col - M t c*M i col) p+p) p else M i c
  |0=>by
    funext i c
    rw [if_neg (by omega)];rfl
  |m+1=>by
    rw [List.range'_concat,List.foldl_append,VK p t col M m,List.foldl_cons,List.foldl_nil]
    funext i c
    unfold yJ qt
    unfold zaW
    by_cases h2:i=t+1+1*m
    · subst h2
      have e1: ¬(t<t+1+1*m∧t+1+1*m<t+1+m):=by omega
      have e2: ¬(t<t∧t<t+1+m):=by omega
      have e3:t<t+1+1*m∧t+1+1*m<t+1+(m+1):=by omega
      simp only [if_neg e1,if_neg e2,if_pos e3,if_true]
    · rw [if_neg h2]
      show (if t<i∧i<t+1+m then Int.tmod (Int.tmod (M i c*M t col - M t c*M i col) p+p) p else M i c)=_
      by_cases h3:t<i∧i<t+1+m
      · rw [if_pos h3,if_pos ⟨by omega,by omega⟩]
      · rw [if_neg h3,if_neg (by omega)]
theorem QK (p:Int){t R:Nat}(col:Nat)(M:Tab)(ht:t<R)(i c:Nat):ZY p t col R M i c=if t<i∧i<R then Int.tmod (Int.tmod (M i c*M t col - M t c*M i col) p+p) p else M i c:=by
  unfold ZY
  rw [VK,show t+1+(R - (t+1))=R by omega]
theorem zbU (v:Int){p:Int}(hp:0<p): -p<Int.tmod v p:=by
  have:=Int.tmod_lt_of_pos (-v) hp
  rw [Int.neg_tmod] at this
  omega
theorem zcJ (v:Int){p:Int}(hp:2≤p):0≤Int.tmod (Int.tmod v p+p) p∧Int.tmod (Int.tmod v p+p) p<p:=by
  have:=zbU v (show 0<p by omega)
  exact J4 (by omega) hp
theorem zbw (v p:Int):p∣Int.tmod (Int.tmod v p+p) p - v:=by
  have h1:=Zi (Int.tmod v p+p) p
  have h2:=Zi v p
  have h3:=Int.dvd_add (Int.dvd_add h1 h2) (Int.dvd_refl p)
  refine (show ∀x y:Int,x=y→p∣x→p∣y from fun x y e h=>e ▸h) _ _ ?_ h3
  omega
section
variable {p:Int} {n R s j:Nat} {a M:Tab} {P:List Nat}
theorem InF.yJ (h:InF p R n M)(hp:2≤p){t col i:Nat}:InF p R n (yJ p t col M i):=fun i' c hi hc=>by
  unfold L.yJ qt zaW
  split
  · exact zcJ _ hp
  · exact h i' c hi hc
theorem InF.zbB (hp:2≤p){t col:Nat}: ∀(l:List Nat) {M:Tab},InF p R n M→InF p R n (l.foldl (L.yJ p t col) M)
  | [],_,h=>h
  |i::l,_,h=>InF.zbB hp l (h.yJ hp)
theorem InF.ZY (h:InF p R n M)(hp:2≤p){t col:Nat}:InF p R n (ZY p t col R M):=InF.zbB hp _ h
theorem PS.fwd (hp:jr p)(h:PS p n R a s j M P)(hj:j<n)(hs:s.testBit j=true)(ht:P.length<R)(hM:InF p R n M)(hx:M P.length j≠0):PS p n R a s (j+1) (ZY p P.length j R M) (P++[j]):=by
  have hv:=hM _ j ht hj
  have hpp:=hp.pos
  have h1p: ¬p∣1:=fun hd=>by have:=Int.le_of_dvd (by omega) hd;omega
  have hd:=VP hx hv
  refine h.row hp hj hs ht hd 1 h1p (fun i=>if P.length<i then M P.length j else 1) (fun i _ _=>by show ¬p∣if _ then _ else _;split<;>assumption) (fun i=>if P.length<i then - M i j else 0) (fun c hc=> ?_) (fun i hi hit c hc=> ?_) (fun i hti hi=> ?_)
  · rw [QK _ _ _ ht,if_neg (by omega),Int.one_mul,Int.sub_self];exact Int.dvd_zero p
  · rw [QK _ _ _ ht]
    by_cases c1:P.length<i
    · rw [if_pos (show P.length<i∧i<R from ⟨c1,hi⟩)]
      simp only [c1,if_true]
      have h2:=zbw (M i c*M P.length j - M P.length c*M i j) p
      refine (show ∀x y:Int,x=y→p∣x→p∣y from fun x y e h=>e ▸h) _ _ ?_ h2
      rw [Int.neg_mul,Int.mul_comm (M i c),Int.mul_comm (M P.length c)]
      omega
    · rw [if_neg (show ¬(P.length<i∧i<R) by omega)]
      simp only [c1,if_false]
      rw [Int.one_mul,Int.zero_mul,Int.add_zero,Int.sub_self]
      exact Int.dvd_zero p
  · rw [QK _ _ _ ht,if_pos (show P.length<i∧i<R from ⟨hti,hi⟩)]
    have h2:=zbw (M i j*M P.length j - M P.length j*M i j) p
    rw [Int.mul_comm (M i j),Int.sub_self,Int.sub_zero] at h2
    rwa [Int.mul_comm (M i j),Int.sub_self]
/-- One column of s, taken up by spec.l4Rank's step. -/
theorem PS.yZ (hp:jr p){st:Nat×Tab}(h:PS p n R a s j st.2 P)(ht:P.length=st.1)(hj:j<n)(hs:s.testBit j=true)(hM:InF p R n st.2):
    ∃P',P'.length=(L.yZ p R st j).1∧PS p n R a s (j+1) (L.yZ p R st j).2 P'∧InF p R n (L.yZ p R st j).2:=by
  obtain ⟨h1,h2,h3,h4⟩:=j7 st.2 R j (R - st.1) st.1 (by have:=h.len;omega)
  by_cases c:qc st.2 R st.1 j<R
  · have he:L.yZ p R st j=(st.1+1,ZY p st.1 j R (qt (jv (qc st.2 R st.1 j) st.1) st.2)):=by unfold L.yZ;rw [if_pos c]
    rw [he,zbm]
    rw [←ht] at h1 ⊢
    rw [←ht] at c h3
    have hsw:=h.swap (b:=qc st.2 R P.length j) h1 c
    have hin:=hM.swap (a:=P.length) (b:=qc st.2 R P.length j) (by omega) c
    refine ⟨P++[j],by rw [List.length_append];rfl,hsw.fwd hp hj hs (by omega) hin ?_,hin.ZY hp.pos.1⟩
    rw [yg]
    by_cases c2:P.length=qc st.2 R P.length j
    · rw [if_pos c2];rw [←c2] at h3;exact h3 (by omega)
    · rw [if_neg c2,if_pos rfl];exact h3 c
  · have he:L.yZ p R st j=st:=by unfold L.yZ;rw [if_neg c]
    rw [he]
    exact ⟨P,ht,h.skip fun _ i hi hiR=>by rw [h4 i (by omega) (by omega)];exact Int.dvd_zero p,hM⟩
def yz (p:Int)(R s:Nat)(M:Tab)(n:Nat):Nat×Tab:=(List.range n).foldl (fun st j=>if s.testBit j=true then L.yZ p R st j else st) (0,M)
def yx (p:Int)(R s:Nat)(M:Tab)(n:Nat):Red:=(List.range n).foldl (fun st j=>if s.testBit j=true then qd p R st j else st) ⟨0,M,[]⟩
theorem Yi (hp:jr p)(hM:InF p R n M): ∀m,m≤n→ ∃P,P.length=(yz p R s M m).1∧PS p n R M s m (yz p R s M m).2 P∧InF p R n (yz p R s M m).2
  |0,_=>⟨[],rfl,PS.start,hM⟩
  |m+1,hm=>by
    obtain ⟨P,h1,h2,h3⟩:=Yi hp hM m (by omega)
    have e:yz p R s M (m+1)=if s.testBit m=true then L.yZ p R (yz p R s M m) m else yz p R s M m:=by unfold yz;rw [List.range_succ,List.foldl_append];rfl
    rw [e]
    by_cases c:s.testBit m=true
    · rw [if_pos c];exact h2.yZ hp h1 (by omega) c h3
    · rw [if_neg c];exact ⟨P,h1,h2.skip fun h=>absurd h c,h3⟩
theorem Yj (hp:jr p)(hM:InF p R n M): ∀m,m≤n→ ∃P,P.length=(yx p R s M m).t∧PS p n R M s m (yx p R s M m).M P∧InF p R n (yx p R s M m).M
  |0,_=>⟨[],rfl,PS.start,hM⟩
  |m+1,hm=>by
    obtain ⟨P,h1,h2,h3⟩:=Yj hp hM m (by omega)
    have e:yx p R s M (m+1)=if s.testBit m=true then qd p R (yx p R s M m) m else yx p R s M m:=by unfold yx;rw [List.range_succ,List.foldl_append];rfl
    rw [e]
    by_cases c:s.testBit m=true
    · rw [if_pos c]
      obtain ⟨P',g1,g2,_⟩:=h2.red hp h1 (by omega) c h3
      refine ⟨P',g1,g2,?_⟩
      unfold qd
      split
      · rename_i hlt
        have hle:=h2.len
        obtain ⟨f1,_,_,_⟩:=j7 (yx p R s M m).M R m (R - (yx p R s M m).t) (yx p R s M m).t (by omega)
        exact (h3.swap (by omega) hlt).pivot hp.pos.1 (by omega) (by omega)
      · exact h3
    · rw [if_neg c];exact ⟨P,h1,h2.skip fun h=>absurd h c,h3⟩
/-- Both count the rank of the columns of s. -/
theorem zcr (hp:jr p)(hn:n≤8)(hs:s<2 ^n)(hM:InF p R n M):(yz p R s M n).1=rk (linB p n (Ker p n R M)) s:=by
  obtain ⟨P,h1,h2,_⟩:=Yi (s:=s) hp hM n (Nat.le_refl n)
  rw [h2.rk hp hn hs,h1]
theorem zbe (hp:jr p)(hn:n≤8)(hs:s<2 ^n)(hM:InF p R n M):(yx p R s M n).t=rk (linB p n (Ker p n R M)) s:=by
  obtain ⟨P,h1,h2,_⟩:=Yj (s:=s) hp hM n (Nat.le_refl n)
  rw [h2.rk hp hn hs,h1]
end
def jF (es:List Nat)(M:Tab):Tab:=fun i q=>M i (es.getD q 0)
theorem J7 (es:List Nat)(p:Int)(t q:Nat): ∀(l:List Nat) (X:Tab),l.foldl (jA p t q) (jF es X)=jF es (l.foldl (jA p t (es.getD q 0)) X)
  | [],_=>rfl
  |i::l,X=>by
    rw [List.foldl_cons,List.foldl_cons,←J7 es p t q l]
    congr 1
    unfold jA
    split
    · rfl
    · rfl
theorem za3 (es:List Nat)(p:Int)(R q:Nat)(A B:Red)(h1:A.t=B.t)(h2:A.M=jF es B.M):(qd p R A q).t=(qd p R B (es.getD q 0)).t∧(qd p R A q).M=jF es (qd p R B (es.getD q 0)).M:=by
  obtain ⟨ta,Ma,pa⟩:=A
  obtain ⟨tb,Mb,pb⟩:=B
  simp only at h1 h2
  subst h1
  subst h2
  have hf:qc (jF es Mb) R ta q=qc Mb R ta (es.getD q 0):=rfl
  unfold qd
  simp only [hf]
  split
  · refine ⟨rfl,?_⟩
    show vM p R ta q (jF es (qt (jv ta (qc Mb R ta (es.getD q 0))) Mb))=jF es (vM p R ta (es.getD q 0) (qt (jv ta (qc Mb R ta (es.getD q 0))) Mb))
    generalize qt (jv ta (qc Mb R ta (es.getD q 0))) Mb=X
    exact J7 es p ta q (List.range R) (qt (ym p ta (vZ p (X ta (es.getD q 0)))) X)
  · exact ⟨rfl,rfl⟩
theorem Ql (es:List Nat)(p:Int)(R:Nat)(M:Tab): ∀m,m≤es.length→((List.range m).foldl (qd p R) ⟨0,jF es M,[]⟩).t=((es.take m).foldl (qd p R) ⟨0,M,[]⟩).t∧((List.range m).foldl (qd p R) ⟨0,jF es M,[]⟩).M=jF es ((es.take m).foldl (qd p R) ⟨0,M,[]⟩).M
  |0,_=>⟨rfl,rfl⟩
  |m+1,hm=>by
    obtain ⟨h1,h2⟩:=Ql es p R M m (by omega)
    rw [List.range_succ,List.foldl_append,List.take_succ_eq_append_getElem (show m<es.length by omega),List.foldl_append]
    have hg:es.getD m 0=es[m]:=by simp [List.getD_eq_getElem?_getD,show m<es.length by omega]
    have:=za3 es p R m _ _ h1 h2
    rw [hg] at this
    exact this
theorem zb2 (p:Int)(R s n:Nat)(M:Tab):(vR p R ((List.range n).filter s.testBit).length (jF ((List.range n).filter s.testBit) M)).t=(yx p R s M n).t:=by
  unfold vR yx
  rw [(Ql _ p R M _ (Nat.le_refl _)).1,List.take_length,List.foldl_filter]
end Go.Proofs.YtjlbfbpjcmjdfaaGreat.L
end
section
namespace Go.Proofs.YtjlbfbpjcmjdfaaGreat.L
open Go.RowKit Go.Proofs.YtjlbfbpjcmjdfaaGreat.F Go.Proofs.YtjlbfbpjcmjdfaaGreatW.PrintWords Go.Proofs.YtjlbfbpjcmjdfaaGreatW.PrintLast Go.Proofs.YtjlbfbpjcmjdfaaGreatW.PrintMore
open Go.Proofs.YtjlbfbpjcmjdfaaGreat.Bits
set_option linter.unusedSimpArgs false
set_option linter.unusedVariables false
theorem zcF (a e:Nat)(ha:a<256)(he:e≤64):qe.f (a:Int) (e:Int)=some (a.testBit e):=by
  unfold qe.f;rw [yq (by omega) (by omega),if_pos (by omega),J2 _ _ (by omega) (by omega)]
theorem zdQ (M:Tab)(p:Int)(t i0 j:Nat)(x y:Int):upd M i0 j (Int.tmod (Int.tmod (M i0 j*y - M t j*x) p+p) p)=jR (zaW p t i0 x y) M j:=by
  funext i c
  unfold upd jR zaW
  by_cases h1:c=j
  · subst h1
    by_cases h2:i=i0
    · subst h2;simp
    · simp [h2]
  · simp [h1]
theorem zcZ {a b x y p:Int}(hp:2≤p∧p≤7)(ha:0≤a∧a<p)(hb:0≤b∧b<p)(hx:0≤x∧x<p)(hy:0≤y∧y<p):
    wrap64 (Int.tmod (wrap64 (wrap64 (a*y) - wrap64 (b*x))) p+p)=Int.tmod (a*y - b*x) p+p:=by
  rw [wrap_mul (x:=a) (y:=y) ⟨ha.1,by omega⟩ ⟨hy.1,by omega⟩,wrap_mul (x:=b) (y:=x) ⟨hb.1,by omega⟩ ⟨hx.1,by omega⟩]
  have h1:=ZM (x:=a) (y:=y) ⟨ha.1,by omega⟩ ⟨hy.1,by omega⟩
  have h2:=ZM (x:=b) (y:=x) ⟨hb.1,by omega⟩ ⟨hx.1,by omega⟩
  rw [show wrap64 (a*y - b*x)=a*y - b*x from ja (by omega) (by omega)]
  have h3:=zbU (a*y - b*x) (show 0<p by omega)
  have h4:=Int.tmod_lt_of_pos (a*y - b*x) (show 0<p by omega)
  exact ja (by omega) (by omega)
section
variable {p:Int} {R C:Nat} (hR:R≤8) (hC:C≤8) (hf:isField p=true)
include hR hC
theorem zcx {t j s:Nat}(hj:j<C)(M:Tab)(r:Int)(h:Ev (fun k=>zl.j2 k p R C s (zY M R C) t j (qc M R t j:Nat)) r):
    ∀d a,a+d=R→qc M R a j=qc M R t j→Ev (fun k=>zl.l1 k p R C s (zY M R C) t j (a:Nat)) r
  |0,a,ha,he=>by
    obtain rfl:a=R:=by omega
    rw [y0] at he
    rw [←he] at h
    refine Ev.succ ?_
    simp only [zl.l1,show ¬((a:Int)< (a:Int)) by omega,if_false]
    exact h
  |d+1,a,ha,he=>by
    have hlt:a<R:=by omega
    have h1:=jX hlt hj
    rw [ZT hlt] at he
    refine Ev.succ ?_
    simp only [zl.l1,show ((a:Int)< (R:Int)) by omega,if_true,qX (show a≤8 by omega) hC (show j≤8 by omega),qm,qG,qV M hlt hj,show (0:Int)≤((a*C+j:Nat):Int) by omega,show ((a*C+j:Nat):Int)< ((R*C:Nat):Int) by omega,zB (show a<9223372036854775807 by omega)]
    by_cases c:M a j=0
    · rw [if_pos c] at he
      simp only [c,if_true]
      exact zcx hj M r h d (a+1) (by omega) he
    · rw [if_neg c] at he
      simp only [c,if_false]
      rw [←he] at h
      exact h
include hf
theorem zcK {s:Nat}(hs:s<256): ∀d j (st:Nat×Tab),j+d=C→st.1≤R→InF p R C st.2→
    Ev (fun k=>zl.l0 k p R C s (zY st.2 R C) (st.1:Nat) (j:Nat)) (((List.range' j d).foldl (fun st j=>if s.testBit j=true then yZ p R st j else st) st).1:Int):=by
  have hp:=j4 hf
  intro d
  induction d with
  |zero=>
    intro j st hj ht hM
    obtain rfl:j=C:=by omega
    refine Ev.succ ?_
    simp only [zl.l0,show ¬((j:Int)< (j:Int)) by omega,if_false]
    exact Ev.now _
  |succ d ih=>
    intro j st hj ht hM
    have hjC:j<C:=by omega
    refine Ev.succ ?_
    simp only [zl.l0,show ((j:Int)< (C:Int)) by omega,if_true,zcF s j hs (by omega),Option.bind_some,zB (show j<9223372036854775807 by omega)]
    rw [List.range'_succ,List.foldl_cons]
    cases hb:s.testBit j
    · simp only [Bool.false_eq_true,if_false]
      exact ih (j+1) st (by omega) ht hM
    simp only [if_true]
    obtain ⟨f1,f2,f3,f4⟩:=j7 st.2 R j (R - st.1) st.1 (by omega)
    refine zcx hR hC hjC st.2 _ ?_ (R - st.1) st.1 (by omega) rfl
    refine Ev.succ ?_
    by_cases c:qc st.2 R st.1 j<R
    · have he:yZ p R st j=(st.1+1,ZY p st.1 j R (qt (jv (qc st.2 R st.1 j) st.1) st.2)):=by unfold yZ;rw [if_pos c]
      rw [he]
      have htR:st.1<R:=by omega
      simp only [zl.j2,show ¬(((qc st.2 R st.1 j:Nat):Int)≥(R:Int)) by omega,if_false]
      generalize qc st.2 R st.1 j=b at c f1 ⊢
      have l2:=qJ (fun k (M:Tab) m=>zl.l2 k p R C s (zY M R C) (st.1:Nat) (j:Nat) (b:Nat) m) C (fun M m=>jR (jv b st.1) M m) (fun _ _=>True)
        (fun m M hm _=>⟨trivial,fun r hr=>by
          have h1:=jX c hm
          have h2:=jX htR hm
          simp only [zl.l2,show ((m:Int)< (C:Int)) by omega,if_true,qX (show b≤8 by omega) hC (show m≤8 by omega),qX (show st.1≤8 by omega) hC (show m≤8 by omega),qm,Int.toNat_natCast,qG,qV M c hm,qV M htR hm,
            show (0:Int)≤((b*C+m:Nat):Int) by omega,show ((b*C+m:Nat):Int)< ((R*C:Nat):Int) by omega,show (0:Int)≤((st.1*C+m:Nat):Int) by omega,show ((st.1*C+m:Nat):Int)< ((R*C:Nat):Int) by omega,zB (show m<9223372036854775807 by omega),yy _ c hm,yy _ htR hm,zay]
          exact hr⟩) st.2 trivial
      refine l2.2 _ (Ev.succ ?_)
      simp only [zl.l2,show ¬((C:Int)< (C:Int)) by omega,if_false,zB (show st.1<9223372036854775807 by omega)]
      rw [yK]
      have hM1:InF p R C (qt (jv b st.1) st.2):=hM.swap c htR
      generalize qt (jv b st.1) st.2=M1 at hM1 ⊢
      refine Ju (fun k (M':Tab) i=>zl.l3 k p R C s (zY M' R C) (st.1:Nat) (j:Nat) i) R (yJ p st.1 j) (fun i M'=>InF p R C M'∧st.1<i) (fun M'=>(((List.range' (j+1) d).foldl (fun st j=>if s.testBit j=true then yZ p R st j else st) (st.1+1,M')).1:Int))
        (fun M' hM'=> ?_) (fun i M' hi hM'=>⟨⟨hM'.1.yJ hp.1,by omega⟩,fun r hr=> ?_⟩) (R - (st.1+1)) (st.1+1) M1 (by omega) ⟨hM1,by omega⟩
      · simp only [zl.l3,show ¬((R:Int)< (R:Int)) by omega,if_false,zB (show st.1<9223372036854775807 by omega),zB (show j<9223372036854775807 by omega)]
        exact ih (j+1) (st.1+1,M') (by omega) htR hM'.1
      · obtain ⟨hM',hti⟩:=hM'
        have h1:=jX hi hjC
        have h2:=jX htR hjC
        have hx:=hM' i j hi hjC
        have hy:=hM' st.1 j htR hjC
        simp only [zl.l3,show ((i:Int)< (R:Int)) by omega,if_true,qX (show i≤8 by omega) hC (show j≤8 by omega),qX (show st.1≤8 by omega) hC (show j≤8 by omega),qm,qG,qV M' hi hjC,qV M' htR hjC,
          show (0:Int)≤((i*C+j:Nat):Int) by omega,show ((i*C+j:Nat):Int)< ((R*C:Nat):Int) by omega,show (0:Int)≤((st.1*C+j:Nat):Int) by omega,show ((st.1*C+j:Nat):Int)< ((R*C:Nat):Int) by omega]
        unfold yJ at hr
        generalize M' i j=x at hr hx ⊢
        generalize M' st.1 j=y at hr hy ⊢
        have hstep: ∀N:Tab,InF p R C N→InF p R C (qt (zaW p st.1 i x y) N):=fun N hN i' c' hi' hc'=>by
          unfold qt zaW
          split
          · exact zcJ _ hp.1
          · exact hN i' c' hi' hc'
        have l4:=qJ (fun k (N:Tab) m=>zl.l4 k p R C s (zY N R C) (st.1:Nat) (j:Nat) (i:Nat) x y m) C (fun N m=>jR (zaW p st.1 i x y) N m) (fun _ N=>InF p R C N)
          (fun m N hm hN=>⟨Zk hstep hN hm,fun r hr=>by
            have h3:=jX hi hm
            have h4:=jX htR hm
            simp only [zl.l4,show ((m:Int)< (C:Int)) by omega,if_true,qX (show i≤8 by omega) hC (show m≤8 by omega),qX (show st.1≤8 by omega) hC (show m≤8 by omega),qm,Int.toNat_natCast,qG,qV N hi hm,qV N htR hm,
              show (0:Int)≤((i*C+m:Nat):Int) by omega,show ((i*C+m:Nat):Int)< ((R*C:Nat):Int) by omega,show (0:Int)≤((st.1*C+m:Nat):Int) by omega,show ((st.1*C+m:Nat):Int)< ((R*C:Nat):Int) by omega,zB (show m<9223372036854775807 by omega),show ¬p=0 by omega,if_false,
              zcZ (a:=N i m) (b:=N st.1 m) (x:=x) (y:=y) hp (hN i m hi hm) (hN st.1 m htR hm) hx hy,yy _ hi hm,zdQ]
            exact hr⟩) M' hM'
        refine l4.2 _ (Ev.succ ?_)
        simp only [zl.l4,show ¬((C:Int)< (C:Int)) by omega,if_false,zB (show i<9223372036854775807 by omega)]
        rw [yK]
        exact hr
    · have he:yZ p R st j=st:=by unfold yZ;rw [if_neg c]
      rw [he]
      simp only [zl.j2,show (((qc st.2 R st.1 j:Nat):Int)≥(R:Int)) by omega,if_true,zB (show j<9223372036854775807 by omega)]
      exact ih (j+1) st (by omega) ht hM
theorem zbO {s:Nat}(hs:s<2 ^C){l:List Int}(hl:l.length=R*C)(hx: ∀x∈l,0≤x∧x<p):
    Ev (fun k=>zl.f k p R C l s) ((yz p R s (qf l C) C).1:Int):=by
  have hp:=j4 hf
  have h256:s<256:=Nat.lt_of_lt_of_le hs (Nat.pow_le_pow_right (n:=2) (by decide) hC)
  have hRC:R*C≤64:=Nat.le_trans (Nat.mul_le_mul hR hC) (by decide)
  have key:=zcK hR hC hf h256 C 0 (0,qf l C) (by omega) (Nat.zero_le _) (fun i j _ _=>Zx hp.1 hx _)
  rw [JA hl,←List.range_eq_range'] at key
  unfold zl.f
  simp only [Option.bind_some,List.length_nil,show 0+l.length<17592186044416 by omega,if_true,List.nil_append]
  exact key
end
end Go.Proofs.YtjlbfbpjcmjdfaaGreat.L
end
section
namespace Go.Proofs.YtjlbfbpjcmjdfaaGreat.L
open Go.RowKit Go.Proofs.YtjlbfbpjcmjdfaaGreat.F Go.Proofs.YtjlbfbpjcmjdfaaGreatW.PrintWords Go.Proofs.YtjlbfbpjcmjdfaaGreatW.PrintLast Go.Proofs.YtjlbfbpjcmjdfaaGreatW.PrintMore
open Go.Proofs.YtjlbfbpjcmjdfaaGreat.Bits
set_option linter.unusedSimpArgs false
set_option linter.unusedVariables false
theorem Zb {p:Int}(h:isField p=true):Mt.jr p:=by simpa [isField,Mt.jr] using h
section
variable {p:Int} {R C:Nat} (hR:R≤8) (hC:C≤8)
include hR hC
theorem zab (hf:isField p=true){X:Tab}(hX:InF p R C X):Ev (fun k=>zd.f k p R C (zY X R C)) (p,((vR p R C X).t:Int),(C:Int),zY (vR p R C X).M (vR p R C X).t C,(vR p R C X).ps):=by
  have hp:=j4 hf
  have hRC:R*C≤64:=Nat.le_trans (Nat.mul_le_mul hR hC) (by decide)
  have key:=zdZ hR hC hf (zY X R C) C 0 ⟨0,X,[]⟩ (by omega) ⟨Nat.zero_le _,hX,rfl⟩
  rw [←List.range_eq_range'] at key
  unfold zd.f
  have l0:=qJ (fun k (x:List (List Int)) i=>zd.l0 k x i p R C (zY X R C)) R (fun x i=>x++[jJ X C i]) (fun i x=>x=qO X i C)
    (fun i x hi hxx=>⟨by rw [hxx];exact Yh _ C i,fun r hr=>by
      have hle:(i+1)*C≤R*C:=Nat.mul_le_mul_right _ (by omega)
      have hle2:i*C≤(i+1)*C:=Nat.mul_le_mul_right _ (by omega)
      have m1:=Qb (r:=(i:Int)) (c:=(C:Int)) ⟨by omega,by omega⟩ ⟨by omega,by omega⟩
      have m2:=Qb (r:=((i+1:Nat):Int)) (c:=(C:Int)) ⟨by omega,by omega⟩ ⟨by omega,by omega⟩
      have w1:wrap64 ((i:Int)*(C:Int))=((i*C:Nat):Int):=by rw [ja (by omega) (by omega)];simp
      have w2:wrap64 (((i+1:Nat):Int)*(C:Int))=(((i+1)*C:Nat):Int):=by rw [ja (by omega) (by omega),Int.natCast_mul]
      have hlen:x.length=i:=by rw [hxx,q2]
      simp only [zd.l0,show ((i:Int)< (R:Int)) by omega,if_true,Option.bind_some,zB (show i<9223372036854775807 by omega),w1,w2,show (0:Int)≤((i*C:Nat):Int) by omega,show ((i*C:Nat):Int)≤(((i+1)*C:Nat):Int) by omega,qm,show (((i+1)*C:Nat):Int)≤((R*C:Nat):Int) by omega,Int.toNat_natCast,JJ X hi,j9,List.length_nil,show 0+C<17592186044416 by omega,hlen,show i<5864062014805 by omega,List.nil_append]
      exact hr⟩) [] (by simp [qO])
  have hfold:=l0.1
  refine l0.2 _ (Ev.succ ?_)
  simp only [zd.l0,show ¬((R:Int)< (R:Int)) by omega,if_false]
  rw [hfold]
  exact key
theorem zcN {s:Int}{es:List Nat}(hes:y4 s=es)(hlt: ∀e∈es,e<C){l:List Int}(hl:l.length=R*C):
    Ev (fun k=>zK.f k p R C l s) (p,(R:Int),(es.length:Int),zY (jF es (qf l C)) R es.length):=by
  have h8:es.length≤8:=by rw [←hes];exact ZF s
  have hRe:R*es.length≤64:=Nat.le_trans (Nat.mul_le_mul hR h8) (by decide)
  unfold zK.f
  refine Ev.bind (Ze s) ?_
  rw [hes]
  have hil:(ints es).length=es.length:=by simp [ints]
  have l0:=qJ (fun k (x:List Int) i=>zK.l0 k (ints es) i p R C l p R ((ints es).length:Int) x) R (fun x i=>x++jJ (jF es (qf l C)) es.length i) (fun i x=>x=zY (jF es (qf l C)) i es.length)
    (fun i x hi hxx=>⟨by rw [hxx];exact Qp _ _ i,fun r hr=>by
      have hle:(i+1)*es.length≤R*es.length:=Nat.mul_le_mul_right _ (by omega)
      rw [Nat.succ_mul] at hle
      have hxl:x.length=i*es.length:=by rw [hxx,qm]
      simp only [zK.l0,show ((i:Int)< (R:Int)) by omega,if_true]
      have l1:=qJ (fun k (y:List Int) q=>zK.l1 k (ints es) i (ints es) ((ints es).length:Int) q p R C l p R ((ints es).length:Int) y) es.length (fun y q=>y++[qf l C i (es.getD q 0)]) (fun q y=>y=x++(List.range q).map (jF es (qf l C) i))
        (fun q y hq hy=>⟨by rw [hy,List.range_succ,List.map_append,List.append_assoc];rfl,fun r hr=>by
          have he:es[q]∈es:=List.getElem_mem hq
          have hg:es.getD q 0=es[q]:=by simp [List.getD_eq_getElem?_getD,hq]
          have hcl:=zbH hl hi (hlt _ he)
          have h7:=hlt _ he
          have hyl:y.length=i*es.length+q:=by rw [hy,List.length_append,hxl];simp
          simp only [zK.l1,hil,show ((q:Int)< (es.length:Int)) by omega,if_true,show (0:Int)≤(q:Int) by omega,Qq es q hq,jG.f,qX (show i≤8 by omega) hC (show es[q]≤8 by omega),show (0:Int)≤((i*C+es[q]:Nat):Int) by omega,show ((i*C+es[q]:Nat):Int)< (l.length:Int) by omega,qG,Option.bind_some,show y.length<17592186044416 by omega,zB (show q<9223372036854775807 by omega)]
          rw [hg] at hr
          rw [hil] at hr
          exact hr⟩) x (by simp)
      have l1e:=l1.1
      refine l1.2 _ (Ev.succ ?_)
      simp only [zK.l1,hil,show ¬((es.length:Int)< (es.length:Int)) by omega,if_false,zB (show i<9223372036854775807 by omega)]
      rw [l1e]
      rw [hil] at hr
      exact hr⟩) [] (by simp [zY])
  have l0e:=l0.1
  refine l0.2 _ (Ev.succ ?_)
  simp only [zK.l0,show ¬((R:Int)< (R:Int)) by omega,if_false]
  rw [l0e,hil]
  exact Ev.now _
end
def YT (p r c:Int)(l:List Int)(s:Int):Bool:=ju p r c l&&decide (0≤c∧c≤8∧0≤s∧s<2 ^c.toNat)
def QY (p r c:Int)(l:List Int)(s:Int):Int:=if YT p r c l s=true then ((yz p r.toNat s.toNat (qf l c.toNat) c.toNat).1:Int) else -1
theorem Y7 (p r c:Int)(l:List Int)(s:Int):Ev (fun k=>qz.f k p r c l s) (QY p r c l s):=by
  have no:Ev (fun k=>qz.j0 k s true p r c l) (-1):=Ev.succ (by simp only [qz.j0,if_true];exact Ev.now _)
  unfold qz.f QY YT
  refine Ev.bind (Zh p r c l) ?_
  cases h:ju p r c l
  · simp only [Bool.false_eq_true,if_false,Bool.false_and];exact no
  simp only [if_true,zbt,Option.bind_some,Bool.true_and]
  by_cases hs:0≤c∧c≤8∧0≤s∧s<2 ^c.toNat
  · simp only [hs,decide_true,and_self,if_true,Bool.not_true]
    obtain ⟨R,C,rfl,rfl,hR,hC,hl,h2,h7,hf,hx⟩:=vQ h
    obtain ⟨S,rfl⟩:=Int.eq_ofNat_of_zero_le hs.2.2.1
    rw [Int.toNat_natCast] at hs
    have hS:S<2 ^C:=by have:=hs.2.2.2;exact_mod_cast this
    have h256:S<256:=Nat.lt_of_lt_of_le hS (Nat.pow_le_pow_right (n:=2) (by decide) hC)
    have hp:=j4 hf
    have hM:InF p R C (qf l C):=fun i j _ _=>Zx hp.1 hx _
    have hes:y4 (S:Int)=(List.range C).filter S.testBit:=by
      rw [←Zp S C hC hS]
      unfold y4;rw [if_pos (by simp [isAny];omega)];rfl
    have hlt: ∀e∈(List.range C).filter S.testBit,e<C:=fun e he=>List.mem_range.1 (List.mem_filter.1 he).1
    have h8:((List.range C).filter S.testBit).length≤8:=by rw [←hes];exact ZF _
    refine Ev.succ ?_
    simp only [qz.j0,Bool.false_eq_true,if_false,Int.toNat_natCast]
    refine Ev.bind (zcN hR hC hes hlt hl) ?_
    have hX:InF p R ((List.range C).filter S.testBit).length (jF ((List.range C).filter S.testBit) (qf l C)):=fun i q hi hq=>by
      unfold jF
      refine hM i _ hi (hlt _ ?_)
      rw [List.getD_eq_getElem?_getD,List.getElem?_eq_getElem hq]
      exact List.getElem_mem hq
    refine Ev.bind (zab hR h8 hf hX) ?_
    refine Ev.some ?_
    have hlen:(vR p R ((List.range C).filter S.testBit).length (jF ((List.range C).filter S.testBit) (qf l C))).ps.length=(vR p R ((List.range C).filter S.testBit).length (jF ((List.range C).filter S.testBit) (qf l C))).t:=by
      have hok: ∀(js:List Nat) (st:Red),(∀j∈js,j< ((List.range C).filter S.testBit).length)→Jk p R ((List.range C).filter S.testBit).length st→Jk p R ((List.range C).filter S.testBit).length (js.foldl (qd p R) st):=fun js=>by
        induction js with
        |nil=>intro st _ h;exact h
        |cons j js ih=>intro st hj h;exact ih _ (fun x hx=>hj x (List.mem_cons_of_mem _ hx)) (h.step hp.1 (hj j List.mem_cons_self))
      exact (hok _ _ (fun j hj=>List.mem_range.1 hj) ⟨Nat.zero_le _,hX,rfl⟩).len
    rw [hlen,zb2,zbe (Zb hf) hC hS hM,←zcr (Zb hf) hC hS hM]
  · simp only [hs,decide_false,Bool.not_false,Bool.false_eq_true,if_false];exact no
end Go.Proofs.YtjlbfbpjcmjdfaaGreat.L
end
section
namespace Go.Proofs.YtjlbfbpjcmjdfaaGreat.L
open Go.Proofs.YtjlbfbpjcmjdfaaGreat.Mt
set_option linter.unusedSimpArgs false
set_option linter.unusedVariables false
/-- In the midst of the reduction: every row done begins at its pivot, the others have nothing so far. -/
structure RI (p:Int)(R C j:Nat)(st:Red)(P:List Nat):Prop where
  ps:st.ps=ints P
  len:P.length=st.t
  t_le:st.t≤R
  inF:InF p R C st.M
  sort:P.Pairwise (· < ·)
  lt: ∀x∈P,x<j
  zero: ∀i,st.t≤i→i<R→ ∀c,c<j→st.M i c=0
  piv: ∀i (h:i<P.length),st.M i P[i]≠0∧ ∀c,c<P[i]→st.M i c=0
theorem za8 {x p:Int}(h0:0≤x)(h1:x<p):Int.tmod x p=x:=by rw [Int.tmod_eq_emod_of_nonneg h0,Int.emod_eq_of_lt h0 h1]
theorem za4 (p:Int)(hp:2≤p):Int.tmod p p=0:=by rw [Int.tmod_eq_emod_of_nonneg (by omega),Int.emod_self]
theorem tmod_one {x p:Int}(hp:2≤p)(h0:0≤x)(h:p∣x - 1):Int.tmod x p=1:=by
  rw [Int.tmod_eq_emod_of_nonneg h0]
  obtain ⟨k,hk⟩:=h
  rw [show x=1+p*k by omega,Int.add_mul_emod_self_left]
  exact Int.emod_eq_of_lt (by omega) (by omega)
section
variable {p:Int} {R C j:Nat} {st:Red} {P:List Nat}
theorem RI.step (hp:jr p)(h:RI p R C j st P)(hj:j<C): ∃P',RI p R C (j+1) (qd p R st j) P':=by
  have hpp:=hp.pos
  obtain ⟨f1,f2,f3,f4⟩:=j7 st.M R j (R - st.t) st.t (by have:=h.t_le;omega)
  by_cases c:qc st.M R st.t j<R
  · have he:qd p R st j=⟨st.t+1,vM p R st.t j (qt (jv st.t (qc st.M R st.t j)) st.M),st.ps++[(j:Int)]⟩:=by unfold qd;rw [if_pos c]
    rw [he]
    generalize qc st.M R st.t j=b at c f1 f3
    have htR:st.t<R:=by omega
    have hS:InF p R C (qt (jv st.t b) st.M):=h.inF.swap htR c
    have hrow: ∀i c',i<st.t→qt (jv st.t b) st.M i c'=st.M i c':=fun i c' hi=>by rw [yg,if_neg (by omega),if_neg (by omega)]
    have hz: ∀i,st.t≤i→i<R→ ∀c',c'<j→qt (jv st.t b) st.M i c'=0:=fun i hi hiR c' hc'=>by
      rw [yg]
      split
      · exact h.zero _ (Nat.le_refl _) htR c' hc'
      · split
        · exact h.zero _ (by omega) c c' hc'
        · exact h.zero _ hi hiR c' hc'
    have hx:qt (jv st.t b) st.M st.t j≠0:=by
      rw [yg]
      by_cases c2:st.t=b
      · rw [if_pos c2];subst c2;exact f3 c
      · rw [if_neg c2,if_pos rfl];exact f3 c
    have hxx:=hS st.t j htR hj
    generalize qt (jv st.t b) st.M=S at hS hrow hz hx hxx
    have hone:Int.tmod (S st.t j*vZ p (S st.t j)) p=1:=tmod_one hpp.1 (Int.mul_nonneg hxx.1 (Zv _ _)) (zaU hp (by omega) hxx.2)
    have hlow: ∀i c',i<R→c'<j→vM p R st.t j S i c'=if i=st.t then 0 else S i c':=fun i c' hi hc'=>by
      rw [yU _ _ _ _ _ _ _ hi,hz st.t (Nat.le_refl _) htR c' hc',Int.zero_mul,Int.zero_tmod]
      split
      · rfl
      · have hb:=hS i c' hi (by omega)
        rw [Int.mul_zero,Int.add_zero,za8 hb.1 hb.2]
    refine ⟨P++[j],{ps:=by show st.ps++[(j:Int)]=_;rw [h.ps];simp [ints],len:=by rw [List.length_append,h.len];rfl,t_le:=htR,inF:=hS.pivot hpp.1 htR hj,sort:= ?_,lt:= ?_,zero:= ?_,piv:= ?_}⟩
    · rw [List.pairwise_append]
      exact ⟨h.sort,List.pairwise_singleton _ _,fun x hxP y hy=>by rw [List.mem_singleton] at hy;have:=h.lt x hxP;omega⟩
    · intro x hx
      rcases List.mem_append.1 hx with hx|hx
      · have:=h.lt x hx;omega
      · rw [List.mem_singleton] at hx;omega
    · intro i hi hiR c' hc'
      have hi':st.t+1≤i:=hi
      show vM p R st.t j S i c'=0
      rcases Nat.lt_or_ge c' j with h5|h5
      · rw [hlow i c' hiR h5,if_neg (by omega)];exact hz i (by omega) hiR c' h5
      · obtain rfl:c'=j:=by omega
        rw [yU _ _ _ _ _ _ _ hiR,if_neg (by omega),hone,Int.mul_one,show S i c'+(p - S i c')=p by omega]
        exact za4 p hpp.1
    · intro i hi
      rw [List.length_append,List.length_singleton] at hi
      by_cases c3:i<P.length
      · rw [List.getElem_append_left c3]
        have hit:i<st.t:=by have:=h.len;omega
        have hlt:=h.lt P[i] (List.getElem_mem c3)
        refine ⟨?_,fun c' hc'=> ?_⟩
        · show vM p R st.t j S i P[i]≠0
          rw [hlow i _ (by omega) hlt,if_neg (by omega),hrow i _ hit];exact (h.piv i c3).1
        · show vM p R st.t j S i c'=0
          rw [hlow i _ (by omega) (by omega),if_neg (by omega),hrow i _ hit];exact (h.piv i c3).2 c' hc'
      · obtain rfl:i=P.length:=by omega
        rw [List.getElem_append_right (Nat.le_refl _)]
        simp only [Nat.sub_self,List.getElem_singleton]
        have hl:=h.len
        refine ⟨?_,fun c' hc'=> ?_⟩
        · show vM p R st.t j S P.length j≠0
          rw [hl,yU _ _ _ _ _ _ _ htR,if_pos rfl,hone];decide
        · show vM p R st.t j S P.length c'=0
          rw [hl,hlow _ _ htR hc',if_pos rfl]
  · have he:qd p R st j=st:=by unfold qd;rw [if_neg c]
    rw [he]
    have hz: ∀i,st.t≤i→i<R→ ∀c',c'<j+1→st.M i c'=0:=fun i hi hiR c' hc'=>by
      rcases Nat.lt_or_ge c' j with h5|h5
      · exact h.zero i hi hiR c' h5
      · obtain rfl:c'=j:=by omega
        exact f4 i hi (by omega)
    have hl: ∀x∈P,x<j+1:=fun x hx=>by have:=h.lt x hx;omega
    exact ⟨P,{h with lt:=hl,zero:=hz}⟩
theorem RI.run (hp:jr p){M:Tab}(hM:InF p R C M): ∀m,m≤C→ ∃P,RI p R C m ((List.range m).foldl (qd p R) ⟨0,M,[]⟩) P
  |0,_=>⟨[],{ps:=rfl,len:=rfl,t_le:=Nat.zero_le _,inF:=hM,sort:=List.Pairwise.nil,lt:=fun x hx=>(by cases hx),zero:=fun i _ _ c hc=>absurd hc (Nat.not_lt_zero c),piv:=fun i hi=>(by cases hi)}⟩
  |m+1,hm=>by
    obtain ⟨P,h⟩:=RI.run hp hM m (by omega)
    rw [List.range_succ,List.foldl_append]
    exact h.step hp (by omega)
end
def vG (p:Int)(C:Nat)(P:List Nat)(M:Tab)(j:Nat):List Int:=(List.range P.length).foldl (fun row i=>row.set (P.getD i 0) (Int.tmod (p - M i j) p)) ((List.replicate C (0:Int)).set j 1)
def Qf (p:Int)(C:Nat)(P:List Nat)(M:Tab)(m:Nat):List Int:=(List.range m).foldl (fun x j=>if j∈P then x else x++vG p C P M j) []
def Zz (P:List Nat)(m:Nat):Nat:=(List.range m).foldl (fun n j=>if j∈P then n else n+1) 0
theorem Z6 (p:Int)(C:Nat)(P:List Nat)(M:Tab)(j:Nat):(vG p C P M j).length=C:=by
  unfold vG
  have: ∀(l:List Nat) (r:List Int),(l.foldl (fun row i=>row.set (P.getD i 0) (Int.tmod (p - M i j) p)) r).length=r.length:=fun l=>by
    induction l with
    |nil=>intro r;rfl
    |cons i l ih=>intro r;rw [List.foldl_cons,ih,List.length_set]
  rw [this,List.length_set,List.length_replicate]
theorem ZS (P:List Nat)(m:Nat):Zz P (m+1)=if m∈P then Zz P m else Zz P m+1:=by unfold Zz;rw [List.range_succ,List.foldl_append];rfl
theorem Z3 (p:Int)(C:Nat)(P:List Nat)(M:Tab)(m:Nat):Qf p C P M (m+1)=if m∈P then Qf p C P M m else Qf p C P M m++vG p C P M m:=by unfold Qf;rw [List.range_succ,List.foldl_append];rfl
theorem Jv (p:Int)(C:Nat)(P:List Nat)(M:Tab): ∀m,(Qf p C P M m).length=Zz P m*C
  |0=>by simp [Qf,Zz]
  |m+1=>by
    rw [Z3,ZS]
    split
    · exact Jv p C P M m
    · rw [List.length_append,Z6,Jv p C P M m,Nat.succ_mul]
theorem zar (P:List Nat): ∀m,Zz P m≤m
  |0=>Nat.le_refl _
  |m+1=>by rw [ZS];have:=zar P m;split<;>omega
theorem zco (m:Nat): ∀P:List Nat,P.Nodup→(P.filter fun x=>decide (x<m+1)).length=(P.filter fun x=>decide (x<m)).length+if m∈P then 1 else 0
  | [],_=>by simp
  |x::P,h=>by
    obtain ⟨hx,hP⟩:=List.nodup_cons.1 h
    have ih:=zco m P hP
    by_cases c1:x=m
    · subst c1
      rw [if_neg hx] at ih
      simp [List.filter_cons,ih]
    · by_cases c2:x<m
      · simp only [List.filter_cons,show x<m+1 by omega,c2,decide_true,if_true,List.length_cons,ih,List.mem_cons,Ne.symm c1,false_or]
        omega
      · simp only [List.filter_cons,show ¬x<m+1 by omega,c2,decide_false,Bool.false_eq_true,if_false,ih,List.mem_cons,Ne.symm c1,false_or]
theorem Jh {P:List Nat}(hP:P.Nodup): ∀m,Zz P m+(P.filter fun x=>decide (x<m)).length=m
  |0=>by simp [Zz]
  |m+1=>by
    rw [ZS,zco m P hP]
    have:=Jh hP m
    split<;>omega
theorem zaj {P:List Nat}{C:Nat}(hs:P.Pairwise (· < ·))(hlt: ∀x∈P,x<C):Zz P C+P.length=C:=by
  have h:=Jh (hs.imp (fun h=>Nat.ne_of_lt h)) C
  rwa [List.filter_eq_self.2 (fun x hx=>decide_eq_true (hlt x hx))] at h
end Go.Proofs.YtjlbfbpjcmjdfaaGreat.L
end
section
namespace Go.Proofs.YtjlbfbpjcmjdfaaGreat.L
open Go.RowKit Go.Proofs.YtjlbfbpjcmjdfaaGreat.F Go.Proofs.YtjlbfbpjcmjdfaaGreatW.PrintWords Go.Proofs.YtjlbfbpjcmjdfaaGreatW.PrintLast Go.Proofs.YtjlbfbpjcmjdfaaGreatW.PrintMore
open Go.Proofs.YtjlbfbpjcmjdfaaGreat.Bits
set_option linter.unusedSimpArgs false
set_option linter.unusedVariables false
theorem Yf {P:List Nat}{j:Nat}:((j:Int)∈ints P)↔j∈P:=by
  unfold ints
  constructor
  · intro h
    obtain ⟨x,hx,he⟩:=List.mem_map.1 h
    have:x=j:=by exact_mod_cast he
    exact this ▸hx
  · intro h;exact List.mem_map.2 ⟨j,h,rfl⟩
section
variable {p:Int} {R C:Nat} (hR:R≤8) (hC:C≤8) (hf:isField p=true)
include hR hC
theorem zdp {st:Red}{P:List Nat}(h:RI p R C C st P):Ev (fun k=>zV.f k p st.t C (zY st.M st.t C)) (ints P):=by
  have hlen:=h.len
  have htle:=h.t_le
  unfold zV.f
  have key:=qJ (fun k (x:List Int) i=>zV.l0 k x i p st.t C (zY st.M st.t C)) st.t (fun x i=>x++[((P.getD i 0:Nat):Int)]) (fun i x=>x=ints (P.take i))
    (fun i x hi hx=>⟨by
      rw [hx,List.take_succ_eq_append_getElem (show i<P.length by omega),show P.getD i 0=P[i] by simp [List.getD_eq_getElem?_getD,show i<P.length by omega]]
      unfold ints
      rw [List.map_append]
      rfl,fun r hr=>by
      have hiP:i<P.length:=by omega
      have hg:P.getD i 0=P[i]:=by simp [List.getD_eq_getElem?_getD,hiP]
      have hlt:=h.lt P[i] (List.getElem_mem hiP)
      obtain ⟨hp1,hp2⟩:=h.piv i hiP
      have hxl:x.length=i:=by rw [hx];simp [ints];omega
      simp only [zV.l0,show ((i:Int)< (st.t:Int)) by omega,if_true]
      have inner: ∀d c,c+d=P[i]→Ev (fun k=>zV.l1 k x i (c:Nat) p st.t C (zY st.M st.t C)) r:=fun d=>by
        induction d with
        |zero=>
          intro c hc
          obtain rfl:c=P[i]:=by omega
          have h1:=jX hi hlt
          rw [hg] at hr
          refine Ev.succ ?_
          simp only [zV.l1,qX (show i≤8 by omega) hC (show P[i]≤8 by omega),qm,qG,qV st.M hi hlt,show (0:Int)≤((i*C+P[i]:Nat):Int) by omega,show ((i*C+P[i]:Nat):Int)< ((st.t*C:Nat):Int) by omega,if_true,hp1,if_false,show x.length<17592186044416 by omega,zB (show i<9223372036854775807 by omega)]
          exact hr
        |succ d ih=>
          intro c hc
          have hcC:c<C:=by omega
          have h1:=jX hi hcC
          refine Ev.succ ?_
          simp only [zV.l1,qX (show i≤8 by omega) hC (show c≤8 by omega),qm,qG,qV st.M hi hcC,show (0:Int)≤((i*C+c:Nat):Int) by omega,show ((i*C+c:Nat):Int)< ((st.t*C:Nat):Int) by omega,if_true,hp2 c (by omega),zB (show c<9223372036854775807 by omega)]
          exact ih (c+1) (by omega)
      exact inner P[i] 0 (by omega)⟩) [] (by simp [ints])
  have ke:=key.1
  refine key.2 _ (Ev.succ ?_)
  simp only [zV.l0,show ¬((st.t:Int)< (st.t:Int)) by omega,if_false]
  rw [ke,←hlen,List.take_length]
  exact Ev.now _
include hf
theorem zeA {st:Red}{P:List Nat}(h:RI p R C C st P)(l:List Int):Ev (fun k=>zA.l0 k (ints P) 0 p R C l p st.t C (zY st.M st.t C) p 0 C []) (p,(Zz P C:Int),(C:Int),Qf p C P st.M C,true):=by
  have hlen:=h.len
  have htle:=h.t_le
  have hp:=j4 hf
  have hil:(ints P).length=P.length:=by simp [ints]
  have key:=qJ (fun k (s:Nat×List Int) j=>zA.l0 k (ints P) j p R C l p st.t C (zY st.M st.t C) p (s.1:Int) C s.2) C (fun s j=>if j∈P then s else (s.1+1,s.2++vG p C P st.M j)) (fun j s=>s.1=Zz P j∧s.2=Qf p C P st.M j)
    (fun j s hj hs=>⟨by
      rw [ZS,Z3]
      split
      · exact hs
      · exact ⟨by rw [hs.1],by rw [hs.2]⟩,fun r hr=>by
      have hnle:=zar P j
      have hsl:s.2.length≤64:=by rw [hs.2,Jv];exact Nat.le_trans (Nat.mul_le_mul (show Zz P j≤8 by omega) hC) (by decide)
      simp only [zA.l0,show ((j:Int)< (C:Int)) by omega,if_true]
      refine Ev.bind (Qh (ints P) j (by omega)) ?_
      by_cases c:j∈P
      · rw [if_pos c] at hr
        simp only [show decide ((j:Int)∈ints P)=true from decide_eq_true (Yf.2 c),if_true,zB (show j<9223372036854775807 by omega)]
        exact hr
      · rw [if_neg c] at hr
        simp only [show decide ((j:Int)∈ints P)=false from decide_eq_false (fun hh=>c (Yf.1 hh)),Bool.false_eq_true,if_false,show (0:Int)≤(C:Int) by omega,if_true,Int.toNat_natCast,show C≤35184372088832 by omega,Option.bind_some,show (0:Int)≤(j:Int) by omega,List.length_replicate,show ((j:Int)< (C:Int)) by omega]
        have inner:=qJ (fun k (row:List Int) i=>zA.l1 k (ints P) j row i p R C l p st.t C (zY st.M st.t C) p (s.1:Int) C s.2) P.length (fun row i=>row.set (P.getD i 0) (Int.tmod (p - st.M i j) p)) (fun _ row=>row.length=C)
          (fun i row hi hrow=>⟨by rw [List.length_set];exact hrow,fun r hr=>by
            have hg:P.getD i 0=P[i]:=by simp [List.getD_eq_getElem?_getD,hi]
            have hlt:=h.lt P[i] (List.getElem_mem hi)
            have hit:i<st.t:=by omega
            have h1:=jX hit hj
            have hb:=h.inF i j (by omega) hj
            rw [hg] at hr
            simp only [zA.l1,show ((i:Int)< (st.t:Int)) by omega,if_true,show (0:Int)≤(i:Int) by omega,hil,show ((i:Int)< (P.length:Int)) by omega,qX (show i≤8 by omega) hC (show j≤8 by omega),qm,show (0:Int)≤((i*C+j:Nat):Int) by omega,show ((i*C+j:Nat):Int)< ((st.t*C:Nat):Int) by omega,show ¬p=0 by omega,if_false,Qq P i hi,show (0:Int)≤((P[i]:Nat):Int) by omega,hrow,show (((P[i]:Nat):Int)< (C:Int)) by omega,Int.toNat_natCast,qG,qV st.M hit hj,Ye hp hb,zB (show i<9223372036854775807 by omega)]
            exact hr⟩) ((List.replicate C (0:Int)).set j 1) (by simp)
        refine inner.2 _ (Ev.succ ?_)
        have hrl:=inner.1
        simp only [zA.l1,hlen,show ¬((st.t:Int)< (st.t:Int)) by omega,if_false]
        rw [←hlen,show (List.range P.length).foldl (fun row i=>row.set (P.getD i 0) (Int.tmod (p - st.M i j) p)) ((List.replicate C (0:Int)).set j 1)=vG p C P st.M j from rfl] at*
        simp only [Z6,show s.2.length+C<17592186044416 by omega,if_true,zB (show j<9223372036854775807 by omega),zB (show s.1<9223372036854775807 by have:=hs.1;omega)]
        exact hr⟩) (0,[]) ⟨rfl,rfl⟩
  have k1:=key.1
  generalize (List.range C).foldl (fun (s:Nat×List Int) j=>if j∈P then s else (s.1+1,s.2++vG p C P st.M j)) (0,[])=e at key k1
  refine key.2 _ (Ev.succ ?_)
  simp only [zA.l0,show ¬((C:Int)< (C:Int)) by omega,if_false]
  rw [k1.1,k1.2]
  exact Ev.now _
end
/-- The dual's matrix, in numbers. -/
def zdh (p r c:Int)(l:List Int):Int×Int×Int×List Int×Bool:=
  if ju p r c l=true then (p,c - ((Zn p r c l).t:Int),c,Qf p c.toNat ((Zn p r c l).ps.map Int.toNat) (Zn p r c l).M c.toNat,true) else (0,0,0,[],false)
theorem zaT (P:List Nat):(ints P).map Int.toNat=P:=by
  unfold ints;rw [List.map_map];exact (List.map_congr_left fun x _=>Int.toNat_natCast x).trans (List.map_id P)
theorem Y9 (p r c:Int)(l:List Int):Ev (fun k=>zA.f k p r c l) (zdh p r c l):=by
  unfold zA.f zdh
  refine Ev.bind (QW p r c l) ?_
  have hred:=VG p r c l
  unfold Y2 at hred
  cases h:ju p r c l
  · simp only [Bool.false_eq_true,if_false];exact Ev.now _
  rw [h] at hred
  obtain ⟨R,C,rfl,rfl,hR,hC,hl,h2,h7,hf,hx⟩:=vQ h
  simp only [if_true,Int.toNat_natCast] at hred ⊢
  refine Ev.bind hred ?_
  have hM0:InF p R C (qf l C):=fun i j _ _=>Zx (by omega) hx _
  obtain ⟨P,hP⟩:=RI.run (R:=R) (Zb hf) hM0 C (Nat.le_refl C)
  have e:Zn p R C l=(List.range C).foldl (qd p R) ⟨0,qf l C,[]⟩:=by unfold Zn vR;rw [Int.toNat_natCast,Int.toNat_natCast]
  rw [←e] at hP
  refine Ev.bind (zdp hR hC hP) ?_
  have hcount:=zaj hP.sort hP.lt
  have hlen:=hP.len
  have key:=zeA hR hC hf hP l
  rw [hP.ps,zaT,show (C:Int) - ((Zn p R C l).t:Int)=(Zz P C:Int) by omega]
  exact key
end Go.Proofs.YtjlbfbpjcmjdfaaGreat.L
end
section
namespace Go.Proofs.YtjlbfbpjcmjdfaaGreat.L
open Go.RowKit Go.Proofs.YtjlbfbpjcmjdfaaGreat.F Go.Proofs.YtjlbfbpjcmjdfaaGreatW.PrintWords Go.Proofs.YtjlbfbpjcmjdfaaGreatW.PrintLast Go.Proofs.YtjlbfbpjcmjdfaaGreatW.PrintMore
open Go.Proofs.YtjlbfbpjcmjdfaaGreat.Bits
open Go.Proofs.YtjlbfbpjcmjdfaaGreat.Mt (qL yp)
theorem Jt {a:Nat}(ha:a<256):isAny (a:Int)=true:=by simp [isAny];omega
theorem QO {a b:Nat}(ha:a<256)(hb:b<256):ji.f (a:Int) (b:Int)=some (decide (a &&&b=a)):=by
  unfold ji.f
  rw [Q4,Q4]
  simp only [Jt ha,Jt hb,Option.bind_some,if_true,Zy a b (by omega) (by omega)]
  rw [Option.some.injEq,Bool.eq_iff_iff,beq_iff_eq,decide_eq_true_eq,←qL,yp]
  omega
end Go.Proofs.YtjlbfbpjcmjdfaaGreat.L
end
