/- Several texts of this session in one: Fx15, GvFunc, GvFirstFailure, Fx7, Laid, Base, LSort, GvSort, Fx20, Fx8, Fx21, Fx9, Fx10, Fx16, GvSetsOf, GvMinimalSets, GvCircuits. Conditions: as each theorem says. -/
import Derived.Test.YtpgkkofiiokhaaaGreatZSums0
import Derived.Test.YtpgkkofiiokhaaaGreatZSums1
import Derived.Test.YtpgkkofiiokhaaaGreatZSums2
import Derived.Test.YtpgkkofiiokhaaaGreatZSums3
import Derived.Shelf.Abstract
import Derived.Shelf.Small.Bits
import Derived.Shelf.Strconv.Itoa0
import Derived.Shelf.Sort.Plain
import Derived.Ground.Names2Prog
import Derived.Shelf.Slices.CompactI
import Derived.Shelf.Slices.SearchI
import Derived.Shelf.Slices.Cells
import Derived.Shelf.Slices.In.SortNone
import Derived.Test.YtpgkkofiiokhaaaGreatProg
import Derived.Lib.SlicesCompact
import Derived.Lib.RowBridge
import Derived.Sort.OwnSortedInts
import Derived.Lib.OwnBridge
set_option maxHeartbeats 8000000
set_option maxRecDepth 100000
set_option linter.unusedSimpArgs false
set_option linter.unusedVariables false
namespace Go.Proofs.YtpgkkofiiokhaaaGreat
section
namespace F
open Go.RowKit Wa Wb Wc
attribute [local go_sem] jS jQ vv vx jv ju jP jO
def yF.f (k:Nat)(l0:List Int):Option (Int×List Int×Int):=(jd.f k l0).bind fun bt637=>((qM.f k bt637.1 bt637.2.1 bt637.2.2 7).bind fun bt641=>(if 0≤(IntKind.u64.wrap (bt641.1)) then ((zB.f bt637.1 bt641.2.2.1 bt641.2.2.2 (shl .i64 1 (IntKind.u64.wrap (bt641.1)))).bind fun bt648=>((zB.f bt637.1 bt648.2.1 bt648.2.2 16).bind fun bt651=>(if bt651.1=0 then ((qb.f k bt637.1 bt651.2.1 bt651.2.2 5).bind fun bt654=>(some (bt654.1,bt654.2.1,bt648.1))) else (if bt651.1=1 then ((vE.f bt637.1 bt651.2.1 bt651.2.2).bind fun bt660=>(some (bt641.1,bt641.2.1,bt660.1))) else (some (bt641.1,bt641.2.1,bt648.1)))))) else (none)))
theorem yF.calls (k:Nat)(A0:Option Addr)(c0:Nat)(l0:List Int)(r1:Int)(r2:List Int)(r3:Int)(w:World)(hr0:Kd.C (Kd.int .u8) w A0 l0.length l0)(hc0:l0.length≤c0)(h:yF.f k l0=some (r1,r2,r3)):Calls Tryz.prog 86 #[.slice A0 l0.length c0] w fun e w'=> ∃v1_:Value,e= .returned (.tuple #[.agg #[.int .i64 r1,v1_],.int .i64 r3])∧Kd.R (Kd.int .i64) 3 w' w.heap.size (fun _=>True) v1_ r2∧Below w.heap.size w w':=by have hu26:=Tryz.underlying26;have HR0:=Aside0.mk hr0;have HC0:=Aside0.mk hc0;clear hr0 hc0;have HB:=Aside0.mk (Below.refl w.heap.size w);have H:=h;unfold yF.f at H;clear h;replace H:=zr H;obtain ⟨⟨t637,t638,t639⟩,A2,H⟩:=H;(try dsimp only at H);replace H:=zr H;obtain ⟨⟨t641,t642,t645,t646⟩,A3,H⟩:=H;(try dsimp only at H);obtain ⟨ji4,hji4⟩: ∃j_:Int,(IntKind.u64.wrap (t641))=j_:=⟨_,rfl⟩;(replace H:(if 0≤(ji4) then ((zB.f t637 t645 t646 (shl .i64 1 (ji4))).bind fun bt648=>((zB.f t637 bt648.2.1 bt648.2.2 16).bind fun bt651=>(if bt651.1=0 then ((qb.f k t637 bt651.2.1 bt651.2.2 5).bind fun bt654=>(some (bt654.1,bt654.2.1,bt648.1))) else (if bt651.1=1 then ((vE.f t637 bt651.2.1 bt651.2.2).bind fun bt660=>(some (t641,t642,bt660.1))) else (some (t641,t642,bt648.1)))))) else (none))=some (r1,r2,r3):=by first|(rw [hji4] at H;exact H)|(simp only [hji4] at H ⊢;exact H));(try rw [hji4] at A2);(try rw [hji4] at A3);obtain ⟨c5,H⟩:=qg H;have c5b0:=eq_true c5;have c5b1:decide (0≤(ji4))=true:=decide_eq_true c5;clear c5;obtain ⟨ji6,hji6⟩: ∃j_:Int,(shl .i64 1 (ji4))=j_:=⟨_,rfl⟩;(replace H:((zB.f t637 t645 t646 (ji6)).bind fun bt648=>((zB.f t637 bt648.2.1 bt648.2.2 16).bind fun bt651=>(if bt651.1=0 then ((qb.f k t637 bt651.2.1 bt651.2.2 5).bind fun bt654=>(some (bt654.1,bt654.2.1,bt648.1))) else (if bt651.1=1 then ((vE.f t637 bt651.2.1 bt651.2.2).bind fun bt660=>(some (t641,t642,bt660.1))) else (some (t641,t642,bt648.1))))))=some (r1,r2,r3):=by first|(rw [hji6] at H;exact H)|(simp only [hji6] at H ⊢;exact H));(try rw [hji6] at A2);(try rw [hji6] at A3);have hji6_:(IntKind.i64.wrap (1*2 ^min (ji4).toNat 64))=ji6:=hji6;have hji6z:(ji4)≤64→(IntKind.i64.wrap (1*2 ^(ji4).toNat))=ji6:=vo hji6;(have hji6u:(IntKind.i64.wrap (2 ^min (ji4).toNat 64))=ji6:=by have h_:=hji6_;rw [Int.one_mul] at h_;exact h_);(have hji6v:(ji4)≤64→(IntKind.i64.wrap (2 ^(ji4).toNat))=ji6:=fun hle_=>by have h_:=hji6z hle_;rw [Int.one_mul] at h_;exact h_);have hji6y:(wrap64 (1*2 ^min (ji4).toNat 64))=ji6:=(zA _).symm.trans hji6_;have hji6x:(ji4)≤64→(wrap64 (1*2 ^(ji4).toNat))=ji6:=fun h_=>(zA _).symm.trans (hji6z h_);replace H:=zr H;obtain ⟨⟨t648,t649,t650⟩,A7,H⟩:=H;(try dsimp only at H);replace H:=zr H;obtain ⟨⟨t651,t652,t653⟩,A8,H⟩:=H;(try dsimp only at H);by_cases c9:t651=0;(·rw [if_pos c9] at H;have c9b0:(t651==0)=true:=beq_iff_eq.mpr c9;have c9b1:(t651 != 0)=false:=bne_eq_false_iff_eq.mpr c9;clear c9;replace H:=zr H;obtain ⟨⟨t654,t655,t658,t659⟩,A10,H⟩:=H;(try dsimp only at H);simp only [Option.some.injEq,Prod.mk.injEq] at H;obtain ⟨rfl,rfl,rfl⟩:=H;go_enter Tryz.func86,Tryz.ntmps86;(go_wp2_with (first|((with_reducible refine sqd 2 ?_);refine sqx #[.int .i64 0,.slice none 0 0] 26 ?_;intro gb636 hg w11 hbox hb;have q_:=f4 (za sqB hb) hbox (sqS hg:w.heap.size≤gb636) (sqS hg:w.heap.size≤gb636);clear HB;obtain ⟨HB,BK636,GW636,GE636⟩:=q_;clear hb hbox hg)|((with_reducible refine sqc 51 ?_);refine sql 8 Tryz.func51 #[.slice A0 l0.length c0] ?_;(with_reducible refine (jd.calls k _ _ l0 t637 t638 t639 w _ ?side1 ?side2 ?side3 A2.out).mono ?_);(case side1=>exact sqB);(case side2=>exact HR0.out);(case side3=>exact HC0.out);rintro e w12 ⟨g640,rfl,hi,hb,hb2⟩;refine ⟨_,rfl,?_⟩;have q_:=f5 (zR (sqK BK636.out) hb2) hb hi (zd.Zq hi (zR (sqK BK636.out) hb2) (by decide)) (Ne.symm (zd.Zq hi (zR (sqK BK636.out) hb2) (by decide)));clear BK636 HB;obtain ⟨BK636,HB,HI640,NB640_636,NB636_640⟩:=q_)|((with_reducible refine sqc 55 ?_);refine sql 10 Tryz.func55 #[.pointer (some ⟨g640,0,none⟩),.int .i64 7] ?_;(with_reducible refine (qM.calls k g640 t637 t638 t639 7 t641 t642 t645 t646 w _ ?side1 ?side2 A3.out).mono ?_);(case side1=>exact sqI HI640);(case side2=>exact sqJ);rintro e w13 ⟨v643,rfl,ho0,hi,hb,hk⟩;refine ⟨_,rfl,?_⟩;have q_:=f4 (zb.blk hk (g':=gb636) (o:= .cells #[.int .i64 0,.slice none 0 0] 26 (0,0)) (sqK BK636.out) NB636_640.out (by simp)) (Kd.zw ho0 (ze sqJ)) hb hi;clear BK636 HB HI640;obtain ⟨BK636,HO644,HB,HI640⟩:=q_)|((with_reducible refine sqd 5 ?_);refine sqx #[.int .i64 0,.slice none 0 0] 26 ?_;intro gb647 hg w14 hbox hb;have q_:=f11 (sqb HO644 hb) (sqh BK636 hb) (zd.below (sqI HI640) hb) (za sqJ hb) hbox (by rw [hg];exact (ze sqJ):w.heap.size≤gb647) (by rw [hg];exact (ze sqJ):w.heap.size≤gb647) (sqn BK636 hg) (sqm BK636 hg) (by rw [hg];exact Nat.ne_of_lt (zd.lt (show zd w _ g640 t637 t645 t646 from sqI HI640)):g640≠gb647) (by rw [hg];exact Nat.ne_of_gt (zd.lt (show zd w _ g640 t637 t645 t646 from sqI HI640)):gb647≠g640);clear HO644 BK636 HI640 HB;obtain ⟨HO644,BK636,HI640,HB,BK647,GW647,GE647,NB636_647,NB647_636,NB640_647,NB647_640⟩:=q_;clear hb hbox hg;have hnb15:=NB647_636.out;have hnc15:=NB636_647.out;have hnb16:=NB647_640.out;have hnc16:=NB640_647.out;obtain ⟨_,_,_,_⟩:=z2 BK647.out;obtain ⟨Ao18,co18,eo18⟩:=Kd.zy HO644.out;subst eo18)|((with_reducible refine sqc 69 ?_);refine vV (some 16) rfl rfl Tryz.func69 (by kernel_rfl) rfl #[.pointer (some ⟨g640,0,none⟩),.int .i64 ji6] rfl (by (try simp only [List.map_toArray,List.map_cons,List.map_nil]);first|done|(simp only [hji6];rfl)|rfl|(simp only [List.length_drop,List.length_take];rfl)) ?_;(with_reducible refine (zB.calls g640 t637 t645 t646 ji6 t648 t649 t650 w _ ?side1 ?side2 A7.out).mono ?_);(case side1=>exact sqI HI640);(case side2=>exact sqJ);rintro e w19 ⟨rfl,hi,hb,hk⟩;refine ⟨_,rfl,?_⟩;have q_:=f5 (zb.blk hk (g':=gb636) (o:= .cells #[.int .i64 0,.slice none 0 0] 26 (0,0)) (by refine sqK ?_;refine zJ ?_ NB636_647.out _;refine sqK ?_;refine zJ ?_ NB636_647.out _;refine sqK ?_;exact BK636.out) NB636_640.out (by simp)) (Kd.zo (Kd.j9 (zd.apart (show zd w _ g640 t637 t645 t646 from sqI HI640) (sqF HO644.out BK647.out) (by decide)) hk (fun _ h=>h.2)) (fun _ h=>h.1)) (zb.blk hk (g':=gb647) (o:= .cells #[.int .i64 t641,.slice Ao18 t642.length co18] 26 (0,0)) (by refine sqK ?_;refine zp (cs:=#[.int .i64 t641,.slice none 0 0]) ?_ 1 _ rfl;refine sqK ?_;refine zp (cs:=#[.int .i64 0,.slice none 0 0]) ?_ 0 _ rfl;refine sqK ?_;exact BK647.out) NB647_640.out (by simp)) hb hi;clear BK636 HO644 BK647 HB HI640;obtain ⟨BK636,HO644,BK647,HB,HI640⟩:=q_)|((with_reducible refine sqc 69 ?_);refine sql 18 Tryz.func69 #[.pointer (some ⟨g640,0,none⟩),.int .i64 16] ?_;(with_reducible refine (zB.calls g640 t637 t649 t650 16 t651 t652 t653 w _ ?side1 ?side2 A8.out).mono ?_);(case side1=>exact sqI HI640);(case side2=>exact sqJ);rintro e w20 ⟨rfl,hi,hb,hk⟩;refine ⟨_,rfl,?_⟩;have q_:=f5 (zb.blk hk (g':=gb636) (o:= .cells #[.int .i64 0,.slice none 0 0] 26 (0,0)) (sqK BK636.out) NB636_640.out (by simp)) (Kd.zo (Kd.j9 (zd.apart (show zd w _ g640 t637 t649 t650 from sqI HI640) (sqR HO644.out) (by decide)) hk (fun _ h=>h.2)) (fun _ h=>h.1)) (zb.blk hk (g':=gb647) (o:= .cells #[.int .i64 t641,.slice Ao18 t642.length co18] 26 (0,0)) (sqK BK647.out) NB647_640.out (by simp)) hb hi;clear BK636 HO644 BK647 HB HI640;obtain ⟨BK636,HO644,BK647,HB,HI640⟩:=q_)|((with_reducible refine sqc 50 ?_);refine sql 22 Tryz.func50 #[.pointer (some ⟨g640,0,none⟩),.int .i64 5] ?_;(with_reducible refine (qb.calls k g640 t637 t652 t653 5 t654 t655 t658 t659 w _ ?side1 ?side2 A10.out).mono ?_);(case side1=>exact sqI HI640);(case side2=>exact sqJ);rintro e w21 ⟨v656,rfl,ho0,hi,hb,hk⟩;refine ⟨_,rfl,?_⟩;have q_:=f6 (zb.blk hk (g':=gb636) (o:= .cells #[.int .i64 0,.slice none 0 0] 26 (0,0)) (sqK BK636.out) NB636_640.out (by simp)) (Kd.zo (Kd.y5 (Kd.y3 (zd.apart (show zd w _ g640 t637 t652 t653 from sqI HI640) (sqR HO644.out) (by decide)) hk) (Kd.zC ho0)) (fun _ h_=>h_.1)) (zb.blk hk (g':=gb647) (o:= .cells #[.int .i64 t641,.slice Ao18 t642.length co18] 26 (0,0)) (sqK BK647.out) NB647_640.out (by simp)) (Kd.zw (Kd.zD ho0 (Kd.qa (sqR HO644.out))) (ze sqJ)) hb hi;clear BK636 HO644 BK647 HB HI640;obtain ⟨BK636,HO644,BK647,HO657,HB,HI640⟩:=q_;obtain ⟨_,_,_,_⟩:=z2 BK647.out;obtain ⟨Ao23,co23,eo23⟩:=Kd.zy HO657.out;subst eo23;have hnb24:=NB636_640.out;have hnc24:=NB640_636.out;obtain ⟨_,_,_,_⟩:=z2 BK636.out)));refine bodyPost_ret (jy rfl _ _ gb636 26 #[.int .i64 t654,.slice Ao23 t655.length co23] (0,0) _ rfl (by refine sqK ?_;refine zp (cs:=#[.int .i64 t654,.slice none 0 0]) ?_ 1 _ rfl;refine sqK ?_;refine zp (cs:=#[.int .i64 0,.slice none 0 0]) ?_ 0 _ rfl;refine sqK ?_;refine zJ ?_ NB636_647.out _;refine sqK ?_;refine zJ ?_ NB636_647.out _;refine sqK ?_;exact BK636.out) Tryz.underlying26 rfl (by kernel_rfl)) rfl ?_;exact ⟨_,by first|rfl|(simp [jZ,jY]<;>rfl)|(simp only [←hji4,←hji6];first|rfl|(simp [jZ,jY]<;>rfl))|(simp [*,jZ,jY]<;>rfl),by refine sqR ?_;exact Kd.zo (Kd.zS (p:=⟨gb636,1,none⟩) (Kd.zS (p:=⟨gb636,0,none⟩) (Kd.zS (p:=⟨gb647,1,none⟩) (Kd.zS (p:=⟨gb647,0,none⟩) (Kd.zV (Kd.zV HO657.out BK647.out (by decide)) BK636.out (by decide)) (fun _ hk=>hk.1.2) (.int .i64 t654)) (fun _ hk=>hk.1.2) (.slice Ao23 t655.length co23)) (fun _ hk=>hk.2) (.int .i64 t654)) (fun _ hk=>hk.2) (.slice Ao23 t655.length co23)) (fun _ hk=>trivial),sqJ⟩);(·rw [if_neg c9] at H;have c9b0:(t651==0)=false:=beq_eq_false_iff_ne.mpr c9;have c9b1:(t651 != 0)=true:=bne_iff_ne.mpr c9;by_cases c26:t651=1;(·rw [if_pos c26] at H;have c26b0:(t651==1)=true:=beq_iff_eq.mpr c26;have c26b1:(t651 != 1)=false:=bne_eq_false_iff_eq.mpr c26;clear c26;replace H:=zr H;obtain ⟨⟨t660,t661,t662⟩,A27,H⟩:=H;(try dsimp only at H);simp only [Option.some.injEq,Prod.mk.injEq] at H;obtain ⟨rfl,rfl,rfl⟩:=H;go_enter Tryz.func86,Tryz.ntmps86;(go_wp2_with (first|((with_reducible refine sqd 2 ?_);refine sqx #[.int .i64 0,.slice none 0 0] 26 ?_;intro gb636 hg w28 hbox hb;have q_:=f4 (za sqB hb) hbox (sqS hg:w.heap.size≤gb636) (sqS hg:w.heap.size≤gb636);clear HB;obtain ⟨HB,BK636,GW636,GE636⟩:=q_;clear hb hbox hg)|((with_reducible refine sqc 51 ?_);refine sql 8 Tryz.func51 #[.slice A0 l0.length c0] ?_;(with_reducible refine (jd.calls k _ _ l0 t637 t638 t639 w _ ?side1 ?side2 ?side3 A2.out).mono ?_);(case side1=>exact sqB);(case side2=>exact HR0.out);(case side3=>exact HC0.out);rintro e w29 ⟨g640,rfl,hi,hb,hb2⟩;refine ⟨_,rfl,?_⟩;have q_:=f5 (zR (sqK BK636.out) hb2) hb hi (zd.Zq hi (zR (sqK BK636.out) hb2) (by decide)) (Ne.symm (zd.Zq hi (zR (sqK BK636.out) hb2) (by decide)));clear BK636 HB;obtain ⟨BK636,HB,HI640,NB640_636,NB636_640⟩:=q_)|((with_reducible refine sqc 55 ?_);refine sql 10 Tryz.func55 #[.pointer (some ⟨g640,0,none⟩),.int .i64 7] ?_;(with_reducible refine (qM.calls k g640 t637 t638 t639 7 t641 t642 t645 t646 w _ ?side1 ?side2 A3.out).mono ?_);(case side1=>exact sqI HI640);(case side2=>exact sqJ);rintro e w30 ⟨v643,rfl,ho0,hi,hb,hk⟩;refine ⟨_,rfl,?_⟩;have q_:=f4 (zb.blk hk (g':=gb636) (o:= .cells #[.int .i64 0,.slice none 0 0] 26 (0,0)) (sqK BK636.out) NB636_640.out (by simp)) (Kd.zw ho0 (ze sqJ)) hb hi;clear BK636 HB HI640;obtain ⟨BK636,HO644,HB,HI640⟩:=q_)|((with_reducible refine sqd 5 ?_);refine sqx #[.int .i64 0,.slice none 0 0] 26 ?_;intro gb647 hg w31 hbox hb;have q_:=f11 (sqb HO644 hb) (sqh BK636 hb) (zd.below (sqI HI640) hb) (za sqJ hb) hbox (by rw [hg];exact (ze sqJ):w.heap.size≤gb647) (by rw [hg];exact (ze sqJ):w.heap.size≤gb647) (sqn BK636 hg) (sqm BK636 hg) (by rw [hg];exact Nat.ne_of_lt (zd.lt (show zd w _ g640 t637 t645 t646 from sqI HI640)):g640≠gb647) (by rw [hg];exact Nat.ne_of_gt (zd.lt (show zd w _ g640 t637 t645 t646 from sqI HI640)):gb647≠g640);clear HO644 BK636 HI640 HB;obtain ⟨HO644,BK636,HI640,HB,BK647,GW647,GE647,NB636_647,NB647_636,NB640_647,NB647_640⟩:=q_;clear hb hbox hg;have hnb32:=NB647_636.out;have hnc32:=NB636_647.out;have hnb33:=NB647_640.out;have hnc33:=NB640_647.out;obtain ⟨_,_,_,_⟩:=z2 BK647.out;obtain ⟨Ao35,co35,eo35⟩:=Kd.zy HO644.out;subst eo35)|((with_reducible refine sqc 69 ?_);refine vV (some 16) rfl rfl Tryz.func69 (by kernel_rfl) rfl #[.pointer (some ⟨g640,0,none⟩),.int .i64 ji6] rfl (by (try simp only [List.map_toArray,List.map_cons,List.map_nil]);first|done|(simp only [hji6];rfl)|rfl|(simp only [List.length_drop,List.length_take];rfl)) ?_;(with_reducible refine (zB.calls g640 t637 t645 t646 ji6 t648 t649 t650 w _ ?side1 ?side2 A7.out).mono ?_);(case side1=>exact sqI HI640);(case side2=>exact sqJ);rintro e w36 ⟨rfl,hi,hb,hk⟩;refine ⟨_,rfl,?_⟩;have q_:=f5 (zb.blk hk (g':=gb636) (o:= .cells #[.int .i64 0,.slice none 0 0] 26 (0,0)) (by refine sqK ?_;refine zJ ?_ NB636_647.out _;refine sqK ?_;refine zJ ?_ NB636_647.out _;refine sqK ?_;exact BK636.out) NB636_640.out (by simp)) (Kd.zo (Kd.j9 (zd.apart (show zd w _ g640 t637 t645 t646 from sqI HI640) (sqF HO644.out BK647.out) (by decide)) hk (fun _ h=>h.2)) (fun _ h=>h.1)) (zb.blk hk (g':=gb647) (o:= .cells #[.int .i64 t641,.slice Ao35 t642.length co35] 26 (0,0)) (by refine sqK ?_;refine zp (cs:=#[.int .i64 t641,.slice none 0 0]) ?_ 1 _ rfl;refine sqK ?_;refine zp (cs:=#[.int .i64 0,.slice none 0 0]) ?_ 0 _ rfl;refine sqK ?_;exact BK647.out) NB647_640.out (by simp)) hb hi;clear BK636 HO644 BK647 HB HI640;obtain ⟨BK636,HO644,BK647,HB,HI640⟩:=q_)|((with_reducible refine sqc 69 ?_);refine sql 18 Tryz.func69 #[.pointer (some ⟨g640,0,none⟩),.int .i64 16] ?_;(with_reducible refine (zB.calls g640 t637 t649 t650 16 t651 t652 t653 w _ ?side1 ?side2 A8.out).mono ?_);(case side1=>exact sqI HI640);(case side2=>exact sqJ);rintro e w37 ⟨rfl,hi,hb,hk⟩;refine ⟨_,rfl,?_⟩;have q_:=f5 (zb.blk hk (g':=gb636) (o:= .cells #[.int .i64 0,.slice none 0 0] 26 (0,0)) (sqK BK636.out) NB636_640.out (by simp)) (Kd.zo (Kd.j9 (zd.apart (show zd w _ g640 t637 t649 t650 from sqI HI640) (sqR HO644.out) (by decide)) hk (fun _ h=>h.2)) (fun _ h=>h.1)) (zb.blk hk (g':=gb647) (o:= .cells #[.int .i64 t641,.slice Ao35 t642.length co35] 26 (0,0)) (sqK BK647.out) NB647_640.out (by simp)) hb hi;clear BK636 HO644 BK647 HB HI640;obtain ⟨BK636,HO644,BK647,HB,HI640⟩:=q_)|((with_reducible refine sqc 71 ?_);refine sql 26 Tryz.func71 #[.pointer (some ⟨g640,0,none⟩)] ?_;(with_reducible refine (vE.calls g640 t637 t652 t653 t660 t661 t662 w _ ?side1 ?side2 A27.out).mono ?_);(case side1=>exact sqI HI640);(case side2=>exact sqJ);rintro e w38 ⟨rfl,hi,hb,hk⟩;refine ⟨_,rfl,?_⟩;have q_:=f5 (zb.blk hk (g':=gb636) (o:= .cells #[.int .i64 0,.slice none 0 0] 26 (0,0)) (sqK BK636.out) NB636_640.out (by simp)) (Kd.zo (Kd.j9 (zd.apart (show zd w _ g640 t637 t652 t653 from sqI HI640) (sqR HO644.out) (by decide)) hk (fun _ h=>h.2)) (fun _ h=>h.1)) (zb.blk hk (g':=gb647) (o:= .cells #[.int .i64 t641,.slice Ao35 t642.length co35] 26 (0,0)) (sqK BK647.out) NB647_640.out (by simp)) hb hi;clear BK636 HO644 BK647 HB HI640;obtain ⟨BK636,HO644,BK647,HB,HI640⟩:=q_;obtain ⟨_,_,_,_⟩:=z2 BK647.out;have hnb40:=NB636_640.out;have hnc40:=NB640_636.out;obtain ⟨_,_,_,_⟩:=z2 BK636.out)));refine bodyPost_ret (jy rfl _ _ gb636 26 #[.int .i64 t641,.slice Ao35 t642.length co35] (0,0) _ rfl (by refine sqK ?_;refine zp (cs:=#[.int .i64 t641,.slice none 0 0]) ?_ 1 _ rfl;refine sqK ?_;refine zp (cs:=#[.int .i64 0,.slice none 0 0]) ?_ 0 _ rfl;refine sqK ?_;exact BK636.out) Tryz.underlying26 rfl (by kernel_rfl)) rfl ?_;exact ⟨_,by first|rfl|(simp [jZ,jY]<;>rfl)|(simp only [←hji4,←hji6];first|rfl|(simp [jZ,jY]<;>rfl))|(simp [*,jZ,jY]<;>rfl),by refine sqR ?_;exact Kd.zo (Kd.zS (p:=⟨gb636,1,none⟩) (Kd.zS (p:=⟨gb636,0,none⟩) (Kd.zV HO644.out BK636.out (by decide)) (fun _ hk=>hk.2) (.int .i64 t641)) (fun _ hk=>hk.2) (.slice Ao35 t642.length co35)) (fun _ hk=>trivial),sqJ⟩);(·rw [if_neg c26] at H;have c26b0:(t651==1)=false:=beq_eq_false_iff_ne.mpr c26;have c26b1:(t651 != 1)=true:=bne_iff_ne.mpr c26;simp only [Option.some.injEq,Prod.mk.injEq] at H;obtain ⟨rfl,rfl,rfl⟩:=H;go_enter Tryz.func86,Tryz.ntmps86;(go_wp2_with (first|((with_reducible refine sqd 2 ?_);refine sqx #[.int .i64 0,.slice none 0 0] 26 ?_;intro gb636 hg w42 hbox hb;have q_:=f4 (za sqB hb) hbox (sqS hg:w.heap.size≤gb636) (sqS hg:w.heap.size≤gb636);clear HB;obtain ⟨HB,BK636,GW636,GE636⟩:=q_;clear hb hbox hg)|((with_reducible refine sqc 51 ?_);refine sql 8 Tryz.func51 #[.slice A0 l0.length c0] ?_;(with_reducible refine (jd.calls k _ _ l0 t637 t638 t639 w _ ?side1 ?side2 ?side3 A2.out).mono ?_);(case side1=>exact sqB);(case side2=>exact HR0.out);(case side3=>exact HC0.out);rintro e w43 ⟨g640,rfl,hi,hb,hb2⟩;refine ⟨_,rfl,?_⟩;have q_:=f5 (zR (sqK BK636.out) hb2) hb hi (zd.Zq hi (zR (sqK BK636.out) hb2) (by decide)) (Ne.symm (zd.Zq hi (zR (sqK BK636.out) hb2) (by decide)));clear BK636 HB;obtain ⟨BK636,HB,HI640,NB640_636,NB636_640⟩:=q_)|((with_reducible refine sqc 55 ?_);refine sql 10 Tryz.func55 #[.pointer (some ⟨g640,0,none⟩),.int .i64 7] ?_;(with_reducible refine (qM.calls k g640 t637 t638 t639 7 t641 t642 t645 t646 w _ ?side1 ?side2 A3.out).mono ?_);(case side1=>exact sqI HI640);(case side2=>exact sqJ);rintro e w44 ⟨v643,rfl,ho0,hi,hb,hk⟩;refine ⟨_,rfl,?_⟩;have q_:=f4 (zb.blk hk (g':=gb636) (o:= .cells #[.int .i64 0,.slice none 0 0] 26 (0,0)) (sqK BK636.out) NB636_640.out (by simp)) (Kd.zw ho0 (ze sqJ)) hb hi;clear BK636 HB HI640;obtain ⟨BK636,HO644,HB,HI640⟩:=q_)|((with_reducible refine sqd 5 ?_);refine sqx #[.int .i64 0,.slice none 0 0] 26 ?_;intro gb647 hg w45 hbox hb;have q_:=f11 (sqb HO644 hb) (sqh BK636 hb) (zd.below (sqI HI640) hb) (za sqJ hb) hbox (by rw [hg];exact (ze sqJ):w.heap.size≤gb647) (by rw [hg];exact (ze sqJ):w.heap.size≤gb647) (sqn BK636 hg) (sqm BK636 hg) (by rw [hg];exact Nat.ne_of_lt (zd.lt (show zd w _ g640 t637 t645 t646 from sqI HI640)):g640≠gb647) (by rw [hg];exact Nat.ne_of_gt (zd.lt (show zd w _ g640 t637 t645 t646 from sqI HI640)):gb647≠g640);clear HO644 BK636 HI640 HB;obtain ⟨HO644,BK636,HI640,HB,BK647,GW647,GE647,NB636_647,NB647_636,NB640_647,NB647_640⟩:=q_;clear hb hbox hg;have hnb46:=NB647_636.out;have hnc46:=NB636_647.out;have hnb47:=NB647_640.out;have hnc47:=NB640_647.out;obtain ⟨_,_,_,_⟩:=z2 BK647.out;obtain ⟨Ao49,co49,eo49⟩:=Kd.zy HO644.out;subst eo49)|((with_reducible refine sqc 69 ?_);refine vV (some 16) rfl rfl Tryz.func69 (by kernel_rfl) rfl #[.pointer (some ⟨g640,0,none⟩),.int .i64 ji6] rfl (by (try simp only [List.map_toArray,List.map_cons,List.map_nil]);first|done|(simp only [hji6];rfl)|rfl|(simp only [List.length_drop,List.length_take];rfl)) ?_;(with_reducible refine (zB.calls g640 t637 t645 t646 ji6 t648 t649 t650 w _ ?side1 ?side2 A7.out).mono ?_);(case side1=>exact sqI HI640);(case side2=>exact sqJ);rintro e w50 ⟨rfl,hi,hb,hk⟩;refine ⟨_,rfl,?_⟩;have q_:=f5 (zb.blk hk (g':=gb636) (o:= .cells #[.int .i64 0,.slice none 0 0] 26 (0,0)) (by refine sqK ?_;refine zJ ?_ NB636_647.out _;refine sqK ?_;refine zJ ?_ NB636_647.out _;refine sqK ?_;exact BK636.out) NB636_640.out (by simp)) (Kd.zo (Kd.j9 (zd.apart (show zd w _ g640 t637 t645 t646 from sqI HI640) (sqF HO644.out BK647.out) (by decide)) hk (fun _ h=>h.2)) (fun _ h=>h.1)) (zb.blk hk (g':=gb647) (o:= .cells #[.int .i64 t641,.slice Ao49 t642.length co49] 26 (0,0)) (by refine sqK ?_;refine zp (cs:=#[.int .i64 t641,.slice none 0 0]) ?_ 1 _ rfl;refine sqK ?_;refine zp (cs:=#[.int .i64 0,.slice none 0 0]) ?_ 0 _ rfl;refine sqK ?_;exact BK647.out) NB647_640.out (by simp)) hb hi;clear BK636 HO644 BK647 HB HI640;obtain ⟨BK636,HO644,BK647,HB,HI640⟩:=q_)|((with_reducible refine sqc 69 ?_);refine sql 18 Tryz.func69 #[.pointer (some ⟨g640,0,none⟩),.int .i64 16] ?_;(with_reducible refine (zB.calls g640 t637 t649 t650 16 t651 t652 t653 w _ ?side1 ?side2 A8.out).mono ?_);(case side1=>exact sqI HI640);(case side2=>exact sqJ);rintro e w51 ⟨rfl,hi,hb,hk⟩;refine ⟨_,rfl,?_⟩;have q_:=f5 (zb.blk hk (g':=gb636) (o:= .cells #[.int .i64 0,.slice none 0 0] 26 (0,0)) (sqK BK636.out) NB636_640.out (by simp)) (Kd.zo (Kd.j9 (zd.apart (show zd w _ g640 t637 t649 t650 from sqI HI640) (sqR HO644.out) (by decide)) hk (fun _ h=>h.2)) (fun _ h=>h.1)) (zb.blk hk (g':=gb647) (o:= .cells #[.int .i64 t641,.slice Ao49 t642.length co49] 26 (0,0)) (sqK BK647.out) NB647_640.out (by simp)) hb hi;clear BK636 HO644 BK647 HB HI640;obtain ⟨BK636,HO644,BK647,HB,HI640⟩:=q_;obtain ⟨_,_,_,_⟩:=z2 BK647.out;have hnb53:=NB636_640.out;have hnc53:=NB640_636.out;obtain ⟨_,_,_,_⟩:=z2 BK636.out)));refine bodyPost_ret (jy rfl _ _ gb636 26 #[.int .i64 t641,.slice Ao49 t642.length co49] (0,0) _ rfl (by refine sqK ?_;refine zp (cs:=#[.int .i64 t641,.slice none 0 0]) ?_ 1 _ rfl;refine sqK ?_;refine zp (cs:=#[.int .i64 0,.slice none 0 0]) ?_ 0 _ rfl;refine sqK ?_;exact BK636.out) Tryz.underlying26 rfl (by kernel_rfl)) rfl ?_;exact ⟨_,by first|rfl|(simp [jZ,jY]<;>rfl)|(simp only [←hji4,←hji6];first|rfl|(simp [jZ,jY]<;>rfl))|(simp [*,jZ,jY]<;>rfl),by refine sqR ?_;exact Kd.zo (Kd.zS (p:=⟨gb636,1,none⟩) (Kd.zS (p:=⟨gb636,0,none⟩) (Kd.zV HO644.out BK636.out (by decide)) (fun _ hk=>hk.2) (.int .i64 t641)) (fun _ hk=>hk.2) (.slice Ao49 t642.length co49)) (fun _ hk=>trivial),sqJ⟩))
def jC.f (k:Nat)(l0:List Int):Option (Int×List Int×Int):=(yF.f k l0).bind fun bt664=>(some (bt664.1,bt664.2.1,bt664.2.2))
theorem jC.calls (k:Nat)(A0:Option Addr)(c0:Nat)(l0:List Int)(r1:Int)(r2:List Int)(r3:Int)(w:World)(hr0:Kd.C (Kd.int .u8) w A0 l0.length l0)(hc0:l0.length≤c0)(h:jC.f k l0=some (r1,r2,r3)):Calls Tryz.prog 33 #[.slice A0 l0.length c0] w fun e w'=> ∃v1_:Value,e= .returned (.tuple #[.agg #[.int .i64 r1,v1_],.int .i64 r3])∧Kd.R (Kd.int .i64) 3 w' w.heap.size (fun _=>True) v1_ r2∧Below w.heap.size w w':=by have hu26:=Tryz.underlying26;have HR0:=Aside0.mk hr0;have HC0:=Aside0.mk hc0;clear hr0 hc0;have HB:=Aside0.mk (Below.refl w.heap.size w);have H:=h;unfold jC.f at H;clear h;replace H:=zr H;obtain ⟨⟨t664,t665,t668⟩,A2,H⟩:=H;(try dsimp only at H);simp only [Option.some.injEq,Prod.mk.injEq] at H;obtain ⟨rfl,rfl,rfl⟩:=H;go_enter Tryz.func33,Tryz.ntmps33;(go_wp2_with (first|((with_reducible refine sqd 2 ?_);refine sqx #[.int .i64 0,.slice none 0 0] 26 ?_;intro gb663 hg w3 hbox hb;have q_:=f4 (za sqB hb) hbox (sqS hg:w.heap.size≤gb663) (sqS hg:w.heap.size≤gb663);clear HB;obtain ⟨HB,BK663,GW663,GE663⟩:=q_;clear hb hbox hg)|((with_reducible refine sqc 86 ?_);refine sql 8 Tryz.func86 #[.slice A0 l0.length c0] ?_;(with_reducible refine (yF.calls k _ _ l0 t664 t665 t668 _ ?side1 ?side2 A2.out).mono ?_);(case side1=>exact sqC (Kd.zq HR0.out HB.out));(case side2=>exact HC0.out);rintro e w4 ⟨v666,rfl,ho0,hb⟩;refine ⟨_,rfl,?_⟩;have q_:=f3 (Kd.zw ho0 (ze sqB)) (sqh BK663 hb) (za sqB hb);clear BK663 HB;obtain ⟨HO667,BK663,HB⟩:=q_)|((with_reducible refine sqd 4 ?_);refine sqx #[.int .i64 0,.slice none 0 0] 26 ?_;intro gb669 hg w5 hbox hb;have q_:=f8 (sqb HO667 hb) (sqh BK663 hb) (za sqB hb) hbox (sqS hg:w.heap.size≤gb669) (sqS hg:w.heap.size≤gb669) (sqn BK663 hg) (sqm BK663 hg);clear HO667 BK663 HB;obtain ⟨HO667,BK663,HB,BK669,GW669,GE669,NB663_669,NB669_663⟩:=q_;clear hb hbox hg;have hnb6:=NB669_663.out;have hnc6:=NB663_669.out;obtain ⟨_,_,_,_⟩:=z2 BK669.out;obtain ⟨Ao8,co8,eo8⟩:=Kd.zy HO667.out;subst eo8;obtain ⟨_,_,_,_⟩:=z2 BK663.out)));refine bodyPost_ret (jy rfl _ _ gb663 26 #[.int .i64 t664,.slice Ao8 t665.length co8] (0,0) _ rfl (by refine sqK ?_;refine zp (cs:=#[.int .i64 t664,.slice none 0 0]) ?_ 1 _ rfl;refine sqK ?_;refine zp (cs:=#[.int .i64 0,.slice none 0 0]) ?_ 0 _ rfl;refine sqK ?_;refine zJ ?_ NB663_669.out _;refine sqK ?_;refine zJ ?_ NB663_669.out _;refine sqK ?_;exact BK663.out) Tryz.underlying26 rfl (by kernel_rfl)) rfl ?_;exact ⟨_,sqE,by refine sqR ?_;exact Kd.zo (Kd.zS (p:=⟨gb663,1,none⟩) (Kd.zS (p:=⟨gb663,0,none⟩) (Kd.zS (p:=⟨gb669,1,none⟩) (Kd.zS (p:=⟨gb669,0,none⟩) (Kd.zV (Kd.zV HO667.out BK669.out (by decide)) BK663.out (by decide)) (fun _ hk=>hk.1.2) (.int .i64 t664)) (fun _ hk=>hk.1.2) (.slice Ao8 t665.length co8)) (fun _ hk=>hk.2) (.int .i64 t664)) (fun _ hk=>hk.2) (.slice Ao8 t665.length co8)) (fun _ hk=>trivial),sqB⟩
def zY.l0:Nat→List Int→Int→Int→List Int→Option (List Int)
 |0,_,_,_,_=>none
 |k+1,x3,x4,x696000,x696001=>(qj.f x696000).bind fun t700=>(if x4≤t700 then ((z6.f k x696000 x696001 x4).bind fun t701=>(if t701=0 then (if x3.length<17592186044416 then (zY.l0 k (x3++[x4]) (wrap64 (x4+1)) x696000 x696001) else (none)) else (zY.l0 k x3 (wrap64 (x4+1)) x696000 x696001))) else ((zH.f k x3).bind fun t705=>(some t705)))
def zY.f (k:Nat)(a0_0:Int)(l0_1:List Int):Option (List Int):=(some (([]:List Int):List Int)).bind fun y696=>((zu.f k a0_0 l0_1).bind fun t699=>(if t699=true then (zY.l0 k y696 1 a0_0 l0_1) else (some y696)))
theorem zY.calls (k:Nat)(a0_0:Int)(A0_1:Option Addr)(c0_1:Nat)(l0_1:List Int)(r:List Int)(w:World)(hr0_1:Kd.C (Kd.int .i64) w A0_1 l0_1.length l0_1)(hc0_1:l0_1.length≤c0_1)(h:zY.f k a0_0 l0_1=some r):Calls Tryz.prog 34 #[.agg #[.int .i64 a0_0,.slice A0_1 l0_1.length c0_1]] w fun e w'=> ∃v0_:Value,e= .returned (v0_)∧Kd.R (Kd.int .i64) 3 w' w.heap.size (fun _=>True) v0_ r∧Below w.heap.size w w':=by have hu26:=Tryz.underlying26;have HR0_1:=Aside0.mk hr0_1;have HC0_1:=Aside0.mk hc0_1;clear hr0_1 hc0_1;have HB:=Aside0.mk (Below.refl w.heap.size w);have H:=h;unfold zY.f at H;clear h;obtain ⟨y696,hy696⟩: ∃y_:List Int,y_=(([]:List Int)):=⟨_,rfl⟩;replace H:((zu.f k a0_0 l0_1).bind fun t699=>(if t699=true then (zY.l0 k y696 1 a0_0 l0_1) else (some y696)))=some r:=sqy hy696 H;have Ny696:=Aside0.mk hy696;clear hy696;replace H:=zr H;obtain ⟨t699,A2,H⟩:=H;by_cases c3:t699=true;(·subst c3;rw [if_pos rfl] at H;have H':=Aside0.mk H;clear H;go_enter Tryz.func34,Tryz.ntmps34;(go_wp2_with (first|((with_reducible refine sqd 1 ?_);refine sqx #[.int .i64 a0_0,.slice A0_1 l0_1.length c0_1] 26 ?_;intro gb695 hg w4 hbox hb;have q_:=f4 (za sqB hb) hbox (sqS hg:w.heap.size≤gb695) (sqS hg:w.heap.size≤gb695);clear HB;obtain ⟨HB,BK695,GW695,GE695⟩:=q_;clear hb hbox hg)|((with_reducible refine sqd 5 ?_);refine sqv ?_;intro v697 w5 ho6 hb hg_ hnew_;clear hg_ hnew_;(first|rw [←Ny696.out] at ho6|(simp only [Int.reduceToNat] at ho6;rw [←Ny696.out] at ho6));have q_:=f3 (Kd.zw ho6 (ze sqB)) (sqh BK695 hb) (za sqB hb);clear BK695 HB;obtain ⟨HO698,BK695,HB⟩:=q_;clear hb ho6;obtain ⟨_,_,_,_⟩:=z2 BK695.out)|((with_reducible refine sqc 27 ?_);refine sql 7 Tryz.func27 #[.agg #[.int .i64 a0_0,.slice A0_1 l0_1.length c0_1]] ?_;(with_reducible refine (zu.calls k a0_0 _ _ l0_1 true _ ?side1 ?side2 A2.out).mono ?_);(case side1=>exact sqC (Kd.zq HR0_1.out HB.out));(case side2=>exact HC0_1.out);rintro e w8 ⟨rfl,hb⟩;refine ⟨_,rfl,?_⟩;have q_:=f3 (sqb HO698 hb) (sqh BK695 hb) (za sqB hb);clear HO698 BK695 HB;obtain ⟨HO698,BK695,HB⟩:=q_)));(go_loopg [3,4] k (fun kq v3 v4 w'=> ∃(x3_1:List Int) (x4_1:Int),v4= .int .i64 x4_1∧Aside0 (zY.l0 kq x3_1 x4_1 a0_0 l0_1=some r)∧Aside0 (kq≤k)∧Aside0 (Kd.R (Kd.int .i64) 3 w' w.heap.size (fun _=>True) v3 x3_1)∧Aside0 (w'.heap[gb695]? =some (.cells #[.int .i64 a0_0,(.slice A0_1 l0_1.length c0_1)] 26 (0,0)))∧Aside0 (Below w.heap.size w w')));(case atStart=>exact ⟨(y696),(1),(sqD),H',⟨Nat.le_refl _⟩,⟨sqR HO698.out⟩,⟨sqK BK695.out⟩,⟨sqB⟩⟩);(case round=>clear H';obtain ⟨x3_1,x4_1,rfl,HA,HK1,HO_3,BK695,HB⟩:=hrel;(cases gk with|zero=>exact absurd HA.out (by simp [zY.l0])|succ k1=>have H:=HA.out;clear HA;simp only [zY.l0] at H;replace H:=zr H;obtain ⟨t700,A9,H⟩:=H;by_cases c10:x4_1≤t700;(·rw [if_pos c10] at H;have c10b0:decide (x4_1≤t700)=true:=decide_eq_true c10;clear c10;replace H:=zr H;obtain ⟨t701,A11,H⟩:=H;by_cases c12:t701=0;(·rw [if_pos c12] at H;have c12b0:(t701==0)=true:=beq_iff_eq.mpr c12;have c12b1:(t701 != 0)=false:=bne_eq_false_iff_eq.mpr c12;clear c12;obtain ⟨c13,H⟩:=qg H;have LMc13:=Aside0.mk c13;clear c13;obtain ⟨y702,hy702⟩: ∃y_:List Int,y_=(x3_1++[x4_1]):=⟨_,rfl⟩;replace H:(zY.l0 k1 y702 (wrap64 (x4_1+1)) a0_0 l0_1)=some r:=sqy hy702 H;have Ny702:=Aside0.mk hy702;clear hy702;have H':=Aside0.mk H;clear H;obtain ⟨_,_,_,_⟩:=z2 BK695.out;(go_wp2_with (first|((with_reducible refine sqc 26 ?_);refine sql 13 Tryz.func26 #[.int .i64 a0_0] ?_;(with_reducible refine (qj.calls a0_0 t700 _ A9.out).mono ?_);rintro e w' ⟨rfl,⟨nd,rfl⟩⟩;refine ⟨_,rfl,?_⟩)|((with_reducible refine sqc 87 ?_);refine sql 19 Tryz.func87 #[.agg #[.int .i64 a0_0,.slice A0_1 l0_1.length c0_1],.int .i64 x4_1] ?_;(with_reducible refine (z6.calls k1 a0_0 _ _ l0_1 x4_1 t701 _ ?side1 ?side2 A11.out).mono ?_);(case side1=>exact sqC (Kd.zq HR0_1.out sqB));(case side2=>exact HC0_1.out);rintro e w15 ⟨rfl,hb⟩;refine ⟨_,rfl,?_⟩;have q_:=f3 (sqb HO_3 hb) (sqh BK695 hb) (za sqB hb);clear HO_3 BK695 HB;obtain ⟨HO_3,BK695,HB⟩:=q_)|((with_reducible refine qy (b:= .append) (xs:=#[.tmp 21,.tmp 23]) rfl ?_);at_builtin;refine Kd.jR (Kd.int .i64) (w0:=w) w.heap.size rfl (.tmp 21) (.tmp 23) 24 3 (.int .i64 0) 8 rfl Tryz.underlying24 j8 rfl (by decide) (by omega) u3 x3_1 x4_1 [.int .i64 x4_1] (fun _=>True) (fun _=>False) rfl rfl ?aP (fun _ hk=>hk.elim) ?aF ?aO ?aB ?aS ?aL ?_;(case aP=>exact rfl);(case aB=>exact sqB);(case aF=>exact (fun _ _=>trivial));(case aO=>exact (sqR HO_3.out));(case aS=>exact (ze sqB));(case aL=>have:=LMc13.out;omega);intro v703 w16 ho hb hg hat;rw [←Ny702.out] at ho;have q_:=f3 (jj (sqK BK695.out) hg (Kd.Zs HO_3.out BK695.out (by decide))) hb ho;clear BK695 HB HO_3;obtain ⟨BK695,HB,HO704⟩:=q_;clear ho hb hg hat)));(go_roundg k1);(case measure=>have:=HK1.out;omega);(case rel=>exact ⟨(y702),(wrap64 (x4_1+1)),(sqD),H',⟨by have:=HK1.out;omega⟩,⟨sqR HO704.out⟩,⟨sqK BK695.out⟩,⟨sqB⟩⟩));(·rw [if_neg c12] at H;have c12b0:(t701==0)=false:=beq_eq_false_iff_ne.mpr c12;have c12b1:(t701 != 0)=true:=bne_iff_ne.mpr c12;have H':=Aside0.mk H;clear H;obtain ⟨_,_,_,_⟩:=z2 BK695.out;(go_wp2_with (first|((with_reducible refine sqc 26 ?_);refine sql 13 Tryz.func26 #[.int .i64 a0_0] ?_;(with_reducible refine (qj.calls a0_0 t700 _ A9.out).mono ?_);rintro e w' ⟨rfl,⟨nd,rfl⟩⟩;refine ⟨_,rfl,?_⟩)|((with_reducible refine sqc 87 ?_);refine sql 19 Tryz.func87 #[.agg #[.int .i64 a0_0,.slice A0_1 l0_1.length c0_1],.int .i64 x4_1] ?_;(with_reducible refine (z6.calls k1 a0_0 _ _ l0_1 x4_1 t701 _ ?side1 ?side2 A11.out).mono ?_);(case side1=>exact sqC (Kd.zq HR0_1.out sqB));(case side2=>exact HC0_1.out);rintro e w18 ⟨rfl,hb⟩;refine ⟨_,rfl,?_⟩;have q_:=f3 (sqb HO_3 hb) (sqh BK695 hb) (za sqB hb);clear HO_3 BK695 HB;obtain ⟨HO_3,BK695,HB⟩:=q_)));(go_roundg k1);(case measure=>have:=HK1.out;omega);(case rel=>exact ⟨(x3_1),(wrap64 (x4_1+1)),(sqD),H',⟨by have:=HK1.out;omega⟩,⟨sqR HO_3.out⟩,⟨sqK BK695.out⟩,⟨sqB⟩⟩)));(·rw [if_neg c10] at H;have c10b0:decide (x4_1≤t700)=false:=decide_eq_false c10;clear c10;replace H:=zr H;obtain ⟨t705,A19,H⟩:=H;obtain rfl:=Option.some.inj H;obtain ⟨_,_,_,_⟩:=z2 BK695.out;(go_wp2_with (first|((with_reducible refine sqc 26 ?_);refine sql 13 Tryz.func26 #[.int .i64 a0_0] ?_;(with_reducible refine (qj.calls a0_0 t700 _ A9.out).mono ?_);rintro e w' ⟨rfl,⟨nd,rfl⟩⟩;refine ⟨_,rfl,?_⟩;obtain ⟨Ao21,co21,eo21⟩:=Kd.zy HO_3.out;subst eo21)|((with_reducible refine sqc 68 ?_);refine sql 26 Tryz.func68 #[.slice Ao21 x3_1.length co21] ?_;(with_reducible refine (zH.calls k1 _ _ x3_1 t705 _ ?side1 ?side2 A19.out).mono ?_);(case side1=>exact sqC (Kd.zc HO_3.out).2.2);(case side2=>exact (Kd.zc HO_3.out).2.1);rintro e w22 ⟨v706,rfl,ho0,hb⟩;refine ⟨_,rfl,?_⟩;have q_:=f4 (sqe HO_3 (Kd.zC ho0) hb) (Kd.zw (Kd.zD ho0 (Kd.qa (sqR HO_3.out))) (ze sqB)) (sqh BK695 hb) (za sqB hb);clear HO_3 BK695 HB;obtain ⟨HO_3,HO707,BK695,HB⟩:=q_)));go_ret;exact ⟨_,sqE,by refine sqR ?_;exact Kd.zo HO707.out (fun _ hk=>trivial),sqB⟩))));(·obtain rfl:=sqf c3;rw [if_neg sqz] at H;obtain rfl:=Option.some.inj H;go_enter Tryz.func34,Tryz.ntmps34;(go_wp2_with (first|((with_reducible refine sqd 1 ?_);refine sqx #[.int .i64 a0_0,.slice A0_1 l0_1.length c0_1] 26 ?_;intro gb695 hg w23 hbox hb;have q_:=f4 (za sqB hb) hbox (sqS hg:w.heap.size≤gb695) (sqS hg:w.heap.size≤gb695);clear HB;obtain ⟨HB,BK695,GW695,GE695⟩:=q_;clear hb hbox hg)|((with_reducible refine sqd 5 ?_);refine sqv ?_;intro v697 w24 ho25 hb hg_ hnew_;clear hg_ hnew_;(first|rw [←Ny696.out] at ho25|(simp only [Int.reduceToNat] at ho25;rw [←Ny696.out] at ho25));have q_:=f3 (Kd.zw ho25 (ze sqB)) (sqh BK695 hb) (za sqB hb);clear BK695 HB;obtain ⟨HO698,BK695,HB⟩:=q_;clear hb ho25;obtain ⟨_,_,_,_⟩:=z2 BK695.out)|((with_reducible refine sqc 27 ?_);refine sql 7 Tryz.func27 #[.agg #[.int .i64 a0_0,.slice A0_1 l0_1.length c0_1]] ?_;(with_reducible refine (zu.calls k a0_0 _ _ l0_1 false _ ?side1 ?side2 A2.out).mono ?_);(case side1=>exact sqC (Kd.zq HR0_1.out HB.out));(case side2=>exact HC0_1.out);rintro e w27 ⟨rfl,hb⟩;refine ⟨_,rfl,?_⟩;have q_:=f3 (sqb HO698 hb) (sqh BK695 hb) (za sqB hb);clear HO698 BK695 HB;obtain ⟨HO698,BK695,HB⟩:=q_)));go_ret;exact ⟨_,sqE,sqR HO698.out,sqB⟩)
def ym.f (k:Nat)(a0_0:Int)(l0_1:List Int)(a1:Int):Option (Int):=(zu.f k a0_0 l0_1).bind fun t709=>(if t709=true then ((zM.f a0_0 a1).bind fun t710=>(if t710=true then ((qn.f k a0_0 l0_1 a1).bind fun t711=>(some t711)) else (some (-1)))) else (some (-1)))
theorem ym.calls (k:Nat)(a0_0:Int)(A0_1:Option Addr)(c0_1:Nat)(l0_1:List Int)(a1:Int)(r:Int)(w:World)(hr0_1:Kd.C (Kd.int .i64) w A0_1 l0_1.length l0_1)(hc0_1:l0_1.length≤c0_1)(h:ym.f k a0_0 l0_1 a1=some r):Calls Tryz.prog 90 #[.agg #[.int .i64 a0_0,.slice A0_1 l0_1.length c0_1],.int .i64 a1] w fun e w'=>e= .returned (.int .i64 r)∧Below w.heap.size w w':=by have hu26:=Tryz.underlying26;have HR0_1:=Aside0.mk hr0_1;have HC0_1:=Aside0.mk hc0_1;clear hr0_1 hc0_1;have HB:=Aside0.mk (Below.refl w.heap.size w);have H:=h;unfold ym.f at H;clear h;replace H:=zr H;obtain ⟨t709,A3,H⟩:=H;by_cases c4:t709=true;(·subst c4;rw [if_pos rfl] at H;replace H:=zr H;obtain ⟨t710,A5,H⟩:=H;by_cases c6:t710=true;(·subst c6;rw [if_pos rfl] at H;replace H:=zr H;obtain ⟨t711,A7,H⟩:=H;obtain rfl:=Option.some.inj H;go_enter Tryz.func90,Tryz.ntmps90;(go_wp2_with (first|((with_reducible refine sqd 2 ?_);refine sqx #[.int .i64 a0_0,.slice A0_1 l0_1.length c0_1] 26 ?_;intro gb708 hg w8 hbox hb;have q_:=f4 (za sqB hb) hbox (sqS hg:w.heap.size≤gb708) (sqS hg:w.heap.size≤gb708);clear HB;obtain ⟨HB,BK708,GW708,GE708⟩:=q_;clear hb hbox hg;obtain ⟨_,_,_,_⟩:=z2 BK708.out)|((with_reducible refine sqc 27 ?_);refine sql 6 Tryz.func27 #[.agg #[.int .i64 a0_0,.slice A0_1 l0_1.length c0_1]] ?_;(with_reducible refine (zu.calls k a0_0 _ _ l0_1 true _ ?side1 ?side2 A3.out).mono ?_);(case side1=>exact sqC (Kd.zq HR0_1.out HB.out));(case side2=>exact HC0_1.out);rintro e w10 ⟨rfl,hb⟩;refine ⟨_,rfl,?_⟩;have q_:=f2 (sqh BK708 hb) (za sqB hb);clear BK708 HB;obtain ⟨BK708,HB⟩:=q_;obtain ⟨_,_,_,_⟩:=z2 BK708.out)|(go_at_call 103;(try simp only [zA,zI]);(with_reducible refine (zM.calls a0_0 a1 true _ A5.out).mono ?_);rintro e w' ⟨rfl,⟨nd,rfl⟩⟩)|((with_reducible refine sqc 78 ?_);refine sql 17 Tryz.func78 #[.agg #[.int .i64 a0_0,.slice A0_1 l0_1.length c0_1],.int .i64 a1] ?_;(with_reducible refine (qn.calls k a0_0 _ _ l0_1 a1 t711 _ ?side1 ?side2 A7.out).mono ?_);(case side1=>exact sqC (Kd.zq HR0_1.out sqB));(case side2=>exact HC0_1.out);rintro e w12 ⟨rfl,hb⟩;refine ⟨_,rfl,?_⟩;have q_:=f2 (sqh BK708 hb) (za sqB hb);clear BK708 HB;obtain ⟨BK708,HB⟩:=q_)));go_ret;exact ⟨sqE,sqB⟩);(·obtain rfl:=sqf c6;rw [if_neg sqz] at H;obtain rfl:=Option.some.inj H;go_enter Tryz.func90,Tryz.ntmps90;(go_wp2_with (first|((with_reducible refine sqd 2 ?_);refine sqx #[.int .i64 a0_0,.slice A0_1 l0_1.length c0_1] 26 ?_;intro gb708 hg w13 hbox hb;have q_:=f4 (za sqB hb) hbox (sqS hg:w.heap.size≤gb708) (sqS hg:w.heap.size≤gb708);clear HB;obtain ⟨HB,BK708,GW708,GE708⟩:=q_;clear hb hbox hg;obtain ⟨_,_,_,_⟩:=z2 BK708.out)|((with_reducible refine sqc 27 ?_);refine sql 6 Tryz.func27 #[.agg #[.int .i64 a0_0,.slice A0_1 l0_1.length c0_1]] ?_;(with_reducible refine (zu.calls k a0_0 _ _ l0_1 true _ ?side1 ?side2 A3.out).mono ?_);(case side1=>exact sqC (Kd.zq HR0_1.out HB.out));(case side2=>exact HC0_1.out);rintro e w15 ⟨rfl,hb⟩;refine ⟨_,rfl,?_⟩;have q_:=f2 (sqh BK708 hb) (za sqB hb);clear BK708 HB;obtain ⟨BK708,HB⟩:=q_;obtain ⟨_,_,_,_⟩:=z2 BK708.out)|(go_at_call 103;(try simp only [zA,zI]);(with_reducible refine (zM.calls a0_0 a1 false _ A5.out).mono ?_);rintro e w' ⟨rfl,⟨nd,rfl⟩⟩)));go_ret;exact ⟨sqE,sqB⟩));(·obtain rfl:=sqf c4;rw [if_neg sqz] at H;obtain rfl:=Option.some.inj H;go_enter Tryz.func90,Tryz.ntmps90;(go_wp2_with (first|((with_reducible refine sqd 2 ?_);refine sqx #[.int .i64 a0_0,.slice A0_1 l0_1.length c0_1] 26 ?_;intro gb708 hg w17 hbox hb;have q_:=f4 (za sqB hb) hbox (sqS hg:w.heap.size≤gb708) (sqS hg:w.heap.size≤gb708);clear HB;obtain ⟨HB,BK708,GW708,GE708⟩:=q_;clear hb hbox hg;obtain ⟨_,_,_,_⟩:=z2 BK708.out)|((with_reducible refine sqc 27 ?_);refine sql 6 Tryz.func27 #[.agg #[.int .i64 a0_0,.slice A0_1 l0_1.length c0_1]] ?_;(with_reducible refine (zu.calls k a0_0 _ _ l0_1 false _ ?side1 ?side2 A3.out).mono ?_);(case side1=>exact sqC (Kd.zq HR0_1.out HB.out));(case side2=>exact HC0_1.out);rintro e w19 ⟨rfl,hb⟩;refine ⟨_,rfl,?_⟩;have q_:=f2 (sqh BK708 hb) (za sqB hb);clear BK708 HB;obtain ⟨BK708,HB⟩:=q_)));go_ret;exact ⟨sqE,sqB⟩)
def jc.f (k:Nat)(a0_0:Int)(l0_1:List Int)(a1:Int):Option (Int):=(ym.f k a0_0 l0_1 a1).bind fun t713=>(if t713<0 then (some (-1)) else ((z6.f k a0_0 l0_1 a1).bind fun t714=>(some t714)))
theorem jc.calls (k:Nat)(a0_0:Int)(A0_1:Option Addr)(c0_1:Nat)(l0_1:List Int)(a1:Int)(r:Int)(w:World)(hr0_1:Kd.C (Kd.int .i64) w A0_1 l0_1.length l0_1)(hc0_1:l0_1.length≤c0_1)(h:jc.f k a0_0 l0_1 a1=some r):Calls Tryz.prog 36 #[.agg #[.int .i64 a0_0,.slice A0_1 l0_1.length c0_1],.int .i64 a1] w fun e w'=>e= .returned (.int .i64 r)∧Below w.heap.size w w':=by have hu26:=Tryz.underlying26;have HR0_1:=Aside0.mk hr0_1;have HC0_1:=Aside0.mk hc0_1;clear hr0_1 hc0_1;have HB:=Aside0.mk (Below.refl w.heap.size w);have H:=h;unfold jc.f at H;clear h;replace H:=zr H;obtain ⟨t713,A3,H⟩:=H;by_cases c4:t713<0;(·rw [if_pos c4] at H;have c4b0:decide (t713<0)=true:=decide_eq_true c4;clear c4;obtain rfl:=Option.some.inj H;go_enter Tryz.func36,Tryz.ntmps36;(go_wp2_with (first|((with_reducible refine sqd 2 ?_);refine sqx #[.int .i64 a0_0,.slice A0_1 l0_1.length c0_1] 26 ?_;intro gb712 hg w5 hbox hb;have q_:=f4 (za sqB hb) hbox (sqS hg:w.heap.size≤gb712) (sqS hg:w.heap.size≤gb712);clear HB;obtain ⟨HB,BK712,GW712,GE712⟩:=q_;clear hb hbox hg;obtain ⟨_,_,_,_⟩:=z2 BK712.out)|((with_reducible refine sqc 90 ?_);refine sql 7 Tryz.func90 #[.agg #[.int .i64 a0_0,.slice A0_1 l0_1.length c0_1],.int .i64 a1] ?_;(with_reducible refine (ym.calls k a0_0 _ _ l0_1 a1 t713 _ ?side1 ?side2 A3.out).mono ?_);(case side1=>exact sqC (Kd.zq HR0_1.out HB.out));(case side2=>exact HC0_1.out);rintro e w7 ⟨rfl,hb⟩;refine ⟨_,rfl,?_⟩;have q_:=f2 (sqh BK712 hb) (za sqB hb);clear BK712 HB;obtain ⟨BK712,HB⟩:=q_)));go_ret;exact ⟨sqE,sqB⟩);(·rw [if_neg c4] at H;have c4b0:decide (t713<0)=false:=decide_eq_false c4;clear c4;replace H:=zr H;obtain ⟨t714,A8,H⟩:=H;obtain rfl:=Option.some.inj H;go_enter Tryz.func36,Tryz.ntmps36;(go_wp2_with (first|((with_reducible refine sqd 2 ?_);refine sqx #[.int .i64 a0_0,.slice A0_1 l0_1.length c0_1] 26 ?_;intro gb712 hg w9 hbox hb;have q_:=f4 (za sqB hb) hbox (sqS hg:w.heap.size≤gb712) (sqS hg:w.heap.size≤gb712);clear HB;obtain ⟨HB,BK712,GW712,GE712⟩:=q_;clear hb hbox hg;obtain ⟨_,_,_,_⟩:=z2 BK712.out)|((with_reducible refine sqc 90 ?_);refine sql 7 Tryz.func90 #[.agg #[.int .i64 a0_0,.slice A0_1 l0_1.length c0_1],.int .i64 a1] ?_;(with_reducible refine (ym.calls k a0_0 _ _ l0_1 a1 t713 _ ?side1 ?side2 A3.out).mono ?_);(case side1=>exact sqC (Kd.zq HR0_1.out HB.out));(case side2=>exact HC0_1.out);rintro e w11 ⟨rfl,hb⟩;refine ⟨_,rfl,?_⟩;have q_:=f2 (sqh BK712 hb) (za sqB hb);clear BK712 HB;obtain ⟨BK712,HB⟩:=q_;obtain ⟨_,_,_,_⟩:=z2 BK712.out)|((with_reducible refine sqc 87 ?_);refine sql 11 Tryz.func87 #[.agg #[.int .i64 a0_0,.slice A0_1 l0_1.length c0_1],.int .i64 a1] ?_;(with_reducible refine (z6.calls k a0_0 _ _ l0_1 a1 t714 _ ?side1 ?side2 A8.out).mono ?_);(case side1=>exact sqC (Kd.zq HR0_1.out HB.out));(case side2=>exact HC0_1.out);rintro e w13 ⟨rfl,hb⟩;refine ⟨_,rfl,?_⟩;have q_:=f2 (sqh BK712 hb) (za sqB hb);clear BK712 HB;obtain ⟨BK712,HB⟩:=q_)));go_ret;exact ⟨sqE,sqB⟩)
def vB.f (k:Nat)(a0_0:Int)(l0_1:List Int):Option (Bool):=(zu.f k a0_0 l0_1).bind fun t721=>(if t721=true then ((zY.f k a0_0 l0_1).bind fun t722=>(some (decide ((t722.length:Int)≤1)))) else (some false))
theorem vB.calls (k:Nat)(a0_0:Int)(A0_1:Option Addr)(c0_1:Nat)(l0_1:List Int)(r:Bool)(w:World)(hr0_1:Kd.C (Kd.int .i64) w A0_1 l0_1.length l0_1)(hc0_1:l0_1.length≤c0_1)(h:vB.f k a0_0 l0_1=some r):Calls Tryz.prog 38 #[.agg #[.int .i64 a0_0,.slice A0_1 l0_1.length c0_1]] w fun e w'=>e= .returned (.bool r)∧Below w.heap.size w w':=by have hu26:=Tryz.underlying26;have HR0_1:=Aside0.mk hr0_1;have HC0_1:=Aside0.mk hc0_1;clear hr0_1 hc0_1;have HB:=Aside0.mk (Below.refl w.heap.size w);have H:=h;unfold vB.f at H;clear h;replace H:=zr H;obtain ⟨t721,A2,H⟩:=H;by_cases c3:t721=true;(·subst c3;rw [if_pos rfl] at H;replace H:=zr H;obtain ⟨t722,A4,H⟩:=H;obtain rfl:=Option.some.inj H;go_enter Tryz.func38,Tryz.ntmps38;(go_wp2_with (first|((with_reducible refine sqd 1 ?_);(try (refine ji (by rfl) ?_;dsimp only));refine qm ?hg (N:=1) ?hd (cs:=#[.int .i64 a0_0,.slice A0_1 l0_1.length c0_1]) (t:=26) ?hr ?_;(case hd=>rfl);(case hg=>rfl);(case hr=>exact sqG);intro gb720 hg w5 hbox hb;have q_:=f4 (za sqB hb) hbox (sqS hg:w.heap.size≤gb720) (sqS hg:w.heap.size≤gb720);clear HB;obtain ⟨HB,BK720,GW720,GE720⟩:=q_;clear hb hbox hg;obtain ⟨_,_,_,_⟩:=z2 BK720.out)|((with_reducible refine sqc 27 ?_);refine sql 4 Tryz.func27 #[.agg #[.int .i64 a0_0,.slice A0_1 l0_1.length c0_1]] ?_;(with_reducible refine (zu.calls k a0_0 _ _ l0_1 true _ ?side1 ?side2 A2.out).mono ?_);(case side1=>exact sqC (Kd.zq HR0_1.out HB.out));(case side2=>exact HC0_1.out);rintro e w7 ⟨rfl,hb⟩;refine ⟨_,rfl,?_⟩;have q_:=f2 (sqh BK720 hb) (za sqB hb);clear BK720 HB;obtain ⟨BK720,HB⟩:=q_;obtain ⟨_,_,_,_⟩:=z2 BK720.out)|(go_at_call 34;(try simp only [zA,zI]);(with_reducible refine (zY.calls k a0_0 _ _ l0_1 t722 _ ?side1 ?side2 A4.out).mono ?_);(case side1=>exact sqC (Kd.zq HR0_1.out HB.out));(case side2=>exact HC0_1.out);rintro e w9 ⟨v723,rfl,ho0,hb⟩;have q_:=f3 (Kd.zw ho0 (ze sqB)) (sqh BK720 hb) (za sqB hb);clear BK720 HB;obtain ⟨HO724,BK720,HB⟩:=q_;obtain ⟨Ao10,co10,eo10⟩:=Kd.zy HO724.out;subst eo10)));go_ret;exact ⟨sqE,sqB⟩);(·obtain rfl:=sqf c3;rw [if_neg sqz] at H;obtain rfl:=Option.some.inj H;go_enter Tryz.func38,Tryz.ntmps38;(go_wp2_with (first|((with_reducible refine sqd 1 ?_);(try (refine ji (by rfl) ?_;dsimp only));refine qm ?hg (N:=1) ?hd (cs:=#[.int .i64 a0_0,.slice A0_1 l0_1.length c0_1]) (t:=26) ?hr ?_;(case hd=>rfl);(case hg=>rfl);(case hr=>exact sqG);intro gb720 hg w11 hbox hb;have q_:=f4 (za sqB hb) hbox (sqS hg:w.heap.size≤gb720) (sqS hg:w.heap.size≤gb720);clear HB;obtain ⟨HB,BK720,GW720,GE720⟩:=q_;clear hb hbox hg;obtain ⟨_,_,_,_⟩:=z2 BK720.out)|((with_reducible refine sqc 27 ?_);refine sql 4 Tryz.func27 #[.agg #[.int .i64 a0_0,.slice A0_1 l0_1.length c0_1]] ?_;(with_reducible refine (zu.calls k a0_0 _ _ l0_1 false _ ?side1 ?side2 A2.out).mono ?_);(case side1=>exact sqC (Kd.zq HR0_1.out HB.out));(case side2=>exact HC0_1.out);rintro e w13 ⟨rfl,hb⟩;refine ⟨_,rfl,?_⟩;have q_:=f2 (sqh BK720 hb) (za sqB hb);clear BK720 HB;obtain ⟨BK720,HB⟩:=q_)));go_ret;exact ⟨sqE,sqB⟩)
def jm.l0:Nat→Int→Int→Int→List Int→Option (Int)
 |0,_,_,_,_=>none
 |k+1,x3,x4,x750000,x750001=>if x4< (x750001.length:Int) then (if 0≤x4 then (jm.l0 k (wrap64 (x3 - (Go.bits .and .i64 x3 (rd x750001 x4)))) (wrap64 (x4+1)) x750000 x750001) else (none)) else (some x3)
def jm.f (k:Nat)(a0_0:Int)(l0_1:List Int):Option (Int):=(zu.f k a0_0 l0_1).bind fun t750=>(if t750=true then ((qj.f a0_0).bind fun t751=>(jm.l0 k t751 0 a0_0 l0_1)) else (some 0))
theorem jm.calls (k:Nat)(a0_0:Int)(A0_1:Option Addr)(c0_1:Nat)(l0_1:List Int)(r:Int)(w:World)(hr0_1:Kd.C (Kd.int .i64) w A0_1 l0_1.length l0_1)(hc0_1:l0_1.length≤c0_1)(h:jm.f k a0_0 l0_1=some r):Calls Tryz.prog 95 #[.agg #[.int .i64 a0_0,.slice A0_1 l0_1.length c0_1]] w fun e w'=>e= .returned (.int .i64 r)∧Below w.heap.size w w':=by have hu26:=Tryz.underlying26;have HR0_1:=Aside0.mk hr0_1;have HC0_1:=Aside0.mk hc0_1;clear hr0_1 hc0_1;have HB:=Aside0.mk (Below.refl w.heap.size w);have H:=h;unfold jm.f at H;clear h;replace H:=zr H;obtain ⟨t750,A2,H⟩:=H;by_cases c3:t750=true;(·subst c3;rw [if_pos rfl] at H;replace H:=zr H;obtain ⟨t751,A4,H⟩:=H;have H':=Aside0.mk H;clear H;go_enter Tryz.func95,Tryz.ntmps95;(go_wp2_with (first|((with_reducible refine sqd 1 ?_);refine sqx #[.int .i64 a0_0,.slice A0_1 l0_1.length c0_1] 26 ?_;intro gb749 hg w5 hbox hb;have q_:=f4 (za sqB hb) hbox (sqS hg:w.heap.size≤gb749) (sqS hg:w.heap.size≤gb749);clear HB;obtain ⟨HB,BK749,GW749,GE749⟩:=q_;clear hb hbox hg;obtain ⟨_,_,_,_⟩:=z2 BK749.out)|((with_reducible refine sqc 27 ?_);refine sql 6 Tryz.func27 #[.agg #[.int .i64 a0_0,.slice A0_1 l0_1.length c0_1]] ?_;(with_reducible refine (zu.calls k a0_0 _ _ l0_1 true _ ?side1 ?side2 A2.out).mono ?_);(case side1=>exact sqC (Kd.zq HR0_1.out HB.out));(case side2=>exact HC0_1.out);rintro e w7 ⟨rfl,hb⟩;refine ⟨_,rfl,?_⟩;have q_:=f2 (sqh BK749 hb) (za sqB hb);clear BK749 HB;obtain ⟨BK749,HB⟩:=q_;obtain ⟨_,_,_,_⟩:=z2 BK749.out)|((with_reducible refine sqc 26 ?_);refine sql 10 Tryz.func26 #[.int .i64 a0_0] ?_;(with_reducible refine (qj.calls a0_0 t751 _ A4.out).mono ?_);rintro e w' ⟨rfl,⟨nd,rfl⟩⟩;refine ⟨_,rfl,?_⟩)));(go_loopg [3,4] k (fun kq v3 v4 w'=> ∃(x3_1:Int) (x4_1:Int),v3= .int .i64 x3_1∧v4= .int .i64 x4_1∧Aside0 (jm.l0 kq x3_1 x4_1 a0_0 l0_1=some r)∧Aside0 (kq≤k)∧Aside0 (w'.heap[gb749]? =some (.cells #[.int .i64 a0_0,(.slice A0_1 l0_1.length c0_1)] 26 (0,0)))∧Aside0 (Below w.heap.size w w')));(case atStart=>exact ⟨(t751),(0),(sqD),(sqD),H',⟨Nat.le_refl _⟩,⟨sqK BK749.out⟩,⟨sqB⟩⟩);(case round=>clear H';obtain ⟨x3_1,x4_1,rfl,rfl,HA,HK1,BK749,HB⟩:=hrel;(cases gk with|zero=>exact absurd HA.out (by simp [jm.l0])|succ k1=>have H:=HA.out;clear HA;simp only [jm.l0] at H;by_cases c9:x4_1< (l0_1.length:Int);(·rw [if_pos c9] at H;have c9b0:decide (x4_1< (l0_1.length:Int))=true:=decide_eq_true c9;clear c9;obtain ⟨c10,H⟩:=qg H;have c10b0:decide (0≤x4_1)=true:=decide_eq_true c10;clear c10;have H':=Aside0.mk H;clear H;obtain ⟨_,_,_,_⟩:=z2 BK749.out;have p752:0≤(x4_1:Int):=of_decide_eq_true sqA;have q752:x4_1< (l0_1.length:Int):=of_decide_eq_true sqA;obtain ⟨ad752,e752,hx752_0⟩:=Kd.zP HR0_1.out x4_1 p752 q752;cases e752;replace hx752_0:=(HB.out.cell (World.block_lt_of_cell? w _ hx752_0)).trans hx752_0;replace p752:=eq_true p752;replace q752:=eq_true q752;go_wp2;(go_roundg k1);(case measure=>have:=HK1.out;omega);(case rel=>exact ⟨(wrap64 (x3_1 - (Go.bits .and .i64 x3_1 (rd l0_1 x4_1)))),(wrap64 (x4_1+1)),(sqD),(sqD),H',⟨by have:=HK1.out;omega⟩,⟨sqK BK749.out⟩,⟨sqB⟩⟩));(·rw [if_neg c9] at H;have c9b0:decide (x4_1< (l0_1.length:Int))=false:=decide_eq_false c9;clear c9;obtain rfl:=Option.some.inj H;obtain ⟨_,_,_,_⟩:=z2 BK749.out;go_wp2;go_ret;exact ⟨sqE,sqB⟩))));(·obtain rfl:=sqf c3;rw [if_neg sqz] at H;obtain rfl:=Option.some.inj H;go_enter Tryz.func95,Tryz.ntmps95;(go_wp2_with (first|((with_reducible refine sqd 1 ?_);refine sqx #[.int .i64 a0_0,.slice A0_1 l0_1.length c0_1] 26 ?_;intro gb749 hg w13 hbox hb;have q_:=f4 (za sqB hb) hbox (sqS hg:w.heap.size≤gb749) (sqS hg:w.heap.size≤gb749);clear HB;obtain ⟨HB,BK749,GW749,GE749⟩:=q_;clear hb hbox hg;obtain ⟨_,_,_,_⟩:=z2 BK749.out)|((with_reducible refine sqc 27 ?_);refine sql 6 Tryz.func27 #[.agg #[.int .i64 a0_0,.slice A0_1 l0_1.length c0_1]] ?_;(with_reducible refine (zu.calls k a0_0 _ _ l0_1 false _ ?side1 ?side2 A2.out).mono ?_);(case side1=>exact sqC (Kd.zq HR0_1.out HB.out));(case side2=>exact HC0_1.out);rintro e w15 ⟨rfl,hb⟩;refine ⟨_,rfl,?_⟩;have q_:=f2 (sqh BK749 hb) (za sqB hb);clear BK749 HB;obtain ⟨BK749,HB⟩:=q_)));go_ret;exact ⟨sqE,sqB⟩)
def zK.l0:Nat→List Int→Int→Int→Int→List Int→Option (List Int)
 |0,_,_,_,_,_=>none
 |k+1,x3,x4,x5,x757000,x757001=>if x5<x757000 then ((qw.f x4 x5).bind fun t765=>(if t765=true then (zK.l0 k x3 x4 (wrap64 (x5+1)) x757000 x757001) else (if 0≤(IntKind.u64.wrap (x5)) then ((qq.f k x757000 x757001 (shl .i64 1 (IntKind.u64.wrap (x5)))).bind fun t766=>(if x3.length<17592186044416 then (zK.l0 k (x3++[wrap64 (t766 - x4)]) x4 (wrap64 (x5+1)) x757000 x757001) else (none))) else (none)))) else ((zg.f k x3).bind fun t762=>(some t762))
def zK.f (k:Nat)(a0_0:Int)(l0_1:List Int):Option (List Int):=(some (([]:List Int):List Int)).bind fun y757=>((zu.f k a0_0 l0_1).bind fun t760=>(if t760=true then ((jm.f k a0_0 l0_1).bind fun t761=>(zK.l0 k y757 t761 0 a0_0 l0_1)) else (some y757)))
theorem zK.calls (k:Nat)(a0_0:Int)(A0_1:Option Addr)(c0_1:Nat)(l0_1:List Int)(r:List Int)(w:World)(hr0_1:Kd.C (Kd.int .i64) w A0_1 l0_1.length l0_1)(hc0_1:l0_1.length≤c0_1)(h:zK.f k a0_0 l0_1=some r):Calls Tryz.prog 40 #[.agg #[.int .i64 a0_0,.slice A0_1 l0_1.length c0_1]] w fun e w'=> ∃v0_:Value,e= .returned (v0_)∧Kd.R (Kd.int .i64) 3 w' w.heap.size (fun _=>True) v0_ r∧Below w.heap.size w w':=by have hu26:=Tryz.underlying26;have HR0_1:=Aside0.mk hr0_1;have HC0_1:=Aside0.mk hc0_1;clear hr0_1 hc0_1;have HB:=Aside0.mk (Below.refl w.heap.size w);have H:=h;unfold zK.f at H;clear h;obtain ⟨y757,hy757⟩: ∃y_:List Int,y_=(([]:List Int)):=⟨_,rfl⟩;replace H:((zu.f k a0_0 l0_1).bind fun t760=>(if t760=true then ((jm.f k a0_0 l0_1).bind fun t761=>(zK.l0 k y757 t761 0 a0_0 l0_1)) else (some y757)))=some r:=sqy hy757 H;have Ny757:=Aside0.mk hy757;clear hy757;replace H:=zr H;obtain ⟨t760,A2,H⟩:=H;by_cases c3:t760=true;(·subst c3;rw [if_pos rfl] at H;replace H:=zr H;obtain ⟨t761,A4,H⟩:=H;have H':=Aside0.mk H;clear H;go_enter Tryz.func40,Tryz.ntmps40;(go_wp2_with (first|((with_reducible refine sqd 1 ?_);refine sqx #[.int .i64 a0_0,.slice A0_1 l0_1.length c0_1] 26 ?_;intro gb756 hg w5 hbox hb;have q_:=f4 (za sqB hb) hbox (sqS hg:w.heap.size≤gb756) (sqS hg:w.heap.size≤gb756);clear HB;obtain ⟨HB,BK756,GW756,GE756⟩:=q_;clear hb hbox hg)|((with_reducible refine sqd 6 ?_);refine sqv ?_;intro v758 w6 ho7 hb hg_ hnew_;clear hg_ hnew_;(first|rw [←Ny757.out] at ho7|(simp only [Int.reduceToNat] at ho7;rw [←Ny757.out] at ho7));have q_:=f3 (Kd.zw ho7 (ze sqB)) (sqh BK756 hb) (za sqB hb);clear BK756 HB;obtain ⟨HO759,BK756,HB⟩:=q_;clear hb ho7;obtain ⟨_,_,_,_⟩:=z2 BK756.out)|((with_reducible refine sqc 27 ?_);refine sql 8 Tryz.func27 #[.agg #[.int .i64 a0_0,.slice A0_1 l0_1.length c0_1]] ?_;(with_reducible refine (zu.calls k a0_0 _ _ l0_1 true _ ?side1 ?side2 A2.out).mono ?_);(case side1=>exact sqC (Kd.zq HR0_1.out HB.out));(case side2=>exact HC0_1.out);rintro e w9 ⟨rfl,hb⟩;refine ⟨_,rfl,?_⟩;have q_:=f3 (sqb HO759 hb) (sqh BK756 hb) (za sqB hb);clear HO759 BK756 HB;obtain ⟨HO759,BK756,HB⟩:=q_;obtain ⟨_,_,_,_⟩:=z2 BK756.out)|((with_reducible refine sqc 95 ?_);refine sql 12 Tryz.func95 #[.agg #[.int .i64 a0_0,.slice A0_1 l0_1.length c0_1]] ?_;(with_reducible refine (jm.calls k a0_0 _ _ l0_1 t761 _ ?side1 ?side2 A4.out).mono ?_);(case side1=>exact sqC (Kd.zq HR0_1.out HB.out));(case side2=>exact HC0_1.out);rintro e w11 ⟨rfl,hb⟩;refine ⟨_,rfl,?_⟩;have q_:=f3 (sqb HO759 hb) (sqh BK756 hb) (za sqB hb);clear HO759 BK756 HB;obtain ⟨HO759,BK756,HB⟩:=q_)));(go_loopg [3,5] k (fun kq v3 v5 w'=> ∃(x3_1:List Int) (x5_1:Int),v5= .int .i64 x5_1∧Aside0 (zK.l0 kq x3_1 t761 x5_1 a0_0 l0_1=some r)∧Aside0 (kq≤k)∧Aside0 (Kd.R (Kd.int .i64) 3 w' w.heap.size (fun _=>True) v3 x3_1)∧Aside0 (w'.heap[gb756]? =some (.cells #[.int .i64 a0_0,(.slice A0_1 l0_1.length c0_1)] 26 (0,0)))∧Aside0 (Below w.heap.size w w')));(case atStart=>exact ⟨(y757),(0),(sqD),H',⟨Nat.le_refl _⟩,⟨sqR HO759.out⟩,⟨sqK BK756.out⟩,⟨sqB⟩⟩);(case round=>clear H';obtain ⟨x3_1,x5_1,rfl,HA,HK1,HO_3,BK756,HB⟩:=hrel;(cases gk with|zero=>exact absurd HA.out (by simp [zK.l0])|succ k1=>have H:=HA.out;clear HA;simp only [zK.l0] at H;by_cases c12:x5_1<a0_0;(·rw [if_pos c12] at H;have c12b0:decide (x5_1<a0_0)=true:=decide_eq_true c12;clear c12;replace H:=zr H;obtain ⟨t765,A13,H⟩:=H;by_cases c14:t765=true;(·subst c14;rw [if_pos rfl] at H;have H':=Aside0.mk H;clear H;obtain ⟨_,_,_,_⟩:=z2 BK756.out;(go_wp2_with (first|((with_reducible refine sqc 96 ?_);refine sql 21 Tryz.func96 #[.int .i64 t761,.int .i64 x5_1] ?_;(with_reducible refine (qw.calls t761 x5_1 true _ A13.out).mono ?_);rintro e w' ⟨rfl,⟨nd,rfl⟩⟩;refine ⟨_,rfl,?_⟩)));(go_roundg k1);(case measure=>have:=HK1.out;omega);(case rel=>exact ⟨(x3_1),(wrap64 (x5_1+1)),(sqD),H',⟨by have:=HK1.out;omega⟩,⟨sqR HO_3.out⟩,⟨sqK BK756.out⟩,⟨sqB⟩⟩));(·obtain rfl:=sqf c14;rw [if_neg sqz] at H;obtain ⟨ji16,hji16⟩: ∃j_:Int,(IntKind.u64.wrap (x5_1))=j_:=⟨_,rfl⟩;(replace H:(if 0≤(ji16) then ((qq.f k1 a0_0 l0_1 (shl .i64 1 (ji16))).bind fun t766=>(if x3_1.length<17592186044416 then (zK.l0 k1 (x3_1++[wrap64 (t766 - t761)]) t761 (wrap64 (x5_1+1)) a0_0 l0_1) else (none))) else (none))=some r:=by first|(rw [hji16] at H;exact H)|(simp only [hji16] at H ⊢;exact H));(try rw [hji16] at A13);obtain ⟨c17,H⟩:=qg H;have c17b0:=eq_true c17;have c17b1:decide (0≤(ji16))=true:=decide_eq_true c17;clear c17;obtain ⟨ji18,hji18⟩: ∃j_:Int,(shl .i64 1 (ji16))=j_:=⟨_,rfl⟩;(replace H:((qq.f k1 a0_0 l0_1 (ji18)).bind fun t766=>(if x3_1.length<17592186044416 then (zK.l0 k1 (x3_1++[wrap64 (t766 - t761)]) t761 (wrap64 (x5_1+1)) a0_0 l0_1) else (none)))=some r:=by first|(rw [hji18] at H;exact H)|(simp only [hji18] at H ⊢;exact H));(try rw [hji18] at A13);have hji18_:(IntKind.i64.wrap (1*2 ^min (ji16).toNat 64))=ji18:=hji18;have hji18z:(ji16)≤64→(IntKind.i64.wrap (1*2 ^(ji16).toNat))=ji18:=vo hji18;(have hji18u:(IntKind.i64.wrap (2 ^min (ji16).toNat 64))=ji18:=by have h_:=hji18_;rw [Int.one_mul] at h_;exact h_);(have hji18v:(ji16)≤64→(IntKind.i64.wrap (2 ^(ji16).toNat))=ji18:=fun hle_=>by have h_:=hji18z hle_;rw [Int.one_mul] at h_;exact h_);have hji18y:(wrap64 (1*2 ^min (ji16).toNat 64))=ji18:=(zA _).symm.trans hji18_;have hji18x:(ji16)≤64→(wrap64 (1*2 ^(ji16).toNat))=ji18:=fun h_=>(zA _).symm.trans (hji18z h_);replace H:=zr H;obtain ⟨t766,A19,H⟩:=H;obtain ⟨c20,H⟩:=qg H;have LMc20:=Aside0.mk c20;clear c20;obtain ⟨y767,hy767⟩: ∃y_:List Int,y_=(x3_1++[wrap64 (t766 - t761)]):=⟨_,rfl⟩;replace H:(zK.l0 k1 y767 t761 (wrap64 (x5_1+1)) a0_0 l0_1)=some r:=sqy hy767 H;have Ny767:=Aside0.mk hy767;clear hy767;have H':=Aside0.mk H;clear H;obtain ⟨_,_,_,_⟩:=z2 BK756.out;(go_wp2_with (first|((with_reducible refine sqc 96 ?_);refine sql 21 Tryz.func96 #[.int .i64 t761,.int .i64 x5_1] ?_;(with_reducible refine (qw.calls t761 x5_1 false _ A13.out).mono ?_);rintro e w' ⟨rfl,⟨nd,rfl⟩⟩;refine ⟨_,rfl,?_⟩)|((with_reducible refine sqc 97 ?_);refine vV (some 28) rfl rfl Tryz.func97 (by kernel_rfl) rfl #[.agg #[.int .i64 a0_0,.slice A0_1 l0_1.length c0_1],.int .i64 ji18] rfl (by (try simp only [List.map_toArray,List.map_cons,List.map_nil]);first|done|(simp only [hji18];rfl)|rfl|(simp only [List.length_drop,List.length_take];rfl)) ?_;(with_reducible refine (qq.calls k1 a0_0 _ _ l0_1 ji18 t766 _ ?side1 ?side2 A19.out).mono ?_);(case side1=>exact sqC (Kd.zq HR0_1.out sqB));(case side2=>exact HC0_1.out);rintro e w22 ⟨rfl,hb⟩;refine ⟨_,rfl,?_⟩;have q_:=f3 (sqb HO_3 hb) (sqh BK756 hb) (za sqB hb);clear HO_3 BK756 HB;obtain ⟨HO_3,BK756,HB⟩:=q_)|((with_reducible refine qy (b:= .append) (xs:=#[.tmp 23,.tmp 31]) rfl ?_);at_builtin;refine Kd.jR (Kd.int .i64) (w0:=w) w.heap.size rfl (.tmp 23) (.tmp 31) 24 3 (.int .i64 0) 8 rfl Tryz.underlying24 j8 rfl (by decide) (by omega) u3 x3_1 (wrap64 (t766 - t761)) [.int .i64 (wrap64 (t766 - t761))] (fun _=>True) (fun _=>False) rfl rfl ?aP (fun _ hk=>hk.elim) ?aF ?aO ?aB ?aS ?aL ?_;(case aP=>exact rfl);(case aB=>exact sqB);(case aF=>exact (fun _ _=>trivial));(case aO=>exact (sqR HO_3.out));(case aS=>exact (ze sqB));(case aL=>have:=LMc20.out;omega);intro v768 w23 ho hb hg hat;rw [←Ny767.out] at ho;have q_:=f3 (jj (sqK BK756.out) hg (Kd.Zs HO_3.out BK756.out (by decide))) hb ho;clear BK756 HB HO_3;obtain ⟨BK756,HB,HO769⟩:=q_;clear ho hb hg hat)));(go_roundg k1);(case measure=>have:=HK1.out;omega);(case rel=>exact ⟨(y767),(wrap64 (x5_1+1)),(sqD),H',⟨by have:=HK1.out;omega⟩,⟨sqR HO769.out⟩,⟨sqK BK756.out⟩,⟨sqB⟩⟩)));(·rw [if_neg c12] at H;have c12b0:decide (x5_1<a0_0)=false:=decide_eq_false c12;clear c12;replace H:=zr H;obtain ⟨t762,A24,H⟩:=H;obtain rfl:=Option.some.inj H;obtain ⟨_,_,_,_⟩:=z2 BK756.out;obtain ⟨Ao26,co26,eo26⟩:=Kd.zy HO_3.out;subst eo26;(go_wp2_with (first|((with_reducible refine sqc 82 ?_);refine sql 34 Tryz.func82 #[.slice Ao26 x3_1.length co26] ?_;(with_reducible refine (zg.calls k1 _ _ x3_1 t762 _ ?side1 ?side2 A24.out).mono ?_);(case side1=>exact sqC (Kd.zc HO_3.out).2.2);(case side2=>exact (Kd.zc HO_3.out).2.1);rintro e w27 ⟨v763,rfl,ho0,hb⟩;refine ⟨_,rfl,?_⟩;have q_:=f4 (sqe HO_3 (Kd.zC ho0) hb) (Kd.zw (Kd.zD ho0 (Kd.qa (sqR HO_3.out))) (ze sqB)) (sqh BK756 hb) (za sqB hb);clear HO_3 BK756 HB;obtain ⟨HO_3,HO764,BK756,HB⟩:=q_)));go_ret;exact ⟨_,sqE,by refine sqR ?_;exact Kd.zo HO764.out (fun _ hk=>trivial),sqB⟩))));(·obtain rfl:=sqf c3;rw [if_neg sqz] at H;obtain rfl:=Option.some.inj H;go_enter Tryz.func40,Tryz.ntmps40;(go_wp2_with (first|((with_reducible refine sqd 1 ?_);refine sqx #[.int .i64 a0_0,.slice A0_1 l0_1.length c0_1] 26 ?_;intro gb756 hg w28 hbox hb;have q_:=f4 (za sqB hb) hbox (sqS hg:w.heap.size≤gb756) (sqS hg:w.heap.size≤gb756);clear HB;obtain ⟨HB,BK756,GW756,GE756⟩:=q_;clear hb hbox hg)|((with_reducible refine sqd 6 ?_);refine sqv ?_;intro v758 w29 ho30 hb hg_ hnew_;clear hg_ hnew_;(first|rw [←Ny757.out] at ho30|(simp only [Int.reduceToNat] at ho30;rw [←Ny757.out] at ho30));have q_:=f3 (Kd.zw ho30 (ze sqB)) (sqh BK756 hb) (za sqB hb);clear BK756 HB;obtain ⟨HO759,BK756,HB⟩:=q_;clear hb ho30;obtain ⟨_,_,_,_⟩:=z2 BK756.out)|((with_reducible refine sqc 27 ?_);refine sql 8 Tryz.func27 #[.agg #[.int .i64 a0_0,.slice A0_1 l0_1.length c0_1]] ?_;(with_reducible refine (zu.calls k a0_0 _ _ l0_1 false _ ?side1 ?side2 A2.out).mono ?_);(case side1=>exact sqC (Kd.zq HR0_1.out HB.out));(case side2=>exact HC0_1.out);rintro e w32 ⟨rfl,hb⟩;refine ⟨_,rfl,?_⟩;have q_:=f3 (sqb HO759 hb) (sqh BK756 hb) (za sqB hb);clear HO759 BK756 HB;obtain ⟨HO759,BK756,HB⟩:=q_)));go_ret;exact ⟨_,sqE,sqR HO759.out,sqB⟩)
def q8.f (k:Nat)(a0_0:Int)(l0_1:List Int):Option (Int×List Int):=(zu.f k a0_0 l0_1).bind fun t814=>(if t814=true then ((zz.f k a0_0 l0_1).bind fun t815=>(some (a0_0,t815))) else (some (0,([]:List Int))))
def q8.T3:Bool×List (List Nat×List Nat):=(true,[([],[]),([0],[0]),([],[]),([2],[2]),([],[]),([4],[4]),([3,5],[3,5]),([1,6],[1,6]),([7,6,0,1,2,3,4,5,6,7],[7])])
def q8.B3:List Nat:=[0,1,0,4,0,16,60,127,255]
theorem q8.zaF:yo .any (opsOf Tryz.f46 3)=q8.T3:=by kernel_rfl
theorem q8.VM:vu q8.T3.2 q8.B3=true:=by kernel_rfl
theorem q8.calls (k:Nat)(a0_0:Int)(A0_1:Option Addr)(c0_1:Nat)(l0_1:List Int)(r1:Int)(r2:List Int)(w:World)(hr0_1:Kd.C (Kd.int .i64) w A0_1 l0_1.length l0_1)(hc0_1:l0_1.length≤c0_1)(h:q8.f k a0_0 l0_1=some (r1,r2)):Calls Tryz.prog 46 #[.agg #[.int .i64 a0_0,.slice A0_1 l0_1.length c0_1]] w fun e w'=> ∃v1_:Value,e= .returned (.agg #[.int .i64 r1,v1_])∧Kd.R (Kd.int .i64) 3 w' w.heap.size (fun _=>True) v1_ r2∧Below w.heap.size w w':=by have hu26:=Tryz.underlying26;have HR0_1:=Aside0.mk hr0_1;have HC0_1:=Aside0.mk hc0_1;clear hr0_1 hc0_1;have HB:=Aside0.mk (Below.refl w.heap.size w);have H:=h;unfold q8.f at H;clear h;replace H:=zr H;obtain ⟨t814,A2,H⟩:=H;by_cases c3:t814=true;(·subst c3;rw [if_pos rfl] at H;replace H:=zr H;obtain ⟨t815,A4,H⟩:=H;simp only [Option.some.injEq,Prod.mk.injEq] at H;obtain ⟨rfl,rfl⟩:=H;go_enter Tryz.func46,Tryz.ntmps46;(try go_wp2_with (first|((with_reducible refine sqd 1 ?_);refine sqx #[.int .i64 a0_0,.slice A0_1 l0_1.length c0_1] 26 ?_;intro gb812 hg w5 hbox hb;have q_:=f4 (za sqB hb) hbox (sqS hg:w.heap.size≤gb812) (sqS hg:w.heap.size≤gb812);clear HB;obtain ⟨HB,BK812,GW812,GE812⟩:=q_;clear hb hbox hg)|((with_reducible refine sqd 2 ?_);refine sqx #[.int .i64 0,.slice none 0 0] 26 ?_;intro gb813 hg w6 hbox hb;have q_:=f7 (sqh BK812 hb) (za sqB hb) hbox (sqS hg:w.heap.size≤gb813) (sqS hg:w.heap.size≤gb813) (sqn BK812 hg) (sqm BK812 hg);clear BK812 HB;obtain ⟨BK812,HB,BK813,GW813,GE813,NB812_813,NB813_812⟩:=q_;clear hb hbox hg;have hnb7:=NB812_813.out;have hnc7:=NB813_812.out;obtain ⟨_,_,_,_⟩:=z2 BK812.out)|((with_reducible refine sqc 27 ?_);refine sql 4 Tryz.func27 #[.agg #[.int .i64 a0_0,.slice A0_1 l0_1.length c0_1]] ?_;(with_reducible refine (zu.calls k a0_0 _ _ l0_1 true _ ?side1 ?side2 A2.out).mono ?_);(case side1=>exact sqC (Kd.zq HR0_1.out HB.out));(case side2=>exact HC0_1.out);rintro e w9 ⟨rfl,hb⟩;refine ⟨_,rfl,?_⟩;have q_:=f3 (sqh BK812 hb) (sqh BK813 hb) (za sqB hb);clear BK812 BK813 HB;obtain ⟨BK812,BK813,HB⟩:=q_)));have q_:=f3 (zO BK812.out) (zO BK813.out) (zN HB.out);clear BK812 BK813 HB;obtain ⟨BK812,BK813,HB⟩:=q_;refine vl (n:=9) (S:=fun w'=>w'.cell? ⟨gb812,0,none⟩=some (.int .i64 a0_0)∧w'.cell? ⟨gb812,1,none⟩=some (.slice A0_1 l0_1.length c0_1)) (ds:=[]) #[false,false,false,false,false,false,false,false,false] (by kernel_rfl) rfl rfl tH (fun hHeld=> ?_);refine qY q8.zaF q8.VM (fun HT_ HW_=> ?_);generalize w9.drew=w10 at BK812 BK813 HB hHeld ⊢;refine tP 0 (some 7) ?_;refine tP 2 (some 9) ?_;refine tP 4 (some 11) ?_;refine tT 1 (some 8) ?_;refine tT 3 (some 10) ?_;refine tT 5 (some 12) ?_;refine tO 6 (some 13) fun K hK=> ?_;refine sqg Tryz.func101 #[.int .i64 a0_0,.slice A0_1 l0_1.length c0_1] ?_;(with_reducible refine (zz.calls k a0_0 _ _ l0_1 t815 _ ?side1 ?side2 A4.out).mono ?_);(case side1=>exact sqC (Kd.zq HR0_1.out HB.out));(case side2=>exact HC0_1.out);rintro e w11 ⟨v816,rfl,ho0,hb⟩;refine ⟨_,rfl,?_⟩;have q_:=f4 (Kd.zw ho0 (ze sqB)) (sqh BK812 hb) (sqh BK813 hb) (za sqB hb);clear BK812 BK813 HB;obtain ⟨HO817,BK812,BK813,HB⟩:=q_;obtain ⟨Ao12,co12,eo12⟩:=Kd.zy HO817.out;(first|subst eo12|(injection eo12 with f1_ f2_ f3_;have f4_:=f1_.symm;have f5_:=f3_.symm;clear f1_ f2_ f3_;subst f4_;subst f5_));refine hK.out _ _ tH (fun hHeld=> ?_);clear hK K;refine tN 13 (h:= ?_);refine tP 7 (some 14) ?_;refine tO 8 none fun K hK=> ?_;have hs13:w11.cell? ⟨gb813,0,none⟩=some (.int .i64 0):=(zf BK813.out 0).trans rfl;have hfs13:=zk BK813.out 0;have hns13_0:=NB812_813.out;have hms13_0:=NB813_812.out;have hs14:w11.cell? ⟨gb813,1,none⟩=some (.slice none 0 0):=(zf BK813.out 1).trans rfl;have hfs14:=zk BK813.out 1;have hns14_0:=NB812_813.out;have hms14_0:=NB813_812.out;refine tK (h:= ?_);refine hK.out _ _ ⟨((cell_far (p:=⟨gb813,_,none⟩) NB812_813.out _).trans (((cell_far (p:=⟨gb813,_,none⟩) NB812_813.out _).trans (hHeld.1)))),((cell_far (p:=⟨gb813,_,none⟩) NB812_813.out _).trans (((cell_far (p:=⟨gb813,_,none⟩) NB812_813.out _).trans (hHeld.2))))⟩ (fun hHeld=> ?_);clear hK K;refine ya (jG HT_.out (by kernel_rfl)) ?_;(try go_wp2);refine bodyPost_ret (results_cell_row rfl _ _ gb813 26 #[.int .i64 a0_0,.slice Ao12 t815.length co12] (0,0) _ rfl (by refine sqK ?_;refine zp (cs:=#[.int .i64 a0_0,.slice none 0 0]) ?_ 1 _ rfl;refine sqK ?_;refine zp (cs:=#[.int .i64 0,.slice none 0 0]) ?_ 0 _ rfl;refine sqK ?_;exact BK813.out) Tryz.underlying26 rfl (by kernel_rfl)) rfl ?_;exact ⟨_,sqE,by refine sqR ?_;exact Kd.zo (Kd.zS (p:=⟨gb813,1,none⟩) (Kd.zS (p:=⟨gb813,0,none⟩) (Kd.zV HO817.out BK813.out (by decide)) (fun _ hk=>hk.2) (.int .i64 a0_0)) (fun _ hk=>hk.2) (.slice Ao12 t815.length co12)) (fun _ hk=>trivial),sqB⟩);(·obtain rfl:=sqf c3;rw [if_neg sqz] at H;simp only [Option.some.injEq,Prod.mk.injEq] at H;obtain ⟨rfl,rfl⟩:=H;go_enter Tryz.func46,Tryz.ntmps46;(go_wp2_with (first|((with_reducible refine sqd 1 ?_);refine sqx #[.int .i64 a0_0,.slice A0_1 l0_1.length c0_1] 26 ?_;intro gb812 hg w15 hbox hb;have q_:=f4 (za sqB hb) hbox (sqS hg:w.heap.size≤gb812) (sqS hg:w.heap.size≤gb812);clear HB;obtain ⟨HB,BK812,GW812,GE812⟩:=q_;clear hb hbox hg)|((with_reducible refine sqd 2 ?_);refine sqx #[.int .i64 0,.slice none 0 0] 26 ?_;intro gb813 hg w16 hbox hb;have q_:=f7 (sqh BK812 hb) (za sqB hb) hbox (sqS hg:w.heap.size≤gb813) (sqS hg:w.heap.size≤gb813) (sqn BK812 hg) (sqm BK812 hg);clear BK812 HB;obtain ⟨BK812,HB,BK813,GW813,GE813,NB812_813,NB813_812⟩:=q_;clear hb hbox hg;have hnb17:=NB812_813.out;have hnc17:=NB813_812.out;obtain ⟨_,_,_,_⟩:=z2 BK812.out)|((with_reducible refine sqc 27 ?_);refine sql 4 Tryz.func27 #[.agg #[.int .i64 a0_0,.slice A0_1 l0_1.length c0_1]] ?_;(with_reducible refine (zu.calls k a0_0 _ _ l0_1 false _ ?side1 ?side2 A2.out).mono ?_);(case side1=>exact sqC (Kd.zq HR0_1.out HB.out));(case side2=>exact HC0_1.out);rintro e w19 ⟨rfl,hb⟩;refine ⟨_,rfl,?_⟩;have q_:=f3 (sqh BK812 hb) (sqh BK813 hb) (za sqB hb);clear BK812 BK813 HB;obtain ⟨BK812,BK813,HB⟩:=q_;obtain ⟨_,_,_,_⟩:=z2 BK813.out)));refine bodyPost_ret (results_cell_row rfl _ _ gb813 26 #[.int .i64 0,.slice none 0 0] (0,0) _ rfl (by refine sqK ?_;refine zp (cs:=#[.int .i64 0,.slice none 0 0]) ?_ 1 _ rfl;refine sqK ?_;refine zp (cs:=#[.int .i64 0,.slice none 0 0]) ?_ 0 _ rfl;refine sqK ?_;exact BK813.out) Tryz.underlying26 rfl (by kernel_rfl)) rfl ?_;exact ⟨_,sqE,sqN,sqB⟩)
def jV.f (k:Nat)(a0_0:Int)(l0_1:List Int):Option (List Int):=(q8.f k a0_0 l0_1).bind fun bt819=>((zK.f k bt819.1 bt819.2).bind fun t823=>(some t823))
theorem jV.calls (k:Nat)(a0_0:Int)(A0_1:Option Addr)(c0_1:Nat)(l0_1:List Int)(r:List Int)(w:World)(hr0_1:Kd.C (Kd.int .i64) w A0_1 l0_1.length l0_1)(hc0_1:l0_1.length≤c0_1)(h:jV.f k a0_0 l0_1=some r):Calls Tryz.prog 42 #[.agg #[.int .i64 a0_0,.slice A0_1 l0_1.length c0_1]] w fun e w'=> ∃v0_:Value,e= .returned (v0_)∧Kd.R (Kd.int .i64) 3 w' w.heap.size (fun _=>True) v0_ r∧Below w.heap.size w w':=by have hu26:=Tryz.underlying26;have HR0_1:=Aside0.mk hr0_1;have HC0_1:=Aside0.mk hc0_1;clear hr0_1 hc0_1;have HB:=Aside0.mk (Below.refl w.heap.size w);have H:=h;unfold jV.f at H;clear h;replace H:=zr H;obtain ⟨⟨t819,t820⟩,A2,H⟩:=H;(try dsimp only at H);replace H:=zr H;obtain ⟨t823,A3,H⟩:=H;obtain rfl:=Option.some.inj H;go_enter Tryz.func42,Tryz.ntmps42;(go_wp2_with (first|((with_reducible refine sqd 1 ?_);refine sqx #[.int .i64 a0_0,.slice A0_1 l0_1.length c0_1] 26 ?_;intro gb818 hg w4 hbox hb;have q_:=f4 (za sqB hb) hbox (sqS hg:w.heap.size≤gb818) (sqS hg:w.heap.size≤gb818);clear HB;obtain ⟨HB,BK818,GW818,GE818⟩:=q_;clear hb hbox hg;obtain ⟨_,_,_,_⟩:=z2 BK818.out)|((with_reducible refine sqc 46 ?_);refine sql 4 Tryz.func46 #[.agg #[.int .i64 a0_0,.slice A0_1 l0_1.length c0_1]] ?_;(with_reducible refine (q8.calls k a0_0 _ _ l0_1 t819 t820 _ ?side1 ?side2 A2.out).mono ?_);(case side1=>exact sqC (Kd.zq HR0_1.out HB.out));(case side2=>exact HC0_1.out);rintro e w6 ⟨v821,rfl,ho0,hb⟩;refine ⟨_,rfl,?_⟩;have q_:=f3 (Kd.zw ho0 (ze sqB)) (sqh BK818 hb) (za sqB hb);clear BK818 HB;obtain ⟨HO822,BK818,HB⟩:=q_;obtain ⟨Ao7,co7,eo7⟩:=Kd.zy HO822.out;subst eo7)|((with_reducible refine sqc 40 ?_);refine sql 5 Tryz.func40 #[.agg #[.int .i64 t819,.slice Ao7 t820.length co7]] ?_;(with_reducible refine (zK.calls k t819 _ _ t820 t823 _ ?side1 ?side2 A3.out).mono ?_);(case side1=>exact sqC (Kd.zc HO822.out).2.2);(case side2=>exact (Kd.zc HO822.out).2.1);rintro e w8 ⟨v824,rfl,ho0,hb⟩;refine ⟨_,rfl,?_⟩;have q_:=f4 (sqe HO822 (Kd.zC ho0) hb) (Kd.zw (Kd.zD ho0 (Kd.qa (sqR HO822.out))) (ze sqB)) (sqh BK818 hb) (za sqB hb);clear HO822 BK818 HB;obtain ⟨HO822,HO825,BK818,HB⟩:=q_)));go_ret;exact ⟨_,sqE,by refine sqR ?_;exact Kd.zo HO825.out (fun _ hk=>trivial),sqB⟩
def vC.f (k:Nat)(a0_0:Int)(l0_1:List Int):Option (List Int):=(zu.f k a0_0 l0_1).bind fun t840=>(if t840=true then ((qC.f k a0_0 l0_1).bind fun t841=>(some t841)) else (some (([]:List Int))))
theorem vC.calls (k:Nat)(a0_0:Int)(A0_1:Option Addr)(c0_1:Nat)(l0_1:List Int)(r:List Int)(w:World)(hr0_1:Kd.C (Kd.int .i64) w A0_1 l0_1.length l0_1)(hc0_1:l0_1.length≤c0_1)(h:vC.f k a0_0 l0_1=some r):Calls Tryz.prog 47 #[.agg #[.int .i64 a0_0,.slice A0_1 l0_1.length c0_1]] w fun e w'=> ∃v0_:Value,e= .returned (v0_)∧Kd.R (Kd.int .i64) 3 w' w.heap.size (fun _=>True) v0_ r∧Below w.heap.size w w':=by have hu26:=Tryz.underlying26;have HR0_1:=Aside0.mk hr0_1;have HC0_1:=Aside0.mk hc0_1;clear hr0_1 hc0_1;have HB:=Aside0.mk (Below.refl w.heap.size w);have H:=h;unfold vC.f at H;clear h;replace H:=zr H;obtain ⟨t840,A2,H⟩:=H;by_cases c3:t840=true;(·subst c3;rw [if_pos rfl] at H;replace H:=zr H;obtain ⟨t841,A4,H⟩:=H;obtain rfl:=Option.some.inj H;go_enter Tryz.func47,Tryz.ntmps47;(go_wp2_with (first|((with_reducible refine sqd 1 ?_);refine sqx #[.int .i64 a0_0,.slice A0_1 l0_1.length c0_1] 26 ?_;intro gb839 hg w5 hbox hb;have q_:=f4 (za sqB hb) hbox (sqS hg:w.heap.size≤gb839) (sqS hg:w.heap.size≤gb839);clear HB;obtain ⟨HB,BK839,GW839,GE839⟩:=q_;clear hb hbox hg;obtain ⟨_,_,_,_⟩:=z2 BK839.out)|((with_reducible refine sqc 27 ?_);refine sql 4 Tryz.func27 #[.agg #[.int .i64 a0_0,.slice A0_1 l0_1.length c0_1]] ?_;(with_reducible refine (zu.calls k a0_0 _ _ l0_1 true _ ?side1 ?side2 A2.out).mono ?_);(case side1=>exact sqC (Kd.zq HR0_1.out HB.out));(case side2=>exact HC0_1.out);rintro e w7 ⟨rfl,hb⟩;refine ⟨_,rfl,?_⟩;have q_:=f2 (sqh BK839 hb) (za sqB hb);clear BK839 HB;obtain ⟨BK839,HB⟩:=q_;obtain ⟨_,_,_,_⟩:=z2 BK839.out)|((with_reducible refine sqc 102 ?_);refine sql 8 Tryz.func102 #[.agg #[.int .i64 a0_0,.slice A0_1 l0_1.length c0_1]] ?_;(with_reducible refine (qC.calls k a0_0 _ _ l0_1 t841 _ ?side1 ?side2 A4.out).mono ?_);(case side1=>exact sqC (Kd.zq HR0_1.out HB.out));(case side2=>exact HC0_1.out);rintro e w9 ⟨v842,rfl,ho0,hb⟩;refine ⟨_,rfl,?_⟩;have q_:=f3 (Kd.zw ho0 (ze sqB)) (sqh BK839 hb) (za sqB hb);clear BK839 HB;obtain ⟨HO843,BK839,HB⟩:=q_)));go_ret;exact ⟨_,sqE,sqR HO843.out,sqB⟩);(·obtain rfl:=sqf c3;rw [if_neg sqz] at H;obtain ⟨y844,hy844⟩: ∃y_:List Int,y_=(([]:List Int)):=⟨_,rfl⟩;replace H:(some y844)=some r:=sqy hy844 H;have Ny844:=Aside0.mk hy844;clear hy844;obtain rfl:=Option.some.inj H;go_enter Tryz.func47,Tryz.ntmps47;(go_wp2_with (first|((with_reducible refine sqd 1 ?_);refine sqx #[.int .i64 a0_0,.slice A0_1 l0_1.length c0_1] 26 ?_;intro gb839 hg w10 hbox hb;have q_:=f4 (za sqB hb) hbox (sqS hg:w.heap.size≤gb839) (sqS hg:w.heap.size≤gb839);clear HB;obtain ⟨HB,BK839,GW839,GE839⟩:=q_;clear hb hbox hg;obtain ⟨_,_,_,_⟩:=z2 BK839.out)|((with_reducible refine sqc 27 ?_);refine sql 4 Tryz.func27 #[.agg #[.int .i64 a0_0,.slice A0_1 l0_1.length c0_1]] ?_;(with_reducible refine (zu.calls k a0_0 _ _ l0_1 false _ ?side1 ?side2 A2.out).mono ?_);(case side1=>exact sqC (Kd.zq HR0_1.out HB.out));(case side2=>exact HC0_1.out);rintro e w12 ⟨rfl,hb⟩;refine ⟨_,rfl,?_⟩;have q_:=f2 (sqh BK839 hb) (za sqB hb);clear BK839 HB;obtain ⟨BK839,HB⟩:=q_)|((with_reducible refine sqd 6 ?_);refine sqv ?_;intro v845 w13 ho14 hb hg_ hnew_;clear hg_ hnew_;(first|rw [←Ny844.out] at ho14|(simp only [Int.reduceToNat] at ho14;rw [←Ny844.out] at ho14));have q_:=f3 (Kd.zw ho14 (ze sqB)) (sqh BK839 hb) (za sqB hb);clear BK839 HB;obtain ⟨HO846,BK839,HB⟩:=q_;clear hb ho14)));go_ret;exact ⟨_,sqE,sqR HO846.out,sqB⟩)
def qW.l0:Nat→List Int→Int→Int→Option (Int)
 |0,_,_,_=>none
 |k+1,x3,x4,x5=>if x5< (x3.length:Int) then (if 0≤x5 then ((zZ.f k (rd x3 x5)).bind fun t852=>(if x4=0 then (qW.l0 k x3 t852 (wrap64 (x5+1))) else (if t852<x4 then (qW.l0 k x3 t852 (wrap64 (x5+1))) else (qW.l0 k x3 x4 (wrap64 (x5+1)))))) else (none)) else (some x4)
def qW.f (k:Nat)(a0_0:Int)(l0_1:List Int):Option (Int):=(vC.f k a0_0 l0_1).bind fun t848=>(qW.l0 k t848 0 0)
theorem qW.calls (k:Nat)(a0_0:Int)(A0_1:Option Addr)(c0_1:Nat)(l0_1:List Int)(r:Int)(w:World)(hr0_1:Kd.C (Kd.int .i64) w A0_1 l0_1.length l0_1)(hc0_1:l0_1.length≤c0_1)(h:qW.f k a0_0 l0_1=some r):Calls Tryz.prog 100 #[.agg #[.int .i64 a0_0,.slice A0_1 l0_1.length c0_1]] w fun e w'=>e= .returned (.int .i64 r)∧Below w.heap.size w w':=by have hu26:=Tryz.underlying26;have HR0_1:=Aside0.mk hr0_1;have HC0_1:=Aside0.mk hc0_1;clear hr0_1 hc0_1;have HB:=Aside0.mk (Below.refl w.heap.size w);have H:=h;unfold qW.f at H;clear h;replace H:=zr H;obtain ⟨t848,A2,H⟩:=H;have H':=Aside0.mk H;clear H;go_enter Tryz.func100,Tryz.ntmps100;(go_wp2_with (first|((with_reducible refine sqd 1 ?_);refine sqx #[.int .i64 a0_0,.slice A0_1 l0_1.length c0_1] 26 ?_;intro gb847 hg w3 hbox hb;have q_:=f4 (za sqB hb) hbox (sqS hg:w.heap.size≤gb847) (sqS hg:w.heap.size≤gb847);clear HB;obtain ⟨HB,BK847,GW847,GE847⟩:=q_;clear hb hbox hg;obtain ⟨_,_,_,_⟩:=z2 BK847.out)|((with_reducible refine sqc 47 ?_);refine sql 8 Tryz.func47 #[.agg #[.int .i64 a0_0,.slice A0_1 l0_1.length c0_1]] ?_;(with_reducible refine (vC.calls k a0_0 _ _ l0_1 t848 _ ?side1 ?side2 A2.out).mono ?_);(case side1=>exact sqC (Kd.zq HR0_1.out HB.out));(case side2=>exact HC0_1.out);rintro e w5 ⟨v849,rfl,ho0,hb⟩;refine ⟨_,rfl,?_⟩;have q_:=f3 (Kd.zw ho0 (ze sqB)) (sqh BK847 hb) (za sqB hb);clear BK847 HB;obtain ⟨HO850,BK847,HB⟩:=q_)));(go_loopg [4,5] k (fun kq v4 v5 w'=> ∃(x4_1:Int) (x5_1:Int),v4= .int .i64 x4_1∧v5= .int .i64 x5_1∧Aside0 (qW.l0 kq t848 x4_1 x5_1=some r)∧Aside0 (kq≤k)∧Aside0 (Kd.R (Kd.int .i64) 3 w' w.heap.size (fun _=>True) v849 t848)∧Aside0 (w'.heap[gb847]? =some (.cells #[.int .i64 a0_0,(.slice A0_1 l0_1.length c0_1)] 26 (0,0)))∧Aside0 (Below w.heap.size w w')));(case atStart=>exact ⟨(0),(0),(sqD),(sqD),H',⟨Nat.le_refl _⟩,⟨sqR HO850.out⟩,⟨sqK BK847.out⟩,⟨sqB⟩⟩);(case round=>clear H';obtain ⟨x4_1,x5_1,rfl,rfl,HA,HK1,HO_3,BK847,HB⟩:=hrel;(cases gk with|zero=>exact absurd HA.out (by simp [qW.l0])|succ k1=>have H:=HA.out;clear HA;simp only [qW.l0] at H;by_cases c6:x5_1< (t848.length:Int);(·rw [if_pos c6] at H;have c6b0:decide (x5_1< (t848.length:Int))=true:=decide_eq_true c6;clear c6;obtain ⟨c7,H⟩:=qg H;have c7b0:decide (0≤x5_1)=true:=decide_eq_true c7;clear c7;replace H:=zr H;obtain ⟨t852,A8,H⟩:=H;by_cases c9:x4_1=0;(·rw [if_pos c9] at H;have c9b0:(x4_1==0)=true:=beq_iff_eq.mpr c9;have c9b1:(x4_1 != 0)=false:=bne_eq_false_iff_eq.mpr c9;clear c9;have H':=Aside0.mk H;clear H;obtain ⟨Ao10,co10,eo10⟩:=Kd.zy HO_3.out;subst eo10;have p851:0≤(x5_1:Int):=of_decide_eq_true sqA;have q851:x5_1< (t848.length:Int):=of_decide_eq_true sqA;obtain ⟨ad851,e851,hx851_0⟩:=Kd.zP (Kd.zc HO_3.out).2.2 x5_1 p851 q851;cases e851;replace p851:=eq_true p851;replace q851:=eq_true q851;(go_wp2_with (first|((with_reducible refine sqc 76 ?_);refine sql 19 Tryz.func76 #[.int .i64 (rd t848 x5_1)] ?_;(with_reducible refine (zZ.calls k1 (rd t848 x5_1) t852 _ A8.out).mono ?_);rintro e w' ⟨rfl,⟨nd,rfl⟩⟩;refine ⟨_,rfl,?_⟩)));(go_roundg k1);(case measure=>have:=HK1.out;omega);(case rel=>exact ⟨(t852),(wrap64 (x5_1+1)),(sqD),(sqD),H',⟨by have:=HK1.out;omega⟩,⟨sqR HO_3.out⟩,⟨sqK BK847.out⟩,⟨sqB⟩⟩));(·rw [if_neg c9] at H;have c9b0:(x4_1==0)=false:=beq_eq_false_iff_ne.mpr c9;have c9b1:(x4_1 != 0)=true:=bne_iff_ne.mpr c9;by_cases c11:t852<x4_1;(·rw [if_pos c11] at H;have c11b0:decide (t852<x4_1)=true:=decide_eq_true c11;clear c11;have H':=Aside0.mk H;clear H;obtain ⟨Ao12,co12,eo12⟩:=Kd.zy HO_3.out;subst eo12;have p851:0≤(x5_1:Int):=of_decide_eq_true sqA;have q851:x5_1< (t848.length:Int):=of_decide_eq_true sqA;obtain ⟨ad851,e851,hx851_0⟩:=Kd.zP (Kd.zc HO_3.out).2.2 x5_1 p851 q851;cases e851;replace p851:=eq_true p851;replace q851:=eq_true q851;(go_wp2_with (first|((with_reducible refine sqc 76 ?_);refine sql 19 Tryz.func76 #[.int .i64 (rd t848 x5_1)] ?_;(with_reducible refine (zZ.calls k1 (rd t848 x5_1) t852 _ A8.out).mono ?_);rintro e w' ⟨rfl,⟨nd,rfl⟩⟩;refine ⟨_,rfl,?_⟩)));(go_roundg k1);(case measure=>have:=HK1.out;omega);(case rel=>exact ⟨(t852),(wrap64 (x5_1+1)),(sqD),(sqD),H',⟨by have:=HK1.out;omega⟩,⟨sqR HO_3.out⟩,⟨sqK BK847.out⟩,⟨sqB⟩⟩));(·rw [if_neg c11] at H;have c11b0:decide (t852<x4_1)=false:=decide_eq_false c11;clear c11;have H':=Aside0.mk H;clear H;obtain ⟨Ao13,co13,eo13⟩:=Kd.zy HO_3.out;subst eo13;have p851:0≤(x5_1:Int):=of_decide_eq_true sqA;have q851:x5_1< (t848.length:Int):=of_decide_eq_true sqA;obtain ⟨ad851,e851,hx851_0⟩:=Kd.zP (Kd.zc HO_3.out).2.2 x5_1 p851 q851;cases e851;replace p851:=eq_true p851;replace q851:=eq_true q851;(go_wp2_with (first|((with_reducible refine sqc 76 ?_);refine sql 19 Tryz.func76 #[.int .i64 (rd t848 x5_1)] ?_;(with_reducible refine (zZ.calls k1 (rd t848 x5_1) t852 _ A8.out).mono ?_);rintro e w' ⟨rfl,⟨nd,rfl⟩⟩;refine ⟨_,rfl,?_⟩)));(go_roundg k1);(case measure=>have:=HK1.out;omega);(case rel=>exact ⟨(x4_1),(wrap64 (x5_1+1)),(sqD),(sqD),H',⟨by have:=HK1.out;omega⟩,⟨sqR HO_3.out⟩,⟨sqK BK847.out⟩,⟨sqB⟩⟩))));(·rw [if_neg c6] at H;have c6b0:decide (x5_1< (t848.length:Int))=false:=decide_eq_false c6;clear c6;obtain rfl:=Option.some.inj H;obtain ⟨Ao14,co14,eo14⟩:=Kd.zy HO_3.out;subst eo14;go_wp2;go_ret;exact ⟨sqE,sqB⟩)))
def yd.f (k:Nat)(a0_0:Int)(l0_1:List Int):Option (Bool):=(qW.f k a0_0 l0_1).bind fun t854=>((zu.f k a0_0 l0_1).bind fun t855=>(if t855=true then (if t854=0 then (some true) else (some (decide (t854>2)))) else (some false)))
theorem yd.calls (k:Nat)(a0_0:Int)(A0_1:Option Addr)(c0_1:Nat)(l0_1:List Int)(r:Bool)(w:World)(hr0_1:Kd.C (Kd.int .i64) w A0_1 l0_1.length l0_1)(hc0_1:l0_1.length≤c0_1)(h:yd.f k a0_0 l0_1=some r):Calls Tryz.prog 44 #[.agg #[.int .i64 a0_0,.slice A0_1 l0_1.length c0_1]] w fun e w'=>e= .returned (.bool r)∧Below w.heap.size w w':=by have hu26:=Tryz.underlying26;have HR0_1:=Aside0.mk hr0_1;have HC0_1:=Aside0.mk hc0_1;clear hr0_1 hc0_1;have HB:=Aside0.mk (Below.refl w.heap.size w);have H:=h;unfold yd.f at H;clear h;replace H:=zr H;obtain ⟨t854,A2,H⟩:=H;replace H:=zr H;obtain ⟨t855,A3,H⟩:=H;by_cases c4:t855=true;(·subst c4;rw [if_pos rfl] at H;by_cases c5:t854=0;(·rw [if_pos c5] at H;have c5b0:(t854==0)=true:=beq_iff_eq.mpr c5;have c5b1:(t854 != 0)=false:=bne_eq_false_iff_eq.mpr c5;clear c5;obtain rfl:=Option.some.inj H;go_enter Tryz.func44,Tryz.ntmps44;(go_wp2_with (first|((with_reducible refine sqd 1 ?_);refine sqx #[.int .i64 a0_0,.slice A0_1 l0_1.length c0_1] 26 ?_;intro gb853 hg w6 hbox hb;have q_:=f4 (za sqB hb) hbox (sqS hg:w.heap.size≤gb853) (sqS hg:w.heap.size≤gb853);clear HB;obtain ⟨HB,BK853,GW853,GE853⟩:=q_;clear hb hbox hg;obtain ⟨_,_,_,_⟩:=z2 BK853.out)|((with_reducible refine sqc 100 ?_);refine sql 5 Tryz.func100 #[.agg #[.int .i64 a0_0,.slice A0_1 l0_1.length c0_1]] ?_;(with_reducible refine (qW.calls k a0_0 _ _ l0_1 t854 _ ?side1 ?side2 A2.out).mono ?_);(case side1=>exact sqC (Kd.zq HR0_1.out HB.out));(case side2=>exact HC0_1.out);rintro e w8 ⟨rfl,hb⟩;refine ⟨_,rfl,?_⟩;have q_:=f2 (sqh BK853 hb) (za sqB hb);clear BK853 HB;obtain ⟨BK853,HB⟩:=q_;obtain ⟨_,_,_,_⟩:=z2 BK853.out)|((with_reducible refine sqc 27 ?_);refine sql 7 Tryz.func27 #[.agg #[.int .i64 a0_0,.slice A0_1 l0_1.length c0_1]] ?_;(with_reducible refine (zu.calls k a0_0 _ _ l0_1 true _ ?side1 ?side2 A3.out).mono ?_);(case side1=>exact sqC (Kd.zq HR0_1.out HB.out));(case side2=>exact HC0_1.out);rintro e w10 ⟨rfl,hb⟩;refine ⟨_,rfl,?_⟩;have q_:=f2 (sqh BK853 hb) (za sqB hb);clear BK853 HB;obtain ⟨BK853,HB⟩:=q_)));go_ret;exact ⟨sqE,sqB⟩);(·rw [if_neg c5] at H;have c5b0:(t854==0)=false:=beq_eq_false_iff_ne.mpr c5;have c5b1:(t854 != 0)=true:=bne_iff_ne.mpr c5;obtain rfl:=Option.some.inj H;go_enter Tryz.func44,Tryz.ntmps44;(go_wp2_with (first|((with_reducible refine sqd 1 ?_);refine sqx #[.int .i64 a0_0,.slice A0_1 l0_1.length c0_1] 26 ?_;intro gb853 hg w11 hbox hb;have q_:=f4 (za sqB hb) hbox (sqS hg:w.heap.size≤gb853) (sqS hg:w.heap.size≤gb853);clear HB;obtain ⟨HB,BK853,GW853,GE853⟩:=q_;clear hb hbox hg;obtain ⟨_,_,_,_⟩:=z2 BK853.out)|((with_reducible refine sqc 100 ?_);refine sql 5 Tryz.func100 #[.agg #[.int .i64 a0_0,.slice A0_1 l0_1.length c0_1]] ?_;(with_reducible refine (qW.calls k a0_0 _ _ l0_1 t854 _ ?side1 ?side2 A2.out).mono ?_);(case side1=>exact sqC (Kd.zq HR0_1.out HB.out));(case side2=>exact HC0_1.out);rintro e w13 ⟨rfl,hb⟩;refine ⟨_,rfl,?_⟩;have q_:=f2 (sqh BK853 hb) (za sqB hb);clear BK853 HB;obtain ⟨BK853,HB⟩:=q_;obtain ⟨_,_,_,_⟩:=z2 BK853.out)|((with_reducible refine sqc 27 ?_);refine sql 7 Tryz.func27 #[.agg #[.int .i64 a0_0,.slice A0_1 l0_1.length c0_1]] ?_;(with_reducible refine (zu.calls k a0_0 _ _ l0_1 true _ ?side1 ?side2 A3.out).mono ?_);(case side1=>exact sqC (Kd.zq HR0_1.out HB.out));(case side2=>exact HC0_1.out);rintro e w15 ⟨rfl,hb⟩;refine ⟨_,rfl,?_⟩;have q_:=f2 (sqh BK853 hb) (za sqB hb);clear BK853 HB;obtain ⟨BK853,HB⟩:=q_)));go_ret;exact ⟨sqE,sqB⟩));(·obtain rfl:=sqf c4;rw [if_neg sqz] at H;obtain rfl:=Option.some.inj H;go_enter Tryz.func44,Tryz.ntmps44;(go_wp2_with (first|((with_reducible refine sqd 1 ?_);refine sqx #[.int .i64 a0_0,.slice A0_1 l0_1.length c0_1] 26 ?_;intro gb853 hg w16 hbox hb;have q_:=f4 (za sqB hb) hbox (sqS hg:w.heap.size≤gb853) (sqS hg:w.heap.size≤gb853);clear HB;obtain ⟨HB,BK853,GW853,GE853⟩:=q_;clear hb hbox hg;obtain ⟨_,_,_,_⟩:=z2 BK853.out)|((with_reducible refine sqc 100 ?_);refine sql 5 Tryz.func100 #[.agg #[.int .i64 a0_0,.slice A0_1 l0_1.length c0_1]] ?_;(with_reducible refine (qW.calls k a0_0 _ _ l0_1 t854 _ ?side1 ?side2 A2.out).mono ?_);(case side1=>exact sqC (Kd.zq HR0_1.out HB.out));(case side2=>exact HC0_1.out);rintro e w18 ⟨rfl,hb⟩;refine ⟨_,rfl,?_⟩;have q_:=f2 (sqh BK853 hb) (za sqB hb);clear BK853 HB;obtain ⟨BK853,HB⟩:=q_;obtain ⟨_,_,_,_⟩:=z2 BK853.out)|((with_reducible refine sqc 27 ?_);refine sql 7 Tryz.func27 #[.agg #[.int .i64 a0_0,.slice A0_1 l0_1.length c0_1]] ?_;(with_reducible refine (zu.calls k a0_0 _ _ l0_1 false _ ?side1 ?side2 A3.out).mono ?_);(case side1=>exact sqC (Kd.zq HR0_1.out HB.out));(case side2=>exact HC0_1.out);rintro e w20 ⟨rfl,hb⟩;refine ⟨_,rfl,?_⟩;have q_:=f2 (sqh BK853 hb) (za sqB hb);clear BK853 HB;obtain ⟨BK853,HB⟩:=q_)));go_ret;exact ⟨sqE,sqB⟩)
def qJ.f (k:Nat)(a0_0:Int)(l0_1:List Int):Option (Int):=(zu.f k a0_0 l0_1).bind fun t857=>(if t857=true then (if 0< (l0_1.length:Int) then ((zZ.f k (rd l0_1 0)).bind fun t859=>(some t859)) else (none)) else (some (-1)))
theorem qJ.calls (k:Nat)(a0_0:Int)(A0_1:Option Addr)(c0_1:Nat)(l0_1:List Int)(r:Int)(w:World)(hr0_1:Kd.C (Kd.int .i64) w A0_1 l0_1.length l0_1)(hc0_1:l0_1.length≤c0_1)(h:qJ.f k a0_0 l0_1=some r):Calls Tryz.prog 45 #[.agg #[.int .i64 a0_0,.slice A0_1 l0_1.length c0_1]] w fun e w'=>e= .returned (.int .i64 r)∧Below w.heap.size w w':=by have hu26:=Tryz.underlying26;have HR0_1:=Aside0.mk hr0_1;have HC0_1:=Aside0.mk hc0_1;clear hr0_1 hc0_1;have HB:=Aside0.mk (Below.refl w.heap.size w);have H:=h;unfold qJ.f at H;clear h;replace H:=zr H;obtain ⟨t857,A2,H⟩:=H;by_cases c3:t857=true;(·subst c3;rw [if_pos rfl] at H;obtain ⟨c4,H⟩:=qg H;have c4b0:decide (0< (l0_1.length:Int))=true:=decide_eq_true c4;have c4b1:decide (0<l0_1.length)=true:=decide_eq_true (by omega);clear c4;replace H:=zr H;obtain ⟨t859,A5,H⟩:=H;obtain rfl:=Option.some.inj H;go_enter Tryz.func45,Tryz.ntmps45;(go_wp2_with (first|((with_reducible refine sqd 1 ?_);refine sqx #[.int .i64 a0_0,.slice A0_1 l0_1.length c0_1] 26 ?_;intro gb856 hg w6 hbox hb;have q_:=f4 (za sqB hb) hbox (sqS hg:w.heap.size≤gb856) (sqS hg:w.heap.size≤gb856);clear HB;obtain ⟨HB,BK856,GW856,GE856⟩:=q_;clear hb hbox hg;obtain ⟨_,_,_,_⟩:=z2 BK856.out)|((with_reducible refine sqc 27 ?_);refine sql 4 Tryz.func27 #[.agg #[.int .i64 a0_0,.slice A0_1 l0_1.length c0_1]] ?_;(with_reducible refine (zu.calls k a0_0 _ _ l0_1 true _ ?side1 ?side2 A2.out).mono ?_);(case side1=>exact sqC (Kd.zq HR0_1.out HB.out));(case side2=>exact HC0_1.out);rintro e w8 ⟨rfl,hb⟩;refine ⟨_,rfl,?_⟩;have q_:=f2 (sqh BK856 hb) (za sqB hb);clear BK856 HB;obtain ⟨BK856,HB⟩:=q_;obtain ⟨_,_,_,_⟩:=z2 BK856.out;have p858:0≤(0:Int):=(by omega);have q858:0< (l0_1.length:Int):=of_decide_eq_true sqA;obtain ⟨ad858,e858,hx858_0⟩:=Kd.zP HR0_1.out 0 p858 q858;cases e858;have qi858:(0<l0_1.length)=True:=eq_true (by omega);(try rw [show ((0:Int)).toNat=0 from rfl] at hx858_0);(try rw [Addr.add_zero'] at hx858_0);replace hx858_0:=(HB.out.cell (World.block_lt_of_cell? w _ hx858_0)).trans hx858_0;replace p858:=eq_true p858;replace q858:=eq_true q858)|((with_reducible refine sqc 76 ?_);refine sql 10 Tryz.func76 #[.int .i64 (rd l0_1 0)] ?_;(with_reducible refine (zZ.calls k (rd l0_1 0) t859 _ A5.out).mono ?_);rintro e w' ⟨rfl,⟨nd,rfl⟩⟩;refine ⟨_,rfl,?_⟩)));go_ret;exact ⟨sqE,sqB⟩);(·obtain rfl:=sqf c3;rw [if_neg sqz] at H;obtain rfl:=Option.some.inj H;go_enter Tryz.func45,Tryz.ntmps45;(go_wp2_with (first|((with_reducible refine sqd 1 ?_);refine sqx #[.int .i64 a0_0,.slice A0_1 l0_1.length c0_1] 26 ?_;intro gb856 hg w10 hbox hb;have q_:=f4 (za sqB hb) hbox (sqS hg:w.heap.size≤gb856) (sqS hg:w.heap.size≤gb856);clear HB;obtain ⟨HB,BK856,GW856,GE856⟩:=q_;clear hb hbox hg;obtain ⟨_,_,_,_⟩:=z2 BK856.out)|((with_reducible refine sqc 27 ?_);refine sql 4 Tryz.func27 #[.agg #[.int .i64 a0_0,.slice A0_1 l0_1.length c0_1]] ?_;(with_reducible refine (zu.calls k a0_0 _ _ l0_1 false _ ?side1 ?side2 A2.out).mono ?_);(case side1=>exact sqC (Kd.zq HR0_1.out HB.out));(case side2=>exact HC0_1.out);rintro e w12 ⟨rfl,hb⟩;refine ⟨_,rfl,?_⟩;have q_:=f2 (sqh BK856 hb) (za sqB hb);clear BK856 HB;obtain ⟨BK856,HB⟩:=q_)));go_ret;exact ⟨sqE,sqB⟩)
end F
end
section
namespace F
open Go.RowKit Wa Wb Wc
def J1 (g:Nat)(lb:Array Value)(q:Int→Option Bool)(w:World):Prop:=
  ∀(W:World) (x:Int) (r:Bool),q x=some r→Below w.heap.size w W→Calls Tryz.prog g (#[.int .i64 x]++lb) W fun e w'=>e= .returned (.bool r)∧Below W.heap.size W w'
def zag (q:Int→Option Bool):Int→List Int→Option Int
  |_,[]=>some (-1)
  |i,x::t=>(q x).bind fun b=>if b=true then some i else zag q (i+1) t
def Q6 (q:Int→Option Bool):List Int→Option Bool
  | []=>some false
  |x::t=>(q x).bind fun b=>if b=true then some true else Q6 q t
theorem zao (q:Int→Option Bool): ∀(l:List Int) (i:Int) (r:Bool),0≤i→Q6 q l=some r→ ∃m,zag q i l=some m∧decide (0≤m)=r
  | [],i,r,_,h=>by
    simp only [Q6,Option.some.injEq] at h
    exact ⟨-1,rfl,by rw [←h];rfl⟩
  |x::t,i,r,h0,h=>by
    simp only [Q6,Option.bind_eq_some_iff] at h
    obtain ⟨b,hb,h⟩:=h
    cases b with
    |true=>simp only [if_true,Option.some.injEq] at h;exact ⟨i,by simp [zag,hb],by rw [←h];simpa using h0⟩
    |false=>
      simp only [Bool.false_eq_true,if_false] at h
      obtain ⟨m,h1,h2⟩:=zao q t (i+1) r (by omega) h
      exact ⟨m,by simp [zag,hb,h1],h2⟩
theorem Vh (q:Int→Option Bool)(g:Nat)(lb:Array Value)(eg: ∀args w,(callFunc g args).run Tryz.prog w= .ok (.enter g args) w)(A0:Option Addr)(c0:Nat)(l0:List Int)(r:Int)(w:World)
    (hp:J1 g lb q w) (hr0:Kd.C (Kd.int .i64) w A0 l0.length l0) (hc0:l0.length≤c0) (hs:l0.length≤17592186044416) (h:zag q 0 l0=some r):
    Calls Tryz.prog 135 #[.slice A0 l0.length c0,.func (.func g) #[] lb] w fun e w'=>e= .returned (.int .i64 r)∧Below w.heap.size w w':=by
  have HR0:=Aside0.mk hr0
  have HC0:=Aside0.mk hc0
  have HP:=Aside0.mk hp
  have H0:=Aside0.mk h
  have HS:=Aside0.mk hs
  clear hr0 hc0 hp h hs
  go_enter Tryz.func135,Tryz.ntmps135
  go_wp2
  go_loopg [8] l0.length (fun kq v8 w'=> ∃(i:Int),v8= .int .i64 i∧Aside0 (0≤i∧i≤l0.length)∧Aside0 (zag q i (l0.drop i.toNat)=some r)∧Aside0 (l0.length - i.toNat≤kq)∧Aside0 (Below w.heap.size w w'))
  case atStart=>exact ⟨0,rfl,⟨Int.le_refl _,by omega⟩,⟨by simpa using H0.out⟩,⟨by simp⟩,⟨Below.refl _ _⟩⟩
  case round=>
    clear H0
    obtain ⟨i,rfl,HI,HD,HK,HB⟩:=hrel
    by_cases c3:i< (l0.length:Int)
    · have hi0:=HI.out.1
      have hi:i.toNat<l0.length:=by omega
      have hi1:(i+1).toNat=i.toNat+1:=by omega
      have c3b0:decide (i< (l0.length:Int))=true:=decide_eq_true c3
      obtain ⟨ad,ead,hx⟩:=Kd.zP (Kd.zq HR0.out HB.out) i hi0 c3
      cases ead
      have hd:=HD.out
      rw [List.drop_eq_getElem_cons hi] at hd
      simp only [zag,Option.bind_eq_some_iff] at hd
      obtain ⟨b,hb,hd⟩:=hd
      have hrd:rd l0 i=l0[i.toNat]:=by simp [rd,List.getElem?_eq_getElem hi]
      rw [←hrd] at hb
      have HD':=Aside0.mk hd
      have HBb:=Aside0.mk hb
      have HI1:=Aside0.mk hi1
      have HI2:=Aside0.mk (show 0≤i∧i+1≤l0.length by omega)
      have p7:=eq_true hi0
      have q7:=eq_true c3
      clear hd hb hrd HD hi hi0 c3 hi1
      have hcall:=HP.out _ _ _ HBb.out HB.out
      cases b with
      |true=>
        have hr:=HD'.out
        simp only [if_true,Option.some.injEq] at hr
        subst hr
        clear HD'
        go_wp2
        refine hcall.mono ?_
        rintro e w' ⟨rfl,hb⟩
        have n0_:=Aside0.mk (za HB.out hb)
        clear HB hb hx hcall;have HB:=n0_;clear n0_
        go_wp2
        go_ret
        exact ⟨rfl,HB.out⟩
      |false=>
        have hr:=HD'.out
        simp only [Bool.false_eq_true,if_false] at hr
        have HD2:=Aside0.mk hr
        clear HD' hr
        go_wp2
        refine hcall.mono ?_
        rintro e w' ⟨rfl,hb⟩
        have n0_:=Aside0.mk (za HB.out hb)
        clear HB hb hx hcall;have HB:=n0_;clear n0_
        go_wp2
        go_roundg (l0.length - (i.toNat+1))
        case measure=>have:=HK.out;have:=HI2.out;omega
        case rel=>exact ⟨i+1,by rw [show wrap64 (i+1)=i+1 from by unfold wrap64;have:=HI2.out;have:=HS.out;omega],⟨by have:=HI2.out;omega⟩,⟨by rw [HI1.out];exact HD2.out⟩,⟨by rw [HI1.out];exact Nat.le_refl _⟩,HB⟩
    · have c3b0:decide (i< (l0.length:Int))=false:=decide_eq_false c3
      have hi:i.toNat=l0.length:=by have:=HI.out;omega
      have hd:=HD.out
      rw [hi,List.drop_length] at hd
      simp only [zag,Option.some.injEq] at hd
      subst hd
      clear HD hi
      go_wp2
      go_ret
      exact ⟨rfl,HB.out⟩
theorem vU (q:Int→Option Bool)(g:Nat)(lb:Array Value)(eg: ∀args w,(callFunc g args).run Tryz.prog w= .ok (.enter g args) w)(A0:Option Addr)(c0:Nat)(l0:List Int)(r:Bool)(w:World)
    (hp:J1 g lb q w) (hr0:Kd.C (Kd.int .i64) w A0 l0.length l0) (hc0:l0.length≤c0) (hs:l0.length≤17592186044416) (h:Q6 q l0=some r):
    Calls Tryz.prog 98 #[.slice A0 l0.length c0,.func (.func g) #[] lb] w fun e w'=>e= .returned (.bool r)∧Below w.heap.size w w':=by
  obtain ⟨m,hm,rfl⟩:=zao q l0 0 r (by decide) h
  have hcall:=Vh q g lb eg A0 c0 l0 m
  have HR0:=Aside0.mk hr0
  have HC0:=Aside0.mk hc0
  have HP:=Aside0.mk hp
  have H0:=Aside0.mk hm
  have HS:=Aside0.mk hs
  clear hr0 hc0 hp h hm hs
  go_enter Tryz.func98,Tryz.ntmps98
  go_wp2_with (go_at_call 135;refine (hcall _ HP.out HR0.out HC0.out HS.out H0.out).mono ?_;rintro e w' ⟨rfl,hb⟩)
  go_ret
  exact ⟨rfl,hb⟩
end F
end
section
namespace F
open Go.RowKit Wa Wb Wc
def zt.q (k:Nat)(l:List Int)(a e:Int)(x:Int):Option Bool:=
  if 0≤e then (if 0≤x then yn.f k l (Go.bits .or .i64 (Go.bits .andNot .i64 a (shl .i64 1 e)) (shl .i64 1 x)) else none) else none
mutual
def zt.l0:Nat→List Int→Int→Option (Int×Int×Int×Bool)
  |0,_,_=>none
  |k+1,l,x21=>if x21< (l.length:Int) then (if 0≤x21 then zt.l1 k l x21 0 else none) else some (0,0,0,false)
def zt.l1:Nat→List Int→Int→Int→Option (Int×Int×Int×Bool)
  |0,_,_,_=>none
  |k+1,l,x21,x28=>if x28< (l.length:Int) then (if 0≤x28 then ((qt.f k (Go.bits .andNot .i64 (rd l x21) (rd l x28))).bind fun es=>zt.l2 k l x21 x28 es 0) else none) else zt.l0 k l (wrap64 (x21+1))
def zt.l2:Nat→List Int→Int→Int→List Int→Int→Option (Int×Int×Int×Bool)
  |0,_,_,_,_,_=>none
  |k+1,l,x21,x28,es,x37=>
    if x37< (es.length:Int) then
      (if 0≤x37 then ((qt.f k (Go.bits .andNot .i64 (rd l x28) (rd l x21))).bind fun fs=>(if fs.length≤17592186044416 then ((Q6 (zt.q k l (rd l x21) (rd es x37)) fs).bind fun t=>
        if t=true then zt.l2 k l x21 x28 es (wrap64 (x37+1)) else some (rd l x21,rd l x28,rd es x37,true)) else none)) else none)
    else zt.l1 k l x21 (wrap64 (x28+1))
end
def zt.f (k:Nat)(a0_0:Int)(l0_1:List Int):Option (Int×Int×Int×Bool):=
  (qB.f k a0_0 l0_1).bind fun t=>if t=true then zt.l0 k l0_1 0 else some (0,0,0,false)
theorem zt.pred (k:Nat)(l:List Int)(a e n:Int)(A:Option Addr)(c gm ga ge:Nat)(w:World)(hm:w.heap[gm]? =some (.cells #[.int .i64 n,.slice A l.length c] 26 (0,0)))
    (ha:w.heap[ga]? =some (.cells #[.int .i64 a] 3 (0,0))) (he:w.heap[ge]? =some (.cells #[.int .i64 e] 3 (0,0))) (hr:Kd.C (Kd.int .i64) w A l.length l) (hc:l.length≤c):
    J1 137 #[.pointer (some ⟨gm,0,none⟩),.pointer (some ⟨ga,0,none⟩),.pointer (some ⟨ge,0,none⟩)] (zt.q k l a e) w:=by
  intro W x r hq hb
  unfold zt.q at hq
  by_cases h0:0≤e
  · rw [if_pos h0] at hq
    by_cases h1:0≤x
    · rw [if_pos h1] at hq
      have hc0:W.cell? ⟨gm,1,none⟩=some (.slice A l.length c):=(zf (zR hm hb) 1).trans rfl
      have hc1:W.cell? ⟨ga,0,none⟩=some (.int .i64 a):=(zf (zR ha hb) 0).trans rfl
      have hc2:W.cell? ⟨ge,0,none⟩=some (.int .i64 e):=(zf (zR he hb) 0).trans rfl
      have HR:=Aside0.mk (Kd.zq hr hb)
      have HC:=Aside0.mk hc
      have hu:=Tryz.underlying26
      obtain ⟨j1,hj1⟩: ∃j_:Int,(shl .i64 1 e)=j_:=⟨_,rfl⟩
      obtain ⟨j2,hj2⟩: ∃j_:Int,(shl .i64 1 x)=j_:=⟨_,rfl⟩
      rw [hj1,hj2] at hq
      have H:=Aside0.mk hq
      clear hq hm ha he hr hc hb
      have hj1_:(IntKind.i64.wrap (1*2 ^min e.toNat 64))=j1:=hj1
      have hj1u:(IntKind.i64.wrap (2 ^min e.toNat 64))=j1:=by have h_:=hj1_;rw [Int.one_mul] at h_;exact h_
      have hj1y:(wrap64 (1*2 ^min e.toNat 64))=j1:=(zA _).symm.trans hj1_
      have hj2_:(IntKind.i64.wrap (1*2 ^min x.toNat 64))=j2:=hj2
      have hj2u:(IntKind.i64.wrap (2 ^min x.toNat 64))=j2:=by have h_:=hj2_;rw [Int.one_mul] at h_;exact h_
      have hj2y:(wrap64 (1*2 ^min x.toNat 64))=j2:=(zA _).symm.trans hj2_
      have c0b0:decide (0≤e)=true:=decide_eq_true h0
      have c1b0:decide (0≤x)=true:=decide_eq_true h1
      replace h0:=eq_true h0
      replace h1:=eq_true h1
      go_enter Tryz.func137,Tryz.ntmps137
      go_wp2
      repeat (go_quiet ((go_at_call 138;(try simp only [zA,zI]);(with_reducible refine (yn.calls k _ _ l _ r _ ?side1 HC.out H.out).mono ?_);(case side1=>repeat (first|exact HR.out|(with_reducible refine Kd.Zd ?_ _)|(with_reducible refine Kd.Zl ?_)));rintro e w' ⟨rfl,⟨nd,rfl⟩⟩;(try first|exact ⟨rfl,_,World.drewN_drewN _ _ _⟩|exact ⟨rfl,_,Eq.trans (World.drewN_drewN _ _ _) (congrArg (World.drewN _) (Nat.add_assoc _ _ _))⟩)));try go_wp2)
      go_ret
      exact ⟨rfl,by repeat (first|exact Below.refl _ _|apply zN|apply zW)⟩
    · rw [if_neg h1] at hq;exact absurd hq (by simp)
  · rw [if_neg h0] at hq;exact absurd hq (by simp)
theorem zt.calls (k:Nat)(a0_0:Int)(A0_1:Option Addr)(c0_1:Nat)(l0_1:List Int)(r1:Int)(r2:Int)(r3:Int)(r4:Bool)(w:World)(hr0_1:Kd.C (Kd.int .i64) w A0_1 l0_1.length l0_1)(hc0_1:l0_1.length≤c0_1)(h:zt.f k a0_0 l0_1=some (r1,r2,r3,r4)):
    Calls Tryz.prog 108 #[.agg #[.int .i64 a0_0,.slice A0_1 l0_1.length c0_1]] w fun e w'=>e= .returned (.tuple #[.agg #[.int .i64 r1,.int .i64 r2,.int .i64 r3],.bool r4])∧Below w.heap.size w w':=by
  have hum:=Tryz.underlying26
  have huf:=Tryz.underlying63
  have HR:=Aside0.mk hr0_1
  have HC:=Aside0.mk hc0_1
  have HB:=Aside0.mk (Below.refl w.heap.size w)
  clear hr0_1 hc0_1
  unfold zt.f at h
  obtain ⟨t0,ht0,h⟩:=Option.bind_eq_some_iff.mp h
  have HT:=Aside0.mk ht0
  clear ht0
  have H:=Aside0.mk h
  clear h
  cases t0 with
  |false=>
    go_enter Tryz.func108,Tryz.ntmps108
    go_wp2_with (first
      |((with_reducible refine jH (N:=1) rfl ?_);refine qm ?hg (N:=1) ?hd (cs:=#[.int .i64 a0_0,.slice A0_1 l0_1.length c0_1]) (t:=26) ?hr ?_;(case hd=>rfl);(case hg=>rfl);(case hr=>exact sqG);intro gm hg w4 hbox hb;have HB1:=Aside0.mk hb;have BKm:=Aside0.mk hbox;have HG1:=Aside0.mk hg;clear hb hbox hg)
      |((with_reducible refine jH (N:=2) rfl ?_);refine qm ?hg (N:=2) ?hd (cs:=#[.int .i64 0,.int .i64 0,.int .i64 0]) (t:=63) ?hr ?_;(case hd=>rfl);(case hg=>rfl);(case hr=>exact sqG);intro gr hg w5 hbox hb;have HG2:=Aside0.mk hg;have HGr:=Aside0.mk (show w.heap.size≤gr from by rw [hg];exact HB1.out.size);have HNE:=Aside0.mk (show gm≠gr from by rw [hg];exact Nat.ne_of_lt (Zp BKm.out));have HS:=Aside0.mk (FFS.mk (n:=a0_0) (A:=A0_1) (c:=c0_1) (l:=l0_1) (gm:=gm) (gr:=gr) (w0:=w) (zR BKm.out hb) hbox (Kd.zq HR.out (za HB1.out hb)) (za HB1.out hb));clear BKm HB1 hb hbox hg;have hcz0:w5.cell? ⟨gm,0,none⟩=some (.int .i64 a0_0):=(zf HS.out.m 0).trans rfl;have hcz1:w5.cell? ⟨gm,1,none⟩=some (.slice A0_1 l0_1.length c0_1):=(zf HS.out.m 1).trans rfl)
      |((with_reducible refine jJ (f:=57) rfl ?_);refine vV (some 15) rfl rfl Tryz.func57 (by kernel_rfl) rfl #[.int .i64 a0_0,.slice A0_1 l0_1.length c0_1] rfl (by (try simp only [List.map_toArray,List.map_cons,List.map_nil]);first|done|rfl) ?_;(with_reducible refine (qB.calls k a0_0 _ _ l0_1 false _ HS.out.C HC.out HT.out).mono ?_);rintro e w' ⟨rfl,⟨nd,rfl⟩⟩;refine ⟨_,rfl,?_⟩;generalize hw6:w5.drewN nd=w6;have HS6:=Aside0.mk (HS.out.below (w2:=w6) (by rw [←hw6];exact zW (Below.refl _ _) nd));clear hw6 HS hcz0 hcz1;have HS:=HS6;clear HS6;have hne:=HNE.out;have hne2:=HNE.out.symm;have hcr0:w6.cell? ⟨gr,0,none⟩=some (.int .i64 0):=(zf HS.out.r 0).trans rfl;have hcr1:w6.cell? ⟨gr,1,none⟩=some (.int .i64 0):=(zf HS.out.r 1).trans rfl;have hcr2:w6.cell? ⟨gr,2,none⟩=some (.int .i64 0):=(zf HS.out.r 2).trans rfl;have hfr0:=zk HS.out.r 0;have hfr1:=zk HS.out.r 1;have hfr2:=zk HS.out.r 2))
    refine bodyPost_ret (jy rfl _ _ gr 63 #[.int .i64 0,.int .i64 0,.int .i64 0] (0,0) _ rfl (by refine zp (cs:=#[.int .i64 0,.int .i64 0,.int .i64 0]) ?_ 2 _ rfl;refine zp (cs:=#[.int .i64 0,.int .i64 0,.int .i64 0]) ?_ 1 _ rfl;refine zp (cs:=#[.int .i64 0,.int .i64 0,.int .i64 0]) ?_ 0 _ rfl;exact HS.out.r) Tryz.underlying63 rfl (by kernel_rfl)) rfl ?_
    have hh:=H.out
    simp only [Bool.false_eq_true,if_false,Option.some.injEq,Prod.mk.injEq] at hh
    obtain ⟨rfl,rfl,rfl,rfl⟩:=hh
    exact ⟨rfl,by repeat (first|exact HS.out.B|refine vr ?_ HGr.out)⟩
  |true=>
    go_enter Tryz.func108,Tryz.ntmps108
    go_wp2_with (first
      |((with_reducible refine jH (N:=1) rfl ?_);refine qm ?hg (N:=1) ?hd (cs:=#[.int .i64 a0_0,.slice A0_1 l0_1.length c0_1]) (t:=26) ?hr ?_;(case hd=>rfl);(case hg=>rfl);(case hr=>exact sqG);intro gm hg w4 hbox hb;have HB1:=Aside0.mk hb;have BKm:=Aside0.mk hbox;have HG1:=Aside0.mk hg;clear hb hbox hg)
      |((with_reducible refine jH (N:=2) rfl ?_);refine qm ?hg (N:=2) ?hd (cs:=#[.int .i64 0,.int .i64 0,.int .i64 0]) (t:=63) ?hr ?_;(case hd=>rfl);(case hg=>rfl);(case hr=>exact sqG);intro gr hg w5 hbox hb;have HG2:=Aside0.mk hg;have HGr:=Aside0.mk (show w.heap.size≤gr from by rw [hg];exact HB1.out.size);have HNE:=Aside0.mk (show gm≠gr from by rw [hg];exact Nat.ne_of_lt (Zp BKm.out));have HS:=Aside0.mk (FFS.mk (n:=a0_0) (A:=A0_1) (c:=c0_1) (l:=l0_1) (gm:=gm) (gr:=gr) (w0:=w) (zR BKm.out hb) hbox (Kd.zq HR.out (za HB1.out hb)) (za HB1.out hb));clear BKm HB1 hb hbox hg;have hcz0:w5.cell? ⟨gm,0,none⟩=some (.int .i64 a0_0):=(zf HS.out.m 0).trans rfl;have hcz1:w5.cell? ⟨gm,1,none⟩=some (.slice A0_1 l0_1.length c0_1):=(zf HS.out.m 1).trans rfl)
      |((with_reducible refine jJ (f:=57) rfl ?_);refine vV (some 15) rfl rfl Tryz.func57 (by kernel_rfl) rfl #[.int .i64 a0_0,.slice A0_1 l0_1.length c0_1] rfl (by (try simp only [List.map_toArray,List.map_cons,List.map_nil]);first|done|rfl) ?_;(with_reducible refine (qB.calls k a0_0 _ _ l0_1 true _ HS.out.C HC.out HT.out).mono ?_);rintro e w' ⟨rfl,⟨nd,rfl⟩⟩;refine ⟨_,rfl,?_⟩;generalize hw6:w5.drewN nd=w6;have HS6:=Aside0.mk (HS.out.below (w2:=w6) (by rw [←hw6];exact zW (Below.refl _ _) nd));clear hw6 HS hcz0 hcz1;have HS:=HS6;clear HS6;have hcz1:w6.cell? ⟨gm,1,none⟩=some (.slice A0_1 l0_1.length c0_1):=(zf HS.out.m 1).trans rfl))
    have H0:=Aside0.mk (show zt.l0 k l0_1 0=some (r1,r2,r3,r4) by have hh:=H.out;simpa using hh)
    clear H hcz1
    go_loopg [21] k (fun kq v21 w'=> ∃(x21:Int),v21= .int .i64 x21∧Aside0 (zt.l0 kq l0_1 x21=some (r1,r2,r3,r4))∧Aside0 (kq≤k)∧Aside0 (FFS w w' gm gr a0_0 A0_1 c0_1 l0_1))
    case atStart=>exact ⟨0,rfl,H0,⟨Nat.le_refl _⟩,HS⟩
    case round=>
      clear H0 HS HB HG1 HG2
      obtain ⟨x21,rfl,HA,HK1,HS⟩:=hrel
      cases gk with
      |zero=>exact absurd HA.out (by simp [zt.l0])
      |succ k1=>
        have H:=HA.out
        clear HA
        simp only [zt.l0] at H
        by_cases c1:x21< (l0_1.length:Int)
        · rw [if_pos c1] at H
          by_cases c2:0≤x21
          · rw [if_pos c2] at H
            have H1:=Aside0.mk H
            clear H
            have c1b0:decide (x21< (l0_1.length:Int))=true:=decide_eq_true c1
            have c2b0:decide (0≤x21)=true:=decide_eq_true c2
            obtain ⟨ad1,e1,hx1⟩:=Kd.zP HS.out.C x21 c2 c1
            cases e1
            replace c1:=eq_true c1
            replace c2:=eq_true c2
            have hcz1:wr.cell? ⟨gm,1,none⟩=some (.slice (some ad1) l0_1.length c0_1):=(zf HS.out.m 1).trans rfl
            go_wp2_with (first
              |((with_reducible refine jH (N:=5) rfl ?_);refine qm ?hg (N:=5) ?hd (cs:=#[.int .i64 0]) (t:=3) ?hr ?_;(case hd=>rfl);(case hg=>rfl);(case hr=>exact sqG);intro ga hg w7 hbox hb;have HG3:=Aside0.mk hg;have BKa:=Aside0.mk hbox;have HBa:=Aside0.mk hb;have hca:w7.cell? ⟨ga,0,none⟩=some (.int .i64 0):=(zf BKa.out 0).trans rfl;have hfa:=zk BKa.out 0;clear hg hbox hb hx1 hcz1)
              |((with_reducible refine yV (t:=3) (p:=5) rfl ?_);refine yH (t:=3) (p:=5) (v:= ?vo_w8) (w1:=(w7.setCell ⟨ga,0,none⟩ (.int .i64 (rd l0_1 x21)))) ?hg ?ho ?hn ?hr ?_;(case ho=>rfl);(case hg=>rfl);(case hn=>rfl);(case hr=>exact sqG);intro w8 hw;have hp_:=Jd (v:= .int .i64 (rd l0_1 x21)) HG3.out BKa.out HBa.out;rw [←hw] at hp_;have HS8:=Aside0.mk (HS.out.below hp_.2);have BK8:=Aside0.mk hp_.1;clear hp_ hw BKa HBa HG3 HS hca hfa;have HS:=HS8;have BKa:=BK8;clear HS8 BK8;have hcz1:w8.cell? ⟨gm,1,none⟩=some (.slice (some ad1) l0_1.length c0_1):=(zf HS.out.m 1).trans rfl))
            clear hcz1
            go_loopg [28] k1 (fun kq v28 w'=> ∃(x28:Int),v28= .int .i64 x28∧Aside0 (zt.l1 kq l0_1 x21 x28=some (r1,r2,r3,r4))∧Aside0 (kq≤k1)∧Aside0 (FFS w w' gm gr a0_0 (some ad1) c0_1 l0_1)∧Aside0 (w'.heap[ga]? =some (.cells #[.int .i64 (rd l0_1 x21)] 3 (0,0))))
            case atStart=>exact ⟨0,rfl,H1,⟨Nat.le_refl _⟩,HS,BKa⟩
            case round=>
              clear H1 HS BKa
              obtain ⟨x28,rfl,HA,HK2,HS,BKa⟩:=hrel
              cases gk with
              |zero=>exact absurd HA.out (by simp [zt.l1])
              |succ k2=>
                have H:=HA.out
                clear HA
                simp only [zt.l1] at H
                by_cases c3:x28< (l0_1.length:Int)
                · rw [if_pos c3] at H
                  by_cases c4:0≤x28
                  · rw [if_pos c4] at H
                    obtain ⟨es,hes,H⟩:=Option.bind_eq_some_iff.mp H
                    have H1:=Aside0.mk H
                    have HE:=Aside0.mk hes
                    clear H hes
                    have c3b0:decide (x28< (l0_1.length:Int))=true:=decide_eq_true c3
                    have c4b0:decide (0≤x28)=true:=decide_eq_true c4
                    obtain ⟨ad2,e2,hx2⟩:=Kd.zP HS.out.C x28 c4 c3
                    cases e2
                    replace c3:=eq_true c3
                    replace c4:=eq_true c4
                    have hca:wr.cell? ⟨ga,0,none⟩=some (.int .i64 (rd l0_1 x21)):=(zf BKa.out 0).trans rfl
                    go_wp2_with ((with_reducible refine jJ (f:=136) rfl ?_);refine vV (some 35) rfl rfl Tryz.func136 (by kernel_rfl) rfl #[.int .i64 (Go.bits .andNot .i64 (rd l0_1 x21) (rd l0_1 x28))] rfl (by (try simp only [List.map_toArray,List.map_cons,List.map_nil]);first|done|rfl) ?_;(with_reducible refine (qt.calls k2 _ es _ HE.out).mono ?_);rintro e w9 ⟨ve,rfl,ho,hb⟩;refine ⟨_,rfl,?_⟩;obtain ⟨Ae,ce,ee⟩:=Kd.zy ho;subst ee;have HCE:=Aside0.mk (Kd.zc ho).2.2;have HLE:=Aside0.mk (Kd.zc ho).2.1;have HS9:=Aside0.mk (HS.out.below hb);have BK9:=Aside0.mk (zR BKa.out hb);clear ho hb HS BKa hx2 hca;have HS:=HS9;have BKa:=BK9;clear HS9 BK9)
                    go_loopg [37] k2 (fun kq v37 w'=> ∃(x37:Int),v37= .int .i64 x37∧Aside0 (zt.l2 kq l0_1 x21 x28 es x37=some (r1,r2,r3,r4))∧Aside0 (kq≤k2)∧Aside0 (FFS w w' gm gr a0_0 (some ad1) c0_1 l0_1)∧Aside0 (w'.heap[ga]? =some (.cells #[.int .i64 (rd l0_1 x21)] 3 (0,0)))∧Aside0 (Kd.C (Kd.int .i64) w' Ae es.length es))
                    case atStart=>exact ⟨0,rfl,H1,⟨Nat.le_refl _⟩,HS,BKa,HCE⟩
                    case round=>
                      clear H1 HS BKa HCE HE
                      obtain ⟨x37,rfl,HA,HK3,HS,BKa,HCE⟩:=hrel
                      cases gk with
                      |zero=>exact absurd HA.out (by simp [zt.l2])
                      |succ k3=>
                        have H:=HA.out
                        clear HA
                        simp only [zt.l2] at H
                        by_cases c5:x37< (es.length:Int)
                        · rw [if_pos c5] at H
                          by_cases c6:0≤x37
                          · rw [if_pos c6] at H
                            obtain ⟨fs,hfs,H⟩:=Option.bind_eq_some_iff.mp H
                            by_cases c7:fs.length≤17592186044416
                            · rw [if_pos c7] at H
                              obtain ⟨tt,htt,H⟩:=Option.bind_eq_some_iff.mp H
                              have HF:=Aside0.mk hfs
                              have HLF:=Aside0.mk c7
                              have HAny:=Aside0.mk htt
                              have H1:=Aside0.mk H
                              clear H hfs c7 htt
                              have c5b0:decide (x37< (es.length:Int))=true:=decide_eq_true c5
                              have c6b0:decide (0≤x37)=true:=decide_eq_true c6
                              obtain ⟨ad3,e3,hx3⟩:=Kd.zP HCE.out x37 c6 c5
                              cases e3
                              replace c5:=eq_true c5
                              replace c6:=eq_true c6
                              cases tt with
                              |true=>
                                go_wp2_with (first
                                  |((with_reducible refine jH (N:=9) rfl ?_);refine qm ?hg (N:=9) ?hd (cs:=#[.int .i64 0]) (t:=3) ?hr ?_;(case hd=>rfl);(case hg=>rfl);(case hr=>exact sqG);intro ge hg w10 hbox hb;have HG4:=Aside0.mk hg;have BKe:=Aside0.mk hbox;have HBe:=Aside0.mk hb;have hce:w10.cell? ⟨ge,0,none⟩=some (.int .i64 0):=(zf BKe.out 0).trans rfl;have hfe:=zk BKe.out 0;clear hg hbox hb hx3)
                                  |((with_reducible refine yV (t:=3) (p:=9) rfl ?_);refine yH (t:=3) (p:=9) (v:= ?vo_w11) (w1:=(w10.setCell ⟨ge,0,none⟩ (.int .i64 (rd es x37)))) ?hg ?ho ?hn ?hr ?_;(case ho=>rfl);(case hg=>rfl);(case hn=>rfl);(case hr=>exact sqG);intro w11 hw;have hp_:=Jd (v:= .int .i64 (rd es x37)) HG4.out BKe.out HBe.out;rw [←hw] at hp_;have HS8:=Aside0.mk (HS.out.below hp_.2);have BK8:=Aside0.mk hp_.1;have BK7:=Aside0.mk (zR BKa.out hp_.2);have HC8:=Aside0.mk (Kd.zq HCE.out hp_.2);clear hp_ hw BKe HBe HG4 HS hce hfe BKa HCE;have HS:=HS8;have BKe:=BK8;have BKa:=BK7;have HCE:=HC8;clear HS8 BK8 BK7 HC8;have hca:w11.cell? ⟨ga,0,none⟩=some (.int .i64 (rd l0_1 x21)):=(zf BKa.out 0).trans rfl)
                                  |((with_reducible refine jJ (f:=136) rfl ?_);refine vV (some 44) rfl rfl Tryz.func136 (by kernel_rfl) rfl #[.int .i64 (Go.bits .andNot .i64 (rd l0_1 x28) (rd l0_1 x21))] rfl (by (try simp only [List.map_toArray,List.map_cons,List.map_nil]);first|done|rfl) ?_;(with_reducible refine (qt.calls k3 _ fs _ HF.out).mono ?_);rintro e w12 ⟨vf,rfl,ho,hb⟩;refine ⟨_,rfl,?_⟩;obtain ⟨Af,cf,ef⟩:=Kd.zy ho;subst ef;have HCF:=Aside0.mk (Kd.zc ho).2.2;have HLF2:=Aside0.mk (Kd.zc ho).2.1;have HS8:=Aside0.mk (HS.out.below hb);have BK8:=Aside0.mk (zR BKe.out hb);have BK7:=Aside0.mk (zR BKa.out hb);have HC8:=Aside0.mk (Kd.zq HCE.out hb);clear ho hb BKe HS BKa HCE hca;have HS:=HS8;have BKe:=BK8;have BKa:=BK7;have HCE:=HC8;clear HS8 BK8 BK7 HC8))
                                refine (vU (zt.q k3 l0_1 (rd l0_1 x21) (rd es x37)) _ _ (enters_of Tryz.func137 (by kernel_rfl) rfl) _ _ fs true _ (zt.pred k3 l0_1 (rd l0_1 x21) (rd es x37) a0_0 _ c0_1 gm ga ge _ HS.out.m BKa.out BKe.out HS.out.C HC.out) HCF.out HLF2.out HLF.out HAny.out).mono ?_
                                rintro e w13 ⟨rfl,hb⟩
                                have HS8:=Aside0.mk (HS.out.below hb)
                                have BK8:=Aside0.mk (zR BKe.out hb)
                                have BK7:=Aside0.mk (zR BKa.out hb)
                                have HC8:=Aside0.mk (Kd.zq HCE.out hb)
                                clear hb BKe HS BKa HCE HCF
                                have HS:=HS8
                                have BKe:=BK8
                                have BKa:=BK7
                                have HCE:=HC8
                                clear HS8 BK8 BK7 HC8
                                go_wp2
                                go_roundg k3
                                case measure=>have:=HK1.out;have:=HK2.out;have:=HK3.out;omega
                                case rel=>exact ⟨wrap64 (x37+1),rfl,⟨by have hh:=H1.out;simpa using hh⟩,⟨by have:=HK3.out;omega⟩,HS,BKa,HCE⟩
                              |false=>
                                have hh:=H1.out
                                simp only [Bool.false_eq_true,if_false,Option.some.injEq,Prod.mk.injEq] at hh
                                obtain ⟨rfl,rfl,rfl,rfl⟩:=hh
                                clear H1
                                have hne:=HNE.out
                                have hne2:=HNE.out.symm
                                go_wp2_with (first
                                  |((with_reducible refine jH (N:=9) rfl ?_);refine qm ?hg (N:=9) ?hd (cs:=#[.int .i64 0]) (t:=3) ?hr ?_;(case hd=>rfl);(case hg=>rfl);(case hr=>exact sqG);intro ge hg w10 hbox hb;have HG4:=Aside0.mk hg;have BKe:=Aside0.mk hbox;have HBe:=Aside0.mk hb;have hce:w10.cell? ⟨ge,0,none⟩=some (.int .i64 0):=(zf BKe.out 0).trans rfl;have hfe:=zk BKe.out 0;clear hg hbox hb hx3)
                                  |((with_reducible refine yV (t:=3) (p:=9) rfl ?_);refine yH (t:=3) (p:=9) (v:= ?vo_w11) (w1:=(w10.setCell ⟨ge,0,none⟩ (.int .i64 (rd es x37)))) ?hg ?ho ?hn ?hr ?_;(case ho=>rfl);(case hg=>rfl);(case hn=>rfl);(case hr=>exact sqG);intro w11 hw;have hp_:=Jd (v:= .int .i64 (rd es x37)) HG4.out BKe.out HBe.out;rw [←hw] at hp_;have HS8:=Aside0.mk (HS.out.below hp_.2);have BK8:=Aside0.mk hp_.1;have BK7:=Aside0.mk (zR BKa.out hp_.2);have HC8:=Aside0.mk (Kd.zq HCE.out hp_.2);clear hp_ hw BKe HBe HG4 HS hce hfe BKa HCE;have HS:=HS8;have BKe:=BK8;have BKa:=BK7;have HCE:=HC8;clear HS8 BK8 BK7 HC8;have hca:w11.cell? ⟨ga,0,none⟩=some (.int .i64 (rd l0_1 x21)):=(zf BKa.out 0).trans rfl)
                                  |((with_reducible refine jJ (f:=136) rfl ?_);refine vV (some 44) rfl rfl Tryz.func136 (by kernel_rfl) rfl #[.int .i64 (Go.bits .andNot .i64 (rd l0_1 x28) (rd l0_1 x21))] rfl (by (try simp only [List.map_toArray,List.map_cons,List.map_nil]);first|done|rfl) ?_;(with_reducible refine (qt.calls k3 _ fs _ HF.out).mono ?_);rintro e w12 ⟨vf,rfl,ho,hb⟩;refine ⟨_,rfl,?_⟩;obtain ⟨Af,cf,ef⟩:=Kd.zy ho;subst ef;have HCF:=Aside0.mk (Kd.zc ho).2.2;have HLF2:=Aside0.mk (Kd.zc ho).2.1;have HS8:=Aside0.mk (HS.out.below hb);have BK8:=Aside0.mk (zR BKe.out hb);have BK7:=Aside0.mk (zR BKa.out hb);have HC8:=Aside0.mk (Kd.zq HCE.out hb);clear ho hb BKe HS BKa HCE hca;have HS:=HS8;have BKe:=BK8;have BKa:=BK7;have HCE:=HC8;clear HS8 BK8 BK7 HC8))
                                refine (vU (zt.q k3 l0_1 (rd l0_1 x21) (rd es x37)) _ _ (enters_of Tryz.func137 (by kernel_rfl) rfl) _ _ fs false _ (zt.pred k3 l0_1 (rd l0_1 x21) (rd es x37) a0_0 _ c0_1 gm ga ge _ HS.out.m BKa.out BKe.out HS.out.C HC.out) HCF.out HLF2.out HLF.out HAny.out).mono ?_
                                rintro e w13 ⟨rfl,hb⟩
                                have HS8:=Aside0.mk (HS.out.below hb)
                                have BK8:=Aside0.mk (zR BKe.out hb)
                                have BK7:=Aside0.mk (zR BKa.out hb)
                                have HC8:=Aside0.mk (Kd.zq HCE.out hb)
                                clear hb BKe HS BKa HCE HCF
                                have HS:=HS8
                                have BKe:=BK8
                                have BKa:=BK7
                                have HCE:=HC8
                                clear HS8 BK8 BK7 HC8
                                have hca:w13.cell? ⟨ga,0,none⟩=some (.int .i64 (rd l0_1 x21)):=(zf BKa.out 0).trans rfl
                                have hce:w13.cell? ⟨ge,0,none⟩=some (.int .i64 (rd es x37)):=(zf BKe.out 0).trans rfl
                                have hcr0:w13.cell? ⟨gr,0,none⟩=some (.int .i64 0):=(zf HS.out.r 0).trans rfl
                                have hcr1:w13.cell? ⟨gr,1,none⟩=some (.int .i64 0):=(zf HS.out.r 1).trans rfl
                                have hcr2:w13.cell? ⟨gr,2,none⟩=some (.int .i64 0):=(zf HS.out.r 2).trans rfl
                                have hfr0:=zk HS.out.r 0
                                have hfr1:=zk HS.out.r 1
                                have hfr2:=zk HS.out.r 2
                                go_wp2
                                refine bodyPost_ret (jy rfl _ _ gr 63 #[.int .i64 (rd l0_1 x21),.int .i64 (rd l0_1 x28),.int .i64 (rd es x37)] (0,0) _ rfl (by refine zp (cs:=#[.int .i64 (rd l0_1 x21),.int .i64 (rd l0_1 x28),.int .i64 0]) ?_ 2 _ rfl;refine zp (cs:=#[.int .i64 (rd l0_1 x21),.int .i64 0,.int .i64 0]) ?_ 1 _ rfl;refine zp (cs:=#[.int .i64 0,.int .i64 0,.int .i64 0]) ?_ 0 _ rfl;exact HS.out.r) Tryz.underlying63 rfl (by kernel_rfl)) rfl ?_
                                exact ⟨rfl,by repeat (first|exact HS.out.B|refine vr ?_ HGr.out)⟩
                            · rw [if_neg c7] at H
                              exact absurd H (by simp)
                          · rw [if_neg c6] at H
                            exact absurd H (by simp)
                        · rw [if_neg c5] at H
                          have H1:=Aside0.mk H
                          clear H
                          have c5b0:decide (x37< (es.length:Int))=false:=decide_eq_false c5
                          clear c5
                          go_wp2
                          go_roundg k3
                          case measure=>have:=HK1.out;have:=HK2.out;have:=HK3.out;omega
                          case rel=>exact ⟨wrap64 (x28+1),rfl,H1,⟨by have:=HK2.out;have:=HK3.out;omega⟩,HS,BKa⟩
                  · rw [if_neg c4] at H
                    exact absurd H (by simp)
                · rw [if_neg c3] at H
                  have H1:=Aside0.mk H
                  clear H
                  have c3b0:decide (x28< (l0_1.length:Int))=false:=decide_eq_false c3
                  clear c3
                  go_wp2
                  go_roundg k2
                  case measure=>have:=HK1.out;have:=HK2.out;omega
                  case rel=>exact ⟨wrap64 (x21+1),rfl,H1,⟨by have:=HK1.out;have:=HK2.out;omega⟩,HS⟩
          · rw [if_neg c2] at H
            exact absurd H (by simp)
        · rw [if_neg c1] at H
          simp only [Option.some.injEq,Prod.mk.injEq] at H
          obtain ⟨rfl,rfl,rfl,rfl⟩:=H
          have c1b0:decide (x21< (l0_1.length:Int))=false:=decide_eq_false c1
          clear c1
          have hne:=HNE.out
          have hne2:=HNE.out.symm
          have hcr0:wr.cell? ⟨gr,0,none⟩=some (.int .i64 0):=(zf HS.out.r 0).trans rfl
          have hcr1:wr.cell? ⟨gr,1,none⟩=some (.int .i64 0):=(zf HS.out.r 1).trans rfl
          have hcr2:wr.cell? ⟨gr,2,none⟩=some (.int .i64 0):=(zf HS.out.r 2).trans rfl
          have hfr0:=zk HS.out.r 0
          have hfr1:=zk HS.out.r 1
          have hfr2:=zk HS.out.r 2
          go_wp2
          refine bodyPost_ret (jy rfl _ _ gr 63 #[.int .i64 0,.int .i64 0,.int .i64 0] (0,0) _ rfl (by refine zp (cs:=#[.int .i64 0,.int .i64 0,.int .i64 0]) ?_ 2 _ rfl;refine zp (cs:=#[.int .i64 0,.int .i64 0,.int .i64 0]) ?_ 1 _ rfl;refine zp (cs:=#[.int .i64 0,.int .i64 0,.int .i64 0]) ?_ 0 _ rfl;exact HS.out.r) Tryz.underlying63 rfl (by kernel_rfl)) rfl ?_
          exact ⟨rfl,by repeat (first|exact HS.out.B|refine vr ?_ HGr.out)⟩
end F
end
section
namespace F
open Go.RowKit Wa Wb Wc
attribute [local go_sem] jS jQ vv vx jv ju jP jO
def zG.f (k:Nat)(a0_0:Int)(l0_1:List Int):Option (Bool):=(zt.f k a0_0 l0_1).bind fun bt538=>((qB.f k a0_0 l0_1).bind fun t543=>(if t543=true then (if (l0_1.length:Int)>0 then (some (!bt538.2.2.2)) else (some false)) else (some false)))
theorem zG.calls (k:Nat)(a0_0:Int)(A0_1:Option Addr)(c0_1:Nat)(l0_1:List Int)(r:Bool)(w:World)(hr0_1:Kd.C (Kd.int .i64) w A0_1 l0_1.length l0_1)(hc0_1:l0_1.length≤c0_1)(h:zG.f k a0_0 l0_1=some r):Calls Tryz.prog 52 #[.agg #[.int .i64 a0_0,.slice A0_1 l0_1.length c0_1]] w fun e w'=>e= .returned (.bool r)∧Below w.heap.size w w':=by have hu26:=Tryz.underlying26;have hu63:=Tryz.underlying63;have HR0_1:=Aside0.mk hr0_1;have HC0_1:=Aside0.mk hc0_1;clear hr0_1 hc0_1;have HB:=Aside0.mk (Below.refl w.heap.size w);have H:=h;unfold zG.f at H;clear h;replace H:=zr H;obtain ⟨⟨t538,t539,t540,t541⟩,A2,H⟩:=H;(try dsimp only at H);replace H:=zr H;obtain ⟨t543,A3,H⟩:=H;by_cases c4:t543=true;(·subst c4;rw [if_pos rfl] at H;by_cases c5:(l0_1.length:Int)>0;(·rw [if_pos c5] at H;have c5b0:decide (0< (l0_1.length:Int))=true:=decide_eq_true c5;have c5b1:decide (0<l0_1.length)=true:=decide_eq_true (by omega);clear c5;obtain rfl:=Option.some.inj H;go_enter Tryz.func52,Tryz.ntmps52;(go_wp2_with (first|((with_reducible refine sqd 1 ?_);(try (refine ji (by rfl) ?_;dsimp only));refine qm ?hg (N:=1) ?hd (cs:=#[.int .i64 a0_0,.slice A0_1 l0_1.length c0_1]) (t:=26) ?hr ?_;(case hd=>rfl);(case hg=>rfl);(case hr=>exact sqG);intro gb537 hg w6 hbox hb;have q_:=f4 (za sqB hb) hbox (sqS hg:w.heap.size≤gb537) (sqS hg:w.heap.size≤gb537);clear HB;obtain ⟨HB,BK537,GW537,GE537⟩:=q_;clear hb hbox hg;obtain ⟨_,_,_,_⟩:=z2 BK537.out)|((with_reducible refine sqc 108 ?_);refine sql 7 Tryz.func108 #[.agg #[.int .i64 a0_0,.slice A0_1 l0_1.length c0_1]] ?_;(with_reducible refine (zt.calls k a0_0 _ _ l0_1 t538 t539 t540 t541 _ ?side1 ?side2 A2.out).mono ?_);(case side1=>exact sqC (Kd.zq HR0_1.out HB.out));(case side2=>exact HC0_1.out);rintro e w8 ⟨rfl,hb⟩;refine ⟨_,rfl,?_⟩;have q_:=f2 (sqh BK537 hb) (za sqB hb);clear BK537 HB;obtain ⟨BK537,HB⟩:=q_)|((with_reducible refine sqd 3 ?_);(try (refine ji (by rfl) ?_;dsimp only));refine qm ?hg (N:=3) ?hd (cs:=#[.int .i64 0,.int .i64 0,.int .i64 0]) (t:=63) ?hr ?_;(case hd=>rfl);(case hg=>rfl);(case hr=>exact sqG);intro gb542 hg w9 hbox hb;have q_:=f7 (sqh BK537 hb) (za sqB hb) hbox (sqS hg:w.heap.size≤gb542) (sqS hg:w.heap.size≤gb542) (sqn BK537 hg) (sqm BK537 hg);clear BK537 HB;obtain ⟨BK537,HB,BK542,GW542,GE542,NB537_542,NB542_537⟩:=q_;clear hb hbox hg;have hnb10:=NB542_537.out;have hnc10:=NB537_542.out;have hcz11_0:w9.cell? ⟨gb542,0,none⟩=some (.int .i64 0):=(zf BK542.out 0).trans rfl;have hcz11_1:w9.cell? ⟨gb542,1,none⟩=some (.int .i64 0):=(zf BK542.out 1).trans rfl;have hcz11_2:w9.cell? ⟨gb542,2,none⟩=some (.int .i64 0):=(zf BK542.out 2).trans rfl;have hfz11_0:=zk BK542.out 0;have hfz11_1:=zk BK542.out 1;have hfz11_2:=zk BK542.out 2;obtain ⟨_,_,_,_⟩:=z2 BK537.out)|((with_reducible refine sqc 57 ?_);refine sql 14 Tryz.func57 #[.int .i64 a0_0,.slice A0_1 l0_1.length c0_1] ?_;(with_reducible refine (qB.calls k a0_0 _ _ l0_1 true _ ?side1 ?side2 A3.out).mono ?_);(case side1=>exact Kd.zq HR0_1.out sqB);(case side2=>exact HC0_1.out);rintro e w' ⟨rfl,⟨nd,rfl⟩⟩;refine ⟨_,rfl,?_⟩)));go_ret;exact ⟨sqE,sqB⟩);(·rw [if_neg c5] at H;have c5b0:decide (0< (l0_1.length:Int))=false:=decide_eq_false c5;have c5b1:decide (0<l0_1.length)=false:=decide_eq_false (by omega);clear c5;obtain rfl:=Option.some.inj H;go_enter Tryz.func52,Tryz.ntmps52;(go_wp2_with (first|((with_reducible refine sqd 1 ?_);(try (refine ji (by rfl) ?_;dsimp only));refine qm ?hg (N:=1) ?hd (cs:=#[.int .i64 a0_0,.slice A0_1 l0_1.length c0_1]) (t:=26) ?hr ?_;(case hd=>rfl);(case hg=>rfl);(case hr=>exact sqG);intro gb537 hg w13 hbox hb;have q_:=f4 (za sqB hb) hbox (sqS hg:w.heap.size≤gb537) (sqS hg:w.heap.size≤gb537);clear HB;obtain ⟨HB,BK537,GW537,GE537⟩:=q_;clear hb hbox hg;obtain ⟨_,_,_,_⟩:=z2 BK537.out)|((with_reducible refine sqc 108 ?_);refine sql 7 Tryz.func108 #[.agg #[.int .i64 a0_0,.slice A0_1 l0_1.length c0_1]] ?_;(with_reducible refine (zt.calls k a0_0 _ _ l0_1 t538 t539 t540 t541 _ ?side1 ?side2 A2.out).mono ?_);(case side1=>exact sqC (Kd.zq HR0_1.out HB.out));(case side2=>exact HC0_1.out);rintro e w15 ⟨rfl,hb⟩;refine ⟨_,rfl,?_⟩;have q_:=f2 (sqh BK537 hb) (za sqB hb);clear BK537 HB;obtain ⟨BK537,HB⟩:=q_)|((with_reducible refine sqd 3 ?_);(try (refine ji (by rfl) ?_;dsimp only));refine qm ?hg (N:=3) ?hd (cs:=#[.int .i64 0,.int .i64 0,.int .i64 0]) (t:=63) ?hr ?_;(case hd=>rfl);(case hg=>rfl);(case hr=>exact sqG);intro gb542 hg w16 hbox hb;have q_:=f7 (sqh BK537 hb) (za sqB hb) hbox (sqS hg:w.heap.size≤gb542) (sqS hg:w.heap.size≤gb542) (sqn BK537 hg) (sqm BK537 hg);clear BK537 HB;obtain ⟨BK537,HB,BK542,GW542,GE542,NB537_542,NB542_537⟩:=q_;clear hb hbox hg;have hnb17:=NB542_537.out;have hnc17:=NB537_542.out;have hcz18_0:w16.cell? ⟨gb542,0,none⟩=some (.int .i64 0):=(zf BK542.out 0).trans rfl;have hcz18_1:w16.cell? ⟨gb542,1,none⟩=some (.int .i64 0):=(zf BK542.out 1).trans rfl;have hcz18_2:w16.cell? ⟨gb542,2,none⟩=some (.int .i64 0):=(zf BK542.out 2).trans rfl;have hfz18_0:=zk BK542.out 0;have hfz18_1:=zk BK542.out 1;have hfz18_2:=zk BK542.out 2;obtain ⟨_,_,_,_⟩:=z2 BK537.out)|((with_reducible refine sqc 57 ?_);refine sql 14 Tryz.func57 #[.int .i64 a0_0,.slice A0_1 l0_1.length c0_1] ?_;(with_reducible refine (qB.calls k a0_0 _ _ l0_1 true _ ?side1 ?side2 A3.out).mono ?_);(case side1=>exact Kd.zq HR0_1.out sqB);(case side2=>exact HC0_1.out);rintro e w' ⟨rfl,⟨nd,rfl⟩⟩;refine ⟨_,rfl,?_⟩)));go_ret;exact ⟨sqE,sqB⟩));(·obtain rfl:=sqf c4;rw [if_neg sqz] at H;obtain rfl:=Option.some.inj H;go_enter Tryz.func52,Tryz.ntmps52;(go_wp2_with (first|((with_reducible refine sqd 1 ?_);(try (refine ji (by rfl) ?_;dsimp only));refine qm ?hg (N:=1) ?hd (cs:=#[.int .i64 a0_0,.slice A0_1 l0_1.length c0_1]) (t:=26) ?hr ?_;(case hd=>rfl);(case hg=>rfl);(case hr=>exact sqG);intro gb537 hg w20 hbox hb;have q_:=f4 (za sqB hb) hbox (sqS hg:w.heap.size≤gb537) (sqS hg:w.heap.size≤gb537);clear HB;obtain ⟨HB,BK537,GW537,GE537⟩:=q_;clear hb hbox hg;obtain ⟨_,_,_,_⟩:=z2 BK537.out)|((with_reducible refine sqc 108 ?_);refine sql 7 Tryz.func108 #[.agg #[.int .i64 a0_0,.slice A0_1 l0_1.length c0_1]] ?_;(with_reducible refine (zt.calls k a0_0 _ _ l0_1 t538 t539 t540 t541 _ ?side1 ?side2 A2.out).mono ?_);(case side1=>exact sqC (Kd.zq HR0_1.out HB.out));(case side2=>exact HC0_1.out);rintro e w22 ⟨rfl,hb⟩;refine ⟨_,rfl,?_⟩;have q_:=f2 (sqh BK537 hb) (za sqB hb);clear BK537 HB;obtain ⟨BK537,HB⟩:=q_)|((with_reducible refine sqd 3 ?_);(try (refine ji (by rfl) ?_;dsimp only));refine qm ?hg (N:=3) ?hd (cs:=#[.int .i64 0,.int .i64 0,.int .i64 0]) (t:=63) ?hr ?_;(case hd=>rfl);(case hg=>rfl);(case hr=>exact sqG);intro gb542 hg w23 hbox hb;have q_:=f7 (sqh BK537 hb) (za sqB hb) hbox (sqS hg:w.heap.size≤gb542) (sqS hg:w.heap.size≤gb542) (sqn BK537 hg) (sqm BK537 hg);clear BK537 HB;obtain ⟨BK537,HB,BK542,GW542,GE542,NB537_542,NB542_537⟩:=q_;clear hb hbox hg;have hnb24:=NB542_537.out;have hnc24:=NB537_542.out;have hcz25_0:w23.cell? ⟨gb542,0,none⟩=some (.int .i64 0):=(zf BK542.out 0).trans rfl;have hcz25_1:w23.cell? ⟨gb542,1,none⟩=some (.int .i64 0):=(zf BK542.out 1).trans rfl;have hcz25_2:w23.cell? ⟨gb542,2,none⟩=some (.int .i64 0):=(zf BK542.out 2).trans rfl;have hfz25_0:=zk BK542.out 0;have hfz25_1:=zk BK542.out 1;have hfz25_2:=zk BK542.out 2;obtain ⟨_,_,_,_⟩:=z2 BK537.out)|((with_reducible refine sqc 57 ?_);refine sql 14 Tryz.func57 #[.int .i64 a0_0,.slice A0_1 l0_1.length c0_1] ?_;(with_reducible refine (qB.calls k a0_0 _ _ l0_1 false _ ?side1 ?side2 A3.out).mono ?_);(case side1=>exact Kd.zq HR0_1.out sqB);(case side2=>exact HC0_1.out);rintro e w' ⟨rfl,⟨nd,rfl⟩⟩;refine ⟨_,rfl,?_⟩)));go_ret;exact ⟨sqE,sqB⟩)
def yG.f (k:Nat)(a0_0:Int)(l0_1:List Int)(a1:Int):Option (Bool):=(zG.f k a0_0 l0_1).bind fun t623=>(if t623=true then ((jU.f a0_0 a1).bind fun t624=>(some t624)) else (some false))
theorem yG.calls (k:Nat)(a0_0:Int)(A0_1:Option Addr)(c0_1:Nat)(l0_1:List Int)(a1:Int)(r:Bool)(w:World)(hr0_1:Kd.C (Kd.int .i64) w A0_1 l0_1.length l0_1)(hc0_1:l0_1.length≤c0_1)(h:yG.f k a0_0 l0_1 a1=some r):Calls Tryz.prog 88 #[.agg #[.int .i64 a0_0,.slice A0_1 l0_1.length c0_1],.int .i64 a1] w fun e w'=>e= .returned (.bool r)∧Below w.heap.size w w':=by have hu26:=Tryz.underlying26;have HR0_1:=Aside0.mk hr0_1;have HC0_1:=Aside0.mk hc0_1;clear hr0_1 hc0_1;have HB:=Aside0.mk (Below.refl w.heap.size w);have H:=h;unfold yG.f at H;clear h;replace H:=zr H;obtain ⟨t623,A3,H⟩:=H;by_cases c4:t623=true;(·subst c4;rw [if_pos rfl] at H;replace H:=zr H;obtain ⟨t624,A5,H⟩:=H;obtain rfl:=Option.some.inj H;go_enter Tryz.func88,Tryz.ntmps88;(go_wp2_with (first|((with_reducible refine sqd 2 ?_);refine sqx #[.int .i64 a0_0,.slice A0_1 l0_1.length c0_1] 26 ?_;intro gb622 hg w6 hbox hb;have q_:=f4 (za sqB hb) hbox (sqS hg:w.heap.size≤gb622) (sqS hg:w.heap.size≤gb622);clear HB;obtain ⟨HB,BK622,GW622,GE622⟩:=q_;clear hb hbox hg;obtain ⟨_,_,_,_⟩:=z2 BK622.out)|((with_reducible refine sqc 52 ?_);refine sql 6 Tryz.func52 #[.agg #[.int .i64 a0_0,.slice A0_1 l0_1.length c0_1]] ?_;(with_reducible refine (zG.calls k a0_0 _ _ l0_1 true _ ?side1 ?side2 A3.out).mono ?_);(case side1=>exact sqC (Kd.zq HR0_1.out HB.out));(case side2=>exact HC0_1.out);rintro e w8 ⟨rfl,hb⟩;refine ⟨_,rfl,?_⟩;have q_:=f2 (sqh BK622 hb) (za sqB hb);clear BK622 HB;obtain ⟨BK622,HB⟩:=q_;obtain ⟨_,_,_,_⟩:=z2 BK622.out)|(go_at_call 115;(try simp only [zA,zI]);(with_reducible refine (jU.calls a0_0 a1 t624 _ A5.out).mono ?_);rintro e w' ⟨rfl,⟨nd,rfl⟩⟩)));go_ret;exact ⟨sqE,sqB⟩);(·obtain rfl:=sqf c4;rw [if_neg sqz] at H;obtain rfl:=Option.some.inj H;go_enter Tryz.func88,Tryz.ntmps88;(go_wp2_with (first|((with_reducible refine sqd 2 ?_);refine sqx #[.int .i64 a0_0,.slice A0_1 l0_1.length c0_1] 26 ?_;intro gb622 hg w10 hbox hb;have q_:=f4 (za sqB hb) hbox (sqS hg:w.heap.size≤gb622) (sqS hg:w.heap.size≤gb622);clear HB;obtain ⟨HB,BK622,GW622,GE622⟩:=q_;clear hb hbox hg;obtain ⟨_,_,_,_⟩:=z2 BK622.out)|((with_reducible refine sqc 52 ?_);refine sql 6 Tryz.func52 #[.agg #[.int .i64 a0_0,.slice A0_1 l0_1.length c0_1]] ?_;(with_reducible refine (zG.calls k a0_0 _ _ l0_1 false _ ?side1 ?side2 A3.out).mono ?_);(case side1=>exact sqC (Kd.zq HR0_1.out HB.out));(case side2=>exact HC0_1.out);rintro e w12 ⟨rfl,hb⟩;refine ⟨_,rfl,?_⟩;have q_:=f2 (sqh BK622 hb) (za sqB hb);clear BK622 HB;obtain ⟨BK622,HB⟩:=q_)));go_ret;exact ⟨sqE,sqB⟩)
end F
end
end Go.Proofs.YtpgkkofiiokhaaaGreat
section
namespace Go.Proofs
open Go.Shelf
def Tryz.zau:Go.Shelf.Ren:=⟨fun|189=>129|125=>143|257=>142|128=>160|129=>161|294=>151|295=>152|296=>153|297=>154|298=>155|299=>156|216=>157|300=>158|301=>159|328=>166|329=>167|330=>168|331=>169|332=>170|215=>171|343=>174|n=>n,fun|28=>24|3=>3|46=>61|0=>0|51=>88|53=>90|4=>4|183=>100|182=>99|131=>92|5=>5|9=>9|218=>108|222=>112|228=>115|229=>116|n=>n,fun|n=>n⟩
theorem Tryz.zbm:Go.Proofs.Lays.n189 Tryz.prog Tryz.zau:= {
  mixed:=by kernel_rfl
  f125:=Tryz.func143.trans (congrArg some (by kernel_rfl))
  f128:=Tryz.func160.trans (congrArg some (by kernel_rfl))
  f129:=Tryz.func161.trans (congrArg some (by kernel_rfl))
  f189:=Tryz.func129.trans (congrArg some (by kernel_rfl))
  f215:=Tryz.func171.trans (congrArg some (by kernel_rfl))
  f216:=Tryz.func157.trans (congrArg some (by kernel_rfl))
  f257:=Tryz.func142.trans (congrArg some (by kernel_rfl))
  f294:=Tryz.func151.trans (congrArg some (by kernel_rfl))
  f295:=Tryz.func152.trans (congrArg some (by kernel_rfl))
  f296:=Tryz.func153.trans (congrArg some (by kernel_rfl))
  f297:=Tryz.func154.trans (congrArg some (by kernel_rfl))
  f298:=Tryz.func155.trans (congrArg some (by kernel_rfl))
  f299:=Tryz.func156.trans (congrArg some (by kernel_rfl))
  f300:=Tryz.func158.trans (congrArg some (by kernel_rfl))
  f301:=Tryz.func159.trans (congrArg some (by kernel_rfl))
  f328:=Tryz.func166.trans (congrArg some (by kernel_rfl))
  f329:=Tryz.func167.trans (congrArg some (by kernel_rfl))
  f330:=Tryz.func168.trans (congrArg some (by kernel_rfl))
  f331:=Tryz.func169.trans (congrArg some (by kernel_rfl))
  f332:=Tryz.func170.trans (congrArg some (by kernel_rfl))
  f343:=Tryz.func174.trans (congrArg some (by kernel_rfl))
  t0:=Tryz.underlying0
  a0:=Tryz.isAgg0
  z0:=Tryz.sizeOf0
  v0:=Tryz.zeroValue0
  t3:=Tryz.underlying3
  a3:=Tryz.isAgg3
  z3:=Tryz.sizeOf3
  v3:=Tryz.zeroValue3
  t4:=Tryz.underlying4
  a4:=Tryz.isAgg4
  z4:=Tryz.sizeOf4
  v4:=Tryz.zeroValue4
  t5:=Tryz.underlying5
  a5:=Tryz.isAgg5
  z5:=Tryz.sizeOf5
  v5:=Tryz.zeroValue5
  t9:=Tryz.underlying9
  a9:=Tryz.isAgg9
  z9:=Tryz.sizeOf9
  v9:=Tryz.zeroValue9
  t28:=Tryz.underlying24
  a28:=Tryz.isAgg24
  z28:=Tryz.sizeOf24
  v28:=Tryz.zeroValue24
  t46:=Tryz.underlying61
  a46:=Tryz.isAgg61
  z46:=Tryz.sizeOf61
  v46:=Tryz.zeroValue61
  t51:=Tryz.underlying88
  a51:=Tryz.isAgg88
  z51:=Tryz.sizeOf88
  v51:=Tryz.zeroValue88
  t53:=Tryz.underlying90
  a53:=Tryz.isAgg90
  z53:=Tryz.sizeOf90
  v53:=Tryz.zeroValue90
  t131:=Tryz.underlying92
  a131:=Tryz.isAgg92
  z131:=Tryz.sizeOf92
  v131:=Tryz.zeroValue92
  t182:=Tryz.underlying99
  a182:=Tryz.isAgg99
  z182:=Tryz.sizeOf99
  v182:=Tryz.zeroValue99
  t183:=Tryz.underlying100
  a183:=Tryz.isAgg100
  z183:=Tryz.sizeOf100
  v183:=Tryz.zeroValue100
  t218:=Tryz.underlying108
  a218:=Tryz.isAgg108
  z218:=Tryz.sizeOf108
  v218:=Tryz.zeroValue108
  t222:=Tryz.underlying112
  a222:=Tryz.isAgg112
  z222:=Tryz.sizeOf112
  v222:=Tryz.zeroValue112
  t228:=Tryz.underlying115
  a228:=Tryz.isAgg115
  z228:=Tryz.sizeOf115
  v228:=Tryz.zeroValue115
  t229:=Tryz.underlying116
  a229:=Tryz.isAgg116
  z229:=Tryz.sizeOf116
  v229:=Tryz.zeroValue116}
open Go.Sort Go.RowKit in
theorem Tryz.slices_Sort_int (blk off cap:Nat)(zs:List Int)(w:World)(hH:Holds (Value.int .i64) w blk off zs.toArray)(hblk:blk<w.heap.size)(hsz:zs.length<4611686018427387904):
    Calls Tryz.prog 129 #[.slice (some ⟨blk,off,none⟩) zs.length cap] w fun e w'=>
      e= .returned (.tuple #[])∧ ∃n os,w'=grow (putRow (Value.int .i64) (Sort.ahead w n) blk off (zs.mergeSort fun x y=>decide (x≤y)).toArray) os:=Any.slices_Sort_int Tryz.zbm blk off cap zs w hH hblk hsz
def Tryz.Yg:Go.Shelf.Ren:=⟨fun|20=>130|n=>n,fun|22=>24|3=>3|4=>4|0=>0|n=>n,fun|n=>n⟩
theorem Tryz.Yl:Go.Proofs.Lays2.n20 Tryz.prog Tryz.Yg:= {
  mixed:=by kernel_rfl
  f20:=Tryz.func130.trans (congrArg some (by kernel_rfl))
  t0:=Tryz.underlying0
  a0:=Tryz.isAgg0
  z0:=Tryz.sizeOf0
  v0:=Tryz.zeroValue0
  t3:=Tryz.underlying3
  a3:=Tryz.isAgg3
  z3:=Tryz.sizeOf3
  v3:=Tryz.zeroValue3
  t4:=Tryz.underlying4
  a4:=Tryz.isAgg4
  z4:=Tryz.sizeOf4
  v4:=Tryz.zeroValue4
  t22:=Tryz.underlying24
  a22:=Tryz.isAgg24
  z22:=Tryz.sizeOf24
  v22:=Tryz.zeroValue24
  i3:=by kernel_rfl}
open Go.RowKit Go.Lib Go.Sort in
theorem Tryz.slices_Compact_int (blk off cap:Nat)(zs:List Int)(w:World)(hH:Holds (Value.int .i64) w blk off zs.toArray)(hsz:zs.length≤9223372036854775807)(hcap:zs.length≤cap):
    Calls Tryz.prog 130 #[.slice (some ⟨blk,off,none⟩) zs.length cap] w fun e w'=>e= .returned (.slice (some ⟨blk,off,none⟩) (Lib.compact zs).length cap)∧ ∃q,w'=putRow (Value.int .i64) (Sort.ahead w q) blk off (Lib.compact zs++List.replicate (zs.length - (Lib.compact zs).length) 0).toArray:=Any.slices_Compact_int Tryz.Yl blk off cap zs w hH hsz hcap
open Go.RowKit Go.Lib Go.Sort in
theorem Tryz.slices_Compact_int_empty (a:Option Addr)(cap:Nat)(w:World):
    Calls Tryz.prog 130 #[.slice a 0 cap] w fun e w'=>e= .returned (.slice a 0 cap)∧w'=w:=Any.slices_Compact_int_empty Tryz.Yl a cap w
open Go.RowKit Go.Sort in
theorem Tryz.slices_Sort_int_none (p:Option Addr)(cap:Nat)(w:World):
    Calls Tryz.prog 129 #[.slice p 0 cap] w fun e w'=>e= .returned (.tuple #[])∧w'=w:=Any.slices_Sort_int_none Tryz.zbm p cap w
end Go.Proofs
end
namespace Go.Proofs.YtpgkkofiiokhaaaGreat
section
namespace Mt
def sdiff (a b:Nat):Nat:=a ^^^(a &&&b)
theorem qd (a b i:Nat):(sdiff a b).testBit i=(a.testBit i&& !b.testBit i):=by
  simp [sdiff,Nat.testBit_xor,Nat.testBit_and];cases a.testBit i<;>cases b.testBit i<;>rfl
def elems (s:Nat):List Nat:=(List.range 8).filter s.testBit
theorem vn {s e:Nat}:e∈elems s↔e<8∧s.testBit e=true:=by simp [elems]
end Mt
end
section
namespace Mt
def ZO (l:List Int):List Int:=Go.Lib.compact (l.mergeSort fun x y=>decide (x≤y))
theorem V0 (d:Array Int)(n:Nat)(hd: ∀i j:Nat,i≤j→j<n→d[i]! ≤d[j]!): ∀m,m≤n→(Go.Lib.compactUpTo d m).Pairwise (· < ·)∧ ∀x,x∈Go.Lib.compactUpTo d m↔ ∃j,j<m∧d[j]! =x
  |0,_=>⟨by simp [Go.Lib.compactUpTo],fun x=>by simp [Go.Lib.compactUpTo]⟩
  |m+1,hm=>by
    obtain ⟨h1,h2⟩:=V0 d n hd m (by omega)
    rw [Go.Lib.compactUpTo_succ]
    by_cases k:Go.Lib.keeps d m=true
    · simp only [k,if_true]
      refine ⟨List.pairwise_append.2 ⟨h1,by simp,fun a ha b hb=> ?_⟩,fun x=> ?_⟩
      · obtain ⟨j,hj,rfl⟩:=(h2 a).1 ha
        simp only [List.mem_singleton] at hb
        subst hb
        have h3:=hd j (m - 1) (by omega) (by omega)
        have h4:=hd (m - 1) m (by omega) (by omega)
        have h5:d[m]! ≠d[m - 1]! :=by
          simp only [Go.Lib.keeps,decide_eq_true_eq] at k
          rcases k with k|k
          · omega
          · exact k
        omega
      · rw [List.mem_append,h2,List.mem_singleton]
        constructor
        · rintro (⟨j,hj,e⟩|e)
          · exact ⟨j,by omega,e⟩
          · exact ⟨m,by omega,e.symm⟩
        · rintro ⟨j,hj,e⟩
          by_cases c:j=m
          · subst c;exact .inr e.symm
          · exact .inl ⟨j,by omega,e⟩
    · simp only [k,if_false,List.append_nil,Bool.false_eq_true]
      refine ⟨h1,fun x=> ?_⟩
      rw [h2]
      simp only [Go.Lib.keeps,decide_eq_true_eq] at k
      constructor
      · rintro ⟨j,hj,e⟩;exact ⟨j,by omega,e⟩
      · rintro ⟨j,hj,e⟩
        by_cases c:j=m
        · subst c
          by_cases c0:j=0
          · exact absurd (.inl c0) k
          · exact ⟨j - 1,by omega,by
              by_cases c1:d[j]! =d[j - 1]!
              · rw [←c1];exact e
              · exact absurd (.inr c1) k⟩
        · exact ⟨j,by omega,e⟩
theorem Vj (l:List Int)(j:Nat)(h:j<l.length):l.toArray[j]! =l[j]:=by
  rw [getElem!_pos l.toArray j (by simpa using h)];simp
theorem QV (l:List Int)(h:l.Pairwise (· ≤ ·)):(Go.Lib.compact l).Pairwise (· < ·)∧ ∀x,x∈Go.Lib.compact l↔x∈l:=by
  have hd: ∀i j:Nat,i≤j→j<l.length→l.toArray[i]! ≤l.toArray[j]! :=fun i j hij hj=>by
    rw [Vj l i (by omega),Vj l j hj]
    by_cases e:i=j
    · subst e;exact Int.le_refl _
    · exact List.pairwise_iff_getElem.1 h i j (by omega) hj (by omega)
  obtain ⟨h1,h2⟩:=V0 l.toArray l.length hd l.length (Nat.le_refl _)
  refine ⟨h1,fun x=> ?_⟩
  unfold Go.Lib.compact
  rw [h2]
  constructor
  · rintro ⟨j,hj,rfl⟩;rw [Vj l j hj];exact List.getElem_mem hj
  · intro hx
    obtain ⟨j,hj,e⟩:=List.getElem_of_mem hx
    exact ⟨j,hj,by rw [Vj l j hj];exact e⟩
theorem za2 (l:List Int):(l.mergeSort fun x y=>decide (x≤y)).Pairwise (· ≤ ·):=by
  have:=List.pairwise_mergeSort (le:=fun x y:Int=>decide (x≤y)) (fun a b c h1 h2=>by simp only [decide_eq_true_eq] at*;omega) (fun a b=>by simp only [Bool.or_eq_true,decide_eq_true_eq];omega) l
  exact this.imp fun h=>by simpa using h
theorem Qe (l:List Int):(ZO l).Pairwise (· < ·):=(QV _ (za2 l)).1
theorem JP {l:List Int}{x:Int}:x∈ZO l↔x∈l:=by
  unfold ZO
  rw [(QV _ (za2 l)).2,List.mem_mergeSort]
theorem QJ (l:List Int):(ZO l).length≤l.length:=by
  have:=Go.Lib.compact_length_le (l.mergeSort fun x y=>decide (x≤y))
  rwa [List.length_mergeSort] at this
theorem JV: ∀ {l l':List Int},l.Pairwise (· < ·)→l'.Pairwise (· < ·)→(∀x,x∈l↔x∈l')→l=l'
  | [],[],_,_,_=>rfl
  | [],b::_,_,_,hm=>absurd ((hm b).2 (List.mem_cons_self ..)) (by simp)
  |a::_,[],_,_,hm=>absurd ((hm a).1 (List.mem_cons_self ..)) (by simp)
  |a::l,b::l',h,h',hm=>by
    rw [List.pairwise_cons] at h h'
    have hab:a=b:=by
      rcases List.mem_cons.1 ((hm a).1 (List.mem_cons_self ..)) with e|e
      · exact e
      · rcases List.mem_cons.1 ((hm b).2 (List.mem_cons_self ..)) with e'|e'
        · exact e'.symm
        · have:=h'.1 a e;have:=h.1 b e';omega
    subst hab
    rw [JV h.2 h'.2 fun x=>⟨fun hx=>by
      rcases List.mem_cons.1 ((hm x).1 (List.mem_cons_of_mem _ hx)) with e|e
      · subst e;have:=h.1 x hx;omega
      · exact e,fun hx=>by
      rcases List.mem_cons.1 ((hm x).2 (List.mem_cons_of_mem _ hx)) with e|e
      · subst e;have:=h'.1 x hx;omega
      · exact e⟩]
theorem Jl {l l':List Int}(h:l'.Pairwise (· < ·))(hm: ∀x,x∈l'↔x∈l):ZO l=l':=
  JV (Qe l) h fun x=>by rw [JP,hm]
end Mt
end
section
namespace F
open Go.RowKit Wa Wb Wc Go.Sort
theorem zaI (v:Value)(l:List Int)(base:Nat)(w0 w:World)(hb:Below base w0 w)(hs:base≤w.heap.size)(ho:Kd.R (Kd.int .i64) 3 w base (fun _=>True) v l)(hl:l.length<4611686018427387904):
    Calls Tryz.prog 129 #[v] w fun e w'=>e= .returned (.tuple #[])∧Kd.R (Kd.int .i64) 3 w' base (fun _=>True) v (l.mergeSort fun x y=>decide (x≤y))∧Below base w0 w'∧base≤w'.heap.size:=by
  have hown:=Kd.yN ho
  rcases hown.2 with ⟨rfl,hz⟩|⟨g,cap,cur,rfl,hbase,hblk,h1,h2,h3,h4⟩
  · have hl0:l=[]:=List.eq_nil_of_length_eq_zero hz
    subst hl0
    refine (Tryz.slices_Sort_int_none none 0 w).mono ?_
    rintro e w' ⟨rfl,rfl⟩
    exact ⟨rfl,by simpa using ho,hb,hs⟩
  · have hH:=holds_of_blockI hblk (by simpa [ZI] using h4)
    refine (Tryz.slices_Sort_int g 0 cap l w hH (Array.getElem?_eq_some_iff.1 hblk).1 hl).mono ?_
    rintro e w' ⟨rfl,nn,os,rfl⟩
    have hlen:(l.mergeSort fun x y=>decide (x≤y)).length=l.length:=List.length_mergeSort l
    have hr:=ownsRow_sortedI (n:=nn) (os:=os) (ts:=l.mergeSort fun x y=>decide (x≤y)) hlen hbase hblk h1 h2 h3
    have hB:=hb.grown (grownBy_sortedI (l.mergeSort fun x y=>decide (x≤y)).toArray (w:=w) (g:=g) (n:=nn) (os:=os)) hs (fun j hj=>by cases hj;exact hbase)
    refine ⟨rfl,Kd.Z7 (by rw [hlen];exact hr) (fun _ _=>trivial),hB,Nat.le_trans hs (grownBy_sortedI _).size⟩
theorem Yc (v:Value)(l:List Int)(base:Nat)(w0 w:World)(hb:Below base w0 w)(hs:base≤w.heap.size)(ho:Kd.R (Kd.int .i64) 3 w base (fun _=>True) v l)(hl:l.length≤9223372036854775807):
    Calls Tryz.prog 130 #[v] w fun e w'=> ∃v',e= .returned v'∧Kd.R (Kd.int .i64) 3 w' base (fun _=>True) v' (Lib.compact l)∧Below base w0 w':=by
  have hown:=Kd.yN ho
  rcases hown.2 with ⟨rfl,hz⟩|⟨g,cap,cur,rfl,hbase,hblk,h1,h2,h3,h4⟩
  · have hl0:l=[]:=List.eq_nil_of_length_eq_zero hz
    subst hl0
    refine (Tryz.slices_Compact_int_empty none 0 w).mono ?_
    rintro e w' ⟨rfl,rfl⟩
    exact ⟨_,rfl,by simpa [Lib.compact,Lib.compactUpTo] using ho,hb⟩
  · have hH:=holds_of_blockI hblk (by simpa [ZI] using h4)
    refine (Tryz.slices_Compact_int g 0 cap l w hH hl h1).mono ?_
    rintro e w' ⟨rfl,q,rfl⟩
    have hle:=Lib.compact_length_le l
    have hc:=Lib.ownsRow_putRow (q:=q) (k:=(Lib.compact l).length) (zs:=l) (ys:=Lib.compact l++List.replicate (l.length - (Lib.compact l).length) 0) hown (by simp;omega) hle
    rw [List.take_left] at hc
    exact ⟨_,rfl,Kd.Z7 hc (fun _ _=>trivial),Lib.below_putRow hb hbase⟩
def qH.f (_:Nat)(l:List Int):Option (List Int):=if l.length≤17592186044416 then some (Mt.ZO l) else none
theorem qH.calls (k:Nat)(A0:Option Addr)(c0:Nat)(l0:List Int)(r:List Int)(w:World)(hr0:Kd.C (Kd.int .i64) w A0 l0.length l0)(hc0:l0.length≤c0)(h:qH.f k l0=some r):
    Calls Tryz.prog 81 #[.slice A0 l0.length c0] w fun e w'=> ∃v0_:Value,e= .returned (v0_)∧Kd.R (Kd.int .i64) 3 w' w.heap.size (fun _=>True) v0_ r∧Below w.heap.size w w':=by
  unfold qH.f at h
  by_cases hl:l0.length≤17592186044416
  · rw [if_pos hl] at h
    obtain rfl:=Option.some.inj h
    have HB:=Aside0.mk (Below.refl w.heap.size w)
    have HR:=Aside0.mk hr0
    have HC:=Aside0.mk hc0
    have HL:=Aside0.mk hl
    obtain ⟨yL,hyL⟩: ∃y_:List Int,y_=(([]:List Int)):=⟨_,rfl⟩
    have NyL:=Aside0.mk hyL
    clear h hr0 hc0 hl hyL
    unfold Mt.ZO
    obtain ⟨yS,hyS⟩: ∃y_:List Int,y_=(l0.mergeSort fun x y=>decide (x≤y)):=⟨_,rfl⟩
    rw [←hyS]
    have NyS:=Aside0.mk hyS
    clear hyS
    go_enter Tryz.func81,Tryz.ntmps81
    go_wp2_with (first
      |((with_reducible refine jH (N:=4) rfl ?_);refine Kd.ZQ (Kd.int .i64) _ 3 ?hg (N:=4) ?hd (xs:=([]:List Int)) (inner:=[]) (ok:=fun _=>True) (okp:=fun _=>True) ?hr ?hp (fun _ hk=>hk) trivial (Below.refl _ _) (Nat.le_refl _) (by simp) ?_;(case hd=>rfl);(case hg=>rfl);(case hr=>exact sqG);(case hp=>exact (qS.none _ _));intro vL wL hoL hb hg_ hnew_;clear hg_ hnew_;(first|rw [←NyL.out] at hoL|(simp only [Int.reduceToNat] at hoL;rw [←NyL.out] at hoL));have n0_:=Aside0.mk (Kd.zw hoL (ze sqB));have n1_:=Aside0.mk (za sqB hb);clear HB;have HOL:=n0_;have HB:=n1_;clear n0_ n1_;clear hb hoL)
      |((with_reducible refine qy (b:= .append) (xs:=#[.tmp 4,.tmp 5]) rfl ?_);at_builtin;refine Kd.Zb (Kd.int .i64) (w0:=w) w.heap.size rfl (.tmp 4) (.tmp 5) 24 3 (.int .i64 0) 8 rfl Tryz.underlying24 j8 rfl (by decide) (by omega) vL yL l0 _ _ _ (fun _=>True) (fun _=>False) rfl rfl ?aO ?aR (fun _ _ h=>h) (fun _ h=>h.elim) ?aF ?aB ?aS ?aL ?_;(case aR=>exact sqC (Kd.zq HR.out HB.out));(case aB=>exact sqB);(case aF=>exact (fun _ _=>trivial));(case aO=>exact (sqR HOL.out));(case aS=>exact (ze sqB));(case aL=>have:=HL.out;have:=NyL.out;simp [this];omega);intro vA wA ho hb hg hat;have n2_:=Aside0.mk (hb);have n3_:=Aside0.mk (show Kd.R (Kd.int .i64) 3 wA w.heap.size (fun _=>True) vA l0 from by have:=NyL.out;rw [this,List.nil_append] at ho;exact ho);clear HB HOL;have HB:=n2_;have HOL:=n3_;clear n2_ n3_;clear ho hb hg hat)
      |(go_at_call 129;(with_reducible refine (zaI _ l0 w.heap.size w _ sqB (ze sqB) (sqR HOL.out) (by have:=HL.out;omega)).mono ?_);rintro e w2 ⟨rfl,ho,hb,hs⟩;(rw [←NyS.out] at ho);clear HB HOL;have HB:=Aside0.mk hb;have HOL:=Aside0.mk ho;clear ho hb hs)
      |(go_at_call 130;(with_reducible refine (Yc _ yS w.heap.size w _ sqB (ze sqB) (sqR HOL.out) (by have:=HL.out;have:=NyS.out;rw [this,List.length_mergeSort];omega)).mono ?_);rintro e w3 ⟨v3,rfl,ho,hb⟩;clear HB HOL;have HB:=Aside0.mk hb;have HOL:=Aside0.mk ho;clear ho hb))
    go_ret
    exact ⟨_,rfl,sqR HOL.out,sqB⟩
  · rw [if_neg hl] at h;exact absurd h (by simp)
end F
end
section
namespace F
open Go.RowKit Wa Wb Wc
attribute [local go_sem] jS jQ vv vx jv ju jP jO
mutual
def zE.j0:Nat→Bool→Int→List Int→Int→List Int→Option (Int×List Int×Bool)
 |0,_,_,_,_,_=>none
 |k+1,x26,x545000,x545001,x546000,x546001=>if x26=true then (some (0,([]:List Int),false)) else (zE.l0 k x545001 (x545001.length:Int) 0 x545000 x545001 x546000 x546001 (wrap64 (x545000+x546000)) ([]:List Int))
def zE.l0:Nat→List Int→Int→Int→Int→List Int→Int→List Int→Int→List Int→Option (Int×List Int×Bool)
 |0,_,_,_,_,_,_,_,_,_=>none
 |k+1,x35,x36,x37,x545000,x545001,x546000,x546001,x550000,x550001=>if x37<x36 then (if 0≤x37 then (if x37< (x35.length:Int) then (zE.l1 k (rd x35 x37) x35 x36 x37 x546001 (x546001.length:Int) 0 x545000 x545001 x546000 x546001 x550000 x550001) else (none)) else (none)) else ((qH.f k x550001).bind fun t550=>(some (x550000,t550,true)))
def zE.l1:Nat→Int→List Int→Int→Int→List Int→Int→Int→Int→List Int→Int→List Int→Int→List Int→Option (Int×List Int×Bool)
 |0,_,_,_,_,_,_,_,_,_,_,_,_,_=>none
 |k+1,x8,x35,x36,x37,x42,x43,x44,x545000,x545001,x546000,x546001,x550000,x550001=>if x44<x43 then (if 0≤x44 then (if x44< (x42.length:Int) then (if 0≤x545000 then (if x550001.length<17592186044416 then (zE.l1 k x8 x35 x36 x37 x42 x43 (wrap64 (x44+1)) x545000 x545001 x546000 x546001 x550000 (x550001++[Go.bits .or .i64 x8 (shl .i64 (rd x42 x44) x545000)])) else (none)) else (none)) else (none)) else (none)) else (zE.l0 k x35 x36 (wrap64 (x37+1)) x545000 x545001 x546000 x546001 x550000 x550001)
end
def zE.f (k:Nat)(a0_0:Int)(l0_1:List Int)(a1_0:Int)(l1_1:List Int):Option (Int×List Int×Bool):=(zG.f k a0_0 l0_1).bind fun t547=>(if t547=true then ((zG.f k a1_0 l1_1).bind fun t548=>(if t548=true then (zE.j0 k (decide ((wrap64 (a0_0+a1_0))>8)) a0_0 l0_1 a1_0 l1_1) else (zE.j0 k true a0_0 l0_1 a1_0 l1_1))) else (zE.j0 k true a0_0 l0_1 a1_0 l1_1))
def zE.T10:Bool×List (List Nat×List Nat):=(true,[([],[]),([0],[0]),([],[]),([],[]),([],[]),([4],[4]),([3,5],[3,5]),([2,6],[2,6]),([7],[7]),([1,8],[1,8]),([0,1,2,3,4,5,6,7,8,9],[]),([10,9,9,0,1,2,3,4,5,6,7,8,9],[9,10])])
def zE.B10:List Nat:=[0,1,0,0,0,16,56,124,252,511,1023,2047]
theorem zE.Vb:yo .any (opsOf Tryz.f29 10)=zE.T10:=by kernel_rfl
theorem zE.Qw:vu zE.T10.2 zE.B10=true:=by kernel_rfl
theorem zE.calls (k:Nat)(a0_0:Int)(A0_1:Option Addr)(c0_1:Nat)(l0_1:List Int)(a1_0:Int)(A1_1:Option Addr)(c1_1:Nat)(l1_1:List Int)(r1:Int)(r2:List Int)(r3:Bool)(w:World)(hr0_1:Kd.C (Kd.int .i64) w A0_1 l0_1.length l0_1)(hc0_1:l0_1.length≤c0_1)(hr1_1:Kd.C (Kd.int .i64) w A1_1 l1_1.length l1_1)(hc1_1:l1_1.length≤c1_1)(h:zE.f k a0_0 l0_1 a1_0 l1_1=some (r1,r2,r3)):Calls Tryz.prog 29 #[.agg #[.int .i64 a0_0,.slice A0_1 l0_1.length c0_1],.agg #[.int .i64 a1_0,.slice A1_1 l1_1.length c1_1]] w fun e w'=> ∃v1_:Value,e= .returned (.tuple #[.agg #[.int .i64 r1,v1_],.bool r3])∧Kd.R (Kd.int .i64) 3 w' w.heap.size (fun _=>True) v1_ r2∧Below w.heap.size w w':=by have hu26:=Tryz.underlying26;have HR0_1:=Aside0.mk hr0_1;have HC0_1:=Aside0.mk hc0_1;clear hr0_1 hc0_1;have HR1_1:=Aside0.mk hr1_1;have HC1_1:=Aside0.mk hc1_1;clear hr1_1 hc1_1;have HB:=Aside0.mk (Below.refl w.heap.size w);have H:=h;unfold zE.f at H;clear h;have HC3:=Aside0.mk H;clear H;go_enter Tryz.func29,Tryz.ntmps29;(go_upto_region 1 with (first|((with_reducible refine sqd 2 ?_);refine sqx #[.int .i64 a0_0,.slice A0_1 l0_1.length c0_1] 26 ?_;intro gb544 hg w4 hbox hb;have q_:=f4 (za sqB hb) hbox (sqS hg:w.heap.size≤gb544) (sqS hg:w.heap.size≤gb544);clear HB;obtain ⟨HB,BK544,GW544,GE544⟩:=q_;clear hb hbox hg)|((with_reducible refine sqd 3 ?_);refine sqx #[.int .i64 a1_0,.slice A1_1 l1_1.length c1_1] 26 ?_;intro gb545 hg w5 hbox hb;have q_:=f7 (sqh BK544 hb) (za sqB hb) hbox (sqS hg:w.heap.size≤gb545) (sqS hg:w.heap.size≤gb545) (sqn BK544 hg) (sqm BK544 hg);clear BK544 HB;obtain ⟨BK544,HB,BK545,GW545,GE545,NB544_545,NB545_544⟩:=q_;clear hb hbox hg)|((with_reducible refine sqd 4 ?_);refine sqx #[.int .i64 0,.slice none 0 0] 26 ?_;intro gb546 hg w6 hbox hb;have q_:=f10 (sqh BK544 hb) (sqh BK545 hb) (za sqB hb) hbox (sqS hg:w.heap.size≤gb546) (sqS hg:w.heap.size≤gb546) (sqn BK544 hg) (sqm BK544 hg) (sqn BK545 hg) (sqm BK545 hg);clear BK544 BK545 HB;obtain ⟨BK544,BK545,HB,BK546,GW546,GE546,NB544_546,NB546_544,NB545_546,NB546_545⟩:=q_;clear hb hbox hg)));(try simp only [Act.put,List.setIfInBounds_toArray,List.set_cons_zero,List.set_cons_succ]);(go_cut [26] (fun v26 wc=> ∃(kq:Nat) (x26_2:Bool),v26= .bool x26_2∧Aside0 (zE.j0 kq x26_2 a0_0 l0_1 a1_0 l1_1=some (r1,r2,r3))∧Aside0 (kq≤k)∧Aside0 (wc.heap[gb544]? =some (.cells #[.int .i64 a0_0,(.slice A0_1 l0_1.length c0_1)] 26 (0,0)))∧Aside0 (wc.heap[gb545]? =some (.cells #[.int .i64 a1_0,(.slice A1_1 l1_1.length c1_1)] 26 (0,0)))∧Aside0 (wc.heap[gb546]? =some (.cells #[.int .i64 0,(.slice none 0 0)] 26 (0,0)))∧Aside0 (Below w.heap.size w wc)));(case first=>have H:=HC3.out;clear HC3;replace H:=zr H;obtain ⟨t547,A7,H⟩:=H;by_cases c8:t547=true;(·subst c8;rw [if_pos rfl] at H;replace H:=zr H;obtain ⟨t548,A9,H⟩:=H;by_cases c10:t548=true;(·subst c10;rw [if_pos rfl] at H;have H':=Aside0.mk H;clear H;have hnb11:=NB544_545.out;have hnc11:=NB545_544.out;have hnb12:=NB544_546.out;have hnc12:=NB546_544.out;obtain ⟨_,_,_,_⟩:=z2 BK544.out;(go_wp2_with (first|((with_reducible refine sqc 52 ?_);refine sql 12 Tryz.func52 #[.agg #[.int .i64 a0_0,.slice A0_1 l0_1.length c0_1]] ?_;(with_reducible refine (zG.calls k a0_0 _ _ l0_1 true _ ?side1 ?side2 A7.out).mono ?_);(case side1=>exact sqC (Kd.zq HR0_1.out HB.out));(case side2=>exact HC0_1.out);rintro e w14 ⟨rfl,hb⟩;refine ⟨_,rfl,?_⟩;have q_:=f4 (sqh BK544 hb) (sqh BK545 hb) (sqh BK546 hb) (za sqB hb);clear BK544 BK545 BK546 HB;obtain ⟨BK544,BK545,BK546,HB⟩:=q_;have hnb15:=NB545_546.out;have hnc15:=NB546_545.out;obtain ⟨_,_,_,_⟩:=z2 BK545.out)|(go_at_call 52;(try simp only [zA,zI]);(with_reducible refine (zG.calls k a1_0 _ _ l1_1 true _ ?side1 ?side2 A9.out).mono ?_);(case side1=>exact sqC (Kd.zq HR1_1.out HB.out));(case side2=>exact HC1_1.out);rintro e w17 ⟨rfl,hb⟩;have q_:=f4 (sqh BK544 hb) (sqh BK545 hb) (sqh BK546 hb) (za sqB hb);clear BK544 BK545 BK546 HB;obtain ⟨BK544,BK545,BK546,HB⟩:=q_;obtain ⟨_,_,_,_⟩:=z2 BK544.out;obtain ⟨_,_,_,_⟩:=z2 BK545.out)));go_meet;(case rel=>exact ⟨_,(decide ((wrap64 (a0_0+a1_0))>8)),(by first|rfl|(simp only [zA,zI];done)|(simp;done)|(simp [*];done)),H',⟨by first|omega|exact Nat.le_refl _⟩,⟨sqK BK544.out⟩,⟨sqK BK545.out⟩,⟨sqK BK546.out⟩,⟨sqB⟩⟩));(·obtain rfl:=sqf c10;rw [if_neg sqz] at H;have H':=Aside0.mk H;clear H;have hnb20:=NB544_545.out;have hnc20:=NB545_544.out;have hnb21:=NB544_546.out;have hnc21:=NB546_544.out;obtain ⟨_,_,_,_⟩:=z2 BK544.out;(go_wp2_with (first|((with_reducible refine sqc 52 ?_);refine sql 12 Tryz.func52 #[.agg #[.int .i64 a0_0,.slice A0_1 l0_1.length c0_1]] ?_;(with_reducible refine (zG.calls k a0_0 _ _ l0_1 true _ ?side1 ?side2 A7.out).mono ?_);(case side1=>exact sqC (Kd.zq HR0_1.out HB.out));(case side2=>exact HC0_1.out);rintro e w23 ⟨rfl,hb⟩;refine ⟨_,rfl,?_⟩;have q_:=f4 (sqh BK544 hb) (sqh BK545 hb) (sqh BK546 hb) (za sqB hb);clear BK544 BK545 BK546 HB;obtain ⟨BK544,BK545,BK546,HB⟩:=q_;have hnb24:=NB545_546.out;have hnc24:=NB546_545.out;obtain ⟨_,_,_,_⟩:=z2 BK545.out)|(go_at_call 52;(try simp only [zA,zI]);(with_reducible refine (zG.calls k a1_0 _ _ l1_1 false _ ?side1 ?side2 A9.out).mono ?_);(case side1=>exact sqC (Kd.zq HR1_1.out HB.out));(case side2=>exact HC1_1.out);rintro e w26 ⟨rfl,hb⟩;have q_:=f4 (sqh BK544 hb) (sqh BK545 hb) (sqh BK546 hb) (za sqB hb);clear BK544 BK545 BK546 HB;obtain ⟨BK544,BK545,BK546,HB⟩:=q_)));go_meet;(case rel=>exact ⟨_,(true),(sqD),H',⟨by first|omega|exact Nat.le_refl _⟩,⟨sqK BK544.out⟩,⟨sqK BK545.out⟩,⟨sqK BK546.out⟩,⟨sqB⟩⟩)));(·obtain rfl:=sqf c8;rw [if_neg sqz] at H;have H':=Aside0.mk H;clear H;have hnb27:=NB544_545.out;have hnc27:=NB545_544.out;have hnb28:=NB544_546.out;have hnc28:=NB546_544.out;obtain ⟨_,_,_,_⟩:=z2 BK544.out;(go_wp2_with (first|((with_reducible refine sqc 52 ?_);refine sql 12 Tryz.func52 #[.agg #[.int .i64 a0_0,.slice A0_1 l0_1.length c0_1]] ?_;(with_reducible refine (zG.calls k a0_0 _ _ l0_1 false _ ?side1 ?side2 A7.out).mono ?_);(case side1=>exact sqC (Kd.zq HR0_1.out HB.out));(case side2=>exact HC0_1.out);rintro e w30 ⟨rfl,hb⟩;refine ⟨_,rfl,?_⟩;have q_:=f4 (sqh BK544 hb) (sqh BK545 hb) (sqh BK546 hb) (za sqB hb);clear BK544 BK545 BK546 HB;obtain ⟨BK544,BK545,BK546,HB⟩:=q_)));go_meet;(case rel=>exact ⟨_,(true),(sqD),H',⟨by first|omega|exact Nat.le_refl _⟩,⟨sqK BK544.out⟩,⟨sqK BK545.out⟩,⟨sqK BK546.out⟩,⟨sqB⟩⟩)));(case rest=>clear HC3;obtain ⟨kq,x26_2,rfl,HA,HJ2,BK544,BK545,BK546,HB⟩:=hcut;(cases kq with|zero=>exact absurd HA.out (by simp [zE.j0])|succ kj2=>have H:=HA.out;clear HA;simp only [zE.j0] at H;by_cases c31:x26_2=true;(·subst c31;rw [if_pos rfl] at H;simp only [Option.some.injEq,Prod.mk.injEq] at H;obtain ⟨rfl,rfl,rfl⟩:=H;have hnb32:=NB546_544.out;have hnc32:=NB544_546.out;have hnb33:=NB546_545.out;have hnc33:=NB545_546.out;obtain ⟨_,_,_,_⟩:=z2 BK546.out;go_wp2;refine bodyPost_ret (jy rfl _ _ gb546 26 #[.int .i64 0,.slice none 0 0] (0,0) _ rfl (by refine sqK ?_;refine zp (cs:=#[.int .i64 0,.slice none 0 0]) ?_ 1 _ rfl;refine sqK ?_;refine zp (cs:=#[.int .i64 0,.slice none 0 0]) ?_ 0 _ rfl;refine sqK ?_;exact BK546.out) Tryz.underlying26 rfl (by kernel_rfl)) rfl ?_;exact ⟨_,sqE,sqN,sqB⟩);(·obtain rfl:=sqf c31;rw [if_neg sqz] at H;have H':=Aside0.mk H;clear H;have hnb35:=NB544_545.out;have hnc35:=NB545_544.out;have hnb36:=NB544_546.out;have hnc36:=NB546_544.out;obtain ⟨_,_,_,_⟩:=z2 BK544.out;have hnb38:=NB545_546.out;have hnc38:=NB546_545.out;obtain ⟨_,_,_,_⟩:=z2 BK545.out;(go_wp2_with (first|((with_reducible refine sqd 6 ?_);refine sqx #[.int .i64 0,.slice none 0 0] 26 ?_;intro gb549 hg w40 hbox hb;have q_:=f13 (sqh BK544 hb) (sqh BK545 hb) (sqh BK546 hb) (za sqB hb) hbox (sqS hg:w.heap.size≤gb549) (sqS hg:w.heap.size≤gb549) (sqn BK544 hg) (sqm BK544 hg) (sqn BK545 hg) (sqm BK545 hg) (sqn BK546 hg) (sqm BK546 hg);clear BK544 BK545 BK546 HB;obtain ⟨BK544,BK545,BK546,HB,BK549,GW549,GE549,NB544_549,NB549_544,NB545_549,NB549_545,NB546_549,NB549_546⟩:=q_;clear hb hbox hg;have hnb41:=NB549_544.out;have hnc41:=NB544_549.out;have hnb42:=NB549_545.out;have hnc42:=NB545_549.out;have hnb43:=NB549_546.out;have hnc43:=NB546_549.out;obtain ⟨_,_,_,_⟩:=z2 BK549.out;obtain ⟨_,_,_,_⟩:=z2 BK544.out)));(go_loopg [37] kj2 (fun kq v37 w'=> ∃(x37_2:Int) (x550001_2:List Int) (u550001:Value),v37= .int .i64 x37_2∧Aside0 (zE.l0 kq l0_1 (l0_1.length:Int) x37_2 a0_0 l0_1 a1_0 l1_1 (wrap64 (a0_0+a1_0)) x550001_2=some (r1,r2,r3))∧Aside0 (kq≤kj2)∧Aside0 (Kd.R (Kd.int .i64) 3 w' w.heap.size (fun _=>True) u550001 x550001_2)∧Aside0 (w'.heap[gb544]? =some (.cells #[.int .i64 a0_0,(.slice A0_1 l0_1.length c0_1)] 26 (0,0)))∧Aside0 (w'.heap[gb545]? =some (.cells #[.int .i64 a1_0,(.slice A1_1 l1_1.length c1_1)] 26 (0,0)))∧Aside0 (w'.heap[gb546]? =some (.cells #[.int .i64 0,(.slice none 0 0)] 26 (0,0)))∧Aside0 (w'.heap[gb549]? =some (.cells #[.int .i64 (wrap64 (a0_0+a1_0)),u550001] 26 (0,0)))∧Aside0 (Below w.heap.size w w')));(case atStart=>exact ⟨(0),(([]:List Int)),(.slice none 0 0),(sqD),H',⟨Nat.le_refl _⟩,⟨sqN⟩,⟨by refine sqK ?_;refine zJ ?_ NB544_549.out _;refine sqK ?_;refine zJ ?_ NB544_549.out _;refine sqK ?_;exact BK544.out⟩,⟨by refine sqK ?_;refine zJ ?_ NB545_549.out _;refine sqK ?_;refine zJ ?_ NB545_549.out _;refine sqK ?_;exact BK545.out⟩,⟨by refine sqK ?_;refine zJ ?_ NB546_549.out _;refine sqK ?_;refine zJ ?_ NB546_549.out _;refine sqK ?_;exact BK546.out⟩,⟨by refine sqK ?_;refine zp (cs:=#[.int .i64 (wrap64 (a0_0+a1_0)),.slice none 0 0]) ?_ 1 _ rfl;refine sqK ?_;refine zp (cs:=#[.int .i64 0,.slice none 0 0]) ?_ 0 _ rfl;refine sqK ?_;exact BK549.out⟩,⟨sqB⟩⟩);(case round=>clear H';obtain ⟨x37_2,x550001_2,u550001,rfl,HA,HK2,HO_550001,BK544,BK545,BK546,BK549,HB⟩:=hrel;(cases gk with|zero=>exact absurd HA.out (by simp [zE.l0])|succ k2=>have H:=HA.out;clear HA;simp only [zE.l0] at H;by_cases c46:x37_2< (l0_1.length:Int);(·rw [if_pos c46] at H;have c46b0:decide (x37_2< (l0_1.length:Int))=true:=decide_eq_true c46;clear c46;obtain ⟨c47,H⟩:=qg H;have c47b0:decide (0≤x37_2)=true:=decide_eq_true c47;clear c47;obtain ⟨c48,H⟩:=qg H;have c48b0:decide (x37_2< (l0_1.length:Int))=true:=decide_eq_true c48;clear c48;have H':=Aside0.mk H;clear H;have p553:0≤(x37_2:Int):=of_decide_eq_true sqA;have q553:x37_2< (l0_1.length:Int):=of_decide_eq_true sqA;obtain ⟨ad553,e553,hx553_0⟩:=Kd.zP HR0_1.out x37_2 p553 q553;cases e553;replace hx553_0:=(HB.out.cell (World.block_lt_of_cell? w _ hx553_0)).trans hx553_0;replace p553:=eq_true p553;replace q553:=eq_true q553;have hnb49:=NB545_544.out;have hnc49:=NB544_545.out;have hnb50:=NB545_546.out;have hnc50:=NB546_545.out;have hnb51:=NB545_549.out;have hnc51:=NB549_545.out;obtain ⟨_,_,_,_⟩:=z2 BK545.out;go_wp2;(go_loopg [44] k2 (fun kq v44 w'=> ∃(x44_3:Int) (x550001_3:List Int) (u550001:Value),v44= .int .i64 x44_3∧Aside0 (zE.l1 kq (rd l0_1 x37_2) l0_1 (l0_1.length:Int) x37_2 l1_1 (l1_1.length:Int) x44_3 a0_0 l0_1 a1_0 l1_1 (wrap64 (a0_0+a1_0)) x550001_3=some (r1,r2,r3))∧Aside0 (kq≤k2)∧Aside0 (Kd.R (Kd.int .i64) 3 w' w.heap.size (fun _=>True) u550001 x550001_3)∧Aside0 (w'.heap[gb544]? =some (.cells #[.int .i64 a0_0,(.slice (some ad553) l0_1.length c0_1)] 26 (0,0)))∧Aside0 (w'.heap[gb545]? =some (.cells #[.int .i64 a1_0,(.slice A1_1 l1_1.length c1_1)] 26 (0,0)))∧Aside0 (w'.heap[gb546]? =some (.cells #[.int .i64 0,(.slice none 0 0)] 26 (0,0)))∧Aside0 (w'.heap[gb549]? =some (.cells #[.int .i64 (wrap64 (a0_0+a1_0)),u550001] 26 (0,0)))∧Aside0 (Below w.heap.size w w')));(case atStart=>exact ⟨(0),(x550001_2),(u550001),(sqD),H',⟨Nat.le_refl _⟩,⟨sqR HO_550001.out⟩,⟨sqK BK544.out⟩,⟨sqK BK545.out⟩,⟨sqK BK546.out⟩,⟨sqK BK549.out⟩,⟨sqB⟩⟩);(case round=>clear H';obtain ⟨x44_3,x550001_3,u550001,rfl,HA,HK3,HO_550001,BK544,BK545,BK546,BK549,HB⟩:=hrel;(cases gk with|zero=>exact absurd HA.out (by simp [zE.l1])|succ k3=>have H:=HA.out;clear HA;simp only [zE.l1] at H;by_cases c53:x44_3< (l1_1.length:Int);(·rw [if_pos c53] at H;have c53b0:decide (x44_3< (l1_1.length:Int))=true:=decide_eq_true c53;clear c53;obtain ⟨c54,H⟩:=qg H;have c54b0:decide (0≤x44_3)=true:=decide_eq_true c54;clear c54;obtain ⟨c55,H⟩:=qg H;have c55b0:decide (x44_3< (l1_1.length:Int))=true:=decide_eq_true c55;clear c55;obtain ⟨c56,H⟩:=qg H;have c56b0:=eq_true c56;have c56b1:decide (0≤a0_0)=true:=decide_eq_true c56;clear c56;obtain ⟨ji57,hji57⟩: ∃j_:Int,(shl .i64 (rd l1_1 x44_3) a0_0)=j_:=⟨_,rfl⟩;(replace H:(if x550001_3.length<17592186044416 then (zE.l1 k3 (rd l0_1 x37_2) l0_1 (l0_1.length:Int) x37_2 l1_1 (l1_1.length:Int) (wrap64 (x44_3+1)) a0_0 l0_1 a1_0 l1_1 (wrap64 (a0_0+a1_0)) (x550001_3++[Go.bits .or .i64 (rd l0_1 x37_2) (ji57)])) else (none))=some (r1,r2,r3):=by first|(rw [hji57] at H;exact H)|(simp only [hji57] at H ⊢;exact H));have hji57_:(IntKind.i64.wrap ((rd l1_1 x44_3)*2 ^min a0_0.toNat 64))=ji57:=hji57;have hji57z:a0_0≤64→(IntKind.i64.wrap ((rd l1_1 x44_3)*2 ^a0_0.toNat))=ji57:=vo hji57;have hji57y:(wrap64 ((rd l1_1 x44_3)*2 ^min a0_0.toNat 64))=ji57:=(zA _).symm.trans hji57_;have hji57x:a0_0≤64→(wrap64 ((rd l1_1 x44_3)*2 ^a0_0.toNat))=ji57:=fun h_=>(zA _).symm.trans (hji57z h_);obtain ⟨c58,H⟩:=qg H;have LMc58:=Aside0.mk c58;clear c58;obtain ⟨y555,hy555⟩: ∃y_:List Int,y_=(x550001_3++[Go.bits .or .i64 (rd l0_1 x37_2) (ji57)]):=⟨_,rfl⟩;replace H:(zE.l1 k3 (rd l0_1 x37_2) l0_1 (l0_1.length:Int) x37_2 l1_1 (l1_1.length:Int) (wrap64 (x44_3+1)) a0_0 l0_1 a1_0 l1_1 (wrap64 (a0_0+a1_0)) y555)=some (r1,r2,r3):=sqy hy555 H;have Ny555:=Aside0.mk hy555;clear hy555;have H':=Aside0.mk H;clear H;have p554:0≤(x44_3:Int):=of_decide_eq_true sqA;have q554:x44_3< (l1_1.length:Int):=of_decide_eq_true sqA;obtain ⟨ad554,e554,hx554_0⟩:=Kd.zP HR1_1.out x44_3 p554 q554;cases e554;replace hx554_0:=(HB.out.cell (World.block_lt_of_cell? w _ hx554_0)).trans hx554_0;replace p554:=eq_true p554;replace q554:=eq_true q554;(try go_wp2);have q_:=f6 (Kd.qE HO_550001.out) (zO BK544.out) (zO BK545.out) (zO BK546.out) (zO BK549.out) (zN HB.out);clear HO_550001 BK544 BK545 BK546 BK549 HB;obtain ⟨HO_550001,BK544,BK545,BK546,BK549,HB⟩:=q_;refine vl (n:=12) (S:=fun w'=>w'.cell? ⟨gb549,0,none⟩=some (.int .i64 (wrap64 (a0_0+a1_0)))∧w'.cell? ⟨gb549,1,none⟩=some (u550001)∧w'.cell? ⟨gb544,0,none⟩=some (.int .i64 a0_0)∧w'.cell? ⟨gb544,1,none⟩=some (.slice (some ad553) l0_1.length c0_1)) (ds:=[11]) #[false,false,false,false,false,false,false,false,false,false,false,false] (by kernel_rfl) rfl rfl tH (fun hHeld=> ?_);refine qY zE.Vb zE.Qw (fun HT_ HW_=> ?_);generalize wr.drew=w59 at HO_550001 BK544 BK545 BK546 BK549 HB hHeld ⊢;refine tP 0 (some 48) ?_;refine tP 2 (some 50) ?_;refine tP 3 (some 51) ?_;refine tP 4 (some 52) ?_;refine tT 1 (some 49) ?_;refine tT 5 (some 53) ?_;refine tP 6 (some 54) ?_;refine tP 7 (some 55) ?_;refine tO 8 (some 56) fun K hK=> ?_;refine tV (h:= ?_);refine hK.out _ _ tH (fun hHeld=> ?_);clear hK K;refine tN 56 (h:= ?_);refine tO 9 (some 57) fun K hK=> ?_;refine Kd.yy (Kd.int .i64) (w0:=w) w.heap.size (by rfl) (.tmp 49) (.tmp 56) 24 3 (.int .i64 0) 8 rfl Tryz.underlying24 j8 rfl (by decide) (by omega) u550001 x550001_3 (Go.bits .or .i64 (rd l0_1 x37_2) (ji57)) [.int .i64 (Go.bits .or .i64 (rd l0_1 x37_2) (ji57))] (fun _=>True) (fun _=>False) rfl rfl ?aP (fun _ hk=>hk.elim) ?aF ?aO ?aB ?aS ?aL ?_;(case aP=>exact rfl);(case aB=>exact sqB);(case aF=>exact (fun _ _=>trivial));(case aO=>exact (sqR HO_550001.out));(case aS=>exact (ze sqB));(case aL=>have:=LMc58.out;omega);intro v556 w60 ho hb hg hat;rw [←Ny555.out] at ho;have q_:=f6 (jj (sqK BK544.out) hg (Kd.Zs HO_550001.out BK544.out (by decide))) (jj (sqK BK545.out) hg (Kd.Zs HO_550001.out BK545.out (by decide))) (jj (sqK BK546.out) hg (Kd.Zs HO_550001.out BK546.out (by decide))) (jj (sqK BK549.out) hg (Kd.Zs HO_550001.out BK549.out (by decide))) hb ho;clear BK544 BK545 BK546 BK549 HB HO_550001;obtain ⟨BK544,BK545,BK546,BK549,HB,HO557⟩:=q_;clear ho hb hg hat;obtain ⟨Ao61,co61,eo61⟩:=Kd.zy HO557.out;(first|subst eo61|(injection eo61 with f1_ f2_ f3_;have f4_:=f1_.symm;have f5_:=f3_.symm;clear f1_ f2_ f3_;subst f4_;subst f5_));refine hK.out _ _ tH (fun hHeld=> ?_);clear hK K;refine tN 57 (h:= ?_);refine tP 10 (some 58) ?_;refine tL 11 none fun K hK=> ?_;have hs62:w60.cell? ⟨gb549,1,none⟩=some (u550001):=(zf BK549.out 1).trans rfl;have hfs62:=zk BK549.out 1;have hns62_0:=NB544_549.out;have hns62_1:=NB545_549.out;have hns62_2:=NB546_549.out;have hms62_0:=NB549_544.out;have hms62_1:=NB549_545.out;have hms62_2:=NB549_546.out;refine tK (h:= ?_);refine hK.out _ _ ?_;clear hK K;refine ya (jG HT_.out (by kernel_rfl)) ?_;(try go_wp2);(go_roundg k3);(case measure=>have:=HJ2.out;have:=HK2.out;have:=HK3.out;omega);(case rel=>exact ⟨(wrap64 (x44_3+1)),(y555),(.slice Ao61 y555.length co61),(sqD),H',⟨by have:=HJ2.out;have:=HK2.out;have:=HK3.out;omega⟩,⟨by refine sqR ?_;exact Kd.zo (Kd.zS (p:=⟨gb549,1,none⟩) (Kd.zV HO557.out BK549.out (by decide)) (fun _ hk=>hk.2) (.slice Ao61 y555.length co61)) (fun _ hk=>trivial)⟩,⟨by refine sqK ?_;refine zJ ?_ NB544_549.out _;refine sqK ?_;exact BK544.out⟩,⟨by refine sqK ?_;refine zJ ?_ NB545_549.out _;refine sqK ?_;exact BK545.out⟩,⟨by refine sqK ?_;refine zJ ?_ NB546_549.out _;refine sqK ?_;exact BK546.out⟩,⟨by refine sqK ?_;refine zp (cs:=#[.int .i64 (wrap64 (a0_0+a1_0)),u550001]) ?_ 1 _ rfl;refine sqK ?_;exact BK549.out⟩,⟨sqB⟩⟩));(·rw [if_neg c53] at H;have c53b0:decide (x44_3< (l1_1.length:Int))=false:=decide_eq_false c53;clear c53;have H':=Aside0.mk H;clear H;go_wp2;(go_roundg k3);(case measure=>have:=HJ2.out;have:=HK2.out;have:=HK3.out;omega);(case rel=>exact ⟨(wrap64 (x37_2+1)),(x550001_3),(u550001),(sqD),H',⟨by have:=HJ2.out;have:=HK2.out;have:=HK3.out;omega⟩,⟨sqR HO_550001.out⟩,⟨sqK BK544.out⟩,⟨sqK BK545.out⟩,⟨sqK BK546.out⟩,⟨sqK BK549.out⟩,⟨sqB⟩⟩)))));(·rw [if_neg c46] at H;have c46b0:decide (x37_2< (l0_1.length:Int))=false:=decide_eq_false c46;clear c46;replace H:=zr H;obtain ⟨t550,A63,H⟩:=H;simp only [Option.some.injEq,Prod.mk.injEq] at H;obtain ⟨rfl,rfl,rfl⟩:=H;have hnb64:=NB549_544.out;have hnc64:=NB544_549.out;have hnb65:=NB549_545.out;have hnc65:=NB545_549.out;have hnb66:=NB549_546.out;have hnc66:=NB546_549.out;have hcz67_0:wr.cell? ⟨gb549,0,none⟩=some (.int .i64 (wrap64 (a0_0+a1_0))):=(zf BK549.out 0).trans rfl;have hcz67_1:wr.cell? ⟨gb549,1,none⟩=some (u550001):=(zf BK549.out 1).trans rfl;have hfz67_0:=zk BK549.out 0;have hfz67_1:=zk BK549.out 1;obtain ⟨Ao68,co68,eo68⟩:=Kd.zy HO_550001.out;subst eo68;(go_wp2_with (first|((with_reducible refine sqc 81 ?_);refine sql 63 Tryz.func81 #[.slice Ao68 x550001_2.length co68] ?_;(with_reducible refine (qH.calls k2 _ _ x550001_2 t550 _ ?side1 ?side2 A63.out).mono ?_);(case side1=>exact sqC (Kd.zc HO_550001.out).2.2);(case side2=>exact (Kd.zc HO_550001.out).2.1);rintro e w69 ⟨v551,rfl,ho0,hb⟩;refine ⟨_,rfl,?_⟩;have q_:=f7 (sqe HO_550001 (Kd.zC ho0) hb) (Kd.zw (Kd.zD ho0 (Kd.qa (sqR HO_550001.out))) (ze sqB)) (sqh BK544 hb) (sqh BK545 hb) (sqh BK546 hb) (sqh BK549 hb) (za sqB hb);clear HO_550001 BK544 BK545 BK546 BK549 HB;obtain ⟨HO_550001,HO552,BK544,BK545,BK546,BK549,HB⟩:=q_;obtain ⟨Ao70,co70,eo70⟩:=Kd.zy HO552.out;subst eo70;have hcz71_0:w69.cell? ⟨gb549,0,none⟩=some (.int .i64 (wrap64 (a0_0+a1_0))):=(zf BK549.out 0).trans rfl;have hcz71_1:w69.cell? ⟨gb549,1,none⟩=some (.slice Ao68 x550001_2.length co68):=(zf BK549.out 1).trans rfl;have hfz71_0:=zk BK549.out 0;have hfz71_1:=zk BK549.out 1;have hnb72:=NB546_544.out;have hnc72:=NB544_546.out;have hnb73:=NB546_545.out;have hnc73:=NB545_546.out;obtain ⟨_,_,_,_⟩:=z2 BK546.out)));refine bodyPost_ret (jy rfl _ _ gb546 26 #[.int .i64 (wrap64 (a0_0+a1_0)),.slice Ao70 t550.length co70] (0,0) _ rfl (by refine sqK ?_;refine zp (cs:=#[.int .i64 (wrap64 (a0_0+a1_0)),.slice none 0 0]) ?_ 1 _ rfl;refine sqK ?_;refine zp (cs:=#[.int .i64 0,.slice none 0 0]) ?_ 0 _ rfl;refine sqK ?_;refine zJ ?_ NB546_549.out _;refine sqK ?_;exact BK546.out) Tryz.underlying26 rfl (by kernel_rfl)) rfl ?_;exact ⟨_,sqE,by refine sqR ?_;exact Kd.zo (Kd.zS (p:=⟨gb546,1,none⟩) (Kd.zS (p:=⟨gb546,0,none⟩) (Kd.zS (p:=⟨gb549,1,none⟩) (Kd.zV (Kd.zV HO552.out BK549.out (by decide)) BK546.out (by decide)) (fun _ hk=>hk.1.2) (.slice Ao70 t550.length co70)) (fun _ hk=>hk.2) (.int .i64 (wrap64 (a0_0+a1_0)))) (fun _ hk=>hk.2) (.slice Ao70 t550.length co70)) (fun _ hk=>trivial),sqB⟩))))))
end F
end
section
namespace F
open Go.RowKit Wa Wb Wc
attribute [local go_sem] jS jQ vv vx jv ju jP jO
def yi.f (a0:Int):Option (Int):=(vM.f a0).bind fun t616=>(some t616)
theorem yi.calls (a0:Int)(r:Int)(w:World)(h:yi.f a0=some r):Calls Tryz.prog 131 #[.int .u64 a0] w fun e w'=>e= .returned (.int .i64 r)∧zj w w':=by have H:=h;unfold yi.f at H;clear h;replace H:=zr H;obtain ⟨t616,A2,H⟩:=H;obtain rfl:=Option.some.inj H;go_enter Tryz.func131,Tryz.ntmps131;(go_wp2_with (first|((with_reducible refine sqc 145 ?_);refine sql 7 Tryz.func145 #[.int .u64 a0] ?_;(with_reducible refine (vM.calls a0 t616 _ A2.out).mono ?_);rintro e w' ⟨rfl,⟨nd,rfl⟩⟩;refine ⟨_,rfl,?_⟩)));go_ret;exact ⟨sqD,by repeat (first|exact zj.refl _|apply zj.step)⟩
def vm.f (a0:Int):Option (Int):=(je.f a0).bind fun t617=>(if t617=true then ((yi.f (IntKind.u64.wrap (a0))).bind fun t618=>(some t618)) else (some 0))
theorem vm.calls (a0:Int)(r:Int)(w:World)(h:vm.f a0=some r):Calls Tryz.prog 89 #[.int .i64 a0] w fun e w'=>e= .returned (.int .i64 r)∧zj w w':=by have H:=h;unfold vm.f at H;clear h;replace H:=zr H;obtain ⟨t617,A2,H⟩:=H;by_cases c3:t617=true;(·subst c3;rw [if_pos rfl] at H;replace H:=zr H;obtain ⟨t618,A4,H⟩:=H;obtain rfl:=Option.some.inj H;go_enter Tryz.func89,Tryz.ntmps89;(go_wp2_with (first|((with_reducible refine sqc 126 ?_);refine sql 4 Tryz.func126 #[.int .i64 a0] ?_;(with_reducible refine (je.calls a0 true _ A2.out).mono ?_);rintro e w' ⟨rfl,⟨nd,rfl⟩⟩;refine ⟨_,rfl,?_⟩)|((with_reducible refine sqc 131 ?_);refine sql 8 Tryz.func131 #[.int .u64 (IntKind.u64.wrap (a0))] ?_;(with_reducible refine (yi.calls (IntKind.u64.wrap (a0)) t618 _ A4.out).mono ?_);rintro e w' ⟨rfl,⟨nd,rfl⟩⟩;refine ⟨_,rfl,?_⟩)));go_ret;exact ⟨sqD,by repeat (first|exact zj.refl _|apply zj.step)⟩);(·obtain rfl:=sqf c3;rw [if_neg sqz] at H;obtain rfl:=Option.some.inj H;go_enter Tryz.func89,Tryz.ntmps89;(go_wp2_with (first|((with_reducible refine sqc 126 ?_);refine sql 4 Tryz.func126 #[.int .i64 a0] ?_;(with_reducible refine (je.calls a0 false _ A2.out).mono ?_);rintro e w' ⟨rfl,⟨nd,rfl⟩⟩;refine ⟨_,rfl,?_⟩)));go_ret;exact ⟨sqD,by repeat (first|exact zj.refl _|apply zj.step)⟩)
def jk.l0:Nat→Int→Int→List Int→Int→Int→Option (Int)
 |0,_,_,_,_,_=>none
 |k+1,x1,x5,x9,x10,x11=>if x11<x10 then (if 0≤x11 then (if x11< (x9.length:Int) then ((vm.f (Go.bits .and .i64 x1 (rd x9 x11))).bind fun t621=>(jk.l0 k x1 (mx x5 t621) x9 x10 (wrap64 (x11+1)))) else (none)) else (none)) else (some x5)
def jk.f (k:Nat)(a0_0:Int)(l0_1:List Int)(a1:Int):Option (Int):=jk.l0 k a1 0 l0_1 (l0_1.length:Int) 0
theorem jk.calls (k:Nat)(a0_0:Int)(A0_1:Option Addr)(c0_1:Nat)(l0_1:List Int)(a1:Int)(r:Int)(w:World)(hr0_1:Kd.C (Kd.int .i64) w A0_1 l0_1.length l0_1)(hc0_1:l0_1.length≤c0_1)(h:jk.f k a0_0 l0_1 a1=some r):Calls Tryz.prog 77 #[.agg #[.int .i64 a0_0,.slice A0_1 l0_1.length c0_1],.int .i64 a1] w fun e w'=>e= .returned (.int .i64 r)∧Below w.heap.size w w':=by have hu26:=Tryz.underlying26;have HR0_1:=Aside0.mk hr0_1;have HC0_1:=Aside0.mk hc0_1;clear hr0_1 hc0_1;have HB:=Aside0.mk (Below.refl w.heap.size w);have H:=h;unfold jk.f at H;clear h;have H':=Aside0.mk H;clear H;go_enter Tryz.func77,Tryz.ntmps77;(go_wp2_with (first|((with_reducible refine sqd 2 ?_);refine sqx #[.int .i64 a0_0,.slice A0_1 l0_1.length c0_1] 26 ?_;intro gb619 hg w3 hbox hb;have q_:=f4 (za sqB hb) hbox (sqS hg:w.heap.size≤gb619) (sqS hg:w.heap.size≤gb619);clear HB;obtain ⟨HB,BK619,GW619,GE619⟩:=q_;clear hb hbox hg;obtain ⟨_,_,_,_⟩:=z2 BK619.out)));(go_loopg [5,11] k (fun kq v5 v11 w'=> ∃(x5_1:Int) (x11_1:Int),v5= .int .i64 x5_1∧v11= .int .i64 x11_1∧Aside0 (jk.l0 kq a1 x5_1 l0_1 (l0_1.length:Int) x11_1=some r)∧Aside0 (kq≤k)∧Aside0 (w'.heap[gb619]? =some (.cells #[.int .i64 a0_0,(.slice A0_1 l0_1.length c0_1)] 26 (0,0)))∧Aside0 (Below w.heap.size w w')));(case atStart=>exact ⟨(0),(0),(sqD),(sqD),H',⟨Nat.le_refl _⟩,⟨sqK BK619.out⟩,⟨sqB⟩⟩);(case round=>clear H';obtain ⟨x5_1,x11_1,rfl,rfl,HA,HK1,BK619,HB⟩:=hrel;(cases gk with|zero=>exact absurd HA.out (by simp [jk.l0])|succ k1=>have H:=HA.out;clear HA;simp only [jk.l0] at H;by_cases c5:x11_1< (l0_1.length:Int);(·rw [if_pos c5] at H;have c5b0:decide (x11_1< (l0_1.length:Int))=true:=decide_eq_true c5;clear c5;obtain ⟨c6,H⟩:=qg H;have c6b0:decide (0≤x11_1)=true:=decide_eq_true c6;clear c6;obtain ⟨c7,H⟩:=qg H;have c7b0:decide (x11_1< (l0_1.length:Int))=true:=decide_eq_true c7;clear c7;replace H:=zr H;obtain ⟨t621,A8,H⟩:=H;obtain ⟨ji9,hji9⟩: ∃j_:Int,(mx x5_1 t621)=j_:=⟨_,rfl⟩;(replace H:(jk.l0 k1 a1 ji9 l0_1 (l0_1.length:Int) (wrap64 (x11_1+1)))=some r:=by first|(rw [hji9] at H;exact H)|(simp only [hji9] at H ⊢;exact H));(try rw [hji9] at A8);have hji9_:(if x5_1<t621 then t621 else x5_1)=ji9:=hji9;have H':=Aside0.mk H;clear H;have p620:0≤(x11_1:Int):=of_decide_eq_true sqA;have q620:x11_1< (l0_1.length:Int):=of_decide_eq_true sqA;obtain ⟨ad620,e620,hx620_0⟩:=Kd.zP HR0_1.out x11_1 p620 q620;cases e620;replace hx620_0:=(HB.out.cell (World.block_lt_of_cell? w _ hx620_0)).trans hx620_0;replace p620:=eq_true p620;replace q620:=eq_true q620;(go_wp2_with (first|((with_reducible refine sqc 89 ?_);refine sql 19 Tryz.func89 #[.int .i64 (Go.bits .and .i64 a1 (rd l0_1 x11_1))] ?_;(with_reducible refine (vm.calls (Go.bits .and .i64 a1 (rd l0_1 x11_1)) t621 _ A8.out).mono ?_);rintro e w' ⟨rfl,⟨nd,rfl⟩⟩;refine ⟨_,rfl,?_⟩)));(go_roundg k1);(case measure=>have:=HK1.out;omega);(case rel=>exact ⟨(ji9),(wrap64 (x11_1+1)),(by first|rfl|(simp;done)|(simp only [←hji9]<;>(first|rfl|simp))|(simp [*];done)),(sqD),H',⟨by have:=HK1.out;omega⟩,⟨sqK BK619.out⟩,⟨sqB⟩⟩));(·rw [if_neg c5] at H;have c5b0:decide (x11_1< (l0_1.length:Int))=false:=decide_eq_false c5;clear c5;obtain rfl:=Option.some.inj H;go_wp2;go_ret;exact ⟨sqE,sqB⟩)))
end F
end
section
namespace F
open Go.RowKit Wa Wb Wc
attribute [local go_sem] jS jQ vv vx jv ju jP jO
def zU.f (k:Nat)(a0_0:Int)(l0_1:List Int)(a1:Int):Option (Int):=(yG.f k a0_0 l0_1 a1).bind fun t626=>(if t626=true then ((jk.f k a0_0 l0_1 a1).bind fun t627=>((jx.f a0_0).bind fun t628=>((jk.f k a0_0 l0_1 (Go.bits .andNot .i64 t628 a1)).bind fun t629=>(if 0< (l0_1.length:Int) then ((vm.f (rd l0_1 0)).bind fun t631=>(some (wrap64 ((wrap64 (t627+t629)) - t631)))) else (none))))) else (some (-1)))
def zU.T3:Bool×List (List Nat×List Nat):=(true,[([],[]),([],[]),([0,1],[0,1]),([],[]),([],[]),([4],[4]),([5,2],[5]),([],[]),([6,7],[6,7]),([3,8,6],[3,8]),([2,9],[2,9]),([],[]),([11],[11]),([12],[12]),([13],[13]),([14,9],[14]),([10,15],[10,15]),([16,15,0,1,2,3,4,5,6,7,8,9,10,11,12,13,14,15,16],[16])])
def zU.B3:List Nat:=[0,0,3,0,0,16,55,0,247,511,1023,0,2048,6144,14336,31743,65535,131071]
theorem zU.zaF:yo .any (opsOf Tryz.f35 3)=zU.T3:=by kernel_rfl
theorem zU.VM:vu zU.T3.2 zU.B3=true:=by kernel_rfl
theorem zU.calls (k:Nat)(a0_0:Int)(A0_1:Option Addr)(c0_1:Nat)(l0_1:List Int)(a1:Int)(r:Int)(w:World)(hr0_1:Kd.C (Kd.int .i64) w A0_1 l0_1.length l0_1)(hc0_1:l0_1.length≤c0_1)(h:zU.f k a0_0 l0_1 a1=some r):Calls Tryz.prog 35 #[.agg #[.int .i64 a0_0,.slice A0_1 l0_1.length c0_1],.int .i64 a1] w fun e w'=>e= .returned (.int .i64 r)∧Below w.heap.size w w':=by have hu26:=Tryz.underlying26;have HR0_1:=Aside0.mk hr0_1;have HC0_1:=Aside0.mk hc0_1;clear hr0_1 hc0_1;have HB:=Aside0.mk (Below.refl w.heap.size w);have H:=h;unfold zU.f at H;clear h;replace H:=zr H;obtain ⟨t626,A3,H⟩:=H;by_cases c4:t626=true;(·subst c4;rw [if_pos rfl] at H;replace H:=zr H;obtain ⟨t627,A5,H⟩:=H;replace H:=zr H;obtain ⟨t628,A6,H⟩:=H;replace H:=zr H;obtain ⟨t629,A7,H⟩:=H;obtain ⟨c8,H⟩:=qg H;have c8b0:decide (0< (l0_1.length:Int))=true:=decide_eq_true c8;have c8b1:decide (0<l0_1.length)=true:=decide_eq_true (by omega);clear c8;replace H:=zr H;obtain ⟨t631,A9,H⟩:=H;obtain rfl:=Option.some.inj H;go_enter Tryz.func35,Tryz.ntmps35;(try go_wp2_with (first|((with_reducible refine sqd 2 ?_);refine sqx #[.int .i64 a0_0,.slice A0_1 l0_1.length c0_1] 26 ?_;intro gb625 hg w10 hbox hb;have q_:=f4 (za sqB hb) hbox (sqS hg:w.heap.size≤gb625) (sqS hg:w.heap.size≤gb625);clear HB;obtain ⟨HB,BK625,GW625,GE625⟩:=q_;clear hb hbox hg;obtain ⟨_,_,_,_⟩:=z2 BK625.out)|((with_reducible refine sqc 88 ?_);refine sql 7 Tryz.func88 #[.agg #[.int .i64 a0_0,.slice A0_1 l0_1.length c0_1],.int .i64 a1] ?_;(with_reducible refine (yG.calls k a0_0 _ _ l0_1 a1 true _ ?side1 ?side2 A3.out).mono ?_);(case side1=>exact sqC (Kd.zq HR0_1.out HB.out));(case side2=>exact HC0_1.out);rintro e w12 ⟨rfl,hb⟩;refine ⟨_,rfl,?_⟩;have q_:=f2 (sqh BK625 hb) (za sqB hb);clear BK625 HB;obtain ⟨BK625,HB⟩:=q_)));have q_:=f2 (zO BK625.out) (zN HB.out);clear BK625 HB;obtain ⟨BK625,HB⟩:=q_;have p630:0≤(0:Int):=(by omega);have q630:0< (l0_1.length:Int):=of_decide_eq_true sqA;obtain ⟨ad630,e630,hx630_0⟩:=Kd.zP HR0_1.out 0 p630 q630;have hw630_0:=hx630_0;(try rw [show ((0:Int)).toNat=0 from rfl] at hw630_0);(try rw [show 0*1=0 from rfl] at hw630_0);(try rw [Addr.add_zero'] at hw630_0);cases e630;have qi630:(0<l0_1.length)=True:=eq_true (by omega);(try rw [show ((0:Int)).toNat=0 from rfl] at hx630_0);(try rw [Addr.add_zero'] at hx630_0);replace hx630_0:=(HB.out.cell (World.block_lt_of_cell? w _ hx630_0)).trans hx630_0;replace p630:=eq_true p630;replace q630:=eq_true q630;refine vl (n:=18) (S:=fun w'=>w'.cell? ⟨gb625,0,none⟩=some (.int .i64 a0_0)∧w'.cell? ⟨gb625,1,none⟩=some (.slice (some ad630) l0_1.length c0_1)∧w'.cell? ad630=some (.int .i64 (rd l0_1 0))) (ds:=[]) #[false,false,false,false,false,false,false,false,false,false,false,false,false,false,false,false,false,false] (by kernel_rfl) rfl rfl ⟨(zf BK625.out 0).trans rfl,(zf BK625.out 1).trans rfl,((HB.out.cell (World.block_lt_of_cell? w _ hw630_0)).trans hw630_0)⟩ (fun hHeld=> ?_);refine qY zU.zaF zU.VM (fun HT_ HW_=> ?_);generalize w12.drew=w13 at BK625 HB hx630_0 hHeld ⊢;refine tP 1 (some 10) ?_;refine tP 4 (some 13) ?_;refine tP 7 (some 16) ?_;refine tP 11 (some 20) ?_;refine tT 0 (some 9) ?_;refine tT 3 (some 12) ?_;refine tT 5 (some 14) ?_;refine tT 12 (some 21) ?_;refine tP 13 (some 22) ?_;refine tT 14 (some 23) ?_;refine tO 2 (some 11) fun K hK=> ?_;refine sqg Tryz.func77 #[.agg #[.int .i64 a0_0,.slice (some ad630) l0_1.length c0_1],.int .i64 a1] ?_;(with_reducible refine (jk.calls k a0_0 _ _ l0_1 a1 t627 _ ?side1 ?side2 A5.out).mono ?_);(case side1=>exact sqC (Kd.zq HR0_1.out HB.out));(case side2=>exact HC0_1.out);rintro e w14 ⟨rfl,hb⟩;refine ⟨_,rfl,?_⟩;have q_:=f2 (sqh BK625 hb) (za sqB hb);clear BK625 HB;obtain ⟨BK625,HB⟩:=q_;refine hK.out _ _ ⟨(zf BK625.out 0).trans rfl,(zf BK625.out 1).trans rfl,((HB.out.cell (World.block_lt_of_cell? w _ hw630_0)).trans hw630_0)⟩ (fun hHeld=> ?_);clear hK K;refine tN 11 (h:= ?_);refine tO 6 (some 15) fun K hK=> ?_;refine sqg Tryz.func58 #[.int .i64 a0_0] ?_;(with_reducible refine (jx.calls a0_0 t628 _ A6.out).mono ?_);rintro e w' ⟨rfl,⟨nd,rfl⟩⟩;refine ⟨_,rfl,?_⟩;refine hK.out _ _ ⟨(zf BK625.out 0).trans rfl,(zf BK625.out 1).trans rfl,((HB.out.cell (World.block_lt_of_cell? w _ hw630_0)).trans hw630_0)⟩ (fun hHeld=> ?_);clear hK K;refine tN 15 (h:= ?_);refine tP 8 (some 17) ?_;refine tO 9 (some 18) fun K hK=> ?_;refine sqg Tryz.func77 #[.agg #[.int .i64 a0_0,.slice (some ad630) l0_1.length c0_1],.int .i64 (Go.bits .andNot .i64 t628 a1)] ?_;(with_reducible refine (jk.calls k a0_0 _ _ l0_1 (Go.bits .andNot .i64 t628 a1) t629 _ ?side1 ?side2 A7.out).mono ?_);(case side1=>exact sqC (Kd.zq HR0_1.out sqB));(case side2=>exact HC0_1.out);rintro e w15 ⟨rfl,hb⟩;refine ⟨_,rfl,?_⟩;have q_:=f2 (sqh BK625 hb) (za sqB hb);clear BK625 HB;obtain ⟨BK625,HB⟩:=q_;refine hK.out _ _ ⟨(zf BK625.out 0).trans rfl,(zf BK625.out 1).trans rfl,((HB.out.cell (World.block_lt_of_cell? w _ hw630_0)).trans hw630_0)⟩ (fun hHeld=> ?_);clear hK K;refine tN 18 (h:= ?_);refine tP 10 (some 19) ?_;refine tO 15 (some 24) fun K hK=> ?_;refine sqg Tryz.func89 #[.int .i64 (rd l0_1 0)] ?_;(with_reducible refine (vm.calls (rd l0_1 0) t631 _ A9.out).mono ?_);rintro e w' ⟨rfl,⟨nd,rfl⟩⟩;refine ⟨_,rfl,?_⟩;refine hK.out _ _ ⟨(zf BK625.out 0).trans rfl,(zf BK625.out 1).trans rfl,((HB.out.cell (World.block_lt_of_cell? w _ hw630_0)).trans hw630_0)⟩ (fun hHeld=> ?_);clear hK K;refine tN 24 (h:= ?_);refine tP 16 (some 25) ?_;refine tP 17 (some 4) ?_;refine ya (jG HT_.out (by kernel_rfl)) ?_;(try go_wp2);go_ret;exact ⟨sqE,sqB⟩);(·obtain rfl:=sqf c4;rw [if_neg sqz] at H;obtain rfl:=Option.some.inj H;go_enter Tryz.func35,Tryz.ntmps35;(go_wp2_with (first|((with_reducible refine sqd 2 ?_);refine sqx #[.int .i64 a0_0,.slice A0_1 l0_1.length c0_1] 26 ?_;intro gb625 hg w16 hbox hb;have q_:=f4 (za sqB hb) hbox (sqS hg:w.heap.size≤gb625) (sqS hg:w.heap.size≤gb625);clear HB;obtain ⟨HB,BK625,GW625,GE625⟩:=q_;clear hb hbox hg;obtain ⟨_,_,_,_⟩:=z2 BK625.out)|((with_reducible refine sqc 88 ?_);refine sql 7 Tryz.func88 #[.agg #[.int .i64 a0_0,.slice A0_1 l0_1.length c0_1],.int .i64 a1] ?_;(with_reducible refine (yG.calls k a0_0 _ _ l0_1 a1 false _ ?side1 ?side2 A3.out).mono ?_);(case side1=>exact sqC (Kd.zq HR0_1.out HB.out));(case side2=>exact HC0_1.out);rintro e w18 ⟨rfl,hb⟩;refine ⟨_,rfl,?_⟩;have q_:=f2 (sqh BK625 hb) (za sqB hb);clear BK625 HB;obtain ⟨BK625,HB⟩:=q_)));go_ret;exact ⟨sqE,sqB⟩)
end F
end
section
namespace F
open Go.RowKit Wa Wb Wc
attribute [local go_sem] jS jQ vv vx jv ju jP jO
def qc.l0:Nat→Int→List Int→List Int→Int→Int→Option (List Int)
 |0,_,_,_,_,_=>none
 |k+1,x0,x5,x13,x14,x15=>if x15<x14 then (if 0≤x15 then (if x15< (x13.length:Int) then ((jx.f x0).bind fun t778=>(if x5.length<17592186044416 then (qc.l0 k x0 (x5++[Go.bits .andNot .i64 t778 (rd x13 x15)]) x13 x14 (wrap64 (x15+1))) else (none))) else (none)) else (none)) else ((qH.f k x5).bind fun t782=>(some t782))
def qc.f (k:Nat)(a0:Int)(l1:List Int):Option (List Int):=(qT.f k a0 l1).bind fun t773=>(if t773=true then (qc.l0 k a0 (([]:List Int)) l1 (l1.length:Int) 0) else (some ([]:List Int)))
theorem qc.calls (k:Nat)(a0:Int)(A1:Option Addr)(c1:Nat)(l1:List Int)(r:List Int)(w:World)(hr1:Kd.C (Kd.int .i64) w A1 l1.length l1)(hc1:l1.length≤c1)(h:qc.f k a0 l1=some r):Calls Tryz.prog 65 #[.int .i64 a0,.slice A1 l1.length c1] w fun e w'=> ∃v0_:Value,e= .returned (v0_)∧Kd.R (Kd.int .i64) 3 w' w.heap.size (fun _=>True) v0_ r∧Below w.heap.size w w':=by have HR1:=Aside0.mk hr1;have HC1:=Aside0.mk hc1;clear hr1 hc1;have HB:=Aside0.mk (Below.refl w.heap.size w);have H:=h;unfold qc.f at H;clear h;replace H:=zr H;obtain ⟨t773,A3,H⟩:=H;by_cases c4:t773=true;(·subst c4;rw [if_pos rfl] at H;obtain ⟨y774,hy774⟩: ∃y_:List Int,y_=(([]:List Int)):=⟨_,rfl⟩;replace H:(qc.l0 k a0 y774 l1 (l1.length:Int) 0)=some r:=sqy hy774 H;have Ny774:=Aside0.mk hy774;clear hy774;have H':=Aside0.mk H;clear H;go_enter Tryz.func65,Tryz.ntmps65;(go_wp2_with (first|((with_reducible refine sqc 123 ?_);refine sql 10 Tryz.func123 #[.int .i64 a0,.slice A1 l1.length c1] ?_;(with_reducible refine (qT.calls k a0 _ _ l1 true _ ?side1 ?side2 A3.out).mono ?_);(case side1=>exact sqC HR1.out);(case side2=>exact HC1.out);rintro e w' ⟨rfl,⟨nd,rfl⟩⟩;refine ⟨_,rfl,?_⟩)|((with_reducible refine sqd 12 ?_);refine sqv ?_;intro v775 w5 ho6 hb hg_ hnew_;clear hg_ hnew_;(first|rw [←Ny774.out] at ho6|(simp only [Int.reduceToNat] at ho6;rw [←Ny774.out] at ho6));have q_:=f2 (Kd.zw ho6 (ze sqB)) (za sqB hb);clear HB;obtain ⟨HO776,HB⟩:=q_;clear hb ho6)));(go_loopg [5,15] k (fun kq v5 v15 w'=> ∃(x5_1:List Int) (x15_1:Int),v15= .int .i64 x15_1∧Aside0 (qc.l0 kq a0 x5_1 l1 (l1.length:Int) x15_1=some r)∧Aside0 (kq≤k)∧Aside0 (Kd.R (Kd.int .i64) 3 w' w.heap.size (fun _=>True) v5 x5_1)∧Aside0 (Below w.heap.size w w')));(case atStart=>exact ⟨(y774),(0),(sqD),H',⟨Nat.le_refl _⟩,⟨sqR HO776.out⟩,⟨sqB⟩⟩);(case round=>clear H';obtain ⟨x5_1,x15_1,rfl,HA,HK1,HO_5,HB⟩:=hrel;(cases gk with|zero=>exact absurd HA.out (by simp [qc.l0])|succ k1=>have H:=HA.out;clear HA;simp only [qc.l0] at H;by_cases c7:x15_1< (l1.length:Int);(·rw [if_pos c7] at H;have c7b0:decide (x15_1< (l1.length:Int))=true:=decide_eq_true c7;clear c7;obtain ⟨c8,H⟩:=qg H;have c8b0:decide (0≤x15_1)=true:=decide_eq_true c8;clear c8;obtain ⟨c9,H⟩:=qg H;have c9b0:decide (x15_1< (l1.length:Int))=true:=decide_eq_true c9;clear c9;replace H:=zr H;obtain ⟨t778,A10,H⟩:=H;obtain ⟨c11,H⟩:=qg H;have LMc11:=Aside0.mk c11;clear c11;obtain ⟨y779,hy779⟩: ∃y_:List Int,y_=(x5_1++[Go.bits .andNot .i64 t778 (rd l1 x15_1)]):=⟨_,rfl⟩;replace H:(qc.l0 k1 a0 y779 l1 (l1.length:Int) (wrap64 (x15_1+1)))=some r:=sqy hy779 H;have Ny779:=Aside0.mk hy779;clear hy779;have H':=Aside0.mk H;clear H;have p777:0≤(x15_1:Int):=of_decide_eq_true sqA;have q777:x15_1< (l1.length:Int):=of_decide_eq_true sqA;obtain ⟨ad777,e777,hx777_0⟩:=Kd.zP HR1.out x15_1 p777 q777;cases e777;replace hx777_0:=(HB.out.cell (World.block_lt_of_cell? w _ hx777_0)).trans hx777_0;replace p777:=eq_true p777;replace q777:=eq_true q777;(go_wp2_with (first|((with_reducible refine sqc 58 ?_);refine sql 21 Tryz.func58 #[.int .i64 a0] ?_;(with_reducible refine (jx.calls a0 t778 _ A10.out).mono ?_);rintro e w' ⟨rfl,⟨nd,rfl⟩⟩;refine ⟨_,rfl,?_⟩)|((with_reducible refine qy (b:= .append) (xs:=#[.tmp 19,.tmp 24]) rfl ?_);at_builtin;refine Kd.jR (Kd.int .i64) (w0:=w) w.heap.size rfl (.tmp 19) (.tmp 24) 24 3 (.int .i64 0) 8 rfl Tryz.underlying24 j8 rfl (by decide) (by omega) u5 x5_1 (Go.bits .andNot .i64 t778 (rd l1 x15_1)) [.int .i64 (Go.bits .andNot .i64 t778 (rd l1 x15_1))] (fun _=>True) (fun _=>False) rfl rfl ?aP (fun _ hk=>hk.elim) ?aF ?aO ?aB ?aS ?aL ?_;(case aP=>exact rfl);(case aB=>exact sqB);(case aF=>exact (fun _ _=>trivial));(case aO=>exact (sqR HO_5.out));(case aS=>exact (ze sqB));(case aL=>have:=LMc11.out;omega);intro v780 w12 ho hb hg hat;rw [←Ny779.out] at ho;have q_:=f2 hb ho;clear HB HO_5;obtain ⟨HB,HO781⟩:=q_;clear ho hb hg hat)));(go_roundg k1);(case measure=>have:=HK1.out;omega);(case rel=>exact ⟨(y779),(wrap64 (x15_1+1)),(sqD),H',⟨by have:=HK1.out;omega⟩,⟨sqR HO781.out⟩,⟨sqB⟩⟩));(·rw [if_neg c7] at H;have c7b0:decide (x15_1< (l1.length:Int))=false:=decide_eq_false c7;clear c7;replace H:=zr H;obtain ⟨t782,A13,H⟩:=H;obtain rfl:=Option.some.inj H;obtain ⟨Ao14,co14,eo14⟩:=Kd.zy HO_5.out;subst eo14;(go_wp2_with (first|((with_reducible refine sqc 81 ?_);refine sql 28 Tryz.func81 #[.slice Ao14 x5_1.length co14] ?_;(with_reducible refine (qH.calls k1 _ _ x5_1 t782 _ ?side1 ?side2 A13.out).mono ?_);(case side1=>exact sqC (Kd.zc HO_5.out).2.2);(case side2=>exact (Kd.zc HO_5.out).2.1);rintro e w15 ⟨v783,rfl,ho0,hb⟩;refine ⟨_,rfl,?_⟩;have q_:=f3 (sqe HO_5 (Kd.zC ho0) hb) (Kd.zw (Kd.zD ho0 (Kd.qa (sqR HO_5.out))) (ze sqB)) (za sqB hb);clear HO_5 HB;obtain ⟨HO_5,HO784,HB⟩:=q_)));go_ret;exact ⟨_,sqE,by refine sqR ?_;exact Kd.zo HO784.out (fun _ hk=>trivial),sqB⟩))));(·obtain rfl:=sqf c4;rw [if_neg sqz] at H;obtain rfl:=Option.some.inj H;go_enter Tryz.func65,Tryz.ntmps65;(go_wp2_with (first|((with_reducible refine sqc 123 ?_);refine sql 10 Tryz.func123 #[.int .i64 a0,.slice A1 l1.length c1] ?_;(with_reducible refine (qT.calls k a0 _ _ l1 false _ ?side1 ?side2 A3.out).mono ?_);(case side1=>exact sqC HR1.out);(case side2=>exact HC1.out);rintro e w' ⟨rfl,⟨nd,rfl⟩⟩;refine ⟨_,rfl,?_⟩)));go_ret;exact ⟨_,sqE,sqN,sqB⟩)
end F
end
section
namespace F
open Go.RowKit Wa Wb Wc
attribute [local go_sem] jS jQ vv vx jv ju jP jO
def jz.f (k:Nat)(a0_0:Int)(l0_1:List Int):Option (Int×List Int):=(zG.f k a0_0 l0_1).bind fun t787=>(if t787=true then ((qc.f k a0_0 l0_1).bind fun t788=>(some (a0_0,t788))) else (some (0,([]:List Int))))
def jz.T3:Bool×List (List Nat×List Nat):=(true,[([],[]),([0],[0]),([],[]),([2],[2]),([],[]),([4],[4]),([3,5],[3,5]),([1,6],[1,6]),([7,6,0,1,2,3,4,5,6,7],[7])])
def jz.B3:List Nat:=[0,1,0,4,0,16,60,127,255]
theorem jz.zaF:yo .any (opsOf Tryz.f66 3)=jz.T3:=by kernel_rfl
theorem jz.VM:vu jz.T3.2 jz.B3=true:=by kernel_rfl
theorem jz.calls (k:Nat)(a0_0:Int)(A0_1:Option Addr)(c0_1:Nat)(l0_1:List Int)(r1:Int)(r2:List Int)(w:World)(hr0_1:Kd.C (Kd.int .i64) w A0_1 l0_1.length l0_1)(hc0_1:l0_1.length≤c0_1)(h:jz.f k a0_0 l0_1=some (r1,r2)):Calls Tryz.prog 66 #[.agg #[.int .i64 a0_0,.slice A0_1 l0_1.length c0_1]] w fun e w'=> ∃v1_:Value,e= .returned (.agg #[.int .i64 r1,v1_])∧Kd.R (Kd.int .i64) 3 w' w.heap.size (fun _=>True) v1_ r2∧Below w.heap.size w w':=by have hu26:=Tryz.underlying26;have HR0_1:=Aside0.mk hr0_1;have HC0_1:=Aside0.mk hc0_1;clear hr0_1 hc0_1;have HB:=Aside0.mk (Below.refl w.heap.size w);have H:=h;unfold jz.f at H;clear h;replace H:=zr H;obtain ⟨t787,A2,H⟩:=H;by_cases c3:t787=true;(·subst c3;rw [if_pos rfl] at H;replace H:=zr H;obtain ⟨t788,A4,H⟩:=H;simp only [Option.some.injEq,Prod.mk.injEq] at H;obtain ⟨rfl,rfl⟩:=H;go_enter Tryz.func66,Tryz.ntmps66;(try go_wp2_with (first|((with_reducible refine sqd 1 ?_);refine sqx #[.int .i64 a0_0,.slice A0_1 l0_1.length c0_1] 26 ?_;intro gb785 hg w5 hbox hb;have q_:=f4 (za sqB hb) hbox (sqS hg:w.heap.size≤gb785) (sqS hg:w.heap.size≤gb785);clear HB;obtain ⟨HB,BK785,GW785,GE785⟩:=q_;clear hb hbox hg)|((with_reducible refine sqd 2 ?_);refine sqx #[.int .i64 0,.slice none 0 0] 26 ?_;intro gb786 hg w6 hbox hb;have q_:=f7 (sqh BK785 hb) (za sqB hb) hbox (sqS hg:w.heap.size≤gb786) (sqS hg:w.heap.size≤gb786) (sqn BK785 hg) (sqm BK785 hg);clear BK785 HB;obtain ⟨BK785,HB,BK786,GW786,GE786,NB785_786,NB786_785⟩:=q_;clear hb hbox hg;have hnb7:=NB785_786.out;have hnc7:=NB786_785.out;obtain ⟨_,_,_,_⟩:=z2 BK785.out)|((with_reducible refine sqc 52 ?_);refine sql 4 Tryz.func52 #[.agg #[.int .i64 a0_0,.slice A0_1 l0_1.length c0_1]] ?_;(with_reducible refine (zG.calls k a0_0 _ _ l0_1 true _ ?side1 ?side2 A2.out).mono ?_);(case side1=>exact sqC (Kd.zq HR0_1.out HB.out));(case side2=>exact HC0_1.out);rintro e w9 ⟨rfl,hb⟩;refine ⟨_,rfl,?_⟩;have q_:=f3 (sqh BK785 hb) (sqh BK786 hb) (za sqB hb);clear BK785 BK786 HB;obtain ⟨BK785,BK786,HB⟩:=q_)));have q_:=f3 (zO BK785.out) (zO BK786.out) (zN HB.out);clear BK785 BK786 HB;obtain ⟨BK785,BK786,HB⟩:=q_;refine vl (n:=9) (S:=fun w'=>w'.cell? ⟨gb785,0,none⟩=some (.int .i64 a0_0)∧w'.cell? ⟨gb785,1,none⟩=some (.slice A0_1 l0_1.length c0_1)) (ds:=[]) #[false,false,false,false,false,false,false,false,false] (by kernel_rfl) rfl rfl tH (fun hHeld=> ?_);refine qY jz.zaF jz.VM (fun HT_ HW_=> ?_);generalize w9.drew=w10 at BK785 BK786 HB hHeld ⊢;refine tP 0 (some 7) ?_;refine tP 2 (some 9) ?_;refine tP 4 (some 11) ?_;refine tT 1 (some 8) ?_;refine tT 3 (some 10) ?_;refine tT 5 (some 12) ?_;refine tO 6 (some 13) fun K hK=> ?_;refine sqg Tryz.func65 #[.int .i64 a0_0,.slice A0_1 l0_1.length c0_1] ?_;(with_reducible refine (qc.calls k a0_0 _ _ l0_1 t788 _ ?side1 ?side2 A4.out).mono ?_);(case side1=>exact sqC (Kd.zq HR0_1.out HB.out));(case side2=>exact HC0_1.out);rintro e w11 ⟨v789,rfl,ho0,hb⟩;refine ⟨_,rfl,?_⟩;have q_:=f4 (Kd.zw ho0 (ze sqB)) (sqh BK785 hb) (sqh BK786 hb) (za sqB hb);clear BK785 BK786 HB;obtain ⟨HO790,BK785,BK786,HB⟩:=q_;obtain ⟨Ao12,co12,eo12⟩:=Kd.zy HO790.out;(first|subst eo12|(injection eo12 with f1_ f2_ f3_;have f4_:=f1_.symm;have f5_:=f3_.symm;clear f1_ f2_ f3_;subst f4_;subst f5_));refine hK.out _ _ tH (fun hHeld=> ?_);clear hK K;refine tN 13 (h:= ?_);refine tP 7 (some 14) ?_;refine tO 8 none fun K hK=> ?_;have hs13:w11.cell? ⟨gb786,0,none⟩=some (.int .i64 0):=(zf BK786.out 0).trans rfl;have hfs13:=zk BK786.out 0;have hns13_0:=NB785_786.out;have hms13_0:=NB786_785.out;have hs14:w11.cell? ⟨gb786,1,none⟩=some (.slice none 0 0):=(zf BK786.out 1).trans rfl;have hfs14:=zk BK786.out 1;have hns14_0:=NB785_786.out;have hms14_0:=NB786_785.out;refine tK (h:= ?_);refine hK.out _ _ ⟨((cell_far (p:=⟨gb786,_,none⟩) NB785_786.out _).trans (((cell_far (p:=⟨gb786,_,none⟩) NB785_786.out _).trans (hHeld.1)))),((cell_far (p:=⟨gb786,_,none⟩) NB785_786.out _).trans (((cell_far (p:=⟨gb786,_,none⟩) NB785_786.out _).trans (hHeld.2))))⟩ (fun hHeld=> ?_);clear hK K;refine ya (jG HT_.out (by kernel_rfl)) ?_;(try go_wp2);refine bodyPost_ret (results_cell_row rfl _ _ gb786 26 #[.int .i64 a0_0,.slice Ao12 t788.length co12] (0,0) _ rfl (by refine sqK ?_;refine zp (cs:=#[.int .i64 a0_0,.slice none 0 0]) ?_ 1 _ rfl;refine sqK ?_;refine zp (cs:=#[.int .i64 0,.slice none 0 0]) ?_ 0 _ rfl;refine sqK ?_;exact BK786.out) Tryz.underlying26 rfl (by kernel_rfl)) rfl ?_;exact ⟨_,sqE,by refine sqR ?_;exact Kd.zo (Kd.zS (p:=⟨gb786,1,none⟩) (Kd.zS (p:=⟨gb786,0,none⟩) (Kd.zV HO790.out BK786.out (by decide)) (fun _ hk=>hk.2) (.int .i64 a0_0)) (fun _ hk=>hk.2) (.slice Ao12 t788.length co12)) (fun _ hk=>trivial),sqB⟩);(·obtain rfl:=sqf c3;rw [if_neg sqz] at H;simp only [Option.some.injEq,Prod.mk.injEq] at H;obtain ⟨rfl,rfl⟩:=H;go_enter Tryz.func66,Tryz.ntmps66;(go_wp2_with (first|((with_reducible refine sqd 1 ?_);refine sqx #[.int .i64 a0_0,.slice A0_1 l0_1.length c0_1] 26 ?_;intro gb785 hg w15 hbox hb;have q_:=f4 (za sqB hb) hbox (sqS hg:w.heap.size≤gb785) (sqS hg:w.heap.size≤gb785);clear HB;obtain ⟨HB,BK785,GW785,GE785⟩:=q_;clear hb hbox hg)|((with_reducible refine sqd 2 ?_);refine sqx #[.int .i64 0,.slice none 0 0] 26 ?_;intro gb786 hg w16 hbox hb;have q_:=f7 (sqh BK785 hb) (za sqB hb) hbox (sqS hg:w.heap.size≤gb786) (sqS hg:w.heap.size≤gb786) (sqn BK785 hg) (sqm BK785 hg);clear BK785 HB;obtain ⟨BK785,HB,BK786,GW786,GE786,NB785_786,NB786_785⟩:=q_;clear hb hbox hg;have hnb17:=NB785_786.out;have hnc17:=NB786_785.out;obtain ⟨_,_,_,_⟩:=z2 BK785.out)|((with_reducible refine sqc 52 ?_);refine sql 4 Tryz.func52 #[.agg #[.int .i64 a0_0,.slice A0_1 l0_1.length c0_1]] ?_;(with_reducible refine (zG.calls k a0_0 _ _ l0_1 false _ ?side1 ?side2 A2.out).mono ?_);(case side1=>exact sqC (Kd.zq HR0_1.out HB.out));(case side2=>exact HC0_1.out);rintro e w19 ⟨rfl,hb⟩;refine ⟨_,rfl,?_⟩;have q_:=f3 (sqh BK785 hb) (sqh BK786 hb) (za sqB hb);clear BK785 BK786 HB;obtain ⟨BK785,BK786,HB⟩:=q_;obtain ⟨_,_,_,_⟩:=z2 BK786.out)));refine bodyPost_ret (results_cell_row rfl _ _ gb786 26 #[.int .i64 0,.slice none 0 0] (0,0) _ rfl (by refine sqK ?_;refine zp (cs:=#[.int .i64 0,.slice none 0 0]) ?_ 1 _ rfl;refine sqK ?_;refine zp (cs:=#[.int .i64 0,.slice none 0 0]) ?_ 0 _ rfl;refine sqK ?_;exact BK786.out) Tryz.underlying26 rfl (by kernel_rfl)) rfl ?_;exact ⟨_,sqE,sqN,sqB⟩)
end F
end
section
namespace F
open Go.RowKit Wa Wb Wc
attribute [local go_sem] jS jQ vv vx jv ju jP jO
def qR.l0:Nat→Int→List Int→Int→Int→Option (Int)
 |0,_,_,_,_=>none
 |k+1,x3,x13,x14,x15=>if x15<x14 then (if 0≤x15 then (if x15< (x13.length:Int) then (qR.l0 k (Go.bits .andNot .i64 x3 (rd x13 x15)) x13 x14 (wrap64 (x15+1))) else (none)) else (none)) else (some x3)
def qR.f (k:Nat)(a0_0:Int)(l0_1:List Int):Option (Int):=(zG.f k a0_0 l0_1).bind fun t729=>(if t729=true then ((jx.f a0_0).bind fun t730=>(qR.l0 k t730 l0_1 (l0_1.length:Int) 0)) else (some 0))
theorem qR.calls (k:Nat)(a0_0:Int)(A0_1:Option Addr)(c0_1:Nat)(l0_1:List Int)(r:Int)(w:World)(hr0_1:Kd.C (Kd.int .i64) w A0_1 l0_1.length l0_1)(hc0_1:l0_1.length≤c0_1)(h:qR.f k a0_0 l0_1=some r):Calls Tryz.prog 93 #[.agg #[.int .i64 a0_0,.slice A0_1 l0_1.length c0_1]] w fun e w'=>e= .returned (.int .i64 r)∧Below w.heap.size w w':=by have hu26:=Tryz.underlying26;have HR0_1:=Aside0.mk hr0_1;have HC0_1:=Aside0.mk hc0_1;clear hr0_1 hc0_1;have HB:=Aside0.mk (Below.refl w.heap.size w);have H:=h;unfold qR.f at H;clear h;replace H:=zr H;obtain ⟨t729,A2,H⟩:=H;by_cases c3:t729=true;(·subst c3;rw [if_pos rfl] at H;replace H:=zr H;obtain ⟨t730,A4,H⟩:=H;have H':=Aside0.mk H;clear H;go_enter Tryz.func93,Tryz.ntmps93;(go_wp2_with (first|((with_reducible refine sqd 1 ?_);refine sqx #[.int .i64 a0_0,.slice A0_1 l0_1.length c0_1] 26 ?_;intro gb728 hg w5 hbox hb;have q_:=f4 (za sqB hb) hbox (sqS hg:w.heap.size≤gb728) (sqS hg:w.heap.size≤gb728);clear HB;obtain ⟨HB,BK728,GW728,GE728⟩:=q_;clear hb hbox hg;obtain ⟨_,_,_,_⟩:=z2 BK728.out)|((with_reducible refine sqc 52 ?_);refine sql 7 Tryz.func52 #[.agg #[.int .i64 a0_0,.slice A0_1 l0_1.length c0_1]] ?_;(with_reducible refine (zG.calls k a0_0 _ _ l0_1 true _ ?side1 ?side2 A2.out).mono ?_);(case side1=>exact sqC (Kd.zq HR0_1.out HB.out));(case side2=>exact HC0_1.out);rintro e w7 ⟨rfl,hb⟩;refine ⟨_,rfl,?_⟩;have q_:=f2 (sqh BK728 hb) (za sqB hb);clear BK728 HB;obtain ⟨BK728,HB⟩:=q_;obtain ⟨_,_,_,_⟩:=z2 BK728.out)|((with_reducible refine sqc 58 ?_);refine sql 11 Tryz.func58 #[.int .i64 a0_0] ?_;(with_reducible refine (jx.calls a0_0 t730 _ A4.out).mono ?_);rintro e w' ⟨rfl,⟨nd,rfl⟩⟩;refine ⟨_,rfl,?_⟩)));(go_loopg [3,15] k (fun kq v3 v15 w'=> ∃(x3_1:Int) (x15_1:Int),v3= .int .i64 x3_1∧v15= .int .i64 x15_1∧Aside0 (qR.l0 kq x3_1 l0_1 (l0_1.length:Int) x15_1=some r)∧Aside0 (kq≤k)∧Aside0 (w'.heap[gb728]? =some (.cells #[.int .i64 a0_0,(.slice A0_1 l0_1.length c0_1)] 26 (0,0)))∧Aside0 (Below w.heap.size w w')));(case atStart=>exact ⟨(t730),(0),(sqD),(sqD),H',⟨Nat.le_refl _⟩,⟨sqK BK728.out⟩,⟨sqB⟩⟩);(case round=>clear H';obtain ⟨x3_1,x15_1,rfl,rfl,HA,HK1,BK728,HB⟩:=hrel;(cases gk with|zero=>exact absurd HA.out (by simp [qR.l0])|succ k1=>have H:=HA.out;clear HA;simp only [qR.l0] at H;by_cases c9:x15_1< (l0_1.length:Int);(·rw [if_pos c9] at H;have c9b0:decide (x15_1< (l0_1.length:Int))=true:=decide_eq_true c9;clear c9;obtain ⟨c10,H⟩:=qg H;have c10b0:decide (0≤x15_1)=true:=decide_eq_true c10;clear c10;obtain ⟨c11,H⟩:=qg H;have c11b0:decide (x15_1< (l0_1.length:Int))=true:=decide_eq_true c11;clear c11;have H':=Aside0.mk H;clear H;have p731:0≤(x15_1:Int):=of_decide_eq_true sqA;have q731:x15_1< (l0_1.length:Int):=of_decide_eq_true sqA;obtain ⟨ad731,e731,hx731_0⟩:=Kd.zP HR0_1.out x15_1 p731 q731;cases e731;replace hx731_0:=(HB.out.cell (World.block_lt_of_cell? w _ hx731_0)).trans hx731_0;replace p731:=eq_true p731;replace q731:=eq_true q731;go_wp2;(go_roundg k1);(case measure=>have:=HK1.out;omega);(case rel=>exact ⟨(Go.bits .andNot .i64 x3_1 (rd l0_1 x15_1)),(wrap64 (x15_1+1)),(sqD),(sqD),H',⟨by have:=HK1.out;omega⟩,⟨sqK BK728.out⟩,⟨sqB⟩⟩));(·rw [if_neg c9] at H;have c9b0:decide (x15_1< (l0_1.length:Int))=false:=decide_eq_false c9;clear c9;obtain rfl:=Option.some.inj H;go_wp2;go_ret;exact ⟨sqE,sqB⟩))));(·obtain rfl:=sqf c3;rw [if_neg sqz] at H;obtain rfl:=Option.some.inj H;go_enter Tryz.func93,Tryz.ntmps93;(go_wp2_with (first|((with_reducible refine sqd 1 ?_);refine sqx #[.int .i64 a0_0,.slice A0_1 l0_1.length c0_1] 26 ?_;intro gb728 hg w12 hbox hb;have q_:=f4 (za sqB hb) hbox (sqS hg:w.heap.size≤gb728) (sqS hg:w.heap.size≤gb728);clear HB;obtain ⟨HB,BK728,GW728,GE728⟩:=q_;clear hb hbox hg;obtain ⟨_,_,_,_⟩:=z2 BK728.out)|((with_reducible refine sqc 52 ?_);refine sql 7 Tryz.func52 #[.agg #[.int .i64 a0_0,.slice A0_1 l0_1.length c0_1]] ?_;(with_reducible refine (zG.calls k a0_0 _ _ l0_1 false _ ?side1 ?side2 A2.out).mono ?_);(case side1=>exact sqC (Kd.zq HR0_1.out HB.out));(case side2=>exact HC0_1.out);rintro e w14 ⟨rfl,hb⟩;refine ⟨_,rfl,?_⟩;have q_:=f2 (sqh BK728 hb) (za sqB hb);clear BK728 HB;obtain ⟨BK728,HB⟩:=q_)));go_ret;exact ⟨sqE,sqB⟩)
end F
end
section
namespace F
open Go.RowKit Wa Wb Wc
def y0 (q:Int→Option Bool):Nat→Int→List Int→Int→Option (List Int)
  |0,_,_,_=>none
  |k+1,n,out,s=>(jx.f n).bind fun t=>if s≤t then ((q s).bind fun b=>if b=true then (if out.length<17592186044416 then y0 q k n (out++[s]) (wrap64 (s+1)) else none) else y0 q k n out (wrap64 (s+1))) else some out
theorem Jg (q:Int→Option Bool)(g:Nat)(lb:Array Value)(eg: ∀args w,(callFunc g args).run Tryz.prog w= .ok (.enter g args) w)(k:Nat)(n:Int)(r:List Int)(w:World)(hp:J1 g lb q w)(h:y0 q k n [] 0=some r):
    Calls Tryz.prog 84 #[.int .i64 n,.func (.func g) #[] lb] w fun e w'=> ∃v0_:Value,e= .returned (v0_)∧Kd.R (Kd.int .i64) 3 w' w.heap.size (fun _=>True) v0_ r∧Below w.heap.size w w':=by
  have HB:=Aside0.mk (Below.refl w.heap.size w)
  have HP:=Aside0.mk hp
  clear hp
  obtain ⟨yL,hyL⟩: ∃y_:List Int,y_=(([]:List Int)):=⟨_,rfl⟩
  have H':=Aside0.mk (show y0 q k n yL 0=some r by rw [hyL];exact h)
  clear h
  have NyL:=Aside0.mk hyL
  clear hyL
  go_enter Tryz.func84,Tryz.ntmps84
  go_wp2_with (first|((with_reducible refine jH (N:=7) rfl ?_);refine Kd.ZQ (Kd.int .i64) _ 3 ?hg (N:=7) ?hd (xs:=([]:List Int)) (inner:=[]) (ok:=fun _=>True) (okp:=fun _=>True) ?hr ?hp (fun _ hk=>hk) trivial (Below.refl _ _) (Nat.le_refl _) (by simp) ?_;(case hd=>rfl);(case hg=>rfl);(case hr=>exact sqG);(case hp=>exact (qS.none _ _));intro vL wL hoL hb hg_ hnew_;clear hg_ hnew_;(first|rw [←NyL.out] at hoL|(simp only [Int.reduceToNat] at hoL;rw [←NyL.out] at hoL));have n0_:=Aside0.mk (Kd.zw hoL (ze sqB));have n1_:=Aside0.mk (za sqB hb);clear HB;have HOL:=n0_;have HB:=n1_;clear n0_ n1_;clear hb hoL))
  go_loopg [5,6] k (fun kq v5 v6 w'=> ∃(out:List Int) (s:Int),v6= .int .i64 s∧Aside0 (y0 q kq n out s=some r)∧Aside0 (kq≤k)∧Aside0 (Kd.R (Kd.int .i64) 3 w' w.heap.size (fun _=>True) v5 out)∧Aside0 (Below w.heap.size w w'))
  case atStart=>exact ⟨yL,0,rfl,H',⟨Nat.le_refl _⟩,⟨sqR HOL.out⟩,⟨sqB⟩⟩
  case round=>
    clear H'
    obtain ⟨out,s,rfl,HA,HK1,HO,HB⟩:=hrel
    cases gk with
    |zero=>exact absurd HA.out (by simp [y0])
    |succ k1=>
      have H:=HA.out
      clear HA
      simp only [y0] at H
      obtain ⟨t,ht,H⟩:=Option.bind_eq_some_iff.mp H
      have AT:=Aside0.mk ht
      clear ht
      by_cases c1:s≤t
      · rw [if_pos c1] at H
        obtain ⟨b,hb,H⟩:=Option.bind_eq_some_iff.mp H
        have AB:=Aside0.mk hb
        clear hb
        have c1b0:decide (s≤t)=true:=decide_eq_true c1
        clear c1
        cases b with
        |true=>
          have H1:(if out.length<17592186044416 then y0 q k1 n (out++[s]) (wrap64 (s+1)) else none)=some r:=by simpa using H
          clear H
          by_cases c2:out.length<17592186044416
          · rw [if_pos c2] at H1
            have HLen:=Aside0.mk c2
            clear c2
            obtain ⟨yA,hyA⟩: ∃y_:List Int,y_=(out++[s]):=⟨_,rfl⟩
            rw [←hyA] at H1
            have NyA:=Aside0.mk hyA
            have H':=Aside0.mk H1
            clear H1 hyA
            go_wp2_with ((with_reducible refine jJ (f:=58) rfl ?_);refine vV (some 10) rfl rfl Tryz.func58 (by kernel_rfl) rfl #[.int .i64 n] rfl (by (try simp only [List.map_toArray,List.map_cons,List.map_nil]);first|done|rfl) ?_;(with_reducible refine (jx.calls n t _ AT.out).mono ?_);rintro e w' ⟨rfl,⟨nd,rfl⟩⟩;refine ⟨_,rfl,?_⟩)
            refine (HP.out _ _ _ AB.out sqB).mono ?_
            rintro e w9 ⟨rfl,hb⟩
            have n0_:=Aside0.mk (za (w:=w) sqB hb)
            have n1_:=Aside0.mk (Kd.yB (sqR HO.out) hb)
            clear HB HO hb;have HB:=n0_;have HO:=n1_;clear n0_ n1_
            go_wp2_with ((with_reducible refine qy (b:= .append) (xs:=#[.tmp 17,.tmp 19]) rfl ?_);at_builtin;refine Kd.jR (Kd.int .i64) (w0:=w) w.heap.size rfl (.tmp 17) (.tmp 19) 24 3 (.int .i64 0) 8 rfl Tryz.underlying24 j8 rfl (by decide) (by omega) u5 out s [.int .i64 s] (fun _=>True) (fun _=>False) rfl rfl ?aP (fun _ hk=>hk.elim) ?aF ?aO ?aB ?aS ?aL ?_;(case aP=>exact rfl);(case aB=>exact sqB);(case aF=>exact (fun _ _=>trivial));(case aO=>exact (sqR HO.out));(case aS=>exact (ze sqB));(case aL=>have:=HLen.out;omega);intro v161 w8 ho hb hg hat;rw [←NyA.out] at ho;have n0_:=Aside0.mk (hb);have n1_:=Aside0.mk (ho);clear HB;clear HO;have HB:=n0_;have HOA:=n1_;clear n0_ n1_;clear ho hb hg hat)
            go_roundg k1
            case measure=>have:=HK1.out;omega
            case rel=>exact ⟨yA,wrap64 (s+1),rfl,H',⟨by have:=HK1.out;omega⟩,⟨sqR HOA.out⟩,⟨sqB⟩⟩
          · rw [if_neg c2] at H1
            exact absurd H1 (by simp)
        |false=>
          have H':=Aside0.mk (show y0 q k1 n out (wrap64 (s+1))=some r by simpa using H)
          clear H
          go_wp2_with ((with_reducible refine jJ (f:=58) rfl ?_);refine vV (some 10) rfl rfl Tryz.func58 (by kernel_rfl) rfl #[.int .i64 n] rfl (by (try simp only [List.map_toArray,List.map_cons,List.map_nil]);first|done|rfl) ?_;(with_reducible refine (jx.calls n t _ AT.out).mono ?_);rintro e w' ⟨rfl,⟨nd,rfl⟩⟩;refine ⟨_,rfl,?_⟩)
          refine (HP.out _ _ _ AB.out sqB).mono ?_
          rintro e w9 ⟨rfl,hb⟩
          have n0_:=Aside0.mk (za (w:=w) sqB hb)
          have n1_:=Aside0.mk (Kd.yB (sqR HO.out) hb)
          clear HB HO hb;have HB:=n0_;have HO:=n1_;clear n0_ n1_
          go_wp2
          go_roundg k1
          case measure=>have:=HK1.out;omega
          case rel=>exact ⟨out,wrap64 (s+1),rfl,H',⟨by have:=HK1.out;omega⟩,HO,HB⟩
      · rw [if_neg c1] at H
        have c1b0:decide (s≤t)=false:=decide_eq_false c1
        clear c1
        obtain rfl:=Option.some.inj H
        go_wp2_with ((with_reducible refine jJ (f:=58) rfl ?_);refine vV (some 10) rfl rfl Tryz.func58 (by kernel_rfl) rfl #[.int .i64 n] rfl (by (try simp only [List.map_toArray,List.map_cons,List.map_nil]);first|done|rfl) ?_;(with_reducible refine (jx.calls n t _ AT.out).mono ?_);rintro e w' ⟨rfl,⟨nd,rfl⟩⟩;refine ⟨_,rfl,?_⟩)
        go_ret
        exact ⟨_,rfl,sqR HO.out,sqB⟩
end F
end
section
namespace F
open Go.RowKit Wa Wb Wc
def zF.q (s t:Int):Option Bool:=if t=s then some false else j7.f t s
def zF.l0:Nat→List Int→List Int→List Int→Int→Option (List Int)
  |0,_,_,_,_=>none
  |k+1,l,out,ss,x=>if x< (ss.length:Int) then (if 0≤x then ((Q6 (zF.q (rd ss x)) l).bind fun b=>if b=true then zF.l0 k l out ss (wrap64 (x+1)) else (if out.length<17592186044416 then zF.l0 k l (out++[rd ss x]) ss (wrap64 (x+1)) else none)) else none) else some out
def zF.f (k:Nat)(l:List Int):Option (List Int):=if l.length≤17592186044416 then ((jl.f k l).bind fun t=>if t=true then ((qH.f k l).bind fun ss=>zF.l0 k l [] ss 0) else some []) else none
theorem zF.pred (s:Int)(ga:Nat)(w:World)(ha:w.heap[ga]? =some (.cells #[.int .i64 s] 3 (0,0))):J1 127 #[.pointer (some ⟨ga,0,none⟩)] (zF.q s) w:=by
  intro W x r hq hb
  unfold zF.q at hq
  have hc0:W.cell? ⟨ga,0,none⟩=some (.int .i64 s):=(zf (zR ha hb) 0).trans rfl
  by_cases e:x=s
  · rw [if_pos e] at hq
    obtain rfl:=Option.some.inj hq
    have e0:(x != s)=false:=bne_eq_false_iff_eq.mpr e
    clear ha hb hq e
    go_enter Tryz.func127,Tryz.ntmps127
    go_wp2
    go_ret
    exact ⟨rfl,by repeat (first|exact Below.refl _ _|apply zN|apply zW)⟩
  · rw [if_neg e] at hq
    have e0:(x != s)=true:=bne_iff_ne.mpr e
    have H:=Aside0.mk hq
    clear ha hb hq e
    go_enter Tryz.func127,Tryz.ntmps127
    go_wp2_with (go_at_call 73;(try simp only [zA,zI]);(with_reducible refine (j7.calls x s r _ H.out).mono ?_);rintro e w' ⟨rfl,⟨nd,rfl⟩⟩)
    go_ret
    exact ⟨rfl,by repeat (first|exact Below.refl _ _|apply zN|apply zW)⟩
theorem zF.calls (k:Nat)(A0:Option Addr)(c0:Nat)(l0:List Int)(r:List Int)(w:World)(hr0:Kd.C (Kd.int .i64) w A0 l0.length l0)(hc0:l0.length≤c0)(h:zF.f k l0=some r):
    Calls Tryz.prog 74 #[.slice A0 l0.length c0] w fun e w'=> ∃v0_:Value,e= .returned (v0_)∧Kd.R (Kd.int .i64) 3 w' w.heap.size (fun _=>True) v0_ r∧Below w.heap.size w w':=by
  unfold zF.f at h
  by_cases hl:l0.length≤17592186044416
  case neg=>rw [if_neg hl] at h;exact absurd h (by simp)
  rw [if_pos hl] at h
  obtain ⟨t,ht,h⟩:=Option.bind_eq_some_iff.mp h
  have HR:=Aside0.mk hr0
  have HC:=Aside0.mk hc0
  have HS:=Aside0.mk hl
  have HT:=Aside0.mk ht
  have HB:=Aside0.mk (Below.refl w.heap.size w)
  obtain ⟨yL,hyL⟩: ∃y_:List Int,y_=(([]:List Int)):=⟨_,rfl⟩
  cases t with
  |false=>
    have hn:r=[]:=by simpa using h.symm
    subst hn
    clear h hr0 hc0 hl ht
    have NyL:=Aside0.mk hyL
    clear hyL
    go_enter Tryz.func74,Tryz.ntmps74
    go_wp2_with (first
      |((with_reducible refine jH (N:=6) rfl ?_);refine Kd.ZQ (Kd.int .i64) _ 3 ?hg (N:=6) ?hd (xs:=([]:List Int)) (inner:=[]) (ok:=fun _=>True) (okp:=fun _=>True) ?hr ?hp (fun _ hk=>hk) trivial (Below.refl _ _) (Nat.le_refl _) (by simp) ?_;(case hd=>rfl);(case hg=>rfl);(case hr=>exact sqG);(case hp=>exact (qS.none _ _));intro vL wL hoL hb hg_ hnew_;clear hg_ hnew_;clear hoL;have n1_:=Aside0.mk (za sqB hb);clear HB;have HB:=n1_;clear n1_;clear hb)
      |((with_reducible refine jJ (f:=117) rfl ?_);refine vV (some 8) rfl rfl Tryz.func117 (by kernel_rfl) rfl #[.slice A0 l0.length c0] rfl (by (try simp only [List.map_toArray,List.map_cons,List.map_nil]);first|done|rfl) ?_;(with_reducible refine (jl.calls k _ _ l0 false _ ?side1 HC.out HT.out).mono ?_);(case side1=>exact sqC (Kd.zq HR.out HB.out));rintro e w' ⟨rfl,⟨nd,rfl⟩⟩;refine ⟨_,rfl,?_⟩))
    go_ret
    exact ⟨_,rfl,Kd.VK _ _ _ _ _,sqB⟩
  |true=>
    have h:((qH.f k l0).bind fun ss=>zF.l0 k l0 [] ss 0)=some r:=by simpa using h
    obtain ⟨ss,hss,h⟩:=Option.bind_eq_some_iff.mp h
    rw [←hyL] at h
    have NyL:=Aside0.mk hyL
    have HSS:=Aside0.mk hss
    have H':=Aside0.mk h
    clear h hr0 hc0 hl ht hyL hss
    go_enter Tryz.func74,Tryz.ntmps74
    go_wp2_with (first
      |((with_reducible refine jH (N:=6) rfl ?_);refine Kd.ZQ (Kd.int .i64) _ 3 ?hg (N:=6) ?hd (xs:=([]:List Int)) (inner:=[]) (ok:=fun _=>True) (okp:=fun _=>True) ?hr ?hp (fun _ hk=>hk) trivial (Below.refl _ _) (Nat.le_refl _) (by simp) ?_;(case hd=>rfl);(case hg=>rfl);(case hr=>exact sqG);(case hp=>exact (qS.none _ _));intro vL wL hoL hb hg_ hnew_;clear hg_ hnew_;(first|rw [←NyL.out] at hoL|(simp only [Int.reduceToNat] at hoL;rw [←NyL.out] at hoL));have n0_:=Aside0.mk (Kd.zw hoL (ze sqB));have n1_:=Aside0.mk (za sqB hb);clear HB;have HOL:=n0_;have HB:=n1_;clear n0_ n1_;clear hb hoL)
      |((with_reducible refine jJ (f:=117) rfl ?_);refine vV (some 8) rfl rfl Tryz.func117 (by kernel_rfl) rfl #[.slice A0 l0.length c0] rfl (by (try simp only [List.map_toArray,List.map_cons,List.map_nil]);first|done|rfl) ?_;(with_reducible refine (jl.calls k _ _ l0 true _ ?side1 HC.out HT.out).mono ?_);(case side1=>exact sqC (Kd.zq HR.out HB.out));rintro e w' ⟨rfl,⟨nd,rfl⟩⟩;refine ⟨_,rfl,?_⟩)
      |((with_reducible refine jJ (f:=81) rfl ?_);refine vV (some 11) rfl rfl Tryz.func81 (by kernel_rfl) rfl #[.slice A0 l0.length c0] rfl (by (try simp only [List.map_toArray,List.map_cons,List.map_nil]);first|done|rfl) ?_;(with_reducible refine (qH.calls k _ _ l0 ss _ ?side1 HC.out HSS.out).mono ?_);(case side1=>exact sqC (Kd.zq HR.out HB.out));rintro e w8 ⟨vS,rfl,ho0,hb⟩;refine ⟨_,rfl,?_⟩;have n0_:=Aside0.mk (Kd.vH (sqR HOL.out) (Kd.zC ho0) hb);have n1_:=Aside0.mk (Kd.zw (Kd.zD ho0 (Kd.qa (sqR HOL.out))) (ze sqB));have n3_:=Aside0.mk (za sqB hb);clear HOL;clear HB;have HOL:=n0_;have HOS:=n1_;have HB:=n3_;clear n0_ n1_ n3_;clear hb ho0;obtain ⟨Ao,co,eo⟩:=Kd.zy HOS.out;subst eo))
    go_loopg [3,13] k (fun kq v3 v13 w'=> ∃(out:List Int) (x:Int),v13= .int .i64 x∧Aside0 (zF.l0 kq l0 out ss x=some r)∧Aside0 (kq≤k)∧Aside0 (Kd.R (Kd.int .i64) 3 w' w.heap.size (fun k_=>some k_≠((.slice Ao ss.length co):Value).ownBlock) v3 out)∧Aside0 (Kd.R (Kd.int .i64) 3 w' w.heap.size (fun k_=>some k_≠(v3:Value).ownBlock) (.slice Ao ss.length co) ss)∧Aside0 (Below w.heap.size w w'))
    case atStart=>exact ⟨yL,0,rfl,H',⟨Nat.le_refl _⟩,⟨by refine sqR ?_;exact Kd.zo HOL.out (fun _ hk=>hk.2)⟩,⟨by refine sqR ?_;exact Kd.zo HOS.out (fun _ hk=>hk.2)⟩,⟨sqB⟩⟩
    case round=>
      clear H' HOL HOS HB
      obtain ⟨out,x,rfl,HA,HK1,HO,HOS,HB⟩:=hrel
      cases gk with
      |zero=>exact absurd HA.out (by simp [zF.l0])
      |succ k1=>
        have H:=HA.out
        clear HA
        simp only [zF.l0] at H
        by_cases c1:x< (ss.length:Int)
        · rw [if_pos c1] at H
          by_cases c2:0≤x
          · rw [if_pos c2] at H
            obtain ⟨b,hb,H⟩:=Option.bind_eq_some_iff.mp H
            have AB:=Aside0.mk hb
            clear hb
            have c1b0:decide (x< (ss.length:Int))=true:=decide_eq_true c1
            have c2b0:decide (0≤x)=true:=decide_eq_true c2
            obtain ⟨ad1,e1,hx1⟩:=Kd.zP (Kd.zc HOS.out).2.2 x c2 c1
            cases e1
            replace c1:=eq_true c1
            replace c2:=eq_true c2
            obtain ⟨y,hy⟩: ∃y_:Int,y_=rd ss x:=⟨_,rfl⟩
            rw [←hy] at AB H hx1
            clear hy
            cases b with
            |true=>
              have H':=Aside0.mk (show zF.l0 k1 l0 out ss (wrap64 (x+1))=some r by simpa using H)
              clear H
              go_wp2_with (first
                |((with_reducible refine jH (N:=5) rfl ?_);refine qm ?hg (N:=5) ?hd (cs:=#[.int .i64 0]) (t:=3) ?hr ?_;(case hd=>rfl);(case hg=>rfl);(case hr=>exact sqG);intro ga hg w7 hbox hb;have HG3:=Aside0.mk hg;have BKa:=Aside0.mk hbox;have HBa:=Aside0.mk hb;have hca:w7.cell? ⟨ga,0,none⟩=some (.int .i64 0):=(zf BKa.out 0).trans rfl;have hfa:=zk BKa.out 0;clear hg hbox hb hx1)
                |((with_reducible refine yV (t:=3) (p:=5) rfl ?_);refine yH (t:=3) (p:=5) (v:= ?vo_w8) (w1:=(w7.setCell ⟨ga,0,none⟩ (.int .i64 y))) ?hg ?ho ?hn ?hr ?_;(case ho=>rfl);(case hg=>rfl);(case hn=>rfl);(case hr=>exact sqG);intro w8 hw;have hp_:=Jd (v:= .int .i64 y) HG3.out BKa.out HBa.out;rw [←hw] at hp_;have BK8:=Aside0.mk hp_.1;have HB8:=Aside0.mk hp_.2;clear hp_ hw BKa HBa HG3 hca hfa;have BKa:=BK8;clear BK8))
              refine (vU (zF.q y) _ _ (enters_of Tryz.func127 (by kernel_rfl) rfl) _ _ l0 true _ (zF.pred y _ _ BKa.out) (Kd.zq HR.out (za HB.out HB8.out)) HC.out HS.out AB.out).mono ?_
              rintro e w9 ⟨rfl,hb⟩
              have HB9:=Aside0.mk (za HB8.out hb)
              have n0_:=Aside0.mk (Kd.yB HO.out HB9.out)
              have n1_:=Aside0.mk (Kd.yB HOS.out HB9.out)
              have n2_:=Aside0.mk (za HB.out HB9.out)
              clear HO HOS HB hb HB8 HB9 BKa;have HO:=n0_;have HOS:=n1_;have HB:=n2_;clear n0_ n1_ n2_
              go_wp2
              go_roundg k1
              case measure=>have:=HK1.out;omega
              case rel=>exact ⟨out,wrap64 (x+1),rfl,H',⟨by have:=HK1.out;omega⟩,⟨sqR HO.out⟩,⟨sqR HOS.out⟩,⟨sqB⟩⟩
            |false=>
              have H1:(if out.length<17592186044416 then zF.l0 k1 l0 (out++[y]) ss (wrap64 (x+1)) else none)=some r:=by simpa using H
              clear H
              by_cases c3:out.length<17592186044416
              case neg=>rw [if_neg c3] at H1;exact absurd H1 (by simp)
              rw [if_pos c3] at H1
              have HLen:=Aside0.mk c3
              clear c3
              obtain ⟨yA,hyA⟩: ∃y_:List Int,y_=(out++[y]):=⟨_,rfl⟩
              rw [←hyA] at H1
              have NyA:=Aside0.mk hyA
              have H':=Aside0.mk H1
              clear H1 hyA
              go_wp2_with (first
                |((with_reducible refine jH (N:=5) rfl ?_);refine qm ?hg (N:=5) ?hd (cs:=#[.int .i64 0]) (t:=3) ?hr ?_;(case hd=>rfl);(case hg=>rfl);(case hr=>exact sqG);intro ga hg w7 hbox hb;have HG3:=Aside0.mk hg;have BKa:=Aside0.mk hbox;have HBa:=Aside0.mk hb;have hca:w7.cell? ⟨ga,0,none⟩=some (.int .i64 0):=(zf BKa.out 0).trans rfl;have hfa:=zk BKa.out 0;clear hg hbox hb hx1)
                |((with_reducible refine yV (t:=3) (p:=5) rfl ?_);refine yH (t:=3) (p:=5) (v:= ?vo_w8) (w1:=(w7.setCell ⟨ga,0,none⟩ (.int .i64 y))) ?hg ?ho ?hn ?hr ?_;(case ho=>rfl);(case hg=>rfl);(case hn=>rfl);(case hr=>exact sqG);intro w8 hw;have hp_:=Jd (v:= .int .i64 y) HG3.out BKa.out HBa.out;rw [←hw] at hp_;have BK8:=Aside0.mk hp_.1;have HB8:=Aside0.mk hp_.2;clear hp_ hw BKa HBa HG3 hca hfa;have BKa:=BK8;clear BK8))
              refine (vU (zF.q y) _ _ (enters_of Tryz.func127 (by kernel_rfl) rfl) _ _ l0 false _ (zF.pred y _ _ BKa.out) (Kd.zq HR.out (za HB.out HB8.out)) HC.out HS.out AB.out).mono ?_
              rintro e w9 ⟨rfl,hb⟩
              have hca:w9.cell? ⟨ga,0,none⟩=some (.int .i64 y):=(zf (zR BKa.out hb) 0).trans rfl
              have HB9:=Aside0.mk (za HB8.out hb)
              have n0_:=Aside0.mk (Kd.yB HO.out HB9.out)
              have n1_:=Aside0.mk (Kd.yB HOS.out HB9.out)
              have n2_:=Aside0.mk (za HB.out HB9.out)
              clear HO HOS HB hb HB8 HB9 BKa;have HO:=n0_;have HOS:=n1_;have HB:=n2_;clear n0_ n1_ n2_
              go_wp2_with ((with_reducible refine qy (b:= .append) (xs:=#[.tmp 21,.tmp 23]) rfl ?_);at_builtin;refine Kd.jR (Kd.int .i64) (w0:=w) w.heap.size rfl (.tmp 21) (.tmp 23) 24 3 (.int .i64 0) 8 rfl Tryz.underlying24 j8 rfl (by decide) (by omega) u3 out y [.int .i64 y] (fun k_=>some k_≠(.slice (some ad1) ss.length co:Value).ownBlock) (fun _=>False) rfl rfl ?aP (fun _ hk=>hk.elim) ?aF ?aO ?aB ?aS ?aL ?_;(case aP=>exact rfl);(case aB=>exact sqB);(case aF=>exact (fun k_ hk=>Kd.Zm (Kd.qa (sqR HOS.out)) k_ hk));(case aO=>exact (sqR HO.out));(case aS=>exact (ze sqB));(case aL=>have:=HLen.out;omega);intro v230 w18 ho hb hg hat;rw [←NyA.out] at ho;have n0_:=Aside0.mk (Kd.vw (ok:=(fun _=>True)) (by refine sqR ?_;exact Kd.zo HOS.out (fun _ hk=>⟨trivial,hk⟩)) hg hat);have n2_:=Aside0.mk (hb);have n3_:=Aside0.mk (ho);clear HOS;clear HB;clear HO;have HOS:=n0_;have HB:=n2_;have HO:=n3_;clear n0_ n2_ n3_;clear ho hb hg hat hca)
              go_roundg k1
              case measure=>have:=HK1.out;omega
              case rel=>exact ⟨yA,wrap64 (x+1),rfl,H',⟨by have:=HK1.out;omega⟩,⟨sqR HO.out⟩,⟨by refine sqR ?_;exact Kd.zo HOS.out (fun _ hk=>hk.2)⟩,⟨sqB⟩⟩
          · rw [if_neg c2] at H;exact absurd H (by simp)
        · rw [if_neg c1] at H
          have c1b0:decide (x< (ss.length:Int))=false:=decide_eq_false c1
          clear c1
          obtain rfl:=Option.some.inj H
          go_wp2
          go_ret
          exact ⟨_,rfl,by refine sqR ?_;exact Kd.zo HO.out (fun _ _=>trivial),sqB⟩
end F
end
section
namespace F
open Go.RowKit Wa Wb Wc
def qA.q (k:Nat)(n:Int)(l:List Int)(s:Int):Option Bool:=(qK.f k n l s).bind fun t=>some (!t)
def qA.f (k:Nat)(a0_0:Int)(l0_1:List Int):Option (List Int):=(zG.f k a0_0 l0_1).bind fun t=>if t=true then ((y0 (qA.q k a0_0 l0_1) k a0_0 [] 0).bind fun L=>zF.f k L) else some []
theorem qA.pred (k:Nat)(l:List Int)(n:Int)(A:Option Addr)(c gm:Nat)(w:World)(hm:w.heap[gm]? =some (.cells #[.int .i64 n,.slice A l.length c] 26 (0,0)))
    (hr:Kd.C (Kd.int .i64) w A l.length l) (hc:l.length≤c):J1 132 #[.pointer (some ⟨gm,0,none⟩)] (qA.q k n l) w:=by
  intro W x r hq hb
  unfold qA.q at hq
  have hc0:W.cell? ⟨gm,0,none⟩=some (.int .i64 n):=(zf (zR hm hb) 0).trans rfl
  have hc1:W.cell? ⟨gm,1,none⟩=some (.slice A l.length c):=(zf (zR hm hb) 1).trans rfl
  have HR:=Aside0.mk (Kd.zq hr hb)
  have HC:=Aside0.mk hc
  have hu:=Tryz.underlying26
  obtain ⟨t,ht,hq⟩:=Option.bind_eq_some_iff.mp hq
  obtain rfl:=Option.some.inj hq
  have H:=Aside0.mk ht
  clear hq ht hm hr hc hb
  go_enter Tryz.func132,Tryz.ntmps132
  go_wp2_with (go_at_call 133;(try simp only [zA,zI]);(with_reducible refine (qK.calls k n _ _ l x t _ HR.out HC.out H.out).mono ?_);rintro e w' ⟨rfl,hb⟩)
  go_ret
  exact ⟨by first|rfl|simp,by first|exact hb|(obtain ⟨nd,rfl⟩:=hb;exact zW (Below.refl _ _) nd)⟩
theorem qA.calls (k:Nat)(a0_0:Int)(A0_1:Option Addr)(c0_1:Nat)(l0_1:List Int)(r:List Int)(w:World)(hr0_1:Kd.C (Kd.int .i64) w A0_1 l0_1.length l0_1)(hc0_1:l0_1.length≤c0_1)(h:qA.f k a0_0 l0_1=some r):
    Calls Tryz.prog 91 #[.agg #[.int .i64 a0_0,.slice A0_1 l0_1.length c0_1]] w fun e w'=> ∃v0_:Value,e= .returned (v0_)∧Kd.R (Kd.int .i64) 3 w' w.heap.size (fun _=>True) v0_ r∧Below w.heap.size w w':=by
  have hum:=Tryz.underlying26
  unfold qA.f at h
  obtain ⟨t,ht,h⟩:=Option.bind_eq_some_iff.mp h
  have HR:=Aside0.mk hr0_1
  have HC:=Aside0.mk hc0_1
  have HT:=Aside0.mk ht
  have H:=Aside0.mk h
  clear hr0_1 hc0_1 h ht
  cases t with
  |false=>
    have hn:r=[]:=by have:=H.out;simpa using this.symm
    subst hn
    clear H
    go_enter Tryz.func91,Tryz.ntmps91
    go_wp2_with (first
      |((with_reducible refine jH (N:=1) rfl ?_);refine qm ?hg (N:=1) ?hd (cs:=#[.int .i64 a0_0,.slice A0_1 l0_1.length c0_1]) (t:=26) ?hr ?_;(case hd=>rfl);(case hg=>rfl);(case hr=>exact sqG);intro gm hg w4 hbox hb;have HB1:=Aside0.mk hb;have BKm:=Aside0.mk hbox;have hcz0:w4.cell? ⟨gm,0,none⟩=some (.int .i64 a0_0):=(zf BKm.out 0).trans rfl;have hcz1:w4.cell? ⟨gm,1,none⟩=some (.slice A0_1 l0_1.length c0_1):=(zf BKm.out 1).trans rfl;clear hb hbox hg)
      |(go_at_call 52;(try simp only [zA,zI]);(with_reducible refine (zG.calls k a0_0 _ _ l0_1 false _ (Kd.zq HR.out HB1.out) HC.out HT.out).mono ?_);rintro e w' ⟨rfl,hb⟩;have HB2:=Aside0.mk (za HB1.out hb);clear hb hcz0 hcz1 HB1))
    go_ret
    exact ⟨_,rfl,Kd.VK _ _ _ _ _,HB2.out⟩
  |true=>
    have H1:((y0 (qA.q k a0_0 l0_1) k a0_0 [] 0).bind fun L=>zF.f k L)=some r:=by have:=H.out;simpa using this
    obtain ⟨L,hL,hM⟩:=Option.bind_eq_some_iff.mp H1
    have H':=Aside0.mk hL
    have HM:=Aside0.mk hM
    clear H1 hL hM H
    go_enter Tryz.func91,Tryz.ntmps91
    go_wp2_with (first
      |((with_reducible refine jH (N:=1) rfl ?_);refine qm ?hg (N:=1) ?hd (cs:=#[.int .i64 a0_0,.slice A0_1 l0_1.length c0_1]) (t:=26) ?hr ?_;(case hd=>rfl);(case hg=>rfl);(case hr=>exact sqG);intro gm hg w4 hbox hb;have HB1:=Aside0.mk hb;have BKm:=Aside0.mk hbox;have hcz0:w4.cell? ⟨gm,0,none⟩=some (.int .i64 a0_0):=(zf BKm.out 0).trans rfl;have hcz1:w4.cell? ⟨gm,1,none⟩=some (.slice A0_1 l0_1.length c0_1):=(zf BKm.out 1).trans rfl;clear hb hbox hg)
      |(go_at_call 52;(try simp only [zA,zI]);(with_reducible refine (zG.calls k a0_0 _ _ l0_1 true _ (Kd.zq HR.out HB1.out) HC.out HT.out).mono ?_);rintro e w5 ⟨rfl,hb⟩;have HB2:=Aside0.mk (za HB1.out hb);have BK2:=Aside0.mk (zR BKm.out hb);clear hb hcz0 hcz1 HB1 BKm;have hcz0:w5.cell? ⟨gm,0,none⟩=some (.int .i64 a0_0):=(zf BK2.out 0).trans rfl;have hcz1:w5.cell? ⟨gm,1,none⟩=some (.slice A0_1 l0_1.length c0_1):=(zf BK2.out 1).trans rfl))
    refine (Jg (qA.q k a0_0 l0_1) _ _ (enters_of Tryz.func132 (by kernel_rfl) rfl) k a0_0 L _ (qA.pred k l0_1 a0_0 _ c0_1 gm _ BK2.out (Kd.zq HR.out HB2.out) HC.out) H'.out).mono ?_
    rintro e w9 ⟨v,rfl,ho,hb⟩
    obtain ⟨Ao,co,eo⟩:=Kd.zy ho
    subst eo
    have HO:=Aside0.mk ho
    have HB:=Aside0.mk (za HB2.out hb)
    clear ho hb hcz0 hcz1
    go_wp2_with ((with_reducible refine jJ (f:=74) rfl ?_);refine vV (some 10) rfl rfl Tryz.func74 (by kernel_rfl) rfl #[.slice Ao L.length co] rfl (by (try simp only [List.map_toArray,List.map_cons,List.map_nil]);first|done|rfl) ?_;(with_reducible refine (zF.calls k _ _ L r _ (Kd.zc HO.out).2.2 (Kd.zc HO.out).2.1 HM.out).mono ?_);rintro e w10 ⟨v10,rfl,ho,hb⟩;refine ⟨_,rfl,?_⟩;have HO2:=Aside0.mk (Kd.zw ho (ze HB.out));have HB3:=Aside0.mk (za HB.out hb);clear ho hb HB HO)
    go_ret
    exact ⟨_,rfl,HO2.out,HB3.out⟩
end F
end
end Go.Proofs.YtpgkkofiiokhaaaGreat
