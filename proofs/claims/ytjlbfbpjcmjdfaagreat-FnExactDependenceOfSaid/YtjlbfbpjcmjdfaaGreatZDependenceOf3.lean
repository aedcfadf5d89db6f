/- Several texts of this session in one: Fx5, GvState, GvSpecFailure, Fx6, GvFunc, GvFirstFailure, Fx7, Laid, Base, LSort, GvSort, GvMaximalSets. Conditions: as each theorem says. -/
import Derived.Test.YtjlbfbpjcmjdfaaGreatZDependenceOf0
import Derived.Test.YtjlbfbpjcmjdfaaGreatZDependenceOf2
import Derived.Test.YtjlbfbpjcmjdfaaGreatZDependenceOf1
import Derived.Shelf.Abstract
import Derived.Shelf.Sort.Plain
import Derived.Ground.Names2Prog
import Derived.Shelf.Slices.CompactI
import Derived.Shelf.Slices.In.SortNone
import Derived.Test.YtjlbfbpjcmjdfaaGreatProg
import Derived.Lib.SlicesCompact
import Derived.Lib.RowBridge
import Derived.Sort.OwnSortedInts
import Derived.Lib.OwnBridge
set_option maxHeartbeats 8000000
set_option maxRecDepth 100000
section
namespace Go.Proofs.YtjlbfbpjcmjdfaaGreat.F
open Go.RowKit Go.Proofs.YtjlbfbpjcmjdfaaGreatW.PrintWords Go.Proofs.YtjlbfbpjcmjdfaaGreatW.PrintLast Go.Proofs.YtjlbfbpjcmjdfaaGreatW.PrintMore
attribute [local go_sem] vq vr vT vY jN jO vt vv   -- for this text's walks alone
set_option linter.unusedVariables false
set_option linter.unusedSimpArgs false

def vz.f (k:Nat)(l0:List Int)(a1:Int):Option (Bool):=(jc.f k l0 a1).bind fun t408=>(some t408)
theorem vz.calls (k:Nat)(A0:Option Addr)(c0:Nat)(l0:List Int)(a1:Int)(r:Bool)(w:World)(hr0:Kd.C (Kd.int .i64) w A0 l0.length l0)(hc0:l0.length≤c0)(h:vz.f k l0 a1=some r):Calls Tryz.prog 23 #[.slice A0 l0.length c0,.int .i64 a1] w fun e w'=>e= .returned (.bool r)∧ze w w':=by have HR0:=Aside0.mk hr0;have HC0:=Aside0.mk hc0;clear hr0 hc0;have H:=h;unfold vz.f at H;clear h;replace H:=zU H;obtain ⟨t408,A3,H⟩:=H;obtain rfl:=Option.some.inj H;go_enter Tryz.func23,Tryz.ntmps23;(go_wp2_with (first|((with_reducible refine zc (f:=44) rfl ?_);refine zt (some 7) rfl rfl Tryz.func44 (by kernel_rfl) rfl #[.slice A0 l0.length c0,.int .i64 a1] rfl sqM ?_;(with_reducible refine (jc.calls k _ _ l0 a1 t408 _ ?side1 ?side2 A3.out).mono ?_);(case side1=>exact sqC HR0.out);(case side2=>exact HC0.out);rintro e w' ⟨rfl,⟨nd,rfl⟩⟩;refine ⟨_,rfl,?_⟩)));go_ret;exact ⟨sqD,by repeat (first|exact ze.refl _|apply ze.step)⟩

def qS.f (a0:Int):Option (Bool):=if a0≥0 then (some (decide (a0<256))) else (some false)
theorem qS.calls (a0:Int)(r:Bool)(w:World)(h:qS.f a0=some r):Calls Tryz.prog 76 #[.int .i64 a0] w fun e w'=>e= .returned (.bool r)∧ze w w':=by have H:=h;unfold qS.f at H;clear h;by_cases c2:a0≥0;(·rw [if_pos c2] at H;have c2b0:decide (0≤a0)=true:=decide_eq_true c2;clear c2;obtain rfl:=Option.some.inj H;go_enter Tryz.func76,Tryz.ntmps76;go_wp2;go_ret;exact ⟨sqD,by repeat (first|exact ze.refl _|apply ze.step)⟩);(·rw [if_neg c2] at H;have c2b0:decide (0≤a0)=false:=decide_eq_false c2;clear c2;obtain rfl:=Option.some.inj H;go_enter Tryz.func76,Tryz.ntmps76;go_wp2;go_ret;exact ⟨sqD,by repeat (first|exact ze.refl _|apply ze.step)⟩)

def jK.f (a0:Int)(a1:Int):Option (Bool):=(qS.f a0).bind fun t409=>(if t409=true then (if a1≥0 then (if a1<8 then (if 0≤a1 then (some ((Go.bits .and .i64 (shr .i64 a0 a1) 1)==1)) else (none)) else (some false)) else (some false)) else (some false))
theorem jK.calls (a0:Int)(a1:Int)(r:Bool)(w:World)(h:jK.f a0 a1=some r):Calls Tryz.prog 54 #[.int .i64 a0,.int .i64 a1] w fun e w'=>e= .returned (.bool r)∧ze w w':=by have H:=h;unfold jK.f at H;clear h;replace H:=zU H;obtain ⟨t409,A3,H⟩:=H;by_cases c4:t409=true;(·subst c4;rw [if_pos rfl] at H;by_cases c5:a1≥0;(·rw [if_pos c5] at H;have c5b0:decide (0≤a1)=true:=decide_eq_true c5;clear c5;by_cases c6:a1<8;(·rw [if_pos c6] at H;have c6b0:decide (a1<8)=true:=decide_eq_true c6;clear c6;by_cases c7:0≤a1;(·rw [if_pos c7] at H;have c7b0:=eq_true c7;have c7b1:decide (0≤a1)=true:=decide_eq_true c7;clear c7;obtain ⟨ji8,hji8⟩: ∃j_:Int,(shr .i64 a0 a1)=j_:=⟨_,rfl⟩;(replace H:(some ((Go.bits .and .i64 (ji8) 1)==1))=some r:=by first|(rw [hji8] at H;exact H)|(simp only [hji8] at H ⊢;exact H));(try rw [hji8] at A3);have hji8_:(a0 / 2 ^min a1.toNat 64)=ji8:=hji8;have hji8z:a1≤64→(a0 / 2 ^a1.toNat)=ji8:=Yk hji8;obtain rfl:=Option.some.inj H;go_enter Tryz.func54,Tryz.ntmps54;(go_wp2_with (first|((with_reducible refine zc (f:=76) rfl ?_);refine zt (some 6) rfl rfl Tryz.func76 (by kernel_rfl) rfl #[.int .i64 a0] rfl sqM ?_;(with_reducible refine (qS.calls a0 true _ A3.out).mono ?_);rintro e w' ⟨rfl,⟨nd,rfl⟩⟩;refine ⟨_,rfl,?_⟩)));go_ret;exact ⟨by first|rfl|(simp;done)|(simp only [←hji8]<;>(first|rfl|simp))|(simp [*];done),by repeat (first|exact ze.refl _|apply ze.step)⟩);(·rw [if_neg c7] at H;exact absurd H (by simp)));(·rw [if_neg c6] at H;have c6b0:decide (a1<8)=false:=decide_eq_false c6;clear c6;obtain rfl:=Option.some.inj H;go_enter Tryz.func54,Tryz.ntmps54;(go_wp2_with (first|((with_reducible refine zc (f:=76) rfl ?_);refine zt (some 6) rfl rfl Tryz.func76 (by kernel_rfl) rfl #[.int .i64 a0] rfl sqM ?_;(with_reducible refine (qS.calls a0 true _ A3.out).mono ?_);rintro e w' ⟨rfl,⟨nd,rfl⟩⟩;refine ⟨_,rfl,?_⟩)));go_ret;exact ⟨sqD,by repeat (first|exact ze.refl _|apply ze.step)⟩));(·rw [if_neg c5] at H;have c5b0:decide (0≤a1)=false:=decide_eq_false c5;clear c5;obtain rfl:=Option.some.inj H;go_enter Tryz.func54,Tryz.ntmps54;(go_wp2_with (first|((with_reducible refine zc (f:=76) rfl ?_);refine zt (some 6) rfl rfl Tryz.func76 (by kernel_rfl) rfl #[.int .i64 a0] rfl sqM ?_;(with_reducible refine (qS.calls a0 true _ A3.out).mono ?_);rintro e w' ⟨rfl,⟨nd,rfl⟩⟩;refine ⟨_,rfl,?_⟩)));go_ret;exact ⟨sqD,by repeat (first|exact ze.refl _|apply ze.step)⟩));(·replace c4:=Bool.eq_false_iff.mpr c4;subst c4;rw [if_neg (show ¬(false=true) by decide)] at H;obtain rfl:=Option.some.inj H;go_enter Tryz.func54,Tryz.ntmps54;(go_wp2_with (first|((with_reducible refine zc (f:=76) rfl ?_);refine zt (some 6) rfl rfl Tryz.func76 (by kernel_rfl) rfl #[.int .i64 a0] rfl sqM ?_;(with_reducible refine (qS.calls a0 false _ A3.out).mono ?_);rintro e w' ⟨rfl,⟨nd,rfl⟩⟩;refine ⟨_,rfl,?_⟩)));go_ret;exact ⟨sqD,by repeat (first|exact ze.refl _|apply ze.step)⟩)

def zZ.l0:Nat→Int→List Int→Int→Option (List Int)
 |0,_,_,_=>none
 |k+1,x0,x3,x4=>if x4<8 then ((jK.f x0 x4).bind fun t413=>(if t413=true then (if x3.length<17592186044416 then (zZ.l0 k x0 (x3++[x4]) (wrap64 (x4+1))) else (none)) else (zZ.l0 k x0 x3 (wrap64 (x4+1))))) else (some x3)
def zZ.f (k:Nat)(a0:Int):Option (List Int):=zZ.l0 k a0 (([]:List Int)) 0
theorem zZ.calls (k:Nat)(a0:Int)(r:List Int)(w:World)(h:zZ.f k a0=some r):Calls Tryz.prog 26 #[.int .i64 a0] w fun e w'=> ∃v0_:Value,e= .returned (v0_)∧Kd.R (Kd.int .i64) 3 w' w.heap.size (fun _=>True) v0_ r∧Below w.heap.size w w':=by have HB:=Aside0.mk (Below.refl w.heap.size w);have H:=h;unfold zZ.f at H;clear h;obtain ⟨y410,hy410⟩: ∃y_:List Int,y_=(([]:List Int)):=⟨_,rfl⟩;(replace H:(zZ.l0 k a0 y410 0)=some r:=by first|(rw [hy410];with_reducible exact H)|(have H2_:=(Option.bind_some _ _).symm.trans H;rw [hy410];with_reducible exact H2_)|(have H2_:=(Option.bind_some _ _).symm.trans H;with_reducible exact H2_)|with_reducible exact H|(rw [hy410];exact H)|exact H);have Ny410:=Aside0.mk hy410;clear hy410;have H':=Aside0.mk H;clear H;go_enter Tryz.func26,Tryz.ntmps26;(go_wp2_with (first|((with_reducible refine zk (N:=5) rfl ?_);refine Kd.vF (Kd.int .i64) _ 3 ?hg (N:=5) ?hd (xs:=([]:List Int)) (inner:=[]) (ok:=fun _=>True) (okp:=fun _=>True) ?hr ?hp (fun _ hk=>hk) trivial (Below.refl _ _) (Nat.le_refl _) (by simp) ?_;(case hd=>rfl);(case hg=>rfl);(case hr=>exact sqG);(case hp=>exact (qR.none _ _));intro v411 w2 ho3 hb hg_ hnew_;clear hg_ hnew_;(first|rw [←Ny410.out] at ho3|(simp only [Int.reduceToNat] at ho3;rw [←Ny410.out] at ho3));have q_:=f2 (Kd.zS ho3 (zi sqB)) (za sqB hb);clear HB;obtain ⟨HO412,HB⟩:=q_;clear hb ho3)));(go_loopg [3,4] k (fun kq v3 v4 w'=> ∃(x3_1:List Int) (x4_1:Int),v4= .int .i64 x4_1∧Aside0 (zZ.l0 kq a0 x3_1 x4_1=some r)∧Aside0 (kq≤k)∧Aside0 (Kd.R (Kd.int .i64) 3 w' w.heap.size (fun _=>True) v3 x3_1)∧Aside0 (Below w.heap.size w w')));(case atStart=>exact ⟨(y410),(0),(sqD),H',⟨Nat.le_refl _⟩,⟨sqR HO412.out⟩,⟨sqB⟩⟩);(case round=>clear H';obtain ⟨x3_1,x4_1,rfl,HA,HK1,HO_3,HB⟩:=hrel;(cases gk with|zero=>exact absurd HA.out (by simp [zZ.l0])|succ k1=>have H:=HA.out;clear HA;simp only [zZ.l0] at H;by_cases c4:x4_1<8;(·rw [if_pos c4] at H;have c4b0:decide (x4_1<8)=true:=decide_eq_true c4;clear c4;replace H:=zU H;obtain ⟨t413,A5,H⟩:=H;by_cases c6:t413=true;(·subst c6;rw [if_pos rfl] at H;by_cases c7:x3_1.length<17592186044416;(·rw [if_pos c7] at H;have LMc7:=Aside0.mk c7;clear c7;obtain ⟨y414,hy414⟩: ∃y_:List Int,y_=(x3_1++[x4_1]):=⟨_,rfl⟩;(replace H:(zZ.l0 k1 a0 y414 (wrap64 (x4_1+1)))=some r:=by first|(rw [hy414];with_reducible exact H)|(have H2_:=(Option.bind_some _ _).symm.trans H;rw [hy414];with_reducible exact H2_)|(have H2_:=(Option.bind_some _ _).symm.trans H;with_reducible exact H2_)|with_reducible exact H|(rw [hy414];exact H)|exact H);have Ny414:=Aside0.mk hy414;clear hy414;have H':=Aside0.mk H;clear H;(go_wp2_with (first|((with_reducible refine zc (f:=54) rfl ?_);refine zt (some 12) rfl rfl Tryz.func54 (by kernel_rfl) rfl #[.int .i64 a0,.int .i64 x4_1] rfl sqM ?_;(with_reducible refine (jK.calls a0 x4_1 true _ A5.out).mono ?_);rintro e w' ⟨rfl,⟨nd,rfl⟩⟩;refine ⟨_,rfl,?_⟩)|((with_reducible refine qC (b:= .append) (xs:=#[.tmp 13,.tmp 15]) rfl ?_);at_builtin;refine Kd.vN (Kd.int .i64) (w0:=w) w.heap.size rfl (.tmp 13) (.tmp 15) 22 3 (.int .i64 0) 8 rfl Tryz.underlying22 jM rfl (by decide) (by omega) u3 x3_1 x4_1 [.int .i64 x4_1] (fun _=>True) (fun _=>False) rfl rfl ?aP (fun _ hk=>hk.elim) ?aF ?aO ?aB ?aS ?aL ?_;(case aP=>exact rfl);(case aB=>exact sqB);(case aF=>exact (fun _ _=>trivial));(case aO=>exact (sqR HO_3.out));(case aS=>exact (zi sqB));(case aL=>have:=LMc7.out;omega);intro v415 w8 ho hb hg hat;rw [←Ny414.out] at ho;have q_:=f2 hb ho;clear HB HO_3;obtain ⟨HB,HO416⟩:=q_;clear ho hb hg hat)));(go_roundg k1);(case measure=>have:=HK1.out;omega);(case rel=>exact ⟨(y414),(wrap64 (x4_1+1)),(sqD),H',⟨by have:=HK1.out;omega⟩,⟨sqR HO416.out⟩,⟨sqB⟩⟩));(·rw [if_neg c7] at H;exact absurd H (by simp)));(·replace c6:=Bool.eq_false_iff.mpr c6;subst c6;rw [if_neg (show ¬(false=true) by decide)] at H;have H':=Aside0.mk H;clear H;(go_wp2_with (first|((with_reducible refine zc (f:=54) rfl ?_);refine zt (some 12) rfl rfl Tryz.func54 (by kernel_rfl) rfl #[.int .i64 a0,.int .i64 x4_1] rfl sqM ?_;(with_reducible refine (jK.calls a0 x4_1 false _ A5.out).mono ?_);rintro e w' ⟨rfl,⟨nd,rfl⟩⟩;refine ⟨_,rfl,?_⟩)));(go_roundg k1);(case measure=>have:=HK1.out;omega);(case rel=>exact ⟨(x3_1),(wrap64 (x4_1+1)),(sqD),H',⟨by have:=HK1.out;omega⟩,⟨sqR HO_3.out⟩,⟨sqB⟩⟩)));(·rw [if_neg c4] at H;have c4b0:decide (x4_1<8)=false:=decide_eq_false c4;clear c4;obtain rfl:=Option.some.inj H;go_wp2;go_ret;exact ⟨_,sqE,sqR HO_3.out,sqB⟩)))

def jZ.f (a0:Int)(a1:Int):Option (Bool):=(qP.f a0).bind fun t417=>(if t417=true then (if a1≥0 then (if 0≤a0 then (some (decide (a1< (shl .i64 1 a0)))) else (none)) else (some false)) else (some false))
theorem jZ.calls (a0:Int)(a1:Int)(r:Bool)(w:World)(h:jZ.f a0 a1=some r):Calls Tryz.prog 75 #[.int .i64 a0,.int .i64 a1] w fun e w'=>e= .returned (.bool r)∧ze w w':=by have H:=h;unfold jZ.f at H;clear h;replace H:=zU H;obtain ⟨t417,A3,H⟩:=H;by_cases c4:t417=true;(·subst c4;rw [if_pos rfl] at H;by_cases c5:a1≥0;(·rw [if_pos c5] at H;have c5b0:decide (0≤a1)=true:=decide_eq_true c5;clear c5;by_cases c6:0≤a0;(·rw [if_pos c6] at H;have c6b0:=eq_true c6;have c6b1:decide (0≤a0)=true:=decide_eq_true c6;clear c6;obtain ⟨ji7,hji7⟩: ∃j_:Int,(shl .i64 1 a0)=j_:=⟨_,rfl⟩;(replace H:(some (decide (a1< (ji7))))=some r:=by first|(rw [hji7] at H;exact H)|(simp only [hji7] at H ⊢;exact H));(try rw [hji7] at A3);have hji7_:(IntKind.i64.wrap (1*2 ^min a0.toNat 64))=ji7:=hji7;have hji7z:a0≤64→(IntKind.i64.wrap (1*2 ^a0.toNat))=ji7:=Zf hji7;(have hji7u:(IntKind.i64.wrap (2 ^min a0.toNat 64))=ji7:=by have h_:=hji7_;rw [Int.one_mul] at h_;exact h_);(have hji7v:a0≤64→(IntKind.i64.wrap (2 ^a0.toNat))=ji7:=fun hle_=>by have h_:=hji7z hle_;rw [Int.one_mul] at h_;exact h_);have hji7y:(wrap64 (1*2 ^min a0.toNat 64))=ji7:=(zv _).symm.trans hji7_;have hji7x:a0≤64→(wrap64 (1*2 ^a0.toNat))=ji7:=fun h_=>(zv _).symm.trans (hji7z h_);obtain rfl:=Option.some.inj H;go_enter Tryz.func75,Tryz.ntmps75;(go_wp2_with (first|((with_reducible refine zc (f:=43) rfl ?_);refine zt (some 6) rfl rfl Tryz.func43 (by kernel_rfl) rfl #[.int .i64 a0] rfl sqM ?_;(with_reducible refine (qP.calls a0 true _ A3.out).mono ?_);rintro e w' ⟨rfl,⟨nd,rfl⟩⟩;refine ⟨_,rfl,?_⟩)));go_ret;exact ⟨by first|rfl|(simp;done)|(simp only [←hji7]<;>(first|rfl|simp))|(simp [*];done),by repeat (first|exact ze.refl _|apply ze.step)⟩);(·rw [if_neg c6] at H;exact absurd H (by simp)));(·rw [if_neg c5] at H;have c5b0:decide (0≤a1)=false:=decide_eq_false c5;clear c5;obtain rfl:=Option.some.inj H;go_enter Tryz.func75,Tryz.ntmps75;(go_wp2_with (first|((with_reducible refine zc (f:=43) rfl ?_);refine zt (some 6) rfl rfl Tryz.func43 (by kernel_rfl) rfl #[.int .i64 a0] rfl sqM ?_;(with_reducible refine (qP.calls a0 true _ A3.out).mono ?_);rintro e w' ⟨rfl,⟨nd,rfl⟩⟩;refine ⟨_,rfl,?_⟩)));go_ret;exact ⟨sqD,by repeat (first|exact ze.refl _|apply ze.step)⟩));(·replace c4:=Bool.eq_false_iff.mpr c4;subst c4;rw [if_neg (show ¬(false=true) by decide)] at H;obtain rfl:=Option.some.inj H;go_enter Tryz.func75,Tryz.ntmps75;(go_wp2_with (first|((with_reducible refine zc (f:=43) rfl ?_);refine zt (some 6) rfl rfl Tryz.func43 (by kernel_rfl) rfl #[.int .i64 a0] rfl sqM ?_;(with_reducible refine (qP.calls a0 false _ A3.out).mono ?_);rintro e w' ⟨rfl,⟨nd,rfl⟩⟩;refine ⟨_,rfl,?_⟩)));go_ret;exact ⟨sqD,by repeat (first|exact ze.refl _|apply ze.step)⟩)

def qk.l0:Nat→Int→List Int→List Int→Int→Int→Option (Bool)
 |0,_,_,_,_,_=>none
 |k+1,x0,x1,x7,x8,x9=>if x9<x8 then (if 0≤x9 then (if x9< (x7.length:Int) then ((jZ.f x0 (rd x7 x9)).bind fun t419=>(if t419=true then (if x9>0 then (if 0≤(wrap64 (x9 - 1)) then (if (wrap64 (x9 - 1))< (x1.length:Int) then (if (rd x7 x9)≤(rd x1 (wrap64 (x9 - 1))) then (some false) else (qk.l0 k x0 x1 x7 x8 (wrap64 (x9+1)))) else (none)) else (none)) else (qk.l0 k x0 x1 x7 x8 (wrap64 (x9+1)))) else (some false))) else (none)) else (none)) else ((qP.f x0).bind fun t421=>(some t421))
def qk.f (k:Nat)(a0:Int)(l1:List Int):Option (Bool):=qk.l0 k a0 l1 l1 (l1.length:Int) 0
theorem qk.calls (k:Nat)(a0:Int)(A1:Option Addr)(c1:Nat)(l1:List Int)(r:Bool)(w:World)(hr1:Kd.C (Kd.int .i64) w A1 l1.length l1)(hc1:l1.length≤c1)(h:qk.f k a0 l1=some r):Calls Tryz.prog 67 #[.int .i64 a0,.slice A1 l1.length c1] w fun e w'=>e= .returned (.bool r)∧ze w w':=by have HR1:=Aside0.mk hr1;have HC1:=Aside0.mk hc1;clear hr1 hc1;have H:=h;unfold qk.f at H;clear h;have H':=Aside0.mk H;clear H;go_enter Tryz.func67,Tryz.ntmps67;go_wp2;(go_loopg [9] k (fun kq v9 w'=> ∃(x9_1:Int),v9= .int .i64 x9_1∧Aside0 (qk.l0 kq a0 l1 l1 (l1.length:Int) x9_1=some r)∧Aside0 (kq≤k)∧ze w w'));(case atStart=>exact ⟨(0),(sqD),H',⟨Nat.le_refl _⟩,by repeat (first|exact ze.refl _|apply ze.step)⟩);(case round=>clear H';obtain ⟨x9_1,rfl,HA,HK1,⟨m1,rfl⟩⟩:=hrel;(cases gk with|zero=>exact absurd HA.out (by simp [qk.l0])|succ k1=>have H:=HA.out;clear HA;simp only [qk.l0] at H;by_cases c3:x9_1< (l1.length:Int);(·rw [if_pos c3] at H;have c3b0:decide (x9_1< (l1.length:Int))=true:=decide_eq_true c3;clear c3;by_cases c4:0≤x9_1;(·rw [if_pos c4] at H;have c4b0:decide (0≤x9_1)=true:=decide_eq_true c4;clear c4;by_cases c5:x9_1< (l1.length:Int);(·rw [if_pos c5] at H;have c5b0:decide (x9_1< (l1.length:Int))=true:=decide_eq_true c5;clear c5;replace H:=zU H;obtain ⟨t419,A6,H⟩:=H;by_cases c7:t419=true;(·subst c7;rw [if_pos rfl] at H;by_cases c8:x9_1>0;(·rw [if_pos c8] at H;have c8b0:decide (0<x9_1)=true:=decide_eq_true c8;clear c8;obtain ⟨ji9,hji9⟩: ∃j_:Int,(wrap64 (x9_1 - 1))=j_:=⟨_,rfl⟩;(replace H:(if 0≤(ji9) then (if (ji9)< (l1.length:Int) then (if (rd l1 x9_1)≤(rd l1 (ji9)) then (some false) else (qk.l0 k1 a0 l1 l1 (l1.length:Int) (wrap64 (x9_1+1)))) else (none)) else (none))=some r:=by first|(rw [hji9] at H;exact H)|(simp only [hji9] at H ⊢;exact H));(try rw [hji9] at A6);have hji9w:(IntKind.i64.wrap (x9_1 - 1))=ji9:=(zv _).trans hji9;by_cases c10:0≤(ji9);(·rw [if_pos c10] at H;have c10b0:decide (0≤(ji9))=true:=decide_eq_true c10;clear c10;by_cases c11:(ji9)< (l1.length:Int);(·rw [if_pos c11] at H;have c11b0:decide ((ji9)< (l1.length:Int))=true:=decide_eq_true c11;clear c11;by_cases c12:(rd l1 x9_1)≤(rd l1 (ji9));(·rw [if_pos c12] at H;have c12b0:decide ((rd l1 x9_1)≤(rd l1 (ji9)))=true:=decide_eq_true c12;clear c12;obtain rfl:=Option.some.inj H;have p418:0≤(x9_1:Int):=of_decide_eq_true sqA;have q418:x9_1< (l1.length:Int):=of_decide_eq_true sqA;obtain ⟨ad418,e418,hx418_0⟩:=Kd.zM HR1.out x9_1 p418 q418;cases e418;replace p418:=eq_true p418;replace q418:=eq_true q418;(go_wp2_with (first|((with_reducible refine zc (f:=75) rfl ?_);refine zt (some 16) rfl rfl Tryz.func75 (by kernel_rfl) rfl #[.int .i64 a0,.int .i64 (rd l1 x9_1)] rfl sqM ?_;(with_reducible refine (jZ.calls a0 (rd l1 x9_1) true _ A6.out).mono ?_);rintro e w' ⟨rfl,⟨nd,rfl⟩⟩;refine ⟨_,rfl,?_⟩;have p420:0≤((ji9):Int):=of_decide_eq_true sqA;have q420:(ji9)< (l1.length:Int):=of_decide_eq_true sqA;obtain ⟨ad420,e420,hx420_0⟩:=Kd.zM HR1.out (ji9) p420 q420;obtain rfl:ad418=ad420:=(by injection e420);replace p420:=eq_true p420;replace q420:=eq_true q420)));go_ret;exact ⟨by first|rfl|(simp;done)|(simp only [←hji9]<;>(first|rfl|simp))|(simp [*];done),by repeat (first|exact ze.refl _|apply ze.step)⟩);(·rw [if_neg c12] at H;have c12b0:decide ((rd l1 x9_1)≤(rd l1 (ji9)))=false:=decide_eq_false c12;clear c12;have H':=Aside0.mk H;clear H;have p418:0≤(x9_1:Int):=of_decide_eq_true sqA;have q418:x9_1< (l1.length:Int):=of_decide_eq_true sqA;obtain ⟨ad418,e418,hx418_0⟩:=Kd.zM HR1.out x9_1 p418 q418;cases e418;replace p418:=eq_true p418;replace q418:=eq_true q418;(go_wp2_with (first|((with_reducible refine zc (f:=75) rfl ?_);refine zt (some 16) rfl rfl Tryz.func75 (by kernel_rfl) rfl #[.int .i64 a0,.int .i64 (rd l1 x9_1)] rfl sqM ?_;(with_reducible refine (jZ.calls a0 (rd l1 x9_1) true _ A6.out).mono ?_);rintro e w' ⟨rfl,⟨nd,rfl⟩⟩;refine ⟨_,rfl,?_⟩;have p420:0≤((ji9):Int):=of_decide_eq_true sqA;have q420:(ji9)< (l1.length:Int):=of_decide_eq_true sqA;obtain ⟨ad420,e420,hx420_0⟩:=Kd.zM HR1.out (ji9) p420 q420;obtain rfl:ad418=ad420:=(by injection e420);replace p420:=eq_true p420;replace q420:=eq_true q420)));(go_roundg k1);(case measure=>have:=HK1.out;omega);(case rel=>exact ⟨(wrap64 (x9_1+1)),(sqD),H',⟨by have:=HK1.out;omega⟩,by repeat (first|exact ze.refl _|apply ze.step)⟩)));(·rw [if_neg c11] at H;exact absurd H (by simp)));(·rw [if_neg c10] at H;exact absurd H (by simp)));(·rw [if_neg c8] at H;have c8b0:decide (0<x9_1)=false:=decide_eq_false c8;clear c8;have H':=Aside0.mk H;clear H;have p418:0≤(x9_1:Int):=of_decide_eq_true sqA;have q418:x9_1< (l1.length:Int):=of_decide_eq_true sqA;obtain ⟨ad418,e418,hx418_0⟩:=Kd.zM HR1.out x9_1 p418 q418;cases e418;replace p418:=eq_true p418;replace q418:=eq_true q418;(go_wp2_with (first|((with_reducible refine zc (f:=75) rfl ?_);refine zt (some 16) rfl rfl Tryz.func75 (by kernel_rfl) rfl #[.int .i64 a0,.int .i64 (rd l1 x9_1)] rfl sqM ?_;(with_reducible refine (jZ.calls a0 (rd l1 x9_1) true _ A6.out).mono ?_);rintro e w' ⟨rfl,⟨nd,rfl⟩⟩;refine ⟨_,rfl,?_⟩)));(go_roundg k1);(case measure=>have:=HK1.out;omega);(case rel=>exact ⟨(wrap64 (x9_1+1)),(sqD),H',⟨by have:=HK1.out;omega⟩,by repeat (first|exact ze.refl _|apply ze.step)⟩)));(·replace c7:=Bool.eq_false_iff.mpr c7;subst c7;rw [if_neg (show ¬(false=true) by decide)] at H;obtain rfl:=Option.some.inj H;have p418:0≤(x9_1:Int):=of_decide_eq_true sqA;have q418:x9_1< (l1.length:Int):=of_decide_eq_true sqA;obtain ⟨ad418,e418,hx418_0⟩:=Kd.zM HR1.out x9_1 p418 q418;cases e418;replace p418:=eq_true p418;replace q418:=eq_true q418;(go_wp2_with (first|((with_reducible refine zc (f:=75) rfl ?_);refine zt (some 16) rfl rfl Tryz.func75 (by kernel_rfl) rfl #[.int .i64 a0,.int .i64 (rd l1 x9_1)] rfl sqM ?_;(with_reducible refine (jZ.calls a0 (rd l1 x9_1) false _ A6.out).mono ?_);rintro e w' ⟨rfl,⟨nd,rfl⟩⟩;refine ⟨_,rfl,?_⟩)));go_ret;exact ⟨sqD,by repeat (first|exact ze.refl _|apply ze.step)⟩));(·rw [if_neg c5] at H;exact absurd H (by simp)));(·rw [if_neg c4] at H;exact absurd H (by simp)));(·rw [if_neg c3] at H;have c3b0:decide (x9_1< (l1.length:Int))=false:=decide_eq_false c3;clear c3;replace H:=zU H;obtain ⟨t421,A13,H⟩:=H;obtain rfl:=Option.some.inj H;(go_wp2_with (first|((with_reducible refine zc (f:=43) rfl ?_);refine zt (some 33) rfl rfl Tryz.func43 (by kernel_rfl) rfl #[.int .i64 a0] rfl sqM ?_;(with_reducible refine (qP.calls a0 t421 _ A13.out).mono ?_);rintro e w' ⟨rfl,⟨nd,rfl⟩⟩;refine ⟨_,rfl,?_⟩)));go_ret;exact ⟨sqD,by repeat (first|exact ze.refl _|apply ze.step)⟩)))

def qF.l0:Nat→List Int→Int→Int→Option (Bool)
 |0,_,_,_=>none
 |k+1,x5,x6,x7=>if x7<x6 then (if 0≤x7 then (if x7< (x5.length:Int) then ((qS.f (rd x5 x7)).bind fun t430=>(if t430=true then (qF.l0 k x5 x6 (wrap64 (x7+1))) else (some false))) else (none)) else (none)) else (some true)
def qF.f (k:Nat)(l0:List Int):Option (Bool):=qF.l0 k l0 (l0.length:Int) 0
theorem qF.calls (k:Nat)(A0:Option Addr)(c0:Nat)(l0:List Int)(r:Bool)(w:World)(hr0:Kd.C (Kd.int .i64) w A0 l0.length l0)(hc0:l0.length≤c0)(h:qF.f k l0=some r):Calls Tryz.prog 68 #[.slice A0 l0.length c0] w fun e w'=>e= .returned (.bool r)∧ze w w':=by have HR0:=Aside0.mk hr0;have HC0:=Aside0.mk hc0;clear hr0 hc0;have H:=h;unfold qF.f at H;clear h;have H':=Aside0.mk H;clear H;go_enter Tryz.func68,Tryz.ntmps68;go_wp2;(go_loopg [7] k (fun kq v7 w'=> ∃(x7_1:Int),v7= .int .i64 x7_1∧Aside0 (qF.l0 kq l0 (l0.length:Int) x7_1=some r)∧Aside0 (kq≤k)∧ze w w'));(case atStart=>exact ⟨(0),(sqD),H',⟨Nat.le_refl _⟩,by repeat (first|exact ze.refl _|apply ze.step)⟩);(case round=>clear H';obtain ⟨x7_1,rfl,HA,HK1,⟨m1,rfl⟩⟩:=hrel;(cases gk with|zero=>exact absurd HA.out (by simp [qF.l0])|succ k1=>have H:=HA.out;clear HA;simp only [qF.l0] at H;by_cases c2:x7_1< (l0.length:Int);(·rw [if_pos c2] at H;have c2b0:decide (x7_1< (l0.length:Int))=true:=decide_eq_true c2;clear c2;by_cases c3:0≤x7_1;(·rw [if_pos c3] at H;have c3b0:decide (0≤x7_1)=true:=decide_eq_true c3;clear c3;by_cases c4:x7_1< (l0.length:Int);(·rw [if_pos c4] at H;have c4b0:decide (x7_1< (l0.length:Int))=true:=decide_eq_true c4;clear c4;replace H:=zU H;obtain ⟨t430,A5,H⟩:=H;by_cases c6:t430=true;(·subst c6;rw [if_pos rfl] at H;have H':=Aside0.mk H;clear H;have p429:0≤(x7_1:Int):=of_decide_eq_true sqA;have q429:x7_1< (l0.length:Int):=of_decide_eq_true sqA;obtain ⟨ad429,e429,hx429_0⟩:=Kd.zM HR0.out x7_1 p429 q429;cases e429;replace p429:=eq_true p429;replace q429:=eq_true q429;(go_wp2_with (first|((with_reducible refine zc (f:=76) rfl ?_);refine zt (some 12) rfl rfl Tryz.func76 (by kernel_rfl) rfl #[.int .i64 (rd l0 x7_1)] rfl sqM ?_;(with_reducible refine (qS.calls (rd l0 x7_1) true _ A5.out).mono ?_);rintro e w' ⟨rfl,⟨nd,rfl⟩⟩;refine ⟨_,rfl,?_⟩)));(go_roundg k1);(case measure=>have:=HK1.out;omega);(case rel=>exact ⟨(wrap64 (x7_1+1)),(sqD),H',⟨by have:=HK1.out;omega⟩,by repeat (first|exact ze.refl _|apply ze.step)⟩));(·replace c6:=Bool.eq_false_iff.mpr c6;subst c6;rw [if_neg (show ¬(false=true) by decide)] at H;obtain rfl:=Option.some.inj H;have p429:0≤(x7_1:Int):=of_decide_eq_true sqA;have q429:x7_1< (l0.length:Int):=of_decide_eq_true sqA;obtain ⟨ad429,e429,hx429_0⟩:=Kd.zM HR0.out x7_1 p429 q429;cases e429;replace p429:=eq_true p429;replace q429:=eq_true q429;(go_wp2_with (first|((with_reducible refine zc (f:=76) rfl ?_);refine zt (some 12) rfl rfl Tryz.func76 (by kernel_rfl) rfl #[.int .i64 (rd l0 x7_1)] rfl sqM ?_;(with_reducible refine (qS.calls (rd l0 x7_1) false _ A5.out).mono ?_);rintro e w' ⟨rfl,⟨nd,rfl⟩⟩;refine ⟨_,rfl,?_⟩)));go_ret;exact ⟨sqD,by repeat (first|exact ze.refl _|apply ze.step)⟩));(·rw [if_neg c4] at H;exact absurd H (by simp)));(·rw [if_neg c3] at H;exact absurd H (by simp)));(·rw [if_neg c2] at H;have c2b0:decide (x7_1< (l0.length:Int))=false:=decide_eq_false c2;clear c2;obtain rfl:=Option.some.inj H;go_wp2;go_ret;exact ⟨sqD,by repeat (first|exact ze.refl _|apply ze.step)⟩)))

def ji.f (a0:Int)(a1:Int):Option (Bool):=(qS.f a0).bind fun t431=>(if t431=true then ((qS.f a1).bind fun t432=>(if t432=true then (some ((Go.bits .andNot .i64 a0 a1)==0)) else (some false))) else (some false))
theorem ji.calls (a0:Int)(a1:Int)(r:Bool)(w:World)(h:ji.f a0 a1=some r):Calls Tryz.prog 72 #[.int .i64 a0,.int .i64 a1] w fun e w'=>e= .returned (.bool r)∧ze w w':=by have H:=h;unfold ji.f at H;clear h;replace H:=zU H;obtain ⟨t431,A3,H⟩:=H;by_cases c4:t431=true;(·subst c4;rw [if_pos rfl] at H;replace H:=zU H;obtain ⟨t432,A5,H⟩:=H;by_cases c6:t432=true;(·subst c6;rw [if_pos rfl] at H;obtain rfl:=Option.some.inj H;go_enter Tryz.func72,Tryz.ntmps72;(go_wp2_with (first|((with_reducible refine zc (f:=76) rfl ?_);refine zt (some 6) rfl rfl Tryz.func76 (by kernel_rfl) rfl #[.int .i64 a0] rfl sqM ?_;(with_reducible refine (qS.calls a0 true _ A3.out).mono ?_);rintro e w' ⟨rfl,⟨nd,rfl⟩⟩;refine ⟨_,rfl,?_⟩)|(go_at_call 76;(try simp only [zv,zG]);(with_reducible refine (qS.calls a1 true _ A5.out).mono ?_);rintro e w' ⟨rfl,⟨nd,rfl⟩⟩)));go_ret;exact ⟨sqD,by repeat (first|exact ze.refl _|apply ze.step)⟩);(·replace c6:=Bool.eq_false_iff.mpr c6;subst c6;rw [if_neg (show ¬(false=true) by decide)] at H;obtain rfl:=Option.some.inj H;go_enter Tryz.func72,Tryz.ntmps72;(go_wp2_with (first|((with_reducible refine zc (f:=76) rfl ?_);refine zt (some 6) rfl rfl Tryz.func76 (by kernel_rfl) rfl #[.int .i64 a0] rfl sqM ?_;(with_reducible refine (qS.calls a0 true _ A3.out).mono ?_);rintro e w' ⟨rfl,⟨nd,rfl⟩⟩;refine ⟨_,rfl,?_⟩)|(go_at_call 76;(try simp only [zv,zG]);(with_reducible refine (qS.calls a1 false _ A5.out).mono ?_);rintro e w' ⟨rfl,⟨nd,rfl⟩⟩)));go_ret;exact ⟨sqD,by repeat (first|exact ze.refl _|apply ze.step)⟩));(·replace c4:=Bool.eq_false_iff.mpr c4;subst c4;rw [if_neg (show ¬(false=true) by decide)] at H;obtain rfl:=Option.some.inj H;go_enter Tryz.func72,Tryz.ntmps72;(go_wp2_with (first|((with_reducible refine zc (f:=76) rfl ?_);refine zt (some 6) rfl rfl Tryz.func76 (by kernel_rfl) rfl #[.int .i64 a0] rfl sqM ?_;(with_reducible refine (qS.calls a0 false _ A3.out).mono ?_);rintro e w' ⟨rfl,⟨nd,rfl⟩⟩;refine ⟨_,rfl,?_⟩)));go_ret;exact ⟨sqD,by repeat (first|exact ze.refl _|apply ze.step)⟩)

def qv.l0:Nat→Int→List Int→Int→Int→Option (Bool)
 |0,_,_,_,_=>none
 |k+1,x1,x8,x9,x10=>if x10<x9 then (if 0≤x10 then (if x10< (x8.length:Int) then ((ji.f x1 (rd x8 x10)).bind fun t435=>(if t435=true then (some true) else (qv.l0 k x1 x8 x9 (wrap64 (x10+1))))) else (none)) else (none)) else (some false)
def qv.f (k:Nat)(a0_0:Int)(l0_1:List Int)(a1:Int):Option (Bool):=qv.l0 k a1 l0_1 (l0_1.length:Int) 0
theorem qv.calls (k:Nat)(a0_0:Int)(A0_1:Option Addr)(c0_1:Nat)(l0_1:List Int)(a1:Int)(r:Bool)(w:World)(hr0_1:Kd.C (Kd.int .i64) w A0_1 l0_1.length l0_1)(hc0_1:l0_1.length≤c0_1)(h:qv.f k a0_0 l0_1 a1=some r):Calls Tryz.prog 49 #[.agg #[.int .i64 a0_0,.slice A0_1 l0_1.length c0_1],.int .i64 a1] w fun e w'=>e= .returned (.bool r)∧Below w.heap.size w w':=by have hu38:=Tryz.underlying38;have HR0_1:=Aside0.mk hr0_1;have HC0_1:=Aside0.mk hc0_1;clear hr0_1 hc0_1;have HB:=Aside0.mk (Below.refl w.heap.size w);have H:=h;unfold qv.f at H;clear h;have H':=Aside0.mk H;clear H;go_enter Tryz.func49,Tryz.ntmps49;(go_wp2_with (first|((with_reducible refine zk (N:=2) rfl ?_);refine zo ?hg (N:=2) ?hd (cs:=#[.int .i64 a0_0,.slice A0_1 l0_1.length c0_1]) (t:=38) ?hr ?_;(case hd=>rfl);(case hg=>rfl);(case hr=>exact sqG);intro gb433 hg w3 hbox hb;have q_:=f4 (za sqB hb) hbox (sqS hg:w.heap.size≤gb433) (sqS hg:w.heap.size≤gb433);clear HB;obtain ⟨HB,BK433,GW433,GE433⟩:=q_;clear hb hbox hg;obtain ⟨_,_,_,_⟩:=z2 BK433.out)));(go_loopg [10] k (fun kq v10 w'=> ∃(x10_1:Int),v10= .int .i64 x10_1∧Aside0 (qv.l0 kq a1 l0_1 (l0_1.length:Int) x10_1=some r)∧Aside0 (kq≤k)∧Aside0 (w'.heap[gb433]? =some (.cells #[.int .i64 a0_0,(.slice A0_1 l0_1.length c0_1)] 38 (0,0)))∧Aside0 (Below w.heap.size w w')));(case atStart=>exact ⟨(0),(sqD),H',⟨Nat.le_refl _⟩,⟨sqK BK433.out⟩,⟨sqB⟩⟩);(case round=>clear H';obtain ⟨x10_1,rfl,HA,HK1,BK433,HB⟩:=hrel;(cases gk with|zero=>exact absurd HA.out (by simp [qv.l0])|succ k1=>have H:=HA.out;clear HA;simp only [qv.l0] at H;by_cases c5:x10_1< (l0_1.length:Int);(·rw [if_pos c5] at H;have c5b0:decide (x10_1< (l0_1.length:Int))=true:=decide_eq_true c5;clear c5;by_cases c6:0≤x10_1;(·rw [if_pos c6] at H;have c6b0:decide (0≤x10_1)=true:=decide_eq_true c6;clear c6;by_cases c7:x10_1< (l0_1.length:Int);(·rw [if_pos c7] at H;have c7b0:decide (x10_1< (l0_1.length:Int))=true:=decide_eq_true c7;clear c7;replace H:=zU H;obtain ⟨t435,A8,H⟩:=H;by_cases c9:t435=true;(·subst c9;rw [if_pos rfl] at H;obtain rfl:=Option.some.inj H;have p434:0≤(x10_1:Int):=of_decide_eq_true sqA;have q434:x10_1< (l0_1.length:Int):=of_decide_eq_true sqA;obtain ⟨ad434,e434,hx434_0⟩:=Kd.zM HR0_1.out x10_1 p434 q434;cases e434;replace hx434_0:=(HB.out.cell (World.block_lt_of_cell? w _ hx434_0)).trans hx434_0;replace p434:=eq_true p434;replace q434:=eq_true q434;(go_wp2_with (first|((with_reducible refine zc (f:=72) rfl ?_);refine zt (some 16) rfl rfl Tryz.func72 (by kernel_rfl) rfl #[.int .i64 a1,.int .i64 (rd l0_1 x10_1)] rfl sqM ?_;(with_reducible refine (ji.calls a1 (rd l0_1 x10_1) true _ A8.out).mono ?_);rintro e w' ⟨rfl,⟨nd,rfl⟩⟩;refine ⟨_,rfl,?_⟩)));go_ret;exact ⟨sqE,sqB⟩);(·replace c9:=Bool.eq_false_iff.mpr c9;subst c9;rw [if_neg (show ¬(false=true) by decide)] at H;have H':=Aside0.mk H;clear H;have p434:0≤(x10_1:Int):=of_decide_eq_true sqA;have q434:x10_1< (l0_1.length:Int):=of_decide_eq_true sqA;obtain ⟨ad434,e434,hx434_0⟩:=Kd.zM HR0_1.out x10_1 p434 q434;cases e434;replace hx434_0:=(HB.out.cell (World.block_lt_of_cell? w _ hx434_0)).trans hx434_0;replace p434:=eq_true p434;replace q434:=eq_true q434;(go_wp2_with (first|((with_reducible refine zc (f:=72) rfl ?_);refine zt (some 16) rfl rfl Tryz.func72 (by kernel_rfl) rfl #[.int .i64 a1,.int .i64 (rd l0_1 x10_1)] rfl sqM ?_;(with_reducible refine (ji.calls a1 (rd l0_1 x10_1) false _ A8.out).mono ?_);rintro e w' ⟨rfl,⟨nd,rfl⟩⟩;refine ⟨_,rfl,?_⟩)));(go_roundg k1);(case measure=>have:=HK1.out;omega);(case rel=>exact ⟨(wrap64 (x10_1+1)),(sqD),H',⟨by have:=HK1.out;omega⟩,⟨sqK BK433.out⟩,⟨sqB⟩⟩)));(·rw [if_neg c7] at H;exact absurd H (by simp)));(·rw [if_neg c6] at H;exact absurd H (by simp)));(·rw [if_neg c5] at H;have c5b0:decide (x10_1< (l0_1.length:Int))=false:=decide_eq_false c5;clear c5;obtain rfl:=Option.some.inj H;go_wp2;go_ret;exact ⟨sqE,sqB⟩)))

def j8.f (a0:Int):Option (Int):=(qP.f a0).bind fun t436=>(if t436=true then (if 0≤a0 then (some (wrap64 ((shl .i64 1 a0) - 1))) else (none)) else (some 0))
theorem j8.calls (a0:Int)(r:Int)(w:World)(h:j8.f a0=some r):Calls Tryz.prog 73 #[.int .i64 a0] w fun e w'=>e= .returned (.int .i64 r)∧ze w w':=by have H:=h;unfold j8.f at H;clear h;replace H:=zU H;obtain ⟨t436,A2,H⟩:=H;by_cases c3:t436=true;(·subst c3;rw [if_pos rfl] at H;by_cases c4:0≤a0;(·rw [if_pos c4] at H;have c4b0:=eq_true c4;have c4b1:decide (0≤a0)=true:=decide_eq_true c4;clear c4;obtain ⟨ji5,hji5⟩: ∃j_:Int,(shl .i64 1 a0)=j_:=⟨_,rfl⟩;(replace H:(some (wrap64 ((ji5) - 1)))=some r:=by first|(rw [hji5] at H;exact H)|(simp only [hji5] at H ⊢;exact H));(try rw [hji5] at A2);have hji5_:(IntKind.i64.wrap (1*2 ^min a0.toNat 64))=ji5:=hji5;have hji5z:a0≤64→(IntKind.i64.wrap (1*2 ^a0.toNat))=ji5:=Zf hji5;(have hji5u:(IntKind.i64.wrap (2 ^min a0.toNat 64))=ji5:=by have h_:=hji5_;rw [Int.one_mul] at h_;exact h_);(have hji5v:a0≤64→(IntKind.i64.wrap (2 ^a0.toNat))=ji5:=fun hle_=>by have h_:=hji5z hle_;rw [Int.one_mul] at h_;exact h_);have hji5y:(wrap64 (1*2 ^min a0.toNat 64))=ji5:=(zv _).symm.trans hji5_;have hji5x:a0≤64→(wrap64 (1*2 ^a0.toNat))=ji5:=fun h_=>(zv _).symm.trans (hji5z h_);obtain rfl:=Option.some.inj H;go_enter Tryz.func73,Tryz.ntmps73;(go_wp2_with (first|((with_reducible refine zc (f:=43) rfl ?_);refine zt (some 4) rfl rfl Tryz.func43 (by kernel_rfl) rfl #[.int .i64 a0] rfl sqM ?_;(with_reducible refine (qP.calls a0 true _ A2.out).mono ?_);rintro e w' ⟨rfl,⟨nd,rfl⟩⟩;refine ⟨_,rfl,?_⟩)));go_ret;exact ⟨by first|rfl|(simp;done)|(simp only [←hji5]<;>(first|rfl|simp))|(simp [*];done),by repeat (first|exact ze.refl _|apply ze.step)⟩);(·rw [if_neg c4] at H;exact absurd H (by simp)));(·replace c3:=Bool.eq_false_iff.mpr c3;subst c3;rw [if_neg (show ¬(false=true) by decide)] at H;obtain rfl:=Option.some.inj H;go_enter Tryz.func73,Tryz.ntmps73;(go_wp2_with (first|((with_reducible refine zc (f:=43) rfl ?_);refine zt (some 4) rfl rfl Tryz.func43 (by kernel_rfl) rfl #[.int .i64 a0] rfl sqM ?_;(with_reducible refine (qP.calls a0 false _ A2.out).mono ?_);rintro e w' ⟨rfl,⟨nd,rfl⟩⟩;refine ⟨_,rfl,?_⟩)));go_ret;exact ⟨sqD,by repeat (first|exact ze.refl _|apply ze.step)⟩)

mutual
def zF.j0:Nat→Int→Int→Bool→Option (Int)
 |0,_,_,_=>none
 |k+1,x0,x1,x17=>if x17=true then (some 0) else (zF.l0 k x0 x1 1)
def zF.l0:Nat→Int→Int→Int→Option (Int)
 |0,_,_,_=>none
 |k+1,x0,x1,x5=>if x0=0 then (none) else (if (Int.tmod (wrap64 (x1*x5)) x0)=1 then (some x5) else (zF.l0 k x0 x1 (wrap64 (x5+1))))
end
def zF.f (k:Nat)(a0:Int)(a1:Int):Option (Int):=(jb.f a0).bind fun t443=>(if t443=true then (if a1<1 then (zF.j0 k a0 a1 true) else (zF.j0 k a0 a1 (decide (a1≥a0)))) else (zF.j0 k a0 a1 true))
theorem zF.calls (k:Nat)(a0:Int)(a1:Int)(r:Int)(w:World)(h:zF.f k a0 a1=some r):Calls Tryz.prog 30 #[.int .i64 a0,.int .i64 a1] w fun e w'=>e= .returned (.int .i64 r)∧ze w w':=by have H:=h;unfold zF.f at H;clear h;have HC3:=Aside0.mk H;clear H;go_enter Tryz.func30,Tryz.ntmps30;(go_upto_region 1 with (fail));(go_cut [17] (fun v17 wc=> ∃(kq:Nat) (x17_2:Bool),v17= .bool x17_2∧Aside0 (zF.j0 kq a0 a1 x17_2=some r)∧Aside0 (kq≤k)∧ze w wc));(case first=>have H:=HC3.out;clear HC3;replace H:=zU H;obtain ⟨t443,A4,H⟩:=H;by_cases c5:t443=true;(·subst c5;rw [if_pos rfl] at H;by_cases c6:a1<1;(·rw [if_pos c6] at H;have c6b0:decide (a1<1)=true:=decide_eq_true c6;clear c6;(first|rw [c6b0]|(simp only [zv,zG];rw [c6b0])|skip);have H':=Aside0.mk H;clear H;(go_wp2_with (first|((with_reducible refine zc (f:=42) rfl ?_);refine zt (some 7) rfl rfl Tryz.func42 (by kernel_rfl) rfl #[.int .i64 a0] rfl sqM ?_;(with_reducible refine (jb.calls a0 true _ A4.out).mono ?_);rintro e w' ⟨rfl,⟨nd,rfl⟩⟩;refine ⟨_,rfl,?_⟩)));go_meet;(case rel=>exact ⟨_,(true),(sqD),H',⟨by first|omega|exact Nat.le_refl _⟩,by repeat (first|exact ze.refl _|apply ze.step)⟩));(·rw [if_neg c6] at H;have c6b0:decide (a1<1)=false:=decide_eq_false c6;clear c6;(first|rw [c6b0]|(simp only [zv,zG];rw [c6b0])|skip);have H':=Aside0.mk H;clear H;(go_wp2_with (first|((with_reducible refine zc (f:=42) rfl ?_);refine zt (some 7) rfl rfl Tryz.func42 (by kernel_rfl) rfl #[.int .i64 a0] rfl sqM ?_;(with_reducible refine (jb.calls a0 true _ A4.out).mono ?_);rintro e w' ⟨rfl,⟨nd,rfl⟩⟩;refine ⟨_,rfl,?_⟩)));go_meet;(case rel=>exact ⟨_,(decide (a1≥a0)),(sqD),H',⟨by first|omega|exact Nat.le_refl _⟩,by repeat (first|exact ze.refl _|apply ze.step)⟩)));(·replace c5:=Bool.eq_false_iff.mpr c5;subst c5;rw [if_neg (show ¬(false=true) by decide)] at H;have H':=Aside0.mk H;clear H;(go_wp2_with (first|((with_reducible refine zc (f:=42) rfl ?_);refine zt (some 7) rfl rfl Tryz.func42 (by kernel_rfl) rfl #[.int .i64 a0] rfl sqM ?_;(with_reducible refine (jb.calls a0 false _ A4.out).mono ?_);rintro e w' ⟨rfl,⟨nd,rfl⟩⟩;refine ⟨_,rfl,?_⟩)));go_meet;(case rel=>exact ⟨_,(true),(sqD),H',⟨by first|omega|exact Nat.le_refl _⟩,by repeat (first|exact ze.refl _|apply ze.step)⟩)));(case rest=>clear HC3;obtain ⟨kq,x17_2,rfl,HA,HJ2,⟨mc2,rfl⟩⟩:=hcut;(cases kq with|zero=>exact absurd HA.out (by simp [zF.j0])|succ kj2=>have H:=HA.out;clear HA;simp only [zF.j0] at H;by_cases c7:x17_2=true;(·subst c7;rw [if_pos rfl] at H;obtain rfl:=Option.some.inj H;go_wp2;go_ret;exact ⟨sqD,by repeat (first|exact ze.refl _|apply ze.step)⟩);(·replace c7:=Bool.eq_false_iff.mpr c7;subst c7;rw [if_neg (show ¬(false=true) by decide)] at H;have H':=Aside0.mk H;clear H;go_wp2;(go_loopg [5] kj2 (fun kq v5 w'=> ∃(x5_2:Int),v5= .int .i64 x5_2∧Aside0 (zF.l0 kq a0 a1 x5_2=some r)∧Aside0 (kq≤kj2)∧ze w w'));(case atStart=>exact ⟨(1),(sqD),H',⟨Nat.le_refl _⟩,by repeat (first|exact ze.refl _|apply ze.step)⟩);(case round=>clear H';obtain ⟨x5_2,rfl,HA,HK2,⟨m2,rfl⟩⟩:=hrel;(cases gk with|zero=>exact absurd HA.out (by simp [zF.l0])|succ k2=>have H:=HA.out;clear HA;simp only [zF.l0] at H;by_cases c8:a0=0;(·rw [if_pos c8] at H;exact absurd H (by simp));(·rw [if_neg c8] at H;have c8b0:(a0==0)=false:=beq_eq_false_iff_ne.mpr c8;have c8b1:(a0 != 0)=true:=bne_iff_ne.mpr c8;by_cases c9:(Int.tmod (wrap64 (a1*x5_2)) a0)=1;(·rw [if_pos c9] at H;have c9b0:((Int.tmod (wrap64 (a1*x5_2)) a0)==1)=true:=beq_iff_eq.mpr c9;have c9b1:((Int.tmod (wrap64 (a1*x5_2)) a0) != 1)=false:=bne_eq_false_iff_eq.mpr c9;clear c9;obtain rfl:=Option.some.inj H;go_wp2;go_ret;exact ⟨sqD,by repeat (first|exact ze.refl _|apply ze.step)⟩);(·rw [if_neg c9] at H;have c9b0:((Int.tmod (wrap64 (a1*x5_2)) a0)==1)=false:=beq_eq_false_iff_ne.mpr c9;have c9b1:((Int.tmod (wrap64 (a1*x5_2)) a0) != 1)=true:=bne_iff_ne.mpr c9;have H':=Aside0.mk H;clear H;go_wp2;(go_roundg k2);(case measure=>have:=HJ2.out;have:=HK2.out;omega);(case rel=>exact ⟨(wrap64 (x5_2+1)),(sqD),H',⟨by have:=HJ2.out;have:=HK2.out;omega⟩,by repeat (first|exact ze.refl _|apply ze.step)⟩))))))))

def jG.f (a0_0:Int)(a0_1:Int)(a0_2:Int)(l0_3:List Int)(a1:Int)(a2:Int):Option (Int):=if 0≤(wrap64 ((wrap64 (a1*a0_2))+a2)) then (if (wrap64 ((wrap64 (a1*a0_2))+a2))< (l0_3.length:Int) then (some (rd l0_3 (wrap64 ((wrap64 (a1*a0_2))+a2)))) else (none)) else (none)
theorem jG.calls (a0_0:Int)(a0_1:Int)(a0_2:Int)(A0_3:Option Addr)(c0_3:Nat)(l0_3:List Int)(a1:Int)(a2:Int)(r:Int)(w:World)(hr0_3:Kd.C (Kd.int .i64) w A0_3 l0_3.length l0_3)(hc0_3:l0_3.length≤c0_3)(h:jG.f a0_0 a0_1 a0_2 l0_3 a1 a2=some r):Calls Tryz.prog 29 #[.agg #[.int .i64 a0_0,.int .i64 a0_1,.int .i64 a0_2,.slice A0_3 l0_3.length c0_3],.int .i64 a1,.int .i64 a2] w fun e w'=>e= .returned (.int .i64 r)∧Below w.heap.size w w':=by have hu28:=Tryz.underlying28;have HR0_3:=Aside0.mk hr0_3;have HC0_3:=Aside0.mk hc0_3;clear hr0_3 hc0_3;have HB:=Aside0.mk (Below.refl w.heap.size w);have H:=h;unfold jG.f at H;clear h;obtain ⟨ji4,hji4⟩: ∃j_:Int,(wrap64 ((wrap64 (a1*a0_2))+a2))=j_:=⟨_,rfl⟩;(replace H:(if 0≤(ji4) then (if (ji4)< (l0_3.length:Int) then (some (rd l0_3 (ji4))) else (none)) else (none))=some r:=by first|(rw [hji4] at H;exact H)|(simp only [hji4] at H ⊢;exact H));have hji4w:(IntKind.i64.wrap ((wrap64 (a1*a0_2))+a2))=ji4:=(zv _).trans hji4;by_cases c5:0≤(ji4);(·rw [if_pos c5] at H;have c5b0:decide (0≤(ji4))=true:=decide_eq_true c5;clear c5;by_cases c6:(ji4)< (l0_3.length:Int);(·rw [if_pos c6] at H;have c6b0:decide ((ji4)< (l0_3.length:Int))=true:=decide_eq_true c6;clear c6;obtain rfl:=Option.some.inj H;go_enter Tryz.func29,Tryz.ntmps29;(go_wp2_with (first|((with_reducible refine zk (N:=3) rfl ?_);refine zo ?hg (N:=3) ?hd (cs:=#[.int .i64 a0_0,.int .i64 a0_1,.int .i64 a0_2,.slice A0_3 l0_3.length c0_3]) (t:=28) ?hr ?_;(case hd=>rfl);(case hg=>rfl);(case hr=>exact sqG);intro gb444 hg w7 hbox hb;have q_:=f4 (za sqB hb) hbox (sqS hg:w.heap.size≤gb444) (sqS hg:w.heap.size≤gb444);clear HB;obtain ⟨HB,BK444,GW444,GE444⟩:=q_;clear hb hbox hg;obtain ⟨_,_,_,_,_,_,_,_⟩:=z4 BK444.out;have p445:0≤((ji4):Int):=of_decide_eq_true sqA;have q445:(ji4)< (l0_3.length:Int):=of_decide_eq_true sqA;obtain ⟨ad445,e445,hx445_0⟩:=Kd.zM HR0_3.out (ji4) p445 q445;cases e445;replace hx445_0:=(HB.out.cell (World.block_lt_of_cell? w _ hx445_0)).trans hx445_0;replace p445:=eq_true p445;replace q445:=eq_true q445)));go_ret;exact ⟨by first|rfl|(simp [jy,jz]<;>rfl)|(simp only [←hji4];first|rfl|(simp [jy,jz]<;>rfl))|(simp [*,jy,jz]<;>rfl),sqB⟩);(·rw [if_neg c6] at H;exact absurd H (by simp)));(·rw [if_neg c5] at H;exact absurd H (by simp))

mutual
def zK.l0:Nat→List Int→Int→Int→Int→Int→List Int→Int→Int→Int→List Int→Option (Int×Int×Int×List Int)
 |0,_,_,_,_,_,_,_,_,_,_=>none
 |k+1,x5,x7,x447000,x447001,x447002,x447003,x452000,x452001,x452002,x452003=>if x7<x447001 then (zK.l1 k x5 x7 x5 (x5.length:Int) 0 x447000 x447001 x447002 x447003 x452000 x452001 x452002 x452003) else (some (x452000,x452001,x452002,x452003))
def zK.l1:Nat→List Int→Int→List Int→Int→Int→Int→Int→Int→List Int→Int→Int→Int→List Int→Option (Int×Int×Int×List Int)
 |0,_,_,_,_,_,_,_,_,_,_,_,_,_=>none
 |k+1,x5,x7,x25,x26,x27,x447000,x447001,x447002,x447003,x452000,x452001,x452002,x452003=>if x27<x26 then (if 0≤x27 then (if x27< (x25.length:Int) then ((jG.f x447000 x447001 x447002 x447003 x7 (rd x25 x27)).bind fun t453=>(if x452003.length<17592186044416 then (zK.l1 k x5 x7 x25 x26 (wrap64 (x27+1)) x447000 x447001 x447002 x447003 x452000 x452001 x452002 (x452003++[t453])) else (none))) else (none)) else (none)) else (zK.l0 k x5 (wrap64 (x7+1)) x447000 x447001 x447002 x447003 x452000 x452001 x452002 x452003)
end
def zK.f (k:Nat)(a0_0:Int)(a0_1:Int)(a0_2:Int)(l0_3:List Int)(a1:Int):Option (Int×Int×Int×List Int):=(zZ.f k a1).bind fun t448=>(zK.l0 k t448 0 a0_0 a0_1 a0_2 l0_3 a0_0 a0_1 (t448.length:Int) ([]:List Int))
def zK.T9:Bool×List (List Nat×List Nat):=(true,[([],[]),([0],[0]),([],[]),([],[]),([],[]),([2,3,4],[2,3,4]),([5],[5]),([1,6,5],[1,6]),([0,1,2,3,4,5,6,7],[]),([8,7,7,0,1,2,3,4,5,6,7],[7,8])])
def zK.B9:List Nat:=[0,1,0,0,0,28,60,127,255,511]
theorem zK.zeC:vD .any (opsOf Tryz.f28 9)=zK.T9:=by kernel_rfl
theorem zK.zdj:jo zK.T9.2 zK.B9=true:=by kernel_rfl
theorem zK.calls (k:Nat)(a0_0:Int)(a0_1:Int)(a0_2:Int)(A0_3:Option Addr)(c0_3:Nat)(l0_3:List Int)(a1:Int)(r1:Int)(r2:Int)(r3:Int)(r4:List Int)(w:World)(hr0_3:Kd.C (Kd.int .i64) w A0_3 l0_3.length l0_3)(hc0_3:l0_3.length≤c0_3)(h:zK.f k a0_0 a0_1 a0_2 l0_3 a1=some (r1,r2,r3,r4)):Calls Tryz.prog 28 #[.agg #[.int .i64 a0_0,.int .i64 a0_1,.int .i64 a0_2,.slice A0_3 l0_3.length c0_3],.int .i64 a1] w fun e w'=> ∃v3_:Value,e= .returned (.agg #[.int .i64 r1,.int .i64 r2,.int .i64 r3,v3_])∧Kd.R (Kd.int .i64) 3 w' w.heap.size (fun _=>True) v3_ r4∧Below w.heap.size w w':=by have hu28:=Tryz.underlying28;have HR0_3:=Aside0.mk hr0_3;have HC0_3:=Aside0.mk hc0_3;clear hr0_3 hc0_3;have HB:=Aside0.mk (Below.refl w.heap.size w);have H:=h;unfold zK.f at H;clear h;replace H:=zU H;obtain ⟨t448,A3,H⟩:=H;have H':=Aside0.mk H;clear H;go_enter Tryz.func28,Tryz.ntmps28;(go_wp2_with (first|((with_reducible refine zk (N:=2) rfl ?_);refine zo ?hg (N:=2) ?hd (cs:=#[.int .i64 a0_0,.int .i64 a0_1,.int .i64 a0_2,.slice A0_3 l0_3.length c0_3]) (t:=28) ?hr ?_;(case hd=>rfl);(case hg=>rfl);(case hr=>exact sqG);intro gb446 hg w4 hbox hb;have q_:=f4 (za sqB hb) hbox (sqS hg:w.heap.size≤gb446) (sqS hg:w.heap.size≤gb446);clear HB;obtain ⟨HB,BK446,GW446,GE446⟩:=q_;clear hb hbox hg)|((with_reducible refine zk (N:=4) rfl ?_);refine zo ?hg (N:=4) ?hd (cs:=#[.int .i64 0,.int .i64 0,.int .i64 0,.slice none 0 0]) (t:=28) ?hr ?_;(case hd=>rfl);(case hg=>rfl);(case hr=>exact sqG);intro gb447 hg w5 hbox hb;have q_:=f7 (sqh BK446 hb) (za sqB hb) hbox (sqS hg:w.heap.size≤gb447) (sqS hg:w.heap.size≤gb447) (sqn BK446 hg) (sqm BK446 hg);clear BK446 HB;obtain ⟨BK446,HB,BK447,GW447,GE447,NB446_447,NB447_446⟩:=q_;clear hb hbox hg)|((with_reducible refine zc (f:=26) rfl ?_);refine zt (some 11) rfl rfl Tryz.func26 (by kernel_rfl) rfl #[.int .i64 a1] rfl sqM ?_;(with_reducible refine (zZ.calls k a1 t448 _ A3.out).mono ?_);rintro e w6 ⟨v449,rfl,ho0,hb⟩;refine ⟨_,rfl,?_⟩;have q_:=f4 (Kd.zS ho0 (zi sqB)) (sqh BK446 hb) (sqh BK447 hb) (za sqB hb);clear BK446 BK447 HB;obtain ⟨HO450,BK446,BK447,HB⟩:=q_;have hnb7:=NB446_447.out;have hnc7:=NB447_446.out;obtain ⟨_,_,_,_,_,_,_,_⟩:=z4 BK446.out;obtain ⟨Ao9,co9,eo9⟩:=Kd.zP HO450.out;subst eo9)|((with_reducible refine zk (N:=6) rfl ?_);refine zo ?hg (N:=6) ?hd (cs:=#[.int .i64 0,.int .i64 0,.int .i64 0,.slice none 0 0]) (t:=28) ?hr ?_;(case hd=>rfl);(case hg=>rfl);(case hr=>exact sqG);intro gb451 hg w10 hbox hb;have q_:=f11 (sqb HO450 hb) (sqh BK446 hb) (sqh BK447 hb) (za sqB hb) hbox (sqS hg:w.heap.size≤gb451) (sqS hg:w.heap.size≤gb451) (sqn BK446 hg) (sqm BK446 hg) (sqn BK447 hg) (sqm BK447 hg);clear HO450 BK446 BK447 HB;obtain ⟨HO450,BK446,BK447,HB,BK451,GW451,GE451,NB446_451,NB451_446,NB447_451,NB451_447⟩:=q_;clear hb hbox hg;have hnb11:=NB451_446.out;have hnc11:=NB446_451.out;have hnb12:=NB451_447.out;have hnc12:=NB447_451.out;obtain ⟨_,_,_,_,_,_,_,_⟩:=z4 BK451.out)));(go_loopg [7] k (fun kq v7 w'=> ∃(x7_1:Int) (x452003_1:List Int) (u452003:Value),v7= .int .i64 x7_1∧Aside0 (zK.l0 kq t448 x7_1 a0_0 a0_1 a0_2 l0_3 a0_0 a0_1 (t448.length:Int) x452003_1=some (r1,r2,r3,r4))∧Aside0 (kq≤k)∧Aside0 (Kd.R (Kd.int .i64) 3 w' w.heap.size (fun k_=>some k_≠(u452003:Value).ownBlock) (.slice Ao9 t448.length co9) t448)∧Aside0 (Kd.R (Kd.int .i64) 3 w' w.heap.size (fun k_=>some k_≠((.slice Ao9 t448.length co9):Value).ownBlock) u452003 x452003_1)∧Aside0 (w'.heap[gb446]? =some (.cells #[.int .i64 a0_0,.int .i64 a0_1,.int .i64 a0_2,(.slice A0_3 l0_3.length c0_3)] 28 (0,0)))∧Aside0 (w'.heap[gb447]? =some (.cells #[.int .i64 0,.int .i64 0,.int .i64 0,(.slice none 0 0)] 28 (0,0)))∧Aside0 (w'.heap[gb451]? =some (.cells #[.int .i64 a0_0,.int .i64 a0_1,.int .i64 (t448.length:Int),u452003] 28 (0,0)))∧Aside0 (Below w.heap.size w w')));(case atStart=>exact ⟨(0),(([]:List Int)),(.slice none 0 0),(sqD),H',⟨Nat.le_refl _⟩,⟨by refine sqR ?_;exact Kd.zp (Kd.zy (p:=⟨gb451,3,none⟩) (Kd.zy (p:=⟨gb451,2,none⟩) (Kd.zy (p:=⟨gb451,1,none⟩) (Kd.zy (p:=⟨gb451,0,none⟩) (Kd.z7 HO450.out BK451.out (by decide)) (fun _ hk=>hk.2) (.int .i64 a0_0)) (fun _ hk=>hk.2) (.int .i64 a0_1)) (fun _ hk=>hk.2) (.int .i64 (t448.length:Int))) (fun _ hk=>hk.2) (.slice none 0 0)) (fun _ hk=>(by simp [Value.ownBlock]))⟩,⟨sqN⟩,⟨by refine sqK ?_;refine zO ?_ NB446_451.out _;refine sqK ?_;refine zO ?_ NB446_451.out _;refine sqK ?_;refine zO ?_ NB446_451.out _;refine sqK ?_;refine zO ?_ NB446_451.out _;refine sqK ?_;exact BK446.out⟩,⟨by refine sqK ?_;refine zO ?_ NB447_451.out _;refine sqK ?_;refine zO ?_ NB447_451.out _;refine sqK ?_;refine zO ?_ NB447_451.out _;refine sqK ?_;refine zO ?_ NB447_451.out _;refine sqK ?_;exact BK447.out⟩,⟨by refine sqK ?_;refine zw (cs:=#[.int .i64 a0_0,.int .i64 a0_1,.int .i64 (t448.length:Int),.slice none 0 0]) ?_ 3 _ rfl;refine sqK ?_;refine zw (cs:=#[.int .i64 a0_0,.int .i64 a0_1,.int .i64 0,.slice none 0 0]) ?_ 2 _ rfl;refine sqK ?_;refine zw (cs:=#[.int .i64 a0_0,.int .i64 0,.int .i64 0,.slice none 0 0]) ?_ 1 _ rfl;refine sqK ?_;refine zw (cs:=#[.int .i64 0,.int .i64 0,.int .i64 0,.slice none 0 0]) ?_ 0 _ rfl;refine sqK ?_;exact BK451.out⟩,⟨sqB⟩⟩);(case round=>clear H';obtain ⟨x7_1,x452003_1,u452003,rfl,HA,HK1,HO_5,HO_452003,BK446,BK447,BK451,HB⟩:=hrel;(cases gk with|zero=>exact absurd HA.out (by simp [zK.l0])|succ k1=>have H:=HA.out;clear HA;simp only [zK.l0] at H;by_cases c14:x7_1<a0_1;(·rw [if_pos c14] at H;have c14b0:decide (x7_1<a0_1)=true:=decide_eq_true c14;clear c14;have H':=Aside0.mk H;clear H;have hnb15:=NB446_447.out;have hnc15:=NB447_446.out;have hnb16:=NB446_451.out;have hnc16:=NB451_446.out;obtain ⟨_,_,_,_,_,_,_,_⟩:=z4 BK446.out;go_wp2;(go_loopg [27] k1 (fun kq v27 w'=> ∃(x27_2:Int) (x452003_2:List Int) (u452003:Value),v27= .int .i64 x27_2∧Aside0 (zK.l1 kq t448 x7_1 t448 (t448.length:Int) x27_2 a0_0 a0_1 a0_2 l0_3 a0_0 a0_1 (t448.length:Int) x452003_2=some (r1,r2,r3,r4))∧Aside0 (kq≤k1)∧Aside0 (Kd.R (Kd.int .i64) 3 w' w.heap.size (fun k_=>some k_≠(u452003:Value).ownBlock) (.slice Ao9 t448.length co9) t448)∧Aside0 (Kd.R (Kd.int .i64) 3 w' w.heap.size (fun k_=>some k_≠(u452003:Value).ownBlock) (.slice Ao9 t448.length co9) t448)∧Aside0 (Kd.R (Kd.int .i64) 3 w' w.heap.size (fun k_=>some k_≠((.slice Ao9 t448.length co9):Value).ownBlock∧some k_≠((.slice Ao9 t448.length co9):Value).ownBlock) u452003 x452003_2)∧Aside0 (w'.heap[gb446]? =some (.cells #[.int .i64 a0_0,.int .i64 a0_1,.int .i64 a0_2,(.slice A0_3 l0_3.length c0_3)] 28 (0,0)))∧Aside0 (w'.heap[gb447]? =some (.cells #[.int .i64 0,.int .i64 0,.int .i64 0,(.slice none 0 0)] 28 (0,0)))∧Aside0 (w'.heap[gb451]? =some (.cells #[.int .i64 a0_0,.int .i64 a0_1,.int .i64 (t448.length:Int),u452003] 28 (0,0)))∧Aside0 (Below w.heap.size w w')));(case atStart=>exact ⟨(0),(x452003_1),(u452003),(sqD),H',⟨Nat.le_refl _⟩,⟨sqR HO_5.out⟩,⟨sqR HO_5.out⟩,⟨by refine sqR ?_;exact Kd.zp HO_452003.out (fun _ hk=>by first|exact ⟨hk,hk⟩|(refine ⟨?_,?_⟩<;>intro e_<;>simp only [e_,ne_eq,not_true_eq_false,and_false,false_and] at hk))⟩,⟨sqK BK446.out⟩,⟨sqK BK447.out⟩,⟨sqK BK451.out⟩,⟨sqB⟩⟩);(case round=>clear H';obtain ⟨x27_2,x452003_2,u452003,rfl,HA,HK2,HO_5,HO_25,HO_452003,BK446,BK447,BK451,HB⟩:=hrel;(cases gk with|zero=>exact absurd HA.out (by simp [zK.l1])|succ k2=>have H:=HA.out;clear HA;simp only [zK.l1] at H;by_cases c18:x27_2< (t448.length:Int);(·rw [if_pos c18] at H;have c18b0:decide (x27_2< (t448.length:Int))=true:=decide_eq_true c18;clear c18;by_cases c19:0≤x27_2;(·rw [if_pos c19] at H;have c19b0:decide (0≤x27_2)=true:=decide_eq_true c19;clear c19;by_cases c20:x27_2< (t448.length:Int);(·rw [if_pos c20] at H;have c20b0:decide (x27_2< (t448.length:Int))=true:=decide_eq_true c20;clear c20;replace H:=zU H;obtain ⟨t453,A21,H⟩:=H;by_cases c22:x452003_2.length<17592186044416;(·rw [if_pos c22] at H;have LMc22:=Aside0.mk c22;clear c22;obtain ⟨y454,hy454⟩: ∃y_:List Int,y_=(x452003_2++[t453]):=⟨_,rfl⟩;(replace H:(zK.l1 k2 t448 x7_1 t448 (t448.length:Int) (wrap64 (x27_2+1)) a0_0 a0_1 a0_2 l0_3 a0_0 a0_1 (t448.length:Int) y454)=some (r1,r2,r3,r4):=by first|(rw [hy454];with_reducible exact H)|(have H2_:=(Option.bind_some _ _).symm.trans H;rw [hy454];with_reducible exact H2_)|(have H2_:=(Option.bind_some _ _).symm.trans H;with_reducible exact H2_)|with_reducible exact H|(rw [hy454];exact H)|exact H);have Ny454:=Aside0.mk hy454;clear hy454;have H':=Aside0.mk H;clear H;have p452:0≤(x27_2:Int):=of_decide_eq_true sqA;have q452:x27_2< (t448.length:Int):=of_decide_eq_true sqA;obtain ⟨ad452,e452,hx452_0⟩:=Kd.zM (Kd.zj HO_25.out).2.2 x27_2 p452 q452;cases e452;replace p452:=eq_true p452;replace q452:=eq_true q452;(try go_wp2);have q_:=f7 (Kd.qE HO_5.out) (Kd.qE HO_25.out) (Kd.qE HO_452003.out) (qb BK446.out) (qb BK447.out) (qb BK451.out) (zD HB.out);clear HO_5 HO_25 HO_452003 BK446 BK447 BK451 HB;obtain ⟨HO_5,HO_25,HO_452003,BK446,BK447,BK451,HB⟩:=q_;refine jD (n:=10) (S:=fun w'=>w'.cell? ⟨gb451,0,none⟩=some (.int .i64 a0_0)∧w'.cell? ⟨gb451,1,none⟩=some (.int .i64 a0_1)∧w'.cell? ⟨gb451,2,none⟩=some (.int .i64 (t448.length:Int))∧w'.cell? ⟨gb451,3,none⟩=some (u452003)∧w'.cell? ⟨gb446,0,none⟩=some (.int .i64 a0_0)∧w'.cell? ⟨gb446,1,none⟩=some (.int .i64 a0_1)∧w'.cell? ⟨gb446,2,none⟩=some (.int .i64 a0_2)∧w'.cell? ⟨gb446,3,none⟩=some (.slice A0_3 l0_3.length c0_3)) (ds:=[9]) #[false,false,false,false,false,false,false,false,false,false] (by kernel_rfl) rfl rfl tH (fun hHeld=> ?_);refine qN zK.zeC zK.zdj (fun HT_ HW_=> ?_);generalize wr.drew=w23 at HO_5 HO_25 HO_452003 BK446 BK447 BK451 HB hHeld ⊢;refine tP 0 (some 31) (h:= ?_);refine tP 3 (some 34) (h:= ?_);refine tP 4 (some 35) (h:= ?_);refine tT 1 (some 32) (h:= ?_);refine tT 2 (some 33) (h:= ?_);refine tO 5 (some 36) (h:=fun K hK=> ?_);refine y8 Tryz.func29 (by kernel_rfl) rfl #[.agg #[.int .i64 a0_0,.int .i64 a0_1,.int .i64 a0_2,.slice A0_3 l0_3.length c0_3],.int .i64 x7_1,.int .i64 (rd t448 x27_2)] (by rfl) rfl rfl sqM ?_;(with_reducible refine (jG.calls a0_0 a0_1 a0_2 _ _ l0_3 x7_1 (rd t448 x27_2) t453 _ ?side1 ?side2 A21.out).mono ?_);(case side1=>exact sqC (Kd.zC HR0_3.out HB.out));(case side2=>exact HC0_3.out);rintro e w24 ⟨rfl,hb⟩;refine ⟨_,rfl,?_⟩;have q_:=f7 (sqb HO_5 hb) (sqb HO_25 hb) (sqb HO_452003 hb) (sqh BK446 hb) (sqh BK447 hb) (sqh BK451 hb) (za sqB hb);clear HO_5 HO_25 HO_452003 BK446 BK447 BK451 HB;obtain ⟨HO_5,HO_25,HO_452003,BK446,BK447,BK451,HB⟩:=q_;refine hK.out _ _ tH (fun hHeld=> ?_);clear hK K;refine tN 36 (h:= ?_);refine tO 6 (some 37) (h:=fun K hK=> ?_);refine tV (h:= ?_);refine hK.out _ _ tH (fun hHeld=> ?_);clear hK K;refine tN 37 (h:= ?_);refine tO 7 (some 38) (h:=fun K hK=> ?_);refine Kd.yY (Kd.int .i64) (w0:=w) w.heap.size (by rfl) (.tmp 32) (.tmp 37) 22 3 (.int .i64 0) 8 rfl Tryz.underlying22 jM rfl (by decide) (by omega) u452003 x452003_2 t453 [.int .i64 t453] (fun k_=>some k_≠(.slice (some ad452) t448.length co9:Value).ownBlock∧some k_≠(.slice (some ad452) t448.length co9:Value).ownBlock) (fun _=>False) rfl rfl ?aP (fun _ hk=>hk.elim) ?aF ?aO ?aB ?aS ?aL ?_;(case aP=>exact rfl);(case aB=>exact sqB);(case aF=>exact (fun k_ hk=>⟨Kd.yB (Kd.q3 (sqR HO_5.out)) k_ hk,Kd.yB (Kd.q3 (sqR HO_25.out)) k_ hk⟩));(case aO=>exact (sqR HO_452003.out));(case aS=>exact (zi sqB));(case aL=>have:=LMc22.out;omega);intro v455 w25 ho hb hg hat;rw [←Ny454.out] at ho;have q_:=f7 (Kd.jd (ok:=(fun _=>True)) (by refine sqR ?_;exact Kd.zp HO_5.out (fun _ hk=>⟨trivial,by first|exact hk|exact fun h_=>hk (h_.trans ((fun (A:Option Addr) (x y c:Nat)=>(by cases A<;>rfl:(Value.slice A x c).ownBlock=(Value.slice A y c).ownBlock)) _ _ _ _))⟩)) hg hat) (Kd.jd (ok:=(fun _=>True)) (by refine sqR ?_;exact Kd.zp HO_25.out (fun _ hk=>⟨trivial,by first|exact hk|exact fun h_=>hk (h_.trans ((fun (A:Option Addr) (x y c:Nat)=>(by cases A<;>rfl:(Value.slice A x c).ownBlock=(Value.slice A y c).ownBlock)) _ _ _ _))⟩)) hg hat) (qo (sqK BK446.out) hg (Kd.jB HO_452003.out BK446.out (by decide))) (qo (sqK BK447.out) hg (Kd.jB HO_452003.out BK447.out (by decide))) (qo (sqK BK451.out) hg (Kd.jB HO_452003.out BK451.out (by decide))) hb ho;clear HO_5 HO_25 BK446 BK447 BK451 HB HO_452003;obtain ⟨HO_5,HO_25,BK446,BK447,BK451,HB,HO456⟩:=q_;clear ho hb hg hat;obtain ⟨Ao26,co26,eo26⟩:=Kd.zP HO456.out;(first|subst eo26|(injection eo26 with f1_ f2_ f3_;have f4_:=f1_.symm;have f5_:=f3_.symm;clear f1_ f2_ f3_;subst f4_;subst f5_));refine hK.out _ _ tH (fun hHeld=> ?_);clear hK K;refine tN 38 (h:= ?_);refine tP 8 (some 39) (h:= ?_);refine tL 9 none (h:=fun K hK=> ?_);have hs27:w25.cell? ⟨gb451,3,none⟩=some (u452003):=(zb BK451.out 3).trans rfl;have hfs27:=zh BK451.out 3;have hns27_0:=NB446_451.out;have hns27_1:=NB447_451.out;have hms27_0:=NB451_446.out;have hms27_1:=NB451_447.out;refine tK (h:= ?_);refine hK.out _ _ ?_;clear hK K;refine vx (je HT_.out (by kernel_rfl)) ?_;(try go_wp2);(go_roundg k2);(case measure=>have:=HK1.out;have:=HK2.out;omega);(case rel=>exact ⟨(wrap64 (x27_2+1)),(y454),(.slice Ao26 y454.length co26),(sqD),H',⟨by have:=HK1.out;have:=HK2.out;omega⟩,⟨by refine sqR ?_;exact Kd.zp (Kd.zy (p:=⟨gb451,3,none⟩) (Kd.z7 HO_5.out BK451.out (by decide)) (fun _ hk=>hk.2) (.slice Ao26 y454.length co26)) (fun _ hk=>hk.1.2)⟩,⟨by refine sqR ?_;exact Kd.zp (Kd.zy (p:=⟨gb451,3,none⟩) (Kd.z7 HO_25.out BK451.out (by decide)) (fun _ hk=>hk.2) (.slice Ao26 y454.length co26)) (fun _ hk=>hk.1.2)⟩,⟨by refine sqR ?_;exact Kd.zp (Kd.zy (p:=⟨gb451,3,none⟩) (Kd.z7 HO456.out BK451.out (by decide)) (fun _ hk=>hk.2) (.slice Ao26 y454.length co26)) (fun _ hk=>by first|exact ⟨hk.1.1,hk.1.2⟩|(refine ⟨?_,?_⟩<;>intro e_<;>simp only [e_,ne_eq,not_true_eq_false,and_false,false_and] at hk))⟩,⟨by refine sqK ?_;refine zO ?_ NB446_451.out _;refine sqK ?_;exact BK446.out⟩,⟨by refine sqK ?_;refine zO ?_ NB447_451.out _;refine sqK ?_;exact BK447.out⟩,⟨by refine sqK ?_;refine zw (cs:=#[.int .i64 a0_0,.int .i64 a0_1,.int .i64 (t448.length:Int),u452003]) ?_ 3 _ rfl;refine sqK ?_;exact BK451.out⟩,⟨sqB⟩⟩));(·rw [if_neg c22] at H;exact absurd H (by simp)));(·rw [if_neg c20] at H;exact absurd H (by simp)));(·rw [if_neg c19] at H;exact absurd H (by simp)));(·rw [if_neg c18] at H;have c18b0:decide (x27_2< (t448.length:Int))=false:=decide_eq_false c18;clear c18;have H':=Aside0.mk H;clear H;go_wp2;(go_roundg k2);(case measure=>have:=HK1.out;have:=HK2.out;omega);(case rel=>exact ⟨(wrap64 (x7_1+1)),(x452003_2),(u452003),(sqD),H',⟨by have:=HK1.out;have:=HK2.out;omega⟩,⟨sqR HO_5.out⟩,⟨by refine sqR ?_;exact Kd.zp HO_452003.out (fun _ hk=>hk.1)⟩,⟨sqK BK446.out⟩,⟨sqK BK447.out⟩,⟨sqK BK451.out⟩,⟨sqB⟩⟩)))));(·rw [if_neg c14] at H;have c14b0:decide (x7_1<a0_1)=false:=decide_eq_false c14;clear c14;simp only [Option.some.injEq,Prod.mk.injEq] at H;obtain ⟨rfl,rfl,rfl,rfl⟩:=H;have hnb28:=NB446_447.out;have hnc28:=NB447_446.out;have hnb29:=NB446_451.out;have hnc29:=NB451_446.out;obtain ⟨_,_,_,_,_,_,_,_⟩:=z4 BK446.out;have hnb31:=NB451_447.out;have hnc31:=NB447_451.out;obtain ⟨_,_,_,_,_,_,_,_⟩:=z4 BK451.out;obtain ⟨_,_,_,_,_,_,_,_⟩:=z4 BK447.out;obtain ⟨Ao34,co34,eo34⟩:=Kd.zP HO_452003.out;subst eo34;go_wp2;refine bodyPost_ret (results_cell_row rfl _ _ gb447 28 #[.int .i64 a0_0,.int .i64 a0_1,.int .i64 (t448.length:Int),.slice Ao34 x452003_1.length co34] (0,0) _ rfl (by refine sqK ?_;refine zw (cs:=#[.int .i64 a0_0,.int .i64 a0_1,.int .i64 (t448.length:Int),.slice none 0 0]) ?_ 3 _ rfl;refine sqK ?_;refine zw (cs:=#[.int .i64 a0_0,.int .i64 a0_1,.int .i64 0,.slice none 0 0]) ?_ 2 _ rfl;refine sqK ?_;refine zw (cs:=#[.int .i64 a0_0,.int .i64 0,.int .i64 0,.slice none 0 0]) ?_ 1 _ rfl;refine sqK ?_;refine zw (cs:=#[.int .i64 0,.int .i64 0,.int .i64 0,.slice none 0 0]) ?_ 0 _ rfl;refine sqK ?_;exact BK447.out) Tryz.underlying28 rfl (by kernel_rfl)) rfl ?_;exact ⟨_,sqE,by refine sqR ?_;exact Kd.zp (Kd.zy (p:=⟨gb447,3,none⟩) (Kd.zy (p:=⟨gb447,2,none⟩) (Kd.zy (p:=⟨gb447,1,none⟩) (Kd.zy (p:=⟨gb447,0,none⟩) (Kd.z7 HO_452003.out BK447.out (by decide)) (fun _ hk=>hk.2) (.int .i64 a0_0)) (fun _ hk=>hk.2) (.int .i64 a0_1)) (fun _ hk=>hk.2) (.int .i64 (t448.length:Int))) (fun _ hk=>hk.2) (.slice Ao34 x452003_1.length co34)) (fun _ hk=>trivial),sqB⟩)))

def vn.f (a0:Int):Option (Int):=some (Go.bits .and .i64 (wrap64 (IntKind.u64.wrap ((IntKind.u64.wrap ((IntKind.u64.wrap ((Go.bits .and .u64 (IntKind.u64.wrap (((IntKind.u64.wrap ((Go.bits .and .u64 ((IntKind.u64.wrap ((Go.bits .and .u64 (a0 / 2) 6148914691236517205)+(Go.bits .and .u64 a0 6148914691236517205))) / 4) 3689348814741910323)+(Go.bits .and .u64 (IntKind.u64.wrap ((Go.bits .and .u64 (a0 / 2) 6148914691236517205)+(Go.bits .and .u64 a0 6148914691236517205))) 3689348814741910323))) / 16)+(IntKind.u64.wrap ((Go.bits .and .u64 ((IntKind.u64.wrap ((Go.bits .and .u64 (a0 / 2) 6148914691236517205)+(Go.bits .and .u64 a0 6148914691236517205))) / 4) 3689348814741910323)+(Go.bits .and .u64 (IntKind.u64.wrap ((Go.bits .and .u64 (a0 / 2) 6148914691236517205)+(Go.bits .and .u64 a0 6148914691236517205))) 3689348814741910323))))) 1085102592571150095)+((Go.bits .and .u64 (IntKind.u64.wrap (((IntKind.u64.wrap ((Go.bits .and .u64 ((IntKind.u64.wrap ((Go.bits .and .u64 (a0 / 2) 6148914691236517205)+(Go.bits .and .u64 a0 6148914691236517205))) / 4) 3689348814741910323)+(Go.bits .and .u64 (IntKind.u64.wrap ((Go.bits .and .u64 (a0 / 2) 6148914691236517205)+(Go.bits .and .u64 a0 6148914691236517205))) 3689348814741910323))) / 16)+(IntKind.u64.wrap ((Go.bits .and .u64 ((IntKind.u64.wrap ((Go.bits .and .u64 (a0 / 2) 6148914691236517205)+(Go.bits .and .u64 a0 6148914691236517205))) / 4) 3689348814741910323)+(Go.bits .and .u64 (IntKind.u64.wrap ((Go.bits .and .u64 (a0 / 2) 6148914691236517205)+(Go.bits .and .u64 a0 6148914691236517205))) 3689348814741910323))))) 1085102592571150095) / 256)))+((IntKind.u64.wrap ((Go.bits .and .u64 (IntKind.u64.wrap (((IntKind.u64.wrap ((Go.bits .and .u64 ((IntKind.u64.wrap ((Go.bits .and .u64 (a0 / 2) 6148914691236517205)+(Go.bits .and .u64 a0 6148914691236517205))) / 4) 3689348814741910323)+(Go.bits .and .u64 (IntKind.u64.wrap ((Go.bits .and .u64 (a0 / 2) 6148914691236517205)+(Go.bits .and .u64 a0 6148914691236517205))) 3689348814741910323))) / 16)+(IntKind.u64.wrap ((Go.bits .and .u64 ((IntKind.u64.wrap ((Go.bits .and .u64 (a0 / 2) 6148914691236517205)+(Go.bits .and .u64 a0 6148914691236517205))) / 4) 3689348814741910323)+(Go.bits .and .u64 (IntKind.u64.wrap ((Go.bits .and .u64 (a0 / 2) 6148914691236517205)+(Go.bits .and .u64 a0 6148914691236517205))) 3689348814741910323))))) 1085102592571150095)+((Go.bits .and .u64 (IntKind.u64.wrap (((IntKind.u64.wrap ((Go.bits .and .u64 ((IntKind.u64.wrap ((Go.bits .and .u64 (a0 / 2) 6148914691236517205)+(Go.bits .and .u64 a0 6148914691236517205))) / 4) 3689348814741910323)+(Go.bits .and .u64 (IntKind.u64.wrap ((Go.bits .and .u64 (a0 / 2) 6148914691236517205)+(Go.bits .and .u64 a0 6148914691236517205))) 3689348814741910323))) / 16)+(IntKind.u64.wrap ((Go.bits .and .u64 ((IntKind.u64.wrap ((Go.bits .and .u64 (a0 / 2) 6148914691236517205)+(Go.bits .and .u64 a0 6148914691236517205))) / 4) 3689348814741910323)+(Go.bits .and .u64 (IntKind.u64.wrap ((Go.bits .and .u64 (a0 / 2) 6148914691236517205)+(Go.bits .and .u64 a0 6148914691236517205))) 3689348814741910323))))) 1085102592571150095) / 256))) / 65536)))+((IntKind.u64.wrap ((IntKind.u64.wrap ((Go.bits .and .u64 (IntKind.u64.wrap (((IntKind.u64.wrap ((Go.bits .and .u64 ((IntKind.u64.wrap ((Go.bits .and .u64 (a0 / 2) 6148914691236517205)+(Go.bits .and .u64 a0 6148914691236517205))) / 4) 3689348814741910323)+(Go.bits .and .u64 (IntKind.u64.wrap ((Go.bits .and .u64 (a0 / 2) 6148914691236517205)+(Go.bits .and .u64 a0 6148914691236517205))) 3689348814741910323))) / 16)+(IntKind.u64.wrap ((Go.bits .and .u64 ((IntKind.u64.wrap ((Go.bits .and .u64 (a0 / 2) 6148914691236517205)+(Go.bits .and .u64 a0 6148914691236517205))) / 4) 3689348814741910323)+(Go.bits .and .u64 (IntKind.u64.wrap ((Go.bits .and .u64 (a0 / 2) 6148914691236517205)+(Go.bits .and .u64 a0 6148914691236517205))) 3689348814741910323))))) 1085102592571150095)+((Go.bits .and .u64 (IntKind.u64.wrap (((IntKind.u64.wrap ((Go.bits .and .u64 ((IntKind.u64.wrap ((Go.bits .and .u64 (a0 / 2) 6148914691236517205)+(Go.bits .and .u64 a0 6148914691236517205))) / 4) 3689348814741910323)+(Go.bits .and .u64 (IntKind.u64.wrap ((Go.bits .and .u64 (a0 / 2) 6148914691236517205)+(Go.bits .and .u64 a0 6148914691236517205))) 3689348814741910323))) / 16)+(IntKind.u64.wrap ((Go.bits .and .u64 ((IntKind.u64.wrap ((Go.bits .and .u64 (a0 / 2) 6148914691236517205)+(Go.bits .and .u64 a0 6148914691236517205))) / 4) 3689348814741910323)+(Go.bits .and .u64 (IntKind.u64.wrap ((Go.bits .and .u64 (a0 / 2) 6148914691236517205)+(Go.bits .and .u64 a0 6148914691236517205))) 3689348814741910323))))) 1085102592571150095) / 256)))+((IntKind.u64.wrap ((Go.bits .and .u64 (IntKind.u64.wrap (((IntKind.u64.wrap ((Go.bits .and .u64 ((IntKind.u64.wrap ((Go.bits .and .u64 (a0 / 2) 6148914691236517205)+(Go.bits .and .u64 a0 6148914691236517205))) / 4) 3689348814741910323)+(Go.bits .and .u64 (IntKind.u64.wrap ((Go.bits .and .u64 (a0 / 2) 6148914691236517205)+(Go.bits .and .u64 a0 6148914691236517205))) 3689348814741910323))) / 16)+(IntKind.u64.wrap ((Go.bits .and .u64 ((IntKind.u64.wrap ((Go.bits .and .u64 (a0 / 2) 6148914691236517205)+(Go.bits .and .u64 a0 6148914691236517205))) / 4) 3689348814741910323)+(Go.bits .and .u64 (IntKind.u64.wrap ((Go.bits .and .u64 (a0 / 2) 6148914691236517205)+(Go.bits .and .u64 a0 6148914691236517205))) 3689348814741910323))))) 1085102592571150095)+((Go.bits .and .u64 (IntKind.u64.wrap (((IntKind.u64.wrap ((Go.bits .and .u64 ((IntKind.u64.wrap ((Go.bits .and .u64 (a0 / 2) 6148914691236517205)+(Go.bits .and .u64 a0 6148914691236517205))) / 4) 3689348814741910323)+(Go.bits .and .u64 (IntKind.u64.wrap ((Go.bits .and .u64 (a0 / 2) 6148914691236517205)+(Go.bits .and .u64 a0 6148914691236517205))) 3689348814741910323))) / 16)+(IntKind.u64.wrap ((Go.bits .and .u64 ((IntKind.u64.wrap ((Go.bits .and .u64 (a0 / 2) 6148914691236517205)+(Go.bits .and .u64 a0 6148914691236517205))) / 4) 3689348814741910323)+(Go.bits .and .u64 (IntKind.u64.wrap ((Go.bits .and .u64 (a0 / 2) 6148914691236517205)+(Go.bits .and .u64 a0 6148914691236517205))) 3689348814741910323))))) 1085102592571150095) / 256))) / 65536))) / 4294967296)))) 127)
theorem vn.calls (a0:Int)(r:Int)(w:World)(h:vn.f a0=some r):Calls Tryz.prog 88 #[.int .u64 a0] w fun e w'=>e= .returned (.int .i64 r)∧ze w w':=by have H:=h;unfold vn.f at H;clear h;obtain rfl:=Option.some.inj H;go_enter Tryz.func88,Tryz.ntmps88;go_wp2;go_ret;exact ⟨sqD,by repeat (first|exact ze.refl _|apply ze.step)⟩

def qK.l0:Nat→List Int→List Int→Int→Option (Bool)
 |0,_,_,_=>none
 |k+1,x0,x1,x5=>if x5< (x0.length:Int) then (if 0≤x5 then (if x5< (x1.length:Int) then (if (rd x0 x5)=(rd x1 x5) then (qK.l0 k x0 x1 (wrap64 (x5+1))) else (some false)) else (none)) else (none)) else (some true)
def qK.f (k:Nat)(l0:List Int)(l1:List Int):Option (Bool):=if (l0.length:Int)=(l1.length:Int) then (qK.l0 k l0 l1 0) else (some false)
theorem qK.calls (k:Nat)(A0:Option Addr)(c0:Nat)(l0:List Int)(A1:Option Addr)(c1:Nat)(l1:List Int)(r:Bool)(w:World)(hr0:Kd.C (Kd.int .i64) w A0 l0.length l0)(hc0:l0.length≤c0)(hr1:Kd.C (Kd.int .i64) w A1 l1.length l1)(hc1:l1.length≤c1)(h:qK.f k l0 l1=some r):Calls Tryz.prog 8 #[.slice A0 l0.length c0,.slice A1 l1.length c1] w fun e w'=>e= .returned (.bool r)∧ze w w':=by have HR0:=Aside0.mk hr0;have HC0:=Aside0.mk hc0;clear hr0 hc0;have HR1:=Aside0.mk hr1;have HC1:=Aside0.mk hc1;clear hr1 hc1;have H:=h;unfold qK.f at H;clear h;by_cases c3:(l0.length:Int)=(l1.length:Int);(·rw [if_pos c3] at H;have c3b0:((l0.length:Int)==(l1.length:Int))=true:=beq_iff_eq.mpr c3;have c3b1:((l0.length:Int) != (l1.length:Int))=false:=bne_eq_false_iff_eq.mpr c3;(have c3b2:(l0.length==l1.length)=true:=by first|simpa using c3|(simp at c3 ⊢;omega));clear c3;have H':=Aside0.mk H;clear H;go_enter Tryz.func8,Tryz.ntmps8;go_wp2;(repeat (go_quiet (fail);try go_wp2));(go_loopg [5] k (fun kq v5 w'=> ∃(x5_1:Int),v5= .int .i64 x5_1∧Aside0 (qK.l0 kq l0 l1 x5_1=some r)∧Aside0 (kq≤k)∧ze w w'));(case atStart=>exact ⟨(0),(sqD),H',⟨Nat.le_refl _⟩,by repeat (first|exact ze.refl _|apply ze.step)⟩);(case round=>clear H';obtain ⟨x5_1,rfl,HA,HK1,⟨m1,rfl⟩⟩:=hrel;(cases gk with|zero=>exact absurd HA.out (by simp [qK.l0])|succ k1=>have H:=HA.out;clear HA;simp only [qK.l0] at H;by_cases c4:x5_1< (l0.length:Int);(·rw [if_pos c4] at H;have c4b0:decide (x5_1< (l0.length:Int))=true:=decide_eq_true c4;clear c4;by_cases c5:0≤x5_1;(·rw [if_pos c5] at H;have c5b0:decide (0≤x5_1)=true:=decide_eq_true c5;clear c5;by_cases c6:x5_1< (l1.length:Int);(·rw [if_pos c6] at H;have c6b0:decide (x5_1< (l1.length:Int))=true:=decide_eq_true c6;clear c6;by_cases c7:(rd l0 x5_1)=(rd l1 x5_1);(·rw [if_pos c7] at H;have c7b0:((rd l0 x5_1)==(rd l1 x5_1))=true:=beq_iff_eq.mpr c7;have c7b1:((rd l0 x5_1) != (rd l1 x5_1))=false:=bne_eq_false_iff_eq.mpr c7;clear c7;have H':=Aside0.mk H;clear H;have p534:0≤(x5_1:Int):=of_decide_eq_true sqA;have q534:x5_1< (l0.length:Int):=of_decide_eq_true sqA;obtain ⟨ad534,e534,hx534_0⟩:=Kd.zM HR0.out x5_1 p534 q534;cases e534;replace p534:=eq_true p534;replace q534:=eq_true q534;have p535:0≤(x5_1:Int):=of_decide_eq_true sqA;have q535:x5_1< (l1.length:Int):=of_decide_eq_true sqA;obtain ⟨ad535,e535,hx535_0⟩:=Kd.zM HR1.out x5_1 p535 q535;cases e535;replace p535:=eq_true p535;replace q535:=eq_true q535;go_wp2;(repeat (go_quiet (fail);try go_wp2));(go_roundg k1);(case measure=>have:=HK1.out;omega);(case rel=>exact ⟨(wrap64 (x5_1+1)),(sqD),H',⟨by have:=HK1.out;omega⟩,by repeat (first|exact ze.refl _|apply ze.step)⟩));(·rw [if_neg c7] at H;have c7b0:((rd l0 x5_1)==(rd l1 x5_1))=false:=beq_eq_false_iff_ne.mpr c7;have c7b1:((rd l0 x5_1) != (rd l1 x5_1))=true:=bne_iff_ne.mpr c7;obtain rfl:=Option.some.inj H;have p534:0≤(x5_1:Int):=of_decide_eq_true sqA;have q534:x5_1< (l0.length:Int):=of_decide_eq_true sqA;obtain ⟨ad534,e534,hx534_0⟩:=Kd.zM HR0.out x5_1 p534 q534;cases e534;replace p534:=eq_true p534;replace q534:=eq_true q534;have p535:0≤(x5_1:Int):=of_decide_eq_true sqA;have q535:x5_1< (l1.length:Int):=of_decide_eq_true sqA;obtain ⟨ad535,e535,hx535_0⟩:=Kd.zM HR1.out x5_1 p535 q535;cases e535;replace p535:=eq_true p535;replace q535:=eq_true q535;go_wp2;(repeat (go_quiet (fail);try go_wp2));go_ret;exact ⟨sqD,by repeat (first|exact ze.refl _|apply ze.step)⟩));(·rw [if_neg c6] at H;exact absurd H (by simp)));(·rw [if_neg c5] at H;exact absurd H (by simp)));(·rw [if_neg c4] at H;have c4b0:decide (x5_1< (l0.length:Int))=false:=decide_eq_false c4;clear c4;obtain rfl:=Option.some.inj H;go_wp2;(repeat (go_quiet (fail);try go_wp2));go_ret;exact ⟨sqD,by repeat (first|exact ze.refl _|apply ze.step)⟩))));(·rw [if_neg c3] at H;have c3b0:((l0.length:Int)==(l1.length:Int))=false:=beq_eq_false_iff_ne.mpr c3;have c3b1:((l0.length:Int) != (l1.length:Int))=true:=bne_iff_ne.mpr c3;(have c3b2:(l0.length==l1.length)=false:=by first|simpa using c3|(simp at c3 ⊢;omega));obtain rfl:=Option.some.inj H;go_enter Tryz.func8,Tryz.ntmps8;go_wp2;(repeat (go_quiet (fail);try go_wp2));go_ret;exact ⟨sqD,by repeat (first|exact ze.refl _|apply ze.step)⟩)

def vE.f (k:Nat)(a0_0:Int)(a0_1:Int)(a0_2:Int)(l0_3:List Int)(a1_0:Int)(a1_1:Int)(a1_2:Int)(l1_3:List Int):Option (Bool):=if a0_0=a1_0 then (if a0_1=a1_1 then (if a0_2=a1_2 then ((qK.f k l0_3 l1_3).bind fun t538=>(if t538=true then (some true) else (some false))) else (some false)) else (some false)) else (some false)
theorem vE.calls (k:Nat)(a0_0:Int)(a0_1:Int)(a0_2:Int)(A0_3:Option Addr)(c0_3:Nat)(l0_3:List Int)(a1_0:Int)(a1_1:Int)(a1_2:Int)(A1_3:Option Addr)(c1_3:Nat)(l1_3:List Int)(r:Bool)(w:World)(hr0_3:Kd.C (Kd.int .i64) w A0_3 l0_3.length l0_3)(hc0_3:l0_3.length≤c0_3)(hr1_3:Kd.C (Kd.int .i64) w A1_3 l1_3.length l1_3)(hc1_3:l1_3.length≤c1_3)(h:vE.f k a0_0 a0_1 a0_2 l0_3 a1_0 a1_1 a1_2 l1_3=some r):Calls Tryz.prog 9 #[.agg #[.int .i64 a0_0,.int .i64 a0_1,.int .i64 a0_2,.slice A0_3 l0_3.length c0_3],.agg #[.int .i64 a1_0,.int .i64 a1_1,.int .i64 a1_2,.slice A1_3 l1_3.length c1_3]] w fun e w'=>e= .returned (.bool r)∧Below w.heap.size w w':=by have hu28:=Tryz.underlying28;have HR0_3:=Aside0.mk hr0_3;have HC0_3:=Aside0.mk hc0_3;clear hr0_3 hc0_3;have HR1_3:=Aside0.mk hr1_3;have HC1_3:=Aside0.mk hc1_3;clear hr1_3 hc1_3;have HB:=Aside0.mk (Below.refl w.heap.size w);have H:=h;unfold vE.f at H;clear h;by_cases c3:a0_0=a1_0;(·rw [if_pos c3] at H;have c3b0:(a0_0==a1_0)=true:=beq_iff_eq.mpr c3;have c3b1:(a0_0 != a1_0)=false:=bne_eq_false_iff_eq.mpr c3;clear c3;by_cases c4:a0_1=a1_1;(·rw [if_pos c4] at H;have c4b0:(a0_1==a1_1)=true:=beq_iff_eq.mpr c4;have c4b1:(a0_1 != a1_1)=false:=bne_eq_false_iff_eq.mpr c4;clear c4;by_cases c5:a0_2=a1_2;(·rw [if_pos c5] at H;have c5b0:(a0_2==a1_2)=true:=beq_iff_eq.mpr c5;have c5b1:(a0_2 != a1_2)=false:=bne_eq_false_iff_eq.mpr c5;clear c5;replace H:=zU H;obtain ⟨t538,A6,H⟩:=H;by_cases c7:t538=true;(·subst c7;rw [if_pos rfl] at H;obtain rfl:=Option.some.inj H;go_enter Tryz.func9,Tryz.ntmps9;(go_wp2_with (first|((with_reducible refine zk (N:=2) rfl ?_);refine zo ?hg (N:=2) ?hd (cs:=#[.int .i64 a0_0,.int .i64 a0_1,.int .i64 a0_2,.slice A0_3 l0_3.length c0_3]) (t:=28) ?hr ?_;(case hd=>rfl);(case hg=>rfl);(case hr=>exact sqG);intro gb536 hg w8 hbox hb;have q_:=f4 (za sqB hb) hbox (sqS hg:w.heap.size≤gb536) (sqS hg:w.heap.size≤gb536);clear HB;obtain ⟨HB,BK536,GW536,GE536⟩:=q_;clear hb hbox hg)|((with_reducible refine zk (N:=3) rfl ?_);refine zo ?hg (N:=3) ?hd (cs:=#[.int .i64 a1_0,.int .i64 a1_1,.int .i64 a1_2,.slice A1_3 l1_3.length c1_3]) (t:=28) ?hr ?_;(case hd=>rfl);(case hg=>rfl);(case hr=>exact sqG);intro gb537 hg w9 hbox hb;have q_:=f7 (sqh BK536 hb) (za sqB hb) hbox (sqS hg:w.heap.size≤gb537) (sqS hg:w.heap.size≤gb537) (sqn BK536 hg) (sqm BK536 hg);clear BK536 HB;obtain ⟨BK536,HB,BK537,GW537,GE537,NB536_537,NB537_536⟩:=q_;clear hb hbox hg;have hnb10:=NB536_537.out;have hnc10:=NB537_536.out;obtain ⟨_,_,_,_,_,_,_,_⟩:=z4 BK536.out;obtain ⟨_,_,_,_,_,_,_,_⟩:=z4 BK537.out)|((with_reducible refine zc (f:=8) rfl ?_);refine zt (some 24) rfl rfl Tryz.func8 (by kernel_rfl) rfl #[.slice A0_3 l0_3.length c0_3,.slice A1_3 l1_3.length c1_3] rfl sqM ?_;(with_reducible refine (qK.calls k _ _ l0_3 _ _ l1_3 true _ ?side1 ?side2 ?side3 ?side4 A6.out).mono ?_);(case side1=>exact sqC (Kd.zC HR0_3.out HB.out));(case side2=>exact HC0_3.out);(case side3=>exact sqC (Kd.zC HR1_3.out HB.out));(case side4=>exact HC1_3.out);rintro e w' ⟨rfl,⟨nd,rfl⟩⟩;refine ⟨_,rfl,?_⟩)));go_ret;exact ⟨sqE,sqB⟩);(·replace c7:=Bool.eq_false_iff.mpr c7;subst c7;rw [if_neg (show ¬(false=true) by decide)] at H;obtain rfl:=Option.some.inj H;go_enter Tryz.func9,Tryz.ntmps9;(go_wp2_with (first|((with_reducible refine zk (N:=2) rfl ?_);refine zo ?hg (N:=2) ?hd (cs:=#[.int .i64 a0_0,.int .i64 a0_1,.int .i64 a0_2,.slice A0_3 l0_3.length c0_3]) (t:=28) ?hr ?_;(case hd=>rfl);(case hg=>rfl);(case hr=>exact sqG);intro gb536 hg w13 hbox hb;have q_:=f4 (za sqB hb) hbox (sqS hg:w.heap.size≤gb536) (sqS hg:w.heap.size≤gb536);clear HB;obtain ⟨HB,BK536,GW536,GE536⟩:=q_;clear hb hbox hg)|((with_reducible refine zk (N:=3) rfl ?_);refine zo ?hg (N:=3) ?hd (cs:=#[.int .i64 a1_0,.int .i64 a1_1,.int .i64 a1_2,.slice A1_3 l1_3.length c1_3]) (t:=28) ?hr ?_;(case hd=>rfl);(case hg=>rfl);(case hr=>exact sqG);intro gb537 hg w14 hbox hb;have q_:=f7 (sqh BK536 hb) (za sqB hb) hbox (sqS hg:w.heap.size≤gb537) (sqS hg:w.heap.size≤gb537) (sqn BK536 hg) (sqm BK536 hg);clear BK536 HB;obtain ⟨BK536,HB,BK537,GW537,GE537,NB536_537,NB537_536⟩:=q_;clear hb hbox hg;have hnb15:=NB536_537.out;have hnc15:=NB537_536.out;obtain ⟨_,_,_,_,_,_,_,_⟩:=z4 BK536.out;obtain ⟨_,_,_,_,_,_,_,_⟩:=z4 BK537.out)|((with_reducible refine zc (f:=8) rfl ?_);refine zt (some 24) rfl rfl Tryz.func8 (by kernel_rfl) rfl #[.slice A0_3 l0_3.length c0_3,.slice A1_3 l1_3.length c1_3] rfl sqM ?_;(with_reducible refine (qK.calls k _ _ l0_3 _ _ l1_3 false _ ?side1 ?side2 ?side3 ?side4 A6.out).mono ?_);(case side1=>exact sqC (Kd.zC HR0_3.out HB.out));(case side2=>exact HC0_3.out);(case side3=>exact sqC (Kd.zC HR1_3.out HB.out));(case side4=>exact HC1_3.out);rintro e w' ⟨rfl,⟨nd,rfl⟩⟩;refine ⟨_,rfl,?_⟩)));go_ret;exact ⟨sqE,sqB⟩));(·rw [if_neg c5] at H;have c5b0:(a0_2==a1_2)=false:=beq_eq_false_iff_ne.mpr c5;have c5b1:(a0_2 != a1_2)=true:=bne_iff_ne.mpr c5;obtain rfl:=Option.some.inj H;go_enter Tryz.func9,Tryz.ntmps9;(go_wp2_with (first|((with_reducible refine zk (N:=2) rfl ?_);refine zo ?hg (N:=2) ?hd (cs:=#[.int .i64 a0_0,.int .i64 a0_1,.int .i64 a0_2,.slice A0_3 l0_3.length c0_3]) (t:=28) ?hr ?_;(case hd=>rfl);(case hg=>rfl);(case hr=>exact sqG);intro gb536 hg w18 hbox hb;have q_:=f4 (za sqB hb) hbox (sqS hg:w.heap.size≤gb536) (sqS hg:w.heap.size≤gb536);clear HB;obtain ⟨HB,BK536,GW536,GE536⟩:=q_;clear hb hbox hg)|((with_reducible refine zk (N:=3) rfl ?_);refine zo ?hg (N:=3) ?hd (cs:=#[.int .i64 a1_0,.int .i64 a1_1,.int .i64 a1_2,.slice A1_3 l1_3.length c1_3]) (t:=28) ?hr ?_;(case hd=>rfl);(case hg=>rfl);(case hr=>exact sqG);intro gb537 hg w19 hbox hb;have q_:=f7 (sqh BK536 hb) (za sqB hb) hbox (sqS hg:w.heap.size≤gb537) (sqS hg:w.heap.size≤gb537) (sqn BK536 hg) (sqm BK536 hg);clear BK536 HB;obtain ⟨BK536,HB,BK537,GW537,GE537,NB536_537,NB537_536⟩:=q_;clear hb hbox hg;have hnb20:=NB536_537.out;have hnc20:=NB537_536.out;obtain ⟨_,_,_,_,_,_,_,_⟩:=z4 BK536.out;obtain ⟨_,_,_,_,_,_,_,_⟩:=z4 BK537.out)));go_ret;exact ⟨sqE,sqB⟩));(·rw [if_neg c4] at H;have c4b0:(a0_1==a1_1)=false:=beq_eq_false_iff_ne.mpr c4;have c4b1:(a0_1 != a1_1)=true:=bne_iff_ne.mpr c4;obtain rfl:=Option.some.inj H;go_enter Tryz.func9,Tryz.ntmps9;(go_wp2_with (first|((with_reducible refine zk (N:=2) rfl ?_);refine zo ?hg (N:=2) ?hd (cs:=#[.int .i64 a0_0,.int .i64 a0_1,.int .i64 a0_2,.slice A0_3 l0_3.length c0_3]) (t:=28) ?hr ?_;(case hd=>rfl);(case hg=>rfl);(case hr=>exact sqG);intro gb536 hg w23 hbox hb;have q_:=f4 (za sqB hb) hbox (sqS hg:w.heap.size≤gb536) (sqS hg:w.heap.size≤gb536);clear HB;obtain ⟨HB,BK536,GW536,GE536⟩:=q_;clear hb hbox hg)|((with_reducible refine zk (N:=3) rfl ?_);refine zo ?hg (N:=3) ?hd (cs:=#[.int .i64 a1_0,.int .i64 a1_1,.int .i64 a1_2,.slice A1_3 l1_3.length c1_3]) (t:=28) ?hr ?_;(case hd=>rfl);(case hg=>rfl);(case hr=>exact sqG);intro gb537 hg w24 hbox hb;have q_:=f7 (sqh BK536 hb) (za sqB hb) hbox (sqS hg:w.heap.size≤gb537) (sqS hg:w.heap.size≤gb537) (sqn BK536 hg) (sqm BK536 hg);clear BK536 HB;obtain ⟨BK536,HB,BK537,GW537,GE537,NB536_537,NB537_536⟩:=q_;clear hb hbox hg;have hnb25:=NB536_537.out;have hnc25:=NB537_536.out;obtain ⟨_,_,_,_,_,_,_,_⟩:=z4 BK536.out;obtain ⟨_,_,_,_,_,_,_,_⟩:=z4 BK537.out)));go_ret;exact ⟨sqE,sqB⟩));(·rw [if_neg c3] at H;have c3b0:(a0_0==a1_0)=false:=beq_eq_false_iff_ne.mpr c3;have c3b1:(a0_0 != a1_0)=true:=bne_iff_ne.mpr c3;obtain rfl:=Option.some.inj H;go_enter Tryz.func9,Tryz.ntmps9;(go_wp2_with (first|((with_reducible refine zk (N:=2) rfl ?_);refine zo ?hg (N:=2) ?hd (cs:=#[.int .i64 a0_0,.int .i64 a0_1,.int .i64 a0_2,.slice A0_3 l0_3.length c0_3]) (t:=28) ?hr ?_;(case hd=>rfl);(case hg=>rfl);(case hr=>exact sqG);intro gb536 hg w28 hbox hb;have q_:=f4 (za sqB hb) hbox (sqS hg:w.heap.size≤gb536) (sqS hg:w.heap.size≤gb536);clear HB;obtain ⟨HB,BK536,GW536,GE536⟩:=q_;clear hb hbox hg)|((with_reducible refine zk (N:=3) rfl ?_);refine zo ?hg (N:=3) ?hd (cs:=#[.int .i64 a1_0,.int .i64 a1_1,.int .i64 a1_2,.slice A1_3 l1_3.length c1_3]) (t:=28) ?hr ?_;(case hd=>rfl);(case hg=>rfl);(case hr=>exact sqG);intro gb537 hg w29 hbox hb;have q_:=f7 (sqh BK536 hb) (za sqB hb) hbox (sqS hg:w.heap.size≤gb537) (sqS hg:w.heap.size≤gb537) (sqn BK536 hg) (sqm BK536 hg);clear BK536 HB;obtain ⟨BK536,HB,BK537,GW537,GE537,NB536_537,NB537_536⟩:=q_;clear hb hbox hg;have hnb30:=NB536_537.out;have hnc30:=NB537_536.out;obtain ⟨_,_,_,_,_,_,_,_⟩:=z4 BK536.out;obtain ⟨_,_,_,_,_,_,_,_⟩:=z4 BK537.out)));go_ret;exact ⟨sqE,sqB⟩)

def qB.l0:Nat→List Int→Int→Int→Option (Int×List Int)
 |0,_,_,_=>none
 |k+1,x0,x1,x5=>if x5< (x0.length:Int) then (if 0≤x5 then (qB.l0 k (x0.set (x5:Int).toNat x1) (wrap64 (x1+1)) (wrap64 (x5+1))) else (none)) else (some (x1,x0))
def qB.f (k:Nat)(l0:List Int)(a1:Int):Option (Int×List Int):=qB.l0 k l0 a1 0
theorem qB.calls (k:Nat)(P0_:Nat→Prop)(u9000_:Value)(l0:List Int)(a1:Int)(r1:Int)(r2:List Int)(w0 w:World)(hB:Below w0.heap.size w0 w)(ho0:Kd.R (Kd.int .i64) 3 w w0.heap.size P0_ u9000_ l0)(h:qB.f k l0 a1=some (r1,r2)):Calls Tryz.prog 11 #[u9000_,.int .i64 a1] w fun e w'=>e= .returned (.int .i64 r1)∧Kd.R (Kd.int .i64) 3 w' w0.heap.size (fun k_=>(P0_ k_∨w.heap.size≤k_)) u9000_ r2∧Below w0.heap.size w0 w'∧Kept w w' (fun k_=>P0_ k_):=by have HO0:=Aside0.mk (show Kd.R (Kd.int .i64) 3 w w0.heap.size (fun k_=>(P0_ k_∨w.heap.size≤k_)) u9000_ l0 from Kd.zp ho0 (fun k_ hk=>(.inl hk)));have HK:=Aside0.mk (Kept.refl w (fun k_=>P0_ k_));have HW0:=Aside0.mk hB.size;have HB:=Aside0.mk hB;clear hB;have H:=h;unfold qB.f at H;clear h;have H':=Aside0.mk H;clear H;go_enter Tryz.func11,Tryz.ntmps11;go_wp2;(go_loopg [1,5] k (fun kq v1 v5 w'=> ∃(x0_1:List Int) (x1_1:Int) (x5_1:Int),v1= .int .i64 x1_1∧v5= .int .i64 x5_1∧Aside0 (qB.l0 kq x0_1 x1_1 x5_1=some (r1,r2))∧Aside0 (kq≤k)∧Aside0 (Kd.R (Kd.int .i64) 3 w' w0.heap.size (fun k_=>(P0_ k_∨w.heap.size≤k_)) u9000_ x0_1)∧Aside0 (Kept w w' (fun k_=>P0_ k_))∧Aside0 (Below w0.heap.size w0 w')));(case atStart=>exact ⟨(l0),(a1),(0),(sqD),(sqD),H',⟨Nat.le_refl _⟩,⟨sqR HO0.out⟩,⟨by repeat (first|(with_reducible first|exact HK.out|apply Kept.alloc|apply Kept.drewN|apply Kept.drew)|exact HK.out)⟩,⟨sqB⟩⟩);(case round=>clear H';obtain ⟨x0_1,x1_1,x5_1,rfl,rfl,HA,HK1,HO_0,HK,HB⟩:=hrel;(cases gk with|zero=>exact absurd HA.out (by simp [qB.l0])|succ k1=>have H:=HA.out;clear HA;simp only [qB.l0] at H;by_cases c3:x5_1< (x0_1.length:Int);(·rw [if_pos c3] at H;have c3b0:decide (x5_1< (x0_1.length:Int))=true:=decide_eq_true c3;clear c3;by_cases c4:0≤x5_1;(·rw [if_pos c4] at H;have c4b0:decide (0≤x5_1)=true:=decide_eq_true c4;clear c4;obtain ⟨y539,hy539⟩: ∃y_:List Int,y_=(x0_1.set (x5_1:Int).toNat x1_1):=⟨_,rfl⟩;(replace H:(qB.l0 k1 y539 (wrap64 (x1_1+1)) (wrap64 (x5_1+1)))=some (r1,r2):=by first|(rw [hy539];with_reducible exact H)|(have H2_:=(Option.bind_some _ _).symm.trans H;rw [hy539];with_reducible exact H2_)|(have H2_:=(Option.bind_some _ _).symm.trans H;with_reducible exact H2_)|with_reducible exact H|(rw [hy539];exact H)|exact H);have Ny539:=Aside0.mk hy539;clear hy539;have H':=Aside0.mk H;clear H;obtain ⟨Ao6,co6,eo6⟩:=Kd.zP HO_0.out;subst eo6;have p5:0≤(x5_1:Int):=of_decide_eq_true sqA;have q5:(x5_1:Int)< ((x0_1.length:Int):Int):=of_decide_eq_true sqA;obtain ⟨go5,co5,eo5,gb5,gl5,cl5,HG5⟩:=Kd.yI HO_0.out (by omega);(first|cases eo5|(injection eo5 with ea_ en_ ec_;(first|subst ea_|(injection ea_ with ea_;subst ea_));subst ec_;clear en_));(try simp only [add_plain] at*);have GB5:=Aside0.mk gb5;have GG5:=Aside0.mk HG5;clear gb5 gl5 HG5;have HMgo5:=Aside0.mk (show (P0_ go5∨w.heap.size≤go5) from (HO_0.out.1 _ rfl));obtain ⟨hx5_0,hf5_0⟩:=Kd.jQ 0 HO_0.out (x5_1:Int) p5 q5;replace p5:=eq_true p5;replace q5:=eq_true q5;have HP7:=Kd.Z2 HO_0.out (x5_1:Int) x1_1;(go_wp2_with (first|((with_reducible refine jw (t:=3) (p:=15) rfl ?_);refine jh (t:=3) (p:=15) (v:= ?vo_w8) (w1:=(wr.setCell ⟨go5,(x5_1:Int).toNat,none⟩ (.int .i64 x1_1))) ?hg ?ho ?hn ?hr ?_;(case ho=>rfl);(case hg=>rfl);(case hn=>rfl);(case hr=>exact sqG);intro w8 hw;have hg:wr.grownBy w8 (some go5):=(by rw [hw];exact HP7.2);have hp_:Kd.R (Kd.int .i64) 3 w8 w0.heap.size (fun k_=>(P0_ k_∨w.heap.size≤k_)) (.slice (some ⟨go5,0,none⟩) x0_1.length co6) y539:=(by rw [hw,Ny539.out];exact HP7.1);clear HP7;have q_:=f3 hp_ (by rw [hw];exact zQ (HB.out) GB5.out:Below w0.heap.size w0 w8) (Kept.Vt (S:=(fun k_=>P0_ k_)) hg (by repeat (first|(with_reducible first|exact HK.out|apply Kept.alloc|apply Kept.drewN|apply Kept.drew)|exact HK.out)) (fun k_ e_=>(HO_0.out.1 k_ e_)));clear HO_0 HB HK;obtain ⟨HO_0,HB,HK⟩:=q_;clear hg hw hp_)));(go_roundg k1);(case measure=>have:=HK1.out;omega);(case rel=>exact ⟨(y539),(wrap64 (x1_1+1)),(wrap64 (x5_1+1)),(sqD),(sqD),H',⟨by have:=HK1.out;omega⟩,⟨sqR HO_0.out⟩,⟨by repeat (first|(with_reducible first|exact HK.out|apply Kept.alloc|apply Kept.drewN|apply Kept.drew)|exact HK.out)⟩,⟨sqB⟩⟩));(·rw [if_neg c4] at H;exact absurd H (by simp)));(·rw [if_neg c3] at H;have c3b0:decide (x5_1< (x0_1.length:Int))=false:=decide_eq_false c3;clear c3;simp only [Option.some.injEq,Prod.mk.injEq] at H;obtain ⟨rfl,rfl⟩:=H;obtain ⟨Ao9,co9,eo9⟩:=Kd.zP HO_0.out;subst eo9;go_wp2;go_ret;exact ⟨sqE,sqR HO_0.out,sqB,by repeat (first|(with_reducible first|exact HK.out|apply Kept.alloc|apply Kept.drewN|apply Kept.drew)|exact HK.out)⟩)))

def j5.f (k:Nat)(a0_0:Int)(a0_1:Int)(a0_2:Int)(l0_3:List Int)(a1:Int):Option (Int×List Int):=(qB.f k l0_3 a1).bind fun bt541=>(some (bt541.1,bt541.2))
theorem j5.calls (k:Nat)(a0_0:Int)(a0_1:Int)(a0_2:Int)(P0_3_:Nat→Prop)(u9000_:Value)(l0_3:List Int)(a1:Int)(r1:Int)(r2:List Int)(w0 w:World)(hB:Below w0.heap.size w0 w)(ho0_3:Kd.R (Kd.int .i64) 3 w w0.heap.size P0_3_ u9000_ l0_3)(h:j5.f k a0_0 a0_1 a0_2 l0_3 a1=some (r1,r2)):Calls Tryz.prog 10 #[.agg #[.int .i64 a0_0,.int .i64 a0_1,.int .i64 a0_2,u9000_],.int .i64 a1] w fun e w'=>e= .returned (.int .i64 r1)∧Kd.R (Kd.int .i64) 3 w' w0.heap.size (fun k_=>(P0_3_ k_∨w.heap.size≤k_)) u9000_ r2∧Below w0.heap.size w0 w'∧Kept w w' (fun k_=>P0_3_ k_):=by have hu28:=Tryz.underlying28;have HO0_3:=Aside0.mk (show Kd.R (Kd.int .i64) 3 w w0.heap.size (fun k_=>(P0_3_ k_∨w.heap.size≤k_)) u9000_ l0_3 from Kd.zp ho0_3 (fun k_ hk=>(.inl hk)));have HK:=Aside0.mk (Kept.refl w (fun k_=>P0_3_ k_));have HW0:=Aside0.mk hB.size;have HB:=Aside0.mk hB;clear hB;have H:=h;unfold j5.f at H;clear h;replace H:=zU H;obtain ⟨⟨t541,t542⟩,A3,H⟩:=H;(try dsimp only at H);simp only [Option.some.injEq,Prod.mk.injEq] at H;obtain ⟨rfl,rfl⟩:=H;obtain ⟨Ao4,co4,eo4⟩:=Kd.zP HO0_3.out;subst eo4;go_enter Tryz.func10,Tryz.ntmps10;(go_wp2_with (first|((with_reducible refine zk (N:=2) rfl ?_);refine zo ?hg (N:=2) ?hd (cs:=#[.int .i64 a0_0,.int .i64 a0_1,.int .i64 a0_2,.slice Ao4 l0_3.length co4]) (t:=28) ?hr ?_;(case hd=>rfl);(case hg=>rfl);(case hr=>exact sqG);intro gb540 hg w5 hbox hb;have q_:=f6 (sqb HO0_3 hb) (Kept.below (S:=(fun k_=>P0_3_ k_)) (by repeat (first|(with_reducible first|exact HK.out|apply Kept.alloc|apply Kept.drewN|apply Kept.drew)|exact HK.out)) hb) (za sqB hb) hbox (by rw [hg];exact (by first|exact HK.out.1|exact (show Kept w _ (fun k_=>P0_3_ k_) from by repeat (first|(with_reducible first|exact HK.out|apply Kept.alloc|apply Kept.drewN|apply Kept.drew)|exact HK.out)).1):w.heap.size≤gb540) (sqS hg:w0.heap.size≤gb540);clear HO0_3 HK HB;obtain ⟨HO0_3,HK,HB,BK540,GW540,GE540⟩:=q_;clear hb hbox hg;obtain ⟨_,_,_,_,_,_,_,_⟩:=z4 BK540.out)|((with_reducible refine zc (f:=11) rfl ?_);refine zt (some 8) rfl rfl Tryz.func11 (by kernel_rfl) rfl #[.slice Ao4 l0_3.length co4,.int .i64 a1] rfl sqM ?_;(with_reducible refine (qB.calls k (fun k_=>some k_=(.slice Ao4 l0_3.length co4:Value).ownBlock) (.slice Ao4 l0_3.length co4) l0_3 a1 t541 t542 w0 _ ?side1 ?side2 A3.out).mono ?_);(case side1=>repeat (first|(with_reducible first|exact HB.out|apply qw|apply zL|apply zD|refine zQ ?_ GE540.out)|exact HB.out));(case side2=>exact Kd.Zq rfl HO0_3.out);rintro e w7 ⟨rfl,hy0,hb,hkp⟩;refine ⟨_,rfl,?_⟩;have q_:=f4 (Kd.Vs rfl hy0 (fun k_ e_=>HO0_3.out.1 k_ e_)) (yf (sqK BK540.out) hkp (fun hs_=>(fun e_=>(Kd.jB HO0_3.out BK540.out (by decide)) e_) hs_)) (Kept.zby (S:=(fun k_=>P0_3_ k_)) (by repeat (first|(with_reducible first|exact HK.out|apply Kept.alloc|apply Kept.drewN|apply Kept.drew|refine Kept.setCell ?_ (.inr GW540.out) _)|exact HK.out)) hkp (fun k_ hs_=>(fun e_=>(HO0_3.out.1 k_ e_.symm)) hs_)) hb;clear HO0_3 BK540 HK HB;obtain ⟨HO0_3,BK540,HK,HB⟩:=q_)));go_ret;exact ⟨sqE,sqR HO0_3.out,sqB,by repeat (first|(with_reducible first|exact HK.out|apply Kept.alloc|apply Kept.drewN|apply Kept.drew|refine Kept.setCell ?_ (.inr GW540.out) _)|exact HK.out)⟩

def qI.l0:Nat→List Int→Int→Int→Option (Int)
 |0,_,_,_=>none
 |k+1,x0,x1,x5=>if x5< (x0.length:Int) then (if 0≤x5 then (if (rd x0 x5)=x1 then (qI.l0 k x0 (wrap64 (x1+1)) (wrap64 (x5+1))) else (some (-1))) else (none)) else (some x1)
def qI.f (k:Nat)(l0:List Int)(a1:Int):Option (Int):=qI.l0 k l0 a1 0
theorem qI.calls (k:Nat)(A0:Option Addr)(c0:Nat)(l0:List Int)(a1:Int)(r:Int)(w:World)(hr0:Kd.C (Kd.int .i64) w A0 l0.length l0)(hc0:l0.length≤c0)(h:qI.f k l0 a1=some r):Calls Tryz.prog 12 #[.slice A0 l0.length c0,.int .i64 a1] w fun e w'=>e= .returned (.int .i64 r)∧ze w w':=by have HR0:=Aside0.mk hr0;have HC0:=Aside0.mk hc0;clear hr0 hc0;have H:=h;unfold qI.f at H;clear h;have H':=Aside0.mk H;clear H;go_enter Tryz.func12,Tryz.ntmps12;go_wp2;(go_loopg [1,5] k (fun kq v1 v5 w'=> ∃(x1_1:Int) (x5_1:Int),v1= .int .i64 x1_1∧v5= .int .i64 x5_1∧Aside0 (qI.l0 kq l0 x1_1 x5_1=some r)∧Aside0 (kq≤k)∧ze w w'));(case atStart=>exact ⟨(a1),(0),(sqD),(sqD),H',⟨Nat.le_refl _⟩,by repeat (first|exact ze.refl _|apply ze.step)⟩);(case round=>clear H';obtain ⟨x1_1,x5_1,rfl,rfl,HA,HK1,⟨m1,rfl⟩⟩:=hrel;(cases gk with|zero=>exact absurd HA.out (by simp [qI.l0])|succ k1=>have H:=HA.out;clear HA;simp only [qI.l0] at H;by_cases c3:x5_1< (l0.length:Int);(·rw [if_pos c3] at H;have c3b0:decide (x5_1< (l0.length:Int))=true:=decide_eq_true c3;clear c3;by_cases c4:0≤x5_1;(·rw [if_pos c4] at H;have c4b0:decide (0≤x5_1)=true:=decide_eq_true c4;clear c4;by_cases c5:(rd l0 x5_1)=x1_1;(·rw [if_pos c5] at H;have c5b0:((rd l0 x5_1)==x1_1)=true:=beq_iff_eq.mpr c5;have c5b1:((rd l0 x5_1) != x1_1)=false:=bne_eq_false_iff_eq.mpr c5;clear c5;have H':=Aside0.mk H;clear H;have p543:0≤(x5_1:Int):=of_decide_eq_true sqA;have q543:x5_1< (l0.length:Int):=of_decide_eq_true sqA;obtain ⟨ad543,e543,hx543_0⟩:=Kd.zM HR0.out x5_1 p543 q543;cases e543;replace p543:=eq_true p543;replace q543:=eq_true q543;go_wp2;(go_roundg k1);(case measure=>have:=HK1.out;omega);(case rel=>exact ⟨(wrap64 (x1_1+1)),(wrap64 (x5_1+1)),(sqD),(sqD),H',⟨by have:=HK1.out;omega⟩,by repeat (first|exact ze.refl _|apply ze.step)⟩));(·rw [if_neg c5] at H;have c5b0:((rd l0 x5_1)==x1_1)=false:=beq_eq_false_iff_ne.mpr c5;have c5b1:((rd l0 x5_1) != x1_1)=true:=bne_iff_ne.mpr c5;obtain rfl:=Option.some.inj H;have p543:0≤(x5_1:Int):=of_decide_eq_true sqA;have q543:x5_1< (l0.length:Int):=of_decide_eq_true sqA;obtain ⟨ad543,e543,hx543_0⟩:=Kd.zM HR0.out x5_1 p543 q543;cases e543;replace p543:=eq_true p543;replace q543:=eq_true q543;go_wp2;go_ret;exact ⟨sqD,by repeat (first|exact ze.refl _|apply ze.step)⟩));(·rw [if_neg c4] at H;exact absurd H (by simp)));(·rw [if_neg c3] at H;have c3b0:decide (x5_1< (l0.length:Int))=false:=decide_eq_false c3;clear c3;obtain rfl:=Option.some.inj H;go_wp2;go_ret;exact ⟨sqD,by repeat (first|exact ze.refl _|apply ze.step)⟩)))

end Go.Proofs.YtjlbfbpjcmjdfaaGreat.F
end
section
namespace Go.Proofs.YtjlbfbpjcmjdfaaGreat.F
open Go.RowKit Go.Proofs.YtjlbfbpjcmjdfaaGreatW.PrintWords Go.Proofs.YtjlbfbpjcmjdfaaGreatW.PrintLast Go.Proofs.YtjlbfbpjcmjdfaaGreatW.PrintMore
/-- What stays as1 it is while the loops run: the two variables in memory, the list, and all that lay. -/
structure FFS (w0 w':World)(gm gr:Nat)(n:Int)(A:Option Addr)(c:Nat)(l:List Int):Prop where
  m:w'.heap[gm]? =some (.cells #[.int .i64 n,.slice A l.length c] 38 (0,0))
  r:w'.heap[gr]? =some (.cells #[.int .i64 0,.int .i64 0,.int .i64 0] 63 (0,0))
  C:Kd.C (Kd.int .i64) w' A l.length l
  B:Below w0.heap.size w0 w'
theorem FFS.below {w0 w1 w2:World}{gm gr:Nat}{n:Int}{A:Option Addr}{c:Nat}{l:List Int}(h:FFS w0 w1 gm gr n A c l)(k:Below w1.heap.size w1 w2):FFS w0 w2 gm gr n A c l:=
  ⟨qj h.m k,qj h.r k,Kd.zC h.C k,za h.B k⟩
/-- A new variable in memory, and the value put into it. -/
theorem ZV {w w1:World}{g:Nat}{t:TypeId}{u v:Value}(hg:g=w.heap.size)(hbox:w1.heap[g]? =some (.cells #[u] t (0,0)))(hb:Below w.heap.size w w1):
    (w1.setCell ⟨g,0,none⟩ v).heap[g]? =some (.cells #[v] t (0,0))∧Below w.heap.size w (w1.setCell ⟨g,0,none⟩ v):=
  ⟨(zbr hbox 0 v).trans rfl,zQ hb (by rw [hg];exact Nat.le_refl _)⟩
end Go.Proofs.YtjlbfbpjcmjdfaaGreat.F
end
section
namespace Go.Proofs.YtjlbfbpjcmjdfaaGreat.F
open Go.RowKit Go.Proofs.YtjlbfbpjcmjdfaaGreatW.PrintWords Go.Proofs.YtjlbfbpjcmjdfaaGreatW.PrintLast Go.Proofs.YtjlbfbpjcmjdfaaGreatW.PrintMore
set_option linter.unusedSimpArgs false
set_option linter.unusedVariables false
mutual
def zr.l0:Nat→Int→List Int→Int→Option (Int×Int×Int×Bool)
  |0,_,_,_=>none
  |k+1,n,l,x4=>if x4< (l.length:Int) then (if 0≤x4 then zr.l1 k n l x4 0 else none) else some (0,0,0,false)
def zr.l1:Nat→Int→List Int→Int→Int→Option (Int×Int×Int×Bool)
  |0,_,_,_,_=>none
  |k+1,n,l,x4,x5=>if x5< (l.length:Int) then (if 0≤x5 then zr.l2 k n l x4 x5 0 else none) else zr.l0 k n l (wrap64 (x4+1))
def zr.l2:Nat→Int→List Int→Int→Int→Int→Option (Int×Int×Int×Bool)
  |0,_,_,_,_,_=>none
  |k+1,n,l,x4,x5,x6=>
    if x6<n then
      ((qe.f (rd l x4) x6).bind fun t1=>if t1=true then
        ((qe.f (rd l x5) x6).bind fun t2=>if t2=true then zr.l2 k n l x4 x5 (wrap64 (x6+1))
          else ((z1.f k n l (rd l x4) (rd l x5) x6).bind fun t3=>if t3=true then zr.l2 k n l x4 x5 (wrap64 (x6+1)) else some (rd l x4,rd l x5,x6,true)))
        else zr.l2 k n l x4 x5 (wrap64 (x6+1)))
    else zr.l1 k n l x4 (wrap64 (x5+1))
end
def zr.f (k:Nat)(a0_0:Int)(l0_1:List Int):Option (Int×Int×Int×Bool):=
  (ql.f k a0_0 l0_1).bind fun t=>if t=true then zr.l0 k a0_0 l0_1 0 else some (0,0,0,false)
theorem zr.calls (k:Nat)(a0_0:Int)(A0_1:Option Addr)(c0_1:Nat)(l0_1:List Int)(r1:Int)(r2:Int)(r3:Int)(r4:Bool)(w:World)(hr0_1:Kd.C (Kd.int .i64) w A0_1 l0_1.length l0_1)(hc0_1:l0_1.length≤c0_1)(h:zr.f k a0_0 l0_1=some (r1,r2,r3,r4)):
    Calls Tryz.prog 55 #[.agg #[.int .i64 a0_0,.slice A0_1 l0_1.length c0_1]] w fun e w'=>e= .returned (.tuple #[.agg #[.int .i64 r1,.int .i64 r2,.int .i64 r3],.bool r4])∧Below w.heap.size w w':=by
  have hum:=Tryz.underlying38
  have huf:=Tryz.underlying63
  have HR:=Aside0.mk hr0_1
  have HC:=Aside0.mk hc0_1
  have HB:=Aside0.mk (Below.refl w.heap.size w)
  clear hr0_1 hc0_1
  unfold zr.f at h
  obtain ⟨t0,ht0,h⟩:=Option.bind_eq_some_iff.mp h
  have HT:=Aside0.mk ht0
  clear ht0
  have H:=Aside0.mk h
  clear h
  cases t0 with
  |false=>
    go_enter Tryz.func55,Tryz.ntmps55
    go_wp2_with (first
      |((with_reducible refine zk (N:=1) rfl ?_);refine zo ?hg (N:=1) ?hd (cs:=#[.int .i64 a0_0,.slice A0_1 l0_1.length c0_1]) (t:=38) ?hr ?_;(case hd=>rfl);(case hg=>rfl);(case hr=>exact sqG);intro gm hg w4 hbox hb;have HB1:=Aside0.mk hb;have BKm:=Aside0.mk hbox;have HG1:=Aside0.mk hg;clear hb hbox hg)
      |((with_reducible refine zk (N:=2) rfl ?_);refine zo ?hg (N:=2) ?hd (cs:=#[.int .i64 0,.int .i64 0,.int .i64 0]) (t:=63) ?hr ?_;(case hd=>rfl);(case hg=>rfl);(case hr=>exact sqG);intro gr hg w5 hbox hb;have HG2:=Aside0.mk hg;have HGr:=Aside0.mk (show w.heap.size≤gr from by rw [hg];exact HB1.out.size);have HNE:=Aside0.mk (show gm≠gr from by rw [hg];exact Nat.ne_of_lt (Zj BKm.out));have HS:=Aside0.mk (FFS.mk (n:=a0_0) (A:=A0_1) (c:=c0_1) (l:=l0_1) (gm:=gm) (gr:=gr) (w0:=w) (qj BKm.out hb) hbox (Kd.zC HR.out (za HB1.out hb)) (za HB1.out hb));clear BKm HB1 hb hbox hg;have hcz0:w5.cell? ⟨gm,0,none⟩=some (.int .i64 a0_0):=(zb HS.out.m 0).trans rfl;have hcz1:w5.cell? ⟨gm,1,none⟩=some (.slice A0_1 l0_1.length c0_1):=(zb HS.out.m 1).trans rfl)
      |((with_reducible refine zc (f:=56) rfl ?_);refine zt (some 13) rfl rfl Tryz.func56 (by kernel_rfl) rfl #[.int .i64 a0_0,.slice A0_1 l0_1.length c0_1] rfl (by (try simp only [List.map_toArray,List.map_cons,List.map_nil]);first|done|rfl) ?_;(with_reducible refine (ql.calls k a0_0 _ _ l0_1 false _ HS.out.C HC.out HT.out).mono ?_);rintro e w' ⟨rfl,⟨nd,rfl⟩⟩;refine ⟨_,rfl,?_⟩;generalize hw6:w5.drewN nd=w6;have HS6:=Aside0.mk (HS.out.below (w2:=w6) (by rw [←hw6];exact zL (Below.refl _ _) nd));clear hw6 HS hcz0 hcz1;have HS:=HS6;clear HS6;have hne:=HNE.out;have hne2:=HNE.out.symm;have hcr0:w6.cell? ⟨gr,0,none⟩=some (.int .i64 0):=(zb HS.out.r 0).trans rfl;have hcr1:w6.cell? ⟨gr,1,none⟩=some (.int .i64 0):=(zb HS.out.r 1).trans rfl;have hcr2:w6.cell? ⟨gr,2,none⟩=some (.int .i64 0):=(zb HS.out.r 2).trans rfl;have hfr0:=zh HS.out.r 0;have hfr1:=zh HS.out.r 1;have hfr2:=zh HS.out.r 2))
    refine bodyPost_ret (vu rfl _ _ gr 63 #[.int .i64 0,.int .i64 0,.int .i64 0] (0,0) _ rfl (by refine zw (cs:=#[.int .i64 0,.int .i64 0,.int .i64 0]) ?_ 2 _ rfl;refine zw (cs:=#[.int .i64 0,.int .i64 0,.int .i64 0]) ?_ 1 _ rfl;refine zw (cs:=#[.int .i64 0,.int .i64 0,.int .i64 0]) ?_ 0 _ rfl;exact HS.out.r) Tryz.underlying63 rfl (by kernel_rfl)) rfl ?_
    have hh:=H.out
    simp only [Bool.false_eq_true,if_false,Option.some.injEq,Prod.mk.injEq] at hh
    obtain ⟨rfl,rfl,rfl,rfl⟩:=hh
    exact ⟨rfl,by repeat (first|exact HS.out.B|refine zQ ?_ HGr.out)⟩
  |true=>
    go_enter Tryz.func55,Tryz.ntmps55
    go_wp2_with (first
      |((with_reducible refine zk (N:=1) rfl ?_);refine zo ?hg (N:=1) ?hd (cs:=#[.int .i64 a0_0,.slice A0_1 l0_1.length c0_1]) (t:=38) ?hr ?_;(case hd=>rfl);(case hg=>rfl);(case hr=>exact sqG);intro gm hg w4 hbox hb;have HB1:=Aside0.mk hb;have BKm:=Aside0.mk hbox;have HG1:=Aside0.mk hg;clear hb hbox hg)
      |((with_reducible refine zk (N:=2) rfl ?_);refine zo ?hg (N:=2) ?hd (cs:=#[.int .i64 0,.int .i64 0,.int .i64 0]) (t:=63) ?hr ?_;(case hd=>rfl);(case hg=>rfl);(case hr=>exact sqG);intro gr hg w5 hbox hb;have HG2:=Aside0.mk hg;have HGr:=Aside0.mk (show w.heap.size≤gr from by rw [hg];exact HB1.out.size);have HNE:=Aside0.mk (show gm≠gr from by rw [hg];exact Nat.ne_of_lt (Zj BKm.out));have HS:=Aside0.mk (FFS.mk (n:=a0_0) (A:=A0_1) (c:=c0_1) (l:=l0_1) (gm:=gm) (gr:=gr) (w0:=w) (qj BKm.out hb) hbox (Kd.zC HR.out (za HB1.out hb)) (za HB1.out hb));clear BKm HB1 hb hbox hg;have hcz0:w5.cell? ⟨gm,0,none⟩=some (.int .i64 a0_0):=(zb HS.out.m 0).trans rfl;have hcz1:w5.cell? ⟨gm,1,none⟩=some (.slice A0_1 l0_1.length c0_1):=(zb HS.out.m 1).trans rfl)
      |((with_reducible refine zc (f:=56) rfl ?_);refine zt (some 13) rfl rfl Tryz.func56 (by kernel_rfl) rfl #[.int .i64 a0_0,.slice A0_1 l0_1.length c0_1] rfl (by (try simp only [List.map_toArray,List.map_cons,List.map_nil]);first|done|rfl) ?_;(with_reducible refine (ql.calls k a0_0 _ _ l0_1 true _ HS.out.C HC.out HT.out).mono ?_);rintro e w' ⟨rfl,⟨nd,rfl⟩⟩;refine ⟨_,rfl,?_⟩;generalize hw6:w5.drewN nd=w6;have HS6:=Aside0.mk (HS.out.below (w2:=w6) (by rw [←hw6];exact zL (Below.refl _ _) nd));clear hw6 HS hcz0 hcz1;have HS:=HS6;clear HS6;have hcz1:w6.cell? ⟨gm,1,none⟩=some (.slice A0_1 l0_1.length c0_1):=(zb HS.out.m 1).trans rfl))
    have H0:=Aside0.mk (show zr.l0 k a0_0 l0_1 0=some (r1,r2,r3,r4) by have hh:=H.out;simpa using hh)
    clear H hcz1
    go_loopg [4] k (fun kq v4 w'=> ∃(x4:Int),v4= .int .i64 x4∧Aside0 (zr.l0 kq a0_0 l0_1 x4=some (r1,r2,r3,r4))∧Aside0 (kq≤k)∧Aside0 (FFS w w' gm gr a0_0 A0_1 c0_1 l0_1))
    case atStart=>exact ⟨0,rfl,H0,⟨Nat.le_refl _⟩,HS⟩
    case round=>
      clear H0 HS HB HG1 HG2
      obtain ⟨x4,rfl,HA,HK1,HS⟩:=hrel
      cases gk with
      |zero=>exact absurd HA.out (by simp [zr.l0])
      |succ k1=>
        have H:=HA.out
        clear HA
        simp only [zr.l0] at H
        by_cases c1:x4< (l0_1.length:Int)
        · rw [if_pos c1] at H
          by_cases c2:0≤x4
          · rw [if_pos c2] at H
            have H1:=Aside0.mk H
            clear H
            obtain ⟨ad1,e1,hx1⟩:=Kd.zM HS.out.C x4 c2 c1
            cases e1
            clear hx1
            have c1b0:decide (x4< (l0_1.length:Int))=true:=decide_eq_true c1
            have C1:=Aside0.mk (eq_true c1)
            have C2:=Aside0.mk (eq_true c2)
            clear c1 c2
            have hcz1:wr.cell? ⟨gm,1,none⟩=some (.slice (some ad1) l0_1.length c0_1):=(zb HS.out.m 1).trans rfl
            go_wp2
            clear hcz1 c1b0
            go_loopg [5] k1 (fun kq v5 w'=> ∃(x5:Int),v5= .int .i64 x5∧Aside0 (zr.l1 kq a0_0 l0_1 x4 x5=some (r1,r2,r3,r4))∧Aside0 (kq≤k1)∧Aside0 (FFS w w' gm gr a0_0 (some ad1) c0_1 l0_1))
            case atStart=>exact ⟨0,rfl,H1,⟨Nat.le_refl _⟩,HS⟩
            case round=>
              clear H1 HS
              obtain ⟨x5,rfl,HA,HK2,HS⟩:=hrel
              cases gk with
              |zero=>exact absurd HA.out (by simp [zr.l1])
              |succ k2=>
                have H:=HA.out
                clear HA
                simp only [zr.l1] at H
                by_cases c3:x5< (l0_1.length:Int)
                · rw [if_pos c3] at H
                  by_cases c4:0≤x5
                  · rw [if_pos c4] at H
                    have H1:=Aside0.mk H
                    clear H
                    have c3b0:decide (x5< (l0_1.length:Int))=true:=decide_eq_true c3
                    have C3:=Aside0.mk (eq_true c3)
                    have C4:=Aside0.mk (eq_true c4)
                    clear c3 c4
                    have hcz1:wr.cell? ⟨gm,1,none⟩=some (.slice (some ad1) l0_1.length c0_1):=(zb HS.out.m 1).trans rfl
                    go_wp2
                    clear hcz1 c3b0
                    go_loopg [6] k2 (fun kq v6 w'=> ∃(x6:Int),v6= .int .i64 x6∧Aside0 (zr.l2 kq a0_0 l0_1 x4 x5 x6=some (r1,r2,r3,r4))∧Aside0 (kq≤k2)∧Aside0 (FFS w w' gm gr a0_0 (some ad1) c0_1 l0_1))
                    case atStart=>exact ⟨0,rfl,H1,⟨Nat.le_refl _⟩,HS⟩
                    case round=>
                      clear H1 HS
                      obtain ⟨x6,rfl,HA,HK3,HS⟩:=hrel
                      cases gk with
                      |zero=>exact absurd HA.out (by simp [zr.l2])
                      |succ k3=>
                        have H:=HA.out
                        clear HA
                        simp only [zr.l2] at H
                        by_cases c6:x6<a0_0
                        · rw [if_pos c6] at H
                          obtain ⟨t1,ht1,H⟩:=Option.bind_eq_some_iff.mp H
                          have A1:=Aside0.mk ht1
                          clear ht1
                          have c6b0:decide (x6<a0_0)=true:=decide_eq_true c6
                          replace c6:=eq_true c6
                          have hcz0:wr.cell? ⟨gm,0,none⟩=some (.int .i64 a0_0):=(zb HS.out.m 0).trans rfl
                          have hcz1:wr.cell? ⟨gm,1,none⟩=some (.slice (some ad1) l0_1.length c0_1):=(zb HS.out.m 1).trans rfl
                          obtain ⟨adx,ex,hx1⟩:=Kd.zM HS.out.C x4 (of_eq_true C2.out) (of_eq_true C1.out)
                          cases ex
                          obtain ⟨ady,ey,hx2⟩:=Kd.zM HS.out.C x5 (of_eq_true C4.out) (of_eq_true C3.out)
                          cases ey
                          have c1:=C1.out
                          have c2:=C2.out
                          have c3:=C3.out
                          have c4:=C4.out
                          have c1b0:decide (x4< (l0_1.length:Int))=true:=decide_eq_true (of_eq_true c1)
                          have c2b0:decide (0≤x4)=true:=decide_eq_true (of_eq_true c2)
                          have c3b0:decide (x5< (l0_1.length:Int))=true:=decide_eq_true (of_eq_true c3)
                          have c4b0:decide (0≤x5)=true:=decide_eq_true (of_eq_true c4)
                          cases t1 with
                          |false=>
                            have H1:=Aside0.mk (show zr.l2 k3 a0_0 l0_1 x4 x5 (wrap64 (x6+1))=some (r1,r2,r3,r4) by simpa using H)
                            clear H
                            go_wp2_with (go_at_call 38;(try simp only [zv,zG]);(with_reducible refine (qe.calls (rd l0_1 x4) x6 false _ A1.out).mono ?_);rintro e w' ⟨rfl,⟨nd1,rfl⟩⟩)
                            go_roundg k3
                            case measure=>have:=HK1.out;have:=HK2.out;have:=HK3.out;omega
                            case rel=>exact ⟨wrap64 (x6+1),rfl,H1,⟨by have:=HK3.out;omega⟩,⟨HS.out.below (by repeat (first|exact Below.refl _ _|apply zL|apply zD))⟩⟩
                          |true=>
                            have H':((qe.f (rd l0_1 x5) x6).bind fun t2=>if t2=true then zr.l2 k3 a0_0 l0_1 x4 x5 (wrap64 (x6+1)) else ((z1.f k3 a0_0 l0_1 (rd l0_1 x4) (rd l0_1 x5) x6).bind fun t3=>if t3=true then zr.l2 k3 a0_0 l0_1 x4 x5 (wrap64 (x6+1)) else some (rd l0_1 x4,rd l0_1 x5,x6,true)))=some (r1,r2,r3,r4):=by simpa using H
                            clear H
                            obtain ⟨t2,ht2,H⟩:=Option.bind_eq_some_iff.mp H'
                            have A2:=Aside0.mk ht2
                            clear ht2 H'
                            cases t2 with
                            |true=>
                              have H1:=Aside0.mk (show zr.l2 k3 a0_0 l0_1 x4 x5 (wrap64 (x6+1))=some (r1,r2,r3,r4) by simpa using H)
                              clear H
                              go_wp2_with (first|(go_at_call 38;(try simp only [zv,zG]);(with_reducible refine (qe.calls (rd l0_1 x4) x6 true _ A1.out).mono ?_);rintro e w' ⟨rfl,⟨nd1,rfl⟩⟩)|(go_at_call 38;(try simp only [zv,zG]);(with_reducible refine (qe.calls (rd l0_1 x5) x6 true _ A2.out).mono ?_);rintro e w' ⟨rfl,⟨nd2,rfl⟩⟩))
                              go_roundg k3
                              case measure=>have:=HK1.out;have:=HK2.out;have:=HK3.out;omega
                              case rel=>exact ⟨wrap64 (x6+1),rfl,H1,⟨by have:=HK3.out;omega⟩,⟨HS.out.below (by repeat (first|exact Below.refl _ _|apply zL|apply zD))⟩⟩
                            |false=>
                              have H':((z1.f k3 a0_0 l0_1 (rd l0_1 x4) (rd l0_1 x5) x6).bind fun t3=>if t3=true then zr.l2 k3 a0_0 l0_1 x4 x5 (wrap64 (x6+1)) else some (rd l0_1 x4,rd l0_1 x5,x6,true))=some (r1,r2,r3,r4):=by simpa using H
                              clear H
                              obtain ⟨t3,ht3,H⟩:=Option.bind_eq_some_iff.mp H'
                              have A3:=Aside0.mk ht3
                              clear ht3 H'
                              cases t3 with
                              |true=>
                                have H1:=Aside0.mk (show zr.l2 k3 a0_0 l0_1 x4 x5 (wrap64 (x6+1))=some (r1,r2,r3,r4) by simpa using H)
                                clear H
                                go_wp2_with (first|(go_at_call 38;(try simp only [zv,zG]);(with_reducible refine (qe.calls (rd l0_1 x4) x6 true _ A1.out).mono ?_);rintro e w' ⟨rfl,⟨nd1,rfl⟩⟩)|(go_at_call 38;(try simp only [zv,zG]);(with_reducible refine (qe.calls (rd l0_1 x5) x6 false _ A2.out).mono ?_);rintro e w' ⟨rfl,⟨nd2,rfl⟩⟩)|(go_at_call 78;(try simp only [zv,zG]);(with_reducible refine (z1.calls k3 a0_0 _ _ l0_1 (rd l0_1 x4) (rd l0_1 x5) x6 true _ ?side1 HC.out A3.out).mono ?_);(case side1=>repeat (first|exact HS.out.C|(with_reducible refine Kd.yd ?_ _)|(with_reducible refine Kd.yl ?_)));rintro e w9 ⟨rfl,hb⟩;have HS9:=Aside0.mk ((HS.out.below (QV (zL (Below.refl _ _) _) (zi (zL (Below.refl _ _) _)) (Below.refl _ _))).below hb);clear hb HS hx1 hx2 hcz0 hcz1;have HS:=HS9;clear HS9))
                                go_roundg k3
                                case measure=>have:=HK1.out;have:=HK2.out;have:=HK3.out;omega
                                case rel=>exact ⟨wrap64 (x6+1),rfl,H1,⟨by have:=HK3.out;omega⟩,HS⟩
                              |false=>
                                have hh:(rd l0_1 x4,rd l0_1 x5,x6,true)=(r1,r2,r3,r4):=by simpa using H
                                clear H
                                simp only [Prod.mk.injEq] at hh
                                obtain ⟨rfl,rfl,rfl,rfl⟩:=hh
                                have hne:=HNE.out
                                have hne2:=HNE.out.symm
                                go_wp2_with (first|(go_at_call 38;(try simp only [zv,zG]);(with_reducible refine (qe.calls (rd l0_1 x4) x6 true _ A1.out).mono ?_);rintro e w' ⟨rfl,⟨nd1,rfl⟩⟩)|(go_at_call 38;(try simp only [zv,zG]);(with_reducible refine (qe.calls (rd l0_1 x5) x6 false _ A2.out).mono ?_);rintro e w' ⟨rfl,⟨nd2,rfl⟩⟩)|(go_at_call 78;(try simp only [zv,zG]);(with_reducible refine (z1.calls k3 a0_0 _ _ l0_1 (rd l0_1 x4) (rd l0_1 x5) x6 false _ ?side1 HC.out A3.out).mono ?_);(case side1=>repeat (first|exact HS.out.C|(with_reducible refine Kd.yd ?_ _)|(with_reducible refine Kd.yl ?_)));rintro e w9 ⟨rfl,hb⟩;have HS9:=Aside0.mk ((HS.out.below (QV (zL (Below.refl _ _) _) (zi (zL (Below.refl _ _) _)) (Below.refl _ _))).below hb);clear hb HS hx1 hx2 hcz0 hcz1;have HS:=HS9;clear HS9;have hcr0:w9.cell? ⟨gr,0,none⟩=some (.int .i64 0):=(zb HS.out.r 0).trans rfl;have hcr1:w9.cell? ⟨gr,1,none⟩=some (.int .i64 0):=(zb HS.out.r 1).trans rfl;have hcr2:w9.cell? ⟨gr,2,none⟩=some (.int .i64 0):=(zb HS.out.r 2).trans rfl;have hfr0:=zh HS.out.r 0;have hfr1:=zh HS.out.r 1;have hfr2:=zh HS.out.r 2))
                                refine bodyPost_ret (vu rfl _ _ gr 63 #[.int .i64 (rd l0_1 x4),.int .i64 (rd l0_1 x5),.int .i64 x6] (0,0) _ rfl (by (with_reducible repeat (first|refine yE ?_ _|refine qb ?_));refine zw (cs:=#[.int .i64 (rd l0_1 x4),.int .i64 (rd l0_1 x5),.int .i64 0]) ?_ 2 _ rfl;refine zw (cs:=#[.int .i64 (rd l0_1 x4),.int .i64 0,.int .i64 0]) ?_ 1 _ rfl;refine zw (cs:=#[.int .i64 0,.int .i64 0,.int .i64 0]) ?_ 0 _ rfl;(with_reducible repeat (first|refine yE ?_ _|refine qb ?_));exact HS.out.r) Tryz.underlying63 rfl (by kernel_rfl)) rfl ?_
                                exact ⟨rfl,by repeat (first|exact HS.out.B|refine zQ ?_ HGr.out)⟩
                        · rw [if_neg c6] at H
                          have H1:=Aside0.mk H
                          clear H
                          have c6b0:decide (x6<a0_0)=false:=decide_eq_false c6
                          clear c6
                          have hcz0:wr.cell? ⟨gm,0,none⟩=some (.int .i64 a0_0):=(zb HS.out.m 0).trans rfl
                          go_wp2
                          go_roundg k3
                          case measure=>have:=HK1.out;have:=HK2.out;have:=HK3.out;omega
                          case rel=>exact ⟨wrap64 (x5+1),rfl,H1,⟨by have:=HK2.out;have:=HK3.out;omega⟩,HS⟩
                  · rw [if_neg c4] at H
                    exact absurd H (by simp)
                · rw [if_neg c3] at H
                  have H1:=Aside0.mk H
                  clear H
                  have c3b0:decide (x5< (l0_1.length:Int))=false:=decide_eq_false c3
                  clear c3
                  have hcz1:wr.cell? ⟨gm,1,none⟩=some (.slice (some ad1) l0_1.length c0_1):=(zb HS.out.m 1).trans rfl
                  go_wp2
                  go_roundg k2
                  case measure=>have:=HK1.out;have:=HK2.out;omega
                  case rel=>exact ⟨wrap64 (x4+1),rfl,H1,⟨by have:=HK1.out;have:=HK2.out;omega⟩,HS⟩
          · rw [if_neg c2] at H
            exact absurd H (by simp)
        · rw [if_neg c1] at H
          simp only [Option.some.injEq,Prod.mk.injEq] at H
          obtain ⟨rfl,rfl,rfl,rfl⟩:=H
          have c1b0:decide (x4< (l0_1.length:Int))=false:=decide_eq_false c1
          clear c1
          have hcz1:wr.cell? ⟨gm,1,none⟩=some (.slice A0_1 l0_1.length c0_1):=(zb HS.out.m 1).trans rfl
          have hne:=HNE.out
          have hne2:=HNE.out.symm
          have hcr0:wr.cell? ⟨gr,0,none⟩=some (.int .i64 0):=(zb HS.out.r 0).trans rfl
          have hcr1:wr.cell? ⟨gr,1,none⟩=some (.int .i64 0):=(zb HS.out.r 1).trans rfl
          have hcr2:wr.cell? ⟨gr,2,none⟩=some (.int .i64 0):=(zb HS.out.r 2).trans rfl
          have hfr0:=zh HS.out.r 0
          have hfr1:=zh HS.out.r 1
          have hfr2:=zh HS.out.r 2
          go_wp2
          refine bodyPost_ret (vu rfl _ _ gr 63 #[.int .i64 0,.int .i64 0,.int .i64 0] (0,0) _ rfl (by (with_reducible repeat (first|refine yE ?_ _|refine qb ?_));refine zw (cs:=#[.int .i64 0,.int .i64 0,.int .i64 0]) ?_ 2 _ rfl;refine zw (cs:=#[.int .i64 0,.int .i64 0,.int .i64 0]) ?_ 1 _ rfl;refine zw (cs:=#[.int .i64 0,.int .i64 0,.int .i64 0]) ?_ 0 _ rfl;(with_reducible repeat (first|refine yE ?_ _|refine qb ?_));exact HS.out.r) Tryz.underlying63 rfl (by kernel_rfl)) rfl ?_
          exact ⟨rfl,by repeat (first|exact HS.out.B|refine zQ ?_ HGr.out)⟩
end Go.Proofs.YtjlbfbpjcmjdfaaGreat.F
end
section
namespace Go.Proofs.YtjlbfbpjcmjdfaaGreat.F
open Go.RowKit Go.Proofs.YtjlbfbpjcmjdfaaGreatW.PrintWords Go.Proofs.YtjlbfbpjcmjdfaaGreatW.PrintLast Go.Proofs.YtjlbfbpjcmjdfaaGreatW.PrintMore
attribute [local go_sem] vq vr vT vY jN jO vt vv   -- for this text's walks alone
set_option linter.unusedVariables false
set_option linter.unusedSimpArgs false

def jV.f (k:Nat)(a0_0:Int)(l0_1:List Int):Option (Bool):=(zr.f k a0_0 l0_1).bind fun bt116=>((ql.f k a0_0 l0_1).bind fun t121=>(if t121=true then (if (l0_1.length:Int)>0 then (some (!bt116.2.2.2)) else (some false)) else (some false)))
theorem jV.calls (k:Nat)(a0_0:Int)(A0_1:Option Addr)(c0_1:Nat)(l0_1:List Int)(r:Bool)(w:World)(hr0_1:Kd.C (Kd.int .i64) w A0_1 l0_1.length l0_1)(hc0_1:l0_1.length≤c0_1)(h:jV.f k a0_0 l0_1=some r):Calls Tryz.prog 31 #[.agg #[.int .i64 a0_0,.slice A0_1 l0_1.length c0_1]] w fun e w'=>e= .returned (.bool r)∧Below w.heap.size w w':=by have hu38:=Tryz.underlying38;have hu63:=Tryz.underlying63;have HR0_1:=Aside0.mk hr0_1;have HC0_1:=Aside0.mk hc0_1;clear hr0_1 hc0_1;have HB:=Aside0.mk (Below.refl w.heap.size w);have H:=h;unfold jV.f at H;clear h;replace H:=zU H;obtain ⟨⟨t116,t117,t118,t119⟩,A2,H⟩:=H;(try dsimp only at H);replace H:=zU H;obtain ⟨t121,A3,H⟩:=H;by_cases c4:t121=true;(·subst c4;rw [if_pos rfl] at H;by_cases c5:(l0_1.length:Int)>0;(·rw [if_pos c5] at H;have c5b0:decide (0< (l0_1.length:Int))=true:=decide_eq_true c5;have c5b1:decide (0<l0_1.length)=true:=decide_eq_true (by omega);clear c5;obtain rfl:=Option.some.inj H;go_enter Tryz.func31,Tryz.ntmps31;(go_wp2_with (first|((with_reducible refine zk (N:=1) rfl ?_);(try (refine jm (by rfl) ?_;dsimp only));refine zo ?hg (N:=1) ?hd (cs:=#[.int .i64 a0_0,.slice A0_1 l0_1.length c0_1]) (t:=38) ?hr ?_;(case hd=>rfl);(case hg=>rfl);(case hr=>exact sqG);intro gb115 hg w6 hbox hb;have q_:=f4 (za sqB hb) hbox (sqS hg:w.heap.size≤gb115) (sqS hg:w.heap.size≤gb115);clear HB;obtain ⟨HB,BK115,GW115,GE115⟩:=q_;clear hb hbox hg;obtain ⟨_,_,_,_⟩:=z2 BK115.out)|((with_reducible refine zc (f:=55) rfl ?_);refine zt (some 7) rfl rfl Tryz.func55 (by kernel_rfl) rfl #[.agg #[.int .i64 a0_0,.slice A0_1 l0_1.length c0_1]] rfl sqM ?_;(with_reducible refine (zr.calls k a0_0 _ _ l0_1 t116 t117 t118 t119 _ ?side1 ?side2 A2.out).mono ?_);(case side1=>exact sqC (Kd.zC HR0_1.out HB.out));(case side2=>exact HC0_1.out);rintro e w8 ⟨rfl,hb⟩;refine ⟨_,rfl,?_⟩;have q_:=f2 (sqh BK115 hb) (za sqB hb);clear BK115 HB;obtain ⟨BK115,HB⟩:=q_)|((with_reducible refine zk (N:=3) rfl ?_);(try (refine jm (by rfl) ?_;dsimp only));refine zo ?hg (N:=3) ?hd (cs:=#[.int .i64 0,.int .i64 0,.int .i64 0]) (t:=63) ?hr ?_;(case hd=>rfl);(case hg=>rfl);(case hr=>exact sqG);intro gb120 hg w9 hbox hb;have q_:=f7 (sqh BK115 hb) (za sqB hb) hbox (sqS hg:w.heap.size≤gb120) (sqS hg:w.heap.size≤gb120) (sqn BK115 hg) (sqm BK115 hg);clear BK115 HB;obtain ⟨BK115,HB,BK120,GW120,GE120,NB115_120,NB120_115⟩:=q_;clear hb hbox hg;have hnb10:=NB120_115.out;have hnc10:=NB115_120.out;have hcz11_0:w9.cell? ⟨gb120,0,none⟩=some (.int .i64 0):=(zb BK120.out 0).trans rfl;have hcz11_1:w9.cell? ⟨gb120,1,none⟩=some (.int .i64 0):=(zb BK120.out 1).trans rfl;have hcz11_2:w9.cell? ⟨gb120,2,none⟩=some (.int .i64 0):=(zb BK120.out 2).trans rfl;have hfz11_0:=zh BK120.out 0;have hfz11_1:=zh BK120.out 1;have hfz11_2:=zh BK120.out 2;obtain ⟨_,_,_,_⟩:=z2 BK115.out)|((with_reducible refine zc (f:=56) rfl ?_);refine zt (some 14) rfl rfl Tryz.func56 (by kernel_rfl) rfl #[.int .i64 a0_0,.slice A0_1 l0_1.length c0_1] rfl sqM ?_;(with_reducible refine (ql.calls k a0_0 _ _ l0_1 true _ ?side1 ?side2 A3.out).mono ?_);(case side1=>exact Kd.zC HR0_1.out sqB);(case side2=>exact HC0_1.out);rintro e w' ⟨rfl,⟨nd,rfl⟩⟩;refine ⟨_,rfl,?_⟩)));go_ret;exact ⟨sqE,sqB⟩);(·rw [if_neg c5] at H;have c5b0:decide (0< (l0_1.length:Int))=false:=decide_eq_false c5;have c5b1:decide (0<l0_1.length)=false:=decide_eq_false (by omega);clear c5;obtain rfl:=Option.some.inj H;go_enter Tryz.func31,Tryz.ntmps31;(go_wp2_with (first|((with_reducible refine zk (N:=1) rfl ?_);(try (refine jm (by rfl) ?_;dsimp only));refine zo ?hg (N:=1) ?hd (cs:=#[.int .i64 a0_0,.slice A0_1 l0_1.length c0_1]) (t:=38) ?hr ?_;(case hd=>rfl);(case hg=>rfl);(case hr=>exact sqG);intro gb115 hg w13 hbox hb;have q_:=f4 (za sqB hb) hbox (sqS hg:w.heap.size≤gb115) (sqS hg:w.heap.size≤gb115);clear HB;obtain ⟨HB,BK115,GW115,GE115⟩:=q_;clear hb hbox hg;obtain ⟨_,_,_,_⟩:=z2 BK115.out)|((with_reducible refine zc (f:=55) rfl ?_);refine zt (some 7) rfl rfl Tryz.func55 (by kernel_rfl) rfl #[.agg #[.int .i64 a0_0,.slice A0_1 l0_1.length c0_1]] rfl sqM ?_;(with_reducible refine (zr.calls k a0_0 _ _ l0_1 t116 t117 t118 t119 _ ?side1 ?side2 A2.out).mono ?_);(case side1=>exact sqC (Kd.zC HR0_1.out HB.out));(case side2=>exact HC0_1.out);rintro e w15 ⟨rfl,hb⟩;refine ⟨_,rfl,?_⟩;have q_:=f2 (sqh BK115 hb) (za sqB hb);clear BK115 HB;obtain ⟨BK115,HB⟩:=q_)|((with_reducible refine zk (N:=3) rfl ?_);(try (refine jm (by rfl) ?_;dsimp only));refine zo ?hg (N:=3) ?hd (cs:=#[.int .i64 0,.int .i64 0,.int .i64 0]) (t:=63) ?hr ?_;(case hd=>rfl);(case hg=>rfl);(case hr=>exact sqG);intro gb120 hg w16 hbox hb;have q_:=f7 (sqh BK115 hb) (za sqB hb) hbox (sqS hg:w.heap.size≤gb120) (sqS hg:w.heap.size≤gb120) (sqn BK115 hg) (sqm BK115 hg);clear BK115 HB;obtain ⟨BK115,HB,BK120,GW120,GE120,NB115_120,NB120_115⟩:=q_;clear hb hbox hg;have hnb17:=NB120_115.out;have hnc17:=NB115_120.out;have hcz18_0:w16.cell? ⟨gb120,0,none⟩=some (.int .i64 0):=(zb BK120.out 0).trans rfl;have hcz18_1:w16.cell? ⟨gb120,1,none⟩=some (.int .i64 0):=(zb BK120.out 1).trans rfl;have hcz18_2:w16.cell? ⟨gb120,2,none⟩=some (.int .i64 0):=(zb BK120.out 2).trans rfl;have hfz18_0:=zh BK120.out 0;have hfz18_1:=zh BK120.out 1;have hfz18_2:=zh BK120.out 2;obtain ⟨_,_,_,_⟩:=z2 BK115.out)|((with_reducible refine zc (f:=56) rfl ?_);refine zt (some 14) rfl rfl Tryz.func56 (by kernel_rfl) rfl #[.int .i64 a0_0,.slice A0_1 l0_1.length c0_1] rfl sqM ?_;(with_reducible refine (ql.calls k a0_0 _ _ l0_1 true _ ?side1 ?side2 A3.out).mono ?_);(case side1=>exact Kd.zC HR0_1.out sqB);(case side2=>exact HC0_1.out);rintro e w' ⟨rfl,⟨nd,rfl⟩⟩;refine ⟨_,rfl,?_⟩)));go_ret;exact ⟨sqE,sqB⟩));(·replace c4:=Bool.eq_false_iff.mpr c4;subst c4;rw [if_neg (show ¬(false=true) by decide)] at H;obtain rfl:=Option.some.inj H;go_enter Tryz.func31,Tryz.ntmps31;(go_wp2_with (first|((with_reducible refine zk (N:=1) rfl ?_);(try (refine jm (by rfl) ?_;dsimp only));refine zo ?hg (N:=1) ?hd (cs:=#[.int .i64 a0_0,.slice A0_1 l0_1.length c0_1]) (t:=38) ?hr ?_;(case hd=>rfl);(case hg=>rfl);(case hr=>exact sqG);intro gb115 hg w20 hbox hb;have q_:=f4 (za sqB hb) hbox (sqS hg:w.heap.size≤gb115) (sqS hg:w.heap.size≤gb115);clear HB;obtain ⟨HB,BK115,GW115,GE115⟩:=q_;clear hb hbox hg;obtain ⟨_,_,_,_⟩:=z2 BK115.out)|((with_reducible refine zc (f:=55) rfl ?_);refine zt (some 7) rfl rfl Tryz.func55 (by kernel_rfl) rfl #[.agg #[.int .i64 a0_0,.slice A0_1 l0_1.length c0_1]] rfl sqM ?_;(with_reducible refine (zr.calls k a0_0 _ _ l0_1 t116 t117 t118 t119 _ ?side1 ?side2 A2.out).mono ?_);(case side1=>exact sqC (Kd.zC HR0_1.out HB.out));(case side2=>exact HC0_1.out);rintro e w22 ⟨rfl,hb⟩;refine ⟨_,rfl,?_⟩;have q_:=f2 (sqh BK115 hb) (za sqB hb);clear BK115 HB;obtain ⟨BK115,HB⟩:=q_)|((with_reducible refine zk (N:=3) rfl ?_);(try (refine jm (by rfl) ?_;dsimp only));refine zo ?hg (N:=3) ?hd (cs:=#[.int .i64 0,.int .i64 0,.int .i64 0]) (t:=63) ?hr ?_;(case hd=>rfl);(case hg=>rfl);(case hr=>exact sqG);intro gb120 hg w23 hbox hb;have q_:=f7 (sqh BK115 hb) (za sqB hb) hbox (sqS hg:w.heap.size≤gb120) (sqS hg:w.heap.size≤gb120) (sqn BK115 hg) (sqm BK115 hg);clear BK115 HB;obtain ⟨BK115,HB,BK120,GW120,GE120,NB115_120,NB120_115⟩:=q_;clear hb hbox hg;have hnb24:=NB120_115.out;have hnc24:=NB115_120.out;have hcz25_0:w23.cell? ⟨gb120,0,none⟩=some (.int .i64 0):=(zb BK120.out 0).trans rfl;have hcz25_1:w23.cell? ⟨gb120,1,none⟩=some (.int .i64 0):=(zb BK120.out 1).trans rfl;have hcz25_2:w23.cell? ⟨gb120,2,none⟩=some (.int .i64 0):=(zb BK120.out 2).trans rfl;have hfz25_0:=zh BK120.out 0;have hfz25_1:=zh BK120.out 1;have hfz25_2:=zh BK120.out 2;obtain ⟨_,_,_,_⟩:=z2 BK115.out)|((with_reducible refine zc (f:=56) rfl ?_);refine zt (some 14) rfl rfl Tryz.func56 (by kernel_rfl) rfl #[.int .i64 a0_0,.slice A0_1 l0_1.length c0_1] rfl sqM ?_;(with_reducible refine (ql.calls k a0_0 _ _ l0_1 false _ ?side1 ?side2 A3.out).mono ?_);(case side1=>exact Kd.zC HR0_1.out sqB);(case side2=>exact HC0_1.out);rintro e w' ⟨rfl,⟨nd,rfl⟩⟩;refine ⟨_,rfl,?_⟩)));go_ret;exact ⟨sqE,sqB⟩)

def vk.f (k:Nat)(a0_0:Int)(l0_1:List Int):Option (List Int):=(jV.f k a0_0 l0_1).bind fun t207=>(if t207=true then ((qn.f k a0_0 l0_1).bind fun t208=>(some t208)) else (some (([]:List Int))))
theorem vk.calls (k:Nat)(a0_0:Int)(A0_1:Option Addr)(c0_1:Nat)(l0_1:List Int)(r:List Int)(w:World)(hr0_1:Kd.C (Kd.int .i64) w A0_1 l0_1.length l0_1)(hc0_1:l0_1.length≤c0_1)(h:vk.f k a0_0 l0_1=some r):Calls Tryz.prog 15 #[.agg #[.int .i64 a0_0,.slice A0_1 l0_1.length c0_1]] w fun e w'=> ∃v0_:Value,e= .returned (v0_)∧Kd.R (Kd.int .i64) 3 w' w.heap.size (fun _=>True) v0_ r∧Below w.heap.size w w':=by have hu38:=Tryz.underlying38;have HR0_1:=Aside0.mk hr0_1;have HC0_1:=Aside0.mk hc0_1;clear hr0_1 hc0_1;have HB:=Aside0.mk (Below.refl w.heap.size w);have H:=h;unfold vk.f at H;clear h;replace H:=zU H;obtain ⟨t207,A2,H⟩:=H;by_cases c3:t207=true;(·subst c3;rw [if_pos rfl] at H;replace H:=zU H;obtain ⟨t208,A4,H⟩:=H;obtain rfl:=Option.some.inj H;go_enter Tryz.func15,Tryz.ntmps15;(go_wp2_with (first|((with_reducible refine zk (N:=1) rfl ?_);refine zo ?hg (N:=1) ?hd (cs:=#[.int .i64 a0_0,.slice A0_1 l0_1.length c0_1]) (t:=38) ?hr ?_;(case hd=>rfl);(case hg=>rfl);(case hr=>exact sqG);intro gb206 hg w5 hbox hb;have q_:=f4 (za sqB hb) hbox (sqS hg:w.heap.size≤gb206) (sqS hg:w.heap.size≤gb206);clear HB;obtain ⟨HB,BK206,GW206,GE206⟩:=q_;clear hb hbox hg;obtain ⟨_,_,_,_⟩:=z2 BK206.out)|((with_reducible refine zc (f:=31) rfl ?_);refine zt (some 4) rfl rfl Tryz.func31 (by kernel_rfl) rfl #[.agg #[.int .i64 a0_0,.slice A0_1 l0_1.length c0_1]] rfl sqM ?_;(with_reducible refine (jV.calls k a0_0 _ _ l0_1 true _ ?side1 ?side2 A2.out).mono ?_);(case side1=>exact sqC (Kd.zC HR0_1.out HB.out));(case side2=>exact HC0_1.out);rintro e w7 ⟨rfl,hb⟩;refine ⟨_,rfl,?_⟩;have q_:=f2 (sqh BK206 hb) (za sqB hb);clear BK206 HB;obtain ⟨BK206,HB⟩:=q_;obtain ⟨_,_,_,_⟩:=z2 BK206.out)|((with_reducible refine zc (f:=32) rfl ?_);refine zt (some 8) rfl rfl Tryz.func32 (by kernel_rfl) rfl #[.agg #[.int .i64 a0_0,.slice A0_1 l0_1.length c0_1]] rfl sqM ?_;(with_reducible refine (qn.calls k a0_0 _ _ l0_1 t208 _ ?side1 ?side2 A4.out).mono ?_);(case side1=>exact sqC (Kd.zC HR0_1.out HB.out));(case side2=>exact HC0_1.out);rintro e w9 ⟨v209,rfl,ho0,hb⟩;refine ⟨_,rfl,?_⟩;have q_:=f3 (Kd.zS ho0 (zi sqB)) (sqh BK206 hb) (za sqB hb);clear BK206 HB;obtain ⟨HO210,BK206,HB⟩:=q_)));go_ret;exact ⟨_,sqE,sqR HO210.out,sqB⟩);(·replace c3:=Bool.eq_false_iff.mpr c3;subst c3;rw [if_neg (show ¬(false=true) by decide)] at H;obtain ⟨y211,hy211⟩: ∃y_:List Int,y_=(([]:List Int)):=⟨_,rfl⟩;(replace H:(some y211)=some r:=by first|(rw [hy211];with_reducible exact H)|(have H2_:=(Option.bind_some _ _).symm.trans H;rw [hy211];with_reducible exact H2_)|(have H2_:=(Option.bind_some _ _).symm.trans H;with_reducible exact H2_)|with_reducible exact H|(rw [hy211];exact H)|exact H);have Ny211:=Aside0.mk hy211;clear hy211;obtain rfl:=Option.some.inj H;go_enter Tryz.func15,Tryz.ntmps15;(go_wp2_with (first|((with_reducible refine zk (N:=1) rfl ?_);refine zo ?hg (N:=1) ?hd (cs:=#[.int .i64 a0_0,.slice A0_1 l0_1.length c0_1]) (t:=38) ?hr ?_;(case hd=>rfl);(case hg=>rfl);(case hr=>exact sqG);intro gb206 hg w10 hbox hb;have q_:=f4 (za sqB hb) hbox (sqS hg:w.heap.size≤gb206) (sqS hg:w.heap.size≤gb206);clear HB;obtain ⟨HB,BK206,GW206,GE206⟩:=q_;clear hb hbox hg;obtain ⟨_,_,_,_⟩:=z2 BK206.out)|((with_reducible refine zc (f:=31) rfl ?_);refine zt (some 4) rfl rfl Tryz.func31 (by kernel_rfl) rfl #[.agg #[.int .i64 a0_0,.slice A0_1 l0_1.length c0_1]] rfl sqM ?_;(with_reducible refine (jV.calls k a0_0 _ _ l0_1 false _ ?side1 ?side2 A2.out).mono ?_);(case side1=>exact sqC (Kd.zC HR0_1.out HB.out));(case side2=>exact HC0_1.out);rintro e w12 ⟨rfl,hb⟩;refine ⟨_,rfl,?_⟩;have q_:=f2 (sqh BK206 hb) (za sqB hb);clear BK206 HB;obtain ⟨BK206,HB⟩:=q_)|((with_reducible refine zk (N:=6) rfl ?_);refine Kd.vF (Kd.int .i64) _ 3 ?hg (N:=6) ?hd (xs:=([]:List Int)) (inner:=[]) (ok:=fun _=>True) (okp:=fun _=>True) ?hr ?hp (fun _ hk=>hk) trivial (Below.refl _ _) (Nat.le_refl _) (by simp) ?_;(case hd=>rfl);(case hg=>rfl);(case hr=>exact sqG);(case hp=>exact (qR.none _ _));intro v212 w13 ho14 hb hg_ hnew_;clear hg_ hnew_;(first|rw [←Ny211.out] at ho14|(simp only [Int.reduceToNat] at ho14;rw [←Ny211.out] at ho14));have q_:=f3 (Kd.zS ho14 (zi sqB)) (sqh BK206 hb) (za sqB hb);clear BK206 HB;obtain ⟨HO213,BK206,HB⟩:=q_;clear hb ho14)));go_ret;exact ⟨_,sqE,sqR HO213.out,sqB⟩)

def zx.l0:Nat→Int→List Int→List Int→Int→Int→Int→Int→List Int→Int→Int→Int→List Int→Option (List Int×Bool)
 |0,_,_,_,_,_,_,_,_,_,_,_,_=>none
 |k+1,x8,x9,x10,x11,x354000,x354001,x354002,x354003,x379000,x379001,x379002,x379003=>if x11< (x9.length:Int) then (if 0≤x11 then (if x11< (x379003.length:Int) then (if x354000=0 then (none) else (if 0≤(rd x9 x11) then (if (rd x9 x11)< (x10.length:Int) then (zx.l0 k x8 x9 (x10.set ((rd x9 x11):Int).toNat (Int.tmod (wrap64 ((rd x379003 x11)*x8)) x354000)) (wrap64 (x11+1)) x354000 x354001 x354002 x354003 x379000 x379001 x379002 x379003) else (none)) else (none))) else (none)) else (none)) else (some (x10,true))
def zx.f (k:Nat)(a0_0:Int)(a0_1:Int)(a0_2:Int)(l0_3:List Int)(a1:Int):Option (List Int×Bool):=(jL.f k a0_0 a0_1 a0_2 l0_3).bind fun bt354=>((vk.f k bt354.1 bt354.2).bind fun t358=>((qp.f k t358 a1).bind fun t361=>(if t361=true then ((zu.f k a0_0 a0_1 a0_2 l0_3 a1).bind fun bt365=>((zA.f k bt365.1 bt365.2.1 bt365.2.2.1 bt365.2.2.2).bind fun bt371=>(if 0< (bt371.2.2.2.1.length:Int) then ((zE.f k a0_0 (rd bt371.2.2.2.1 0)).bind fun t380=>((qq.f k a1).bind fun t381=>(if 0≤a0_2 then (if (a0_2:Int).toNat≤35184372088832 then (zx.l0 k t380 t381 (List.replicate (a0_2:Int).toNat 0) 0 a0_0 a0_1 a0_2 l0_3 bt371.1 bt371.2.1 bt371.2.2.1 bt371.2.2.2.1) else (none)) else (none)))) else (none)))) else (some ((([]:List Int)),false)))))
def zx.T4:Bool×List (List Nat×List Nat):=(true,[([],[]),([0],[0]),([],[]),([2],[2]),([3],[3]),([4],[4]),([1,5],[1,5]),([6,6,0,1,2,3,4,5,6],[6])])
def zx.B4:List Nat:=[0,1,0,4,12,28,63,127]
theorem zx.tab4:vD .any (opsOf Tryz.f5 4)=zx.T4:=by kernel_rfl
theorem zx.zeU:jo zx.T4.2 zx.B4=true:=by kernel_rfl
def zx.T10:Bool×List (List Nat×List Nat):=(true,[([],[]),([],[]),([],[]),([1,2],[1,2]),([3],[3]),([],[]),([5],[5]),([],[]),([6,7],[6,7]),([8],[8]),([],[]),([9,10],[9,10]),([],[]),([12],[12]),([11,13],[11,13]),([0,4,0,1,2,3,4,5,6,7,8,9,10,11,12,13,14],[0,4]),([15,14,0,1,2,3,4,5,6,7,8,9,10,11,12,13,14],[14,15])])
def zx.B10:List Nat:=[0,0,0,6,14,0,32,0,224,480,0,2016,0,4096,16352,32767,65535]
theorem zx.zbQ:vD .any (opsOf Tryz.f5 10)=zx.T10:=by kernel_rfl
theorem zx.YL:jo zx.T10.2 zx.B10=true:=by kernel_rfl
theorem zx.calls (k:Nat)(a0_0:Int)(a0_1:Int)(a0_2:Int)(A0_3:Option Addr)(c0_3:Nat)(l0_3:List Int)(a1:Int)(r1:List Int)(r2:Bool)(w:World)(hr0_3:Kd.C (Kd.int .i64) w A0_3 l0_3.length l0_3)(hc0_3:l0_3.length≤c0_3)(h:zx.f k a0_0 a0_1 a0_2 l0_3 a1=some (r1,r2)):Calls Tryz.prog 5 #[.agg #[.int .i64 a0_0,.int .i64 a0_1,.int .i64 a0_2,.slice A0_3 l0_3.length c0_3],.int .i64 a1] w fun e w'=> ∃v0_:Value,e= .returned (.tuple #[v0_,.bool r2])∧Kd.R (Kd.int .i64) 3 w' w.heap.size (fun _=>True) v0_ r1∧Below w.heap.size w w':=by have hu28:=Tryz.underlying28;have HR0_3:=Aside0.mk hr0_3;have HC0_3:=Aside0.mk hc0_3;clear hr0_3 hc0_3;have HB:=Aside0.mk (Below.refl w.heap.size w);have H:=h;unfold zx.f at H;clear h;replace H:=zU H;obtain ⟨⟨t354,t355⟩,A3,H⟩:=H;(try dsimp only at H);replace H:=zU H;obtain ⟨t358,A4,H⟩:=H;replace H:=zU H;obtain ⟨t361,A5,H⟩:=H;by_cases c6:t361=true;(·subst c6;rw [if_pos rfl] at H;replace H:=zU H;obtain ⟨⟨t365,t366,t367,t368⟩,A7,H⟩:=H;(try dsimp only at H);replace H:=zU H;obtain ⟨⟨t371,t372,t373,t374,t377⟩,A8,H⟩:=H;(try dsimp only at H);by_cases c9:0< (t374.length:Int);(·rw [if_pos c9] at H;have c9b0:decide (0< (t374.length:Int))=true:=decide_eq_true c9;have c9b1:decide (0<t374.length)=true:=decide_eq_true (by omega);clear c9;replace H:=zU H;obtain ⟨t380,A10,H⟩:=H;replace H:=zU H;obtain ⟨t381,A11,H⟩:=H;by_cases c12:0≤a0_2;(·rw [if_pos c12] at H;have c12b0:=eq_true c12;have c12b1:decide (0≤a0_2)=true:=decide_eq_true c12;clear c12;by_cases c13:(a0_2:Int).toNat≤35184372088832;(·rw [if_pos c13] at H;have c13b0:=eq_true c13;have c13b1:decide ((a0_2:Int).toNat≤35184372088832)=true:=decide_eq_true c13;clear c13;obtain ⟨y384,hy384⟩: ∃y_:List Int,y_=(List.replicate (a0_2:Int).toNat 0):=⟨_,rfl⟩;(replace H:(zx.l0 k t380 t381 y384 0 a0_0 a0_1 a0_2 l0_3 t371 t372 t373 t374)=some (r1,r2):=by first|(rw [hy384];with_reducible exact H)|(have H2_:=(Option.bind_some _ _).symm.trans H;rw [hy384];with_reducible exact H2_)|(have H2_:=(Option.bind_some _ _).symm.trans H;with_reducible exact H2_)|with_reducible exact H|(rw [hy384];exact H)|exact H);have Ny384:=Aside0.mk hy384;clear hy384;have H':=Aside0.mk H;clear H;go_enter Tryz.func5,Tryz.ntmps5;(try go_wp2_with (first|((with_reducible refine zk (N:=2) rfl ?_);refine zo ?hg (N:=2) ?hd (cs:=#[.int .i64 a0_0,.int .i64 a0_1,.int .i64 a0_2,.slice A0_3 l0_3.length c0_3]) (t:=28) ?hr ?_;(case hd=>rfl);(case hg=>rfl);(case hr=>exact sqG);intro gb353 hg w14 hbox hb;have q_:=f4 (za sqB hb) hbox (sqS hg:w.heap.size≤gb353) (sqS hg:w.heap.size≤gb353);clear HB;obtain ⟨HB,BK353,GW353,GE353⟩:=q_;clear hb hbox hg;obtain ⟨_,_,_,_,_,_,_,_⟩:=z4 BK353.out)|((with_reducible refine zc (f:=16) rfl ?_);refine zt (some 13) rfl rfl Tryz.func16 (by kernel_rfl) rfl #[.agg #[.int .i64 a0_0,.int .i64 a0_1,.int .i64 a0_2,.slice A0_3 l0_3.length c0_3]] rfl sqM ?_;(with_reducible refine (jL.calls k a0_0 a0_1 a0_2 _ _ l0_3 t354 t355 _ ?side1 ?side2 A3.out).mono ?_);(case side1=>exact sqC (Kd.zC HR0_3.out HB.out));(case side2=>exact HC0_3.out);rintro e w16 ⟨v356,rfl,ho0,hb⟩;refine ⟨_,rfl,?_⟩;have q_:=f3 (Kd.zS ho0 (zi sqB)) (sqh BK353 hb) (za sqB hb);clear BK353 HB;obtain ⟨HO357,BK353,HB⟩:=q_;obtain ⟨Ao17,co17,eo17⟩:=Kd.zP HO357.out;subst eo17)|((with_reducible refine zc (f:=15) rfl ?_);refine zt (some 14) rfl rfl Tryz.func15 (by kernel_rfl) rfl #[.agg #[.int .i64 t354,.slice Ao17 t355.length co17]] rfl sqM ?_;(with_reducible refine (vk.calls k t354 _ _ t355 t358 _ ?side1 ?side2 A4.out).mono ?_);(case side1=>exact sqC (Kd.zj HO357.out).2.2);(case side2=>exact (Kd.zj HO357.out).2.1);rintro e w18 ⟨v359,rfl,ho0,hb⟩;refine ⟨_,rfl,?_⟩;have q_:=f4 (sqe HO357 (Kd.qg ho0) hb) (Kd.zS (Kd.qi ho0 (Kd.q3 (sqR HO357.out))) (zi sqB)) (sqh BK353 hb) (za sqB hb);clear HO357 BK353 HB;obtain ⟨HO357,HO360,BK353,HB⟩:=q_;obtain ⟨Ao19,co19,eo19⟩:=Kd.zP HO360.out;subst eo19)|((with_reducible refine zc (f:=14) rfl ?_);refine zt (some 16) rfl rfl Tryz.func14 (by kernel_rfl) rfl #[.slice Ao19 t358.length co19,.int .i64 a1] rfl sqM ?_;(with_reducible refine (qp.calls k _ _ t358 a1 true _ ?side1 ?side2 A5.out).mono ?_);(case side1=>exact sqC (Kd.zj HO360.out).2.2);(case side2=>exact (Kd.zj HO360.out).2.1);rintro e w' ⟨rfl,⟨nd,rfl⟩⟩;refine ⟨_,rfl,?_⟩;(try (rw [yw w18];generalize hq_:World.drewN w18 _=w18;have n0_:Aside0 (Kd.R (Kd.int .i64) 3 w18 w.heap.size (fun k_=>some k_≠(.slice Ao19 t358.length co19:Value).ownBlock) (.slice Ao17 t355.length co17) t355):=⟨by rw [←hq_];exact (by refine sqR ?_;exact Kd.zp HO357.out (fun _ hk=>hk.2))⟩;have n1_:Aside0 (Kd.R (Kd.int .i64) 3 w18 w.heap.size (fun k_=>some k_≠(.slice Ao17 t355.length co17:Value).ownBlock) (.slice Ao19 t358.length co19) t358):=⟨by rw [←hq_];exact (by refine sqR ?_;exact Kd.zp HO360.out (fun _ hk=>hk.2))⟩;have n2_:Aside0 (w18.heap[gb353]? =some (.cells #[.int .i64 a0_0,.int .i64 a0_1,.int .i64 a0_2,.slice A0_3 l0_3.length c0_3] 28 (0,0))):=⟨by rw [←hq_];exact (sqK BK353.out)⟩;have n3_:Aside0 (Below w.heap.size w w18):=⟨by rw [←hq_];exact sqB⟩;clear HO357 HO360 BK353 HB hq_;have HO357:=n0_;have HO360:=n1_;have BK353:=n2_;have HB:=n3_;clear n0_ n1_ n2_ n3_;have hczqgb353_0:w18.cell? ⟨gb353,0,none⟩=some (.int .i64 a0_0):=(zb BK353.out 0).trans rfl;have hfzqgb353_0:=zh BK353.out 0;have hczqgb353_1:w18.cell? ⟨gb353,1,none⟩=some (.int .i64 a0_1):=(zb BK353.out 1).trans rfl;have hfzqgb353_1:=zh BK353.out 1;have hczqgb353_2:w18.cell? ⟨gb353,2,none⟩=some (.int .i64 a0_2):=(zb BK353.out 2).trans rfl;have hfzqgb353_2:=zh BK353.out 2;have hczqgb353_3:w18.cell? ⟨gb353,3,none⟩=some (.slice A0_3 l0_3.length c0_3):=(zb BK353.out 3).trans rfl;have hfzqgb353_3:=zh BK353.out 3));obtain ⟨_,_,_,_,_,_,_,_⟩:=z4 BK353.out)|((with_reducible refine zc (f:=18) rfl ?_);refine zt (some 22) rfl rfl Tryz.func18 (by kernel_rfl) rfl #[.agg #[.int .i64 a0_0,.int .i64 a0_1,.int .i64 a0_2,.slice A0_3 l0_3.length c0_3],.int .i64 a1] rfl sqM ?_;(with_reducible refine (zu.calls k a0_0 a0_1 a0_2 _ _ l0_3 a1 t365 t366 t367 t368 _ ?side1 ?side2 A7.out).mono ?_);(case side1=>exact sqC (Kd.zC HR0_3.out HB.out));(case side2=>exact HC0_3.out);rintro e w21 ⟨v369,rfl,ho0,hb⟩;refine ⟨_,rfl,?_⟩;have q_:=f5 (sqe HO357 (Kd.qg ho0) hb) (sqe HO360 (Kd.qg ho0) hb) (Kd.zS (Kd.qi (Kd.qi ho0 (Kd.q3 (sqR HO357.out))) (Kd.q3 (sqR HO360.out))) (zi sqB)) (sqh BK353 hb) (za sqB hb);clear HO357 HO360 BK353 HB;obtain ⟨HO357,HO360,HO370,BK353,HB⟩:=q_;obtain ⟨Ao22,co22,eo22⟩:=Kd.zP HO370.out;subst eo22)|((with_reducible refine zc (f:=17) rfl ?_);refine zt (some 23) rfl rfl Tryz.func17 (by kernel_rfl) rfl #[.agg #[.int .i64 t365,.int .i64 t366,.int .i64 t367,.slice Ao22 t368.length co22]] rfl sqM ?_;(with_reducible refine (zA.calls k t365 t366 t367 _ _ t368 t371 t372 t373 t374 t377 _ ?side1 ?side2 A8.out).mono ?_);(case side1=>exact sqC (Kd.zj HO370.out).2.2);(case side2=>exact (Kd.zj HO370.out).2.1);rintro e w23 ⟨v375,rfl,ho0,hb⟩;refine ⟨_,rfl,?_⟩;have q_:=f6 (sqe HO357 (Kd.qg ho0) hb) (sqe HO360 (Kd.qg ho0) hb) (sqe HO370 (Kd.qg ho0) hb) (Kd.zS (Kd.qi (Kd.qi (Kd.qi ho0 (Kd.q3 (sqR HO357.out))) (Kd.q3 (sqR HO360.out))) (Kd.q3 (sqR HO370.out))) (zi sqB)) (sqh BK353 hb) (za sqB hb);clear HO357 HO360 HO370 BK353 HB;obtain ⟨HO357,HO360,HO370,HO376,BK353,HB⟩:=q_)|((with_reducible refine zk (N:=6) rfl ?_);refine zo ?hg (N:=6) ?hd (cs:=#[.int .i64 0,.int .i64 0,.int .i64 0,.slice none 0 0]) (t:=28) ?hr ?_;(case hd=>rfl);(case hg=>rfl);(case hr=>exact sqG);intro gb378 hg w24 hbox hb;have q_:=f11 (sqb HO357 hb) (sqb HO360 hb) (sqb HO370 hb) (sqb HO376 hb) (sqh BK353 hb) (za sqB hb) hbox (sqS hg:w.heap.size≤gb378) (sqS hg:w.heap.size≤gb378) (sqn BK353 hg) (sqm BK353 hg);clear HO357 HO360 HO370 HO376 BK353 HB;obtain ⟨HO357,HO360,HO370,HO376,BK353,HB,BK378,GW378,GE378,NB353_378,NB378_353⟩:=q_;clear hb hbox hg;have hnb25:=NB378_353.out;have hnc25:=NB353_378.out;obtain ⟨_,_,_,_,_,_,_,_⟩:=z4 BK378.out;obtain ⟨Ao27,co27,eo27⟩:=Kd.zP HO376.out;subst eo27)));have n0_:Aside0 (Kd.R (Kd.int .i64) 3 ((((w24.setCell ⟨gb378,0,none⟩ (.int .i64 t371)).setCell ⟨gb378,1,none⟩ (.int .i64 t372)).setCell ⟨gb378,2,none⟩ (.int .i64 t373)).setCell ⟨gb378,3,none⟩ (.slice Ao27 t374.length co27)) w.heap.size (fun k_=>some k_≠(.slice Ao19 t358.length co19:Value).ownBlock∧some k_≠(.slice Ao22 t368.length co22:Value).ownBlock∧some k_≠(.slice Ao27 t374.length co27:Value).ownBlock) (.slice Ao17 t355.length co17) t355):=⟨by refine sqR ?_;exact Kd.zp (Kd.zy (p:=⟨gb378,3,none⟩) (Kd.zy (p:=⟨gb378,2,none⟩) (Kd.zy (p:=⟨gb378,1,none⟩) (Kd.zy (p:=⟨gb378,0,none⟩) (Kd.z7 HO357.out BK378.out (by decide)) (fun _ hk=>hk.2) (.int .i64 t371)) (fun _ hk=>hk.2) (.int .i64 t372)) (fun _ hk=>hk.2) (.int .i64 t373)) (fun _ hk=>hk.2) (.slice Ao27 t374.length co27)) (fun _ hk=>by first|exact ⟨hk.1.1.1.2,⟨hk.1.1.2,hk.1.2⟩⟩|(refine ⟨?_,?_,?_⟩<;>intro e_<;>simp only [e_,ne_eq,not_true_eq_false,and_false,false_and] at hk))⟩;have n1_:Aside0 (Kd.R (Kd.int .i64) 3 ((((w24.setCell ⟨gb378,0,none⟩ (.int .i64 t371)).setCell ⟨gb378,1,none⟩ (.int .i64 t372)).setCell ⟨gb378,2,none⟩ (.int .i64 t373)).setCell ⟨gb378,3,none⟩ (.slice Ao27 t374.length co27)) w.heap.size (fun k_=>some k_≠(.slice Ao17 t355.length co17:Value).ownBlock∧some k_≠(.slice Ao22 t368.length co22:Value).ownBlock∧some k_≠(.slice Ao27 t374.length co27:Value).ownBlock) (.slice Ao19 t358.length co19) t358):=⟨by refine sqR ?_;exact Kd.zp (Kd.zy (p:=⟨gb378,3,none⟩) (Kd.zy (p:=⟨gb378,2,none⟩) (Kd.zy (p:=⟨gb378,1,none⟩) (Kd.zy (p:=⟨gb378,0,none⟩) (Kd.z7 HO360.out BK378.out (by decide)) (fun _ hk=>hk.2) (.int .i64 t371)) (fun _ hk=>hk.2) (.int .i64 t372)) (fun _ hk=>hk.2) (.int .i64 t373)) (fun _ hk=>hk.2) (.slice Ao27 t374.length co27)) (fun _ hk=>by first|exact ⟨hk.1.1.1.2,⟨hk.1.1.2,hk.1.2⟩⟩|(refine ⟨?_,?_,?_⟩<;>intro e_<;>simp only [e_,ne_eq,not_true_eq_false,and_false,false_and] at hk))⟩;have n2_:Aside0 (Kd.R (Kd.int .i64) 3 ((((w24.setCell ⟨gb378,0,none⟩ (.int .i64 t371)).setCell ⟨gb378,1,none⟩ (.int .i64 t372)).setCell ⟨gb378,2,none⟩ (.int .i64 t373)).setCell ⟨gb378,3,none⟩ (.slice Ao27 t374.length co27)) w.heap.size (fun k_=>some k_≠(.slice Ao17 t355.length co17:Value).ownBlock∧some k_≠(.slice Ao19 t358.length co19:Value).ownBlock∧some k_≠(.slice Ao27 t374.length co27:Value).ownBlock) (.slice Ao22 t368.length co22) t368):=⟨by refine sqR ?_;exact Kd.zp (Kd.zy (p:=⟨gb378,3,none⟩) (Kd.zy (p:=⟨gb378,2,none⟩) (Kd.zy (p:=⟨gb378,1,none⟩) (Kd.zy (p:=⟨gb378,0,none⟩) (Kd.z7 HO370.out BK378.out (by decide)) (fun _ hk=>hk.2) (.int .i64 t371)) (fun _ hk=>hk.2) (.int .i64 t372)) (fun _ hk=>hk.2) (.int .i64 t373)) (fun _ hk=>hk.2) (.slice Ao27 t374.length co27)) (fun _ hk=>by first|exact ⟨hk.1.1.1.2,⟨hk.1.1.2,hk.1.2⟩⟩|(refine ⟨?_,?_,?_⟩<;>intro e_<;>simp only [e_,ne_eq,not_true_eq_false,and_false,false_and] at hk))⟩;have n3_:Aside0 (Kd.R (Kd.int .i64) 3 ((((w24.setCell ⟨gb378,0,none⟩ (.int .i64 t371)).setCell ⟨gb378,1,none⟩ (.int .i64 t372)).setCell ⟨gb378,2,none⟩ (.int .i64 t373)).setCell ⟨gb378,3,none⟩ (.slice Ao27 t374.length co27)) w.heap.size (fun k_=>some k_≠(.slice Ao17 t355.length co17:Value).ownBlock∧some k_≠(.slice Ao19 t358.length co19:Value).ownBlock∧some k_≠(.slice Ao22 t368.length co22:Value).ownBlock) (.slice Ao27 t374.length co27) t374):=⟨by refine sqR ?_;exact Kd.zp (Kd.zy (p:=⟨gb378,3,none⟩) (Kd.zy (p:=⟨gb378,2,none⟩) (Kd.zy (p:=⟨gb378,1,none⟩) (Kd.zy (p:=⟨gb378,0,none⟩) (Kd.z7 HO376.out BK378.out (by decide)) (fun _ hk=>hk.2) (.int .i64 t371)) (fun _ hk=>hk.2) (.int .i64 t372)) (fun _ hk=>hk.2) (.int .i64 t373)) (fun _ hk=>hk.2) (.slice Ao27 t374.length co27)) (fun _ hk=>by first|exact ⟨hk.1.1.1.2,⟨hk.1.1.2,hk.1.2⟩⟩|(refine ⟨?_,?_,?_⟩<;>intro e_<;>simp only [e_,ne_eq,not_true_eq_false,and_false,false_and] at hk))⟩;have n4_:Aside0 (((((w24.setCell ⟨gb378,0,none⟩ (.int .i64 t371)).setCell ⟨gb378,1,none⟩ (.int .i64 t372)).setCell ⟨gb378,2,none⟩ (.int .i64 t373)).setCell ⟨gb378,3,none⟩ (.slice Ao27 t374.length co27)).heap[gb353]? =some (.cells #[.int .i64 a0_0,.int .i64 a0_1,.int .i64 a0_2,.slice A0_3 l0_3.length c0_3] 28 (0,0))):=⟨by refine sqK ?_;refine zO ?_ NB353_378.out _;refine sqK ?_;refine zO ?_ NB353_378.out _;refine sqK ?_;refine zO ?_ NB353_378.out _;refine sqK ?_;refine zO ?_ NB353_378.out _;refine sqK ?_;exact BK353.out⟩;have n5_:Aside0 (((((w24.setCell ⟨gb378,0,none⟩ (.int .i64 t371)).setCell ⟨gb378,1,none⟩ (.int .i64 t372)).setCell ⟨gb378,2,none⟩ (.int .i64 t373)).setCell ⟨gb378,3,none⟩ (.slice Ao27 t374.length co27)).heap[gb378]? =some (.cells #[.int .i64 t371,.int .i64 t372,.int .i64 t373,.slice Ao27 t374.length co27] 28 (0,0))):=⟨by refine sqK ?_;refine zw (cs:=#[.int .i64 t371,.int .i64 t372,.int .i64 t373,.slice none 0 0]) ?_ 3 _ rfl;refine sqK ?_;refine zw (cs:=#[.int .i64 t371,.int .i64 t372,.int .i64 0,.slice none 0 0]) ?_ 2 _ rfl;refine sqK ?_;refine zw (cs:=#[.int .i64 t371,.int .i64 0,.int .i64 0,.slice none 0 0]) ?_ 1 _ rfl;refine sqK ?_;refine zw (cs:=#[.int .i64 0,.int .i64 0,.int .i64 0,.slice none 0 0]) ?_ 0 _ rfl;refine sqK ?_;exact BK378.out⟩;have n6_:Aside0 (Below w.heap.size w ((((w24.setCell ⟨gb378,0,none⟩ (.int .i64 t371)).setCell ⟨gb378,1,none⟩ (.int .i64 t372)).setCell ⟨gb378,2,none⟩ (.int .i64 t373)).setCell ⟨gb378,3,none⟩ (.slice Ao27 t374.length co27))):=⟨sqB⟩;(try clear HO357);generalize ((((w24.setCell ⟨gb378,0,none⟩ (.int .i64 t371)).setCell ⟨gb378,1,none⟩ (.int .i64 t372)).setCell ⟨gb378,2,none⟩ (.int .i64 t373)).setCell ⟨gb378,3,none⟩ (.slice Ao27 t374.length co27))=w28 at n0_ n1_ n2_ n3_ n4_ n5_ n6_ ⊢;have HO357:=n0_;have HO360:=n1_;have HO370:=n2_;have HO376:=n3_;have BK353:=n4_;have BK378:=n5_;have HB:=n6_;clear n0_ n1_ n2_ n3_ n4_ n5_ n6_;have q_:=f7 (Kd.qE HO357.out) (Kd.qE HO360.out) (Kd.qE HO370.out) (Kd.qE HO376.out) (qb BK353.out) (qb BK378.out) (zD HB.out);clear HO357 HO360 HO370 HO376 BK353 BK378 HB;obtain ⟨HO357,HO360,HO370,HO376,BK353,BK378,HB⟩:=q_;have p379:0≤(0:Int):=(by omega);have q379:0< (t374.length:Int):=of_decide_eq_true sqA;obtain ⟨ad379,e379,hx379_0⟩:=Kd.zM (Kd.zj HO376.out).2.2 0 p379 q379;cases e379;have qi379:(0<t374.length)=True:=eq_true (by omega);(try rw [show ((0:Int)).toNat=0 from rfl] at hx379_0);(try rw [Addr.add_zero'] at hx379_0);replace p379:=eq_true p379;replace q379:=eq_true q379;refine jD (n:=8) (S:=fun w'=>w'.cell? ⟨gb353,0,none⟩=some (.int .i64 a0_0)∧w'.cell? ⟨gb353,1,none⟩=some (.int .i64 a0_1)∧w'.cell? ⟨gb353,2,none⟩=some (.int .i64 a0_2)∧w'.cell? ⟨gb353,3,none⟩=some (.slice A0_3 l0_3.length c0_3)∧w'.cell? ⟨gb378,0,none⟩=some (.int .i64 t371)∧w'.cell? ⟨gb378,1,none⟩=some (.int .i64 t372)∧w'.cell? ⟨gb378,2,none⟩=some (.int .i64 t373)∧w'.cell? ⟨gb378,3,none⟩=some (.slice (some ad379) t374.length co27)∧w'.cell? ad379=some (.int .i64 (rd t374 0))) (ds:=[]) #[false,false,false,false,false,false,false,false] (by kernel_rfl) rfl rfl ⟨(zb BK353.out 0).trans rfl,(zb BK353.out 1).trans rfl,(zb BK353.out 2).trans rfl,(zb BK353.out 3).trans rfl,(zb BK378.out 0).trans rfl,(zb BK378.out 1).trans rfl,(zb BK378.out 2).trans rfl,(zb BK378.out 3).trans rfl,hx379_0⟩ (fun hHeld=> ?_);refine qN zx.tab4 zx.zeU (fun HT_ HW_=> ?_);generalize w28.drew=w29 at HO357 HO360 HO370 HO376 BK353 BK378 HB hx379_0 hHeld ⊢;refine tP 0 (some 26) (h:= ?_);refine tP 2 (some 28) (h:= ?_);refine tT 1 (some 27) (h:= ?_);refine tT 3 (some 29) (h:= ?_);refine tP 4 (some 30) (h:= ?_);refine tT 5 (some 31) (h:= ?_);refine tO 6 (some 32) (h:=fun K hK=> ?_);refine y8 Tryz.func19 (by kernel_rfl) rfl #[.int .i64 a0_0,.int .i64 (rd t374 0)] (by rfl) rfl rfl sqM ?_;(with_reducible refine (zE.calls k a0_0 (rd t374 0) t380 _ A10.out).mono ?_);rintro e w' ⟨rfl,⟨nd,rfl⟩⟩;refine ⟨_,rfl,?_⟩;refine hK.out _ _ ⟨(zb BK353.out 0).trans rfl,(zb BK353.out 1).trans rfl,(zb BK353.out 2).trans rfl,(zb BK353.out 3).trans rfl,(zb BK378.out 0).trans rfl,(zb BK378.out 1).trans rfl,(zb BK378.out 2).trans rfl,(zb BK378.out 3).trans rfl,hHeld.2.2.2.2.2.2.2.2⟩ (fun hHeld=> ?_);clear hK K;refine tN 32 (h:= ?_);refine tP 7 (some 8) (h:= ?_);refine vx (je HT_.out (by kernel_rfl)) ?_;(try go_wp2_with (first|((with_reducible refine zc (f:=20) rfl ?_);refine zt (some 34) rfl rfl Tryz.func20 (by kernel_rfl) rfl #[.int .i64 a1] rfl sqM ?_;(with_reducible refine (qq.calls k a1 t381 _ A11.out).mono ?_);rintro e w30 ⟨v382,rfl,ho0,hb⟩;refine ⟨_,rfl,?_⟩;have q_:=f8 (sqe HO357 (Kd.qg ho0) hb) (sqe HO360 (Kd.qg ho0) hb) (sqe HO370 (Kd.qg ho0) hb) (sqe HO376 (Kd.qg ho0) hb) (Kd.zS (Kd.qi (Kd.qi (Kd.qi (Kd.qi ho0 (Kd.q3 (sqR HO357.out))) (Kd.q3 (sqR HO360.out))) (Kd.q3 (sqR HO370.out))) (Kd.q3 (sqR HO376.out))) (zi sqB)) (sqh BK353 hb) (sqh BK378 hb) (za sqB hb);clear HO357 HO360 HO370 HO376 BK353 BK378 HB;obtain ⟨HO357,HO360,HO370,HO376,HO383,BK353,BK378,HB⟩:=q_;obtain ⟨_,_,_,_,_,_,_,_⟩:=z4 BK353.out)|((with_reducible refine zk (N:=37) rfl ?_);refine Kd.Vl (Kd.int .i64) _ 3 rfl (N:=37) rfl 22 _ _ rfl a0_2 rfl rfl Tryz.underlying22 (.int .i64 0) 8 jM rfl (by decide) (by omega) 0 (ok:=fun _=>True) (okp:=fun _=>True) rfl (fun _ hk=>hk) trivial (of_decide_eq_true sqA) (Nat.le_trans (Nat.mul_le_mul_right _ (of_decide_eq_true sqA:a0_2.toNat≤35184372088832)) (by omega)) (Below.refl _ _) (Nat.le_refl _) ?_;intro v385 w32 ho33 hb hg_ hnew_;clear hg_ hnew_;(first|rw [←Ny384.out] at ho33|(simp only [Int.reduceToNat] at ho33;rw [←Ny384.out] at ho33));have q_:=f9 (sqe HO357 (Kd.qg ho33) hb) (sqe HO360 (Kd.qg ho33) hb) (sqe HO370 (Kd.qg ho33) hb) (sqe HO376 (Kd.qg ho33) hb) (sqe HO383 (Kd.qg ho33) hb) (Kd.zS (Kd.qi (Kd.qi (Kd.qi (Kd.qi (Kd.qi ho33 (Kd.q3 (sqR HO357.out))) (Kd.q3 (sqR HO360.out))) (Kd.q3 (sqR HO370.out))) (Kd.q3 (sqR HO376.out))) (Kd.q3 (sqR HO383.out))) (zi sqB)) (sqh BK353 hb) (sqh BK378 hb) (za sqB hb);clear HO357 HO360 HO370 HO376 HO383 BK353 BK378 HB;obtain ⟨HO357,HO360,HO370,HO376,HO383,HO386,BK353,BK378,HB⟩:=q_;clear hb ho33)));(go_loopg [11] k (fun kq v11 w'=> ∃(x10_1:List Int) (x11_1:Int),v11= .int .i64 x11_1∧Aside0 (zx.l0 kq t380 t381 x10_1 x11_1 a0_0 a0_1 a0_2 l0_3 t371 t372 t373 t374=some (r1,r2))∧Aside0 (kq≤k)∧Aside0 (Kd.R (Kd.int .i64) 3 w' w.heap.size (fun k_=>some k_≠(v385:Value).ownBlock∧some k_≠((.slice (some ad379) t374.length co27):Value).ownBlock) v382 t381)∧Aside0 (Kd.R (Kd.int .i64) 3 w' w.heap.size (fun k_=>some k_≠(v382:Value).ownBlock∧some k_≠((.slice (some ad379) t374.length co27):Value).ownBlock) v385 x10_1)∧Aside0 (Kd.R (Kd.int .i64) 3 w' w.heap.size (fun k_=>some k_≠(v382:Value).ownBlock∧some k_≠(v385:Value).ownBlock) (.slice (some ad379) t374.length co27) t374)∧Aside0 (w'.heap[gb353]? =some (.cells #[.int .i64 a0_0,.int .i64 a0_1,.int .i64 a0_2,(.slice A0_3 l0_3.length c0_3)] 28 (0,0)))∧Aside0 (w'.heap[gb378]? =some (.cells #[.int .i64 t371,.int .i64 t372,.int .i64 t373,(.slice (some ad379) t374.length co27)] 28 (0,0)))∧Aside0 (Below w.heap.size w w')));(case atStart=>exact ⟨(y384),(0),(sqD),H',⟨Nat.le_refl _⟩,⟨by refine sqR ?_;exact Kd.zp HO383.out (fun _ hk=>by first|exact ⟨hk.2,hk.1.2⟩|(refine ⟨?_,?_⟩<;>intro e_<;>simp only [e_,ne_eq,not_true_eq_false,and_false,false_and] at hk))⟩,⟨by refine sqR ?_;exact Kd.zp HO386.out (fun _ hk=>by first|exact ⟨hk.2,hk.1.2⟩|(refine ⟨?_,?_⟩<;>intro e_<;>simp only [e_,ne_eq,not_true_eq_false,and_false,false_and] at hk))⟩,⟨by refine sqR ?_;exact Kd.zp HO376.out (fun _ hk=>by first|exact ⟨hk.1.2,hk.2⟩|(refine ⟨?_,?_⟩<;>intro e_<;>simp only [e_,ne_eq,not_true_eq_false,and_false,false_and] at hk))⟩,⟨sqK BK353.out⟩,⟨sqK BK378.out⟩,⟨sqB⟩⟩);(case round=>clear H';obtain ⟨x10_1,x11_1,rfl,HA,HK1,HO_9,HO_10,HO_379003,BK353,BK378,HB⟩:=hrel;(cases gk with|zero=>exact absurd HA.out (by simp [zx.l0])|succ k1=>have H:=HA.out;clear HA;simp only [zx.l0] at H;by_cases c34:x11_1< (t381.length:Int);(·rw [if_pos c34] at H;have c34b0:decide (x11_1< (t381.length:Int))=true:=decide_eq_true c34;clear c34;by_cases c35:0≤x11_1;(·rw [if_pos c35] at H;have c35b0:decide (0≤x11_1)=true:=decide_eq_true c35;clear c35;by_cases c36:x11_1< (t374.length:Int);(·rw [if_pos c36] at H;have c36b0:decide (x11_1< (t374.length:Int))=true:=decide_eq_true c36;clear c36;by_cases c37:a0_0=0;(·rw [if_pos c37] at H;exact absurd H (by simp));(·rw [if_neg c37] at H;have c37b0:(a0_0==0)=false:=beq_eq_false_iff_ne.mpr c37;have c37b1:(a0_0 != 0)=true:=bne_iff_ne.mpr c37;by_cases c38:0≤(rd t381 x11_1);(·rw [if_pos c38] at H;have c38b0:decide (0≤(rd t381 x11_1))=true:=decide_eq_true c38;clear c38;by_cases c39:(rd t381 x11_1)< (x10_1.length:Int);(·rw [if_pos c39] at H;have c39b0:decide ((rd t381 x11_1)< (x10_1.length:Int))=true:=decide_eq_true c39;clear c39;obtain ⟨y389,hy389⟩: ∃y_:List Int,y_=(x10_1.set ((rd t381 x11_1):Int).toNat (Int.tmod (wrap64 ((rd t374 x11_1)*t380)) a0_0)):=⟨_,rfl⟩;(replace H:(zx.l0 k1 t380 t381 y389 (wrap64 (x11_1+1)) a0_0 a0_1 a0_2 l0_3 t371 t372 t373 t374)=some (r1,r2):=by first|(rw [hy389];with_reducible exact H)|(have H2_:=(Option.bind_some _ _).symm.trans H;rw [hy389];with_reducible exact H2_)|(have H2_:=(Option.bind_some _ _).symm.trans H;with_reducible exact H2_)|with_reducible exact H|(rw [hy389];exact H)|exact H);have Ny389:=Aside0.mk hy389;clear hy389;have H':=Aside0.mk H;clear H;obtain ⟨Ao41,co41,eo41⟩:=Kd.zP HO_9.out;subst eo41;(try go_wp2);have q_:=f6 (Kd.qE HO_9.out) (Kd.qE HO_10.out) (Kd.qE HO_379003.out) (qb BK353.out) (qb BK378.out) (zD HB.out);clear HO_9 HO_10 HO_379003 BK353 BK378 HB;obtain ⟨HO_9,HO_10,HO_379003,BK353,BK378,HB⟩:=q_;have p387:0≤(x11_1:Int):=of_decide_eq_true sqA;have q387:x11_1< (t381.length:Int):=of_decide_eq_true sqA;obtain ⟨ad387,e387,hx387_0⟩:=Kd.zM (Kd.zj HO_9.out).2.2 x11_1 p387 q387;cases e387;replace p387:=eq_true p387;replace q387:=eq_true q387;have p388:0≤(x11_1:Int):=of_decide_eq_true sqA;have q388:x11_1< (t374.length:Int):=of_decide_eq_true sqA;obtain ⟨ad388,e388,hx388_0⟩:=Kd.zM (Kd.zj HO_379003.out).2.2 x11_1 p388 q388;obtain rfl:ad379=ad388:=(by injection e388);replace p388:=eq_true p388;replace q388:=eq_true q388;have p40:0≤((rd t381 x11_1):Int):=of_decide_eq_true sqA;have q40:((rd t381 x11_1):Int)< ((x10_1.length:Int):Int):=of_decide_eq_true sqA;obtain ⟨go40,co40,eo40,gb40,gl40,cl40,HG40⟩:=Kd.yI HO_10.out (by omega);(first|cases eo40|(injection eo40 with ea_ en_ ec_;(first|subst ea_|(injection ea_ with ea_;subst ea_));subst ec_;clear en_));(try simp only [add_plain] at*);have GB40:=Aside0.mk gb40;have GG40:=Aside0.mk HG40;clear gb40 gl40 HG40;obtain ⟨hx40_0,hf40_0⟩:=Kd.jQ 0 HO_10.out ((rd t381 x11_1):Int) p40 q40;replace p40:=eq_true p40;replace q40:=eq_true q40;have HP43:=Kd.Z7 HO_10.out ((rd t381 x11_1):Int) (Int.tmod (wrap64 ((rd t374 x11_1)*t380)) a0_0);rw [←Ny389.out] at HP43;have HQ43:=Aside0.mk HP43;clear HP43;refine jD (n:=17) (S:=fun w'=>w'.cell? ⟨gb378,0,none⟩=some (.int .i64 t371)∧w'.cell? ⟨gb378,1,none⟩=some (.int .i64 t372)∧w'.cell? ⟨gb378,2,none⟩=some (.int .i64 t373)∧w'.cell? ⟨gb378,3,none⟩=some (.slice (some ad379) t374.length co27)∧w'.cell? ⟨gb353,0,none⟩=some (.int .i64 a0_0)∧w'.cell? ⟨gb353,1,none⟩=some (.int .i64 a0_1)∧w'.cell? ⟨gb353,2,none⟩=some (.int .i64 a0_2)∧w'.cell? ⟨gb353,3,none⟩=some (.slice A0_3 l0_3.length c0_3)∧w'.cell? (ad387.add (x11_1).toNat)=some (.int .i64 (rd t381 x11_1))∧w'.cell? (ad379.add (x11_1).toNat)=some (.int .i64 (rd t374 x11_1))) (ds:=[16]) #[false,false,false,false,false,false,false,false,false,false,false,false,false,false,false,false,false] (by kernel_rfl) rfl rfl ⟨(zb BK378.out 0).trans rfl,(zb BK378.out 1).trans rfl,(zb BK378.out 2).trans rfl,(zb BK378.out 3).trans rfl,(zb BK353.out 0).trans rfl,(zb BK353.out 1).trans rfl,(zb BK353.out 2).trans rfl,(zb BK353.out 3).trans rfl,hx387_0,hx388_0⟩ (fun hHeld=> ?_);refine qN zx.zbQ zx.YL (fun HT_ HW_=> ?_);generalize wr.drew=w42 at HO_9 HO_10 HO_379003 BK353 BK378 HB GG40 HQ43 hf40_0 hx387_0 hx388_0 hx40_0 hHeld ⊢;refine tP 0 (some 44) (h:= ?_);refine tP 1 (some 45) (h:= ?_);refine tP 2 (some 46) (h:= ?_);refine tP 3 (some 47) (h:= ?_);refine tP 5 (some 49) (h:= ?_);refine tP 7 (some 51) (h:= ?_);refine tP 10 (some 54) (h:= ?_);refine tP 12 (some 56) (h:= ?_);refine tT 4 (some 48) (h:= ?_);refine tT 6 (some 50) (h:= ?_);refine tP 8 (some 52) (h:= ?_);refine tT 9 (some 53) (h:= ?_);refine tP 11 (some 55) (h:= ?_);refine tT 13 (some 57) (h:= ?_);refine tP 14 (some 58) (h:= ?_);refine tP 15 (some 59) (h:= ?_);refine tL 16 none (h:=fun K hK=> ?_);refine tK (h:= ?_);refine hK.out _ _ ?_;clear hK K;refine vx (je HT_.out (by kernel_rfl)) ?_;(try go_wp2);(go_roundg k1);(case measure=>have:=HK1.out;omega);(case rel=>exact ⟨(y389),(wrap64 (x11_1+1)),(sqD),H',⟨by have:=HK1.out;omega⟩,⟨by refine sqR ?_;exact Kd.zp (Kd.zy (p:=⟨go40,((rd t381 x11_1):Int).toNat,none⟩) (Kd.zp HO_9.out (fun k_ hk=>(⟨hk,fun e_=>hk.1 (by rw [e_];rfl)⟩:_∧k_≠go40))) (fun _ hk=>hk.2) (.int .i64 (Int.tmod (wrap64 ((rd t374 x11_1)*t380)) a0_0))) (fun _ hk=>by first|exact ⟨hk.1.1,hk.1.2⟩|(refine ⟨?_,?_⟩<;>intro e_<;>simp only [e_,ne_eq,not_true_eq_false,and_false,false_and] at hk))⟩,⟨sqR HQ43.out⟩,⟨by refine sqR ?_;exact Kd.zp (Kd.zy (p:=⟨go40,((rd t381 x11_1):Int).toNat,none⟩) (Kd.zp HO_379003.out (fun k_ hk=>(⟨hk,fun e_=>hk.2 (by rw [e_];rfl)⟩:_∧k_≠go40))) (fun _ hk=>hk.2) (.int .i64 (Int.tmod (wrap64 ((rd t374 x11_1)*t380)) a0_0))) (fun _ hk=>by first|exact ⟨hk.1.1,hk.1.2⟩|(refine ⟨?_,?_⟩<;>intro e_<;>simp only [e_,ne_eq,not_true_eq_false,and_false,false_and] at hk))⟩,⟨by refine sqK ?_;refine zO ?_ (by have h_:=Kd.jB HO_10.out BK353.out (by decide);intro e_;exact h_ (by rw [e_];rfl)) _;refine sqK ?_;exact BK353.out⟩,⟨by refine sqK ?_;refine zO ?_ (by have h_:=Kd.jB HO_10.out BK378.out (by decide);intro e_;exact h_ (by rw [e_];rfl)) _;refine sqK ?_;exact BK378.out⟩,⟨by repeat (first|(with_reducible first|exact HB.out|apply qw|apply zL|apply zD|refine zQ ?_ GB40.out|refine zQ ?_ GE353.out|refine zQ ?_ GE378.out)|exact HB.out)⟩⟩));(·rw [if_neg c39] at H;exact absurd H (by simp)));(·rw [if_neg c38] at H;exact absurd H (by simp))));(·rw [if_neg c36] at H;exact absurd H (by simp)));(·rw [if_neg c35] at H;exact absurd H (by simp)));(·rw [if_neg c34] at H;have c34b0:decide (x11_1< (t381.length:Int))=false:=decide_eq_false c34;clear c34;simp only [Option.some.injEq,Prod.mk.injEq] at H;obtain ⟨rfl,rfl⟩:=H;obtain ⟨Ao44,co44,eo44⟩:=Kd.zP HO_9.out;subst eo44;go_wp2;go_ret2;exact ⟨_,sqE,by refine sqR ?_;exact Kd.zp HO_10.out (fun _ hk=>trivial),sqB⟩))));(·rw [if_neg c13] at H;exact absurd H (by simp)));(·rw [if_neg c12] at H;exact absurd H (by simp)));(·rw [if_neg c9] at H;exact absurd H (by simp)));(·replace c6:=Bool.eq_false_iff.mpr c6;subst c6;rw [if_neg (show ¬(false=true) by decide)] at H;obtain ⟨y362,hy362⟩: ∃y_:List Int,y_=(([]:List Int)):=⟨_,rfl⟩;(replace H:(some (y362,false))=some (r1,r2):=by first|(rw [hy362];with_reducible exact H)|(have H2_:=(Option.bind_some _ _).symm.trans H;rw [hy362];with_reducible exact H2_)|(have H2_:=(Option.bind_some _ _).symm.trans H;with_reducible exact H2_)|with_reducible exact H|(rw [hy362];exact H)|exact H);have Ny362:=Aside0.mk hy362;clear hy362;simp only [Option.some.injEq,Prod.mk.injEq] at H;obtain ⟨rfl,rfl⟩:=H;go_enter Tryz.func5,Tryz.ntmps5;(go_wp2_with (first|((with_reducible refine zk (N:=2) rfl ?_);refine zo ?hg (N:=2) ?hd (cs:=#[.int .i64 a0_0,.int .i64 a0_1,.int .i64 a0_2,.slice A0_3 l0_3.length c0_3]) (t:=28) ?hr ?_;(case hd=>rfl);(case hg=>rfl);(case hr=>exact sqG);intro gb353 hg w45 hbox hb;have q_:=f4 (za sqB hb) hbox (sqS hg:w.heap.size≤gb353) (sqS hg:w.heap.size≤gb353);clear HB;obtain ⟨HB,BK353,GW353,GE353⟩:=q_;clear hb hbox hg;obtain ⟨_,_,_,_,_,_,_,_⟩:=z4 BK353.out)|((with_reducible refine zc (f:=16) rfl ?_);refine zt (some 13) rfl rfl Tryz.func16 (by kernel_rfl) rfl #[.agg #[.int .i64 a0_0,.int .i64 a0_1,.int .i64 a0_2,.slice A0_3 l0_3.length c0_3]] rfl sqM ?_;(with_reducible refine (jL.calls k a0_0 a0_1 a0_2 _ _ l0_3 t354 t355 _ ?side1 ?side2 A3.out).mono ?_);(case side1=>exact sqC (Kd.zC HR0_3.out HB.out));(case side2=>exact HC0_3.out);rintro e w47 ⟨v356,rfl,ho0,hb⟩;refine ⟨_,rfl,?_⟩;have q_:=f3 (Kd.zS ho0 (zi sqB)) (sqh BK353 hb) (za sqB hb);clear BK353 HB;obtain ⟨HO357,BK353,HB⟩:=q_;obtain ⟨Ao48,co48,eo48⟩:=Kd.zP HO357.out;subst eo48)|((with_reducible refine zc (f:=15) rfl ?_);refine zt (some 14) rfl rfl Tryz.func15 (by kernel_rfl) rfl #[.agg #[.int .i64 t354,.slice Ao48 t355.length co48]] rfl sqM ?_;(with_reducible refine (vk.calls k t354 _ _ t355 t358 _ ?side1 ?side2 A4.out).mono ?_);(case side1=>exact sqC (Kd.zj HO357.out).2.2);(case side2=>exact (Kd.zj HO357.out).2.1);rintro e w49 ⟨v359,rfl,ho0,hb⟩;refine ⟨_,rfl,?_⟩;have q_:=f4 (sqe HO357 (Kd.qg ho0) hb) (Kd.zS (Kd.qi ho0 (Kd.q3 (sqR HO357.out))) (zi sqB)) (sqh BK353 hb) (za sqB hb);clear HO357 BK353 HB;obtain ⟨HO357,HO360,BK353,HB⟩:=q_;obtain ⟨Ao50,co50,eo50⟩:=Kd.zP HO360.out;subst eo50)|((with_reducible refine zc (f:=14) rfl ?_);refine zt (some 16) rfl rfl Tryz.func14 (by kernel_rfl) rfl #[.slice Ao50 t358.length co50,.int .i64 a1] rfl sqM ?_;(with_reducible refine (qp.calls k _ _ t358 a1 false _ ?side1 ?side2 A5.out).mono ?_);(case side1=>exact sqC (Kd.zj HO360.out).2.2);(case side2=>exact (Kd.zj HO360.out).2.1);rintro e w' ⟨rfl,⟨nd,rfl⟩⟩;refine ⟨_,rfl,?_⟩)|((with_reducible refine zk (N:=18) rfl ?_);refine Kd.vF (Kd.int .i64) _ 3 ?hg (N:=18) ?hd (xs:=([]:List Int)) (inner:=[]) (ok:=fun _=>True) (okp:=fun _=>True) ?hr ?hp (fun _ hk=>hk) trivial (Below.refl _ _) (Nat.le_refl _) (by simp) ?_;(case hd=>rfl);(case hg=>rfl);(case hr=>exact sqG);(case hp=>exact (qR.none _ _));intro v363 w51 ho52 hb hg_ hnew_;clear hg_ hnew_;(first|rw [←Ny362.out] at ho52|(simp only [Int.reduceToNat] at ho52;rw [←Ny362.out] at ho52));have q_:=f5 (sqe HO357 (Kd.qg ho52) hb) (sqe HO360 (Kd.qg ho52) hb) (Kd.zS (Kd.qi (Kd.qi ho52 (Kd.q3 (sqR HO357.out))) (Kd.q3 (sqR HO360.out))) (zi sqB)) (sqh BK353 hb) (za sqB hb);clear HO357 HO360 BK353 HB;obtain ⟨HO357,HO360,HO364,BK353,HB⟩:=q_;clear hb ho52)));go_ret2;exact ⟨_,sqE,by refine sqR ?_;exact Kd.zp HO364.out (fun _ hk=>trivial),sqB⟩)

end Go.Proofs.YtjlbfbpjcmjdfaaGreat.F
end
section
namespace Go.Proofs.YtjlbfbpjcmjdfaaGreat.F
open Go.RowKit Go.Proofs.YtjlbfbpjcmjdfaaGreatW.PrintWords Go.Proofs.YtjlbfbpjcmjdfaaGreatW.PrintLast Go.Proofs.YtjlbfbpjcmjdfaaGreatW.PrintMore
set_option linter.unusedSimpArgs false
set_option linter.unusedVariables false
/-- Function g, bound to lb, answers as1 the partial function q says, in every world in which all that lay in w lies unturned. -/
def JT (g:Nat)(lb:Array Value)(q:Int→Option Bool)(w:World):Prop:=
  ∀(W:World) (x:Int) (r:Bool),q x=some r→Below w.heap.size w W→Calls Tryz.prog g (#[.int .i64 x]++lb) W fun e w'=>e= .returned (.bool r)∧Below W.heap.size W w'
/-- The place of the first element of which q says yes, counted from i; -1 where there is none. -/
def zaD (q:Int→Option Bool):Int→List Int→Option Int
  |_,[]=>some (-1)
  |i,x::t=>(q x).bind fun b=>if b=true then some i else zaD q (i+1) t
def QN (q:Int→Option Bool):List Int→Option Bool
  | []=>some false
  |x::t=>(q x).bind fun b=>if b=true then some true else QN q t
theorem zaS (q:Int→Option Bool): ∀(l:List Int) (i:Int) (r:Bool),0≤i→QN q l=some r→ ∃m,zaD q i l=some m∧decide (0≤m)=r
  | [],i,r,_,h=>by
    simp only [QN,Option.some.injEq] at h
    exact ⟨-1,rfl,by rw [←h];rfl⟩
  |x::t,i,r,h0,h=>by
    simp only [QN,Option.bind_eq_some_iff] at h
    obtain ⟨b,hb,h⟩:=h
    cases b with
    |true=>simp only [if_true,Option.some.injEq] at h;exact ⟨i,by simp [zaD,hb],by rw [←h];simpa using h0⟩
    |false=>
      simp only [Bool.false_eq_true,if_false] at h
      obtain ⟨m,h1,h2⟩:=zaS q t (i+1) r (by omega) h
      exact ⟨m,by simp [zaD,hb,h1],h2⟩
theorem JU (q:Int→Option Bool)(g:Nat)(lb:Array Value)(eg: ∀args w,(callFunc g args).run Tryz.prog w= .ok (.enter g args) w)(A0:Option Addr)(c0:Nat)(l0:List Int)(r:Int)(w:World)
    (hp:JT g lb q w) (hr0:Kd.C (Kd.int .i64) w A0 l0.length l0) (hc0:l0.length≤c0) (hs:l0.length≤17592186044416) (h:zaD q 0 l0=some r):
    Calls Tryz.prog 85 #[.slice A0 l0.length c0,.func (.func g) #[] lb] w fun e w'=>e= .returned (.int .i64 r)∧Below w.heap.size w w':=by
  have HR0:=Aside0.mk hr0
  have HC0:=Aside0.mk hc0
  have HP:=Aside0.mk hp
  have H0:=Aside0.mk h
  have HS:=Aside0.mk hs
  clear hr0 hc0 hp h hs
  go_enter Tryz.func85,Tryz.ntmps85
  go_wp2
  go_loopg [8] l0.length (fun kq v8 w'=> ∃(i:Int),v8= .int .i64 i∧Aside0 (0≤i∧i≤l0.length)∧Aside0 (zaD q i (l0.drop i.toNat)=some r)∧Aside0 (l0.length - i.toNat≤kq)∧Aside0 (Below w.heap.size w w'))
  case atStart=>exact ⟨0,rfl,⟨Int.le_refl _,by omega⟩,⟨by simpa using H0.out⟩,⟨by simp⟩,⟨Below.refl _ _⟩⟩
  case round=>
    clear H0
    obtain ⟨i,rfl,HI,HD,HK,HB⟩:=hrel
    by_cases c3:i< (l0.length:Int)
    · have hi0:=HI.out.1
      have hi:i.toNat<l0.length:=by omega
      have hi1:(i+1).toNat=i.toNat+1:=by omega
      have c3b0:decide (i< (l0.length:Int))=true:=decide_eq_true c3
      obtain ⟨ad,ead,hx⟩:=Kd.zM (Kd.zC HR0.out HB.out) i hi0 c3
      cases ead
      have hd:=HD.out
      rw [List.drop_eq_getElem_cons hi] at hd
      simp only [zaD,Option.bind_eq_some_iff] at hd
      obtain ⟨b,hb,hd⟩:=hd
      have hrd:rd l0 i=l0[i.toNat]:=by simp [rd,List.getElem?_eq_getElem hi]
      rw [←hrd] at hb
      have HD':=Aside0.mk hd
      have HBb:=Aside0.mk hb
      have HI1:=Aside0.mk hi1
      have HI2:=Aside0.mk (show 0≤i∧i+1≤l0.length by omega)
      have p7:=eq_true hi0
      have q7:=eq_true c3
      clear hd hb hrd HD hi hi0 c3 hi1
      have hcall:=HP.out _ _ _ HBb.out HB.out
      cases b with
      |true=>
        have hr:=HD'.out
        simp only [if_true,Option.some.injEq] at hr
        subst hr
        clear HD'
        go_wp2
        refine hcall.mono ?_
        rintro e w' ⟨rfl,hb⟩
        have n0_:=Aside0.mk (za HB.out hb)
        clear HB hb hx hcall;have HB:=n0_;clear n0_
        go_wp2
        go_ret
        exact ⟨rfl,HB.out⟩
      |false=>
        have hr:=HD'.out
        simp only [Bool.false_eq_true,if_false] at hr
        have HD2:=Aside0.mk hr
        clear HD' hr
        go_wp2
        refine hcall.mono ?_
        rintro e w' ⟨rfl,hb⟩
        have n0_:=Aside0.mk (za HB.out hb)
        clear HB hb hx hcall;have HB:=n0_;clear n0_
        go_wp2
        go_roundg (l0.length - (i.toNat+1))
        case measure=>have:=HK.out;have:=HI2.out;omega
        case rel=>exact ⟨i+1,by rw [show wrap64 (i+1)=i+1 from by unfold wrap64;have:=HI2.out;have:=HS.out;omega],⟨by have:=HI2.out;omega⟩,⟨by rw [HI1.out];exact HD2.out⟩,⟨by rw [HI1.out];exact Nat.le_refl _⟩,HB⟩
    · have c3b0:decide (i< (l0.length:Int))=false:=decide_eq_false c3
      have hi:i.toNat=l0.length:=by have:=HI.out;omega
      have hd:=HD.out
      rw [hi,List.drop_length] at hd
      simp only [zaD,Option.some.injEq] at hd
      subst hd
      clear HD hi
      go_wp2
      go_ret
      exact ⟨rfl,HB.out⟩
theorem jP (q:Int→Option Bool)(g:Nat)(lb:Array Value)(eg: ∀args w,(callFunc g args).run Tryz.prog w= .ok (.enter g args) w)(A0:Option Addr)(c0:Nat)(l0:List Int)(r:Bool)(w:World)
    (hp:JT g lb q w) (hr0:Kd.C (Kd.int .i64) w A0 l0.length l0) (hc0:l0.length≤c0) (hs:l0.length≤17592186044416) (h:QN q l0=some r):
    Calls Tryz.prog 70 #[.slice A0 l0.length c0,.func (.func g) #[] lb] w fun e w'=>e= .returned (.bool r)∧Below w.heap.size w w':=by
  obtain ⟨m,hm,rfl⟩:=zaS q l0 0 r (by decide) h
  have hcall:=JU q g lb eg A0 c0 l0 m
  have HR0:=Aside0.mk hr0
  have HC0:=Aside0.mk hc0
  have HP:=Aside0.mk hp
  have H0:=Aside0.mk hm
  have HS:=Aside0.mk hs
  clear hr0 hc0 hp h hm hs
  go_enter Tryz.func70,Tryz.ntmps70
  go_wp2_with (go_at_call 85;refine (hcall _ HP.out HR0.out HC0.out HS.out H0.out).mono ?_;rintro e w' ⟨rfl,hb⟩)
  go_ret
  exact ⟨rfl,hb⟩
end Go.Proofs.YtjlbfbpjcmjdfaaGreat.F
end
section
namespace Go.Proofs.YtjlbfbpjcmjdfaaGreat.F
open Go.RowKit Go.Proofs.YtjlbfbpjcmjdfaaGreatW.PrintWords Go.Proofs.YtjlbfbpjcmjdfaaGreatW.PrintLast Go.Proofs.YtjlbfbpjcmjdfaaGreatW.PrintMore
set_option linter.unusedSimpArgs false
set_option linter.unusedVariables false
/-- Does f put for e make a base of a? -/
def zn.q (k:Nat)(l:List Int)(a e:Int)(x:Int):Option Bool:=
  if 0≤e then (if 0≤x then vz.f k l (Go.bits .or .i64 (Go.bits .andNot .i64 a (shl .i64 1 e)) (shl .i64 1 x)) else none) else none
mutual
def zn.l0:Nat→List Int→Int→Option (Int×Int×Int×Bool)
  |0,_,_=>none
  |k+1,l,x21=>if x21< (l.length:Int) then (if 0≤x21 then zn.l1 k l x21 0 else none) else some (0,0,0,false)
def zn.l1:Nat→List Int→Int→Int→Option (Int×Int×Int×Bool)
  |0,_,_,_=>none
  |k+1,l,x21,x28=>if x28< (l.length:Int) then (if 0≤x28 then ((zZ.f k (Go.bits .andNot .i64 (rd l x21) (rd l x28))).bind fun es=>zn.l2 k l x21 x28 es 0) else none) else zn.l0 k l (wrap64 (x21+1))
def zn.l2:Nat→List Int→Int→Int→List Int→Int→Option (Int×Int×Int×Bool)
  |0,_,_,_,_,_=>none
  |k+1,l,x21,x28,es,x37=>
    if x37< (es.length:Int) then
      (if 0≤x37 then ((zZ.f k (Go.bits .andNot .i64 (rd l x28) (rd l x21))).bind fun fs=>(if fs.length≤17592186044416 then ((QN (zn.q k l (rd l x21) (rd es x37)) fs).bind fun t=>
        if t=true then zn.l2 k l x21 x28 es (wrap64 (x37+1)) else some (rd l x21,rd l x28,rd es x37,true)) else none)) else none)
    else zn.l1 k l x21 (wrap64 (x28+1))
end
def zn.f (k:Nat)(a0_0:Int)(l0_1:List Int):Option (Int×Int×Int×Bool):=
  (qk.f k a0_0 l0_1).bind fun t=>if t=true then zn.l0 k l0_1 0 else some (0,0,0,false)
theorem zn.pred (k:Nat)(l:List Int)(a e n:Int)(A:Option Addr)(c gm ga ge:Nat)(w:World)(hm:w.heap[gm]? =some (.cells #[.int .i64 n,.slice A l.length c] 38 (0,0)))
    (ha:w.heap[ga]? =some (.cells #[.int .i64 a] 3 (0,0))) (he:w.heap[ge]? =some (.cells #[.int .i64 e] 3 (0,0))) (hr:Kd.C (Kd.int .i64) w A l.length l) (hc:l.length≤c):
    JT 82 #[.pointer (some ⟨gm,0,none⟩),.pointer (some ⟨ga,0,none⟩),.pointer (some ⟨ge,0,none⟩)] (zn.q k l a e) w:=by
  intro W x r hq hb
  unfold zn.q at hq
  by_cases h0:0≤e
  · rw [if_pos h0] at hq
    by_cases h1:0≤x
    · rw [if_pos h1] at hq
      have hc0:W.cell? ⟨gm,1,none⟩=some (.slice A l.length c):=(zb (qj hm hb) 1).trans rfl
      have hc1:W.cell? ⟨ga,0,none⟩=some (.int .i64 a):=(zb (qj ha hb) 0).trans rfl
      have hc2:W.cell? ⟨ge,0,none⟩=some (.int .i64 e):=(zb (qj he hb) 0).trans rfl
      have HR:=Aside0.mk (Kd.zC hr hb)
      have HC:=Aside0.mk hc
      have hu:=Tryz.underlying38
      obtain ⟨j1,hj1⟩: ∃j_:Int,(shl .i64 1 e)=j_:=⟨_,rfl⟩
      obtain ⟨j2,hj2⟩: ∃j_:Int,(shl .i64 1 x)=j_:=⟨_,rfl⟩
      rw [hj1,hj2] at hq
      have H:=Aside0.mk hq
      clear hq hm ha he hr hc hb
      have hj1_:(IntKind.i64.wrap (1*2 ^min e.toNat 64))=j1:=hj1
      have hj1u:(IntKind.i64.wrap (2 ^min e.toNat 64))=j1:=by have h_:=hj1_;rw [Int.one_mul] at h_;exact h_
      have hj1y:(wrap64 (1*2 ^min e.toNat 64))=j1:=(zv _).symm.trans hj1_
      have hj2_:(IntKind.i64.wrap (1*2 ^min x.toNat 64))=j2:=hj2
      have hj2u:(IntKind.i64.wrap (2 ^min x.toNat 64))=j2:=by have h_:=hj2_;rw [Int.one_mul] at h_;exact h_
      have hj2y:(wrap64 (1*2 ^min x.toNat 64))=j2:=(zv _).symm.trans hj2_
      have c0b0:decide (0≤e)=true:=decide_eq_true h0
      have c1b0:decide (0≤x)=true:=decide_eq_true h1
      replace h0:=eq_true h0
      replace h1:=eq_true h1
      go_enter Tryz.func82,Tryz.ntmps82
      go_wp2
      repeat (go_quiet ((go_at_call 23;(try simp only [zv,zG]);(with_reducible refine (vz.calls k _ _ l _ r _ ?side1 HC.out H.out).mono ?_);(case side1=>repeat (first|exact HR.out|(with_reducible refine Kd.yd ?_ _)|(with_reducible refine Kd.yl ?_)));rintro e w' ⟨rfl,⟨nd,rfl⟩⟩;(try first|exact ⟨rfl,_,World.drewN_drewN _ _ _⟩|exact ⟨rfl,_,Eq.trans (World.drewN_drewN _ _ _) (congrArg (World.drewN _) (Nat.add_assoc _ _ _))⟩)));try go_wp2)
      go_ret
      exact ⟨rfl,by repeat (first|exact Below.refl _ _|apply zD|apply zL)⟩
    · rw [if_neg h1] at hq;exact absurd hq (by simp)
  · rw [if_neg h0] at hq;exact absurd hq (by simp)
theorem zn.calls (k:Nat)(a0_0:Int)(A0_1:Option Addr)(c0_1:Nat)(l0_1:List Int)(r1:Int)(r2:Int)(r3:Int)(r4:Bool)(w:World)(hr0_1:Kd.C (Kd.int .i64) w A0_1 l0_1.length l0_1)(hc0_1:l0_1.length≤c0_1)(h:zn.f k a0_0 l0_1=some (r1,r2,r3,r4)):
    Calls Tryz.prog 66 #[.agg #[.int .i64 a0_0,.slice A0_1 l0_1.length c0_1]] w fun e w'=>e= .returned (.tuple #[.agg #[.int .i64 r1,.int .i64 r2,.int .i64 r3],.bool r4])∧Below w.heap.size w w':=by
  have hum:=Tryz.underlying38
  have huf:=Tryz.underlying63
  have HR:=Aside0.mk hr0_1
  have HC:=Aside0.mk hc0_1
  have HB:=Aside0.mk (Below.refl w.heap.size w)
  clear hr0_1 hc0_1
  unfold zn.f at h
  obtain ⟨t0,ht0,h⟩:=Option.bind_eq_some_iff.mp h
  have HT:=Aside0.mk ht0
  clear ht0
  have H:=Aside0.mk h
  clear h
  cases t0 with
  |false=>
    go_enter Tryz.func66,Tryz.ntmps66
    go_wp2_with (first
      |((with_reducible refine zk (N:=1) rfl ?_);refine zo ?hg (N:=1) ?hd (cs:=#[.int .i64 a0_0,.slice A0_1 l0_1.length c0_1]) (t:=38) ?hr ?_;(case hd=>rfl);(case hg=>rfl);(case hr=>exact sqG);intro gm hg w4 hbox hb;have HB1:=Aside0.mk hb;have BKm:=Aside0.mk hbox;have HG1:=Aside0.mk hg;clear hb hbox hg)
      |((with_reducible refine zk (N:=2) rfl ?_);refine zo ?hg (N:=2) ?hd (cs:=#[.int .i64 0,.int .i64 0,.int .i64 0]) (t:=63) ?hr ?_;(case hd=>rfl);(case hg=>rfl);(case hr=>exact sqG);intro gr hg w5 hbox hb;have HG2:=Aside0.mk hg;have HGr:=Aside0.mk (show w.heap.size≤gr from by rw [hg];exact HB1.out.size);have HNE:=Aside0.mk (show gm≠gr from by rw [hg];exact Nat.ne_of_lt (Zj BKm.out));have HS:=Aside0.mk (FFS.mk (n:=a0_0) (A:=A0_1) (c:=c0_1) (l:=l0_1) (gm:=gm) (gr:=gr) (w0:=w) (qj BKm.out hb) hbox (Kd.zC HR.out (za HB1.out hb)) (za HB1.out hb));clear BKm HB1 hb hbox hg;have hcz0:w5.cell? ⟨gm,0,none⟩=some (.int .i64 a0_0):=(zb HS.out.m 0).trans rfl;have hcz1:w5.cell? ⟨gm,1,none⟩=some (.slice A0_1 l0_1.length c0_1):=(zb HS.out.m 1).trans rfl)
      |((with_reducible refine zc (f:=67) rfl ?_);refine zt (some 15) rfl rfl Tryz.func67 (by kernel_rfl) rfl #[.int .i64 a0_0,.slice A0_1 l0_1.length c0_1] rfl (by (try simp only [List.map_toArray,List.map_cons,List.map_nil]);first|done|rfl) ?_;(with_reducible refine (qk.calls k a0_0 _ _ l0_1 false _ HS.out.C HC.out HT.out).mono ?_);rintro e w' ⟨rfl,⟨nd,rfl⟩⟩;refine ⟨_,rfl,?_⟩;generalize hw6:w5.drewN nd=w6;have HS6:=Aside0.mk (HS.out.below (w2:=w6) (by rw [←hw6];exact zL (Below.refl _ _) nd));clear hw6 HS hcz0 hcz1;have HS:=HS6;clear HS6;have hne:=HNE.out;have hne2:=HNE.out.symm;have hcr0:w6.cell? ⟨gr,0,none⟩=some (.int .i64 0):=(zb HS.out.r 0).trans rfl;have hcr1:w6.cell? ⟨gr,1,none⟩=some (.int .i64 0):=(zb HS.out.r 1).trans rfl;have hcr2:w6.cell? ⟨gr,2,none⟩=some (.int .i64 0):=(zb HS.out.r 2).trans rfl;have hfr0:=zh HS.out.r 0;have hfr1:=zh HS.out.r 1;have hfr2:=zh HS.out.r 2))
    refine bodyPost_ret (vu rfl _ _ gr 63 #[.int .i64 0,.int .i64 0,.int .i64 0] (0,0) _ rfl (by refine zw (cs:=#[.int .i64 0,.int .i64 0,.int .i64 0]) ?_ 2 _ rfl;refine zw (cs:=#[.int .i64 0,.int .i64 0,.int .i64 0]) ?_ 1 _ rfl;refine zw (cs:=#[.int .i64 0,.int .i64 0,.int .i64 0]) ?_ 0 _ rfl;exact HS.out.r) Tryz.underlying63 rfl (by kernel_rfl)) rfl ?_
    have hh:=H.out
    simp only [Bool.false_eq_true,if_false,Option.some.injEq,Prod.mk.injEq] at hh
    obtain ⟨rfl,rfl,rfl,rfl⟩:=hh
    exact ⟨rfl,by repeat (first|exact HS.out.B|refine zQ ?_ HGr.out)⟩
  |true=>
    go_enter Tryz.func66,Tryz.ntmps66
    go_wp2_with (first
      |((with_reducible refine zk (N:=1) rfl ?_);refine zo ?hg (N:=1) ?hd (cs:=#[.int .i64 a0_0,.slice A0_1 l0_1.length c0_1]) (t:=38) ?hr ?_;(case hd=>rfl);(case hg=>rfl);(case hr=>exact sqG);intro gm hg w4 hbox hb;have HB1:=Aside0.mk hb;have BKm:=Aside0.mk hbox;have HG1:=Aside0.mk hg;clear hb hbox hg)
      |((with_reducible refine zk (N:=2) rfl ?_);refine zo ?hg (N:=2) ?hd (cs:=#[.int .i64 0,.int .i64 0,.int .i64 0]) (t:=63) ?hr ?_;(case hd=>rfl);(case hg=>rfl);(case hr=>exact sqG);intro gr hg w5 hbox hb;have HG2:=Aside0.mk hg;have HGr:=Aside0.mk (show w.heap.size≤gr from by rw [hg];exact HB1.out.size);have HNE:=Aside0.mk (show gm≠gr from by rw [hg];exact Nat.ne_of_lt (Zj BKm.out));have HS:=Aside0.mk (FFS.mk (n:=a0_0) (A:=A0_1) (c:=c0_1) (l:=l0_1) (gm:=gm) (gr:=gr) (w0:=w) (qj BKm.out hb) hbox (Kd.zC HR.out (za HB1.out hb)) (za HB1.out hb));clear BKm HB1 hb hbox hg;have hcz0:w5.cell? ⟨gm,0,none⟩=some (.int .i64 a0_0):=(zb HS.out.m 0).trans rfl;have hcz1:w5.cell? ⟨gm,1,none⟩=some (.slice A0_1 l0_1.length c0_1):=(zb HS.out.m 1).trans rfl)
      |((with_reducible refine zc (f:=67) rfl ?_);refine zt (some 15) rfl rfl Tryz.func67 (by kernel_rfl) rfl #[.int .i64 a0_0,.slice A0_1 l0_1.length c0_1] rfl (by (try simp only [List.map_toArray,List.map_cons,List.map_nil]);first|done|rfl) ?_;(with_reducible refine (qk.calls k a0_0 _ _ l0_1 true _ HS.out.C HC.out HT.out).mono ?_);rintro e w' ⟨rfl,⟨nd,rfl⟩⟩;refine ⟨_,rfl,?_⟩;generalize hw6:w5.drewN nd=w6;have HS6:=Aside0.mk (HS.out.below (w2:=w6) (by rw [←hw6];exact zL (Below.refl _ _) nd));clear hw6 HS hcz0 hcz1;have HS:=HS6;clear HS6;have hcz1:w6.cell? ⟨gm,1,none⟩=some (.slice A0_1 l0_1.length c0_1):=(zb HS.out.m 1).trans rfl))
    have H0:=Aside0.mk (show zn.l0 k l0_1 0=some (r1,r2,r3,r4) by have hh:=H.out;simpa using hh)
    clear H hcz1
    go_loopg [21] k (fun kq v21 w'=> ∃(x21:Int),v21= .int .i64 x21∧Aside0 (zn.l0 kq l0_1 x21=some (r1,r2,r3,r4))∧Aside0 (kq≤k)∧Aside0 (FFS w w' gm gr a0_0 A0_1 c0_1 l0_1))
    case atStart=>exact ⟨0,rfl,H0,⟨Nat.le_refl _⟩,HS⟩
    case round=>
      clear H0 HS HB HG1 HG2
      obtain ⟨x21,rfl,HA,HK1,HS⟩:=hrel
      cases gk with
      |zero=>exact absurd HA.out (by simp [zn.l0])
      |succ k1=>
        have H:=HA.out
        clear HA
        simp only [zn.l0] at H
        by_cases c1:x21< (l0_1.length:Int)
        · rw [if_pos c1] at H
          by_cases c2:0≤x21
          · rw [if_pos c2] at H
            have H1:=Aside0.mk H
            clear H
            have c1b0:decide (x21< (l0_1.length:Int))=true:=decide_eq_true c1
            have c2b0:decide (0≤x21)=true:=decide_eq_true c2
            obtain ⟨ad1,e1,hx1⟩:=Kd.zM HS.out.C x21 c2 c1
            cases e1
            replace c1:=eq_true c1
            replace c2:=eq_true c2
            have hcz1:wr.cell? ⟨gm,1,none⟩=some (.slice (some ad1) l0_1.length c0_1):=(zb HS.out.m 1).trans rfl
            go_wp2_with (first
              |((with_reducible refine zk (N:=5) rfl ?_);refine zo ?hg (N:=5) ?hd (cs:=#[.int .i64 0]) (t:=3) ?hr ?_;(case hd=>rfl);(case hg=>rfl);(case hr=>exact sqG);intro ga hg w7 hbox hb;have HG3:=Aside0.mk hg;have BKa:=Aside0.mk hbox;have HBa:=Aside0.mk hb;have hca:w7.cell? ⟨ga,0,none⟩=some (.int .i64 0):=(zb BKa.out 0).trans rfl;have hfa:=zh BKa.out 0;clear hg hbox hb hx1 hcz1)
              |((with_reducible refine jw (t:=3) (p:=5) rfl ?_);refine jh (t:=3) (p:=5) (v:= ?vo_w8) (w1:=(w7.setCell ⟨ga,0,none⟩ (.int .i64 (rd l0_1 x21)))) ?hg ?ho ?hn ?hr ?_;(case ho=>rfl);(case hg=>rfl);(case hn=>rfl);(case hr=>exact sqG);intro w8 hw;have hp_:=ZV (v:= .int .i64 (rd l0_1 x21)) HG3.out BKa.out HBa.out;rw [←hw] at hp_;have HS8:=Aside0.mk (HS.out.below hp_.2);have BK8:=Aside0.mk hp_.1;clear hp_ hw BKa HBa HG3 HS hca hfa;have HS:=HS8;have BKa:=BK8;clear HS8 BK8;have hcz1:w8.cell? ⟨gm,1,none⟩=some (.slice (some ad1) l0_1.length c0_1):=(zb HS.out.m 1).trans rfl))
            clear hcz1
            go_loopg [28] k1 (fun kq v28 w'=> ∃(x28:Int),v28= .int .i64 x28∧Aside0 (zn.l1 kq l0_1 x21 x28=some (r1,r2,r3,r4))∧Aside0 (kq≤k1)∧Aside0 (FFS w w' gm gr a0_0 (some ad1) c0_1 l0_1)∧Aside0 (w'.heap[ga]? =some (.cells #[.int .i64 (rd l0_1 x21)] 3 (0,0))))
            case atStart=>exact ⟨0,rfl,H1,⟨Nat.le_refl _⟩,HS,BKa⟩
            case round=>
              clear H1 HS BKa
              obtain ⟨x28,rfl,HA,HK2,HS,BKa⟩:=hrel
              cases gk with
              |zero=>exact absurd HA.out (by simp [zn.l1])
              |succ k2=>
                have H:=HA.out
                clear HA
                simp only [zn.l1] at H
                by_cases c3:x28< (l0_1.length:Int)
                · rw [if_pos c3] at H
                  by_cases c4:0≤x28
                  · rw [if_pos c4] at H
                    obtain ⟨es,hes,H⟩:=Option.bind_eq_some_iff.mp H
                    have H1:=Aside0.mk H
                    have HE:=Aside0.mk hes
                    clear H hes
                    have c3b0:decide (x28< (l0_1.length:Int))=true:=decide_eq_true c3
                    have c4b0:decide (0≤x28)=true:=decide_eq_true c4
                    obtain ⟨ad2,e2,hx2⟩:=Kd.zM HS.out.C x28 c4 c3
                    cases e2
                    replace c3:=eq_true c3
                    replace c4:=eq_true c4
                    have hca:wr.cell? ⟨ga,0,none⟩=some (.int .i64 (rd l0_1 x21)):=(zb BKa.out 0).trans rfl
                    go_wp2_with ((with_reducible refine zc (f:=26) rfl ?_);refine zt (some 35) rfl rfl Tryz.func26 (by kernel_rfl) rfl #[.int .i64 (Go.bits .andNot .i64 (rd l0_1 x21) (rd l0_1 x28))] rfl (by (try simp only [List.map_toArray,List.map_cons,List.map_nil]);first|done|rfl) ?_;(with_reducible refine (zZ.calls k2 _ es _ HE.out).mono ?_);rintro e w9 ⟨ve,rfl,ho,hb⟩;refine ⟨_,rfl,?_⟩;obtain ⟨Ae,ce,ee⟩:=Kd.zP ho;subst ee;have HCE:=Aside0.mk (Kd.zj ho).2.2;have HLE:=Aside0.mk (Kd.zj ho).2.1;have HS9:=Aside0.mk (HS.out.below hb);have BK9:=Aside0.mk (qj BKa.out hb);clear ho hb HS BKa hx2 hca;have HS:=HS9;have BKa:=BK9;clear HS9 BK9)
                    go_loopg [37] k2 (fun kq v37 w'=> ∃(x37:Int),v37= .int .i64 x37∧Aside0 (zn.l2 kq l0_1 x21 x28 es x37=some (r1,r2,r3,r4))∧Aside0 (kq≤k2)∧Aside0 (FFS w w' gm gr a0_0 (some ad1) c0_1 l0_1)∧Aside0 (w'.heap[ga]? =some (.cells #[.int .i64 (rd l0_1 x21)] 3 (0,0)))∧Aside0 (Kd.C (Kd.int .i64) w' Ae es.length es))
                    case atStart=>exact ⟨0,rfl,H1,⟨Nat.le_refl _⟩,HS,BKa,HCE⟩
                    case round=>
                      clear H1 HS BKa HCE HE
                      obtain ⟨x37,rfl,HA,HK3,HS,BKa,HCE⟩:=hrel
                      cases gk with
                      |zero=>exact absurd HA.out (by simp [zn.l2])
                      |succ k3=>
                        have H:=HA.out
                        clear HA
                        simp only [zn.l2] at H
                        by_cases c5:x37< (es.length:Int)
                        · rw [if_pos c5] at H
                          by_cases c6:0≤x37
                          · rw [if_pos c6] at H
                            obtain ⟨fs,hfs,H⟩:=Option.bind_eq_some_iff.mp H
                            by_cases c7:fs.length≤17592186044416
                            · rw [if_pos c7] at H
                              obtain ⟨tt,htt,H⟩:=Option.bind_eq_some_iff.mp H
                              have HF:=Aside0.mk hfs
                              have HLF:=Aside0.mk c7
                              have HAny:=Aside0.mk htt
                              have H1:=Aside0.mk H
                              clear H hfs c7 htt
                              have c5b0:decide (x37< (es.length:Int))=true:=decide_eq_true c5
                              have c6b0:decide (0≤x37)=true:=decide_eq_true c6
                              obtain ⟨ad3,e3,hx3⟩:=Kd.zM HCE.out x37 c6 c5
                              cases e3
                              replace c5:=eq_true c5
                              replace c6:=eq_true c6
                              cases tt with
                              |true=>
                                go_wp2_with (first
                                  |((with_reducible refine zk (N:=9) rfl ?_);refine zo ?hg (N:=9) ?hd (cs:=#[.int .i64 0]) (t:=3) ?hr ?_;(case hd=>rfl);(case hg=>rfl);(case hr=>exact sqG);intro ge hg w10 hbox hb;have HG4:=Aside0.mk hg;have BKe:=Aside0.mk hbox;have HBe:=Aside0.mk hb;have hce:w10.cell? ⟨ge,0,none⟩=some (.int .i64 0):=(zb BKe.out 0).trans rfl;have hfe:=zh BKe.out 0;clear hg hbox hb hx3)
                                  |((with_reducible refine jw (t:=3) (p:=9) rfl ?_);refine jh (t:=3) (p:=9) (v:= ?vo_w11) (w1:=(w10.setCell ⟨ge,0,none⟩ (.int .i64 (rd es x37)))) ?hg ?ho ?hn ?hr ?_;(case ho=>rfl);(case hg=>rfl);(case hn=>rfl);(case hr=>exact sqG);intro w11 hw;have hp_:=ZV (v:= .int .i64 (rd es x37)) HG4.out BKe.out HBe.out;rw [←hw] at hp_;have HS8:=Aside0.mk (HS.out.below hp_.2);have BK8:=Aside0.mk hp_.1;have BK7:=Aside0.mk (qj BKa.out hp_.2);have HC8:=Aside0.mk (Kd.zC HCE.out hp_.2);clear hp_ hw BKe HBe HG4 HS hce hfe BKa HCE;have HS:=HS8;have BKe:=BK8;have BKa:=BK7;have HCE:=HC8;clear HS8 BK8 BK7 HC8;have hca:w11.cell? ⟨ga,0,none⟩=some (.int .i64 (rd l0_1 x21)):=(zb BKa.out 0).trans rfl)
                                  |((with_reducible refine zc (f:=26) rfl ?_);refine zt (some 44) rfl rfl Tryz.func26 (by kernel_rfl) rfl #[.int .i64 (Go.bits .andNot .i64 (rd l0_1 x28) (rd l0_1 x21))] rfl (by (try simp only [List.map_toArray,List.map_cons,List.map_nil]);first|done|rfl) ?_;(with_reducible refine (zZ.calls k3 _ fs _ HF.out).mono ?_);rintro e w12 ⟨vf,rfl,ho,hb⟩;refine ⟨_,rfl,?_⟩;obtain ⟨Af,cf,ef⟩:=Kd.zP ho;subst ef;have HCF:=Aside0.mk (Kd.zj ho).2.2;have HLF2:=Aside0.mk (Kd.zj ho).2.1;have HS8:=Aside0.mk (HS.out.below hb);have BK8:=Aside0.mk (qj BKe.out hb);have BK7:=Aside0.mk (qj BKa.out hb);have HC8:=Aside0.mk (Kd.zC HCE.out hb);clear ho hb BKe HS BKa HCE hca;have HS:=HS8;have BKe:=BK8;have BKa:=BK7;have HCE:=HC8;clear HS8 BK8 BK7 HC8))
                                refine (jP (zn.q k3 l0_1 (rd l0_1 x21) (rd es x37)) _ _ (enters_of Tryz.func82 (by kernel_rfl) rfl) _ _ fs true _ (zn.pred k3 l0_1 (rd l0_1 x21) (rd es x37) a0_0 _ c0_1 gm ga ge _ HS.out.m BKa.out BKe.out HS.out.C HC.out) HCF.out HLF2.out HLF.out HAny.out).mono ?_
                                rintro e w13 ⟨rfl,hb⟩
                                have HS8:=Aside0.mk (HS.out.below hb)
                                have BK8:=Aside0.mk (qj BKe.out hb)
                                have BK7:=Aside0.mk (qj BKa.out hb)
                                have HC8:=Aside0.mk (Kd.zC HCE.out hb)
                                clear hb BKe HS BKa HCE HCF
                                have HS:=HS8
                                have BKe:=BK8
                                have BKa:=BK7
                                have HCE:=HC8
                                clear HS8 BK8 BK7 HC8
                                go_wp2
                                go_roundg k3
                                case measure=>have:=HK1.out;have:=HK2.out;have:=HK3.out;omega
                                case rel=>exact ⟨wrap64 (x37+1),rfl,⟨by have hh:=H1.out;simpa using hh⟩,⟨by have:=HK3.out;omega⟩,HS,BKa,HCE⟩
                              |false=>
                                have hh:=H1.out
                                simp only [Bool.false_eq_true,if_false,Option.some.injEq,Prod.mk.injEq] at hh
                                obtain ⟨rfl,rfl,rfl,rfl⟩:=hh
                                clear H1
                                have hne:=HNE.out
                                have hne2:=HNE.out.symm
                                go_wp2_with (first
                                  |((with_reducible refine zk (N:=9) rfl ?_);refine zo ?hg (N:=9) ?hd (cs:=#[.int .i64 0]) (t:=3) ?hr ?_;(case hd=>rfl);(case hg=>rfl);(case hr=>exact sqG);intro ge hg w10 hbox hb;have HG4:=Aside0.mk hg;have BKe:=Aside0.mk hbox;have HBe:=Aside0.mk hb;have hce:w10.cell? ⟨ge,0,none⟩=some (.int .i64 0):=(zb BKe.out 0).trans rfl;have hfe:=zh BKe.out 0;clear hg hbox hb hx3)
                                  |((with_reducible refine jw (t:=3) (p:=9) rfl ?_);refine jh (t:=3) (p:=9) (v:= ?vo_w11) (w1:=(w10.setCell ⟨ge,0,none⟩ (.int .i64 (rd es x37)))) ?hg ?ho ?hn ?hr ?_;(case ho=>rfl);(case hg=>rfl);(case hn=>rfl);(case hr=>exact sqG);intro w11 hw;have hp_:=ZV (v:= .int .i64 (rd es x37)) HG4.out BKe.out HBe.out;rw [←hw] at hp_;have HS8:=Aside0.mk (HS.out.below hp_.2);have BK8:=Aside0.mk hp_.1;have BK7:=Aside0.mk (qj BKa.out hp_.2);have HC8:=Aside0.mk (Kd.zC HCE.out hp_.2);clear hp_ hw BKe HBe HG4 HS hce hfe BKa HCE;have HS:=HS8;have BKe:=BK8;have BKa:=BK7;have HCE:=HC8;clear HS8 BK8 BK7 HC8;have hca:w11.cell? ⟨ga,0,none⟩=some (.int .i64 (rd l0_1 x21)):=(zb BKa.out 0).trans rfl)
                                  |((with_reducible refine zc (f:=26) rfl ?_);refine zt (some 44) rfl rfl Tryz.func26 (by kernel_rfl) rfl #[.int .i64 (Go.bits .andNot .i64 (rd l0_1 x28) (rd l0_1 x21))] rfl (by (try simp only [List.map_toArray,List.map_cons,List.map_nil]);first|done|rfl) ?_;(with_reducible refine (zZ.calls k3 _ fs _ HF.out).mono ?_);rintro e w12 ⟨vf,rfl,ho,hb⟩;refine ⟨_,rfl,?_⟩;obtain ⟨Af,cf,ef⟩:=Kd.zP ho;subst ef;have HCF:=Aside0.mk (Kd.zj ho).2.2;have HLF2:=Aside0.mk (Kd.zj ho).2.1;have HS8:=Aside0.mk (HS.out.below hb);have BK8:=Aside0.mk (qj BKe.out hb);have BK7:=Aside0.mk (qj BKa.out hb);have HC8:=Aside0.mk (Kd.zC HCE.out hb);clear ho hb BKe HS BKa HCE hca;have HS:=HS8;have BKe:=BK8;have BKa:=BK7;have HCE:=HC8;clear HS8 BK8 BK7 HC8))
                                refine (jP (zn.q k3 l0_1 (rd l0_1 x21) (rd es x37)) _ _ (enters_of Tryz.func82 (by kernel_rfl) rfl) _ _ fs false _ (zn.pred k3 l0_1 (rd l0_1 x21) (rd es x37) a0_0 _ c0_1 gm ga ge _ HS.out.m BKa.out BKe.out HS.out.C HC.out) HCF.out HLF2.out HLF.out HAny.out).mono ?_
                                rintro e w13 ⟨rfl,hb⟩
                                have HS8:=Aside0.mk (HS.out.below hb)
                                have BK8:=Aside0.mk (qj BKe.out hb)
                                have BK7:=Aside0.mk (qj BKa.out hb)
                                have HC8:=Aside0.mk (Kd.zC HCE.out hb)
                                clear hb BKe HS BKa HCE HCF
                                have HS:=HS8
                                have BKe:=BK8
                                have BKa:=BK7
                                have HCE:=HC8
                                clear HS8 BK8 BK7 HC8
                                have hca:w13.cell? ⟨ga,0,none⟩=some (.int .i64 (rd l0_1 x21)):=(zb BKa.out 0).trans rfl
                                have hce:w13.cell? ⟨ge,0,none⟩=some (.int .i64 (rd es x37)):=(zb BKe.out 0).trans rfl
                                have hcr0:w13.cell? ⟨gr,0,none⟩=some (.int .i64 0):=(zb HS.out.r 0).trans rfl
                                have hcr1:w13.cell? ⟨gr,1,none⟩=some (.int .i64 0):=(zb HS.out.r 1).trans rfl
                                have hcr2:w13.cell? ⟨gr,2,none⟩=some (.int .i64 0):=(zb HS.out.r 2).trans rfl
                                have hfr0:=zh HS.out.r 0
                                have hfr1:=zh HS.out.r 1
                                have hfr2:=zh HS.out.r 2
                                go_wp2
                                refine bodyPost_ret (vu rfl _ _ gr 63 #[.int .i64 (rd l0_1 x21),.int .i64 (rd l0_1 x28),.int .i64 (rd es x37)] (0,0) _ rfl (by refine zw (cs:=#[.int .i64 (rd l0_1 x21),.int .i64 (rd l0_1 x28),.int .i64 0]) ?_ 2 _ rfl;refine zw (cs:=#[.int .i64 (rd l0_1 x21),.int .i64 0,.int .i64 0]) ?_ 1 _ rfl;refine zw (cs:=#[.int .i64 0,.int .i64 0,.int .i64 0]) ?_ 0 _ rfl;exact HS.out.r) Tryz.underlying63 rfl (by kernel_rfl)) rfl ?_
                                exact ⟨rfl,by repeat (first|exact HS.out.B|refine zQ ?_ HGr.out)⟩
                            · rw [if_neg c7] at H
                              exact absurd H (by simp)
                          · rw [if_neg c6] at H
                            exact absurd H (by simp)
                        · rw [if_neg c5] at H
                          have H1:=Aside0.mk H
                          clear H
                          have c5b0:decide (x37< (es.length:Int))=false:=decide_eq_false c5
                          clear c5
                          go_wp2
                          go_roundg k3
                          case measure=>have:=HK1.out;have:=HK2.out;have:=HK3.out;omega
                          case rel=>exact ⟨wrap64 (x28+1),rfl,H1,⟨by have:=HK2.out;have:=HK3.out;omega⟩,HS,BKa⟩
                  · rw [if_neg c4] at H
                    exact absurd H (by simp)
                · rw [if_neg c3] at H
                  have H1:=Aside0.mk H
                  clear H
                  have c3b0:decide (x28< (l0_1.length:Int))=false:=decide_eq_false c3
                  clear c3
                  go_wp2
                  go_roundg k2
                  case measure=>have:=HK1.out;have:=HK2.out;omega
                  case rel=>exact ⟨wrap64 (x21+1),rfl,H1,⟨by have:=HK1.out;have:=HK2.out;omega⟩,HS⟩
          · rw [if_neg c2] at H
            exact absurd H (by simp)
        · rw [if_neg c1] at H
          simp only [Option.some.injEq,Prod.mk.injEq] at H
          obtain ⟨rfl,rfl,rfl,rfl⟩:=H
          have c1b0:decide (x21< (l0_1.length:Int))=false:=decide_eq_false c1
          clear c1
          have hne:=HNE.out
          have hne2:=HNE.out.symm
          have hcr0:wr.cell? ⟨gr,0,none⟩=some (.int .i64 0):=(zb HS.out.r 0).trans rfl
          have hcr1:wr.cell? ⟨gr,1,none⟩=some (.int .i64 0):=(zb HS.out.r 1).trans rfl
          have hcr2:wr.cell? ⟨gr,2,none⟩=some (.int .i64 0):=(zb HS.out.r 2).trans rfl
          have hfr0:=zh HS.out.r 0
          have hfr1:=zh HS.out.r 1
          have hfr2:=zh HS.out.r 2
          go_wp2
          refine bodyPost_ret (vu rfl _ _ gr 63 #[.int .i64 0,.int .i64 0,.int .i64 0] (0,0) _ rfl (by refine zw (cs:=#[.int .i64 0,.int .i64 0,.int .i64 0]) ?_ 2 _ rfl;refine zw (cs:=#[.int .i64 0,.int .i64 0,.int .i64 0]) ?_ 1 _ rfl;refine zw (cs:=#[.int .i64 0,.int .i64 0,.int .i64 0]) ?_ 0 _ rfl;exact HS.out.r) Tryz.underlying63 rfl (by kernel_rfl)) rfl ?_
          exact ⟨rfl,by repeat (first|exact HS.out.B|refine zQ ?_ HGr.out)⟩
end Go.Proofs.YtjlbfbpjcmjdfaaGreat.F
end
section
namespace Go.Proofs.YtjlbfbpjcmjdfaaGreat.F
open Go.RowKit Go.Proofs.YtjlbfbpjcmjdfaaGreatW.PrintWords Go.Proofs.YtjlbfbpjcmjdfaaGreatW.PrintLast Go.Proofs.YtjlbfbpjcmjdfaaGreatW.PrintMore
attribute [local go_sem] vq vr vT vY jN jO vt vv   -- for this text's walks alone
set_option linter.unusedVariables false
set_option linter.unusedSimpArgs false

def jf.f (k:Nat)(a0_0:Int)(l0_1:List Int):Option (Bool):=(zn.f k a0_0 l0_1).bind fun bt423=>((qk.f k a0_0 l0_1).bind fun t428=>(if t428=true then (if (l0_1.length:Int)>0 then (some (!bt423.2.2.2)) else (some false)) else (some false)))
theorem jf.calls (k:Nat)(a0_0:Int)(A0_1:Option Addr)(c0_1:Nat)(l0_1:List Int)(r:Bool)(w:World)(hr0_1:Kd.C (Kd.int .i64) w A0_1 l0_1.length l0_1)(hc0_1:l0_1.length≤c0_1)(h:jf.f k a0_0 l0_1=some r):Calls Tryz.prog 45 #[.agg #[.int .i64 a0_0,.slice A0_1 l0_1.length c0_1]] w fun e w'=>e= .returned (.bool r)∧Below w.heap.size w w':=by have hu38:=Tryz.underlying38;have hu63:=Tryz.underlying63;have HR0_1:=Aside0.mk hr0_1;have HC0_1:=Aside0.mk hc0_1;clear hr0_1 hc0_1;have HB:=Aside0.mk (Below.refl w.heap.size w);have H:=h;unfold jf.f at H;clear h;replace H:=zU H;obtain ⟨⟨t423,t424,t425,t426⟩,A2,H⟩:=H;(try dsimp only at H);replace H:=zU H;obtain ⟨t428,A3,H⟩:=H;by_cases c4:t428=true;(·subst c4;rw [if_pos rfl] at H;by_cases c5:(l0_1.length:Int)>0;(·rw [if_pos c5] at H;have c5b0:decide (0< (l0_1.length:Int))=true:=decide_eq_true c5;have c5b1:decide (0<l0_1.length)=true:=decide_eq_true (by omega);clear c5;obtain rfl:=Option.some.inj H;go_enter Tryz.func45,Tryz.ntmps45;(go_wp2_with (first|((with_reducible refine zk (N:=1) rfl ?_);(try (refine jm (by rfl) ?_;dsimp only));refine zo ?hg (N:=1) ?hd (cs:=#[.int .i64 a0_0,.slice A0_1 l0_1.length c0_1]) (t:=38) ?hr ?_;(case hd=>rfl);(case hg=>rfl);(case hr=>exact sqG);intro gb422 hg w6 hbox hb;have q_:=f4 (za sqB hb) hbox (sqS hg:w.heap.size≤gb422) (sqS hg:w.heap.size≤gb422);clear HB;obtain ⟨HB,BK422,GW422,GE422⟩:=q_;clear hb hbox hg;obtain ⟨_,_,_,_⟩:=z2 BK422.out)|((with_reducible refine zc (f:=66) rfl ?_);refine zt (some 7) rfl rfl Tryz.func66 (by kernel_rfl) rfl #[.agg #[.int .i64 a0_0,.slice A0_1 l0_1.length c0_1]] rfl sqM ?_;(with_reducible refine (zn.calls k a0_0 _ _ l0_1 t423 t424 t425 t426 _ ?side1 ?side2 A2.out).mono ?_);(case side1=>exact sqC (Kd.zC HR0_1.out HB.out));(case side2=>exact HC0_1.out);rintro e w8 ⟨rfl,hb⟩;refine ⟨_,rfl,?_⟩;have q_:=f2 (sqh BK422 hb) (za sqB hb);clear BK422 HB;obtain ⟨BK422,HB⟩:=q_)|((with_reducible refine zk (N:=3) rfl ?_);(try (refine jm (by rfl) ?_;dsimp only));refine zo ?hg (N:=3) ?hd (cs:=#[.int .i64 0,.int .i64 0,.int .i64 0]) (t:=63) ?hr ?_;(case hd=>rfl);(case hg=>rfl);(case hr=>exact sqG);intro gb427 hg w9 hbox hb;have q_:=f7 (sqh BK422 hb) (za sqB hb) hbox (sqS hg:w.heap.size≤gb427) (sqS hg:w.heap.size≤gb427) (sqn BK422 hg) (sqm BK422 hg);clear BK422 HB;obtain ⟨BK422,HB,BK427,GW427,GE427,NB422_427,NB427_422⟩:=q_;clear hb hbox hg;have hnb10:=NB427_422.out;have hnc10:=NB422_427.out;have hcz11_0:w9.cell? ⟨gb427,0,none⟩=some (.int .i64 0):=(zb BK427.out 0).trans rfl;have hcz11_1:w9.cell? ⟨gb427,1,none⟩=some (.int .i64 0):=(zb BK427.out 1).trans rfl;have hcz11_2:w9.cell? ⟨gb427,2,none⟩=some (.int .i64 0):=(zb BK427.out 2).trans rfl;have hfz11_0:=zh BK427.out 0;have hfz11_1:=zh BK427.out 1;have hfz11_2:=zh BK427.out 2;obtain ⟨_,_,_,_⟩:=z2 BK422.out)|((with_reducible refine zc (f:=67) rfl ?_);refine zt (some 14) rfl rfl Tryz.func67 (by kernel_rfl) rfl #[.int .i64 a0_0,.slice A0_1 l0_1.length c0_1] rfl sqM ?_;(with_reducible refine (qk.calls k a0_0 _ _ l0_1 true _ ?side1 ?side2 A3.out).mono ?_);(case side1=>exact Kd.zC HR0_1.out sqB);(case side2=>exact HC0_1.out);rintro e w' ⟨rfl,⟨nd,rfl⟩⟩;refine ⟨_,rfl,?_⟩)));go_ret;exact ⟨sqE,sqB⟩);(·rw [if_neg c5] at H;have c5b0:decide (0< (l0_1.length:Int))=false:=decide_eq_false c5;have c5b1:decide (0<l0_1.length)=false:=decide_eq_false (by omega);clear c5;obtain rfl:=Option.some.inj H;go_enter Tryz.func45,Tryz.ntmps45;(go_wp2_with (first|((with_reducible refine zk (N:=1) rfl ?_);(try (refine jm (by rfl) ?_;dsimp only));refine zo ?hg (N:=1) ?hd (cs:=#[.int .i64 a0_0,.slice A0_1 l0_1.length c0_1]) (t:=38) ?hr ?_;(case hd=>rfl);(case hg=>rfl);(case hr=>exact sqG);intro gb422 hg w13 hbox hb;have q_:=f4 (za sqB hb) hbox (sqS hg:w.heap.size≤gb422) (sqS hg:w.heap.size≤gb422);clear HB;obtain ⟨HB,BK422,GW422,GE422⟩:=q_;clear hb hbox hg;obtain ⟨_,_,_,_⟩:=z2 BK422.out)|((with_reducible refine zc (f:=66) rfl ?_);refine zt (some 7) rfl rfl Tryz.func66 (by kernel_rfl) rfl #[.agg #[.int .i64 a0_0,.slice A0_1 l0_1.length c0_1]] rfl sqM ?_;(with_reducible refine (zn.calls k a0_0 _ _ l0_1 t423 t424 t425 t426 _ ?side1 ?side2 A2.out).mono ?_);(case side1=>exact sqC (Kd.zC HR0_1.out HB.out));(case side2=>exact HC0_1.out);rintro e w15 ⟨rfl,hb⟩;refine ⟨_,rfl,?_⟩;have q_:=f2 (sqh BK422 hb) (za sqB hb);clear BK422 HB;obtain ⟨BK422,HB⟩:=q_)|((with_reducible refine zk (N:=3) rfl ?_);(try (refine jm (by rfl) ?_;dsimp only));refine zo ?hg (N:=3) ?hd (cs:=#[.int .i64 0,.int .i64 0,.int .i64 0]) (t:=63) ?hr ?_;(case hd=>rfl);(case hg=>rfl);(case hr=>exact sqG);intro gb427 hg w16 hbox hb;have q_:=f7 (sqh BK422 hb) (za sqB hb) hbox (sqS hg:w.heap.size≤gb427) (sqS hg:w.heap.size≤gb427) (sqn BK422 hg) (sqm BK422 hg);clear BK422 HB;obtain ⟨BK422,HB,BK427,GW427,GE427,NB422_427,NB427_422⟩:=q_;clear hb hbox hg;have hnb17:=NB427_422.out;have hnc17:=NB422_427.out;have hcz18_0:w16.cell? ⟨gb427,0,none⟩=some (.int .i64 0):=(zb BK427.out 0).trans rfl;have hcz18_1:w16.cell? ⟨gb427,1,none⟩=some (.int .i64 0):=(zb BK427.out 1).trans rfl;have hcz18_2:w16.cell? ⟨gb427,2,none⟩=some (.int .i64 0):=(zb BK427.out 2).trans rfl;have hfz18_0:=zh BK427.out 0;have hfz18_1:=zh BK427.out 1;have hfz18_2:=zh BK427.out 2;obtain ⟨_,_,_,_⟩:=z2 BK422.out)|((with_reducible refine zc (f:=67) rfl ?_);refine zt (some 14) rfl rfl Tryz.func67 (by kernel_rfl) rfl #[.int .i64 a0_0,.slice A0_1 l0_1.length c0_1] rfl sqM ?_;(with_reducible refine (qk.calls k a0_0 _ _ l0_1 true _ ?side1 ?side2 A3.out).mono ?_);(case side1=>exact Kd.zC HR0_1.out sqB);(case side2=>exact HC0_1.out);rintro e w' ⟨rfl,⟨nd,rfl⟩⟩;refine ⟨_,rfl,?_⟩)));go_ret;exact ⟨sqE,sqB⟩));(·replace c4:=Bool.eq_false_iff.mpr c4;subst c4;rw [if_neg (show ¬(false=true) by decide)] at H;obtain rfl:=Option.some.inj H;go_enter Tryz.func45,Tryz.ntmps45;(go_wp2_with (first|((with_reducible refine zk (N:=1) rfl ?_);(try (refine jm (by rfl) ?_;dsimp only));refine zo ?hg (N:=1) ?hd (cs:=#[.int .i64 a0_0,.slice A0_1 l0_1.length c0_1]) (t:=38) ?hr ?_;(case hd=>rfl);(case hg=>rfl);(case hr=>exact sqG);intro gb422 hg w20 hbox hb;have q_:=f4 (za sqB hb) hbox (sqS hg:w.heap.size≤gb422) (sqS hg:w.heap.size≤gb422);clear HB;obtain ⟨HB,BK422,GW422,GE422⟩:=q_;clear hb hbox hg;obtain ⟨_,_,_,_⟩:=z2 BK422.out)|((with_reducible refine zc (f:=66) rfl ?_);refine zt (some 7) rfl rfl Tryz.func66 (by kernel_rfl) rfl #[.agg #[.int .i64 a0_0,.slice A0_1 l0_1.length c0_1]] rfl sqM ?_;(with_reducible refine (zn.calls k a0_0 _ _ l0_1 t423 t424 t425 t426 _ ?side1 ?side2 A2.out).mono ?_);(case side1=>exact sqC (Kd.zC HR0_1.out HB.out));(case side2=>exact HC0_1.out);rintro e w22 ⟨rfl,hb⟩;refine ⟨_,rfl,?_⟩;have q_:=f2 (sqh BK422 hb) (za sqB hb);clear BK422 HB;obtain ⟨BK422,HB⟩:=q_)|((with_reducible refine zk (N:=3) rfl ?_);(try (refine jm (by rfl) ?_;dsimp only));refine zo ?hg (N:=3) ?hd (cs:=#[.int .i64 0,.int .i64 0,.int .i64 0]) (t:=63) ?hr ?_;(case hd=>rfl);(case hg=>rfl);(case hr=>exact sqG);intro gb427 hg w23 hbox hb;have q_:=f7 (sqh BK422 hb) (za sqB hb) hbox (sqS hg:w.heap.size≤gb427) (sqS hg:w.heap.size≤gb427) (sqn BK422 hg) (sqm BK422 hg);clear BK422 HB;obtain ⟨BK422,HB,BK427,GW427,GE427,NB422_427,NB427_422⟩:=q_;clear hb hbox hg;have hnb24:=NB427_422.out;have hnc24:=NB422_427.out;have hcz25_0:w23.cell? ⟨gb427,0,none⟩=some (.int .i64 0):=(zb BK427.out 0).trans rfl;have hcz25_1:w23.cell? ⟨gb427,1,none⟩=some (.int .i64 0):=(zb BK427.out 1).trans rfl;have hcz25_2:w23.cell? ⟨gb427,2,none⟩=some (.int .i64 0):=(zb BK427.out 2).trans rfl;have hfz25_0:=zh BK427.out 0;have hfz25_1:=zh BK427.out 1;have hfz25_2:=zh BK427.out 2;obtain ⟨_,_,_,_⟩:=z2 BK422.out)|((with_reducible refine zc (f:=67) rfl ?_);refine zt (some 14) rfl rfl Tryz.func67 (by kernel_rfl) rfl #[.int .i64 a0_0,.slice A0_1 l0_1.length c0_1] rfl sqM ?_;(with_reducible refine (qk.calls k a0_0 _ _ l0_1 false _ ?side1 ?side2 A3.out).mono ?_);(case side1=>exact Kd.zC HR0_1.out sqB);(case side2=>exact HC0_1.out);rintro e w' ⟨rfl,⟨nd,rfl⟩⟩;refine ⟨_,rfl,?_⟩)));go_ret;exact ⟨sqE,sqB⟩)

end Go.Proofs.YtjlbfbpjcmjdfaaGreat.F
end
section
namespace Go.Proofs
open Go.Shelf
def Tryz.zaH:Go.Shelf.Ren:=⟨fun|189=>83|125=>90|257=>89|128=>100|129=>101|294=>91|295=>92|296=>93|297=>94|298=>95|299=>96|216=>97|300=>98|301=>99|328=>102|329=>103|330=>104|331=>105|332=>106|215=>107|343=>108|n=>n,fun|28=>22|3=>3|46=>70|0=>0|51=>78|53=>80|4=>4|183=>84|182=>83|131=>88|5=>5|9=>9|218=>90|222=>94|228=>96|229=>97|n=>n,fun|n=>n⟩
theorem Tryz.zbD:Go.Proofs.Lays.n189 Tryz.prog Tryz.zaH:= {
  mixed:=by kernel_rfl
  f125:=Tryz.func90.trans (congrArg some (by kernel_rfl))
  f128:=Tryz.func100.trans (congrArg some (by kernel_rfl))
  f129:=Tryz.func101.trans (congrArg some (by kernel_rfl))
  f189:=Tryz.func83.trans (congrArg some (by kernel_rfl))
  f215:=Tryz.func107.trans (congrArg some (by kernel_rfl))
  f216:=Tryz.func97.trans (congrArg some (by kernel_rfl))
  f257:=Tryz.func89.trans (congrArg some (by kernel_rfl))
  f294:=Tryz.func91.trans (congrArg some (by kernel_rfl))
  f295:=Tryz.func92.trans (congrArg some (by kernel_rfl))
  f296:=Tryz.func93.trans (congrArg some (by kernel_rfl))
  f297:=Tryz.func94.trans (congrArg some (by kernel_rfl))
  f298:=Tryz.func95.trans (congrArg some (by kernel_rfl))
  f299:=Tryz.func96.trans (congrArg some (by kernel_rfl))
  f300:=Tryz.func98.trans (congrArg some (by kernel_rfl))
  f301:=Tryz.func99.trans (congrArg some (by kernel_rfl))
  f328:=Tryz.func102.trans (congrArg some (by kernel_rfl))
  f329:=Tryz.func103.trans (congrArg some (by kernel_rfl))
  f330:=Tryz.func104.trans (congrArg some (by kernel_rfl))
  f331:=Tryz.func105.trans (congrArg some (by kernel_rfl))
  f332:=Tryz.func106.trans (congrArg some (by kernel_rfl))
  f343:=Tryz.func108.trans (congrArg some (by kernel_rfl))
  t0:=Tryz.underlying0
  a0:=Tryz.isAgg0
  z0:=Tryz.sizeOf0
  v0:=Tryz.zeroValue0
  t3:=Tryz.underlying3
  a3:=Tryz.isAgg3
  z3:=Tryz.sizeOf3
  v3:=Tryz.zeroValue3
  t4:=Tryz.underlying4
  a4:=Tryz.isAgg4
  z4:=Tryz.sizeOf4
  v4:=Tryz.zeroValue4
  t5:=Tryz.underlying5
  a5:=Tryz.isAgg5
  z5:=Tryz.sizeOf5
  v5:=Tryz.zeroValue5
  t9:=Tryz.underlying9
  a9:=Tryz.isAgg9
  z9:=Tryz.sizeOf9
  v9:=Tryz.zeroValue9
  t28:=Tryz.underlying22
  a28:=Tryz.isAgg22
  z28:=Tryz.sizeOf22
  v28:=Tryz.zeroValue22
  t46:=Tryz.underlying70
  a46:=Tryz.isAgg70
  z46:=Tryz.sizeOf70
  v46:=Tryz.zeroValue70
  t51:=Tryz.underlying78
  a51:=Tryz.isAgg78
  z51:=Tryz.sizeOf78
  v51:=Tryz.zeroValue78
  t53:=Tryz.underlying80
  a53:=Tryz.isAgg80
  z53:=Tryz.sizeOf80
  v53:=Tryz.zeroValue80
  t131:=Tryz.underlying88
  a131:=Tryz.isAgg88
  z131:=Tryz.sizeOf88
  v131:=Tryz.zeroValue88
  t182:=Tryz.underlying83
  a182:=Tryz.isAgg83
  z182:=Tryz.sizeOf83
  v182:=Tryz.zeroValue83
  t183:=Tryz.underlying84
  a183:=Tryz.isAgg84
  z183:=Tryz.sizeOf84
  v183:=Tryz.zeroValue84
  t218:=Tryz.underlying90
  a218:=Tryz.isAgg90
  z218:=Tryz.sizeOf90
  v218:=Tryz.zeroValue90
  t222:=Tryz.underlying94
  a222:=Tryz.isAgg94
  z222:=Tryz.sizeOf94
  v222:=Tryz.zeroValue94
  t228:=Tryz.underlying96
  a228:=Tryz.isAgg96
  z228:=Tryz.sizeOf96
  v228:=Tryz.zeroValue96
  t229:=Tryz.underlying97
  a229:=Tryz.isAgg97
  z229:=Tryz.sizeOf97
  v229:=Tryz.zeroValue97}
open Go.Sort Go.RowKit in
theorem Tryz.slices_Sort_int (blk off cap:Nat)(zs:List Int)(w:World)(hH:Holds (Value.int .i64) w blk off zs.toArray)(hblk:blk<w.heap.size)(hsz:zs.length<4611686018427387904):
    Calls Tryz.prog 83 #[.slice (some ⟨blk,off,none⟩) zs.length cap] w fun e w'=>
      e= .returned (.tuple #[])∧ ∃n os,w'=grow (putRow (Value.int .i64) (Sort.ahead w n) blk off (zs.mergeSort fun x y=>decide (x≤y)).toArray) os:=Any.slices_Sort_int Tryz.zbD blk off cap zs w hH hblk hsz
def Tryz.VW:Go.Shelf.Ren:=⟨fun|20=>84|n=>n,fun|22=>22|3=>3|4=>4|0=>0|n=>n,fun|n=>n⟩
theorem Tryz.Yo:Go.Proofs.Lays2.n20 Tryz.prog Tryz.VW:= {
  mixed:=by kernel_rfl
  f20:=Tryz.func84.trans (congrArg some (by kernel_rfl))
  t0:=Tryz.underlying0
  a0:=Tryz.isAgg0
  z0:=Tryz.sizeOf0
  v0:=Tryz.zeroValue0
  t3:=Tryz.underlying3
  a3:=Tryz.isAgg3
  z3:=Tryz.sizeOf3
  v3:=Tryz.zeroValue3
  t4:=Tryz.underlying4
  a4:=Tryz.isAgg4
  z4:=Tryz.sizeOf4
  v4:=Tryz.zeroValue4
  t22:=Tryz.underlying22
  a22:=Tryz.isAgg22
  z22:=Tryz.sizeOf22
  v22:=Tryz.zeroValue22
  i3:=by kernel_rfl}
open Go.RowKit Go.Lib Go.Sort in
theorem Tryz.slices_Compact_int (blk off cap:Nat)(zs:List Int)(w:World)(hH:Holds (Value.int .i64) w blk off zs.toArray)(hsz:zs.length≤9223372036854775807)(hcap:zs.length≤cap):
    Calls Tryz.prog 84 #[.slice (some ⟨blk,off,none⟩) zs.length cap] w fun e w'=>e= .returned (.slice (some ⟨blk,off,none⟩) (Lib.compact zs).length cap)∧ ∃q,w'=putRow (Value.int .i64) (Sort.ahead w q) blk off (Lib.compact zs++List.replicate (zs.length - (Lib.compact zs).length) 0).toArray:=Any.slices_Compact_int Tryz.Yo blk off cap zs w hH hsz hcap
open Go.RowKit Go.Lib Go.Sort in
theorem Tryz.slices_Compact_int_empty (a:Option Addr)(cap:Nat)(w:World):
    Calls Tryz.prog 84 #[.slice a 0 cap] w fun e w'=>e= .returned (.slice a 0 cap)∧w'=w:=Any.slices_Compact_int_empty Tryz.Yo a cap w
open Go.RowKit Go.Sort in
theorem Tryz.slices_Sort_int_none (p:Option Addr)(cap:Nat)(w:World):
    Calls Tryz.prog 83 #[.slice p 0 cap] w fun e w'=>e= .returned (.tuple #[])∧w'=w:=Any.slices_Sort_int_none Tryz.zbD p cap w
end Go.Proofs
end
section
namespace Go.Proofs.YtjlbfbpjcmjdfaaGreat.Mt
def sdiff (a b:Nat):Nat:=a ^^^(a &&&b)
theorem qQ (a b i:Nat):(sdiff a b).testBit i=(a.testBit i&& !b.testBit i):=by
  simp [sdiff,Nat.testBit_xor,Nat.testBit_and];cases a.testBit i<;>cases b.testBit i<;>rfl
def elems (s:Nat):List Nat:=(List.range 8).filter s.testBit
theorem jW {s e:Nat}:e∈elems s↔e<8∧s.testBit e=true:=by simp [elems]
end Go.Proofs.YtjlbfbpjcmjdfaaGreat.Mt
end
section
namespace Go.Proofs.YtjlbfbpjcmjdfaaGreat.Mt
/-- Sorted, each once. -/
def ZK (l:List Int):List Int:=Go.Lib.compact (l.mergeSort fun x y=>decide (x≤y))
theorem VR (d:Array Int)(n:Nat)(hd: ∀i j:Nat,i≤j→j<n→d[i]! ≤d[j]!): ∀m,m≤n→(Go.Lib.compactUpTo d m).Pairwise (· < ·)∧ ∀x,x∈Go.Lib.compactUpTo d m↔ ∃j,j<m∧d[j]! =x
  |0,_=>⟨by simp [Go.Lib.compactUpTo],fun x=>by simp [Go.Lib.compactUpTo]⟩
  |m+1,hm=>by
    obtain ⟨h1,h2⟩:=VR d n hd m (by omega)
    rw [Go.Lib.compactUpTo_succ]
    by_cases k:Go.Lib.keeps d m=true
    · simp only [k,if_true]
      refine ⟨List.pairwise_append.2 ⟨h1,by simp,fun a ha b hb=> ?_⟩,fun x=> ?_⟩
      · obtain ⟨j,hj,rfl⟩:=(h2 a).1 ha
        simp only [List.mem_singleton] at hb
        subst hb
        have h3:=hd j (m - 1) (by omega) (by omega)
        have h4:=hd (m - 1) m (by omega) (by omega)
        have h5:d[m]! ≠d[m - 1]! :=by
          simp only [Go.Lib.keeps,decide_eq_true_eq] at k
          rcases k with k|k
          · omega
          · exact k
        omega
      · rw [List.mem_append,h2,List.mem_singleton]
        constructor
        · rintro (⟨j,hj,e⟩|e)
          · exact ⟨j,by omega,e⟩
          · exact ⟨m,by omega,e.symm⟩
        · rintro ⟨j,hj,e⟩
          by_cases c:j=m
          · subst c;exact .inr e.symm
          · exact .inl ⟨j,by omega,e⟩
    · simp only [k,if_false,List.append_nil,Bool.false_eq_true]
      refine ⟨h1,fun x=> ?_⟩
      rw [h2]
      simp only [Go.Lib.keeps,decide_eq_true_eq] at k
      constructor
      · rintro ⟨j,hj,e⟩;exact ⟨j,by omega,e⟩
      · rintro ⟨j,hj,e⟩
        by_cases c:j=m
        · subst c
          by_cases c0:j=0
          · exact absurd (.inl c0) k
          · exact ⟨j - 1,by omega,by
              by_cases c1:d[j]! =d[j - 1]!
              · rw [←c1];exact e
              · exact absurd (.inr c1) k⟩
        · exact ⟨j,by omega,e⟩
theorem J6 (l:List Int)(j:Nat)(h:j<l.length):l.toArray[j]! =l[j]:=by
  rw [getElem!_pos l.toArray j (by simpa using h)];simp
theorem QF (l:List Int)(h:l.Pairwise (· ≤ ·)):(Go.Lib.compact l).Pairwise (· < ·)∧ ∀x,x∈Go.Lib.compact l↔x∈l:=by
  have hd: ∀i j:Nat,i≤j→j<l.length→l.toArray[i]! ≤l.toArray[j]! :=fun i j hij hj=>by
    rw [J6 l i (by omega),J6 l j hj]
    by_cases e:i=j
    · subst e;exact Int.le_refl _
    · exact List.pairwise_iff_getElem.1 h i j (by omega) hj (by omega)
  obtain ⟨h1,h2⟩:=VR l.toArray l.length hd l.length (Nat.le_refl _)
  refine ⟨h1,fun x=> ?_⟩
  unfold Go.Lib.compact
  rw [h2]
  constructor
  · rintro ⟨j,hj,rfl⟩;rw [J6 l j hj];exact List.getElem_mem hj
  · intro hx
    obtain ⟨j,hj,e⟩:=List.getElem_of_mem hx
    exact ⟨j,hj,by rw [J6 l j hj];exact e⟩
theorem zbR (l:List Int):(l.mergeSort fun x y=>decide (x≤y)).Pairwise (· ≤ ·):=by
  have:=List.pairwise_mergeSort (le:=fun x y:Int=>decide (x≤y)) (fun a b c h1 h2=>by simp only [decide_eq_true_eq] at*;omega) (fun a b=>by simp only [Bool.or_eq_true,decide_eq_true_eq];omega) l
  exact this.imp fun h=>by simpa using h
theorem Za (l:List Int):(ZK l).Pairwise (· < ·):=(QF _ (zbR l)).1
theorem Qo {l:List Int}{x:Int}:x∈ZK l↔x∈l:=by
  unfold ZK
  rw [(QF _ (zbR l)).2,List.mem_mergeSort]
theorem JC (l:List Int):(ZK l).length≤l.length:=by
  have:=Go.Lib.compact_length_le (l.mergeSort fun x y=>decide (x≤y))
  rwa [List.length_mergeSort] at this
theorem JK: ∀ {l l':List Int},l.Pairwise (· < ·)→l'.Pairwise (· < ·)→(∀x,x∈l↔x∈l')→l=l'
  | [],[],_,_,_=>rfl
  | [],b::_,_,_,hm=>absurd ((hm b).2 (List.mem_cons_self ..)) (by simp)
  |a::_,[],_,_,hm=>absurd ((hm a).1 (List.mem_cons_self ..)) (by simp)
  |a::l,b::l',h,h',hm=>by
    rw [List.pairwise_cons] at h h'
    have hab:a=b:=by
      rcases List.mem_cons.1 ((hm a).1 (List.mem_cons_self ..)) with e|e
      · exact e
      · rcases List.mem_cons.1 ((hm b).2 (List.mem_cons_self ..)) with e'|e'
        · exact e'.symm
        · have:=h'.1 a e;have:=h.1 b e';omega
    subst hab
    rw [JK h.2 h'.2 fun x=>⟨fun hx=>by
      rcases List.mem_cons.1 ((hm x).1 (List.mem_cons_of_mem _ hx)) with e|e
      · subst e;have:=h.1 x hx;omega
      · exact e,fun hx=>by
      rcases List.mem_cons.1 ((hm x).2 (List.mem_cons_of_mem _ hx)) with e|e
      · subst e;have:=h'.1 x hx;omega
      · exact e⟩]
theorem Z9 {l l':List Int}(h:l'.Pairwise (· < ·))(hm: ∀x,x∈l'↔x∈l):ZK l=l':=
  JK (Za l) h fun x=>by rw [Qo,hm]
end Go.Proofs.YtjlbfbpjcmjdfaaGreat.Mt
end
section
namespace Go.Proofs.YtjlbfbpjcmjdfaaGreat.F
open Go.RowKit Go.Proofs.YtjlbfbpjcmjdfaaGreatW.PrintWords Go.Proofs.YtjlbfbpjcmjdfaaGreatW.PrintLast Go.Proofs.YtjlbfbpjcmjdfaaGreatW.PrintMore Go.Sort
set_option linter.unusedSimpArgs false
set_option linter.unusedVariables false
theorem za7 (v:Value)(l:List Int)(base:Nat)(w0 w:World)(hb:Below base w0 w)(hs:base≤w.heap.size)(ho:Kd.R (Kd.int .i64) 3 w base (fun _=>True) v l)(hl:l.length<4611686018427387904):
    Calls Tryz.prog 83 #[v] w fun e w'=>e= .returned (.tuple #[])∧Kd.R (Kd.int .i64) 3 w' base (fun _=>True) v (l.mergeSort fun x y=>decide (x≤y))∧Below base w0 w'∧base≤w'.heap.size:=by
  have hown:=Kd.Jg ho
  rcases hown.2 with ⟨rfl,hz⟩|⟨g,cap,cur,rfl,hbase,hblk,h1,h2,h3,h4⟩
  · have hl0:l=[]:=List.eq_nil_of_length_eq_zero hz
    subst hl0
    refine (Tryz.slices_Sort_int_none none 0 w).mono ?_
    rintro e w' ⟨rfl,rfl⟩
    exact ⟨rfl,by simpa using ho,hb,hs⟩
  · have hH:=holds_of_blockI hblk (by simpa [Zo] using h4)
    refine (Tryz.slices_Sort_int g 0 cap l w hH (Array.getElem?_eq_some_iff.1 hblk).1 hl).mono ?_
    rintro e w' ⟨rfl,nn,os,rfl⟩
    have hlen:(l.mergeSort fun x y=>decide (x≤y)).length=l.length:=List.length_mergeSort l
    have hr:=ownsRow_sortedI (n:=nn) (os:=os) (ts:=l.mergeSort fun x y=>decide (x≤y)) hlen hbase hblk h1 h2 h3
    have hB:=hb.grown (grownBy_sortedI (l.mergeSort fun x y=>decide (x≤y)).toArray (w:=w) (g:=g) (n:=nn) (os:=os)) hs (fun j hj=>by cases hj;exact hbase)
    refine ⟨rfl,Kd.Vf (by rw [hlen];exact hr) (fun _ _=>trivial),hB,Nat.le_trans hs (grownBy_sortedI _).size⟩
theorem VU (v:Value)(l:List Int)(base:Nat)(w0 w:World)(hb:Below base w0 w)(hs:base≤w.heap.size)(ho:Kd.R (Kd.int .i64) 3 w base (fun _=>True) v l)(hl:l.length≤9223372036854775807):
    Calls Tryz.prog 84 #[v] w fun e w'=> ∃v',e= .returned v'∧Kd.R (Kd.int .i64) 3 w' base (fun _=>True) v' (Lib.compact l)∧Below base w0 w':=by
  have hown:=Kd.Jg ho
  rcases hown.2 with ⟨rfl,hz⟩|⟨g,cap,cur,rfl,hbase,hblk,h1,h2,h3,h4⟩
  · have hl0:l=[]:=List.eq_nil_of_length_eq_zero hz
    subst hl0
    refine (Tryz.slices_Compact_int_empty none 0 w).mono ?_
    rintro e w' ⟨rfl,rfl⟩
    exact ⟨_,rfl,by simpa [Lib.compact,Lib.compactUpTo] using ho,hb⟩
  · have hH:=holds_of_blockI hblk (by simpa [Zo] using h4)
    refine (Tryz.slices_Compact_int g 0 cap l w hH hl h1).mono ?_
    rintro e w' ⟨rfl,q,rfl⟩
    have hle:=Lib.compact_length_le l
    have hc:=Lib.ownsRow_putRow (q:=q) (k:=(Lib.compact l).length) (zs:=l) (ys:=Lib.compact l++List.replicate (l.length - (Lib.compact l).length) 0) hown (by simp;omega) hle
    rw [List.take_left] at hc
    exact ⟨_,rfl,Kd.Vf hc (fun _ _=>trivial),Lib.below_putRow hb hbase⟩
def jt.f (_:Nat)(l:List Int):Option (List Int):=if l.length≤17592186044416 then some (Mt.ZK l) else none
theorem jt.calls (k:Nat)(A0:Option Addr)(c0:Nat)(l0:List Int)(r:List Int)(w:World)(hr0:Kd.C (Kd.int .i64) w A0 l0.length l0)(hc0:l0.length≤c0)(h:jt.f k l0=some r):
    Calls Tryz.prog 69 #[.slice A0 l0.length c0] w fun e w'=> ∃v0_:Value,e= .returned (v0_)∧Kd.R (Kd.int .i64) 3 w' w.heap.size (fun _=>True) v0_ r∧Below w.heap.size w w':=by
  unfold jt.f at h
  by_cases hl:l0.length≤17592186044416
  · rw [if_pos hl] at h
    obtain rfl:=Option.some.inj h
    have HB:=Aside0.mk (Below.refl w.heap.size w)
    have HR:=Aside0.mk hr0
    have HC:=Aside0.mk hc0
    have HL:=Aside0.mk hl
    obtain ⟨yL,hyL⟩: ∃y_:List Int,y_=(([]:List Int)):=⟨_,rfl⟩
    have NyL:=Aside0.mk hyL
    clear h hr0 hc0 hl hyL
    unfold Mt.ZK
    obtain ⟨yS,hyS⟩: ∃y_:List Int,y_=(l0.mergeSort fun x y=>decide (x≤y)):=⟨_,rfl⟩
    rw [←hyS]
    have NyS:=Aside0.mk hyS
    clear hyS
    go_enter Tryz.func69,Tryz.ntmps69
    go_wp2_with (first
      |((with_reducible refine zk (N:=4) rfl ?_);refine Kd.vF (Kd.int .i64) _ 3 ?hg (N:=4) ?hd (xs:=([]:List Int)) (inner:=[]) (ok:=fun _=>True) (okp:=fun _=>True) ?hr ?hp (fun _ hk=>hk) trivial (Below.refl _ _) (Nat.le_refl _) (by simp) ?_;(case hd=>rfl);(case hg=>rfl);(case hr=>exact sqG);(case hp=>exact (qR.none _ _));intro vL wL hoL hb hg_ hnew_;clear hg_ hnew_;(first|rw [←NyL.out] at hoL|(simp only [Int.reduceToNat] at hoL;rw [←NyL.out] at hoL));have n0_:=Aside0.mk (Kd.zS hoL (zi sqB));have n1_:=Aside0.mk (za sqB hb);clear HB;have HOL:=n0_;have HB:=n1_;clear n0_ n1_;clear hb hoL)
      |((with_reducible refine qC (b:= .append) (xs:=#[.tmp 4,.tmp 5]) rfl ?_);at_builtin;refine Kd.vl (Kd.int .i64) (w0:=w) w.heap.size rfl (.tmp 4) (.tmp 5) 22 3 (.int .i64 0) 8 rfl Tryz.underlying22 jM rfl (by decide) (by omega) vL yL l0 _ _ _ (fun _=>True) (fun _=>False) rfl rfl ?aO ?aR (fun _ _ h=>h) (fun _ h=>h.elim) ?aF ?aB ?aS ?aL ?_;(case aR=>exact sqC (Kd.zC HR.out HB.out));(case aB=>exact sqB);(case aF=>exact (fun _ _=>trivial));(case aO=>exact (sqR HOL.out));(case aS=>exact (zi sqB));(case aL=>have:=HL.out;have:=NyL.out;simp [this];omega);intro vA wA ho hb hg hat;have n2_:=Aside0.mk (hb);have n3_:=Aside0.mk (show Kd.R (Kd.int .i64) 3 wA w.heap.size (fun _=>True) vA l0 from by have:=NyL.out;rw [this,List.nil_append] at ho;exact ho);clear HB HOL;have HB:=n2_;have HOL:=n3_;clear n2_ n3_;clear ho hb hg hat)
      |(go_at_call 83;(with_reducible refine (za7 _ l0 w.heap.size w _ sqB (zi sqB) (sqR HOL.out) (by have:=HL.out;omega)).mono ?_);rintro e w2 ⟨rfl,ho,hb,hs⟩;(rw [←NyS.out] at ho);clear HB HOL;have HB:=Aside0.mk hb;have HOL:=Aside0.mk ho;clear ho hb hs)
      |(go_at_call 84;(with_reducible refine (VU _ yS w.heap.size w _ sqB (zi sqB) (sqR HOL.out) (by have:=HL.out;have:=NyS.out;rw [this,List.length_mergeSort];omega)).mono ?_);rintro e w3 ⟨v3,rfl,ho,hb⟩;clear HB HOL;have HB:=Aside0.mk hb;have HOL:=Aside0.mk ho;clear ho hb))
    go_ret
    exact ⟨_,rfl,sqR HOL.out,sqB⟩
  · rw [if_neg hl] at h;exact absurd h (by simp)
end Go.Proofs.YtjlbfbpjcmjdfaaGreat.F
end
section
namespace Go.Proofs.YtjlbfbpjcmjdfaaGreat.F
open Go.RowKit Go.Proofs.YtjlbfbpjcmjdfaaGreatW.PrintWords Go.Proofs.YtjlbfbpjcmjdfaaGreatW.PrintLast Go.Proofs.YtjlbfbpjcmjdfaaGreatW.PrintMore
set_option linter.unusedSimpArgs false
set_option linter.unusedVariables false
def zI.q (s t:Int):Option Bool:=if t=s then some false else ji.f s t
def zI.l0:Nat→List Int→List Int→List Int→Int→Option (List Int)
  |0,_,_,_,_=>none
  |k+1,l,out,ss,x=>if x< (ss.length:Int) then (if 0≤x then ((QN (zI.q (rd ss x)) l).bind fun b=>if b=true then zI.l0 k l out ss (wrap64 (x+1)) else (if out.length<17592186044416 then zI.l0 k l (out++[rd ss x]) ss (wrap64 (x+1)) else none)) else none) else some out
def zI.f (k:Nat)(l:List Int):Option (List Int):=if l.length≤17592186044416 then ((qF.f k l).bind fun t=>if t=true then ((jt.f k l).bind fun ss=>zI.l0 k l [] ss 0) else some []) else none
theorem zI.pred (s:Int)(ga:Nat)(w:World)(ha:w.heap[ga]? =some (.cells #[.int .i64 s] 3 (0,0))):JT 86 #[.pointer (some ⟨ga,0,none⟩)] (zI.q s) w:=by
  intro W x r hq hb
  unfold zI.q at hq
  have hc0:W.cell? ⟨ga,0,none⟩=some (.int .i64 s):=(zb (qj ha hb) 0).trans rfl
  by_cases e:x=s
  · rw [if_pos e] at hq
    obtain rfl:=Option.some.inj hq
    have e0:(x != s)=false:=bne_eq_false_iff_eq.mpr e
    clear ha hb hq e
    go_enter Tryz.func86,Tryz.ntmps86
    go_wp2
    go_ret
    exact ⟨rfl,by repeat (first|exact Below.refl _ _|apply zD|apply zL)⟩
  · rw [if_neg e] at hq
    have e0:(x != s)=true:=bne_iff_ne.mpr e
    have H:=Aside0.mk hq
    clear ha hb hq e
    go_enter Tryz.func86,Tryz.ntmps86
    go_wp2_with (go_at_call 72;(try simp only [zv,zG]);(with_reducible refine (ji.calls s x r _ H.out).mono ?_);rintro e w' ⟨rfl,⟨nd,rfl⟩⟩)
    go_ret
    exact ⟨rfl,by repeat (first|exact Below.refl _ _|apply zD|apply zL)⟩
theorem zI.calls (k:Nat)(A0:Option Addr)(c0:Nat)(l0:List Int)(r:List Int)(w:World)(hr0:Kd.C (Kd.int .i64) w A0 l0.length l0)(hc0:l0.length≤c0)(h:zI.f k l0=some r):
    Calls Tryz.prog 74 #[.slice A0 l0.length c0] w fun e w'=> ∃v0_:Value,e= .returned (v0_)∧Kd.R (Kd.int .i64) 3 w' w.heap.size (fun _=>True) v0_ r∧Below w.heap.size w w':=by
  unfold zI.f at h
  by_cases hl:l0.length≤17592186044416
  case neg=>rw [if_neg hl] at h;exact absurd h (by simp)
  rw [if_pos hl] at h
  obtain ⟨t,ht,h⟩:=Option.bind_eq_some_iff.mp h
  have HR:=Aside0.mk hr0
  have HC:=Aside0.mk hc0
  have HS:=Aside0.mk hl
  have HT:=Aside0.mk ht
  have HB:=Aside0.mk (Below.refl w.heap.size w)
  obtain ⟨yL,hyL⟩: ∃y_:List Int,y_=(([]:List Int)):=⟨_,rfl⟩
  cases t with
  |false=>
    have hn:r=[]:=by simpa using h.symm
    subst hn
    clear h hr0 hc0 hl ht
    have NyL:=Aside0.mk hyL
    clear hyL
    go_enter Tryz.func74,Tryz.ntmps74
    go_wp2_with (first
      |((with_reducible refine zk (N:=6) rfl ?_);refine Kd.vF (Kd.int .i64) _ 3 ?hg (N:=6) ?hd (xs:=([]:List Int)) (inner:=[]) (ok:=fun _=>True) (okp:=fun _=>True) ?hr ?hp (fun _ hk=>hk) trivial (Below.refl _ _) (Nat.le_refl _) (by simp) ?_;(case hd=>rfl);(case hg=>rfl);(case hr=>exact sqG);(case hp=>exact (qR.none _ _));intro vL wL hoL hb hg_ hnew_;clear hg_ hnew_;clear hoL;have n1_:=Aside0.mk (za sqB hb);clear HB;have HB:=n1_;clear n1_;clear hb)
      |((with_reducible refine zc (f:=68) rfl ?_);refine zt (some 8) rfl rfl Tryz.func68 (by kernel_rfl) rfl #[.slice A0 l0.length c0] rfl (by (try simp only [List.map_toArray,List.map_cons,List.map_nil]);first|done|rfl) ?_;(with_reducible refine (qF.calls k _ _ l0 false _ ?side1 HC.out HT.out).mono ?_);(case side1=>exact sqC (Kd.zC HR.out HB.out));rintro e w' ⟨rfl,⟨nd,rfl⟩⟩;refine ⟨_,rfl,?_⟩))
    go_ret
    exact ⟨_,rfl,Kd.Vv _ _ _ _ _,sqB⟩
  |true=>
    have h:((jt.f k l0).bind fun ss=>zI.l0 k l0 [] ss 0)=some r:=by simpa using h
    obtain ⟨ss,hss,h⟩:=Option.bind_eq_some_iff.mp h
    rw [←hyL] at h
    have NyL:=Aside0.mk hyL
    have HSS:=Aside0.mk hss
    have H':=Aside0.mk h
    clear h hr0 hc0 hl ht hyL hss
    go_enter Tryz.func74,Tryz.ntmps74
    go_wp2_with (first
      |((with_reducible refine zk (N:=6) rfl ?_);refine Kd.vF (Kd.int .i64) _ 3 ?hg (N:=6) ?hd (xs:=([]:List Int)) (inner:=[]) (ok:=fun _=>True) (okp:=fun _=>True) ?hr ?hp (fun _ hk=>hk) trivial (Below.refl _ _) (Nat.le_refl _) (by simp) ?_;(case hd=>rfl);(case hg=>rfl);(case hr=>exact sqG);(case hp=>exact (qR.none _ _));intro vL wL hoL hb hg_ hnew_;clear hg_ hnew_;(first|rw [←NyL.out] at hoL|(simp only [Int.reduceToNat] at hoL;rw [←NyL.out] at hoL));have n0_:=Aside0.mk (Kd.zS hoL (zi sqB));have n1_:=Aside0.mk (za sqB hb);clear HB;have HOL:=n0_;have HB:=n1_;clear n0_ n1_;clear hb hoL)
      |((with_reducible refine zc (f:=68) rfl ?_);refine zt (some 8) rfl rfl Tryz.func68 (by kernel_rfl) rfl #[.slice A0 l0.length c0] rfl (by (try simp only [List.map_toArray,List.map_cons,List.map_nil]);first|done|rfl) ?_;(with_reducible refine (qF.calls k _ _ l0 true _ ?side1 HC.out HT.out).mono ?_);(case side1=>exact sqC (Kd.zC HR.out HB.out));rintro e w' ⟨rfl,⟨nd,rfl⟩⟩;refine ⟨_,rfl,?_⟩)
      |((with_reducible refine zc (f:=69) rfl ?_);refine zt (some 11) rfl rfl Tryz.func69 (by kernel_rfl) rfl #[.slice A0 l0.length c0] rfl (by (try simp only [List.map_toArray,List.map_cons,List.map_nil]);first|done|rfl) ?_;(with_reducible refine (jt.calls k _ _ l0 ss _ ?side1 HC.out HSS.out).mono ?_);(case side1=>exact sqC (Kd.zC HR.out HB.out));rintro e w8 ⟨vS,rfl,ho0,hb⟩;refine ⟨_,rfl,?_⟩;have n0_:=Aside0.mk (Kd.vJ (sqR HOL.out) (Kd.qg ho0) hb);have n1_:=Aside0.mk (Kd.zS (Kd.qi ho0 (Kd.q3 (sqR HOL.out))) (zi sqB));have n3_:=Aside0.mk (za sqB hb);clear HOL;clear HB;have HOL:=n0_;have HOS:=n1_;have HB:=n3_;clear n0_ n1_ n3_;clear hb ho0;obtain ⟨Ao,co,eo⟩:=Kd.zP HOS.out;subst eo))
    go_loopg [3,13] k (fun kq v3 v13 w'=> ∃(out:List Int) (x:Int),v13= .int .i64 x∧Aside0 (zI.l0 kq l0 out ss x=some r)∧Aside0 (kq≤k)∧Aside0 (Kd.R (Kd.int .i64) 3 w' w.heap.size (fun k_=>some k_≠((.slice Ao ss.length co):Value).ownBlock) v3 out)∧Aside0 (Kd.R (Kd.int .i64) 3 w' w.heap.size (fun k_=>some k_≠(v3:Value).ownBlock) (.slice Ao ss.length co) ss)∧Aside0 (Below w.heap.size w w'))
    case atStart=>exact ⟨yL,0,rfl,H',⟨Nat.le_refl _⟩,⟨by refine sqR ?_;exact Kd.zp HOL.out (fun _ hk=>hk.2)⟩,⟨by refine sqR ?_;exact Kd.zp HOS.out (fun _ hk=>hk.2)⟩,⟨sqB⟩⟩
    case round=>
      clear H' HOL HOS HB
      obtain ⟨out,x,rfl,HA,HK1,HO,HOS,HB⟩:=hrel
      cases gk with
      |zero=>exact absurd HA.out (by simp [zI.l0])
      |succ k1=>
        have H:=HA.out
        clear HA
        simp only [zI.l0] at H
        by_cases c1:x< (ss.length:Int)
        · rw [if_pos c1] at H
          by_cases c2:0≤x
          · rw [if_pos c2] at H
            obtain ⟨b,hb,H⟩:=Option.bind_eq_some_iff.mp H
            have AB:=Aside0.mk hb
            clear hb
            have c1b0:decide (x< (ss.length:Int))=true:=decide_eq_true c1
            have c2b0:decide (0≤x)=true:=decide_eq_true c2
            obtain ⟨ad1,e1,hx1⟩:=Kd.zM (Kd.zj HOS.out).2.2 x c2 c1
            cases e1
            replace c1:=eq_true c1
            replace c2:=eq_true c2
            obtain ⟨y,hy⟩: ∃y_:Int,y_=rd ss x:=⟨_,rfl⟩
            rw [←hy] at AB H hx1
            clear hy
            cases b with
            |true=>
              have H':=Aside0.mk (show zI.l0 k1 l0 out ss (wrap64 (x+1))=some r by simpa using H)
              clear H
              go_wp2_with (first
                |((with_reducible refine zk (N:=5) rfl ?_);refine zo ?hg (N:=5) ?hd (cs:=#[.int .i64 0]) (t:=3) ?hr ?_;(case hd=>rfl);(case hg=>rfl);(case hr=>exact sqG);intro ga hg w7 hbox hb;have HG3:=Aside0.mk hg;have BKa:=Aside0.mk hbox;have HBa:=Aside0.mk hb;have hca:w7.cell? ⟨ga,0,none⟩=some (.int .i64 0):=(zb BKa.out 0).trans rfl;have hfa:=zh BKa.out 0;clear hg hbox hb hx1)
                |((with_reducible refine jw (t:=3) (p:=5) rfl ?_);refine jh (t:=3) (p:=5) (v:= ?vo_w8) (w1:=(w7.setCell ⟨ga,0,none⟩ (.int .i64 y))) ?hg ?ho ?hn ?hr ?_;(case ho=>rfl);(case hg=>rfl);(case hn=>rfl);(case hr=>exact sqG);intro w8 hw;have hp_:=ZV (v:= .int .i64 y) HG3.out BKa.out HBa.out;rw [←hw] at hp_;have BK8:=Aside0.mk hp_.1;have HB8:=Aside0.mk hp_.2;clear hp_ hw BKa HBa HG3 hca hfa;have BKa:=BK8;clear BK8))
              refine (jP (zI.q y) _ _ (enters_of Tryz.func86 (by kernel_rfl) rfl) _ _ l0 true _ (zI.pred y _ _ BKa.out) (Kd.zC HR.out (za HB.out HB8.out)) HC.out HS.out AB.out).mono ?_
              rintro e w9 ⟨rfl,hb⟩
              have HB9:=Aside0.mk (za HB8.out hb)
              have n0_:=Aside0.mk (Kd.vC HO.out HB9.out)
              have n1_:=Aside0.mk (Kd.vC HOS.out HB9.out)
              have n2_:=Aside0.mk (za HB.out HB9.out)
              clear HO HOS HB hb HB8 HB9 BKa;have HO:=n0_;have HOS:=n1_;have HB:=n2_;clear n0_ n1_ n2_
              go_wp2
              go_roundg k1
              case measure=>have:=HK1.out;omega
              case rel=>exact ⟨out,wrap64 (x+1),rfl,H',⟨by have:=HK1.out;omega⟩,⟨sqR HO.out⟩,⟨sqR HOS.out⟩,⟨sqB⟩⟩
            |false=>
              have H1:(if out.length<17592186044416 then zI.l0 k1 l0 (out++[y]) ss (wrap64 (x+1)) else none)=some r:=by simpa using H
              clear H
              by_cases c3:out.length<17592186044416
              case neg=>rw [if_neg c3] at H1;exact absurd H1 (by simp)
              rw [if_pos c3] at H1
              have HLen:=Aside0.mk c3
              clear c3
              obtain ⟨yA,hyA⟩: ∃y_:List Int,y_=(out++[y]):=⟨_,rfl⟩
              rw [←hyA] at H1
              have NyA:=Aside0.mk hyA
              have H':=Aside0.mk H1
              clear H1 hyA
              go_wp2_with (first
                |((with_reducible refine zk (N:=5) rfl ?_);refine zo ?hg (N:=5) ?hd (cs:=#[.int .i64 0]) (t:=3) ?hr ?_;(case hd=>rfl);(case hg=>rfl);(case hr=>exact sqG);intro ga hg w7 hbox hb;have HG3:=Aside0.mk hg;have BKa:=Aside0.mk hbox;have HBa:=Aside0.mk hb;have hca:w7.cell? ⟨ga,0,none⟩=some (.int .i64 0):=(zb BKa.out 0).trans rfl;have hfa:=zh BKa.out 0;clear hg hbox hb hx1)
                |((with_reducible refine jw (t:=3) (p:=5) rfl ?_);refine jh (t:=3) (p:=5) (v:= ?vo_w8) (w1:=(w7.setCell ⟨ga,0,none⟩ (.int .i64 y))) ?hg ?ho ?hn ?hr ?_;(case ho=>rfl);(case hg=>rfl);(case hn=>rfl);(case hr=>exact sqG);intro w8 hw;have hp_:=ZV (v:= .int .i64 y) HG3.out BKa.out HBa.out;rw [←hw] at hp_;have BK8:=Aside0.mk hp_.1;have HB8:=Aside0.mk hp_.2;clear hp_ hw BKa HBa HG3 hca hfa;have BKa:=BK8;clear BK8))
              refine (jP (zI.q y) _ _ (enters_of Tryz.func86 (by kernel_rfl) rfl) _ _ l0 false _ (zI.pred y _ _ BKa.out) (Kd.zC HR.out (za HB.out HB8.out)) HC.out HS.out AB.out).mono ?_
              rintro e w9 ⟨rfl,hb⟩
              have hca:w9.cell? ⟨ga,0,none⟩=some (.int .i64 y):=(zb (qj BKa.out hb) 0).trans rfl
              have HB9:=Aside0.mk (za HB8.out hb)
              have n0_:=Aside0.mk (Kd.vC HO.out HB9.out)
              have n1_:=Aside0.mk (Kd.vC HOS.out HB9.out)
              have n2_:=Aside0.mk (za HB.out HB9.out)
              clear HO HOS HB hb HB8 HB9 BKa;have HO:=n0_;have HOS:=n1_;have HB:=n2_;clear n0_ n1_ n2_
              go_wp2_with ((with_reducible refine qC (b:= .append) (xs:=#[.tmp 21,.tmp 23]) rfl ?_);at_builtin;refine Kd.vN (Kd.int .i64) (w0:=w) w.heap.size rfl (.tmp 21) (.tmp 23) 22 3 (.int .i64 0) 8 rfl Tryz.underlying22 jM rfl (by decide) (by omega) u3 out y [.int .i64 y] (fun k_=>some k_≠(.slice (some ad1) ss.length co:Value).ownBlock) (fun _=>False) rfl rfl ?aP (fun _ hk=>hk.elim) ?aF ?aO ?aB ?aS ?aL ?_;(case aP=>exact rfl);(case aB=>exact sqB);(case aF=>exact (fun k_ hk=>Kd.yB (Kd.q3 (sqR HOS.out)) k_ hk));(case aO=>exact (sqR HO.out));(case aS=>exact (zi sqB));(case aL=>have:=HLen.out;omega);intro v230 w18 ho hb hg hat;rw [←NyA.out] at ho;have n0_:=Aside0.mk (Kd.jd (ok:=(fun _=>True)) (by refine sqR ?_;exact Kd.zp HOS.out (fun _ hk=>⟨trivial,hk⟩)) hg hat);have n2_:=Aside0.mk (hb);have n3_:=Aside0.mk (ho);clear HOS;clear HB;clear HO;have HOS:=n0_;have HB:=n2_;have HO:=n3_;clear n0_ n2_ n3_;clear ho hb hg hat hca)
              go_roundg k1
              case measure=>have:=HK1.out;omega
              case rel=>exact ⟨yA,wrap64 (x+1),rfl,H',⟨by have:=HK1.out;omega⟩,⟨sqR HO.out⟩,⟨by refine sqR ?_;exact Kd.zp HOS.out (fun _ hk=>hk.2)⟩,⟨sqB⟩⟩
          · rw [if_neg c2] at H;exact absurd H (by simp)
        · rw [if_neg c1] at H
          have c1b0:decide (x< (ss.length:Int))=false:=decide_eq_false c1
          clear c1
          obtain rfl:=Option.some.inj H
          go_wp2
          go_ret
          exact ⟨_,rfl,by refine sqR ?_;exact Kd.zp HO.out (fun _ _=>trivial),sqB⟩
end Go.Proofs.YtjlbfbpjcmjdfaaGreat.F
end
