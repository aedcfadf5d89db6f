/- Several texts of this session in one: LHead, LHyper, LFromHyper, LFromFlats, LKnows, LCovering, LFlatsAll, LSameInts, LEqM, PuFnFlats, LawFnFlats. Conditions: as each theorem says. -/
import Derived.Test.YtpgkkofiiokhaaaGreatZFlats6
import Derived.Test.YtpgkkofiiokhaaaGreatZFlats3
import Derived.Test.YtpgkkofiiokhaaaGreatZFlats4
import Derived.Test.YtpgkkofiiokhaaaGreatZFlats5
import Derived.Test.YtpgkkofiiokhaaaGreatZFlats1
import Derived.Test.YtpgkkofiiokhaaaGreatRows
import Derived.Test.YtpgkkofiiokhaaaGreatZFlats0
import Derived.WalkKit
import Derived.ProofKit
import Derived.OpenShut
import Derived.ShutString
import Derived.ChangeOld
import Derived.Below
import Derived.SizedLaws
import Derived.Lib.SmallJoins
set_option maxRecDepth 100000
set_option linter.unusedSimpArgs false
set_option linter.unusedVariables false
namespace Go.Proofs.YtpgkkofiiokhaaaGreat
section
namespace L
open Go.RowKit F Wa Wb Wc
open Mt (Mat)
theorem head_mem {N:Nat}{B:List Nat}(M:Mat N B): ∃b,b∈B∧0<B.length∧rd (ints B) 0=(b:Int):=by
  have hne:=M.ne
  cases B with
  |nil=>exact absurd rfl hne
  |cons b t=>exact ⟨b,List.mem_cons_self ..,by simp,by simp [ints,rd]⟩
end L
end
section
namespace L
open Go.RowKit F Wa Wb Wc
open Bits
open Mt (sdiff qg elems jW cnt J6 full ins del Mat qX rk)
def Q3 (n:Int)(l:List Int):Int:=if z1 n l=true then (VM (rd l 0):Int) else -1
theorem V3 (n:Int)(l:List Int): -1≤Q3 n l∧Q3 n l≤8:=by
  unfold Q3
  split
  · have:VM (rd l 0)≤8:=by
      unfold VM;split
      · exact J6 _
      · omega
    omega
  · omega
theorem Ye (n:Int)(l:List Int)(hl:l.length≤17592186044416):Ev (fun k=>jZ.f k n l) (Q3 n l):=by
  unfold jZ.f Q3
  refine Ev.bind (Ze n l hl) ?_
  cases h:z1 n l
  · simp only [Bool.false_eq_true,if_false];exact Ev.now _
  obtain ⟨N,B,rfl,rfl,hp,M⟩:=j7 h
  obtain ⟨b,hb,hlen,hrd⟩:=head_mem M
  simp only [if_true,hrd,zax,Option.bind_some,zj,show (0:Int)< (B.length:Int) by omega]
  exact Ev.now _
def ym (n:Int)(l:List Int):List Int:=yV n l (Q3 n l - 1)
theorem y4 (n:Int)(l:List Int):(ym n l).length≤17592186044416:=Q2 n l _
theorem JR (n:Int)(l:List Int)(hl:l.length≤17592186044416):Ev (fun k=>jC.f k n l) (ym n l):=by
  unfold jC.f ym
  refine Ev.bind (Ye n l hl) ?_
  have:=V3 n l
  rw [jq (by omega) (by omega)]
  exact Ev.bind (JV n l _ hl) (Ev.now _)
theorem Qz (n:Int)(l:List Int)(hl:l.length≤17592186044416):Ev (fun k=>qj.f k n l) (ym n l):=by
  unfold qj.f ym
  refine Ev.bind (Qo n l hl) ?_
  have hr:=V3 n l
  cases h:z1 n l
  · simp only [Bool.false_eq_true,if_false]
    refine Ev.some ?_
    unfold yV;rw [h];simp
  have hk:Q3 n l=(VM (rd l 0):Int):=by unfold Q3;rw [h];simp
  obtain ⟨N,B,rfl,rfl,hp,M⟩:=j7 h
  obtain ⟨b,hb,hlen,hrd⟩:=head_mem M
  simp only [if_true,zj,show (0:Int)< (B.length:Int) by omega]
  refine Ev.bind (Zh _) ?_
  rw [←hk,jq (by omega) (by omega)]
  exact Ev.bind (JL (N:Int) (ints B) _ hl) (Ev.now _)
end L
end
section
namespace L
open Go.RowKit F Wa Wb Wc
open Bits
open Mt (full Mat qX sub ql co ZA Zy ZC j6 VV JI Q1 rk cnt)
theorem zat (L:List Nat)(p:Nat→Bool):(List.range L.length).any (fun i=>p (L.getD i 0))=L.any p:=by
  have:=Qx L (fun x=> !p x)
  rw [List.any_eq_not_all_not,List.any_eq_not_all_not,this]
theorem zbv (p:Nat→Bool): ∀l:List Nat,l.foldr (fun i r=>p i||r) false=l.any p
  | []=>rfl
  |a::l=>by rw [List.foldr_cons,List.any_cons,zbv p l]
theorem zeQ {H:List Nat}(hH: ∀x∈H,x<256){s:Nat}(hs:s<256)(hl:H.length≤17592186044416):Ev (fun k=>jo.f k (ints H) s) (H.any fun h=>decide (h &&&s=s)):=by
  unfold jo.f
  rw [←zat,←zbv]
  refine vK (fun k i=>jo.l0 k (ints H) s i) H.length _ false ?_ fun i hi r hr=> ?_
  · simp only [jo.l0,zj,show ¬((H.length:Int)< (H.length:Int)) by omega,if_false];exact Ev.now _
  · have hx:H.getD i 0<256:=by rw [show H.getD i 0=H[i] by simp [List.getElem?_eq_getElem hi]];exact hH _ (List.getElem_mem hi)
    have es:=yk (B:=H) i hi
    generalize H.getD i 0=x at hx es ⊢
    simp only [jo.l0,zj,show ((i:Int)< (H.length:Int)) by omega,show (0:Int)≤(i:Int) by omega,if_true,es,zB (show i<9223372036854775807 by omega),Zp x s (by omega) (by omega)]
    by_cases h:x &&&s=s
    · simp only [h,if_true,decide_true,Bool.true_or];exact Ev.now _
    · simp only [show ¬(((x &&&s:Nat):Int)=(s:Int)) by omega,if_false,decide_eq_false h,Bool.false_or];exact hr
def Zg (N:Nat)(H:List Nat)(m:Nat):List Nat:=(List.range m).filter fun s=> !(H.any fun h=>decide (h &&&s=s))
theorem QH {N:Nat}{H:List Nat}{s:Nat}:s∈Zg N H (2 ^N)↔s<2 ^N∧ ∀h∈H,¬sub s h:=by
  unfold Zg
  rw [List.mem_filter,List.mem_range]
  refine and_congr_right fun _=> ?_
  simp only [Bool.not_eq_true',List.any_eq_false,decide_eq_true_eq]
  exact ⟨fun h c hc k=>h c hc (by rw [Nat.and_comm];exact ql.1 k),fun h c hc k=>h c hc (ql.2 (by rw [Nat.and_comm];exact k))⟩
theorem Vy {N:Nat}(hN:N≤8){H:List Nat}: ∀x∈Zg N H (2 ^N),x<256:=fun x hx=>qX hN (QH.1 hx).1
def yM (n:Int)(l:List Int):Int×List Int×Bool:=
  if j9 n l&&(z1 n (ints (QM (Zg n.toNat (l.map Int.toNat) (2 ^n.toNat))))&&decide (ym n (ints (QM (Zg n.toNat (l.map Int.toNat) (2 ^n.toNat))))=l)) then (n,ints (QM (Zg n.toNat (l.map Int.toNat) (2 ^n.toNat))),true) else (0,[],false)
theorem y9 (n:Int)(l:List Int):(yM n l).2.1.length≤17592186044416:=by
  unfold yM;split
  · have:=Jf (Zg n.toNat (l.map Int.toNat) (2 ^n.toNat))
    rw [zj];omega
  · simp
theorem Qn (n:Int)(l:List Int)(hl:l.length≤17592186044416):Ev (fun k=>zy.f k n l) (yM n l):=by
  unfold zy.f yM
  refine Ev.bind (J9 n l hl) ?_
  cases h:j9 n l
  · simp only [Bool.false_eq_true,if_false,Bool.false_and];exact Ev.now _
  obtain ⟨N,H,rfl,hN,rfl,h1,h2,h3,h4⟩:=Jc h
  simp only [if_true,Bool.true_and,qm,Int.toNat_natCast]
  have hp:=zd3 hN
  have key:=jF (fun k acc s=>zy.l0 k N (ints H) acc s) (2 ^N) (fun acc s=>if (!(H.any fun h=>decide (h &&&s=s)))=true then acc++[(s:Int)] else acc) (fun s acc=>acc=ints (Zg N H s))
    (fun s acc hs ha=>⟨by
      rw [ha];unfold Zg
      rw [List.range_succ,List.filter_append]
      cases h:(H.any fun h=>decide (h &&&s=s))<;>simp [ints,h],fun r hr=>by
      have hlen:acc.length<17592186044416:=by
        have:=List.length_filter_le (fun s=> !(H.any fun h=>decide (h &&&s=s))) (List.range s)
        rw [List.length_range] at this
        rw [ha,zj];unfold Zg;omega
      have hs8:=qX hN hs
      simp only [zy.l0,jM hN,Option.bind_some,Z5.2 hs,if_true,zB (show s<9223372036854775807 by omega)]
      refine Ev.bind (zeQ h3 hs8 (by omega)) ?_
      cases hu:(H.any fun h=>decide (h &&&s=s))
      · simp only [hu,Bool.not_false,if_true] at hr
        simp only [Bool.false_eq_true,if_false,hlen,if_true];exact hr
      · simp only [hu,Bool.not_true,Bool.false_eq_true,if_false] at hr
        simp only [if_true];exact hr⟩) [] (by simp [Zg,ints])
  refine key.2 _ (Ev.succ ?_)
  rw [key.1]
  simp only [zy.l0,jM hN,Option.bind_some,if_neg (fun h=>Nat.lt_irrefl _ (Z5.1 h))]
  have hlen:=Jf (Zg N H (2 ^N))
  have hsl:(Zg N H (2 ^N)).length≤256:=ZD (Vy hN) (vF _ _)
  refine Ev.bind (JM (Vy hN) (by omega)) (Ev.bind (Qo _ _ (by rw [zj];omega)) ?_)
  cases hm:z1 (N:Int) (ints (QM (Zg N H (2 ^N))))
  · simp only [Bool.false_eq_true,if_false,Bool.false_and];exact Ev.now _
  simp only [if_true,Bool.true_and]
  refine Ev.bind (Qz _ _ (by rw [zj];omega)) (Ev.bind (zdL _ _ (y4 _ _)) ?_)
  by_cases he:ym (N:Int) (ints (QM (Zg N H (2 ^N))))=ints H
  · simp only [decide_eq_true he,if_true];exact Ev.now _
  · simp only [decide_eq_false he,Bool.false_eq_true,if_false];exact Ev.now _
theorem zb3 {N:Nat}{B:List Nat}(s:Nat):clo B s 0 N=Mt.cl N B s:=Mt.ext fun i=>by rw [Yn,Mt.zen,Nat.zero_testBit,Bool.false_or]
theorem Jj {A B:List Nat}(h:ints A=ints B):A=B:=by rw [←qm A,h,qm]
theorem zaV {N:Nat}{B:List Nat}(h:z1 (N:Int) (ints B)=true):Mat N B:=by
  obtain ⟨N',B',e1,e2,_,M⟩:=j7 h
  have e1':N=N':=by omega
  subst e1'
  rw [Jj e2];exact M
theorem VT {N:Nat}{B:List Nat}(h:z1 (N:Int) (ints B)=true): ∃K:List Nat,ym (N:Int) (ints B)=ints K∧ ∀s,s∈K↔Q1 N B s:=by
  have M:=zaV h
  obtain ⟨b,hb,hlen,hrd⟩:=head_mem M
  have hr:Q3 (N:Int) (ints B)=(rk B (full N):Int):=by
    unfold Q3
    rw [if_pos h,hrd,Jb (M.lt8 hb),M.VA hb (Mt.yO _)]
  unfold ym yV
  rw [if_pos h,qm,Int.toNat_natCast,hr]
  refine ⟨_,rfl,fun s=> ?_⟩
  unfold Za jS Vd
  simp only [List.mem_filter,List.mem_range,decide_eq_true_eq,zb3]
  unfold Q1
  constructor
  · rintro ⟨⟨a,b⟩,c⟩;exact ⟨a,b,by omega⟩
  · rintro ⟨a,b,c⟩;exact ⟨⟨a,b⟩,by omega⟩
theorem YC {N:Nat}{B B':List Nat}(h: ∀x,x∈B'↔x∈B)(s:Nat):JI N B' s↔JI N B s:=by
  unfold JI
  simp only [Mt.zdg h]
section
variable {N:Nat} {H:List Nat}
theorem zeB (x:Nat)(hx:x∈jc (j6 N H))(hN:N≤8):x<2 ^N:=by
  rw [vJ (ZW hN)] at hx
  obtain ⟨b,_,rfl⟩:=List.mem_map.1 hx
  exact ZA N b
theorem Qh (hN:N≤8)(hH: ∀x∈H,x<2 ^N){x:Nat}:x∈jc (j6 N H)↔x<2 ^N∧co N x∈H:=by
  rw [vJ (ZW hN)]
  constructor
  · intro h
    have hx:x<2 ^N:=by obtain ⟨b,_,rfl⟩:=List.mem_map.1 h;exact ZA N b
    exact ⟨hx,(VV hH hx).1 h⟩
  · rintro ⟨hx,h⟩;exact (VV hH hx).2 h
theorem Jw (hN:N≤8)(hH: ∀x∈H,x<2 ^N){s:Nat}(hs:s<2 ^N):s∈Zg N H (2 ^N)↔co N s∈Zq N (jc (j6 N H)):=by
  rw [QH,QI]
  constructor
  · rintro ⟨_,h⟩
    refine ⟨ZA N s,fun c hc k=> ?_⟩
    obtain ⟨h1,h2⟩:=(Qh hN hH).1 hc
    refine h _ h2 ((ZC hs (ZA N c)).1 ?_)
    rw [Zy h1];exact k
  · rintro ⟨_,h⟩
    refine ⟨hs,fun c hc k=> ?_⟩
    refine h (co N c) ((Qh hN hH).2 ⟨ZA N c,by rw [Zy (hH c hc)];exact hc⟩) ((ZC hs (hH c hc)).2 k)
theorem zeP (hN:N≤8)(hH: ∀x∈H,x<2 ^N):QM (Zg N H (2 ^N))=jc (j6 N (Qe (Zq N (jc (j6 N H))))):=by
  have hF: ∀x∈Qe (Zq N (jc (j6 N H))),x<2 ^N:=fun x hx=>(QI.1 ((QL (Q8 hN)).1 hx).1).1
  refine vG (ZP _) (vC _) fun x=> ?_
  rw [QA (Vy hN),Qh hN hF,QL (Q8 hN)]
  constructor
  · rintro ⟨h1,h2⟩
    have hx:=(QH.1 h1).1
    refine ⟨hx,(Jw hN hH hx).1 h1,fun t ht hs=> ?_⟩
    have htl:=(QI.1 ht).1
    have h3:co N t∈Zg N H (2 ^N):=(Jw hN hH (ZA N t)).2 (by rw [Zy htl];exact ht)
    have h4:=h2 _ h3 ((ZC (ZA N t) hx).1 (by rw [Zy htl];exact hs))
    rw [←h4,Zy htl]
  · rintro ⟨hx,h1,h2⟩
    refine ⟨(Jw hN hH hx).2 h1,fun t ht hs=> ?_⟩
    have htl:=(QH.1 ht).1
    have h3:=h2 _ ((Jw hN hH htl).1 ht) ((ZC htl hx).2 hs)
    rw [←Zy htl,h3,Zy hx]
end
theorem Zv (n:Int)(l:List Int)(hl:l.length≤17592186044416):Ev (fun k=>qF.f k n l) (yM n l):=by
  unfold qF.f yM
  refine Ev.bind (QN n l hl) ?_
  cases h:j9 n l
  · simp only [Bool.false_eq_true,if_false,Bool.false_and];exact Ev.now _
  obtain ⟨N,H,rfl,hN,rfl,h1,h2,h3,h4⟩:=Jc h
  simp only [if_true,Bool.true_and,qm,Int.toNat_natCast]
  have hcl:=QB (j6 N H)
  refine Ev.bind (QD hN h1 (by omega)) (Ev.bind (zah _ _ (by rw [zj];omega)) ?_)
  rw [zeP hN h1]
  have hC: ∀x∈jc (j6 N H),x<2 ^N:=fun x hx=>zeB x hx hN
  have hF: ∀x∈Qe (Zq N (jc (j6 N H))),x<2 ^N:=fun x hx=>(QI.1 ((QL (Q8 hN)).1 hx).1).1
  have hm: ∀ {x:Nat},x∈jc (j6 N H)↔x<2 ^N∧co N x∈H:=Qh hN h1
  unfold VO
  rw [Qm hN hC (vC _)]
  simp only [Bool.true_and,qm,Int.toNat_natCast]
  have hms:(Qe (Zq N (jc (j6 N H)))).Pairwise (· < ·):=Qp _
  have hml:=Q6 (Zq N (jc (j6 N H)))
  generalize Qe (Zq N (jc (j6 N H)))=F at hF hms hml ⊢
  have hmF: ∀ {x:Nat},x∈jc (j6 N F)↔x<2 ^N∧co N x∈F:=Qh hN hF
  have hdl:=QB (j6 N F)
  cases hmat:z1 (N:Int) (ints F)
  · have hz:z1 (N:Int) (ints (jc (j6 N F)))=false:=by
      cases hz:z1 (N:Int) (ints (jc (j6 N F)))
      · rfl
      have M:=zaV hz
      rw [←hmat]
      refine (yY (M.zfD.congr fun x=> ?_) hms).symm
      rw [←vJ (ZW hN),Qh hN (fun b hb=>(hmF.1 hb).1)]
      constructor
      · intro hx;exact ⟨hF x hx,hmF.2 ⟨ZA N x,by rw [Zy (hF x hx)];exact hx⟩⟩
      · rintro ⟨hx,hh⟩;have:=(hmF.1 hh).2;rwa [Zy hx] at this
    rw [hz]
    simp only [Bool.false_eq_true,if_false,Bool.false_and]
    refine Ev.bind (YB 0 [] (by simp)) ?_
    exact Ev.now _
  have M:=zaV hmat
  have hz:z1 (N:Int) (ints (jc (j6 N F)))=true:=Yz M.zfD
  rw [hz]
  simp only [Bool.true_and]
  by_cases hc:Yd (N:Int) (ints F)=ints (jc (j6 N H))
  · simp only [decide_eq_true hc,if_true]
    refine Ev.bind (YB _ _ (by rw [zj];omega)) ?_
    unfold zdO
    rw [hmat]
    simp only [if_true,qm,Int.toNat_natCast]
    refine Ev.bind (JR _ _ (by rw [zj];omega)) (Ev.bind (zcz _ _ (y4 _ _)) ?_)
    by_cases he:ym (N:Int) (ints (jc (j6 N F)))=ints H
    · simp only [decide_eq_true he,if_true];exact Ev.now _
    · simp only [decide_eq_false he,Bool.false_eq_true,if_false];exact Ev.now _
  · have he: ¬ym (N:Int) (ints (jc (j6 N F)))=ints H:=fun he=>hc (by
      obtain ⟨K,e,hK⟩:=VT hz
      rw [e] at he
      have hKH:=Jj he
      subst hKH
      unfold Yd
      rw [if_pos hmat,qm,Int.toNat_natCast]
      congr 1
      refine vG (ZP _) (vC _) fun x=> ?_
      rw [zdA M,hm]
      have MM:=zaV hz
      have hcc: ∀y,y∈j6 N (jc (j6 N F))↔y∈F:=fun y=>by
        rw [←vJ (ZW hN),Qh hN (fun b hb=>(hmF.1 hb).1)]
        constructor
        · rintro ⟨hx,hh⟩;have:=(hmF.1 hh).2;rwa [Zy hx] at this
        · intro hx;exact ⟨hF y hx,hmF.2 ⟨ZA N y,by rw [Zy (hF y hx)];exact hx⟩⟩
      constructor
      · intro h
        refine ⟨h.1,(hK _).2 ((MM.Y1 (ZA N x)).2 ?_)⟩
        rw [Zy h.1,YC hcc];exact h
      · rintro ⟨hx,h⟩
        have:=(MM.Y1 (ZA N x)).1 ((hK _).1 h)
        rwa [Zy hx,YC hcc] at this)
    simp only [decide_eq_false hc,decide_eq_false he,Bool.false_eq_true,if_false]
    refine Ev.bind (YB 0 [] (by simp)) ?_
    exact Ev.now _
end L
end
section
namespace L
open Go.RowKit F Wa Wb Wc
open Bits
open Mt (full Mat qX)
def yc (N:Nat)(L:List Nat):List Nat:=L.filter fun s=>decide (s≠full N)
theorem Qv (N:Nat)(L:List Nat):(yc N L).length≤L.length:=List.length_filter_le ..
theorem J0 {N:Nat}{L:List Nat}(hL: ∀x∈L,x<256): ∀x∈yc N L,x<256:=fun x hx=>hL x (List.mem_filter.1 hx).1
theorem Vx (N:Nat)(L:List Nat)(i:Nat)(hi:i<L.length):ints (yc N (L.take (i+1)))=if ((L.getD i 0:Nat):Int)=((full N:Nat):Int) then ints (yc N (L.take i)) else ints (yc N (L.take i))++[((L.getD i 0:Nat):Int)]:=by
  unfold yc
  rw [Zk (p:=fun s=>decide (s≠full N)) L i hi]
  by_cases h:L.getD i 0=full N
  · rw [decide_eq_false (fun k=>k h),if_neg (by decide),if_pos (by rw [h])]
  · rw [decide_eq_true h,if_pos rfl,if_neg (by omega)]
    unfold ints;rw [List.map_append];rfl
def Zs (l:List Int)(t:Int×List Int×Bool):Int×List Int×Bool:=if t.2.2&&decide (jV t.1 t.2.1=l) then (t.1,t.2.1,true) else (0,[],false)
def yK (n:Int)(l:List Int):Int×List Int×Bool:=
  if j9 n l=true then Zs l (yM n (ints (Qe (yc n.toNat (l.map Int.toNat))))) else (0,[],false)
theorem Vn (n:Int)(l:List Int):(yK n l).2.1.length≤17592186044416:=by
  unfold yK Zs
  have:=y9 n (ints (Qe (yc n.toNat (l.map Int.toNat))))
  split
  · split
    · exact this
    · simp
  · simp
theorem zcs (l:List Int){t:Int×List Int×Bool}(ht:t.2.1.length≤17592186044416):Ev (fun k=>if t.2.2=true then ((qM.f k t.1 t.2.1).bind fun t294=>((qT.f k t294 l).bind fun t297=>(if t297=true then (some (t.1,t.2.1,true)) else (some (0,([]:List Int),false))))) else (some (0,([]:List Int),false))) (Zs l t):=by
  obtain ⟨a,b,c⟩:=t
  unfold Zs
  cases c
  · simp only [Bool.false_eq_true,if_false,Bool.false_and];exact Ev.now _
  simp only [if_true,Bool.true_and]
  refine Ev.bind (Qr _ _ ht) (Ev.bind (zdL _ _ (yj _ _)) ?_)
  by_cases he:jV a b=l
  · simp only [decide_eq_true he,if_true];exact Ev.now _
  · simp only [decide_eq_false he,Bool.false_eq_true,if_false];exact Ev.now _
theorem zb6 (l:List Int){t:Int×List Int×Bool}(ht:t.2.1.length≤17592186044416):Ev (fun k=>if t.2.2=true then ((vq.f k t.1 t.2.1).bind fun t294=>((zL.f k t294 l).bind fun t297=>(if t297=true then (some (t.1,t.2.1,true)) else (some (0,([]:List Int),false))))) else (some (0,([]:List Int),false))) (Zs l t):=by
  obtain ⟨a,b,c⟩:=t
  unfold Zs
  cases c
  · simp only [Bool.false_eq_true,if_false,Bool.false_and];exact Ev.now _
  simp only [if_true,Bool.true_and]
  refine Ev.bind (za9 _ _ ht) (Ev.bind (zcz _ _ (yj _ _)) ?_)
  by_cases he:jV a b=l
  · simp only [decide_eq_true he,if_true];exact Ev.now _
  · simp only [decide_eq_false he,Bool.false_eq_true,if_false];exact Ev.now _
theorem zbD {N:Nat}{H L:List Nat}(hf:full N∉L):Zs (ints L) (yM (N:Int) (ints H))=(0,[],false):=by
  unfold Zs yM
  split
  · rename_i hh
    simp only [Bool.true_and]
    split
    · rename_i h
      simp only [Bool.and_eq_true,decide_eq_true_eq] at h hh
      obtain ⟨_,hm,_⟩:=hh
      exfalso
      refine hf ?_
      simp only [qm,Int.toNat_natCast] at h hm
      unfold jV at h
      rw [if_pos hm,qm,Int.toNat_natCast] at h
      rw [←Jj h]
      unfold jS Vd
      rw [List.mem_filter,List.mem_range,decide_eq_true_eq,zb3]
      exact ⟨Mt.Zn N,Mt.zcE⟩
    · rfl
  · rfl
theorem zbN (n:Int)(l:List Int)(hl:l.length≤17592186044416):Ev (fun k=>qb.f k n l) (yK n l):=by
  unfold qb.f yK
  refine Ev.bind (J9 n l hl) ?_
  cases h:j9 n l
  · simp only [Bool.false_eq_true,if_false]
    refine Ev.succ ?_
    simp only [qb.j0,if_true];exact Ev.now _
  obtain ⟨N,L,rfl,hN,rfl,h1,h2,h3,h4⟩:=Jc h
  simp only [if_true,qm,Int.toNat_natCast,jM hN,Option.bind_some]
  refine Ev.bind (Vh _ _ hl) (Ev.succ ?_)
  simp only [qb.j0]
  by_cases hf:full N∈L
  · simp only [decide_eq_true (Vq.2 hf),Bool.not_true,Bool.false_eq_true,if_false]
    have key:=jF (fun k acc i=>qb.l0 k N (ints L) acc i) L.length (fun acc i=>if ((L.getD i 0:Nat):Int)=((full N:Nat):Int) then acc else acc++[((L.getD i 0:Nat):Int)]) (fun i acc=>acc=ints (yc N (L.take i)))
      (fun i acc hi ha=>⟨by rw [Vx N L i hi,ha],fun x hx=>by
        have hacc:acc.length<17592186044416:=by
          have:=Qv N (L.take i)
          rw [List.length_take] at this
          rw [ha,zj];omega
        have es:=yk (B:=L) i hi
        generalize L.getD i 0=s at es hx
        simp only [qb.l0,zj,show ((i:Int)< (L.length:Int)) by omega,show (0:Int)≤(i:Int) by omega,if_true,es,zB (show i<9223372036854775807 by omega),jM hN,Option.bind_some]
        by_cases h:(s:Int)=((full N:Nat):Int)
        · simp only [h,if_true] at hx ⊢;exact hx
        · simp only [h,if_false,hacc,if_true] at hx ⊢;exact hx⟩) [] (by simp [yc,ints])
    refine key.2 _ (Ev.succ ?_)
    rw [key.1,List.take_length]
    simp only [qb.l0,zj,show ¬((L.length:Int)< (L.length:Int)) by omega,if_false]
    have hpl:=Qv N L
    have hml:=Q6 (yc N L)
    exact Ev.bind (zaq (J0 h3) (by omega)) (Ev.bind (Qn _ _ (by rw [zj];omega)) (zcs _ (y9 _ _)))
  · simp only [decide_eq_false (fun k=>hf (Vq.1 k)),Bool.not_false,if_true]
    refine Ev.some ?_
    rw [zbD hf]
theorem V5 (n:Int)(l:List Int)(hl:l.length≤17592186044416):Ev (fun k=>qA.f k n l) (yK n l):=by
  unfold qA.f yK
  refine Ev.bind (QN n l hl) ?_
  cases h:j9 n l
  · simp only [Bool.false_eq_true,if_false];exact Ev.now _
  obtain ⟨N,L,rfl,hN,rfl,h1,h2,h3,h4⟩:=Jc h
  simp only [if_true,qm,Int.toNat_natCast,zj]
  have key:=jF (fun k acc i=>qA.l0 k N (ints L) acc (ints L) (L.length:Int) i) L.length (fun acc i=>if ((L.getD i 0:Nat):Int)=((full N:Nat):Int) then acc else acc++[((L.getD i 0:Nat):Int)]) (fun i acc=>acc=ints (yc N (L.take i)))
    (fun i acc hi ha=>⟨by rw [Vx N L i hi,ha],fun x hx=>by
      have hacc:acc.length<17592186044416:=by
        have:=Qv N (L.take i)
        rw [List.length_take] at this
        rw [ha,zj];omega
      have es:=yk (B:=L) i hi
      generalize L.getD i 0=s at es hx
      simp only [qA.l0,zj,show ((i:Int)< (L.length:Int)) by omega,show (0:Int)≤(i:Int) by omega,if_true,es,zB (show i<9223372036854775807 by omega),JF hN,Option.bind_some]
      by_cases h:(s:Int)=((full N:Nat):Int)
      · simp only [h,if_true] at hx ⊢;exact hx
      · simp only [h,if_false,hacc,if_true] at hx ⊢;exact hx⟩) [] (by simp [yc,ints])
  refine key.2 _ (Ev.succ ?_)
  rw [key.1,List.take_length]
  simp only [qA.l0,zj,show ¬((L.length:Int)< (L.length:Int)) by omega,if_false]
  have hpl:=Qv N L
  have hml:=Q6 (yc N L)
  exact Ev.bind (JU (J0 h3) (by omega)) (Ev.bind (Zv _ _ (by rw [zj];omega)) (zb6 _ (y9 _ _)))
end L
end
section
namespace L
open Go.RowKit F Wa Wb Wc
open Bits
theorem zez {N:Nat}{s:Int}(h:ZY (N:Int) s=true): ∃S:Nat,s=S∧S<2 ^N:=by
  simp only [ZY,decide_eq_true_eq,Int.toNat_natCast] at h
  obtain ⟨S,rfl⟩:=Int.eq_ofNat_of_zero_le h.2.2.1
  refine ⟨S,rfl,?_⟩
  have e:(2:Int) ^N=((2 ^N:Nat):Int):=by simp
  rw [e] at h;omega
theorem zeS (n:Int)(l:List Int)(s:Int)(hl:l.length≤17592186044416):Ev (fun k=>yQ.f k n l s) (z1 n l&&ZY n s):=by
  unfold yQ.f
  refine Ev.bind (Ze n l hl) ?_
  cases h:z1 n l
  · simp only [Bool.false_eq_true,if_false,Bool.false_and];exact Ev.now _
  simp only [if_true,zbc,Option.bind_some,Bool.true_and]
  exact Ev.now _
end L
end
section
namespace L
open Go.RowKit F Wa Wb Wc
open Bits
open Mt (sdiff cnt full Mat qX rk)
def yI (F:List Nat)(s:Nat):List Nat:=F.filter fun t=> !decide (t=s)&&decide (s &&&t=s)
theorem V9 {F:List Nat}{s:Nat}(i:Nat)(hi:i<F.length):ints (yI (F.take (i+1)) s)=if (!decide (F.getD i 0=s)&&decide (s &&&F.getD i 0=s))=true then ints (yI (F.take i) s)++[((F.getD i 0:Nat):Int)] else ints (yI (F.take i) s):=by
  unfold yI
  rw [Zk F i hi]
  split<;>simp [ints]
theorem QZ (F:List Nat)(s:Nat):(yI F s).length≤F.length:=List.length_filter_le ..
section
variable {F:List Nat}
theorem zfb (hF: ∀t∈F,t<256)(hl:F.length≤256){s:Nat}(hs:s<256):Ev (fun k=>zY.l0 k (s:Int) (ints F) [] 0) (ints (QM (yI F s))):=by
  have key:=jF (fun k acc i=>zY.l0 k (s:Int) (ints F) acc i) F.length (fun acc i=>if (!decide (F.getD i 0=s)&&decide (s &&&F.getD i 0=s))=true then acc++[((F.getD i 0:Nat):Int)] else acc) (fun i acc=>acc=ints (yI (F.take i) s))
    (fun i acc hi ha=>⟨by rw [V9 i hi,ha],fun r hr=>by
      have hacc:acc.length<17592186044416:=by
        have:=QZ (F.take i) s
        rw [List.length_take] at this
        rw [ha,zj];omega
      have ht:F.getD i 0<256:=by rw [show F.getD i 0=F[i] by simp [List.getElem?_eq_getElem hi]];exact hF _ (List.getElem_mem hi)
      have es:=yk (B:=F) i hi
      generalize F.getD i 0=t at ht es hr
      simp only [zY.l0,zj,show ((i:Int)< (F.length:Int)) by omega,show (0:Int)≤(i:Int) by omega,if_true,es,zB (show i<9223372036854775807 by omega),Zp t s (by omega) (by omega),Nat.and_comm t s,hacc]
      by_cases h1:t=s
      · subst h1;simp only [if_true];simpa using hr
      · simp only [show ¬((t:Int)=(s:Int)) by omega,if_false]
        by_cases h2:s &&&t=s
        · simp only [show (((s &&&t:Nat):Int)=(s:Int)) by rw [h2],if_true];simpa [h1,h2] using hr
        · simp only [show ¬(((s &&&t:Nat):Int)=(s:Int)) by omega,if_false];simpa [h1,h2] using hr⟩) [] (by simp [yI,ints])
  refine key.2 _ (Ev.succ ?_)
  rw [key.1,List.take_length]
  simp only [zY.l0,zj,show ¬((F.length:Int)< (F.length:Int)) by omega,if_false]
  exact Ev.bind (JM (fun t ht=>hF t (List.mem_filter.1 ht).1) (by have:=QZ F s;omega)) (Ev.now _)
theorem zeD (hF: ∀t∈F,t<256)(hl:F.length≤256){s:Nat}(hs:s<256):Ev (fun k=>zW.l0 k (s:Int) [] (ints F) ((ints F).length:Int) 0) (ints (QM (yI F s))):=by
  rw [zj]
  have key:=jF (fun k acc i=>zW.l0 k (s:Int) acc (ints F) (F.length:Int) i) F.length (fun acc i=>if (!decide (F.getD i 0=s)&&decide (s &&&F.getD i 0=s))=true then acc++[((F.getD i 0:Nat):Int)] else acc) (fun i acc=>acc=ints (yI (F.take i) s))
    (fun i acc hi ha=>⟨by rw [V9 i hi,ha],fun r hr=>by
      have hacc:acc.length<17592186044416:=by
        have:=QZ (F.take i) s
        rw [List.length_take] at this
        rw [ha,zj];omega
      have ht:F.getD i 0<256:=by rw [show F.getD i 0=F[i] by simp [List.getElem?_eq_getElem hi]];exact hF _ (List.getElem_mem hi)
      have es:=yk (B:=F) i hi
      generalize F.getD i 0=t at ht es hr
      simp only [zW.l0,zj,show ((i:Int)< (F.length:Int)) by omega,show (0:Int)≤(i:Int) by omega,if_true,es,zB (show i<9223372036854775807 by omega),Qg hs ht,Option.bind_some,decide_eq_true_eq,hacc]
      by_cases h1:t=s
      · subst h1;simp only [if_true];simpa using hr
      · simp only [show ¬((t:Int)=(s:Int)) by omega,if_false]
        by_cases h2:s &&&t=s
        · simp only [h2,if_true];simpa [h1,h2] using hr
        · simp only [h2,if_false];simpa [h1,h2] using hr⟩) [] (by simp [yI,ints])
  refine key.2 _ (Ev.succ ?_)
  rw [key.1,List.take_length]
  simp only [zW.l0,zj,show ¬((F.length:Int)< (F.length:Int)) by omega,if_false]
  exact Ev.bind (JK (fun t ht=>hF t (List.mem_filter.1 ht).1) (by have:=QZ F s;omega)) (Ev.now _)
end
def QW (n:Int)(l:List Int)(s:Int):List Int:=if decide (s∈jV n l)=true then ints (QM (yI (jS n.toNat (l.map Int.toNat) (2 ^n.toNat)) s.toNat)) else []
theorem zao (n:Int)(l:List Int)(s:Int):(QW n l s).length≤17592186044416:=by
  unfold QW
  split
  · have:=Jf (yI (jS n.toNat (l.map Int.toNat) (2 ^n.toNat)) s.toNat)
    rw [zj];omega
  · simp
theorem yP {N:Nat}{B:List Nat}{s:Nat}:s∈jS N B (2 ^N)↔s<2 ^N∧clo B s 0 N=s:=by
  unfold jS Vd
  rw [List.mem_filter,List.mem_range,decide_eq_true_eq]
theorem zaI {N:Nat}{B:List Nat}(hN:N≤8):(jS N B (2 ^N)).length≤256:=by
  have hp:(2:Nat) ^N≤2 ^8:=Nat.pow_le_pow_right (by decide) hN
  have:=List.length_filter_le (Vd N B) (List.range (2 ^N))
  rw [List.length_range] at this
  unfold jS;omega
theorem Yi (n:Int)(l:List Int)(s:Int)(hl:l.length≤17592186044416):Ev (fun k=>zY.f k n l s) (QW n l s):=by
  unfold zY.f QW
  refine Ev.bind (Qr n l hl) (Ev.bind (Vh _ s (yj n l)) ?_)
  by_cases hd:s∈jV n l
  · have hd':=hd
    unfold jV at hd
    cases h:z1 n l
    · rw [h] at hd;simp at hd
    rw [h] at hd
    simp only [decide_eq_true hd',if_true]
    unfold jV
    rw [h]
    obtain ⟨N,B,rfl,rfl,hp,M⟩:=j7 h
    simp only [if_true,qm,Int.toNat_natCast] at hd ⊢
    obtain ⟨S,hS,rfl⟩:=Jx.1 hd
    rw [Int.toNat_natCast]
    exact zfb (fun t ht=>qX M.size (yP.1 ht).1) (zaI M.size) (qX M.size (yP.1 hS).1)
  · simp only [decide_eq_false hd,Bool.false_eq_true,if_false];exact Ev.now _
theorem zdW (n:Int)(l:List Int)(s:Int)(hl:l.length≤17592186044416):Ev (fun k=>yz.f k n l s) (decide (s∈jV n l)):=by
  unfold yz.f jV
  refine Ev.bind (zeS n l s hl) ?_
  cases h:z1 n l
  · simp only [Bool.false_and,Bool.false_eq_true,if_false];exact Ev.some (by simp)
  obtain ⟨N,B,rfl,rfl,hp,M⟩:=j7 h
  rw [zj] at hl
  simp only [Bool.true_and,if_true,qm,Int.toNat_natCast]
  cases hs:ZY (N:Int) s
  · simp only [Bool.false_eq_true,if_false]
    refine Ev.some ?_
    symm
    rw [decide_eq_false_iff_not]
    intro hm
    obtain ⟨S,hS,rfl⟩:=Jx.1 hm
    have:=(yP.1 hS).1
    have hN:=M.size
    simp only [ZY,decide_eq_false_iff_not,Int.toNat_natCast] at hs
    apply hs
    have e:(2:Int) ^N=((2 ^N:Nat):Int):=by simp
    rw [e];omega
  · obtain ⟨S,rfl,hS⟩:=zez hs
    simp only [if_true]
    refine Ev.bind (zfd M.size M.lt hl hS) (Ev.some ?_)
    rw [Bool.eq_iff_iff,beq_iff_eq,decide_eq_true_eq,Jx]
    constructor
    · intro e;exact ⟨S,yP.2 ⟨hS,by omega⟩,rfl⟩
    · rintro ⟨T,hT,e⟩
      have:T=S:=by omega
      subst this
      have:=(yP.1 hT).2;omega
theorem Yf (n:Int)(l:List Int)(s:Int)(hl:l.length≤17592186044416):Ev (fun k=>zW.f k n l s) (QW n l s):=by
  unfold zW.f QW
  refine Ev.bind (zdW n l s hl) ?_
  by_cases hd:s∈jV n l
  · have hd':=hd
    unfold jV at hd
    cases h:z1 n l
    · rw [h] at hd;simp at hd
    rw [h] at hd
    simp only [decide_eq_true hd',if_true]
    obtain ⟨N,B,rfl,rfl,hp,M⟩:=j7 h
    rw [zj] at hl
    simp only [if_true,qm,Int.toNat_natCast] at hd ⊢
    obtain ⟨S,hS,rfl⟩:=Jx.1 hd
    rw [Int.toNat_natCast]
    exact Ev.bind (zcT M hl) (zeD (fun t ht=>qX M.size (yP.1 ht).1) (zaI M.size) (qX M.size (yP.1 hS).1))
  · simp only [decide_eq_false hd,Bool.false_eq_true,if_false];exact Ev.now _
end L
end
section
namespace L
open Go.RowKit F Wa Wb Wc
open Bits
open Mt (sdiff full Zn cnt rk co ZA Mat qX sub ins span Q1 flat qg)
section
variable {N:Nat} {B:List Nat}
theorem QK {s:Nat}:s∈jS N B (2 ^N)↔flat N B s:=by rw [yP,zb3];rfl
theorem Qw:(jS N B (2 ^N)).Pairwise (· < ·):=vF _ _
theorem zdM (M:Mat N B)(hp:B.Pairwise (· < ·)){K:List Nat}(hK: ∀s,s∈K↔Q1 N B s):QM (Zg N K (2 ^N))=B:=by
  have hs: ∀s,s∈Zg N K (2 ^N)↔s<2 ^N∧span B s:=fun s=>by
    rw [QH]
    constructor
    · rintro ⟨h1,h2⟩
      refine ⟨h1,Classical.byContradiction fun h=> ?_⟩
      obtain ⟨x,hx,hsx⟩:=M.zbH h1 h
      exact h2 x ((hK x).2 hx) hsx
    · rintro ⟨h1,h2⟩
      exact ⟨h1,fun x hx hsx=>M.YT ((hK x).1 hx) hsx h2⟩
  refine vG (ZP _) hp fun s=> ?_
  rw [QA (Vy M.size),hs,M.Q7]
  constructor
  · rintro ⟨⟨h1,h2⟩,h3⟩
    exact ⟨h2,fun t ht hts=>h3 t ((hs t).2 ⟨Mt.jN hts h1,ht⟩) hts⟩
  · rintro ⟨h1,h2⟩
    have hb:=M.Q7.2 ⟨h1,h2⟩
    exact ⟨⟨M.lt s hb,h1⟩,fun t ht hts=>h2 t ((hs t).1 ht).2 hts⟩
theorem V2 (M:Mat N B)(hp:B.Pairwise (· < ·)):yM (N:Int) (ym (N:Int) (ints B))=((N:Int),ints B,true):=by
  have h:=yY M hp
  have hlist: ∃K:List Nat,ym (N:Int) (ints B)=ints K∧(∀s,s∈K↔Q1 N B s)∧K.Pairwise (· < ·):=by
    obtain ⟨K,hK,hm⟩:=VT h
    refine ⟨K,hK,hm,?_⟩
    have e:ym (N:Int) (ints B)=ints (Za B (jS N B (2 ^N)) (Q3 (N:Int) (ints B) - 1)):=by
      unfold ym yV;rw [if_pos h,qm,Int.toNat_natCast]
    rw [Jj (hK.symm.trans e)]
    exact List.Pairwise.filter _ Qw
  obtain ⟨K,hK,hm,hs⟩:=hlist
  have hf:j9 (N:Int) (ints K)=true:=Qm M.size (fun x hx=>((hm x).1 hx).1) hs
  have hb:=zdM M hp hm
  unfold yM
  rw [hK]
  simp only [hf,qm,Int.toNat_natCast,hb,h,hK,decide_true,Bool.and_self,if_true]
theorem zbK (M:Mat N B)(hp:B.Pairwise (· < ·)):yK (N:Int) (jV (N:Int) (ints B))=((N:Int),ints B,true):=by
  have h:=yY M hp
  have ef:jV (N:Int) (ints B)=ints (jS N B (2 ^N)):=by unfold jV;rw [if_pos h,qm,Int.toNat_natCast]
  have hlt: ∀x∈jS N B (2 ^N),x<2 ^N:=fun x hx=>(QK.1 hx).1
  have hf:j9 (N:Int) (ints (jS N B (2 ^N)))=true:=Qm M.size hlt Qw
  obtain ⟨K,hK,hm⟩:=VT h
  have hKs:K.Pairwise (· < ·):=by
    have e:ym (N:Int) (ints B)=ints (Za B (jS N B (2 ^N)) (Q3 (N:Int) (ints B) - 1)):=by
      unfold ym yV;rw [if_pos h,qm,Int.toNat_natCast]
    rw [Jj (hK.symm.trans e)]
    exact List.Pairwise.filter _ Qw
  have hmax:Qe (yc N (jS N B (2 ^N)))=K:=by
    refine vG (Qp _) hKs fun s=> ?_
    have hmem: ∀t,t∈yc N (jS N B (2 ^N))↔flat N B t∧t≠full N:=fun t=>by
      unfold yc;rw [List.mem_filter,QK,decide_eq_true_eq]
    rw [QL (J0 fun x hx=>qX M.size (hlt x hx)),hmem,hm,M.zdo]
    constructor
    · rintro ⟨⟨h1,h2⟩,h3⟩;exact ⟨h1,h2,fun t ht hne hst=>(h3 t ((hmem t).2 ⟨ht,hne⟩) hst).symm⟩
    · rintro ⟨h1,h2,h3⟩;exact ⟨⟨h1,h2⟩,fun t ht hst=>(h3 t ((hmem t).1 ht).1 ((hmem t).1 ht).2 hst).symm⟩
  unfold yK Zs
  rw [ef]
  simp only [hf,if_true,qm,Int.toNat_natCast,hmax]
  rw [←hK,V2 M hp]
  simp only [ef,decide_true,Bool.and_self,if_true]
def VI (s:Nat)(L:List Nat):Nat:=L.foldl (fun a t=>a |||sdiff t s) 0
theorem zc9 (s e:Nat): ∀(L:List Nat) (a:Nat),(L.foldl (fun a t=>a |||sdiff t s) a).testBit e=(a.testBit e||L.any fun t=>(sdiff t s).testBit e)
  | [],a=>by simp
  |t::L,a=>by rw [List.foldl_cons,zc9 s e L,Mt.yo,List.any_cons,Bool.or_assoc]
theorem Y6 (s e:Nat)(L:List Nat):(VI s L).testBit e=L.any fun t=>(sdiff t s).testBit e:=by unfold VI;rw [zc9,Mt.yf,Bool.false_or]
theorem zdx (s:Nat)(L:List Nat)(i:Nat)(hi:i<L.length):VI s (L.take (i+1))=VI s (L.take i) |||sdiff L[i] s:=by
  unfold VI;rw [List.take_succ_eq_append_getElem hi,List.foldl_append];rfl
theorem zeX {s:Nat}{L:List Nat}(hL: ∀x∈L,x<256):VI s L<256:=Mt.Qd (n:=8) fun i hi=>by
  rw [Y6,List.any_eq_true] at hi
  obtain ⟨t,ht,hb⟩:=hi
  rw [qg,Bool.and_eq_true] at hb
  exact Mt.vy (n:=8) (hL t ht) hb.1
theorem zcg (M:Mat N B){S:Nat}(hS:flat N B S): ∀t,t∈QM (yI (jS N B (2 ^N)) S)↔Mt.cover N B S t:=fun t=>by
  have hlt: ∀x∈yI (jS N B (2 ^N)) S,x<256:=fun x hx=>qX M.size (QK.1 (List.mem_filter.1 hx).1).1
  have hmem: ∀x,x∈yI (jS N B (2 ^N)) S↔flat N B x∧x≠S∧sub S x:=fun x=>by
    unfold yI
    rw [List.mem_filter,QK,Bool.and_eq_true,Bool.not_eq_true',decide_eq_false_iff_not,decide_eq_true_eq,←Mt.ql]
  rw [QA hlt,hmem]
  constructor
  · rintro ⟨⟨h1,h2,h3⟩,h4⟩;exact ⟨h1,h3,h2,fun u hu hSu hne hut=>h4 u ((hmem u).2 ⟨hu,hne,hSu⟩) hut⟩
  · rintro ⟨h1,h2,h3,h4⟩;exact ⟨⟨h1,h3,h2⟩,fun u hu hut=>h4 u ((hmem u).1 hu).1 ((hmem u).1 hu).2.2 ((hmem u).1 hu).2.1 hut⟩
theorem zb4 (M:Mat N B){S:Nat}(hS:flat N B S){C:List Nat}(hC:C.Pairwise (· < ·))(hm: ∀t,t∈C↔Mt.cover N B S t)(i:Nat)(hi:i<C.length):sdiff C[i] S &&&VI S (C.take i)=0:=Mt.ext fun e=>by
  rw [Mt.vp,Mt.yf,Y6]
  cases h1:(sdiff C[i] S).testBit e
  · rfl
  · rw [Bool.true_and]
    rw [←Bool.not_eq_true,List.any_eq_true]
    rintro ⟨t,ht,hb⟩
    obtain ⟨j,hj,rfl⟩:=List.getElem_of_mem ht
    rw [List.length_take] at hj
    have hji:j<i:=by omega
    rw [List.getElem_take] at hb
    have hlt:C[j]<C[i]:=List.pairwise_iff_getElem.1 hC j i (by omega) hi hji
    rw [qg,Bool.and_eq_true,Bool.not_eq_true'] at h1 hb
    have:=M.zbM hS ((hm _).1 (List.getElem_mem hi)) ((hm _).1 (List.getElem_mem (show j<C.length by omega))) (by omega) h1.1 hb.1
    rw [this] at h1;exact Bool.noConfusion h1.2
theorem zbY (M:Mat N B){S:Nat}(hS:flat N B S){C:List Nat}(hm: ∀t,t∈C↔Mt.cover N B S t):VI S C=co N S:=Mt.ext fun e=>by
  rw [Y6,Mt.yu,Bool.eq_iff_iff,List.any_eq_true,Bool.and_eq_true,decide_eq_true_eq,Bool.not_eq_true']
  constructor
  · rintro ⟨t,ht,hb⟩
    rw [qg,Bool.and_eq_true,Bool.not_eq_true'] at hb
    exact ⟨Mt.vy ((hm t).1 ht).1.1 hb.1,hb.2⟩
  · rintro ⟨he,hne⟩
    refine ⟨Mt.cl N B (ins S e),(hm _).2 (M.zbp hS he hne),?_⟩
    rw [qg,hne,Mt.QX (Mt.y0 hS.1 he) e (Mt.Yu S e)];rfl
end
end L
end
section
namespace L
open Go.RowKit F Wa Wb Wc
open Bits
theorem zcu (l l':List Int)(h:l.length≤17592186044416):Ev (fun k=>qG.f k l l') (decide (l=l')):=by
  unfold qG.f
  by_cases e:(l.length:Int)=(l'.length:Int)
  · simp only [e,if_true]
    have e':l.length=l'.length:=by omega
    rw [←Z2 l l' e']
    refine Z7 (fun k i=>qG.l0 k l l' i) l.length _ (fun k=>by simp only [qG.l0,show ¬((l.length:Int)< (l.length:Int)) by omega,if_false]) fun i hi k=> ?_
    simp only [qG.l0,show (i:Int)< (l.length:Int) by omega,show (i:Int)< (l'.length:Int) by omega,show (0:Int)≤(i:Int) by omega,if_true,vn,decide_eq_true_eq,zB (show i<9223372036854775807 by omega)]
  · simp only [e,if_false]
    rw [decide_eq_false (fun h=>e (by rw [h]))];exact Ev.now _
theorem QT (l:List Int)(h:l.length≤17592186044416):Ev (fun k=>qG.f k l l) true:=by
  have:=zcu l l h;rwa [decide_eq_true rfl] at this
end L
end
section
namespace L
open Go.RowKit F Wa Wb Wc
open Bits
def eqM (n:Int)(l:List Int)(n':Int)(l':List Int):Bool:=decide (n=n'∧l=l')
theorem zaj (n:Int)(l:List Int)(n':Int)(l':List Int)(h:l.length≤17592186044416):Ev (fun k=>zI.f k n l n' l') (eqM n l n' l'):=by
  unfold zI.f eqM
  by_cases e:n=n'
  · simp only [e,if_true,true_and]
    refine Ev.succ ?_
    by_cases el:l.length=l'.length
    · simp only [zI.j0,show (((l.length:Int) != (l'.length:Int))=false) by rw [bne_eq_false_iff_eq];omega,Bool.false_eq_true,if_false]
      rw [←Z2 l l' el]
      refine Z7 (fun k i=>zI.l0 k i n' l n' l') _ _ (fun k=>by simp only [zI.l0,show ¬((l.length:Int)< (l.length:Int)) by omega,if_false]) ?_
      intro i hi k
      simp only [zI.l0,show ((i:Int)< (l.length:Int)) by omega,show ((i:Int)< (l'.length:Int)) by omega,show (0:Int)≤(i:Int) by omega,if_true,vn,zB (show i<9223372036854775807 by omega),decide_eq_true_eq]
    · simp only [zI.j0,show (((l.length:Int) != (l'.length:Int))=true) by rw [bne_iff_ne];omega,if_true]
      rw [show decide (l=l')=false by simp;rintro rfl;exact el rfl]
      exact Ev.now _
  · simp only [e,if_false,false_and,decide_false]
    refine Ev.succ ?_
    simp only [zI.j0,if_true];exact Ev.now _
end L
end
section
namespace Pure
open Go.RowKit F L Wa Wb Wc
open Bits
open Mt
open Mt (Mat qX sub flat sdiff full co)
theorem zfX (n:Int)(l:List Int):eqM n l n l=true:=by simp [eqM]
theorem ze3 (n:Int)(l:List Int)(h:l.length≤17592186044416):Ev (fun k=>zI.f k n l n l) true:=by
  have:=zaj n l n l h;rwa [zfX] at this
section
variable {b:List Int} {i h:Int}
theorem zf0 (hb:b.length≤140737488351232)(hi:0≤i)(n:Int): ∃l i' h',Ev (fun k=>yW.f k b i h n) (l,i',h')∧l.length≤17592186044416:=by
  unfold yW.f
  obtain ⟨l,i1,h1,e1,hi1,hl⟩:=l3_d (h:=h) hb hi n
  obtain ⟨x,i2,h2,e2,hi2,hx,_⟩:=vk (h:=h1) hb hi1 5
  obtain ⟨y,i3,h3,e3,hi3⟩:=zcw (h:=h2) hb hi2
  by_cases c0:x=0
  · refine ⟨l++[y],i3,h3,Ev.bind e1 ?_,by rw [List.length_append,List.length_singleton];omega⟩
    simp only [e2,Option.bind_some,if_pos c0,e3,show l.length<17592186044416 by omega,if_true];exact Ev.now _
  · by_cases c1:x=1
    · refine ⟨l,i2,h2,Ev.bind e1 ?_,by omega⟩
      simp only [e2,Option.bind_some,if_neg c0,if_pos c1];exact Ev.now _
    · refine ⟨ZU l,i2,h2,Ev.bind e1 ?_,?_⟩
      · simp only [e2,Option.bind_some,if_neg c0,if_neg c1];exact Ev.bind (Jd l (by omega)) (Ev.now _)
      · have:=Go.Lib.compact_length_le (l.mergeSort fun x y=>decide (x≤y))
        rw [List.length_mergeSort] at this
        unfold ZU;omega
theorem zc2 (hb:b.length≤140737488351232)(hi:0≤i)(n:Int){l:List Int}(hl:l.length≤17592186044416): ∃m i' h',Ev (fun k=>yb.f k b i h n l) (m,i',h')∧m.length≤17592186044416:=by
  unfold yb.f
  obtain ⟨x,i1,h1,e1,hi1,hx,_⟩:=vk (h:=h) hb hi 6
  simp only [e1,Option.bind_some]
  by_cases c0:x=0
  · obtain ⟨m,i2,h2,e2,hm⟩:=zf0 (h:=h1) hb hi1 n
    refine ⟨m,i2,h2,?_,hm⟩
    simp only [if_pos c0];exact Ev.bind e2 (Ev.now _)
  · by_cases c1:x=1
    · simp only [if_neg c0,if_pos c1]
      by_cases c2:(l.length:Int)>1
      · have hw:wrap64 ((l.length:Int) - 1)=((l.length - 1:Nat):Int):=by rw [jq (by omega) (by omega)];omega
        refine ⟨l.take (l.length - 1),i1,h1,?_,by rw [List.length_take];clear hw;omega⟩
        simp only [if_pos c2,hw,Int.toNat_natCast,show (0:Int)≤((l.length - 1:Nat):Int) from Int.natCast_nonneg _,show ((l.length - 1:Nat):Int)≤(l.length:Int) from Int.ofNat_le.2 (Nat.sub_le _ _),if_true]
        exact Ev.now _
      · refine ⟨l,i1,h1,?_,hl⟩
        simp only [if_neg c2];exact Ev.now _
    · refine ⟨l,i1,h1,?_,hl⟩
      simp only [if_neg c0,if_neg c1];exact Ev.now _
theorem ze9 (hb:b.length≤140737488351232): ∃n l,Ev (fun k=>qB.f k b) (n,l)∧l.length≤17592186044416:=by
  unfold qB.f
  obtain ⟨h0,e0⟩:=zbG hb
  obtain ⟨n,l,i1,h1,e1,hi1,hl⟩:=zcx (h:=h0) hb (Int.le_refl 0) (a:=5) (by decide) (by decide)
  obtain ⟨m,i2,h2,e2,hm⟩:=zc2 (h:=h1) hb hi1 n (yj n l)
  exact ⟨n,m,Ev.bind e0 (Ev.bind e1 (Ev.bind (Qr n l (by omega)) (Ev.bind e2 (Ev.now _)))),hm⟩
theorem ze6 (hb:b.length≤140737488351232): ∃n l,Ev (fun k=>zT.f k b) (n,l)∧l.length≤17592186044416:=by
  unfold zT.f
  obtain ⟨h0,e0⟩:=zbG hb
  obtain ⟨n,l,i1,h1,e1,hi1,hl⟩:=zcx (h:=h0) hb (Int.le_refl 0) (a:=5) (by decide) (by decide)
  obtain ⟨m,i2,h2,e2,hm⟩:=zc2 (h:=h1) hb hi1 n (y4 n l)
  exact ⟨n,m,Ev.bind e0 (Ev.bind e1 (Ev.bind (Qz n l (by omega)) (Ev.bind e2 (Ev.now _)))),hm⟩
theorem zct {n:Int}{l:List Int}(h:z1 n l=true):0< (jV n l).length:=by
  obtain ⟨N,B,rfl,rfl,hp,M⟩:=j7 h
  unfold jV
  rw [if_pos h,zj,qm,Int.toNat_natCast]
  exact List.length_pos_of_mem (QK.2 Mt.VJ)
theorem zfc (hb:b.length≤140737488351232): ∃n l s,Ev (fun k=>jA.f k b) (n,l,s)∧l.length≤17592186044416:=by
  unfold jA.f
  obtain ⟨h0,e0⟩:=zbG hb
  obtain ⟨n,l,i1,h1,e1,hi1,hl,hm⟩:=zfn (h:=h0) hb (Int.le_refl 0) (a:=6) (by decide) (by decide)
  have hp:=zct hm
  obtain ⟨x,i2,h2,e2,hi2,hx,hx2,_⟩:=vk (h:=h1) hb hi1 ((jV n l).length:Int)
  have hx3:=hx2 (by omega)
  obtain ⟨c,i3,h3,e3,hi3⟩:=zem (h:=h2) hb hi2 8
  obtain ⟨y,i4,h4,e4,hi4⟩:=zcw (h:=h3) hb hi3
  cases c
  · refine ⟨n,l,rd (jV n l) x,Ev.bind e0 (Ev.bind e1 (Ev.bind (Qr n l (by omega)) ?_)),by omega⟩
    simp only [e2,Option.bind_some,if_pos hx,if_pos hx3,e3,Bool.false_eq_true,if_false];exact Ev.now _
  · refine ⟨n,l,y,Ev.bind e0 (Ev.bind e1 (Ev.bind (Qr n l (by omega)) ?_)),by omega⟩
    simp only [e2,Option.bind_some,if_pos hx,if_pos hx3,e3,if_true,e4];exact Ev.now _
theorem zd2 (hb:b.length≤140737488351232): ∃n l r,Ev (fun k=>jP.f k b) (n,l,r)∧l.length≤17592186044416:=by
  unfold jP.f
  obtain ⟨h0,e0⟩:=zbG hb
  obtain ⟨n,l,i1,h1,e1,hi1,hl⟩:=zcX (h:=h0) hb (Int.le_refl 0) (a:=6) (by decide) (by decide)
  obtain ⟨x,i2,h2,e2,_⟩:=vk (h:=h1) hb hi1 6
  refine ⟨n,l,wrap64 (x - 1),Ev.bind e0 (Ev.bind e1 ?_),by omega⟩
  simp only [e2,Option.bind_some];exact Ev.now _
end
theorem zdV {t s:Nat}(ht:t<256)(hs:s<256)(h:sub s t):wrap64 ((t:Int) - (s:Int))=((sdiff t s:Nat):Int):=by
  have:=zbj ht hs
  rwa [show t &&&s=s by rw [Nat.and_comm];exact Mt.ql.1 h] at this
section
variable {n:Int} {m:List Int}
theorem j3_t (hm:m.length≤17592186044416):Ev (fun k=>zK.j3 k (jV n m) (ym n m) n m) true:=by
  refine Ev.succ ?_
  simp only [zK.j3]
  refine Ev.bind (V5 n _ (yj n m)) (Ev.bind (Zv n _ (y4 n m)) (Ev.bind (Qo n m hm) ?_))
  cases h:z1 n m
  · simp only [Bool.false_eq_true,if_false];exact Ev.now _
  · obtain ⟨N,B,rfl,rfl,hp,M⟩:=j7 h
    rw [zbK M hp,V2 M hp]
    simp only [if_true]
    refine Ev.bind (ze3 _ _ hm) ?_
    simp only [if_true]
    exact Ev.bind (ze3 _ _ hm) (Ev.now _)
theorem zfg (hm:m.length≤17592186044416){N:Nat}{B C:List Nat}{S:Nat}(M:Mat N B)(hS:flat N B S)(hC:C.Pairwise (· < ·))(hc: ∀t,t∈C↔Mt.cover N B S t)(hl:C.length≤256)(x:List Int):
    ∀(d i:Nat),i+d=C.length→Ev (fun k=>zK.l0 k (jV n m) (ym n m) (S:Int) (ints C) ((VI S (C.take i):Nat):Int) (i:Int) n m (N:Int) x) true
  |0,i,hd=>by
    have hf:wrap64 (((full N:Nat):Int) - (S:Int))=((co N S:Nat):Int):=by
      rw [zdV (qX M.size (Mt.Zn N)) (qX M.size hS.1) (Mt.yU hS.1),show sdiff (full N) S=co N S from Mt.ext fun e=>by rw [Mt.qg,Mt.yu,Mt.Vu]]
    refine Ev.succ ?_
    rw [List.take_of_length_le (by omega)]
    simp only [zK.l0,zj,show ¬((i:Int)< (C.length:Int)) by clear hf;omega,if_false,jM M.size,Option.bind_some,zbY M hS hc,hf,if_true]
    exact j3_t hm
  |d+1,i,hd=>by
    have hi:i<C.length:=by omega
    have hcv:=(hc _).1 (List.getElem_mem hi)
    have hlt: ∀x∈C,x<256:=fun x hx=>qX M.size ((hc x).1 hx).1.1
    have hx:=hlt _ (List.getElem_mem hi)
    have ha:VI S (C.take i)<256:=zeX fun x hx=>hlt x (List.mem_of_mem_take hx)
    have hs:sdiff C[i] S<256:=Bits.Vz (n:=8) hx
    have e1:Go.bits .and .i64 ((sdiff C[i] S:Nat):Int) ((VI S (C.take i):Nat):Int)=0:=by rw [Zp _ _ (by omega) (by omega),zb4 M hS hC hc i hi];rfl
    have e2:Go.bits .or .i64 ((VI S (C.take i):Nat):Int) ((sdiff C[i] S:Nat):Int)=((VI S (C.take (i+1)):Nat):Int):=by rw [Js _ _ (by omega) (by omega),zdx S C i hi]
    refine Ev.succ ?_
    simp only [zK.l0,zj,show (i:Int)< (C.length:Int) by omega,show (0:Int)≤(i:Int) by omega,if_true,zbg C i hi,zdV hx (qX M.size hS.1) hcv.2.1,e1,e2,zB (show i<9223372036854775807 by omega)]
    exact zfg hm M hS hC hc hl x d (i+1) (by omega)
end
theorem FnFlats (l:List Int)(hl:l.length*1≤140737488351232)(_: ∀x∈l,(Lit.int .u8 x).wf=true): ∃k,zK.f k l=some true:=by
  have hb:l.length≤140737488351232:=by omega
  refine Ev.rounds ?_
  unfold zK.f Z9.f
  simp only [Option.bind_some]
  by_cases c:(l.length:Int)>1048576
  · simp only [c,decide_true,if_true];exact Ev.now _
  simp only [c,decide_false,Bool.false_eq_true,if_false]
  obtain ⟨h0,e0⟩:=zbG hb
  obtain ⟨n,m,i1,h1,e1,_,hm6⟩:=zcX (h:=h0) hb (Int.le_refl 0) (a:=6) (by decide) (by decide)
  have hm:m.length≤17592186044416:=by omega
  have ed:Ev (fun k=>vV.f k l) (n,m):=by unfold vV.f;exact Ev.bind e0 (Ev.bind e1 (Ev.now _))
  obtain ⟨a,aa,ea,ha⟩:=ze9 hb
  obtain ⟨b,bb,eb,hbb⟩:=ze6 hb
  obtain ⟨u,uu,s,eu,hu⟩:=zfc hb
  obtain ⟨v,vv,r,ev,hv⟩:=zd2 hb
  refine Ev.bind ed (Ev.bind (za9 n m hm) (Ev.bind (JR n m hm) (Ev.bind ea (Ev.bind (V5 a aa ha) (Ev.bind (zbN a aa ha) (Ev.bind eb (Ev.bind (Zv b bb hbb) (Ev.bind (Qn b bb hbb) (Ev.bind eu (Ev.bind (Yf u uu s hu) (Ev.bind ev (Ev.bind (Qr n m hm) (Ev.bind (QT _ (yj n m)) ?_)))))))))))))
  simp only [if_true]
  refine Ev.bind (Qz n m hm) (Ev.bind (QT _ (y4 n m)) ?_)
  have hne: ∀q:Bool,(q != q)=false:=fun q=>by cases q<;>rfl
  simp only [if_true,hne,Bool.false_eq_true,if_false]
  refine Ev.bind (ze3 _ _ (Vn a aa)) ?_
  simp only [if_true]
  refine Ev.bind (ze3 _ _ (y9 b bb)) ?_
  simp only [if_true]
  refine Ev.bind (Yi u uu s hu) (Ev.bind (QT _ (zao u uu s)) ?_)
  simp only [if_true]
  refine Ev.bind (JV v vv r hv) (Ev.bind (JL v vv r hv) (Ev.bind (QT _ (Q2 v vv r)) (Ev.succ ?_)))
  simp only [zK.j0,Bool.not_true,Bool.false_eq_true,if_false]
  have last:Ev (fun k=>zK.j1 k (jV n m) (ym n m) s (QW u uu s) false n m u uu) true:=by
    refine Ev.succ ?_
    simp only [zK.j1,Bool.false_eq_true,if_false]
    exact j3_t hm
  refine Ev.bind (Qr u uu hu) (Ev.bind (Vh _ s (yj u uu)) ?_)
  by_cases hs:s∈jV u uu
  · have hM:z1 u uu=true:=by
      cases h:z1 u uu
      · unfold jV at hs;rw [h] at hs;simp at hs
      · rfl
    obtain ⟨N,B,rfl,rfl,hp,M⟩:=j7 hM
    have hs2:=hs
    unfold jV at hs2
    rw [if_pos hM,qm,Int.toNat_natCast] at hs2
    obtain ⟨S,hS,rfl⟩:=List.mem_map.1 hs2
    have hf:=QK.1 hS
    simp only [decide_eq_true hs,if_true,jM M.size,Option.bind_some]
    cases hq:((S:Int) != ((full N:Nat):Int))
    · exact last
    · refine Ev.succ ?_
      simp only [zK.j1,if_true]
      have hcov:QW (N:Int) (ints B) (S:Int)=ints (QM (yI (jS N B (2 ^N)) S)):=by
        unfold QW;rw [if_pos (decide_eq_true hs),qm,Int.toNat_natCast,Int.toNat_natCast]
      rw [hcov]
      exact zfg hm M hf (vF _ _) (zcg M hf) (Jf _) (ints B) _ 0 (Nat.zero_add _)
  · simp only [decide_eq_false hs,Bool.false_eq_true,if_false]
    exact last
end Pure
end
section
namespace fnFlats
open Go.ChangeShapes Go.WideShapes Go.ChangeAt Go.RowKit Go.Joins
open Go.ChangeMaps (open_string shut_string)
theorem lifted (os:Os)(started:os.Started)(H:Type)(enc:TypeId×Value→H):
    ReturnsInHanded {} Tryz.checked os 3 .any (Rows.fnFlatsSpec.pre6 enc Tryz.prog Tryz.f3 Rows.fnFlatsRow.domain false) (Rows.fnFlatsSpec.post enc Tryz.prog Tryz.f3 false true false false):=by
  refine returnsInHanded_of_change_sized (C:=Tryz.checked) Open.own started (by kernel_rfl) Tryz.func3
    (ChangeSpec.witness6 (enc:=enc) (C:=Tryz.checked) false ⟨#[],#[.slice none 0 0],[]⟩ 8 (by kernel_rfl) (by kernel_rfl) (by kernel_rfl) (by kernel_rfl)) ?_
  intro W base args ds gs before hval0 hW hcnd hsz0 _
  have hsz:(DataW.weightsEach Tryz.prog (Tryz.f3.params.toList++Rows.fnFlatsSpec.plain.varTypes Tryz.prog) (ds++gs)).all (· ≤reachBytes)=true:=hsz0
  have hval: ∀(j:Nat) t v,Tryz.f3.params[j]? =some t→args[j]? =some v→Value.okWide Tryz.prog W .any base t v:=hval0
  have hW':=hW
  obtain ⟨p,q,hA0,hV,rfl,hfz,hnd⟩:=hW
  have hA:DataW.TrodAll enc Tryz.prog W 0 (fun _=>true) true Tryz.f3.params.toList args.toList ds p:=hA0
  rw [Tryz.params3] at hA hval hsz
  obtain ⟨v0,vs0,d0,ds0,p0,q0,hargs,rfl,rfl,h0,r0⟩:=trodAll_cons hA
  obtain ⟨rfl,rfl,rfl⟩:=trodAll_nil r0
  obtain rfl:args=#[v0]:=by cases args;simp_all
  obtain ⟨rfl,rfl⟩:=trodVars_none hV
  have k0:=h0
  have lt0: ∀x∈p0,x.block<W.heap.size:=by obtain ⟨m,hm⟩:=k0;exact DataW.trod_lt m _ _ _ hm
  obtain ⟨x0,n0,q0_,rfl⟩:=okWide_slice Tryz.underlying22 (hval 0 22 v0 rfl rfl)
  obtain ⟨fuel0,g0⟩:=h0
  have g0':DataW.trod enc Tryz.prog W 0 (fun _=>true) true fuel0 22 [.slice x0 n0 q0_]=some (d0,p0):=by simpa [Value.cells] using g0
  obtain ⟨A0,c0,l0,e0,hr0,hc0,hn0,hw0⟩:=Open.zea (ts:=[22]) (j:=0) Tryz.underlying22 Tryz.underlying5 (by kernel_rfl) (by kernel_rfl) hsz rfl rfl g0'
  obtain ⟨rfl,rfl,rfl⟩:x0=A0∧n0=l0.length∧q0_=c0:=by simpa using e0
  obtain ⟨k,h⟩:=Pure.FnFlats l0 hn0 hw0
  refine (F.zK.calls (w:=W) (hr0:=hr0) (hc0:=hc0) (h:=h)).mono ?_
  rintro e W' ⟨he,hd⟩
  have bel:Below W.heap.size W W':=by first|exact hd|exact hd.below
  subst he
  exact ⟨_,rfl,_,_,_,[],_,[],hW',trodAll_mk1 (shut_bool Tryz.underlying4 _),(trodAll_cons_mk (Below.trod Open.laidOut (by kernel_rfl) (of_decide_eq_true (by kernel_rfl)) k0 bel lt0) trodAll_mk0),rfl,bel.frame _,fun h=>by cases h⟩
theorem over:Rows.fnFlatsRow.holds Tryz.pinned (OpenSpec.ofChange Rows.fnFlatsSpec):=
  OpenClaim.holds_of_wide 3 Tryz.f3 rfl rfl rfl rfl rfl rfl rfl ⟨rfl,rfl,rfl,rfl,rfl⟩ rfl rfl rfl rfl rfl (by kernel_rfl) Tryz.func3 (by kernel_rfl)
    (of_decide_eq_true (by kernel_rfl)) (by unfold Func.isWrapper;first|(rw [if_pos (by decide+kernel)];kernel_rfl)|(rw [if_neg (by decide+kernel)];exact ⟨rfl,rfl⟩))
    (fun os started H enc _=>lifted os started H enc)
theorem proved:Rows.FnFlatsSaid:=over
end fnFlats
theorem fnFlats_holds:Rows.FnFlatsSaid:=fnFlats.proved
#print axioms fnFlats_holds
end
end Go.Proofs.YtpgkkofiiokhaaaGreat
