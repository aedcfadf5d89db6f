/- Several texts of this session in one: LRed2, LMatrix, LCell, LReduce, LReduceS, LGaussS, LReduceI, LMatRank, LRed3, LReduceM, LSplit, LText, LRead, LParse, LMatParse, LCur, LEqual, PuFnMatrices, LawFnMatricesCard. Conditions: as each theorem says. -/
import Derived.Test.YtkeobjoaimedaaaGreatDoorZMatricesCard4
import Derived.Test.YtkeobjoaimedaaaGreatDoorZMatricesCard1
import Derived.Test.YtkeobjoaimedaaaGreatDoorZMatricesCard2
import Derived.Test.YtkeobjoaimedaaaGreatDoorZMatricesCard3
import Derived.Lib.LazyBuf
import Derived.Test.YtkeobjoaimedaaaGreatDoorRows
import Derived.Test.YtkeobjoaimedaaaGreatDoorCards
import Derived.Test.YtkeobjoaimedaaaGreatDoorTie
import Derived.Test.YtkeobjoaimedaaaGreatDoorZMatricesCard0
import Derived.WalkKit
import Derived.Lay
import Derived.LaidMore
import Derived.ProofKit
import Derived.OpenShut
import Derived.ShutString
import Derived.ChangeOld
import Derived.Below
import Derived.SizedLaws
import Derived.Lib.SmallJoins
set_option maxRecDepth 100000
set_option linter.unusedSimpArgs false
set_option linter.unusedVariables false
namespace Go.Proofs.YtkeobjoaimedaaaGreatDoor
section
namespace L
open Mt
section
variable {p:Int} {R C j:Nat} {st:Red} {P:List Nat}
def Un (R:Nat)(st:Red)(P:List Nat):Prop:= ∀i (h:i<P.length),∀k,k<R→st.M k P[i]=if k=i then 1 else 0
theorem Qb: ∀ {a b:List Nat},ints a=ints b→a=b
  | [],[],_=>rfl
  | [],_::_,h=>by simp [ints] at h
  |_::_,[],h=>by simp [ints] at h
  |x::a,y::b,h=>by
    simp only [ints,List.map_cons,List.cons.injEq] at h
    rw [show x=y by omega,Qb (a:=a) (b:=b) h.2]
theorem Un.step (hp:qD p)(h:RI p R C j st P)(hu:Un R st P)(hj:j<C): ∃P',RI p R C (j+1) (zK p R st j) P'∧Un R (zK p R st j) P':=by
  have hpp:=hp.pos
  obtain ⟨P',h'⟩:=h.step hp hj
  refine ⟨P',h',?_⟩
  obtain ⟨f1,f2,f3,f4⟩:=jb st.M R j (R - st.t) st.t (by have:=h.t_le;omega)
  by_cases c:zP st.M R st.t j<R
  · have he:zK p R st j=⟨st.t+1,ju p R st.t j (z1 (qH st.t (zP st.M R st.t j)) st.M),st.ps++[(j:Int)]⟩:=by unfold zK;rw [if_pos c]
    rw [he] at h' ⊢
    have hP':P'=P++[j]:=Qb (by rw [←h'.ps];show st.ps++[(j:Int)]=_;rw [h.ps];simp [ints])
    subst hP'
    clear he h'
    generalize zP st.M R st.t j=b at c f1 f3
    have htR:st.t<R:=by omega
    have hS:InF p R C (z1 (qH st.t b) st.M):=h.inF.swap htR c
    have hrow: ∀i c',i<st.t→z1 (qH st.t b) st.M i c'=st.M i c':=fun i c' hi=>by rw [jC,if_neg (by omega),if_neg (by omega)]
    have hz: ∀i,st.t≤i→i<R→ ∀c',c'<j→z1 (qH st.t b) st.M i c'=0:=fun i hi hiR c' hc'=>by
      rw [jC]
      split
      · exact h.zero _ (Nat.le_refl _) htR c' hc'
      · split
        · exact h.zero _ (by omega) c c' hc'
        · exact h.zero _ hi hiR c' hc'
    have hx:z1 (qH st.t b) st.M st.t j≠0:=by
      rw [jC]
      by_cases c2:st.t=b
      · rw [if_pos c2];subst c2;exact f3 c
      · rw [if_neg c2,if_pos rfl];exact f3 c
    have hxx:=hS st.t j htR hj
    generalize z1 (qH st.t b) st.M=S at hS hrow hz hx hxx
    have hone:Int.tmod (S st.t j*jO p (S st.t j)) p=1:=tmod_one hpp.1 (Int.mul_nonneg hxx.1 (ya _ _)) (Ju hp (by omega) hxx.2)
    have hlow: ∀i c',i<R→c'<j→ju p R st.t j S i c'=if i=st.t then 0 else S i c':=fun i c' hi hc'=>by
      rw [jV _ _ _ _ _ _ _ hi,hz st.t (Nat.le_refl _) htR c' hc',Int.zero_mul,Int.zero_tmod]
      split
      · rfl
      · have hb:=hS i c' hi (by omega)
        rw [Int.mul_zero,Int.add_zero,ZR hb.1 hb.2]
    intro i hi k hk
    rw [List.length_append,List.length_singleton] at hi
    have hl:=h.len
    by_cases c3:i<P.length
    · rw [List.getElem_append_left c3]
      have hlt:=h.lt P[i] (List.getElem_mem c3)
      show ju p R st.t j S k P[i]=_
      rw [hlow k _ hk hlt]
      by_cases c4:k=st.t
      · rw [if_pos c4,if_neg (by omega)]
      · rw [if_neg c4]
        by_cases c5:k<st.t
        · rw [hrow k _ c5,hu i c3 k hk]
        · rw [hz k (by omega) hk _ hlt,if_neg (by omega)]
    · obtain rfl:i=P.length:=by omega
      rw [List.getElem_append_right (Nat.le_refl _)]
      simp only [Nat.sub_self,List.getElem_singleton]
      show ju p R st.t j S k j=_
      rw [hl,jV _ _ _ _ _ _ _ hk,hone]
      by_cases c4:k=st.t
      · rw [if_pos c4,if_pos c4]
      · rw [if_neg c4,if_neg c4,Int.mul_one,show S k j+(p - S k j)=p by omega]
        exact Q5 p hpp.1
  · have he:zK p R st j=st:=by unfold zK;rw [if_neg c]
    rw [he] at h' ⊢
    have hP':P'=P:=Qb (by rw [←h'.ps,h.ps])
    subst hP'
    exact hu
theorem Un.run (hp:qD p){M:Tab}(hM:InF p R C M): ∀m,m≤C→ ∃P,RI p R C m ((List.range m).foldl (zK p R) ⟨0,M,[]⟩) P∧Un R ((List.range m).foldl (zK p R) ⟨0,M,[]⟩) P
  |0,_=>by
    obtain ⟨P,h⟩:=RI.run (R:=R) hp hM 0 (Nat.zero_le _)
    have:P=[]:=Qb (by rw [←h.ps];rfl)
    subst this
    exact ⟨[],h,fun i hi=>absurd hi (Nat.not_lt_zero i)⟩
  |m+1,hm=>by
    obtain ⟨P,h,hu⟩:=Un.run hp hM m (by omega)
    rw [List.range_succ,List.foldl_append]
    exact Un.step hp h hu (by omega)
def low (P:List Nat)(m:Nat):Nat:=(P.filter fun x=>decide (x<m)).length
theorem zcH (P:List Nat)(m:Nat):low P m≤P.length:=List.length_filter_le _ _
theorem YE {P:List Nat}(hs:P.Pairwise (· < ·)){m:Nat}: ∀ {i:Nat} (h:i<P.length),(P[i]<m↔i<low P m):=by
  induction P with
  |nil=>intro i h;exact absurd h (Nat.not_lt_zero i)
  |cons x P ih=>
    rw [List.pairwise_cons] at hs
    intro i h
    by_cases c:x<m
    · have e:low (x::P) m=low P m+1:=by unfold low;rw [List.filter_cons,if_pos (by simpa using c)];rfl
      rw [e]
      match i,h with
      |0,_=>simp;exact c
      |i+1,h=>
        have:=ih hs.2 (i:=i) (by simpa using h)
        simp only [List.getElem_cons_succ]
        rw [this];omega
    · have e:low (x::P) m=0:=by
        unfold low
        rw [List.length_eq_zero_iff,List.filter_eq_nil_iff]
        intro y hy
        rcases List.mem_cons.1 hy with rfl|hy
        · simpa using c
        · have:=hs.1 y hy;simp;omega
      rw [e]
      match i,h with
      |0,_=>simp;omega
      |i+1,h=>
        have h':i<P.length:=by simpa using h
        have:=hs.1 _ (List.getElem_mem h')
        simp only [List.getElem_cons_succ]
        omega
theorem Yd {P:List Nat}(hs:P.Pairwise (· < ·))(m:Nat):low P (m+1)=low P m+if m∈P then 1 else 0:=zba m P (hs.imp (fun h=>Nat.ne_of_lt h))
theorem zc0 {p:Int}(hp:2≤p):jO p 1=1:=by
  unfold jO
  rw [show (1:Int).toNat=1 from rfl,Nat.one_pow,Nat.mod_eq_of_lt (by omega)];rfl
theorem JT (hp:qD p){R':Nat}(h:RI p R C C st P)(hu:Un R st P){X:Tab}(hX: ∀i c,i<st.t→c<C→X i c=st.M i c):
    ∀m,m≤C→ ∃Y,(∀i c,i<st.t→c<C→Y i c=st.M i c)∧((List.range m).foldl (zK p st.t) ⟨0,X,[]⟩).M=Y∧((List.range m).foldl (zK p st.t) ⟨0,X,[]⟩).t=low P m
  |0,_=>⟨X,hX,rfl,by unfold low;rw [List.filter_eq_nil_iff.2 (by simp)];rfl⟩
  |m+1,hm=>by
    have hpp:=hp.pos
    obtain ⟨Y,hY,h1,h2⟩:=JT hp (R':=R') h hu hX m (by omega)
    rw [List.range_succ,List.foldl_append]
    simp only [List.foldl_cons,List.foldl_nil]
    generalize (List.range m).foldl (zK p st.t) ⟨0,X,[]⟩=s at h1 h2
    subst h1
    rw [Yd h.sort]
    have hl:=h.len
    have htR:=h.t_le
    by_cases c:m∈P
    · rw [if_pos c]
      obtain ⟨i,hi,hPi⟩:=List.getElem_of_mem c
      have hil:i=low P m:=by
        have a1:=YE h.sort (m:=m) hi
        have a2:=YE h.sort (m:=m+1) hi
        rw [Yd h.sort,if_pos c] at a2
        rw [hPi] at a1 a2
        omega
      have hst:s.t<st.t:=by omega
      have hone:s.M s.t m=1:=by
        rw [hY s.t m hst (by omega)]
        have:=hu i hi i (by omega)
        rw [if_pos rfl,hPi] at this
        rw [h2,←hil];exact this
      have hf:zP s.M st.t s.t m=s.t:=by rw [yr hst,if_neg (by omega)]
      have he:zK p st.t s m=⟨s.t+1,ju p st.t s.t m (z1 (qH s.t s.t) s.M),s.ps++[(m:Int)]⟩:=by unfold zK;rw [hf,if_pos hst]
      have hsw:z1 (qH s.t s.t) s.M=s.M:=by
        funext a b;rw [jC]
        split
        · rename_i e;rw [e]
        · rfl
      rw [he,hsw]
      refine ⟨_,fun a b ha hb=> ?_,rfl,by show s.t+1=_;rw [h2]⟩
      have hin:=h.inF s.t b (by omega) hb
      have hin2:=h.inF a b (by omega) hb
      show ju p st.t s.t m s.M a b=st.M a b
      rw [jV _ _ _ _ _ _ _ ha,hone,zc0 hpp.1,Int.mul_one,hY s.t b hst hb,ZR hin.1 hin.2]
      by_cases c2:a=s.t
      · rw [if_pos c2,c2]
      · rw [if_neg c2]
        have hz:s.M a m=0:=by
          rw [hY a m ha (by omega)]
          have:=hu i hi a (by omega)
          rw [hPi] at this
          rw [this,if_neg (by omega)]
        rw [hz,Int.sub_zero,hY a b ha hb,Int.tmod_eq_emod_of_nonneg (Int.add_nonneg hin2.1 (Int.mul_nonneg (by omega) hin.1)),Int.add_mul_emod_self_left]
        exact Int.emod_eq_of_lt hin2.1 hin2.2
    · rw [if_neg c,Nat.add_zero]
      have hf: ¬zP s.M st.t s.t m<st.t:=by
        intro hlt
        have hle:=zcH P m
        obtain ⟨f1,f2,f3,f4⟩:=jb s.M st.t m (st.t - s.t) s.t (by omega)
        have h3:=f3 hlt
        generalize zP s.M st.t s.t m=b at hlt f1 h3
        have hbP:b<P.length:=by omega
        have hnl: ¬P[b]<m:=fun hh=>by have:=(YE h.sort hbP).1 hh;omega
        have hne:P[b]≠m:=fun hh=>c (hh ▸List.getElem_mem hbP)
        exact h3 (by rw [hY b m hlt (by omega)];exact (h.piv b hbP).2 m (by omega))
      have he:zK p st.t s m=s:=by unfold zK;rw [if_neg hf]
      rw [he]
      exact ⟨_,hY,rfl,h2⟩
theorem zcm (h:RI p R C C st P):low P C=st.t:=by
  unfold low
  rw [List.filter_eq_self.2 fun x hx=>decide_eq_true (h.lt x hx),h.len]
theorem zbT (h:RI p R C C st P){X:Tab}(hX: ∀i c,i<st.t→c<C→X i c=st.M i c)(v:Nat→Int):Ker p C R st.M v↔Ker p C st.t X v:=by
  have htR:=h.t_le
  have e: ∀i,i<st.t→dot C (X i) v=dot C (st.M i) v:=fun i hi=>jr fun j hj=>hX i j hi hj
  constructor
  · intro k i hi;rw [e i hi];exact k i (by omega)
  · intro k i hi
    by_cases c:i<st.t
    · rw [←e i c];exact k i c
    · rw [jr (u':=fun _=>0) fun j hj=>h.zero i (by omega) hi j hj]
      have hz: ∀l:List Nat,(l.map fun j=>(0:Int)*v j).sum=0:=fun l=>by
        induction l with
        |nil=>rfl
        |cons x l ih=>rw [List.map_cons,List.sum_cons,ih,Int.zero_mul];rfl
      have:dot C (fun _=>0) v=0:=hz _
      rw [this];exact Int.dvd_zero p
end
end L
end
section
namespace L
open Go.RowKit F Wa Wb Wc
open Bits
def isField (p:Int):Bool:=decide (p=2∨p=3∨p=5∨p=7)
theorem Ve (p:Int):qL.f p=some (isField p):=by
  unfold qL.f isField
  by_cases h2:p=2
  · simp [h2]
  by_cases h3:p=3
  · simp [h3]
  by_cases h5:p=5
  · simp [h5]
  rw [if_neg h2,if_neg h3,if_neg h5]
  simp only [h2,h3,h5,false_or]
  rfl
theorem J5 (p:Int):qc.f p=some (isField p):=by
  unfold qc.f isField
  by_cases h2:p=2
  · simp [h2]
  by_cases h3:p=3
  · simp [h3]
  by_cases h5:p=5
  · simp [h5]
  rw [if_neg h2,if_neg h3,if_neg h5]
  simp only [h2,h3,h5,false_or]
  rfl
def qq (p r c:Int)(l:List Int):Bool:=
  isField p&&decide (0≤r∧r≤8∧0≤c∧c≤8∧(l.length:Int)=r*c)&&l.all fun x=>decide (0≤x∧x<p)
theorem jA {p r c:Int}{l:List Int}(h: ¬(isField p=true∧0≤r∧r≤8∧0≤c∧c≤8∧(l.length:Int)=r*c)):qq p r c l=false:=by
  unfold qq
  cases hp:isField p
  · simp
  · have: ¬(0≤r∧r≤8∧0≤c∧c≤8∧(l.length:Int)=r*c):=fun hh=>h ⟨hp,hh⟩
    simp only [this,decide_false,Bool.and_false,Bool.false_and]
theorem y4 {r c:Int}(hr:0≤r∧r≤8)(hc:0≤c∧c≤8):0≤r*c∧r*c≤64:=
  ⟨Int.mul_nonneg hr.1 hc.1,by have:=Int.mul_le_mul hr.2 hc.2 hc.1 (by omega:(0:Int)≤8);omega⟩
theorem vM {p r c:Int}{l:List Int}(h:isField p=true∧0≤r∧r≤8∧0≤c∧c≤8∧(l.length:Int)=r*c):qq p r c l=l.all fun x=>decide (0≤x∧x<p):=by
  unfold qq;simp only [h.1,h.2,and_self,decide_true,Bool.and_self,Bool.true_and]
theorem jl {p:Int}(h:isField p=true):2≤p∧p≤7:=by
  have:p=2∨p=3∨p=5∨p=7:=of_decide_eq_true h
  omega
theorem vS (p r c:Int)(l:List Int):Ev (fun k=>zw.f k p r c l) (qq p r c l):=by
  have no: ∀p r c l,Ev (fun k=>zw.j0 k true p r c l) false:=fun p r c l=>Ev.succ (by simp only [zw.j0,if_true];exact Ev.now _)
  unfold zw.f
  simp only [zdn,J5,Option.bind_some,decide_eq_true_eq]
  by_cases hp:isField p=true
  · simp only [hp,if_true]
    by_cases hr:0≤r∧r≤8
    · simp only [hr,and_self,if_true]
      by_cases hc:0≤c∧c≤8
      · simp only [hc,and_self,if_true]
        have hm:=y4 hr hc
        have hw:wrap64 (r*c)=r*c:=qh (by omega) (by omega)
        rw [hw]
        by_cases he:(l.length:Int)=r*c
        · rw [show ((l.length:Int) != r*c)=false by simp [he],vM ⟨hp,hr.1,hr.2,hc.1,hc.2,he⟩]
          have hp2:=jl hp
          refine Ev.succ ?_
          simp only [zw.j0,Bool.false_eq_true,if_false]
          rw [←ZE l 0]
          refine Zf (fun k i=>zw.l0 k i p r c l) _ _ (fun k=>by simp only [zw.l0,show ¬((l.length:Int)< (l.length:Int)) by omega,if_false]) ?_
          intro i hi k
          have hw:wrap64 (p - 1)=p - 1:=qh (by omega) (by omega)
          simp only [zw.l0,show ((i:Int)< (l.length:Int)) by omega,show (0:Int)≤(i:Int) by omega,if_true,ji,zO (show i<9223372036854775807 by omega),zdn,hw,Option.bind_some,decide_eq_true_eq]
          generalize l.getD i 0=x
          by_cases h1:0≤x∧x≤p - 1
          · rw [if_pos h1,if_pos (by omega)]
          · rw [if_neg h1,if_neg (by omega)]
        · rw [show ((l.length:Int) != r*c)=true by simp [he],jA (fun hh=>he hh.2.2.2.2.2)];exact no _ _ _ _
      · simp only [hc,if_false];rw [jA (fun hh=>hc ⟨hh.2.2.2.1,hh.2.2.2.2.1⟩)];exact no _ _ _ _
    · simp only [hr,if_false];rw [jA (fun hh=>hr ⟨hh.2.1,hh.2.2.1⟩)];exact no _ _ _ _
  · simp only [hp,if_false];rw [jA (fun hh=>hp hh.1)];exact no _ _ _ _
theorem yp (p r c:Int)(l:List Int):Ev (fun k=>zx.f k p r c l) (qq p r c l):=by
  have no: ∀p r c l,Ev (fun k=>zx.j0 k true p r c l) false:=fun p r c l=>Ev.succ (by simp only [zx.j0,if_true];exact Ev.now _)
  unfold zx.f
  simp only [Yo,Ve,Option.bind_some,decide_eq_true_eq]
  by_cases hp:isField p=true
  · simp only [hp,if_true]
    by_cases hr:0≤r∧r≤8
    · simp only [hr,and_self,if_true]
      by_cases hc:0≤c∧c≤8
      · simp only [hc,and_self,if_true]
        have hm:=y4 hr hc
        have hw:wrap64 (r*c)=r*c:=qh (by omega) (by omega)
        rw [hw]
        by_cases he:(l.length:Int)=r*c
        · rw [show ((l.length:Int) != r*c)=false by simp [he],vM ⟨hp,hr.1,hr.2,hc.1,hc.2,he⟩]
          refine Ev.succ ?_
          simp only [zx.j0,Bool.false_eq_true,if_false]
          rw [←ZE l 0]
          refine Zf (fun k i=>zx.l0 k l (l.length:Int) i p r c l) _ _ (fun k=>by simp only [zx.l0,show ¬((l.length:Int)< (l.length:Int)) by omega,if_false]) ?_
          intro i hi k
          simp only [zx.l0,show ((i:Int)< (l.length:Int)) by omega,show (0:Int)≤(i:Int) by omega,if_true,ji,zO (show i<9223372036854775807 by omega),decide_eq_true_eq]
          generalize l.getD i 0=x
          by_cases h1:x<0
          · rw [if_pos h1,if_neg (by omega)]
          rw [if_neg h1]
          by_cases h2:x≥p
          · rw [if_pos h2,if_neg (by omega)]
          rw [if_neg h2,if_pos (by omega)]
        · rw [show ((l.length:Int) != r*c)=true by simp [he],jA (fun hh=>he hh.2.2.2.2.2)];exact no _ _ _ _
      · simp only [hc,if_false];rw [jA (fun hh=>hc ⟨hh.2.2.2.1,hh.2.2.2.2.1⟩)];exact no _ _ _ _
    · simp only [hr,if_false];rw [jA (fun hh=>hr ⟨hh.2.1,hh.2.2.1⟩)];exact no _ _ _ _
  · simp only [hp,if_false];rw [jA (fun hh=>hp hh.1)];exact no _ _ _ _
end L
end
section
namespace L
open Go.RowKit F Wa Wb Wc
open Bits
theorem jG {p r c:Int}{l:List Int}(h:qq p r c l=true): ∃R C:Nat,r=R∧c=C∧R≤8∧C≤8∧l.length=R*C∧2≤p∧p≤7∧isField p=true∧ ∀x∈l,0≤x∧x<p:=by
  unfold qq at h
  simp only [Bool.and_eq_true,decide_eq_true_eq] at h
  obtain ⟨⟨h1,h2,h3,h4,h5,h6⟩,h7⟩:=h
  obtain ⟨R,rfl⟩:=Int.eq_ofNat_of_zero_le h2
  obtain ⟨C,rfl⟩:=Int.eq_ofNat_of_zero_le h4
  have:=jl h1
  refine ⟨R,C,rfl,rfl,by omega,by omega,?_,this.1,this.2,h1,fun x hx=> ?_⟩
  · have:((l.length:Nat):Int)=((R*C:Nat):Int):=by rw [h6];simp
    omega
  · have:=List.all_eq_true.1 h7 x hx;simpa using this
theorem VL {R C i j:Nat}{l:List Int}(hl:l.length=R*C)(hi:i<R)(hj:j<C):i*C+j<l.length:=by
  rw [hl];calc i*C+j<i*C+C:=by omega
    _=(i+1)*C:=by rw [Nat.succ_mul]
    _≤R*C:=Nat.mul_le_mul_right C hi
theorem qK {i C j:Nat}(hi:i≤8)(hC:C≤8)(hj:j≤8):wrap64 ((wrap64 ((i:Int)*(C:Int)))+(j:Int))=((i*C+j:Nat):Int):=by
  have h:i*C≤8*8:=Nat.mul_le_mul hi hC
  have e:(i:Int)*(C:Int)=((i*C:Nat):Int):=by simp
  rw [e,qh (n:=((i*C:Nat):Int)) (by omega) (by omega),qh (by omega) (by omega)];omega
theorem Z9 {l:List Int}{p:Int}(hp:2≤p)(h: ∀x∈l,0≤x∧x<p)(i:Nat):0≤l.getD i 0∧l.getD i 0<p:=by
  by_cases hi:i<l.length
  · have:=h l[i] (List.getElem_mem hi);simpa [List.getElem?_eq_getElem hi] using this
  · simp [List.getElem?_eq_none (Nat.le_of_not_lt hi)];omega
end L
end
section
namespace L
open Go.RowKit F Wa Wb Wc
open Bits
theorem Yn: ∀k:Nat,zp.f (k+20) 2 1=some 1∧zp.f (k+20) 3 1=some 1∧zp.f (k+20) 3 2=some 2∧zp.f (k+20) 5 1=some 1∧zp.f (k+20) 5 2=some 3∧zp.f (k+20) 5 3=some 2∧zp.f (k+20) 5 4=some 4∧zp.f (k+20) 7 1=some 1∧zp.f (k+20) 7 2=some 4∧zp.f (k+20) 7 3=some 5∧zp.f (k+20) 7 4=some 2∧zp.f (k+20) 7 5=some 3∧zp.f (k+20) 7 6=some 6:=
  fun k=>⟨by kernel_rfl,by kernel_rfl,by kernel_rfl,by kernel_rfl,by kernel_rfl,by kernel_rfl,by kernel_rfl,by kernel_rfl,by kernel_rfl,by kernel_rfl,by kernel_rfl,by kernel_rfl,by kernel_rfl⟩
theorem zdQ {p a:Int}(hp:isField p=true)(ha:1≤a)(hap:a<p): ∀k,zp.f (k+20) p a=some (jO p a):=fun k=>by
  obtain ⟨h1,h2,h3,h4,h5,h6,h7,h8,h9,h10,h11,h12,h13⟩:=Yn k
  have hp:p=2∨p=3∨p=5∨p=7:=by simpa [isField] using hp
  rcases hp with rfl|rfl|rfl|rfl
  · obtain rfl:a=1:=by omega
    exact h1
  · rcases (show a=1∨a=2 by omega) with rfl|rfl<;>assumption
  · rcases (show a=1∨a=2∨a=3∨a=4 by omega) with rfl|rfl|rfl|rfl<;>assumption
  · rcases (show a=1∨a=2∨a=3∨a=4∨a=5∨a=6 by omega) with rfl|rfl|rfl|rfl|rfl|rfl<;>assumption
theorem zdA {p a:Int}(hp:isField p=true)(ha:1≤a)(hap:a<p):Ev (fun k=>zp.f k p a) (jO p a):=
  ⟨20,fun k hk=>by obtain ⟨m,rfl⟩:=Nat.exists_eq_add_of_le hk;rw [Nat.add_comm];exact zdQ hp ha hap m⟩
theorem Yp: ∀k:Nat,zr.f (k+20) 2 1=some 1∧zr.f (k+20) 3 1=some 1∧zr.f (k+20) 3 2=some 2∧zr.f (k+20) 5 1=some 1∧zr.f (k+20) 5 2=some 3∧zr.f (k+20) 5 3=some 2∧zr.f (k+20) 5 4=some 4∧zr.f (k+20) 7 1=some 1∧zr.f (k+20) 7 2=some 4∧zr.f (k+20) 7 3=some 5∧zr.f (k+20) 7 4=some 2∧zr.f (k+20) 7 5=some 3∧zr.f (k+20) 7 6=some 6:=
  fun k=>⟨by kernel_rfl,by kernel_rfl,by kernel_rfl,by kernel_rfl,by kernel_rfl,by kernel_rfl,by kernel_rfl,by kernel_rfl,by kernel_rfl,by kernel_rfl,by kernel_rfl,by kernel_rfl,by kernel_rfl⟩
theorem zdU {p a:Int}(hp:isField p=true)(ha:1≤a)(hap:a<p): ∀k,zr.f (k+20) p a=some (jO p a):=fun k=>by
  obtain ⟨h1,h2,h3,h4,h5,h6,h7,h8,h9,h10,h11,h12,h13⟩:=Yp k
  have hp:p=2∨p=3∨p=5∨p=7:=by simpa [isField] using hp
  rcases hp with rfl|rfl|rfl|rfl
  · obtain rfl:a=1:=by omega
    exact h1
  · rcases (show a=1∨a=2 by omega) with rfl|rfl<;>assumption
  · rcases (show a=1∨a=2∨a=3∨a=4 by omega) with rfl|rfl|rfl|rfl<;>assumption
  · rcases (show a=1∨a=2∨a=3∨a=4∨a=5∨a=6 by omega) with rfl|rfl|rfl|rfl|rfl|rfl<;>assumption
theorem zdz {p a:Int}(hp:isField p=true)(ha:1≤a)(hap:a<p):Ev (fun k=>zr.f k p a) (jO p a):=
  ⟨20,fun k hk=>by obtain ⟨m,rfl⟩:=Nat.exists_eq_add_of_le hk;rw [Nat.add_comm];exact zdU hp ha hap m⟩
theorem yJ {x y:Int}(hx:0≤x∧x≤7)(hy:0≤y∧y≤7):0≤x*y∧x*y≤64:=y4 ⟨hx.1,by omega⟩ ⟨hy.1,by omega⟩
theorem wrap_mul {x y:Int}(hx:0≤x∧x≤7)(hy:0≤y∧y≤7):wrap64 (x*y)=x*y:=qh (by have:=yJ hx hy;omega) (by have:=yJ hx hy;omega)
theorem zaL {p g:Int}(hp:2≤p∧p≤7)(hg:0≤g∧g<p):wrap64 (p - g)=p - g:=qh (by omega) (by omega)
theorem J6 {x p g y:Int}(hp:2≤p∧p≤7)(hx:0≤x∧x<p)(hg:0≤g∧g<p)(hy:0≤y∧y<p):wrap64 (x+wrap64 (wrap64 (p - g)*y))=x+(p - g)*y:=by
  rw [zaL hp hg,wrap_mul ⟨by omega,by omega⟩ ⟨hy.1,by omega⟩]
  have:=yJ (x:=p - g) (y:=y) ⟨by omega,by omega⟩ ⟨hy.1,by omega⟩
  exact qh (by omega) (by omega)
theorem Yf (M:Tab)(a b j:Nat):upd (upd M a j (M b j)) b j (M a j)=jo (qH a b) M j:=by
  funext i c
  unfold upd jo qH
  by_cases h1:c=j
  · subst h1
    by_cases h2:i=b
    · subst h2;simp
    · by_cases h3:i=a
      · subst h3;simp [h2]
      · simp [h2,h3]
  · simp [h1]
theorem J3 (M:Tab)(p:Int)(r j:Nat)(x:Int):upd M r j (Int.tmod (M r j*x) p)=jo (vn p r x) M j:=by
  funext i c
  unfold upd jo vn
  by_cases h1:c=j
  · subst h1
    by_cases h2:i=r
    · subst h2;simp
    · simp [h2]
  · simp [h1]
theorem VY (M:Tab)(p:Int)(r i0 j:Nat)(g:Int):upd M i0 j (Int.tmod (M i0 j+(p - g)*M r j) p)=jo (Qq p r i0 g) M j:=by
  funext i c
  unfold upd jo Qq
  by_cases h1:c=j
  · subst h1
    by_cases h2:i=i0
    · subst h2;simp
    · simp [h2]
  · simp [h1]
theorem yu {p:Int}{R C:Nat}{F:(Nat→Int)→Nat→Int}(hF: ∀M:Tab,InF p R C M→InF p R C (z1 F M)){M:Tab}(h:InF p R C M){j:Nat}(hj:j<C):InF p R C (jo F M j):=fun i c hi hc=>by
  unfold jo
  split
  · exact hF M h i j hi hj
  · exact h i c hi hc
def vR (p r c:Int)(l:List Int):Red:=vt p r.toNat c.toNat (qC l c.toNat)
theorem J9 {p:Int}{R C:Nat}{l:List Int}(hl:l.length=R*C)(hp:2≤p)(hx: ∀x∈l,0≤x∧x<p):Qs p R C ⟨0,qC l C,[]⟩:=
  ⟨Nat.zero_le _,fun i j _ _=>Z9 hp hx _,rfl⟩
section
variable {p:Int} {R C:Nat} (hR:R≤8) (hC:C≤8) (hf:isField p=true)
include hR hC
theorem zcP {a b:Nat}(ha:a<R)(hb:b<R)(M:Tab):Ev (fun k=>zT.f k p R C (zR M R C) a b) (zR (z1 (qH a b) M) R C):=by
  unfold zT.f
  have key:=ZJ (fun k (M:Tab) j=>zT.l0 k a b j p R C (zR M R C)) C (fun M j=>jo (qH a b) M j) (fun _ _=>True) (fun M=>zR M R C)
    (fun M _=>by simp only [zT.l0,show ¬((C:Int)< (C:Int)) by omega,if_false];exact Ev.now _)
    (fun j M hj _=>⟨trivial,fun r hr=>by
      have h1:=jJ ha hj
      have h2:=jJ hb hj
      simp only [zT.l0,show ((j:Int)< (C:Int)) by omega,if_true,qK (show a≤8 by omega) hC (show j≤8 by omega),qK (show b≤8 by omega) hC (show j≤8 by omega),qj,Int.toNat_natCast,ji,qJ M ha hj,qJ M hb hj,
        show (0:Int)≤((a*C+j:Nat):Int) by omega,show ((a*C+j:Nat):Int)< ((R*C:Nat):Int) by omega,show (0:Int)≤((b*C+j:Nat):Int) by omega,show ((b*C+j:Nat):Int)< ((R*C:Nat):Int) by omega,zO (show j<9223372036854775807 by omega),vx _ ha hj,vx _ hb hj,Yf]
      exact hr⟩) M trivial
  rw [vL] at key
  exact key
include hf
theorem zb9 {t col:Nat}(ht:t<R)(hc:col<C){M:Tab}(hM:InF p R C M)(hx:M t col≠0):Ev (fun k=>zh.f k p R C (zR M R C) t col) (zR (ju p R t col M) R C):=by
  have hp:=jl hf
  have h1:=jJ ht hc
  have hv:=hM t col ht hc
  unfold zh.f
  simp only [qK (show t≤8 by omega) hC (show col≤8 by omega),qj,show (0:Int)≤((t*C+col:Nat):Int) by omega,show ((t*C+col:Nat):Int)< ((R*C:Nat):Int) by omega,if_true,ji,qJ M ht hc]
  refine Ev.bind (zdA hf (show 1≤M t col by omega) hv.2) ?_
  have hi0:=ya p (M t col)
  have hi1:=zae hp.1 (M t col)
  have l1:=qB (fun k (M':Tab) j=>zh.l0 k t col (jO p (M t col)) j p R C (zR M' R C)) C (fun M' j=>jo (vn p t (jO p (M t col))) M' j) (fun _ M'=>InF p R C M')
    (fun j M' hj hM'=>⟨yu (fun N hN=>hN.scale hp.1 ht hi0) hM' hj,fun r hr=>by
      have h2:=jJ ht hj
      have hb:=hM' t j ht hj
      simp only [zh.l0,show ((j:Int)< (C:Int)) by omega,if_true,qK (show t≤8 by omega) hC (show j≤8 by omega),qj,Int.toNat_natCast,ji,qJ M' ht hj,
        show (0:Int)≤((t*C+j:Nat):Int) by omega,show ((t*C+j:Nat):Int)< ((R*C:Nat):Int) by omega,zO (show j<9223372036854775807 by omega),show ¬p=0 by omega,if_false,
        wrap_mul (x:=M' t j) (y:=jO p (M t col)) ⟨by omega,by omega⟩ ⟨by omega,by omega⟩,vx _ ht hj,J3]
      exact hr⟩) M hM
  refine l1.2 _ (Ev.succ ?_)
  simp only [zh.l0,show ¬((C:Int)< (C:Int)) by omega,if_false]
  rw [vL]
  have hM1:InF p R C (z1 (vn p t (jO p (M t col))) M):=hM.scale hp.1 ht hi0
  show Ev _ (zR (yA p t col R (z1 (vn p t (jO p (M t col))) M)) R C)
  generalize z1 (vn p t (jO p (M t col))) M=M1 at hM1
  refine ZJ (fun k (M':Tab) i=>zh.l1 k t col i p R C (zR M' R C)) R (ja p t col) (fun _ M'=>InF p R C M') (fun M'=>zR M' R C)
    (fun M' _=>by simp only [zh.l1,show ¬((R:Int)< (R:Int)) by omega,if_false];exact Ev.now _)
    (fun i M' hi hM'=>⟨hM'.ja hp.1 ht hc hi,fun r hr=>by
      have h2:=jJ hi hc
      have hg:=hM' i col hi hc
      simp only [zh.l1,show ((i:Int)< (R:Int)) by omega,if_true,qK (show i≤8 by omega) hC (show col≤8 by omega),qj,ji,qJ M' hi hc,show (0:Int)≤((i*C+col:Nat):Int) by omega,show ((i*C+col:Nat):Int)< ((R*C:Nat):Int) by omega]
      by_cases hit:i=t
      · subst hit
        rw [ja,if_pos rfl] at hr
        refine Ev.succ ?_
        simp only [zh.l2,show ((0:Int)< (C:Int)) by omega,if_true,zO (show i<9223372036854775807 by omega)]
        exact hr
      · rw [ja,if_neg hit] at hr
        generalize M' i col=g at hr hg
        have l2:=qB (fun k (N:Tab) j=>zh.l2 k t col i g j p R C (zR N R C)) C (fun N j=>jo (Qq p t i g) N j) (fun _ N=>InF p R C N)
          (fun j N hj hN=>⟨yu (fun N hN=>hN.elim hp.1 ht hi hg) hN hj,fun r hr=>by
            have h3:=jJ hi hj
            have h4:=jJ ht hj
            simp only [zh.l2,show ((j:Int)< (C:Int)) by omega,if_true,show ¬((i:Int)=(t:Int)) by omega,if_false,qK (show i≤8 by omega) hC (show j≤8 by omega),qK (show t≤8 by omega) hC (show j≤8 by omega),qj,Int.toNat_natCast,ji,qJ N hi hj,qJ N ht hj,
              show (0:Int)≤((i*C+j:Nat):Int) by omega,show ((i*C+j:Nat):Int)< ((R*C:Nat):Int) by omega,show (0:Int)≤((t*C+j:Nat):Int) by omega,show ((t*C+j:Nat):Int)< ((R*C:Nat):Int) by omega,zO (show j<9223372036854775807 by omega),show ¬p=0 by omega,
              J6 (x:=N i j) (g:=g) (y:=N t j) hp (hN i j hi hj) hg (hN t j ht hj),vx _ hi hj,VY]
            exact hr⟩) M' hM'
        refine l2.2 _ (Ev.succ ?_)
        simp only [zh.l2,show ¬((C:Int)< (C:Int)) by omega,if_false,zO (show i<9223372036854775807 by omega)]
        rw [vL]
        exact hr⟩) M1 hM1
end
end L
end
section
namespace L
open Go.RowKit F Wa Wb Wc
open Bits
section
variable {p:Int} {R C:Nat} (hR:R≤8) (hC:C≤8) (hf:isField p=true)
include hR hC
theorem zbm {t j:Nat}(hj:j<C)(M:Tab)(l:List Int)(r:Int×Int×Int×List Int)(h:Ev (fun k=>zj.j3 k t j (zP M R t j:Nat) p R C l p R C (zR M R C)) r):
    ∀d a,a+d=R→zP M R a j=zP M R t j→Ev (fun k=>zj.l1 k t j (a:Nat) p R C l p R C (zR M R C)) r
  |0,a,ha,he=>by
    obtain rfl:a=R:=by omega
    rw [vY] at he
    rw [←he] at h
    refine Ev.succ ?_
    simp only [zj.l1,show ¬((a:Int)< (a:Int)) by omega,if_false]
    exact h
  |d+1,a,ha,he=>by
    have hlt:a<R:=by omega
    have h1:=jJ hlt hj
    rw [yr hlt] at he
    refine Ev.succ ?_
    simp only [zj.l1,show ((a:Int)< (R:Int)) by omega,if_true,qK (show a≤8 by omega) hC (show j≤8 by omega),qj,ji,qJ M hlt hj,show (0:Int)≤((a*C+j:Nat):Int) by omega,show ((a*C+j:Nat):Int)< ((R*C:Nat):Int) by omega,zO (show a<9223372036854775807 by omega)]
    by_cases c:M a j=0
    · rw [if_pos c] at he
      simp only [c,if_true]
      exact zbm hj M l r h d (a+1) (by omega) he
    · rw [if_neg c] at he
      simp only [c,if_false]
      rw [←he] at h
      exact h
include hf
theorem zdP (l:List Int): ∀d j (s:Red),j+d=C→Qs p R C s→
    Ev (fun k=>zj.l0 k (s.t:Nat) (j:Nat) p R C l p R C (zR s.M R C)) (p,(((List.range' j d).foldl (zK p R) s).t:Int),(C:Int),zR ((List.range' j d).foldl (zK p R) s).M ((List.range' j d).foldl (zK p R) s).t C):=by
  have hp:=jl hf
  have fin: ∀(s:Red),Qs p R C s→ ∀j:Int,Ev (fun k=>zj.j1 k (s.t:Nat) j false p R C l p R C (zR s.M R C)) (p,(s.t:Int),(C:Int),zR s.M s.t C):=fun s hs j=>by
    have ht:=hs.t_le
    have hm:=y4 (r:=(s.t:Int)) (c:=(C:Int)) ⟨by omega,by omega⟩ ⟨by omega,by omega⟩
    have hw:wrap64 ((s.t:Int)*(C:Int))=((s.t*C:Nat):Int):=by rw [qh (by omega) (by omega)];simp
    have hle:s.t*C≤R*C:=Nat.mul_le_mul_right _ ht
    have hRC:R*C≤64:=Nat.le_trans (Nat.mul_le_mul hR hC) (by decide)
    refine Ev.succ ?_
    simp only [zj.j1,Bool.false_eq_true,if_false,Option.bind_some,hw,show (0:Int)≤((s.t*C:Nat):Int) by omega,if_true,qj,show ((s.t*C:Nat):Int)≤((R*C:Nat):Int) by omega,Int.toNat_natCast,Vb s.M ht,List.length_nil,show 0+s.t*C<17592186044416 by omega,List.nil_append]
    exact Ev.now _
  intro d
  induction d with
  |zero=>
    intro j s hj hs
    obtain rfl:j=C:=by omega
    refine Ev.succ ?_
    simp only [zj.l0,show ¬((j:Int)< (j:Int)) by omega,if_false]
    exact fin s hs _
  |succ d ih=>
    intro j s hj hs
    have hjC:j<C:=by omega
    refine Ev.succ ?_
    simp only [zj.l0,show ((j:Int)< (C:Int)) by omega,if_true]
    by_cases ht:s.t=R
    · rw [Qk _ ht]
      simp only [show decide ((s.t:Int)< (R:Int))=false from decide_eq_false (by omega)]
      exact fin s hs _
    · have htR:s.t<R:=by have:=hs.t_le;omega
      simp only [show decide ((s.t:Int)< (R:Int))=true from decide_eq_true (by omega)]
      refine Ev.succ ?_
      simp only [zj.j1,if_true]
      have ho:=hs.step hp.1 hjC
      have hrec:=ih (j+1) (zK p R s j) (by omega) ho
      rw [List.range'_succ,List.foldl_cons]
      refine zbm hR hC hjC s.M l _ ?_ (R - s.t) s.t (by omega) rfl
      refine Ev.succ ?_
      obtain ⟨f1,f2,f3,f4⟩:=jb s.M R j (R - s.t) s.t (by omega)
      by_cases c:zP s.M R s.t j=R
      · have he:zK p R s j=s:=by unfold zK;rw [if_neg (by omega)]
        rw [he] at hrec ⊢
        simp only [zj.j3,c,if_true,zO (show j<9223372036854775807 by omega)]
        exact hrec
      · have hlt:zP s.M R s.t j<R:=by omega
        have he:zK p R s j=⟨s.t+1,ju p R s.t j (z1 (qH s.t (zP s.M R s.t j)) s.M),s.ps++[(j:Int)]⟩:=by unfold zK;rw [if_pos hlt]
        rw [he] at hrec ⊢
        simp only [zj.j3,show ¬(((zP s.M R s.t j:Nat):Int)=(R:Int)) by omega,if_false,zO (show j<9223372036854775807 by omega),zO (show s.t<9223372036854775807 by omega)]
        refine Ev.bind (zcP hR hC htR hlt s.M) ?_
        have hsw:=hs.inF.swap (M:=s.M) htR hlt
        refine Ev.bind (zb9 hR hC hf htR hjC hsw ?_) hrec
        unfold z1 qH
        by_cases c2:s.t=zP s.M R s.t j
        · rw [if_pos c2];rw [←c2] at f3;exact f3 htR
        · rw [if_neg c2,if_pos rfl];exact f3 hlt
end
def jc (p r c:Int)(l:List Int):Int×Int×Int×List Int:=
  if qq p r c l=true then (p,((vR p r c l).t:Int),c,zR (vR p r c l).M (vR p r c l).t c.toNat) else (0,0,0,[])
theorem Q6 (p r c:Int)(l:List Int):Ev (fun k=>zj.f k p r c l) (jc p r c l):=by
  unfold zj.f jc
  refine Ev.bind (vS p r c l) ?_
  cases h:qq p r c l
  · simp only [Bool.false_eq_true,if_false];exact Ev.now _
  obtain ⟨R,C,rfl,rfl,hR,hC,hl,h2,h7,hf,hx⟩:=jG h
  have hRC:R*C≤64:=Nat.le_trans (Nat.mul_le_mul hR hC) (by decide)
  simp only [if_true,qp.f,Option.bind_some,List.length_nil,show 0+l.length<17592186044416 by omega,List.nil_append]
  have key:=zdP hR hC hf l C 0 ⟨0,qC l C,[]⟩ (by omega) (J9 hl h2 hx)
  rw [Zr hl,←List.range_eq_range'] at key
  unfold vR
  rw [Int.toNat_natCast,Int.toNat_natCast]
  exact key
end L
end
section
namespace L
open Go.RowKit F Wa Wb Wc
open Bits
theorem zcR (a e:Nat)(ha:a<256)(he:e≤64):j5.f (a:Int) (e:Int)=some (a.testBit e):=by
  unfold j5.f;rw [Yt (by omega) (by omega),if_pos (by omega),zad _ _ (by omega) (by omega)]
theorem zcs (M:Tab)(p:Int)(t i0 j:Nat)(x y:Int):upd M i0 j (Int.tmod (Int.tmod (M i0 j*y - M t j*x) p+p) p)=jo (V1 p t i0 x y) M j:=by
  funext i c
  unfold upd jo V1
  by_cases h1:c=j
  · subst h1
    by_cases h2:i=i0
    · subst h2;simp
    · simp [h2]
  · simp [h1]
theorem zbh {a b x y p:Int}(hp:2≤p∧p≤7)(ha:0≤a∧a<p)(hb:0≤b∧b<p)(hx:0≤x∧x<p)(hy:0≤y∧y<p):
    wrap64 (Int.tmod (wrap64 (wrap64 (a*y) - wrap64 (b*x))) p+p)=Int.tmod (a*y - b*x) p+p:=by
  rw [wrap_mul (x:=a) (y:=y) ⟨ha.1,by omega⟩ ⟨hy.1,by omega⟩,wrap_mul (x:=b) (y:=x) ⟨hb.1,by omega⟩ ⟨hx.1,by omega⟩]
  have h1:=yJ (x:=a) (y:=y) ⟨ha.1,by omega⟩ ⟨hy.1,by omega⟩
  have h2:=yJ (x:=b) (y:=x) ⟨hb.1,by omega⟩ ⟨hx.1,by omega⟩
  rw [show wrap64 (a*y - b*x)=a*y - b*x from qh (by omega) (by omega)]
  have h3:=Y4 (a*y - b*x) (show 0<p by omega)
  have h4:=Int.tmod_lt_of_pos (a*y - b*x) (show 0<p by omega)
  exact qh (by omega) (by omega)
section
variable {p:Int} {R C:Nat} (hR:R≤8) (hC:C≤8) (hf:isField p=true)
include hR hC
theorem zaW {t j s:Nat}(hj:j<C)(M:Tab)(r:Int)(h:Ev (fun k=>zi.j2 k p R C s (zR M R C) t j (zP M R t j:Nat)) r):
    ∀d a,a+d=R→zP M R a j=zP M R t j→Ev (fun k=>zi.l1 k p R C s (zR M R C) t j (a:Nat)) r
  |0,a,ha,he=>by
    obtain rfl:a=R:=by omega
    rw [vY] at he
    rw [←he] at h
    refine Ev.succ ?_
    simp only [zi.l1,show ¬((a:Int)< (a:Int)) by omega,if_false]
    exact h
  |d+1,a,ha,he=>by
    have hlt:a<R:=by omega
    have h1:=jJ hlt hj
    rw [yr hlt] at he
    refine Ev.succ ?_
    simp only [zi.l1,show ((a:Int)< (R:Int)) by omega,if_true,qK (show a≤8 by omega) hC (show j≤8 by omega),qj,ji,qJ M hlt hj,show (0:Int)≤((a*C+j:Nat):Int) by omega,show ((a*C+j:Nat):Int)< ((R*C:Nat):Int) by omega,zO (show a<9223372036854775807 by omega)]
    by_cases c:M a j=0
    · rw [if_pos c] at he
      simp only [c,if_true]
      exact zaW hj M r h d (a+1) (by omega) he
    · rw [if_neg c] at he
      simp only [c,if_false]
      rw [←he] at h
      exact h
include hf
theorem zbv {s:Nat}(hs:s<256): ∀d j (st:Nat×Tab),j+d=C→st.1≤R→InF p R C st.2→
    Ev (fun k=>zi.l0 k p R C s (zR st.2 R C) (st.1:Nat) (j:Nat)) (((List.range' j d).foldl (fun st j=>if s.testBit j=true then vX p R st j else st) st).1:Int):=by
  have hp:=jl hf
  intro d
  induction d with
  |zero=>
    intro j st hj ht hM
    obtain rfl:j=C:=by omega
    refine Ev.succ ?_
    simp only [zi.l0,show ¬((j:Int)< (j:Int)) by omega,if_false]
    exact Ev.now _
  |succ d ih=>
    intro j st hj ht hM
    have hjC:j<C:=by omega
    refine Ev.succ ?_
    simp only [zi.l0,show ((j:Int)< (C:Int)) by omega,if_true,zcR s j hs (by omega),Option.bind_some,zO (show j<9223372036854775807 by omega)]
    rw [List.range'_succ,List.foldl_cons]
    cases hb:s.testBit j
    · simp only [Bool.false_eq_true,if_false]
      exact ih (j+1) st (by omega) ht hM
    simp only [if_true]
    obtain ⟨f1,f2,f3,f4⟩:=jb st.2 R j (R - st.1) st.1 (by omega)
    refine zaW hR hC hjC st.2 _ ?_ (R - st.1) st.1 (by omega) rfl
    refine Ev.succ ?_
    by_cases c:zP st.2 R st.1 j<R
    · have he:vX p R st j=(st.1+1,yR p st.1 j R (z1 (qH (zP st.2 R st.1 j) st.1) st.2)):=by unfold vX;rw [if_pos c]
      rw [he]
      have htR:st.1<R:=by omega
      simp only [zi.j2,show ¬(((zP st.2 R st.1 j:Nat):Int)≥(R:Int)) by omega,if_false]
      generalize zP st.2 R st.1 j=b at c f1 ⊢
      have l2:=qB (fun k (M:Tab) m=>zi.l2 k p R C s (zR M R C) (st.1:Nat) (j:Nat) (b:Nat) m) C (fun M m=>jo (qH b st.1) M m) (fun _ _=>True)
        (fun m M hm _=>⟨trivial,fun r hr=>by
          have h1:=jJ c hm
          have h2:=jJ htR hm
          simp only [zi.l2,show ((m:Int)< (C:Int)) by omega,if_true,qK (show b≤8 by omega) hC (show m≤8 by omega),qK (show st.1≤8 by omega) hC (show m≤8 by omega),qj,Int.toNat_natCast,ji,qJ M c hm,qJ M htR hm,
            show (0:Int)≤((b*C+m:Nat):Int) by omega,show ((b*C+m:Nat):Int)< ((R*C:Nat):Int) by omega,show (0:Int)≤((st.1*C+m:Nat):Int) by omega,show ((st.1*C+m:Nat):Int)< ((R*C:Nat):Int) by omega,zO (show m<9223372036854775807 by omega),vx _ c hm,vx _ htR hm,Yf]
          exact hr⟩) st.2 trivial
      refine l2.2 _ (Ev.succ ?_)
      simp only [zi.l2,show ¬((C:Int)< (C:Int)) by omega,if_false,zO (show st.1<9223372036854775807 by omega)]
      rw [vL]
      have hM1:InF p R C (z1 (qH b st.1) st.2):=hM.swap c htR
      generalize z1 (qH b st.1) st.2=M1 at hM1 ⊢
      refine QF (fun k (M':Tab) i=>zi.l3 k p R C s (zR M' R C) (st.1:Nat) (j:Nat) i) R (vH p st.1 j) (fun i M'=>InF p R C M'∧st.1<i) (fun M'=>(((List.range' (j+1) d).foldl (fun st j=>if s.testBit j=true then vX p R st j else st) (st.1+1,M')).1:Int))
        (fun M' hM'=> ?_) (fun i M' hi hM'=>⟨⟨hM'.1.vH hp.1,by omega⟩,fun r hr=> ?_⟩) (R - (st.1+1)) (st.1+1) M1 (by omega) ⟨hM1,by omega⟩
      · simp only [zi.l3,show ¬((R:Int)< (R:Int)) by omega,if_false,zO (show st.1<9223372036854775807 by omega),zO (show j<9223372036854775807 by omega)]
        exact ih (j+1) (st.1+1,M') (by omega) htR hM'.1
      · obtain ⟨hM',hti⟩:=hM'
        have h1:=jJ hi hjC
        have h2:=jJ htR hjC
        have hx:=hM' i j hi hjC
        have hy:=hM' st.1 j htR hjC
        simp only [zi.l3,show ((i:Int)< (R:Int)) by omega,if_true,qK (show i≤8 by omega) hC (show j≤8 by omega),qK (show st.1≤8 by omega) hC (show j≤8 by omega),qj,ji,qJ M' hi hjC,qJ M' htR hjC,
          show (0:Int)≤((i*C+j:Nat):Int) by omega,show ((i*C+j:Nat):Int)< ((R*C:Nat):Int) by omega,show (0:Int)≤((st.1*C+j:Nat):Int) by omega,show ((st.1*C+j:Nat):Int)< ((R*C:Nat):Int) by omega]
        unfold vH at hr
        generalize M' i j=x at hr hx ⊢
        generalize M' st.1 j=y at hr hy ⊢
        have hstep: ∀N:Tab,InF p R C N→InF p R C (z1 (V1 p st.1 i x y) N):=fun N hN i' c' hi' hc'=>by
          unfold z1 V1
          split
          · exact zby _ hp.1
          · exact hN i' c' hi' hc'
        have l4:=qB (fun k (N:Tab) m=>zi.l4 k p R C s (zR N R C) (st.1:Nat) (j:Nat) (i:Nat) x y m) C (fun N m=>jo (V1 p st.1 i x y) N m) (fun _ N=>InF p R C N)
          (fun m N hm hN=>⟨yu hstep hN hm,fun r hr=>by
            have h3:=jJ hi hm
            have h4:=jJ htR hm
            simp only [zi.l4,show ((m:Int)< (C:Int)) by omega,if_true,qK (show i≤8 by omega) hC (show m≤8 by omega),qK (show st.1≤8 by omega) hC (show m≤8 by omega),qj,Int.toNat_natCast,ji,qJ N hi hm,qJ N htR hm,
              show (0:Int)≤((i*C+m:Nat):Int) by omega,show ((i*C+m:Nat):Int)< ((R*C:Nat):Int) by omega,show (0:Int)≤((st.1*C+m:Nat):Int) by omega,show ((st.1*C+m:Nat):Int)< ((R*C:Nat):Int) by omega,zO (show m<9223372036854775807 by omega),show ¬p=0 by omega,if_false,
              zbh (a:=N i m) (b:=N st.1 m) (x:=x) (y:=y) hp (hN i m hi hm) (hN st.1 m htR hm) hx hy,vx _ hi hm,zcs]
            exact hr⟩) M' hM'
        refine l4.2 _ (Ev.succ ?_)
        simp only [zi.l4,show ¬((C:Int)< (C:Int)) by omega,if_false,zO (show i<9223372036854775807 by omega)]
        rw [vL]
        exact hr
    · have he:vX p R st j=st:=by unfold vX;rw [if_neg c]
      rw [he]
      simp only [zi.j2,show (((zP st.2 R st.1 j:Nat):Int)≥(R:Int)) by omega,if_true,zO (show j<9223372036854775807 by omega)]
      exact ih (j+1) st (by omega) ht hM
theorem zbW {s:Nat}(hs:s<2 ^C){l:List Int}(hl:l.length=R*C)(hx: ∀x∈l,0≤x∧x<p):
    Ev (fun k=>zi.f k p R C l s) ((yD p R s (qC l C) C).1:Int):=by
  have hp:=jl hf
  have h256:s<256:=Nat.lt_of_lt_of_le hs (Nat.pow_le_pow_right (n:=2) (by decide) hC)
  have hRC:R*C≤64:=Nat.le_trans (Nat.mul_le_mul hR hC) (by decide)
  have key:=zbv hR hC hf h256 C 0 (0,qC l C) (by omega) (Nat.zero_le _) (fun i j _ _=>Z9 hp.1 hx _)
  rw [Zr hl,←List.range_eq_range'] at key
  unfold zi.f
  simp only [Option.bind_some,List.length_nil,show 0+l.length<17592186044416 by omega,if_true,List.nil_append]
  exact key
end
end L
end
section
namespace L
open Go.RowKit F Wa Wb Wc
open Bits
theorem ZP (M:Tab){R C i:Nat}(hi:i<R):zM (qm M R C) (i:Int)=jf M C i:=by
  unfold zM;rw [Int.toNat_natCast];exact y9 M hi
theorem YT (M:Tab){R C a b:Nat}(ha:a<R)(hb:b<R):Yi (qm M R C) (a:Int) (b:Int)=some (qm (z1 (qH a b) M) R C):=by
  unfold Yi
  rw [if_pos ⟨by omega,by rw [qy];omega,by omega,by rw [qy];omega⟩]
  simp only [Int.toNat_natCast,y9 M ha,y9 M hb,zaB M ha hb]
section
variable {p:Int} {R C:Nat} (hR:R≤8) (hC:C≤8) (hf:isField p=true)
include hR
theorem zbK {t j:Nat}(ps:List Int)(hj:j<C)(M:Tab)(l:List Int)(r:Int×Int×Int×List Int×List Int)(h:Ev (fun k=>zb.j3 k (qm M R C) ps j t (zP M R t j:Nat) p R C l) r):
    ∀d a,a+d=R→zP M R a j=zP M R t j→Ev (fun k=>zb.l2 k (qm M R C) ps j t (a:Nat) p R C l) r
  |0,a,ha,he=>by
    obtain rfl:a=R:=by omega
    rw [vY] at he
    rw [←he] at h
    refine Ev.succ ?_
    simp only [zb.l2,qy,show ¬((a:Int)< (a:Int)) by omega,if_false]
    exact h
  |d+1,a,ha,he=>by
    have hlt:a<R:=by omega
    rw [yr hlt] at he
    refine Ev.succ ?_
    simp only [zb.l2,qy,show ((a:Int)< (R:Int)) by omega,if_true,show (0:Int)≤(a:Int) by omega,show (0:Int)≤(j:Int) by omega,ZP M hlt,jy,show ((j:Int)< (C:Int)) by omega,ji,yw M hj,zO (show a<9223372036854775807 by omega)]
    by_cases c:M a j=0
    · rw [if_pos c] at he
      simp only [c,if_true]
      exact zbK ps hj M l r h d (a+1) (by omega) he
    · rw [if_neg c] at he
      simp only [c,if_false]
      rw [←he] at h
      exact h
include hC hf
theorem zb1 {t col:Nat}(ps:List Int)(hps:ps.length≤8)(ht:t<R)(hc:col<C){M:Tab}(hM:InF p R C M)(hx:M t col≠0)(l:List Int)(r:Int×Int×Int×List Int×List Int)
    (h:Ev (fun k=>zb.l1 k (qm (ju p R t col M) R C) (ps++[(col:Int)]) ((col+1:Nat):Int) p R C l) r):
    Ev (fun k=>zb.l3 k (qm M R C) ps col t (jO p (M t col)) (C:Int) 0 p R C l) r:=by
  have hp:=jl hf
  have hv:=hM t col ht hc
  have hi0:=ya p (M t col)
  have hi1:=zae hp.1 (M t col)
  have l1:=qB (fun k (M':Tab) j=>zb.l3 k (qm M' R C) ps col t (jO p (M t col)) (C:Int) j p R C l) C (fun M' j=>jo (vn p t (jO p (M t col))) M' j) (fun _ M'=>InF p R C M')
    (fun j M' hj hM'=>⟨yu (fun N hN=>hN.scale hp.1 ht hi0) hM' hj,fun r hr=>by
      have hb:=hM' t j ht hj
      simp only [zb.l3,show ((j:Int)< (C:Int)) by omega,if_true,qy,show (0:Int)≤(t:Int) by omega,show ((t:Int)< (R:Int)) by omega,show (0:Int)≤(j:Int) by omega,ZP M' ht,jy,Int.toNat_natCast,ji,yw M' hj,
        zO (show j<9223372036854775807 by omega),show ¬p=0 by omega,if_false,
        wrap_mul (x:=M' t j) (y:=jO p (M t col)) ⟨by omega,by omega⟩ ⟨by omega,by omega⟩,JB _ ht hj,J3]
      exact hr⟩) M hM
  refine l1.2 _ (Ev.succ ?_)
  simp only [zb.l3,show ¬((C:Int)< (C:Int)) by omega,if_false,qy]
  rw [Qm]
  have hM1:InF p R C (z1 (vn p t (jO p (M t col))) M):=hM.scale hp.1 ht hi0
  replace h:Ev (fun k=>zb.l1 k (qm (yA p t col R (z1 (vn p t (jO p (M t col))) M)) R C) (ps++[(col:Int)]) ((col+1:Nat):Int) p R C l) r:=h
  generalize z1 (vn p t (jO p (M t col))) M=M1 at hM1 h ⊢
  have l4:=qB (fun k (M':Tab) i=>zb.l4 k (qm M' R C) ps col t (R:Int) i p R C l) R (ja p t col) (fun _ M'=>InF p R C M')
    (fun i M' hi hM'=>⟨hM'.ja hp.1 ht hc hi,fun r hr=>by
      have hg:=hM' i col hi hc
      simp only [zb.l4,show ((i:Int)< (R:Int)) by omega,if_true,qy,show (0:Int)≤(i:Int) by omega,show (0:Int)≤(col:Int) by omega,ZP M' hi,jy,show ((col:Int)< (C:Int)) by omega,ji,yw M' hc]
      by_cases hit:i=t
      · subst hit
        rw [ja,if_pos rfl] at hr
        refine Ev.succ ?_
        simp only [zb.l5,show ((0:Int)< (C:Int)) by omega,if_true,zO (show i<9223372036854775807 by omega)]
        exact hr
      · rw [ja,if_neg hit] at hr
        generalize M' i col=g at hr hg ⊢
        have l2:=qB (fun k (N:Tab) j=>zb.l5 k (qm N R C) ps col t (i:Int) g j (R:Int) (i:Int) p R C l) C (fun N j=>jo (Qq p t i g) N j) (fun _ N=>InF p R C N)
          (fun j N hj hN=>⟨yu (fun N hN=>hN.elim hp.1 ht hi hg) hN hj,fun r hr=>by
            simp only [zb.l5,show ((j:Int)< (C:Int)) by omega,if_true,show ¬((i:Int)=(t:Int)) by omega,if_false,qy,show (0:Int)≤(i:Int) by omega,show ((i:Int)< (R:Int)) by omega,show (0:Int)≤(j:Int) by omega,ZP N hi,ZP N ht,jy,show (0:Int)≤(t:Int) by omega,show ((t:Int)< (R:Int)) by omega,Int.toNat_natCast,ji,yw N hj,
              zO (show j<9223372036854775807 by omega),show ¬p=0 by omega,
              J6 (x:=N i j) (g:=g) (y:=N t j) hp (hN i j hi hj) hg (hN t j ht hj),JB _ hi hj,VY]
            exact hr⟩) M' hM'
        refine l2.2 _ (Ev.succ ?_)
        simp only [zb.l5,show ¬((C:Int)< (C:Int)) by omega,if_false,zO (show i<9223372036854775807 by omega)]
        rw [Qm]
        exact hr⟩) M1 hM1
  refine l4.2 _ (Ev.succ ?_)
  simp only [zb.l4,show ¬((R:Int)< (R:Int)) by omega,if_false,show ps.length<17592186044416 by omega,if_true,zO (show col<9223372036854775807 by omega)]
  exact h
theorem zcF (l:List Int): ∀d j (s:Red),j+d=C→Qs p R C s→
    Ev (fun k=>zb.l1 k (qm s.M R C) s.ps (j:Nat) p R C l) (p,(((List.range' j d).foldl (zK p R) s).t:Int),(C:Int),zR ((List.range' j d).foldl (zK p R) s).M ((List.range' j d).foldl (zK p R) s).t C,((List.range' j d).foldl (zK p R) s).ps):=by
  have hp:=jl hf
  intro d
  induction d with
  |zero=>
    intro j s hj hs
    obtain rfl:j=C:=by omega
    have ht:=hs.t_le
    have hlen:=hs.len
    have hRC:R*j≤64:=Nat.le_trans (Nat.mul_le_mul hR hC) (by decide)
    refine Ev.succ ?_
    simp only [zb.l1,show ¬((j:Int)< (j:Int)) by omega,if_false,hlen,show (0:Int)≤(s.t:Int) by omega,if_true,qy,show ((s.t:Int)≤(R:Int)) by omega,Option.bind_some,Int.toNat_natCast,zay s.M ht]
    refine ZJ (fun k (x:List Int) i=>zb.l6 k s.ps (qm s.M s.t j) (s.t:Int) i p (s.t:Int) (j:Int) x) s.t (fun x i=>x++jf s.M j i) (fun i x=>x=zR s.M i j) (fun x=>(p,(s.t:Int),(j:Int),x,s.ps))
      (fun x hx=>by simp only [zb.l6,show ¬((s.t:Int)< (s.t:Int)) by omega,if_false];exact Ev.now _)
      (fun i x hi hx=>⟨by rw [hx];exact QA s.M j i,fun r hr=>by
        have hle:i*j≤R*j:=Nat.mul_le_mul_right _ (by omega)
        simp only [zb.l6,show ((i:Int)< (s.t:Int)) by omega,if_true,show (0:Int)≤(i:Int) by omega,qy,ZP s.M hi,jy,show x.length+j<17592186044416 by rw [hx,qj];omega,zO (show i<9223372036854775807 by omega)]
        exact hr⟩) [] (by simp [zR]) |> fun q=> ?_
    have hfold:(List.range s.t).foldl (fun x i=>x++jf s.M j i) []=zR s.M s.t j:=by
      have: ∀n,(List.range n).foldl (fun x i=>x++jf s.M j i) []=zR s.M n j:=fun n=>by
        induction n with
        |zero=>simp [zR]
        |succ n ih=>rw [List.range_succ,List.foldl_append,ih];exact QA s.M j n
      exact this _
    rw [hfold] at q
    exact q
  |succ d ih=>
    intro j s hj hs
    have hjC:j<C:=by omega
    have hlen:=hs.len
    have htle:=hs.t_le
    refine Ev.succ ?_
    simp only [zb.l1,show ((j:Int)< (C:Int)) by omega,if_true,hlen]
    have ho:=hs.step hp.1 hjC
    have hrec:=ih (j+1) (zK p R s j) (by omega) ho
    rw [List.range'_succ,List.foldl_cons]
    obtain ⟨f1,f2,f3,f4⟩:=jb s.M R j (R - s.t) s.t (by omega)
    refine zbK hR s.ps hjC s.M l _ ?_ (R - s.t) s.t (by omega) rfl
    refine Ev.succ ?_
    by_cases c:zP s.M R s.t j=R
    · have he:zK p R s j=s:=by unfold zK;rw [if_neg (by omega)]
      rw [he] at hrec ⊢
      simp only [zb.j3,c,qy,show ((R:Int)≥(R:Int)) by omega,if_true,zO (show j<9223372036854775807 by omega)]
      exact hrec
    · have hlt:zP s.M R s.t j<R:=by omega
      have htR:s.t<R:=by omega
      have he:zK p R s j=⟨s.t+1,ju p R s.t j (z1 (qH s.t (zP s.M R s.t j)) s.M),s.ps++[(j:Int)]⟩:=by unfold zK;rw [if_pos hlt]
      rw [he] at hrec ⊢
      have hsw:=hs.inF.swap (M:=s.M) htR hlt
      have hne:(z1 (qH s.t (zP s.M R s.t j)) s.M) s.t j≠0:=by
        unfold z1 qH
        by_cases c2:s.t=zP s.M R s.t j
        · rw [if_pos c2];rw [←c2] at f3;exact f3 htR
        · rw [if_neg c2,if_pos rfl];exact f3 hlt
      simp only [zb.j3,qy,show ¬(((zP s.M R s.t j:Nat):Int)≥(R:Int)) by omega,if_false,YT s.M htR hlt,Option.bind_some,show (0:Int)≤(s.t:Int) by omega,show ((s.t:Int)< (R:Int)) by omega,if_true,show (0:Int)≤(j:Int) by omega,ZP _ htR,jy,show ((j:Int)< (C:Int)) by omega,ji,yw _ hjC]
      have hv:=hsw s.t j htR hjC
      refine Ev.bind (zdz hf (show 1≤(z1 (qH s.t (zP s.M R s.t j)) s.M) s.t j by omega) hv.2) ?_
      exact zb1 hR hC hf s.ps (by omega) htR hjC hsw hne l _ hrec
end
def zck (p:Int)(R C:Nat)(l:List Int):Int×Int×Int×List Int×List Int:=
  (p,((vt p R C (qC l C)).t:Int),(C:Int),zR (vt p R C (qC l C)).M (vt p R C (qC l C)).t C,(vt p R C (qC l C)).ps)
theorem za8 {p:Int}{R C:Nat}(hR:R≤8)(hC:C≤8)(hf:isField p=true){l:List Int}(hl:l.length=R*C)(hx: ∀x∈l,0≤x∧x<p):Ev (fun k=>zb.f k p R C l) (zck p R C l):=by
  have hp:=jl hf
  have hRC:R*C≤64:=Nat.le_trans (Nat.mul_le_mul hR hC) (by decide)
  have key:=zcF hR hC hf l C 0 ⟨0,qC l C,[]⟩ (by omega) (J9 hl hp.1 hx)
  rw [←List.range_eq_range'] at key
  unfold zb.f
  have l0:=qB (fun k (x:List (List Int)) i=>zb.l0 k x i p R C l) R (fun x i=>x++[jf (qC l C) C i]) (fun i x=>x=qm (qC l C) i C)
    (fun i x hi hxx=>⟨by rw [hxx];exact JQ _ C i,fun r hr=>by
      have hle:(i+1)*C≤R*C:=Nat.mul_le_mul_right _ (by omega)
      have hle2:i*C≤(i+1)*C:=Nat.mul_le_mul_right _ (by omega)
      have m1:=y4 (r:=(i:Int)) (c:=(C:Int)) ⟨by omega,by omega⟩ ⟨by omega,by omega⟩
      have m2:=y4 (r:=((i+1:Nat):Int)) (c:=(C:Int)) ⟨by omega,by omega⟩ ⟨by omega,by omega⟩
      have w1:wrap64 ((i:Int)*(C:Int))=((i*C:Nat):Int):=by rw [qh (by omega) (by omega)];simp
      have w2:wrap64 (((i+1:Nat):Int)*(C:Int))=(((i+1)*C:Nat):Int):=by rw [qh (by omega) (by omega),Int.natCast_mul]
      have hrow:(l.take ((i+1)*C)).drop (i*C)=jf (qC l C) C i:=by
        have:=QN (qC l C) hi (C:=C)
        rw [Zr hl] at this;exact this
      have hlen:x.length=i:=by rw [hxx,qy]
      simp only [zb.l0,show ((i:Int)< (R:Int)) by omega,if_true,Option.bind_some,zO (show i<9223372036854775807 by omega),w1,w2,show (0:Int)≤((i*C:Nat):Int) by omega,show ((i*C:Nat):Int)≤(((i+1)*C:Nat):Int) by omega,show (((i+1)*C:Nat):Int)≤(l.length:Int) by omega,Int.toNat_natCast,hrow,jy,List.length_nil,show 0+C<17592186044416 by omega,hlen,show i<5864062014805 by omega,List.nil_append]
      exact hr⟩) [] (by simp [qm])
  have hfold:=l0.1
  refine l0.2 _ (Ev.succ ?_)
  simp only [zb.l0,show ¬((R:Int)< (R:Int)) by omega,if_false]
  rw [hfold]
  exact key
end L
end
section
namespace L
open Go.RowKit F Wa Wb Wc
open Bits
theorem Y8 {p:Int}(h:isField p=true):Mt.qD p:=by simpa [isField,Mt.qD] using h
section
variable {p:Int} {R C:Nat} (hR:R≤8) (hC:C≤8)
include hR hC
theorem zbA (hf:isField p=true){X:Tab}(hX:InF p R C X):Ev (fun k=>zb.f k p R C (zR X R C)) (p,((vt p R C X).t:Int),(C:Int),zR (vt p R C X).M (vt p R C X).t C,(vt p R C X).ps):=by
  have hp:=jl hf
  have hRC:R*C≤64:=Nat.le_trans (Nat.mul_le_mul hR hC) (by decide)
  have key:=zcF hR hC hf (zR X R C) C 0 ⟨0,X,[]⟩ (by omega) ⟨Nat.zero_le _,hX,rfl⟩
  rw [←List.range_eq_range'] at key
  unfold zb.f
  have l0:=qB (fun k (x:List (List Int)) i=>zb.l0 k x i p R C (zR X R C)) R (fun x i=>x++[jf X C i]) (fun i x=>x=qm X i C)
    (fun i x hi hxx=>⟨by rw [hxx];exact JQ _ C i,fun r hr=>by
      have hle:(i+1)*C≤R*C:=Nat.mul_le_mul_right _ (by omega)
      have hle2:i*C≤(i+1)*C:=Nat.mul_le_mul_right _ (by omega)
      have m1:=y4 (r:=(i:Int)) (c:=(C:Int)) ⟨by omega,by omega⟩ ⟨by omega,by omega⟩
      have m2:=y4 (r:=((i+1:Nat):Int)) (c:=(C:Int)) ⟨by omega,by omega⟩ ⟨by omega,by omega⟩
      have w1:wrap64 ((i:Int)*(C:Int))=((i*C:Nat):Int):=by rw [qh (by omega) (by omega)];simp
      have w2:wrap64 (((i+1:Nat):Int)*(C:Int))=(((i+1)*C:Nat):Int):=by rw [qh (by omega) (by omega),Int.natCast_mul]
      have hlen:x.length=i:=by rw [hxx,qy]
      simp only [zb.l0,show ((i:Int)< (R:Int)) by omega,if_true,Option.bind_some,zO (show i<9223372036854775807 by omega),w1,w2,show (0:Int)≤((i*C:Nat):Int) by omega,show ((i*C:Nat):Int)≤(((i+1)*C:Nat):Int) by omega,qj,show (((i+1)*C:Nat):Int)≤((R*C:Nat):Int) by omega,Int.toNat_natCast,QN X hi,jy,List.length_nil,show 0+C<17592186044416 by omega,hlen,show i<5864062014805 by omega,List.nil_append]
      exact hr⟩) [] (by simp [qm])
  have hfold:=l0.1
  refine l0.2 _ (Ev.succ ?_)
  simp only [zb.l0,show ¬((R:Int)< (R:Int)) by omega,if_false]
  rw [hfold]
  exact key
theorem zc3 {s:Int}{es:List Nat}(hes:Zb s=es)(hlt: ∀e∈es,e<C){l:List Int}(hl:l.length=R*C):
    Ev (fun k=>zC.f k p R C l s) (p,(R:Int),(es.length:Int),zR (vO es (qC l C)) R es.length):=by
  have h8:es.length≤8:=by rw [←hes];exact ZD s
  have hRe:R*es.length≤64:=Nat.le_trans (Nat.mul_le_mul hR h8) (by decide)
  unfold zC.f
  refine Ev.bind (Vt s) ?_
  rw [hes]
  have hil:(ints es).length=es.length:=by simp [ints]
  have l0:=qB (fun k (x:List Int) i=>zC.l0 k (ints es) i p R C l p R ((ints es).length:Int) x) R (fun x i=>x++jf (vO es (qC l C)) es.length i) (fun i x=>x=zR (vO es (qC l C)) i es.length)
    (fun i x hi hxx=>⟨by rw [hxx];exact QA _ _ i,fun r hr=>by
      have hle:(i+1)*es.length≤R*es.length:=Nat.mul_le_mul_right _ (by omega)
      rw [Nat.succ_mul] at hle
      have hxl:x.length=i*es.length:=by rw [hxx,qj]
      simp only [zC.l0,show ((i:Int)< (R:Int)) by omega,if_true]
      have l1:=qB (fun k (y:List Int) q=>zC.l1 k (ints es) i (ints es) ((ints es).length:Int) q p R C l p R ((ints es).length:Int) y) es.length (fun y q=>y++[qC l C i (es.getD q 0)]) (fun q y=>y=x++(List.range q).map (vO es (qC l C) i))
        (fun q y hq hy=>⟨by rw [hy,List.range_succ,List.map_append,List.append_assoc];rfl,fun r hr=>by
          have he:es[q]∈es:=List.getElem_mem hq
          have hg:es.getD q 0=es[q]:=by simp [List.getD_eq_getElem?_getD,hq]
          have hcl:=VL hl hi (hlt _ he)
          have h7:=hlt _ he
          have hyl:y.length=i*es.length+q:=by rw [hy,List.length_append,hxl];simp
          simp only [zC.l1,hil,show ((q:Int)< (es.length:Int)) by omega,if_true,show (0:Int)≤(q:Int) by omega,zcj es q hq,qQ.f,qK (show i≤8 by omega) hC (show es[q]≤8 by omega),show (0:Int)≤((i*C+es[q]:Nat):Int) by omega,show ((i*C+es[q]:Nat):Int)< (l.length:Int) by omega,ji,Option.bind_some,show y.length<17592186044416 by omega,zO (show q<9223372036854775807 by omega)]
          rw [hg] at hr
          rw [hil] at hr
          exact hr⟩) x (by simp)
      have l1e:=l1.1
      refine l1.2 _ (Ev.succ ?_)
      simp only [zC.l1,hil,show ¬((es.length:Int)< (es.length:Int)) by omega,if_false,zO (show i<9223372036854775807 by omega)]
      rw [l1e]
      rw [hil] at hr
      exact hr⟩) [] (by simp [zR])
  have l0e:=l0.1
  refine l0.2 _ (Ev.succ ?_)
  simp only [zC.l0,show ¬((R:Int)< (R:Int)) by omega,if_false]
  rw [l0e,hil]
  exact Ev.now _
end
def VG (p r c:Int)(l:List Int)(s:Int):Bool:=qq p r c l&&decide (0≤c∧c≤8∧0≤s∧s<2 ^c.toNat)
def vy (p r c:Int)(l:List Int)(s:Int):Int:=if VG p r c l s=true then ((yD p r.toNat s.toNat (qC l c.toNat) c.toNat).1:Int) else -1
theorem Z7 (p r c:Int)(l:List Int)(s:Int):Ev (fun k=>qR.f k p r c l s) (vy p r c l s):=by
  unfold qR.f vy VG
  refine Ev.bind (vS p r c l) ?_
  cases h:qq p r c l
  · simp only [Bool.false_eq_true,if_false,Bool.false_and];exact Ev.now _
  simp only [if_true,zan,Option.bind_some,Bool.true_and]
  by_cases hs:0≤c∧c≤8∧0≤s∧s<2 ^c.toNat
  · simp only [hs,decide_true,and_self,if_true]
    obtain ⟨R,C,rfl,rfl,hR,hC,hl,h2,h7,hf,hx⟩:=jG h
    obtain ⟨S,rfl⟩:=Int.eq_ofNat_of_zero_le hs.2.2.1
    rw [Int.toNat_natCast] at hs
    have hS:S<2 ^C:=by have:=hs.2.2.2;exact_mod_cast this
    simp only [Int.toNat_natCast]
    exact Ev.bind (zbW hR hC hf hS hl hx) (Ev.now _)
  · simp only [hs,decide_false,Bool.false_eq_true,if_false];exact Ev.now _
theorem Qc (p r c:Int)(l:List Int)(s:Int):Ev (fun k=>qa.f k p r c l s) (vy p r c l s):=by
  have no:Ev (fun k=>qa.j0 k s true p r c l) (-1):=Ev.succ (by simp only [qa.j0,if_true];exact Ev.now _)
  unfold qa.f vy VG
  refine Ev.bind (yp p r c l) ?_
  cases h:qq p r c l
  · simp only [Bool.false_eq_true,if_false,Bool.false_and];exact no
  simp only [if_true,zcb,Option.bind_some,Bool.true_and]
  by_cases hs:0≤c∧c≤8∧0≤s∧s<2 ^c.toNat
  · simp only [hs,decide_true,and_self,if_true,Bool.not_true]
    obtain ⟨R,C,rfl,rfl,hR,hC,hl,h2,h7,hf,hx⟩:=jG h
    obtain ⟨S,rfl⟩:=Int.eq_ofNat_of_zero_le hs.2.2.1
    rw [Int.toNat_natCast] at hs
    have hS:S<2 ^C:=by have:=hs.2.2.2;exact_mod_cast this
    have h256:S<256:=Nat.lt_of_lt_of_le hS (Nat.pow_le_pow_right (n:=2) (by decide) hC)
    have hp:=jl hf
    have hM:InF p R C (qC l C):=fun i j _ _=>Z9 hp.1 hx _
    have hes:Zb (S:Int)=(List.range C).filter S.testBit:=by
      rw [←Yg S C hC hS]
      unfold Zb;rw [if_pos (by simp [isAny];omega)];rfl
    have hlt: ∀e∈(List.range C).filter S.testBit,e<C:=fun e he=>List.mem_range.1 (List.mem_filter.1 he).1
    have h8:((List.range C).filter S.testBit).length≤8:=by rw [←hes];exact ZD _
    refine Ev.succ ?_
    simp only [qa.j0,Bool.false_eq_true,if_false,Int.toNat_natCast]
    refine Ev.bind (zc3 hR hC hes hlt hl) ?_
    have hX:InF p R ((List.range C).filter S.testBit).length (vO ((List.range C).filter S.testBit) (qC l C)):=fun i q hi hq=>by
      unfold vO
      refine hM i _ hi (hlt _ ?_)
      rw [List.getD_eq_getElem?_getD,List.getElem?_eq_getElem hq]
      exact List.getElem_mem hq
    refine Ev.bind (zbA hR h8 hf hX) ?_
    refine Ev.some ?_
    have hlen:(vt p R ((List.range C).filter S.testBit).length (vO ((List.range C).filter S.testBit) (qC l C))).ps.length=(vt p R ((List.range C).filter S.testBit).length (vO ((List.range C).filter S.testBit) (qC l C))).t:=by
      have hok: ∀(js:List Nat) (st:Red),(∀j∈js,j< ((List.range C).filter S.testBit).length)→Qs p R ((List.range C).filter S.testBit).length st→Qs p R ((List.range C).filter S.testBit).length (js.foldl (zK p R) st):=fun js=>by
        induction js with
        |nil=>intro st _ h;exact h
        |cons j js ih=>intro st hj h;exact ih _ (fun x hx=>hj x (List.mem_cons_of_mem _ hx)) (h.step hp.1 (hj j List.mem_cons_self))
      exact (hok _ _ (fun j hj=>List.mem_range.1 hj) ⟨Nat.zero_le _,hX,rfl⟩).len
    rw [hlen,zaG,zdp (Y8 hf) hC hS hM,←YJ (Y8 hf) hC hS hM]
  · simp only [hs,decide_false,Bool.not_false,Bool.false_eq_true,if_false];exact no
end L
end
section
namespace L
open Go.RowKit F Wa Wb Wc
open Bits
open Mt (Ker linB qD rk full Z0)
theorem VV {p:Int}{R C:Nat}(hf:isField p=true)(hR:R≤8)(hC:C≤8){l:List Int}(hl:l.length=R*C)(hx: ∀x∈l,0≤x∧x<p):qq p R C l=true:=by
  rw [vM ⟨hf,by omega,by omega,by omega,by omega,by rw [hl];simp⟩,List.all_eq_true]
  exact fun x h=>decide_eq_true (hx x h)
theorem Zx {p r c:Int}{l:List Int}(h:qq p r c l=true):isField p=true∧ ∃R C:Nat,r=R∧c=C∧R≤8∧C≤8∧l.length=R*C∧ ∀x∈l,0≤x∧x<p:=by
  by_cases hh:isField p=true∧0≤r∧r≤8∧0≤c∧c≤8∧(l.length:Int)=r*c
  · rw [vM hh,List.all_eq_true] at h
    obtain ⟨hf,hr0,hr,hc0,hc,hlen⟩:=hh
    obtain ⟨R,rfl⟩: ∃R:Nat,r=R:=⟨r.toNat,by omega⟩
    obtain ⟨C,rfl⟩: ∃C:Nat,c=C:=⟨c.toNat,by omega⟩
    exact ⟨hf,R,C,rfl,rfl,by omega,by omega,by rw [←Int.natCast_mul] at hlen;omega,fun x hx=>of_decide_eq_true (h x hx)⟩
  · rw [jA hh] at h;cases h
theorem zcS {p:Int}(h:isField p=true):qD p:=by simpa [isField,qD] using h
theorem zai {p:Int}(hp:2≤p){R C:Nat}{l:List Int}(hx: ∀x∈l,0≤x∧x<p):InF p R C (qC l C):=fun i j _ _=>by
  unfold qC
  rw [List.getD_eq_getElem?_getD]
  by_cases h:i*C+j<l.length
  · rw [List.getElem?_eq_getElem h];exact hx _ (List.getElem_mem h)
  · rw [List.getElem?_eq_none (Nat.le_of_not_lt h)];exact ⟨Int.le_refl 0,by show (0:Int)<p;omega⟩
theorem Jo {p:Int}{R C:Nat}{M:Tab}(h:InF p R C M): ∀x∈zR M R C,0≤x∧x<p:=fun x hx=>by
  unfold zR at hx
  obtain ⟨k,hk,rfl⟩:=List.mem_map.1 hx
  rw [List.mem_range] at hk
  exact h _ _ (J8 hk) (Nat.mod_lt _ (QG hk))
theorem Qa (p:Int)(R C:Nat)(M:Tab): ∀m,m≤C→vv p R (full C) M m=(List.range m).foldl (zK p R) ⟨0,M,[]⟩
  |0,_=>rfl
  |m+1,hm=>by
    have ih:=Qa p R C M m (by omega)
    unfold vv at ih ⊢
    rw [List.range_succ,List.foldl_append,List.foldl_append,ih]
    simp only [List.foldl_cons,List.foldl_nil,Z0,decide_eq_true (show m<C by omega),if_true]
theorem JY {p r c:Int}{l:List Int}(h:qq p r c l=true):
    ∃t m,jc p r c l=(p,t,c,m)∧m.length≤64∧jc p t c m=(p,t,c,m)∧ ∀s,vy p t c m s=vy p r c l s:=by
  obtain ⟨hf,R,C,rfl,rfl,hR,hC,hl,hx⟩:=Zx h
  have hp:=zcS hf
  have hpp:=hp.pos
  have hin:=zai (R:=R) (C:=C) hpp.1 hx
  obtain ⟨P,hri,hu⟩:=Un.run hp hin C (Nat.le_refl C)
  have hrun:=Qa p R C (qC l C) C (Nat.le_refl C)
  obtain ⟨P2,_,hps,_⟩:=QH (s:=full C) hp hin C (Nat.le_refl C)
  rw [hrun] at hps
  have e:vR p R C l=(List.range C).foldl (zK p R) ⟨0,qC l C,[]⟩:=by unfold vR vt;rw [Int.toNat_natCast,Int.toNat_natCast]
  rw [←e] at hri hu hps
  have ea:jc p R C l=(p,((vR p R C l).t:Int),(C:Int),zR (vR p R C l).M (vR p R C l).t C):=by unfold jc;rw [if_pos h,Int.toNat_natCast]
  clear e hrun
  generalize vR p R C l=st at hri hu hps ea
  have htR:=hri.t_le
  have hinT:InF p st.t C st.M:=fun i j hi hj=>hri.inF i j (by omega) hj
  have hlen:=qj st.M st.t C
  have hmx:qq p st.t C (zR st.M st.t C)=true:=VV hf (by omega) hC hlen (Jo hinT)
  have hX: ∀i c,i<st.t→c<C→qC (zR st.M st.t C) C i c=st.M i c:=fun i c hi hc=>qJ st.M hi hc
  refine ⟨_,_,ea,?_,?_,?_⟩
  · rw [hlen];exact Nat.mul_le_mul (show st.t≤8 by omega) hC
  · obtain ⟨Y,hY,e1,e2⟩:=JT hp (R':=R) hri hu hX C (Nat.le_refl C)
    rw [zcm hri] at e2
    have e3:vR p st.t C (zR st.M st.t C)=(List.range C).foldl (zK p st.t) ⟨0,qC (zR st.M st.t C) C,[]⟩:=by unfold vR vt;rw [Int.toNat_natCast,Int.toNat_natCast]
    unfold jc
    rw [if_pos hmx,e3,e2,e1,Int.toNat_natCast,Qr hY]
  · intro s
    unfold vy VG
    rw [hmx,h]
    by_cases hs:(0≤(C:Int)∧(C:Int)≤8∧0≤s∧s<2 ^(C:Int).toNat)
    · rw [decide_eq_true hs]
      simp only [Bool.and_self,if_true,Int.toNat_natCast]
      obtain ⟨_,_,hs0,hs1⟩:=hs
      rw [Int.toNat_natCast] at hs1
      obtain ⟨S,rfl⟩: ∃S:Nat,s=S:=⟨s.toNat,by omega⟩
      have hS:S<2 ^C:=by
        have:((2 ^C:Nat):Int)=(2:Int) ^C:=by simp
        rw [←this] at hs1;exact Int.ofNat_lt.1 hs1
      have hinX:InF p st.t C (qC (zR st.M st.t C) C):=zai hpp.1 (Jo hinT)
      simp only [Int.toNat_natCast]
      rw [YJ hp hC hS hinX,YJ hp hC hS hin]
      have hk:Ker p C st.t (qC (zR st.M st.t C) C)=Ker p C R (qC l C):=funext fun v=>propext ((zbT hri hX v).symm.trans (hps.ker v).symm)
      rw [hk]
    · rw [decide_eq_false hs];rfl
end L
end
section
namespace L
open Go.RowKit F Wa Wb Wc
open Bits
theorem y6 (p r c:Int)(l:List Int):Ev (fun k=>qz.f k p r c l) (jc p r c l):=by
  unfold qz.f jc
  refine Ev.bind (yp p r c l) ?_
  cases h:qq p r c l
  · simp only [Bool.false_eq_true,if_false];exact Ev.now _
  obtain ⟨R,C,rfl,rfl,hR,hC,hl,h2,h7,hf,hx⟩:=jG h
  simp only [if_true]
  refine Ev.bind (za8 hR hC hf hl hx) ?_
  unfold vR
  rw [Int.toNat_natCast,Int.toNat_natCast]
  exact Ev.now _
end L
end
section
namespace L
open Go.RowKit F Wa Wb Wc
open Bits
def mk (l:List UInt8):ByteArray:=⟨l.toArray⟩
def pre (a:List UInt8):List (List UInt8)→List (List UInt8)
  | []=>[a]
  |w::r=>(a++w)::r
def wl (c:UInt8):List UInt8→List (List UInt8)
  | []=>[[]]
  |b::l=>if b=c then []::wl c l else pre [b] (wl c l)
def words (c:UInt8)(t:ByteArray):List ByteArray:=(wl c t.data.toList).map mk
theorem zci (a b:List UInt8)(ws:List (List UInt8))(h:ws≠[]):pre a (pre b ws)=pre (a++b) ws:=by
  cases ws with
  |nil=>exact absurd rfl h
  |cons w r=>simp [pre]
theorem zdg (a:List UInt8)(ws:List (List UInt8)):pre a ws≠[]:=by cases ws<;>simp [pre]
theorem V2 (c:UInt8): ∀l,wl c l≠[]
  | []=>by simp [wl]
  |b::l=>by
    rw [wl]
    split
    · simp
    · exact zdg _ _
theorem zal (ws:List (List UInt8))(h:ws≠[]):pre [] ws=ws:=by
  cases ws with
  |nil=>exact absurd rfl h
  |cons w r=>simp [pre]
theorem ZK (c:UInt8): ∀(a r:List UInt8),c∉a→wl c (a++c::r)=a::wl c r
  | [],r,_=>by rw [List.nil_append,wl,if_pos rfl]
  |b::a,r,h=>by
    have h1:b≠c:=fun e=>h (by simp [e])
    have h2:c∉a:=fun e=>h (by simp [e])
    rw [List.cons_append,wl,if_neg h1,ZK c a r h2]
    simp [pre]
theorem QL (c:UInt8): ∀(a:List UInt8),c∉a→wl c a=[a]
  | [],_=>rfl
  |b::a,h=>by
    have h1:b≠c:=fun e=>h (by simp [e])
    have h2:c∉a:=fun e=>h (by simp [e])
    rw [wl,if_neg h1,QL c a h2]
    simp [pre]
def total (ws:List (List UInt8)):Nat:=(ws.map List.length).sum
theorem vw (w:List UInt8)(ws:List (List UInt8)):total (w::ws)=w.length+total ws:=by simp [total]
theorem JA (c:UInt8): ∀l,total (wl c l)+(wl c l).length=l.length+1
  | []=>rfl
  |b::l=>by
    have ih:=JA c l
    rw [wl]
    split
    · rw [vw,List.length_cons,List.length_cons,List.length_nil];omega
    · cases h:wl c l with
      |nil=>exact absurd h (V2 c l)
      |cons w r=>
        rw [h,vw,List.length_cons] at ih
        rw [pre,vw,List.length_cons,List.length_append,List.length_cons,List.length_cons,List.length_nil];omega
theorem JV {w:List UInt8}: ∀ {ws:List (List UInt8)},w∈ws→w.length≤total ws
  | [],h=>by cases h
  |x::ws,h=>by
    rw [vw]
    rcases List.mem_cons.1 h with rfl|h
    · omega
    · have:=JV h;omega
theorem J0 (c:UInt8): ∀s,Lib.splitK [c] 0 (Lib.count s [c]) s=wl c s
  | []=>by rw [Lib.count_miss (by simp [Lib.index])];rfl
  |b::l=>by
    have ih:=J0 c l
    by_cases h:b=c
    · subst h
      have hix:Lib.index (b::l) [b]=((0:Nat):Int):=by rw [Lib.index];simp [List.isPrefixOf]
      rw [Lib.count_cons_eq,Nat.add_comm,Lib.splitK,wl,if_pos rfl,hix,←ih]
      rfl
    · rw [Lib.count_cons_ne b c l h,wl,if_neg h,←ih]
      cases hk:Lib.count l [c] with
      |zero=>rfl
      |succ k=>
        have hm:Lib.index l [c]≠ -1:=fun e=>by rw [Lib.count_miss e] at hk;cases hk
        have hge:=Lib.index_ge l [c]
        obtain ⟨j,hj⟩: ∃j:Nat,Lib.index l [c]=j:=⟨(Lib.index l [c]).toNat,by omega⟩
        have hp:([c]:List UInt8).isPrefixOf (b::l)=false:=by simp [List.isPrefixOf,Ne.symm h]
        have hix:Lib.index (b::l) [c]=((j+1:Nat):Int):=by
          rw [Lib.index,hp]
          simp only [Bool.false_eq_true,if_false]
          rw [if_neg (fun e=>hm (beq_iff_eq.1 e)),hj];omega
        rw [Lib.splitK,Lib.splitK,hix,hj,if_neg (fun e=>by have:=beq_iff_eq.1 e;omega),if_neg (fun e=>by have:=beq_iff_eq.1 e;omega)]
        simp only [Int.toNat_natCast,Nat.add_zero,List.length_cons,List.length_nil,Nat.zero_add]
        rw [pre,List.take_succ_cons,show j+1+1=(j+1)+1 from rfl,List.drop_succ_cons]
        rfl
theorem Jm (c:UInt8):strOfNums [(c.toNat:Int)]=⟨#[c]⟩:=Lib.Lz.strOfNums_map [c]
theorem map_mk: ∀l:List ByteArray,(l.map (fun a=>a.data.toList)).map mk=l
  | []=>rfl
  |a::l=>by rw [List.map_cons,List.map_cons,map_mk l];congr 1
theorem Y3 (t:ByteArray)(c:UInt8)(h:t.size≤1048576):qE.f t (c.toNat:Int)=some (words c t):=by
  have hs:vE t (c.toNat:Int)=words c t:=by
    unfold vE words
    rw [Jm,←J0,←map_mk (Lib.splitB _ _ _ _),Lib.splitB_data]
  have hl:=Lib.splitB_all (⟨#[c]⟩:ByteArray) (Nat.le_refl _) 0 _ t rfl
  have hn:=Lib.countB_le (⟨#[c]⟩:ByteArray) (Nat.le_refl _) _ t (Nat.le_refl _)
  unfold qE.f
  rw [if_pos ?_,hs]
  rw [show vE t (c.toNat:Int)=Lib.splitB (⟨#[c]⟩:ByteArray) 0 (Lib.countB t (⟨#[c]⟩:ByteArray)) t by unfold vE;rw [Jm],Jm]
  exact ⟨by omega,Nat.le_refl _,hl,by omega⟩
theorem Vm (t:ByteArray)(i:Nat)(h:i<t.data.toList.length):bt t (i:Int)=((t.data.toList[i]'h).toNat:Int):=by
  unfold bt
  have h1:(i:Int).toNat<t.size:=by rw [Int.toNat_natCast];exact h
  rw [dif_pos h1]
  rfl
theorem zax (t:ByteArray)(c:UInt8)(h:t.size≤1048576):Ev (fun k=>zS.f k t (c.toNat:Int)) (words c t):=by
  have hz:t.data.toList.length=t.size:=rfl
  have key: ∀d i frm:Nat,∀out:List ByteArray,i+d=t.size→frm≤i→out.length≤i→Ev (fun k=>zS.l0 k t (c.toNat:Int) out (frm:Int) (i:Int)) (out++(pre ((t.data.toList.drop frm).take (i - frm)) (wl c (t.data.toList.drop i))).map mk):=by
    intro d
    induction d with
    |zero=>
      intro i frm out hd hf ho
      refine Ev.succ ?_
      simp only [zS.l0,show ((i:Int)≤(t.size:Int)) by omega,show ((i:Int)=(t.size:Int)) by omega,show ((0:Int)≤(frm:Int)) by omega,show ((frm:Int)≤(i:Int)) by omega,show out.length<8796093022208 by omega,if_true,Int.toNat_natCast,show ((frm:Int)≤(t.size:Int)) by omega,show ((t.size:Int)≤(t.size:Int)) by omega]
      rw [qh (show -9223372036854775808≤(t.size:Int)+1 by omega) (by omega)]
      refine Ev.succ ?_
      simp only [zS.l0,show ¬((t.size:Int)+1≤(t.size:Int)) by omega,if_false]
      refine Ev.some ?_
      rw [show t.data.toList.drop i=[] from List.drop_eq_nil_of_le (by omega),wl,pre,List.append_nil,Lib.extract_eq,show i=t.size by omega]
      rfl
    |succ d ih=>
      intro i frm out hd hf ho
      have hi:i<t.data.toList.length:=by omega
      refine Ev.succ ?_
      simp only [zS.l0,show ((i:Int)≤(t.size:Int)) by omega,show ¬((i:Int)=(t.size:Int)) by omega,show ((0:Int)≤(frm:Int)) by omega,show ((0:Int)≤(i:Int)) by omega,show ((i:Int)< (t.size:Int)) by omega,show ((frm:Int)≤(i:Int)) by omega,show out.length<8796093022208 by omega,if_true,if_false,Int.toNat_natCast,Vm t i hi,zO (show i<9223372036854775807 by omega)]
      rw [List.drop_eq_getElem_cons hi,wl]
      by_cases hc:t.data.toList[i]=c
      · rw [if_pos hc]
        have e:((t.data.toList[i]).toNat:Int)=(c.toNat:Int):=by rw [hc]
        simp only [e,if_true]
        have:=ih (i+1) (i+1) (out++[t.extract frm i]) (by omega) (Nat.le_refl _) (by rw [List.length_append,List.length_cons,List.length_nil];omega)
        rw [Nat.sub_self,List.take_zero,zal _ (V2 _ _),List.append_assoc,Lib.extract_eq] at this
        rw [pre,List.append_nil,List.map_cons]
        rw [Lib.extract_eq]
        exact this
      · rw [if_neg hc]
        have e: ¬((t.data.toList[i]).toNat:Int)=(c.toNat:Int):=fun e=>hc (UInt8.toNat_inj.1 (by omega))
        simp only [e,if_false]
        have:=ih (i+1) frm out (by omega) (by omega) (by omega)
        rw [zci _ _ _ (V2 _ _)]
        have ht:(t.data.toList.drop frm).take (i+1 - frm)=(t.data.toList.drop frm).take (i - frm)++[t.data.toList[i]]:=by
          rw [show i+1 - frm=(i - frm)+1 by omega,List.take_add_one,List.getElem?_drop,show frm+(i - frm)=i by omega,List.getElem?_eq_getElem hi]
          rfl
        rw [←ht]
        exact this
  have:=key t.size 0 0 [] (by omega) (Nat.le_refl _) (Nat.le_refl _)
  rw [Nat.sub_self,List.take_zero,List.drop_zero,zal _ (V2 _ _),List.nil_append] at this
  exact this
end L
end
section
namespace L
open Go.RowKit F Wa Wb Wc
open Bits
def dg (n:Nat):ByteArray:=⟨#[UInt8.ofNat (48+n)]⟩
theorem jT (n:Nat):(dg n).size=1:=rfl
theorem y0 (b:UInt8):(⟨#[b]⟩:ByteArray).size=1:=rfl
theorem Qj {n:Nat}(h:n<10):z7.f (n:Int)=some (dg n):=by
  unfold z7.f
  rw [if_pos (by omega),Int.toNat_natCast,Lib.decDigits,dif_pos h]
  rfl
theorem zb2 {n:Nat}(h:n<10):strOfNums [((48+n:Nat):Int)]=dg n:=by
  have h1:=Lib.Lz.strOfNums_map [UInt8.ofNat (48+n)]
  have h2:(UInt8.ofNat (48+n)).toNat=48+n:=by rw [UInt8.toNat_ofNat'];omega
  rw [List.map_cons,List.map_nil,h2] at h1
  exact h1
theorem y5 {n:Nat}(h:n<10):Ev (fun k=>zA.f k (n:Int)) (dg n):=by
  unfold zA.f
  by_cases h0:n=0
  · subst h0
    simp only [show (((0:Nat):Int)=0) from rfl,if_true];exact Ev.now _
  have e1:Int.tmod (n:Int) 10=n:=by rw [Int.tmod_eq_emod_of_nonneg (by omega)];omega
  have e2:Int.tdiv (n:Int) 10=0:=by rw [Int.tdiv_eq_ediv_of_nonneg (by omega)];omega
  have e3:wrap64 (48+(n:Int))%256=((48+n:Nat):Int):=by rw [qh (by omega) (by omega)];omega
  have e5:wrap64 (0:Int)=0:=qh (by omega) (by omega)
  have e6:decide ((n:Int)<0)=false:=decide_eq_false (by omega)
  simp only [if_neg (show ¬((n:Int)=0) by omega)]
  refine Ev.succ ?_
  simp only [zA.l0,if_neg (show ¬((n:Int)=0) by omega),e1,if_neg (show ¬((n:Int)<0) by omega),Option.bind_some,e3,zb2 h,e2,e5,e6,jT]
  rw [show (⟨#[]⟩:ByteArray).size=0 from rfl,show dg n++(⟨#[]⟩:ByteArray)=dg n from ByteArray.append_empty]
  simp only [show (1+0≤9223372036854775807) by omega,if_true]
  refine Ev.succ ?_
  simp only [zA.l0,if_true,Bool.false_eq_true,if_false]
  exact Ev.now _
def Z2 (l:List Int)(C i:Nat)(s:ByteArray):ByteArray:=(List.range C).foldl (fun s j=>s++dg (l.getD (i*C+j) 0).toNat) (s++⟨#[32]⟩)
def Zv (l:List Int)(P R C:Nat):ByteArray:=(List.range R).foldl (fun s i=>Z2 l C i s) (dg P++⟨#[32]⟩++dg R++⟨#[120]⟩++dg C)
section
variable {P R C:Nat} {l:List Int}
theorem zdq (hR:R≤8)(hC:C≤8)(hl:l.length=R*C)(hP:2≤P∧P≤7)(hx: ∀x∈l,0≤x∧x< (P:Int)){s0:ByteArray}(h0:s0.size≤5):
    Ev (fun k=>zu.l0 k s0 0 P R C l) ((List.range R).foldl (fun s i=>Z2 l C i s) s0):=by
  have key:=qB (fun k s i=>zu.l0 k s i P R C l) R (fun s i=>Z2 l C i s) (fun i s=>s.size≤5+9*i)
    (fun i s hi hs=>by
      have inner:=qB (fun k s j=>zu.l1 k s i j P R C l) C (fun s j=>s++dg (l.getD (i*C+j) 0).toNat) (fun j s=>s.size≤6+9*i+j)
        (fun j s hj hs=>⟨by rw [ByteArray.size_append,jT];omega,fun r hr=>by
          have hin:=VL hl hi hj
          have hg:=Z9 (show (2:Int)≤(P:Int) by omega) hx (i*C+j)
          obtain ⟨x,ex⟩:=Int.eq_ofNat_of_zero_le hg.1
          rw [ex] at hr hg
          simp only [zu.l1,show ((j:Int)< (C:Int)) by omega,if_true,qK (show i≤8 by omega) hC (show j≤8 by omega),show (0:Int)≤((i*C+j:Nat):Int) by omega,show ((i*C+j:Nat):Int)< (l.length:Int) by omega,ji,ex,zO (show j<9223372036854775807 by omega)]
          refine Ev.bind (y5 (show x<10 by omega)) ?_
          have hc:s.size+1≤9223372036854775807:=by omega
          simp only [jT,hc,if_true]
          rw [Int.toNat_natCast] at hr;exact hr⟩) (s++⟨#[32]⟩) (by rw [ByteArray.size_append,y0];omega)
      have hrow:Z2 l C i s=(List.range C).foldl (fun s j=>s++dg (l.getD (i*C+j) 0).toNat) (s++⟨#[32]⟩):=rfl
      refine ⟨by rw [hrow];have:=inner.1;omega,fun r hr=> ?_⟩
      simp only [zu.l0,show ((i:Int)< (R:Int)) by omega,if_true,if_pos (show s.size+1≤9223372036854775807 by omega)]
      refine inner.2 _ (Ev.succ ?_)
      simp only [zu.l1,show ¬((C:Int)< (C:Int)) by omega,if_false,zO (show i<9223372036854775807 by omega)]
      rw [←hrow];exact hr) s0 (by omega)
  refine key.2 _ (Ev.succ ?_)
  simp only [zu.l0,show ¬((R:Int)< (R:Int)) by omega,if_false]
  exact Ev.now _
theorem zc1 (hR:R≤8)(hC:C≤8)(hl:l.length=R*C)(hP:2≤P∧P≤7)(hx: ∀x∈l,0≤x∧x< (P:Int)){s0:ByteArray}(h0:s0.size≤5):
    Ev (fun k=>zG.l0 k s0 0 P R C l) ((List.range R).foldl (fun s i=>Z2 l C i s) s0):=by
  have key:=qB (fun k s i=>zG.l0 k s i P R C l) R (fun s i=>Z2 l C i s) (fun i s=>s.size≤5+9*i)
    (fun i s hi hs=>by
      have inner:=qB (fun k s j=>zG.l1 k s i j P R C l) C (fun s j=>s++dg (l.getD (i*C+j) 0).toNat) (fun j s=>s.size≤6+9*i+j)
        (fun j s hj hs=>⟨by rw [ByteArray.size_append,jT];omega,fun r hr=>by
          have hin:=VL hl hi hj
          have hg:=Z9 (show (2:Int)≤(P:Int) by omega) hx (i*C+j)
          obtain ⟨x,ex⟩:=Int.eq_ofNat_of_zero_le hg.1
          rw [ex] at hr hg
          have hc:s.size+1≤9223372036854775807:=by omega
          simp only [zG.l1,qQ.f,show ((j:Int)< (C:Int)) by omega,if_true,qK (show i≤8 by omega) hC (show j≤8 by omega),show (0:Int)≤((i*C+j:Nat):Int) by omega,show ((i*C+j:Nat):Int)< (l.length:Int) by omega,ji,ex,zO (show j<9223372036854775807 by omega),Option.bind_some,Qj (show x<10 by omega),jT,hc,if_true]
          rw [Int.toNat_natCast] at hr;exact hr⟩) (s++⟨#[32]⟩) (by rw [ByteArray.size_append,y0];omega)
      have hrow:Z2 l C i s=(List.range C).foldl (fun s j=>s++dg (l.getD (i*C+j) 0).toNat) (s++⟨#[32]⟩):=rfl
      refine ⟨by rw [hrow];have:=inner.1;omega,fun r hr=> ?_⟩
      simp only [zG.l0,show ((i:Int)< (R:Int)) by omega,if_true,if_pos (show s.size+1≤9223372036854775807 by omega)]
      refine inner.2 _ (Ev.succ ?_)
      simp only [zG.l1,show ¬((C:Int)< (C:Int)) by omega,if_false,zO (show i<9223372036854775807 by omega)]
      rw [←hrow];exact hr) s0 (by omega)
  refine key.2 _ (Ev.succ ?_)
  simp only [zG.l0,show ¬((R:Int)< (R:Int)) by omega,if_false]
  exact Ev.now _
end
def vN (p r c:Int)(l:List Int):ByteArray:=if qq p r c l=true then Zv l p.toNat r.toNat c.toNat else ⟨#[]⟩
theorem ZY (p r c:Int)(l:List Int):Ev (fun k=>zG.f k p r c l) (vN p r c l):=by
  unfold zG.f vN
  refine Ev.bind (yp p r c l) ?_
  cases h:qq p r c l
  · simp only [Bool.false_eq_true,if_false];exact Ev.now _
  obtain ⟨R,C,rfl,rfl,hR,hC,hl,h2,h7,hf,hx⟩:=jG h
  obtain ⟨P,rfl⟩:=Int.eq_ofNat_of_zero_le (show 0≤p by omega)
  simp only [if_true,Int.toNat_natCast,Qj (show P<10 by omega),Qj (show R<10 by omega),Qj (show C<10 by omega),Option.bind_some,jT,ByteArray.size_append,y0]
  simp only [show (1+1≤9223372036854775807) by omega,show (1+1+1≤9223372036854775807) by omega,show (1+1+1+1≤9223372036854775807) by omega,show (1+1+1+1+1≤9223372036854775807) by omega,if_true]
  exact zc1 hR hC hl ⟨by omega,by omega⟩ hx (by simp only [ByteArray.size_append,jT,y0];omega)
theorem yg (p r c:Int)(l:List Int):Ev (fun k=>zu.f k p r c l) (vN p r c l):=by
  unfold zu.f vN
  refine Ev.bind (vS p r c l) ?_
  cases h:qq p r c l
  · simp only [Bool.false_eq_true,if_false];exact Ev.now _
  obtain ⟨R,C,rfl,rfl,hR,hC,hl,h2,h7,hf,hx⟩:=jG h
  obtain ⟨P,rfl⟩:=Int.eq_ofNat_of_zero_le (show 0≤p by omega)
  simp only [if_true,Int.toNat_natCast]
  refine Ev.bind (y5 (show P<10 by omega)) ?_
  simp only [jT,if_pos (show (1+1≤9223372036854775807) by omega)]
  refine Ev.bind (y5 (show R<10 by omega)) ?_
  simp only [ByteArray.size_append,jT,y0,if_pos (show (1+1+1≤9223372036854775807) by omega),if_pos (show (1+1+1+1≤9223372036854775807) by omega)]
  refine Ev.bind (y5 (show C<10 by omega)) ?_
  simp only [ByteArray.size_append,jT,y0,if_pos (show (1+1+1+1+1≤9223372036854775807) by omega)]
  exact zdq hR hC hl ⟨by omega,by omega⟩ hx (by simp only [ByteArray.size_append,jT,y0];omega)
end L
end
section
namespace L
open Go.RowKit F Wa Wb Wc
open Bits
theorem Ql (x:Int):(strOfNums [x]).size=1:=rfl
theorem Ye (neg:Bool): ∀(m:Nat) (n:Int) (out:ByteArray),m≤13→ -(10:Int) ^m<n→n< (10:Int) ^m→out.size+m≤1000→ ∃t,Ev (fun k=>zA.l0 k n neg out) t:=by
  have fin: ∀out:ByteArray,out.size≤1000→ ∃t,Ev (fun k=>zA.l0 k 0 neg out) t:=by
    intro out ho
    cases neg
    · exact ⟨out,Ev.succ (by simp only [zA.l0,if_true,Bool.false_eq_true,if_false];exact Ev.now _)⟩
    · exact ⟨_,Ev.succ (by simp only [zA.l0,if_true,show 1+out.size≤9223372036854775807 by omega];exact Ev.now _)⟩
  intro m
  induction m with
  | zero => intro n out hm h0 h1 ho; obtain rfl : n = 0 := by omega
            exact fin out (by omega)
  |succ m ih=>
    intro n out hm h0 h1 ho
    by_cases hn:n=0
    · subst hn;exact fin out (by omega)
    have hp:(10:Int) ^(m+1)=10*(10:Int) ^m:=by rw [Int.pow_succ];omega
    rw [hp] at h0 h1
    have hb:(10:Int) ^m≤10 ^13:=by
      have:=Nat.pow_le_pow_right (n:=10) (by decide) (show m≤13 by omega)
      have h2:((10 ^m:Nat):Int)≤((10 ^13:Nat):Int):=by omega
      rw [Int.natCast_pow,Int.natCast_pow] at h2
      exact h2
    generalize (10:Int) ^m=P at ih h0 h1 hb hp
    have hb':P≤10000000000000:=hb
    have hd0: -P<Int.tdiv n 10:=by
      rcases Int.le_total 0 n with h|h
      · rw [Int.tdiv_eq_ediv_of_nonneg h];omega
      · rw [show n= -(-n) by omega,Int.neg_tdiv,Int.tdiv_eq_ediv_of_nonneg (by omega)];omega
    have hd1:Int.tdiv n 10<P:=by
      rcases Int.le_total 0 n with h|h
      · rw [Int.tdiv_eq_ediv_of_nonneg h];omega
      · rw [show n= -(-n) by omega,Int.neg_tdiv,Int.tdiv_eq_ediv_of_nonneg (by omega)];omega
    have hw:wrap64 (Int.tdiv n 10)=Int.tdiv n 10:=qh (by omega) (by omega)
    by_cases hr:Int.tmod n 10<0
    · obtain ⟨t,ht⟩:=ih (Int.tdiv n 10) (strOfNums [wrap64 (48+wrap64 (-Int.tmod n 10))%256]++out) (by omega) hd0 hd1 (by rw [ByteArray.size_append,Ql];omega)
      refine ⟨t,Ev.succ ?_⟩
      simp only [zA.l0,hn,if_false,hr,if_true,Option.bind_some,Ql,show 1+out.size≤9223372036854775807 by omega,hw]
      exact ht
    · obtain ⟨t,ht⟩:=ih (Int.tdiv n 10) (strOfNums [wrap64 (48+Int.tmod n 10)%256]++out) (by omega) hd0 hd1 (by rw [ByteArray.size_append,Ql];omega)
      refine ⟨t,Ev.succ ?_⟩
      simp only [zA.l0,hn,if_false,hr,if_true,Option.bind_some,Ql,show 1+out.size≤9223372036854775807 by omega,hw]
      exact ht
theorem Ji (n:Int)(h0: -(10:Int) ^13<n)(h1:n< (10:Int) ^13): ∃t,Ev (fun k=>zA.f k n) t:=by
  unfold zA.f
  by_cases hn:n=0
  · subst hn;exact ⟨_,by simp only [if_true];exact Ev.now _⟩
  simp only [hn,if_false]
  exact Ye _ 13 n _ (Nat.le_refl _) h0 h1 (by decide)
def Told (s:ByteArray)(q:Int×Bool):Prop:=q.2=true→ ∃u,Ev (fun k=>zA.f k q.1) u∧u.toList=s.toList
theorem Zp (s:ByteArray)(n:Int):Told s (n,false):=fun h=>absurd h (by simp)
theorem zbu (s t:ByteArray)(neg:Bool)(n:Int)(h0:0≤n)(h1:n< (10:Int) ^12): ∃q,Ev (fun k=>zy.l0 k s neg t n (t.size:Int)) q∧Told s q:=by
  have h1':n<1000000000000:=h1
  cases neg
  · obtain ⟨u,hu⟩:=Ji n (by omega) (by omega)
    by_cases c:u.toList=s.toList
    · refine ⟨(n,true),Ev.succ ?_,fun _=>⟨u,hu,c⟩⟩
      simp only [zy.l0,show ¬((t.size:Int)< (t.size:Int)) by omega,if_false,Bool.false_eq_true]
      refine Ev.bind hu ?_
      simp only [c,if_true];exact Ev.now _
    · refine ⟨(0,false),Ev.succ ?_,Zp _ _⟩
      simp only [zy.l0,show ¬((t.size:Int)< (t.size:Int)) by omega,if_false,Bool.false_eq_true]
      refine Ev.bind hu ?_
      simp only [c,if_false];exact Ev.now _
  · have hw:wrap64 (-n)= -n:=qh (by omega) (by omega)
    obtain ⟨u,hu⟩:=Ji (-n) (by omega) (by omega)
    by_cases c:u.toList=s.toList
    · refine ⟨(-n,true),Ev.succ ?_,fun _=>⟨u,hu,c⟩⟩
      simp only [zy.l0,show ¬((t.size:Int)< (t.size:Int)) by omega,if_false,if_true,hw]
      refine Ev.bind hu ?_
      simp only [c,if_true];exact Ev.now _
    · refine ⟨(0,false),Ev.succ ?_,Zp _ _⟩
      simp only [zy.l0,show ¬((t.size:Int)< (t.size:Int)) by omega,if_false,if_true,hw]
      refine Ev.bind hu ?_
      simp only [c,if_false];exact Ev.now _
theorem zaC (s t:ByteArray)(neg:Bool)(ht:t.size≤12): ∀(d i:Nat) (n:Int),i+d=t.size→0≤n→n< (10:Int) ^i→ ∃q,Ev (fun k=>zy.l0 k s neg t n (i:Int)) q∧Told s q:=by
  have hz:t.data.toList.length=t.size:=rfl
  have mono: ∀i,i≤12→(10:Int) ^i≤10 ^12:=fun i hi=>by
    have:=Nat.pow_le_pow_right (n:=10) (by decide) hi
    have h2:((10 ^i:Nat):Int)≤((10 ^12:Nat):Int):=by omega
    rw [Int.natCast_pow,Int.natCast_pow] at h2
    exact h2
  intro d
  induction d with
  |zero=>
    intro i n hd h0 h1
    obtain rfl:i=t.size:=by omega
    exact zbu s t neg n h0 (Int.lt_of_lt_of_le h1 (mono _ ht))
  |succ d ih=>
    intro i n hd h0 h1
    have hi:i<t.data.toList.length:=by omega
    have hm:=mono i (by omega)
    have hm':(10:Int) ^i≤1000000000000:=hm
    have hp:(10:Int) ^(i+1)=10*(10:Int) ^i:=by rw [Int.pow_succ];omega
    have hb:=Vm t i hi
    generalize (t.data.toList[i]'hi).toNat=b at hb
    by_cases c1:(b:Int)<48
    · refine ⟨(0,false),Ev.succ ?_,Zp _ _⟩
      simp only [zy.l0,show ((i:Int)< (t.size:Int)) by omega,show (0:Int)≤(i:Int) by omega,if_true,hb,c1];exact Ev.now _
    by_cases c2:(b:Int)>57
    · refine ⟨(0,false),Ev.succ ?_,Zp _ _⟩
      simp only [zy.l0,show ((i:Int)< (t.size:Int)) by omega,show (0:Int)≤(i:Int) by omega,if_true,if_false,hb,c1,c2];exact Ev.now _
    have e1:((b:Int) - 48)%256=(b:Int) - 48:=by omega
    have e2:wrap64 (10*n)=10*n:=qh (by omega) (by omega)
    have e3:wrap64 (10*n+((b:Int) - 48))=10*n+((b:Int) - 48):=qh (by omega) (by omega)
    obtain ⟨q,hq,hT⟩:=ih (i+1) (10*n+((b:Int) - 48)) (by omega) (by omega) (by rw [hp];omega)
    refine ⟨q,Ev.succ ?_,hT⟩
    simp only [zy.l0,show ((i:Int)< (t.size:Int)) by omega,show (0:Int)≤(i:Int) by omega,if_true,if_false,hb,c1,c2,e1,e2,e3,zO (show i<9223372036854775807 by omega)]
    exact hq
theorem Qz (s t:ByteArray)(neg:Bool): ∃q,Ev (fun k=>zy.j1 k s 12 neg t) q∧Told s q:=by
  by_cases c1:(t.size:Int)<1
  · refine ⟨(0,false),Ev.succ ?_,Zp _ _⟩
    simp only [zy.j1,c1,if_true]
    refine Ev.succ ?_
    simp only [zy.j2,if_true];exact Ev.now _
  by_cases c2:(t.size:Int)>12
  · refine ⟨(0,false),Ev.succ ?_,Zp _ _⟩
    simp only [zy.j1,c1,if_false,c2,decide_true]
    refine Ev.succ ?_
    simp only [zy.j2,if_true];exact Ev.now _
  obtain ⟨q,hq,hT⟩:=zaC s t neg (by omega) t.size 0 0 (by omega) (by omega) (by decide)
  refine ⟨q,Ev.succ ?_,hT⟩
  simp only [zy.j1,c1,if_false,c2,decide_false]
  refine Ev.succ ?_
  simp only [zy.j2,Bool.false_eq_true,if_false];exact hq
theorem yQ (s:ByteArray): ∃q,Ev (fun k=>qG.f k s) q∧Told s q:=by
  have key: ∃q,Ev (fun k=>zy.f k s 12) q∧Told s q:=by
    unfold zy.f
    by_cases c:(s.size:Int)>0
    · simp only [c,if_true,show (0:Int)< (s.size:Int) by omega]
      cases hb:(bt s 0==45)
      · obtain ⟨q,hq,hT⟩:=Qz s s false
        exact ⟨q,Ev.succ (by simp only [zy.j0,Bool.false_eq_true,if_false];exact hq),hT⟩
      · obtain ⟨q,hq,hT⟩:=Qz s (s.extract 1 s.size) true
        exact ⟨q,Ev.succ (by simp only [zy.j0,if_true,show (1:Int)≤(s.size:Int) by omega];exact hq),hT⟩
    · simp only [c,if_false]
      obtain ⟨q,hq,hT⟩:=Qz s s false
      exact ⟨q,Ev.succ (by simp only [zy.j0,Bool.false_eq_true,if_false];exact hq),hT⟩
  obtain ⟨q,hq,hT⟩:=key
  refine ⟨q,?_,hT⟩
  unfold qG.f
  exact Ev.bind hq (Ev.now _)
theorem zdC {n:Nat}(h:n<10):bt (dg n) ((0:Nat):Int)=((48+n:Nat):Int):=by
  rw [Vm (dg n) 0 (by show 0<1;omega)]
  show (((UInt8.ofNat (48+n)).toNat:Nat):Int)=_
  rw [UInt8.toNat_ofNat'];omega
theorem y7 {n:Nat}(h:n<10):Ev (fun k=>qG.f k (dg n)) ((n:Int),true):=by
  have hb:=zdC h
  rw [show ((0:Nat):Int)=0 from rfl] at hb
  have e1:(((48+n:Nat):Int)==45)=false:=beq_eq_false_iff_ne.mpr (by omega)
  have e2:(((48+n:Nat):Int) - 48)%256=n:=by omega
  have e3:wrap64 (10*0)=0:=qh (by omega) (by omega)
  have e4:wrap64 (0+(n:Int))=n:=by rw [Int.zero_add];exact qh (by omega) (by omega)
  have e5:wrap64 (0+1)=1:=qh (by omega) (by omega)
  unfold qG.f
  refine Ev.bind (?_:Ev (fun k=>zy.f k (dg n) 12) ((n:Int),true)) (Ev.now _)
  unfold zy.f
  simp only [jT,show (((1:Nat):Int)>0) by omega,show ((0:Int)< ((1:Nat):Int)) by omega,if_true,hb,e1]
  refine Ev.succ ?_
  simp only [zy.j0,Bool.false_eq_true,if_false]
  refine Ev.succ ?_
  simp only [zy.j1,jT,show ¬(((1:Nat):Int)<1) by omega,if_false,show ¬(((1:Nat):Int)>12) by omega,decide_false]
  refine Ev.succ ?_
  simp only [zy.j2,Bool.false_eq_true,if_false]
  refine Ev.succ ?_
  simp only [zy.l0,jT,show ((0:Int)< ((1:Nat):Int)) by omega,show ((0:Int)≤0) by omega,if_true,hb,show ¬(((48+n:Nat):Int)<48) by omega,show ¬(((48+n:Nat):Int)>57) by omega,if_false,e2,e3,e4,e5]
  refine Ev.succ ?_
  simp only [zy.l0,jT,show ¬((1:Int)< ((1:Nat):Int)) by omega,if_false,Bool.false_eq_true]
  refine Ev.bind (y5 h) ?_
  simp only [if_true];exact Ev.now _
theorem zaz {n:Nat}(h:n<10):qd.f (dg n)=some ((n:Int),true):=by
  have h1: ∀n:Fin 10,Lib.atoiAll (dg n.val).data.toList= .ok (n.val:Int):=by decide
  have h2:QV (n:Int)=dg n:=by
    unfold QV Lib.itoa
    rw [if_neg (by omega),Int.toNat_natCast,Lib.decDigits,dif_pos h]
    rfl
  unfold qd.f within
  rw [if_pos (by show 1≤_;omega),h1 ⟨n,h⟩]
  simp only [show ¬((n:Int)<0) by omega,show ¬((n:Int)>999999) by omega,if_false,h2,if_true]
end L
end
section
namespace L
open Go.RowKit F Wa Wb Wc
open Bits
theorem yN (a b:ByteArray):(a++b).data.toList=a.data.toList++b.data.toList:=by rw [ByteArray.data_append,Array.toList_append]
def dc (n:Nat):UInt8:=UInt8.ofNat (48+n)
theorem Jf {n:Nat}(h:n<10):(32:UInt8)≠dc n∧(120:UInt8)≠dc n:=by
  have: ∀n:Fin 10,(32:UInt8)≠dc n.val∧(120:UInt8)≠dc n.val:=by decide
  exact this ⟨n,h⟩
theorem Vh (f:Nat→ByteArray): ∀(js:List Nat) (s:ByteArray),∃r,(js.foldl (fun s j=>s++f j) s).data.toList=s.data.toList++r
  | [],s=>⟨[],by simp⟩
  |j::js,s=>by
    obtain ⟨r,hr⟩:=Vh f js (s++f j)
    exact ⟨(f j).data.toList++r,by rw [List.foldl_cons,hr,yN,List.append_assoc]⟩
theorem zaA (l:List Int)(C i:Nat)(s:ByteArray): ∃r,(Z2 l C i s).data.toList=s.data.toList++32::r:=by
  obtain ⟨r,hr⟩:=Vh (fun j=>dg (l.getD (i*C+j) 0).toNat) (List.range C) (s++⟨#[32]⟩)
  refine ⟨r,?_⟩
  unfold Z2
  rw [hr,yN,List.append_assoc]
  rfl
theorem J2 (l:List Int)(C:Nat): ∀(is:List Nat) (s:ByteArray),∃r,(r=[]∨ ∃r',r=32::r')∧(is.foldl (fun s i=>Z2 l C i s) s).data.toList=s.data.toList++r
  | [],s=>⟨[],Or.inl rfl,by simp⟩
  |i::is,s=>by
    obtain ⟨r,_,hr⟩:=J2 l C is (Z2 l C i s)
    obtain ⟨q,hq⟩:=zaA l C i s
    exact ⟨32::(q++r),Or.inr ⟨_,rfl⟩,by rw [List.foldl_cons,hr,hq];simp⟩
theorem YC {P R C:Nat}(l:List Int)(hP:P<10)(hR:R<10)(hC:C<10): ∃b y,words 32 (Zv l P R C)=dg P::b::y∧words 120 b=[dg R,dg C]:=by
  obtain ⟨r,hr,hd⟩:=J2 l C (List.range R) (dg P++⟨#[32]⟩++dg R++⟨#[120]⟩++dg C)
  have hd':(Zv l P R C).data.toList=[dc P]++32::([dc R,120,dc C]++r):=by
    unfold Zv
    rw [hd]
    simp only [yN,List.append_assoc]
    rfl
  have h1:=Jf hP
  have h2:=Jf hR
  have h3:=Jf hC
  have n1:(32:UInt8)∉[dc P]:=by simp [h1.1]
  have n2:(32:UInt8)∉[dc R,120,dc C]:=by simp [h2.1,h3.1]
  have hb:words 120 (mk [dc R,120,dc C])=[dg R,dg C]:=by
    have:wl 120 [dc R,120,dc C]=[[dc R],[dc C]]:=by
      rw [show [dc R,120,dc C]=[dc R]++120::[dc C] from rfl,ZK 120 _ _ (by simp [h2.2]),QL 120 _ (by simp [h3.2])]
    unfold words
    rw [show (mk [dc R,120,dc C]).data.toList=[dc R,120,dc C] from rfl,this]
    rfl
  unfold words
  rw [hd',ZK 32 _ _ n1]
  rcases hr with rfl|⟨r',rfl⟩
  · rw [List.append_nil,QL 32 _ n2]
    exact ⟨mk [dc R,120,dc C],[],rfl,hb⟩
  · rw [ZK 32 _ _ n2]
    exact ⟨mk [dc R,120,dc C],(wl 32 r').map mk,rfl,hb⟩
theorem QJ {c:UInt8}{t w:ByteArray}(h:w∈words c t):w.size≤t.size:=by
  obtain ⟨x,hx,rfl⟩:=List.mem_map.1 h
  have h1:=JA c t.data.toList
  have h2:=JV hx
  have h3:0< (wl c t.data.toList).length:=List.length_pos_iff.2 (V2 _ _)
  show x.length≤t.data.toList.length
  omega
def yn (w:ByteArray):List Int:=w.data.toList.map fun b=>(b.toNat:Int) - 48
def qY (y:List ByteArray):List Int:=y.flatMap yn
theorem YR (y:List (List UInt8)):(qY (y.map mk)).length=total y:=by
  induction y with
  |nil=>rfl
  |cons a y ih=>
    rw [List.map_cons,qY,List.flatMap_cons,List.length_append,vw]
    rw [qY] at ih
    rw [ih]
    show (a.map _).length+_=_
    rw [List.length_map]
theorem QO (y:List ByteArray)(i:Nat):(qY (y.take i)).length≤(qY y).length:=by
  have h:qY y=qY (y.take i)++qY (y.drop i):=by
    unfold qY
    rw [←List.flatMap_append,List.take_append_drop]
  rw [h,List.length_append];omega
theorem JR {c:UInt8}{t a b:ByteArray}{y:List ByteArray}(h:words c t=a::b::y):(qY y).length≤t.size∧y.length≤t.size:=by
  unfold words at h
  have h1:=JA c t.data.toList
  have hz:t.data.toList.length=t.size:=rfl
  generalize wl c t.data.toList=ws at h h1
  obtain _|⟨x,_|⟨z,ws⟩⟩:=ws
  · cases h
  · cases h
  · simp only [List.map_cons,List.cons.injEq] at h
    obtain ⟨_,_,rfl⟩:=h
    rw [vw,vw] at h1
    simp only [List.length_cons] at h1
    rw [YR,List.length_map]
    omega
theorem JX {w:ByteArray}{j:Nat}(hj:j<w.size)(s:List Int):s++(w.data.toList.take j).map (fun b=>(b.toNat:Int) - 48)++[wrap64 (wrap64 (bt w (j:Int)) - 48)]=s++(w.data.toList.take (j+1)).map (fun b=>(b.toNat:Int) - 48):=by
  have hi:j<w.data.toList.length:=hj
  have hb:=Vm w j hi
  have hlt:=(w.data.toList[j]).toNat_lt
  have e1:wrap64 ((w.data.toList[j]).toNat:Int)=((w.data.toList[j]).toNat:Int):=qh (by omega) (by omega)
  have e2:wrap64 (((w.data.toList[j]).toNat:Int) - 48)=((w.data.toList[j]).toNat:Int) - 48:=qh (by omega) (by omega)
  rw [List.take_succ_eq_append_getElem hi,List.map_append,hb,e1,e2,List.append_assoc]
  rfl
theorem Jp (w:ByteArray):(w.data.toList.take w.size).map (fun b=>(b.toNat:Int) - 48)=yn w:=by
  rw [List.take_of_length_le (show w.data.toList.length≤w.size from Nat.le_refl _)]
  rfl
theorem yx {y:List ByteArray}{i:Nat}(h:i<y.length):qY (y.take i)++yn (y.getD i ByteArray.empty)=qY (y.take (i+1)):=by
  have hg:y.getD i ByteArray.empty=y[i]:=by simp [List.getD_eq_getElem?_getD,List.getElem?_eq_getElem h]
  unfold qY
  rw [hg,List.take_succ_eq_append_getElem h,List.flatMap_append,List.flatMap_cons,List.flatMap_nil,List.append_nil]
section
variable {t a b:ByteArray} {y:List ByteArray} {p r c:Int} {ρ:Int×Int×Int×List Int×Bool}
theorem zb6 (hl:(qY y).length≤1048576)(hy:y.length≤1048576)(h:Ev (fun k=>zq.l0 k t y (y.length:Int) (y.length:Int) p r c (qY y)) ρ):
    Ev (fun k=>zq.l0 k t y (y.length:Int) 0 p r c []) ρ:=by
  have key:=qB (fun k s i=>zq.l0 k t y (y.length:Int) i p r c s) y.length (fun s i=>s++yn (y.getD i ByteArray.empty)) (fun i s=>s=qY (y.take i))
    (fun i s hi hs=>by
      refine ⟨by rw [hs,yx hi],fun r' hr=> ?_⟩
      have hb:s.length+(yn (y.getD i ByteArray.empty)).length≤1048576:=by
        have:=QO y (i+1)
        rw [←yx hi,List.length_append,←hs] at this
        omega
      have hrd:qS ByteArray.empty y (i:Int)=y.getD i ByteArray.empty:=by unfold qS;rw [Int.toNat_natCast]
      generalize y.getD i ByteArray.empty=w at hr hb hrd
      have hz:(yn w).length=w.size:=by unfold yn;rw [List.length_map];rfl
      have inner:=qB (fun k s' j=>zq.l1 k t w j y (y.length:Int) (i:Int) p r c s') w.size (fun s' j=>s'++[wrap64 (wrap64 (bt w (j:Int)) - 48)]) (fun j s'=>s'=s++(w.data.toList.take j).map (fun b=>(b.toNat:Int) - 48))
        (fun j s' hj hs'=>by
          refine ⟨by rw [hs',JX hj],fun r'' hr''=> ?_⟩
          have hlen:s'.length<17592186044416:=by rw [hs',List.length_append,List.length_map,List.length_take];omega
          simp only [zq.l1,show ((j:Int)< (w.size:Int)) by omega,show (0:Int)≤(j:Int) by omega,hlen,if_true,zO (show j<9223372036854775807 by omega)]
          exact hr'') s (by simp)
      simp only [zq.l0,show ((i:Int)< (y.length:Int)) by omega,show (0:Int)≤(i:Int) by omega,if_true,hrd]
      refine inner.2 _ (Ev.succ ?_)
      rw [inner.1,Jp]
      simp only [zq.l1,show ¬((w.size:Int)< (w.size:Int)) by omega,if_false,zO (show i<9223372036854775807 by omega)]
      exact hr) [] (by simp [qY])
  refine key.2 _ ?_
  rw [key.1,List.take_of_length_le (Nat.le_refl _)]
  exact h
theorem zam {o1 o2:Bool}(hl:(qY y).length≤1048576)(hy:y.length≤1048576)(h:Ev (fun k=>zl.l0 k t (a::b::y) o1 o2 ((y.length:Int)+2) p r c (qY y)) ρ):
    Ev (fun k=>zl.l0 k t (a::b::y) o1 o2 2 p r c []) ρ:=by
  have key:=qB (fun k s i=>zl.l0 k t (a::b::y) o1 o2 (i+2) p r c s) y.length (fun s i=>s++yn (y.getD i ByteArray.empty)) (fun i s=>s=qY (y.take i))
    (fun i s hi hs=>by
      refine ⟨by rw [hs,yx hi],fun r' hr=> ?_⟩
      have hb:s.length+(yn (y.getD i ByteArray.empty)).length≤1048576:=by
        have:=QO y (i+1)
        rw [←yx hi,List.length_append,←hs] at this
        omega
      have hrd:qS ByteArray.empty (a::b::y) ((i:Int)+2)=y.getD i ByteArray.empty:=by
        unfold qS
        rw [show ((i:Int)+2).toNat=i+1+1 by omega,List.getD_cons_succ,List.getD_cons_succ]
      have hc:((i:Int)+2)< (((a::b::y).length:Nat):Int):=by simp only [List.length_cons];omega
      generalize y.getD i ByteArray.empty=w at hr hb hrd
      have hz:(yn w).length=w.size:=by unfold yn;rw [List.length_map];rfl
      have inner:=qB (fun k s' j=>zl.l1 k t (a::b::y) o1 o2 ((i:Int)+2) j p r c s') w.size (fun s' j=>s'++[wrap64 (wrap64 (bt w (j:Int)) - 48)]) (fun j s'=>s'=s++(w.data.toList.take j).map (fun b=>(b.toNat:Int) - 48))
        (fun j s' hj hs'=>by
          refine ⟨by rw [hs',JX hj],fun r'' hr''=> ?_⟩
          have hlen:s'.length<17592186044416:=by rw [hs',List.length_append,List.length_map,List.length_take];omega
          simp only [zl.l1,hrd,hc,show (0:Int)≤(i:Int)+2 by omega,show ((j:Int)< (w.size:Int)) by omega,show (0:Int)≤(j:Int) by omega,hlen,if_true,zO (show j<9223372036854775807 by omega)]
          exact hr'') s (by simp)
      simp only [zl.l0,hc,if_true]
      refine inner.2 _ (Ev.succ ?_)
      rw [inner.1,Jp]
      simp only [zl.l1,hrd,hc,show (0:Int)≤(i:Int)+2 by omega,if_true,show ¬((w.size:Int)< (w.size:Int)) by omega,if_false]
      rw [qh (show -9223372036854775808≤(i:Int)+2+1 by omega) (by omega),show (i:Int)+2+1=((i+1:Nat):Int)+2 by omega]
      exact hr) [] (by simp [qY])
  have h2:=key.2 ρ (by
    rw [key.1,List.take_of_length_le (Nat.le_refl _)]
    exact h)
  simp only [Int.zero_add] at h2
  exact h2
end
theorem Vk {x t:ByteArray}:x.toList=t.toList↔x=t:=by
  constructor
  · intro h
    rw [Lib.toList_data,Lib.toList_data] at h
    rw [←Lib.mk_data x,←Lib.mk_data t,h]
  · intro h;rw [h]
def jL (t:ByteArray):Int×Int×Int×List Int×Bool:=
  match words 32 t with
  |a::b::y=>match words 120 b with
    | [u,v]=>if qq (within a 0 999999).1 (within u 0 999999).1 (within v 0 999999).1 (qY y)=true∧vN (within a 0 999999).1 (within u 0 999999).1 (within v 0 999999).1 (qY y)=t then
        ((within a 0 999999).1,(within u 0 999999).1,(within v 0 999999).1,qY y,true) else (0,0,0,[],false)
    |_=>(0,0,0,[],false)
  |_=>(0,0,0,[],false)
theorem Qh {s:ByteArray}(h:s.size≤1048576):qd.f s=some (within s 0 999999):=by
  unfold qd.f
  rw [if_pos (by omega)]
theorem Y1 (t:ByteArray)(h:t.size≤1048576):Ev (fun k=>zq.f k t) (jL t):=by
  have hs:=Y3 t 32 h
  rw [show ((32:UInt8).toNat:Int)=32 from rfl] at hs
  unfold zq.f jL
  rw [hs]
  have hw: ∀w∈words 32 t,w.size≤1048576:=fun w hw=>Nat.le_trans (QJ hw) h
  have hlen:= @JR 32 t
  generalize words 32 t=ws at hw hlen
  obtain _|⟨a,_|⟨b,y⟩⟩:=ws
  · simp only [Option.bind_some,List.length_nil,show (((0:Nat):Int)<2) by omega,if_true];exact Ev.now _
  · simp only [Option.bind_some,List.length_cons,List.length_nil,show (((0+1:Nat):Int)<2) by omega,if_true];exact Ev.now _
  have ha:=hw a (by simp)
  have hb:=hw b (by simp)
  obtain ⟨hl,hy⟩:=hlen rfl
  have hr1:qS ByteArray.empty (a::b::y) 1=b:=rfl
  have hr0:qS ByteArray.empty (a::b::y) 0=a:=rfl
  have hs1:=Y3 b 120 hb
  rw [show ((120:UInt8).toNat:Int)=120 from rfl] at hs1
  have hc1: ¬(((a::b::y).length:Nat):Int)<2:=by simp only [List.length_cons];omega
  have hc2:1< (((a::b::y).length:Nat):Int):=by simp only [List.length_cons];omega
  have hc3:0< (((a::b::y).length:Nat):Int):=by simp only [List.length_cons];omega
  have hc4:2≤(((a::b::y).length:Nat):Int):=by simp only [List.length_cons];omega
  have hw1: ∀w∈words 120 b,w.size≤1048576:=fun w hw=>Nat.le_trans (QJ hw) hb
  simp only [Option.bind_some,hc1,hc2,hc3,hc4,if_true,if_false,hr1,hr0,hs1,Qh ha,List.drop_succ_cons,List.drop_zero]
  generalize words 120 b=sz at hw1
  obtain _|⟨u,_|⟨v,_|⟨x,sz⟩⟩⟩:=sz
  · simp only [List.length_nil,show ¬(((0:Nat):Int)=2) by omega,if_false];exact Ev.now _
  · simp only [List.length_cons,List.length_nil,show ¬(((0+1:Nat):Int)=2) by omega,if_false];exact Ev.now _
  · have hu:=hw1 u (by simp)
    have hv:=hw1 v (by simp)
    have hq1:qS ByteArray.empty [u,v] 1=v:=rfl
    have hq0:qS ByteArray.empty [u,v] 0=u:=rfl
    simp only [List.length_cons,List.length_nil,show (((0+1+1:Nat):Int)=2) by omega,show (0:Int)< ((0+1+1:Nat):Int) by omega,show (1:Int)< ((0+1+1:Nat):Int) by omega,if_true,hq0,hq1,Qh hu,Qh hv,Option.bind_some]
    refine zb6 (by omega) (by omega) (Ev.succ ?_)
    simp only [zq.l0,show ¬((y.length:Int)< (y.length:Int)) by omega,if_false]
    refine Ev.bind (yp _ _ _ _) ?_
    by_cases hm:qq (within a 0 999999).1 (within u 0 999999).1 (within v 0 999999).1 (qY y)=true
    · simp only [hm,if_true,true_and]
      refine Ev.bind (ZY _ _ _ _) ?_
      simp only [Vk]
      split
      · exact Ev.now _
      · exact Ev.now _
    · simp only [hm,if_false,false_and];exact Ev.now _
  · have hc: ¬(((u::v::x::sz).length:Nat):Int)=2:=by simp only [List.length_cons];omega
    simp only [hc,if_false];exact Ev.now _
theorem Jh {p r c:Int}{l:List Int}{t:ByteArray}(ht:t≠⟨#[]⟩)(h:vN p r c l=t): ∃P R C:Nat,p=P∧r=R∧c=C∧P<10∧R<10∧C<10∧qq p r c l=true∧t=Zv l P R C:=by
  cases hm:qq p r c l
  · exact absurd (by rw [←h];unfold vN;rw [hm];rfl) ht
  obtain ⟨R,C,rfl,rfl,hR,hC,hl,h2,h7,hf,hx⟩:=jG hm
  obtain ⟨P,rfl⟩:=Int.eq_ofNat_of_zero_le (show 0≤p by omega)
  refine ⟨P,R,C,rfl,rfl,rfl,by omega,by omega,by omega,rfl,?_⟩
  rw [←h];unfold vN;rw [hm];rfl
theorem yh {n:Nat}(h:n<10):within (dg n) 0 999999=((n:Int),true):=by
  have:=zaz h
  rw [Qh (by show 1≤_;omega)] at this
  exact Option.some.inj this
theorem zco (t:ByteArray)(h:t.size≤1048576):Ev (fun k=>zl.f k t) (jL t):=by
  have hs:=zax t 32 h
  rw [show ((32:UInt8).toNat:Int)=32 from rfl] at hs
  unfold zl.f jL
  refine Ev.bind hs ?_
  have hw: ∀w∈words 32 t,w.size≤1048576:=fun w hw=>Nat.le_trans (QJ hw) h
  have hlen:= @JR 32 t
  have hmat: ∀(l:List Int) (P R C:Nat),P<10→R<10→C<10→t=Zv l P R C→ ∃b y,words 32 t=dg P::b::y∧words 120 b=[dg R,dg C]:=fun l P R C h1 h2 h3 e=>by rw [e];exact YC l h1 h2 h3
  have hne:(∃a b y,words 32 t=a::b::y)→t≠⟨#[]⟩:=by
    rintro ⟨a,b,y,e⟩ rfl
    cases e
  generalize words 32 t=ws at hw hlen hmat hne
  obtain _|⟨a,_|⟨b,y⟩⟩:=ws
  · simp only [Option.bind_some,List.length_nil,show (((0:Nat):Int)<2) by omega,if_true];exact Ev.now _
  · simp only [Option.bind_some,List.length_cons,List.length_nil,show (((0+1:Nat):Int)<2) by omega,if_true];exact Ev.now _
  have hne1:=hne ⟨a,b,y,rfl⟩
  clear hne
  have ha:=hw a (by simp)
  have hb:=hw b (by simp)
  obtain ⟨hl,hy⟩:=hlen rfl
  have hr1:qS ByteArray.empty (a::b::y) 1=b:=rfl
  have hr0:qS ByteArray.empty (a::b::y) 0=a:=rfl
  have hs1:=zax b 120 hb
  rw [show ((120:UInt8).toNat:Int)=120 from rfl] at hs1
  have hc1: ¬(((a::b::y).length:Nat):Int)<2:=by simp only [List.length_cons];omega
  have hc2:1< (((a::b::y).length:Nat):Int):=by simp only [List.length_cons];omega
  have hc3:0< (((a::b::y).length:Nat):Int):=by simp only [List.length_cons];omega
  have hc5: ¬((y.length:Int)+2< (((a::b::y).length:Nat):Int)):=by simp only [List.length_cons];omega
  have hmat': ∀(l:List Int) (P R C:Nat),P<10→R<10→C<10→t=Zv l P R C→a=dg P∧words 120 b=[dg R,dg C]:=fun l P R C h1 h2 h3 e=>by
    obtain ⟨b',y',e1,e2⟩:=hmat l P R C h1 h2 h3 e
    injection e1 with e3 e4
    injection e4 with e5 e6
    exact ⟨e3,by rw [e5];exact e2⟩
  clear hmat hw hlen
  obtain ⟨⟨p,o0⟩,hp,hT0⟩:=yQ a
  simp only [hc1,hc2,hc3,if_true,if_false,hr1,hr0]
  refine Ev.bind hs1 (Ev.bind hp ?_)
  generalize words 120 b=sz at hmat'
  have no: ∀x6:Int,Ev (fun k=>zl.j0 k t (a::b::y) sz x6 true) (0,0,0,[],false):=fun x6=>Ev.succ (by simp only [zl.j0,if_true];exact Ev.now _)
  by_cases hz: ∃u v,sz=[u,v]
  · obtain ⟨u,v,rfl⟩:=hz
    have hq1:qS ByteArray.empty [u,v] 1=v:=rfl
    have hq0:qS ByteArray.empty [u,v] 0=u:=rfl
    obtain ⟨⟨r,o1⟩,hr,hT1⟩:=yQ u
    obtain ⟨⟨c,o2⟩,hc,hT2⟩:=yQ v
    simp only
    by_cases hM: ∃(l:List Int) (P R C:Nat),P<10∧R<10∧C<10∧t=Zv l P R C
    · obtain ⟨l,P,R,C,hP,hR,hC,e⟩:=hM
      obtain ⟨e1,e2⟩:=hmat' l P R C hP hR hC e
      injection e2 with e3 e4
      injection e4 with e5 e6
      subst e1 e3 e5
      have f0:=Ev.uniq hp (y7 hP)
      have f1:=Ev.uniq hr (y7 hR)
      have f2:=Ev.uniq hc (y7 hC)
      simp only [Prod.mk.injEq] at f0 f1 f2
      obtain ⟨rfl,rfl⟩:=f0
      obtain ⟨rfl,rfl⟩:=f1
      obtain ⟨rfl,rfl⟩:=f2
      simp only [yh hP,yh hR,yh hC,if_true]
      refine Ev.succ ?_
      simp only [zl.j0,List.length_cons,List.length_nil,show ((((0+1+1:Nat):Int) != 2)=false) from rfl,Bool.false_eq_true,if_false,show (0:Int)< ((0+1+1:Nat):Int) by omega,show (1:Int)< ((0+1+1:Nat):Int) by omega,if_true,hq0,hq1]
      refine Ev.bind hr (Ev.bind hc ?_)
      refine zam (by omega) (by omega) (Ev.succ ?_)
      simp only [zl.l0,hc5,if_false,if_true]
      refine Ev.bind (yg _ _ _ _) ?_
      simp only [Vk]
      by_cases ht:vN (P:Int) R C (qY y)=t
      · obtain ⟨_,_,_,_,_,_,_,_,_,hm,_⟩:=Jh hne1 ht
        simp only [ht,hm,and_self,if_true];exact Ev.now _
      · simp only [ht,and_false,if_false];exact Ev.now _
    · have hno: ∀(p r c:Int) (l:List Int),¬vN p r c l=t:=fun p r c l ht=>by
        obtain ⟨P,R,C,_,_,_,hP,hR,hC,_,e⟩:=Jh hne1 ht
        exact hM ⟨l,P,R,C,hP,hR,hC,e⟩
      simp only [hno,and_false,if_false]
      cases o0
      · simp only [Bool.false_eq_true,if_false];exact no _
      simp only [if_true]
      refine Ev.succ ?_
      simp only [zl.j0,List.length_cons,List.length_nil,show ((((0+1+1:Nat):Int) != 2)=false) from rfl,Bool.false_eq_true,if_false,show (0:Int)< ((0+1+1:Nat):Int) by omega,show (1:Int)< ((0+1+1:Nat):Int) by omega,if_true,hq0,hq1]
      refine Ev.bind hr (Ev.bind hc ?_)
      refine zam (by omega) (by omega) (Ev.succ ?_)
      simp only [zl.l0,hc5,if_false]
      cases o1
      · simp only [Bool.false_eq_true,if_false];exact Ev.now _
      cases o2
      · simp only [if_true,Bool.false_eq_true,if_false];exact Ev.now _
      simp only [if_true]
      refine Ev.bind (yg _ _ _ _) ?_
      simp only [Vk,hno,if_false];exact Ev.now _
  · have hn:((sz.length:Int) != 2)=true:=by
      refine bne_iff_ne.mpr fun e=>hz ?_
      obtain _|⟨u,_|⟨v,_|⟨x,sz⟩⟩⟩:=sz
      · simp at e
      · simp at e
      · exact ⟨u,v,rfl⟩
      · simp only [List.length_cons] at e;omega
    have hres:(match sz with
      | [u,v]=>if qq (within a 0 999999).1 (within u 0 999999).1 (within v 0 999999).1 (qY y)=true∧vN (within a 0 999999).1 (within u 0 999999).1 (within v 0 999999).1 (qY y)=t then
          ((within a 0 999999).1,(within u 0 999999).1,(within v 0 999999).1,qY y,true) else ((0,0,0,[],false):Int×Int×Int×List Int×Bool)
      |_=>(0,0,0,[],false))=(0,0,0,[],false):=by
      obtain _|⟨u,_|⟨v,_|⟨x,sz⟩⟩⟩:=sz
      · rfl
      · rfl
      · exact absurd ⟨u,v,rfl⟩ hz
      · rfl
    simp only
    rw [hres]
    simp only [hn]
    split
    · exact no _
    · exact no _
theorem JO (t:ByteArray):(jL t).2.2.2.1.length≤64:=by
  unfold jL
  split
  · split
    · split
      · rename_i hm
        obtain ⟨R,C,_,_,hR,hC,hl,_⟩:=jG hm.1
        have:=Nat.mul_le_mul hR hC
        show (qY _).length≤64
        omega
      · exact Nat.zero_le _
    · exact Nat.zero_le _
  · exact Nat.zero_le _
end L
end
section
namespace L
open Go.RowKit F Wa Wb Wc
open Bits
theorem zcc (n:Nat):(dg n).data.toList=[dc n]:=rfl
theorem zag (g:Nat→Nat): ∀(js:List Nat) (s:ByteArray),(js.foldl (fun s j=>s++dg (g j)) s).data.toList=s.data.toList++js.map fun j=>dc (g j)
  | [],s=>by simp
  |j::js,s=>by rw [List.foldl_cons,zag g js,yN,zcc,List.append_assoc];rfl
def JH (l:List Int)(C i:Nat):List UInt8:=(List.range C).map fun j=>dc (l.getD (i*C+j) 0).toNat
theorem zaM (l:List Int)(C i:Nat)(s:ByteArray):(Z2 l C i s).data.toList=s.data.toList++32::JH l C i:=by
  unfold Z2
  rw [zag (fun j=>(l.getD (i*C+j) 0).toNat),yN,List.append_assoc];rfl
theorem QB (l:List Int)(C:Nat): ∀(is:List Nat) (s:ByteArray),(is.foldl (fun s i=>Z2 l C i s) s).data.toList=s.data.toList++is.flatMap fun i=>32::JH l C i
  | [],s=>by simp
  |i::is,s=>by rw [List.foldl_cons,QB l C is,zaM,List.append_assoc,List.flatMap_cons]
theorem zaj {d:Nat→List UInt8}(hd: ∀i,(32:UInt8)∉d i): ∀(is:List Nat) (x:List UInt8),(32:UInt8)∉x→wl 32 (x++is.flatMap fun i=>32::d i)=x::is.map d
  | [],x,hx=>by rw [List.flatMap_nil,List.append_nil,QL 32 _ hx];rfl
  |i::is,x,hx=>by rw [List.flatMap_cons,List.cons_append,ZK 32 _ _ hx,zaj hd is (d i) (hd i)];rfl
theorem zcT {n:Nat}(h:n<10):((dc n).toNat:Int) - 48=n:=by
  have: ∀n:Fin 10,((dc n.val).toNat:Int) - 48=(n.val:Int):=by decide
  exact this ⟨n,h⟩
theorem JE (f:Nat→List UInt8): ∀is:List Nat,qY ((is.map f).map mk)=is.flatMap fun i=>(f i).map fun b=>(b.toNat:Int) - 48
  | []=>rfl
  |i::is=>by
    have:=JE f is
    unfold qY at this ⊢
    rw [List.map_cons,List.map_cons,List.flatMap_cons,List.flatMap_cons,this];rfl
theorem YW {p r c:Int}{l:List Int}(h:qq p r c l=true):jL (vN p r c l)=(p,r,c,l,true):=by
  by_cases hh:isField p=true∧0≤r∧r≤8∧0≤c∧c≤8∧(l.length:Int)=r*c
  · have hall:=h
    rw [vM hh,List.all_eq_true] at hall
    obtain ⟨hf,hr0,hr,hc0,hc,hlen⟩:=hh
    have hp:=jl hf
    obtain ⟨P,rfl⟩: ∃P:Nat,p=P:=⟨p.toNat,by omega⟩
    obtain ⟨R,rfl⟩: ∃R:Nat,r=R:=⟨r.toNat,by omega⟩
    obtain ⟨C,rfl⟩: ∃C:Nat,c=C:=⟨c.toNat,by omega⟩
    have hl:l.length=R*C:=by rw [←Int.natCast_mul] at hlen;omega
    have hx: ∀x∈l,0≤x∧x< (P:Int):=fun x hx=>of_decide_eq_true (hall x hx)
    have hg: ∀k,(l.getD k 0).toNat<10∧0≤l.getD k 0:=fun k=>by
      by_cases hk:k<l.length
      · have e:l.getD k 0=l[k]:=by simp [List.getD_eq_getElem?_getD,List.getElem?_eq_getElem hk]
        have:=hx _ (List.getElem_mem hk)
        rw [e];omega
      · have e:l.getD k 0=0:=by simp [List.getD_eq_getElem?_getD,List.getElem?_eq_none (Nat.le_of_not_lt hk)]
        rw [e];decide
    have hP:P<10:=by omega
    have hR:R<10:=by omega
    have hC:C<10:=by omega
    have h1:=Jf hP
    have h2:=Jf hR
    have h3:=Jf hC
    have htx:vN (P:Int) (R:Int) (C:Int) l=Zv l P R C:=by unfold vN;rw [if_pos h];simp only [Int.toNat_natCast]
    have hdata:(Zv l P R C).data.toList=[dc P]++32::([dc R,120,dc C]++(List.range R).flatMap fun i=>32::JH l C i):=by
      unfold Zv
      rw [QB]
      simp only [yN,List.append_assoc]
      rfl
    have hrow: ∀i,(32:UInt8)∉JH l C i:=fun i hm=>by
      obtain ⟨j,_,e⟩:=List.mem_map.1 hm
      exact (Jf (hg _).1).1 e.symm
    have hw:words 32 (Zv l P R C)=dg P::mk [dc R,120,dc C]::((List.range R).map (JH l C)).map mk:=by
      unfold words
      rw [hdata,ZK 32 _ _ (by simp [h1.1]),zaj hrow _ _ (by simp [h2.1,h3.1])]
      rfl
    have hb:words 120 (mk [dc R,120,dc C])=[dg R,dg C]:=by
      have:wl 120 [dc R,120,dc C]=[[dc R],[dc C]]:=by
        rw [show [dc R,120,dc C]=[dc R]++120::[dc C] from rfl,ZK 120 _ _ (by simp [h2.2]),QL 120 _ (by simp [h3.2])]
      unfold words
      rw [show (mk [dc R,120,dc C]).data.toList=[dc R,120,dc C] from rfl,this]
      rfl
    have hcells:qY (((List.range R).map (JH l C)).map mk)=l:=by
      rw [JE]
      have e:(fun i=>(JH l C i).map fun b=>((b.toNat:Nat):Int) - 48)=jf (qC l C) C:=by
        funext i
        unfold JH jf
        rw [List.map_map]
        refine List.map_congr_left fun j _=> ?_
        show ((dc (l.getD (i*C+j) 0).toNat).toNat:Int) - 48=qC l C i j
        rw [zcT (hg _).1]
        have:=(hg (i*C+j)).2
        unfold qC;omega
      rw [e,List.flatMap_def]
      exact (QC (qC l C) R C).trans (Zr hl)
    unfold jL
    rw [htx,hw]
    simp only [hb,yh hP,yh hR,yh hC,hcells,htx,h,true_and,if_true]
  · rw [jA hh] at h;cases h
theorem YG:jL ⟨#[]⟩=(0,0,0,[],false):=by
  unfold jL
  have:words 32 ⟨#[]⟩=[mk []]:=by
    unfold words
    rw [show (⟨#[]⟩:ByteArray).data.toList=[] from rfl,QL 32 [] (by simp)];rfl
  rw [this]
end L
end
section
namespace L
open Go.RowKit F Wa Wb Wc
open Bits
theorem Vu (x:Int):0≤Go.bits .and .i64 x 255∧Go.bits .and .i64 x 255≤255:=by
  have h:(BitVec.ofInt 64 x &&&BitVec.ofInt 64 255).toNat≤255:=by rw [BitVec.toNat_and];exact Nat.le_trans Nat.and_le_right (by decide)
  have e:Go.bits .and .i64 x 255=(((BitVec.ofInt 64 x &&&BitVec.ofInt 64 255).toNat:Nat):Int):=by
    show IntKind.i64.wrap (((BitVec.ofInt 64 x &&&BitVec.ofInt 64 255).toNat:Nat):Int)=_
    exact JG (by omega) (by omega)
  rw [e];omega
section
variable {b:List Int} {i h:Int}
theorem Jr (hb:b.length≤140737488351232)(hi:0≤i): ∃x i' h',qM.f b i h=some (x,i',h')∧0≤i'∧0≤x∧x≤255:=by
  unfold qM.f
  by_cases c:i< (b.length:Int)
  · rw [if_pos c,if_pos hi]
    refine ⟨_,_,_,rfl,?_,(Vu _).1,(Vu _).2⟩
    rw [qh (by omega) (by omega)];omega
  · rw [if_neg c]
    exact ⟨_,_,_,rfl,hi,(Vu _).1,(Vu _).2⟩
theorem vG (hb:b.length≤140737488351232)(hi:0≤i)(a:Int): ∃x i' h',zD.f b i h a=some (x,i',h')∧0≤i'∧0≤x∧(0<a→x<a)∧(a≤0→x=0):=by
  unfold zD.f
  by_cases h0:a≤0
  · rw [if_pos h0];exact ⟨_,_,_,rfl,hi,Int.le_refl _,fun h=>absurd h0 (by omega),fun _=>rfl⟩
  · rw [if_neg h0]
    by_cases h1:a≤256
    · rw [if_pos h1]
      obtain ⟨x,i1,k1,e,hi1,hx,_⟩:=Jr (h:=h) hb hi
      rw [e];simp only [Option.bind_some];rw [if_neg (by omega)]
      exact ⟨_,_,_,rfl,hi1,Int.tmod_nonneg _ hx,fun h=>Int.tmod_lt_of_pos _ h,fun h=>absurd h h0⟩
    · rw [if_neg h1]
      obtain ⟨x1,i1,k1,e1,j1,p1,q1⟩:=Jr (h:=h) hb hi
      obtain ⟨x2,i2,k2,e2,j2,p2,q2⟩:=Jr (h:=k1) hb j1
      obtain ⟨x3,i3,k3,e3,j3,p3,q3⟩:=Jr (h:=k2) hb j2
      obtain ⟨x4,i4,k4,e4,j4,p4,q4⟩:=Jr (h:=k3) hb j3
      rw [e1];simp only [Option.bind_some];rw [e2];simp only [Option.bind_some];rw [e3];simp only [Option.bind_some];rw [e4];simp only [Option.bind_some]
      rw [if_neg (by omega)]
      refine ⟨_,_,_,rfl,j4,Int.tmod_nonneg _ ?_,fun h=>Int.tmod_lt_of_pos _ h,fun h=>absurd h h0⟩
      rw [qh (n:=x1*16777216) (by omega) (by omega),qh (n:=x2*65536) (by omega) (by omega),qh (n:=x1*16777216+x2*65536) (by omega) (by omega),qh (n:=x3*256) (by omega) (by omega),qh (n:=x1*16777216+x2*65536+x3*256) (by omega) (by omega),qh (n:=x1*16777216+x2*65536+x3*256+x4) (by omega) (by omega)]
      omega
theorem zda (hb:b.length≤140737488351232)(hi:0≤i)(a:Int): ∃x i' h',jR.f b i h a=some (x,i',h')∧0≤i':=by
  unfold jR.f
  obtain ⟨x,i1,k1,e,hi1,_⟩:=vG (h:=h) hb hi a
  rw [e];exact ⟨_,_,_,rfl,hi1⟩
theorem Zq (hb:b.length≤140737488351232)(hi:0≤i)(l:List Int)(hl:0<l.length): ∃x i' h',qe.f b i h l=some (x,i',h')∧0≤i'∧x∈l:=by
  unfold qe.f
  obtain ⟨x,i1,k1,e,hi1,hx,h2,_⟩:=vG (h:=h) hb hi (l.length:Int)
  have h3:=h2 (by omega)
  rw [e];simp only [Option.bind_some];rw [if_pos hx,if_pos h3]
  refine ⟨_,_,_,rfl,hi1,?_⟩
  unfold rd;rw [List.getD_eq_getElem?_getD,List.getElem?_eq_getElem (by omega)];exact List.getElem_mem _
theorem zdl (hb:b.length≤140737488351232)(hi:0≤i)(l:List ByteArray)(hl:0<l.length): ∃x i' h',j8.f b i h l=some (x,i',h')∧0≤i'∧x∈l:=by
  unfold j8.f
  obtain ⟨x,i1,k1,e,hi1,hx,h2,_⟩:=vG (h:=h) hb hi (l.length:Int)
  have h3:=h2 (by omega)
  rw [e];simp only [Option.bind_some];rw [if_pos hx,if_pos h3]
  refine ⟨_,_,_,rfl,hi1,?_⟩
  unfold qS;rw [List.getD_eq_getElem?_getD,List.getElem?_eq_getElem (by omega)];exact List.getElem_mem _
theorem zaa (hb:b.length≤140737488351232): ∃h',Ev (fun k=>qk.f k b) (b,0,h'):=by
  unfold qk.f
  have key: ∀(d i:Nat) (x:Int),i+d=b.length→ ∃h',Ev (fun k=>qk.l0 k b x (i:Int)) (b,0,h'):=by
    intro d
    induction d with
    |zero=>
      intro i x hd;refine ⟨x,Ev.succ ?_⟩
      simp only [qk.l0,show ¬((i:Int)< (b.length:Int)) by omega,if_false];exact Ev.now _
    |succ d ih=>
      intro i x hd
      by_cases c:(i:Int)<4000
      · obtain ⟨h',e⟩:=ih (i+1) (Go.bits .and .i64 (wrap64 ((wrap64 ((wrap64 (x*131))+(wrap64 (rd b (i:Int)))))+7)) 1073741823) (by omega)
        refine ⟨h',Ev.succ ?_⟩
        simp only [qk.l0,show (i:Int)< (b.length:Int) by omega,c,show (0:Int)≤(i:Int) by omega,if_true,zO (show i<9223372036854775807 by omega)];exact e
      · refine ⟨x,Ev.succ ?_⟩
        simp only [qk.l0,show (i:Int)< (b.length:Int) by omega,c,if_true,if_false];exact Ev.now _
  exact key b.length 0 _ (by omega)
end
end L
end
section
namespace L
open Go.RowKit F Wa Wb Wc
open Bits
theorem zdh (l l':List Int)(h:l.length≤17592186044416):Ev (fun k=>qP.f k l l') (decide (l=l')):=by
  unfold qP.f
  by_cases e:l.length=l'.length
  · simp only [show ((l.length:Int)=(l'.length:Int)) by omega,if_true]
    rw [←ZT l l' e]
    refine Zf _ _ _ (fun k=>by simp only [qP.l0,show ¬((l.length:Int)< (l.length:Int)) by omega,if_false]) ?_
    intro i hi k
    simp only [qP.l0,show ((i:Int)< (l.length:Int)) by omega,show ((i:Int)< (l'.length:Int)) by omega,show (0:Int)≤(i:Int) by omega,if_true,ji,zO (show i<9223372036854775807 by omega),decide_eq_true_eq]
  · simp only [show ¬((l.length:Int)=(l'.length:Int)) by omega,if_false]
    rw [show decide (l=l')=false by simp;rintro rfl;exact e rfl]
    exact Ev.now _
theorem V6 (l l':List Int)(h:l.length≤17592186044416):Ev (fun k=>zQ.f k l l') (decide (l=l')):=by
  unfold zQ.f
  by_cases e:l.length=l'.length
  · simp only [show ((l.length:Int)=(l'.length:Int)) by omega,if_true]
    rw [←ZT l l' e]
    refine Zf (fun k i=>zQ.l0 k l l' (l'.length:Int) i) _ _ (fun k=>by simp only [zQ.l0,show ¬((l.length:Int)< (l'.length:Int)) by omega,if_false]) ?_
    intro i hi k
    simp only [zQ.l0,show ((i:Int)< (l.length:Int)) by omega,show ((i:Int)< (l'.length:Int)) by omega,show (0:Int)≤(i:Int) by omega,if_true,ji,zO (show i<9223372036854775807 by omega),decide_eq_true_eq]
  · simp only [show ¬((l.length:Int)=(l'.length:Int)) by omega,if_false]
    rw [show decide (l=l')=false by simp;rintro rfl;exact e rfl]
    exact Ev.now _
def QW (p r c:Int)(l:List Int)(p' r' c':Int)(l':List Int):Bool:=decide ((p,r,c,l)=(p',r',c',l'))
theorem Jt (p r c:Int)(l l':List Int):QW p r c l p r c l'=decide (l=l'):=by simp [QW]
theorem V4 {p r c:Int}{l:List Int}{p' r' c':Int}{l':List Int}(h: ¬(p=p'∧r=r'∧c=c')):QW p r c l p' r' c' l'=false:=by
  simp only [QW,decide_eq_false_iff_not,Prod.mk.injEq];exact fun hh=>h ⟨hh.1,hh.2.1,hh.2.2.1⟩
theorem ZB (p r c:Int)(l:List Int)(p' r' c':Int)(l':List Int)(h:l.length≤17592186044416):Ev (fun k=>zN.f k p r c l p' r' c' l') (QW p r c l p' r' c' l'):=by
  unfold zN.f
  by_cases hh:p=p'∧r=r'∧c=c'
  · obtain ⟨rfl,rfl,rfl⟩:=hh
    simp only [if_true,Jt]
    exact Ev.bind (zdh l l' h) (Ev.now _)
  · rw [V4 hh]
    by_cases h1:p=p'
    · by_cases h2:r=r'
      · have h3: ¬c=c':=fun h3=>hh ⟨h1,h2,h3⟩
        simp only [h1,h2,h3,if_true,if_false];exact Ev.now _
      · simp only [h1,h2,if_true,if_false];exact Ev.now _
    · simp only [h1,if_false];exact Ev.now _
theorem JN (p r c:Int)(l:List Int)(p' r' c':Int)(l':List Int)(h:l.length≤17592186044416):Ev (fun k=>q9.f k p r c l p' r' c' l') (QW p r c l p' r' c' l'):=by
  unfold q9.f
  by_cases hh:p=p'∧r=r'∧c=c'
  · obtain ⟨rfl,rfl,rfl⟩:=hh
    simp only [if_true,Jt]
    exact Ev.bind (V6 l l' h) (Ev.now _)
  · rw [V4 hh]
    by_cases h1:p=p'
    · by_cases h2:r=r'
      · have h3: ¬c=c':=fun h3=>hh ⟨h1,h2,h3⟩
        simp only [h1,h2,h3,if_true,if_false];exact Ev.now _
      · simp only [h1,h2,if_true,if_false];exact Ev.now _
    · simp only [h1,if_false];exact Ev.now _
end L
end
section
namespace Pure
open Go.RowKit F L Wa Wb Wc
open Bits
theorem zcw {R C:Nat}(h:R*C≤1000):wrap64 ((R:Int)*(C:Int))=((R*C:Nat):Int):=by rw [←Int.natCast_mul];exact qh (by omega) (by omega)
section
variable {b:List Int} {i h:Int}
theorem mx_d (hb:b.length≤140737488351232)(hi:0≤i){a:Int}(h0:0≤a)(h7:a≤7): ∃(p:Int) (R C:Nat) (l:List Int) (i' h':Int),Ev (fun k=>zJ.f k b i h a) (p,(R:Int),(C:Int),l,i',h')∧0≤i'∧isField p=true∧R≤3∧C≤7∧l.length=R*C∧ ∀x∈l,0≤x∧x<p:=by
  unfold zJ.f
  rw [show wrap64 (a+1)=a+1 from qh (by omega) (by omega)]
  obtain ⟨p,i1,h1,e1,hi1,hp⟩:=Zq (h:=h) hb hi [2,3,5,7,2] (by decide)
  have hf:isField p=true:=by
    simp only [List.mem_cons,List.not_mem_nil,or_false] at hp
    rcases hp with rfl|rfl|rfl|rfl|rfl<;>decide
  have hp2:=jl hf
  obtain ⟨r,i2,h2,e2,hi2,hr,hr2,_⟩:=vG (h:=h1) hb hi1 4
  obtain ⟨c,i3,h3,e3,hi3,hc,hc2,_⟩:=vG (h:=h2) hb hi2 (a+1)
  have hr3:=hr2 (by decide)
  have hc3:=hc2 (by omega)
  obtain ⟨R,rfl⟩: ∃R:Nat,r=R:=⟨r.toNat,by omega⟩
  obtain ⟨C,rfl⟩: ∃C:Nat,c=C:=⟨c.toNat,by omega⟩
  have hR:R≤3:=by omega
  have hC:C≤7:=by omega
  have hRC:R*C≤1000:=Nat.le_trans (Nat.mul_le_mul hR hC) (by decide)
  simp only [e1,e2,e3,Option.bind_some]
  have key: ∀(d q:Nat) (cs:List Int) (i h:Int),q+d=R*C→cs.length=q→(∀x∈cs,0≤x∧x<p)→0≤i→ ∃l i' h',Ev (fun k=>zJ.l0 k (q:Int) b i h p (R:Int) (C:Int) cs) (p,(R:Int),(C:Int),l,i',h')∧0≤i'∧l.length=R*C∧ ∀x∈l,0≤x∧x<p:=by
    intro d
    induction d with
    |zero=>
      intro q cs i h hd hl hx hi
      refine ⟨cs,i,h,Ev.succ ?_,hi,by omega,hx⟩
      simp only [zJ.l0,zcw hRC,show ¬((q:Int)< ((R*C:Nat):Int)) by omega,if_false];exact Ev.now _
    |succ d ih=>
      intro q cs i h hd hl hx hi
      obtain ⟨y,i1,k1,e,hi1,hy,hy2,_⟩:=vG (h:=h) hb hi p
      have hy2:=hy2 (by omega)
      obtain ⟨l,i',h',ev,hr⟩:=ih (q+1) (cs++[y]) i1 k1 (by omega) (by rw [List.length_append,List.length_singleton];omega) (fun x hx'=>by
        rcases List.mem_append.1 hx' with h|h
        · exact hx x h
        · rw [List.mem_singleton] at h;subst h;exact ⟨hy,hy2⟩) hi1
      refine ⟨l,i',h',Ev.succ ?_,hr⟩
      simp only [zJ.l0,zcw hRC,show (q:Int)< ((R*C:Nat):Int) by omega,if_true,e,Option.bind_some,show cs.length<17592186044416 by omega,zO (show q<9223372036854775807 by omega)];exact ev
  obtain ⟨l,i',h',ev,hi',hl,hx⟩:=key (R*C) 0 [] i3 h3 (by omega) rfl (by simp) hi3
  exact ⟨p,R,C,l,i',h',ev,hi',hf,hR,hC,hl,hx⟩
theorem VA (hb:b.length≤140737488351232)(hi:0≤i): ∃p r c l i' h',Ev (fun k=>q5.f k b i h) (p,r,c,l,i',h')∧0≤i'∧l.length≤100:=by
  unfold q5.f
  obtain ⟨p,R,C,l,i1,h1,e1,hi1,hf,hR,hC,hl,hx⟩:=mx_d (h:=h) hb hi (a:=6) (by decide) (by decide)
  have hl2:l.length≤21:=by rw [hl];exact Nat.mul_le_mul hR hC
  obtain ⟨x,i2,h2,e2,hi2,_⟩:=vG (h:=h1) hb hi1 10
  by_cases c0:x=0
  · obtain ⟨y,i3,h3,e3,hi3,_⟩:=Zq (h:=h2) hb hi2 [0,4,11,(-2)] (by decide)
    refine ⟨y,R,C,l,i3,h3,Ev.bind e1 ?_,hi3,by omega⟩
    simp only [e2,Option.bind_some,if_pos c0,e3];exact Ev.now _
  by_cases c1:x=1
  · obtain ⟨y,i3,h3,e3,hi3,_⟩:=Zq (h:=h2) hb hi2 [(-1),9,2] (by decide)
    refine ⟨p,y,C,l,i3,h3,Ev.bind e1 ?_,hi3,by omega⟩
    simp only [e2,Option.bind_some,if_neg c0,if_pos c1,e3];exact Ev.now _
  by_cases c2:x=2
  · refine ⟨p,R,C,l++[1],i2,h2,Ev.bind e1 ?_,hi2,by rw [List.length_append,List.length_singleton];omega⟩
    simp only [e2,Option.bind_some,if_neg c0,if_neg c1,if_pos c2,show l.length<17592186044416 by omega,if_true];exact Ev.now _
  by_cases c3:x=3
  · by_cases c4:(l.length:Int)>0
    · refine ⟨p,R,C,l.set (0:Int).toNat p,i2,h2,Ev.bind e1 ?_,hi2,by rw [List.length_set];omega⟩
      simp only [e2,Option.bind_some,if_neg c0,if_neg c1,if_neg c2,if_pos c3,if_pos c4,if_pos (show (0:Int)< (l.length:Int) from c4)];exact Ev.now _
    · refine ⟨p,R,C,l,i2,h2,Ev.bind e1 ?_,hi2,by omega⟩
      simp only [e2,Option.bind_some,if_neg c0,if_neg c1,if_neg c2,if_pos c3,if_neg c4];exact Ev.now _
  · refine ⟨p,R,C,l,i2,h2,Ev.bind e1 ?_,hi2,by omega⟩
    simp only [e2,Option.bind_some,if_neg c0,if_neg c1,if_neg c2,if_neg c3];exact Ev.now _
theorem Qt {p r c:Int}{l:List Int}:(vN p r c l).size≤1000:=by
  unfold vN
  split
  · rename_i h
    obtain ⟨hf,R,C,rfl,rfl,hR,hC,hl,hx⟩:=Zx h
    rw [Int.toNat_natCast,Int.toNat_natCast]
    have hd:(Zv l p.toNat R C).data.toList.length=5+R*(C+1):=by
      unfold Zv
      rw [QB,List.length_append]
      have: ∀is:List Nat,(is.flatMap fun i=>32::JH l C i).length=is.length*(C+1):=fun is=>by
        induction is with
        |nil=>simp
        |cons i is ih=>rw [List.flatMap_cons,List.length_append,ih,List.length_cons,List.length_cons];unfold JH;rw [List.length_map,List.length_range,Nat.add_mul];omega
      rw [this,List.length_range];rfl
    have hs:(Zv l p.toNat R C).size=(Zv l p.toNat R C).data.toList.length:=rfl
    have:=Nat.mul_le_mul hR (Nat.add_le_add_right hC 1)
    rw [hs,hd];omega
  · show 0≤1000;omega
theorem zbU (hb:b.length≤140737488351232)(hi:0≤i){t:ByteArray}(ht:t.size≤1000): ∃u i' h',qn.f b i h t [(⟨#[49]⟩:ByteArray),(⟨#[120]⟩:ByteArray),(⟨#[32]⟩:ByteArray),(⟨#[50]⟩:ByteArray),(⟨#[48]⟩:ByteArray)]=some (u,i',h')∧u.size≤3000:=by
  unfold qn.f
  rw [show wrap64 ((t.size:Int)+1)=(t.size:Int)+1 from qh (by omega) (by omega)]
  obtain ⟨x,i1,h1,e1,hi1,hx,hx2,_⟩:=vG (h:=h) hb hi ((t.size:Int)+1)
  have hx3:=hx2 (by omega)
  obtain ⟨y,i2,h2,e2,hi2,_⟩:=vG (h:=h1) hb hi1 6
  obtain ⟨X,rfl⟩: ∃X:Nat,x=X:=⟨x.toNat,by omega⟩
  have hX:(X:Int)≤(t.size:Int):=by omega
  have s1:(t.extract 0 X).size≤1000:=by rw [ByteArray.size_extract];omega
  have s2:(t.extract X t.size).size≤1000:=by rw [ByteArray.size_extract];omega
  by_cases c0:y=0
  · obtain ⟨z,i3,h3,e3,hi3,hz⟩:=zdl (h:=h2) hb hi2 [(⟨#[49]⟩:ByteArray),(⟨#[120]⟩:ByteArray),(⟨#[32]⟩:ByteArray),(⟨#[50]⟩:ByteArray),(⟨#[48]⟩:ByteArray)] (by decide)
    have hz1:z.size=1:=by
      simp only [List.mem_cons,List.not_mem_nil,or_false] at hz
      rcases hz with rfl|rfl|rfl|rfl|rfl<;>rfl
    have s3:(t.extract 0 X++z).size≤1001:=by rw [ByteArray.size_append];omega
    refine ⟨t.extract 0 X++z++t.extract X t.size,i3,h3,?_,?_⟩
    · simp only [e1,e2,Option.bind_some,if_pos c0,if_pos hx,if_pos hX,e3,Int.toNat_natCast,show (t.extract 0 X).size+z.size≤9223372036854775807 by omega,show (t.extract 0 X++z).size+(t.extract X t.size).size≤9223372036854775807 by omega,if_true]
    · rw [ByteArray.size_append];omega
  · by_cases c1:y=1
    · refine ⟨t.extract 0 X,i2,h2,?_,by omega⟩
      simp only [e1,e2,Option.bind_some,if_neg c0,if_pos c1,if_pos hx,if_pos hX,Int.toNat_natCast]
    · refine ⟨t,i2,h2,?_,by omega⟩
      simp only [e1,e2,Option.bind_some,if_neg c0,if_neg c1]
theorem YK (hb:b.length≤140737488351232): ∃p r c l s,Ev (fun k=>qX.f k b) (p,r,c,l,s)∧l.length≤100:=by
  unfold qX.f
  obtain ⟨h0,e0⟩:=zaa hb
  obtain ⟨p,r,c,l,i1,h1,e1,hi1,hl⟩:=VA (h:=h0) hb (Int.le_refl 0)
  obtain ⟨x,i2,h2,e2,_⟩:=vG (h:=h1) hb hi1 70
  refine ⟨p,r,c,l,x,Ev.bind e0 (Ev.bind e1 ?_),hl⟩
  simp only [e2,Option.bind_some];exact Ev.now _
theorem Yr (hb:b.length≤140737488351232): ∃p r c l p' r' c' l',Ev (fun k=>qN.f k b) (p,r,c,l,p',r',c',l')∧l.length≤100:=by
  unfold qN.f
  obtain ⟨h0,e0⟩:=zaa hb
  obtain ⟨p,r,c,l,i1,h1,e1,hi1,hl⟩:=VA (h:=h0) hb (Int.le_refl 0)
  obtain ⟨y,i2,h2,e2,hi2⟩:=zda (h:=h1) hb hi1 2
  cases y
  · obtain ⟨p',r',c',l',i3,h3,e3,_⟩:=VA (h:=h2) hb hi2
    refine ⟨p,r,c,l,p',r',c',l',Ev.bind e0 (Ev.bind e1 ?_),hl⟩
    simp only [e2,Option.bind_some,Bool.false_eq_true,if_false];exact Ev.bind e3 (Ev.now _)
  · refine ⟨p,r,c,l,p,r,c,[]++l,Ev.bind e0 (Ev.bind e1 ?_),hl⟩
    simp only [e2,Option.bind_some,if_true,qp.f,List.length_nil,show 0+l.length<17592186044416 by omega];exact Ev.now _
theorem YI (hb:b.length≤140737488351232): ∃u,Ev (fun k=>qO.f k b) u∧u.size≤1048576:=by
  unfold qO.f
  obtain ⟨h0,e0⟩:=zaa hb
  obtain ⟨p,R,C,l,i1,h1,e1,hi1,_⟩:=mx_d (h:=h0) hb (Int.le_refl 0) (a:=4) (by decide) (by decide)
  obtain ⟨u,i2,h2,e2,hu⟩:=zbU (h:=h1) hb hi1 (t:=vN p R C l) Qt
  refine ⟨u,Ev.bind e0 (Ev.bind e1 (Ev.bind (yg p R C l) ?_)),by omega⟩
  simp only [e2,Option.bind_some];exact Ev.now _
theorem zbk: ∀(k:Nat) (x y z r:Int),zr.l0 k x y z=some r→zr.l0 (k+1) x y z=some r
  |0,x,y,z,r,h=>by simp [zr.l0] at h
  |k+1,x,y,z,r,h=>by
    rw [zr.l0] at h ⊢
    by_cases c:x=0
    · rw [if_pos c] at h;cases h
    rw [if_neg c] at h ⊢
    by_cases c2:Int.tmod (wrap64 (y*z)) x=1
    · rw [if_pos c2] at h ⊢;exact h
    · rw [if_neg c2] at h ⊢;exact zbk k x y _ r h
theorem YN: ∀(k:Nat) (x y r:Int) (q:Bool),zr.j0 k x y q=some r→zr.j0 (k+1) x y q=some r
  |0,x,y,r,q,h=>by simp [zr.j0] at h
  |k+1,x,y,r,q,h=>by
    rw [zr.j0] at h ⊢
    by_cases c:q=true
    · rw [if_pos c] at h ⊢;exact h
    · rw [if_neg c] at h ⊢;exact zbk k x y _ r h
theorem zaX (k:Nat)(x y r:Int)(h:zr.f k x y=some r):zr.f (k+1) x y=some r:=by
  unfold zr.f at h ⊢
  rw [Ve,Option.bind_some] at h ⊢
  split at h
  · rename_i c;rw [if_pos c]
    split at h
    · rename_i c2;rw [if_pos c2];exact YN k x y r _ h
    · rename_i c2;rw [if_neg c2];exact YN k x y r _ h
  · rename_i c;rw [if_neg c];exact YN k x y r _ h
theorem zbl: ∀(k:Nat) (x y z r:Int),zp.l0 k x y z=some r→zp.l0 (k+1) x y z=some r
  |0,x,y,z,r,h=>by simp [zp.l0] at h
  |k+1,x,y,z,r,h=>by
    rw [zp.l0] at h ⊢
    by_cases c0:z<x
    · rw [if_pos c0] at h ⊢
      by_cases c:x=0
      · rw [if_pos c] at h;cases h
      rw [if_neg c] at h ⊢
      by_cases c2:Int.tmod (wrap64 (y*z)) x=1
      · rw [if_pos c2] at h ⊢;exact h
      · rw [if_neg c2] at h ⊢;exact zbl k x y _ r h
    · rw [if_neg c0] at h ⊢;exact h
theorem zbt: ∀(k:Nat) (x y r:Int) (q:Bool),zp.j0 k x y q=some r→zp.j0 (k+1) x y q=some r
  |0,x,y,r,q,h=>by simp [zp.j0] at h
  |k+1,x,y,r,q,h=>by
    rw [zp.j0] at h ⊢
    by_cases c:q=true
    · rw [if_pos c] at h ⊢;exact h
    · rw [if_neg c] at h ⊢;exact zbl k x y _ r h
theorem za9 (k:Nat)(x y r:Int)(h:zp.f k x y=some r):zp.f (k+1) x y=some r:=by
  unfold zp.f at h ⊢
  rw [J5,Option.bind_some] at h ⊢
  split at h
  · rename_i c;rw [if_pos c]
    cases e:zZ.f y 1 (wrap64 (x - 1)) with
    |none=>rw [e] at h;cases h
    |some u=>rw [e,Option.bind_some] at h;rw [Option.bind_some];exact zbt k x y r _ h
  · rename_i c;rw [if_neg c];exact zbt k x y r _ h
theorem zcC {g:Nat→Option Int}(hs: ∀k r,g k=some r→g (k+1)=some r){n:Nat}{r:Int}(h:g n=some r):Ev g r:=⟨n,fun k hk=>by
  induction hk with
  |refl=>exact h
  |step _ ih=>exact hs _ _ ih⟩
def zcE (p a:Int):Bool:=match zr.f 20 p a,zp.f 20 p a with
  |some v,some u=>decide (v=u)&&(decide (v=0)||(decide (p≠0)&&decide (Int.tmod (wrap64 (v*a)) p=1)))
  |_,_=>false
theorem zct: ∀p∈[2,3,5,7,7,4,0],∀x∈List.range 9,zcE p (wrap64 ((x:Int) - 1))=true:=by decide+kernel
theorem zaK (hb:b.length≤140737488351232): ∃p a v,Ev (fun k=>q7.f k b) (p,a)∧Ev (fun k=>zr.f k p a) v∧Ev (fun k=>zp.f k p a) v∧(v=0∨(p≠0∧Int.tmod (wrap64 (v*a)) p=1)):=by
  unfold q7.f
  obtain ⟨h0,e0⟩:=zaa hb
  obtain ⟨p,i1,h1,e1,hi1,hp⟩:=Zq (h:=h0) hb (Int.le_refl 0) [2,3,5,7,7,4,0] (by decide)
  obtain ⟨x,i2,h2,e2,hi2,hx,hx2,_⟩:=vG (h:=h1) hb hi1 9
  have hx3:=hx2 (by decide)
  obtain ⟨X,rfl⟩: ∃X:Nat,x=X:=⟨x.toNat,by omega⟩
  have hk:=zct p hp X (List.mem_range.2 (by omega))
  have ed:Ev (fun k=>(qk.f k b).bind fun bt252=>((qe.f bt252.1 bt252.2.1 bt252.2.2 (([2,3,5,7,7,4,0]:List Int))).bind fun bt259=>((zD.f bt252.1 bt259.2.1 bt259.2.2 9).bind fun bt262=>(some (bt259.1,wrap64 (bt262.1 - 1)))))) (p,wrap64 ((X:Int) - 1)):=by
    refine Ev.bind e0 ?_
    simp only [e1,e2,Option.bind_some];exact Ev.now _
  generalize wrap64 ((X:Int) - 1)=a at hk ed
  unfold zcE at hk
  split at hk
  · rename_i v u hv hu
    simp only [Bool.and_eq_true,Bool.or_eq_true,decide_eq_true_eq] at hk
    obtain ⟨rfl,hk⟩:=hk
    exact ⟨p,a,v,ed,zcC (fun k r=>zaX k p a r) hv,zcC (fun k r=>za9 k p a r) hu,hk⟩
  · cases hk
end
theorem zcn (p r c:Int)(l:List Int):QW p r c l p r c l=true:=by simp [QW]
theorem Vy (p r c:Int)(l:List Int)(h:l.length≤17592186044416):Ev (fun k=>zN.f k p r c l p r c l) true:=by
  have:=ZB p r c l p r c l h;rwa [zcn] at this
theorem zcf (q:Bool):(q != q)=false:=by cases q<;>rfl
theorem j1_t (p r c:Int)(l:List Int)(s:Int):Ev (fun k=>zm.j1 k s false p r c l (jc p r c l).1 (jc p r c l).2.1 (jc p r c l).2.2.1 (jc p r c l).2.2.2) true:=by
  refine Ev.succ ?_
  simp only [zm.j1,Bool.false_eq_true,if_false]
  refine Ev.bind (vS p r c l) ?_
  cases h:qq p r c l
  · simp only [Bool.false_eq_true,if_false];exact Ev.now _
  · obtain ⟨t,m,e1,hm,e2,e3⟩:=JY h
    rw [e1]
    simp only [if_true]
    have hr:=y6 p t c m
    rw [e2] at hr
    refine Ev.bind hr (Ev.bind (Vy p t c m (by omega)) ?_)
    simp only [if_true,zan,Option.bind_some]
    by_cases hs:(0≤c∧c≤8∧0≤s∧s<2 ^c.toNat)
    · simp only [decide_eq_true hs,if_true]
      refine Ev.bind (Qc p t c m s) (Ev.bind (Z7 p r c l s) ?_)
      rw [e3 s]
      simp only [BEq.rfl]
      exact Ev.now _
    · simp only [decide_eq_false hs,Bool.false_eq_true,if_false];exact Ev.now _
theorem j0_t (p r c:Int)(l:List Int)(s:Int)(p' r' c':Int)(l':List Int)(hl:l'.length≤100):Ev (fun k=>zm.j0 k s false p r c l (jc p r c l).1 (jc p r c l).2.1 (jc p r c l).2.2.1 (jc p r c l).2.2.2 p' r' c' l') true:=by
  refine Ev.succ ?_
  simp only [zm.j0,Bool.false_eq_true,if_false]
  refine Ev.bind (ZY p' r' c' l') (Ev.bind (Y1 _ (Nat.le_trans (Qt (p:=p') (r:=r') (c:=c') (l:=l')) (by decide))) (Ev.bind (yg p' r' c' l') ?_))
  simp only [if_true]
  refine Ev.bind (vS p' r' c' l') ?_
  cases h:qq p' r' c' l'
  · have e:jL (vN p' r' c' l')=(0,0,0,[],false):=by unfold vN;rw [h];exact YG
    rw [e]
    simp only [zcf,Bool.false_eq_true,if_false]
    exact j1_t p r c l s
  · rw [YW h]
    simp only [zcf,Bool.false_eq_true,if_false,if_true]
    refine Ev.bind (Vy p' r' c' l' (by omega)) ?_
    exact j1_t p r c l s
theorem FnMatrices (l:List Int)(hl:l.length*1≤140737488351232)(_: ∀x∈l,(Lit.int .u8 x).wf=true): ∃k,zm.f k l=some true:=by
  have hb:l.length≤140737488351232:=by omega
  refine Ev.rounds ?_
  unfold zm.f yj.f
  simp only [Option.bind_some]
  by_cases c:(l.length:Int)>1048576
  · simp only [c,decide_true,if_true];exact Ev.now _
  simp only [c,decide_false,Bool.false_eq_true,if_false]
  obtain ⟨p,r,cc,m,s,e1,hm⟩:=YK hb
  obtain ⟨p1,r1,c1,m1,p2,r2,c2,m2,e2,hm1⟩:=Yr hb
  obtain ⟨q,a,v,e3,e4,e5,hv⟩:=zaK hb
  obtain ⟨t,e6,ht⟩:=YI hb
  refine Ev.bind e1 (Ev.bind (y6 p r cc m) (Ev.bind e2 (Ev.bind e3 (Ev.bind e4 (Ev.bind e6 (Ev.bind (Y1 t ht) (Ev.bind (zco t ht) (Ev.bind (Qc p r cc m s) (Ev.bind (Z7 p r cc m s) ?_)))))))))
  simp only [if_true]
  have hred:(jc p r cc m).2.2.2.length≤17592186044416:=by
    cases h:qq p r cc m
    · unfold jc;rw [h];simp
    · obtain ⟨t,m',e,hm',_⟩:=JY h
      rw [e];show m'.length≤_;omega
  refine Ev.bind (Q6 p r cc m) (Ev.bind (Vy _ _ _ _ hred) ?_)
  simp only [if_true]
  refine Ev.bind (JN p1 r1 c1 m1 p2 r2 c2 m2 (by omega)) (Ev.bind (ZB p1 r1 c1 m1 p2 r2 c2 m2 (by omega)) ?_)
  simp only [zcf,Bool.false_eq_true,if_false]
  refine Ev.bind e5 ?_
  simp only [if_true]
  have hpl:(jL t).2.2.2.1.length≤17592186044416:=Nat.le_trans (JO t) (by decide)
  have tail:Ev (fun k=>(zN.f k (jL t).1 (jL t).2.1 (jL t).2.2.1 (jL t).2.2.2.1 (jL t).1 (jL t).2.1 (jL t).2.2.1 (jL t).2.2.2.1).bind fun t569=>(if t569=true then ((zx.f k p1 r1 c1 m1).bind fun t570=>((zw.f k p1 r1 c1 m1).bind fun t571=>(zm.j0 k s (t570 != t571) p r cc m (jc p r cc m).1 (jc p r cc m).2.1 (jc p r cc m).2.2.1 (jc p r cc m).2.2.2 p1 r1 c1 m1))) else (none))) true:=by
    refine Ev.bind (Vy _ _ _ _ hpl) ?_
    simp only [if_true]
    refine Ev.bind (yp p1 r1 c1 m1) (Ev.bind (vS p1 r1 c1 m1) ?_)
    simp only [zcf]
    exact j0_t p r cc m s p1 r1 c1 m1 hm1
  rcases hv with hv|⟨hq,hv⟩
  · simp only [hv,if_true]
    exact tail
  · by_cases hz:v=0
    · simp only [hz,if_true]
      exact tail
    · simp only [if_neg hz,if_neg hq,hv,if_true]
      exact tail
end Pure
end
section
namespace F
open Go.RowKit Wa Wb Wc
theorem star : "*" ++ "errors.errorString" = "*errors.errorString" := by decide
theorem rowErr (u : TypeId) (h : Tryz.prog.typeName? 3 u = some "*errors.errorString") : u = 120 :=
  typeName_ptr_named (nm := "errors.errorString") (by rw [star]; kernel_rfl) (by kernel_rfl) (by decide) u (by rw [star]; exact h)
theorem tab10 {H : Type} : (Rows.laid_internal_strconv_uint64pow10 : DataW H) = Lib.tabData .u64 Lib.pow10Tab := by kernel_rfl
theorem vars_ok {W : World} (hL : laidMetH Tryz.prog Rows.fnMatricesRow.laid W) (hS : W.ShapedOpen Tryz.prog) : jH W := by
  rw [MakeChecks.laidMetH_plain _ _ _ (by kernel_rfl)] at hL
  have h0 : laidMet Tryz.prog [("math/bits.deBruijn32tab", Rows.laid_math_bits_deBruijn32tab), ("math/bits.deBruijn64tab", Rows.laid_math_bits_deBruijn64tab), ("internal/strconv.uint64pow10", Rows.laid_internal_strconv_uint64pow10), ("unicode/utf8.acceptRanges", Rows.laid_unicode_utf8_acceptRanges), ("strconv.ErrRange", Rows.laid_strconv_ErrRange), ("strconv.ErrSyntax", Rows.laid_strconv_ErrSyntax), ("unicode/utf8.first", Rows.laid_unicode_utf8_first)] W := hL
  have h2 := h0.tail.tail
  have h4 := h2.tail.tail
  have h5 := h4.tail
  rw [tab10] at h2
  have ht := Lib.tabIs_of_head (g := 3) (t := 107) (e := 94) (n := 20) (by kernel_rfl) (by kernel_rfl) Tryz.underlying107 Tryz.underlying94 (by kernel_rfl) (by kernel_rfl) h2
  obtain ⟨a1, s1, hv1, -, -, -⟩ := laid_sentinel h4 (g := 2) (ti := 76) (te := 122) (ts := 9) (by kernel_rfl) (by kernel_rfl) Tryz.underlying76 rowErr Tryz.underlying120 Tryz.underlying122 rfl rfl Tryz.underlying9 (by kernel_rfl) (by kernel_rfl)
  obtain ⟨a2, s2, hv2, -, -, -⟩ := laid_sentinel h5 (g := 1) (ti := 76) (te := 122) (ts := 9) (by kernel_rfl) (by kernel_rfl) Tryz.underlying76 rowErr Tryz.underlying120 Tryz.underlying122 rfl rfl Tryz.underlying9 (by kernel_rfl) (by kernel_rfl)
  have c2 : W.cell? ⟨2, 0, none⟩ = some (.iface 120 (.pointer (some a1))) := by
    have h := World.var?_cell (show Tryz.prog.globalNamed "strconv.ErrRange" = some 2 by kernel_rfl) hv1 0
    simpa using h
  have c1 : W.cell? ⟨1, 0, none⟩ = some (.iface 120 (.pointer (some a2))) := by
    have h := World.var?_cell (show Tryz.prog.globalNamed "strconv.ErrSyntax" = some 1 by kernel_rfl) hv2 0
    simpa using h
  obtain ⟨m, c0⟩ := cell_of_shapedOpen_int (g := 0) (k := .i64) (zero := #[.int .i64 0]) (t := 3) hS (of_decide_eq_true (by kernel_rfl)) (by kernel_rfl) rfl (by kernel_rfl) (by kernel_rfl) Tryz.underlying3
  intro w hb
  exact ⟨⟨m, (hb.cell (World.block_lt_of_cell? W _ c0)).trans c0⟩, ⟨_, (hb.cell (World.block_lt_of_cell? W _ c1)).trans c1, Or.inr ⟨_, _, rfl⟩⟩, ⟨_, (hb.cell (World.block_lt_of_cell? W _ c2)).trans c2, Or.inr ⟨_, _, rfl⟩⟩, Joins.tab_stays (g := 3) (by kernel_rfl) ht hb (Nat.le_refl _)⟩
end F
end
section
namespace fnMatrices
open Go.ChangeShapes Go.WideShapes Go.ChangeAt Go.RowKit Go.Joins
open Go.ChangeMaps (open_string shut_string)
theorem lifted (os:Os)(started:os.Started)(H:Type)(enc:TypeId×Value→H):
    ReturnsInHanded {} Tryz.checked os 3 .any (fun w args=>(Rows.fnMatricesSpec.pre enc Tryz.prog Tryz.f3 [] false w args∧laidMetH Tryz.prog Rows.fnMatricesRow.laid w)∧sizedMet enc Tryz.prog Tryz.f3 (OpenSpec.ofChange Rows.fnMatricesSpec) false w args)
      (Rows.fnMatricesSpec.post enc Tryz.prog Tryz.f3 false true false false):=by
  refine F.Zw (C:=Tryz.checked) (X:=fun w _=>laidMetH Tryz.prog Rows.fnMatricesRow.laid w) (fun _ _ _ hh h=>h.of_heap hh) Open.own started (by kernel_rfl) Tryz.func3
    (ChangeSpec.witness_shaped (enc:=enc) (C:=Tryz.checked) (os:=os) (X:=fun w _=>laidMetH Tryz.prog Rows.fnMatricesRow.laid w) false (World.laidAll Tryz.prog os Rows.fnMatricesRow.laid) #[.slice none 0 0] 8 (World.laidAll_os _ _ _) (World.shaped_of_ZipB (by kernel_rfl) (by kernel_rfl)) (by kernel_rfl) (by kernel_rfl) (by kernel_rfl)
      (by rw [MakeChecks.laidMetH_plain _ _ _ (by kernel_rfl)];exact laidMet_laidAll _ (by kernel_rfl) (by kernel_rfl))) ?_
  intro W base args ds gs before hval0 hW hcnd hsz0 hL hS
  have hsz:(DataW.weightsEach Tryz.prog (Tryz.f3.params.toList++Rows.fnMatricesSpec.plain.varTypes Tryz.prog) (ds++gs)).all (· ≤reachBytes)=true:=hsz0
  have hval: ∀(j:Nat) t v,Tryz.f3.params[j]? =some t→args[j]? =some v→Value.okWide Tryz.prog W .any base t v:=hval0
  have hW':=hW
  obtain ⟨p,q,hA0,hV,rfl,hfz,hnd⟩:=hW
  have hA:DataW.TrodAll enc Tryz.prog W 0 (fun _=>true) true Tryz.f3.params.toList args.toList ds p:=hA0
  rw [Tryz.params3] at hA hval hsz
  obtain ⟨v0,vs0,d0,ds0,p0,q0,hargs,rfl,rfl,h0,r0⟩:=trodAll_cons hA
  obtain ⟨rfl,rfl,rfl⟩:=trodAll_nil r0
  obtain rfl:args=#[v0]:=by cases args;simp_all
  obtain ⟨rfl,rfl⟩:=trodVars_none hV
  have k0:=h0
  have lt0: ∀x∈p0,x.block<W.heap.size:=by obtain ⟨m,hm⟩:=k0;exact DataW.trod_lt m _ _ _ hm
  obtain ⟨x0,n0,q0_,rfl⟩:=okWide_slice Tryz.underlying22 (hval 0 22 v0 rfl rfl)
  obtain ⟨fuel0,g0⟩:=h0
  have g0':DataW.trod enc Tryz.prog W 0 (fun _=>true) true fuel0 22 [.slice x0 n0 q0_]=some (d0,p0):=by simpa [Value.cells] using g0
  obtain ⟨A0,c0,l0,e0,hr0,hc0,hn0,hw0⟩:=Open.zbn (ts:=[22]) (j:=0) Tryz.underlying22 Tryz.underlying5 (by kernel_rfl) (by kernel_rfl) hsz rfl rfl g0'
  obtain ⟨rfl,rfl,rfl⟩:x0=A0∧n0=l0.length∧q0_=c0:=by simpa using e0
  obtain ⟨k,h⟩:=Pure.FnMatrices l0 hn0 hw0
  refine (F.zm.calls (w:=W) (hr0:=hr0) (hc0:=hc0) (h:=h) (hv:=F.vars_ok hL hS)).mono ?_
  rintro e W' ⟨he,hd⟩
  have bel:Below W.heap.size W W':=by first|exact hd|exact hd.below
  subst he
  exact ⟨_,rfl,_,_,_,[],_,[],hW',trodAll_mk1 (shut_bool Tryz.underlying4 _),(trodAll_cons_mk (Below.trod Open.laidOut (by kernel_rfl) (of_decide_eq_true (by kernel_rfl)) k0 bel lt0) trodAll_mk0),rfl,bel.frame _,fun h=>by cases h⟩
theorem over:Rows.fnMatricesRow.holds Tryz.pinned (OpenSpec.ofChange Rows.fnMatricesSpec):=
  OpenClaim.holds_of_wide 3 Tryz.f3 rfl rfl rfl rfl rfl rfl rfl ⟨rfl,rfl,rfl,rfl,rfl⟩ rfl rfl rfl rfl rfl (by kernel_rfl) Tryz.func3 (by kernel_rfl)
    (of_decide_eq_true (by kernel_rfl)) (by unfold Func.isWrapper;first|(rw [if_pos (by decide+kernel)];kernel_rfl)|(rw [if_neg (by decide+kernel)];exact ⟨rfl,rfl⟩))
    (fun os started H enc _=>lifted os started H enc)
theorem proved:Rows.FnMatricesSaid:=over
end fnMatrices
theorem Qx:Rows.FnMatricesSaid:=fnMatrices.proved
theorem fnMatricesCard_holds:Rows.FnMatricesCardSaid:=
  Claim7.holds_tied_plain_at .later [] [.data,.data,.data,.data,.sentinel,.sentinel,.pinned] true (true, "d94b11a1ed24e5428cf243b0fcce0056baa4c91c9aacbb8dba783a77eda77b32") true Qx (fun _ h=>by cases h) (by kernel_rfl) (fun _ h=>by cases h) fnMatrices_row_tie rfl ⟨rfl,rfl⟩ (by kernel_rfl) rfl
    (fun f fn hf hfn=>by
      obtain rfl:f=3:=Option.some.inj ((show Tryz.prog.funcNamed "loop.example/g00593/laws.FnMatrices" =some 3 by kernel_rfl).symm.trans hf) |>.symm
      obtain rfl:fn=Tryz.f3:=(Option.some.inj (Tryz.func3.symm.trans hfn)).symm
      exact ⟨by kernel_rfl,fun j t ht=>by
        rw [Tryz.params3] at ht
        have hm:t∈[22]:=by simpa using Array.mem_of_getElem? ht
        have hall:([22].all fun u=> !Tryz.prog.wantsStandIn u)=true:=by kernel_rfl
        exact (show Tryz.prog.wantsStandIn t=false by simpa using List.all_eq_true.1 hall t hm)⟩) (by kernel_rfl)
#print axioms fnMatricesCard_holds
end
end Go.Proofs.YtkeobjoaimedaaaGreatDoor
