/- Several texts of this session in one: LTabs, Mat, Mat2, Mat4, Lin, Mat3, Elim, LGauss, LSets, LDual, LRed2, LDual2, LMatrix, LCell, LReduce, LReduceS, LGaussS, LReduceI, LMatRank, LRed3, LFamily, LDualMat, LBaseIff, LMatroid, LRank. Conditions: as each theorem says. -/
import Derived.Test.YtkeobjoaimedaaaGreatZLinear5
import Derived.Test.YtkeobjoaimedaaaGreatZLinear1
import Derived.Test.YtkeobjoaimedaaaGreatZLinear2
import Derived.Test.YtkeobjoaimedaaaGreatZLinear3
import Derived.Test.YtkeobjoaimedaaaGreatZLinear4
set_option maxRecDepth 100000
set_option linter.unusedSimpArgs false
set_option linter.unusedVariables false
namespace Go.Proofs.YtkeobjoaimedaaaGreat
section
namespace L
open Go.RowKit Wa Wb Wc
open Bits
abbrev Tab:=Nat→Nat→Int
def z1 (M:Tab)(R C:Nat):List Int:=(List.range (R*C)).map fun k=>M (k / C) (k%C)
def vy (M:Tab)(C i:Nat):List Int:=(List.range C).map (M i)
def q8 (M:Tab)(R C:Nat):List (List Int):=(List.range R).map (vy M C)
def zW (l:List Int)(C:Nat):Tab:=fun i j=>l.getD (i*C+j) 0
def upd (M:Tab)(i j:Nat)(v:Int):Tab:=fun a b=>if a=i∧b=j then v else M a b
theorem Vf {i j C:Nat}(hj:j<C):(i*C+j) / C=i:=by
 rw [Nat.mul_comm,Nat.mul_add_div (by omega),Nat.div_eq_of_lt hj,Nat.add_zero]
theorem Vb {i j C:Nat}(hj:j<C):(i*C+j)%C=j:=by
 rw [Nat.mul_comm,Nat.mul_add_mod,Nat.mod_eq_of_lt hj]
theorem vD {R C i j:Nat}(hi:i<R)(hj:j<C):i*C+j<R*C:=by
 have:=Nat.mul_le_mul_right C (show i+1≤R by omega)
 rw [Nat.succ_mul] at this;omega
theorem qp (M:Tab)(R C:Nat):(z1 M R C).length=R*C:=by simp [z1]
theorem vY (M:Tab)(C i:Nat):(vy M C i).length=C:=by simp [vy]
theorem jw (M:Tab)(R C:Nat):(q8 M R C).length=R:=by simp [q8]
theorem q5 (M:Tab){R C i j:Nat}(hi:i<R)(hj:j<C):(z1 M R C).getD (i*C+j) 0=M i j:=by
 have h:=vD hi hj
 simp [z1,List.getD_eq_getElem?_getD,h,Vf hj,Vb hj]
theorem Qg (M:Tab){C i j:Nat}(hj:j<C):(vy M C i).getD j 0=M i j:=by
 simp [vy,List.getD_eq_getElem?_getD,hj]
theorem Ji (M:Tab){R C i:Nat}(hi:i<R):(q8 M R C).getD i []=vy M C i:=by
 simp [q8,List.getD_eq_getElem?_getD,hi]
theorem VL {R C k:Nat}(h:k<R*C):0<C:=by
 rcases Nat.eq_zero_or_pos C with rfl|h'
 ·simp at h
 ·exact h'
theorem VY {R C k:Nat}(h:k<R*C):k / C<R:=(Nat.div_lt_iff_lt_mul (VL h)).2 h
theorem Vt {M N:Tab}{R C:Nat}(h: ∀i j,i<R→j<C→M i j=N i j):z1 M R C=z1 N R C:=by
 refine List.map_congr_left fun k hk=>h _ _ (VY (List.mem_range.1 hk)) (Nat.mod_lt _ (VL (List.mem_range.1 hk)))
theorem V5 {M N:Tab}{C i:Nat}(h: ∀j,j<C→M i j=N i j):vy M C i=vy N C i:=List.map_congr_left fun j hj=>h j (List.mem_range.1 hj)
theorem zbk {M N:Tab}{R C:Nat}(h: ∀i j,i<R→j<C→M i j=N i j):q8 M R C=q8 N R C:=List.map_congr_left fun i hi=>V5 fun j hj=>h i j (List.mem_range.1 hi) hj
theorem VN {l:List Int}{R C:Nat}(hl:l.length=R*C):z1 (zW l C) R C=l:=by
 refine List.ext_getElem (by rw [qp,hl]) fun k h1 h2=> ?_
 simp only [z1,zW,List.getElem_map,List.getElem_range]
 rw [Nat.mul_comm,Nat.div_add_mod]
 simp [List.getD_eq_getElem?_getD,h2]
theorem Zj (M:Tab){R C i j:Nat}(hi:i<R)(hj:j<C)(v:Int):(z1 M R C).set (i*C+j) v=z1 (upd M i j v) R C:=by
 refine List.ext_getElem (by simp [z1]) fun k h1 h2=> ?_
 rw [List.getElem_set]
 simp only [z1,upd,List.getElem_map,List.getElem_range]
 by_cases c:i*C+j=k
 ·subst c
  rw [if_pos rfl,if_pos ⟨Vf hj,Vb hj⟩]
 ·rw [if_neg c,if_neg]
  rintro ⟨rfl,rfl⟩
  exact c (by rw [Nat.mul_comm];exact Nat.div_add_mod k C)
theorem zdT (M:Tab){C i j:Nat}(hj:j<C)(v:Int):(vy M C i).set j v=vy (upd M i j v) C i:=by
 refine List.ext_getElem (by simp [vy]) fun k h1 h2=> ?_
 rw [List.getElem_set]
 simp only [vy,upd,List.getElem_map,List.getElem_range]
 by_cases c:j=k
 ·subst c;simp
 ·simp [c,show ¬k=j from fun h=>c h.symm]
theorem zcY (M N:Tab){R C i:Nat}(hi:i<R)(h: ∀a b,a≠i→N a b=M a b):(q8 M R C).set i (vy N C i)=q8 N R C:=by
 refine List.ext_getElem (by simp [q8]) fun k h1 h2=> ?_
 rw [List.getElem_set]
 simp only [q8,List.getElem_map,List.getElem_range]
 by_cases c:i=k
 ·subst c;rw [if_pos rfl]
 ·rw [if_neg c];exact V5 fun j _=>(h k j (Ne.symm c)).symm
theorem Yp (M:Tab){R C i j:Nat}(hi:i<R)(hj:j<C)(v:Int):(q8 M R C).set i ((vy M C i).set j v)=q8 (upd M i j v) R C:=by
 rw [zdT M hj]
 exact zcY _ _ hi fun a b h=>by unfold upd;rw [if_neg (fun c=>h c.1)]
theorem zaH (M:Tab)(R C:Nat):(q8 M R C).flatten=z1 M R C:=by
 induction R with
 |zero=>simp [q8,z1]
 |succ R ih=>
  have h1:q8 M (R+1) C=q8 M R C++[vy M C R]:=by simp [q8,List.range_succ]
  rw [h1,List.flatten_append,ih,List.flatten_singleton]
  refine List.ext_getElem (by simp [z1,vy,Nat.succ_mul]) fun k h2 h3=> ?_
  rw [List.getElem_append]
  simp only [qp]
  split
  ·simp [z1]
  ·rename_i hk
   simp only [qp,Nat.succ_mul] at h3
   have hm:k - R*C<C:=by omega
   obtain ⟨m,rfl⟩: ∃m,k=R*C+m:=⟨k - R*C,by omega⟩
   simp only [vy,z1,List.getElem_map,List.getElem_range,Nat.add_sub_cancel_left]
   rw [Nat.add_sub_cancel_left] at hm
   rw [Vf hm,Vb hm]
theorem zd6 (M:Tab){R C t:Nat}(h:t≤R):(q8 M R C).take t=q8 M t C:=by
 rw [q8,←List.map_take,List.take_range,Nat.min_eq_left h];rfl
theorem zaK (M:Tab){R C t:Nat}(h:t≤R):(z1 M R C).take (t*C)=z1 M t C:=by
 rw [z1,←List.map_take,List.take_range,Nat.min_eq_left (Nat.mul_le_mul_right _ h)];rfl
def vK (F:(Nat→Int)→Nat→Int)(M:Tab)(j:Nat):Tab:=fun i c=>if c=j then F (fun i=>M i j) i else M i c
def qv (F:(Nat→Int)→Nat→Int)(M:Tab):Tab:=fun i c=>F (fun i=>M i c) i
theorem zdA (F:(Nat→Int)→Nat→Int)(M:Tab)(n:Nat):(List.range n).foldl (vK F) M=fun i c=>if c<n then F (fun i=>M i c) i else M i c:=by
 induction n with
 |zero=>funext i c;simp
 |succ n ih=>
  rw [List.range_succ,List.foldl_append,List.foldl_cons,List.foldl_nil,ih]
  funext i c
  unfold vK
  by_cases h1:c=n
  ·subst h1
   simp
  ·by_cases h2:c<n
   ·simp [h1,h2,Nat.lt_succ_of_lt h2]
   ·simp [h1,h2,show ¬c<n+1 by omega]
theorem Zt (F:(Nat→Int)→Nat→Int)(M:Tab)(R C:Nat):z1 ((List.range C).foldl (vK F) M) R C=z1 (qv F M) R C:=by
 rw [zdA];exact Vt fun i j _ hj=>by simp [hj,qv]
theorem VE (F:(Nat→Int)→Nat→Int)(M:Tab)(R C:Nat):q8 ((List.range C).foldl (vK F) M) R C=q8 (qv F M) R C:=by
 rw [zdA];exact zbk fun i j _ hj=>by simp [hj,qv]
def jA (a b:Nat)(f:Nat→Int)(i:Nat):Int:=if i=b then f a else if i=a then f b else f i
def y7 (p:Int)(r:Nat)(x:Int)(f:Nat→Int)(i:Nat):Int:=if i=r then Int.tmod (f r*x) p else f i
def Vq (p:Int)(r i0:Nat)(g:Int)(f:Nat→Int)(i:Nat):Int:=if i=i0 then Int.tmod (f i0+(p - g)*f r) p else f i
def vk (p:Int)(r col:Nat)(M:Tab)(i:Nat):Tab:=if i=r then M else qv (Vq p r i (M i col)) M
def Qr (p:Int)(r col R:Nat)(M:Tab):Tab:=(List.range R).foldl (vk p r col) M
def yB (p a:Int):Int:=((a.toNat ^(p.toNat - 2)%p.toNat:Nat):Int)
def vN (p:Int)(R t col:Nat)(M:Tab):Tab:=Qr p t col R (qv (y7 p t (yB p (M t col))) M)
def qi (M:Tab)(R t col:Nat):Nat:=((List.range' t (R - t)).find? fun i=>decide (M i col≠0)).getD R
structure Red where
 t:Nat
 M:Tab
 ps:List Int
def z6 (p:Int)(R:Nat)(s:Red)(j:Nat):Red:=
 if qi s.M R s.t j<R then ⟨s.t+1,vN p R s.t j (qv (jA s.t (qi s.M R s.t j)) s.M),s.ps++[(j:Int)]⟩ else s
def ya (p:Int)(R C:Nat)(M:Tab):Red:=(List.range C).foldl (z6 p R) ⟨0,M,[]⟩
def InF (p:Int)(R C:Nat)(M:Tab):Prop:= ∀i j,i<R→j<C→0≤M i j∧M i j<p
theorem Vj {x p:Int}(h:0≤x)(hp:2≤p):0≤Int.tmod x p∧Int.tmod x p<p:=by
 rw [Int.tmod_eq_emod_of_nonneg h];exact ⟨Int.emod_nonneg _ (by omega),Int.emod_lt_of_pos _ (by omega)⟩
section
variable {p:Int} {R C:Nat} {M:Tab}
theorem InF.swap (h:InF p R C M){a b:Nat}(ha:a<R)(hb:b<R):InF p R C (qv (jA a b) M):=fun i j hi hj=>by
 unfold qv jA
 split
 ·exact h a j ha hj
 ·split
  ·exact h b j hb hj
  ·exact h i j hi hj
theorem InF.scale (h:InF p R C M)(hp:2≤p){r:Nat}(hr:r<R){x:Int}(hx:0≤x):InF p R C (qv (y7 p r x) M):=fun i j hi hj=>by
 unfold qv y7
 split
 ·exact Vj (Int.mul_nonneg (h r j hr hj).1 hx) hp
 ·exact h i j hi hj
theorem InF.elim (h:InF p R C M)(hp:2≤p){r i0:Nat}(hr:r<R)(hi0:i0<R){g:Int}(hg:0≤g∧g<p):InF p R C (qv (Vq p r i0 g) M):=fun i j hi hj=>by
 unfold qv Vq
 split
 ·refine Vj ?_ hp
  have h1:=(h i0 j hi0 hj).1
  have h2:=Int.mul_nonneg (show 0≤p - g by omega) (h r j hr hj).1
  show 0≤M i0 j+(p - g)*M r j
  exact Int.add_nonneg h1 h2
 ·exact h i j hi hj
theorem InF.vk (h:InF p R C M)(hp:2≤p){r col i:Nat}(hr:r<R)(hc:col<C)(hi:i<R):InF p R C (vk p r col M i):=by
 unfold L.vk
 split
 ·exact h
 ·exact h.elim hp hr hi (h i col hi hc)
theorem InF.Qr (hp:2≤p){r col:Nat}(hr:r<R)(hc:col<C): ∀n,n≤R→ ∀ {M:Tab},InF p R C M→InF p R C ((List.range n).foldl (L.vk p r col) M)
 |0,_,_,h=>h
 |n+1,hn,M,h=>by
  rw [List.range_succ,List.foldl_append]
  exact (InF.Qr hp hr hc n (by omega) h).vk hp hr hc (by omega)
theorem Zn (p a:Int):0≤yB p a:=Int.natCast_nonneg _
theorem zbB {p:Int}(hp:2≤p)(a:Int):yB p a<p:=by
 have h:a.toNat ^(p.toNat - 2)%p.toNat<p.toNat:=Nat.mod_lt _ (by omega)
 unfold yB
 omega
theorem InF.pivot (h:InF p R C M)(hp:2≤p){r col:Nat}(hr:r<R)(hc:col<C):InF p R C (vN p R r col M):=by
 unfold vN L.Qr
 exact InF.Qr hp hr hc R (Nat.le_refl _) (h.scale hp hr (Zn _ _))
end
theorem Qc {M:Tab}{R a col:Nat}(h:a<R):qi M R a col=if M a col=0 then qi M R (a+1) col else a:=by
 unfold qi
 obtain ⟨m,hm⟩: ∃m,R - a=m+1:=⟨R - a - 1,by omega⟩
 rw [hm,List.range'_succ,List.find?_cons,show R - (a+1)=m by omega]
 by_cases c:M a col=0
 ·simp [c]
 ·simp [c]
theorem ZO (M:Tab)(R col:Nat):qi M R R col=R:=by simp [qi]
theorem vv (M:Tab)(R col:Nat): ∀d a,a+d=R→a≤qi M R a col∧qi M R a col≤R∧(qi M R a col<R→M (qi M R a col) col≠0)∧ ∀i,a≤i→i<qi M R a col→M i col=0
 |0,a,h=>by
  obtain rfl:a=R:=by omega
  rw [ZO];exact ⟨Nat.le_refl _,Nat.le_refl _,fun h=>absurd h (by omega),fun i h1 h2=>absurd h1 (by omega)⟩
 |d+1,a,h=>by
  rw [Qc (show a<R by omega)]
  by_cases c:M a col=0
  ·rw [if_pos c]
   obtain ⟨h1,h2,h3,h4⟩:=vv M R col d (a+1) (by omega)
   exact ⟨by omega,h2,h3,fun i h5 h6=>by
    rcases Nat.eq_or_lt_of_le h5 with rfl|h7
    ·exact c
    ·exact h4 i h7 h6⟩
  ·rw [if_neg c]
   exact ⟨Nat.le_refl _,by omega,fun _=>c,fun i h5 h6=>absurd h5 (by omega)⟩
theorem V8 (M:Tab){R C i:Nat}(hi:i<R):((z1 M R C).take ((i+1)*C)).drop (i*C)=vy M C i:=by
 rw [zaK M (show i+1≤R by omega)]
 refine List.ext_getElem (by simp [z1,vy,Nat.succ_mul]) fun k h1 h2=> ?_
 rw [vY] at h2
 simp only [List.getElem_drop,z1,vy,List.getElem_map,List.getElem_range,Vf h2,Vb h2]
theorem JF (M:Tab)(C i:Nat):z1 M i C++vy M C i=z1 M (i+1) C:=by
 rw [←zaH,←zaH,show q8 M (i+1) C=q8 M i C++[vy M C i] by simp [q8,List.range_succ],List.flatten_append,List.flatten_singleton]
theorem zav (M:Tab)(C i:Nat):q8 M i C++[vy M C i]=q8 M (i+1) C:=by simp [q8,List.range_succ]
theorem zdZ (M:Tab){R C a b:Nat}(ha:a<R)(hb:b<R):((q8 M R C).set a (vy M C b)).set b (vy M C a)=q8 (qv (jA a b) M) R C:=by
 refine List.ext_getElem (by simp [q8]) fun k h1 h2=> ?_
 rw [List.getElem_set,List.getElem_set]
 simp only [q8,List.getElem_map,List.getElem_range]
 by_cases c1:b=k
 ·subst c1;rw [if_pos rfl];unfold vy qv jA;simp
 ·rw [if_neg c1]
  by_cases c2:a=k
  ·subst c2;rw [if_pos rfl];unfold vy qv jA;simp [Ne.symm c1]
  ·rw [if_neg c2];unfold vy qv jA;simp [Ne.symm c1,Ne.symm c2]
structure VJ (p:Int)(R C:Nat)(s:Red):Prop where
 t_le:s.t≤R
 inF:InF p R C s.M
 len:s.ps.length=s.t
theorem VJ.step {p:Int}{R C:Nat}{s:Red}(h:VJ p R C s)(hp:2≤p){j:Nat}(hj:j<C):VJ p R C (z6 p R s j):=by
 unfold z6
 split
 ·rename_i hlt
  obtain ⟨h1,h2,h3,h4⟩:=vv s.M R j (R - s.t) s.t (by have:=h.t_le;omega)
  exact ⟨by show s.t+1≤R;omega,(h.inF.swap (by omega) hlt).pivot hp (by omega) hj,by show (s.ps++[(j:Int)]).length=s.t+1;rw [List.length_append,h.len];rfl⟩
 ·exact h
theorem zby {p:Int}{R:Nat}{s:Red}(h:s.t=R)(j:Nat):z6 p R s j=s:=by
 unfold z6
 rw [h,ZO,if_neg (Nat.lt_irrefl _)]
theorem J6 {p:Int}{R:Nat}: ∀(l:List Nat) {s:Red},s.t=R→l.foldl (z6 p R) s=s
 | [],_,_=>rfl
 |j::l,s,h=>by rw [List.foldl_cons,zby h,J6 l h]
end L
end
section
namespace Mt
theorem Zl (a b i:Nat):(a |||b).testBit i=(a.testBit i||b.testBit i):=Nat.testBit_or a b i
theorem ym (a b i:Nat):(a &&&b).testBit i=(a.testBit i&&b.testBit i):=Nat.testBit_and a b i
theorem zbf (e i:Nat):(2 ^e).testBit i=decide (e=i):=by
 rw [Nat.testBit_two_pow]
theorem yJ (i:Nat):(0:Nat).testBit i=false:=Nat.zero_testBit i
theorem ext {a b:Nat}(h: ∀i,a.testBit i=b.testBit i):a=b:=Nat.eq_of_testBit_eq h
def ins (s e:Nat):Nat:=s |||2 ^e
def del (s e:Nat):Nat:=sdiff s (2 ^e)
theorem jj (s e i:Nat):(ins s e).testBit i=(s.testBit i||decide (e=i)):=by rw [ins,Zl,zbf]
theorem jT (s e i:Nat):(del s e).testBit i=(s.testBit i&& !decide (e=i)):=by rw [del,qW,zbf]
def sub (a b:Nat):Prop:= ∀i,a.testBit i=true→b.testBit i=true
theorem QG (a:Nat):sub a a:=fun _ h=>h
theorem yd {a b c:Nat}(h:sub a b)(k:sub b c):sub a c:=fun i hi=>k i (h i hi)
theorem Zr {a b:Nat}(h:sub a b)(k:sub b a):a=b:=ext fun i=>by
 have h1:=h i;have h2:=k i
 cases ha:a.testBit i<;>cases hb:b.testBit i<;>simp_all
theorem qZ {a b:Nat}:sub a b↔a &&&b=a:=by
 constructor
 ·intro h;apply ext;intro i;rw [ym];have:=h i;cases ha:a.testBit i<;>simp_all
 ·intro h i hi;have:=congrArg (fun x=>Nat.testBit x i) h;simp only [ym,hi,Bool.true_and] at this;exact this
theorem y9 {a b:Nat}:sub a b↔sdiff a b=0:=by
 constructor
 ·intro h;apply ext;intro i;rw [qW,yJ];have:=h i;cases ha:a.testBit i<;>simp_all
 ·intro h i hi
  have:=congrArg (fun x=>Nat.testBit x i) h
  simp only [qW,hi,yJ,Bool.true_and,Bool.not_eq_false'] at this;exact this
theorem Jz (s e:Nat):sub s (ins s e):=fun i hi=>by rw [jj,hi,Bool.true_or]
theorem zdr (s e:Nat):(ins s e).testBit e=true:=by simp [jj]
theorem Zd (s e:Nat):sub (del s e) s:=fun i hi=>by rw [jT] at hi;simp at hi;exact hi.1
theorem yo (a b:Nat):sub (a &&&b) a:=fun i hi=>by rw [ym] at hi;simp at hi;exact hi.1
theorem ZK (a b:Nat):sub (a &&&b) b:=fun i hi=>by rw [ym] at hi;simp at hi;exact hi.2
theorem zcq (a b:Nat):sub a (a |||b):=fun i hi=>by rw [Zl,hi,Bool.true_or]
theorem zdC {a b c:Nat}(h:sub c a)(k:sub c b):sub c (a &&&b):=fun i hi=>by rw [ym,h i hi,k i hi];rfl
theorem zgn {s e:Nat}(h:s.testBit e=true):ins s e=s:=ext fun i=>by
 rw [jj];by_cases he:e=i
 ·subst he;simp [h]
 ·simp [he]
theorem zba {a b:Nat}(h: ¬sub a b): ∃i,a.testBit i=true∧b.testBit i=false:=by
 apply Classical.byContradiction
 intro hn;apply h;intro i hi
 cases hb:b.testBit i
 ·exact absurd ⟨i,hi,hb⟩ hn
 ·rfl
theorem yz {s n i:Nat}(h:s<2 ^n)(hi:s.testBit i=true):i<n:=by
 rcases Nat.lt_or_ge i n with h'|h'
 ·exact h'
 ·rw [Nat.testBit_lt_two_pow (Nat.lt_of_lt_of_le h (Nat.pow_le_pow_right (by decide) h'))] at hi;cases hi
theorem QZ {s n:Nat}(h: ∀i,s.testBit i=true→i<n):s<2 ^n:=Nat.lt_pow_two_of_testBit s fun i hi=>by
 cases hb:s.testBit i
 ·rfl
 ·have:=h i hb;omega
theorem jM {a b n:Nat}(h:sub a b)(hb:b<2 ^n):a<2 ^n:=QZ fun i hi=>yz hb (h i hi)
theorem zd3 {a b:Nat}(h:sub a b):a≤b:=by rw [qZ] at h;rw [←h];exact Nat.and_le_right
def full (n:Nat):Nat:=2 ^n - 1
theorem Vx (n i:Nat):(full n).testBit i=decide (i<n):=Nat.testBit_two_pow_sub_one n i
theorem zfy (n:Nat):full n<2 ^n:=Nat.sub_lt (Nat.two_pow_pos n) (by decide)
theorem zb4 {s n:Nat}(h:s<2 ^n):sub s (full n):=fun i hi=>by rw [Vx];exact decide_eq_true (yz h hi)
def cnt (s:Nat):Nat:=(List.range 8).countP s.testBit
theorem JN (p q:Nat→Bool): ∀l:List Nat,l.countP (fun i=>p i||q i)+l.countP (fun i=>p i&&q i)=l.countP p+l.countP q
 | []=>rfl
 |a::l=>by
  have:=JN p q l
  simp only [List.countP_cons]
  cases p a<;>cases q a<;>simp<;>omega
theorem Y8 (a b:Nat):cnt (a |||b)+cnt (a &&&b)=cnt a+cnt b:=by
 have:=JN a.testBit b.testBit (List.range 8)
 simp only [cnt]
 rw [show Nat.testBit (a |||b)=fun i=>a.testBit i||b.testBit i from funext (Zl a b),show Nat.testBit (a &&&b)=fun i=>a.testBit i&&b.testBit i from funext (ym a b)]
 exact this
theorem yH {a b:Nat}(h:sub a b):cnt a≤cnt b:=List.countP_mono_left fun i _ hi=>h i hi
theorem YW:cnt 0=0:=by decide
theorem zfn (s:Nat):cnt s≤8:=by have:=List.countP_le_length (p:=s.testBit) (l:=List.range 8);simpa [cnt] using this
theorem VH {a b:Nat}(h:a &&&b=0):cnt (a |||b)=cnt a+cnt b:=by have:=Y8 a b;rw [h,YW] at this;omega
theorem zfX {e:Nat}(h:e<8):cnt (2 ^e)=1:=by
 have: ∀e,e<8→cnt (2 ^e)=1:=by decide
 exact this e h
theorem zaF (a b:Nat):cnt (sdiff a b)+cnt (a &&&b)=cnt a:=by
 have h:sdiff a b &&&(a &&&b)=0:=ext fun i=>by simp only [ym,qW,yJ];cases a.testBit i<;>cases b.testBit i<;>rfl
 have k:sdiff a b |||(a &&&b)=a:=ext fun i=>by simp only [Zl,ym,qW];cases a.testBit i<;>cases b.testBit i<;>rfl
 rw [←VH h,k]
theorem QJ {a b:Nat}(h:sub b a):cnt (sdiff a b)+cnt b=cnt a:=by
 have:=zaF a b
 rwa [show a &&&b=b from by rw [Nat.and_comm];exact qZ.1 h] at this
theorem Jx {s e:Nat}(he:e<8)(h:s.testBit e=false):cnt (ins s e)=cnt s+1:=by
 have:s &&&2 ^e=0:=ext fun i=>by
  rw [ym,zbf,yJ];by_cases hi:e=i
  ·subst hi;simp [h]
  ·simp [hi]
 rw [ins,VH this,zfX he]
theorem QY {s e:Nat}(he:e<8)(h:s.testBit e=true):cnt (del s e)+1=cnt s:=by
 have k:ins (del s e) e=s:=ext fun i=>by
  rw [jj,jT];by_cases hi:e=i
  ·subst hi;simp [h]
  ·simp [hi]
 have:=Jx (s:=del s e) he (by simp [jT])
 rw [k] at this;omega
theorem zfx {s e:Nat}(he:e<8)(h:s.testBit e=true):0<cnt s:=by have:=QY he h;omega
theorem Yq {s:Nat}(hs:s<256)(h:cnt s=0):s=0:=by
 apply ext;intro i;rw [yJ]
 cases hb:s.testBit i
 ·rfl
 ·have:=zfx (yz (n:=8) hs hb) hb;omega
theorem Jb {a b:Nat}(ha:a<256)(h:cnt (a &&&b)=cnt a):sub a b:=by
 have:=zaF a b
 have hz:cnt (sdiff a b)=0:=by omega
 exact y9.2 (Yq (jM (n:=8) (fun i hi=>by rw [qW] at hi;simp at hi;exact hi.1) ha) hz)
theorem Qy {a b:Nat}(h:sub a b)(hb:b<256)(hc:cnt b≤cnt a):a=b:=by
 refine Zr h (Jb hb ?_)
 have h1:=yH (yo b a)
 have:b &&&a=a:=by rw [Nat.and_comm];exact qZ.1 h
 rw [this];have:=yH h;omega
theorem ze2 {n:Nat}(h:n≤8):cnt (full n)=n:=by
 have: ∀n,n≤8→cnt (full n)=n:=by decide
 exact this n h
theorem VF {a b:Nat}(h:cnt b<cnt a): ∃i,a.testBit i=true∧b.testBit i=false:=
 zba fun k=>by have:=yH k;omega
structure Mat (n:Nat)(B:List Nat):Prop where
 size:n≤8
 lt: ∀b∈B,b<2 ^n
 ne:B≠[]
 ex: ∀a∈B,∀b∈B,∀e,a.testBit e=true→b.testBit e=false→ ∃f,b.testBit f=true∧a.testBit f=false∧ins (del a e) f∈B
section
variable {n:Nat} {B:List Nat}
theorem jK {s n:Nat}(hn:n≤8)(h:s<2 ^n):s<256:=Nat.lt_of_lt_of_le h (Nat.pow_le_pow_right (n:=2) (by decide) hn)
theorem Mat.lt8 (M:Mat n B){b:Nat}(h:b∈B):b<256:=jK M.size (M.lt b h)
theorem Mat.zft (M:Mat n B){b e:Nat}(h:b∈B)(he:b.testBit e=true):e<8:=yz (n:=8) (M.lt8 h) he
theorem zeq {a e f:Nat}(ha:a<256)(hf8:f<8)(he:a.testBit e=true)(hf:a.testBit f=false):cnt (ins (del a e) f)=cnt a:=by
 have h8:e<8:=yz (n:=8) ha he
 have h1:=QY h8 he
 have h2:=Jx (s:=del a e) hf8 (by rw [jT,hf];rfl)
 omega
theorem Mat.le (M:Mat n B): ∀k a b,a∈B→b∈B→cnt (sdiff a b)=k→cnt a≤cnt b:=by
 intro k
 induction k using Nat.strongRecOn with
 |_ k ih=>
  intro a b ha hb hk
  by_cases hs:sub a b
  ·exact yH hs
  ·obtain ⟨e,he,heb⟩:=zba hs
   obtain ⟨f,hfb,hfa,hin⟩:=M.ex a ha b hb e he heb
   have e8:=M.zft ha he
   have f8:=M.zft hb hfb
   have hsw:=zeq (M.lt8 ha) f8 he hfa
   have hd:sdiff (ins (del a e) f) b=del (sdiff a b) e:=ext fun i=>by
    simp only [qW,jj,jT]
    by_cases hi:f=i
    ·subst hi;simp [hfb]
    ·simp only [hi,decide_false,Bool.or_false];cases a.testBit i<;>cases b.testBit i<;>simp
   have hc:=QY (s:=sdiff a b) e8 (by rw [qW,he,heb];rfl)
   have:=ih (cnt (del (sdiff a b) e)) (by omega) (ins (del a e) f) b hin hb (by rw [hd])
   omega
theorem Mat.V1 (M:Mat n B){a b:Nat}(ha:a∈B)(hb:b∈B):cnt a=cnt b:=Nat.le_antisymm (M.le _ a b ha hb rfl) (M.le _ b a hb ha rfl)
def rk (B:List Nat)(s:Nat):Nat:=B.foldl (fun m b=>max m (cnt (s &&&b))) 0
theorem Vy {α:Type}(f:α→Nat): ∀(l:List α) (m k:Nat),l.foldl (fun m b=>max m (f b)) m≤k↔m≤k∧ ∀b∈l,f b≤k
 | [],m,k=>by simp
 |a::l,m,k=>by
  rw [List.foldl_cons,Vy f l]
  simp only [List.mem_cons,forall_eq_or_imp,Nat.max_le,and_assoc]
theorem zbX {s k:Nat}:rk B s≤k↔ ∀b∈B,cnt (s &&&b)≤k:=by
 unfold rk;rw [Vy (fun b=>cnt (s &&&b))];simp
theorem zdx {b:Nat}(hb:b∈B)(s:Nat):cnt (s &&&b)≤rk B s:=zbX.1 (Nat.le_refl _) b hb
theorem zf7 (hB:B≠[])(s:Nat): ∃b∈B,cnt (s &&&b)=rk B s:=by
 apply Classical.byContradiction
 intro h
 have h1: ∀b∈B,cnt (s &&&b)<rk B s:=fun b hb=>Nat.lt_of_le_of_ne (zdx hb s) fun e=>h ⟨b,hb,e⟩
 obtain ⟨c,hc⟩:=List.exists_mem_of_ne_nil B hB
 have h2:rk B s≤rk B s - 1:=zbX.2 fun b hb=>by have:=h1 b hb;omega
 have:=h1 c hc
 omega
theorem ZJ (s:Nat):rk B s≤cnt s:=zbX.2 fun _ _=>yH (yo _ _)
theorem yY {s t:Nat}(h:sub s t):rk B s≤rk B t:=zbX.2 fun b hb=>Nat.le_trans (yH (fun i hi=>by
 rw [ym] at hi ⊢;simp at hi ⊢;exact ⟨h i hi.1,hi.2⟩)) (zdx hb t)
theorem Mat.zfW (M:Mat n B){b:Nat}(hb:b∈B){s:Nat}(hs:sub (full n) s):rk B s=cnt b:=by
 apply Nat.le_antisymm
 ·exact zbX.2 fun c hc=>by rw [M.V1 hb hc];exact yH (ZK _ _)
 ·have:=zdx hb s
  have h2:s &&&b=b:=by rw [Nat.and_comm];exact qZ.1 (yd (zb4 (M.lt b hb)) hs)
  rwa [h2] at this
def ind (B:List Nat)(s:Nat):Prop:= ∃b∈B,sub s b
theorem ZD {s t:Nat}(h:sub s t)(k:ind B t):ind B s:=by obtain ⟨b,hb,hs⟩:=k;exact ⟨b,hb,yd h hs⟩
theorem yj (hB:B≠[]){s:Nat}(hs:s<256):ind B s↔rk B s=cnt s:=by
 constructor
 ·rintro ⟨b,hb,h⟩
  have:=zdx hb s
  rw [qZ.1 h] at this
  exact Nat.le_antisymm (ZJ s) this
 ·intro h
  obtain ⟨b,hb,hc⟩:=zf7 hB s
  exact ⟨b,hb,Jb hs (by omega)⟩
theorem Mat.grow (M:Mat n B){I c:Nat}(hI:ind B I)(hc:c∈B): ∃b∈B,sub I b∧sub b (I |||c):=by
 obtain ⟨b0,hb0,hs0⟩:=hI
 have key: ∀k b,b∈B→sub I b→cnt (sdiff b (I |||c))=k→ ∃b∈B,sub I b∧sub b (I |||c):=by
  intro k
  induction k using Nat.strongRecOn with
  |_ k ih=>
   intro b hb hs hk
   by_cases hh:sub b (I |||c)
   ·exact ⟨b,hb,hs,hh⟩
   ·obtain ⟨e,he,hn⟩:=zba hh
    rw [Zl] at hn
    have hn':=Bool.or_eq_false_iff.1 hn
    obtain ⟨f,hfc,hfb,hin⟩:=M.ex b hb c hc e he hn'.2
    have hd:sdiff (ins (del b e) f) (I |||c)=del (sdiff b (I |||c)) e:=ext fun i=>by
     simp only [qW,jj,jT,Zl]
     by_cases hi:f=i
     ·subst hi;simp [hfc]
     ·simp only [hi,decide_false,Bool.or_false];cases b.testBit i<;>cases I.testBit i<;>cases c.testBit i<;>simp
    have h1:=QY (s:=sdiff b (I |||c)) (M.zft hb he) (by rw [qW,he,Zl,hn];rfl)
    refine ih _ (by rw [hd];omega) _ hin (fun i hi=> ?_) rfl
    rw [jj,jT,hs i hi]
    have:e≠i:=fun h=>by subst h;rw [hi] at hn';exact absurd hn'.1 (by simp)
    simp [this]
 exact key _ b0 hb0 hs0 rfl
theorem Mat.zfY (M:Mat n B){I J:Nat}(hI:ind B I)(hJ:ind B J)(h:cnt I<cnt J): ∃x,J.testBit x=true∧I.testBit x=false∧ind B (ins I x):=by
 obtain ⟨c,hc,hJc⟩:=hJ
 obtain ⟨b,hb,hIb,hbc⟩:=M.grow hI hc
 apply Classical.byContradiction
 intro hn
 have h1:sub (b &&&J) I:=fun i hi=>by
  rw [ym] at hi;simp at hi
  cases hx:I.testBit i
  ·exact absurd ⟨i,hi.2,hx,b,hb,fun j hj=>by
    rw [jj] at hj;rcases Bool.or_eq_true_iff.1 hj with hj|hj
    ·exact hIb j hj
    ·rw [←of_decide_eq_true hj];exact hi.1⟩ hn
  ·rfl
 have h2:sub (sdiff b I) (sdiff c J):=fun i hi=>by
  rw [qW] at hi ⊢;simp at hi
  have h3:=hbc i hi.1
  rw [Zl,hi.2,Bool.false_or] at h3
  rw [h3,Bool.true_and]
  cases hj:J.testBit i
  ·rfl
  ·have:=h1 i (by rw [ym,hi.1,hj];rfl);rw [hi.2] at this;cases this
 have c1:=yH h2
 have c2:=QJ hIb
 have c3:=QJ hJc
 have c4:=M.V1 hb hc
 omega
theorem Mat.JE (M:Mat n B){s I:Nat}(hs:s<256)(hI:ind B I)(hIs:sub I s): ∃J,ind B J∧sub I J∧sub J s∧cnt J=rk B s:=by
 obtain ⟨b,hb,hc⟩:=zf7 M.ne s
 have hJ0:ind B (s &&&b):=⟨b,hb,ZK _ _⟩
 have key: ∀k I,ind B I→sub I s→rk B s - cnt I=k→ ∃J,ind B J∧sub I J∧sub J s∧cnt J=rk B s:=by
  intro k
  induction k with
  |zero=>
   intro I hI hIs hk
   have h1:cnt I≤rk B s:=by rw [←(yj M.ne (jM (n:=8) hIs hs)).1 hI];exact yY hIs
   exact ⟨I,hI,QG _,hIs,by omega⟩
  |succ k ih=>
   intro I hI hIs hk
   obtain ⟨x,hx,hxI,hin⟩:=M.zfY hI hJ0 (by omega)
   have hxs:s.testBit x=true:=yo _ _ x hx
   have h8:x<8:=yz (n:=8) hs hxs
   have h1:=Jx h8 hxI
   have hsub:sub (ins I x) s:=fun i hi=>by
    rw [jj] at hi;rcases Bool.or_eq_true_iff.1 hi with hi|hi
    ·exact hIs i hi
    ·rw [←of_decide_eq_true hi];exact hxs
   obtain ⟨J,h2,h3,h4,h5⟩:=ih (ins I x) hin hsub (by omega)
   exact ⟨J,h2,yd (Jz I x) h3,h4,h5⟩
 exact key _ I hI hIs rfl
theorem YU (hB:B≠[]):ind B 0:=by
 obtain ⟨c,hc⟩:=List.exists_mem_of_ne_nil B hB
 exact ⟨c,hc,fun i hi=>by rw [yJ] at hi;cases hi⟩
theorem Mat.zgJ (M:Mat n B){s t:Nat}(hs:s<256)(ht:t<256):rk B (s |||t)+rk B (s &&&t)≤rk B s+rk B t:=by
 have hst:s |||t<256:=Nat.or_lt_two_pow (n:=8) hs ht
 have hand:s &&&t<256:=Nat.and_lt_two_pow (n:=8) _ ht
 obtain ⟨I,hI,_,hIs,hIc⟩:=M.JE hand (YU M.ne) (fun i hi=>by rw [yJ] at hi;cases hi)
 obtain ⟨J,hJ,hIJ,hJs,hJc⟩:=M.JE hst hI (yd hIs (yd (yo _ _) (zcq _ _)))
 have h1:ind B (J &&&s):=ZD (yo _ _) hJ
 have h2:ind B (J &&&t):=ZD (yo _ _) hJ
 have hJ8:J<256:=jM (n:=8) hJs hst
 have c1:cnt (J &&&s)≤rk B s:=by
  rw [←(yj M.ne (jM (n:=8) (yo _ _) hJ8)).1 h1];exact yY (ZK _ _)
 have c2:cnt (J &&&t)≤rk B t:=by
  rw [←(yj M.ne (jM (n:=8) (yo _ _) hJ8)).1 h2];exact yY (ZK _ _)
 have c3:=Y8 (J &&&s) (J &&&t)
 have e1:J &&&s |||J &&&t=J:=ext fun i=>by
  rw [Zl,ym,ym];have:=hJs i;rw [Zl] at this
  revert this
  cases J.testBit i<;>cases s.testBit i<;>cases t.testBit i<;>simp
 have e2:sub I (J &&&s &&&(J &&&t)):=fun i hi=>by
  have a:=hIJ i hi;have b:=hIs i hi;rw [ym] at b;simp at b
  simp [a,b]
 have c4:=yH e2
 rw [e1] at c3
 omega
end
end Mt
end
section
namespace Mt
def setOf (n:Nat)(p:Nat→Bool):Nat:=(List.range n).foldl (fun o e=>if p e then ins o e else o) 0
theorem Vh (p:Nat→Bool)(i:Nat): ∀(l:List Nat) (o:Nat),(l.foldl (fun o e=>if p e then ins o e else o) o).testBit i=(o.testBit i||(decide (i∈l)&&p i))
 | [],o=>by simp
 |a::l,o=>by
  rw [List.foldl_cons,Vh p i l]
  by_cases ha:a=i
  ·subst ha
   cases hp:p a<;>simp [jj]
  ·have:(i=a)=False:=eq_false fun h=>ha h.symm
   cases hp:p a<;>simp [jj,ha,this]
theorem V0 (n:Nat)(p:Nat→Bool)(i:Nat):(setOf n p).testBit i=(decide (i<n)&&p i):=by
 unfold setOf;rw [Vh,yJ];simp
theorem zej (n:Nat)(p:Nat→Bool):setOf n p<2 ^n:=QZ fun i hi=>by rw [V0] at hi;simp at hi;exact hi.1
theorem VS {s e n:Nat}(hs:s<2 ^n)(he:e<n):ins s e<2 ^n:=QZ fun i hi=>by
 rw [jj] at hi;rcases Bool.or_eq_true_iff.1 hi with hi|hi
 ·exact yz hs hi
 ·rw [←of_decide_eq_true hi];exact he
theorem QW {s t e:Nat}(h:sub s t)(he:t.testBit e=true):sub (ins s e) t:=fun i hi=>by
 rw [jj] at hi;rcases Bool.or_eq_true_iff.1 hi with hi|hi
 ·exact h i hi
 ·rw [←of_decide_eq_true hi];exact he
theorem J9 {s t:Nat}(e:Nat)(h:sub s t):sub (ins s e) (ins t e):=QW (yd h (Jz t e)) (zdr t e)
theorem zdo {s e:Nat}(h:s.testBit e=true):ins (del s e) e=s:=ext fun i=>by
 rw [jj,jT];by_cases hi:e=i
 ·subst hi;simp [h]
 ·simp [hi]
section
variable {n:Nat} {B:List Nat}
theorem Mat.zgS (M:Mat n B){s t:Nat}(ht:t<2 ^n)(hst:sub s t)(h: ∀e,t.testBit e=true→rk B (ins s e)=rk B s):rk B t=rk B s:=by
 have ht8:t<256:=jK M.size ht
 have hs8:s<256:=jM (n:=8) hst ht8
 apply Nat.le_antisymm _ (yY hst)
 obtain ⟨I,hI,_,hIs,hIc⟩:=M.JE hs8 (YU M.ne) (fun i hi=>by rw [yJ] at hi;cases hi)
 obtain ⟨J,hJ,hIJ,hJt,hJc⟩:=M.JE ht8 hI (yd hIs hst)
 apply Nat.le_of_not_lt
 intro hlt
 obtain ⟨x,hxJ,hxI⟩:=VF (a:=J) (b:=I) (by omega)
 have h8:x<8:=yz (n:=8) (jM (n:=8) hJt ht8) hxJ
 have h1:ind B (ins I x):=ZD (QW hIJ hxJ) hJ
 have h2:=(yj M.ne (jM (n:=8) (QW (yd hIJ hJt) (hJt x hxJ)) ht8)).1 h1
 have h3:=Jx h8 hxI
 have h4:rk B (ins I x)≤rk B (ins s x):=yY (J9 x hIs)
 have h5:=h x (hJt x hxJ)
 omega
def cl (n:Nat)(B:List Nat)(s:Nat):Nat:=setOf n fun e=>decide (rk B (ins s e)=rk B s)
theorem zgH (s e:Nat):(cl n B s).testBit e=(decide (e<n)&&decide (rk B (ins s e)=rk B s)):=V0 _ _ _
theorem QB {s e:Nat}:(cl n B s).testBit e=true↔e<n∧rk B (ins s e)=rk B s:=by rw [zgH];simp
theorem zfi (s:Nat):cl n B s<2 ^n:=zej _ _
theorem zbc {s:Nat}(hs:s<2 ^n):sub s (cl n B s):=fun i hi=>QB.2 ⟨yz hs hi,by rw [zgn hi]⟩
theorem Mat.zg9 (M:Mat n B){s:Nat}(hs:s<2 ^n):rk B (cl n B s)=rk B s:=M.zgS (zfi s) (zbc hs) fun _ he=>(QB.1 he).2
theorem Mat.zbN (M:Mat n B){s t e:Nat}(ht:t<2 ^n)(he:e<n)(hst:sub s t)(h:rk B (ins s e)=rk B s):rk B (ins t e)=rk B t:=by
 have h1:=M.zgJ (s:=ins s e) (t:=t) (jK M.size (VS (jM hst ht) he)) (jK M.size ht)
 have h2:ins s e |||t=ins t e:=ext fun i=>by
  rw [Zl,jj,jj];have:=hst i;revert this;cases s.testBit i<;>cases t.testBit i<;>cases decide (e=i)<;>simp
 have h3:rk B s≤rk B (ins s e &&&t):=yY (zdC (Jz s e) hst)
 rw [h2] at h1
 have h4:rk B t≤rk B (ins t e):=yY (Jz t e)
 omega
theorem Mat.zdl (M:Mat n B){s t:Nat}(ht:t<2 ^n)(hst:sub s t):sub (cl n B s) (cl n B t):=fun _ hi=>
 QB.2 ⟨(QB.1 hi).1,M.zbN ht (QB.1 hi).1 hst (QB.1 hi).2⟩
theorem Mat.zg7 (M:Mat n B){s:Nat}(hs:s<2 ^n):cl n B (cl n B s)=cl n B s:=by
 refine Zr (fun i hi=> ?_) (zbc (zfi s))
 obtain ⟨h1,h2⟩:=QB.1 hi
 refine QB.2 ⟨h1,?_⟩
 have h3:rk B (ins s i)≤rk B (ins (cl n B s) i):=yY (J9 i (zbc hs))
 rw [h2,M.zg9 hs] at h3
 exact Nat.le_antisymm h3 (yY (Jz s i))
theorem Mat.zgv (M:Mat n B){s t:Nat}(ht:t<2 ^n)(h:sub s (cl n B t)):sub (cl n B s) (cl n B t):=by
 have:=M.zdl (zfi (n:=n) (B:=B) t) h;rwa [M.zg7 ht] at this
def JW (n:Nat)(B:List Nat)(c:Nat):Prop:=c<2 ^n∧ ¬ind B c∧ ∀e,c.testBit e=true→ind B (del c e)
theorem zch {d:Nat}(hd:d<2 ^n)(hn:n≤8)(h: ¬ind B d): ∃c,JW n B c∧sub c d:=by
 have key: ∀k d,d<2 ^n→ ¬ind B d→cnt d=k→ ∃c,JW n B c∧sub c d:=by
  intro k
  induction k using Nat.strongRecOn with
  |_ k ih=>
   intro d hd h hk
   by_cases hh: ∀e,d.testBit e=true→ind B (del d e)
   ·exact ⟨d,⟨hd,h,hh⟩,QG d⟩
   ·obtain ⟨e,he⟩:=Classical.not_forall.1 hh
    obtain ⟨he,hne⟩:=Classical.not_imp.1 he
    have:=QY (yz (n:=8) (jK hn hd) he) he
    obtain ⟨c,hc,hs⟩:=ih _ (by omega) (del d e) (jM (Zd d e) hd) hne rfl
    exact ⟨c,hc,yd hs (Zd d e)⟩
 exact key _ d hd h rfl
theorem zcs {c d:Nat}(hc: ¬ind B c)(hd:JW n B d)(h:sub c d):c=d:=by
 refine Zr h fun i hi=> ?_
 cases hci:c.testBit i
 ·exact absurd (ZD (fun j hj=>by
   rw [jT,h j hj,Bool.true_and]
   have:i≠j:=fun e=>by subst e;rw [hci] at hj;cases hj
   simp [this]) (hd.2.2 i hi)) hc
 ·rfl
theorem Mat.zdL (M:Mat n B){c e:Nat}(hc:JW n B c)(he:c.testBit e=true):(cl n B (del c e)).testBit e=true:=by
 refine QB.2 ⟨yz hc.1 he,?_⟩
 rw [zdo he]
 have hc8:=jK M.size hc.1
 have h1:=(yj M.ne (jM (n:=8) (Zd c e) hc8)).1 (hc.2.2 e he)
 have h2:=QY (yz (n:=8) hc8 he) he
 have h3:rk B c≠cnt c:=fun h=>hc.2.1 ((yj M.ne hc8).2 h)
 have h4:rk B (del c e)≤rk B c:=yY (Zd c e)
 have h5:rk B c≤cnt c:=ZJ c
 omega
theorem Mat.zcX (M:Mat n B){y e:Nat}(hy:y<2 ^n)(hye:y.testBit e=false)(he:(cl n B y).testBit e=true): ∃c,JW n B c∧c.testBit e=true∧sub c (ins y e):=by
 obtain ⟨h1,h2⟩:=QB.1 he
 have hy8:=jK M.size hy
 obtain ⟨I,hI,_,hIs,hIc⟩:=M.JE hy8 (YU M.ne) (fun i hi=>by rw [yJ] at hi;cases hi)
 have hIe:I.testBit e=false:=by
  cases h:I.testBit e
  ·rfl
  ·rw [hIs e h] at hye;cases hye
 have hIlt:I<2 ^n:=jM hIs hy
 have hlt:=VS hIlt h1
 have hdep: ¬ind B (ins I e):=fun h=>by
  have h3:=(yj M.ne (jK M.size hlt)).1 h
  have h4:rk B (ins I e)≤rk B (ins y e):=yY (J9 e hIs)
  have h5:=Jx (Nat.lt_of_lt_of_le h1 M.size) hIe
  omega
 obtain ⟨c,hc,hs⟩:=zch hlt M.size hdep
 refine ⟨c,hc,?_,yd hs (J9 e hIs)⟩
 cases hce:c.testBit e
 ·refine absurd (ZD (fun j hj=> ?_) hI) hc.2.1
  have:=hs j hj
  rw [jj] at this
  rcases Bool.or_eq_true_iff.1 this with h|h
  ·exact h
  ·rw [←of_decide_eq_true h,hce] at hj;cases hj
 ·rfl
theorem Mat.elim (M:Mat n B){c d e f:Nat}(hc:JW n B c)(hd:JW n B d)(_:c.testBit f=true)(hfd:d.testBit f=true)(hec:c.testBit e=true)(hed:d.testBit e=false):
  ∃x,JW n B x∧x.testBit e=true∧sub x (del (c |||d) f):=by
 have hef:f≠e:=fun h=>by subst h;rw [hfd] at hed;cases hed
 have hcd:c |||d<2 ^n:=Nat.or_lt_two_pow hc.1 hd.1
 have hX:del (c |||d) f<2 ^n:=jM (Zd _ _) hcd
 have hY:del (del (c |||d) f) e<2 ^n:=jM (Zd _ _) hX
 have h1:(cl n B (del (del (c |||d) f) e)).testBit f=true:=by
  refine M.zdl hY (fun i hi=> ?_) f (M.zdL hd hfd)
  rw [jT] at hi;simp at hi
  have:e≠i:=fun h=>by subst h;rw [hed] at hi;exact absurd hi.1 (by simp)
  rw [jT,jT,Zl,hi.1];simp [hi.2,this]
 have h2:sub (del c e) (cl n B (del (del (c |||d) f) e)):=fun i hi=>by
  rw [jT] at hi;simp at hi
  by_cases hif:f=i
  ·subst hif;exact h1
  ·exact zbc hY i (by rw [jT,jT,Zl,hi.1];simp [hif,hi.2])
 have h3:(cl n B (del (del (c |||d) f) e)).testBit e=true:=M.zgv hY h2 e (M.zdL hc hec)
 obtain ⟨x,hx,hxe,hxs⟩:=M.zcX hY (by simp [jT]) h3
 refine ⟨x,hx,hxe,yd hxs ?_⟩
 rw [zdo (by rw [jT,Zl,hec];simp [hef])]
 exact QG _
theorem Mat.congr {B':List Nat}(M:Mat n B)(h: ∀x,x∈B'↔x∈B):Mat n B' where
 size:=M.size
 lt:=fun b hb=>M.lt b ((h b).1 hb)
 ne:=fun he=>by
  obtain ⟨c,hc⟩:=List.exists_mem_of_ne_nil B M.ne
  have:=(h c).2 hc;rw [he] at this;cases this
 ex:=fun a ha b hb e hea heb=>by
  obtain ⟨f,h1,h2,h3⟩:=M.ex a ((h a).1 ha) b ((h b).1 hb) e hea heb
  exact ⟨f,h1,h2,(h _).2 h3⟩
def co (n s:Nat):Nat:=sdiff (full n) s
theorem J4 (n s i:Nat):(co n s).testBit i=(decide (i<n)&& !s.testBit i):=by rw [co,qW,Vx]
theorem zdp (n s:Nat):co n s<2 ^n:=QZ fun i hi=>by rw [J4] at hi;simp at hi;exact hi.1
theorem zf6 {n s:Nat}(h:s<2 ^n):co n (co n s)=s:=ext fun i=>by
 rw [J4,J4]
 cases hs:s.testBit i
 ·cases hn:decide (i<n)<;>simp
 ·have:=yz h hs;simp [this]
def ZV (n:Nat)(B:List Nat):List Nat:=B.map (co n)
def span (B:List Nat)(s:Nat):Prop:= ∃b∈B,sub b s
theorem Mat.Y2 (M:Mat n B){s:Nat}:s∈B↔span B s∧ ∀t,span B t→sub t s→t=s:=by
 constructor
 ·intro hs
  refine ⟨⟨s,hs,QG s⟩,fun t ⟨b,hb,hbt⟩ hts=> ?_⟩
  have hbs:b=s:=Qy (yd hbt hts) (M.lt8 hs) (Nat.le_of_eq (M.V1 hs hb))
  subst hbs
  exact Zr hts hbt
 ·rintro ⟨⟨b,hb,hbs⟩,h⟩
  rw [←h b ⟨b,hb,QG b⟩ hbs];exact hb
end
end Mt
end
section
namespace Mt
section
variable {n:Nat} {B:List Nat}
end
end Mt
end
section
namespace Mt
def jr (p:Int):Prop:=p=2∨p=3∨p=5∨p=7
theorem jr.pos {p:Int}(h:jr p):2≤p∧p≤7:=by unfold jr at h;omega
theorem zfT: ∀p∈[2,3,5,7],∀a∈List.range 7,∀b∈List.range 7,(a*b)%p=0→a%p=0∨b%p=0:=by decide
theorem zfJ: ∀p∈[2,3,5,7],∀a∈List.range 7,a%p≠0→ ∃b∈List.range 7,(a*b)%p=1:=by decide
theorem jr.nat {p:Int}(h:jr p): ∃q:Nat,p=(q:Int)∧q∈[2,3,5,7]:=by
 rcases h with rfl|rfl|rfl|rfl
 ·exact ⟨2,rfl,by decide⟩
 ·exact ⟨3,rfl,by decide⟩
 ·exact ⟨5,rfl,by decide⟩
 ·exact ⟨7,rfl,by decide⟩
theorem jr.res {p:Int}(h:jr p)(x:Int): ∃a:Nat,a∈List.range 7∧x%p=(a:Int)∧a%p.toNat=a:=by
 have hp:=h.pos
 have h0:=Int.emod_nonneg x (show p≠0 by omega)
 have h1:=Int.emod_lt_of_pos x (show 0<p by omega)
 refine ⟨(x%p).toNat,by simp;omega,by omega,Nat.mod_eq_of_lt (by omega)⟩
theorem jr.zaZ {p:Int}(h:jr p){x y:Int}(hxy:p∣x*y):p∣x∨p∣y:=by
 obtain ⟨q,rfl,hq⟩:=h.nat
 obtain ⟨a,ha,hxa,_⟩:=h.res x
 obtain ⟨b,hb,hyb,_⟩:=h.res y
 have h1:=Int.emod_eq_zero_of_dvd hxy
 rw [Int.mul_emod,hxa,hyb] at h1
 have h2:(a*b)%q=0:=by
  have:((a*b%q:Nat):Int)=0:=by rw [Int.natCast_emod,Int.natCast_mul];exact h1
  omega
 have key: ∀ {z:Int} {c:Nat},z%(q:Int)=(c:Int)→c%q=0→(q:Int)∣z:=fun {z c} hz hc=>by
  apply Int.dvd_of_emod_eq_zero
  have h3:(z%(q:Int))%(q:Int)=z%(q:Int):=Int.emod_emod _ _
  rw [hz] at h3
  have:((c%q:Nat):Int)=(c:Int):=by rw [Int.natCast_emod];exact h3
  rw [hz,←this,hc];rfl
 rcases zfT q hq a ha b hb h2 with h3|h3
 ·exact .inl (key hxa h3)
 ·exact .inr (key hyb h3)
theorem jr.inv {p:Int}(h:jr p){x:Int}(hx: ¬p∣x): ∃y:Int,p∣x*y - 1:=by
 obtain ⟨q,rfl,hq⟩:=h.nat
 obtain ⟨a,ha,hxa,hm⟩:=h.res x
 have h1:a%q≠0:=fun h0=>hx (by
  apply Int.dvd_of_emod_eq_zero
  rw [Int.toNat_natCast] at hm
  rw [hxa,←hm,h0];rfl)
 obtain ⟨b,_,hb⟩:=zfJ q hq a ha h1
 refine ⟨(b:Int),?_⟩
 have h2:(x*(b:Int))%(q:Int)=1:=by
  rw [Int.mul_emod,hxa]
  have:(((a*b)%q:Nat):Int)=1:=by rw [hb];rfl
  rw [Int.natCast_emod,Int.natCast_mul,Int.mul_emod] at this
  have hqq:(a:Int)%(q:Int)=(a:Int):=by
   have:((a%q:Nat):Int)=(a:Int):=by rw [Int.toNat_natCast] at hm;rw [hm]
   rwa [Int.natCast_emod] at this
  rw [hqq] at this;exact this
 have h3:=Int.emod_add_mul_ediv (x*(b:Int)) (q:Int)
 rw [h2] at h3
 exact ⟨x*(b:Int) / (q:Int),by omega⟩
def dot (n:Nat)(u v:Nat→Int):Int:=((List.range n).map fun j=>u j*v j).sum
theorem Qq {α:Type}(f g:α→Int): ∀l:List α,(l.map fun j=>f j+g j).sum=(l.map f).sum+(l.map g).sum
 | []=>rfl
 |a::l=>by simp only [List.map_cons,List.sum_cons,Qq f g l];omega
theorem Qj {α:Type}(c:Int)(f:α→Int): ∀l:List α,(l.map fun j=>c*f j).sum=c*(l.map f).sum
 | []=>by simp
 |a::l=>by simp only [List.map_cons,List.sum_cons,Qj c f l,Int.mul_add]
theorem yu (n:Nat)(u v w:Nat→Int)(c:Int):dot n u (fun j=>v j+c*w j)=dot n u v+c*dot n u w:=by
 unfold dot
 rw [←Qj,←Qq]
 congr 1
 apply List.map_congr_left
 intro j _
 rw [Int.mul_add,←Int.mul_assoc,Int.mul_comm (u j) c,Int.mul_assoc]
theorem yq (n:Nat)(u v:Nat→Int):dot n u v=dot n v u:=by
 unfold dot;congr 1;apply List.map_congr_left;intro j _;exact Int.mul_comm _ _
theorem J8 (n:Nat)(u v w:Nat→Int)(c:Int):dot n (fun j=>v j+c*w j) u=dot n v u+c*dot n w u:=by
 rw [yq,yu,yq n u v,yq n u w]
theorem Z2 {p:Int}{α:Type}(f:α→Int): ∀l:List α,(∀j∈l,p∣f j)→p∣(l.map f).sum
 | [],_=>by simp
 |a::l,h=>by
  simp only [List.map_cons,List.sum_cons]
  exact Int.dvd_add (h a (by simp)) (Z2 f l fun j hj=>h j (by simp [hj]))
theorem Vp {p:Int}(f:Nat→Int)(k:Nat): ∀(l:List Nat),l.Nodup→k∈l→(∀j∈l,j≠k→p∣f j)→p∣(l.map f).sum - f k
  | [],_,hk,_=>by cases hk
  |a::l,hn,hk,h=>by
    rw [List.nodup_cons] at hn
    simp only [List.map_cons,List.sum_cons]
    by_cases hak:a=k
    · subst hak
      have:=Z2 (p:=p) f l fun j hj=>h j (by simp [hj]) fun e=>hn.1 (e ▸hj)
      rwa [show f a+(l.map f).sum - f a=(l.map f).sum by omega]
    · have hkl : k ∈ l := by rcases List.mem_cons.1 hk with h' | h'
                             · exact absurd h'.symm hak
                             · exact h'
      have h1:=Vp f k l hn.2 hkl fun j hj=>h j (by simp [hj])
      have h2:=h a (by simp) hak
      rw [show f a+(l.map f).sum - f k=f a+((l.map f).sum - f k) by omega]
      exact Int.dvd_add h2 h1
theorem Vd {p:Int}{n k:Nat}(hk:k<n)(u v:Nat→Int)(h: ∀j,j<n→j≠k→p∣u j*v j):p∣dot n u v - u k*v k:=
 Vp (fun j=>u j*v j) k (List.range n) List.nodup_range (List.mem_range.2 hk) fun j hj hjk=>h j (List.mem_range.1 hj) hjk
theorem zfZ {p:Int}(f:Nat→Int)(k m:Nat)(hkm:k≠m): ∀(l:List Nat),l.Nodup→k∈l→m∈l→(∀j∈l,j≠k→j≠m→p∣f j)→p∣(l.map f).sum - f k - f m:=by
 intro l hn hk hm h
 have h1:=Vp (p:=p) (fun j=>if j=m then 0 else f j) k l hn hk fun j hj hjk=>by
  show p∣if j=m then 0 else f j
  by_cases hjm:j=m
  ·rw [if_pos hjm];exact Int.dvd_zero p
  ·rw [if_neg hjm];exact h j hj hjk hjm
 have h2:=Vp (p:=p) (fun j=>if j=m then f j else 0) m l hn hm fun j hj hjm=>by
  show p∣if j=m then f j else 0
  rw [if_neg hjm];exact Int.dvd_zero p
 have h3:=Qq (fun j=>if j=m then 0 else f j) (fun j=>if j=m then f j else 0) l
 have h4:(fun j=>(if j=m then 0 else f j)+(if j=m then f j else 0))=f:=funext fun j=>by split<;>omega
 rw [h4] at h3
 simp only [if_neg hkm,if_true] at h1 h2
 have h5:=Int.dvd_add h1 h2
 rw [h3]
 rwa [show ∀a b c d:Int,a+b - c - d=a - c+(b - d) from by intros;omega]
theorem zfs {p:Int}{n k m:Nat}(hk:k<n)(hm:m<n)(hkm:k≠m)(u v:Nat→Int)(h: ∀j,j<n→j≠k→j≠m→p∣u j*v j):p∣dot n u v - u k*v k - u m*v m:=
 zfZ (fun j=>u j*v j) k m hkm (List.range n) List.nodup_range (List.mem_range.2 hk) (List.mem_range.2 hm) fun j hj=>h j (List.mem_range.1 hj)
theorem Yj {p:Int}{n:Nat}{u v w:Nat→Int}(h: ∀j,j<n→p∣v j - w j):p∣dot n u v - dot n u w:=by
 have:=Z2 (p:=p) (fun j=>u j*(v j - w j)) (List.range n) fun j hj=>Int.dvd_mul_of_dvd_right (h j (List.mem_range.1 hj))
 have h2:dot n u v - dot n u w=((List.range n).map fun j=>u j*(v j - w j)).sum:=by
  have h3:=yu n u v w (-1)
  have h4:(fun j=>u j*(v j - w j))=fun j=>u j*(v j+(-1)*w j):=funext fun j=>by congr 1;omega
  rw [h4];show _=dot n u (fun j=>v j+(-1)*w j);rw [h3];omega
 rw [h2];exact this
structure Sp (p:Int)(n:Nat)(K:(Nat→Int)→Prop):Prop where
 fld:jr p
 size:n≤8
 zero:K fun _=>0
 add: ∀v w c,K v→K w→K fun j=>v j+c*w j
 mod: ∀v w,(∀j,j<n→p∣v j - w j)→K v→K w
def zbU (p:Int)(n:Nat)(v:Nat→Int)(s:Nat):Prop:= ∀j,j<n→s.testBit j=false→p∣v j
def li (p:Int)(n:Nat)(K:(Nat→Int)→Prop)(s:Nat):Prop:= ∀v,K v→zbU p n v s→ ∀j,j<n→p∣v j
theorem zeC {p:Int}{n:Nat}{K:(Nat→Int)→Prop}{s t:Nat}(h:sub s t)(k:li p n K t):li p n K s:=fun v hv hs=>k v hv fun j hj ht=>hs j hj (by
 cases hb:s.testBit j
 ·rfl
 ·rw [h j hb] at ht;cases ht)
section
variable {p:Int} {n:Nat} {K:(Nat→Int)→Prop}
theorem Sp.smul (S:Sp p n K){v:Nat→Int}(hv:K v)(c:Int):K fun j=>c*v j:=by
 have:=S.add _ _ c S.zero hv;exact S.mod _ _ (fun j _=>by show p∣0+c*v j - c*v j;rw [show 0+c*v j - c*v j=0 by omega];exact Int.dvd_zero p) this
theorem Sp.vec (S:Sp p n K){s e:Nat}(he:e<n)(hs:li p n K s)(h: ¬li p n K (ins s e)): ∃v,K v∧zbU p n v (ins s e)∧p∣v e - 1:=by
 obtain ⟨v,hv⟩:=Classical.not_forall.1 h
 obtain ⟨hK,hv2⟩:=Classical.not_imp.1 hv
 obtain ⟨hsup,hv3⟩:=Classical.not_imp.1 hv2
 obtain ⟨j,hj⟩:=Classical.not_forall.1 hv3
 obtain ⟨hjn,hjp⟩:=Classical.not_imp.1 hj
 have hve: ¬p∣v e:=fun h0=>hjp (hs v hK (fun i hi hsi=>by
  by_cases hie:e=i
  ·rw [←hie];exact h0
  ·exact hsup i hi (by rw [jj,hsi];simp [hie])) j hjn)
 obtain ⟨y,hy⟩:=S.fld.inv hve
 refine ⟨fun j=>y*v j,S.smul hK y,fun j hj hb=>Int.dvd_mul_of_dvd_right (hsup j hj hb),?_⟩
 show p∣y*v e - 1
 rw [Int.mul_comm];exact hy
theorem Sp.Yx (S:Sp p n K){s e:Nat}{v:Nat→Int}(he:e<n)(hv:K v)(hs:zbU p n v s)(h1: ¬p∣v e): ¬li p n K s:=fun h=>h1 (h v hv hs e he)
def Jn (p:Int)(n:Nat)(K:(Nat→Int)→Prop)(s:Nat):Prop:=s<2 ^n∧li p n K s∧ ∀e,e<n→s.testBit e=false→ ¬li p n K (ins s e)
theorem Sp.Vs (S:Sp p n K){s:Nat}(hs:s<2 ^n)(h:li p n K s): ∃t,Jn p n K t∧sub s t:=by
 have key: ∀k s,s<2 ^n→li p n K s→n - cnt s=k→ ∃t,Jn p n K t∧sub s t:=by
  intro k
  induction k using Nat.strongRecOn with
  |_ k ih=>
   intro s hs h hk
   by_cases hh: ∀e,e<n→s.testBit e=false→ ¬li p n K (ins s e)
   ·exact ⟨s,⟨hs,h,hh⟩,QG s⟩
   ·obtain ⟨e,he⟩:=Classical.not_forall.1 hh
    obtain ⟨he,he2⟩:=Classical.not_imp.1 he
    obtain ⟨hes,hli⟩:=Classical.not_imp.1 he2
    have hli:=Classical.not_not.1 hli
    have h1:=Jx (Nat.lt_of_lt_of_le he S.size) hes
    have h2:=yH (zb4 (VS hs he))
    rw [ze2 S.size] at h2
    obtain ⟨t,ht,hst⟩:=ih _ (by omega) (ins s e) (VS hs he) hli rfl
    exact ⟨t,ht,yd (Jz s e) hst⟩
 exact key _ s hs h rfl
theorem zf0:li p n K 0:=fun v _ hs j hj=>hs j hj (yJ j)
theorem Sp.expand (S:Sp p n K){a:Nat}(ha:Jn p n K a)(V:Nat→Nat→Int)(hV: ∀x,x<n→a.testBit x=false→K (V x)∧zbU p n (V x) (ins a x)∧p∣V x x - 1){u:Nat→Int}(hu:K u):
  ∀e,e<n→p∣u e - ((List.range n).map fun x=>if a.testBit x then 0 else u x*V x e).sum:=by
 have key: ∀(l:List Nat),l.Nodup→(∀x∈l,x<n)→K (fun e=>u e - (l.map fun x=>if a.testBit x then 0 else u x*V x e).sum):=by
  intro l
  induction l with
  |nil=>intro _ _;exact S.mod _ _ (fun j _=>by simp) hu
  |cons x l ih=>
   intro hn hl
   rw [List.nodup_cons] at hn
   have h1:=ih hn.2 fun y hy=>hl y (by simp [hy])
   cases hx:a.testBit x
   ·refine S.mod _ _ (fun j _=> ?_) (S.add _ _ (-(u x)) h1 (hV x (hl x (by simp)) hx).1)
    simp only [List.map_cons,List.sum_cons,hx,Bool.false_eq_true,if_false]
    rw [show ∀a b c:Int,a - b+ -(u x)*c - (a - (u x*c+b))=0 from by intro a b c;rw [Int.neg_mul];omega]
    exact Int.dvd_zero p
   ·refine S.mod _ _ (fun j _=> ?_) h1
    simp only [List.map_cons,List.sum_cons,hx,if_true]
    rw [show ∀a b:Int,a - b - (a - (0+b))=0 from by intro a b;omega]
    exact Int.dvd_zero p
 have h1:=key (List.range n) List.nodup_range fun x hx=>List.mem_range.1 hx
 refine ha.2.1 _ h1 fun j hj hja=> ?_
 have h2:=Vp (p:=p) (fun x=>if a.testBit x then 0 else u x*V x j) j (List.range n) List.nodup_range (List.mem_range.2 hj) fun x hx hxj=>by
  show p∣if a.testBit x then 0 else u x*V x j
  cases hxa:a.testBit x
  ·simp only [Bool.false_eq_true,if_false]
   refine Int.dvd_mul_of_dvd_right ((hV x (List.mem_range.1 hx) hxa).2.1 j hj ?_)
   rw [jj,hja];simp [hxj]
  ·simp
 simp only [hja,Bool.false_eq_true,if_false] at h2
 have h3:=Int.dvd_mul_of_dvd_right (b:=u j) (hV j hj hja).2.2
 have h4:=Int.dvd_add h2 h3
 rw [show ∀s m c:Int,s - c*m+c*(m - 1)= -(c - s) from by intro s m c;rw [Int.mul_sub];omega] at h4
 exact (Int.dvd_neg).1 h4
theorem Sp.ex (S:Sp p n K){a b e:Nat}(ha:Jn p n K a)(hb:Jn p n K b)(hea:a.testBit e=true)(heb:b.testBit e=false):
  ∃f,b.testBit f=true∧a.testBit f=false∧Jn p n K (ins (del a e) f):=by
 have he:=yz ha.1 hea
 have hV: ∀x,∃v,(x<n→a.testBit x=false→K v∧zbU p n v (ins a x)∧p∣v x - 1):=fun x=>by
  by_cases hx:x<n∧a.testBit x=false
  ·obtain ⟨v,h⟩:=S.vec hx.1 ha.2.1 (ha.2.2 x hx.1 hx.2);exact ⟨v,fun _ _=>h⟩
  ·exact ⟨fun _=>0,fun h1 h2=>absurd ⟨h1,h2⟩ hx⟩
 let V:Nat→Nat→Int:=fun x=>Classical.choose (hV x)
 have hV': ∀x,x<n→a.testBit x=false→K (V x)∧zbU p n (V x) (ins a x)∧p∣V x x - 1:=fun x=>Classical.choose_spec (hV x)
 obtain ⟨u,hu,hus,hue⟩:=S.vec he hb.2.1 (hb.2.2 e he heb)
 have hex:=S.expand ha V hV' hu e he
 have hf: ∃f,f<n∧b.testBit f=true∧a.testBit f=false∧ ¬p∣V f e:=by
  apply Classical.byContradiction
  intro hn
  have h1:p∣((List.range n).map fun x=>if a.testBit x then 0 else u x*V x e).sum:=Z2 _ _ fun x hx=>by
   cases hxa:a.testBit x
   ·simp only [Bool.false_eq_true,if_false]
    by_cases hxb:b.testBit x=true
    ·refine Int.dvd_mul_of_dvd_right ?_
     exact Classical.byContradiction fun h=>hn ⟨x,List.mem_range.1 hx,hxb,hxa,h⟩
    ·refine Int.dvd_mul_of_dvd_left (hus x (List.mem_range.1 hx) ?_)
     have hxe:e≠x:=fun h=>by subst h;rw [hea] at hxa;cases hxa
     rw [jj];simp [hxb,hxe]
   ·simp
  have h2:=Int.dvd_add hex h1
  rw [show ∀a b:Int,a - b+b=a from by intros;omega] at h2
  have h3:=Int.dvd_sub h2 hue
  rw [show ∀a:Int,a - (a - 1)=1 from by intros;omega] at h3
  have:=S.fld.pos
  have:=Int.le_of_dvd (by decide) h3
  omega
 obtain ⟨f,hfn,hfb,hfa,hVe⟩:=hf
 obtain ⟨hVK,hVs,hV1⟩:=hV' f hfn hfa
 have hfe:f≠e:=fun h=>by subst h;rw [hea] at hfa;cases hfa
 have hsub: ∀i,(ins (del a e) f).testBit i=false→i≠e→(ins a f).testBit i=false:=fun i hi hie=>by
  rw [jj,jT] at hi;rw [jj]
  have:=Bool.or_eq_false_iff.1 hi
  simp only [Ne.symm hie,decide_false,Bool.not_false,Bool.and_true] at this
  rw [this.1,this.2];rfl
 refine ⟨f,hfb,hfa,VS (jM (Zd a e) ha.1) hfn,fun w hw hws=> ?_,fun g hg hgs=> ?_⟩
 ·-- w less w_f times the vector of f lies within a
  have h1:=S.add w (V f) (-(w f)) hw hVK
  have h2:=ha.2.1 _ h1 fun j hj hja=>by
   show p∣w j+ -(w f)*V f j
   by_cases hjf:j=f
   ·subst hjf
    have:=Int.dvd_mul_of_dvd_right (b:= -(w j)) hV1
    rw [show ∀x y:Int,-x*(y - 1)=x+ -x*y from by intro x y;rw [Int.mul_sub];omega] at this
    exact this
   ·have hje:j≠e:=fun h=>by subst h;rw [hea] at hja;cases hja
    refine Int.dvd_add (hws j hj ?_) (Int.dvd_mul_of_dvd_right (hVs j hj ?_))
    ·rw [jj,jT,hja];simp [Ne.symm hjf]
    ·rw [jj,hja];simp [Ne.symm hjf]
  have h3:p∣w f:=by
   have h4:=h2 e he
   have h5:p∣w e:=hws e he (by rw [jj,jT];simp [hfe])
   have h6:=Int.dvd_sub h4 h5
   rw [show ∀x y z:Int,x+ -y*z - x= -(y*z) from by intro x y z;rw [Int.neg_mul];omega] at h6
   rcases S.fld.zaZ ((Int.dvd_neg).1 h6) with h|h
   ·exact h
   ·exact absurd h hVe
  intro j hj
  have h4:=h2 j hj
  have h5:=Int.dvd_mul_of_dvd_left (c:=V f j) ((Int.dvd_neg).2 h3)
  have h6:=Int.dvd_sub h4 h5
  rwa [show ∀x y:Int,x+y - y=x from by intros;omega] at h6
 ·by_cases hge:g=e
  ·subst hge
   refine fun h=>ha.2.2 f hfn hfa (zeC (fun i hi=> ?_) h)
   rw [jj] at hi
   rw [jj,jj,jT]
   rcases Bool.or_eq_true_iff.1 hi with hi|hi
   ·rw [hi];cases decide (g=i)<;>simp
   ·rw [hi];simp
  ·have hga:a.testBit g=false:=by
    rw [jj,jT] at hgs
    have:=(Bool.or_eq_false_iff.1 hgs).1
    simpa [Ne.symm hge] using this
   have hgf:f≠g:=fun h=>by subst h;rw [zdr] at hgs;cases hgs
   obtain ⟨hGK,hGs,hG1⟩:=hV' g hg hga
   obtain ⟨y,hy⟩:=S.fld.inv hVe
   refine S.Yx (v:=fun j=>V g j+ -(V g e*y)*V f j) hg (S.add _ _ _ hGK hVK) (fun j hj hjs=> ?_) fun h=> ?_
   ·show p∣V g j+ -(V g e*y)*V f j
    by_cases hje:j=e
    ·subst hje
     have:=Int.dvd_mul_of_dvd_right (b:= -(V g j)) hy
     rw [show ∀x y z:Int,-x*(z*y - 1)=x+ -(x*y)*z from by intro x y z;rw [Int.mul_sub,Int.neg_mul,Int.neg_mul,Int.neg_mul,Int.mul_assoc x y z,Int.mul_comm z y];omega] at this
     exact this
    ·have hj1:(ins (del a e) f).testBit j=false:=by
      rw [jj] at hjs;exact (Bool.or_eq_false_iff.1 hjs).1
     have hj2:decide (g=j)=false:=by rw [jj] at hjs;exact (Bool.or_eq_false_iff.1 hjs).2
     have hj3:=hsub j hj1 hje
     refine Int.dvd_add (hGs j hj ?_) (Int.dvd_mul_of_dvd_right (hVs j hj hj3))
     rw [jj] at hj3 ⊢
     rw [(Bool.or_eq_false_iff.1 hj3).1,hj2];rfl
   ·have h1:p∣V g g+ -(V g e*y)*V f g:=h
    have h2:p∣V f g:=hVs g hg (by rw [jj,hga];simp [hgf])
    have h3:=Int.dvd_sub h1 (Int.dvd_mul_of_dvd_right (b:= -(V g e*y)) h2)
    rw [show ∀x y:Int,x+y - y=x from by intros;omega] at h3
    have h4:=Int.dvd_sub h3 hG1
    rw [show ∀a:Int,a - (a - 1)=1 from by intros;omega] at h4
    have:=S.fld.pos
    have:=Int.le_of_dvd (by decide) h4
    omega
noncomputable def linB (p:Int) (n:Nat) (K:(Nat→Int)→Prop):List Nat:=(List.range (2 ^n)).filter fun s=> @decide _ (Classical.propDecidable (Jn p n K s))
theorem yi {s:Nat}:s∈linB p n K↔Jn p n K s:=by
 unfold linB;rw [List.mem_filter,List.mem_range];simp only [decide_eq_true_eq]
 exact ⟨fun h=>h.2,fun h=>⟨h.1,h⟩⟩
theorem Sp.mat (S:Sp p n K):Mat n (linB p n K) where
 size:=S.size
 lt:=fun b hb=>(yi.1 hb).1
 ne:=fun h=>by
  obtain ⟨t,ht,_⟩:=S.Vs (s:=0) (Nat.two_pow_pos n) zf0
  have:=yi.2 ht;rw [h] at this;cases this
 ex:=fun a ha b hb e hea heb=>by
  obtain ⟨f,h1,h2,h3⟩:=S.ex (yi.1 ha) (yi.1 hb) hea heb
  exact ⟨f,h1,h2,yi.2 h3⟩
theorem Sp.yj (S:Sp p n K){s:Nat}(hs:s<2 ^n):ind (linB p n K) s↔li p n K s:=by
 constructor
 ·rintro ⟨b,hb,h⟩;exact zeC h (yi.1 hb).2.1
 ·intro h
  obtain ⟨t,ht,hst⟩:=S.Vs hs h
  exact ⟨t,yi.2 ht,hst⟩
theorem Sp.rk (S:Sp p n K){s q:Nat}(hs:s<2 ^n)(hq:sub q s)(h:li p n K q)(hall: ∀e,s.testBit e=true→q.testBit e=false→ ¬li p n K (ins q e)):rk (linB p n K) s=cnt q:=by
 have hq2:q<2 ^n:=jM hq hs
 obtain ⟨J,hJ,hqJ,hJs,hJc⟩:=S.mat.JE (jK S.size hs) ((S.yj hq2).2 h) hq
 rw [←hJc]
 have:J=q:=Zr (fun i hi=>by
  cases hqi:q.testBit i
  ·exact absurd ((S.yj (VS hq2 (yz hs (hJs i hi)))).1 (ZD (QW hqJ hi) hJ)) (hall i (hJs i hi) hqi)
  ·rfl) hqJ
 rw [this]
structure Ann (p:Int)(n:Nat)(K K':(Nat→Int)→Prop):Prop where
 sp:Sp p n K
 sp':Sp p n K'
 zca: ∀v u,K v→K' u→p∣dot n u v
 all': ∀u,(∀v,K v→p∣dot n u v)→K' u
 all: ∀v,(∀u,K' u→p∣dot n u v)→K v
theorem Ann.swap {K':(Nat→Int)→Prop}(A:Ann p n K K'):Ann p n K' K where
 sp:=A.sp'
 sp':=A.sp
 zca:=fun v u hv hu=>by rw [yq];exact A.zca u v hu hv
 all':=fun u h=>A.all u fun v hv=>by rw [yq];exact h v hv
 all:=fun v h=>A.all' v fun u hu=>by rw [yq];exact h u hu
theorem Ann.co {K':(Nat→Int)→Prop}(A:Ann p n K K'){a:Nat}(ha:Jn p n K a):Jn p n K' (co n a):=by
 have hV: ∀x,∃v,(x<n→a.testBit x=false→K v∧zbU p n v (ins a x)∧p∣v x - 1):=fun x=>by
  by_cases hx:x<n∧a.testBit x=false
  ·obtain ⟨v,h⟩:=A.sp.vec hx.1 ha.2.1 (ha.2.2 x hx.1 hx.2);exact ⟨v,fun _ _=>h⟩
  ·exact ⟨fun _=>0,fun h1 h2=>absurd ⟨h1,h2⟩ hx⟩
 let V:Nat→Nat→Int:=fun x=>Classical.choose (hV x)
 have hV': ∀x,x<n→a.testBit x=false→K (V x)∧zbU p n (V x) (ins a x)∧p∣V x x - 1:=fun x=>Classical.choose_spec (hV x)
 refine ⟨zdp n a,fun u hu hus=> ?_,fun e he hea=> ?_⟩
 ·-- against the vector of x only x counts
  have hout: ∀x,x<n→a.testBit x=false→p∣u x:=fun x hx hxa=>by
   obtain ⟨h1,h2,h3⟩:=hV' x hx hxa
   have h4:=A.zca _ _ h1 hu
   have h5:=Vd (p:=p) hx u (V x) fun j hj hjx=>by
    cases hja:a.testBit j
    ·exact Int.dvd_mul_of_dvd_right (h2 j hj (by rw [jj,hja];simp [Ne.symm hjx]))
    ·exact Int.dvd_mul_of_dvd_left (hus j hj (by rw [J4,hja];simp))
   have h6:=Int.dvd_sub h4 h5
   rw [show ∀a b:Int,a - (a - b)=b from by intros;omega] at h6
   have h7:=Int.dvd_sub h6 (Int.dvd_mul_of_dvd_right (b:=u x) h3)
   rw [show ∀a b:Int,a*b - a*(b - 1)=a from by intro a b;rw [Int.mul_sub];omega] at h7
   exact h7
  intro j hj
  cases hja:a.testBit j
  ·exact hout j hj hja
  ·exact hus j hj (by rw [J4,hja];simp)
 ·have hae:a.testBit e=true:=by
   rw [J4] at hea
   cases h:a.testBit e
   ·rw [h] at hea;simp at hea;omega
   ·rfl
  let u:Nat→Int:=fun j=>if j=e then 1 else if a.testBit j then 0 else -(V j e)
  have hue:u e=1:=by show (if e=e then (1:Int) else _)=1;rw [if_pos rfl]
  refine A.sp'.Yx (v:=u) he (A.all' u fun v hv=> ?_) (fun j hj hjs=> ?_) (fun h=>by
   rw [hue] at h;have:=A.sp.fld.pos;have:=Int.le_of_dvd (by decide) h;omega)
  ·have hx:=A.sp.expand ha V hV' hv e he
   have h1:dot n u v - (v e - ((List.range n).map fun x=>if a.testBit x then 0 else v x*V x e).sum)=0:=by
    have h2:(fun j=>u j*v j)=fun j=>(if j=e then v j else 0)+(-1)*(if a.testBit j then 0 else v j*V j e):=funext fun j=>by
     show (if j=e then (1:Int) else if a.testBit j then 0 else -(V j e))*v j=_
     by_cases hje:j=e
     ·subst hje;simp [hae]
     ·cases a.testBit j
      ·simp [hje];rw [Int.mul_comm,Int.mul_neg]
      ·simp [hje]
    have h3:dot n u v=((List.range n).map fun j=>if j=e then v j else 0).sum+(-1)*((List.range n).map fun x=>if a.testBit x then 0 else v x*V x e).sum:=by
     unfold dot;rw [h2,Qq,Qj]
    have h4: ∀(l:List Nat),l.Nodup→e∈l→(l.map fun j=>if j=e then v j else 0).sum=v e:=by
     intro l
     induction l with
     |nil=>intro _ h;cases h
     |cons x l ih=>
      intro hn hm
      rw [List.nodup_cons] at hn
      simp only [List.map_cons,List.sum_cons]
      by_cases hxe:x=e
      ·subst hxe
       have:(l.map fun j=>if j=x then v j else 0).sum=0:=by
        have:l.map (fun j=>if j=x then v j else 0)=l.map fun _=>0:=List.map_congr_left fun j hj=>by
         rw [if_neg (fun h:j=x=>hn.1 (h ▸hj))]
        rw [this];clear this hn ih hm
        induction l with
        |nil=>rfl
        |cons _ l ih=>rw [List.map_cons,List.sum_cons,ih];rfl
       rw [this,if_pos rfl];omega
      ·rw [if_neg hxe,ih hn.2 (by rcases List.mem_cons.1 hm with h|h;exact absurd h.symm hxe;exact h)];omega
    rw [h3,h4 _ List.nodup_range (List.mem_range.2 he)];omega
   rw [show dot n u v=v e - ((List.range n).map fun x=>if a.testBit x then 0 else v x*V x e).sum by omega]
   exact hx
  ·show p∣if j=e then (1:Int) else if a.testBit j then 0 else -(V j e)
   rw [jj] at hjs
   have h1:=Bool.or_eq_false_iff.1 hjs
   have hje:j≠e:=fun h=>by rw [h] at h1;simp at h1
   rw [if_neg hje]
   have:a.testBit j=true:=by
    have:=h1.1;rw [J4] at this
    cases h:a.testBit j
    ·rw [h] at this;simp at this;omega
    ·rfl
   rw [if_pos this];exact Int.dvd_zero p
end
end Mt
end
section
namespace Mt
section
variable {n:Nat} {B:List Nat}
end
theorem ZY (s:Nat):(elems s).length=cnt s:=by rw [cnt,List.countP_eq_length_filter];rfl
end Mt
end
section
namespace Mt
def Ker (p:Int)(n R:Nat)(a:Nat→Nat→Int)(v:Nat→Int):Prop:= ∀i,i<R→p∣dot n (a i) v
theorem QO {p:Int}{n R:Nat}(hp:jr p)(hn:n≤8)(a:Nat→Nat→Int):Sp p n (Ker p n R a) where
 fld:=hp
 size:=hn
 zero:=fun i _=>Z2 _ _ fun j _=>by simp
 add:=fun v w c hv hw i hi=>by rw [yu];exact Int.dvd_add (hv i hi) (Int.dvd_mul_of_dvd_right (hw i hi))
 mod:=fun v w h hv i hi=>by
  have h1:=Yj (u:=a i) h
  have h2:=Int.dvd_sub (hv i hi) h1
  rwa [show ∀x y:Int,x - (x - y)=y from by intros;omega] at h2
theorem jn {n:Nat}{u u' v:Nat→Int}(h: ∀j,j<n→u j=u' j):dot n u v=dot n u' v:=by
 unfold dot;congr 1;apply List.map_congr_left;intro j hj;rw [h j (List.mem_range.1 hj)]
theorem Vu {p:Int}{n:Nat}{u u' v:Nat→Int}(h: ∀j,j<n→p∣u j - u' j):p∣dot n u v - dot n u' v:=by
 rw [yq n u,yq n u'];exact Yj h
theorem Zp {p x y:Int}(h:p∣x - y):p∣x↔p∣y:=by
 constructor
 ·intro hx;have:=Int.dvd_sub hx h;rwa [show x - (x - y)=y by omega] at this
 ·intro hy;have:=Int.dvd_add hy h;rwa [show y+(x - y)=x by omega] at this
theorem zen {p:Int}{n R t:Nat}{a b:Nat→Nat→Int}(hp:jr p)(ht:t<R)(f:Int)(hf: ¬p∣f)(y:Nat→Int)(hy: ∀i,i<R→i≠t→ ¬p∣y i)(g:Nat→Int)
  (h1: ∀j,j<n→p∣b t j - f*a t j) (h2: ∀i,i<R→i≠t→ ∀j,j<n→p∣b i j - (y i*a i j+g i*a t j)) (v:Nat→Int):Ker p n R a v↔Ker p n R b v:=by
 have e1:p∣dot n (b t) v - f*dot n (a t) v:=by
  have h:=Vu (v:=v) h1
  have h3:=J8 n v (fun _=>0) (a t) f
  have h4:dot n (fun _=>(0:Int)) v=0:=by
   unfold dot
   have:(fun j=>(0:Int)*v j)=fun _=>0:=funext fun j=>by omega
   rw [this]
   induction List.range n with
   |nil=>rfl
   |cons _ l ih=>rw [List.map_cons,List.sum_cons,ih];rfl
  rw [h4] at h3
  have h5:dot n (fun j=>f*a t j) v=f*dot n (a t) v:=by
   have h6:(fun j=>f*a t j)=fun j=>(0:Int)+f*a t j:=funext fun j=>by omega
   rw [h6,h3];omega
  rwa [h5] at h
 have e2: ∀i,i<R→i≠t→p∣dot n (b i) v - (y i*dot n (a i) v+g i*dot n (a t) v):=fun i hi hit=>by
  have h:=Vu (v:=v) (h2 i hi hit)
  have h3:=J8 n v (fun j=>y i*a i j) (a t) (g i)
  have h5:dot n (fun j=>y i*a i j) v=y i*dot n (a i) v:=by
   unfold dot
   rw [←Qj];congr 1;apply List.map_congr_left;intro j _;rw [Int.mul_assoc]
  rw [h3,h5] at h;exact h
 constructor
 ·intro hK i hi
  by_cases hit:i=t
  ·subst hit;exact (Zp e1).2 (Int.dvd_mul_of_dvd_right (hK i hi))
  ·exact (Zp (e2 i hi hit)).2 (Int.dvd_add (Int.dvd_mul_of_dvd_right (hK i hi)) (Int.dvd_mul_of_dvd_right (hK t ht)))
 ·intro hK
  have ha:p∣dot n (a t) v:=by
   rcases hp.zaZ ((Zp e1).1 (hK t ht)) with h|h
   ·exact absurd h hf
   ·exact h
  intro i hi
  by_cases hit:i=t
  ·subst hit;exact ha
  ·have h3:=(Zp (e2 i hi hit)).1 (hK i hi)
   have h4:=Int.dvd_sub h3 (Int.dvd_mul_of_dvd_right (b:=g i) ha)
   rw [show ∀x y:Int,x+y - y=x from by intros;omega] at h4
   rcases hp.zaZ h4 with h|h
   ·exact absurd h (hy i hi hit)
   ·exact h
theorem zer {p:Int}{n R t k:Nat}{a b:Nat→Nat→Int}(ht:t<R)(hk:k<R)(h1: ∀j,j<n→b t j=a k j)(h2: ∀j,j<n→b k j=a t j)(h3: ∀i,i<R→i≠t→i≠k→ ∀j,j<n→b i j=a i j)(v:Nat→Int):Ker p n R a v↔Ker p n R b v:=by
 constructor
 ·intro h i hi
  by_cases hit:i=t
  ·subst hit;rw [jn h1];exact h k hk
  ·by_cases hik:i=k
   ·subst hik;rw [jn h2];exact h t ht
   ·rw [jn (h3 i hi hit hik)];exact h i hi
 ·intro h i hi
  by_cases hit:i=t
  ·subst hit;rw [←jn h2];exact h k hk
  ·by_cases hik:i=k
   ·subst hik;rw [←jn h1];exact h t ht
   ·rw [←jn (h3 i hi hit hik)];exact h i hi
def bitsOf (P:List Nat):Nat:=setOf 8 P.contains
theorem ZG (P:List Nat)(i:Nat):(bitsOf P).testBit i=(decide (i<8)&&P.contains i):=V0 _ _ _
structure Steps (p:Int)(n R:Nat)(b:Nat→Nat→Int)(s:Nat)(P:List Nat):Prop where
 len:P.length≤R
 nodup:P.Nodup
 mem: ∀x∈P,x<n∧s.testBit x=true
 diag: ∀k (hk:k<P.length),¬p∣b k P[k]
 below: ∀k (hk:k<P.length),∀i,k<i→i<R→p∣b i P[k]
 zero: ∀i,P.length≤i→i<R→ ∀c,c<n→s.testBit c=true→p∣b i c
section
variable {p:Int} {n R:Nat} {b:Nat→Nat→Int} {s:Nat} {P:List Nat}
theorem Steps.li (hp:jr p)(hn:n≤8)(h:Steps p n R b s P):li p n (Ker p n R b) (bitsOf P):=by
 intro v hv hs
 have out: ∀j,j<n→j∉P→p∣v j:=fun j hj hjP=>hs j hj (by rw [ZG];simp [hjP])
 have key: ∀m k (hk:k<P.length),k+m+1=P.length→p∣v P[k]:=by
  intro m
  induction m using Nat.strongRecOn with
  |_ m ih=>
   intro k hk hm
   have h1:=hv k (Nat.lt_of_lt_of_le hk h.len)
   have hkn:=(h.mem P[k] (List.getElem_mem hk)).1
   have h2:=Vd (p:=p) hkn (b k) v fun j hj hjk=>by
    by_cases hjP:j∈P
    ·obtain ⟨i,hi,rfl⟩:=List.getElem_of_mem hjP
     rcases Nat.lt_trichotomy i k with hik|hik|hik
     ·exact Int.dvd_mul_of_dvd_left (h.below i hi k hik (Nat.lt_of_lt_of_le hk h.len))
     ·subst hik;exact absurd rfl hjk
     ·exact Int.dvd_mul_of_dvd_right (ih (P.length - i - 1) (by omega) i hi (by omega))
    ·exact Int.dvd_mul_of_dvd_right (out j hj hjP)
   have h3:=(Zp h2).1 h1
   rcases hp.zaZ h3 with h4|h4
   ·exact absurd h4 (h.diag k hk)
   ·exact h4
 intro j hj
 by_cases hjP:j∈P
 ·obtain ⟨i,hi,rfl⟩:=List.getElem_of_mem hjP
  exact key (P.length - i - 1) i hi (by omega)
 ·exact out j hj hjP
theorem Steps.Yx (hp:jr p)(hn:n≤8)(h:Steps p n R b s P){e:Nat}(he:e<n)(hes:s.testBit e=true)(heP:e∉P): ¬Mt.li p n (Ker p n R b) (ins (bitsOf P) e):=by
 have key: ∀m,m≤P.length→ ∃v:Nat→Int,v e=1∧(∀j,j<n→j≠e→(∀i (hi:i<P.length),P.length - m≤i→P[i]≠j)→v j=0)∧ ∀i,P.length - m≤i→i<R→p∣dot n (b i) v:=by
  intro m
  induction m with
  |zero=>
   intro _
   refine ⟨fun j=>if j=e then 1 else 0,if_pos rfl,fun j _ hje _=>if_neg hje,fun i hi hiR=> ?_⟩
   have h2:=Vd (p:=p) he (b i) (fun j=>if j=e then 1 else 0) fun j hj hje=>by
    show p∣b i j*(if j=e then 1 else 0)
    rw [if_neg hje];simp
   rw [Zp h2]
   exact Int.dvd_mul_of_dvd_left (h.zero i (by omega) hiR e he hes)
  |succ m ih=>
   intro hm
   obtain ⟨v,hve,hv0,hvK⟩:=ih (by omega)
   have hk:P.length - (m+1)<P.length:=by omega
   obtain ⟨k,hkdef⟩: ∃k,k=P.length - (m+1):=⟨_,rfl⟩
   have hkP:k<P.length:=by omega
   have hkn:=(h.mem P[k] (List.getElem_mem hkP)).1
   have hke:P[k]≠e:=fun hh=>heP (hh ▸List.getElem_mem hkP)
   obtain ⟨z,hz⟩:=hp.inv (h.diag k hkP)
   have hvk:v P[k]=0:=hv0 P[k] hkn hke fun i hi hik hh=>by
    have:=(List.getElem_inj h.nodup).1 hh;omega
   let w:Nat→Int:=fun j=>if j=P[k] then 1 else 0
   have hw: ∀i,dot n (b i) w=b i P[k]:=fun i=>by
    have h2:=Vd (p:=0) hkn (b i) w fun j hj hjk=>by
     show (0:Int)∣b i j*(if j=P[k] then 1 else 0)
     rw [if_neg hjk];simp
    have h3:=Int.zero_dvd.1 h2
    have h4:w P[k]=1:=if_pos rfl
    rw [h4] at h3;omega
   refine ⟨fun j=>v j+ -(z*dot n (b k) v)*w j,?_,fun j hj hje hjP=> ?_,fun i hi hiR=> ?_⟩
   ·show v e+_*(if e=P[k] then 1 else 0)=1
    rw [if_neg (Ne.symm hke),hve];omega
   ·show v j+_*(if j=P[k] then 1 else 0)=0
    rw [if_neg (fun hh=>hjP k hkP (by omega) hh.symm),hv0 j hj hje fun i hi hik=>hjP i hi (by omega)];omega
   ·rw [yu,hw]
    by_cases hik:i=k
    ·subst hik
     have:=Int.dvd_mul_of_dvd_right (b:= -(dot n (b i) v)) hz
     rw [show ∀d c z:Int,-d*(c*z - 1)=d+ -(z*d)*c from by intro d c z;rw [Int.mul_sub,Int.neg_mul,Int.neg_mul,Int.neg_mul,Int.mul_comm z d,Int.mul_assoc,Int.mul_comm z c];omega] at this
     exact this
    ·exact Int.dvd_add (hvK i (by omega) hiR) (Int.dvd_mul_of_dvd_right (h.below k hkP i (by omega) hiR))
 obtain ⟨v,hve,hv0,hvK⟩:=key P.length (Nat.le_refl _)
 refine (QO hp hn b).Yx he (fun i hi=>hvK i (by omega) hi) (fun j hj hjs=> ?_) (by
  rw [hve];intro hh;have:=hp.pos;have:=Int.le_of_dvd (by decide) hh;omega)
 rw [jj,ZG] at hjs
 have h1:=Bool.or_eq_false_iff.1 hjs
 have h2:j∉P:=fun hh=>by
  have:=h1.1;simp [hh] at this;omega
 rw [hv0 j hj (fun hh=>by rw [hh] at h1;simp at h1) fun i hi _ hh=>h2 (hh ▸List.getElem_mem hi)]
 exact Int.dvd_zero p
theorem zcS (hn:P.Nodup)(h8: ∀x∈P,x<8):cnt (bitsOf P)=P.length:=by
 have h1:cnt (bitsOf P)=(List.range 8).countP P.contains:=by
  unfold cnt;refine List.countP_congr fun i hi=> ?_
  rw [ZG,decide_eq_true (List.mem_range.1 hi)];simp
 rw [h1]
 have key: ∀(l:List Nat),l.Nodup→(∀x∈P,x∈l)→l.countP P.contains=P.length:=by
  induction P with
  |nil=>
   intro l _ _
   rw [List.length_nil,List.countP_eq_zero];intro a _;simp
  |cons x P ih=>
   intro l hl hm
   rw [List.nodup_cons] at hn
   have hx:x∈l:=hm x (by simp)
   obtain ⟨l1,l2,rfl⟩:=List.append_of_mem hx
   have hl':(l1++l2).Nodup∧x∉l1++l2:=by
    have:(x::(l1++l2)).Nodup:=(List.perm_middle.nodup_iff).1 hl
    rw [List.nodup_cons] at this;exact ⟨this.2,this.1⟩
   have h2:=ih hn.2 (fun y hy=>h8 y (by simp [hy])) (by
    unfold cnt;refine List.countP_congr fun i hi=> ?_
    rw [ZG,decide_eq_true (List.mem_range.1 hi)];simp) (l1++l2) hl'.1 fun y hy=>by
     have:=hm y (by simp [hy])
     rw [List.mem_append,List.mem_cons] at this
     rw [List.mem_append]
     rcases this with h|h|h
     ·exact .inl h
     ·subst h;exact absurd hy hn.1
     ·exact .inr h
   rw [List.countP_append,List.countP_cons]
   have h3: ∀l:List Nat,x∉l→l.countP (x::P).contains=l.countP P.contains:=fun l hxl=>List.countP_congr fun y hy=>by
    have:y≠x:=fun h=>hxl (h ▸hy)
    simp [this]
   have h4:=hl'.2
   rw [List.mem_append,not_or] at h4
   rw [h3 l1 h4.1,h3 l2 h4.2]
   rw [List.countP_append] at h2
   simp
   omega
 exact key (List.range 8) List.nodup_range fun x hx=>List.mem_range.2 (h8 x hx)
theorem Steps.rk (hp:jr p)(hn:n≤8)(hs:s<2 ^n)(h:Steps p n R b s P):rk (linB p n (Ker p n R b)) s=P.length:=by
 have h8: ∀x∈P,x<8:=fun x hx=>Nat.lt_of_lt_of_le (h.mem x hx).1 hn
 rw [←zcS h.nodup h8]
 refine (QO hp hn b).rk hs (fun i hi=> ?_) (h.li hp hn) fun e he heP=> ?_
 ·rw [ZG] at hi;simp at hi;exact (h.mem i hi.2).2
 ·refine h.Yx hp hn (yz hs he) he fun hh=> ?_
  rw [ZG] at heP;simp [hh,h8 e hh] at heP
end
end Mt
end
section
namespace L
open Mt
structure PS (p:Int)(n R:Nat)(a:Tab)(s j:Nat)(M:Tab)(P:List Nat):Prop where
 len:P.length≤R
 nodup:P.Nodup
 mem: ∀x∈P,x<j∧s.testBit x=true
 diag: ∀k (hk:k<P.length),¬p∣M k P[k]
 below: ∀k (hk:k<P.length),∀i,k<i→i<R→p∣M i P[k]
 zero: ∀i,P.length≤i→i<R→ ∀c,c<j→s.testBit c=true→p∣M i c
 ker: ∀v,Ker p n R a v↔Ker p n R M v
section
variable {p:Int} {n R s j:Nat} {a M:Tab} {P:List Nat}
theorem PS.start:PS p n R a s 0 a [] where
 len:=Nat.zero_le _
 nodup:=List.nodup_nil
 mem:=fun x hx=>by cases hx
 diag:=fun k hk=>by cases hk
 below:=fun k hk=>by cases hk
 zero:=fun i _ _ c hc=>absurd hc (Nat.not_lt_zero c)
 ker:=fun v=>Iff.rfl
theorem PS.skip (h:PS p n R a s j M P)(hz:s.testBit j=true→ ∀i,P.length≤i→i<R→p∣M i j):PS p n R a s (j+1) M P:=
 {h with
  mem:=fun x hx=>⟨by have:=(h.mem x hx).1;omega,(h.mem x hx).2⟩
  zero:=fun i h1 h2 c hc hs=>by
   rcases Nat.lt_or_ge c j with h3|h3
   ·exact h.zero i h1 h2 c h3 hs
   ·obtain rfl:c=j:=by omega
    exact hz hs i h1 h2}
theorem yf (t b:Nat)(M:Tab)(i c:Nat):qv (jA t b) M i c=if i=b then M t c else if i=t then M b c else M i c:=rfl
theorem PS.swap (h:PS p n R a s j M P){b:Nat}(h1:P.length≤b)(h2:b<R):PS p n R a s j (qv (jA P.length b) M) P:=by
 have hrow: ∀i c,i<P.length→qv (jA P.length b) M i c=M i c:=fun i c hi=>by rw [yf,if_neg (by omega),if_neg (by omega)]
 have hge: ∀c,(∀i,P.length≤i→i<R→p∣M i c)→ ∀i,P.length≤i→i<R→p∣qv (jA P.length b) M i c:=fun c hc i hi hiR=>by
  rw [yf]
  split
  ·exact hc _ (Nat.le_refl _) (by omega)
  ·split
   ·exact hc _ h1 h2
   ·exact hc _ hi hiR
 refine {h with diag:=fun k hk=>by rw [hrow k _ hk];exact h.diag k hk,below:=fun k hk i hki hiR=> ?_,zero:=fun i hi hiR c hc hs=>hge c (fun i hi hiR=>h.zero i hi hiR c hc hs) i hi hiR,ker:=fun v=>(h.ker v).trans ?_}
 ·rcases Nat.lt_or_ge i P.length with h3|h3
  ·rw [hrow i _ h3];exact h.below k hk i hki hiR
  ·exact hge _ (fun i' hi' hiR'=>h.below k hk i' (by omega) hiR') i h3 hiR
 ·by_cases hb:b=P.length
  ·subst hb
   have:qv (jA P.length P.length) M=M:=by
    funext i c;rw [yf];by_cases e:i=P.length
    ·subst e;simp
    ·simp [e]
   rw [this]
  ·refine zer (t:=P.length) (k:=b) (by omega) h2 (fun c _=> ?_) (fun c _=> ?_) (fun i hi hit hib c _=> ?_) v
   ·rw [yf,if_neg (Ne.symm hb),if_pos rfl]
   ·rw [yf,if_pos rfl]
   ·rw [yf,if_neg hib,if_neg hit]
theorem YF {p x y:Int}(h:p∣x - y)(hy:p∣y):p∣x:=(Zp h).2 hy
theorem YP {p x y:Int}(h:p∣x - y)(hy: ¬p∣y): ¬p∣x:=fun hx=>hy ((Zp h).1 hx)
theorem zcc {p x y u v:Int}(hx:p∣x)(hy:p∣y):p∣u*x+v*y:=Int.dvd_add (Int.dvd_mul_of_dvd_right hx) (Int.dvd_mul_of_dvd_right hy)
theorem PS.row (hp:jr p)(h:PS p n R a s j M P)(hj:j<n)(hs:s.testBit j=true)(ht:P.length<R)(hx: ¬p∣M P.length j){M':Tab}(f:Int)(hf: ¬p∣f)(y:Nat→Int)(hy: ∀i,i<R→i≠P.length→ ¬p∣y i)(g:Nat→Int)
  (h1: ∀c,c<n→p∣M' P.length c - f*M P.length c) (h2: ∀i,i<R→i≠P.length→ ∀c,c<n→p∣M' i c - (y i*M i c+g i*M P.length c)) (h3: ∀i,P.length<i→i<R→p∣M' i j):
  PS p n R a s (j+1) M' (P++[j]):=by
 have hm: ∀k (hk:k<P.length),P[k]<n:=fun k hk=>by have:=(h.mem _ (List.getElem_mem hk)).1;omega
 have hcol: ∀c,c<n→ ∀k,(∀i,k<i→i<R→p∣M i c)→ ∀i,k<i→i<R→k<P.length→p∣M' i c:=fun c hc k hk i hi hiR hkt=>by
  by_cases hit:i=P.length
  ·subst hit;exact YF (h1 c hc) (Int.dvd_mul_of_dvd_right (hk _ hi hiR))
  ·exact YF (h2 i hiR hit c hc) (zcc (hk i hi hiR) (hk _ hkt ht))
 have hmul: ∀ {x y:Int},¬p∣x→ ¬p∣y→ ¬p∣x*y:=fun hx hy hxy=>(hp.zaZ hxy).elim hx hy
 refine {len:= ?_,nodup:= ?_,mem:= ?_,diag:= ?_,below:= ?_,zero:= ?_,ker:= ?_}
 ·rw [List.length_append];exact ht
 ·rw [List.nodup_append]
  refine ⟨h.nodup,List.nodup_cons.2 ⟨by simp,List.nodup_nil⟩,fun x hx y hy=> ?_⟩
  rw [List.mem_singleton] at hy
  have:=(h.mem x hx).1
  omega
 ·intro x hx
  rcases List.mem_append.1 hx with hx|hx
  ·exact ⟨by have:=(h.mem x hx).1;omega,(h.mem x hx).2⟩
  ·rw [List.mem_singleton] at hx;subst hx;exact ⟨by omega,hs⟩
 ·intro k hk
  rw [List.length_append,List.length_singleton] at hk
  by_cases c:k<P.length
  ·rw [List.getElem_append_left c]
   refine YP (h2 k (by omega) (by omega) _ (hm k c)) fun hd=> ?_
   have h4:p∣g k*M P.length P[k]:=Int.dvd_mul_of_dvd_right (h.below k c _ c ht)
   have h5:=Int.dvd_sub hd h4
   rw [Int.add_sub_cancel] at h5
   exact hmul (hy k (by omega) (by omega)) (h.diag k c) h5
  ·obtain rfl:k=P.length:=by omega
   rw [List.getElem_append_right (Nat.le_refl _)]
   simp only [Nat.sub_self,List.getElem_singleton]
   exact YP (h1 j hj) (hmul hf hx)
 ·intro k hk i hki hiR
  rw [List.length_append,List.length_singleton] at hk
  by_cases c:k<P.length
  ·rw [List.getElem_append_left c]
   exact hcol _ (hm k c) k (h.below k c) i hki hiR c
  ·obtain rfl:k=P.length:=by omega
   rw [List.getElem_append_right (Nat.le_refl _)]
   simp only [Nat.sub_self,List.getElem_singleton]
   exact h3 i hki hiR
 ·intro i hi hiR c hc hsc
  rw [List.length_append,List.length_singleton] at hi
  rcases Nat.lt_or_ge c j with h4|h4
  ·exact YF (h2 i hiR (by omega) c (by omega)) (zcc (h.zero i (by omega) hiR c h4 hsc) (h.zero _ (Nat.le_refl _) ht c h4 hsc))
  ·obtain rfl:c=j:=by omega
   exact h3 i (by omega) hiR
 ·intro v
  exact (h.ker v).trans (zen hp ht f hf y hy g h1 h2 v)
theorem PS.done (h:PS p n R a s n M P):Mt.Steps p n R M s P:=
 ⟨h.len,h.nodup,h.mem,h.diag,h.below,fun i h1 h2 c hc hs=>h.zero i h1 h2 c hc hs⟩
theorem PS.rk (hp:jr p)(hn:n≤8)(hs:s<2 ^n)(h:PS p n R a s n M P):rk (linB p n (Ker p n R a)) s=P.length:=by
 rw [show Ker p n R a=Ker p n R M from funext fun v=>propext (h.ker v)]
 exact h.done.rk hp hn hs
theorem Y0 {x:Int}(h0:x≠0)(h1:0≤x∧x<p): ¬p∣x:=fun h=>by
 have:=Int.le_of_dvd (by omega) h;omega
theorem Zy (x p:Int):p∣Int.tmod x p - x:=by
 have:=Int.mul_tdiv_add_tmod x p
 exact ⟨-(x.tdiv p),by rw [Int.mul_neg];omega⟩
end
theorem Ya (p:Int)(t col:Nat)(M:Tab): ∀m,(List.range m).foldl (vk p t col) M=fun i c=>if i<m∧i≠t then Int.tmod (M i c+(p - M i col)*M t c) p else M i c
 |0=>by funext i c;simp
 |m+1=>by
  rw [List.range_succ,List.foldl_append,Ya p t col M m]
  funext i c
  show vk p t col _ m i c=_
  unfold vk
  by_cases h1:m=t
  ·subst h1
   rw [if_pos rfl]
   by_cases h2:i<m∧i≠m
   ·rw [if_pos h2,if_pos ⟨by omega,h2.2⟩]
   ·rw [if_neg h2,if_neg (by omega)]
  ·rw [if_neg h1]
   show (Vq p t m _ (fun i=>_) i)=_
   unfold Vq
   by_cases h2:i=m
   ·subst h2
    simp [h1]
   ·rw [if_neg h2]
    show (if i<m∧i≠t then Int.tmod (M i c+(p - M i col)*M t c) p else M i c)=_
    by_cases h3:i<m∧i≠t
    ·rw [if_pos h3,if_pos ⟨by omega,h3.2⟩]
    ·rw [if_neg h3,if_neg (by omega)]
theorem yF (p:Int)(R t col:Nat)(M:Tab)(i c:Nat)(hi:i<R):vN p R t col M i c=
  if i=t then Int.tmod (M t c*yB p (M t col)) p else Int.tmod (M i c+(p - M i col)*Int.tmod (M t c*yB p (M t col)) p) p:=by
 unfold vN Qr
 rw [Ya]
 by_cases h:i=t
 ·subst h;simp [qv,y7]
 ·simp [hi,h,qv,y7]
theorem zfB: ∀p∈[2,3,5,7],∀a∈List.range 7,1≤a→a<p→(p:Int)∣(a:Int)*yB p a - 1:=by decide
theorem zab {p a:Int}(hp:jr p)(ha:1≤a)(hap:a<p):p∣a*yB p a - 1:=by
 obtain ⟨q,rfl,hq⟩:=hp.nat
 obtain ⟨b,rfl⟩:=Int.eq_ofNat_of_zero_le (show 0≤a by omega)
 have hq7:q≤7:=by simp at hq;omega
 exact zfB q hq b (List.mem_range.2 (by omega)) (by omega) (by omega)
section
variable {p:Int} {n R s j:Nat} {a M:Tab} {P:List Nat}
theorem PS.pivot (hp:jr p)(h:PS p n R a s j M P)(hj:j<n)(hs:s.testBit j=true)(ht:P.length<R)(hM:InF p R n M)(hx:M P.length j≠0):PS p n R a s (j+1) (vN p R P.length j M) (P++[j]):=by
 have hv:=hM _ j ht hj
 have hinv:=zab hp (show 1≤M P.length j by omega) hv.2
 have hpp:=hp.pos
 have hf: ¬p∣yB p (M P.length j):=fun hd=>by
  have h1:p∣M P.length j*yB p (M P.length j):=Int.dvd_mul_of_dvd_right hd
  have h2:=Int.dvd_sub h1 hinv
  rw [show ∀x:Int,x - (x - 1)=1 from by intro x;omega] at h2
  have:=Int.le_of_dvd (by omega) h2
  omega
 refine h.row hp hj hs ht (Y0 hx hv) (yB p (M P.length j)) hf (fun _=>1) (fun i _ _ hd=>by have:=Int.le_of_dvd (by omega) hd;omega) (fun i=>(p - M i j)*yB p (M P.length j)) (fun c hc=> ?_) (fun i hi hit c hc=> ?_) (fun i hti hi=> ?_)
 ·rw [yF _ _ _ _ _ _ _ ht,if_pos rfl,Int.mul_comm];exact Zy _ _
 ·rw [yF _ _ _ _ _ _ _ hi,if_neg hit]
  have h1:=Zy (M i c+(p - M i j)*Int.tmod (M P.length c*yB p (M P.length j)) p) p
  have h2:p∣(p - M i j)*(Int.tmod (M P.length c*yB p (M P.length j)) p - M P.length c*yB p (M P.length j)):=Int.dvd_mul_of_dvd_right (Zy _ _)
  have h3:=Int.dvd_add h1 h2
  refine (show ∀x y:Int,x=y→p∣x→p∣y from fun x y e h=>e ▸h) _ _ ?_ h3
  rw [Int.mul_sub,Int.mul_assoc,Int.mul_comm (yB p (M P.length j)) (M P.length c)]
  omega
 ·rw [yF _ _ _ _ _ _ _ hi,if_neg (by omega)]
  refine YF (Zy _ _) ?_
  have h2:p∣(p - M i j)*(Int.tmod (M P.length j*yB p (M P.length j)) p - M P.length j*yB p (M P.length j)):=Int.dvd_mul_of_dvd_right (Zy _ _)
  have h4:p∣(p - M i j)*(M P.length j*yB p (M P.length j) - 1):=Int.dvd_mul_of_dvd_right hinv
  have h5:=Int.dvd_add (Int.dvd_add h2 h4) (Int.dvd_refl p)
  refine (show ∀x y:Int,x=y→p∣x→p∣y from fun x y e h=>e ▸h) _ _ ?_ h5
  rw [Int.mul_sub,Int.mul_sub,Int.mul_one]
  omega
theorem PS.red (hp:jr p){st:Red}(h:PS p n R a s j st.M P)(ht:P.length=st.t)(hj:j<n)(hs:s.testBit j=true)(hM:InF p R n st.M):
  ∃P',P'.length=(z6 p R st j).t∧PS p n R a s (j+1) (z6 p R st j).M P'∧(z6 p R st j).M=(z6 p R st j).M:=by
 obtain ⟨h1,h2,h3,h4⟩:=vv st.M R j (R - st.t) st.t (by have:=h.len;omega)
 by_cases c:qi st.M R st.t j<R
 ·have he:z6 p R st j=⟨st.t+1,vN p R st.t j (qv (jA st.t (qi st.M R st.t j)) st.M),st.ps++[(j:Int)]⟩:=by unfold z6;rw [if_pos c]
  rw [he]
  rw [←ht] at h1 ⊢
  rw [←ht] at c h3
  have hsw:=h.swap (b:=qi st.M R P.length j) h1 c
  refine ⟨P++[j],by rw [List.length_append];rfl,hsw.pivot hp hj hs (by omega) (hM.swap (by omega) c) ?_,rfl⟩
  rw [yf]
  by_cases c2:P.length=qi st.M R P.length j
  ·rw [if_pos c2];rw [←c2] at h3;exact h3 (by omega)
  ·rw [if_neg c2,if_pos rfl];exact h3 c
 ·have he:z6 p R st j=st:=by unfold z6;rw [if_neg c]
  rw [he]
  exact ⟨P,ht,h.skip fun _ i hi hiR=>by rw [h4 i (by omega) (by omega)];exact Int.dvd_zero p,rfl⟩
end
def zb1 (p:Int)(t i0:Nat)(x y:Int)(f:Nat→Int)(i:Nat):Int:=if i=i0 then Int.tmod (Int.tmod (f i0*y - f t*x) p+p) p else f i
def ZA (p:Int)(t col:Nat)(M:Tab)(i:Nat):Tab:=qv (zb1 p t i (M i col) (M t col)) M
def Q4 (p:Int)(t col R:Nat)(M:Tab):Tab:=(List.range' (t+1) (R - (t+1))).foldl (ZA p t col) M
def ZM (p:Int)(R:Nat)(st:Nat×Tab)(j:Nat):Nat×Tab:=
 if qi st.2 R st.1 j<R then (st.1+1,Q4 p st.1 j R (qv (jA (qi st.2 R st.1 j) st.1) st.2)) else st
theorem zcP (a b:Nat):jA a b=jA b a:=by
 funext f i
 unfold jA
 by_cases h1:i=a
 ·by_cases h2:i=b
  ·subst h1;subst h2;rfl
  ·simp [h1,h2]
   intro h;rw [h]
 ·by_cases h2:i=b
  ·simp [h1,h2]
   intro h;rw [h]
  ·simp [h1,h2]
theorem YA (p:Int)(t col:Nat)(M:Tab): ∀m,(List.range' (t+1) m).foldl (ZA p t col) M=fun i c=>if t<i∧i<t+1+m then Int.tmod (Int.tmod (M i c*M t col - M t c*M i col) p+p) p else M i c
 |0=>by
  funext i c
  rw [if_neg (by omega)];rfl
 |m+1=>by
  rw [List.range'_concat,List.foldl_append,YA p t col M m,List.foldl_cons,List.foldl_nil]
  funext i c
  unfold ZA qv
  unfold zb1
  by_cases h2:i=t+1+1*m
  ·subst h2
   have e1: ¬(t<t+1+1*m∧t+1+1*m<t+1+m):=by omega
   have e2: ¬(t<t∧t<t+1+m):=by omega
   have e3:t<t+1+1*m∧t+1+1*m<t+1+(m+1):=by omega
   simp only [if_neg e1,if_neg e2,if_pos e3,if_true]
  ·rw [if_neg h2]
   show (if t<i∧i<t+1+m then Int.tmod (Int.tmod (M i c*M t col - M t c*M i col) p+p) p else M i c)=_
   by_cases h3:t<i∧i<t+1+m
   ·rw [if_pos h3,if_pos ⟨by omega,by omega⟩]
   ·rw [if_neg h3,if_neg (by omega)]
theorem J2 (p:Int){t R:Nat}(col:Nat)(M:Tab)(ht:t<R)(i c:Nat):Q4 p t col R M i c=if t<i∧i<R then Int.tmod (Int.tmod (M i c*M t col - M t c*M i col) p+p) p else M i c:=by
 unfold Q4
 rw [YA,show t+1+(R - (t+1))=R by omega]
theorem zdg (v:Int){p:Int}(hp:0<p): -p<Int.tmod v p:=by
 have:=Int.tmod_lt_of_pos (-v) hp
 rw [Int.neg_tmod] at this
 omega
theorem zeX (v:Int){p:Int}(hp:2≤p):0≤Int.tmod (Int.tmod v p+p) p∧Int.tmod (Int.tmod v p+p) p<p:=by
 have:=zdg v (show 0<p by omega)
 exact Vj (by omega) hp
theorem zdH (v p:Int):p∣Int.tmod (Int.tmod v p+p) p - v:=by
 have h1:=Zy (Int.tmod v p+p) p
 have h2:=Zy v p
 have h3:=Int.dvd_add (Int.dvd_add h1 h2) (Int.dvd_refl p)
 refine (show ∀x y:Int,x=y→p∣x→p∣y from fun x y e h=>e ▸h) _ _ ?_ h3
 omega
section
variable {p:Int} {n R s j:Nat} {a M:Tab} {P:List Nat}
theorem InF.ZA (h:InF p R n M)(hp:2≤p){t col i:Nat}:InF p R n (ZA p t col M i):=fun i' c hi hc=>by
 unfold L.ZA qv zb1
 split
 ·exact zeX _ hp
 ·exact h i' c hi hc
theorem InF.zdm (hp:2≤p){t col:Nat}: ∀(l:List Nat) {M:Tab},InF p R n M→InF p R n (l.foldl (L.ZA p t col) M)
 | [],_,h=>h
 |i::l,_,h=>InF.zdm hp l (h.ZA hp)
theorem InF.Q4 (h:InF p R n M)(hp:2≤p){t col:Nat}:InF p R n (Q4 p t col R M):=InF.zdm hp _ h
theorem PS.fwd (hp:jr p)(h:PS p n R a s j M P)(hj:j<n)(hs:s.testBit j=true)(ht:P.length<R)(hM:InF p R n M)(hx:M P.length j≠0):PS p n R a s (j+1) (Q4 p P.length j R M) (P++[j]):=by
 have hv:=hM _ j ht hj
 have hpp:=hp.pos
 have h1p: ¬p∣1:=fun hd=>by have:=Int.le_of_dvd (by omega) hd;omega
 have hd:=Y0 hx hv
 refine h.row hp hj hs ht hd 1 h1p (fun i=>if P.length<i then M P.length j else 1) (fun i _ _=>by show ¬p∣if _ then _ else _;split<;>assumption) (fun i=>if P.length<i then - M i j else 0) (fun c hc=> ?_) (fun i hi hit c hc=> ?_) (fun i hti hi=> ?_)
 ·rw [J2 _ _ _ ht,if_neg (by omega),Int.one_mul,Int.sub_self];exact Int.dvd_zero p
 ·rw [J2 _ _ _ ht]
  by_cases c1:P.length<i
  ·rw [if_pos (show P.length<i∧i<R from ⟨c1,hi⟩)]
   simp only [c1,if_true]
   have h2:=zdH (M i c*M P.length j - M P.length c*M i j) p
   refine (show ∀x y:Int,x=y→p∣x→p∣y from fun x y e h=>e ▸h) _ _ ?_ h2
   rw [Int.neg_mul,Int.mul_comm (M i c),Int.mul_comm (M P.length c)]
   omega
  ·rw [if_neg (show ¬(P.length<i∧i<R) by omega)]
   simp only [c1,if_false]
   rw [Int.one_mul,Int.zero_mul,Int.add_zero,Int.sub_self]
   exact Int.dvd_zero p
 ·rw [J2 _ _ _ ht,if_pos (show P.length<i∧i<R from ⟨hti,hi⟩)]
  have h2:=zdH (M i j*M P.length j - M P.length j*M i j) p
  rw [Int.mul_comm (M i j),Int.sub_self,Int.sub_zero] at h2
  rwa [Int.mul_comm (M i j),Int.sub_self]
theorem PS.ZM (hp:jr p){st:Nat×Tab}(h:PS p n R a s j st.2 P)(ht:P.length=st.1)(hj:j<n)(hs:s.testBit j=true)(hM:InF p R n st.2):
  ∃P',P'.length=(L.ZM p R st j).1∧PS p n R a s (j+1) (L.ZM p R st j).2 P'∧InF p R n (L.ZM p R st j).2:=by
 obtain ⟨h1,h2,h3,h4⟩:=vv st.2 R j (R - st.1) st.1 (by have:=h.len;omega)
 by_cases c:qi st.2 R st.1 j<R
 ·have he:L.ZM p R st j=(st.1+1,Q4 p st.1 j R (qv (jA (qi st.2 R st.1 j) st.1) st.2)):=by unfold L.ZM;rw [if_pos c]
  rw [he,zcP]
  rw [←ht] at h1 ⊢
  rw [←ht] at c h3
  have hsw:=h.swap (b:=qi st.2 R P.length j) h1 c
  have hin:=hM.swap (a:=P.length) (b:=qi st.2 R P.length j) (by omega) c
  refine ⟨P++[j],by rw [List.length_append];rfl,hsw.fwd hp hj hs (by omega) hin ?_,hin.Q4 hp.pos.1⟩
  rw [yf]
  by_cases c2:P.length=qi st.2 R P.length j
  ·rw [if_pos c2];rw [←c2] at h3;exact h3 (by omega)
  ·rw [if_neg c2,if_pos rfl];exact h3 c
 ·have he:L.ZM p R st j=st:=by unfold L.ZM;rw [if_neg c]
  rw [he]
  exact ⟨P,ht,h.skip fun _ i hi hiR=>by rw [h4 i (by omega) (by omega)];exact Int.dvd_zero p,hM⟩
def Zg (p:Int)(R s:Nat)(M:Tab)(n:Nat):Nat×Tab:=(List.range n).foldl (fun st j=>if s.testBit j=true then L.ZM p R st j else st) (0,M)
def yW (p:Int)(R s:Nat)(M:Tab)(n:Nat):Red:=(List.range n).foldl (fun st j=>if s.testBit j=true then z6 p R st j else st) ⟨0,M,[]⟩
theorem zaV (hp:jr p)(hM:InF p R n M): ∀m,m≤n→ ∃P,P.length=(Zg p R s M m).1∧PS p n R M s m (Zg p R s M m).2 P∧InF p R n (Zg p R s M m).2
 |0,_=>⟨[],rfl,PS.start,hM⟩
 |m+1,hm=>by
  obtain ⟨P,h1,h2,h3⟩:=zaV hp hM m (by omega)
  have e:Zg p R s M (m+1)=if s.testBit m=true then L.ZM p R (Zg p R s M m) m else Zg p R s M m:=by unfold Zg;rw [List.range_succ,List.foldl_append];rfl
  rw [e]
  by_cases c:s.testBit m=true
  ·rw [if_pos c];exact h2.ZM hp h1 (by omega) c h3
  ·rw [if_neg c];exact ⟨P,h1,h2.skip fun h=>absurd h c,h3⟩
theorem QK (hp:jr p)(hM:InF p R n M): ∀m,m≤n→ ∃P,P.length=(yW p R s M m).t∧PS p n R M s m (yW p R s M m).M P∧InF p R n (yW p R s M m).M
 |0,_=>⟨[],rfl,PS.start,hM⟩
 |m+1,hm=>by
  obtain ⟨P,h1,h2,h3⟩:=QK hp hM m (by omega)
  have e:yW p R s M (m+1)=if s.testBit m=true then z6 p R (yW p R s M m) m else yW p R s M m:=by unfold yW;rw [List.range_succ,List.foldl_append];rfl
  rw [e]
  by_cases c:s.testBit m=true
  ·rw [if_pos c]
   obtain ⟨P',g1,g2,_⟩:=h2.red hp h1 (by omega) c h3
   refine ⟨P',g1,g2,?_⟩
   unfold z6
   split
   ·rename_i hlt
    have hle:=h2.len
    obtain ⟨f1,_,_,_⟩:=vv (yW p R s M m).M R m (R - (yW p R s M m).t) (yW p R s M m).t (by omega)
    exact (h3.swap (by omega) hlt).pivot hp.pos.1 (by omega) (by omega)
   ·exact h3
  ·rw [if_neg c];exact ⟨P,h1,h2.skip fun h=>absurd h c,h3⟩
theorem zbv (hp:jr p)(hn:n≤8)(hs:s<2 ^n)(hM:InF p R n M):(Zg p R s M n).1=rk (linB p n (Ker p n R M)) s:=by
 obtain ⟨P,h1,h2,_⟩:=zaV (s:=s) hp hM n (Nat.le_refl n)
 rw [h2.rk hp hn hs,h1]
theorem zcG (hp:jr p)(hn:n≤8)(hs:s<2 ^n)(hM:InF p R n M):(yW p R s M n).t=rk (linB p n (Ker p n R M)) s:=by
 obtain ⟨P,h1,h2,_⟩:=QK (s:=s) hp hM n (Nat.le_refl n)
 rw [h2.rk hp hn hs,h1]
end
def vp (es:List Nat)(M:Tab):Tab:=fun i q=>M i (es.getD q 0)
theorem Yv (es:List Nat)(p:Int)(t q:Nat): ∀(l:List Nat) (X:Tab),l.foldl (vk p t q) (vp es X)=vp es (l.foldl (vk p t (es.getD q 0)) X)
 | [],_=>rfl
 |i::l,X=>by
  rw [List.foldl_cons,List.foldl_cons,←Yv es p t q l]
  congr 1
  unfold vk
  split
  ·rfl
  ·rfl
theorem zc6 (es:List Nat)(p:Int)(R q:Nat)(A B:Red)(h1:A.t=B.t)(h2:A.M=vp es B.M):(z6 p R A q).t=(z6 p R B (es.getD q 0)).t∧(z6 p R A q).M=vp es (z6 p R B (es.getD q 0)).M:=by
 obtain ⟨ta,Ma,pa⟩:=A
 obtain ⟨tb,Mb,pb⟩:=B
 simp only at h1 h2
 subst h1
 subst h2
 have hf:qi (vp es Mb) R ta q=qi Mb R ta (es.getD q 0):=rfl
 unfold z6
 simp only [hf]
 split
 ·refine ⟨rfl,?_⟩
  show vN p R ta q (vp es (qv (jA ta (qi Mb R ta (es.getD q 0))) Mb))=vp es (vN p R ta (es.getD q 0) (qv (jA ta (qi Mb R ta (es.getD q 0))) Mb))
  generalize qv (jA ta (qi Mb R ta (es.getD q 0))) Mb=X
  exact Yv es p ta q (List.range R) (qv (y7 p ta (yB p (X ta (es.getD q 0)))) X)
 ·exact ⟨rfl,rfl⟩
theorem Jv (es:List Nat)(p:Int)(R:Nat)(M:Tab): ∀m,m≤es.length→((List.range m).foldl (z6 p R) ⟨0,vp es M,[]⟩).t=((es.take m).foldl (z6 p R) ⟨0,M,[]⟩).t∧((List.range m).foldl (z6 p R) ⟨0,vp es M,[]⟩).M=vp es ((es.take m).foldl (z6 p R) ⟨0,M,[]⟩).M
 |0,_=>⟨rfl,rfl⟩
 |m+1,hm=>by
  obtain ⟨h1,h2⟩:=Jv es p R M m (by omega)
  rw [List.range_succ,List.foldl_append,List.take_succ_eq_append_getElem (show m<es.length by omega),List.foldl_append]
  have hg:es.getD m 0=es[m]:=by simp [List.getD_eq_getElem?_getD,show m<es.length by omega]
  have:=zc6 es p R m _ _ h1 h2
  rw [hg] at this
  exact this
theorem zdO (p:Int)(R s n:Nat)(M:Tab):(ya p R ((List.range n).filter s.testBit).length (vp ((List.range n).filter s.testBit) M)).t=(yW p R s M n).t:=by
 unfold ya yW
 rw [(Jv _ p R M _ (Nat.le_refl _)).1,List.take_length,List.foldl_filter]
end L
end
section
namespace L
open Go.RowKit F Wa Wb Wc
open Bits
open Mt (sdiff qW elems vU)
def ints (l:List Nat):List Int:=l.map fun x:Nat=>(x:Int)
theorem QP (l:List Nat)(j:Nat)(h:j<l.length):rd (ints l) (j:Int)=((l[j]'h:Nat):Int):=by
 simp [rd,ints,List.getElem?_eq_getElem h]
theorem zP (l:List Nat):(ints l).length=l.length:=by simp [ints]
theorem ZY (s:Nat):(elems s).length≤8:=by
 have:=List.length_filter_le s.testBit (List.range 8);simpa [elems] using this
def isAny (s:Int):Bool:=decide (0≤s∧s<256)
theorem VA (s:Int):je.f s=some (isAny s):=by
 unfold je.f isAny
 split<;>simp<;>omega
theorem zcQ (x a b:Int):qa.f x a b=some (decide (a≤x∧x≤b)):=by
 unfold qa.f
 split<;>simp<;>omega
theorem Vo (n s:Int):qO.f n s=some (decide (0≤n∧n≤8∧0≤s∧s<2 ^n.toNat)):=by
 unfold qO.f
 simp only [zcQ,Option.bind_some,decide_eq_true_eq]
 split
 ·rename_i h
  obtain ⟨m,rfl⟩:=Int.eq_ofNat_of_zero_le h.1
  have hm:m≤8:=by omega
  have hp:(2:Nat) ^m≤2 ^8:=Nat.pow_le_pow_right (by decide) hm
  rw [Zb (by omega) (by omega),Qo m (by omega),if_pos (by omega)]
  rw [qQ (by generalize 2 ^m=x at hp ⊢;omega) (by generalize 2 ^m=x at hp ⊢;omega)]
  simp only [Int.toNat_natCast,Option.some.injEq,decide_eq_decide]
  have:(2:Int) ^m=((2 ^m:Nat):Int):=by simp
  rw [this]
  generalize 2 ^m=x at hp ⊢
  omega
 ·simp;omega
theorem zbd (s e:Int):vB.f s e=some (isAny s&&decide (0≤e∧e<8)&&s.toNat.testBit e.toNat):=by
 unfold vB.f isAny
 simp only [Vo,zcQ,Option.bind_some,decide_eq_true_eq]
 by_cases hs:0≤s∧s<256
 ·rw [if_pos (by simp;omega)]
  by_cases he:0≤e∧e<8
  ·rw [if_pos (by omega)]
   obtain ⟨a,rfl⟩:=Int.eq_ofNat_of_zero_le hs.1
   obtain ⟨b,rfl⟩:=Int.eq_ofNat_of_zero_le he.1
   unfold qn.f
   rw [Zb (by omega) (by omega),if_pos (by omega),Ym _ _ (by omega) (by omega)]
   simp;omega
  ·rw [if_neg (by omega)];simp [he]
 ·rw [if_neg (by simp;omega)];simp [hs]
theorem Vl (n:Int):q9.f n=some (decide (0≤n∧n≤8)):=by
 unfold q9.f
 split<;>simp<;>omega
theorem zdM (n s:Int):vW.f n s=some (decide (0≤n∧n≤8∧0≤s∧s<2 ^n.toNat)):=by
 unfold vW.f
 rw [Vl]
 simp only [Option.bind_some,decide_eq_true_eq]
 by_cases h:0≤n∧n≤8
 ·rw [if_pos h]
  by_cases hs:s≥0
  ·rw [if_pos hs,if_pos h.1]
   obtain ⟨m,rfl⟩:=Int.eq_ofNat_of_zero_le h.1
   rw [Qo m (by omega)]
   simp only [Int.toNat_natCast,Option.some.injEq,decide_eq_decide]
   have:(2:Int) ^m=((2 ^m:Nat):Int):=by simp
   rw [this]
   generalize 2 ^m=x
   omega
  ·rw [if_neg hs];simp;omega
 ·rw [if_neg h];simp;omega
theorem za8 (s e:Int):vz.f s e=some (isAny s&&decide (0≤e∧e<8)&&s.toNat.testBit e.toNat):=by
 unfold vz.f
 rw [VA]
 simp only [Option.bind_some]
 cases hs:isAny s
 ·simp
 ·rw [if_pos rfl]
  have hs':0≤s∧s<256:=by simpa [isAny] using hs
  by_cases h0:e≥0
  ·rw [if_pos h0]
   by_cases h8:e<8
   ·obtain ⟨a,rfl⟩:=Int.eq_ofNat_of_zero_le hs'.1
    obtain ⟨b,rfl⟩:=Int.eq_ofNat_of_zero_le h0
    rw [if_pos h8,if_pos h0,Ym _ _ (by omega) (by omega)]
    simp;omega
   ·rw [if_neg h8];simp;omega
  ·rw [if_neg h0];simp;omega
def ZQ (s:Int):List Nat:=if isAny s then elems s.toNat else []
theorem Qz (s:Int):(ZQ s).length≤8:=by
 unfold ZQ;split
 ·exact ZY _
 ·simp
theorem QS (s:Int)(L:Nat→List Int→Int→Option (List Int))
  (hL: ∀k (acc:List Int) (i:Nat),L (k+1) acc i=if (i:Int)<8 then (if (isAny s&&decide (0≤(i:Int)∧(i:Int)<8)&&s.toNat.testBit (i:Int).toNat)=true then (if acc.length<17592186044416 then L k (acc++[(i:Int)]) (wrap64 ((i:Int)+1)) else none) else L k acc (wrap64 ((i:Int)+1))) else some acc):
  ∀(d i:Nat) (acc:List Int),i+d=8→acc.length≤i→Ev (fun k=>L k acc i) (acc++ints ((List.range' i d).filter fun e=>isAny s&&s.toNat.testBit e))
 |0,i,acc,hd,_=>by
  obtain rfl:i=8:=by omega
  refine Ev.succ ?_
  simp only [hL,show ¬(((8:Nat):Int)<8) by decide,if_false]
  simpa [ints] using Ev.now acc
 |d+1,i,acc,hd,ha=>by
  refine Ev.succ ?_
  have h8:(i:Int)<8:=by omega
  have hw:wrap64 ((i:Int)+1)=((i+1:Nat):Int):=qQ (by omega) (by omega)
  simp only [hL,h8,hw,if_true,Int.toNat_natCast,Int.natCast_nonneg,decide_true,Bool.and_true,and_self]
  rw [List.range'_succ]
  cases hb:(isAny s&&s.toNat.testBit i)
  ·simp only [hb,List.filter_cons,Bool.false_eq_true,if_false]
   exact QS s L hL d (i+1) acc (by omega) (by omega)
  ·simp only [hb,List.filter_cons,if_true,show acc.length<17592186044416 by omega]
   have:=QS s L hL d (i+1) (acc++[(i:Int)]) (by omega) (by simp;omega)
   simpa [ints] using this
theorem zaL (s:Int):(List.range' 0 8).filter (fun e=>isAny s&&s.toNat.testBit e)=ZQ s:=by
 unfold ZQ elems
 rw [List.range_eq_range']
 cases isAny s<;>simp
theorem zbi (s:Int):Ev (fun k=>qH.f k s) (ints (ZQ s)):=by
 have:=QS s (fun k acc i=>qH.l0 k s acc i) (fun k acc i=>by simp only [qH.l0,zbd,Option.bind_some]) 8 0 [] rfl (by simp)
 rw [zaL] at this
 simpa [qH.f] using this
theorem ZZ (s:Int):Ev (fun k=>qe.f k s) (ints (ZQ s)):=by
 have:=QS s (fun k acc i=>qe.l0 k s acc i) (fun k acc i=>by simp only [qe.l0,za8,Option.bind_some]) 8 0 [] rfl (by simp)
 rw [zaL] at this
 simpa [qe.f] using this
theorem Qs (s n:Nat)(hn:n≤8)(h:s<2 ^n):elems s=(List.range n).filter s.testBit:=by
 unfold elems
 obtain ⟨m,hm⟩: ∃m,8=n+m:=⟨8 - n,by omega⟩
 rw [hm,List.range_add,List.filter_append]
 have:List.filter s.testBit (List.map (fun x=>n+x) (List.range m))=[]:=by
  rw [List.filter_eq_nil_iff]
  intro a ha
  obtain ⟨b,_,rfl⟩:=List.mem_map.1 ha
  rw [Nat.testBit_lt_two_pow (Nat.lt_of_lt_of_le h (Nat.pow_le_pow_right (by decide) (by omega)))]
  simp
 rw [this,List.append_nil]
end L
end
section
namespace L
open Mt
structure RI (p:Int)(R C j:Nat)(st:Red)(P:List Nat):Prop where
 ps:st.ps=ints P
 len:P.length=st.t
 t_le:st.t≤R
 inF:InF p R C st.M
 sort:P.Pairwise (· < ·)
 lt: ∀x∈P,x<j
 zero: ∀i,st.t≤i→i<R→ ∀c,c<j→st.M i c=0
 piv: ∀i (h:i<P.length),st.M i P[i]≠0∧ ∀c,c<P[i]→st.M i c=0
theorem JV {x p:Int}(h0:0≤x)(h1:x<p):Int.tmod x p=x:=by rw [Int.tmod_eq_emod_of_nonneg h0,Int.emod_eq_of_lt h0 h1]
theorem YZ (p:Int)(hp:2≤p):Int.tmod p p=0:=by rw [Int.tmod_eq_emod_of_nonneg (by omega),Int.emod_self]
theorem tmod_one {x p:Int}(hp:2≤p)(h0:0≤x)(h:p∣x - 1):Int.tmod x p=1:=by
 rw [Int.tmod_eq_emod_of_nonneg h0]
 obtain ⟨k,hk⟩:=h
 rw [show x=1+p*k by omega,Int.add_mul_emod_self_left]
 exact Int.emod_eq_of_lt (by omega) (by omega)
section
variable {p:Int} {R C j:Nat} {st:Red} {P:List Nat}
theorem RI.step (hp:jr p)(h:RI p R C j st P)(hj:j<C): ∃P',RI p R C (j+1) (z6 p R st j) P':=by
 have hpp:=hp.pos
 obtain ⟨f1,f2,f3,f4⟩:=vv st.M R j (R - st.t) st.t (by have:=h.t_le;omega)
 by_cases c:qi st.M R st.t j<R
 ·have he:z6 p R st j=⟨st.t+1,vN p R st.t j (qv (jA st.t (qi st.M R st.t j)) st.M),st.ps++[(j:Int)]⟩:=by unfold z6;rw [if_pos c]
  rw [he]
  generalize qi st.M R st.t j=b at c f1 f3
  have htR:st.t<R:=by omega
  have hS:InF p R C (qv (jA st.t b) st.M):=h.inF.swap htR c
  have hrow: ∀i c',i<st.t→qv (jA st.t b) st.M i c'=st.M i c':=fun i c' hi=>by rw [yf,if_neg (by omega),if_neg (by omega)]
  have hz: ∀i,st.t≤i→i<R→ ∀c',c'<j→qv (jA st.t b) st.M i c'=0:=fun i hi hiR c' hc'=>by
   rw [yf]
   split
   ·exact h.zero _ (Nat.le_refl _) htR c' hc'
   ·split
    ·exact h.zero _ (by omega) c c' hc'
    ·exact h.zero _ hi hiR c' hc'
  have hx:qv (jA st.t b) st.M st.t j≠0:=by
   rw [yf]
   by_cases c2:st.t=b
   ·rw [if_pos c2];subst c2;exact f3 c
   ·rw [if_neg c2,if_pos rfl];exact f3 c
  have hxx:=hS st.t j htR hj
  generalize qv (jA st.t b) st.M=S at hS hrow hz hx hxx
  have hone:Int.tmod (S st.t j*yB p (S st.t j)) p=1:=tmod_one hpp.1 (Int.mul_nonneg hxx.1 (Zn _ _)) (zab hp (by omega) hxx.2)
  have hlow: ∀i c',i<R→c'<j→vN p R st.t j S i c'=if i=st.t then 0 else S i c':=fun i c' hi hc'=>by
   rw [yF _ _ _ _ _ _ _ hi,hz st.t (Nat.le_refl _) htR c' hc',Int.zero_mul,Int.zero_tmod]
   split
   ·rfl
   ·have hb:=hS i c' hi (by omega)
    rw [Int.mul_zero,Int.add_zero,JV hb.1 hb.2]
  refine ⟨P++[j],{ps:=by show st.ps++[(j:Int)]=_;rw [h.ps];simp [ints],len:=by rw [List.length_append,h.len];rfl,t_le:=htR,inF:=hS.pivot hpp.1 htR hj,sort:= ?_,lt:= ?_,zero:= ?_,piv:= ?_}⟩
  ·rw [List.pairwise_append]
   exact ⟨h.sort,List.pairwise_singleton _ _,fun x hxP y hy=>by rw [List.mem_singleton] at hy;have:=h.lt x hxP;omega⟩
  ·intro x hx
   rcases List.mem_append.1 hx with hx|hx
   ·have:=h.lt x hx;omega
   ·rw [List.mem_singleton] at hx;omega
  ·intro i hi hiR c' hc'
   have hi':st.t+1≤i:=hi
   show vN p R st.t j S i c'=0
   rcases Nat.lt_or_ge c' j with h5|h5
   ·rw [hlow i c' hiR h5,if_neg (by omega)];exact hz i (by omega) hiR c' h5
   ·obtain rfl:c'=j:=by omega
    rw [yF _ _ _ _ _ _ _ hiR,if_neg (by omega),hone,Int.mul_one,show S i c'+(p - S i c')=p by omega]
    exact YZ p hpp.1
  ·intro i hi
   rw [List.length_append,List.length_singleton] at hi
   by_cases c3:i<P.length
   ·rw [List.getElem_append_left c3]
    have hit:i<st.t:=by have:=h.len;omega
    have hlt:=h.lt P[i] (List.getElem_mem c3)
    refine ⟨?_,fun c' hc'=> ?_⟩
    ·show vN p R st.t j S i P[i]≠0
     rw [hlow i _ (by omega) hlt,if_neg (by omega),hrow i _ hit];exact (h.piv i c3).1
    ·show vN p R st.t j S i c'=0
     rw [hlow i _ (by omega) (by omega),if_neg (by omega),hrow i _ hit];exact (h.piv i c3).2 c' hc'
   ·obtain rfl:i=P.length:=by omega
    rw [List.getElem_append_right (Nat.le_refl _)]
    simp only [Nat.sub_self,List.getElem_singleton]
    have hl:=h.len
    refine ⟨?_,fun c' hc'=> ?_⟩
    ·show vN p R st.t j S P.length j≠0
     rw [hl,yF _ _ _ _ _ _ _ htR,if_pos rfl,hone];decide
    ·show vN p R st.t j S P.length c'=0
     rw [hl,hlow _ _ htR hc',if_pos rfl]
 ·have he:z6 p R st j=st:=by unfold z6;rw [if_neg c]
  rw [he]
  have hz: ∀i,st.t≤i→i<R→ ∀c',c'<j+1→st.M i c'=0:=fun i hi hiR c' hc'=>by
   rcases Nat.lt_or_ge c' j with h5|h5
   ·exact h.zero i hi hiR c' h5
   ·obtain rfl:c'=j:=by omega
    exact f4 i hi (by omega)
  have hl: ∀x∈P,x<j+1:=fun x hx=>by have:=h.lt x hx;omega
  exact ⟨P,{h with lt:=hl,zero:=hz}⟩
theorem RI.run (hp:jr p){M:Tab}(hM:InF p R C M): ∀m,m≤C→ ∃P,RI p R C m ((List.range m).foldl (z6 p R) ⟨0,M,[]⟩) P
 |0,_=>⟨[],{ps:=rfl,len:=rfl,t_le:=Nat.zero_le _,inF:=hM,sort:=List.Pairwise.nil,lt:=fun x hx=>(by cases hx),zero:=fun i _ _ c hc=>absurd hc (Nat.not_lt_zero c),piv:=fun i hi=>(by cases hi)}⟩
 |m+1,hm=>by
  obtain ⟨P,h⟩:=RI.run hp hM m (by omega)
  rw [List.range_succ,List.foldl_append]
  exact h.step hp (by omega)
end
def vw (p:Int)(C:Nat)(P:List Nat)(M:Tab)(j:Nat):List Int:=(List.range P.length).foldl (fun row i=>row.set (P.getD i 0) (Int.tmod (p - M i j) p)) ((List.replicate C (0:Int)).set j 1)
def yU (p:Int)(C:Nat)(P:List Nat)(M:Tab)(m:Nat):List Int:=(List.range m).foldl (fun x j=>if j∈P then x else x++vw p C P M j) []
def yw (P:List Nat)(m:Nat):Nat:=(List.range m).foldl (fun n j=>if j∈P then n else n+1) 0
theorem Qn (p:Int)(C:Nat)(P:List Nat)(M:Tab)(j:Nat):(vw p C P M j).length=C:=by
 unfold vw
 have: ∀(l:List Nat) (r:List Int),(l.foldl (fun row i=>row.set (P.getD i 0) (Int.tmod (p - M i j) p)) r).length=r.length:=fun l=>by
  induction l with
  |nil=>intro r;rfl
  |cons i l ih=>intro r;rw [List.foldl_cons,ih,List.length_set]
 rw [this,List.length_set,List.length_replicate]
theorem Qh (P:List Nat)(m:Nat):yw P (m+1)=if m∈P then yw P m else yw P m+1:=by unfold yw;rw [List.range_succ,List.foldl_append];rfl
theorem Zk (p:Int)(C:Nat)(P:List Nat)(M:Tab)(m:Nat):yU p C P M (m+1)=if m∈P then yU p C P M m else yU p C P M m++vw p C P M m:=by unfold yU;rw [List.range_succ,List.foldl_append];rfl
theorem ZE (p:Int)(C:Nat)(P:List Nat)(M:Tab): ∀m,(yU p C P M m).length=yw P m*C
 |0=>by simp [yU,yw]
 |m+1=>by
  rw [Zk,Qh]
  split
  ·exact ZE p C P M m
  ·rw [List.length_append,Qn,ZE p C P M m,Nat.succ_mul]
theorem VC (P:List Nat): ∀m,yw P m≤m
 |0=>Nat.le_refl _
 |m+1=>by rw [Qh];have:=VC P m;split<;>omega
theorem zc2 (m:Nat): ∀P:List Nat,P.Nodup→(P.filter fun x=>decide (x<m+1)).length=(P.filter fun x=>decide (x<m)).length+if m∈P then 1 else 0
 | [],_=>by simp
 |x::P,h=>by
  obtain ⟨hx,hP⟩:=List.nodup_cons.1 h
  have ih:=zc2 m P hP
  by_cases c1:x=m
  ·subst c1
   rw [if_neg hx] at ih
   simp [List.filter_cons,ih]
  ·by_cases c2:x<m
   ·simp only [List.filter_cons,show x<m+1 by omega,c2,decide_true,if_true,List.length_cons,ih,List.mem_cons,Ne.symm c1,false_or]
    omega
   ·simp only [List.filter_cons,show ¬x<m+1 by omega,c2,decide_false,Bool.false_eq_true,if_false,ih,List.mem_cons,Ne.symm c1,false_or]
theorem Vk {P:List Nat}(hP:P.Nodup): ∀m,yw P m+(P.filter fun x=>decide (x<m)).length=m
 |0=>by simp [yw]
 |m+1=>by
  rw [Qh,zc2 m P hP]
  have:=Vk hP m
  split<;>omega
theorem Jg {P:List Nat}{C:Nat}(hs:P.Pairwise (· < ·))(hlt: ∀x∈P,x<C):yw P C+P.length=C:=by
 have h:=Vk (hs.imp (fun h=>Nat.ne_of_lt h)) C
 rwa [List.filter_eq_self.2 (fun x hx=>decide_eq_true (hlt x hx))] at h
end L
end
section
namespace L
open Mt
section
variable {p:Int} {R C j:Nat} {st:Red} {P:List Nat}
def Un (R:Nat)(st:Red)(P:List Nat):Prop:= ∀i (h:i<P.length),∀k,k<R→st.M k P[i]=if k=i then 1 else 0
theorem Q7: ∀ {a b:List Nat},ints a=ints b→a=b
 | [],[],_=>rfl
 | [],_::_,h=>by simp [ints] at h
 |_::_,[],h=>by simp [ints] at h
 |x::a,y::b,h=>by
  simp only [ints,List.map_cons,List.cons.injEq] at h
  rw [show x=y by omega,Q7 (a:=a) (b:=b) h.2]
theorem Un.step (hp:jr p)(h:RI p R C j st P)(hu:Un R st P)(hj:j<C): ∃P',RI p R C (j+1) (z6 p R st j) P'∧Un R (z6 p R st j) P':=by
 have hpp:=hp.pos
 obtain ⟨P',h'⟩:=h.step hp hj
 refine ⟨P',h',?_⟩
 obtain ⟨f1,f2,f3,f4⟩:=vv st.M R j (R - st.t) st.t (by have:=h.t_le;omega)
 by_cases c:qi st.M R st.t j<R
 ·have he:z6 p R st j=⟨st.t+1,vN p R st.t j (qv (jA st.t (qi st.M R st.t j)) st.M),st.ps++[(j:Int)]⟩:=by unfold z6;rw [if_pos c]
  rw [he] at h' ⊢
  have hP':P'=P++[j]:=Q7 (by rw [←h'.ps];show st.ps++[(j:Int)]=_;rw [h.ps];simp [ints])
  subst hP'
  clear he h'
  generalize qi st.M R st.t j=b at c f1 f3
  have htR:st.t<R:=by omega
  have hS:InF p R C (qv (jA st.t b) st.M):=h.inF.swap htR c
  have hrow: ∀i c',i<st.t→qv (jA st.t b) st.M i c'=st.M i c':=fun i c' hi=>by rw [yf,if_neg (by omega),if_neg (by omega)]
  have hz: ∀i,st.t≤i→i<R→ ∀c',c'<j→qv (jA st.t b) st.M i c'=0:=fun i hi hiR c' hc'=>by
   rw [yf]
   split
   ·exact h.zero _ (Nat.le_refl _) htR c' hc'
   ·split
    ·exact h.zero _ (by omega) c c' hc'
    ·exact h.zero _ hi hiR c' hc'
  have hx:qv (jA st.t b) st.M st.t j≠0:=by
   rw [yf]
   by_cases c2:st.t=b
   ·rw [if_pos c2];subst c2;exact f3 c
   ·rw [if_neg c2,if_pos rfl];exact f3 c
  have hxx:=hS st.t j htR hj
  generalize qv (jA st.t b) st.M=S at hS hrow hz hx hxx
  have hone:Int.tmod (S st.t j*yB p (S st.t j)) p=1:=tmod_one hpp.1 (Int.mul_nonneg hxx.1 (Zn _ _)) (zab hp (by omega) hxx.2)
  have hlow: ∀i c',i<R→c'<j→vN p R st.t j S i c'=if i=st.t then 0 else S i c':=fun i c' hi hc'=>by
   rw [yF _ _ _ _ _ _ _ hi,hz st.t (Nat.le_refl _) htR c' hc',Int.zero_mul,Int.zero_tmod]
   split
   ·rfl
   ·have hb:=hS i c' hi (by omega)
    rw [Int.mul_zero,Int.add_zero,JV hb.1 hb.2]
  intro i hi k hk
  rw [List.length_append,List.length_singleton] at hi
  have hl:=h.len
  by_cases c3:i<P.length
  ·rw [List.getElem_append_left c3]
   have hlt:=h.lt P[i] (List.getElem_mem c3)
   show vN p R st.t j S k P[i]=_
   rw [hlow k _ hk hlt]
   by_cases c4:k=st.t
   ·rw [if_pos c4,if_neg (by omega)]
   ·rw [if_neg c4]
    by_cases c5:k<st.t
    ·rw [hrow k _ c5,hu i c3 k hk]
    ·rw [hz k (by omega) hk _ hlt,if_neg (by omega)]
  ·obtain rfl:i=P.length:=by omega
   rw [List.getElem_append_right (Nat.le_refl _)]
   simp only [Nat.sub_self,List.getElem_singleton]
   show vN p R st.t j S k j=_
   rw [hl,yF _ _ _ _ _ _ _ hk,hone]
   by_cases c4:k=st.t
   ·rw [if_pos c4,if_pos c4]
   ·rw [if_neg c4,if_neg c4,Int.mul_one,show S k j+(p - S k j)=p by omega]
    exact YZ p hpp.1
 ·have he:z6 p R st j=st:=by unfold z6;rw [if_neg c]
  rw [he] at h' ⊢
  have hP':P'=P:=Q7 (by rw [←h'.ps,h.ps])
  subst hP'
  exact hu
theorem Un.run (hp:jr p){M:Tab}(hM:InF p R C M): ∀m,m≤C→ ∃P,RI p R C m ((List.range m).foldl (z6 p R) ⟨0,M,[]⟩) P∧Un R ((List.range m).foldl (z6 p R) ⟨0,M,[]⟩) P
 |0,_=>by
  obtain ⟨P,h⟩:=RI.run (R:=R) hp hM 0 (Nat.zero_le _)
  have:P=[]:=Q7 (by rw [←h.ps];rfl)
  subst this
  exact ⟨[],h,fun i hi=>absurd hi (Nat.not_lt_zero i)⟩
 |m+1,hm=>by
  obtain ⟨P,h,hu⟩:=Un.run hp hM m (by omega)
  rw [List.range_succ,List.foldl_append]
  exact Un.step hp h hu (by omega)
def low (P:List Nat)(m:Nat):Nat:=(P.filter fun x=>decide (x<m)).length
theorem zgj (P:List Nat)(m:Nat):low P m≤P.length:=List.length_filter_le _ _
theorem zc1 {P:List Nat}(hs:P.Pairwise (· < ·)){m:Nat}: ∀ {i:Nat} (h:i<P.length),(P[i]<m↔i<low P m):=by
 induction P with
 |nil=>intro i h;exact absurd h (Nat.not_lt_zero i)
 |cons x P ih=>
  rw [List.pairwise_cons] at hs
  intro i h
  by_cases c:x<m
  ·have e:low (x::P) m=low P m+1:=by unfold low;rw [List.filter_cons,if_pos (by simpa using c)];rfl
   rw [e]
   match i,h with
   |0,_=>simp;exact c
   |i+1,h=>
    have:=ih hs.2 (i:=i) (by simpa using h)
    simp only [List.getElem_cons_succ]
    rw [this];omega
  ·have e:low (x::P) m=0:=by
    unfold low
    rw [List.length_eq_zero_iff,List.filter_eq_nil_iff]
    intro y hy
    rcases List.mem_cons.1 hy with rfl|hy
    ·simpa using c
    ·have:=hs.1 y hy;simp;omega
   rw [e]
   match i,h with
   |0,_=>simp;omega
   |i+1,h=>
    have h':i<P.length:=by simpa using h
    have:=hs.1 _ (List.getElem_mem h')
    simp only [List.getElem_cons_succ]
    omega
theorem zbM {P:List Nat}(hs:P.Pairwise (· < ·))(m:Nat):low P (m+1)=low P m+if m∈P then 1 else 0:=zc2 m P (hs.imp (fun h=>Nat.ne_of_lt h))
theorem zgB {p:Int}(hp:2≤p):yB p 1=1:=by
 unfold yB
 rw [show (1:Int).toNat=1 from rfl,Nat.one_pow,Nat.mod_eq_of_lt (by omega)];rfl
theorem zau (hp:jr p){R':Nat}(h:RI p R C C st P)(hu:Un R st P){X:Tab}(hX: ∀i c,i<st.t→c<C→X i c=st.M i c):
  ∀m,m≤C→ ∃Y,(∀i c,i<st.t→c<C→Y i c=st.M i c)∧((List.range m).foldl (z6 p st.t) ⟨0,X,[]⟩).M=Y∧((List.range m).foldl (z6 p st.t) ⟨0,X,[]⟩).t=low P m
 |0,_=>⟨X,hX,rfl,by unfold low;rw [List.filter_eq_nil_iff.2 (by simp)];rfl⟩
 |m+1,hm=>by
  have hpp:=hp.pos
  obtain ⟨Y,hY,h1,h2⟩:=zau hp (R':=R') h hu hX m (by omega)
  rw [List.range_succ,List.foldl_append]
  simp only [List.foldl_cons,List.foldl_nil]
  generalize (List.range m).foldl (z6 p st.t) ⟨0,X,[]⟩=s at h1 h2
  subst h1
  rw [zbM h.sort]
  have hl:=h.len
  have htR:=h.t_le
  by_cases c:m∈P
  ·rw [if_pos c]
   obtain ⟨i,hi,hPi⟩:=List.getElem_of_mem c
   have hil:i=low P m:=by
    have a1:=zc1 h.sort (m:=m) hi
    have a2:=zc1 h.sort (m:=m+1) hi
    rw [zbM h.sort,if_pos c] at a2
    rw [hPi] at a1 a2
    omega
   have hst:s.t<st.t:=by omega
   have hone:s.M s.t m=1:=by
    rw [hY s.t m hst (by omega)]
    have:=hu i hi i (by omega)
    rw [if_pos rfl,hPi] at this
    rw [h2,←hil];exact this
   have hf:qi s.M st.t s.t m=s.t:=by rw [Qc hst,if_neg (by omega)]
   have he:z6 p st.t s m=⟨s.t+1,vN p st.t s.t m (qv (jA s.t s.t) s.M),s.ps++[(m:Int)]⟩:=by unfold z6;rw [hf,if_pos hst]
   have hsw:qv (jA s.t s.t) s.M=s.M:=by
    funext a b;rw [yf]
    split
    ·rename_i e;rw [e]
    ·rfl
   rw [he,hsw]
   refine ⟨_,fun a b ha hb=> ?_,rfl,by show s.t+1=_;rw [h2]⟩
   have hin:=h.inF s.t b (by omega) hb
   have hin2:=h.inF a b (by omega) hb
   show vN p st.t s.t m s.M a b=st.M a b
   rw [yF _ _ _ _ _ _ _ ha,hone,zgB hpp.1,Int.mul_one,hY s.t b hst hb,JV hin.1 hin.2]
   by_cases c2:a=s.t
   ·rw [if_pos c2,c2]
   ·rw [if_neg c2]
    have hz:s.M a m=0:=by
     rw [hY a m ha (by omega)]
     have:=hu i hi a (by omega)
     rw [hPi] at this
     rw [this,if_neg (by omega)]
    rw [hz,Int.sub_zero,hY a b ha hb,Int.tmod_eq_emod_of_nonneg (Int.add_nonneg hin2.1 (Int.mul_nonneg (by omega) hin.1)),Int.add_mul_emod_self_left]
    exact Int.emod_eq_of_lt hin2.1 hin2.2
  ·rw [if_neg c,Nat.add_zero]
   have hf: ¬qi s.M st.t s.t m<st.t:=by
    intro hlt
    have hle:=zgj P m
    obtain ⟨f1,f2,f3,f4⟩:=vv s.M st.t m (st.t - s.t) s.t (by omega)
    have h3:=f3 hlt
    generalize qi s.M st.t s.t m=b at hlt f1 h3
    have hbP:b<P.length:=by omega
    have hnl: ¬P[b]<m:=fun hh=>by have:=(zc1 h.sort hbP).1 hh;omega
    have hne:P[b]≠m:=fun hh=>c (hh ▸List.getElem_mem hbP)
    exact h3 (by rw [hY b m hlt (by omega)];exact (h.piv b hbP).2 m (by omega))
   have he:z6 p st.t s m=s:=by unfold z6;rw [if_neg hf]
   rw [he]
   exact ⟨_,hY,rfl,h2⟩
theorem zfU (h:RI p R C C st P):low P C=st.t:=by
 unfold low
 rw [List.filter_eq_self.2 fun x hx=>decide_eq_true (h.lt x hx),h.len]
theorem zeP (h:RI p R C C st P){X:Tab}(hX: ∀i c,i<st.t→c<C→X i c=st.M i c)(v:Nat→Int):Ker p C R st.M v↔Ker p C st.t X v:=by
 have htR:=h.t_le
 have e: ∀i,i<st.t→dot C (X i) v=dot C (st.M i) v:=fun i hi=>jn fun j hj=>hX i j hi hj
 constructor
 ·intro k i hi;rw [e i hi];exact k i (by omega)
 ·intro k i hi
  by_cases c:i<st.t
  ·rw [←e i c];exact k i c
  ·rw [jn (u':=fun _=>0) fun j hj=>h.zero i (by omega) hi j hj]
   have hz: ∀l:List Nat,(l.map fun j=>(0:Int)*v j).sum=0:=fun l=>by
    induction l with
    |nil=>rfl
    |cons x l ih=>rw [List.map_cons,List.sum_cons,ih,Int.zero_mul];rfl
   have:dot C (fun _=>0) v=0:=hz _
   rw [this];exact Int.dvd_zero p
end
end L
end
section
namespace L
open Mt
theorem Ve (P:List Nat)(v:Nat→Int){c:Nat}: ∀(is:List Nat) (row:List Int),(∀i∈is,P.getD i 0≠c)→(is.foldl (fun row i=>row.set (P.getD i 0) (v i)) row).getD c 0=row.getD c 0
 | [],_,_=>rfl
 |i::is,row,h=>by
  rw [List.foldl_cons,Ve P v is _ fun k hk=>h k (List.mem_cons_of_mem _ hk)]
  have hne:=h i List.mem_cons_self
  generalize P.getD i 0=q at hne ⊢
  rw [List.getD_eq_getElem?_getD,List.getD_eq_getElem?_getD,List.getElem?_set_ne hne]
theorem za2 (P:List Nat)(v:Nat→Int){i:Nat}: ∀(is:List Nat) (row:List Int),i∈is→(∀k∈is,k≠i→P.getD k 0≠P.getD i 0)→P.getD i 0<row.length→(is.foldl (fun row i=>row.set (P.getD i 0) (v i)) row).getD (P.getD i 0) 0=v i
 | [],_,h,_,_=>by cases h
 |a::is,row,h,hk,hl=>by
  rw [List.foldl_cons]
  by_cases hm:i∈is
  ·exact za2 P v is _ hm (fun k h1 h2=>hk k (List.mem_cons_of_mem _ h1) h2) (by rw [List.length_set];exact hl)
  ·obtain rfl:i=a:=(List.mem_cons.1 h).resolve_right hm
   rw [Ve P v is _ fun k h1=>hk k (List.mem_cons_of_mem _ h1) (fun e=>hm (e ▸h1))]
   generalize P.getD i 0=q at hl ⊢
   rw [List.getD_eq_getElem?_getD,List.getElem?_set_self hl];rfl
theorem Zv {P:List Nat}{k:Nat}(h:k<P.length):P.getD k 0=P[k]:=by simp [List.getD_eq_getElem?_getD,h]
theorem YX {P:List Nat}(hs:P.Pairwise (· < ·)){i k:Nat}(hi:i<P.length)(hk:k<P.length)(hne:k≠i):P[k]≠P[i]:=by
 have h:=List.pairwise_iff_getElem.1 hs
 rcases Nat.lt_or_gt_of_ne hne with c|c
 ·have:=h k i hk hi c;omega
 ·have:=h i k hi hk c;omega
def JZ (p:Int)(C:Nat)(P:List Nat)(M:Tab)(j c:Nat):Int:=(vw p C P M j).getD c 0
section
variable {p:Int} {R C:Nat} {st:Red} {P:List Nat}
theorem zeN (hs:P.Pairwise (· < ·))(hlt: ∀x∈P,x<C)(M:Tab)(j:Nat){i:Nat}(hi:i<P.length):JZ p C P M j P[i]=Int.tmod (p - M i j) p:=by
 have h:=za2 P (fun i=>Int.tmod (p - M i j) p) (i:=i) (List.range P.length) ((List.replicate C (0:Int)).set j 1) (List.mem_range.2 hi) (fun k hk hne=>by
  have hk:=List.mem_range.1 hk
  rw [Zv hk,Zv hi]
  exact YX hs hi hk hne) (by rw [Zv hi,List.length_set,List.length_replicate];exact hlt _ (List.getElem_mem hi))
 rw [Zv hi] at h
 exact h
theorem zco {c:Nat}(hc:c∉P)(M:Tab)(j:Nat):JZ p C P M j c=((List.replicate C (0:Int)).set j 1).getD c 0:=
 Ve P _ (List.range P.length) _ fun k hk=>by
  rw [Zv (List.mem_range.1 hk)]
  exact fun e=>hc (e ▸List.getElem_mem _)
theorem zbH {j:Nat}(hj:j<C)(hjP:j∉P)(M:Tab):JZ p C P M j j=1:=by
 rw [zco hjP,List.getD_eq_getElem?_getD,List.getElem?_set_self (by rw [List.length_replicate];exact hj)];rfl
theorem zaB {j c:Nat}(hc:c∉P)(hcj:j≠c)(M:Tab):JZ p C P M j c=0:=by
 rw [zco hc,List.getD_eq_getElem?_getD,List.getElem?_set_ne hcj,List.getElem?_replicate]
 split<;>rfl
theorem VU (p:Int)(C:Nat)(P:List Nat)(M:Tab): ∀m,(∀i,i<yw P m→ ∃j,j<m∧j∉P∧ ∀c,c<C→zW (yU p C P M m) C i c=JZ p C P M j c)∧(∀j,j<m→j∉P→ ∃i,i<yw P m∧ ∀c,c<C→zW (yU p C P M m) C i c=JZ p C P M j c)
 |0=>⟨fun i hi=>absurd hi (Nat.not_lt_zero i),fun j hj=>absurd hj (Nat.not_lt_zero j)⟩
 |m+1=>by
  obtain ⟨h1,h2⟩:=VU p C P M m
  rw [Qh,Zk]
  by_cases hm:m∈P
  ·rw [if_pos hm,if_pos hm]
   refine ⟨fun i hi=> ?_,fun j hj hjP=>h2 j ?_ hjP⟩
   ·obtain ⟨j,hj,r⟩:=h1 i hi;exact ⟨j,by omega,r⟩
   ·rcases Nat.lt_or_ge j m with h|h
    ·exact h
    ·obtain rfl:j=m:=by omega
     exact absurd hm hjP
  ·rw [if_neg hm,if_neg hm]
   have hl:=ZE p C P M m
   have old: ∀i c,i<yw P m→c<C→zW (yU p C P M m++vw p C P M m) C i c=zW (yU p C P M m) C i c:=fun i c hi hc=>by
    have:=vD hi hc
    unfold zW
    rw [List.getD_eq_getElem?_getD,List.getD_eq_getElem?_getD,List.getElem?_append_left (by omega)]
   have new: ∀c,c<C→zW (yU p C P M m++vw p C P M m) C (yw P m) c=JZ p C P M m c:=fun c hc=>by
    unfold zW JZ
    rw [List.getD_eq_getElem?_getD,List.getD_eq_getElem?_getD,List.getElem?_append_right (by omega),hl,Nat.add_sub_cancel_left]
   refine ⟨fun i hi=> ?_,fun j hj hjP=> ?_⟩
   ·rcases Nat.lt_or_ge i (yw P m) with h|h
    ·obtain ⟨j,hj,hjP,e⟩:=h1 i h
     exact ⟨j,by omega,hjP,fun c hc=>by rw [old i c h hc];exact e c hc⟩
    ·obtain rfl:i=yw P m:=by omega
     exact ⟨m,by omega,hm,new⟩
   ·rcases Nat.lt_or_ge j m with h|h
    ·obtain ⟨i,hi,e⟩:=h2 j h hjP
     exact ⟨i,by omega,fun c hc=>by rw [old i c hi hc];exact e c hc⟩
    ·obtain rfl:j=m:=by omega
     exact ⟨yw P j,by omega,new⟩
theorem Jf (hp:jr p)(h:RI p R C C st P)(hu:Un R st P){i j:Nat}(hi:i<R)(hj:j<C)(hjP:j∉P):p∣dot C (st.M i) (JZ p C P st.M j):=by
 have hl:=h.len
 by_cases c:i<st.t
 ·have hiP:i<P.length:=by omega
  have hlt:=h.lt P[i] (List.getElem_mem hiP)
  have hne:P[i]≠j:=fun e=>hjP (e ▸List.getElem_mem hiP)
  have h1:=zfs (p:=p) hlt hj hne (st.M i) (JZ p C P st.M j) fun c hc hc1 hc2=>by
   by_cases hcP:c∈P
   ·obtain ⟨k,hk,rfl⟩:=List.getElem_of_mem hcP
    have hki: ¬i=k:=fun e=>hc1 (by subst e;rfl)
    rw [hu k hk i hi,if_neg hki,Int.zero_mul];exact Int.dvd_zero p
   ·rw [zaB hcP (Ne.symm hc2),Int.mul_zero];exact Int.dvd_zero p
  rw [hu i hiP i hi,if_pos rfl,zeN h.sort h.lt st.M j hiP,zbH hj hjP,Int.one_mul,Int.mul_one] at h1
  have h2:=Int.dvd_add (Int.dvd_add h1 (Zy (p - st.M i j) p)) (Int.dvd_refl p)
  refine (show ∀x y:Int,x=y→p∣x→p∣y from fun x y e h=>e ▸h) _ _ ?_ h2
  omega
 ·refine Z2 _ _ fun c' hc'=> ?_
  show p∣st.M i c'*_
  rw [h.zero i (by omega) hi c' (List.mem_range.1 hc'),Int.zero_mul];exact Int.dvd_zero p
def Zf (p:Int)(C:Nat)(P:List Nat)(M:Tab)(v:Nat→Int):List Nat→Nat→Int
 | []=>v
 |x::l=>if x∈P then Zf p C P M v l else fun e=>Zf p C P M v l e+ -(v x)*JZ p C P M x e
theorem zcw (M:Tab)(v:Nat→Int){e:Nat}(he:e∉P): ∀l:List Nat,l.Nodup→(∀x∈l,x<C)→Zf p C P M v l e=if e∈l then 0 else v e
 | [],_,_=>by simp [Zf]
 |x::l,hn,hl=>by
  rw [List.nodup_cons] at hn
  have ih:=zcw M v he l hn.2 fun y hy=>hl y (List.mem_cons_of_mem _ hy)
  unfold Zf
  by_cases c:x∈P
  ·have hne:e≠x:=fun h=>he (h ▸c)
   rw [if_pos c,ih]
   simp [hne]
  ·rw [if_neg c]
   show Zf p C P M v l e+ -(v x)*JZ p C P M x e=_
   rw [ih]
   by_cases hex:e=x
   ·subst hex
    rw [zbH (hl e List.mem_cons_self) c,if_neg hn.1,if_pos List.mem_cons_self];omega
   ·rw [zaB he (Ne.symm hex)]
    simp [hex]
theorem zeB (hp:jr p)(hC:C≤8)(h:RI p R C C st P)(hu:Un R st P):Ann p C (Ker p C R st.M) (Ker p C (yw P C) (zW (yU p C P st.M C) C)):=by
 obtain ⟨r1,r2⟩:=VU p C P st.M C
 have hK: ∀u,Ker p C (yw P C) (zW (yU p C P st.M C) C) u↔ ∀j,j<C→j∉P→p∣dot C (JZ p C P st.M j) u:=fun u=>by
  constructor
  ·intro k j hj hjP
   obtain ⟨i,hi,e⟩:=r2 j hj hjP
   have:=k i hi
   rwa [jn e] at this
  ·intro k i hi
   obtain ⟨j,hj,hjP,e⟩:=r1 i hi
   rw [jn e]
   exact k j hj hjP
 have hS:=QO (R:=R) hp hC st.M
 refine ⟨hS,QO hp hC _,fun v u hv hu'=> ?_,fun u hu'=>(hK u).2 fun j hj hjP=> ?_,fun v hv i hi=>hv (st.M i) ((hK _).2 fun j hj hjP=> ?_)⟩
 ·rw [hK] at hu'
  have key: ∀l:List Nat,(∀x∈l,x<C)→Ker p C R st.M (Zf p C P st.M v l)∧p∣dot C u (Zf p C P st.M v l) - dot C u v:=by
   intro l
   induction l with
   |nil=>intro _;exact ⟨hv,by rw [Zf,Int.sub_self];exact Int.dvd_zero p⟩
   |cons x l ih=>
    intro hl
    obtain ⟨i1,i2⟩:=ih fun y hy=>hl y (List.mem_cons_of_mem _ hy)
    unfold Zf
    by_cases c:x∈P
    ·rw [if_pos c];exact ⟨i1,i2⟩
    ·rw [if_neg c]
     have hx:=hl x List.mem_cons_self
     refine ⟨hS.add _ _ _ i1 fun i hi=>Jf hp h hu hi hx c,?_⟩
     rw [yu]
     have h3:=hu' x hx c
     rw [yq] at h3
     have h4:=Int.dvd_add i2 (Int.dvd_mul_of_dvd_right (b:= -(v x)) h3)
     refine (show ∀x y:Int,x=y→p∣x→p∣y from fun x y e h=>e ▸h) _ _ ?_ h4
     omega
  obtain ⟨k1,k2⟩:=key (List.range C) fun x hx=>List.mem_range.1 hx
  have hz: ∀e,e<C→e∉P→Zf p C P st.M v (List.range C) e=0:=fun e he heP=>by
   rw [zcw st.M v heP _ List.nodup_range fun x hx=>List.mem_range.1 hx,if_pos (List.mem_range.2 he)]
  generalize Zf p C P st.M v (List.range C)=g at k1 k2 hz
  have hall: ∀e,e<C→p∣g e:=fun e he=>by
   by_cases heP:e∈P
   ·obtain ⟨i,hi,rfl⟩:=List.getElem_of_mem heP
    have hiR:i<R:=by have:=h.len;have:=h.t_le;omega
    have h1:=k1 i hiR
    have h2:=Vd (p:=p) he (st.M i) g fun c hc hne=>by
     by_cases hcP:c∈P
     ·obtain ⟨k,hk,rfl⟩:=List.getElem_of_mem hcP
      have hki: ¬i=k:=fun e=>hne (by subst e;rfl)
      rw [hu k hk i hiR,if_neg hki,Int.zero_mul];exact Int.dvd_zero p
     ·rw [hz c hc hcP,Int.mul_zero];exact Int.dvd_zero p
    rw [hu i hi i hiR,if_pos rfl,Int.one_mul] at h2
    have h3:=Int.dvd_sub h1 h2
    rwa [show ∀a b:Int,a - (a - b)=b from by intros;omega] at h3
   ·rw [hz e he heP];exact Int.dvd_zero p
  have h5:p∣dot C u g:=Z2 _ _ fun c hc=>Int.dvd_mul_of_dvd_right (hall c (List.mem_range.1 hc))
  have h6:=Int.dvd_sub h5 k2
  rwa [show ∀a b:Int,a - (a - b)=b from by intros;omega] at h6
 ·rw [yq];exact hu' _ fun i hi=>Jf hp h hu hi hj hjP
 ·rw [yq];exact Jf hp h hu hi hj hjP
end
end L
end
section
namespace L
open Go.RowKit F Wa Wb Wc
open Bits
def isField (p:Int):Bool:=decide (p=2∨p=3∨p=5∨p=7)
theorem zdV (p:Int):jC.f p=some (isField p):=by
 unfold jC.f isField
 by_cases h2:p=2
 ·simp [h2]
 by_cases h3:p=3
 ·simp [h3]
 by_cases h5:p=5
 ·simp [h5]
 rw [if_neg h2,if_neg h3,if_neg h5]
 simp only [h2,h3,h5,false_or]
 rfl
theorem zdY (p:Int):qJ.f p=some (isField p):=by
 unfold qJ.f isField
 by_cases h2:p=2
 ·simp [h2]
 by_cases h3:p=3
 ·simp [h3]
 by_cases h5:p=5
 ·simp [h5]
 rw [if_neg h2,if_neg h3,if_neg h5]
 simp only [h2,h3,h5,false_or]
 rfl
def qI (p r c:Int)(l:List Int):Bool:=
 isField p&&decide (0≤r∧r≤8∧0≤c∧c≤8∧(l.length:Int)=r*c)&&l.all fun x=>decide (0≤x∧x<p)
theorem yt {p r c:Int}{l:List Int}(h: ¬(isField p=true∧0≤r∧r≤8∧0≤c∧c≤8∧(l.length:Int)=r*c)):qI p r c l=false:=by
 unfold qI
 cases hp:isField p
 ·simp
 ·have: ¬(0≤r∧r≤8∧0≤c∧c≤8∧(l.length:Int)=r*c):=fun hh=>h ⟨hp,hh⟩
  simp only [this,decide_false,Bool.and_false,Bool.false_and]
theorem Jq {r c:Int}(hr:0≤r∧r≤8)(hc:0≤c∧c≤8):0≤r*c∧r*c≤64:=
 ⟨Int.mul_nonneg hr.1 hc.1,by have:=Int.mul_le_mul hr.2 hc.2 hc.1 (by omega:(0:Int)≤8);omega⟩
theorem ZB {p r c:Int}{l:List Int}(h:isField p=true∧0≤r∧r≤8∧0≤c∧c≤8∧(l.length:Int)=r*c):qI p r c l=l.all fun x=>decide (0≤x∧x<p):=by
 unfold qI;simp only [h.1,h.2,and_self,decide_true,Bool.and_self,Bool.true_and]
theorem j5 {p:Int}(h:isField p=true):2≤p∧p≤7:=by
 have:p=2∨p=3∨p=5∨p=7:=of_decide_eq_true h
 omega
theorem ZF (p r c:Int)(l:List Int):Ev (fun k=>zx.f k p r c l) (qI p r c l):=by
 have no: ∀p r c l,Ev (fun k=>zx.j0 k true p r c l) false:=fun p r c l=>Ev.succ (by simp only [zx.j0,if_true];exact Ev.now _)
 unfold zx.f
 simp only [zcQ,zdY,Option.bind_some,decide_eq_true_eq]
 by_cases hp:isField p=true
 ·simp only [hp,if_true]
  by_cases hr:0≤r∧r≤8
  ·simp only [hr,and_self,if_true]
   by_cases hc:0≤c∧c≤8
   ·simp only [hc,and_self,if_true]
    have hm:=Jq hr hc
    have hw:wrap64 (r*c)=r*c:=qQ (by omega) (by omega)
    rw [hw]
    by_cases he:(l.length:Int)=r*c
    ·rw [show ((l.length:Int) != r*c)=false by simp [he],ZB ⟨hp,hr.1,hr.2,hc.1,hc.2,he⟩]
     have hp2:=j5 hp
     refine Ev.succ ?_
     simp only [zx.j0,Bool.false_eq_true,if_false]
     rw [←QD l 0]
     refine Zm (fun k i=>zx.l0 k i p r c l) _ _ (fun k=>by simp only [zx.l0,show ¬((l.length:Int)< (l.length:Int)) by omega,if_false]) ?_
     intro i hi k
     have hw:wrap64 (p - 1)=p - 1:=qQ (by omega) (by omega)
     simp only [zx.l0,show ((i:Int)< (l.length:Int)) by omega,show (0:Int)≤(i:Int) by omega,if_true,qL,zy (show i<9223372036854775807 by omega),zcQ,hw,Option.bind_some,decide_eq_true_eq]
     generalize l.getD i 0=x
     by_cases h1:0≤x∧x≤p - 1
     ·rw [if_pos h1,if_pos (by omega)]
     ·rw [if_neg h1,if_neg (by omega)]
    ·rw [show ((l.length:Int) != r*c)=true by simp [he],yt (fun hh=>he hh.2.2.2.2.2)];exact no _ _ _ _
   ·simp only [hc,if_false];rw [yt (fun hh=>hc ⟨hh.2.2.2.1,hh.2.2.2.2.1⟩)];exact no _ _ _ _
  ·simp only [hr,if_false];rw [yt (fun hh=>hr ⟨hh.2.1,hh.2.2.1⟩)];exact no _ _ _ _
 ·simp only [hp,if_false];rw [yt (fun hh=>hp hh.1)];exact no _ _ _ _
theorem yV (p r c:Int)(l:List Int):Ev (fun k=>zK.f k p r c l) (qI p r c l):=by
 have no: ∀p r c l,Ev (fun k=>zK.j0 k true p r c l) false:=fun p r c l=>Ev.succ (by simp only [zK.j0,if_true];exact Ev.now _)
 unfold zK.f
 simp only [Vl,zdV,Option.bind_some,decide_eq_true_eq]
 by_cases hp:isField p=true
 ·simp only [hp,if_true]
  by_cases hr:0≤r∧r≤8
  ·simp only [hr,and_self,if_true]
   by_cases hc:0≤c∧c≤8
   ·simp only [hc,and_self,if_true]
    have hm:=Jq hr hc
    have hw:wrap64 (r*c)=r*c:=qQ (by omega) (by omega)
    rw [hw]
    by_cases he:(l.length:Int)=r*c
    ·rw [show ((l.length:Int) != r*c)=false by simp [he],ZB ⟨hp,hr.1,hr.2,hc.1,hc.2,he⟩]
     refine Ev.succ ?_
     simp only [zK.j0,Bool.false_eq_true,if_false]
     rw [←QD l 0]
     refine Zm (fun k i=>zK.l0 k l (l.length:Int) i p r c l) _ _ (fun k=>by simp only [zK.l0,show ¬((l.length:Int)< (l.length:Int)) by omega,if_false]) ?_
     intro i hi k
     simp only [zK.l0,show ((i:Int)< (l.length:Int)) by omega,show (0:Int)≤(i:Int) by omega,if_true,qL,zy (show i<9223372036854775807 by omega),decide_eq_true_eq]
     generalize l.getD i 0=x
     by_cases h1:x<0
     ·rw [if_pos h1,if_neg (by omega)]
     rw [if_neg h1]
     by_cases h2:x≥p
     ·rw [if_pos h2,if_neg (by omega)]
     rw [if_neg h2,if_pos (by omega)]
    ·rw [show ((l.length:Int) != r*c)=true by simp [he],yt (fun hh=>he hh.2.2.2.2.2)];exact no _ _ _ _
   ·simp only [hc,if_false];rw [yt (fun hh=>hc ⟨hh.2.2.2.1,hh.2.2.2.2.1⟩)];exact no _ _ _ _
  ·simp only [hr,if_false];rw [yt (fun hh=>hr ⟨hh.2.1,hh.2.2.1⟩)];exact no _ _ _ _
 ·simp only [hp,if_false];rw [yt (fun hh=>hp hh.1)];exact no _ _ _ _
end L
end
section
namespace L
open Go.RowKit F Wa Wb Wc
open Bits
theorem jL {p r c:Int}{l:List Int}(h:qI p r c l=true): ∃R C:Nat,r=R∧c=C∧R≤8∧C≤8∧l.length=R*C∧2≤p∧p≤7∧isField p=true∧ ∀x∈l,0≤x∧x<p:=by
 unfold qI at h
 simp only [Bool.and_eq_true,decide_eq_true_eq] at h
 obtain ⟨⟨h1,h2,h3,h4,h5,h6⟩,h7⟩:=h
 obtain ⟨R,rfl⟩:=Int.eq_ofNat_of_zero_le h2
 obtain ⟨C,rfl⟩:=Int.eq_ofNat_of_zero_le h4
 have:=j5 h1
 refine ⟨R,C,rfl,rfl,by omega,by omega,?_,this.1,this.2,h1,fun x hx=> ?_⟩
 ·have:((l.length:Nat):Int)=((R*C:Nat):Int):=by rw [h6];simp
  omega
 ·have:=List.all_eq_true.1 h7 x hx;simpa using this
theorem Q1 {R C i j:Nat}{l:List Int}(hl:l.length=R*C)(hi:i<R)(hj:j<C):i*C+j<l.length:=by
 rw [hl];calc i*C+j<i*C+C:=by omega
  _=(i+1)*C:=by rw [Nat.succ_mul]
  _≤R*C:=Nat.mul_le_mul_right C hi
theorem qS {i C j:Nat}(hi:i≤8)(hC:C≤8)(hj:j≤8):wrap64 ((wrap64 ((i:Int)*(C:Int)))+(j:Int))=((i*C+j:Nat):Int):=by
 have h:i*C≤8*8:=Nat.mul_le_mul hi hC
 have e:(i:Int)*(C:Int)=((i*C:Nat):Int):=by simp
 rw [e,qQ (n:=((i*C:Nat):Int)) (by omega) (by omega),qQ (by omega) (by omega)];omega
theorem yr {l:List Int}{p:Int}(hp:2≤p)(h: ∀x∈l,0≤x∧x<p)(i:Nat):0≤l.getD i 0∧l.getD i 0<p:=by
 by_cases hi:i<l.length
 ·have:=h l[i] (List.getElem_mem hi);simpa [List.getElem?_eq_getElem hi] using this
 ·simp [List.getElem?_eq_none (Nat.le_of_not_lt hi)];omega
end L
end
section
namespace L
open Go.RowKit F Wa Wb Wc
open Bits
theorem zbF: ∀k:Nat,zN.f (k+20) 2 1=some 1∧zN.f (k+20) 3 1=some 1∧zN.f (k+20) 3 2=some 2∧zN.f (k+20) 5 1=some 1∧zN.f (k+20) 5 2=some 3∧zN.f (k+20) 5 3=some 2∧zN.f (k+20) 5 4=some 4∧zN.f (k+20) 7 1=some 1∧zN.f (k+20) 7 2=some 4∧zN.f (k+20) 7 3=some 5∧zN.f (k+20) 7 4=some 2∧zN.f (k+20) 7 5=some 3∧zN.f (k+20) 7 6=some 6:=
 fun k=>⟨by kernel_rfl,by kernel_rfl,by kernel_rfl,by kernel_rfl,by kernel_rfl,by kernel_rfl,by kernel_rfl,by kernel_rfl,by kernel_rfl,by kernel_rfl,by kernel_rfl,by kernel_rfl,by kernel_rfl⟩
theorem zhi {p a:Int}(hp:isField p=true)(ha:1≤a)(hap:a<p): ∀k,zN.f (k+20) p a=some (yB p a):=fun k=>by
 obtain ⟨h1,h2,h3,h4,h5,h6,h7,h8,h9,h10,h11,h12,h13⟩:=zbF k
 have hp:p=2∨p=3∨p=5∨p=7:=by simpa [isField] using hp
 rcases hp with rfl|rfl|rfl|rfl
 ·obtain rfl:a=1:=by omega
  exact h1
 ·rcases (show a=1∨a=2 by omega) with rfl|rfl<;>assumption
 ·rcases (show a=1∨a=2∨a=3∨a=4 by omega) with rfl|rfl|rfl|rfl<;>assumption
 ·rcases (show a=1∨a=2∨a=3∨a=4∨a=5∨a=6 by omega) with rfl|rfl|rfl|rfl|rfl|rfl<;>assumption
theorem zgb {p a:Int}(hp:isField p=true)(ha:1≤a)(hap:a<p):Ev (fun k=>zN.f k p a) (yB p a):=
 ⟨20,fun k hk=>by obtain ⟨m,rfl⟩:=Nat.exists_eq_add_of_le hk;rw [Nat.add_comm];exact zhi hp ha hap m⟩
theorem zcd: ∀k:Nat,zM.f (k+20) 2 1=some 1∧zM.f (k+20) 3 1=some 1∧zM.f (k+20) 3 2=some 2∧zM.f (k+20) 5 1=some 1∧zM.f (k+20) 5 2=some 3∧zM.f (k+20) 5 3=some 2∧zM.f (k+20) 5 4=some 4∧zM.f (k+20) 7 1=some 1∧zM.f (k+20) 7 2=some 4∧zM.f (k+20) 7 3=some 5∧zM.f (k+20) 7 4=some 2∧zM.f (k+20) 7 5=some 3∧zM.f (k+20) 7 6=some 6:=
 fun k=>⟨by kernel_rfl,by kernel_rfl,by kernel_rfl,by kernel_rfl,by kernel_rfl,by kernel_rfl,by kernel_rfl,by kernel_rfl,by kernel_rfl,by kernel_rfl,by kernel_rfl,by kernel_rfl,by kernel_rfl⟩
theorem zho {p a:Int}(hp:isField p=true)(ha:1≤a)(hap:a<p): ∀k,zM.f (k+20) p a=some (yB p a):=fun k=>by
 obtain ⟨h1,h2,h3,h4,h5,h6,h7,h8,h9,h10,h11,h12,h13⟩:=zcd k
 have hp:p=2∨p=3∨p=5∨p=7:=by simpa [isField] using hp
 rcases hp with rfl|rfl|rfl|rfl
 ·obtain rfl:a=1:=by omega
  exact h1
 ·rcases (show a=1∨a=2 by omega) with rfl|rfl<;>assumption
 ·rcases (show a=1∨a=2∨a=3∨a=4 by omega) with rfl|rfl|rfl|rfl<;>assumption
 ·rcases (show a=1∨a=2∨a=3∨a=4∨a=5∨a=6 by omega) with rfl|rfl|rfl|rfl|rfl|rfl<;>assumption
theorem zf9 {p a:Int}(hp:isField p=true)(ha:1≤a)(hap:a<p):Ev (fun k=>zM.f k p a) (yB p a):=
 ⟨20,fun k hk=>by obtain ⟨m,rfl⟩:=Nat.exists_eq_add_of_le hk;rw [Nat.add_comm];exact zho hp ha hap m⟩
theorem QH {x y:Int}(hx:0≤x∧x≤7)(hy:0≤y∧y≤7):0≤x*y∧x*y≤64:=Jq ⟨hx.1,by omega⟩ ⟨hy.1,by omega⟩
theorem wrap_mul {x y:Int}(hx:0≤x∧x≤7)(hy:0≤y∧y≤7):wrap64 (x*y)=x*y:=qQ (by have:=QH hx hy;omega) (by have:=QH hx hy;omega)
theorem VM {p g:Int}(hp:2≤p∧p≤7)(hg:0≤g∧g<p):wrap64 (p - g)=p - g:=qQ (by omega) (by omega)
theorem zaJ {x p g y:Int}(hp:2≤p∧p≤7)(hx:0≤x∧x<p)(hg:0≤g∧g<p)(hy:0≤y∧y<p):wrap64 (x+wrap64 (wrap64 (p - g)*y))=x+(p - g)*y:=by
 rw [VM hp hg,wrap_mul ⟨by omega,by omega⟩ ⟨hy.1,by omega⟩]
 have:=QH (x:=p - g) (y:=y) ⟨by omega,by omega⟩ ⟨hy.1,by omega⟩
 exact qQ (by omega) (by omega)
theorem zb7 (M:Tab)(a b j:Nat):upd (upd M a j (M b j)) b j (M a j)=vK (jA a b) M j:=by
 funext i c
 unfold upd vK jA
 by_cases h1:c=j
 ·subst h1
  by_cases h2:i=b
  ·subst h2;simp
  ·by_cases h3:i=a
   ·subst h3;simp [h2]
   ·simp [h2,h3]
 ·simp [h1]
theorem zaY (M:Tab)(p:Int)(r j:Nat)(x:Int):upd M r j (Int.tmod (M r j*x) p)=vK (y7 p r x) M j:=by
 funext i c
 unfold upd vK y7
 by_cases h1:c=j
 ·subst h1
  by_cases h2:i=r
  ·subst h2;simp
  ·simp [h2]
 ·simp [h1]
theorem zbV (M:Tab)(p:Int)(r i0 j:Nat)(g:Int):upd M i0 j (Int.tmod (M i0 j+(p - g)*M r j) p)=vK (Vq p r i0 g) M j:=by
 funext i c
 unfold upd vK Vq
 by_cases h1:c=j
 ·subst h1
  by_cases h2:i=i0
  ·subst h2;simp
  ·simp [h2]
 ·simp [h1]
theorem Z9 {p:Int}{R C:Nat}{F:(Nat→Int)→Nat→Int}(hF: ∀M:Tab,InF p R C M→InF p R C (qv F M)){M:Tab}(h:InF p R C M){j:Nat}(hj:j<C):InF p R C (vK F M j):=fun i c hi hc=>by
 unfold vK
 split
 ·exact hF M h i j hi hj
 ·exact h i c hi hc
def jP (p r c:Int)(l:List Int):Red:=ya p r.toNat c.toNat (zW l c.toNat)
theorem zaP {p:Int}{R C:Nat}{l:List Int}(hl:l.length=R*C)(hp:2≤p)(hx: ∀x∈l,0≤x∧x<p):VJ p R C ⟨0,zW l C,[]⟩:=
 ⟨Nat.zero_le _,fun i j _ _=>yr hp hx _,rfl⟩
section
variable {p:Int} {R C:Nat} (hR:R≤8) (hC:C≤8) (hf:isField p=true)
include hR hC
theorem zgq {a b:Nat}(ha:a<R)(hb:b<R)(M:Tab):Ev (fun k=>qj.f k p R C (z1 M R C) a b) (z1 (qv (jA a b) M) R C):=by
 unfold qj.f
 have key:=QT (fun k (M:Tab) j=>qj.l0 k a b j p R C (z1 M R C)) C (fun M j=>vK (jA a b) M j) (fun _ _=>True) (fun M=>z1 M R C)
  (fun M _=>by simp only [qj.l0,show ¬((C:Int)< (C:Int)) by omega,if_false];exact Ev.now _)
  (fun j M hj _=>⟨trivial,fun r hr=>by
   have h1:=vD ha hj
   have h2:=vD hb hj
   simp only [qj.l0,show ((j:Int)< (C:Int)) by omega,if_true,qS (show a≤8 by omega) hC (show j≤8 by omega),qS (show b≤8 by omega) hC (show j≤8 by omega),qp,Int.toNat_natCast,qL,q5 M ha hj,q5 M hb hj,
    show (0:Int)≤((a*C+j:Nat):Int) by omega,show ((a*C+j:Nat):Int)< ((R*C:Nat):Int) by omega,show (0:Int)≤((b*C+j:Nat):Int) by omega,show ((b*C+j:Nat):Int)< ((R*C:Nat):Int) by omega,zy (show j<9223372036854775807 by omega),Zj _ ha hj,Zj _ hb hj,zb7]
   exact hr⟩) M trivial
 rw [Zt] at key
 exact key
include hf
theorem zfO {t col:Nat}(ht:t<R)(hc:col<C){M:Tab}(hM:InF p R C M)(hx:M t col≠0):Ev (fun k=>zn.f k p R C (z1 M R C) t col) (z1 (vN p R t col M) R C):=by
 have hp:=j5 hf
 have h1:=vD ht hc
 have hv:=hM t col ht hc
 unfold zn.f
 simp only [qS (show t≤8 by omega) hC (show col≤8 by omega),qp,show (0:Int)≤((t*C+col:Nat):Int) by omega,show ((t*C+col:Nat):Int)< ((R*C:Nat):Int) by omega,if_true,qL,q5 M ht hc]
 refine Ev.bind (zgb hf (show 1≤M t col by omega) hv.2) ?_
 have hi0:=Zn p (M t col)
 have hi1:=zbB hp.1 (M t col)
 have l1:=qG (fun k (M':Tab) j=>zn.l0 k t col (yB p (M t col)) j p R C (z1 M' R C)) C (fun M' j=>vK (y7 p t (yB p (M t col))) M' j) (fun _ M'=>InF p R C M')
  (fun j M' hj hM'=>⟨Z9 (fun N hN=>hN.scale hp.1 ht hi0) hM' hj,fun r hr=>by
   have h2:=vD ht hj
   have hb:=hM' t j ht hj
   simp only [zn.l0,show ((j:Int)< (C:Int)) by omega,if_true,qS (show t≤8 by omega) hC (show j≤8 by omega),qp,Int.toNat_natCast,qL,q5 M' ht hj,
    show (0:Int)≤((t*C+j:Nat):Int) by omega,show ((t*C+j:Nat):Int)< ((R*C:Nat):Int) by omega,zy (show j<9223372036854775807 by omega),show ¬p=0 by omega,if_false,
    wrap_mul (x:=M' t j) (y:=yB p (M t col)) ⟨by omega,by omega⟩ ⟨by omega,by omega⟩,Zj _ ht hj,zaY]
   exact hr⟩) M hM
 refine l1.2 _ (Ev.succ ?_)
 simp only [zn.l0,show ¬((C:Int)< (C:Int)) by omega,if_false]
 rw [Zt]
 have hM1:InF p R C (qv (y7 p t (yB p (M t col))) M):=hM.scale hp.1 ht hi0
 show Ev _ (z1 (Qr p t col R (qv (y7 p t (yB p (M t col))) M)) R C)
 generalize qv (y7 p t (yB p (M t col))) M=M1 at hM1
 refine QT (fun k (M':Tab) i=>zn.l1 k t col i p R C (z1 M' R C)) R (vk p t col) (fun _ M'=>InF p R C M') (fun M'=>z1 M' R C)
  (fun M' _=>by simp only [zn.l1,show ¬((R:Int)< (R:Int)) by omega,if_false];exact Ev.now _)
  (fun i M' hi hM'=>⟨hM'.vk hp.1 ht hc hi,fun r hr=>by
   have h2:=vD hi hc
   have hg:=hM' i col hi hc
   simp only [zn.l1,show ((i:Int)< (R:Int)) by omega,if_true,qS (show i≤8 by omega) hC (show col≤8 by omega),qp,qL,q5 M' hi hc,show (0:Int)≤((i*C+col:Nat):Int) by omega,show ((i*C+col:Nat):Int)< ((R*C:Nat):Int) by omega]
   by_cases hit:i=t
   ·subst hit
    rw [vk,if_pos rfl] at hr
    refine Ev.succ ?_
    simp only [zn.l2,show ((0:Int)< (C:Int)) by omega,if_true,zy (show i<9223372036854775807 by omega)]
    exact hr
   ·rw [vk,if_neg hit] at hr
    generalize M' i col=g at hr hg
    have l2:=qG (fun k (N:Tab) j=>zn.l2 k t col i g j p R C (z1 N R C)) C (fun N j=>vK (Vq p t i g) N j) (fun _ N=>InF p R C N)
     (fun j N hj hN=>⟨Z9 (fun N hN=>hN.elim hp.1 ht hi hg) hN hj,fun r hr=>by
      have h3:=vD hi hj
      have h4:=vD ht hj
      simp only [zn.l2,show ((j:Int)< (C:Int)) by omega,if_true,show ¬((i:Int)=(t:Int)) by omega,if_false,qS (show i≤8 by omega) hC (show j≤8 by omega),qS (show t≤8 by omega) hC (show j≤8 by omega),qp,Int.toNat_natCast,qL,q5 N hi hj,q5 N ht hj,
       show (0:Int)≤((i*C+j:Nat):Int) by omega,show ((i*C+j:Nat):Int)< ((R*C:Nat):Int) by omega,show (0:Int)≤((t*C+j:Nat):Int) by omega,show ((t*C+j:Nat):Int)< ((R*C:Nat):Int) by omega,zy (show j<9223372036854775807 by omega),show ¬p=0 by omega,
       zaJ (x:=N i j) (g:=g) (y:=N t j) hp (hN i j hi hj) hg (hN t j ht hj),Zj _ hi hj,zbV]
      exact hr⟩) M' hM'
    refine l2.2 _ (Ev.succ ?_)
    simp only [zn.l2,show ¬((C:Int)< (C:Int)) by omega,if_false,zy (show i<9223372036854775807 by omega)]
    rw [Zt]
    exact hr⟩) M1 hM1
end
end L
end
section
namespace L
open Go.RowKit F Wa Wb Wc
open Bits
section
variable {p:Int} {R C:Nat} (hR:R≤8) (hC:C≤8) (hf:isField p=true)
include hR hC
theorem zey {t j:Nat}(hj:j<C)(M:Tab)(l:List Int)(r:Int×Int×Int×List Int)(h:Ev (fun k=>zq.j3 k t j (qi M R t j:Nat) p R C l p R C (z1 M R C)) r):
  ∀d a,a+d=R→qi M R a j=qi M R t j→Ev (fun k=>zq.l1 k t j (a:Nat) p R C l p R C (z1 M R C)) r
 |0,a,ha,he=>by
  obtain rfl:a=R:=by omega
  rw [ZO] at he
  rw [←he] at h
  refine Ev.succ ?_
  simp only [zq.l1,show ¬((a:Int)< (a:Int)) by omega,if_false]
  exact h
 |d+1,a,ha,he=>by
  have hlt:a<R:=by omega
  have h1:=vD hlt hj
  rw [Qc hlt] at he
  refine Ev.succ ?_
  simp only [zq.l1,show ((a:Int)< (R:Int)) by omega,if_true,qS (show a≤8 by omega) hC (show j≤8 by omega),qp,qL,q5 M hlt hj,show (0:Int)≤((a*C+j:Nat):Int) by omega,show ((a*C+j:Nat):Int)< ((R*C:Nat):Int) by omega,zy (show a<9223372036854775807 by omega)]
  by_cases c:M a j=0
  ·rw [if_pos c] at he
   simp only [c,if_true]
   exact zey hj M l r h d (a+1) (by omega) he
  ·rw [if_neg c] at he
   simp only [c,if_false]
   rw [←he] at h
   exact h
include hf
theorem zg1 (l:List Int): ∀d j (s:Red),j+d=C→VJ p R C s→
  Ev (fun k=>zq.l0 k (s.t:Nat) (j:Nat) p R C l p R C (z1 s.M R C)) (p,(((List.range' j d).foldl (z6 p R) s).t:Int),(C:Int),z1 ((List.range' j d).foldl (z6 p R) s).M ((List.range' j d).foldl (z6 p R) s).t C):=by
 have hp:=j5 hf
 have fin: ∀(s:Red),VJ p R C s→ ∀j:Int,Ev (fun k=>zq.j1 k (s.t:Nat) j false p R C l p R C (z1 s.M R C)) (p,(s.t:Int),(C:Int),z1 s.M s.t C):=fun s hs j=>by
  have ht:=hs.t_le
  have hm:=Jq (r:=(s.t:Int)) (c:=(C:Int)) ⟨by omega,by omega⟩ ⟨by omega,by omega⟩
  have hw:wrap64 ((s.t:Int)*(C:Int))=((s.t*C:Nat):Int):=by rw [qQ (by omega) (by omega)];simp
  have hle:s.t*C≤R*C:=Nat.mul_le_mul_right _ ht
  have hRC:R*C≤64:=Nat.le_trans (Nat.mul_le_mul hR hC) (by decide)
  refine Ev.succ ?_
  simp only [zq.j1,Bool.false_eq_true,if_false,Option.bind_some,hw,show (0:Int)≤((s.t*C:Nat):Int) by omega,if_true,qp,show ((s.t*C:Nat):Int)≤((R*C:Nat):Int) by omega,Int.toNat_natCast,zaK s.M ht,List.length_nil,show 0+s.t*C<17592186044416 by omega,List.nil_append]
  exact Ev.now _
 intro d
 induction d with
 |zero=>
  intro j s hj hs
  obtain rfl:j=C:=by omega
  refine Ev.succ ?_
  simp only [zq.l0,show ¬((j:Int)< (j:Int)) by omega,if_false]
  exact fin s hs _
 |succ d ih=>
  intro j s hj hs
  have hjC:j<C:=by omega
  refine Ev.succ ?_
  simp only [zq.l0,show ((j:Int)< (C:Int)) by omega,if_true]
  by_cases ht:s.t=R
  ·rw [J6 _ ht]
   simp only [show decide ((s.t:Int)< (R:Int))=false from decide_eq_false (by omega)]
   exact fin s hs _
  ·have htR:s.t<R:=by have:=hs.t_le;omega
   simp only [show decide ((s.t:Int)< (R:Int))=true from decide_eq_true (by omega)]
   refine Ev.succ ?_
   simp only [zq.j1,if_true]
   have ho:=hs.step hp.1 hjC
   have hrec:=ih (j+1) (z6 p R s j) (by omega) ho
   rw [List.range'_succ,List.foldl_cons]
   refine zey hR hC hjC s.M l _ ?_ (R - s.t) s.t (by omega) rfl
   refine Ev.succ ?_
   obtain ⟨f1,f2,f3,f4⟩:=vv s.M R j (R - s.t) s.t (by omega)
   by_cases c:qi s.M R s.t j=R
   ·have he:z6 p R s j=s:=by unfold z6;rw [if_neg (by omega)]
    rw [he] at hrec ⊢
    simp only [zq.j3,c,if_true,zy (show j<9223372036854775807 by omega)]
    exact hrec
   ·have hlt:qi s.M R s.t j<R:=by omega
    have he:z6 p R s j=⟨s.t+1,vN p R s.t j (qv (jA s.t (qi s.M R s.t j)) s.M),s.ps++[(j:Int)]⟩:=by unfold z6;rw [if_pos hlt]
    rw [he] at hrec ⊢
    simp only [zq.j3,show ¬(((qi s.M R s.t j:Nat):Int)=(R:Int)) by omega,if_false,zy (show j<9223372036854775807 by omega),zy (show s.t<9223372036854775807 by omega)]
    refine Ev.bind (zgq hR hC htR hlt s.M) ?_
    have hsw:=hs.inF.swap (M:=s.M) htR hlt
    refine Ev.bind (zfO hR hC hf htR hjC hsw ?_) hrec
    unfold qv jA
    by_cases c2:s.t=qi s.M R s.t j
    ·rw [if_pos c2];rw [←c2] at f3;exact f3 htR
    ·rw [if_neg c2,if_pos rfl];exact f3 hlt
end
def Z5 (p r c:Int)(l:List Int):Int×Int×Int×List Int:=
 if qI p r c l=true then (p,((jP p r c l).t:Int),c,z1 (jP p r c l).M (jP p r c l).t c.toNat) else (0,0,0,[])
theorem Jc (p r c:Int)(l:List Int):Ev (fun k=>zq.f k p r c l) (Z5 p r c l):=by
 unfold zq.f Z5
 refine Ev.bind (ZF p r c l) ?_
 cases h:qI p r c l
 ·simp only [Bool.false_eq_true,if_false];exact Ev.now _
 obtain ⟨R,C,rfl,rfl,hR,hC,hl,h2,h7,hf,hx⟩:=jL h
 have hRC:R*C≤64:=Nat.le_trans (Nat.mul_le_mul hR hC) (by decide)
 simp only [if_true,jz.f,Option.bind_some,List.length_nil,show 0+l.length<17592186044416 by omega,List.nil_append]
 have key:=zg1 hR hC hf l C 0 ⟨0,zW l C,[]⟩ (by omega) (zaP hl h2 hx)
 rw [VN hl,←List.range_eq_range'] at key
 unfold jP
 rw [Int.toNat_natCast,Int.toNat_natCast]
 exact key
end L
end
section
namespace L
open Go.RowKit F Wa Wb Wc
open Bits
theorem zeQ (a e:Nat)(ha:a<256)(he:e≤64):qn.f (a:Int) (e:Int)=some (a.testBit e):=by
 unfold qn.f;rw [Zb (by omega) (by omega),if_pos (by omega),Ym _ _ (by omega) (by omega)]
theorem zfK (M:Tab)(p:Int)(t i0 j:Nat)(x y:Int):upd M i0 j (Int.tmod (Int.tmod (M i0 j*y - M t j*x) p+p) p)=vK (zb1 p t i0 x y) M j:=by
 funext i c
 unfold upd vK zb1
 by_cases h1:c=j
 ·subst h1
  by_cases h2:i=i0
  ·subst h2;simp
  ·simp [h2]
 ·simp [h1]
theorem zeR {a b x y p:Int}(hp:2≤p∧p≤7)(ha:0≤a∧a<p)(hb:0≤b∧b<p)(hx:0≤x∧x<p)(hy:0≤y∧y<p):
  wrap64 (Int.tmod (wrap64 (wrap64 (a*y) - wrap64 (b*x))) p+p)=Int.tmod (a*y - b*x) p+p:=by
 rw [wrap_mul (x:=a) (y:=y) ⟨ha.1,by omega⟩ ⟨hy.1,by omega⟩,wrap_mul (x:=b) (y:=x) ⟨hb.1,by omega⟩ ⟨hx.1,by omega⟩]
 have h1:=QH (x:=a) (y:=y) ⟨ha.1,by omega⟩ ⟨hy.1,by omega⟩
 have h2:=QH (x:=b) (y:=x) ⟨hb.1,by omega⟩ ⟨hx.1,by omega⟩
 rw [show wrap64 (a*y - b*x)=a*y - b*x from qQ (by omega) (by omega)]
 have h3:=zdg (a*y - b*x) (show 0<p by omega)
 have h4:=Int.tmod_lt_of_pos (a*y - b*x) (show 0<p by omega)
 exact qQ (by omega) (by omega)
section
variable {p:Int} {R C:Nat} (hR:R≤8) (hC:C≤8) (hf:isField p=true)
include hR hC
theorem zeD {t j s:Nat}(hj:j<C)(M:Tab)(r:Int)(h:Ev (fun k=>zm.j2 k p R C s (z1 M R C) t j (qi M R t j:Nat)) r):
  ∀d a,a+d=R→qi M R a j=qi M R t j→Ev (fun k=>zm.l1 k p R C s (z1 M R C) t j (a:Nat)) r
 |0,a,ha,he=>by
  obtain rfl:a=R:=by omega
  rw [ZO] at he
  rw [←he] at h
  refine Ev.succ ?_
  simp only [zm.l1,show ¬((a:Int)< (a:Int)) by omega,if_false]
  exact h
 |d+1,a,ha,he=>by
  have hlt:a<R:=by omega
  have h1:=vD hlt hj
  rw [Qc hlt] at he
  refine Ev.succ ?_
  simp only [zm.l1,show ((a:Int)< (R:Int)) by omega,if_true,qS (show a≤8 by omega) hC (show j≤8 by omega),qp,qL,q5 M hlt hj,show (0:Int)≤((a*C+j:Nat):Int) by omega,show ((a*C+j:Nat):Int)< ((R*C:Nat):Int) by omega,zy (show a<9223372036854775807 by omega)]
  by_cases c:M a j=0
  ·rw [if_pos c] at he
   simp only [c,if_true]
   exact zeD hj M r h d (a+1) (by omega) he
  ·rw [if_neg c] at he
   simp only [c,if_false]
   rw [←he] at h
   exact h
include hf
theorem zev {s:Nat}(hs:s<256): ∀d j (st:Nat×Tab),j+d=C→st.1≤R→InF p R C st.2→
  Ev (fun k=>zm.l0 k p R C s (z1 st.2 R C) (st.1:Nat) (j:Nat)) (((List.range' j d).foldl (fun st j=>if s.testBit j=true then ZM p R st j else st) st).1:Int):=by
 have hp:=j5 hf
 intro d
 induction d with
 |zero=>
  intro j st hj ht hM
  obtain rfl:j=C:=by omega
  refine Ev.succ ?_
  simp only [zm.l0,show ¬((j:Int)< (j:Int)) by omega,if_false]
  exact Ev.now _
 |succ d ih=>
  intro j st hj ht hM
  have hjC:j<C:=by omega
  refine Ev.succ ?_
  simp only [zm.l0,show ((j:Int)< (C:Int)) by omega,if_true,zeQ s j hs (by omega),Option.bind_some,zy (show j<9223372036854775807 by omega)]
  rw [List.range'_succ,List.foldl_cons]
  cases hb:s.testBit j
  ·simp only [Bool.false_eq_true,if_false]
   exact ih (j+1) st (by omega) ht hM
  simp only [if_true]
  obtain ⟨f1,f2,f3,f4⟩:=vv st.2 R j (R - st.1) st.1 (by omega)
  refine zeD hR hC hjC st.2 _ ?_ (R - st.1) st.1 (by omega) rfl
  refine Ev.succ ?_
  by_cases c:qi st.2 R st.1 j<R
  ·have he:ZM p R st j=(st.1+1,Q4 p st.1 j R (qv (jA (qi st.2 R st.1 j) st.1) st.2)):=by unfold ZM;rw [if_pos c]
   rw [he]
   have htR:st.1<R:=by omega
   simp only [zm.j2,show ¬(((qi st.2 R st.1 j:Nat):Int)≥(R:Int)) by omega,if_false]
   generalize qi st.2 R st.1 j=b at c f1 ⊢
   have l2:=qG (fun k (M:Tab) m=>zm.l2 k p R C s (z1 M R C) (st.1:Nat) (j:Nat) (b:Nat) m) C (fun M m=>vK (jA b st.1) M m) (fun _ _=>True)
    (fun m M hm _=>⟨trivial,fun r hr=>by
     have h1:=vD c hm
     have h2:=vD htR hm
     simp only [zm.l2,show ((m:Int)< (C:Int)) by omega,if_true,qS (show b≤8 by omega) hC (show m≤8 by omega),qS (show st.1≤8 by omega) hC (show m≤8 by omega),qp,Int.toNat_natCast,qL,q5 M c hm,q5 M htR hm,
      show (0:Int)≤((b*C+m:Nat):Int) by omega,show ((b*C+m:Nat):Int)< ((R*C:Nat):Int) by omega,show (0:Int)≤((st.1*C+m:Nat):Int) by omega,show ((st.1*C+m:Nat):Int)< ((R*C:Nat):Int) by omega,zy (show m<9223372036854775807 by omega),Zj _ c hm,Zj _ htR hm,zb7]
     exact hr⟩) st.2 trivial
   refine l2.2 _ (Ev.succ ?_)
   simp only [zm.l2,show ¬((C:Int)< (C:Int)) by omega,if_false,zy (show st.1<9223372036854775807 by omega)]
   rw [Zt]
   have hM1:InF p R C (qv (jA b st.1) st.2):=hM.swap c htR
   generalize qv (jA b st.1) st.2=M1 at hM1 ⊢
   refine VQ (fun k (M':Tab) i=>zm.l3 k p R C s (z1 M' R C) (st.1:Nat) (j:Nat) i) R (ZA p st.1 j) (fun i M'=>InF p R C M'∧st.1<i) (fun M'=>(((List.range' (j+1) d).foldl (fun st j=>if s.testBit j=true then ZM p R st j else st) (st.1+1,M')).1:Int))
    (fun M' hM'=> ?_) (fun i M' hi hM'=>⟨⟨hM'.1.ZA hp.1,by omega⟩,fun r hr=> ?_⟩) (R - (st.1+1)) (st.1+1) M1 (by omega) ⟨hM1,by omega⟩
   ·simp only [zm.l3,show ¬((R:Int)< (R:Int)) by omega,if_false,zy (show st.1<9223372036854775807 by omega),zy (show j<9223372036854775807 by omega)]
    exact ih (j+1) (st.1+1,M') (by omega) htR hM'.1
   ·obtain ⟨hM',hti⟩:=hM'
    have h1:=vD hi hjC
    have h2:=vD htR hjC
    have hx:=hM' i j hi hjC
    have hy:=hM' st.1 j htR hjC
    simp only [zm.l3,show ((i:Int)< (R:Int)) by omega,if_true,qS (show i≤8 by omega) hC (show j≤8 by omega),qS (show st.1≤8 by omega) hC (show j≤8 by omega),qp,qL,q5 M' hi hjC,q5 M' htR hjC,
     show (0:Int)≤((i*C+j:Nat):Int) by omega,show ((i*C+j:Nat):Int)< ((R*C:Nat):Int) by omega,show (0:Int)≤((st.1*C+j:Nat):Int) by omega,show ((st.1*C+j:Nat):Int)< ((R*C:Nat):Int) by omega]
    unfold ZA at hr
    generalize M' i j=x at hr hx ⊢
    generalize M' st.1 j=y at hr hy ⊢
    have hstep: ∀N:Tab,InF p R C N→InF p R C (qv (zb1 p st.1 i x y) N):=fun N hN i' c' hi' hc'=>by
     unfold qv zb1
     split
     ·exact zeX _ hp.1
     ·exact hN i' c' hi' hc'
    have l4:=qG (fun k (N:Tab) m=>zm.l4 k p R C s (z1 N R C) (st.1:Nat) (j:Nat) (i:Nat) x y m) C (fun N m=>vK (zb1 p st.1 i x y) N m) (fun _ N=>InF p R C N)
     (fun m N hm hN=>⟨Z9 hstep hN hm,fun r hr=>by
      have h3:=vD hi hm
      have h4:=vD htR hm
      simp only [zm.l4,show ((m:Int)< (C:Int)) by omega,if_true,qS (show i≤8 by omega) hC (show m≤8 by omega),qS (show st.1≤8 by omega) hC (show m≤8 by omega),qp,Int.toNat_natCast,qL,q5 N hi hm,q5 N htR hm,
       show (0:Int)≤((i*C+m:Nat):Int) by omega,show ((i*C+m:Nat):Int)< ((R*C:Nat):Int) by omega,show (0:Int)≤((st.1*C+m:Nat):Int) by omega,show ((st.1*C+m:Nat):Int)< ((R*C:Nat):Int) by omega,zy (show m<9223372036854775807 by omega),show ¬p=0 by omega,if_false,
       zeR (a:=N i m) (b:=N st.1 m) (x:=x) (y:=y) hp (hN i m hi hm) (hN st.1 m htR hm) hx hy,Zj _ hi hm,zfK]
      exact hr⟩) M' hM'
    refine l4.2 _ (Ev.succ ?_)
    simp only [zm.l4,show ¬((C:Int)< (C:Int)) by omega,if_false,zy (show i<9223372036854775807 by omega)]
    rw [Zt]
    exact hr
  ·have he:ZM p R st j=st:=by unfold ZM;rw [if_neg c]
   rw [he]
   simp only [zm.j2,show (((qi st.2 R st.1 j:Nat):Int)≥(R:Int)) by omega,if_true,zy (show j<9223372036854775807 by omega)]
   exact ih (j+1) st (by omega) ht hM
theorem zdh {s:Nat}(hs:s<2 ^C){l:List Int}(hl:l.length=R*C)(hx: ∀x∈l,0≤x∧x<p):
  Ev (fun k=>zm.f k p R C l s) ((Zg p R s (zW l C) C).1:Int):=by
 have hp:=j5 hf
 have h256:s<256:=Nat.lt_of_lt_of_le hs (Nat.pow_le_pow_right (n:=2) (by decide) hC)
 have hRC:R*C≤64:=Nat.le_trans (Nat.mul_le_mul hR hC) (by decide)
 have key:=zev hR hC hf h256 C 0 (0,zW l C) (by omega) (Nat.zero_le _) (fun i j _ _=>yr hp.1 hx _)
 rw [VN hl,←List.range_eq_range'] at key
 unfold zm.f
 simp only [Option.bind_some,List.length_nil,show 0+l.length<17592186044416 by omega,if_true,List.nil_append]
 exact key
end
end L
end
section
namespace L
open Go.RowKit F Wa Wb Wc
open Bits
theorem JR (M:Tab){R C i:Nat}(hi:i<R):qk (q8 M R C) (i:Int)=vy M C i:=by
 unfold qk;rw [Int.toNat_natCast];exact Ji M hi
theorem zcZ (M:Tab){R C a b:Nat}(ha:a<R)(hb:b<R):zbS (q8 M R C) (a:Int) (b:Int)=some (q8 (qv (jA a b) M) R C):=by
 unfold zbS
 rw [if_pos ⟨by omega,by rw [jw];omega,by omega,by rw [jw];omega⟩]
 simp only [Int.toNat_natCast,Ji M ha,Ji M hb,zdZ M ha hb]
section
variable {p:Int} {R C:Nat} (hR:R≤8) (hC:C≤8) (hf:isField p=true)
include hR
theorem zfd {t j:Nat}(ps:List Int)(hj:j<C)(M:Tab)(l:List Int)(r:Int×Int×Int×List Int×List Int)(h:Ev (fun k=>zd.j3 k (q8 M R C) ps j t (qi M R t j:Nat) p R C l) r):
  ∀d a,a+d=R→qi M R a j=qi M R t j→Ev (fun k=>zd.l2 k (q8 M R C) ps j t (a:Nat) p R C l) r
 |0,a,ha,he=>by
  obtain rfl:a=R:=by omega
  rw [ZO] at he
  rw [←he] at h
  refine Ev.succ ?_
  simp only [zd.l2,jw,show ¬((a:Int)< (a:Int)) by omega,if_false]
  exact h
 |d+1,a,ha,he=>by
  have hlt:a<R:=by omega
  rw [Qc hlt] at he
  refine Ev.succ ?_
  simp only [zd.l2,jw,show ((a:Int)< (R:Int)) by omega,if_true,show (0:Int)≤(a:Int) by omega,show (0:Int)≤(j:Int) by omega,JR M hlt,vY,show ((j:Int)< (C:Int)) by omega,qL,Qg M hj,zy (show a<9223372036854775807 by omega)]
  by_cases c:M a j=0
  ·rw [if_pos c] at he
   simp only [c,if_true]
   exact zfd ps hj M l r h d (a+1) (by omega) he
  ·rw [if_neg c] at he
   simp only [c,if_false]
   rw [←he] at h
   exact h
include hC hf
theorem zfI {t col:Nat}(ps:List Int)(hps:ps.length≤8)(ht:t<R)(hc:col<C){M:Tab}(hM:InF p R C M)(hx:M t col≠0)(l:List Int)(r:Int×Int×Int×List Int×List Int)
  (h:Ev (fun k=>zd.l1 k (q8 (vN p R t col M) R C) (ps++[(col:Int)]) ((col+1:Nat):Int) p R C l) r):
  Ev (fun k=>zd.l3 k (q8 M R C) ps col t (yB p (M t col)) (C:Int) 0 p R C l) r:=by
 have hp:=j5 hf
 have hv:=hM t col ht hc
 have hi0:=Zn p (M t col)
 have hi1:=zbB hp.1 (M t col)
 have l1:=qG (fun k (M':Tab) j=>zd.l3 k (q8 M' R C) ps col t (yB p (M t col)) (C:Int) j p R C l) C (fun M' j=>vK (y7 p t (yB p (M t col))) M' j) (fun _ M'=>InF p R C M')
  (fun j M' hj hM'=>⟨Z9 (fun N hN=>hN.scale hp.1 ht hi0) hM' hj,fun r hr=>by
   have hb:=hM' t j ht hj
   simp only [zd.l3,show ((j:Int)< (C:Int)) by omega,if_true,jw,show (0:Int)≤(t:Int) by omega,show ((t:Int)< (R:Int)) by omega,show (0:Int)≤(j:Int) by omega,JR M' ht,vY,Int.toNat_natCast,qL,Qg M' hj,
    zy (show j<9223372036854775807 by omega),show ¬p=0 by omega,if_false,
    wrap_mul (x:=M' t j) (y:=yB p (M t col)) ⟨by omega,by omega⟩ ⟨by omega,by omega⟩,Yp _ ht hj,zaY]
   exact hr⟩) M hM
 refine l1.2 _ (Ev.succ ?_)
 simp only [zd.l3,show ¬((C:Int)< (C:Int)) by omega,if_false,jw]
 rw [VE]
 have hM1:InF p R C (qv (y7 p t (yB p (M t col))) M):=hM.scale hp.1 ht hi0
 replace h:Ev (fun k=>zd.l1 k (q8 (Qr p t col R (qv (y7 p t (yB p (M t col))) M)) R C) (ps++[(col:Int)]) ((col+1:Nat):Int) p R C l) r:=h
 generalize qv (y7 p t (yB p (M t col))) M=M1 at hM1 h ⊢
 have l4:=qG (fun k (M':Tab) i=>zd.l4 k (q8 M' R C) ps col t (R:Int) i p R C l) R (vk p t col) (fun _ M'=>InF p R C M')
  (fun i M' hi hM'=>⟨hM'.vk hp.1 ht hc hi,fun r hr=>by
   have hg:=hM' i col hi hc
   simp only [zd.l4,show ((i:Int)< (R:Int)) by omega,if_true,jw,show (0:Int)≤(i:Int) by omega,show (0:Int)≤(col:Int) by omega,JR M' hi,vY,show ((col:Int)< (C:Int)) by omega,qL,Qg M' hc]
   by_cases hit:i=t
   ·subst hit
    rw [vk,if_pos rfl] at hr
    refine Ev.succ ?_
    simp only [zd.l5,show ((0:Int)< (C:Int)) by omega,if_true,zy (show i<9223372036854775807 by omega)]
    exact hr
   ·rw [vk,if_neg hit] at hr
    generalize M' i col=g at hr hg ⊢
    have l2:=qG (fun k (N:Tab) j=>zd.l5 k (q8 N R C) ps col t (i:Int) g j (R:Int) (i:Int) p R C l) C (fun N j=>vK (Vq p t i g) N j) (fun _ N=>InF p R C N)
     (fun j N hj hN=>⟨Z9 (fun N hN=>hN.elim hp.1 ht hi hg) hN hj,fun r hr=>by
      simp only [zd.l5,show ((j:Int)< (C:Int)) by omega,if_true,show ¬((i:Int)=(t:Int)) by omega,if_false,jw,show (0:Int)≤(i:Int) by omega,show ((i:Int)< (R:Int)) by omega,show (0:Int)≤(j:Int) by omega,JR N hi,JR N ht,vY,show (0:Int)≤(t:Int) by omega,show ((t:Int)< (R:Int)) by omega,Int.toNat_natCast,qL,Qg N hj,
       zy (show j<9223372036854775807 by omega),show ¬p=0 by omega,
       zaJ (x:=N i j) (g:=g) (y:=N t j) hp (hN i j hi hj) hg (hN t j ht hj),Yp _ hi hj,zbV]
      exact hr⟩) M' hM'
    refine l2.2 _ (Ev.succ ?_)
    simp only [zd.l5,show ¬((C:Int)< (C:Int)) by omega,if_false,zy (show i<9223372036854775807 by omega)]
    rw [VE]
    exact hr⟩) M1 hM1
 refine l4.2 _ (Ev.succ ?_)
 simp only [zd.l4,show ¬((R:Int)< (R:Int)) by omega,if_false,show ps.length<17592186044416 by omega,if_true,zy (show col<9223372036854775807 by omega)]
 exact h
theorem zf5 (l:List Int): ∀d j (s:Red),j+d=C→VJ p R C s→
  Ev (fun k=>zd.l1 k (q8 s.M R C) s.ps (j:Nat) p R C l) (p,(((List.range' j d).foldl (z6 p R) s).t:Int),(C:Int),z1 ((List.range' j d).foldl (z6 p R) s).M ((List.range' j d).foldl (z6 p R) s).t C,((List.range' j d).foldl (z6 p R) s).ps):=by
 have hp:=j5 hf
 intro d
 induction d with
 |zero=>
  intro j s hj hs
  obtain rfl:j=C:=by omega
  have ht:=hs.t_le
  have hlen:=hs.len
  have hRC:R*j≤64:=Nat.le_trans (Nat.mul_le_mul hR hC) (by decide)
  refine Ev.succ ?_
  simp only [zd.l1,show ¬((j:Int)< (j:Int)) by omega,if_false,hlen,show (0:Int)≤(s.t:Int) by omega,if_true,jw,show ((s.t:Int)≤(R:Int)) by omega,Option.bind_some,Int.toNat_natCast,zd6 s.M ht]
  refine QT (fun k (x:List Int) i=>zd.l6 k s.ps (q8 s.M s.t j) (s.t:Int) i p (s.t:Int) (j:Int) x) s.t (fun x i=>x++vy s.M j i) (fun i x=>x=z1 s.M i j) (fun x=>(p,(s.t:Int),(j:Int),x,s.ps))
   (fun x hx=>by simp only [zd.l6,show ¬((s.t:Int)< (s.t:Int)) by omega,if_false];exact Ev.now _)
   (fun i x hi hx=>⟨by rw [hx];exact JF s.M j i,fun r hr=>by
    have hle:i*j≤R*j:=Nat.mul_le_mul_right _ (by omega)
    simp only [zd.l6,show ((i:Int)< (s.t:Int)) by omega,if_true,show (0:Int)≤(i:Int) by omega,jw,JR s.M hi,vY,show x.length+j<17592186044416 by rw [hx,qp];omega,zy (show i<9223372036854775807 by omega)]
    exact hr⟩) [] (by simp [z1]) |> fun q=> ?_
  have hfold:(List.range s.t).foldl (fun x i=>x++vy s.M j i) []=z1 s.M s.t j:=by
   have: ∀n,(List.range n).foldl (fun x i=>x++vy s.M j i) []=z1 s.M n j:=fun n=>by
    induction n with
    |zero=>simp [z1]
    |succ n ih=>rw [List.range_succ,List.foldl_append,ih];exact JF s.M j n
   exact this _
  rw [hfold] at q
  exact q
 |succ d ih=>
  intro j s hj hs
  have hjC:j<C:=by omega
  have hlen:=hs.len
  have htle:=hs.t_le
  refine Ev.succ ?_
  simp only [zd.l1,show ((j:Int)< (C:Int)) by omega,if_true,hlen]
  have ho:=hs.step hp.1 hjC
  have hrec:=ih (j+1) (z6 p R s j) (by omega) ho
  rw [List.range'_succ,List.foldl_cons]
  obtain ⟨f1,f2,f3,f4⟩:=vv s.M R j (R - s.t) s.t (by omega)
  refine zfd hR s.ps hjC s.M l _ ?_ (R - s.t) s.t (by omega) rfl
  refine Ev.succ ?_
  by_cases c:qi s.M R s.t j=R
  ·have he:z6 p R s j=s:=by unfold z6;rw [if_neg (by omega)]
   rw [he] at hrec ⊢
   simp only [zd.j3,c,jw,show ((R:Int)≥(R:Int)) by omega,if_true,zy (show j<9223372036854775807 by omega)]
   exact hrec
  ·have hlt:qi s.M R s.t j<R:=by omega
   have htR:s.t<R:=by omega
   have he:z6 p R s j=⟨s.t+1,vN p R s.t j (qv (jA s.t (qi s.M R s.t j)) s.M),s.ps++[(j:Int)]⟩:=by unfold z6;rw [if_pos hlt]
   rw [he] at hrec ⊢
   have hsw:=hs.inF.swap (M:=s.M) htR hlt
   have hne:(qv (jA s.t (qi s.M R s.t j)) s.M) s.t j≠0:=by
    unfold qv jA
    by_cases c2:s.t=qi s.M R s.t j
    ·rw [if_pos c2];rw [←c2] at f3;exact f3 htR
    ·rw [if_neg c2,if_pos rfl];exact f3 hlt
   simp only [zd.j3,jw,show ¬(((qi s.M R s.t j:Nat):Int)≥(R:Int)) by omega,if_false,zcZ s.M htR hlt,Option.bind_some,show (0:Int)≤(s.t:Int) by omega,show ((s.t:Int)< (R:Int)) by omega,if_true,show (0:Int)≤(j:Int) by omega,JR _ htR,vY,show ((j:Int)< (C:Int)) by omega,qL,Qg _ hjC]
   have hv:=hsw s.t j htR hjC
   refine Ev.bind (zf9 hf (show 1≤(qv (jA s.t (qi s.M R s.t j)) s.M) s.t j by omega) hv.2) ?_
   exact zfI hR hC hf s.ps (by omega) htR hjC hsw hne l _ hrec
end
def zbq (p:Int)(R C:Nat)(l:List Int):Int×Int×Int×List Int×List Int:=
 (p,((ya p R C (zW l C)).t:Int),(C:Int),z1 (ya p R C (zW l C)).M (ya p R C (zW l C)).t C,(ya p R C (zW l C)).ps)
theorem zb8 {p:Int}{R C:Nat}(hR:R≤8)(hC:C≤8)(hf:isField p=true){l:List Int}(hl:l.length=R*C)(hx: ∀x∈l,0≤x∧x<p):Ev (fun k=>zd.f k p R C l) (zbq p R C l):=by
 have hp:=j5 hf
 have hRC:R*C≤64:=Nat.le_trans (Nat.mul_le_mul hR hC) (by decide)
 have key:=zf5 hR hC hf l C 0 ⟨0,zW l C,[]⟩ (by omega) (zaP hl hp.1 hx)
 rw [←List.range_eq_range'] at key
 unfold zd.f
 have l0:=qG (fun k (x:List (List Int)) i=>zd.l0 k x i p R C l) R (fun x i=>x++[vy (zW l C) C i]) (fun i x=>x=q8 (zW l C) i C)
  (fun i x hi hxx=>⟨by rw [hxx];exact zav _ C i,fun r hr=>by
   have hle:(i+1)*C≤R*C:=Nat.mul_le_mul_right _ (by omega)
   have hle2:i*C≤(i+1)*C:=Nat.mul_le_mul_right _ (by omega)
   have m1:=Jq (r:=(i:Int)) (c:=(C:Int)) ⟨by omega,by omega⟩ ⟨by omega,by omega⟩
   have m2:=Jq (r:=((i+1:Nat):Int)) (c:=(C:Int)) ⟨by omega,by omega⟩ ⟨by omega,by omega⟩
   have w1:wrap64 ((i:Int)*(C:Int))=((i*C:Nat):Int):=by rw [qQ (by omega) (by omega)];simp
   have w2:wrap64 (((i+1:Nat):Int)*(C:Int))=(((i+1)*C:Nat):Int):=by rw [qQ (by omega) (by omega),Int.natCast_mul]
   have hrow:(l.take ((i+1)*C)).drop (i*C)=vy (zW l C) C i:=by
    have:=V8 (zW l C) hi (C:=C)
    rw [VN hl] at this;exact this
   have hlen:x.length=i:=by rw [hxx,jw]
   simp only [zd.l0,show ((i:Int)< (R:Int)) by omega,if_true,Option.bind_some,zy (show i<9223372036854775807 by omega),w1,w2,show (0:Int)≤((i*C:Nat):Int) by omega,show ((i*C:Nat):Int)≤(((i+1)*C:Nat):Int) by omega,show (((i+1)*C:Nat):Int)≤(l.length:Int) by omega,Int.toNat_natCast,hrow,vY,List.length_nil,show 0+C<17592186044416 by omega,hlen,show i<5864062014805 by omega,List.nil_append]
   exact hr⟩) [] (by simp [q8])
 have hfold:=l0.1
 refine l0.2 _ (Ev.succ ?_)
 simp only [zd.l0,show ¬((R:Int)< (R:Int)) by omega,if_false]
 rw [hfold]
 exact key
end L
end
section
namespace L
open Go.RowKit F Wa Wb Wc
open Bits
theorem ZL {p:Int}(h:isField p=true):Mt.jr p:=by simpa [isField,Mt.jr] using h
section
variable {p:Int} {R C:Nat} (hR:R≤8) (hC:C≤8)
include hR hC
theorem zbR (hf:isField p=true){X:Tab}(hX:InF p R C X):Ev (fun k=>zd.f k p R C (z1 X R C)) (p,((ya p R C X).t:Int),(C:Int),z1 (ya p R C X).M (ya p R C X).t C,(ya p R C X).ps):=by
 have hp:=j5 hf
 have hRC:R*C≤64:=Nat.le_trans (Nat.mul_le_mul hR hC) (by decide)
 have key:=zf5 hR hC hf (z1 X R C) C 0 ⟨0,X,[]⟩ (by omega) ⟨Nat.zero_le _,hX,rfl⟩
 rw [←List.range_eq_range'] at key
 unfold zd.f
 have l0:=qG (fun k (x:List (List Int)) i=>zd.l0 k x i p R C (z1 X R C)) R (fun x i=>x++[vy X C i]) (fun i x=>x=q8 X i C)
  (fun i x hi hxx=>⟨by rw [hxx];exact zav _ C i,fun r hr=>by
   have hle:(i+1)*C≤R*C:=Nat.mul_le_mul_right _ (by omega)
   have hle2:i*C≤(i+1)*C:=Nat.mul_le_mul_right _ (by omega)
   have m1:=Jq (r:=(i:Int)) (c:=(C:Int)) ⟨by omega,by omega⟩ ⟨by omega,by omega⟩
   have m2:=Jq (r:=((i+1:Nat):Int)) (c:=(C:Int)) ⟨by omega,by omega⟩ ⟨by omega,by omega⟩
   have w1:wrap64 ((i:Int)*(C:Int))=((i*C:Nat):Int):=by rw [qQ (by omega) (by omega)];simp
   have w2:wrap64 (((i+1:Nat):Int)*(C:Int))=(((i+1)*C:Nat):Int):=by rw [qQ (by omega) (by omega),Int.natCast_mul]
   have hlen:x.length=i:=by rw [hxx,jw]
   simp only [zd.l0,show ((i:Int)< (R:Int)) by omega,if_true,Option.bind_some,zy (show i<9223372036854775807 by omega),w1,w2,show (0:Int)≤((i*C:Nat):Int) by omega,show ((i*C:Nat):Int)≤(((i+1)*C:Nat):Int) by omega,qp,show (((i+1)*C:Nat):Int)≤((R*C:Nat):Int) by omega,Int.toNat_natCast,V8 X hi,vY,List.length_nil,show 0+C<17592186044416 by omega,hlen,show i<5864062014805 by omega,List.nil_append]
   exact hr⟩) [] (by simp [q8])
 have hfold:=l0.1
 refine l0.2 _ (Ev.succ ?_)
 simp only [zd.l0,show ¬((R:Int)< (R:Int)) by omega,if_false]
 rw [hfold]
 exact key
theorem zfc {s:Int}{es:List Nat}(hes:ZQ s=es)(hlt: ∀e∈es,e<C){l:List Int}(hl:l.length=R*C):
  Ev (fun k=>zX.f k p R C l s) (p,(R:Int),(es.length:Int),z1 (vp es (zW l C)) R es.length):=by
 have h8:es.length≤8:=by rw [←hes];exact Qz s
 have hRe:R*es.length≤64:=Nat.le_trans (Nat.mul_le_mul hR h8) (by decide)
 unfold zX.f
 refine Ev.bind (ZZ s) ?_
 rw [hes]
 have hil:(ints es).length=es.length:=by simp [ints]
 have l0:=qG (fun k (x:List Int) i=>zX.l0 k (ints es) i p R C l p R ((ints es).length:Int) x) R (fun x i=>x++vy (vp es (zW l C)) es.length i) (fun i x=>x=z1 (vp es (zW l C)) i es.length)
  (fun i x hi hxx=>⟨by rw [hxx];exact JF _ _ i,fun r hr=>by
   have hle:(i+1)*es.length≤R*es.length:=Nat.mul_le_mul_right _ (by omega)
   rw [Nat.succ_mul] at hle
   have hxl:x.length=i*es.length:=by rw [hxx,qp]
   simp only [zX.l0,show ((i:Int)< (R:Int)) by omega,if_true]
   have l1:=qG (fun k (y:List Int) q=>zX.l1 k (ints es) i (ints es) ((ints es).length:Int) q p R C l p R ((ints es).length:Int) y) es.length (fun y q=>y++[zW l C i (es.getD q 0)]) (fun q y=>y=x++(List.range q).map (vp es (zW l C) i))
    (fun q y hq hy=>⟨by rw [hy,List.range_succ,List.map_append,List.append_assoc];rfl,fun r hr=>by
     have he:es[q]∈es:=List.getElem_mem hq
     have hg:es.getD q 0=es[q]:=by simp [List.getD_eq_getElem?_getD,hq]
     have hcl:=Q1 hl hi (hlt _ he)
     have h7:=hlt _ he
     have hyl:y.length=i*es.length+q:=by rw [hy,List.length_append,hxl];simp
     simp only [zX.l1,hil,show ((q:Int)< (es.length:Int)) by omega,if_true,show (0:Int)≤(q:Int) by omega,QP es q hq,qV.f,qS (show i≤8 by omega) hC (show es[q]≤8 by omega),show (0:Int)≤((i*C+es[q]:Nat):Int) by omega,show ((i*C+es[q]:Nat):Int)< (l.length:Int) by omega,qL,Option.bind_some,show y.length<17592186044416 by omega,zy (show q<9223372036854775807 by omega)]
     rw [hg] at hr
     rw [hil] at hr
     exact hr⟩) x (by simp)
   have l1e:=l1.1
   refine l1.2 _ (Ev.succ ?_)
   simp only [zX.l1,hil,show ¬((es.length:Int)< (es.length:Int)) by omega,if_false,zy (show i<9223372036854775807 by omega)]
   rw [l1e]
   rw [hil] at hr
   exact hr⟩) [] (by simp [z1])
 have l0e:=l0.1
 refine l0.2 _ (Ev.succ ?_)
 simp only [zX.l0,show ¬((R:Int)< (R:Int)) by omega,if_false]
 rw [l0e,hil]
 exact Ev.now _
end
def JT (p r c:Int)(l:List Int)(s:Int):Bool:=qI p r c l&&decide (0≤c∧c≤8∧0≤s∧s<2 ^c.toNat)
def yR (p r c:Int)(l:List Int)(s:Int):Int:=if JT p r c l s=true then ((Zg p r.toNat s.toNat (zW l c.toNat) c.toNat).1:Int) else -1
theorem zbu (p r c:Int)(l:List Int)(s:Int):Ev (fun k=>qT.f k p r c l s) (yR p r c l s):=by
 have no:Ev (fun k=>qT.j0 k s true p r c l) (-1):=Ev.succ (by simp only [qT.j0,if_true];exact Ev.now _)
 unfold qT.f yR JT
 refine Ev.bind (yV p r c l) ?_
 cases h:qI p r c l
 ·simp only [Bool.false_eq_true,if_false,Bool.false_and];exact no
 simp only [if_true,zdM,Option.bind_some,Bool.true_and]
 by_cases hs:0≤c∧c≤8∧0≤s∧s<2 ^c.toNat
 ·simp only [hs,decide_true,and_self,if_true,Bool.not_true]
  obtain ⟨R,C,rfl,rfl,hR,hC,hl,h2,h7,hf,hx⟩:=jL h
  obtain ⟨S,rfl⟩:=Int.eq_ofNat_of_zero_le hs.2.2.1
  rw [Int.toNat_natCast] at hs
  have hS:S<2 ^C:=by have:=hs.2.2.2;exact_mod_cast this
  have h256:S<256:=Nat.lt_of_lt_of_le hS (Nat.pow_le_pow_right (n:=2) (by decide) hC)
  have hp:=j5 hf
  have hM:InF p R C (zW l C):=fun i j _ _=>yr hp.1 hx _
  have hes:ZQ (S:Int)=(List.range C).filter S.testBit:=by
   rw [←Qs S C hC hS]
   unfold ZQ;rw [if_pos (by simp [isAny];omega)];rfl
  have hlt: ∀e∈(List.range C).filter S.testBit,e<C:=fun e he=>List.mem_range.1 (List.mem_filter.1 he).1
  have h8:((List.range C).filter S.testBit).length≤8:=by rw [←hes];exact Qz _
  refine Ev.succ ?_
  simp only [qT.j0,Bool.false_eq_true,if_false,Int.toNat_natCast]
  refine Ev.bind (zfc hR hC hes hlt hl) ?_
  have hX:InF p R ((List.range C).filter S.testBit).length (vp ((List.range C).filter S.testBit) (zW l C)):=fun i q hi hq=>by
   unfold vp
   refine hM i _ hi (hlt _ ?_)
   rw [List.getD_eq_getElem?_getD,List.getElem?_eq_getElem hq]
   exact List.getElem_mem hq
  refine Ev.bind (zbR hR h8 hf hX) ?_
  refine Ev.some ?_
  have hlen:(ya p R ((List.range C).filter S.testBit).length (vp ((List.range C).filter S.testBit) (zW l C))).ps.length=(ya p R ((List.range C).filter S.testBit).length (vp ((List.range C).filter S.testBit) (zW l C))).t:=by
   have hok: ∀(js:List Nat) (st:Red),(∀j∈js,j< ((List.range C).filter S.testBit).length)→VJ p R ((List.range C).filter S.testBit).length st→VJ p R ((List.range C).filter S.testBit).length (js.foldl (z6 p R) st):=fun js=>by
    induction js with
    |nil=>intro st _ h;exact h
    |cons j js ih=>intro st hj h;exact ih _ (fun x hx=>hj x (List.mem_cons_of_mem _ hx)) (h.step hp.1 (hj j List.mem_cons_self))
   exact (hok _ _ (fun j hj=>List.mem_range.1 hj) ⟨Nat.zero_le _,hX,rfl⟩).len
  rw [hlen,zdO,zcG (ZL hf) hC hS hM,←zbv (ZL hf) hC hS hM]
 ·simp only [hs,decide_false,Bool.not_false,Bool.false_eq_true,if_false];exact no
end L
end
section
namespace L
open Go.RowKit F Wa Wb Wc
open Bits
open Mt (Ker linB jr rk full Vx)
theorem Vi {p:Int}{R C:Nat}(hf:isField p=true)(hR:R≤8)(hC:C≤8){l:List Int}(hl:l.length=R*C)(hx: ∀x∈l,0≤x∧x<p):qI p R C l=true:=by
 rw [ZB ⟨hf,by omega,by omega,by omega,by omega,by rw [hl];simp⟩,List.all_eq_true]
 exact fun x h=>decide_eq_true (hx x h)
theorem yM {p r c:Int}{l:List Int}(h:qI p r c l=true):isField p=true∧ ∃R C:Nat,r=R∧c=C∧R≤8∧C≤8∧l.length=R*C∧ ∀x∈l,0≤x∧x<p:=by
 by_cases hh:isField p=true∧0≤r∧r≤8∧0≤c∧c≤8∧(l.length:Int)=r*c
 ·rw [ZB hh,List.all_eq_true] at h
  obtain ⟨hf,hr0,hr,hc0,hc,hlen⟩:=hh
  obtain ⟨R,rfl⟩: ∃R:Nat,r=R:=⟨r.toNat,by omega⟩
  obtain ⟨C,rfl⟩: ∃C:Nat,c=C:=⟨c.toNat,by omega⟩
  exact ⟨hf,R,C,rfl,rfl,by omega,by omega,by rw [←Int.natCast_mul] at hlen;omega,fun x hx=>of_decide_eq_true (h x hx)⟩
 ·rw [yt hh] at h;cases h
theorem zdb {p:Int}(h:isField p=true):jr p:=by simpa [isField,jr] using h
theorem Va {p:Int}(hp:2≤p){R C:Nat}{l:List Int}(hx: ∀x∈l,0≤x∧x<p):InF p R C (zW l C):=fun i j _ _=>by
 unfold zW
 rw [List.getD_eq_getElem?_getD]
 by_cases h:i*C+j<l.length
 ·rw [List.getElem?_eq_getElem h];exact hx _ (List.getElem_mem h)
 ·rw [List.getElem?_eq_none (Nat.le_of_not_lt h)];exact ⟨Int.le_refl 0,by show (0:Int)<p;omega⟩
theorem YI {p:Int}{R C:Nat}{M:Tab}(h:InF p R C M): ∀x∈z1 M R C,0≤x∧x<p:=fun x hx=>by
 unfold z1 at hx
 obtain ⟨k,hk,rfl⟩:=List.mem_map.1 hx
 rw [List.mem_range] at hk
 exact h _ _ (VY hk) (Nat.mod_lt _ (VL hk))
theorem Z3 (p:Int)(R C:Nat)(M:Tab): ∀m,m≤C→yW p R (full C) M m=(List.range m).foldl (z6 p R) ⟨0,M,[]⟩
 |0,_=>rfl
 |m+1,hm=>by
  have ih:=Z3 p R C M m (by omega)
  unfold yW at ih ⊢
  rw [List.range_succ,List.foldl_append,List.foldl_append,ih]
  simp only [List.foldl_cons,List.foldl_nil,Vx,decide_eq_true (show m<C by omega),if_true]
theorem zeb {p r c:Int}{l:List Int}(h:qI p r c l=true):
  ∃t m,Z5 p r c l=(p,t,c,m)∧m.length≤64∧Z5 p t c m=(p,t,c,m)∧ ∀s,yR p t c m s=yR p r c l s:=by
 obtain ⟨hf,R,C,rfl,rfl,hR,hC,hl,hx⟩:=yM h
 have hp:=zdb hf
 have hpp:=hp.pos
 have hin:=Va (R:=R) (C:=C) hpp.1 hx
 obtain ⟨P,hri,hu⟩:=Un.run hp hin C (Nat.le_refl C)
 have hrun:=Z3 p R C (zW l C) C (Nat.le_refl C)
 obtain ⟨P2,_,hps,_⟩:=QK (s:=full C) hp hin C (Nat.le_refl C)
 rw [hrun] at hps
 have e:jP p R C l=(List.range C).foldl (z6 p R) ⟨0,zW l C,[]⟩:=by unfold jP ya;rw [Int.toNat_natCast,Int.toNat_natCast]
 rw [←e] at hri hu hps
 have ea:Z5 p R C l=(p,((jP p R C l).t:Int),(C:Int),z1 (jP p R C l).M (jP p R C l).t C):=by unfold Z5;rw [if_pos h,Int.toNat_natCast]
 clear e hrun
 generalize jP p R C l=st at hri hu hps ea
 have htR:=hri.t_le
 have hinT:InF p st.t C st.M:=fun i j hi hj=>hri.inF i j (by omega) hj
 have hlen:=qp st.M st.t C
 have hmx:qI p st.t C (z1 st.M st.t C)=true:=Vi hf (by omega) hC hlen (YI hinT)
 have hX: ∀i c,i<st.t→c<C→zW (z1 st.M st.t C) C i c=st.M i c:=fun i c hi hc=>q5 st.M hi hc
 refine ⟨_,_,ea,?_,?_,?_⟩
 ·rw [hlen];exact Nat.mul_le_mul (show st.t≤8 by omega) hC
 ·obtain ⟨Y,hY,e1,e2⟩:=zau hp (R':=R) hri hu hX C (Nat.le_refl C)
  rw [zfU hri] at e2
  have e3:jP p st.t C (z1 st.M st.t C)=(List.range C).foldl (z6 p st.t) ⟨0,zW (z1 st.M st.t C) C,[]⟩:=by unfold jP ya;rw [Int.toNat_natCast,Int.toNat_natCast]
  unfold Z5
  rw [if_pos hmx,e3,e2,e1,Int.toNat_natCast,Vt hY]
 ·intro s
  unfold yR JT
  rw [hmx,h]
  by_cases hs:(0≤(C:Int)∧(C:Int)≤8∧0≤s∧s<2 ^(C:Int).toNat)
  ·rw [decide_eq_true hs]
   simp only [Bool.and_self,if_true,Int.toNat_natCast]
   obtain ⟨_,_,hs0,hs1⟩:=hs
   rw [Int.toNat_natCast] at hs1
   obtain ⟨S,rfl⟩: ∃S:Nat,s=S:=⟨s.toNat,by omega⟩
   have hS:S<2 ^C:=by
    have:((2 ^C:Nat):Int)=(2:Int) ^C:=by simp
    rw [←this] at hs1;exact Int.ofNat_lt.1 hs1
   have hinX:InF p st.t C (zW (z1 st.M st.t C) C):=Va hpp.1 (YI hinT)
   simp only [Int.toNat_natCast]
   rw [zbv hp hC hS hinX,zbv hp hC hS hin]
   have hk:Ker p C st.t (zW (z1 st.M st.t C) C)=Ker p C R (zW l C):=funext fun v=>propext ((zeP hri hX v).symm.trans (hps.ker v).symm)
   rw [hk]
  ·rw [decide_eq_false hs];rfl
end L
end
section
namespace L
open Go.RowKit F Wa Wb Wc
open Bits
open Mt (sdiff qW elems vU cnt zfn full)
theorem VK (l:List Int)(x:Int):((List.range l.length).any fun i=>decide (l.getD i 0=x))=decide (x∈l):=by
 rw [Bool.eq_iff_iff]
 simp only [List.any_eq_true,List.mem_range,decide_eq_true_eq]
 constructor
 ·rintro ⟨i,hi,h⟩
  rw [←h,List.getD_eq_getElem?_getD,List.getElem?_eq_getElem hi];exact List.getElem_mem hi
 ·intro h
  obtain ⟨i,hi,he⟩:=List.getElem_of_mem h
  exact ⟨i,hi,by rw [List.getD_eq_getElem?_getD,List.getElem?_eq_getElem hi];exact he⟩
theorem Jk (l:List Int)(x:Int)(hl:l.length≤17592186044416):Ev (fun k=>qF.f k l x) (decide (x∈l)):=by
 unfold qF.f
 have h:=vn (fun k i=>qF.l0 k l x i) l.length (fun i r=>decide (l.getD i 0=x)||r) false
  (by simp only [qF.l0,show ¬((l.length:Int)< (l.length:Int)) by omega,if_false];exact Ev.now _) fun i hi r hr=>by
   simp only [qF.l0,show ((i:Int)< (l.length:Int)) by omega,show (0:Int)≤(i:Int) by omega,if_true,qL,zy (show i<9223372036854775807 by omega)]
   by_cases h:l.getD i 0=x
   ·simp only [h,if_true,decide_true,Bool.true_or];exact Ev.now _
   ·simp only [h,if_false,decide_false,Bool.false_or];exact hr
 rw [QF,Bool.or_false,VK] at h
 exact h
theorem YG (l:List Int)(x:Int)(hl:l.length≤17592186044416):Ev (fun k=>yp.f k l x) (decide (x∈l)):=by
 unfold yp.f qE.f z8.f
 have key: ∃r:Int,Ev (fun k=>z8.l0 k l x (l.length:Int) 0) r∧decide (r≥0)=decide (x∈l):=by
  refine ⟨(List.range l.length).foldr (fun i r=>if x=l.getD i 0 then (i:Int) else r) (-1),?_,?_⟩
  ·refine vn (fun k i=>z8.l0 k l x (l.length:Int) i) l.length _ (-1) ?_ fun i hi r hr=> ?_
   ·simp only [z8.l0,show ¬((l.length:Int)< (l.length:Int)) by omega,if_false];exact Ev.now _
   ·simp only [z8.l0,show ((i:Int)< (l.length:Int)) by omega,show (0:Int)≤(i:Int) by omega,if_true,qL,zy (show i<9223372036854775807 by omega)]
    by_cases h:x=l.getD i 0
    ·rw [if_pos h];simp only [if_pos h];exact Ev.now _
    ·rw [if_neg h];simp only [if_neg h];exact hr
  ·have hh: ∀L:List Nat,(0≤L.foldr (fun i r=>if x=l.getD i 0 then (i:Int) else r) (-1))↔(L.any fun i=>decide (l.getD i 0=x))=true:=by
    intro L
    induction L with
    |nil=>simp
    |cons i t ih=>
     simp only [List.foldr_cons,List.any_cons,Bool.or_eq_true,decide_eq_true_eq]
     by_cases h:x=l.getD i 0
     ·simp only [if_pos h];exact ⟨fun _=> .inl h.symm,fun _=>by omega⟩
     ·simp only [if_neg h];rw [ih];exact ⟨.inr,fun hh=>hh.elim (fun e=>absurd e.symm h) id⟩
   rw [←VK,Bool.eq_iff_iff,decide_eq_true_eq]
   exact hh _
 obtain ⟨r,hr,e⟩:=key
 refine Ev.bind (Ev.bind hr (Ev.now _)) ?_
 rw [←e];exact Ev.now _
def JS (n s:Int):Bool:=decide (0≤n∧n≤8∧0≤s∧s<2 ^n.toNat)
def Zz (n:Int)(l:List Int):Bool:=((List.range l.length).all fun i=>JS n (l.getD i 0)&&(decide (i=0)||decide (l.getD (i - 1) 0<l.getD i 0)))&&decide (0≤n∧n≤8)
theorem zaE {i:Nat}(h:i<9223372036854775807)(h0:0<i):wrap64 ((i:Int) - 1)=((i - 1:Nat):Int):=by rw [qQ (by omega) (by omega)];omega
theorem zcU (n:Int)(l:List Int)(hl:l.length≤17592186044416):Ev (fun k=>qB.f k n l) (Zz n l):=by
 unfold qB.f
 have h:=vn (fun k i=>qB.l0 k n l i) l.length (fun i r=>(JS n (l.getD i 0)&&(decide (i=0)||decide (l.getD (i - 1) 0<l.getD i 0)))&&r) (decide (0≤n∧n≤8))
  (by simp only [qB.l0,show ¬((l.length:Int)< (l.length:Int)) by omega,if_false,zcQ,Option.bind_some];exact Ev.now _) fun i hi r hr=>by
   simp only [qB.l0,show ((i:Int)< (l.length:Int)) by omega,show (0:Int)≤(i:Int) by omega,if_true,qL,Vo,Option.bind_some,decide_eq_true_eq,zy (show i<9223372036854775807 by omega)]
   unfold JS
   by_cases hs:0≤n∧n≤8∧0≤l.getD i 0∧l.getD i 0<2 ^n.toNat
   ·simp only [hs,and_self,if_true,decide_true,Bool.true_and]
    by_cases h0:i=0
    ·subst h0
     simp only [show ¬(((0:Nat):Int)>0) by omega,if_false,decide_true,Bool.true_or,Bool.true_and];exact hr
    ·simp only [show ((i:Int)>0) by omega,if_true,zaE (show i<9223372036854775807 by omega) (Nat.pos_of_ne_zero h0),show (0:Int)≤((i - 1:Nat):Int) by omega,show ((i - 1:Nat):Int)< (l.length:Int) by omega,qL,h0,decide_false,Bool.false_or]
     by_cases hc:l.getD (i - 1) 0<l.getD i 0
     ·simp only [show ¬(l.getD (i - 1) 0≥l.getD i 0) by omega,if_false,hc,decide_true,Bool.true_and];exact hr
     ·simp only [show (l.getD (i - 1) 0≥l.getD i 0) by omega,if_true,hc,decide_false,Bool.false_and];exact Ev.now _
   ·simp only [if_neg hs,decide_eq_false hs,Bool.false_and];exact Ev.now _
 rw [ZH] at h
 exact h
theorem zcM (n:Int)(l:List Int)(hl:l.length≤17592186044416):Ev (fun k=>qC.f k n l) (Zz n l):=by
 unfold qC.f
 have h:=vn (fun k i=>qC.l0 k n l l (l.length:Int) i) l.length (fun i r=>(JS n (l.getD i 0)&&(decide (i=0)||decide (l.getD (i - 1) 0<l.getD i 0)))&&r) (decide (0≤n∧n≤8))
  (by simp only [qC.l0,show ¬((l.length:Int)< (l.length:Int)) by omega,if_false,Vl,Option.bind_some];exact Ev.now _) fun i hi r hr=>by
   simp only [qC.l0,show ((i:Int)< (l.length:Int)) by omega,show (0:Int)≤(i:Int) by omega,if_true,qL,zdM,Option.bind_some,decide_eq_true_eq,zy (show i<9223372036854775807 by omega)]
   unfold JS
   by_cases hs:0≤n∧n≤8∧0≤l.getD i 0∧l.getD i 0<2 ^n.toNat
   ·simp only [hs,and_self,if_true,decide_true,Bool.true_and]
    by_cases h0:i=0
    ·subst h0
     simp only [show ¬(((0:Nat):Int)>0) by omega,if_false,decide_true,Bool.true_or,Bool.true_and];exact hr
    ·simp only [show ((i:Int)>0) by omega,if_true,zaE (show i<9223372036854775807 by omega) (Nat.pos_of_ne_zero h0),show (0:Int)≤((i - 1:Nat):Int) by omega,show ((i - 1:Nat):Int)< (l.length:Int) by omega,qL,h0,decide_false,Bool.false_or]
     by_cases hc:l.getD (i - 1) 0<l.getD i 0
     ·simp only [show ¬(l.getD i 0≤l.getD (i - 1) 0) by omega,if_false,hc,decide_true,Bool.true_and];exact hr
     ·simp only [show (l.getD i 0≤l.getD (i - 1) 0) by omega,if_true,hc,decide_false,Bool.false_and];exact Ev.now _
   ·simp only [if_neg hs,decide_eq_false hs,Bool.false_and];exact Ev.now _
 rw [ZH] at h
 exact h
theorem VZ {n:Int}{l:List Int}(h:Zz n l=true): ∃(N:Nat) (B:List Nat),n=N∧N≤8∧l=ints B∧(∀b∈B,b<2 ^N)∧B.Pairwise (· < ·):=by
 unfold Zz at h
 simp only [Bool.and_eq_true,decide_eq_true_eq,List.all_eq_true,List.mem_range,Bool.or_eq_true] at h
 obtain ⟨h1,h2,h3⟩:=h
 obtain ⟨N,rfl⟩:=Int.eq_ofNat_of_zero_le h2
 have hset: ∀i (hi:i<l.length),0≤l[i]∧l[i]<2 ^N:=fun i hi=>by
  have:=(h1 i hi).1
  simp only [JS,decide_eq_true_eq,Int.toNat_natCast,List.getD_eq_getElem?_getD,List.getElem?_eq_getElem hi,Option.getD_some] at this
  exact ⟨this.2.2.1,this.2.2.2⟩
 have hstep: ∀i (hi:i+1<l.length),l[i]<l[i+1]:=fun i hi=>by
  have:=(h1 (i+1) hi).2
  simp only [Nat.succ_ne_zero,false_or,Nat.add_sub_cancel,List.getD_eq_getElem?_getD,List.getElem?_eq_getElem hi,List.getElem?_eq_getElem (show i<l.length by omega),Option.getD_some] at this
  exact this
 have hlt: ∀j (hj:j<l.length) i (hi:i<j),l[i]<l[j]:=by
  intro j
  induction j with
  |zero=>intro _ i hi;omega
  |succ j ih=>
   intro hj i hi
   by_cases e:i=j
   ·subst e;exact hstep i hj
   ·exact Int.lt_trans (ih (by omega) i (by omega)) (hstep j hj)
 refine ⟨N,l.map Int.toNat,rfl,by omega,?_,?_,?_⟩
 ·apply List.ext_getElem (by simp [ints])
  intro i h1 h2
  have:=(hset i h1).1
  simp [ints];omega
 ·intro b hb
  obtain ⟨x,hx,rfl⟩:=List.mem_map.1 hb
  obtain ⟨i,hi,rfl⟩:=List.getElem_of_mem hx
  have:=hset i hi
  have e:(2:Int) ^N=((2 ^N:Nat):Int):=by simp
  rw [e] at this
  generalize 2 ^N=y at this ⊢
  omega
 ·rw [List.pairwise_iff_getElem]
  intro i j hi hj hij
  simp only [List.length_map] at hi hj
  have:=hlt j hj i hij
  have:=(hset i hi).1
  simp only [List.getElem_map];omega
def zdf (s:Int):Nat:=if isAny s then cnt s.toNat else 0
theorem zgN: ∀s:Nat,s<256→ye.f (s:Int)=some (cnt s:Int):=by decide+kernel
theorem zea (s:Int):yG.f s=some (zdf s:Int):=by
 unfold yG.f zdf
 rw [VA]
 simp only [Option.bind_some]
 cases h:isAny s
 ·simp
 ·have hs:0≤s∧s<256:=by simpa [isAny] using h
  obtain ⟨a,rfl⟩:=Int.eq_ofNat_of_zero_le hs.1
  rw [Zb (by omega) (by omega)]
  simp only [if_true,yx.f,Option.bind_some,Int.toNat_natCast]
  rw [zgN a (by omega)];rfl
end L
end
section
namespace L
open Go.RowKit F Wa Wb Wc
open Bits
theorem zeV {l:List Int}{x:Int}(hl:l.length≤17592186044416):Ev (fun k=>(qE.f k l x)) (decide (x∈l)):=by
 unfold qE.f z8.f
 have h:=vn (fun k i=>(z8.l0 k l x (l.length:Int) i).bind fun t=>some (decide (t≥0))) l.length (fun i r=>decide (l.getD i 0=x)||r) false
  (by simp only [z8.l0,show ¬((l.length:Int)< (l.length:Int)) by omega,if_false,Option.bind_some];exact Ev.now _) fun i hi r hr=>by
   simp only [z8.l0,show ((i:Int)< (l.length:Int)) by omega,show (0:Int)≤(i:Int) by omega,if_true,qL,zy (show i<9223372036854775807 by omega)]
   by_cases h:l.getD i 0=x
   ·simp only [h,if_true,decide_true,Bool.true_or,Option.bind_some,show ((i:Int)≥0) by omega];exact Ev.now _
   ·simp only [show ¬(x=l.getD i 0) from fun e=>h e.symm,h,if_false,decide_false,Bool.false_or];exact hr
 rw [QF,Bool.or_false,VK] at h
 exact h
theorem Jy {P:List Nat}{j:Nat}:((j:Int)∈ints P)↔j∈P:=by
 unfold ints
 constructor
 ·intro h
  obtain ⟨x,hx,he⟩:=List.mem_map.1 h
  have:x=j:=by exact_mod_cast he
  exact this ▸hx
 ·intro h;exact List.mem_map.2 ⟨j,h,rfl⟩
section
variable {p:Int} {R C:Nat} (hR:R≤8) (hC:C≤8) (hf:isField p=true)
include hR hC
theorem zeL {st:Red}{P:List Nat}(h:RI p R C C st P):Ev (fun k=>qc.f k p st.t C (z1 st.M st.t C)) (ints P):=by
 have hlen:=h.len
 have htle:=h.t_le
 unfold qc.f
 have key:=qG (fun k (x:List Int) i=>qc.l0 k x i p st.t C (z1 st.M st.t C)) st.t (fun x i=>x++[((P.getD i 0:Nat):Int)]) (fun i x=>x=ints (P.take i))
  (fun i x hi hx=>⟨by
   rw [hx,List.take_succ_eq_append_getElem (show i<P.length by omega),show P.getD i 0=P[i] by simp [List.getD_eq_getElem?_getD,show i<P.length by omega]]
   unfold ints
   rw [List.map_append]
   rfl,fun r hr=>by
   have hiP:i<P.length:=by omega
   have hg:P.getD i 0=P[i]:=by simp [List.getD_eq_getElem?_getD,hiP]
   have hlt:=h.lt P[i] (List.getElem_mem hiP)
   obtain ⟨hp1,hp2⟩:=h.piv i hiP
   have hxl:x.length=i:=by rw [hx];simp [ints];omega
   simp only [qc.l0,show ((i:Int)< (st.t:Int)) by omega,if_true]
   have inner: ∀d c,c+d=P[i]→Ev (fun k=>qc.l1 k x i (c:Nat) p st.t C (z1 st.M st.t C)) r:=fun d=>by
    induction d with
    |zero=>
     intro c hc
     obtain rfl:c=P[i]:=by omega
     have h1:=vD hi hlt
     rw [hg] at hr
     refine Ev.succ ?_
     simp only [qc.l1,qS (show i≤8 by omega) hC (show P[i]≤8 by omega),qp,qL,q5 st.M hi hlt,show (0:Int)≤((i*C+P[i]:Nat):Int) by omega,show ((i*C+P[i]:Nat):Int)< ((st.t*C:Nat):Int) by omega,if_true,hp1,if_false,show x.length<17592186044416 by omega,zy (show i<9223372036854775807 by omega)]
     exact hr
    |succ d ih=>
     intro c hc
     have hcC:c<C:=by omega
     have h1:=vD hi hcC
     refine Ev.succ ?_
     simp only [qc.l1,qS (show i≤8 by omega) hC (show c≤8 by omega),qp,qL,q5 st.M hi hcC,show (0:Int)≤((i*C+c:Nat):Int) by omega,show ((i*C+c:Nat):Int)< ((st.t*C:Nat):Int) by omega,if_true,hp2 c (by omega),zy (show c<9223372036854775807 by omega)]
     exact ih (c+1) (by omega)
   exact inner P[i] 0 (by omega)⟩) [] (by simp [ints])
 have ke:=key.1
 refine key.2 _ (Ev.succ ?_)
 simp only [qc.l0,show ¬((st.t:Int)< (st.t:Int)) by omega,if_false]
 rw [ke,←hlen,List.take_length]
 exact Ev.now _
include hf
theorem zgz {st:Red}{P:List Nat}(h:RI p R C C st P)(l:List Int):Ev (fun k=>zC.l0 k (ints P) 0 p R C l p st.t C (z1 st.M st.t C) p 0 C []) (p,(yw P C:Int),(C:Int),yU p C P st.M C,true):=by
 have hlen:=h.len
 have htle:=h.t_le
 have hp:=j5 hf
 have hil:(ints P).length=P.length:=by simp [ints]
 have key:=qG (fun k (s:Nat×List Int) j=>zC.l0 k (ints P) j p R C l p st.t C (z1 st.M st.t C) p (s.1:Int) C s.2) C (fun s j=>if j∈P then s else (s.1+1,s.2++vw p C P st.M j)) (fun j s=>s.1=yw P j∧s.2=yU p C P st.M j)
  (fun j s hj hs=>⟨by
   rw [Qh,Zk]
   split
   ·exact hs
   ·exact ⟨by rw [hs.1],by rw [hs.2]⟩,fun r hr=>by
   have hnle:=VC P j
   have hsl:s.2.length≤64:=by rw [hs.2,ZE];exact Nat.le_trans (Nat.mul_le_mul (show yw P j≤8 by omega) hC) (by decide)
   simp only [zC.l0,show ((j:Int)< (C:Int)) by omega,if_true]
   refine Ev.bind (Jk (ints P) j (by omega)) ?_
   by_cases c:j∈P
   ·rw [if_pos c] at hr
    simp only [show decide ((j:Int)∈ints P)=true from decide_eq_true (Jy.2 c),if_true,zy (show j<9223372036854775807 by omega)]
    exact hr
   ·rw [if_neg c] at hr
    simp only [show decide ((j:Int)∈ints P)=false from decide_eq_false (fun hh=>c (Jy.1 hh)),Bool.false_eq_true,if_false,show (0:Int)≤(C:Int) by omega,if_true,Int.toNat_natCast,show C≤35184372088832 by omega,Option.bind_some,show (0:Int)≤(j:Int) by omega,List.length_replicate,show ((j:Int)< (C:Int)) by omega]
    have inner:=qG (fun k (row:List Int) i=>zC.l1 k (ints P) j row i p R C l p st.t C (z1 st.M st.t C) p (s.1:Int) C s.2) P.length (fun row i=>row.set (P.getD i 0) (Int.tmod (p - st.M i j) p)) (fun _ row=>row.length=C)
     (fun i row hi hrow=>⟨by rw [List.length_set];exact hrow,fun r hr=>by
      have hg:P.getD i 0=P[i]:=by simp [List.getD_eq_getElem?_getD,hi]
      have hlt:=h.lt P[i] (List.getElem_mem hi)
      have hit:i<st.t:=by omega
      have h1:=vD hit hj
      have hb:=h.inF i j (by omega) hj
      rw [hg] at hr
      simp only [zC.l1,show ((i:Int)< (st.t:Int)) by omega,if_true,show (0:Int)≤(i:Int) by omega,hil,show ((i:Int)< (P.length:Int)) by omega,qS (show i≤8 by omega) hC (show j≤8 by omega),qp,show (0:Int)≤((i*C+j:Nat):Int) by omega,show ((i*C+j:Nat):Int)< ((st.t*C:Nat):Int) by omega,show ¬p=0 by omega,if_false,QP P i hi,show (0:Int)≤((P[i]:Nat):Int) by omega,hrow,show (((P[i]:Nat):Int)< (C:Int)) by omega,Int.toNat_natCast,qL,q5 st.M hit hj,VM hp hb,zy (show i<9223372036854775807 by omega)]
      exact hr⟩) ((List.replicate C (0:Int)).set j 1) (by simp)
    refine inner.2 _ (Ev.succ ?_)
    have hrl:=inner.1
    simp only [zC.l1,hlen,show ¬((st.t:Int)< (st.t:Int)) by omega,if_false]
    rw [←hlen,show (List.range P.length).foldl (fun row i=>row.set (P.getD i 0) (Int.tmod (p - st.M i j) p)) ((List.replicate C (0:Int)).set j 1)=vw p C P st.M j from rfl] at*
    simp only [Qn,show s.2.length+C<17592186044416 by omega,if_true,zy (show j<9223372036854775807 by omega),zy (show s.1<9223372036854775807 by have:=hs.1;omega)]
    exact hr⟩) (0,[]) ⟨rfl,rfl⟩
 have k1:=key.1
 generalize (List.range C).foldl (fun (s:Nat×List Int) j=>if j∈P then s else (s.1+1,s.2++vw p C P st.M j)) (0,[])=e at key k1
 refine key.2 _ (Ev.succ ?_)
 simp only [zC.l0,show ¬((C:Int)< (C:Int)) by omega,if_false]
 rw [k1.1,k1.2]
 exact Ev.now _
theorem zge {st:Red}{P:List Nat}(h:RI p R C C st P)(l:List Int)(n:Int):Ev (fun k=>zG.l0 k (ints P) 0 p R C l p st.t C (z1 st.M st.t C) p n C []) (p,n,(C:Int),yU p C P st.M C,true):=by
 have hlen:=h.len
 have htle:=h.t_le
 have hp:=j5 hf
 have hil:(ints P).length=P.length:=by simp [ints]
 have key:=qG (fun k (s:List Int) j=>zG.l0 k (ints P) j p R C l p st.t C (z1 st.M st.t C) p n C s) C (fun s j=>if j∈P then s else s++vw p C P st.M j) (fun j s=>s=yU p C P st.M j)
  (fun j s hj hs=>⟨by
   rw [Zk,hs],fun r hr=>by
   have hnle:=VC P j
   have hsl:s.length≤64:=by rw [hs,ZE];exact Nat.le_trans (Nat.mul_le_mul (show yw P j≤8 by omega) hC) (by decide)
   simp only [zG.l0,show ((j:Int)< (C:Int)) by omega,if_true]
   refine Ev.bind (zeV (by omega)) ?_
   by_cases c:j∈P
   ·rw [if_pos c] at hr
    simp only [show decide ((j:Int)∈ints P)=true from decide_eq_true (Jy.2 c),if_true,zy (show j<9223372036854775807 by omega)]
    exact hr
   ·rw [if_neg c] at hr
    simp only [show decide ((j:Int)∈ints P)=false from decide_eq_false (fun hh=>c (Jy.1 hh)),Bool.false_eq_true,if_false,show (0:Int)≤(C:Int) by omega,if_true,Int.toNat_natCast,show C≤35184372088832 by omega,Option.bind_some,show (0:Int)≤(j:Int) by omega,List.length_replicate,show ((j:Int)< (C:Int)) by omega,hil]
    have inner:=qG (fun k (row:List Int) i=>zG.l1 k (ints P) j row (ints P) (P.length:Int) i p R C l p st.t C (z1 st.M st.t C) p n C s) P.length (fun row i=>row.set (P.getD i 0) (Int.tmod (p - st.M i j) p)) (fun _ row=>row.length=C)
     (fun i row hi hrow=>⟨by rw [List.length_set];exact hrow,fun r hr=>by
      have hg:P.getD i 0=P[i]:=by simp [List.getD_eq_getElem?_getD,hi]
      have hlt:=h.lt P[i] (List.getElem_mem hi)
      have hit:i<st.t:=by omega
      have h1:=vD hit hj
      have hb:=h.inF i j (by omega) hj
      rw [hg] at hr
      simp only [zG.l1,show ((i:Int)< (P.length:Int)) by omega,if_true,show (0:Int)≤(i:Int) by omega,hil,qV.f,qS (show i≤8 by omega) hC (show j≤8 by omega),qp,show (0:Int)≤((i*C+j:Nat):Int) by omega,show ((i*C+j:Nat):Int)< ((st.t*C:Nat):Int) by omega,Option.bind_some,show ¬p=0 by omega,if_false,QP P i hi,show (0:Int)≤((P[i]:Nat):Int) by omega,hrow,show (((P[i]:Nat):Int)< (C:Int)) by omega,Int.toNat_natCast,qL,q5 st.M hit hj,VM hp hb,zy (show i<9223372036854775807 by omega)]
      exact hr⟩) ((List.replicate C (0:Int)).set j 1) (by simp)
    refine inner.2 _ (Ev.succ ?_)
    rw [show (List.range P.length).foldl (fun row i=>row.set (P.getD i 0) (Int.tmod (p - st.M i j) p)) ((List.replicate C (0:Int)).set j 1)=vw p C P st.M j from rfl]
    simp only [zG.l1,show ¬((P.length:Int)< (P.length:Int)) by omega,if_false,Qn,show s.length+C<17592186044416 by omega,if_true,zy (show j<9223372036854775807 by omega)]
    exact hr⟩) [] rfl
 have k1:=key.1
 refine key.2 _ (Ev.succ ?_)
 simp only [zG.l0,show ¬((C:Int)< (C:Int)) by omega,if_false]
 rw [k1]
 exact Ev.now _
end
def yg (p r c:Int)(l:List Int):Int×Int×Int×List Int×Bool:=
 if qI p r c l=true then (p,c - ((jP p r c l).t:Int),c,yU p c.toNat ((jP p r c l).ps.map Int.toNat) (jP p r c l).M c.toNat,true) else (0,0,0,[],false)
theorem Jl (P:List Nat):(ints P).map Int.toNat=P:=by
 unfold ints;rw [List.map_map];exact (List.map_congr_left fun x _=>Int.toNat_natCast x).trans (List.map_id P)
theorem Z1 (p r c:Int)(l:List Int):Ev (fun k=>zC.f k p r c l) (yg p r c l):=by
 unfold zC.f yg
 refine Ev.bind (ZF p r c l) ?_
 have hred:=Jc p r c l
 unfold Z5 at hred
 cases h:qI p r c l
 ·simp only [Bool.false_eq_true,if_false];exact Ev.now _
 rw [h] at hred
 obtain ⟨R,C,rfl,rfl,hR,hC,hl,h2,h7,hf,hx⟩:=jL h
 simp only [if_true,Int.toNat_natCast] at hred ⊢
 refine Ev.bind hred ?_
 have hM0:InF p R C (zW l C):=fun i j _ _=>yr (by omega) hx _
 obtain ⟨P,hP⟩:=RI.run (R:=R) (ZL hf) hM0 C (Nat.le_refl C)
 have e:jP p R C l=(List.range C).foldl (z6 p R) ⟨0,zW l C,[]⟩:=by unfold jP ya;rw [Int.toNat_natCast,Int.toNat_natCast]
 rw [←e] at hP
 refine Ev.bind (zeL hR hC hP) ?_
 have hcount:=Jg hP.sort hP.lt
 have hlen:=hP.len
 have key:=zgz hR hC hf hP l
 rw [hP.ps,Jl,show (C:Int) - ((jP p R C l).t:Int)=(yw P C:Int) by omega]
 exact key
theorem zbz (p r c:Int)(l:List Int):Ev (fun k=>zG.f k p r c l) (yg p r c l):=by
 unfold zG.f yg
 refine Ev.bind (yV p r c l) ?_
 cases h:qI p r c l
 ·simp only [Bool.false_eq_true,if_false];exact Ev.now _
 obtain ⟨R,C,rfl,rfl,hR,hC,hl,h2,h7,hf,hx⟩:=jL h
 simp only [if_true,Int.toNat_natCast]
 refine Ev.bind (zb8 hR hC hf hl hx) ?_
 unfold zbq
 have hM0:InF p R C (zW l C):=fun i j _ _=>yr (by omega) hx _
 obtain ⟨P,hP⟩:=RI.run (R:=R) (ZL hf) hM0 C (Nat.le_refl C)
 have e:jP p R C l=(List.range C).foldl (z6 p R) ⟨0,zW l C,[]⟩:=by unfold jP ya;rw [Int.toNat_natCast,Int.toNat_natCast]
 have e2:ya p R C (zW l C)=jP p R C l:=by rw [e];rfl
 rw [←e] at hP
 simp only [e2]
 have hlen:=hP.len
 have htC:(jP p R C l).t≤C:=by have:=Jg hP.sort hP.lt;omega
 have hpl:(jP p R C l).ps.length=(jP p R C l).t:=by rw [hP.ps];simp [ints,hlen]
 rw [hpl,show wrap64 ((C:Int) - ((jP p R C l).t:Int))=(C:Int) - ((jP p R C l).t:Int) from qQ (by omega) (by omega)]
 have key:=zge hR hC hf hP l ((C:Int) - ((jP p R C l).t:Int))
 rw [hP.ps,Jl]
 exact key
theorem VI (p r c:Int)(l:List Int):(yg p r c l).2.2.2.1.length≤64:=by
 unfold yg
 cases h:qI p r c l
 ·simp
 obtain ⟨R,C,rfl,rfl,hR,hC,hl,h2,h7,hf,hx⟩:=jL h
 simp only [if_true,ZE,Int.toNat_natCast]
 have:=VC ((jP p R C l).ps.map Int.toNat) C
 exact Nat.le_trans (Nat.mul_le_mul (Nat.le_trans this hC) hC) (by decide)
end L
end
section
namespace L
open Mt
section
variable {N:Nat} {B:List Nat}
theorem Y2 (M:Mat N B){s:Nat}(hs:s<2 ^N):s∈B↔cnt s=rk B (full N)∧rk B s=rk B (full N):=by
 obtain ⟨b0,hb0⟩:=List.exists_mem_of_ne_nil _ M.ne
 have hfull:rk B (full N)=cnt b0:=M.zfW hb0 (fun i h=>h)
 constructor
 ·intro h
  have hc:cnt s=cnt b0:=M.V1 h hb0
  have hi:ind B s:=⟨s,h,fun i hi=>hi⟩
  have hr:rk B s=cnt s:=(yj M.ne (jK M.size hs)).1 hi
  exact ⟨by omega,by omega⟩
 ·rintro ⟨h1,h2⟩
  obtain ⟨b,hb,hsub⟩:ind B s:=(yj M.ne (jK M.size hs)).2 (by omega)
  have hc:cnt b=cnt b0:=M.V1 hb hb0
  have:s=b:=Qy hsub (M.lt8 hb) (by omega)
  rwa [this]
end
end L
end
section
namespace L
open Go.RowKit F Wa Wb Wc
open Bits
open Mt (sdiff qW elems vU cnt full ins del Mat jK)
theorem zfN: ∀a:Nat,a<256→ ∀e:Nat,e<8→a.testBit e=true→del a e+2 ^e=a:=by decide+kernel
theorem zfw: ∀a:Nat,a<256→ ∀f:Nat,f<8→a.testBit f=false→ins a f=a+2 ^f:=by decide+kernel
theorem zfb {a e:Nat}(h:a<256):del a e<256:=Nat.lt_of_le_of_lt (Mt.zd3 (Mt.Zd a e)) h
theorem zb0 {B:List Nat}{x:Nat}:((x:Int)∈ints B)↔x∈B:=by
 simp only [ints,List.mem_map]
 constructor
 ·rintro ⟨y,hy,e⟩
  have:y=x:=by omega
  rw [←this];exact hy
 ·intro h;exact ⟨x,h,rfl⟩
def JK (B:List Nat)(a b e:Nat):Bool:=(elems (sdiff b a)).any fun f=>decide (ins (del a e) f∈B)
theorem zcK {B:List Nat}{N a b e:Nat}(hN:N≤8)(hb:b<2 ^N):JK B a b e=(List.range N).any fun f=>b.testBit f&&(!a.testBit f&&decide (ins (del a e) f∈B)):=by
 unfold JK
 rw [Bool.eq_iff_iff]
 simp only [List.any_eq_true,vU,List.mem_range,qW,Bool.and_eq_true,Bool.not_eq_true',decide_eq_true_eq]
 constructor
 ·rintro ⟨f,⟨_,h1,h2⟩,h3⟩;exact ⟨f,Mt.yz hb h1,h1,h2,h3⟩
 ·rintro ⟨f,h0,h1,h2,h3⟩;exact ⟨f,⟨by omega,h1,h2⟩,h3⟩
def zfl (B:List Nat):Bool:=B.all fun a=>B.all fun b=>(elems (sdiff a b)).all fun e=>JK B a b e
def jU (n:Int)(l:List Int):Bool:=Zz n l&&decide (0<l.length)&&zfl (l.map Int.toNat)
theorem yv (B:List Nat):(ints B).map Int.toNat=B:=by
 simp only [ints,List.map_map]
 induction B with
 |nil=>rfl
 |cons x t ih=>simp only [List.map_cons,ih];rfl
theorem VO {n:Int}{l:List Int}(h:jU n l=true): ∃(N:Nat) (B:List Nat),n=N∧l=ints B∧B.Pairwise (· < ·)∧Mat N B:=by
 unfold jU at h
 simp only [Bool.and_eq_true,decide_eq_true_eq] at h
 obtain ⟨⟨h1,h2⟩,h3⟩:=h
 obtain ⟨N,B,rfl,hN,rfl,hB,hp⟩:=VZ h1
 rw [yv] at h3
 refine ⟨N,B,rfl,rfl,hp,⟨hN,hB,?_,?_⟩⟩
 ·intro e;rw [e] at h2;simp [ints] at h2
 ·intro a ha b hb e he hbe
  have h4:=List.all_eq_true.1 (List.all_eq_true.1 (List.all_eq_true.1 h3 a ha) b hb) e (vU.2 ⟨Mt.yz (n:=8) (jK hN (hB a ha)) he,by rw [qW,he,hbe];rfl⟩)
  simp only [JK,List.any_eq_true,vU,qW,Bool.and_eq_true,Bool.not_eq_true',decide_eq_true_eq] at h4
  obtain ⟨f,⟨_,h5,h6⟩,h7⟩:=h4
  exact ⟨f,h5,h6,h7⟩
theorem zdF (a e:Nat)(ha:a<256)(he:e≤64):qn.f (a:Int) (e:Int)=some (a.testBit e):=by
 unfold qn.f;rw [Zb (by omega) (by omega),if_pos (by omega),Ym _ _ (by omega) (by omega)]
section
variable {N:Nat} {B:List Nat}
theorem zgy (hN:N≤8)(hB: ∀b∈B,b<2 ^N)(hl:B.length≤17592186044416){a b e:Nat}(ha:a<2 ^N)(hb:b<2 ^N)(he:a.testBit e=true):
  Ev (fun k=>qf.f k (N:Int) (ints B) a b e) (JK B a b e):=by
 have ha8:=jK hN ha
 have hb8:=jK hN hb
 have he8:e<8:=Mt.yz (n:=8) ha8 he
 rw [zcK hN hb]
 unfold qf.f
 have h:=vn (fun k f=>qf.l0 k a b e f N (ints B)) N (fun f r=>(b.testBit f&&(!a.testBit f&&decide (ins (del a e) f∈B)))||r) false
  (by simp only [qf.l0,show ¬((N:Int)< (N:Int)) by omega,if_false];exact Ev.now _) fun f hf r hr=>by
   simp only [qf.l0,show ((f:Int)< (N:Int)) by omega,if_true,zdF b f hb8 (by omega),zdF a f ha8 (by omega),Option.bind_some,zy (show f<9223372036854775807 by omega)]
   cases h1:b.testBit f
   ·simp only [Bool.false_eq_true,if_false,Bool.false_and,Bool.false_or];exact hr
   ·cases h2:a.testBit f
    ·have hd:=zfb (e:=e) ha8
     have e1:=zfN a ha8 e he8 he
     have hdf:(del a e).testBit f=false:=by rw [Mt.jT,h2];rfl
     have e2:=zfw (del a e) hd f (by omega) hdf
     have ew:wrap64 ((wrap64 ((a:Int) - (shl .i64 1 (IntKind.u64.wrap (e:Int)))))+(shl .i64 1 (IntKind.u64.wrap (f:Int))))=((ins (del a e) f:Nat):Int):=by
      have p1:2 ^e≤2 ^8:=Nat.pow_le_pow_right (by decide) (by omega)
      have p2:2 ^f≤2 ^8:=Nat.pow_le_pow_right (by decide) (by omega)
      rw [Zb (by omega) (by omega),Zb (n:=(f:Int)) (by omega) (by omega),Qo e (by omega),Qo f (by omega),e2]
      generalize 2 ^e=x at e1 p1 ⊢
      generalize 2 ^f=y at p2 ⊢
      rw [qQ (n:=(a:Int) - (x:Int)) (by omega) (by omega),qQ (by omega) (by omega)]
      omega
     simp only [Bool.false_eq_true,if_false,Bool.not_false,Bool.true_and]
     simp only [show (0:Int)≤IntKind.u64.wrap (e:Int) by rw [Zb (by omega) (by omega)];omega,show (0:Int)≤IntKind.u64.wrap (f:Int) by rw [Zb (by omega) (by omega)];omega,if_true,ew]
     refine Ev.bind (Jk (ints B) _ (by rw [zP];exact hl)) ?_
     simp only [zb0]
     by_cases hm:ins (del a e) f∈B
     ·simp only [hm,decide_true,if_true,Bool.true_or];exact Ev.now _
     ·simp only [hm,decide_false,Bool.false_eq_true,if_false,Bool.false_or];exact hr
    ·simp only [if_true,Bool.not_true,Bool.false_and,Bool.and_false,Bool.false_or];exact hr
 rw [QF,Bool.or_false] at h
 exact h
def ffS (N:Nat)(B:List Nat):Int×Int×Int×Bool:=
 (List.range B.length).foldr (fun i r=>(List.range B.length).foldr (fun j r=>(List.range N).foldr (fun e r=>
  if (B.getD i 0).testBit e&&(!(B.getD j 0).testBit e&& !JK B (B.getD i 0) (B.getD j 0) e) then (((B.getD i 0:Nat):Int),((B.getD j 0:Nat):Int),(e:Int),true) else r) r) r) (0,0,0,false)
def ffI (B:List Nat):Int×Int×Int×Bool:=
 (List.range B.length).foldr (fun i r=>(List.range B.length).foldr (fun j r=>(List.range (elems (sdiff (B.getD i 0) (B.getD j 0))).length).foldr (fun m r=>
  if !JK B (B.getD i 0) (B.getD j 0) ((elems (sdiff (B.getD i 0) (B.getD j 0))).getD m 0) then (((B.getD i 0:Nat):Int),((B.getD j 0:Nat):Int),(((elems (sdiff (B.getD i 0) (B.getD j 0))).getD m 0:Nat):Int),true) else r) r) r) (0,0,0,false)
theorem yI (i:Nat)(hi:i<B.length):B.getD i 0=B[i]:=by simp [List.getElem?_eq_getElem hi]
theorem Qt (i:Nat)(hi:i<B.length):rd (ints B) (i:Int)=((B.getD i 0:Nat):Int):=by rw [QP B i hi,yI i hi]
theorem Qu (hB: ∀b∈B,b<2 ^N)(i:Nat)(hi:i<B.length):B.getD i 0<2 ^N:=by rw [yI i hi];exact hB _ (List.getElem_mem hi)
theorem zdR (hN:N≤8)(hB: ∀b∈B,b<2 ^N)(hl:B.length≤17592186044416):Ev (fun k=>zu.l0 k (N:Int) (ints B) 0) (ffS N B):=by
 refine vn (fun k i=>zu.l0 k (N:Int) (ints B) i) B.length _ (0,0,0,false) ?_ fun i hi r hr=> ?_
 ·simp only [zu.l0,zP,show ¬((B.length:Int)< (B.length:Int)) by omega,if_false];exact Ev.now _
 simp only [zu.l0,zP,show ((i:Int)< (B.length:Int)) by omega,show (0:Int)≤(i:Int) by omega,if_true]
 refine vn (fun k j=>zu.l1 k (N:Int) (ints B) i j) B.length _ r ?_ fun j hj r hr=> ?_
 ·simp only [zu.l1,zP,show ¬((B.length:Int)< (B.length:Int)) by omega,if_false,zy (show i<9223372036854775807 by omega)];exact hr
 simp only [zu.l1,zP,show ((j:Int)< (B.length:Int)) by omega,show (0:Int)≤(j:Int) by omega,if_true]
 have ha:=Qu hB i hi
 have hb:=Qu hB j hj
 have ea:=Qt i hi
 have eb:=Qt j hj
 refine vn (fun k e=>zu.l2 k (N:Int) (ints B) i j e) N _ r ?_ fun e he r hr=> ?_
 ·simp only [zu.l2,show ¬((N:Int)< (N:Int)) by omega,if_false,zy (show j<9223372036854775807 by omega)];exact hr
 generalize B.getD i 0=a at ha ea ⊢
 generalize B.getD j 0=b at hb eb ⊢
 simp only [zu.l2,show ((e:Int)< (N:Int)) by omega,if_true,ea,eb,zdF a e (jK hN ha) (by omega),zdF b e (jK hN hb) (by omega),Option.bind_some,zy (show e<9223372036854775807 by omega)]
 cases h1:a.testBit e
 ·simp only [Bool.false_eq_true,if_false,Bool.false_and];exact hr
 ·cases h2:b.testBit e
  ·simp only [if_true,Bool.false_eq_true,if_false,Bool.not_false,Bool.true_and]
   refine Ev.bind (zgy hN hB hl ha hb h1) ?_
   cases h3:JK B a b e
   ·simp only [Bool.false_eq_true,if_false,Bool.not_false,if_true];exact Ev.now _
   ·simp only [if_true,Bool.not_true,Bool.false_eq_true,if_false];exact hr
  ·simp only [if_true,Bool.not_true,Bool.false_and,Bool.and_false,Bool.false_eq_true,if_false];exact hr
theorem zdq (Q:Nat→Int→Option Bool)(p:Nat→Bool): ∀l:List Nat,(∀x∈l,Ev (fun k=>Q k (x:Int)) (p x))→Ev (fun k=>JY (Q k) (ints l)) (l.any p)
 | [],_=>by simp only [ints,List.map_nil,JY,List.any_nil];exact Ev.now _
 |x::t,h=>by
  simp only [ints,List.map_cons,JY,List.any_cons]
  refine Ev.bind (h x (List.mem_cons_self ..)) ?_
  cases hp:p x
  ·simp only [Bool.false_eq_true,if_false,Bool.false_or];exact zdq Q p t fun y hy=>h y (List.mem_cons_of_mem _ hy)
  ·simp only [if_true,Bool.true_or];exact Ev.now _
theorem J3 {s:Nat}(h:s<256):ZQ (s:Int)=elems s:=by unfold ZQ;rw [if_pos (by simp [isAny];omega)];rfl
theorem zcv {a b:Nat}(h:a<256):sdiff a b<256:=YE (n:=8) h
theorem zd5 (hN:N≤8)(hB: ∀b∈B,b<2 ^N)(hl:B.length≤17592186044416):Ev (fun k=>zr.l0 k (ints B) 0) (ffI B):=by
 refine vn (fun k i=>zr.l0 k (ints B) i) B.length _ (0,0,0,false) ?_ fun i hi r hr=> ?_
 ·simp only [zr.l0,zP,show ¬((B.length:Int)< (B.length:Int)) by omega,if_false];exact Ev.now _
 simp only [zr.l0,zP,show ((i:Int)< (B.length:Int)) by omega,show (0:Int)≤(i:Int) by omega,if_true]
 have ha:=Qu hB i hi
 have ea:=Qt i hi
 refine vn (fun k j=>zr.l1 k (ints B) i j) B.length _ r ?_ fun j hj r hr=> ?_
 ·simp only [zr.l1,zP,show ¬((B.length:Int)< (B.length:Int)) by omega,if_false,zy (show i<9223372036854775807 by omega)];exact hr
 have hb:=Qu hB j hj
 have eb:=Qt j hj
 generalize B.getD i 0=a at ha ea ⊢
 generalize B.getD j 0=b at hb eb ⊢
 have ha8:=jK hN ha
 have hb8:=jK hN hb
 simp only [zr.l1,zP,show ((j:Int)< (B.length:Int)) by omega,show (0:Int)≤(j:Int) by omega,if_true,ea,eb,Qp a b (by omega) (by omega)]
 refine Ev.bind (ZZ _) ?_
 rw [J3 (zcv ha8)]
 have hes: ∀e∈elems (sdiff a b),e<8∧a.testBit e=true:=fun e he=>by
  have:=vU.1 he
  rw [qW] at this;simp at this;exact ⟨this.1,this.2.1⟩
 have hlen:=ZY (sdiff a b)
 generalize elems (sdiff a b)=es at hes hlen ⊢
 refine vn (fun k m=>zr.l2 k (ints B) i j (ints es) m) es.length _ r ?_ fun m hm r hr=> ?_
 ·simp only [zr.l2,zP,show ¬((es.length:Int)< (es.length:Int)) by omega,if_false,zy (show j<9223372036854775807 by omega)];exact hr
 have he:=hes es[m] (List.getElem_mem hm)
 have ee:=QP es m hm
 rw [show es.getD m 0=es[m] by simp [List.getElem?_eq_getElem hm]]
 generalize es[m]=e at he ee ⊢
 simp only [zr.l2,zP,show ((m:Int)< (es.length:Int)) by omega,show (0:Int)≤(m:Int) by omega,if_true,ea,eb,ee,Qp b a (by omega) (by omega),zy (show m<9223372036854775807 by omega)]
 refine Ev.bind (ZZ _) ?_
 rw [J3 (zcv hb8)]
 have hlf:=ZY (sdiff b a)
 simp only [zP,show (elems (sdiff b a)).length≤17592186044416 by omega,if_true]
 refine Ev.bind (zdq (fun k=>zr.q k (ints B) a e) (fun f=>decide (ins (del a e) f∈B)) (elems (sdiff b a)) fun f hf=> ?_) ?_
 ·have hf8:=(vU.1 hf).1
  have p1:2 ^e≤2 ^8:=Nat.pow_le_pow_right (by decide) (by omega)
  have p2:2 ^f≤2 ^8:=Nat.pow_le_pow_right (by decide) (by omega)
  have hd:=zfb (e:=e) ha8
  simp only [zr.q,show (0:Int)≤(e:Int) by omega,show (0:Int)≤(f:Int) by omega,if_true,Qo e (by omega),Qo f (by omega)]
  rw [Qp a (2 ^e) (by omega) (by omega),zfD (sdiff a (2 ^e)) (2 ^f) (by have:sdiff a (2 ^e)<256:=hd;omega) (by omega)]
  have hh:=YG (ints B) ((sdiff a (2 ^e) |||2 ^f:Nat):Int) (by rw [zP];exact hl)
  rw [show decide (((sdiff a (2 ^e) |||2 ^f:Nat):Int)∈ints B)=decide (ins (del a e) f∈B) by rw [decide_eq_decide];exact zb0] at hh
  exact hh
 show Ev _ (if (!JK B a b e)=true then _ else r)
 rw [show ((elems (sdiff b a)).any fun f=>decide (ins (del a e) f∈B))=JK B a b e from rfl]
 cases h3:JK B a b e
 ·simp only [Bool.false_eq_true,if_false,Bool.not_false,if_true];exact Ev.now _
 ·simp only [if_true,Bool.not_true,Bool.false_eq_true,if_false];exact hr
theorem JD {α ρ:Type}(c:ρ→Bool)(F:α→ρ→ρ)(P:α→Bool)(h: ∀x r,c (F x r)=(P x||c r))(r:ρ): ∀l:List α,c (l.foldr F r)=(l.any P||c r)
 | []=>by simp
 |x::t=>by rw [List.foldr_cons,h,JD c F P h r t,List.any_cons,Bool.or_assoc]
theorem zcp {α ρ:Type}(c:ρ→Bool)(p:α→Bool)(g:α→ρ)(hg: ∀x,c (g x)=true)(r:ρ)(l:List α):c (l.foldr (fun x r=>if p x=true then g x else r) r)=(l.any p||c r):=
 JD c _ p (fun x r=>by cases h:p x<;>simp [h,hg]) r l
theorem zfr (hN:N≤8)(hB: ∀b∈B,b<2 ^N):(ffS N B).2.2.2= !zfl B:=by
 unfold ffS
 rw [JD (fun r:Int×Int×Int×Bool=>r.2.2.2) _ (fun i=>(List.range B.length).any fun j=>(List.range N).any fun e=>(B.getD i 0).testBit e&&(!(B.getD j 0).testBit e&& !JK B (B.getD i 0) (B.getD j 0) e)) (fun i r=>by
  rw [JD (fun r:Int×Int×Int×Bool=>r.2.2.2) _ (fun j=>(List.range N).any fun e=>(B.getD i 0).testBit e&&(!(B.getD j 0).testBit e&& !JK B (B.getD i 0) (B.getD j 0) e)) (fun j r=>by
   exact zcp (fun r:Int×Int×Int×Bool=>r.2.2.2) _ _ (fun _=>rfl) r _)])]
 rw [Bool.or_false,Bool.eq_iff_iff]
 simp only [List.any_eq_true,List.mem_range,Bool.and_eq_true,Bool.not_eq_true']
 constructor
 ·rintro ⟨i,hi,j,hj,e,he,h1,h2,h3⟩
  rw [yI i hi] at h1 h3
  rw [yI j hj] at h2 h3
  rw [Bool.eq_false_iff]
  intro hm
  have:=List.all_eq_true.1 (List.all_eq_true.1 (List.all_eq_true.1 hm B[i] (List.getElem_mem hi)) B[j] (List.getElem_mem hj)) e (vU.2 ⟨by omega,by rw [qW,h1,h2];rfl⟩)
  rw [h3] at this;cases this
 ·intro hm
  obtain ⟨a,ha,h⟩:=List.all_eq_false.1 hm
  obtain ⟨b,hb,h⟩:=List.all_eq_false.1 (Bool.eq_false_iff.2 h)
  obtain ⟨e,he,h⟩:=List.all_eq_false.1 (Bool.eq_false_iff.2 h)
  obtain ⟨i,hi,rfl⟩:=List.getElem_of_mem ha
  obtain ⟨j,hj,rfl⟩:=List.getElem_of_mem hb
  have hd:=(vU.1 he).2
  rw [qW] at hd
  simp only [Bool.and_eq_true,Bool.not_eq_true'] at hd
  refine ⟨i,hi,j,hj,e,Mt.yz (hB _ ha) hd.1,?_⟩
  rw [yI i hi,yI j hj]
  exact ⟨hd.1,hd.2,Bool.eq_false_iff.2 h⟩
theorem zfV:(ffI B).2.2.2= !zfl B:=by
 unfold ffI
 rw [JD (fun r:Int×Int×Int×Bool=>r.2.2.2) _ (fun i=>(List.range B.length).any fun j=>(List.range (elems (sdiff (B.getD i 0) (B.getD j 0))).length).any fun m=> !JK B (B.getD i 0) (B.getD j 0) ((elems (sdiff (B.getD i 0) (B.getD j 0))).getD m 0)) (fun i r=>by
  rw [JD (fun r:Int×Int×Int×Bool=>r.2.2.2) _ (fun j=>(List.range (elems (sdiff (B.getD i 0) (B.getD j 0))).length).any fun m=> !JK B (B.getD i 0) (B.getD j 0) ((elems (sdiff (B.getD i 0) (B.getD j 0))).getD m 0)) (fun j r=>by
   exact zcp (fun r:Int×Int×Int×Bool=>r.2.2.2) _ _ (fun _=>rfl) r _)])]
 rw [Bool.or_false,Bool.eq_iff_iff]
 simp only [List.any_eq_true,List.mem_range,Bool.not_eq_true']
 constructor
 ·rintro ⟨i,hi,j,hj,m,hm,h3⟩
  rw [yI i hi,yI j hj] at h3 hm
  rw [Bool.eq_false_iff]
  intro hmm
  rw [show (elems (sdiff B[i] B[j])).getD m 0=(elems (sdiff B[i] B[j]))[m] by simp [List.getElem?_eq_getElem hm]] at h3
  have:=List.all_eq_true.1 (List.all_eq_true.1 (List.all_eq_true.1 hmm B[i] (List.getElem_mem hi)) B[j] (List.getElem_mem hj)) _ (List.getElem_mem hm)
  rw [h3] at this;cases this
 ·intro hm
  obtain ⟨a,ha,h⟩:=List.all_eq_false.1 hm
  obtain ⟨b,hb,h⟩:=List.all_eq_false.1 (Bool.eq_false_iff.2 h)
  obtain ⟨e,he,h⟩:=List.all_eq_false.1 (Bool.eq_false_iff.2 h)
  obtain ⟨i,hi,rfl⟩:=List.getElem_of_mem ha
  obtain ⟨j,hj,rfl⟩:=List.getElem_of_mem hb
  obtain ⟨m,hm,rfl⟩:=List.getElem_of_mem he
  refine ⟨i,hi,j,hj,m,?_,?_⟩
  ·rw [yI i hi,yI j hj];exact hm
  ·rw [yI i hi,yI j hj,show (elems (sdiff B[i] B[j])).getD m 0=(elems (sdiff B[i] B[j]))[m] by simp [List.getElem?_eq_getElem hm]]
   exact Bool.eq_false_iff.2 h
end
theorem Je (n:Int)(l:List Int)(hl:l.length≤17592186044416):Ev (fun k=>ju.f k n l) (jU n l):=by
 unfold ju.f zu.f jU
 have hf:=zcU n l hl
 cases h:Zz n l
 ·rw [h] at hf
  refine Ev.bind (Ev.bind hf (by simp only [Bool.false_eq_true,if_false];exact Ev.now _)) (Ev.bind hf ?_)
  simp only [Bool.false_eq_true,if_false,Bool.false_and];exact Ev.now _
 ·rw [h] at hf
  obtain ⟨N,B,rfl,hN,rfl,hB,hp⟩:=VZ h
  rw [zP] at hl
  refine Ev.bind (Ev.bind hf (by simp only [if_true];exact zdR hN hB hl)) (Ev.bind hf ?_)
  simp only [if_true,zfr hN hB,Bool.not_not,yv,Bool.true_and,zP]
  by_cases h0:0<B.length
  ·simp only [show ((B.length:Int)>0) by omega,if_true,h0,decide_true,Bool.true_and];exact Ev.now _
  ·simp only [show ¬((B.length:Int)>0) by omega,if_false,h0,decide_false,Bool.false_and];exact Ev.now _
theorem Yb (n:Int)(l:List Int)(hl:l.length≤17592186044416):Ev (fun k=>jF.f k n l) (jU n l):=by
 unfold jF.f zr.f jU
 have hf:=zcM n l hl
 cases h:Zz n l
 ·rw [h] at hf
  refine Ev.bind (Ev.bind hf (by simp only [Bool.false_eq_true,if_false];exact Ev.now _)) (Ev.bind hf ?_)
  simp only [Bool.false_eq_true,if_false,Bool.false_and];exact Ev.now _
 ·rw [h] at hf
  obtain ⟨N,B,rfl,hN,rfl,hB,hp⟩:=VZ h
  rw [zP] at hl
  refine Ev.bind (Ev.bind hf (by simp only [if_true];exact zd5 hN hB hl)) (Ev.bind hf ?_)
  simp only [if_true,zfV,Bool.not_not,yv,Bool.true_and,zP]
  by_cases h0:0<B.length
  ·simp only [show ((B.length:Int)>0) by omega,if_true,h0,decide_true,Bool.true_and];exact Ev.now _
  ·simp only [show ¬((B.length:Int)>0) by omega,if_false,h0,decide_false,Bool.false_and];exact Ev.now _
end L
end
section
namespace L
open Go.RowKit F Wa Wb Wc
open Bits
open Mt (sdiff qW elems vU cnt zfn full ins del Mat jK rk)
theorem zd0: ∀s:Nat,s<256→cnt s=s%2+cnt (s / 2):=by decide+kernel
theorem YT: ∀(d s:Nat) (x:Int),s<2 ^d→d≤8→0≤x→x+d≤100→Ev (fun k=>qt.l0 k (s:Int) x) (x+cnt s)
 |0,s,x,hs,_,h0,h1=>by
  have:s=0:=by simp at hs;exact hs
  subst this
  refine Ev.succ ?_
  simp only [qt.l0,show ¬(((0:Nat):Int)>0) by omega,if_false]
  exact Ev.some (by rw [Mt.YW];omega)
 |d+1,s,x,hs,hd,h0,h1=>by
  refine Ev.succ ?_
  by_cases hz:s=0
  ·subst hz
   simp only [qt.l0,show ¬(((0:Nat):Int)>0) by omega,if_false]
   exact Ev.some (by rw [Mt.YW];omega)
  ·have h256:s<256:=Nat.lt_of_lt_of_le hs (Nat.pow_le_pow_right (n:=2) (by decide) hd)
   have hb:=zd0 s h256
   have e1:Go.bits .and .i64 (s:Int) 1=((s%2:Nat):Int):=by
    have:=Vg s 1 (by omega) (by omega)
    rw [show ((1:Nat):Int)=1 from rfl] at this
    rw [this,Nat.and_one_is_mod]
   have e2:(s:Int) / 2=((s / 2:Nat):Int):=by omega
   have hlt:s / 2<2 ^d:=by rw [Nat.pow_succ] at hs;omega
   simp only [qt.l0,show ((s:Int)>0) by omega,if_true,e1,e2]
   rw [qQ (by omega) (by omega)]
   have ih:=YT d (s / 2) (x+((s%2:Nat):Int)) hlt (by omega) (by omega) (by omega)
   rw [show x+(cnt s:Int)=x+((s%2:Nat):Int)+(cnt (s / 2):Int) by rw [hb];omega]
   exact ih
theorem Jt (s:Int):Ev (fun k=>qt.f k s) (zdf s:Int):=by
 unfold qt.f zdf isAny
 simp only [Vo,Option.bind_some,decide_eq_true_eq]
 by_cases h:0≤s∧s<256
 ·obtain ⟨a,rfl⟩:=Int.eq_ofNat_of_zero_le h.1
  simp only [show (0:Int)≤8∧(8:Int)≤8∧(0:Int)≤(a:Int)∧(a:Int)<2 ^(8:Int).toNat from ⟨by omega,by omega,by omega,by simpa using h.2⟩,and_self,if_true,h,decide_true,Int.toNat_natCast]
  have:=YT 8 a 0 (by omega) (by omega) (by omega) (by omega)
  simpa using this
 ·have h': ¬(0≤(8:Int)∧(8:Int)≤8∧0≤s∧s<2 ^(8:Int).toNat):=fun hh=>h ⟨hh.2.2.1,by simpa using hh.2.2.2⟩
  first
   |(simp only [if_neg h',if_neg h,decide_eq_false h,Bool.false_eq_true,if_false];exact Ev.now _)
   |(simp only [h,decide_false,Bool.false_eq_true,if_false];exact Ev.now _)
theorem Jm {s:Nat}(h:s<256):zdf (s:Int)=cnt s:=by unfold zdf;rw [if_pos (by simp [isAny];omega)];rfl
theorem zhf (a b:Int):Zi.f a b=some (max a b):=by
 unfold Zi.f
 by_cases h:a>b
 ·rw [if_pos h,show max a b=a by omega]
 ·rw [if_neg h,show max a b=b by omega]
theorem zdK (B:List Nat)(s:Nat): ∀n,n≤B.length→((List.range n).foldl (fun (m:Int) i=>max m ((cnt (s &&&B.getD i 0):Nat):Int)) 0)=((rk (B.take n) s:Nat):Int)
 |0,_=>by simp [rk]
 |n+1,h=>by
  rw [List.range_succ,List.foldl_append,zdK B s n (by omega),List.take_succ_eq_append_getElem (by omega)]
  simp only [List.foldl_cons,List.foldl_nil,rk,List.foldl_append]
  rw [show B.getD n 0=B[n] by simp [List.getElem?_eq_getElem (show n<B.length by omega)]]
  omega
section
variable {N:Nat} {B:List Nat}
theorem zgl (hN:N≤8)(hB: ∀b∈B,b<2 ^N)(hl:B.length≤17592186044416){s:Nat}(hs:s<256)(n:Int):Ev (fun k=>jy.f k n (ints B) s) (rk B s:Int):=by
 unfold jy.f
 have key:=QT (fun k (m:Int) i=>jy.l0 k s m i n (ints B)) B.length (fun m i=>max m ((cnt (s &&&B.getD i 0):Nat):Int)) (fun _ _=>True) id
  (fun m _=>by simp only [jy.l0,zP,show ¬((B.length:Int)< (B.length:Int)) by omega,if_false];exact Ev.now _)
  (fun i m hi _=>⟨trivial,fun r hr=>by
   have hb:=Qu hB i hi
   have eb:=Qt i hi
   generalize B.getD i 0=b at hb eb hr
   have hb8:=jK hN hb
   simp only [jy.l0,zP,show ((i:Int)< (B.length:Int)) by omega,show (0:Int)≤(i:Int) by omega,if_true,eb,Vg b s (by omega) (by omega),zy (show i<9223372036854775807 by omega)]
   refine Ev.bind (Jt _) ?_
   rw [Jm (Nat.lt_of_le_of_lt Nat.and_le_left hb8),Nat.and_comm b s]
   simp only [zhf,Option.bind_some]
   exact hr⟩) 0 trivial
 have e:=zdK B s B.length (Nat.le_refl _)
 rw [List.take_length] at e
 rw [e] at key
 exact key
end
theorem zaI {N:Nat}(hN:N≤8):vZ.f (N:Int)=some ((full N:Nat):Int):=by
 unfold vZ.f full
 have hp:(2:Nat) ^N≤2 ^8:=Nat.pow_le_pow_right (by decide) hN
 have h0:0< (2:Nat) ^N:=Nat.two_pow_pos N
 simp only [Vl,Option.bind_some,decide_eq_true_eq,show (0:Int)≤(N:Int)∧(N:Int)≤8 from ⟨by omega,by omega⟩,and_self,if_true,show (0:Int)≤(N:Int) by omega,Qo N (by omega)]
 generalize 2 ^N=x at hp h0
 rw [qQ (by omega) (by omega)];simp;omega
theorem Z7 {N:Nat}(hN:N≤8):jf.f (N:Int)=some ((full N:Nat):Int):=by
 unfold jf.f full
 have hp:(2:Nat) ^N≤2 ^8:=Nat.pow_le_pow_right (by decide) hN
 have h0:0< (2:Nat) ^N:=Nat.two_pow_pos N
 simp only [zcQ,Option.bind_some,decide_eq_true_eq,show (0:Int)≤(N:Int)∧(N:Int)≤8 from ⟨by omega,by omega⟩,and_self,if_true]
 rw [Zb (by omega) (by omega),Qo N (by omega),if_pos (by omega)]
 generalize 2 ^N=x at hp h0
 rw [qQ (by omega) (by omega)];simp;omega
theorem QV {N s:Nat}:((s:Int)≤((full N:Nat):Int))↔s<2 ^N:=by
 have h0:0< (2:Nat) ^N:=Nat.two_pow_pos N
 unfold full
 generalize 2 ^N=x at h0
 omega
end L
end
end Go.Proofs.YtkeobjoaimedaaaGreat
