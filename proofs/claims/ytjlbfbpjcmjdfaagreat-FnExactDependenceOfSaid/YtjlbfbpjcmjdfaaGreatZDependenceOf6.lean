/- Several texts of this session in one: LMatroid, LRank, LSetsOf, LIndep, LSortSets, LMinimal, LMaximal, LSame, LFromIndep, LMatOf, LLinMat, LFromMat, LCircuits, LDep, LDepend, LMark, LMarkM, PuFnExactDependenceOf, LawFnExactDependenceOf. Conditions: as each theorem says. -/
import Derived.Test.YtjlbfbpjcmjdfaaGreatZDependenceOf3
import Derived.Test.YtjlbfbpjcmjdfaaGreatZDependenceOf5
import Derived.Test.YtjlbfbpjcmjdfaaGreatZDependenceOf1
import Derived.Test.YtjlbfbpjcmjdfaaGreatZDependenceOf4
import Derived.Test.YtjlbfbpjcmjdfaaGreatZDependenceOf2
import Derived.Test.YtjlbfbpjcmjdfaaGreatRows
import Derived.Test.YtjlbfbpjcmjdfaaGreatZDependenceOf0
import Derived.WalkKit
import Derived.ProofKit
import Derived.OpenShut
import Derived.ShutString
import Derived.ChangeOld
import Derived.Below
import Derived.SizedLaws
import Derived.Lib.SmallJoins
set_option maxRecDepth 100000
section
namespace Go.Proofs.YtjlbfbpjcmjdfaaGreat.L
open Go.RowKit Go.Proofs.YtjlbfbpjcmjdfaaGreat.F Go.Proofs.YtjlbfbpjcmjdfaaGreatW.PrintWords Go.Proofs.YtjlbfbpjcmjdfaaGreatW.PrintLast Go.Proofs.YtjlbfbpjcmjdfaaGreatW.PrintMore
open Go.Proofs.YtjlbfbpjcmjdfaaGreat.Bits
open Go.Proofs.YtjlbfbpjcmjdfaaGreat.Mt (sdiff qQ elems jW cnt full ins del Mat jE)
set_option linter.unusedSimpArgs false
set_option linter.unusedVariables false
theorem zdv: ∀a:Nat,a<256→ ∀e:Nat,e<8→a.testBit e=true→del a e+2 ^e=a:=by decide+kernel
theorem zdI: ∀a:Nat,a<256→ ∀f:Nat,f<8→a.testBit f=false→ins a f=a+2 ^f:=by decide+kernel
theorem zc5 {a e:Nat}(h:a<256):del a e<256:=Nat.lt_of_le_of_lt (Mt.zcm (Mt.yr a e)) h
theorem zaK {B:List Nat}{x:Nat}:((x:Int)∈ints B)↔x∈B:=by
  simp only [ints,List.mem_map]
  constructor
  · rintro ⟨y,hy,e⟩
    have:y=x:=by omega
    rw [←this];exact hy
  · intro h;exact ⟨x,h,rfl⟩
/-- Some element of b can be put for e in a. -/
def QB (B:List Nat)(a b e:Nat):Bool:=(elems (sdiff b a)).any fun f=>decide (ins (del a e) f∈B)
theorem za5 {B:List Nat}{N a b e:Nat}(hN:N≤8)(hb:b<2 ^N):QB B a b e=(List.range N).any fun f=>b.testBit f&&(!a.testBit f&&decide (ins (del a e) f∈B)):=by
  unfold QB
  rw [Bool.eq_iff_iff]
  simp only [List.any_eq_true,jW,List.mem_range,qQ,Bool.and_eq_true,Bool.not_eq_true',decide_eq_true_eq]
  constructor
  · rintro ⟨f,⟨_,h1,h2⟩,h3⟩;exact ⟨f,Mt.vX hb h1,h1,h2,h3⟩
  · rintro ⟨f,h0,h1,h2,h3⟩;exact ⟨f,⟨by omega,h1,h2⟩,h3⟩
def zcW (B:List Nat):Bool:=B.all fun a=>B.all fun b=>(elems (sdiff a b)).all fun e=>QB B a b e
def jY (n:Int)(l:List Int):Bool:=yM n l&&decide (0<l.length)&&zcW (l.map Int.toNat)
theorem yh (B:List Nat):(ints B).map Int.toNat=B:=by
  simp only [ints,List.map_map]
  induction B with
  |nil=>rfl
  |cons x t ih=>simp only [List.map_cons,ih];rfl
/-- What a matroid holds. -/
theorem Yy {n:Int}{l:List Int}(h:jY n l=true): ∃(N:Nat) (B:List Nat),n=N∧l=ints B∧B.Pairwise (· < ·)∧Mat N B:=by
  unfold jY at h
  simp only [Bool.and_eq_true,decide_eq_true_eq] at h
  obtain ⟨⟨h1,h2⟩,h3⟩:=h
  obtain ⟨N,B,rfl,hN,rfl,hB,hp⟩:=JE h1
  rw [yh] at h3
  refine ⟨N,B,rfl,rfl,hp,⟨hN,hB,?_,?_⟩⟩
  · intro e;rw [e] at h2;simp [ints] at h2
  · intro a ha b hb e he hbe
    have h4:=List.all_eq_true.1 (List.all_eq_true.1 (List.all_eq_true.1 h3 a ha) b hb) e (jW.2 ⟨Mt.vX (n:=8) (jE hN (hB a ha)) he,by rw [qQ,he,hbe];rfl⟩)
    simp only [QB,List.any_eq_true,jW,qQ,Bool.and_eq_true,Bool.not_eq_true',decide_eq_true_eq] at h4
    obtain ⟨f,⟨_,h5,h6⟩,h7⟩:=h4
    exact ⟨f,h5,h6,h7⟩
theorem zbx (a e:Nat)(ha:a<256)(he:e≤64):qe.f (a:Int) (e:Int)=some (a.testBit e):=by
  unfold qe.f;rw [yq (by omega) (by omega),if_pos (by omega),J2 _ _ (by omega) (by omega)]
section
variable {N:Nat} {B:List Nat}
theorem zek (hN:N≤8)(hB: ∀b∈B,b<2 ^N)(hl:B.length≤17592186044416){a b e:Nat}(ha:a<2 ^N)(hb:b<2 ^N)(he:a.testBit e=true):
    Ev (fun k=>z1.f k (N:Int) (ints B) a b e) (QB B a b e):=by
  have ha8:=jE hN ha
  have hb8:=jE hN hb
  have he8:e<8:=Mt.vX (n:=8) ha8 he
  rw [za5 hN hb]
  unfold z1.f
  have h:=vy (fun k f=>z1.l0 k a b e f N (ints B)) N (fun f r=>(b.testBit f&&(!a.testBit f&&decide (ins (del a e) f∈B)))||r) false
    (by simp only [z1.l0,show ¬((N:Int)< (N:Int)) by omega,if_false];exact Ev.now _) fun f hf r hr=>by
      simp only [z1.l0,show ((f:Int)< (N:Int)) by omega,if_true,zbx b f hb8 (by omega),zbx a f ha8 (by omega),Option.bind_some,zB (show f<9223372036854775807 by omega)]
      cases h1:b.testBit f
      · simp only [Bool.false_eq_true,if_false,Bool.false_and,Bool.false_or];exact hr
      · cases h2:a.testBit f
        · have hd:=zc5 (e:=e) ha8
          have e1:=zdv a ha8 e he8 he
          have hdf:(del a e).testBit f=false:=by rw [Mt.jn,h2];rfl
          have e2:=zdI (del a e) hd f (by omega) hdf
          have ew:wrap64 ((wrap64 ((a:Int) - (shl .i64 1 (IntKind.u64.wrap (e:Int)))))+(shl .i64 1 (IntKind.u64.wrap (f:Int))))=((ins (del a e) f:Nat):Int):=by
            have p1:2 ^e≤2 ^8:=Nat.pow_le_pow_right (by decide) (by omega)
            have p2:2 ^f≤2 ^8:=Nat.pow_le_pow_right (by decide) (by omega)
            rw [yq (by omega) (by omega),yq (n:=(f:Int)) (by omega) (by omega),Zu e (by omega),Zu f (by omega),e2]
            generalize 2 ^e=x at e1 p1 ⊢
            generalize 2 ^f=y at p2 ⊢
            rw [ja (n:=(a:Int) - (x:Int)) (by omega) (by omega),ja (by omega) (by omega)]
            omega
          simp only [Bool.false_eq_true,if_false,Bool.not_false,Bool.true_and]
          simp only [show (0:Int)≤IntKind.u64.wrap (e:Int) by rw [yq (by omega) (by omega)];omega,show (0:Int)≤IntKind.u64.wrap (f:Int) by rw [yq (by omega) (by omega)];omega,if_true,ew]
          refine Ev.bind (Qh (ints B) _ (by rw [zN];exact hl)) ?_
          simp only [zaK]
          by_cases hm:ins (del a e) f∈B
          · simp only [hm,decide_true,if_true,Bool.true_or];exact Ev.now _
          · simp only [hm,decide_false,Bool.false_eq_true,if_false,Bool.false_or];exact hr
        · simp only [if_true,Bool.not_true,Bool.false_and,Bool.and_false,Bool.false_or];exact hr
  rw [Qs,Bool.or_false] at h
  exact h
/-- The failing element of two bases, as1 the reference looks for it: over all places. -/
def ffS (N:Nat)(B:List Nat):Int×Int×Int×Bool:=
  (List.range B.length).foldr (fun i r=>(List.range B.length).foldr (fun j r=>(List.range N).foldr (fun e r=>
    if (B.getD i 0).testBit e&&(!(B.getD j 0).testBit e&& !QB B (B.getD i 0) (B.getD j 0) e) then (((B.getD i 0:Nat):Int),((B.getD j 0:Nat):Int),(e:Int),true) else r) r) r) (0,0,0,false)
/-- The same, as1 the program looks for it: over the elements of the difference. -/
def ffI (B:List Nat):Int×Int×Int×Bool:=
  (List.range B.length).foldr (fun i r=>(List.range B.length).foldr (fun j r=>(List.range (elems (sdiff (B.getD i 0) (B.getD j 0))).length).foldr (fun m r=>
    if !QB B (B.getD i 0) (B.getD j 0) ((elems (sdiff (B.getD i 0) (B.getD j 0))).getD m 0) then (((B.getD i 0:Nat):Int),((B.getD j 0:Nat):Int),(((elems (sdiff (B.getD i 0) (B.getD j 0))).getD m 0:Nat):Int),true) else r) r) r) (0,0,0,false)
theorem yb (i:Nat)(hi:i<B.length):B.getD i 0=B[i]:=by simp [List.getElem?_eq_getElem hi]
theorem Qj (i:Nat)(hi:i<B.length):rd (ints B) (i:Int)=((B.getD i 0:Nat):Int):=by rw [Qq B i hi,yb i hi]
theorem Qw (hB: ∀b∈B,b<2 ^N)(i:Nat)(hi:i<B.length):B.getD i 0<2 ^N:=by rw [yb i hi];exact hB _ (List.getElem_mem hi)
theorem zb6 (hN:N≤8)(hB: ∀b∈B,b<2 ^N)(hl:B.length≤17592186044416):Ev (fun k=>zr.l0 k (N:Int) (ints B) 0) (ffS N B):=by
  refine vy (fun k i=>zr.l0 k (N:Int) (ints B) i) B.length _ (0,0,0,false) ?_ fun i hi r hr=> ?_
  · simp only [zr.l0,zN,show ¬((B.length:Int)< (B.length:Int)) by omega,if_false];exact Ev.now _
  simp only [zr.l0,zN,show ((i:Int)< (B.length:Int)) by omega,show (0:Int)≤(i:Int) by omega,if_true]
  refine vy (fun k j=>zr.l1 k (N:Int) (ints B) i j) B.length _ r ?_ fun j hj r hr=> ?_
  · simp only [zr.l1,zN,show ¬((B.length:Int)< (B.length:Int)) by omega,if_false,zB (show i<9223372036854775807 by omega)];exact hr
  simp only [zr.l1,zN,show ((j:Int)< (B.length:Int)) by omega,show (0:Int)≤(j:Int) by omega,if_true]
  have ha:=Qw hB i hi
  have hb:=Qw hB j hj
  have ea:=Qj i hi
  have eb:=Qj j hj
  refine vy (fun k e=>zr.l2 k (N:Int) (ints B) i j e) N _ r ?_ fun e he r hr=> ?_
  · simp only [zr.l2,show ¬((N:Int)< (N:Int)) by omega,if_false,zB (show j<9223372036854775807 by omega)];exact hr
  generalize B.getD i 0=a at ha ea ⊢
  generalize B.getD j 0=b at hb eb ⊢
  simp only [zr.l2,show ((e:Int)< (N:Int)) by omega,if_true,ea,eb,zbx a e (jE hN ha) (by omega),zbx b e (jE hN hb) (by omega),Option.bind_some,zB (show e<9223372036854775807 by omega)]
  cases h1:a.testBit e
  · simp only [Bool.false_eq_true,if_false,Bool.false_and];exact hr
  · cases h2:b.testBit e
    · simp only [if_true,Bool.false_eq_true,if_false,Bool.not_false,Bool.true_and]
      refine Ev.bind (zek hN hB hl ha hb h1) ?_
      cases h3:QB B a b e
      · simp only [Bool.false_eq_true,if_false,Bool.not_false,if_true];exact Ev.now _
      · simp only [if_true,Bool.not_true,Bool.false_eq_true,if_false];exact hr
    · simp only [if_true,Bool.not_true,Bool.false_and,Bool.and_false,Bool.false_eq_true,if_false];exact hr
theorem zbv (Q:Nat→Int→Option Bool)(p:Nat→Bool): ∀l:List Nat,(∀x∈l,Ev (fun k=>Q k (x:Int)) (p x))→Ev (fun k=>QN (Q k) (ints l)) (l.any p)
  | [],_=>by simp only [ints,List.map_nil,QN,List.any_nil];exact Ev.now _
  |x::t,h=>by
    simp only [ints,List.map_cons,QN,List.any_cons]
    refine Ev.bind (h x (List.mem_cons_self ..)) ?_
    cases hp:p x
    · simp only [Bool.false_eq_true,if_false,Bool.false_or];exact zbv Q p t fun y hy=>h y (List.mem_cons_of_mem _ hy)
    · simp only [if_true,Bool.true_or];exact Ev.now _
theorem QR {s:Nat}(h:s<256):y4 (s:Int)=elems s:=by unfold y4;rw [if_pos (by simp [isAny];omega)];rfl
theorem zaI {a b:Nat}(h:a<256):sdiff a b<256:=zak (n:=8) h
theorem zb4 (hN:N≤8)(hB: ∀b∈B,b<2 ^N)(hl:B.length≤17592186044416):Ev (fun k=>zn.l0 k (ints B) 0) (ffI B):=by
  refine vy (fun k i=>zn.l0 k (ints B) i) B.length _ (0,0,0,false) ?_ fun i hi r hr=> ?_
  · simp only [zn.l0,zN,show ¬((B.length:Int)< (B.length:Int)) by omega,if_false];exact Ev.now _
  simp only [zn.l0,zN,show ((i:Int)< (B.length:Int)) by omega,show (0:Int)≤(i:Int) by omega,if_true]
  have ha:=Qw hB i hi
  have ea:=Qj i hi
  refine vy (fun k j=>zn.l1 k (ints B) i j) B.length _ r ?_ fun j hj r hr=> ?_
  · simp only [zn.l1,zN,show ¬((B.length:Int)< (B.length:Int)) by omega,if_false,zB (show i<9223372036854775807 by omega)];exact hr
  have hb:=Qw hB j hj
  have eb:=Qj j hj
  generalize B.getD i 0=a at ha ea ⊢
  generalize B.getD j 0=b at hb eb ⊢
  have ha8:=jE hN ha
  have hb8:=jE hN hb
  simp only [zn.l1,zN,show ((j:Int)< (B.length:Int)) by omega,show (0:Int)≤(j:Int) by omega,if_true,ea,eb,Zy a b (by omega) (by omega)]
  refine Ev.bind (Ze _) ?_
  rw [QR (zaI ha8)]
  have hes: ∀e∈elems (sdiff a b),e<8∧a.testBit e=true:=fun e he=>by
    have:=jW.1 he
    rw [qQ] at this;simp at this;exact ⟨this.1,this.2.1⟩
  have hlen:=Zc (sdiff a b)
  generalize elems (sdiff a b)=es at hes hlen ⊢
  refine vy (fun k m=>zn.l2 k (ints B) i j (ints es) m) es.length _ r ?_ fun m hm r hr=> ?_
  · simp only [zn.l2,zN,show ¬((es.length:Int)< (es.length:Int)) by omega,if_false,zB (show j<9223372036854775807 by omega)];exact hr
  have he:=hes es[m] (List.getElem_mem hm)
  have ee:=Qq es m hm
  rw [show es.getD m 0=es[m] by simp [List.getElem?_eq_getElem hm]]
  generalize es[m]=e at he ee ⊢
  simp only [zn.l2,zN,show ((m:Int)< (es.length:Int)) by omega,show (0:Int)≤(m:Int) by omega,if_true,ea,eb,ee,Zy b a (by omega) (by omega),zB (show m<9223372036854775807 by omega)]
  refine Ev.bind (Ze _) ?_
  rw [QR (zaI hb8)]
  have hlf:=Zc (sdiff b a)
  simp only [zN,show (elems (sdiff b a)).length≤17592186044416 by omega,if_true]
  refine Ev.bind (zbv (fun k=>zn.q k (ints B) a e) (fun f=>decide (ins (del a e) f∈B)) (elems (sdiff b a)) fun f hf=> ?_) ?_
  · have hf8:=(jW.1 hf).1
    have p1:2 ^e≤2 ^8:=Nat.pow_le_pow_right (by decide) (by omega)
    have p2:2 ^f≤2 ^8:=Nat.pow_le_pow_right (by decide) (by omega)
    have hd:=zc5 (e:=e) ha8
    simp only [zn.q,show (0:Int)≤(e:Int) by omega,show (0:Int)≤(f:Int) by omega,if_true,Zu e (by omega),Zu f (by omega)]
    rw [Zy a (2 ^e) (by omega) (by omega),zdK (sdiff a (2 ^e)) (2 ^f) (by have:sdiff a (2 ^e)<256:=hd;omega) (by omega)]
    have hh:=Vb (ints B) ((sdiff a (2 ^e) |||2 ^f:Nat):Int) (by rw [zN];exact hl)
    rw [show decide (((sdiff a (2 ^e) |||2 ^f:Nat):Int)∈ints B)=decide (ins (del a e) f∈B) by rw [decide_eq_decide];exact zaK] at hh
    exact hh
  show Ev _ (if (!QB B a b e)=true then _ else r)
  rw [show ((elems (sdiff b a)).any fun f=>decide (ins (del a e) f∈B))=QB B a b e from rfl]
  cases h3:QB B a b e
  · simp only [Bool.false_eq_true,if_false,Bool.not_false,if_true];exact Ev.now _
  · simp only [if_true,Bool.not_true,Bool.false_eq_true,if_false];exact hr
theorem Qy {α ρ:Type}(c:ρ→Bool)(F:α→ρ→ρ)(P:α→Bool)(h: ∀x r,c (F x r)=(P x||c r))(r:ρ): ∀l:List α,c (l.foldr F r)=(l.any P||c r)
  | []=>by simp
  |x::t=>by rw [List.foldr_cons,h,Qy c F P h r t,List.any_cons,Bool.or_assoc]
theorem zaf {α ρ:Type}(c:ρ→Bool)(p:α→Bool)(g:α→ρ)(hg: ∀x,c (g x)=true)(r:ρ)(l:List α):c (l.foldr (fun x r=>if p x=true then g x else r) r)=(l.any p||c r):=
  Qy c _ p (fun x r=>by cases h:p x<;>simp [h,hg]) r l
theorem zdW (hN:N≤8)(hB: ∀b∈B,b<2 ^N):(ffS N B).2.2.2= !zcW B:=by
  unfold ffS
  rw [Qy (fun r:Int×Int×Int×Bool=>r.2.2.2) _ (fun i=>(List.range B.length).any fun j=>(List.range N).any fun e=>(B.getD i 0).testBit e&&(!(B.getD j 0).testBit e&& !QB B (B.getD i 0) (B.getD j 0) e)) (fun i r=>by
    rw [Qy (fun r:Int×Int×Int×Bool=>r.2.2.2) _ (fun j=>(List.range N).any fun e=>(B.getD i 0).testBit e&&(!(B.getD j 0).testBit e&& !QB B (B.getD i 0) (B.getD j 0) e)) (fun j r=>by
      exact zaf (fun r:Int×Int×Int×Bool=>r.2.2.2) _ _ (fun _=>rfl) r _)])]
  rw [Bool.or_false,Bool.eq_iff_iff]
  simp only [List.any_eq_true,List.mem_range,Bool.and_eq_true,Bool.not_eq_true']
  constructor
  · rintro ⟨i,hi,j,hj,e,he,h1,h2,h3⟩
    rw [yb i hi] at h1 h3
    rw [yb j hj] at h2 h3
    rw [Bool.eq_false_iff]
    intro hm
    have:=List.all_eq_true.1 (List.all_eq_true.1 (List.all_eq_true.1 hm B[i] (List.getElem_mem hi)) B[j] (List.getElem_mem hj)) e (jW.2 ⟨by omega,by rw [qQ,h1,h2];rfl⟩)
    rw [h3] at this;cases this
  · intro hm
    obtain ⟨a,ha,h⟩:=List.all_eq_false.1 hm
    obtain ⟨b,hb,h⟩:=List.all_eq_false.1 (Bool.eq_false_iff.2 h)
    obtain ⟨e,he,h⟩:=List.all_eq_false.1 (Bool.eq_false_iff.2 h)
    obtain ⟨i,hi,rfl⟩:=List.getElem_of_mem ha
    obtain ⟨j,hj,rfl⟩:=List.getElem_of_mem hb
    have hd:=(jW.1 he).2
    rw [qQ] at hd
    simp only [Bool.and_eq_true,Bool.not_eq_true'] at hd
    refine ⟨i,hi,j,hj,e,Mt.vX (hB _ ha) hd.1,?_⟩
    rw [yb i hi,yb j hj]
    exact ⟨hd.1,hd.2,Bool.eq_false_iff.2 h⟩
theorem zdt:(ffI B).2.2.2= !zcW B:=by
  unfold ffI
  rw [Qy (fun r:Int×Int×Int×Bool=>r.2.2.2) _ (fun i=>(List.range B.length).any fun j=>(List.range (elems (sdiff (B.getD i 0) (B.getD j 0))).length).any fun m=> !QB B (B.getD i 0) (B.getD j 0) ((elems (sdiff (B.getD i 0) (B.getD j 0))).getD m 0)) (fun i r=>by
    rw [Qy (fun r:Int×Int×Int×Bool=>r.2.2.2) _ (fun j=>(List.range (elems (sdiff (B.getD i 0) (B.getD j 0))).length).any fun m=> !QB B (B.getD i 0) (B.getD j 0) ((elems (sdiff (B.getD i 0) (B.getD j 0))).getD m 0)) (fun j r=>by
      exact zaf (fun r:Int×Int×Int×Bool=>r.2.2.2) _ _ (fun _=>rfl) r _)])]
  rw [Bool.or_false,Bool.eq_iff_iff]
  simp only [List.any_eq_true,List.mem_range,Bool.not_eq_true']
  constructor
  · rintro ⟨i,hi,j,hj,m,hm,h3⟩
    rw [yb i hi,yb j hj] at h3 hm
    rw [Bool.eq_false_iff]
    intro hmm
    rw [show (elems (sdiff B[i] B[j])).getD m 0=(elems (sdiff B[i] B[j]))[m] by simp [List.getElem?_eq_getElem hm]] at h3
    have:=List.all_eq_true.1 (List.all_eq_true.1 (List.all_eq_true.1 hmm B[i] (List.getElem_mem hi)) B[j] (List.getElem_mem hj)) _ (List.getElem_mem hm)
    rw [h3] at this;cases this
  · intro hm
    obtain ⟨a,ha,h⟩:=List.all_eq_false.1 hm
    obtain ⟨b,hb,h⟩:=List.all_eq_false.1 (Bool.eq_false_iff.2 h)
    obtain ⟨e,he,h⟩:=List.all_eq_false.1 (Bool.eq_false_iff.2 h)
    obtain ⟨i,hi,rfl⟩:=List.getElem_of_mem ha
    obtain ⟨j,hj,rfl⟩:=List.getElem_of_mem hb
    obtain ⟨m,hm,rfl⟩:=List.getElem_of_mem he
    refine ⟨i,hi,j,hj,m,?_,?_⟩
    · rw [yb i hi,yb j hj];exact hm
    · rw [yb i hi,yb j hj,show (elems (sdiff B[i] B[j])).getD m 0=(elems (sdiff B[i] B[j]))[m] by simp [List.getElem?_eq_getElem hm]]
      exact Bool.eq_false_iff.2 h
end
theorem zai (n:Int)(l:List Int)(hl:l.length≤17592186044416):Ev (fun k=>jV.f k n l) (jY n l):=by
  unfold jV.f zr.f jY
  have hf:=za9 n l hl
  cases h:yM n l
  · rw [h] at hf
    refine Ev.bind (Ev.bind hf (by simp only [Bool.false_eq_true,if_false];exact Ev.now _)) (Ev.bind hf ?_)
    simp only [Bool.false_eq_true,if_false,Bool.false_and];exact Ev.now _
  · rw [h] at hf
    obtain ⟨N,B,rfl,hN,rfl,hB,hp⟩:=JE h
    rw [zN] at hl
    refine Ev.bind (Ev.bind hf (by simp only [if_true];exact zb6 hN hB hl)) (Ev.bind hf ?_)
    simp only [if_true,zdW hN hB,Bool.not_not,yh,Bool.true_and,zN]
    by_cases h0:0<B.length
    · simp only [show ((B.length:Int)>0) by omega,if_true,h0,decide_true,Bool.true_and];exact Ev.now _
    · simp only [show ¬((B.length:Int)>0) by omega,if_false,h0,decide_false,Bool.false_and];exact Ev.now _
theorem JP (n:Int)(l:List Int)(hl:l.length≤17592186044416):Ev (fun k=>jf.f k n l) (jY n l):=by
  unfold jf.f zn.f jY
  have hf:=zbk n l hl
  cases h:yM n l
  · rw [h] at hf
    refine Ev.bind (Ev.bind hf (by simp only [Bool.false_eq_true,if_false];exact Ev.now _)) (Ev.bind hf ?_)
    simp only [Bool.false_eq_true,if_false,Bool.false_and];exact Ev.now _
  · rw [h] at hf
    obtain ⟨N,B,rfl,hN,rfl,hB,hp⟩:=JE h
    rw [zN] at hl
    refine Ev.bind (Ev.bind hf (by simp only [if_true];exact zb4 hN hB hl)) (Ev.bind hf ?_)
    simp only [if_true,zdt,Bool.not_not,yh,Bool.true_and,zN]
    by_cases h0:0<B.length
    · simp only [show ((B.length:Int)>0) by omega,if_true,h0,decide_true,Bool.true_and];exact Ev.now _
    · simp only [show ¬((B.length:Int)>0) by omega,if_false,h0,decide_false,Bool.false_and];exact Ev.now _
end Go.Proofs.YtjlbfbpjcmjdfaaGreat.L
end
section
namespace Go.Proofs.YtjlbfbpjcmjdfaaGreat.L
open Go.RowKit Go.Proofs.YtjlbfbpjcmjdfaaGreat.F Go.Proofs.YtjlbfbpjcmjdfaaGreatW.PrintWords Go.Proofs.YtjlbfbpjcmjdfaaGreatW.PrintLast Go.Proofs.YtjlbfbpjcmjdfaaGreatW.PrintMore
open Go.Proofs.YtjlbfbpjcmjdfaaGreat.Bits
open Go.Proofs.YtjlbfbpjcmjdfaaGreat.Mt (sdiff qQ elems jW cnt zcL full ins del Mat jE rk)
set_option linter.unusedSimpArgs false
set_option linter.unusedVariables false
/-- The count, halving: a small number's bits. -/
theorem zcb: ∀s:Nat,s<256→cnt s=s%2+cnt (s / 2):=by decide+kernel
theorem J8: ∀(d s:Nat) (x:Int),s<2 ^d→d≤8→0≤x→x+d≤100→Ev (fun k=>qh.l0 k (s:Int) x) (x+cnt s)
  |0,s,x,hs,_,h0,h1=>by
    have:s=0:=by simp at hs;exact hs
    subst this
    refine Ev.succ ?_
    simp only [qh.l0,show ¬(((0:Nat):Int)>0) by omega,if_false]
    exact Ev.some (by rw [Mt.Vr];omega)
  |d+1,s,x,hs,hd,h0,h1=>by
    refine Ev.succ ?_
    by_cases hz:s=0
    · subst hz
      simp only [qh.l0,show ¬(((0:Nat):Int)>0) by omega,if_false]
      exact Ev.some (by rw [Mt.Vr];omega)
    · have h256:s<256:=Nat.lt_of_lt_of_le hs (Nat.pow_le_pow_right (n:=2) (by decide) hd)
      have hb:=zcb s h256
      have e1:Go.bits .and .i64 (s:Int) 1=((s%2:Nat):Int):=by
        have:=Jc s 1 (by omega) (by omega)
        rw [show ((1:Nat):Int)=1 from rfl] at this
        rw [this,Nat.and_one_is_mod]
      have e2:(s:Int) / 2=((s / 2:Nat):Int):=by omega
      have hlt:s / 2<2 ^d:=by rw [Nat.pow_succ] at hs;omega
      simp only [qh.l0,show ((s:Int)>0) by omega,if_true,e1,e2]
      rw [ja (by omega) (by omega)]
      have ih:=J8 d (s / 2) (x+((s%2:Nat):Int)) hlt (by omega) (by omega) (by omega)
      rw [show x+(cnt s:Int)=x+((s%2:Nat):Int)+(cnt (s / 2):Int) by rw [hb];omega]
      exact ih
theorem Qk (s:Int):Ev (fun k=>qh.f k s) (zbc s:Int):=by
  unfold qh.f zbc isAny
  simp only [J3,Option.bind_some,decide_eq_true_eq]
  by_cases h:0≤s∧s<256
  · obtain ⟨a,rfl⟩:=Int.eq_ofNat_of_zero_le h.1
    simp only [show (0:Int)≤8∧(8:Int)≤8∧(0:Int)≤(a:Int)∧(a:Int)<2 ^(8:Int).toNat from ⟨by omega,by omega,by omega,by simpa using h.2⟩,and_self,if_true,h,decide_true,Int.toNat_natCast]
    have:=J8 8 a 0 (by omega) (by omega) (by omega) (by omega)
    simpa using this
  · have h': ¬(0≤(8:Int)∧(8:Int)≤8∧0≤s∧s<2 ^(8:Int).toNat):=fun hh=>h ⟨hh.2.2.1,by simpa using hh.2.2.2⟩
    first
      |(simp only [if_neg h',if_neg h,decide_eq_false h,Bool.false_eq_true,if_false];exact Ev.now _)
      |(simp only [h,decide_false,Bool.false_eq_true,if_false];exact Ev.now _)
theorem Qg {s:Nat}(h:s<256):zbc (s:Int)=cnt s:=by unfold zbc;rw [if_pos (by simp [isAny];omega)];rfl
theorem ze7 (a b:Int):yu.f a b=some (max a b):=by
  unfold yu.f
  by_cases h:a>b
  · rw [if_pos h,show max a b=a by omega]
  · rw [if_neg h,show max a b=b by omega]
theorem zbY (B:List Nat)(s:Nat): ∀n,n≤B.length→((List.range n).foldl (fun (m:Int) i=>max m ((cnt (s &&&B.getD i 0):Nat):Int)) 0)=((rk (B.take n) s:Nat):Int)
  |0,_=>by simp [rk]
  |n+1,h=>by
    rw [List.range_succ,List.foldl_append,zbY B s n (by omega),List.take_succ_eq_append_getElem (by omega)]
    simp only [List.foldl_cons,List.foldl_nil,rk,List.foldl_append]
    rw [show B.getD n 0=B[n] by simp [List.getElem?_eq_getElem (show n<B.length by omega)]]
    omega
section
variable {N:Nat} {B:List Nat}
theorem zd6 (hN:N≤8)(hB: ∀b∈B,b<2 ^N)(hl:B.length≤17592186044416){s:Nat}(hs:s<256)(n:Int):Ev (fun k=>q4.f k n (ints B) s) (rk B s:Int):=by
  unfold q4.f
  have key:=yt (fun k (m:Int) i=>q4.l0 k s m i n (ints B)) B.length (fun m i=>max m ((cnt (s &&&B.getD i 0):Nat):Int)) (fun _ _=>True) id
    (fun m _=>by simp only [q4.l0,zN,show ¬((B.length:Int)< (B.length:Int)) by omega,if_false];exact Ev.now _)
    (fun i m hi _=>⟨trivial,fun r hr=>by
      have hb:=Qw hB i hi
      have eb:=Qj i hi
      generalize B.getD i 0=b at hb eb hr
      have hb8:=jE hN hb
      simp only [q4.l0,zN,show ((i:Int)< (B.length:Int)) by omega,show (0:Int)≤(i:Int) by omega,if_true,eb,Jc b s (by omega) (by omega),zB (show i<9223372036854775807 by omega)]
      refine Ev.bind (Qk _) ?_
      rw [Qg (Nat.lt_of_le_of_lt Nat.and_le_left hb8),Nat.and_comm b s]
      simp only [ze7,Option.bind_some]
      exact hr⟩) 0 trivial
  have e:=zbY B s B.length (Nat.le_refl _)
  rw [List.take_length] at e
  rw [e] at key
  exact key
end
theorem V4 {N:Nat}(hN:N≤8):j8.f (N:Int)=some ((full N:Nat):Int):=by
  unfold j8.f full
  have hp:(2:Nat) ^N≤2 ^8:=Nat.pow_le_pow_right (by decide) hN
  have h0:0< (2:Nat) ^N:=Nat.two_pow_pos N
  simp only [Jo,Option.bind_some,decide_eq_true_eq,show (0:Int)≤(N:Int)∧(N:Int)≤8 from ⟨by omega,by omega⟩,and_self,if_true,show (0:Int)≤(N:Int) by omega,Zu N (by omega)]
  generalize 2 ^N=x at hp h0
  rw [ja (by omega) (by omega)];simp;omega
theorem ZH {N:Nat}(hN:N≤8):qZ.f (N:Int)=some ((full N:Nat):Int):=by
  unfold qZ.f full
  have hp:(2:Nat) ^N≤2 ^8:=Nat.pow_le_pow_right (by decide) hN
  have h0:0< (2:Nat) ^N:=Nat.two_pow_pos N
  simp only [zcd,Option.bind_some,decide_eq_true_eq,show (0:Int)≤(N:Int)∧(N:Int)≤8 from ⟨by omega,by omega⟩,and_self,if_true]
  rw [yq (by omega) (by omega),Zu N (by omega),if_pos (by omega)]
  generalize 2 ^N=x at hp h0
  rw [ja (by omega) (by omega)];simp;omega
theorem ZQ {N s:Nat}:((s:Int)≤((full N:Nat):Int))↔s<2 ^N:=by
  have h0:0< (2:Nat) ^N:=Nat.two_pow_pos N
  unfold full
  generalize 2 ^N=x at h0
  omega
end Go.Proofs.YtjlbfbpjcmjdfaaGreat.L
end
section
namespace Go.Proofs.YtjlbfbpjcmjdfaaGreat.L
open Go.RowKit Go.Proofs.YtjlbfbpjcmjdfaaGreat.F Go.Proofs.YtjlbfbpjcmjdfaaGreatW.PrintWords Go.Proofs.YtjlbfbpjcmjdfaaGreatW.PrintLast Go.Proofs.YtjlbfbpjcmjdfaaGreatW.PrintMore
open Go.Proofs.YtjlbfbpjcmjdfaaGreat.Bits
open Go.Proofs.YtjlbfbpjcmjdfaaGreat.Mt (full)
set_option linter.unusedSimpArgs false
set_option linter.unusedVariables false
/-- setsOf over a predicate that says p of all sets of N elements. -/
theorem JH (q:Int→Option Bool)(p:Nat→Bool){N:Nat}(hN:N≤8)(hq: ∀s:Nat,s<2 ^N→q (s:Int)=some (p s)):
    ∀(d j fuel:Nat) (out:List Int),j+d=2 ^N→d<fuel→out.length≤j→y2 q fuel (N:Int) out (j:Int)=some (out++ints ((List.range' j d).filter p))
  |0,j,fuel+1,out,hd,_,ho=>by
    have hn: ¬((j:Int)≤((full N:Nat):Int)):=fun h=>by have:=ZQ.1 h;omega
    simp only [y2,V4 hN,Option.bind_some,if_neg hn]
    simp [ints]
  |d+1,j,fuel+1,out,hd,hf,ho=>by
    have hp:(2:Nat) ^N≤2 ^8:=Nat.pow_le_pow_right (by decide) hN
    have hj:j<2 ^N:=by omega
    simp only [y2,V4 hN,Option.bind_some,ZQ.2 hj,if_true,hq j hj,zB (show j<9223372036854775807 by omega)]
    rw [List.range'_succ,List.filter_cons]
    cases h:p j
    · simp only [Bool.false_eq_true,if_false]
      exact JH q p hN hq d (j+1) fuel out (by omega) (by omega) (by omega)
    · simp only [if_true,show out.length<17592186044416 by omega]
      rw [JH q p hN hq d (j+1) fuel (out++[(j:Int)]) (by omega) (by omega) (by simp;omega)]
      simp [ints]
theorem zdg (Q:Nat→Int→Option Bool)(p:Nat→Bool): ∀m:Nat,(∀s:Nat,s<m→Ev (fun k=>Q k (s:Int)) (p s))→ ∃K,∀k,K≤k→ ∀s:Nat,s<m→Q k (s:Int)=some (p s)
  |0,_=>⟨0,fun _ _ s hs=>absurd hs (Nat.not_lt_zero s)⟩
  |m+1,h=>by
    obtain ⟨K,hK⟩:=zdg Q p m fun s hs=>h s (by omega)
    obtain ⟨K',hK'⟩:=h m (by omega)
    refine ⟨max K K',fun k hk s hs=> ?_⟩
    by_cases e:s=m
    · subst e;exact hK' k (by omega)
    · exact hK k (by omega) s (by omega)
theorem zae (Q:Nat→Int→Option Bool)(p:Nat→Bool){N:Nat}(hN:N≤8)(h: ∀s:Nat,s<2 ^N→Ev (fun k=>Q k (s:Int)) (p s)):Ev (fun k=>y2 (Q k) k (N:Int) [] 0) (ints ((List.range (2 ^N)).filter p)):=by
  obtain ⟨K,hK⟩:=zdg Q p (2 ^N) h
  refine ⟨max K (2 ^N+1),fun k hk=> ?_⟩
  have:=JH (Q k) p hN (hK k (by omega)) (2 ^N) 0 k [] (by omega) (by omega) (by simp)
  rw [List.range_eq_range']
  simpa using this
end Go.Proofs.YtjlbfbpjcmjdfaaGreat.L
end
section
namespace Go.Proofs.YtjlbfbpjcmjdfaaGreat.L
open Go.RowKit Go.Proofs.YtjlbfbpjcmjdfaaGreat.F Go.Proofs.YtjlbfbpjcmjdfaaGreatW.PrintWords Go.Proofs.YtjlbfbpjcmjdfaaGreatW.PrintLast Go.Proofs.YtjlbfbpjcmjdfaaGreatW.PrintMore
open Go.Proofs.YtjlbfbpjcmjdfaaGreat.Bits
open Go.Proofs.YtjlbfbpjcmjdfaaGreat.Mt (sdiff cnt full Mat jE rk ind vw qL)
set_option linter.unusedSimpArgs false
set_option linter.unusedVariables false
def y7 (B:List Nat)(s:Nat):Bool:=decide (rk B s=cnt s)
theorem Qz {N:Nat}{B:List Nat}(M:Mat N B){s:Nat}(hs:s<256):y7 B s=true↔ind B s:=by
  unfold y7;rw [decide_eq_true_eq,←vw M.ne hs]
/-- The independent sets below a number, in order. -/
def YX (B:List Nat)(m:Nat):List Nat:=(List.range m).filter (y7 B)
theorem zcH (B:List Nat)(m:Nat):(YX B m).length≤m:=by
  have:=List.length_filter_le (y7 B) (List.range m)
  rwa [List.length_range] at this
theorem zbS {B:List Nat}{m s:Nat}(h:s∈YX B m):s<m:=List.mem_range.1 (List.mem_filter.1 h).1
section
variable {N:Nat} {B:List Nat}
theorem VZ (M:Mat N B)(hl:B.length≤17592186044416){s:Nat}(hs:s<256)(n:Int):Ev (fun k=>qv.f k n (ints B) (s:Int)) (y7 B s):=by
  unfold qv.f
  have h:=vy (fun k i=>qv.l0 k (s:Int) (ints B) ((ints B).length:Int) i) B.length (fun i r=>decide (s &&&B.getD i 0=s)||r) false
    (by simp only [qv.l0,zN,show ¬((B.length:Int)< (B.length:Int)) by omega,if_false];exact Ev.now _) fun i hi r hr=>by
      have hb:=Qw M.lt i hi
      have eb:=Qj i hi
      simp only [qv.l0,zN,show ((i:Int)< (B.length:Int)) by omega,show (0:Int)≤(i:Int) by omega,if_true,eb,QO hs (jE M.size hb),Option.bind_some,decide_eq_true_eq,zB (show i<9223372036854775807 by omega)]
      by_cases h:s &&&B.getD i 0=s
      · simp only [h,if_true,decide_true,Bool.true_or];exact Ev.now _
      · simp only [h,if_false,decide_false,Bool.false_or];simpa [zN] using hr
  rw [Qs,Bool.or_false] at h
  have e:((List.range B.length).any fun i=>decide (s &&&B.getD i 0=s))=y7 B s:=by
    rw [Bool.eq_iff_iff,Qz M hs,List.any_eq_true]
    constructor
    · rintro ⟨i,hi,h⟩
      rw [List.mem_range] at hi
      rw [decide_eq_true_eq] at h
      refine ⟨B.getD i 0,?_,qL.2 h⟩
      rw [show B.getD i 0=B[i] by simp [List.getElem?_eq_getElem hi]];exact List.getElem_mem hi
    · rintro ⟨b,hb,h⟩
      obtain ⟨i,hi,rfl⟩:=List.getElem_of_mem hb
      refine ⟨i,List.mem_range.2 hi,?_⟩
      rw [decide_eq_true_eq,show B.getD i 0=B[i] by simp [List.getElem?_eq_getElem hi]]
      exact qL.1 h
  rw [e] at h
  exact h
end
end Go.Proofs.YtjlbfbpjcmjdfaaGreat.L
end
section
namespace Go.Proofs.YtjlbfbpjcmjdfaaGreat.L
open Go.RowKit Go.Proofs.YtjlbfbpjcmjdfaaGreat.F Go.Proofs.YtjlbfbpjcmjdfaaGreatW.PrintWords Go.Proofs.YtjlbfbpjcmjdfaaGreatW.PrintLast Go.Proofs.YtjlbfbpjcmjdfaaGreatW.PrintMore
open Go.Proofs.YtjlbfbpjcmjdfaaGreat.Bits
open Go.Proofs.YtjlbfbpjcmjdfaaGreat.Mt (ZK Z9 Za Qo JC)
set_option linter.unusedSimpArgs false
set_option linter.unusedVariables false
/-- The sets of a list, in order, each once. -/
def jq (L:List Nat):List Nat:=(List.range 256).filter fun s=>decide (s∈L)
theorem zaX {L:List Nat}(h:L.Pairwise (· < ·)):(ints L).Pairwise (· < ·):=by
  unfold ints
  rw [List.pairwise_map]
  exact h.imp fun h=>by omega
theorem zbZ {L:List Nat}{x:Int}:x∈ints L↔ ∃n,n∈L∧(n:Int)=x:=by simp [ints]
theorem yk (p:Nat→Bool)(n:Nat):((List.range n).filter p).Pairwise (· < ·):=List.Pairwise.filter _ List.pairwise_lt_range
theorem yT {L:List Nat}(hL: ∀x∈L,x<256){s:Nat}:s∈jq L↔s∈L:=by
  unfold jq
  rw [List.mem_filter,List.mem_range,decide_eq_true_eq]
  exact ⟨fun h=>h.2,fun h=>⟨hL s h,h⟩⟩
theorem y9 (L:List Nat):(jq L).Pairwise (· < ·):=yk _ _
theorem Yx (L:List Nat):(jq L).length≤256:=by
  have:=List.length_filter_le (fun s=>decide (s∈L)) (List.range 256)
  rwa [List.length_range] at this
theorem Vd {L:List Nat}(hL: ∀x∈L,x<256):ZK (ints L)=ints (jq L):=Z9 (zaX (y9 L)) fun x=>by
  rw [zbZ,zbZ]
  exact ⟨fun ⟨n,h,e⟩=>⟨n,(yT hL).1 h,e⟩,fun ⟨n,h,e⟩=>⟨n,(yT hL).2 h,e⟩⟩
theorem yD: ∀ {l l':List Nat},l.Pairwise (· < ·)→l'.Pairwise (· < ·)→(∀x,x∈l↔x∈l')→l=l'
  | [],[],_,_,_=>rfl
  | [],b::_,_,_,hm=>absurd ((hm b).2 (List.mem_cons_self ..)) (by simp)
  |a::_,[],_,_,hm=>absurd ((hm a).1 (List.mem_cons_self ..)) (by simp)
  |a::l,b::l',h,h',hm=>by
    rw [List.pairwise_cons] at h h'
    have hab:a=b:=by
      rcases List.mem_cons.1 ((hm a).1 (List.mem_cons_self ..)) with e|e
      · exact e
      · rcases List.mem_cons.1 ((hm b).2 (List.mem_cons_self ..)) with e'|e'
        · exact e'.symm
        · have:=h'.1 a e;have:=h.1 b e';omega
    subst hab
    rw [yD h.2 h'.2 fun x=>⟨fun hx=>by
      rcases List.mem_cons.1 ((hm x).1 (List.mem_cons_of_mem _ hx)) with e|e
      · subst e;have:=h.1 x hx;omega
      · exact e,fun hx=>by
      rcases List.mem_cons.1 ((hm x).2 (List.mem_cons_of_mem _ hx)) with e|e
      · subst e;have:=h'.1 x hx;omega
      · exact e⟩]
theorem Yw (s:List Int)(x:Int)(j:Nat)(h:s.Pairwise (· < ·))(h1: ∀a∈s.take j,a<x)(h2: ∀a∈s.drop j,x<a):
    (s.take j++[x]++s.drop j).Pairwise (· < ·)∧ ∀a,a∈s.take j++[x]++s.drop j↔a=x∨a∈s:=by
  have e:s.take j++s.drop j=s:=List.take_append_drop j s
  have hp:(s.take j++s.drop j).Pairwise (· < ·):=by rw [e];exact h
  rw [List.pairwise_append] at hp
  constructor
  · rw [List.pairwise_append,List.pairwise_append]
    refine ⟨⟨hp.1,by simp,fun a ha b hb=> ?_⟩,hp.2.1,fun a ha b hb=> ?_⟩
    · simp only [List.mem_singleton] at hb;subst hb;exact h1 a ha
    · rcases List.mem_append.1 ha with ha|ha
      · exact hp.2.2 a ha b hb
      · simp only [List.mem_singleton] at ha;subst ha;exact h2 b hb
  · intro a
    have hm:a∈s↔a∈s.take j∨a∈s.drop j:=by
      have:=List.mem_append (a:=a) (s:=s.take j) (t:=s.drop j)
      rwa [e] at this
    rw [hm]
    simp only [List.mem_append,List.mem_singleton]
    constructor
    · rintro ((h|h)|h)
      · exact .inr (.inl h)
      · exact .inl h
      · exact .inr (.inr h)
    · rintro (h|h|h)
      · exact .inl (.inr h)
      · exact .inl (.inl h)
      · exact .inr h
theorem Vn (l s:List Int)(i:Nat)(hi:i<l.length)(hl:l.length<17592186044416)(hs:s.Pairwise (· < ·))(hlen:s.length≤i)(r:List Int)
    (hcont: ∀s':List Int,s'.Pairwise (· < ·)→(∀a,a∈s'↔a=l.getD i 0∨a∈s)→s'.length≤i+1→Ev (fun k=>zg.l0 k l s' ((i+1:Nat):Int)) r):
    ∀(d j:Nat),j+d=s.length→(∀a∈s.take j,a<l.getD i 0)→Ev (fun k=>zg.l1 k l s (i:Int) (j:Int)) r
  |0,j,hd,h1=>by
    have hj:j=s.length:=by omega
    subst hj
    have hf:=Yw s (l.getD i 0) s.length hs h1 (by simp)
    have hl1:=hcont _ hf.1 hf.2 (by simp;omega)
    refine Ev.succ ?_
    simp only [zg.l1,show ¬((s.length:Int)< (s.length:Int)) by omega,if_false,Option.bind_some,show (0:Int)≤(s.length:Int) by omega,show (s.length:Int)≤(s.length:Int) by omega,if_true,Int.toNat_natCast,
      show (0:Int)≤(i:Int) by omega,show (i:Int)< (l.length:Int) by omega,qG,List.nil_append,List.length_nil,Nat.zero_add,zB (show i<9223372036854775807 by omega)]
    simp only [show (s.drop s.length).length<17592186044416 by simp,show (s.take s.length).length<17592186044416 by simp;omega,if_true,
      show (s.take s.length++[l.getD i 0]).length+(s.drop s.length).length<17592186044416 by simp;omega]
    exact hl1
  |d+1,j,hd,h1=>by
    have hj:j<s.length:=by omega
    have e1:s.getD j 0=s[j]:=by simp [List.getElem?_eq_getElem hj]
    refine Ev.succ ?_
    simp only [zg.l1,show ((j:Int)< (s.length:Int)) by omega,if_true,show (0:Int)≤(j:Int) by omega,show (0:Int)≤(i:Int) by omega,show (i:Int)< (l.length:Int) by omega,qG,
      zB (show i<9223372036854775807 by omega),zB (show j<9223372036854775807 by omega)]
    by_cases c:s.getD j 0<l.getD i 0
    · simp only [c,if_true]
      refine Vn l s i hi hl hs hlen r hcont d (j+1) (by omega) fun a ha=> ?_
      rw [List.take_succ_eq_append_getElem hj,List.mem_append] at ha
      rcases ha with ha|ha
      · exact h1 a ha
      · simp only [List.mem_singleton] at ha;subst ha;rw [←e1];exact c
    · simp only [c,if_false]
      by_cases c2:s.getD j 0=l.getD i 0
      · simp only [c2,if_true]
        refine hcont s hs (fun a=>⟨.inr,fun h=> ?_⟩) (by omega)
        rcases h with h|h
        · rw [h,←c2,e1];exact List.getElem_mem hj
        · exact h
      · simp only [c2,if_false]
        have h2: ∀a∈s.drop j,l.getD i 0<a:=fun a ha=>by
          rw [List.drop_eq_getElem_cons hj] at ha
          rcases List.mem_cons.1 ha with ha|ha
          · subst ha;rw [e1] at c c2;omega
          · have hp:(s.drop j).Pairwise (· < ·):=List.Pairwise.drop hs
            rw [List.drop_eq_getElem_cons hj,List.pairwise_cons] at hp
            have:=hp.1 a ha
            rw [e1] at c c2;omega
        have hf:=Yw s (l.getD i 0) j hs h1 h2
        have hl1:=hcont _ hf.1 hf.2 (by simp;omega)
        simp only [Option.bind_some,show (j:Int)≤(s.length:Int) by omega,if_true,Int.toNat_natCast,List.nil_append,List.length_nil,Nat.zero_add]
        simp only [show (s.drop j).length<17592186044416 by simp;omega,show (s.take j).length<17592186044416 by simp;omega,if_true,
          show (s.take j++[l.getD i 0]).length+(s.drop j).length<17592186044416 by simp;omega]
        exact hl1
theorem Vp (l:List Int)(hl:l.length<17592186044416): ∀(d i:Nat) (s:List Int),i+d=l.length→s.Pairwise (· < ·)→(∀a,a∈s↔a∈l.take i)→s.length≤i→Ev (fun k=>zg.l0 k l s (i:Int)) (ZK l)
  |0,i,s,hd,hs,hm,_=>by
    have hi:i=l.length:=by omega
    subst hi
    rw [List.take_length] at hm
    refine Ev.succ ?_
    simp only [zg.l0,show ¬((l.length:Int)< (l.length:Int)) by omega,if_false]
    exact Ev.some (Z9 hs hm).symm
  |d+1,i,s,hd,hs,hm,hlen=>by
    have hi:i<l.length:=by omega
    refine Ev.succ ?_
    simp only [zg.l0,show ((i:Int)< (l.length:Int)) by omega,if_true]
    refine Vn l s i hi hl hs hlen _ (fun s' h1 h2 h3=> ?_) s.length 0 (by omega) (by simp)
    refine Vp l hl d (i+1) s' (by omega) h1 (fun a=> ?_) h3
    rw [h2,hm,List.take_succ_eq_append_getElem hi,List.mem_append,List.mem_singleton,show l.getD i 0=l[i] by simp [List.getElem?_eq_getElem hi]]
    exact ⟨fun h=>h.elim .inr .inl,fun h=>h.elim .inr .inl⟩
theorem zaE (l:List Int)(hl:l.length<17592186044416):Ev (fun k=>zg.f k l) (ZK l):=by
  unfold zg.f
  exact Vp l hl l.length 0 [] (by omega) (by simp) (by simp) (by simp)
theorem zbp {L:List Nat}(hL: ∀x∈L,x<256)(hl:L.length<17592186044416):Ev (fun k=>zg.f k (ints L)) (ints (jq L)):=by
  rw [←Vd hL];exact zaE _ (by rw [zN];exact hl)
end Go.Proofs.YtjlbfbpjcmjdfaaGreat.L
end
section
namespace Go.Proofs.YtjlbfbpjcmjdfaaGreat.L
open Go.RowKit Go.Proofs.YtjlbfbpjcmjdfaaGreat.F Go.Proofs.YtjlbfbpjcmjdfaaGreatW.PrintWords Go.Proofs.YtjlbfbpjcmjdfaaGreatW.PrintLast Go.Proofs.YtjlbfbpjcmjdfaaGreatW.PrintMore
open Go.Proofs.YtjlbfbpjcmjdfaaGreat.Bits
open Go.Proofs.YtjlbfbpjcmjdfaaGreat.Mt (ZK Z9 Za Qo JC sdiff sub qL yp)
set_option linter.unusedSimpArgs false
set_option linter.unusedVariables false
/-- Is no other set of the list within s? -/
def least (L:List Nat)(s:Nat):Bool:=L.all fun t=>decide (t=s)|| !decide (t &&&s=t)
/-- The least sets of a list, in order. -/
def zad (L:List Nat):List Nat:=(List.range 256).filter fun s=>decide (s∈L)&&least L s
theorem JQ (L:List Nat):(zad L).Pairwise (· < ·):=yk _ _
theorem zcC (L:List Nat):(zad L).length≤256:=by
  have:=List.length_filter_le (fun s=>decide (s∈L)&&least L s) (List.range 256)
  rwa [List.length_range] at this
theorem Vy {L:List Nat}(hL: ∀x∈L,x<256){s:Nat}:s∈zad L↔s∈L∧ ∀t∈L,sub t s→t=s:=by
  unfold zad least
  rw [List.mem_filter,List.mem_range,Bool.and_eq_true,decide_eq_true_eq,List.all_eq_true]
  constructor
  · rintro ⟨_,h1,h2⟩
    refine ⟨h1,fun t ht hs=> ?_⟩
    have:=h2 t ht
    rw [qL] at hs
    simpa [hs] using this
  · rintro ⟨h1,h2⟩
    refine ⟨hL s h1,h1,fun t ht=> ?_⟩
    by_cases hs:t &&&s=t
    · simp [h2 t ht (qL.2 hs)]
    · simp [hs]
theorem yP {L:List Nat}(i:Nat)(hi:i<L.length):(ints L).getD i 0=((L.getD i 0:Nat):Int):=by simp [ints,List.getElem?_eq_getElem hi]
theorem VY (L:List Nat)(p:Nat→Bool):(List.range L.length).all (fun i=>p (L.getD i 0))=L.all p:=ZE L 0 p
theorem Qc {p:Nat→Bool}(L:List Nat)(i:Nat)(hi:i<L.length):(L.take (i+1)).filter p=if p (L.getD i 0)=true then (L.take i).filter p++[L.getD i 0] else (L.take i).filter p:=by
  rw [List.take_succ_eq_append_getElem hi,List.filter_append,show L.getD i 0=L[i] by simp [List.getElem?_eq_getElem hi]]
  cases h:p L[i]<;>simp [h]
theorem zc0 {L:List Nat}(hL: ∀x∈L,x<256)(hl:L.length≤17592186044416):Ev (fun k=>qM.f k 8 (ints L)) true:=by
  unfold qM.f
  have h:=ZN (fun k i=>qM.l0 k 8 (ints L) i) L.length (fun _=>true)
    (fun k=>by simp only [qM.l0,zN,show ¬((L.length:Int)< (L.length:Int)) by omega,if_false])
    (fun i hi k=>by
      have hlt:L.getD i 0<256:=by rw [show L.getD i 0=L[i] by simp [List.getElem?_eq_getElem hi]];exact hL _ (List.getElem_mem hi)
      simp only [qM.l0,zN,show ((i:Int)< (L.length:Int)) by omega,show (0:Int)≤(i:Int) by omega,if_true,qG,yP i hi,J3,Option.bind_some,decide_eq_true_eq,zB (show i<9223372036854775807 by omega)]
      rw [if_pos ⟨by omega,by omega,by omega,by
        have e:(2:Int) ^(8:Int).toNat=256:=by decide
        rw [e];omega⟩])
  have e:(List.range L.length).all (fun _=>true)=true:=by simp
  rw [e] at h
  exact h
theorem zc9 {L:List Nat}(hL: ∀x∈L,x<256)(hl:L.length<17592186044416)(out:List Int)(i:Nat)(hi:i<L.length)(r:List Int)
    (hcont:Ev (fun k=>zJ.l0 k (ints L) (if least L (L.getD i 0)=true then out++[((L.getD i 0:Nat):Int)] else out) ((i+1:Nat):Int)) r) (hout:out.length≤i):
    Ev (fun k=>zJ.l1 k (ints L) out (i:Int) true 0) r:=by
  have hi8:L.getD i 0<256:=by rw [show L.getD i 0=L[i] by simp [List.getElem?_eq_getElem hi]];exact hL _ (List.getElem_mem hi)
  have key:=qJ (fun k (b:Bool) j=>zJ.l1 k (ints L) out (i:Int) b j) L.length (fun b j=>b&&(decide (L.getD j 0=L.getD i 0)|| !decide (L.getD j 0 &&&L.getD i 0=L.getD j 0))) (fun _ _=>True)
    (fun j b hj _=>⟨trivial,fun r hr=>by
      have hj8:L.getD j 0<256:=by rw [show L.getD j 0=L[j] by simp [List.getElem?_eq_getElem hj]];exact hL _ (List.getElem_mem hj)
      simp only [zJ.l1,zN,show ((j:Int)< (L.length:Int)) by omega,show (0:Int)≤(j:Int) by omega,show (0:Int)≤(i:Int) by omega,show (i:Int)< (L.length:Int) by omega,if_true,qG,yP i hi,yP j hj,
        zB (show j<9223372036854775807 by omega)]
      generalize L.getD j 0=t at hj8 hr ⊢
      generalize L.getD i 0=s at hi8 hr ⊢
      cases b with
      |false=>simp only [Bool.false_eq_true,if_false];simpa using hr
      |true=>
        simp only [if_true]
        by_cases e:t=s
        · subst e;simp only [if_true];simpa using hr
        · simp only [show ¬((t:Int)=(s:Int)) by omega,if_false,Jc t s (by omega) (by omega)]
          rw [show ((((t &&&s:Nat):Int) != (t:Int))= !decide (t &&&s=t)) by
            rw [Bool.eq_iff_iff,bne_iff_ne,Bool.not_eq_true',decide_eq_false_iff_not];omega]
          simpa [e] using hr⟩) true trivial
  refine key.2 _ (Ev.succ ?_)
  have hfold: ∀(l:List Nat) (b:Bool) (p:Nat→Bool),l.foldl (fun b j=>b&&p j) b=(b&&l.all p):=by
    intro l
    induction l with
    |nil=>intro b p;simp
    |cons a l ih=>intro b p;rw [List.foldl_cons,ih,List.all_cons,Bool.and_assoc]
  rw [hfold,Bool.true_and,VY L (fun t=>decide (t=L.getD i 0)|| !decide (t &&&L.getD i 0=t))]
  have ef:(L.all fun t=>decide (t=L.getD i 0)|| !decide (t &&&L.getD i 0=t))=least L (L.getD i 0):=rfl
  rw [ef]
  simp only [zJ.l1,zN,show ¬((L.length:Int)< (L.length:Int)) by omega,if_false,show (0:Int)≤(i:Int) by omega,show (i:Int)< (L.length:Int) by omega,if_true,qG,yP i hi,
    zB (show i<9223372036854775807 by omega),show out.length<17592186044416 by omega]
  cases hf:least L (L.getD i 0)
  · rw [hf] at hcont;simpa using hcont
  · rw [hf] at hcont;simpa using hcont
theorem VV {L:List Nat}(hL: ∀x∈L,x<256)(hl:L.length<17592186044416):Ev (fun k=>zJ.f k (ints L)) (ints (zad L)):=by
  unfold zJ.f
  simp only [Option.bind_some]
  refine Ev.bind (zc0 hL (by omega)) ?_
  simp only [if_true]
  have hlen: ∀i,(ints ((L.take i).filter (least L))).length≤i:=fun i=>by
    have:=List.length_filter_le (least L) (L.take i)
    rw [List.length_take] at this
    rw [zN];omega
  have key:=qJ (fun k out i=>zJ.l0 k (ints L) out i) L.length (fun out i=>if least L (L.getD i 0)=true then out++[((L.getD i 0:Nat):Int)] else out) (fun i out=>out=ints ((L.take i).filter (least L)))
    (fun i out hi ho=>⟨by
      rw [Qc L i hi,ho]
      split<;>simp [ints],fun r hr=>by
      simp only [zJ.l0,zN,show ((i:Int)< (L.length:Int)) by omega,if_true]
      exact zc9 hL hl out i hi r hr (by rw [ho];exact hlen i)⟩) [] (by simp [ints])
  refine key.2 _ (Ev.succ ?_)
  rw [key.1,List.take_length]
  simp only [zJ.l0,zN,show ¬((L.length:Int)< (L.length:Int)) by omega,if_false]
  have hf: ∀x∈L.filter (least L),x<256:=fun x hx=>hL x (List.mem_filter.1 hx).1
  have hs:=zbp hf (by have:=List.length_filter_le (least L) L;omega)
  have e:jq (L.filter (least L))=zad L:=yD (y9 _) (JQ L) fun s=>by
    rw [yT hf,Vy hL,List.mem_filter]
    unfold least
    rw [List.all_eq_true]
    constructor
    · rintro ⟨h1,h2⟩
      refine ⟨h1,fun t ht hts=> ?_⟩
      have:=h2 t ht
      rw [qL] at hts
      simpa [hts] using this
    · rintro ⟨h1,h2⟩
      refine ⟨h1,fun t ht=> ?_⟩
      by_cases hts:t &&&s=t
      · simp [h2 t ht (qL.2 hts)]
      · simp [hts]
  rw [e] at hs
  exact Ev.bind hs (Ev.now _)
theorem Yb {L:List Nat}(hL: ∀x∈L,x<256)(hl:L.length≤17592186044416):Ev (fun k=>qF.f k (ints L)) true:=by
  unfold qF.f
  rw [zN]
  have h:=ZN (fun k i=>qF.l0 k (ints L) (L.length:Int) i) L.length (fun _=>true)
    (fun k=>by simp only [qF.l0,show ¬((L.length:Int)< (L.length:Int)) by omega,if_false])
    (fun i hi k=>by
      have hlt:L.getD i 0<256:=by rw [show L.getD i 0=L[i] by simp [List.getElem?_eq_getElem hi]];exact hL _ (List.getElem_mem hi)
      simp only [qF.l0,zN,show ((i:Int)< (L.length:Int)) by omega,show (0:Int)≤(i:Int) by omega,if_true,qG,yP i hi,Q4,Option.bind_some,zB (show i<9223372036854775807 by omega)]
      rw [Jt hlt,if_pos rfl])
  have e:(List.range L.length).all (fun _=>true)=true:=by simp
  rw [e] at h
  exact h
theorem Y4 (q:Int→Option Bool)(p:Nat→Bool): ∀L:List Nat,(∀t∈L,q (t:Int)=some (p t))→QN q (ints L)=some (L.any p)
  | [],_=>rfl
  |t::L,h=>by
    have h1:=h t (List.mem_cons_self ..)
    have h2:=Y4 q p L fun s hs=>h s (List.mem_cons_of_mem _ hs)
    simp only [ints,List.map_cons,QN,List.any_cons] at h2 ⊢
    rw [h1,Option.bind_some]
    cases p t
    · simpa using h2
    · simp
theorem VJ {L:List Nat}(hL: ∀x∈L,x<256)(hl:L.length≤17592186044416)(k:Nat):jt.f k (ints L)=some (ints (jq L)):=by
  unfold jt.f
  rw [zN,if_pos hl,Vd hL]
theorem V2 {L:List Nat}(hL: ∀x∈L,x<256)(hl:L.length≤17592186044416):Ev (fun k=>zH.f k (ints L)) (ints (zad L)):=by
  unfold zH.f
  rw [zN]
  simp only [hl,if_true]
  refine Ev.bind (Yb hL hl) ?_
  simp only [if_true,VJ hL hl,Option.bind_some]
  have hS:=Yx L
  have hlen: ∀i,(ints (((jq L).take i).filter (least L))).length≤i:=fun i=>by
    have:=List.length_filter_le (least L) ((jq L).take i)
    rw [List.length_take] at this
    rw [zN];omega
  have key:=qJ (fun k out i=>zH.l0 k (ints L) out (ints (jq L)) i) (jq L).length (fun out i=>if least L ((jq L).getD i 0)=true then out++[(((jq L).getD i 0:Nat):Int)] else out) (fun i out=>out=ints (((jq L).take i).filter (least L)))
    (fun i out hi ho=>⟨by
      rw [Qc (jq L) i hi,ho]
      split<;>simp [ints],fun r hr=>by
      have hout:out.length<17592186044416:=by have:=hlen i;rw [←ho] at this;omega
      have hs8:(jq L).getD i 0<256:=by
        rw [show (jq L).getD i 0=(jq L)[i] by simp [List.getElem?_eq_getElem hi]]
        exact hL _ ((yT hL).1 (List.getElem_mem hi))
      have hq:QN (zH.q (((jq L).getD i 0:Nat):Int)) (ints L)=some (!least L ((jq L).getD i 0)):=by
        generalize (jq L).getD i 0=s at hs8
        have:=Y4 (zH.q (s:Int)) (fun t=> !(decide (t=s)|| !decide (t &&&s=t))) L fun t ht=>by
          unfold zH.q
          by_cases e:t=s
          · subst e;simp
          · rw [if_neg (by omega),QO (hL t ht) hs8];simp [e]
        rw [this]
        unfold least
        rw [List.not_all_eq_any_not]
      simp only [zH.l0,zN,show ((i:Int)< ((jq L).length:Int)) by omega,show (0:Int)≤(i:Int) by omega,if_true,qG,yP i hi,zB (show i<9223372036854775807 by omega),hq,Option.bind_some]
      cases h:least L ((jq L).getD i 0)
      · rw [h] at hr;simpa using hr
      · rw [h] at hr;simp only [if_true] at hr;simpa [hout] using hr⟩) [] (by simp [ints])
  refine key.2 _ (Ev.succ ?_)
  rw [key.1,List.take_length]
  simp only [zH.l0,zN,show ¬(((jq L).length:Int)< ((jq L).length:Int)) by omega,if_false]
  refine Ev.some (congrArg ints ?_)
  refine yD (List.Pairwise.filter _ (y9 L)) (JQ L) fun s=> ?_
  rw [Vy hL,List.mem_filter,yT hL]
  unfold least
  rw [List.all_eq_true]
  constructor
  · rintro ⟨h1,h2⟩
    refine ⟨h1,fun t ht hts=> ?_⟩
    have:=h2 t ht
    rw [qL] at hts
    simpa [hts] using this
  · rintro ⟨h1,h2⟩
    refine ⟨h1,fun t ht=> ?_⟩
    by_cases hts:t &&&s=t
    · simp [h2 t ht (qL.2 hts)]
    · simp [hts]
end Go.Proofs.YtjlbfbpjcmjdfaaGreat.L
end
section
namespace Go.Proofs.YtjlbfbpjcmjdfaaGreat.L
open Go.RowKit Go.Proofs.YtjlbfbpjcmjdfaaGreat.F Go.Proofs.YtjlbfbpjcmjdfaaGreatW.PrintWords Go.Proofs.YtjlbfbpjcmjdfaaGreatW.PrintLast Go.Proofs.YtjlbfbpjcmjdfaaGreatW.PrintMore
open Go.Proofs.YtjlbfbpjcmjdfaaGreat.Bits
open Go.Proofs.YtjlbfbpjcmjdfaaGreat.Mt (ZK Z9 Za Qo JC sdiff sub qL yp)
set_option linter.unusedSimpArgs false
set_option linter.unusedVariables false
/-- Does no other set of the list hold s? -/
def jT (L:List Nat)(s:Nat):Bool:=L.all fun t=>decide (t=s)|| !decide (t &&&s=s)
/-- The jT sets of a list, in order. -/
def YI (L:List Nat):List Nat:=(List.range 256).filter fun s=>decide (s∈L)&&jT L s
theorem JO (L:List Nat):(YI L).Pairwise (· < ·):=yk _ _
theorem zcU (L:List Nat):(YI L).length≤256:=by
  have:=List.length_filter_le (fun s=>decide (s∈L)&&jT L s) (List.range 256)
  rwa [List.length_range] at this
theorem zaF {L:List Nat}(hL: ∀x∈L,x<256){s:Nat}:s∈YI L↔s∈L∧ ∀t∈L,sub s t→t=s:=by
  unfold YI jT
  rw [List.mem_filter,List.mem_range,Bool.and_eq_true,decide_eq_true_eq,List.all_eq_true]
  constructor
  · rintro ⟨_,h1,h2⟩
    refine ⟨h1,fun t ht hs=> ?_⟩
    have:=h2 t ht
    rw [qL,Nat.and_comm] at hs
    simpa [hs] using this
  · rintro ⟨h1,h2⟩
    refine ⟨hL s h1,h1,fun t ht=> ?_⟩
    by_cases hs:t &&&s=s
    · simp [h2 t ht (qL.2 (by rw [Nat.and_comm];exact hs))]
    · simp [hs]
theorem VT {L:List Nat}(hL: ∀x∈L,x<256)(hl:L.length≤17592186044416):Ev (fun k=>zI.f k (ints L)) (ints (YI L)):=by
  unfold zI.f
  rw [zN]
  simp only [hl,if_true]
  refine Ev.bind (Yb hL hl) ?_
  simp only [if_true,VJ hL hl,Option.bind_some]
  have hS:=Yx L
  have hlen: ∀i,(ints (((jq L).take i).filter (jT L))).length≤i:=fun i=>by
    have:=List.length_filter_le (jT L) ((jq L).take i)
    rw [List.length_take] at this
    rw [zN];omega
  have key:=qJ (fun k out i=>zI.l0 k (ints L) out (ints (jq L)) i) (jq L).length (fun out i=>if jT L ((jq L).getD i 0)=true then out++[(((jq L).getD i 0:Nat):Int)] else out) (fun i out=>out=ints (((jq L).take i).filter (jT L)))
    (fun i out hi ho=>⟨by
      rw [Qc (jq L) i hi,ho]
      split<;>simp [ints],fun r hr=>by
      have hout:out.length<17592186044416:=by have:=hlen i;rw [←ho] at this;omega
      have hs8:(jq L).getD i 0<256:=by
        rw [show (jq L).getD i 0=(jq L)[i] by simp [List.getElem?_eq_getElem hi]]
        exact hL _ ((yT hL).1 (List.getElem_mem hi))
      have hq:QN (zI.q (((jq L).getD i 0:Nat):Int)) (ints L)=some (!jT L ((jq L).getD i 0)):=by
        generalize (jq L).getD i 0=s at hs8
        have:=Y4 (zI.q (s:Int)) (fun t=> !(decide (t=s)|| !decide (t &&&s=s))) L fun t ht=>by
          unfold zI.q
          by_cases e:t=s
          · subst e;simp
          · rw [if_neg (by omega),QO hs8 (hL t ht),Nat.and_comm];simp [e]
        rw [this]
        unfold jT
        rw [List.not_all_eq_any_not]
      simp only [zI.l0,zN,show ((i:Int)< ((jq L).length:Int)) by omega,show (0:Int)≤(i:Int) by omega,if_true,qG,yP i hi,zB (show i<9223372036854775807 by omega),hq,Option.bind_some]
      cases h:jT L ((jq L).getD i 0)
      · rw [h] at hr;simpa using hr
      · rw [h] at hr;simp only [if_true] at hr;simpa [hout] using hr⟩) [] (by simp [ints])
  refine key.2 _ (Ev.succ ?_)
  rw [key.1,List.take_length]
  simp only [zI.l0,zN,show ¬(((jq L).length:Int)< ((jq L).length:Int)) by omega,if_false]
  refine Ev.some (congrArg ints ?_)
  refine yD (List.Pairwise.filter _ (y9 L)) (JO L) fun s=> ?_
  rw [zaF hL,List.mem_filter,yT hL]
  unfold jT
  rw [List.all_eq_true]
  constructor
  · rintro ⟨h1,h2⟩
    refine ⟨h1,fun t ht hts=> ?_⟩
    have:=h2 t ht
    rw [qL,Nat.and_comm] at hts
    simpa [hts] using this
  · rintro ⟨h1,h2⟩
    refine ⟨h1,fun t ht=> ?_⟩
    by_cases hts:t &&&s=s
    · simp [h2 t ht (qL.2 (by rw [Nat.and_comm];exact hts))]
    · simp [hts]
end Go.Proofs.YtjlbfbpjcmjdfaaGreat.L
end
section
namespace Go.Proofs.YtjlbfbpjcmjdfaaGreat.L
open Go.RowKit Go.Proofs.YtjlbfbpjcmjdfaaGreat.F Go.Proofs.YtjlbfbpjcmjdfaaGreatW.PrintWords Go.Proofs.YtjlbfbpjcmjdfaaGreatW.PrintLast Go.Proofs.YtjlbfbpjcmjdfaaGreatW.PrintMore
open Go.Proofs.YtjlbfbpjcmjdfaaGreat.Bits
end Go.Proofs.YtjlbfbpjcmjdfaaGreat.L
end
section
namespace Go.Proofs.YtjlbfbpjcmjdfaaGreat.L
open Go.RowKit Go.Proofs.YtjlbfbpjcmjdfaaGreat.F Go.Proofs.YtjlbfbpjcmjdfaaGreatW.PrintWords Go.Proofs.YtjlbfbpjcmjdfaaGreatW.PrintLast Go.Proofs.YtjlbfbpjcmjdfaaGreatW.PrintMore
open Go.Proofs.YtjlbfbpjcmjdfaaGreat.Bits
open Go.Proofs.YtjlbfbpjcmjdfaaGreat.Mt (cnt full Mat jE rk)
set_option linter.unusedSimpArgs false
set_option linter.unusedVariables false
/-- The matroid whose bases are the jT of some sets, if it is one. -/
def VS (n:Int)(L:List Nat):Int×List Int×Bool:=if jY n (ints (YI L))=true then (n,ints (YI L),true) else (0,[],false)
theorem Q6 (n:Int){L:List Nat}(hL: ∀x∈L,x<256)(hl:L.length≤17592186044416):Ev (fun k=>qW.f k n (ints L)) (VS n L):=by
  unfold qW.f VS
  have hlen:=zcU L
  refine Ev.bind (VT hL hl) (Ev.bind (JP n _ (by rw [zN];omega)) ?_)
  cases jY n (ints (YI L))
  · simp only [Bool.false_eq_true,if_false];exact Ev.now _
  · simp only [if_true];exact Ev.now _
end Go.Proofs.YtjlbfbpjcmjdfaaGreat.L
end
section
namespace Go.Proofs.YtjlbfbpjcmjdfaaGreat.L
open Go.RowKit Go.Proofs.YtjlbfbpjcmjdfaaGreat.F Go.Proofs.YtjlbfbpjcmjdfaaGreatW.PrintWords Go.Proofs.YtjlbfbpjcmjdfaaGreatW.PrintLast Go.Proofs.YtjlbfbpjcmjdfaaGreatW.PrintMore
open Go.Proofs.YtjlbfbpjcmjdfaaGreat.Bits
open Go.Proofs.YtjlbfbpjcmjdfaaGreat.Mt (sdiff qQ elems jW Mat ins del jE)
set_option linter.unusedSimpArgs false
theorem zaz {N:Nat}{B:List Nat}(hN:N≤8)(hB: ∀b∈B,b<2 ^N)(hs:B.Pairwise (· < ·)):yM (N:Int) (ints B)=true:=by
  have e2:(2:Int) ^N=((2 ^N:Nat):Int):=by simp
  unfold yM QP
  simp only [Bool.and_eq_true,decide_eq_true_eq,List.all_eq_true,List.mem_range,Bool.or_eq_true,Int.toNat_natCast,zN]
  refine ⟨fun i hi=>⟨?_,?_⟩,by omega,by omega⟩
  · have:=hB _ (List.getElem_mem hi)
    rw [show (ints B).getD i 0=((B[i]:Nat):Int) by simp [ints,List.getElem?_eq_getElem hi],e2]
    omega
  · by_cases h0:i=0
    · exact .inl h0
    · right
      have:=List.pairwise_iff_getElem.1 hs (i - 1) i (by omega) hi (by omega)
      rw [show (ints B).getD i 0=((B[i]:Nat):Int) by simp [ints,List.getElem?_eq_getElem hi],show (ints B).getD (i - 1) 0=((B[i - 1]:Nat):Int) by simp [ints,List.getElem?_eq_getElem (show i - 1<B.length by omega)]]
      omega
theorem YJ {N:Nat}{B:List Nat}(M:Mat N B)(hs:B.Pairwise (· < ·)):jY (N:Int) (ints B)=true:=by
  unfold jY
  rw [zaz M.size M.lt hs,yh]
  have h0:0<B.length:=List.length_pos_iff.2 M.ne
  have hb:zcW B=true:=by
    unfold zcW QB
    simp only [List.all_eq_true,List.any_eq_true,decide_eq_true_eq]
    intro a ha b hb e he
    have h1:=(jW.1 he).2
    rw [qQ] at h1
    simp only [Bool.and_eq_true,Bool.not_eq_true'] at h1
    obtain ⟨f,hf1,hf2,hf3⟩:=M.ex a ha b hb e h1.1 h1.2
    refine ⟨f,jW.2 ⟨M.zdU hb hf1,?_⟩,hf3⟩
    rw [qQ,hf1,hf2];rfl
  rw [hb,zN];simp [h0]
end Go.Proofs.YtjlbfbpjcmjdfaaGreat.L
end
section
namespace Go.Proofs.YtjlbfbpjcmjdfaaGreat.L
open Go.Proofs.YtjlbfbpjcmjdfaaGreat.Mt
set_option linter.unusedSimpArgs false
set_option linter.unusedVariables false
section
variable {N:Nat} {B:List Nat}
theorem Vq (M:Mat N B){s:Nat}(hs:s<2 ^N):s∈B↔cnt s=rk B (full N)∧rk B s=rk B (full N):=by
  obtain ⟨b0,hb0⟩:=List.exists_mem_of_ne_nil _ M.ne
  have hfull:rk B (full N)=cnt b0:=M.zdL hb0 (fun i h=>h)
  constructor
  · intro h
    have hc:cnt s=cnt b0:=M.Jw h hb0
    have hi:ind B s:=⟨s,h,fun i hi=>hi⟩
    have hr:rk B s=cnt s:=(vw M.ne (jE M.size hs)).1 hi
    exact ⟨by omega,by omega⟩
  · rintro ⟨h1,h2⟩
    obtain ⟨b,hb,hsub⟩:ind B s:=(vw M.ne (jE M.size hs)).2 (by omega)
    have hc:cnt b=cnt b0:=M.Jw hb hb0
    have:s=b:=ZB hsub (M.lt8 hb) (by omega)
    rwa [this]
theorem zdD (M:Mat N B)(hs:B.Pairwise (· < ·)):YI (YX B (2 ^N))=B:=by
  have hL: ∀x∈YX B (2 ^N),x<256:=fun x hx=>jE M.size (zbS hx)
  have hmem: ∀x,x∈YX B (2 ^N)↔x<2 ^N∧ind B x:=fun x=>by
    unfold YX
    rw [List.mem_filter,List.mem_range]
    exact and_congr_right fun h=>Qz M (jE M.size h)
  refine yD (JO _) hs fun x=> ?_
  rw [zaF hL]
  constructor
  · rintro ⟨h1,h2⟩
    obtain ⟨hx,b,hb,hsub⟩:=(hmem x).1 h1
    have:=h2 b ((hmem b).2 ⟨M.lt b hb,b,hb,fun i hi=>hi⟩) hsub
    rwa [←this]
  · intro hx
    refine ⟨(hmem x).2 ⟨M.lt x hx,x,hx,fun i hi=>hi⟩,fun t ht hsub=> ?_⟩
    obtain ⟨htl,b,hb,hsb⟩:=(hmem t).1 ht
    have hc:cnt b=cnt x:=M.Jw hb hx
    have h1:=yc hsub
    have h2:=yc hsb
    exact (ZB hsub (jE M.size htl) (by omega)).symm
end
end Go.Proofs.YtjlbfbpjcmjdfaaGreat.L
end
section
namespace Go.Proofs.YtjlbfbpjcmjdfaaGreat.L
open Go.RowKit Go.Proofs.YtjlbfbpjcmjdfaaGreat.F Go.Proofs.YtjlbfbpjcmjdfaaGreatW.PrintWords Go.Proofs.YtjlbfbpjcmjdfaaGreatW.PrintLast Go.Proofs.YtjlbfbpjcmjdfaaGreatW.PrintMore
open Go.Proofs.YtjlbfbpjcmjdfaaGreat.Bits
open Go.Proofs.YtjlbfbpjcmjdfaaGreat.Mt (full cnt rk linB Ker yo JG Mat jE)
set_option linter.unusedSimpArgs false
set_option linter.unusedVariables false
/-- The rank of the columns of s. -/
def rkS (p:Int)(R C:Nat)(M:Tab)(s:Nat):Nat:=(yz p R s M C).1
def Jx (p:Int)(R C:Nat)(M:Tab)(s:Nat):Bool:=decide (cnt s=rkS p R C M (full C))&&decide (rkS p R C M s=rkS p R C M (full C))
def Qe (p:Int)(R C:Nat)(M:Tab)(m:Nat):List Nat:=(List.range m).filter (Jx p R C M)
theorem Vh (N:Nat):full N<2 ^N:=by
  have h:((full N:Nat):Int)≤((full N:Nat):Int):=Int.le_refl _
  exact ZQ.1 h
section
variable {p:Int} {R C:Nat} {M:Tab}
theorem ZO (hf:isField p=true)(hC:C≤8)(R:Nat)(M:Tab):Mat C (linB p C (Ker p C R M)):=(JG (Zb hf) hC M).mat
theorem QM (p:Int)(R C:Nat)(M:Tab):(linB p C (Ker p C R M)).Pairwise (· < ·):=yk _ _
theorem Ve (hf:isField p=true)(hC:C≤8)(hM:InF p R C M){s:Nat}(hs:s<2 ^C):rkS p R C M s=rk (linB p C (Ker p C R M)) s:=zcr (Zb hf) hC hs hM
theorem Yp (hf:isField p=true)(hC:C≤8)(hM:InF p R C M):Qe p R C M (2 ^C)=linB p C (Ker p C R M):=by
  refine yD (yk _ _) (QM p R C M) fun s=> ?_
  unfold Qe Jx
  rw [List.mem_filter,List.mem_range,Bool.and_eq_true,decide_eq_true_eq,decide_eq_true_eq]
  constructor
  · rintro ⟨hs,h1,h2⟩
    refine (Vq (ZO hf hC R M) hs).2 ?_
    rw [←Ve hf hC hM hs,←Ve hf hC hM (Vh C)]
    exact ⟨h1,h2⟩
  · intro h
    have hs:=(ZO hf hC R M).lt s h
    refine ⟨hs,?_⟩
    rw [Ve hf hC hM hs,Ve hf hC hM (Vh C)]
    exact (Vq (ZO hf hC R M) hs).1 h
end
def ya (p r c:Int)(l:List Int):Int×List Int:=if ju p r c l=true then (c,ints (Qe p r.toNat c.toNat (qf l c.toNat) (2 ^c.toNat))) else (0,[])
theorem QQ {C:Nat}(hC:C≤8):2 ^C≤256:=Nat.pow_le_pow_right (n:=2) (by decide) hC
theorem Vg (p:Int)(R C:Nat)(M:Tab)(m:Nat):(Qe p R C M m).length≤m:=by
  have:=List.length_filter_le (Jx p R C M) (List.range m)
  rwa [List.length_range] at this
theorem ZW (p r c:Int)(l:List Int):Ev (fun k=>jL.f k p r c l) (ya p r c l):=by
  unfold jL.f ya
  refine Ev.bind (QW p r c l) ?_
  cases h:ju p r c l
  · simp only [Bool.false_eq_true,if_false];exact Ev.now _
  obtain ⟨R,C,rfl,rfl,hR,hC,hl,h2,h7,hf,hx⟩:=vQ h
  simp only [if_true,Int.toNat_natCast]
  have h256:=QQ hC
  have main:Ev (fun k=>qD.f k p R C l) ((C:Int),ints (Qe p R C (qf l C) (2 ^C))):=by
    unfold qD.f
    simp only [ZH hC,Option.bind_some]
    refine Ev.bind (zbO hR hC hf (Vh C) hl hx) ?_
    have key:=qJ (fun k (out:List Int) s=>qD.l0 k p R C l (rkS p R C (qf l C) (full C):Int) s C out) (2 ^C) (fun out s=>if Jx p R C (qf l C) s=true then out++[(s:Int)] else out) (fun s out=>out=ints (Qe p R C (qf l C) s))
      (fun s out hs ho=>⟨by
        unfold Qe at ho ⊢
        rw [List.range_succ,List.filter_append,ho]
        by_cases hb:Jx p R C (qf l C) s=true
        · simp [hb,ints]
        · simp [hb,ints],fun r hr=>by
        have hol:out.length≤s:=by rw [ho];simp only [ints,List.length_map];exact Vg _ _ _ _ _
        simp only [qD.l0,ZH hC,Option.bind_some,ZQ.2 hs,if_true]
        refine Ev.bind (Qk (s:Int)) ?_
        rw [Qg (by omega)]
        unfold Jx at hr
        by_cases c1:cnt s=rkS p R C (qf l C) (full C)
        · simp only [show ((cnt s:Nat):Int)=((rkS p R C (qf l C) (full C):Nat):Int) by omega,if_true]
          refine Ev.bind (zbO hR hC hf hs hl hx) ?_
          by_cases c2:rkS p R C (qf l C) s=rkS p R C (qf l C) (full C)
          · rw [if_pos (by simp [c1,c2])] at hr
            unfold rkS at c2 hr ⊢
            simp only [show (((yz p R s (qf l C) C).1:Nat):Int)=(((yz p R (full C) (qf l C) C).1:Nat):Int) by omega,if_true,show out.length<17592186044416 by omega,zB (show s<9223372036854775807 by omega)]
            exact hr
          · rw [if_neg (by simp [c2])] at hr
            unfold rkS at c2 hr ⊢
            simp only [show ¬((((yz p R s (qf l C) C).1:Nat):Int)=(((yz p R (full C) (qf l C) C).1:Nat):Int)) by omega,if_false,zB (show s<9223372036854775807 by omega)]
            exact hr
        · rw [if_neg (by simp [c1])] at hr
          simp only [show ¬(((cnt s:Nat):Int)=((rkS p R C (qf l C) (full C):Nat):Int)) by omega,if_false,zB (show s<9223372036854775807 by omega)]
          exact hr⟩) [] (by simp [ints,Qe])
    have ke:=key.1
    refine key.2 _ (Ev.succ ?_)
    simp only [qD.l0,ZH hC,Option.bind_some,if_neg (fun h=>Nat.lt_irrefl _ (ZQ.1 h))]
    rw [ke]
    exact Ev.now _
  exact Ev.bind main (Ev.now _)
theorem Ja (p r c:Int)(l:List Int):Ev (fun k=>qA.f k p r c l) (ya p r c l):=by
  unfold qA.f ya
  refine Ev.bind (Zh p r c l) ?_
  cases h:ju p r c l
  · simp only [Bool.false_eq_true,if_false];exact Ev.now _
  have hm:=h
  obtain ⟨R,C,rfl,rfl,hR,hC,hl,h2,h7,hf,hx⟩:=vQ h
  simp only [if_true,Int.toNat_natCast]
  have h256:=QQ hC
  have hM:InF p R C (qf l C):=fun i j _ _=>Zx (by omega) hx _
  have hset:Ev (fun k=>qy.f k C p R C l) (ints (YX (linB p C (Ker p C R (qf l C))) (2 ^C))):=by
    unfold qy.f YX
    refine zae (fun k=>qy.q k p R C l) (y7 (linB p C (Ker p C R (qf l C)))) hC fun s hs=> ?_
    unfold qy.q
    refine Ev.bind (Y7 p R C l s) ?_
    have hok:YT p R C l s=true:=by
      unfold YT
      rw [hm,Bool.true_and,decide_eq_true_eq,Int.toNat_natCast]
      exact ⟨by omega,by omega,by omega,by exact_mod_cast hs⟩
    unfold QY
    rw [if_pos hok,Int.toNat_natCast,Int.toNat_natCast,Int.toNat_natCast,zce,Qg (by omega)]
    simp only [Option.bind_some]
    refine Ev.some ?_
    unfold y7
    rw [←Ve hf hC hM hs]
    unfold rkS
    exact decide_eq_decide.2 ⟨fun h=>by exact_mod_cast h,fun h=>by exact_mod_cast h⟩
  have hlt: ∀x∈YX (linB p C (Ker p C R (qf l C))) (2 ^C),x<256:=fun x hx=>Nat.lt_of_lt_of_le (zbS hx) h256
  refine Ev.bind hset (Ev.bind (Q6 (C:Int) hlt (Nat.le_trans (zcH _ _) (by omega))) ?_)
  unfold VS
  rw [zdD (ZO hf hC R _) (QM p R C _),if_pos (YJ (ZO hf hC R _) (QM p R C _)),Yp hf hC hM]
  exact Ev.now _
theorem JX (p r c:Int)(l:List Int):(ya p r c l).2.length≤17592186044416:=by
  unfold ya
  cases h:ju p r c l
  · simp
  obtain ⟨R,C,rfl,rfl,hR,hC,hl,h2,h7,hf,hx⟩:=vQ h
  have h256:=QQ hC
  simp only [if_true,ints,List.length_map,Int.toNat_natCast]
  have:=Vg p R C (qf l C) (2 ^C)
  omega
end Go.Proofs.YtjlbfbpjcmjdfaaGreat.L
end
section
namespace Go.Proofs.YtjlbfbpjcmjdfaaGreat.L
open Go.RowKit Go.Proofs.YtjlbfbpjcmjdfaaGreat.F Go.Proofs.YtjlbfbpjcmjdfaaGreatW.PrintWords Go.Proofs.YtjlbfbpjcmjdfaaGreatW.PrintLast Go.Proofs.YtjlbfbpjcmjdfaaGreatW.PrintMore
open Go.Proofs.YtjlbfbpjcmjdfaaGreat.Bits
open Go.Proofs.YtjlbfbpjcmjdfaaGreat.Mt (sdiff cnt full Mat jE rk yQ QX ind sub)
set_option linter.unusedSimpArgs false
set_option linter.unusedVariables false
/-- The dependent sets below a number, in order; the least of them. -/
def VN (B:List Nat)(m:Nat):List Nat:=(List.range m).filter fun s=> !y7 B s
theorem Vx (B:List Nat)(m:Nat):(VN B m).length≤m:=by
  have:=List.length_filter_le (fun s=> !y7 B s) (List.range m)
  rwa [List.length_range] at this
theorem YP {B:List Nat}{m s:Nat}(h:s∈VN B m):s<m:=List.mem_range.1 (List.mem_filter.1 h).1
def Yl (N:Nat)(B:List Nat):List Nat:=zad (VN B (2 ^N))
theorem zc8 {N:Nat}(hN:N≤8):(2:Nat) ^N≤256:=Nat.pow_le_pow_right (n:=2) (by decide) hN
theorem zb7 {N:Nat}{B:List Nat}(M:Mat N B){s:Nat}:s∈Yl N B↔QX N B s:=by
  have h8: ∀x∈VN B (2 ^N),x<256:=fun x hx=>jE M.size (YP hx)
  have hd: ∀x,x∈VN B (2 ^N)↔x<2 ^N∧ ¬ind B x:=fun x=>by
    unfold VN
    rw [List.mem_filter,List.mem_range]
    constructor
    · rintro ⟨h1,h2⟩
      refine ⟨h1,fun hi=> ?_⟩
      rw [(Qz M (jE M.size h1)).2 hi] at h2;cases h2
    · rintro ⟨h1,h2⟩
      refine ⟨h1,?_⟩
      cases h:y7 B x
      · rfl
      · exact absurd ((Qz M (jE M.size h1)).1 h) h2
  unfold Yl
  rw [Vy h8,hd]
  unfold QX
  constructor
  · rintro ⟨⟨h1,h2⟩,h3⟩
    refine ⟨h1,h2,fun e he=>Classical.byContradiction fun hn=> ?_⟩
    have hs:=Mt.yr s e
    have:=h3 (Mt.del s e) ((hd _).2 ⟨Mt.jl hs h1,hn⟩) hs
    have hb:(Mt.del s e).testBit e=true:=by rw [this];exact he
    rw [Mt.jn] at hb;simp at hb
  · rintro ⟨h1,h2,h3⟩
    exact ⟨⟨h1,h2⟩,fun t ht hts=>(Mt.zao ((hd t).1 ht).2 ⟨h1,h2,h3⟩ hts)⟩
section
variable {N:Nat} {B:List Nat}
theorem za6 (M:Mat N B)(hl:B.length≤17592186044416):Ev (fun k=>qn.f k N (ints B)) (ints (Yl N B)):=by
  unfold qn.f
  have hp:=zc8 M.size
  have key:=qJ (fun k acc s=>qn.l0 k acc s N (ints B)) (2 ^N) (fun acc s=>if (!y7 B s)=true then acc++[(s:Int)] else acc) (fun s acc=>acc=ints (VN B s))
    (fun s acc hs ha=>⟨by
      rw [ha];unfold VN
      rw [List.range_succ,List.filter_append]
      cases h:y7 B s<;>simp [ints,h],fun r hr=>by
      have hlen:acc.length<17592186044416:=by have:=Vx B s;rw [ha,zN];omega
      have hs8:=jE M.size hs
      have hle:=yQ (B:=B) s
      simp only [qn.l0,ZH M.size,Option.bind_some,ZQ.2 hs,if_true,zB (show s<9223372036854775807 by omega)]
      refine Ev.bind (zd6 M.size M.lt hl hs8 _) (Ev.bind (Qk _) ?_)
      rw [Qg hs8]
      by_cases h:rk B s=cnt s
      · rw [show y7 B s=true from decide_eq_true h] at hr
        simp only [Bool.not_true,Bool.false_eq_true,if_false] at hr
        simp only [show ¬(((rk B s:Nat):Int)< ((cnt s:Nat):Int)) by omega,if_false];exact hr
      · rw [show y7 B s=false from decide_eq_false h] at hr
        simp only [Bool.not_false,if_true] at hr
        simp only [show (((rk B s:Nat):Int)< ((cnt s:Nat):Int)) by omega,if_true,hlen];exact hr⟩) [] (by simp [VN,ints])
  refine key.2 _ (Ev.succ ?_)
  rw [key.1]
  simp only [qn.l0,ZH M.size,Option.bind_some,if_neg (fun h=>Nat.lt_irrefl _ (ZQ.1 h))]
  exact Ev.bind (VV (fun x hx=>jE M.size (YP hx)) (by have:=Vx B (2 ^N);omega)) (Ev.now _)
theorem za0 (M:Mat N B)(hl:B.length≤17592186044416){r:Option (List Int)}:Ev (fun k=>(y2 (qH.q k N (ints B)) k N [] 0).bind fun L=>zH.f k L) (ints (Yl N B)):=by
  have h1:=zae (fun k=>qH.q k N (ints B)) (fun s=> !y7 B s) M.size fun s hs=>by
    unfold qH.q
    exact Ev.bind (VZ M hl (jE M.size hs) _) (Ev.now _)
  have hp:=zc8 M.size
  exact Ev.bind h1 (V2 (fun x hx=>jE M.size (YP hx)) (by have:=Vx B (2 ^N);unfold VN at this;omega))
end
def QJ (n:Int)(l:List Int):List Int:=if jY n l=true then ints (Yl n.toNat (l.map Int.toNat)) else []
theorem Y3 (n:Int)(l:List Int):(QJ n l).length≤17592186044416:=by
  unfold QJ
  split
  · have:=zcC (VN (l.map Int.toNat) (2 ^n.toNat))
    rw [zN];unfold Yl;omega
  · simp
theorem Vo (n:Int)(l:List Int)(hl:l.length≤17592186044416):Ev (fun k=>qH.f k n l) (QJ n l):=by
  unfold qH.f QJ
  refine Ev.bind (JP n l hl) ?_
  cases h:jY n l
  · simp only [Bool.false_eq_true,if_false];exact Ev.now _
  obtain ⟨N,B,rfl,rfl,hp,M⟩:=Yy h
  rw [zN] at hl
  simp only [if_true,yh,Int.toNat_natCast]
  exact za0 M hl (r:=none)
theorem QS (n:Int)(l:List Int)(hl:l.length≤17592186044416):Ev (fun k=>vk.f k n l) (QJ n l):=by
  unfold vk.f QJ
  refine Ev.bind (zai n l hl) ?_
  cases h:jY n l
  · simp only [Bool.false_eq_true,if_false];exact Ev.now _
  obtain ⟨N,B,rfl,rfl,hp,M⟩:=Yy h
  rw [zN] at hl
  simp only [if_true,yh,Int.toNat_natCast]
  exact Ev.bind (za6 M hl) (Ev.now _)
end Go.Proofs.YtjlbfbpjcmjdfaaGreat.L
end
section
namespace Go.Proofs.YtjlbfbpjcmjdfaaGreat.L
open Go.RowKit Go.Proofs.YtjlbfbpjcmjdfaaGreat.F Go.Proofs.YtjlbfbpjcmjdfaaGreatW.PrintWords Go.Proofs.YtjlbfbpjcmjdfaaGreatW.PrintLast Go.Proofs.YtjlbfbpjcmjdfaaGreatW.PrintMore
open Go.Proofs.YtjlbfbpjcmjdfaaGreat.Bits
open Go.Proofs.YtjlbfbpjcmjdfaaGreat.Mt (full cnt rk linB Ker yo JG Mat jE QX ind sub del jn vw ZZ yQ yj yr jl elems)
set_option linter.unusedSimpArgs false
set_option linter.unusedVariables false
theorem zcR (es:List Nat)(f:Nat→Int):(List.range es.length).map (fun q=>f (es.getD q 0))=es.map f:=by
  apply List.ext_getElem
  · simp
  · intro i h1 h2
    rw [List.length_map,List.length_range] at h1
    simp [List.getD_eq_getElem?_getD,h1]
section
variable {p:Int} {R C:Nat} (hR:R≤8) (hC:C≤8)
include hR hC
theorem zeb {S:Nat}(hS:S<2 ^C){l:List Int}(hl:l.length=R*C):
    Ev (fun k=>zu.f k p R C l (S:Int)) (p,(R:Int),(((List.range C).filter S.testBit).length:Int),zY (jF ((List.range C).filter S.testBit) (qf l C)) R ((List.range C).filter S.testBit).length):=by
  have h256:S<256:=Nat.lt_of_lt_of_le hS (QQ hC)
  have hcnt:zbc (S:Int)=((List.range C).filter S.testBit).length:=by
    rw [Qg h256,←Zp S C hC hS]
    unfold cnt elems
    rw [List.countP_eq_length_filter]
  have hlen8:((List.range C).filter S.testBit).length≤C:=by
    have:=List.length_filter_le S.testBit (List.range C)
    rwa [List.length_range] at this
  unfold zu.f
  refine Ev.bind (Qk (S:Int)) ?_
  rw [hcnt]
  have hRC:R*C≤64:=Nat.le_trans (Nat.mul_le_mul hR hC) (by decide)
  have l0:=qJ (fun k (x:List Int) i=>zu.l0 k (S:Int) i p R C l p R (((List.range C).filter S.testBit).length:Int) x) R (fun x i=>x++jJ (jF ((List.range C).filter S.testBit) (qf l C)) ((List.range C).filter S.testBit).length i) (fun i x=>x=zY (jF ((List.range C).filter S.testBit) (qf l C)) i ((List.range C).filter S.testBit).length)
    (fun i x hi hxx=>⟨by rw [hxx];exact Qp _ _ i,fun r hr=>by
      have hxl:x.length≤64:=by
        rw [hxx,qm]
        exact Nat.le_trans (Nat.mul_le_mul (show i≤8 by omega) (show _≤8 by omega)) (by decide)
      simp only [zu.l0,show ((i:Int)< (R:Int)) by omega,if_true]
      have l1:=qJ (fun k (y:List Int) j=>zu.l1 k (S:Int) i j p R C l p R (((List.range C).filter S.testBit).length:Int) y) C (fun y j=>if S.testBit j=true then y++[qf l C i j] else y) (fun j y=>y=x++((List.range j).filter S.testBit).map (qf l C i))
        (fun j y hj hy=>⟨by
          rw [hy,List.range_succ,List.filter_append,List.map_append]
          cases hb:S.testBit j
          · simp [hb]
          · simp [hb],fun r hr=>by
          have hcl:=zbH hl hi hj
          have hyl:y.length≤64+j:=by
            have:=List.length_filter_le S.testBit (List.range j)
            rw [List.length_range] at this
            rw [hy,List.length_append,List.length_map];omega
          simp only [zu.l1,show ((j:Int)< (C:Int)) by omega,if_true,zcF S j h256 (by omega),Option.bind_some,zB (show j<9223372036854775807 by omega)]
          cases hb:S.testBit j
          · rw [hb] at hr
            simp only [Bool.false_eq_true,if_false] at hr ⊢
            exact hr
          · rw [hb] at hr
            simp only [if_true] at hr ⊢
            simp only [qX (show i≤8 by omega) hC (show j≤8 by omega),show (0:Int)≤((i*C+j:Nat):Int) by omega,show ((i*C+j:Nat):Int)< (l.length:Int) by omega,show y.length<17592186044416 by omega,if_true,qG]
            exact hr⟩) x (by simp)
      refine l1.2 _ (Ev.succ ?_)
      rw [l1.1]
      simp only [zu.l1,show ¬((C:Int)< (C:Int)) by omega,if_false,zB (show i<9223372036854775807 by omega)]
      have hrow:jJ (jF ((List.range C).filter S.testBit) (qf l C)) ((List.range C).filter S.testBit).length i=((List.range C).filter S.testBit).map (qf l C i):=zcR _ (qf l C i)
      rw [←hrow]
      exact hr⟩) [] (by simp [zY])
  refine l0.2 _ (Ev.succ ?_)
  rw [l0.1]
  simp only [zu.l0,show ¬((R:Int)< (R:Int)) by omega,if_false]
  exact Ev.now _
end
theorem Q0: ∀(n:Nat) (P:List Nat),P.Pairwise (· < ·)→P.length=n→(∀x∈P,x<n)→P=List.range n
  |0,P,_,h,_=>by rw [List.length_eq_zero_iff.1 h];rfl
  |n+1,P,hs,hl,hlt=>by
    have hne:P≠[]:=fun e=>by rw [e] at hl;cases hl
    obtain ⟨Q,x,rfl⟩: ∃Q x,P=Q++[x]:=⟨P.dropLast,P.getLast hne,(List.dropLast_concat_getLast hne).symm⟩
    rw [List.pairwise_append] at hs
    obtain ⟨h1,_,h3⟩:=hs
    have hx1:=hlt x (by simp)
    have hQ: ∀y∈Q,y<n:=fun y hy=>by have:=h3 y hy x (by simp);omega
    have ih:=Q0 n Q h1 (by simpa using hl) hQ
    have hx:x=n:=by
      rcases Nat.eq_zero_or_pos n with h0|hn
      · omega
      · have hm:n - 1∈Q:=by rw [ih];exact List.mem_range.2 (by omega)
        have:=h3 _ hm x (by simp);omega
    rw [ih,hx,List.range_succ]
theorem Yz (p:Int)(R s n:Nat)(M:Tab):yx p R s M n=((List.range n).filter s.testBit).foldl (qd p R) ⟨0,M,[]⟩:=by
  unfold yx;rw [List.foldl_filter]
theorem zaL {a:List Nat}{e:Nat}(h:e∉a):(a++[e]).filter (fun i=> !decide (e=i))=a:=by
  rw [List.filter_append]
  have h1:a.filter (fun i=> !decide (e=i))=a:=List.filter_eq_self.2 fun x hx=>by
    have:e≠x:=fun h'=>h (h' ▸hx)
    simp [this]
  rw [h1]
  simp
section
variable {p:Int} {R C:Nat} {M:Tab}
theorem zbf (hf:isField p=true)(hR:R≤8)(hC:C≤8)(hM:InF p R C M){S:Nat}(hc:QX C (linB p C (Ker p C R M)) S):
    ∃n,((List.range C).filter S.testBit).length=n+1∧(vR p R (n+1) (jF ((List.range C).filter S.testBit) M)).t=n∧(vR p R (n+1) (jF ((List.range C).filter S.testBit) M)).ps=ints (List.range n):=by
  have hmat:=ZO hf hC R M
  have hne:linB p C (Ker p C R M)≠[]:=hmat.ne
  obtain ⟨hS,hni,hdel⟩:=hc
  have h256:S<256:=Nat.lt_of_lt_of_le hS (QQ hC)
  have hpw:((List.range C).filter S.testBit).Pairwise (· < ·):=yk _ _
  have hlt: ∀e∈(List.range C).filter S.testBit,e<C:=fun e he=>List.mem_range.1 (List.mem_filter.1 he).1
  have hbit: ∀e∈(List.range C).filter S.testBit,S.testBit e=true:=fun e he=>(List.mem_filter.1 he).2
  have hcnt: ∀T,T<2 ^C→cnt T=((List.range C).filter T.testBit).length:=fun T hT=>by
    rw [←Zp T C hC hT]
    unfold cnt elems
    rw [List.countP_eq_length_filter]
  have hen:(List.range C).filter S.testBit≠[]:=fun e=>by
    apply hni
    refine (vw hne h256).2 ?_
    have h0:=hcnt S hS
    rw [e] at h0
    have h1:=yQ (B:=linB p C (Ker p C R M)) S
    rw [h0] at h1 ⊢
    simpa using h1
  obtain ⟨a,e,hae⟩: ∃a e,(List.range C).filter S.testBit=a++[e]:=⟨_,_,(List.dropLast_concat_getLast hen).symm⟩
  have he:e∈(List.range C).filter S.testBit:=by rw [hae];simp
  have hea:e∉a:=fun h=>by
    rw [hae,List.pairwise_append] at hpw
    have:=hpw.2.2 e h e (by simp)
    omega
  have hS':del S e<2 ^C:=jl (yr S e) hS
  have hfil:(List.range C).filter (del S e).testBit=a:=by
    have h1:(List.range C).filter (del S e).testBit=((List.range C).filter S.testBit).filter (fun i=> !decide (e=i)):=by
      rw [List.filter_filter]
      exact List.filter_congr fun x _=>by rw [jn,Bool.and_comm]
    rw [h1,hae,zaL hea]
  have hlen:((List.range C).filter S.testBit).length=a.length+1:=by rw [hae];simp
  refine ⟨a.length,hlen,?_⟩
  have hrS':rk (linB p C (Ker p C R M)) (del S e)=a.length:=by
    have h:=(vw hne (Nat.lt_of_lt_of_le hS' (QQ hC))).1 (hdel e (hbit e he))
    rw [h,hcnt _ hS',hfil]
  have hrS:rk (linB p C (Ker p C R M)) S=a.length:=by
    have h1:rk (linB p C (Ker p C R M)) S≠cnt S:=fun h=>hni ((vw hne h256).2 h)
    have h2:=yQ (B:=linB p C (Ker p C R M)) S
    have h3:=yj (B:=linB p C (Ker p C R M)) (yr S e)
    rw [hcnt S hS,hlen] at h1 h2
    omega
  have hX:InF p R (a.length+1) (jF ((List.range C).filter S.testBit) M):=fun i q hi hq=>by
    unfold jF
    refine hM i _ hi (hlt _ ?_)
    rw [List.getD_eq_getElem?_getD,List.getElem?_eq_getElem (by omega)]
    exact List.getElem_mem _
  have ht:((List.range a.length).foldl (qd p R) ⟨0,jF ((List.range C).filter S.testBit) M,[]⟩).t=a.length:=by
    rw [(Ql _ p R M a.length (by omega)).1,hae,List.take_left' rfl]
    have:=zbe (Zb hf) hC hS' hM
    rw [Yz,hfil,hrS'] at this
    exact this
  have ht1:((List.range (a.length+1)).foldl (qd p R) ⟨0,jF ((List.range C).filter S.testBit) M,[]⟩).t=a.length:=by
    rw [(Ql _ p R M (a.length+1) (by omega)).1,List.take_of_length_le (by omega)]
    have:=zbe (Zb hf) hC hS hM
    rw [Yz,hrS] at this
    exact this
  obtain ⟨P,hP⟩:=RI.run (R:=R) (Zb hf) hX a.length (by omega)
  have hPr:P=List.range a.length:=Q0 _ P hP.sort (by rw [hP.len,ht]) hP.lt
  unfold vR
  refine ⟨ht1,?_⟩
  rw [List.range_succ,List.foldl_append] at ht1 ⊢
  simp only [List.foldl_cons,List.foldl_nil] at ht1 ⊢
  generalize (List.range a.length).foldl (qd p R) ⟨0,jF ((List.range C).filter S.testBit) M,[]⟩=st at ht ht1 hP ⊢
  unfold qd at ht1 ⊢
  split at ht1
  · simp only at ht1;omega
  · rename_i hcc
    rw [if_neg hcc,hP.ps,hPr]
end
end Go.Proofs.YtjlbfbpjcmjdfaaGreat.L
end
section
namespace Go.Proofs.YtjlbfbpjcmjdfaaGreat.L
open Go.RowKit Go.Proofs.YtjlbfbpjcmjdfaaGreat.F Go.Proofs.YtjlbfbpjcmjdfaaGreatW.PrintWords Go.Proofs.YtjlbfbpjcmjdfaaGreatW.PrintLast Go.Proofs.YtjlbfbpjcmjdfaaGreatW.PrintMore
open Go.Proofs.YtjlbfbpjcmjdfaaGreat.Bits
open Go.Proofs.YtjlbfbpjcmjdfaaGreat.Mt (full cnt rk linB Ker yo JG Mat jE QX)
set_option linter.unusedSimpArgs false
set_option linter.unusedVariables false
theorem inv_zero: ∀k:Nat,(zE.f (k+20) 2 0=some 0∧zE.f (k+20) 3 0=some 0∧zE.f (k+20) 5 0=some 0∧zE.f (k+20) 7 0=some 0)∧zF.f (k+20) 2 0=some 0∧zF.f (k+20) 3 0=some 0∧zF.f (k+20) 5 0=some 0∧zF.f (k+20) 7 0=some 0:=
  fun k=>⟨⟨by kernel_rfl,by kernel_rfl,by kernel_rfl,by kernel_rfl⟩,by kernel_rfl,by kernel_rfl,by kernel_rfl,by kernel_rfl⟩
theorem zcq {p a:Int}(hf:isField p=true)(h0:0≤a)(h1:a<p): ∃f,Ev (fun k=>zE.f k p a) f∧Ev (fun k=>zF.f k p a) f:=by
  rcases Int.lt_or_eq_of_le h0 with h|h
  · exact ⟨_,zd0 hf (by omega) h1,zd3 hf (by omega) h1⟩
  · subst h
    have hp:p=2∨p=3∨p=5∨p=7:=by simpa [isField] using hf
    refine ⟨0,⟨20,fun k hk=> ?_⟩,⟨20,fun k hk=> ?_⟩⟩
    · obtain ⟨m,rfl⟩:=Nat.exists_eq_add_of_le hk
      rw [Nat.add_comm]
      obtain ⟨⟨a1,a2,a3,a4⟩,_⟩:=inv_zero m
      rcases hp with rfl|rfl|rfl|rfl<;>assumption
    · obtain ⟨m,rfl⟩:=Nat.exists_eq_add_of_le hk
      rw [Nat.add_comm]
      obtain ⟨_,a1,a2,a3,a4⟩:=inv_zero m
      rcases hp with rfl|rfl|rfl|rfl<;>assumption
theorem Yn (p:Int)(C n:Nat)(M:Tab): ∀m,m≤n→Qf p C (List.range n) M m=[]
  |0,_=>rfl
  |m+1,h=>by rw [Z3,if_pos (List.mem_range.2 (by omega))];exact Yn p C n M m (by omega)
theorem zdm (p:Int)(n:Nat)(M:Tab):Qf p (n+1) (List.range n) M (n+1)=vG p (n+1) (List.range n) M n:=by
  rw [Z3,if_neg (by rw [List.mem_range];omega),Yn p (n+1) n M n (Nat.le_refl _),List.nil_append]
theorem zaw {p:Int}{R C:Nat}(hf:isField p=true)(hR:R≤8)(hC:C≤8){l:List Int}(hl:l.length=R*C)(hx: ∀x∈l,0≤x∧x<p):ju p R C l=true:=by
  rw [Z0 ⟨hf,by omega,by omega,by omega,by omega,by rw [hl];simp⟩,List.all_eq_true]
  exact fun x h=>decide_eq_true (hx x h)
/-- What is laid into the answer. -/
def VQ (p:Int)(C:Nat)(es:List Nat)(y:List Int)(f:Int):List Int:=(List.range es.length).foldl (fun x k=>x.set (es.getD k 0) (Int.tmod (wrap64 (rd y (k:Int)*f)) p)) (List.replicate C 0)
section
variable {p:Int} {R C n:Nat} {es:List Nat} {y:List Int} {f:Int}
theorem zeO (hp:p≠0)(hC:C≤8)(hn:es.length≤8)(hlt: ∀e∈es,e<C)(hy:y.length=es.length)(l:List Int)(r t c:Int):Ev (fun k=>zx.l0 k f (ints es) (List.replicate C 0) 0 p R C l r t c y) (VQ p C es y f,true):=by
  have hil:(ints es).length=es.length:=by simp [ints]
  have key:=qJ (fun k (x:List Int) i=>zx.l0 k f (ints es) x i p R C l r t c y) es.length (fun x k=>x.set (es.getD k 0) (Int.tmod (wrap64 (rd y (k:Int)*f)) p)) (fun _ x=>x.length=C)
    (fun i x hi hx=>⟨by rw [List.length_set];exact hx,fun ρ hr=>by
      have hg:es.getD i 0=es[i]:=by simp [List.getD_eq_getElem?_getD,hi]
      have he:=hlt _ (List.getElem_mem hi)
      rw [hg] at hr
      simp only [zx.l0,hil,show ((i:Int)< (es.length:Int)) by omega,show (0:Int)≤(i:Int) by omega,hy,if_true,hp,if_false,Qq es i hi,show (0:Int)≤((es[i]:Nat):Int) by omega,hx,show ((es[i]:Nat):Int)< (C:Int) by omega,Int.toNat_natCast,zB (show i<9223372036854775807 by omega)]
      exact hr⟩) (List.replicate C 0) (by simp)
  refine key.2 _ (Ev.succ ?_)
  simp only [zx.l0,hil,show ¬((es.length:Int)< (es.length:Int)) by omega,if_false]
  exact Ev.now _
theorem zfd (hp:p≠0)(hC:C≤8)(hn:es.length≤8)(hlt: ∀e∈es,e<C)(hy:y.length=es.length)(l:List Int):Ev (fun k=>zf.l1 k y f (List.replicate C 0) (ints es) (es.length:Int) 0 p R C l) (VQ p C es y f,true):=by
  have hil:(ints es).length=es.length:=by simp [ints]
  have key:=qJ (fun k (x:List Int) i=>zf.l1 k y f x (ints es) (es.length:Int) i p R C l) es.length (fun x k=>x.set (es.getD k 0) (Int.tmod (wrap64 (rd y (k:Int)*f)) p)) (fun _ x=>x.length=C)
    (fun i x hi hx=>⟨by rw [List.length_set];exact hx,fun ρ hr=>by
      have hg:es.getD i 0=es[i]:=by simp [List.getD_eq_getElem?_getD,hi]
      have he:=hlt _ (List.getElem_mem hi)
      rw [hg] at hr
      simp only [zf.l1,hil,show ((i:Int)< (es.length:Int)) by omega,show (0:Int)≤(i:Int) by omega,hy,if_true,hp,if_false,Qq es i hi,show (0:Int)≤((es[i]:Nat):Int) by omega,hx,show ((es[i]:Nat):Int)< (C:Int) by omega,Int.toNat_natCast,zB (show i<9223372036854775807 by omega)]
      exact hr⟩) (List.replicate C 0) (by simp)
  refine key.2 _ (Ev.succ ?_)
  simp only [zf.l1,show ¬((es.length:Int)< (es.length:Int)) by omega,if_false]
  exact Ev.now _
theorem zbd:(VQ p C es y f).length=C:=by
  unfold VQ
  have: ∀(ks:List Nat) (x:List Int),(ks.foldl (fun x k=>x.set (es.getD k 0) (Int.tmod (wrap64 (rd y (k:Int)*f)) p)) x).length=x.length:=fun ks=>by
    induction ks with
    |nil=>intro x;rfl
    |cons k ks ih=>intro x;rw [List.foldl_cons,ih,List.length_set]
  rw [this,List.length_replicate]
end
/-- The sums of the columns: of the reduced matrix (program), the one row of the dual's matrix (reference). -/
theorem zei {p:Int}{n C':Nat}(hp:2≤p∧p≤7)(hn:n+1≤8)(hC':C'=n+1){M:Tab}(hM: ∀i,i<n→0≤M i n∧M i n<p)(xs l:List Int)(R C:Int){ρ:List Int×Bool}
    (h:Ev (fun k=>zf.l0 k xs (n:Int) (vG p (n+1) (List.range n) M n) (n:Int) p R C l p n C' (zY M n C')) ρ):
    Ev (fun k=>zf.l0 k xs (n:Int) ((List.replicate (n+1) (0:Int)).set n 1) 0 p R C l p n C' (zY M n C')) ρ:=by
  subst hC'
  have key:=qJ (fun k (x:List Int) i=>zf.l0 k xs (n:Int) x i p R C l p n (n+1:Nat) (zY M n (n+1))) n (fun row i=>row.set ((List.range n).getD i 0) (Int.tmod (p - M i n) p)) (fun _ x=>x.length=n+1)
    (fun i x hi hx=>by
      have hb:=hM i hi
      refine ⟨by rw [List.length_set];exact hx,fun r hr=> ?_⟩
      · have hg:(List.range n).getD i 0=i:=by simp [List.getD_eq_getElem?_getD,hi]
        have h1:=jX hi (show n<n+1 by omega)
        rw [hg] at hr
        simp only [zf.l0,show ((i:Int)< (n:Int)) by omega,if_true,jG.f,qX (show i≤8 by omega) hn (show n≤8 by omega),qm,show (0:Int)≤((i*(n+1)+n:Nat):Int) by omega,show ((i*(n+1)+n:Nat):Int)< ((n*(n+1):Nat):Int) by omega,Option.bind_some,qG,qV M hi (show n<n+1 by omega),show ¬p=0 by omega,if_false,show (0:Int)≤(i:Int) by omega,hx,show ((i:Int)< ((n+1:Nat):Int)) by omega,Int.toNat_natCast,ja (show -9223372036854775808≤p - M i n by omega) (by omega),zB (show i<9223372036854775807 by omega)]
        exact hr) ((List.replicate (n+1) (0:Int)).set n 1) (by simp)
  have hd:vG p (n+1) (List.range n) M n=(List.range n).foldl (fun row i=>row.set ((List.range n).getD i 0) (Int.tmod (p - M i n) p)) ((List.replicate (n+1) (0:Int)).set n 1):=by
    unfold vG;rw [List.length_range]
  rw [←hd] at key
  exact key.2 _ h
theorem zdS {p:Int}{n:Nat}(hp:2≤p)(C:Nat)(P:List Nat){M:Tab}(hM: ∀i,i<P.length→M i n<p): ∀x∈vG p C P M n,0≤x∧x<p:=by
  have key: ∀(is:List Nat) (row:List Int),(∀i∈is,i<P.length)→(∀v∈row,0≤v∧v<p)→ ∀v∈is.foldl (fun row i=>row.set (P.getD i 0) (Int.tmod (p - M i n) p)) row,0≤v∧v<p:=fun is=>by
    induction is with
    |nil=>intro row _ h;exact h
    |cons i is ih=>
      intro row hi h
      refine ih _ (fun j hj=>hi j (List.mem_cons_of_mem _ hj)) fun v hv=> ?_
      rcases List.mem_or_eq_of_mem_set hv with h'|rfl
      · exact h v h'
      · have:=hM i (hi i List.mem_cons_self)
        exact J4 (by omega) hp
  refine key _ _ (fun i hi=>List.mem_range.1 hi) fun v hv=> ?_
  rcases List.mem_or_eq_of_mem_set hv with h|rfl
  · rw [List.eq_of_mem_replicate h];omega
  · omega
theorem zaY:QJ 0 []=[]:=by simp [QJ,jY]
theorem zdo (p r c:Int)(l:List Int)(s:Int): ∃q:List Int×Bool,q.1.length≤8∧Ev (fun k=>zx.f k p r c l s) q∧Ev (fun k=>zf.f k p r c l s) q:=by
  have hfl:=JX p r c l
  have no:Ev (fun k=>zf.j0 k s true p r c l) ([],false):=Ev.succ (by simp only [zf.j0,if_true];exact Ev.now _)
  by_cases hm:ju p r c l=true
  rotate_left
  · have hm':ju p r c l=false:=by simpa using hm
    refine ⟨([],false),by simp,?_,?_⟩
    · unfold zx.f
      refine Ev.bind (ZW p r c l) (Ev.bind (QS _ _ hfl) ?_)
      unfold ya
      simp only [hm',Bool.false_eq_true,if_false,zaY]
      refine Ev.bind (Qh [] s (by simp)) ?_
      simp only [List.not_mem_nil,decide_false,Bool.false_eq_true,if_false]
      exact Ev.now _
    · unfold zf.f
      refine Ev.bind (Zh p r c l) ?_
      simp only [hm',Bool.false_eq_true,if_false]
      exact no
  have hci:=Y3 (ya p r c l).1 (ya p r c l).2
  by_cases hs:s∈QJ (ya p r c l).1 (ya p r c l).2
  rotate_left
  · refine ⟨([],false),by simp,?_,?_⟩
    · unfold zx.f
      refine Ev.bind (ZW p r c l) (Ev.bind (QS _ _ hfl) (Ev.bind (Qh _ s hci) ?_))
      simp only [decide_eq_false hs,Bool.false_eq_true,if_false]
      exact Ev.now _
    · unfold zf.f
      refine Ev.bind (Zh p r c l) ?_
      simp only [hm,if_true]
      refine Ev.bind (Ja p r c l) (Ev.bind (Vo _ _ hfl) (Ev.bind (Vb _ s hci) ?_))
      simp only [decide_eq_false hs,Bool.not_false]
      exact no
  have hsd:=decide_eq_true hs
  obtain ⟨R,C,rfl,rfl,hR,hC,hl,h2,h7,hf,hx⟩:=vQ hm
  have hM:InF p R C (qf l C):=fun i j _ _=>Zx h2 hx _
  have hbl:=Yp hf hC hM
  have hmat:=ZO hf hC R (qf l C)
  obtain ⟨S,rfl,hcirc⟩: ∃S:Nat,s=(S:Int)∧QX C (linB p C (Ker p C R (qf l C))) S:=by
    have h:=hs
    unfold QJ ya at h
    simp only [hm,if_true,Int.toNat_natCast,hbl] at h
    split at h
    · rw [yh] at h
      obtain ⟨S,hS,he⟩:=List.mem_map.1 h
      exact ⟨S,he.symm,(zb7 hmat).1 hS⟩
    · cases h
  obtain ⟨n,hn,ht,hps⟩:=zbf hf hR hC hM hcirc
  have hS:S<2 ^C:=hcirc.1
  have h256:S<256:=Nat.lt_of_lt_of_le hS (QQ hC)
  have hes:y4 (S:Int)=(List.range C).filter S.testBit:=by
    rw [←Zp S C hC hS]
    exact QR h256
  have hlt: ∀e∈(List.range C).filter S.testBit,e<C:=fun e he=>List.mem_range.1 (List.mem_filter.1 he).1
  have hn8:n+1≤8:=by
    have:=ZF (S:Int)
    rw [hes,hn] at this;exact this
  have hX:InF p R (n+1) (jF ((List.range C).filter S.testBit) (qf l C)):=fun i q hi hq=>by
    unfold jF
    refine hM i _ hi (hlt _ ?_)
    rw [List.getD_eq_getElem?_getD,List.getElem?_eq_getElem (by omega)]
    exact List.getElem_mem _
  have hcs:=zeb hR hC hS hl (p:=p)
  have hcI:=zcN hR hC hes hlt hl (p:=p)
  have hilen:(ints ((List.range C).filter S.testBit)).length=n+1:=by rw [show (ints ((List.range C).filter S.testBit)).length=((List.range C).filter S.testBit).length by simp [ints],hn]
  rw [hn] at hcs hcI
  have hls:(zY (jF ((List.range C).filter S.testBit) (qf l C)) R (n+1)).length=R*(n+1):=qm _ _ _
  have hxs: ∀x∈zY (jF ((List.range C).filter S.testBit) (qf l C)) R (n+1),0≤x∧x<p:=fun x hx=>by
    obtain ⟨q,hq,rfl⟩:=List.mem_map.1 hx
    rw [List.mem_range] at hq
    exact hX _ _ (Yg hq) (Nat.mod_lt _ (by omega))
  have hri:=zdb hR hn8 hf hls hxs
  have hu:=Ev.uniq hri (zab hR hn8 hf hX)
  have hmx:=zaw hf hR hn8 hls hxs
  have hds:=Y9 p R ((n+1:Nat):Int) (zY (jF ((List.range C).filter S.testBit) (qf l C)) R (n+1))
  have hM0:InF p R (n+1) (qf (zY (jF ((List.range C).filter S.testBit) (qf l C)) R (n+1)) (n+1)):=fun i j _ _=>Zx h2 hxs _
  obtain ⟨P,hP⟩:=RI.run (R:=R) (Zb hf) hM0 (n+1) (Nat.le_refl _)
  rw [show (List.range (n+1)).foldl (qd p R) ⟨0,qf (zY (jF ((List.range C).filter S.testBit) (qf l C)) R (n+1)) (n+1),[]⟩=vR p R (n+1) (qf (zY (jF ((List.range C).filter S.testBit) (qf l C)) R (n+1)) (n+1)) from rfl] at hP
  unfold zdh at hds
  rw [hmx] at hds
  unfold Zn at hds
  simp only [if_true,Int.toNat_natCast] at hds
  unfold zbz at hri hu
  generalize zY (jF ((List.range C).filter S.testBit) (qf l C)) R (n+1)=lX at hcs hcI hls hxs hri hu hmx hds hM0 hP
  have hinF:=hP.inF
  have htR:=hP.t_le
  generalize vR p R (n+1) (qf lX (n+1))=A at hri hu hds hP hinF htR
  simp only [Prod.mk.injEq] at hu
  obtain ⟨-,hu1,-,-,hu2⟩:=hu
  have hAt:A.t=n:=by rw [ht] at hu1;exact_mod_cast hu1
  have hAp:A.ps=ints (List.range n):=by rw [hu2,hps]
  rw [hAp,yh,hAt,zdm] at hds
  rw [hAt,hAp] at hri
  have hMn: ∀i,i<n→0≤A.M i n∧A.M i n<p:=fun i hi=>hinF i n (by omega) (by omega)
  have hlenD:=Z6 p (n+1) (List.range n) A.M n
  obtain ⟨f,hfs,hfi⟩: ∃f,Ev (fun k=>zE.f k p (rd (vG p (n+1) (List.range n) A.M n) 0)) f∧Ev (fun k=>zF.f k p (rd (vG p (n+1) (List.range n) A.M n) 0)) f:=by
    have hb:=Zx h2 (zdS (n:=n) h2 (n+1) (List.range n) (fun i hi=>(hMn i (by rw [List.length_range] at hi;exact hi)).2)) 0
    rw [←qG] at hb
    exact zcq hf hb.1 hb.2
  refine ⟨(VQ p C ((List.range C).filter S.testBit) (vG p (n+1) (List.range n) A.M n) f,true),by rw [zbd];exact hC,?_,?_⟩
  · unfold zx.f
    refine Ev.bind (ZW p R C l) (Ev.bind (QS _ _ hfl) (Ev.bind (Qh _ _ hci) ?_))
    simp only [hsd,if_true]
    refine Ev.bind hcs (Ev.bind hds ?_)
    simp only [hlenD,show (0:Int)< ((n+1:Nat):Int) by omega,if_true]
    refine Ev.bind hfs (Ev.bind (YB (S:Int)) ?_)
    simp only [show (0:Int)≤(C:Int) by omega,if_true,Int.toNat_natCast,show C≤35184372088832 by omega,hes]
    exact zeO (by omega) hC (by omega) hlt (by rw [hlenD,hn]) l _ _ _
  · unfold zf.f
    refine Ev.bind (Zh p R C l) ?_
    simp only [hm,if_true]
    refine Ev.bind (Ja p R C l) (Ev.bind (Vo _ _ hfl) (Ev.bind (Vb _ _ hci) ?_))
    simp only [hsd,Bool.not_true]
    refine Ev.succ ?_
    simp only [zf.j0,Bool.false_eq_true,if_false]
    refine Ev.bind (Ze (S:Int)) (Ev.bind hcI (Ev.bind hri ?_))
    rw [hes]
    simp only [hilen,Int.toNat_natCast,show (0:Int)≤((n+1:Nat):Int) by omega,show n+1≤35184372088832 by omega,if_true,Option.bind_some,show wrap64 (((n+1:Nat):Int) - 1)=(n:Int) from by rw [ja (by omega) (by omega)];omega,show (0:Int)≤(n:Int) by omega,List.length_replicate,show (n:Int)< ((n+1:Nat):Int) by omega]
    refine zei ⟨h2,h7⟩ hn8 rfl hMn _ l R C ?_
    refine Ev.succ ?_
    simp only [zf.l0,show ¬((n:Int)< (n:Int)) by omega,if_false,hlenD,show (0:Int)< ((n+1:Nat):Int) by omega,if_true]
    refine Ev.bind hfi ?_
    simp only [show (0:Int)≤(C:Int) by omega,if_true,Int.toNat_natCast,show C≤35184372088832 by omega,hilen]
    have h:=zfd (p:=p) (f:=f) (es:=(List.range C).filter S.testBit) (y:=vG p (n+1) (List.range n) A.M n) (by omega) hC (by omega) hlt (by rw [hlenD,hn]) l (R:=R)
    rw [hn] at h
    exact h
end Go.Proofs.YtjlbfbpjcmjdfaaGreat.L
end
section
namespace Go.Proofs.YtjlbfbpjcmjdfaaGreat.L
open Go.RowKit Go.Proofs.YtjlbfbpjcmjdfaaGreat.F Go.Proofs.YtjlbfbpjcmjdfaaGreatW.PrintWords Go.Proofs.YtjlbfbpjcmjdfaaGreatW.PrintLast Go.Proofs.YtjlbfbpjcmjdfaaGreatW.PrintMore
open Go.Proofs.YtjlbfbpjcmjdfaaGreat.Bits
set_option linter.unusedSimpArgs false
/-- n numbers from m on. -/
def Z4 (n:Nat)(m:Int):List Int:=(List.range n).map fun i:Nat=>m+(i:Int)
theorem Zd (n:Nat)(m:Int):(Z4 n m).length=n:=by simp [Z4]
theorem zcj (n:Nat)(m:Int)(i:Nat)(h:i<n):(Z4 n m).getD i 0=m+i:=by simp [Z4,h]
theorem Yt (l:List Int)(m:Int): ∀n,n≤l.length→(List.range n).foldl (fun (s:List Int×Int) i=>(s.1.set i s.2,s.2+1)) (l,m)=(Z4 n m++l.drop n,m+n)
  |0,_=>by simp [Z4]
  |n+1,h=>by
    rw [List.range_succ,List.foldl_append,Yt l m n (by omega)]
    simp only [List.foldl_cons,List.foldl_nil,Prod.mk.injEq]
    refine ⟨?_,by omega⟩
    rw [List.set_append_right _ _ (by rw [Zd];exact Nat.le_refl n),Zd,Nat.sub_self,List.drop_eq_getElem_cons (by omega),List.set_cons_zero]
    simp [Z4,List.range_succ]
theorem zas (l:List Int)(m:Int)(h:l.length≤17592186044416)(h0:0≤m)(h1:m≤140737488355328):Ev (fun k=>qB.f k l m) (m+l.length,Z4 l.length m):=by
  unfold qB.f
  have key:=yt (fun k (s:List Int×Int) i=>qB.l0 k s.1 s.2 i) l.length (fun s i=>(s.1.set i s.2,s.2+1)) (fun i s=>s.1.length=l.length∧s.2=m+i) (fun s=>(s.2,s.1))
    (fun s hs=>by
      simp only [qB.l0,hs.1,show ¬((l.length:Int)< (l.length:Int)) by omega,if_false]
      exact Ev.now _)
    (fun i s hi hs=>⟨⟨by simp [hs.1],by simp only [hs.2];omega⟩,fun r hr=>by
      have hw:wrap64 (s.2+1)=s.2+1:=ja (by omega) (by omega)
      simp only [qB.l0,hs.1,show ((i:Int)< (l.length:Int)) by omega,show (0:Int)≤(i:Int) by omega,if_true,Int.toNat_natCast,hw,zB (show i<9223372036854775807 by omega)]
      exact hr⟩) (l,m) ⟨rfl,by simp⟩
  rw [Yt l m l.length (Nat.le_refl _)] at key
  simpa using key
theorem zaC (n:Nat)(m:Int)(h:n≤17592186044416)(h0:0≤m)(h1:m≤140737488355328):Ev (fun k=>qI.f k (Z4 n m) m) (m+n):=by
  unfold qI.f
  have key:=yt (fun k (s:Int) i=>qI.l0 k (Z4 n m) s i) n (fun s _=>s+1) (fun i s=>s=m+i) id
    (fun s hs=>by
      simp only [qI.l0,Zd,show ¬((n:Int)< (n:Int)) by omega,if_false]
      exact Ev.now _)
    (fun i s hi hs=>⟨by rw [hs];omega,fun r hr=>by
      have hw:wrap64 (s+1)=s+1:=ja (by omega) (by omega)
      have hg:rd (Z4 n m) (i:Int)=s:=by rw [qG,zcj n m i hi,hs]
      simp only [qI.l0,Zd,hg,show ((i:Int)< (n:Int)) by omega,show (0:Int)≤(i:Int) by omega,if_true,hw,zB (show i<9223372036854775807 by omega)]
      exact hr⟩) m (by simp)
  have e: ∀n:Nat,(List.range n).foldl (fun (s:Int) _=>s+1) m=m+n:=by
    intro n
    induction n with
    |zero=>simp
    |succ n ih=>rw [List.range_succ,List.foldl_append,ih];simp;omega
  rw [e n] at key
  exact key
end Go.Proofs.YtjlbfbpjcmjdfaaGreat.L
end
section
namespace Go.Proofs.YtjlbfbpjcmjdfaaGreat.L
open Go.RowKit Go.Proofs.YtjlbfbpjcmjdfaaGreat.F Go.Proofs.YtjlbfbpjcmjdfaaGreatW.PrintWords Go.Proofs.YtjlbfbpjcmjdfaaGreatW.PrintLast Go.Proofs.YtjlbfbpjcmjdfaaGreatW.PrintMore
open Go.Proofs.YtjlbfbpjcmjdfaaGreat.Bits
theorem zbo (p r c:Int)(l:List Int)(h:l.length≤17592186044416):Ev (fun k=>j5.f k p r c l 1) (1+l.length,Z4 l.length 1):=by
  unfold j5.f
  exact Ev.bind (zas l 1 h (by omega) (by omega)) (Ev.now _)
end Go.Proofs.YtjlbfbpjcmjdfaaGreat.L
end
section
namespace Go.Proofs.YtjlbfbpjcmjdfaaGreat.Pure
open Go.RowKit Go.Proofs.YtjlbfbpjcmjdfaaGreat.F Go.Proofs.YtjlbfbpjcmjdfaaGreat.L Go.Proofs.YtjlbfbpjcmjdfaaGreatW.PrintWords Go.Proofs.YtjlbfbpjcmjdfaaGreatW.PrintLast Go.Proofs.YtjlbfbpjcmjdfaaGreatW.PrintMore
theorem FnExactDependenceOf (p r c:Int)(l:List Int)(s:Int)(_:(Lit.int .i64 p).wf=true)(_:(Lit.int .i64 r).wf=true)(_:(Lit.int .i64 c).wf=true)(hl:l.length*8≤140737488351232)(_: ∀x∈l,(Lit.int .i64 x).wf=true)(_:(Lit.int .i64 s).wf=true):
    ∃k,zz.f k p r c l s=some true:=by
  have h1:l.length≤17592186044416:=by omega
  refine Ev.rounds ?_
  unfold zz.f
  obtain ⟨n,hn,hb⟩:=zcv p r c l 1048576 h1 (by decide) (by decide)
  simp only [hn,Option.bind_some]
  by_cases h:n<0
  · simp only [h,if_true];exact Ev.now _
  simp only [h,if_false]
  obtain ⟨⟨x,b⟩,hx,hs,hi⟩:=zdo p r c l s
  simp only at hx
  have hm:x.length≤17592186044416:=by omega
  have hbb:(b != b)=false:=by cases b<;>rfl
  refine Ev.bind (Jb p r c l h1) (Ev.bind hs (Ev.bind (Jb p r c l h1) (Ev.bind hi (Ev.bind (YQ x x hm) ?_))))
  simp only [decide_true,if_true,hbb]
  refine Ev.succ ?_
  simp only [zz.j0,Bool.false_eq_true,if_false]
  refine Ev.bind (Jb p r c l h1) (Ev.bind (zcz p r c l p r c l h1) ?_)
  simp only [decide_true,if_true]
  refine Ev.bind (zbo p r c l h1) ?_
  simp only [show ¬(1+(l.length:Int)<0) by omega,if_false]
  refine Ev.bind (YQ x x hm) ?_
  simp only [decide_true,if_true,hbb]
  refine Ev.succ ?_
  simp only [zz.j1,Bool.false_eq_true,if_false]
  refine Ev.bind (zas x 1 hm (by omega) (by omega)) (Ev.bind (zaC x.length 1 hm (by omega) (by omega)) ?_)
  simp only [show ¬(1+(x.length:Int)<0) by omega,if_false,if_true]
  refine Ev.bind (Jb p r c l h1) (Ev.bind hi (Ev.bind (YQ x x hm) ?_))
  simp only [decide_true,if_true,hbb]
  refine Ev.succ ?_
  simp only [zz.j2,Bool.false_eq_true,if_false]
  refine Ev.bind (zaC x.length 1 hm (by omega) (by omega)) ?_
  simp only [show ¬(1+(x.length:Int)<0) by omega,if_false,if_true]
  exact Ev.now _
end Go.Proofs.YtjlbfbpjcmjdfaaGreat.Pure
end
section
namespace Go.Proofs.YtjlbfbpjcmjdfaaGreat.fnExactDependenceOf
open Go.ChangeShapes Go.WideShapes Go.ChangeAt Go.RowKit Go.Joins
open Go.ChangeMaps (open_string shut_string)
set_option linter.unusedVariables false
theorem lifted (os:Os)(started:os.Started)(H:Type)(enc:TypeId×Value→H):
    ReturnsInHanded {} Tryz.checked os 3 .any (Rows.fnExactDependenceOfSpec.pre6 enc Tryz.prog Tryz.f3 Rows.fnExactDependenceOfRow.domain false) (Rows.fnExactDependenceOfSpec.post enc Tryz.prog Tryz.f3 false true false false):=by
  refine returnsInHanded_of_change_sized (C:=Tryz.checked) Open.own started (by kernel_rfl) Tryz.func3
    (ChangeSpec.witness6 (enc:=enc) (C:=Tryz.checked) false ⟨#[],#[.agg #[.int .i64 0,.int .i64 0,.int .i64 0,.slice none 0 0],.int .i64 0],[]⟩ 8 (by kernel_rfl) (by kernel_rfl) (by kernel_rfl) (by kernel_rfl)) ?_
  intro W base args ds gs before hval0 hW hcnd hsz0 _
  have hsz:(DataW.weightsEach Tryz.prog (Tryz.f3.params.toList++Rows.fnExactDependenceOfSpec.plain.varTypes Tryz.prog) (ds++gs)).all (· ≤reachBytes)=true:=hsz0
  have hval: ∀(j:Nat) t v,Tryz.f3.params[j]? =some t→args[j]? =some v→Value.okWide Tryz.prog W .any base t v:=hval0
  have hW':=hW
  obtain ⟨p,q,hA0,hV,rfl,hfz,hnd⟩:=hW
  have hA:DataW.TrodAll enc Tryz.prog W 0 (fun _=>true) true Tryz.f3.params.toList args.toList ds p:=hA0
  rw [Tryz.params3] at hA hval hsz
  obtain ⟨v0,vs0,d0,ds0,p0,q0,hargs,rfl,rfl,h0,r0⟩:=trodAll_cons hA
  obtain ⟨v1,vs1,d1,ds1,p1,q1,rfl,rfl,rfl,h1,r1⟩:=trodAll_cons r0
  obtain ⟨rfl,rfl,rfl⟩:=trodAll_nil r1
  obtain rfl:args=#[v0,v1]:=by cases args;simp_all
  obtain ⟨rfl,rfl⟩:=trodVars_none hV
  have k0:=h0
  have lt0: ∀x∈p0,x.block<W.heap.size:=by obtain ⟨m,hm⟩:=k0;exact DataW.trod_lt m _ _ _ hm
  obtain ⟨v0_0,v0_1,v0_2,v0_3,y0_0,y0_1,y0_2,y0_3,fuel0,rfl,hd0,hp0,t0_0,t0_1,t0_2,t0_3⟩:=open_agg4 Tryz.underlying24 (by kernel_rfl) (by kernel_rfl) (hval 0 24 v0 rfl rfl) h0
  have z0:(DataW.weightsEach Tryz.prog [3,3,3,22] [y0_0.1,y0_1.1,y0_2.1,y0_3.1]).all (· ≤reachBytes)=true:=Open.zck hsz (j:=0) (t:=24) rfl (congrArg some hd0) Tryz.underlying24
  obtain ⟨a0_0,e0_0,_,w0_0⟩:=DataW.trod_int Tryz.underlying3 t0_0
  obtain rfl:v0_0=_:=(List.cons.inj e0_0).1
  obtain ⟨a0_1,e0_1,_,w0_1⟩:=DataW.trod_int Tryz.underlying3 t0_1
  obtain rfl:v0_1=_:=(List.cons.inj e0_1).1
  obtain ⟨a0_2,e0_2,_,w0_2⟩:=DataW.trod_int Tryz.underlying3 t0_2
  obtain rfl:v0_2=_:=(List.cons.inj e0_2).1
  obtain ⟨A0_3,c0_3,l0_3,rfl,hr0_3,hc0_3,hn0_3,hw0_3⟩:=Open.zcI (j:=3) Tryz.underlying22 Tryz.underlying3 (by kernel_rfl) (by kernel_rfl) z0 rfl rfl t0_3
  obtain ⟨a1,rfl,rfl,rfl,w1⟩:=open_int Tryz.underlying3 (hval 1 3 v1 rfl rfl) h1
  obtain ⟨k,h⟩:=Pure.FnExactDependenceOf a0_0 a0_1 a0_2 l0_3 a1 w0_0 w0_1 w0_2 hn0_3 hw0_3 w1
  refine (F.zz.calls (w:=W) (hr0_3:=hr0_3) (hc0_3:=hc0_3) (h:=h)).mono ?_
  rintro e W' ⟨he,hd⟩
  have bel:Below W.heap.size W W':=by first|exact hd|exact hd.below
  subst he
  exact ⟨_,rfl,_,_,_,[],_,[],hW',trodAll_mk1 (shut_bool Tryz.underlying4 _),(trodAll_cons_mk (Below.trod Open.laidOut (by kernel_rfl) (of_decide_eq_true (by kernel_rfl)) k0 bel lt0) (trodAll_cons_mk (shut_int Tryz.underlying3 w1) trodAll_mk0)),rfl,bel.frame _,fun h=>by cases h⟩
theorem over:Rows.fnExactDependenceOfRow.holds Tryz.pinned (OpenSpec.ofChange Rows.fnExactDependenceOfSpec):=
  OpenClaim.holds_of_wide 3 Tryz.f3 rfl rfl rfl rfl rfl rfl rfl ⟨rfl,rfl,rfl,rfl,rfl⟩ rfl rfl rfl rfl rfl (by kernel_rfl) Tryz.func3 (by kernel_rfl)
    (of_decide_eq_true (by kernel_rfl)) (by unfold Func.isWrapper;first|(rw [if_pos (by decide+kernel)];kernel_rfl)|(rw [if_neg (by decide+kernel)];exact ⟨rfl,rfl⟩))
    (fun os started H enc _=>lifted os started H enc)
theorem proved:Rows.FnExactDependenceOfSaid:=over
end Go.Proofs.YtjlbfbpjcmjdfaaGreat.fnExactDependenceOf
namespace Go.Proofs.YtjlbfbpjcmjdfaaGreat
/-- The row, under a short name, for the claim. -/
theorem fnExactDependenceOf_holds:Rows.FnExactDependenceOfSaid:=fnExactDependenceOf.proved
#print axioms fnExactDependenceOf_holds
end Go.Proofs.YtjlbfbpjcmjdfaaGreat
end
