/- The reference's builder: the bits of an expression. -/
import Derived.Test.YtapjobndmmkanaaGreatQr
import Derived.Test.YtapjobndmmkanaaGreatWe
set_option linter.unusedVariables false
set_option linter.unusedSimpArgs false
set_option maxRecDepth 100000
set_option maxHeartbeats 4000000
namespace Go.Proofs.YtapjobndmmkanaaGreat
open Go.Proofs.Tryz
open Go Go.RowKit
def er(p:Pr)(data:List (List Int)):List D:=aK p++[bQ (aU p),ao data]
def aJ:Ex→List Ex
  | .ny _ _=>[]
  | .gQ _=>[]
  | .fo _=>[]
  | .not a=>[a]
  | .two _ a b=>[a,b]
  | .add a b=>[a,b]
  | .sub a b=>[a,b]
  | .eq a b=>[a,b]
  | .lt a b=>[a,b]
  | .oq a b c=>[a,b,c]
  | .cat a b=>[a,b]
  | .oJ _ _ a=>[a]
  | .ext _ a=>[a]
  | .rd _ a=>[a]
def dv:Ex→Int
  | .ny _ _=>1
  | .gQ _=>16
  | .fo _=>18
  | .not _=>2
  | .two o _ _=>o
  | .add _ _=>6
  | .sub _ _=>7
  | .eq _ _=>8
  | .lt _ _=>9
  | .oq _ _ _=>10
  | .cat _ _=>11
  | .oJ _ _ _=>12
  | .ext _ _=>13
  | .rd _ _=>17
def kEx:Ex→Int
  | .ny v _=>v
  | .gQ i=>i
  | .fo i=>i
  | .oJ k _ _=>k
  | .rd k _=>k
  |_=>0
def l8:Ex→Int
  | .ny _ w=>w
  | .oJ _ w _=>w
  | .ext w _=>w
  |_=>0
def gg(e:Ex):List D:=cv (dv e) (kEx e) (l8 e) ((aJ e).flatMap bR) (aJ e).length
theorem xJ(e:Ex):bR e=gg e:=by
  cases e<;>simp[bR,aJ,dv,kEx,l8,gg]
theorem fR{c:Ct}{q:Bool}{e:Ex}(h:WT c q e):∀k,k<(aJ e).length→WT c q (nth (aJ e) k):=by
  intro k hk
  cases e with
  |ny v w=>simp[aJ]at hk
  |gQ i=>simp[aJ]at hk
  |fo i=>simp[aJ]at hk
  | not a => obtain rfl : k = 0 := by simpa [aJ] using hk
             exact h
  | oJ i w a => obtain rfl : k = 0 := by simpa [aJ] using hk
                exact h.1
  | ext w a => obtain rfl : k = 0 := by simpa [aJ] using hk
               exact h.1
  | rd i a => obtain rfl : k = 0 := by simpa [aJ] using hk
              exact h.1
  |oq a b d=>
    rcases(show k=0∨k=1∨k=2 by simp[aJ]at hk;omega)with rfl|rfl|rfl
    · exact h.1
    · exact h.2.1
    · exact h.2.2.1
  |two o a b=>
    rcases(show k=0∨k=1 by simp[aJ]at hk;omega)with rfl|rfl
    · exact h.2.1
    · exact h.2.2.1
  |_ a b=>
    rcases(show k=0∨k=1 by simp[aJ]at hk;omega)with rfl|rfl
    · exact h.1
    · exact h.2.1
def kv(c:Ct)(l:List Ex):Nat→Nat
  |0=>0
  |k+1=>kv c l k+cf c (nth l k)
theorem Md{c:Ct}{l:List Ex}:∀{k n:Nat},k≤n→kv c l k≤kv c l n
  | k, 0, h => by have : k = 0 := by omega
                  subst this;exact bJ _
  |k,n+1,h=>by
    by_cases e:k=n+1
    · subst e;exact bJ _
    · have:=Md (c:=c) (l:=l) (show k≤n by omega)
      rw[kv];omega
theorem jc1{c:Ct}{e:Ex}:kv c (aJ e) (aJ e).length≤cf c e:=by
  cases e<;>simp[aJ,kv,cf,nth]<;>omega
def wc(f:Gs→Ex→Gs × List Int)(gs:Gs)(l:List Ex):Nat→Gs × List (List Int)
  |0=>(gs,[])
  |k+1=>let s:=wc f gs l k;let r:=f s.1 (nth l k);(r.1,s.2++[r.2])
structure w7 (c:Ct) (m:Nat) (gs:Gs) (l:List Ex) (k:Nat) (s:Gs × List (List Int)):Prop where
  pre:gs<+:s.1
  gi:GI m s.1
  len:s.1.length≤gs.length+kv c l k
  ln:s.2.length=k
  wid:∀j,j<k→(nth s.2 j).length=bV c (nth l j)
  nd:∀j,j<k→∀i,i<bV c (nth l j)→bm m s.1 (nth (nth s.2 j) i)
theorem OG{c:Ct}{q:Bool}{cG:Int→Nat→Nat→Int}{m:Nat}{data:List (List Int)}{gs:Gs}{l:List Ex}(h2:2≤m)(hc:nE c)(hi:C1 c cG m)(hg:GI m gs)(hd:mo c q m gs data)(hw:∀k,k<l.length→WT c q (nth l k)):
    ∀k,k≤l.length→w7 c m gs l k (wc (dN c cG m data) gs l k)
  |0,_=>⟨List.prefix_refl _,hg,by simp[wc],rfl,fun j hj=>by omega,fun j hj=>by omega⟩
  |k+1,hk=>by
    have ih:=OG h2 hc hi hg hd hw k (by omega)
    rw[wc]
    generalize wc (dN c cG m data) gs l k=s at *
    have hb:=LA (q:=q) h2 hc hi (nth l k) ih.gi (hd.pre ih.pre) (hw k (by omega))
    refine⟨ih.pre.trans hb.pre,hb.gi,?_,by simp[ih.ln],fun j hj=>?_,fun j hj i hi=>?_⟩
    · have h1:=ih.len;have h3:=hb.len
      rw[kv];simp only;omega
    · rcases BQ (x:=(dN c cG m data s.1 (nth l k)).2) ih.ln hj with⟨hl,e⟩|⟨hl,e⟩
      · simp only;rw[e];exact ih.wid j hl
      · simp only;rw[e,hl];exact hb.wid
    · rcases BQ (x:=(dN c cG m data s.1 (nth l k)).2) ih.ln hj with⟨hl,e⟩|⟨hl,e⟩
      · simp only;rw[e];exact(ih.nd j hl i hi).pre hb.pre
      · simp only;rw[e];subst hl;exact hb.nd i hi
def N8(p:Pr)(q:Bool)(data:List (List Int))(e:Ex):Prop:=∀gs:Gs,GI (2+(aU p).length) gs→gs.length+cf (aR p) e≤600000→mo (aR p) q (2+(aU p).length) gs data→WT (aR p) q e→
  dq prog 62 [.agg (er p data),.agg (cN (aU p).length gs),.agg (bR e)] (.d (gI (aU p).length (dW p data gs e)))
theorem qC{c:Ct}{q:Bool}{e:Ex}(h:WT c q e):(∃v w,e= .ny v w)∨(∃i,e= .gQ i)∨(∃i,e= .fo i)∨(∃a,e= .not a)∨(∃a b,e= .two 3 a b)∨(∃a b,e= .two 4 a b)∨(∃a b,e= .two 5 a b)∨(∃a b,e= .add a b)∨(∃a b,e= .sub a b)∨(∃a b,e= .eq a b)∨(∃a b,e= .lt a b)∨(∃a b d,e= .oq a b d)∨(∃a b,e= .cat a b)∨(∃k w a,e= .oJ k w a)∨(∃w a,e= .ext w a)∨∃k a,e= .rd k a:=by
  cases e with
  |two o a b=>
    rcases h.1 with rfl|rfl|rfl<;>simp
  |_=>simp
theorem XR{v k:Nat}(hv:v<2^62)(hk:k<64):Gh .and .i64 ((v:Int).fdiv (2^min k 64)) 1=((v / 2^k % 2:Nat):Int):=by
  rw[Nat.min_eq_left (by omega)]
  have e2:(v:Int).fdiv (2^k)=((v / 2^k:Nat):Int):=by
    rw[Int.fdiv_eq_ediv_of_nonneg _ (by have:(0:Int)<2^k:=Int.pow_pos (by decide);omega)]
    push_cast;rfl
  rw[e2]
  show IntKind.i64.wrap ((BitVec.ofInt 64 ((v / 2^k:Nat):Int)&&& BitVec.ofInt 64 1).toNat:Int)=_
  have:(BitVec.ofInt 64 ((v / 2^k:Nat):Int)&&& BitVec.ofInt 64 1).toNat=(v / 2^k) % 2:=by
    rw[BitVec.toNat_and]
    have h1:(BitVec.ofInt 64 1).toNat=1:=by decide
    have h2:(BitVec.ofInt 64 ((v / 2^k:Nat):Int)).toNat=v / 2^k:=by
      have hu:v / 2^k≤v:=Nat.div_le_self _ _
      rw[BitVec.toNat_ofInt]
      generalize v / 2^k=u at hu ⊢
      omega
    rw[h1,h2,Nat.and_one_is_mod]
  rw[this]
  exact KB (by omega) (by omega)
theorem RA{e:Ex}{k:Nat}(hk:k<(aJ e).length):SizeOf.sizeOf (nth (aJ e) k)<SizeOf.sizeOf e:=by
  have hm:=ll hk
  generalize nth (aJ e) k=x at hm
  cases e<;>simp only[aJ,List.mem_cons,List.not_mem_nil,or_false]at hm<;>(first|(rcases hm with rfl|rfl|rfl)|(rcases hm with rfl|rfl)|(rcases hm with rfl)|cases hm)<;>simp only[Ex.not.sizeOf_spec,Ex.two.sizeOf_spec,Ex.add.sizeOf_spec,Ex.sub.sizeOf_spec,Ex.eq.sizeOf_spec,Ex.lt.sizeOf_spec,Ex.oq.sizeOf_spec,Ex.cat.sizeOf_spec,Ex.oJ.sizeOf_spec,Ex.ext.sizeOf_spec,Ex.rd.sizeOf_spec]<;>omega
theorem WD{l:List lJ}{k:Nat}(h:k<l.length):(l.flatMap pb)[k*27+1]? =some (iD (nth l k).w):=(uc (j:=1) qj h (by omega)).trans rfl
theorem M6{l:List lJ}{k:Nat}(h:k<l.length):(l.flatMap pb)[k*27+2]? =some (iD (nth l k).words):=(uc (j:=2) qj h (by omega)).trans rfl
theorem N7{l:List mf}{k:Nat}(h:k<l.length):(l.flatMap nf)[k*13+1]? =some (iD (nth l k).w):=(uc (j:=1) qk h (by omega)).trans rfl
theorem bh{p q:Prop}(hq:q)(h:p=q:=by
  conv=>lhs;simp -dsimp -implicitDefEqProofs (disch:=first|assumption|omega|(simp only[aH,gJ]<;>omega)|decide) only[aN,↓reduceIte,Nat.reduceEqDiff,Nat.reduceAdd,D.fix,Int.reduceToNat,Nat.reduceMul,Nat.reduceBNe,Nat.reduceBEq,er,aK,bQ,cN,bt,dy,dG,gI,cM,gg,cv,sD,nS,xF,mq,db,ao,bw]):p:=h.mpr hq
theorem zQ{p q:Prop}(hq:q)(h:p=q:=by
  conv=>lhs;simp -dsimp -implicitDefEqProofs (disch:=first|assumption|omega|(simp only[aH,gJ]<;>omega)|decide) only[aN,↓reduceIte,Nat.reduceEqDiff,Nat.reduceAdd,D.fix,Int.reduceToNat,Nat.reduceMul,Nat.reduceBNe,Nat.reduceBEq,er,aK,bQ,cN,bt,dy,dG,gI,cM,gg,cv,sD,nS,xF,mq,db,ao]):p:=h.mpr hq
theorem mR{m:List Nat}{τ τ':Fr}{H H':av}(h2:H=H')(h:fw τ τ':=by
  repeat (first|exact cw _|refine cg ?_ (by first|rfl|(simp[aX,gJ];done)|simp[aX,gJ, *]))):Rt m τ H τ' H':=Rt.end h h2
theorem AG(k:List Nat){m:List Nat}{τ τ1:Fr}{H H1:av}(h:Rt m (fun t=>du k (τ t)) (dg k H) τ1 H1)(a:∀i∈m,k[i]? =some i:=by decide)(b:k.Nodup:=by decide)(c:∀i∈k,i<H.length:=by
  simp[eJ,dg]):Rt m τ H τ1 H1:=Rt.trans (Rt.gc a b c) h
theorem kp{p q r:Prop}(e:r)(hq:q)(h:r→p=q:=by
  intro hY
  conv=>lhs;simp -dsimp -implicitDefEqProofs (disch:=first|assumption|omega|(simp only[aH,gJ]<;>omega)|decide) only[aN,↓reduceIte,Nat.reduceEqDiff,Nat.reduceAdd,D.fix,Int.reduceToNat,Nat.reduceMul,Nat.reduceBNe,Nat.reduceBEq,er,aK,bQ,cN,bt,dy,dG,gI,cM,gg,cv,sD,nS,xF,mq,db,ao,bw,hY]):p:=(h e).mpr hq
theorem rF{p q:Prop}(hq:q)(h:p=q:=by
  conv=>lhs;simp -dsimp -implicitDefEqProofs (disch:=first|assumption|omega|(simp only[aH,gJ]<;>omega)|decide) only[aN,↓reduceIte,Nat.reduceEqDiff,Nat.reduceAdd,D.fix,Int.reduceToNat,Nat.reduceMul,Nat.reduceBNe,Nat.reduceBEq,er,aK,bQ,cN,bt,dy,dG,gI,cM,gg,cv,sD,nS,xF,mq,db,ao,Fs,E4]):p:=h.mpr hq
theorem sf{p q:Prop}(hq:q)(h:p=q:=by
  conv=>lhs;simp only[cP,Nat.reduceAdd,↓reduceIte,Nat.reduceEqDiff,er,aK,bQ,cN,bt,dy,dG,gI,cM,gg,cv,sD,nS,xF,mq,db,ao]):p:=h.mpr hq
theorem Ca{p:Prop}(h:p:=by
  first|rfl|(simp only[cP,Nat.reduceAdd,↓reduceIte,Nat.reduceEqDiff,er,aK,bQ,cN,bt,dy,dG,gI,cM,gg,cv,sD,nS,xF,mq,db,ao];first|done|rfl)):p:=h
theorem ry{p q:Prop}(hq:q)(h:p=q:=by
  conv=>lhs;simp (disch:=first|assumption|omega|(simp only[aH,gJ]<;>omega)|decide) only[fA,Nat.reduceAdd,D.fix,↓reduceIte,Nat.reduceEqDiff,er,aK,bQ,cN,bt,dy,dG,gI,cM,gg,cv,sD,nS,xF,mq,db,ao]):p:=h.mpr hq
theorem jst(p:Pr)(gp:cB p)(q:Bool)(data:List (List Int))(e:Ex)(hn:(aU p).length≤1000)(ih:∀k,k<(aJ e).length→N8 p q data (nth (aJ e) k))(gs:Gs)(iV:GI (2+(aU p).length) gs)(hl:gs.length+cf (aR p) e≤600000)(uJ:mo (aR p) q (2+(aU p).length) gs data)(cu:WT (aR p) q e):dq prog 62 [.agg (er p data),.agg (cN (aU p).length gs),.agg (gg e)] (.d (gI (aU p).length (dW p data gs e))):=by
  have hm:mP p=2+(aU p).length:=rfl
  obtain⟨S,hS⟩:∃S:Nat→Gs × List (List Int),S=wc (dW p data) gs (aJ e):=⟨_,rfl⟩
  have En:∀k,k≤(aJ e).length→w7 (aR p) (2+(aU p).length) gs (aJ e) k (S k):=by
    rw[hS];exact OG (q:=q) (by omega) gp.ct (JY gp) iV uJ (fR cu)
  have mM:=jc1 (c:=aR p) (e:=e)
  have Eo:(aJ e).length≤3:=by cases e<;>simp[aJ]
  refine fh (fn:=f62) (by kernel_rfl) func62 rfl (cn rfl) fun c hc hp=>?_
  refine dY (τ':=aF [(0,.d (.agg (er p data))),(1,.d (.agg (cN (aU p).length gs))),(2,.d (.agg (gg e)))]) (by repeat (first|exact cw _|refine cg ?_ (by first|rfl|(simp[aX,gJ];done)|simp[aX,gJ, *]))) ?_
  refine ah (bh ·) ?_
  refine ah (bh ·) ?_
  refine aD fun K3 cm=>?_
  refine ah (zQ ·) ?_
  refine aW ?_
  refine cU hp (fun τ' H' mm=>∃(k:Nat),(k≤(aJ e).length)∧mm=(aJ e).length - k∧H'=[.cells (ak (er p data)),.cells (ak (cN (aU p).length (S k).1)),.cells (ak (gg e)),.cells [.d (iD 0),.d (.val (.slice none 0 0)),.d (.val (.slice none 0 0))],.cells (ak ((S k).2.map ae))]∧τ'=aF [(3,.op 0 0),(4,.op 1 0),(5,.op 2 0),(6,.op 3 0),(7,.os 1 4 0 k),(8,.d (iD k))]) ((aJ e).length) ?_ ⟨0,cF _,rfl,rfl,rfl⟩ ?_
  · refine mR ?_
    first|rfl|(simp[hS,wc,ak,er,aK,cN,bt,cv,iD];done)|(rw[hS];rfl)
  rintro τ' H' mm ⟨k,hk,rfl,rfl,rfl⟩
  refine aD fun K5 dx=>?_
  refine ah (bh ·) ?_
  refine bf rfl (fun ht=>?_) (fun ht=>?_)
  · have aA:k<(aJ e).length:=by simp at ht;omega
    have ha:=En k hk
    have oP:=ha.ln
    have uK:=Md (c:=aR p) (l:=aJ e) (show k+1≤(aJ e).length by omega)
    have hle:=ha.len
    rw[kv]at uK
    have c8:=ih k aA (S k).1 ha.gi (by omega) (uJ.pre ha.pre) (fR cu k aA)
    have es:S (k+1)=((dW p data (S k).1 (nth (aJ e) k)).1,(S k).2++[(dW p data (S k).1 (nth (aJ e) k)).2]):=by rw[hS,wc]
    clear hS
    refine bg (dx _ _ ?_)
    refine aD fun K7 cL=>?_
    refine aW ?_
    refine dO ax hc mixed rfl (q:=1) (by kernel_rfl) (by kernel_rfl) fun K8 dP=>?_
    refine bh ?_
    refine bx (c8) rfl ?_
    refine bh ?_
    refine dP _ _ ?_
    refine ah (bh ·) ?_
    refine fj (bh ·) (cL _ _ ?_)
    refine bT hp ax hc rfl fun mh cQ=>?_
    refine bh ?_
    refine cQ _ _ ⟨_,_,_,?_,⟨k+1,by omega,rfl,rfl,rfl⟩,?_⟩
    · first|omega|(simp only[List.length_cons];omega)|(dsimp only;omega)
    · refine AG [0,1,2,3,7] ?_
      refine mR ?_
      refine sf ?_;simp[es,iD,ae]
  · have bM:k=(aJ e).length:=by simp at ht;omega
    subst bM
    have ha:=En _ (bJ _)
    have hle:=ha.len
    obtain⟨T,hT⟩:∃T,T=S (aJ e).length:=⟨_,rfl⟩
    rw[←hT]at ha hle ⊢
    refine cJ (cm _ _ ?_)
    refine aZ hp ax hc rfl fun lK bN=>?_
    rcases qC cu with⟨v,w,rfl⟩|⟨i,rfl⟩|⟨i,rfl⟩|⟨a,rfl⟩|⟨a,b,rfl⟩|⟨a,b,rfl⟩|⟨a,b,rfl⟩|⟨a,b,rfl⟩|⟨a,b,rfl⟩|⟨a,b,rfl⟩|⟨a,b,rfl⟩|⟨a,b,d,rfl⟩|⟨a,b,rfl⟩|⟨i,w,a,rfl⟩|⟨w,a,rfl⟩|⟨i,a,rfl⟩
    · have bE:dW p data gs (.ny v w)=(T.1,(List.range w).map fun i=>((v / 2^i % 2:Nat):Int)):=by rw[hT,hS];rfl
      have nM:=cu.2.1
      simp only[aJ,dv,kEx,l8,List.length_cons,List.length_nil,Nat.zero_add,Nat.reduceAdd]
      have sO:T.2.length=0:=ha.ln
      refine bh ?_
      refine bN _ _ ?_
      refine aD fun nV df=>?_
      refine ah (bh ·) ?_
      refine aW ?_
      refine ah (bh ·) ?_
      refine dh ?_
      refine ah (zQ ·) ?_
      refine aW ?_
      refine cU hp (fun τ' H' mm=>∃(k:Nat),(k≤w)∧mm=w - k∧H'=[.cells (ak (er p data)),.cells (ak (cN (aU p).length T.1)),.cells (ak (cv 1 v w [] 0)),.cells [.d (iD 0),.d (.val (.slice none 0 0)),.d (.val (.slice none 0 0))],.cells (ak (T.2.map ae)),.cells [.d (iD (aU p).length),.d (bt T.1),.os 1 6 0 k],.cells (ak (((List.range k).map fun i=>((v / 2^i % 2:Nat):Int)).map iD))]∧τ'=aF [(3,.op 0 0),(4,.op 1 0),(5,.op 2 0),(6,.op 3 0),(7,.os 1 4 0 0),(10,.op 5 0),(11,.d (iD k))]) (w) ?_ ⟨0,cF _,rfl,rfl,rfl⟩ ?_
      · refine Rt.trans (Rt.fm 5 2 1 rfl rfl) ?_
        refine mR ?_
        exact Ca
      rintro τ' H' mm ⟨k,hk,rfl,rfl,rfl⟩
      refine aD fun rZ ey=>?_
      refine ah (bh ·) ?_
      refine bf rfl (fun ht=>?_) (fun ht=>?_)
      · have aA:k<w:=by simp at ht;omega
        have Ht:=XR (v:=v) (k:=k) (by have:=cu.2.2;have:=Nat.pow_le_pow_right (show 0<2 by decide) nM;omega) (by omega)
        refine bg (ey _ _ ?_)
        refine aD fun rY eN=>?_
        refine aW ?_
        refine fj (kp Ht ·) (eN _ _ ?_)
        refine bT hp ax hc rfl fun yj im=>?_
        refine bh ?_
        refine im _ _ ⟨_,_,_,?_,⟨k+1,by omega,rfl,rfl,rfl⟩,?_⟩
        · first|omega|(simp only[List.length_cons];omega)|(dsimp only;omega)
        · refine AG [0,1,2,3,4,5,8] ?_
          refine mR ?_
          refine sf ?_;simp[List.range_succ,iD,nS,cv]
      · have bM:k=w:=by simp at ht;omega
        subst bM
        have gf:((List.range k).map fun i=>((v / 2^i % 2:Nat):Int)).length=k:=by simp
        refine cJ (df _ _ ?_)
        refine bC hp (τ':=aF [(6,.op 3 0),(10,.op 5 0)]) (H':=[.cells (ak (er p data)),.cells (ak (cN (aU p).length T.1)),.cells (ak (cv 1 v k [] 0)),.cells [.d (iD 0),.d (.val (.slice none 0 0)),.d (.val (.slice none 0 0))],.cells (ak (T.2.map ae)),.cells (ak (cM (aU p).length (T.1,((List.range k).map fun i=>((v / 2^i % 2:Nat):Int))))),.dead]) ?_ ?_
        · refine Rt.trans (Rt.fz (id:=6) (l:=(((List.range k).map fun i=>((v / 2^i % 2:Nat):Int)).map iD)) rfl) ?_
          refine mR ?_
          refine sf ?_;simp[fE,gf,cM,ae,ak,iD]
        refine ah (bh ·) ?_
        refine aM ?_
        try dsimp only[cC,cI]
        refine cS rfl ?_
        refine rF ?_
        show ai _ _=_
        refine ry ?_
        rw[bE];simp only[gI,cM,bt,ae,List.length_map];first|done|rfl
    · have bE:dW p data gs (.gQ i)=(T.1,(List.range (nth (aR p).aC i)).map fun k=>cG p 1 i k):=by rw[hT,hS];rfl
      have gL:i<p.aC.length:=by have:=cu;simpa[WT,aR]using this
      have em:nth (aR p).aC i=(nth p.aC i).w:=tE gL
      have Px:=gp.ct.r i cu
      rw[em]at Px bE
      have m1:=N7 gL
      simp only[aJ,dv,kEx,l8,List.length_cons,List.length_nil,Nat.zero_add,Nat.reduceAdd]
      have sO:T.2.length=0:=ha.ln
      refine bh ?_
      refine bN _ _ ?_
      refine aD fun vA fM=>?_
      refine ah (bh ·) ?_
      refine aW ?_
      refine ah (bh ·) ?_
      refine bA ?_
      refine ah (bh ·) ?_
      refine dh ?_
      refine ah (zQ ·) ?_
      refine aW ?_
      refine cU hp (fun τ' H' mm=>∃(k:Nat),(k≤(nth p.aC i).w)∧mm=(nth p.aC i).w - k∧H'=[.cells (ak (er p data)),.cells (ak (cN (aU p).length T.1)),.cells (ak (cv 16 i 0 [] 0)),.cells [.d (iD 0),.d (.val (.slice none 0 0)),.d (.val (.slice none 0 0))],.cells (ak (T.2.map ae)),.cells [.d (iD (aU p).length),.d (bt T.1),.os 1 6 0 k],.cells (ak (((List.range k).map fun j=>cG p 1 i j).map iD))]∧τ'=aF [(3,.op 0 0),(4,.op 1 0),(5,.op 2 0),(6,.op 3 0),(7,.os 1 4 0 0),(10,.op 5 0),(12,.d (iD k))]) ((nth p.aC i).w) ?_ ⟨0,cF _,rfl,rfl,rfl⟩ ?_
      · refine Rt.trans (Rt.fm 5 2 1 rfl rfl) ?_
        refine mR ?_
        exact Ca
      rintro τ' H' mm ⟨k,hk,rfl,rfl,rfl⟩
      refine aD fun Bk jX=>?_
      refine ah (kp m1 ·) ?_
      refine bf rfl (fun ht=>?_) (fun ht=>?_)
      · have aA:k<(nth p.aC i).w:=by simp at ht;omega
        have fk:=y3 gL aA
        have c8:=E2 (aU p) ⟨1,(i:Int),(k:Int)⟩ (by omega) fk
        have uE:=(yE fk).1
        refine bg (jX _ _ ?_)
        refine aD fun Bj jE=>?_
        refine aW ?_
        refine z8 ax hc mixed rfl (q:=2) (by kernel_rfl) (by kernel_rfl) fun zC ij=>?_
        refine bh ?_
        refine bx (c8) rfl ?_
        refine bh ?_
        refine ij _ _ (jE _ _ ?_)
        refine bT hp ax hc rfl fun QX sV=>?_
        refine bh ?_
        refine sV _ _ ⟨_,_,_,?_,⟨k+1,by omega,rfl,rfl,rfl⟩,?_⟩
        · first|omega|(simp only[List.length_cons];omega)|(dsimp only;omega)
        · refine AG [0,1,2,3,4,5,8] ?_
          refine mR ?_
          refine sf ?_;simp[List.range_succ,iD,nS,cv,cG]
      · have bM:k=(nth p.aC i).w:=by simp at ht;omega
        subst bM
        have gf:((List.range (nth p.aC i).w).map fun j=>cG p 1 i j).length=(nth p.aC i).w:=by simp
        refine cJ (fM _ _ ?_)
        refine bC hp (τ':=aF [(6,.op 3 0),(10,.op 5 0)]) (H':=[.cells (ak (er p data)),.cells (ak (cN (aU p).length T.1)),.cells (ak (cv 16 i 0 [] 0)),.cells [.d (iD 0),.d (.val (.slice none 0 0)),.d (.val (.slice none 0 0))],.cells (ak (T.2.map ae)),.cells (ak (cM (aU p).length (T.1,((List.range (nth p.aC i).w).map fun j=>cG p 1 i j)))),.dead]) ?_ ?_
        · refine Rt.trans (Rt.fz (id:=6) (l:=(((List.range (nth p.aC i).w).map fun j=>cG p 1 i j).map iD)) rfl) ?_
          refine mR ?_
          refine sf ?_;simp[fE,gf,cM,ae,ak,iD]
        refine ah (bh ·) ?_
        refine aM ?_
        try dsimp only[cC,cI]
        refine cS rfl ?_
        refine rF ?_
        show ai _ _=_
        refine ry ?_
        rw[bE];simp only[gI,cM,bt,ae,List.length_map];first|done|rfl
    · have bE:dW p data gs (.fo i)=(T.1,nth data i):=by rw[hT,hS];rfl
      have gL:i<data.length:=by rw[uJ.l cu.1];exact cu.2
      have gd:(data.map ae)[i]? =some (ae (nth data i)):=db (by rw[uJ.l cu.1];exact cu.2)
      simp only[aJ,dv,kEx,l8,List.length_cons,List.length_nil,Nat.zero_add,Nat.reduceAdd]
      have sO:T.2.length=0:=ha.ln
      refine bh ?_
      refine bN _ _ ?_
      refine aD fun Bi jD=>?_
      refine ah (bh ·) ?_
      refine aW ?_
      refine ah (bh ·) ?_
      refine bA ?_
      refine ah (bh ·) ?_
      refine bA ?_
      refine ah (bh ·) ?_
      refine dh ?_
      refine fj (kp gd ·) (jD _ _ ?_)
      refine ah (bh ·) ?_
      refine aM ?_
      try dsimp only[cC,cI]
      refine cS rfl ?_
      refine rF ?_
      show ai _ _=_
      refine ry ?_
      rw[bE];first|done|rfl
    · obtain⟨X,hX⟩:∃X,X=nth T.2 0:=⟨_,rfl⟩
      have wX:X.length=bV (aR p) a:=by rw[hX];exact ha.wid 0 (by simp[aJ])
      have nX:∀i,i<X.length→bm (2+(aU p).length) T.1 (nth X i):=fun i hi=>by rw[hX];exact ha.nd 0 (by simp[aJ]) i (by rw[wX]at hi;exact hi)
      have gX:(T.2.map ae)[0]? =some (ae X):=by rw[hX];exact db (by have:=ha.ln;simp[aJ]at this;omega)
      have bX:=(fv gp.ct (fR cu 0 (by simp[aJ]))).2
      simp only[aJ,nth,List.getD_cons_zero,List.getD_cons_succ]at bX
      have bE:dW p data gs (.not a)=bL (fun gs i=>dH (2+(aU p).length) gs (nth X i)) T.1 X.length:=by rw[hX,hT,hS];rfl
      have c1:=jig (aU p).length T.1 X (by omega) (by omega) (by omega) ha.gi nX
      simp only[aJ,dv,kEx,l8,List.length_cons,List.length_nil,Nat.zero_add,Nat.reduceAdd]
      have sO:T.2.length=1:=ha.ln
      refine bh ?_
      refine bN _ _ ?_
      refine aD fun Ip oz=>?_
      refine ah (bh ·) ?_
      refine aW ?_
      refine ah (bh ·) ?_
      refine bA ?_
      refine ah (bh ·) ?_
      refine bA ?_
      refine ah (bh ·) ?_
      refine bA ?_
      refine ah (bh ·) ?_
      refine dh ?_
      refine dO ax hc mixed rfl (q:=0) (by kernel_rfl) (by kernel_rfl) fun CY jC=>?_
      refine kp gX ?_
      refine bx (c1) rfl ?_
      refine kp gX ?_
      refine jC _ _ ?_
      refine aM ?_
      try dsimp only[cC,cI]
      refine cS rfl ?_
      refine rF ?_
      show ai _ _=_
      refine ry ?_
      rw[bE];first|done|rfl
    · obtain⟨X,hX⟩:∃X,X=nth T.2 0:=⟨_,rfl⟩
      have wX:X.length=bV (aR p) a:=by rw[hX];exact ha.wid 0 (by simp[aJ])
      have nX:∀i,i<X.length→bm (2+(aU p).length) T.1 (nth X i):=fun i hi=>by rw[hX];exact ha.nd 0 (by simp[aJ]) i (by rw[wX]at hi;exact hi)
      have gX:(T.2.map ae)[0]? =some (ae X):=by rw[hX];exact db (by have:=ha.ln;simp[aJ]at this;omega)
      have bX:=(fv gp.ct (fR cu 0 (by simp[aJ]))).2
      simp only[aJ,nth,List.getD_cons_zero,List.getD_cons_succ]at bX
      obtain⟨Y,hY⟩:∃Y,Y=nth T.2 1:=⟨_,rfl⟩
      have wY:Y.length=bV (aR p) b:=by rw[hY];exact ha.wid 1 (by simp[aJ])
      have nY:∀i,i<Y.length→bm (2+(aU p).length) T.1 (nth Y i):=fun i hi=>by rw[hY];exact ha.nd 1 (by simp[aJ]) i (by rw[wY]at hi;exact hi)
      have gY:(T.2.map ae)[1]? =some (ae Y):=by rw[hY];exact db (by have:=ha.ln;simp[aJ]at this;omega)
      have bY:=(fv gp.ct (fR cu 1 (by simp[aJ]))).2
      simp only[aJ,nth,List.getD_cons_zero,List.getD_cons_succ]at bY
      obtain⟨st,cd⟩:∃st:Gs→Nat→Re,st=fun gs i=>uj 3 (2+(aU p).length) gs (nth X i) (nth Y i):=⟨_,rfl⟩
      have bE:dW p data gs (.two 3 a b)=bL st T.1 X.length:=by rw[cd,hX,hY,hT,hS];rfl
      have mI:Y.length=X.length:=by rw[wX,wY];exact cu.2.2.2.symm
      have jB:∀k,k≤X.length→Bs (2+(aU p).length) (1*k) k T.1 (bL st T.1 k):=fun k hk=>kz ha.gi fun i hi fH hp mL=>by rw[cd];exact Ko (by omega) mL ((nX i (by omega)).pre hp) ((nY i (by omega)).pre hp)
      simp only[aJ,dv,kEx,l8,List.length_cons,List.length_nil,Nat.zero_add,Nat.reduceAdd]
      have sO:T.2.length=2:=ha.ln
      refine bh ?_
      refine bN _ _ ?_
      refine aD fun QU sP=>?_
      refine ah (bh ·) ?_
      refine aW ?_
      refine ah (bh ·) ?_
      refine bA ?_
      refine ah (bh ·) ?_
      refine bA ?_
      refine ah (bh ·) ?_
      refine bA ?_
      refine ah (bh ·) ?_
      refine bA ?_
      refine aD fun K54 lB=>?_
      refine ah (bh ·) ?_
      refine dh ?_
      refine bg (lB _ _ ?_)
      refine dh ?_
      refine ah (zQ ·) ?_
      refine aW ?_
      refine cU hp (fun τ' H' mm=>∃(k:Nat),(k≤X.length)∧mm=X.length - k∧H'=[.cells (ak (er p data)),.cells (ak (cN (aU p).length T.1)),.cells (ak (cv 3 0 0 ([a,b].flatMap bR) 2)),.cells [.d (iD 0),.d (.val (.slice none 0 0)),.d (.val (.slice none 0 0))],.cells (ak (T.2.map ae)),.cells [.d (iD (aU p).length),.d (bt (bL st T.1 k).1),.os 1 6 0 k],.cells (ak ((bL st T.1 k).2.map iD))]∧τ'=aF [(3,.op 0 0),(4,.op 1 0),(5,.op 2 0),(6,.op 3 0),(7,.os 1 4 0 2),(10,.op 5 0),(13,.d (iD k))]) (X.length) ?_ ⟨0,cF _,rfl,rfl,rfl⟩ ?_
      · refine Rt.trans (Rt.fm 5 2 1 rfl rfl) ?_
        refine mR ?_
        exact Ca
      rintro τ' H' mm ⟨k,hk,rfl,rfl,rfl⟩
      refine aD fun K57 CL=>?_
      refine ah (kp gX ·) ?_
      refine bf rfl (fun ht=>?_) (fun ht=>?_)
      · have aA:k<X.length:=by simp at ht;omega
        have hb:=jB k hk
        have hlen:=hb.len
        have gf:=hb.wid
        have c8:=OH (aU p).length (bL st T.1 k).1 3 (nth X k) (nth Y k) (by omega) (by omega) hb.gi ((nX k aA).pre hb.pre) ((nY k (by omega)).pre hb.pre)
        rw[show uj 3 (2+(aU p).length) (bL st T.1 k).1 (nth X k) (nth Y k)=st (bL st T.1 k).1 k by rw[cd]]at c8
        clear cd
        refine bg (CL _ _ ?_)
        refine aD fun K59 Qy=>?_
        refine aW ?_
        refine dO ax hc mixed rfl (q:=1) (by kernel_rfl) (by kernel_rfl) fun K60 wQ=>?_
        refine kp (aw gX gY) ?_
        refine bx (c8) rfl ?_
        refine kp (aw gX gY) ?_
        refine wQ _ _ ?_
        refine ah (bh ·) ?_
        refine fj (bh ·) (Qy _ _ ?_)
        refine bT hp ax hc rfl fun K63 wP=>?_
        refine bh ?_
        refine wP _ _ ⟨_,_,_,?_,⟨k+1,by omega,rfl,rfl,rfl⟩,?_⟩
        · first|omega|(simp only[List.length_cons];omega)|(dsimp only;omega)
        · refine AG [0,1,2,3,4,5,9] ?_
          refine mR ?_
          refine sf ?_;simp[bL,iD,nS,cv]
      · have bM:k=X.length:=by simp at ht;omega
        subst bM
        have gf:=(jB _ (bJ _)).wid
        refine cJ (sP _ _ ?_)
        refine bC hp (τ':=aF [(6,.op 3 0),(10,.op 5 0)]) (H':=[.cells (ak (er p data)),.cells (ak (cN (aU p).length T.1)),.cells (ak (cv 3 0 0 ([a,b].flatMap bR) 2)),.cells [.d (iD 0),.d (.val (.slice none 0 0)),.d (.val (.slice none 0 0))],.cells (ak (T.2.map ae)),.cells (ak (cM (aU p).length (bL st T.1 X.length))),.dead]) ?_ ?_
        · refine Rt.trans (Rt.fz (id:=6) (l:=((bL st T.1 X.length).2.map iD)) rfl) ?_
          refine mR ?_
          refine sf ?_;simp[fE,gf,cM,ae,ak,iD]
        refine ah (bh ·) ?_
        refine aM ?_
        try dsimp only[cC,cI]
        refine cS rfl ?_
        refine rF ?_
        show ai _ _=_
        refine ry ?_
        rw[bE];first|done|rfl
    · obtain⟨X,hX⟩:∃X,X=nth T.2 0:=⟨_,rfl⟩
      have wX:X.length=bV (aR p) a:=by rw[hX];exact ha.wid 0 (by simp[aJ])
      have nX:∀i,i<X.length→bm (2+(aU p).length) T.1 (nth X i):=fun i hi=>by rw[hX];exact ha.nd 0 (by simp[aJ]) i (by rw[wX]at hi;exact hi)
      have gX:(T.2.map ae)[0]? =some (ae X):=by rw[hX];exact db (by have:=ha.ln;simp[aJ]at this;omega)
      have bX:=(fv gp.ct (fR cu 0 (by simp[aJ]))).2
      simp only[aJ,nth,List.getD_cons_zero,List.getD_cons_succ]at bX
      obtain⟨Y,hY⟩:∃Y,Y=nth T.2 1:=⟨_,rfl⟩
      have wY:Y.length=bV (aR p) b:=by rw[hY];exact ha.wid 1 (by simp[aJ])
      have nY:∀i,i<Y.length→bm (2+(aU p).length) T.1 (nth Y i):=fun i hi=>by rw[hY];exact ha.nd 1 (by simp[aJ]) i (by rw[wY]at hi;exact hi)
      have gY:(T.2.map ae)[1]? =some (ae Y):=by rw[hY];exact db (by have:=ha.ln;simp[aJ]at this;omega)
      have bY:=(fv gp.ct (fR cu 1 (by simp[aJ]))).2
      simp only[aJ,nth,List.getD_cons_zero,List.getD_cons_succ]at bY
      obtain⟨st,cd⟩:∃st:Gs→Nat→Re,st=fun gs i=>uj 4 (2+(aU p).length) gs (nth X i) (nth Y i):=⟨_,rfl⟩
      have bE:dW p data gs (.two 4 a b)=bL st T.1 X.length:=by rw[cd,hX,hY,hT,hS];rfl
      have mI:Y.length=X.length:=by rw[wX,wY];exact cu.2.2.2.symm
      have jB:∀k,k≤X.length→Bs (2+(aU p).length) (1*k) k T.1 (bL st T.1 k):=fun k hk=>kz ha.gi fun i hi fH hp mL=>by rw[cd];exact Ko (by omega) mL ((nX i (by omega)).pre hp) ((nY i (by omega)).pre hp)
      simp only[aJ,dv,kEx,l8,List.length_cons,List.length_nil,Nat.zero_add,Nat.reduceAdd]
      have sO:T.2.length=2:=ha.ln
      refine bh ?_
      refine bN _ _ ?_
      refine aD fun K65 CJ=>?_
      refine ah (bh ·) ?_
      refine aW ?_
      refine ah (bh ·) ?_
      refine bA ?_
      refine ah (bh ·) ?_
      refine bA ?_
      refine ah (bh ·) ?_
      refine bA ?_
      refine ah (bh ·) ?_
      refine bA ?_
      refine aD fun K71 Qu=>?_
      refine ah (bh ·) ?_
      refine bA ?_
      refine ah (bh ·) ?_
      refine dh ?_
      refine bg (Qu _ _ ?_)
      refine dh ?_
      refine ah (zQ ·) ?_
      refine aW ?_
      refine cU hp (fun τ' H' mm=>∃(k:Nat),(k≤X.length)∧mm=X.length - k∧H'=[.cells (ak (er p data)),.cells (ak (cN (aU p).length T.1)),.cells (ak (cv 4 0 0 ([a,b].flatMap bR) 2)),.cells [.d (iD 0),.d (.val (.slice none 0 0)),.d (.val (.slice none 0 0))],.cells (ak (T.2.map ae)),.cells [.d (iD (aU p).length),.d (bt (bL st T.1 k).1),.os 1 6 0 k],.cells (ak ((bL st T.1 k).2.map iD))]∧τ'=aF [(3,.op 0 0),(4,.op 1 0),(5,.op 2 0),(6,.op 3 0),(7,.os 1 4 0 2),(10,.op 5 0),(13,.d (iD k))]) (X.length) ?_ ⟨0,cF _,rfl,rfl,rfl⟩ ?_
      · refine Rt.trans (Rt.fm 5 2 1 rfl rfl) ?_
        refine mR ?_
        exact Ca
      rintro τ' H' mm ⟨k,hk,rfl,rfl,rfl⟩
      refine aD fun K75 Qt=>?_
      refine ah (kp gX ·) ?_
      refine bf rfl (fun ht=>?_) (fun ht=>?_)
      · have aA:k<X.length:=by simp at ht;omega
        have hb:=jB k hk
        have hlen:=hb.len
        have gf:=hb.wid
        have c8:=OH (aU p).length (bL st T.1 k).1 4 (nth X k) (nth Y k) (by omega) (by omega) hb.gi ((nX k aA).pre hb.pre) ((nY k (by omega)).pre hb.pre)
        rw[show uj 4 (2+(aU p).length) (bL st T.1 k).1 (nth X k) (nth Y k)=st (bL st T.1 k).1 k by rw[cd]]at c8
        clear cd
        refine bg (Qt _ _ ?_)
        refine aD fun K77 Qs=>?_
        refine aW ?_
        refine dO ax hc mixed rfl (q:=1) (by kernel_rfl) (by kernel_rfl) fun K78 Qq=>?_
        refine kp (aw gX gY) ?_
        refine bx (c8) rfl ?_
        refine kp (aw gX gY) ?_
        refine Qq _ _ ?_
        refine ah (bh ·) ?_
        refine fj (bh ·) (Qs _ _ ?_)
        refine bT hp ax hc rfl fun K81 Qp=>?_
        refine bh ?_
        refine Qp _ _ ⟨_,_,_,?_,⟨k+1,by omega,rfl,rfl,rfl⟩,?_⟩
        · first|omega|(simp only[List.length_cons];omega)|(dsimp only;omega)
        · refine AG [0,1,2,3,4,5,9] ?_
          refine mR ?_
          refine sf ?_;simp[bL,iD,nS,cv]
      · have bM:k=X.length:=by simp at ht;omega
        subst bM
        have gf:=(jB _ (bJ _)).wid
        refine cJ (CJ _ _ ?_)
        refine bC hp (τ':=aF [(6,.op 3 0),(10,.op 5 0)]) (H':=[.cells (ak (er p data)),.cells (ak (cN (aU p).length T.1)),.cells (ak (cv 4 0 0 ([a,b].flatMap bR) 2)),.cells [.d (iD 0),.d (.val (.slice none 0 0)),.d (.val (.slice none 0 0))],.cells (ak (T.2.map ae)),.cells (ak (cM (aU p).length (bL st T.1 X.length))),.dead]) ?_ ?_
        · refine Rt.trans (Rt.fz (id:=6) (l:=((bL st T.1 X.length).2.map iD)) rfl) ?_
          refine mR ?_
          refine sf ?_;simp[fE,gf,cM,ae,ak,iD]
        refine ah (bh ·) ?_
        refine aM ?_
        try dsimp only[cC,cI]
        refine cS rfl ?_
        refine rF ?_
        show ai _ _=_
        refine ry ?_
        rw[bE];first|done|rfl
    · obtain⟨X,hX⟩:∃X,X=nth T.2 0:=⟨_,rfl⟩
      have wX:X.length=bV (aR p) a:=by rw[hX];exact ha.wid 0 (by simp[aJ])
      have nX:∀i,i<X.length→bm (2+(aU p).length) T.1 (nth X i):=fun i hi=>by rw[hX];exact ha.nd 0 (by simp[aJ]) i (by rw[wX]at hi;exact hi)
      have gX:(T.2.map ae)[0]? =some (ae X):=by rw[hX];exact db (by have:=ha.ln;simp[aJ]at this;omega)
      have bX:=(fv gp.ct (fR cu 0 (by simp[aJ]))).2
      simp only[aJ,nth,List.getD_cons_zero,List.getD_cons_succ]at bX
      obtain⟨Y,hY⟩:∃Y,Y=nth T.2 1:=⟨_,rfl⟩
      have wY:Y.length=bV (aR p) b:=by rw[hY];exact ha.wid 1 (by simp[aJ])
      have nY:∀i,i<Y.length→bm (2+(aU p).length) T.1 (nth Y i):=fun i hi=>by rw[hY];exact ha.nd 1 (by simp[aJ]) i (by rw[wY]at hi;exact hi)
      have gY:(T.2.map ae)[1]? =some (ae Y):=by rw[hY];exact db (by have:=ha.ln;simp[aJ]at this;omega)
      have bY:=(fv gp.ct (fR cu 1 (by simp[aJ]))).2
      simp only[aJ,nth,List.getD_cons_zero,List.getD_cons_succ]at bY
      obtain⟨st,cd⟩:∃st:Gs→Nat→Re,st=fun gs i=>uj 5 (2+(aU p).length) gs (nth X i) (nth Y i):=⟨_,rfl⟩
      have bE:dW p data gs (.two 5 a b)=bL st T.1 X.length:=by rw[cd,hX,hY,hT,hS];rfl
      have mI:Y.length=X.length:=by rw[wX,wY];exact cu.2.2.2.symm
      have jB:∀k,k≤X.length→Bs (2+(aU p).length) (1*k) k T.1 (bL st T.1 k):=fun k hk=>kz ha.gi fun i hi fH hp mL=>by rw[cd];exact Ko (by omega) mL ((nX i (by omega)).pre hp) ((nY i (by omega)).pre hp)
      simp only[aJ,dv,kEx,l8,List.length_cons,List.length_nil,Nat.zero_add,Nat.reduceAdd]
      have sO:T.2.length=2:=ha.ln
      refine bh ?_
      refine bN _ _ ?_
      refine aD fun K83 Qo=>?_
      refine ah (bh ·) ?_
      refine aW ?_
      refine ah (bh ·) ?_
      refine bA ?_
      refine ah (bh ·) ?_
      refine bA ?_
      refine ah (bh ·) ?_
      refine bA ?_
      refine ah (bh ·) ?_
      refine bA ?_
      refine aD fun K89 Qn=>?_
      refine ah (bh ·) ?_
      refine bA ?_
      refine ah (bh ·) ?_
      refine bA ?_
      refine fj (bh ·) (Qn _ _ ?_)
      refine dh ?_
      refine ah (zQ ·) ?_
      refine aW ?_
      refine cU hp (fun τ' H' mm=>∃(k:Nat),(k≤X.length)∧mm=X.length - k∧H'=[.cells (ak (er p data)),.cells (ak (cN (aU p).length T.1)),.cells (ak (cv 5 0 0 ([a,b].flatMap bR) 2)),.cells [.d (iD 0),.d (.val (.slice none 0 0)),.d (.val (.slice none 0 0))],.cells (ak (T.2.map ae)),.cells [.d (iD (aU p).length),.d (bt (bL st T.1 k).1),.os 1 6 0 k],.cells (ak ((bL st T.1 k).2.map iD))]∧τ'=aF [(3,.op 0 0),(4,.op 1 0),(5,.op 2 0),(6,.op 3 0),(7,.os 1 4 0 2),(10,.op 5 0),(13,.d (iD k))]) (X.length) ?_ ⟨0,cF _,rfl,rfl,rfl⟩ ?_
      · refine Rt.trans (Rt.fm 5 2 1 rfl rfl) ?_
        refine mR ?_
        exact Ca
      rintro τ' H' mm ⟨k,hk,rfl,rfl,rfl⟩
      refine aD fun K94 Qm=>?_
      refine ah (kp gX ·) ?_
      refine bf rfl (fun ht=>?_) (fun ht=>?_)
      · have aA:k<X.length:=by simp at ht;omega
        have hb:=jB k hk
        have hlen:=hb.len
        have gf:=hb.wid
        have c8:=OH (aU p).length (bL st T.1 k).1 5 (nth X k) (nth Y k) (by omega) (by omega) hb.gi ((nX k aA).pre hb.pre) ((nY k (by omega)).pre hb.pre)
        rw[show uj 5 (2+(aU p).length) (bL st T.1 k).1 (nth X k) (nth Y k)=st (bL st T.1 k).1 k by rw[cd]]at c8
        clear cd
        refine bg (Qm _ _ ?_)
        refine aD fun K96 Ql=>?_
        refine aW ?_
        refine dO ax hc mixed rfl (q:=1) (by kernel_rfl) (by kernel_rfl) fun K97 Qk=>?_
        refine kp (aw gX gY) ?_
        refine bx (c8) rfl ?_
        refine kp (aw gX gY) ?_
        refine Qk _ _ ?_
        refine ah (bh ·) ?_
        refine fj (bh ·) (Ql _ _ ?_)
        refine bT hp ax hc rfl fun K100 Ia=>?_
        refine bh ?_
        refine Ia _ _ ⟨_,_,_,?_,⟨k+1,by omega,rfl,rfl,rfl⟩,?_⟩
        · first|omega|(simp only[List.length_cons];omega)|(dsimp only;omega)
        · refine AG [0,1,2,3,4,5,9] ?_
          refine mR ?_
          refine sf ?_;simp[bL,iD,nS,cv]
      · have bM:k=X.length:=by simp at ht;omega
        subst bM
        have gf:=(jB _ (bJ _)).wid
        refine cJ (Qo _ _ ?_)
        refine bC hp (τ':=aF [(6,.op 3 0),(10,.op 5 0)]) (H':=[.cells (ak (er p data)),.cells (ak (cN (aU p).length T.1)),.cells (ak (cv 5 0 0 ([a,b].flatMap bR) 2)),.cells [.d (iD 0),.d (.val (.slice none 0 0)),.d (.val (.slice none 0 0))],.cells (ak (T.2.map ae)),.cells (ak (cM (aU p).length (bL st T.1 X.length))),.dead]) ?_ ?_
        · refine Rt.trans (Rt.fz (id:=6) (l:=((bL st T.1 X.length).2.map iD)) rfl) ?_
          refine mR ?_
          refine sf ?_;simp[fE,gf,cM,ae,ak,iD]
        refine ah (bh ·) ?_
        refine aM ?_
        try dsimp only[cC,cI]
        refine cS rfl ?_
        refine rF ?_
        show ai _ _=_
        refine ry ?_
        rw[bE];first|done|rfl
    · obtain⟨X,hX⟩:∃X,X=nth T.2 0:=⟨_,rfl⟩
      have wX:X.length=bV (aR p) a:=by rw[hX];exact ha.wid 0 (by simp[aJ])
      have nX:∀i,i<X.length→bm (2+(aU p).length) T.1 (nth X i):=fun i hi=>by rw[hX];exact ha.nd 0 (by simp[aJ]) i (by rw[wX]at hi;exact hi)
      have gX:(T.2.map ae)[0]? =some (ae X):=by rw[hX];exact db (by have:=ha.ln;simp[aJ]at this;omega)
      have bX:=(fv gp.ct (fR cu 0 (by simp[aJ]))).2
      simp only[aJ,nth,List.getD_cons_zero,List.getD_cons_succ]at bX
      obtain⟨Y,hY⟩:∃Y,Y=nth T.2 1:=⟨_,rfl⟩
      have wY:Y.length=bV (aR p) b:=by rw[hY];exact ha.wid 1 (by simp[aJ])
      have nY:∀i,i<Y.length→bm (2+(aU p).length) T.1 (nth Y i):=fun i hi=>by rw[hY];exact ha.nd 1 (by simp[aJ]) i (by rw[wY]at hi;exact hi)
      have gY:(T.2.map ae)[1]? =some (ae Y):=by rw[hY];exact db (by have:=ha.ln;simp[aJ]at this;omega)
      have bY:=(fv gp.ct (fR cu 1 (by simp[aJ]))).2
      simp only[aJ,nth,List.getD_cons_zero,List.getD_cons_succ]at bY
      have bE:dW p data gs (.add a b)=((fD (2+(aU p).length) T.1 X Y 0 X.length).gs,(fD (2+(aU p).length) T.1 X Y 0 X.length).l):=by rw[hX,hY,hT,hS];rfl
      have c1:=Zv (aU p).length T.1 X Y 0 (by omega) (by omega) (by omega) (by rw[wX,wY];exact cu.2.2.symm) ha.gi nX (fun i hi=>nY i (by rw[wY,←cu.2.2,←wX];exact hi)) ⟨by decide,by omega⟩
      simp only[aJ,dv,kEx,l8,List.length_cons,List.length_nil,Nat.zero_add,Nat.reduceAdd]
      have sO:T.2.length=2:=ha.ln
      refine bh ?_
      refine bN _ _ ?_
      refine aD fun K102 hK102=>?_
      refine ah (bh ·) ?_
      refine aW ?_
      refine ah (bh ·) ?_
      refine bA ?_
      refine ah (bh ·) ?_
      refine bA ?_
      refine ah (bh ·) ?_
      refine bA ?_
      refine ah (bh ·) ?_
      refine bA ?_
      refine aD fun K108 H9=>?_
      refine ah (bh ·) ?_
      refine bA ?_
      refine ah (bh ·) ?_
      refine bA ?_
      refine fj (bh ·) (H9 _ _ ?_)
      refine bA ?_
      refine ah (bh ·) ?_
      refine dh ?_
      refine dO ax hc mixed rfl (q:=0) (by kernel_rfl) (by kernel_rfl) fun K113 H8=>?_
      refine kp (aw gX gY) ?_
      refine bx (c1) rfl ?_
      refine kp (aw gX gY) ?_
      refine H8 _ _ ?_
      refine aM ?_
      try dsimp only[cC,cI]
      refine cS rfl ?_
      refine rF ?_
      show ai _ _=_
      refine ry ?_
      rw[bE];first|done|rfl
    · obtain⟨X,hX⟩:∃X,X=nth T.2 0:=⟨_,rfl⟩
      have wX:X.length=bV (aR p) a:=by rw[hX];exact ha.wid 0 (by simp[aJ])
      have nX:∀i,i<X.length→bm (2+(aU p).length) T.1 (nth X i):=fun i hi=>by rw[hX];exact ha.nd 0 (by simp[aJ]) i (by rw[wX]at hi;exact hi)
      have gX:(T.2.map ae)[0]? =some (ae X):=by rw[hX];exact db (by have:=ha.ln;simp[aJ]at this;omega)
      have bX:=(fv gp.ct (fR cu 0 (by simp[aJ]))).2
      simp only[aJ,nth,List.getD_cons_zero,List.getD_cons_succ]at bX
      obtain⟨Y,hY⟩:∃Y,Y=nth T.2 1:=⟨_,rfl⟩
      have wY:Y.length=bV (aR p) b:=by rw[hY];exact ha.wid 1 (by simp[aJ])
      have nY:∀i,i<Y.length→bm (2+(aU p).length) T.1 (nth Y i):=fun i hi=>by rw[hY];exact ha.nd 1 (by simp[aJ]) i (by rw[wY]at hi;exact hi)
      have gY:(T.2.map ae)[1]? =some (ae Y):=by rw[hY];exact db (by have:=ha.ln;simp[aJ]at this;omega)
      have bY:=(fv gp.ct (fR cu 1 (by simp[aJ]))).2
      simp only[aJ,nth,List.getD_cons_zero,List.getD_cons_succ]at bY
      obtain⟨N,hN⟩:∃N,N=bL (fun gs i=>dH (2+(aU p).length) gs (nth Y i)) T.1 Y.length:=⟨_,rfl⟩
      have bE:dW p data gs (.sub a b)=((fD (2+(aU p).length) N.1 X N.2 1 X.length).gs,(fD (2+(aU p).length) N.1 X N.2 1 X.length).l):=by rw[hN,hX,hY,hT,hS];rfl
      have Hv:Bs (2+(aU p).length) (1*Y.length) Y.length T.1 N:=by rw[hN];exact kz ha.gi fun i hi fH hp mL=>oH (by omega) mL ((nY i hi).pre hp)
      have c1:=jig (aU p).length T.1 Y (by omega) (by omega) (by omega) ha.gi nY
      rw[←hN]at c1
      have lN:=Hv.len
      have mI:Y.length=X.length:=by rw[wX,wY];exact cu.2.2.symm
      have c2:=Zv (aU p).length N.1 X N.2 1 (by omega) (by omega) (by omega) (by rw[Hv.wid];exact mI) Hv.gi (fun i hi=>(nX i hi).pre Hv.pre) (fun i hi=>Hv.nd i (by omega)) ⟨by decide,by omega⟩
      clear hN
      simp only[aJ,dv,kEx,l8,List.length_cons,List.length_nil,Nat.zero_add,Nat.reduceAdd]
      have sO:T.2.length=2:=ha.ln
      refine bh ?_
      refine bN _ _ ?_
      refine aD fun K114 hK114=>?_
      refine ah (bh ·) ?_
      refine aW ?_
      refine ah (bh ·) ?_
      refine bA ?_
      refine ah (bh ·) ?_
      refine bA ?_
      refine ah (bh ·) ?_
      refine bA ?_
      refine ah (bh ·) ?_
      refine bA ?_
      refine aD fun K120 H7=>?_
      refine ah (bh ·) ?_
      refine bA ?_
      refine ah (bh ·) ?_
      refine bA ?_
      refine fj (bh ·) (H7 _ _ ?_)
      refine bA ?_
      refine ah (bh ·) ?_
      refine bA ?_
      refine ah (bh ·) ?_
      refine dh ?_
      refine dO ax hc mixed rfl (q:=1) (by kernel_rfl) (by kernel_rfl) fun K126 H6=>?_
      refine kp gY ?_
      refine bx (c1) rfl ?_
      refine kp gY ?_
      refine H6 _ _ ?_
      refine dO ax hc mixed rfl (q:=0) (by kernel_rfl) (by kernel_rfl) fun K127 H5=>?_
      refine kp gX ?_
      refine bx (c2) rfl ?_
      refine kp gX ?_
      refine H5 _ _ ?_
      refine aM ?_
      try dsimp only[cC,cI]
      refine cS rfl ?_
      refine rF ?_
      show ai _ _=_
      refine ry ?_
      rw[bE];first|done|rfl
    · obtain⟨X,hX⟩:∃X,X=nth T.2 0:=⟨_,rfl⟩
      have wX:X.length=bV (aR p) a:=by rw[hX];exact ha.wid 0 (by simp[aJ])
      have nX:∀i,i<X.length→bm (2+(aU p).length) T.1 (nth X i):=fun i hi=>by rw[hX];exact ha.nd 0 (by simp[aJ]) i (by rw[wX]at hi;exact hi)
      have gX:(T.2.map ae)[0]? =some (ae X):=by rw[hX];exact db (by have:=ha.ln;simp[aJ]at this;omega)
      have bX:=(fv gp.ct (fR cu 0 (by simp[aJ]))).2
      simp only[aJ,nth,List.getD_cons_zero,List.getD_cons_succ]at bX
      obtain⟨Y,hY⟩:∃Y,Y=nth T.2 1:=⟨_,rfl⟩
      have wY:Y.length=bV (aR p) b:=by rw[hY];exact ha.wid 1 (by simp[aJ])
      have nY:∀i,i<Y.length→bm (2+(aU p).length) T.1 (nth Y i):=fun i hi=>by rw[hY];exact ha.nd 1 (by simp[aJ]) i (by rw[wY]at hi;exact hi)
      have gY:(T.2.map ae)[1]? =some (ae Y):=by rw[hY];exact db (by have:=ha.ln;simp[aJ]at this;omega)
      have bY:=(fv gp.ct (fR cu 1 (by simp[aJ]))).2
      simp only[aJ,nth,List.getD_cons_zero,List.getD_cons_succ]at bY
      have bE:dW p data gs (.eq a b)=((j6 (2+(aU p).length) T.1 X Y X.length).1,[(j6 (2+(aU p).length) T.1 X Y X.length).2]):=by rw[hX,hY,hT,hS];rfl
      have c1:=jzp (aU p).length T.1 X Y (by omega) (by omega) (by omega) (by rw[wX,wY];exact cu.2.2.symm) ha.gi nX (fun i hi=>nY i (by rw[wY,←cu.2.2,←wX];exact hi))
      simp only[aJ,dv,kEx,l8,List.length_cons,List.length_nil,Nat.zero_add,Nat.reduceAdd]
      have sO:T.2.length=2:=ha.ln
      refine bh ?_
      refine bN _ _ ?_
      refine aD fun K128 hK128=>?_
      refine ah (bh ·) ?_
      refine aW ?_
      refine ah (bh ·) ?_
      refine bA ?_
      refine ah (bh ·) ?_
      refine bA ?_
      refine ah (bh ·) ?_
      refine bA ?_
      refine ah (bh ·) ?_
      refine bA ?_
      refine aD fun K134 H4=>?_
      refine ah (bh ·) ?_
      refine bA ?_
      refine ah (bh ·) ?_
      refine bA ?_
      refine fj (bh ·) (H4 _ _ ?_)
      refine bA ?_
      refine ah (bh ·) ?_
      refine bA ?_
      refine ah (bh ·) ?_
      refine bA ?_
      refine ah (bh ·) ?_
      refine dh ?_
      refine dO ax hc mixed rfl (q:=0) (by kernel_rfl) (by kernel_rfl) fun K141 HZ=>?_
      refine kp (aw gX gY) ?_
      refine bx (c1) rfl ?_
      refine kp (aw gX gY) ?_
      refine HZ _ _ ?_
      refine aM ?_
      try dsimp only[cC,cI]
      refine cS rfl ?_
      refine rF ?_
      show ai _ _=_
      refine ry ?_
      rw[bE];first|done|rfl
    · obtain⟨X,hX⟩:∃X,X=nth T.2 0:=⟨_,rfl⟩
      have wX:X.length=bV (aR p) a:=by rw[hX];exact ha.wid 0 (by simp[aJ])
      have nX:∀i,i<X.length→bm (2+(aU p).length) T.1 (nth X i):=fun i hi=>by rw[hX];exact ha.nd 0 (by simp[aJ]) i (by rw[wX]at hi;exact hi)
      have gX:(T.2.map ae)[0]? =some (ae X):=by rw[hX];exact db (by have:=ha.ln;simp[aJ]at this;omega)
      have bX:=(fv gp.ct (fR cu 0 (by simp[aJ]))).2
      simp only[aJ,nth,List.getD_cons_zero,List.getD_cons_succ]at bX
      obtain⟨Y,hY⟩:∃Y,Y=nth T.2 1:=⟨_,rfl⟩
      have wY:Y.length=bV (aR p) b:=by rw[hY];exact ha.wid 1 (by simp[aJ])
      have nY:∀i,i<Y.length→bm (2+(aU p).length) T.1 (nth Y i):=fun i hi=>by rw[hY];exact ha.nd 1 (by simp[aJ]) i (by rw[wY]at hi;exact hi)
      have gY:(T.2.map ae)[1]? =some (ae Y):=by rw[hY];exact db (by have:=ha.ln;simp[aJ]at this;omega)
      have bY:=(fv gp.ct (fR cu 1 (by simp[aJ]))).2
      simp only[aJ,nth,List.getD_cons_zero,List.getD_cons_succ]at bY
      have bE:dW p data gs (.lt a b)=((dH (2+(aU p).length) (jt (2+(aU p).length) T.1 X Y X.length).1 (jt (2+(aU p).length) T.1 X Y X.length).2).1,[(dH (2+(aU p).length) (jt (2+(aU p).length) T.1 X Y X.length).1 (jt (2+(aU p).length) T.1 X Y X.length).2).2]):=by rw[hX,hY,hT,hS];rfl
      have c1:=yfi (aU p).length T.1 X Y (by omega) (by omega) (by omega) (by rw[wX,wY];exact cu.2.2.symm) ha.gi nX (fun i hi=>nY i (by rw[wY,←cu.2.2,←wX];exact hi))
      simp only[aJ,dv,kEx,l8,List.length_cons,List.length_nil,Nat.zero_add,Nat.reduceAdd]
      have sO:T.2.length=2:=ha.ln
      refine bh ?_
      refine bN _ _ ?_
      refine aD fun K142 hK142=>?_
      refine ah (bh ·) ?_
      refine aW ?_
      refine ah (bh ·) ?_
      refine bA ?_
      refine ah (bh ·) ?_
      refine bA ?_
      refine ah (bh ·) ?_
      refine bA ?_
      refine ah (bh ·) ?_
      refine bA ?_
      refine aD fun K148 HY=>?_
      refine ah (bh ·) ?_
      refine bA ?_
      refine ah (bh ·) ?_
      refine bA ?_
      refine fj (bh ·) (HY _ _ ?_)
      refine bA ?_
      refine ah (bh ·) ?_
      refine bA ?_
      refine ah (bh ·) ?_
      refine bA ?_
      refine ah (bh ·) ?_
      refine bA ?_
      refine ah (bh ·) ?_
      refine dh ?_
      refine dO ax hc mixed rfl (q:=0) (by kernel_rfl) (by kernel_rfl) fun K156 HX=>?_
      refine kp (aw gX gY) ?_
      refine bx (c1) rfl ?_
      refine kp (aw gX gY) ?_
      refine HX _ _ ?_
      refine aM ?_
      try dsimp only[cC,cI]
      refine cS rfl ?_
      refine rF ?_
      show ai _ _=_
      refine ry ?_
      rw[bE];first|done|rfl
    · obtain⟨X,hX⟩:∃X,X=nth T.2 0:=⟨_,rfl⟩
      have wX:X.length=bV (aR p) a:=by rw[hX];exact ha.wid 0 (by simp[aJ])
      have nX:∀i,i<X.length→bm (2+(aU p).length) T.1 (nth X i):=fun i hi=>by rw[hX];exact ha.nd 0 (by simp[aJ]) i (by rw[wX]at hi;exact hi)
      have gX:(T.2.map ae)[0]? =some (ae X):=by rw[hX];exact db (by have:=ha.ln;simp[aJ]at this;omega)
      have bX:=(fv gp.ct (fR cu 0 (by simp[aJ]))).2
      simp only[aJ,nth,List.getD_cons_zero,List.getD_cons_succ]at bX
      obtain⟨Y,hY⟩:∃Y,Y=nth T.2 1:=⟨_,rfl⟩
      have wY:Y.length=bV (aR p) b:=by rw[hY];exact ha.wid 1 (by simp[aJ])
      have nY:∀i,i<Y.length→bm (2+(aU p).length) T.1 (nth Y i):=fun i hi=>by rw[hY];exact ha.nd 1 (by simp[aJ]) i (by rw[wY]at hi;exact hi)
      have gY:(T.2.map ae)[1]? =some (ae Y):=by rw[hY];exact db (by have:=ha.ln;simp[aJ]at this;omega)
      have bY:=(fv gp.ct (fR cu 1 (by simp[aJ]))).2
      simp only[aJ,nth,List.getD_cons_zero,List.getD_cons_succ]at bY
      obtain⟨Z,hZ⟩:∃Z,Z=nth T.2 2:=⟨_,rfl⟩
      have wZ:Z.length=bV (aR p) d:=by rw[hZ];exact ha.wid 2 (by simp[aJ])
      have nZ:∀i,i<Z.length→bm (2+(aU p).length) T.1 (nth Z i):=fun i hi=>by rw[hZ];exact ha.nd 2 (by simp[aJ]) i (by rw[wZ]at hi;exact hi)
      have gZ:(T.2.map ae)[2]? =some (ae Z):=by rw[hZ];exact db (by have:=ha.ln;simp[aJ]at this;omega)
      have bZ:=(fv gp.ct (fR cu 2 (by simp[aJ]))).2
      simp only[aJ,nth,List.getD_cons_zero,List.getD_cons_succ]at bZ
      obtain⟨st,cd⟩:∃st:Gs→Nat→Re,st=fun gs i=>hU (2+(aU p).length) gs (nth X 0) (nth Y i) (nth Z i):=⟨_,rfl⟩
      have bE:dW p data gs (.oq a b d)=bL st T.1 Y.length:=by rw[cd,hX,hY,hZ,hT,hS];rfl
      have w1:X.length=1:=by rw[wX];exact cu.2.2.2.1
      have NK:Z.length=Y.length:=by rw[wY,wZ];exact cu.2.2.2.2.symm
      have jB:∀k,k≤Y.length→Bs (2+(aU p).length) (2*k) k T.1 (bL st T.1 k):=fun k hk=>kz ha.gi fun i hi fH hp mL=>by rw[cd];exact C4 (by omega) mL ((nX 0 (by omega)).pre hp) ((nY i (by omega)).pre hp) ((nZ i (by omega)).pre hp)
      simp only[aJ,dv,kEx,l8,List.length_cons,List.length_nil,Nat.zero_add,Nat.reduceAdd]
      have sO:T.2.length=3:=ha.ln
      refine bh ?_
      refine bN _ _ ?_
      refine aD fun K157 HW=>?_
      refine ah (bh ·) ?_
      refine aW ?_
      refine ah (bh ·) ?_
      refine bA ?_
      refine ah (bh ·) ?_
      refine bA ?_
      refine ah (bh ·) ?_
      refine bA ?_
      refine ah (bh ·) ?_
      refine bA ?_
      refine aD fun K163 HV=>?_
      refine ah (bh ·) ?_
      refine bA ?_
      refine ah (bh ·) ?_
      refine bA ?_
      refine fj (bh ·) (HV _ _ ?_)
      refine bA ?_
      refine ah (bh ·) ?_
      refine bA ?_
      refine ah (bh ·) ?_
      refine bA ?_
      refine ah (bh ·) ?_
      refine bA ?_
      refine ah (bh ·) ?_
      refine bA ?_
      refine ah (bh ·) ?_
      refine dh ?_
      refine ah (zQ ·) ?_
      refine aW ?_
      refine cU hp (fun τ' H' mm=>∃(k:Nat),(k≤Y.length)∧mm=Y.length - k∧H'=[.cells (ak (er p data)),.cells (ak (cN (aU p).length T.1)),.cells (ak (cv 10 0 0 ([a,b,d].flatMap bR) 3)),.cells [.d (iD 0),.d (.val (.slice none 0 0)),.d (.val (.slice none 0 0))],.cells (ak (T.2.map ae)),.cells [.d (iD (aU p).length),.d (bt (bL st T.1 k).1),.os 1 6 0 k],.cells (ak ((bL st T.1 k).2.map iD))]∧τ'=aF [(3,.op 0 0),(4,.op 1 0),(5,.op 2 0),(6,.op 3 0),(7,.os 1 4 0 3),(10,.op 5 0),(16,.d (iD k))]) (Y.length) ?_ ⟨0,cF _,rfl,rfl,rfl⟩ ?_
      · refine Rt.trans (Rt.fm 5 2 1 rfl rfl) ?_
        refine mR ?_
        exact Ca
      rintro τ' H' mm ⟨k,hk,rfl,rfl,rfl⟩
      refine aD fun K173 HU=>?_
      refine ah (kp gY ·) ?_
      refine bf rfl (fun ht=>?_) (fun ht=>?_)
      · have aA:k<Y.length:=by simp at ht;omega
        have hb:=jB k hk
        have hlen:=hb.len
        have gf:=hb.wid
        have c8:=Zx (aU p).length (bL st T.1 k).1 (nth X 0) (nth Y k) (nth Z k) (by omega) (by omega) hb.gi ((nX 0 (by omega)).pre hb.pre) ((nY k aA).pre hb.pre) ((nZ k (by omega)).pre hb.pre)
        rw[show hU (2+(aU p).length) (bL st T.1 k).1 (nth X 0) (nth Y k) (nth Z k)=st (bL st T.1 k).1 k by rw[cd]]at c8
        clear cd
        refine bg (HU _ _ ?_)
        refine aD fun K175 HT=>?_
        refine aW ?_
        refine dO ax hc mixed rfl (q:=1) (by kernel_rfl) (by kernel_rfl) fun K176 HS=>?_
        refine kp (aw gX (aw gY gZ)) ?_
        refine bx (c8) rfl ?_
        refine kp (aw gX (aw gY gZ)) ?_
        refine HS _ _ ?_
        refine ah (bh ·) ?_
        refine fj (bh ·) (HT _ _ ?_)
        refine bT hp ax hc rfl fun K179 HR=>?_
        refine bh ?_
        refine HR _ _ ⟨_,_,_,?_,⟨k+1,by omega,rfl,rfl,rfl⟩,?_⟩
        · first|omega|(simp only[List.length_cons];omega)|(dsimp only;omega)
        · refine AG [0,1,2,3,4,5,9] ?_
          refine mR ?_
          refine sf ?_;simp[bL,iD,nS,cv]
      · have bM:k=Y.length:=by simp at ht;omega
        subst bM
        have gf:=(jB _ (bJ _)).wid
        refine cJ (HW _ _ ?_)
        refine bC hp (τ':=aF [(6,.op 3 0),(10,.op 5 0)]) (H':=[.cells (ak (er p data)),.cells (ak (cN (aU p).length T.1)),.cells (ak (cv 10 0 0 ([a,b,d].flatMap bR) 3)),.cells [.d (iD 0),.d (.val (.slice none 0 0)),.d (.val (.slice none 0 0))],.cells (ak (T.2.map ae)),.cells (ak (cM (aU p).length ((bL st T.1 Y.length).1,(bL st T.1 Y.length).2))),.dead]) ?_ ?_
        · refine Rt.trans (Rt.fz (id:=6) (l:=((bL st T.1 Y.length).2.map iD)) rfl) ?_
          refine mR ?_
          refine sf ?_;simp[fE,gf,cM,ae,ak,iD]
        refine ah (bh ·) ?_
        refine aM ?_
        try dsimp only[cC,cI]
        refine cS rfl ?_
        refine rF ?_
        show ai _ _=_
        refine ry ?_
        rw[bE];first|done|rfl
    · obtain⟨X,hX⟩:∃X,X=nth T.2 0:=⟨_,rfl⟩
      have wX:X.length=bV (aR p) a:=by rw[hX];exact ha.wid 0 (by simp[aJ])
      have nX:∀i,i<X.length→bm (2+(aU p).length) T.1 (nth X i):=fun i hi=>by rw[hX];exact ha.nd 0 (by simp[aJ]) i (by rw[wX]at hi;exact hi)
      have gX:(T.2.map ae)[0]? =some (ae X):=by rw[hX];exact db (by have:=ha.ln;simp[aJ]at this;omega)
      have bX:=(fv gp.ct (fR cu 0 (by simp[aJ]))).2
      simp only[aJ,nth,List.getD_cons_zero,List.getD_cons_succ]at bX
      obtain⟨Y,hY⟩:∃Y,Y=nth T.2 1:=⟨_,rfl⟩
      have wY:Y.length=bV (aR p) b:=by rw[hY];exact ha.wid 1 (by simp[aJ])
      have nY:∀i,i<Y.length→bm (2+(aU p).length) T.1 (nth Y i):=fun i hi=>by rw[hY];exact ha.nd 1 (by simp[aJ]) i (by rw[wY]at hi;exact hi)
      have gY:(T.2.map ae)[1]? =some (ae Y):=by rw[hY];exact db (by have:=ha.ln;simp[aJ]at this;omega)
      have bY:=(fv gp.ct (fR cu 1 (by simp[aJ]))).2
      simp only[aJ,nth,List.getD_cons_zero,List.getD_cons_succ]at bY
      have bE:dW p data gs (.cat a b)=(T.1,Y++X):=by rw[hX,hY,hT,hS];rfl
      have nM:=cu.2.2
      rw[←wX,←wY]at nM
      simp only[aJ,dv,kEx,l8,List.length_cons,List.length_nil,Nat.zero_add,Nat.reduceAdd]
      have sO:T.2.length=2:=ha.ln
      refine bh ?_
      refine bN _ _ ?_
      refine aD fun K181 HQ=>?_
      refine ah (bh ·) ?_
      refine aW ?_
      refine ah (bh ·) ?_
      refine bA ?_
      refine ah (bh ·) ?_
      refine bA ?_
      refine ah (bh ·) ?_
      refine bA ?_
      refine ah (bh ·) ?_
      refine bA ?_
      refine aD fun K187 HP=>?_
      refine ah (bh ·) ?_
      refine bA ?_
      refine ah (bh ·) ?_
      refine bA ?_
      refine fj (bh ·) (HP _ _ ?_)
      refine bA ?_
      refine ah (bh ·) ?_
      refine bA ?_
      refine ah (bh ·) ?_
      refine bA ?_
      refine ah (bh ·) ?_
      refine bA ?_
      refine ah (bh ·) ?_
      refine bA ?_
      refine ah (bh ·) ?_
      refine bA ?_
      refine ah (bh ·) ?_
      refine dh ?_
      refine z8 ax hc mixed rfl (q:=2) (by kernel_rfl) (by kernel_rfl) fun K197 HO=>?_
      simp -dsimp -implicitDefEqProofs (disch:=first|assumption|omega|(simp only[aH,gJ]<;>omega)|decide) only[aN,↓reduceIte,Nat.reduceEqDiff,Nat.reduceAdd,D.fix,Int.reduceToNat,Nat.reduceMul,Nat.reduceBNe,Nat.reduceBEq,er,aK,bQ,cN,bt,dy,dG,gI,cM,gg,cv,sD,nS,xF,mq,db,ao,gX,gY,Mi,List.filterMap_cons,bw]
      refine HO _ _ (HQ _ _ ?_)
      refine ah (bh ·) ?_
      refine aM ?_
      try dsimp only[cC,cI]
      refine cS rfl ?_
      refine rF ?_
      show ai _ _=_
      refine ry ?_
      have e5:(Y.map iD++X.map iD).map D.fix=(Y++X).map iD:=by rw[←List.map_append,List.map_map];rfl
      rw[bE,e5];simp only[gI,cM,bt,ae,List.length_append];first|done|rfl
    · obtain⟨X,hX⟩:∃X,X=nth T.2 0:=⟨_,rfl⟩
      have wX:X.length=bV (aR p) a:=by rw[hX];exact ha.wid 0 (by simp[aJ])
      have nX:∀i,i<X.length→bm (2+(aU p).length) T.1 (nth X i):=fun i hi=>by rw[hX];exact ha.nd 0 (by simp[aJ]) i (by rw[wX]at hi;exact hi)
      have gX:(T.2.map ae)[0]? =some (ae X):=by rw[hX];exact db (by have:=ha.ln;simp[aJ]at this;omega)
      have bX:=(fv gp.ct (fR cu 0 (by simp[aJ]))).2
      simp only[aJ,nth,List.getD_cons_zero,List.getD_cons_succ]at bX
      have bE:dW p data gs (.oJ i w a)=(T.1,(X.drop i).take w):=by rw[hX,hT,hS];rfl
      have Ev:=cu.2.2
      rw[←wX]at Ev
      simp only[aJ,dv,kEx,l8,List.length_cons,List.length_nil,Nat.zero_add,Nat.reduceAdd]
      have sO:T.2.length=1:=ha.ln
      refine bh ?_
      refine bN _ _ ?_
      refine aD fun K199 HN=>?_
      refine ah (bh ·) ?_
      refine aW ?_
      refine ah (bh ·) ?_
      refine bA ?_
      refine ah (bh ·) ?_
      refine bA ?_
      refine ah (bh ·) ?_
      refine bA ?_
      refine ah (bh ·) ?_
      refine bA ?_
      refine aD fun K205 HM=>?_
      refine ah (bh ·) ?_
      refine bA ?_
      refine ah (bh ·) ?_
      refine bA ?_
      refine fj (bh ·) (HM _ _ ?_)
      refine bA ?_
      refine ah (bh ·) ?_
      refine bA ?_
      refine ah (bh ·) ?_
      refine bA ?_
      refine ah (bh ·) ?_
      refine bA ?_
      refine ah (bh ·) ?_
      refine bA ?_
      refine ah (bh ·) ?_
      refine bA ?_
      refine ah (bh ·) ?_
      refine bA ?_
      refine ah (bh ·) ?_
      refine dh ?_
      refine z8 ax hc mixed rfl (q:=0) (by kernel_rfl) (by kernel_rfl) fun K216 HK=>?_
      refine kp gX ?_
      refine HK _ _ (HN _ _ ?_)
      refine ah (bh ·) ?_
      refine aM ?_
      try dsimp only[cC,cI]
      refine cS rfl ?_
      refine rF ?_
      show ai _ _=_
      refine ry ?_
      have e4:((X.drop i).take w).length=w:=by simp;omega
      rw[bE,show((i:Int)+w - i).toNat=w by omega];simp only[gI,cM,ae,bt,e4,List.map_take,List.map_drop]
    · obtain⟨X,hX⟩:∃X,X=nth T.2 0:=⟨_,rfl⟩
      have wX:X.length=bV (aR p) a:=by rw[hX];exact ha.wid 0 (by simp[aJ])
      have nX:∀i,i<X.length→bm (2+(aU p).length) T.1 (nth X i):=fun i hi=>by rw[hX];exact ha.nd 0 (by simp[aJ]) i (by rw[wX]at hi;exact hi)
      have gX:(T.2.map ae)[0]? =some (ae X):=by rw[hX];exact db (by have:=ha.ln;simp[aJ]at this;omega)
      have bX:=(fv gp.ct (fR cu 0 (by simp[aJ]))).2
      simp only[aJ,nth,List.getD_cons_zero,List.getD_cons_succ]at bX
      have bE:dW p data gs (.ext w a)=(T.1,X++List.replicate (w - X.length) 0):=by rw[hX,hT,hS];rfl
      have nM:=cu.2.2
      have ux:=cu.2.1
      rw[←wX]at ux
      simp only[aJ,dv,kEx,l8,List.length_cons,List.length_nil,Nat.zero_add,Nat.reduceAdd]
      have sO:T.2.length=1:=ha.ln
      refine bh ?_
      refine bN _ _ ?_
      refine aD fun K218 HJ=>?_
      refine ah (bh ·) ?_
      refine aW ?_
      refine ah (bh ·) ?_
      refine bA ?_
      refine ah (bh ·) ?_
      refine bA ?_
      refine ah (bh ·) ?_
      refine bA ?_
      refine ah (bh ·) ?_
      refine bA ?_
      refine aD fun K224 HI=>?_
      refine ah (bh ·) ?_
      refine bA ?_
      refine ah (bh ·) ?_
      refine bA ?_
      refine fj (bh ·) (HI _ _ ?_)
      refine bA ?_
      refine ah (bh ·) ?_
      refine bA ?_
      refine ah (bh ·) ?_
      refine bA ?_
      refine ah (bh ·) ?_
      refine bA ?_
      refine ah (bh ·) ?_
      refine bA ?_
      refine ah (bh ·) ?_
      refine bA ?_
      refine ah (bh ·) ?_
      refine bA ?_
      refine ah (bh ·) ?_
      refine bA ?_
      refine ah (bh ·) ?_
      refine dh ?_
      refine z8 ax hc mixed rfl (q:=2) (by kernel_rfl) (by kernel_rfl) fun K236 HH=>?_
      simp -dsimp -implicitDefEqProofs (disch:=first|assumption|omega|(simp only[aH,gJ]<;>omega)|decide) only[aN,↓reduceIte,Nat.reduceEqDiff,Nat.reduceAdd,D.fix,Int.reduceToNat,Nat.reduceMul,Nat.reduceBNe,Nat.reduceBEq,er,aK,bQ,cN,bt,dy,dG,gI,cM,gg,cv,sD,nS,xF,mq,db,ao,gX,OT,Option.isSome_some,Mi,List.filterMap_cons,bw]
      refine HH _ _ (HJ _ _ ?_)
      refine ah (bh ·) ?_
      refine aM ?_
      try dsimp only[cC,cI]
      refine cS rfl ?_
      refine rF ?_
      show ai _ _=_
      refine ry ?_
      have e6:((w:Int) - X.length).toNat=w - X.length:=by omega
      have e5:(X.map iD++List.replicate (w - X.length) (D.val (.int .i64 0))).map D.fix=(X++List.replicate (w - X.length) 0).map iD:=by rw[List.map_append,List.map_append,List.map_replicate,List.map_replicate,List.map_map];rfl
      rw[bE,e6,e5];simp only[gI,cM,bt,ae,List.length_append,List.length_replicate];first|done|rfl
    · obtain⟨X,hX⟩:∃X,X=nth T.2 0:=⟨_,rfl⟩
      have wX:X.length=bV (aR p) a:=by rw[hX];exact ha.wid 0 (by simp[aJ])
      have nX:∀i,i<X.length→bm (2+(aU p).length) T.1 (nth X i):=fun i hi=>by rw[hX];exact ha.nd 0 (by simp[aJ]) i (by rw[wX]at hi;exact hi)
      have gX:(T.2.map ae)[0]? =some (ae X):=by rw[hX];exact db (by have:=ha.ln;simp[aJ]at this;omega)
      have bX:=(fv gp.ct (fR cu 0 (by simp[aJ]))).2
      simp only[aJ,nth,List.getD_cons_zero,List.getD_cons_succ]at bX
      obtain⟨ad,yb⟩:∃ad,ad=jg X (nth (aR p).au i).1:=⟨_,rfl⟩
      obtain⟨st,cd⟩:∃st:Gs→Nat→Re,st=fun gs k=>gw (2+(aU p).length) gs ⟨7,nth ad 0,nth ad 1,nth ad 2,((8*i+k:Nat):Int)⟩:=⟨_,rfl⟩
      have bE:dW p data gs (.rd i a)=bL st T.1 (nth (aR p).au i).2:=by rw[cd,yb,hX,hT,hS];rfl
      have gL:i<p.au.length:=by have:=cu.2;simpa[aR]using this
      have em:nth (aR p).au i=((nth p.au i).words,(nth p.au i).w):=tE gL
      have A4:=gp.ct.m i cu.2
      have p9:=gp.ct.l
      have hi8:=cu.2
      rw[em]at A4 yb bE
      simp only at A4 yb bE
      have XM:ad.length=3:=by rw[yb];exact va _ _
      have Hx:=jii X (nth p.au i).words (by omega) (by omega)
      rw[←yb]at Hx
      have m1:=WD gL;have m2:=M6 gL
      have G3:∀{fH:Gs},T.1<+:fH→∀j,j<3→bm (2+(aU p).length) fH (nth ad j):=fun hp j hj=>by rw[yb];exact C3 (by omega) (fun j hj=>(nX j hj).pre hp) hj
      have jB:∀k,k≤(nth p.au i).w→Bs (2+(aU p).length) (1*k) k T.1 (bL st T.1 k):=fun k hk=>kz ha.gi fun j hj fH hp mL=>by
        rw[cd]
        have n0:=G3 hp 0 (by decide);have n1:=G3 hp 1 (by decide);have n2:=G3 hp 2 (by decide)
        exact yB mL ⟨by simp,by simp,n0.1,n0.2,n1.1,n1.2,n2.1,n2.2,by simp only;omega,by simp only;omega,fun e=>absurd rfl e,fun e=>absurd e (by simp),fun e=>absurd e (by simp)⟩
          ⟨fun e=>absurd e (by simp),fun _ e=>absurd e (by simp),fun e=>absurd e (by simp),fun e=>absurd e (by simp)⟩
      have sL:=fun k=>BI (aU p).length (bL st T.1 k).1 ⟨7,nth ad 0,nth ad 1,nth ad 2,8*(i:Int)+k⟩ (by omega)
      simp only[aJ,dv,kEx,l8,List.length_cons,List.length_nil,Nat.zero_add,Nat.reduceAdd]
      have sO:T.2.length=1:=ha.ln
      refine bh ?_
      refine bN _ _ ?_
      refine aD fun K238 HG=>?_
      refine ah (bh ·) ?_
      refine aW ?_
      refine ah (bh ·) ?_
      refine bA ?_
      refine ah (bh ·) ?_
      refine bA ?_
      refine ah (bh ·) ?_
      refine bA ?_
      refine ah (bh ·) ?_
      refine bA ?_
      refine aD fun K244 HF=>?_
      refine ah (bh ·) ?_
      refine bA ?_
      refine ah (bh ·) ?_
      refine bA ?_
      refine fj (bh ·) (HF _ _ ?_)
      refine bA ?_
      refine ah (bh ·) ?_
      refine bA ?_
      refine ah (bh ·) ?_
      refine bA ?_
      refine ah (bh ·) ?_
      refine bA ?_
      refine ah (bh ·) ?_
      refine bA ?_
      refine ah (bh ·) ?_
      refine bA ?_
      refine ah (bh ·) ?_
      refine bA ?_
      refine ah (bh ·) ?_
      refine bA ?_
      refine ah (bh ·) ?_
      refine bA ?_
      refine ah (bh ·) ?_
      refine dh ?_
      refine dO ax hc mixed rfl (q:=0) (by kernel_rfl) (by kernel_rfl) fun K257 HE=>?_
      refine kp (aw gX m2) ?_
      refine bx (Hx) rfl ?_
      refine kp (aw gX m2) ?_
      refine HE _ _ ?_
      refine ah (zQ ·) ?_
      refine aW ?_
      refine cU hp (fun τ' H' mm=>∃(k:Nat),(k≤(nth p.au i).w)∧mm=(nth p.au i).w - k∧H'=[.cells (ak (er p data)),.cells (ak (cN (aU p).length T.1)),.cells (ak (cv 17 i 0 ([a].flatMap bR) 1)),.cells [.d (iD 0),.d (.val (.slice none 0 0)),.d (.val (.slice none 0 0))],.cells (ak (T.2.map ae)),.cells [.d (iD (aU p).length),.d (bt (bL st T.1 k).1),.os 1 6 0 k],.cells (ak ((bL st T.1 k).2.map iD))]∧τ'=aF [(3,.op 0 0),(4,.op 1 0),(5,.op 2 0),(6,.op 3 0),(7,.os 1 4 0 1),(10,.op 5 0),(19,.d (iD k)),(18,.d (ae ad))]) ((nth p.au i).w) ?_ ⟨0,cF _,rfl,rfl,rfl⟩ ?_
      · refine Rt.trans (Rt.fm 5 2 1 rfl rfl) ?_
        refine mR ?_
        exact Ca
      rintro τ' H' mm ⟨k,hk,rfl,rfl,rfl⟩
      refine aD fun K259 HD=>?_
      refine ah (kp m1 ·) ?_
      refine bf rfl (fun ht=>?_) (fun ht=>?_)
      · have aA:k<(nth p.au i).w:=by simp at ht;omega
        have hb:=jB k hk
        have hlen:=hb.len
        have gf:=hb.wid
        have c8:=sL k (by omega)
        rw[show gw (2+(aU p).length) (bL st T.1 k).1 ⟨7,nth ad 0,nth ad 1,nth ad 2,8*(i:Int)+k⟩=st (bL st T.1 k).1 k by rw[cd];rfl]at c8
        clear cd
        refine bg (HD _ _ ?_)
        refine aD fun K261 HC=>?_
        refine aW ?_
        refine dO ax hc mixed rfl (q:=1) (by kernel_rfl) (by kernel_rfl) fun K262 HB=>?_
        refine bh ?_
        refine bx (c8) rfl ?_
        refine bh ?_
        refine HB _ _ ?_
        refine ah (bh ·) ?_
        refine fj (bh ·) (HC _ _ ?_)
        refine bT hp ax hc rfl fun K265 HA=>?_
        refine bh ?_
        refine HA _ _ ⟨_,_,_,?_,⟨k+1,by omega,rfl,rfl,rfl⟩,?_⟩
        · first|omega|(simp only[List.length_cons];omega)|(dsimp only;omega)
        · refine AG [0,1,2,3,4,5,9] ?_
          refine mR ?_
          refine sf ?_;simp[bL,iD,nS,cv]
      · have bM:k=(nth p.au i).w:=by simp at ht;omega
        subst bM
        have gf:=(jB _ (bJ _)).wid
        refine cJ (HG _ _ ?_)
        refine bC hp (τ':=aF [(6,.op 3 0),(10,.op 5 0)]) (H':=[.cells (ak (er p data)),.cells (ak (cN (aU p).length T.1)),.cells (ak (cv 17 i 0 ([a].flatMap bR) 1)),.cells [.d (iD 0),.d (.val (.slice none 0 0)),.d (.val (.slice none 0 0))],.cells (ak (T.2.map ae)),.cells (ak (cM (aU p).length ((bL st T.1 (nth p.au i).w).1,(bL st T.1 (nth p.au i).w).2))),.dead]) ?_ ?_
        · refine Rt.trans (Rt.fz (id:=6) (l:=((bL st T.1 (nth p.au i).w).2.map iD)) rfl) ?_
          refine mR ?_
          refine sf ?_;simp[fE,gf,cM,ae,ak,iD]
        refine ah (bh ·) ?_
        refine aM ?_
        try dsimp only[cC,cI]
        refine cS rfl ?_
        refine rF ?_
        show ai _ _=_
        refine ry ?_
        rw[bE];first|done|rfl
theorem BH(p:Pr)(gp:cB p)(q:Bool)(data:List (List Int))(hn:(aU p).length≤1000)(e:Ex):N8 p q data e:=by
  have key:∀(m:Nat) (e:Ex),SizeOf.sizeOf e<m→N8 p q data e:=by
    intro m
    induction m with
    |zero=>intro e h;omega
    |succ m ihm=>
      intro e h gs hg hl uJ cu
      have:=jst p gp q data e hn (fun k hk=>ihm _ (by have:=RA hk;omega)) gs hg hl uJ cu
      rw[←xJ]at this
      exact this
  exact key (SizeOf.sizeOf e+1) e (by omega)
end Go.Proofs.YtapjobndmmkanaaGreat
