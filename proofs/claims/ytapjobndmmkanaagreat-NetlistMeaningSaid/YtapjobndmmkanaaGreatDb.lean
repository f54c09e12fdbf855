/- Of no program: reduced ordered trees; two that have the same values are equal. -/
import Derived.Test.YtapjobndmmkanaaGreatAZ
import Derived.Test.YtapjobndmmkanaaGreatQr
import Derived.Test.YtapjobndmmkanaaGreatTy
set_option linter.unusedVariables false
set_option linter.unusedSimpArgs false
namespace Go.Proofs.YtapjobndmmkanaaGreat
open Go.Proofs.Tryz
inductive T where
 |leaf (b:Bool)
 |node (v:Nat) (lo hi:T)
 deriving DecidableEq,Inhabited
def Oe(a:Nat→Bool)(v:Nat)(b:Bool):Nat→Bool:=fun i=>if i=v then b else a i
set_option maxRecDepth 100000
set_option maxHeartbeats 4000000
section
open Go Go.RowKit
theorem Hh{p q:Prop}(hq:q)(h:p=q:=by
 conv=>lhs;simp -dsimp -implicitDefEqProofs (disch:=first|assumption|omega|(simp only[aK]<;>omega)|decide) only[aP,↓reduceIte,Nat.reduceEqDiff,Nat.reduceAdd,D.fix,Int.reduceToNat,Nat.reduceMul,Nat.reduceBNe,Nat.reduceBEq]):p:=h.mpr hq
theorem Lo{p q:Prop}(hq:q)(h:p=q:=by
 conv=>lhs;simp -dsimp -implicitDefEqProofs (disch:=first|assumption|omega|(simp only[aK]<;>omega)|decide) only[aP,↓reduceIte,Nat.reduceEqDiff,Nat.reduceAdd,D.fix,Int.reduceToNat,Nat.reduceMul,Nat.reduceBNe,Nat.reduceBEq,bw]):p:=h.mpr hq
theorem Xs{m:List Nat}{τ τ':Fr}{H H':ak}(h2:H=H')(h:fm τ τ':=by
 repeat (first|exact bT _|refine bM ?_ (by first|rfl|(simp[aR];done)|simp[aR, *]))):Rt m τ H τ' H':=Rt.end h h2
theorem N5{p q:Prop}(hq:q)(h:p=q:=by
 conv=>lhs;simp (disch:=first|assumption|omega|(simp only[aK]<;>omega)|decide) only[gF,Nat.reduceAdd,D.fix,↓reduceIte,Nat.reduceEqDiff]):p:=h.mpr hq
theorem PK(a b:List Int)(ha:a.length≤maxLen):cC prog 47 [av a,av b] (.d (oD (decide (a=b)))):=by
 refine ez (fn:=f47) (by kernel_rfl) func47 rfl (bN rfl) fun c hc hp=>?_
 refine dG (τ':=aG [(0,.d (av a)),(1,.d (av b))]) (by repeat (first|exact bT _|refine bM ?_ (by first|rfl|(simp[aR];done)|simp[aR, *]))) ?_
 unfold maxLen at ha
 refine aj (Hh ·) ?_
 refine aH fun K2 bG=>?_
 refine aj (Lo ·) ?_
 refine aX rfl (fun ht=>?_) (fun ht=>?_)
 ·have cw:a≠b:=fun e=>by subst e;simp at ht
  refine aj (Hh ·) ?_
  refine bh ?_
  show aC _ _=_
  refine N5 ?_
  simp[cw]
 ·have hl:a.length=b.length:=by simp at ht;omega
  refine bB (bG _ _ ?_)
  refine aH fun K5 fA=>?_
  refine aj (Hh ·) ?_
  refine aW ?_
  refine c9 hp (fun τ' H' mm=>∃k,(k≤a.length∧a.take k=b.take k)∧mm=a.length - k∧H'=[]∧τ'=aG [(5,.d (iD k)),(0,.d (av a)),(1,.d (av b))]) (a.length) ?_ ⟨0,⟨cy _,rfl⟩,rfl,rfl,rfl⟩ ?_
  ·refine Xs ?_
   first|rfl|(simp only[cD,Nat.reduceAdd,↓reduceIte,Nat.reduceEqDiff];first|done|rfl)
  rintro τ' H' mm ⟨k,⟨hk,xJ⟩,rfl,rfl,rfl⟩
  refine aH fun K7 de=>?_
  refine aj (Lo ·) ?_
  refine aX rfl (fun ht=>?_) (fun ht=>?_)
  ·have aA:k<a.length:=by simp at ht;omega
   have tz:k<b.length:=by omega
   refine bB (de _ _ ?_)
   refine aH fun K9 cJ=>?_
   refine aW ?_
   refine eN ax hc mixed rfl (q:=0) (by kernel_rfl) (by kernel_rfl) fun kL bU=>?_
   refine Lo ?_
   refine bU _ _ ?_
   refine aX rfl (fun ht=>?_) (fun ht=>?_)
   ·have cw:a≠b:=fun e=>by subst e;simp at ht
    refine aj (Hh ·) ?_
    refine bh ?_
    show aC _ _=_
    refine N5 ?_
    simp[cw]
   ·refine bB (cJ _ _ ?_)
    refine bA hp ax hc rfl fun nk cU=>?_
    refine Lo ?_
    refine cU _ _ ⟨_,_,_,?_,⟨k+1,⟨by omega,zw7 aA tz xJ (by simpa using ht)⟩,rfl,rfl,rfl⟩,?_⟩
    ·first|omega|(simp only[List.length_cons];omega)|(dsimp only;omega)
    ·refine Xs ?_
     first|rfl|(simp only[cD,Nat.reduceAdd,↓reduceIte,Nat.reduceEqDiff];first|done|rfl)
  ·have xS:k=a.length:=by simp at ht;omega
   have he:a=b:=by rw[xS,List.take_length,hl,List.take_length]at xJ;exact xJ
   refine cL (fA _ _ ?_)
   refine aj (Hh ·) ?_
   refine bh ?_
   show aC _ _=_
   refine N5 ?_
   simp[he]
structure aB where
 kind:Int
 i:Int
 bit:Int
instance:Inhabited aB:=⟨⟨0,0,0⟩⟩
structure Gate where
 op:Int
 a:Int
 b:Int
 c:Int
 n:Int
instance:Inhabited Gate:=⟨⟨0,0,0,0,0⟩⟩
structure Net where
 ins:List aB
 aO:List Gate
 out:List aB
 cG:List Int
def cn(w:aB):List D:=[iD w.kind,iD w.i,iD w.bit]
def bE(g:Gate):List D:=[iD g.op,iD g.a,iD g.b,iD g.c,iD g.n]
def cH(l:List aB):D:=.fs (l.flatMap cn) l.length
def jf(l:List Gate):D:=.fs (l.flatMap bE) l.length
def eZ(n:Net):List D:=[cH n.ins,jf n.aO,cH n.out,av n.cG]
def eF(n:Net):D:=.agg (eZ n)
theorem vR(g:Gate):(bE g).length=5:=rfl
theorem qK(w:aB):(cn w).length=3:=rfl
section
variable {l:List Gate} {k:Nat}
theorem AG(h:k<l.length):dJ (l.flatMap bE) (k*5) 5=some (bE (nth l k)):=zh vR h
theorem ybw(h:k<l.length):(l.flatMap bE)[k*5]? =some (iD (nth l k).op):=(nC (j:=0) vR h (by omega)).trans rfl
theorem ybx(h:k<l.length):(l.flatMap bE)[k*5+1]? =some (iD (nth l k).a):=(nC (j:=1) vR h (by omega)).trans rfl
theorem bx:(l.flatMap bE).length=l.length*5:=pq vR l
theorem jeo(l:List Gate):(l.flatMap bE).map D.fix=l.flatMap bE:=MY (fun _=>rfl) l
theorem Jw(l:List aB):(l.flatMap cn).map D.fix=l.flatMap cn:=MY (fun _=>rfl) l
end
section
variable {l:List aB} {k:Nat}
theorem AF(h:k<l.length):dJ (l.flatMap cn) (k*3) 3=some (cn (nth l k)):=zh qK h
theorem aT:(l.flatMap cn).length=l.length*3:=pq qK l
end
def A7(v b:Int):Bool:=pc .and .i64 (v.fdiv (2^min b.toNat 64)) 1==1
def yL(a b c:Bool):Int:=(if a then 1 else 0)+(if b then 2 else 0)+(if c then 4 else 0)
theorem yby(a b c:Bool):0≤yL a b c∧yL a b c≤7:=by cases a<;>cases b<;>cases c<;>decide
def yZ(mems:List (List Int))(n x:Int):Bool:=decide (n / 8<mems.length)&&(decide (x<(nth mems (n / 8).toNat).length)&&A7 (nth (nth mems (n / 8).toNat) x.toNat) (n % 8))
end
section
open Go Go.RowKit
theorem ypd:(type_of% @xe):=@xe
structure yf (m:Nat) (g:Gate):Prop where
 o1:1≤g.op
 o2:g.op≤7
 a0:0≤g.a
 a1:g.a<m
 b0:0≤g.b
 b1:g.b<m
 c0:0≤g.c
 c1:g.c<m
 n0:0≤g.n
 n1:g.n<1000000
def FL(m:Nat)(l:List Gate):Prop:=∀k,k<l.length→yf (m+k) (nth l k)
def rm(mems:List (List Int))(v:List Bool)(g:Gate):Bool:=
 if g.op=7 then yZ mems g.n (yL (nth v g.a.toNat) (nth v g.b.toNat) (nth v g.c.toNat))
 else if g.op=1 then !nth v g.a.toNat
 else if g.op=2 then nth v g.a.toNat&&nth v g.b.toNat
 else if g.op=3 then nth v g.a.toNat||nth v g.b.toNat
 else if g.op=4 then nth v g.a.toNat !=nth v g.b.toNat
 else if g.op=5 then if nth v g.a.toNat then nth v g.b.toNat else nth v g.c.toNat
 else nth v g.a.toNat&&(nth v g.b.toNat||nth v g.c.toNat)||nth v g.b.toNat&&nth v g.c.toNat
def jo(mems:List (List Int))(v:List Bool)(l:List Gate):List Bool:=l.foldl (fun v g=>v++[rm mems v g]) v
def BT(aO:List Gate)(bL:List Bool)(mems:List (List Int)):List Bool:=jo mems (false::true::bL) aO
theorem sL(mems:List (List Int)):∀(l:List Gate) (v:List Bool),(jo mems v l).length=v.length+l.length
 |[],v=>rfl
 |g::l,v=>by
  show(jo mems (v++[rm mems v g]) l).length=_
  rw[sL mems l];simp;omega
theorem To(mems:List (List Int))(v:List Bool){l:List Gate}{k:Nat}(h:k<l.length):jo mems v (l.take (k+1))=jo mems v (l.take k)++[rm mems (jo mems v (l.take k)) (nth l k)]:=by
 rw[uX h];simp[jo]
end
end Go.Proofs.YtapjobndmmkanaaGreat
