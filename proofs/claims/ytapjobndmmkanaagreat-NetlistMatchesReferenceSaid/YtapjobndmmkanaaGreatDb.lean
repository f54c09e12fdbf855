/- Of no program: reduced ordered trees; two that have the same values are equal. -/
import Derived.Test.YtapjobndmmkanaaGreatAZ
import Derived.Test.YtapjobndmmkanaaGreatQr
import Derived.Test.YtapjobndmmkanaaGreatTy
set_option linter.unusedVariables false
set_option linter.unusedSimpArgs false
namespace Go.Proofs.YtapjobndmmkanaaGreat
open Go.Proofs.Tryz
inductive T where
 |leaf (b:Bool)
 |node (v:Nat) (lo hi:T)
 deriving DecidableEq,Inhabited
def Nv(a:Nat→Bool)(v:Nat)(b:Bool):Nat→Bool:=fun i=>if i=v then b else a i
set_option maxRecDepth 100000
set_option maxHeartbeats 4000000
section
open Go Go.RowKit
theorem GA{p q:Prop}(hq:q)(h:p=q:=by
 conv=>lhs;simp -dsimp -implicitDefEqProofs (disch:=first|assumption|omega|(simp only[aH]<;>omega)|decide) only[aN,↓reduceIte,Nat.reduceEqDiff,Nat.reduceAdd,D.fix,Int.reduceToNat,Nat.reduceMul,Nat.reduceBNe,Nat.reduceBEq]):p:=h.mpr hq
theorem Kq{p q:Prop}(hq:q)(h:p=q:=by
 conv=>lhs;simp -dsimp -implicitDefEqProofs (disch:=first|assumption|omega|(simp only[aH]<;>omega)|decide) only[aN,↓reduceIte,Nat.reduceEqDiff,Nat.reduceAdd,D.fix,Int.reduceToNat,Nat.reduceMul,Nat.reduceBNe,Nat.reduceBEq,bw]):p:=h.mpr hq
theorem Wr{m:List Nat}{τ τ':Fr}{H H':av}(h2:H=H')(h:fw τ τ':=by
 repeat (first|exact cw _|refine cg ?_ (by first|rfl|(simp[aX];done)|simp[aX, *]))):Rt m τ H τ' H':=Rt.end h h2
theorem Nk{p q:Prop}(hq:q)(h:p=q:=by
 conv=>lhs;simp (disch:=first|assumption|omega|(simp only[aH]<;>omega)|decide) only[fA,Nat.reduceAdd,D.fix,↓reduceIte,Nat.reduceEqDiff]):p:=h.mpr hq
theorem jxy(a b:List Int)(ha:a.length≤maxLen):dq prog 47 [ae a,ae b] (.d (oD (decide (a=b)))):=by
 refine fh (fn:=f47) (by kernel_rfl) func47 rfl (cn rfl) fun c hc hp=>?_
 refine dY (τ':=aF [(0,.d (ae a)),(1,.d (ae b))]) (by repeat (first|exact cw _|refine cg ?_ (by first|rfl|(simp[aX];done)|simp[aX, *]))) ?_
 unfold maxLen at ha
 refine ah (GA ·) ?_
 refine aD fun K2 bS=>?_
 refine ah (Kq ·) ?_
 refine bf rfl (fun ht=>?_) (fun ht=>?_)
 ·have cR:a≠b:=fun e=>by subst e;simp at ht
  refine ah (GA ·) ?_
  refine aM ?_
  show ai _ _=_
  refine Nk ?_
  simp[cR]
 ·have hl:a.length=b.length:=by simp at ht;omega
  refine bg (bS _ _ ?_)
  refine aD fun K5 dx=>?_
  refine ah (GA ·) ?_
  refine aW ?_
  refine cU hp (fun τ' H' mm=>∃k,(k≤a.length∧a.take k=b.take k)∧mm=a.length - k∧H'=[]∧τ'=aF [(5,.d (iD k)),(0,.d (ae a)),(1,.d (ae b))]) (a.length) ?_ ⟨0,⟨cF _,rfl⟩,rfl,rfl,rfl⟩ ?_
  ·refine Wr ?_
   first|rfl|(simp only[cP,Nat.reduceAdd,↓reduceIte,Nat.reduceEqDiff];first|done|rfl)
  rintro τ' H' mm ⟨k,⟨hk,wy⟩,rfl,rfl,rfl⟩
  refine aD fun K7 cL=>?_
  refine ah (Kq ·) ?_
  refine bf rfl (fun ht=>?_) (fun ht=>?_)
  ·have aA:k<a.length:=by simp at ht;omega
   have sJ:k<b.length:=by omega
   refine bg (cL _ _ ?_)
   refine aD fun K9 cX=>?_
   refine aW ?_
   refine dO ax hc mixed rfl (q:=0) (by kernel_rfl) (by kernel_rfl) fun j4 bW=>?_
   refine Kq ?_
   refine bW _ _ ?_
   refine bf rfl (fun ht=>?_) (fun ht=>?_)
   ·have cR:a≠b:=fun e=>by subst e;simp at ht
    refine ah (GA ·) ?_
    refine aM ?_
    show ai _ _=_
    refine Nk ?_
    simp[cR]
   ·refine bg (cX _ _ ?_)
    refine bT hp ax hc rfl fun lK bN=>?_
    refine Kq ?_
    refine bN _ _ ⟨_,_,_,?_,⟨k+1,⟨by omega,zvz aA sJ wy (by simpa using ht)⟩,rfl,rfl,rfl⟩,?_⟩
    ·first|omega|(simp only[List.length_cons];omega)|(dsimp only;omega)
    ·refine Wr ?_
     first|rfl|(simp only[cP,Nat.reduceAdd,↓reduceIte,Nat.reduceEqDiff];first|done|rfl)
  ·have uG:k=a.length:=by simp at ht;omega
   have he:a=b:=by rw[uG,List.take_length,hl,List.take_length]at wy;exact wy
   refine cJ (dx _ _ ?_)
   refine ah (GA ·) ?_
   refine aM ?_
   show ai _ _=_
   refine Nk ?_
   simp[he]
structure aT where
 kind:Int
 i:Int
 bit:Int
instance:Inhabited aT:=⟨⟨0,0,0⟩⟩
structure Gate where
 op:Int
 a:Int
 b:Int
 c:Int
 n:Int
instance:Inhabited Gate:=⟨⟨0,0,0,0,0⟩⟩
structure Net where
 ins:List aT
 gates:List Gate
 out:List aT
 aP:List Int
def cr(w:aT):List D:=[iD w.kind,iD w.i,iD w.bit]
def aY(g:Gate):List D:=[iD g.op,iD g.a,iD g.b,iD g.c,iD g.n]
def bQ(l:List aT):D:=.fs (l.flatMap cr) l.length
def bt(l:List Gate):D:=.fs (l.flatMap aY) l.length
def dp(n:Net):List D:=[bQ n.ins,bt n.gates,bQ n.out,ae n.aP]
def dt(n:Net):D:=.agg (dp n)
theorem qA(g:Gate):(aY g).length=5:=rfl
theorem rL(w:aT):(cr w).length=3:=rfl
section
variable {l:List Gate} {k:Nat}
theorem ve(h:k<l.length):ec (l.flatMap aY) (k*5) 5=some (aY (nth l k)):=Ai qA h
theorem EX(h:k<l.length):(l.flatMap aY)[k*5]? =some (iD (nth l k).op):=(uc (j:=0) qA h (by omega)).trans rfl
theorem EW(h:k<l.length):(l.flatMap aY)[k*5+1]? =some (iD (nth l k).a):=(uc (j:=1) qA h (by omega)).trans rfl
theorem bc:(l.flatMap aY).length=l.length*5:=o9 qA l
theorem L6(l:List Gate):(l.flatMap aY).map D.fix=l.flatMap aY:=jar (fun _=>rfl) l
theorem jcm(l:List aT):(l.flatMap cr).map D.fix=l.flatMap cr:=jar (fun _=>rfl) l
end
section
variable {l:List aT} {k:Nat}
theorem vd(h:k<l.length):ec (l.flatMap cr) (k*3) 3=some (cr (nth l k)):=Ai rL h
theorem aQ:(l.flatMap cr).length=l.length*3:=o9 rL l
end
end
section
open Go Go.RowKit
theorem yju:(type_of% @vN):=@vN
structure nD (m:Nat) (g:Gate):Prop where
 o1:1≤g.op
 o2:g.op≤7
 a0:0≤g.a
 a1:g.a<m
 b0:0≤g.b
 b1:g.b<m
 c0:0≤g.c
 c1:g.c<m
 n0:0≤g.n
 n1:g.n<1000000
def Iu(m:Nat)(l:List Gate):Prop:=∀k,k<l.length→nD (m+k) (nth l k)
end
end Go.Proofs.YtapjobndmmkanaaGreat
