/- Valid nets are found valid; wires compared. -/
import Derived.Test.YtapjobndmmkanaaGreatQr
import Derived.Test.YtapjobndmmkanaaGreatVd
import Derived.Test.YtapjobndmmkanaaGreatOe
set_option linter.unusedVariables false
set_option linter.unusedSimpArgs false
set_option maxRecDepth 100000
set_option maxHeartbeats 4000000
namespace Go.Proofs.YtapjobndmmkanaaGreat
open Go.Proofs.Tryz
open Go Go.RowKit
def n8(c n:Int):Bool:=decide (n<0)||decide (c≤n)
theorem jc6{α:Type}[Inhabited α]{f:α→Bool}{l:List α}{k:Nat}(h:k<l.length)(hf:f (nth l k)=true):l.any f=true:=List.any_eq_true.2 ⟨_,ll h,hf⟩
theorem jc7{α:Type}[Inhabited α]{f:α→Bool}{l:List α}{k:Nat}(h:k<l.length):(l.take (k+1)).any f=((l.take k).any f||f (nth l k)):=by rw[vQ h];simp
structure uR (n:Net):Prop where
 len:2+n.ins.length+n.gates.length≤600
 d0:n.out.length=n.aP.length
 wi:∀w∈n.ins,nB w
 wo:∀w∈n.out,jQ w
 g2:Iu (2+n.ins.length) n.gates
 gv:∀g∈n.gates,rh g
 d2:Ly (2+n.ins.length+n.gates.length) n.aP
 dl:n.aP.length≤1000
def jy(o:Int):Nat:=if o=1 then 1 else if o≤4 then 2 else 3
def gj(g:Gate):List Int:=[g.a,g.b,g.c].take (jy g.op)
def o5(g:Gate):List Int:=[g.a,g.b,g.c].drop (jy g.op)
theorem op7{o:Int}(h1:1≤o)(h2:o≤7):o=1∨o=2∨o=3∨o=4∨o=5∨o=6∨o=7:=by omega
theorem xp{o:Int}(h1:1≤o)(h2:o≤7):(o=1∧jy o=1)∨(2≤o∧o≤4∧jy o=2)∨(5≤o∧jy o=3):=by
 unfold jy
 split
 ·exact .inl ⟨by omega,rfl⟩
 ·split
  ·exact .inr (.inl ⟨by omega,by omega,rfl⟩)
  ·exact .inr (.inr ⟨by omega,rfl⟩)
theorem js6{m:Nat}{g:Gate}(h:nD m g):(gj g).any (n8 m)=false:=by
 rw[List.any_eq_false]
 intro x hx
 have hx:=List.mem_of_mem_take hx
 simp only[List.mem_cons,List.not_mem_nil,or_false]at hx
 have a0:=h.a0;have a1:=h.a1;have b0:=h.b0;have b1:=h.b1;have c0:=h.c0;have c1:=h.c1
 simp only[n8,Bool.or_eq_true,mZ,not_or]
 rcases hx with rfl|rfl|rfl<;>constructor<;>omega
theorem yae{g:Gate}(h1:1≤g.op)(h2:g.op≤7)(h:rh g):(o5 g).any (fun x=>x !=0)=false:=by
 unfold o5
 rcases xp h1 h2 with⟨k1,k2⟩|⟨k1,k3,k2⟩|⟨k1,k2⟩<;>rw[k2]
 ·simp[h.b k1,h.c (by omega)]
 ·simp[h.c k3]
 ·simp
theorem Fa{g:Gate}(h1:1≤g.op)(h2:g.op≤7):((((gj g).length:Nat):Int)==0)=false:=by
 unfold gj
 rcases xp h1 h2 with⟨k1,k2⟩|⟨k1,k3,k2⟩|⟨k1,k2⟩<;>rw[k2]<;>rfl
def M4(es:List (Value × Nat × AV))(k:Int):Bool:=(es.all fun e=>match e.1 with| .int .i64 n=>n !=k|_=>false)
theorem C8{id c:Nat}{k:Int}{y:AV}{H:av}{es:List (Value × Nat × AV)}(hb:(KT 3&&(j5 prog 230==some (3,3))&&(keyOf prog 3 (.int .i64 k)).isSome&&o8 prog 3 es&&M4 es k)=true):Au prog KT 230 id (.int .i64 k) y H (some (.map es c))=some (.d (.val undef),H.set id (.map (es++[(.int .i64 k,c,y)]) (c+1))):=by
 simp only[fY,beq_iff_eq]at hb
 obtain⟨⟨⟨⟨h1,h2⟩,h3⟩,h4⟩,h5⟩:=hb
 have hf:∀(es:List (Value × Nat × AV)) (i:Nat),M4 es k=true→jS (.int .i64 k) es i=none:=by
  intro es
  induction es with
  |nil=>intro i _;rfl
  |cons e es ih=>
   intro i hb
   simp only[M4,List.all_cons,fY]at hb
   unfold jS
   have:kA e.1 (.int .i64 k)=false:=by
    have h:=hb.1
    split at h
    ·rename_i n hn;rw[hn];simp[kA,vS];simpa using h
    ·cases h
   rw[this]
   simpa using ih _ hb.2
 unfold Au
 rw[show j5 prog 230=some (3,3) from h2]
 simp only[h1,h3,h4,hf es 0 h5,mr,Dr,Bool.and_true,if_true]
theorem De{es:List (Value × Nat × AV)}{c:Nat}:JL (some (.map es c))=some es:=rfl
theorem yfr{o:Int}(h1:1≤o)(h2:o≤7):yM prog KT 230 (some (.int .i64 o)) false (some [(.int .i64 1,0,.d (.val (.int .i64 1))),(.int .i64 2,1,.d (.val (.int .i64 2))),(.int .i64 3,2,.d (.val (.int .i64 2))),(.int .i64 4,3,.d (.val (.int .i64 2))),(.int .i64 5,4,.d (.val (.int .i64 3))),(.int .i64 6,5,.d (.val (.int .i64 3))),(.int .i64 7,6,.d (.val (.int .i64 3)))])=some (.d (iD (jy o))):=by
 rcases op7 h1 h2 with rfl|rfl|rfl|rfl|rfl|rfl|rfl<;>kernel_rfl
theorem Bw{p q:Prop}(hq:q)(h:p=q:=by
 conv=>lhs;simp -dsimp -implicitDefEqProofs (disch:=first|assumption|omega|(simp only[aH]<;>omega)|decide) only[aN,↓reduceIte,Nat.reduceEqDiff,Nat.reduceAdd,D.fix,Int.reduceToNat,Nat.reduceMul,Nat.reduceBNe,Nat.reduceBEq,aY,Ah,z6,zZ,C8,vK,De,bw]):p:=h.mpr hq
theorem OD{p q r:Prop}(e:r)(hq:q)(h:r→p=q:=by
 intro hY
 conv=>lhs;simp -dsimp -implicitDefEqProofs (disch:=first|assumption|omega|(simp only[aH]<;>omega)|decide) only[aN,↓reduceIte,Nat.reduceEqDiff,Nat.reduceAdd,D.fix,Int.reduceToNat,Nat.reduceMul,Nat.reduceBNe,Nat.reduceBEq,aY,Ah,z6,zZ,C8,vK,De,bw,hY]):p:=(h e).mpr hq
theorem Oe{p q:Prop}(hq:q)(h:p=q:=by
 conv=>lhs;simp (disch:=first|assumption|omega|(simp only[aH]<;>omega)|decide) only[fA,Nat.reduceAdd,D.fix,↓reduceIte,Nat.reduceEqDiff,aY,Ah,z6,zZ,C8,vK,De]):p:=h.mpr hq
theorem Dp(g:Gate)(h1:1≤g.op)(h2:g.op≤7):dq prog 66 [.agg (aY g)] (.dR [.d (ae (gj g)),.d (ae (o5 g))]):=by
 have iA:=yfr h1 h2
 refine fh (fn:=f66) (by kernel_rfl) func66 rfl (cn rfl) fun c hc hp=>?_
 refine dY (τ':=aF [(0,.d (.agg (aY g)))]) (by repeat (first|exact cw _|refine cg ?_ (by first|rfl|(simp[aX];done)|simp[aX, *]))) ?_
 refine ah (Bw ·) ?_
 refine aZ hp ax hc rfl fun K2 bS=>?_
 rcases xp h1 h2 with⟨k1,k2⟩|⟨k1,k3,k2⟩|⟨k1,k2⟩<;>(rw[k2]at iA)
 ·refine OD iA ?_
  refine bS _ _ ?_
  refine ah (Bw ·) ?_
  refine dO ax hc mixed rfl (q:=0) (by kernel_rfl) (by kernel_rfl) fun K4 dE=>?_
  refine Bw ?_
  refine dE _ _ ?_
  refine aM ?_
  show ai _ _=_
  refine Oe ?_
  unfold gj o5
  rw[k2]
  rfl
 ·refine OD iA ?_
  refine bS _ _ ?_
  refine ah (Bw ·) ?_
  refine dO ax hc mixed rfl (q:=0) (by kernel_rfl) (by kernel_rfl) fun K6 cK=>?_
  refine Bw ?_
  refine cK _ _ ?_
  refine aM ?_
  show ai _ _=_
  refine Oe ?_
  unfold gj o5
  rw[k2]
  rfl
 ·refine OD iA ?_
  refine bS _ _ ?_
  refine ah (Bw ·) ?_
  refine dO ax hc mixed rfl (q:=0) (by kernel_rfl) (by kernel_rfl) fun K8 dP=>?_
  refine Bw ?_
  refine dP _ _ ?_
  refine aM ?_
  show ai _ _=_
  refine Oe ?_
  unfold gj o5
  rw[k2]
  rfl
theorem OC(w:aT)(h0:0≤w.i)(h1:0≤w.bit)(h2:w.bit≤7):dq prog 65 [.agg (cr w)] (.d (oD true)):=by
 have q0:decide (0≤w.i)=true:=decide_eq_true h0
 have q1:decide (0≤w.bit)=true:=decide_eq_true h1
 have q2:decide (w.bit<8)=true:=decide_eq_true (by omega)
 refine fh (fn:=f65) (by kernel_rfl) func65 rfl (cn rfl) fun c hc hp=>?_
 refine dY (τ':=aF [(0,.d (.agg (cr w)))]) (by repeat (first|exact cw _|refine cg ?_ (by first|rfl|(simp[aX];done)|simp[aX, *]))) ?_
 refine aZ hp ax hc rfl fun K1 nw=>?_
 simp -dsimp -implicitDefEqProofs (disch:=first|assumption|omega|(simp only[aH]<;>omega)|decide) only[aN,↓reduceIte,Nat.reduceEqDiff,Nat.reduceAdd,D.fix,Int.reduceToNat,Nat.reduceMul,Nat.reduceBNe,Nat.reduceBEq,cr,bw]
 refine nw _ _ ?_
 refine aZ hp ax hc rfl fun K2 bS=>?_
 simp -dsimp -implicitDefEqProofs (disch:=first|assumption|omega|(simp only[aH]<;>omega)|decide) only[aN,↓reduceIte,Nat.reduceEqDiff,Nat.reduceAdd,D.fix,Int.reduceToNat,Nat.reduceMul,Nat.reduceBNe,Nat.reduceBEq,cr,q0,q1,q2,bw]
 refine bS _ _ ?_
 refine aM ?_
 show ai _ _=_
 simp (disch:=first|assumption|omega|(simp only[aH]<;>omega)|decide) only[fA,Nat.reduceAdd,D.fix,↓reduceIte,Nat.reduceEqDiff,cr]
theorem qz{p q:Prop}(hq:q)(h:p=q:=by
 conv=>lhs;simp -dsimp -implicitDefEqProofs (disch:=first|assumption|omega|(simp only[aH]<;>omega)|decide) only[aN,↓reduceIte,Nat.reduceEqDiff,Nat.reduceAdd,D.fix,Int.reduceToNat,Nat.reduceMul,Nat.reduceBNe,Nat.reduceBEq]):p:=h.mpr hq
theorem Zt{p q r:Prop}(e:r)(hq:q)(h:r→p=q:=by
 intro hY
 conv=>lhs;simp -dsimp -implicitDefEqProofs (disch:=first|assumption|omega|(simp only[aH]<;>omega)|decide) only[aN,↓reduceIte,Nat.reduceEqDiff,Nat.reduceAdd,D.fix,Int.reduceToNat,Nat.reduceMul,Nat.reduceBNe,Nat.reduceBEq,bw,hY]):p:=(h e).mpr hq
theorem vD{p q:Prop}(hq:q)(h:p=q:=by
 conv=>lhs;simp (disch:=first|assumption|omega|(simp only[aH]<;>omega)|decide) only[fA,Nat.reduceAdd,D.fix,↓reduceIte,Nat.reduceEqDiff]):p:=h.mpr hq
theorem yaf(n f i:Int)(hf:0≤f∧f≤1000000)(hi:0≤i∧i≤1000000):dq prog 67 [iD n,.fp [iD f] 0,.fp [iD i] 0] (.d (oD (n8 (f+i) n))):=by
 refine fh (fn:=f67) (by kernel_rfl) func67 rfl (cn rfl) fun c hc hp=>?_
 refine dY (τ':=aF [(0,.d (iD n)),(1,.d (.fp [iD f] 0)),(2,.d (.fp [iD i] 0))]) (by repeat (first|exact cw _|refine cg ?_ (by first|rfl|(simp[aX];done)|simp[aX, *]))) ?_
 refine ah (qz ·) ?_
 refine aZ hp ax hc rfl fun K2 bS=>?_
 rcases tf (decide (n<0))with q|q
 ·refine Zt q ?_
  refine bS _ _ ?_
  refine aM ?_
  show ai _ _=_
  refine vD ?_
  simp[n8,q]
 ·refine Zt q ?_
  refine bS _ _ ?_
  refine aM ?_
  show ai _ _=_
  refine vD ?_
  simp[n8,q]
theorem nH{p q:Prop}(hq:q)(h:p=q:=by
 conv=>lhs;simp -dsimp -implicitDefEqProofs (disch:=first|assumption|omega|(simp only[aH]<;>omega)|decide) only[aN,↓reduceIte,Nat.reduceEqDiff,Nat.reduceAdd,D.fix,Int.reduceToNat,Nat.reduceMul,Nat.reduceBNe,Nat.reduceBEq,bw]):p:=h.mpr hq
theorem yfs{p:Prop}(h:p:=by
 simp (disch:=first|assumption|omega|(simp only[aH]<;>omega)|decide) only[fA,Nat.reduceAdd,D.fix,↓reduceIte,Nat.reduceEqDiff]):p:=h
theorem yag(n:Int):dq prog 69 [iD n] (.d (oD (n !=0))):=by
 refine fh (fn:=f69) (by kernel_rfl) func69 rfl (cn rfl) fun c hc hp=>?_
 refine dY (τ':=aF [(0,.d (iD n))]) (by repeat (first|exact cw _|refine cg ?_ (by first|rfl|(simp[aX];done)|simp[aX, *]))) ?_
 refine ah (qz ·) ?_
 refine ah (nH ·) ?_
 refine aM ?_
 show ai _ _=_
 exact yfs
theorem xm{m:List Nat}{τ τ':Fr}{H H':av}(h2:H=H')(h:fw τ τ':=by
 repeat (first|exact cw _|refine cg ?_ (by first|rfl|(simp[aX];done)|simp[aX, *]))):Rt m τ H τ' H':=Rt.end h h2
theorem xl{p:Prop}(h:p:=by
 first|rfl|(simp only[cP,Nat.reduceAdd,↓reduceIte,Nat.reduceEqDiff];first|done|rfl)):p:=h
theorem js8(l:List Int)(f i:Int)(hf:0≤f∧f≤1000000)(hi:0≤i∧i≤1000000)(hl:l.length≤maxLen):tq prog 125 [ae l,.dC (.func 67) [] [.fp [iD f] 0,.fp [iD i] 0]] (fun r=>∃z:Int,r= .d (iD z)∧(0≤z↔l.any (n8 (f+i))=true)):=by
 unfold maxLen at hl
 refine I3 (fn:=f125) (by kernel_rfl) func125 rfl (cn rfl) fun c hc hp=>?_
 refine dY (τ':=aF [(0,.d (ae l)),(1,.d (.dC (.func 67) [] [.fp [iD f] 0,.fp [iD i] 0]))]) (by repeat (first|exact cw _|refine cg ?_ (by first|rfl|(simp[aX];done)|simp[aX, *]))) ?_
 refine ah (qz ·) ?_
 refine aD fun K2 bS=>?_
 refine ah (nH ·) ?_
 refine aW ?_
 refine cU hp (fun τ' H' mm=>∃k,(k≤l.length∧(l.take k).any (n8 (f+i))=false)∧mm=l.length - k∧H'=[]∧τ'=aF [(0,.d (ae l)),(1,.d (.dC (.func 67) [] [.fp [iD f] 0,.fp [iD i] 0])),(7,.d (iD l.length)),(8,.d (iD k))]) (l.length) ?_ ⟨0,⟨cF _,rfl⟩,rfl,rfl,rfl⟩ ?_
 ·refine xm ?_
  exact xl
 rintro τ' H' mm ⟨k,⟨hk,gq⟩,rfl,rfl,rfl⟩
 refine ah (nH ·) ?_
 refine aD fun K5 dx=>?_
 refine bf rfl (fun ht=>?_) (fun ht=>?_)
 ·have aA:k<l.length:=by simp at ht;omega
  refine bg (dx _ _ ?_)
  refine aD fun K6 cK=>?_
  refine aW ?_
  refine ah (qz ·) ?_
  refine aZ hp ax hc rfl fun K8 dP=>?_
  refine nH ?_
  refine jgo (fi:=[]) (ca:=[.fp [iD f] 0,.fp [iD i] 0]) (ds:=[iD (nth l k)]) (yaf (nth l k) f i hf hi) rfl ?_
  refine nH ?_
  refine dP _ _ ?_
  refine bf rfl (fun ht=>?_) (fun ht=>?_)
  ·have hy:=ht
   refine ah (qz ·) ?_
   refine aM ?_
   show ∃r,ai _ _=some r∧_
   refine vD ?_
   exact⟨_,rfl,_,rfl,fun _=>jc6 aA hy,fun _=>by omega⟩
  ·refine bg (cK _ _ ?_)
   refine bT hp ax hc rfl fun j4 bW=>?_
   refine nH ?_
   refine bW _ _ ⟨_,_,_,?_,⟨k+1,⟨by omega,by rw[jc7 aA,gq,ht];rfl⟩,rfl,rfl,rfl⟩,?_⟩
   ·first|omega|(simp only[List.length_cons];omega)|(dsimp only;omega)
   ·refine xm ?_
    exact xl
 ·have uG:k=l.length:=by simp at ht;omega
  rw[uG,List.take_length]at gq
  refine cJ (bS _ _ ?_)
  refine ah (qz ·) ?_
  refine aM ?_
  show ∃r,ai _ _=some r∧_
  refine vD ?_
  exact⟨_,rfl,_,rfl,fun h=>by omega,fun h=>by rw[gq]at h;cases h⟩
theorem Mo(l:List Int)(f i:Int)(hf:0≤f∧f≤1000000)(hi:0≤i∧i≤1000000)(hl:l.length≤maxLen):dq prog 68 [ae l,.dC (.func 67) [] [.fp [iD f] 0,.fp [iD i] 0]] (.d (oD (l.any (n8 (f+i))))):=by
 refine fh (fn:=f68) (by kernel_rfl) func68 rfl (cn rfl) fun c hc hp=>?_
 refine dY (τ':=aF [(0,.d (ae l)),(1,.d (.dC (.func 67) [] [.fp [iD f] 0,.fp [iD i] 0]))]) (by repeat (first|exact cw _|refine cg ?_ (by first|rfl|(simp[aX];done)|simp[aX, *]))) ?_
 refine ah (qz ·) ?_
 refine aZ hp ax hc rfl fun K2 bS=>?_
 refine nH ?_
 refine joe (js8 l f i hf hi hl) rfl fun r hr=>?_
 obtain⟨z,rfl,hz⟩:=hr
 refine nH ?_
 refine bS _ _ ?_
 refine aM ?_
 show ai _ _=_
 refine vD ?_
 congr 4
 rw[Bool.eq_iff_iff,decide_eq_true_iff]
 exact hz
theorem js9(l:List Int)(hl:l.length≤maxLen):tq prog 125 [ae l,.val (.func (.func 69) #[] #[])] (fun r=>∃z:Int,r= .d (iD z)∧(0≤z↔l.any (fun x=>x !=0)=true)):=by
 unfold maxLen at hl
 refine I3 (fn:=f125) (by kernel_rfl) func125 rfl (cn rfl) fun c hc hp=>?_
 refine dY (τ':=aF [(0,.d (ae l)),(1,.d (.val (.func (.func 69) #[] #[])))]) (by repeat (first|exact cw _|refine cg ?_ (by first|rfl|(simp[aX];done)|simp[aX, *]))) ?_
 refine ah (qz ·) ?_
 refine aD fun K2 bS=>?_
 refine ah (nH ·) ?_
 refine aW ?_
 refine cU hp (fun τ' H' mm=>∃k,(k≤l.length∧(l.take k).any (fun x=>x !=0)=false)∧mm=l.length - k∧H'=[]∧τ'=aF [(0,.d (ae l)),(1,.d (.val (.func (.func 69) #[] #[]))),(7,.d (iD l.length)),(8,.d (iD k))]) (l.length) ?_ ⟨0,⟨cF _,rfl⟩,rfl,rfl,rfl⟩ ?_
 ·refine xm ?_
  exact xl
 rintro τ' H' mm ⟨k,⟨hk,gq⟩,rfl,rfl,rfl⟩
 refine ah (nH ·) ?_
 refine aD fun K5 dx=>?_
 refine bf rfl (fun ht=>?_) (fun ht=>?_)
 ·have aA:k<l.length:=by simp at ht;omega
  refine bg (dx _ _ ?_)
  refine aD fun K6 cK=>?_
  refine aW ?_
  refine ah (qz ·) ?_
  refine aZ hp ax hc rfl fun K8 dP=>?_
  refine nH ?_
  refine bx (yag (nth l k)) rfl ?_
  refine nH ?_
  refine dP _ _ ?_
  refine bf rfl (fun ht=>?_) (fun ht=>?_)
  ·have hy:(fun x:Int=>x !=0) (nth l k)=true:=ht
   refine ah (qz ·) ?_
   refine aM ?_
   show ∃r,ai _ _=some r∧_
   refine vD ?_
   exact⟨_,rfl,_,rfl,fun _=>jc6 aA hy,fun _=>by omega⟩
  ·refine bg (cK _ _ ?_)
   refine bT hp ax hc rfl fun j4 bW=>?_
   refine nH ?_
   refine bW _ _ ⟨_,_,_,?_,⟨k+1,⟨by omega,by rw[jc7 aA,gq];simpa using ht⟩,rfl,rfl,rfl⟩,?_⟩
   ·first|omega|(simp only[List.length_cons];omega)|(dsimp only;omega)
   ·refine xm ?_
    exact xl
 ·have uG:k=l.length:=by simp at ht;omega
  rw[uG,List.take_length]at gq
  refine cJ (bS _ _ ?_)
  refine ah (qz ·) ?_
  refine aM ?_
  show ∃r,ai _ _=some r∧_
  refine vD ?_
  exact⟨_,rfl,_,rfl,fun h=>by omega,fun h=>by rw[gq]at h;cases h⟩
theorem SF(l:List Int)(hl:l.length≤maxLen):dq prog 68 [ae l,.val (.func (.func 69) #[] #[])] (.d (oD (l.any fun x=>x !=0))):=by
 refine fh (fn:=f68) (by kernel_rfl) func68 rfl (cn rfl) fun c hc hp=>?_
 refine dY (τ':=aF [(0,.d (ae l)),(1,.d (.val (.func (.func 69) #[] #[])))]) (by repeat (first|exact cw _|refine cg ?_ (by first|rfl|(simp[aX];done)|simp[aX, *]))) ?_
 refine ah (qz ·) ?_
 refine aZ hp ax hc rfl fun K2 bS=>?_
 refine nH ?_
 refine joe (js9 l hl) rfl fun r hr=>?_
 obtain⟨z,rfl,hz⟩:=hr
 refine nH ?_
 refine bS _ _ ?_
 refine aM ?_
 show ai _ _=_
 refine vD ?_
 congr 4
 rw[Bool.eq_iff_iff,decide_eq_true_iff]
 exact hz
theorem OB{m k:Nat}{l:List Gate}(h:Iu m l)(hk:k<l.length):nD (m+k) (nth l k):=h k hk
theorem si{p q:Prop}(hq:q)(h:p=q:=by
 conv=>lhs;simp -dsimp -implicitDefEqProofs (disch:=first|assumption|omega|(simp only[aH,aQ,bc]<;>omega)|decide) only[aN,↓reduceIte,Nat.reduceEqDiff,Nat.reduceAdd,D.fix,Int.reduceToNat,Nat.reduceMul,Nat.reduceBNe,Nat.reduceBEq,dt,dp,bQ,bt,cr,aY,bw]):p:=h.mpr hq
theorem yx{p q r:Prop}(e:r)(hq:q)(h:r→p=q:=by
 intro hY
 conv=>lhs;simp -dsimp -implicitDefEqProofs (disch:=first|assumption|omega|(simp only[aH,aQ,bc]<;>omega)|decide) only[aN,↓reduceIte,Nat.reduceEqDiff,Nat.reduceAdd,D.fix,Int.reduceToNat,Nat.reduceMul,Nat.reduceBNe,Nat.reduceBEq,dt,dp,bQ,bt,cr,aY,bw,hY]):p:=(h e).mpr hq
theorem OA{p q:Prop}(hq:q)(h:p=q:=by
 conv=>lhs;simp -dsimp -implicitDefEqProofs (disch:=first|assumption|omega|(simp only[aH,aQ,bc]<;>omega)|decide) only[aN,↓reduceIte,Nat.reduceEqDiff,Nat.reduceAdd,D.fix,Int.reduceToNat,Nat.reduceMul,Nat.reduceBNe,Nat.reduceBEq,dt,dp,bQ,bt,cr,aY]):p:=h.mpr hq
theorem xh(k:List Nat){m:List Nat}{τ τ1:Fr}{H H1:av}(h:Rt m (fun t=>du k (τ t)) (dg k H) τ1 H1)(a:∀i∈m,k[i]? =some i:=by decide)(b:k.Nodup:=by decide)(c:∀i∈k,i<H.length:=by
 simp[eJ,dg]):Rt m τ H τ1 H1:=Rt.trans (Rt.gc a b c) h
theorem xg{m:List Nat}{τ τ':Fr}{H H':av}(h2:H=H')(h:fw τ τ':=by
 repeat (first|exact cw _|refine cg ?_ (by first|rfl|(simp[aX,aQ,bc];done)|simp[aX,aQ,bc, *]))):Rt m τ H τ' H':=Rt.end h h2
theorem Zs{p q:Prop}(hq:q)(h:p=q:=by
 conv=>lhs;simp -dsimp -implicitDefEqProofs (disch:=first|assumption|omega|(simp only[aH,aQ,bc]<;>omega)|decide) only[aN,↓reduceIte,Nat.reduceEqDiff,Nat.reduceAdd,D.fix,Int.reduceToNat,Nat.reduceMul,Nat.reduceBNe,Nat.reduceBEq,dt,dp,bQ,bt,cr,aY,vd,rL,bw]):p:=h.mpr hq
theorem jta{p q:Prop}(hq:q)(h:p=q:=by
 conv=>lhs;simp -dsimp -implicitDefEqProofs (disch:=first|assumption|omega|(simp only[aH,aQ,bc]<;>omega)|decide) only[aN,↓reduceIte,Nat.reduceEqDiff,Nat.reduceAdd,D.fix,Int.reduceToNat,Nat.reduceMul,Nat.reduceBNe,Nat.reduceBEq,dt,dp,bQ,bt,cr,aY,ve,qA,bw]):p:=h.mpr hq
theorem jiz{p q:Prop}(hq:q)(h:p=q:=by
 conv=>lhs;simp -dsimp -implicitDefEqProofs (disch:=first|assumption|omega|(simp only[aH,aQ,bc]<;>omega)|decide) only[aN,↓reduceIte,Nat.reduceEqDiff,Nat.reduceAdd,D.fix,Int.reduceToNat,Nat.reduceMul,Nat.reduceBNe,Nat.reduceBEq,dt,dp,bQ,bt,cr,aY,db,bw]):p:=h.mpr hq
theorem ji0{p q r:Prop}(e:r)(hq:q)(h:r→p=q:=by
 intro hY
 conv=>lhs;simp -dsimp -implicitDefEqProofs (disch:=first|assumption|omega|(simp only[aH,aQ,bc]<;>omega)|decide) only[aN,↓reduceIte,Nat.reduceEqDiff,Nat.reduceAdd,D.fix,Int.reduceToNat,Nat.reduceMul,Nat.reduceBNe,Nat.reduceBEq,dt,dp,bQ,bt,cr,aY,db,db,bw,hY]):p:=(h e).mpr hq
theorem xf{p:Prop}(h:p:=by
 first|rfl|(simp only[cP,Nat.reduceAdd,↓reduceIte,Nat.reduceEqDiff,dt,dp,bQ,bt,cr,aY];first|done|rfl)):p:=h
theorem Xt{p:Prop}(h:p:=by
 simp (disch:=first|assumption|omega|(simp only[aH,aQ,bc]<;>omega)|decide) only[fA,Nat.reduceAdd,D.fix,↓reduceIte,Nat.reduceEqDiff,dt,dp,bQ,bt,cr,aY]):p:=h
theorem ji1(n:Net)(h:uR n):dq prog 14 [dt n] (.d (oD true)):=by
 have hlen:=h.len
 have CA:=h.d0
 have qe:=h.dl
 have q0:decide ((600:Int)<2+n.ins.length+n.gates.length)=false:=decide_eq_false (by omega)
 have q1:((n.out.length:Int) !=n.aP.length)=false:=by simp;omega
 refine fh (fn:=f14) (by kernel_rfl) func14 rfl (cn rfl) fun c hc hp=>?_
 refine dY (τ':=aF [(0,.d (dt n))]) (by repeat (first|exact cw _|refine cg ?_ (by first|rfl|(simp[aX,aQ,bc];done)|simp[aX,aQ,bc, *]))) ?_
 refine ah (si ·) ?_
 refine ah (si ·) ?_
 refine ah (si ·) ?_
 refine aD fun K4 dE=>?_
 refine ah (yx (aw q0 q1) ·) ?_
 refine bA ?_
 refine bg (dE _ _ ?_)
 refine ah (OA ·) ?_
 refine aD fun K7 cL=>?_
 refine ah (si ·) ?_
 refine aW ?_
 refine cU hp (fun τ' H' mm=>∃(k:Nat),(k≤n.ins.length)∧mm=n.ins.length - k∧H'=[.cells (ak (dp n)),.cells [.d (iD (2+n.ins.length))]]∧τ'=aF [(1,.op 0 0),(3,.op 1 0),(4,.d (iD (2+n.ins.length+n.gates.length))),(5,.d (.val (.func (.func 65) #[] #[]))),(36,.d (bQ n.ins)),(37,.d (iD n.ins.length)),(38,.d (iD k))]) (n.ins.length) ?_ ⟨0,cF _,rfl,rfl,rfl⟩ ?_
 ·refine xh [0,1] ?_
  refine xg ?_
  exact xf
 rintro τ' H' mm ⟨k,hk,rfl,rfl,rfl⟩
 refine ah (si ·) ?_
 refine aD fun j4 bW=>?_
 refine bf rfl (fun ht=>?_) (fun ht=>?_)
 ·have aA:k<n.ins.length:=by simp at ht;omega
  have hw:=h.wi _ (ll aA)
  have q2:decide ((nth n.ins k).kind<1)=false:=decide_eq_false (by have:=hw.k1;omega)
  have q3:decide (4<(nth n.ins k).kind)=false:=decide_eq_false (by have:=hw.k4;omega)
  refine bg (bW _ _ ?_)
  refine aD fun mh cQ=>?_
  refine aW ?_
  refine ah (Zs ·) ?_
  refine aZ hp ax hc rfl fun nV df=>?_
  refine yx (aw q2 q3) ?_
  refine bx (OC (nth n.ins k) hw.i0 hw.b0 hw.b7) rfl ?_
  refine yx (aw q2 q3) ?_
  refine df _ _ ?_
  refine bA ?_
  refine bg (cQ _ _ ?_)
  refine bT hp ax hc rfl fun re dT=>?_
  refine si ?_
  refine dT _ _ ⟨_,_,_,?_,⟨k+1,by omega,rfl,rfl,rfl⟩,?_⟩
  ·first|omega|(simp only[List.length_cons];omega)|(dsimp only;omega)
  ·refine xh [0,1] ?_
   refine xg ?_
   exact xf
 ·refine cJ (cL _ _ ?_)
  refine aD fun sY eG=>?_
  refine ah (si ·) ?_
  refine aW ?_
  refine cU hp (fun τ' H' mm=>∃(k:Nat),(k≤n.gates.length)∧mm=n.gates.length - k∧H'=[.cells (ak (dp n)),.cells [.d (iD (2+n.ins.length))]]∧τ'=aF [(1,.op 0 0),(3,.op 1 0),(4,.d (iD (2+n.ins.length+n.gates.length))),(5,.d (.val (.func (.func 65) #[] #[]))),(58,.d (bt n.gates)),(59,.d (iD n.gates.length)),(60,.d (iD k))]) (n.gates.length) ?_ ⟨0,cF _,rfl,rfl,rfl⟩ ?_
  ·refine xh [0,1] ?_
   refine xg ?_
   exact xf
  rintro τ' H' mm ⟨k,hk,rfl,rfl,rfl⟩
  refine ah (si ·) ?_
  refine aD fun zD iW=>?_
  refine bf rfl (fun ht=>?_) (fun ht=>?_)
  ·have aA:k<n.gates.length:=by simp at ht;omega
   have hg:=OB h.g2 aA
   have hv:=h.gv _ (ll aA)
   have hu:=js6 hg
   have hr:=yae hg.o1 hg.o2 hv
   have pg:=Fa hg.o1 hg.o2
   have Em:(gj (nth n.gates k)).length≤maxLen:=by unfold gj;rw[List.length_take];simp;unfold maxLen;omega
   have Py:(o5 (nth n.gates k)).length≤maxLen:=by unfold o5;rw[List.length_drop];simp;unfold maxLen;omega
   have nQ:=Mo (gj (nth n.gates k)) (2+n.ins.length) k (by omega) (by omega) Em
   rw[show((2:Int)+n.ins.length+k)=((2+n.ins.length+k:Nat):Int) by omega,hu]at nQ
   have CC:=SF (o5 (nth n.gates k)) Py
   rw[hr]at CC
   have q4:decide ((nth n.gates k).n<0)=false:=decide_eq_false (by have:=hg.n0;omega)
   have q5:decide (63<(nth n.gates k).n)=false:=decide_eq_false (by have:=hv.m;omega)
   refine bg (iW _ _ ?_)
   refine aD fun rY eN=>?_
   refine aW ?_
   refine ah (jta ·) ?_
   refine aZ hp ax hc rfl fun yj im=>?_
   refine si ?_
   refine bx (Dp (nth n.gates k) hg.o1 hg.o2) rfl ?_
   refine si ?_
   refine im _ _ ?_
   refine ah (OA ·) ?_
   refine aD fun vA fM=>?_
   refine aZ hp ax hc rfl fun yh fG=>?_
   refine yx pg ?_
   refine BB (nQ) ?_ ?_
   ·exact Xt
   refine yx pg ?_
   refine bx (CC) rfl ?_
   refine yx pg ?_
   refine fG _ _ ?_
   refine bA ?_
   refine bg (fM _ _ ?_)
   refine aZ hp ax hc rfl fun C0 jY=>?_
   have CP:∀τ' H',(∃τ1 H1,H1=[.cells (ak (dp n)),.cells [.d (iD (2+n.ins.length))]]∧τ1=aF [(1,.op 0 0),(3,.op 1 0),(4,.d (iD (2+n.ins.length+n.gates.length))),(5,.d (.val (.func (.func 65) #[] #[]))),(58,.d (bt n.gates)),(59,.d (iD n.gates.length)),(60,.d (iD k)),(100,.d (oD false))]∧Rt [] τ' H' τ1 H1)→C0 τ' H':=by
    rintro τ' H' ⟨_,_,rfl,rfl,qL⟩
    refine jY _ _ (bC hp qL ?_)
    clear qL
    refine bA ?_
    refine bg (eN _ _ ?_)
    refine bT hp ax hc rfl fun EJ lE=>?_
    refine si ?_
    refine lE _ _ ⟨_,_,_,?_,⟨k+1,by omega,rfl,rfl,rfl⟩,?_⟩
    ·first|omega|(simp only[List.length_cons];omega)|(dsimp only;omega)
    ·refine xh [0,1] ?_
     refine xg ?_
     exact xf
   rcases(show(nth n.gates k).op≠7∨((nth n.gates k).op=7∧¬0<(nth n.gates k).n)∨((nth n.gates k).op=7∧0<(nth n.gates k).n) by omega)with q7|⟨q7,q8⟩|⟨q7,q8⟩
   ·have q6:decide (0<(nth n.gates k).n)=false:=decide_eq_false (by have:=hv.n q7;omega)
    have q9:=q6
    refine yx (aw q4 (aw q5 (aw q6 q9))) ?_
    refine(CP _ _ ⟨_,_,rfl,rfl,?_⟩)
    refine xh [0,1] ?_
    refine xg ?_
    exact xf
   ·have q6:decide (0<(nth n.gates k).n)=false:=decide_eq_false q8
    have q9:=q6
    refine yx (aw q4 (aw q5 (aw q6 q9))) ?_
    refine(CP _ _ ⟨_,_,rfl,rfl,?_⟩)
    refine xh [0,1] ?_
    refine xg ?_
    exact xf
   ·have q6:decide (0<(nth n.gates k).n)=true:=decide_eq_true q8
    have q9:((nth n.gates k).op !=7)=false:=by rw[q7];rfl
    refine yx (aw q4 (aw q5 (aw q6 q9))) ?_
    refine(CP _ _ ⟨_,_,rfl,rfl,?_⟩)
    refine xh [0,1] ?_
    refine xg ?_
    exact xf
  ·refine cJ (eG _ _ ?_)
   refine aD fun Is nv=>?_
   refine ah (si ·) ?_
   refine aW ?_
   refine cU hp (fun τ' H' mm=>∃(k:Nat),(k≤n.out.length)∧mm=n.out.length - k∧H'=[.cells (ak (dp n))]∧τ'=aF [(1,.op 0 0),(4,.d (iD (2+n.ins.length+n.gates.length))),(5,.d (.val (.func (.func 65) #[] #[]))),(103,.d (bQ n.out)),(104,.d (iD n.out.length)),(105,.d (iD k))]) (n.out.length) ?_ ⟨0,cF _,rfl,rfl,rfl⟩ ?_
   ·refine xh [0] ?_
    refine xg ?_
    exact xf
   rintro τ' H' mm ⟨k,hk,rfl,rfl,rfl⟩
   refine ah (si ·) ?_
   refine aD fun Bj jE=>?_
   refine bf rfl (fun ht=>?_) (fun ht=>?_)
   ·have aA:k<n.out.length:=by simp at ht;omega
    have hw:=h.wo _ (ll aA)
    have hdk:=h.d2 k (by omega)
    have q2:decide (nth n.aP k<0)=false:=decide_eq_false (by omega)
    have q3:decide (2+(n.ins.length:Int)+n.gates.length≤nth n.aP k)=false:=decide_eq_false (by omega)
    refine bg (jE _ _ ?_)
    refine aD fun zC ij=>?_
    refine aW ?_
    refine ah (Zs ·) ?_
    refine aZ hp ax hc rfl fun EI lD=>?_
    rcases hw.k with q|⟨q,q'⟩
    ·have q4:((nth n.out k).kind !=1)=false:=by rw[q];rfl
     have q5:=q4
     have q6:=q4
     refine jiz ?_
     refine bx (OC (nth n.out k) hw.i0 hw.b0 hw.b7) rfl ?_
     refine ji0 (aw q2 (aw q3 (aw q4 (aw q5 q6)))) ?_
     refine lD _ _ ?_
     refine bA ?_
     refine bg (ij _ _ ?_)
     refine bT hp ax hc rfl fun Bi jD=>?_
     refine si ?_
     refine jD _ _ ⟨_,_,_,?_,⟨k+1,by omega,rfl,rfl,rfl⟩,?_⟩
     ·first|omega|(simp only[List.length_cons];omega)|(dsimp only;omega)
     ·refine xh [0] ?_
      refine xg ?_
      exact xf
    ·have q4:decide ((nth n.out k).kind<5)=false:=decide_eq_false (by omega)
     have q5:decide (10<(nth n.out k).kind)=false:=decide_eq_false (by omega)
     have q6:((nth n.out k).kind !=1)=true:=by simp;omega
     refine jiz ?_
     refine bx (OC (nth n.out k) hw.i0 hw.b0 hw.b7) rfl ?_
     refine ji0 (aw q2 (aw q3 (aw q4 (aw q5 q6)))) ?_
     refine lD _ _ ?_
     refine bA ?_
     refine bg (ij _ _ ?_)
     refine bT hp ax hc rfl fun CZ kr=>?_
     refine si ?_
     refine kr _ _ ⟨_,_,_,?_,⟨k+1,by omega,rfl,rfl,rfl⟩,?_⟩
     ·first|omega|(simp only[List.length_cons];omega)|(dsimp only;omega)
     ·refine xh [0] ?_
      refine xg ?_
      exact xf
   ·refine cJ (nv _ _ ?_)
    refine ah (OA ·) ?_
    refine aM ?_
    show ai _ _=_
    exact Xt
theorem Dd{o:Int}(h1:1≤o)(h2:o≤7):dq prog 70 [iD o] (.d (iD (jy o:Nat))):=by
 refine fh (fn:=f70) (by kernel_rfl) func70 rfl (cn rfl) fun c hc hp=>?_
 refine dY (τ':=aF [(0,.d (iD o))]) (by repeat (first|exact cw _|refine cg ?_ (by first|rfl|(simp[aX];done)|simp[aX, *]))) ?_
 refine ah (qz ·) ?_
 refine aD fun K2 bS=>?_
 refine ah (qz ·) ?_
 refine aW ?_
 refine ah (nH ·) ?_
 refine bf rfl (fun ht=>?_) (fun ht=>?_)
 ·have e:o=1:=by simpa using ht
  refine ah (qz ·) ?_
  refine aM ?_
  show ai _ _=_
  refine vD ?_
  subst e;rfl
 ·have n1:o≠1:=by simpa using ht
  refine aD fun K6 cK=>?_
  have QD:∀τ' H',(∃τ1 H1,∃(b:Bool),(b=true↔o≤4)∧H1=[]∧τ1=aF [(3,.d (iD o)),(6,.d (oD b))]∧Rt [] τ' H' τ1 H1)→K6 τ' H':=by
   rintro τ' H' ⟨_,_,b,hb,rfl,rfl,qL⟩
   refine cK _ _ (bC hp qL ?_)
   clear qL
   refine bf rfl (fun ht=>?_) (fun ht=>?_)
   ·have e4:o≤4:=hb.1 ht
    refine ah (qz ·) ?_
    refine aM ?_
    show ai _ _=_
    refine vD ?_
    simp[jy,e4,n1]
   ·have e4:¬o≤4:=fun e=>by rw[hb.2 e]at ht;cases ht
    refine aD fun K8 dP=>?_
    have QC:∀τ' H',(∃τ1 H1,∃(b:Bool),(b=true)∧H1=[]∧τ1=aF [(3,.d (iD o)),(10,.d (oD b))]∧Rt [] τ' H' τ1 H1)→K8 τ' H':=by
     rintro τ' H' ⟨_,_,b,hb6,rfl,rfl,qL⟩
     refine dP _ _ (bC hp qL ?_)
     clear qL
     refine bf rfl (fun ht=>?_) (fun ht=>?_)
     ·refine ah (qz ·) ?_
      refine aM ?_
      show ai _ _=_
      refine vD ?_
      simp[jy,e4,n1]
     ·rw[hb6]at ht;cases ht
    refine ah (nH ·) ?_
    refine bf rfl (fun ht=>?_) (fun ht=>?_)
    ·refine bg (QC _ _ ⟨_,_,true,rfl,rfl,rfl,?_⟩)
     refine xm ?_
     exact xl
    ·have n5:o≠5:=by simpa using ht
     refine ah (nH ·) ?_
     refine bf rfl (fun ht=>?_) (fun ht=>?_)
     ·refine bg (QC _ _ ⟨_,_,true,rfl,rfl,rfl,?_⟩)
      refine xm ?_
      exact xl
     ·have n6:o≠6:=by simpa using ht
      refine bT hp ax hc rfl fun lK bN=>?_
      refine nH ?_
      refine bN _ _ (QC _ _ ⟨_,_,(o==7),by(have n5:o≠5:=(by assumption));(have n6:o≠6:=(by assumption));simp;omega,rfl,rfl,?_⟩)
      refine xm ?_
      exact xl
  refine ah (nH ·) ?_
  refine bf rfl (fun ht=>?_) (fun ht=>?_)
  ·refine bg (QD _ _ ⟨_,_,true,by(have e:o=2:=(by simpa using ht));simp[e],rfl,rfl,?_⟩)
   refine xm ?_
   exact xl
  ·have n2:o≠2:=by simpa using ht
   refine ah (nH ·) ?_
   refine bf rfl (fun ht=>?_) (fun ht=>?_)
   ·refine bg (QD _ _ ⟨_,_,true,by(have e:o=3:=(by simpa using ht));simp[e],rfl,rfl,?_⟩)
    refine xm ?_
    exact xl
   ·have n3:o≠3:=by simpa using ht
    refine bT hp ax hc rfl fun sY eG=>?_
    refine nH ?_
    refine eG _ _ (QD _ _ ⟨_,_,(o==4),by(have n2:o≠2:=(by assumption));(have n3:o≠3:=(by assumption));simp;omega,rfl,rfl,?_⟩)
    refine xm ?_
    exact xl
theorem LK{p q:Prop}(hq:q)(h:p=q:=by
 conv=>lhs;simp -dsimp -implicitDefEqProofs (disch:=first|assumption|omega|(simp only[aH,aQ]<;>omega)|decide) only[aN,↓reduceIte,Nat.reduceEqDiff,Nat.reduceAdd,D.fix,Int.reduceToNat,Nat.reduceMul,Nat.reduceBNe,Nat.reduceBEq,bQ,vd,rL,cr,mY]):p:=h.mpr hq
theorem LJ{p q:Prop}(hq:q)(h:p=q:=by
 conv=>lhs;simp -dsimp -implicitDefEqProofs (disch:=first|assumption|omega|(simp only[aH,aQ]<;>omega)|decide) only[aN,↓reduceIte,Nat.reduceEqDiff,Nat.reduceAdd,D.fix,Int.reduceToNat,Nat.reduceMul,Nat.reduceBNe,Nat.reduceBEq,bQ,vd,rL,cr,mY,bw]):p:=h.mpr hq
theorem Xs{m:List Nat}{τ τ':Fr}{H H':av}(h2:H=H')(h:fw τ τ':=by
 repeat (first|exact cw _|refine cg ?_ (by first|rfl|(simp[aX,aQ];done)|simp[aX,aQ, *]))):Rt m τ H τ' H':=Rt.end h h2
theorem Xr{p:Prop}(h:p:=by
 first|rfl|(simp only[cP,Nat.reduceAdd,↓reduceIte,Nat.reduceEqDiff,bQ,vd,rL,cr,mY];first|done|rfl)):p:=h
theorem ji2(l:List aT)(hl:l.length≤1000000):dq prog 20 [bQ l,bQ l] (.d (oD true)):=by
 refine fh (fn:=f20) (by kernel_rfl) func20 rfl (cn rfl) fun c hc hp=>?_
 refine dY (τ':=aF [(0,.d (bQ l)),(1,.d (bQ l))]) (by repeat (first|exact cw _|refine cg ?_ (by first|rfl|(simp[aX,aQ];done)|simp[aX,aQ, *]))) ?_
 refine ah (LK ·) ?_
 refine aD fun K2 bS=>?_
 refine ah (LJ ·) ?_
 refine bf rfl (fun ht=>?_) (fun ht=>?_)
 ·simp at ht
 ·refine bg (bS _ _ ?_)
  refine aD fun K4 dE=>?_
  refine ah (LK ·) ?_
  refine aW ?_
  refine cU hp (fun τ' H' mm=>∃(k:Nat),(k≤l.length)∧mm=l.length - k∧H'=[]∧τ'=aF [(0,.d (bQ l)),(1,.d (bQ l)),(5,.d (iD k))]) (l.length) ?_ ⟨0,cF _,rfl,rfl,rfl⟩ ?_
  ·refine Xs ?_
   exact Xr
  rintro τ' H' mm ⟨k,hk,rfl,rfl,rfl⟩
  refine aD fun K6 cK=>?_
  refine ah (LJ ·) ?_
  refine bf rfl (fun ht=>?_) (fun ht=>?_)
  ·have aA:k<l.length:=by simp at ht;omega
   refine bg (cK _ _ ?_)
   refine aD fun K8 dP=>?_
   refine aW ?_
   refine dO ax hc mixed rfl (q:=0) (by kernel_rfl) (by kernel_rfl) fun K9 cX=>?_
   simp -dsimp -implicitDefEqProofs (disch:=first|assumption|omega|(simp only[aH,aQ]<;>omega)|decide) only[aN,↓reduceIte,Nat.reduceEqDiff,Nat.reduceAdd,D.fix,Int.reduceToNat,Nat.reduceMul,Nat.reduceBNe,Nat.reduceBEq,bQ,vd,rL,cr,mY,bw,z7 KR,z7 KR]
   refine cX _ _ ?_
   refine bf rfl (fun ht=>?_) (fun ht=>?_)
   ·simp at ht
   ·refine bg (dP _ _ ?_)
    refine bT hp ax hc rfl fun j4 bW=>?_
    refine LJ ?_
    refine bW _ _ ⟨_,_,_,?_,⟨k+1,by omega,rfl,rfl,rfl⟩,?_⟩
    ·first|omega|(simp only[List.length_cons];omega)|(dsimp only;omega)
    ·refine Xs ?_
     exact Xr
  ·refine cJ (dE _ _ ?_)
   refine ah (LK ·) ?_
   refine aM ?_
   show ai _ _=_
   simp (disch:=first|assumption|omega|(simp only[aH,aQ]<;>omega)|decide) only[fA,Nat.reduceAdd,D.fix,↓reduceIte,Nat.reduceEqDiff,bQ,vd,rL,cr,mY]
def vn(a b:Int):Int:=if a<b then -1 else if b<a then 1 else 0
def py(l:List Int)(g:Gate):Int:=1+max (max (nth l g.a.toNat) (nth l g.b.toNat)) (nth l g.c.toNat)
def lH(l:List Int)(gs:List Gate):List Int:=gs.foldl (fun l g=>l++[py l g]) l
def nR(n:Net):List Int:=lH (List.replicate (2+n.ins.length) 0) n.gates
def ED(l:List Int)(ds:List Int):Int:=ds.foldl (fun m x=>max m (nth l x.toNat)) 0
def M3(n:Net):Int:=ED (nR n) n.aP
theorem jtb(l:List Int)(a b:List Gate):lH l (a++b)=lH (lH l a) b:=by unfold lH;rw[List.foldl_append]
theorem jc8(l:List Int){gs:List Gate}{k:Nat}(h:k<gs.length):lH l (gs.take (k+1))=lH l (gs.take k)++[py (lH l (gs.take k)) (nth gs k)]:=by rw[vQ h,jtb];rfl
theorem kW:∀(gs:List Gate) (l:List Int),(lH l gs).length=l.length+gs.length
 |[],l=>rfl
 |g::gs,l=>by show(lH (l++[py l g]) gs).length=_;rw[kW gs];simp;omega
theorem ji3:∀(gs:List Gate) (l:List Int),∃t,lH l gs=l++t
 |[],l=>⟨[],by simp[lH]⟩
 |g::gs,l=>by
  obtain⟨t,ht⟩:=ji3 gs (l++[py l g])
  exact⟨py l g::t,by show lH (l++[py l g]) gs=_;rw[ht];simp⟩
theorem jc9(l:List Int){ds:List Int}{k:Nat}(h:k<ds.length):ED l (ds.take (k+1))=max (ED l (ds.take k)) (nth l (nth ds k).toNat):=by unfold ED;rw[vQ h,List.foldl_append];rfl
theorem VS(m j:Nat):nth (List.replicate m (0:Int)) j=0:=by unfold nth;simp[fZ,List.getElem?_replicate];split<;>rfl
theorem jtc{l:List Int}{j:Nat}(h:l.length≤j):nth l j=0:=by unfold nth;simp[fZ,List.getElem?_eq_none h]
theorem Xq(m:Nat):∀(gs:List Gate) (l:List Int) (K:Nat),(∀j,0≤nth l j∧nth l j≤(K:Int))→∀j,0≤nth (lH l gs) j∧nth (lH l gs) j≤((K+gs.length:Nat):Int)
 |[],l,K,h,j=>h j
 |g::gs,l,K,h,j=>by
  have:=Xq m gs (l++[py l g]) (K+1) (fun j=>by
   have ha:=h g.a.toNat;have hb:=h g.b.toNat;have hc:=h g.c.toNat
   by_cases e:j<l.length
   ·unfold nth;rw[fZ,iw e,←fZ];have:=h j;unfold nth at this;omega
   ·by_cases e2:j=l.length
    ·subst e2
     have:nth (l++[py l g]) l.length=py l g:=by unfold nth;simp[fZ]
     rw[this];unfold py;omega
    ·rw[jtc (by simp;omega)];omega) j
  rw[show lH l (g::gs)=lH (l++[py l g]) gs from rfl]
  simp only[List.length_cons];omega
theorem KM(n:Net)(k:Nat)(j:Nat):0≤nth (lH (List.replicate (2+n.ins.length) 0) (n.gates.take k)) j∧nth (lH (List.replicate (2+n.ins.length) 0) (n.gates.take k)) j≤(k:Int):=by
 have:=Xq 0 (n.gates.take k) (List.replicate (2+n.ins.length) 0) 0 (fun j=>by rw[VS];simp) j
 rw[List.length_take]at this;omega
theorem Xp(n:Net)(k:Nat):nth (lH (List.replicate (2+n.ins.length) 0) (n.gates.take k)) 0=0:=by
 obtain⟨t,ht⟩:=ji3 (n.gates.take k) (List.replicate (2+n.ins.length) 0)
 rw[ht];unfold nth
 rw[fZ,iw (by simp;omega)]
 have:=VS (2+n.ins.length) 0
 unfold nth at this;rwa[fZ]at this
def pc(l us:List Int):Nat→Int
 |0=>nth us 0
 |k+1=>if 0<vn (nth l (nth us k).toNat) (nth l (pc l us k).toNat)then nth us k else pc l us k
structure Bh (l us:List Int) (k:Nat) (z:Int):Prop where
 at':∃j,j<k∧z=nth us j
 le:∀j,j<k→nth l (nth us j).toNat≤nth l z.toNat
theorem N4{l us:List Int}:∀k,Bh l us (k+1) (pc l us (k+1))
 |0=>by
  have e:pc l us (0+1)=nth us 0:=by simp[pc,vn]
  rw[e]
  exact⟨⟨0,by omega,rfl⟩,fun j hj=>by rw[show j=0 by omega];exact Int.le_refl _⟩
 |k+1=>by
  have ih:=N4 (l:=l) (us:=us) k
  rw[pc]
  generalize pc l us (k+1)=z at *
  by_cases h:0<vn (nth l (nth us (k+1)).toNat) (nth l z.toNat)
  ·rw[if_pos h]
   have h3:nth l z.toNat≤nth l (nth us (k+1)).toNat:=by
    unfold vn at h
    split at h
    ·omega
    ·split at h<;>omega
   refine⟨⟨k+1,by omega,rfl⟩,fun j hj=>?_⟩
   by_cases e:j=k+1
   ·subst e;exact Int.le_refl _
   ·exact Int.le_trans (ih.le j (by omega)) h3
  ·rw[if_neg h]
   have h3:nth l (nth us (k+1)).toNat≤nth l z.toNat:=by
    unfold vn at h
    split at h
    ·omega
    ·split at h<;>omega
   obtain⟨j0,hj0,e0⟩:=ih.at'
   refine⟨⟨j0,by omega,e0⟩,fun j hj=>?_⟩
   by_cases e:j=k+1
   ·subst e;exact h3
   ·exact ih.le j (by omega)
theorem jme{l:List Int}{g:Gate}{m:Nat}(hg:nD m g)(hv:rh g)(h0:nth l 0=0)(hn:∀j,0≤nth l j){z:Int}(hz:Bh l (gj g) (gj g).length z):1+nth l z.toNat=py l g∧0≤z∧z<m:=by
 obtain⟨⟨j,hj,e⟩,hle⟩:=hz
 have na:=hn g.a.toNat;have nb:=hn g.b.toNat;have nc:=hn g.c.toNat
 have a0:=hg.a0;have a1:=hg.a1;have b0:=hg.b0;have b1:=hg.b1;have c0:=hg.c0;have c1:=hg.c1
 unfold py
 rcases xp hg.o1 hg.o2 with⟨k1,k2⟩|⟨k1,k3,k2⟩|⟨k1,k2⟩
 ·have hu:gj g=[g.a]:=by unfold gj;rw[k2];rfl
  rw[hu]at hj e hle
  have hb:=hv.b k1;have hc:=hv.c (by omega)
  have l0:=hle 0 (by simp)
  have hj0:j=0:=by simpa using hj
  subst hj0
  have e':z=g.a:=e
  rw[hb,hc,Int.toNat_zero,h0,←e']
  rw[←e']at na a0 a1
  omega
 ·have hu:gj g=[g.a,g.b]:=by unfold gj;rw[k2];rfl
  rw[hu]at hj e hle
  have hc:=hv.c k3
  have l0:nth l g.a.toNat≤nth l z.toNat:=hle 0 (by simp)
  have l1:nth l g.b.toNat≤nth l z.toNat:=hle 1 (by simp)
  have vv:j=0∨j=1:=by simp at hj;omega
  rw[hc,Int.toNat_zero,h0]
  rcases vv with rfl|rfl
  ·have e':z=g.a:=e
   subst e';omega
  ·have e':z=g.b:=e
   subst e';omega
 ·have hu:gj g=[g.a,g.b,g.c]:=by unfold gj;rw[k2];rfl
  rw[hu]at hj e hle
  have l0:nth l g.a.toNat≤nth l z.toNat:=hle 0 (by simp)
  have l1:nth l g.b.toNat≤nth l z.toNat:=hle 1 (by simp)
  have l2:nth l g.c.toNat≤nth l z.toNat:=hle 2 (by simp)
  have vv:j=0∨j=1∨j=2:=by simp at hj;omega
  rcases vv with rfl|rfl|rfl
  ·have e':z=g.a:=e
   subst e';omega
  ·have e':z=g.b:=e
   subst e';omega
  ·have e':z=g.c:=e
   subst e';omega
theorem vC{p q:Prop}(hq:q)(h:p=q:=by
 conv=>lhs;simp -dsimp -implicitDefEqProofs (disch:=first|assumption|omega|(simp only[aH]<;>omega)|decide) only[aN,↓reduceIte,Nat.reduceEqDiff,Nat.reduceAdd,D.fix,Int.reduceToNat,Nat.reduceMul,Nat.reduceBNe,Nat.reduceBEq]):p:=h.mpr hq
theorem M1{p:Prop}(h:p:=by
 simp (disch:=first|assumption|omega|(simp only[aH]<;>omega)|decide) only[fA,Nat.reduceAdd,D.fix,↓reduceIte,Nat.reduceEqDiff]):p:=h
theorem Xo(a:Int):dq prog 126 [iD a] (.d (oD false)):=by
 refine fh (fn:=f126) (by kernel_rfl) func126 rfl (cn rfl) fun c hc hp=>?_
 refine dY (τ':=aF [(0,.d (iD a))]) (by repeat (first|exact cw _|refine cg ?_ (by first|rfl|(simp[aX];done)|simp[aX, *]))) ?_
 refine ah (vC ·) ?_
 refine aZ hp ax hc rfl fun K2 bS=>?_
 simp -dsimp -implicitDefEqProofs (disch:=first|assumption|omega|(simp only[aH]<;>omega)|decide) only[aN,↓reduceIte,Nat.reduceEqDiff,Nat.reduceAdd,D.fix,Int.reduceToNat,Nat.reduceMul,Nat.reduceBNe,Nat.reduceBEq,bne_self_eq_false,bw]
 refine bS _ _ ?_
 refine aM ?_
 show ai _ _=_
 exact M1
theorem yo{p q:Prop}(hq:q)(h:p=q:=by
 conv=>lhs;simp -dsimp -implicitDefEqProofs (disch:=first|assumption|omega|(simp only[aH]<;>omega)|decide) only[aN,↓reduceIte,Nat.reduceEqDiff,Nat.reduceAdd,D.fix,Int.reduceToNat,Nat.reduceMul,Nat.reduceBNe,Nat.reduceBEq,bw]):p:=h.mpr hq
theorem M0{p q:Prop}(hq:q)(h:p=q:=by
 conv=>lhs;simp (disch:=first|assumption|omega|(simp only[aH]<;>omega)|decide) only[fA,Nat.reduceAdd,D.fix,↓reduceIte,Nat.reduceEqDiff]):p:=h.mpr hq
theorem ji4(a b:Int):dq prog 74 [iD a,iD b] (.d (iD (vn a b))):=by
 refine fh (fn:=f74) (by kernel_rfl) func74 rfl (cn rfl) fun c hc hp=>?_
 refine dY (τ':=aF [(0,.d (iD a)),(1,.d (iD b))]) (by repeat (first|exact cw _|refine cg ?_ (by first|rfl|(simp[aX];done)|simp[aX, *]))) ?_
 refine ah (vC ·) ?_
 refine aZ hp ax hc rfl fun K2 bS=>?_
 refine yo ?_
 refine bx (Xo a) rfl ?_
 refine yo ?_
 refine bS _ _ ?_
 refine aZ hp ax hc rfl fun K3 cm=>?_
 refine yo ?_
 refine bx (Xo b) rfl ?_
 refine yo ?_
 refine cm _ _ ?_
 refine aD fun K4 dE=>?_
 refine ah (vC ·) ?_
 refine bA ?_
 refine bg (dE _ _ ?_)
 refine aD fun K6 cK=>?_
 refine ah (vC ·) ?_
 refine bA ?_
 refine bg (cK _ _ ?_)
 refine aD fun K8 dP=>?_
 refine ah (yo ·) ?_
 refine bf rfl (fun ht=>?_) (fun ht=>?_)
 ·refine ah (vC ·) ?_
  refine aM ?_
  show ai _ _=_
  refine M0 ?_
  have h:=of_decide_eq_true ht;simp[vn,h]
 ·refine bg (dP _ _ ?_)
  refine aD fun mh cQ=>?_
  refine ah (yo ·) ?_
  refine bf rfl (fun ht=>?_) (fun ht=>?_)
  ·refine ah (vC ·) ?_
   refine aM ?_
   show ai _ _=_
   refine M0 ?_
   have h:=of_decide_eq_true ht
   have h2:¬a<b:=by omega
   simp[vn,h,h2]
  ·refine bg (cQ _ _ ?_)
   refine ah (vC ·) ?_
   refine aM ?_
   show ai _ _=_
   refine M0 ?_
   rename_i hq
   simp at ht hq;have e:a=b:=by omega
   simp[vn,e]
theorem N3{p q r:Prop}(e:r)(hq:q)(h:r→p=q:=by
 intro hY
 conv=>lhs;simp -dsimp -implicitDefEqProofs (disch:=first|assumption|omega|(simp only[aH]<;>omega)|decide) only[aN,↓reduceIte,Nat.reduceEqDiff,Nat.reduceAdd,D.fix,Int.reduceToNat,Nat.reduceMul,Nat.reduceBNe,Nat.reduceBEq,bw,hY]):p:=(h e).mpr hq
theorem yan(l:List Int)(x y:Int)(hl:l.length≤maxLen)(hx:0≤x∧x<l.length)(hy:0≤y∧y<l.length):dq prog 73 [iD x,iD y,.fp [ae l] 0] (.d (iD (vn (nth l x.toNat) (nth l y.toNat)))):=by
 unfold maxLen at hl
 have hgx:(l.map iD)[x.toNat]? =some (iD (nth l x.toNat)):=db (by omega)
 have hgy:(l.map iD)[y.toNat]? =some (iD (nth l y.toNat)):=db (by omega)
 refine fh (fn:=f73) (by kernel_rfl) func73 rfl (cn rfl) fun c hc hp=>?_
 refine dY (τ':=aF [(0,.d (iD x)),(1,.d (iD y)),(2,.d (.fp [ae l] 0))]) (by repeat (first|exact cw _|refine cg ?_ (by first|rfl|(simp[aX];done)|simp[aX, *]))) ?_
 refine ah (vC ·) ?_
 refine dO ax hc mixed rfl (q:=0) (by kernel_rfl) (by kernel_rfl) fun K2 bS=>?_
 refine N3 (aw hgx hgy) ?_
 refine bx (ji4 (nth l x.toNat) (nth l y.toNat)) rfl ?_
 refine N3 (aw hgx hgy) ?_
 refine bS _ _ ?_
 refine aM ?_
 show ai _ _=_
 exact M1
theorem Ke{p q:Prop}(hq:q)(h:p=q:=by
 conv=>lhs;simp -dsimp -implicitDefEqProofs (disch:=first|assumption|omega|(simp only[aH]<;>omega)|decide) only[aN,↓reduceIte,Nat.reduceEqDiff,Nat.reduceAdd,D.fix,Int.reduceToNat,Nat.reduceMul,Nat.reduceBNe,Nat.reduceBEq,db,bw]):p:=h.mpr hq
theorem MZ{m:List Nat}{τ τ':Fr}{H H':av}(h2:H=H')(h:fw τ τ':=by
 repeat (first|exact cw _|refine cg ?_ (by first|rfl|(simp[aX];done)|simp[aX, *]))):Rt m τ H τ' H':=Rt.end h h2
theorem MY{p:Prop}(h:p:=by
 first|rfl|(simp only[cP,Nat.reduceAdd,↓reduceIte,Nat.reduceEqDiff];first|done|rfl)):p:=h
theorem yao(us:List Int)(l:List Int)(hl:l.length≤maxLen)(Po:1≤us.length)(Em:us.length≤3)(hu:∀k,k<us.length→0≤nth us k∧nth us k<l.length):dq prog 72 [ae us,.dC (.func 73) [] [.fp [ae l] 0]] (.d (iD (pc l us us.length))):=by
 have q0:decide ((us.length:Int)<1)=false:=decide_eq_false (by omega)
 have e1:pc l us 1=nth us 0:=by simp[pc,vn]
 refine fh (fn:=f72) (by kernel_rfl) func72 rfl (cn rfl) fun c hc hp=>?_
 refine dY (τ':=aF [(0,.d (ae us)),(1,.d (.dC (.func 73) [] [.fp [ae l] 0]))]) (by repeat (first|exact cw _|refine cg ?_ (by first|rfl|(simp[aX];done)|simp[aX, *]))) ?_
 refine ah (vC ·) ?_
 refine aD fun K2 bS=>?_
 refine ah (N3 q0 ·) ?_
 refine bA ?_
 refine bg (bS _ _ ?_)
 refine ah (Ke ·) ?_
 refine aD fun K5 dx=>?_
 refine ah (vC ·) ?_
 refine aW ?_
 refine cU hp (fun τ' H' mm=>∃(k:Nat),(1≤k∧k≤us.length)∧mm=us.length - k∧H'=[]∧τ'=aF [(0,.d (ae us)),(1,.d (.dC (.func 73) [] [.fp [ae l] 0])),(5,.d (iD (pc l us k))),(6,.d (iD k))]) (us.length - 1) ?_ ⟨1,⟨bJ _,Po⟩,rfl,rfl,rfl⟩ ?_
 ·refine MZ ?_
  exact MY
 rintro τ' H' mm ⟨k,⟨qQ,hk⟩,rfl,rfl,rfl⟩
 refine aD fun K7 cL=>?_
 refine ah (yo ·) ?_
 refine bf rfl (fun ht=>?_) (fun ht=>?_)
 ·have aA:k<us.length:=by simp at ht;omega
  have AP:0≤pc l us k∧pc l us k<l.length:=by
   obtain⟨j,hj,e⟩:=(N4 (l:=l) (us:=us) (k - 1)).at'
   rw[show k - 1+1=k by omega]at e
   rw[e];exact hu j (by omega)
  have cd:pc l us (k+1)=if 0<vn (nth l (nth us k).toNat) (nth l (pc l us k).toNat)then nth us k else pc l us k:=rfl
  generalize pc l us k=z at *
  refine bg (cL _ _ ?_)
  refine aD fun K9 cX=>?_
  refine aW ?_
  refine aZ hp ax hc rfl fun j4 bW=>?_
  refine Ke ?_
  refine jgo (fi:=[]) (ca:=[.fp [ae l] 0]) (ds:=[iD (nth us k),iD z]) (yan l (nth us k) z hl (hu k aA) AP) rfl ?_
  refine Ke ?_
  refine bW _ _ ?_
  refine bf rfl (fun ht=>?_) (fun ht=>?_)
  ·rw[if_pos (of_decide_eq_true ht)]at cd
   refine fj (Ke ·) (cX _ _ ?_)
   refine bT hp ax hc rfl fun lK bN=>?_
   refine yo ?_
   refine bN _ _ ⟨_,_,_,?_,⟨k+1,⟨by omega,by omega⟩,rfl,rfl,rfl⟩,?_⟩
   ·first|omega|(simp only[List.length_cons];omega)|(dsimp only;omega)
   ·refine MZ ?_
    exact MY
  ·rw[if_neg (of_decide_eq_false ht)]at cd
   refine bg (cX _ _ ?_)
   refine bT hp ax hc rfl fun nV df=>?_
   refine yo ?_
   refine df _ _ ⟨_,_,_,?_,⟨k+1,⟨by omega,by omega⟩,rfl,rfl,rfl⟩,?_⟩
   ·first|omega|(simp only[List.length_cons];omega)|(dsimp only;omega)
   ·refine MZ ?_
    exact MY
 ·have bM:k=us.length:=by simp at ht;omega
  subst bM
  refine cJ (dx _ _ ?_)
  refine ah (vC ·) ?_
  refine aM ?_
  show ai _ _=_
  exact M1
structure uS (n:Net):Prop where
 len:2+n.ins.length+n.gates.length≤600
 d0:n.out.length=n.aP.length
 g2:Iu (2+n.ins.length) n.gates
 gv:∀g∈n.gates,rh g
 d2:Ly (2+n.ins.length+n.gates.length) n.aP
 dl:n.aP.length≤1000
theorem uR.g{n:Net}(h:uR n):uS n:=⟨h.len,h.d0,h.g2,h.gv,h.d2,h.dl⟩
theorem vB{p q:Prop}(hq:q)(h:p=q:=by
 conv=>lhs;simp -dsimp -implicitDefEqProofs (disch:=first|assumption|omega|(simp only[aH,aQ,bc,kW,List.length_replicate,List.length_take]<;>omega)|decide) only[aN,↓reduceIte,Nat.reduceEqDiff,Nat.reduceAdd,D.fix,Int.reduceToNat,Nat.reduceMul,Nat.reduceBNe,Nat.reduceBEq,dt,dp,bQ,bt,aY,bw]):p:=h.mpr hq
theorem Jv(k:List Nat){m:List Nat}{τ τ1:Fr}{H H1:av}(h:Rt m (fun t=>du k (τ t)) (dg k H) τ1 H1)(a:∀i∈m,k[i]? =some i:=by decide)(b:k.Nodup:=by decide)(c:∀i∈k,i<H.length:=by
 simp[eJ,dg]):Rt m τ H τ1 H1:=Rt.trans (Rt.gc a b c) h
theorem Ju{m:List Nat}{τ τ':Fr}{H H':av}(h2:H=H')(h:fw τ τ':=by
 repeat (first|exact cw _|refine cg ?_ (by first|rfl|(simp[aX,aQ,bc,kW,List.length_replicate,List.length_take];done)|simp[aX,aQ,bc,kW,List.length_replicate,List.length_take, *]))):Rt m τ H τ' H':=Rt.end h h2
theorem Xn{p q r:Prop}(e:r)(hq:q)(h:r→p=q:=by
 intro hY
 conv=>lhs;simp -dsimp -implicitDefEqProofs (disch:=first|assumption|omega|(simp only[aH,aQ,bc,kW,List.length_replicate,List.length_take]<;>omega)|decide) only[aN,↓reduceIte,Nat.reduceEqDiff,Nat.reduceAdd,D.fix,Int.reduceToNat,Nat.reduceMul,Nat.reduceBNe,Nat.reduceBEq,dt,dp,bQ,bt,aY,bw,hY]):p:=(h e).mpr hq
theorem Xm{p q:Prop}(hq:q)(h:p=q:=by
 conv=>lhs;simp -dsimp -implicitDefEqProofs (disch:=first|assumption|omega|(simp only[aH,aQ,bc,kW,List.length_replicate,List.length_take]<;>omega)|decide) only[aN,↓reduceIte,Nat.reduceEqDiff,Nat.reduceAdd,D.fix,Int.reduceToNat,Nat.reduceMul,Nat.reduceBNe,Nat.reduceBEq,dt,dp,bQ,bt,aY]):p:=h.mpr hq
theorem VR{p:Prop}(h:p:=by
 first|rfl|(simp only[cP,Nat.reduceAdd,↓reduceIte,Nat.reduceEqDiff,dt,dp,bQ,bt,aY];first|done|rfl)):p:=h
theorem E7(n:Net)(h:uS n):dq prog 16 [dt n] (.d (iD (M3 n))):=by
 have hlen:=h.len
 have CA:=h.d0
 have qe:=h.dl
 refine fh (fn:=f16) (by kernel_rfl) func16 rfl (cn rfl) fun c hc hp=>?_
 refine dY (τ':=aF [(0,.d (dt n))]) (by repeat (first|exact cw _|refine cg ?_ (by first|rfl|(simp[aX,aQ,bc,kW,List.length_replicate,List.length_take];done)|simp[aX,aQ,bc,kW,List.length_replicate,List.length_take, *]))) ?_
 refine ah (vB ·) ?_
 refine aZ hp ax hc rfl fun K2 bS=>?_
 simp -dsimp -implicitDefEqProofs (disch:=first|assumption|omega|(simp only[aH,aQ,bc,kW,List.length_replicate,List.length_take]<;>omega)|decide) only[aN,↓reduceIte,Nat.reduceEqDiff,Nat.reduceAdd,D.fix,Int.reduceToNat,Nat.reduceMul,Nat.reduceBNe,Nat.reduceBEq,dt,dp,bQ,bt,aY,jol,bw]
 refine bS _ _ ?_
 refine aD fun K3 cm=>?_
 refine ah (vB ·) ?_
 refine aW ?_
 refine cU hp (fun τ' H' mm=>∃(k:Nat),(k≤n.gates.length)∧mm=n.gates.length - k∧H'=[.cells (ak (dp n)),.cells [.os 1 2 0 (2+n.ins.length+k)],.cells (ak ((lH (List.replicate (2+n.ins.length) 0) (n.gates.take k)).map iD))]∧τ'=aF [(1,.op 0 0),(3,.op 1 0),(26,.d (bt n.gates)),(27,.d (iD n.gates.length)),(28,.d (iD k))]) (n.gates.length) ?_ ⟨0,cF _,rfl,rfl,rfl⟩ ?_
 ·refine Jv [0,2,1] ?_
  refine Ju ?_
  simp only[cP,Nat.reduceAdd,↓reduceIte,Nat.reduceEqDiff,dt,dp,bQ,bt,aY];simp[lH,ak,iD];omega
 rintro τ' H' mm ⟨k,hk,rfl,rfl,rfl⟩
 refine ah (vB ·) ?_
 refine aD fun K6 cK=>?_
 refine bf rfl (fun ht=>?_) (fun ht=>?_)
 ·have aA:k<n.gates.length:=by simp at ht;omega
  have hg:=OB h.g2 aA
  have hv:=h.gv _ (ll aA)
  obtain⟨l,hl⟩:∃l,l=lH (List.replicate (2+n.ins.length) 0) (n.gates.take k):=⟨_,rfl⟩
  have ke:l.length=2+n.ins.length+k:=by rw[hl,kW,List.length_replicate,List.length_take];omega
  have cd:=jc8 (List.replicate (2+n.ins.length) 0) aA
  rw[←hl]at cd
  have h0:=Xp n k
  have x6:=KM n k
  rw[←hl]at h0 x6
  rw[←hl]
  have p9:l.length≤maxLen:=by unfold maxLen;omega
  have Po:1≤(gj (nth n.gates k)).length:=by rcases xp hg.o1 hg.o2 with⟨k1,k2⟩|⟨k1,k3,k2⟩|⟨k1,k2⟩<;>(unfold gj;rw[k2];simp)
  have Em:(gj (nth n.gates k)).length≤3:=by unfold gj;rw[List.length_take];exact Nat.min_le_right _ _
  have hur:∀j,j<(gj (nth n.gates k)).length→0≤nth (gj (nth n.gates k)) j∧nth (gj (nth n.gates k)) j<l.length:=fun j hj=>by
   obtain⟨u,hu⟩:∃u,u=nth (gj (nth n.gates k)) j:=⟨_,rfl⟩
   have hx:u∈[(nth n.gates k).a,(nth n.gates k).b,(nth n.gates k).c]:=by rw[hu];exact List.mem_of_mem_take (ll hj)
   rw[←hu]
   have a0:=hg.a0;have a1:=hg.a1;have b0:=hg.b0;have b1:=hg.b1;have c0:=hg.c0;have c1:=hg.c1
   simp only[List.mem_cons,List.not_mem_nil,or_false]at hx
   rcases hx with e|e|e<;>rw[e]<;>omega
  have Hb:=yao (gj (nth n.gates k)) l p9 Po Em hur
  clear hl
  refine bg (cK _ _ ?_)
  refine aD fun K7 cL=>?_
  refine aW ?_
  refine aZ hp ax hc rfl fun K8 dP=>?_
  simp -dsimp -implicitDefEqProofs (disch:=first|assumption|omega|(simp only[aH,aQ,bc,kW,List.length_replicate,List.length_take]<;>omega)|decide) only[aN,↓reduceIte,Nat.reduceEqDiff,Nat.reduceAdd,D.fix,Int.reduceToNat,Nat.reduceMul,Nat.reduceBNe,Nat.reduceBEq,dt,dp,bQ,bt,aY,ve,qA,bw]
  refine dP _ _ ?_
  refine aZ hp ax hc rfl fun K9 cX=>?_
  refine vB ?_
  have hmu:=jme hg hv h0 (fun j=>(x6 j).1) (z:=pc l (gj (nth n.gates k)) (gj (nth n.gates k)).length) (by
   have:=N4 (l:=l) (us:=gj (nth n.gates k)) ((gj (nth n.gates k)).length - 1)
   rwa[show(gj (nth n.gates k)).length - 1+1=(gj (nth n.gates k)).length by omega]at this)
  obtain⟨z,hz⟩:∃z,z=pc l (gj (nth n.gates k)) (gj (nth n.gates k)).length:=⟨_,rfl⟩
  rw[←hz]at Hb hmu
  clear hz
  have P1:(l.map iD)[z.toNat]? =some (iD (nth l z.toNat)):=db (by omega)
  have AP:=x6 z.toNat
  refine bx (Dp (nth n.gates k) hg.o1 hg.o2) rfl ?_
  refine vB ?_
  refine cX _ _ ?_
  refine aZ hp ax hc rfl fun j4 bW=>?_
  refine vB ?_
  refine BB (Hb) ?_ ?_
  ·simp (disch:=first|assumption|omega|(simp only[aH,aQ,bc,kW,List.length_replicate,List.length_take]<;>omega)|decide) only[fA,Nat.reduceAdd,D.fix,↓reduceIte,Nat.reduceEqDiff,dt,dp,bQ,bt,aY,ke]
  refine vB ?_
  refine bW _ _ ?_
  refine z8 ax hc mixed rfl (q:=2) (by kernel_rfl) (by kernel_rfl) fun mh cQ=>?_
  refine Xn P1 ?_
  refine cQ _ _ (cL _ _ ?_)
  refine bT hp ax hc rfl fun lK bN=>?_
  refine vB ?_
  refine bN _ _ ⟨_,_,_,?_,⟨k+1,by omega,rfl,rfl,rfl⟩,?_⟩
  ·first|omega|(simp only[List.length_cons];omega)|(dsimp only;omega)
  ·refine Jv [0,1,5] ?_
   refine Ju ?_
   simp only[cP,Nat.reduceAdd,↓reduceIte,Nat.reduceEqDiff,dt,dp,bQ,bt,aY];rw[cd,←hmu.1];simp[iD];omega
 ·have bM:k=n.gates.length:=by simp at ht;omega
  subst bM
  rw[List.take_length]
  have ke:(nR n).length=2+n.ins.length+n.gates.length:=by unfold nR;rw[kW,List.length_replicate]
  have x6:∀j,0≤nth (nR n) j∧nth (nR n) j≤((n.gates.length:Nat):Int):=fun j=>by
   have:=KM n n.gates.length j
   rwa[List.take_length]at this
  rw[show lH (List.replicate (2+n.ins.length) 0) n.gates=nR n from rfl]
  refine cJ (cm _ _ ?_)
  refine ah (Xm ·) ?_
  refine aD fun re dT=>?_
  refine ah (vB ·) ?_
  refine aW ?_
  refine cU hp (fun τ' H' mm=>∃(k:Nat),(k≤n.aP.length)∧mm=n.aP.length - k∧H'=[.cells (ak (dp n)),.cells [.os 1 2 0 (2+n.ins.length+n.gates.length)],.cells (ak ((nR n).map iD))]∧τ'=aF [(1,.op 0 0),(3,.op 1 0),(9,.d (iD (ED (nR n) (n.aP.take k)))),(50,.d (ae n.aP)),(51,.d (iD n.aP.length)),(52,.d (iD k))]) (n.aP.length) ?_ ⟨0,cF _,rfl,rfl,rfl⟩ ?_
  ·refine Jv [0,1,2] ?_
   refine Ju ?_
   exact VR
  rintro τ' H' mm ⟨k,hk,rfl,rfl,rfl⟩
  refine ah (vB ·) ?_
  refine aD fun rZ ey=>?_
  refine bf rfl (fun ht=>?_) (fun ht=>?_)
  ·have aA:k<n.aP.length:=by simp at ht;omega
   have hdk:=h.d2 k aA
   have cd:=jc9 (nR n) aA
   have P1:((nR n).map iD)[(nth n.aP k).toNat]? =some (iD (nth (nR n) (nth n.aP k).toNat)):=db (by omega)
   refine bg (ey _ _ ?_)
   refine aD fun zD iW=>?_
   refine aW ?_
   refine aZ hp ax hc rfl fun rY eN=>?_
   simp -dsimp -implicitDefEqProofs (disch:=first|assumption|omega|(simp only[aH,aQ,bc,kW,List.length_replicate,List.length_take]<;>omega)|decide) only[aN,↓reduceIte,Nat.reduceEqDiff,Nat.reduceAdd,D.fix,Int.reduceToNat,Nat.reduceMul,Nat.reduceBNe,Nat.reduceBEq,dt,dp,bQ,bt,aY,db,bw]
   refine eN _ _ ?_
   refine fj (Xn P1 ·) (iW _ _ ?_)
   refine bT hp ax hc rfl fun yj im=>?_
   refine vB ?_
   refine im _ _ ⟨_,_,_,?_,⟨k+1,by omega,rfl,rfl,rfl⟩,?_⟩
   ·first|omega|(simp only[List.length_cons];omega)|(dsimp only;omega)
   ·refine Jv [0,1,2] ?_
    refine Ju ?_
    exact VR
  ·have bM:k=n.aP.length:=by simp at ht;omega
   subst bM
   rw[List.take_length]
   refine cJ (dT _ _ ?_)
   refine ah (Xm ·) ?_
   refine aM ?_
   show ai _ _=_
   simp (disch:=first|assumption|omega|(simp only[aH,aQ,bc,kW,List.length_replicate,List.length_take]<;>omega)|decide) only[fA,Nat.reduceAdd,D.fix,↓reduceIte,Nat.reduceEqDiff,dt,dp,bQ,bt,aY]
   rfl
theorem jtf(n:Net)(h:uR n):dq prog 16 [dt n] (.d (iD (M3 n))):=E7 n h.g
end Go.Proofs.YtapjobndmmkanaaGreat
