/- Package bits: widths and values of operations. -/
import Derived.Test.YtapjobndmmkanaaGreatQr
import Derived.Test.YtapjobndmmkanaaGreatPm
set_option linter.unusedVariables false
set_option linter.unusedSimpArgs false
set_option maxRecDepth 100000
set_option maxHeartbeats 4000000
namespace Go.Proofs.YtapjobndmmkanaaGreat
open Go.Proofs.Tryz
open Go Go.RowKit
def kJ(f:FuncId):D:=.val (.func (.func f) #[] #[])
def dV(ws vs:List Int)(k w:Int):List D:=[av ws,av vs,iD k,iD w]
theorem OU{p q:Prop}(hq:q)(h:p=q:=by
 conv=>lhs;simp -dsimp -implicitDefEqProofs (disch:=first|assumption|omega|(simp only[aK]<;>omega)|decide) only[aP,↓reduceIte,Nat.reduceEqDiff,Nat.reduceAdd,D.fix,Int.reduceToNat,Nat.reduceMul,Nat.reduceBNe,Nat.reduceBEq]):p:=h.mpr hq
theorem OT{p q r:Prop}(e:r)(hq:q)(h:r→p=q:=by
 intro hY
 conv=>lhs;simp -dsimp -implicitDefEqProofs (disch:=first|assumption|omega|(simp only[aK]<;>omega)|decide) only[aP,↓reduceIte,Nat.reduceEqDiff,Nat.reduceAdd,D.fix,Int.reduceToNat,Nat.reduceMul,Nat.reduceBNe,Nat.reduceBEq,bw,hY]):p:=(h e).mpr hq
theorem NU{p:Prop}(h:p:=by
 simp (disch:=first|assumption|omega|(simp only[aK]<;>omega)|decide) only[gF,Nat.reduceAdd,D.fix,↓reduceIte,Nat.reduceEqDiff]):p:=h
theorem FI(w:Int)(h1:1≤w)(h2:w≤8):cC prog 202 [iD w] (.d (oD true)):=by
 have q1:decide (1≤w)=true:=decide_eq_true h1
 have q2:decide (w≤8)=true:=decide_eq_true h2
 refine ez (fn:=f202) (by kernel_rfl) func202 rfl (bN rfl) fun c hc hp=>?_
 refine dG (τ':=aG [(0,.d (iD w))]) (by repeat (first|exact bT _|refine bM ?_ (by first|rfl|(simp[aR];done)|simp[aR, *]))) ?_
 refine aj (OU ·) ?_
 refine aj (OT (aL q1 q2) ·) ?_
 refine bh ?_
 show aC _ _=_
 exact NU
theorem YB{p q:Prop}(hq:q)(h:p=q:=by
 conv=>lhs;simp -dsimp -implicitDefEqProofs (disch:=first|assumption|omega|(simp only[aK]<;>omega)|decide) only[aP,↓reduceIte,Nat.reduceEqDiff,Nat.reduceAdd,D.fix,Int.reduceToNat,Nat.reduceMul,Nat.reduceBNe,Nat.reduceBEq,bw]):p:=h.mpr hq
theorem ykv(w:Int)(h1:1≤w)(h2:w≤8):cC prog 201 [iD w] (.d (oD false)):=by
 refine ez (fn:=f201) (by kernel_rfl) func201 rfl (bN rfl) fun c hc hp=>?_
 refine dG (τ':=aG [(0,.d (iD w))]) (by repeat (first|exact bT _|refine bM ?_ (by first|rfl|(simp[aR];done)|simp[aR, *]))) ?_
 refine aj (OU ·) ?_
 refine bC hp ax hc rfl fun K2 bG=>?_
 refine YB ?_
 refine cQ (FI w h1 h2) rfl ?_
 refine YB ?_
 refine bG _ _ ?_
 refine bh ?_
 show aC _ _=_
 exact NU
theorem Lf{p q:Prop}(hq:q)(h:p=q:=by
 conv=>lhs;simp -dsimp -implicitDefEqProofs (disch:=first|assumption|omega|(simp only[aK]<;>omega)|decide) only[aP,↓reduceIte,Nat.reduceEqDiff,Nat.reduceAdd,D.fix,Int.reduceToNat,Nat.reduceMul,Nat.reduceBNe,Nat.reduceBEq,kJ]):p:=h.mpr hq
theorem G8{p q:Prop}(hq:q)(h:p=q:=by
 conv=>lhs;simp -dsimp -implicitDefEqProofs (disch:=first|assumption|omega|(simp only[aK]<;>omega)|decide) only[aP,↓reduceIte,Nat.reduceEqDiff,Nat.reduceAdd,D.fix,Int.reduceToNat,Nat.reduceMul,Nat.reduceBNe,Nat.reduceBEq,kJ,bw]):p:=h.mpr hq
theorem WL{m:List Nat}{τ τ':Fr}{H H':ak}(h2:H=H')(h:fm τ τ':=by
 repeat (first|exact bT _|refine bM ?_ (by first|rfl|(simp[aR];done)|simp[aR, *]))):Rt m τ H τ' H':=Rt.end h h2
theorem Xm{p:Prop}(h:p:=by
 first|rfl|(simp only[cD,Nat.reduceAdd,↓reduceIte,Nat.reduceEqDiff,kJ];first|done|rfl)):p:=h
theorem Xl{p:Prop}(h:p:=by
 simp (disch:=first|assumption|omega|(simp only[aK]<;>omega)|decide) only[gF,Nat.reduceAdd,D.fix,↓reduceIte,Nat.reduceEqDiff,kJ]):p:=h
theorem yd4(l:List Int)(hl:l.length≤10)(hw:∀k,k<l.length→1≤nth l k∧nth l k≤8):cC prog 125 [av l,kJ 201] (.d (iD (-1))):=by
 refine ez (fn:=f125) (by kernel_rfl) func125 rfl (bN rfl) fun c hc hp=>?_
 refine dG (τ':=aG [(0,.d (av l)),(1,.d (kJ 201))]) (by repeat (first|exact bT _|refine bM ?_ (by first|rfl|(simp[aR];done)|simp[aR, *]))) ?_
 refine aj (Lf ·) ?_
 refine aH fun K2 bG=>?_
 refine aj (G8 ·) ?_
 refine aW ?_
 refine c9 hp (fun τ' H' mm=>∃k,(k≤l.length)∧mm=l.length - k∧H'=[]∧τ'=aG [(0,.d (av l)),(1,.d (kJ 201)),(7,.d (iD l.length)),(8,.d (iD k))]) (l.length) ?_ ⟨0,cy _,rfl,rfl,rfl⟩ ?_
 ·refine WL ?_
  exact Xm
 rintro τ' H' mm ⟨k,hk,rfl,rfl,rfl⟩
 refine aj (G8 ·) ?_
 refine aH fun K5 fA=>?_
 refine aX rfl (fun ht=>?_) (fun ht=>?_)
 ·have aA:k<l.length:=by simp at ht;omega
  refine bB (fA _ _ ?_)
  refine aH fun K6 cF=>?_
  refine aW ?_
  refine aj (Lf ·) ?_
  refine bC hp ax hc rfl fun K8 dC=>?_
  refine G8 ?_
  refine cQ (ykv (nth l k) (hw k aA).1 (hw k aA).2) rfl ?_
  refine G8 ?_
  refine dC _ _ ?_
  refine eC ?_
  refine bB (cF _ _ ?_)
  refine bA hp ax hc rfl fun K9 cJ=>?_
  refine G8 ?_
  refine cJ _ _ ⟨_,_,_,?_,⟨k+1,by omega,rfl,rfl,rfl⟩,?_⟩
  ·first|omega|(simp only[List.length_cons];omega)|(dsimp only;omega)
  ·refine WL ?_
   exact Xm
 ·refine cL (bG _ _ ?_)
  refine aj (Lf ·) ?_
  refine bh ?_
  show aC _ _=_
  exact Xl
theorem YA{p q r:Prop}(e:r)(hq:q)(h:r→p=q:=by
 intro hY
 conv=>lhs;simp -dsimp -implicitDefEqProofs (disch:=first|assumption|omega|(simp only[aK]<;>omega)|decide) only[aP,↓reduceIte,Nat.reduceEqDiff,Nat.reduceAdd,D.fix,Int.reduceToNat,Nat.reduceMul,Nat.reduceBNe,Nat.reduceBEq,kJ,bw,hY]):p:=(h e).mpr hq
theorem jtx(l:List Int)(hl:l.length≤10)(hw:∀k,k<l.length→1≤nth l k∧nth l k≤8):cC prog 68 [av l,kJ 201] (.d (oD false)):=by
 have o6:decide ((0:Int)≤ -1)=false:=rfl
 refine ez (fn:=f68) (by kernel_rfl) func68 rfl (bN rfl) fun c hc hp=>?_
 refine dG (τ':=aG [(0,.d (av l)),(1,.d (kJ 201))]) (by repeat (first|exact bT _|refine bM ?_ (by first|rfl|(simp[aR];done)|simp[aR, *]))) ?_
 refine aj (Lf ·) ?_
 refine bC hp ax hc rfl fun K2 bG=>?_
 refine YA o6 ?_
 refine cQ (yd4 l hl hw) rfl ?_
 refine YA o6 ?_
 refine bG _ _ ?_
 refine bh ?_
 show aC _ _=_
 exact Xl
theorem I5(w:Nat)(h2:w≤8):cC prog 173 [iD w] (.d (iD ((2^w:Nat) - 1:Int))):=by
 have q1:decide ((w:Int)<0)=false:=decide_eq_false (by omega)
 have q2:decide ((62:Int)<w)=false:=decide_eq_false (by omega)
 have hs:=BS (w:=w) (by omega)
 have fg:=Nat.two_pow_pos w
 have tq:2^w≤256:=Nat.le_trans (rj (by decide) (show w≤8 by omega)) (show 2^8≤256 by decide)
 obtain⟨M,hM⟩:∃M:Nat,2^w=M:=⟨_,rfl⟩
 rw[hM]at hs fg tq ⊢
 refine ez (fn:=f173) (by kernel_rfl) func173 rfl (bN rfl) fun c hc hp=>?_
 refine dG (τ':=aG [(0,.d (iD w))]) (by repeat (first|exact bT _|refine bM ?_ (by first|rfl|(simp[aR];done)|simp[aR, *]))) ?_
 refine aj (OU ·) ?_
 refine aH fun K2 bG=>?_
 refine aj (OT (aL q1 q2) ·) ?_
 refine eC ?_
 refine bB (bG _ _ ?_)
 refine aj (OT hs ·) ?_
 refine bh ?_
 show aC _ _=_
 exact NU
theorem uO{f:Fn}{a b:Array Value}:lS (.d (.val (.func f a b)))=some [.d (.val (.func f a b))]:=rfl
def mN(op ar:Int)(fw fv:FuncId):Prop:=(op,ar,fw,fv)∈([(2,1,210,211),(3,2,213,214),(4,2,213,215),(5,2,213,216),(6,2,213,217),(7,2,213,218),(8,2,219,220),(9,2,219,222)]:List (Int × Int × FuncId × FuncId))
def pj(op ar:Int)(fw fv:FuncId):Prop:=(op,ar,fw,fv)∈([(1,0,223,224),(10,3,225,226),(11,2,227,228),(12,1,229,230),(13,1,231,232)]:List (Int × Int × FuncId × FuncId))
def wD(ar:Int)(fw fv:FuncId):D:=.agg [iD ar,kJ fw,kJ fv]
def opT:TypeId:=306
def NT(es:List (Value × Nat × AV))(k:Int):Bool:=(es.all fun e=>match e.1 with| .int .i64 n=>n !=k|_=>false)
theorem Fy{id c:Nat}{k:Int}{y:AV}{H:ak}{es:List (Value × Nat × AV)}(hb:(KT 3&&(j4 prog opT==some (3,284))&&(keyOf prog 3 (.int .i64 k)).isSome&&p9 prog 3 es&&NT es k)=true):AR prog KT 306 id (.int .i64 k) y H (some (.map es c))=some (.d (.val undef),H.set id (.map (es++[(.int .i64 k,c,y)]) (c+1))):=by
 simp only[gG,beq_iff_eq]at hb
 obtain⟨⟨⟨⟨h1,h2⟩,h3⟩,h4⟩,h5⟩:=hb
 have hf:∀(es:List (Value × Nat × AV)) (i:Nat),NT es k=true→j6 (.int .i64 k) es i=none:=by
  intro es
  induction es with
  |nil=>intro i _;rfl
  |cons e es ih=>
   intro i hb
   simp only[NT,List.all_cons,gG]at hb
   unfold j6
   have:kT e.1 (.int .i64 k)=false:=by
    have h:=hb.1
    split at h
    ·rename_i n hn;rw[hn];simp[kT,vS];simpa using h
    ·cases h
   rw[this]
   simpa using ih _ hb.2
 unfold AR
 rw[show j4 prog 306=some (3,284) from h2]
 simp only[h1,h3,h4,hf es 0 h5,mI,DU,Bool.and_true,if_true]
theorem FM{es:List (Value × Nat × AV)}{c:Nat}:Kz (some (.map es c))=some es:=rfl
theorem yd6{op ar:Int}{fw fv:FuncId}(hr:mN op ar fw fv):zp prog KT 306 (some (.int .i64 op)) true (some [(.int .i64 2,0,.agg [.d (.val (.int .i64 1)),.d (.val (.func (.func 210) #[] #[])),.d (.val (.func (.func 211) #[] #[]))]),(.int .i64 3,1,.agg [.d (.val (.int .i64 2)),.d (.val (.func (.func 213) #[] #[])),.d (.val (.func (.func 214) #[] #[]))]),(.int .i64 4,2,.agg [.d (.val (.int .i64 2)),.d (.val (.func (.func 213) #[] #[])),.d (.val (.func (.func 215) #[] #[]))]),(.int .i64 5,3,.agg [.d (.val (.int .i64 2)),.d (.val (.func (.func 213) #[] #[])),.d (.val (.func (.func 216) #[] #[]))]),(.int .i64 6,4,.agg [.d (.val (.int .i64 2)),.d (.val (.func (.func 213) #[] #[])),.d (.val (.func (.func 217) #[] #[]))]),(.int .i64 7,5,.agg [.d (.val (.int .i64 2)),.d (.val (.func (.func 213) #[] #[])),.d (.val (.func (.func 218) #[] #[]))]),(.int .i64 8,6,.agg [.d (.val (.int .i64 2)),.d (.val (.func (.func 219) #[] #[])),.d (.val (.func (.func 220) #[] #[]))]),(.int .i64 9,7,.agg [.d (.val (.int .i64 2)),.d (.val (.func (.func 219) #[] #[])),.d (.val (.func (.func 222) #[] #[]))])])=some (.dc [.agg [.d (iD ar),.d (kJ fw),.d (kJ fv)],.d (oD true)]):=by
 simp only[mN,List.mem_cons,Prod.mk.injEq,List.not_mem_nil,or_false]at hr
 rcases hr with⟨rfl,rfl,rfl,rfl⟩|⟨rfl,rfl,rfl,rfl⟩|⟨rfl,rfl,rfl,rfl⟩|⟨rfl,rfl,rfl,rfl⟩|⟨rfl,rfl,rfl,rfl⟩|⟨rfl,rfl,rfl,rfl⟩|⟨rfl,rfl,rfl,rfl⟩|⟨rfl,rfl,rfl,rfl⟩<;>kernel_rfl
theorem yd7{op ar:Int}{fw fv:FuncId}(hr:pj op ar fw fv):zp prog KT 306 (some (.int .i64 op)) true (some [(.int .i64 1,0,.agg [.d (.val (.int .i64 0)),.d (.val (.func (.func 223) #[] #[])),.d (.val (.func (.func 224) #[] #[]))]),(.int .i64 10,1,.agg [.d (.val (.int .i64 3)),.d (.val (.func (.func 225) #[] #[])),.d (.val (.func (.func 226) #[] #[]))]),(.int .i64 11,2,.agg [.d (.val (.int .i64 2)),.d (.val (.func (.func 227) #[] #[])),.d (.val (.func (.func 228) #[] #[]))]),(.int .i64 12,3,.agg [.d (.val (.int .i64 1)),.d (.val (.func (.func 229) #[] #[])),.d (.val (.func (.func 230) #[] #[]))]),(.int .i64 13,4,.agg [.d (.val (.int .i64 1)),.d (.val (.func (.func 231) #[] #[])),.d (.val (.func (.func 232) #[] #[]))])])=some (.dc [.agg [.d (iD ar),.d (kJ fw),.d (kJ fv)],.d (oD true)]):=by
 simp only[pj,List.mem_cons,Prod.mk.injEq,List.not_mem_nil,or_false]at hr
 rcases hr with⟨rfl,rfl,rfl,rfl⟩|⟨rfl,rfl,rfl,rfl⟩|⟨rfl,rfl,rfl,rfl⟩|⟨rfl,rfl,rfl,rfl⟩|⟨rfl,rfl,rfl,rfl⟩<;>kernel_rfl
theorem yd8{op ar:Int}{fw fv:FuncId}(hr:pj op ar fw fv):zp prog KT 306 (some (.int .i64 op)) true (some [(.int .i64 2,0,.agg [.d (.val (.int .i64 1)),.d (.val (.func (.func 210) #[] #[])),.d (.val (.func (.func 211) #[] #[]))]),(.int .i64 3,1,.agg [.d (.val (.int .i64 2)),.d (.val (.func (.func 213) #[] #[])),.d (.val (.func (.func 214) #[] #[]))]),(.int .i64 4,2,.agg [.d (.val (.int .i64 2)),.d (.val (.func (.func 213) #[] #[])),.d (.val (.func (.func 215) #[] #[]))]),(.int .i64 5,3,.agg [.d (.val (.int .i64 2)),.d (.val (.func (.func 213) #[] #[])),.d (.val (.func (.func 216) #[] #[]))]),(.int .i64 6,4,.agg [.d (.val (.int .i64 2)),.d (.val (.func (.func 213) #[] #[])),.d (.val (.func (.func 217) #[] #[]))]),(.int .i64 7,5,.agg [.d (.val (.int .i64 2)),.d (.val (.func (.func 213) #[] #[])),.d (.val (.func (.func 218) #[] #[]))]),(.int .i64 8,6,.agg [.d (.val (.int .i64 2)),.d (.val (.func (.func 219) #[] #[])),.d (.val (.func (.func 220) #[] #[]))]),(.int .i64 9,7,.agg [.d (.val (.int .i64 2)),.d (.val (.func (.func 219) #[] #[])),.d (.val (.func (.func 222) #[] #[]))])])=some (.dc [.agg [.d (iD 0),.d (.val .nilFunc),.d (.val .nilFunc)],.d (oD false)]):=by
 simp only[pj,List.mem_cons,Prod.mk.injEq,List.not_mem_nil,or_false]at hr
 rcases hr with⟨rfl,rfl,rfl,rfl⟩|⟨rfl,rfl,rfl,rfl⟩|⟨rfl,rfl,rfl,rfl⟩|⟨rfl,rfl,rfl,rfl⟩|⟨rfl,rfl,rfl,rfl⟩<;>kernel_rfl
theorem tL{p q:Prop}(hq:q)(h:p=q:=by
 conv=>lhs;simp -dsimp -implicitDefEqProofs (disch:=first|assumption|omega|(simp only[aK]<;>omega)|decide) only[aP,↓reduceIte,Nat.reduceEqDiff,Nat.reduceAdd,D.fix,Int.reduceToNat,Nat.reduceMul,Nat.reduceBNe,Nat.reduceBEq,dV,kJ,wD,uO,Cc,BX,BW,Fy,yq,FM,bw]):p:=h.mpr hq
theorem yj{p q r:Prop}(e:r)(hq:q)(h:r→p=q:=by
 intro hY
 conv=>lhs;simp -dsimp -implicitDefEqProofs (disch:=first|assumption|omega|(simp only[aK]<;>omega)|decide) only[aP,↓reduceIte,Nat.reduceEqDiff,Nat.reduceAdd,D.fix,Int.reduceToNat,Nat.reduceMul,Nat.reduceBNe,Nat.reduceBEq,dV,kJ,wD,uO,Cc,BX,BW,Fy,yq,FM,bw,hY]):p:=(h e).mpr hq
theorem OS{p q:Prop}(hq:q)(h:p=q:=by
 conv=>lhs;simp -dsimp -implicitDefEqProofs (disch:=first|assumption|omega|(simp only[aK]<;>omega)|decide) only[aP,↓reduceIte,Nat.reduceEqDiff,Nat.reduceAdd,D.fix,Int.reduceToNat,Nat.reduceMul,Nat.reduceBNe,Nat.reduceBEq,dV,kJ,wD,uO,Cc,BX,BW,Fy,yq,FM]):p:=h.mpr hq
theorem jty{p q:Prop}(hq:q)(h:p=q:=by
 conv=>lhs;simp -dsimp -implicitDefEqProofs (disch:=first|assumption|omega|(simp only[aK]<;>omega)|decide) only[aP,↓reduceIte,Nat.reduceEqDiff,Nat.reduceAdd,D.fix,Int.reduceToNat,Nat.reduceMul,Nat.reduceBNe,Nat.reduceBEq,dV,kJ,wD,uO,Cc,BX,BW,Fy,yq,FM,Mz,PL]):p:=h.mpr hq
theorem Xk{p:Prop}(h:p:=by
 simp (disch:=first|assumption|omega|(simp only[aK]<;>omega)|decide) only[gF,Nat.reduceAdd,D.fix,↓reduceIte,Nat.reduceEqDiff,dV,kJ,wD,uO,Cc,BX,BW,Fy,yq,FM]):p:=h
theorem je2(op ar:Int)(fw fv:FuncId)(ws vs:List Int)(k w W:Int)(hr:mN op ar fw fv∨pj op ar fw fv)(hl:(ws.length:Int)=ar)(hw:∀k,k<ws.length→1≤nth ws k∧nth ws k≤8)(h1:1≤W)(h2:W≤8)(fk:cC prog fw [.agg (dV ws vs k w)] (.d (iD W))):cC prog 172 [iD op,.agg (dV ws vs k w)] (.dc [.d (wD ar fw fv),.d (iD W),.d (oD true)]):=by
 have lj:ws.length≤10:=by
  have:ar≤3:=by
   rcases hr with hr|hr<;>simp only[mN,pj,List.mem_cons,Prod.mk.injEq,List.not_mem_nil,or_false]at hr<;>omega
  omega
 have oZ:(ar !=ar)=false:=bne_self_eq_false _
 refine ez (fn:=f172) (by kernel_rfl) func172 rfl (bN rfl) fun c hc hp=>?_
 refine dG (τ':=aG [(0,.d (iD op)),(1,.d (.agg (dV ws vs k w)))]) (by repeat (first|exact bT _|refine bM ?_ (by first|rfl|(simp[aR];done)|simp[aR, *]))) ?_
 refine aj (tL ·) ?_
 refine bC hp ax hc rfl fun K2 bG=>?_
 rcases hr with hr|hr
 ·have hN:=yd6 hr
  have hL:=hN
  refine yj hN ?_
  refine Po ⟨by kernel_rfl,_,_,func199,rfl,bN rfl,fun IM BD=>?_⟩
  refine Mk ?_
  refine bC (Kp.all IM) ax BD rfl fun K103 IA=>?_
  refine OS ?_
  refine IA _ _ ?_
  refine bC (Kp.all IM) ax BD rfl fun K104 Iz=>?_
  refine tL ?_
  refine Iz _ _ ?_
  refine bh ?_
  refine c8 (t:=0) rfl ?_
  refine yj hN ?_
  refine bG _ _ ?_
  refine aH fun K3 bS=>?_
  refine aj (tL ·) ?_
  refine eC ?_
  refine bB (bS _ _ ?_)
  refine aH fun K5 fA=>?_
  refine bC hp ax hc rfl fun K6 cF=>?_
  refine yj (aL hl oZ) ?_
  refine cQ (jtx ws lj hw) rfl ?_
  refine yj (aL hl oZ) ?_
  refine cF _ _ ?_
  refine eC ?_
  refine bB (fA _ _ ?_)
  refine bC hp ax hc rfl fun K7 de=>?_
  refine tL ?_
  refine cQ (fk) rfl ?_
  refine tL ?_
  refine de _ _ ?_
  refine eN ax hc mixed rfl (q:=0) (by kernel_rfl) (by kernel_rfl) fun K8 dC=>?_
  refine tL ?_
  refine cQ (FI W h1 h2) rfl ?_
  refine tL ?_
  refine dC _ _ ?_
  refine bh ?_
  try dsimp only[fb,fc]
  refine F3 rfl ?_
  refine PA ?_
  refine jty ?_
  refine vP ?_
  refine vP ?_
  show aC _ _=_
  exact Xk
 ·have hN:=yd8 hr
  have hL:=yd7 hr
  refine yj hN ?_
  refine Po ⟨by kernel_rfl,_,_,func199,rfl,bN rfl,fun IL BB=>?_⟩
  refine Mk ?_
  refine bC (Kp.all IL) ax BB rfl fun K209 Iy=>?_
  refine OS ?_
  refine Iy _ _ ?_
  refine bC (Kp.all IL) ax BB rfl fun K210 Ix=>?_
  refine tL ?_
  refine Ix _ _ ?_
  refine bh ?_
  refine c8 (t:=0) rfl ?_
  refine yj hN ?_
  refine bG _ _ ?_
  refine aH fun K9 cJ=>?_
  refine aj (tL ·) ?_
  refine jW ?_
  refine bA hp ax hc rfl fun lz cm=>?_
  refine yj hL ?_
  refine Po ⟨by kernel_rfl,_,_,func200,rfl,bN rfl,fun IK BA=>?_⟩
  refine Mk ?_
  refine bC (Kp.all IK) ax BA rfl fun K312 Iw=>?_
  refine OS ?_
  refine Iw _ _ ?_
  refine bC (Kp.all IK) ax BA rfl fun K313 Iv=>?_
  refine tL ?_
  refine Iv _ _ ?_
  refine bh ?_
  refine c8 (t:=0) rfl ?_
  refine yj hL ?_
  refine cm _ _ (cJ _ _ ?_)
  refine aH fun nk cU=>?_
  refine bC hp ax hc rfl fun rN dQ=>?_
  refine yj (aL hl oZ) ?_
  refine cQ (jtx ws lj hw) rfl ?_
  refine yj (aL hl oZ) ?_
  refine dQ _ _ ?_
  refine eC ?_
  refine bB (cU _ _ ?_)
  refine bC hp ax hc rfl fun rM dI=>?_
  refine tL ?_
  refine cQ (fk) rfl ?_
  refine tL ?_
  refine dI _ _ ?_
  refine eN ax hc mixed rfl (q:=0) (by kernel_rfl) (by kernel_rfl) fun tG ea=>?_
  refine tL ?_
  refine cQ (FI W h1 h2) rfl ?_
  refine tL ?_
  refine ea _ _ ?_
  refine bh ?_
  try dsimp only[fb,fc]
  refine F3 rfl ?_
  refine PA ?_
  refine jty ?_
  refine vP ?_
  refine vP ?_
  show aC _ _=_
  exact Xk
theorem Cl{c:Nat}(h:c<2^62):(BitVec.ofInt 64 (c:Int)).toNat=c:=by rw[BitVec.toNat_ofInt];omega
theorem jtz{a b:Nat}(ha:a<2^62)(hb:b<2^62):pc .or .i64 (a:Int) (b:Int)=((a|||b:Nat):Int):=by
 have hx:a|||b<2^62:=Nat.or_lt_two_pow ha hb
 show IntKind.i64.wrap ((BitVec.ofInt 64 (a:Int)|||BitVec.ofInt 64 (b:Int)).toNat:Int)=_
 rw[BitVec.toNat_or,Cl ha,Cl hb]
 exact yg (by omega) (by omega)
theorem jwj{a b:Nat}(ha:a<2^62)(hb:b<2^62):pc .and .i64 (a:Int) (b:Int)=((a&&& b:Nat):Int):=by
 have hx:a&&& b<2^62:=Nat.and_lt_two_pow _ hb
 show IntKind.i64.wrap ((BitVec.ofInt 64 (a:Int)&&& BitVec.ofInt 64 (b:Int)).toNat:Int)=_
 rw[BitVec.toNat_and,Cl ha,Cl hb]
 exact yg (by omega) (by omega)
theorem jlw{a b:Nat}(ha:a<2^62)(hb:b<2^62):pc .xor .i64 (a:Int) (b:Int)=((a^^^b:Nat):Int):=by
 have hx:a^^^b<2^62:=Nat.xor_lt_two_pow ha hb
 show IntKind.i64.wrap ((BitVec.ofInt 64 (a:Int)^^^BitVec.ofInt 64 (b:Int)).toNat:Int)=_
 rw[BitVec.toNat_xor,Cl ha,Cl hb]
 exact yg (by omega) (by omega)
theorem p8{w:Nat}(h:w≤8):1≤2^w∧2^w≤256:=⟨Nat.two_pow_pos w,rj (n:=2) (by decide) h⟩
theorem Qk{v:Int}{w:Nat}(h0: -1000≤v)(h1:v≤1000)(h:w≤8):pc .and .i64 v (((2^w:Nat):Int) - 1)=v % ((2^w:Nat):Int):=by
 have hp:=p8 h
 have e1:(((2^w:Nat):Int) - 1)=((2^w - 1:Nat):Int):=by omega
 rw[e1]
 show IntKind.i64.wrap ((BitVec.ofInt 64 v&&& BitVec.ofInt 64 ((2^w - 1:Nat):Int)).toNat:Int)=_
 have hdv:2^w∣2^64:=Nat.pow_dvd_pow 2 (by omega)
 have e2:((BitVec.ofInt 64 v&&& BitVec.ofInt 64 ((2^w - 1:Nat):Int)).toNat:Int)=v % ((2^w:Nat):Int):=by
  rw[BitVec.toNat_and,Cl (show 2^w - 1<2^62 by omega),Nat.and_two_pow_sub_one_eq_mod,BitVec.toNat_ofInt]
  rw[Int.natCast_emod,zn (Int.emod_nonneg _ (by decide))]
  exact Int.emod_emod_of_dvd _ (by exact_mod_cast hdv)
 rw[e2]
 have:=Int.emod_nonneg v (show((2^w:Nat):Int)≠0 by omega)
 have:=Int.emod_lt_of_pos v (show(0:Int)<((2^w:Nat):Int) by omega)
 exact yg (by omega) (by omega)
theorem jwk{a w:Nat}(h:w≤8)(ha:a<2^w):pc .xor .i64 (a:Int) (((2^w:Nat):Int) - 1)=((2^w - 1 - a:Nat):Int):=by
 have hp:=p8 h
 have e1:(((2^w:Nat):Int) - 1)=((2^w - 1:Nat):Int):=by omega
 rw[e1,jlw (by omega) (by omega)]
 congr 1
 apply Nat.eq_of_testBit_eq
 intro i
 rw[Nat.testBit_xor,Nat.testBit_two_pow_sub_one,Nat.sub_sub,Nat.add_comm 1 a,Nat.testBit_two_pow_sub_succ ha]
 by_cases hi:i<w
 ·simp[hi]
 ·have:a<2^i:=Nat.lt_of_lt_of_le ha (rj (by decide) (by omega))
  simp[hi,Nat.testBit_lt_two_pow this]
theorem yd9{a b w:Nat}(h:w≤8)(ha:a<256)(hb:b<2^w):pc .or .i64 (IntKind.i64.wrap ((a:Int)*2^min w 64)) (b:Int)=((a*2^w+b:Nat):Int):=by
 have hp:=p8 h
 have hm:a*2^w≤256*256:=Nat.mul_le_mul (by omega) hp.2
 have e:IntKind.i64.wrap ((a:Int)*2^min w 64)=((a*2^w:Nat):Int):=by
  rw[show min w 64=w by omega,show(a:Int)*2^w=((a*2^w:Nat):Int) by push_cast;rfl]
  exact yg (by omega) (by omega)
 rw[e,jtz (by omega) (by omega)]
 congr 1
 rw[Nat.mul_comm,Nat.two_pow_add_eq_or_of_lt hb]
theorem ykx{a k:Nat}(h:k≤8):(a:Int).fdiv (2^min k 64)=((a / 2^k:Nat):Int):=by
 rw[show min k 64=k by omega,show((2:Int)^k)=((2^k:Nat):Int) by push_cast;rfl,Int.fdiv_eq_ediv_of_nonneg _ (Int.natCast_nonneg _)]
 rfl
theorem kz{p q:Prop}(hq:q)(h:p=q:=by
 conv=>lhs;simp -dsimp -implicitDefEqProofs (disch:=first|assumption|omega|(simp only[aK]<;>omega)|decide) only[aP,↓reduceIte,Nat.reduceEqDiff,Nat.reduceAdd,D.fix,Int.reduceToNat,Nat.reduceMul,Nat.reduceBNe,Nat.reduceBEq,dV,bw]):p:=h.mpr hq
theorem n3{p:Prop}(h:p:=by
 simp (disch:=first|assumption|omega|(simp only[aK]<;>omega)|decide) only[gF,Nat.reduceAdd,D.fix,↓reduceIte,Nat.reduceEqDiff,dV]):p:=h
theorem yea(ws vs:List Int)(k w:Int)(hl:ws.length=1):cC prog 210 [.agg (dV ws vs k w)] (.d (iD (nth ws 0))):=by
 refine ez (fn:=f210) (by kernel_rfl) func210 rfl (bN rfl) fun c hc hp=>?_
 refine dG (τ':=aG [(0,.d (.agg (dV ws vs k w)))]) (by repeat (first|exact bT _|refine bM ?_ (by first|rfl|(simp[aR];done)|simp[aR, *]))) ?_
 refine aj (kz ·) ?_
 refine aj (kz ·) ?_
 refine bh ?_
 show aC _ _=_
 exact n3
theorem ky{p q r:Prop}(e:r)(hq:q)(h:r→p=q:=by
 intro hY
 conv=>lhs;simp -dsimp -implicitDefEqProofs (disch:=first|assumption|omega|(simp only[aK]<;>omega)|decide) only[aP,↓reduceIte,Nat.reduceEqDiff,Nat.reduceAdd,D.fix,Int.reduceToNat,Nat.reduceMul,Nat.reduceBNe,Nat.reduceBEq,dV,bw,hY]):p:=(h e).mpr hq
theorem Dr(ws vs:List Int)(k w:Int)(hl:ws.length=2)(he:nth ws 0=nth ws 1):cC prog 213 [.agg (dV ws vs k w)] (.d (iD (nth ws 0))):=by
 have hn:(nth ws 0 !=nth ws 1)=false:=by simp[he]
 refine ez (fn:=f213) (by kernel_rfl) func213 rfl (bN rfl) fun c hc hp=>?_
 refine dG (τ':=aG [(0,.d (.agg (dV ws vs k w)))]) (by repeat (first|exact bT _|refine bM ?_ (by first|rfl|(simp[aR];done)|simp[aR, *]))) ?_
 refine aj (kz ·) ?_
 refine aH fun K2 bG=>?_
 refine eN ax hc mixed rfl (q:=0) (by kernel_rfl) (by kernel_rfl) fun K3 bS=>?_
 refine ky hn ?_
 refine bS _ _ ?_
 refine eC ?_
 refine bB (bG _ _ ?_)
 refine aj (kz ·) ?_
 refine bh ?_
 show aC _ _=_
 exact n3
theorem jt0(ws vs:List Int)(k w:Int)(hl:ws.length=2)(he:nth ws 0=nth ws 1)(h1:1≤nth ws 0):cC prog 219 [.agg (dV ws vs k w)] (.d (iD 1)):=by
 have hm:min (nth ws 0) 1=1:=by omega
 refine ez (fn:=f219) (by kernel_rfl) func219 rfl (bN rfl) fun c hc hp=>?_
 refine dG (τ':=aG [(0,.d (.agg (dV ws vs k w)))]) (by repeat (first|exact bT _|refine bM ?_ (by first|rfl|(simp[aR];done)|simp[aR, *]))) ?_
 refine aj (kz ·) ?_
 refine bC hp ax hc rfl fun K2 bG=>?_
 refine ky hm ?_
 refine cQ (Dr ws vs k w hl he) rfl ?_
 refine ky hm ?_
 refine bG _ _ ?_
 refine bh ?_
 show aC _ _=_
 exact n3
theorem Pv(ws vs:List Int)(k w:Int)(m:Nat)(hl:0<ws.length)(hm:nth ws 0=m)(h8:m≤8):cC prog 212 [.agg (dV ws vs k w)] (.d (iD ((2^m:Nat) - 1:Int))):=by
 refine ez (fn:=f212) (by kernel_rfl) func212 rfl (bN rfl) fun c hc hp=>?_
 refine dG (τ':=aG [(0,.d (.agg (dV ws vs k w)))]) (by repeat (first|exact bT _|refine bM ?_ (by first|rfl|(simp[aR];done)|simp[aR, *]))) ?_
 refine aj (kz ·) ?_
 refine bC hp ax hc rfl fun K2 bG=>?_
 refine ky hm ?_
 refine cQ (I5 m h8) rfl ?_
 refine ky hm ?_
 refine bG _ _ ?_
 refine bh ?_
 show aC _ _=_
 exact n3
theorem Le{p q:Prop}(hq:q)(h:p=q:=by
 conv=>lhs;simp -dsimp -implicitDefEqProofs (disch:=first|assumption|omega|(simp only[aK]<;>omega)|decide) only[aP,↓reduceIte,Nat.reduceEqDiff,Nat.reduceAdd,D.fix,Int.reduceToNat,Nat.reduceMul,Nat.reduceBNe,Nat.reduceBEq]):p:=h.mpr hq
theorem Xj{p q:Prop}(hq:q)(h:p=q:=by
 conv=>lhs;simp (disch:=first|assumption|omega|(simp only[aK]<;>omega)|decide) only[gF,Nat.reduceAdd,D.fix,↓reduceIte,Nat.reduceEqDiff]):p:=h.mpr hq
theorem jt1(b:Bool):cC prog 221 [oD b] (.d (iD (if b then 1 else 0))):=by
 refine ez (fn:=f221) (by kernel_rfl) func221 rfl (bN rfl) fun c hc hp=>?_
 refine dG (τ':=aG [(0,.d (oD b))]) (by repeat (first|exact bT _|refine bM ?_ (by first|rfl|(simp[aR];done)|simp[aR, *]))) ?_
 refine aj (Le ·) ?_
 refine aH fun K2 bG=>?_
 refine aj (Le ·) ?_
 refine aX rfl (fun ht=>?_) (fun ht=>?_)
 ·refine aj (Le ·) ?_
  refine bh ?_
  show aC _ _=_
  refine Xj ?_
  cases b<;>first|rfl|cases ht
 ·refine bB (bG _ _ ?_)
  refine aj (Le ·) ?_
  refine bh ?_
  show aC _ _=_
  refine Xj ?_
  cases b<;>first|rfl|cases ht
theorem yeb(ws vs:List Int)(k w:Int)(m a:Nat)(hl:ws.length=1)(hv:vs.length=1)(hm:nth ws 0=m)(h8:m≤8)(ha:nth vs 0=a)(hb:a<2^m):cC prog 211 [.agg (dV ws vs k w)] (.d (iD ((2^m - 1 - a:Nat):Int))):=by
 have hx:=jwk h8 hb
 refine ez (fn:=f211) (by kernel_rfl) func211 rfl (bN rfl) fun c hc hp=>?_
 refine dG (τ':=aG [(0,.d (.agg (dV ws vs k w)))]) (by repeat (first|exact bT _|refine bM ?_ (by first|rfl|(simp[aR];done)|simp[aR, *]))) ?_
 refine aj (kz ·) ?_
 refine eN ax hc mixed rfl (q:=0) (by kernel_rfl) (by kernel_rfl) fun K2 bG=>?_
 refine ky (aL ha hx) ?_
 refine cQ (Pv ws vs k w m (by omega) hm h8) rfl ?_
 refine ky (aL ha hx) ?_
 refine bG _ _ ?_
 refine bh ?_
 show aC _ _=_
 exact n3
theorem yec(ws vs:List Int)(k w:Int)(a b:Nat)(hv:vs.length=2)(ha:nth vs 0=a)(hb:nth vs 1=b)(h1:a<256)(h2:b<256):cC prog 214 [.agg (dV ws vs k w)] (.d (iD ((a&&& b:Nat):Int))):=by
 have hx:=jwj (a:=a) (b:=b) (by omega) (by omega)
 refine ez (fn:=f214) (by kernel_rfl) func214 rfl (bN rfl) fun c hc hp=>?_
 refine dG (τ':=aG [(0,.d (.agg (dV ws vs k w)))]) (by repeat (first|exact bT _|refine bM ?_ (by first|rfl|(simp[aR];done)|simp[aR, *]))) ?_
 refine aj (kz ·) ?_
 refine eN ax hc mixed rfl (q:=0) (by kernel_rfl) (by kernel_rfl) fun K2 bG=>?_
 refine ky (aL ha (aL hb hx)) ?_
 refine bG _ _ ?_
 refine bh ?_
 show aC _ _=_
 exact n3
theorem yky(ws vs:List Int)(k w:Int)(a b:Nat)(hv:vs.length=2)(ha:nth vs 0=a)(hb:nth vs 1=b)(h1:a<256)(h2:b<256):cC prog 215 [.agg (dV ws vs k w)] (.d (iD ((a|||b:Nat):Int))):=by
 have hx:=jtz (a:=a) (b:=b) (by omega) (by omega)
 refine ez (fn:=f215) (by kernel_rfl) func215 rfl (bN rfl) fun c hc hp=>?_
 refine dG (τ':=aG [(0,.d (.agg (dV ws vs k w)))]) (by repeat (first|exact bT _|refine bM ?_ (by first|rfl|(simp[aR];done)|simp[aR, *]))) ?_
 refine aj (kz ·) ?_
 refine eN ax hc mixed rfl (q:=0) (by kernel_rfl) (by kernel_rfl) fun K2 bG=>?_
 refine ky (aL ha (aL hb hx)) ?_
 refine bG _ _ ?_
 refine bh ?_
 show aC _ _=_
 exact n3
theorem yed(ws vs:List Int)(k w:Int)(a b:Nat)(hv:vs.length=2)(ha:nth vs 0=a)(hb:nth vs 1=b)(h1:a<256)(h2:b<256):cC prog 216 [.agg (dV ws vs k w)] (.d (iD ((a^^^b:Nat):Int))):=by
 have hx:=jlw (a:=a) (b:=b) (by omega) (by omega)
 refine ez (fn:=f216) (by kernel_rfl) func216 rfl (bN rfl) fun c hc hp=>?_
 refine dG (τ':=aG [(0,.d (.agg (dV ws vs k w)))]) (by repeat (first|exact bT _|refine bM ?_ (by first|rfl|(simp[aR];done)|simp[aR, *]))) ?_
 refine aj (kz ·) ?_
 refine eN ax hc mixed rfl (q:=0) (by kernel_rfl) (by kernel_rfl) fun K2 bG=>?_
 refine ky (aL ha (aL hb hx)) ?_
 refine bG _ _ ?_
 refine bh ?_
 show aC _ _=_
 exact n3
theorem yee(ws vs:List Int)(k w:Int)(m a b:Nat)(hl:0<ws.length)(hv:vs.length=2)(hm:nth ws 0=m)(h8:m≤8)(ha:nth vs 0=a)(hb:nth vs 1=b)(h1:a<256)(h2:b<256):cC prog 217 [.agg (dV ws vs k w)] (.d (iD (((a+b) % 2^m:Nat):Int))):=by
 have hx:pc .and .i64 ((a:Int)+b) (((2^m:Nat):Int) - 1)=(((a+b) % 2^m:Nat):Int):=by rw[Qk (by omega) (by omega) h8];push_cast;rfl
 refine ez (fn:=f217) (by kernel_rfl) func217 rfl (bN rfl) fun c hc hp=>?_
 refine dG (τ':=aG [(0,.d (.agg (dV ws vs k w)))]) (by repeat (first|exact bT _|refine bM ?_ (by first|rfl|(simp[aR];done)|simp[aR, *]))) ?_
 refine aj (kz ·) ?_
 refine eN ax hc mixed rfl (q:=0) (by kernel_rfl) (by kernel_rfl) fun K2 bG=>?_
 refine ky (aL ha (aL hb hx)) ?_
 refine cQ (Pv ws vs k w m hl hm h8) rfl ?_
 refine ky (aL ha (aL hb hx)) ?_
 refine bG _ _ ?_
 refine bh ?_
 show aC _ _=_
 exact n3
theorem yef(ws vs:List Int)(k w:Int)(m a b:Nat)(hl:0<ws.length)(hv:vs.length=2)(hm:nth ws 0=m)(h8:m≤8)(ha:nth vs 0=a)(hb:nth vs 1=b)(h1:a<256)(h2:b<2^m):cC prog 218 [.agg (dV ws vs k w)] (.d (iD (((a+(2^m - b)) % 2^m:Nat):Int))):=by
 have hp:=p8 h8
 have hx:pc .and .i64 ((a:Int) - b) (((2^m:Nat):Int) - 1)=(((a+(2^m - b)) % 2^m:Nat):Int):=by
  rw[Qk (by omega) (by omega) h8,Int.natCast_emod,show((a+(2^m - b):Nat):Int)=((a:Int) - b)+((2^m:Nat):Int) by omega,Int.add_emod_right]
 refine ez (fn:=f218) (by kernel_rfl) func218 rfl (bN rfl) fun c hc hp=>?_
 refine dG (τ':=aG [(0,.d (.agg (dV ws vs k w)))]) (by repeat (first|exact bT _|refine bM ?_ (by first|rfl|(simp[aR];done)|simp[aR, *]))) ?_
 refine aj (kz ·) ?_
 refine eN ax hc mixed rfl (q:=0) (by kernel_rfl) (by kernel_rfl) fun K2 bG=>?_
 refine ky (aL ha (aL hb hx)) ?_
 refine cQ (Pv ws vs k w m hl hm h8) rfl ?_
 refine ky (aL ha (aL hb hx)) ?_
 refine bG _ _ ?_
 refine bh ?_
 show aC _ _=_
 exact n3
theorem ykz(ws vs:List Int)(k w:Int)(a b:Nat)(hv:vs.length=2)(ha:nth vs 0=a)(hb:nth vs 1=b):cC prog 220 [.agg (dV ws vs k w)] (.d (iD ((if a=b then 1 else 0:Nat):Int))):=by
 have hx:((a:Int)==(b:Int))=decide (a=b):=by rw[Bool.eq_iff_iff,beq_iff_eq,decide_eq_true_iff];omega
 have hy:(if decide (a=b)=true then(1:Int)else 0)=((if a=b then 1 else 0:Nat):Int):=by by_cases h:a=b<;>simp[h]
 refine ez (fn:=f220) (by kernel_rfl) func220 rfl (bN rfl) fun c hc hp=>?_
 refine dG (τ':=aG [(0,.d (.agg (dV ws vs k w)))]) (by repeat (first|exact bT _|refine bM ?_ (by first|rfl|(simp[aR];done)|simp[aR, *]))) ?_
 refine aj (kz ·) ?_
 refine eN ax hc mixed rfl (q:=0) (by kernel_rfl) (by kernel_rfl) fun K2 bG=>?_
 refine ky (aL ha (aL hb (aL hx hy))) ?_
 refine cQ (jt1 (decide (a=b))) rfl ?_
 refine ky (aL ha (aL hb (aL hx hy))) ?_
 refine bG _ _ ?_
 refine bh ?_
 show aC _ _=_
 exact n3
theorem yk0(ws vs:List Int)(k w:Int)(a b:Nat)(hv:vs.length=2)(ha:nth vs 0=a)(hb:nth vs 1=b):cC prog 222 [.agg (dV ws vs k w)] (.d (iD ((if a<b then 1 else 0:Nat):Int))):=by
 have hx:decide ((a:Int)<(b:Int))=decide (a<b):=by rw[Bool.eq_iff_iff];simp
 have hy:(if decide (a<b)=true then(1:Int)else 0)=((if a<b then 1 else 0:Nat):Int):=by by_cases h:a<b<;>simp[h]
 refine ez (fn:=f222) (by kernel_rfl) func222 rfl (bN rfl) fun c hc hp=>?_
 refine dG (τ':=aG [(0,.d (.agg (dV ws vs k w)))]) (by repeat (first|exact bT _|refine bM ?_ (by first|rfl|(simp[aR];done)|simp[aR, *]))) ?_
 refine aj (kz ·) ?_
 refine eN ax hc mixed rfl (q:=0) (by kernel_rfl) (by kernel_rfl) fun K2 bG=>?_
 refine ky (aL ha (aL hb (aL hx hy))) ?_
 refine cQ (jt1 (decide (a<b))) rfl ?_
 refine ky (aL ha (aL hb (aL hx hy))) ?_
 refine bG _ _ ?_
 refine bh ?_
 show aC _ _=_
 exact n3
theorem yeg(ws vs:List Int)(k w:Nat)(h1:1≤w)(h8:w≤8)(hk:k<2^w):cC prog 223 [.agg (dV ws vs k w)] (.d (iD w)):=by
 have q1:decide ((k:Int)<0)=false:=decide_eq_false (by omega)
 have q2:decide (((2^w:Nat):Int) - 1<(k:Int))=false:=decide_eq_false (by omega)
 refine ez (fn:=f223) (by kernel_rfl) func223 rfl (bN rfl) fun c hc hp=>?_
 refine dG (τ':=aG [(0,.d (.agg (dV ws vs k w)))]) (by repeat (first|exact bT _|refine bM ?_ (by first|rfl|(simp[aR];done)|simp[aR, *]))) ?_
 refine aj (kz ·) ?_
 refine aH fun K2 bG=>?_
 refine eN ax hc mixed rfl (q:=0) (by kernel_rfl) (by kernel_rfl) fun K3 bS=>?_
 refine ky (aL q1 q2) ?_
 refine cQ (FI w (by omega) (by omega)) rfl ?_
 refine ky (aL q1 q2) ?_
 refine cQ (I5 w h8) rfl ?_
 refine ky (aL q1 q2) ?_
 refine bS _ _ ?_
 refine eC ?_
 refine bB (bG _ _ ?_)
 refine aj (kz ·) ?_
 refine bh ?_
 show aC _ _=_
 exact n3
theorem yeh(ws vs:List Int)(k w:Int):cC prog 224 [.agg (dV ws vs k w)] (.d (iD k)):=by
 refine ez (fn:=f224) (by kernel_rfl) func224 rfl (bN rfl) fun c hc hp=>?_
 refine dG (τ':=aG [(0,.d (.agg (dV ws vs k w)))]) (by repeat (first|exact bT _|refine bM ?_ (by first|rfl|(simp[aR];done)|simp[aR, *]))) ?_
 refine aj (kz ·) ?_
 refine aj (kz ·) ?_
 refine bh ?_
 show aC _ _=_
 exact n3
theorem yei(ws vs:List Int)(k w:Int)(hl:ws.length=3)(h0:nth ws 0=1)(he:nth ws 1=nth ws 2):cC prog 225 [.agg (dV ws vs k w)] (.d (iD (nth ws 1))):=by
 have q1:(nth ws 0 !=1)=false:=by rw[h0];rfl
 have q2:(nth ws 1 !=nth ws 2)=false:=by simp[he]
 refine ez (fn:=f225) (by kernel_rfl) func225 rfl (bN rfl) fun c hc hp=>?_
 refine dG (τ':=aG [(0,.d (.agg (dV ws vs k w)))]) (by repeat (first|exact bT _|refine bM ?_ (by first|rfl|(simp[aR];done)|simp[aR, *]))) ?_
 refine aj (kz ·) ?_
 refine aH fun K2 bG=>?_
 refine eN ax hc mixed rfl (q:=0) (by kernel_rfl) (by kernel_rfl) fun K3 bS=>?_
 refine ky (aL q1 q2) ?_
 refine bS _ _ ?_
 refine eC ?_
 refine bB (bG _ _ ?_)
 refine aj (kz ·) ?_
 refine bh ?_
 show aC _ _=_
 exact n3
theorem yej(ws vs:List Int)(k w:Int)(a:Nat)(hv:vs.length=3)(ha:nth vs 0=a)(h1:a<2):cC prog 226 [.agg (dV ws vs k w)] (.d (iD (if a=1 then nth vs 1 else nth vs 2))):=by
 have hx:nth vs ((2:Int) - a).toNat=if a=1 then nth vs 1 else nth vs 2:=by
  rcases(show a=0∨a=1 by omega)with rfl|rfl<;>rfl
 refine ez (fn:=f226) (by kernel_rfl) func226 rfl (bN rfl) fun c hc hp=>?_
 refine dG (τ':=aG [(0,.d (.agg (dV ws vs k w)))]) (by repeat (first|exact bT _|refine bM ?_ (by first|rfl|(simp[aR];done)|simp[aR, *]))) ?_
 refine aj (kz ·) ?_
 refine eN ax hc mixed rfl (q:=0) (by kernel_rfl) (by kernel_rfl) fun K2 bG=>?_
 refine ky (aL ha hx) ?_
 refine bG _ _ ?_
 refine bh ?_
 show aC _ _=_
 exact n3
theorem yek(ws vs:List Int)(k w:Int)(m n:Nat)(hl:ws.length=2)(h0:nth ws 0=m)(h1:nth ws 1=n)(h8:m≤8)(hn:n≤8):cC prog 227 [.agg (dV ws vs k w)] (.d (iD ((m+n:Nat):Int))):=by
 refine ez (fn:=f227) (by kernel_rfl) func227 rfl (bN rfl) fun c hc hp=>?_
 refine dG (τ':=aG [(0,.d (.agg (dV ws vs k w)))]) (by repeat (first|exact bT _|refine bM ?_ (by first|rfl|(simp[aR];done)|simp[aR, *]))) ?_
 refine bC hp ax hc rfl fun K1 rE=>?_
 simp -dsimp -implicitDefEqProofs (disch:=first|assumption|omega|(simp only[aK]<;>omega)|decide) only[aP,↓reduceIte,Nat.reduceEqDiff,Nat.reduceAdd,D.fix,Int.reduceToNat,Nat.reduceMul,Nat.reduceBNe,Nat.reduceBEq,dV,Int.natCast_add,bw]
 refine rE _ _ ?_
 refine eN ax hc mixed rfl (q:=0) (by kernel_rfl) (by kernel_rfl) fun K2 bG=>?_
 simp -dsimp -implicitDefEqProofs (disch:=first|assumption|omega|(simp only[aK]<;>omega)|decide) only[aP,↓reduceIte,Nat.reduceEqDiff,Nat.reduceAdd,D.fix,Int.reduceToNat,Nat.reduceMul,Nat.reduceBNe,Nat.reduceBEq,dV,Int.natCast_add,h0,h1,bw]
 refine bG _ _ ?_
 refine bh ?_
 show aC _ _=_
 simp (disch:=first|assumption|omega|(simp only[aK]<;>omega)|decide) only[gF,Nat.reduceAdd,D.fix,↓reduceIte,Nat.reduceEqDiff,dV,Int.natCast_add]
theorem yel(ws vs:List Int)(k w:Int)(n a b:Nat)(hl:ws.length=2)(hv:vs.length=2)(h1:nth ws 1=n)(hn:n≤8)(ha:nth vs 0=a)(hb:nth vs 1=b)(h2:a<256)(h3:b<2^n):cC prog 228 [.agg (dV ws vs k w)] (.d (iD ((a*2^n+b:Nat):Int))):=by
 have hx:=yd9 hn h2 h3
 refine ez (fn:=f228) (by kernel_rfl) func228 rfl (bN rfl) fun c hc hp=>?_
 refine dG (τ':=aG [(0,.d (.agg (dV ws vs k w)))]) (by repeat (first|exact bT _|refine bM ?_ (by first|rfl|(simp[aR];done)|simp[aR, *]))) ?_
 refine aj (kz ·) ?_
 refine eN ax hc mixed rfl (q:=0) (by kernel_rfl) (by kernel_rfl) fun K2 bG=>?_
 refine ky (aL h1 (aL ha (aL hb hx))) ?_
 refine bG _ _ ?_
 refine bh ?_
 show aC _ _=_
 exact n3
theorem yem(ws vs:List Int)(k w m:Nat)(hl:ws.length=1)(h0:nth ws 0=m)(h1:1≤w)(h8:w≤8)(hk:k+w≤m)(hm:m≤8):cC prog 229 [.agg (dV ws vs k w)] (.d (iD w)):=by
 have q1:decide ((k:Int)<0)=false:=decide_eq_false (by omega)
 have q2:decide ((m:Int) - w<(k:Int))=false:=decide_eq_false (by omega)
 refine ez (fn:=f229) (by kernel_rfl) func229 rfl (bN rfl) fun c hc hp=>?_
 refine dG (τ':=aG [(0,.d (.agg (dV ws vs k w)))]) (by repeat (first|exact bT _|refine bM ?_ (by first|rfl|(simp[aR];done)|simp[aR, *]))) ?_
 refine aj (kz ·) ?_
 refine aH fun K2 bG=>?_
 refine eN ax hc mixed rfl (q:=0) (by kernel_rfl) (by kernel_rfl) fun K3 bS=>?_
 refine ky (aL h0 (aL q1 q2)) ?_
 refine cQ (FI w (by omega) (by omega)) rfl ?_
 refine ky (aL h0 (aL q1 q2)) ?_
 refine bS _ _ ?_
 refine eC ?_
 refine bB (bG _ _ ?_)
 refine aj (kz ·) ?_
 refine bh ?_
 show aC _ _=_
 exact n3
theorem yen(ws vs:List Int)(k w a:Nat)(hv:vs.length=1)(ha:nth vs 0=a)(h8:w≤8)(hk:k≤8)(hb:a<256):cC prog 230 [.agg (dV ws vs k w)] (.d (iD ((a / 2^k % 2^w:Nat):Int))):=by
 have hx:=ykx (a:=a) hk
 have hle:a / 2^k≤a:=Nat.div_le_self _ _
 have hy:pc .and .i64 ((a / 2^k:Nat):Int) (((2^w:Nat):Int) - 1)=((a / 2^k % 2^w:Nat):Int):=by
  generalize a / 2^k=q at hle ⊢
  rw[Qk (by omega) (by omega) h8,Int.natCast_emod]
 refine ez (fn:=f230) (by kernel_rfl) func230 rfl (bN rfl) fun c hc hp=>?_
 refine dG (τ':=aG [(0,.d (.agg (dV ws vs k w)))]) (by repeat (first|exact bT _|refine bM ?_ (by first|rfl|(simp[aR];done)|simp[aR, *]))) ?_
 refine aj (kz ·) ?_
 refine eN ax hc mixed rfl (q:=0) (by kernel_rfl) (by kernel_rfl) fun K2 bG=>?_
 refine ky (aL ha (aL hx hy)) ?_
 refine cQ (I5 w h8) rfl ?_
 refine ky (aL ha (aL hx hy)) ?_
 refine bG _ _ ?_
 refine bh ?_
 show aC _ _=_
 exact n3
theorem yeo(ws vs:List Int)(k w:Int)(hl:ws.length=1)(h0:nth ws 0≤w):cC prog 231 [.agg (dV ws vs k w)] (.d (iD w)):=by
 have q1:decide (w<nth ws 0)=false:=decide_eq_false (by omega)
 refine ez (fn:=f231) (by kernel_rfl) func231 rfl (bN rfl) fun c hc hp=>?_
 refine dG (τ':=aG [(0,.d (.agg (dV ws vs k w)))]) (by repeat (first|exact bT _|refine bM ?_ (by first|rfl|(simp[aR];done)|simp[aR, *]))) ?_
 refine aj (kz ·) ?_
 refine aH fun K2 bG=>?_
 refine eN ax hc mixed rfl (q:=0) (by kernel_rfl) (by kernel_rfl) fun K3 bS=>?_
 refine ky q1 ?_
 refine bS _ _ ?_
 refine eC ?_
 refine bB (bG _ _ ?_)
 refine aj (kz ·) ?_
 refine bh ?_
 show aC _ _=_
 exact n3
theorem yep(ws vs:List Int)(k w:Int)(hv:vs.length=1):cC prog 232 [.agg (dV ws vs k w)] (.d (iD (nth vs 0))):=by
 refine ez (fn:=f232) (by kernel_rfl) func232 rfl (bN rfl) fun c hc hp=>?_
 refine dG (τ':=aG [(0,.d (.agg (dV ws vs k w)))]) (by repeat (first|exact bT _|refine bM ?_ (by first|rfl|(simp[aR];done)|simp[aR, *]))) ?_
 refine aj (kz ·) ?_
 refine aj (kz ·) ?_
 refine bh ?_
 show aC _ _=_
 exact n3
theorem tK{p q:Prop}(hq:q)(h:p=q:=by
 conv=>lhs;simp -dsimp -implicitDefEqProofs (disch:=first|assumption|omega|(simp only[aK]<;>omega)|decide) only[aP,↓reduceIte,Nat.reduceEqDiff,Nat.reduceAdd,D.fix,Int.reduceToNat,Nat.reduceMul,Nat.reduceBNe,Nat.reduceBEq,dV,kJ,wD,uO,bw]):p:=h.mpr hq
theorem Yp{p q:Prop}(hq:q)(h:p=q:=by
 conv=>lhs;simp -dsimp -implicitDefEqProofs (disch:=first|assumption|omega|(simp only[aK]<;>omega)|decide) only[aP,↓reduceIte,Nat.reduceEqDiff,Nat.reduceAdd,D.fix,Int.reduceToNat,Nat.reduceMul,Nat.reduceBNe,Nat.reduceBEq,dV,kJ,wD,uO]):p:=h.mpr hq
theorem jpd(op ar:Int)(fw fv:FuncId)(ws:List Int)(k w W:Int)(hr:mN op ar fw fv∨pj op ar fw fv)(hl:(ws.length:Int)=ar)(hw:∀k,k<ws.length→1≤nth ws k∧nth ws k≤8)(h1:1≤W)(h2:W≤8)(fk:cC prog fw [.agg (dV ws [] k w)] (.d (iD W))):cC prog 128 [iD op,av ws,.agg [iD k,iD w]] (.dc [.d (iD W),.d (iD 0)]):=by
 refine ez (fn:=f128) (by kernel_rfl) func128 rfl (bN rfl) fun c hc hp=>?_
 refine dG (τ':=aG [(0,.d (iD op)),(1,.d (av ws)),(2,.d (.agg [iD k,iD w]))]) (by repeat (first|exact bT _|refine bM ?_ (by first|rfl|(simp[aR];done)|simp[aR, *]))) ?_
 refine aj (tK ·) ?_
 refine bC hp ax hc rfl fun K2 bG=>?_
 refine tK ?_
 refine cQ (je2 op ar fw fv ws [] k w W hr hl hw h1 h2 fk) rfl ?_
 refine tK ?_
 refine bG _ _ ?_
 refine aH fun K3 bS=>?_
 refine aj (tK ·) ?_
 refine eC ?_
 refine bB (bS _ _ ?_)
 refine aj (Yp ·) ?_
 refine bh ?_
 show aC _ _=_
 simp (disch:=first|assumption|omega|(simp only[aK]<;>omega)|decide) only[gF,Nat.reduceAdd,D.fix,↓reduceIte,Nat.reduceEqDiff,dV,kJ,wD,uO]
theorem OR{p q r:Prop}(e:r)(hq:q)(h:r→p=q:=by
 intro hY
 conv=>lhs;simp -dsimp -implicitDefEqProofs (disch:=first|assumption|omega|(simp only[aK]<;>omega)|decide) only[aP,↓reduceIte,Nat.reduceEqDiff,Nat.reduceAdd,D.fix,Int.reduceToNat,Nat.reduceMul,Nat.reduceBNe,Nat.reduceBEq,dV,kJ,wD,uO,bw,hY]):p:=(h e).mpr hq
theorem Xi{m:List Nat}{τ τ':Fr}{H H':ak}(h2:H=H')(h:fm τ τ':=by
 repeat (first|exact bT _|refine bM ?_ (by first|rfl|(simp[aR];done)|simp[aR, *]))):Rt m τ H τ' H':=Rt.end h h2
theorem Xh{p:Prop}(h:p:=by
 first|rfl|(simp only[cD,Nat.reduceAdd,↓reduceIte,Nat.reduceEqDiff,dV,kJ,wD,uO];first|done|rfl)):p:=h
theorem jpe(op ar:Int)(fw fv:FuncId)(ws vs:List Int)(k w W V:Int)(hr:mN op ar fw fv∨pj op ar fw fv)(hl:(ws.length:Int)=ar)(hw:∀k,k<ws.length→1≤nth ws k∧nth ws k≤8)(h1:1≤W)(h2:W≤8)(fk:cC prog fw [.agg (dV ws vs k w)] (.d (iD W)))(rC:cC prog fv [.agg (dV ws vs k w)] (.d (iD V)))(H4:vs.length=ws.length)(lj:vs.length≤10)(hv:∀i,i<vs.length→0≤nth vs i∧nth vs i<2^(nth ws i).toNat):w9 prog 127 [iD op,av ws,av vs,av [k,w]] (.dc [.d (iD V),.d (iD 0)]):=by
 have q0:((vs.length:Int) !=(ws.length:Int))=false:=by rw[H4];exact bne_self_eq_false _
 have q2:(((2:Nat):Int) !=2)=false:=rfl
 refine Td (fn:=f127) (by kernel_rfl) func127 rfl (bN rfl) fun c hc hp=>?_
 refine dG (τ':=aG [(0,.d (iD op)),(1,.d (av ws)),(2,.d (av vs)),(3,.d (av [k,w]))]) (by repeat (first|exact bT _|refine bM ?_ (by first|rfl|(simp[aR];done)|simp[aR, *]))) ?_
 refine aj (Yp ·) ?_
 refine aH fun K2 bG=>?_
 refine aj (OR (aL q2 q0) ·) ?_
 refine eC ?_
 refine bB (bG _ _ ?_)
 refine eN ax hc mixed rfl (q:=1) (by kernel_rfl) (by kernel_rfl) fun K4 dD=>?_
 refine tK ?_
 refine dD _ _ ?_
 refine bC hp ax hc rfl fun K5 fA=>?_
 refine tK ?_
 refine cQ (je2 op ar fw fv ws vs k w W hr hl hw h1 h2 fk) rfl ?_
 refine tK ?_
 refine fA _ _ ?_
 refine aH fun K6 cF=>?_
 refine aj (tK ·) ?_
 refine eC ?_
 refine bB (cF _ _ ?_)
 refine aH fun K8 dC=>?_
 refine aj (tK ·) ?_
 refine aW ?_
 refine c9 hp (fun τ' H' mm=>∃i,(i≤vs.length)∧mm=vs.length - i∧H'=[.cells ((dV ws vs k w).map .d),.cells [.d (iD ar),.d (kJ fw),.d (kJ fv)]]∧τ'=aG [(1,.d (av ws)),(10,.op 0 0),(11,.op 1 0),(44,.d (av vs)),(45,.d (iD vs.length)),(46,.d (iD i))]) (vs.length) ?_ ⟨0,cy _,rfl,rfl,rfl⟩ ?_
 ·refine Xi ?_
  exact Xh
 rintro τ' H' mm ⟨i,hi,rfl,rfl,rfl⟩
 refine aj (tK ·) ?_
 refine aH fun lz cm=>?_
 refine aX rfl (fun ht=>?_) (fun ht=>?_)
 ·have aA:i<vs.length:=by simp at ht;omega
  have hvi:=hv i aA
  have px:=hw i (by omega)
  obtain⟨m,hm⟩:=Int.eq_ofNat_of_zero_le (show 0≤nth ws i by omega)
  rw[hm]at hvi px
  have nL:((2^m:Nat):Int)=2^m:=by push_cast;rfl
  have q3:decide (nth vs i<0)=false:=decide_eq_false (by omega)
  have q4:decide (((2^m:Nat):Int) - 1<nth vs i)=false:=decide_eq_false (by rw[nL];have:=hvi.2;rw[Int.toNat_natCast]at this;omega)
  refine bB (cm _ _ ?_)
  refine aH fun nk cU=>?_
  refine aW ?_
  refine aj (tK ·) ?_
  refine bC hp ax hc rfl fun rM dI=>?_
  refine OR (aL q3 (aL q4 hm)) ?_
  refine cQ (I5 m (by omega)) rfl ?_
  refine OR (aL q3 (aL q4 hm)) ?_
  refine dI _ _ ?_
  refine eC ?_
  refine bB (cU _ _ ?_)
  refine bA hp ax hc rfl fun tG ea=>?_
  refine tK ?_
  refine ea _ _ ⟨_,_,_,?_,⟨i+1,by omega,rfl,rfl,rfl⟩,?_⟩
  ·first|omega|(simp only[List.length_cons];omega)|(dsimp only;omega)
  ·refine Xi ?_
   exact Xh
 ·refine cL (dC _ _ ?_)
  refine bC hp ax hc rfl fun pM df=>?_
  refine tK ?_
  refine cQ (rC) rfl ?_
  refine tK ?_
  refine df _ _ ?_
  refine bh ?_
  show gy _ _=_
  simp (disch:=first|assumption|omega|(simp only[aK]<;>omega)|decide) only[gF,Nat.reduceAdd,D.fix,↓reduceIte,Nat.reduceEqDiff,dV,kJ,wD,uO]
  rfl
def wk(c:Ct)(e:Ex):List Int:=(aV e).map fun x=>((aM c x:Nat):Int)
def yB(c:Ct)(ag data:List Nat)(mems:List (List Int))(e:Ex):List Int:=(aV e).map fun x=>((bF c ag data mems x:Nat):Int)
theorem jpf{c:Ct}{q:Bool}{ag data:List Nat}{mems:List (List Int)}(hc:kN c)(hs:rK c ag data mems){e:Ex}(h:WT c q e)(h1:cO e≠16)(h2:cO e≠17)(h3:cO e≠18):
  ∃ar fw fv,(mN (cO e) ar fw fv∨pj (cO e) ar fw fv)∧((aV e).length:Int)=ar∧
   (∀vs,cC prog fw [.agg (dV (wk c e) vs (kEx e) (u4 e))] (.d (iD (aM c e))))∧
   cC prog fv [.agg (dV (wk c e) (yB c ag data mems e) (kEx e) (u4 e))] (.d (iD (bF c ag data mems e))):=by
 have W:∀{x:Ex},WT c q x→1≤aM c x∧aM c x≤8:=fun hx=>jy hc hx
 have V:∀{x:Ex},WT c q x→bF c ag data mems x<2^aM c x:=fun hx=>tS hc hs _ hx
 have V8:∀{x:Ex},WT c q x→bF c ag data mems x<256:=fun hx=>Nat.lt_of_lt_of_le (V hx) (p8 (W hx).2).2
 cases e with
 |lM v w=>exact⟨0,223,224,.inr (show pj 1 0 _ _ by unfold pj;decide),rfl,fun vs=>yeg [] vs v w h.1 h.2.1 h.2.2,yeh [] [] v w⟩
 |fe i=>exact absurd rfl h1
 |dZ i=>exact absurd rfl h3
 |not a=>exact⟨1,210,211,.inl (show mN 2 1 _ _ by unfold mN;decide),rfl,fun vs=>yea [((aM c a:Nat):Int)] vs 0 0 rfl,yeb [((aM c a:Nat):Int)] [((bF c ag data mems a:Nat):Int)] 0 0 (aM c a) (bF c ag data mems a) rfl rfl rfl (W h).2 rfl (V h)⟩
 |two o a b=>
  obtain⟨ho,ha,hb,hw⟩:=h
  have he:nth [((aM c a:Nat):Int),((aM c b:Nat):Int)] 0=nth [((aM c a:Nat):Int),((aM c b:Nat):Int)] 1:=congrArg (fun n:Nat=>(n:Int)) hw
  rcases ho with rfl|rfl|rfl
  ·exact⟨2,213,214,.inl (show mN 3 2 _ _ by unfold mN;decide),rfl,fun vs=>Dr [((aM c a:Nat):Int),((aM c b:Nat):Int)] vs 0 0 rfl he,yec [((aM c a:Nat):Int),((aM c b:Nat):Int)] [((bF c ag data mems a:Nat):Int),((bF c ag data mems b:Nat):Int)] 0 0 (bF c ag data mems a) (bF c ag data mems b) rfl rfl rfl (V8 ha) (V8 hb)⟩
  ·exact⟨2,213,215,.inl (show mN 4 2 _ _ by unfold mN;decide),rfl,fun vs=>Dr [((aM c a:Nat):Int),((aM c b:Nat):Int)] vs 0 0 rfl he,yky [((aM c a:Nat):Int),((aM c b:Nat):Int)] [((bF c ag data mems a:Nat):Int),((bF c ag data mems b:Nat):Int)] 0 0 (bF c ag data mems a) (bF c ag data mems b) rfl rfl rfl (V8 ha) (V8 hb)⟩
  ·exact⟨2,213,216,.inl (show mN 5 2 _ _ by unfold mN;decide),rfl,fun vs=>Dr [((aM c a:Nat):Int),((aM c b:Nat):Int)] vs 0 0 rfl he,yed [((aM c a:Nat):Int),((aM c b:Nat):Int)] [((bF c ag data mems a:Nat):Int),((bF c ag data mems b:Nat):Int)] 0 0 (bF c ag data mems a) (bF c ag data mems b) rfl rfl rfl (V8 ha) (V8 hb)⟩
 |add a b=>
  obtain⟨ha,hb,hw⟩:=h
  have he:nth [((aM c a:Nat):Int),((aM c b:Nat):Int)] 0=nth [((aM c a:Nat):Int),((aM c b:Nat):Int)] 1:=congrArg (fun n:Nat=>(n:Int)) hw
  exact⟨2,213,217,.inl (show mN 6 2 _ _ by unfold mN;decide),rfl,fun vs=>Dr [((aM c a:Nat):Int),((aM c b:Nat):Int)] vs 0 0 rfl he,yee [((aM c a:Nat):Int),((aM c b:Nat):Int)] [((bF c ag data mems a:Nat):Int),((bF c ag data mems b:Nat):Int)] 0 0 (aM c a) (bF c ag data mems a) (bF c ag data mems b) (Nat.zero_lt_succ _) rfl rfl (W ha).2 rfl rfl (V8 ha) (V8 hb)⟩
 |sub a b=>
  obtain⟨ha,hb,hw⟩:=h
  have he:nth [((aM c a:Nat):Int),((aM c b:Nat):Int)] 0=nth [((aM c a:Nat):Int),((aM c b:Nat):Int)] 1:=congrArg (fun n:Nat=>(n:Int)) hw
  exact⟨2,213,218,.inl (show mN 7 2 _ _ by unfold mN;decide),rfl,fun vs=>Dr [((aM c a:Nat):Int),((aM c b:Nat):Int)] vs 0 0 rfl he,yef [((aM c a:Nat):Int),((aM c b:Nat):Int)] [((bF c ag data mems a:Nat):Int),((bF c ag data mems b:Nat):Int)] 0 0 (aM c a) (bF c ag data mems a) (bF c ag data mems b) (Nat.zero_lt_succ _) rfl rfl (W ha).2 rfl rfl (V8 ha) (by rw[hw];exact V hb)⟩
 |eq a b=>
  obtain⟨ha,hb,hw⟩:=h
  have he:nth [((aM c a:Nat):Int),((aM c b:Nat):Int)] 0=nth [((aM c a:Nat):Int),((aM c b:Nat):Int)] 1:=congrArg (fun n:Nat=>(n:Int)) hw
  have h1:1≤nth [((aM c a:Nat):Int),((aM c b:Nat):Int)] 0:=by have:=(W ha).1;show(1:Int)≤((aM c a:Nat):Int);omega
  exact⟨2,219,220,.inl (show mN 8 2 _ _ by unfold mN;decide),rfl,fun vs=>jt0 [((aM c a:Nat):Int),((aM c b:Nat):Int)] vs 0 0 rfl he h1,ykz [((aM c a:Nat):Int),((aM c b:Nat):Int)] [((bF c ag data mems a:Nat):Int),((bF c ag data mems b:Nat):Int)] 0 0 (bF c ag data mems a) (bF c ag data mems b) rfl rfl rfl⟩
 |lt a b=>
  obtain⟨ha,hb,hw⟩:=h
  have he:nth [((aM c a:Nat):Int),((aM c b:Nat):Int)] 0=nth [((aM c a:Nat):Int),((aM c b:Nat):Int)] 1:=congrArg (fun n:Nat=>(n:Int)) hw
  have h1:1≤nth [((aM c a:Nat):Int),((aM c b:Nat):Int)] 0:=by have:=(W ha).1;show(1:Int)≤((aM c a:Nat):Int);omega
  exact⟨2,219,222,.inl (show mN 9 2 _ _ by unfold mN;decide),rfl,fun vs=>jt0 [((aM c a:Nat):Int),((aM c b:Nat):Int)] vs 0 0 rfl he h1,yk0 [((aM c a:Nat):Int),((aM c b:Nat):Int)] [((bF c ag data mems a:Nat):Int),((bF c ag data mems b:Nat):Int)] 0 0 (bF c ag data mems a) (bF c ag data mems b) rfl rfl rfl⟩
 |lU a b d=>
  obtain⟨ha,hb,hd,h0,hw⟩:=h
  have he:nth [((aM c a:Nat):Int),((aM c b:Nat):Int),((aM c d:Nat):Int)] 1=nth [((aM c a:Nat):Int),((aM c b:Nat):Int),((aM c d:Nat):Int)] 2:=congrArg (fun n:Nat=>(n:Int)) hw
  have e0:nth [((aM c a:Nat):Int),((aM c b:Nat):Int),((aM c d:Nat):Int)] 0=1:=congrArg (fun n:Nat=>(n:Int)) h0
  have hv:=V ha
  rw[h0]at hv
  have hm:=yej [((aM c a:Nat):Int),((aM c b:Nat):Int),((aM c d:Nat):Int)] [((bF c ag data mems a:Nat):Int),((bF c ag data mems b:Nat):Int),((bF c ag data mems d:Nat):Int)] 0 0 (bF c ag data mems a) rfl rfl hv
  have hi:(if bF c ag data mems a=1 then nth [((bF c ag data mems a:Nat):Int),((bF c ag data mems b:Nat):Int),((bF c ag data mems d:Nat):Int)] 1 else nth [((bF c ag data mems a:Nat):Int),((bF c ag data mems b:Nat):Int),((bF c ag data mems d:Nat):Int)] 2)=((bF c ag data mems (.lU a b d):Nat):Int):=by
   rw[bF];split<;>rfl
  rw[hi]at hm
  exact⟨3,225,226,.inr (show pj 10 3 _ _ by unfold pj;decide),rfl,fun vs=>yei [((aM c a:Nat):Int),((aM c b:Nat):Int),((aM c d:Nat):Int)] vs 0 0 rfl e0 he,hm⟩
 |cat a b=>
  obtain⟨ha,hb,hw⟩:=h
  exact⟨2,227,228,.inr (show pj 11 2 _ _ by unfold pj;decide),rfl,fun vs=>yek [((aM c a:Nat):Int),((aM c b:Nat):Int)] vs 0 0 (aM c a) (aM c b) rfl rfl rfl (W ha).2 (W hb).2,yel [((aM c a:Nat):Int),((aM c b:Nat):Int)] [((bF c ag data mems a:Nat):Int),((bF c ag data mems b:Nat):Int)] 0 0 (aM c b) (bF c ag data mems a) (bF c ag data mems b) rfl rfl rfl (W hb).2 rfl rfl (V8 ha) (V hb)⟩
 |mT k w a=>
  obtain⟨ha,h1,hk⟩:=h
  have:=(W ha).2
  exact⟨1,229,230,.inr (show pj 12 1 _ _ by unfold pj;decide),rfl,fun vs=>yem [((aM c a:Nat):Int)] vs k w (aM c a) rfl rfl h1 (by omega) hk this,yen [((aM c a:Nat):Int)] [((bF c ag data mems a:Nat):Int)] k w (bF c ag data mems a) rfl rfl (by omega) (by omega) (V8 ha)⟩
 |ext w a=>
  obtain⟨ha,hk,hw⟩:=h
  exact⟨1,231,232,.inr (show pj 13 1 _ _ by unfold pj;decide),rfl,fun vs=>yeo [((aM c a:Nat):Int)] vs 0 w rfl (show((aM c a:Nat):Int)≤w by omega),yep [((aM c a:Nat):Int)] [((bF c ag data mems a:Nat):Int)] 0 w rfl⟩
 |rd k a=>exact absurd rfl h2
def fH(l:List Nat):D:=.fs ((l.map fun x:Nat=>(x:Int)).map iD) l.length
theorem zd{l:List Ex}{k:Nat}(h:k<l.length):dJ (l.flatMap bW) (k*7) 7=some (dE (nth l k)):=by rw[←sI];exact js9 h
theorem je3{l:List Nat}{i:Nat}(h:i<l.length):nth (l.map fun x:Nat=>(x:Int)) i=((nth l i:Nat):Int):=lQ h
def fo(p:Pr)(ag:List Nat)(mems:List (List Int))(data:List Nat):List D:=aD p++[fH ag,ai mems,fH data]
def Dn(p:Pr)(q:Bool)(ag:List Nat)(mems:List (List Int))(data:List Nat)(e:Ex):Prop:=WT (aI p) q e→
 cC prog 82 [.agg (fo p ag mems data),.agg (bW e)] (.dc [.d (iD (bF (aI p) ag data mems e)),.d (iD (aM (aI p) e))])
theorem Xg{l:List jD}{k:Nat}(h:k<l.length):(l.flatMap oW)[k*9+1]? =some (iD (nth l k).w):=(nC (j:=1) mb h (by omega)).trans rfl
theorem jpg(e:Ex):(∃i,e= .fe i)∨(∃i,e= .dZ i)∨(∃k a,e= .rd k a)∨(cO e≠16∧cO e≠18∧cO e≠17)∨∃a b o,e= .two o a b:=by
 cases e<;>simp[cO]
theorem oJ{p q:Prop}(hq:q)(h:p=q:=by
 conv=>lhs;simp -dsimp -implicitDefEqProofs (disch:=first|assumption|omega|(simp only[aK,gP]<;>omega)|decide) only[aP,↓reduceIte,Nat.reduceEqDiff,Nat.reduceAdd,D.fix,Int.reduceToNat,Nat.reduceMul,Nat.reduceBNe,Nat.reduceBEq,fo,aD,dE,cg,sD,nS,zd,mK,dm,ai,fH,bw]):p:=h.mpr hq
theorem sC{p q r:Prop}(e:r)(hq:q)(h:r→p=q:=by
 intro hY
 conv=>lhs;simp -dsimp -implicitDefEqProofs (disch:=first|assumption|omega|(simp only[aK,gP]<;>omega)|decide) only[aP,↓reduceIte,Nat.reduceEqDiff,Nat.reduceAdd,D.fix,Int.reduceToNat,Nat.reduceMul,Nat.reduceBNe,Nat.reduceBEq,fo,aD,dE,cg,sD,nS,zd,mK,dm,ai,fH,bw,hY]):p:=(h e).mpr hq
theorem Yo{p q:Prop}(hq:q)(h:p=q:=by
 conv=>lhs;simp -dsimp -implicitDefEqProofs (disch:=first|assumption|omega|(simp only[aK,gP]<;>omega)|decide) only[aP,↓reduceIte,Nat.reduceEqDiff,Nat.reduceAdd,D.fix,Int.reduceToNat,Nat.reduceMul,Nat.reduceBNe,Nat.reduceBEq,fo,aD,dE,cg,sD,nS,zd,mK,dm,ai,fH]):p:=h.mpr hq
theorem N4{m:List Nat}{τ τ':Fr}{H H':ak}(h2:H=H')(h:fm τ τ':=by
 repeat (first|exact bT _|refine bM ?_ (by first|rfl|(simp[aR,gP];done)|simp[aR,gP, *]))):Rt m τ H τ' H':=Rt.end h h2
theorem Kd{p:Prop}(h:p:=by
 simp (disch:=first|assumption|omega|(simp only[aK,gP]<;>omega)|decide) only[gF,Nat.reduceAdd,D.fix,↓reduceIte,Nat.reduceEqDiff,fo,aD,dE,cg,sD,nS,zd,mK,dm,ai,fH]):p:=h
theorem Xf{p:Prop}(h:p:=by
 first|rfl|(simp only[cD,Nat.reduceAdd,↓reduceIte,Nat.reduceEqDiff,fo,aD,dE,cg,sD,nS,zd,mK,dm,ai,fH];first|done|rfl)):p:=h
theorem yev(p:Pr)(fg:bJ p)(q:Bool)(ag:List Nat)(mems:List (List Int))(data:List Nat)(e:Ex)(hs:rK (aI p) ag data mems)(jR:ag.length=p.ag.length)(mG:data.length=p.ae.length)(ih:∀k,k<(aV e).length→Dn p q ag mems data (nth (aV e) k))(di:WT (aI p) q e):cC prog 82 [.agg (fo p ag mems data),.agg (dE e)] (.dc [.d (iD (bF (aI p) ag data mems e)),.d (iD (aM (aI p) e))]):=by
 have uw:(aV e).length≤3:=by cases e<;>simp[aV]
 refine ez (fn:=f82) (by kernel_rfl) func82 rfl (bN rfl) fun c hc hp=>?_
 refine dG (τ':=aG [(0,.d (.agg (fo p ag mems data))),(1,.d (.agg (dE e)))]) (by repeat (first|exact bT _|refine bM ?_ (by first|rfl|(simp[aR,gP];done)|simp[aR,gP, *]))) ?_
 refine aj (oJ ·) ?_
 refine bC hp ax hc rfl fun K2 bG=>?_
 rcases(show(∃i,e= .fe i)∨(∃i,e= .dZ i)∨(∃k a,e= .rd k a)∨(cO e≠16∧cO e≠18∧cO e≠17) by rcases jpg e with h|h|h|h|⟨a,b,o,rfl⟩;exact .inl h;exact .inr (.inl h);exact .inr (.inr (.inl h));exact .inr (.inr (.inr h));(have ho:=di.1;refine .inr (.inr (.inr ?_));simp only[cO];omega))with⟨i,rfl⟩|⟨i,rfl⟩|⟨i,a,rfl⟩|ho
 ·have Df:(cO (.fe i)==16)=true:=rfl
  have Fc:(cO (.fe i)==18)=false:=rfl
  have IG:(cO (.fe i)==17)=false:=rfl
  have gb:i<p.ag.length:=by have:=di;simpa[WT,aI]using this
  have hk:kEx (.fe i)=(i:Int):=rfl
  have m3:nth (aI p).ag i=(nth p.ag i).w:=lQ gb
  have m1:(p.ag.flatMap lH)[i*13+1]? =some (iD (aM (aI p) (.fe i))):=(OX gb).trans (by rw[aM,m3])
  have m2:nth (ag.map fun x:Nat=>(x:Int)) i=((bF (aI p) ag data mems (.fe i):Nat):Int):=je3 (by omega)
  refine oJ ?_
  refine bG _ _ ?_
  refine aH fun K3 bS=>?_
  refine aj (oJ ·) ?_
  refine aW ?_
  refine aj (sC Df ·) ?_
  refine jW ?_
  refine eN ax hc mixed rfl (q:=0) (by kernel_rfl) (by kernel_rfl) fun K6 cF=>?_
  refine sC (aL hk (aL m1 m2)) ?_
  refine cF _ _ ?_
  refine bh ?_
  show aC _ _=_
  exact Kd
 ·have Df:(cO (.dZ i)==16)=false:=rfl
  have Fc:(cO (.dZ i)==18)=true:=rfl
  have IG:(cO (.dZ i)==17)=false:=rfl
  have gb:i<p.ae.length:=by have:=di;simpa[WT,aI]using this.2
  have hk:kEx (.dZ i)=(i:Int):=rfl
  have m3:nth (aI p).ae i=(nth p.ae i).w:=lQ gb
  have m1:(p.ae.flatMap oW)[i*9+1]? =some (iD (aM (aI p) (.dZ i))):=(Xg gb).trans (by rw[aM,m3])
  have m2:nth (data.map fun x:Nat=>(x:Int)) i=((bF (aI p) ag data mems (.dZ i):Nat):Int):=je3 (by omega)
  refine oJ ?_
  refine bG _ _ ?_
  refine aH fun K7 de=>?_
  refine aj (oJ ·) ?_
  refine aW ?_
  refine aj (sC Df ·) ?_
  refine eC ?_
  refine aj (sC Fc ·) ?_
  refine jW ?_
  refine eN ax hc mixed rfl (q:=0) (by kernel_rfl) (by kernel_rfl) fun lz cm=>?_
  refine sC (aL hk (aL m1 m2)) ?_
  refine cm _ _ ?_
  refine bh ?_
  show aC _ _=_
  exact Kd
 ·have Df:(cO (.rd i a)==16)=false:=rfl
  have Fc:(cO (.rd i a)==18)=false:=rfl
  have IG:(cO (.rd i a)==17)=true:=rfl
  have gb:i<p.mems.length:=by have:=di.2;simpa[aI]using this
  have hk:kEx (.rd i a)=(i:Int):=rfl
  have mC:=hs.ml
  have gj:(aI p).mems.length=p.mems.length:=by simp[aI]
  have m3:(nth (aI p).mems i).2=(nth p.mems i).w:=by rw[show nth (aI p).mems i=_ from lQ gb]
  have m1:(p.mems.flatMap oX)[i*27+1]? =some (iD (aM (aI p) (.rd i a))):=(NV gb).trans (by rw[aM,m3])
  have r0:dJ ((aV (.rd i a)).flatMap bW) 0 7=some (dE a):=zd (l:=[a]) (k:=0) (Nat.zero_lt_succ _)
  have fy:Dn p q ag mems data a:=ih 0 (Nat.zero_lt_succ _)
  have fy:=fy di.1
  rw[sI]at fy
  have hL:=hs.wl i (by omega)
  have hL1:=(fg.ct.m i (by omega)).1
  have QK:=Nat.mod_lt (bF (aI p) ag data mems a) (show 0<(nth mems i).length by omega)
  have HG:=(hs.m i (by omega) _ (by rw[←hL];exact QK)).1
  have m4:nth (nth mems i) (bF (aI p) ag data mems a % (nth mems i).length)=((bF (aI p) ag data mems (.rd i a):Nat):Int):=by
   rw[bF,←hL];exact(zn HG).symm
  have m5:((bF (aI p) ag data mems a:Nat):Int) % ((nth mems i).length:Int)=((bF (aI p) ag data mems a % (nth mems i).length:Nat):Int):=(Int.natCast_emod _ _).symm
  have m6:(aV (.rd i a)).length=1:=rfl
  have gm:(mems.map av)[i]? =some (av (nth mems i)):=dm (by omega)
  refine oJ ?_
  refine bG _ _ ?_
  refine aH fun nk cU=>?_
  refine aj (oJ ·) ?_
  refine aW ?_
  refine aj (sC Df ·) ?_
  refine eC ?_
  refine aj (sC Fc ·) ?_
  refine eC ?_
  refine aj (sC IG ·) ?_
  refine jW ?_
  refine eN ax hc mixed rfl (q:=0) (by kernel_rfl) (by kernel_rfl) fun tF eh=>?_
  refine sC (aL m6 r0) ?_
  refine cQ (fy) rfl ?_
  refine sC (aL m6 r0) ?_
  refine eh _ _ ?_
  refine eN ax hc mixed rfl (q:=0) (by kernel_rfl) (by kernel_rfl) fun ye fP=>?_
  refine sC (aL hk (aL gm (aL m5 (aL m4 m1)))) ?_
  refine fP _ _ ?_
  refine bh ?_
  show aC _ _=_
  exact Kd
 ·have Df:(cO e==16)=false:=by simp[ho.1]
  have Fc:(cO e==18)=false:=by simp[ho.2.1]
  have IG:(cO e==17)=false:=by simp[ho.2.2]
  refine oJ ?_
  refine bG _ _ ?_
  refine aH fun wT fC=>?_
  refine aj (oJ ·) ?_
  refine aW ?_
  refine aj (sC Df ·) ?_
  refine eC ?_
  refine aj (sC Fc ·) ?_
  refine eC ?_
  refine aj (sC IG ·) ?_
  refine eC ?_
  refine bB (fC _ _ ?_)
  refine aj (Yo ·) ?_
  refine aH fun BK jn=>?_
  refine aj (oJ ·) ?_
  refine aW ?_
  refine c9 hp (fun τ' H' mm=>∃(k:Nat),(k≤(aV e).length)∧mm=(aV e).length - k∧H'=[.cells (au (fo p ag mems data)),.cells (au (dE e)),.cells (au (((yB (aI p) ag data mems e).take k).map iD)),.cells (au (((wk (aI p) e).take k).map iD))]∧τ'=aG [(2,.op 0 0),(3,.op 1 0),(6,.d (iD (kEx e))),(9,.os 1 2 0 k),(10,.os 1 3 0 k),(90,.d (.fs ((aV e).flatMap bW) (aV e).length)),(91,.d (iD (aV e).length)),(92,.d (iD k))]) ((aV e).length) ?_ ⟨0,cy _,rfl,rfl,rfl⟩ ?_
  ·refine Rt.trans (Rt.nil 9 1 rfl) ?_
   refine Rt.trans (Rt.nil 10 1 rfl) ?_
   refine Rt.trans (Rt.gc (keep:=[0,1,2,3]) (by decide) (by decide) (by simp[eS,dg])) ?_
   refine N4 ?_
   exact Xf
  rintro τ' H' mm ⟨k,hk,rfl,rfl,rfl⟩
  refine aj (oJ ·) ?_
  refine aH fun Aa iU=>?_
  refine aX rfl (fun ht=>?_) (fun ht=>?_)
  ·have aA:k<(aV e).length:=by simp at ht;omega
   have fy:=ih k aA (kQ di k aA)
   rw[sI]at fy
   have hv1:((yB (aI p) ag data mems e).take k).length=k:=by rw[List.length_take,yB,List.length_map];omega
   have th:((wk (aI p) e).take k).length=k:=by rw[List.length_take,wk,List.length_map];omega
   have HA:=uX (l:=yB (aI p) ag data mems e) (k:=k) (by rw[yB,List.length_map];exact aA)
   have hw2:=uX (l:=wk (aI p) e) (k:=k) (by rw[wk,List.length_map];exact aA)
   have hv3:nth (yB (aI p) ag data mems e) k=((bF (aI p) ag data mems (nth (aV e) k):Nat):Int):=lQ aA
   have hw3:nth (wk (aI p) e) k=((aM (aI p) (nth (aV e) k):Nat):Int):=lQ aA
   refine bB (iU _ _ ?_)
   refine aH fun BJ iT=>?_
   refine aW ?_
   refine aj (oJ ·) ?_
   refine bC hp ax hc rfl fun IX l6=>?_
   refine oJ ?_
   refine cQ (fy) rfl ?_
   refine oJ ?_
   refine l6 _ _ ?_
   refine jX (sC (aL hv1 th) ·) (iT _ _ ?_)
   refine bA hp ax hc rfl fun IW nc=>?_
   refine oJ ?_
   refine nc _ _ ⟨_,_,_,?_,⟨k+1,by omega,rfl,rfl,rfl⟩,?_⟩
   ·first|omega|(simp only[List.length_cons];omega)|(dsimp only;omega)
   ·refine Rt.trans (Rt.gc (keep:=[0,1,6,8]) (by decide) (by decide) (by simp[eS,dg])) ?_
    refine N4 ?_
    simp only[cD,Nat.reduceAdd,↓reduceIte,Nat.reduceEqDiff,fo,aD,dE,cg,sD,nS,zd,mK,dm,ai,fH];simp[iD,av,HA,hw2,hv3,hw3]
  ·have cf:k=(aV e).length:=by simp at ht;omega
   subst cf
   have hc:=jpf fg.ct hs di ho.1 ho.2.2 ho.2.1
   obtain⟨ar,fw,fv,hr,L8,Im,wM⟩:=hc
   obtain⟨ws,ou⟩:∃ws,ws=wk (aI p) e:=⟨_,rfl⟩
   obtain⟨vs,Bg⟩:∃vs,vs=yB (aI p) ag data mems e:=⟨_,rfl⟩
   have lw:ws.length=(aV e).length:=by rw[ou,wk,List.length_map]
   have lv:vs.length=(aV e).length:=by rw[Bg,yB,List.length_map]
   have hwb:∀k,k<ws.length→1≤nth ws k∧nth ws k≤8:=fun k hk=>by
    rw[lw]at hk
    have:=jy fg.ct (kQ di k hk)
    rw[ou,show nth (wk (aI p) e) k=((aM (aI p) (nth (aV e) k):Nat):Int) from lQ hk]
    omega
   have hvb:∀k,k<vs.length→0≤nth vs k∧nth vs k<2^(nth ws k).toNat:=fun k hk=>by
    rw[lv]at hk
    have:=tS fg.ct hs _ (kQ di k hk)
    rw[ou,Bg,show nth (wk (aI p) e) k=((aM (aI p) (nth (aV e) k):Nat):Int) from lQ hk,show nth (yB (aI p) ag data mems e) k=((bF (aI p) ag data mems (nth (aV e) k):Nat):Int) from lQ hk,Int.toNat_natCast]
    exact⟨Int.natCast_nonneg _,by exact_mod_cast this⟩
   have hW:=jy fg.ct di
   rw[←ou,←Bg,yE (by omega),yE (by omega)]
   rw[←ou]at Im wM
   rw[←Bg]at wM
   have k1:=jpe (cO e) ar fw fv ws vs (kEx e) (u4 e) (aM (aI p) e) (bF (aI p) ag data mems e) hr (by rw[lw];exact L8) hwb (by omega) (by omega) (Im vs) wM (by omega) (by omega) hvb
   have k2:=jpd (cO e) ar fw fv ws (kEx e) (u4 e) (aM (aI p) e) hr (by rw[lw];exact L8) hwb (by omega) (by omega) (Im [])
   have tv:dJ (vs.map iD) 0 (aV e).length=some (vs.map iD):=iN (by simp[lv])
   have tw:dJ (ws.map iD) 0 (aV e).length=some (ws.map iD):=iN (by simp[lw])
   clear ou Bg
   refine cL (jn _ _ ?_)
   refine bI hp (τ':=aG [(2,.op 0 0),(3,.op 1 0),(6,.d (iD (kEx e))),(9,.d (av vs)),(10,.d (av ws))]) (H':=[.cells (au (fo p ag mems data)),.cells (au (dE e))]) ?_ ?_
   ·refine Rt.trans (Rt.fz (id:=2) (l:=(vs.map iD)) rfl) ?_
    refine Rt.trans (Rt.heap (H':=[.cells (au (fo p ag mems data)),.cells (au (dE e)),.dead,.cells (au (ws.map iD))]) (by simp only[cD,Nat.reduceAdd,↓reduceIte,Nat.reduceEqDiff,fo,aD,dE,cg,sD,nS,zd,mK,dm,ai,fH];first|done|rfl)) ?_
    refine Rt.trans (Rt.fz (id:=3) (l:=(ws.map iD)) rfl) ?_
    refine Rt.trans (Rt.gc (keep:=[0,1]) (by decide) (by decide) (by simp[eS,dg])) ?_
    refine N4 ?_
    exact Xf
   refine aj (oJ ·) ?_
   refine eN ax hc mixed rfl (q:=0) (by kernel_rfl) (by kernel_rfl) fun Dm jT=>?_
   refine oJ ?_
   refine P0 (k1) ?_ ?_
   ·simp (disch:=first|assumption|omega|(simp only[aK,gP]<;>omega)|decide) only[gF,Nat.reduceAdd,D.fix,↓reduceIte,Nat.reduceEqDiff,fo,aD,dE,cg,sD,nS,zd,mK,dm,ai,fH,av]
   refine oJ ?_
   refine jT _ _ ?_
   refine bC hp ax hc rfl fun K36 x4=>?_
   refine oJ ?_
   refine cQ (k2) rfl ?_
   refine oJ ?_
   refine x4 _ _ ?_
   refine aj (Yo ·) ?_
   refine bh ?_
   show aC _ _=_
   exact Kd
end Go.Proofs.YtapjobndmmkanaaGreat
