/- Package bits: widths and values of operations. -/
import Derived.Test.YtapjobndmmkanaaGreatQr
import Derived.Test.YtapjobndmmkanaaGreatPm
set_option linter.unusedVariables false
set_option linter.unusedSimpArgs false
set_option maxRecDepth 100000
set_option maxHeartbeats 4000000
namespace Go.Proofs.YtapjobndmmkanaaGreat
open Go.Proofs.Tryz
open Go Go.RowKit
def fnD(f:FuncId):D:=.val (.func (.func f) #[] #[])
def zdy(ws vs:List Int)(k w:Int):List D:=[intsD ws,intsD vs,iD k,iD w]
theorem jvj{p q:Prop}(hq:q)(h:p=q:=by
 conv=>lhs;simp -dsimp -implicitDefEqProofs (disch:=first|assumption|omega|(simp only[r_z]<;>omega)|decide) only[r_r,↓reduceIte,Nat.reduceEqDiff,Nat.reduceAdd,D.fix,Int.reduceToNat,Nat.reduceMul,Nat.reduceBNe,Nat.reduceBEq]):p:=h.mpr hq
theorem jvk{p q r:Prop}(e:r)(hq:q)(h:r→p=q:=by
 intro hY
 conv=>lhs;simp -dsimp -implicitDefEqProofs (disch:=first|assumption|omega|(simp only[r_z]<;>omega)|decide) only[r_r,↓reduceIte,Nat.reduceEqDiff,Nat.reduceAdd,D.fix,Int.reduceToNat,Nat.reduceMul,Nat.reduceBNe,Nat.reduceBEq,qae,hY]):p:=(h e).mpr hq
theorem yi4{p:Prop}(h:p:=by
 simp (disch:=first|assumption|omega|(simp only[r_z]<;>omega)|decide) only[r_c,Nat.reduceAdd,D.fix,↓reduceIte,Nat.reduceEqDiff]):p:=h
theorem zr0(w:Int)(h1:1≤w)(h2:w≤8):za2 prog 202 [iD w] (.d (oD true)):=by
 have q1:decide (1≤w)=true:=decide_eq_true h1
 have q2:decide (w≤8)=true:=decide_eq_true h2
 refine zax (fn:=f202) (by kernel_rfl) func202 rfl (qaf rfl) fun c hc hp=>?_
 refine za0 (τ':=frL [(0,.d (iD w))]) (by repeat (first|exact zaq _|refine zak ?_ (by first|rfl|(simp[r_f];done)|simp[r_f, *]))) ?_
 refine szq (jvj ·) ?_
 refine szq (jvk (sza q1 q2) ·) ?_
 refine zaj ?_
 show closeA _ _=_
 exact yi4
theorem ydj{p q:Prop}(hq:q)(h:p=q:=by
 conv=>lhs;simp -dsimp -implicitDefEqProofs (disch:=first|assumption|omega|(simp only[r_z]<;>omega)|decide) only[r_r,↓reduceIte,Nat.reduceEqDiff,Nat.reduceAdd,D.fix,Int.reduceToNat,Nat.reduceMul,Nat.reduceBNe,Nat.reduceBEq,qae]):p:=h.mpr hq
theorem yi5(w:Int)(h1:1≤w)(h2:w≤8):za2 prog 201 [iD w] (.d (oD false)):=by
 refine zax (fn:=f201) (by kernel_rfl) func201 rfl (qaf rfl) fun c hc hp=>?_
 refine za0 (τ':=frL [(0,.d (iD w))]) (by repeat (first|exact zaq _|refine zak ?_ (by first|rfl|(simp[r_f];done)|simp[r_f, *]))) ?_
 refine szq (jvj ·) ?_
 refine zaf hp zah hc rfl fun K2 hK2=>?_
 refine ydj ?_
 refine zbl (zr0 w h1 h2) rfl ?_
 refine ydj ?_
 refine hK2 _ _ ?_
 refine zaj ?_
 show closeA _ _=_
 exact yi4
theorem jn5{p q:Prop}(hq:q)(h:p=q:=by
 conv=>lhs;simp -dsimp -implicitDefEqProofs (disch:=first|assumption|omega|(simp only[r_z]<;>omega)|decide) only[r_r,↓reduceIte,Nat.reduceEqDiff,Nat.reduceAdd,D.fix,Int.reduceToNat,Nat.reduceMul,Nat.reduceBNe,Nat.reduceBEq,fnD]):p:=h.mpr hq
theorem jkr{p q:Prop}(hq:q)(h:p=q:=by
 conv=>lhs;simp -dsimp -implicitDefEqProofs (disch:=first|assumption|omega|(simp only[r_z]<;>omega)|decide) only[r_r,↓reduceIte,Nat.reduceEqDiff,Nat.reduceAdd,D.fix,Int.reduceToNat,Nat.reduceMul,Nat.reduceBNe,Nat.reduceBEq,fnD,qae]):p:=h.mpr hq
theorem ylm{m:List Nat}{τ τ':Fr}{H H':zad}(h2:H=H')(h:zgk τ τ':=by
 repeat (first|exact zaq _|refine zak ?_ (by first|rfl|(simp[r_f];done)|simp[r_f, *]))):Rt m τ H τ' H':=Rt.end h h2
theorem yln{p:Prop}(h:p:=by
 first|rfl|(simp only[r_g,Nat.reduceAdd,↓reduceIte,Nat.reduceEqDiff,fnD];first|done|rfl)):p:=h
theorem ylo{p:Prop}(h:p:=by
 simp (disch:=first|assumption|omega|(simp only[r_z]<;>omega)|decide) only[r_c,Nat.reduceAdd,D.fix,↓reduceIte,Nat.reduceEqDiff,fnD]):p:=h
theorem ydk(l:List Int)(hl:l.length≤10)(hw:∀k,k<l.length→1≤nth l k∧nth l k≤8):za2 prog 125 [intsD l,fnD 201] (.d (iD (-1))):=by
 refine zax (fn:=f125) (by kernel_rfl) func125 rfl (qaf rfl) fun c hc hp=>?_
 refine za0 (τ':=frL [(0,.d (intsD l)),(1,.d (fnD 201))]) (by repeat (first|exact zaq _|refine zak ?_ (by first|rfl|(simp[r_f];done)|simp[r_f, *]))) ?_
 refine szq (jn5 ·) ?_
 refine zaa fun K2 hK2=>?_
 refine szq (jkr ·) ?_
 refine zag ?_
 refine zao hp (fun τ' H' mm=>∃k,(k≤l.length)∧mm=l.length - k∧H'=[]∧τ'=frL [(0,.d (intsD l)),(1,.d (fnD 201)),(7,.d (iD l.length)),(8,.d (iD k))]) (l.length) ?_ ⟨0,qap _,rfl,rfl,rfl⟩ ?_
 ·refine ylm ?_
  exact yln
 rintro τ' H' mm ⟨k,hk,rfl,rfl,rfl⟩
 refine szq (jkr ·) ?_
 refine zaa fun K5 hK5=>?_
 refine zan rfl (fun ht=>?_) (fun ht=>?_)
 ·have hlt:k<l.length:=by simp at ht;omega
  refine zai (hK5 _ _ ?_)
  refine zaa fun K6 hK6=>?_
  refine zag ?_
  refine szq (jn5 ·) ?_
  refine zaf hp zah hc rfl fun K8 hK8=>?_
  refine jkr ?_
  refine zbl (yi5 (nth l k) (hw k hlt).1 (hw k hlt).2) rfl ?_
  refine jkr ?_
  refine hK8 _ _ ?_
  refine szf ?_
  refine zai (hK6 _ _ ?_)
  refine za1 hp zah hc rfl fun K9 hK9=>?_
  refine jkr ?_
  refine hK9 _ _ ⟨_,_,_,?_,⟨k+1,by omega,rfl,rfl,rfl⟩,?_⟩
  ·first|omega|(simp only[List.length_cons];omega)|(dsimp only;omega)
  ·refine ylm ?_
   exact yln
 ·refine zau (hK2 _ _ ?_)
  refine szq (jn5 ·) ?_
  refine zaj ?_
  show closeA _ _=_
  exact ylo
theorem ydl{p q r:Prop}(e:r)(hq:q)(h:r→p=q:=by
 intro hY
 conv=>lhs;simp -dsimp -implicitDefEqProofs (disch:=first|assumption|omega|(simp only[r_z]<;>omega)|decide) only[r_r,↓reduceIte,Nat.reduceEqDiff,Nat.reduceAdd,D.fix,Int.reduceToNat,Nat.reduceMul,Nat.reduceBNe,Nat.reduceBEq,fnD,qae,hY]):p:=(h e).mpr hq
theorem jsz(l:List Int)(hl:l.length≤10)(hw:∀k,k<l.length→1≤nth l k∧nth l k≤8):za2 prog 68 [intsD l,fnD 201] (.d (oD false)):=by
 have hdd:decide ((0:Int)≤ -1)=false:=rfl
 refine zax (fn:=f68) (by kernel_rfl) func68 rfl (qaf rfl) fun c hc hp=>?_
 refine za0 (τ':=frL [(0,.d (intsD l)),(1,.d (fnD 201))]) (by repeat (first|exact zaq _|refine zak ?_ (by first|rfl|(simp[r_f];done)|simp[r_f, *]))) ?_
 refine szq (jn5 ·) ?_
 refine zaf hp zah hc rfl fun K2 hK2=>?_
 refine ydl hdd ?_
 refine zbl (ydk l hl hw) rfl ?_
 refine ydl hdd ?_
 refine hK2 _ _ ?_
 refine zaj ?_
 show closeA _ _=_
 exact ylo
theorem zvd(w:Nat)(h2:w≤8):za2 prog 173 [iD w] (.d (iD ((2^w:Nat) - 1:Int))):=by
 have q1:decide ((w:Int)<0)=false:=decide_eq_false (by omega)
 have q2:decide ((62:Int)<w)=false:=decide_eq_false (by omega)
 have hs:=jff (w:=w) (by omega)
 have hp0:=Nat.two_pow_pos w
 have hp2:2^w≤256:=Nat.le_trans (qba (by decide) (show w≤8 by omega)) (show 2^8≤256 by decide)
 obtain⟨M,hM⟩:∃M:Nat,2^w=M:=⟨_,rfl⟩
 rw[hM]at hs hp0 hp2 ⊢
 refine zax (fn:=f173) (by kernel_rfl) func173 rfl (qaf rfl) fun c hc hp=>?_
 refine za0 (τ':=frL [(0,.d (iD w))]) (by repeat (first|exact zaq _|refine zak ?_ (by first|rfl|(simp[r_f];done)|simp[r_f, *]))) ?_
 refine szq (jvj ·) ?_
 refine zaa fun K2 hK2=>?_
 refine szq (jvk (sza q1 q2) ·) ?_
 refine szf ?_
 refine zai (hK2 _ _ ?_)
 refine szq (jvk hs ·) ?_
 refine zaj ?_
 show closeA _ _=_
 exact yi4
theorem zol{f:Fn}{a b:Array Value}:zcm (.d (.val (.func f a b)))=some [.d (.val (.func f a b))]:=rfl
def zgx(op ar:Int)(fw fv:FuncId):Prop:=(op,ar,fw,fv)∈([(2,1,210,211),(3,2,213,214),(4,2,213,215),(5,2,213,216),(6,2,213,217),(7,2,213,218),(8,2,219,220),(9,2,219,222)]:List (Int × Int × FuncId × FuncId))
def ze6(op ar:Int)(fw fv:FuncId):Prop:=(op,ar,fw,fv)∈([(1,0,223,224),(10,3,225,226),(11,2,227,228),(12,1,229,230),(13,1,231,232)]:List (Int × Int × FuncId × FuncId))
def jgf(ar:Int)(fw fv:FuncId):D:=.agg [iD ar,fnD fw,fnD fv]
def opT:TypeId:=306
def yi6(es:List (Value × Nat × AV))(k:Int):Bool:=(es.all fun e=>match e.1 with| .int .i64 n=>n !=k|_=>false)
theorem zxn{id c:Nat}{k:Int}{y:AV}{H:zad}{es:List (Value × Nat × AV)}(hb:(KT 3&&(zj6 prog opT==some (3,284))&&(keyOf prog 3 (.int .i64 k)).isSome&&zfb prog 3 es&&yi6 es k)=true):muO prog KT 306 id (.int .i64 k) y H (some (.map es c))=some (.d (.val undef),H.set id (.map (es++[(.int .i64 k,c,y)]) (c+1))):=by
 simp only[qar,beq_iff_eq]at hb
 obtain⟨⟨⟨⟨h1,h2⟩,h3⟩,h4⟩,h5⟩:=hb
 have hf:∀(es:List (Value × Nat × AV)) (i:Nat),yi6 es k=true→zek (.int .i64 k) es i=none:=by
  intro es
  induction es with
  |nil=>intro i _;rfl
  |cons e es ih=>
   intro i hb
   simp only[yi6,List.all_cons,qar]at hb
   unfold zek
   have:vEq e.1 (.int .i64 k)=false:=by
    have h:=hb.1
    split at h
    ·rename_i n hn;rw[hn];simp[vEq,vS];simpa using h
    ·cases h
   rw[this]
   simpa using ih _ hb.2
 unfold muO
 rw[show zj6 prog 306=some (3,284) from h2]
 simp only[h1,h3,h4,hf es 0 h5,znq,vSk,Bool.and_true,if_true]
theorem znk{es:List (Value × Nat × AV)}{c:Nat}:ygo (some (.map es c))=some es:=rfl
theorem ydm{op ar:Int}{fw fv:FuncId}(hr:zgx op ar fw fv):lkK prog KT 306 (some (.int .i64 op)) true (some [(.int .i64 2,0,.agg [.d (.val (.int .i64 1)),.d (.val (.func (.func 210) #[] #[])),.d (.val (.func (.func 211) #[] #[]))]),(.int .i64 3,1,.agg [.d (.val (.int .i64 2)),.d (.val (.func (.func 213) #[] #[])),.d (.val (.func (.func 214) #[] #[]))]),(.int .i64 4,2,.agg [.d (.val (.int .i64 2)),.d (.val (.func (.func 213) #[] #[])),.d (.val (.func (.func 215) #[] #[]))]),(.int .i64 5,3,.agg [.d (.val (.int .i64 2)),.d (.val (.func (.func 213) #[] #[])),.d (.val (.func (.func 216) #[] #[]))]),(.int .i64 6,4,.agg [.d (.val (.int .i64 2)),.d (.val (.func (.func 213) #[] #[])),.d (.val (.func (.func 217) #[] #[]))]),(.int .i64 7,5,.agg [.d (.val (.int .i64 2)),.d (.val (.func (.func 213) #[] #[])),.d (.val (.func (.func 218) #[] #[]))]),(.int .i64 8,6,.agg [.d (.val (.int .i64 2)),.d (.val (.func (.func 219) #[] #[])),.d (.val (.func (.func 220) #[] #[]))]),(.int .i64 9,7,.agg [.d (.val (.int .i64 2)),.d (.val (.func (.func 219) #[] #[])),.d (.val (.func (.func 222) #[] #[]))])])=some (.tup [.agg [.d (iD ar),.d (fnD fw),.d (fnD fv)],.d (oD true)]):=by
 simp only[zgx,List.mem_cons,Prod.mk.injEq,List.not_mem_nil,or_false]at hr
 rcases hr with⟨rfl,rfl,rfl,rfl⟩|⟨rfl,rfl,rfl,rfl⟩|⟨rfl,rfl,rfl,rfl⟩|⟨rfl,rfl,rfl,rfl⟩|⟨rfl,rfl,rfl,rfl⟩|⟨rfl,rfl,rfl,rfl⟩|⟨rfl,rfl,rfl,rfl⟩|⟨rfl,rfl,rfl,rfl⟩<;>kernel_rfl
theorem ydn{op ar:Int}{fw fv:FuncId}(hr:ze6 op ar fw fv):lkK prog KT 306 (some (.int .i64 op)) true (some [(.int .i64 1,0,.agg [.d (.val (.int .i64 0)),.d (.val (.func (.func 223) #[] #[])),.d (.val (.func (.func 224) #[] #[]))]),(.int .i64 10,1,.agg [.d (.val (.int .i64 3)),.d (.val (.func (.func 225) #[] #[])),.d (.val (.func (.func 226) #[] #[]))]),(.int .i64 11,2,.agg [.d (.val (.int .i64 2)),.d (.val (.func (.func 227) #[] #[])),.d (.val (.func (.func 228) #[] #[]))]),(.int .i64 12,3,.agg [.d (.val (.int .i64 1)),.d (.val (.func (.func 229) #[] #[])),.d (.val (.func (.func 230) #[] #[]))]),(.int .i64 13,4,.agg [.d (.val (.int .i64 1)),.d (.val (.func (.func 231) #[] #[])),.d (.val (.func (.func 232) #[] #[]))])])=some (.tup [.agg [.d (iD ar),.d (fnD fw),.d (fnD fv)],.d (oD true)]):=by
 simp only[ze6,List.mem_cons,Prod.mk.injEq,List.not_mem_nil,or_false]at hr
 rcases hr with⟨rfl,rfl,rfl,rfl⟩|⟨rfl,rfl,rfl,rfl⟩|⟨rfl,rfl,rfl,rfl⟩|⟨rfl,rfl,rfl,rfl⟩|⟨rfl,rfl,rfl,rfl⟩<;>kernel_rfl
theorem ydo{op ar:Int}{fw fv:FuncId}(hr:ze6 op ar fw fv):lkK prog KT 306 (some (.int .i64 op)) true (some [(.int .i64 2,0,.agg [.d (.val (.int .i64 1)),.d (.val (.func (.func 210) #[] #[])),.d (.val (.func (.func 211) #[] #[]))]),(.int .i64 3,1,.agg [.d (.val (.int .i64 2)),.d (.val (.func (.func 213) #[] #[])),.d (.val (.func (.func 214) #[] #[]))]),(.int .i64 4,2,.agg [.d (.val (.int .i64 2)),.d (.val (.func (.func 213) #[] #[])),.d (.val (.func (.func 215) #[] #[]))]),(.int .i64 5,3,.agg [.d (.val (.int .i64 2)),.d (.val (.func (.func 213) #[] #[])),.d (.val (.func (.func 216) #[] #[]))]),(.int .i64 6,4,.agg [.d (.val (.int .i64 2)),.d (.val (.func (.func 213) #[] #[])),.d (.val (.func (.func 217) #[] #[]))]),(.int .i64 7,5,.agg [.d (.val (.int .i64 2)),.d (.val (.func (.func 213) #[] #[])),.d (.val (.func (.func 218) #[] #[]))]),(.int .i64 8,6,.agg [.d (.val (.int .i64 2)),.d (.val (.func (.func 219) #[] #[])),.d (.val (.func (.func 220) #[] #[]))]),(.int .i64 9,7,.agg [.d (.val (.int .i64 2)),.d (.val (.func (.func 219) #[] #[])),.d (.val (.func (.func 222) #[] #[]))])])=some (.tup [.agg [.d (iD 0),.d (.val .nilFunc),.d (.val .nilFunc)],.d (oD false)]):=by
 simp only[ze6,List.mem_cons,Prod.mk.injEq,List.not_mem_nil,or_false]at hr
 rcases hr with⟨rfl,rfl,rfl,rfl⟩|⟨rfl,rfl,rfl,rfl⟩|⟨rfl,rfl,rfl,rfl⟩|⟨rfl,rfl,rfl,rfl⟩|⟨rfl,rfl,rfl,rfl⟩<;>kernel_rfl
theorem znl{p q:Prop}(hq:q)(h:p=q:=by
 conv=>lhs;simp -dsimp -implicitDefEqProofs (disch:=first|assumption|omega|(simp only[r_z]<;>omega)|decide) only[r_r,↓reduceIte,Nat.reduceEqDiff,Nat.reduceAdd,D.fix,Int.reduceToNat,Nat.reduceMul,Nat.reduceBNe,Nat.reduceBEq,zdy,fnD,jgf,zol,zif,zrn,zro,zxn,zfc,znk,qae]):p:=h.mpr hq
theorem zso{p q r:Prop}(e:r)(hq:q)(h:r→p=q:=by
 intro hY
 conv=>lhs;simp -dsimp -implicitDefEqProofs (disch:=first|assumption|omega|(simp only[r_z]<;>omega)|decide) only[r_r,↓reduceIte,Nat.reduceEqDiff,Nat.reduceAdd,D.fix,Int.reduceToNat,Nat.reduceMul,Nat.reduceBNe,Nat.reduceBEq,zdy,fnD,jgf,zol,zif,zrn,zro,zxn,zfc,znk,qae,hY]):p:=(h e).mpr hq
theorem jvl{p q:Prop}(hq:q)(h:p=q:=by
 conv=>lhs;simp -dsimp -implicitDefEqProofs (disch:=first|assumption|omega|(simp only[r_z]<;>omega)|decide) only[r_r,↓reduceIte,Nat.reduceEqDiff,Nat.reduceAdd,D.fix,Int.reduceToNat,Nat.reduceMul,Nat.reduceBNe,Nat.reduceBEq,zdy,fnD,jgf,zol,zif,zrn,zro,zxn,zfc,znk]):p:=h.mpr hq
theorem js0{p q:Prop}(hq:q)(h:p=q:=by
 conv=>lhs;simp -dsimp -implicitDefEqProofs (disch:=first|assumption|omega|(simp only[r_z]<;>omega)|decide) only[r_r,↓reduceIte,Nat.reduceEqDiff,Nat.reduceAdd,D.fix,Int.reduceToNat,Nat.reduceMul,Nat.reduceBNe,Nat.reduceBEq,zdy,fnD,jgf,zol,zif,zrn,zro,zxn,zfc,znk,zwy,jjj]):p:=h.mpr hq
theorem ylp{p:Prop}(h:p:=by
 simp (disch:=first|assumption|omega|(simp only[r_z]<;>omega)|decide) only[r_c,Nat.reduceAdd,D.fix,↓reduceIte,Nat.reduceEqDiff,zdy,fnD,jgf,zol,zif,zrn,zro,zxn,zfc,znk]):p:=h
theorem jeb(op ar:Int)(fw fv:FuncId)(ws vs:List Int)(k w W:Int)(hr:zgx op ar fw fv∨ze6 op ar fw fv)(hl:(ws.length:Int)=ar)(hw:∀k,k<ws.length→1≤nth ws k∧nth ws k≤8)(h1:1≤W)(h2:W≤8)(hc0:za2 prog fw [.agg (zdy ws vs k w)] (.d (iD W))):za2 prog 172 [iD op,.agg (zdy ws vs k w)] (.tup [.d (jgf ar fw fv),.d (iD W),.d (oD true)]):=by
 have hll:ws.length≤10:=by
  have:ar≤3:=by
   rcases hr with hr|hr<;>simp only[zgx,ze6,List.mem_cons,Prod.mk.injEq,List.not_mem_nil,or_false]at hr<;>omega
  omega
 have hnn:(ar !=ar)=false:=bne_self_eq_false _
 refine zax (fn:=f172) (by kernel_rfl) func172 rfl (qaf rfl) fun c hc hp=>?_
 refine za0 (τ':=frL [(0,.d (iD op)),(1,.d (.agg (zdy ws vs k w)))]) (by repeat (first|exact zaq _|refine zak ?_ (by first|rfl|(simp[r_f];done)|simp[r_f, *]))) ?_
 refine szq (znl ·) ?_
 refine zaf hp zah hc rfl fun K2 hK2=>?_
 rcases hr with hr|hr
 ·have hN:=ydm hr
  have hL:=hN
  refine zso hN ?_
  refine jt0 ⟨by kernel_rfl,_,_,func199,rfl,qaf rfl,fun c102 hc102=>?_⟩
  refine zy4 ?_
  refine zaf (Kp.all c102) zah hc102 rfl fun K103 hK103=>?_
  refine jvl ?_
  refine hK103 _ _ ?_
  refine zaf (Kp.all c102) zah hc102 rfl fun K104 hK104=>?_
  refine znl ?_
  refine hK104 _ _ ?_
  refine zaj ?_
  refine zap (t:=0) rfl ?_
  refine zso hN ?_
  refine hK2 _ _ ?_
  refine zaa fun K3 hK3=>?_
  refine szq (znl ·) ?_
  refine szf ?_
  refine zai (hK3 _ _ ?_)
  refine zaa fun K5 hK5=>?_
  refine zaf hp zah hc rfl fun K6 hK6=>?_
  refine zso (sza hl hnn) ?_
  refine zbl (jsz ws hll hw) rfl ?_
  refine zso (sza hl hnn) ?_
  refine hK6 _ _ ?_
  refine szf ?_
  refine zai (hK5 _ _ ?_)
  refine zaf hp zah hc rfl fun K7 hK7=>?_
  refine znl ?_
  refine zbl (hc0) rfl ?_
  refine znl ?_
  refine hK7 _ _ ?_
  refine zay zah hc mixed rfl (q:=0) (by kernel_rfl) (by kernel_rfl) fun K8 hK8=>?_
  refine znl ?_
  refine zbl (zr0 W h1 h2) rfl ?_
  refine znl ?_
  refine hK8 _ _ ?_
  refine zaj ?_
  try dsimp only[zcg,za5]
  refine zh3 rfl ?_
  refine jkf ?_
  refine js0 ?_
  refine zix ?_
  refine zix ?_
  show closeA _ _=_
  exact ylp
 ·have hN:=ydo hr
  have hL:=ydn hr
  refine zso hN ?_
  refine jt0 ⟨by kernel_rfl,_,_,func199,rfl,qaf rfl,fun c208 hc208=>?_⟩
  refine zy4 ?_
  refine zaf (Kp.all c208) zah hc208 rfl fun K209 hK209=>?_
  refine jvl ?_
  refine hK209 _ _ ?_
  refine zaf (Kp.all c208) zah hc208 rfl fun K210 hK210=>?_
  refine znl ?_
  refine hK210 _ _ ?_
  refine zaj ?_
  refine zap (t:=0) rfl ?_
  refine zso hN ?_
  refine hK2 _ _ ?_
  refine zaa fun K9 hK9=>?_
  refine szq (znl ·) ?_
  refine szt ?_
  refine za1 hp zah hc rfl fun K11 hK11=>?_
  refine zso hL ?_
  refine jt0 ⟨by kernel_rfl,_,_,func200,rfl,qaf rfl,fun c311 hc311=>?_⟩
  refine zy4 ?_
  refine zaf (Kp.all c311) zah hc311 rfl fun K312 hK312=>?_
  refine jvl ?_
  refine hK312 _ _ ?_
  refine zaf (Kp.all c311) zah hc311 rfl fun K313 hK313=>?_
  refine znl ?_
  refine hK313 _ _ ?_
  refine zaj ?_
  refine zap (t:=0) rfl ?_
  refine zso hL ?_
  refine hK11 _ _ (hK9 _ _ ?_)
  refine zaa fun K12 hK12=>?_
  refine zaf hp zah hc rfl fun K13 hK13=>?_
  refine zso (sza hl hnn) ?_
  refine zbl (jsz ws hll hw) rfl ?_
  refine zso (sza hl hnn) ?_
  refine hK13 _ _ ?_
  refine szf ?_
  refine zai (hK12 _ _ ?_)
  refine zaf hp zah hc rfl fun K14 hK14=>?_
  refine znl ?_
  refine zbl (hc0) rfl ?_
  refine znl ?_
  refine hK14 _ _ ?_
  refine zay zah hc mixed rfl (q:=0) (by kernel_rfl) (by kernel_rfl) fun K15 hK15=>?_
  refine znl ?_
  refine zbl (zr0 W h1 h2) rfl ?_
  refine znl ?_
  refine hK15 _ _ ?_
  refine zaj ?_
  try dsimp only[zcg,za5]
  refine zh3 rfl ?_
  refine jkf ?_
  refine js0 ?_
  refine zix ?_
  refine zix ?_
  show closeA _ _=_
  exact ylp
theorem ofI{c:Nat}(h:c<2^62):(BitVec.ofInt 64 (c:Int)).toNat=c:=by rw[BitVec.toNat_ofInt];omega
theorem js1{a b:Nat}(ha:a<2^62)(hb:b<2^62):zr9 .or .i64 (a:Int) (b:Int)=((a|||b:Nat):Int):=by
 have hx:a|||b<2^62:=Nat.or_lt_two_pow ha hb
 show IntKind.i64.wrap ((BitVec.ofInt 64 (a:Int)|||BitVec.ofInt 64 (b:Int)).toNat:Int)=_
 rw[BitVec.toNat_or,ofI ha,ofI hb]
 exact zre (by omega) (by omega)
theorem jvm{a b:Nat}(ha:a<2^62)(hb:b<2^62):zr9 .and .i64 (a:Int) (b:Int)=((a&&& b:Nat):Int):=by
 have hx:a&&& b<2^62:=Nat.and_lt_two_pow _ hb
 show IntKind.i64.wrap ((BitVec.ofInt 64 (a:Int)&&& BitVec.ofInt 64 (b:Int)).toNat:Int)=_
 rw[BitVec.toNat_and,ofI ha,ofI hb]
 exact zre (by omega) (by omega)
theorem jks{a b:Nat}(ha:a<2^62)(hb:b<2^62):zr9 .xor .i64 (a:Int) (b:Int)=((a^^^b:Nat):Int):=by
 have hx:a^^^b<2^62:=Nat.xor_lt_two_pow ha hb
 show IntKind.i64.wrap ((BitVec.ofInt 64 (a:Int)^^^BitVec.ofInt 64 (b:Int)).toNat:Int)=_
 rw[BitVec.toNat_xor,ofI ha,ofI hb]
 exact zre (by omega) (by omega)
theorem p8{w:Nat}(h:w≤8):1≤2^w∧2^w≤256:=⟨Nat.two_pow_pos w,qba (n:=2) (by decide) h⟩
theorem zzn{v:Int}{w:Nat}(h0: -1000≤v)(h1:v≤1000)(h:w≤8):zr9 .and .i64 v (((2^w:Nat):Int) - 1)=v % ((2^w:Nat):Int):=by
 have hp:=p8 h
 have e1:(((2^w:Nat):Int) - 1)=((2^w - 1:Nat):Int):=by omega
 rw[e1]
 show IntKind.i64.wrap ((BitVec.ofInt 64 v&&& BitVec.ofInt 64 ((2^w - 1:Nat):Int)).toNat:Int)=_
 have hdv:2^w∣2^64:=Nat.pow_dvd_pow 2 (by omega)
 have e2:((BitVec.ofInt 64 v&&& BitVec.ofInt 64 ((2^w - 1:Nat):Int)).toNat:Int)=v % ((2^w:Nat):Int):=by
  rw[BitVec.toNat_and,ofI (show 2^w - 1<2^62 by omega),Nat.and_two_pow_sub_one_eq_mod,BitVec.toNat_ofInt]
  rw[Int.natCast_emod,qaz (Int.emod_nonneg _ (by decide))]
  exact Int.emod_emod_of_dvd _ (by exact_mod_cast hdv)
 rw[e2]
 have:=Int.emod_nonneg v (show((2^w:Nat):Int)≠0 by omega)
 have:=Int.emod_lt_of_pos v (show(0:Int)<((2^w:Nat):Int) by omega)
 exact zre (by omega) (by omega)
theorem jvn{a w:Nat}(h:w≤8)(ha:a<2^w):zr9 .xor .i64 (a:Int) (((2^w:Nat):Int) - 1)=((2^w - 1 - a:Nat):Int):=by
 have hp:=p8 h
 have e1:(((2^w:Nat):Int) - 1)=((2^w - 1:Nat):Int):=by omega
 rw[e1,jks (by omega) (by omega)]
 congr 1
 apply Nat.eq_of_testBit_eq
 intro i
 rw[Nat.testBit_xor,Nat.testBit_two_pow_sub_one,Nat.sub_sub,Nat.add_comm 1 a,Nat.testBit_two_pow_sub_succ ha]
 by_cases hi:i<w
 ·simp[hi]
 ·have:a<2^i:=Nat.lt_of_lt_of_le ha (qba (by decide) (by omega))
  simp[hi,Nat.testBit_lt_two_pow this]
theorem ydp{a b w:Nat}(h:w≤8)(ha:a<256)(hb:b<2^w):zr9 .or .i64 (IntKind.i64.wrap ((a:Int)*2^min w 64)) (b:Int)=((a*2^w+b:Nat):Int):=by
 have hp:=p8 h
 have hm:a*2^w≤256*256:=Nat.mul_le_mul (by omega) hp.2
 have e:IntKind.i64.wrap ((a:Int)*2^min w 64)=((a*2^w:Nat):Int):=by
  rw[show min w 64=w by omega,show(a:Int)*2^w=((a*2^w:Nat):Int) by push_cast;rfl]
  exact zre (by omega) (by omega)
 rw[e,js1 (by omega) (by omega)]
 congr 1
 rw[Nat.mul_comm,Nat.two_pow_add_eq_or_of_lt hb]
theorem ydq{a k:Nat}(h:k≤8):(a:Int).fdiv (2^min k 64)=((a / 2^k:Nat):Int):=by
 rw[show min k 64=k by omega,show((2:Int)^k)=((2^k:Nat):Int) by push_cast;rfl,Int.fdiv_eq_ediv_of_nonneg _ (Int.natCast_nonneg _)]
 rfl
theorem ze7{p q:Prop}(hq:q)(h:p=q:=by
 conv=>lhs;simp -dsimp -implicitDefEqProofs (disch:=first|assumption|omega|(simp only[r_z]<;>omega)|decide) only[r_r,↓reduceIte,Nat.reduceEqDiff,Nat.reduceAdd,D.fix,Int.reduceToNat,Nat.reduceMul,Nat.reduceBNe,Nat.reduceBEq,zdy,qae]):p:=h.mpr hq
theorem zsp{p:Prop}(h:p:=by
 simp (disch:=first|assumption|omega|(simp only[r_z]<;>omega)|decide) only[r_c,Nat.reduceAdd,D.fix,↓reduceIte,Nat.reduceEqDiff,zdy]):p:=h
theorem ydr(ws vs:List Int)(k w:Int)(hl:ws.length=1):za2 prog 210 [.agg (zdy ws vs k w)] (.d (iD (nth ws 0))):=by
 refine zax (fn:=f210) (by kernel_rfl) func210 rfl (qaf rfl) fun c hc hp=>?_
 refine za0 (τ':=frL [(0,.d (.agg (zdy ws vs k w)))]) (by repeat (first|exact zaq _|refine zak ?_ (by first|rfl|(simp[r_f];done)|simp[r_f, *]))) ?_
 refine szq (ze7 ·) ?_
 refine szq (ze7 ·) ?_
 refine zaj ?_
 show closeA _ _=_
 exact zsp
theorem ze8{p q r:Prop}(e:r)(hq:q)(h:r→p=q:=by
 intro hY
 conv=>lhs;simp -dsimp -implicitDefEqProofs (disch:=first|assumption|omega|(simp only[r_z]<;>omega)|decide) only[r_r,↓reduceIte,Nat.reduceEqDiff,Nat.reduceAdd,D.fix,Int.reduceToNat,Nat.reduceMul,Nat.reduceBNe,Nat.reduceBEq,zdy,qae,hY]):p:=(h e).mpr hq
theorem zua(ws vs:List Int)(k w:Int)(hl:ws.length=2)(he:nth ws 0=nth ws 1):za2 prog 213 [.agg (zdy ws vs k w)] (.d (iD (nth ws 0))):=by
 have hn:(nth ws 0 !=nth ws 1)=false:=by simp[he]
 refine zax (fn:=f213) (by kernel_rfl) func213 rfl (qaf rfl) fun c hc hp=>?_
 refine za0 (τ':=frL [(0,.d (.agg (zdy ws vs k w)))]) (by repeat (first|exact zaq _|refine zak ?_ (by first|rfl|(simp[r_f];done)|simp[r_f, *]))) ?_
 refine szq (ze7 ·) ?_
 refine zaa fun K2 hK2=>?_
 refine zay zah hc mixed rfl (q:=0) (by kernel_rfl) (by kernel_rfl) fun K3 hK3=>?_
 refine ze8 hn ?_
 refine hK3 _ _ ?_
 refine szf ?_
 refine zai (hK2 _ _ ?_)
 refine szq (ze7 ·) ?_
 refine zaj ?_
 show closeA _ _=_
 exact zsp
theorem js2(ws vs:List Int)(k w:Int)(hl:ws.length=2)(he:nth ws 0=nth ws 1)(h1:1≤nth ws 0):za2 prog 219 [.agg (zdy ws vs k w)] (.d (iD 1)):=by
 have hm:min (nth ws 0) 1=1:=by omega
 refine zax (fn:=f219) (by kernel_rfl) func219 rfl (qaf rfl) fun c hc hp=>?_
 refine za0 (τ':=frL [(0,.d (.agg (zdy ws vs k w)))]) (by repeat (first|exact zaq _|refine zak ?_ (by first|rfl|(simp[r_f];done)|simp[r_f, *]))) ?_
 refine szq (ze7 ·) ?_
 refine zaf hp zah hc rfl fun K2 hK2=>?_
 refine ze8 hm ?_
 refine zbl (zua ws vs k w hl he) rfl ?_
 refine ze8 hm ?_
 refine hK2 _ _ ?_
 refine zaj ?_
 show closeA _ _=_
 exact zsp
theorem jkt(ws vs:List Int)(k w:Int)(m:Nat)(hl:0<ws.length)(hm:nth ws 0=m)(h8:m≤8):za2 prog 212 [.agg (zdy ws vs k w)] (.d (iD ((2^m:Nat) - 1:Int))):=by
 refine zax (fn:=f212) (by kernel_rfl) func212 rfl (qaf rfl) fun c hc hp=>?_
 refine za0 (τ':=frL [(0,.d (.agg (zdy ws vs k w)))]) (by repeat (first|exact zaq _|refine zak ?_ (by first|rfl|(simp[r_f];done)|simp[r_f, *]))) ?_
 refine szq (ze7 ·) ?_
 refine zaf hp zah hc rfl fun K2 hK2=>?_
 refine ze8 hm ?_
 refine zbl (zvd m h8) rfl ?_
 refine ze8 hm ?_
 refine hK2 _ _ ?_
 refine zaj ?_
 show closeA _ _=_
 exact zsp
theorem jn7{p q:Prop}(hq:q)(h:p=q:=by
 conv=>lhs;simp -dsimp -implicitDefEqProofs (disch:=first|assumption|omega|(simp only[r_z]<;>omega)|decide) only[r_r,↓reduceIte,Nat.reduceEqDiff,Nat.reduceAdd,D.fix,Int.reduceToNat,Nat.reduceMul,Nat.reduceBNe,Nat.reduceBEq]):p:=h.mpr hq
theorem ylq{p q:Prop}(hq:q)(h:p=q:=by
 conv=>lhs;simp (disch:=first|assumption|omega|(simp only[r_z]<;>omega)|decide) only[r_c,Nat.reduceAdd,D.fix,↓reduceIte,Nat.reduceEqDiff]):p:=h.mpr hq
theorem js3(b:Bool):za2 prog 221 [oD b] (.d (iD (if b then 1 else 0))):=by
 refine zax (fn:=f221) (by kernel_rfl) func221 rfl (qaf rfl) fun c hc hp=>?_
 refine za0 (τ':=frL [(0,.d (oD b))]) (by repeat (first|exact zaq _|refine zak ?_ (by first|rfl|(simp[r_f];done)|simp[r_f, *]))) ?_
 refine szq (jn7 ·) ?_
 refine zaa fun K2 hK2=>?_
 refine szq (jn7 ·) ?_
 refine zan rfl (fun ht=>?_) (fun ht=>?_)
 ·refine szq (jn7 ·) ?_
  refine zaj ?_
  show closeA _ _=_
  refine ylq ?_
  cases b<;>first|rfl|cases ht
 ·refine zai (hK2 _ _ ?_)
  refine szq (jn7 ·) ?_
  refine zaj ?_
  show closeA _ _=_
  refine ylq ?_
  cases b<;>first|rfl|cases ht
theorem yds(ws vs:List Int)(k w:Int)(m a:Nat)(hl:ws.length=1)(hv:vs.length=1)(hm:nth ws 0=m)(h8:m≤8)(ha:nth vs 0=a)(hb:a<2^m):za2 prog 211 [.agg (zdy ws vs k w)] (.d (iD ((2^m - 1 - a:Nat):Int))):=by
 have hx:=jvn h8 hb
 refine zax (fn:=f211) (by kernel_rfl) func211 rfl (qaf rfl) fun c hc hp=>?_
 refine za0 (τ':=frL [(0,.d (.agg (zdy ws vs k w)))]) (by repeat (first|exact zaq _|refine zak ?_ (by first|rfl|(simp[r_f];done)|simp[r_f, *]))) ?_
 refine szq (ze7 ·) ?_
 refine zay zah hc mixed rfl (q:=0) (by kernel_rfl) (by kernel_rfl) fun K2 hK2=>?_
 refine ze8 (sza ha hx) ?_
 refine zbl (jkt ws vs k w m (by omega) hm h8) rfl ?_
 refine ze8 (sza ha hx) ?_
 refine hK2 _ _ ?_
 refine zaj ?_
 show closeA _ _=_
 exact zsp
theorem ydt(ws vs:List Int)(k w:Int)(a b:Nat)(hv:vs.length=2)(ha:nth vs 0=a)(hb:nth vs 1=b)(h1:a<256)(h2:b<256):za2 prog 214 [.agg (zdy ws vs k w)] (.d (iD ((a&&& b:Nat):Int))):=by
 have hx:=jvm (a:=a) (b:=b) (by omega) (by omega)
 refine zax (fn:=f214) (by kernel_rfl) func214 rfl (qaf rfl) fun c hc hp=>?_
 refine za0 (τ':=frL [(0,.d (.agg (zdy ws vs k w)))]) (by repeat (first|exact zaq _|refine zak ?_ (by first|rfl|(simp[r_f];done)|simp[r_f, *]))) ?_
 refine szq (ze7 ·) ?_
 refine zay zah hc mixed rfl (q:=0) (by kernel_rfl) (by kernel_rfl) fun K2 hK2=>?_
 refine ze8 (sza ha (sza hb hx)) ?_
 refine hK2 _ _ ?_
 refine zaj ?_
 show closeA _ _=_
 exact zsp
theorem yi7(ws vs:List Int)(k w:Int)(a b:Nat)(hv:vs.length=2)(ha:nth vs 0=a)(hb:nth vs 1=b)(h1:a<256)(h2:b<256):za2 prog 215 [.agg (zdy ws vs k w)] (.d (iD ((a|||b:Nat):Int))):=by
 have hx:=js1 (a:=a) (b:=b) (by omega) (by omega)
 refine zax (fn:=f215) (by kernel_rfl) func215 rfl (qaf rfl) fun c hc hp=>?_
 refine za0 (τ':=frL [(0,.d (.agg (zdy ws vs k w)))]) (by repeat (first|exact zaq _|refine zak ?_ (by first|rfl|(simp[r_f];done)|simp[r_f, *]))) ?_
 refine szq (ze7 ·) ?_
 refine zay zah hc mixed rfl (q:=0) (by kernel_rfl) (by kernel_rfl) fun K2 hK2=>?_
 refine ze8 (sza ha (sza hb hx)) ?_
 refine hK2 _ _ ?_
 refine zaj ?_
 show closeA _ _=_
 exact zsp
theorem ydu(ws vs:List Int)(k w:Int)(a b:Nat)(hv:vs.length=2)(ha:nth vs 0=a)(hb:nth vs 1=b)(h1:a<256)(h2:b<256):za2 prog 216 [.agg (zdy ws vs k w)] (.d (iD ((a^^^b:Nat):Int))):=by
 have hx:=jks (a:=a) (b:=b) (by omega) (by omega)
 refine zax (fn:=f216) (by kernel_rfl) func216 rfl (qaf rfl) fun c hc hp=>?_
 refine za0 (τ':=frL [(0,.d (.agg (zdy ws vs k w)))]) (by repeat (first|exact zaq _|refine zak ?_ (by first|rfl|(simp[r_f];done)|simp[r_f, *]))) ?_
 refine szq (ze7 ·) ?_
 refine zay zah hc mixed rfl (q:=0) (by kernel_rfl) (by kernel_rfl) fun K2 hK2=>?_
 refine ze8 (sza ha (sza hb hx)) ?_
 refine hK2 _ _ ?_
 refine zaj ?_
 show closeA _ _=_
 exact zsp
theorem ydv(ws vs:List Int)(k w:Int)(m a b:Nat)(hl:0<ws.length)(hv:vs.length=2)(hm:nth ws 0=m)(h8:m≤8)(ha:nth vs 0=a)(hb:nth vs 1=b)(h1:a<256)(h2:b<256):za2 prog 217 [.agg (zdy ws vs k w)] (.d (iD (((a+b) % 2^m:Nat):Int))):=by
 have hx:zr9 .and .i64 ((a:Int)+b) (((2^m:Nat):Int) - 1)=(((a+b) % 2^m:Nat):Int):=by rw[zzn (by omega) (by omega) h8];push_cast;rfl
 refine zax (fn:=f217) (by kernel_rfl) func217 rfl (qaf rfl) fun c hc hp=>?_
 refine za0 (τ':=frL [(0,.d (.agg (zdy ws vs k w)))]) (by repeat (first|exact zaq _|refine zak ?_ (by first|rfl|(simp[r_f];done)|simp[r_f, *]))) ?_
 refine szq (ze7 ·) ?_
 refine zay zah hc mixed rfl (q:=0) (by kernel_rfl) (by kernel_rfl) fun K2 hK2=>?_
 refine ze8 (sza ha (sza hb hx)) ?_
 refine zbl (jkt ws vs k w m hl hm h8) rfl ?_
 refine ze8 (sza ha (sza hb hx)) ?_
 refine hK2 _ _ ?_
 refine zaj ?_
 show closeA _ _=_
 exact zsp
theorem ydw(ws vs:List Int)(k w:Int)(m a b:Nat)(hl:0<ws.length)(hv:vs.length=2)(hm:nth ws 0=m)(h8:m≤8)(ha:nth vs 0=a)(hb:nth vs 1=b)(h1:a<256)(h2:b<2^m):za2 prog 218 [.agg (zdy ws vs k w)] (.d (iD (((a+(2^m - b)) % 2^m:Nat):Int))):=by
 have hp:=p8 h8
 have hx:zr9 .and .i64 ((a:Int) - b) (((2^m:Nat):Int) - 1)=(((a+(2^m - b)) % 2^m:Nat):Int):=by
  rw[zzn (by omega) (by omega) h8,Int.natCast_emod,show((a+(2^m - b):Nat):Int)=((a:Int) - b)+((2^m:Nat):Int) by omega,Int.add_emod_right]
 refine zax (fn:=f218) (by kernel_rfl) func218 rfl (qaf rfl) fun c hc hp=>?_
 refine za0 (τ':=frL [(0,.d (.agg (zdy ws vs k w)))]) (by repeat (first|exact zaq _|refine zak ?_ (by first|rfl|(simp[r_f];done)|simp[r_f, *]))) ?_
 refine szq (ze7 ·) ?_
 refine zay zah hc mixed rfl (q:=0) (by kernel_rfl) (by kernel_rfl) fun K2 hK2=>?_
 refine ze8 (sza ha (sza hb hx)) ?_
 refine zbl (jkt ws vs k w m hl hm h8) rfl ?_
 refine ze8 (sza ha (sza hb hx)) ?_
 refine hK2 _ _ ?_
 refine zaj ?_
 show closeA _ _=_
 exact zsp
theorem yi8(ws vs:List Int)(k w:Int)(a b:Nat)(hv:vs.length=2)(ha:nth vs 0=a)(hb:nth vs 1=b):za2 prog 220 [.agg (zdy ws vs k w)] (.d (iD ((if a=b then 1 else 0:Nat):Int))):=by
 have hx:((a:Int)==(b:Int))=decide (a=b):=by rw[Bool.eq_iff_iff,beq_iff_eq,decide_eq_true_iff];omega
 have hy:(if decide (a=b)=true then(1:Int)else 0)=((if a=b then 1 else 0:Nat):Int):=by by_cases h:a=b<;>simp[h]
 refine zax (fn:=f220) (by kernel_rfl) func220 rfl (qaf rfl) fun c hc hp=>?_
 refine za0 (τ':=frL [(0,.d (.agg (zdy ws vs k w)))]) (by repeat (first|exact zaq _|refine zak ?_ (by first|rfl|(simp[r_f];done)|simp[r_f, *]))) ?_
 refine szq (ze7 ·) ?_
 refine zay zah hc mixed rfl (q:=0) (by kernel_rfl) (by kernel_rfl) fun K2 hK2=>?_
 refine ze8 (sza ha (sza hb (sza hx hy))) ?_
 refine zbl (js3 (decide (a=b))) rfl ?_
 refine ze8 (sza ha (sza hb (sza hx hy))) ?_
 refine hK2 _ _ ?_
 refine zaj ?_
 show closeA _ _=_
 exact zsp
theorem yi9(ws vs:List Int)(k w:Int)(a b:Nat)(hv:vs.length=2)(ha:nth vs 0=a)(hb:nth vs 1=b):za2 prog 222 [.agg (zdy ws vs k w)] (.d (iD ((if a<b then 1 else 0:Nat):Int))):=by
 have hx:decide ((a:Int)<(b:Int))=decide (a<b):=by rw[Bool.eq_iff_iff];simp
 have hy:(if decide (a<b)=true then(1:Int)else 0)=((if a<b then 1 else 0:Nat):Int):=by by_cases h:a<b<;>simp[h]
 refine zax (fn:=f222) (by kernel_rfl) func222 rfl (qaf rfl) fun c hc hp=>?_
 refine za0 (τ':=frL [(0,.d (.agg (zdy ws vs k w)))]) (by repeat (first|exact zaq _|refine zak ?_ (by first|rfl|(simp[r_f];done)|simp[r_f, *]))) ?_
 refine szq (ze7 ·) ?_
 refine zay zah hc mixed rfl (q:=0) (by kernel_rfl) (by kernel_rfl) fun K2 hK2=>?_
 refine ze8 (sza ha (sza hb (sza hx hy))) ?_
 refine zbl (js3 (decide (a<b))) rfl ?_
 refine ze8 (sza ha (sza hb (sza hx hy))) ?_
 refine hK2 _ _ ?_
 refine zaj ?_
 show closeA _ _=_
 exact zsp
theorem ydx(ws vs:List Int)(k w:Nat)(h1:1≤w)(h8:w≤8)(hk:k<2^w):za2 prog 223 [.agg (zdy ws vs k w)] (.d (iD w)):=by
 have q1:decide ((k:Int)<0)=false:=decide_eq_false (by omega)
 have q2:decide (((2^w:Nat):Int) - 1<(k:Int))=false:=decide_eq_false (by omega)
 refine zax (fn:=f223) (by kernel_rfl) func223 rfl (qaf rfl) fun c hc hp=>?_
 refine za0 (τ':=frL [(0,.d (.agg (zdy ws vs k w)))]) (by repeat (first|exact zaq _|refine zak ?_ (by first|rfl|(simp[r_f];done)|simp[r_f, *]))) ?_
 refine szq (ze7 ·) ?_
 refine zaa fun K2 hK2=>?_
 refine zay zah hc mixed rfl (q:=0) (by kernel_rfl) (by kernel_rfl) fun K3 hK3=>?_
 refine ze8 (sza q1 q2) ?_
 refine zbl (zr0 w (by omega) (by omega)) rfl ?_
 refine ze8 (sza q1 q2) ?_
 refine zbl (zvd w h8) rfl ?_
 refine ze8 (sza q1 q2) ?_
 refine hK3 _ _ ?_
 refine szf ?_
 refine zai (hK2 _ _ ?_)
 refine szq (ze7 ·) ?_
 refine zaj ?_
 show closeA _ _=_
 exact zsp
theorem ydy(ws vs:List Int)(k w:Int):za2 prog 224 [.agg (zdy ws vs k w)] (.d (iD k)):=by
 refine zax (fn:=f224) (by kernel_rfl) func224 rfl (qaf rfl) fun c hc hp=>?_
 refine za0 (τ':=frL [(0,.d (.agg (zdy ws vs k w)))]) (by repeat (first|exact zaq _|refine zak ?_ (by first|rfl|(simp[r_f];done)|simp[r_f, *]))) ?_
 refine szq (ze7 ·) ?_
 refine szq (ze7 ·) ?_
 refine zaj ?_
 show closeA _ _=_
 exact zsp
theorem ydz(ws vs:List Int)(k w:Int)(hl:ws.length=3)(h0:nth ws 0=1)(he:nth ws 1=nth ws 2):za2 prog 225 [.agg (zdy ws vs k w)] (.d (iD (nth ws 1))):=by
 have q1:(nth ws 0 !=1)=false:=by rw[h0];rfl
 have q2:(nth ws 1 !=nth ws 2)=false:=by simp[he]
 refine zax (fn:=f225) (by kernel_rfl) func225 rfl (qaf rfl) fun c hc hp=>?_
 refine za0 (τ':=frL [(0,.d (.agg (zdy ws vs k w)))]) (by repeat (first|exact zaq _|refine zak ?_ (by first|rfl|(simp[r_f];done)|simp[r_f, *]))) ?_
 refine szq (ze7 ·) ?_
 refine zaa fun K2 hK2=>?_
 refine zay zah hc mixed rfl (q:=0) (by kernel_rfl) (by kernel_rfl) fun K3 hK3=>?_
 refine ze8 (sza q1 q2) ?_
 refine hK3 _ _ ?_
 refine szf ?_
 refine zai (hK2 _ _ ?_)
 refine szq (ze7 ·) ?_
 refine zaj ?_
 show closeA _ _=_
 exact zsp
theorem yd0(ws vs:List Int)(k w:Int)(a:Nat)(hv:vs.length=3)(ha:nth vs 0=a)(h1:a<2):za2 prog 226 [.agg (zdy ws vs k w)] (.d (iD (if a=1 then nth vs 1 else nth vs 2))):=by
 have hx:nth vs ((2:Int) - a).toNat=if a=1 then nth vs 1 else nth vs 2:=by
  rcases(show a=0∨a=1 by omega)with rfl|rfl<;>rfl
 refine zax (fn:=f226) (by kernel_rfl) func226 rfl (qaf rfl) fun c hc hp=>?_
 refine za0 (τ':=frL [(0,.d (.agg (zdy ws vs k w)))]) (by repeat (first|exact zaq _|refine zak ?_ (by first|rfl|(simp[r_f];done)|simp[r_f, *]))) ?_
 refine szq (ze7 ·) ?_
 refine zay zah hc mixed rfl (q:=0) (by kernel_rfl) (by kernel_rfl) fun K2 hK2=>?_
 refine ze8 (sza ha hx) ?_
 refine hK2 _ _ ?_
 refine zaj ?_
 show closeA _ _=_
 exact zsp
theorem yd1(ws vs:List Int)(k w:Int)(m n:Nat)(hl:ws.length=2)(h0:nth ws 0=m)(h1:nth ws 1=n)(h8:m≤8)(hn:n≤8):za2 prog 227 [.agg (zdy ws vs k w)] (.d (iD ((m+n:Nat):Int))):=by
 refine zax (fn:=f227) (by kernel_rfl) func227 rfl (qaf rfl) fun c hc hp=>?_
 refine za0 (τ':=frL [(0,.d (.agg (zdy ws vs k w)))]) (by repeat (first|exact zaq _|refine zak ?_ (by first|rfl|(simp[r_f];done)|simp[r_f, *]))) ?_
 refine zaf hp zah hc rfl fun K1 hK1=>?_
 simp -dsimp -implicitDefEqProofs (disch:=first|assumption|omega|(simp only[r_z]<;>omega)|decide) only[r_r,↓reduceIte,Nat.reduceEqDiff,Nat.reduceAdd,D.fix,Int.reduceToNat,Nat.reduceMul,Nat.reduceBNe,Nat.reduceBEq,zdy,Int.natCast_add,qae]
 refine hK1 _ _ ?_
 refine zay zah hc mixed rfl (q:=0) (by kernel_rfl) (by kernel_rfl) fun K2 hK2=>?_
 simp -dsimp -implicitDefEqProofs (disch:=first|assumption|omega|(simp only[r_z]<;>omega)|decide) only[r_r,↓reduceIte,Nat.reduceEqDiff,Nat.reduceAdd,D.fix,Int.reduceToNat,Nat.reduceMul,Nat.reduceBNe,Nat.reduceBEq,zdy,Int.natCast_add,h0,h1,qae]
 refine hK2 _ _ ?_
 refine zaj ?_
 show closeA _ _=_
 simp (disch:=first|assumption|omega|(simp only[r_z]<;>omega)|decide) only[r_c,Nat.reduceAdd,D.fix,↓reduceIte,Nat.reduceEqDiff,zdy,Int.natCast_add]
theorem yd2(ws vs:List Int)(k w:Int)(n a b:Nat)(hl:ws.length=2)(hv:vs.length=2)(h1:nth ws 1=n)(hn:n≤8)(ha:nth vs 0=a)(hb:nth vs 1=b)(h2:a<256)(h3:b<2^n):za2 prog 228 [.agg (zdy ws vs k w)] (.d (iD ((a*2^n+b:Nat):Int))):=by
 have hx:=ydp hn h2 h3
 refine zax (fn:=f228) (by kernel_rfl) func228 rfl (qaf rfl) fun c hc hp=>?_
 refine za0 (τ':=frL [(0,.d (.agg (zdy ws vs k w)))]) (by repeat (first|exact zaq _|refine zak ?_ (by first|rfl|(simp[r_f];done)|simp[r_f, *]))) ?_
 refine szq (ze7 ·) ?_
 refine zay zah hc mixed rfl (q:=0) (by kernel_rfl) (by kernel_rfl) fun K2 hK2=>?_
 refine ze8 (sza h1 (sza ha (sza hb hx))) ?_
 refine hK2 _ _ ?_
 refine zaj ?_
 show closeA _ _=_
 exact zsp
theorem yd3(ws vs:List Int)(k w m:Nat)(hl:ws.length=1)(h0:nth ws 0=m)(h1:1≤w)(h8:w≤8)(hk:k+w≤m)(hm:m≤8):za2 prog 229 [.agg (zdy ws vs k w)] (.d (iD w)):=by
 have q1:decide ((k:Int)<0)=false:=decide_eq_false (by omega)
 have q2:decide ((m:Int) - w<(k:Int))=false:=decide_eq_false (by omega)
 refine zax (fn:=f229) (by kernel_rfl) func229 rfl (qaf rfl) fun c hc hp=>?_
 refine za0 (τ':=frL [(0,.d (.agg (zdy ws vs k w)))]) (by repeat (first|exact zaq _|refine zak ?_ (by first|rfl|(simp[r_f];done)|simp[r_f, *]))) ?_
 refine szq (ze7 ·) ?_
 refine zaa fun K2 hK2=>?_
 refine zay zah hc mixed rfl (q:=0) (by kernel_rfl) (by kernel_rfl) fun K3 hK3=>?_
 refine ze8 (sza h0 (sza q1 q2)) ?_
 refine zbl (zr0 w (by omega) (by omega)) rfl ?_
 refine ze8 (sza h0 (sza q1 q2)) ?_
 refine hK3 _ _ ?_
 refine szf ?_
 refine zai (hK2 _ _ ?_)
 refine szq (ze7 ·) ?_
 refine zaj ?_
 show closeA _ _=_
 exact zsp
theorem yd4(ws vs:List Int)(k w a:Nat)(hv:vs.length=1)(ha:nth vs 0=a)(h8:w≤8)(hk:k≤8)(hb:a<256):za2 prog 230 [.agg (zdy ws vs k w)] (.d (iD ((a / 2^k % 2^w:Nat):Int))):=by
 have hx:=ydq (a:=a) hk
 have hle:a / 2^k≤a:=Nat.div_le_self _ _
 have hy:zr9 .and .i64 ((a / 2^k:Nat):Int) (((2^w:Nat):Int) - 1)=((a / 2^k % 2^w:Nat):Int):=by
  generalize a / 2^k=q at hle ⊢
  rw[zzn (by omega) (by omega) h8,Int.natCast_emod]
 refine zax (fn:=f230) (by kernel_rfl) func230 rfl (qaf rfl) fun c hc hp=>?_
 refine za0 (τ':=frL [(0,.d (.agg (zdy ws vs k w)))]) (by repeat (first|exact zaq _|refine zak ?_ (by first|rfl|(simp[r_f];done)|simp[r_f, *]))) ?_
 refine szq (ze7 ·) ?_
 refine zay zah hc mixed rfl (q:=0) (by kernel_rfl) (by kernel_rfl) fun K2 hK2=>?_
 refine ze8 (sza ha (sza hx hy)) ?_
 refine zbl (zvd w h8) rfl ?_
 refine ze8 (sza ha (sza hx hy)) ?_
 refine hK2 _ _ ?_
 refine zaj ?_
 show closeA _ _=_
 exact zsp
theorem yd5(ws vs:List Int)(k w:Int)(hl:ws.length=1)(h0:nth ws 0≤w):za2 prog 231 [.agg (zdy ws vs k w)] (.d (iD w)):=by
 have q1:decide (w<nth ws 0)=false:=decide_eq_false (by omega)
 refine zax (fn:=f231) (by kernel_rfl) func231 rfl (qaf rfl) fun c hc hp=>?_
 refine za0 (τ':=frL [(0,.d (.agg (zdy ws vs k w)))]) (by repeat (first|exact zaq _|refine zak ?_ (by first|rfl|(simp[r_f];done)|simp[r_f, *]))) ?_
 refine szq (ze7 ·) ?_
 refine zaa fun K2 hK2=>?_
 refine zay zah hc mixed rfl (q:=0) (by kernel_rfl) (by kernel_rfl) fun K3 hK3=>?_
 refine ze8 q1 ?_
 refine hK3 _ _ ?_
 refine szf ?_
 refine zai (hK2 _ _ ?_)
 refine szq (ze7 ·) ?_
 refine zaj ?_
 show closeA _ _=_
 exact zsp
theorem yd6(ws vs:List Int)(k w:Int)(hv:vs.length=1):za2 prog 232 [.agg (zdy ws vs k w)] (.d (iD (nth vs 0))):=by
 refine zax (fn:=f232) (by kernel_rfl) func232 rfl (qaf rfl) fun c hc hp=>?_
 refine za0 (τ':=frL [(0,.d (.agg (zdy ws vs k w)))]) (by repeat (first|exact zaq _|refine zak ?_ (by first|rfl|(simp[r_f];done)|simp[r_f, *]))) ?_
 refine szq (ze7 ·) ?_
 refine szq (ze7 ·) ?_
 refine zaj ?_
 show closeA _ _=_
 exact zsp
theorem znm{p q:Prop}(hq:q)(h:p=q:=by
 conv=>lhs;simp -dsimp -implicitDefEqProofs (disch:=first|assumption|omega|(simp only[r_z]<;>omega)|decide) only[r_r,↓reduceIte,Nat.reduceEqDiff,Nat.reduceAdd,D.fix,Int.reduceToNat,Nat.reduceMul,Nat.reduceBNe,Nat.reduceBEq,zdy,fnD,jgf,zol,qae]):p:=h.mpr hq
theorem yd8{p q:Prop}(hq:q)(h:p=q:=by
 conv=>lhs;simp -dsimp -implicitDefEqProofs (disch:=first|assumption|omega|(simp only[r_z]<;>omega)|decide) only[r_r,↓reduceIte,Nat.reduceEqDiff,Nat.reduceAdd,D.fix,Int.reduceToNat,Nat.reduceMul,Nat.reduceBNe,Nat.reduceBEq,zdy,fnD,jgf,zol]):p:=h.mpr hq
theorem jn8(op ar:Int)(fw fv:FuncId)(ws:List Int)(k w W:Int)(hr:zgx op ar fw fv∨ze6 op ar fw fv)(hl:(ws.length:Int)=ar)(hw:∀k,k<ws.length→1≤nth ws k∧nth ws k≤8)(h1:1≤W)(h2:W≤8)(hc0:za2 prog fw [.agg (zdy ws [] k w)] (.d (iD W))):za2 prog 128 [iD op,intsD ws,.agg [iD k,iD w]] (.tup [.d (iD W),.d (iD 0)]):=by
 refine zax (fn:=f128) (by kernel_rfl) func128 rfl (qaf rfl) fun c hc hp=>?_
 refine za0 (τ':=frL [(0,.d (iD op)),(1,.d (intsD ws)),(2,.d (.agg [iD k,iD w]))]) (by repeat (first|exact zaq _|refine zak ?_ (by first|rfl|(simp[r_f];done)|simp[r_f, *]))) ?_
 refine szq (znm ·) ?_
 refine zaf hp zah hc rfl fun K2 hK2=>?_
 refine znm ?_
 refine zbl (jeb op ar fw fv ws [] k w W hr hl hw h1 h2 hc0) rfl ?_
 refine znm ?_
 refine hK2 _ _ ?_
 refine zaa fun K3 hK3=>?_
 refine szq (znm ·) ?_
 refine szf ?_
 refine zai (hK3 _ _ ?_)
 refine szq (yd8 ·) ?_
 refine zaj ?_
 show closeA _ _=_
 simp (disch:=first|assumption|omega|(simp only[r_z]<;>omega)|decide) only[r_c,Nat.reduceAdd,D.fix,↓reduceIte,Nat.reduceEqDiff,zdy,fnD,jgf,zol]
theorem jvo{p q r:Prop}(e:r)(hq:q)(h:r→p=q:=by
 intro hY
 conv=>lhs;simp -dsimp -implicitDefEqProofs (disch:=first|assumption|omega|(simp only[r_z]<;>omega)|decide) only[r_r,↓reduceIte,Nat.reduceEqDiff,Nat.reduceAdd,D.fix,Int.reduceToNat,Nat.reduceMul,Nat.reduceBNe,Nat.reduceBEq,zdy,fnD,jgf,zol,qae,hY]):p:=(h e).mpr hq
theorem ylr{m:List Nat}{τ τ':Fr}{H H':zad}(h2:H=H')(h:zgk τ τ':=by
 repeat (first|exact zaq _|refine zak ?_ (by first|rfl|(simp[r_f];done)|simp[r_f, *]))):Rt m τ H τ' H':=Rt.end h h2
theorem yls{p:Prop}(h:p:=by
 first|rfl|(simp only[r_g,Nat.reduceAdd,↓reduceIte,Nat.reduceEqDiff,zdy,fnD,jgf,zol];first|done|rfl)):p:=h
theorem jn9(op ar:Int)(fw fv:FuncId)(ws vs:List Int)(k w W V:Int)(hr:zgx op ar fw fv∨ze6 op ar fw fv)(hl:(ws.length:Int)=ar)(hw:∀k,k<ws.length→1≤nth ws k∧nth ws k≤8)(h1:1≤W)(h2:W≤8)(hc0:za2 prog fw [.agg (zdy ws vs k w)] (.d (iD W)))(hc1:za2 prog fv [.agg (zdy ws vs k w)] (.d (iD V)))(hlv:vs.length=ws.length)(hll:vs.length≤10)(hv:∀i,i<vs.length→0≤nth vs i∧nth vs i<2^(nth ws i).toNat):zji prog 127 [iD op,intsD ws,intsD vs,intsD [k,w]] (.tup [.d (iD V),.d (iD 0)]):=by
 have q0:((vs.length:Int) !=(ws.length:Int))=false:=by rw[hlv];exact bne_self_eq_false _
 have q2:(((2:Nat):Int) !=2)=false:=rfl
 refine zs6 (fn:=f127) (by kernel_rfl) func127 rfl (qaf rfl) fun c hc hp=>?_
 refine za0 (τ':=frL [(0,.d (iD op)),(1,.d (intsD ws)),(2,.d (intsD vs)),(3,.d (intsD [k,w]))]) (by repeat (first|exact zaq _|refine zak ?_ (by first|rfl|(simp[r_f];done)|simp[r_f, *]))) ?_
 refine szq (yd8 ·) ?_
 refine zaa fun K2 hK2=>?_
 refine szq (jvo (sza q2 q0) ·) ?_
 refine szf ?_
 refine zai (hK2 _ _ ?_)
 refine zay zah hc mixed rfl (q:=1) (by kernel_rfl) (by kernel_rfl) fun K4 hK4=>?_
 refine znm ?_
 refine hK4 _ _ ?_
 refine zaf hp zah hc rfl fun K5 hK5=>?_
 refine znm ?_
 refine zbl (jeb op ar fw fv ws vs k w W hr hl hw h1 h2 hc0) rfl ?_
 refine znm ?_
 refine hK5 _ _ ?_
 refine zaa fun K6 hK6=>?_
 refine szq (znm ·) ?_
 refine szf ?_
 refine zai (hK6 _ _ ?_)
 refine zaa fun K8 hK8=>?_
 refine szq (znm ·) ?_
 refine zag ?_
 refine zao hp (fun τ' H' mm=>∃i,(i≤vs.length)∧mm=vs.length - i∧H'=[.cells ((zdy ws vs k w).map .d),.cells [.d (iD ar),.d (fnD fw),.d (fnD fv)]]∧τ'=frL [(1,.d (intsD ws)),(10,.op 0 0),(11,.op 1 0),(44,.d (intsD vs)),(45,.d (iD vs.length)),(46,.d (iD i))]) (vs.length) ?_ ⟨0,qap _,rfl,rfl,rfl⟩ ?_
 ·refine ylr ?_
  exact yls
 rintro τ' H' mm ⟨i,hi,rfl,rfl,rfl⟩
 refine szq (znm ·) ?_
 refine zaa fun K11 hK11=>?_
 refine zan rfl (fun ht=>?_) (fun ht=>?_)
 ·have hlt:i<vs.length:=by simp at ht;omega
  have hvi:=hv i hlt
  have hwi:=hw i (by omega)
  obtain⟨m,hm⟩:=Int.eq_ofNat_of_zero_le (show 0≤nth ws i by omega)
  rw[hm]at hvi hwi
  have hcc:((2^m:Nat):Int)=2^m:=by push_cast;rfl
  have q3:decide (nth vs i<0)=false:=decide_eq_false (by omega)
  have q4:decide (((2^m:Nat):Int) - 1<nth vs i)=false:=decide_eq_false (by rw[hcc];have:=hvi.2;rw[Int.toNat_natCast]at this;omega)
  refine zai (hK11 _ _ ?_)
  refine zaa fun K12 hK12=>?_
  refine zag ?_
  refine szq (znm ·) ?_
  refine zaf hp zah hc rfl fun K14 hK14=>?_
  refine jvo (sza q3 (sza q4 hm)) ?_
  refine zbl (zvd m (by omega)) rfl ?_
  refine jvo (sza q3 (sza q4 hm)) ?_
  refine hK14 _ _ ?_
  refine szf ?_
  refine zai (hK12 _ _ ?_)
  refine za1 hp zah hc rfl fun K15 hK15=>?_
  refine znm ?_
  refine hK15 _ _ ⟨_,_,_,?_,⟨i+1,by omega,rfl,rfl,rfl⟩,?_⟩
  ·first|omega|(simp only[List.length_cons];omega)|(dsimp only;omega)
  ·refine ylr ?_
   exact yls
 ·refine zau (hK8 _ _ ?_)
  refine zaf hp zah hc rfl fun K16 hK16=>?_
  refine znm ?_
  refine zbl (hc1) rfl ?_
  refine znm ?_
  refine hK16 _ _ ?_
  refine zaj ?_
  show closeN _ _=_
  simp (disch:=first|assumption|omega|(simp only[r_z]<;>omega)|decide) only[r_c,Nat.reduceAdd,D.fix,↓reduceIte,Nat.reduceEqDiff,zdy,fnD,jgf,zol]
  rfl
def wsE(c:Ct)(e:Ex):List Int:=(zbd e).map fun x=>((za7 c x:Nat):Int)
def vsE(c:Ct)(regs data:List Nat)(mems:List (List Int))(e:Ex):List Int:=(zbd e).map fun x=>((evE c regs data mems x:Nat):Int)
theorem joa{c:Ct}{q:Bool}{regs data:List Nat}{mems:List (List Int)}(hc:CtOk c)(hs:StOk c regs data mems){e:Ex}(h:WT c q e)(h1:zcz e≠16)(h2:zcz e≠17)(h3:zcz e≠18):
  ∃ar fw fv,(zgx (zcz e) ar fw fv∨ze6 (zcz e) ar fw fv)∧((zbd e).length:Int)=ar∧
   (∀vs,za2 prog fw [.agg (zdy (wsE c e) vs (kEx e) (wEx e))] (.d (iD (za7 c e))))∧
   za2 prog fv [.agg (zdy (wsE c e) (vsE c regs data mems e) (kEx e) (wEx e))] (.d (iD (evE c regs data mems e))):=by
 have W:∀{x:Ex},WT c q x→1≤za7 c x∧za7 c x≤8:=fun hx=>zcn hc hx
 have V:∀{x:Ex},WT c q x→evE c regs data mems x<2^za7 c x:=fun hx=>znd hc hs _ hx
 have V8:∀{x:Ex},WT c q x→evE c regs data mems x<256:=fun hx=>Nat.lt_of_lt_of_le (V hx) (p8 (W hx).2).2
 cases e with
 |con v w=>exact⟨0,223,224,.inr (show ze6 1 0 _ _ by unfold ze6;decide),rfl,fun vs=>ydx [] vs v w h.1 h.2.1 h.2.2,ydy [] [] v w⟩
 |reg i=>exact absurd rfl h1
 |dat i=>exact absurd rfl h3
 |not a=>exact⟨1,210,211,.inl (show zgx 2 1 _ _ by unfold zgx;decide),rfl,fun vs=>ydr [((za7 c a:Nat):Int)] vs 0 0 rfl,yds [((za7 c a:Nat):Int)] [((evE c regs data mems a:Nat):Int)] 0 0 (za7 c a) (evE c regs data mems a) rfl rfl rfl (W h).2 rfl (V h)⟩
 |two o a b=>
  obtain⟨ho,ha,hb,hw⟩:=h
  have he:nth [((za7 c a:Nat):Int),((za7 c b:Nat):Int)] 0=nth [((za7 c a:Nat):Int),((za7 c b:Nat):Int)] 1:=congrArg (fun n:Nat=>(n:Int)) hw
  rcases ho with rfl|rfl|rfl
  ·exact⟨2,213,214,.inl (show zgx 3 2 _ _ by unfold zgx;decide),rfl,fun vs=>zua [((za7 c a:Nat):Int),((za7 c b:Nat):Int)] vs 0 0 rfl he,ydt [((za7 c a:Nat):Int),((za7 c b:Nat):Int)] [((evE c regs data mems a:Nat):Int),((evE c regs data mems b:Nat):Int)] 0 0 (evE c regs data mems a) (evE c regs data mems b) rfl rfl rfl (V8 ha) (V8 hb)⟩
  ·exact⟨2,213,215,.inl (show zgx 4 2 _ _ by unfold zgx;decide),rfl,fun vs=>zua [((za7 c a:Nat):Int),((za7 c b:Nat):Int)] vs 0 0 rfl he,yi7 [((za7 c a:Nat):Int),((za7 c b:Nat):Int)] [((evE c regs data mems a:Nat):Int),((evE c regs data mems b:Nat):Int)] 0 0 (evE c regs data mems a) (evE c regs data mems b) rfl rfl rfl (V8 ha) (V8 hb)⟩
  ·exact⟨2,213,216,.inl (show zgx 5 2 _ _ by unfold zgx;decide),rfl,fun vs=>zua [((za7 c a:Nat):Int),((za7 c b:Nat):Int)] vs 0 0 rfl he,ydu [((za7 c a:Nat):Int),((za7 c b:Nat):Int)] [((evE c regs data mems a:Nat):Int),((evE c regs data mems b:Nat):Int)] 0 0 (evE c regs data mems a) (evE c regs data mems b) rfl rfl rfl (V8 ha) (V8 hb)⟩
 |add a b=>
  obtain⟨ha,hb,hw⟩:=h
  have he:nth [((za7 c a:Nat):Int),((za7 c b:Nat):Int)] 0=nth [((za7 c a:Nat):Int),((za7 c b:Nat):Int)] 1:=congrArg (fun n:Nat=>(n:Int)) hw
  exact⟨2,213,217,.inl (show zgx 6 2 _ _ by unfold zgx;decide),rfl,fun vs=>zua [((za7 c a:Nat):Int),((za7 c b:Nat):Int)] vs 0 0 rfl he,ydv [((za7 c a:Nat):Int),((za7 c b:Nat):Int)] [((evE c regs data mems a:Nat):Int),((evE c regs data mems b:Nat):Int)] 0 0 (za7 c a) (evE c regs data mems a) (evE c regs data mems b) (Nat.zero_lt_succ _) rfl rfl (W ha).2 rfl rfl (V8 ha) (V8 hb)⟩
 |sub a b=>
  obtain⟨ha,hb,hw⟩:=h
  have he:nth [((za7 c a:Nat):Int),((za7 c b:Nat):Int)] 0=nth [((za7 c a:Nat):Int),((za7 c b:Nat):Int)] 1:=congrArg (fun n:Nat=>(n:Int)) hw
  exact⟨2,213,218,.inl (show zgx 7 2 _ _ by unfold zgx;decide),rfl,fun vs=>zua [((za7 c a:Nat):Int),((za7 c b:Nat):Int)] vs 0 0 rfl he,ydw [((za7 c a:Nat):Int),((za7 c b:Nat):Int)] [((evE c regs data mems a:Nat):Int),((evE c regs data mems b:Nat):Int)] 0 0 (za7 c a) (evE c regs data mems a) (evE c regs data mems b) (Nat.zero_lt_succ _) rfl rfl (W ha).2 rfl rfl (V8 ha) (by rw[hw];exact V hb)⟩
 |eq a b=>
  obtain⟨ha,hb,hw⟩:=h
  have he:nth [((za7 c a:Nat):Int),((za7 c b:Nat):Int)] 0=nth [((za7 c a:Nat):Int),((za7 c b:Nat):Int)] 1:=congrArg (fun n:Nat=>(n:Int)) hw
  have h1:1≤nth [((za7 c a:Nat):Int),((za7 c b:Nat):Int)] 0:=by have:=(W ha).1;show(1:Int)≤((za7 c a:Nat):Int);omega
  exact⟨2,219,220,.inl (show zgx 8 2 _ _ by unfold zgx;decide),rfl,fun vs=>js2 [((za7 c a:Nat):Int),((za7 c b:Nat):Int)] vs 0 0 rfl he h1,yi8 [((za7 c a:Nat):Int),((za7 c b:Nat):Int)] [((evE c regs data mems a:Nat):Int),((evE c regs data mems b:Nat):Int)] 0 0 (evE c regs data mems a) (evE c regs data mems b) rfl rfl rfl⟩
 |lt a b=>
  obtain⟨ha,hb,hw⟩:=h
  have he:nth [((za7 c a:Nat):Int),((za7 c b:Nat):Int)] 0=nth [((za7 c a:Nat):Int),((za7 c b:Nat):Int)] 1:=congrArg (fun n:Nat=>(n:Int)) hw
  have h1:1≤nth [((za7 c a:Nat):Int),((za7 c b:Nat):Int)] 0:=by have:=(W ha).1;show(1:Int)≤((za7 c a:Nat):Int);omega
  exact⟨2,219,222,.inl (show zgx 9 2 _ _ by unfold zgx;decide),rfl,fun vs=>js2 [((za7 c a:Nat):Int),((za7 c b:Nat):Int)] vs 0 0 rfl he h1,yi9 [((za7 c a:Nat):Int),((za7 c b:Nat):Int)] [((evE c regs data mems a:Nat):Int),((evE c regs data mems b:Nat):Int)] 0 0 (evE c regs data mems a) (evE c regs data mems b) rfl rfl rfl⟩
 |mux a b d=>
  obtain⟨ha,hb,hd,h0,hw⟩:=h
  have he:nth [((za7 c a:Nat):Int),((za7 c b:Nat):Int),((za7 c d:Nat):Int)] 1=nth [((za7 c a:Nat):Int),((za7 c b:Nat):Int),((za7 c d:Nat):Int)] 2:=congrArg (fun n:Nat=>(n:Int)) hw
  have e0:nth [((za7 c a:Nat):Int),((za7 c b:Nat):Int),((za7 c d:Nat):Int)] 0=1:=congrArg (fun n:Nat=>(n:Int)) h0
  have hv:=V ha
  rw[h0]at hv
  have hm:=yd0 [((za7 c a:Nat):Int),((za7 c b:Nat):Int),((za7 c d:Nat):Int)] [((evE c regs data mems a:Nat):Int),((evE c regs data mems b:Nat):Int),((evE c regs data mems d:Nat):Int)] 0 0 (evE c regs data mems a) rfl rfl hv
  have hi:(if evE c regs data mems a=1 then nth [((evE c regs data mems a:Nat):Int),((evE c regs data mems b:Nat):Int),((evE c regs data mems d:Nat):Int)] 1 else nth [((evE c regs data mems a:Nat):Int),((evE c regs data mems b:Nat):Int),((evE c regs data mems d:Nat):Int)] 2)=((evE c regs data mems (.mux a b d):Nat):Int):=by
   rw[evE];split<;>rfl
  rw[hi]at hm
  exact⟨3,225,226,.inr (show ze6 10 3 _ _ by unfold ze6;decide),rfl,fun vs=>ydz [((za7 c a:Nat):Int),((za7 c b:Nat):Int),((za7 c d:Nat):Int)] vs 0 0 rfl e0 he,hm⟩
 |cat a b=>
  obtain⟨ha,hb,hw⟩:=h
  exact⟨2,227,228,.inr (show ze6 11 2 _ _ by unfold ze6;decide),rfl,fun vs=>yd1 [((za7 c a:Nat):Int),((za7 c b:Nat):Int)] vs 0 0 (za7 c a) (za7 c b) rfl rfl rfl (W ha).2 (W hb).2,yd2 [((za7 c a:Nat):Int),((za7 c b:Nat):Int)] [((evE c regs data mems a:Nat):Int),((evE c regs data mems b:Nat):Int)] 0 0 (za7 c b) (evE c regs data mems a) (evE c regs data mems b) rfl rfl rfl (W hb).2 rfl rfl (V8 ha) (V hb)⟩
 |slc k w a=>
  obtain⟨ha,h1,hk⟩:=h
  have:=(W ha).2
  exact⟨1,229,230,.inr (show ze6 12 1 _ _ by unfold ze6;decide),rfl,fun vs=>yd3 [((za7 c a:Nat):Int)] vs k w (za7 c a) rfl rfl h1 (by omega) hk this,yd4 [((za7 c a:Nat):Int)] [((evE c regs data mems a:Nat):Int)] k w (evE c regs data mems a) rfl rfl (by omega) (by omega) (V8 ha)⟩
 |ext w a=>
  obtain⟨ha,hk,hw⟩:=h
  exact⟨1,231,232,.inr (show ze6 13 1 _ _ by unfold ze6;decide),rfl,fun vs=>yd5 [((za7 c a:Nat):Int)] vs 0 w rfl (show((za7 c a:Nat):Int)≤w by omega),yd6 [((za7 c a:Nat):Int)] [((evE c regs data mems a:Nat):Int)] 0 w rfl⟩
 |rd k a=>exact absurd rfl h2
def zcq(l:List Nat):D:=.fs ((l.map fun x:Nat=>(x:Int)).map iD) l.length
theorem zin{l:List Ex}{k:Nat}(h:k<l.length):zbz (l.flatMap exC) (k*7) 7=some (exS (nth l k)):=by rw[←zeo];exact jr5 h
theorem jec{l:List Nat}{i:Nat}(h:i<l.length):nth (l.map fun x:Nat=>(x:Int)) i=((nth l i:Nat):Int):=zt4 h
def zf3(p:Pr)(regs:List Nat)(mems:List (List Int))(data:List Nat):List D:=zar p++[zcq regs,intssD mems,zcq data]
def EvS(p:Pr)(q:Bool)(regs:List Nat)(mems:List (List Int))(data:List Nat)(e:Ex):Prop:=WT (ctP p) q e→
 za2 prog 82 [.agg (zf3 p regs mems data),.agg (exC e)] (.tup [.d (iD (evE (ctP p) regs data mems e)),.d (iD (za7 (ctP p) e))])
theorem ylt{l:List PTake}{k:Nat}(h:k<l.length):(l.flatMap ptC)[k*9+1]? =some (iD (nth l k).w):=(zdk (j:=1) zsb h (by omega)).trans rfl
theorem job(e:Ex):(∃i,e= .reg i)∨(∃i,e= .dat i)∨(∃k a,e= .rd k a)∨(zcz e≠16∧zcz e≠18∧zcz e≠17)∨∃a b o,e= .two o a b:=by
 cases e<;>simp[zcz]
theorem zh5{p q:Prop}(hq:q)(h:p=q:=by
 conv=>lhs;simp -dsimp -implicitDefEqProofs (disch:=first|assumption|omega|(simp only[r_z,zbm]<;>omega)|decide) only[r_r,↓reduceIte,Nat.reduceEqDiff,Nat.reduceAdd,D.fix,Int.reduceToNat,Nat.reduceMul,Nat.reduceBNe,Nat.reduceBEq,zf3,zar,exS,exR,sD,nS,zin,zrv,za4,intssD,zcq,qae]):p:=h.mpr hq
theorem zl7{p q r:Prop}(e:r)(hq:q)(h:r→p=q:=by
 intro hY
 conv=>lhs;simp -dsimp -implicitDefEqProofs (disch:=first|assumption|omega|(simp only[r_z,zbm]<;>omega)|decide) only[r_r,↓reduceIte,Nat.reduceEqDiff,Nat.reduceAdd,D.fix,Int.reduceToNat,Nat.reduceMul,Nat.reduceBNe,Nat.reduceBEq,zf3,zar,exS,exR,sD,nS,zin,zrv,za4,intssD,zcq,qae,hY]):p:=(h e).mpr hq
theorem yea{p q:Prop}(hq:q)(h:p=q:=by
 conv=>lhs;simp -dsimp -implicitDefEqProofs (disch:=first|assumption|omega|(simp only[r_z,zbm]<;>omega)|decide) only[r_r,↓reduceIte,Nat.reduceEqDiff,Nat.reduceAdd,D.fix,Int.reduceToNat,Nat.reduceMul,Nat.reduceBNe,Nat.reduceBEq,zf3,zar,exS,exR,sD,nS,zin,zrv,za4,intssD,zcq]):p:=h.mpr hq
theorem yja{m:List Nat}{τ τ':Fr}{H H':zad}(h2:H=H')(h:zgk τ τ':=by
 repeat (first|exact zaq _|refine zak ?_ (by first|rfl|(simp[r_f,zbm];done)|simp[r_f,zbm, *]))):Rt m τ H τ' H':=Rt.end h h2
theorem yg2{p:Prop}(h:p:=by
 simp (disch:=first|assumption|omega|(simp only[r_z,zbm]<;>omega)|decide) only[r_c,Nat.reduceAdd,D.fix,↓reduceIte,Nat.reduceEqDiff,zf3,zar,exS,exR,sD,nS,zin,zrv,za4,intssD,zcq]):p:=h
theorem ylu{p:Prop}(h:p:=by
 first|rfl|(simp only[r_g,Nat.reduceAdd,↓reduceIte,Nat.reduceEqDiff,zf3,zar,exS,exR,sD,nS,zin,zrv,za4,intssD,zcq];first|done|rfl)):p:=h
theorem yeb(p:Pr)(hp0:PrOk p)(q:Bool)(regs:List Nat)(mems:List (List Int))(data:List Nat)(e:Ex)(hs:StOk (ctP p) regs data mems)(hrl:regs.length=p.regs.length)(hdl:data.length=p.takes.length)(ih:∀k,k<(zbd e).length→EvS p q regs mems data (nth (zbd e) k))(hwt:WT (ctP p) q e):za2 prog 82 [.agg (zf3 p regs mems data),.agg (exS e)] (.tup [.d (iD (evE (ctP p) regs data mems e)),.d (iD (za7 (ctP p) e))]):=by
 have hsl:(zbd e).length≤3:=by cases e<;>simp[zbd]
 refine zax (fn:=f82) (by kernel_rfl) func82 rfl (qaf rfl) fun c hc hp=>?_
 refine za0 (τ':=frL [(0,.d (.agg (zf3 p regs mems data))),(1,.d (.agg (exS e)))]) (by repeat (first|exact zaq _|refine zak ?_ (by first|rfl|(simp[r_f,zbm];done)|simp[r_f,zbm, *]))) ?_
 refine szq (zh5 ·) ?_
 refine zaf hp zah hc rfl fun K2 hK2=>?_
 rcases(show(∃i,e= .reg i)∨(∃i,e= .dat i)∨(∃k a,e= .rd k a)∨(zcz e≠16∧zcz e≠18∧zcz e≠17) by rcases job e with h|h|h|h|⟨a,b,o,rfl⟩;exact .inl h;exact .inr (.inl h);exact .inr (.inr (.inl h));exact .inr (.inr (.inr h));(have ho:=hwt.1;refine .inr (.inr (.inr ?_));simp only[zcz];omega))with⟨i,rfl⟩|⟨i,rfl⟩|⟨i,a,rfl⟩|ho
 ·have h16:(zcz (.reg i)==16)=true:=rfl
  have h18:(zcz (.reg i)==18)=false:=rfl
  have h17:(zcz (.reg i)==17)=false:=rfl
  have hil:i<p.regs.length:=by have:=hwt;simpa[WT,ctP]using this
  have hk:kEx (.reg i)=(i:Int):=rfl
  have m3:nth (ctP p).regs i=(nth p.regs i).w:=zt4 hil
  have m1:(p.regs.flatMap prC)[i*13+1]? =some (iD (za7 (ctP p) (.reg i))):=(yde hil).trans (by rw[za7,m3])
  have m2:nth (regs.map fun x:Nat=>(x:Int)) i=((evE (ctP p) regs data mems (.reg i):Nat):Int):=jec (by omega)
  refine zh5 ?_
  refine hK2 _ _ ?_
  refine zaa fun K3 hK3=>?_
  refine szq (zh5 ·) ?_
  refine zag ?_
  refine szq (zl7 h16 ·) ?_
  refine szt ?_
  refine zay zah hc mixed rfl (q:=0) (by kernel_rfl) (by kernel_rfl) fun K6 hK6=>?_
  refine zl7 (sza hk (sza m1 m2)) ?_
  refine hK6 _ _ ?_
  refine zaj ?_
  show closeA _ _=_
  exact yg2
 ·have h16:(zcz (.dat i)==16)=false:=rfl
  have h18:(zcz (.dat i)==18)=true:=rfl
  have h17:(zcz (.dat i)==17)=false:=rfl
  have hil:i<p.takes.length:=by have:=hwt;simpa[WT,ctP]using this.2
  have hk:kEx (.dat i)=(i:Int):=rfl
  have m3:nth (ctP p).takes i=(nth p.takes i).w:=zt4 hil
  have m1:(p.takes.flatMap ptC)[i*9+1]? =some (iD (za7 (ctP p) (.dat i))):=(ylt hil).trans (by rw[za7,m3])
  have m2:nth (data.map fun x:Nat=>(x:Int)) i=((evE (ctP p) regs data mems (.dat i):Nat):Int):=jec (by omega)
  refine zh5 ?_
  refine hK2 _ _ ?_
  refine zaa fun K7 hK7=>?_
  refine szq (zh5 ·) ?_
  refine zag ?_
  refine szq (zl7 h16 ·) ?_
  refine szf ?_
  refine szq (zl7 h18 ·) ?_
  refine szt ?_
  refine zay zah hc mixed rfl (q:=0) (by kernel_rfl) (by kernel_rfl) fun K11 hK11=>?_
  refine zl7 (sza hk (sza m1 m2)) ?_
  refine hK11 _ _ ?_
  refine zaj ?_
  show closeA _ _=_
  exact yg2
 ·have h16:(zcz (.rd i a)==16)=false:=rfl
  have h18:(zcz (.rd i a)==18)=false:=rfl
  have h17:(zcz (.rd i a)==17)=true:=rfl
  have hil:i<p.mems.length:=by have:=hwt.2;simpa[ctP]using this
  have hk:kEx (.rd i a)=(i:Int):=rfl
  have hml:=hs.ml
  have hcl:(ctP p).mems.length=p.mems.length:=by simp[ctP]
  have m3:(nth (ctP p).mems i).2=(nth p.mems i).w:=by rw[show nth (ctP p).mems i=_ from zt4 hil]
  have m1:(p.mems.flatMap pmC)[i*27+1]? =some (iD (za7 (ctP p) (.rd i a))):=(yg1 hil).trans (by rw[za7,m3])
  have r0:zbz ((zbd (.rd i a)).flatMap exC) 0 7=some (exS a):=zin (l:=[a]) (k:=0) (Nat.zero_lt_succ _)
  have hcall:EvS p q regs mems data a:=ih 0 (Nat.zero_lt_succ _)
  have hcall:=hcall hwt.1
  rw[zeo]at hcall
  have hL:=hs.wl i (by omega)
  have hL1:=(hp0.ct.m i (by omega)).1
  have hrl':=Nat.mod_lt (evE (ctP p) regs data mems a) (show 0<(nth mems i).length by omega)
  have hrn:=(hs.m i (by omega) _ (by rw[←hL];exact hrl')).1
  have m4:nth (nth mems i) (evE (ctP p) regs data mems a % (nth mems i).length)=((evE (ctP p) regs data mems (.rd i a):Nat):Int):=by
   rw[evE,←hL];exact(qaz hrn).symm
  have m5:((evE (ctP p) regs data mems a:Nat):Int) % ((nth mems i).length:Int)=((evE (ctP p) regs data mems a % (nth mems i).length:Nat):Int):=(Int.natCast_emod _ _).symm
  have m6:(zbd (.rd i a)).length=1:=rfl
  have gm:(mems.map intsD)[i]? =some (intsD (nth mems i)):=za4 (by omega)
  refine zh5 ?_
  refine hK2 _ _ ?_
  refine zaa fun K12 hK12=>?_
  refine szq (zh5 ·) ?_
  refine zag ?_
  refine szq (zl7 h16 ·) ?_
  refine szf ?_
  refine szq (zl7 h18 ·) ?_
  refine szf ?_
  refine szq (zl7 h17 ·) ?_
  refine szt ?_
  refine zay zah hc mixed rfl (q:=0) (by kernel_rfl) (by kernel_rfl) fun K17 hK17=>?_
  refine zl7 (sza m6 r0) ?_
  refine zbl (hcall) rfl ?_
  refine zl7 (sza m6 r0) ?_
  refine hK17 _ _ ?_
  refine zay zah hc mixed rfl (q:=0) (by kernel_rfl) (by kernel_rfl) fun K18 hK18=>?_
  refine zl7 (sza hk (sza gm (sza m5 (sza m4 m1)))) ?_
  refine hK18 _ _ ?_
  refine zaj ?_
  show closeA _ _=_
  exact yg2
 ·have h16:(zcz e==16)=false:=by simp[ho.1]
  have h18:(zcz e==18)=false:=by simp[ho.2.1]
  have h17:(zcz e==17)=false:=by simp[ho.2.2]
  refine zh5 ?_
  refine hK2 _ _ ?_
  refine zaa fun K19 hK19=>?_
  refine szq (zh5 ·) ?_
  refine zag ?_
  refine szq (zl7 h16 ·) ?_
  refine szf ?_
  refine szq (zl7 h18 ·) ?_
  refine szf ?_
  refine szq (zl7 h17 ·) ?_
  refine szf ?_
  refine zai (hK19 _ _ ?_)
  refine szq (yea ·) ?_
  refine zaa fun K25 hK25=>?_
  refine szq (zh5 ·) ?_
  refine zag ?_
  refine zao hp (fun τ' H' mm=>∃(k:Nat),(k≤(zbd e).length)∧mm=(zbd e).length - k∧H'=[.cells (avs (zf3 p regs mems data)),.cells (avs (exS e)),.cells (avs (((vsE (ctP p) regs data mems e).take k).map iD)),.cells (avs (((wsE (ctP p) e).take k).map iD))]∧τ'=frL [(2,.op 0 0),(3,.op 1 0),(6,.d (iD (kEx e))),(9,.os 1 2 0 k),(10,.os 1 3 0 k),(90,.d (.fs ((zbd e).flatMap exC) (zbd e).length)),(91,.d (iD (zbd e).length)),(92,.d (iD k))]) ((zbd e).length) ?_ ⟨0,qap _,rfl,rfl,rfl⟩ ?_
  ·refine Rt.trans (Rt.nil 9 1 rfl) ?_
   refine Rt.trans (Rt.nil 10 1 rfl) ?_
   refine Rt.trans (Rt.gc (keep:=[0,1,2,3]) (by decide) (by decide) (by simp[fzH,gcH])) ?_
   refine yja ?_
   exact ylu
  rintro τ' H' mm ⟨k,hk,rfl,rfl,rfl⟩
  refine szq (zh5 ·) ?_
  refine zaa fun K28 hK28=>?_
  refine zan rfl (fun ht=>?_) (fun ht=>?_)
  ·have hlt:k<(zbd e).length:=by simp at ht;omega
   have hcall:=ih k hlt (zcc hwt k hlt)
   rw[zeo]at hcall
   have hv1:((vsE (ctP p) regs data mems e).take k).length=k:=by rw[List.length_take,vsE,List.length_map];omega
   have hw1:((wsE (ctP p) e).take k).length=k:=by rw[List.length_take,wsE,List.length_map];omega
   have hv2:=zd0 (l:=vsE (ctP p) regs data mems e) (k:=k) (by rw[vsE,List.length_map];exact hlt)
   have hw2:=zd0 (l:=wsE (ctP p) e) (k:=k) (by rw[wsE,List.length_map];exact hlt)
   have hv3:nth (vsE (ctP p) regs data mems e) k=((evE (ctP p) regs data mems (nth (zbd e) k):Nat):Int):=zt4 hlt
   have hw3:nth (wsE (ctP p) e) k=((za7 (ctP p) (nth (zbd e) k):Nat):Int):=zt4 hlt
   refine zai (hK28 _ _ ?_)
   refine zaa fun K29 hK29=>?_
   refine zag ?_
   refine szq (zh5 ·) ?_
   refine zaf hp zah hc rfl fun K31 hK31=>?_
   refine zh5 ?_
   refine zbl (hcall) rfl ?_
   refine zh5 ?_
   refine hK31 _ _ ?_
   refine szs (zl7 (sza hv1 hw1) ·) (hK29 _ _ ?_)
   refine za1 hp zah hc rfl fun K33 hK33=>?_
   refine zh5 ?_
   refine hK33 _ _ ⟨_,_,_,?_,⟨k+1,by omega,rfl,rfl,rfl⟩,?_⟩
   ·first|omega|(simp only[List.length_cons];omega)|(dsimp only;omega)
   ·refine Rt.trans (Rt.gc (keep:=[0,1,6,8]) (by decide) (by decide) (by simp[fzH,gcH])) ?_
    refine yja ?_
    simp only[r_g,Nat.reduceAdd,↓reduceIte,Nat.reduceEqDiff,zf3,zar,exS,exR,sD,nS,zin,zrv,za4,intssD,zcq];simp[iD,intsD,hv2,hw2,hv3,hw3]
  ·have hkk:k=(zbd e).length:=by simp at ht;omega
   subst hkk
   have hc:=joa hp0.ct hs hwt ho.1 ho.2.2 ho.2.1
   obtain⟨ar,fw,fv,hr,har,hcw,hcv⟩:=hc
   obtain⟨ws,hws⟩:∃ws,ws=wsE (ctP p) e:=⟨_,rfl⟩
   obtain⟨vs,hvs⟩:∃vs,vs=vsE (ctP p) regs data mems e:=⟨_,rfl⟩
   have lw:ws.length=(zbd e).length:=by rw[hws,wsE,List.length_map]
   have lv:vs.length=(zbd e).length:=by rw[hvs,vsE,List.length_map]
   have hwb:∀k,k<ws.length→1≤nth ws k∧nth ws k≤8:=fun k hk=>by
    rw[lw]at hk
    have:=zcn hp0.ct (zcc hwt k hk)
    rw[hws,show nth (wsE (ctP p) e) k=((za7 (ctP p) (nth (zbd e) k):Nat):Int) from zt4 hk]
    omega
   have hvb:∀k,k<vs.length→0≤nth vs k∧nth vs k<2^(nth ws k).toNat:=fun k hk=>by
    rw[lv]at hk
    have:=znd hp0.ct hs _ (zcc hwt k hk)
    rw[hws,hvs,show nth (wsE (ctP p) e) k=((za7 (ctP p) (nth (zbd e) k):Nat):Int) from zt4 hk,show nth (vsE (ctP p) regs data mems e) k=((evE (ctP p) regs data mems (nth (zbd e) k):Nat):Int) from zt4 hk,Int.toNat_natCast]
    exact⟨Int.natCast_nonneg _,by exact_mod_cast this⟩
   have hW:=zcn hp0.ct hwt
   rw[←hws,←hvs,qaw (by omega),qaw (by omega)]
   rw[←hws]at hcw hcv
   rw[←hvs]at hcv
   have k1:=jn9 (zcz e) ar fw fv ws vs (kEx e) (wEx e) (za7 (ctP p) e) (evE (ctP p) regs data mems e) hr (by rw[lw];exact har) hwb (by omega) (by omega) (hcw vs) hcv (by omega) (by omega) hvb
   have k2:=jn8 (zcz e) ar fw fv ws (kEx e) (wEx e) (za7 (ctP p) e) hr (by rw[lw];exact har) hwb (by omega) (by omega) (hcw [])
   have tv:zbz (vs.map iD) 0 (zbd e).length=some (vs.map iD):=zba (by simp[lv])
   have tw:zbz (ws.map iD) 0 (zbd e).length=some (ws.map iD):=zba (by simp[lw])
   clear hws hvs
   refine zau (hK25 _ _ ?_)
   refine zav hp (τ':=frL [(2,.op 0 0),(3,.op 1 0),(6,.d (iD (kEx e))),(9,.d (intsD vs)),(10,.d (intsD ws))]) (H':=[.cells (avs (zf3 p regs mems data)),.cells (avs (exS e))]) ?_ ?_
   ·refine Rt.trans (Rt.fz (id:=2) (l:=(vs.map iD)) rfl) ?_
    refine Rt.trans (Rt.heap (H':=[.cells (avs (zf3 p regs mems data)),.cells (avs (exS e)),.dead,.cells (avs (ws.map iD))]) (by simp only[r_g,Nat.reduceAdd,↓reduceIte,Nat.reduceEqDiff,zf3,zar,exS,exR,sD,nS,zin,zrv,za4,intssD,zcq];first|done|rfl)) ?_
    refine Rt.trans (Rt.fz (id:=3) (l:=(ws.map iD)) rfl) ?_
    refine Rt.trans (Rt.gc (keep:=[0,1]) (by decide) (by decide) (by simp[fzH,gcH])) ?_
    refine yja ?_
    exact ylu
   refine szq (zh5 ·) ?_
   refine zay zah hc mixed rfl (q:=0) (by kernel_rfl) (by kernel_rfl) fun K35 hK35=>?_
   refine zh5 ?_
   refine jie (k1) ?_ ?_
   ·simp (disch:=first|assumption|omega|(simp only[r_z,zbm]<;>omega)|decide) only[r_c,Nat.reduceAdd,D.fix,↓reduceIte,Nat.reduceEqDiff,zf3,zar,exS,exR,sD,nS,zin,zrv,za4,intssD,zcq,intsD]
   refine zh5 ?_
   refine hK35 _ _ ?_
   refine zaf hp zah hc rfl fun K36 hK36=>?_
   refine zh5 ?_
   refine zbl (k2) rfl ?_
   refine zh5 ?_
   refine hK36 _ _ ?_
   refine szq (yea ·) ?_
   refine zaj ?_
   show closeA _ _=_
   exact yg2
end Go.Proofs.YtapjobndmmkanaaGreat
