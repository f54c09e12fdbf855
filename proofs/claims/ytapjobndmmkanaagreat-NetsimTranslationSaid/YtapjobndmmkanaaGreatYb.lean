/- The reference's simulation of nets: bits, sets, words. -/
import Derived.Test.YtapjobndmmkanaaGreatPm
import Derived.Test.YtapjobndmmkanaaGreatQr
import Derived.Test.YtapjobndmmkanaaGreatOk
set_option linter.unusedVariables false
set_option linter.unusedSimpArgs false
namespace Go.Proofs.YtapjobndmmkanaaGreat
open Go.Proofs.Tryz
open Go Go.RowKit
set_option maxRecDepth 100000
set_option maxHeartbeats 4000000
theorem yno:(type_of% @zm5):=@zm5
theorem jk0{p q:Prop}(hq:q)(h:p=q:=by
 conv=>lhs;simp -dsimp -implicitDefEqProofs (disch:=first|assumption|omega|(simp only[r_z]<;>omega)|decide) only[r_r,↓reduceIte,Nat.reduceEqDiff,Nat.reduceAdd,D.fix,Int.reduceToNat,Nat.reduceMul,Nat.reduceBNe,Nat.reduceBEq,zc5,intssD,za4,qae]):p:=h.mpr hq
theorem yew{p q:Prop}(hq:q)(h:p=q:=by
 conv=>lhs;simp -dsimp -implicitDefEqProofs (disch:=first|assumption|omega|(simp only[r_z]<;>omega)|decide) only[r_r,↓reduceIte,Nat.reduceEqDiff,Nat.reduceAdd,D.fix,Int.reduceToNat,Nat.reduceMul,Nat.reduceBNe,Nat.reduceBEq,zc5,intssD,za4,bne_self_eq_false,qae]):p:=h.mpr hq
theorem yex{p q:Prop}(hq:q)(h:p=q:=by
 conv=>lhs;simp -dsimp -implicitDefEqProofs (disch:=first|assumption|omega|(simp only[r_z]<;>omega)|decide) only[r_r,↓reduceIte,Nat.reduceEqDiff,Nat.reduceAdd,D.fix,Int.reduceToNat,Nat.reduceMul,Nat.reduceBNe,Nat.reduceBEq,zc5,intssD,za4]):p:=h.mpr hq
theorem yl0{m:List Nat}{τ τ':Fr}{H H':zad}(h2:H=H')(h:zgk τ τ':=by
 repeat (first|exact zaq _|refine zak ?_ (by first|rfl|(simp[r_f];done)|simp[r_f, *]))):Rt m τ H τ' H':=Rt.end h h2
theorem yl1{p:Prop}(h:p:=by
 first|rfl|(simp only[r_g,Nat.reduceAdd,↓reduceIte,Nat.reduceEqDiff,zc5,intssD,za4];first|done|rfl)):p:=h
theorem yey(s:PSt)(h1:s.regs.length≤1000000)(h2:s.mems.length≤1000000)(h3:∀l∈s.mems,l.length≤1000000):za2 prog 84 [.agg (zc5 s),.agg (zc5 s)] (.d (oD true)):=by
 have m6:(1000000:Nat)≤maxLen:=by unfold maxLen;decide
 have hi1:=jrt s.regs s.regs (by omega)
 rw[show decide (s.regs=s.regs)=true by simp]at hi1
 refine zax (fn:=f84) (by kernel_rfl) func84 rfl (qaf rfl) fun c hc hp=>?_
 refine za0 (τ':=frL [(0,.d (.agg (zc5 s))),(1,.d (.agg (zc5 s)))]) (by repeat (first|exact zaq _|refine zak ?_ (by first|rfl|(simp[r_f];done)|simp[r_f, *]))) ?_
 refine szq (jk0 ·) ?_
 refine zaa fun K2 hK2=>?_
 refine zaf hp zah hc rfl fun K3 hK3=>?_
 refine yew ?_
 refine zbl (hi1) rfl ?_
 refine yew ?_
 refine hK3 _ _ ?_
 refine szf ?_
 refine zai (hK2 _ _ ?_)
 refine zaa fun K4 hK4=>?_
 refine szq (yex ·) ?_
 refine zag ?_
 refine zao hp (fun τ' H' mm=>∃(k:Nat),(k≤s.mems.length)∧mm=s.mems.length - k∧H'=[.cells (avs (zc5 s)),.cells (avs (zc5 s))]∧τ'=frL [(2,.op 0 0),(3,.op 1 0),(5,.d (iD k))]) (s.mems.length) ?_ ⟨0,qap _,rfl,rfl,rfl⟩ ?_
 ·refine yl0 ?_
  exact yl1
 rintro τ' H' mm ⟨k,hk,rfl,rfl,rfl⟩
 refine zaa fun K6 hK6=>?_
 refine szq (jk0 ·) ?_
 refine zan rfl (fun ht=>?_) (fun ht=>?_)
 ·have hlt:k<s.mems.length:=by simp at ht;omega
  have hi2:=jrt (nth s.mems k) (nth s.mems k) (by have:=h3 _ (zcb hlt);omega)
  rw[show decide (nth s.mems k=nth s.mems k)=true by simp]at hi2
  refine zai (hK6 _ _ ?_)
  refine zaa fun K8 hK8=>?_
  refine zag ?_
  refine zay zah hc mixed rfl (q:=0) (by kernel_rfl) (by kernel_rfl) fun K9 hK9=>?_
  refine jk0 ?_
  refine zbl (hi2) rfl ?_
  refine jk0 ?_
  refine hK9 _ _ ?_
  refine szf ?_
  refine zai (hK8 _ _ ?_)
  refine za1 hp zah hc rfl fun K10 hK10=>?_
  refine jk0 ?_
  refine hK10 _ _ ⟨_,_,_,?_,⟨k+1,by omega,rfl,rfl,rfl⟩,?_⟩
  ·first|omega|(simp only[List.length_cons];omega)|(dsimp only;omega)
  ·refine yl0 ?_
   exact yl1
 ·refine zau (hK4 _ _ ?_)
  refine szq (yex ·) ?_
  refine zaj ?_
  show closeA _ _=_
  simp (disch:=first|assumption|omega|(simp only[r_z]<;>omega)|decide) only[r_c,Nat.reduceAdd,D.fix,↓reduceIte,Nat.reduceEqDiff,zc5,intssD,za4]
theorem jk1{p q:Prop}(hq:q)(h:p=q:=by
 conv=>lhs;simp -dsimp -implicitDefEqProofs (disch:=first|assumption|omega|(simp only[r_z,zat]<;>omega)|decide) only[r_r,↓reduceIte,Nat.reduceEqDiff,Nat.reduceAdd,D.fix,Int.reduceToNat,Nat.reduceMul,Nat.reduceBNe,Nat.reduceBEq,zgz,boolsD,za9,za4,zcj,r_e,qae]):p:=h.mpr hq
theorem jv0{p q:Prop}(hq:q)(h:p=q:=by
 conv=>lhs;simp -dsimp -implicitDefEqProofs (disch:=first|assumption|omega|(simp only[r_z,zat]<;>omega)|decide) only[r_r,↓reduceIte,Nat.reduceEqDiff,Nat.reduceAdd,D.fix,Int.reduceToNat,Nat.reduceMul,Nat.reduceBNe,Nat.reduceBEq,zgz,boolsD,za9,za4,zcj,r_e,bne_self_eq_false,qae]):p:=h.mpr hq
theorem jv1{p q:Prop}(hq:q)(h:p=q:=by
 conv=>lhs;simp -dsimp -implicitDefEqProofs (disch:=first|assumption|omega|(simp only[r_z,zat]<;>omega)|decide) only[r_r,↓reduceIte,Nat.reduceEqDiff,Nat.reduceAdd,D.fix,Int.reduceToNat,Nat.reduceMul,Nat.reduceBNe,Nat.reduceBEq,zgz,boolsD,za9,za4,zcj,r_e]):p:=h.mpr hq
theorem yg5{m:List Nat}{τ τ':Fr}{H H':zad}(h2:H=H')(h:zgk τ τ':=by
 repeat (first|exact zaq _|refine zak ?_ (by first|rfl|(simp[r_f,zat];done)|simp[r_f,zat, *]))):Rt m τ H τ' H':=Rt.end h h2
theorem yg6{p:Prop}(h:p:=by
 first|rfl|(simp only[r_g,Nat.reduceAdd,↓reduceIte,Nat.reduceEqDiff,zgz,boolsD,za9,za4,zcj,r_e];first|done|rfl)):p:=h
theorem jv2(f:Fir)(h1:f.st.regs.length≤1000000)(h2:f.st.mems.length≤1000000)(h3:∀l∈f.st.mems,l.length≤1000000)(h4:f.pops.length≤1000000)(h5:f.puts.length≤1000000):za2 prog 28 [.agg (zgz f),.agg (zgz f)] (.d (oD true)):=by
 have hs:=yey f.st h1 h2 h3
 refine zax (fn:=f28) (by kernel_rfl) func28 rfl (qaf rfl) fun c hc hp=>?_
 refine za0 (τ':=frL [(0,.d (.agg (zgz f))),(1,.d (.agg (zgz f)))]) (by repeat (first|exact zaq _|refine zak ?_ (by first|rfl|(simp[r_f,zat];done)|simp[r_f,zat, *]))) ?_
 refine szq (jk1 ·) ?_
 refine zaa fun K2 hK2=>?_
 refine zaf hp zah hc rfl fun K3 hK3=>?_
 refine jv0 ?_
 refine zbl (hs) rfl ?_
 refine jv0 ?_
 refine hK3 _ _ ?_
 refine szf ?_
 refine zai (hK2 _ _ ?_)
 refine zaa fun K4 hK4=>?_
 refine szq (jv1 ·) ?_
 refine zag ?_
 refine zao hp (fun τ' H' mm=>∃(k:Nat),(k≤f.pops.length)∧mm=f.pops.length - k∧H'=[.cells (avs (zgz f)),.cells (avs (zgz f))]∧τ'=frL [(2,.op 0 0),(3,.op 1 0),(5,.d (iD k))]) (f.pops.length) ?_ ⟨0,qap _,rfl,rfl,rfl⟩ ?_
 ·refine yg5 ?_
  exact yg6
 rintro τ' H' mm ⟨k,hk,rfl,rfl,rfl⟩
 refine zaa fun K6 hK6=>?_
 refine szq (jk1 ·) ?_
 refine zan rfl (fun ht=>?_) (fun ht=>?_)
 ·have hlt:k<f.pops.length:=by simp at ht;omega
  refine zai (hK6 _ _ ?_)
  refine zaa fun K8 hK8=>?_
  refine zag ?_
  refine zay zah hc mixed rfl (q:=0) (by kernel_rfl) (by kernel_rfl) fun K9 hK9=>?_
  refine jv0 ?_
  refine hK9 _ _ ?_
  refine szf ?_
  refine zai (hK8 _ _ ?_)
  refine za1 hp zah hc rfl fun K10 hK10=>?_
  refine jk1 ?_
  refine hK10 _ _ ⟨_,_,_,?_,⟨k+1,by omega,rfl,rfl,rfl⟩,?_⟩
  ·first|omega|(simp only[List.length_cons];omega)|(dsimp only;omega)
  ·refine yg5 ?_
   exact yg6
 ·refine zau (hK4 _ _ ?_)
  refine zaa fun K11 hK11=>?_
  refine szq (jv1 ·) ?_
  refine zag ?_
  refine zao hp (fun τ' H' mm=>∃(k:Nat),(k≤f.puts.length)∧mm=f.puts.length - k∧H'=[.cells (avs (zgz f)),.cells (avs (zgz f))]∧τ'=frL [(2,.op 0 0),(3,.op 1 0),(6,.d (iD k))]) (f.puts.length) ?_ ⟨0,qap _,rfl,rfl,rfl⟩ ?_
  ·refine yg5 ?_
   exact yg6
  rintro τ' H' mm ⟨k,hk2,rfl,rfl,rfl⟩
  refine zaa fun K13 hK13=>?_
  refine szq (jk1 ·) ?_
  refine zan rfl (fun ht=>?_) (fun ht=>?_)
  ·have hlt:k<f.puts.length:=by simp at ht;omega
   refine zai (hK13 _ _ ?_)
   refine zaa fun K15 hK15=>?_
   refine zag ?_
   refine zay zah hc mixed rfl (q:=0) (by kernel_rfl) (by kernel_rfl) fun K16 hK16=>?_
   simp -dsimp -implicitDefEqProofs (disch:=first|assumption|omega|(simp only[r_z,zat]<;>omega)|decide) only[r_r,↓reduceIte,Nat.reduceEqDiff,Nat.reduceAdd,D.fix,Int.reduceToNat,Nat.reduceMul,Nat.reduceBNe,Nat.reduceBEq,zgz,boolsD,za9,za4,zcj,r_e,jm6,zw7,bne_self_eq_false,qae,jp1 jq3,jp1 jq3]
   refine hK16 _ _ ?_
   refine zan rfl (fun ht=>?_) (fun ht=>?_)
   ·simp at ht
   ·refine zai (hK15 _ _ ?_)
    refine za1 hp zah hc rfl fun K17 hK17=>?_
    refine jk1 ?_
    refine hK17 _ _ ⟨_,_,_,?_,⟨k+1,by omega,rfl,rfl,rfl⟩,?_⟩
    ·first|omega|(simp only[List.length_cons];omega)|(dsimp only;omega)
    ·refine yg5 ?_
     exact yg6
  ·refine zau (hK11 _ _ ?_)
   refine szq (jv1 ·) ?_
   refine zaj ?_
   show closeA _ _=_
   simp (disch:=first|assumption|omega|(simp only[r_z,zat]<;>omega)|decide) only[r_c,Nat.reduceAdd,D.fix,↓reduceIte,Nat.reduceEqDiff,zgz,boolsD,za9,za4,zcj,r_e]
section
section
variable {P:Program} {fn:Func} {Q:AV→zad→Prop} {τ:Fr} {H:zad}
theorem zno(h:fn.results.toList=[])(hq:Q (.tup []) H):zgs P fn Q .normal τ H:=by
 show zsw P τ H fn.results.toList _
 rw[h];exact hq
theorem jv3{c:Cx}{code:Code}{QQ:Exit→Fr→zad→Prop}{x y z u v w:AV}(h:AWp P c code QQ (frL [(0,x),(1,y),(2,z),(3,u),(4,v),(5,w)]) H):AWp P c code QQ (zfx [x,y,z,u,v,w]) H:=za0 (zak (zak (zak (zak (zak (zak (zaq _) rfl) rfl) rfl) rfl) rfl) rfl) h
theorem zqr{c:Cx}{m:List Nat}{x:Code}{Q:Exit→Fr→zad→Prop}(hp:Kp c m)(h:AWp P c x (fun e τ' H'=>∃τ1 H1,Rt m τ' H' τ1 H1∧Q e τ1 H1) τ H):AWp P c x Q τ H:=fun a w hR=>
 wpIn_mono (h a w hR) fun _ _ _ ⟨τ',H',h1,τ1,H1,h2,h3⟩=>⟨τ1,H1,h2 _ _ _ hp h1,h3⟩
end
abbrev tGm:TypeId:=188
abbrev tWm:TypeId:=189
theorem yl2:mtB prog KT tGm=some (.int .i64 0):=by kernel_rfl
theorem yg7:mtB prog KT tWm=some (.int .i64 0):=by kernel_rfl
theorem js5{g:Gate}:znq (gV g)=true:=rfl
theorem js6{g:Wire}:znq (wV g)=true:=rfl
structure NdM (m:Nat) (gs:Gs) (μ:Mp):Prop where
 ok:OkM prog tGm μ
 gt:∀g,zl2 (gV g) μ=if g∈gs then some (.int .i64 ((m+zy9 g gs:Nat):Int))else none
theorem NdM.nil(m:Nat):NdM m [] ([],0):=⟨OkM.nil _ _,fun g=>by simp;rfl⟩
theorem NdM.add{m:Nat}{gs:Gs}{μ:Mp}(h:NdM m gs μ){g:Gate}(hk:zk8 prog tGm (gV g))(hn:¬g∈gs):NdM m (gs++[g]) (zp8 (gV g) (.int .i64 ((m+gs.length:Nat):Int)) μ):=by
 classical
 refine⟨h.ok.put hk,fun x=>?_⟩
 rw[zha js5 js5,h.gt x]
 by_cases e:x=g
 ·subst e;rw[if_pos rfl,if_pos (by simp),jdx hn]
 ·rw[if_neg fun e'=>e (ybd e')]
  by_cases hx:x∈gs
  ·rw[if_pos hx,if_pos (by simp[hx]),jdw hx]
  ·rw[if_neg hx,if_neg (by simp[hx,e])]
structure InM (ins:List Wire) (μ:Mp):Prop where
 ok:OkM prog tWm μ
 gt:∀w,zl2 (wV w) μ=if w∈ins then some (.int .i64 ((2+zqo w ins:Nat):Int))else none
theorem InM.nil:InM [] ([],0):=⟨OkM.nil _ _,fun g=>by simp;rfl⟩
theorem jeh{g:Wire}:∀{l:List Wire},¬g∈l→zqo g (l++[g])=l.length
 |[],_=>by simp[zqo]
 |x::l,h=>by
  rw[List.cons_append,zqo,if_neg (fun e=>h (by simp[e])),jeh (fun h'=>h (qbb _ h'))];rfl
theorem InM.add{ins:List Wire}{μ:Mp}(h:InM ins μ){w:Wire}(hk:zk8 prog tWm (wV w))(hn:¬w∈ins):InM (ins++[w]) (zp8 (wV w) (.int .i64 ((2+ins.length:Nat):Int)) μ):=by
 classical
 refine⟨h.ok.put hk,fun x=>?_⟩
 rw[zha js6 js6,h.gt x]
 by_cases e:x=w
 ·subst e;rw[if_pos rfl,if_pos (by simp),jeh hn]
 ·rw[if_neg fun e'=>e (ybc e')]
  by_cases hx:x∈ins
  ·rw[if_pos hx,if_pos (by simp[hx]),jdz hx]
  ·rw[if_neg hx,if_neg (by simp[hx,e])]
structure G64 (g:Gate):Prop where
 o:I64 g.op
 a:I64 g.a
 b:I64 g.b
 c:I64 g.c
 n:I64 g.n
theorem yez{g:Gate}(h:G64 g):zk8 prog tGm (gV g):=ybe h.o h.a h.b h.c h.n
structure BE where
 p:Pr
 ins:List Wire
 mi:Mp
 out:List Wire
 dr:List Int
 dat:List (List Int)
def bO(e:BE)(k:Nat):AObj:=.cells [.os 3 1 0 e.ins.length,.os 5 2 0 k,.os 3 3 0 e.out.length,.os 1 4 0 e.dr.length,
 .d (sD e.p.name),.d (sD e.p.clock),.d (.fs (e.p.regs.flatMap prC) e.p.regs.length),.d (.fs (e.p.mems.flatMap pmC) e.p.mems.length),.d (.fs (e.p.takes.flatMap ptC) e.p.takes.length),.d (.fs (e.p.puts.flatMap pqC) e.p.puts.length),.om 5,.om 6,.os 1 7 0 e.dat.length]
def bH(e:BE)(gs:Gs)(μ:Mp):zad:=[bO e gs.length,.cells (avs (e.ins.flatMap zcp)),.cells (avs (gs.flatMap za3)),.cells (avs (e.out.flatMap zcp)),.cells (avs (e.dr.map iD)),mO μ,mO e.mi,.cells (avs (e.dat.map intsD))]
def mE2(e:BE):Nat:=2+e.ins.length
def jog(e:BE)(r:Re)(x:AV)(S':zad):Prop:=∃μ,NdM (mE2 e) r.1 μ∧x= .d (iD r.2)∧S'=bH e r.1 μ
def ye0(e:BE)(r:Gs × List Int)(x:AV)(S':zad):Prop:=∃μ,NdM (mE2 e) r.1 μ∧x= .d (intsD r.2)∧S'=bH e r.1 μ
structure BOk (e:BE) (gs:Gs) (μ:Mp):Prop where
 n:NdM (mE2 e) gs μ
 g:GI (mE2 e) gs
 i:e.ins.length≤1000
 l:gs.length≤100000
end
theorem jk2{a b c d e:Int}:Value.agg #[.int .i64 a,.int .i64 b,.int .i64 c,.int .i64 d,.int .i64 e]=gV ⟨a,b,c,d,e⟩:=rfl
theorem ye1{p q:Prop}(hq:q)(h:p=q:=by
 conv=>lhs;simp -dsimp -implicitDefEqProofs (disch:=first|assumption|omega|(simp only[r_z,zac,zab]<;>omega)|decide) only[r_r,↓reduceIte,Nat.reduceEqDiff,Nat.reduceAdd,D.fix,Int.reduceToNat,Nat.reduceMul,Nat.reduceBNe,Nat.reduceBEq,r_m,bO,zar,za3,qae]):p:=h.mpr hq
theorem ye2{p q r:Prop}(e:r)(hq:q)(h:r→p=q:=by
 intro hY
 conv=>lhs;simp -dsimp -implicitDefEqProofs (disch:=first|assumption|omega|(simp only[r_z,zac,zab]<;>omega)|decide) only[r_r,↓reduceIte,Nat.reduceEqDiff,Nat.reduceAdd,D.fix,Int.reduceToNat,Nat.reduceMul,Nat.reduceBNe,Nat.reduceBEq,r_m,bO,zar,za3,jk2,zfc,jz2 yl2 hkey hn.ok,Option.getD_some,Option.getD_none,Option.isSome_some,Option.isSome_none,qae,hY]):p:=(h e).mpr hq
theorem joi{p q:Prop}(hq:q)(h:p=q:=by
 conv=>lhs;simp -dsimp -implicitDefEqProofs (disch:=first|assumption|omega|(simp only[r_z,zac,zab]<;>omega)|decide) only[r_r,↓reduceIte,Nat.reduceEqDiff,Nat.reduceAdd,D.fix,Int.reduceToNat,Nat.reduceMul,Nat.reduceBNe,Nat.reduceBEq,r_m,bO,zar,za3]):p:=h.mpr hq
theorem yl3{m:List Nat}{τ τ':Fr}{H H':zad}(h2:H=H')(h:zgk τ τ':=by
 repeat (first|exact zaq _|refine zak ?_ (by first|rfl|(simp[r_f,zac,zab];done)|simp[r_f,zac,zab, *]))):Rt m τ H τ' H':=Rt.end h h2
theorem zl9(e:BE)(gs:Gs)(μ:Mp)(g:Gate)(hn:NdM (mE2 e) gs μ)(hk:G64 g)(hi:e.ins.length≤1000)(hl:gs.length≤100000):ScS prog [0,1,3,4,5,6,7] 154 [.op 0 0,.agg ((za3 g).map .d)] (bH e gs μ) (jog e (zc8 (mE2 e) gs g)):=by
 refine zbg (fn:=f154) (by kernel_rfl) func154 rfl (qaf rfl) fun c hc hp=>?_
 refine zdq ?_
 unfold bH
 have hkey:zk8 prog tGm (gV ⟨g.op,g.a,g.b,g.c,g.n⟩):=yez hk
 refine szq (ye1 ·) ?_
 refine zaa fun K2 hK2=>?_
 refine zay zah hc mixed rfl (q:=0) (by kernel_rfl) (by kernel_rfl) fun K3 hK3=>?_
 by_cases hg:(g∈gs)
 ·have hgm:zl2 (gV ⟨g.op,g.a,g.b,g.c,g.n⟩) μ=some (.int .i64 ((mE2 e+zy9 g gs:Nat):Int)):=by have:=hn.gt g;rw[if_pos hg]at this;exact this
  refine ye2 hgm ?_
  refine hK3 _ _ ?_
  refine szq (joi ·) ?_
  refine szt ?_
  refine szq (joi ·) ?_
  refine zav hp (τ':=frL [(4,.d (iD ((mE2 e+zy9 g gs:Nat):Int)))]) (H':=bH e gs μ) ?_ ?_
  ·refine Rt.trans (Rt.gc (keep:=[0,1,2,3,4,5,6,7]) (by decide) (by decide) (by simp[fzH,gcH])) ?_
   refine yl3 ?_
   first|rfl|(simp only[r_g,Nat.reduceAdd,↓reduceIte,Nat.reduceEqDiff,r_m,bO,zar,za3];first|done|rfl)
  refine zaj ?_
  refine zap (t:=4) rfl ?_
  show ∃_,_
  refine⟨μ,?_,?_,?_⟩
  ·unfold zc8;rw[if_pos hg];exact hn
  ·unfold zc8;rw[if_pos hg];rfl
  ·unfold zc8;rw[if_pos hg]
 ·have hgm:zl2 (gV ⟨g.op,g.a,g.b,g.c,g.n⟩) μ=none:=by have:=hn.gt g;rw[if_neg hg]at this;exact this
  refine ye2 hgm ?_
  refine hK3 _ _ ?_
  refine szq (joi ·) ?_
  refine szf ?_
  refine zai (hK2 _ _ ?_)
  refine zay zah hc mixed rfl (q:=0) (by kernel_rfl) (by kernel_rfl) fun K7 hK7=>?_
  refine ye1 ?_
  refine hK7 _ _ ?_
  refine zbc zah hp hc mixed rfl [(0,[]),(1,[]),(2,[]),(3,[]),(4,[]),(5,[]),(6,[]),(7,[]),(8,[]),(9,[]),(10,[]),(11,[]),(12,[])] [[],[],[1],[1,2],[1,2,3],[1,2,3,4],[],[6],[1,2,3,4,5,6,7],[0,1,2,3,4,5,6,7,8],[0,1,2,3,4,5,6,7,8,9],[0,1,2,3,4,5,6,7,8,9,10],[0,1,2,3,4,5,6,7,8,9,10,11]] 1 (by kernel_rfl) fun K8 hK8=>?_
  simp -dsimp -implicitDefEqProofs (disch:=first|assumption|omega|(simp only[r_z,zac,zab]<;>omega)|decide) only[r_r,↓reduceIte,Nat.reduceEqDiff,Nat.reduceAdd,D.fix,Int.reduceToNat,Nat.reduceMul,Nat.reduceBNe,Nat.reduceBEq,r_w,r_m,bO,zar,za3,qae]
  refine hK8 _ _ ?_
  refine zbc zah hp hc mixed rfl [(0,[]),(1,[]),(2,[]),(3,[]),(4,[]),(5,[]),(6,[])] [[],[0],[0,1],[0,1,2],[],[],[0,1,2,3,4,5]] 0 (by kernel_rfl) fun K9 hK9=>?_
  simp -dsimp -implicitDefEqProofs (disch:=first|assumption|omega|(simp only[r_z,zac,zab]<;>omega)|decide) only[r_r,↓reduceIte,Nat.reduceEqDiff,Nat.reduceAdd,D.fix,Int.reduceToNat,Nat.reduceMul,Nat.reduceBNe,Nat.reduceBEq,r_w,r_m,bO,zar,za3,jk2,je6 yl2 hkey hn.ok,qae]
  refine hK9 _ _ ?_
  refine szq (joi ·) ?_
  refine zav hp (τ':=frL [(4,.d (iD (2+(e.ins.length:Int)+gs.length)))]) (H':=bH e (gs++[g]) (zp8 (gV ⟨g.op,g.a,g.b,g.c,g.n⟩) (.int .i64 (2+(e.ins.length:Int)+gs.length)) μ)) ?_ ?_
  ·refine Rt.trans (Rt.gc (keep:=[0,1,10,3,4,5,6,7]) (by decide) (by decide) (by simp[fzH,gcH])) ?_
   refine yl3 ?_
   simp only[r_g,Nat.reduceAdd,↓reduceIte,Nat.reduceEqDiff,r_m,bO,zar,za3];simp[bH,bO,zar,za3,iD,avs]
  refine zaj ?_
  refine zap (t:=4) rfl ?_
  show ∃_,_
  have h2:(2+(e.ins.length:Int)+gs.length)=((mE2 e+gs.length:Nat):Int):=by unfold mE2;omega
  refine⟨zp8 (gV g) (.int .i64 ((mE2 e+gs.length:Nat):Int)) μ,?_,?_,?_⟩
  ·unfold zc8;rw[if_neg hg];exact hn.add (yez hk) hg
  ·unfold zc8;rw[if_neg hg,h2];first|done|rfl
  ·unfold zc8;rw[if_neg hg,h2];first|done|rfl
end Go.Proofs.YtapjobndmmkanaaGreat
