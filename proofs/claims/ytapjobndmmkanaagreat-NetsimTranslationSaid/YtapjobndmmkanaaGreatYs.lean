/- netlist.Build. -/
import Derived.Test.YtapjobndmmkanaaGreatQr
import Derived.Test.YtapjobndmmkanaaGreatYr
set_option linter.unusedVariables false
set_option linter.unusedSimpArgs false
set_option maxRecDepth 100000
set_option maxHeartbeats 4000000
namespace Go.Proofs.YtapjobndmmkanaaGreat
open Go.Proofs.Tryz
open Go Go.RowKit
theorem Rt.fry{m:List Nat}{τ:Fr}{H:zad}:Rt m τ H τ (H++[.free]):=fun c a w _ h=>R.reserve 1 H h
def zej:AObj:=.cells [.d (.val (.slice none 0 0)),.d (.val (.slice none 0 0)),.d (.val (.slice none 0 0)),.d (.val (.slice none 0 0))]
def jeo(p:Pr):AV:=if 600<2+(zh9 p).length+(zd5 p).gates.length then .tup [.d (.agg (zdu ⟨[],[],[],[]⟩)),.d (iD 2)]else .tup [.d (zdj (zd5 p)),.d (iD 0)]
section
variable {p:Pr} {mi:Mp} {o:List Wire} {d:List Int} {n:Nat} {s:Os}
theorem OsOk.bok(hs:OsOk p n s)(hv:PvOk p mi){μ:Mp}(hn:NdM (mP p) s.gs μ)(hl:n≤80000):BOk (eP p mi o d (zbb p)) s.gs μ:=⟨hn,hs.gi,hv.il,by have:=hs.len;omega⟩
theorem OsOk.bitsS(hs:OsOk p n s)(hv:PvOk p mi){gs:Gs}{μ:Mp}{ex:Ex}(hp:s.gs<+:gs)(hg:BOk (eP p mi o d (zbb p)) gs μ)(hw:WT (ctP p) true ex)(hl:gs.length+za8 (ctP p) ex≤90000):
  ScS prog [0,1,3,4,5,6,7] 92 [.op 0 0,.agg ((exS ex).map .d)] (bH (eP p mi o d (zbb p)) gs μ) (ye0 (eP p mi o d (zbb p)) (zci p (zbb p) gs ex)):=by
 have:=zvh (eP p mi o d (zbb p)) hv.be true ex gs μ hg (jm4 hv.k ((hs.tp hv.k).trans hp)) hw hl
 rwa[zz0 hv.be]at this
end
theorem jls{α:Type}[Inhabited α]{f:α→List D}{w:Nat}(hw:∀a,(f a).length=w){l:List α}{k off n:Nat}(hk:k<l.length)(ho:off+n≤w):zbz (l.flatMap f) (k*w+off) n=some (((f (nth l k)).drop off).take n):=by
 have e1:(l.flatMap f).drop (k*w+off)=((f (nth l k)).drop off)++(l.drop (k+1)).flatMap f:=by
  rw[←List.drop_drop,zmt hw,zdt hk,List.drop_eq_getElem_cons hk,List.flatMap_cons,List.drop_append_of_le_length (by rw[hw];omega)]
 unfold zbz
 rw[if_pos (by
  rw[zc1 hw]
  have:=Nat.mul_le_mul_right w (show k+1≤l.length from hk)
  rw[Nat.add_mul]at this;omega),e1,List.take_append_of_le_length (by rw[List.length_drop,hw];omega)]
theorem yf8{l:List PPut}{k:Nat}(h:k<l.length):zbz (l.flatMap pqC) (k*16+9) 7=some (exC (nth l k).da):=by
 rw[jls znh h (by omega)]
 show some ((((exC (nth l k).wh)++exC (nth l k).da).drop 7).take 7)=_
 rw[List.drop_append_of_le_length (by rw[zzh];omega),List.drop_of_length_le (by rw[zzh];omega),List.nil_append,qaw (by rw[zzh];omega)]
theorem yf9{l:List PPut}{k:Nat}(h:k<l.length):zbz (l.flatMap pqC) (k*16+9) 7=some (exS (nth l k).da):=by rw[←zeo];exact yf8 h
theorem zz3{p:Pr}(h:PrOk p):∀i,i≤p.regs.length→(zet p i).dr.length≤8*i
 |0,_=>by simp[zet]
 |i+1,hi=>by
  have ih:=zz3 h i (by omega)
  have hs:=zrr h (show i<p.regs.length by omega) (zjs h i (by omega))
  have hw:=h.ct.r i (by simp[ctP];omega)
  rw[show nth (ctP p).regs i=(nth p.regs i).w from zt4 (show i<p.regs.length by omega)]at hw
  simp only[zet,List.length_append,zu2,hs.b.wid]
  omega
theorem zz4{p:Pr}(h:PrOk p):∀i,i≤p.takes.length→(zgm p i).dr.length≤8*p.regs.length+i
 |0,_=>by have:=zz3 h _ (qao _);simpa[zgm]using this
 |i+1,hi=>by
  have ih:=zz4 h i (by omega)
  simp only[zgm,List.length_append,List.length_cons,List.length_nil]
  omega
theorem zz5{p:Pr}(h:PrOk p):∀i,i≤p.puts.length→(zf0 p i).dr.length≤8*p.regs.length+p.takes.length+9*i
 |0,_=>by have:=zz4 h _ (qao _);simpa[zf0]using this
 |i+1,hi=>by
  have ih:=zz5 h i (by omega)
  have hs:=zrs h (show i<p.puts.length by omega) (zjt h i (by omega))
  have hw:=h.qb i (by omega)
  simp only[zf0,List.length_append,List.length_cons,List.length_nil,zu2,hs.hb.wid]
  omega
theorem jlt{p:Pr}(h:PrOk p):∀i,i≤p.mems.length→(zd4 p i).dr.length≤8*p.regs.length+p.takes.length+9*p.puts.length+12*i
 |0,_=>by have:=zz5 h _ (qao _);simpa[zd4]using this
 |i+1,hi=>by
  have ih:=jlt h i (by omega)
  have hs:=zrt h (show i<p.mems.length by omega) (zgv h i (by omega)) rfl rfl rfl rfl
  have hw:=h.ct.m i (by simp[ctP];omega)
  rw[show nth (ctP p).mems i=((nth p.mems i).words,(nth p.mems i).w) from zt4 (show i<p.mems.length by omega)]at hw
  simp only[zd4,List.length_append,List.length_cons,List.length_nil,ze5,hs.hw.wid]
  simp only at hw
  omega
theorem zcy{p q:Prop}(hq:q)(h:p=q:=by
 conv=>lhs;simp -dsimp -implicitDefEqProofs (disch:=first|assumption|omega|(simp only[r_z,zac,zab,zbt,zb0,zbr,zbs]<;>omega)|decide) only[r_r,↓reduceIte,Nat.reduceEqDiff,Nat.reduceAdd,D.fix,Int.reduceToNat,Nat.reduceMul,Nat.reduceBNe,Nat.reduceBEq,r_m,bH,bO,zar,za3,List.cons_append,List.nil_append,zc4,zej,eP,zb6,zda,zpz,prS,zco,znh,pqS,zdr,zsa,pmS,nS,sD,qae]):p:=h.mpr hq
theorem zvi(k:List Nat){m:List Nat}{τ τ1:Fr}{H H1:zad}(h:Rt m (fun t=>gcV k (τ t)) (gcH k H) τ1 H1)(a:∀i∈m,k[i]? =some i:=by decide)(b:k.Nodup:=by decide)(c:∀i∈k,i<H.length:=by
 simp[fzH,gcH]):Rt m τ H τ1 H1:=Rt.trans (Rt.gc a b c) h
theorem zvj{m:List Nat}{τ τ':Fr}{H H':zad}(h2:H=H')(h:zgk τ τ':=by
 repeat (first|exact zaq _|refine zak ?_ (by first|rfl|(simp[r_f,zac,zab,zbt,zb0,zbr,zbs,zmb hk0,zr5 hk0];done)|simp[r_f,zac,zab,zbt,zb0,zbr,zbs,zmb hk0,zr5 hk0, *]))):Rt m τ H τ' H':=Rt.end h h2
theorem zvm{P:Program}{sm:List Nat}{N:Nat}{τ:Fr}{H:zad}{f:FuncId}{args:List AV}{K0 KK:AV→zad→Prop}{ks:List Nat}(S T:zad)(h:ScS P ks f args S K0)(hK:∀x S',K0 x S'→S'.length=S.length∧KK x (S'++T))(hH:H=S++T:=by
 rfl) (hm:sm.all (okI ks S.length)=true:=by
 first|rfl|(simp[AV.allIs,AV.allI,zas,zal,zam,okI,ltI,zae,zaz,bH,bO,eP,zej,zb6,prS,pqS,pmS];done)|(intro o ho;simp at ho;done)) (hτ:∀t,(τ t).allI (okI ks S.length)=true:=by
 exact fun t=>zbi (by first|rfl|(simp[AV.allIs,AV.allI,zas,zal,zam,okI,ltI,zae,zaz,bH,bO,eP,zej,zb6,prS,pqS,pmS];done)|(intro o ho;simp at ho;done)) t) (ha:AV.allIs (ltI S.length) args=true:=by
 first|rfl|(simp[AV.allIs,AV.allI,zas,zal,zam,okI,ltI,zae,zaz,bH,bO,eP,zej,zb6,prS,pqS,pmS];done)|(intro o ho;simp at ho;done)) (hS:∀o∈S,o.allI (ltI S.length)=true:=by
 first|rfl|(simp[AV.allIs,AV.allI,zas,zal,zam,okI,ltI,zae,zaz,bH,bO,eP,zej,zb6,prS,pqS,pmS];done)|(intro o ho;simp at ho;done)) (hT:∀o∈T,o.allI (okI ks S.length)=true:=by
 first|rfl|(simp[AV.allIs,AV.allI,zas,zal,zam,okI,ltI,zae,zaz,bH,bO,eP,zej,zb6,prS,pqS,pmS];done)|(intro o ho;simp at ho;done)):kC P sm N H τ (.d (.val (.func (.func f) #[] #[]))) args true (tg KK):=zk7 h hH hm hτ ha hS hT hK
theorem zvk{p q:Prop}(hq:q)(h:p=q:=by
 conv=>lhs;simp -dsimp -implicitDefEqProofs (disch:=first|assumption|omega|(simp only[r_z,zac,zab,zbt,zb0,zbr,zbs]<;>omega)|decide) only[r_r,↓reduceIte,Nat.reduceEqDiff,Nat.reduceAdd,D.fix,Int.reduceToNat,Nat.reduceMul,Nat.reduceBNe,Nat.reduceBEq,r_m,bH,bO,zar,za3,List.cons_append,List.nil_append,zc4,zej,eP,zb6,zda,zpz,prS,zco,znh,pqS,zdr,zsa,pmS,nS,sD,za4,qae]):p:=h.mpr hq
theorem jw0{p q r:Prop}(e:r)(hq:q)(h:r→p=q:=by
 intro hY
 conv=>lhs;simp -dsimp -implicitDefEqProofs (disch:=first|assumption|omega|(simp only[r_z,zac,zab,zbt,zb0,zbr,zbs]<;>omega)|decide) only[r_r,↓reduceIte,Nat.reduceEqDiff,Nat.reduceAdd,D.fix,Int.reduceToNat,Nat.reduceMul,Nat.reduceBNe,Nat.reduceBEq,r_m,bH,bO,zar,za3,List.cons_append,List.nil_append,zc4,zej,eP,zb6,zda,zpz,prS,zco,znh,pqS,zdr,zsa,pmS,nS,sD,zr3,zfc,zpk yg7 hkey hv.m.ok,Option.getD_some,qae,hY]):p:=(h e).mpr hq
theorem yga{p q:Prop}(hq:q)(h:p=q:=by
 conv=>lhs;simp -dsimp -implicitDefEqProofs (disch:=first|assumption|omega|(simp only[r_z,zac,zab,zbt,zb0,zbr,zbs]<;>omega)|decide) only[r_r,↓reduceIte,Nat.reduceEqDiff,Nat.reduceAdd,D.fix,Int.reduceToNat,Nat.reduceMul,Nat.reduceBNe,Nat.reduceBEq,r_m,bH,bO,zar,za3,List.cons_append,List.nil_append,zc4,zej,eP,zb6,zda,zpz,prS,zco,znh,pqS,zdr,zsa,pmS,nS,sD,yf9,qae]):p:=h.mpr hq
theorem jw1{p q:Prop}(hq:q)(h:p=q:=by
 conv=>lhs;simp -dsimp -implicitDefEqProofs (disch:=first|assumption|omega|(simp only[r_z,zac,zab,zbt,zb0,zbr,zbs]<;>omega)|decide) only[r_r,↓reduceIte,Nat.reduceEqDiff,Nat.reduceAdd,D.fix,Int.reduceToNat,Nat.reduceMul,Nat.reduceBNe,Nat.reduceBEq,r_w,r_m,bH,bO,zar,za3,List.cons_append,List.nil_append,zc4,zej,eP,zb6,zda,zpz,prS,zco,znh,pqS,zdr,zsa,pmS,nS,sD,qae]):p:=h.mpr hq
theorem ygb{p q:Prop}(hq:q)(h:p=q:=by
 conv=>lhs;simp -dsimp -implicitDefEqProofs (disch:=first|assumption|omega|(simp only[r_z,zac,zab,zbt,zb0,zbr,zbs]<;>omega)|decide) only[r_r,↓reduceIte,Nat.reduceEqDiff,Nat.reduceAdd,D.fix,Int.reduceToNat,Nat.reduceMul,Nat.reduceBNe,Nat.reduceBEq,r_m,bH,bO,zar,za3,List.cons_append,List.nil_append,zc4,zej,eP,zb6,zda,zpz,prS,zco,znh,pqS,zdr,zsa,pmS,nS,sD,zuz,zu0]):p:=h.mpr hq
theorem zx1{p q:Prop}(hq:q)(h:p=q:=by
 conv=>lhs;simp only[r_g,Nat.reduceAdd,↓reduceIte,Nat.reduceEqDiff,r_m,bH,bO,zar,za3,List.cons_append,List.nil_append,zc4,zej,eP,zb6,zda,zpz,prS,zco,znh,pqS,zdr,zsa,pmS,nS,sD]):p:=h.mpr hq
theorem yml{p:Prop}(h:p:=by
 first|rfl|(simp only[r_g,Nat.reduceAdd,↓reduceIte,Nat.reduceEqDiff,r_m,bH,bO,zar,za3,List.cons_append,List.nil_append,zc4,zej,eP,zb6,zda,zpz,prS,zco,znh,pqS,zdr,zsa,pmS,nS,sD];first|done|rfl)):p:=h
theorem ymm{p q:Prop}(hq:q)(h:p=q:=by
 conv=>lhs;simp (disch:=first|assumption|omega|(simp only[r_z,zac,zab,zbt,zb0,zbr,zbs]<;>omega)|decide) only[r_c,Nat.reduceAdd,D.fix,↓reduceIte,Nat.reduceEqDiff,r_m,bH,bO,zar,za3,List.cons_append,List.nil_append,zc4,zej,eP,zb6,zda,zpz,prS,zco,znh,pqS,zdr,zsa,pmS,nS,sD]):p:=h.mpr hq
theorem jw2(p:Pr)(hk0:PrOk p)(hil:(zh9 p).length≤1000)(hco:zoe p≤80000)(hml:p.mems.length≤100):za2 prog 30 [zc4 p] (jeo p):=by
 have hrl:=hk0.rl;have htl:=hk0.tl;have hql:=hk0.ql
 refine zax (fn:=f30) (by kernel_rfl) func30 rfl (qaf rfl) fun c hc hp=>?_
 refine za0 (τ':=frL [(0,.d (zc4 p))]) (by repeat (first|exact zaq _|refine zak ?_ (by first|rfl|(simp[r_f,zac,zab,zbt,zb0,zbr,zbs,zmb hk0,zr5 hk0];done)|simp[r_f,zac,zab,zbt,zb0,zbr,zbs,zmb hk0,zr5 hk0, *]))) ?_
 refine szq (zcy ·) ?_
 refine szq (zcy ·) ?_
 refine zav hp (τ':=frL [(1,.op 8 0),(2,.op 9 0),(3,.d (iD 0)),(4,.op 0 0)]) (H':=bH ⟨p,[],([],0),[],[],[]⟩ [] ([],0)++[.cells (avs (zar p)),zej]) ?_ ?_
 ·refine Rt.trans (Rt.nilc 4 0 3 rfl rfl) ?_
  refine Rt.trans (Rt.nilc 4 1 5 rfl rfl) ?_
  refine Rt.trans (Rt.nilc 4 2 3 rfl rfl) ?_
  refine Rt.trans (Rt.nilc 4 3 1 rfl rfl) ?_
  refine Rt.trans (Rt.nilc 4 12 1 rfl rfl) ?_
  refine zvi [4,5,6,7,8,2,3,9,0,1] ?_
  refine zvj ?_
  refine zx1 ?_;simp[bH,bO,zar,avs,zej,mO,mE]
 refine zaf hp zah hc rfl fun K3 hK3=>?_
 refine zcy ?_
 refine zvm (bH ⟨p,[],([],0),[],[],[]⟩ [] ([],0)) ([.cells (avs (zar p)),zej]) (jll p [] ([],0) [] [] [] hil hrl htl hql) ?_
 rintro _ _ ⟨mi,hmi,rfl,rfl⟩
 refine⟨rfl,?_⟩
 have hv:PvOk p mi:=⟨hk0,hmi,hil,hco⟩
 refine zcy ?_
 refine hK3 _ _ ?_
 refine zav hp (τ':=frL [(1,.op 9 0),(2,.op 10 0),(3,.d (iD 0)),(4,.op 0 0)]) (H':=bH (eP p mi [] [] []) [] ([],0)++[.free,.cells (avs (zar p)),zej]) ?_ ?_
 ·refine Rt.trans (Rt.fry) ?_
  refine zvi [0,1,2,3,4,5,6,7,10,8,9] ?_
  refine zvj ?_
  exact yml
 refine zaf hp zah hc rfl fun K4 hK4=>?_
 refine zcy ?_
 refine zvm (bH (eP p mi [] [] []) [] ([],0)++[.free]) ([.cells (avs (zar p)),zej]) (jwz p mi [] [] hv ([],0) (NdM.nil _)) ?_
 rintro _ _ ⟨μ0,hn0,rfl,rfl⟩
 refine⟨rfl,?_⟩
 refine zcy ?_
 refine hK4 _ _ ?_
 refine zaa fun K5 hK5=>?_
 refine szq (zcy ·) ?_
 refine zag ?_
 refine zao hp (fun τ' H' mm=>∃(i:Nat) (μ1:Mp),(i≤p.regs.length∧NdM (mP p) (zet p i).gs μ1)∧mm=p.regs.length - i∧H'=bH (eP p mi ((zet p i).out) ((zet p i).dr) (zbb p)) ((zet p i).gs) μ1++[.cells (avs (zar p)),zej]∧τ'=frL [(1,.op 8 0),(2,.op 9 0),(3,.d (iD 0)),(4,.op 0 0),(5,.d (intsD (zfz p))),(6,.d (intsD (ze4 p))),(7,.d (iD (zcs p))),(39,.d (.fs (p.regs.flatMap prC) p.regs.length)),(40,.d (iD p.regs.length)),(41,.d (iD i))]) (p.regs.length) ?_ ⟨0,μ0,⟨qap _,hn0⟩,rfl,rfl,rfl⟩ ?_
 ·refine zvi [0,1,2,3,4,5,6,7,9,10] ?_
  refine zvj ?_
  refine zx1 ?_;simp[bH,bO,eP,avs,zar,iD,intsD,zej,zet]
 rintro τ' H' mm ⟨i,μ1,⟨hi,hn1⟩,rfl,rfl,rfl⟩
 refine szq (zcy ·) ?_
 refine zaa fun K8 hK8=>?_
 refine zan rfl (fun ht=>?_) (fun ht=>?_)
 ·have hlt:i<p.regs.length:=by simp at ht;omega
  have hs:=zjs hk0 i hi
  have hrs:=zrr hk0 hlt hs
  have hcr:=jd1 (p:=p) (show i+1≤p.regs.length by omega)
  rw[cRP]at hcr
  obtain⟨s,hse⟩:∃s,s=zet p i:=⟨_,rfl⟩
  obtain⟨R,hR⟩:∃R,R=zci p (zbb p) s.gs (nth p.regs i).next:=⟨_,rfl⟩
  have hsu:zet p (i+1)=⟨(zbu (fun gs k=>zlf (mP p) gs (zcs p) (nth R.2 k) (inp p 1 i k)) R.1 R.2.length).1,s.out++zcr 1 i R.2.length,s.dr++(zbu (fun gs k=>zlf (mP p) gs (zcs p) (nth R.2 k) (inp p 1 i k)) R.1 R.2.length).2⟩:=by rw[hR,hse];rfl
  have hdn:=zz3 hk0 i hi
  rw[←hse]at hs hrs hn1 hdn
  rw[←hse]
  rw[←hR]at hrs
  have hln:=hs.len;have hol:=hs.ol
  have hb:=hrs.b
  have hRl:=hb.len;have hRw:=hb.wid
  have h1:BOk (eP p mi (s.out) (s.dr) (zbb p)) s.gs μ1:=hs.bok hv hn1 (by omega)
  have hcb:=hs.bitsS (o:=s.out) (d:=s.dr) hv (List.prefix_refl _) h1 (hk0.rn i hlt).1 (by omega)
  rw[←hR]at hcb
  refine zai (hK8 _ _ ?_)
  refine zaa fun K9 hK9=>?_
  refine zag ?_
  refine szq (zcy ·) ?_
  refine zaf hp zah hc rfl fun K11 hK11=>?_
  refine zcy ?_
  refine zvm (bH (eP p mi (s.out) (s.dr) (zbb p)) (s.gs) μ1) ([.cells (avs (zar p)),zej,.cells (avs (prS (nth p.regs i)))]) (hcb) ?_
  rintro _ _ ⟨μ2,hn2,rfl,rfl⟩
  refine⟨rfl,?_⟩
  refine zcy ?_
  refine hK11 _ _ ?_
  refine zag ?_
  refine zao hp (fun τ' H' mm=>∃(k:Nat) (μ3:Mp),(k≤R.2.length∧NdM (mP p) (zbu (fun gs k=>zlf (mP p) gs (zcs p) (nth R.2 k) (inp p 1 i k)) R.1 k).1 μ3)∧mm=R.2.length - k∧H'=bH (eP p mi (s.out++zcr 1 i k) (s.dr++(zbu (fun gs k=>zlf (mP p) gs (zcs p) (nth R.2 k) (inp p 1 i k)) R.1 k).2) (zbb p)) ((zbu (fun gs k=>zlf (mP p) gs (zcs p) (nth R.2 k) (inp p 1 i k)) R.1 k).1) μ3++[.cells (avs (zar p)),zej]∧τ'=frL [(1,.op 8 0),(2,.op 9 0),(3,.d (iD 0)),(4,.op 0 0),(5,.d (intsD (zfz p))),(6,.d (intsD (ze4 p))),(7,.d (iD (zcs p))),(8,.d (iD i)),(39,.d (.fs (p.regs.flatMap prC) p.regs.length)),(40,.d (iD p.regs.length)),(41,.d (iD i)),(49,.d (intsD R.2)),(50,.d (iD R.2.length)),(51,.d (iD k))]) (R.2.length) ?_ ⟨0,μ2,⟨qap _,hn2⟩,rfl,rfl,rfl⟩ ?_
  ·refine zvi [0,1,2,3,4,5,6,7,8,9] ?_
   refine zvj ?_
   refine zx1 ?_;simp[bH,bO,eP,avs,zar,iD,intsD,zej,zbu,zcr]
  rintro τ' H' mm ⟨k,μ3,⟨hkk,hn3⟩,rfl,rfl,rfl⟩
  refine szq (zcy ·) ?_
  refine zaa fun K13 hK13=>?_
  refine zan rfl (fun ht=>?_) (fun ht=>?_)
  ·have hlt2:k<R.2.length:=by simp at ht;omega
   have hkw:k<(nth p.regs i).w:=by omega
   have hw8:=hk0.ct.r i (by simpa[ctP]using hlt)
   rw[show nth (ctP p).regs i=(nth p.regs i).w from zt4 hlt]at hw8
   have hbk:Bs (mP p) (2*k) k R.1 (zbu (fun gs k=>zlf (mP p) gs (zcs p) (nth R.2 k) (inp p 1 i k)) R.1 k):=zc3 hb.gi fun j hj gs' hp hg=>zt2 mP2 hg (hs.fire hk0 (hb.pre.trans hp)) (hb.at hp (by omega)) (zh1 (in1 hlt (by omega)) _)
   have hsuk:zbu (fun gs k=>zlf (mP p) gs (zcs p) (nth R.2 k) (inp p 1 i k)) R.1 (k+1)=((zlf (mP p) (zbu (fun gs k=>zlf (mP p) gs (zcs p) (nth R.2 k) (inp p 1 i k)) R.1 k).1 (zcs p) (nth R.2 k) (inp p 1 i k)).1,(zbu (fun gs k=>zlf (mP p) gs (zcs p) (nth R.2 k) (inp p 1 i k)) R.1 k).2++[(zlf (mP p) (zbu (fun gs k=>zlf (mP p) gs (zcs p) (nth R.2 k) (inp p 1 i k)) R.1 k).1 (zcs p) (nth R.2 k) (inp p 1 i k)).2]):=rfl
   generalize zbu (fun gs k=>zlf (mP p) gs (zcs p) (nth R.2 k) (inp p 1 i k)) R.1 k=M at *
   have hMl:=hbk.len;have hMw:=hbk.wid
   have hwl:(s.out++zcr 1 i k).length=s.out.length+k:=by rw[List.length_append,zb3]
   have hdl:(s.dr++M.2).length=s.dr.length+k:=by rw[List.length_append,hMw]
   have hin:=zh1 (in1 hlt hkw) M.1
   have h3:BOk (eP p mi (s.out++zcr 1 i k) (s.dr++M.2) (zbb p)) M.1 μ3:=⟨hn3,hbk.gi,hil,by omega⟩
   have hkey:zk8 prog tWm (wV ⟨1,(i:Int),(k:Int)⟩):=zw4 (a:=1) (b:=(i:Int)) (c:=(k:Int)) (zh2 (by decide) (by decide)) (zh2 (by omega) (by omega)) (zh2 (by omega) (by omega))
   have hgm:=hv.m.gt ⟨1,(i:Int),(k:Int)⟩
   rw[if_pos (in1 hlt hkw)]at hgm
   have hwi:inp p 1 i k=((2+zqo ⟨1,(i:Int),(k:Int)⟩ (zh9 p):Nat):Int):=rfl
   rw[←hwi]at hgm
   have hcm:=jtc (eP p mi (s.out++zcr 1 i k) (s.dr++M.2) (zbb p)) M.1 μ3 (zcs p) (nth R.2 k) (inp p 1 i k) h3 (hs.fire hk0 (hb.pre.trans hbk.pre)) (hb.at hbk.pre (by omega)) hin (by omega)
   generalize inp p 1 i k=W at *
   refine zai (hK13 _ _ ?_)
   refine zaa fun K14 hK14=>?_
   refine zag ?_
   refine szq (zvk ·) ?_
   refine za1 hp zah hc rfl fun K16 hK16=>?_
   refine jw0 hgm ?_
   refine zvm (bH (eP p mi (s.out++zcr 1 i k) (s.dr++M.2) (zbb p)) (M.1) μ3) ([.cells (avs (zar p)),zej]) (hcm) ?_
   rintro _ _ ⟨μ4,hn4,rfl,rfl⟩
   refine⟨rfl,?_⟩
   refine jw0 hgm ?_
   refine zvm (bH (eP p mi (s.out++zcr 1 i k) (s.dr++M.2) (zbb p)) ((zlf (mP p) M.1 (zcs p) (nth R.2 k) W).1) μ4) ([.cells (avs (zar p)),zej]) (ziq (eP p mi (s.out++zcr 1 i k) (s.dr++M.2) (zbb p)) _ μ4 1 i k _ (by show(s.out++zcr 1 i k).length≤_;omega) (by show(s.dr++M.2).length≤_;omega)) ?_
   rintro _ _ ⟨_,rfl,rfl⟩
   refine⟨rfl,?_⟩
   refine jw0 hgm ?_
   refine hK16 _ _ (hK14 _ _ ?_)
   refine za1 hp zah hc rfl fun K17 hK17=>?_
   refine zcy ?_
   refine hK17 _ _ ⟨_,_,_,?_,⟨k+1,μ4,⟨by omega,by rw[hsuk];exact hn4⟩,rfl,rfl,rfl⟩,?_⟩
   ·first|omega|(simp only[List.length_cons];omega)|(dsimp only;omega)
   ·refine zvi [0,1,2,3,4,5,6,7,8,9] ?_
    refine zvj ?_
    refine zx1 ?_;rw[hsuk,zk3];simp[bH,bO,eP,avs,zar,iD,intsD,zej,mE2,mP]
  ·have hke:k=R.2.length:=by simp at ht;omega
   subst hke
   refine zau (hK9 _ _ ?_)
   refine za1 hp zah hc rfl fun K18 hK18=>?_
   refine zcy ?_
   refine hK18 _ _ ⟨_,_,_,?_,⟨i+1,μ3,⟨by omega,by rw[hsu];exact hn3⟩,rfl,rfl,rfl⟩,?_⟩
   ·first|omega|(simp only[List.length_cons];omega)|(dsimp only;omega)
   ·refine zvi [0,1,2,3,4,5,6,7,8,9] ?_
    refine zvj ?_
    refine zx1 ?_;rw[hsu]
 ·have hie:i=p.regs.length:=by simp at ht;omega
  subst hie
  refine zau (hK5 _ _ ?_)
  refine zaa fun K19 hK19=>?_
  refine szq (zcy ·) ?_
  refine zag ?_
  refine zao hp (fun τ' H' mm=>∃(i:Nat) (μ1:Mp),(i≤p.takes.length∧NdM (mP p) (zgm p i).gs μ1)∧mm=p.takes.length - i∧H'=bH (eP p mi ((zgm p i).out) ((zgm p i).dr) (zbb p)) ((zgm p i).gs) μ1++[.cells (avs (zar p)),zej]∧τ'=frL [(1,.op 8 0),(2,.op 9 0),(3,.d (iD 0)),(4,.op 0 0),(5,.d (intsD (zfz p))),(6,.d (intsD (ze4 p))),(7,.d (iD (zcs p))),(74,.d (intsD (zfz p))),(75,.d (iD p.takes.length)),(76,.d (iD i))]) (p.takes.length) ?_ ⟨0,μ1,⟨qap _,hn1⟩,rfl,rfl,rfl⟩ ?_
  ·refine zvi [0,1,2,3,4,5,6,7,8,9] ?_
   refine zvj ?_
   refine zx1 ?_;simp[bH,bO,eP,avs,zar,iD,intsD,zej,zgm,zmb hk0]
  rintro τ' H' mm ⟨i,μ1,⟨hi2,hn5⟩,rfl,rfl,rfl⟩
  refine szq (zcy ·) ?_
  refine zaa fun K22 hK22=>?_
  refine zan rfl (fun ht=>?_) (fun ht=>?_)
  ·have hlt:i<p.takes.length:=by simp at ht;omega
   have htk2:=zmb hk0
   have hs:=zu5 hk0 i hi2
   have hdn:=zz4 hk0 i hi2
   have hcr:=jd1 (p:=p) (qao p.regs.length)
   have hcu:=jjr (p:=p) (qap p.puts.length)
   rw[cUP]at hcu
   obtain⟨s,hse⟩:∃s,s=zgm p i:=⟨_,rfl⟩
   have hsu:zgm p (i+1)=⟨(zdn (mP p) s.gs (zcs p) (nth (zfz p) i)).1,s.out++[⟨5,i,0⟩],s.dr++[(zdn (mP p) s.gs (zcs p) (nth (zfz p) i)).2]⟩:=by rw[hse];rfl
   rw[←hse]at hs hn5 hdn
   rw[←hse]
   have hln:=hs.len;have hol:=hs.ol
   have h1:BOk (eP p mi (s.out) (s.dr) (zbb p)) s.gs μ1:=hs.bok hv hn5 (by omega)
   have hcm:=zj3 (eP p mi (s.out) (s.dr) (zbb p)) s.gs μ1 (zcs p) (nth (zfz p) i) h1 (hs.fire hk0 (List.prefix_refl _)) (hs.dueT hk0 (List.prefix_refl _) hlt)
   refine zai (hK22 _ _ ?_)
   refine zaa fun K23 hK23=>?_
   refine zag ?_
   refine szq (zvk ·) ?_
   refine za1 hp zah hc rfl fun K25 hK25=>?_
   refine zcy ?_
   refine zvm (bH (eP p mi (s.out) (s.dr) (zbb p)) (s.gs) μ1) ([.cells (avs (zar p)),zej]) (hcm) ?_
   rintro _ _ ⟨μ4,hn4,rfl,rfl⟩
   refine⟨rfl,?_⟩
   refine zcy ?_
   refine zvm (bH (eP p mi (s.out) (s.dr) (zbb p)) ((zdn (mP p) s.gs (zcs p) (nth (zfz p) i)).1) μ4) ([.cells (avs (zar p)),zej]) (ziq (eP p mi (s.out) (s.dr) (zbb p)) _ μ4 5 i 0 _ (by show s.out.length≤_;omega) (by show s.dr.length≤_;omega)) ?_
   rintro _ _ ⟨_,rfl,rfl⟩
   refine⟨rfl,?_⟩
   refine zcy ?_
   refine hK25 _ _ (hK23 _ _ ?_)
   refine za1 hp zah hc rfl fun K26 hK26=>?_
   refine zcy ?_
   refine hK26 _ _ ⟨_,_,_,?_,⟨i+1,μ4,⟨by omega,by rw[hsu];exact hn4⟩,rfl,rfl,rfl⟩,?_⟩
   ·first|omega|(simp only[List.length_cons];omega)|(dsimp only;omega)
   ·refine zvi [0,1,2,3,4,5,6,7,8,9] ?_
    refine zvj ?_
    refine zx1 ?_;rw[hsu];rfl
  ·have hie:i=p.takes.length:=by simp at ht;omega
   subst hie
   refine zau (hK19 _ _ ?_)
   refine zaa fun K27 hK27=>?_
   refine szq (zcy ·) ?_
   refine zag ?_
   refine zao hp (fun τ' H' mm=>∃(i:Nat) (μ1:Mp),(i≤p.puts.length∧NdM (mP p) (zf0 p i).gs μ1)∧mm=p.puts.length - i∧H'=bH (eP p mi ((zf0 p i).out) ((zf0 p i).dr) (zbb p)) ((zf0 p i).gs) μ1++[.cells (avs (zar p)),zej]∧τ'=frL [(1,.op 8 0),(2,.op 9 0),(3,.d (iD 0)),(4,.op 0 0),(7,.d (iD (zcs p))),(89,.d (intsD (ze4 p))),(90,.d (iD p.puts.length)),(91,.d (iD i))]) (p.puts.length) ?_ ⟨0,μ1,⟨qap _,hn5⟩,rfl,rfl,rfl⟩ ?_
   ·refine zvi [0,1,2,3,4,5,6,7,8,9] ?_
    refine zvj ?_
    refine zx1 ?_;simp[bH,bO,eP,avs,zar,iD,intsD,zej,zf0,zr5 hk0]
   rintro τ' H' mm ⟨i,μ1,⟨hi3,hn6⟩,rfl,rfl,rfl⟩
   refine szq (zcy ·) ?_
   refine zaa fun K30 hK30=>?_
   refine zan rfl (fun ht=>?_) (fun ht=>?_)
   ·have hlt:i<p.puts.length:=by simp at ht;omega
    have hpk2:=zr5 hk0
    have hs:=zjt hk0 i hi3
    have hps:=zrs hk0 hlt hs
    have hdn:=zz5 hk0 i hi3
    have hcu:=jjr (p:=p) (show i+1≤p.puts.length by omega)
    rw[cUP]at hcu
    obtain⟨s,hse⟩:∃s,s=zf0 p i:=⟨_,rfl⟩
    rw[←hse]at hs hps hn6 hdn
    rw[←hse]
    obtain⟨A,hA⟩:∃A,A=zdn (mP p) s.gs (zcs p) (nth (ze4 p) i):=⟨_,rfl⟩
    obtain⟨R,hR⟩:∃R,R=zci p (zbb p) A.1 (nth p.puts i).da:=⟨_,rfl⟩
    have hsu:zf0 p (i+1)=⟨(zbu (fun gs k=>zdn (mP p) gs A.2 (nth R.2 k)) R.1 R.2.length).1,s.out++[⟨6,i,0⟩]++zcr 7 i R.2.length,s.dr++[A.2]++(zbu (fun gs k=>zdn (mP p) gs A.2 (nth R.2 k)) R.1 R.2.length).2⟩:=by rw[hR,hA,hse];rfl
    rw[←hA,←hR]at hps
    have ha:=hps.ha;have hb:=hps.hb
    have hln:=hs.len;have hol:=hs.ol;have hal:=ha.len
    have hRl:=hb.len;have hRw:=hb.wid
    have hqb:=hk0.qb i hlt
    have h1:BOk (eP p mi (s.out) (s.dr) (zbb p)) s.gs μ1:=hs.bok hv hn6 (by omega)
    have hcm:=zj3 (eP p mi (s.out) (s.dr) (zbb p)) s.gs μ1 (zcs p) (nth (ze4 p) i) h1 (hs.fire hk0 (List.prefix_refl _)) (hs.dueQ hk0 (List.prefix_refl _) hlt)
    have hm9:mE2 (eP p mi (s.out) (s.dr) (zbb p))=mP p:=rfl
    rw[hm9,←hA]at hcm
    refine zai (hK30 _ _ ?_)
    refine zaa fun K31 hK31=>?_
    refine zag ?_
    refine szq (zvk ·) ?_
    refine zaf hp zah hc rfl fun K33 hK33=>?_
    refine zcy ?_
    refine zvm (bH (eP p mi (s.out) (s.dr) (zbb p)) (s.gs) μ1) ([.cells (avs (zar p)),zej]) (hcm) ?_
    rintro _ _ ⟨μ2,hn2,rfl,rfl⟩
    refine⟨rfl,?_⟩
    refine zcy ?_
    refine hK33 _ _ ?_
    refine zaf hp zah hc rfl fun K34 hK34=>?_
    refine zcy ?_
    refine zvm (bH (eP p mi (s.out) (s.dr) (zbb p)) (A.1) μ2) ([.cells (avs (zar p)),zej]) (ziq (eP p mi (s.out) (s.dr) (zbb p)) A.1 μ2 6 i 0 A.2 (by show s.out.length≤_;omega) (by show s.dr.length≤_;omega)) ?_
    rintro _ _ ⟨_,rfl,rfl⟩
    refine⟨rfl,?_⟩
    refine zcy ?_
    refine hK34 _ _ ?_
    refine zav hp (τ':=frL [(1,.op 8 0),(2,.op 9 0),(3,.d (iD 0)),(4,.op 0 0),(7,.d (iD (zcs p))),(14,.d (iD i)),(16,.d (iD A.2)),(89,.d (intsD (ze4 p))),(90,.d (iD p.puts.length)),(91,.d (iD i))]) (H':=bH (eP p mi (s.out++[⟨6,i,0⟩]) (s.dr++[A.2]) (zbb p)) (A.1) μ2++[.cells (avs (zar p)),zej]) ?_ ?_
    ·refine zvi [0,1,2,3,4,5,6,7,8,9] ?_
     refine zvj ?_
     exact yml
    have h2:BOk (eP p mi (s.out++[⟨6,i,0⟩]) (s.dr++[A.2]) (zbb p)) A.1 μ2:=⟨hn2,ha.gi,hil,by omega⟩
    have hcb:=hs.bitsS (o:=s.out++[⟨6,i,0⟩]) (d:=s.dr++[A.2]) hv ha.pre h2 (hk0.qd i hlt).1 (by omega)
    rw[←hR]at hcb
    refine zaf hp zah hc rfl fun K35 hK35=>?_
    refine yga ?_
    refine zvm (bH (eP p mi (s.out++[⟨6,i,0⟩]) (s.dr++[A.2]) (zbb p)) (A.1) μ2) ([.cells (avs (zar p)),zej]) (hcb.arg1 (Imp.agg _)) ?_
    rintro _ _ ⟨μ3,hn3,rfl,rfl⟩
    refine⟨rfl,?_⟩
    refine yga ?_
    refine hK35 _ _ ?_
    refine zag ?_
    refine zao hp (fun τ' H' mm=>∃(k:Nat) (μ3:Mp),(k≤R.2.length∧NdM (mP p) (zbu (fun gs k=>zdn (mP p) gs A.2 (nth R.2 k)) R.1 k).1 μ3)∧mm=R.2.length - k∧H'=bH (eP p mi (s.out++[⟨6,i,0⟩]++zcr 7 i k) (s.dr++[A.2]++(zbu (fun gs k=>zdn (mP p) gs A.2 (nth R.2 k)) R.1 k).2) (zbb p)) ((zbu (fun gs k=>zdn (mP p) gs A.2 (nth R.2 k)) R.1 k).1) μ3++[.cells (avs (zar p)),zej]∧τ'=frL [(1,.op 8 0),(2,.op 9 0),(3,.d (iD 0)),(4,.op 0 0),(7,.d (iD (zcs p))),(14,.d (iD i)),(16,.d (iD A.2)),(89,.d (intsD (ze4 p))),(90,.d (iD p.puts.length)),(91,.d (iD i)),(111,.d (intsD R.2)),(112,.d (iD R.2.length)),(113,.d (iD k))]) (R.2.length) ?_ ⟨0,μ3,⟨qap _,hn3⟩,rfl,rfl,rfl⟩ ?_
    ·refine zvi [0,1,2,3,4,5,6,7,8,9] ?_
     refine zvj ?_
     refine zx1 ?_;simp[bH,bO,eP,avs,zar,iD,intsD,zej,zbu,zcr]
    rintro τ' H' mm ⟨k,μ3,⟨hkk,hn7⟩,rfl,rfl,rfl⟩
    refine szq (zcy ·) ?_
    refine zaa fun K37 hK37=>?_
    refine zan rfl (fun ht=>?_) (fun ht=>?_)
    ·have hlt2:k<R.2.length:=by simp at ht;omega
     have hbk:Bs (mP p) (1*k) k R.1 (zbu (fun gs k=>zdn (mP p) gs A.2 (nth R.2 k)) R.1 k):=zc3 hb.gi fun j hj gs' hp hg=>zfy mP2 hg (ha.nd.pre (hb.pre.trans hp)) (hb.at hp (by omega))
     have hsuk:zbu (fun gs k=>zdn (mP p) gs A.2 (nth R.2 k)) R.1 (k+1)=((zdn (mP p) (zbu (fun gs k=>zdn (mP p) gs A.2 (nth R.2 k)) R.1 k).1 A.2 (nth R.2 k)).1,(zbu (fun gs k=>zdn (mP p) gs A.2 (nth R.2 k)) R.1 k).2++[(zdn (mP p) (zbu (fun gs k=>zdn (mP p) gs A.2 (nth R.2 k)) R.1 k).1 A.2 (nth R.2 k)).2]):=rfl
     generalize zbu (fun gs k=>zdn (mP p) gs A.2 (nth R.2 k)) R.1 k=M at *
     have hMl:=hbk.len;have hMw:=hbk.wid
     have hwl:(s.out++[(⟨6,i,0⟩:Wire)]++zcr 7 i k).length=s.out.length+1+k:=by rw[List.length_append,List.length_append,zb3];rfl
     have hdl:(s.dr++[A.2]++M.2).length=s.dr.length+1+k:=by rw[List.length_append,List.length_append,hMw];rfl
     have h3:BOk (eP p mi (s.out++[⟨6,i,0⟩]++zcr 7 i k) (s.dr++[A.2]++M.2) (zbb p)) M.1 μ3:=⟨hn7,hbk.gi,hil,by omega⟩
     refine zai (hK37 _ _ ?_)
     refine zaa fun K38 hK38=>?_
     refine zag ?_
     refine szq (zvk ·) ?_
     refine za1 hp zah hc rfl fun K40 hK40=>?_
     refine zcy ?_
     refine zvm (bH (eP p mi (s.out++[⟨6,i,0⟩]++zcr 7 i k) (s.dr++[A.2]++M.2) (zbb p)) (M.1) μ3) ([.cells (avs (zar p)),zej]) (zj3 (eP p mi (s.out++[⟨6,i,0⟩]++zcr 7 i k) (s.dr++[A.2]++M.2) (zbb p)) M.1 μ3 A.2 (nth R.2 k) h3 (ha.nd.pre (hb.pre.trans hbk.pre)) (hb.at hbk.pre (by omega))) ?_
     rintro _ _ ⟨μ4,hn4,rfl,rfl⟩
     refine⟨rfl,?_⟩
     refine zcy ?_
     refine zvm (bH (eP p mi (s.out++[⟨6,i,0⟩]++zcr 7 i k) (s.dr++[A.2]++M.2) (zbb p)) ((zdn (mP p) M.1 A.2 (nth R.2 k)).1) μ4) ([.cells (avs (zar p)),zej]) (ziq (eP p mi (s.out++[⟨6,i,0⟩]++zcr 7 i k) (s.dr++[A.2]++M.2) (zbb p)) _ μ4 7 i k _ (by show(s.out++[(⟨6,i,0⟩:Wire)]++zcr 7 i k).length≤_;omega) (by show(s.dr++[A.2]++M.2).length≤_;omega)) ?_
     rintro _ _ ⟨_,rfl,rfl⟩
     refine⟨rfl,?_⟩
     refine zcy ?_
     refine hK40 _ _ (hK38 _ _ ?_)
     refine za1 hp zah hc rfl fun K41 hK41=>?_
     refine zcy ?_
     refine hK41 _ _ ⟨_,_,_,?_,⟨k+1,μ4,⟨by omega,by rw[hsuk];exact hn4⟩,rfl,rfl,rfl⟩,?_⟩
     ·first|omega|(simp only[List.length_cons];omega)|(dsimp only;omega)
     ·refine zvi [0,1,2,3,4,5,6,7,8,9] ?_
      refine zvj ?_
      refine zx1 ?_;rw[hsuk,zk3];simp[bH,bO,eP,avs,zar,iD,intsD,zej,mE2,mP]
    ·have hke:k=R.2.length:=by simp at ht;omega
     subst hke
     refine zau (hK31 _ _ ?_)
     refine za1 hp zah hc rfl fun K42 hK42=>?_
     refine zcy ?_
     refine hK42 _ _ ⟨_,_,_,?_,⟨i+1,μ3,⟨by omega,by rw[hsu];exact hn7⟩,rfl,rfl,rfl⟩,?_⟩
     ·first|omega|(simp only[List.length_cons];omega)|(dsimp only;omega)
     ·refine zvi [0,1,2,3,4,5,6,7,8,9] ?_
      refine zvj ?_
      refine zx1 ?_;rw[hsu]
   ·have hie:i=p.puts.length:=by simp at ht;omega
    subst hie
    refine zau (hK27 _ _ ?_)
    refine zaa fun K43 hK43=>?_
    refine szq (zcy ·) ?_
    refine zag ?_
    refine zao hp (fun τ' H' mm=>∃(i:Nat) (μ1:Mp),(i≤p.mems.length∧NdM (mP p) (zd4 p i).gs μ1)∧mm=p.mems.length - i∧H'=bH (eP p mi ((zd4 p i).out) ((zd4 p i).dr) (zbb p)) ((zd4 p i).gs) μ1++[.cells (avs (zar p)),zej]∧τ'=frL [(1,.op 8 0),(2,.op 9 0),(3,.d (iD 0)),(4,.op 0 0),(7,.d (iD (zcs p))),(129,.d (.fs (p.mems.flatMap pmC) p.mems.length)),(130,.d (iD p.mems.length)),(131,.d (iD i))]) (p.mems.length) ?_ ⟨0,μ1,⟨qap _,hn6⟩,rfl,rfl,rfl⟩ ?_
    ·refine zvi [0,1,2,3,4,5,6,7,8,9] ?_
     refine zvj ?_
     refine zx1 ?_;simp[bH,bO,eP,avs,zar,iD,intsD,zej,zd4]
    rintro τ' H' mm ⟨i,μ1,⟨hi4,hn8⟩,rfl,rfl,rfl⟩
    refine szq (zcy ·) ?_
    refine zaa fun K46 hK46=>?_
    refine zan rfl (fun ht=>?_) (fun ht=>?_)
    ·have hlt:i<p.mems.length:=by simp at ht;omega
     have hs:=zgv hk0 i hi4
     have hdn:=jlt hk0 i hi4
     have hcm:=jjq (p:=p) (show i+1≤p.mems.length by omega)
     rw[cMP]at hcm
     have hw8:=hk0.ct.m i (by simpa[ctP]using hlt)
     rw[show nth (ctP p).mems i=((nth p.mems i).words,(nth p.mems i).w) from zt4 hlt]at hw8
     simp only at hw8
     obtain⟨s,hse⟩:∃s,s=zd4 p i:=⟨_,rfl⟩
     rw[←hse]at hs hn8 hdn
     rw[←hse]
     obtain⟨N,hN⟩:∃N,N=zci p (zbb p) s.gs (nth p.mems i).en:=⟨_,rfl⟩
     obtain⟨A,hA⟩:∃A,A=zdn (mP p) N.1 (zcs p) (nth N.2 0):=⟨_,rfl⟩
     obtain⟨J,hJ⟩:∃J,J=zci p (zbb p) A.1 (nth p.mems i).ad:=⟨_,rfl⟩
     obtain⟨V,hV⟩:∃V,V=zci p (zbb p) J.1 (nth p.mems i).da:=⟨_,rfl⟩
     have hsu:zd4 p (i+1)=⟨V.1,s.out++[⟨8,i,0⟩]++zcr 9 i 3++zcr 10 i V.2.length,s.dr++[A.2]++zhu J.2 (nth p.mems i).words++V.2⟩:=by rw[hV,hJ,hA,hN,hse];rfl
     obtain⟨he,ha,hd,hw⟩:=zrt hk0 hlt hs hN hA hJ hV
     have hln:=hs.len;have hol:=hs.ol
     have hel:=he.len;have hal:=ha.len;have hdl:=hd.len;have hwl:=hw.len
     have hew:=he.wid;have hdw:=hd.wid;have hww:=hw.wid
     have hJw:=zcn hk0.ct (hk0.ma i hlt)
     have h1:BOk (eP p mi (s.out) (s.dr) (zbb p)) s.gs μ1:=hs.bok hv hn8 (by omega)
     have c1:=hs.bitsS (o:=s.out) (d:=s.dr) hv (List.prefix_refl _) h1 (hk0.me i hlt).1 (by omega)
     rw[←hN]at c1
     have c2:=fun μ (h2:BOk (eP p mi (s.out) (s.dr) (zbb p)) N.1 μ)=>zj3 (eP p mi (s.out) (s.dr) (zbb p)) N.1 μ (zcs p) (nth N.2 0) h2 (hs.fire hk0 he.pre) (he.nd 0 (by decide))
     have hm9:mE2 (eP p mi (s.out) (s.dr) (zbb p))=mP p:=rfl
     rw[hm9,←hA]at c2
     refine zai (hK46 _ _ ?_)
     refine zaa fun K47 hK47=>?_
     refine zag ?_
     refine szq (zcy ·) ?_
     refine zaf hp zah hc rfl fun K49 hK49=>?_
     refine zvk ?_
     refine zvm (bH (eP p mi (s.out) (s.dr) (zbb p)) (s.gs) μ1) ([.cells (avs (zar p)),zej,.cells (avs (pmS (nth p.mems i)))]) (c1) ?_
     rintro _ _ ⟨μ2,hn2,rfl,rfl⟩
     refine⟨rfl,?_⟩
     have h2:BOk (eP p mi (s.out) (s.dr) (zbb p)) N.1 μ2:=⟨hn2,he.gi,hil,by omega⟩
     refine zvk ?_
     refine zvm (bH (eP p mi (s.out) (s.dr) (zbb p)) (N.1) μ2) ([.cells (avs (zar p)),zej,.cells (avs (pmS (nth p.mems i)))]) (c2 μ2 h2) ?_
     rintro _ _ ⟨μ3,hn3,rfl,rfl⟩
     refine⟨rfl,?_⟩
     refine zvk ?_
     refine zvm (bH (eP p mi (s.out) (s.dr) (zbb p)) (A.1) μ3) ([.cells (avs (zar p)),zej,.cells (avs (pmS (nth p.mems i)))]) (ziq (eP p mi (s.out) (s.dr) (zbb p)) A.1 μ3 8 i 0 A.2 (by show s.out.length≤_;omega) (by show s.dr.length≤_;omega)) ?_
     rintro _ _ ⟨_,rfl,rfl⟩
     refine⟨rfl,?_⟩
     refine zvk ?_
     refine hK49 _ _ ?_
     refine zaa fun K50 hK50=>?_
     have h3:BOk (eP p mi (s.out++[⟨8,i,0⟩]) (s.dr++[A.2]) (zbb p)) A.1 μ3:=⟨hn3,ha.gi,hil,by omega⟩
     have c3:=hs.bitsS (o:=s.out++[⟨8,i,0⟩]) (d:=s.dr++[A.2]) hv (he.pre.trans ha.pre) h3 (hk0.ma i hlt) (by omega)
     rw[←hJ]at c3
     have c4:=jle J.2 (nth p.mems i).words (by omega) (by omega)
     refine zbc zah hp hc mixed rfl [(0,[]),(1,[]),(2,[]),(4,[]),(5,[]),(7,[]),(3,[5]),(6,[])] [[],[],[1],[0,1,2],[],[4],[0,1,2,3,4,5],[]] 0 (by kernel_rfl) fun K51 hK51=>?_
     refine jw1 ?_
     refine zpl (S:=bH (eP p mi (s.out++[⟨8,i,0⟩]) (s.dr++[A.2]) (zbb p)) (A.1) μ3) (T:=[.cells (avs (zar p)),zej,.cells (avs (pmS (nth p.mems i)))]) (c3) rfl (qaf rfl) (by first|rfl|(simp[AV.allIs,AV.allI,zas,zal,zam,okI,ltI,zae,zaz,bH,bO,eP,zej,zb6,prS,pqS,pmS];done)|(intro o ho;simp at ho;done)) (fun t=>zbi (by first|rfl|(simp[AV.allIs,AV.allI,zas,zal,zam,okI,ltI,zae,zaz,bH,bO,eP,zej,zb6,prS,pqS,pmS];done)|(intro o ho;simp at ho;done)) t) (fun t=>zbi (by first|rfl|(simp[AV.allIs,AV.allI,zas,zal,zam,okI,ltI,zae,zaz,bH,bO,eP,zej,zb6,prS,pqS,pmS];done)|(intro o ho;simp at ho;done)) t) (by first|rfl|(simp[AV.allIs,AV.allI,zas,zal,zam,okI,ltI,zae,zaz,bH,bO,eP,zej,zb6,prS,pqS,pmS];done)|(intro o ho;simp at ho;done)) (by first|rfl|(simp[AV.allIs,AV.allI,zas,zal,zam,okI,ltI,zae,zaz,bH,bO,eP,zej,zb6,prS,pqS,pmS];done)|(intro o ho;simp at ho;done)) (by first|rfl|(simp[AV.allIs,AV.allI,zas,zal,zam,okI,ltI,zae,zaz,bH,bO,eP,zej,zb6,prS,pqS,pmS];done)|(intro o ho;simp at ho;done)) ?_
     rintro _ _ ⟨μ4,hn4,rfl,rfl⟩
     refine⟨rfl,?_⟩
     refine jw1 ?_
     refine zrp (c4) rfl ?_
     refine jw1 ?_
     refine hK51 _ _ ?_
     refine zag ?_
     refine zao hp (fun τ' H' mm=>∃(k:Nat),(k≤3)∧mm=3 - k∧H'=bH (eP p mi (s.out++[⟨8,i,0⟩]++zcr 9 i k) (s.dr++[A.2]++(zhu J.2 (nth p.mems i).words).take k) (zbb p)) (J.1) μ4++[.cells (avs (zar p)),zej,.cells (avs (pmS (nth p.mems i)))]∧τ'=frL [(1,.op 8 0),(2,.op 9 0),(3,.d (iD 0)),(4,.op 0 0),(7,.d (iD (zcs p))),(129,.d (.fs (p.mems.flatMap pmC) p.mems.length)),(130,.d (iD p.mems.length)),(131,.d (iD i)),(19,.d (iD i)),(20,.op 10 0),(154,.d (.agg ((zhu J.2 (nth p.mems i).words).map iD))),(155,.d (iD k))]) (3) ?_ ⟨0,by omega,rfl,rfl,rfl⟩ ?_
     ·refine zvi [0,1,2,3,4,5,6,7,8,9,10] ?_
      refine zvj ?_
      refine zx1 ?_;simp[bH,bO,eP,avs,zar,iD,intsD,zej,zcr,pmS]
     rintro τ' H' mm ⟨k,hk6,rfl,rfl,rfl⟩
     refine szq (zcy ·) ?_
     refine zaa fun K53 hK53=>?_
     refine zan rfl (fun ht=>?_) (fun ht=>?_)
     ·have hk3:k<3:=by simp at ht;omega
      have hal3:=ze5 J.2 (nth p.mems i).words
      have hwl6:(s.out++[(⟨8,i,0⟩:Wire)]++zcr 9 i k).length=s.out.length+1+k:=by rw[List.length_append,List.length_append,zb3];rfl
      have hdl6:(s.dr++[A.2]++(zhu J.2 (nth p.mems i).words).take k).length=s.dr.length+1+k:=by simp[hal3];omega
      have hgk:((zhu J.2 (nth p.mems i).words).map iD)[k]? =some (iD (nth (zhu J.2 (nth p.mems i).words) k)):=za4 (by omega)
      refine zai (hK53 _ _ ?_)
      refine zaa fun K54 hK54=>?_
      refine zag ?_
      refine zaf hp zah hc rfl fun K55 hK55=>?_
      simp -dsimp -implicitDefEqProofs (disch:=first|assumption|omega|(simp only[r_z,zac,zab,zbt,zb0,zbr,zbs]<;>omega)|decide) only[r_r,↓reduceIte,Nat.reduceEqDiff,Nat.reduceAdd,D.fix,Int.reduceToNat,Nat.reduceMul,Nat.reduceBNe,Nat.reduceBEq,r_m,bH,bO,zar,za3,List.cons_append,List.nil_append,zc4,zej,eP,zb6,zda,zpz,prS,zco,znh,pqS,zdr,zsa,pmS,nS,sD,hgk,Option.map_some,qae]
      refine hK55 _ _ ?_
      refine za1 hp zah hc rfl fun K56 hK56=>?_
      refine zcy ?_
      refine zvm (bH (eP p mi (s.out++[⟨8,i,0⟩]++zcr 9 i k) (s.dr++[A.2]++(zhu J.2 (nth p.mems i).words).take k) (zbb p)) (J.1) μ4) ([.cells (avs (zar p)),zej,.cells (avs (pmS (nth p.mems i)))]) (ziq (eP p mi (s.out++[⟨8,i,0⟩]++zcr 9 i k) (s.dr++[A.2]++(zhu J.2 (nth p.mems i).words).take k) (zbb p)) J.1 μ4 9 i k (nth (zhu J.2 (nth p.mems i).words) k) (by show(s.out++[(⟨8,i,0⟩:Wire)]++zcr 9 i k).length≤_;omega) (by show(s.dr++[A.2]++(zhu J.2 (nth p.mems i).words).take k).length≤_;omega)) ?_
      rintro _ _ ⟨_,rfl,rfl⟩
      refine⟨rfl,?_⟩
      refine zcy ?_
      refine hK56 _ _ (hK54 _ _ ?_)
      refine za1 hp zah hc rfl fun K57 hK57=>?_
      refine zcy ?_
      refine hK57 _ _ ⟨_,_,_,?_,⟨k+1,by omega,rfl,rfl,rfl⟩,?_⟩
      ·first|omega|(simp only[List.length_cons];omega)|(dsimp only;omega)
      ·refine zvi [0,1,2,3,4,5,6,7,8,9,10] ?_
       refine zvj ?_
       refine zx1 ?_;rw[zd0 (show k<(zhu J.2 (nth p.mems i).words).length by omega),zk3];simp[bH,bO,eP,avs,zar,iD,intsD,zej,pmS]
     ·have hke:k=3:=by simp at ht;omega
      subst hke
      have hta:(zhu J.2 (nth p.mems i).words).take 3=zhu J.2 (nth p.mems i).words:=qaw (by rw[ze5];exact qao _)
      rw[hta]
      have h5:BOk (eP p mi (s.out++[⟨8,i,0⟩]++zcr 9 i 3) (s.dr++[A.2]++zhu J.2 (nth p.mems i).words) (zbb p)) J.1 μ4:=⟨hn4,hd.gi,hil,by omega⟩
      have c5:=hs.bitsS (o:=s.out++[⟨8,i,0⟩]++zcr 9 i 3) (d:=s.dr++[A.2]++zhu J.2 (nth p.mems i).words) hv (he.pre.trans (ha.pre.trans hd.pre)) h5 (hk0.md i hlt).1 (by omega)
      rw[←hV]at c5
      refine zau (hK50 _ _ ?_)
      refine zaf hp zah hc rfl fun K58 hK58=>?_
      refine zcy ?_
      refine zvm (bH (eP p mi (s.out++[⟨8,i,0⟩]++zcr 9 i 3) (s.dr++[A.2]++zhu J.2 (nth p.mems i).words) (zbb p)) (J.1) μ4) ([.cells (avs (zar p)),zej,.cells (avs (pmS (nth p.mems i)))]) (c5) ?_
      rintro _ _ ⟨μ5,hn5',rfl,rfl⟩
      refine⟨rfl,?_⟩
      refine zcy ?_
      refine hK58 _ _ ?_
      refine zag ?_
      refine zao hp (fun τ' H' mm=>∃(k:Nat),(k≤V.2.length)∧mm=V.2.length - k∧H'=bH (eP p mi (s.out++[⟨8,i,0⟩]++zcr 9 i 3++zcr 10 i k) (s.dr++[A.2]++zhu J.2 (nth p.mems i).words++V.2.take k) (zbb p)) (V.1) μ5++[.cells (avs (zar p)),zej]∧τ'=frL [(1,.op 8 0),(2,.op 9 0),(3,.d (iD 0)),(4,.op 0 0),(7,.d (iD (zcs p))),(129,.d (.fs (p.mems.flatMap pmC) p.mems.length)),(130,.d (iD p.mems.length)),(131,.d (iD i)),(19,.d (iD i)),(168,.d (intsD V.2)),(169,.d (iD V.2.length)),(170,.d (iD k))]) (V.2.length) ?_ ⟨0,qap _,rfl,rfl,rfl⟩ ?_
      ·refine zvi [0,1,2,3,4,5,6,7,8,9] ?_
       refine zvj ?_
       refine zx1 ?_;simp[bH,bO,eP,avs,zar,iD,intsD,zej,zcr]
      rintro τ' H' mm ⟨k,hk7,rfl,rfl,rfl⟩
      refine szq (zcy ·) ?_
      refine zaa fun K60 hK60=>?_
      refine zan rfl (fun ht=>?_) (fun ht=>?_)
      ·have hlt2:k<V.2.length:=by simp at ht;omega
       have hal3:=ze5 J.2 (nth p.mems i).words
       have hwl7:(s.out++[(⟨8,i,0⟩:Wire)]++zcr 9 i 3++zcr 10 i k).length=s.out.length+4+k:=by rw[List.length_append,List.length_append,List.length_append,zb3,zb3];rfl
       have hdl7:(s.dr++[A.2]++zhu J.2 (nth p.mems i).words++V.2.take k).length=s.dr.length+4+k:=by simp[hal3];omega
       refine zai (hK60 _ _ ?_)
       refine zaa fun K61 hK61=>?_
       refine zag ?_
       refine szq (zvk ·) ?_
       refine za1 hp zah hc rfl fun K63 hK63=>?_
       refine zcy ?_
       refine zvm (bH (eP p mi (s.out++[⟨8,i,0⟩]++zcr 9 i 3++zcr 10 i k) (s.dr++[A.2]++zhu J.2 (nth p.mems i).words++V.2.take k) (zbb p)) (V.1) μ5) ([.cells (avs (zar p)),zej]) (ziq (eP p mi (s.out++[⟨8,i,0⟩]++zcr 9 i 3++zcr 10 i k) (s.dr++[A.2]++zhu J.2 (nth p.mems i).words++V.2.take k) (zbb p)) V.1 μ5 10 i k (nth V.2 k) (by show(s.out++[(⟨8,i,0⟩:Wire)]++zcr 9 i 3++zcr 10 i k).length≤_;omega) (by show(s.dr++[A.2]++zhu J.2 (nth p.mems i).words++V.2.take k).length≤_;omega)) ?_
       rintro _ _ ⟨_,rfl,rfl⟩
       refine⟨rfl,?_⟩
       refine zcy ?_
       refine hK63 _ _ (hK61 _ _ ?_)
       refine za1 hp zah hc rfl fun K64 hK64=>?_
       refine zcy ?_
       refine hK64 _ _ ⟨_,_,_,?_,⟨k+1,by omega,rfl,rfl,rfl⟩,?_⟩
       ·first|omega|(simp only[List.length_cons];omega)|(dsimp only;omega)
       ·refine zvi [0,1,2,3,4,5,6,7,8,9] ?_
        refine zvj ?_
        refine zx1 ?_;rw[zd0 hlt2,zk3 10 (i:Int) k];simp[bH,bO,eP,avs,zar,iD,intsD,zej]
      ·have hke:k=V.2.length:=by simp at ht;omega
       subst hke
       refine zau (hK47 _ _ ?_)
       refine za1 hp zah hc rfl fun K65 hK65=>?_
       refine zcy ?_
       refine hK65 _ _ ⟨_,_,_,?_,⟨i+1,μ5,⟨by omega,by rw[hsu];exact hn5'⟩,rfl,rfl,rfl⟩,?_⟩
       ·first|omega|(simp only[List.length_cons];omega)|(dsimp only;omega)
       ·refine zvi [0,1,2,3,4,5,6,7,8,9] ?_
        refine zvj ?_
        refine zx1 ?_;rw[hsu,List.take_length]
    ·have hie:i=p.mems.length:=by simp at ht;omega
     subst hie
     have hm:=zgv hk0 _ (qao p.mems.length)
     have hml2:=hm.len
     have hcM:=jjq (p:=p) (qao p.mems.length)
     refine zau (hK43 _ _ ?_)
     refine zaa fun K66 hK66=>?_
     refine zay zah hc mixed rfl (q:=0) (by kernel_rfl) (by kernel_rfl) fun K67 hK67=>?_
     refine zcy ?_
     refine hK67 _ _ ?_
     refine zan rfl (fun ht=>?_) (fun ht=>?_)
     ·have hbig:600<2+(zh9 p).length+(zd4 p p.mems.length).gs.length:=by simp at ht;omega
      refine szq (zcy ·) ?_
      refine zaj ?_
      try dsimp only[zcg,za5]
      refine zri rfl ?_
      refine ygb ?_
      show closeA _ _=_
      refine ymm ?_
      unfold jeo;rw[if_pos (show 600<2+(zh9 p).length+(zd5 p).gates.length from hbig)];rfl
     ·have hbig:¬600<2+(zh9 p).length+(zd4 p p.mems.length).gs.length:=by simp at ht;omega
      refine zai (hK66 _ _ ?_)
      refine szq (zcy ·) ?_
      refine zaj ?_
      try dsimp only[zcg,za5]
      refine zri rfl ?_
      refine ygb ?_
      show closeA _ _=_
      refine ymm ?_
      unfold jeo;rw[if_neg (show ¬600<2+(zh9 p).length+(zd5 p).gates.length from hbig)];simp only[jmz,jmy];rfl
end Go.Proofs.YtapjobndmmkanaaGreat
