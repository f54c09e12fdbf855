/- Cycle. -/
import Derived.Test.YtfolbdkbpmgjgaaQr
import Derived.Test.YtfolbdkbpmgjgaaKi
set_option linter.unusedVariables false
set_option linter.unusedSimpArgs false
set_option maxRecDepth 100000
set_option maxHeartbeats 4000000
namespace Go.Proofs.Ytfolbdkbpmgjgaa
open Go Go.RowKit
theorem zxo:(((((type_of% @zcy)∧(type_of% @zcz))∧((type_of% @zb8)∧(type_of% @zcl)))∧(((type_of% @zea)∧(type_of% @zeb))∧((type_of% @zjk)∧(type_of% @zwn))))∧((((type_of% @zke)∧(type_of% @jim))∧((type_of% @znm)∧(type_of% @zhq)))∧(((type_of% @ze3)∧(type_of% @zfx))∧((type_of% @zeh)∧(type_of% @zdn))))):=⟨⟨⟨⟨@zcy,@zcz⟩,⟨@zb8,@zcl⟩⟩,⟨⟨@zea,@zeb⟩,⟨@zjk,@zwn⟩⟩⟩,⟨⟨⟨@zke,@jim⟩,⟨@znm,@zhq⟩⟩,⟨⟨@ze3,@zfx⟩,⟨@zeh,@zdn⟩⟩⟩⟩
theorem ja2{p q:Prop}(hq:q)(h:p=q:=by
 conv=>lhs;simp -dsimp -implicitDefEqProofs (disch:=first|assumption|omega|(simp only[r_z]<;>omega)|decide) only[r_r,↓reduceIte,Nat.reduceEqDiff,Nat.reduceAdd,D.fix,Int.reduceToNat,Nat.reduceMul,Nat.reduceBNe,Nat.reduceBEq]):p:=h.mpr hq
theorem zxp{p q:Prop}(hq:q)(h:p=q:=by
 conv=>lhs;simp -dsimp -implicitDefEqProofs (disch:=first|assumption|omega|(simp only[r_z]<;>omega)|decide) only[r_r,↓reduceIte,Nat.reduceEqDiff,Nat.reduceAdd,D.fix,Int.reduceToNat,Nat.reduceMul,Nat.reduceBNe,Nat.reduceBEq,zxo]):p:=h.mpr hq
theorem jrp{m:List Nat}{τ τ':Fr}{H H':zaa}(h2:H=H')(h:zez τ τ':=by
 repeat (first|exact zal _|refine zaf ?_ (by first|rfl|(simp[r_f];done)|simp[r_f, *]))):Rt m τ H τ' H':=Rt.end h h2
theorem jrq{p:Prop}(h:p:=by
 simp (disch:=first|assumption|omega|(simp only[r_z]<;>omega)|decide) only[r_c,Nat.reduceAdd,D.fix,↓reduceIte,Nat.reduceEqDiff,hx]):p:=h
theorem jlm(l:List Int)(g:Nat)(ca:List D)(p:Int→Bool)(hl:l.length≤1000000)(hca:∀x:Int,AV.toD.toDs (.d (iD x)::ca.map .d)=some (iD x::ca))(hp':∀k,k<l.length→zas Try.prog g (iD (nth l k)::ca) (.d (oD (p (nth l k))))):zas Try.prog 54 [intsD l,.clo (.func g) [] ca] (.d (iD (zgm p l))):=by
 refine zau (fn:=Try.f54) (by kernel_rfl) Try.func54 rfl (Nat.le_of_ble_eq_true rfl) fun c hc hp=>?_
 refine zaw (τ':=frL [(0,.d (intsD l)),(1,.d (.clo (.func g) [] ca))]) (by repeat (first|exact zal _|refine zaf ?_ (by first|rfl|(simp[r_f];done)|simp[r_f, *]))) ?_
 refine szq hp (fun _ hZ=>ja2 hZ) ?_
 refine zab fun K2 hK2=>?_
 refine szq hp (fun _ hZ=>zxp hZ) ?_
 refine zae ?_
 refine zao hp (fun τ' H' mm=>∃k,(k≤l.length∧∀j,j<k→p (nth l j)=false)∧mm=l.length - k∧H'=[]∧τ'=frL [(0,.d (intsD l)),(1,.d (.clo (.func g) [] ca)),(6,.d (intsD l)),(7,.d (iD l.length)),(8,.d (iD k))]) (l.length) ?_ ⟨0,⟨Nat.zero_le _,fun j hj=>absurd hj (by omega)⟩,rfl,rfl,rfl⟩ ?_
 ·refine jrp ?_
  first|rfl|(simp only[r_g,Nat.reduceAdd,↓reduceIte,Nat.reduceEqDiff];first|done|rfl)
 rintro τ' H' mm ⟨k,⟨hk,hf⟩,rfl,rfl,rfl⟩
 refine szq hp (fun _ hZ=>zxp hZ) ?_
 refine zab fun K5 hK5=>?_
 refine zai rfl (fun ht=>?_) (fun ht=>?_)
 ·have hlt:k<l.length:=by simp at ht;omega
  refine zah (hK5 _ _ ?_)
  refine zab fun K6 hK6=>?_
  refine zae ?_
  refine szq hp (fun _ hZ=>ja2 hZ) ?_
  refine zaj hp zam hc rfl fun K8 hK8=>?_
  refine zxp ?_
  refine zvy (fi:=[]) (ca:=ca) (ds:=[iD (nth l k)]) (hp' k hlt) (hca (nth l k)) ?_
  refine zxp ?_
  refine hK8 _ _ ?_
  refine zai rfl (fun ht=>?_) (fun ht=>?_)
  ·have hx:=zg8 (p:=p) hlt hf ht
   refine szq hp (fun _ hZ=>ja2 hZ) ?_
   refine zaq ?_
   show closeA _ _=_
   exact jrq
  ·have hf':∀j,j<k+1→p (nth l j)=false:=fun j hj=>by
    rcases Nat.lt_or_ge j k with h|h
    ·exact hf j h
    ·obtain rfl:j=k:=by omega
     exact ht
   refine zah (hK6 _ _ ?_)
   refine za6 hp zam hc rfl fun K10 hK10=>?_
   refine zxp ?_
   refine hK10 _ _ ⟨_,_,_,?_,⟨k+1,⟨by omega,hf'⟩,rfl,rfl,rfl⟩,?_⟩
   ·first|omega|(simp only[List.length_cons];omega)|(dsimp only;omega)
   ·refine jrp ?_
    first|rfl|(simp only[r_g,Nat.reduceAdd,↓reduceIte,Nat.reduceEqDiff];first|done|rfl)
 ·have hx:zgm p l= -1:=zhv fun j hj=>hf j (by simp at ht;omega)
  refine zat (hK2 _ _ ?_)
  refine szq hp (fun _ hZ=>ja2 hZ) ?_
  refine zaq ?_
  show closeA _ _=_
  exact jrq
def bfS(nx:List (List Nat)):Nat→Nat × Nat
 |0=>(0,0)
 |k+1=>if zdk nx k≠0∧((bfS nx k).1=0∨zdk nx k<(bfS nx k).1)then(zdk nx k,k)else bfS nx k
theorem jgf(nx:List (List Nat)):∀k,((bfS nx k).1=0→∀v,v<k→zdk nx v=0)∧((bfS nx k).1≠0→(bfS nx k).2<k∧zdk nx (bfS nx k).2=(bfS nx k).1∧(∀v,v<k→zdk nx v≠0→(bfS nx k).1≤zdk nx v)∧∀v,v<(bfS nx k).2→zdk nx v≠(bfS nx k).1)
 |0=>⟨fun _ v hv=>absurd hv (Nat.not_lt_zero _),fun h=>absurd rfl h⟩
 |k+1=>by
  obtain⟨h1,h2⟩:=jgf nx k
  rw[bfS]
  split
  ·rename_i h
   refine⟨fun e=>absurd e h.1,fun _=>⟨Nat.lt_succ_self k,rfl,fun v hv hne=>?_,fun v hv e=>?_⟩⟩
   ·show zdk nx k≤zdk nx v
    by_cases e:v=k
    ·rw[e];exact Nat.le_refl _
    ·rcases h.2 with h0|hl
     ·exact absurd (h1 h0 v (by omega)) hne
     ·by_cases h0:(bfS nx k).1=0
      ·exact absurd (h1 h0 v (by omega)) hne
      ·have:=(h2 h0).2.2.1 v (by omega) hne;omega
   ·have e:zdk nx v=zdk nx k:=e
    have hvk:v<k:=hv
    rcases h.2 with h0|hl
    ·have:=h1 h0 v hvk;omega
    ·by_cases h0:(bfS nx k).1=0
     ·have:=h1 h0 v hvk;omega
     ·have:=(h2 h0).2.2.1 v hvk (by omega);omega
  ·rename_i h
   refine⟨fun e v hv=>?_,fun hne=>?_⟩
   ·by_cases ev:v=k
    ·rw[ev];exact Classical.byContradiction fun hh=>h ⟨hh,.inl e⟩
    ·exact h1 e v (by omega)
   ·obtain⟨a,b,c,d⟩:=h2 hne
    refine⟨by omega,b,fun v hv hv0=>?_,d⟩
    by_cases ev:v=k
    ·rw[ev]at hv0 ⊢
     exact Classical.byContradiction fun hh=>h ⟨hv0,.inr (by omega)⟩
    ·exact c v (by omega) hv0
theorem jgg{n:Nat}{es:List Ed}(h:Gr n es)(hb:(bfS (zav n es) n).1≠0):CycF n (zav n es) (zay n es) (bfS (zav n es) n).2 (bfS (zav n es) n).1:=by
 obtain⟨a,b,c,d⟩:=(jgf (zav n es) n).2 hb
 exact⟨h.two,a,b,hb,c,d⟩
def zps(pv:List (List Nat))(f:Nat):Nat→List Nat
 |0=>List.replicate pv.length 0
 |k+1=>(zps pv f k).set (hdN pv f k) (nth (bS pv f k).far (hdN pv f k) - 1)
theorem zce(pv:List (List Nat))(f:Nat):∀k,(zps pv f k).length=pv.length
 |0=>by simp[zps]
 |k+1=>by rw[zps,List.length_set,zce pv f k]
theorem jgh{nx:List (List Nat)}{v k w:Nat}(hk:k≤nx.length)(hnz:nth (bS nx v k).far w≠0):nth (zew nx v).far w=nth (bS nx v k).far w:=by
 rw[zew,show nx.length=k+(nx.length - k) by omega,zjw,show zfm nx k (zb6 (k+(nx.length - k)) v)=bS nx v k by rw[show k+(nx.length - k)=nx.length by omega];rfl,zl3 _ hnz]
theorem ja3(n w:Nat):nth (List.replicate n 0) w=0:=by unfold nth;rw[List.getD_eq_getElem?_getD,List.getElem?_replicate];split<;>rfl
theorem zxq{pv:List (List Nat)}{f:Nat}(hN:GrN pv f):∀{k:Nat},(∀j,j<k→(bS pv f j).q≠[])→∀w,nth (zps pv f k) w=if w∈(bS pv f k).out then nth (zew pv f).far w - 1 else 0
 |0,_,w=>by rw[zps,ja3];exact(if_neg (show w∉([]:List Nat) by simp)).symm
 |k+1,h,w=>by
  have hq:=h k (by omega)
  obtain⟨u,q,hu⟩:∃u q,(bS pv f k).q=u::q:=by cases e:(bS pv f k).q with|nil=>exact absurd e hq|cons u q=>exact⟨u,q,rfl⟩
  have hd:hdN pv f k=u:=by rw[hdN,hu];rfl
  have hbc:=zpg hN.n k (zjn hN.s)
  have hm:u∈(zfm pv k (zb6 pv.length f)).out++(zfm pv k (zb6 pv.length f)).q:=by rw[show zfm pv k (zb6 pv.length f)=bS pv f k from rfl,hu];simp
  have hul:=hbc.i.lt u hm
  have hnz:nth (bS pv f k).far u≠0:=(hbc.i.far u hul).2 hm
  have hol:=zjo hbc
  rw[show zfm pv k (zb6 pv.length f)=bS pv f k from rfl,zel fun j hj=>h j (by omega)]at hol
  have hkn:k≤pv.length:=by simp at hol;omega
  rw[zps,hd,zxj hu]
  by_cases e:u=w
  ·subst e
   rw[zaz (by rw[zce];exact hul),if_pos (by simp),jgh hkn hnz]
  ·rw[zax e,zxq hN (fun j hj=>h j (by omega)) w]
   have:w∈(bS pv f k).out++[u]↔w∈(bS pv f k).out:=by simp[Ne.symm e]
   simp only[this]
theorem ja4{pv:List (List Nat)}{f k:Nat}(hN:GrN pv f)(hk:∀j,j<k→(bS pv f j).q≠[])(hq:(bS pv f k).q=[]):zps pv f k=(List.range pv.length).map (ziq pv f):=by
 refine zff (by rw[zce];simp) fun w hw=>?_
 rw[zce]at hw
 rw[zxq hN hk,za8 hw,zxi hN hk hq,ziq]
 split
 ·rfl
 ·rename_i hn
  have hd:=(zg6 hN.n hN.s).c
  have:nth (zew pv f).far w=0:=Classical.byContradiction fun hh=>hn (by
   have:=(hd.i.far w hw).1 hh
   rwa[zn2 hN.n hN.s,List.append_nil]at this)
  rw[this]
def ja5(nx pv:List (List Nat))(f b:Nat)(out:List Nat):Nat→Bool:=fun w=>w !=f&&(ziq pv f w==b - out.length)
def zgp(nx pv:List (List Nat))(f b:Nat):Nat→List Nat
 |0=>[f]
 |k+1=>zgp nx pv f b k++[((nth nx (nth (zgp nx pv f b k) k)).find? (ja5 nx pv f b (zgp nx pv f b k))).getD 0]
theorem zg9(nx pv:List (List Nat))(f b:Nat):∀k,(zgp nx pv f b k).length=k+1
 |0=>rfl
 |k+1=>by rw[zgp,List.length_append,zg9 nx pv f b k];rfl
theorem zma{n:Nat}{nx pv:List (List Nat)}{f b k:Nat}(h:CycF n nx pv f b)(hi:CycI nx pv f b (zgp nx pv f b k))(hk:k+1<b):∃w,(nth nx (nth (zgp nx pv f b k) k)).find? (ja5 nx pv f b (zgp nx pv f b k))=some w∧w∈nth nx (nth (zgp nx pv f b k) k)∧ziq pv f w=b - (k+1)∧CycI nx pv f b (zgp nx pv f b (k+1)):=by
 have hl:=zg9 nx pv f b k
 obtain⟨w,hw,hne,hd⟩:=jar h hi (by omega)
 rw[hl,Nat.add_sub_cancel]at hw
 cases hf:(nth nx (nth (zgp nx pv f b k) k)).find? (ja5 nx pv f b (zgp nx pv f b k))with
 |none=>
  rw[List.find?_eq_none]at hf
  have:=hf w hw
  simp[ja5,hne,hd]at this
 |some x=>
  have h1:=List.mem_of_find?_eq_some hf
  have h2:=List.find?_some hf
  simp[ja5,hl]at h2
  refine⟨x,rfl,h1,h2.2,?_⟩
  rw[zgp,hf]
  exact jaq hi (by omega) (by rw[hl,Nat.add_sub_cancel];exact h1) (by rw[hl];exact h2.2)
theorem zr2{n:Nat}{nx pv:List (List Nat)}{f b:Nat}(h:CycF n nx pv f b):∀k,k<b→CycI nx pv f b (zgp nx pv f b k)
 |0,hb=>⟨Nat.le_refl _,hb,rfl,fun i h1 h2=>absurd h2 (by simp[zgp];omega),fun i h2=>absurd h2 (by simp[zgp])⟩
 |k+1,hb=>(zma h (zr2 h k (by omega)) hb).elim fun _ h=>h.2.2.2
def zh9(n:Nat)(es:List Ed):List Nat × Int:=
 if(bfS (zav n es) n).1=0 then([],4)else(zgp (zav n es) (zay n es) (bfS (zav n es) n).2 (bfS (zav n es) n).1 ((bfS (zav n es) n).1 - 1),0)
def zzf(r:List Nat × Int):AV:=.tup [.d (.fs (nsD r.1) r.1.length),.d (iD r.2)]
theorem jln{p q r:Prop}(e:r)(hq:q)(h:r→p=q:=by
 intro hY
 conv=>lhs;simp -dsimp -implicitDefEqProofs (disch:=first|assumption|omega|(simp only[r_z,zad]<;>omega)|decide) only[r_r,↓reduceIte,Nat.reduceEqDiff,Nat.reduceAdd,D.fix,Int.reduceToNat,Nat.reduceMul,Nat.reduceBNe,Nat.reduceBEq,zxo,hY]):p:=(h e).mpr hq
theorem jrr{p q:Prop}(hq:q)(h:p=q:=by
 conv=>lhs;simp (disch:=first|assumption|omega|(simp only[r_z,zad]<;>omega)|decide) only[r_c,Nat.reduceAdd,D.fix,↓reduceIte,Nat.reduceEqDiff]):p:=h.mpr hq
theorem jlo(w f b m:Nat)(lf out:List Nat)(hw:w<lf.length)(hm:m=out.length)(hmb:m≤b)(hb:b≤1000000):zas Try.prog 55 [iD (w:Int),.fp [iD (f:Int)] 0,.fp [.fs (nsD lf) lf.length] 0,.fp [iD (b:Int)] 0,.fp [.fs (nsD out) m] 0] (.d (oD (w !=f&&(nth lf w==b - m)))):=by
 have hg:=zbf hw
 have hq0:((w:Int) !=(f:Int))=(w !=f):=by rw[Bool.eq_iff_iff];simp;omega
 have hq1:(((nth lf w:Nat):Int)==(b:Int) - (m:Int))=(nth lf w==b - m):=by rw[Bool.eq_iff_iff];simp;omega
 refine zau (fn:=Try.f55) (by kernel_rfl) Try.func55 rfl (Nat.le_of_ble_eq_true rfl) fun c hc hp=>?_
 refine zaw (τ':=frL [(0,.d (iD (w:Int))),(1,.d (.fp [iD (f:Int)] 0)),(2,.d (.fp [.fs (nsD lf) lf.length] 0)),(3,.d (.fp [iD (b:Int)] 0)),(4,.d (.fp [.fs (nsD out) m] 0))]) (by repeat (first|exact zal _|refine zaf ?_ (by first|rfl|(simp[r_f,zad];done)|simp[r_f,zad, *]))) ?_
 refine zaj hp zam hc rfl fun K1 hK1=>?_
 simp -dsimp -implicitDefEqProofs (disch:=first|assumption|omega|(simp only[r_z,zad]<;>omega)|decide) only[r_r,↓reduceIte,Nat.reduceEqDiff,Nat.reduceAdd,D.fix,Int.reduceToNat,Nat.reduceMul,Nat.reduceBNe,Nat.reduceBEq]
 refine hK1 _ _ ?_
 refine zbj zam hc mixed rfl (q:=0) (by kernel_rfl) (by kernel_rfl) fun K2 hK2=>?_
 rcases tf (w !=f)with q1|q1
 ·refine jln (sza hg (sza hq0 (sza hq1 q1))) ?_
  refine hK2 _ _ ?_
  refine zaq ?_
  show closeA _ _=_
  refine jrr ?_
  rw[q1];rfl
 ·refine jln (sza hg (sza hq0 (sza hq1 q1))) ?_
  refine hK2 _ _ ?_
  refine zaq ?_
  show closeA _ _=_
  refine jrr ?_
  rw[q1];rfl
theorem jgi{l:List Nat}{p:Nat→Bool}{x:Nat}(h:l.find? p=some x):∃i:Nat,i<l.length∧nth l i=x∧zgm (fun z:Int=>p z.toNat) (zl l)=(i:Int):=by
 rw[List.find?_eq_some_iff_getElem]at h
 obtain⟨hx,i,hi,e,hlt⟩:=h
 refine⟨i,hi,by rw[za5 hi];exact e,zg8 (by rw[zbe];exact hi) (fun j hj=>?_) ?_⟩
 ·rw[zjt,Int.toNat_natCast,za5 (by omega)]
  have:=hlt j hj;simpa using this
 ·rw[zjt,Int.toNat_natCast,za5 hi,e];exact hx
theorem ze2(l:List Nat):(nsD l).map D.fix=nsD l:=zvz (zl l)
theorem jlp{l:List Nat}{p:Nat→Bool}{x i:Nat}(g:Nat)(ca:List D)(hi:zgm (fun z:Int=>p z.toNat) (zl l)=(i:Int))(hl:l.length≤1000000)(hca:∀x:Int,AV.toD.toDs (.d (iD x)::ca.map .d)=some (iD x::ca))(hp:∀w∈l,zas Try.prog g (iD (w:Int)::ca) (.d (oD (p w)))):zas Try.prog 54 [.fs (nsD l) l.length,.clo (.func g) [] ca] (.d (iD (i:Int))):=by
 have:=jlm (zl l) g ca (fun z=>p z.toNat) (by rw[zbe];exact hl) hca (fun k hk=>by
  rw[zjt,Int.toNat_natCast]
  exact hp _ (za3 (by rwa[zbe]at hk)))
 rw[hi]at this
 simpa[intsD,nsD,zbe]using this
theorem jpf(nx:List (List Nat))(v:Nat):zdk nx v≤nx.length+1:=by
 unfold zdk
 split
 ·exact zti nx v nx.length _
 ·omega
theorem zex(l:List Nat)(k x:Nat):(nsD l).set k (.val (.int .i64 (x:Int)))=nsD (l.set k x):=zxg l k x
theorem zxr{nx:List (List Nat)}(h:∀v,zdk nx v≤100000):∀k,(bfS nx k).1≤100000∧(bfS nx k).2≤k
 |0=>⟨Nat.zero_le _,Nat.zero_le _⟩
 |k+1=>by
  obtain⟨a,b⟩:=zxr h k
  rw[bfS];split
  ·exact⟨h k,Nat.le_succ k⟩
  ·exact⟨a,by omega⟩
theorem ztl{p q:Prop}(hq:q)(h:p=q:=by
 conv=>lhs;simp -dsimp -implicitDefEqProofs (disch:=first|assumption|omega|(simp only[r_z,zad,zak,zce]<;>omega)|decide) only[r_r,↓reduceIte,Nat.reduceEqDiff,Nat.reduceAdd,D.fix,Int.reduceToNat,Nat.reduceMul,Nat.reduceBNe,Nat.reduceBEq,gD,zan]):p:=h.mpr hq
theorem zfz{p q:Prop}(hq:q)(h:p=q:=by
 conv=>lhs;simp -dsimp -implicitDefEqProofs (disch:=first|assumption|omega|(simp only[r_z,zad,zak,zce]<;>omega)|decide) only[r_r,↓reduceIte,Nat.reduceEqDiff,Nat.reduceAdd,D.fix,Int.reduceToNat,Nat.reduceMul,Nat.reduceBNe,Nat.reduceBEq,gD,zan,zxo]):p:=h.mpr hq
theorem jn8(k:List Nat){m:List Nat}{τ τ1:Fr}{H H1:zaa}(h:Rt m (fun t=>gcV k (τ t)) (gcH k H) τ1 H1)(a:∀i∈m,k[i]? =some i:=by decide)(b:k.Nodup:=by decide)(c:∀i∈k,i<H.length:=by
 simp[fzH,gcH]):Rt m τ H τ1 H1:=Rt.trans (Rt.gc a b c) h
theorem zxs{m:List Nat}{τ τ':Fr}{H H':zaa}(h2:H=H')(h:zez τ τ':=by
 repeat (first|exact zal _|refine zaf ?_ (by first|rfl|(simp[r_f,zad,zak,zce];done)|simp[r_f,zad,zak,zce, *]))):Rt m τ H τ' H':=Rt.end h h2
theorem zob{p q r:Prop}(e:r)(hq:q)(h:r→p=q:=by
 intro hY
 conv=>lhs;simp -dsimp -implicitDefEqProofs (disch:=first|assumption|omega|(simp only[r_z,zad,zak,zce]<;>omega)|decide) only[r_r,↓reduceIte,Nat.reduceEqDiff,Nat.reduceAdd,D.fix,Int.reduceToNat,Nat.reduceMul,Nat.reduceBNe,Nat.reduceBEq,gD,zan,zxo,hY]):p:=(h e).mpr hq
theorem jgj{p:Prop}(h:p:=by
 first|rfl|(simp only[r_g,Nat.reduceAdd,↓reduceIte,Nat.reduceEqDiff,gD,zan];first|done|rfl)):p:=h
theorem jn9{p q:Prop}(hq:q)(h:p=q:=by
 conv=>lhs;simp only[r_g,Nat.reduceAdd,↓reduceIte,Nat.reduceEqDiff,gD,zan]):p:=h.mpr hq
theorem jrs{p q:Prop}(hq:q)(h:p=q:=by
 conv=>lhs;simp (disch:=first|assumption|omega|(simp only[r_z,zad,zak,zce]<;>omega)|decide) only[r_c,Nat.reduceAdd,D.fix,↓reduceIte,Nat.reduceEqDiff,gD,zan,ze2]):p:=h.mpr hq
theorem jgk(n:Nat)(es:List Ed)(h:Gr n es):zas Try.prog 36 [iD (n:Int),zag es] (zzf (zh9 n es)):=by
 have hb:=h.b
 have hel:=h.l
 obtain⟨nx,hnx⟩:∃nx,nx=zav n es:=⟨_,rfl⟩
 obtain⟨pv,hpv⟩:∃pv,pv=zay n es:=⟨_,rfl⟩
 have hnl:nx.length=n:=by rw[hnx,zbb]
 have hpl:pv.length=n:=by rw[hpv,zcj]
 have hgr:=zju h
 rw[←hnx,←hpv]at hgr
 have hgb:∀v,zdk nx v≤100000:=fun v=>by have:=jpf nx v;omega
 refine zfu (fn:=Try.f36) (by kernel_rfl) Try.func36 rfl (Nat.le_of_ble_eq_true rfl) fun c hc hp hTop=>?_
 refine zaw (τ':=frL [(0,.d (iD (n:Int))),(1,.d (zag es))]) (by repeat (first|exact zal _|refine zaf ?_ (by first|rfl|(simp[r_f,zad,zak,zce];done)|simp[r_f,zad,zak,zce, *]))) ?_
 refine szq hp (fun _ hZ=>ztl hZ) ?_
 refine zaj hp zam hc rfl fun K2 hK2=>?_
 refine zfz ?_
 refine zbd (hgr) rfl ?_
 refine zfz ?_
 refine hK2 _ _ ?_
 refine szq hp (fun _ hZ=>zfz hZ) ?_
 refine zab fun K4 hK4=>?_
 refine szq hp (fun _ hZ=>ztl hZ) ?_
 refine zae ?_
 refine zao hp (fun τ' H' mm=>∃(k:Nat),(k≤n)∧mm=n - k∧H'=[.cells [.d (zan nx),.d (zan pv)],.cells [.d (iD (((bfS nx k).1:Nat):Int))],.cells [.d (iD (((bfS nx k).2:Nat):Int))]]∧τ'=frL [(4,.d (.val (.slice none 0 0))),(5,.d (iD 0)),(6,.op 0 0),(7,.op 1 0),(8,.op 2 0),(0,.d (iD (n:Int))),(20,.d (iD (n:Int))),(21,.d (iD (k:Int)))]) (n) ?_ ⟨0,Nat.zero_le _,rfl,rfl,rfl⟩ ?_
 ·refine jn8 [0,1,2] ?_
  refine zxs ?_
  exact jgj
 rintro τ' H' mm ⟨k,hk,rfl,rfl,rfl⟩
 refine szq hp (fun _ hZ=>zfz hZ) ?_
 refine zab fun K7 hK7=>?_
 refine zai rfl (fun ht=>?_) (fun ht=>?_)
 ·have hkn:k<n:=by simp at ht;omega
  have hd0:=hgb k
  have hb0:=(zxr hgb k).1
  refine zah (hK7 _ _ ?_)
  refine zab fun K8 hK8=>?_
  refine zae ?_
  refine szq hp (fun _ hZ=>ztl hZ) ?_
  refine zaj hp zam hc rfl fun K10 hK10=>?_
  refine zfz ?_
  refine zbd (jge nx pv k (by rw[hnx];exact h.next hkn)) rfl ?_
  refine zfz ?_
  refine hK10 _ _ ?_
  refine zaj hp zam hc rfl fun K11 hK11=>?_
  have hJ11:∀τ' H',(∃τ1 H1,∃(b:Bool),(b=decide (zdk nx k≠0∧((bfS nx k).1=0∨zdk nx k<(bfS nx k).1)))∧H1=[.cells [.d (zan nx),.d (zan pv)],.cells [.d (iD (((bfS nx k).1:Nat):Int))],.cells [.d (iD (((bfS nx k).2:Nat):Int))]]∧τ1=frL [(4,.d (.val (.slice none 0 0))),(5,.d (iD 0)),(6,.op 0 0),(7,.op 1 0),(8,.op 2 0),(0,.d (iD (n:Int))),(20,.d (iD (n:Int))),(21,.d (iD (k:Int))),(9,.d (iD (k:Int))),(10,.d (iD ((zdk nx k:Nat):Int))),(37,.d (oD b))]∧Rt [] τ' H' τ1 H1)→K11 τ' H':=by
   rintro τ' H' ⟨_,_,b,hbb,rfl,rfl,hrt⟩
   refine hK11 _ _ (zba hp hrt ?_)
   clear hrt
   refine zai rfl (fun ht=>?_) (fun ht=>?_)
   ·have hs:bfS nx (k+1)=(zdk nx k,k):=by rw[bfS,if_pos (of_decide_eq_true (hbb.symm.trans ht))]
    refine szs hp (fun _ hZ=>zfz hZ) (hK8 _ _ ?_)
    refine za6 hp zam hc rfl fun K13 hK13=>?_
    refine zfz ?_
    refine hK13 _ _ ⟨_,_,_,?_,⟨k+1,by omega,rfl,rfl,rfl⟩,?_⟩
    ·first|omega|(simp only[List.length_cons];omega)|(dsimp only;omega)
    ·refine zxs ?_
     refine jn9 ?_;rw[hs];rfl
   ·have hs:bfS nx (k+1)=bfS nx k:=by rw[bfS,if_neg (of_decide_eq_false (hbb.symm.trans ht))]
    refine zah (hK8 _ _ ?_)
    refine za6 hp zam hc rfl fun K14 hK14=>?_
    refine zfz ?_
    refine hK14 _ _ ⟨_,_,_,?_,⟨k+1,by omega,rfl,rfl,rfl⟩,?_⟩
    ·first|omega|(simp only[List.length_cons];omega)|(dsimp only;omega)
    ·refine zxs ?_
     refine jn9 ?_;rw[hs];rfl
  rcases tf (decide (0<((zdk nx k:Nat):Int)))with q1|q1<;>rcases tf ((((bfS nx k).1:Nat):Int)==0)with q2|q2
  ·refine zob (sza q1 q2) ?_
   refine(hJ11 _ _ ⟨_,_,true,by simp at q1 q2;simp;omega,rfl,rfl,?_⟩)
   refine zxs ?_
   exact jgj
  ·refine zob (sza q1 q2) ?_
   refine(hJ11 _ _ ⟨_,_,decide (((zdk nx k:Nat):Int)<(((bfS nx k).1:Nat):Int)),decide_eq_decide.2 (by simp at q1 q2;omega),rfl,rfl,?_⟩)
   refine zxs ?_
   exact jgj
  ·refine zob (sza q1 q2) ?_
   refine(hJ11 _ _ ⟨_,_,false,by simp at q1 q2;simp;omega,rfl,rfl,?_⟩)
   refine zxs ?_
   exact jgj
  ·refine zob (sza q1 q2) ?_
   refine(hJ11 _ _ ⟨_,_,false,by simp at q1 q2;simp;omega,rfl,rfl,?_⟩)
   refine zxs ?_
   exact jgj
 ·have hke:k=n:=by simp at ht;omega
  rw[hke]
  refine zat (hK4 _ _ ?_)
  refine zab fun K15 hK15=>?_
  refine szq hp (fun _ hZ=>zfz hZ) ?_
  refine zai rfl (fun ht=>?_) (fun ht=>?_)
  ·have hb0:(bfS (zav n es) n).1=0:=by rw[←hnx];simp at ht;omega
   refine szq hp (fun _ hZ=>ztl hZ) ?_
   refine zaq ?_
   show closeA _ _=_
   refine jrs ?_
   rw[zh9,if_pos hb0];rfl
  ·have hb0:(bfS nx n).1≠0:=by simp at ht;omega
   have hF:=jgg h (by rw[←hnx];exact hb0)
   rw[←hnx,←hpv]at hF
   have hcyc:zh9 n es=(zgp nx pv (bfS nx n).2 (bfS nx n).1 ((bfS nx n).1 - 1),0):=by rw[zh9,←hnx,←hpv,if_neg hb0]
   have hble:=(zxr hgb n).1
   obtain⟨f,hf⟩:∃f,f=(bfS nx n).2:=⟨_,rfl⟩
   obtain⟨b,hbe⟩:∃b,b=(bfS nx n).1:=⟨_,rfl⟩
   rw[←hf,←hbe]at hF hcyc
   rw[←hf,←hbe]
   rw[←hbe]at hb0 hble
   have hNp:GrN pv f:=by rw[hpv];exact h.prev (by have:=hF.lt;omega)
   obtain⟨lf,hlf⟩:∃lf,lf=(List.range pv.length).map (ziq pv f):=⟨_,rfl⟩
   have hlfl:lf.length=n:=by rw[hlf];simp[hpl]
   refine zah (hK15 _ _ ?_)
   refine szq hp (fun _ hZ=>zfz hZ) ?_
   refine zab fun K19 hK19=>?_
   refine zaj hp zam hc rfl fun K20 hK20=>?_
   refine zfz ?_
   refine zbd (zxh pv f) rfl ?_
   refine zfz ?_
   refine hK20 _ _ ?_
   refine zae ?_
   refine zba hp (τ':=frL [(6,.d (.fp [zan nx,zan pv] 0)),(7,.d (.fp [iD (b:Int)] 0)),(8,.d (.fp [iD (f:Int)] 0)),(11,.op 1 0),(48,.d (.clo (.func 57) [] [.fp [zan pv] 0,.fp [iD (f:Int)] 0]))]) (H':=[.free,.cells [.os 1 2 0 n],.cells (avs (List.replicate n (iD 0))),.free]) ?_ ?_
   ·refine Rt.trans (Rt.fz (id:=0) (l:=[zan nx,zan pv]) rfl) ?_
    refine Rt.trans (Rt.fz (id:=1) (l:=[iD (b:Int)]) rfl) ?_
    refine Rt.trans (Rt.fz (id:=2) (l:=[iD (f:Int)]) rfl) ?_
    refine Rt.trans (Rt.fr1) ?_
    refine Rt.trans (Rt.fr1) ?_
    refine jn8 [5,4,3,6] ?_
    refine zxs ?_
    exact jgj
   rw[show(List.replicate n (iD 0))=nsD (zps pv f 0) by rw[zps,zh8,hpl]]
   refine zl9 (n:=Try.f36.ntmps) (T:=[]) (o1:=fun k=>.cells [.os 1 2 0 n]) (o2:=fun k=>.cells (avs (nsD (zps pv f k)))) (o3:=fun _=>.free) (bo:=fun _=>true) (nx:=pv) (st:=f) (fr:=[.any,.any,.any,.any,.any,.any,.d (.fp [zan nx,zan pv] 0),.d (.fp [iD (b:Int)] 0),.d (.fp [iD (f:Int)] 0),.any,.any,.op 1 0]) hTop hp hc rfl (fun t=>zdm (by first|rfl|(simp[AV.allIs,AV.allI,za9,za0,za1,okI,ltI,zar,zbq];done)|(intro o ho;simp at ho;done)) t) (by first|rfl|(simp[AV.allIs,AV.allI,za9,za0,za1,okI,ltI,zar,zbq];done)|(intro o ho;simp at ho;done)) rfl (show ∀j x,((List.range 12).map (frL [(6,.d (.fp [zan nx,zan pv] 0)),(7,.d (.fp [iD (b:Int)] 0)),(8,.d (.fp [iD (f:Int)] 0)),(11,.op 1 0),(48,.d (.clo (.func 57) [] [.fp [zan pv] 0,.fp [iD (f:Int)] 0]))]))[j]? =some x→frL [(6,.d (.fp [zan nx,zan pv] 0)),(7,.d (.fp [iD (b:Int)] 0)),(8,.d (.fp [iD (f:Int)] 0)),(11,.op 1 0),(48,.d (.clo (.func 57) [] [.fp [zan pv] 0,.fp [iD (f:Int)] 0]))] j=x from zpp) (by first|rfl|(simp[AV.allIs,AV.allI,za9,za0,za1,okI,ltI,zar,zbq];done)|(intro o ho;simp at ho;done)) (fun k=>(by first|rfl|(simp[AV.allIs,AV.allI,za9,za0,za1,okI,ltI,zar,zbq];done)|(intro o ho;simp at ho;done))) (fun k=>(by first|rfl|(simp[AV.allIs,AV.allI,za9,za0,za1,okI,ltI,zar,zbq];done)|(intro o ho;simp at ho;done))) (fun k=>(by first|rfl|(simp[AV.allIs,AV.allI,za9,za0,za1,okI,ltI,zar,zbq];done)|(intro o ho;simp at ho;done))) rfl (by decide) (hNp) ?_ ?_ ?_
   ·intro lp lq hlp hlq k w q hq hk c2 hc2 hp2
    refine zaw (τ':=frL [(11,.op 1 0),(49,.d (iD (w:Int))),(50,.d (iD (((nth (bS pv f k).far w:Nat):Int) - 1)))]) (by repeat (first|exact zal _|refine zaf ?_ rfl)) ?_
    have hw1:hdN pv f k=w:=by rw[hdN,hq];rfl
    have hbc:=zpg hNp.n k (zjn hNp.s)
    have hwn:w<n:=by have:=hbc.i.lt w (by rw[show zfm pv k (zb6 pv.length f)=bS pv f k from rfl,hq];simp);omega
    have hnz:nth (bS pv f k).far w≠0:=(hbc.i.far w (by omega)).2 (by rw[show zfm pv k (zb6 pv.length f)=bS pv f k from rfl,hq];simp)
    have hv1:((nth (bS pv f k).far w:Nat):Int) - 1=((nth (bS pv f k).far w - 1:Nat):Int):=by omega
    rw[hv1]
    have hs:zps pv f (k+1)=(zps pv f k).set w (nth (bS pv f k).far w - 1):=by rw[zps,hw1]
    refine zaj hp2 zam hc2 rfl fun K21 hK21=>?_
    refine ztl ?_
    refine hK21 _ _ ?_
    refine za6 hp2 zam hc2 rfl fun K22 hK22=>?_
    refine ztl ?_
    refine hK22 _ _ ⟨rfl,?_⟩
    refine zae ?_
    refine za6 hp2 zam hc2 rfl fun K23 hK23=>?_
    simp -dsimp -implicitDefEqProofs (disch:=first|assumption|omega|(simp only[r_z,zad,zak,zce]<;>omega)|decide) only[r_r,↓reduceIte,Nat.reduceEqDiff,Nat.reduceAdd,D.fix,Int.reduceToNat,Nat.reduceMul,Nat.reduceBNe,Nat.reduceBEq,gD,zan,zex,zxo]
    refine hK23 _ _ ?_
    try dsimp only[zcq,za7]
    refine⟨frL [(11,.op 1 0)],[lq,.cells [.os 1 2 0 n],.cells (avs (nsD (zps pv f (k+1)))),.free],?_,rfl,?_⟩
    ·refine zxs ?_
     refine jn9 ?_;rw[hs]
    exact .inl ⟨rfl,rfl⟩
   ·intro k hk hq
    have hfin:=ja4 hNp (fun j hj=>(hk j hj).2) hq
    rw[←hlf]at hfin
    simp only[hfin]
    have hfz:fzV 2 (nsD lf) (.os 1 2 0 n)= .d (.fs (nsD lf) n):=zji (zbt (by rw[zad,hlfl];omega))
    refine(hK19 _ _ ?_)
    refine szq hp (fun _ hZ=>zfz hZ) ?_
    refine zab fun K25 hK25=>?_
    refine zae ?_
    refine zao hp (fun τ' H' mm=>∃(k:Nat),(k<b)∧mm=b - k∧H'=[.cells [.os 1 1 0 (k+1)],.cells (avs (nsD (zgp nx pv f b k)))]∧τ'=frL [(6,.d (.fp [zan nx,zan pv] 0)),(7,.d (.fp [iD (b:Int)] 0)),(8,.d (.fp [iD (f:Int)] 0)),(11,.d (.fp [.fs (nsD lf) n] 0)),(14,.op 0 0)]) (b) ?_ ⟨0,by omega,rfl,rfl,rfl⟩ ?_
    ·refine Rt.trans (Rt.fz (id:=2) (l:=(nsD lf)) rfl) ?_
     refine Rt.trans (Rt.heap (H':=[.dead,.cells [.d (.fs (nsD lf) n)],.dead,.free,.cells [.d (iD (f:Int))],.cells [.os 1 4 0 1]]) (by simp only[r_g,Nat.reduceAdd,↓reduceIte,Nat.reduceEqDiff,gD,zan,hfz];first|done|rfl)) ?_
     refine Rt.trans (Rt.fz (id:=1) (l:=[.fs (nsD lf) n]) rfl) ?_
     refine jn8 [5,4] ?_
     refine zxs ?_
     exact jgj
    rintro τ' H' mm ⟨k,hk,rfl,rfl,rfl⟩
    refine zab fun K26 hK26=>?_
    refine szq hp (fun _ hZ=>zfz hZ) ?_
    refine zai rfl (fun ht=>?_) (fun ht=>?_)
    ·have hkb:k+1<b:=by simp at ht;omega
     have hci:=zr2 hF k hk
     obtain⟨w,hw1,hw2,hw3,hw4⟩:=zma hF hci hkb
     have hol:=zg9 nx pv f b k
     obtain⟨out,hout⟩:∃out,out=zgp nx pv f b k:=⟨_,rfl⟩
     have hnxt:zgp nx pv f b (k+1)=out++[w]:=by rw[zgp,hw1,hout];rfl
     rw[←hout]at hw1 hw2 hol
     rw[←hout]
     have hul:nth out k<nx.length:=zn5 hw2
     have hg1:(nsD out)[k]? =some (iD ((nth out k:Nat):Int)):=zbf (by omega)
     have hg2:=zcm hul
     obtain⟨i,hi1,hi2,hi3⟩:=jgi hw1
     have hg3:(nsD (nth nx (nth out k)))[i]? =some (iD (w:Int)):=by rw[zbf hi1,hi2]
     have hnr:∀u,(nth nx u).length≤100000:=by rw[hnx];exact(h.next (st:=f) (by have:=hF.lt;omega)).r
     have hc1:∀x∈nth nx (nth out k),zas Try.prog 55 (iD (x:Int)::[.fp [iD (f:Int)] 0,.fp [.fs (nsD lf) n] 0,.fp [iD (b:Int)] 0,.fp [.fs (nsD out) (k+1)] 0]) (.d (oD (ja5 nx pv f b out x))):=fun x hx=>by
      have hxn:x<lf.length:=by rw[hlfl];exact hF.t.ni _ (by omega) x hx
      have:=jlo x f b (k+1) lf out hxn hol.symm (by omega) (by omega)
      rw[hlfl]at this
      rw[ja5,hol,show ziq pv f x=nth lf x by rw[hlf,za8 (by omega)]]
      exact this
     have hk1:(((k+1:Nat):Int) - 1).toNat=k:=by omega
     refine zah (hK26 _ _ ?_)
     refine zae ?_
     refine szq hp (fun _ hZ=>zob (sza hk1 hg1) hZ) ?_
     refine zaj hp zam hc rfl fun K29 hK29=>?_
     refine zob hg2 ?_
     refine zfe (jlp (l:=nth nx (nth out k)) (p:=ja5 nx pv f b out) (x:=w) 55 [.fp [iD (f:Int)] 0,.fp [.fs (nsD lf) n] 0,.fp [iD (b:Int)] 0,.fp [.fs (nsD out) (k+1)] 0] hi3 (by have:=hnr (nth out k);omega) (fun _=>rfl) hc1) ?_ ?_
     ·simp (disch:=first|assumption|omega|(simp only[r_z,zad,zak,zce]<;>omega)|decide) only[r_c,Nat.reduceAdd,D.fix,↓reduceIte,Nat.reduceEqDiff,gD,zan,ze2]
     refine zob hg2 ?_
     refine hK29 _ _ ?_
     refine zjf zam hc mixed rfl (q:=2) (by kernel_rfl) (by kernel_rfl) fun K30 hK30=>?_
     refine zob (sza hg1 (sza hg2 hg3)) ?_
     refine hK30 _ _ ⟨_,_,_,?_,⟨k+1,hkb,rfl,rfl,rfl⟩,?_⟩
     ·first|omega|(simp only[List.length_cons];omega)|(dsimp only;omega)
     ·refine jn8 [0,3] ?_
      refine zxs ?_
      refine jn9 ?_;rw[hnxt,show(D.val (.int .i64 (w:Int)))=iD (w:Int) from rfl,zf8]
    ·have hke:k=b - 1:=by simp at ht;omega
     have hol:=zg9 nx pv f b k
     obtain⟨out,hout⟩:∃out,out=zgp nx pv f b k:=⟨_,rfl⟩
     have hcyc2:zh9 n es=(out,0):=by rw[hcyc,←hke,←hout]
     rw[←hout]at hol
     rw[←hout]
     refine zat (hK25 _ _ ?_)
     refine szq hp (fun _ hZ=>zfz hZ) ?_
     refine zaq ?_
     show closeA _ _=_
     refine jrs ?_
     rw[hcyc2,zzf,hol];rfl
   ·intro k hk hq hb
    exact absurd hb (by simp)
end Go.Proofs.Ytfolbdkbpmgjgaa
