/- Cycle. -/
import Derived.Test.YtfolbdkbpmgjgaaQr
import Derived.Test.YtfolbdkbpmgjgaaKi
set_option linter.unusedVariables false
set_option linter.unusedSimpArgs false
set_option maxRecDepth 100000
set_option maxHeartbeats 4000000
namespace Go.Proofs.Ytfolbdkbpmgjgaa
open Go Go.RowKit
theorem zwd:(((((type_of% @zcw)∧(type_of% @zcx))∧((type_of% @zc9)∧(type_of% @zdk)))∧(((type_of% @zgo)∧(type_of% @zgp))∧((type_of% @zi4)∧(type_of% @zu7))))∧((((type_of% @zjw)∧(type_of% @jga))∧((type_of% @zmz)∧(type_of% @zhf)))∧(((type_of% @zep)∧(type_of% @zfk))∧((type_of% @zeq)∧(type_of% @zdd))))):=⟨⟨⟨⟨@zcw,@zcx⟩,⟨@zc9,@zdk⟩⟩,⟨⟨@zgo,@zgp⟩,⟨@zi4,@zu7⟩⟩⟩,⟨⟨⟨@zjw,@jga⟩,⟨@zmz,@zhf⟩⟩,⟨⟨@zep,@zfk⟩,⟨@zeq,@zdd⟩⟩⟩⟩
theorem zzk{p q:Prop}(hq:q)(h:p=q:=by
 conv=>lhs;simp -dsimp -implicitDefEqProofs (disch:=first|assumption|omega|(simp only[r_z]<;>omega)|decide) only[r_r,↓reduceIte,Nat.reduceEqDiff,Nat.reduceAdd,D.fix,Int.reduceToNat,Nat.reduceMul,Nat.reduceBNe,Nat.reduceBEq]):p:=h.mpr hq
theorem zwe{p q:Prop}(hq:q)(h:p=q:=by
 conv=>lhs;simp -dsimp -implicitDefEqProofs (disch:=first|assumption|omega|(simp only[r_z]<;>omega)|decide) only[r_r,↓reduceIte,Nat.reduceEqDiff,Nat.reduceAdd,D.fix,Int.reduceToNat,Nat.reduceMul,Nat.reduceBNe,Nat.reduceBEq,zwd]):p:=h.mpr hq
theorem job{m:List Nat}{τ τ':Fr}{H H':zaa}(h2:H=H')(h:zgb τ τ':=by
 repeat (first|exact zaj _|refine zac ?_ (by first|rfl|(simp[r_f];done)|simp[r_f, *]))):Rt m τ H τ' H':=Rt.end h h2
theorem joc{p:Prop}(h:p:=by
 simp (disch:=first|assumption|omega|(simp only[r_z]<;>omega)|decide) only[r_c,Nat.reduceAdd,D.fix,↓reduceIte,Nat.reduceEqDiff,hx]):p:=h
theorem ji8(l:List Int)(g:Nat)(ca:List D)(p:Int→Bool)(hl:l.length≤1000000)(hca:∀x:Int,AV.toD.toDs (.d (iD x)::ca.map .d)=some (iD x::ca))(hp':∀k,k<l.length→zas Try.prog g (iD (nth l k)::ca) (.d (oD (p (nth l k))))):zas Try.prog 54 [intsD l,.clo (.func g) [] ca] (.d (iD (zf8 p l))):=by
 refine zay (fn:=Try.f54) (by kernel_rfl) Try.func54 rfl (Nat.le_of_ble_eq_true rfl) fun c hc hp=>?_
 refine zat (τ':=frL [(0,.d (intsD l)),(1,.d (.clo (.func g) [] ca))]) (by repeat (first|exact zaj _|refine zac ?_ (by first|rfl|(simp[r_f];done)|simp[r_f, *]))) ?_
 refine szq hp (fun _ hZ=>zzk hZ) ?_
 refine zab fun K2 hK2=>?_
 refine szq hp (fun _ hZ=>zwe hZ) ?_
 refine zae ?_
 refine zaq hp (fun τ' H' mm=>∃k,(k≤l.length∧∀j,j<k→p (nth l j)=false)∧mm=l.length - k∧H'=[]∧τ'=frL [(0,.d (intsD l)),(1,.d (.clo (.func g) [] ca)),(6,.d (intsD l)),(7,.d (iD l.length)),(8,.d (iD k))]) (l.length) ?_ ⟨0,⟨Nat.zero_le _,fun j hj=>absurd hj (by omega)⟩,rfl,rfl,rfl⟩ ?_
 ·refine job ?_
  first|rfl|(simp only[r_g,Nat.reduceAdd,↓reduceIte,Nat.reduceEqDiff];first|done|rfl)
 rintro τ' H' mm ⟨k,⟨hk,hf⟩,rfl,rfl,rfl⟩
 refine szq hp (fun _ hZ=>zwe hZ) ?_
 refine zab fun K5 hK5=>?_
 refine zai rfl (fun ht=>?_) (fun ht=>?_)
 ·have hlt:k<l.length:=by simp at ht;omega
  refine zag (hK5 _ _ ?_)
  refine zab fun K6 hK6=>?_
  refine zae ?_
  refine szq hp (fun _ hZ=>zzk hZ) ?_
  refine zaf hp zao hc rfl fun K8 hK8=>?_
  refine zwe ?_
  refine zun (fi:=[]) (ca:=ca) (ds:=[iD (nth l k)]) (hp' k hlt) (hca (nth l k)) ?_
  refine zwe ?_
  refine hK8 _ _ ?_
  refine zai rfl (fun ht=>?_) (fun ht=>?_)
  ·have hx:=zgv (p:=p) hlt hf ht
   refine szq hp (fun _ hZ=>zzk hZ) ?_
   refine zar ?_
   show closeA _ _=_
   exact joc
  ·have hf':∀j,j<k+1→p (nth l j)=false:=fun j hj=>by
    rcases Nat.lt_or_ge j k with h|h
    ·exact hf j h
    ·obtain rfl:j=k:=by omega
     exact ht
   refine zag (hK6 _ _ ?_)
   refine zbd hp zao hc rfl fun K10 hK10=>?_
   refine zwe ?_
   refine hK10 _ _ ⟨_,_,_,?_,⟨k+1,⟨by omega,hf'⟩,rfl,rfl,rfl⟩,?_⟩
   ·first|omega|(simp only[List.length_cons];omega)|(dsimp only;omega)
   ·refine job ?_
    first|rfl|(simp only[r_g,Nat.reduceAdd,↓reduceIte,Nat.reduceEqDiff];first|done|rfl)
 ·have hx:zf8 p l= -1:=zhk fun j hj=>hf j (by simp at ht;omega)
  refine zaw (hK2 _ _ ?_)
  refine szq hp (fun _ hZ=>zzk hZ) ?_
  refine zar ?_
  show closeA _ _=_
  exact joc
def bfS(nx:List (List Nat)):Nat→Nat × Nat
 |0=>(0,0)
 |k+1=>if zeo nx k≠0∧((bfS nx k).1=0∨zeo nx k<(bfS nx k).1)then(zeo nx k,k)else bfS nx k
theorem jef(nx:List (List Nat)):∀k,((bfS nx k).1=0→∀v,v<k→zeo nx v=0)∧((bfS nx k).1≠0→(bfS nx k).2<k∧zeo nx (bfS nx k).2=(bfS nx k).1∧(∀v,v<k→zeo nx v≠0→(bfS nx k).1≤zeo nx v)∧∀v,v<(bfS nx k).2→zeo nx v≠(bfS nx k).1)
 |0=>⟨fun _ v hv=>absurd hv (Nat.not_lt_zero _),fun h=>absurd rfl h⟩
 |k+1=>by
  obtain⟨h1,h2⟩:=jef nx k
  rw[bfS]
  split
  ·rename_i h
   refine⟨fun e=>absurd e h.1,fun _=>⟨Nat.lt_succ_self k,rfl,fun v hv hne=>?_,fun v hv e=>?_⟩⟩
   ·show zeo nx k≤zeo nx v
    by_cases e:v=k
    ·rw[e];exact Nat.le_refl _
    ·rcases h.2 with h0|hl
     ·exact absurd (h1 h0 v (by omega)) hne
     ·by_cases h0:(bfS nx k).1=0
      ·exact absurd (h1 h0 v (by omega)) hne
      ·have:=(h2 h0).2.2.1 v (by omega) hne;omega
   ·have e:zeo nx v=zeo nx k:=e
    have hvk:v<k:=hv
    rcases h.2 with h0|hl
    ·have:=h1 h0 v hvk;omega
    ·by_cases h0:(bfS nx k).1=0
     ·have:=h1 h0 v hvk;omega
     ·have:=(h2 h0).2.2.1 v hvk (by omega);omega
  ·rename_i h
   refine⟨fun e v hv=>?_,fun hne=>?_⟩
   ·by_cases ev:v=k
    ·rw[ev];exact Classical.byContradiction fun hh=>h ⟨hh,.inl e⟩
    ·exact h1 e v (by omega)
   ·obtain⟨a,b,c,d⟩:=h2 hne
    refine⟨by omega,b,fun v hv hv0=>?_,d⟩
    by_cases ev:v=k
    ·rw[ev]at hv0 ⊢
     exact Classical.byContradiction fun hh=>h ⟨hv0,.inr (by omega)⟩
    ·exact c v (by omega) hv0
theorem jeg{n:Nat}{es:List Ed}(h:Gr n es)(hb:(bfS (za1 n es) n).1≠0):CycF n (za1 n es) (za9 n es) (bfS (za1 n es) n).2 (bfS (za1 n es) n).1:=by
 obtain⟨a,b,c,d⟩:=(jef (za1 n es) n).2 hb
 exact⟨h.two,a,b,hb,c,d⟩
def zov(pv:List (List Nat))(f:Nat):Nat→List Nat
 |0=>List.replicate pv.length 0
 |k+1=>(zov pv f k).set (hdN pv f k) (nth (bS pv f k).far (hdN pv f k) - 1)
theorem zb4(pv:List (List Nat))(f:Nat):∀k,(zov pv f k).length=pv.length
 |0=>by simp[zov]
 |k+1=>by rw[zov,List.length_set,zb4 pv f k]
theorem jeh{nx:List (List Nat)}{v k w:Nat}(hk:k≤nx.length)(hnz:nth (bS nx v k).far w≠0):nth (zfl nx v).far w=nth (bS nx v k).far w:=by
 rw[zfl,show nx.length=k+(nx.length - k) by omega,zjg,show ze8 nx k (zb0 (k+(nx.length - k)) v)=bS nx v k by rw[show k+(nx.length - k)=nx.length by omega];rfl,zlk _ hnz]
theorem zzl(n w:Nat):nth (List.replicate n 0) w=0:=by unfold nth;rw[List.getD_eq_getElem?_getD,List.getElem?_replicate];split<;>rfl
theorem zwf{pv:List (List Nat)}{f:Nat}(hN:GrN pv f):∀{k:Nat},(∀j,j<k→(bS pv f j).q≠[])→∀w,nth (zov pv f k) w=if w∈(bS pv f k).out then nth (zfl pv f).far w - 1 else 0
 |0,_,w=>by rw[zov,zzl];exact(if_neg (show w∉([]:List Nat) by simp)).symm
 |k+1,h,w=>by
  have hq:=h k (by omega)
  obtain⟨u,q,hu⟩:∃u q,(bS pv f k).q=u::q:=by cases e:(bS pv f k).q with|nil=>exact absurd e hq|cons u q=>exact⟨u,q,rfl⟩
  have hd:hdN pv f k=u:=by rw[hdN,hu];rfl
  have hbc:=zoj hN.n k (zi7 hN.s)
  have hm:u∈(ze8 pv k (zb0 pv.length f)).out++(ze8 pv k (zb0 pv.length f)).q:=by rw[show ze8 pv k (zb0 pv.length f)=bS pv f k from rfl,hu];simp
  have hul:=hbc.i.lt u hm
  have hnz:nth (bS pv f k).far u≠0:=(hbc.i.far u hul).2 hm
  have hol:=zi8 hbc
  rw[show ze8 pv k (zb0 pv.length f)=bS pv f k from rfl,zd7 fun j hj=>h j (by omega)]at hol
  have hkn:k≤pv.length:=by simp at hol;omega
  rw[zov,hd,zv7 hu]
  by_cases e:u=w
  ·subst e
   rw[za2 (by rw[zb4];exact hul),if_pos (by simp),jeh hkn hnz]
  ·rw[za0 e,zwf hN (fun j hj=>h j (by omega)) w]
   have:w∈(bS pv f k).out++[u]↔w∈(bS pv f k).out:=by simp[Ne.symm e]
   simp only[this]
theorem zzm{pv:List (List Nat)}{f k:Nat}(hN:GrN pv f)(hk:∀j,j<k→(bS pv f j).q≠[])(hq:(bS pv f k).q=[]):zov pv f k=(List.range pv.length).map (zjc pv f):=by
 refine ziz (by rw[zb4];simp) fun w hw=>?_
 rw[zb4]at hw
 rw[zwf hN hk,za6 hw,zv6 hN hk hq,zjc]
 split
 ·rfl
 ·rename_i hn
  have hd:=(zjx hN.n hN.s).c
  have:nth (zfl pv f).far w=0:=Classical.byContradiction fun hh=>hn (by
   have:=(hd.i.far w hw).1 hh
   rwa[zsc hN.n hN.s,List.append_nil]at this)
  rw[this]
def jb3(nx pv:List (List Nat))(f b:Nat)(out:List Nat):Nat→Bool:=fun w=>w !=f&&(zjc pv f w==b - out.length)
def zhx(nx pv:List (List Nat))(f b:Nat):Nat→List Nat
 |0=>[f]
 |k+1=>zhx nx pv f b k++[((nth nx (nth (zhx nx pv f b k) k)).find? (jb3 nx pv f b (zhx nx pv f b k))).getD 0]
theorem zgw(nx pv:List (List Nat))(f b:Nat):∀k,(zhx nx pv f b k).length=k+1
 |0=>rfl
 |k+1=>by rw[zhx,List.length_append,zgw nx pv f b k];rfl
theorem zq5{n:Nat}{nx pv:List (List Nat)}{f b k:Nat}(h:CycF n nx pv f b)(hi:CycI nx pv f b (zhx nx pv f b k))(hk:k+1<b):∃w,(nth nx (nth (zhx nx pv f b k) k)).find? (jb3 nx pv f b (zhx nx pv f b k))=some w∧w∈nth nx (nth (zhx nx pv f b k) k)∧zjc pv f w=b - (k+1)∧CycI nx pv f b (zhx nx pv f b (k+1)):=by
 have hl:=zgw nx pv f b k
 obtain⟨w,hw,hne,hd⟩:=zy8 h hi (by omega)
 rw[hl,Nat.add_sub_cancel]at hw
 cases hf:(nth nx (nth (zhx nx pv f b k) k)).find? (jb3 nx pv f b (zhx nx pv f b k))with
 |none=>
  rw[List.find?_eq_none]at hf
  have:=hf w hw
  simp[jb3,hne,hd]at this
 |some x=>
  have h1:=List.mem_of_find?_eq_some hf
  have h2:=List.find?_some hf
  simp[jb3,hl]at h2
  refine⟨x,rfl,h1,h2.2,?_⟩
  rw[zhx,hf]
  exact zy7 hi (by omega) (by rw[hl,Nat.add_sub_cancel];exact h1) (by rw[hl];exact h2.2)
theorem zwg{n:Nat}{nx pv:List (List Nat)}{f b:Nat}(h:CycF n nx pv f b):∀k,k<b→CycI nx pv f b (zhx nx pv f b k)
 |0,hb=>⟨Nat.le_refl _,hb,rfl,fun i h1 h2=>absurd h2 (by simp[zhx];omega),fun i h2=>absurd h2 (by simp[zhx])⟩
 |k+1,hb=>(zq5 h (zwg h k (by omega)) hb).elim fun _ h=>h.2.2.2
def zjn(n:Nat)(es:List Ed):List Nat × Int:=
 if(bfS (za1 n es) n).1=0 then([],4)else(zhx (za1 n es) (za9 n es) (bfS (za1 n es) n).2 (bfS (za1 n es) n).1 ((bfS (za1 n es) n).1 - 1),0)
def zxs(r:List Nat × Int):AV:=.tup [.d (.fs (nsD r.1) r.1.length),.d (iD r.2)]
theorem ji9{p q r:Prop}(e:r)(hq:q)(h:r→p=q:=by
 intro hY
 conv=>lhs;simp -dsimp -implicitDefEqProofs (disch:=first|assumption|omega|(simp only[r_z,zad]<;>omega)|decide) only[r_r,↓reduceIte,Nat.reduceEqDiff,Nat.reduceAdd,D.fix,Int.reduceToNat,Nat.reduceMul,Nat.reduceBNe,Nat.reduceBEq,zwd,hY]):p:=(h e).mpr hq
theorem jod{p q:Prop}(hq:q)(h:p=q:=by
 conv=>lhs;simp (disch:=first|assumption|omega|(simp only[r_z,zad]<;>omega)|decide) only[r_c,Nat.reduceAdd,D.fix,↓reduceIte,Nat.reduceEqDiff]):p:=h.mpr hq
theorem jja(w f b m:Nat)(lf out:List Nat)(hw:w<lf.length)(hm:m=out.length)(hmb:m≤b)(hb:b≤1000000):zas Try.prog 55 [iD (w:Int),.fp [iD (f:Int)] 0,.fp [.fs (nsD lf) lf.length] 0,.fp [iD (b:Int)] 0,.fp [.fs (nsD out) m] 0] (.d (oD (w !=f&&(nth lf w==b - m)))):=by
 have hg:=zbb hw
 have hq0:((w:Int) !=(f:Int))=(w !=f):=by rw[Bool.eq_iff_iff];simp;omega
 have hq1:(((nth lf w:Nat):Int)==(b:Int) - (m:Int))=(nth lf w==b - m):=by rw[Bool.eq_iff_iff];simp;omega
 refine zay (fn:=Try.f55) (by kernel_rfl) Try.func55 rfl (Nat.le_of_ble_eq_true rfl) fun c hc hp=>?_
 refine zat (τ':=frL [(0,.d (iD (w:Int))),(1,.d (.fp [iD (f:Int)] 0)),(2,.d (.fp [.fs (nsD lf) lf.length] 0)),(3,.d (.fp [iD (b:Int)] 0)),(4,.d (.fp [.fs (nsD out) m] 0))]) (by repeat (first|exact zaj _|refine zac ?_ (by first|rfl|(simp[r_f,zad];done)|simp[r_f,zad, *]))) ?_
 refine zaf hp zao hc rfl fun K1 hK1=>?_
 simp -dsimp -implicitDefEqProofs (disch:=first|assumption|omega|(simp only[r_z,zad]<;>omega)|decide) only[r_r,↓reduceIte,Nat.reduceEqDiff,Nat.reduceAdd,D.fix,Int.reduceToNat,Nat.reduceMul,Nat.reduceBNe,Nat.reduceBEq]
 refine hK1 _ _ ?_
 refine zbh zao hc mixed rfl (q:=0) (by kernel_rfl) (by kernel_rfl) fun K2 hK2=>?_
 rcases tf (w !=f)with q1|q1
 ·refine ji9 (sza hg (sza hq0 (sza hq1 q1))) ?_
  refine hK2 _ _ ?_
  refine zar ?_
  show closeA _ _=_
  refine jod ?_
  rw[q1];rfl
 ·refine ji9 (sza hg (sza hq0 (sza hq1 q1))) ?_
  refine hK2 _ _ ?_
  refine zar ?_
  show closeA _ _=_
  refine jod ?_
  rw[q1];rfl
theorem jei{l:List Nat}{p:Nat→Bool}{x:Nat}(h:l.find? p=some x):∃i:Nat,i<l.length∧nth l i=x∧zf8 (fun z:Int=>p z.toNat) (zl l)=(i:Int):=by
 rw[List.find?_eq_some_iff_getElem]at h
 obtain⟨hx,i,hi,e,hlt⟩:=h
 refine⟨i,hi,by rw[za3 hi];exact e,zgv (by rw[za5];exact hi) (fun j hj=>?_) ?_⟩
 ·rw[zgt,Int.toNat_natCast,za3 (by omega)]
  have:=hlt j hj;simpa using this
 ·rw[zgt,Int.toNat_natCast,za3 hi,e];exact hx
theorem zhy(l:List Nat):(nsD l).map D.fix=nsD l:=zup (zl l)
theorem jjb{l:List Nat}{p:Nat→Bool}{x i:Nat}(g:Nat)(ca:List D)(hi:zf8 (fun z:Int=>p z.toNat) (zl l)=(i:Int))(hl:l.length≤1000000)(hca:∀x:Int,AV.toD.toDs (.d (iD x)::ca.map .d)=some (iD x::ca))(hp:∀w∈l,zas Try.prog g (iD (w:Int)::ca) (.d (oD (p w)))):zas Try.prog 54 [.fs (nsD l) l.length,.clo (.func g) [] ca] (.d (iD (i:Int))):=by
 have:=ji8 (zl l) g ca (fun z=>p z.toNat) (by rw[za5];exact hl) hca (fun k hk=>by
  rw[zgt,Int.toNat_natCast]
  exact hp _ (za8 (by rwa[za5]at hk)))
 rw[hi]at this
 simpa[intsD,nsD,za5]using this
theorem jmb(nx:List (List Nat))(v:Nat):zeo nx v≤nx.length+1:=by
 unfold zeo
 split
 ·exact zzc nx v nx.length _
 ·omega
theorem zf9(l:List Nat)(k x:Nat):(nsD l).set k (.val (.int .i64 (x:Int)))=nsD (l.set k x):=znc l k x
theorem zwh{nx:List (List Nat)}(h:∀v,zeo nx v≤100000):∀k,(bfS nx k).1≤100000∧(bfS nx k).2≤k
 |0=>⟨Nat.zero_le _,Nat.zero_le _⟩
 |k+1=>by
  obtain⟨a,b⟩:=zwh h k
  rw[bfS];split
  ·exact⟨h k,Nat.le_succ k⟩
  ·exact⟨a,by omega⟩
theorem zsj{p q:Prop}(hq:q)(h:p=q:=by
 conv=>lhs;simp -dsimp -implicitDefEqProofs (disch:=first|assumption|omega|(simp only[r_z,zad,zah,zb4]<;>omega)|decide) only[r_r,↓reduceIte,Nat.reduceEqDiff,Nat.reduceAdd,D.fix,Int.reduceToNat,Nat.reduceMul,Nat.reduceBNe,Nat.reduceBEq,gD,zam]):p:=h.mpr hq
theorem zfn{p q:Prop}(hq:q)(h:p=q:=by
 conv=>lhs;simp -dsimp -implicitDefEqProofs (disch:=first|assumption|omega|(simp only[r_z,zad,zah,zb4]<;>omega)|decide) only[r_r,↓reduceIte,Nat.reduceEqDiff,Nat.reduceAdd,D.fix,Int.reduceToNat,Nat.reduceMul,Nat.reduceBNe,Nat.reduceBEq,gD,zam,zwd]):p:=h.mpr hq
theorem jk6(k:List Nat){m:List Nat}{τ τ1:Fr}{H H1:zaa}(h:Rt m (fun t=>gcV k (τ t)) (gcH k H) τ1 H1)(a:∀i∈m,k[i]? =some i:=by decide)(b:k.Nodup:=by decide)(c:∀i∈k,i<H.length:=by
 simp[fzH,gcH]):Rt m τ H τ1 H1:=Rt.trans (Rt.gc a b c) h
theorem zwi{m:List Nat}{τ τ':Fr}{H H':zaa}(h2:H=H')(h:zgb τ τ':=by
 repeat (first|exact zaj _|refine zac ?_ (by first|rfl|(simp[r_f,zad,zah,zb4];done)|simp[r_f,zad,zah,zb4, *]))):Rt m τ H τ' H':=Rt.end h h2
theorem znf{p q r:Prop}(e:r)(hq:q)(h:r→p=q:=by
 intro hY
 conv=>lhs;simp -dsimp -implicitDefEqProofs (disch:=first|assumption|omega|(simp only[r_z,zad,zah,zb4]<;>omega)|decide) only[r_r,↓reduceIte,Nat.reduceEqDiff,Nat.reduceAdd,D.fix,Int.reduceToNat,Nat.reduceMul,Nat.reduceBNe,Nat.reduceBEq,gD,zam,zwd,hY]):p:=(h e).mpr hq
theorem jej{p:Prop}(h:p:=by
 first|rfl|(simp only[r_g,Nat.reduceAdd,↓reduceIte,Nat.reduceEqDiff,gD,zam];first|done|rfl)):p:=h
theorem jk7{p q:Prop}(hq:q)(h:p=q:=by
 conv=>lhs;simp only[r_g,Nat.reduceAdd,↓reduceIte,Nat.reduceEqDiff,gD,zam]):p:=h.mpr hq
theorem joe{p q:Prop}(hq:q)(h:p=q:=by
 conv=>lhs;simp (disch:=first|assumption|omega|(simp only[r_z,zad,zah,zb4]<;>omega)|decide) only[r_c,Nat.reduceAdd,D.fix,↓reduceIte,Nat.reduceEqDiff,gD,zam,zhy]):p:=h.mpr hq
theorem jek(n:Nat)(es:List Ed)(h:Gr n es):zas Try.prog 36 [iD (n:Int),zan es] (zxs (zjn n es)):=by
 have hb:=h.b
 have hel:=h.l
 obtain⟨nx,hnx⟩:∃nx,nx=za1 n es:=⟨_,rfl⟩
 obtain⟨pv,hpv⟩:∃pv,pv=za9 n es:=⟨_,rfl⟩
 have hnl:nx.length=n:=by rw[hnx,zba]
 have hpl:pv.length=n:=by rw[hpv,zb9]
 have hgr:=zjd h
 rw[←hnx,←hpv]at hgr
 have hgb:∀v,zeo nx v≤100000:=fun v=>by have:=jmb nx v;omega
 refine zfh (fn:=Try.f36) (by kernel_rfl) Try.func36 rfl (Nat.le_of_ble_eq_true rfl) fun c hc hp hTop=>?_
 refine zat (τ':=frL [(0,.d (iD (n:Int))),(1,.d (zan es))]) (by repeat (first|exact zaj _|refine zac ?_ (by first|rfl|(simp[r_f,zad,zah,zb4];done)|simp[r_f,zad,zah,zb4, *]))) ?_
 refine szq hp (fun _ hZ=>zsj hZ) ?_
 refine zaf hp zao hc rfl fun K2 hK2=>?_
 refine zfn ?_
 refine zbj (hgr) rfl ?_
 refine zfn ?_
 refine hK2 _ _ ?_
 refine szq hp (fun _ hZ=>zfn hZ) ?_
 refine zab fun K4 hK4=>?_
 refine szq hp (fun _ hZ=>zsj hZ) ?_
 refine zae ?_
 refine zaq hp (fun τ' H' mm=>∃(k:Nat),(k≤n)∧mm=n - k∧H'=[.cells [.d (zam nx),.d (zam pv)],.cells [.d (iD (((bfS nx k).1:Nat):Int))],.cells [.d (iD (((bfS nx k).2:Nat):Int))]]∧τ'=frL [(4,.d (.val (.slice none 0 0))),(5,.d (iD 0)),(6,.op 0 0),(7,.op 1 0),(8,.op 2 0),(0,.d (iD (n:Int))),(20,.d (iD (n:Int))),(21,.d (iD (k:Int)))]) (n) ?_ ⟨0,Nat.zero_le _,rfl,rfl,rfl⟩ ?_
 ·refine jk6 [0,1,2] ?_
  refine zwi ?_
  exact jej
 rintro τ' H' mm ⟨k,hk,rfl,rfl,rfl⟩
 refine szq hp (fun _ hZ=>zfn hZ) ?_
 refine zab fun K7 hK7=>?_
 refine zai rfl (fun ht=>?_) (fun ht=>?_)
 ·have hkn:k<n:=by simp at ht;omega
  have hd0:=hgb k
  have hb0:=(zwh hgb k).1
  refine zag (hK7 _ _ ?_)
  refine zab fun K8 hK8=>?_
  refine zae ?_
  refine szq hp (fun _ hZ=>zsj hZ) ?_
  refine zaf hp zao hc rfl fun K10 hK10=>?_
  refine zfn ?_
  refine zbj (jee nx pv k (by rw[hnx];exact h.next hkn)) rfl ?_
  refine zfn ?_
  refine hK10 _ _ ?_
  refine zaf hp zao hc rfl fun K11 hK11=>?_
  have hJ11:∀τ' H',(∃τ1 H1,∃(b:Bool),(b=decide (zeo nx k≠0∧((bfS nx k).1=0∨zeo nx k<(bfS nx k).1)))∧H1=[.cells [.d (zam nx),.d (zam pv)],.cells [.d (iD (((bfS nx k).1:Nat):Int))],.cells [.d (iD (((bfS nx k).2:Nat):Int))]]∧τ1=frL [(4,.d (.val (.slice none 0 0))),(5,.d (iD 0)),(6,.op 0 0),(7,.op 1 0),(8,.op 2 0),(0,.d (iD (n:Int))),(20,.d (iD (n:Int))),(21,.d (iD (k:Int))),(9,.d (iD (k:Int))),(10,.d (iD ((zeo nx k:Nat):Int))),(37,.d (oD b))]∧Rt [] τ' H' τ1 H1)→K11 τ' H':=by
   rintro τ' H' ⟨_,_,b,hbb,rfl,rfl,hrt⟩
   refine hK11 _ _ (zbe hp hrt ?_)
   clear hrt
   refine zai rfl (fun ht=>?_) (fun ht=>?_)
   ·have hs:bfS nx (k+1)=(zeo nx k,k):=by rw[bfS,if_pos (of_decide_eq_true (hbb.symm.trans ht))]
    refine szs hp (fun _ hZ=>zfn hZ) (hK8 _ _ ?_)
    refine zbd hp zao hc rfl fun K13 hK13=>?_
    refine zfn ?_
    refine hK13 _ _ ⟨_,_,_,?_,⟨k+1,by omega,rfl,rfl,rfl⟩,?_⟩
    ·first|omega|(simp only[List.length_cons];omega)|(dsimp only;omega)
    ·refine zwi ?_
     refine jk7 ?_;rw[hs];rfl
   ·have hs:bfS nx (k+1)=bfS nx k:=by rw[bfS,if_neg (of_decide_eq_false (hbb.symm.trans ht))]
    refine zag (hK8 _ _ ?_)
    refine zbd hp zao hc rfl fun K14 hK14=>?_
    refine zfn ?_
    refine hK14 _ _ ⟨_,_,_,?_,⟨k+1,by omega,rfl,rfl,rfl⟩,?_⟩
    ·first|omega|(simp only[List.length_cons];omega)|(dsimp only;omega)
    ·refine zwi ?_
     refine jk7 ?_;rw[hs];rfl
  rcases tf (decide (0<((zeo nx k:Nat):Int)))with q1|q1<;>rcases tf ((((bfS nx k).1:Nat):Int)==0)with q2|q2
  ·refine znf (sza q1 q2) ?_
   refine(hJ11 _ _ ⟨_,_,true,by simp at q1 q2;simp;omega,rfl,rfl,?_⟩)
   refine zwi ?_
   exact jej
  ·refine znf (sza q1 q2) ?_
   refine(hJ11 _ _ ⟨_,_,decide (((zeo nx k:Nat):Int)<(((bfS nx k).1:Nat):Int)),decide_eq_decide.2 (by simp at q1 q2;omega),rfl,rfl,?_⟩)
   refine zwi ?_
   exact jej
  ·refine znf (sza q1 q2) ?_
   refine(hJ11 _ _ ⟨_,_,false,by simp at q1 q2;simp;omega,rfl,rfl,?_⟩)
   refine zwi ?_
   exact jej
  ·refine znf (sza q1 q2) ?_
   refine(hJ11 _ _ ⟨_,_,false,by simp at q1 q2;simp;omega,rfl,rfl,?_⟩)
   refine zwi ?_
   exact jej
 ·have hke:k=n:=by simp at ht;omega
  rw[hke]
  refine zaw (hK4 _ _ ?_)
  refine zab fun K15 hK15=>?_
  refine szq hp (fun _ hZ=>zfn hZ) ?_
  refine zai rfl (fun ht=>?_) (fun ht=>?_)
  ·have hb0:(bfS (za1 n es) n).1=0:=by rw[←hnx];simp at ht;omega
   refine szq hp (fun _ hZ=>zsj hZ) ?_
   refine zar ?_
   show closeA _ _=_
   refine joe ?_
   rw[zjn,if_pos hb0];rfl
  ·have hb0:(bfS nx n).1≠0:=by simp at ht;omega
   have hF:=jeg h (by rw[←hnx];exact hb0)
   rw[←hnx,←hpv]at hF
   have hcyc:zjn n es=(zhx nx pv (bfS nx n).2 (bfS nx n).1 ((bfS nx n).1 - 1),0):=by rw[zjn,←hnx,←hpv,if_neg hb0]
   have hble:=(zwh hgb n).1
   obtain⟨f,hf⟩:∃f,f=(bfS nx n).2:=⟨_,rfl⟩
   obtain⟨b,hbe⟩:∃b,b=(bfS nx n).1:=⟨_,rfl⟩
   rw[←hf,←hbe]at hF hcyc
   rw[←hf,←hbe]
   rw[←hbe]at hb0 hble
   have hNp:GrN pv f:=by rw[hpv];exact h.prev (by have:=hF.lt;omega)
   obtain⟨lf,hlf⟩:∃lf,lf=(List.range pv.length).map (zjc pv f):=⟨_,rfl⟩
   have hlfl:lf.length=n:=by rw[hlf];simp[hpl]
   refine zag (hK15 _ _ ?_)
   refine szq hp (fun _ hZ=>zfn hZ) ?_
   refine zab fun K19 hK19=>?_
   refine zaf hp zao hc rfl fun K20 hK20=>?_
   refine zfn ?_
   refine zbj (zv5 pv f) rfl ?_
   refine zfn ?_
   refine hK20 _ _ ?_
   refine zae ?_
   refine zbe hp (τ':=frL [(6,.d (.fp [zam nx,zam pv] 0)),(7,.d (.fp [iD (b:Int)] 0)),(8,.d (.fp [iD (f:Int)] 0)),(11,.op 1 0),(48,.d (.clo (.func 57) [] [.fp [zam pv] 0,.fp [iD (f:Int)] 0]))]) (H':=[.free,.cells [.os 1 2 0 n],.cells (avs (List.replicate n (iD 0))),.free]) ?_ ?_
   ·refine Rt.trans (Rt.fz (id:=0) (l:=[zam nx,zam pv]) rfl) ?_
    refine Rt.trans (Rt.fz (id:=1) (l:=[iD (b:Int)]) rfl) ?_
    refine Rt.trans (Rt.fz (id:=2) (l:=[iD (f:Int)]) rfl) ?_
    refine Rt.trans (Rt.fr1) ?_
    refine Rt.trans (Rt.fr1) ?_
    refine jk6 [5,4,3,6] ?_
    refine zwi ?_
    exact jej
   rw[show(List.replicate n (iD 0))=nsD (zov pv f 0) by rw[zov,zkm,hpl]]
   refine zlp (n:=Try.f36.ntmps) (T:=[]) (o1:=fun k=>.cells [.os 1 2 0 n]) (o2:=fun k=>.cells (avs (nsD (zov pv f k)))) (o3:=fun _=>.free) (bo:=fun _=>true) (nx:=pv) (st:=f) (fr:=[.any,.any,.any,.any,.any,.any,.d (.fp [zam nx,zam pv] 0),.d (.fp [iD (b:Int)] 0),.d (.fp [iD (f:Int)] 0),.any,.any,.op 1 0]) hTop hp hc rfl (fun t=>zdc (by first|rfl|(simp[AV.allIs,AV.allI,za4,zau,zav,okI,ltI,zap,zbm];done)|(intro o ho;simp at ho;done)) t) (by first|rfl|(simp[AV.allIs,AV.allI,za4,zau,zav,okI,ltI,zap,zbm];done)|(intro o ho;simp at ho;done)) rfl (show ∀j x,((List.range 12).map (frL [(6,.d (.fp [zam nx,zam pv] 0)),(7,.d (.fp [iD (b:Int)] 0)),(8,.d (.fp [iD (f:Int)] 0)),(11,.op 1 0),(48,.d (.clo (.func 57) [] [.fp [zam pv] 0,.fp [iD (f:Int)] 0]))]))[j]? =some x→frL [(6,.d (.fp [zam nx,zam pv] 0)),(7,.d (.fp [iD (b:Int)] 0)),(8,.d (.fp [iD (f:Int)] 0)),(11,.op 1 0),(48,.d (.clo (.func 57) [] [.fp [zam pv] 0,.fp [iD (f:Int)] 0]))] j=x from zot) (by first|rfl|(simp[AV.allIs,AV.allI,za4,zau,zav,okI,ltI,zap,zbm];done)|(intro o ho;simp at ho;done)) (fun k=>(by first|rfl|(simp[AV.allIs,AV.allI,za4,zau,zav,okI,ltI,zap,zbm];done)|(intro o ho;simp at ho;done))) (fun k=>(by first|rfl|(simp[AV.allIs,AV.allI,za4,zau,zav,okI,ltI,zap,zbm];done)|(intro o ho;simp at ho;done))) (fun k=>(by first|rfl|(simp[AV.allIs,AV.allI,za4,zau,zav,okI,ltI,zap,zbm];done)|(intro o ho;simp at ho;done))) rfl (by decide) (hNp) ?_ ?_ ?_
   ·intro lp lq hlp hlq k w q hq hk c2 hc2 hp2
    refine zat (τ':=frL [(11,.op 1 0),(49,.d (iD (w:Int))),(50,.d (iD (((nth (bS pv f k).far w:Nat):Int) - 1)))]) (by repeat (first|exact zaj _|refine zac ?_ rfl)) ?_
    have hw1:hdN pv f k=w:=by rw[hdN,hq];rfl
    have hbc:=zoj hNp.n k (zi7 hNp.s)
    have hwn:w<n:=by have:=hbc.i.lt w (by rw[show ze8 pv k (zb0 pv.length f)=bS pv f k from rfl,hq];simp);omega
    have hnz:nth (bS pv f k).far w≠0:=(hbc.i.far w (by omega)).2 (by rw[show ze8 pv k (zb0 pv.length f)=bS pv f k from rfl,hq];simp)
    have hv1:((nth (bS pv f k).far w:Nat):Int) - 1=((nth (bS pv f k).far w - 1:Nat):Int):=by omega
    rw[hv1]
    have hs:zov pv f (k+1)=(zov pv f k).set w (nth (bS pv f k).far w - 1):=by rw[zov,hw1]
    refine zaf hp2 zao hc2 rfl fun K21 hK21=>?_
    refine zsj ?_
    refine hK21 _ _ ?_
    refine zbd hp2 zao hc2 rfl fun K22 hK22=>?_
    refine zsj ?_
    refine hK22 _ _ ⟨rfl,?_⟩
    refine zae ?_
    refine zbd hp2 zao hc2 rfl fun K23 hK23=>?_
    simp -dsimp -implicitDefEqProofs (disch:=first|assumption|omega|(simp only[r_z,zad,zah,zb4]<;>omega)|decide) only[r_r,↓reduceIte,Nat.reduceEqDiff,Nat.reduceAdd,D.fix,Int.reduceToNat,Nat.reduceMul,Nat.reduceBNe,Nat.reduceBEq,gD,zam,zf9,zwd]
    refine hK23 _ _ ?_
    try dsimp only[zc8,za7]
    refine⟨frL [(11,.op 1 0)],[lq,.cells [.os 1 2 0 n],.cells (avs (nsD (zov pv f (k+1)))),.free],?_,rfl,?_⟩
    ·refine zwi ?_
     refine jk7 ?_;rw[hs]
    exact .inl ⟨rfl,rfl⟩
   ·intro k hk hq
    have hfin:=zzm hNp (fun j hj=>(hk j hj).2) hq
    rw[←hlf]at hfin
    simp only[hfin]
    have hfz:fzV 2 (nsD lf) (.os 1 2 0 n)= .d (.fs (nsD lf) n):=zi2 (zbk (by rw[zad,hlfl];omega))
    refine(hK19 _ _ ?_)
    refine szq hp (fun _ hZ=>zfn hZ) ?_
    refine zab fun K25 hK25=>?_
    refine zae ?_
    refine zaq hp (fun τ' H' mm=>∃(k:Nat),(k<b)∧mm=b - k∧H'=[.cells [.os 1 1 0 (k+1)],.cells (avs (nsD (zhx nx pv f b k)))]∧τ'=frL [(6,.d (.fp [zam nx,zam pv] 0)),(7,.d (.fp [iD (b:Int)] 0)),(8,.d (.fp [iD (f:Int)] 0)),(11,.d (.fp [.fs (nsD lf) n] 0)),(14,.op 0 0)]) (b) ?_ ⟨0,by omega,rfl,rfl,rfl⟩ ?_
    ·refine Rt.trans (Rt.fz (id:=2) (l:=(nsD lf)) rfl) ?_
     refine Rt.trans (Rt.heap (H':=[.dead,.cells [.d (.fs (nsD lf) n)],.dead,.free,.cells [.d (iD (f:Int))],.cells [.os 1 4 0 1]]) (by simp only[r_g,Nat.reduceAdd,↓reduceIte,Nat.reduceEqDiff,gD,zam,hfz];first|done|rfl)) ?_
     refine Rt.trans (Rt.fz (id:=1) (l:=[.fs (nsD lf) n]) rfl) ?_
     refine jk6 [5,4] ?_
     refine zwi ?_
     exact jej
    rintro τ' H' mm ⟨k,hk,rfl,rfl,rfl⟩
    refine zab fun K26 hK26=>?_
    refine szq hp (fun _ hZ=>zfn hZ) ?_
    refine zai rfl (fun ht=>?_) (fun ht=>?_)
    ·have hkb:k+1<b:=by simp at ht;omega
     have hci:=zwg hF k hk
     obtain⟨w,hw1,hw2,hw3,hw4⟩:=zq5 hF hci hkb
     have hol:=zgw nx pv f b k
     obtain⟨out,hout⟩:∃out,out=zhx nx pv f b k:=⟨_,rfl⟩
     have hnxt:zhx nx pv f b (k+1)=out++[w]:=by rw[zhx,hw1,hout];rfl
     rw[←hout]at hw1 hw2 hol
     rw[←hout]
     have hul:nth out k<nx.length:=zqy hw2
     have hg1:(nsD out)[k]? =some (iD ((nth out k:Nat):Int)):=zbb (by omega)
     have hg2:=zcu hul
     obtain⟨i,hi1,hi2,hi3⟩:=jei hw1
     have hg3:(nsD (nth nx (nth out k)))[i]? =some (iD (w:Int)):=by rw[zbb hi1,hi2]
     have hnr:∀u,(nth nx u).length≤100000:=by rw[hnx];exact(h.next (st:=f) (by have:=hF.lt;omega)).r
     have hc1:∀x∈nth nx (nth out k),zas Try.prog 55 (iD (x:Int)::[.fp [iD (f:Int)] 0,.fp [.fs (nsD lf) n] 0,.fp [iD (b:Int)] 0,.fp [.fs (nsD out) (k+1)] 0]) (.d (oD (jb3 nx pv f b out x))):=fun x hx=>by
      have hxn:x<lf.length:=by rw[hlfl];exact hF.t.ni _ (by omega) x hx
      have:=jja x f b (k+1) lf out hxn hol.symm (by omega) (by omega)
      rw[hlfl]at this
      rw[jb3,hol,show zjc pv f x=nth lf x by rw[hlf,za6 (by omega)]]
      exact this
     have hk1:(((k+1:Nat):Int) - 1).toNat=k:=by omega
     refine zag (hK26 _ _ ?_)
     refine zae ?_
     refine szq hp (fun _ hZ=>znf (sza hk1 hg1) hZ) ?_
     refine zaf hp zao hc rfl fun K29 hK29=>?_
     refine znf hg2 ?_
     refine zft (jjb (l:=nth nx (nth out k)) (p:=jb3 nx pv f b out) (x:=w) 55 [.fp [iD (f:Int)] 0,.fp [.fs (nsD lf) n] 0,.fp [iD (b:Int)] 0,.fp [.fs (nsD out) (k+1)] 0] hi3 (by have:=hnr (nth out k);omega) (fun _=>rfl) hc1) ?_ ?_
     ·simp (disch:=first|assumption|omega|(simp only[r_z,zad,zah,zb4]<;>omega)|decide) only[r_c,Nat.reduceAdd,D.fix,↓reduceIte,Nat.reduceEqDiff,gD,zam,zhy]
     refine znf hg2 ?_
     refine hK29 _ _ ?_
     refine zhu zao hc mixed rfl (q:=2) (by kernel_rfl) (by kernel_rfl) fun K30 hK30=>?_
     refine znf (sza hg1 (sza hg2 hg3)) ?_
     refine hK30 _ _ ⟨_,_,_,?_,⟨k+1,hkb,rfl,rfl,rfl⟩,?_⟩
     ·first|omega|(simp only[List.length_cons];omega)|(dsimp only;omega)
     ·refine jk6 [0,3] ?_
      refine zwi ?_
      refine jk7 ?_;rw[hnxt,show(D.val (.int .i64 (w:Int)))=iD (w:Int) from rfl,zjf]
    ·have hke:k=b - 1:=by simp at ht;omega
     have hol:=zgw nx pv f b k
     obtain⟨out,hout⟩:∃out,out=zhx nx pv f b k:=⟨_,rfl⟩
     have hcyc2:zjn n es=(out,0):=by rw[hcyc,←hke,←hout]
     rw[←hout]at hol
     rw[←hout]
     refine zaw (hK25 _ _ ?_)
     refine szq hp (fun _ hZ=>zfn hZ) ?_
     refine zar ?_
     show closeA _ _=_
     refine joe ?_
     rw[hcyc2,zxs,hol];rfl
   ·intro k hk hq hb
    exact absurd hb (by simp)
end Go.Proofs.Ytfolbdkbpmgjgaa
