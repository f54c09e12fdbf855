/- The reference's Back: walked. -/
import Derived.Test.YtfolbdkbpmgjgaaQr
import Derived.Test.YtfolbdkbpmgjgaaIc
set_option linter.unusedVariables false
set_option linter.unusedSimpArgs false
set_option maxRecDepth 100000
set_option maxHeartbeats 4000000
namespace Go.Proofs.Ytfolbdkbpmgjgaa
open Go Go.RowKit
section
theorem jbz:(((type_of% @zb8)∧((type_of% @zcl)∧(type_of% @zea)))∧(((type_of% @zeb)∧(type_of% @zeg))∧((type_of% @zca)∧(type_of% @zb9)))):=⟨⟨@zb8,⟨@zcl,@zea⟩⟩,⟨⟨@zeb,@zeg⟩,⟨@zca,@zb9⟩⟩⟩
def bkF(n:Nat)(es:List Ed)(v u:Nat):Nat:=nth (zew (zay n es) v).far u
structure FrF (n:Nat) (es:List Ed) (v:Nat) (f:Nat→Nat):Prop where
 z:f v=1
 one:∀u,u<n→f u=1→u=v
 st:∀e∈es,f e.2≠0→f e.1≠0∧f e.1≤f e.2+1
 pr:∀u d,u<n→f u=d+2→∃e∈es,e.1=u∧f e.2=d+1
 le:∀u,f u≤n+1
theorem jol{n v:Nat}{es:List Ed}(hG:Gr n es)(hv:v<n):FrF n es v (bkF n es v):=by
 have ht:=hG.two
 have hn:∀u,u<(zay n es).length→∀x∈nth (zay n es) u,x<(zay n es).length:=fun u hu x hx=>by rw[ht.pl]at hu ⊢;exact ht.pi u hu x hx
 have hs:v<(zay n es).length:=by rw[ht.pl];exact hv
 have hd:=zg6 hn hs
 have hq:=zn2 hn hs
 have hfar:∀u,u<n→(bkF n es v u≠0↔u∈(zew (zay n es) v).out):=fun u hu=>by
  have:=hd.c.i.far u (by rw[ht.pl];exact hu)
  rw[hq,List.append_nil]at this
  exact this
 have hway:∀u,u∈(zew (zay n es) v).out→∃k,bkF n es v u=k+1∧WayN (zay n es) v u k:=fun u hu=>hd.way u (List.mem_append_left _ hu)
 have hst:∀e∈es,bkF n es v e.2≠0→bkF n es v e.1≠0∧bkF n es v e.1≤bkF n es v e.2+1:=fun e he h0=>by
  have hge:=hG.e e he
  have hm:e.1∈nth (zay n es) e.2:=(zc6 hge.2).2 he
  have ho:=(hfar e.2 hge.2).1 h0
  refine⟨(hfar e.1 hge.1).2 ?_,hd.edge _ ho _ hm⟩
  have:=hd.c.cl _ ho _ hm
  rwa[hq,List.append_nil]at this
 have hz:bkF n es v v=1:=zn3 hs
 refine⟨hz,fun u hu h1=>?_,hst,fun u d hu h2=>?_,fun u=>?_⟩
 ·obtain⟨k,h3,h4⟩:=hway u ((hfar u hu).1 (by omega))
  obtain rfl:k=0:=by omega
  cases h4;rfl
 ·obtain⟨k,h3,h4⟩:=hway u ((hfar u hu).1 (by omega))
  obtain rfl:k=d+1:=by omega
  cases h4 with
  |@go b _ _ hb hc=>
   have hbn:b<n:=by
    have:∀{a k:Nat},WayN (zay n es) v a k→a<n:=fun{a k} hw=>by
     induction hw with
     |here=>exact hv
     |go _ hc ih=>exact ht.pi _ ih _ hc
    exact this hb
   have he:=(zc6 hbn).1 hc
   obtain⟨_,h5⟩:=zjp hd hz hq hb
   have h6:bkF n es v b≠0:=(hfar b hbn).2 (zjp hd hz hq hb).1
   have h7:=(hst _ he h6).2
   have h8:bkF n es v b≤d+1:=h5
   exact⟨(u,b),he,rfl,by show bkF n es v b=d+1;simp only at h7;omega⟩
 ·have:=zti (zay n es) v (zay n es).length u
  rw[show bS (zay n es) v (zay n es).length=zew (zay n es) v from rfl,ht.pl]at this
  exact this
structure BkI (n:Nat) (es:List Ed) (f:Nat→Nat) (F:List Int) (d k:Nat):Prop where
 l:F.length=n
 lo:∀u,u<n→1≤f u→f u≤d+1→nth F u=((f u:Nat):Int) - 1
 hi:∀u,u<n→(f u=0∨d+2<f u)→nth F u= -1
 mi:∀u,u<n→f u=d+2→(nth F u= -1∧∀i,i<k→(nth es i).1=u→f (nth es i).2≠d+1)∨nth F u=((d+1:Nat):Int)
section
variable {n:Nat} {es:List Ed} {f:Nat→Nat} {F:List Int} {v d k:Nat}
theorem js1(hf:FrF n es v f)(hv:v<n)(hl:F.length=n)(h:∀u,u<n→nth F u= -1):BkI n es f (F.set v 0) 0 0:=by
 have hvl:v<F.length:=by omega
 refine⟨by rw[List.length_set];exact hl,fun u hu h1 h2=>?_,fun u hu h1=>?_,fun u hu h1=>.inl ⟨?_,fun i hi=>absurd hi (by omega)⟩⟩
 ·obtain rfl:=hf.one u hu (by omega)
  rw[zaz hvl];omega
 ·rw[zax fun e=>by rw[←e,hf.z]at h1;omega];exact h u hu
 ·rw[zax fun e=>by rw[←e,hf.z]at h1;omega];exact h u hu
theorem jm5(h:BkI n es f F d k){u:Nat}(hu:u<n):nth F u=(d:Int)↔f u=d+1:=by
 rcases Nat.lt_or_ge (d+1) (f u)with hlt|hge
 ·rcases Nat.lt_or_ge (d+2) (f u)with hlt2|hge2
  ·rw[h.hi u hu (.inr hlt2)];omega
  ·rcases h.mi u hu (by omega)with⟨h1,_⟩|h1<;>rw[h1]<;>omega
 ·rcases Nat.eq_zero_or_pos (f u)with h0|hp
  ·rw[h.hi u hu (.inl h0)];omega
  ·rw[h.lo u hu hp hge];omega
theorem js2(hf:FrF n es v f)(hG:Gr n es)(h:BkI n es f F d k)(hk:k<es.length)(h1:nth F (nth es k).2=(d:Int))(h2:nth F (nth es k).1<0):BkI n es f (F.set (nth es k).1 ((d+1:Nat):Int)) d (k+1):=by
 have hge:=hG.e _ (za3 hk)
 have hb:=(jm5 h hge.2).1 h1
 obtain⟨ha0,hale⟩:=hf.st _ (za3 hk) (by omega)
 have ha:f (nth es k).1=d+2:=by
  rcases Nat.lt_or_ge (f (nth es k).1) (d+2)with hlt|hge'
  ·have:=h.lo _ hge.1 (by omega) (by omega)
   omega
  ·omega
 have hal:(nth es k).1<F.length:=by rw[h.l];exact hge.1
 refine⟨by rw[List.length_set];exact h.l,fun u hu h3 h4=>?_,fun u hu h3=>?_,fun u hu h3=>?_⟩
 ·rw[zax fun e=>by rw[←e]at h4;omega];exact h.lo u hu h3 h4
 ·rw[zax fun e=>by rw[←e]at h3;omega];exact h.hi u hu h3
 ·by_cases e:(nth es k).1=u
  ·rw[←e,zaz hal];exact .inr rfl
  ·rw[zax e]
   rcases h.mi u hu h3 with⟨h5,h6⟩|h5
   ·refine .inl ⟨h5,fun i hi he=>?_⟩
    rcases Nat.lt_or_ge i k with hlt|hge'
    ·exact h6 i hlt he
    ·rw[show i=k by omega]at he;exact absurd he e
   ·exact .inr h5
theorem js3(hG:Gr n es)(h:BkI n es f F d k)(hk:k<es.length)(hno:¬(nth F (nth es k).2=(d:Int)∧nth F (nth es k).1<0)):BkI n es f F d (k+1):=by
 have hge:=hG.e _ (za3 hk)
 refine⟨h.l,h.lo,h.hi,fun u hu h3=>?_⟩
 rcases h.mi u hu h3 with⟨h5,h6⟩|h5
 ·refine .inl ⟨h5,fun i hi he hfi=>?_⟩
  rcases Nat.lt_or_ge i k with hlt|hge'
  ·exact h6 i hlt he hfi
  ·obtain rfl:i=k:=by omega
   exact hno ⟨(jm5 h hge.2).2 hfi,by rw[he,h5];omega⟩
 ·exact .inr h5
theorem js4(hf:FrF n es v f)(h:BkI n es f F d es.length):BkI n es f F (d+1) 0:=by
 have hm:∀u,u<n→f u=d+2→nth F u=((d+1:Nat):Int):=fun u hu h3=>by
  rcases h.mi u hu h3 with⟨_,h6⟩|h5
  ·obtain⟨e,he,e1,e2⟩:=hf.pr u d hu h3
   obtain⟨i,hi,rfl⟩:=List.getElem_of_mem he
   rw[←za5 hi]at e1 e2
   exact absurd e2 (h6 i hi e1)
  ·exact h5
 refine⟨h.l,fun u hu h1 h2=>?_,fun u hu h1=>h.hi u hu (by omega),fun u hu h1=>.inl ⟨h.hi u hu (.inr (by omega)),fun i hi=>absurd hi (by omega)⟩⟩
 rcases Nat.lt_or_ge (d+1) (f u)with hlt|hge
 ·rw[hm u hu (by omega),show f u=d+2 by omega];omega
 ·exact h.lo u hu h1 hge
end
def bkL(n:Nat)(es:List Ed)(v:Nat):List Int:=(List.range n).map fun u=>((bkF n es v u:Nat):Int) - 1
theorem zby(n:Nat)(es:List Ed)(v:Nat):(bkL n es v).length=n:=by simp[bkL]
theorem zy1{n:Nat}{es:List Ed}{v u:Nat}(h:u<n):nth (bkL n es v) u=((bkF n es v u:Nat):Int) - 1:=za8 h
theorem jm6{n:Nat}{es:List Ed}{v:Nat}{F:List Int}(hf:FrF n es v (bkF n es v))(h:BkI n es (bkF n es v) F n 0):F=bkL n es v:=by
 refine zff (by rw[h.l,zby]) fun u hu=>?_
 rw[h.l]at hu
 rw[zy1 hu]
 rcases Nat.eq_zero_or_pos (bkF n es v u)with h0|hp
 ·rw[h.hi u hu (.inl h0),h0];rfl
 ·exact h.lo u hu hp (hf.le u)
theorem zsk{l:List Int}{k:Nat}(h:k<l.length):(l.map iD)[k]? =some (iD (nth l k)):=zbk h
theorem jm7(l:List Int)(k:Nat)(x:Int):(l.map iD).set k (iD x)=(l.set k x).map iD:=List.map_set.symm
theorem zy2(l:List Int)(k:Nat)(x:Int):(l.map iD).set k (.val (.int .i64 x))=(l.set k x).map iD:=jm7 l k x
theorem zbc(l:List Int):(l.map iD).length=l.length:=List.length_map _
theorem jm8(n:Nat):(List.replicate n (0:Int)).map iD=List.replicate n (iD 0):=List.map_replicate
theorem zy3{p q:Prop}(hq:q)(h:p=q:=by
 conv=>lhs;simp -dsimp -implicitDefEqProofs (disch:=first|assumption|omega|(simp only[r_z,zbc,zac]<;>omega)|decide) only[r_r,↓reduceIte,Nat.reduceEqDiff,Nat.reduceAdd,D.fix,Int.reduceToNat,Nat.reduceMul,Nat.reduceBNe,Nat.reduceBEq,zag,intsD]):p:=h.mpr hq
theorem zmk{p q:Prop}(hq:q)(h:p=q:=by
 conv=>lhs;simp -dsimp -implicitDefEqProofs (disch:=first|assumption|omega|(simp only[r_z,zbc,zac]<;>omega)|decide) only[r_r,↓reduceIte,Nat.reduceEqDiff,Nat.reduceAdd,D.fix,Int.reduceToNat,Nat.reduceMul,Nat.reduceBNe,Nat.reduceBEq,zag,intsD,jbz]):p:=h.mpr hq
theorem jej{m:List Nat}{τ τ':Fr}{H H':zaa}(h2:H=H')(h:zez τ τ':=by
 repeat (first|exact zal _|refine zaf ?_ (by first|rfl|(simp[r_f,zbc,zac];done)|simp[r_f,zbc,zac, *]))):Rt m τ H τ' H':=Rt.end h h2
theorem jm9{p q:Prop}(hq:q)(h:p=q:=by
 conv=>lhs;simp -dsimp -implicitDefEqProofs (disch:=first|assumption|omega|(simp only[r_z,zbc,zac]<;>omega)|decide) only[r_r,↓reduceIte,Nat.reduceEqDiff,Nat.reduceAdd,D.fix,Int.reduceToNat,Nat.reduceMul,Nat.reduceBNe,Nat.reduceBEq,zag,intsD,zy2,jbz]):p:=h.mpr hq
theorem jna{p q r:Prop}(e:r)(hq:q)(h:r→p=q:=by
 intro hY
 conv=>lhs;simp -dsimp -implicitDefEqProofs (disch:=first|assumption|omega|(simp only[r_z,zbc,zac]<;>omega)|decide) only[r_r,↓reduceIte,Nat.reduceEqDiff,Nat.reduceAdd,D.fix,Int.reduceToNat,Nat.reduceMul,Nat.reduceBNe,Nat.reduceBEq,zag,intsD,jbz,hY]):p:=(h e).mpr hq
theorem jh1{p:Prop}(h:p:=by
 first|rfl|(simp only[r_g,Nat.reduceAdd,↓reduceIte,Nat.reduceEqDiff,zag,intsD];first|done|rfl)):p:=h
theorem jek(n:Nat)(es:List Ed)(h:Gr n es)(v:Nat)(hv:v<n):zas Try.prog 38 [iD (n:Int),zag es,iD (v:Int)] (.d (intsD (bkL n es v))):=by
 have hb:=h.b
 have hel:=h.l
 have hf:=jol h hv
 refine zau (fn:=Try.f38) (by kernel_rfl) Try.func38 rfl (Nat.le_of_ble_eq_true rfl) fun c hc hp=>?_
 refine zaw (τ':=frL [(0,.d (iD (n:Int))),(1,.d (zag es)),(2,.d (iD (v:Int)))]) (by repeat (first|exact zal _|refine zaf ?_ (by first|rfl|(simp[r_f,zbc,zac];done)|simp[r_f,zbc,zac, *]))) ?_
 refine szq hp (fun _ hZ=>zy3 hZ) ?_
 refine szq hp (fun _ hZ=>zmk hZ) ?_
 refine zab fun K3 hK3=>?_
 refine szq hp (fun _ hZ=>zy3 hZ) ?_
 refine zae ?_
 refine zao hp (fun τ' H' mm=>∃(k:Nat) (F:List Int),(k≤n∧F.length=n∧∀u,u<k→nth F u= -1)∧mm=n - k∧H'=[.cells (avs (F.map iD))]∧τ'=frL [(0,.d (iD (n:Int))),(1,.d (zag es)),(2,.d (iD (v:Int))),(7,.os 1 0 0 n),(8,.d (iD (k:Int)))]) (n) ?_ ⟨0,List.replicate n 0,⟨Nat.zero_le _,by simp,fun u hu=>absurd hu (by omega)⟩,rfl,rfl,rfl⟩ ?_
 ·refine jej ?_
  rw[jm8];rfl
 rintro τ' H' mm ⟨k,F,⟨hk,hFl,hF⟩,rfl,rfl,rfl⟩
 refine zab fun K5 hK5=>?_
 refine szq hp (fun _ hZ=>zmk hZ) ?_
 refine zai rfl (fun ht=>?_) (fun ht=>?_)
 ·have hkn:k<n:=by simp at ht;omega
  refine zah (hK5 _ _ ?_)
  refine zab fun K7 hK7=>?_
  refine zae ?_
  refine szs hp (fun _ hZ=>jm9 hZ) (hK7 _ _ ?_)
  refine za6 hp zam hc rfl fun K9 hK9=>?_
  refine zmk ?_
  refine hK9 _ _ ⟨_,_,_,?_,⟨k+1,F.set k (-1),⟨hkn,by simp[hFl],fun u hu=>by(by_cases e:k=u;(subst e;exact zaz (by omega));(rw[zax e];exact hF u (by omega)))⟩,rfl,rfl,rfl⟩,?_⟩
  ·first|omega|(simp only[List.length_cons];omega)|(dsimp only;omega)
  ·refine jej ?_
   exact jh1
 ·have hke:k=n:=by simp at ht;omega
  subst hke
  have hB0:=js1 hf hv hFl hF
  refine zat (hK3 _ _ ?_)
  refine szq hp (fun _ hZ=>jm9 hZ) ?_
  refine zab fun K11 hK11=>?_
  refine szq hp (fun _ hZ=>zy3 hZ) ?_
  refine zae ?_
  refine zao hp (fun τ' H' mm=>∃(d:Nat) (F:List Int),(d≤k∧BkI k es (bkF k es v) F d 0)∧mm=k - d∧H'=[.cells (avs (F.map iD))]∧τ'=frL [(0,.d (iD (k:Int))),(1,.d (zag es)),(7,.os 1 0 0 k),(9,.d (iD (d:Int)))]) (k) ?_ ⟨0,F.set v 0,⟨Nat.zero_le _,hB0⟩,rfl,rfl,rfl⟩ ?_
  ·refine jej ?_
   exact jh1
  rintro τ' H' mm ⟨d,F,⟨hd,hB⟩,rfl,rfl,rfl⟩
  refine zab fun K13 hK13=>?_
  refine szq hp (fun _ hZ=>zmk hZ) ?_
  refine zai rfl (fun ht=>?_) (fun ht=>?_)
  ·have hdk:d<k:=by simp at ht;omega
   refine zah (hK13 _ _ ?_)
   refine zab fun K15 hK15=>?_
   refine zae ?_
   refine szq hp (fun _ hZ=>zy3 hZ) ?_
   refine zae ?_
   refine zao hp (fun τ' H' mm=>∃(j:Nat) (T:List Int),(j≤es.length∧BkI k es (bkF k es v) T d j)∧mm=es.length - j∧H'=[.cells (avs (T.map iD))]∧τ'=frL [(0,.d (iD (k:Int))),(1,.d (zag es)),(7,.os 1 0 0 k),(9,.d (iD (d:Int))),(10,.d (iD (j:Int)))]) (es.length) ?_ ⟨0,F,⟨Nat.zero_le _,hB⟩,rfl,rfl,rfl⟩ ?_
   ·refine jej ?_
    exact jh1
   rintro τ' H' mm ⟨j,T,⟨hj,hT⟩,rfl,rfl,rfl⟩
   refine zab fun K17 hK17=>?_
   refine szq hp (fun _ hZ=>zmk hZ) ?_
   refine zai rfl (fun ht=>?_) (fun ht=>?_)
   ·have hje:j<es.length:=by simp at ht;omega
    have hTl:=hT.l
    have hy:=js2 hf h hT hje
    have hno:=js3 h hT hje
    have hge:=h.e _ (za3 hje)
    obtain⟨a,ha⟩:∃a,a=(nth es j).1:=⟨_,rfl⟩
    obtain⟨b,hb2⟩:∃b,b=(nth es j).2:=⟨_,rfl⟩
    rw[←ha,←hb2]at hge hy hno
    have hg2:(es.flatMap edC)[j*2]? =some (iD (a:Int)):=by rw[ha];exact zj1 hje
    have hg3:(es.flatMap edC)[j*2+1]? =some (iD (b:Int)):=by rw[hb2];exact zj2 hje
    have hg4:(T.map iD)[b]? =some (iD (nth T b)):=zsk (by omega)
    have hg5:(T.map iD)[a]? =some (iD (nth T a)):=zsk (by omega)
    have hd1:((d:Int)+1)=((d+1:Nat):Int):=by omega
    clear ha hb2
    refine zah (hK17 _ _ ?_)
    refine zab fun K19 hK19=>?_
    refine zae ?_
    refine zaj hp zam hc rfl fun K20 hK20=>?_
    by_cases q1:nth T b=(d:Int)
    ·have e1:(nth T b==(d:Int))=true:=by rw[beq_iff_eq];exact q1
     refine jna (sza hg2 (sza hg3 (sza hg4 (sza hg5 e1)))) ?_
     refine hK20 _ _ ?_
     refine zai rfl (fun ht=>?_) (fun ht=>?_)
     ·have hneg:nth T a<0:=by simpa using ht
      refine za6 hp zam hc rfl fun K21 hK21=>?_
      simp -dsimp -implicitDefEqProofs (disch:=first|assumption|omega|(simp only[r_z,zbc,zac]<;>omega)|decide) only[r_r,↓reduceIte,Nat.reduceEqDiff,Nat.reduceAdd,D.fix,Int.reduceToNat,Nat.reduceMul,Nat.reduceBNe,Nat.reduceBEq,zag,intsD,hg2,hd1,zy2,jbz]
      refine hK21 _ _ (hK19 _ _ ?_)
      refine za6 hp zam hc rfl fun K22 hK22=>?_
      refine zmk ?_
      refine hK22 _ _ ⟨_,_,_,?_,⟨j+1,T.set a ((d+1:Nat):Int),⟨hje,hy q1 hneg⟩,rfl,rfl,rfl⟩,?_⟩
      ·first|omega|(simp only[List.length_cons];omega)|(dsimp only;omega)
      ·refine jej ?_
       exact jh1
     ·have hneg:¬nth T a<0:=by simpa using ht
      refine zah (hK19 _ _ ?_)
      refine za6 hp zam hc rfl fun K23 hK23=>?_
      refine zmk ?_
      refine hK23 _ _ ⟨_,_,_,?_,⟨j+1,T,⟨hje,hno fun h=>hneg h.2⟩,rfl,rfl,rfl⟩,?_⟩
      ·first|omega|(simp only[List.length_cons];omega)|(dsimp only;omega)
      ·refine jej ?_
       exact jh1
    ·have e1:(nth T b==(d:Int))=false:=by rw[beq_eq_false_iff_ne];exact q1
     refine jna (sza hg2 (sza hg3 (sza hg4 (sza hg5 e1)))) ?_
     refine hK20 _ _ ?_
     refine szf ?_
     refine zah (hK19 _ _ ?_)
     refine za6 hp zam hc rfl fun K24 hK24=>?_
     refine zmk ?_
     refine hK24 _ _ ⟨_,_,_,?_,⟨j+1,T,⟨hje,hno fun h=>q1 h.1⟩,rfl,rfl,rfl⟩,?_⟩
     ·first|omega|(simp only[List.length_cons];omega)|(dsimp only;omega)
     ·refine jej ?_
      exact jh1
   ·have hje:j=es.length:=by simp at ht;omega
    subst hje
    refine zat (hK15 _ _ ?_)
    refine za6 hp zam hc rfl fun K25 hK25=>?_
    refine zmk ?_
    refine hK25 _ _ ⟨_,_,_,?_,⟨d+1,T,⟨hdk,js4 hf hT⟩,rfl,rfl,rfl⟩,?_⟩
    ·first|omega|(simp only[List.length_cons];omega)|(dsimp only;omega)
    ·refine jej ?_
     exact jh1
  ·have hde:d=k:=by simp at ht;omega
   subst hde
   have hend:=jm6 hf hB
   have hbl:=zby d es v
   have hFl2:=hB.l
   refine zat (hK11 _ _ ?_)
   refine szq hp (fun _ hZ=>zy3 hZ) ?_
   refine zaq ?_
   show closeA _ _=_
   simp (disch:=first|assumption|omega|(simp only[r_z,zbc,zac]<;>omega)|decide) only[r_c,Nat.reduceAdd,D.fix,↓reduceIte,Nat.reduceEqDiff,zag,intsD]
   rw[hend,hbl]
/- The reference's through and zj9: walked. -/
end
section
theorem jnb:(((type_of% @zea)∧((type_of% @zeb)∧(type_of% @zeg)))∧((type_of% @zca)∧((type_of% @zb8)∧(type_of% @zb9)))):=⟨⟨@zea,⟨@zeb,@zeg⟩⟩,⟨@zca,⟨@zb8,@zb9⟩⟩⟩
section
variable {n v:Nat} {es:List Ed}
theorem jnc(hG:Gr n es)(hv:v<n){u k:Nat}(hu:u<n)(h:bkF n es v u=k+1):WayN (zav n es) u v k:=by
 have ht:=hG.two
 have hn:∀u,u<(zay n es).length→∀x∈nth (zay n es) u,x<(zay n es).length:=fun u hu x hx=>by rw[ht.pl]at hu ⊢;exact ht.pi u hu x hx
 have hs:v<(zay n es).length:=by rw[ht.pl];exact hv
 have hd:=zg6 hn hs
 have hm:=(hd.c.i.far u (by rw[ht.pl];exact hu)).1 (by show bkF n es v u≠0;omega)
 obtain⟨d,h1,h2⟩:=hd.way u hm
 have:d=k:=by have:bkF n es v u=d+1:=h1;omega
 rw[←this]
 exact zjs ht h2
theorem jnd(hG:Gr n es)(hv:v<n){u k:Nat}(hu:u<n)(hw:WayN (zav n es) u v k):bkF n es v u≠0∧bkF n es v u≤k+1:=by
 have ht:=hG.two
 have hn:∀u,u<(zay n es).length→∀x∈nth (zay n es) u,x<(zay n es).length:=fun u hu x hx=>by rw[ht.pl]at hu ⊢;exact ht.pi u hu x hx
 have hs:v<(zay n es).length:=by rw[ht.pl];exact hv
 have hd:=zg6 hn hs
 obtain⟨h1,h2⟩:=zjp hd (zn3 hs) (zn2 hn hs) (zjs ht.symm hw)
 exact⟨(hd.c.i.far u (by rw[ht.pl];exact hu)).2 (List.mem_append_left _ h1),h2⟩
end
def thS(f:Nat→Nat)(es:List Ed)(v:Nat):Nat→Nat
 |0=>0
 |k+1=>if(nth es k).1=v∧f (nth es k).2≠0∧(thS f es v k=0∨f (nth es k).2<thS f es v k)then f (nth es k).2 else thS f es v k
theorem jqs(f:Nat→Nat)(es:List Ed)(v:Nat):∀k,(thS f es v k≠0→∃i,i<k∧(nth es i).1=v∧f (nth es i).2=thS f es v k)∧∀i,i<k→(nth es i).1=v→f (nth es i).2≠0→thS f es v k≠0∧thS f es v k≤f (nth es i).2
 |0=>⟨fun h=>absurd rfl h,fun i hi=>absurd hi (Nat.not_lt_zero _)⟩
 |k+1=>by
  obtain⟨h1,h2⟩:=jqs f es v k
  rw[thS]
  split
  ·rename_i h
   refine⟨fun _=>⟨k,Nat.lt_succ_self k,h.1,rfl⟩,fun i hi hv hn=>⟨h.2.1,?_⟩⟩
   by_cases e:i=k
   ·subst e;exact Nat.le_refl _
   ·have:=h2 i (by omega) hv hn
    omega
  ·rename_i h
   refine⟨fun hne=>?_,fun i hi hv hn=>?_⟩
   ·obtain⟨i,hi,h3⟩:=h1 hne
    exact⟨i,by omega,h3⟩
   ·by_cases e:i=k
    ·subst e
     refine Classical.byContradiction fun hh=>h ⟨hv,hn,?_⟩
     omega
    ·exact h2 i (by omega) hv hn
theorem jel{n v:Nat}{es:List Ed}(hG:Gr n es)(hv:v<n):thS (bkF n es v) es v es.length=zdk (zav n es) v:=by
 have hni:∀u,u<(zav n es).length→∀x∈nth (zav n es) u,x<(zav n es).length:=fun u hu x hx=>by
  rw[zbb]at hu ⊢;exact hG.two.ni u hu x hx
 have hvl:v<(zav n es).length:=by rw[zbb];exact hv
 obtain⟨h1,h2⟩:=jqs (bkF n es v) es v es.length
 have ha:thS (bkF n es v) es v es.length≠0→zdk (zav n es) v≠0∧zdk (zav n es) v≤thS (bkF n es v) es v es.length:=fun hne=>by
  obtain⟨i,hi,e1,e2⟩:=h1 hne
  have hge:=hG.e _ (za3 hi)
  obtain⟨k,hk⟩:∃k,thS (bkF n es v) es v es.length=k+1:=⟨thS (bkF n es v) es v es.length - 1,by omega⟩
  have hw:=jnc hG hv hge.2 (e2.trans hk)
  have hm:(nth es i).2∈nth (zav n es) v:=(zcn hv).2 (by rw[←e1];exact za3 hi)
  rw[hk]
  exact zn4 hni hvl (WayN.head hm hw)
 have hb:zdk (zav n es) v≠0→thS (bkF n es v) es v es.length≠0∧thS (bkF n es v) es v es.length≤zdk (zav n es) v:=fun hne=>by
  have hw:=zpj hni hvl hne
  obtain⟨k,hk⟩:∃k,zdk (zav n es) v=k+1:=⟨zdk (zav n es) v - 1,by omega⟩
  rw[hk]at hw
  obtain⟨b,hb,hw2⟩:=WayN.uncons hw
  have he:=(zcn hv).1 hb
  obtain⟨i,hi,e⟩:=List.getElem_of_mem he
  rw[←za5 hi]at e
  have hbn:=(hG.e _ he).2
  obtain⟨h3,h4⟩:=jnd hG hv hbn hw2
  have:=h2 i hi (by rw[e]) (by rw[e];exact h3)
  rw[e]at this
  have h5:thS (bkF n es v) es v es.length≤bkF n es v b:=this.2
  rw[hk]
  exact⟨this.1,by omega⟩
 by_cases h0:thS (bkF n es v) es v es.length=0
 ·by_cases h3:zdk (zav n es) v=0
  ·rw[h0,h3]
  ·exact absurd h0 (hb h3).1
 ·have:=ha h0
  have:=hb this.1
  omega
theorem jb0{p q:Prop}(hq:q)(h:p=q:=by
 conv=>lhs;simp -dsimp -implicitDefEqProofs (disch:=first|assumption|omega|(simp only[r_z,zbc,zac,zby]<;>omega)|decide) only[r_r,↓reduceIte,Nat.reduceEqDiff,Nat.reduceAdd,D.fix,Int.reduceToNat,Nat.reduceMul,Nat.reduceBNe,Nat.reduceBEq,zag,intsD]):p:=h.mpr hq
theorem zy4{p q:Prop}(hq:q)(h:p=q:=by
 conv=>lhs;simp -dsimp -implicitDefEqProofs (disch:=first|assumption|omega|(simp only[r_z,zbc,zac,zby]<;>omega)|decide) only[r_r,↓reduceIte,Nat.reduceEqDiff,Nat.reduceAdd,D.fix,Int.reduceToNat,Nat.reduceMul,Nat.reduceBNe,Nat.reduceBEq,zag,intsD,jnb]):p:=h.mpr hq
theorem jh2{m:List Nat}{τ τ':Fr}{H H':zaa}(h2:H=H')(h:zez τ τ':=by
 repeat (first|exact zal _|refine zaf ?_ (by first|rfl|(simp[r_f,zbc,zac,zby];done)|simp[r_f,zbc,zac,zby, *]))):Rt m τ H τ' H':=Rt.end h h2
theorem ztx{p q r:Prop}(e:r)(hq:q)(h:r→p=q:=by
 intro hY
 conv=>lhs;simp -dsimp -implicitDefEqProofs (disch:=first|assumption|omega|(simp only[r_z,zbc,zac,zby]<;>omega)|decide) only[r_r,↓reduceIte,Nat.reduceEqDiff,Nat.reduceAdd,D.fix,Int.reduceToNat,Nat.reduceMul,Nat.reduceBNe,Nat.reduceBEq,zag,intsD,jnb,hY]):p:=(h e).mpr hq
theorem jh3{p:Prop}(h:p:=by
 first|rfl|(simp only[r_g,Nat.reduceAdd,↓reduceIte,Nat.reduceEqDiff,zag,intsD];first|done|rfl)):p:=h
theorem zy5(n:Nat)(es:List Ed)(h:Gr n es)(v:Nat)(hv:v<n):zas Try.prog 37 [iD (n:Int),zag es,iD (v:Int)] (.d (iD ((zdk (zav n es) v:Nat):Int))):=by
 have hb:=h.b
 have hel:=h.l
 have hf:=jol h hv
 have hfl:=hf.le
 have hgi:=jel h hv
 have hbl:=zby n es v
 refine zau (fn:=Try.f37) (by kernel_rfl) Try.func37 rfl (Nat.le_of_ble_eq_true rfl) fun c hc hp=>?_
 refine zaw (τ':=frL [(0,.d (iD (n:Int))),(1,.d (zag es)),(2,.d (iD (v:Int)))]) (by repeat (first|exact zal _|refine zaf ?_ (by first|rfl|(simp[r_f,zbc,zac,zby];done)|simp[r_f,zbc,zac,zby, *]))) ?_
 refine szq hp (fun _ hZ=>jb0 hZ) ?_
 refine zaj hp zam hc rfl fun K2 hK2=>?_
 refine zy4 ?_
 refine zbd (jek n es h v hv) rfl ?_
 refine zy4 ?_
 refine hK2 _ _ ?_
 refine szq hp (fun _ hZ=>jb0 hZ) ?_
 refine zab fun K4 hK4=>?_
 refine szq hp (fun _ hZ=>jb0 hZ) ?_
 refine zae ?_
 refine zao hp (fun τ' H' mm=>∃(k:Nat),(k≤es.length∧thS (bkF n es v) es v k≤n+1)∧mm=es.length - k∧H'=[]∧τ'=frL [(1,.d (zag es)),(2,.d (iD (v:Int))),(7,.d (intsD (bkL n es v))),(8,.d (iD ((thS (bkF n es v) es v k:Nat):Int))),(9,.d (iD (k:Int)))]) (es.length) ?_ ⟨0,⟨Nat.zero_le _,Nat.zero_le _⟩,rfl,rfl,rfl⟩ ?_
 ·refine jh2 ?_
  exact jh3
 rintro τ' H' mm ⟨k,⟨hk,htn⟩,rfl,rfl,rfl⟩
 refine zab fun K6 hK6=>?_
 refine szq hp (fun _ hZ=>zy4 hZ) ?_
 refine zai rfl (fun ht=>?_) (fun ht=>?_)
 ·have hke:k<es.length:=by simp at ht;omega
  obtain⟨a,ha⟩:∃a,a=(nth es k).1:=⟨_,rfl⟩
  obtain⟨b,hb2⟩:∃b,b=(nth es k).2:=⟨_,rfl⟩
  have hge:=h.e _ (za3 hke)
  rw[←ha,←hb2]at hge
  have hg2:(es.flatMap edC)[k*2]? =some (iD (a:Int)):=by rw[ha];exact zj1 hke
  have hg3:(es.flatMap edC)[k*2+1]? =some (iD (b:Int)):=by rw[hb2];exact zj2 hke
  have hs0:thS (bkF n es v) es v (k+1)=if a=v∧bkF n es v b≠0∧(thS (bkF n es v) es v k=0∨bkF n es v b<thS (bkF n es v) es v k)then bkF n es v b else thS (bkF n es v) es v k:=by rw[thS,ha,hb2]
  have hfb:=hfl b
  have hg4:((bkL n es v).map iD)[b]? =some (iD (((bkF n es v b:Nat):Int) - 1)):=by rw[zsk (by omega),zy1 hge.2]
  clear ha hb2 hfl
  obtain⟨B,hB⟩:∃B,B=bkF n es v b:=⟨_,rfl⟩
  obtain⟨T,hT⟩:∃T,T=thS (bkF n es v) es v k:=⟨_,rfl⟩
  rw[←hB,←hT]at hs0
  rw[←hB]at hg4 hfb
  rw[←hT]at htn
  rw[←hT]
  clear hB hT
  refine zah (hK6 _ _ ?_)
  refine zab fun K8 hK8=>?_
  refine zae ?_
  refine szq hp (fun _ hZ=>ztx (sza hg3 hg4) hZ) ?_
  have h4:a≠v∨(a=v∧B=0)∨(a=v∧B≠0∧T=0)∨(a=v∧B≠0∧T≠0):=by omega
  have hBB:(B:Int) - 1+1=(B:Int):=by omega
  refine zaj hp zam hc rfl fun K10 hK10=>?_
  have hJ10:∀τ' H',(∃τ1 H1,∃(c:Bool),(c=true↔(a=v∧B≠0∧(T=0∨B<T)))∧H1=[]∧τ1=frL [(1,.d (zag es)),(2,.d (iD (v:Int))),(7,.d (intsD (bkL n es v))),(8,.d (iD (T:Int))),(9,.d (iD (k:Int))),(10,.d (iD ((B:Int) - 1))),(49,.d (oD c))]∧Rt [] τ' H' τ1 H1)→K10 τ' H':=by
   rintro τ' H' ⟨_,_,c,hcc,rfl,rfl,hrt⟩
   refine hK10 _ _ (zba hp hrt ?_)
   clear hrt
   refine zai rfl (fun ht=>?_) (fun ht=>?_)
   ·rw[if_pos (hcc.1 ht)]at hs0
    refine szs hp (fun _ hZ=>ztx hBB hZ) (hK8 _ _ ?_)
    refine za6 hp zam hc rfl fun K12 hK12=>?_
    refine zy4 ?_
    refine hK12 _ _ ⟨_,_,_,?_,⟨k+1,⟨hke,by rw[hs0];exact hfb⟩,rfl,rfl,rfl⟩,?_⟩
    ·first|omega|(simp only[List.length_cons];omega)|(dsimp only;omega)
    ·refine jh2 ?_
     exact jh3
   ·rw[if_neg fun hh=>by rw[hcc.2 hh]at ht;cases ht]at hs0
    refine zah (hK8 _ _ ?_)
    refine za6 hp zam hc rfl fun K13 hK13=>?_
    refine zy4 ?_
    refine hK13 _ _ ⟨_,_,_,?_,⟨k+1,⟨hke,by rw[hs0];exact htn⟩,rfl,rfl,rfl⟩,?_⟩
    ·first|omega|(simp only[List.length_cons];omega)|(dsimp only;omega)
    ·refine jh2 ?_
     exact jh3
  rcases h4 with q1|⟨q1,q2⟩|⟨q1,q2,q3⟩|⟨q1,q2,q3⟩
  ·have e1:((a:Int)==(v:Int))=false:=by rw[beq_eq_false_iff_ne];omega
   have e2:=e1
   have e3:=e1
   refine ztx (sza hg2 (sza e1 (sza e2 (sza e3 hBB)))) ?_
   refine(hJ10 _ _ ⟨_,_,false,by simp[q1],rfl,rfl,?_⟩)
   refine jh2 ?_
   exact jh3
  ·have e1:((a:Int)==(v:Int))=true:=by rw[beq_iff_eq];omega
   have e2:decide ((0:Int)≤(B:Int) - 1)=false:=decide_eq_false (by omega)
   have e3:=e1
   refine ztx (sza hg2 (sza e1 (sza e2 (sza e3 hBB)))) ?_
   refine(hJ10 _ _ ⟨_,_,false,by simp[q2],rfl,rfl,?_⟩)
   refine jh2 ?_
   exact jh3
  ·have e1:((a:Int)==(v:Int))=true:=by rw[beq_iff_eq];omega
   have e2:decide ((0:Int)≤(B:Int) - 1)=true:=decide_eq_true (by omega)
   have e3:((T:Int)==0)=true:=by rw[beq_iff_eq];omega
   refine ztx (sza hg2 (sza e1 (sza e2 (sza e3 hBB)))) ?_
   refine(hJ10 _ _ ⟨_,_,true,by simp[q1,q2,q3],rfl,rfl,?_⟩)
   refine jh2 ?_
   exact jh3
  ·have e1:((a:Int)==(v:Int))=true:=by rw[beq_iff_eq];omega
   have e2:decide ((0:Int)≤(B:Int) - 1)=true:=decide_eq_true (by omega)
   have e3:((T:Int)==0)=false:=by rw[beq_eq_false_iff_ne];omega
   refine ztx (sza hg2 (sza e1 (sza e2 (sza e3 hBB)))) ?_
   refine(hJ10 _ _ ⟨_,_,decide ((B:Int)<(T:Int)),by simp[q1,q2,q3],rfl,rfl,?_⟩)
   refine jh2 ?_
   exact jh3
 ·have hke:k=es.length:=by simp at ht;omega
  subst hke
  refine zat (hK4 _ _ ?_)
  refine szq hp (fun _ hZ=>jb0 hZ) ?_
  refine zaq ?_
  show closeA _ _=_
  simp (disch:=first|assumption|omega|(simp only[r_z,zbc,zac,zby]<;>omega)|decide) only[r_c,Nat.reduceAdd,D.fix,↓reduceIte,Nat.reduceEqDiff,zag,intsD]
  rw[hgi]
/- The reference's zj9 and CycleIn: walked. -/
end
theorem jne:(((type_of% @jkg)∧((type_of% @zeg)∧(type_of% @zea)))∧(((type_of% @zeb)∧(type_of% @zca))∧((type_of% @zb9)∧(type_of% @zb8)))):=⟨⟨@jkg,⟨@zeg,@zea⟩⟩,⟨⟨@zeb,@zca⟩,⟨@zb9,@zb8⟩⟩⟩
def LsI(es:List Ed)(F:List Int)(a:Nat)(l:Int)(k:Nat)(p:Int):Prop:=(p= -1∧∀i,i<k→(nth es i).1=a→nth F (nth es i).2≠l)∨∃q:Nat,p=(q:Int)∧q≤1000∧(a,q)∈es∧nth F q=l∧∀i,i<k→(nth es i).1=a→nth F (nth es i).2=l→q≤(nth es i).2
theorem js5{es:List Ed}{F:List Int}{a k:Nat}{l p:Int}(h:LsI es F a l k p)(hk:k<es.length)(h1:(nth es k).1=a)(h2:nth F (nth es k).2=l)(h3:p<0∨((nth es k).2:Int)<p)(hb:(nth es k).2≤1000):LsI es F a l (k+1) (((nth es k).2:Nat):Int):=by
 refine .inr ⟨_,rfl,hb,by rw[←h1];exact za3 hk,h2,fun i hi h4 h5=>?_⟩
 by_cases e:i=k
 ·rw[e];exact Nat.le_refl _
 ·rcases h with⟨_,h6⟩|⟨q,h6,_,_,_,h7⟩
  ·exact absurd h5 (h6 i (by omega) h4)
  ·have:=h7 i (by omega) h4 h5
   omega
theorem js6{es:List Ed}{F:List Int}{a k:Nat}{l p:Int}(h:LsI es F a l k p)(hk:k<es.length)(hno:¬((nth es k).1=a∧nth F (nth es k).2=l∧(p<0∨((nth es k).2:Int)<p))):LsI es F a l (k+1) p:=by
 rcases h with⟨h1,h6⟩|⟨q,h6,hq,h8,h9,h7⟩
 ·refine .inl ⟨h1,fun i hi h4 h5=>?_⟩
  by_cases e:i=k
  ·subst e;exact hno ⟨h4,h5,.inl (by omega)⟩
  ·exact h6 i (by omega) h4 h5
 ·refine .inr ⟨q,h6,hq,h8,h9,fun i hi h4 h5=>?_⟩
  by_cases e:i=k
  ·subst e
   refine Classical.byContradiction fun hh=>hno ⟨h4,h5,.inr (by omega)⟩
  ·exact h7 i (by omega) h4 h5
theorem jb1{p q:Prop}(hq:q)(h:p=q:=by
 conv=>lhs;simp -dsimp -implicitDefEqProofs (disch:=first|assumption|omega|(simp only[r_z,zbc,zac]<;>omega)|decide) only[r_r,↓reduceIte,Nat.reduceEqDiff,Nat.reduceAdd,D.fix,Int.reduceToNat,Nat.reduceMul,Nat.reduceBNe,Nat.reduceBEq,zag,intsD,jne]):p:=h.mpr hq
theorem jb2{p q:Prop}(hq:q)(h:p=q:=by
 conv=>lhs;simp -dsimp -implicitDefEqProofs (disch:=first|assumption|omega|(simp only[r_z,zbc,zac]<;>omega)|decide) only[r_r,↓reduceIte,Nat.reduceEqDiff,Nat.reduceAdd,D.fix,Int.reduceToNat,Nat.reduceMul,Nat.reduceBNe,Nat.reduceBEq,zag,intsD]):p:=h.mpr hq
theorem jh4{m:List Nat}{τ τ':Fr}{H H':zaa}(h2:H=H')(h:zez τ τ':=by
 repeat (first|exact zal _|refine zaf ?_ (by first|rfl|(simp[r_f,zbc,zac];done)|simp[r_f,zbc,zac, *]))):Rt m τ H τ' H':=Rt.end h h2
theorem zy6{p q r:Prop}(e:r)(hq:q)(h:r→p=q:=by
 intro hY
 conv=>lhs;simp -dsimp -implicitDefEqProofs (disch:=first|assumption|omega|(simp only[r_z,zbc,zac]<;>omega)|decide) only[r_r,↓reduceIte,Nat.reduceEqDiff,Nat.reduceAdd,D.fix,Int.reduceToNat,Nat.reduceMul,Nat.reduceBNe,Nat.reduceBEq,zag,intsD,jne,hY]):p:=(h e).mpr hq
theorem jh5{p:Prop}(h:p:=by
 first|rfl|(simp only[r_g,Nat.reduceAdd,↓reduceIte,Nat.reduceEqDiff,zag,intsD];first|done|rfl)):p:=h
theorem jh6(es:List Ed)(F:List Int)(a w:Nat)(l:Int)(hl:es.length≤100000)(he:∀e∈es,e.2<F.length∧e.2≤1000)(hw:(a,w)∈es)(hwl:nth F w=l)(hmin:∀b,(a,b)∈es→nth F b=l→w≤b):zas Try.prog 39 [zag es,intsD F,.agg [iD (a:Int),iD l]] (.d (iD (w:Int))):=by
 refine zau (fn:=Try.f39) (by kernel_rfl) Try.func39 rfl (Nat.le_of_ble_eq_true rfl) fun c hc hp=>?_
 refine zaw (τ':=frL [(0,.d (zag es)),(1,.d (intsD F)),(2,.d (.agg [iD (a:Int),iD l]))]) (by repeat (first|exact zal _|refine zaf ?_ (by first|rfl|(simp[r_f,zbc,zac];done)|simp[r_f,zbc,zac, *]))) ?_
 refine szq hp (fun _ hZ=>jb1 hZ) ?_
 refine szq hp (fun _ hZ=>jb2 hZ) ?_
 refine zab fun K3 hK3=>?_
 refine szq hp (fun _ hZ=>jb2 hZ) ?_
 refine zae ?_
 refine zao hp (fun τ' H' mm=>∃(k:Nat) (p:Int),(k≤es.length∧LsI es F a l k p)∧mm=es.length - k∧H'=[.cells [.d (iD (a:Int)),.d (iD l)]]∧τ'=frL [(0,.d (zag es)),(1,.d (intsD F)),(5,.op 0 0),(7,.d (iD p)),(8,.d (iD (k:Int)))]) (es.length) ?_ ⟨0, -1,⟨Nat.zero_le _,.inl ⟨rfl,fun i hi=>absurd hi (by omega)⟩⟩,rfl,rfl,rfl⟩ ?_
 ·refine jh4 ?_
  exact jh5
 rintro τ' H' mm ⟨k,p,⟨hk,hp0⟩,rfl,rfl,rfl⟩
 refine zab fun K5 hK5=>?_
 refine szq hp (fun _ hZ=>jb1 hZ) ?_
 refine zai rfl (fun ht=>?_) (fun ht=>?_)
 ·have hke:k<es.length:=by simp at ht;omega
  have hly:=js5 hp0 hke
  have hln:=js6 hp0 hke
  obtain⟨x,hx⟩:∃x,x=(nth es k).1:=⟨_,rfl⟩
  obtain⟨b,hb2⟩:∃b,b=(nth es k).2:=⟨_,rfl⟩
  have hge:=he _ (za3 hke)
  rw[←hb2]at hge
  rw[←hx,←hb2]at hly hln
  have hg2:(es.flatMap edC)[k*2]? =some (iD (x:Int)):=by rw[hx];exact zj1 hke
  have hg3:(es.flatMap edC)[k*2+1]? =some (iD (b:Int)):=by rw[hb2];exact zj2 hke
  have hg4:(F.map iD)[b]? =some (iD (nth F b)):=zsk hge.1
  clear hx hb2
  refine zah (hK5 _ _ ?_)
  refine zab fun K7 hK7=>?_
  refine zae ?_
  refine szq hp (fun _ hZ=>zy6 hg3 hZ) ?_
  have h4:x≠a∨(x=a∧nth F b≠l)∨(x=a∧nth F b=l∧p<0)∨(x=a∧nth F b=l∧¬p<0):=by omega
  refine zbj zam hc mixed rfl (q:=0) (by kernel_rfl) (by kernel_rfl) fun K9 hK9=>?_
  have hJ9:∀τ' H',(∃τ1 H1,∃(c:Bool),(c=true↔(x=a∧nth F b=l∧(p<0∨(b:Int)<p)))∧H1=[.cells [.d (iD (a:Int)),.d (iD l)]]∧τ1=frL [(0,.d (zag es)),(1,.d (intsD F)),(5,.op 0 0),(7,.d (iD p)),(8,.d (iD (k:Int))),(9,.d (iD (b:Int))),(46,.d (oD c))]∧Rt [] τ' H' τ1 H1)→K9 τ' H':=by
   rintro τ' H' ⟨_,_,c,hcc,rfl,rfl,hrt⟩
   refine hK9 _ _ (zba hp hrt ?_)
   clear hrt
   refine zai rfl (fun ht=>?_) (fun ht=>?_)
   ·obtain⟨h5,h6,h7⟩:=hcc.1 ht
    refine szs hp (fun _ hZ=>jb2 hZ) (hK7 _ _ ?_)
    refine za6 hp zam hc rfl fun K11 hK11=>?_
    refine jb1 ?_
    refine hK11 _ _ ⟨_,_,_,?_,⟨k+1,(b:Int),⟨hke,hly h5 h6 h7 hge.2⟩,rfl,rfl,rfl⟩,?_⟩
    ·first|omega|(simp only[List.length_cons];omega)|(dsimp only;omega)
    ·refine jh4 ?_
     exact jh5
   ·refine zah (hK7 _ _ ?_)
    refine za6 hp zam hc rfl fun K12 hK12=>?_
    refine jb1 ?_
    refine hK12 _ _ ⟨_,_,_,?_,⟨k+1,p,⟨hke,hln fun hh=>by rw[hcc.2 hh]at ht;cases ht⟩,rfl,rfl,rfl⟩,?_⟩
    ·first|omega|(simp only[List.length_cons];omega)|(dsimp only;omega)
    ·refine jh4 ?_
     exact jh5
  rcases h4 with q1|⟨q1,q2⟩|⟨q1,q2,q3⟩|⟨q1,q2,q3⟩
  ·have e1:((x:Int)==(a:Int))=false:=by rw[beq_eq_false_iff_ne];omega
   have e2:=e1
   have e3:=e1
   refine zy6 (sza hg2 (sza hg4 (sza e1 (sza e2 e3)))) ?_
   refine(hJ9 _ _ ⟨_,_,false,by simp[q1],rfl,rfl,?_⟩)
   refine jh4 ?_
   exact jh5
  ·have e1:((x:Int)==(a:Int))=true:=by rw[beq_iff_eq];omega
   have e2:(nth F b==l)=false:=by rw[beq_eq_false_iff_ne];exact q2
   have e3:=e1
   refine zy6 (sza hg2 (sza hg4 (sza e1 (sza e2 e3)))) ?_
   refine(hJ9 _ _ ⟨_,_,false,by simp[q2],rfl,rfl,?_⟩)
   refine jh4 ?_
   exact jh5
  ·have e1:((x:Int)==(a:Int))=true:=by rw[beq_iff_eq];omega
   have e2:(nth F b==l)=true:=by rw[beq_iff_eq];exact q2
   have e3:decide (p<0)=true:=decide_eq_true q3
   refine zy6 (sza hg2 (sza hg4 (sza e1 (sza e2 e3)))) ?_
   refine(hJ9 _ _ ⟨_,_,true,by simp[q1,q2,q3],rfl,rfl,?_⟩)
   refine jh4 ?_
   exact jh5
  ·have e1:((x:Int)==(a:Int))=true:=by rw[beq_iff_eq];omega
   have e2:(nth F b==l)=true:=by rw[beq_iff_eq];exact q2
   have e3:decide (p<0)=false:=decide_eq_false q3
   refine zy6 (sza hg2 (sza hg4 (sza e1 (sza e2 e3)))) ?_
   refine(hJ9 _ _ ⟨_,_,decide ((b:Int)<p),by simp[q1,q2];omega,rfl,rfl,?_⟩)
   refine jh4 ?_
   exact jh5
 ·have hke:k=es.length:=by simp at ht;omega
  have hpw:p=(w:Int):=by
   obtain⟨i,hi,ei⟩:=List.getElem_of_mem hw
   rw[←za5 hi]at ei
   rcases hp0 with⟨_,h6⟩|⟨q,h6,_,h8,h9,h7⟩
   ·exact absurd (by rw[ei];exact hwl) (h6 i (by omega) (by rw[ei]))
   ·have h1:=hmin q h8 h9
    have h2:=h7 i (by omega) (by rw[ei]) (by rw[ei];exact hwl)
    rw[ei]at h2
    simp only at h2
    omega
  subst hpw
  refine zat (hK3 _ _ ?_)
  refine szq hp (fun _ hZ=>jb2 hZ) ?_
  refine zaq ?_
  show closeA _ _=_
  simp (disch:=first|assumption|omega|(simp only[r_z,zbc,zac]<;>omega)|decide) only[r_c,Nat.reduceAdd,D.fix,↓reduceIte,Nat.reduceEqDiff,zag,intsD]
theorem zty{L:List Nat}{P:Nat→Bool}{w:Nat}(hL:L.Pairwise (·<·))(hf:L.find? P=some w):∀b∈L,P b=true→w≤b:=fun b hb hp=>by
 obtain⟨_,l1,l2,he,ha⟩:=List.find?_eq_some_iff_append.1 hf
 rw[he]at hb hL
 rcases List.mem_append.1 hb with hb|hb
 ·have:=ha b hb
  rw[hp]at this;cases this
 ·rcases List.mem_cons.1 hb with rfl|hb
  ·exact Nat.le_refl _
  ·have:=(List.pairwise_cons.1 (List.pairwise_append.1 hL).2.1).1 b hb
   omega
/- The reference's CycleIn: walked. -/
theorem jnf:((((type_of% @zie)∧((type_of% @znp)∧(type_of% @zkc)))∧(((type_of% @zea)∧(type_of% @zeb))∧((type_of% @zkd)∧(type_of% @zec))))∧(((type_of% @zfh)∧((type_of% @zb8)∧(type_of% @zcl)))∧(((type_of% @jki)∧(type_of% @zwl))∧((type_of% @zwm)∧(type_of% @jkh))))):=⟨⟨⟨@zie,⟨@znp,@zkc⟩⟩,⟨⟨@zea,@zeb⟩,⟨@zkd,@zec⟩⟩⟩,⟨⟨@zfh,⟨@zb8,@zcl⟩⟩,⟨⟨@jki,@zwl⟩,⟨@zwm,@jkh⟩⟩⟩⟩
theorem jng{n v:Nat}{es:List Ed}(hG:Gr n es)(hv:v<n):zdk (zav n es) v≤n+1:=by
 rw[←jel hG hv]
 by_cases h:thS (bkF n es v) es v es.length=0
 ·omega
 ·obtain⟨i,_,_,e⟩:=(jqs (bkF n es v) es v es.length).1 h
  rw[←e];exact(jol hG hv).le _
def ndI(r:Nat × Nat):Int:=if r.1=0 then -1 else(r.2:Int)
theorem jqt(nx:List (List Nat))(k:Nat):bfS nx (k+1)=if zdk nx k≠0∧((bfS nx k).1=0∨zdk nx k<(bfS nx k).1)then(zdk nx k,k)else bfS nx k:=rfl
theorem zhb{p q:Prop}(hq:q)(h:p=q:=by
 conv=>lhs;simp -dsimp -implicitDefEqProofs (disch:=first|assumption|omega|(simp only[r_z,zbc,zac,zby,zad]<;>omega)|decide) only[r_r,↓reduceIte,Nat.reduceEqDiff,Nat.reduceAdd,D.fix,Int.reduceToNat,Nat.reduceMul,Nat.reduceBNe,Nat.reduceBEq,zag,lsD,jnf]):p:=h.mpr hq
theorem zy7{p q:Prop}(hq:q)(h:p=q:=by
 conv=>lhs;simp -dsimp -implicitDefEqProofs (disch:=first|assumption|omega|(simp only[r_z,zbc,zac,zby,zad]<;>omega)|decide) only[r_r,↓reduceIte,Nat.reduceEqDiff,Nat.reduceAdd,D.fix,Int.reduceToNat,Nat.reduceMul,Nat.reduceBNe,Nat.reduceBEq,zag,lsD]):p:=h.mpr hq
theorem jem{m:List Nat}{τ τ':Fr}{H H':zaa}(h2:H=H')(h:zez τ τ':=by
 repeat (first|exact zal _|refine zaf ?_ (by first|rfl|(simp[r_f,zbc,zac,zby,zad];done)|simp[r_f,zbc,zac,zby,zad, *]))):Rt m τ H τ' H':=Rt.end h h2
theorem ztz{p q r:Prop}(e:r)(hq:q)(h:r→p=q:=by
 intro hY
 conv=>lhs;simp -dsimp -implicitDefEqProofs (disch:=first|assumption|omega|(simp only[r_z,zbc,zac,zby,zad]<;>omega)|decide) only[r_r,↓reduceIte,Nat.reduceEqDiff,Nat.reduceAdd,D.fix,Int.reduceToNat,Nat.reduceMul,Nat.reduceBNe,Nat.reduceBEq,zag,lsD,jnf,hY]):p:=(h e).mpr hq
theorem jnh{p q:Prop}(hq:q)(h:p=q:=by
 conv=>lhs;simp -dsimp -implicitDefEqProofs (disch:=first|assumption|omega|(simp only[r_z,zbc,zac,zby,zad]<;>omega)|decide) only[r_r,↓reduceIte,Nat.reduceEqDiff,Nat.reduceAdd,D.fix,Int.reduceToNat,Nat.reduceMul,Nat.reduceBNe,Nat.reduceBEq,zag,lsD,zie,zz9]):p:=h.mpr hq
theorem jh7{p:Prop}(h:p:=by
 first|rfl|(simp only[r_g,Nat.reduceAdd,↓reduceIte,Nat.reduceEqDiff,zag,lsD];first|done|rfl)):p:=h
theorem jr9{p q:Prop}(hq:q)(h:p=q:=by
 conv=>lhs;simp (disch:=first|assumption|omega|(simp only[r_z,zbc,zac,zby,zad]<;>omega)|decide) only[r_c,Nat.reduceAdd,D.fix,↓reduceIte,Nat.reduceEqDiff,zag,lsD]):p:=h.mpr hq
theorem jb3(n:Nat)(es:List Ed)(h:Gr n es):zas Try.prog 18 [iD (n:Int),zag es] (.d (lsD (zh9 n es))):=by
 have hb:=h.b
 have hel:=h.l
 obtain⟨nx,hnx⟩:∃nx,nx=zav n es:=⟨_,rfl⟩
 refine zau (fn:=Try.f18) (by kernel_rfl) Try.func18 rfl (Nat.le_of_ble_eq_true rfl) fun c hc hp=>?_
 refine zaw (τ':=frL [(0,.d (iD (n:Int))),(1,.d (zag es))]) (by repeat (first|exact zal _|refine zaf ?_ (by first|rfl|(simp[r_f,zbc,zac,zby,zad];done)|simp[r_f,zbc,zac,zby,zad, *]))) ?_
 refine szq hp (fun _ hZ=>zhb hZ) ?_
 refine szq hp (fun _ hZ=>zy7 hZ) ?_
 refine szq hp (fun _ hZ=>zy7 hZ) ?_
 refine zab fun K4 hK4=>?_
 refine szq hp (fun _ hZ=>zy7 hZ) ?_
 refine zae ?_
 refine zao hp (fun τ' H' mm=>∃(k:Nat) (m:Nat) (nd:Int),(k≤n∧m=(bfS nx k).1∧nd=ndI (bfS nx k)∧m≤n+1)∧mm=n - k∧H'=[.cells [.d (.val (.slice none 0 0)),.d (iD 0)]]∧τ'=frL [(0,.d (iD (n:Int))),(1,.d (zag es)),(4,.op 0 0),(5,.d (iD (m:Int))),(6,.d (iD nd)),(7,.d (iD (k:Int)))]) (n) ?_ ⟨0,0, -1,⟨Nat.zero_le _,rfl,rfl,Nat.zero_le _⟩,rfl,rfl,rfl⟩ ?_
 ·refine jem ?_
  exact jh7
 rintro τ' H' mm ⟨k,m,nd,⟨hk,hm,hnd,hmn⟩,rfl,rfl,rfl⟩
 refine zab fun K6 hK6=>?_
 refine szq hp (fun _ hZ=>zhb hZ) ?_
 refine zai rfl (fun ht=>?_) (fun ht=>?_)
 ·have hkn:k<n:=by simp at ht;omega
  have hth:=zy5 n es h k hkn
  have hgb:=jng h hkn
  have hbs:=jqt nx k
  rw[←hnx]at hth hgb
  obtain⟨g,hg⟩:∃g,g=zdk nx k:=⟨_,rfl⟩
  rw[←hg]at hth hgb hbs
  rw[←hm]at hbs
  clear hg
  refine zah (hK6 _ _ ?_)
  refine zab fun K8 hK8=>?_
  refine zae ?_
  refine zaj hp zam hc rfl fun K9 hK9=>?_
  refine zhb ?_
  refine zbd (hth) rfl ?_
  refine zhb ?_
  refine hK9 _ _ ?_
  have h3:g=0∨(g≠0∧m=0)∨(g≠0∧m≠0):=by omega
  refine zaj hp zam hc rfl fun K10 hK10=>?_
  have hJ10:∀τ' H',(∃τ1 H1,∃(c:Bool),(c=true↔(g≠0∧(m=0∨g<m)))∧H1=[.cells [.d (.val (.slice none 0 0)),.d (iD 0)]]∧τ1=frL [(0,.d (iD (n:Int))),(1,.d (zag es)),(4,.op 0 0),(5,.d (iD (m:Int))),(6,.d (iD nd)),(7,.d (iD (k:Int))),(8,.d (iD (g:Int))),(31,.d (oD c))]∧Rt [] τ' H' τ1 H1)→K10 τ' H':=by
   rintro τ' H' ⟨_,_,c,hcc,rfl,rfl,hrt⟩
   refine hK10 _ _ (zba hp hrt ?_)
   clear hrt
   refine zai rfl (fun ht=>?_) (fun ht=>?_)
   ·have hcx:=hcc.1 ht
    rw[if_pos hcx]at hbs
    refine szq hp (fun _ hZ=>zy7 hZ) ?_
    refine szs hp (fun _ hZ=>zy7 hZ) (hK8 _ _ ?_)
    refine za6 hp zam hc rfl fun K13 hK13=>?_
    refine zhb ?_
    refine hK13 _ _ ⟨_,_,_,?_,⟨k+1,g,(k:Int),⟨hkn,by rw[hbs],by rw[hbs,ndI,if_neg hcx.1],hgb⟩,rfl,rfl,rfl⟩,?_⟩
    ·first|omega|(simp only[List.length_cons];omega)|(dsimp only;omega)
    ·refine jem ?_
     exact jh7
   ·rw[if_neg fun hh=>by rw[hcc.2 hh]at ht;cases ht]at hbs
    refine zah (hK8 _ _ ?_)
    refine za6 hp zam hc rfl fun K14 hK14=>?_
    refine zhb ?_
    refine hK14 _ _ ⟨_,_,_,?_,⟨k+1,m,nd,⟨hkn,by rw[hbs];exact hm,by rw[hbs];exact hnd,hmn⟩,rfl,rfl,rfl⟩,?_⟩
    ·first|omega|(simp only[List.length_cons];omega)|(dsimp only;omega)
    ·refine jem ?_
     exact jh7
  rcases h3 with q1|⟨q1,q2⟩|⟨q1,q2⟩
  ·have e1:decide ((0:Int)<(g:Int))=false:=decide_eq_false (by omega)
   have e2:=e1
   refine ztz (sza e1 e2) ?_
   refine(hJ10 _ _ ⟨_,_,false,by simp[q1],rfl,rfl,?_⟩)
   refine jem ?_
   exact jh7
  ·have e1:decide ((0:Int)<(g:Int))=true:=decide_eq_true (by omega)
   have e2:((m:Int)==0)=true:=by rw[beq_iff_eq];omega
   refine ztz (sza e1 e2) ?_
   refine(hJ10 _ _ ⟨_,_,true,by simp[q1,q2],rfl,rfl,?_⟩)
   refine jem ?_
   exact jh7
  ·have e1:decide ((0:Int)<(g:Int))=true:=decide_eq_true (by omega)
   have e2:((m:Int)==0)=false:=by rw[beq_eq_false_iff_ne];omega
   refine ztz (sza e1 e2) ?_
   refine(hJ10 _ _ ⟨_,_,decide ((g:Int)<(m:Int)),by simp[q1,q2],rfl,rfl,?_⟩)
   refine jem ?_
   exact jh7
 ·have hke:k=n:=by simp at ht;omega
  subst hke
  refine zat (hK4 _ _ ?_)
  refine zab fun K15 hK15=>?_
  refine szq hp (fun _ hZ=>zhb hZ) ?_
  refine zai rfl (fun ht=>?_) (fun ht=>?_)
  ·have hneg:nd<0:=by simpa using ht
   have h0:(bfS nx k).1=0:=Classical.byContradiction fun hh=>by rw[hnd,ndI,if_neg hh]at hneg;omega
   have hR:zh9 k es=([],4):=by rw[zh9,←hnx,if_pos h0]
   refine szq hp (fun _ hZ=>zhb hZ) ?_
   refine zaq ?_
   try dsimp only[zcq,za7]
   refine zbm rfl ?_
   refine jnh ?_
   show closeA _ _=_
   refine jr9 ?_
   rw[hR];rfl
  ·have hneg:¬nd<0:=by simpa using ht
   have h0:(bfS nx k).1≠0:=fun hh=>by rw[hnd,ndI,if_pos hh]at hneg;omega
   have hF:=jgg h (by rw[←hnx];exact h0)
   have hR:zh9 k es=(zgp (zav k es) (zay k es) (bfS (zav k es) k).2 (bfS (zav k es) k).1 ((bfS (zav k es) k).1 - 1),0):=by rw[zh9,if_neg (by rw[←hnx];exact h0)]
   have hnf:nd=(((bfS nx k).2:Nat):Int):=by rw[hnd,ndI,if_neg h0]
   rw[←hnx]at hF hR
   rw[hm]at hmn
   rw[hm,hnf]
   generalize(bfS nx k).1=b at hF hR h0 hmn
   generalize(bfS nx k).2=f at hF hR
   have hfk:=hF.lt
   have hbk:=jek k es h f hfk
   have hbl:=zby k es f
   have hfz:=(jol h hfk).z
   refine zah (hK15 _ _ ?_)
   refine zaj hp zam hc rfl fun K18 hK18=>?_
   refine zhb ?_
   refine zbd (hbk) rfl ?_
   refine zhb ?_
   refine hK18 _ _ ?_
   refine szq hp (fun _ hZ=>zhb hZ) ?_
   refine zab fun K20 hK20=>?_
   refine szq hp (fun _ hZ=>zhb hZ) ?_
   refine zae ?_
   refine zao hp (fun τ' H' mm=>∃(j:Nat) (O:List Nat),(j<b∧O=zgp nx (zay k es) f b j∧O.length=j+1)∧mm=b - j∧H'=[.cells [.d (.val (.slice none 0 0)),.d (iD 0)],.cells (avs (nsD O))]∧τ'=frL [(1,.d (zag es)),(4,.op 0 0),(9,.d (intsD (bkL k es f))),(10,.os 1 1 0 (j+1)),(11,.d (iD ((b:Int) - 1 - (j:Int))))]) (b) ?_ ⟨0,[f],⟨by omega,rfl,rfl⟩,rfl,rfl,rfl⟩ ?_
   ·refine jem ?_
    exact jh7
   rintro τ' H' mm ⟨j,O,⟨hj,hO,hOl⟩,rfl,rfl,rfl⟩
   refine zab fun K22 hK22=>?_
   refine szq hp (fun _ hZ=>zhb hZ) ?_
   refine zai rfl (fun ht=>?_) (fun ht=>?_)
   ·have hjb:j+1<b:=by simp at ht;omega
    have hci:=zr2 hF j hj
    obtain⟨w,hw1,hw2,hw3,hw4⟩:=zma hF hci hjb
    have hnxt:zgp nx (zay k es) f b (j+1)=O++[w]:=by rw[zgp,hw1,hO];rfl
    rw[←hO]at hw1 hw2
    obtain⟨a,ha⟩:∃a,a=nth O j:=⟨_,rfl⟩
    rw[←ha]at hw1 hw2
    have hak:a<k:=by rw[←zbb k es,←hnx];exact zn5 hw2
    rw[hnx]at hw1 hw2
    have hwe:=(zcn hak).1 hw2
    have hg1:(nsD O)[j]? =some (iD (a:Int)):=by rw[zbf (by omega),ha]
    have hbkw:∀u,u<k→nth (bkL k es f) u=((bkF k es f u:Nat):Int) - 1:=fun u hu=>zy1 hu
    have hlef:∀u,ziq (zay k es) f u=bkF k es f u - 1:=fun u=>rfl
    have hwl:nth (bkL k es f) w=(b:Int) - 1 - (j:Int):=by
     rw[hbkw w (h.e _ hwe).2]
     rw[hlef]at hw3
     omega
    have hmin:∀y,(a,y)∈es→nth (bkL k es f) y=(b:Int) - 1 - (j:Int)→w≤y:=fun y hy hyl=>by
     have hyk:=(h.e _ hy).2
     rw[hbkw y hyk]at hyl
     refine zty (zl5 hak) hw1 y ((zcn hak).2 hy) ?_
     have hyf:y≠f:=fun e=>by rw[e,hfz]at hyl;omega
     rw[ja5,Bool.and_eq_true,bne_iff_ne,beq_iff_eq,hlef,hOl]
     exact⟨hyf,by omega⟩
    have hls:=jh6 es (bkL k es f) a w ((b:Int) - 1 - (j:Int)) hel (fun e he=>by have:=(h.e e he).2;omega) hwe hwl hmin
    have hj1:((j+1:Nat):Int) - 1=(j:Int):=by omega
    have hsb:(b:Int) - 1 - (j:Int) - 1=(b:Int) - 1 - ((j+1:Nat):Int):=by omega
    refine zah (hK22 _ _ ?_)
    refine zab fun K24 hK24=>?_
    refine zae ?_
    refine za6 hp zam hc rfl fun K25 hK25=>?_
    refine ztz (sza hg1 hj1) ?_
    refine zbd (hls) rfl ?_
    refine ztz (sza hg1 hj1) ?_
    refine hK25 _ _ (hK24 _ _ ?_)
    refine za6 hp zam hc rfl fun K26 hK26=>?_
    refine ztz hsb ?_
    refine hK26 _ _ ⟨_,_,_,?_,⟨j+1,O++[w],⟨hjb,hnxt.symm,by simp[hOl]⟩,rfl,rfl,rfl⟩,?_⟩
    ·first|omega|(simp only[List.length_cons];omega)|(dsimp only;omega)
    ·refine Rt.trans (Rt.gc (keep:=[0,3]) (by decide) (by decide) (by simp[fzH,gcH])) ?_
     refine jem ?_
     simp only[r_g,Nat.reduceAdd,↓reduceIte,Nat.reduceEqDiff,zag,lsD];rw[←zf8];rfl
   ·have hje:j=b - 1:=by simp at ht;omega
    rw[←hje,←hO]at hR
    refine zat (hK20 _ _ ?_)
    refine szq hp (fun _ hZ=>zhb hZ) ?_
    refine zaq ?_
    try dsimp only[zcq,za7]
    refine zbm rfl ?_
    refine jnh ?_
    show closeA _ _=_
    refine jr9 ?_
    rw[hR];simp only[hOl,ze2]
end Go.Proofs.Ytfolbdkbpmgjgaa
