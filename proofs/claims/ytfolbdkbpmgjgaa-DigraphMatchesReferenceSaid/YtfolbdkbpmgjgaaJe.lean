/- Components: all visits; the library's SortFunc at few rows. -/
import Derived.Test.YtfolbdkbpmgjgaaQr
import Derived.Test.YtfolbdkbpmgjgaaJc
set_option linter.unusedVariables false
set_option linter.unusedSimpArgs false
set_option maxRecDepth 100000
set_option maxHeartbeats 4000000
namespace Go.Proofs.Ytfolbdkbpmgjgaa
open Go Go.RowKit
theorem jpo:((type_of% @zb8)∧((type_of% @zea)∧(type_of% @zeb))):=⟨@zb8,⟨@zea,@zeb⟩⟩
theorem zx2{n:Nat}{nx pv:List (List Nat)}(hn:n≤1000)(hxl:nx.length=n)(hni:∀u,u<n→∀w∈nth nx u,w<n)(hnr:∀u,u<n→(nth nx u).length≤100000):∀(f w:Nat) (s:Ts),jdz n f w s→ScS Try.prog [0,1,2,3,4,5,6] 46 ([.d (iD (w:Int))]++[.op 0 0,.op 1 0,.op 2 0,.op 3 0,.op 4 0,.d (.fp [zan nx,zan pv] 0),.op 5 0,.op 6 0]) (zjx n nx pv s) (jpm n nx pv (zh7 nx f w s))
 |0,w,s,⟨_,hv,h0,hf⟩=>by
  exfalso
  have:w∈(List.range n).filter fun w=>nth s.num w==0:=List.mem_filter.2 ⟨List.mem_range.2 hv,by simpa using h0⟩
  have:=List.length_pos_of_mem this
  unfold unn at hf
  omega
 |f+1,w,s,hP=>ztn n f w nx pv s hn hxl hni hnr hP (zx2 hn hxl hni hnr f)
def jrv:List Int:=[0,1,2,2,3,3,3,3,4,4,4,4,4]
theorem jl2:∀k:Nat,k≤12→zas Try.prog 60 [.val (.int .u64 (k:Int))] (.d (iD (nth jrv k)))
 |0,_|1,_|2,_|3,_|4,_|5,_|6,_|7,_|8,_|9,_|10,_|11,_|12,_=>zhk (n:=60) mixed zam (by kernel_rfl)
 |k+13,h=>by omega
theorem jpp(a b:List Nat)(ha:0<a.length)(hb:0<b.length)(h1:nth a 0≤1000)(h2:nth b 0≤1000):zas Try.prog 50 [.fs (nsD a) a.length,.fs (nsD b) b.length] (.d (iD (((nth a 0:Nat):Int) - ((nth b 0:Nat):Int)))):=by
 have hg1:=zbf ha
 have hg2:=zbf hb
 refine zau (fn:=Try.f50) (by kernel_rfl) Try.func50 rfl (Nat.le_of_ble_eq_true rfl) fun c hc hp=>?_
 refine zaw (τ':=frL [(0,.d (.fs (nsD a) a.length)),(1,.d (.fs (nsD b) b.length))]) (by repeat (first|exact zal _|refine zaf ?_ (by first|rfl|(simp[r_f,zad];done)|simp[r_f,zad, *]))) ?_
 refine zaj hp zam hc rfl fun K1 hK1=>?_
 simp -dsimp -implicitDefEqProofs (disch:=first|assumption|omega|(simp only[r_z,zad]<;>omega)|decide) only[r_r,↓reduceIte,Nat.reduceEqDiff,Nat.reduceAdd,D.fix,Int.reduceToNat,Nat.reduceMul,Nat.reduceBNe,Nat.reduceBEq]
 refine hK1 _ _ ?_
 refine zbj zam hc mixed rfl (q:=0) (by kernel_rfl) (by kernel_rfl) fun K2 hK2=>?_
 simp -dsimp -implicitDefEqProofs (disch:=first|assumption|omega|(simp only[r_z,zad]<;>omega)|decide) only[r_r,↓reduceIte,Nat.reduceEqDiff,Nat.reduceAdd,D.fix,Int.reduceToNat,Nat.reduceMul,Nat.reduceBNe,Nat.reduceBEq,hg1,hg2,jpo]
 refine hK2 _ _ ?_
 refine zaq ?_
 show closeA _ _=_
 simp (disch:=first|assumption|omega|(simp only[r_z,zad]<;>omega)|decide) only[r_c,Nat.reduceAdd,D.fix,↓reduceIte,Nat.reduceEqDiff]
/- The library's SortFunc at few rows: sorted by the first number. -/
theorem jgz:(((type_of% @jn1)∧(type_of% @zeh))∧((type_of% @zcy)∧((type_of% @zcz)∧(type_of% @jkm)))):=⟨⟨@jn1,@zeh⟩,⟨@zcy,⟨@zcz,@jkm⟩⟩⟩
abbrev Rws:=List (List Nat)
theorem jg0(L:List (List Nat))(k:Nat)(r:List Nat):(fs2 (L.map nsD)).set k (.fs (nsD r) r.length)=fs2 ((L.set k r).map nsD):=by
 unfold fs2;rw[List.map_set,List.map_set,zad]
def SoB(L:List (List Nat))(i:Nat):Prop:=∀p q,p<q→q<i→nth (nth L p) 0≤nth (nth L q) 0
def SoJ(L:List (List Nat))(i j:Nat):Prop:=∀p q,p<q→q≤i→q≠j→nth (nth L p) 0≤nth (nth L q) 0
def swL(L:List (List Nat))(j:Nat):List (List Nat):=(L.set j (nth L (j - 1))).set (j - 1) (nth L j)
theorem jbf{L:List (List Nat)}{j:Nat}(h0:0<j)(hj:j<L.length):(swL L j).Perm L:=by
 unfold swL
 rw[za5 hj,za5 (show j - 1<L.length by omega)]
 exact List.set_set_perm hj (by omega)
theorem jd7{L:List (List Nat)}{j p:Nat}(h0:0<j)(hj:j<L.length):nth (swL L j) p=if p=j then nth L (j - 1)else if p=j - 1 then nth L j else nth L p:=by
 unfold swL
 by_cases e1:p=j
 ·subst e1;rw[if_pos rfl,zax (by omega),zaz hj]
 ·rw[if_neg e1]
  by_cases e2:p=j - 1
  ·subst e2;rw[if_pos rfl,zaz (by rw[List.length_set];omega)]
  ·rw[if_neg e2,zax (fun e=>e2 e.symm),zax (fun e=>e1 e.symm)]
theorem jbg{L:List (List Nat)}{i:Nat}(h:SoB L i):SoJ L i i:=fun p q h1 h2 h3=>h p q h1 (by omega)
theorem jd8{L:List (List Nat)}{i j:Nat}(h:SoJ L i j)(hj:j≤i)(he:j=0∨nth (nth L (j - 1)) 0≤nth (nth L j) 0):SoB L (i+1):=fun p q h1 h2=>by
 by_cases e:q=j
 ·subst e
  rcases he with he|he
  ·omega
  ·by_cases e2:p=q - 1
   ·subst e2;exact he
   ·exact Nat.le_trans (h p (q - 1) (by omega) (by omega) (by omega)) he
 ·exact h p q h1 (by omega) e
theorem jg1{L:List (List Nat)}{i j:Nat}(h:SoJ L i j)(hi:i<L.length)(hj:j≤i)(h0:0<j)(hlt:nth (nth L j) 0<nth (nth L (j - 1)) 0):SoJ (swL L j) i (j - 1):=fun p q h1 h2 h3=>by
 have hjl:j<L.length:=by omega
 rw[jd7 h0 hjl,jd7 h0 hjl]
 by_cases e1:q=j
 ·subst e1
  rw[if_pos rfl,if_neg (by omega:¬p=q)]
  by_cases e2:p=q - 1
  ·rw[if_pos e2];omega
  ·rw[if_neg e2];exact h p (q - 1) (by omega) (by omega) (by omega)
 ·rw[if_neg e1,if_neg h3]
  by_cases e2:p=j
  ·subst e2;rw[if_pos rfl];exact h (p - 1) q (by omega) h2 e1
  ·rw[if_neg e2]
   by_cases e3:p=j - 1
   ·rw[if_pos e3];exact h j q (by omega) h2 e1
   ·rw[if_neg e3];exact h p q h1 h2 e1
def jpq(L0:List (List Nat))(x:AV)(S':zaa):Prop:=∃L,L.Perm L0∧SoB L L.length∧x= .tup []∧S'=[.cells (avs (fs2 (L.map nsD)))]
theorem zhx{p q:Prop}(hq:q)(h:p=q:=by
 conv=>lhs;simp -dsimp -implicitDefEqProofs (disch:=first|assumption|omega|(simp only[r_z,zak]<;>omega)|decide) only[r_r,↓reduceIte,Nat.reduceEqDiff,Nat.reduceAdd,D.fix,Int.reduceToNat,Nat.reduceMul,Nat.reduceBNe,Nat.reduceBEq,jgz]):p:=h.mpr hq
theorem jin{m:List Nat}{τ τ':Fr}{H H':zaa}(h2:H=H')(h:zez τ τ':=by
 repeat (first|exact zal _|refine zaf ?_ (by first|rfl|(simp[r_f,zak];done)|simp[r_f,zak, *]))):Rt m τ H τ' H':=Rt.end h h2
theorem jg2{p q:Prop}(hq:q)(h:p=q:=by
 conv=>lhs;simp -dsimp -implicitDefEqProofs (disch:=first|assumption|omega|(simp only[r_z,zak]<;>omega)|decide) only[r_r,↓reduceIte,Nat.reduceEqDiff,Nat.reduceAdd,D.fix,Int.reduceToNat,Nat.reduceMul,Nat.reduceBNe,Nat.reduceBEq]):p:=h.mpr hq
theorem jg3{p q r:Prop}(e:r)(hq:q)(h:r→p=q:=by
 intro hY
 conv=>lhs;simp -dsimp -implicitDefEqProofs (disch:=first|assumption|omega|(simp only[r_z,zak]<;>omega)|decide) only[r_r,↓reduceIte,Nat.reduceEqDiff,Nat.reduceAdd,D.fix,Int.reduceToNat,Nat.reduceMul,Nat.reduceBNe,Nat.reduceBEq,jgz,hY]):p:=(h e).mpr hq
theorem jbh{p:Prop}(h:p:=by
 first|rfl|(simp only[r_g,Nat.reduceAdd,↓reduceIte,Nat.reduceEqDiff];first|done|rfl)):p:=h
theorem jg4(m:Nat)(L0:List (List Nat))(hm:L0.length=m)(hm1:m≤12)(hne:∀r∈L0,0<r.length∧nth r 0≤1000):ScS Try.prog [0] 77 [.os 1 0 0 m,.d (iD 0),.d (iD (m:Int)),.d (.val (.func (.func 50) #[] #[]))] ([.cells (avs (fs2 (L0.map nsD)))]) (jpq L0):=by
 refine zgf (fn:=Try.f77) (by kernel_rfl) Try.func77 rfl (Nat.le_of_ble_eq_true rfl) fun c hc hp=>?_
 refine jfc ?_
 refine zfw hp ?_
 refine szq hp (fun _ hZ=>zhx hZ) ?_
 refine zae ?_
 refine zao hp (fun τ' H' mm=>∃(i:Nat) (L:Rws),(1≤i∧L.Perm L0∧SoB L i)∧mm=m - i∧H'=[.cells (avs (fs2 (L.map nsD)))]∧τ'=frL [(0,.os 1 0 0 m),(1,.d (iD 0)),(2,.d (iD (m:Int))),(3,.d (.val (.func (.func 50) #[] #[]))),(8,.d (iD (i:Int)))]) (m - 1) ?_ ⟨1,L0,⟨Nat.le_refl _,List.Perm.refl _,fun p q h1 h2=>by omega⟩,rfl,rfl,rfl⟩ ?_
 ·refine jin ?_
  exact jbh
 rintro τ' H' mm ⟨i,L,⟨hi,hL,hS⟩,rfl,rfl,rfl⟩
 refine zab fun K2 hK2=>?_
 refine szq hp (fun _ hZ=>zhx hZ) ?_
 refine zai rfl (fun ht=>?_) (fun ht=>?_)
 ·have him:i<m:=by simp at ht;omega
  refine zah (hK2 _ _ ?_)
  refine zab fun K4 hK4=>?_
  refine zae ?_
  refine szq hp (fun _ hZ=>jg2 hZ) ?_
  refine zae ?_
  refine zao hp (fun τ' H' mm=>∃(j:Nat) (M:Rws),(j≤i∧M.Perm L0∧SoJ M i j)∧mm=2*j∧H'=[.cells (avs (fs2 (M.map nsD)))]∧τ'=frL [(0,.os 1 0 0 m),(1,.d (iD 0)),(2,.d (iD (m:Int))),(3,.d (.val (.func (.func 50) #[] #[]))),(8,.d (iD (i:Int))),(9,.d (iD (j:Int)))]) (2*i) ?_ ⟨i,L,⟨Nat.le_refl _,hL,jbg hS⟩,rfl,rfl,rfl⟩ ?_
  ·refine jin ?_
   exact jbh
  rintro τ' H' mm ⟨j,M,⟨hj,hM,hJ⟩,rfl,rfl,rfl⟩
  refine zab fun K6 hK6=>?_
  have hml:M.length=m:=by rw[hM.length_eq,hm]
  have hg1:=zcm (nx:=M) (v:=j) (by omega)
  have hg2:=zcm (nx:=M) (v:=j - 1) (by omega)
  have hr1:=hne _ (hM.mem_iff.1 (za3 (l:=M) (k:=j) (by omega)))
  have hr2:=hne _ (hM.mem_iff.1 (za3 (l:=M) (k:=j - 1) (by omega)))
  have hcm:=jpp (nth M j) (nth M (j - 1)) hr1.1 hr2.1 hr1.2 hr2.2
  refine zbj zam hc mixed rfl (q:=0) (by kernel_rfl) (by kernel_rfl) fun K7 hK7=>?_
  by_cases q1:0<j
  ·have e1:decide ((0:Int)<(j:Int))=true:=decide_eq_true (by omega)
   have e2:(((j:Nat):Int) - 1)=((j - 1:Nat):Int):=by omega
   refine jg3 (sza e1 (sza e2 (sza hg1 hg2))) ?_
   refine zbd (hcm) rfl ?_
   refine jg3 (sza e1 (sza e2 (sza hg1 hg2))) ?_
   refine hK7 _ _ ?_
   refine zai rfl (fun ht=>?_) (fun ht=>?_)
   ·have hlt:nth (nth M j) 0<nth (nth M (j - 1)) 0:=by simp at ht;omega
    refine zah (hK6 _ _ ?_)
    refine zab fun K8 hK8=>?_
    refine zae ?_
    refine zjf zam hc mixed rfl (q:=0) (by kernel_rfl) (by kernel_rfl) fun K9 hK9=>?_
    simp -dsimp -implicitDefEqProofs (disch:=first|assumption|omega|(simp only[r_z,zak]<;>omega)|decide) only[r_r,↓reduceIte,Nat.reduceEqDiff,Nat.reduceAdd,D.fix,Int.reduceToNat,Nat.reduceMul,Nat.reduceBNe,Nat.reduceBEq,e2,hg1,hg2,jg0,jgz]
    refine hK9 _ _ (hK8 _ _ ?_)
    refine za6 hp zam hc rfl fun K10 hK10=>?_
    refine zhx ?_
    refine hK10 _ _ ⟨_,_,_,?_,⟨j - 1,swL M j,⟨by omega,(jbf q1 (by omega)).trans hM,jg1 hJ (by omega) hj q1 hlt⟩,rfl,rfl,rfl⟩,?_⟩
    ·first|omega|(simp only[List.length_cons];omega)|(dsimp only;omega)
    ·refine jin ?_
     exact jbh
   ·have hge:nth (nth M (j - 1)) 0≤nth (nth M j) 0:=by simp at ht;omega
    refine zat (hK4 _ _ ?_)
    refine za6 hp zam hc rfl fun K11 hK11=>?_
    refine zhx ?_
    refine hK11 _ _ ⟨_,_,_,?_,⟨i+1,M,⟨by omega,hM,jd8 hJ hj (.inr hge)⟩,rfl,rfl,rfl⟩,?_⟩
    ·first|omega|(simp only[List.length_cons];omega)|(dsimp only;omega)
    ·refine jin ?_
     exact jbh
  ·have e1:decide ((0:Int)<(j:Int))=false:=decide_eq_false (by omega)
   have e2:=q1
   refine jg3 (sza e1 (sza e2 (sza hg1 hg2))) ?_
   refine hK7 _ _ ?_
   refine szf ?_
   skip
   refine zat (hK4 _ _ ?_)
   refine za6 hp zam hc rfl fun K12 hK12=>?_
   refine zhx ?_
   refine hK12 _ _ ⟨_,_,_,?_,⟨i+1,M,⟨by omega,hM,jd8 hJ hj (.inl (by omega))⟩,rfl,rfl,rfl⟩,?_⟩
   ·first|omega|(simp only[List.length_cons];omega)|(dsimp only;omega)
   ·refine jin ?_
    exact jbh
 ·have him:m≤i:=by simp at ht;omega
  have hml:L.length=m:=by rw[hL.length_eq,hm]
  refine zat ?_
  try dsimp only[zcq,za7]
  refine⟨frL [],[.cells (avs (fs2 (L.map nsD)))],?_,?_⟩
  ·refine Rt.end (zal _) ?_
   exact jbh
  first|refine zd3 rfl ?_|refine zdc rfl ?_
  show ∃_,_
  exact⟨L,hL,fun p q h1 h2=>hS p q h1 (by omega),rfl,rfl⟩
theorem jrw{P:Program}{sm:List Nat}{N:Nat}{τ:Fr}{H:zaa}{f:FuncId}{args:List AV}{K0 KK:AV→zaa→Prop}{ks:List Nat}(S T:zaa)(h:ScS P ks f args S K0)(hK:∀x S',K0 x S'→S'.length=S.length∧KK x (S'++T))(hH:H=S++T:=by
 rfl) (hm:sm.all (okI ks S.length)=true:=by
 first|rfl|(simp[AV.allIs,AV.allI,za9,za0,za1,okI,ltI,zar,zbq];done)|(intro o ho;simp at ho;done)) (hτ:∀t,(τ t).allI (okI ks S.length)=true:=by
 exact fun t=>zdm (by first|rfl|(simp[AV.allIs,AV.allI,za9,za0,za1,okI,ltI,zar,zbq];done)|(intro o ho;simp at ho;done)) t) (ha:AV.allIs (ltI S.length) args=true:=by
 first|rfl|(simp[AV.allIs,AV.allI,za9,za0,za1,okI,ltI,zar,zbq];done)|(intro o ho;simp at ho;done)) (hS:∀o∈S,o.allI (ltI S.length)=true:=by
 first|rfl|(simp[AV.allIs,AV.allI,za9,za0,za1,okI,ltI,zar,zbq];done)|(intro o ho;simp at ho;done)) (hT:∀o∈T,o.allI (okI ks S.length)=true:=by
 first|rfl|(simp[AV.allIs,AV.allI,za9,za0,za1,okI,ltI,zar,zbq];done)|(intro o ho;simp at ho;done)):kC P sm N H τ (.d (.val (.func (.func f) #[] #[]))) args true (tg KK):=je6 h hH hm hτ ha hS hT hK
theorem jpr(m:Nat)(lim:Int)(L0:List (List Nat))(hm:L0.length=m)(hm1:m≤12)(hne:∀r∈L0,0<r.length∧nth r 0≤1000):ScS Try.prog [0] 61 [.os 1 0 0 m,.d (iD 0),.d (iD (m:Int)),.d (iD lim),.d (.val (.func (.func 50) #[] #[]))] ([.cells (avs (fs2 (L0.map nsD)))]) (jpq L0):=by
 refine zgf (fn:=Try.f61) (by kernel_rfl) Try.func61 rfl (Nat.le_of_ble_eq_true rfl) fun c hc hp=>?_
 refine jfd ?_
 refine zfw hp ?_
 refine szq hp (fun _ hZ=>jg2 hZ) ?_
 refine szq hp (fun _ hZ=>jg2 hZ) ?_
 refine zae ?_
 refine zao hp (fun τ' H' mm=>∃(k:Nat),(k=0)∧mm=2*k∧H'=[.cells (avs (fs2 (L0.map nsD)))]∧τ'=frL [(0,.os 1 0 0 m),(1,.d (iD 0)),(2,.d (iD (m:Int))),(3,.d (iD lim)),(4,.d (.val (.func (.func 50) #[] #[])))]) (0) ?_ ⟨0,rfl,rfl,rfl,rfl⟩ ?_
 ·refine jin ?_
  exact jbh
 rintro τ' H' mm ⟨k,hk,rfl,rfl,rfl⟩
 refine zae ?_
 refine szq hp (fun _ hZ=>zhx hZ) ?_
 refine zab fun K4 hK4=>?_
 refine szq hp (fun _ hZ=>zhx hZ) ?_
 refine zai rfl (fun ht=>?_) (fun ht=>?_)
 ·skip
  refine zaj hp zam hc rfl fun K6 hK6=>?_
  refine zhx ?_
  refine jrw ([.cells (avs (fs2 (L0.map nsD)))]) ([]) (jg4 m L0 hm hm1 hne) ?_
  rintro _ _ ⟨L,h1,h2,rfl,rfl⟩
  refine⟨rfl,?_⟩
  refine zhx ?_
  refine hK6 _ _ ?_
  refine zaq ?_
  try dsimp only[zcq,za7]
  refine⟨frL [],[.cells (avs (fs2 (L.map nsD)))],?_,?_⟩
  ·refine Rt.end (zal _) ?_
   exact jbh
  first|refine zd3 rfl ?_|refine zdc rfl ?_
  show ∃_,_
  exact⟨L,h1,h2,rfl,rfl⟩
 ·simp at ht
  omega
theorem jg5(m:Nat)(L0:List (List Nat))(hm:L0.length=m)(hm1:m≤12)(hne:∀r∈L0,0<r.length∧nth r 0≤1000):ScS Try.prog [0] 49 [.os 1 0 0 m,.d (.val (.func (.func 50) #[] #[]))] ([.cells (avs (fs2 (L0.map nsD)))]) (jpq L0):=by
 refine zgf (fn:=Try.f49) (by kernel_rfl) Try.func49 rfl (Nat.le_of_ble_eq_true rfl) fun c hc hp=>?_
 refine jfa ?_
 refine zfw hp ?_
 refine szq hp (fun _ hZ=>zhx hZ) ?_
 refine za6 hp zam hc rfl fun K2 hK2=>?_
 refine zhx ?_
 refine zbd (jl2 m hm1) rfl ?_
 refine zhx ?_
 refine jrw ([.cells (avs (fs2 (L0.map nsD)))]) ([]) (jpr m (nth jrv m) L0 hm hm1 hne) ?_
 rintro _ _ ⟨L,h1,h2,rfl,rfl⟩
 refine⟨rfl,?_⟩
 refine zhx ?_
 refine hK2 _ _ ?_
 try dsimp only[zcq,za7]
 refine⟨frL [],[.cells (avs (fs2 (L.map nsD)))],?_,?_⟩
 ·refine Rt.end (zal _) ?_
  exact jbh
 first|refine zd3 rfl ?_|refine zdc rfl ?_
 show ∃_,_
 exact⟨L,h1,h2,rfl,rfl⟩
end Go.Proofs.Ytfolbdkbpmgjgaa
