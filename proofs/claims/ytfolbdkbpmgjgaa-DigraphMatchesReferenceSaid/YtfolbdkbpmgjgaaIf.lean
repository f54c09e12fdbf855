/- The reference's Components: walked. -/
import Derived.Test.YtfolbdkbpmgjgaaIc
import Derived.Test.YtfolbdkbpmgjgaaJr
import Derived.Test.YtfolbdkbpmgjgaaQr
set_option linter.unusedVariables false
set_option linter.unusedSimpArgs false
namespace Go.Proofs.Ytfolbdkbpmgjgaa
open Go Go.RowKit
section
def ldB(M:Nat→Nat→Bool)(u:Nat):Bool:=(List.range u).all fun y=> !M y u
def jb4(n:Nat)(M:Nat→Nat→Bool)(u:Nat):List Nat:=(List.range n).filter (M u)
def zy8(n:Nat)(M:Nat→Nat→Bool)(v:Nat):List (List Nat):=((List.range v).filter (ldB M)).map (jb4 n M)
theorem ld_iff{M:Nat→Nat→Bool}{u:Nat}:ldB M u=true↔∀y,y<u→M y u=false:=by
 unfold ldB
 rw[List.all_eq_true]
 exact⟨fun h y hy=>by simpa using h y (List.mem_range.2 hy),fun h y hy=>by rw[h y (List.mem_range.1 hy)];rfl⟩
structure EqR (n:Nat) (M:Nat→Nat→Bool):Prop where
 r:∀x,x<n→M x x=true
 s:∀x y,x<n→y<n→M x y=true→M y x=true
 t:∀x y z,x<n→y<n→z<n→M x y=true→M y z=true→M x z=true
section
variable {n:Nat} {M:Nat→Nat→Bool}
theorem jnk(h:EqR n M):∀x,x<n→∃u,u≤x∧ldB M u=true∧M u x=true:=fun x=>by
 induction x using Nat.strongRecOn with
 |ind x ih=>
  intro hx
  by_cases hl:ldB M x=true
  ·exact⟨x,Nat.le_refl _,hl,h.r x hx⟩
  ·obtain⟨y,hy,hm⟩:∃y,y<x∧M y x=true:=Classical.byContradiction fun hno=>hl (ld_iff.2 fun y hy=>by
    cases hm:M y x with
    |false=>rfl
    |true=>exact absurd ⟨y,hy,hm⟩ hno)
   obtain⟨u,h1,h2,h3⟩:=ih y hy (by omega)
   exact⟨u,by omega,h2,h.t u y x (by omega) (by omega) hx h3 hm⟩
theorem cls_mem{u x:Nat}:x∈jb4 n M u↔x<n∧M u x=true:=by unfold jb4;rw[List.mem_filter,List.mem_range]
theorem com_mem{v:Nat}{r:List Nat}:r∈zy8 n M v↔∃u,u<v∧ldB M u=true∧r=jb4 n M u:=by
 unfold zy8
 rw[List.mem_map]
 constructor
 ·rintro⟨u,hu,rfl⟩
  rw[List.mem_filter,List.mem_range]at hu
  exact⟨u,hu.1,hu.2,rfl⟩
 ·rintro⟨u,h1,h2,rfl⟩
  exact⟨u,List.mem_filter.2 ⟨List.mem_range.2 h1,h2⟩,rfl⟩
theorem jqu(h:EqR n M){u v x:Nat}(hu:u<n)(hv:v<n)(hx:x<n)(hlu:ldB M u=true)(hlv:ldB M v=true)(h1:M u x=true)(h2:M v x=true):u=v:=by
 have h3:=h.t u x v hu hx hv h1 (h.s v x hv hx h2)
 have h4:=h.s u v hu hv h3
 rcases Nat.lt_trichotomy u v with hl|hl|hl
 ·rw[ld_iff.1 hlv u hl]at h3;cases h3
 ·exact hl
 ·rw[ld_iff.1 hlu v hl]at h4;cases h4
theorem jnl(h:EqR n M){u:Nat}(hu:u<n)(hl:ldB M u=true):nth (jb4 n M u) 0=u:=by
 obtain⟨l,e⟩:=zoh (f:=M u) hu (h.r u hu) fun y hy=>by
  cases hm:M u y with
  |false=>rfl
  |true=>
   have:=h.s u y hu (by omega) hm
   rw[ld_iff.1 hl y hy]at this;cases this
 rw[jb4,e];rfl
theorem jen(v:Nat):((List.range v).filter (ldB M)).Pairwise (·<·):=List.Pairwise.filter _ List.pairwise_lt_range
theorem jqv{nx:List (List Nat)}(h:EqR n M)(hM:∀x y,x<n→y<n→(M x y=true↔RT nx x y∧RT nx y x))(hlt:∀x y,x<n→RT nx x y→y<n):CmpI n nx (zy8 n M n):=by
 refine⟨fun r hr e=>?_,?_,fun w=>⟨fun hw=>?_,fun hw=>?_⟩,fun r hr x hx y=>?_,fun r hr=>?_,?_⟩
 ·obtain⟨u,hu,_,rfl⟩:=com_mem.1 hr
  have:u∈jb4 n M u:=cls_mem.2 ⟨hu,h.r u hu⟩
  rw[e]at this;cases this
 ·refine List.pairwise_flatten.2 ⟨fun r hr=>?_,?_⟩
  ·obtain⟨u,hu,_,rfl⟩:=com_mem.1 hr
   exact(List.Pairwise.filter _ List.pairwise_lt_range).imp fun h=>Nat.ne_of_lt h
  ·unfold zy8
   rw[List.pairwise_map]
   refine List.Pairwise.imp_of_mem (fun{a b} ha hb hab=>?_) (jen n)
   rw[List.mem_filter,List.mem_range]at ha hb
   intro x hx y hy e
   subst e
   obtain⟨hxn,h1⟩:=cls_mem.1 hx
   have:=jqu h ha.1 hb.1 hxn ha.2 hb.2 h1 (cls_mem.1 hy).2
   omega
 ·obtain⟨r,hr,hwr⟩:=List.mem_flatten.1 hw
  obtain⟨u,hu,_,rfl⟩:=com_mem.1 hr
  exact(cls_mem.1 hwr).1
 ·obtain⟨u,h1,h2,h3⟩:=jnk h w hw
  exact List.mem_flatten.2 ⟨_,com_mem.2 ⟨u,by omega,h2,rfl⟩,cls_mem.2 ⟨hw,h3⟩⟩
 ·obtain⟨u,hu,_,rfl⟩:=com_mem.1 hr
  obtain⟨hxn,hux⟩:=cls_mem.1 hx
  rw[cls_mem]
  constructor
  ·rintro⟨hy,huy⟩
   exact(hM x y hxn hy).1 (h.t x u y hxn hu hy (h.s u x hu hxn hux) huy)
  ·intro hh
   have hy:=hlt x y hxn hh.1
   exact⟨hy,h.t u x y hu hxn hy hux ((hM x y hxn hy).2 hh)⟩
 ·obtain⟨u,hu,_,rfl⟩:=com_mem.1 hr
  exact List.Pairwise.filter _ List.pairwise_lt_range
 ·unfold zy8
  rw[List.pairwise_map]
  refine List.Pairwise.imp_of_mem (fun{a b} ha hb hab=>?_) (jen n)
  rw[List.mem_filter,List.mem_range]at ha hb
  rw[jnl h ha.1 ha.2,jnl h hb.1 hb.2]
  exact hab
theorem jqw(v:Nat):zy8 n M (v+1)=if ldB M v=true then zy8 n M v++[jb4 n M v]else zy8 n M v:=by
 unfold zy8
 rw[zp2]
 split
 ·rw[List.map_append];rfl
 ·rfl
def DnI(n:Nat)(M:Nat→Nat→Bool)(B:List Bool)(v w:Nat):Prop:=B.length=n∧∀x,x<n→(nth B x=true↔((∃u,u<v∧M u x=true)∨(M v x=true∧x<w)))
theorem js8:DnI n M (List.replicate n false) 0 0:=⟨by simp,fun x hx=>by
 rw[zhy hx]
 constructor
 ·intro h;cases h
 ·rintro(⟨u,hu,_⟩|⟨_,hx⟩)<;>omega⟩
theorem jqx{v:Nat}{B:List Bool}(hv:v<n)(h:DnI n M B v 0):nth B v= !ldB M v:=by
 rw[Bool.eq_iff_iff,h.2 v hv,Bool.not_eq_true',←Bool.not_eq_true,ld_iff]
 constructor
 ·rintro(⟨u,hu,hm⟩|⟨_,hx⟩)
  ·intro hh;rw[hh u hu]at hm;cases hm
  ·omega
 ·intro hno
  refine .inl (Classical.byContradiction fun hh=>hno fun y hy=>?_)
  cases hm:M y v with
  |false=>rfl
  |true=>exact absurd ⟨y,hy,hm⟩ hh
theorem jh8{v:Nat}{B:List Bool}(hE:EqR n M)(hv:v<n)(h:DnI n M B v 0)(hl:ldB M v=false):DnI n M B (v+1) 0:=⟨h.1,fun x hx=>by
 rw[h.2 x hx]
 constructor
 ·rintro(⟨u,hu,hm⟩|⟨_,hx⟩)
  ·exact .inl ⟨u,by omega,hm⟩
  ·omega
 ·rintro(⟨u,hu,hm⟩|⟨_,hx⟩)
  ·rcases Nat.lt_or_ge u v with hlt|hge
   ·exact .inl ⟨u,hlt,hm⟩
   ·obtain rfl:u=v:=by omega
    obtain⟨y,h1,h2,h3⟩:=jnk hE u hv
    have:y≠u:=fun e=>by rw[e,hl]at h2;cases h2
    exact .inl ⟨y,by omega,hE.t y u x (by omega) hv hx h3 hm⟩
  ·omega⟩
theorem jqy{v:Nat}{B:List Bool}(hE:EqR n M)(hv:v<n)(h:DnI n M B v 0)(hl:ldB M v=true):DnI n M B v v:=⟨h.1,fun x hx=>by
 rw[h.2 x hx]
 refine or_congr Iff.rfl ⟨fun⟨_,hx⟩=>by omega,fun⟨hm,hxv⟩=>?_⟩
 have:=hE.s v x hv hx hm
 rw[ld_iff.1 hl x hxv]at this
 cases this⟩
theorem js9{v w:Nat}{B:List Bool}(hw:w<n)(h:DnI n M B v w)(hm:M v w=true):DnI n M (B.set w true) v (w+1):=⟨by rw[List.length_set];exact h.1,fun x hx=>by
 rw[zgo (by rw[h.1];exact hw),h.2 x hx]
 constructor
 ·rintro(rfl|h|⟨h1,h2⟩)
  ·exact .inr ⟨hm,by omega⟩
  ·exact .inl h
  ·exact .inr ⟨h1,by omega⟩
 ·rintro(h|⟨h1,h2⟩)
  ·exact .inr (.inl h)
  ·rcases Nat.lt_or_ge x w with hlt|hge
   ·exact .inr (.inr ⟨h1,hlt⟩)
   ·exact .inl (by omega)⟩
theorem jta{v w:Nat}{B:List Bool}(h:DnI n M B v w)(hm:M v w=false):DnI n M B v (w+1):=⟨h.1,fun x hx=>by
 rw[h.2 x hx]
 refine or_congr Iff.rfl ⟨fun⟨h1,h2⟩=>⟨h1,by omega⟩,fun⟨h1,h2⟩=>⟨h1,?_⟩⟩
 have:x≠w:=fun e=>by rw[e,hm]at h1;cases h1
 omega⟩
theorem jnm{v:Nat}{B:List Bool}(h:DnI n M B v n):DnI n M B (v+1) 0:=⟨h.1,fun x hx=>by
 rw[h.2 x hx]
 constructor
 ·rintro(⟨u,hu,hm⟩|⟨hm,_⟩)
  ·exact .inl ⟨u,by omega,hm⟩
  ·exact .inl ⟨v,by omega,hm⟩
 ·rintro(⟨u,hu,hm⟩|⟨_,hx⟩)
  ·rcases Nat.lt_or_ge u v with hlt|hge
   ·exact .inl ⟨u,hlt,hm⟩
   ·rw[show u=v by omega]at hm
    exact .inr ⟨hm,hx⟩
  ·omega⟩
theorem jqz{v:Nat}(hE:EqR n M)(hv:v<n)(hl:ldB M v=true):(List.range v).filter (M v)=[]:=List.filter_eq_nil_iff.2 fun x hx hm=>by
 have hx:=List.mem_range.1 hx
 have:=hE.s v x hv (by omega) hm
 rw[ld_iff.1 hl x hx]at this
 cases this
end
/- The reference's Components: walked. -/
set_option maxRecDepth 100000
set_option maxHeartbeats 4000000
end
theorem jh9:((((type_of% @zeh)∧(type_of% @znq))∧((type_of% @znr)∧(type_of% @zns)))∧(((type_of% @jdi)∧(type_of% @jdj))∧((type_of% @zcy)∧((type_of% @zcz)∧(type_of% @zcl))))):=⟨⟨⟨@zeh,@znq⟩,⟨@znr,@zns⟩⟩,⟨⟨@jdi,@jdj⟩,⟨@zcy,⟨@zcz,@zcl⟩⟩⟩⟩
abbrev jtb:=List (List Nat)
def muB(R:List (List Nat))(v w:Nat):Bool:=(nth R v).contains w&&(nth R w).contains v
def rcA(n:Nat)(es:List Ed)(k:Nat):List (List Nat):=(List.range k).map (zf9 n (zav n es))
theorem zee(n:Nat)(es:List Ed)(k:Nat):(rcA n es k).length=k:=by simp[rcA]
theorem zy9{n:Nat}{es:List Ed}{k v:Nat}(h:v<k):nth (rcA n es k) v=zf9 n (zav n es) v:=za8 h
theorem jq0(n:Nat)(es:List Ed)(k:Nat):rcA n es (k+1)=rcA n es k++[zf9 n (zav n es) k]:=by
 unfold rcA;rw[List.range_succ,List.map_append];rfl
theorem zj5{n:Nat}{es:List Ed}(hG:Gr n es){x y:Nat}(hx:x<n)(hy:y<n):muB (rcA n es n) x y=true↔RT (zav n es) x y∧RT (zav n es) y x:=by
 rw[muB,Bool.and_eq_true,List.contains_iff_mem,List.contains_iff_mem,zy9 hx,zy9 hy,zk5 hG hx,zk5 hG hy]
theorem jnn{n:Nat}{es:List Ed}(hG:Gr n es):EqR n (muB (rcA n es n)):=
 ⟨fun x hx=>(zj5 hG hx hx).2 ⟨.here,.here⟩,fun x y hx hy h=>(zj5 hG hy hx).2 ((zj5 hG hx hy).1 h).symm,fun x y z hx hy hz h1 h2=>by
  have k1:=(zj5 hG hx hy).1 h1
  have k2:=(zj5 hG hy hz).1 h2
  exact(zj5 hG hx hz).2 ⟨k1.1.trans k2.1,k2.2.trans k1.2⟩⟩
theorem jia{n:Nat}{es:List Ed}(hG:Gr n es):zy8 n (muB (rcA n es n)) n=jio n es:=
 zsb (jqv (jnn hG) (fun x y hx hy=>zj5 hG hx hy) fun x y hx hr=>jnj hG hx hr) (zyp hG) fun _ _ _ _=>Iff.rfl
theorem jib{n st:Nat}{es:List Ed}(h:Gr n es)(hs:st<n):zas Try.prog 25 [iD (n:Int),zag es,iD (st:Int)] (.d (.fs (nsD (zf9 n (zav n es) st)) (zf9 n (zav n es) st).length)):=by
 have:=zsi n es h (st:Int)
 rwa[zmj h hs,zk4]at this
theorem jsa(F:List Nat)(v:Nat)(hl:F.length≤1000000):zas Try.prog 31 [.fs (nsD F) F.length,iD (v:Int)] (.d (oD (F.contains v))):=by
 have:=jsn (zl F) (v:Int) (by rw[zbe];exact hl)
 rw[zk4]at this
 have e:decide ((v:Int)∈zl F)=F.contains v:=by rw[Bool.eq_iff_iff,decide_eq_true_eq,List.contains_iff_mem,jd2]
 rwa[e]at this
theorem zza{p q:Prop}(hq:q)(h:p=q:=by
 conv=>lhs;simp -dsimp -implicitDefEqProofs (disch:=first|assumption|omega|(simp only[r_z,zad,zac,zbg,zak,zee]<;>omega)|decide) only[r_r,↓reduceIte,Nat.reduceEqDiff,Nat.reduceAdd,D.fix,Int.reduceToNat,Nat.reduceMul,Nat.reduceBNe,Nat.reduceBEq,zag,zan]):p:=h.mpr hq
theorem zf1{p q:Prop}(hq:q)(h:p=q:=by
 conv=>lhs;simp -dsimp -implicitDefEqProofs (disch:=first|assumption|omega|(simp only[r_z,zad,zac,zbg,zak,zee]<;>omega)|decide) only[r_r,↓reduceIte,Nat.reduceEqDiff,Nat.reduceAdd,D.fix,Int.reduceToNat,Nat.reduceMul,Nat.reduceBNe,Nat.reduceBEq,zag,zan,jh9]):p:=h.mpr hq
theorem zzb{m:List Nat}{τ τ':Fr}{H H':zaa}(h2:H=H')(h:zez τ τ':=by
 repeat (first|exact zal _|refine zaf ?_ (by first|rfl|(simp[r_f,zad,zac,zbg,zak,zee];done)|simp[r_f,zad,zac,zbg,zak,zee, *]))):Rt m τ H τ' H':=Rt.end h h2
theorem jno(k:List Nat){m:List Nat}{τ τ1:Fr}{H H1:zaa}(h:Rt m (fun t=>gcV k (τ t)) (gcH k H) τ1 H1)(a:∀i∈m,k[i]? =some i:=by decide)(b:k.Nodup:=by decide)(c:∀i∈k,i<H.length:=by
 simp[fzH,gcH]):Rt m τ H τ1 H1:=Rt.trans (Rt.gc a b c) h
theorem zt0{p q r:Prop}(e:r)(hq:q)(h:r→p=q:=by
 intro hY
 conv=>lhs;simp -dsimp -implicitDefEqProofs (disch:=first|assumption|omega|(simp only[r_z,zad,zac,zbg,zak,zee]<;>omega)|decide) only[r_r,↓reduceIte,Nat.reduceEqDiff,Nat.reduceAdd,D.fix,Int.reduceToNat,Nat.reduceMul,Nat.reduceBNe,Nat.reduceBEq,zag,zan,jh9,hY]):p:=(h e).mpr hq
theorem jic{p:Prop}(h:p:=by
 first|rfl|(simp only[r_g,Nat.reduceAdd,↓reduceIte,Nat.reduceEqDiff,zag,zan];first|done|rfl)):p:=h
theorem jom{p q:Prop}(hq:q)(h:p=q:=by
 conv=>lhs;simp only[r_g,Nat.reduceAdd,↓reduceIte,Nat.reduceEqDiff,zag,zan]):p:=h.mpr hq
theorem jb5(n:Nat)(es:List Ed)(h:Gr n es):zas Try.prog 28 [iD (n:Int),zag es] (.d (zan (jio n es))):=by
 have hb:=h.b
 have hel:=h.l
 refine zau (fn:=Try.f28) (by kernel_rfl) Try.func28 rfl (Nat.le_of_ble_eq_true rfl) fun c hc hp=>?_
 refine zaw (τ':=frL [(0,.d (iD (n:Int))),(1,.d (zag es))]) (by repeat (first|exact zal _|refine zaf ?_ (by first|rfl|(simp[r_f,zad,zac,zbg,zak,zee];done)|simp[r_f,zad,zac,zbg,zak,zee, *]))) ?_
 refine szq hp (fun _ hZ=>zza hZ) ?_
 refine szq hp (fun _ hZ=>zf1 hZ) ?_
 refine zab fun K3 hK3=>?_
 refine szq hp (fun _ hZ=>zza hZ) ?_
 refine zae ?_
 refine zao hp (fun τ' H' mm=>∃(k:Nat),(k≤n)∧mm=n - k∧H'=[.cells (avs (fs2 ((rcA n es k).map nsD)))]∧τ'=frL [(0,.d (iD (n:Int))),(1,.d (zag es)),(5,.os 1 0 0 k),(6,.d (iD (k:Int)))]) (n) ?_ ⟨0,Nat.zero_le _,rfl,rfl,rfl⟩ ?_
 ·refine zzb ?_
  exact jic
 rintro τ' H' mm ⟨k,hk,rfl,rfl,rfl⟩
 refine zab fun K5 hK5=>?_
 refine szq hp (fun _ hZ=>zf1 hZ) ?_
 refine zai rfl (fun ht=>?_) (fun ht=>?_)
 ·have hkn:k<n:=by simp at ht;omega
  have hRk:=jib h hkn
  have hs:=jq0 n es k
  refine zah (hK5 _ _ ?_)
  refine zab fun K7 hK7=>?_
  refine zae ?_
  refine za6 hp zam hc rfl fun K8 hK8=>?_
  refine zf1 ?_
  refine zbd (hRk) rfl ?_
  refine zf1 ?_
  refine hK8 _ _ (hK7 _ _ ?_)
  refine za6 hp zam hc rfl fun K9 hK9=>?_
  refine zf1 ?_
  refine hK9 _ _ ⟨_,_,_,?_,⟨k+1,hkn,rfl,rfl,rfl⟩,?_⟩
  ·first|omega|(simp only[List.length_cons];omega)|(dsimp only;omega)
  ·refine jno [2] ?_
   refine zzb ?_
   refine jom ?_;rw[hs,←zme]
 ·have hke:k=n:=by simp at ht;omega
  subst hke
  have hEq:=jnn h
  have hcc:=jia h
  have hRl:=zee k es k
  obtain⟨R,hR⟩:∃R,R=rcA k es k:=⟨_,rfl⟩
  have hRr:∀v,v<k→(nth R v).length≤k:=fun v hv=>by
   rw[hR,zy9 hv]
   exact Nat.le_trans (List.length_filter_le _ _) (by simp)
  rw[←hR]at hEq hcc hRl
  rw[←hR]
  clear hR
  obtain⟨M,hM⟩:∃M,M=muB R:=⟨_,rfl⟩
  rw[←hM]at hEq hcc
  refine zat (hK3 _ _ ?_)
  refine szq hp (fun _ hZ=>zf1 hZ) ?_
  refine szq hp (fun _ hZ=>zf1 hZ) ?_
  refine zab fun K12 hK12=>?_
  refine szq hp (fun _ hZ=>zza hZ) ?_
  refine zae ?_
  refine zao hp (fun τ' H' mm=>∃(v:Nat) (B:List Bool) (Q:jtb),(v≤k∧DnI k M B v 0∧Q=zy8 k M v∧Q.length≤v)∧mm=k - v∧H'=[.cells (avs (fs2 (Q.map nsD))),.cells (avs (B.map oD))]∧τ'=frL [(0,.d (iD (k:Int))),(1,.d (zag es)),(5,.d (.fs (fs2 (R.map nsD)) k)),(7,.os 1 0 0 Q.length),(8,.os 1 1 0 k),(9,.d (iD (v:Int)))]) (k) ?_ ⟨0,List.replicate k false,[],⟨Nat.zero_le _,js8,rfl,Nat.le_refl _⟩,rfl,rfl,rfl⟩ ?_
  ·refine Rt.trans (Rt.fz (id:=0) (l:=(fs2 (R.map nsD))) rfl) ?_
   refine Rt.trans (Rt.slot 5 (zji (zbt (by rw[zak,hRl,Nat.mul_one])))) ?_
   refine jno [1,2] ?_
   refine zzb ?_
   refine jom ?_;rw[zyw];rfl
  rintro τ' H' mm ⟨v,B,Q,⟨hv,hB,hQ,hQl⟩,rfl,rfl,rfl⟩
  refine zab fun K14 hK14=>?_
  refine szq hp (fun _ hZ=>zf1 hZ) ?_
  refine zai rfl (fun ht=>?_) (fun ht=>?_)
  ·have hvk:v<k:=by simp at ht;omega
   have hBl:=hB.1
   have hcs:=jqw (n:=k) (M:=M) v
   rw[←hQ]at hcs
   have hg1:(B.map oD)[v]? =some (oD (nth B v)):=zbk (by omega)
   have hld:=jqx hvk hB
   refine zah (hK14 _ _ ?_)
   refine zab fun K16 hK16=>?_
   refine zae ?_
   refine zab fun K17 hK17=>?_
   refine szq hp (fun _ hZ=>zt0 hg1 hZ) ?_
   refine zai rfl (fun ht=>?_) (fun ht=>?_)
   ·have hlf:ldB M v=false:=by rw[ht]at hld;simpa using hld.symm
    rw[if_neg (by rw[hlf];decide)]at hcs
    refine zat (hK16 _ _ ?_)
    refine za6 hp zam hc rfl fun K19 hK19=>?_
    refine zf1 ?_
    refine hK19 _ _ ⟨_,_,_,?_,⟨v+1,B,Q,⟨hvk,jh8 hEq hvk hB hlf,hcs.symm,by omega⟩,rfl,rfl,rfl⟩,?_⟩
    ·first|omega|(simp only[List.length_cons];omega)|(dsimp only;omega)
    ·refine zzb ?_
     exact jic
   ·have hlt:ldB M v=true:=by rw[ht]at hld;simpa using hld.symm
    rw[if_pos hlt]at hcs
    have hg2:=zcm (nx:=R) (v:=v) (by omega)
    have hr0:=jqz hEq hvk hlt
    refine zah (hK17 _ _ ?_)
    refine szq hp (fun _ hZ=>zf1 hZ) ?_
    refine zab fun K21 hK21=>?_
    refine szq hp (fun _ hZ=>zza hZ) ?_
    refine zae ?_
    refine zao hp (fun τ' H' mm=>∃(w:Nat) (B:List Bool) (O:List Nat),(w≤k∧v≤w∧DnI k M B v w∧O=(List.range w).filter (M v)∧O.length≤w)∧mm=k - w∧H'=[.cells (avs (fs2 (Q.map nsD))),.cells (avs (B.map oD)),.cells (avs (nsD O))]∧τ'=frL [(0,.d (iD (k:Int))),(1,.d (zag es)),(5,.d (.fs (fs2 (R.map nsD)) k)),(7,.os 1 0 0 Q.length),(8,.os 1 1 0 k),(9,.d (iD (v:Int))),(10,.os 1 2 0 O.length),(11,.d (iD (w:Int)))]) (k - v) ?_ ⟨v,B,[],⟨hv,Nat.le_refl _,jqy hEq hvk hB hlt,hr0.symm,Nat.zero_le _⟩,rfl,rfl,rfl⟩ ?_
    ·refine zzb ?_
     exact jic
    rintro τ' H' mm ⟨w,B,O,⟨hw,hvw,hB2,hO,hOl⟩,rfl,rfl,rfl⟩
    refine zab fun K23 hK23=>?_
    refine szq hp (fun _ hZ=>zf1 hZ) ?_
    refine zai rfl (fun ht=>?_) (fun ht=>?_)
    ·have hwk:w<k:=by simp at ht;omega
     have hBl2:=hB2.1
     have hg3:=zcm (nx:=R) (v:=w) (by omega)
     have hI1:=jsa (nth R v) w (by have:=hRr v hvk;omega)
     have hI2:=jsa (nth R w) v (by have:=hRr w hwk;omega)
     have hmu:M v w=((nth R v).contains w&&(nth R w).contains v):=by rw[hM];rfl
     have hfs:=zp2 (p:=M v) w
     rw[←hO]at hfs
     refine zah (hK23 _ _ ?_)
     refine zab fun K25 hK25=>?_
     refine zae ?_
     refine zaj hp zam hc rfl fun K26 hK26=>?_
     have hJ26:∀τ' H',(∃τ1 H1,∃(b:Bool),(b=M v w)∧H1=[.cells (avs (fs2 (Q.map nsD))),.cells (avs (B.map oD)),.cells (avs (nsD O))]∧τ1=frL [(0,.d (iD (k:Int))),(1,.d (zag es)),(5,.d (.fs (fs2 (R.map nsD)) k)),(7,.os 1 0 0 Q.length),(8,.os 1 1 0 k),(9,.d (iD (v:Int))),(10,.os 1 2 0 O.length),(11,.d (iD (w:Int))),(57,.d (oD b))]∧Rt [] τ' H' τ1 H1)→K26 τ' H':=by
      rintro τ' H' ⟨_,_,b,hbm,rfl,rfl,hrt⟩
      refine hK26 _ _ (zba hp hrt ?_)
      clear hrt
      refine zai rfl (fun ht=>?_) (fun ht=>?_)
      ·have hmt:M v w=true:=by rw[←hbm];exact ht
       rw[if_pos hmt]at hfs
       refine szq hp (fun _ hZ=>zf1 hZ) ?_
       refine za6 hp zam hc rfl fun K28 hK28=>?_
       simp -dsimp -implicitDefEqProofs (disch:=first|assumption|omega|(simp only[r_z,zad,zac,zbg,zak,zee]<;>omega)|decide) only[r_r,↓reduceIte,Nat.reduceEqDiff,Nat.reduceAdd,D.fix,Int.reduceToNat,Nat.reduceMul,Nat.reduceBNe,Nat.reduceBEq,zag,zan,zhw,jh9]
       refine hK28 _ _ (hK25 _ _ ?_)
       refine za6 hp zam hc rfl fun K29 hK29=>?_
       refine zf1 ?_
       refine hK29 _ _ ⟨_,_,_,?_,⟨w+1,B.set w true,O++[w],⟨hwk,by omega,js9 hwk hB2 hmt,hfs.symm,by simp;omega⟩,rfl,rfl,rfl⟩,?_⟩
       ·first|omega|(simp only[List.length_cons];omega)|(dsimp only;omega)
       ·refine jno [0,1,4] ?_
        refine zzb ?_
        refine jom ?_;rw[←zf8];rfl
      ·have hmf:M v w=false:=by rw[←hbm];exact ht
       rw[if_neg (by rw[hmf];decide)]at hfs
       refine zah (hK25 _ _ ?_)
       refine za6 hp zam hc rfl fun K30 hK30=>?_
       refine zf1 ?_
       refine hK30 _ _ ⟨_,_,_,?_,⟨w+1,B,O,⟨hwk,by omega,jta hB2 hmf,hfs.symm,by omega⟩,rfl,rfl,rfl⟩,?_⟩
       ·first|omega|(simp only[List.length_cons];omega)|(dsimp only;omega)
       ·refine zzb ?_
        exact jic
     rcases tf ((nth R v).contains w)with q1|q1
     ·rw[q1]at hI1
      refine zt0 (sza hg2 hg3) ?_
      refine zbd (hI1) rfl ?_
      refine zt0 (sza hg2 hg3) ?_
      refine zbd (hI2) rfl ?_
      refine zt0 (sza hg2 hg3) ?_
      refine(hJ26 _ _ ⟨_,_,(nth R w).contains v,by rw[hmu,q1];rfl,rfl,rfl,?_⟩)
      refine zzb ?_
      exact jic
     ·rw[q1]at hI1
      refine zt0 (sza hg2 hg3) ?_
      refine zbd (hI1) rfl ?_
      refine zt0 (sza hg2 hg3) ?_
      refine(hJ26 _ _ ⟨_,_,false,by rw[hmu,q1];rfl,rfl,rfl,?_⟩)
      refine zzb ?_
      exact jic
    ·have hwe:w=k:=by simp at ht;omega
     have hB3:DnI k M B (v+1) 0:=by rw[hwe]at hB2;exact jnm hB2
     have hOc:O=jb4 k M v:=by rw[hO,hwe];rfl
     rw[←hOc]at hcs
     have hfz:fzV 2 (nsD O) (.os 1 2 0 O.length)= .d (.fs (nsD O) O.length):=zji (by rw[Nat.mul_one];exact zbt (zad O))
     refine zat (hK21 _ _ ?_)
     refine zba hp (τ':=frL [(0,.d (iD (k:Int))),(1,.d (zag es)),(5,.d (.fs (fs2 (R.map nsD)) k)),(7,.os 1 0 0 Q.length),(8,.os 1 1 0 k),(9,.d (iD (v:Int))),(10,.d (.fs (nsD O) O.length))]) (H':=[.cells (avs (fs2 (Q.map nsD))),.cells (avs (B.map oD))]) ?_ ?_
     ·refine Rt.trans (Rt.fz (id:=2) (l:=(nsD O)) rfl) ?_
      refine Rt.trans (Rt.slot 10 hfz) ?_
      refine jno [0,1] ?_
      refine zzb ?_
      exact jic
     refine szs hp (fun _ hZ=>zf1 hZ) (hK16 _ _ ?_)
     refine za6 hp zam hc rfl fun K32 hK32=>?_
     refine zf1 ?_
     refine hK32 _ _ ⟨_,_,_,?_,⟨v+1,B,Q++[O],⟨hvk,hB3,hcs.symm,by simp;omega⟩,rfl,rfl,rfl⟩,?_⟩
     ·first|omega|(simp only[List.length_cons];omega)|(dsimp only;omega)
     ·refine jno [3,1] ?_
      refine zzb ?_
      refine jom ?_;rw[←zme]
  ·have hve:v=k:=by simp at ht;omega
   subst hve
   refine zat (hK12 _ _ ?_)
   refine szq hp (fun _ hZ=>zza hZ) ?_
   refine zaq ?_
   show closeA _ _=_
   simp (disch:=first|assumption|omega|(simp only[r_z,zad,zac,zbg,zak,zee]<;>omega)|decide) only[r_c,Nat.reduceAdd,D.fix,↓reduceIte,Nat.reduceEqDiff,zag,zan]
   rw[←hcc,←hQ,zpd]
end Go.Proofs.Ytfolbdkbpmgjgaa
