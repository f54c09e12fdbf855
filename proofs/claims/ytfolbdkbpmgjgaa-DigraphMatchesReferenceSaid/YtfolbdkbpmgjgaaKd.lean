/- The graph: successors and predecessors. -/
import Derived.Test.YtfolbdkbpmgjgaaQr
import Derived.Test.YtfolbdkbpmgjgaaKc
import Derived.Test.YtfolbdkbpmgjgaaXn
set_option linter.unusedVariables false
set_option linter.unusedSimpArgs false
set_option maxRecDepth 100000
set_option maxHeartbeats 4000000
namespace Go.Proofs.Ytfolbdkbpmgjgaa
open Go Go.RowKit
theorem zwv:(((((type_of% @zjk)∧((type_of% @zwn)∧(type_of% @zke)))∧((type_of% @jkj)∧((type_of% @ze3)∧(type_of% @zfx))))∧(((type_of% @zeh)∧((type_of% @znq)∧(type_of% @jkk)))∧((type_of% @zwp)∧((type_of% @zwq)∧(type_of% @zeg)))))∧((((type_of% @zea)∧((type_of% @zeb)∧(type_of% @jab)))∧((type_of% @jac)∧((type_of% @jad)∧(type_of% @zdn))))∧(((type_of% @zb9)∧((type_of% @zcy)∧(type_of% @zcz)))∧((type_of% @zca)∧((type_of% @zcl)∧(type_of% @zhq)))))):=⟨⟨⟨⟨@zjk,⟨@zwn,@zke⟩⟩,⟨@jkj,⟨@ze3,@zfx⟩⟩⟩,⟨⟨@zeh,⟨@znq,@jkk⟩⟩,⟨@zwp,⟨@zwq,@zeg⟩⟩⟩⟩,⟨⟨⟨@zea,⟨@zeb,@jab⟩⟩,⟨@jac,⟨@jad,@zdn⟩⟩⟩,⟨⟨@zb9,⟨@zcy,@zcz⟩⟩,⟨@zca,⟨@zcl,@zhq⟩⟩⟩⟩⟩
abbrev Ed:=Nat × Nat
def edC(e:Ed):List D:=[iD (e.1:Int),iD (e.2:Int)]
def zag(l:List Ed):D:=.fs (l.flatMap edC) l.length
theorem zpc(e:Ed):(edC e).length=2:=rfl
theorem zac{l:List Ed}:(l.flatMap edC).length=l.length*2:=zin zpc l
theorem zd1{l:List Ed}{k:Nat}(h:k<l.length):zck (l.flatMap edC) (k*2) 2=some (edC (nth l k)):=zrj zpc h
def nxI(es:List Ed)(v:Nat):List Int:=(es.filter (fun e=>e.1==v)).map fun e=>(e.2:Int)
def pvI(es:List Ed)(v:Nat):List Int:=(es.filter (fun e=>e.2==v)).map fun e=>(e.1:Int)
def zfi(n:Nat)(es:List Ed):List (List D):=(List.range n).map fun v=>(nxI es v).map iD
def zfj(n:Nat)(es:List Ed):List (List D):=(List.range n).map fun v=>(pvI es v).map iD
theorem zww(n:Nat)(es:List Ed):(zfi n es).length=n:=by simp[zfi]
theorem zwx(n:Nat)(es:List Ed):(zfj n es).length=n:=by simp[zfj]
theorem jft(n:Nat):zfi n []=List.replicate n []:=by
 refine List.ext_getElem (by simp[zfi]) fun i h1 h2=>?_
 simp[zfi,nxI]
theorem jfu(n:Nat):zfj n []=List.replicate n []:=by
 refine List.ext_getElem (by simp[zfj]) fun i h1 h2=>?_
 simp[zfj,pvI]
theorem jal{n v:Nat}{es:List Ed}(h:v<n):nth (zfi n es) v=(nxI es v).map iD:=za8 h
theorem jam{n v:Nat}{es:List Ed}(h:v<n):nth (zfj n es) v=(pvI es v).map iD:=za8 h
theorem jfv{n:Nat}{es:List Ed}{e:Ed}(h:e.1<n):(zfi n es).set e.1 ((nxI es e.1).map iD++[iD (e.2:Int)])=zfi n (es++[e]):=by
 refine List.ext_getElem (by simp[zfi]) fun v h1 h2=>?_
 rw[List.getElem_set]
 split
 ·rename_i k
  simp[zfi,nxI,←k]
 ·rename_i k
  have k':(e.1==v)=false:=by simpa using k
  simp[zfi,nxI,List.filter_append,k']
theorem jfw{n:Nat}{es:List Ed}{e:Ed}(h:e.2<n):(zfj n es).set e.2 ((pvI es e.2).map iD++[iD (e.1:Int)])=zfj n (es++[e]):=by
 refine List.ext_getElem (by simp[zfj]) fun v h1 h2=>?_
 rw[List.getElem_set]
 split
 ·rename_i k
  simp[zfj,pvI,←k]
 ·rename_i k
  have k':(e.2==v)=false:=by simpa using k
  simp[zfj,pvI,List.filter_append,k']
def nxS(es:List Ed)(v:Nat):List Int:=cpI (zcb (nxI es v))
def pvS(es:List Ed)(v:Nat):List Int:=cpI (zcb (pvI es v))
def zk0(n:Nat)(es:List Ed)(c:Nat):List (List D):=(List.range n).map fun v=>(if v<c then nxS es v else nxI es v).map iD
def zk1(n:Nat)(es:List Ed)(c:Nat):List (List D):=(List.range n).map fun v=>(if v<c then pvS es v else pvI es v).map iD
theorem Rt.fzT{m:List Nat}{τ τ1:Fr}{H H1:zaa}(id:Nat)(l:List D)(hid:H[id]? =some (.cells (l.map .d)))(h1:zez (fun t=>fzV id l (τ t)) τ1)(h2:fzH id l H=H1):Rt m τ H τ1 H1:=
 (Rt.fz hid).trans ((Rt.less h1).trans (Rt.heap h2))
theorem jfx{o0 o3:AObj}{A B:List (List D)}{l:List D}{N:Nat}(hN:N=4+A.length+B.length)(h0:o0.allI (ltI 4)=true)(h3:o3.allI (ltI 4)=true):fzH N l (gH o0 o3 A B++[.cells (avs l)])=gH o0 o3 A B++[.dead]:=by
 unfold fzH
 rw[List.set_append_right _ _ (by rw[zd9];omega),zd9,show N - (4+A.length+B.length)=0 by omega,List.set_cons_zero,List.map_append]
 congr 1
 unfold gH
 rw[List.map_cons,List.map_cons,List.map_cons,List.map_cons,zkw (show 4≤N by omega) o0 h0,zkw (show 4≤N by omega) o3 h3,List.map_append,zrs,zrs]
 simp only[fzO]
 rw[zed (p:=N) (Nat.le_refl _) (hd 4 A) (zjm A 4 fun i _ _=>by simp[ltI];omega),zed (p:=N) (Nat.le_refl _) (hd (4+A.length) B) (zjm B _ fun i _ _=>by simp[ltI];omega)]
theorem Rt.lessl{m:List Nat}{τ τ1:Fr}{H H1:zaa}(h1:zez τ τ1)(h2:Rt m τ1 H τ1 H1):Rt m τ H τ1 H1:=(Rt.less h1).trans h2
theorem jsj(n:Nat):zf2 n [.val (.slice none 0 0)]=avs (List.replicate n (.val (.slice none 0 0))):=jj4
theorem jfy{l r:zaa}{m:Nat}(h:l.length=m):(l++r)[m]? =r[0]? :=by subst h;rw[List.getElem?_append_right (Nat.le_refl _),Nat.sub_self]
theorem jkv{l r:zaa}{m:Nat}(h:l.length=m):(l++r)[m+1]? =r[1]? :=by subst h;rw[List.getElem?_append_right (by omega)];congr 1;omega
theorem zwy{l r:zaa}{m:Nat}{x:AObj}(h:l.length=m):(l++r).set m x=l++r.set 0 x:=by subst h;rw[List.set_append_right _ _ (Nat.le_refl _),Nat.sub_self]
theorem jfz{l r:zaa}{m:Nat}{x:AObj}(h:l.length=m):(l++r).set (m+1) x=l++r.set 1 x:=by subst h;rw[List.set_append_right _ _ (by omega),show l.length+1 - l.length=1 by omega]
theorem jrf{l r:zaa}{m:Nat}(h:l.length=m)(j:Nat):(l++r)[m+j]? =r[j]? :=by subst h;rw[List.getElem?_append_right (by omega)];congr 1;omega
theorem jkw{l r:zaa}{m:Nat}{x:AObj}(h:l.length=m)(j:Nat):(l++r).set (m+j) x=l++r.set j x:=by subst h;rw[List.set_append_right _ _ (by omega),show l.length+j - l.length=j by omega]
mutual
theorem zl0:∀x:AV,x.allI (fun _=>true)=true
 | .any=>rfl
 | .d _=>rfl
 | .os .. =>rfl
 | .op .. =>rfl
 | .om .. =>rfl
 | .agg cs=>zfk cs
 | .tup cs=>zfk cs
 | .clo _ fi ca=>by rw[AV.allI,zfk fi,zfk ca];rfl
theorem zfk:∀l:List AV,AV.allIs (fun _=>true) l=true
 |[]=>rfl
 |x::l=>by rw[AV.allIs,zl0 x,zfk l];rfl
end
theorem zwz(k:Nat):okI (List.range k) k=fun _=>true:=funext fun i=>by
 unfold okI
 by_cases h:i<k
 ·simp[h]
 ·simp;omega
theorem jdo{P:Program}{sm:List Nat}{τ0 τ:Fr}{N:Nat}{H:zaa}{f:FuncId}{args:List AV}{x:AV}{H1:zaa}{KK:AV→zaa→Prop}(h:IcS P f args H fun x' H'=>x'=x∧H'=H1)(hl:H1.length=H.length)(hN:H.length≤N)(ha:AV.allIs (ltI H.length) args=true)(hS:∀o∈H,o.allI (ltI H.length)=true)(hm:sm=[])(hK:KK x H1):kE P sm N τ0 τ H (.d (.val (.func (.func f) #[] #[]))) args (tg KK):=
 jo4 (S:=H) (T:=[]) (ks:=List.range H.length) ⟨h.1,fun E w pl vals hv hx hh hE=>(h.2 E w pl vals hv hx hh hE).mono fun e w' ⟨v,y,H',pl',k1,k2,k3,k4,k5,k6,k7⟩=>⟨v,y,H',pl',k1,k2,k3,k4,k5,k6,fun i p _=>k7 i p⟩⟩ (List.append_nil _).symm hN (by rw[hm];rfl) (fun t=>by rw[zwz];exact zl0 _) (fun t=>by rw[zwz];exact zl0 _) ha hS (fun o ho=>by cases ho) fun x' S' ⟨e1,e2⟩=>⟨by rw[e2,hl],by rw[e1,e2,List.append_nil];exact hK⟩
theorem zk2{P:Program}{sm:List Nat}{N:Nat}{τ:Fr}{H:zaa}{f:FuncId}{args:List AV}{x:AV}{H1:zaa}{KK:AV→zaa→Prop}(h:IcS P f args H fun x' H'=>x'=x∧H'=H1)(hK:KK x H1):kC P sm N H τ (.d (.val (.func (.func f) #[] #[]))) args true (tg KK):=
 jjn h fun _ _ ⟨a,b⟩=>by rw[a,b];exact hK
theorem znz{H:zaa}{id m:Nat}{l:List Int}(hid:H[id]? =some (.cells (avs (l.map iD))))(hl:l.length≤1000000)(hm:l.length=m):
  IcS Try.prog 58 [.os 1 id 0 m] H fun x H'=>x= .os 1 id 0 (cpI l).length∧H'=H.set id (.cells (avs ((cpI l).map iD))):=by subst hm;exact zs9 hid hl
theorem zru{H:zaa}{id m:Nat}{l:List Int}(hid:H[id]? =some (.cells (avs (l.map iD))))(hl:l.length≤1000000)(hm:l.length=m):
  IcS Try.prog 45 [.os 1 id 0 m] H fun x H'=>x= .tup []∧H'=H.set id (.cells (avs ((zcb l).map iD))):=by subst hm;exact jaj hid hl
def DaR(R:zaa):Prop:=∀o∈R,∃l,o= .cells (avs l)
theorem DaR.rw(A:List (List D)):DaR (rwH A):=fun o ho=>by
 obtain⟨l,_,rfl⟩:=List.mem_map.1 ho
 exact⟨l,rfl⟩
theorem DaR.app{A B:zaa}(h:DaR A)(h':DaR B):DaR (A++B):=fun o ho=>(List.mem_append.1 ho).elim (h o) (h' o)
theorem DaR.set{A:zaa}(h:DaR A)(k:Nat)(l:List D):DaR (A.set k (.cells (avs l))):=fun o ho=>by
 rcases List.mem_or_eq_of_mem_set ho with ho|rfl
 ·exact h o ho
 ·exact⟨l,rfl⟩
theorem zn0{p:Nat→Bool}{x:AV}(hx:x.allI p=true):∀(l:List AV) (k:Nat),AV.allIs p l=true→AV.allIs p (l.set k x)=true
 |[],_,_=>rfl
 |y::l,0,h=>by
  rw[AV.allIs,Bool.and_eq_true]at h
  rw[List.set_cons_zero,AV.allIs,Bool.and_eq_true]
  exact⟨hx,h.2⟩
 |y::l,k+1,h=>by
  rw[AV.allIs,Bool.and_eq_true]at h
  rw[List.set_cons_succ,AV.allIs,Bool.and_eq_true]
  exact⟨h.1,zn0 hx l k h.2⟩
theorem jkx{n:Nat}{c0:AObj}{cA cB:List AV}{R:zaa}(h0:c0.allI (ltI (4+n+n))=true)(hA:AV.allIs (ltI (4+n+n)) cA=true)(hB:AV.allIs (ltI (4+n+n)) cB=true)(hR:R.length=n+n)(hd:DaR R):∀o∈(c0:: .cells cA:: .cells cB:: .cells [.os 1 1 0 n,.os 1 2 0 n]::R:zaa),o.allI (ltI (c0:: .cells cA:: .cells cB:: .cells [.os 1 1 0 n,.os 1 2 0 n]::R:zaa).length)=true:=by
 have e:(c0:: .cells cA:: .cells cB:: .cells [.os 1 1 0 n,.os 1 2 0 n]::R:zaa).length=4+n+n:=by simp[hR];omega
 rw[e]
 intro o ho
 simp only[List.mem_cons]at ho
 rcases ho with rfl|rfl|rfl|rfl|ho
 ·exact h0
 ·exact hA
 ·exact hB
 ·simp[AObj.allI,AV.allIs,AV.allI,ltI];omega
 ·obtain⟨l,rfl⟩:=hd o ho
  exact zhr l
theorem zw0:∀(A:List (List D)) (n v:Nat) (l:List D),(hd n A).set v (.os 1 (n+v) 0 l.length)=hd n (A.set v l)
 |[],_,_,_=>rfl
 |a::A,n,0,l=>rfl
 |a::A,n,v+1,l=>by
  rw[hd,List.set_cons_succ,List.set_cons_succ,hd,show n+(v+1)=n+1+v by omega,zw0 A (n+1) v l]
theorem zw1(A:List (List D))(v:Nat)(l:List D):(rwH A).set v (.cells (avs l))=rwH (A.set v l):=by unfold rwH;rw[List.map_set]
theorem zbn(n:Nat)(es:List Ed)(c:Nat):(zk0 n es c).length=n:=by simp[zk0]
theorem zbp(n:Nat)(es:List Ed)(c:Nat):(zk1 n es c).length=n:=by simp[zk1]
theorem jky(n:Nat)(es:List Ed):zk0 n es 0=zfi n es:=by simp[zk0,zfi]
theorem jkz(n:Nat)(es:List Ed):zk1 n es 0=zfj n es:=by simp[zk1,zfj]
theorem jf0{n v:Nat}{es:List Ed}(h:v<n):nth (zk0 n es v) v=(nxI es v).map iD:=by rw[zk0,za8 h,if_neg (Nat.lt_irrefl _)]
theorem jf1{n v:Nat}{es:List Ed}(h:v<n):nth (zk1 n es v) v=(pvI es v).map iD:=by rw[zk1,za8 h,if_neg (Nat.lt_irrefl _)]
theorem jdp{n v:Nat}{es:List Ed}(h:v<n):(zk0 n es v).set v ((nxS es v).map iD)=zk0 n es (v+1):=by
 refine List.ext_getElem (by simp[zk0]) fun i h1 h2=>?_
 rw[List.getElem_set]
 split
 ·rename_i e;subst e;simp[zk0]
 ·rename_i e
  simp only[zk0,List.getElem_map,List.getElem_range]
  by_cases hi:i<v
  ·rw[if_pos hi,if_pos (by omega)]
  ·rw[if_neg hi,if_neg (by omega)]
theorem jdq{n v:Nat}{es:List Ed}(h:v<n):(zk1 n es v).set v ((pvS es v).map iD)=zk1 n es (v+1):=by
 refine List.ext_getElem (by simp[zk1]) fun i h1 h2=>?_
 rw[List.getElem_set]
 split
 ·rename_i e;subst e;simp[zk1]
 ·rename_i e
  simp only[zk1,List.getElem_map,List.getElem_range]
  by_cases hi:i<v
  ·rw[if_pos hi,if_pos (by omega)]
  ·rw[if_neg hi,if_neg (by omega)]
theorem zb5(ls:List (List D)):(fs2 ls).length=ls.length:=List.length_map _
theorem zpd(ls:List (List D)):(fs2 ls).map D.fix=fs2 ls:=zlp (fun _=>rfl) ls
theorem jk0(es:List Ed)(v:Nat):(nxI es v).length≤es.length:=by rw[nxI,List.length_map];exact List.length_filter_le _ _
theorem jk1(es:List Ed)(v:Nat):(pvI es v).length≤es.length:=by rw[pvI,List.length_map];exact List.length_filter_le _ _
theorem zpe{p q:Prop}(hq:q)(h:p=q:=by
 conv=>lhs;simp -dsimp -implicitDefEqProofs (disch:=first|assumption|omega|(simp only[r_z,zac,zb5,zbn,zbp]<;>omega)|decide) only[r_r,↓reduceIte,Nat.reduceEqDiff,Nat.reduceAdd,D.fix,Int.reduceToNat,Nat.reduceMul,Nat.reduceBNe,Nat.reduceBEq,zag,zpc,zd1,edC,zd0,zcu,zev,zlz,zdt,zc5,zg4,zcv,zb3,zb4,zwv]):p:=h.mpr hq
theorem jf2{m:List Nat}{τ τ':Fr}{H H':zaa}(h2:H=H')(h:zez τ τ':=by
 repeat (first|exact zal _|refine zaf ?_ (by first|rfl|(simp[r_f,zac,zb5,zbn,zbp];done)|simp[r_f,zac,zb5,zbn,zbp, *]))):Rt m τ H τ' H':=Rt.end h h2
theorem zw2{p q r:Prop}(e:r)(hq:q)(h:r→p=q:=by
 intro hY
 conv=>lhs;simp -dsimp -implicitDefEqProofs (disch:=first|assumption|omega|(simp only[r_z,zac,zb5,zbn,zbp]<;>omega)|decide) only[r_r,↓reduceIte,Nat.reduceEqDiff,Nat.reduceAdd,D.fix,Int.reduceToNat,Nat.reduceMul,Nat.reduceBNe,Nat.reduceBEq,zag,zpc,zd1,edC,zd0,zcu,zev,zlz,zdt,zc5,zg4,zcv,zb3,zb4,zwv,hY]):p:=(h e).mpr hq
theorem jk2{p q r:Prop}(e:r)(hq:q)(h:r→p=q:=by
 intro hY
 conv=>lhs;simp -dsimp -implicitDefEqProofs (disch:=first|assumption|omega|(simp only[r_z,zac,zb5,zbn,zbp]<;>omega)|decide) only[r_r,↓reduceIte,Nat.reduceEqDiff,Nat.reduceAdd,D.fix,Int.reduceToNat,Nat.reduceMul,Nat.reduceBNe,Nat.reduceBEq,zag,zpc,zd1,edC,zd0,zcu,zev,zlz,zdt,zc5,zg4,zcv,zb3,zb4,and_self,Bool.and_self,Bool.true_and,true_and,if_true,zwv,hY]):p:=(h e).mpr hq
theorem jk3{p q:Prop}(hq:q)(h:p=q:=by
 conv=>lhs;simp -dsimp -implicitDefEqProofs (disch:=first|assumption|omega|(simp only[r_z,zac,zb5,zbn,zbp]<;>omega)|decide) only[r_r,↓reduceIte,Nat.reduceEqDiff,Nat.reduceAdd,D.fix,Int.reduceToNat,Nat.reduceMul,Nat.reduceBNe,Nat.reduceBEq,zag,zpc,zd1,edC,zd0,zcu,zev,zlz,zdt,zc5,zg4,zcv,zb3,zb4]):p:=h.mpr hq
theorem jan{p q r:Prop}(e:r)(hq:q)(h:r→p=q:=by
 intro hY
 conv=>lhs;simp -dsimp -implicitDefEqProofs (disch:=first|assumption|omega|(simp only[r_z,zac,zb5,zbn,zbp]<;>omega)|decide) only[r_r,↓reduceIte,Nat.reduceEqDiff,Nat.reduceAdd,D.fix,Int.reduceToNat,Nat.reduceMul,Nat.reduceBNe,Nat.reduceBEq,r_w,zag,zpc,zd1,edC,zd0,zcu,zev,zlz,zdt,zc5,zg4,zcv,zb3,zb4,zwv,hY]):p:=(h e).mpr hq
theorem jn2{p q:Prop}(hq:q)(h:p=q:=by
 conv=>lhs;simp only[r_g,Nat.reduceAdd,↓reduceIte,Nat.reduceEqDiff,zag,zpc,zd1,edC,zd0,zcu,zev,zlz,zdt,zc5,zg4,zcv,zb3,zb4]):p:=h.mpr hq
theorem ztb(n:Nat)(es:List Ed)(hn:n≤1000)(hl:es.length≤100000)(he:∀e∈es,e.1<n∧e.2<n):zas Try.prog 44 [iD (n:Int),zag es] (.d (.agg [.fs (fs2 (zk0 n es n)) n,.fs (fs2 (zk1 n es n)) n])):=by
 refine zau (fn:=Try.f44) (by kernel_rfl) Try.func44 rfl (Nat.le_of_ble_eq_true rfl) fun c hc hp=>?_
 refine zaw (τ':=frL [(0,.d (iD (n:Int))),(1,.d (zag es))]) (by repeat (first|exact zal _|refine zaf ?_ (by first|rfl|(simp[r_f,zac,zb5,zbn,zbp];done)|simp[r_f,zac,zb5,zbn,zbp, *]))) ?_
 refine szq hp (fun _ hZ=>zpe hZ) ?_
 refine zta zam hc mixed rfl (q:=3) (by kernel_rfl) (by kernel_rfl) fun K2 hK2=>?_
 simp -dsimp -implicitDefEqProofs (disch:=first|assumption|omega|(simp only[r_z,zac,zb5,zbn,zbp]<;>omega)|decide) only[r_r,↓reduceIte,Nat.reduceEqDiff,Nat.reduceAdd,D.fix,Int.reduceToNat,Nat.reduceMul,Nat.reduceBNe,Nat.reduceBEq,zag,zpc,zd1,edC,zd0,zcu,zev,zlz,zdt,zc5,zg4,zcv,zb3,zb4,jsj,zwv]
 refine hK2 _ _ ?_
 refine zab fun K3 hK3=>?_
 refine szq hp (fun _ hZ=>zpe hZ) ?_
 refine zae ?_
 refine zao hp (fun τ' H' mm=>∃(k:Nat),(k≤es.length)∧mm=es.length - k∧H'= .cells (avs [.val (.slice none 0 0),.val (.slice none 0 0)]):: .cells (hd 4 (zfi n (es.take k))):: .cells (hd (4+n) (zfj n (es.take k))):: .cells [.os 1 1 0 n,.os 1 2 0 n]::(rwH (zfi n (es.take k))++rwH (zfj n (es.take k)))∧τ'=frL [(0,.d (iD (n:Int))),(4,.op 0 0),(5,.op 3 0),(14,.d (zag es)),(15,.d (iD (es.length:Int))),(16,.d (iD (k:Int)))]) (es.length) ?_ ⟨0,Nat.zero_le _,rfl,rfl,rfl⟩ ?_
 ·refine Rt.trans (Rt.rows2 n) ?_
  refine jf2 ?_
  refine jn2 ?_;rw[List.take_zero,jft,jfu];simp[gH];done
 rintro τ' H' mm ⟨k,hk,rfl,rfl,rfl⟩
 refine szq hp (fun _ hZ=>zpe hZ) ?_
 refine zab fun K6 hK6=>?_
 refine zai rfl (fun ht=>?_) (fun ht=>?_)
 ·have hlt:k<es.length:=by simp at ht;omega
  have hmem:nth es k∈es:=by rw[za5 hlt];exact List.getElem_mem hlt
  obtain⟨ha,hb⟩:=he _ hmem
  have htk:es.take (k+1)=es.take k++[nth es k]:=zlq hlt
  obtain⟨a,hae⟩:∃a,a=(nth es k).1:=⟨_,rfl⟩
  obtain⟨b,hbe⟩:∃b,b=(nth es k).2:=⟨_,rfl⟩
  have hede:edC (nth es k)=[iD (a:Int),iD (b:Int)]:=by rw[hae,hbe];rfl
  have hae':(((nth es k).1:Nat):Int)=(a:Int):=by rw[hae]
  have hbe':(((nth es k).2:Nat):Int)=(b:Int):=by rw[hbe]
  rw[←hae]at ha
  rw[←hbe]at hb
  obtain⟨A,hA⟩:∃A,A=zfi n (es.take k):=⟨_,rfl⟩
  obtain⟨B,hB⟩:∃B,B=zfj n (es.take k):=⟨_,rfl⟩
  have hAl:A.length=n:=by rw[hA,zww]
  have hBl:B.length=n:=by rw[hB,zwx]
  obtain⟨R,hR⟩:∃R,R=rwH A++rwH B:=⟨_,rfl⟩
  have hRl:R.length=n+n:=by rw[hR];simp[zbu,hAl,hBl]
  rw[←hA,←hB,←hR]
  have hG0:∀r:zaa,(R++r)[R.length]? =r[0]? :=fun r=>jfy rfl
  have hG1:∀r:zaa,(R++r)[R.length+1]? =r[1]? :=fun r=>jkv rfl
  have hS0:∀(r:zaa) (x:AObj),(R++r).set R.length x=R++r.set 0 x:=fun r x=>zwy rfl
  have hS1:∀(r:zaa) (x:AObj),(R++r).set (R.length+1) x=R++r.set 1 x:=fun r x=>jfz rfl
  refine zah (hK6 _ _ ?_)
  refine zab fun K7 hK7=>?_
  refine zae ?_
  refine szq hp (fun _ hZ=>zw2 (sza hae' (sza hbe' (sza hG0 (sza hG1 (sza hS0 hS1))))) hZ) ?_
  refine zba hp (τ':=frL [(0,.d (iD (n:Int))),(4,.op 0 0),(5,.op 3 0),(7,.d (.fp [iD (a:Int),iD (b:Int)] 0)),(14,.d (zag es)),(15,.d (iD (es.length:Int))),(16,.d (iD (k:Int)))]) (H':=.cells (avs [.val (.slice none 0 0),.val (.slice none 0 0)]):: .cells (hd 4 A):: .cells (hd (4+n) B):: .cells [.os 1 1 0 n,.os 1 2 0 n]::(R++[.dead])) ?_ ?_
  ·refine Rt.trans (Rt.fzT (4+n+n) [iD (a:Int),iD (b:Int)] (by rw[show 4+n+n=n+n+1+1+1+1 by omega];simp only[List.getElem?_cons_succ];rw[show n+n=R.length from hRl.symm,hG0];rfl) (by repeat (first|exact zal _|refine zaf ?_ (by simp[Fr.put,frL,fzV,iD,zag];try omega))) (τ1:=frL [(0,.d (iD (n:Int))),(4,.op 0 0),(5,.op 3 0),(7,.d (.fp [iD (a:Int),iD (b:Int)] 0)),(14,.d (zag es)),(15,.d (iD (es.length:Int))),(16,.d (iD (k:Int)))]) (H1:=gH (.cells (avs [.val (.slice none 0 0),.val (.slice none 0 0)])) (.cells [.os 1 1 0 n,.os 1 2 0 n]) A B++[.dead]) (by rw[←jfx (A:=A) (B:=B) (N:=4+n+n) (by rw[hAl,hBl]) rfl rfl];congr 1;simp[gH,hR,hAl,avs,iD];done)) ?_
   refine jf2 ?_
   refine jn2 ?_;simp[gH,hR,hAl];done
  obtain⟨R1,hR1⟩:∃R1,R1=R++[AObj.dead]:=⟨_,rfl⟩
  rw[←hR1]
  have hR1l:R1.length=n+n+1:=by rw[hR1,List.length_append,hRl];rfl
  have hg0:∀r:zaa,(R1++r)[R1.length]? =r[0]? :=fun r=>jfy rfl
  have hs0:∀(r:zaa) (x:AObj),(R1++r).set R1.length x=R1++r.set 0 x:=fun r x=>zwy rfl
  have hgj:∀(r:zaa) (j:Nat),(R1++r)[R1.length+j]? =r[j]? :=fun r j=>jrf rfl j
  have hsj:∀(r:zaa) (j:Nat) (x:AObj),(R1++r).set (R1.length+j) x=R1++r.set j x:=fun r j x=>jkw rfl j
  obtain⟨ra,hra⟩:∃ra,ra=(nxI (es.take k) a).map iD:=⟨_,rfl⟩
  obtain⟨rb,hrb⟩:∃rb,rb=(pvI (es.take k) b).map iD:=⟨_,rfl⟩
  have hAa:nth A a=ra:=by rw[hA,jal ha,hra]
  have hBb:nth B b=rb:=by rw[hB,jam hb,hrb]
  have hg1:(hd 4 A)[a]? =some (.os 1 (a+4) 0 ra.length):=by rw[jag (by omega),hAa,Nat.add_comm]
  have hg2:(hd (4+n) B)[b]? =some (.os 1 (n+b+4) 0 rb.length):=by rw[jag (by omega),hBb,show 4+n+b=n+b+4 by omega]
  have hRa:R1[a]? =some (.cells (avs ra)):=by rw[hR1,List.getElem?_append_left (by omega),hR,List.getElem?_append_left (by rw[zbu];omega),zei (by omega),hAa]
  have hRb:R[n+b]? =some (.cells (avs rb)):=by rw[hR,List.getElem?_append_right (by rw[zbu];omega),zbu,hAl,Nat.add_sub_cancel_left,zei (by omega),hBb]
  have hC0:∀r:zaa,(R1++r)[a]? =some (.cells (avs ra)):=fun r=>by rw[List.getElem?_append_left (by omega),hRa]
  have hC1:∀(r:zaa) (x:AObj),(R1++r).set a x=R1.set a x++r:=fun r x=>List.set_append_left _ _ (by omega)
  have hlal:ra.length≤100000:=by rw[hra,List.length_map,nxI,List.length_map];exact Nat.le_trans (List.length_filter_le _ _) (by simp;omega)
  have hlbl:rb.length≤100000:=by rw[hrb,List.length_map,pvI,List.length_map];exact Nat.le_trans (List.length_filter_le _ _) (by simp;omega)
  have hn1:(hd 4 A).length=n:=by rw[zf7,hAl]
  have hn2:(hd (4+n) B).length=n:=by rw[zf7,hBl]
  have hb1:(R1.length+1+1+1+1+1 !=1)=true:=by simp
  have hb2:(a+4 !=1)=true:=by simp
  have hb3:(a+1≤n)=True:=eq_true (by omega)
  have hb4:((0:Nat)≤1)=True:=eq_true (by omega)
  refine zbj zam hc mixed rfl (q:=2) (by kernel_rfl) (by kernel_rfl) fun K9 hK9=>?_
  refine jk2 (sza hg1 (sza hn1 (sza hC0 (sza hC1 (sza hg0 (sza hs0 (sza hgj (sza hsj (sza hb1 (sza hb2 (sza hb3 hb4))))))))))) ?_
  obtain⟨la,hla⟩:∃la,la=ra++[iD (b:Int)]:=⟨_,rfl⟩
  have hlal':la.length=ra.length+1:=by rw[hla];simp
  obtain⟨A2,hA2⟩:∃A2,A2=A.set a la:=⟨_,rfl⟩
  have hA2l:A2.length=n:=by rw[hA2,List.length_set,hAl]
  obtain⟨R2,hR2⟩:∃R2,R2=rwH A2++rwH B:=⟨_,rfl⟩
  have hR2l:R2.length=n+n:=by rw[hR2];simp[zbu,hA2l,hBl]
  have hq1:R1.set a .dead++[.dead,.cells (avs la)]=(rwH A).set a .dead++rwH B++[.dead,.dead,.cells (avs la)]:=by
   rw[hR1,hR,List.set_append_left _ _ (by simp[zbu];omega),List.set_append_left _ _ (by rw[zbu];omega)];simp
  have hgm:(gH (.cells (avs [.val (.slice none 0 0),.val (.slice none 0 0)])) (.cells [.os 1 1 0 n,.os 1 2 0 n]) A B++[.dead,.dead,.cells (avs la)])[R1.length+5]? =some (.cells (avs la)):=by
   rw[List.getElem?_append_right (by rw[zd9];omega),zd9,show R1.length+5 - (4+A.length+B.length)=2 by omega];rfl
  have hg0':∀r:zaa,(R2++r)[R2.length]? =r[0]? :=fun r=>jfy rfl
  have hs0':∀(r:zaa) (x:AObj),(R2++r).set R2.length x=R2++r.set 0 x:=fun r x=>zwy rfl
  have hgj':∀(r:zaa) (j:Nat),(R2++r)[R2.length+j]? =r[j]? :=fun r j=>jrf rfl j
  have hsj':∀(r:zaa) (j:Nat) (x:AObj),(R2++r).set (R2.length+j) x=R2++r.set j x:=fun r j x=>jkw rfl j
  have hC0':∀r:zaa,(R2++r)[n+b]? =some (.cells (avs rb)):=fun r=>by
   rw[List.getElem?_append_left (by omega),hR2,List.getElem?_append_right (by rw[zbu];omega),zbu,hA2l,Nat.add_sub_cancel_left,zei (by omega),hBb]
  have hC1':∀(r:zaa) (x:AObj),(R2++r).set (n+b) x=R2.set (n+b) x++r:=fun r x=>List.set_append_left _ _ (by omega)
  have hb1':(R2.length+1+1+1+1+1 !=2)=true:=by simp
  have hb2':(n+b+4 !=2)=true:=by simp
  have hb3':(b+1≤n)=True:=eq_true (by omega)
  have hb4':((0:Nat)≤2)=True:=eq_true (by omega)
  refine hK9 _ _ ?_
  refine zba hp (τ':=frL [(0,.d (iD (n:Int))),(4,.op 0 0),(5,.op 3 0),(7,.d (.fp [iD (a:Int),iD (b:Int)] 0)),(14,.d (zag es)),(15,.d (iD (es.length:Int))),(16,.d (iD (k:Int)))]) (H':=.cells (avs [.val (.slice none 0 0),.val (.slice none 0 0)]):: .cells (hd 4 A2):: .cells (hd (4+n) B):: .cells [.os 1 1 0 n,.os 1 2 0 n]::R2) ?_ ?_
  ·refine Rt.lessl (by repeat (first|exact zal _|refine zaf ?_ (by first|rfl|(simp[r_f,zac,zb5,zbn,zbp];done)|simp[r_f,zac,zb5,zbn,zbp, *]))) ?_
   refine Rt.trans (Rt.heap (H':=.cells (avs [.val (.slice none 0 0),.val (.slice none 0 0)]):: .cells ((hd 4 A).set a (.os 1 (R1.length+5) 0 la.length)):: .cells (hd (4+A.length) B):: .cells [.os 1 1 0 n,.os 1 2 0 n]::((rwH A).set a .dead++rwH B++[.dead,.dead,.cells (avs la)])) (by rw[←hq1,hlal',hAl,hla];rfl)) ?_
   refine Rt.trans (Rt.rowA (by omega) (by omega) hgm (by rfl) (by simp[AObj.allI,AV.allIs,AV.allI,okS]<;>omega) (fun t=>zdm (by simp[AObj.allI,AV.allIs,AV.allI,okS]<;>omega) t)) ?_
   refine Rt.trans (Rt.heap (H':=.cells (avs [.val (.slice none 0 0),.val (.slice none 0 0)]):: .cells (hd 4 A2):: .cells (hd (4+n) B):: .cells [.os 1 1 0 n,.os 1 2 0 n]::R2) (by rw[gH,hR2,←hA2,hA2l])) ?_
   refine jf2 ?_
   rfl
  refine zjf zam hc mixed rfl (q:=2) (by kernel_rfl) (by kernel_rfl) fun K10 hK10=>?_
  refine jk2 (sza hg2 (sza hn2 (sza hC0' (sza hC1' (sza hg0' (sza hs0' (sza hgj' (sza hsj' (sza hb1' (sza hb2' (sza hb3' hb4'))))))))))) ?_
  obtain⟨lb,hlb⟩:∃lb,lb=rb++[iD (a:Int)]:=⟨_,rfl⟩
  have hlbl':lb.length=rb.length+1:=by rw[hlb];simp
  have hq2:R2.set (n+b) .dead++[.dead,.cells (avs lb)]=rwH A2++(rwH B).set b .dead++[.dead,.cells (avs lb)]:=by
   rw[hR2,List.set_append_right _ _ (by rw[zbu];omega),zbu,hA2l,Nat.add_sub_cancel_left]
  have hgm2:(gH (.cells (avs [.val (.slice none 0 0),.val (.slice none 0 0)])) (.cells [.os 1 1 0 n,.os 1 2 0 n]) A2 B++[.dead,.cells (avs lb)])[R2.length+5]? =some (.cells (avs lb)):=by
   rw[List.getElem?_append_right (by rw[zd9];omega),zd9,show R2.length+5 - (4+A2.length+B.length)=1 by omega];rfl
  have hfA:A2=zfi n (es.take (k+1)):=by
   have:=jfv (n:=n) (es:=es.take k) (e:=nth es k) (by omega)
   rw[hA2,hla,hra,hA,hae,hbe,this,htk]
  have hfB:B.set b lb=zfj n (es.take (k+1)):=by
   have:=jfw (n:=n) (es:=es.take k) (e:=nth es k) (by omega)
   rw[hlb,hrb,hB,hae,hbe,this,htk]
  refine hK10 _ _ (hK7 _ _ ?_)
  refine za6 hp zam hc rfl fun K11 hK11=>?_
  refine zpe ?_
  refine hK11 _ _ ⟨_,_,_,?_,⟨k+1,by omega,rfl,rfl,rfl⟩,?_⟩
  ·first|omega|(simp only[List.length_cons];omega)|(dsimp only;omega)
  ·refine Rt.lessl (by repeat (first|exact zal _|refine zaf ?_ (by first|rfl|(simp[r_f,zac,zb5,zbn,zbp];done)|simp[r_f,zac,zb5,zbn,zbp, *]))) ?_
   refine Rt.trans (Rt.heap (H':=.cells (avs [.val (.slice none 0 0),.val (.slice none 0 0)]):: .cells (hd 4 A2):: .cells ((hd (4+A2.length) B).set b (.os 1 (R2.length+5) 0 lb.length)):: .cells [.os 1 1 0 n,.os 1 2 0 n]::(rwH A2++(rwH B).set b .dead++[.dead,.cells (avs lb)])) (by rw[←hq2,hlbl',hA2l,hlb];rfl)) ?_
   refine Rt.trans (Rt.rowB (by omega) (by omega) hgm2 (by rfl) (by simp[AObj.allI,AV.allIs,AV.allI,okS]<;>omega) (fun t=>zdm (by simp[AObj.allI,AV.allIs,AV.allI,okS]<;>omega) t)) ?_
   refine jf2 ?_
   rw[hfB,gH,←hfA,hA2l]
 ·have hke:k=es.length:=by simp at ht;omega
  subst hke
  rw[List.take_length]
  refine zat (hK3 _ _ ?_)
  refine zab fun K12 hK12=>?_
  refine szq hp (fun _ hZ=>jk3 hZ) ?_
  refine zae ?_
  refine zao hp (fun τ' H' mm=>∃(v:Nat),(v≤n)∧mm=n - v∧H'= .cells (avs [.val (.slice none 0 0),.val (.slice none 0 0)]):: .cells (hd 4 (zk0 n es v)):: .cells (hd (4+n) (zk1 n es v)):: .cells [.os 1 1 0 n,.os 1 2 0 n]::(rwH (zk0 n es v)++rwH (zk1 n es v))∧τ'=frL [(0,.d (iD (n:Int))),(4,.op 0 0),(5,.op 3 0),(51,.d (iD (n:Int))),(52,.d (iD (v:Int)))]) (n) ?_ ⟨0,Nat.zero_le _,rfl,rfl,rfl⟩ ?_
  ·refine jf2 ?_
   refine jn2 ?_;simp[jky,jkz];done
  rintro τ' H' mm ⟨v,hv,rfl,rfl,rfl⟩
  refine szq hp (fun _ hZ=>zpe hZ) ?_
  refine zab fun K15 hK15=>?_
  refine zai rfl (fun ht=>?_) (fun ht=>?_)
  ·have hvn:v<n:=by simp at ht;omega
   obtain⟨A,hA⟩:∃A,A=zk0 n es v:=⟨_,rfl⟩
   obtain⟨B,hB⟩:∃B,B=zk1 n es v:=⟨_,rfl⟩
   have hAl:A.length=n:=by rw[hA,zbn]
   have hBl:B.length=n:=by rw[hB,zbp]
   obtain⟨R,hR⟩:∃R,R=rwH A++rwH B:=⟨_,rfl⟩
   have hRl:R.length=n+n:=by rw[hR];simp[zbu,hAl,hBl]
   have hRd:DaR R:=by rw[hR];exact(DaR.rw A).app (DaR.rw B)
   rw[←hA,←hB,←hR]
   have hAa:nth A v=(nxI es v).map iD:=by rw[hA,jf0 hvn]
   have hBb:nth B v=(pvI es v).map iD:=by rw[hB,jf1 hvn]
   have ha1:=jk0 es v
   have hb1:=jk1 es v
   obtain⟨la,hla⟩:∃la,la=nxI es v:=⟨_,rfl⟩
   obtain⟨lb,hlb⟩:∃lb,lb=pvI es v:=⟨_,rfl⟩
   rw[←hla]at hAa ha1
   rw[←hlb]at hBb hb1
   have hg1:(hd 4 A)[v]? =some (.os 1 (v+4) 0 la.length):=by rw[jag (by omega),hAa,Nat.add_comm,List.length_map]
   have hg2:(hd (4+n) B)[v]? =some (.os 1 (n+v+4) 0 lb.length):=by rw[jag (by omega),hBb,show 4+n+v=n+v+4 by omega,List.length_map]
   have hRa:R[v]? =some (.cells (avs (la.map iD))):=by rw[hR,List.getElem?_append_left (by rw[zbu];omega),zei (by omega),hAa]
   have hRb:R[n+v]? =some (.cells (avs (lb.map iD))):=by rw[hR,List.getElem?_append_right (by rw[zbu];omega),zbu,hAl,Nat.add_sub_cancel_left,zei (by omega),hBb]
   have hn1:(hd 4 A).length=n:=by rw[zf7,hAl]
   have hn2:(hd (4+n) B).length=n:=by rw[zf7,hBl]
   have hq1:AV.allIs (ltI (4+n+n)) (hd 4 A)=true:=zjm _ _ fun i h1 h2=>by simp[ltI];omega
   have hq2:AV.allIs (ltI (4+n+n)) (hd (4+n) B)=true:=zjm _ _ fun i h1 h2=>by simp[ltI];omega
   refine zah (hK15 _ _ ?_)
   refine zab fun K16 hK16=>?_
   refine zae ?_
   refine szq hp (fun _ hZ=>jk3 hZ) ?_
   refine zaj hp zam hc rfl fun K18 hK18=>?_
   refine zw2 (sza hg1 hn1) ?_
   refine zk2 (zru (l:=la) (by simp only[List.getElem?_cons_succ];exact hRa) (by omega) rfl) ?_
   refine zw2 (sza hg1 hn1) ?_
   refine hK18 _ _ ?_
   refine zkv zam hp hc mixed rfl [(0,[]),(1,[]),(2,[]),(3,[]),(4,[]),(5,[]),(6,[]),(7,[]),(8,[1]),(9,[]),(10,[])] [[],[0],[],[],[3],[],[3,4,5],[3,4,5,6],[3,4,5,6,7],[0,1,2,3,4,5,6,7,8],[0,1,2,3,4,5,6,7,8,9]] 0 (by kernel_rfl) fun K19 hK19=>?_
   refine jan (sza hg1 hn1) ?_
   refine jdo (znz (l:=zcb la) (by simp only[List.getElem?_cons_succ];exact List.getElem?_set_self (by omega)) (by rw[zbv];omega) (zbv _)) (by simp) (Nat.le_of_eq rfl) (by simp[AV.allIs,AV.allI,ltI,hRl];omega) (jkx rfl hq1 hq2 (by simp[hRl]) (hRd.set _ _)) rfl ?_
   refine jan (sza hg1 hn1) ?_
   refine hK19 _ _ ?_
   refine zaj hp zam hc rfl fun K20 hK20=>?_
   refine zw2 (sza hg2 hn2) ?_
   refine zk2 (zru (l:=lb) (by simp only[List.getElem?_cons_succ];rw[List.getElem?_set_ne (by omega),List.getElem?_set_ne (by omega)];exact hRb) (by omega) rfl) ?_
   refine zw2 (sza hg2 hn2) ?_
   refine hK20 _ _ ?_
   refine jdb zam hp hc mixed rfl [(0,[]),(1,[]),(2,[]),(3,[]),(4,[]),(5,[]),(6,[]),(7,[]),(8,[1]),(9,[]),(10,[])] [[],[0],[],[],[3],[],[3,4,5],[3,4,5,6],[3,4,5,6,7],[0,1,2,3,4,5,6,7,8],[0,1,2,3,4,5,6,7,8,9]] 0 (by kernel_rfl) fun K21 hK21=>?_
   refine jan (sza hg2 hn2) ?_
   refine jdo (znz (l:=zcb lb) (by simp only[List.getElem?_cons_succ];exact List.getElem?_set_self (by simp;omega)) (by rw[zbv];omega) (zbv _)) (by simp) (Nat.le_of_eq rfl) (by simp[AV.allIs,AV.allI,ltI,hRl];omega) (jkx rfl (zn0 (by simp[AV.allI,ltI];omega) _ _ hq1) hq2 (by simp[hRl]) (((hRd.set _ _).set _ _).set _ _)) rfl ?_
   refine jan (sza hg2 hn2) ?_
   refine hK21 _ _ (hK16 _ _ ?_)
   refine za6 hp zam hc rfl fun K22 hK22=>?_
   refine zpe ?_
   have hf1:(hd 4 A).set v (.os 1 (v+4) 0 (cpI (zcb la)).length)=hd 4 (zk0 n es (v+1)):=by
    have e:=zw0 A 4 v ((cpI (zcb la)).map iD)
    rw[List.length_map,Nat.add_comm 4 v]at e
    rw[e,hA,hla];exact congrArg _ (jdp hvn)
   have hf2:(hd (4+n) B).set v (.os 1 (n+v+4) 0 (cpI (zcb lb)).length)=hd (4+n) (zk1 n es (v+1)):=by
    have e:=zw0 B (4+n) v ((cpI (zcb lb)).map iD)
    rw[List.length_map,show 4+n+v=n+v+4 by omega]at e
    rw[e,hB,hlb];exact congrArg _ (jdq hvn)
   have hf3:(((R.set v (.cells (avs ((zcb la).map iD)))).set v (.cells (avs ((cpI (zcb la)).map iD)))).set (n+v) (.cells (avs ((zcb lb).map iD)))).set (n+v) (.cells (avs ((cpI (zcb lb)).map iD)))=rwH (zk0 n es (v+1))++rwH (zk1 n es (v+1)):=by
    rw[List.set_set,List.set_set,hR,List.set_append_left _ _ (by rw[zbu];omega),zw1,List.set_append_right _ _ (by rw[zbu,List.length_set];omega),zbu,List.length_set,hAl,Nat.add_sub_cancel_left,zw1,hA,hB,hla,hlb]
    exact congr (congrArg _ (congrArg rwH (jdp hvn))) (congrArg rwH (jdq hvn))
   refine hK22 _ _ ⟨_,_,_,?_,⟨v+1,by omega,rfl,rfl,rfl⟩,?_⟩
   ·first|omega|(simp only[List.length_cons];omega)|(dsimp only;omega)
   ·refine jf2 ?_
    refine jn2 ?_;rw[hf1,hf2,hf3]
  ·have hve:v=n:=by simp at ht;omega
   rw[hve]
   refine zat (hK12 _ _ ?_)
   refine zba hp (τ':=frL [(4,.op 0 0),(5,.op 3 0)]) (H':=[.cells (avs [.val (.slice none 0 0),.val (.slice none 0 0)]),.cells (avs (fs2 (zk0 n es n))),.cells (avs (fs2 (zk1 n es n))),.cells [.os 1 1 0 n,.os 1 2 0 n]]) ?_ ?_
   ·refine Rt.lessl (by repeat (first|exact zal _|refine zaf ?_ (by first|rfl|(simp[r_f,zac,zb5,zbn,zbp];done)|simp[r_f,zac,zb5,zbn,zbp, *]))) ?_
    refine Rt.trans (Rt.heap (H':=gH (.cells (avs [.val (.slice none 0 0),.val (.slice none 0 0)])) (.cells [.os 1 1 0 n,.os 1 2 0 n]) (zk0 n es n) (zk1 n es n)) (by rw[gH,zbn];rfl)) ?_
    refine Rt.trans (Rt.gH_all (fun t=>zdm (by rfl) t) (by rfl) (by rfl)) ?_
    refine jf2 ?_
    rfl
   refine szq hp (fun _ hZ=>zpe hZ) ?_
   refine zaq ?_
   try dsimp only[zcq,za7]
   refine zbm rfl ?_
   simp -dsimp -implicitDefEqProofs (disch:=first|assumption|omega|(simp only[r_z,zac,zb5,zbn,zbp]<;>omega)|decide) only[r_r,↓reduceIte,Nat.reduceEqDiff,Nat.reduceAdd,D.fix,Int.reduceToNat,Nat.reduceMul,Nat.reduceBNe,Nat.reduceBEq,zag,zpc,zd1,edC,zd0,zcu,zev,zlz,zdt,zc5,zg4,zcv,zb3,zb4,zjk,zwn]
   show closeA _ _=_
   simp (disch:=first|assumption|omega|(simp only[r_z,zac,zb5,zbn,zbp]<;>omega)|decide) only[r_c,Nat.reduceAdd,D.fix,↓reduceIte,Nat.reduceEqDiff,zag,zpc,zd1,edC,zd0,zcu,zev,zlz,zdt,zc5,zg4,zcv,zb3,zb4,zpd]
end Go.Proofs.Ytfolbdkbpmgjgaa
