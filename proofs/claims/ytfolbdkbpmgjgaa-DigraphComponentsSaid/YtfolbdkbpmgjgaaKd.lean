/- The graph: successors and predecessors. -/
import Derived.Test.YtfolbdkbpmgjgaaQr
import Derived.Test.YtfolbdkbpmgjgaaKc
import Derived.Test.YtfolbdkbpmgjgaaXn
set_option linter.unusedVariables false
set_option linter.unusedSimpArgs false
set_option maxRecDepth 100000
set_option maxHeartbeats 4000000
namespace Go.Proofs.Ytfolbdkbpmgjgaa
open Go Go.RowKit
theorem zu1:(((((type_of% @zit)∧((type_of% @zut)∧(type_of% @zji)))∧((type_of% @jhp)∧((type_of% @zeo)∧(type_of% @zfj))))∧(((type_of% @zd4)∧((type_of% @zrl)∧(type_of% @jhq)))∧((type_of% @zuv)∧((type_of% @zuw)∧(type_of% @zrk)))))∧((((type_of% @zg1)∧((type_of% @zg2)∧(type_of% @zx5)))∧((type_of% @zx6)∧((type_of% @zx7)∧(type_of% @zda))))∧(((type_of% @zg3)∧((type_of% @zc5)∧(type_of% @zc6)))∧((type_of% @zg4)∧((type_of% @zdv)∧(type_of% @zg5)))))):=⟨⟨⟨⟨@zit,⟨@zut,@zji⟩⟩,⟨@jhp,⟨@zeo,@zfj⟩⟩⟩,⟨⟨@zd4,⟨@zrl,@jhq⟩⟩,⟨@zuv,⟨@zuw,@zrk⟩⟩⟩⟩,⟨⟨⟨@zg1,⟨@zg2,@zx5⟩⟩,⟨@zx6,⟨@zx7,@zda⟩⟩⟩,⟨⟨@zg3,⟨@zc5,@zc6⟩⟩,⟨@zg4,⟨@zdv,@zg5⟩⟩⟩⟩⟩
abbrev Ed:=Nat × Nat
def edC(e:Ed):List D:=[iD (e.1:Int),iD (e.2:Int)]
def zan(l:List Ed):D:=.fs (l.flatMap edC) l.length
theorem zoa(e:Ed):(edC e).length=2:=rfl
theorem zap{l:List Ed}:(l.flatMap edC).length=l.length*2:=zku zoa l
theorem zdq{l:List Ed}{k:Nat}(h:k<l.length):zb9 (l.flatMap edC) (k*2) 2=some (edC (nth l k)):=zqc zoa h
def nxI(es:List Ed)(v:Nat):List Int:=(es.filter (fun e=>e.1==v)).map fun e=>(e.2:Int)
def pvI(es:List Ed)(v:Nat):List Int:=(es.filter (fun e=>e.2==v)).map fun e=>(e.1:Int)
def ze4(n:Nat)(es:List Ed):List (List D):=(List.range n).map fun v=>(nxI es v).map iD
def ze5(n:Nat)(es:List Ed):List (List D):=(List.range n).map fun v=>(pvI es v).map iD
theorem zu2(n:Nat)(es:List Ed):(ze4 n es).length=n:=by simp[ze4]
theorem zu3(n:Nat)(es:List Ed):(ze5 n es).length=n:=by simp[ze5]
theorem jc6(n:Nat):ze4 n []=List.replicate n []:=by
 refine List.ext_getElem (by simp[ze4]) fun i h1 h2=>?_
 simp[ze4,nxI]
theorem jc7(n:Nat):ze5 n []=List.replicate n []:=by
 refine List.ext_getElem (by simp[ze5]) fun i h1 h2=>?_
 simp[ze5,pvI]
theorem zyf{n v:Nat}{es:List Ed}(h:v<n):nth (ze4 n es) v=(nxI es v).map iD:=za4 h
theorem zyg{n v:Nat}{es:List Ed}(h:v<n):nth (ze5 n es) v=(pvI es v).map iD:=za4 h
theorem jc8{n:Nat}{es:List Ed}{e:Ed}(h:e.1<n):(ze4 n es).set e.1 ((nxI es e.1).map iD++[iD (e.2:Int)])=ze4 n (es++[e]):=by
 refine List.ext_getElem (by simp[ze4]) fun v h1 h2=>?_
 rw[List.getElem_set]
 split
 ·rename_i k
  simp[ze4,nxI,←k]
 ·rename_i k
  have k':(e.1==v)=false:=by simpa using k
  simp[ze4,nxI,List.filter_append,k']
theorem jc9{n:Nat}{es:List Ed}{e:Ed}(h:e.2<n):(ze5 n es).set e.2 ((pvI es e.2).map iD++[iD (e.1:Int)])=ze5 n (es++[e]):=by
 refine List.ext_getElem (by simp[ze5]) fun v h1 h2=>?_
 rw[List.getElem_set]
 split
 ·rename_i k
  simp[ze5,pvI,←k]
 ·rename_i k
  have k':(e.2==v)=false:=by simpa using k
  simp[ze5,pvI,List.filter_append,k']
def nxS(es:List Ed)(v:Nat):List Int:=cpI (zb1 (nxI es v))
def pvS(es:List Ed)(v:Nat):List Int:=cpI (zb1 (pvI es v))
def zj6(n:Nat)(es:List Ed)(c:Nat):List (List D):=(List.range n).map fun v=>(if v<c then nxS es v else nxI es v).map iD
def zj7(n:Nat)(es:List Ed)(c:Nat):List (List D):=(List.range n).map fun v=>(if v<c then pvS es v else pvI es v).map iD
theorem Rt.fzT{m:List Nat}{τ τ1:Fr}{H H1:zaa}(id:Nat)(l:List D)(hid:H[id]? =some (.cells (l.map .d)))(h1:zgq (fun t=>fzV id l (τ t)) τ1)(h2:fzH id l H=H1):Rt m τ H τ1 H1:=
 (Rt.fz hid).trans ((Rt.less h1).trans (Rt.heap h2))
theorem jda{o0 o3:AObj}{A B:List (List D)}{l:List D}{N:Nat}(hN:N=4+A.length+B.length)(h0:o0.allI (ltI 4)=true)(h3:o3.allI (ltI 4)=true):fzH N l (gH o0 o3 A B++[.cells (avs l)])=gH o0 o3 A B++[.dead]:=by
 unfold fzH
 rw[List.set_append_right _ _ (by rw[zd1];omega),zd1,show N - (4+A.length+B.length)=0 by omega,List.set_cons_zero,List.map_append]
 congr 1
 unfold gH
 rw[List.map_cons,List.map_cons,List.map_cons,List.map_cons,zj2 (show 4≤N by omega) o0 h0,zj2 (show 4≤N by omega) o3 h3,List.map_append,zql,zql]
 simp only[fzO]
 rw[zd2 (p:=N) (Nat.le_refl _) (hd 4 A) (ziv A 4 fun i _ _=>by simp[ltI];omega),zd2 (p:=N) (Nat.le_refl _) (hd (4+A.length) B) (ziv B _ fun i _ _=>by simp[ltI];omega)]
theorem Rt.lessl{m:List Nat}{τ τ1:Fr}{H H1:zaa}(h1:zgq τ τ1)(h2:Rt m τ1 H τ1 H1):Rt m τ H τ1 H1:=(Rt.less h1).trans h2
theorem jom(n:Nat):zfo n [.val (.slice none 0 0)]=avs (List.replicate n (.val (.slice none 0 0))):=jg8
theorem jdb{l r:zaa}{m:Nat}(h:l.length=m):(l++r)[m]? =r[0]? :=by subst h;rw[List.getElem?_append_right (Nat.le_refl _),Nat.sub_self]
theorem jh1{l r:zaa}{m:Nat}(h:l.length=m):(l++r)[m+1]? =r[1]? :=by subst h;rw[List.getElem?_append_right (by omega)];congr 1;omega
theorem zu4{l r:zaa}{m:Nat}{x:AObj}(h:l.length=m):(l++r).set m x=l++r.set 0 x:=by subst h;rw[List.set_append_right _ _ (Nat.le_refl _),Nat.sub_self]
theorem jdc{l r:zaa}{m:Nat}{x:AObj}(h:l.length=m):(l++r).set (m+1) x=l++r.set 1 x:=by subst h;rw[List.set_append_right _ _ (by omega),show l.length+1 - l.length=1 by omega]
theorem jnl{l r:zaa}{m:Nat}(h:l.length=m)(j:Nat):(l++r)[m+j]? =r[j]? :=by subst h;rw[List.getElem?_append_right (by omega)];congr 1;omega
theorem jh2{l r:zaa}{m:Nat}{x:AObj}(h:l.length=m)(j:Nat):(l++r).set (m+j) x=l++r.set j x:=by subst h;rw[List.set_append_right _ _ (by omega),show l.length+j - l.length=j by omega]
mutual
theorem zk3:∀x:AV,x.allI (fun _=>true)=true
 | .any=>rfl
 | .d _=>rfl
 | .os .. =>rfl
 | .op .. =>rfl
 | .om .. =>rfl
 | .agg cs=>ze6 cs
 | .tup cs=>ze6 cs
 | .clo _ fi ca=>by rw[AV.allI,ze6 fi,ze6 ca];rfl
theorem ze6:∀l:List AV,AV.allIs (fun _=>true) l=true
 |[]=>rfl
 |x::l=>by rw[AV.allIs,zk3 x,ze6 l];rfl
end
theorem zu5(k:Nat):okI (List.range k) k=fun _=>true:=funext fun i=>by
 unfold okI
 by_cases h:i<k
 ·simp[h]
 ·simp;omega
theorem ja1{P:Program}{sm:List Nat}{τ0 τ:Fr}{N:Nat}{H:zaa}{f:FuncId}{args:List AV}{x:AV}{H1:zaa}{KK:AV→zaa→Prop}(h:IcS P f args H fun x' H'=>x'=x∧H'=H1)(hl:H1.length=H.length)(hN:H.length≤N)(ha:AV.allIs (ltI H.length) args=true)(hS:∀o∈H,o.allI (ltI H.length)=true)(hm:sm=[])(hK:KK x H1):kE P sm N τ0 τ H (.d (.val (.func (.func f) #[] #[]))) args (tg KK):=
 jld (S:=H) (T:=[]) (ks:=List.range H.length) ⟨h.1,fun E w pl vals hv hx hh hE=>(h.2 E w pl vals hv hx hh hE).mono fun e w' ⟨v,y,H',pl',k1,k2,k3,k4,k5,k6,k7⟩=>⟨v,y,H',pl',k1,k2,k3,k4,k5,k6,fun i p _=>k7 i p⟩⟩ (List.append_nil _).symm hN (by rw[hm];rfl) (fun t=>by rw[zu5];exact zk3 _) (fun t=>by rw[zu5];exact zk3 _) ha hS (fun o ho=>by cases ho) fun x' S' ⟨e1,e2⟩=>⟨by rw[e2,hl],by rw[e1,e2,List.append_nil];exact hK⟩
theorem zj8{P:Program}{sm:List Nat}{N:Nat}{τ:Fr}{H:zaa}{f:FuncId}{args:List AV}{x:AV}{H1:zaa}{KK:AV→zaa→Prop}(h:IcS P f args H fun x' H'=>x'=x∧H'=H1)(hK:KK x H1):kC P sm N H τ (.d (.val (.func (.func f) #[] #[]))) args true (tg KK):=
 jgq h fun _ _ ⟨a,b⟩=>by rw[a,b];exact hK
theorem zm2{H:zaa}{id m:Nat}{l:List Int}(hid:H[id]? =some (.cells (avs (l.map iD))))(hl:l.length≤1000000)(hm:l.length=m):
  IcS Try.prog 58 [.os 1 id 0 m] H fun x H'=>x= .os 1 id 0 (cpI l).length∧H'=H.set id (.cells (avs ((cpI l).map iD))):=by subst hm;exact zrp hid hl
theorem zqn{H:zaa}{id m:Nat}{l:List Int}(hid:H[id]? =some (.cells (avs (l.map iD))))(hl:l.length≤1000000)(hm:l.length=m):
  IcS Try.prog 45 [.os 1 id 0 m] H fun x H'=>x= .tup []∧H'=H.set id (.cells (avs ((zb1 l).map iD))):=by subst hm;exact zyd hid hl
def DaR(R:zaa):Prop:=∀o∈R,∃l,o= .cells (avs l)
theorem DaR.rw(A:List (List D)):DaR (rwH A):=fun o ho=>by
 obtain⟨l,_,rfl⟩:=List.mem_map.1 ho
 exact⟨l,rfl⟩
theorem DaR.app{A B:zaa}(h:DaR A)(h':DaR B):DaR (A++B):=fun o ho=>(List.mem_append.1 ho).elim (h o) (h' o)
theorem DaR.set{A:zaa}(h:DaR A)(k:Nat)(l:List D):DaR (A.set k (.cells (avs l))):=fun o ho=>by
 rcases List.mem_or_eq_of_mem_set ho with ho|rfl
 ·exact h o ho
 ·exact⟨l,rfl⟩
theorem zm3{p:Nat→Bool}{x:AV}(hx:x.allI p=true):∀(l:List AV) (k:Nat),AV.allIs p l=true→AV.allIs p (l.set k x)=true
 |[],_,_=>rfl
 |y::l,0,h=>by
  rw[AV.allIs,Bool.and_eq_true]at h
  rw[List.set_cons_zero,AV.allIs,Bool.and_eq_true]
  exact⟨hx,h.2⟩
 |y::l,k+1,h=>by
  rw[AV.allIs,Bool.and_eq_true]at h
  rw[List.set_cons_succ,AV.allIs,Bool.and_eq_true]
  exact⟨h.1,zm3 hx l k h.2⟩
theorem jh3{n:Nat}{c0:AObj}{cA cB:List AV}{R:zaa}(h0:c0.allI (ltI (4+n+n))=true)(hA:AV.allIs (ltI (4+n+n)) cA=true)(hB:AV.allIs (ltI (4+n+n)) cB=true)(hR:R.length=n+n)(hd:DaR R):∀o∈(c0:: .cells cA:: .cells cB:: .cells [.os 1 1 0 n,.os 1 2 0 n]::R:zaa),o.allI (ltI (c0:: .cells cA:: .cells cB:: .cells [.os 1 1 0 n,.os 1 2 0 n]::R:zaa).length)=true:=by
 have e:(c0:: .cells cA:: .cells cB:: .cells [.os 1 1 0 n,.os 1 2 0 n]::R:zaa).length=4+n+n:=by simp[hR];omega
 rw[e]
 intro o ho
 simp only[List.mem_cons]at ho
 rcases ho with rfl|rfl|rfl|rfl|ho
 ·exact h0
 ·exact hA
 ·exact hB
 ·simp[AObj.allI,AV.allIs,AV.allI,ltI];omega
 ·obtain⟨l,rfl⟩:=hd o ho
  exact zg6 l
theorem zu6:∀(A:List (List D)) (n v:Nat) (l:List D),(hd n A).set v (.os 1 (n+v) 0 l.length)=hd n (A.set v l)
 |[],_,_,_=>rfl
 |a::A,n,0,l=>rfl
 |a::A,n,v+1,l=>by
  rw[hd,List.set_cons_succ,List.set_cons_succ,hd,show n+(v+1)=n+1+v by omega,zu6 A (n+1) v l]
theorem zu7(A:List (List D))(v:Nat)(l:List D):(rwH A).set v (.cells (avs l))=rwH (A.set v l):=by unfold rwH;rw[List.map_set]
theorem zbh(n:Nat)(es:List Ed)(c:Nat):(zj6 n es c).length=n:=by simp[zj6]
theorem zbi(n:Nat)(es:List Ed)(c:Nat):(zj7 n es c).length=n:=by simp[zj7]
theorem jh4(n:Nat)(es:List Ed):zj6 n es 0=ze4 n es:=by simp[zj6,ze4]
theorem jh5(n:Nat)(es:List Ed):zj7 n es 0=ze5 n es:=by simp[zj7,ze5]
theorem jdd{n v:Nat}{es:List Ed}(h:v<n):nth (zj6 n es v) v=(nxI es v).map iD:=by rw[zj6,za4 h,if_neg (Nat.lt_irrefl _)]
theorem jde{n v:Nat}{es:List Ed}(h:v<n):nth (zj7 n es v) v=(pvI es v).map iD:=by rw[zj7,za4 h,if_neg (Nat.lt_irrefl _)]
theorem ja2{n v:Nat}{es:List Ed}(h:v<n):(zj6 n es v).set v ((nxS es v).map iD)=zj6 n es (v+1):=by
 refine List.ext_getElem (by simp[zj6]) fun i h1 h2=>?_
 rw[List.getElem_set]
 split
 ·rename_i e;subst e;simp[zj6]
 ·rename_i e
  simp only[zj6,List.getElem_map,List.getElem_range]
  by_cases hi:i<v
  ·rw[if_pos hi,if_pos (by omega)]
  ·rw[if_neg hi,if_neg (by omega)]
theorem ja3{n v:Nat}{es:List Ed}(h:v<n):(zj7 n es v).set v ((pvS es v).map iD)=zj7 n es (v+1):=by
 refine List.ext_getElem (by simp[zj7]) fun i h1 h2=>?_
 rw[List.getElem_set]
 split
 ·rename_i e;subst e;simp[zj7]
 ·rename_i e
  simp only[zj7,List.getElem_map,List.getElem_range]
  by_cases hi:i<v
  ·rw[if_pos hi,if_pos (by omega)]
  ·rw[if_neg hi,if_neg (by omega)]
theorem zbz(ls:List (List D)):(fs2 ls).length=ls.length:=List.length_map _
theorem zu8(ls:List (List D)):(fs2 ls).map D.fix=fs2 ls:=zt8 (fun _=>rfl) ls
theorem jh6(es:List Ed)(v:Nat):(nxI es v).length≤es.length:=by rw[nxI,List.length_map];exact List.length_filter_le _ _
theorem jh7(es:List Ed)(v:Nat):(pvI es v).length≤es.length:=by rw[pvI,List.length_map];exact List.length_filter_le _ _
theorem zob{p q:Prop}(hq:q)(h:p=q:=by
 conv=>lhs;simp -dsimp -implicitDefEqProofs (disch:=first|assumption|omega|(simp only[r_z,zap,zbz,zbh,zbi]<;>omega)|decide) only[r_r,↓reduceIte,Nat.reduceEqDiff,Nat.reduceAdd,D.fix,Int.reduceToNat,Nat.reduceMul,Nat.reduceBNe,Nat.reduceBEq,zan,zoa,zdq,edC,zdp,zch,zej,zk2,zdh,zcs,zgm,zci,zbx,zby,zu1]):p:=h.mpr hq
theorem jdf{m:List Nat}{τ τ':Fr}{H H':zaa}(h2:H=H')(h:zgq τ τ':=by
 repeat (first|exact zaj _|refine zac ?_ (by first|rfl|(simp[r_f,zap,zbz,zbh,zbi];done)|simp[r_f,zap,zbz,zbh,zbi, *]))):Rt m τ H τ' H':=Rt.end h h2
theorem zu9{p q r:Prop}(e:r)(hq:q)(h:r→p=q:=by
 intro hY
 conv=>lhs;simp -dsimp -implicitDefEqProofs (disch:=first|assumption|omega|(simp only[r_z,zap,zbz,zbh,zbi]<;>omega)|decide) only[r_r,↓reduceIte,Nat.reduceEqDiff,Nat.reduceAdd,D.fix,Int.reduceToNat,Nat.reduceMul,Nat.reduceBNe,Nat.reduceBEq,zan,zoa,zdq,edC,zdp,zch,zej,zk2,zdh,zcs,zgm,zci,zbx,zby,zu1,hY]):p:=(h e).mpr hq
theorem jh8{p q r:Prop}(e:r)(hq:q)(h:r→p=q:=by
 intro hY
 conv=>lhs;simp -dsimp -implicitDefEqProofs (disch:=first|assumption|omega|(simp only[r_z,zap,zbz,zbh,zbi]<;>omega)|decide) only[r_r,↓reduceIte,Nat.reduceEqDiff,Nat.reduceAdd,D.fix,Int.reduceToNat,Nat.reduceMul,Nat.reduceBNe,Nat.reduceBEq,zan,zoa,zdq,edC,zdp,zch,zej,zk2,zdh,zcs,zgm,zci,zbx,zby,and_self,Bool.and_self,Bool.true_and,true_and,if_true,zu1,hY]):p:=(h e).mpr hq
theorem jh9{p q:Prop}(hq:q)(h:p=q:=by
 conv=>lhs;simp -dsimp -implicitDefEqProofs (disch:=first|assumption|omega|(simp only[r_z,zap,zbz,zbh,zbi]<;>omega)|decide) only[r_r,↓reduceIte,Nat.reduceEqDiff,Nat.reduceAdd,D.fix,Int.reduceToNat,Nat.reduceMul,Nat.reduceBNe,Nat.reduceBEq,zan,zoa,zdq,edC,zdp,zch,zej,zk2,zdh,zcs,zgm,zci,zbx,zby]):p:=h.mpr hq
theorem zyh{p q r:Prop}(e:r)(hq:q)(h:r→p=q:=by
 intro hY
 conv=>lhs;simp -dsimp -implicitDefEqProofs (disch:=first|assumption|omega|(simp only[r_z,zap,zbz,zbh,zbi]<;>omega)|decide) only[r_r,↓reduceIte,Nat.reduceEqDiff,Nat.reduceAdd,D.fix,Int.reduceToNat,Nat.reduceMul,Nat.reduceBNe,Nat.reduceBEq,r_w,zan,zoa,zdq,edC,zdp,zch,zej,zk2,zdh,zcs,zgm,zci,zbx,zby,zu1,hY]):p:=(h e).mpr hq
theorem jke{p q:Prop}(hq:q)(h:p=q:=by
 conv=>lhs;simp only[r_g,Nat.reduceAdd,↓reduceIte,Nat.reduceEqDiff,zan,zoa,zdq,edC,zdp,zch,zej,zk2,zdh,zcs,zgm,zci,zbx,zby]):p:=h.mpr hq
theorem zrr(n:Nat)(es:List Ed)(hn:n≤1000)(hl:es.length≤100000)(he:∀e∈es,e.1<n∧e.2<n):zar Try.prog 44 [iD (n:Int),zan es] (.d (.agg [.fs (fs2 (zj6 n es n)) n,.fs (fs2 (zj7 n es n)) n])):=by
 refine zay (fn:=Try.f44) (by kernel_rfl) Try.func44 rfl (Nat.le_of_ble_eq_true rfl) fun c hc hp=>?_
 refine zav (τ':=frL [(0,.d (iD (n:Int))),(1,.d (zan es))]) (by repeat (first|exact zaj _|refine zac ?_ (by first|rfl|(simp[r_f,zap,zbz,zbh,zbi];done)|simp[r_f,zap,zbz,zbh,zbi, *]))) ?_
 refine szq hp (fun _ hZ=>zob hZ) ?_
 refine zrq zam hc mixed rfl (q:=3) (by kernel_rfl) (by kernel_rfl) fun K2 hK2=>?_
 simp -dsimp -implicitDefEqProofs (disch:=first|assumption|omega|(simp only[r_z,zap,zbz,zbh,zbi]<;>omega)|decide) only[r_r,↓reduceIte,Nat.reduceEqDiff,Nat.reduceAdd,D.fix,Int.reduceToNat,Nat.reduceMul,Nat.reduceBNe,Nat.reduceBEq,zan,zoa,zdq,edC,zdp,zch,zej,zk2,zdh,zcs,zgm,zci,zbx,zby,jom,zu1]
 refine hK2 _ _ ?_
 refine zab fun K3 hK3=>?_
 refine szq hp (fun _ hZ=>zob hZ) ?_
 refine zae ?_
 refine zaq hp (fun τ' H' mm=>∃(k:Nat),(k≤es.length)∧mm=es.length - k∧H'= .cells (avs [.val (.slice none 0 0),.val (.slice none 0 0)]):: .cells (hd 4 (ze4 n (es.take k))):: .cells (hd (4+n) (ze5 n (es.take k))):: .cells [.os 1 1 0 n,.os 1 2 0 n]::(rwH (ze4 n (es.take k))++rwH (ze5 n (es.take k)))∧τ'=frL [(0,.d (iD (n:Int))),(4,.op 0 0),(5,.op 3 0),(14,.d (zan es)),(15,.d (iD (es.length:Int))),(16,.d (iD (k:Int)))]) (es.length) ?_ ⟨0,Nat.zero_le _,rfl,rfl,rfl⟩ ?_
 ·refine Rt.trans (Rt.rows2 n) ?_
  refine jdf ?_
  refine jke ?_;rw[List.take_zero,jc6,jc7];simp[gH];done
 rintro τ' H' mm ⟨k,hk,rfl,rfl,rfl⟩
 refine szq hp (fun _ hZ=>zob hZ) ?_
 refine zab fun K6 hK6=>?_
 refine zal rfl (fun ht=>?_) (fun ht=>?_)
 ·have hlt:k<es.length:=by simp at ht;omega
  have hmem:nth es k∈es:=by rw[za0 hlt];exact List.getElem_mem hlt
  obtain⟨ha,hb⟩:=he _ hmem
  have htk:es.take (k+1)=es.take k++[nth es k]:=zp4 hlt
  obtain⟨a,hae⟩:∃a,a=(nth es k).1:=⟨_,rfl⟩
  obtain⟨b,hbe⟩:∃b,b=(nth es k).2:=⟨_,rfl⟩
  have hede:edC (nth es k)=[iD (a:Int),iD (b:Int)]:=by rw[hae,hbe];rfl
  have hae':(((nth es k).1:Nat):Int)=(a:Int):=by rw[hae]
  have hbe':(((nth es k).2:Nat):Int)=(b:Int):=by rw[hbe]
  rw[←hae]at ha
  rw[←hbe]at hb
  obtain⟨A,hA⟩:∃A,A=ze4 n (es.take k):=⟨_,rfl⟩
  obtain⟨B,hB⟩:∃B,B=ze5 n (es.take k):=⟨_,rfl⟩
  have hAl:A.length=n:=by rw[hA,zu2]
  have hBl:B.length=n:=by rw[hB,zu3]
  obtain⟨R,hR⟩:∃R,R=rwH A++rwH B:=⟨_,rfl⟩
  have hRl:R.length=n+n:=by rw[hR];simp[zbo,hAl,hBl]
  rw[←hA,←hB,←hR]
  have hG0:∀r:zaa,(R++r)[R.length]? =r[0]? :=fun r=>jdb rfl
  have hG1:∀r:zaa,(R++r)[R.length+1]? =r[1]? :=fun r=>jh1 rfl
  have hS0:∀(r:zaa) (x:AObj),(R++r).set R.length x=R++r.set 0 x:=fun r x=>zu4 rfl
  have hS1:∀(r:zaa) (x:AObj),(R++r).set (R.length+1) x=R++r.set 1 x:=fun r x=>jdc rfl
  refine zah (hK6 _ _ ?_)
  refine zab fun K7 hK7=>?_
  refine zae ?_
  refine szq hp (fun _ hZ=>zu9 (sza hae' (sza hbe' (sza hG0 (sza hG1 (sza hS0 hS1))))) hZ) ?_
  refine zbg hp (τ':=frL [(0,.d (iD (n:Int))),(4,.op 0 0),(5,.op 3 0),(7,.d (.fp [iD (a:Int),iD (b:Int)] 0)),(14,.d (zan es)),(15,.d (iD (es.length:Int))),(16,.d (iD (k:Int)))]) (H':=.cells (avs [.val (.slice none 0 0),.val (.slice none 0 0)]):: .cells (hd 4 A):: .cells (hd (4+n) B):: .cells [.os 1 1 0 n,.os 1 2 0 n]::(R++[.dead])) ?_ ?_
  ·refine Rt.trans (Rt.fzT (4+n+n) [iD (a:Int),iD (b:Int)] (by rw[show 4+n+n=n+n+1+1+1+1 by omega];simp only[List.getElem?_cons_succ];rw[show n+n=R.length from hRl.symm,hG0];rfl) (by repeat (first|exact zaj _|refine zac ?_ (by simp[Fr.put,frL,fzV,iD,zan];try omega))) (τ1:=frL [(0,.d (iD (n:Int))),(4,.op 0 0),(5,.op 3 0),(7,.d (.fp [iD (a:Int),iD (b:Int)] 0)),(14,.d (zan es)),(15,.d (iD (es.length:Int))),(16,.d (iD (k:Int)))]) (H1:=gH (.cells (avs [.val (.slice none 0 0),.val (.slice none 0 0)])) (.cells [.os 1 1 0 n,.os 1 2 0 n]) A B++[.dead]) (by rw[←jda (A:=A) (B:=B) (N:=4+n+n) (by rw[hAl,hBl]) rfl rfl];congr 1;simp[gH,hR,hAl,avs,iD];done)) ?_
   refine jdf ?_
   refine jke ?_;simp[gH,hR,hAl];done
  obtain⟨R1,hR1⟩:∃R1,R1=R++[AObj.dead]:=⟨_,rfl⟩
  rw[←hR1]
  have hR1l:R1.length=n+n+1:=by rw[hR1,List.length_append,hRl];rfl
  have hg0:∀r:zaa,(R1++r)[R1.length]? =r[0]? :=fun r=>jdb rfl
  have hs0:∀(r:zaa) (x:AObj),(R1++r).set R1.length x=R1++r.set 0 x:=fun r x=>zu4 rfl
  have hgj:∀(r:zaa) (j:Nat),(R1++r)[R1.length+j]? =r[j]? :=fun r j=>jnl rfl j
  have hsj:∀(r:zaa) (j:Nat) (x:AObj),(R1++r).set (R1.length+j) x=R1++r.set j x:=fun r j x=>jh2 rfl j
  obtain⟨ra,hra⟩:∃ra,ra=(nxI (es.take k) a).map iD:=⟨_,rfl⟩
  obtain⟨rb,hrb⟩:∃rb,rb=(pvI (es.take k) b).map iD:=⟨_,rfl⟩
  have hAa:nth A a=ra:=by rw[hA,zyf ha,hra]
  have hBb:nth B b=rb:=by rw[hB,zyg hb,hrb]
  have hg1:(hd 4 A)[a]? =some (.os 1 (a+4) 0 ra.length):=by rw[zya (by omega),hAa,Nat.add_comm]
  have hg2:(hd (4+n) B)[b]? =some (.os 1 (n+b+4) 0 rb.length):=by rw[zya (by omega),hBb,show 4+n+b=n+b+4 by omega]
  have hRa:R1[a]? =some (.cells (avs ra)):=by rw[hR1,List.getElem?_append_left (by omega),hR,List.getElem?_append_left (by rw[zbo];omega),zd5 (by omega),hAa]
  have hRb:R[n+b]? =some (.cells (avs rb)):=by rw[hR,List.getElem?_append_right (by rw[zbo];omega),zbo,hAl,Nat.add_sub_cancel_left,zd5 (by omega),hBb]
  have hC0:∀r:zaa,(R1++r)[a]? =some (.cells (avs ra)):=fun r=>by rw[List.getElem?_append_left (by omega),hRa]
  have hC1:∀(r:zaa) (x:AObj),(R1++r).set a x=R1.set a x++r:=fun r x=>List.set_append_left _ _ (by omega)
  have hlal:ra.length≤100000:=by rw[hra,List.length_map,nxI,List.length_map];exact Nat.le_trans (List.length_filter_le _ _) (by simp;omega)
  have hlbl:rb.length≤100000:=by rw[hrb,List.length_map,pvI,List.length_map];exact Nat.le_trans (List.length_filter_le _ _) (by simp;omega)
  have hn1:(hd 4 A).length=n:=by rw[zfu,hAl]
  have hn2:(hd (4+n) B).length=n:=by rw[zfu,hBl]
  have hb1:(R1.length+1+1+1+1+1 !=1)=true:=by simp
  have hb2:(a+4 !=1)=true:=by simp
  have hb3:(a+1≤n)=True:=eq_true (by omega)
  have hb4:((0:Nat)≤1)=True:=eq_true (by omega)
  refine zba zam hc mixed rfl (q:=2) (by kernel_rfl) (by kernel_rfl) fun K9 hK9=>?_
  refine jh8 (sza hg1 (sza hn1 (sza hC0 (sza hC1 (sza hg0 (sza hs0 (sza hgj (sza hsj (sza hb1 (sza hb2 (sza hb3 hb4))))))))))) ?_
  obtain⟨la,hla⟩:∃la,la=ra++[iD (b:Int)]:=⟨_,rfl⟩
  have hlal':la.length=ra.length+1:=by rw[hla];simp
  obtain⟨A2,hA2⟩:∃A2,A2=A.set a la:=⟨_,rfl⟩
  have hA2l:A2.length=n:=by rw[hA2,List.length_set,hAl]
  obtain⟨R2,hR2⟩:∃R2,R2=rwH A2++rwH B:=⟨_,rfl⟩
  have hR2l:R2.length=n+n:=by rw[hR2];simp[zbo,hA2l,hBl]
  have hq1:R1.set a .dead++[.dead,.cells (avs la)]=(rwH A).set a .dead++rwH B++[.dead,.dead,.cells (avs la)]:=by
   rw[hR1,hR,List.set_append_left _ _ (by simp[zbo];omega),List.set_append_left _ _ (by rw[zbo];omega)];simp
  have hgm:(gH (.cells (avs [.val (.slice none 0 0),.val (.slice none 0 0)])) (.cells [.os 1 1 0 n,.os 1 2 0 n]) A B++[.dead,.dead,.cells (avs la)])[R1.length+5]? =some (.cells (avs la)):=by
   rw[List.getElem?_append_right (by rw[zd1];omega),zd1,show R1.length+5 - (4+A.length+B.length)=2 by omega];rfl
  have hg0':∀r:zaa,(R2++r)[R2.length]? =r[0]? :=fun r=>jdb rfl
  have hs0':∀(r:zaa) (x:AObj),(R2++r).set R2.length x=R2++r.set 0 x:=fun r x=>zu4 rfl
  have hgj':∀(r:zaa) (j:Nat),(R2++r)[R2.length+j]? =r[j]? :=fun r j=>jnl rfl j
  have hsj':∀(r:zaa) (j:Nat) (x:AObj),(R2++r).set (R2.length+j) x=R2++r.set j x:=fun r j x=>jh2 rfl j
  have hC0':∀r:zaa,(R2++r)[n+b]? =some (.cells (avs rb)):=fun r=>by
   rw[List.getElem?_append_left (by omega),hR2,List.getElem?_append_right (by rw[zbo];omega),zbo,hA2l,Nat.add_sub_cancel_left,zd5 (by omega),hBb]
  have hC1':∀(r:zaa) (x:AObj),(R2++r).set (n+b) x=R2.set (n+b) x++r:=fun r x=>List.set_append_left _ _ (by omega)
  have hb1':(R2.length+1+1+1+1+1 !=2)=true:=by simp
  have hb2':(n+b+4 !=2)=true:=by simp
  have hb3':(b+1≤n)=True:=eq_true (by omega)
  have hb4':((0:Nat)≤2)=True:=eq_true (by omega)
  refine hK9 _ _ ?_
  refine zbg hp (τ':=frL [(0,.d (iD (n:Int))),(4,.op 0 0),(5,.op 3 0),(7,.d (.fp [iD (a:Int),iD (b:Int)] 0)),(14,.d (zan es)),(15,.d (iD (es.length:Int))),(16,.d (iD (k:Int)))]) (H':=.cells (avs [.val (.slice none 0 0),.val (.slice none 0 0)]):: .cells (hd 4 A2):: .cells (hd (4+n) B):: .cells [.os 1 1 0 n,.os 1 2 0 n]::R2) ?_ ?_
  ·refine Rt.lessl (by repeat (first|exact zaj _|refine zac ?_ (by first|rfl|(simp[r_f,zap,zbz,zbh,zbi];done)|simp[r_f,zap,zbz,zbh,zbi, *]))) ?_
   refine Rt.trans (Rt.heap (H':=.cells (avs [.val (.slice none 0 0),.val (.slice none 0 0)]):: .cells ((hd 4 A).set a (.os 1 (R1.length+5) 0 la.length)):: .cells (hd (4+A.length) B):: .cells [.os 1 1 0 n,.os 1 2 0 n]::((rwH A).set a .dead++rwH B++[.dead,.dead,.cells (avs la)])) (by rw[←hq1,hlal',hAl,hla];rfl)) ?_
   refine Rt.trans (Rt.rowA (by omega) (by omega) hgm (by rfl) (by simp[AObj.allI,AV.allIs,AV.allI,okS]<;>omega) (fun t=>zc9 (by simp[AObj.allI,AV.allIs,AV.allI,okS]<;>omega) t)) ?_
   refine Rt.trans (Rt.heap (H':=.cells (avs [.val (.slice none 0 0),.val (.slice none 0 0)]):: .cells (hd 4 A2):: .cells (hd (4+n) B):: .cells [.os 1 1 0 n,.os 1 2 0 n]::R2) (by rw[gH,hR2,←hA2,hA2l])) ?_
   refine jdf ?_
   rfl
  refine zjx zam hc mixed rfl (q:=2) (by kernel_rfl) (by kernel_rfl) fun K10 hK10=>?_
  refine jh8 (sza hg2 (sza hn2 (sza hC0' (sza hC1' (sza hg0' (sza hs0' (sza hgj' (sza hsj' (sza hb1' (sza hb2' (sza hb3' hb4'))))))))))) ?_
  obtain⟨lb,hlb⟩:∃lb,lb=rb++[iD (a:Int)]:=⟨_,rfl⟩
  have hlbl':lb.length=rb.length+1:=by rw[hlb];simp
  have hq2:R2.set (n+b) .dead++[.dead,.cells (avs lb)]=rwH A2++(rwH B).set b .dead++[.dead,.cells (avs lb)]:=by
   rw[hR2,List.set_append_right _ _ (by rw[zbo];omega),zbo,hA2l,Nat.add_sub_cancel_left]
  have hgm2:(gH (.cells (avs [.val (.slice none 0 0),.val (.slice none 0 0)])) (.cells [.os 1 1 0 n,.os 1 2 0 n]) A2 B++[.dead,.cells (avs lb)])[R2.length+5]? =some (.cells (avs lb)):=by
   rw[List.getElem?_append_right (by rw[zd1];omega),zd1,show R2.length+5 - (4+A2.length+B.length)=1 by omega];rfl
  have hfA:A2=ze4 n (es.take (k+1)):=by
   have:=jc8 (n:=n) (es:=es.take k) (e:=nth es k) (by omega)
   rw[hA2,hla,hra,hA,hae,hbe,this,htk]
  have hfB:B.set b lb=ze5 n (es.take (k+1)):=by
   have:=jc9 (n:=n) (es:=es.take k) (e:=nth es k) (by omega)
   rw[hlb,hrb,hB,hae,hbe,this,htk]
  refine hK10 _ _ (hK7 _ _ ?_)
  refine zbc hp zam hc rfl fun K11 hK11=>?_
  refine zob ?_
  refine hK11 _ _ ⟨_,_,_,?_,⟨k+1,by omega,rfl,rfl,rfl⟩,?_⟩
  ·first|omega|(simp only[List.length_cons];omega)|(dsimp only;omega)
  ·refine Rt.lessl (by repeat (first|exact zaj _|refine zac ?_ (by first|rfl|(simp[r_f,zap,zbz,zbh,zbi];done)|simp[r_f,zap,zbz,zbh,zbi, *]))) ?_
   refine Rt.trans (Rt.heap (H':=.cells (avs [.val (.slice none 0 0),.val (.slice none 0 0)]):: .cells (hd 4 A2):: .cells ((hd (4+A2.length) B).set b (.os 1 (R2.length+5) 0 lb.length)):: .cells [.os 1 1 0 n,.os 1 2 0 n]::(rwH A2++(rwH B).set b .dead++[.dead,.cells (avs lb)])) (by rw[←hq2,hlbl',hA2l,hlb];rfl)) ?_
   refine Rt.trans (Rt.rowB (by omega) (by omega) hgm2 (by rfl) (by simp[AObj.allI,AV.allIs,AV.allI,okS]<;>omega) (fun t=>zc9 (by simp[AObj.allI,AV.allIs,AV.allI,okS]<;>omega) t)) ?_
   refine jdf ?_
   rw[hfB,gH,←hfA,hA2l]
 ·have hke:k=es.length:=by simp at ht;omega
  subst hke
  rw[List.take_length]
  refine zaz (hK3 _ _ ?_)
  refine zab fun K12 hK12=>?_
  refine szq hp (fun _ hZ=>jh9 hZ) ?_
  refine zae ?_
  refine zaq hp (fun τ' H' mm=>∃(v:Nat),(v≤n)∧mm=n - v∧H'= .cells (avs [.val (.slice none 0 0),.val (.slice none 0 0)]):: .cells (hd 4 (zj6 n es v)):: .cells (hd (4+n) (zj7 n es v)):: .cells [.os 1 1 0 n,.os 1 2 0 n]::(rwH (zj6 n es v)++rwH (zj7 n es v))∧τ'=frL [(0,.d (iD (n:Int))),(4,.op 0 0),(5,.op 3 0),(51,.d (iD (n:Int))),(52,.d (iD (v:Int)))]) (n) ?_ ⟨0,Nat.zero_le _,rfl,rfl,rfl⟩ ?_
  ·refine jdf ?_
   refine jke ?_;simp[jh4,jh5];done
  rintro τ' H' mm ⟨v,hv,rfl,rfl,rfl⟩
  refine szq hp (fun _ hZ=>zob hZ) ?_
  refine zab fun K15 hK15=>?_
  refine zal rfl (fun ht=>?_) (fun ht=>?_)
  ·have hvn:v<n:=by simp at ht;omega
   obtain⟨A,hA⟩:∃A,A=zj6 n es v:=⟨_,rfl⟩
   obtain⟨B,hB⟩:∃B,B=zj7 n es v:=⟨_,rfl⟩
   have hAl:A.length=n:=by rw[hA,zbh]
   have hBl:B.length=n:=by rw[hB,zbi]
   obtain⟨R,hR⟩:∃R,R=rwH A++rwH B:=⟨_,rfl⟩
   have hRl:R.length=n+n:=by rw[hR];simp[zbo,hAl,hBl]
   have hRd:DaR R:=by rw[hR];exact(DaR.rw A).app (DaR.rw B)
   rw[←hA,←hB,←hR]
   have hAa:nth A v=(nxI es v).map iD:=by rw[hA,jdd hvn]
   have hBb:nth B v=(pvI es v).map iD:=by rw[hB,jde hvn]
   have ha1:=jh6 es v
   have hb1:=jh7 es v
   obtain⟨la,hla⟩:∃la,la=nxI es v:=⟨_,rfl⟩
   obtain⟨lb,hlb⟩:∃lb,lb=pvI es v:=⟨_,rfl⟩
   rw[←hla]at hAa ha1
   rw[←hlb]at hBb hb1
   have hg1:(hd 4 A)[v]? =some (.os 1 (v+4) 0 la.length):=by rw[zya (by omega),hAa,Nat.add_comm,List.length_map]
   have hg2:(hd (4+n) B)[v]? =some (.os 1 (n+v+4) 0 lb.length):=by rw[zya (by omega),hBb,show 4+n+v=n+v+4 by omega,List.length_map]
   have hRa:R[v]? =some (.cells (avs (la.map iD))):=by rw[hR,List.getElem?_append_left (by rw[zbo];omega),zd5 (by omega),hAa]
   have hRb:R[n+v]? =some (.cells (avs (lb.map iD))):=by rw[hR,List.getElem?_append_right (by rw[zbo];omega),zbo,hAl,Nat.add_sub_cancel_left,zd5 (by omega),hBb]
   have hn1:(hd 4 A).length=n:=by rw[zfu,hAl]
   have hn2:(hd (4+n) B).length=n:=by rw[zfu,hBl]
   have hq1:AV.allIs (ltI (4+n+n)) (hd 4 A)=true:=ziv _ _ fun i h1 h2=>by simp[ltI];omega
   have hq2:AV.allIs (ltI (4+n+n)) (hd (4+n) B)=true:=ziv _ _ fun i h1 h2=>by simp[ltI];omega
   refine zah (hK15 _ _ ?_)
   refine zab fun K16 hK16=>?_
   refine zae ?_
   refine szq hp (fun _ hZ=>jh9 hZ) ?_
   refine zag hp zam hc rfl fun K18 hK18=>?_
   refine zu9 (sza hg1 hn1) ?_
   refine zj8 (zqn (l:=la) (by simp only[List.getElem?_cons_succ];exact hRa) (by omega) rfl) ?_
   refine zu9 (sza hg1 hn1) ?_
   refine hK18 _ _ ?_
   refine zj1 zam hp hc mixed rfl [(0,[]),(1,[]),(2,[]),(3,[]),(4,[]),(5,[]),(6,[]),(7,[]),(8,[1]),(9,[]),(10,[])] [[],[0],[],[],[3],[],[3,4,5],[3,4,5,6],[3,4,5,6,7],[0,1,2,3,4,5,6,7,8],[0,1,2,3,4,5,6,7,8,9]] 0 (by kernel_rfl) fun K19 hK19=>?_
   refine zyh (sza hg1 hn1) ?_
   refine ja1 (zm2 (l:=zb1 la) (by simp only[List.getElem?_cons_succ];exact List.getElem?_set_self (by omega)) (by rw[zbq];omega) (zbq _)) (by simp) (Nat.le_of_eq rfl) (by simp[AV.allIs,AV.allI,ltI,hRl];omega) (jh3 rfl hq1 hq2 (by simp[hRl]) (hRd.set _ _)) rfl ?_
   refine zyh (sza hg1 hn1) ?_
   refine hK19 _ _ ?_
   refine zag hp zam hc rfl fun K20 hK20=>?_
   refine zu9 (sza hg2 hn2) ?_
   refine zj8 (zqn (l:=lb) (by simp only[List.getElem?_cons_succ];rw[List.getElem?_set_ne (by omega),List.getElem?_set_ne (by omega)];exact hRb) (by omega) rfl) ?_
   refine zu9 (sza hg2 hn2) ?_
   refine hK20 _ _ ?_
   refine jaq zam hp hc mixed rfl [(0,[]),(1,[]),(2,[]),(3,[]),(4,[]),(5,[]),(6,[]),(7,[]),(8,[1]),(9,[]),(10,[])] [[],[0],[],[],[3],[],[3,4,5],[3,4,5,6],[3,4,5,6,7],[0,1,2,3,4,5,6,7,8],[0,1,2,3,4,5,6,7,8,9]] 0 (by kernel_rfl) fun K21 hK21=>?_
   refine zyh (sza hg2 hn2) ?_
   refine ja1 (zm2 (l:=zb1 lb) (by simp only[List.getElem?_cons_succ];exact List.getElem?_set_self (by simp;omega)) (by rw[zbq];omega) (zbq _)) (by simp) (Nat.le_of_eq rfl) (by simp[AV.allIs,AV.allI,ltI,hRl];omega) (jh3 rfl (zm3 (by simp[AV.allI,ltI];omega) _ _ hq1) hq2 (by simp[hRl]) (((hRd.set _ _).set _ _).set _ _)) rfl ?_
   refine zyh (sza hg2 hn2) ?_
   refine hK21 _ _ (hK16 _ _ ?_)
   refine zbc hp zam hc rfl fun K22 hK22=>?_
   refine zob ?_
   have hf1:(hd 4 A).set v (.os 1 (v+4) 0 (cpI (zb1 la)).length)=hd 4 (zj6 n es (v+1)):=by
    have e:=zu6 A 4 v ((cpI (zb1 la)).map iD)
    rw[List.length_map,Nat.add_comm 4 v]at e
    rw[e,hA,hla];exact congrArg _ (ja2 hvn)
   have hf2:(hd (4+n) B).set v (.os 1 (n+v+4) 0 (cpI (zb1 lb)).length)=hd (4+n) (zj7 n es (v+1)):=by
    have e:=zu6 B (4+n) v ((cpI (zb1 lb)).map iD)
    rw[List.length_map,show 4+n+v=n+v+4 by omega]at e
    rw[e,hB,hlb];exact congrArg _ (ja3 hvn)
   have hf3:(((R.set v (.cells (avs ((zb1 la).map iD)))).set v (.cells (avs ((cpI (zb1 la)).map iD)))).set (n+v) (.cells (avs ((zb1 lb).map iD)))).set (n+v) (.cells (avs ((cpI (zb1 lb)).map iD)))=rwH (zj6 n es (v+1))++rwH (zj7 n es (v+1)):=by
    rw[List.set_set,List.set_set,hR,List.set_append_left _ _ (by rw[zbo];omega),zu7,List.set_append_right _ _ (by rw[zbo,List.length_set];omega),zbo,List.length_set,hAl,Nat.add_sub_cancel_left,zu7,hA,hB,hla,hlb]
    exact congr (congrArg _ (congrArg rwH (ja2 hvn))) (congrArg rwH (ja3 hvn))
   refine hK22 _ _ ⟨_,_,_,?_,⟨v+1,by omega,rfl,rfl,rfl⟩,?_⟩
   ·first|omega|(simp only[List.length_cons];omega)|(dsimp only;omega)
   ·refine jdf ?_
    refine jke ?_;rw[hf1,hf2,hf3]
  ·have hve:v=n:=by simp at ht;omega
   rw[hve]
   refine zaz (hK12 _ _ ?_)
   refine zbg hp (τ':=frL [(4,.op 0 0),(5,.op 3 0)]) (H':=[.cells (avs [.val (.slice none 0 0),.val (.slice none 0 0)]),.cells (avs (fs2 (zj6 n es n))),.cells (avs (fs2 (zj7 n es n))),.cells [.os 1 1 0 n,.os 1 2 0 n]]) ?_ ?_
   ·refine Rt.lessl (by repeat (first|exact zaj _|refine zac ?_ (by first|rfl|(simp[r_f,zap,zbz,zbh,zbi];done)|simp[r_f,zap,zbz,zbh,zbi, *]))) ?_
    refine Rt.trans (Rt.heap (H':=gH (.cells (avs [.val (.slice none 0 0),.val (.slice none 0 0)])) (.cells [.os 1 1 0 n,.os 1 2 0 n]) (zj6 n es n) (zj7 n es n)) (by rw[gH,zbh];rfl)) ?_
    refine Rt.trans (Rt.gH_all (fun t=>zc9 (by rfl) t) (by rfl) (by rfl)) ?_
    refine jdf ?_
    rfl
   refine szq hp (fun _ hZ=>zob hZ) ?_
   refine zas ?_
   try dsimp only[zc4,za8]
   refine zcl rfl ?_
   simp -dsimp -implicitDefEqProofs (disch:=first|assumption|omega|(simp only[r_z,zap,zbz,zbh,zbi]<;>omega)|decide) only[r_r,↓reduceIte,Nat.reduceEqDiff,Nat.reduceAdd,D.fix,Int.reduceToNat,Nat.reduceMul,Nat.reduceBNe,Nat.reduceBEq,zan,zoa,zdq,edC,zdp,zch,zej,zk2,zdh,zcs,zgm,zci,zbx,zby,zit,zut]
   show closeA _ _=_
   simp (disch:=first|assumption|omega|(simp only[r_z,zap,zbz,zbh,zbi]<;>omega)|decide) only[r_c,Nat.reduceAdd,D.fix,↓reduceIte,Nat.reduceEqDiff,zan,zoa,zdq,edC,zdp,zch,zej,zk2,zdh,zcs,zgm,zci,zbx,zby,zu8]
end Go.Proofs.Ytfolbdkbpmgjgaa
