/- Of no program: rows of rows of the call's own, two of them, as many rows as there are. -/
import Derived.Test.YtfolbdkbpmgjgaaAZ
import Derived.Test.YtfolbdkbpmgjgaaAF
set_option linter.unusedVariables false
set_option linter.unusedSimpArgs false
namespace Go.Proofs.Ytfolbdkbpmgjgaa
open Go Go.RowKit
def hd(n:Nat):List (List D)→List AV
 |[]=>[]
 |l::ls=>.os 1 n 0 l.length::hd (n+1) ls
def rwH(ls:List (List D)):zaa:=ls.map fun l=>.cells (avs l)
theorem zf7:∀(ls:List (List D)) (n:Nat),(hd n ls).length=ls.length
 |[],_=>rfl
 |_::ls,n=>by rw[hd,List.length_cons,zf7 ls,List.length_cons]
theorem zbu(ls:List (List D)):(rwH ls).length=ls.length:=List.length_map _
theorem zrp:∀(ls:List (List D)) (n k:Nat),(hd n ls)[k]? =(ls[k]?).map fun l=>.os 1 (n+k) 0 l.length
 |[],_,_=>by simp[hd]
 |l::ls,n,0=>by simp[hd]
 |l::ls,n,k+1=>by
  rw[hd,List.getElem?_cons_succ,zrp ls,List.getElem?_cons_succ,show n+1+k=n+(k+1) by omega]
theorem jag{ls:List (List D)}{n k:Nat}(h:k<ls.length):(hd n ls)[k]? =some (.os 1 (n+k) 0 (nth ls k).length):=by rw[zrp,zv0 h];rfl
theorem zei{ls:List (List D)}{k:Nat}(h:k<ls.length):(rwH ls)[k]? =some (.cells (avs (nth ls k))):=by rw[rwH,zbk h]
theorem jdm:∀(a b:List (List D)) (n:Nat),hd n (a++b)=hd n a++hd (n+a.length) b
 |[],b,n=>rfl
 |l::a,b,n=>by
  rw[List.cons_append,hd,hd,jdm a b,List.cons_append,List.length_cons,show n+1+a.length=n+(a.length+1) by omega]
theorem jfk(a b:List (List D)):rwH (a++b)=rwH a++rwH b:=List.map_append
theorem zlx:∀{l:List Nat} {j x:Nat},l.Nodup→l[j]? =some x→posN l x=some j
 |[],_,_,_,h=>by simp at h
 |a::l,0,x,_,h=>by
  simp at h;subst h
  simp[posN]
 |a::l,j+1,x,hn,h=>by
  obtain⟨h1,h2⟩:=List.nodup_cons.1 hn
  rw[List.getElem?_cons_succ]at h
  have:x≠a:=fun e=>h1 (e▸List.mem_of_getElem? h)
  rw[posN,if_neg this,zlx h2 h];rfl
def swK(N k m:Nat):List Nat:=(List.range N).map fun i=>if i=k then m else i
theorem jfl(N k m:Nat):(swK N k m).length=N:=by simp[swK]
theorem zpa{N k m i:Nat}(h:i<N):(swK N k m)[i]? =some (if i=k then m else i):=by
 rw[swK,List.getElem?_map,List.getElem?_range h];rfl
theorem zjl{N k m:Nat}(hm:N≤m):(swK N k m).Nodup:=by
 refine List.pairwise_map.2 (List.Pairwise.imp_of_mem (fun ha hb hne=>?_) List.nodup_range)
 rw[List.mem_range]at ha hb
 split<;>split<;>omega
theorem zly{N k m i:Nat}(hm:N≤m)(hi:i<N)(hk:i≠k):posN (swK N k m) i=some i:=zlx (zjl hm) (by rw[zpa hi,if_neg hk])
theorem jfm{N k m:Nat}(hm:N≤m)(hk:k<N):posN (swK N k m) m=some k:=zlx (zjl hm) (by rw[zpa hk,if_pos rfl])
def okS(N k i:Nat):Bool:=decide (i<N)&&decide (i≠k)
mutual
theorem jah{N k m:Nat}(hm:N≤m):∀x:AV,x.allI (okS N k)=true→gcV (swK N k m) x=x
 | .any,_=>by rw[gcV]
 | .d x,_=>by rw[gcV]
 | .os q id off n,h=>by
  have h:okS N k id=true:=by simpa[AV.allI]using h
  simp only[okS,Bool.and_eq_true,decide_eq_true_eq]at h
  rw[gcV,zly hm h.1 h.2]
 | .op id off,h=>by
  have h:okS N k id=true:=by simpa[AV.allI]using h
  simp only[okS,Bool.and_eq_true,decide_eq_true_eq]at h
  rw[gcV,zly hm h.1 h.2]
 | .om id,h=>by
  have h:okS N k id=true:=by simpa[AV.allI]using h
  simp only[okS,Bool.and_eq_true,decide_eq_true_eq]at h
  rw[gcV,zly hm h.1 h.2]
 | .agg cs,h=>by rw[gcV,zg3 hm cs (by simpa[AV.allI]using h)]
 | .tup cs,h=>by rw[gcV,zg3 hm cs (by simpa[AV.allI]using h)]
 | .clo fn fi ca,h=>by
  rw[AV.allI,Bool.and_eq_true]at h
  rw[gcV,zg3 hm fi h.1,zg3 hm ca h.2]
theorem zg3{N k m:Nat}(hm:N≤m):∀cs:List AV,AV.allIs (okS N k) cs=true→gcVs (swK N k m) cs=cs
 |[],_=>by rw[gcVs]
 |x::l,h=>by
  rw[AV.allIs,Bool.and_eq_true]at h
  rw[gcVs,jah hm x h.1,zg3 hm l h.2]
end
theorem znx{N k m:Nat}(hm:N≤m)(o:AObj)(h:o.allI (okS N k)=true):gcO (swK N k m) o=o:=by
 cases o with
 |free=>rfl
 |dead=>rfl
 |cells cs=>simp only[gcO,zg3 hm cs h]
 |map es clock=>
  simp only[gcO]
  congr 1
  refine(List.map_congr_left fun e he=>?_).trans (List.map_id es)
  obtain⟨j,hj,rfl⟩:=List.getElem_of_mem he
  have:=AV.allIs_get (j:=j) (x:=es[j].2.2) (show AV.allIs (okS N k) (es.map (·.2.2))=true from h) (by rw[List.getElem?_map,List.getElem?_eq_getElem hj];rfl)
  rw[jah hm _ this];rfl
 |loop b r fr=>simp only[gcO,zg3 hm fr h]
theorem Rt.swap{τ:Fr}{H H':zaa}(N k m:Nat){o:AObj}(hk:k<N)(hm:N≤m)(hl:m<H.length)(hτ:∀t,(τ t).allI (okS N k)=true)(ho:H[m]? =some o)(hoo:o.allI (okS N k)=true)(hlen:H'.length=N)(hHk:H'[k]? =some o)
  (hH:∀i,i<N→i≠k→∃x,H[i]? =some x∧H'[i]? =some (gcO (swK N k m) x)):Rt [] τ H τ H':=by
 have hg:Rt [] τ H _ _:=Rt.gc (keep:=swK N k m) (by simp) (zjl hm) (fun i hi=>by
  obtain⟨j,hj,rfl⟩:=List.mem_map.1 hi
  rw[List.mem_range]at hj
  split<;>omega)
 have e:(fun t=>gcV (swK N k m) (τ t))=τ:=funext fun t=>jah hm _ (hτ t)
 rw[e]at hg
 refine hg.trans (Rt.heap ?_)
 refine List.ext_getElem? fun i=>?_
 unfold gcH
 rw[List.getElem?_map]
 by_cases hi:i<N
 ·rw[zpa hi,Option.map_some]
  by_cases hik:i=k
  ·subst hik
   rw[if_pos rfl,hHk,List.getD_eq_getElem?_getD,ho]
   simp only[Option.getD_some,znx hm o hoo]
  ·obtain⟨x,h1,h2⟩:=hH i hi hik
   rw[if_neg hik,h2,List.getD_eq_getElem?_getD,h1];rfl
 ·rw[List.getElem?_eq_none (by rw[jfl];omega),List.getElem?_eq_none (by omega)];rfl
theorem zjm{p:Nat→Bool}:∀(ls:List (List D)) (n:Nat),(∀i,n≤i→i<n+ls.length→p i=true)→AV.allIs p (hd n ls)=true
 |[],_,_=>rfl
 |l::ls,n,h=>by
  rw[hd,AV.allIs,Bool.and_eq_true]
  exact⟨h n (Nat.le_refl _) (by simp),zjm ls (n+1) fun i h1 h2=>h i (by omega) (by simp;omega)⟩
theorem jkp{N k m n j:Nat}{ls:List (List D)}{l:List D}(hm:N≤m)(hj:j<ls.length)(hk:k=n+j)(hN:n+ls.length≤N):gcVs (swK N k m) ((hd n ls).set j (.os 1 m 0 l.length))=hd n (ls.set j l):=by
 subst hk
 rw[zdz]
 refine List.ext_getElem? fun i=>?_
 rw[List.getElem?_map,List.getElem?_set,zf7,zrp,zrp,List.getElem?_set]
 by_cases hij:j=i
 ·subst hij
  rw[if_pos rfl,if_pos hj,if_pos rfl,if_pos hj]
  simp only[Option.map_some]
  rw[gcV,jfm hm (by omega)]
 ·rw[if_neg hij,if_neg hij]
  cases hl:ls[i]? with
  |none=>rfl
  |some x=>
   have hil:=(List.getElem?_eq_some_iff.1 hl).1
   simp only[Option.map_some]
   rw[gcV,zly hm (by omega) (by omega)]
theorem zhr{p:Nat→Bool}:∀l:List D,AV.allIs p (avs l)=true
 |[]=>rfl
 |x::l=>by
  rw[zet,AV.allIs,Bool.and_eq_true]
  exact⟨rfl,zhr l⟩
theorem zs8{N k m:Nat}(hm:N≤m)(l:List D):gcO (swK N k m) (.cells (avs l))= .cells (avs l):=znx hm _ (show AV.allIs _ (avs l)=true from zhr l)
def gH(o0 o3:AObj)(A B:List (List D)):zaa:=o0:: .cells (hd 4 A):: .cells (hd (4+A.length) B)::o3::(rwH A++rwH B)
theorem zd9(o0 o3:AObj)(A B:List (List D)):(gH o0 o3 A B).length=4+A.length+B.length:=by simp[gH,rwH];omega
theorem zrq{o0 o3:AObj}{A B:List (List D)}{i:Nat}:(gH o0 o3 A B)[4+i]? =(rwH A++rwH B)[i]? :=by
 rw[show 4+i=i+1+1+1+1 by omega];rfl
theorem Rt.rowA{τ:Fr}{o0 o3:AObj}{A B:List (List D)}{G:zaa}{k m:Nat}{l:List D}{x:AObj}(hk:k<A.length)(hm:4+A.length+B.length≤m)(hG:((gH o0 o3 A B)++G)[m]? =some (.cells (avs l)))
  (h0:o0.allI (okS (4+A.length+B.length) (4+k))=true) (h3:o3.allI (okS (4+A.length+B.length) (4+k))=true) (hτ:∀t,(τ t).allI (okS (4+A.length+B.length) (4+k))=true):
  Rt [] τ (o0:: .cells ((hd 4 A).set k (.os 1 m 0 l.length)):: .cells (hd (4+A.length) B)::o3::((rwH A).set k x++rwH B++G)) τ (gH o0 o3 (A.set k l) B):=by
 have hml:m<(gH o0 o3 A B++G).length:=(List.getElem?_eq_some_iff.1 hG).1
 have hGm:∀(Z:zaa),Z.length=4+A.length+B.length→(Z++G)[m]? =some (.cells (avs l)):=fun Z hZ=>by
  rw[List.getElem?_append_right (by omega),hZ]
  rw[List.getElem?_append_right (by rw[zd9];omega),zd9]at hG
  exact hG
 have e:(o0::AObj.cells ((hd 4 A).set k (.os 1 m 0 l.length)):: .cells (hd (4+A.length) B)::o3::((rwH A).set k x++rwH B++G))=(o0:: .cells ((hd 4 A).set k (.os 1 m 0 l.length)):: .cells (hd (4+A.length) B)::o3::((rwH A).set k x++rwH B))++G:=by simp
 have hZ:(o0::AObj.cells ((hd 4 A).set k (.os 1 m 0 l.length)):: .cells (hd (4+A.length) B)::o3::((rwH A).set k x++rwH B)).length=4+A.length+B.length:=by simp[rwH];omega
 rw[e]
 refine Rt.swap (4+A.length+B.length) (4+k) m (by omega) hm (by rw[List.length_append,hZ];rw[List.length_append,zd9]at hml;exact hml) hτ (hGm _ hZ) (zhr l) (by rw[zd9,List.length_set]) ?_ fun i hi hik=>?_
 ·rw[zrq,rwH,List.map_set,List.getElem?_append_left (by simp;omega),List.getElem?_set_self (by simpa using hk)]
 ·rw[List.getElem?_append_left (by rw[hZ];exact hi)]
  match i,hi,hik with
  |0,_,_=>exact⟨_,rfl,by rw[znx hm o0 h0];rfl⟩
  |1,_,_=>exact⟨_,rfl,by simp only[gcO];rw[jkp hm hk rfl (by omega)];rfl⟩
  |2,_,_=>exact⟨_,rfl,by
    simp only[gcO]
    rw[zg3 hm _ (zjm B _ fun i h1 h2=>by simp[okS];omega),gH,List.length_set];rfl⟩
  |3,_,_=>exact⟨_,rfl,by rw[znx hm o3 h3];rfl⟩
  |i+4,hi,hik=>
   rw[show i+4=4+i by omega,zrq,show 4+i=i+1+1+1+1 by omega]
   simp only[List.getElem?_cons_succ]
   by_cases hA:i<A.length
   ·rw[List.getElem?_append_left (by simp[rwH];omega),List.getElem?_set_ne (by omega),zei hA,rwH,List.map_set,List.getElem?_append_left (by simp;omega),List.getElem?_set_ne (by omega)]
    exact⟨_,rfl,by rw[zs8 hm];exact zei hA⟩
   ·rw[List.getElem?_append_right (by simp[rwH];omega),List.length_set,zbu,zei (by omega)]
    refine⟨_,rfl,?_⟩
    rw[zs8 hm,List.getElem?_append_right (by simp[rwH];omega),zbu,List.length_set,zei (by omega)]
theorem Rt.rowB{τ:Fr}{o0 o3:AObj}{A B:List (List D)}{G:zaa}{k m:Nat}{l:List D}{x:AObj}(hk:k<B.length)(hm:4+A.length+B.length≤m)(hG:((gH o0 o3 A B)++G)[m]? =some (.cells (avs l)))
  (h0:o0.allI (okS (4+A.length+B.length) (4+A.length+k))=true) (h3:o3.allI (okS (4+A.length+B.length) (4+A.length+k))=true) (hτ:∀t,(τ t).allI (okS (4+A.length+B.length) (4+A.length+k))=true):
  Rt [] τ (o0:: .cells (hd 4 A):: .cells ((hd (4+A.length) B).set k (.os 1 m 0 l.length))::o3::(rwH A++(rwH B).set k x++G)) τ (gH o0 o3 A (B.set k l)):=by
 have hml:m<(gH o0 o3 A B++G).length:=(List.getElem?_eq_some_iff.1 hG).1
 have hGm:∀(Z:zaa),Z.length=4+A.length+B.length→(Z++G)[m]? =some (.cells (avs l)):=fun Z hZ=>by
  rw[List.getElem?_append_right (by omega),hZ]
  rw[List.getElem?_append_right (by rw[zd9];omega),zd9]at hG
  exact hG
 have e:(o0::AObj.cells (hd 4 A):: .cells ((hd (4+A.length) B).set k (.os 1 m 0 l.length))::o3::(rwH A++(rwH B).set k x++G))=(o0:: .cells (hd 4 A):: .cells ((hd (4+A.length) B).set k (.os 1 m 0 l.length))::o3::(rwH A++(rwH B).set k x))++G:=by simp
 have hZ:(o0::AObj.cells (hd 4 A):: .cells ((hd (4+A.length) B).set k (.os 1 m 0 l.length))::o3::(rwH A++(rwH B).set k x)).length=4+A.length+B.length:=by simp[rwH];omega
 rw[e]
 refine Rt.swap (4+A.length+B.length) (4+A.length+k) m (by omega) hm (by rw[List.length_append,hZ];rw[List.length_append,zd9]at hml;exact hml) hτ (hGm _ hZ) (zhr l) (by rw[zd9,List.length_set]) ?_ fun i hi hik=>?_
 ·rw[show 4+A.length+k=4+(A.length+k) by omega,zrq,List.getElem?_append_right (by simp[rwH]),zbu,show A.length+k - A.length=k by omega,rwH,List.map_set,List.getElem?_set_self (by simpa using hk)]
 ·rw[List.getElem?_append_left (by rw[hZ];exact hi)]
  match i,hi,hik with
  |0,_,_=>exact⟨_,rfl,by rw[znx hm o0 h0];rfl⟩
  |1,_,_=>exact⟨_,rfl,by
    simp only[gcO]
    rw[zg3 hm _ (zjm A _ fun i h1 h2=>by simp[okS];omega)];rfl⟩
  |2,_,_=>exact⟨_,rfl,by simp only[gcO];rw[jkp hm hk rfl (by omega)];rfl⟩
  |3,_,_=>exact⟨_,rfl,by rw[znx hm o3 h3];rfl⟩
  |i+4,hi,hik=>
   rw[show i+4=4+i by omega,zrq,show 4+i=i+1+1+1+1 by omega]
   simp only[List.getElem?_cons_succ]
   by_cases hA:i<A.length
   ·rw[List.getElem?_append_left (by simp[rwH];omega),zei hA,List.getElem?_append_left (by simp[rwH];omega)]
    exact⟨_,rfl,by rw[zs8 hm];exact zei hA⟩
   ·rw[List.getElem?_append_right (by simp[rwH];omega),zbu,List.getElem?_set_ne (by omega),zei (by omega)]
    refine⟨_,rfl,?_⟩
    rw[zs8 hm,List.getElem?_append_right (by simp[rwH];omega),zbu,rwH,List.map_set,List.getElem?_set_ne (by omega)]
    exact zei (by omega)
/- Of no program: two rows of rows: as many empty rows; all rows become data. -/
theorem jkq(N:Nat):∀j,hd N (List.replicate (j+1) [])=hd N (List.replicate j [])++[.os 1 (N+j) 0 0]:=fun j=>by
 rw[List.replicate_succ',jdm,List.length_replicate];rfl
theorem Rt.nils{τ:Fr}{H:zaa}{id K:Nat}(hid:H[id]? =some (.cells (avs (List.replicate K (.val (.slice none 0 0)))))):∀j,j≤K→
  Rt [] τ H τ (H.set id (.cells (hd H.length (List.replicate j [])++avs (List.replicate (K - j) (.val (.slice none 0 0)))))++rwH (List.replicate j []))
 |0,_=>Rt.heap (by
  have hlt:=(List.getElem?_eq_some_iff.1 hid).1
  refine(List.ext_getElem? fun i=>?_)
  simp only[List.replicate_zero,hd,List.nil_append,rwH,List.map_nil,List.append_nil,Nat.sub_zero]
  rw[List.getElem?_set]
  split
  ·rename_i e;subst e;exact hid
  ·rfl)
 |j+1,h=>by
  have hlt:=(List.getElem?_eq_some_iff.1 hid).1
  refine Rt.trans (Rt.nils hid j (by omega)) ?_
  obtain⟨Z,hZ⟩:∃Z,Z=H.set id (.cells (hd H.length (List.replicate j [])++avs (List.replicate (K - j) (.val (.slice none 0 0)))))++rwH (List.replicate j []):=⟨_,rfl⟩
  have hZl:Z.length=H.length+j:=by rw[hZ];simp[rwH]
  have hZi:Z[id]? =some (.cells (hd H.length (List.replicate j [])++avs (List.replicate (K - j) (.val (.slice none 0 0))))):=by
   rw[hZ,List.getElem?_append_left (by simpa using hlt),List.getElem?_set_self hlt]
  rw[←hZ]
  refine Rt.trans (Rt.nilc id j 1 hZi ?_) (Rt.heap ?_)
  ·rw[List.getElem?_append_right (by rw[zf7];simp),zf7,List.length_replicate,Nat.sub_self,show K - j=(K - (j+1))+1 by omega,List.replicate_succ];rfl
  ·have e1:(hd H.length (List.replicate j [])++avs (List.replicate (K - j) (.val (.slice none 0 0)))).set j (.os 1 Z.length 0 0)=hd H.length (List.replicate (j+1) [])++avs (List.replicate (K - (j+1)) (.val (.slice none 0 0))):=by
    rw[show K - j=(K - (j+1))+1 by omega,List.replicate_succ,zet,List.set_append_right _ _ (by rw[zf7];simp),zf7,List.length_replicate,Nat.sub_self,jkq,hZl]
    simp
   rw[e1,List.set_append_left _ _ (by rw[hZl];omega),hZ,List.set_append_left _ _ (by simpa using hlt),List.set_set,List.append_assoc,List.replicate_succ' (n:=j),jfk]
   rfl
theorem Rt.rows2{τ:Fr}{o0 o3:AObj}(n:Nat):Rt [] τ [o0,.cells (avs (List.replicate n (.val (.slice none 0 0)))),.cells (avs (List.replicate n (.val (.slice none 0 0)))),o3] τ (gH o0 o3 (List.replicate n []) (List.replicate n [])):=by
 refine Rt.trans (Rt.nils (id:=1) rfl n (Nat.le_refl _)) (Rt.trans (Rt.nils (id:=2) (K:=n) rfl n (Nat.le_refl _)) (Rt.heap ?_))
 simp[gH,rwH,avs]
 congr 1
 omega
mutual
theorem zrr{p id:Nat}{l:List D}(h:p≤id):∀x:AV,x.allI (ltI p)=true→fzV id l x=x
 | .any,_=>by rw[fzV]
 | .d x,_=>by rw[fzV]
 | .os q i off n,k=>by
  have k:i<p:=by simpa[AV.allI,ltI]using k
  rw[fzV,if_neg (by omega)]
 | .op i off,k=>by
  have k:i<p:=by simpa[AV.allI,ltI]using k
  rw[fzV,if_neg (by omega)]
 | .om i,_=>by rw[fzV]
 | .agg cs,k=>by rw[fzV,zed h cs (by simpa[AV.allI]using k)]
 | .tup cs,k=>by rw[fzV,zed h cs (by simpa[AV.allI]using k)]
 | .clo fn fi ca,k=>by
  rw[AV.allI,Bool.and_eq_true]at k
  rw[fzV,zed h fi k.1,zed h ca k.2]
theorem zed{p id:Nat}{l:List D}(h:p≤id):∀cs:List AV,AV.allIs (ltI p) cs=true→fzVs id l cs=cs
 |[],_=>by rw[fzVs]
 |x::m,k=>by
  rw[AV.allIs,Bool.and_eq_true]at k
  rw[fzVs,zrr h x k.1,zed h m k.2]
end
theorem zkw{p id:Nat}{l:List D}(h:p≤id)(o:AObj)(k:o.allI (ltI p)=true):fzO id l o=o:=by
 cases o with
 |free=>rfl
 |dead=>rfl
 |cells cs=>simp only[fzO,zed h cs k]
 |map es clock=>
  simp only[fzO]
  congr 1
  refine(List.map_congr_left fun e he=>?_).trans (List.map_id es)
  obtain⟨j,hj,rfl⟩:=List.getElem_of_mem he
  have:=AV.allIs_get (j:=j) (x:=es[j].2.2) (show AV.allIs (ltI p) (es.map (·.2.2))=true from k) (by rw[List.getElem?_map,List.getElem?_eq_getElem hj];rfl)
  rw[zrr h _ this];rfl
 |loop b r fr=>simp only[fzO,zed h fr k]
def fs2(ls:List (List D)):List D:=ls.map fun l=>.fs l l.length
theorem jfn{l:List D}:∀(ls:List (List D)) (n m:Nat),m<n→fzVs m l (hd n ls)=hd n ls
 |[],_,_,_=>by rw[hd,fzVs]
 |x::ls,n,m,h=>by rw[hd,fzVs,fzV,if_neg (by omega),jfn ls (n+1) m (by omega)]
theorem zny(id:Nat)(l:List D)(a b:List AV):fzVs id l (a++b)=fzVs id l a++fzVs id l b:=by rw[zdb,zdb,zdb,List.map_append]
theorem zpb(id:Nat)(l m:List D):fzVs id l (avs m)=avs m:=zed (p:=0) (Nat.zero_le _) _ (zhr m)
theorem zrs(id:Nat)(l:List D)(ls:List (List D)):(rwH ls).map (fzO id l)=rwH ls:=by
 rw[rwH,List.map_map]
 exact List.map_congr_left fun x _=>by simp only[Function.comp,fzO,zpb]
theorem jdn{id n:Nat}{l:List D}(done:List D)(ls:List (List D))(h:n=id):fzVs id l (avs done++hd n (l::ls))=avs (done++[.fs l l.length])++hd (n+1) ls:=by
 subst h
 rw[zny,zpb,hd,fzVs,fzV,if_pos rfl,Nat.mul_one,zbt rfl,jfn _ _ _ (by omega)]
 simp[avs]
theorem Rt.fzA{τ:Fr}(hτ:∀t,(τ t).allI (ltI 4)=true){o0 o3:AObj}(h0:o0.allI (ltI 4)=true)(h3:o3.allI (ltI 4)=true){B:List (List D)}:∀(ls:List (List D)) (done:List D) (d:Nat),
  Rt [] τ (o0:: .cells (avs done++hd (4+d) ls):: .cells (hd (4+d+ls.length) B)::o3::(List.replicate d .dead++(rwH ls++rwH B))) τ (o0:: .cells (avs (done++fs2 ls)):: .cells (hd (4+d+ls.length) B)::o3::(List.replicate (d+ls.length) .dead++rwH B))
 |[],done,d=>Rt.heap (by simp[hd,rwH,fs2])
 |l::ls,done,d=>by
  have h:=Rt.fzA hτ h0 h3 (B:=B) ls (done++[.fs l l.length]) (d+1)
  have hz:Rt [] τ (o0:: .cells (avs done++hd (4+d) (l::ls)):: .cells (hd (4+d+(l::ls).length) B)::o3::(List.replicate d .dead++(rwH (l::ls)++rwH B))) _ _:=Rt.fz (id:=4+d) (l:=l) (by
   rw[show 4+d=d+1+1+1+1 by omega]
   simp only[List.getElem?_cons_succ]
   rw[List.getElem?_append_right (by simp)]
   simp[rwH,avs])
  have e:(fun t=>fzV (4+d) l (τ t))=τ:=funext fun t=>zrr (by omega) _ (hτ t)
  rw[e]at hz
  refine(hz.trans (Rt.heap ?_)).trans (h.trans (Rt.heap ?_))
  ·unfold fzH
   rw[show(o0::AObj.cells (avs done++hd (4+d) (l::ls)):: .cells (hd (4+d+(l::ls).length) B)::o3::(List.replicate d .dead++(rwH (l::ls)++rwH B))).set (4+d) .dead=o0:: .cells (avs done++hd (4+d) (l::ls)):: .cells (hd (4+d+(l::ls).length) B)::o3::(List.replicate (d+1) .dead++(rwH ls++rwH B)) from by
    rw[show 4+d=d+1+1+1+1 by omega]
    simp only[List.set_cons_succ]
    rw[List.set_append_right _ _ (by simp)]
    simp[rwH,List.replicate_succ']]
   simp only[List.map_cons,List.map_append,zrs,List.map_replicate,zkw (show 4≤4+d by omega) o0 h0,zkw (show 4≤4+d by omega) o3 h3]
   simp only[fzO]
   rw[jdn done ls rfl,jfn B _ _ (by simp),List.length_cons,show 4+d+(ls.length+1)=4+(d+1)+ls.length by omega,show 4+d+1=4+(d+1) by omega]
  ·simp only[List.length_cons]
   rw[show 4+(d+1)+ls.length=4+d+(ls.length+1) by omega,show d+1+ls.length=d+(ls.length+1) by omega]
   simp[fs2]
theorem Rt.fzB{τ:Fr}(hτ:∀t,(τ t).allI (ltI 4)=true){o0 o3:AObj}(h0:o0.allI (ltI 4)=true)(h3:o3.allI (ltI 4)=true){A:List D}:∀(ls:List (List D)) (done:List D) (d:Nat),
  Rt [] τ (o0:: .cells (avs A):: .cells (avs done++hd (4+d) ls)::o3::(List.replicate d .dead++rwH ls)) τ (o0:: .cells (avs A):: .cells (avs (done++fs2 ls))::o3::List.replicate (d+ls.length) .dead)
 |[],done,d=>Rt.heap (by simp[hd,rwH,fs2])
 |l::ls,done,d=>by
  have h:=Rt.fzB hτ h0 h3 (A:=A) ls (done++[.fs l l.length]) (d+1)
  have hz:Rt [] τ (o0:: .cells (avs A):: .cells (avs done++hd (4+d) (l::ls))::o3::(List.replicate d .dead++rwH (l::ls))) _ _:=Rt.fz (id:=4+d) (l:=l) (by
   rw[show 4+d=d+1+1+1+1 by omega]
   simp only[List.getElem?_cons_succ]
   rw[List.getElem?_append_right (by simp)]
   simp[rwH,avs])
  have e:(fun t=>fzV (4+d) l (τ t))=τ:=funext fun t=>zrr (by omega) _ (hτ t)
  rw[e]at hz
  refine(hz.trans (Rt.heap ?_)).trans (h.trans (Rt.heap ?_))
  ·unfold fzH
   rw[show(o0::AObj.cells (avs A):: .cells (avs done++hd (4+d) (l::ls))::o3::(List.replicate d .dead++rwH (l::ls))).set (4+d) .dead=o0:: .cells (avs A):: .cells (avs done++hd (4+d) (l::ls))::o3::(List.replicate (d+1) .dead++rwH ls) from by
    rw[show 4+d=d+1+1+1+1 by omega]
    simp only[List.set_cons_succ]
    rw[List.set_append_right _ _ (by simp)]
    simp[rwH,List.replicate_succ']]
   simp only[List.map_cons,List.map_append,zrs,List.map_replicate,zkw (show 4≤4+d by omega) o0 h0,zkw (show 4≤4+d by omega) o3 h3]
   simp only[fzO,zpb]
   rw[jdn done ls rfl,show 4+d+1=4+(d+1) by omega]
  ·simp only[List.length_cons]
   rw[show d+1+ls.length=d+(ls.length+1) by omega]
   simp[fs2]
theorem Rt.gH_all{τ:Fr}(hτ:∀t,(τ t).allI (ltI 4)=true){o0 o3:AObj}(h0:o0.allI (ltI 4)=true)(h3:o3.allI (ltI 4)=true){A B:List (List D)}:Rt [] τ (gH o0 o3 A B) τ [o0,.cells (avs (fs2 A)),.cells (avs (fs2 B)),o3]:=by
 refine(Rt.heap ?_).trans ((Rt.fzA hτ h0 h3 (B:=B) A [] 0).trans ((Rt.heap ?_).trans ((Rt.fzB hτ h0 h3 (A:=fs2 A) B [] A.length).trans ?_)))
 ·simp[gH,avs]
 ·simp[avs]
 ·have hg:Rt [] τ (o0:: .cells (avs (fs2 A)):: .cells (avs (fs2 B))::o3::List.replicate (A.length+B.length) .dead) _ _:=Rt.gc (keep:=swK 4 4 4) (by simp) (by decide) (fun i hi=>by
   have:i<4:=by revert hi;simp[swK,List.range,List.range.loop];omega
   simp;omega)
  have lt:∀x:AV,x.allI (ltI 4)=true→x.allI (okS 4 4)=true:=fun x hx=>by
   have:okS 4 4=ltI 4:=by funext i;by_cases h:i<4<;>simp[okS,ltI,h];omega
   rw[this];exact hx
  have lo:∀o:AObj,o.allI (ltI 4)=true→o.allI (okS 4 4)=true:=fun x hx=>by
   have:okS 4 4=ltI 4:=by funext i;by_cases h:i<4<;>simp[okS,ltI,h];omega
   rw[this];exact hx
  have e:(fun t=>gcV (swK 4 4 4) (τ t))=τ:=funext fun t=>jah (Nat.le_refl _) _ (lt _ (hτ t))
  rw[e]at hg
  simp only[List.nil_append]
  refine hg.trans (Rt.heap ?_)
  show[gcO _ o0,gcO _ (.cells (avs (fs2 A))),gcO _ (.cells (avs (fs2 B))),gcO _ o3]=_
  rw[znx (Nat.le_refl _) o0 (lo _ h0),znx (Nat.le_refl _) o3 (lo _ h3),zs8 (Nat.le_refl _),zs8 (Nat.le_refl _)]
end Go.Proofs.Ytfolbdkbpmgjgaa
