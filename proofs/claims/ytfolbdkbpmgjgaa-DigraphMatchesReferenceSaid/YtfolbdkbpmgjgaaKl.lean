/- Order, step by step: the counts of predecessors that were not placed, and the ready list. -/
import Derived.Test.YtfolbdkbpmgjgaaKj
import Derived.Test.YtfolbdkbpmgjgaaKv
import Derived.Test.YtfolbdkbpmgjgaaKk
set_option linter.unusedVariables false
set_option linter.unusedSimpArgs false
namespace Go.Proofs.Ytfolbdkbpmgjgaa
open Go Go.RowKit
def wtN(pv:List (List Nat))(out:List Nat)(w:Nat):Nat:=((nth pv w).filter fun u=> !out.contains u).length
def wtM(pv:List (List Nat))(out pre:List Nat)(w:Nat):Nat:=wtN pv out w - (if pre.contains w then 1 else 0)
def wtL(n:Nat)(pv:List (List Nat))(out pre:List Nat):List Nat:=(List.range n).map (wtM pv out pre)
def rdM(n:Nat)(pv:List (List Nat))(out:List Nat)(v:Nat)(pre:List Nat):List Nat:=(List.range n).filter (frM pv out v pre)
theorem zdd(n:Nat)(pv:List (List Nat))(out pre:List Nat):(wtL n pv out pre).length=n:=by simp[wtL]
theorem jd3{n:Nat}{pv:List (List Nat)}{out pre:List Nat}{w:Nat}(h:w<n):nth (wtL n pv out pre) w=wtM pv out pre w:=za8 h
theorem jlq{L:List Nat}{v:Nat}(hd:L.Nodup)(hv:v∈L):L.length=1↔∀u∈L,u=v:=by
 rcases L with _|⟨x,_|⟨y,l⟩⟩
 ·cases hv
 ·simp only[List.mem_singleton]at hv ⊢
  subst hv
  simp
 ·constructor
  ·intro h;simp at h
  ·intro h
   have h1:=h x (by simp)
   have h2:=h y (by simp)
   rw[List.nodup_cons]at hd
   exact absurd (by rw[h1,←h2];simp) hd.1
structure InO (n:Nat) (nx pv:List (List Nat)) (out:List Nat) (v:Nat):Prop where
 two:Two n nx pv
 nd:(nth nx v).Nodup
 pd:∀w,w<n→(nth pv w).Nodup
 lt:v<n
 nm:v∉out
 ok:∀u∈nth pv v,u∈out
 cl:∀w∈out,∀u∈nth pv w,u∈out
variable {n:Nat} {nx pv:List (List Nat)} {out:List Nat} {v:Nat}
theorem zxu{w:Nat}(h:InO n nx pv out v)(hw:w∈nth nx v):v∈(nth pv w).filter fun u=> !out.contains u:=by
 have hwn:=h.two.ni v h.lt w hw
 rw[List.mem_filter]
 exact⟨(h.two.iff v w h.lt hwn).1 hw,by simpa using h.nm⟩
theorem jlr{w:Nat}(h:InO n nx pv out v)(hw:w∈nth nx v):0<wtN pv out w:=List.length_pos_of_mem (zxu h hw)
theorem jd4{w:Nat}(h:InO n nx pv out v)(hw:w∈nth nx v):wtN pv out w=1↔frB pv (out++[v]) w=true:=by
 have hwn:=h.two.ni v h.lt w hw
 have hm:=zxu h hw
 rw[wtN,jlq ((h.pd w hwn).filter _) hm,fr_iff]
 have hvw:=(h.two.iff v w h.lt hwn).1 hw
 constructor
 ·intro hu
  refine⟨fun hin=>?_,fun u hu'=>?_⟩
  ·rcases List.mem_append.1 hin with hin|hin
   ·exact h.nm (h.cl w hin v hvw)
   ·rw[List.mem_singleton.1 hin]at hvw;exact h.nm (h.ok v hvw)
  ·by_cases ho:u∈out
   ·exact List.mem_append_left _ ho
   ·have:=hu u (List.mem_filter.2 ⟨hu',by simpa using ho⟩)
    rw[this];simp
 ·rintro⟨_,h2⟩ u hu
  obtain⟨h3,h4⟩:=List.mem_filter.1 hu
  rcases List.mem_append.1 (h2 u h3)with h5|h5
  ·simp[h5]at h4
  ·exact List.mem_singleton.1 h5
theorem zr3{w x:Nat}{pre:List Nat}(hw:w∉pre):wtM pv out (pre++[w]) x=if x=w then wtN pv out w - 1 else wtM pv out pre x:=by
 unfold wtM
 by_cases e:x=w
 ·subst e;simp
 ·simp[e]
theorem jgl{w:Nat}{pre:List Nat}(hw:w∉pre)(hn:w<n):(wtL n pv out pre).set w (wtN pv out w - 1)=wtL n pv out (pre++[w]):=by
 refine List.ext_getElem? fun i=>?_
 rw[List.getElem?_set,wtL,wtL,List.getElem?_map,List.getElem?_map,List.length_map,List.length_range]
 by_cases hi:i<n
 ·rw[List.getElem?_range hi,Option.map_some,Option.map_some,zr3 hw]
  by_cases e:w=i
  ·subst e;simp[hn]
  ·rw[if_neg e,if_neg (Ne.symm e)]
 ·rw[List.getElem?_eq_none (by simpa using hi),if_neg (by omega)];rfl
theorem jls{w:Nat}(h:InO n nx pv out v)(hw:w<n):wtM pv out (nth nx v) w=wtN pv (out++[v]) w:=by
 unfold wtM wtN
 have hd:=(h.pd w hw).filter fun u=> !out.contains u
 have e:(nth pv w).filter (fun u=> !(out++[v]).contains u)=((nth pv w).filter fun u=> !out.contains u).erase v:=by
  rw[List.Nodup.erase_eq_filter hd,List.filter_filter]
  refine List.filter_congr fun u _=>?_
  rw[Bool.eq_iff_iff];simp[and_comm]
 rw[e]
 by_cases hv:w∈nth nx v
 ·rw[List.length_erase_of_mem (zxu h hv),if_pos (by simpa using hv)]
 ·have:v∉nth pv w:=fun hm=>hv ((h.two.iff v w h.lt hw).2 hm)
  rw[List.erase_of_not_mem (fun hm=>this (List.mem_filter.1 hm).1),if_neg (by simpa using hv)];rfl
theorem jgm(h:InO n nx pv out v):wtL n pv out (nth nx v)=wtL n pv (out++[v]) []:=by
 refine List.map_congr_left fun w hw=>?_
 rw[jls h (List.mem_range.1 hw)];simp[wtM]
theorem jgn(h:InO n nx pv out v):rdM n pv out v (nth nx v)=zcf n pv (out++[v]):=by
 refine List.filter_congr fun w hw=>jf4 fun u hu e=>?_
 subst e
 exact(h.two.iff u w h.lt (List.mem_range.1 hw)).2 hu
theorem jlt{pre:List Nat}:(rdM n pv out v pre).Pairwise (·<·):=List.Pairwise.filter _ List.pairwise_lt_range
theorem zxv{pre:List Nat}:(rdM n pv out v pre).length≤n:=Nat.le_trans (List.length_filter_le _ _) (by simp)
theorem zr4:(zcf n pv out).length≤n:=Nat.le_trans (List.length_filter_le _ _) (by simp)
theorem jgo{w:Nat}{pre:List Nat}(h:InO n nx pv out v)(hw:w∈nth nx v)(hp:w∉pre):frM pv out v pre w=false:=by
 have hwn:=h.two.ni v h.lt w hw
 have hf:frB pv out w=false:=by
  rw[Bool.eq_false_iff]
  intro hf
  exact h.nm ((fr_iff.1 hf).2 v ((h.two.iff v w h.lt hwn).1 hw))
 unfold frM
 rw[hf];simp[hp]
theorem zr5{w x:Nat}{pre:List Nat}:frM pv out v (pre++[w]) x=(frM pv out v pre x||(x==w&&frB pv (out++[v]) w)):=by
 unfold frM
 by_cases e:x=w
 ·subst e
  cases frB pv out x&&x !=v<;>cases frB pv (out++[v]) x<;>simp
 ·simp[e]
theorem jlu{w:Nat}{pre:List Nat}(h:InO n nx pv out v)(hw:w∈nth nx v)(hp:w∉pre)(h1:wtN pv out w=1):zfy (zl (rdM n pv out v pre)) ((rdM n pv out v pre).filter (·<w)).length (w:Int)=zl (rdM n pv out v (pre++[w])):=by
 have hwn:=h.two.ni v h.lt w hw
 have hf:=(jd4 h hw).1 h1
 obtain⟨i,hi,he⟩:=ztd (n:=n) (w:=w) (p:=frM pv out v pre) (q:=frM pv out v (pre++[w])) hwn (jgo h hw hp) (fun x=>by rw[zr5,hf,Bool.and_true])
 rw[show rdM n pv out v (pre++[w])=(List.range n).filter (frM pv out v (pre++[w])) from rfl,←he,show rdM n pv out v pre=(List.range n).filter (frM pv out v pre) from rfl,←hi]
 unfold zfy
 rw[zw6,zw6,zw7]
 simp[zl,List.map_take]
theorem jgp{w:Nat}{pre:List Nat}(h:InO n nx pv out v)(hw:w∈nth nx v)(h1:wtN pv out w≠1):rdM n pv out v (pre++[w])=rdM n pv out v pre:=by
 refine List.filter_congr fun x _=>?_
 have:frB pv (out++[v]) w=false:=by
  rw[Bool.eq_false_iff];exact fun hf=>h1 ((jd4 h hw).2 hf)
 rw[zr5,this];simp
theorem ja8(L:List Nat)(w:Nat):(zl L).countP (·<(w:Int))=(L.filter (·<w)).length:=by
 unfold zl
 rw[List.countP_map,←List.countP_eq_length_filter]
 refine List.countP_congr fun x _=>?_
 simp
theorem jph{L:List Nat}(h:L.Pairwise (·<·)):(zl L).Pairwise (·≤·):=by
 unfold zl
 rw[List.pairwise_map]
 exact h.imp fun h=>by omega
def wt0(n:Nat)(pv:List (List Nat))(k:Nat):List Nat:=(List.range n).map fun v=>if v<k then(nth pv v).length else 0
def rd0(pv:List (List Nat))(k:Nat):List Nat:=(List.range k).filter fun v=>(nth pv v).length==0
theorem zdo(n:Nat)(pv:List (List Nat))(k:Nat):(wt0 n pv k).length=n:=by simp[wt0]
theorem jpi:wt0 n pv 0=List.replicate n 0:=by
 unfold wt0
 refine List.ext_getElem? fun i=>?_
 by_cases hi:i<n
 ·rw[List.getElem?_map,List.getElem?_range hi,List.getElem?_replicate,if_pos hi];simp
 ·rw[List.getElem?_eq_none (by simpa using hi),List.getElem?_eq_none (by simpa using hi)]
theorem jgq{k:Nat}(hk:k<n):(wt0 n pv k).set k (nth pv k).length=wt0 n pv (k+1):=by
 refine List.ext_getElem? fun i=>?_
 rw[List.getElem?_set,wt0,wt0,List.getElem?_map,List.getElem?_map,List.length_map,List.length_range]
 by_cases hi:i<n
 ·rw[List.getElem?_range hi,Option.map_some,Option.map_some]
  by_cases e:k=i
  ·subst e;simp[hk]
  ·rw[if_neg e]
   have:i<k↔i<k+1:=by omega
   simp[this]
 ·rw[List.getElem?_eq_none (by simpa using hi),if_neg (by omega)];rfl
theorem jpj:wt0 n pv n=wtL n pv [] []:=by
 refine List.map_congr_left fun w hw=>?_
 rw[if_pos (List.mem_range.1 hw)]
 simp[wtM,wtN]
 rw[List.filter_eq_self.2 (fun _ _=>rfl)]
theorem zr6(k:Nat):rd0 pv (k+1)=if(nth pv k).length=0 then rd0 pv k++[k]else rd0 pv k:=by
 rw[rd0,List.range_succ,List.filter_append]
 by_cases h:(nth pv k).length=0
 ·rw[if_pos h,List.filter_cons_of_pos (by simpa using h)];rfl
 ·rw[if_neg h,List.filter_cons_of_neg (by simpa using h)];simp[rd0]
theorem jpk:rd0 pv n=zcf n pv []:=by
 refine List.filter_congr fun w _=>?_
 rw[Bool.eq_iff_iff,fr_iff,beq_iff_eq,List.length_eq_zero_iff]
 constructor
 ·intro h;rw[h];simp
 ·rintro⟨_,h⟩
  cases hh:nth pv w with
  |nil=>rfl
  |cons a l=>have:=h a (by rw[hh];simp);cases this
theorem jgr(k:Nat):(rd0 pv k).length≤k:=Nat.le_trans (List.length_filter_le _ _) (by simp)
theorem Gr.ino{n:Nat}{es:List Ed}(h:Gr n es){k v:Nat}{l:List Nat}(hf:zcf n (zay n es) (zcg n (zay n es) k)=v::l):InO n (zav n es) (zay n es) (zcg n (zay n es) k) v:=by
 obtain⟨_,h1,h2,h3,_⟩:=zjq hf
 have hi:=ztc n (zay n es) k
 refine⟨h.two,(zl5 h1).imp fun h=>Nat.ne_of_lt h,fun w hw=>(zpk hw).imp fun h=>Nat.ne_of_lt h,h1,h2,h3,fun w hw u hu=>?_⟩
 obtain⟨i,hi',rfl⟩:=zfn hw
 exact List.mem_of_mem_take (hi.pr i hi' u hu)
theorem zmb{k v:Nat}{l:List Nat}(hf:zcf n pv (zcg n pv k)=v::l):zcg n pv (k+1)=zcg n pv k++[v]:=by rw[zcg,hf];rfl
theorem zmc{k:Nat}(hf:zcf n pv (zcg n pv k)=[]):∀j,zcg n pv (k+j)=zcg n pv k
 |0=>rfl
 |j+1=>by rw[←Nat.add_assoc,zcg,zmc hf j,hf];simp
theorem zxw{k:Nat}(hf:zcf n pv (zcg n pv k)=[])(hk:(zcg n pv k).length=k):zcg n pv n=zcg n pv k:=by
 have:=zl2 (n:=n) (prev:=pv) k
 have:=zmc hf (n - k)
 rwa[show k+(n - k)=n by omega]at this
def zdv(n:Nat)(es:List Ed):List Nat × Int:=if(zcg n (zay n es) n).length<n then([],50)else(zcg n (zay n es) n,0)
end Go.Proofs.Ytfolbdkbpmgjgaa
