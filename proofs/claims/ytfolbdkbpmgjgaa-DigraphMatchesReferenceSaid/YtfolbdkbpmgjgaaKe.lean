/- The graph as rows of numbers, and the search from a node: a function that hands its nodes to another one. -/
import Derived.Test.YtfolbdkbpmgjgaaKd
import Derived.Test.YtfolbdkbpmgjgaaKv
set_option linter.unusedVariables false
set_option linter.unusedSimpArgs false
namespace Go.Proofs.Ytfolbdkbpmgjgaa
open Go Go.RowKit
section
variable {P:Program} {fn:Func} {Q:AV→zaa→Prop} {τ:Fr} {H:zaa}
end
section
variable {P:Program} {fn:Func} {Q:AV→zaa→Prop} {τ:Fr} {H:zaa}
theorem zd3(h:fn.results.toList=[])(hq:Q (.tup []) H):zer P fn Q .normal τ H:=by
 show zsq P τ H fn.results.toList _
 rw[h];exact hq
theorem zdc(h:fn.results.toList=[])(hq:Q (.tup []) H):zer P fn Q .ret τ H:=by
 show zsq P τ H fn.results.toList _
 rw[h];exact hq
theorem zfw{c:Cx}{m:List Nat}{x:Code}{Q:Exit→Fr→zaa→Prop}(hp:Kp c m)(h:AWp P c x (fun e τ' H'=>∃τ1 H1,Rt m τ' H' τ1 H1∧Q e τ1 H1) τ H):AWp P c x Q τ H:=fun a w hR=>
 wpIn_mono (h a w hR) fun _ _ _ ⟨τ',H',h1,τ1,H1,h2,h3⟩=>⟨τ1,H1,h2 _ _ _ hp h1,h3⟩
end
theorem Rt.fr1{m:List Nat}{τ:Fr}{H:zaa}:Rt m τ H τ (H++[.free]):=fun c a w _ h=>R.reserve 1 H h
mutual
theorem jdu{keep:List Nat}{p:Nat→Bool}(hk:∀i,p i=true→posN keep i=some i):∀x:AV,x.allI p=true→gcV keep x=x
 | .any,_=>by rw[gcV]
 | .d x,_=>by rw[gcV]
 | .os q id off n,h=>by rw[gcV,hk id (by simpa[AV.allI]using h)]
 | .op id off,h=>by rw[gcV,hk id (by simpa[AV.allI]using h)]
 | .om id,h=>by rw[gcV,hk id (by simpa[AV.allI]using h)]
 | .agg cs,h=>by rw[gcV,zgl hk cs (by simpa[AV.allI]using h)]
 | .tup cs,h=>by rw[gcV,zgl hk cs (by simpa[AV.allI]using h)]
 | .clo fn fi ca,h=>by
  have h:AV.allIs p fi=true∧AV.allIs p ca=true:=by simpa[AV.allI]using h
  rw[gcV,zgl hk fi h.1,zgl hk ca h.2]
theorem zgl{keep:List Nat}{p:Nat→Bool}(hk:∀i,p i=true→posN keep i=some i):∀l:List AV,AV.allIs p l=true→gcVs keep l=l
 |[],_=>by rw[gcVs]
 |x::l,h=>by
  rw[AV.allIs,Bool.and_eq_true]at h
  rw[gcVs,jdu hk x h.1,zgl hk l h.2]
end
theorem jdv{keep:List Nat}{p:Nat→Bool}(hk:∀i,p i=true→posN keep i=some i){o:AObj}(h:o.allI p=true):gcO keep o=o:=by
 cases o with
 |free=>rfl
 |dead=>rfl
 |cells cs=>rw[gcO,zgl hk cs h]
 |loop b r fr=>rw[gcO,zgl hk fr h]
 |map es clock=>
  rw[gcO]
  congr 1
  refine(List.map_congr_left fun e he=>?_).trans (List.map_id es)
  have:e.2.2.allI p=true:=by
   obtain⟨j,hj⟩:=List.getElem?_of_mem (List.mem_map_of_mem (f:=fun e=>e.2.2) he)
   exact AV.allIs_get h hj
  rw[jdu hk _ this];rfl
theorem gc4{o:AObj}(h:o.allI (ltI 4)=true)(l:List Nat):gcO (0::1::2::3::l) o=o:=jdv (p:=ltI 4) (fun i hi=>by
 have hi:i<4:=by simpa[ltI]using hi
 match i,hi with
 |0,_=>rfl
 |1,_=>rfl
 |2,_=>rfl
 |3,_=>rfl) h
def zl(l:List Nat):List Int:=l.map fun v:Nat=>(v:Int)
theorem zbe(l:List Nat):(zl l).length=l.length:=List.length_map _
theorem zjt(l:List Nat)(k:Nat):nth (zl l) k=((nth l k:Nat):Int):=by
 unfold nth zl
 rw[List.getD_eq_getElem?_getD,List.getD_eq_getElem?_getD,List.getElem?_map]
 cases l[k]? <;>rfl
theorem jk9(l:List Nat)(k x:Nat):(zl l).set k (x:Int)=zl (l.set k x):=by unfold zl;rw[List.map_set]
theorem zw6(a b:List Nat):zl (a++b)=zl a++zl b:=List.map_append
theorem zw7(l:List Nat)(k:Nat):(zl l).drop k=zl (l.drop k):=by unfold zl;rw[List.map_drop]
theorem jla(n:Nat):zl (List.replicate n 0)=List.replicate n 0:=by simp[zl]
def nsD(l:List Nat):List D:=(zl l).map iD
theorem zad(l:List Nat):(nsD l).length=l.length:=by simp[nsD,zl]
def zan(nx:List (List Nat)):D:=.fs (fs2 (nx.map nsD)) nx.length
theorem zak(nx:List (List Nat)):(fs2 (nx.map nsD)).length=nx.length:=by rw[zb5,List.length_map]
theorem zcm{nx:List (List Nat)}{v:Nat}(h:v<nx.length):(fs2 (nx.map nsD))[v]? =some (.fs (nsD (nth nx v)) (nth nx v).length):=by
 rw[fs2,List.map_map,zbk h];simp[zad]
def zl4(l:List Int):List Nat:=l.map Int.toNat
def zav(n:Nat)(es:List Ed):List (List Nat):=(List.range n).map fun v=>zl4 (nxS es v)
def zay(n:Nat)(es:List Ed):List (List Nat):=(List.range n).map fun v=>zl4 (pvS es v)
theorem jf5{d:Array Int}(hs:∀i j,i≤j→j<d.size→d[i]! ≤d[j]!):∀m,m≤d.size→(Lib.compactUpTo d m).Pairwise (·<·)∧(∀x,x∈Lib.compactUpTo d m↔∃j,j<m∧x=d[j]!)
 |0,_=>⟨.nil,fun x=>⟨fun h=>(by cases h),fun⟨j,hj,_⟩=>absurd hj (Nat.not_lt_zero _)⟩⟩
 |m+1,hm=>by
  obtain⟨h1,h2⟩:=jf5 hs m (by omega)
  rw[Lib.compactUpTo_succ]
  by_cases k:Lib.keeps d m=true
  ·rw[if_pos k]
   refine⟨List.pairwise_append.2 ⟨h1,by simp,fun a ha b hb=>?_⟩,fun x=>?_⟩
   ·rw[List.mem_singleton]at hb;subst hb
    obtain⟨j,hj,rfl⟩:=(h2 a).1 ha
    have k':m=0∨d[m]! ≠d[m - 1]! :=by simpa[Lib.keeps]using k
    have e1:=hs j (m - 1) (by omega) (by omega)
    have e2:=hs (m - 1) m (by omega) (by omega)
    rcases k' with k'|k'
    ·omega
    ·omega
   ·rw[List.mem_append,List.mem_singleton,h2]
    constructor
    ·rintro(⟨j,hj,e⟩|e)
     ·exact⟨j,by omega,e⟩
     ·exact⟨m,by omega,e⟩
    ·rintro⟨j,hj,e⟩
     by_cases hjm:j=m
     ·exact .inr (by rw[e,hjm])
     ·exact .inl ⟨j,by omega,e⟩
  ·rw[if_neg k,List.append_nil]
   refine⟨h1,fun x=>?_⟩
   rw[h2]
   have k':¬(m=0∨d[m]! ≠d[m - 1]!):=by simpa[Lib.keeps]using k
   constructor
   ·rintro⟨j,hj,e⟩;exact⟨j,by omega,e⟩
   ·rintro⟨j,hj,e⟩
    by_cases hjm:j=m
    ·refine⟨m - 1,by omega,?_⟩
     rw[e,hjm]
     exact Classical.byContradiction fun hh=>k' (.inr hh)
    ·exact⟨j,by omega,e⟩
theorem zh6(l:List Int):∀i j,i≤j→j<(zcb l).toArray.size→(zcb l).toArray[i]! ≤(zcb l).toArray[j]! :=fun i j h1 h2=>by
 have hj:j<(zcb l).length:=by simpa using h2
 rw[getElem!_pos _ _ (by simp;omega),getElem!_pos _ _ (by simpa using hj)]
 simp only[List.getElem_toArray]
 by_cases e:i=j
 ·subst e;exact Int.le_refl _
 ·have:=List.pairwise_iff_getElem.1 (List.pairwise_mergeSort jdk jdl l) i j (by show i<(zcb l).length;omega) hj (by omega)
  exact of_decide_eq_true this
theorem jdw(l:List Int):(cpI (zcb l)).Pairwise (·<·):=(jf5 (zh6 l) _ (by simp)).1
theorem zht(l:List Int)(x:Int):x∈cpI (zcb l)↔x∈l:=by
 rw[cpI,Lib.compact,(jf5 (zh6 l) _ (by simp)).2 x]
 have hp:x∈zcb l↔x∈l:=(List.mergeSort_perm l leI).mem_iff
 rw[←hp]
 constructor
 ·rintro⟨j,hj,rfl⟩
  rw[getElem!_pos _ _ (by simpa using hj)];simp
 ·intro h
  obtain⟨j,hj,e⟩:=List.getElem_of_mem h
  exact⟨j,hj,by rw[getElem!_pos _ _ (by simpa using hj)];simp[e]⟩
theorem zw8{l:List Int}(h0:∀x∈l,0≤x)(h:l.Pairwise (·<·)):(zl4 l).Pairwise (·<·):=by
 refine List.pairwise_map.2 (h.imp_of_mem fun ha hb hl=>?_)
 have:=h0 _ ha;have:=h0 _ hb;omega
theorem jdx{l:List Int}(h0:∀x∈l,0≤x):zl (zl4 l)=l:=by
 unfold zl zl4
 rw[List.map_map]
 refine(List.map_congr_left fun x hx=>?_).trans (List.map_id l)
 have:=h0 x hx
 simp;omega
theorem nx_mem{es:List Ed}{v:Nat}{x:Int}:x∈nxI es v↔∃e∈es,e.1=v∧x=(e.2:Int):=by
 rw[nxI,List.mem_map]
 constructor
 ·rintro⟨e,he,rfl⟩
  rw[List.mem_filter]at he
  exact⟨e,he.1,by simpa using he.2,rfl⟩
 ·rintro⟨e,he,h1,rfl⟩
  exact⟨e,List.mem_filter.2 ⟨he,by simpa using h1⟩,rfl⟩
theorem pv_mem{es:List Ed}{v:Nat}{x:Int}:x∈pvI es v↔∃e∈es,e.2=v∧x=(e.1:Int):=by
 rw[pvI,List.mem_map]
 constructor
 ·rintro⟨e,he,rfl⟩
  rw[List.mem_filter]at he
  exact⟨e,he.1,by simpa using he.2,rfl⟩
 ·rintro⟨e,he,h1,rfl⟩
  exact⟨e,List.mem_filter.2 ⟨he,by simpa using h1⟩,rfl⟩
theorem jrg(es:List Ed)(v:Nat):∀x∈nxS es v,0≤x:=fun x hx=>by
 obtain⟨e,_,_,rfl⟩:=nx_mem.1 ((zht _ _).1 hx);omega
theorem jrh(es:List Ed)(v:Nat):∀x∈pvS es v,0≤x:=fun x hx=>by
 obtain⟨e,_,_,rfl⟩:=pv_mem.1 ((zht _ _).1 hx);omega
theorem zbb(n:Nat)(es:List Ed):(zav n es).length=n:=by simp[zav]
theorem zcj(n:Nat)(es:List Ed):(zay n es).length=n:=by simp[zay]
theorem zrw{n v:Nat}{es:List Ed}(h:v<n):nth (zav n es) v=zl4 (nxS es v):=za8 h
theorem zrx{n v:Nat}{es:List Ed}(h:v<n):nth (zay n es) v=zl4 (pvS es v):=za8 h
theorem zcn{n v w:Nat}{es:List Ed}(h:v<n):w∈nth (zav n es) v↔(v,w)∈es:=by
 rw[zrw h,zl4,List.mem_map]
 constructor
 ·rintro⟨x,hx,rfl⟩
  obtain⟨e,he,h1,rfl⟩:=nx_mem.1 ((zht _ _).1 hx)
  have:(v,e.2)=e:=by rw[←h1]
  rw[Int.toNat_natCast,this];exact he
 ·intro hm
  exact⟨(w:Int),(zht _ _).2 (nx_mem.2 ⟨_,hm,rfl,rfl⟩),Int.toNat_natCast w⟩
theorem zc6{n v w:Nat}{es:List Ed}(h:v<n):w∈nth (zay n es) v↔(w,v)∈es:=by
 rw[zrx h,zl4,List.mem_map]
 constructor
 ·rintro⟨x,hx,rfl⟩
  obtain⟨e,he,h1,rfl⟩:=pv_mem.1 ((zht _ _).1 hx)
  have:(e.1,v)=e:=by rw[←h1]
  rw[Int.toNat_natCast,this];exact he
 ·intro hm
  exact⟨(w:Int),(zht _ _).2 (pv_mem.2 ⟨_,hm,rfl,rfl⟩),Int.toNat_natCast w⟩
theorem zl5{n v:Nat}{es:List Ed}(h:v<n):(nth (zav n es) v).Pairwise (·<·):=by rw[zrw h];exact zw8 (jrg es v) (jdw _)
theorem zpk{n v:Nat}{es:List Ed}(h:v<n):(nth (zay n es) v).Pairwise (·<·):=by rw[zrx h];exact zw8 (jrh es v) (jdw _)
structure Gr (n:Nat) (es:List Ed):Prop where
 b:n≤1000
 l:es.length≤100000
 e:∀e∈es,e.1<n∧e.2<n
theorem Gr.two{n:Nat}{es:List Ed}(h:Gr n es):Two n (zav n es) (zay n es):=
 ⟨zbb n es,zcj n es,fun u hu w hw=>(h.e _ ((zcn hu).1 hw)).2,fun u hu w hw=>(h.e _ ((zc6 hu).1 hw)).1,fun u w hu hw=>(zcn hu).trans (zc6 hw).symm⟩
theorem zw9(n:Nat)(es:List Ed):zk0 n es n=(zav n es).map nsD:=by
 rw[zav,List.map_map]
 refine List.map_congr_left fun v hv=>?_
 rw[if_pos (List.mem_range.1 hv)]
 show _=nsD (zl4 (nxS es v))
 rw[nsD,jdx (jrg es v)]
theorem zxa(n:Nat)(es:List Ed):zk1 n es n=(zay n es).map nsD:=by
 rw[zay,List.map_map]
 refine List.map_congr_left fun v hv=>?_
 rw[if_pos (List.mem_range.1 hv)]
 show _=nsD (zl4 (pvS es v))
 rw[nsD,jdx (jrh es v)]
theorem zju{n:Nat}{es:List Ed}(h:Gr n es):zas Try.prog 44 [iD (n:Int),zag es] (.d (.agg [zan (zav n es),zan (zay n es)])):=by
 have:=ztb n es h.b h.l h.e
 rw[zw9,zxa]at this
 simpa[zan,zbb,zcj]using this
end Go.Proofs.Ytfolbdkbpmgjgaa
