/- Components, as a plain function: the walk along the edges with its stack (no program in sight). -/
import Derived.Test.YtfolbdkbpmgjgaaKe
import Derived.Test.YtfolbdkbpmgjgaaKv
set_option linter.unusedVariables false
set_option linter.unusedSimpArgs false
namespace Go.Proofs.Ytfolbdkbpmgjgaa
open Go Go.RowKit
structure Ts where
 c:Nat
 num:List Nat
 low:List Nat
 opn:List Bool
 stk:List Nat
 out:List (List Nat)
def ze4(l:List Nat):List Nat:=zl4 (zcb (zl l))
theorem zjv(l:List Nat):zl4 (zl l)=l:=by
 unfold zl4 zl
 rw[List.map_map]
 exact(List.map_congr_left fun x _=>by simp).trans (List.map_id l)
theorem zdu(l:List Nat):(ze4 l).Perm l:=by
 have h:(zcb (zl l)).Perm (zl l):=List.mergeSort_perm _ _
 have:=h.map Int.toNat
 rw[show(zl l).map Int.toNat=zl4 (zl l) from rfl,zjv]at this
 exact this
theorem zry(l:List Nat):zl (ze4 l)=zcb (zl l):=by
 unfold ze4 zl4
 rw[zl,List.map_map]
 refine(List.map_congr_left fun x hx=>?_).trans (List.map_id _)
 have hx':x∈zl l:=(List.mergeSort_perm (zl l) leI).mem_iff.1 hx
 unfold zl at hx'
 obtain⟨y,_,rfl⟩:=List.mem_map.1 hx'
 simp
def zc8(v:Nat)(s:Ts):Ts:=⟨s.c+1,s.num.set v (s.c+1),s.low.set v (s.c+1),s.opn.set v true,s.stk++[v],s.out⟩
def zt4(v x:Nat)(s:Ts):Ts:=⟨s.c,s.num,s.low.set v (min (nth s.low v) x),s.opn,s.stk,s.out⟩
def jn5(k:Nat)(s:Ts):Ts:=⟨s.c,s.num,s.low,(s.stk.drop k).foldl (fun o w=>o.set w false) s.opn,s.stk.take k,s.out++[ze4 (s.stk.drop k)]⟩
def zir(rec:Nat→Ts→Ts)(v:Nat)(s:Ts)(w:Nat):Ts:=
 if nth s.num w=0 then zt4 v (nth (rec w s).low w) (rec w s)else if nth s.opn w=true then zt4 v (nth s.num w) s else s
def jf6(k v:Nat)(t:Ts):Ts:=if nth t.low v<nth t.num v then t else jn5 k t
def zh7(nx:List (List Nat)):Nat→Nat→Ts→Ts
 |0,_,s=>s
 |f+1,v,s=>jf6 s.stk.length v ((nth nx v).foldl (zir (zh7 nx f) v) (zc8 v s))
structure TI (n:Nat) (s:Ts):Prop where
 nl:s.num.length=n
 ll:s.low.length=n
 ol:s.opn.length=n
 lt:∀w∈s.stk++s.out.flatten,w<n
 nd:(s.stk++s.out.flatten).Nodup
 mem:∀w,w<n→(nth s.num w≠0↔w∈s.stk++s.out.flatten)
 op:∀w,w<n→(nth s.opn w=true↔w∈s.stk)
 ne:∀r∈s.out,r≠[]
 cc:s.c=(s.stk++s.out.flatten).length
theorem TI.cn{n:Nat}{s:Ts}(h:TI n s):s.c≤n:=by rw[h.cc];exact zcr h.nd h.lt
theorem TI.sn{n:Nat}{s:Ts}(h:TI n s):s.stk.length≤n:=by have:=h.cn;have:=h.cc;rw[List.length_append]at this;omega
theorem zpl:∀{l:List (List Nat)},(∀r∈l,r≠[])→l.length≤l.flatten.length
 |[],_=>Nat.le_refl _
 |r::l,h=>by
  have:=zpl (l:=l) fun r hr=>h r (by simp[hr])
  have h1:0<r.length:=List.length_pos_iff.2 (h r (by simp))
  simp only[List.flatten_cons,List.length_append,List.length_cons];omega
theorem TI.on{n:Nat}{s:Ts}(h:TI n s):s.out.length≤n:=by have:=zpl h.ne;have:=h.cn;have:=h.cc;rw[List.length_append]at this;omega
theorem zpm{n v:Nat}{s:Ts}(h:TI n s)(hv:v<n)(h0:nth s.num v=0):TI n (zc8 v s):=by
 have hm:v∉s.stk++s.out.flatten:=fun hm=>((h.mem v hv).2 hm) h0
 have hp:(s.stk++[v]++s.out.flatten).Perm (v::(s.stk++s.out.flatten)):=by
  rw[List.append_assoc];exact List.perm_middle
 have hme:∀w,w∈s.stk++[v]++s.out.flatten↔w=v∨w∈s.stk++s.out.flatten:=fun w=>by rw[hp.mem_iff,List.mem_cons]
 refine⟨by simp[zc8,h.nl],by simp[zc8,h.ll],by simp[zc8,h.ol],fun w hw=>?_,?_,fun w hw=>?_,fun w hw=>?_,h.ne,?_⟩
 ·rcases(hme w).1 hw with e|hw
  ·rw[e];exact hv
  ·exact h.lt w hw
 ·show(s.stk++[v]++s.out.flatten).Nodup
  rw[hp.nodup_iff,List.nodup_cons];exact⟨hm,h.nd⟩
 ·show nth (s.num.set v (s.c+1)) w≠0↔w∈s.stk++[v]++s.out.flatten
  rw[hme]
  by_cases e:w=v
  ·subst e;rw[zaz (by rw[h.nl];exact hv)];simp
  ·rw[zax (fun e2=>e e2.symm),h.mem w hw];simp[e]
 ·show nth (s.opn.set v true) w=true↔w∈s.stk++[v]
  by_cases e:w=v
  ·subst e;rw[zaz (by rw[h.ol];exact hv)];simp
  ·rw[zax (fun e2=>e e2.symm),h.op w hw];simp[e]
 ·show s.c+1=(s.stk++[v]++s.out.flatten).length
  rw[hp.length_eq,List.length_cons,h.cc]
theorem zn6{n v x:Nat}{s:Ts}(h:TI n s):TI n (zt4 v x s):=⟨h.nl,by simp[zt4,h.ll],h.ol,h.lt,h.nd,h.mem,h.op,h.ne,h.cc⟩
theorem zn7:∀(l:List Nat) (o:List Bool),(l.foldl (fun o w=>o.set w false) o).length=o.length
 |[],_=>rfl
 |w::l,o=>by rw[List.foldl_cons,zn7 l];simp
theorem zrz:∀(l:List Nat) (o:List Bool) (w:Nat),nth (l.foldl (fun o w=>o.set w false) o) w=true↔w∉l∧nth o w=true
 |[],o,w=>by simp
 |x::l,o,w=>by
  rw[List.foldl_cons,zrz l]
  by_cases e:w=x
  ·subst e
   have:nth (o.set w false) w=false:=by
    by_cases hl:w<o.length
    ·rw[zaz hl]
    ·rw[List.set_eq_of_length_le (by omega)];unfold nth;rw[List.getD_eq_getElem?_getD,List.getElem?_eq_none (by omega)];rfl
   rw[this];simp
  ·rw[zax (fun e2=>e e2.symm)];simp[e]
theorem jdy{n k:Nat}{s:Ts}(h:TI n s)(hk:s.stk.drop k≠[]):TI n (jn5 k s):=by
 have hp:(s.stk.take k++(s.out++[ze4 (s.stk.drop k)]).flatten).Perm (s.stk++s.out.flatten):=by
  rw[List.flatten_append]
  simp only[List.flatten_cons,List.flatten_nil,List.append_nil]
  refine(List.Perm.append_left _ (List.perm_append_comm.trans ((zdu _).append_right _))).trans ?_
  rw[←List.append_assoc,List.take_append_drop]
 refine⟨h.nl,h.ll,(zn7 _ _).trans h.ol,fun w hw=>h.lt w (hp.mem_iff.1 hw),hp.nodup_iff.2 h.nd,fun w hw=>(h.mem w hw).trans hp.mem_iff.symm,fun w hw=>?_,fun r hr=>?_,h.cc.trans hp.length_eq.symm⟩
 ·show nth (List.foldl _ _ _) w=true↔w∈s.stk.take k
  rw[zrz,h.op w hw]
  have hsd:s.stk.Nodup:=(List.nodup_append.1 h.nd).1
  conv=>lhs;rw[show w∈s.stk↔w∈s.stk.take k++s.stk.drop k by rw[List.take_append_drop]]
  have hd2:∀a∈s.stk.take k,∀b∈s.stk.drop k,a≠b:=by
   have:=hsd;rw[←List.take_append_drop k s.stk]at this
   exact(List.nodup_append.1 this).2.2
  rw[List.mem_append]
  constructor
  ·rintro⟨h1,h2|h2⟩
   ·exact h2
   ·exact absurd h2 h1
  ·intro h1
   exact⟨fun h2=>hd2 w h1 w h2 rfl,.inl h1⟩
 ·rcases List.mem_append.1 hr with hr|hr
  ·exact h.ne r hr
  ·rw[List.mem_singleton.1 hr]
   intro e
   have:=(zdu (s.stk.drop k)).length_eq
   rw[e]at this
   exact hk (List.eq_nil_of_length_eq_zero this.symm)
structure TE (s t:Ts):Prop where
 num:∀w,nth s.num w≠0→nth t.num w=nth s.num w
 stk:s.stk<+:t.stk
theorem TE.refl(s:Ts):TE s s:=⟨fun _ _=>rfl,List.prefix_refl _⟩
theorem TE.trans{a b c:Ts}(h:TE a b)(k:TE b c):TE a c:=⟨fun w hw=>by rw[k.num w (by rw[h.num w hw];exact hw),h.num w hw],h.stk.trans k.stk⟩
theorem TE.low{a b:Ts}{v x:Nat}(h:TE a b):TE a (zt4 v x b):=⟨h.num,h.stk⟩
theorem zxb{v:Nat}{s:Ts}(h0:nth s.num v=0):TE s (zc8 v s):=⟨fun w hw=>zax fun e=>hw (e▸h0),List.prefix_append _ _⟩
def unn(n:Nat)(s:Ts):Nat:=((List.range n).filter fun w=>nth s.num w==0).length
theorem ztf{n:Nat}{s t:Ts}(h:TE s t):unn n t≤unn n s:=by
 unfold unn
 rw[←List.countP_eq_length_filter,←List.countP_eq_length_filter]
 refine List.countP_mono_left fun w _ hw=>?_
 rw[beq_iff_eq]at hw ⊢
 exact Decidable.byContradiction fun hh=>hh (by rw[←h.num w hh];exact hw)
theorem zl6{n v:Nat}{s:Ts}(hl:s.num.length=n)(hv:v<n)(h0:nth s.num v=0):unn n (zc8 v s)<unn n s:=by
 have hle:unn n (zc8 v s)=((List.range n).filter fun w=>nth s.num w==0&&w !=v).length:=by
  unfold unn
  congr 1
  refine List.filter_congr fun w hw=>?_
  show(nth (s.num.set v (s.c+1)) w==0)=_
  by_cases e:w=v
  ·subst e;rw[zaz (by rw[hl];exact hv)];simp
  ·rw[zax (fun e2=>e e2.symm)];simp[e]
 rw[hle]
 unfold unn
 rw[show(fun w=>nth s.num w==0&&w !=v)=(fun w=>(w !=v)&&nth s.num w==0) from funext fun w=>Bool.and_comm _ _,←List.filter_filter]
 exact List.length_filter_lt_length_iff_exists.2 ⟨v,List.mem_filter.2 ⟨List.mem_range.2 hv,by simpa using h0⟩,by simp⟩
section
variable {n:Nat} {nx:List (List Nat)}
def jdz(n f v:Nat)(s:Ts):Prop:=TI n s∧v<n∧nth s.num v=0∧unn n s≤f
def jo9(n v:Nat)(s t:Ts):Prop:=TI n t∧TE s t∧nth t.num v≠0
theorem jlb{f v w:Nat}{rec:Nat→Ts→Ts}{t:Ts}(ih:∀w s,jdz n f w s→jo9 n w s (rec w s))(hw:w<n)(h:TI n t)(hf:unn n t≤f):TI n (zir rec v t w)∧TE t (zir rec v t w)∧unn n (zir rec v t w)≤f∧nth (zir rec v t w).num w≠0:=by
 unfold zir
 by_cases h1:nth t.num w=0
 ·rw[if_pos h1]
  obtain⟨k1,k2,k3⟩:=ih w t ⟨h,hw,h1,hf⟩
  exact⟨zn6 k1,k2.low,Nat.le_trans (ztf k2.low) hf,k3⟩
 ·rw[if_neg h1]
  by_cases h2:nth t.opn w=true
  ·rw[if_pos h2];exact⟨zn6 h,(TE.refl t).low,Nat.le_trans (ztf (TE.refl t).low) hf,h1⟩
  ·rw[if_neg h2];exact⟨h,TE.refl t,hf,h1⟩
theorem jd0{f v:Nat}{rec:Nat→Ts→Ts}(ih:∀w s,jdz n f w s→jo9 n w s (rec w s)):∀(l:List Nat) (t:Ts),(∀w∈l,w<n)→TI n t→unn n t≤f→TI n (l.foldl (zir rec v) t)∧TE t (l.foldl (zir rec v) t)∧unn n (l.foldl (zir rec v) t)≤f
 |[],t,_,h,hf=>⟨h,TE.refl t,hf⟩
 |w::l,t,hl,h,hf=>by
  obtain⟨k1,k2,k3,_⟩:=jlb (v:=v) ih (hl w (by simp)) h hf
  obtain⟨m1,m2,m3⟩:=jd0 (v:=v) ih l _ (fun w hw=>hl w (by simp[hw])) k1 k3
  exact⟨m1,k2.trans m2,m3⟩
theorem zxc(hni:∀u,u<n→∀w∈nth nx u,w<n):∀f v s,jdz n f v s→jo9 n v s (zh7 nx f v s)
 |0,v,s,⟨h,hv,h0,hf⟩=>by
  exfalso
  have:v∈(List.range n).filter fun w=>nth s.num w==0:=List.mem_filter.2 ⟨List.mem_range.2 hv,by simpa using h0⟩
  have:=List.length_pos_of_mem this
  unfold unn at hf
  omega
 |f+1,v,s,⟨h,hv,h0,hf⟩=>by
  have hu:=zl6 h.nl hv h0
  obtain⟨k1,k2,_⟩:=jd0 (v:=v) (zxc hni f) (nth nx v) (zc8 v s) (hni v hv) (zpm h hv h0) (by omega)
  rw[zh7]
  generalize(nth nx v).foldl (zir (zh7 nx f) v) (zc8 v s)=t at k1 k2
  have hn1:nth (zc8 v s).num v≠0:=by rw[show(zc8 v s).num=s.num.set v (s.c+1) from rfl,zaz (by rw[h.nl];exact hv)];omega
  have hn2:nth t.num v≠0:=by rw[k2.num v hn1];exact hn1
  have he:=(zxb h0).trans k2
  unfold jf6
  split
  ·exact⟨k1,he,hn2⟩
  ·obtain⟨r,hr⟩:=k2.stk
   have hr':s.stk++[v]++r=t.stk:=hr
   refine⟨jdy k1 ?_,⟨he.num,?_⟩,hn2⟩
   ·rw[←hr',List.append_assoc,List.drop_left];simp
   ·show s.stk<+:t.stk.take s.stk.length
    rw[←hr',List.append_assoc,List.take_left]
    exact List.prefix_refl _
end
end Go.Proofs.Ytfolbdkbpmgjgaa
