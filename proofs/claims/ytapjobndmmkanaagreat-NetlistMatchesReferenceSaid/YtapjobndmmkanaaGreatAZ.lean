/- Of no program: regions that draw their order and hold calls that move objects: what only looks is taken early, and looked at again behind each call. -/
import Derived.Test.YtapjobndmmkanaaGreatAR
import Derived.Maps.RangeWalk
import Derived.Sort.MapsRangeIn
set_option linter.unusedVariables false
set_option linter.unusedSimpArgs false
namespace Go.Proofs.YtapjobndmmkanaaGreat
open Go Go.RowKit
section
section
variable (P:Program) (KT:TypeId→Bool) (sm:List Nat) (N:Nat) (τ0:Fr)
def ScE(n:FuncId)(xs:List AV)(τ:Fr)(H:av)(K:AV→av→Prop):Prop:=
  ∃(m:List Nat) (S T:av) (K0:AV→av→Prop),H=S++T∧S.length≤N∧sm.all (aL m S.length)=true∧(∀t,(τ t).allI (aL m S.length)=true)∧(∀t,(τ0 t).allI (aL m S.length)=true)∧
    AV.aj (aO S.length) xs=true∧(∀o∈S,o.allI (aO S.length)=true)∧(∀o∈T,o.allI (aL m S.length)=true)∧cY P m n xs S K0∧∀x S',K0 x S'→S'.length=S.length∧K x (S'++T)
def kS(τ:Fr)(H:av)(f:AV)(xs:List AV)(KK:AV→av→Prop):Prop:=
  (∃x,Bv P N H f xs x∧KK x H)∨∃n fi ca,BT f=some (n,fi,ca)∧
    ((∃ds Q,AV.mB.jr (fi++xs++ca)=some ds∧tq P n ds Q∧∀x,Q x→KK x H)∨ScE P sm N τ0 n (fi++xs++ca) τ H KK)
def kE{KK:AV→av→Prop}(τ:Fr)(H:av)(f:AV)(xs:List AV)(_:Tg KK):Prop:=kS P sm N τ0 τ H f xs KK
def lW(op:Op):Bool:=sl op||gx [] op==2||gx [] op==3||gx [] op==4
def aS(o:Oper)(τ:Fr)(H:av)(KK:Fr→av→Prop):Prop:=
  if sl o.op then match o.op with
    | .call {callee:=.value f,args:=args,..}=>kS P sm N τ0 τ H (bu τ f) (args.toList.map (bu τ)) fun x H'=>KK (τ.put o.dst x) H'
    |_=>False
  else sT P KT [] [] [o] τ H KK
def sv:List Oper→Fr→av→Prop→Prop
  |[],_,_,K=>K
  |o::l,τ,H,K=>match o.dst with
    |some d=>sE P KT [] N 0 0 [] [o] τ H [] fun τ' _ _=>τ' d=τ d∧sv l τ H K
    |none=>False
def oS(r:Nat)(o:Oper)(fq:List Oper)(τ:Fr)(H:av)(KK:Nat→Fr→av→Prop):Prop:=
  if lW o.op then aS P KT sm N τ0 o τ H fun τ' H'=>sv P KT N fq τ' H' (KK r τ' H')
  else sE P KT [] N 0 r [] [o] τ H [] fun τ' H' _=>KK (if bI [] o then r+1 else r) τ' H'
def sS:Nat→List (Oper × List Oper)→Fr→av→(Fr→av→Prop)→Prop
  |_,[],τ,H,K=>K τ H
  |r,(o,fq)::l,τ,H,K=>oS P KT sm N τ0 r o fq τ H fun r' τ' H'=>sS r' l τ' H' K
end
def cx : Oper := ⟨none, .move (.const undef), 0, "", #[], none⟩
def qD(ops:List Oper)(st:List (Nat × List Nat)):List (Oper × List Oper):=st.map fun p=>(ops.getD p.1 cx,p.2.map fun j=>ops.getD j cx)
def vg(o:Oper):List Nat:=(o.after.toList.filter (Region.binds .any)).map (·.on)
def FO(o:Oper):List Tmp:=o.op.operands.toList.filterMap fun| .tmp t=>some t|_=>none
def jw(cl:List (List Nat))(i:Nat):List Nat:=cl.getD i []
def jgy(ops:List Oper)(cl:List (List Nat))(j:Nat):Bool:=(FO (ops.getD j cx)).all fun t=>(List.range ops.length).all fun k=>(ops.getD k cx).dst !=some t||(jw cl j).contains k
def xQ(ops:List Oper)(cl:List (List Nat)):List Nat→List (Nat × List Nat)→Bool
  |_,[]=>true
  |done,(i,fq)::l=>(jw cl i).all (done.contains ·)&&(vg (ops.getD i cx)).all ((jw cl i).contains ·)&& !done.contains i&&decide (i<ops.length)&&
      (!lW (ops.getD i cx).op||(l.all fun q=>(jw cl q.1).contains i)&&done.all fun j=>(jw cl i).contains j||quiet (ops.getD j cx).op||(bI [] (ops.getD j cx)&&sl (ops.getD i cx).op)||fq.contains j&& !bI [] (ops.getD j cx)&&jgy ops cl j)&&
      xQ ops cl (done++[i]) l
def Ll(ops:List Oper)(cl:List (List Nat))(st:List (Nat × List Nat)):Bool:=
  xQ ops cl [] st&&((List.range ops.length).all fun i=>(st.map (·.1)).contains i)&&((List.range ops.length).all fun i=>(vg (ops.getD i cx)).all fun d=>decide (d<i))&&(ops.all fun o=>o.guard.isNone)&&
  ((List.range ops.length).all fun i=>(jw cl i).all fun j=>(vg (ops.getD i cx)).contains j||(vg (ops.getD i cx)).any fun d=>decide (d<i)&&(jw cl d).contains j)&&
  ((List.range ops.length).all fun i=>(List.range ops.length).all fun j=>i==j||(ops.getD i cx).dst==none||(ops.getD i cx).dst !=(ops.getD j cx).dst)&&
  (List.range ops.length).all fun i=>(FO (ops.getD i cx)).all fun t=>(List.range ops.length).all fun j=>(ops.getD j cx).dst !=some t||(jw cl i).contains j||(jw cl j).contains i
section
variable {P:Program} {KT:TypeId→Bool} {sm:List Nat} {ops:List Oper} {N:Nat} {τ0:Fr} {cl:List (List Nat)} {c:Cx}
def qX(ops:List Oper)(i:Nat):Option Tmp:=(ops.getD i cx).dst
def eC(ops:List Oper)(τ0:Fr)(S:List Nat)(vals:Nat→AV):Fr:=fun t=>match S.find? fun i=>qX ops i==some t with
  |some i=>vals i
  |none=>τ0 t
def Ei(ops:List Oper):Prop:=∀i j t,i<ops.length→j<ops.length→qX ops i=some t→qX ops j=some t→i=j
theorem Df(ha:Ei ops){S:List Nat}(hS:∀i∈S,i<ops.length){vals:Nat→AV}{i:Nat}(hi:i∈S){t:Tmp}(ht:qX ops i=some t):eC ops τ0 S vals t=vals i:=by
  unfold eC
  cases hf:S.find? fun i=>qX ops i==some t with
  |none=>
    have:=List.find?_eq_none.1 hf i hi
    simp[ht]at this
  |some j=>
    have h1:=List.find?_some hf
    have h2:=List.mem_of_find?_eq_some hf
    rw[ha i j t (hS i hi) (hS j h2) ht (by simpa using h1)]
theorem OW{S:List Nat}{vals:Nat→AV}{t:Tmp}(h:∀i∈S,qX ops i≠some t):eC ops τ0 S vals t=τ0 t:=by
  unfold eC
  rw[List.find?_eq_none.2 fun i hi=>by simpa using h i hi]
theorem xB(ha:Ei ops){S S':List Nat}(hS:∀i∈S,i<ops.length)(zr:∀i∈S',i<ops.length){vals vals':Nat→AV}{t:Tmp}(h:∀i,qX ops i=some t→(i∈S↔i∈S'))(hv:∀i∈S,vals i=vals' i):eC ops τ0 S vals t=eC ops τ0 S' vals' t:=by
  by_cases hex:∃i∈S,qX ops i=some t
  · obtain⟨i,hi,ht⟩:=hex
    rw[Df ha hS hi ht,Df ha zr ((h i ht).1 hi) ht,hv i hi]
  · have h1:∀i∈S,qX ops i≠some t:=fun i hi ht=>hex ⟨i,hi,ht⟩
    rw[OW h1,OW fun i hi ht=>h1 i ((h i ht).2 hi) ht]
theorem Iw(ha:Ei ops){S:List Nat}(hS:∀i∈S,i<ops.length){vals:Nat→AV}{i:Nat}(hi:i∉S)(aA:i<ops.length){v:AV}(hv:vals i=v):(eC ops τ0 S vals).put (qX ops i) v=eC ops τ0 (S++[i]) vals:=by
  have zr:∀j∈S++[i],j<ops.length:=fun j hj=>by
    rcases p6.1 hj with h|h
    · exact hS j h
    · rw[rN.1 h];exact aA
  funext t
  cases hd:qX ops i with
  |none=>
    show eC ops τ0 S vals t=_
    refine xB ha hS zr (fun j hj=>?_) fun _ _=>rfl
    have:j≠i:=fun e=>by rw[e,hd]at hj;cases hj
    simp[this]
  |some d=>
    simp only[Fr.put]
    split
    · rename_i e
      subst e
      rw[Df ha zr (i:=i) (by simp) hd,hv]
    · rename_i cR
      refine xB ha hS zr (fun j hj=>?_) fun _ _=>rfl
      have:j≠i:=fun e=>by rw[e,hd]at hj;cases hj;exact cR rfl
      simp[this]
structure Ck (ops:List Oper) (cl:List (List Nat)):Prop where
  ap:Ei ops
  gd:∀(i:Nat) (o:Oper),ops[i]? =some o→o.guard=none
  bk:∀i,i<ops.length→∀d∈vg (ops.getD i cx),d<i
  cl1:∀i,i<ops.length→∀j∈jw cl i,j∈vg (ops.getD i cx)∨∃d∈vg (ops.getD i cx),d<i∧j∈jw cl d
  opd:∀i,i<ops.length→∀t∈FO (ops.getD i cx),∀j,j<ops.length→qX ops j=some t→j∈jw cl i∨i∈jw cl j
theorem Ck.of{st:List (Nat × List Nat)}(h:Ll ops cl st=true):Ck ops cl∧xQ ops cl [] st=true∧∀i,i<ops.length→i∈st.map (·.1):=by
  unfold Ll at h
  simp only[fY,mZ]at h
  obtain⟨⟨⟨⟨⟨⟨h1,h2⟩,h7⟩,h3⟩,h4⟩,h5⟩,h6⟩:=h
  refine⟨⟨fun i j t hi hj KZ GS=>?_,fun i o ho=>?_,fun i hi d hd=>by simpa using kB.1 (kB.1 h7 i (tv.2 hi)) d hd,fun i hi j hj=>?_,fun i hi t ht j hj GS=>?_⟩,h1,fun i hi=>by simpa using kB.1 h2 i (tv.2 hi)⟩
  · have:=kB.1 (kB.1 h5 i (tv.2 hi)) j (tv.2 hj)
    simp only[Bool.or_eq_true,beq_iff_eq,bne_iff_ne,ne_eq]at this
    unfold qX at KZ GS
    rcases this with(h|h)|h
    · exact h
    · rw[h]at KZ;cases KZ
    · exact absurd (KZ.trans GS.symm) h
  · have:=kB.1 h3 o (List.mem_of_getElem? ho)
    simpa using this
  · have:=kB.1 (kB.1 h4 i (tv.2 hi)) j hj
    simp only[Bool.or_eq_true,List.contains_eq_mem,mZ,List.any_eq_true,fY]at this
    exact this
  · have:=kB.1 (kB.1 (kB.1 h6 i (tv.2 hi)) t ht) j (tv.2 hj)
    simp only[Bool.or_eq_true,bne_iff_ne,ne_eq,List.contains_eq_mem,mZ]at this
    unfold qX at GS
    rcases this with(h|h)|h
    · exact absurd GS h
    · exact .inl h
    · exact .inr h
def iy(listed:Array Bool)(i:Nat):Prop:=listed.getD i false=true
theorem Ck.closed(k:Ck ops cl){listed:Array Bool}(hc:iu ops listed):∀(n i:Nat),i<n→i<ops.length→(∀d∈vg (ops.getD i cx),iy listed d)→∀j∈jw cl i,iy listed j
  |n+1,i,hn,hi,hw,j,hj=>by
    rcases k.cl1 i hi j hj with h|⟨d,hd,aA,h⟩
    · exact hw j h
    · refine k.closed hc n d (by omega) (by omega) (fun e he=>?_) j h
      have qe:d<ops.length:=by omega
      unfold vg at he
      obtain⟨ed,hed,rfl⟩:=mF.1 he
      obtain⟨h1,h2⟩:=List.mem_filter.1 hed
      rw[fZ,iv qe]at h1
      exact hc d ops[d] (iv qe) (hw d hd) ed (by simpa using h1) h2
theorem jrr{i:Nat}{o:Oper}(h:ops[i]? =some o):ops.getD i cx=o:=by rw[fZ,h];rfl
theorem Ck.ready(k:Ck ops cl){listed:Array Bool}(hc:iu ops listed){i:Nat}(hi:i∈Region.ready .any ops.toArray listed):i<ops.length∧listed.getD i true=false∧∀j∈jw cl i,iy listed j:=by
  obtain⟨h0,o,ho,cV⟩:=mem_ready.1 hi
  rw[List.getElem?_toArray]at ho
  have aA:=(ew.1 ho).1
  refine⟨aA,h0,k.closed hc (i+1) i (by omega) aA fun d hd=>?_⟩
  rw[jrr ho]at hd
  unfold vg at hd
  obtain⟨e,he,rfl⟩:=mF.1 hd
  obtain⟨h1,h2⟩:=List.mem_filter.1 he
  exact cV e (by simpa using h1) h2
theorem Ck.agree(k:Ck ops cl){S:List Nat}(hS:∀i∈S,i<ops.length){vals vals':Nat→AV}{i:Nat}(hi:i<ops.length)(fT:∀j∈jw cl i,j∈S)(gq:∀j∈S,i∉jw cl j)(hv:∀j∈jw cl i,vals j=vals' j):
    ∀y∈(ops.getD i cx).op.operands,bu (eC ops τ0 S vals) y=bu (eC ops τ0 (jw cl i) vals') y:=fun y hy=>by
  cases y with
  |tmp t=>
    have ht:t∈FO (ops.getD i cx):=List.mem_filterMap.2 ⟨.tmp t,by simpa using hy,rfl⟩
    refine(xB k.ap (fun j hj=>hS j (fT j hj)) hS (fun j hj=>⟨fT j,fun Le=>?_⟩) fun j hj=>(hv j hj).symm).symm
    rcases k.opd i hi t ht j (hS j Le) hj with h|h
    · exact h
    · exact absurd h (gq j Le)
  |_=>rfl
theorem zv6(ha:Ei ops){S:List Nat}(hS:∀i∈S,i<ops.length){vals vals':Nat→AV}{i:Nat}(fT:∀j∈jw cl i,j∈S)(hs:jgy ops cl i=true)(hv:∀j∈jw cl i,vals j=vals' j):
    ∀y∈(ops.getD i cx).op.operands,bu (eC ops τ0 S vals) y=bu (eC ops τ0 (jw cl i) vals') y:=fun y hy=>by
  cases y with
  |tmp t=>
    have ht:t∈FO (ops.getD i cx):=List.mem_filterMap.2 ⟨.tmp t,by simpa using hy,rfl⟩
    refine(xB ha (fun j hj=>hS j (fT j hj)) hS (fun j hj=>⟨fT j,fun Le=>?_⟩) fun j hj=>(hv j hj).symm).symm
    have:=kB.1 (kB.1 hs t ht) j (tv.2 (hS j Le))
    simp only[Bool.or_eq_true,bne_iff_ne,ne_eq,List.contains_eq_mem,mZ]at this
    exact this.resolve_left fun h=>h hj
  |_=>rfl
def Fact(P:Program)(ops:List Oper)(cl:List (List Nat))(N:Nat)(τ0:Fr)(vals:Nat→AV)(slot:Nat→Nat)(H:av)(i:Nat):Prop:=
  if bI [] (ops.getD i cx)then ∃o,H[N+slot i]? =some o∧∀H2,kI P true (N+slot i) (bu (eC ops τ0 (jw cl i) vals)) (ops.getD i cx).op H2 [] (vals i) (H2.set (N+slot i) o) []
  else iq P N H (bu (eC ops τ0 (jw cl i) vals)) (ops.getD i cx).op (vals i)
structure Inv (P:Program) (ops:List Oper) (cl:List (List Nat)) (N:Nat) (τ0:Fr) (pre:List Nat) (r:Nat) (vals:Nat→AV) (slot:Nat→Nat) (H HL:av) (listed:Array Bool):Prop where
  lt:∀i∈pre,i<ops.length
  cls:∀i∈pre,∀j∈jw cl i,j∈pre
  sub:∀i,iy listed i→i∈pre
  ac:∀i∈pre,lW (ops.getD i cx).op=true→iy listed i
  fact:∀i∈pre,¬iy listed i→Fact P ops cl N τ0 vals slot H i
  slt:∀i∈pre,bI [] (ops.getD i cx)=true→lW (ops.getD i cx).op=false→slot i<r
  inj:∀i∈pre,∀j∈pre,bI [] (ops.getD i cx)=true→lW (ops.getD i cx).op=false→bI [] (ops.getD j cx)=true→lW (ops.getD j cx).op=false→slot i=slot j→i=j
  len:HL.length=H.length
  As:N≤H.length
  m2:∀id,(∀i∈pre,bI [] (ops.getD i cx)=true→¬iy listed i→id≠N+slot i)→HL[id]? =H[id]?
  m3:∀i∈pre,bI [] (ops.getD i cx)=true→¬iy listed i→HL[N+slot i]? =some .free
theorem Mj{ops:List Oper}{τ:Fr}{o:Oper}(h:o.guard=none):lO ops τ o=some true:=by unfold lO;rw[h]
theorem jom{r:Nat}{o:Oper}(hg:o.guard=none)(gE:∀k,KT k=true→Maps.Keyed P k){τ:Fr}{H:av}{KK:Fr→av→List (Nat × Nat)→Prop}(h:sE P KT [] N 0 r [] [o] τ H [] KK):
    xz P [] N r (vO [] o) [] o τ H [] fun x H' sh'=>KK (τ.put o.dst x) H' sh':=by
  obtain⟨b,hb,ht,_⟩:=IP h
  have:b=true:=by rw[Mj hg]at hb;cases hb;rfl
  exact Zj gE (ht this)
theorem Fact.keep(ha:Ei ops){vals vals':Nat→AV}{slot lS:Nat→Nat}{H H':av}{i:Nat}(aA:∀j∈jw cl i,j<ops.length)(hv:∀j∈jw cl i,vals j=vals' j)(hi:vals i=vals' i)(hs:slot i=lS i)
    (hH:bI [] (ops.getD i cx)=true→H[N+slot i]? =H'[N+slot i]?) (hQ:bI [] (ops.getD i cx)=false→iq P N H (bu (eC ops τ0 (jw cl i) vals)) (ops.getD i cx).op (vals i)→iq P N H' (bu (eC ops τ0 (jw cl i) vals)) (ops.getD i cx).op (vals i))
    (h:Fact P ops cl N τ0 vals slot H i):Fact P ops cl N τ0 vals' lS H' i:=by
  have e:eC ops τ0 (jw cl i) vals=eC ops τ0 (jw cl i) vals':=funext fun t=>xB ha aA aA (fun _ _=>Iff.rfl) hv
  unfold Fact at h ⊢
  rw[←e,←hi,←hs]
  cases hl:bI [] (ops.getD i cx)with
  |true=>
    rw[if_pos hl]at h
    rw[if_pos rfl,←hH hl];exact h
  |false=>
    rw[if_neg (by rw[hl];decide)]at h
    rw[if_neg (by decide)];exact hQ hl h
theorem On{op:Op}(h:lW op=false):sl op=false∧(gx [] op=0∨gx [] op=1):=by
  unfold lW at h
  simp only[Bool.or_eq_false_iff,beq_eq_false_iff_ne,ne_eq]at h
  obtain⟨⟨⟨h1,h2⟩,h3⟩,h4⟩:=h
  refine⟨h1,?_⟩
  rcases C7 [] op with h|h|h|h|h
  · exact .inl h
  · exact .inr h
  · exact absurd h h2
  · exact absurd h h3
  · exact absurd h h4
theorem Inv.FQ(k:Ck ops cl)(gE:∀k,KT k=true→Maps.Keyed P k){pre:List Nat}{r:Nat}{vals:Nat→AV}{slot:Nat→Nat}{H HL:av}{listed:Array Bool}(v:Inv P ops cl N τ0 pre r vals slot H HL listed){i:Nat}{KK:Nat→Fr→av→Prop}
    (hi:i<ops.length) (hn:i∉pre) (fT:∀j∈jw cl i,j∈pre) (ha:lW (ops.getD i cx).op=false)
    (h:sE P KT [] N 0 r [] [ops.getD i cx] (eC ops τ0 pre vals) H [] fun τ' H' _=>KK (if bI [] (ops.getD i cx)then r+1 else r) τ' H'):
    ∃r' vals' lS H',Inv P ops cl N τ0 (pre++[i]) r' vals' lS H' HL listed∧KK r' (eC ops τ0 (pre++[i]) vals') H'∧∀j∈pre,vals' j=vals j:=by
  have hg:(ops.getD i cx).guard=none:=k.gd i _ (by rw[iv hi,fZ,iv hi];rfl)
  have hc:=jom hg gE h
  obtain⟨A8,hk⟩:=On ha
  have Pn:¬iy listed i:=fun h=>hn (v.sub i h)
  have cR:∀j∈pre,j≠i:=fun j hj e=>hn (e▸hj)
  have Hd:∀j∈jw cl i,j<ops.length:=fun j hj=>v.lt j (fT j hj)
  have Bc:∀(x:AV),∀y∈(ops.getD i cx).op.operands,bu (eC ops τ0 pre vals) y=bu (eC ops τ0 (jw cl i) fun j=>if j=i then x else vals j) y:=fun x=>
    k.agree v.lt hi fT (fun j hj mK=>hn (v.cls j hj i mK)) fun j hj=>(if_neg (cR j (fT j hj))).symm
  have base:∀(x:AV) (H':av) (r':Nat),r≤r'→H'.length=H.length→(∀id,(bI [] (ops.getD i cx)=true→id≠N+r)→H'[id]? =H[id]?)→(bI [] (ops.getD i cx)=true→r<r'∧H[N+r]? =some .free)→Fact P ops cl N τ0 (fun j=>if j=i then x else vals j) (fun j=>if j=i then r else slot j) H' i→
      Inv P ops cl N τ0 (pre++[i]) r' (fun j=>if j=i then x else vals j) (fun j=>if j=i then r else slot j) H' HL listed:=by
    intro x H' r' hr hlen hH eg hf
    have eH:∀j,j∈pre++[i]→j∈pre∨j=i:=fun j hj=>by simpa using hj
    refine⟨fun j hj=>?_,fun j hj q hq=>?_,fun j hj=>List.mem_append_left _ (v.sub j hj),fun j hj sK=>?_,fun j hj hu=>?_,fun j hj hl sK=>?_,fun p hp q hq lp ap lq aq he=>?_,v.len.trans hlen.symm,hlen▸v.As,fun id hid=>?_,fun j hj hl hu=>?_⟩
    · rcases eH j hj with h|rfl
      · exact v.lt j h
      · exact hi
    · rcases eH j hj with h|rfl
      · exact List.mem_append_left _ (v.cls j h q hq)
      · exact List.mem_append_left _ (fT q hq)
    · rcases eH j hj with h|rfl
      · exact v.ac j h sK
      · rw[ha]at sK;cases sK
    · rcases eH j hj with h|rfl
      · refine Fact.keep k.ap (fun q hq=>v.lt q (v.cls j h q hq)) (fun q hq=>(if_neg (cR q (v.cls j h q hq))).symm) (if_neg (cR j h)).symm (if_neg (cR j h)).symm (fun hl=>?_) (fun hl hq=>?_) (v.fact j h hu)
        · have sK:lW (ops.getD j cx).op=false:=by
            cases hx:lW (ops.getD j cx).op with
            |false=>rfl
            |true=>exact absurd (v.ac j h hx) hu
          have:=v.slt j h hl sK
          exact(hH _ fun _=>by omega).symm
        · exact yF (fun id hid=>(hH id fun _=>by omega).symm) _ _ hq
      · exact hf
    · rcases eH j hj with h|rfl
      · simp only[if_neg (cR j h)];exact Nat.lt_of_lt_of_le (v.slt j h hl sK) hr
      · simp only[if_pos];exact(eg hl).1
    · rcases eH p hp with h1|h1<;>rcases eH q hq with h2|h2
      · simp only[if_neg (cR p h1),if_neg (cR q h2)]at he;exact v.inj p h1 q h2 lp ap lq aq he
      · simp only[if_neg (cR p h1),if_pos h2]at he;have:=v.slt p h1 lp ap;omega
      · simp only[if_neg (cR q h2),if_pos h1]at he;have:=v.slt q h2 lq aq;omega
      · rw[h1,h2]
    · have h1:=v.m2 id fun j hj hl hu=>by have:=hid j (List.mem_append_left _ hj) hl hu;simpa only[if_neg (cR j hj)]using this
      rw[h1]
      exact(hH id fun hl=>by have:=hid i (by simp) hl Pn;simpa using this).symm
    · rcases eH j hj with h|rfl
      · simp only[if_neg (cR j h)];exact v.m3 j h hl hu
      · simp only[if_true]
        rw[v.m2 _ fun q hq hlq huq=>?_]
        · exact(eg hl).2
        · have hqa:lW (ops.getD q cx).op=false:=by
            cases hx:lW (ops.getD q cx).op with
            |false=>rfl
            |true=>exact absurd (v.ac q hq hx) huq
          have:=v.slt q hq hlq hqa;omega
  have put:∀x,(eC ops τ0 pre vals).put (ops.getD i cx).dst x=eC ops τ0 (pre++[i]) fun j=>if j=i then x else vals j:=fun x=>by
    rw[show eC ops τ0 pre vals=eC ops τ0 pre (fun j=>if j=i then x else vals j) from funext fun t=>xB k.ap v.lt v.lt (fun _ _=>Iff.rfl) fun j hj=>(if_neg (cR j hj)).symm]
    exact Iw k.ap v.lt hn hi (if_pos rfl)
  unfold xz at hc
  rcases hk with hk|hk
  · have hl:bI [] (ops.getD i cx)=false:=by unfold bI;rw[hk];rfl
    simp only[hk]at hc
    obtain⟨x,hq,hh⟩:=hc
    rw[put]at hh
    refine⟨r,_,_,H,base x H r (bJ _) rfl (fun _ _=>rfl) (fun h=>by rw[hl]at h;cases h) ?_,?_,fun j hj=>if_neg (cR j hj)⟩
    · unfold Fact
      rw[if_neg (by rw[hl];decide)]
      simp only[if_true]
      rw[←IX (P:=P) (Bc x)];exact hq
    · rw[if_neg (by rw[hl];decide)]at hh;exact hh
  · have hl:bI [] (ops.getD i cx)=true:=by unfold bI;rw[hk];rfl
    simp only[hk]at hc
    obtain⟨h1,_,_,x,H',sh',hq,hh⟩:=hc
    obtain⟨o,rfl,rfl,cV⟩:=BN hk hq
    rw[put]at hh
    have aA:N+r<H.length:=(ew.1 h1).1
    refine⟨r+1,_,_,H.set (N+r) o,base x (H.set (N+r) o) (r+1) (by omega) (by simp) (fun id hid=>pW (hid hl)) (fun _=>⟨by omega,h1⟩) ?_,?_,fun j hj=>if_neg (cR j hj)⟩
    · unfold Fact
      rw[if_pos hl]
      simp only[if_true]
      refine⟨o,List.getElem?_set_self aA,fun H2=>?_⟩
      rw[←IW (P:=P) (Bc x)];exact cV H2 []
    · rw[if_pos hl]at hh;exact hh
theorem Inv.advance(k:Ck ops cl)(gE:∀k,KT k=true→Maps.Keyed P k){HL:av}{listed:Array Bool}{K:Fr→av→Prop}:∀(rest:List (Nat × List Nat)) (pre:List Nat) (r:Nat) (vals:Nat→AV) (slot:Nat→Nat) (H:av),Inv P ops cl N τ0 pre r vals slot H HL listed→
    xQ ops cl pre rest=true→sS P KT sm N τ0 r (qD ops rest) (eC ops τ0 pre vals) H K→
    ∃vY qH r' vals' lS H',Inv P ops cl N τ0 vY r' vals' lS H' HL listed∧xQ ops cl vY qH=true∧sS P KT sm N τ0 r' (qD ops qH) (eC ops τ0 vY vals') H' K∧(∀j∈pre,j∈vY∧vals' j=vals j)∧(∀j,j∈pre∨j∈rest.map (·.1)→j∈vY∨j∈qH.map (·.1))∧(qH=[]∨∃i fq l,qH=(i,fq)::l∧lW (ops.getD i cx).op=true)
  |[],pre,r,vals,slot,H,v,hs,h=>⟨pre,[],r,vals,slot,H,v,hs,h,fun j hj=>⟨hj,rfl⟩,fun j hj=>hj,.inl rfl⟩
  |(i,fq)::l,pre,r,vals,slot,H,v,hs,h=>by
    cases ha:lW (ops.getD i cx).op with
    |true=>exact⟨pre,(i,fq)::l,r,vals,slot,H,v,hs,h,fun j hj=>⟨hj,rfl⟩,fun j hj=>hj,.inr ⟨i,fq,l,rfl,ha⟩⟩
    |false=>
      have GV:=hs
      simp only[xQ,fY,mZ,Bool.not_eq_true',List.contains_eq_mem,decide_eq_false_iff_not,kB]at GV
      obtain⟨⟨⟨⟨⟨h1,h2⟩,h3⟩,h4⟩,_⟩,h5⟩:=GV
      have hh:oS P KT sm N τ0 r (ops.getD i cx) (fq.map fun j=>ops.getD j cx) (eC ops τ0 pre vals) H fun r' τ' H'=>sS P KT sm N τ0 r' (qD ops l) τ' H' K:=h
      unfold oS at hh
      rw[if_neg (by rw[ha];decide)]at hh
      obtain⟨r',vals',lS,H',v',hK,hv⟩:=v.FQ k gE (KK:=fun r' τ' H'=>sS P KT sm N τ0 r' (qD ops l) τ' H' K) h4 h3 h1 ha hh
      obtain⟨sx,qG,r2,zJ,qF,H2,a1,a2,a3,a4,a5,a6⟩:=Inv.advance k gE l (pre++[i]) r' vals' lS H' v' h5 hK
      refine⟨sx,qG,r2,zJ,qF,H2,a1,a2,a3,fun j hj=>⟨(a4 j (List.mem_append_left _ hj)).1,(a4 j (List.mem_append_left _ hj)).2.trans (hv j hj)⟩,fun j hj=>a5 j ?_,a6⟩
      simp only[List.map_cons,List.mem_cons,p6,List.not_mem_nil,or_false]at hj ⊢
      rcases hj with h|h|h
      · exact .inl (.inl h)
      · exact .inl (.inr h)
      · exact .inr h
theorem Ck.all(k:Ck ops cl){listed:Array Bool}(gy:listed.size=ops.length)(h:Region.ready .any ops.toArray listed=[]):∀(n i:Nat),i<n→i<ops.length→iy listed i
  |n+1,i,hn,hi=>by
    by_cases hl:iy listed i
    · exact hl
    · exfalso
      have zk:i∈Region.ready .any ops.toArray listed:=mem_ready.2 ⟨by
        unfold iy at hl
        have aA:i<listed.size:=by omega
        simp only[Array.getD,dif_pos aA]at hl ⊢
        simpa using hl,ops[i],by rw[List.getElem?_toArray,iv hi],fun e he hb=>?_⟩
      · rw[h]at zk;cases zk
      · have hw:e.on∈vg (ops.getD i cx):=by
          rw[fZ,iv hi]
          exact mF.2 ⟨e,List.mem_filter.2 ⟨by simpa using he,hb⟩,rfl⟩
        have:=k.bk i hi _ hw
        exact k.all gy h n e.on (by omega) (by omega)
theorem jrt{op:Op}(h:quiet op=true):gx [] op=0:=by
  unfold quiet at h
  split at h<;>first|rfl|cases h
theorem jru{ρ:Operand→AV}{op:Op}{H H':av}{sh:List (Nat × Nat)}{x:AV}(h:pD P ρ op H sh x H'):H'.length=H.length:=by
  unfold pD at h
  split at h
  · obtain⟨kt,et,v,es,clock,id,_,_,_,_,_,_,_,_,_,_,rfl⟩:=h;simp
  · obtain⟨kt,et,v,es,clock,id,_,_,_,_,_,_,_,_,_,_,rfl⟩:=h;simp
  · obtain⟨kt,et,z,v,es,clock,id,_,_,_,_,_,_,_,_,_,_,h⟩:=h
    split at h
    · obtain⟨_,rfl⟩:=h;simp
    · obtain⟨_,rfl⟩:=h;simp
  · obtain⟨kd,n,es,clock,id,i,_,_,_,_,_,_,rfl⟩:=h;simp
  · split at h
    all_goals first|(obtain⟨kt,et,v,es,clock,id,_,_,_,_,_,_,_,_,_,_,rfl⟩:=h;simp;done)|(obtain⟨kt,et,es,clock,id,_,_,_,_,_,rfl⟩:=h;simp;done)|exact h.elim
  · exact h.elim
theorem jaw(gE:∀k,KT k=true→Maps.Keyed P k){τ:Fr}{H:av}{K:Prop}:∀{l:List Oper},(∀o∈l,o.guard=none)→sv P KT N l τ H K→K∧∀o∈l,gx [] o.op=0→∃d,o.dst=some d∧iq P N H (bu τ) o.op (τ d)
  |[],_,h=>⟨h,fun o ho=>by cases ho⟩
  |o::l,hg,h=>by
    unfold sv at h
    split at h
    · rename_i d hd
      have hc:=jom (hg o (List.mem_cons_self ..)) gE h
      have key:∀x,(τ.put o.dst x) d=x:=fun x=>by rw[hd];simp[Fr.put]
      have tail:∀{x:AV},(τ.put o.dst x) d=τ d∧sv P KT N l τ H K→(gx [] o.op=0→iq P N H (bu τ) o.op x)→K∧∀o'∈o::l,gx [] o'.op=0→∃d,o'.dst=some d∧iq P N H (bu τ) o'.op (τ d):=fun{x} hx hq=>by
        obtain⟨hx,hr⟩:=hx
        rw[key]at hx
        subst hx
        obtain⟨a1,a2⟩:=jaw gE (fun o' ho=>hg o' (vX _ ho)) hr
        refine⟨a1,fun o' wI vu=>?_⟩
        rcases List.mem_cons.1 wI with rfl|wI
        · exact⟨d,hd,hq vu⟩
        · exact a2 o' wI vu
      unfold xz at hc
      rcases C7 [] o.op with h0|h0|h0|h0|h0<;>simp only[h0]at hc
      · obtain⟨x,hq,hx⟩:=hc
        exact tail hx fun _=>hq
      · obtain⟨_,_,_,x,H',sh',hq,hx⟩:=hc
        exact tail hx fun h=>by rw[h0]at h;cases h
      · obtain⟨H',hq,hx⟩:=hc
        exact tail hx fun h=>by rw[h0]at h;cases h
      · obtain⟨_,_,_,x,H',sh',hq,hx⟩:=hc
        exact tail hx fun h=>by rw[h0]at h;cases h
      · obtain⟨x,H',hq,hx⟩:=hc
        exact tail hx fun h=>by rw[h0]at h;cases h
    · exact h.elim
theorem c9{pre:List Nat}{listed:Array Bool}{i:Nat}:i∈pre.filter (fun j=>listed.getD j false)↔i∈pre∧iy listed i:=by
  rw[List.mem_filter];rfl
theorem sk{listed:Array Bool}{i j:Nat}(hi:i<listed.size):iy (listed.setIfInBounds i true) j↔j=i∨iy listed j:=by
  by_cases h:j=i
  · subst h;simp[iy,hi]
  · unfold iy;rw[getD_set_ne false (Ne.symm h)];simp[h]
theorem jk9(k:Ck ops cl){pre:List Nat}(aA:∀i∈pre,i<ops.length){vals:Nat→AV}{listed:Array Bool}{i:Nat}(gy:i<listed.size)(hi:i∈pre)(hn:¬iy listed i){v:AV}(hv:vals i=v):
    (eC ops τ0 (pre.filter fun j=>listed.getD j false) vals).put (qX ops i) v=eC ops τ0 (pre.filter fun j=>(listed.setIfInBounds i true).getD j false) vals:=by
  have h1:∀j∈pre.filter (fun j=>listed.getD j false),j<ops.length:=fun j hj=>aA j (c9.1 hj).1
  rw[Iw k.ap h1 (fun h=>hn (c9.1 h).2) (aA i hi) hv]
  funext t
  refine xB k.ap (fun j hj=>?_) (fun j hj=>aA j (c9.1 hj).1) (fun j _=>?_) fun _ _=>rfl
  · rcases p6.1 hj with h|h
    · exact h1 j h
    · rw[rN.1 h];exact aA i hi
  · rw[p6,c9,c9,rN,sk gy]
    constructor
    · rintro(⟨a,b⟩|rfl)
      · exact⟨a,.inr b⟩
      · exact⟨hi,.inl rfl⟩
    · rintro⟨a,rfl|b⟩
      · exact .inr rfl
      · exact .inl ⟨a,b⟩
theorem Inv.list{pre:List Nat}{r:Nat}{vals:Nat→AV}{slot:Nat→Nat}{H HL nW:av}{listed:Array Bool}{i:Nat}(v:Inv P ops cl N τ0 pre r vals slot H HL listed)(gy:i<listed.size)(hi:i∈pre)(hn:¬iy listed i)
    (h1:nW.length=HL.length) (h2:∀id,(bI [] (ops.getD i cx)=true→id≠N+slot i)→nW[id]? =HL[id]?) (h3:bI [] (ops.getD i cx)=true→nW[N+slot i]? =H[N+slot i]?):Inv P ops cl N τ0 pre r vals slot H nW (listed.setIfInBounds i true):=by
  have un:∀{j},¬iy (listed.setIfInBounds i true) j→j≠i∧¬iy listed j:=fun{j} h=>⟨fun e=>h ((sk gy).2 (.inl e)),fun e=>h ((sk gy).2 (.inr e))⟩
  have ua:∀{j},j∈pre→¬iy listed j→Go.Proofs.YtapjobndmmkanaaGreat.lW (ops.getD j cx).op=false:=fun{j} hj hu=>by
    cases hx:Go.Proofs.YtapjobndmmkanaaGreat.lW (ops.getD j cx).op with
    |false=>rfl
    |true=>exact absurd (v.ac j hj hx) hu
  refine⟨v.lt,v.cls,fun j hj=>?_,fun j hj ha=>(sk gy).2 (.inr (v.ac j hj ha)),fun j hj hu=>v.fact j hj (un hu).2,v.slt,v.inj,h1.trans v.len,v.As,fun id hid=>?_,fun j hj hl hu=>?_⟩
  · rcases(sk gy).1 hj with rfl|h
    · exact hi
    · exact v.sub j h
  · by_cases he:bI [] (ops.getD i cx)=true∧id=N+slot i
    · obtain⟨hl,rfl⟩:=he
      exact h3 hl
    · rw[h2 id fun hl e=>he ⟨hl,e⟩]
      refine v.m2 id fun j hj hl hu=>?_
      by_cases mK:j=i
      · subst mK;exact fun e=>he ⟨hl,e⟩
      · exact hid j hj hl fun h=>by
          rcases(sk gy).1 h with h|h
          · exact mK h
          · exact hu h
  · obtain⟨mK,y7⟩:=un hu
    rw[h2 _ fun hli e=>mK (v.inj j hj i hi hl (ua hj y7) hli (ua hi hn) (by omega))]
    exact v.m3 j hj hl y7
theorem jg0(k:Ck ops cl)(gE:∀k,KT k=true→Maps.Keyed P k)(hd:pU c.nt ops=true)(Co:Kp c sm){K:Fr→av→Prop}{Q:Exit→Act→World→Prop}(hK:∀τ H a w,K τ H→R c τ H [] a w→Q .normal a w):
    ∀(fuel:Nat) (rem:List Nat) (pre:List Nat) (rest:List (Nat × List Nat)) (r:Nat) (vals:Nat→AV) (slot:Nat→Nat) (H HL:av) (listed:Array Bool) (a:Act) (w:World),rem.length=fuel→(∀i,i<ops.length→¬iy listed i→i∈rem)→listed.size=ops.length→iu ops listed→
      Inv P ops cl N τ0 pre r vals slot H HL listed→xQ ops cl pre rest=true→sS P KT sm N τ0 r (qD ops rest) (eC ops τ0 pre vals) H K→(∀i,i<ops.length→i∈pre∨i∈rest.map (·.1))→(rest=[]∨∃i fq l,rest=(i,fq)::l∧lW (ops.getD i cx).op=true)→
      R c (eC ops τ0 (pre.filter fun j=>listed.getD j false) vals) HL [] a w→wpAnyIn c.F 0 P .any ops.toArray Q fuel listed a w:=by
  -- where all is listed
  have fin:∀(pre:List Nat) (rest:List (Nat × List Nat)) (r:Nat) (vals:Nat→AV) (slot:Nat→Nat) (H HL:av) (listed:Array Bool) (a:Act) (w:World),Inv P ops cl N τ0 pre r vals slot H HL listed→xQ ops cl pre rest=true→sS P KT sm N τ0 r (qD ops rest) (eC ops τ0 pre vals) H K→
      R c (eC ops τ0 (pre.filter fun j=>listed.getD j false) vals) HL [] a w→(∀i,i<ops.length→iy listed i)→Q .normal a w:=by
    intro pre rest r vals slot H HL listed a w v cd dm hR cV
    have kc:rest=[]:=by
      cases rest with
      |nil=>rfl
      |cons q l=>
        obtain⟨i,fq⟩:=q
        exfalso
        simp only[xQ,fY,mZ,Bool.not_eq_true',List.contains_eq_mem,decide_eq_false_iff_not]at cd
        exact cd.1.1.1.2 (v.sub i (cV i cd.1.1.2))
    subst kc
    have e1:eC ops τ0 (pre.filter fun j=>listed.getD j false) vals=eC ops τ0 pre vals:=by
      rw[List.filter_eq_self.2 fun j hj=>cV j (v.lt j hj)]
    have e2:HL=H:=List.ext_getElem? fun id=>v.m2 id fun i hi _ hu=>absurd (cV i (v.lt i hi)) hu
    rw[e1,e2]at hR
    exact hK _ _ a w dm hR
  intro fuel
  induction fuel with
  |zero=>
    intro rem pre rest r vals slot H HL listed a w p7 zd gy fT v cd dm zo P0 hR
    have La:rem=[]:=List.eq_nil_of_length_eq_zero p7
    have cV:∀i,i<ops.length→iy listed i:=fun i hi=>Classical.byContradiction fun h=>by have:=zd i hi h;rw[La]at this;cases this
    refine⟨List.eq_nil_iff_forall_not_mem.2 fun i hi=>?_,fin pre rest r vals slot H HL listed a w v cd dm hR cV⟩
    obtain⟨h1,h2,_⟩:=k.ready fT hi
    have:=cV i h1
    unfold iy at this
    rw[MJ this]at h2;cases h2
  |succ fuel ih=>
    intro rem pre rest r vals slot H HL listed a w p7 zd gy fT v cd dm zo P0 hR
    refine⟨fun h0=>fin pre rest r vals slot H HL listed a w v cd dm hR fun i hi=>k.all gy h0 (i+1) i (by omega) hi,fun i hi=>?_⟩
    obtain⟨aA,Cl,qU⟩:=k.ready fT hi
    have lf:¬iy listed i:=fun h=>by unfold iy at h;rw[MJ h]at Cl;cases Cl
    have tH:i<listed.size:=by omega
    have Lc:ops[i]? =some (ops.getD i cx):=by rw[iv aA,fZ,iv aA];rfl
    have hg:(ops.getD i cx).guard=none:=k.gd i _ Lc
    obtain⟨pl,hR⟩:=hR
    have hw:Region.wanted (ops.getD i cx) (yielded ops.toArray a.tmps)=true:=MD hR (b:=true) (Mj hg)
    have oy:∀d,(ops.getD i cx).dst=some d→d<c.nt:=fun d e=>by
      have:=kB.1 hd _ (List.mem_of_getElem? Lc)
      rw[e]at this;simpa using((fY _ _).mp this).1
    have nO:Ky (ops.getD i cx).op=true:=by
      have:=kB.1 hd _ (List.mem_of_getElem? Lc)
      exact((fY _ _).mp this).2
    have zk:i∈rem:=zd i aA lf
    have AY:∀j,j<ops.length→¬iy (listed.setIfInBounds i true) j→j∈rem.erase i:=fun j hj hu=>by
      have:j≠i:=fun e=>hu ((sk tH).2 (.inl e))
      exact(List.mem_erase_of_ne this).2 (zd j hj fun h=>hu ((sk tH).2 (.inr h)))
    have A5:(rem.erase i).length=fuel:=by rw[List.length_erase_of_mem zk];omega
    have za:(listed.setIfInBounds i true).size=ops.length:=by simpa using gy
    have Hr:=fT.set hi
    -- what a listed operation hangs on is listed
    have kR:∀j∈pre,iy listed j→∀q∈jw cl j,iy listed q:=fun j hj hl=>k.closed fT (j+1) j (by omega) (v.lt j hj) fun d hd=>by
      have oQ:=v.lt j hj
      unfold vg at hd
      obtain⟨e,he,rfl⟩:=mF.1 hd
      obtain⟨h1,h2⟩:=List.mem_filter.1 he
      rw[fZ,iv oQ]at h1
      exact fT j ops[j] (iv oQ) hl e (by simpa using h1) h2
    have uB:∀j∈pre.filter (fun j=>listed.getD j false),j<ops.length:=fun j hj=>v.lt j (c9.1 hj).1
    unfold wpOpIn
    rw[List.getElem?_toArray,Lc]
    simp only
    rw[if_pos hw]
    by_cases uC:i∈pre
    · -- an operation that was taken early
      have G3:lW (ops.getD i cx).op=false:=by
        cases hx:lW (ops.getD i cx).op with
        |false=>rfl
        |true=>exact absurd (v.ac i uC hx) lf
      obtain⟨A8,bM⟩:=On G3
      have hf:=v.fact i uC lf
      have Bc:=k.agree (τ0:=τ0) uB (vals:=vals) (vals':=vals) aA (fun j hj=>c9.2 ⟨v.cls i uC j hj,qU j hj⟩) (fun j hj Hl=>lf (kR j (c9.1 hj).1 (c9.1 hj).2 i Hl)) fun _ _=>rfl
      have next:∀{nW:av} {u:Value} {w':World} {bK:List (Option (Nat × Nat))},Inv P ops cl N τ0 pre r vals slot H nW (listed.setIfInBounds i true)→aV c (eC ops τ0 (pre.filter fun j=>listed.getD j false) vals) nW [] bK a w'→Rd w' bK (bF c.E nW bK) (vals i) u→
          wpAnyIn c.F 0 P .any ops.toArray Q fuel (listed.setIfInBounds i true) (a.put (ops.getD i cx).dst u) w':=fun v' h1 h2=>by
        refine ih (rem.erase i) pre rest r vals slot H _ _ _ _ A5 AY za Hr v' cd dm zo P0 ?_
        rw[←jk9 k v.lt tH uC lf rfl]
        exact⟨_,h1.put _ oy h2⟩
      unfold Fact at hf
      cases hl:bI [] (ops.getD i cx)with
      |false=>
        rw[if_neg (by rw[hl];decide)]at hf
        have hq:iq P N HL (bu (eC ops τ0 (pre.filter fun j=>listed.getD j false) vals)) (ops.getD i cx).op (vals i):=by
          rw[IX (P:=P) Bc]
          exact yF (fun id hid=>(v.m2 id fun j _ _ _=>by omega).symm) _ _ hf
        exact sn c nO (IZ hR hq fun u w' h1 h2=>next (v.list tH uC lf rfl (fun _ _=>rfl) fun h=>by rw[hl]at h;cases h) h1 h2)
      |true=>
        rw[if_pos hl]at hf
        obtain⟨o,ho,cV⟩:=hf
        have eg:=v.m3 i uC hl lf
        have hq:kI P true (N+slot i) (bu (eC ops τ0 (pre.filter fun j=>listed.getD j false) vals)) (ops.getD i cx).op HL [] (vals i) (HL.set (N+slot i) o) []:=by
          rw[IW (P:=P) Bc];exact cV HL
        exact sn c nO (IY hR eg (fun p hp=>by cases hp) hq fun u w' bK h1 h2=>next (v.list tH uC lf (by simp) (fun id hid=>pW (hid hl)) fun _=>by rw[List.getElem?_set_self (ew.1 eg).1,ho]) h1 h2)
    · -- the next of those that may move Nx
      have hir:=(zo i aA).resolve_left uC
      rcases P0 with rfl|⟨q,fq,l,rfl,qV⟩
      · cases hir
      have hst0:=cd
      simp only[xQ,fY,mZ,Bool.not_eq_true',List.contains_eq_mem,decide_eq_false_iff_not,kB,qV,Bool.true_eq_false,false_or,Bool.or_eq_true]at cd
      obtain⟨⟨⟨⟨⟨s1,s2⟩,s3⟩,s4⟩,s5,s6⟩,s7⟩:=cd
      have hiq:i=q:=by
        rcases List.mem_cons.1 hir with h|h
        · exact h
        · exfalso
          obtain⟨p,hp,rfl⟩:=mF.1 h
          exact s3 (v.sub q (qU q (s5 p hp)))
      subst hiq
      have ka:aS P KT sm N τ0 (ops.getD i cx) (eC ops τ0 pre vals) H fun τ' H'=>sv P KT N (fq.map fun j=>ops.getD j cx) τ' H' (sS P KT sm N τ0 r (qD ops l) τ' H' K):=by
        have hh:oS P KT sm N τ0 r (ops.getD i cx) (fq.map fun j=>ops.getD j cx) (eC ops τ0 pre vals) H fun r' τ' H'=>sS P KT sm N τ0 r' (qD ops l) τ' H' K:=dm
        unfold oS at hh
        rw[if_pos qV]at hh
        exact hh
      have cR:∀j∈pre,j≠i:=fun j hj e=>uC (e▸hj)
      have Qb:=k.agree (τ0:=τ0) v.lt (vals:=vals) (vals':=vals) aA s1 (fun j hj Hl=>uC (v.cls j hj i Hl)) fun _ _=>rfl
      have Qc:=k.agree (τ0:=τ0) uB (vals:=vals) (vals':=vals) aA (fun j hj=>c9.2 ⟨s1 j hj,qU j hj⟩) (fun j hj Hl=>uC (v.cls j (c9.1 hj).1 i Hl)) fun _ _=>rfl
      have tP:∀y∈(ops.getD i cx).op.operands,bu (eC ops τ0 pre vals) y=bu (eC ops τ0 (pre.filter fun j=>listed.getD j false) vals) y:=fun y hy=>(Qb y hy).trans (Qc y hy).symm
      have unl:∀j∈pre,¬iy listed j→lW (ops.getD j cx).op=false:=fun j hj hu=>by
        cases hx:lW (ops.getD j cx).op with
        |false=>rfl
        |true=>exact absurd (v.ac j hj hx) hu
      -- behind it
      have post:∀{x:AV} {u:Value} {H' nW:av} {w':World} {bK:List (Option (Nat × Nat))},sv P KT N (fq.map fun j=>ops.getD j cx) ((eC ops τ0 pre vals).put (ops.getD i cx).dst x) H' (sS P KT sm N τ0 r (qD ops l) ((eC ops τ0 pre vals).put (ops.getD i cx).dst x) H' K)→
          nW.length=H'.length→N≤H'.length→(∀id,(∀j∈pre,bI [] (ops.getD j cx)=true→¬iy listed j→id≠N+slot j)→nW[id]? =H'[id]?)→(∀j∈pre,bI [] (ops.getD j cx)=true→¬iy listed j→nW[N+slot j]? =some .free∧H'[N+slot j]? =H[N+slot j]?)→
          aV c (eC ops τ0 (pre.filter fun j=>listed.getD j false) vals) nW [] bK a w'→Rd w' bK (bF c.E nW bK) x u→wpAnyIn c.F 0 P .any ops.toArray Q fuel (listed.setIfInBounds i true) (a.put (ops.getD i cx).dst u) w':=by
        intro x u H' nW w' bK hre oP hN PL Hc CH hx
        have ze:(eC ops τ0 pre vals).put (ops.getD i cx).dst x=eC ops τ0 (pre++[i]) fun j=>if j=i then x else vals j:=by
          rw[show eC ops τ0 pre vals=eC ops τ0 pre (fun j=>if j=i then x else vals j) from funext fun t=>xB k.ap v.lt v.lt (fun _ _=>Iff.rfl) fun j hj=>(if_neg (cR j hj)).symm]
          exact Iw k.ap v.lt uC aA (if_pos rfl)
        rw[ze]at hre
        have tJ:∀j∈pre++[i],j<ops.length:=fun j hj=>by
          rcases p6.1 hj with h|h
          · exact v.lt j h
          · rw[rN.1 h];exact aA
        have P6:∀o∈fq.map (fun j=>ops.getD j cx),o.guard=none:=fun o ho=>by
          obtain⟨j,_,rfl⟩:=mF.1 ho
          by_cases oQ:j<ops.length
          · exact k.gd j _ (by rw[iv oQ,fZ,iv oQ];rfl)
          · rw[fZ,List.getElem?_eq_none (by omega)];rfl
        obtain⟨GX,Cu⟩:=jaw gE P6 hre
        have eH:∀j,j∈pre++[i]→j∈pre∨j=i:=fun j hj=>by simpa using hj
        have v':Inv P ops cl N τ0 (pre++[i]) r (fun j=>if j=i then x else vals j) slot H' nW (listed.setIfInBounds i true):=by
          have un:∀{j},¬iy (listed.setIfInBounds i true) j→j≠i∧¬iy listed j:=fun{j} h=>⟨fun e=>h ((sk tH).2 (.inl e)),fun e=>h ((sk tH).2 (.inr e))⟩
          refine⟨tJ,fun j hj q hq=>?_,fun j hj=>?_,fun j hj ha=>?_,fun j hj hu=>?_,fun j hj hl sK=>?_,fun p hp q hq lp ap lq aq he=>?_,oP,hN,fun id hid=>?_,fun j hj hl hu=>?_⟩
          · rcases eH j hj with h|rfl
            · exact List.mem_append_left _ (v.cls j h q hq)
            · exact List.mem_append_left _ (s1 q hq)
          · rcases(sk tH).1 hj with rfl|h
            · simp
            · exact List.mem_append_left _ (v.sub j h)
          · rcases eH j hj with h|rfl
            · exact(sk tH).2 (.inr (v.ac j h ha))
            · exact(sk tH).2 (.inl rfl)
          · obtain⟨mK,y7⟩:=un hu
            have A7:=(eH j hj).resolve_right mK
            have Hd:∀q∈jw cl j,q<ops.length:=fun q hq=>v.lt q (v.cls j A7 q hq)
            refine Fact.keep k.ap Hd (fun q hq=>(if_neg (cR q (v.cls j A7 q hq))).symm) (if_neg mK).symm rfl (fun hl=>(Hc j A7 hl y7).2.symm) (fun hl hq=>?_) (v.fact j A7 y7)
            rcases s6 j A7 with((h|h)|⟨h,_⟩)|⟨⟨h,_⟩,Ps⟩
            · exact absurd (qU j h) y7
            · exact Fo h _ _ _ hq
            · rw[hl]at h;cases h
            · obtain⟨_,bM⟩:=On (unl j A7 y7)
              have h0:gx [] (ops.getD j cx).op=0:=by
                rcases bM with h0|h0
                · exact h0
                · unfold bI at hl;rw[h0]at hl;cases hl
              obtain⟨d,P3,hqq⟩:=Cu _ (mF.2 ⟨j,h,rfl⟩) h0
              rw[Df k.ap tJ hj P3,if_neg mK]at hqq
              rw[←IX (P:=P) (zv6 k.ap tJ (vals:=fun j=>if j=i then x else vals j) (fun q hq=>List.mem_append_left _ (v.cls j A7 q hq)) Ps fun q hq=>if_neg (cR q (v.cls j A7 q hq)))]
              exact hqq
          · rcases eH j hj with h|rfl
            · exact v.slt j h hl sK
            · rw[qV]at sK;cases sK
          · rcases eH p hp with h1|h1
            · rcases eH q hq with h2|h2
              · exact v.inj p h1 q h2 lp ap lq aq he
              · rw[h2,qV]at aq;cases aq
            · rw[h1,qV]at ap;cases ap
          · exact PL id fun j hj hl hu=>hid j (List.mem_append_left _ hj) hl fun h=>by
              rcases(sk tH).1 h with h|h
              · exact cR j hj h
              · exact hu h
          · obtain⟨mK,y7⟩:=un hu
            exact(Hc j ((eH j hj).resolve_right mK) hl y7).1
        obtain⟨sx,qG,r2,zJ,qF,H2,a1,a2,a3,a4,a5,a6⟩:=Inv.advance k gE l (pre++[i]) r _ slot H' v' s7 GX
        refine ih (rem.erase i) sx qG r2 zJ qF H2 nW _ _ _ A5 AY za Hr a1 a2 a3 (fun j hj=>a5 j ?_) a6 ?_
        · rcases zo j hj with h|h
          · exact .inl (List.mem_append_left _ h)
          · rcases List.mem_cons.1 h with h|h
            · exact .inl (by rw[h];simp)
            · exact .inr h
        · have e:eC ops τ0 (sx.filter fun j=>(listed.setIfInBounds i true).getD j false) zJ=(eC ops τ0 (pre.filter fun j=>listed.getD j false) vals).put (ops.getD i cx).dst x:=by
            have e1:eC ops τ0 (pre.filter fun j=>listed.getD j false) vals=eC ops τ0 (pre.filter fun j=>listed.getD j false) (fun j=>if j=i then x else vals j):=funext fun t=>xB k.ap uB uB (fun _ _=>Iff.rfl) fun j hj=>(if_neg (cR j (c9.1 hj).1)).symm
            rw[e1,show(ops.getD i cx).dst=qX ops i from rfl,Iw k.ap uB (fun h=>uC (c9.1 h).1) aA (if_pos rfl)]
            have x8:∀j∈pre.filter (fun j=>listed.getD j false)++[i],j∈pre++[i]:=fun j hj=>by
              rcases p6.1 hj with h|h
              · exact List.mem_append_left _ (c9.1 h).1
              · exact List.mem_append_right _ h
            refine(funext fun t=>xB k.ap (fun j hj=>tJ j (x8 j hj)) (fun j hj=>a1.lt j (c9.1 hj).1) (fun j _=>?_) fun j hj=>((a4 j (x8 j hj)).2).symm).symm
            rw[c9,p6,c9,rN,sk tH]
            constructor
            · rintro(⟨h1,h2⟩|rfl)
              · exact⟨(a4 j (List.mem_append_left _ h1)).1,.inr h2⟩
              · exact⟨(a4 j (by simp)).1,.inl rfl⟩
            · rintro⟨h1,rfl|h2⟩
              · exact .inr rfl
              · exact .inl ⟨v.sub j h2,h2⟩
          rw[e]
          exact⟨_,CH.put _ oy hx⟩
      unfold aS at ka
      cases A8:sl (ops.getD i cx).op with
      |true=>
        rw[if_pos A8]at ka
        split at ka
        · rename_i f args ts Ih
          have k9:∀y,y=f∨y∈args.toList→bu (eC ops τ0 pre vals) y=bu (eC ops τ0 (pre.filter fun j=>listed.getD j false) vals) y:=fun y hy=>tP y (by
            rw[Ih]
            rcases hy with rfl|hy
            · simp[Op.operands,Call.operands]
            · exact Fc hy)
          have Bb:args.toList.map (bu (eC ops τ0 pre vals))=args.toList.map (bu (eC ops τ0 (pre.filter fun j=>listed.getD j false) vals)):=List.map_congr_left fun y hy=>k9 y (.inr hy)
          rw[k9 f (.inl rfl),Bb]at ka
          rcases ka with⟨x,hq,bM⟩|⟨n,fi,ca,P7,Pw⟩
          · have PB:iq P N HL (bu (eC ops τ0 (pre.filter fun j=>listed.getD j false) vals)) (ops.getD i cx).op x:=by
              rw[Ih]
              refine yF (H:=H) (fun id hid=>(v.m2 id fun j _ _ _=>by omega).symm) _ _ ?_
              exact hq
            exact sn c nO (IZ hR PB fun u w' h1 h2=>post bM v.len v.As v.m2 (fun j hj hl hu=>⟨v.m3 j hj hl hu,rfl⟩) h1 h2)
          · have fk:JN P sm (ops.getD i cx).op (eC ops τ0 (pre.filter fun j=>listed.getD j false) vals) HL fun x nW=>∃H',sv P KT N (fq.map fun j=>ops.getD j cx) ((eC ops τ0 pre vals).put (ops.getD i cx).dst x) H' (sS P KT sm N τ0 r (qD ops l) ((eC ops τ0 pre vals).put (ops.getD i cx).dst x) H' K)∧
                nW.length=H'.length∧N≤H'.length∧(∀id,(∀j∈pre,bI [] (ops.getD j cx)=true→¬iy listed j→id≠N+slot j)→nW[id]? =H'[id]?)∧(∀j∈pre,bI [] (ops.getD j cx)=true→¬iy listed j→nW[N+slot j]? =some .free∧H'[N+slot j]? =H[N+slot j]?):=by
              rw[Ih]
              refine .inl ⟨n,fi,ca,P7,?_⟩
              rcases Pw with⟨ds,Qr,g1,g2,g3⟩|⟨m,S,T,K0,e1,e2,e3,e4,e5,e6,e7,e8,e9,e10⟩
              · exact .inr (.inl ⟨ds,Qr,g1,g2,fun x hx=>⟨H,g3 x hx,v.len,v.As,v.m2,fun j hj hl hu=>⟨v.m3 j hj hl hu,rfl⟩⟩⟩)
              · subst e1
                have hlS:S.length≤HL.length:=by rw[v.len,List.length_append];omega
                have PO:∀id,id<S.length→HL[id]? =S[id]? :=fun id hid=>by
                  rw[v.m2 id fun j _ _ _=>by omega,iw hid]
                have QE:HL=S++HL.drop S.length:=by
                  conv=>lhs;rw[←List.take_append_drop S.length HL]
                  congr 1
                  refine List.ext_getElem? fun id=>?_
                  by_cases hid:id<S.length
                  · rw[List.getElem?_take_of_lt hid,PO id hid]
                  · rw[List.getElem?_eq_none (by simp;omega),List.getElem?_eq_none (by omega)]
                have eg:∀id,HL[id]? =(S++T)[id]? ∨HL[id]? =some bB.free:=fun id=>by
                  by_cases h:∀j∈pre,bI [] (ops.getD j cx)=true→¬iy listed j→id≠N+slot j
                  · exact .inl (v.m2 id h)
                  · simp only[Classical.not_forall,Classical.not_imp,Decidable.not_not]at h
                    obtain⟨j,hj,hl,hu,rfl⟩:=h
                    exact .inr (v.m3 j hj hl hu)
                refine .inr (.inr ⟨m,S,HL.drop S.length,K0,QE,e3,?_,e6,e7,fun o ho=>?_,e9,fun x S' hx=>?_⟩)
                · intro t
                  by_cases hex:∃j∈pre.filter (fun j=>listed.getD j false),qX ops j=some t
                  · obtain⟨j,hj,ht⟩:=hex
                    rw[Df k.ap uB hj ht,←Df (τ0:=τ0) (vals:=vals) k.ap v.lt (c9.1 hj).1 ht]
                    exact e4 t
                  · rw[OW fun j hj ht=>hex ⟨j,hj,ht⟩];exact e5 t
                · obtain⟨q,hq⟩:=List.getElem?_of_mem ho
                  rw[List.getElem?_drop]at hq
                  rcases eg (S.length+q)with h|h
                  · rw[h,jj (by omega),Nat.add_sub_cancel_left]at hq
                    exact e8 o (List.mem_of_getElem? hq)
                  · rw[h]at hq;cases hq;rfl
                · obtain⟨f1,f2⟩:=e10 x S' hx
                  have KY:∀(A:av) (id:Nat),S.length≤id→(S'++A)[id]? =(S++A)[id]? :=fun A id hid=>by
                    rw[jj (by omega),jj hid,f1]
                  refine⟨f1,S'++T,f2,?_,?_,fun id hid=>?_,fun j hj hl hu=>⟨?_,KY T _ (by omega)⟩⟩
                  · have:=v.len;simp only[List.length_append,List.length_drop]at this ⊢;omega
                  · have:=v.As;simp only[List.length_append]at this ⊢;omega
                  · by_cases He:id<S.length
                    · rw[iw (by omega),iw (by omega)]
                    · rw[KY _ _ (by omega),KY _ _ (by omega),←QE]
                      exact v.m2 id hid
                  · rw[KY _ _ (by omega),←QE];exact v.m3 j hj hl hu
            exact SL Co hR fk fun x u nW w' bK ⟨H',b1,b2,b3,b4,b5⟩ h1 h2=>post b1 b2 b3 b4 b5 h1 h2
        · exact ka.elim
      |false=>
        rw[if_neg (by rw[A8];decide)]at ka
        have gq:∀j∈pre,bI [] (ops.getD j cx)=true→iy listed j:=fun j hj hl=>by
          rcases s6 j hj with((h|h)|⟨_,h⟩)|⟨⟨_,h⟩,_⟩
          · exact qU j h
          · exfalso
            have bM:gx [] (ops.getD j cx).op=1∨gx [] (ops.getD j cx).op=3:=by
              unfold bI at hl;simpa using hl
            rw[jrt h]at bM
            rcases bM with h|h<;>cases h
          · rw[A8]at h;cases h
          · rw[hl]at h;cases h
        have heq:HL=H:=List.ext_getElem? fun id=>v.m2 id fun j hj hl hu=>absurd (gq j hj hl) hu
        subst heq
        have CR:∀{x:AV} {u:Value} {H':av} {w':World} {bK:List (Option (Nat × Nat))},sv P KT N (fq.map fun j=>ops.getD j cx) ((eC ops τ0 pre vals).put (ops.getD i cx).dst x) H' (sS P KT sm N τ0 r (qD ops l) ((eC ops τ0 pre vals).put (ops.getD i cx).dst x) H' K)→N≤H'.length→
            aV c (eC ops τ0 (pre.filter fun j=>listed.getD j false) vals) H' [] bK a w'→Rd w' bK (bF c.E H' bK) x u→wpAnyIn c.F 0 P .any ops.toArray Q fuel (listed.setIfInBounds i true) (a.put (ops.getD i cx).dst u) w':=fun h hN h1 h2=>
          post h rfl hN (fun _ _=>rfl) (fun j hj hl hu=>absurd (gq j hj hl) hu) h1 h2
        obtain⟨b,hb,ht,_⟩:=IP ka
        have hbt:b=true:=by rw[Mj hg]at hb;cases hb;rfl
        have hT:=ht hbt
        have hkc:gx [] (ops.getD i cx).op=2∨gx [] (ops.getD i cx).op=3∨gx [] (ops.getD i cx).op=4:=by
          unfold lW at qV
          simp only[A8,Bool.false_or,Bool.or_eq_true,beq_iff_eq]at qV
          rcases qV with(h|h)|h
          · exact .inl h
          · exact .inr (.inl h)
          · exact .inr (.inr h)
        unfold cT at hT
        rcases hkc with qP|Hj|A6
        · simp only[qP]at hT
          split at hT
          · rename_i t p y Ih
            obtain⟨H1,hH,hh⟩:=hT
            have hq:=Mk hH
            rw[←Ih,RN (P:=P) tP]at hq
            have oP:H1.length=HL.length:=by
              obtain⟨id,o,cs,_,_,rfl,_⟩:=LH hq
              simp
            exact sn c nO (Mm hR hq fun w' bK h1=>CR hh (oP▸v.As) h1 (.d _ _ (.val _)))
          · exact hT.elim
        · simp only[Hj]at hT
          obtain⟨⟨x,ob,dd⟩,hl,hh⟩:=hT
          obtain⟨x',H1,hq,hh',oP⟩:=jf7 hl (K:=fun x H'=>sv P KT N (fq.map fun j=>ops.getD j cx) ((eC ops τ0 pre vals).put (ops.getD i cx).dst x) H' (sS P KT sm N τ0 r (qD ops l) ((eC ops τ0 pre vals).put (ops.getD i cx).dst x) H' K)∧N≤H'.length) ⟨hh,by
            have:=v.As
            cases dd<;>simp[gF]<;>omega⟩
          rw[IW (P:=P) tP]at hq
          exact sn c nO (IY hR.eV (by rw[jj (bJ _)];simp) (fun p hp=>by cases hp) hq fun u w' bK h1 h2=>CR hh' oP h1 h2)
        · simp only[A6]at hT
          obtain⟨⟨x,H1⟩,hp,hh⟩:=hT
          have hq:=LG gE hp
          have oP:=jru hq
          rw[RM (P:=P) tP]at hq
          exact sn c nO (Mn hR hq fun u w' h1 h2=>CR hh (oP▸v.As) h1 h2)
end
end
section
section
variable {P:Program} {KT:TypeId→Bool} {c:Cx} {τ:Fr} {H:av} {Q:Exit→Fr→av→Prop}
theorem u5{sm:List Nat}(gE:∀k,KT k=true→Maps.Keyed P k)(fK:Kp c sm){id:Nat}{l:List Oper}{n:Nat}(hn:c.nt=n)(hm:P.follows .mixedOrders=true)(hd:pU n l=true)(st:List (Nat × List Nat))(cl:List (List Nat))(q:Nat)(hC:Ll l cl st=true)
  (h:∀K:Fr→av→Prop,(∀τ H,Q .normal τ H→K τ H)→sS P KT sm H.length τ 0 (qD l st) τ (H++List.replicate q .free) K):ei P c (.region id l.toArray true) Q τ H:=fun a w hR=>by
 refine wpIn_region_any hm ?_
 obtain⟨k,cd,hlen⟩:=Ck.of hC
 have CH:R c τ (H++List.replicate q .free) [] a {w with drawn:=w.drawn+1}:=R.eV _ _ (by obtain⟨pl,h⟩:=hR;exact⟨pl,h.drew⟩)
 have lf:∀j,¬iy (Array.replicate l.length false) j:=fun j h=>by
  by_cases hj:j<l.length<;>simp[iy,Array.getD,hj]at h
 have v:Inv P l cl H.length τ [] 0 (fun _=>.any) (fun _=>0) (H++List.replicate q .free) (H++List.replicate q .free) (Array.replicate l.length false):=
  ⟨fun i hi=>(by cases hi),fun i hi=>(by cases hi),fun i hi=>absurd hi (lf i),fun i hi=>(by cases hi),fun i hi=>(by cases hi),fun i hi=>(by cases hi),fun i hi=>(by cases hi),rfl,by simp,fun _ _=>rfl,fun i hi=>(by cases hi)⟩
 have fT:iu l (Array.replicate l.length false):=fun j o _ hj=>absurd hj (lf j)
 obtain⟨sx,qG,r2,zJ,qF,H2,a1,a2,a3,a4,a5,a6⟩:=Inv.advance (sm:=sm) k gE st [] 0 _ _ _ v cd (h (Q .normal) fun _ _ h=>h)
 have:=jg0 (c:=c) (P:=P) k gE (hn▸hd) fK (K:=Q .normal) (Q:=fun e a' w'=>∃τ' H',R c τ' H' [] a' w'∧Q e τ' H') (fun τ' H' a' w' hk hr=>⟨τ',H',hr,hk⟩) l.length (List.range l.length) sx qG r2 zJ qF H2 _ (Array.replicate l.length false) a {w with drawn:=w.drawn+1} (by simp) (fun i hi _=>tv.2 hi) (by simp) fT a1 a2 a3
  (fun i hi=>a5 i (.inr (hlen i hi))) a6 (by
   have e:sx.filter (fun j=>(Array.replicate l.length false).getD j false)=[]:=List.filter_eq_nil_iff.2 fun j _=>lf j
   rw[e];exact CH)
 simpa using this
theorem jP{sm:List Nat}(gE:∀k,KT k=true→Maps.Keyed P k)(fK:Kp c sm){id:Nat}{l:List Oper}{y:Code}{n:Nat}(hn:c.nt=n)(hm:P.follows .mixedOrders=true)(hd:pU n l=true)(st:List (Nat × List Nat))(cl:List (List Nat))(q:Nat)(hC:Ll l cl st=true)
  (h:∀K:Fr→av→Prop,(∀τ H,ei P c y Q τ H→K τ H)→sS P KT sm H.length τ 0 (qD l st) τ (H++List.replicate q .free) K):ei P c (.seq (.region id l.toArray true) y) Q τ H:=
 Iy (u5 gE fK hn hm hd st cl q hC fun K hK=>h K fun τ H hh=>hK τ H hh)
end
section
variable {P:Program} {KT:TypeId→Bool} {sm:List Nat} {l:List (Oper × List Oper)} {fq:List Oper} {τ τ0:Fr} {H:av} {N r e:Nat} {d:Option Tmp} {ty:TypeId} {pos:String} {af:Array Edge} {K:Fr→av→Prop}
def rT{K:Prop}(P:Program)(KT:TypeId→Bool)(N:Nat)(fq:List Oper)(τ:Fr)(H:av)(_:Tg K):Prop:=sv P KT N fq τ H K
theorem jon{K:Prop}:rT P KT N [] τ H (tg K)=K:=rfl
theorem jg1{K:Prop}{t:TypeId}{y:Operand}:rT P KT N (⟨some e,.load t y,ty,pos,af,none⟩::fq) τ H (tg K)=(oK (fS P N H t (bu τ y))<|tg fun x=>x=τ e∧rT P KT N fq τ H (tg K)):=by
 have h:(fun x=>(τ.put (some e) x) e=τ e∧sv P KT N fq τ H K)=fun x=>x=τ e∧sv P KT N fq τ H K:=funext fun x=>by simp only[Fr.put,if_true]
 exact congrArg (sb (fS P N H t (bu τ y))) h
theorem RX{K:Prop}{t:TypeId}{y z:Operand}{ok:Bool}:rT P KT N (⟨some e,.lookup t y z ok,ty,pos,af,none⟩::fq) τ H (tg K)=(oK (yC P N H KT t (bu τ y) (bu τ z) ok)<|tg fun x=>x=τ e∧rT P KT N fq τ H (tg K)):=by
 have h:(fun x=>(τ.put (some e) x) e=τ e∧sv P KT N fq τ H K)=fun x=>x=τ e∧sv P KT N fq τ H K:=funext fun x=>by simp only[Fr.put,if_true]
 exact congrArg (sb (yC P N H KT t (bu τ y) (bu τ z) ok)) h
theorem jg2{ops:List Oper}:qD ops []=[]:=rfl
theorem jax{ops:List Oper}{i:Nat}{c:List Nat}{st:List (Nat × List Nat)}:qD ops ((i,c)::st)=(ops.getD i cx,c.map fun j=>ops.getD j cx)::qD ops st:=rfl
theorem joo:sS P KT sm N τ0 r [] τ H K=K τ H:=rfl
theorem jg3{y:Operand}:sS P KT sm N τ0 r ((⟨d,.move y,ty,pos,af,none⟩,fq)::l) τ H K=(sS P KT sm N τ0 r l (τ.put d (bu τ y)) H K):=by simp[sS,oS,lW,sE,lO,GK,cE,gx,sl,vj,yG,bI]
theorem RW{y:Operand}:sS P KT sm N τ0 r ((⟨d,.assign y,ty,pos,af,none⟩,fq)::l) τ H K=(sS P KT sm N τ0 r l (τ.put d (bu τ y)) H K):=by simp[sS,oS,lW,sE,lO,GK,cE,gx,sl,vj,yG,bI]
theorem jg4{t:TypeId}{y:Operand}:sS P KT sm N τ0 r ((⟨d,.load t y,ty,pos,af,none⟩,fq)::l) τ H K=(oK (fS P N H t (bu τ y))<|tg fun x=>sS P KT sm N τ0 r l (τ.put d x) H K):=rfl
theorem YA{t:TypeId}{y:Operand}{f:Nat}:sS P KT sm N τ0 r ((⟨d,.fieldAddr t y f,ty,pos,af,none⟩,fq)::l) τ H K=(oK (eh P t f (bu τ y))<|tg fun x=>sS P KT sm N τ0 r l (τ.put d x) H K):=rfl
theorem Yz{t:TypeId}{y z:Operand}:sS P KT sm N τ0 r ((⟨d,.indexAddr t y z,ty,pos,af,none⟩,fq)::l) τ H K=(oK (ee P t (bu τ y) (bu τ z))<|tg fun x=>sS P KT sm N τ0 r l (τ.put d x) H K):=rfl
theorem jop{op:BinOp}{t t':TypeId}{y z:Operand}:sS P KT sm N τ0 r ((⟨d,.binOp op t y z t',ty,pos,af,none⟩,fq)::l) τ H K=(oK (s9 P op t (bu τ y) (bu τ z))<|tg fun x=>sS P KT sm N τ0 r l (τ.put d x) H K):=rfl
theorem jg5{s t:TypeId}{y:Operand}:sS P KT sm N τ0 r ((⟨d,.convert s t y,ty,pos,af,none⟩,fq)::l) τ H K=(oK (oR P s t (bu τ y))<|tg fun x=>sS P KT sm N τ0 r l (τ.put d x) H K):=rfl
theorem jay{t:TypeId}{ps:Array (Nat × Operand)}:sS P KT sm N τ0 r ((⟨d,.build t ps,ty,pos,af,none⟩,fq)::l) τ H K=(oK (jH P t (ps.toList.map fun p=>(p.1,bu τ p.2)))<|tg fun x=>sS P KT sm N τ0 r l (τ.put d x) H K):=rfl
theorem jg6{y:Operand}:sS P KT sm N τ0 r ((⟨d,.nilCheck y,ty,pos,af,none⟩,fq)::l) τ H K=(oK (if ng (bu τ y)then some (bu τ y)else none)<|tg fun x=>sS P KT sm N τ0 r l (τ.put d x) H K):=rfl
theorem RV{t:TypeId}{y z:Operand}{ok:Bool}:sS P KT sm N τ0 r ((⟨d,.lookup t y z ok,ty,pos,af,none⟩,fq)::l) τ H K=(oK (yC P N H KT t (bu τ y) (bu τ z) ok)<|tg fun x=>sS P KT sm N τ0 r l (τ.put d x) H K):=rfl
theorem Yy{fn:Fn}{fi ca:Array Operand}:sS P KT sm N τ0 r ((⟨d,.makeFunc fn fi ca,ty,pos,af,none⟩,fq)::l) τ H K=(sS P KT sm N τ0 r l (τ.put d (.dC fn (fi.toList.map (bu τ)) (ca.toList.map (bu τ)))) H K):=by simp[sS,oS,lW,sE,lO,GK,cE,gx,sl,vj,yG,bI]
theorem joq{args:Array Operand}{ts:Array TypeId}:sS P KT sm N τ0 r ((⟨d,.call ⟨.builtin .len,args,ts⟩,ty,pos,af,none⟩,fq)::l) τ H K=(oK (dF P .len ts.toList (args.toList.map (bu τ)))<|tg fun x=>sS P KT sm N τ0 r l (τ.put d x) H K):=rfl
theorem jor{args:Array Operand}{ts:Array TypeId}:sS P KT sm N τ0 r ((⟨d,.call ⟨.builtin .min,args,ts⟩,ty,pos,af,none⟩,fq)::l) τ H K=(oK (dF P .min ts.toList (args.toList.map (bu τ)))<|tg fun x=>sS P KT sm N τ0 r l (τ.put d x) H K):=rfl
theorem jaz{f:FuncId}{args:Array Operand}{ts:Array TypeId}:sS P KT sm N τ0 r ((⟨d,.call ⟨.value (.func f),args,ts⟩,ty,pos,af,none⟩,fq)::l) τ H K=(kE P sm N τ0 τ H ((bu τ (.func f))) (args.toList.map (bu τ))<|tg fun x H'=>rT P KT N fq (τ.put d x) H' (tg (sS P KT sm N τ0 r l (τ.put d x) H' K))):=rfl
theorem ja0{f:Nat}{args:Array Operand}{ts:Array TypeId}:sS P KT sm N τ0 r ((⟨d,.call ⟨.value (.tmp f),args,ts⟩,ty,pos,af,none⟩,fq)::l) τ H K=(kE P sm N τ0 τ H ((bu τ (.tmp f))) (args.toList.map (bu τ))<|tg fun x H'=>rT P KT N fq (τ.put d x) H' (tg (sS P KT sm N τ0 r l (τ.put d x) H' K))):=rfl
theorem ja1{t:TypeId}:sS P KT sm N τ0 r ((⟨d,.alloc t,ty,pos,af,none⟩,fq)::l) τ H K=(oK (jk P N r [] (bu τ) (.alloc t) H [])<|tg fun p=>sS P KT sm N τ0 (r+1) l (τ.put d p.1) p.2.1 K):=rfl
theorem jg7{t:TypeId}{y z:Operand}:sS P KT sm N τ0 r ((⟨d,.makeSlice t y z,ty,pos,af,none⟩,fq)::l) τ H K=(oK (jk P N r [] (bu τ) (.makeSlice t y z) H [])<|tg fun p=>sS P KT sm N τ0 (r+1) l (τ.put d p.1) p.2.1 K):=rfl
theorem Yx{t:TypeId}{n:Nat}{ps:Array (Nat × Operand)}:sS P KT sm N τ0 r ((⟨d,.buildSlice t n ps,ty,pos,af,none⟩,fq)::l) τ H K=(oK (jk P N r [] (bu τ) (.buildSlice t n ps) H [])<|tg fun p=>sS P KT sm N τ0 (r+1) l (τ.put d p.1) p.2.1 K):=rfl
theorem jos{args:Array Operand}{ts:Array TypeId}:sS P KT sm N τ0 r ((⟨d,.call ⟨.builtin .append,args,ts⟩,ty,pos,af,none⟩,fq)::l) τ H K=(oK (gS P H.length (bu τ) (.call ⟨.builtin .append,args,ts⟩) H)<|tg fun p=>rT P KT N fq (τ.put d p.1) (gF H p.2.2++[p.2.1]) (tg (sS P KT sm N τ0 r l (τ.put d p.1) (gF H p.2.2++[p.2.1]) K))):=rfl
theorem ja2{t:TypeId}{y z:Operand}:sS P KT sm N τ0 r ((⟨d,.store t y z,ty,pos,af,none⟩,fq)::l) τ H K=(oK (iR P t (bu τ y) (bu τ z) H [] 0)<|tg fun H'=>rT P KT N fq (τ.put d (.d (.val undef))) H' (tg (sS P KT sm N τ0 r l (τ.put d (.d (.val undef))) H' K))):=rfl
theorem Yw{t:TypeId}{y z u:Operand}:sS P KT sm N τ0 r ((⟨d,.mapUpdate t y z u,ty,pos,af,none⟩,fq)::l) τ H K=(oK (x4 P KT (bu τ) (.mapUpdate t y z u) H [])<|tg fun p=>rT P KT N fq (τ.put d p.1) p.2 (tg (sS P KT sm N τ0 r l (τ.put d p.1) p.2 K))):=rfl
end
end
section
def kJ(n:Int):Prop:= -9223372036854775808≤n∧n<9223372036854775808
section
variable {P:Program} {KT:TypeId→Bool} {H:av} {ρ:Operand→AV} {N:Nat}
theorem Rz{kt:TypeId}(hu:P.underlying kt=some (.int .i64)){n:Int}(hn:kJ n):(keyOf P kt (.int .i64 n)).isSome=true:=by
 have hw:(Lit.int .i64 n).wf=true:=by
  obtain⟨h1,h2⟩:=hn
  simp[Lit.wf]
  exact⟨h1,by omega⟩
 simp[keyOf,hu,mapKey,hw]
def JL:Option bB→Option (List (Value × Nat × AV))
 |some (.map es _)=>some es
 |_=>none
end
end
section
section
variable {P:Program} {H:av} {N:Nat} {sm:List Nat} {τ:Fr}
def OZ(P:Program)(f:FuncId)(ds:List D)(r:Nat→AV)(o:bB):Prop:=
 qq P f=true∧∀(w:World) (O:Nat→Prop) (vals:Array Value),vals.size=ds.length→(∀j x,ds[j]? =some x→fO w O x (vals.getD j undef))→(∀b,O b→b<w.heap.size)→
  Calls P f vals w fun e w'=>∃v p,e= .returned v∧Below w.heap.size w w'∧(∀q,p=some q→w.heap.size≤q.1)∧
   ∀(pl:List (Option (Nat × Nat))) (n:Nat) (dX:Nat→Prop),pl[n]? =some p→(∀b,dX b→O b∨∃k,p=some (b,k))→gH w' pl dX n o∧Rd w' pl dX (r n) v
theorem jxf{f:FuncId}{xs:List AV}{ds:List D}{r:Nat→AV}{o:bB}(hp:OZ P f ds r o)(hd:∀(w:World) (pl:List (Option (Nat × Nat))) (own:Nat→Prop) (vals:Array Value),vals.size=xs.length→(∀j x,xs[j]? =some x→Rd w pl own x (vals.getD j undef))→vals.size=ds.length∧∀j x,ds[j]? =some x→fO w own x (vals.getD j undef)):w6 P f xs H fun x H'=>x=r H.length∧H'=H++[o]:=by
 refine⟨hp.1,fun E w pl vals hl hx hh hE=>?_⟩
 have hR:aV ⟨E,w,gu H pl,0,pl,none,w.heap.size⟩ (fun _=>.any) H [] pl {tmps:=#[],defers:=[]} w:=
  ⟨hh,jK.refl _ _,fun id o p h1 h2 h3=>.inl ⟨id,o,p.2,h1,h2,h3⟩,hE,fun t=>.any _,rfl,sZ.nil,fun i p hi=>hi⟩
 obtain⟨l1,l2⟩:=hd w pl (bF E H pl) vals hl hx
 refine(hp.2 w (bF E H pl) vals l1 l2 hR.iS).mono fun e w' ⟨v,p,he,hb,hq,ho⟩=>?_
 have bE:=hR.eV
 have hlen:pl.length=H.length:=hh.len
 have qM:(pl++[none]).set H.length p=pl++[p]:=by rw[List.set_append_right _ _ (by omega)];simp[hlen]
 have hH:(H++[bB.free]).set H.length o=H++[o]:=by rw[List.set_append_right _ _ (bJ _)];simp
 have qS:(pl++[p])[H.length]? =some p:=by rw[←hlen];simp
 have dS:∀b,bF E (H++[.free]) (pl++[none]) b→bF E H pl b:=fun b ig=>by
  rcases ig with h|⟨i,oo,k,h1,h2,h3⟩
  ·exact .inl h
  ·rcases Nat.lt_or_ge i H.length with hi|hi
   ·rw[iw hi]at h1
    rw[iw (by omega)]at h3
    exact .inr ⟨i,oo,k,h1,h2,h3⟩
   ·rw[jj (by omega)]at h3
    cases hk:i - pl.length<;>rw[hk]at h3<;>simp at h3
 have hl:=aV.laid (w':=w') (n:=H.length) (o:=o) (p:=p) bE (by rw[jj (bJ _)];simp) (fun p hp=>by cases hp) hb hq (fun dX G0=>by
  rw[qM]
  exact(ho _ _ dX qS (fun b ig=>(G0 b ig).imp_left (dS b))).1)
 rw[qM,hH]at hl
 obtain⟨h1,h2⟩:=hl
 refine⟨v,_,_,pl++[p],he,⟨rfl,rfl⟩,?_,h1.h,h1.lR,fun b ig=>?_,h1.keep⟩
 ·exact(ho _ _ (bF E (H++[o]) (pl++[p])) qS (fun b ig=>(h2 b ig).imp_left (dS b))).2
 ·obtain⟨id,oo,k,b1,b2,b3⟩:=ig
  exact h1.js id oo _ b1 b2 b3
theorem jg9{f:FuncId}{ds:List D}{r:Nat→AV}{o:bB}{args:List AV}{KK:AV→av→Prop}(hp:OZ P f ds r o)(hd:args=ds.map .d)(hK:KK (r H.length) (H++[o])):kC P sm N H τ (.d (.val (.func (.func f) #[] #[]))) args true (tg KK):=by
 subst hd
 refine jof (jxf hp fun w pl own vals hl hx=>⟨by simpa using hl,fun j x hj=>?_⟩) fun x H' ⟨h1,h2⟩=>by rw[h1,h2];exact hK
 have:=hx j (.d x) (by rw[List.getElem?_map,hj];rfl)
 cases this with|d _ _ h=>exact h
theorem SS{fn:Func}{Q:AV→av→Prop}{τ:Fr}{t u:Tmp}{ty:TypeId}(h:fn.results.toList=[.cell t ty,.tmp u])(hq:oK (fS P H.length H ty (τ t)) (tg fun x=>Q (.dR [x,τ u]) H)):rI P fn Q .ret τ H:=by
 obtain⟨x,h1,h2⟩:=hq
 show qm P τ H fn.results.toList _
 rw[h];exact⟨x,BR h1,h2⟩
end
end
section
abbrev Mp:=List (Value × Nat × Value) × Nat
def mE(s:List (Value × Nat × Value)):List (Value × Nat × AV):=s.map fun e=>(e.1,e.2.1,.d (.val e.2.2))
def mO(μ:Mp):bB:=.map (mE μ.1) μ.2
def mD(μ:Mp):D:=.mp μ.1 μ.2
def QK(k:Value)(s:List (Value × Nat × Value)):Option Nat:=s.findIdx? fun e=>kA e.1 k
def pM(k:Value)(μ:Mp):Option Value:=(μ.1.find? fun e=>kA e.1 k).map (·.2.2)
def tG(k v:Value)(μ:Mp):Mp:=match QK k μ.1 with
  |some i=>(μ.1.modify i fun q=>(q.1,q.2.1,v),μ.2)
  |none=>(μ.1++[(k,μ.2,v)],μ.2+1)
section
variable {P:Program} {KT:TypeId→Bool} {H:av} {ρ:Operand→AV} {N:Nat}
def Av(P:Program)(KT:TypeId→Bool)(t:TypeId):Option Value:=match j5 P t with
  |some (kt,et)=>if KT kt then(match w9 P et with|some (.d (.val z))=>some z|_=>none)else none
  |none=>none
def pL(P:Program)(t:TypeId)(k:Value):Prop:=mr k=true∧∀kt et,j5 P t=some (kt,et)→(keyOf P kt k).isSome=true
structure qZ (P:Program) (t:TypeId) (μ:Mp):Prop where
  keys:∀e∈μ.1,pL P t e.1
  born:∀e∈μ.1,e.2.1<μ.2
theorem qZ.nil(t:TypeId)(n:Nat):qZ P t ([],n):=⟨fun e he=>(by cases he),fun e he=>(by cases he)⟩
theorem LC(k:Value):∀(s:List (Value × Nat × Value)) (i:Nat),jS k (mE s) i=(s.findIdx? fun e=>kA e.1 k).map fun j=>(i+j,.d (.val (s.getD j (undef,0,undef)).2.2))
  |[],i=>rfl
  |p::s,i=>by
    show(if kA p.1 k then _ else _)=_
    rw[List.findIdx?_cons]
    by_cases hp:kA p.1 k
    · simp[hp]
    · simp only[hp,Bool.false_eq_true,if_false,Option.map_map]
      have ih:=LC k s (i+1)
      unfold mE at ih
      rw[ih]
      congr 1
      funext j
      simp only[Function.comp,List.getD_cons_succ]
      rw[show i+1+j=i+(j+1) by omega]
theorem Ry(k:Value)(μ:Mp):(jS k (mE μ.1) 0).map (·.2)=(pM k μ).map fun v=>AV.d (.val v):=by
  rw[LC]
  unfold pM
  generalize μ.1=s
  induction s with
  |nil=>rfl
  |cons p s ih=>
    rw[List.findIdx?_cons,List.find?_cons]
    by_cases hp:kA p.1 k
    · simp[hp]
    · simp only[hp,Bool.false_eq_true,if_false,Option.map_map]at ih ⊢
      simpa[Function.comp_def]using ih
theorem jha(s:List (Value × Nat × Value))(i:Nat)(v:Value):(mE s).modify i (fun q=>(q.1,q.2.1,AV.d (.val v)))=mE (s.modify i fun q=>(q.1,q.2.1,v)):=by
  apply List.ext_getElem?
  intro j
  unfold mE
  rw[List.getElem?_modify,List.getElem?_map,List.getElem?_map,List.getElem?_modify]
  cases s[j]? with
  |none=>rfl
  |some p=>by_cases h:i=j<;>simp[h]
theorem qZ.kb{t kt et:TypeId}{μ:Mp}(h:qZ P t μ)(hm:j5 P t=some (kt,et)):o8 P kt (mE μ.1)=true:=by
  refine kB.2 fun e he=>?_
  obtain⟨p,hp,rfl⟩:=mF.1 he
  exact(h.keys p hp).2 kt et hm
theorem qZ.put{t:TypeId}{μ:Mp}(h:qZ P t μ){k v:Value}(hk:pL P t k):qZ P t (tG k v μ):=by
  unfold tG
  split
  · rename_i i hi
    refine⟨fun e he=>?_,fun e he=>?_⟩<;>
      (obtain⟨j,hj⟩:=List.getElem?_of_mem he
       simp only at hj
       rw[List.getElem?_modify,Option.map_eq_map,dc]at hj
       obtain⟨q,hq,rfl⟩:=hj
       have hm:=List.mem_of_getElem? hq
       split)
    · exact h.keys q hm
    · exact h.keys q hm
    · exact h.born q hm
    · exact h.born q hm
  · refine⟨fun e he=>?_,fun e he=>?_⟩<;>rcases p6.1 he with he|he
    · exact h.keys e he
    · rw[rN.1 he];exact hk
    · exact Nat.lt_succ_of_lt (h.born e he)
    · rw[rN.1 he];exact Nat.lt_succ_self _
theorem ja4{k v:Value}(hv:kA k k=true):∀{s:List (Value × Nat × Value)} {i:Nat},(s.findIdx? fun e=>kA e.1 k)=some i→((s.modify i fun q=>(q.1,q.2.1,v)).find? fun e=>kA e.1 k).map (·.2.2)=some v
  |[],i,h=>by cases h
  |p::s,i,h=>by
    rw[List.findIdx?_cons]at h
    split at h
    · rename_i hp
      cases h
      simp[hp]
    · rename_i hp
      obtain⟨j,hj,rfl⟩:=dc.1 h
      rw[List.modify_succ_cons,List.find?_cons]
      simp only[hp]
      exact ja4 hv hj
theorem SR{k k' v:Value}(cR:∀q:Value,kA q k=true→kA q k'=false):∀{s:List (Value × Nat × Value)} {i:Nat},(s.findIdx? fun e=>kA e.1 k)=some i→((s.modify i fun q=>(q.1,q.2.1,v)).find? fun e=>kA e.1 k')=(s.find? fun e=>kA e.1 k')
  |[],i,h=>by cases h
  |p::s,i,h=>by
    rw[List.findIdx?_cons]at h
    split at h
    · rename_i hp
      cases h
      simp[cR p.1 hp]
    · rename_i hp
      obtain⟨j,hj,rfl⟩:=dc.1 h
      rw[List.modify_succ_cons,List.find?_cons,List.find?_cons,SR cR hj]
theorem Fb{k k' v:Value}(hk:mr k=true)(vu:mr k'=true)(μ:Mp)[Decidable (k'=k)]:pM k' (tG k v μ)=if k'=k then some v else pM k' μ:=by
  unfold tG QK
  split
  · rename_i i hi
    by_cases he:k'=k
    · subst he
      rw[if_pos rfl]
      exact ja4 (IJ hk) hi
    · rw[if_neg he]
      unfold pM
      rw[SR (fun q hq=>?_) hi]
      cases PB:kA q k' with
      |false=>rfl
      |true=>exact absurd ((E1 PB).symm.trans (E1 hq)) he
  · rename_i hi
    unfold pM
    simp only[List.find?_append]
    by_cases he:k'=k
    · subst he
      rw[if_pos rfl]
      have:(μ.1.find? fun e=>kA e.1 k')=none:=List.find?_eq_none.2 fun e hm hv=>by
        have:=List.findIdx?_eq_none_iff.1 hi e hm
        rw[hv]at this;cases this
      simp[this,IJ hk]
    · rw[if_neg he]
      have hn:kA k k'=false:=by
        cases hq:kA k k' with
        |false=>rfl
        |true=>exact absurd (E1 hq).symm he
      cases(μ.1.find? fun e=>kA e.1 k')<;>simp[hn]
def Au(P:Program)(KT:TypeId→Bool)(t:TypeId)(id:Nat)(v:Value)(y:AV)(H:av)(o:Option bB):Option (AV × av):=
  match j5 P t with
  |some (kt,_)=>(match o with
    |some (.map es clock)=>if KT kt&&mr v&&(keyOf P kt v).isSome&&o8 P kt es&&true then
        some (.d (.val undef),H.set id (match jS v es 0 with|some (i,_)=>.map (es.modify i fun q=>(q.1,q.2.1,y)) clock|none=>.map (es++[(v,clock,y)]) (clock+1)))else none
    |_=>none)
  |none=>none
def FV(P:Program)(KT:TypeId→Bool)(t:TypeId)(m:AV)(k:Option Value)(y:AV)(H:av):Option (AV × av):=
  match m,k with
  | .om id,some v=>Au P KT t id v y H (H[id]?)
  |_,_=>none
theorem ja5{t:TypeId}{m k y:Operand}:x4 P KT ρ (.mapUpdate t m k y) H []=FV P KT t (ρ m) (oa (ρ k)) (ρ y) H:=by
  unfold x4 FV Au
  simp only[List.all_nil,Bool.and_true]
  cases ρ m<;>cases j5 P t<;>cases oa (ρ k)<;>rfl
theorem Ah{t:TypeId}{m k y:Operand}:x4 P KT ρ (.insert t m k y) H []=FV P KT t (ρ m) (oa (ρ k)) (ρ y) H:=by
  unfold x4 FV Au
  simp only[List.all_nil,Bool.and_true]
  cases ρ m<;>cases j5 P t<;>cases oa (ρ k)<;>rfl
theorem z6{t:TypeId}{id:Nat}{v:Value}{y:AV}:FV P KT t (.om id) (some v) y H=Au P KT t id v y H (H[id]?):=rfl
theorem L7{t:TypeId}{z:Value}(h:Av P KT t=some z):∃kt et,j5 P t=some (kt,et)∧KT kt=true∧w9 P et=some (.d (.val z)):=by
  unfold Av at h
  split at h
  · rename_i kt et hm
    split at h
    · rename_i hk
      split at h
      · cases h;exact⟨kt,et,hm,hk,by assumption⟩
      · cases h
    · cases h
  · cases h
theorem GB{t:TypeId}{id:Nat}{v u z:Value}{μ:Mp}(ht:Av P KT t=some z)(hv:pL P t v)(hμ:qZ P t μ):Au P KT t id v (.d (.val u)) H (some (mO μ))=some (.d (.val undef),H.set id (mO (tG v u μ))):=by
  obtain⟨kt,et,hm,h1,hz⟩:=L7 ht
  unfold Au mO
  simp only[hm,h1,hv.1,hv.2 kt et hm,hμ.kb hm,Bool.and_self,if_true,LC]
  unfold tG QK
  cases hf:μ.1.findIdx? fun e=>kA e.1 v with
  |none=>simp[mE]
  |some i=>simp[jha]
def XG(P:Program)(KT:TypeId→Bool)(t:TypeId)(id:Nat)(v:Value)(H:av)(o:Option bB):Option (AV × av):=
  match j5 P t with
  |some (kt,et)=>(match o,w9 P et with
      |some (.map es clock),some z=>if KT kt&&mr v&&(keyOf P kt v).isSome&&o8 P kt es then
          (match jS v es 0 with
          |some (i,y)=>(es[i]?).map fun q=>(.dR [y,.d (.val (.int .i64 q.2.1))],H.set id (.map es clock))
          |none=>some (.dR [z,.d (.val (.int .i64 clock))],H.set id (.map (es++[(v,clock,z)]) (clock+1))))else none
      |_,_=>none)
  |none=>none
def meK(P:Program)(KT:TypeId→Bool)(t:TypeId)(m:AV)(k:Option Value)(H:av):Option (AV × av):=
  match m,k with
  | .om id,some v=>XG P KT t id v H (H[id]?)
  |_,_=>none
theorem jot{t:TypeId}{id:Nat}{v:Value}:meK P KT t (.om id) (some v) H=XG P KT t id v H (H[id]?):=rfl
def yM(P:Program)(KT:TypeId→Bool)(t:TypeId)(k:Option Value)(ok:Bool)(es:Option (List (Value × Nat × AV))):Option AV:=
  match j5 P t,k,es with
  |some (kt,et),some v,some es=>(match w9 P et with
    |some z=>if KT kt&&mr v&&(keyOf P kt v).isSome&&o8 P kt es then some (Oq ok z (jS v es 0))else none
    |none=>none)
  |_,_,_=>none
theorem vK{t:TypeId}{k:AV}{ok:Bool}{id:Nat}(hid:id<N):yC P N H KT t (.om id) k ok=yM P KT t (oa k) ok (JL (H[id]?)):=by
  unfold yC yM JL
  simp only[xN,hid,if_true]
  cases j5 P t with
  |none=>rfl
  |some q=>
    cases oa k with
    |none=>rfl
    |some v=>
      cases H[id]? with
      |none=>rfl
      |some o=>cases o<;>rfl
theorem jou{μ:Mp}:JL (some (mO μ))=some (mE μ.1):=rfl
theorem Yv{t:TypeId}{v z:Value}{μ:Mp}(ht:Av P KT t=some z)(hv:pL P t v)(hμ:qZ P t μ):yM P KT t (some v) true (some (mE μ.1))=some (.dR [.d (.val ((pM v μ).getD z)),.d (.val (.bool (pM v μ).isSome))]):=by
  obtain⟨kt,et,hm,h1,hz⟩:=L7 ht
  unfold yM
  simp only[hm,hz,h1,hv.1,hv.2 kt et hm,hμ.kb hm,Bool.and_self,if_true]
  have:=Ry v μ
  cases hf:jS v (mE μ.1) 0 with
  |none=>rw[hf]at this;cases hg:pM v μ with
    |none=>rfl
    |some u=>rw[hg]at this;cases this
  |some p=>rw[hf]at this;cases hg:pM v μ with
    |none=>rw[hg]at this;cases this
    |some u=>rw[hg]at this;obtain⟨i,y⟩:=p;simp at this;subst this;rfl
theorem Om{t:TypeId}{v z:Value}{μ:Mp}(ht:Av P KT t=some z)(hv:pL P t v)(hμ:qZ P t μ):yM P KT t (some v) false (some (mE μ.1))=some (.d (.val ((pM v μ).getD z))):=by
  obtain⟨kt,et,hm,h1,hz⟩:=L7 ht
  unfold yM
  simp only[hm,hz,h1,hv.1,hv.2 kt et hm,hμ.kb hm,Bool.and_self,if_true]
  have:=Ry v μ
  cases hf:jS v (mE μ.1) 0 with
  |none=>rw[hf]at this;cases hg:pM v μ with
    |none=>rfl
    |some u=>rw[hg]at this;cases this
  |some p=>rw[hf]at this;cases hg:pM v μ with
    |none=>rw[hg]at this;cases this
    |some u=>rw[hg]at this;obtain⟨i,y⟩:=p;simp at this;subst this;rfl
theorem JK{keep:List Nat}{μ:Mp}:zy keep (mO μ)=mO μ:=by
  unfold mO zy mE
  simp only[List.map_map]
  rfl
theorem JJ{id:Nat}{l:List D}{μ:Mp}:zz id l (mO μ)=mO μ:=by
  unfold mO zz mE
  simp only[List.map_map]
  rfl
theorem Yu{μ:Mp}:D.mp μ.1 μ.2=mD μ:=rfl
theorem jov{μ:Mp}:(mD μ).fix=mD μ:=rfl
theorem Wx:bB.map [] 0=mO ([],0):=rfl
theorem br{p:Nat→Bool}{μ:Mp}:(mO μ).allI p=true:=by
  show AV.aj p ((mE μ.1).map (·.2.2))=true
  generalize μ.1=s
  induction s with
  |nil=>rfl
  |cons e s ih=>exact ih
theorem Ol{keep:List Nat}{cs:List AV}:zy keep (.cells cs)= .cells (jF keep cs):=rfl
theorem jow{keep:List Nat}:zy keep .dead= .dead:=rfl
theorem jox{keep:List Nat}:zy keep .free= .free:=rfl
theorem Oj{id:Nat}{l:List D}{cs:List AV}:zz id l (.cells cs)= .cells (iX id l cs):=rfl
theorem joy{id:Nat}{l:List D}:zz id l .dead= .dead:=rfl
theorem joz{id:Nat}{l:List D}:zz id l .free= .free:=rfl
theorem bo{p:Nat→Bool}{cs:List AV}:(bB.cells cs).allI p=AV.aj p cs:=rfl
theorem bq{p:Nat→Bool}:bB.dead.allI p=true:=rfl
theorem bp{p:Nat→Bool}:bB.free.allI p=true:=rfl
theorem jla{look:jM}{n:Nat}:rD look (n+1) []=some []:=rfl
theorem jhc{look:jM}{n:Nat}{y:AV}{r:List AV}:rD look (n+1) (y::r)=(s8 look n y).bind fun a=>(rD look (n+1) r).map (a::·):=by
  rw[show rD look (n+1) (y::r)=(y::r).mapM (s8 look n) from rfl,List.mapM_cons]
  show _=(s8 look n y).bind fun a=>(r.mapM (s8 look n)).map (a::·)
  cases s8 look n y<;>cases r.mapM (s8 look n)<;>rfl
theorem jxi{look:jM}{n k id off m:Nat}:s8 look (n+1) (.os k id off m)=(look.c id).bind fun cs=>(ec cs off (m*k)).bind fun r=>(rD look n r).map (D.fs · m):=by
  show(match look.c id with|some cs=>_|none=>none)=_
  cases look.c id with
  |none=>rfl
  |some cs=>
    show(match ec cs off (m*k)with|some l=>_|none=>none)=(ec cs off (m*k)).bind _
    cases ec cs off (m*k)<;>rfl
theorem zZ{v:Value}:oa (.d (.val v))=some v:=rfl
theorem jhd{ds:List D}:oa (.d (.agg ds))=(ky (ds.map .d)).map fun l=>.agg l.toArray:=rfl
theorem jo0{xs:List AV}:oa (.agg xs)=(ky xs).map fun l=>.agg l.toArray:=rfl
theorem KS:ky []=some []:=rfl
theorem Iv{v:Value}{l:List AV}:ky (.d (.val v)::l)=(ky l).map (v::·):=rfl
theorem bn{p:Nat→Bool}{l:List D}:AV.aj p (ak l)=true:=by
  induction l with
  |nil=>rfl
  |cons e s ih=>exact ih
theorem qy{sm:List Nat}{τ0 τ:Fr}{f:FuncId}{args:List AV}{ds:List D}{x:AV}{KK:AV→av→Prop}(hp:dq P f ds x)(hd:AV.mB.jr args=some ds)(hK:KK x H):kE P sm N τ0 τ H (.d (.val (.func (.func f) #[] #[]))) args (tg KK):=.inl (jf1 hp hd hK)
theorem OU{sm:List Nat}{τ0 τ:Fr}{f:FuncId}{args:List AV}{ds:List D}{Q:AV→Prop}{KK:AV→av→Prop}(hp:tq P f ds Q)(hd:AV.mB.jr args=some ds)(hK:∀x,Q x→KK x H):kE P sm N τ0 τ H (.d (.val (.func (.func f) #[] #[]))) args (tg KK):=
  .inr ⟨f,[],[],rfl,.inl ⟨ds,Q,by simpa using hd,hp,hK⟩⟩
theorem tm{sm:List Nat}{τ0 τ:Fr}{f:FuncId}{args:List AV}{S T:av}{K0 KK:AV→av→Prop}{ks:List Nat}(h:cY P ks f args S K0)(hH:H=S++T)(hN:S.length≤N)(hm:sm.all (aL ks S.length)=true)(hτ:∀t,(τ t).allI (aL ks S.length)=true)(h0:∀t,(τ0 t).allI (aL ks S.length)=true)(ha:AV.aj (aO S.length) args=true)
    (hS:∀o∈S,o.allI (aO S.length)=true) (hT:∀o∈T,o.allI (aL ks S.length)=true) (hK:∀x S',K0 x S'→S'.length=S.length∧KK x (S'++T)):kE P sm N τ0 τ H (.d (.val (.func (.func f) #[] #[]))) args (tg KK):=
  .inr ⟨f,[],[],rfl,.inr ⟨ks,S,T,K0,hH,hN,hm,hτ,h0,by simpa using ha,hS,hT,by simpa using h,hK⟩⟩
end
end
section
open Go Go.RowKit Go.Maps
open Go.WideElems (Fit rd rg rg_of)
section
variable {P:Program} {kt:TypeId}
end
section
variable {P:Program} {c c1:Cx} {τ τ':Fr} {a a':Act} {w w' w1:World} {pl bK:List (Option (Nat × Nat))} {H H':av} {r:Nat} {ks:List Nat}
end
section
variable {P:Program} {c:Cx} {τ:Fr} {H:av} {Q:Exit→Fr→av→Prop}
theorem Rd.B2{w:World}{pl:List (Option (Nat × Nat))}{own:Nat→Prop}{u v:Value}(h:Rd w pl own (.d (.val u)) v):v=u:=by
 cases h with|d _ _ h=>cases h;rfl
end
end
end Go.Proofs.YtapjobndmmkanaaGreat
