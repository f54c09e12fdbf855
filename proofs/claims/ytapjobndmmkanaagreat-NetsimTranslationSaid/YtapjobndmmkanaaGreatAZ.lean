/- Of no program: regions that draw their order and hold calls that move objects: what only looks is taken early, and looked at again behind each call. -/
import Derived.Test.YtapjobndmmkanaaGreatAR
import Derived.Maps.RangeWalk
import Derived.Sort.MapsRangeIn
set_option linter.unusedVariables false
set_option linter.unusedSimpArgs false
namespace Go.Proofs.YtapjobndmmkanaaGreat
open Go Go.RowKit
section
section
variable (P:Program) (KT:TypeId→Bool) (sm:List Nat) (N:Nat) (τ0:Fr)
def ScE(n:FuncId)(xs:List AV)(τ:Fr)(H:zad)(K:AV→zad→Prop):Prop:=
  ∃(m:List Nat) (S T:zad) (K0:AV→zad→Prop),H=S++T∧S.length≤N∧sm.all (okI m S.length)=true∧(∀t,(τ t).allI (okI m S.length)=true)∧(∀t,(τ0 t).allI (okI m S.length)=true)∧
    AV.allIs (ltI S.length) xs=true∧(∀o∈S,o.allI (ltI S.length)=true)∧(∀o∈T,o.allI (okI m S.length)=true)∧ScS P m n xs S K0∧∀x S',K0 x S'→S'.length=S.length∧K x (S'++T)
def kS(τ:Fr)(H:zad)(f:AV)(xs:List AV)(KK:AV→zad→Prop):Prop:=
  (∃x,zym P N H f xs x∧KK x H)∨∃n fi ca,zgh f=some (n,fi,ca)∧
    ((∃ds Q,AV.toD.toDs (fi++xs++ca)=some ds∧zg5 P n ds Q∧∀x,Q x→KK x H)∨ScE P sm N τ0 n (fi++xs++ca) τ H KK)
def kE{KK:AV→zad→Prop}(τ:Fr)(H:zad)(f:AV)(xs:List AV)(_:Tg KK):Prop:=kS P sm N τ0 τ H f xs KK
def anc(op:Op):Bool:=zdp op||kOf [] op==2||kOf [] op==3||kOf [] op==4
def aS(o:Oper)(τ:Fr)(H:zad)(KK:Fr→zad→Prop):Prop:=
  if zdp o.op then match o.op with
    | .call {callee:=.value f,args:=args,..}=>kS P sm N τ0 τ H (zaw τ f) (args.toList.map (zaw τ)) fun x H'=>KK (τ.put o.dst x) H'
    |_=>False
  else sT P KT [] [] [o] τ H KK
def reK:List Oper→Fr→zad→Prop→Prop
  |[],_,_,K=>K
  |o::l,τ,H,K=>match o.dst with
    |some d=>sE P KT [] N 0 0 [] [o] τ H [] fun τ' _ _=>τ' d=τ d∧reK l τ H K
    |none=>False
def oS(r:Nat)(o:Oper)(chk:List Oper)(τ:Fr)(H:zad)(KK:Nat→Fr→zad→Prop):Prop:=
  if anc o.op then aS P KT sm N τ0 o τ H fun τ' H'=>reK P KT N chk τ' H' (KK r τ' H')
  else sE P KT [] N 0 r [] [o] τ H [] fun τ' H' _=>KK (if lays [] o then r+1 else r) τ' H'
def sS:Nat→List (Oper × List Oper)→Fr→zad→(Fr→zad→Prop)→Prop
  |_,[],τ,H,K=>K τ H
  |r,(o,chk)::l,τ,H,K=>oS P KT sm N τ0 r o chk τ H fun r' τ' H'=>sS r' l τ' H' K
end
def op0 : Oper := ⟨none, .move (.const undef), 0, "", #[], none⟩
def stg(ops:List Oper)(st:List (Nat × List Nat)):List (Oper × List Oper):=st.map fun p=>(ops.getD p.1 op0,p.2.map fun j=>ops.getD j op0)
def wtO(o:Oper):List Nat:=(o.after.toList.filter (Region.binds .any)).map (·.on)
def tmO(o:Oper):List Tmp:=o.op.operands.toList.filterMap fun| .tmp t=>some t|_=>none
def clN(cl:List (List Nat))(i:Nat):List Nat:=cl.getD i []
def jir(ops:List Oper)(cl:List (List Nat))(j:Nat):Bool:=(tmO (ops.getD j op0)).all fun t=>(List.range ops.length).all fun k=>(ops.getD k op0).dst !=some t||(clN cl j).contains k
def stC(ops:List Oper)(cl:List (List Nat)):List Nat→List (Nat × List Nat)→Bool
  |_,[]=>true
  |done,(i,chk)::l=>(clN cl i).all (done.contains ·)&&(wtO (ops.getD i op0)).all ((clN cl i).contains ·)&& !done.contains i&&decide (i<ops.length)&&
      (!anc (ops.getD i op0).op||(l.all fun q=>(clN cl q.1).contains i)&&done.all fun j=>(clN cl i).contains j||quiet (ops.getD j op0).op||(lays [] (ops.getD j op0)&&zdp (ops.getD i op0).op)||chk.contains j&& !lays [] (ops.getD j op0)&&jir ops cl j)&&
      stC ops cl (done++[i]) l
def chC(ops:List Oper)(cl:List (List Nat))(st:List (Nat × List Nat)):Bool:=
  stC ops cl [] st&&((List.range ops.length).all fun i=>(st.map (·.1)).contains i)&&((List.range ops.length).all fun i=>(wtO (ops.getD i op0)).all fun d=>decide (d<i))&&(ops.all fun o=>o.guard.isNone)&&
  ((List.range ops.length).all fun i=>(clN cl i).all fun j=>(wtO (ops.getD i op0)).contains j||(wtO (ops.getD i op0)).any fun d=>decide (d<i)&&(clN cl d).contains j)&&
  ((List.range ops.length).all fun i=>(List.range ops.length).all fun j=>i==j||(ops.getD i op0).dst==none||(ops.getD i op0).dst !=(ops.getD j op0).dst)&&
  (List.range ops.length).all fun i=>(tmO (ops.getD i op0)).all fun t=>(List.range ops.length).all fun j=>(ops.getD j op0).dst !=some t||(clN cl i).contains j||(clN cl j).contains i
section
variable {P:Program} {KT:TypeId→Bool} {sm:List Nat} {ops:List Oper} {N:Nat} {τ0:Fr} {cl:List (List Nat)} {c:Cx}
def dsO(ops:List Oper)(i:Nat):Option Tmp:=(ops.getD i op0).dst
def frP(ops:List Oper)(τ0:Fr)(S:List Nat)(vals:Nat→AV):Fr:=fun t=>match S.find? fun i=>dsO ops i==some t with
  |some i=>vals i
  |none=>τ0 t
def je5(ops:List Oper):Prop:=∀i j t,i<ops.length→j<ops.length→dsO ops i=some t→dsO ops j=some t→i=j
theorem zn2(ha:je5 ops){S:List Nat}(hS:∀i∈S,i<ops.length){vals:Nat→AV}{i:Nat}(hi:i∈S){t:Tmp}(ht:dsO ops i=some t):frP ops τ0 S vals t=vals i:=by
  unfold frP
  cases hf:S.find? fun i=>dsO ops i==some t with
  |none=>
    have:=List.find?_eq_none.1 hf i hi
    simp[ht]at this
  |some j=>
    have h1:=List.find?_some hf
    have h2:=List.mem_of_find?_eq_some hf
    rw[ha i j t (hS i hi) (hS j h2) ht (by simpa using h1)]
theorem jis{S:List Nat}{vals:Nat→AV}{t:Tmp}(h:∀i∈S,dsO ops i≠some t):frP ops τ0 S vals t=τ0 t:=by
  unfold frP
  rw[List.find?_eq_none.2 fun i hi=>by simpa using h i hi]
theorem zlj(ha:je5 ops){S S':List Nat}(hS:∀i∈S,i<ops.length)(hS':∀i∈S',i<ops.length){vals vals':Nat→AV}{t:Tmp}(h:∀i,dsO ops i=some t→(i∈S↔i∈S'))(hv:∀i∈S,vals i=vals' i):frP ops τ0 S vals t=frP ops τ0 S' vals' t:=by
  by_cases hex:∃i∈S,dsO ops i=some t
  · obtain⟨i,hi,ht⟩:=hex
    rw[zn2 ha hS hi ht,zn2 ha hS' ((h i ht).1 hi) ht,hv i hi]
  · have h1:∀i∈S,dsO ops i≠some t:=fun i hi ht=>hex ⟨i,hi,ht⟩
    rw[jis h1,jis fun i hi ht=>h1 i ((h i ht).2 hi) ht]
theorem zuw(ha:je5 ops){S:List Nat}(hS:∀i∈S,i<ops.length){vals:Nat→AV}{i:Nat}(hi:i∉S)(hlt:i<ops.length){v:AV}(hv:vals i=v):(frP ops τ0 S vals).put (dsO ops i) v=frP ops τ0 (S++[i]) vals:=by
  have hS':∀j∈S++[i],j<ops.length:=fun j hj=>by
    rcases qas.1 hj with h|h
    · exact hS j h
    · rw[qau.1 h];exact hlt
  funext t
  cases hd:dsO ops i with
  |none=>
    show frP ops τ0 S vals t=_
    refine zlj ha hS hS' (fun j hj=>?_) fun _ _=>rfl
    have:j≠i:=fun e=>by rw[e,hd]at hj;cases hj
    simp[this]
  |some d=>
    simp only[Fr.put]
    split
    · rename_i e
      subst e
      rw[zn2 ha hS' (i:=i) (by simp) hd,hv]
    · rename_i hne
      refine zlj ha hS hS' (fun j hj=>?_) fun _ _=>rfl
      have:j≠i:=fun e=>by rw[e,hd]at hj;cases hj;exact hne rfl
      simp[this]
structure Ck (ops:List Oper) (cl:List (List Nat)):Prop where
  ap:je5 ops
  gd:∀(i:Nat) (o:Oper),ops[i]? =some o→o.guard=none
  bk:∀i,i<ops.length→∀d∈wtO (ops.getD i op0),d<i
  cl1:∀i,i<ops.length→∀j∈clN cl i,j∈wtO (ops.getD i op0)∨∃d∈wtO (ops.getD i op0),d<i∧j∈clN cl d
  opd:∀i,i<ops.length→∀t∈tmO (ops.getD i op0),∀j,j<ops.length→dsO ops j=some t→j∈clN cl i∨i∈clN cl j
theorem Ck.of{st:List (Nat × List Nat)}(h:chC ops cl st=true):Ck ops cl∧stC ops cl [] st=true∧∀i,i<ops.length→i∈st.map (·.1):=by
  unfold chC at h
  simp only[qar,qax]at h
  obtain⟨⟨⟨⟨⟨⟨h1,h2⟩,h7⟩,h3⟩,h4⟩,h5⟩,h6⟩:=h
  refine⟨⟨fun i j t hi hj hti htj=>?_,fun i o ho=>?_,fun i hi d hd=>by simpa using qay.1 (qay.1 h7 i (qaq.2 hi)) d hd,fun i hi j hj=>?_,fun i hi t ht j hj htj=>?_⟩,h1,fun i hi=>by simpa using qay.1 h2 i (qaq.2 hi)⟩
  · have:=qay.1 (qay.1 h5 i (qaq.2 hi)) j (qaq.2 hj)
    simp only[Bool.or_eq_true,beq_iff_eq,bne_iff_ne,ne_eq]at this
    unfold dsO at hti htj
    rcases this with(h|h)|h
    · exact h
    · rw[h]at hti;cases hti
    · exact absurd (hti.trans htj.symm) h
  · have:=qay.1 h3 o (List.mem_of_getElem? ho)
    simpa using this
  · have:=qay.1 (qay.1 h4 i (qaq.2 hi)) j hj
    simp only[Bool.or_eq_true,List.contains_eq_mem,qax,List.any_eq_true,qar]at this
    exact this
  · have:=qay.1 (qay.1 (qay.1 h6 i (qaq.2 hi)) t ht) j (qaq.2 hj)
    simp only[Bool.or_eq_true,bne_iff_ne,ne_eq,List.contains_eq_mem,qax]at this
    unfold dsO at htj
    rcases this with(h|h)|h
    · exact absurd htj h
    · exact .inl h
    · exact .inr h
def lsd(listed:Array Bool)(i:Nat):Prop:=listed.getD i false=true
theorem Ck.closed(k:Ck ops cl){listed:Array Bool}(hc:Closed ops listed):∀(n i:Nat),i<n→i<ops.length→(∀d∈wtO (ops.getD i op0),lsd listed d)→∀j∈clN cl i,lsd listed j
  |n+1,i,hn,hi,hw,j,hj=>by
    rcases k.cl1 i hi j hj with h|⟨d,hd,hlt,h⟩
    · exact hw j h
    · refine k.closed hc n d (by omega) (by omega) (fun e he=>?_) j h
      have hdl:d<ops.length:=by omega
      unfold wtO at he
      obtain⟨ed,hed,rfl⟩:=qat.1 he
      obtain⟨h1,h2⟩:=List.mem_filter.1 hed
      rw[qai,qal hdl]at h1
      exact hc d ops[d] (qal hdl) (hw d hd) ed (by simpa using h1) h2
theorem jt4{i:Nat}{o:Oper}(h:ops[i]? =some o):ops.getD i op0=o:=by rw[qai,h];rfl
theorem Ck.ready(k:Ck ops cl){listed:Array Bool}(hc:Closed ops listed){i:Nat}(hi:i∈Region.ready .any ops.toArray listed):i<ops.length∧listed.getD i true=false∧∀j∈clN cl i,lsd listed j:=by
  obtain⟨h0,o,ho,hall⟩:=mem_ready.1 hi
  rw[List.getElem?_toArray]at ho
  have hlt:=(qag.1 ho).1
  refine⟨hlt,h0,k.closed hc (i+1) i (by omega) hlt fun d hd=>?_⟩
  rw[jt4 ho]at hd
  unfold wtO at hd
  obtain⟨e,he,rfl⟩:=qat.1 hd
  obtain⟨h1,h2⟩:=List.mem_filter.1 he
  exact hall e (by simpa using h1) h2
theorem Ck.agree(k:Ck ops cl){S:List Nat}(hS:∀i∈S,i<ops.length){vals vals':Nat→AV}{i:Nat}(hi:i<ops.length)(hcl:∀j∈clN cl i,j∈S)(hno:∀j∈S,i∉clN cl j)(hv:∀j∈clN cl i,vals j=vals' j):
    ∀y∈(ops.getD i op0).op.operands,zaw (frP ops τ0 S vals) y=zaw (frP ops τ0 (clN cl i) vals') y:=fun y hy=>by
  cases y with
  |tmp t=>
    have ht:t∈tmO (ops.getD i op0):=List.mem_filterMap.2 ⟨.tmp t,by simpa using hy,rfl⟩
    refine(zlj k.ap (fun j hj=>hS j (hcl j hj)) hS (fun j hj=>⟨hcl j,fun hjS=>?_⟩) fun j hj=>(hv j hj).symm).symm
    rcases k.opd i hi t ht j (hS j hjS) hj with h|h
    · exact h
    · exact absurd h (hno j hjS)
  |_=>rfl
theorem zwr(ha:je5 ops){S:List Nat}(hS:∀i∈S,i<ops.length){vals vals':Nat→AV}{i:Nat}(hcl:∀j∈clN cl i,j∈S)(hs:jir ops cl i=true)(hv:∀j∈clN cl i,vals j=vals' j):
    ∀y∈(ops.getD i op0).op.operands,zaw (frP ops τ0 S vals) y=zaw (frP ops τ0 (clN cl i) vals') y:=fun y hy=>by
  cases y with
  |tmp t=>
    have ht:t∈tmO (ops.getD i op0):=List.mem_filterMap.2 ⟨.tmp t,by simpa using hy,rfl⟩
    refine(zlj ha (fun j hj=>hS j (hcl j hj)) hS (fun j hj=>⟨hcl j,fun hjS=>?_⟩) fun j hj=>(hv j hj).symm).symm
    have:=qay.1 (qay.1 hs t ht) j (qaq.2 (hS j hjS))
    simp only[Bool.or_eq_true,bne_iff_ne,ne_eq,List.contains_eq_mem,qax]at this
    exact this.resolve_left fun h=>h hj
  |_=>rfl
def Fact(P:Program)(ops:List Oper)(cl:List (List Nat))(N:Nat)(τ0:Fr)(vals:Nat→AV)(slot:Nat→Nat)(H:zad)(i:Nat):Prop:=
  if lays [] (ops.getD i op0)then ∃o,H[N+slot i]? =some o∧∀H2,OpA P true (N+slot i) (zaw (frP ops τ0 (clN cl i) vals)) (ops.getD i op0).op H2 [] (vals i) (H2.set (N+slot i) o) []
  else OpQ P N H (zaw (frP ops τ0 (clN cl i) vals)) (ops.getD i op0).op (vals i)
structure Inv (P:Program) (ops:List Oper) (cl:List (List Nat)) (N:Nat) (τ0:Fr) (pre:List Nat) (r:Nat) (vals:Nat→AV) (slot:Nat→Nat) (H HL:zad) (listed:Array Bool):Prop where
  lt:∀i∈pre,i<ops.length
  cls:∀i∈pre,∀j∈clN cl i,j∈pre
  sub:∀i,lsd listed i→i∈pre
  ac:∀i∈pre,anc (ops.getD i op0).op=true→lsd listed i
  fact:∀i∈pre,¬lsd listed i→Fact P ops cl N τ0 vals slot H i
  slt:∀i∈pre,lays [] (ops.getD i op0)=true→anc (ops.getD i op0).op=false→slot i<r
  inj:∀i∈pre,∀j∈pre,lays [] (ops.getD i op0)=true→anc (ops.getD i op0).op=false→lays [] (ops.getD j op0)=true→anc (ops.getD j op0).op=false→slot i=slot j→i=j
  len:HL.length=H.length
  nle:N≤H.length
  m2:∀id,(∀i∈pre,lays [] (ops.getD i op0)=true→¬lsd listed i→id≠N+slot i)→HL[id]? =H[id]?
  m3:∀i∈pre,lays [] (ops.getD i op0)=true→¬lsd listed i→HL[N+slot i]? =some .free
theorem zrh{ops:List Oper}{τ:Fr}{o:Oper}(h:o.guard=none):zc2 ops τ o=some true:=by unfold zc2;rw[h]
theorem jp7{r:Nat}{o:Oper}(hg:o.guard=none)(hKT:∀k,KT k=true→Maps.Keyed P k){τ:Fr}{H:zad}{KK:Fr→zad→List (Nat × Nat)→Prop}(h:sE P KT [] N 0 r [] [o] τ H [] KK):
    zmn P [] N r (zev [] o) [] o τ H [] fun x H' sh'=>KK (τ.put o.dst x) H' sh':=by
  obtain⟨b,hb,ht,_⟩:=zmq h
  have:b=true:=by rw[zrh hg]at hb;cases hb;rfl
  exact jtz hKT (ht this)
theorem Fact.keep(ha:je5 ops){vals vals':Nat→AV}{slot slot':Nat→Nat}{H H':zad}{i:Nat}(hlt:∀j∈clN cl i,j<ops.length)(hv:∀j∈clN cl i,vals j=vals' j)(hi:vals i=vals' i)(hs:slot i=slot' i)
    (hH:lays [] (ops.getD i op0)=true→H[N+slot i]? =H'[N+slot i]?) (hQ:lays [] (ops.getD i op0)=false→OpQ P N H (zaw (frP ops τ0 (clN cl i) vals)) (ops.getD i op0).op (vals i)→OpQ P N H' (zaw (frP ops τ0 (clN cl i) vals)) (ops.getD i op0).op (vals i))
    (h:Fact P ops cl N τ0 vals slot H i):Fact P ops cl N τ0 vals' slot' H' i:=by
  have e:frP ops τ0 (clN cl i) vals=frP ops τ0 (clN cl i) vals':=funext fun t=>zlj ha hlt hlt (fun _ _=>Iff.rfl) hv
  unfold Fact at h ⊢
  rw[←e,←hi,←hs]
  cases hl:lays [] (ops.getD i op0)with
  |true=>
    rw[if_pos hl]at h
    rw[if_pos rfl,←hH hl];exact h
  |false=>
    rw[if_neg (by rw[hl];decide)]at h
    rw[if_neg (by decide)];exact hQ hl h
theorem jt5{op:Op}(h:anc op=false):zdp op=false∧(kOf [] op=0∨kOf [] op=1):=by
  unfold anc at h
  simp only[Bool.or_eq_false_iff,beq_eq_false_iff_ne,ne_eq]at h
  obtain⟨⟨⟨h1,h2⟩,h3⟩,h4⟩:=h
  refine⟨h1,?_⟩
  rcases zs3 [] op with h|h|h|h|h
  · exact .inl h
  · exact .inr h
  · exact absurd h h2
  · exact absurd h h3
  · exact absurd h h4
theorem Inv.stage(k:Ck ops cl)(hKT:∀k,KT k=true→Maps.Keyed P k){pre:List Nat}{r:Nat}{vals:Nat→AV}{slot:Nat→Nat}{H HL:zad}{listed:Array Bool}(v:Inv P ops cl N τ0 pre r vals slot H HL listed){i:Nat}{KK:Nat→Fr→zad→Prop}
    (hi:i<ops.length) (hn:i∉pre) (hcl:∀j∈clN cl i,j∈pre) (ha:anc (ops.getD i op0).op=false)
    (h:sE P KT [] N 0 r [] [ops.getD i op0] (frP ops τ0 pre vals) H [] fun τ' H' _=>KK (if lays [] (ops.getD i op0)then r+1 else r) τ' H'):
    ∃r' vals' slot' H',Inv P ops cl N τ0 (pre++[i]) r' vals' slot' H' HL listed∧KK r' (frP ops τ0 (pre++[i]) vals') H'∧∀j∈pre,vals' j=vals j:=by
  have hg:(ops.getD i op0).guard=none:=k.gd i _ (by rw[qal hi,qai,qal hi];rfl)
  have hc:=jp7 hg hKT h
  obtain⟨hcv,hk⟩:=jt5 ha
  have hunl:¬lsd listed i:=fun h=>hn (v.sub i h)
  have hne:∀j∈pre,j≠i:=fun j hj e=>hn (e▸hj)
  have hlts:∀j∈clN cl i,j<ops.length:=fun j hj=>v.lt j (hcl j hj)
  have hag:∀(x:AV),∀y∈(ops.getD i op0).op.operands,zaw (frP ops τ0 pre vals) y=zaw (frP ops τ0 (clN cl i) fun j=>if j=i then x else vals j) y:=fun x=>
    k.agree v.lt hi hcl (fun j hj hji=>hn (v.cls j hj i hji)) fun j hj=>(if_neg (hne j (hcl j hj))).symm
  have base:∀(x:AV) (H':zad) (r':Nat),r≤r'→H'.length=H.length→(∀id,(lays [] (ops.getD i op0)=true→id≠N+r)→H'[id]? =H[id]?)→(lays [] (ops.getD i op0)=true→r<r'∧H[N+r]? =some .free)→Fact P ops cl N τ0 (fun j=>if j=i then x else vals j) (fun j=>if j=i then r else slot j) H' i→
      Inv P ops cl N τ0 (pre++[i]) r' (fun j=>if j=i then x else vals j) (fun j=>if j=i then r else slot j) H' HL listed:=by
    intro x H' r' hr hlen hH hfree hf
    have cases':∀j,j∈pre++[i]→j∈pre∨j=i:=fun j hj=>by simpa using hj
    refine⟨fun j hj=>?_,fun j hj q hq=>?_,fun j hj=>List.mem_append_left _ (v.sub j hj),fun j hj hja=>?_,fun j hj hu=>?_,fun j hj hl hja=>?_,fun p hp q hq lp ap lq aq he=>?_,v.len.trans hlen.symm,hlen▸v.nle,fun id hid=>?_,fun j hj hl hu=>?_⟩
    · rcases cases' j hj with h|rfl
      · exact v.lt j h
      · exact hi
    · rcases cases' j hj with h|rfl
      · exact List.mem_append_left _ (v.cls j h q hq)
      · exact List.mem_append_left _ (hcl q hq)
    · rcases cases' j hj with h|rfl
      · exact v.ac j h hja
      · rw[ha]at hja;cases hja
    · rcases cases' j hj with h|rfl
      · refine Fact.keep k.ap (fun q hq=>v.lt q (v.cls j h q hq)) (fun q hq=>(if_neg (hne q (v.cls j h q hq))).symm) (if_neg (hne j h)).symm (if_neg (hne j h)).symm (fun hl=>?_) (fun hl hq=>?_) (v.fact j h hu)
        · have hja:anc (ops.getD j op0).op=false:=by
            cases hx:anc (ops.getD j op0).op with
            |false=>rfl
            |true=>exact absurd (v.ac j h hx) hu
          have:=v.slt j h hl hja
          exact(hH _ fun _=>by omega).symm
        · exact zgj (fun id hid=>(hH id fun _=>by omega).symm) _ _ hq
      · exact hf
    · rcases cases' j hj with h|rfl
      · simp only[if_neg (hne j h)];exact Nat.lt_of_lt_of_le (v.slt j h hl hja) hr
      · simp only[if_pos];exact(hfree hl).1
    · rcases cases' p hp with h1|h1<;>rcases cases' q hq with h2|h2
      · simp only[if_neg (hne p h1),if_neg (hne q h2)]at he;exact v.inj p h1 q h2 lp ap lq aq he
      · simp only[if_neg (hne p h1),if_pos h2]at he;have:=v.slt p h1 lp ap;omega
      · simp only[if_neg (hne q h2),if_pos h1]at he;have:=v.slt q h2 lq aq;omega
      · rw[h1,h2]
    · have h1:=v.m2 id fun j hj hl hu=>by have:=hid j (List.mem_append_left _ hj) hl hu;simpa only[if_neg (hne j hj)]using this
      rw[h1]
      exact(hH id fun hl=>by have:=hid i (by simp) hl hunl;simpa using this).symm
    · rcases cases' j hj with h|rfl
      · simp only[if_neg (hne j h)];exact v.m3 j h hl hu
      · simp only[if_true]
        rw[v.m2 _ fun q hq hlq huq=>?_]
        · exact(hfree hl).2
        · have hqa:anc (ops.getD q op0).op=false:=by
            cases hx:anc (ops.getD q op0).op with
            |false=>rfl
            |true=>exact absurd (v.ac q hq hx) huq
          have:=v.slt q hq hlq hqa;omega
  have put:∀x,(frP ops τ0 pre vals).put (ops.getD i op0).dst x=frP ops τ0 (pre++[i]) fun j=>if j=i then x else vals j:=fun x=>by
    rw[show frP ops τ0 pre vals=frP ops τ0 pre (fun j=>if j=i then x else vals j) from funext fun t=>zlj k.ap v.lt v.lt (fun _ _=>Iff.rfl) fun j hj=>(if_neg (hne j hj)).symm]
    exact zuw k.ap v.lt hn hi (if_pos rfl)
  unfold zmn at hc
  rcases hk with hk|hk
  · have hl:lays [] (ops.getD i op0)=false:=by unfold lays;rw[hk];rfl
    simp only[hk]at hc
    obtain⟨x,hq,hh⟩:=hc
    rw[put]at hh
    refine⟨r,_,_,H,base x H r (qao _) rfl (fun _ _=>rfl) (fun h=>by rw[hl]at h;cases h) ?_,?_,fun j hj=>if_neg (hne j hj)⟩
    · unfold Fact
      rw[if_neg (by rw[hl];decide)]
      simp only[if_true]
      rw[←zml (P:=P) (hag x)];exact hq
    · rw[if_neg (by rw[hl];decide)]at hh;exact hh
  · have hl:lays [] (ops.getD i op0)=true:=by unfold lays;rw[hk];rfl
    simp only[hk]at hc
    obtain⟨h1,_,_,x,H',sh',hq,hh⟩:=hc
    obtain⟨o,rfl,rfl,hall⟩:=zly hk hq
    rw[put]at hh
    have hlt:N+r<H.length:=(qag.1 h1).1
    refine⟨r+1,_,_,H.set (N+r) o,base x (H.set (N+r) o) (r+1) (by omega) (by simp) (fun id hid=>zfa (hid hl)) (fun _=>⟨by omega,h1⟩) ?_,?_,fun j hj=>if_neg (hne j hj)⟩
    · unfold Fact
      rw[if_pos hl]
      simp only[if_true]
      refine⟨o,List.getElem?_set_self hlt,fun H2=>?_⟩
      rw[←zmm (P:=P) (hag x)];exact hall H2 []
    · rw[if_pos hl]at hh;exact hh
theorem Inv.advance(k:Ck ops cl)(hKT:∀k,KT k=true→Maps.Keyed P k){HL:zad}{listed:Array Bool}{K:Fr→zad→Prop}:∀(rest:List (Nat × List Nat)) (pre:List Nat) (r:Nat) (vals:Nat→AV) (slot:Nat→Nat) (H:zad),Inv P ops cl N τ0 pre r vals slot H HL listed→
    stC ops cl pre rest=true→sS P KT sm N τ0 r (stg ops rest) (frP ops τ0 pre vals) H K→
    ∃pre' rest' r' vals' slot' H',Inv P ops cl N τ0 pre' r' vals' slot' H' HL listed∧stC ops cl pre' rest'=true∧sS P KT sm N τ0 r' (stg ops rest') (frP ops τ0 pre' vals') H' K∧(∀j∈pre,j∈pre'∧vals' j=vals j)∧(∀j,j∈pre∨j∈rest.map (·.1)→j∈pre'∨j∈rest'.map (·.1))∧(rest'=[]∨∃i chk l,rest'=(i,chk)::l∧anc (ops.getD i op0).op=true)
  |[],pre,r,vals,slot,H,v,hs,h=>⟨pre,[],r,vals,slot,H,v,hs,h,fun j hj=>⟨hj,rfl⟩,fun j hj=>hj,.inl rfl⟩
  |(i,chk)::l,pre,r,vals,slot,H,v,hs,h=>by
    cases ha:anc (ops.getD i op0).op with
    |true=>exact⟨pre,(i,chk)::l,r,vals,slot,H,v,hs,h,fun j hj=>⟨hj,rfl⟩,fun j hj=>hj,.inr ⟨i,chk,l,rfl,ha⟩⟩
    |false=>
      have hs':=hs
      simp only[stC,qar,qax,Bool.not_eq_true',List.contains_eq_mem,decide_eq_false_iff_not,qay]at hs'
      obtain⟨⟨⟨⟨⟨h1,h2⟩,h3⟩,h4⟩,_⟩,h5⟩:=hs'
      have hh:oS P KT sm N τ0 r (ops.getD i op0) (chk.map fun j=>ops.getD j op0) (frP ops τ0 pre vals) H fun r' τ' H'=>sS P KT sm N τ0 r' (stg ops l) τ' H' K:=h
      unfold oS at hh
      rw[if_neg (by rw[ha];decide)]at hh
      obtain⟨r',vals',slot',H',v',hK,hv⟩:=v.stage k hKT (KK:=fun r' τ' H'=>sS P KT sm N τ0 r' (stg ops l) τ' H' K) h4 h3 h1 ha hh
      obtain⟨pre2,rest2,r2,zxt,slot2,H2,a1,a2,a3,a4,a5,a6⟩:=Inv.advance k hKT l (pre++[i]) r' vals' slot' H' v' h5 hK
      refine⟨pre2,rest2,r2,zxt,slot2,H2,a1,a2,a3,fun j hj=>⟨(a4 j (List.mem_append_left _ hj)).1,(a4 j (List.mem_append_left _ hj)).2.trans (hv j hj)⟩,fun j hj=>a5 j ?_,a6⟩
      simp only[List.map_cons,List.mem_cons,qas,List.not_mem_nil,or_false]at hj ⊢
      rcases hj with h|h|h
      · exact .inl (.inl h)
      · exact .inl (.inr h)
      · exact .inr h
theorem Ck.all(k:Ck ops cl){listed:Array Bool}(hsz:listed.size=ops.length)(h:Region.ready .any ops.toArray listed=[]):∀(n i:Nat),i<n→i<ops.length→lsd listed i
  |n+1,i,hn,hi=>by
    by_cases hl:lsd listed i
    · exact hl
    · exfalso
      have hmem:i∈Region.ready .any ops.toArray listed:=mem_ready.2 ⟨by
        unfold lsd at hl
        have hlt:i<listed.size:=by omega
        simp only[Array.getD,dif_pos hlt]at hl ⊢
        simpa using hl,ops[i],by rw[List.getElem?_toArray,qal hi],fun e he hb=>?_⟩
      · rw[h]at hmem;cases hmem
      · have hw:e.on∈wtO (ops.getD i op0):=by
          rw[qai,qal hi]
          exact qat.2 ⟨e,List.mem_filter.2 ⟨by simpa using he,hb⟩,rfl⟩
        have:=k.bk i hi _ hw
        exact k.all hsz h n e.on (by omega) (by omega)
theorem jt6{op:Op}(h:quiet op=true):kOf [] op=0:=by
  unfold quiet at h
  split at h<;>first|rfl|cases h
theorem jt7{ρ:Operand→AV}{op:Op}{H H':zad}{sh:List (Nat × Nat)}{x:AV}(h:OpM P ρ op H sh x H'):H'.length=H.length:=by
  unfold OpM at h
  split at h
  · obtain⟨kt,et,v,es,clock,id,_,_,_,_,_,_,_,_,_,_,rfl⟩:=h;simp
  · obtain⟨kt,et,v,es,clock,id,_,_,_,_,_,_,_,_,_,_,rfl⟩:=h;simp
  · obtain⟨kt,et,z,v,es,clock,id,_,_,_,_,_,_,_,_,_,_,h⟩:=h
    split at h
    · obtain⟨_,rfl⟩:=h;simp
    · obtain⟨_,rfl⟩:=h;simp
  · obtain⟨kd,n,es,clock,id,i,_,_,_,_,_,_,rfl⟩:=h;simp
  · split at h
    all_goals first|(obtain⟨kt,et,v,es,clock,id,_,_,_,_,_,_,_,_,_,_,rfl⟩:=h;simp;done)|(obtain⟨kt,et,es,clock,id,_,_,_,_,_,rfl⟩:=h;simp;done)|exact h.elim
  · exact h.elim
theorem jbm(hKT:∀k,KT k=true→Maps.Keyed P k){τ:Fr}{H:zad}{K:Prop}:∀{l:List Oper},(∀o∈l,o.guard=none)→reK P KT N l τ H K→K∧∀o∈l,kOf [] o.op=0→∃d,o.dst=some d∧OpQ P N H (zaw τ) o.op (τ d)
  |[],_,h=>⟨h,fun o ho=>by cases ho⟩
  |o::l,hg,h=>by
    unfold reK at h
    split at h
    · rename_i d hd
      have hc:=jp7 (hg o (List.mem_cons_self ..)) hKT h
      have key:∀x,(τ.put o.dst x) d=x:=fun x=>by rw[hd];simp[Fr.put]
      have tail:∀{x:AV},(τ.put o.dst x) d=τ d∧reK P KT N l τ H K→(kOf [] o.op=0→OpQ P N H (zaw τ) o.op x)→K∧∀o'∈o::l,kOf [] o'.op=0→∃d,o'.dst=some d∧OpQ P N H (zaw τ) o'.op (τ d):=fun{x} hx hq=>by
        obtain⟨hx,hr⟩:=hx
        rw[key]at hx
        subst hx
        obtain⟨a1,a2⟩:=jbm hKT (fun o' ho=>hg o' (qbb _ ho)) hr
        refine⟨a1,fun o' ho' hk'=>?_⟩
        rcases List.mem_cons.1 ho' with rfl|ho'
        · exact⟨d,hd,hq hk'⟩
        · exact a2 o' ho' hk'
      unfold zmn at hc
      rcases zs3 [] o.op with h0|h0|h0|h0|h0<;>simp only[h0]at hc
      · obtain⟨x,hq,hx⟩:=hc
        exact tail hx fun _=>hq
      · obtain⟨_,_,_,x,H',sh',hq,hx⟩:=hc
        exact tail hx fun h=>by rw[h0]at h;cases h
      · obtain⟨H',hq,hx⟩:=hc
        exact tail hx fun h=>by rw[h0]at h;cases h
      · obtain⟨_,_,_,x,H',sh',hq,hx⟩:=hc
        exact tail hx fun h=>by rw[h0]at h;cases h
      · obtain⟨x,H',hq,hx⟩:=hc
        exact tail hx fun h=>by rw[h0]at h;cases h
    · exact h.elim
theorem mem_fil{pre:List Nat}{listed:Array Bool}{i:Nat}:i∈pre.filter (fun j=>listed.getD j false)↔i∈pre∧lsd listed i:=by
  rw[List.mem_filter];rfl
theorem zem{listed:Array Bool}{i j:Nat}(hi:i<listed.size):lsd (listed.setIfInBounds i true) j↔j=i∨lsd listed j:=by
  by_cases h:j=i
  · subst h;simp[lsd,hi]
  · unfold lsd;rw[getD_set_ne false (Ne.symm h)];simp[h]
theorem jmt(k:Ck ops cl){pre:List Nat}(hlt:∀i∈pre,i<ops.length){vals:Nat→AV}{listed:Array Bool}{i:Nat}(hsz:i<listed.size)(hi:i∈pre)(hn:¬lsd listed i){v:AV}(hv:vals i=v):
    (frP ops τ0 (pre.filter fun j=>listed.getD j false) vals).put (dsO ops i) v=frP ops τ0 (pre.filter fun j=>(listed.setIfInBounds i true).getD j false) vals:=by
  have h1:∀j∈pre.filter (fun j=>listed.getD j false),j<ops.length:=fun j hj=>hlt j (mem_fil.1 hj).1
  rw[zuw k.ap h1 (fun h=>hn (mem_fil.1 h).2) (hlt i hi) hv]
  funext t
  refine zlj k.ap (fun j hj=>?_) (fun j hj=>hlt j (mem_fil.1 hj).1) (fun j _=>?_) fun _ _=>rfl
  · rcases qas.1 hj with h|h
    · exact h1 j h
    · rw[qau.1 h];exact hlt i hi
  · rw[qas,mem_fil,mem_fil,qau,zem hsz]
    constructor
    · rintro(⟨a,b⟩|rfl)
      · exact⟨a,.inr b⟩
      · exact⟨hi,.inl rfl⟩
    · rintro⟨a,rfl|b⟩
      · exact .inr rfl
      · exact .inl ⟨a,b⟩
theorem Inv.list{pre:List Nat}{r:Nat}{vals:Nat→AV}{slot:Nat→Nat}{H HL HL':zad}{listed:Array Bool}{i:Nat}(v:Inv P ops cl N τ0 pre r vals slot H HL listed)(hsz:i<listed.size)(hi:i∈pre)(hn:¬lsd listed i)
    (h1:HL'.length=HL.length) (h2:∀id,(lays [] (ops.getD i op0)=true→id≠N+slot i)→HL'[id]? =HL[id]?) (h3:lays [] (ops.getD i op0)=true→HL'[N+slot i]? =H[N+slot i]?):Inv P ops cl N τ0 pre r vals slot H HL' (listed.setIfInBounds i true):=by
  have un:∀{j},¬lsd (listed.setIfInBounds i true) j→j≠i∧¬lsd listed j:=fun{j} h=>⟨fun e=>h ((zem hsz).2 (.inl e)),fun e=>h ((zem hsz).2 (.inr e))⟩
  have ua:∀{j},j∈pre→¬lsd listed j→Go.Proofs.YtapjobndmmkanaaGreat.anc (ops.getD j op0).op=false:=fun{j} hj hu=>by
    cases hx:Go.Proofs.YtapjobndmmkanaaGreat.anc (ops.getD j op0).op with
    |false=>rfl
    |true=>exact absurd (v.ac j hj hx) hu
  refine⟨v.lt,v.cls,fun j hj=>?_,fun j hj ha=>(zem hsz).2 (.inr (v.ac j hj ha)),fun j hj hu=>v.fact j hj (un hu).2,v.slt,v.inj,h1.trans v.len,v.nle,fun id hid=>?_,fun j hj hl hu=>?_⟩
  · rcases(zem hsz).1 hj with rfl|h
    · exact hi
    · exact v.sub j h
  · by_cases he:lays [] (ops.getD i op0)=true∧id=N+slot i
    · obtain⟨hl,rfl⟩:=he
      exact h3 hl
    · rw[h2 id fun hl e=>he ⟨hl,e⟩]
      refine v.m2 id fun j hj hl hu=>?_
      by_cases hji:j=i
      · subst hji;exact fun e=>he ⟨hl,e⟩
      · exact hid j hj hl fun h=>by
          rcases(zem hsz).1 h with h|h
          · exact hji h
          · exact hu h
  · obtain⟨hji,hu'⟩:=un hu
    rw[h2 _ fun hli e=>hji (v.inj j hj i hi hl (ua hj hu') hli (ua hi hn) (by omega))]
    exact v.m3 j hj hl hu'
theorem jit(k:Ck ops cl)(hKT:∀k,KT k=true→Maps.Keyed P k)(hd:zgi c.nt ops=true)(hsm:Kp c sm){K:Fr→zad→Prop}{Q:Exit→Act→World→Prop}(hK:∀τ H a w,K τ H→R c τ H [] a w→Q .normal a w):
    ∀(fuel:Nat) (rem:List Nat) (pre:List Nat) (rest:List (Nat × List Nat)) (r:Nat) (vals:Nat→AV) (slot:Nat→Nat) (H HL:zad) (listed:Array Bool) (a:Act) (w:World),rem.length=fuel→(∀i,i<ops.length→¬lsd listed i→i∈rem)→listed.size=ops.length→Closed ops listed→
      Inv P ops cl N τ0 pre r vals slot H HL listed→stC ops cl pre rest=true→sS P KT sm N τ0 r (stg ops rest) (frP ops τ0 pre vals) H K→(∀i,i<ops.length→i∈pre∨i∈rest.map (·.1))→(rest=[]∨∃i chk l,rest=(i,chk)::l∧anc (ops.getD i op0).op=true)→
      R c (frP ops τ0 (pre.filter fun j=>listed.getD j false) vals) HL [] a w→wpAnyIn c.F 0 P .any ops.toArray Q fuel listed a w:=by
  -- where all is listed
  have fin:∀(pre:List Nat) (rest:List (Nat × List Nat)) (r:Nat) (vals:Nat→AV) (slot:Nat→Nat) (H HL:zad) (listed:Array Bool) (a:Act) (w:World),Inv P ops cl N τ0 pre r vals slot H HL listed→stC ops cl pre rest=true→sS P KT sm N τ0 r (stg ops rest) (frP ops τ0 pre vals) H K→
      R c (frP ops τ0 (pre.filter fun j=>listed.getD j false) vals) HL [] a w→(∀i,i<ops.length→lsd listed i)→Q .normal a w:=by
    intro pre rest r vals slot H HL listed a w v hst hrun hR hall
    have hrest:rest=[]:=by
      cases rest with
      |nil=>rfl
      |cons q l=>
        obtain⟨i,chk⟩:=q
        exfalso
        simp only[stC,qar,qax,Bool.not_eq_true',List.contains_eq_mem,decide_eq_false_iff_not]at hst
        exact hst.1.1.1.2 (v.sub i (hall i hst.1.1.2))
    subst hrest
    have e1:frP ops τ0 (pre.filter fun j=>listed.getD j false) vals=frP ops τ0 pre vals:=by
      rw[List.filter_eq_self.2 fun j hj=>hall j (v.lt j hj)]
    have e2:HL=H:=List.ext_getElem? fun id=>v.m2 id fun i hi _ hu=>absurd (hall i (v.lt i hi)) hu
    rw[e1,e2]at hR
    exact hK _ _ a w hrun hR
  intro fuel
  induction fuel with
  |zero=>
    intro rem pre rest r vals slot H HL listed a w hrl hrem hsz hcl v hst hrun hcov hhd hR
    have hr0:rem=[]:=List.eq_nil_of_length_eq_zero hrl
    have hall:∀i,i<ops.length→lsd listed i:=fun i hi=>Classical.byContradiction fun h=>by have:=hrem i hi h;rw[hr0]at this;cases this
    refine⟨List.eq_nil_iff_forall_not_mem.2 fun i hi=>?_,fin pre rest r vals slot H HL listed a w v hst hrun hR hall⟩
    obtain⟨h1,h2,_⟩:=k.ready hcl hi
    have:=hall i h1
    unfold lsd at this
    rw[zgt this]at h2;cases h2
  |succ fuel ih=>
    intro rem pre rest r vals slot H HL listed a w hrl hrem hsz hcl v hst hrun hcov hhd hR
    refine⟨fun h0=>fin pre rest r vals slot H HL listed a w v hst hrun hR fun i hi=>k.all hsz h0 (i+1) i (by omega) hi,fun i hi=>?_⟩
    obtain⟨hlt,hun,hclos⟩:=k.ready hcl hi
    have hnl:¬lsd listed i:=fun h=>by unfold lsd at h;rw[zgt h]at hun;cases hun
    have hsi:i<listed.size:=by omega
    have hoi:ops[i]? =some (ops.getD i op0):=by rw[qal hlt,qai,qal hlt];rfl
    have hg:(ops.getD i op0).guard=none:=k.gd i _ hoi
    obtain⟨pl,hR⟩:=hR
    have hw:Region.wanted (ops.getD i op0) (yielded ops.toArray a.tmps)=true:=zic hR (b:=true) (zrh hg)
    have hdo:∀d,(ops.getD i op0).dst=some d→d<c.nt:=fun d e=>by
      have:=qay.1 hd _ (List.mem_of_getElem? hoi)
      rw[e]at this;simpa using((qar _ _).mp this).1
    have hnd:jmb (ops.getD i op0).op=true:=by
      have:=qay.1 hd _ (List.mem_of_getElem? hoi)
      exact((qar _ _).mp this).2
    have hmem:i∈rem:=hrem i hlt hnl
    have hrem':∀j,j<ops.length→¬lsd (listed.setIfInBounds i true) j→j∈rem.erase i:=fun j hj hu=>by
      have:j≠i:=fun e=>hu ((zem hsi).2 (.inl e))
      exact(List.mem_erase_of_ne this).2 (hrem j hj fun h=>hu ((zem hsi).2 (.inr h)))
    have hlen':(rem.erase i).length=fuel:=by rw[List.length_erase_of_mem hmem];omega
    have hsz':(listed.setIfInBounds i true).size=ops.length:=by simpa using hsz
    have hcl':=hcl.set hi
    -- what a listed operation hangs on is listed
    have hback:∀j∈pre,lsd listed j→∀q∈clN cl j,lsd listed q:=fun j hj hl=>k.closed hcl (j+1) j (by omega) (v.lt j hj) fun d hd=>by
      have hjl:=v.lt j hj
      unfold wtO at hd
      obtain⟨e,he,rfl⟩:=qat.1 hd
      obtain⟨h1,h2⟩:=List.mem_filter.1 he
      rw[qai,qal hjl]at h1
      exact hcl j ops[j] (qal hjl) hl e (by simpa using h1) h2
    have hltL:∀j∈pre.filter (fun j=>listed.getD j false),j<ops.length:=fun j hj=>v.lt j (mem_fil.1 hj).1
    unfold wpOpIn
    rw[List.getElem?_toArray,hoi]
    simp only
    rw[if_pos hw]
    by_cases hip:i∈pre
    · -- an operation that was taken early
      have hna:anc (ops.getD i op0).op=false:=by
        cases hx:anc (ops.getD i op0).op with
        |false=>rfl
        |true=>exact absurd (v.ac i hip hx) hnl
      obtain⟨hcv,hkk⟩:=jt5 hna
      have hf:=v.fact i hip hnl
      have hag:=k.agree (τ0:=τ0) hltL (vals:=vals) (vals':=vals) hlt (fun j hj=>mem_fil.2 ⟨v.cls i hip j hj,hclos j hj⟩) (fun j hj hij=>hnl (hback j (mem_fil.1 hj).1 (mem_fil.1 hj).2 i hij)) fun _ _=>rfl
      have next:∀{HL':zad} {u:Value} {w':World} {pl':List (Option (Nat × Nat))},Inv P ops cl N τ0 pre r vals slot H HL' (listed.setIfInBounds i true)→RelS c (frP ops τ0 (pre.filter fun j=>listed.getD j false) vals) HL' [] pl' a w'→Rd w' pl' (zbp c.E HL' pl') (vals i) u→
          wpAnyIn c.F 0 P .any ops.toArray Q fuel (listed.setIfInBounds i true) (a.put (ops.getD i op0).dst u) w':=fun v' h1 h2=>by
        refine ih (rem.erase i) pre rest r vals slot H _ _ _ _ hlen' hrem' hsz' hcl' v' hst hrun hcov hhd ?_
        rw[←jmt k v.lt hsi hip hnl rfl]
        exact⟨_,h1.put _ hdo h2⟩
      unfold Fact at hf
      cases hl:lays [] (ops.getD i op0)with
      |false=>
        rw[if_neg (by rw[hl];decide)]at hf
        have hq:OpQ P N HL (zaw (frP ops τ0 (pre.filter fun j=>listed.getD j false) vals)) (ops.getD i op0).op (vals i):=by
          rw[zml (P:=P) hag]
          exact zgj (fun id hid=>(v.m2 id fun j _ _ _=>by omega).symm) _ _ hf
        exact zcf c hnd (zmi hR hq fun u w' h1 h2=>next (v.list hsi hip hnl rfl (fun _ _=>rfl) fun h=>by rw[hl]at h;cases h) h1 h2)
      |true=>
        rw[if_pos hl]at hf
        obtain⟨o,ho,hall⟩:=hf
        have hfree:=v.m3 i hip hl hnl
        have hq:OpA P true (N+slot i) (zaw (frP ops τ0 (pre.filter fun j=>listed.getD j false) vals)) (ops.getD i op0).op HL [] (vals i) (HL.set (N+slot i) o) []:=by
          rw[zmm (P:=P) hag];exact hall HL
        exact zcf c hnd (zmj hR hfree (fun p hp=>by cases hp) hq fun u w' pl' h1 h2=>next (v.list hsi hip hnl (by simp) (fun id hid=>zfa (hid hl)) fun _=>by rw[List.getElem?_set_self (qag.1 hfree).1,ho]) h1 h2)
    · -- the next of those that may move things
      have hir:=(hcov i hlt).resolve_left hip
      rcases hhd with rfl|⟨q,chk,l,rfl,hanc⟩
      · cases hir
      have hst0:=hst
      simp only[stC,qar,qax,Bool.not_eq_true',List.contains_eq_mem,decide_eq_false_iff_not,qay,hanc,Bool.true_eq_false,false_or,Bool.or_eq_true]at hst
      obtain⟨⟨⟨⟨⟨s1,s2⟩,s3⟩,s4⟩,s5,s6⟩,s7⟩:=hst
      have hiq:i=q:=by
        rcases List.mem_cons.1 hir with h|h
        · exact h
        · exfalso
          obtain⟨p,hp,rfl⟩:=qat.1 h
          exact s3 (v.sub q (hclos q (s5 p hp)))
      subst hiq
      have hrun':aS P KT sm N τ0 (ops.getD i op0) (frP ops τ0 pre vals) H fun τ' H'=>reK P KT N (chk.map fun j=>ops.getD j op0) τ' H' (sS P KT sm N τ0 r (stg ops l) τ' H' K):=by
        have hh:oS P KT sm N τ0 r (ops.getD i op0) (chk.map fun j=>ops.getD j op0) (frP ops τ0 pre vals) H fun r' τ' H'=>sS P KT sm N τ0 r' (stg ops l) τ' H' K:=hrun
        unfold oS at hh
        rw[if_pos hanc]at hh
        exact hh
      have hne:∀j∈pre,j≠i:=fun j hj e=>hip (e▸hj)
      have hagS:=k.agree (τ0:=τ0) v.lt (vals:=vals) (vals':=vals) hlt s1 (fun j hj hij=>hip (v.cls j hj i hij)) fun _ _=>rfl
      have hagL:=k.agree (τ0:=τ0) hltL (vals:=vals) (vals':=vals) hlt (fun j hj=>mem_fil.2 ⟨s1 j hj,hclos j hj⟩) (fun j hj hij=>hip (v.cls j (mem_fil.1 hj).1 i hij)) fun _ _=>rfl
      have hagSL:∀y∈(ops.getD i op0).op.operands,zaw (frP ops τ0 pre vals) y=zaw (frP ops τ0 (pre.filter fun j=>listed.getD j false) vals) y:=fun y hy=>(hagS y hy).trans (hagL y hy).symm
      have unl:∀j∈pre,¬lsd listed j→anc (ops.getD j op0).op=false:=fun j hj hu=>by
        cases hx:anc (ops.getD j op0).op with
        |false=>rfl
        |true=>exact absurd (v.ac j hj hx) hu
      -- behind it
      have post:∀{x:AV} {u:Value} {H' HL':zad} {w':World} {pl':List (Option (Nat × Nat))},reK P KT N (chk.map fun j=>ops.getD j op0) ((frP ops τ0 pre vals).put (ops.getD i op0).dst x) H' (sS P KT sm N τ0 r (stg ops l) ((frP ops τ0 pre vals).put (ops.getD i op0).dst x) H' K)→
          HL'.length=H'.length→N≤H'.length→(∀id,(∀j∈pre,lays [] (ops.getD j op0)=true→¬lsd listed j→id≠N+slot j)→HL'[id]? =H'[id]?)→(∀j∈pre,lays [] (ops.getD j op0)=true→¬lsd listed j→HL'[N+slot j]? =some .free∧H'[N+slot j]? =H[N+slot j]?)→
          RelS c (frP ops τ0 (pre.filter fun j=>listed.getD j false) vals) HL' [] pl' a w'→Rd w' pl' (zbp c.E HL' pl') x u→wpAnyIn c.F 0 P .any ops.toArray Q fuel (listed.setIfInBounds i true) (a.put (ops.getD i op0).dst u) w':=by
        intro x u H' HL' w' pl' hre hln hN hm2 hm3 hR' hx
        have hput:(frP ops τ0 pre vals).put (ops.getD i op0).dst x=frP ops τ0 (pre++[i]) fun j=>if j=i then x else vals j:=by
          rw[show frP ops τ0 pre vals=frP ops τ0 pre (fun j=>if j=i then x else vals j) from funext fun t=>zlj k.ap v.lt v.lt (fun _ _=>Iff.rfl) fun j hj=>(if_neg (hne j hj)).symm]
          exact zuw k.ap v.lt hip hlt (if_pos rfl)
        rw[hput]at hre
        have hpreL:∀j∈pre++[i],j<ops.length:=fun j hj=>by
          rcases qas.1 hj with h|h
          · exact v.lt j h
          · rw[qau.1 h];exact hlt
        have hchk:∀o∈chk.map (fun j=>ops.getD j op0),o.guard=none:=fun o ho=>by
          obtain⟨j,_,rfl⟩:=qat.1 ho
          by_cases hjl:j<ops.length
          · exact k.gd j _ (by rw[qal hjl,qai,qal hjl];rfl)
          · rw[qai,List.getElem?_eq_none (by omega)];rfl
        obtain⟨hrun2,hfacts⟩:=jbm hKT hchk hre
        have cases':∀j,j∈pre++[i]→j∈pre∨j=i:=fun j hj=>by simpa using hj
        have v':Inv P ops cl N τ0 (pre++[i]) r (fun j=>if j=i then x else vals j) slot H' HL' (listed.setIfInBounds i true):=by
          have un:∀{j},¬lsd (listed.setIfInBounds i true) j→j≠i∧¬lsd listed j:=fun{j} h=>⟨fun e=>h ((zem hsi).2 (.inl e)),fun e=>h ((zem hsi).2 (.inr e))⟩
          refine⟨hpreL,fun j hj q hq=>?_,fun j hj=>?_,fun j hj ha=>?_,fun j hj hu=>?_,fun j hj hl hja=>?_,fun p hp q hq lp ap lq aq he=>?_,hln,hN,fun id hid=>?_,fun j hj hl hu=>?_⟩
          · rcases cases' j hj with h|rfl
            · exact List.mem_append_left _ (v.cls j h q hq)
            · exact List.mem_append_left _ (s1 q hq)
          · rcases(zem hsi).1 hj with rfl|h
            · simp
            · exact List.mem_append_left _ (v.sub j h)
          · rcases cases' j hj with h|rfl
            · exact(zem hsi).2 (.inr (v.ac j h ha))
            · exact(zem hsi).2 (.inl rfl)
          · obtain⟨hji,hu'⟩:=un hu
            have hjp:=(cases' j hj).resolve_right hji
            have hlts:∀q∈clN cl j,q<ops.length:=fun q hq=>v.lt q (v.cls j hjp q hq)
            refine Fact.keep k.ap hlts (fun q hq=>(if_neg (hne q (v.cls j hjp q hq))).symm) (if_neg hji).symm rfl (fun hl=>(hm3 j hjp hl hu').2.symm) (fun hl hq=>?_) (v.fact j hjp hu')
            rcases s6 j hjp with((h|h)|⟨h,_⟩)|⟨⟨h,_⟩,hstr⟩
            · exact absurd (hclos j h) hu'
            · exact zjl h _ _ _ hq
            · rw[hl]at h;cases h
            · obtain⟨_,hkk⟩:=jt5 (unl j hjp hu')
              have h0:kOf [] (ops.getD j op0).op=0:=by
                rcases hkk with h0|h0
                · exact h0
                · unfold lays at hl;rw[h0]at hl;cases hl
              obtain⟨d,hd',hqq⟩:=hfacts _ (qat.2 ⟨j,h,rfl⟩) h0
              rw[zn2 k.ap hpreL hj hd',if_neg hji]at hqq
              rw[←zml (P:=P) (zwr k.ap hpreL (vals:=fun j=>if j=i then x else vals j) (fun q hq=>List.mem_append_left _ (v.cls j hjp q hq)) hstr fun q hq=>if_neg (hne q (v.cls j hjp q hq)))]
              exact hqq
          · rcases cases' j hj with h|rfl
            · exact v.slt j h hl hja
            · rw[hanc]at hja;cases hja
          · rcases cases' p hp with h1|h1
            · rcases cases' q hq with h2|h2
              · exact v.inj p h1 q h2 lp ap lq aq he
              · rw[h2,hanc]at aq;cases aq
            · rw[h1,hanc]at ap;cases ap
          · exact hm2 id fun j hj hl hu=>hid j (List.mem_append_left _ hj) hl fun h=>by
              rcases(zem hsi).1 h with h|h
              · exact hne j hj h
              · exact hu h
          · obtain⟨hji,hu'⟩:=un hu
            exact(hm3 j ((cases' j hj).resolve_right hji) hl hu').1
        obtain⟨pre2,rest2,r2,zxt,slot2,H2,a1,a2,a3,a4,a5,a6⟩:=Inv.advance k hKT l (pre++[i]) r _ slot H' v' s7 hrun2
        refine ih (rem.erase i) pre2 rest2 r2 zxt slot2 H2 HL' _ _ _ hlen' hrem' hsz' hcl' a1 a2 a3 (fun j hj=>a5 j ?_) a6 ?_
        · rcases hcov j hj with h|h
          · exact .inl (List.mem_append_left _ h)
          · rcases List.mem_cons.1 h with h|h
            · exact .inl (by rw[h];simp)
            · exact .inr h
        · have e:frP ops τ0 (pre2.filter fun j=>(listed.setIfInBounds i true).getD j false) zxt=(frP ops τ0 (pre.filter fun j=>listed.getD j false) vals).put (ops.getD i op0).dst x:=by
            have e1:frP ops τ0 (pre.filter fun j=>listed.getD j false) vals=frP ops τ0 (pre.filter fun j=>listed.getD j false) (fun j=>if j=i then x else vals j):=funext fun t=>zlj k.ap hltL hltL (fun _ _=>Iff.rfl) fun j hj=>(if_neg (hne j (mem_fil.1 hj).1)).symm
            rw[e1,show(ops.getD i op0).dst=dsO ops i from rfl,zuw k.ap hltL (fun h=>hip (mem_fil.1 h).1) hlt (if_pos rfl)]
            have hl2:∀j∈pre.filter (fun j=>listed.getD j false)++[i],j∈pre++[i]:=fun j hj=>by
              rcases qas.1 hj with h|h
              · exact List.mem_append_left _ (mem_fil.1 h).1
              · exact List.mem_append_right _ h
            refine(funext fun t=>zlj k.ap (fun j hj=>hpreL j (hl2 j hj)) (fun j hj=>a1.lt j (mem_fil.1 hj).1) (fun j _=>?_) fun j hj=>((a4 j (hl2 j hj)).2).symm).symm
            rw[mem_fil,qas,mem_fil,qau,zem hsi]
            constructor
            · rintro(⟨h1,h2⟩|rfl)
              · exact⟨(a4 j (List.mem_append_left _ h1)).1,.inr h2⟩
              · exact⟨(a4 j (by simp)).1,.inl rfl⟩
            · rintro⟨h1,rfl|h2⟩
              · exact .inr rfl
              · exact .inl ⟨v.sub j h2,h2⟩
          rw[e]
          exact⟨_,hR'.put _ hdo hx⟩
      unfold aS at hrun'
      cases hcv:zdp (ops.getD i op0).op with
      |true=>
        rw[if_pos hcv]at hrun'
        split at hrun'
        · rename_i f args ts eop
          have hop:∀y,y=f∨y∈args.toList→zaw (frP ops τ0 pre vals) y=zaw (frP ops τ0 (pre.filter fun j=>listed.getD j false) vals) y:=fun y hy=>hagSL y (by
            rw[eop]
            rcases hy with rfl|hy
            · simp[Op.operands,Call.operands]
            · exact zmk hy)
          have hargs:args.toList.map (zaw (frP ops τ0 pre vals))=args.toList.map (zaw (frP ops τ0 (pre.filter fun j=>listed.getD j false) vals)):=List.map_congr_left fun y hy=>hop y (.inr hy)
          rw[hop f (.inl rfl),hargs]at hrun'
          rcases hrun' with⟨x,hq,hkk⟩|⟨n,fi,ca,hcal,hrel⟩
          · have hq':OpQ P N HL (zaw (frP ops τ0 (pre.filter fun j=>listed.getD j false) vals)) (ops.getD i op0).op x:=by
              rw[eop]
              refine zgj (H:=H) (fun id hid=>(v.m2 id fun j _ _ _=>by omega).symm) _ _ ?_
              exact hq
            exact zcf c hnd (zmi hR hq' fun u w' h1 h2=>post hkk v.len v.nle v.m2 (fun j hj hl hu=>⟨v.m3 j hj hl hu,rfl⟩) h1 h2)
          · have hin:jyd P sm (ops.getD i op0).op (frP ops τ0 (pre.filter fun j=>listed.getD j false) vals) HL fun x HL'=>∃H',reK P KT N (chk.map fun j=>ops.getD j op0) ((frP ops τ0 pre vals).put (ops.getD i op0).dst x) H' (sS P KT sm N τ0 r (stg ops l) ((frP ops τ0 pre vals).put (ops.getD i op0).dst x) H' K)∧
                HL'.length=H'.length∧N≤H'.length∧(∀id,(∀j∈pre,lays [] (ops.getD j op0)=true→¬lsd listed j→id≠N+slot j)→HL'[id]? =H'[id]?)∧(∀j∈pre,lays [] (ops.getD j op0)=true→¬lsd listed j→HL'[N+slot j]? =some .free∧H'[N+slot j]? =H[N+slot j]?):=by
              rw[eop]
              refine .inl ⟨n,fi,ca,hcal,?_⟩
              rcases hrel with⟨ds,Qr,g1,g2,g3⟩|⟨m,S,T,K0,e1,e2,e3,e4,e5,e6,e7,e8,e9,e10⟩
              · exact .inr (.inl ⟨ds,Qr,g1,g2,fun x hx=>⟨H,g3 x hx,v.len,v.nle,v.m2,fun j hj hl hu=>⟨v.m3 j hj hl hu,rfl⟩⟩⟩)
              · subst e1
                have hlS:S.length≤HL.length:=by rw[v.len,List.length_append];omega
                have hlow:∀id,id<S.length→HL[id]? =S[id]? :=fun id hid=>by
                  rw[v.m2 id fun j _ _ _=>by omega,qaj hid]
                have hHL:HL=S++HL.drop S.length:=by
                  conv=>lhs;rw[←List.take_append_drop S.length HL]
                  congr 1
                  refine List.ext_getElem? fun id=>?_
                  by_cases hid:id<S.length
                  · rw[List.getElem?_take_of_lt hid,hlow id hid]
                  · rw[List.getElem?_eq_none (by simp;omega),List.getElem?_eq_none (by omega)]
                have hfree:∀id,HL[id]? =(S++T)[id]? ∨HL[id]? =some AObj.free:=fun id=>by
                  by_cases h:∀j∈pre,lays [] (ops.getD j op0)=true→¬lsd listed j→id≠N+slot j
                  · exact .inl (v.m2 id h)
                  · simp only[Classical.not_forall,Classical.not_imp,Decidable.not_not]at h
                    obtain⟨j,hj,hl,hu,rfl⟩:=h
                    exact .inr (v.m3 j hj hl hu)
                refine .inr (.inr ⟨m,S,HL.drop S.length,K0,hHL,e3,?_,e6,e7,fun o ho=>?_,e9,fun x S' hx=>?_⟩)
                · intro t
                  by_cases hex:∃j∈pre.filter (fun j=>listed.getD j false),dsO ops j=some t
                  · obtain⟨j,hj,ht⟩:=hex
                    rw[zn2 k.ap hltL hj ht,←zn2 (τ0:=τ0) (vals:=vals) k.ap v.lt (mem_fil.1 hj).1 ht]
                    exact e4 t
                  · rw[jis fun j hj ht=>hex ⟨j,hj,ht⟩];exact e5 t
                · obtain⟨q,hq⟩:=List.getElem?_of_mem ho
                  rw[List.getElem?_drop]at hq
                  rcases hfree (S.length+q)with h|h
                  · rw[h,qak (by omega),Nat.add_sub_cancel_left]at hq
                    exact e8 o (List.mem_of_getElem? hq)
                  · rw[h]at hq;cases hq;rfl
                · obtain⟨f1,f2⟩:=e10 x S' hx
                  have hup:∀(A:zad) (id:Nat),S.length≤id→(S'++A)[id]? =(S++A)[id]? :=fun A id hid=>by
                    rw[qak (by omega),qak hid,f1]
                  refine⟨f1,S'++T,f2,?_,?_,fun id hid=>?_,fun j hj hl hu=>⟨?_,hup T _ (by omega)⟩⟩
                  · have:=v.len;simp only[List.length_append,List.length_drop]at this ⊢;omega
                  · have:=v.nle;simp only[List.length_append]at this ⊢;omega
                  · by_cases hlt':id<S.length
                    · rw[qaj (by omega),qaj (by omega)]
                    · rw[hup _ _ (by omega),hup _ _ (by omega),←hHL]
                      exact v.m2 id hid
                  · rw[hup _ _ (by omega),←hHL];exact v.m3 j hj hl hu
            exact zsy hsm hR hin fun x u HL' w' pl' ⟨H',b1,b2,b3,b4,b5⟩ h1 h2=>post b1 b2 b3 b4 b5 h1 h2
        · exact hrun'.elim
      |false=>
        rw[if_neg (by rw[hcv];decide)]at hrun'
        have hno:∀j∈pre,lays [] (ops.getD j op0)=true→lsd listed j:=fun j hj hl=>by
          rcases s6 j hj with((h|h)|⟨_,h⟩)|⟨⟨_,h⟩,_⟩
          · exact hclos j h
          · exfalso
            have hkk:kOf [] (ops.getD j op0).op=1∨kOf [] (ops.getD j op0).op=3:=by
              unfold lays at hl;simpa using hl
            rw[jt6 h]at hkk
            rcases hkk with h|h<;>cases h
          · rw[hcv]at h;cases h
          · rw[hl]at h;cases h
        have heq:HL=H:=List.ext_getElem? fun id=>v.m2 id fun j hj hl hu=>absurd (hno j hj hl) hu
        subst heq
        have fin2:∀{x:AV} {u:Value} {H':zad} {w':World} {pl':List (Option (Nat × Nat))},reK P KT N (chk.map fun j=>ops.getD j op0) ((frP ops τ0 pre vals).put (ops.getD i op0).dst x) H' (sS P KT sm N τ0 r (stg ops l) ((frP ops τ0 pre vals).put (ops.getD i op0).dst x) H' K)→N≤H'.length→
            RelS c (frP ops τ0 (pre.filter fun j=>listed.getD j false) vals) H' [] pl' a w'→Rd w' pl' (zbp c.E H' pl') x u→wpAnyIn c.F 0 P .any ops.toArray Q fuel (listed.setIfInBounds i true) (a.put (ops.getD i op0).dst u) w':=fun h hN h1 h2=>
          post h rfl hN (fun _ _=>rfl) (fun j hj hl hu=>absurd (hno j hj hl) hu) h1 h2
        obtain⟨b,hb,ht,_⟩:=zmq hrun'
        have hbt:b=true:=by rw[zrh hg]at hb;cases hb;rfl
        have hT:=ht hbt
        have hkc:kOf [] (ops.getD i op0).op=2∨kOf [] (ops.getD i op0).op=3∨kOf [] (ops.getD i op0).op=4:=by
          unfold anc at hanc
          simp only[hcv,Bool.false_or,Bool.or_eq_true,beq_iff_eq]at hanc
          rcases hanc with(h|h)|h
          · exact .inl h
          · exact .inr (.inl h)
          · exact .inr (.inr h)
        unfold cT at hT
        rcases hkc with hk2|hk3|hk4
        · simp only[hk2]at hT
          split at hT
          · rename_i t p y eop
            obtain⟨H1,hH,hh⟩:=hT
            have hq:=zjm hH
            rw[←eop,zv5 (P:=P) hagSL]at hq
            have hln:H1.length=HL.length:=by
              obtain⟨id,o,cs,_,_,rfl,_⟩:=zyw hq
              simp
            exact zcf c hnd (zq4 hR hq fun w' pl' h1=>fin2 hh (hln▸v.nle) h1 (.d _ _ (.val _)))
          · exact hT.elim
        · simp only[hk3]at hT
          obtain⟨⟨x,ob,dd⟩,hl,hh⟩:=hT
          obtain⟨x',H1,hq,hh',hln⟩:=zum hl (K:=fun x H'=>reK P KT N (chk.map fun j=>ops.getD j op0) ((frP ops τ0 pre vals).put (ops.getD i op0).dst x) H' (sS P KT sm N τ0 r (stg ops l) ((frP ops τ0 pre vals).put (ops.getD i op0).dst x) H' K)∧N≤H'.length) ⟨hh,by
            have:=v.nle
            cases dd<;>simp[deadH]<;>omega⟩
          rw[zmm (P:=P) hagSL]at hq
          exact zcf c hnd (zmj hR.reserve (by rw[qak (qao _)];simp) (fun p hp=>by cases hp) hq fun u w' pl' h1 h2=>fin2 hh' hln h1 h2)
        · simp only[hk4]at hT
          obtain⟨⟨x,H1⟩,hp,hh⟩:=hT
          have hq:=zrd hKT hp
          have hln:=jt7 hq
          rw[zv6 (P:=P) hagSL]at hq
          exact zcf c hnd (zq2 hR hq fun u w' h1 h2=>fin2 hh (hln▸v.nle) h1 h2)
end
end
section
section
variable {P:Program} {KT:TypeId→Bool} {c:Cx} {τ:Fr} {H:zad} {Q:Exit→Fr→zad→Prop}
theorem zmu{sm:List Nat}(hKT:∀k,KT k=true→Maps.Keyed P k)(hc0:Kp c sm){id:Nat}{l:List Oper}{n:Nat}(hn:c.nt=n)(hm:P.follows .mixedOrders=true)(hd:zgi n l=true)(st:List (Nat × List Nat))(cl:List (List Nat))(q:Nat)(hC:chC l cl st=true)
  (h:∀K:Fr→zad→Prop,(∀τ H,Q .normal τ H→K τ H)→sS P KT sm H.length τ 0 (stg l st) τ (H++List.replicate q .free) K):AWp P c (.region id l.toArray true) Q τ H:=fun a w hR=>by
 refine wpIn_region_any hm ?_
 obtain⟨k,hst,hlen⟩:=Ck.of hC
 have hR':R c τ (H++List.replicate q .free) [] a {w with drawn:=w.drawn+1}:=R.reserve _ _ (by obtain⟨pl,h⟩:=hR;exact⟨pl,h.drew⟩)
 have hnl:∀j,¬lsd (Array.replicate l.length false) j:=fun j h=>by
  by_cases hj:j<l.length<;>simp[lsd,Array.getD,hj]at h
 have v:Inv P l cl H.length τ [] 0 (fun _=>.any) (fun _=>0) (H++List.replicate q .free) (H++List.replicate q .free) (Array.replicate l.length false):=
  ⟨fun i hi=>(by cases hi),fun i hi=>(by cases hi),fun i hi=>absurd hi (hnl i),fun i hi=>(by cases hi),fun i hi=>(by cases hi),fun i hi=>(by cases hi),fun i hi=>(by cases hi),rfl,by simp,fun _ _=>rfl,fun i hi=>(by cases hi)⟩
 have hcl:Closed l (Array.replicate l.length false):=fun j o _ hj=>absurd hj (hnl j)
 obtain⟨pre2,rest2,r2,zxt,slot2,H2,a1,a2,a3,a4,a5,a6⟩:=Inv.advance (sm:=sm) k hKT st [] 0 _ _ _ v hst (h (Q .normal) fun _ _ h=>h)
 have:=jit (c:=c) (P:=P) k hKT (hn▸hd) hc0 (K:=Q .normal) (Q:=fun e a' w'=>∃τ' H',R c τ' H' [] a' w'∧Q e τ' H') (fun τ' H' a' w' hk hr=>⟨τ',H',hr,hk⟩) l.length (List.range l.length) pre2 rest2 r2 zxt slot2 H2 _ (Array.replicate l.length false) a {w with drawn:=w.drawn+1} (by simp) (fun i hi _=>qaq.2 hi) (by simp) hcl a1 a2 a3
  (fun i hi=>a5 i (.inr (hlen i hi))) a6 (by
   have e:pre2.filter (fun j=>(Array.replicate l.length false).getD j false)=[]:=List.filter_eq_nil_iff.2 fun j _=>hnl j
   rw[e];exact hR')
 simpa using this
theorem zbc{sm:List Nat}(hKT:∀k,KT k=true→Maps.Keyed P k)(hc0:Kp c sm){id:Nat}{l:List Oper}{y:Code}{n:Nat}(hn:c.nt=n)(hm:P.follows .mixedOrders=true)(hd:zgi n l=true)(st:List (Nat × List Nat))(cl:List (List Nat))(q:Nat)(hC:chC l cl st=true)
  (h:∀K:Fr→zad→Prop,(∀τ H,AWp P c y Q τ H→K τ H)→sS P KT sm H.length τ 0 (stg l st) τ (H++List.replicate q .free) K):AWp P c (.seq (.region id l.toArray true) y) Q τ H:=
 znz (zmu hKT hc0 hn hm hd st cl q hC fun K hK=>h K fun τ H hh=>hK τ H hh)
end
section
variable {P:Program} {KT:TypeId→Bool} {sm:List Nat} {l:List (Oper × List Oper)} {chk:List Oper} {τ τ0:Fr} {H:zad} {N r e:Nat} {d:Option Tmp} {ty:TypeId} {pos:String} {af:Array Edge} {K:Fr→zad→Prop}
def rT{K:Prop}(P:Program)(KT:TypeId→Bool)(N:Nat)(chk:List Oper)(τ:Fr)(H:zad)(_:Tg K):Prop:=reK P KT N chk τ H K
theorem jp8{K:Prop}:rT P KT N [] τ H (tg K)=K:=rfl
theorem jiu{K:Prop}{t:TypeId}{y:Operand}:rT P KT N (⟨some e,.load t y,ty,pos,af,none⟩::chk) τ H (tg K)=(oK (loadF P N H t (zaw τ y))<|tg fun x=>x=τ e∧rT P KT N chk τ H (tg K)):=by
 have h:(fun x=>(τ.put (some e) x) e=τ e∧reK P KT N chk τ H K)=fun x=>x=τ e∧reK P KT N chk τ H K:=funext fun x=>by simp only[Fr.put,if_true]
 exact congrArg (zx3 (loadF P N H t (zaw τ y))) h
theorem zws{K:Prop}{t:TypeId}{y z:Operand}{ok:Bool}:rT P KT N (⟨some e,.lookup t y z ok,ty,pos,af,none⟩::chk) τ H (tg K)=(oK (zid P N H KT t (zaw τ y) (zaw τ z) ok)<|tg fun x=>x=τ e∧rT P KT N chk τ H (tg K)):=by
 have h:(fun x=>(τ.put (some e) x) e=τ e∧reK P KT N chk τ H K)=fun x=>x=τ e∧reK P KT N chk τ H K:=funext fun x=>by simp only[Fr.put,if_true]
 exact congrArg (zx3 (zid P N H KT t (zaw τ y) (zaw τ z) ok)) h
theorem jiv{ops:List Oper}:stg ops []=[]:=rfl
theorem jbn{ops:List Oper}{i:Nat}{c:List Nat}{st:List (Nat × List Nat)}:stg ops ((i,c)::st)=(ops.getD i op0,c.map fun j=>ops.getD j op0)::stg ops st:=rfl
theorem jp9:sS P KT sm N τ0 r [] τ H K=K τ H:=rfl
theorem jiw{y:Operand}:sS P KT sm N τ0 r ((⟨d,.move y,ty,pos,af,none⟩,chk)::l) τ H K=(sS P KT sm N τ0 r l (τ.put d (zaw τ y)) H K):=by simp[sS,oS,anc,sE,zc2,GK,cE,kOf,zdp,opF,zea,lays]
theorem zwt{y:Operand}:sS P KT sm N τ0 r ((⟨d,.assign y,ty,pos,af,none⟩,chk)::l) τ H K=(sS P KT sm N τ0 r l (τ.put d (zaw τ y)) H K):=by simp[sS,oS,anc,sE,zc2,GK,cE,kOf,zdp,opF,zea,lays]
theorem jix{t:TypeId}{y:Operand}:sS P KT sm N τ0 r ((⟨d,.load t y,ty,pos,af,none⟩,chk)::l) τ H K=(oK (loadF P N H t (zaw τ y))<|tg fun x=>sS P KT sm N τ0 r l (τ.put d x) H K):=rfl
theorem jzu{t:TypeId}{y:Operand}{f:Nat}:sS P KT sm N τ0 r ((⟨d,.fieldAddr t y f,ty,pos,af,none⟩,chk)::l) τ H K=(oK (fieldAddrF P t f (zaw τ y))<|tg fun x=>sS P KT sm N τ0 r l (τ.put d x) H K):=rfl
theorem jzv{t:TypeId}{y z:Operand}:sS P KT sm N τ0 r ((⟨d,.indexAddr t y z,ty,pos,af,none⟩,chk)::l) τ H K=(oK (indexAddrF P t (zaw τ y) (zaw τ z))<|tg fun x=>sS P KT sm N τ0 r l (τ.put d x) H K):=rfl
theorem jqa{op:BinOp}{t t':TypeId}{y z:Operand}:sS P KT sm N τ0 r ((⟨d,.binOp op t y z t',ty,pos,af,none⟩,chk)::l) τ H K=(oK (zwa P op t (zaw τ y) (zaw τ z))<|tg fun x=>sS P KT sm N τ0 r l (τ.put d x) H K):=rfl
theorem jiy{s t:TypeId}{y:Operand}:sS P KT sm N τ0 r ((⟨d,.convert s t y,ty,pos,af,none⟩,chk)::l) τ H K=(oK (convF P s t (zaw τ y))<|tg fun x=>sS P KT sm N τ0 r l (τ.put d x) H K):=rfl
theorem jbo{t:TypeId}{ps:Array (Nat × Operand)}:sS P KT sm N τ0 r ((⟨d,.build t ps,ty,pos,af,none⟩,chk)::l) τ H K=(oK (buildF P t (ps.toList.map fun p=>(p.1,zaw τ p.2)))<|tg fun x=>sS P KT sm N τ0 r l (τ.put d x) H K):=rfl
theorem ztd{y:Operand}{ix:Nat}:sS P KT sm N τ0 r ((⟨d,.extract y ix,ty,pos,af,none⟩,chk)::l) τ H K=(oK (match zaw τ y with| .tup vs=>vs[ix]? |_=>none)<|tg fun x=>sS P KT sm N τ0 r l (τ.put d x) H K):=rfl
theorem jiz{y:Operand}:sS P KT sm N τ0 r ((⟨d,.nilCheck y,ty,pos,af,none⟩,chk)::l) τ H K=(oK (if nilOk (zaw τ y)then some (zaw τ y)else none)<|tg fun x=>sS P KT sm N τ0 r l (τ.put d x) H K):=rfl
theorem zwu{t:TypeId}{y z:Operand}{ok:Bool}:sS P KT sm N τ0 r ((⟨d,.lookup t y z ok,ty,pos,af,none⟩,chk)::l) τ H K=(oK (zid P N H KT t (zaw τ y) (zaw τ z) ok)<|tg fun x=>sS P KT sm N τ0 r l (τ.put d x) H K):=rfl
theorem jzw{fn:Fn}{fi ca:Array Operand}:sS P KT sm N τ0 r ((⟨d,.makeFunc fn fi ca,ty,pos,af,none⟩,chk)::l) τ H K=(sS P KT sm N τ0 r l (τ.put d (.clo fn (fi.toList.map (zaw τ)) (ca.toList.map (zaw τ)))) H K):=by simp[sS,oS,anc,sE,zc2,GK,cE,kOf,zdp,opF,zea,lays]
theorem jqb{args:Array Operand}{ts:Array TypeId}:sS P KT sm N τ0 r ((⟨d,.call ⟨.builtin .len,args,ts⟩,ty,pos,af,none⟩,chk)::l) τ H K=(oK (builtinF P .len ts.toList (args.toList.map (zaw τ)))<|tg fun x=>sS P KT sm N τ0 r l (τ.put d x) H K):=rfl
theorem jqc{args:Array Operand}{ts:Array TypeId}:sS P KT sm N τ0 r ((⟨d,.call ⟨.builtin .min,args,ts⟩,ty,pos,af,none⟩,chk)::l) τ H K=(oK (builtinF P .min ts.toList (args.toList.map (zaw τ)))<|tg fun x=>sS P KT sm N τ0 r l (τ.put d x) H K):=rfl
theorem jbp{f:FuncId}{args:Array Operand}{ts:Array TypeId}:sS P KT sm N τ0 r ((⟨d,.call ⟨.value (.func f),args,ts⟩,ty,pos,af,none⟩,chk)::l) τ H K=(kE P sm N τ0 τ H ((zaw τ (.func f))) (args.toList.map (zaw τ))<|tg fun x H'=>rT P KT N chk (τ.put d x) H' (tg (sS P KT sm N τ0 r l (τ.put d x) H' K))):=rfl
theorem jbq{f:Nat}{args:Array Operand}{ts:Array TypeId}:sS P KT sm N τ0 r ((⟨d,.call ⟨.value (.tmp f),args,ts⟩,ty,pos,af,none⟩,chk)::l) τ H K=(kE P sm N τ0 τ H ((zaw τ (.tmp f))) (args.toList.map (zaw τ))<|tg fun x H'=>rT P KT N chk (τ.put d x) H' (tg (sS P KT sm N τ0 r l (τ.put d x) H' K))):=rfl
theorem jbr{t:TypeId}:sS P KT sm N τ0 r ((⟨d,.alloc t,ty,pos,af,none⟩,chk)::l) τ H K=(oK (layEF P N r [] (zaw τ) (.alloc t) H [])<|tg fun p=>sS P KT sm N τ0 (r+1) l (τ.put d p.1) p.2.1 K):=rfl
theorem ji0{t:TypeId}{y z:Operand}:sS P KT sm N τ0 r ((⟨d,.makeSlice t y z,ty,pos,af,none⟩,chk)::l) τ H K=(oK (layEF P N r [] (zaw τ) (.makeSlice t y z) H [])<|tg fun p=>sS P KT sm N τ0 (r+1) l (τ.put d p.1) p.2.1 K):=rfl
theorem jzx{t:TypeId}{n:Nat}{ps:Array (Nat × Operand)}:sS P KT sm N τ0 r ((⟨d,.buildSlice t n ps,ty,pos,af,none⟩,chk)::l) τ H K=(oK (layEF P N r [] (zaw τ) (.buildSlice t n ps) H [])<|tg fun p=>sS P KT sm N τ0 (r+1) l (τ.put d p.1) p.2.1 K):=rfl
theorem jqd{args:Array Operand}{ts:Array TypeId}:sS P KT sm N τ0 r ((⟨d,.call ⟨.builtin .append,args,ts⟩,ty,pos,af,none⟩,chk)::l) τ H K=(oK (layF P H.length (zaw τ) (.call ⟨.builtin .append,args,ts⟩) H)<|tg fun p=>rT P KT N chk (τ.put d p.1) (deadH H p.2.2++[p.2.1]) (tg (sS P KT sm N τ0 r l (τ.put d p.1) (deadH H p.2.2++[p.2.1]) K))):=rfl
theorem jbs{t:TypeId}{y z:Operand}:sS P KT sm N τ0 r ((⟨d,.store t y z,ty,pos,af,none⟩,chk)::l) τ H K=(oK (storeF P t (zaw τ y) (zaw τ z) H [] 0)<|tg fun H'=>rT P KT N chk (τ.put d (.d (.val undef))) H' (tg (sS P KT sm N τ0 r l (τ.put d (.d (.val undef))) H' K))):=rfl
theorem jzy{t:TypeId}{y z u:Operand}:sS P KT sm N τ0 r ((⟨d,.mapUpdate t y z u,ty,pos,af,none⟩,chk)::l) τ H K=(oK (zuk P KT (zaw τ) (.mapUpdate t y z u) H [])<|tg fun p=>rT P KT N chk (τ.put d p.1) p.2 (tg (sS P KT sm N τ0 r l (τ.put d p.1) p.2 K))):=rfl
theorem jzz{t:TypeId}{y z:Operand}:sS P KT sm N τ0 r ((⟨d,.mapEntry t y z,ty,pos,af,none⟩,chk)::l) τ H K=(oK (zuk P KT (zaw τ) (.mapEntry t y z) H [])<|tg fun p=>rT P KT N chk (τ.put d p.1) p.2 (tg (sS P KT sm N τ0 r l (τ.put d p.1) p.2 K))):=rfl
theorem jz0{t:TypeId}{y z u:Operand}:sS P KT sm N τ0 r ((⟨d,.entryStore t y z u,ty,pos,af,none⟩,chk)::l) τ H K=(oK (zuk P KT (zaw τ) (.entryStore t y z u) H [])<|tg fun p=>rT P KT N chk (τ.put d p.1) p.2 (tg (sS P KT sm N τ0 r l (τ.put d p.1) p.2 K))):=rfl
end
end
section
def I64(n:Int):Prop:= -9223372036854775808≤n∧n<9223372036854775808
section
variable {P:Program} {KT:TypeId→Bool} {H:zad} {ρ:Operand→AV} {N:Nat}
theorem ji1{kt:TypeId}(hu:P.underlying kt=some (.int .i64)){n:Int}(hn:I64 n):(keyOf P kt (.int .i64 n)).isSome=true:=by
 have hw:(Lit.int .i64 n).wf=true:=by
  obtain⟨h1,h2⟩:=hn
  simp[Lit.wf]
  exact⟨h1,by omega⟩
 simp[keyOf,hu,mapKey,hw]
def ygo:Option AObj→Option (List (Value × Nat × AV))
 |some (.map es _)=>some es
 |_=>none
end
end
section
section
variable {P:Program} {H:zad} {N:Nat} {sm:List Nat} {τ:Fr}
def ji2(P:Program)(f:FuncId)(ds:List D)(r:Nat→AV)(o:AObj):Prop:=
 zsd P f=true∧∀(w:World) (O:Nat→Prop) (vals:Array Value),vals.size=ds.length→(∀j x,ds[j]? =some x→RdD w O x (vals.getD j undef))→(∀b,O b→b<w.heap.size)→
  Calls P f vals w fun e w'=>∃v p,e= .returned v∧Below w.heap.size w w'∧(∀q,p=some q→w.heap.size≤q.1)∧
   ∀(pl:List (Option (Nat × Nat))) (n:Nat) (own':Nat→Prop),pl[n]? =some p→(∀b,own' b→O b∨∃k,p=some (b,k))→ObjAt w' pl own' n o∧Rd w' pl own' (r n) v
theorem jz1{f:FuncId}{xs:List AV}{ds:List D}{r:Nat→AV}{o:AObj}(hp:ji2 P f ds r o)(hd:∀(w:World) (pl:List (Option (Nat × Nat))) (own:Nat→Prop) (vals:Array Value),vals.size=xs.length→(∀j x,xs[j]? =some x→Rd w pl own x (vals.getD j undef))→vals.size=ds.length∧∀j x,ds[j]? =some x→RdD w own x (vals.getD j undef)):IcS P f xs H fun x H'=>x=r H.length∧H'=H++[o]:=by
 refine⟨hp.1,fun E w pl vals hl hx hh hE=>?_⟩
 have hR:RelS ⟨E,w,zf7 H pl,0,pl,none,w.heap.size⟩ (fun _=>.any) H [] pl {tmps:=#[],defers:=[]} w:=
  ⟨hh,Stp.refl _ _,fun id o p h1 h2 h3=>.inl ⟨id,o,p.2,h1,h2,h3⟩,hE,fun t=>.any _,rfl,Dfk.nil,fun i p hi=>hi⟩
 obtain⟨l1,l2⟩:=hd w pl (zbp E H pl) vals hl hx
 refine(hp.2 w (zbp E H pl) vals l1 l2 hR.own_lt).mono fun e w' ⟨v,p,he,hb,hq,ho⟩=>?_
 have hres:=hR.reserve
 have hlen:pl.length=H.length:=hh.len
 have hpl:(pl++[none]).set H.length p=pl++[p]:=by rw[List.set_append_right _ _ (by omega)];simp[hlen]
 have hH:(H++[AObj.free]).set H.length o=H++[o]:=by rw[List.set_append_right _ _ (qao _)];simp
 have hget:(pl++[p])[H.length]? =some p:=by rw[←hlen];simp
 have hown:∀b,zbp E (H++[.free]) (pl++[none]) b→zbp E H pl b:=fun b hb'=>by
  rcases hb' with h|⟨i,oo,k,h1,h2,h3⟩
  ·exact .inl h
  ·rcases Nat.lt_or_ge i H.length with hi|hi
   ·rw[qaj hi]at h1
    rw[qaj (by omega)]at h3
    exact .inr ⟨i,oo,k,h1,h2,h3⟩
   ·rw[qak (by omega)]at h3
    cases hk:i - pl.length<;>rw[hk]at h3<;>simp at h3
 have hl:=RelS.laid (w':=w') (n:=H.length) (o:=o) (p:=p) hres (by rw[qak (qao _)];simp) (fun p hp=>by cases hp) hb hq (fun own' hown'=>by
  rw[hpl]
  exact(ho _ _ own' hget (fun b hb'=>(hown' b hb').imp_left (hown b))).1)
 rw[hpl,hH]at hl
 obtain⟨h1,h2⟩:=hl
 refine⟨v,_,_,pl++[p],he,⟨rfl,rfl⟩,?_,h1.h,h1.stp,fun b hb'=>?_,h1.keep⟩
 ·exact(ho _ _ (zbp E (H++[o]) (pl++[p])) hget (fun b hb'=>(h2 b hb').imp_left (hown b))).2
 ·obtain⟨id,oo,k,b1,b2,b3⟩:=hb'
  exact h1.own0 id oo _ b1 b2 b3
theorem ji3{f:FuncId}{ds:List D}{r:Nat→AV}{o:AObj}{args:List AV}{KK:AV→zad→Prop}(hp:ji2 P f ds r o)(hd:args=ds.map .d)(hK:KK (r H.length) (H++[o])):kC P sm N H τ (.d (.val (.func (.func f) #[] #[]))) args true (tg KK):=by
 subst hd
 refine jpz (jz1 hp fun w pl own vals hl hx=>⟨by simpa using hl,fun j x hj=>?_⟩) fun x H' ⟨h1,h2⟩=>by rw[h1,h2];exact hK
 have:=hx j (.d x) (by rw[List.getElem?_map,hj];rfl)
 cases this with|d _ _ h=>exact h
theorem zri{fn:Func}{Q:AV→zad→Prop}{τ:Fr}{t u:Tmp}{ty:TypeId}(h:fn.results.toList=[.cell t ty,.tmp u])(hq:oK (loadF P H.length H ty (τ t)) (tg fun x=>Q (.tup [x,τ u]) H)):zgs P fn Q .ret τ H:=by
 obtain⟨x,h1,h2⟩:=hq
 show zsw P τ H fn.results.toList _
 rw[h];exact⟨x,zg8 h1,h2⟩
end
end
section
abbrev Mp:=List (Value × Nat × Value) × Nat
def mE(s:List (Value × Nat × Value)):List (Value × Nat × AV):=s.map fun e=>(e.1,e.2.1,.d (.val e.2.2))
def mO(μ:Mp):AObj:=.map (mE μ.1) μ.2
def mD(μ:Mp):D:=.mp μ.1 μ.2
def fiM(k:Value)(s:List (Value × Nat × Value)):Option Nat:=s.findIdx? fun e=>vEq e.1 k
def zl2(k:Value)(μ:Mp):Option Value:=(μ.1.find? fun e=>vEq e.1 k).map (·.2.2)
def zp8(k v:Value)(μ:Mp):Mp:=match fiM k μ.1 with
  |some i=>(μ.1.modify i fun q=>(q.1,q.2.1,v),μ.2)
  |none=>(μ.1++[(k,μ.2,v)],μ.2+1)
section
variable {P:Program} {KT:TypeId→Bool} {H:zad} {ρ:Operand→AV} {N:Nat}
def mtB(P:Program)(KT:TypeId→Bool)(t:TypeId):Option Value:=match zj6 P t with
  |some (kt,et)=>if KT kt then(match zvO P et with|some (.d (.val z))=>some z|_=>none)else none
  |none=>none
def zk8(P:Program)(t:TypeId)(k:Value):Prop:=znq k=true∧∀kt et,zj6 P t=some (kt,et)→(keyOf P kt k).isSome=true
structure OkM (P:Program) (t:TypeId) (μ:Mp):Prop where
  keys:∀e∈μ.1,zk8 P t e.1
  born:∀e∈μ.1,e.2.1<μ.2
theorem OkM.nil(t:TypeId)(n:Nat):OkM P t ([],n):=⟨fun e he=>(by cases he),fun e he=>(by cases he)⟩
theorem zux{k:Value}{s:List (Value × Nat × Value)}(hk:znq k=true):fiM k s=none↔∀e∈s,e.1≠k:=by
  unfold fiM
  rw[List.findIdx?_eq_none_iff]
  constructor
  · intro h e he hek
    have:=h e he
    rw[(zqx hk).2 hek]at this;cases this
  · intro h e he
    cases hv:vEq e.1 k with
    |false=>rfl
    |true=>exact absurd ((zqx hk).1 hv) (h e he)
theorem zrj{k:Value}{μ:Mp}(hk:znq k=true):zl2 k μ=none↔∀e∈μ.1,e.1≠k:=by
  unfold zl2
  rw[Option.map_eq_none_iff,List.find?_eq_none]
  constructor
  · intro h e he hek
    exact h e he ((zqx hk).2 hek)
  · intro h e he hv
    exact h e he ((zqx hk).1 hv)
theorem zn3(k:Value):∀(s:List (Value × Nat × Value)) (i:Nat),zek k (mE s) i=(s.findIdx? fun e=>vEq e.1 k).map fun j=>(i+j,.d (.val (s.getD j (undef,0,undef)).2.2))
  |[],i=>rfl
  |p::s,i=>by
    show(if vEq p.1 k then _ else _)=_
    rw[List.findIdx?_cons]
    by_cases hp:vEq p.1 k
    · simp[hp]
    · simp only[hp,Bool.false_eq_true,if_false,Option.map_map]
      have ih:=zn3 k s (i+1)
      unfold mE at ih
      rw[ih]
      congr 1
      funext j
      simp only[Function.comp,List.getD_cons_succ]
      rw[show i+1+j=i+(j+1) by omega]
theorem zrk(k:Value)(μ:Mp):(zek k (mE μ.1) 0).map (·.2)=(zl2 k μ).map fun v=>AV.d (.val v):=by
  rw[zn3]
  unfold zl2
  generalize μ.1=s
  induction s with
  |nil=>rfl
  |cons p s ih=>
    rw[List.findIdx?_cons,List.find?_cons]
    by_cases hp:vEq p.1 k
    · simp[hp]
    · simp only[hp,Bool.false_eq_true,if_false,Option.map_map]at ih ⊢
      simpa[Function.comp_def]using ih
theorem zrl(s:List (Value × Nat × Value))(i:Nat)(v:Value):(mE s).modify i (fun q=>(q.1,q.2.1,AV.d (.val v)))=mE (s.modify i fun q=>(q.1,q.2.1,v)):=by
  apply List.ext_getElem?
  intro j
  unfold mE
  rw[List.getElem?_modify,List.getElem?_map,List.getElem?_map,List.getElem?_modify]
  cases s[j]? with
  |none=>rfl
  |some p=>by_cases h:i=j<;>simp[h]
theorem OkM.kb{t kt et:TypeId}{μ:Mp}(h:OkM P t μ)(hm:zj6 P t=some (kt,et)):zfb P kt (mE μ.1)=true:=by
  refine qay.2 fun e he=>?_
  obtain⟨p,hp,rfl⟩:=qat.1 he
  exact(h.keys p hp).2 kt et hm
theorem OkM.put{t:TypeId}{μ:Mp}(h:OkM P t μ){k v:Value}(hk:zk8 P t k):OkM P t (zp8 k v μ):=by
  unfold zp8
  split
  · rename_i i hi
    refine⟨fun e he=>?_,fun e he=>?_⟩<;>
      (obtain⟨j,hj⟩:=List.getElem?_of_mem he
       simp only at hj
       rw[List.getElem?_modify,Option.map_eq_map,qah]at hj
       obtain⟨q,hq,rfl⟩:=hj
       have hm:=List.mem_of_getElem? hq
       split)
    · exact h.keys q hm
    · exact h.keys q hm
    · exact h.born q hm
    · exact h.born q hm
  · refine⟨fun e he=>?_,fun e he=>?_⟩<;>rcases qas.1 he with he|he
    · exact h.keys e he
    · rw[qau.1 he];exact hk
    · exact Nat.lt_succ_of_lt (h.born e he)
    · rw[qau.1 he];exact Nat.lt_succ_self _
theorem jbt{k v:Value}(hv:vEq k k=true):∀{s:List (Value × Nat × Value)} {i:Nat},(s.findIdx? fun e=>vEq e.1 k)=some i→((s.modify i fun q=>(q.1,q.2.1,v)).find? fun e=>vEq e.1 k).map (·.2.2)=some v
  |[],i,h=>by cases h
  |p::s,i,h=>by
    rw[List.findIdx?_cons]at h
    split at h
    · rename_i hp
      cases h
      simp[hp]
    · rename_i hp
      obtain⟨j,hj,rfl⟩:=qah.1 h
      rw[List.modify_succ_cons,List.find?_cons]
      simp only[hp]
      exact jbt hv hj
theorem zrm{k k' v:Value}(hne:∀q:Value,vEq q k=true→vEq q k'=false):∀{s:List (Value × Nat × Value)} {i:Nat},(s.findIdx? fun e=>vEq e.1 k)=some i→((s.modify i fun q=>(q.1,q.2.1,v)).find? fun e=>vEq e.1 k')=(s.find? fun e=>vEq e.1 k')
  |[],i,h=>by cases h
  |p::s,i,h=>by
    rw[List.findIdx?_cons]at h
    split at h
    · rename_i hp
      cases h
      simp[hne p.1 hp]
    · rename_i hp
      obtain⟨j,hj,rfl⟩:=qah.1 h
      rw[List.modify_succ_cons,List.find?_cons,List.find?_cons,zrm hne hj]
theorem zha{k k' v:Value}(hk:znq k=true)(hk':znq k'=true)(μ:Mp)[Decidable (k'=k)]:zl2 k' (zp8 k v μ)=if k'=k then some v else zl2 k' μ:=by
  unfold zp8 fiM
  split
  · rename_i i hi
    by_cases he:k'=k
    · subst he
      rw[if_pos rfl]
      exact jbt (zp1 hk) hi
    · rw[if_neg he]
      unfold zl2
      rw[zrm (fun q hq=>?_) hi]
      cases hq':vEq q k' with
      |false=>rfl
      |true=>exact absurd ((zvu hq').symm.trans (zvu hq)) he
  · rename_i hi
    unfold zl2
    simp only[List.find?_append]
    by_cases he:k'=k
    · subst he
      rw[if_pos rfl]
      have:(μ.1.find? fun e=>vEq e.1 k')=none:=List.find?_eq_none.2 fun e hm hv=>by
        have:=List.findIdx?_eq_none_iff.1 hi e hm
        rw[hv]at this;cases this
      simp[this,zp1 hk]
    · rw[if_neg he]
      have hn:vEq k k'=false:=by
        cases hq:vEq k k' with
        |false=>rfl
        |true=>exact absurd (zvu hq).symm he
      cases(μ.1.find? fun e=>vEq e.1 k')<;>simp[hn]
def muO(P:Program)(KT:TypeId→Bool)(t:TypeId)(id:Nat)(v:Value)(y:AV)(H:zad)(o:Option AObj):Option (AV × zad):=
  match zj6 P t with
  |some (kt,_)=>(match o with
    |some (.map es clock)=>if KT kt&&znq v&&(keyOf P kt v).isSome&&zfb P kt es&&true then
        some (.d (.val undef),H.set id (match zek v es 0 with|some (i,_)=>.map (es.modify i fun q=>(q.1,q.2.1,y)) clock|none=>.map (es++[(v,clock,y)]) (clock+1)))else none
    |_=>none)
  |none=>none
def muK(P:Program)(KT:TypeId→Bool)(t:TypeId)(m:AV)(k:Option Value)(y:AV)(H:zad):Option (AV × zad):=
  match m,k with
  | .om id,some v=>muO P KT t id v y H (H[id]?)
  |_,_=>none
theorem jbu{t:TypeId}{m k y:Operand}:zuk P KT ρ (.mapUpdate t m k y) H []=muK P KT t (ρ m) (zqy (ρ k)) (ρ y) H:=by
  unfold zuk muK muO
  simp only[List.all_nil,Bool.and_true]
  cases ρ m<;>cases zj6 P t<;>cases zqy (ρ k)<;>rfl
theorem zif{t:TypeId}{m k y:Operand}:zuk P KT ρ (.insert t m k y) H []=muK P KT t (ρ m) (zqy (ρ k)) (ρ y) H:=by
  unfold zuk muK muO
  simp only[List.all_nil,Bool.and_true]
  cases ρ m<;>cases zj6 P t<;>cases zqy (ρ k)<;>rfl
theorem zrn{t:TypeId}{id:Nat}{v:Value}{y:AV}:muK P KT t (.om id) (some v) y H=muO P KT t id v y H (H[id]?):=rfl
theorem zmv{t:TypeId}{z:Value}(h:mtB P KT t=some z):∃kt et,zj6 P t=some (kt,et)∧KT kt=true∧zvO P et=some (.d (.val z)):=by
  unfold mtB at h
  split at h
  · rename_i kt et hm
    split at h
    · rename_i hk
      split at h
      · cases h;exact⟨kt,et,hm,hk,by assumption⟩
      · cases h
    · cases h
  · cases h
theorem je6{t:TypeId}{id:Nat}{v u z:Value}{μ:Mp}(ht:mtB P KT t=some z)(hv:zk8 P t v)(hμ:OkM P t μ):muO P KT t id v (.d (.val u)) H (some (mO μ))=some (.d (.val undef),H.set id (mO (zp8 v u μ))):=by
  obtain⟨kt,et,hm,h1,hz⟩:=zmv ht
  unfold muO mO
  simp only[hm,h1,hv.1,hv.2 kt et hm,hμ.kb hm,Bool.and_self,if_true,zn3]
  unfold zp8 fiM
  cases hf:μ.1.findIdx? fun e=>vEq e.1 v with
  |none=>simp[mE]
  |some i=>simp[zrl]
def meO(P:Program)(KT:TypeId→Bool)(t:TypeId)(id:Nat)(v:Value)(H:zad)(o:Option AObj):Option (AV × zad):=
  match zj6 P t with
  |some (kt,et)=>(match o,zvO P et with
      |some (.map es clock),some z=>if KT kt&&znq v&&(keyOf P kt v).isSome&&zfb P kt es then
          (match zek v es 0 with
          |some (i,y)=>(es[i]?).map fun q=>(.tup [y,.d (.val (.int .i64 q.2.1))],H.set id (.map es clock))
          |none=>some (.tup [z,.d (.val (.int .i64 clock))],H.set id (.map (es++[(v,clock,z)]) (clock+1))))else none
      |_,_=>none)
  |none=>none
def meK(P:Program)(KT:TypeId→Bool)(t:TypeId)(m:AV)(k:Option Value)(H:zad):Option (AV × zad):=
  match m,k with
  | .om id,some v=>meO P KT t id v H (H[id]?)
  |_,_=>none
theorem jbv{t:TypeId}{m k:Operand}:zuk P KT ρ (.mapEntry t m k) H []=meK P KT t (ρ m) (zqy (ρ k)) H:=by
  unfold zuk meK meO
  simp only[List.all_nil,Bool.and_true]
  cases ρ m<;>cases zj6 P t<;>cases zqy (ρ k)<;>rfl
theorem jqe{t:TypeId}{id:Nat}{v:Value}:meK P KT t (.om id) (some v) H=meO P KT t id v H (H[id]?):=rfl
theorem yhz{t:TypeId}{id:Nat}{v z:Value}{μ:Mp}(ht:mtB P KT t=some z)(hv:zk8 P t v)(hμ:OkM P t μ)(hn:zl2 v μ=none):meO P KT t id v H (some (mO μ))=some (.tup [.d (.val z),.d (.val (.int .i64 μ.2))],H.set id (mO (μ.1++[(v,μ.2,z)],μ.2+1))):=by
  obtain⟨kt,et,hm,h1,hz⟩:=zmv ht
  unfold meO mO
  simp only[hm,hz,h1,hv.1,hv.2 kt et hm,hμ.kb hm,Bool.and_self,if_true,zn3]
  have:(μ.1.findIdx? fun e=>vEq e.1 v)=none:=(zux hv.1).2 ((zrj hv.1).1 hn)
  simp[this,mE]
def esK(m s y:AV)(H:zad):Option (AV × zad):=
  match m,ixO s with
  | .om id,some n=>(match H[id]? with
      |some (.map es clock)=>(es.findIdx? (fun q=>(q.2.1:Int)==n)).map fun i=>(.d (.val undef),H.set id (.map (es.modify i fun q=>(q.1,q.2.1,y)) clock))
      |_=>none)
  |_,_=>none
theorem jbw{t:TypeId}{m s y:Operand}:zuk P KT ρ (.entryStore t m s y) H []=esK (ρ m) (ρ s) (ρ y) H:=by
  unfold zuk esK
  simp only[List.all_nil,Bool.and_true]
  cases ρ m<;>cases ixO (ρ s)<;>rfl
def esN(id:Nat)(n:Int)(y:AV)(H:zad)(o:Option AObj):Option (AV × zad):=
  match o with
  |some (.map es clock)=>(es.findIdx? (fun q=>(q.2.1:Int)==n)).map fun i=>(.d (.val undef),H.set id (.map (es.modify i fun q=>(q.1,q.2.1,y)) clock))
  |_=>none
theorem jqf{id:Nat}{kd:IntKind}{n:Int}{y:AV}:esK (.om id) (.d (.val (.int kd n))) y H=esN id n y H (H[id]?):=by
  unfold esK esN
  simp only[ixO]
theorem yh0{t:TypeId}{id:Nat}{v z u:Value}{μ:Mp}(hμ:OkM P t μ)(hv:znq v=true)(hn:zl2 v μ=none):esN id μ.2 (.d (.val u)) H (some (mO (μ.1++[(v,μ.2,z)],μ.2+1)))=some (.d (.val undef),H.set id (mO (zp8 v u μ))):=by
  unfold esN mO
  simp only
  have h0:(mE μ.1).findIdx? (fun q=>(q.2.1:Int)==(μ.2:Int))=none:=List.findIdx?_eq_none_iff.2 fun e he=>by
    obtain⟨p,hp,rfl⟩:=qat.1 he
    have:=hμ.born p hp
    simp only[beq_eq_false_iff_ne,ne_eq];omega
  have h1:(mE (μ.1++[(v,μ.2,z)])).findIdx? (fun q=>(q.2.1:Int)==(μ.2:Int))=some μ.1.length:=by
    have:mE (μ.1++[(v,μ.2,z)])=mE μ.1++[(v,μ.2,.d (.val z))]:=by simp[mE]
    rw[this,List.findIdx?_append,h0]
    simp[mE]
  rw[h1,Option.map_some,zrl]
  have h2:fiM v μ.1=none:=(zux hv).2 ((zrj hv).1 hn)
  unfold zp8
  rw[h2]
  simp only
  congr 5
  generalize μ.1=s
  induction s with
  |nil=>rfl
  |cons a s ih=>rw[List.length_cons,List.cons_append,List.modify_succ_cons,ih];rfl
def lkK(P:Program)(KT:TypeId→Bool)(t:TypeId)(k:Option Value)(ok:Bool)(es:Option (List (Value × Nat × AV))):Option AV:=
  match zj6 P t,k,es with
  |some (kt,et),some v,some es=>(match zvO P et with
    |some z=>if KT kt&&znq v&&(keyOf P kt v).isSome&&zfb P kt es then some (jtn ok z (zek v es 0))else none
    |none=>none)
  |_,_,_=>none
theorem zfc{t:TypeId}{k:AV}{ok:Bool}{id:Nat}(hid:id<N):zid P N H KT t (.om id) k ok=lkK P KT t (zqy k) ok (ygo (H[id]?)):=by
  unfold zid lkK ygo
  simp only[zd9,hid,if_true]
  cases zj6 P t with
  |none=>rfl
  |some q=>
    cases zqy k with
    |none=>rfl
    |some v=>
      cases H[id]? with
      |none=>rfl
      |some o=>cases o<;>rfl
theorem jqg{μ:Mp}:ygo (some (mO μ))=some (mE μ.1):=rfl
theorem jz2{t:TypeId}{v z:Value}{μ:Mp}(ht:mtB P KT t=some z)(hv:zk8 P t v)(hμ:OkM P t μ):lkK P KT t (some v) true (some (mE μ.1))=some (.tup [.d (.val ((zl2 v μ).getD z)),.d (.val (.bool (zl2 v μ).isSome))]):=by
  obtain⟨kt,et,hm,h1,hz⟩:=zmv ht
  unfold lkK
  simp only[hm,hz,h1,hv.1,hv.2 kt et hm,hμ.kb hm,Bool.and_self,if_true]
  have:=zrk v μ
  cases hf:zek v (mE μ.1) 0 with
  |none=>rw[hf]at this;cases hg:zl2 v μ with
    |none=>rfl
    |some u=>rw[hg]at this;cases this
  |some p=>rw[hf]at this;cases hg:zl2 v μ with
    |none=>rw[hg]at this;cases this
    |some u=>rw[hg]at this;obtain⟨i,y⟩:=p;simp at this;subst this;rfl
theorem zpk{t:TypeId}{v z:Value}{μ:Mp}(ht:mtB P KT t=some z)(hv:zk8 P t v)(hμ:OkM P t μ):lkK P KT t (some v) false (some (mE μ.1))=some (.d (.val ((zl2 v μ).getD z))):=by
  obtain⟨kt,et,hm,h1,hz⟩:=zmv ht
  unfold lkK
  simp only[hm,hz,h1,hv.1,hv.2 kt et hm,hμ.kb hm,Bool.and_self,if_true]
  have:=zrk v μ
  cases hf:zek v (mE μ.1) 0 with
  |none=>rw[hf]at this;cases hg:zl2 v μ with
    |none=>rfl
    |some u=>rw[hg]at this;cases this
  |some p=>rw[hf]at this;cases hg:zl2 v μ with
    |none=>rw[hg]at this;cases this
    |some u=>rw[hg]at this;obtain⟨i,y⟩:=p;simp at this;subst this;rfl
theorem ygp{keep:List Nat}{μ:Mp}:gcO keep (mO μ)=mO μ:=by
  unfold mO gcO mE
  simp only[List.map_map]
  rfl
theorem ygq{id:Nat}{l:List D}{μ:Mp}:fzO id l (mO μ)=mO μ:=by
  unfold mO fzO mE
  simp only[List.map_map]
  rfl
theorem jz3{μ:Mp}:D.mp μ.1 μ.2=mD μ:=rfl
theorem jqh{μ:Mp}:(mD μ).fix=mD μ:=rfl
theorem yko:AObj.map [] 0=mO ([],0):=rfl
theorem zaz{p:Nat→Bool}{μ:Mp}:(mO μ).allI p=true:=by
  show AV.allIs p ((mE μ.1).map (·.2.2))=true
  generalize μ.1=s
  induction s with
  |nil=>rfl
  |cons e s ih=>exact ih
theorem jt8{keep:List Nat}{cs:List AV}:gcO keep (.cells cs)= .cells (gcVs keep cs):=rfl
theorem jqi{keep:List Nat}:gcO keep .dead= .dead:=rfl
theorem jqj{keep:List Nat}:gcO keep .free= .free:=rfl
theorem jt9{id:Nat}{l:List D}{cs:List AV}:fzO id l (.cells cs)= .cells (fzVs id l cs):=rfl
theorem jqk{id:Nat}{l:List D}:fzO id l .dead= .dead:=rfl
theorem jql{id:Nat}{l:List D}:fzO id l .free= .free:=rfl
theorem zas{p:Nat→Bool}{cs:List AV}:(AObj.cells cs).allI p=AV.allIs p cs:=rfl
theorem zal{p:Nat→Bool}:AObj.dead.allI p=true:=rfl
theorem zam{p:Nat→Bool}:AObj.free.allI p=true:=rfl
theorem zy4{c:Cx}{code:Code}{QQ:Exit→Fr→zad→Prop}(h:AWp P c code QQ (frL []) H):AWp P c code QQ (zfx []) H:=za0 (zaq _) h
theorem jmu{look:Look}{n:Nat}:zx2 look (n+1) []=some []:=rfl
theorem ji4{look:Look}{n:Nat}{y:AV}{r:List AV}:zx2 look (n+1) (y::r)=(jac look n y).bind fun a=>(zx2 look (n+1) r).map (a::·):=by
  rw[show zx2 look (n+1) (y::r)=(y::r).mapM (jac look n) from rfl,List.mapM_cons]
  show _=(jac look n y).bind fun a=>(r.mapM (jac look n)).map (a::·)
  cases jac look n y<;>cases r.mapM (jac look n)<;>rfl
theorem jz4{look:Look}{n k id off m:Nat}:jac look (n+1) (.os k id off m)=(look.c id).bind fun cs=>(zbz cs off (m*k)).bind fun r=>(zx2 look n r).map (D.fs · m):=by
  show(match look.c id with|some cs=>_|none=>none)=_
  cases look.c id with
  |none=>rfl
  |some cs=>
    show(match zbz cs off (m*k)with|some l=>_|none=>none)=(zbz cs off (m*k)).bind _
    cases zbz cs off (m*k)<;>rfl
theorem zro{v:Value}:zqy (.d (.val v))=some v:=rfl
theorem ji5{ds:List D}:zqy (.d (.agg ds))=(zes (ds.map .d)).map fun l=>.agg l.toArray:=rfl
theorem jqm{xs:List AV}:zqy (.agg xs)=(zes xs).map fun l=>.agg l.toArray:=rfl
theorem jbx:zes []=some []:=rfl
theorem zuy{v:Value}{l:List AV}:zes (.d (.val v)::l)=(zes l).map (v::·):=rfl
theorem zae{p:Nat→Bool}{l:List D}:AV.allIs p (avs l)=true:=by
  induction l with
  |nil=>rfl
  |cons e s ih=>exact ih
theorem zrp{sm:List Nat}{τ0 τ:Fr}{f:FuncId}{args:List AV}{ds:List D}{x:AV}{KK:AV→zad→Prop}(hp:za2 P f ds x)(hd:AV.toD.toDs args=some ds)(hK:KK x H):kE P sm N τ0 τ H (.d (.val (.func (.func f) #[] #[]))) args (tg KK):=.inl (jhe hp hd hK)
theorem ji6{sm:List Nat}{τ0 τ:Fr}{f:FuncId}{args:List AV}{ds:List D}{Q:AV→Prop}{KK:AV→zad→Prop}(hp:zg5 P f ds Q)(hd:AV.toD.toDs args=some ds)(hK:∀x,Q x→KK x H):kE P sm N τ0 τ H (.d (.val (.func (.func f) #[] #[]))) args (tg KK):=
  .inr ⟨f,[],[],rfl,.inl ⟨ds,Q,by simpa using hd,hp,hK⟩⟩
theorem zpl{sm:List Nat}{τ0 τ:Fr}{f:FuncId}{args:List AV}{S T:zad}{K0 KK:AV→zad→Prop}{ks:List Nat}(h:ScS P ks f args S K0)(hH:H=S++T)(hN:S.length≤N)(hm:sm.all (okI ks S.length)=true)(hτ:∀t,(τ t).allI (okI ks S.length)=true)(h0:∀t,(τ0 t).allI (okI ks S.length)=true)(ha:AV.allIs (ltI S.length) args=true)
    (hS:∀o∈S,o.allI (ltI S.length)=true) (hT:∀o∈T,o.allI (okI ks S.length)=true) (hK:∀x S',K0 x S'→S'.length=S.length∧KK x (S'++T)):kE P sm N τ0 τ H (.d (.val (.func (.func f) #[] #[]))) args (tg KK):=
  .inr ⟨f,[],[],rfl,.inr ⟨ks,S,T,K0,hH,hN,hm,hτ,h0,by simpa using ha,hS,hT,by simpa using h,hK⟩⟩
end
end
section
open Go Go.RowKit Go.Maps
open Go.WideElems (Fit rd rg rg_of)
section
variable {P:Program} {kt:TypeId}
end
section
variable {P:Program} {c c1:Cx} {τ τ':Fr} {a a':Act} {w w' w1:World} {pl pl':List (Option (Nat × Nat))} {H H':zad} {r:Nat} {ks:List Nat}
end
section
variable {P:Program} {c:Cx} {τ:Fr} {H:zad} {Q:Exit→Fr→zad→Prop}
theorem Rd.val_eq{w:World}{pl:List (Option (Nat × Nat))}{own:Nat→Prop}{u v:Value}(h:Rd w pl own (.d (.val u)) v):v=u:=by
 cases h with|d _ _ h=>cases h;rfl
end
end
end Go.Proofs.YtapjobndmmkanaaGreat
