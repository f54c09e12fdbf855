/- Of no program: regions that draw their order and hold calls that move objects: what only looks is taken early, and looked at again behind each call. -/
import Derived.Test.YtfolbdkbpmgjgaaAR
import Derived.Maps.RangeWalk
import Derived.Sort.MapsRangeIn
set_option linter.unusedVariables false
set_option linter.unusedSimpArgs false
namespace Go.Proofs.Ytfolbdkbpmgjgaa
open Go Go.RowKit
section
section
variable (P:Program) (KT:TypeId→Bool) (sm:List Nat) (N:Nat) (τ0:Fr)
/-- A call that sees the first objects; all of them stood before the region. -/
def ScE(n:FuncId)(xs:List AV)(τ:Fr)(H:zaa)(K:AV→zaa→Prop):Prop:=
  ∃(m:List Nat) (S T:zaa) (K0:AV→zaa→Prop),H=S++T∧S.length≤N∧sm.all (okI m S.length)=true∧(∀t,(τ t).allI (okI m S.length)=true)∧(∀t,(τ0 t).allI (okI m S.length)=true)∧
    AV.allIs (ltI S.length) xs=true∧(∀o∈S,o.allI (ltI S.length)=true)∧(∀o∈T,o.allI (okI m S.length)=true)∧ScS P m n xs S K0∧∀x S',K0 x S'→S'.length=S.length∧K x (S'++T)
def kS(τ:Fr)(H:zaa)(f:AV)(xs:List AV)(KK:AV→zaa→Prop):Prop:=
  (∃x,zso P N H f xs x∧KK x H)∨∃n fi ca,zde f=some (n,fi,ca)∧
    ((∃ds Q,AV.toD.toDs (fi++xs++ca)=some ds∧zix P n ds Q∧∀x,Q x→KK x H)∨ScE P sm N τ0 n (fi++xs++ca) τ H KK)
def kE{KK:AV→zaa→Prop}(τ:Fr)(H:zaa)(f:AV)(xs:List AV)(_:Tg KK):Prop:=kS P sm N τ0 τ H f xs KK
/-- Operations that may change what was there. -/
def anc(op:Op):Bool:=zci op||kOf [] op==2||kOf [] op==3||kOf [] op==4
def aS(o:Oper)(τ:Fr)(H:zaa)(KK:Fr→zaa→Prop):Prop:=
  if zci o.op then match o.op with
    | .call {callee:=.value f,args:=args,..}=>kS P sm N τ0 τ H (zap τ f) (args.toList.map (zap τ)) fun x H'=>KK (τ.put o.dst x) H'
    |_=>False
  else sT P KT [] [] [o] τ H KK
/-- Looked at again, these give what they gave. -/
def reK:List Oper→Fr→zaa→Prop→Prop
  |[],_,_,K=>K
  |o::l,τ,H,K=>match o.dst with
    |some d=>sE P KT [] N 0 0 [] [o] τ H [] fun τ' _ _=>τ' d=τ d∧reK l τ H K
    |none=>False
def oS(r:Nat)(o:Oper)(chk:List Oper)(τ:Fr)(H:zaa)(KK:Nat→Fr→zaa→Prop):Prop:=
  if anc o.op then aS P KT sm N τ0 o τ H fun τ' H'=>reK P KT N chk τ' H' (KK r τ' H')
  else sE P KT [] N 0 r [] [o] τ H [] fun τ' H' _=>KK (if lays [] o then r+1 else r) τ' H'
def sS:Nat→List (Oper × List Oper)→Fr→zaa→(Fr→zaa→Prop)→Prop
  |_,[],τ,H,K=>K τ H
  |r,(o,chk)::l,τ,H,K=>oS P KT sm N τ0 r o chk τ H fun r' τ' H'=>sS r' l τ' H' K
end
def op0 : Oper := ⟨none, .move (.const undef), 0, "", #[], none⟩
def stg(ops:List Oper)(st:List (Nat × List Nat)):List (Oper × List Oper):=st.map fun p=>(ops.getD p.1 op0,p.2.map fun j=>ops.getD j op0)
/-! ### What is checked of the operations' edges -/
def wtO(o:Oper):List Nat:=(o.after.toList.filter (Region.binds .any)).map (·.on)
def tmO(o:Oper):List Tmp:=o.op.operands.toList.filterMap fun| .tmp t=>some t|_=>none
def clN(cl:List (List Nat))(i:Nat):List Nat:=cl.getD i []
def zv6(ops:List Oper)(cl:List (List Nat))(j:Nat):Bool:=(tmO (ops.getD j op0)).all fun t=>(List.range ops.length).all fun k=>(ops.getD k op0).dst !=some t||(clN cl j).contains k
def stC(ops:List Oper)(cl:List (List Nat)):List Nat→List (Nat × List Nat)→Bool
  |_,[]=>true
  |done,(i,chk)::l=>(clN cl i).all (done.contains ·)&&(wtO (ops.getD i op0)).all ((clN cl i).contains ·)&& !done.contains i&&decide (i<ops.length)&&
      (!anc (ops.getD i op0).op||(l.all fun q=>(clN cl q.1).contains i)&&done.all fun j=>(clN cl i).contains j||quiet (ops.getD j op0).op||(lays [] (ops.getD j op0)&&zci (ops.getD i op0).op)||chk.contains j&& !lays [] (ops.getD j op0)&&zv6 ops cl j)&&
      stC ops cl (done++[i]) l
def chC(ops:List Oper)(cl:List (List Nat))(st:List (Nat × List Nat)):Bool:=
  stC ops cl [] st&&((List.range ops.length).all fun i=>(st.map (·.1)).contains i)&&((List.range ops.length).all fun i=>(wtO (ops.getD i op0)).all fun d=>decide (d<i))&&(ops.all fun o=>o.guard.isNone)&&
  ((List.range ops.length).all fun i=>(clN cl i).all fun j=>(wtO (ops.getD i op0)).contains j||(wtO (ops.getD i op0)).any fun d=>decide (d<i)&&(clN cl d).contains j)&&
  ((List.range ops.length).all fun i=>(List.range ops.length).all fun j=>i==j||(ops.getD i op0).dst==none||(ops.getD i op0).dst !=(ops.getD j op0).dst)&&
  (List.range ops.length).all fun i=>(tmO (ops.getD i op0)).all fun t=>(List.range ops.length).all fun j=>(ops.getD j op0).dst !=some t||(clN cl i).contains j||(clN cl j).contains i
/-! ### Frames of some operations -/
section
variable {P:Program} {KT:TypeId→Bool} {sm:List Nat} {ops:List Oper} {N:Nat} {τ0:Fr} {cl:List (List Nat)} {c:Cx}
def dsO(ops:List Oper)(i:Nat):Option Tmp:=(ops.getD i op0).dst
def frP(ops:List Oper)(τ0:Fr)(S:List Nat)(vals:Nat→AV):Fr:=fun t=>match S.find? fun i=>dsO ops i==some t with
  |some i=>vals i
  |none=>τ0 t
def zsz(ops:List Oper):Prop:=∀i j t,i<ops.length→j<ops.length→dsO ops i=some t→dsO ops j=some t→i=j
theorem zhm(ha:zsz ops){S:List Nat}(hS:∀i∈S,i<ops.length){vals:Nat→AV}{i:Nat}(hi:i∈S){t:Tmp}(ht:dsO ops i=some t):frP ops τ0 S vals t=vals i:=by
  unfold frP
  cases hf:S.find? fun i=>dsO ops i==some t with
  |none=>
    have:=List.find?_eq_none.1 hf i hi
    simp[ht]at this
  |some j=>
    have h1:=List.find?_some hf
    have h2:=List.mem_of_find?_eq_some hf
    rw[ha i j t (hS i hi) (hS j h2) ht (by simpa using h1)]
theorem zv7{S:List Nat}{vals:Nat→AV}{t:Tmp}(h:∀i∈S,dsO ops i≠some t):frP ops τ0 S vals t=τ0 t:=by
  unfold frP
  rw[List.find?_eq_none.2 fun i hi=>by simpa using h i hi]
theorem zf6(ha:zsz ops){S S':List Nat}(hS:∀i∈S,i<ops.length)(hS':∀i∈S',i<ops.length){vals vals':Nat→AV}{t:Tmp}(h:∀i,dsO ops i=some t→(i∈S↔i∈S'))(hv:∀i∈S,vals i=vals' i):frP ops τ0 S vals t=frP ops τ0 S' vals' t:=by
  by_cases hex:∃i∈S,dsO ops i=some t
  · obtain⟨i,hi,ht⟩:=hex
    rw[zhm ha hS hi ht,zhm ha hS' ((h i ht).1 hi) ht,hv i hi]
  · have h1:∀i∈S,dsO ops i≠some t:=fun i hi ht=>hex ⟨i,hi,ht⟩
    rw[zv7 h1,zv7 fun i hi ht=>h1 i ((h i ht).2 hi) ht]
theorem zls(ha:zsz ops){S:List Nat}(hS:∀i∈S,i<ops.length){vals:Nat→AV}{i:Nat}(hi:i∉S)(hlt:i<ops.length){v:AV}(hv:vals i=v):(frP ops τ0 S vals).put (dsO ops i) v=frP ops τ0 (S++[i]) vals:=by
  have hS':∀j∈S++[i],j<ops.length:=fun j hj=>by
    rcases List.mem_append.1 hj with h|h
    · exact hS j h
    · rw[List.mem_singleton.1 h];exact hlt
  funext t
  cases hd:dsO ops i with
  |none=>
    show frP ops τ0 S vals t=_
    refine zf6 ha hS hS' (fun j hj=>?_) fun _ _=>rfl
    have:j≠i:=fun e=>by rw[e,hd]at hj;cases hj
    simp[this]
  |some d=>
    simp only[Fr.put]
    split
    · rename_i e
      subst e
      rw[zhm ha hS' (i:=i) (by simp) hd,hv]
    · rename_i hne
      refine zf6 ha hS hS' (fun j hj=>?_) fun _ _=>rfl
      have:j≠i:=fun e=>by rw[e,hd]at hj;cases hj;exact hne rfl
      simp[this]
/-- The checks, in words. -/
structure Ck (ops:List Oper) (cl:List (List Nat)):Prop where
  ap:zsz ops
  gd:∀(i:Nat) (o:Oper),ops[i]? =some o→o.guard=none
  bk:∀i,i<ops.length→∀d∈wtO (ops.getD i op0),d<i
  cl1:∀i,i<ops.length→∀j∈clN cl i,j∈wtO (ops.getD i op0)∨∃d∈wtO (ops.getD i op0),d<i∧j∈clN cl d
  opd:∀i,i<ops.length→∀t∈tmO (ops.getD i op0),∀j,j<ops.length→dsO ops j=some t→j∈clN cl i∨i∈clN cl j
theorem Ck.of{st:List (Nat × List Nat)}(h:chC ops cl st=true):Ck ops cl∧stC ops cl [] st=true∧∀i,i<ops.length→i∈st.map (·.1):=by
  unfold chC at h
  simp only[Bool.and_eq_true,decide_eq_true_eq]at h
  obtain⟨⟨⟨⟨⟨⟨h1,h2⟩,h7⟩,h3⟩,h4⟩,h5⟩,h6⟩:=h
  refine⟨⟨fun i j t hi hj hti htj=>?_,fun i o ho=>?_,fun i hi d hd=>by simpa using List.all_eq_true.1 (List.all_eq_true.1 h7 i (List.mem_range.2 hi)) d hd,fun i hi j hj=>?_,fun i hi t ht j hj htj=>?_⟩,h1,fun i hi=>by simpa using List.all_eq_true.1 h2 i (List.mem_range.2 hi)⟩
  · have:=List.all_eq_true.1 (List.all_eq_true.1 h5 i (List.mem_range.2 hi)) j (List.mem_range.2 hj)
    simp only[Bool.or_eq_true,beq_iff_eq,bne_iff_ne,ne_eq]at this
    unfold dsO at hti htj
    rcases this with(h|h)|h
    · exact h
    · rw[h]at hti;cases hti
    · exact absurd (hti.trans htj.symm) h
  · have:=List.all_eq_true.1 h3 o (List.mem_of_getElem? ho)
    simpa using this
  · have:=List.all_eq_true.1 (List.all_eq_true.1 h4 i (List.mem_range.2 hi)) j hj
    simp only[Bool.or_eq_true,List.contains_eq_mem,decide_eq_true_eq,List.any_eq_true,Bool.and_eq_true]at this
    exact this
  · have:=List.all_eq_true.1 (List.all_eq_true.1 (List.all_eq_true.1 h6 i (List.mem_range.2 hi)) t ht) j (List.mem_range.2 hj)
    simp only[Bool.or_eq_true,bne_iff_ne,ne_eq,List.contains_eq_mem,decide_eq_true_eq]at this
    unfold dsO at htj
    rcases this with(h|h)|h
    · exact absurd htj h
    · exact .inl h
    · exact .inr h
def lsd(listed:Array Bool)(i:Nat):Prop:=listed.getD i false=true
/-- What is ready has all listed that it hangs on. -/
theorem Ck.closed(k:Ck ops cl){listed:Array Bool}(hc:Closed ops listed):∀(n i:Nat),i<n→i<ops.length→(∀d∈wtO (ops.getD i op0),lsd listed d)→∀j∈clN cl i,lsd listed j
  |n+1,i,hn,hi,hw,j,hj=>by
    rcases k.cl1 i hi j hj with h|⟨d,hd,hlt,h⟩
    · exact hw j h
    · refine k.closed hc n d (by omega) (by omega) (fun e he=>?_) j h
      have hdl:d<ops.length:=by omega
      unfold wtO at he
      obtain⟨ed,hed,rfl⟩:=List.mem_map.1 he
      obtain⟨h1,h2⟩:=List.mem_filter.1 hed
      rw[List.getD_eq_getElem?_getD,List.getElem?_eq_getElem hdl]at h1
      exact hc d ops[d] (List.getElem?_eq_getElem hdl) (hw d hd) ed (by simpa using h1) h2
theorem jfe{i:Nat}{o:Oper}(h:ops[i]? =some o):ops.getD i op0=o:=by rw[List.getD_eq_getElem?_getD,h];rfl
theorem Ck.ready(k:Ck ops cl){listed:Array Bool}(hc:Closed ops listed){i:Nat}(hi:i∈Region.ready .any ops.toArray listed):i<ops.length∧listed.getD i true=false∧∀j∈clN cl i,lsd listed j:=by
  obtain⟨h0,o,ho,hall⟩:=mem_ready.1 hi
  rw[List.getElem?_toArray]at ho
  have hlt:=(List.getElem?_eq_some_iff.1 ho).1
  refine⟨hlt,h0,k.closed hc (i+1) i (by omega) hlt fun d hd=>?_⟩
  rw[jfe ho]at hd
  unfold wtO at hd
  obtain⟨e,he,rfl⟩:=List.mem_map.1 hd
  obtain⟨h1,h2⟩:=List.mem_filter.1 he
  exact hall e (by simpa using h1) h2
/-- Where what an operation hangs on is there, and nothing that hangs on it, its operands are what they are with no more than that. -/
theorem Ck.agree(k:Ck ops cl){S:List Nat}(hS:∀i∈S,i<ops.length){vals vals':Nat→AV}{i:Nat}(hi:i<ops.length)(hcl:∀j∈clN cl i,j∈S)(hno:∀j∈S,i∉clN cl j)(hv:∀j∈clN cl i,vals j=vals' j):
    ∀y∈(ops.getD i op0).op.operands,zap (frP ops τ0 S vals) y=zap (frP ops τ0 (clN cl i) vals') y:=fun y hy=>by
  cases y with
  |tmp t=>
    have ht:t∈tmO (ops.getD i op0):=List.mem_filterMap.2 ⟨.tmp t,by simpa using hy,rfl⟩
    refine(zf6 k.ap (fun j hj=>hS j (hcl j hj)) hS (fun j hj=>⟨hcl j,fun hjS=>?_⟩) fun j hj=>(hv j hj).symm).symm
    rcases k.opd i hi t ht j (hS j hjS) hj with h|h
    · exact h
    · exact absurd h (hno j hjS)
  |_=>rfl
theorem znj(ha:zsz ops){S:List Nat}(hS:∀i∈S,i<ops.length){vals vals':Nat→AV}{i:Nat}(hcl:∀j∈clN cl i,j∈S)(hs:zv6 ops cl i=true)(hv:∀j∈clN cl i,vals j=vals' j):
    ∀y∈(ops.getD i op0).op.operands,zap (frP ops τ0 S vals) y=zap (frP ops τ0 (clN cl i) vals') y:=fun y hy=>by
  cases y with
  |tmp t=>
    have ht:t∈tmO (ops.getD i op0):=List.mem_filterMap.2 ⟨.tmp t,by simpa using hy,rfl⟩
    refine(zf6 ha (fun j hj=>hS j (hcl j hj)) hS (fun j hj=>⟨hcl j,fun hjS=>?_⟩) fun j hj=>(hv j hj).symm).symm
    have:=List.all_eq_true.1 (List.all_eq_true.1 hs t ht) j (List.mem_range.2 (hS j hjS))
    simp only[Bool.or_eq_true,bne_iff_ne,ne_eq,List.contains_eq_mem,decide_eq_true_eq]at this
    exact this.resolve_left fun h=>h hj
  |_=>rfl
/-! ### What holds between the operations -/
/-- What an operation that is not yet carried out will give. -/
def Fact(P:Program)(ops:List Oper)(cl:List (List Nat))(N:Nat)(τ0:Fr)(vals:Nat→AV)(slot:Nat→Nat)(H:zaa)(i:Nat):Prop:=
  if lays [] (ops.getD i op0)then ∃o,H[N+slot i]? =some o∧∀H2,OpA P true (N+slot i) (zap (frP ops τ0 (clN cl i) vals)) (ops.getD i op0).op H2 [] (vals i) (H2.set (N+slot i) o) []
  else OpQ P N H (zap (frP ops τ0 (clN cl i) vals)) (ops.getD i op0).op (vals i)
structure Inv (P:Program) (ops:List Oper) (cl:List (List Nat)) (N:Nat) (τ0:Fr) (pre:List Nat) (r:Nat) (vals:Nat→AV) (slot:Nat→Nat) (H HL:zaa) (listed:Array Bool):Prop where
  lt:∀i∈pre,i<ops.length
  cls:∀i∈pre,∀j∈clN cl i,j∈pre
  sub:∀i,lsd listed i→i∈pre
  ac:∀i∈pre,anc (ops.getD i op0).op=true→lsd listed i
  fact:∀i∈pre,¬lsd listed i→Fact P ops cl N τ0 vals slot H i
  slt:∀i∈pre,lays [] (ops.getD i op0)=true→anc (ops.getD i op0).op=false→slot i<r
  inj:∀i∈pre,∀j∈pre,lays [] (ops.getD i op0)=true→anc (ops.getD i op0).op=false→lays [] (ops.getD j op0)=true→anc (ops.getD j op0).op=false→slot i=slot j→i=j
  len:HL.length=H.length
  nle:N≤H.length
  m2:∀id,(∀i∈pre,lays [] (ops.getD i op0)=true→¬lsd listed i→id≠N+slot i)→HL[id]? =H[id]?
  m3:∀i∈pre,lays [] (ops.getD i op0)=true→¬lsd listed i→HL[N+slot i]? =some .free
/-! ### Taking operations in advance -/
theorem zjj{ops:List Oper}{τ:Fr}{o:Oper}(h:o.guard=none):zbr ops τ o=some true:=by unfold zbr;rw[h]
theorem jda{r:Nat}{o:Oper}(hg:o.guard=none)(hKT:∀k,KT k=true→Maps.Keyed P k){τ:Fr}{H:zaa}{KK:Fr→zaa→List (Nat × Nat)→Prop}(h:sE P KT [] N 0 r [] [o] τ H [] KK):
    zgh P [] N r (zc2 [] o) [] o τ H [] fun x H' sh'=>KK (τ.put o.dst x) H' sh':=by
  obtain⟨b,hb,ht,_⟩:=zfv h
  have:b=true:=by rw[zjj hg]at hb;cases hb;rfl
  exact je5 hKT (ht this)
theorem Fact.keep(ha:zsz ops){vals vals':Nat→AV}{slot slot':Nat→Nat}{H H':zaa}{i:Nat}(hlt:∀j∈clN cl i,j<ops.length)(hv:∀j∈clN cl i,vals j=vals' j)(hi:vals i=vals' i)(hs:slot i=slot' i)
    (hH:lays [] (ops.getD i op0)=true→H[N+slot i]? =H'[N+slot i]?) (hQ:lays [] (ops.getD i op0)=false→OpQ P N H (zap (frP ops τ0 (clN cl i) vals)) (ops.getD i op0).op (vals i)→OpQ P N H' (zap (frP ops τ0 (clN cl i) vals)) (ops.getD i op0).op (vals i))
    (h:Fact P ops cl N τ0 vals slot H i):Fact P ops cl N τ0 vals' slot' H' i:=by
  have e:frP ops τ0 (clN cl i) vals=frP ops τ0 (clN cl i) vals':=funext fun t=>zf6 ha hlt hlt (fun _ _=>Iff.rfl) hv
  unfold Fact at h ⊢
  rw[←e,←hi,←hs]
  cases hl:lays [] (ops.getD i op0)with
  |true=>
    rw[if_pos hl]at h
    rw[if_pos rfl,←hH hl];exact h
  |false=>
    rw[if_neg (by rw[hl];decide)]at h
    rw[if_neg (by decide)];exact hQ hl h
theorem jff{op:Op}(h:anc op=false):zci op=false∧(kOf [] op=0∨kOf [] op=1):=by
  unfold anc at h
  simp only[Bool.or_eq_false_iff,beq_eq_false_iff_ne,ne_eq]at h
  obtain⟨⟨⟨h1,h2⟩,h3⟩,h4⟩:=h
  refine⟨h1,?_⟩
  rcases zi8 [] op with h|h|h|h|h
  · exact .inl h
  · exact .inr h
  · exact absurd h h2
  · exact absurd h h3
  · exact absurd h h4
theorem Inv.stage(k:Ck ops cl)(hKT:∀k,KT k=true→Maps.Keyed P k){pre:List Nat}{r:Nat}{vals:Nat→AV}{slot:Nat→Nat}{H HL:zaa}{listed:Array Bool}(v:Inv P ops cl N τ0 pre r vals slot H HL listed){i:Nat}{KK:Nat→Fr→zaa→Prop}
    (hi:i<ops.length) (hn:i∉pre) (hcl:∀j∈clN cl i,j∈pre) (ha:anc (ops.getD i op0).op=false)
    (h:sE P KT [] N 0 r [] [ops.getD i op0] (frP ops τ0 pre vals) H [] fun τ' H' _=>KK (if lays [] (ops.getD i op0)then r+1 else r) τ' H'):
    ∃r' vals' slot' H',Inv P ops cl N τ0 (pre++[i]) r' vals' slot' H' HL listed∧KK r' (frP ops τ0 (pre++[i]) vals') H'∧∀j∈pre,vals' j=vals j:=by
  have hg:(ops.getD i op0).guard=none:=k.gd i _ (by rw[List.getElem?_eq_getElem hi,List.getD_eq_getElem?_getD,List.getElem?_eq_getElem hi];rfl)
  have hc:=jda hg hKT h
  obtain⟨hcv,hk⟩:=jff ha
  have hunl:¬lsd listed i:=fun h=>hn (v.sub i h)
  have hne:∀j∈pre,j≠i:=fun j hj e=>hn (e▸hj)
  have hlts:∀j∈clN cl i,j<ops.length:=fun j hj=>v.lt j (hcl j hj)
  have hag:∀(x:AV),∀y∈(ops.getD i op0).op.operands,zap (frP ops τ0 pre vals) y=zap (frP ops τ0 (clN cl i) fun j=>if j=i then x else vals j) y:=fun x=>
    k.agree v.lt hi hcl (fun j hj hji=>hn (v.cls j hj i hji)) fun j hj=>(if_neg (hne j (hcl j hj))).symm
  have base:∀(x:AV) (H':zaa) (r':Nat),r≤r'→H'.length=H.length→(∀id,(lays [] (ops.getD i op0)=true→id≠N+r)→H'[id]? =H[id]?)→(lays [] (ops.getD i op0)=true→r<r'∧H[N+r]? =some .free)→Fact P ops cl N τ0 (fun j=>if j=i then x else vals j) (fun j=>if j=i then r else slot j) H' i→
      Inv P ops cl N τ0 (pre++[i]) r' (fun j=>if j=i then x else vals j) (fun j=>if j=i then r else slot j) H' HL listed:=by
    intro x H' r' hr hlen hH hfree hf
    have cases':∀j,j∈pre++[i]→j∈pre∨j=i:=fun j hj=>by simpa using hj
    refine⟨fun j hj=>?_,fun j hj q hq=>?_,fun j hj=>List.mem_append_left _ (v.sub j hj),fun j hj hja=>?_,fun j hj hu=>?_,fun j hj hl hja=>?_,fun p hp q hq lp ap lq aq he=>?_,v.len.trans hlen.symm,hlen▸v.nle,fun id hid=>?_,fun j hj hl hu=>?_⟩
    · rcases cases' j hj with h|rfl
      · exact v.lt j h
      · exact hi
    · rcases cases' j hj with h|rfl
      · exact List.mem_append_left _ (v.cls j h q hq)
      · exact List.mem_append_left _ (hcl q hq)
    · rcases cases' j hj with h|rfl
      · exact v.ac j h hja
      · rw[ha]at hja;cases hja
    · rcases cases' j hj with h|rfl
      · refine Fact.keep k.ap (fun q hq=>v.lt q (v.cls j h q hq)) (fun q hq=>(if_neg (hne q (v.cls j h q hq))).symm) (if_neg (hne j h)).symm (if_neg (hne j h)).symm (fun hl=>?_) (fun hl hq=>?_) (v.fact j h hu)
        · have hja:anc (ops.getD j op0).op=false:=by
            cases hx:anc (ops.getD j op0).op with
            |false=>rfl
            |true=>exact absurd (v.ac j h hx) hu
          have:=v.slt j h hl hja
          exact(hH _ fun _=>by omega).symm
        · exact zds (fun id hid=>(hH id fun _=>by omega).symm) _ _ hq
      · exact hf
    · rcases cases' j hj with h|rfl
      · simp only[if_neg (hne j h)];exact Nat.lt_of_lt_of_le (v.slt j h hl hja) hr
      · simp only[if_pos];exact(hfree hl).1
    · rcases cases' p hp with h1|h1<;>rcases cases' q hq with h2|h2
      · simp only[if_neg (hne p h1),if_neg (hne q h2)]at he;exact v.inj p h1 q h2 lp ap lq aq he
      · simp only[if_neg (hne p h1),if_pos h2]at he;have:=v.slt p h1 lp ap;omega
      · simp only[if_neg (hne q h2),if_pos h1]at he;have:=v.slt q h2 lq aq;omega
      · rw[h1,h2]
    · have h1:=v.m2 id fun j hj hl hu=>by have:=hid j (List.mem_append_left _ hj) hl hu;simpa only[if_neg (hne j hj)]using this
      rw[h1]
      exact(hH id fun hl=>by have:=hid i (by simp) hl hunl;simpa using this).symm
    · rcases cases' j hj with h|rfl
      · simp only[if_neg (hne j h)];exact v.m3 j h hl hu
      · simp only[if_true]
        rw[v.m2 _ fun q hq hlq huq=>?_]
        · exact(hfree hl).2
        · have hqa:anc (ops.getD q op0).op=false:=by
            cases hx:anc (ops.getD q op0).op with
            |false=>rfl
            |true=>exact absurd (v.ac q hq hx) huq
          have:=v.slt q hq hlq hqa;omega
  have put:∀x,(frP ops τ0 pre vals).put (ops.getD i op0).dst x=frP ops τ0 (pre++[i]) fun j=>if j=i then x else vals j:=fun x=>by
    rw[show frP ops τ0 pre vals=frP ops τ0 pre (fun j=>if j=i then x else vals j) from funext fun t=>zf6 k.ap v.lt v.lt (fun _ _=>Iff.rfl) fun j hj=>(if_neg (hne j hj)).symm]
    exact zls k.ap v.lt hn hi (if_pos rfl)
  unfold zgh at hc
  rcases hk with hk|hk
  · have hl:lays [] (ops.getD i op0)=false:=by unfold lays;rw[hk];rfl
    simp only[hk]at hc
    obtain⟨x,hq,hh⟩:=hc
    rw[put]at hh
    refine⟨r,_,_,H,base x H r (Nat.le_refl _) rfl (fun _ _=>rfl) (fun h=>by rw[hl]at h;cases h) ?_,?_,fun j hj=>if_neg (hne j hj)⟩
    · unfold Fact
      rw[if_neg (by rw[hl];decide)]
      simp only[if_true]
      rw[←zgz (P:=P) (hag x)];exact hq
    · rw[if_neg (by rw[hl];decide)]at hh;exact hh
  · have hl:lays [] (ops.getD i op0)=true:=by unfold lays;rw[hk];rfl
    simp only[hk]at hc
    obtain⟨h1,_,_,x,H',sh',hq,hh⟩:=hc
    obtain⟨o,rfl,rfl,hall⟩:=zes hk hq
    rw[put]at hh
    have hlt:N+r<H.length:=(List.getElem?_eq_some_iff.1 h1).1
    refine⟨r+1,_,_,H.set (N+r) o,base x (H.set (N+r) o) (r+1) (by omega) (by simp) (fun id hid=>zcw (hid hl)) (fun _=>⟨by omega,h1⟩) ?_,?_,fun j hj=>if_neg (hne j hj)⟩
    · unfold Fact
      rw[if_pos hl]
      simp only[if_true]
      refine⟨o,List.getElem?_set_self hlt,fun H2=>?_⟩
      rw[←zg0 (P:=P) (hag x)];exact hall H2 []
    · rw[if_pos hl]at hh;exact hh
theorem Inv.advance(k:Ck ops cl)(hKT:∀k,KT k=true→Maps.Keyed P k){HL:zaa}{listed:Array Bool}{K:Fr→zaa→Prop}:∀(rest:List (Nat × List Nat)) (pre:List Nat) (r:Nat) (vals:Nat→AV) (slot:Nat→Nat) (H:zaa),Inv P ops cl N τ0 pre r vals slot H HL listed→
    stC ops cl pre rest=true→sS P KT sm N τ0 r (stg ops rest) (frP ops τ0 pre vals) H K→
    ∃pre' rest' r' vals' slot' H',Inv P ops cl N τ0 pre' r' vals' slot' H' HL listed∧stC ops cl pre' rest'=true∧sS P KT sm N τ0 r' (stg ops rest') (frP ops τ0 pre' vals') H' K∧(∀j∈pre,j∈pre'∧vals' j=vals j)∧(∀j,j∈pre∨j∈rest.map (·.1)→j∈pre'∨j∈rest'.map (·.1))∧(rest'=[]∨∃i chk l,rest'=(i,chk)::l∧anc (ops.getD i op0).op=true)
  |[],pre,r,vals,slot,H,v,hs,h=>⟨pre,[],r,vals,slot,H,v,hs,h,fun j hj=>⟨hj,rfl⟩,fun j hj=>hj,.inl rfl⟩
  |(i,chk)::l,pre,r,vals,slot,H,v,hs,h=>by
    cases ha:anc (ops.getD i op0).op with
    |true=>exact⟨pre,(i,chk)::l,r,vals,slot,H,v,hs,h,fun j hj=>⟨hj,rfl⟩,fun j hj=>hj,.inr ⟨i,chk,l,rfl,ha⟩⟩
    |false=>
      have hs':=hs
      simp only[stC,Bool.and_eq_true,decide_eq_true_eq,Bool.not_eq_true',List.contains_eq_mem,decide_eq_false_iff_not,List.all_eq_true]at hs'
      obtain⟨⟨⟨⟨⟨h1,h2⟩,h3⟩,h4⟩,_⟩,h5⟩:=hs'
      have hh:oS P KT sm N τ0 r (ops.getD i op0) (chk.map fun j=>ops.getD j op0) (frP ops τ0 pre vals) H fun r' τ' H'=>sS P KT sm N τ0 r' (stg ops l) τ' H' K:=h
      unfold oS at hh
      rw[if_neg (by rw[ha];decide)]at hh
      obtain⟨r',vals',slot',H',v',hK,hv⟩:=v.stage k hKT (KK:=fun r' τ' H'=>sS P KT sm N τ0 r' (stg ops l) τ' H' K) h4 h3 h1 ha hh
      obtain⟨pre2,rest2,r2,vals2,slot2,H2,a1,a2,a3,a4,a5,a6⟩:=Inv.advance k hKT l (pre++[i]) r' vals' slot' H' v' h5 hK
      refine⟨pre2,rest2,r2,vals2,slot2,H2,a1,a2,a3,fun j hj=>⟨(a4 j (List.mem_append_left _ hj)).1,(a4 j (List.mem_append_left _ hj)).2.trans (hv j hj)⟩,fun j hj=>a5 j ?_,a6⟩
      simp only[List.map_cons,List.mem_cons,List.mem_append,List.not_mem_nil,or_false]at hj ⊢
      rcases hj with h|h|h
      · exact .inl (.inl h)
      · exact .inl (.inr h)
      · exact .inr h
theorem Ck.all(k:Ck ops cl){listed:Array Bool}(hsz:listed.size=ops.length)(h:Region.ready .any ops.toArray listed=[]):∀(n i:Nat),i<n→i<ops.length→lsd listed i
  |n+1,i,hn,hi=>by
    by_cases hl:lsd listed i
    · exact hl
    · exfalso
      have hmem:i∈Region.ready .any ops.toArray listed:=mem_ready.2 ⟨by
        unfold lsd at hl
        have hlt:i<listed.size:=by omega
        simp only[Array.getD,dif_pos hlt]at hl ⊢
        simpa using hl,ops[i],by rw[List.getElem?_toArray,List.getElem?_eq_getElem hi],fun e he hb=>?_⟩
      · rw[h]at hmem;cases hmem
      · have hw:e.on∈wtO (ops.getD i op0):=by
          rw[List.getD_eq_getElem?_getD,List.getElem?_eq_getElem hi]
          exact List.mem_map.2 ⟨e,List.mem_filter.2 ⟨by simpa using he,hb⟩,rfl⟩
        have:=k.bk i hi _ hw
        exact k.all hsz h n e.on (by omega) (by omega)
theorem jfg{op:Op}(h:quiet op=true):kOf [] op=0:=by
  unfold quiet at h
  split at h<;>first|rfl|cases h
theorem jfh{ρ:Operand→AV}{op:Op}{H H':zaa}{sh:List (Nat × Nat)}{x:AV}(h:OpM P ρ op H sh x H'):H'.length=H.length:=by
  unfold OpM at h
  split at h
  · obtain⟨kt,et,v,es,clock,id,_,_,_,_,_,_,_,_,_,_,rfl⟩:=h;simp
  · obtain⟨kt,et,v,es,clock,id,_,_,_,_,_,_,_,_,_,_,rfl⟩:=h;simp
  · obtain⟨kt,et,z,v,es,clock,id,_,_,_,_,_,_,_,_,_,_,h⟩:=h
    split at h
    · obtain⟨_,rfl⟩:=h;simp
    · obtain⟨_,rfl⟩:=h;simp
  · obtain⟨kd,n,es,clock,id,i,_,_,_,_,_,_,rfl⟩:=h;simp
  · split at h
    all_goals first|(obtain⟨kt,et,v,es,clock,id,_,_,_,_,_,_,_,_,_,_,rfl⟩:=h;simp;done)|(obtain⟨kt,et,es,clock,id,_,_,_,_,_,rfl⟩:=h;simp;done)|exact h.elim
  · exact h.elim
theorem zrk(hKT:∀k,KT k=true→Maps.Keyed P k){τ:Fr}{H:zaa}{K:Prop}:∀{l:List Oper},(∀o∈l,o.guard=none)→reK P KT N l τ H K→K∧∀o∈l,kOf [] o.op=0→∃d,o.dst=some d∧OpQ P N H (zap τ) o.op (τ d)
  |[],_,h=>⟨h,fun o ho=>by cases ho⟩
  |o::l,hg,h=>by
    unfold reK at h
    split at h
    · rename_i d hd
      have hc:=jda (hg o (List.mem_cons_self ..)) hKT h
      have key:∀x,(τ.put o.dst x) d=x:=fun x=>by rw[hd];simp[Fr.put]
      have tail:∀{x:AV},(τ.put o.dst x) d=τ d∧reK P KT N l τ H K→(kOf [] o.op=0→OpQ P N H (zap τ) o.op x)→K∧∀o'∈o::l,kOf [] o'.op=0→∃d,o'.dst=some d∧OpQ P N H (zap τ) o'.op (τ d):=fun{x} hx hq=>by
        obtain⟨hx,hr⟩:=hx
        rw[key]at hx
        subst hx
        obtain⟨a1,a2⟩:=zrk hKT (fun o' ho=>hg o' (List.mem_cons_of_mem _ ho)) hr
        refine⟨a1,fun o' ho' hk'=>?_⟩
        rcases List.mem_cons.1 ho' with rfl|ho'
        · exact⟨d,hd,hq hk'⟩
        · exact a2 o' ho' hk'
      unfold zgh at hc
      rcases zi8 [] o.op with h0|h0|h0|h0|h0<;>simp only[h0]at hc
      · obtain⟨x,hq,hx⟩:=hc
        exact tail hx fun _=>hq
      · obtain⟨_,_,_,x,H',sh',hq,hx⟩:=hc
        exact tail hx fun h=>by rw[h0]at h;cases h
      · obtain⟨H',hq,hx⟩:=hc
        exact tail hx fun h=>by rw[h0]at h;cases h
      · obtain⟨_,_,_,x,H',sh',hq,hx⟩:=hc
        exact tail hx fun h=>by rw[h0]at h;cases h
      · obtain⟨x,H',hq,hx⟩:=hc
        exact tail hx fun h=>by rw[h0]at h;cases h
    · exact h.elim
theorem mem_fil{pre:List Nat}{listed:Array Bool}{i:Nat}:i∈pre.filter (fun j=>listed.getD j false)↔i∈pre∧lsd listed i:=by
  rw[List.mem_filter];rfl
theorem zct{listed:Array Bool}{i j:Nat}(hi:i<listed.size):lsd (listed.setIfInBounds i true) j↔j=i∨lsd listed j:=by
  by_cases h:j=i
  · subst h;simp[lsd,hi]
  · unfold lsd;rw[getD_set_ne false (Ne.symm h)];simp[h]
/-- One more of the operations is listed. -/
theorem zz5(k:Ck ops cl){pre:List Nat}(hlt:∀i∈pre,i<ops.length){vals:Nat→AV}{listed:Array Bool}{i:Nat}(hsz:i<listed.size)(hi:i∈pre)(hn:¬lsd listed i){v:AV}(hv:vals i=v):
    (frP ops τ0 (pre.filter fun j=>listed.getD j false) vals).put (dsO ops i) v=frP ops τ0 (pre.filter fun j=>(listed.setIfInBounds i true).getD j false) vals:=by
  have h1:∀j∈pre.filter (fun j=>listed.getD j false),j<ops.length:=fun j hj=>hlt j (mem_fil.1 hj).1
  rw[zls k.ap h1 (fun h=>hn (mem_fil.1 h).2) (hlt i hi) hv]
  funext t
  refine zf6 k.ap (fun j hj=>?_) (fun j hj=>hlt j (mem_fil.1 hj).1) (fun j _=>?_) fun _ _=>rfl
  · rcases List.mem_append.1 hj with h|h
    · exact h1 j h
    · rw[List.mem_singleton.1 h];exact hlt i hi
  · rw[List.mem_append,mem_fil,mem_fil,List.mem_singleton,zct hsz]
    constructor
    · rintro(⟨a,b⟩|rfl)
      · exact⟨a,.inr b⟩
      · exact⟨hi,.inl rfl⟩
    · rintro⟨a,rfl|b⟩
      · exact .inr rfl
      · exact .inl ⟨a,b⟩
theorem Inv.list{pre:List Nat}{r:Nat}{vals:Nat→AV}{slot:Nat→Nat}{H HL HL':zaa}{listed:Array Bool}{i:Nat}(v:Inv P ops cl N τ0 pre r vals slot H HL listed)(hsz:i<listed.size)(hi:i∈pre)(hn:¬lsd listed i)
    (h1:HL'.length=HL.length) (h2:∀id,(lays [] (ops.getD i op0)=true→id≠N+slot i)→HL'[id]? =HL[id]?) (h3:lays [] (ops.getD i op0)=true→HL'[N+slot i]? =H[N+slot i]?):Inv P ops cl N τ0 pre r vals slot H HL' (listed.setIfInBounds i true):=by
  have un:∀{j},¬lsd (listed.setIfInBounds i true) j→j≠i∧¬lsd listed j:=fun{j} h=>⟨fun e=>h ((zct hsz).2 (.inl e)),fun e=>h ((zct hsz).2 (.inr e))⟩
  have ua:∀{j},j∈pre→¬lsd listed j→Go.Proofs.Ytfolbdkbpmgjgaa.anc (ops.getD j op0).op=false:=fun{j} hj hu=>by
    cases hx:Go.Proofs.Ytfolbdkbpmgjgaa.anc (ops.getD j op0).op with
    |false=>rfl
    |true=>exact absurd (v.ac j hj hx) hu
  refine⟨v.lt,v.cls,fun j hj=>?_,fun j hj ha=>(zct hsz).2 (.inr (v.ac j hj ha)),fun j hj hu=>v.fact j hj (un hu).2,v.slt,v.inj,h1.trans v.len,v.nle,fun id hid=>?_,fun j hj hl hu=>?_⟩
  · rcases(zct hsz).1 hj with rfl|h
    · exact hi
    · exact v.sub j h
  · by_cases he:lays [] (ops.getD i op0)=true∧id=N+slot i
    · obtain⟨hl,rfl⟩:=he
      exact h3 hl
    · rw[h2 id fun hl e=>he ⟨hl,e⟩]
      refine v.m2 id fun j hj hl hu=>?_
      by_cases hji:j=i
      · subst hji;exact fun e=>he ⟨hl,e⟩
      · exact hid j hj hl fun h=>by
          rcases(zct hsz).1 h with h|h
          · exact hji h
          · exact hu h
  · obtain⟨hji,hu'⟩:=un hu
    rw[h2 _ fun hli e=>hji (v.inj j hj i hi hl (ua hj hu') hli (ua hi hn) (by omega))]
    exact v.m3 j hj hl hu'
/-- All orders, by the run in the order that is given. -/
theorem zv8(k:Ck ops cl)(hKT:∀k,KT k=true→Maps.Keyed P k)(hd:zdl c.nt ops=true)(hsm:Kp c sm){K:Fr→zaa→Prop}{Q:Exit→Act→World→Prop}(hK:∀τ H a w,K τ H→R c τ H [] a w→Q .normal a w):
    ∀(fuel:Nat) (rem:List Nat) (pre:List Nat) (rest:List (Nat × List Nat)) (r:Nat) (vals:Nat→AV) (slot:Nat→Nat) (H HL:zaa) (listed:Array Bool) (a:Act) (w:World),rem.length=fuel→(∀i,i<ops.length→¬lsd listed i→i∈rem)→listed.size=ops.length→Closed ops listed→
      Inv P ops cl N τ0 pre r vals slot H HL listed→stC ops cl pre rest=true→sS P KT sm N τ0 r (stg ops rest) (frP ops τ0 pre vals) H K→(∀i,i<ops.length→i∈pre∨i∈rest.map (·.1))→(rest=[]∨∃i chk l,rest=(i,chk)::l∧anc (ops.getD i op0).op=true)→
      R c (frP ops τ0 (pre.filter fun j=>listed.getD j false) vals) HL [] a w→wpAnyIn c.F 0 P .any ops.toArray Q fuel listed a w:=by
  -- where all is listed
  have fin:∀(pre:List Nat) (rest:List (Nat × List Nat)) (r:Nat) (vals:Nat→AV) (slot:Nat→Nat) (H HL:zaa) (listed:Array Bool) (a:Act) (w:World),Inv P ops cl N τ0 pre r vals slot H HL listed→stC ops cl pre rest=true→sS P KT sm N τ0 r (stg ops rest) (frP ops τ0 pre vals) H K→
      R c (frP ops τ0 (pre.filter fun j=>listed.getD j false) vals) HL [] a w→(∀i,i<ops.length→lsd listed i)→Q .normal a w:=by
    intro pre rest r vals slot H HL listed a w v hst hrun hR hall
    have hrest:rest=[]:=by
      cases rest with
      |nil=>rfl
      |cons q l=>
        obtain⟨i,chk⟩:=q
        exfalso
        simp only[stC,Bool.and_eq_true,decide_eq_true_eq,Bool.not_eq_true',List.contains_eq_mem,decide_eq_false_iff_not]at hst
        exact hst.1.1.1.2 (v.sub i (hall i hst.1.1.2))
    subst hrest
    have e1:frP ops τ0 (pre.filter fun j=>listed.getD j false) vals=frP ops τ0 pre vals:=by
      rw[List.filter_eq_self.2 fun j hj=>hall j (v.lt j hj)]
    have e2:HL=H:=List.ext_getElem? fun id=>v.m2 id fun i hi _ hu=>absurd (hall i (v.lt i hi)) hu
    rw[e1,e2]at hR
    exact hK _ _ a w hrun hR
  intro fuel
  induction fuel with
  |zero=>
    intro rem pre rest r vals slot H HL listed a w hrl hrem hsz hcl v hst hrun hcov hhd hR
    have hr0:rem=[]:=List.eq_nil_of_length_eq_zero hrl
    have hall:∀i,i<ops.length→lsd listed i:=fun i hi=>Classical.byContradiction fun h=>by have:=hrem i hi h;rw[hr0]at this;cases this
    refine⟨List.eq_nil_iff_forall_not_mem.2 fun i hi=>?_,fin pre rest r vals slot H HL listed a w v hst hrun hR hall⟩
    obtain⟨h1,h2,_⟩:=k.ready hcl hi
    have:=hall i h1
    unfold lsd at this
    rw[zdy this]at h2;cases h2
  |succ fuel ih=>
    intro rem pre rest r vals slot H HL listed a w hrl hrem hsz hcl v hst hrun hcov hhd hR
    refine⟨fun h0=>fin pre rest r vals slot H HL listed a w v hst hrun hR fun i hi=>k.all hsz h0 (i+1) i (by omega) hi,fun i hi=>?_⟩
    obtain⟨hlt,hun,hclos⟩:=k.ready hcl hi
    have hnl:¬lsd listed i:=fun h=>by unfold lsd at h;rw[zdy h]at hun;cases hun
    have hsi:i<listed.size:=by omega
    have hoi:ops[i]? =some (ops.getD i op0):=by rw[List.getElem?_eq_getElem hlt,List.getD_eq_getElem?_getD,List.getElem?_eq_getElem hlt];rfl
    have hg:(ops.getD i op0).guard=none:=k.gd i _ hoi
    obtain⟨pl,hR⟩:=hR
    have hw:Region.wanted (ops.getD i op0) (yielded ops.toArray a.tmps)=true:=zeq hR (b:=true) (zjj hg)
    have hdo:∀d,(ops.getD i op0).dst=some d→d<c.nt:=fun d e=>by
      have:=List.all_eq_true.1 hd _ (List.mem_of_getElem? hoi)
      rw[e]at this;simpa using((Bool.and_eq_true _ _).mp this).1
    have hnd:zzm (ops.getD i op0).op=true:=by
      have:=List.all_eq_true.1 hd _ (List.mem_of_getElem? hoi)
      exact((Bool.and_eq_true _ _).mp this).2
    have hmem:i∈rem:=hrem i hlt hnl
    have hrem':∀j,j<ops.length→¬lsd (listed.setIfInBounds i true) j→j∈rem.erase i:=fun j hj hu=>by
      have:j≠i:=fun e=>hu ((zct hsi).2 (.inl e))
      exact(List.mem_erase_of_ne this).2 (hrem j hj fun h=>hu ((zct hsi).2 (.inr h)))
    have hlen':(rem.erase i).length=fuel:=by rw[List.length_erase_of_mem hmem];omega
    have hsz':(listed.setIfInBounds i true).size=ops.length:=by simpa using hsz
    have hcl':=hcl.set hi
    -- what a listed operation hangs on is listed
    have hback:∀j∈pre,lsd listed j→∀q∈clN cl j,lsd listed q:=fun j hj hl=>k.closed hcl (j+1) j (by omega) (v.lt j hj) fun d hd=>by
      have hjl:=v.lt j hj
      unfold wtO at hd
      obtain⟨e,he,rfl⟩:=List.mem_map.1 hd
      obtain⟨h1,h2⟩:=List.mem_filter.1 he
      rw[List.getD_eq_getElem?_getD,List.getElem?_eq_getElem hjl]at h1
      exact hcl j ops[j] (List.getElem?_eq_getElem hjl) hl e (by simpa using h1) h2
    have hltL:∀j∈pre.filter (fun j=>listed.getD j false),j<ops.length:=fun j hj=>v.lt j (mem_fil.1 hj).1
    unfold wpOpIn
    rw[List.getElem?_toArray,hoi]
    simp only
    rw[if_pos hw]
    by_cases hip:i∈pre
    · -- an operation that was taken early
      have hna:anc (ops.getD i op0).op=false:=by
        cases hx:anc (ops.getD i op0).op with
        |false=>rfl
        |true=>exact absurd (v.ac i hip hx) hnl
      obtain⟨hcv,hkk⟩:=jff hna
      have hf:=v.fact i hip hnl
      have hag:=k.agree (τ0:=τ0) hltL (vals:=vals) (vals':=vals) hlt (fun j hj=>mem_fil.2 ⟨v.cls i hip j hj,hclos j hj⟩) (fun j hj hij=>hnl (hback j (mem_fil.1 hj).1 (mem_fil.1 hj).2 i hij)) fun _ _=>rfl
      have next:∀{HL':zaa} {u:Value} {w':World} {pl':List (Option (Nat × Nat))},Inv P ops cl N τ0 pre r vals slot H HL' (listed.setIfInBounds i true)→RelS c (frP ops τ0 (pre.filter fun j=>listed.getD j false) vals) HL' [] pl' a w'→Rd w' pl' (za4 c.E HL' pl') (vals i) u→
          wpAnyIn c.F 0 P .any ops.toArray Q fuel (listed.setIfInBounds i true) (a.put (ops.getD i op0).dst u) w':=fun v' h1 h2=>by
        refine ih (rem.erase i) pre rest r vals slot H _ _ _ _ hlen' hrem' hsz' hcl' v' hst hrun hcov hhd ?_
        rw[←zz5 k v.lt hsi hip hnl rfl]
        exact⟨_,h1.put _ hdo h2⟩
      unfold Fact at hf
      cases hl:lays [] (ops.getD i op0)with
      |false=>
        rw[if_neg (by rw[hl];decide)]at hf
        have hq:OpQ P N HL (zap (frP ops τ0 (pre.filter fun j=>listed.getD j false) vals)) (ops.getD i op0).op (vals i):=by
          rw[zgz (P:=P) hag]
          exact zds (fun id hid=>(v.m2 id fun j _ _ _=>by omega).symm) _ _ hf
        exact zbi c hnd (zgv hR hq fun u w' h1 h2=>next (v.list hsi hip hnl rfl (fun _ _=>rfl) fun h=>by rw[hl]at h;cases h) h1 h2)
      |true=>
        rw[if_pos hl]at hf
        obtain⟨o,ho,hall⟩:=hf
        have hfree:=v.m3 i hip hl hnl
        have hq:OpA P true (N+slot i) (zap (frP ops τ0 (pre.filter fun j=>listed.getD j false) vals)) (ops.getD i op0).op HL [] (vals i) (HL.set (N+slot i) o) []:=by
          rw[zg0 (P:=P) hag];exact hall HL
        exact zbi c hnd (zgw hR hfree (fun p hp=>by cases hp) hq fun u w' pl' h1 h2=>next (v.list hsi hip hnl (by simp) (fun id hid=>zcw (hid hl)) fun _=>by rw[List.getElem?_set_self (List.getElem?_eq_some_iff.1 hfree).1,ho]) h1 h2)
    · -- the next of those that may move things
      have hir:=(hcov i hlt).resolve_left hip
      rcases hhd with rfl|⟨q,chk,l,rfl,hanc⟩
      · cases hir
      have hst0:=hst
      simp only[stC,Bool.and_eq_true,decide_eq_true_eq,Bool.not_eq_true',List.contains_eq_mem,decide_eq_false_iff_not,List.all_eq_true,hanc,Bool.true_eq_false,false_or,Bool.or_eq_true]at hst
      obtain⟨⟨⟨⟨⟨s1,s2⟩,s3⟩,s4⟩,s5,s6⟩,s7⟩:=hst
      have hiq:i=q:=by
        rcases List.mem_cons.1 hir with h|h
        · exact h
        · exfalso
          obtain⟨p,hp,rfl⟩:=List.mem_map.1 h
          exact s3 (v.sub q (hclos q (s5 p hp)))
      subst hiq
      have hrun':aS P KT sm N τ0 (ops.getD i op0) (frP ops τ0 pre vals) H fun τ' H'=>reK P KT N (chk.map fun j=>ops.getD j op0) τ' H' (sS P KT sm N τ0 r (stg ops l) τ' H' K):=by
        have hh:oS P KT sm N τ0 r (ops.getD i op0) (chk.map fun j=>ops.getD j op0) (frP ops τ0 pre vals) H fun r' τ' H'=>sS P KT sm N τ0 r' (stg ops l) τ' H' K:=hrun
        unfold oS at hh
        rw[if_pos hanc]at hh
        exact hh
      have hne:∀j∈pre,j≠i:=fun j hj e=>hip (e▸hj)
      have hagS:=k.agree (τ0:=τ0) v.lt (vals:=vals) (vals':=vals) hlt s1 (fun j hj hij=>hip (v.cls j hj i hij)) fun _ _=>rfl
      have hagL:=k.agree (τ0:=τ0) hltL (vals:=vals) (vals':=vals) hlt (fun j hj=>mem_fil.2 ⟨s1 j hj,hclos j hj⟩) (fun j hj hij=>hip (v.cls j (mem_fil.1 hj).1 i hij)) fun _ _=>rfl
      have hagSL:∀y∈(ops.getD i op0).op.operands,zap (frP ops τ0 pre vals) y=zap (frP ops τ0 (pre.filter fun j=>listed.getD j false) vals) y:=fun y hy=>(hagS y hy).trans (hagL y hy).symm
      have unl:∀j∈pre,¬lsd listed j→anc (ops.getD j op0).op=false:=fun j hj hu=>by
        cases hx:anc (ops.getD j op0).op with
        |false=>rfl
        |true=>exact absurd (v.ac j hj hx) hu
      -- behind it
      have post:∀{x:AV} {u:Value} {H' HL':zaa} {w':World} {pl':List (Option (Nat × Nat))},reK P KT N (chk.map fun j=>ops.getD j op0) ((frP ops τ0 pre vals).put (ops.getD i op0).dst x) H' (sS P KT sm N τ0 r (stg ops l) ((frP ops τ0 pre vals).put (ops.getD i op0).dst x) H' K)→
          HL'.length=H'.length→N≤H'.length→(∀id,(∀j∈pre,lays [] (ops.getD j op0)=true→¬lsd listed j→id≠N+slot j)→HL'[id]? =H'[id]?)→(∀j∈pre,lays [] (ops.getD j op0)=true→¬lsd listed j→HL'[N+slot j]? =some .free∧H'[N+slot j]? =H[N+slot j]?)→
          RelS c (frP ops τ0 (pre.filter fun j=>listed.getD j false) vals) HL' [] pl' a w'→Rd w' pl' (za4 c.E HL' pl') x u→wpAnyIn c.F 0 P .any ops.toArray Q fuel (listed.setIfInBounds i true) (a.put (ops.getD i op0).dst u) w':=by
        intro x u H' HL' w' pl' hre hln hN hm2 hm3 hR' hx
        have hput:(frP ops τ0 pre vals).put (ops.getD i op0).dst x=frP ops τ0 (pre++[i]) fun j=>if j=i then x else vals j:=by
          rw[show frP ops τ0 pre vals=frP ops τ0 pre (fun j=>if j=i then x else vals j) from funext fun t=>zf6 k.ap v.lt v.lt (fun _ _=>Iff.rfl) fun j hj=>(if_neg (hne j hj)).symm]
          exact zls k.ap v.lt hip hlt (if_pos rfl)
        rw[hput]at hre
        have hpreL:∀j∈pre++[i],j<ops.length:=fun j hj=>by
          rcases List.mem_append.1 hj with h|h
          · exact v.lt j h
          · rw[List.mem_singleton.1 h];exact hlt
        have hchk:∀o∈chk.map (fun j=>ops.getD j op0),o.guard=none:=fun o ho=>by
          obtain⟨j,_,rfl⟩:=List.mem_map.1 ho
          by_cases hjl:j<ops.length
          · exact k.gd j _ (by rw[List.getElem?_eq_getElem hjl,List.getD_eq_getElem?_getD,List.getElem?_eq_getElem hjl];rfl)
          · rw[List.getD_eq_getElem?_getD,List.getElem?_eq_none (by omega)];rfl
        obtain⟨hrun2,hfacts⟩:=zrk hKT hchk hre
        have cases':∀j,j∈pre++[i]→j∈pre∨j=i:=fun j hj=>by simpa using hj
        have v':Inv P ops cl N τ0 (pre++[i]) r (fun j=>if j=i then x else vals j) slot H' HL' (listed.setIfInBounds i true):=by
          have un:∀{j},¬lsd (listed.setIfInBounds i true) j→j≠i∧¬lsd listed j:=fun{j} h=>⟨fun e=>h ((zct hsi).2 (.inl e)),fun e=>h ((zct hsi).2 (.inr e))⟩
          refine⟨hpreL,fun j hj q hq=>?_,fun j hj=>?_,fun j hj ha=>?_,fun j hj hu=>?_,fun j hj hl hja=>?_,fun p hp q hq lp ap lq aq he=>?_,hln,hN,fun id hid=>?_,fun j hj hl hu=>?_⟩
          · rcases cases' j hj with h|rfl
            · exact List.mem_append_left _ (v.cls j h q hq)
            · exact List.mem_append_left _ (s1 q hq)
          · rcases(zct hsi).1 hj with rfl|h
            · simp
            · exact List.mem_append_left _ (v.sub j h)
          · rcases cases' j hj with h|rfl
            · exact(zct hsi).2 (.inr (v.ac j h ha))
            · exact(zct hsi).2 (.inl rfl)
          · obtain⟨hji,hu'⟩:=un hu
            have hjp:=(cases' j hj).resolve_right hji
            have hlts:∀q∈clN cl j,q<ops.length:=fun q hq=>v.lt q (v.cls j hjp q hq)
            refine Fact.keep k.ap hlts (fun q hq=>(if_neg (hne q (v.cls j hjp q hq))).symm) (if_neg hji).symm rfl (fun hl=>(hm3 j hjp hl hu').2.symm) (fun hl hq=>?_) (v.fact j hjp hu')
            rcases s6 j hjp with((h|h)|⟨h,_⟩)|⟨⟨h,_⟩,hstr⟩
            · exact absurd (hclos j h) hu'
            · exact zfc h _ _ _ hq
            · rw[hl]at h;cases h
            · obtain⟨_,hkk⟩:=jff (unl j hjp hu')
              have h0:kOf [] (ops.getD j op0).op=0:=by
                rcases hkk with h0|h0
                · exact h0
                · unfold lays at hl;rw[h0]at hl;cases hl
              obtain⟨d,hd',hqq⟩:=hfacts _ (List.mem_map.2 ⟨j,h,rfl⟩) h0
              rw[zhm k.ap hpreL hj hd',if_neg hji]at hqq
              rw[←zgz (P:=P) (znj k.ap hpreL (vals:=fun j=>if j=i then x else vals j) (fun q hq=>List.mem_append_left _ (v.cls j hjp q hq)) hstr fun q hq=>if_neg (hne q (v.cls j hjp q hq)))]
              exact hqq
          · rcases cases' j hj with h|rfl
            · exact v.slt j h hl hja
            · rw[hanc]at hja;cases hja
          · rcases cases' p hp with h1|h1
            · rcases cases' q hq with h2|h2
              · exact v.inj p h1 q h2 lp ap lq aq he
              · rw[h2,hanc]at aq;cases aq
            · rw[h1,hanc]at ap;cases ap
          · exact hm2 id fun j hj hl hu=>hid j (List.mem_append_left _ hj) hl fun h=>by
              rcases(zct hsi).1 h with h|h
              · exact hne j hj h
              · exact hu h
          · obtain⟨hji,hu'⟩:=un hu
            exact(hm3 j ((cases' j hj).resolve_right hji) hl hu').1
        obtain⟨pre2,rest2,r2,vals2,slot2,H2,a1,a2,a3,a4,a5,a6⟩:=Inv.advance k hKT l (pre++[i]) r _ slot H' v' s7 hrun2
        refine ih (rem.erase i) pre2 rest2 r2 vals2 slot2 H2 HL' _ _ _ hlen' hrem' hsz' hcl' a1 a2 a3 (fun j hj=>a5 j ?_) a6 ?_
        · rcases hcov j hj with h|h
          · exact .inl (List.mem_append_left _ h)
          · rcases List.mem_cons.1 h with h|h
            · exact .inl (by rw[h];simp)
            · exact .inr h
        · have e:frP ops τ0 (pre2.filter fun j=>(listed.setIfInBounds i true).getD j false) vals2=(frP ops τ0 (pre.filter fun j=>listed.getD j false) vals).put (ops.getD i op0).dst x:=by
            have e1:frP ops τ0 (pre.filter fun j=>listed.getD j false) vals=frP ops τ0 (pre.filter fun j=>listed.getD j false) (fun j=>if j=i then x else vals j):=funext fun t=>zf6 k.ap hltL hltL (fun _ _=>Iff.rfl) fun j hj=>(if_neg (hne j (mem_fil.1 hj).1)).symm
            rw[e1,show(ops.getD i op0).dst=dsO ops i from rfl,zls k.ap hltL (fun h=>hip (mem_fil.1 h).1) hlt (if_pos rfl)]
            have hl2:∀j∈pre.filter (fun j=>listed.getD j false)++[i],j∈pre++[i]:=fun j hj=>by
              rcases List.mem_append.1 hj with h|h
              · exact List.mem_append_left _ (mem_fil.1 h).1
              · exact List.mem_append_right _ h
            refine(funext fun t=>zf6 k.ap (fun j hj=>hpreL j (hl2 j hj)) (fun j hj=>a1.lt j (mem_fil.1 hj).1) (fun j _=>?_) fun j hj=>((a4 j (hl2 j hj)).2).symm).symm
            rw[mem_fil,List.mem_append,mem_fil,List.mem_singleton,zct hsi]
            constructor
            · rintro(⟨h1,h2⟩|rfl)
              · exact⟨(a4 j (List.mem_append_left _ h1)).1,.inr h2⟩
              · exact⟨(a4 j (by simp)).1,.inl rfl⟩
            · rintro⟨h1,rfl|h2⟩
              · exact .inr rfl
              · exact .inl ⟨v.sub j h2,h2⟩
          rw[e]
          exact⟨_,hR'.put _ hdo hx⟩
      unfold aS at hrun'
      cases hcv:zci (ops.getD i op0).op with
      |true=>
        rw[if_pos hcv]at hrun'
        split at hrun'
        · rename_i f args ts eop
          have hop:∀y,y=f∨y∈args.toList→zap (frP ops τ0 pre vals) y=zap (frP ops τ0 (pre.filter fun j=>listed.getD j false) vals) y:=fun y hy=>hagSL y (by
            rw[eop]
            rcases hy with rfl|hy
            · simp[Op.operands,Call.operands]
            · exact zgy hy)
          have hargs:args.toList.map (zap (frP ops τ0 pre vals))=args.toList.map (zap (frP ops τ0 (pre.filter fun j=>listed.getD j false) vals)):=List.map_congr_left fun y hy=>hop y (.inr hy)
          rw[hop f (.inl rfl),hargs]at hrun'
          rcases hrun' with⟨x,hq,hkk⟩|⟨n,fi,ca,hcal,hrel⟩
          · have hq':OpQ P N HL (zap (frP ops τ0 (pre.filter fun j=>listed.getD j false) vals)) (ops.getD i op0).op x:=by
              rw[eop]
              refine zds (H:=H) (fun id hid=>(v.m2 id fun j _ _ _=>by omega).symm) _ _ ?_
              exact hq
            exact zbi c hnd (zgv hR hq' fun u w' h1 h2=>post hkk v.len v.nle v.m2 (fun j hj hl hu=>⟨v.m3 j hj hl hu,rfl⟩) h1 h2)
          · have hin:ji3 P sm (ops.getD i op0).op (frP ops τ0 (pre.filter fun j=>listed.getD j false) vals) HL fun x HL'=>∃H',reK P KT N (chk.map fun j=>ops.getD j op0) ((frP ops τ0 pre vals).put (ops.getD i op0).dst x) H' (sS P KT sm N τ0 r (stg ops l) ((frP ops τ0 pre vals).put (ops.getD i op0).dst x) H' K)∧
                HL'.length=H'.length∧N≤H'.length∧(∀id,(∀j∈pre,lays [] (ops.getD j op0)=true→¬lsd listed j→id≠N+slot j)→HL'[id]? =H'[id]?)∧(∀j∈pre,lays [] (ops.getD j op0)=true→¬lsd listed j→HL'[N+slot j]? =some .free∧H'[N+slot j]? =H[N+slot j]?):=by
              rw[eop]
              refine .inl ⟨n,fi,ca,hcal,?_⟩
              rcases hrel with⟨ds,Qr,g1,g2,g3⟩|⟨m,S,T,K0,e1,e2,e3,e4,e5,e6,e7,e8,e9,e10⟩
              · exact .inr (.inl ⟨ds,Qr,g1,g2,fun x hx=>⟨H,g3 x hx,v.len,v.nle,v.m2,fun j hj hl hu=>⟨v.m3 j hj hl hu,rfl⟩⟩⟩)
              · subst e1
                have hlS:S.length≤HL.length:=by rw[v.len,List.length_append];omega
                have hlow:∀id,id<S.length→HL[id]? =S[id]? :=fun id hid=>by
                  rw[v.m2 id fun j _ _ _=>by omega,List.getElem?_append_left hid]
                have hHL:HL=S++HL.drop S.length:=by
                  conv=>lhs;rw[←List.take_append_drop S.length HL]
                  congr 1
                  refine List.ext_getElem? fun id=>?_
                  by_cases hid:id<S.length
                  · rw[List.getElem?_take_of_lt hid,hlow id hid]
                  · rw[List.getElem?_eq_none (by simp;omega),List.getElem?_eq_none (by omega)]
                have hfree:∀id,HL[id]? =(S++T)[id]? ∨HL[id]? =some AObj.free:=fun id=>by
                  by_cases h:∀j∈pre,lays [] (ops.getD j op0)=true→¬lsd listed j→id≠N+slot j
                  · exact .inl (v.m2 id h)
                  · simp only[Classical.not_forall,Classical.not_imp,Decidable.not_not]at h
                    obtain⟨j,hj,hl,hu,rfl⟩:=h
                    exact .inr (v.m3 j hj hl hu)
                refine .inr (.inr ⟨m,S,HL.drop S.length,K0,hHL,e3,?_,e6,e7,fun o ho=>?_,e9,fun x S' hx=>?_⟩)
                · intro t
                  by_cases hex:∃j∈pre.filter (fun j=>listed.getD j false),dsO ops j=some t
                  · obtain⟨j,hj,ht⟩:=hex
                    rw[zhm k.ap hltL hj ht,←zhm (τ0:=τ0) (vals:=vals) k.ap v.lt (mem_fil.1 hj).1 ht]
                    exact e4 t
                  · rw[zv7 fun j hj ht=>hex ⟨j,hj,ht⟩];exact e5 t
                · obtain⟨q,hq⟩:=List.getElem?_of_mem ho
                  rw[List.getElem?_drop]at hq
                  rcases hfree (S.length+q)with h|h
                  · rw[h,List.getElem?_append_right (by omega),Nat.add_sub_cancel_left]at hq
                    exact e8 o (List.mem_of_getElem? hq)
                  · rw[h]at hq;cases hq;rfl
                · obtain⟨f1,f2⟩:=e10 x S' hx
                  have hup:∀(A:zaa) (id:Nat),S.length≤id→(S'++A)[id]? =(S++A)[id]? :=fun A id hid=>by
                    rw[List.getElem?_append_right (by omega),List.getElem?_append_right hid,f1]
                  refine⟨f1,S'++T,f2,?_,?_,fun id hid=>?_,fun j hj hl hu=>⟨?_,hup T _ (by omega)⟩⟩
                  · have:=v.len;simp only[List.length_append,List.length_drop]at this ⊢;omega
                  · have:=v.nle;simp only[List.length_append]at this ⊢;omega
                  · by_cases hlt':id<S.length
                    · rw[List.getElem?_append_left (by omega),List.getElem?_append_left (by omega)]
                    · rw[hup _ _ (by omega),hup _ _ (by omega),←hHL]
                      exact v.m2 id hid
                  · rw[hup _ _ (by omega),←hHL];exact v.m3 j hj hl hu
            exact zkm hsm hR hin fun x u HL' w' pl' ⟨H',b1,b2,b3,b4,b5⟩ h1 h2=>post b1 b2 b3 b4 b5 h1 h2
        · exact hrun'.elim
      |false=>
        rw[if_neg (by rw[hcv];decide)]at hrun'
        have hno:∀j∈pre,lays [] (ops.getD j op0)=true→lsd listed j:=fun j hj hl=>by
          rcases s6 j hj with((h|h)|⟨_,h⟩)|⟨⟨_,h⟩,_⟩
          · exact hclos j h
          · exfalso
            have hkk:kOf [] (ops.getD j op0).op=1∨kOf [] (ops.getD j op0).op=3:=by
              unfold lays at hl;simpa using hl
            rw[jfg h]at hkk
            rcases hkk with h|h<;>cases h
          · rw[hcv]at h;cases h
          · rw[hl]at h;cases h
        have heq:HL=H:=List.ext_getElem? fun id=>v.m2 id fun j hj hl hu=>absurd (hno j hj hl) hu
        subst heq
        have fin2:∀{x:AV} {u:Value} {H':zaa} {w':World} {pl':List (Option (Nat × Nat))},reK P KT N (chk.map fun j=>ops.getD j op0) ((frP ops τ0 pre vals).put (ops.getD i op0).dst x) H' (sS P KT sm N τ0 r (stg ops l) ((frP ops τ0 pre vals).put (ops.getD i op0).dst x) H' K)→N≤H'.length→
            RelS c (frP ops τ0 (pre.filter fun j=>listed.getD j false) vals) H' [] pl' a w'→Rd w' pl' (za4 c.E H' pl') x u→wpAnyIn c.F 0 P .any ops.toArray Q fuel (listed.setIfInBounds i true) (a.put (ops.getD i op0).dst u) w':=fun h hN h1 h2=>
          post h rfl hN (fun _ _=>rfl) (fun j hj hl hu=>absurd (hno j hj hl) hu) h1 h2
        obtain⟨b,hb,ht,_⟩:=zfv hrun'
        have hbt:b=true:=by rw[zjj hg]at hb;cases hb;rfl
        have hT:=ht hbt
        have hkc:kOf [] (ops.getD i op0).op=2∨kOf [] (ops.getD i op0).op=3∨kOf [] (ops.getD i op0).op=4:=by
          unfold anc at hanc
          simp only[hcv,Bool.false_or,Bool.or_eq_true,beq_iff_eq]at hanc
          rcases hanc with(h|h)|h
          · exact .inl h
          · exact .inr (.inl h)
          · exact .inr (.inr h)
        unfold cT at hT
        rcases hkc with hk2|hk3|hk4
        · simp only[hk2]at hT
          split at hT
          · rename_i t p y eop
            obtain⟨H1,hH,hh⟩:=hT
            have hq:=zfd hH
            rw[←eop,zm3 (P:=P) hagSL]at hq
            have hln:H1.length=HL.length:=by
              obtain⟨id,o,cs,_,_,rfl,_⟩:=zo2 hq
              simp
            exact zbi c hnd (zi3 hR hq fun w' pl' h1=>fin2 hh (hln▸v.nle) h1 (.d _ _ (.val _)))
          · exact hT.elim
        · simp only[hk3]at hT
          obtain⟨⟨x,ob,dd⟩,hl,hh⟩:=hT
          obtain⟨x',H1,hq,hh',hln⟩:=zli hl (K:=fun x H'=>reK P KT N (chk.map fun j=>ops.getD j op0) ((frP ops τ0 pre vals).put (ops.getD i op0).dst x) H' (sS P KT sm N τ0 r (stg ops l) ((frP ops τ0 pre vals).put (ops.getD i op0).dst x) H' K)∧N≤H'.length) ⟨hh,by
            have:=v.nle
            cases dd<;>simp[deadH]<;>omega⟩
          rw[zg0 (P:=P) hagSL]at hq
          exact zbi c hnd (zgw hR.reserve (by rw[List.getElem?_append_right (Nat.le_refl _)];simp) (fun p hp=>by cases hp) hq fun u w' pl' h1 h2=>fin2 hh' hln h1 h2)
        · simp only[hk4]at hT
          obtain⟨⟨x,H1⟩,hp,hh⟩:=hT
          have hq:=zjd hKT hp
          have hln:=jfh hq
          rw[zm4 (P:=P) hagSL]at hq
          exact zbi c hnd (zi1 hR hq fun u w' h1 h2=>fin2 hh (hln▸v.nle) h1 h2)
end
/- Of no program: regions that draw and hold calls that move objects: the rule, and its run for simp. -/
end
section
section
variable {P:Program} {KT:TypeId→Bool} {c:Cx} {τ:Fr} {H:zaa} {Q:Exit→Fr→zaa→Prop}
theorem jdb{sm:List Nat}(hKT:∀k,KT k=true→Maps.Keyed P k)(hc0:Kp c sm){id:Nat}{l:List Oper}{n:Nat}(hn:c.nt=n)(hm:P.follows .mixedOrders=true)(hd:zdl n l=true)(st:List (Nat × List Nat))(cl:List (List Nat))(q:Nat)(hC:chC l cl st=true)
  (h:∀K:Fr→zaa→Prop,(∀τ H,Q .normal τ H→K τ H)→sS P KT sm H.length τ 0 (stg l st) τ (H++List.replicate q .free) K):AWp P c (.region id l.toArray true) Q τ H:=fun a w hR=>by
 refine wpIn_region_any hm ?_
 obtain⟨k,hst,hlen⟩:=Ck.of hC
 have hR':R c τ (H++List.replicate q .free) [] a {w with drawn:=w.drawn+1}:=R.reserve _ _ (by obtain⟨pl,h⟩:=hR;exact⟨pl,h.drew⟩)
 have hnl:∀j,¬lsd (Array.replicate l.length false) j:=fun j h=>by
  by_cases hj:j<l.length<;>simp[lsd,Array.getD,hj]at h
 have v:Inv P l cl H.length τ [] 0 (fun _=>.any) (fun _=>0) (H++List.replicate q .free) (H++List.replicate q .free) (Array.replicate l.length false):=
  ⟨fun i hi=>(by cases hi),fun i hi=>(by cases hi),fun i hi=>absurd hi (hnl i),fun i hi=>(by cases hi),fun i hi=>(by cases hi),fun i hi=>(by cases hi),fun i hi=>(by cases hi),rfl,by simp,fun _ _=>rfl,fun i hi=>(by cases hi)⟩
 have hcl:Closed l (Array.replicate l.length false):=fun j o _ hj=>absurd hj (hnl j)
 obtain⟨pre2,rest2,r2,vals2,slot2,H2,a1,a2,a3,a4,a5,a6⟩:=Inv.advance (sm:=sm) k hKT st [] 0 _ _ _ v hst (h (Q .normal) fun _ _ h=>h)
 have:=zv8 (c:=c) (P:=P) k hKT (hn▸hd) hc0 (K:=Q .normal) (Q:=fun e a' w'=>∃τ' H',R c τ' H' [] a' w'∧Q e τ' H') (fun τ' H' a' w' hk hr=>⟨τ',H',hr,hk⟩) l.length (List.range l.length) pre2 rest2 r2 vals2 slot2 H2 _ (Array.replicate l.length false) a {w with drawn:=w.drawn+1} (by simp) (fun i hi _=>List.mem_range.2 hi) (by simp) hcl a1 a2 a3
  (fun i hi=>a5 i (.inr (hlen i hi))) a6 (by
   have e:pre2.filter (fun j=>(Array.replicate l.length false).getD j false)=[]:=List.filter_eq_nil_iff.2 fun j _=>hnl j
   rw[e];exact hR')
 simpa using this
theorem zkv{sm:List Nat}(hKT:∀k,KT k=true→Maps.Keyed P k)(hc0:Kp c sm){id:Nat}{l:List Oper}{y:Code}{n:Nat}(hn:c.nt=n)(hm:P.follows .mixedOrders=true)(hd:zdl n l=true)(st:List (Nat × List Nat))(cl:List (List Nat))(q:Nat)(hC:chC l cl st=true)
  (h:∀K:Fr→zaa→Prop,(∀τ H,AWp P c y Q τ H→K τ H)→sS P KT sm H.length τ 0 (stg l st) τ (H++List.replicate q .free) K):AWp P c (.seq (.region id l.toArray true) y) Q τ H:=
 zgg (jdb hKT hc0 hn hm hd st cl q hC fun K hK=>h K fun τ H hh=>hK τ H hh)
end
section
variable {P:Program} {KT:TypeId→Bool} {sm:List Nat} {l:List (Oper × List Oper)} {chk:List Oper} {τ τ0:Fr} {H:zaa} {N r e:Nat} {d:Option Tmp} {ty:TypeId} {pos:String} {af:Array Edge} {K:Fr→zaa→Prop}
def rT{K:Prop}(P:Program)(KT:TypeId→Bool)(N:Nat)(chk:List Oper)(τ:Fr)(H:zaa)(_:Tg K):Prop:=reK P KT N chk τ H K
theorem jdc{K:Prop}:rT P KT N [] τ H (tg K)=K:=rfl
theorem zv9{K:Prop}{t:TypeId}{y:Operand}:rT P KT N (⟨some e,.load t y,ty,pos,af,none⟩::chk) τ H (tg K)=(oK (loadF P N H t (zap τ y))<|tg fun x=>x=τ e∧rT P KT N chk τ H (tg K)):=by
 have h:(fun x=>(τ.put (some e) x) e=τ e∧reK P KT N chk τ H K)=fun x=>x=τ e∧reK P KT N chk τ H K:=funext fun x=>by simp only[Fr.put,if_true]
 exact congrArg (zo9 (loadF P N H t (zap τ y))) h
theorem zwa{ops:List Oper}:stg ops []=[]:=rfl
theorem zrl{ops:List Oper}{i:Nat}{c:List Nat}{st:List (Nat × List Nat)}:stg ops ((i,c)::st)=(ops.getD i op0,c.map fun j=>ops.getD j op0)::stg ops st:=rfl
theorem jdd:sS P KT sm N τ0 r [] τ H K=K τ H:=rfl
theorem zwb{y:Operand}:sS P KT sm N τ0 r ((⟨d,.move y,ty,pos,af,none⟩,chk)::l) τ H K=(sS P KT sm N τ0 r l (τ.put d (zap τ y)) H K):=by simp[sS,oS,anc,sE,zbr,GK,cE,kOf,zci,opF,zc4,lays]
theorem zwc{t:TypeId}{y:Operand}:sS P KT sm N τ0 r ((⟨d,.load t y,ty,pos,af,none⟩,chk)::l) τ H K=(oK (loadF P N H t (zap τ y))<|tg fun x=>sS P KT sm N τ0 r l (τ.put d x) H K):=rfl
theorem jj5{t:TypeId}{y:Operand}{f:Nat}:sS P KT sm N τ0 r ((⟨d,.fieldAddr t y f,ty,pos,af,none⟩,chk)::l) τ H K=(oK (fieldAddrF P t f (zap τ y))<|tg fun x=>sS P KT sm N τ0 r l (τ.put d x) H K):=rfl
theorem jj6{t:TypeId}{y z:Operand}:sS P KT sm N τ0 r ((⟨d,.indexAddr t y z,ty,pos,af,none⟩,chk)::l) τ H K=(oK (indexAddrF P t (zap τ y) (zap τ z))<|tg fun x=>sS P KT sm N τ0 r l (τ.put d x) H K):=rfl
theorem zrm{f:FuncId}{args:Array Operand}{ts:Array TypeId}:sS P KT sm N τ0 r ((⟨d,.call ⟨.value (.func f),args,ts⟩,ty,pos,af,none⟩,chk)::l) τ H K=(kE P sm N τ0 τ H ((zap τ (.func f))) (args.toList.map (zap τ))<|tg fun x H'=>rT P KT N chk (τ.put d x) H' (tg (sS P KT sm N τ0 r l (τ.put d x) H' K))):=rfl
theorem zrn{t:TypeId}{y z:Operand}:sS P KT sm N τ0 r ((⟨d,.store t y z,ty,pos,af,none⟩,chk)::l) τ H K=(oK (storeF P t (zap τ y) (zap τ z) H [] 0)<|tg fun H'=>rT P KT N chk (τ.put d (.d (.val undef))) H' (tg (sS P KT sm N τ0 r l (τ.put d (.d (.val undef))) H' K))):=rfl
end
/- Of no program: sets of integers, kept in maps of the call's own. -/
end
section
section
variable {P:Program} {KT:TypeId→Bool} {H:zaa} {ρ:Operand→AV} {N:Nat}
end
/- Of no program: calls whose result lies in one new object of the caller's own. -/
end
section
section
variable {P:Program} {H:zaa} {N:Nat} {sm:List Nat} {τ:Fr}
end
/- Of no program: maps whose values are plain. -/
end
section
abbrev Mp:=List (Value × Nat × Value) × Nat
def mE(s:List (Value × Nat × Value)):List (Value × Nat × AV):=s.map fun e=>(e.1,e.2.1,.d (.val e.2.2))
def mO(μ:Mp):AObj:=.map (mE μ.1) μ.2
section
variable {P:Program} {KT:TypeId→Bool} {H:zaa} {ρ:Operand→AV} {N:Nat}
def muO(P:Program)(KT:TypeId→Bool)(t:TypeId)(id:Nat)(v:Value)(y:AV)(H:zaa)(o:Option AObj):Option (AV × zaa):=
 match zml P t with
 |some (kt,_)=>(match o with
  |some (.map es clock)=>if KT kt&&zoq v&&(keyOf P kt v).isSome&&zd6 P kt es&&true then
    some (.d (.val undef),H.set id (match zdx v es 0 with|some (i,_)=>.map (es.modify i fun q=>(q.1,q.2.1,y)) clock|none=>.map (es++[(v,clock,y)]) (clock+1)))else none
  |_=>none)
 |none=>none
def muK(P:Program)(KT:TypeId→Bool)(t:TypeId)(m:AV)(k:Option Value)(y:AV)(H:zaa):Option (AV × zaa):=
 match m,k with
 | .om id,some v=>muO P KT t id v y H (H[id]?)
 |_,_=>none
theorem zro{t:TypeId}{m k y:Operand}:jcm P KT ρ (.mapUpdate t m k y) H []=muK P KT t (ρ m) (zqa (ρ k)) (ρ y) H:=by
 unfold jcm muK muO
 simp only[List.all_nil,Bool.and_true]
 cases ρ m<;>cases zml P t<;>cases zqa (ρ k)<;>rfl
theorem zbq{p:Nat→Bool}{μ:Mp}:(mO μ).allI p=true:=by
 show AV.allIs p ((mE μ.1).map (·.2.2))=true
 generalize μ.1=s
 induction s with
 |nil=>rfl
 |cons e s ih=>exact ih
theorem jj7{keep:List Nat}{cs:List AV}:gcO keep (.cells cs)= .cells (gcVs keep cs):=rfl
theorem jde{keep:List Nat}:gcO keep .dead= .dead:=rfl
theorem jdf{keep:List Nat}:gcO keep .free= .free:=rfl
theorem jj8{id:Nat}{l:List D}{cs:List AV}:fzO id l (.cells cs)= .cells (fzVs id l cs):=rfl
theorem jdg{id:Nat}{l:List D}:fzO id l .dead= .dead:=rfl
theorem jdh{id:Nat}{l:List D}:fzO id l .free= .free:=rfl
theorem za9{p:Nat→Bool}{cs:List AV}:(AObj.cells cs).allI p=AV.allIs p cs:=rfl
theorem za0{p:Nat→Bool}:AObj.dead.allI p=true:=rfl
theorem za1{p:Nat→Bool}:AObj.free.allI p=true:=rfl
theorem zar{p:Nat→Bool}{l:List D}:AV.allIs p (avs l)=true:=by
 induction l with
 |nil=>rfl
 |cons e s ih=>exact ih
theorem jo4{sm:List Nat}{τ0 τ:Fr}{f:FuncId}{args:List AV}{S T:zaa}{K0 KK:AV→zaa→Prop}{ks:List Nat}(h:ScS P ks f args S K0)(hH:H=S++T)(hN:S.length≤N)(hm:sm.all (okI ks S.length)=true)(hτ:∀t,(τ t).allI (okI ks S.length)=true)(h0:∀t,(τ0 t).allI (okI ks S.length)=true)(ha:AV.allIs (ltI S.length) args=true)
  (hS:∀o∈S,o.allI (ltI S.length)=true) (hT:∀o∈T,o.allI (okI ks S.length)=true) (hK:∀x S',K0 x S'→S'.length=S.length∧KK x (S'++T)):kE P sm N τ0 τ H (.d (.val (.func (.func f) #[] #[]))) args (tg KK):=
 .inr ⟨f,[],[],rfl,.inr ⟨ks,S,T,K0,hH,hN,hm,hτ,h0,by simpa using ha,hS,hT,by simpa using h,hK⟩⟩
end
/- Of no program: loops over the elements of a set, in whatever order they come. -/
end
section
open Go Go.RowKit Go.Maps
open Go.WideElems (Fit rd rg rg_of)
section
variable {P:Program} {kt:TypeId}
end
section
variable {P:Program} {c c1:Cx} {τ τ':Fr} {a a':Act} {w w' w1:World} {pl pl':List (Option (Nat × Nat))} {H H':zaa} {r:Nat} {ks:List Nat}
end
section
variable {P:Program} {c:Cx} {τ:Fr} {H:zaa} {Q:Exit→Fr→zaa→Prop}
theorem Rd.val_eq{w:World}{pl:List (Option (Nat × Nat))}{own:Nat→Prop}{u v:Value}(h:Rd w pl own (.d (.val u)) v):v=u:=by
 cases h with|d _ _ h=>cases h;rfl
end
end
end Go.Proofs.Ytfolbdkbpmgjgaa
