/- Of no program: regions that draw their order and hold calls that move objects: what only looks is taken early, and looked at again behind each call. -/
import Derived.Test.YtapjobndmmkanaaGreatAR
import Derived.Maps.RangeWalk
import Derived.Sort.MapsRangeIn
set_option linter.unusedVariables false
set_option linter.unusedSimpArgs false
namespace Go.Proofs.YtapjobndmmkanaaGreat
open Go Go.RowKit
section
section
variable (P:Program) (KT:TypeId→Bool) (sm:List Nat) (N:Nat) (τ0:Fr)
def ScE(n:FuncId)(xs:List AV)(τ:Fr)(H:ak)(K:AV→ak→Prop):Prop:=
  ∃(m:List Nat) (S T:ak) (K0:AV→ak→Prop),H=S++T∧S.length≤N∧sm.all (aJ m S.length)=true∧(∀t,(τ t).allI (aJ m S.length)=true)∧(∀t,(τ0 t).allI (aJ m S.length)=true)∧
    AV.ah (aN S.length) xs=true∧(∀o∈S,o.allI (aN S.length)=true)∧(∀o∈T,o.allI (aJ m S.length)=true)∧cM P m n xs S K0∧∀x S',K0 x S'→S'.length=S.length∧K x (S'++T)
def kS(τ:Fr)(H:ak)(f:AV)(xs:List AV)(KK:AV→ak→Prop):Prop:=
  (∃x,BP P N H f xs x∧KK x H)∨∃n fi ca,zj f=some (n,fi,ca)∧
    ((∃ds Q,AV.lT.iO (fi++xs++ca)=some ds∧tV P n ds Q∧∀x,Q x→KK x H)∨ScE P sm N τ0 n (fi++xs++ca) τ H KK)
def kE{KK:AV→ak→Prop}(τ:Fr)(H:ak)(f:AV)(xs:List AV)(_:Tg KK):Prop:=kS P sm N τ0 τ H f xs KK
def lN(op:Op):Bool:=qg op||fW [] op==2||fW [] op==3||fW [] op==4
def aS(o:Oper)(τ:Fr)(H:ak)(KK:Fr→ak→Prop):Prop:=
  if qg o.op then match o.op with
    | .call {callee:=.value f,args:=args,..}=>kS P sm N τ0 τ H (aU τ f) (args.toList.map (aU τ)) fun x H'=>KK (τ.put o.dst x) H'
    |_=>False
  else sT P KT [] [] [o] τ H KK
def sQ:List Oper→Fr→ak→Prop→Prop
  |[],_,_,K=>K
  |o::l,τ,H,K=>match o.dst with
    |some d=>sE P KT [] N 0 0 [] [o] τ H [] fun τ' _ _=>τ' d=τ d∧sQ l τ H K
    |none=>False
def oS(r:Nat)(o:Oper)(eH:List Oper)(τ:Fr)(H:ak)(KK:Nat→Fr→ak→Prop):Prop:=
  if lN o.op then aS P KT sm N τ0 o τ H fun τ' H'=>sQ P KT N eH τ' H' (KK r τ' H')
  else sE P KT [] N 0 r [] [o] τ H [] fun τ' H' _=>KK (if bp [] o then r+1 else r) τ' H'
def sS:Nat→List (Oper × List Oper)→Fr→ak→(Fr→ak→Prop)→Prop
  |_,[],τ,H,K=>K τ H
  |r,(o,eH)::l,τ,H,K=>oS P KT sm N τ0 r o eH τ H fun r' τ' H'=>sS r' l τ' H' K
end
def bV : Oper := ⟨none, .move (.const undef), 0, "", #[], none⟩
def qV(ops:List Oper)(st:List (Nat × List Nat)):List (Oper × List Oper):=st.map fun p=>(ops.getD p.1 bV,p.2.map fun j=>ops.getD j bV)
def wj(o:Oper):List Nat:=(o.after.toList.filter (Region.binds .any)).map (·.on)
def GG(o:Oper):List Tmp:=o.op.operands.toList.filterMap fun| .tmp t=>some t|_=>none
def ju(cl:List (List Nat))(i:Nat):List Nat:=cl.getD i []
def jjp(ops:List Oper)(cl:List (List Nat))(j:Nat):Bool:=(GG (ops.getD j bV)).all fun t=>(List.range ops.length).all fun k=>(ops.getD k bV).dst !=some t||(ju cl j).contains k
def yC(ops:List Oper)(cl:List (List Nat)):List Nat→List (Nat × List Nat)→Bool
  |_,[]=>true
  |done,(i,eH)::l=>(ju cl i).all (done.contains ·)&&(wj (ops.getD i bV)).all ((ju cl i).contains ·)&& !done.contains i&&decide (i<ops.length)&&
      (!lN (ops.getD i bV).op||(l.all fun q=>(ju cl q.1).contains i)&&done.all fun j=>(ju cl i).contains j||quiet (ops.getD j bV).op||(bp [] (ops.getD j bV)&&qg (ops.getD i bV).op)||eH.contains j&& !bp [] (ops.getD j bV)&&jjp ops cl j)&&
      yC ops cl (done++[i]) l
def Me(ops:List Oper)(cl:List (List Nat))(st:List (Nat × List Nat)):Bool:=
  yC ops cl [] st&&((List.range ops.length).all fun i=>(st.map (·.1)).contains i)&&((List.range ops.length).all fun i=>(wj (ops.getD i bV)).all fun d=>decide (d<i))&&(ops.all fun o=>o.guard.isNone)&&
  ((List.range ops.length).all fun i=>(ju cl i).all fun j=>(wj (ops.getD i bV)).contains j||(wj (ops.getD i bV)).any fun d=>decide (d<i)&&(ju cl d).contains j)&&
  ((List.range ops.length).all fun i=>(List.range ops.length).all fun j=>i==j||(ops.getD i bV).dst==none||(ops.getD i bV).dst !=(ops.getD j bV).dst)&&
  (List.range ops.length).all fun i=>(GG (ops.getD i bV)).all fun t=>(List.range ops.length).all fun j=>(ops.getD j bV).dst !=some t||(ju cl i).contains j||(ju cl j).contains i
section
variable {P:Program} {KT:TypeId→Bool} {sm:List Nat} {ops:List Oper} {N:Nat} {τ0:Fr} {cl:List (List Nat)} {c:Cx}
def rI(ops:List Oper)(i:Nat):Option Tmp:=(ops.getD i bV).dst
def eb(ops:List Oper)(τ0:Fr)(S:List Nat)(vals:Nat→AV):Fr:=fun t=>match S.find? fun i=>rI ops i==some t with
  |some i=>vals i
  |none=>τ0 t
def E0(ops:List Oper):Prop:=∀i j t,i<ops.length→j<ops.length→rI ops i=some t→rI ops j=some t→i=j
theorem DD(ha:E0 ops){S:List Nat}(hS:∀i∈S,i<ops.length){vals:Nat→AV}{i:Nat}(hi:i∈S){t:Tmp}(ht:rI ops i=some t):eb ops τ0 S vals t=vals i:=by
  unfold eb
  cases hf:S.find? fun i=>rI ops i==some t with
  |none=>
    have:=List.find?_eq_none.1 hf i hi
    simp[ht]at this
  |some j=>
    have h1:=List.find?_some hf
    have h2:=List.mem_of_find?_eq_some hf
    rw[ha i j t (hS i hi) (hS j h2) ht (by simpa using h1)]
theorem PX{S:List Nat}{vals:Nat→AV}{t:Tmp}(h:∀i∈S,rI ops i≠some t):eb ops τ0 S vals t=τ0 t:=by
  unfold eb
  rw[List.find?_eq_none.2 fun i hi=>by simpa using h i hi]
theorem yr(ha:E0 ops){S S':List Nat}(hS:∀i∈S,i<ops.length)(zV:∀i∈S',i<ops.length){vals vals':Nat→AV}{t:Tmp}(h:∀i,rI ops i=some t→(i∈S↔i∈S'))(hv:∀i∈S,vals i=vals' i):eb ops τ0 S vals t=eb ops τ0 S' vals' t:=by
  by_cases hex:∃i∈S,rI ops i=some t
  · obtain⟨i,hi,ht⟩:=hex
    rw[DD ha hS hi ht,DD ha zV ((h i ht).1 hi) ht,hv i hi]
  · have h1:∀i∈S,rI ops i≠some t:=fun i hi ht=>hex ⟨i,hi,ht⟩
    rw[PX h1,PX fun i hi ht=>h1 i ((h i ht).2 hi) ht]
theorem Jf(ha:E0 ops){S:List Nat}(hS:∀i∈S,i<ops.length){vals:Nat→AV}{i:Nat}(hi:i∉S)(aA:i<ops.length){v:AV}(hv:vals i=v):(eb ops τ0 S vals).put (rI ops i) v=eb ops τ0 (S++[i]) vals:=by
  have zV:∀j∈S++[i],j<ops.length:=fun j hj=>by
    rcases pr.1 hj with h|h
    · exact hS j h
    · rw[sa.1 h];exact aA
  funext t
  cases hd:rI ops i with
  |none=>
    show eb ops τ0 S vals t=_
    refine yr ha hS zV (fun j hj=>?_) fun _ _=>rfl
    have:j≠i:=fun e=>by rw[e,hd]at hj;cases hj
    simp[this]
  |some d=>
    simp only[Fr.put]
    split
    · rename_i e
      subst e
      rw[DD ha zV (i:=i) (by simp) hd,hv]
    · rename_i cw
      refine yr ha hS zV (fun j hj=>?_) fun _ _=>rfl
      have:j≠i:=fun e=>by rw[e,hd]at hj;cases hj;exact cw rfl
      simp[this]
structure Ck (ops:List Oper) (cl:List (List Nat)):Prop where
  ap:E0 ops
  gd:∀(i:Nat) (o:Oper),ops[i]? =some o→o.guard=none
  bk:∀i,i<ops.length→∀d∈wj (ops.getD i bV),d<i
  cl1:∀i,i<ops.length→∀j∈ju cl i,j∈wj (ops.getD i bV)∨∃d∈wj (ops.getD i bV),d<i∧j∈ju cl d
  opd:∀i,i<ops.length→∀t∈GG (ops.getD i bV),∀j,j<ops.length→rI ops j=some t→j∈ju cl i∨i∈ju cl j
theorem Ck.of{st:List (Nat × List Nat)}(h:Me ops cl st=true):Ck ops cl∧yC ops cl [] st=true∧∀i,i<ops.length→i∈st.map (·.1):=by
  unfold Me at h
  simp only[gG,oU]at h
  obtain⟨⟨⟨⟨⟨⟨h1,h2⟩,h7⟩,h3⟩,h4⟩,h5⟩,h6⟩:=h
  refine⟨⟨fun i j t hi hj LX HC=>?_,fun i o ho=>?_,fun i hi d hd=>by simpa using kF.1 (kF.1 h7 i (qk.2 hi)) d hd,fun i hi j hj=>?_,fun i hi t ht j hj HC=>?_⟩,h1,fun i hi=>by simpa using kF.1 h2 i (qk.2 hi)⟩
  · have:=kF.1 (kF.1 h5 i (qk.2 hi)) j (qk.2 hj)
    simp only[Bool.or_eq_true,beq_iff_eq,bne_iff_ne,ne_eq]at this
    unfold rI at LX HC
    rcases this with(h|h)|h
    · exact h
    · rw[h]at LX;cases LX
    · exact absurd (LX.trans HC.symm) h
  · have:=kF.1 h3 o (List.mem_of_getElem? ho)
    simpa using this
  · have:=kF.1 (kF.1 h4 i (qk.2 hi)) j hj
    simp only[Bool.or_eq_true,List.contains_eq_mem,oU,List.any_eq_true,gG]at this
    exact this
  · have:=kF.1 (kF.1 (kF.1 h6 i (qk.2 hi)) t ht) j (qk.2 hj)
    simp only[Bool.or_eq_true,bne_iff_ne,ne_eq,List.contains_eq_mem,oU]at this
    unfold rI at HC
    rcases this with(h|h)|h
    · exact absurd HC h
    · exact .inl h
    · exact .inr h
def ik(listed:Array Bool)(i:Nat):Prop:=listed.getD i false=true
theorem Ck.closed(k:Ck ops cl){listed:Array Bool}(hc:ig ops listed):∀(n i:Nat),i<n→i<ops.length→(∀d∈wj (ops.getD i bV),ik listed d)→∀j∈ju cl i,ik listed j
  |n+1,i,hn,hi,hw,j,hj=>by
    rcases k.cl1 i hi j hj with h|⟨d,hd,aA,h⟩
    · exact hw j h
    · refine k.closed hc n d (by omega) (by omega) (fun e he=>?_) j h
      have mG:d<ops.length:=by omega
      unfold wj at he
      obtain⟨ed,hed,rfl⟩:=kV.1 he
      obtain⟨h1,h2⟩:=List.mem_filter.1 hed
      rw[gp,ij mG]at h1
      exact hc d ops[d] (ij mG) (hw d hd) ed (by simpa using h1) h2
theorem ju8{i:Nat}{o:Oper}(h:ops[i]? =some o):ops.getD i bV=o:=by rw[gp,h];rfl
theorem Ck.ready(k:Ck ops cl){listed:Array Bool}(hc:ig ops listed){i:Nat}(hi:i∈Region.ready .any ops.toArray listed):i<ops.length∧listed.getD i true=false∧∀j∈ju cl i,ik listed j:=by
  obtain⟨h0,o,ho,cP⟩:=mem_ready.1 hi
  rw[List.getElem?_toArray]at ho
  have aA:=(dX.1 ho).1
  refine⟨aA,h0,k.closed hc (i+1) i (by omega) aA fun d hd=>?_⟩
  rw[ju8 ho]at hd
  unfold wj at hd
  obtain⟨e,he,rfl⟩:=kV.1 hd
  obtain⟨h1,h2⟩:=List.mem_filter.1 he
  exact cP e (by simpa using h1) h2
theorem Ck.agree(k:Ck ops cl){S:List Nat}(hS:∀i∈S,i<ops.length){vals vals':Nat→AV}{i:Nat}(hi:i<ops.length)(gj:∀j∈ju cl i,j∈S)(lX:∀j∈S,i∉ju cl j)(hv:∀j∈ju cl i,vals j=vals' j):
    ∀y∈(ops.getD i bV).op.operands,aU (eb ops τ0 S vals) y=aU (eb ops τ0 (ju cl i) vals') y:=fun y hy=>by
  cases y with
  |tmp t=>
    have ht:t∈GG (ops.getD i bV):=List.mem_filterMap.2 ⟨.tmp t,by simpa using hy,rfl⟩
    refine(yr k.ap (fun j hj=>hS j (gj j hj)) hS (fun j hj=>⟨gj j,fun L4=>?_⟩) fun j hj=>(hv j hj).symm).symm
    rcases k.opd i hi t ht j (hS j L4) hj with h|h
    · exact h
    · exact absurd h (lX j L4)
  |_=>rfl
theorem zxg(ha:E0 ops){S:List Nat}(hS:∀i∈S,i<ops.length){vals vals':Nat→AV}{i:Nat}(gj:∀j∈ju cl i,j∈S)(hs:jjp ops cl i=true)(hv:∀j∈ju cl i,vals j=vals' j):
    ∀y∈(ops.getD i bV).op.operands,aU (eb ops τ0 S vals) y=aU (eb ops τ0 (ju cl i) vals') y:=fun y hy=>by
  cases y with
  |tmp t=>
    have ht:t∈GG (ops.getD i bV):=List.mem_filterMap.2 ⟨.tmp t,by simpa using hy,rfl⟩
    refine(yr ha (fun j hj=>hS j (gj j hj)) hS (fun j hj=>⟨gj j,fun L4=>?_⟩) fun j hj=>(hv j hj).symm).symm
    have:=kF.1 (kF.1 hs t ht) j (qk.2 (hS j L4))
    simp only[Bool.or_eq_true,bne_iff_ne,ne_eq,List.contains_eq_mem,oU]at this
    exact this.resolve_left fun h=>h hj
  |_=>rfl
def Fact(P:Program)(ops:List Oper)(cl:List (List Nat))(N:Nat)(τ0:Fr)(vals:Nat→AV)(slot:Nat→Nat)(H:ak)(i:Nat):Prop:=
  if bp [] (ops.getD i bV)then ∃o,H[N+slot i]? =some o∧∀H2,ka P true (N+slot i) (aU (eb ops τ0 (ju cl i) vals)) (ops.getD i bV).op H2 [] (vals i) (H2.set (N+slot i) o) []
  else gR P N H (aU (eb ops τ0 (ju cl i) vals)) (ops.getD i bV).op (vals i)
structure Inv (P:Program) (ops:List Oper) (cl:List (List Nat)) (N:Nat) (τ0:Fr) (pre:List Nat) (r:Nat) (vals:Nat→AV) (slot:Nat→Nat) (H HL:ak) (listed:Array Bool):Prop where
  lt:∀i∈pre,i<ops.length
  cls:∀i∈pre,∀j∈ju cl i,j∈pre
  sub:∀i,ik listed i→i∈pre
  ac:∀i∈pre,lN (ops.getD i bV).op=true→ik listed i
  fact:∀i∈pre,¬ik listed i→Fact P ops cl N τ0 vals slot H i
  slt:∀i∈pre,bp [] (ops.getD i bV)=true→lN (ops.getD i bV).op=false→slot i<r
  inj:∀i∈pre,∀j∈pre,bp [] (ops.getD i bV)=true→lN (ops.getD i bV).op=false→bp [] (ops.getD j bV)=true→lN (ops.getD j bV).op=false→slot i=slot j→i=j
  len:HL.length=H.length
  AQ:N≤H.length
  m2:∀id,(∀i∈pre,bp [] (ops.getD i bV)=true→¬ik listed i→id≠N+slot i)→HL[id]? =H[id]?
  m3:∀i∈pre,bp [] (ops.getD i bV)=true→¬ik listed i→HL[N+slot i]? =some .free
theorem M4{ops:List Oper}{τ:Fr}{o:Oper}(h:o.guard=none):kl ops τ o=some true:=by unfold kl;rw[h]
theorem jrs{r:Nat}{o:Oper}(hg:o.guard=none)(dB:∀k,KT k=true→Maps.Keyed P k){τ:Fr}{H:ak}{KK:Fr→ak→List (Nat × Nat)→Prop}(h:sE P KT [] N 0 r [] [o] τ H [] KK):
    tO P [] N r (tY [] o) [] o τ H [] fun x H' sh'=>KK (τ.put o.dst x) H' sh':=by
  obtain⟨b,hb,ht,_⟩:=FP h
  have:b=true:=by rw[M4 hg]at hb;cases hb;rfl
  exact Pp dB (ht this)
theorem Fact.keep(ha:E0 ops){vals vals':Nat→AV}{slot lG:Nat→Nat}{H H':ak}{i:Nat}(aA:∀j∈ju cl i,j<ops.length)(hv:∀j∈ju cl i,vals j=vals' j)(hi:vals i=vals' i)(hs:slot i=lG i)
    (hH:bp [] (ops.getD i bV)=true→H[N+slot i]? =H'[N+slot i]?) (hQ:bp [] (ops.getD i bV)=false→gR P N H (aU (eb ops τ0 (ju cl i) vals)) (ops.getD i bV).op (vals i)→gR P N H' (aU (eb ops τ0 (ju cl i) vals)) (ops.getD i bV).op (vals i))
    (h:Fact P ops cl N τ0 vals slot H i):Fact P ops cl N τ0 vals' lG H' i:=by
  have e:eb ops τ0 (ju cl i) vals=eb ops τ0 (ju cl i) vals':=funext fun t=>yr ha aA aA (fun _ _=>Iff.rfl) hv
  unfold Fact at h ⊢
  rw[←e,←hi,←hs]
  cases hl:bp [] (ops.getD i bV)with
  |true=>
    rw[if_pos hl]at h
    rw[if_pos rfl,←hH hl];exact h
  |false=>
    rw[if_neg (by rw[hl];decide)]at h
    rw[if_neg (by decide)];exact hQ hl h
theorem Pl{op:Op}(h:lN op=false):qg op=false∧(fW [] op=0∨fW [] op=1):=by
  unfold lN at h
  simp only[Bool.or_eq_false_iff,beq_eq_false_iff_ne,ne_eq]at h
  obtain⟨⟨⟨h1,h2⟩,h3⟩,h4⟩:=h
  refine⟨h1,?_⟩
  rcases Dx [] op with h|h|h|h|h
  · exact .inl h
  · exact .inr h
  · exact absurd h h2
  · exact absurd h h3
  · exact absurd h h4
theorem Inv.GJ(k:Ck ops cl)(dB:∀k,KT k=true→Maps.Keyed P k){pre:List Nat}{r:Nat}{vals:Nat→AV}{slot:Nat→Nat}{H HL:ak}{listed:Array Bool}(v:Inv P ops cl N τ0 pre r vals slot H HL listed){i:Nat}{KK:Nat→Fr→ak→Prop}
    (hi:i<ops.length) (hn:i∉pre) (gj:∀j∈ju cl i,j∈pre) (ha:lN (ops.getD i bV).op=false)
    (h:sE P KT [] N 0 r [] [ops.getD i bV] (eb ops τ0 pre vals) H [] fun τ' H' _=>KK (if bp [] (ops.getD i bV)then r+1 else r) τ' H'):
    ∃r' vals' lG H',Inv P ops cl N τ0 (pre++[i]) r' vals' lG H' HL listed∧KK r' (eb ops τ0 (pre++[i]) vals') H'∧∀j∈pre,vals' j=vals j:=by
  have hg:(ops.getD i bV).guard=none:=k.gd i _ (by rw[ij hi,gp,ij hi];rfl)
  have hc:=jrs hg dB h
  obtain⟨wM,hk⟩:=Pl ha
  have QE:¬ik listed i:=fun h=>hn (v.sub i h)
  have cw:∀j∈pre,j≠i:=fun j hj e=>hn (e▸hj)
  have H5:∀j∈ju cl i,j<ops.length:=fun j hj=>v.lt j (gj j hj)
  have BG:∀(x:AV),∀y∈(ops.getD i bV).op.operands,aU (eb ops τ0 pre vals) y=aU (eb ops τ0 (ju cl i) fun j=>if j=i then x else vals j) y:=fun x=>
    k.agree v.lt hi gj (fun j hj mF=>hn (v.cls j hj i mF)) fun j hj=>(if_neg (cw j (gj j hj))).symm
  have base:∀(x:AV) (H':ak) (r':Nat),r≤r'→H'.length=H.length→(∀id,(bp [] (ops.getD i bV)=true→id≠N+r)→H'[id]? =H[id]?)→(bp [] (ops.getD i bV)=true→r<r'∧H[N+r]? =some .free)→Fact P ops cl N τ0 (fun j=>if j=i then x else vals j) (fun j=>if j=i then r else slot j) H' i→
      Inv P ops cl N τ0 (pre++[i]) r' (fun j=>if j=i then x else vals j) (fun j=>if j=i then r else slot j) H' HL listed:=by
    intro x H' r' hr hlen hH dy hf
    have ee:∀j,j∈pre++[i]→j∈pre∨j=i:=fun j hj=>by simpa using hj
    refine⟨fun j hj=>?_,fun j hj q hq=>?_,fun j hj=>List.mem_append_left _ (v.sub j hj),fun j hj tA=>?_,fun j hj hu=>?_,fun j hj hl tA=>?_,fun p hp q hq lp ap lq aq he=>?_,v.len.trans hlen.symm,hlen▸v.AQ,fun id hid=>?_,fun j hj hl hu=>?_⟩
    · rcases ee j hj with h|rfl
      · exact v.lt j h
      · exact hi
    · rcases ee j hj with h|rfl
      · exact List.mem_append_left _ (v.cls j h q hq)
      · exact List.mem_append_left _ (gj q hq)
    · rcases ee j hj with h|rfl
      · exact v.ac j h tA
      · rw[ha]at tA;cases tA
    · rcases ee j hj with h|rfl
      · refine Fact.keep k.ap (fun q hq=>v.lt q (v.cls j h q hq)) (fun q hq=>(if_neg (cw q (v.cls j h q hq))).symm) (if_neg (cw j h)).symm (if_neg (cw j h)).symm (fun hl=>?_) (fun hl hq=>?_) (v.fact j h hu)
        · have tA:lN (ops.getD j bV).op=false:=by
            cases hx:lN (ops.getD j bV).op with
            |false=>rfl
            |true=>exact absurd (v.ac j h hx) hu
          have:=v.slt j h hl tA
          exact(hH _ fun _=>by omega).symm
        · exact zi (fun id hid=>(hH id fun _=>by omega).symm) _ _ hq
      · exact hf
    · rcases ee j hj with h|rfl
      · simp only[if_neg (cw j h)];exact Nat.lt_of_lt_of_le (v.slt j h hl tA) hr
      · simp only[if_pos];exact(dy hl).1
    · rcases ee p hp with h1|h1<;>rcases ee q hq with h2|h2
      · simp only[if_neg (cw p h1),if_neg (cw q h2)]at he;exact v.inj p h1 q h2 lp ap lq aq he
      · simp only[if_neg (cw p h1),if_pos h2]at he;have:=v.slt p h1 lp ap;omega
      · simp only[if_neg (cw q h2),if_pos h1]at he;have:=v.slt q h2 lq aq;omega
      · rw[h1,h2]
    · have h1:=v.m2 id fun j hj hl hu=>by have:=hid j (List.mem_append_left _ hj) hl hu;simpa only[if_neg (cw j hj)]using this
      rw[h1]
      exact(hH id fun hl=>by have:=hid i (by simp) hl QE;simpa using this).symm
    · rcases ee j hj with h|rfl
      · simp only[if_neg (cw j h)];exact v.m3 j h hl hu
      · simp only[if_true]
        rw[v.m2 _ fun q hq hlq huq=>?_]
        · exact(dy hl).2
        · have hqa:lN (ops.getD q bV).op=false:=by
            cases hx:lN (ops.getD q bV).op with
            |false=>rfl
            |true=>exact absurd (v.ac q hq hx) huq
          have:=v.slt q hq hlq hqa;omega
  have put:∀x,(eb ops τ0 pre vals).put (ops.getD i bV).dst x=eb ops τ0 (pre++[i]) fun j=>if j=i then x else vals j:=fun x=>by
    rw[show eb ops τ0 pre vals=eb ops τ0 pre (fun j=>if j=i then x else vals j) from funext fun t=>yr k.ap v.lt v.lt (fun _ _=>Iff.rfl) fun j hj=>(if_neg (cw j hj)).symm]
    exact Jf k.ap v.lt hn hi (if_pos rfl)
  unfold tO at hc
  rcases hk with hk|hk
  · have hl:bp [] (ops.getD i bV)=false:=by unfold bp;rw[hk];rfl
    simp only[hk]at hc
    obtain⟨x,hq,hh⟩:=hc
    rw[put]at hh
    refine⟨r,_,_,H,base x H r (bm _) rfl (fun _ _=>rfl) (fun h=>by rw[hl]at h;cases h) ?_,?_,fun j hj=>if_neg (cw j hj)⟩
    · unfold Fact
      rw[if_neg (by rw[hl];decide)]
      simp only[if_true]
      rw[←JE (P:=P) (BG x)];exact hq
    · rw[if_neg (by rw[hl];decide)]at hh;exact hh
  · have hl:bp [] (ops.getD i bV)=true:=by unfold bp;rw[hk];rfl
    simp only[hk]at hc
    obtain⟨h1,_,_,x,H',sh',hq,hh⟩:=hc
    obtain⟨o,rfl,rfl,cP⟩:=B2 hk hq
    rw[put]at hh
    have aA:N+r<H.length:=(dX.1 h1).1
    refine⟨r+1,_,_,H.set (N+r) o,base x (H.set (N+r) o) (r+1) (by omega) (by simp) (fun id hid=>qa (hid hl)) (fun _=>⟨by omega,h1⟩) ?_,?_,fun j hj=>if_neg (cw j hj)⟩
    · unfold Fact
      rw[if_pos hl]
      simp only[if_true]
      refine⟨o,List.getElem?_set_self aA,fun H2=>?_⟩
      rw[←JD (P:=P) (BG x)];exact cP H2 []
    · rw[if_pos hl]at hh;exact hh
theorem Inv.advance(k:Ck ops cl)(dB:∀k,KT k=true→Maps.Keyed P k){HL:ak}{listed:Array Bool}{K:Fr→ak→Prop}:∀(rest:List (Nat × List Nat)) (pre:List Nat) (r:Nat) (vals:Nat→AV) (slot:Nat→Nat) (H:ak),Inv P ops cl N τ0 pre r vals slot H HL listed→
    yC ops cl pre rest=true→sS P KT sm N τ0 r (qV ops rest) (eb ops τ0 pre vals) H K→
    ∃pt re r' vals' lG H',Inv P ops cl N τ0 pt r' vals' lG H' HL listed∧yC ops cl pt re=true∧sS P KT sm N τ0 r' (qV ops re) (eb ops τ0 pt vals') H' K∧(∀j∈pre,j∈pt∧vals' j=vals j)∧(∀j,j∈pre∨j∈rest.map (·.1)→j∈pt∨j∈re.map (·.1))∧(re=[]∨∃i eH l,re=(i,eH)::l∧lN (ops.getD i bV).op=true)
  |[],pre,r,vals,slot,H,v,hs,h=>⟨pre,[],r,vals,slot,H,v,hs,h,fun j hj=>⟨hj,rfl⟩,fun j hj=>hj,.inl rfl⟩
  |(i,eH)::l,pre,r,vals,slot,H,v,hs,h=>by
    cases ha:lN (ops.getD i bV).op with
    |true=>exact⟨pre,(i,eH)::l,r,vals,slot,H,v,hs,h,fun j hj=>⟨hj,rfl⟩,fun j hj=>hj,.inr ⟨i,eH,l,rfl,ha⟩⟩
    |false=>
      have HD:=hs
      simp only[yC,gG,oU,Bool.not_eq_true',List.contains_eq_mem,decide_eq_false_iff_not,kF]at HD
      obtain⟨⟨⟨⟨⟨h1,h2⟩,h3⟩,h4⟩,_⟩,h5⟩:=HD
      have hh:oS P KT sm N τ0 r (ops.getD i bV) (eH.map fun j=>ops.getD j bV) (eb ops τ0 pre vals) H fun r' τ' H'=>sS P KT sm N τ0 r' (qV ops l) τ' H' K:=h
      unfold oS at hh
      rw[if_neg (by rw[ha];decide)]at hh
      obtain⟨r',vals',lG,H',v',hK,hv⟩:=v.GJ k dB (KK:=fun r' τ' H'=>sS P KT sm N τ0 r' (qV ops l) τ' H' K) h4 h3 h1 ha hh
      obtain⟨sR,q9,r2,Ah,qY,H2,a1,a2,a3,a4,a5,a6⟩:=Inv.advance k dB l (pre++[i]) r' vals' lG H' v' h5 hK
      refine⟨sR,q9,r2,Ah,qY,H2,a1,a2,a3,fun j hj=>⟨(a4 j (List.mem_append_left _ hj)).1,(a4 j (List.mem_append_left _ hj)).2.trans (hv j hj)⟩,fun j hj=>a5 j ?_,a6⟩
      simp only[List.map_cons,List.mem_cons,pr,List.not_mem_nil,or_false]at hj ⊢
      rcases hj with h|h|h
      · exact .inl (.inl h)
      · exact .inl (.inr h)
      · exact .inr h
theorem Ck.all(k:Ck ops cl){listed:Array Bool}(gu:listed.size=ops.length)(h:Region.ready .any ops.toArray listed=[]):∀(n i:Nat),i<n→i<ops.length→ik listed i
  |n+1,i,hn,hi=>by
    by_cases hl:ik listed i
    · exact hl
    · exfalso
      have mY:i∈Region.ready .any ops.toArray listed:=mem_ready.2 ⟨by
        unfold ik at hl
        have aA:i<listed.size:=by omega
        simp only[Array.getD,dif_pos aA]at hl ⊢
        simpa using hl,ops[i],by rw[List.getElem?_toArray,ij hi],fun e he hb=>?_⟩
      · rw[h]at mY;cases mY
      · have hw:e.on∈wj (ops.getD i bV):=by
          rw[gp,ij hi]
          exact kV.2 ⟨e,List.mem_filter.2 ⟨by simpa using he,hb⟩,rfl⟩
        have:=k.bk i hi _ hw
        exact k.all gu h n e.on (by omega) (by omega)
theorem jva{op:Op}(h:quiet op=true):fW [] op=0:=by
  unfold quiet at h
  split at h<;>first|rfl|cases h
theorem jvb{ρ:Operand→AV}{op:Op}{H H':ak}{sh:List (Nat × Nat)}{x:AV}(h:pL P ρ op H sh x H'):H'.length=H.length:=by
  unfold pL at h
  split at h
  · obtain⟨kt,et,v,es,clock,id,_,_,_,_,_,_,_,_,_,_,rfl⟩:=h;simp
  · obtain⟨kt,et,v,es,clock,id,_,_,_,_,_,_,_,_,_,_,rfl⟩:=h;simp
  · obtain⟨kt,et,z,v,es,clock,id,_,_,_,_,_,_,_,_,_,_,h⟩:=h
    split at h
    · obtain⟨_,rfl⟩:=h;simp
    · obtain⟨_,rfl⟩:=h;simp
  · obtain⟨kd,n,es,clock,id,i,_,_,_,_,_,_,rfl⟩:=h;simp
  · split at h
    all_goals first|(obtain⟨kt,et,v,es,clock,id,_,_,_,_,_,_,_,_,_,_,rfl⟩:=h;simp;done)|(obtain⟨kt,et,es,clock,id,_,_,_,_,_,rfl⟩:=h;simp;done)|exact h.elim
  · exact h.elim
theorem jcg(dB:∀k,KT k=true→Maps.Keyed P k){τ:Fr}{H:ak}{K:Prop}:∀{l:List Oper},(∀o∈l,o.guard=none)→sQ P KT N l τ H K→K∧∀o∈l,fW [] o.op=0→∃d,o.dst=some d∧gR P N H (aU τ) o.op (τ d)
  |[],_,h=>⟨h,fun o ho=>by cases ho⟩
  |o::l,hg,h=>by
    unfold sQ at h
    split at h
    · rename_i d hd
      have hc:=jrs (hg o (List.mem_cons_self ..)) dB h
      have key:∀x,(τ.put o.dst x) d=x:=fun x=>by rw[hd];simp[Fr.put]
      have tail:∀{x:AV},(τ.put o.dst x) d=τ d∧sQ P KT N l τ H K→(fW [] o.op=0→gR P N H (aU τ) o.op x)→K∧∀o'∈o::l,fW [] o'.op=0→∃d,o'.dst=some d∧gR P N H (aU τ) o'.op (τ d):=fun{x} hx hq=>by
        obtain⟨hx,hr⟩:=hx
        rw[key]at hx
        subst hx
        obtain⟨a1,a2⟩:=jcg dB (fun o' ho=>hg o' (wq _ ho)) hr
        refine⟨a1,fun o' xO oz=>?_⟩
        rcases List.mem_cons.1 xO with rfl|xO
        · exact⟨d,hd,hq oz⟩
        · exact a2 o' xO oz
      unfold tO at hc
      rcases Dx [] o.op with h0|h0|h0|h0|h0<;>simp only[h0]at hc
      · obtain⟨x,hq,hx⟩:=hc
        exact tail hx fun _=>hq
      · obtain⟨_,_,_,x,H',sh',hq,hx⟩:=hc
        exact tail hx fun h=>by rw[h0]at h;cases h
      · obtain⟨H',hq,hx⟩:=hc
        exact tail hx fun h=>by rw[h0]at h;cases h
      · obtain⟨_,_,_,x,H',sh',hq,hx⟩:=hc
        exact tail hx fun h=>by rw[h0]at h;cases h
      · obtain⟨x,H',hq,hx⟩:=hc
        exact tail hx fun h=>by rw[h0]at h;cases h
    · exact h.elim
theorem cV{pre:List Nat}{listed:Array Bool}{i:Nat}:i∈pre.filter (fun j=>listed.getD j false)↔i∈pre∧ik listed i:=by
  rw[List.mem_filter];rfl
theorem sJ{listed:Array Bool}{i j:Nat}(hi:i<listed.size):ik (listed.setIfInBounds i true) j↔j=i∨ik listed j:=by
  by_cases h:j=i
  · subst h;simp[ik,hi]
  · unfold ik;rw[getD_set_ne false (Ne.symm h)];simp[h]
theorem jn6(k:Ck ops cl){pre:List Nat}(aA:∀i∈pre,i<ops.length){vals:Nat→AV}{listed:Array Bool}{i:Nat}(gu:i<listed.size)(hi:i∈pre)(hn:¬ik listed i){v:AV}(hv:vals i=v):
    (eb ops τ0 (pre.filter fun j=>listed.getD j false) vals).put (rI ops i) v=eb ops τ0 (pre.filter fun j=>(listed.setIfInBounds i true).getD j false) vals:=by
  have h1:∀j∈pre.filter (fun j=>listed.getD j false),j<ops.length:=fun j hj=>aA j (cV.1 hj).1
  rw[Jf k.ap h1 (fun h=>hn (cV.1 h).2) (aA i hi) hv]
  funext t
  refine yr k.ap (fun j hj=>?_) (fun j hj=>aA j (cV.1 hj).1) (fun j _=>?_) fun _ _=>rfl
  · rcases pr.1 hj with h|h
    · exact h1 j h
    · rw[sa.1 h];exact aA i hi
  · rw[pr,cV,cV,sa,sJ gu]
    constructor
    · rintro(⟨a,b⟩|rfl)
      · exact⟨a,.inr b⟩
      · exact⟨hi,.inl rfl⟩
    · rintro⟨a,rfl|b⟩
      · exact .inr rfl
      · exact .inl ⟨a,b⟩
theorem Inv.list{pre:List Nat}{r:Nat}{vals:Nat→AV}{slot:Nat→Nat}{H HL nO:ak}{listed:Array Bool}{i:Nat}(v:Inv P ops cl N τ0 pre r vals slot H HL listed)(gu:i<listed.size)(hi:i∈pre)(hn:¬ik listed i)
    (h1:nO.length=HL.length) (h2:∀id,(bp [] (ops.getD i bV)=true→id≠N+slot i)→nO[id]? =HL[id]?) (h3:bp [] (ops.getD i bV)=true→nO[N+slot i]? =H[N+slot i]?):Inv P ops cl N τ0 pre r vals slot H nO (listed.setIfInBounds i true):=by
  have un:∀{j},¬ik (listed.setIfInBounds i true) j→j≠i∧¬ik listed j:=fun{j} h=>⟨fun e=>h ((sJ gu).2 (.inl e)),fun e=>h ((sJ gu).2 (.inr e))⟩
  have ua:∀{j},j∈pre→¬ik listed j→Go.Proofs.YtapjobndmmkanaaGreat.lN (ops.getD j bV).op=false:=fun{j} hj hu=>by
    cases hx:Go.Proofs.YtapjobndmmkanaaGreat.lN (ops.getD j bV).op with
    |false=>rfl
    |true=>exact absurd (v.ac j hj hx) hu
  refine⟨v.lt,v.cls,fun j hj=>?_,fun j hj ha=>(sJ gu).2 (.inr (v.ac j hj ha)),fun j hj hu=>v.fact j hj (un hu).2,v.slt,v.inj,h1.trans v.len,v.AQ,fun id hid=>?_,fun j hj hl hu=>?_⟩
  · rcases(sJ gu).1 hj with rfl|h
    · exact hi
    · exact v.sub j h
  · by_cases he:bp [] (ops.getD i bV)=true∧id=N+slot i
    · obtain⟨hl,rfl⟩:=he
      exact h3 hl
    · rw[h2 id fun hl e=>he ⟨hl,e⟩]
      refine v.m2 id fun j hj hl hu=>?_
      by_cases mF:j=i
      · subst mF;exact fun e=>he ⟨hl,e⟩
      · exact hid j hj hl fun h=>by
          rcases(sJ gu).1 h with h|h
          · exact mF h
          · exact hu h
  · obtain⟨mF,zF⟩:=un hu
    rw[h2 _ fun hli e=>mF (v.inj j hj i hi hl (ua hj zF) hli (ua hi hn) (by omega))]
    exact v.m3 j hj hl zF
theorem jjr(k:Ck ops cl)(dB:∀k,KT k=true→Maps.Keyed P k)(hd:mh c.nt ops=true)(ti:Kp c sm){K:Fr→ak→Prop}{Q:Exit→Act→World→Prop}(hK:∀τ H a w,K τ H→R c τ H [] a w→Q .normal a w):
    ∀(fuel:Nat) (rem:List Nat) (pre:List Nat) (rest:List (Nat × List Nat)) (r:Nat) (vals:Nat→AV) (slot:Nat→Nat) (H HL:ak) (listed:Array Bool) (a:Act) (w:World),rem.length=fuel→(∀i,i<ops.length→¬ik listed i→i∈rem)→listed.size=ops.length→ig ops listed→
      Inv P ops cl N τ0 pre r vals slot H HL listed→yC ops cl pre rest=true→sS P KT sm N τ0 r (qV ops rest) (eb ops τ0 pre vals) H K→(∀i,i<ops.length→i∈pre∨i∈rest.map (·.1))→(rest=[]∨∃i eH l,rest=(i,eH)::l∧lN (ops.getD i bV).op=true)→
      R c (eb ops τ0 (pre.filter fun j=>listed.getD j false) vals) HL [] a w→wpAnyIn c.F 0 P .any ops.toArray Q fuel listed a w:=by
  -- where all is listed
  have fin:∀(pre:List Nat) (rest:List (Nat × List Nat)) (r:Nat) (vals:Nat→AV) (slot:Nat→Nat) (H HL:ak) (listed:Array Bool) (a:Act) (w:World),Inv P ops cl N τ0 pre r vals slot H HL listed→yC ops cl pre rest=true→sS P KT sm N τ0 r (qV ops rest) (eb ops τ0 pre vals) H K→
      R c (eb ops τ0 (pre.filter fun j=>listed.getD j false) vals) HL [] a w→(∀i,i<ops.length→ik listed i)→Q .normal a w:=by
    intro pre rest r vals slot H HL listed a w v cu cR hR cP
    have jZ:rest=[]:=by
      cases rest with
      |nil=>rfl
      |cons q l=>
        obtain⟨i,eH⟩:=q
        exfalso
        simp only[yC,gG,oU,Bool.not_eq_true',List.contains_eq_mem,decide_eq_false_iff_not]at cu
        exact cu.1.1.1.2 (v.sub i (cP i cu.1.1.2))
    subst jZ
    have e1:eb ops τ0 (pre.filter fun j=>listed.getD j false) vals=eb ops τ0 pre vals:=by
      rw[List.filter_eq_self.2 fun j hj=>cP j (v.lt j hj)]
    have e2:HL=H:=List.ext_getElem? fun id=>v.m2 id fun i hi _ hu=>absurd (cP i (v.lt i hi)) hu
    rw[e1,e2]at hR
    exact hK _ _ a w cR hR
  intro fuel
  induction fuel with
  |zero=>
    intro rem pre rest r vals slot H HL listed a w jR zK gu gj v cu cR zU E7 hR
    have LY:rem=[]:=List.eq_nil_of_length_eq_zero jR
    have cP:∀i,i<ops.length→ik listed i:=fun i hi=>Classical.byContradiction fun h=>by have:=zK i hi h;rw[LY]at this;cases this
    refine⟨List.eq_nil_iff_forall_not_mem.2 fun i hi=>?_,fin pre rest r vals slot H HL listed a w v cu cR hR cP⟩
    obtain⟨h1,h2,_⟩:=k.ready gj hi
    have:=cP i h1
    unfold ik at this
    rw[Nx this]at h2;cases h2
  |succ fuel ih=>
    intro rem pre rest r vals slot H HL listed a w jR zK gu gj v cu cR zU E7 hR
    refine⟨fun h0=>fin pre rest r vals slot H HL listed a w v cu cR hR fun i hi=>k.all gu h0 (i+1) i (by omega) hi,fun i hi=>?_⟩
    obtain⟨aA,CP,rB⟩:=k.ready gj hi
    have kY:¬ik listed i:=fun h=>by unfold ik at h;rw[Nx h]at CP;cases CP
    have ux:i<listed.size:=by omega
    have L1:ops[i]? =some (ops.getD i bV):=by rw[ij aA,gp,ij aA];rfl
    have hg:(ops.getD i bV).guard=none:=k.gd i _ L1
    obtain⟨pl,hR⟩:=hR
    have hw:Region.wanted (ops.getD i bV) (yielded ops.toArray a.tmps)=true:=Nu hR (b:=true) (M4 hg)
    have lr:∀d,(ops.getD i bV).dst=some d→d<c.nt:=fun d e=>by
      have:=kF.1 hd _ (List.mem_of_getElem? L1)
      rw[e]at this;simpa using((gG _ _).mp this).1
    have o4:Lw (ops.getD i bV).op=true:=by
      have:=kF.1 hd _ (List.mem_of_getElem? L1)
      exact((gG _ _).mp this).2
    have mY:i∈rem:=zK i aA kY
    have Bm:∀j,j<ops.length→¬ik (listed.setIfInBounds i true) j→j∈rem.erase i:=fun j hj hu=>by
      have:j≠i:=fun e=>hu ((sJ ux).2 (.inl e))
      exact(List.mem_erase_of_ne this).2 (zK j hj fun h=>hu ((sJ ux).2 (.inr h)))
    have Bu:(rem.erase i).length=fuel:=by rw[List.length_erase_of_mem mY];omega
    have zH:(listed.setIfInBounds i true).size=ops.length:=by simpa using gu
    have Io:=gj.set hi
    -- what a listed operation hangs on is listed
    have kI:∀j∈pre,ik listed j→∀q∈ju cl j,ik listed q:=fun j hj hl=>k.closed gj (j+1) j (by omega) (v.lt j hj) fun d hd=>by
      have o5:=v.lt j hj
      unfold wj at hd
      obtain⟨e,he,rfl⟩:=kV.1 hd
      obtain⟨h1,h2⟩:=List.mem_filter.1 he
      rw[gp,ij o5]at h1
      exact gj j ops[j] (ij o5) hl e (by simpa using h1) h2
    have vA:∀j∈pre.filter (fun j=>listed.getD j false),j<ops.length:=fun j hj=>v.lt j (cV.1 hj).1
    unfold wpOpIn
    rw[List.getElem?_toArray,L1]
    simp only
    rw[if_pos hw]
    by_cases vB:i∈pre
    · -- an operation that was taken early
      have hna:lN (ops.getD i bV).op=false:=by
        cases hx:lN (ops.getD i bV).op with
        |false=>rfl
        |true=>exact absurd (v.ac i vB hx) kY
      obtain⟨wM,cf⟩:=Pl hna
      have hf:=v.fact i vB kY
      have BG:=k.agree (τ0:=τ0) vA (vals:=vals) (vals':=vals) aA (fun j hj=>cV.2 ⟨v.cls i vB j hj,rB j hj⟩) (fun j hj Ig=>kY (kI j (cV.1 hj).1 (cV.1 hj).2 i Ig)) fun _ _=>rfl
      have next:∀{nO:ak} {u:Value} {w':World} {bt:List (Option (Nat × Nat))},Inv P ops cl N τ0 pre r vals slot H nO (listed.setIfInBounds i true)→aQ c (eb ops τ0 (pre.filter fun j=>listed.getD j false) vals) nO [] bt a w'→Rd w' bt (bu c.E nO bt) (vals i) u→
          wpAnyIn c.F 0 P .any ops.toArray Q fuel (listed.setIfInBounds i true) (a.put (ops.getD i bV).dst u) w':=fun v' h1 h2=>by
        refine ih (rem.erase i) pre rest r vals slot H _ _ _ _ Bu Bm zH Io v' cu cR zU E7 ?_
        rw[←jn6 k v.lt ux vB kY rfl]
        exact⟨_,h1.put _ lr h2⟩
      unfold Fact at hf
      cases hl:bp [] (ops.getD i bV)with
      |false=>
        rw[if_neg (by rw[hl];decide)]at hf
        have hq:gR P N HL (aU (eb ops τ0 (pre.filter fun j=>listed.getD j false) vals)) (ops.getD i bV).op (vals i):=by
          rw[JE (P:=P) BG]
          exact zi (fun id hid=>(v.m2 id fun j _ _ _=>by omega).symm) _ _ hf
        exact sM c o4 (JG hR hq fun u w' h1 h2=>next (v.list ux vB kY rfl (fun _ _=>rfl) fun h=>by rw[hl]at h;cases h) h1 h2)
      |true=>
        rw[if_pos hl]at hf
        obtain⟨o,ho,cP⟩:=hf
        have dy:=v.m3 i vB hl kY
        have hq:ka P true (N+slot i) (aU (eb ops τ0 (pre.filter fun j=>listed.getD j false) vals)) (ops.getD i bV).op HL [] (vals i) (HL.set (N+slot i) o) []:=by
          rw[JD (P:=P) BG];exact cP HL
        exact sM c o4 (JF hR dy (fun p hp=>by cases hp) hq fun u w' bt h1 h2=>next (v.list ux vB kY (by simp) (fun id hid=>qa (hid hl)) fun _=>by rw[List.getElem?_set_self (dX.1 dy).1,ho]) h1 h2)
    · -- the next of ZO that may move Oh
      have hir:=(zU i aA).resolve_left vB
      rcases E7 with rfl|⟨q,eH,l,rfl,rD⟩
      · cases hir
      have hst0:=cu
      simp only[yC,gG,oU,Bool.not_eq_true',List.contains_eq_mem,decide_eq_false_iff_not,kF,rD,Bool.true_eq_false,false_or,Bool.or_eq_true]at cu
      obtain⟨⟨⟨⟨⟨s1,s2⟩,s3⟩,s4⟩,s5,s6⟩,s7⟩:=cu
      have hiq:i=q:=by
        rcases List.mem_cons.1 hir with h|h
        · exact h
        · exfalso
          obtain⟨p,hp,rfl⟩:=kV.1 h
          exact s3 (v.sub q (rB q (s5 p hp)))
      subst hiq
      have jY:aS P KT sm N τ0 (ops.getD i bV) (eb ops τ0 pre vals) H fun τ' H'=>sQ P KT N (eH.map fun j=>ops.getD j bV) τ' H' (sS P KT sm N τ0 r (qV ops l) τ' H' K):=by
        have hh:oS P KT sm N τ0 r (ops.getD i bV) (eH.map fun j=>ops.getD j bV) (eb ops τ0 pre vals) H fun r' τ' H'=>sS P KT sm N τ0 r' (qV ops l) τ' H' K:=cR
        unfold oS at hh
        rw[if_pos rD]at hh
        exact hh
      have cw:∀j∈pre,j≠i:=fun j hj e=>vB (e▸hj)
      have Rw:=k.agree (τ0:=τ0) v.lt (vals:=vals) (vals':=vals) aA s1 (fun j hj Ig=>vB (v.cls j hj i Ig)) fun _ _=>rfl
      have Rx:=k.agree (τ0:=τ0) vA (vals:=vals) (vals':=vals) aA (fun j hj=>cV.2 ⟨s1 j hj,rB j hj⟩) (fun j hj Ig=>vB (v.cls j (cV.1 hj).1 i Ig)) fun _ _=>rfl
      have uI:∀y∈(ops.getD i bV).op.operands,aU (eb ops τ0 pre vals) y=aU (eb ops τ0 (pre.filter fun j=>listed.getD j false) vals) y:=fun y hy=>(Rw y hy).trans (Rx y hy).symm
      have unl:∀j∈pre,¬ik listed j→lN (ops.getD j bV).op=false:=fun j hj hu=>by
        cases hx:lN (ops.getD j bV).op with
        |false=>rfl
        |true=>exact absurd (v.ac j hj hx) hu
      -- behind it
      have post:∀{x:AV} {u:Value} {H' nO:ak} {w':World} {bt:List (Option (Nat × Nat))},sQ P KT N (eH.map fun j=>ops.getD j bV) ((eb ops τ0 pre vals).put (ops.getD i bV).dst x) H' (sS P KT sm N τ0 r (qV ops l) ((eb ops τ0 pre vals).put (ops.getD i bV).dst x) H' K)→
          nO.length=H'.length→N≤H'.length→(∀id,(∀j∈pre,bp [] (ops.getD j bV)=true→¬ik listed j→id≠N+slot j)→nO[id]? =H'[id]?)→(∀j∈pre,bp [] (ops.getD j bV)=true→¬ik listed j→nO[N+slot j]? =some .free∧H'[N+slot j]? =H[N+slot j]?)→
          aQ c (eb ops τ0 (pre.filter fun j=>listed.getD j false) vals) nO [] bt a w'→Rd w' bt (bu c.E nO bt) x u→wpAnyIn c.F 0 P .any ops.toArray Q fuel (listed.setIfInBounds i true) (a.put (ops.getD i bV).dst u) w':=by
        intro x u H' nO w' bt hre pz hN QY HZ C2 hx
        have lW:(eb ops τ0 pre vals).put (ops.getD i bV).dst x=eb ops τ0 (pre++[i]) fun j=>if j=i then x else vals j:=by
          rw[show eb ops τ0 pre vals=eb ops τ0 pre (fun j=>if j=i then x else vals j) from funext fun t=>yr k.ap v.lt v.lt (fun _ _=>Iff.rfl) fun j hj=>(if_neg (cw j hj)).symm]
          exact Jf k.ap v.lt vB aA (if_pos rfl)
        rw[lW]at hre
        have uB:∀j∈pre++[i],j<ops.length:=fun j hj=>by
          rcases pr.1 hj with h|h
          · exact v.lt j h
          · rw[sa.1 h];exact aA
        have Rl:∀o∈eH.map (fun j=>ops.getD j bV),o.guard=none:=fun o ho=>by
          obtain⟨j,_,rfl⟩:=kV.1 ho
          by_cases o5:j<ops.length
          · exact k.gd j _ (by rw[ij o5,gp,ij o5];rfl)
          · rw[gp,List.getElem?_eq_none (by omega)];rfl
        obtain⟨HF,CV⟩:=jcg dB Rl hre
        have ee:∀j,j∈pre++[i]→j∈pre∨j=i:=fun j hj=>by simpa using hj
        have v':Inv P ops cl N τ0 (pre++[i]) r (fun j=>if j=i then x else vals j) slot H' nO (listed.setIfInBounds i true):=by
          have un:∀{j},¬ik (listed.setIfInBounds i true) j→j≠i∧¬ik listed j:=fun{j} h=>⟨fun e=>h ((sJ ux).2 (.inl e)),fun e=>h ((sJ ux).2 (.inr e))⟩
          refine⟨uB,fun j hj q hq=>?_,fun j hj=>?_,fun j hj ha=>?_,fun j hj hu=>?_,fun j hj hl tA=>?_,fun p hp q hq lp ap lq aq he=>?_,pz,hN,fun id hid=>?_,fun j hj hl hu=>?_⟩
          · rcases ee j hj with h|rfl
            · exact List.mem_append_left _ (v.cls j h q hq)
            · exact List.mem_append_left _ (s1 q hq)
          · rcases(sJ ux).1 hj with rfl|h
            · simp
            · exact List.mem_append_left _ (v.sub j h)
          · rcases ee j hj with h|rfl
            · exact(sJ ux).2 (.inr (v.ac j h ha))
            · exact(sJ ux).2 (.inl rfl)
          · obtain⟨mF,zF⟩:=un hu
            have Bw:=(ee j hj).resolve_right mF
            have H5:∀q∈ju cl j,q<ops.length:=fun q hq=>v.lt q (v.cls j Bw q hq)
            refine Fact.keep k.ap H5 (fun q hq=>(if_neg (cw q (v.cls j Bw q hq))).symm) (if_neg mF).symm rfl (fun hl=>(HZ j Bw hl zF).2.symm) (fun hl hq=>?_) (v.fact j Bw zF)
            rcases s6 j Bw with((h|h)|⟨h,_⟩)|⟨⟨h,_⟩,QF⟩
            · exact absurd (rB j h) zF
            · exact FY h _ _ _ hq
            · rw[hl]at h;cases h
            · obtain⟨_,cf⟩:=Pl (unl j Bw zF)
              have h0:fW [] (ops.getD j bV).op=0:=by
                rcases cf with h0|h0
                · exact h0
                · unfold bp at hl;rw[h0]at hl;cases hl
              obtain⟨d,Ri,hqq⟩:=CV _ (kV.2 ⟨j,h,rfl⟩) h0
              rw[DD k.ap uB hj Ri,if_neg mF]at hqq
              rw[←JE (P:=P) (zxg k.ap uB (vals:=fun j=>if j=i then x else vals j) (fun q hq=>List.mem_append_left _ (v.cls j Bw q hq)) QF fun q hq=>if_neg (cw q (v.cls j Bw q hq)))]
              exact hqq
          · rcases ee j hj with h|rfl
            · exact v.slt j h hl tA
            · rw[rD]at tA;cases tA
          · rcases ee p hp with h1|h1
            · rcases ee q hq with h2|h2
              · exact v.inj p h1 q h2 lp ap lq aq he
              · rw[h2,rD]at aq;cases aq
            · rw[h1,rD]at ap;cases ap
          · exact QY id fun j hj hl hu=>hid j (List.mem_append_left _ hj) hl fun h=>by
              rcases(sJ ux).1 h with h|h
              · exact cw j hj h
              · exact hu h
          · obtain⟨mF,zF⟩:=un hu
            exact(HZ j ((ee j hj).resolve_right mF) hl zF).1
        obtain⟨sR,q9,r2,Ah,qY,H2,a1,a2,a3,a4,a5,a6⟩:=Inv.advance k dB l (pre++[i]) r _ slot H' v' s7 HF
        refine ih (rem.erase i) sR q9 r2 Ah qY H2 nO _ _ _ Bu Bm zH Io a1 a2 a3 (fun j hj=>a5 j ?_) a6 ?_
        · rcases zU j hj with h|h
          · exact .inl (List.mem_append_left _ h)
          · rcases List.mem_cons.1 h with h|h
            · exact .inl (by rw[h];simp)
            · exact .inr h
        · have e:eb ops τ0 (sR.filter fun j=>(listed.setIfInBounds i true).getD j false) Ah=(eb ops τ0 (pre.filter fun j=>listed.getD j false) vals).put (ops.getD i bV).dst x:=by
            have e1:eb ops τ0 (pre.filter fun j=>listed.getD j false) vals=eb ops τ0 (pre.filter fun j=>listed.getD j false) (fun j=>if j=i then x else vals j):=funext fun t=>yr k.ap vA vA (fun _ _=>Iff.rfl) fun j hj=>(if_neg (cw j (cV.1 hj).1)).symm
            rw[e1,show(ops.getD i bV).dst=rI ops i from rfl,Jf k.ap vA (fun h=>vB (cV.1 h).1) aA (if_pos rfl)]
            have wJ:∀j∈pre.filter (fun j=>listed.getD j false)++[i],j∈pre++[i]:=fun j hj=>by
              rcases pr.1 hj with h|h
              · exact List.mem_append_left _ (cV.1 h).1
              · exact List.mem_append_right _ h
            refine(funext fun t=>yr k.ap (fun j hj=>uB j (wJ j hj)) (fun j hj=>a1.lt j (cV.1 hj).1) (fun j _=>?_) fun j hj=>((a4 j (wJ j hj)).2).symm).symm
            rw[cV,pr,cV,sa,sJ ux]
            constructor
            · rintro(⟨h1,h2⟩|rfl)
              · exact⟨(a4 j (List.mem_append_left _ h1)).1,.inr h2⟩
              · exact⟨(a4 j (by simp)).1,.inl rfl⟩
            · rintro⟨h1,rfl|h2⟩
              · exact .inr rfl
              · exact .inl ⟨v.sub j h2,h2⟩
          rw[e]
          exact⟨_,C2.put _ lr hx⟩
      unfold aS at jY
      cases wM:qg (ops.getD i bV).op with
      |true=>
        rw[if_pos wM]at jY
        split at jY
        · rename_i f args ts IJ
          have iC:∀y,y=f∨y∈args.toList→aU (eb ops τ0 pre vals) y=aU (eb ops τ0 (pre.filter fun j=>listed.getD j false) vals) y:=fun y hy=>uI y (by
            rw[IJ]
            rcases hy with rfl|hy
            · simp[Op.operands,Call.operands]
            · exact FQ hy)
          have BF:args.toList.map (aU (eb ops τ0 pre vals))=args.toList.map (aU (eb ops τ0 (pre.filter fun j=>listed.getD j false) vals)):=List.map_congr_left fun y hy=>iC y (.inr hy)
          rw[iC f (.inl rfl),BF]at jY
          rcases jY with⟨x,hq,cf⟩|⟨n,fi,ca,Rm,QL⟩
          · have QM:gR P N HL (aU (eb ops τ0 (pre.filter fun j=>listed.getD j false) vals)) (ops.getD i bV).op x:=by
              rw[IJ]
              refine zi (H:=H) (fun id hid=>(v.m2 id fun j _ _ _=>by omega).symm) _ _ ?_
              exact hq
            exact sM c o4 (JG hR QM fun u w' h1 h2=>post cf v.len v.AQ v.m2 (fun j hj hl hu=>⟨v.m3 j hj hl hu,rfl⟩) h1 h2)
          · have iJ:GX P sm (ops.getD i bV).op (eb ops τ0 (pre.filter fun j=>listed.getD j false) vals) HL fun x nO=>∃H',sQ P KT N (eH.map fun j=>ops.getD j bV) ((eb ops τ0 pre vals).put (ops.getD i bV).dst x) H' (sS P KT sm N τ0 r (qV ops l) ((eb ops τ0 pre vals).put (ops.getD i bV).dst x) H' K)∧
                nO.length=H'.length∧N≤H'.length∧(∀id,(∀j∈pre,bp [] (ops.getD j bV)=true→¬ik listed j→id≠N+slot j)→nO[id]? =H'[id]?)∧(∀j∈pre,bp [] (ops.getD j bV)=true→¬ik listed j→nO[N+slot j]? =some .free∧H'[N+slot j]? =H[N+slot j]?):=by
              rw[IJ]
              refine .inl ⟨n,fi,ca,Rm,?_⟩
              rcases QL with⟨ds,Qr,g1,g2,g3⟩|⟨m,S,T,K0,e1,e2,e3,e4,e5,e6,e7,e8,e9,e10⟩
              · exact .inr (.inl ⟨ds,Qr,g1,g2,fun x hx=>⟨H,g3 x hx,v.len,v.AQ,v.m2,fun j hj hl hu=>⟨v.m3 j hj hl hu,rfl⟩⟩⟩)
              · subst e1
                have hlS:S.length≤HL.length:=by rw[v.len,List.length_append];omega
                have Q0:∀id,id<S.length→HL[id]? =S[id]? :=fun id hid=>by
                  rw[v.m2 id fun j _ _ _=>by omega,iI hid]
                have RQ:HL=S++HL.drop S.length:=by
                  conv=>lhs;rw[←List.take_append_drop S.length HL]
                  congr 1
                  refine List.ext_getElem? fun id=>?_
                  by_cases hid:id<S.length
                  · rw[List.getElem?_take_of_lt hid,Q0 id hid]
                  · rw[List.getElem?_eq_none (by simp;omega),List.getElem?_eq_none (by omega)]
                have dy:∀id,HL[id]? =(S++T)[id]? ∨HL[id]? =some bq.free:=fun id=>by
                  by_cases h:∀j∈pre,bp [] (ops.getD j bV)=true→¬ik listed j→id≠N+slot j
                  · exact .inl (v.m2 id h)
                  · simp only[Classical.not_forall,Classical.not_imp,Decidable.not_not]at h
                    obtain⟨j,hj,hl,hu,rfl⟩:=h
                    exact .inr (v.m3 j hj hl hu)
                refine .inr (.inr ⟨m,S,HL.drop S.length,K0,RQ,e3,?_,e6,e7,fun o ho=>?_,e9,fun x S' hx=>?_⟩)
                · intro t
                  by_cases hex:∃j∈pre.filter (fun j=>listed.getD j false),rI ops j=some t
                  · obtain⟨j,hj,ht⟩:=hex
                    rw[DD k.ap vA hj ht,←DD (τ0:=τ0) (vals:=vals) k.ap v.lt (cV.1 hj).1 ht]
                    exact e4 t
                  · rw[PX fun j hj ht=>hex ⟨j,hj,ht⟩];exact e5 t
                · obtain⟨q,hq⟩:=List.getElem?_of_mem ho
                  rw[List.getElem?_drop]at hq
                  rcases dy (S.length+q)with h|h
                  · rw[h,ji (by omega),Nat.add_sub_cancel_left]at hq
                    exact e8 o (List.mem_of_getElem? hq)
                  · rw[h]at hq;cases hq;rfl
                · obtain⟨f1,f2⟩:=e10 x S' hx
                  have LW:∀(A:ak) (id:Nat),S.length≤id→(S'++A)[id]? =(S++A)[id]? :=fun A id hid=>by
                    rw[ji (by omega),ji hid,f1]
                  refine⟨f1,S'++T,f2,?_,?_,fun id hid=>?_,fun j hj hl hu=>⟨?_,LW T _ (by omega)⟩⟩
                  · have:=v.len;simp only[List.length_append,List.length_drop]at this ⊢;omega
                  · have:=v.AQ;simp only[List.length_append]at this ⊢;omega
                  · by_cases H6:id<S.length
                    · rw[iI (by omega),iI (by omega)]
                    · rw[LW _ _ (by omega),LW _ _ (by omega),←RQ]
                      exact v.m2 id hid
                  · rw[LW _ _ (by omega),←RQ];exact v.m3 j hj hl hu
            exact Tl ti hR iJ fun x u nO w' bt ⟨H',b1,b2,b3,b4,b5⟩ h1 h2=>post b1 b2 b3 b4 b5 h1 h2
        · exact jY.elim
      |false=>
        rw[if_neg (by rw[wM];decide)]at jY
        have lX:∀j∈pre,bp [] (ops.getD j bV)=true→ik listed j:=fun j hj hl=>by
          rcases s6 j hj with((h|h)|⟨_,h⟩)|⟨⟨_,h⟩,_⟩
          · exact rB j h
          · exfalso
            have cf:fW [] (ops.getD j bV).op=1∨fW [] (ops.getD j bV).op=3:=by
              unfold bp at hl;simpa using hl
            rw[jva h]at cf
            rcases cf with h|h<;>cases h
          · rw[wM]at h;cases h
          · rw[hl]at h;cases h
        have heq:HL=H:=List.ext_getElem? fun id=>v.m2 id fun j hj hl hu=>absurd (lX j hj hl) hu
        subst heq
        have Dg:∀{x:AV} {u:Value} {H':ak} {w':World} {bt:List (Option (Nat × Nat))},sQ P KT N (eH.map fun j=>ops.getD j bV) ((eb ops τ0 pre vals).put (ops.getD i bV).dst x) H' (sS P KT sm N τ0 r (qV ops l) ((eb ops τ0 pre vals).put (ops.getD i bV).dst x) H' K)→N≤H'.length→
            aQ c (eb ops τ0 (pre.filter fun j=>listed.getD j false) vals) H' [] bt a w'→Rd w' bt (bu c.E H' bt) x u→wpAnyIn c.F 0 P .any ops.toArray Q fuel (listed.setIfInBounds i true) (a.put (ops.getD i bV).dst u) w':=fun h hN h1 h2=>
          post h rfl hN (fun _ _=>rfl) (fun j hj hl hu=>absurd (lX j hj hl) hu) h1 h2
        obtain⟨b,hb,ht,_⟩:=FP jY
        have hbt:b=true:=by rw[M4 hg]at hb;cases hb;rfl
        have hT:=ht hbt
        have hkc:fW [] (ops.getD i bV).op=2∨fW [] (ops.getD i bV).op=3∨fW [] (ops.getD i bV).op=4:=by
          unfold lN at rD
          simp only[wM,Bool.false_or,Bool.or_eq_true,beq_iff_eq]at rD
          rcases rD with(h|h)|h
          · exact .inl h
          · exact .inr (.inl h)
          · exact .inr (.inr h)
        unfold cT at hT
        rcases hkc with mZ|Ia|wK
        · simp only[mZ]at hT
          split at hT
          · rename_i t p y IJ
            obtain⟨H1,hH,hh⟩:=hT
            have hq:=FX hH
            rw[←IJ,Sw (P:=P) uI]at hq
            have pz:H1.length=HL.length:=by
              obtain⟨id,o,cs,_,_,rfl,_⟩:=Mr hq
              simp
            exact sM c o4 (M8 hR hq fun w' bt h1=>Dg hh (pz▸v.AQ) h1 (.d _ _ (.val _)))
          · exact hT.elim
        · simp only[Ia]at hT
          obtain⟨⟨x,ob,dd⟩,hl,hh⟩:=hT
          obtain⟨x',H1,hq,hh',pz⟩:=Ja hl (K:=fun x H'=>sQ P KT N (eH.map fun j=>ops.getD j bV) ((eb ops τ0 pre vals).put (ops.getD i bV).dst x) H' (sS P KT sm N τ0 r (qV ops l) ((eb ops τ0 pre vals).put (ops.getD i bV).dst x) H' K)∧N≤H'.length) ⟨hh,by
            have:=v.AQ
            cases dd<;>simp[gx]<;>omega⟩
          rw[JD (P:=P) uI]at hq
          exact sM c o4 (JF hR.eu (by rw[ji (bm _)];simp) (fun p hp=>by cases hp) hq fun u w' bt h1 h2=>Dg hh' pz h1 h2)
        · simp only[wK]at hT
          obtain⟨⟨x,H1⟩,hp,hh⟩:=hT
          have hq:=FE dB hp
          have pz:=jvb hq
          rw[Sv (P:=P) uI]at hq
          exact sM c o4 (M9 hR hq fun u w' h1 h2=>Dg hh (pz▸v.AQ) h1 h2)
end
end
section
section
variable {P:Program} {KT:TypeId→Bool} {c:Cx} {τ:Fr} {H:ak} {Q:Exit→Fr→ak→Prop}
theorem y6{sm:List Nat}(dB:∀k,KT k=true→Maps.Keyed P k)(fk:Kp c sm){id:Nat}{l:List Oper}{n:Nat}(hn:c.nt=n)(hm:P.follows .mixedOrders=true)(hd:mh n l=true)(st:List (Nat × List Nat))(cl:List (List Nat))(q:Nat)(hC:Me l cl st=true)
  (h:∀K:Fr→ak→Prop,(∀τ H,Q .normal τ H→K τ H)→sS P KT sm H.length τ 0 (qV l st) τ (H++List.replicate q .free) K):dj P c (.region id l.toArray true) Q τ H:=fun a w hR=>by
 refine wpIn_region_any hm ?_
 obtain⟨k,cu,hlen⟩:=Ck.of hC
 have C2:R c τ (H++List.replicate q .free) [] a {w with drawn:=w.drawn+1}:=R.eu _ _ (by obtain⟨pl,h⟩:=hR;exact⟨pl,h.drew⟩)
 have kY:∀j,¬ik (Array.replicate l.length false) j:=fun j h=>by
  by_cases hj:j<l.length<;>simp[ik,Array.getD,hj]at h
 have v:Inv P l cl H.length τ [] 0 (fun _=>.any) (fun _=>0) (H++List.replicate q .free) (H++List.replicate q .free) (Array.replicate l.length false):=
  ⟨fun i hi=>(by cases hi),fun i hi=>(by cases hi),fun i hi=>absurd hi (kY i),fun i hi=>(by cases hi),fun i hi=>(by cases hi),fun i hi=>(by cases hi),fun i hi=>(by cases hi),rfl,by simp,fun _ _=>rfl,fun i hi=>(by cases hi)⟩
 have gj:ig l (Array.replicate l.length false):=fun j o _ hj=>absurd hj (kY j)
 obtain⟨sR,q9,r2,Ah,qY,H2,a1,a2,a3,a4,a5,a6⟩:=Inv.advance (sm:=sm) k dB st [] 0 _ _ _ v cu (h (Q .normal) fun _ _ h=>h)
 have:=jjr (c:=c) (P:=P) k dB (hn▸hd) fk (K:=Q .normal) (Q:=fun e a' w'=>∃τ' H',R c τ' H' [] a' w'∧Q e τ' H') (fun τ' H' a' w' hk hr=>⟨τ',H',hr,hk⟩) l.length (List.range l.length) sR q9 r2 Ah qY H2 _ (Array.replicate l.length false) a {w with drawn:=w.drawn+1} (by simp) (fun i hi _=>qk.2 hi) (by simp) gj a1 a2 a3
  (fun i hi=>a5 i (.inr (hlen i hi))) a6 (by
   have e:sR.filter (fun j=>(Array.replicate l.length false).getD j false)=[]:=List.filter_eq_nil_iff.2 fun j _=>kY j
   rw[e];exact C2)
 simpa using this
theorem jN{sm:List Nat}(dB:∀k,KT k=true→Maps.Keyed P k)(fk:Kp c sm){id:Nat}{l:List Oper}{y:Code}{n:Nat}(hn:c.nt=n)(hm:P.follows .mixedOrders=true)(hd:mh n l=true)(st:List (Nat × List Nat))(cl:List (List Nat))(q:Nat)(hC:Me l cl st=true)
  (h:∀K:Fr→ak→Prop,(∀τ H,dj P c y Q τ H→K τ H)→sS P KT sm H.length τ 0 (qV l st) τ (H++List.replicate q .free) K):dj P c (.seq (.region id l.toArray true) y) Q τ H:=
 DG (y6 dB fk hn hm hd st cl q hC fun K hK=>h K fun τ H hh=>hK τ H hh)
end
section
variable {P:Program} {KT:TypeId→Bool} {sm:List Nat} {l:List (Oper × List Oper)} {eH:List Oper} {τ τ0:Fr} {H:ak} {N r e:Nat} {d:Option Tmp} {ty:TypeId} {pos:String} {af:Array Edge} {K:Fr→ak→Prop}
def rT{K:Prop}(P:Program)(KT:TypeId→Bool)(N:Nat)(eH:List Oper)(τ:Fr)(H:ak)(_:Tg K):Prop:=sQ P KT N eH τ H K
theorem jrt{K:Prop}:rT P KT N [] τ H (tg K)=K:=rfl
theorem jjs{K:Prop}{t:TypeId}{y:Operand}:rT P KT N (⟨some e,.load t y,ty,pos,af,none⟩::eH) τ H (tg K)=(oK (ff P N H t (aU τ y))<|tg fun x=>x=τ e∧rT P KT N eH τ H (tg K)):=by
 have h:(fun x=>(τ.put (some e) x) e=τ e∧sQ P KT N eH τ H K)=fun x=>x=τ e∧sQ P KT N eH τ H K:=funext fun x=>by simp only[Fr.put,if_true]
 exact congrArg (rU (ff P N H t (aU τ y))) h
theorem Se{K:Prop}{t:TypeId}{y z:Operand}{ok:Bool}:rT P KT N (⟨some e,.lookup t y z ok,ty,pos,af,none⟩::eH) τ H (tg K)=(oK (zf P N H KT t (aU τ y) (aU τ z) ok)<|tg fun x=>x=τ e∧rT P KT N eH τ H (tg K)):=by
 have h:(fun x=>(τ.put (some e) x) e=τ e∧sQ P KT N eH τ H K)=fun x=>x=τ e∧sQ P KT N eH τ H K:=funext fun x=>by simp only[Fr.put,if_true]
 exact congrArg (rU (zf P N H KT t (aU τ y) (aU τ z) ok)) h
theorem jjt{ops:List Oper}:qV ops []=[]:=rfl
theorem jch{ops:List Oper}{i:Nat}{c:List Nat}{st:List (Nat × List Nat)}:qV ops ((i,c)::st)=(ops.getD i bV,c.map fun j=>ops.getD j bV)::qV ops st:=rfl
theorem jru:sS P KT sm N τ0 r [] τ H K=K τ H:=rfl
theorem jju{y:Operand}:sS P KT sm N τ0 r ((⟨d,.move y,ty,pos,af,none⟩,eH)::l) τ H K=(sS P KT sm N τ0 r l (τ.put d (aU τ y)) H K):=by simp[sS,oS,lN,sE,kl,GK,cE,fW,qg,sU,yy,bp]
theorem Sd{y:Operand}:sS P KT sm N τ0 r ((⟨d,.assign y,ty,pos,af,none⟩,eH)::l) τ H K=(sS P KT sm N τ0 r l (τ.put d (aU τ y)) H K):=by simp[sS,oS,lN,sE,kl,GK,cE,fW,qg,sU,yy,bp]
theorem jjv{t:TypeId}{y:Operand}:sS P KT sm N τ0 r ((⟨d,.load t y,ty,pos,af,none⟩,eH)::l) τ H K=(oK (ff P N H t (aU τ y))<|tg fun x=>sS P KT sm N τ0 r l (τ.put d x) H K):=rfl
theorem ZH{t:TypeId}{y:Operand}{f:Nat}:sS P KT sm N τ0 r ((⟨d,.fieldAddr t y f,ty,pos,af,none⟩,eH)::l) τ H K=(oK (dt P t f (aU τ y))<|tg fun x=>sS P KT sm N τ0 r l (τ.put d x) H K):=rfl
theorem ZG{t:TypeId}{y z:Operand}:sS P KT sm N τ0 r ((⟨d,.indexAddr t y z,ty,pos,af,none⟩,eH)::l) τ H K=(oK (dU P t (aU τ y) (aU τ z))<|tg fun x=>sS P KT sm N τ0 r l (τ.put d x) H K):=rfl
theorem jrv{op:BinOp}{t t':TypeId}{y z:Operand}:sS P KT sm N τ0 r ((⟨d,.binOp op t y z t',ty,pos,af,none⟩,eH)::l) τ H K=(oK (ur P op t (aU τ y) (aU τ z))<|tg fun x=>sS P KT sm N τ0 r l (τ.put d x) H K):=rfl
theorem jjw{s t:TypeId}{y:Operand}:sS P KT sm N τ0 r ((⟨d,.convert s t y,ty,pos,af,none⟩,eH)::l) τ H K=(oK (ng P s t (aU τ y))<|tg fun x=>sS P KT sm N τ0 r l (τ.put d x) H K):=rfl
theorem jci{t:TypeId}{ps:Array (Nat × Operand)}:sS P KT sm N τ0 r ((⟨d,.build t ps,ty,pos,af,none⟩,eH)::l) τ H K=(oK (iW P t (ps.toList.map fun p=>(p.1,aU τ p.2)))<|tg fun x=>sS P KT sm N τ0 r l (τ.put d x) H K):=rfl
theorem jjx{y:Operand}:sS P KT sm N τ0 r ((⟨d,.nilCheck y,ty,pos,af,none⟩,eH)::l) τ H K=(oK (if mU (aU τ y)then some (aU τ y)else none)<|tg fun x=>sS P KT sm N τ0 r l (τ.put d x) H K):=rfl
theorem Sb{t:TypeId}{y z:Operand}{ok:Bool}:sS P KT sm N τ0 r ((⟨d,.lookup t y z ok,ty,pos,af,none⟩,eH)::l) τ H K=(oK (zf P N H KT t (aU τ y) (aU τ z) ok)<|tg fun x=>sS P KT sm N τ0 r l (τ.put d x) H K):=rfl
theorem ZF{fn:Fn}{fi ca:Array Operand}:sS P KT sm N τ0 r ((⟨d,.makeFunc fn fi ca,ty,pos,af,none⟩,eH)::l) τ H K=(sS P KT sm N τ0 r l (τ.put d (.dk fn (fi.toList.map (aU τ)) (ca.toList.map (aU τ)))) H K):=by simp[sS,oS,lN,sE,kl,GK,cE,fW,qg,sU,yy,bp]
theorem jrw{args:Array Operand}{ts:Array TypeId}:sS P KT sm N τ0 r ((⟨d,.call ⟨.builtin .len,args,ts⟩,ty,pos,af,none⟩,eH)::l) τ H K=(oK (dz P .len ts.toList (args.toList.map (aU τ)))<|tg fun x=>sS P KT sm N τ0 r l (τ.put d x) H K):=rfl
theorem jrx{args:Array Operand}{ts:Array TypeId}:sS P KT sm N τ0 r ((⟨d,.call ⟨.builtin .min,args,ts⟩,ty,pos,af,none⟩,eH)::l) τ H K=(oK (dz P .min ts.toList (args.toList.map (aU τ)))<|tg fun x=>sS P KT sm N τ0 r l (τ.put d x) H K):=rfl
theorem jcj{f:FuncId}{args:Array Operand}{ts:Array TypeId}:sS P KT sm N τ0 r ((⟨d,.call ⟨.value (.func f),args,ts⟩,ty,pos,af,none⟩,eH)::l) τ H K=(kE P sm N τ0 τ H ((aU τ (.func f))) (args.toList.map (aU τ))<|tg fun x H'=>rT P KT N eH (τ.put d x) H' (tg (sS P KT sm N τ0 r l (τ.put d x) H' K))):=rfl
theorem jck{f:Nat}{args:Array Operand}{ts:Array TypeId}:sS P KT sm N τ0 r ((⟨d,.call ⟨.value (.tmp f),args,ts⟩,ty,pos,af,none⟩,eH)::l) τ H K=(kE P sm N τ0 τ H ((aU τ (.tmp f))) (args.toList.map (aU τ))<|tg fun x H'=>rT P KT N eH (τ.put d x) H' (tg (sS P KT sm N τ0 r l (τ.put d x) H' K))):=rfl
theorem jcl{t:TypeId}:sS P KT sm N τ0 r ((⟨d,.alloc t,ty,pos,af,none⟩,eH)::l) τ H K=(oK (gr P N r [] (aU τ) (.alloc t) H [])<|tg fun p=>sS P KT sm N τ0 (r+1) l (τ.put d p.1) p.2.1 K):=rfl
theorem jjy{t:TypeId}{y z:Operand}:sS P KT sm N τ0 r ((⟨d,.makeSlice t y z,ty,pos,af,none⟩,eH)::l) τ H K=(oK (gr P N r [] (aU τ) (.makeSlice t y z) H [])<|tg fun p=>sS P KT sm N τ0 (r+1) l (τ.put d p.1) p.2.1 K):=rfl
theorem ZE{t:TypeId}{n:Nat}{ps:Array (Nat × Operand)}:sS P KT sm N τ0 r ((⟨d,.buildSlice t n ps,ty,pos,af,none⟩,eH)::l) τ H K=(oK (gr P N r [] (aU τ) (.buildSlice t n ps) H [])<|tg fun p=>sS P KT sm N τ0 (r+1) l (τ.put d p.1) p.2.1 K):=rfl
theorem jry{args:Array Operand}{ts:Array TypeId}:sS P KT sm N τ0 r ((⟨d,.call ⟨.builtin .append,args,ts⟩,ty,pos,af,none⟩,eH)::l) τ H K=(oK (fx P H.length (aU τ) (.call ⟨.builtin .append,args,ts⟩) H)<|tg fun p=>rT P KT N eH (τ.put d p.1) (gx H p.2.2++[p.2.1]) (tg (sS P KT sm N τ0 r l (τ.put d p.1) (gx H p.2.2++[p.2.1]) K))):=rfl
theorem jcm{t:TypeId}{y z:Operand}:sS P KT sm N τ0 r ((⟨d,.store t y z,ty,pos,af,none⟩,eH)::l) τ H K=(oK (fN P t (aU τ y) (aU τ z) H [] 0)<|tg fun H'=>rT P KT N eH (τ.put d (.d (.val undef))) H' (tg (sS P KT sm N τ0 r l (τ.put d (.d (.val undef))) H' K))):=rfl
theorem ZD{t:TypeId}{y z u:Operand}:sS P KT sm N τ0 r ((⟨d,.mapUpdate t y z u,ty,pos,af,none⟩,eH)::l) τ H K=(oK (wF P KT (aU τ) (.mapUpdate t y z u) H [])<|tg fun p=>rT P KT N eH (τ.put d p.1) p.2 (tg (sS P KT sm N τ0 r l (τ.put d p.1) p.2 K))):=rfl
end
end
section
def nN(n:Int):Prop:= -9223372036854775808≤n∧n<9223372036854775808
section
variable {P:Program} {KT:TypeId→Bool} {H:ak} {ρ:Operand→AV} {N:Nat}
theorem jjz{kt:TypeId}(hu:P.underlying kt=some (.int .i64)){n:Int}(hn:nN n):(keyOf P kt (.int .i64 n)).isSome=true:=by
 have hw:(Lit.int .i64 n).wf=true:=by
  obtain⟨h1,h2⟩:=hn
  simp[Lit.wf]
  exact⟨h1,by omega⟩
 simp[keyOf,hu,mapKey,hw]
def Kz:Option bq→Option (List (Value × Nat × AV))
 |some (.map es _)=>some es
 |_=>none
end
end
section
section
variable {P:Program} {H:ak} {N:Nat} {sm:List Nat} {τ:Fr}
def P1(P:Program)(f:FuncId)(ds:List D)(r:Nat→AV)(o:bq):Prop:=
 nU P f=true∧∀(w:World) (O:Nat→Prop) (vals:Array Value),vals.size=ds.length→(∀j x,ds[j]? =some x→fJ w O x (vals.getD j undef))→(∀b,O b→b<w.heap.size)→
  Calls P f vals w fun e w'=>∃v p,e= .returned v∧Below w.heap.size w w'∧(∀q,p=some q→w.heap.size≤q.1)∧
   ∀(pl:List (Option (Nat × Nat))) (n:Nat) (dO:Nat→Prop),pl[n]? =some p→(∀b,dO b→O b∨∃k,p=some (b,k))→gC w' pl dO n o∧Rd w' pl dO (r n) v
theorem ya8{f:FuncId}{xs:List AV}{ds:List D}{r:Nat→AV}{o:bq}(hp:P1 P f ds r o)(hd:∀(w:World) (pl:List (Option (Nat × Nat))) (own:Nat→Prop) (vals:Array Value),vals.size=xs.length→(∀j x,xs[j]? =some x→Rd w pl own x (vals.getD j undef))→vals.size=ds.length∧∀j x,ds[j]? =some x→fJ w own x (vals.getD j undef)):wU P f xs H fun x H'=>x=r H.length∧H'=H++[o]:=by
 refine⟨hp.1,fun E w pl vals hl hx hh hE=>?_⟩
 have hR:aQ ⟨E,w,fK H pl,0,pl,none,w.heap.size⟩ (fun _=>.any) H [] pl {tmps:=#[],defers:=[]} w:=
  ⟨hh,jw.refl _ _,fun id o p h1 h2 h3=>.inl ⟨id,o,p.2,h1,h2,h3⟩,hE,fun t=>.any _,rfl,sl.nil,fun i p hi=>hi⟩
 obtain⟨l1,l2⟩:=hd w pl (bu E H pl) vals hl hx
 refine(hp.2 w (bu E H pl) vals l1 l2 hR.iP).mono fun e w' ⟨v,p,he,hb,hq,ho⟩=>?_
 have cI:=hR.eu
 have hlen:pl.length=H.length:=hh.len
 have py:(pl++[none]).set H.length p=pl++[p]:=by rw[List.set_append_right _ _ (by omega)];simp[hlen]
 have hH:(H++[bq.free]).set H.length o=H++[o]:=by rw[List.set_append_right _ _ (bm _)];simp
 have rz:(pl++[p])[H.length]? =some p:=by rw[←hlen];simp
 have dp:∀b,bu E (H++[.free]) (pl++[none]) b→bu E H pl b:=fun b ia=>by
  rcases ia with h|⟨i,oo,k,h1,h2,h3⟩
  ·exact .inl h
  ·rcases Nat.lt_or_ge i H.length with hi|hi
   ·rw[iI hi]at h1
    rw[iI (by omega)]at h3
    exact .inr ⟨i,oo,k,h1,h2,h3⟩
   ·rw[ji (by omega)]at h3
    cases hk:i - pl.length<;>rw[hk]at h3<;>simp at h3
 have hl:=aQ.laid (w':=w') (n:=H.length) (o:=o) (p:=p) cI (by rw[ji (bm _)];simp) (fun p hp=>by cases hp) hb hq (fun dO HM=>by
  rw[py]
  exact(ho _ _ dO rz (fun b ia=>(HM b ia).imp_left (dp b))).1)
 rw[py,hH]at hl
 obtain⟨h1,h2⟩:=hl
 refine⟨v,_,_,pl++[p],he,⟨rfl,rfl⟩,?_,h1.h,h1.km,fun b ia=>?_,h1.keep⟩
 ·exact(ho _ _ (bu E (H++[o]) (pl++[p])) rz (fun b ia=>(h2 b ia).imp_left (dp b))).2
 ·obtain⟨id,oo,k,b1,b2,b3⟩:=ia
  exact h1.gZ id oo _ b1 b2 b3
theorem jj1{f:FuncId}{ds:List D}{r:Nat→AV}{o:bq}{args:List AV}{KK:AV→ak→Prop}(hp:P1 P f ds r o)(hd:args=ds.map .d)(hK:KK (r H.length) (H++[o])):kC P sm N H τ (.d (.val (.func (.func f) #[] #[]))) args true (tg KK):=by
 subst hd
 refine jrl (ya8 hp fun w pl own vals hl hx=>⟨by simpa using hl,fun j x hj=>?_⟩) fun x H' ⟨h1,h2⟩=>by rw[h1,h2];exact hK
 have:=hx j (.d x) (by rw[List.getElem?_map,hj];rfl)
 cases this with|d _ _ h=>exact h
theorem TI{fn:Func}{Q:AV→ak→Prop}{τ:Fr}{t u:Tmp}{ty:TypeId}(h:fn.results.toList=[.cell t ty,.tmp u])(hq:oK (ff P H.length H ty (τ t)) (tg fun x=>Q (.dc [x,τ u]) H)):mQ P fn Q .ret τ H:=by
 obtain⟨x,h1,h2⟩:=hq
 show oG P τ H fn.results.toList _
 rw[h];exact⟨x,AA h1,h2⟩
end
end
section
abbrev Mp:=List (Value × Nat × Value) × Nat
def mE(s:List (Value × Nat × Value)):List (Value × Nat × AV):=s.map fun e=>(e.1,e.2.1,.d (.val e.2.2))
def mO(μ:Mp):bq:=.map (mE μ.1) μ.2
def mD(μ:Mp):D:=.mp μ.1 μ.2
def RV(k:Value)(s:List (Value × Nat × Value)):Option Nat:=s.findIdx? fun e=>kT e.1 k
def pV(k:Value)(μ:Mp):Option Value:=(μ.1.find? fun e=>kT e.1 k).map (·.2.2)
def uq(k v:Value)(μ:Mp):Mp:=match RV k μ.1 with
  |some i=>(μ.1.modify i fun q=>(q.1,q.2.1,v),μ.2)
  |none=>(μ.1++[(k,μ.2,v)],μ.2+1)
section
variable {P:Program} {KT:TypeId→Bool} {H:ak} {ρ:Operand→AV} {N:Nat}
def AS(P:Program)(KT:TypeId→Bool)(t:TypeId):Option Value:=match j4 P t with
  |some (kt,et)=>if KT kt then(match y2 P et with|some (.d (.val z))=>some z|_=>none)else none
  |none=>none
def pU(P:Program)(t:TypeId)(k:Value):Prop:=mI k=true∧∀kt et,j4 P t=some (kt,et)→(keyOf P kt k).isSome=true
structure rL (P:Program) (t:TypeId) (μ:Mp):Prop where
  keys:∀e∈μ.1,pU P t e.1
  born:∀e∈μ.1,e.2.1<μ.2
theorem rL.nil(t:TypeId)(n:Nat):rL P t ([],n):=⟨fun e he=>(by cases he),fun e he=>(by cases he)⟩
theorem Ml(k:Value):∀(s:List (Value × Nat × Value)) (i:Nat),j6 k (mE s) i=(s.findIdx? fun e=>kT e.1 k).map fun j=>(i+j,.d (.val (s.getD j (undef,0,undef)).2.2))
  |[],i=>rfl
  |p::s,i=>by
    show(if kT p.1 k then _ else _)=_
    rw[List.findIdx?_cons]
    by_cases hp:kT p.1 k
    · simp[hp]
    · simp only[hp,Bool.false_eq_true,if_false,Option.map_map]
      have ih:=Ml k s (i+1)
      unfold mE at ih
      rw[ih]
      congr 1
      funext j
      simp only[Function.comp,List.getD_cons_succ]
      rw[show i+1+j=i+(j+1) by omega]
theorem Sa(k:Value)(μ:Mp):(j6 k (mE μ.1) 0).map (·.2)=(pV k μ).map fun v=>AV.d (.val v):=by
  rw[Ml]
  unfold pV
  generalize μ.1=s
  induction s with
  |nil=>rfl
  |cons p s ih=>
    rw[List.findIdx?_cons,List.find?_cons]
    by_cases hp:kT p.1 k
    · simp[hp]
    · simp only[hp,Bool.false_eq_true,if_false,Option.map_map]at ih ⊢
      simpa[Function.comp_def]using ih
theorem jj2(s:List (Value × Nat × Value))(i:Nat)(v:Value):(mE s).modify i (fun q=>(q.1,q.2.1,AV.d (.val v)))=mE (s.modify i fun q=>(q.1,q.2.1,v)):=by
  apply List.ext_getElem?
  intro j
  unfold mE
  rw[List.getElem?_modify,List.getElem?_map,List.getElem?_map,List.getElem?_modify]
  cases s[j]? with
  |none=>rfl
  |some p=>by_cases h:i=j<;>simp[h]
theorem rL.kb{t kt et:TypeId}{μ:Mp}(h:rL P t μ)(hm:j4 P t=some (kt,et)):p9 P kt (mE μ.1)=true:=by
  refine kF.2 fun e he=>?_
  obtain⟨p,hp,rfl⟩:=kV.1 he
  exact(h.keys p hp).2 kt et hm
theorem rL.put{t:TypeId}{μ:Mp}(h:rL P t μ){k v:Value}(hk:pU P t k):rL P t (uq k v μ):=by
  unfold uq
  split
  · rename_i i hi
    refine⟨fun e he=>?_,fun e he=>?_⟩<;>
      (obtain⟨j,hj⟩:=List.getElem?_of_mem he
       simp only at hj
       rw[List.getElem?_modify,Option.map_eq_map,cA]at hj
       obtain⟨q,hq,rfl⟩:=hj
       have hm:=List.mem_of_getElem? hq
       split)
    · exact h.keys q hm
    · exact h.keys q hm
    · exact h.born q hm
    · exact h.born q hm
  · refine⟨fun e he=>?_,fun e he=>?_⟩<;>rcases pr.1 he with he|he
    · exact h.keys e he
    · rw[sa.1 he];exact hk
    · exact Nat.lt_succ_of_lt (h.born e he)
    · rw[sa.1 he];exact Nat.lt_succ_self _
theorem jco{k v:Value}(hv:kT k k=true):∀{s:List (Value × Nat × Value)} {i:Nat},(s.findIdx? fun e=>kT e.1 k)=some i→((s.modify i fun q=>(q.1,q.2.1,v)).find? fun e=>kT e.1 k).map (·.2.2)=some v
  |[],i,h=>by cases h
  |p::s,i,h=>by
    rw[List.findIdx?_cons]at h
    split at h
    · rename_i hp
      cases h
      simp[hp]
    · rename_i hp
      obtain⟨j,hj,rfl⟩:=cA.1 h
      rw[List.modify_succ_cons,List.find?_cons]
      simp only[hp]
      exact jco hv hj
theorem TH{k k' v:Value}(cw:∀q:Value,kT q k=true→kT q k'=false):∀{s:List (Value × Nat × Value)} {i:Nat},(s.findIdx? fun e=>kT e.1 k)=some i→((s.modify i fun q=>(q.1,q.2.1,v)).find? fun e=>kT e.1 k')=(s.find? fun e=>kT e.1 k')
  |[],i,h=>by cases h
  |p::s,i,h=>by
    rw[List.findIdx?_cons]at h
    split at h
    · rename_i hp
      cases h
      simp[cw p.1 hp]
    · rename_i hp
      obtain⟨j,hj,rfl⟩:=cA.1 h
      rw[List.modify_succ_cons,List.find?_cons,List.find?_cons,TH cw hj]
theorem FN{k k' v:Value}(hk:mI k=true)(oz:mI k'=true)(μ:Mp)[Decidable (k'=k)]:pV k' (uq k v μ)=if k'=k then some v else pV k' μ:=by
  unfold uq RV
  split
  · rename_i i hi
    by_cases he:k'=k
    · subst he
      rw[if_pos rfl]
      exact jco (Jp hk) hi
    · rw[if_neg he]
      unfold pV
      rw[TH (fun q hq=>?_) hi]
      cases QM:kT q k' with
      |false=>rfl
      |true=>exact absurd ((FC QM).symm.trans (FC hq)) he
  · rename_i hi
    unfold pV
    simp only[List.find?_append]
    by_cases he:k'=k
    · subst he
      rw[if_pos rfl]
      have:(μ.1.find? fun e=>kT e.1 k')=none:=List.find?_eq_none.2 fun e hm hv=>by
        have:=List.findIdx?_eq_none_iff.1 hi e hm
        rw[hv]at this;cases this
      simp[this,Jp hk]
    · rw[if_neg he]
      have hn:kT k k'=false:=by
        cases hq:kT k k' with
        |false=>rfl
        |true=>exact absurd (FC hq).symm he
      cases(μ.1.find? fun e=>kT e.1 k')<;>simp[hn]
def AR(P:Program)(KT:TypeId→Bool)(t:TypeId)(id:Nat)(v:Value)(y:AV)(H:ak)(o:Option bq):Option (AV × ak):=
  match j4 P t with
  |some (kt,_)=>(match o with
    |some (.map es clock)=>if KT kt&&mI v&&(keyOf P kt v).isSome&&p9 P kt es&&true then
        some (.d (.val undef),H.set id (match j6 v es 0 with|some (i,_)=>.map (es.modify i fun q=>(q.1,q.2.1,y)) clock|none=>.map (es++[(v,clock,y)]) (clock+1)))else none
    |_=>none)
  |none=>none
def GO(P:Program)(KT:TypeId→Bool)(t:TypeId)(m:AV)(k:Option Value)(y:AV)(H:ak):Option (AV × ak):=
  match m,k with
  | .om id,some v=>AR P KT t id v y H (H[id]?)
  |_,_=>none
theorem jcp{t:TypeId}{m k y:Operand}:wF P KT ρ (.mapUpdate t m k y) H []=GO P KT t (ρ m) (nT (ρ k)) (ρ y) H:=by
  unfold wF GO AR
  simp only[List.all_nil,Bool.and_true]
  cases ρ m<;>cases j4 P t<;>cases nT (ρ k)<;>rfl
theorem Cc{t:TypeId}{m k y:Operand}:wF P KT ρ (.insert t m k y) H []=GO P KT t (ρ m) (nT (ρ k)) (ρ y) H:=by
  unfold wF GO AR
  simp only[List.all_nil,Bool.and_true]
  cases ρ m<;>cases j4 P t<;>cases nT (ρ k)<;>rfl
theorem BX{t:TypeId}{id:Nat}{v:Value}{y:AV}:GO P KT t (.om id) (some v) y H=AR P KT t id v y H (H[id]?):=rfl
theorem MX{t:TypeId}{z:Value}(h:AS P KT t=some z):∃kt et,j4 P t=some (kt,et)∧KT kt=true∧y2 P et=some (.d (.val z)):=by
  unfold AS at h
  split at h
  · rename_i kt et hm
    split at h
    · rename_i hk
      split at h
      · cases h;exact⟨kt,et,hm,hk,by assumption⟩
      · cases h
    · cases h
  · cases h
theorem Hj{t:TypeId}{id:Nat}{v u z:Value}{μ:Mp}(ht:AS P KT t=some z)(hv:pU P t v)(hμ:rL P t μ):AR P KT t id v (.d (.val u)) H (some (mO μ))=some (.d (.val undef),H.set id (mO (uq v u μ))):=by
  obtain⟨kt,et,hm,h1,hz⟩:=MX ht
  unfold AR mO
  simp only[hm,h1,hv.1,hv.2 kt et hm,hμ.kb hm,Bool.and_self,if_true,Ml]
  unfold uq RV
  cases hf:μ.1.findIdx? fun e=>kT e.1 v with
  |none=>simp[mE]
  |some i=>simp[jj2]
def ZZ(P:Program)(KT:TypeId→Bool)(t:TypeId)(id:Nat)(v:Value)(H:ak)(o:Option bq):Option (AV × ak):=
  match j4 P t with
  |some (kt,et)=>(match o,y2 P et with
      |some (.map es clock),some z=>if KT kt&&mI v&&(keyOf P kt v).isSome&&p9 P kt es then
          (match j6 v es 0 with
          |some (i,y)=>(es[i]?).map fun q=>(.dc [y,.d (.val (.int .i64 q.2.1))],H.set id (.map es clock))
          |none=>some (.dc [z,.d (.val (.int .i64 clock))],H.set id (.map (es++[(v,clock,z)]) (clock+1))))else none
      |_,_=>none)
  |none=>none
def meK(P:Program)(KT:TypeId→Bool)(t:TypeId)(m:AV)(k:Option Value)(H:ak):Option (AV × ak):=
  match m,k with
  | .om id,some v=>ZZ P KT t id v H (H[id]?)
  |_,_=>none
theorem jrz{t:TypeId}{id:Nat}{v:Value}:meK P KT t (.om id) (some v) H=ZZ P KT t id v H (H[id]?):=rfl
def zp(P:Program)(KT:TypeId→Bool)(t:TypeId)(k:Option Value)(ok:Bool)(es:Option (List (Value × Nat × AV))):Option AV:=
  match j4 P t,k,es with
  |some (kt,et),some v,some es=>(match y2 P et with
    |some z=>if KT kt&&mI v&&(keyOf P kt v).isSome&&p9 P kt es then some (Pk ok z (j6 v es 0))else none
    |none=>none)
  |_,_,_=>none
theorem yq{t:TypeId}{k:AV}{ok:Bool}{id:Nat}(hid:id<N):zf P N H KT t (.om id) k ok=zp P KT t (nT k) ok (Kz (H[id]?)):=by
  unfold zf zp Kz
  simp only[yz,hid,if_true]
  cases j4 P t with
  |none=>rfl
  |some q=>
    cases nT k with
    |none=>rfl
    |some v=>
      cases H[id]? with
      |none=>rfl
      |some o=>cases o<;>rfl
theorem jr0{μ:Mp}:Kz (some (mO μ))=some (mE μ.1):=rfl
theorem ZC{t:TypeId}{v z:Value}{μ:Mp}(ht:AS P KT t=some z)(hv:pU P t v)(hμ:rL P t μ):zp P KT t (some v) true (some (mE μ.1))=some (.dc [.d (.val ((pV v μ).getD z)),.d (.val (.bool (pV v μ).isSome))]):=by
  obtain⟨kt,et,hm,h1,hz⟩:=MX ht
  unfold zp
  simp only[hm,hz,h1,hv.1,hv.2 kt et hm,hμ.kb hm,Bool.and_self,if_true]
  have:=Sa v μ
  cases hf:j6 v (mE μ.1) 0 with
  |none=>rw[hf]at this;cases hg:pV v μ with
    |none=>rfl
    |some u=>rw[hg]at this;cases this
  |some p=>rw[hf]at this;cases hg:pV v μ with
    |none=>rw[hg]at this;cases this
    |some u=>rw[hg]at this;obtain⟨i,y⟩:=p;simp at this;subst this;rfl
theorem Pf{t:TypeId}{v z:Value}{μ:Mp}(ht:AS P KT t=some z)(hv:pU P t v)(hμ:rL P t μ):zp P KT t (some v) false (some (mE μ.1))=some (.d (.val ((pV v μ).getD z))):=by
  obtain⟨kt,et,hm,h1,hz⟩:=MX ht
  unfold zp
  simp only[hm,hz,h1,hv.1,hv.2 kt et hm,hμ.kb hm,Bool.and_self,if_true]
  have:=Sa v μ
  cases hf:j6 v (mE μ.1) 0 with
  |none=>rw[hf]at this;cases hg:pV v μ with
    |none=>rfl
    |some u=>rw[hg]at this;cases this
  |some p=>rw[hf]at this;cases hg:pV v μ with
    |none=>rw[hg]at this;cases this
    |some u=>rw[hg]at this;obtain⟨i,y⟩:=p;simp at this;subst this;rfl
theorem Ky{keep:List Nat}{μ:Mp}:z6 keep (mO μ)=mO μ:=by
  unfold mO z6 mE
  simp only[List.map_map]
  rfl
theorem Kx{id:Nat}{l:List D}{μ:Mp}:z7 id l (mO μ)=mO μ:=by
  unfold mO z7 mE
  simp only[List.map_map]
  rfl
theorem Y9{μ:Mp}:D.mp μ.1 μ.2=mD μ:=rfl
theorem jr1{μ:Mp}:(mD μ).fix=mD μ:=rfl
theorem Xv:bq.map [] 0=mO ([],0):=rfl
theorem aZ{p:Nat→Bool}{μ:Mp}:(mO μ).allI p=true:=by
  show AV.ah p ((mE μ.1).map (·.2.2))=true
  generalize μ.1=s
  induction s with
  |nil=>rfl
  |cons e s ih=>exact ih
theorem Pe{keep:List Nat}{cs:List AV}:z6 keep (.cells cs)= .cells (gN keep cs):=rfl
theorem jr2{keep:List Nat}:z6 keep .dead= .dead:=rfl
theorem jr3{keep:List Nat}:z6 keep .free= .free:=rfl
theorem Pd{id:Nat}{l:List D}{cs:List AV}:z7 id l (.cells cs)= .cells (gf id l cs):=rfl
theorem jr4{id:Nat}{l:List D}:z7 id l .dead= .dead:=rfl
theorem jr5{id:Nat}{l:List D}:z7 id l .free= .free:=rfl
theorem bc{p:Nat→Bool}{cs:List AV}:(bq.cells cs).allI p=AV.ah p cs:=rfl
theorem bg{p:Nat→Bool}:bq.dead.allI p=true:=rfl
theorem bf{p:Nat→Bool}:bq.free.allI p=true:=rfl
theorem Mk{c:Cx}{code:Code}{QQ:Exit→Fr→ak→Prop}(h:dj P c code QQ (aG []) H):dj P c code QQ (qM []) H:=dG (bT _) h
theorem jn7{look:kc}{n:Nat}:rV look (n+1) []=some []:=rfl
theorem jj4{look:kc}{n:Nat}{y:AV}{r:List AV}:rV look (n+1) (y::r)=(uu look n y).bind fun a=>(rV look (n+1) r).map (a::·):=by
  rw[show rV look (n+1) (y::r)=(y::r).mapM (uu look n) from rfl,List.mapM_cons]
  show _=(uu look n y).bind fun a=>(r.mapM (uu look n)).map (a::·)
  cases uu look n y<;>cases r.mapM (uu look n)<;>rfl
theorem ybb{look:kc}{n k id off m:Nat}:uu look (n+1) (.os k id off m)=(look.c id).bind fun cs=>(dJ cs off (m*k)).bind fun r=>(rV look n r).map (D.fs · m):=by
  show(match look.c id with|some cs=>_|none=>none)=_
  cases look.c id with
  |none=>rfl
  |some cs=>
    show(match dJ cs off (m*k)with|some l=>_|none=>none)=(dJ cs off (m*k)).bind _
    cases dJ cs off (m*k)<;>rfl
theorem BW{v:Value}:nT (.d (.val v))=some v:=rfl
theorem jj5{ds:List D}:nT (.d (.agg ds))=(kh (ds.map .d)).map fun l=>.agg l.toArray:=rfl
theorem jr6{xs:List AV}:nT (.agg xs)=(kh xs).map fun l=>.agg l.toArray:=rfl
theorem LP:kh []=some []:=rfl
theorem Je{v:Value}{l:List AV}:kh (.d (.val v)::l)=(kh l).map (v::·):=rfl
theorem aY{p:Nat→Bool}{l:List D}:AV.ah p (au l)=true:=by
  induction l with
  |nil=>rfl
  |cons e s ih=>exact ih
theorem w4{sm:List Nat}{τ0 τ:Fr}{f:FuncId}{args:List AV}{ds:List D}{x:AV}{KK:AV→ak→Prop}(hp:cC P f ds x)(hd:AV.lT.iO args=some ds)(hK:KK x H):kE P sm N τ0 τ H (.d (.val (.func (.func f) #[] #[]))) args (tg KK):=.inl (jig hp hd hK)
theorem LO{sm:List Nat}{τ0 τ:Fr}{f:FuncId}{args:List AV}{ds:List D}{Q:AV→Prop}{KK:AV→ak→Prop}(hp:tV P f ds Q)(hd:AV.lT.iO args=some ds)(hK:∀x,Q x→KK x H):kE P sm N τ0 τ H (.d (.val (.func (.func f) #[] #[]))) args (tg KK):=
  .inr ⟨f,[],[],rfl,.inl ⟨ds,Q,by simpa using hd,hp,hK⟩⟩
theorem uL{sm:List Nat}{τ0 τ:Fr}{f:FuncId}{args:List AV}{S T:ak}{K0 KK:AV→ak→Prop}{ks:List Nat}(h:cM P ks f args S K0)(hH:H=S++T)(hN:S.length≤N)(hm:sm.all (aJ ks S.length)=true)(hτ:∀t,(τ t).allI (aJ ks S.length)=true)(h0:∀t,(τ0 t).allI (aJ ks S.length)=true)(ha:AV.ah (aN S.length) args=true)
    (hS:∀o∈S,o.allI (aN S.length)=true) (hT:∀o∈T,o.allI (aJ ks S.length)=true) (hK:∀x S',K0 x S'→S'.length=S.length∧KK x (S'++T)):kE P sm N τ0 τ H (.d (.val (.func (.func f) #[] #[]))) args (tg KK):=
  .inr ⟨f,[],[],rfl,.inr ⟨ks,S,T,K0,hH,hN,hm,hτ,h0,by simpa using ha,hS,hT,by simpa using h,hK⟩⟩
end
end
section
open Go Go.RowKit Go.Maps
open Go.WideElems (Fit rd rg rg_of)
section
variable {P:Program} {kt:TypeId}
end
section
variable {P:Program} {c c1:Cx} {τ τ':Fr} {a a':Act} {w w' w1:World} {pl bt:List (Option (Nat × Nat))} {H H':ak} {r:Nat} {ks:List Nat}
end
section
variable {P:Program} {c:Cx} {τ:Fr} {H:ak} {Q:Exit→Fr→ak→Prop}
theorem Rd.Ci{w:World}{pl:List (Option (Nat × Nat))}{own:Nat→Prop}{u v:Value}(h:Rd w pl own (.d (.val u)) v):v=u:=by
 cases h with|d _ _ h=>cases h;rfl
end
end
end Go.Proofs.YtapjobndmmkanaaGreat
