/- Of no program: every operation of the abstract machine, carried out. -/
import Derived.Test.YtapjobndmmkanaaGreatAN
import Derived.Laws.StructEq
import Derived.Still
set_option linter.unusedVariables false
set_option linter.unusedSimpArgs false
namespace Go.Proofs.YtapjobndmmkanaaGreat
open Go Go.RowKit
section
section
variable {P:Program} {c:Cx} {τ:Fr} {a:Act} {w w':World} {pl bK:List (Option (Nat × Nat))} {H H':av} {sh sh':List (Nat × Nat)} {own:Nat→Prop}
theorem RT{t e:TypeId}(hu:P.underlying t=some (.slice e))(ad:Addr)(n n' c c':Nat)(x y:Operand){op:BinOp}(k9:op= .eql∨op= .neq):(do eqGuard op t x y (.slice (some ad) n c) (.slice none n' c');binOp op t (.slice (some ad) n c) (.slice none n' c'):Sem Value).run P w= .ok (.bool (op== .neq)) w:=by
 have h:(Op.equal t (.slice (some ad) n c) (.slice none n' c')).run P w= .ok false w:=Mx (by unfold IL;rw[hu]) _ _ _ _ _ w
 rw[Sem.run_bind,TI]
 rcases k9 with rfl|rfl<;>simp[binOp,h]
theorem jfk{t e:TypeId}(hu:P.underlying t=some (.pointer e))(ad:Addr)(x y:Operand){op:BinOp}(k9:op= .eql∨op= .neq):(do eqGuard op t x y (.pointer (some ad)) (.pointer none);binOp op t (.pointer (some ad)) (.pointer none):Sem Value).run P w= .ok (.bool (op== .neq)) w:=by
 have h:(Op.equalIn (9999+1) t (.pointer (some ad)) (.pointer none)).run P w= .ok false w:=by
  unfold Op.equalIn;simp[run_underlying hu]
 have h:(Op.equal t (.pointer (some ad)) (.pointer none)).run P w= .ok false w:=h
 have hg:(eqGuard op t x y (.pointer (some ad)) (.pointer none)).run P w= .ok () w:=by
  unfold eqGuard;split<;>simp
 rw[Sem.run_bind,hg]
 rcases k9 with rfl|rfl<;>simp[binOp,h]
theorem jrd{t k e:TypeId}(hu:P.underlying t=some (.map k e))(b:Nat)(x y:Operand){op:BinOp}(k9:op= .eql∨op= .neq):(do eqGuard op t x y (.map (some b)) (.map none);binOp op t (.map (some b)) (.map none):Sem Value).run P w= .ok (.bool (op== .neq)) w:=by
 have h:(Op.equalIn (9999+1) t (.map (some b)) (.map none)).run P w= .ok false w:=by
  unfold Op.equalIn;simp[run_underlying hu]
 have h:(Op.equal t (.map (some b)) (.map none)).run P w= .ok false w:=h
 have hg:(eqGuard op t x y (.map (some b)) (.map none)).run P w= .ok () w:=by
  unfold eqGuard;split<;>simp
 rw[Sem.run_bind,hg]
 rcases k9 with rfl|rfl<;>simp[binOp,h]
theorem LI(w:World)(l m:List Value):∀(fs:List Field) (d:Nat) {b:Bool},fs.all (Nl P)=true→u6 l m (fs.map (JR P))=some b→(Op.eqFields (d+1) l.toArray m.toArray fs).run P w= .ok b w
 |[],d,b,_,h=>by cases h;rfl
 |f::fs,d,b,ha,h=>by
  simp only[List.all_cons,fY]at ha
  obtain⟨h1,h2⟩:=ha
  simp only[Nl,fY,mZ]at h1
  obtain⟨hn,hu⟩:=h1
  have Bc:∀u,P.underlying f.type=some u→(∀fs,u≠ .struct fs)→(∀n e,u≠ .array n e)→fC P f.type=some false:=fun u hu h1 h2=>by
   unfold fC;rw[hu]
   cases u<;>first|rfl|exact absurd rfl (h1 _)|exact absurd rfl (h2 _ _)
  have mG:∀(l:List Value) (v:Value),fC P f.type=some false→l[f.offset]? =some v→(part f.type l.toArray f.offset).run P w= .ok v w:=fun l v hg hx=>by
   unfold part
   simp only[Sem.run_bind,LP hg,Result.andThen_ok]
   rw[if_neg (by decide),List.getElem?_toArray,hx];rfl
  cases hk:Gg P f with
  |none=>rw[hk]at hu;cases hu
  |some kb=>
   have hfo:JR P f=(f.offset,kb):=by unfold JR;rw[hk];rfl
   rw[List.map_cons,hfo]at h
   cases kb with
   |false=>
    obtain⟨k0,eZ⟩:∃k0,P.underlying f.type=some (.int k0):=by
     unfold Gg at hk
     split at hk
     ·rename_i k0 e;exact⟨k0,e⟩
     ·cases hk
     ·cases hk
    have hg:=Bc _ eZ (fun _ e=>by cases e) (fun _ _ e=>by cases e)
    simp only[u6]at h
    split at h
    ·rename_i k x k' y hx hy
     split at h
     ·rename_i e
      subst e
      obtain⟨r,hr,rfl⟩:=dc.1 h
      unfold Op.eqFields
      rw[if_pos hn]
      simp only[Sem.run_bind,mG l _ hg hx,mG m _ hg hy,Result.andThen_ok,run_equalIn_int w d f.type k k0 x y eZ]
      cases mJ:x==y
      ·simp
      ·simp only[Bool.not_true,Bool.false_eq_true,if_false,Bool.true_and]
       exact LI w l m fs d h2 hr
     ·cases h
    ·cases h
   |true=>
    have eZ:P.underlying f.type=some .bool:=by
     unfold Gg at hk
     split at hk
     ·cases hk
     ·rename_i e;exact e
     ·cases hk
    have hg:=Bc _ eZ (fun _ e=>by cases e) (fun _ _ e=>by cases e)
    simp only[u6]at h
    split at h
    ·rename_i x y hx hy
     obtain⟨r,hr,rfl⟩:=dc.1 h
     unfold Op.eqFields
     rw[if_pos hn]
     simp only[Sem.run_bind,mG l _ hg hx,mG m _ hg hy,Result.andThen_ok,run_equalIn_bool' w d f.type x y eZ]
     cases mJ:x==y
     ·simp
     ·simp only[Bool.not_true,Bool.false_eq_true,if_false,Bool.true_and]
      exact LI w l m fs d h2 hr
    ·cases h
theorem jfl{y:AV}{l:List Value}{u:Value}(h:JQ y=some l)(hy:Rd w pl own y u):u= .agg l.toArray:=by
 refine E9 ?_ hy
 unfold JQ at h
 split at h
 ·simp only[oa,h,Option.map_some]
 ·simp only[oa,h,Option.map_some]
 ·cases h
theorem Q5{op:BinOp}{t:TypeId}{y z:Operand}{ay az:AV}{u v:Value}{b:Bool}(hb:JP P t ay az=some b)(hy:Rd w pl own ay u)(hz:Rd w pl own az v)(k9:op= .eql∨op= .neq):
  (do eqGuard op t y z u v;binOp op t u v:Sem Value).run P w= .ok (.bool (if op= .eql then b else !b)) w:=by
 unfold JP at hb
 obtain⟨os,Es,hb⟩:=Option.bind_eq_some_iff.1 hb
 obtain⟨l,hl,hb⟩:=Option.bind_eq_some_iff.1 hb
 obtain⟨m,hm,hb⟩:=Option.bind_eq_some_iff.1 hb
 rw[jfl hl hy,jfl hm hz]
 unfold DL at Es
 split at Es
 ·rename_i fs hfs
  split at Es
  ·rename_i hc
   simp only[fY,Bool.not_eq_true']at hc
   obtain⟨c1,c2,c3⟩:=hc
   cases Es
   have hF:P.fieldsOf t=fs:=by unfold Program.fieldsOf;rw[hfs]
   have hq:=run_equalIn_struct w 9999 t l.toArray m.toArray (by rw[hF,hfs]) c1
   rw[hF,LI w l m fs.toList 9998 c3 hb]at hq
   rw[Sem.run_bind,run_eqGuard_agg w op t y z _ _ c2]
   rcases k9 with rfl|rfl
   ·have h2:=run_eql_struct (P:=P) w t l.toArray m.toArray
    rw[hq]at h2
    exact h2
   ·have h2:=run_neq_struct (P:=P) w t l.toArray m.toArray
    rw[hq]at h2
    exact h2
  ·cases Es
 ·cases Es
theorem Q4{op:BinOp}{t:TypeId}{y z:Operand}{b:Bool}(hn:IB P t (bu τ y) (bu τ z)=true)(k9:op= .eql∨op= .neq)(hb:b=(op== .neq))(hy:Rd w pl own (bu τ y) (a.eval y))(hz:Rd w pl own (bu τ z) (a.eval z)):
  (do eqGuard op t y z (a.eval y) (a.eval z);binOp op t (a.eval y) (a.eval z):Sem Value).run P w= .ok (.bool b) w:=by
 subst hb
 unfold IB at hn
 generalize a.eval y=u at hy ⊢
 generalize a.eval z=v at hz ⊢
 generalize bu τ y=ay at hn hy
 generalize bu τ z=az at hn hz
 split at hn
 ·rename_i hu
  cases hy with|d _ _ hy=>cases hz with|d _ _ hz=>
  cases hz
  cases hy with|fs cs n cap b0 off f=>exact RT hu _ _ _ _ _ y z k9
 ·rename_i hu
  cases hz with|d _ _ hz=>
  cases hz
  cases hy with|os k id off n cap b0 base sz tt=>exact RT hu _ _ _ _ _ y z k9
 ·rename_i hu
  cases hz with|d _ _ hz=>
  cases hz
  cases hy with|op id off b0 base=>exact jfk hu _ y z k9
 ·rename_i hu
  cases hy with|d _ _ hy=>cases hz with|d _ _ hz=>
  cases hz
  cases hy with|fp cs i b0 off f=>exact jfk hu _ y z k9
 ·rename_i hu
  cases hz with|d _ _ hz=>
  cases hz
  cases hy with|om id b0 base=>exact jrd hu _ y z k9
 ·cases hn
theorem jkn{op:BinOp}{t:TypeId}{y z:Operand}{b:Bool}(hb:JO P op t (bu τ y) (bu τ z)=some b)(hy:Rd w pl own (bu τ y) (a.eval y))(hz:Rd w pl own (bu τ z) (a.eval z)):
  (do eqGuard op t y z (a.eval y) (a.eval z);binOp op t (a.eval y) (a.eval z):Sem Value).run P w= .ok (.bool b) w:=by
 unfold JO at hb
 split at hb
 ·split at hb
  ·rename_i hn;cases hb;exact Q4 hn (.inl rfl) rfl hy hz
  ·exact Q5 (op:=.eql) hb hy hz (.inl rfl)
 ·split at hb
  ·rename_i hn;cases hb;exact Q4 hn (.inr rfl) rfl hy hz
  ·obtain⟨r,hr,rfl⟩:=dc.1 hb
   exact Q5 (op:=.neq) hr hy hz (.inr rfl)
 ·cases hb
theorem IZ(h:aV c τ H sh pl a w){o:Oper}{N0:Nat}{x:AV}(hq:iq P N0 H (bu τ) o.op x){K:Act→World→Prop}{Q:Exit→Act→World→Prop}
  (hK:∀v w',aV c τ H sh pl a w'→Rd w' pl (bF c.E H pl) x v→K (a.put o.dst v) w'):o.wp P a w K Q:=by
 have done:∀v,(execOp a.eval o).run P w= .ok (.value v) w→Rd w pl (bF c.E H pl) x v→o.wp P a w K Q:=fun v hr hx=>BS hr (hK v w h hx)
 obtain⟨dst,op,ty,pos,after,guard⟩:=o
 simp only at hq hK done
 unfold iq at hq
 split at hq
 ·subst hq;exact done _ rfl (h.eval _)
 ·subst hq;exact done _ rfl (h.eval _)
 ·rename_i cc aa bb
  obtain⟨t,ht,rfl⟩:=hq
  have hb:=h.eval cc
  rw[ht]at hb
  have Ht:a.eval cc= .bool t:=by
   generalize a.eval cc=z at hb ⊢
   cases hb with|d _ _ hb=>cases hb;rfl
  refine done (if t then a.eval aa else a.eval bb) (by simp[execOp,Ht,asBool]) ?_
  cases t
  ·exact h.eval bb
  ·exact h.eval aa
 ·obtain⟨u,h1,h2⟩:=hq.run h.h (h.eval _)
  exact done u (by simp[execOp,h1]) h2
 ·obtain⟨u,h1,h2⟩:=hq.run (h.eval _)
  exact done u (by simp[execOp,h1]) h2
 ·obtain⟨u,h1,h2⟩:=hq.run (h.eval _)
  exact done u (by simp[execOp,h1]) h2
 ·obtain⟨u,h1,h2⟩:=hq.run (h.eval _) (h.eval _)
  exact done u (by simp[execOp,h1]) h2
 ·obtain⟨u,h1,h2⟩:=hq.run (h.eval _) (h.eval _)
  exact done u (by simp[execOp,h1]) h2
 ·rename_i t p lo hi
  have ev:∀(z:Option Operand) (y:AV),z.map (bu τ)=some y→∃v,z.map a.eval=some v∧Rd w pl (bF c.E H pl) y v:=fun z y hz=>by
   obtain⟨b,rfl,rfl⟩:=dc.1 hz
   exact⟨_,rfl,h.eval b⟩
  have ev0:∀(z:Option Operand),z.map (bu τ)=none→z.map a.eval=none:=fun z hz=>by
   cases z<;>simp_all
  obtain⟨u,h1,h2⟩:=hq.run h.h (h.eval p) (ev lo) (ev0 lo) (ev hi) (ev0 hi)
  exact done u (by simp[execOp,h1]) h2
 ·rename_i op t y z t'
  rcases hq with⟨u,v,r,hu,hv,hr,rfl⟩|⟨b,hb,rfl⟩
  case inr=>
   have dm:=jkn (P:=P) hb (h.eval y) (h.eval z)
   exact done _ (by simp only[execOp,Sem.run_bind]at dm ⊢;rw[dm];rfl) (.d _ _ (.val _))
  have h1:=h.eval y
  rw[hu]at h1
  have e1:a.eval y=u:=by generalize a.eval y=q at h1;cases h1 with|d _ _ h1=>cases h1;rfl
  have h2:=h.eval z
  rw[hv]at h2
  have e2:a.eval z=v:=by generalize a.eval z=q at h2;cases h2 with|d _ _ h2=>cases h2;rfl
  have dm:=jkj (P:=P) hr y z w
  exact done r (by simp only[execOp,e1,e2,Sem.run_bind]at dm ⊢;rw[dm];rfl) (.d _ _ (.val _))
 ·rename_i op t y
  obtain⟨u,r,hu,hr,rfl⟩:=hq
  have h1:=h.eval y
  rw[hu]at h1
  have e1:a.eval y=u:=by generalize a.eval y=q at h1;cases h1 with|d _ _ h1=>cases h1;rfl
  exact done r (by simp[execOp,e1,jq9 (P:=P) hr w]) (.d _ _ (.val _))
 ·rename_i s t y
  obtain⟨k,k',j,n,hu,hs,ht,rfl⟩:=hq
  have h1:=h.eval y
  rw[hu]at h1
  have e1:a.eval y= .int j n:=qB h1
  exact done _ (by simp[execOp,e1,je4 hs ht]) (.d _ _ (.val _))
 ·rename_i t parts
  obtain⟨u,h1,h2⟩:=hq.run (w:=w) (pl:=pl) (own:=bF c.E H pl) (vparts:=parts.map fun p=>(p.1,a.eval p.2)) (by simp) (fun j i x hj=>by
   rw[List.getElem?_map,dc]at hj
   obtain⟨q,hq,he⟩:=hj
   cases he
   exact⟨a.eval q.2,by rw[Array.toList_map,List.getElem?_map,hq];rfl,h.eval q.2⟩)
  exact done u (by simp only[execOp,Sem.run_bind,h1];rfl) h2
 ·rename_i t i
  obtain⟨vs,hv,hi⟩:=hq
  have h1:=h.eval t
  rw[hv]at h1
  generalize ht:a.eval t=q at h1
  cases h1 with
  |dR _ us hl hx=>
   have aA:=(ew.1 hi).1
   have e:us[i]? =some (us.getD i undef):=by rw[Array.getElem?_eq_getElem (by omega)];simp[Array.getD,hl,aA]
   have lz:=hx i x hi
   generalize us.getD i undef=u0 at e lz
   exact done u0 (by simp[execOp,ht,Instr.extract,e]) lz
 ·rename_i y
  obtain⟨hm,rfl⟩:=hq
  have h1:=h.eval y
  refine done (a.eval y) ?_ h1
  split at hm
  ·rename_i e;rw[e]at h1
   generalize hy:a.eval y=q at h1
   cases h1;simp[execOp,hy]
  ·rename_i e;rw[e]at h1
   generalize hy:a.eval y=q at h1
   cases h1 with|d _ _ h1=>cases h1;simp[execOp,hy]
  ·rename_i e;rw[e]at h1
   generalize hy:a.eval y=q at h1
   cases h1;simp[execOp,hy]
  ·exact hm.elim
 ·obtain⟨u,h1,h2⟩:=mQ.run hq h.h (h.eval _) (h.eval _)
  exact done u (by simp[execOp,h1]) h2
 ·rename_i fn fi ca
  subst hq
  have k1:=h.args fi
  have k2:=h.args ca
  exact done _ (by simp[execOp,Instr.makeFunc]) (.dC _ _ _ _ _ k1.1 k1.2 k2.1 k2.2)
 ·rename_i cl
  obtain⟨callee,args,ts⟩:=cl
  simp only at hq
  split at hq
  ·exact zx8 (o:=⟨dst,_,ty,pos,after,guard⟩) h rfl hq hK
  ·rename_i b
   obtain⟨v,h1,h2⟩:=zve h hq ty (args.map fun| .const _=>true|_=>false)
   exact done v (by simp only[execOp,resolve,Sem.run_bind,Sem.run_pure,Result.andThen_ok,invoke];exact h1) h2
  ·exact hq.elim
 ·exact hq.elim

def pB(H:av)(s:Nat)(src:AV)(m:Nat)(l:List AV):Prop:=
 match src with
 | .d (.fs cs n)=>cs.length=n*s∧m=n∧l=cs.map .d
 | .os k id off n=>k=s∧∃cs,H[id]? =some (.cells cs)∧ec cs off (n*s)=some l∧m=n
 | .d (.val (.slice none 0 0))=>m=0∧l=[]
 |_=>False
theorem pB.src{s m:Nat}{x:AV}{l:List AV}(h:pB H s x m l):Src H s x m l:=by
 unfold pB at h
 split at h
 ·obtain⟨h1,rfl,rfl⟩:=h;exact .fs _ _ h1
 ·obtain⟨rfl,cs,h1,h2,rfl⟩:=h;exact .os _ _ _ cs _ h1 h2
 ·obtain⟨rfl,rfl⟩:=h;exact .nil
 ·exact h.elim
def Eh(P:Program)(t t':TypeId)(zs:List D)(bts:Nat)(H:av)(s:Nat)(src:AV)(m:Nat)(l:List AV):Prop:=
 (t'=t∧pB H s src m l)∨((tk P t').isSome=true∧zs.all D.one=true∧1≤bts∧(∃k,src= .d (.val (.int k (m:Int))))∧l=kl m zs)
def yjk(P:Program)(dr:Bool)(iI:Nat)(t t':TypeId)(base src:AV)(H:av)(sh:List (Nat × Nat))(x:AV)(H':av)(sh':List (Nat × Nat)):Prop:=
 ∃e s zs bts m l,fB P t=some (none,e,s)∧fu P e=some zs∧zs.length=s∧oA P e=some bts∧Eh P t t' zs bts H s src m l∧
  match base with
  | .os k id off n=>∃cs,k=s∧H[id]? =some (.cells cs)∧off+n*s=cs.length∧n+m≤maxLen∧(n+m)*bts≤140737488355328∧x= .os s iI 0 (n+m)∧
    if dr then(∀p∈sh,p.2≠id)∧H'=H.set iI (.cells (cs.drop off++l))∧sh'=fU sh id iI else sh=[]∧H'=(H.set iI (.cells (cs.drop off++l))).set id .dead∧sh'=[]
  | .d (.val (.slice none 0 0))=>m≤maxLen∧m*bts≤140737488355328∧x= .os s iI 0 m∧H'=H.set iI (.cells l)∧sh'=sh
  |_=>False
def kI(P:Program)(dr:Bool)(iI:Nat)(ρ:Operand→AV)(op:Op)(H:av)(sh:List (Nat × Nat))(x:AV)(H':av)(sh':List (Nat × Nat)):Prop:=
 match op with
 | .box _ y=>∃cs,lQ (ρ y)=some cs∧x= .op iI 0∧H'=H.set iI (.cells cs)∧sh'=sh
 | .alloc t=>∃zs,fu P t=some zs∧zs.all D.one=true∧x= .op iI 0∧H'=H.set iI (.cells (zs.map .d))∧sh'=sh
 | .makeSlice t l cp=>∃(e:TypeId) (s:Nat) (zs:List D) (bts:Nat) (k1 k2:IntKind) (n m:Int),fB P t=some (none,e,s)∧fu P e=some zs∧zs.length=s∧0<s∧zs.all D.one=true∧oA P e=some bts∧
   ρ l= .d (.val (.int k1 n))∧ρ cp= .d (.val (.int k2 m))∧0≤n∧n≤m∧m≤maxLen∧bts*m.toNat≤281474976710656∧
   (x= .os s iI 0 n.toNat∧H'=H.set iI (.cells (kl n.toNat zs))∨∃ds:List D,kl n.toNat zs=ds.map .d∧ds.length=n.toNat*s∧x= .d (.fs ds n.toNat)∧H'=H.set iI .dead)∧sh'=sh
 | .makeMap t hint=>(hint=none∨∃y k m,hint=some y∧ρ y= .d (.val (.int k m))∧(j5 P t).isSome=true)∧x= .om iI∧H'=H.set iI (.map [] 0)∧sh'=sh
 | .buildSlice t len parts=>∃e s zs cs,fB P t=some (none,e,s)∧fu P e=some zs∧zs.length=s∧0<s∧zs.all D.one=true∧len*s≤16777216∧u3 (fun i=>some (i*s,s)) (kl len zs) (parts.toList.map fun p=>(p.1,ρ p.2))=some cs∧
   (x= .os s iI 0 len∧H'=H.set iI (.cells cs)∨∃ds:List D,cs=ds.map .d∧ds.length=len*s∧x= .d (.fs ds len)∧H'=H.set iI .dead)∧sh'=sh
 | .call c=>match c.callee with
  | .value f=>∃n fi ca ds r cs,BT (ρ f)=some (n,fi,ca)∧AV.mB.jr (fi++c.args.toList.map ρ++ca)=some ds∧jvq P n ds r cs∧x=r iI∧H'=H.set iI (.cells (cs.map .d))∧sh'=sh
  | .builtin .append=>match c.args.toList,c.argTypes.toList with
   |[s,y],[t,t']=>yjk P dr iI t t' (ρ s) (ρ y) H sh x H' sh'
   |_,_=>False
  |_=>False
 |_=>False
theorem aV.laid(h:aV c τ H sh pl a w){n:Nat}(hn:H[n]? =some .free)(eL:∀p∈sh,p.1≠n∧p.2≠n)(hb:Below w.heap.size w w'){p:Option (Nat × Nat)}(hp:∀q,p=some q→w.heap.size≤q.1){o:bB}
  (ho:∀dX,(∀b,dX b→bF c.E H pl b∨∃k,p=some (b,k))→gH w' (pl.set n p) dX n o):aV c τ (H.set n o) sh (pl.set n p) a w'∧∀b,bF c.E (H.set n o) (pl.set n p) b→bF c.E H pl b∨∃k,p=some (b,k):=by
 have gp:=h.h.dL hn
 have hs:jK (fun _=>False) w w':=⟨hb.os,hb.tape,hb.output,hb.size,fun b h _=>hb.block b h,fun b s hs=>(Ao (hb.block b (Fe hs))).trans hs⟩
 have cy:=fun i oo p' h1 h2=>h.h.place (n:=n) (o:=o) (q:=p) i oo p' h1 h2
 have dS:∀b,bF c.E (H.set n o) (pl.set n p) b→bF c.E H pl b∨∃k,p=some (b,k):=fun b hb=>by
  rcases hb with hb|⟨i,oo,e,h1,h2,h3⟩
  ·exact .inl (.inl hb)
  ·rcases cy i oo _ h1 h3 with⟨_,k1,k2⟩|⟨_,_,k⟩
   ·exact .inl (.inr ⟨i,oo,e,k1,h2,k2⟩)
   ·exact .inr ⟨e,k⟩
 have aA:∀(id:Nat) (oo:bB) (p:Nat × Nat),H[id]? =some oo→oo.live=true→pl[id]? =some (some p)→p.1<w.heap.size:=fun id oo p h1 h2 h3=>h.h.jJ h1 h2 h3
 refine⟨h.step (hs.mono fun _ _ h=>h.elim) (yz gp) (fun b ig=>?_) ⟨by simp[h.h.len],fun i oo hi=>?_,fun i j oi oj p1 q1 h1 h2 l1 l2 cR s1 s2 e1 e2=>?_,fun i oo p1 h1 l1 e1=>?_,fun p hp=>by have:=h.h.shl p hp;simpa using this,fun i j ci cj p1 q1 hm h1 h2 e1 e2 nj=>?_⟩,dS⟩
 ·obtain⟨i,oo,e,h1,h2,h3⟩:=ig
  rcases cy i oo _ h1 h3 with⟨_,k1,k2⟩|⟨_,_,k⟩
  ·exact .inl ⟨i,oo,e,k1,h2,k2⟩
  ·exact .inr (hp _ k)
 ·rcases kX hi with⟨rfl,rfl,_⟩|⟨cR,hi⟩
  ·exact ho _ dS
  ·refine(h.h.obj i oo hi).mono hb.size (fun b h _=>hb.block b h) (fun b sN ig=>?_) hs.shape (yz gp) (fun hh=>by rw[pW cR];exact hh) (fun hl b e he=>hb.block b (aA i oo _ hi hl he))
   rcases dS b ig with h'|⟨k,h'⟩
   ·exact h'
   ·have:=hp _ h';simp only at this;omega
 ·rcases cy i oi p1 h1 e1 with⟨_,a1,a2⟩|⟨a0,a1,a2⟩<;>rcases cy j oj q1 h2 e2 with⟨_,b1,b2⟩|⟨b0,b1,b2⟩
  ·exact h.h.mc i j oi oj p1 q1 a1 b1 l1 l2 cR s1 s2 a2 b2
  ·have:=aA i oi p1 a1 l1 a2;have:=hp _ b2;omega
  ·have:=aA j oj q1 b1 l2 b2;have:=hp _ a2;omega
  ·omega
 ·rcases cy i oo p1 h1 e1 with⟨_,a1,a2⟩|⟨a0,a1,a2⟩
  ·exact h.h.ext i oo p1 a1 l1 a2
  ·intro he;have:=h.lt _ he;have:=hp _ a2;omega
 ·rcases cy i _ p1 h1 e1 with⟨_,a1,a2⟩|⟨a0,a1,a2⟩
  ·rcases cy j _ q1 h2 e2 with⟨_,b1,b2⟩|⟨b0,b1,b2⟩
   ·exact h.h.shr i j ci cj p1 q1 hm a1 b1 a2 b2 nj
   ·exact absurd b0 (eL _ hm).2
  ·exact absurd a0 (eL _ hm).1
theorem aV.frozen(h:aV c τ H sh pl a w){n:Nat}(eL:∀p∈sh,p.1≠n∧p.2≠n){ds:List D}{s len:Nat}(hid:H[n]? =some (.cells (ds.map .d)))(hl:ds.length=len*s)(h0:0<s){v:Value}(hv:Rd w pl (bF c.E H pl) (.os s n 0 len) v):
  aV c τ (H.set n .dead) sh pl a w∧Rd w pl (bF c.E (H.set n .dead) pl) (.d (.fs ds len)) v:=by
 refine⟨h.kill n (fun i j hm _ _=>hm) (fun p hp=>hp),?_⟩
 have dS:∀b,bF c.E (H.set n .dead) pl b→bF c.E H pl b∧(∀base,pl[n]? =some (some (b,base))→False):=fun b hb=>by
  rcases hb with hb|⟨i,o,e,h1,h2,h3⟩
  ·exact⟨.inl hb,fun base hp=>h.h.ext n _ _ hid rfl hp hb⟩
  ·rcases kX h1 with⟨_,rfl,_⟩|⟨cR,h1⟩
   ·cases h2
   ·exact⟨.inr ⟨i,o,e,h1,h2,h3⟩,fun base hp=>h.h.mc i n o _ _ _ h1 hid h2 rfl cR (fun hm=>(eL _ hm).2 rfl) (fun hm=>(eL _ hm).1 rfl) h3 hp rfl⟩
 cases hv with
 |os _ _ _ _ cap b base sz t hp fl hn hm hz=>
  rcases h.h.obj _ _ hid with⟨_,k2⟩|⟨b',gG,arr,t',k1,k2,k3,k4⟩
  ·rw[hp]at k2;cases k2
  ·rw[hp]at k1;cases k1
   have k3':base+ds.length≤arr.size:=by simpa using k3
   refine .d _ _ (.fs ds len cap b (base+0) (fun j=>arr.getD (base+j) undef) (oh.1 k2).1 (fun hb=>(dS b hb).2 base hp) hn hm (fun j y hj=>?_) (fun j y hj=>?_) (fun j y hj=>?_))
   ·have:=(ew.1 hj).1
    rw[cell_of_row _ _ _ _ _ _ k2]
    simp[Array.getD,show base+j<arr.size by omega]
   ·exact(k4 j (.d y) (by rw[List.getElem?_map,hj];rfl)).2
   ·have h1:=(k4 j (.d y) (by rw[List.getElem?_map,hj];rfl)).1
    cases h1 with|d _ _ h1=>
    exact h1.mono (bJ _) (fun _ _ _=>rfl) (fun b _ hb=>(dS b hb).1)
 |lU _ _ _ ad=>
  have:ds=[]:=List.eq_nil_of_length_eq_zero (by simpa using hl)
  subst this
  exact .d _ _ (.f0 ad 0 (cF _) (fun _=>rfl))
theorem Q3{t:TypeId}(h:(tk P t).isSome=true):∃k,P.underlying t=some (.int k):=by
 unfold tk at h
 split at h
 ·rename_i k hk;exact⟨k,hk⟩
 ·cases h
theorem jnt{n m bts:Nat}(h:1≤bts)(hb:(n+m)*bts≤140737488355328):n+m≤4611686018427387904:=by
 have:=Nat.mul_le_mul_left (n+m) h
 omega
theorem Tk(h:aV c τ H sh pl a w){cH:Nat}(iU:H[cH]? =some .free)(eL:∀p∈sh,p.1≠cH∧p.2≠cH){t t' ty e:TypeId}{s bts:Nat}(he:fB P t=some (none,e,s))(eI:oA P e=some bts){zs:List D}(hz:fu P e=some zs)(jl:zs.length=s)
  {id off n:Nat} {cs:List AV} (hid:H[id]? =some (.cells cs)) (ox:off+n*s=cs.length) (fl:∀p∈sh,p.2≠id) {v:Value} (hv:Rd w pl (bF c.E H pl) (.os s id off n) v)
  {xa:AV} {m:Nat} {l:List AV} (hs:Eh P t t' zs bts H s xa m l) {x:Value} (hx:Rd w pl (bF c.E H pl) xa x) (rX:n+m≤maxLen) (hb:(n+m)*bts≤140737488355328):
  ∃u w',(Builtin.append_ #[t,t'] ty #[v,x]).run P w= .ok u w'∧Lays c τ a (H.set cH (.cells (cs.drop off++l))) (fU sh id cH) (.os s cH 0 (n+m)) u w':=by
 rcases hs with⟨rfl,hs⟩|⟨h1,h2,h3,⟨k,rfl⟩,rfl⟩
 ·exact jdo h iU eL he eI hz jl hid ox fl hv hs.src hx rX hb
 ·obtain⟨kn,fk⟩:=Q3 h1
  rw[qB hx]
  exact zx4 h iU eL fk he eI hz jl h2 hid ox fl hv (jnt h3 hb) hb
theorem zyc(h:aV c τ H sh pl a w){cH:Nat}(iU:H[cH]? =some .free)(eL:∀p∈sh,p.1≠cH∧p.2≠cH){t t' ty e:TypeId}{s bts:Nat}(he:fB P t=some (none,e,s))(eI:oA P e=some bts){zs:List D}(hz:fu P e=some zs)(jl:zs.length=s)
  {xa:AV} {m:Nat} {l:List AV} (hs:Eh P t t' zs bts H s xa m l) {x:Value} (hx:Rd w pl (bF c.E H pl) xa x) (rX:m≤maxLen) (hb:m*bts≤140737488355328):
  ∃u w',(Builtin.append_ #[t,t'] ty #[.slice none 0 0,x]).run P w= .ok u w'∧Lays c τ a (H.set cH (.cells l)) sh (.os s cH 0 m) u w':=by
 rcases hs with⟨rfl,hs⟩|⟨h1,h2,h3,⟨k,rfl⟩,rfl⟩
 ·exact append_nil h iU eL he eI hz jl hs.src hx rX hb
 ·obtain⟨kn,fk⟩:=Q3 h1
  rw[qB hx]
  exact zx5 h iU eL fk he eI hz jl h2 (by have:=jnt (n:=0) (m:=m) h3 (by rw[Nat.zero_add];exact hb);omega) hb
theorem IY(h:aV c τ H sh pl a w){o:Oper}{dr:Bool}{n:Nat}(hn:H[n]? =some .free)(eL:∀p∈sh,p.1≠n∧p.2≠n){x:AV}(hq:kI P dr n (bu τ) o.op H sh x H' sh'){K:Act→World→Prop}{Q:Exit→Act→World→Prop}
  (hK:∀v w' bK,aV c τ H' sh' bK a w'→Rd w' bK (bF c.E H' bK) x v→K (a.put o.dst v) w'):o.wp P a w K Q:=by
 have done:∀v w',(execOp a.eval o).run P w= .ok (.value v) w'→Lays c τ a H' sh' x v w'→o.wp P a w K Q:=fun v w' hr ⟨bK,h1,h2⟩=>BS hr (hK v w' bK h1 h2)
 obtain⟨dst,op,ty,pos,after,guard⟩:=o
 simp only at hq hK done
 unfold kI at hq
 split at hq
 ·rename_i t y
  obtain⟨cs,hc,rfl,rfl,rfl⟩:=hq
  obtain⟨u,w',h1,h2⟩:=jra (P:=P) h hn eL t hc (h.eval y)
  exact done u w' (by simp[execOp,h1]) h2
 ·obtain⟨zs,hz,h0,rfl,rfl,rfl⟩:=hq
  obtain⟨u,w',h1,h2⟩:=je7 (P:=P) h hn eL _ hz h0
  exact done u w' (by simp[execOp,h1]) h2
 ·obtain⟨e,s,zs,bts,k1,k2,m,m',he,hz,hl,h0,h1,eI,hm,sI,b0,b1,b2,b3,hc,rfl⟩:=hq
  have r1:=qB (hm▸h.eval _)
  have r2:=qB (sI▸h.eval _)
  obtain⟨q,rfl⟩:∃q:Nat,m=q:=⟨m.toNat,by omega⟩
  obtain⟨q',rfl⟩:∃q:Nat,m'=q:=⟨m'.toNat,by omega⟩
  simp only[Int.toNat_natCast]at *
  obtain⟨u,w',h2,h3⟩:=zs6 (P:=P) h hn eL he hz hl h0 h1 eI k1 k2 (n:=q) (cap:=q') (by omega) (by omega) b3
  rcases hc with⟨rfl,rfl⟩|⟨ds,hr,qe,rfl,rfl⟩
  ·exact done u w' (by simp[execOp,r1,r2,h2]) h3
  ·obtain⟨bK,k1,k2⟩:=h3
   rw[hr]at k1 k2
   have aA:n<H.length:=(ew.1 hn).1
   obtain⟨f1,f2⟩:=k1.frozen eL (List.getElem?_set_self aA) qe h0 k2
   rw[List.set_set]at f1 f2
   exact done u w' (by simp[execOp,r1,r2,h2]) ⟨bK,f1,f2⟩
 ·rename_i t hint
  obtain⟨hh,rfl,rfl,rfl⟩:=hq
  obtain⟨h1,h2,h3⟩:=zya (P:=P) h hn eL t (hint.map a.eval) (by
   rcases hh with rfl|⟨y,k,m,rfl,hy,hm⟩
   ·exact .inl rfl
   ·exact .inr ⟨k,m,congrArg some (qB (hy▸h.eval y)),hm⟩)
  exact done _ _ (by simp only[execOp,Sem.run_bind,h1];rfl) ⟨_,h2,h3⟩
 ·rename_i t len parts
  obtain⟨e,s,zs,cs,he,hz,hl,h0,h1,Co,hf,hc,rfl⟩:=hq
  obtain⟨u,w',h2,h3⟩:=zq8 (P:=P) h hn eL he hz hl h0 h1 Co hf (vparts:=parts.map fun p=>(p.1,a.eval p.2)) (by simp) (fun j i x hj=>by
   rw[List.getElem?_map,dc]at hj
   obtain⟨q,hq,he⟩:=hj
   cases he
   exact⟨a.eval q.2,by rw[Array.toList_map,List.getElem?_map,hq];rfl,h.eval q.2⟩)
  rcases hc with⟨rfl,rfl⟩|⟨ds,rfl,qe,rfl,rfl⟩
  ·exact done u w' (by simp only[execOp,Sem.run_bind,h2];rfl) h3
  ·obtain⟨bK,k1,k2⟩:=h3
   have aA:n<H.length:=(ew.1 hn).1
   obtain⟨f1,f2⟩:=k1.frozen eL (List.getElem?_set_self aA) qe h0 k2
   rw[List.set_set]at f1 f2
   exact done u w' (by simp only[execOp,Sem.run_bind,h2];rfl) ⟨bK,f1,f2⟩
 ·rename_i cl
  obtain⟨callee,args,ts⟩:=cl
  simp only at hq
  split at hq
  ·obtain⟨f,fi,ca,ds,r,cs,hc,uI,hp,rfl,rfl,rfl⟩:=hq
   obtain⟨vs,us,hv,h1,h2⟩:=Mv hc (h.eval _)
   have cV:=(h1.append (h.args args)).append h2
   obtain⟨l1,l2⟩:=BO w pl (bF c.E H pl) _ ds _ uI cV.2
   refine Dn (o:=⟨dst,_,ty,pos,after,guard⟩) (Dm (o:=⟨dst,_,ty,pos,after,guard⟩) rfl hv hp.1) ((hp.2 w (bF c.E H pl) _ (by rw[cV.1,l1]) l2 h.iS).mono fun e w' ⟨v,p,he,hb,uG,ho⟩=>⟨v,he,?_⟩)
   have A0:(pl.set n p)[n]? =some p:=vf h hn p
   obtain⟨o1,o2⟩:=ho _ _ A0
   obtain⟨hS,dS⟩:=h.laid hn eL hb uG (o:=.cells (cs.map .d)) (fun dX uy=>o1.mono (bJ _) (fun _ _ _=>rfl) (fun b _ hb=>uy b hb) (fun _ _ h=>h) (fun _ _ h=>h) (fun h=>h) (fun _ _ _ _=>rfl))
   exact hK v w' _ hS (o2.mono (bJ _) (fun _ _ _=>rfl) (fun b _ hb=>dS b hb) (fun _ _ h=>h) (fun _ _ h=>h))
  ·obtain⟨args⟩:=args
   obtain⟨ts⟩:=ts
   simp only at hq
   split at hq
   ·rename_i s y t t'
    obtain⟨e,k,zs,bts,m,l,he,hz,hl,eI,hs,hq⟩:=hq
    have dm:∀u w',(Builtin.append_ #[t,t'] ty #[a.eval s,a.eval y]).run P w= .ok u w'→(execOp a.eval ⟨dst,.call {callee:=.builtin .append,args:=⟨[s,y]⟩,argTypes:=⟨[t,t']⟩},ty,pos,after,guard⟩).run P w= .ok (.value u) w':=fun u w' h1=>by
     simp only[execOp,resolve,Sem.run_bind,Sem.run_pure,Result.andThen_ok,invoke,builtin,List.map_toArray,List.map_cons,List.map_nil]
     rw[h1];rfl
    split at hq
    ·rename_i k' id off q e3
     obtain⟨cs,rfl,hid,ox,b1,b2,rfl,hq⟩:=hq
     have hv:=h.eval s
     rw[e3]at hv
     cases dr with
     |true=>
      obtain⟨fl,rfl,rfl⟩:=hq
      obtain⟨u,w',h1,h2⟩:=Tk (P:=P) (ty:=ty) h hn eL he eI hz hl hid ox fl hv hs (h.eval y) b1 b2
      exact done u w' (dm u w' h1) h2
     |false=>
      obtain⟨rfl,rfl,rfl⟩:=hq
      obtain⟨u,w',h1,bK,h2,h3⟩:=Tk (P:=P) (ty:=ty) h hn eL he eI hz hl hid ox (fun p hp=>by cases hp) hv hs (h.eval y) b1 b2
      refine done u w' (dm u w' h1) ⟨bK,h2.kill id (fun i j hm h4 h5=>?_) (fun p hp=>by cases hp),?_⟩
      ·rcases yH hm with⟨_,k⟩|⟨_,k⟩|k
       ·exact absurd k h5
       ·cases k
       ·cases k
      ·refine h3.mono (bJ _) (fun _ _ _=>rfl) (fun b _ hb=>?_) (fun _ _ h=>h) (fun _ _ h=>h)
       rcases hb with hb|⟨i,oo,e,k1,k2,k3⟩
       ·exact .inl hb
       ·rcases kX k1 with⟨_,rfl,_⟩|⟨_,k1⟩
        ·cases k2
        ·exact .inr ⟨i,oo,e,k1,k2,k3⟩
    ·rename_i e3
     obtain⟨b1,b2,rfl,rfl,rfl⟩:=hq
     have hv:=h.eval s
     rw[e3]at hv
     have GR:a.eval s= .slice none 0 0:=by generalize a.eval s=z at hv;cases hv with|d _ _ hv=>cases hv;rfl
     obtain⟨u,w',h1,h2⟩:=zyc (P:=P) (ty:=ty) h hn eL he eI hz hl hs (h.eval y) b1 b2
     exact done u w' (dm u w' (by rw[GR];exact h1)) h2
    ·exact hq.elim
   ·exact hq.elim
  ·exact hq.elim
 ·exact hq.elim
def vy(P:Program)(ρ:Operand→AV)(op:Op)(H:av)(sh:List (Nat × Nat))(N1:Nat)(H':av):Prop:=
 match op with
 | .store t p y=>∃id i cs l,ρ p= .op id i∧H[id]? =some (.cells cs)∧dU P t=some l.length∧lQ (ρ y)=some l∧i+l.length≤cs.length∧(∀q∈sh,q.1≠id∧q.2≠id)∧N1≤id∧H'=H.set id (.cells (iF cs i l))
 |_=>False
theorem Mm(h:aV c τ H sh pl a w){o:Oper}{N1:Nat}(hq:vy P (bu τ) o.op H sh N1 H'){K:Act→World→Prop}{Q:Exit→Act→World→Prop}
  (hK:∀w' bK,aV c τ H' sh bK a w'→K (a.put o.dst undef) w'):o.wp P a w K Q:=by
 obtain⟨dst,op,ty,pos,after,guard⟩:=o
 simp only at hq hK
 unfold vy at hq
 split at hq
 ·rename_i t p y
  obtain⟨id,i,cs,l,hp,hid,hs,hc,hi,fl,_,rfl⟩:=hq
  have h1:=h.eval p
  rw[hp]at h1
  obtain⟨w',h2,bK,h3⟩:=je8 (P:=P) h t hid hs hc hi fl h1 (h.eval y)
  exact IS (by simp only[execOp,Sem.run_bind];rw[h2];rfl) (hK w' bK h3)
 ·exact hq.elim
end
end
section
mutual
def AV.allI(p:Nat→Bool):AV→Bool
 | .os _ id _ _=>p id
 | .op id _=>p id
 | .om id=>p id
 | .agg cs=>AV.aj p cs
 | .dR cs=>AV.aj p cs
 | .dC _ fi ca=>AV.aj p fi&&AV.aj p ca
 | .any=>true
 | .d _=>true
def AV.aj(p:Nat→Bool):List AV→Bool
 |[]=>true
 |x::l=>AV.allI p x&&AV.aj p l
end
theorem AV.dQ{p:Nat→Bool}:∀{l:List AV} {j:Nat} {x:AV},AV.aj p l=true→l[j]? =some x→x.allI p=true
 |y::l,0,x,h,hj=>by
  rw[AV.aj,fY]at h
  simp at hj;subst hj;exact h.1
 |y::l,j+1,x,h,hj=>by
  rw[AV.aj,fY]at h
  exact AV.dQ h.2 (by simpa using hj)
def bB.allI(p:Nat→Bool):bB→Bool
 | .cells cs=>AV.aj p cs
 | .map es _=>AV.aj p (es.map (·.2.2))
 | .loop _ _ fr=>AV.aj p fr
 |_=>true
theorem Rd.place{w w':World}{pl bK:List (Option (Nat × Nat))}{own dX:Nat→Prop}{x:AV}{v:Value}{p:Nat→Bool}(h:Rd w pl own x v)(hi:x.allI p=true)(hs:w.heap.size≤w'.heap.size)
  (hb:∀b,b<w.heap.size→¬own b→w'.heap[b]? =w.heap[b]?) (hw:∀b,b<w.heap.size→dX b→own b)
  (fl:∀b s,w.shape? b=some s→w'.shape? b=some s) (hp:∀(i:Nat) (q:Nat × Nat),p i=true→pl[i]? =some (some q)→bK[i]? =some (some q)):Rd w' bK dX x v:=by
 induction h with
 |any v=>exact .any v
 |d x v h=>exact .d x v (h.mono hs hb hw)
 |os k id off n cap b base sz t h1 h2 h3 h4 h5=>
  exact .os k id off n cap b base sz t (hp _ _ (by simpa[AV.allI]using hi) h1) (fl _ _ h2) h3 h4 h5
 |lU k id off a=>exact .lU k id off a
 |op id off b base h1=>exact .op id off b base (hp _ _ (by simpa[AV.allI]using hi) h1)
 |om id b base h1=>exact .om id b base (hp _ _ (by simpa[AV.allI]using hi) h1)
 |agg cs vs hl _ ih=>exact .agg cs vs hl fun j x hj=>ih j x hj (AV.dQ (by simpa[AV.allI]using hi) hj)
 |dR cs vs hl _ ih=>exact .dR cs vs hl fun j x hj=>ih j x hj (AV.dQ (by simpa[AV.allI]using hi) hj)
 |dC fn fi ca vs us hl _ gr _ ih uu=>
  rw[AV.allI,fY]at hi
  exact .dC fn fi ca vs us hl (fun j x hj=>ih j x hj (AV.dQ hi.1 hj)) gr (fun j x hj=>uu j x hj (AV.dQ hi.2 hj))
theorem gH.place{w w':World}{pl bK:List (Option (Nat × Nat))}{own dX:Nat→Prop}{id cH:Nat}{o:bB}{p:Nat→Bool}(h:gH w pl own id o)(hi:o.allI p=true)(hs:w.heap.size≤w'.heap.size)
  (hb:∀b,b<w.heap.size→¬own b→w'.heap[b]? =w.heap[b]?) (hw:∀b,b<w.heap.size→dX b→own b)
  (fl:∀b s,w.shape? b=some s→w'.shape? b=some s) (hp:∀(i:Nat) (q:Nat × Nat),p i=true→pl[i]? =some (some q)→bK[i]? =some (some q)) (hid:∀q,pl[id]? =some q→bK[cH]? =some q)
  (po:o.live=true→∀b c,pl[id]? =some (some (b,c))→w'.heap[b]? =w.heap[b]?):gH w' bK dX cH o:=by
 cases o with
 |free=>exact hid _ h
 |dead=>trivial
 |cells cs=>
  rcases h with⟨h1,h2⟩|⟨b,base,arr,t,h1,h2,h3,h4⟩
  ·exact .inl ⟨h1,hid _ h2⟩
  ·exact .inr ⟨b,base,arr,t,hid _ h1,(po rfl _ _ h1).trans h2,h3,fun j x hj=>⟨(h4 j x hj).1.place (AV.dQ hi hj) hs hb hw fl hp,(h4 j x hj).2⟩⟩
 |map es clock=>
  obtain⟨b,base,ms,h1,h2,h3,h5,h4⟩:=h
  refine⟨b,base,ms,hid _ h1,(po rfl _ _ h1).trans h2,h3,h5,fun j e k n x hj hk=>⟨(h4 j e k n x hj hk).1,(h4 j e k n x hj hk).2.1,(h4 j e k n x hj hk).2.2.place (AV.dQ (j:=j) hi ?_) hs hb hw fl hp⟩⟩
  rw[List.getElem?_map,hk];rfl
 |loop b r fr=>
  obtain⟨base,h1,h2,h3⟩:=h
  exact⟨base,hid _ h1,(po rfl _ _ h1).trans h2,fun j x hj=>(h3 j x hj).place (AV.dQ hi hj) hs hb hw fl hp⟩
def cY(P:Program)(m:List Nat)(f:FuncId)(xs:List AV)(S:av)(K:AV→av→Prop):Prop:=
 qq P f=true∧∀(E:Nat→Prop) (w:World) (pl:List (Option (Nat × Nat))) (vals:Array Value),vals.size=xs.length→(∀j x,xs[j]? =some x→Rd w pl (bF E S pl) x (vals.getD j undef))→fb E w pl S []→(∀b,E b→b<w.heap.size)→
  Calls P f vals w fun e w'=>∃v x S' bK,e= .returned v∧K x S'∧Rd w' bK (bF E S' bK) x v∧fb E w' bK S' []∧jK (gu S pl) w w'∧(∀b,gu S' bK b→gu S pl b∨w.heap.size≤b)∧(∀(i:Nat) (p:Nat × Nat),i∈m→pl[i]? =some (some p)→bK[i]? =some (some p))
def aL(m:List Nat)(k i:Nat):Bool:=m.contains i||decide (k≤i)
def Kp(c:Cx)(sm:List Nat):Prop:=∀(i:Nat) (p:Nat × Nat),c.NB[i]? =some (some p)→i∈sm
theorem Kp.none{c:Cx}(h:c.NB=[]):Kp c []:=fun i p hi=>by rw[h]at hi;cases hi
def aO(k i:Nat):Bool:=decide (i<k)
section
variable {P:Program} {c:Cx} {τ:Fr} {a:Act} {w w':World} {pl bK:List (Option (Nat × Nat))} {S T S':av} {pS pT:List (Option (Nat × Nat))} {m sm:List Nat}
theorem ud(hl:pS.length=S.length){b:Nat}:gu (S++T) (pS++pT) b↔gu S pS b∨gu T pT b:=by
 constructor
 ·rintro⟨id,o,e,h1,h2,h3⟩
  by_cases hi:id<S.length
  ·rw[iw hi]at h1
   rw[iw (by omega)]at h3
   exact .inl ⟨id,o,e,h1,h2,h3⟩
  ·rw[jj (by omega)]at h1
   rw[jj (by omega),hl]at h3
   exact .inr ⟨id - S.length,o,e,h1,h2,h3⟩
 ·rintro(⟨id,o,e,h1,h2,h3⟩|⟨id,o,e,h1,h2,h3⟩)
  ·have hi:=(ew.1 h1).1
   exact⟨id,o,e,by rw[iw hi];exact h1,h2,by rw[iw (by omega)];exact h3⟩
  ·refine⟨S.length+id,o,e,?_,h2,?_⟩
   ·rw[jj (by omega),Nat.add_sub_cancel_left];exact h1
   ·rw[jj (by omega),hl,Nat.add_sub_cancel_left];exact h3
theorem jnu{E:Nat→Prop}{H:av}{b:Nat}:bF E H pl b↔E b∨gu H pl b:=Iff.rfl
def DK(E:Nat→Prop)(T:av)(pT:List (Option (Nat × Nat)))(b:Nat):Prop:=E b∨gu T pT b
theorem Di{E:Nat→Prop}(hl:pS.length=S.length){b:Nat}:bF (DK E T pT) S pS b↔bF E (S++T) (pS++pT) b:=by
 rw[jnu,jnu,ud hl]
 unfold DK
 constructor
 ·rintro((h|h)|h)
  ·exact .inl h
  ·exact .inr (.inr h)
  ·exact .inr (.inl h)
 ·rintro(h|h|h)
  ·exact .inl (.inl h)
  ·exact .inr h
  ·exact .inl (.inr h)
theorem pV{α:Type}{A B:List α}{i:Nat}{x:α}(h:A[i]? =some x):(A++B)[i]? =some x:=by
 rw[iw (ew.1 h).1];exact h
theorem tW{α:Type}{A B:List α}{i:Nat}{x:α}(h:B[i]? =some x):(A++B)[A.length+i]? =some x:=by
 rw[jj (by omega),Nat.add_sub_cancel_left];exact h
theorem jfm{E:Nat→Prop}(h:fb E w (pS++pT) (S++T) [])(hl:pS.length=S.length)(hS:∀o∈S,o.allI (aO S.length)=true):fb (DK E T pT) w pS S []:=by
 have aA:pT.length=T.length:=by have:=h.len;simp at this;omega
 refine⟨hl,fun id o ho=>?_,fun i j oi oj p q h1 h2 l1 l2 cR s1 s2 p1 p2=>?_,fun i o p h1 l1 p1=>?_,fun p hp=>(by cases hp),fun i k ci ck p q hm=>(by cases hm)⟩
 ·have hid:=(ew.1 ho).1
  refine(h.obj id o (pV ho)).place (p:=aO S.length) (hS o (List.mem_of_getElem? ho)) (bJ _) (fun _ _ _=>rfl) (fun b _ hb=>(Di hl).1 hb) (fun _ _ h=>h) (fun i q hi hq=>?_) (fun q hq=>?_) (fun _ _ _ _=>rfl)
  ·have hi:i<S.length:=by simpa[aO]using hi
   rwa[iw (by omega)]at hq
  ·rwa[iw (by omega)]at hq
 ·exact h.mc i j oi oj p q (pV h1) (pV h2) l1 l2 cR s1 s2 (pV p1) (pV p2)
 ·rintro(he|⟨id,o',e,k1,k2,k3⟩)
  ·exact h.ext i o p (pV h1) l1 (pV p1) he
  ·have hi:=(ew.1 h1).1
   have a1:(pS++pT)[S.length+id]? =some (some (p.1,e)):=by rw[←hl];exact tW k3
   exact h.mc i (S.length+id) o o' p (p.1,e) (pV h1) (tW k1) l1 k2 (by omega) (by simp) (by simp) (pV p1) a1 rfl
theorem jfn(h:aV c τ (S++T) [] (pS++pT) a w)(hl:pS.length=S.length)(hc:Kp c sm)(hm:sm.all (aL m S.length)=true)(hτ:∀t,(τ t).allI (aL m S.length)=true)(hT:∀o∈T,o.allI (aL m S.length)=true)
  (zr:S'.length=S.length) (hh:fb (DK c.E T pT) w' bK S' []) (hs:jK (gu S pS) w w') (hn:∀b,gu S' bK b→gu S pS b∨w.heap.size≤b) (hk:∀(i:Nat) (p:Nat × Nat),i∈m→pS[i]? =some (some p)→bK[i]? =some (some p)):
  aV c τ (S'++T) [] (bK++pT) a w':=by
 have hlen:=h.h.len
 have hlT:pT.length=T.length:=by simp at hlen;omega
 have gr:bK.length=S'.length:=hh.len
 have qM:∀(i:Nat) (q:Nat × Nat),aL m S.length i=true→(pS++pT)[i]? =some (some q)→(bK++pT)[i]? =some (some q):=fun i q hi hq=>by
  simp only[aL,Bool.or_eq_true,mZ,List.contains_eq_mem]at hi
  by_cases aA:i<S.length
  ·rw[iw (by omega)]at hq
   exact pV (hk i q (hi.resolve_right (by omega)) hq)
  ·have hi:S.length≤i:=by omega
   rw[jj (by omega),hl]at hq
   rw[jj (by omega),gr,zr];exact hq
 have hSb:∀b,gu S pS b→b<w.heap.size:=fun b hb=>h.iS b (.inr ((ud hl).2 (.inl hb)))
 have hST:∀b,gu S pS b→¬gu T pT b:=fun b ⟨i,o,e,k1,k2,k3⟩ ⟨j,o',e',j1,j2,j3⟩=>by
  have hi:=(ew.1 k1).1
  have a1:(pS++pT)[S.length+j]? =some (some (b,e')):=by rw[←hl];exact tW j3
  exact h.h.mc i (S.length+j) o o' (b,e) (b,e') (pV k1) (tW j1) k2 j2 (by omega) (by simp) (by simp) (pV k3) a1 rfl
 have hTb:∀b,gu T pT b→b<w.heap.size:=fun b hb=>h.iS b (.inr ((ud hl).2 (.inr hb)))
 have how:∀b,b<w.heap.size→bF c.E (S'++T) (bK++pT) b→bF c.E (S++T) (pS++pT) b:=fun b hb ho=>by
  rcases ho with ho|ho
  ·exact .inl ho
  ·rcases(ud gr).1 ho with ho|ho
   ·rcases hn b ho with ho|ho
    ·exact .inr ((ud hl).2 (.inl ho))
    ·omega
   ·exact .inr ((ud hl).2 (.inr ho))
 have sN:∀b,b<w.heap.size→¬bF c.E (S++T) (pS++pT) b→w'.heap[b]? =w.heap[b]? :=fun b hb gq=>hs.block b hb fun ig=>gq (.inr ((ud hl).2 (.inl ig)))
 have hO:∀b,gu S pS b→c.O0 b∨c.w0.heap.size≤b:=fun b ⟨i,o,e,k1,k2,k3⟩=>h.js i o (b,e) (pV k1) k2 (pV k3)
 have hL:∀b,gu (S'++T) (bK++pT) b→gu (S++T) (pS++pT) b∨w.heap.size≤b:=fun b ho=>by
  rcases(ud gr).1 ho with ho|ho
  ·rcases hn b ho with ho|ho
   ·exact .inl ((ud hl).2 (.inl ho))
   ·exact .inr ho
  ·exact .inl ((ud hl).2 (.inr ho))
 refine⟨⟨by simp;omega,fun id o ho=>?_,fun i j oi oj p q h1 h2 l1 l2 cR s1 s2 p1 p2=>?_,fun i o p h1 l1 p1=>?_,fun p hp=>(by cases hp),fun i k ci ck p q hm=>(by cases hm)⟩,
  h.lR.trans hs (fun b hb ho=>by
   rcases hO b ho with h1|h1
   ·exact h1
   ·omega),fun id o p h1 l1 p1=>?_,h.ext,fun t=>(h.fr t).place (hτ t) hs.size sN how hs.shape qM,h.size,h.defs.step (fun b hb gq=>hs.block b hb fun ig=>gq ((ud hl).2 (.inl ig))) hL,fun i p hi=>?_⟩
 ·by_cases hid:id<S'.length
  ·rw[iw hid]at ho
   refine(hh.obj id o ho).mono (bJ _) (fun _ _ _=>rfl) (fun b _ hb=>(Di gr).2 hb) (fun _ _ h=>h) (fun i q hq=>pV hq) (fun h0=>pV h0) (fun _ _ _ _=>rfl)
  ·rw[jj (by omega)]at ho
   have PZ:id=S.length+(id - S'.length):=by omega
   have PD:(S++T)[id]? =some o:=by rw[PZ];exact tW ho
   refine(h.h.obj id o PD).place (p:=aL m S.length) (hT o (List.mem_of_getElem? ho)) hs.size sN how hs.shape qM (fun q hq=>?_) (fun l1 b e hq=>?_)
   ·rw[jj (by omega),hl]at hq
    rw[jj (by omega),gr,zr];exact hq
   ·rw[jj (by omega),hl]at hq
    have Hy:gu T pT b:=⟨id - S'.length,o,e,ho,l1,by rw[zr];exact hq⟩
    exact hs.block b (hTb b Hy) fun hb=>hST b hb Hy
 ·have side:∀(i:Nat) (o:bB) (p:Nat × Nat),(S'++T)[i]? =some o→o.live=true→(bK++pT)[i]? =some (some p)→(i<S'.length∧S'[i]? =some o∧bK[i]? =some (some p))∨(S'.length≤i∧T[i - S'.length]? =some o∧pT[i - S'.length]? =some (some p)):=fun i o p h1 l1 p1=>by
   by_cases hi:i<S'.length
   ·rw[iw hi]at h1
    rw[iw (by omega)]at p1
    exact .inl ⟨hi,h1,p1⟩
   ·rw[jj (by omega)]at h1
    rw[jj (by omega),gr]at p1
    exact .inr ⟨by omega,h1,p1⟩
  have Be:∀(i j:Nat) (oi oj:bB) (p q:Nat × Nat),S'[i]? =some oi→bK[i]? =some (some p)→oi.live=true→T[j]? =some oj→pT[j]? =some (some q)→oj.live=true→p.1≠q.1:=fun i j oi oj p q a1 a2 a3 b1 b2 b3 e=>by
   have Hy:gu T pT q.1:=⟨j,oj,q.2,b1,b3,b2⟩
   rcases hn p.1 ⟨i,oi,p.2,a1,a3,a2⟩with h1|h1
   ·exact hST _ h1 (e▸Hy)
   ·have:=hTb _ Hy;omega
  rcases side i oi p h1 l1 p1 with⟨a0,a1,a2⟩|⟨a0,a1,a2⟩<;>rcases side j oj q h2 l2 p2 with⟨b0,b1,b2⟩|⟨b0,b1,b2⟩
  ·exact hh.mc i j oi oj p q a1 b1 l1 l2 cR (by simp) (by simp) a2 b2
  ·exact Be i _ oi oj p q a1 a2 l1 b1 b2 l2
  ·exact(Be j _ oj oi q p b1 b2 l2 a1 a2 l1).symm
  ·refine h.h.mc (S.length+(i - S'.length)) (S.length+(j - S'.length)) oi oj p q (tW a1) (tW b1) l1 l2 (by omega) (by simp) (by simp) ?_ ?_
   ·rw[←hl];exact tW a2
   ·rw[←hl];exact tW b2
 ·by_cases hi:i<S'.length
  ·rw[iw hi]at h1
   rw[iw (by omega)]at p1
   exact fun he=>hh.ext i o p h1 l1 p1 (.inl he)
  ·rw[jj (by omega)]at h1
   rw[jj (by omega),gr]at p1
   refine h.h.ext (S.length+(i - S'.length)) o p (tW h1) l1 ?_
   rw[←hl];exact tW p1
 ·by_cases hi:id<S'.length
  ·rw[iw hi]at h1
   rw[iw (by omega)]at p1
   rcases hn p.1 ⟨id,o,p.2,h1,l1,p1⟩with k1|k1
   ·exact hO _ k1
   ·exact .inr (Nat.le_trans h.lR.size k1)
  ·rw[jj (by omega)]at h1
   rw[jj (by omega),gr]at p1
   refine h.js (S.length+(id - S'.length)) o p (tW h1) l1 ?_
   rw[←hl];exact tW p1
 ·exact qM i p (kB.1 hm i (hc i p hi)) (h.keep i p hi)
end
end
section
open Go Go.RowKit
section
variable {P:Program} {c:Cx} {τ:Fr} {a:Act} {w w':World} {pl bK:List (Option (Nat × Nat))} {H H':av} {sh sh':List (Nat × Nat)}
def gx(fr:List FuncId):Op→Nat
 | .box .. | .alloc _| .makeSlice .. | .buildSlice .. | .makeMap .. =>1
 | .call {callee:=.builtin .append,..}=>3
 | .call {callee:=.builtin .delete,..}=>4
 | .call {callee:=.builtin .clear,..}=>4
 | .call {callee:=.value (.func f),..}=>if fr.contains f then 1 else 0
 | .store .. =>2
 | .mapUpdate .. | .insert .. | .mapEntry .. | .entryStore .. =>4
 |_=>0
def Db(want:Bool):AV→Option Bool
 | .d (.val (.bool b))=>some (b==want)
 | .d (.val (.tuple _))=>some false
 |_=>none
def lO(ops:List Oper)(τ:Fr)(o:Oper):Option Bool:=
 match o.guard with
 |none=>some true
 |some (j,want)=>match(ops[j]?).bind (·.dst)with
  |none=>some false
  |some d=>Db want (τ d)
theorem MD(h:aV c τ H sh pl a w){ops:List Oper}{o:Oper}{b:Bool}(hg:lO ops τ o=some b):Region.wanted o (yielded ops.toArray a.tmps)=b:=by
 unfold lO at hg
 unfold Region.wanted
 split at hg
 ·rename_i e;cases hg;rw[e]
 ·rename_i j want e
  rw[e]
  simp only
  unfold yielded
  rw[List.getElem?_toArray]
  split at hg
  ·rename_i e2;cases hg;rw[e2];rfl
  ·rename_i d e2
   rw[e2]
   simp only[Option.bind_some]
   have hx:=h.fr d
   unfold Db at hg
   split at hg
   ·rename_i b' e3
    cases hg
    rw[e3]at hx
    have hv:a.tmps.getD d undef= .bool b':=by generalize a.tmps.getD d undef=z at hx;cases hx with|d _ _ hx=>cases hx;rfl
    by_cases hd:d<a.tmps.size
    ·rw[Array.getD,dif_pos hd]at hv
     rw[Array.getElem?_eq_getElem hd]
     have GR:a.tmps[d]= .bool b':=hv
     rw[GR]
     cases b'<;>cases want<;>rfl
    ·rw[Array.getD,dif_neg hd]at hv
     cases hv
   ·rename_i u e3
    cases hg
    rw[e3]at hx
    have hv:a.tmps.getD d undef= .tuple u:=by generalize a.tmps.getD d undef=z at hx;cases hx with|d _ _ hx=>cases hx;rfl
    by_cases hd:d<a.tmps.size
    ·rw[Array.getD,dif_pos hd]at hv
     rw[Array.getElem?_eq_getElem hd]
     have GR:a.tmps[d]= .tuple u:=hv
     rw[GR];rfl
    ·rw[Array.getElem?_eq_none (Nat.le_of_not_lt hd)];rfl
   ·cases hg
def ei(P:Program)(c:Cx)(code:Code)(Q:Exit→Fr→av→Prop)(τ:Fr)(H:av):Prop:=
 ∀a w,R c τ H [] a w→code.wpIn c.F 0 P (fun e a' w'=>∃τ' H',R c τ' H' [] a' w'∧Q e τ' H') a w
def uh:List AV→AV
 |[x]=>x
 |xs=>.dR xs
def qm(P:Program)(τ:Fr)(H:av):List ResultVar→(List AV→Prop)→Prop
 |[],K=>K []
 | .tmp t::l,K=>qm P τ H l fun xs=>K (τ t::xs)
 | .cell t ty::l,K=>∃x,lX P H H.length ty (τ t) x∧qm P τ H l fun xs=>K (x::xs)
def rI(P:Program)(fn:Func)(Q:AV→av→Prop):Exit→Fr→av→Prop
 | .normal,τ,H| .ret,τ,H=>qm P τ H fn.results.toList fun xs=>Q (uh xs) H
 |_,_,_=>False
theorem Mg(h:aV c τ H sh pl a w):∀(l:List ResultVar) (K:List AV→Prop),qm P τ H l K→∃(xs:List AV) (vs:List Value),K xs∧vs.length=xs.length∧(∀j x,xs[j]? =some x→Rd w pl (bF c.E H pl) x (vs.getD j undef))∧
  (l.mapM (m:=Sem) fun| .tmp t=>pure (a.tmps.getD t undef)| .cell p t=>do loadVar t (←asAddr (a.tmps.getD p undef))).run P w= .ok vs w
 |[],K,hk=>⟨[],[],hk,rfl,fun j x hj=>by simp at hj,by simp⟩
 | .tmp t::l,K,hk=>by
  obtain⟨xs,vs,h1,h2,h3,h4⟩:=Mg h l _ hk
  refine⟨τ t::xs,a.tmps.getD t undef::vs,h1,by simp[h2],fun j x hj=>?_,?_⟩
  ·cases j with
   |zero=>cases hj;exact h.fr t
   |succ j=>exact h3 j x hj
  ·rw[List.mapM_cons]
   simp only[Sem.run_bind,Sem.run_pure,Result.andThen_ok,h4]
 | .cell p t::l,K,hk=>by
  obtain⟨x,hx,hk⟩:=hk
  obtain⟨xs,vs,h1,h2,h3,h4⟩:=Mg h l _ hk
  obtain⟨u,hu,hr⟩:=hx.run (P:=P) h.h (h.fr p)
  refine⟨x::xs,u::vs,h1,by simp[h2],fun j y hj=>?_,?_⟩
  ·cases j with
   |zero=>cases hj;exact hr
   |succ j=>exact h3 j y hj
  ·have hl:(do loadVar t (←asAddr (a.tmps.getD p undef)):Sem Value).run P w= .ok u w:=by
    have hp:=h.fr p
    have key:∀z,Rd w pl (bF c.E H pl) (τ p) z→(Instr.loadAt t z).run P w= .ok u w→(do loadVar t (←asAddr z):Sem Value).run P w= .ok u w:=by
     intro z hz dm
     unfold lX at hx
     split at hx
     ·rename_i e;rw[e]at hz;cases hz with|d _ _ hz=>cases hz;exact dm
     ·rename_i e;rw[e]at hz;cases hz;exact dm
     ·exact hx.elim
    exact key _ hp hu
   rw[List.mapM_cons]
   simp only[Sem.run_bind]at hl
   simp only[Sem.run_bind,hl,Result.andThen_ok,h4,Sem.run_pure]
theorem zyd(h:aV c τ H sh pl a w)(fn:Func){K:List AV→Prop}(hk:qm P τ H fn.results.toList K):∃(xs:List AV) (v:Value),K xs∧Rd w pl (bF c.E H pl) (uh xs) v∧(results fn a.tmps).run P w= .ok v w:=by
 obtain⟨xs,vs,h1,h2,h3,h4⟩:=Mg h _ K hk
 refine⟨xs,if h:vs.toArray.size=1 then vs.toArray[0]else .tuple vs.toArray,h1,?_,?_⟩
 ·match xs,vs,h2,h3 with
  |[x],[v],_,h3=>exact h3 0 x rfl
  |[],[],_,h3=>exact .dR _ _ rfl fun j x hj=>by simp at hj
  |x::y::xs,v::u::vs,h2,h3=>
   rw[dif_neg (by simp)]
   exact .dR _ _ (by simpa using h2) fun j z hj=>by simpa using h3 j z hj
 ·unfold results
  rw[Array.mapM_eq_mapM_toList]
  simp only[Sem.run_bind,Sem.run_map,Sem.run_pure]
  erw [h4]
  rfl
def shut:List Nat→World→World
 |[],w=>w
 |r::rs,w=>shut rs (w.putObj r (.deferred none))
theorem RS{r:Nat}{d:Option (List Deferred)}(hr:w.heap[r]? =some (.deferred d)){b o:Nat}{v:Value}(h:w.cell? ⟨b,o,none⟩=some v):(w.putObj r (.deferred none)).cell? ⟨b,o,none⟩=some v:=by
 have hb:b≠r:=fun e=>by subst e;simp[World.cell?,hr]at h
 exact(Ms (World.putObj_heap_other hb)).trans h
theorem SN{r:Nat}{d:Option (List Deferred)}(hr:w.heap[r]? =some (.deferred d)){b:Nat}{s:TypeId × Nat}(h:w.shape? b=some s):(w.putObj r (.deferred none)).shape? b=some s:=by
 have hb:b≠r:=fun e=>by subst e;simp[World.shape?,hr]at h
 exact(Ao (World.putObj_heap_other hb)).trans h
theorem IQ{r:Nat}{d:Option (List Deferred)}(hr:w.heap[r]? =some (.deferred d)){b:Nat}{o:Obj}(ho:∀d,o≠ .deferred d)(h:w.heap[b]? =some o):(w.putObj r (.deferred none)).heap[b]? =some o:=by
 have hb:b≠r:=fun e=>by subst e;rw[hr]at h;cases h;exact ho _ rfl
 exact(World.putObj_heap_other hb).trans h
theorem fO.kf{r:Nat}{d:Option (List Deferred)}(hr:w.heap[r]? =some (.deferred d)){own:Nat→Prop}{x:D}{v:Value}(h:fO w own x v):fO (w.putObj r (.deferred none)) own x v:=by
 induction h with
 |val v=>exact .val v
 |f0 a cap hm hn=>exact .f0 a cap hm hn
 |fs cs n cap b off f h1 h2 hn hm hc h3 _ ih=>exact .fs cs n cap b off f (by simpa using h1) h2 hn hm (fun j x hj=>RS hr (hc j x hj)) h3 ih
 |fp cs i b off f h1 h2 hc h3 _ ih=>exact .fp cs i b off f (by simpa using h1) h2 (fun j x hj=>RS hr (hc j x hj)) h3 ih
 |agg cs vs hl _ ih=>exact .agg cs vs hl ih
 |dC fn fi ca vs us hl _ gr _ ih uu=>exact .dC fn fi ca vs us hl ih gr uu
 |mp es clock b h1 h2 hg hn=>exact .mp es clock b (by simpa using h1) h2 (IQ hr (fun _ e=>by cases e) hg) hn
theorem Rd.kf{r:Nat}{d:Option (List Deferred)}(hr:w.heap[r]? =some (.deferred d)){own:Nat→Prop}{x:AV}{v:Value}(h:Rd w pl own x v):Rd (w.putObj r (.deferred none)) pl own x v:=by
 induction h with
 |any v=>exact .any v
 |d x v h=>exact .d x v (h.kf hr)
 |os k id off n cap b base sz t h1 h2 h3 h4 h5=>exact .os k id off n cap b base sz t h1 (SN hr h2) h3 h4 h5
 |lU k id off a=>exact .lU k id off a
 |op id off b base h1=>exact .op id off b base h1
 |om id b base h1=>exact .om id b base h1
 |agg cs vs hl _ ih=>exact .agg cs vs hl ih
 |dR cs vs hl _ ih=>exact .dR cs vs hl ih
 |dC fn fi ca vs us hl _ gr _ ih uu=>exact .dC fn fi ca vs us hl ih gr uu
theorem gH.kf{r:Nat}{d:Option (List Deferred)}(hr:w.heap[r]? =some (.deferred d)){own:Nat→Prop}{id:Nat}{o:bB}(h:gH w pl own id o):gH (w.putObj r (.deferred none)) pl own id o:=by
 cases o with
 |free=>exact h
 |dead=>trivial
 |cells cs=>
  rcases h with⟨h1,h2⟩|⟨b,base,arr,t,h1,h2,h3,h4⟩
  ·exact .inl ⟨h1,h2⟩
  ·exact .inr ⟨b,base,arr,t,h1,IQ hr (fun _ e=>by cases e) h2,h3,fun j x hj=>⟨(h4 j x hj).1.kf hr,(h4 j x hj).2⟩⟩
 |map es clock=>
  obtain⟨b,base,ms,h1,h2,h3,h5,h4⟩:=h
  exact⟨b,base,ms,h1,IQ hr (fun _ e=>by cases e) h2,h3,h5,fun j e k n x hj hk=>⟨(h4 j e k n x hj hk).1,(h4 j e k n x hj hk).2.1,(h4 j e k n x hj hk).2.2.kf hr⟩⟩
 |loop b l fr=>
  obtain⟨base,h1,h2,h3⟩:=h
  exact⟨base,h1,IQ hr (fun _ e=>by cases e) h2,fun j x hj=>(h3 j x hj).kf hr⟩
theorem aV.kf(h:aV c τ H sh pl a w){r:Nat}(ha:a.defers=[])(hr:w.heap[r]? =some (.deferred (some [])))(hm:c.w0.heap.size≤r):aV c τ H sh pl a (w.putObj r (.deferred none)):=
 ⟨⟨h.h.len,fun id o ho=>(h.h.obj id o ho).kf hr,h.h.mc,h.h.ext,h.h.shl,h.h.shr⟩,
  ⟨h.lR.os,h.lR.tape,h.lR.output,by simpa using h.lR.size,fun b hb hn=>(World.putObj_heap_other (by omega)).trans (h.lR.block b hb hn),fun b s hs=>SN hr (h.lR.shape b s hs)⟩,
  h.js,h.ext,fun t=>(h.fr t).kf hr,h.size,by rw[ha];exact sZ.nil,h.keep⟩
theorem aV.shut(h:aV c τ H sh pl a w)(hm:c.w0.heap.size≤c.m0):∃rs:List Nat,a.defers=rs.map NI∧rs.Nodup∧(∀r∈rs,w.heap[r]? =some (.deferred (some [])))∧aV c τ H sh pl {a with defers:=[]} (shut rs w):=by
 obtain⟨rs,h1,h2,h3⟩:=h.defs
 refine⟨rs,h1,h2,fun r hr=>(h3 r hr).2.1,?_⟩
 have h0:aV c τ H sh pl {a with defers:=[]} w:=⟨h.h,h.lR,h.js,h.ext,h.fr,h.size,sZ.nil,h.keep⟩
 have QI:∀r∈rs,c.w0.heap.size≤r∧w.heap[r]? =some (.deferred (some [])):=fun r hr=>⟨Nat.le_trans hm (h3 r hr).1,(h3 r hr).2.1⟩
 clear h1 h3 h
 induction rs generalizing w with
 |nil=>exact h0
 |cons r rs ih=>
  rw[List.nodup_cons]at h2
  obtain⟨k1,k2⟩:=QI r List.mem_cons_self
  exact ih h2.2 (h0.kf rfl k2 k1) fun q hq=>⟨(QI q (vX _ hq)).1,(World.putObj_heap_other (fun e=>by subst e;exact h2.1 hq)).trans (QI q (vX _ hq)).2⟩
theorem TE{fn:Func}{tmps:Array Value}{Rr:Ending→World→Prop}:∀(rs:List Nat) (w:World),rs.Nodup→(∀r∈rs,w.heap[r]? =some (.deferred (some [])))→(∃v,(results fn tmps).run P (shut rs w)= .ok v (shut rs w)∧Rr (.returned v) (shut rs w))→
  LeavesInM Fence.wide 0 P fn tmps Rr (rs.map NI) .returning w
 |[],w,_,_,h=>h
 |r::rs,w,hn,hd,h=>by
  rw[List.nodup_cons]at hn
  refine⟨by simp,.inl ⟨r,_,rfl,run_takeDeferred (hd r List.mem_cons_self),TE rs _ hn.2 (fun q hq=>?_) h⟩⟩
  exact(World.putObj_heap_other (fun e=>by subst e;exact hn.1 hq)).trans (hd q (vX _ hq))
theorem TD{f:FuncId}{fn:Func}{code:Code}{vals:Array Value}{Rr:Ending→World→Prop}{Q:AV→av→Prop}{c:Cx}{w:World}(hc:c.NA=none)(hm:c.w0.heap.size≤c.m0)(hf:P.funcs[f]? =some fn)(hb:fn.body=some code)
  (h:code.wpIn c.F 0 P (fun e a' w'=>∃τ' H',R c τ' H' [] a' w'∧rI P fn Q e τ' H') {tmps:=vals++Array.replicate (fn.ntmps - vals.size) undef,defers:=[]} w)
  (hR:∀τ' H' bK a' w' x v,aV c τ' H' [] bK a' w'→Q x H'→Rd w' bK (bF c.E H' bK) x v→Rr (.returned v) w'):Calls P f vals w Rr:=by
 refine(callsIn_wide (n:=0)).1 (callsIn_of_wp_marks hf hb trivial ?_)
 have hF:c.F=Fence.wide:=by cases c;cases hc;rfl
 rw[hF]at h
 refine wpIn_mono h fun e a' w' ⟨τ',H',⟨bK,h1⟩,h2⟩=>?_
 have key:qm P τ' H' fn.results.toList (fun xs=>Q (uh xs) H')→LeavesInM Fence.wide 0 P fn a'.tmps Rr a'.defers .returning w':=fun h2=>by
  obtain⟨rs,e1,e2,e3,e4⟩:=h1.shut hm
  obtain⟨xs,v,k1,k2,k3⟩:=zyd e4 fn h2
  rw[e1]
  exact TE rs w' e2 e3 ⟨v,k3,hR _ _ _ _ _ _ _ e4 k1 k2⟩
 cases e with
 |normal=>exact key h2
 |ret=>exact key h2
 |_=>exact h2.elim
def xD(xs:List AV):Fr:=fun t=>xs.getD t (.d (.val undef))
def yy(ds:List D):Fr:=fun t=>(ds.map AV.d).getD t (.d (.val undef))
theorem RR(vals:Array Value)(n t:Nat):(vals++Array.replicate n undef).getD t undef=vals.getD t undef:=by
 rw[nK,nK,Array.getElem?_append]
 split
 ·rfl
 ·rename_i h
  rw[Array.getElem?_eq_none (xs:=vals) (by omega)]
  by_cases hn:t - vals.size<n
  ·simp[hn]
  ·simp[hn]
def w6(P:Program)(f:FuncId)(xs:List AV)(H:av)(K:AV→av→Prop):Prop:=
 qq P f=true∧∀(E:Nat→Prop) (w:World) (pl:List (Option (Nat × Nat))) (vals:Array Value),vals.size=xs.length→(∀j x,xs[j]? =some x→Rd w pl (bF E H pl) x (vals.getD j undef))→fb E w pl H []→(∀b,E b→b<w.heap.size)→
  Calls P f vals w fun e w'=>∃v x H' bK,e= .returned v∧K x H'∧Rd w' bK (bF E H' bK) x v∧fb E w' bK H' []∧jK (gu H pl) w w'∧(∀b,gu H' bK b→gu H pl b∨w.heap.size≤b)∧(∀(i:Nat) (p:Nat × Nat),pl[i]? =some (some p)→bK[i]? =some (some p))
theorem w6.mono{f:FuncId}{xs:List AV}{K K':AV→av→Prop}(h:w6 P f xs H K)(hK:∀x H',K x H'→K' x H'):w6 P f xs H K':=
 ⟨h.1,fun E w pl vals hl hx hh hE=>(h.2 E w pl vals hl hx hh hE).mono fun e w' ⟨v,x,H',bK,k1,k2,k3⟩=>⟨v,x,H',bK,k1,hK _ _ k2,k3⟩⟩
def QP(P:Program)(sm:List Nat)(f:FuncId)(xs:List AV)(τ:Fr)(H:av)(K:AV→av→Prop):Prop:=
 ∃(m:List Nat) (S T:av) (K0:AV→av→Prop),H=S++T∧sm.all (aL m S.length)=true∧(∀t,(τ t).allI (aL m S.length)=true)∧AV.aj (aO S.length) xs=true∧(∀o∈S,o.allI (aO S.length)=true)∧(∀o∈T,o.allI (aL m S.length)=true)∧
  cY P m f xs S K0∧∀x S',K0 x S'→S'.length=S.length∧K x (S'++T)
theorem jfo{sm:List Nat}(fK:Kp c sm)(h:aV c τ H [] pl a w){o:Oper}{K0:AV→av→Prop}{n:FuncId}{xs:List AV}(hq:QP P sm n xs τ H K0){K:Act→World→Prop}{Q:Exit→Act→World→Prop}
  {f:Operand} {args:Array Operand} {ts:Array TypeId} {vs us:Array Value} (e:o.op= .call {callee:=.value f,args:=args,argTypes:=ts}) (hv:a.eval f= .func (.func n) vs us)
  (hl:(vs++args.map a.eval++us).size=xs.length) (hx:∀j x,xs[j]? =some x→Rd w pl (bF c.E H pl) x ((vs++args.map a.eval++us).getD j undef))
  (hK:∀x v H' w' bK,K0 x H'→aV c τ H' [] bK a w'→Rd w' bK (bF c.E H' bK) x v→K (a.put o.dst v) w'):o.wp P a w K Q:=by
 obtain⟨m,S,T,K1,rfl,h1,h2,h3,h4,h5,⟨he,hs⟩,h6⟩:=hq
 have hlen:=h.h.len
 rw[List.length_append]at hlen
 obtain⟨pS,pT,rfl,zf⟩:∃pS pT,pl=pS++pT∧pS.length=S.length:=⟨pl.take S.length,pl.drop S.length,(List.take_append_drop _ _).symm,by rw[List.length_take];omega⟩
 refine Dn (Dm e hv he) ((hs (DK c.E T pT) w pS _ hl (fun j x hj=>?_) (jfm h.h zf h4) (fun b hb=>h.iS b ?_)).mono fun e w' ⟨v,x,S',bK,k1,k2,k3,k4,k5,k6,k7⟩=>?_)
 ·refine(hx j x hj).place (p:=aO S.length) (AV.dQ h3 hj) (bJ _) (fun _ _ _=>rfl) (fun b _ hb=>(Di zf).1 hb) (fun _ _ h=>h) (fun i q hi hq=>?_)
  have hi:i<S.length:=by simpa[aO]using hi
  rwa[iw (by omega)]at hq
 ·rcases hb with hb|hb
  ·exact .inl hb
  ·exact .inr ((ud zf).2 (.inr hb))
 ·obtain⟨l1,l2⟩:=h6 x S' k2
  have hR:=jfn h zf fK h1 h2 h5 l1 k4 k5 k6 k7
  exact⟨v,k1,hK x v _ w' _ l2 hR (k3.mono (bJ _) (fun _ _ _=>rfl) (fun b _ hb=>(Di k4.len).2 hb) (fun _ _ h=>h) (fun i q hq=>pV hq))⟩
def Bq(m:List Nat)(pl:List (Option (Nat × Nat))):List (Option (Nat × Nat)):=(List.range pl.length).map fun i=>if m.contains i then pl.getD i none else none
theorem RQ{m:List Nat}{pl:List (Option (Nat × Nat))}{i:Nat}{p:Nat × Nat}(h:(Bq m pl)[i]? =some (some p)):i∈m∧pl[i]? =some (some p):=by
 unfold Bq at h
 rw[List.getElem?_map,dc]at h
 obtain⟨j,hj,h⟩:=h
 have kQ:=ew.1 hj
 obtain⟨h1,h2⟩:=kQ
 simp at h1 h2
 subst h2
 split at h
 ·rename_i hm
  refine⟨by simpa using hm,?_⟩
  rw[iv h1]
  rw[fZ,iv h1]at h
  exact congrArg some h
 ·cases h
theorem jko{m:List Nat}{pl:List (Option (Nat × Nat))}{i:Nat}{p:Nat × Nat}(h:i∈m)(hp:pl[i]? =some (some p)):(Bq m pl)[i]? =some (some p):=by
 have aA:=(ew.1 hp).1
 unfold Bq
 rw[List.getElem?_map,List.getElem?_range aA,Option.map_some,if_pos (by simpa using h),fZ,hp];rfl
theorem jre{f:FuncId}{fn:Func}{code:Code}{xs:List AV}{m:List Nat}{S:av}{Q:AV→av→Prop}(he:qq P f=true)(hf:P.funcs[f]? =some fn)(hb:fn.body=some code)(hn:xs.length≤fn.ntmps)
  (h:∀c:Cx,c.nt=fn.ntmps→Kp c m→Ij c→ei P c code (rI P fn Q) (xD xs) S):cY P m f xs S Q:=by
 refine⟨he,fun E w pl vals hl hx hh hE=>?_⟩
 have hR:R ⟨E,w,gu S pl,fn.ntmps,Bq m pl,none,w.heap.size⟩ (xD xs) S [] {tmps:=vals++Array.replicate (fn.ntmps - vals.size) undef,defers:=[]} w:=by
  refine⟨pl,hh,jK.refl _ _,fun id o p h1 h2 h3=>.inl ⟨id,o,p.2,h1,h2,h3⟩,hE,fun t=>?_,by simp;omega,sZ.nil,fun i p hi=>?_⟩
  ·simp only[RR]
   unfold xD
   rw[fZ]
   cases hd:xs[t]? with
   |none=>
    have:vals.size≤t:=by rw[hl];exact List.getElem?_eq_none_iff.1 hd
    simp only[Array.getD,dif_neg (Nat.not_lt.2 this)]
    exact .d _ _ (.val _)
   |some x=>exact hx t x hd
  ·exact(RQ hi).2
 have fin:∀{τ':Fr} {H':av} {bK:List (Option (Nat × Nat))} {a':Act} {w':World} {v x:_},aV ⟨E,w,gu S pl,fn.ntmps,Bq m pl,none,w.heap.size⟩ τ' H' [] bK a' w'→Q x H'→Rd w' bK (bF E H' bK) x v→
   ∃v' x S' bK,Ending.returned v= .returned v'∧Q x S'∧Rd w' bK (bF E S' bK) x v'∧fb E w' bK S' []∧jK (gu S pl) w w'∧(∀b,gu S' bK b→gu S pl b∨w.heap.size≤b)∧(∀(i:Nat) (p:Nat × Nat),i∈m→pl[i]? =some (some p)→bK[i]? =some (some p)):=fun h1 k1 k2=>
  ⟨_,_,_,_,rfl,k1,k2,h1.h,h1.lR,fun b ⟨i,o,q,b1,b2,b3⟩=>h1.js i o (b,q) b1 b2 b3,fun i p hi hp=>h1.keep i p (jko hi hp)⟩
 exact TD (c:=⟨E,w,gu S pl,fn.ntmps,Bq m pl,none,w.heap.size⟩) rfl (bJ _) hf hb (h _ rfl (fun i p hi=>(RQ hi).1) ⟨rfl,bJ _⟩ _ w hR) fun τ' H' bK a' w' x v h1 k1 k2=>fin h1 k1 k2
theorem fX{f:FuncId}{fn:Func}{code:Code}{xs:List AV}{m:List Nat}{S:av}{Q:AV→av→Prop}(he:qq P f=true)(hf:P.funcs[f]? =some fn)(hb:fn.body=some code)(hn:xs.length≤fn.ntmps)
  (h:∀c:Cx,c.nt=fn.ntmps→Kp c m→ei P c code (rI P fn Q) (xD xs) S):cY P m f xs S Q:=jre he hf hb hn fun c h1 h2 _=>h c h1 h2
def YsS(P:Program)(m:List Nat)(l:Nat)(xs:List AV)(S:av)(K:AV→av→Prop):Prop:=
 ∀(E:Nat→Prop) (w:World) (pl:List (Option (Nat × Nat))) (vals:Array Value),vals.size=xs.length→(∀j x,xs[j]? =some x→Rd w pl (bF E S pl) x (vals.getD j undef))→fb E w pl S []→(∀b,E b→b<w.heap.size)→
  ∃fn tmps assign body,(Instr.yield l vals).run P w= .ok (.round l fn tmps assign body) w∧
   RoundIn Fence.wide 0 P l fn tmps assign body w fun e w'=>∃v x S' bK,e= .returned v∧K x S'∧Rd w' bK (bF E S' bK) x v∧fb E w' bK S' []∧jK (gu S pl) w w'∧(∀b,gu S' bK b→gu S pl b∨w.heap.size≤b)∧(∀(i:Nat) (p:Nat × Nat),i∈m→pl[i]? =some (some p)→bK[i]? =some (some p))
def QN(P:Program)(sm:List Nat)(l:Nat)(xs:List AV)(τ:Fr)(H:av)(K:AV→av→Prop):Prop:=
 ∃(m:List Nat) (S T:av) (K0:AV→av→Prop),H=S++T∧sm.all (aL m S.length)=true∧(∀t,(τ t).allI (aL m S.length)=true)∧AV.aj (aO S.length) xs=true∧(∀o∈S,o.allI (aO S.length)=true)∧(∀o∈T,o.allI (aL m S.length)=true)∧
  YsS P m l xs S K0∧∀x S',K0 x S'→S'.length=S.length∧K x (S'++T)
theorem jfp{f:Operand}{args:Array Operand}{ts:Array TypeId}{o:Oper}(ho:o.op= .call {callee:=.value f,args:=args,argTypes:=ts}){l:Nat}(hf:a.eval f= .func (.yield l) #[] #[]):
  (execOp a.eval o).run P w=(Instr.yield l (args.map a.eval)).run P w:=by
 unfold execOp
 simp[ho,resolve,hf,Deferred.ofValue,invoke]
theorem jfq{sm:List Nat}(fK:Kp c sm)(h:aV c τ H [] pl a w){o:Oper}{K0:AV→av→Prop}{l:Nat}{K:Act→World→Prop}{Q:Exit→Act→World→Prop}
  {f:Operand} {args:Array Operand} {ts:Array TypeId} (hq:QN P sm l (args.toList.map (bu τ)) τ H K0) (e:o.op= .call {callee:=.value f,args:=args,argTypes:=ts}) (hl:bu τ f= .d (.val (.func (.yield l) #[] #[])))
  (hK:∀x v H' w' bK,K0 x H'→aV c τ H' [] bK a w'→Rd w' bK (bF c.E H' bK) x v→K (a.put o.dst v) w'):o.wpIn c.F 0 P a w K Q:=by
 obtain⟨m,S,T,K1,rfl,h1,h2,h3,h4,h5,hs,h6⟩:=hq
 have hv:a.eval f= .func (.yield l) #[] #[]:=by
  have:=h.eval f
  rw[hl]at this
  generalize a.eval f=z at this
  cases this with|d _ _ hh=>cases hh;rfl
 have hx:=h.args args
 have hlen:=h.h.len
 rw[List.length_append]at hlen
 obtain⟨pS,pT,rfl,zf⟩:∃pS pT,pl=pS++pT∧pS.length=S.length:=⟨pl.take S.length,pl.drop S.length,(List.take_append_drop _ _).symm,by rw[List.length_take];omega⟩
 obtain⟨fn,tmps,assign,body,g1,g2⟩:=hs (DK c.E T pT) w pS (args.map a.eval) hx.1 (fun j x hj=>by
  refine(hx.2 j x hj).place (p:=aO S.length) (AV.dQ h3 hj) (bJ _) (fun _ _ _=>rfl) (fun b _ hb=>(Di zf).1 hb) (fun _ _ h=>h) (fun i q hi hq=>?_)
  have hi:i<S.length:=by simpa[aO]using hi
  rwa[iw (by omega)]at hq) (jfm h.h zf h4) (fun b hb=>h.iS b (by
  rcases hb with hb|hb
  ·exact .inl hb
  ·exact .inr ((ud zf).2 (.inr hb))))
 refine⟨fun _ _=>trivial,?_⟩
 have es:o.semAt c.F.round a.eval=execOp a.eval o:=by
  cases hr:c.F.round with
  |none=>rfl
  |some l=>exact Oper.semAt_some l _ o fun x hx=>by rw[e]at hx;cases hx
 rw[es,jfp e hv,g1]
 refine⟨fun hh=>(by cases hh),⟨trivial,fun cc cs hr=>?_⟩⟩
 obtain⟨e',w',⟨v,x,S',bK,k0,k2,k3,k4,k5,k6,k7⟩,hc⟩:=g2.2 cc cs hr
 obtain⟨l1,l2⟩:=h6 x S' k2
 have hR:=jfn h zf fK h1 h2 h5 l1 k4 k5 k6 k7
 subst k0
 exact⟨.returned v,w',hK x v _ w' _ l2 hR (k3.mono (bJ _) (fun _ _ _=>rfl) (fun b _ hb=>(Di k4.len).2 hb) (fun _ _ h=>h) (fun i q hq=>pV hq)),hc⟩
def JN(P:Program)(sm:List Nat)(op:Op)(τ:Fr)(H:av)(K:AV→av→Prop):Prop:=
 match op with
 | .call {callee:=.value f,args:=args,argTypes:=_}=>(∃n fi ca,BT (bu τ f)=some (n,fi,ca)∧(w6 P n (fi++args.toList.map (bu τ)++ca) H K∨(∃ds Q,AV.mB.jr (fi++args.toList.map (bu τ)++ca)=some ds∧tq P n ds Q∧∀x,Q x→K x H)∨QP P sm n (fi++args.toList.map (bu τ)++ca) τ H K))∨
   ∃l,bu τ f= .d (.val (.func (.yield l) #[] #[]))∧QN P sm l (args.toList.map (bu τ)) τ H K
 |_=>False
def sl:Op→Bool
 | .call {callee:=.value _,..}=>true
 |_=>false
theorem SL{sm:List Nat}(fK:Kp c sm)(h:aV c τ H [] pl a w){o:Oper}{K0:AV→av→Prop}(hq:JN P sm o.op τ H K0){K:Act→World→Prop}{Q:Exit→Act→World→Prop}
  (hK:∀x v H' w' bK,K0 x H'→aV c τ H' [] bK a w'→Rd w' bK (bF c.E H' bK) x v→K (a.put o.dst v) w'):o.wpIn c.F 0 P a w K Q:=by
 unfold JN at hq
 split at hq
 ·rename_i f args ts e
  rcases hq with hq|⟨l,hl,hq⟩
  case inr=>exact jfq fK h hq e hl hK
  refine sn c (by rw[e];rfl) ?_
  obtain⟨n,fi,ca,hc,hq⟩:=hq
  obtain⟨vs,us,hv,h1,h2⟩:=Mv hc (h.eval f)
  have cV:=(h1.append (h.args args)).append h2
  rcases hq with hq|⟨ds,Qr,uI,hp,hk⟩|hq
  case inr.inr=>exact jfo fK h hq e hv cV.1 cV.2 hK
  case inr.inl=>
   refine Dn (Dm e hv hp.1) ?_
   obtain⟨l1,l2⟩:=BO w pl (bF c.E H pl) _ ds _ uI cV.2
   exact(hp.2 w (bF c.E H pl) _ (by rw[cV.1,l1]) l2 h.iS).mono fun e w' ⟨v,r,he,hq,hr,hb⟩=>⟨v,he,hK r v H w' pl (hk r hq) (h.below hb) (hr.mono (bJ _) (fun _ _ _=>rfl) (fun _ _ h=>h) (fun _ _ h=>h) (fun i p hp=>by simp at hp))⟩
  obtain⟨he,hs⟩:=hq
  exact Dn (Dm e hv he) ((hs c.E w pl _ cV.1 cV.2 h.h h.lt).mono fun e w' ⟨v,x,H',bK,k1,k2,k3,k4,k5,k6,k7⟩=>⟨v,k1,hK x v H' w' bK k2 (h.step k5 k7 k6 k4) k3⟩)
 ·exact hq.elim
def Kx(P:Program)(fr:List FuncId)(sm:List Nat)(o:Oper)(τ:Fr)(H:av)(K:Fr→av→Prop):Prop:=
 match gx fr o.op with
 |0=>(∃x,iq P H.length H (bu τ) o.op x∧K (τ.put o.dst x) H)∨JN P sm o.op τ H fun x H'=>K (τ.put o.dst x) H'
 |2=>∃H',vy P (bu τ) o.op H [] 0 H'∧K (τ.put o.dst (.d (.val undef))) H'
 |4=>∃x H',pD P (bu τ) o.op H [] x H'∧K (τ.put o.dst x) H'
 |_=>∃x H',kI P false H.length (bu τ) o.op (H++[.free]) [] x H' []∧K (τ.put o.dst x) H'
def Cg(P:Program)(fr:List FuncId)(sm:List Nat)(ops:List Oper):List Oper→Fr→av→(Fr→av→Prop)→Prop
 |[],τ,H,K=>K τ H
 |o::l,τ,H,K=>∃b,lO ops τ o=some b∧(b=true→Kx P fr sm o τ H fun τ' H'=>Cg P fr sm ops l τ' H' K)∧(b=false→Cg P fr sm ops l (τ.put o.dst (.d (.val undef))) H K)
def pU(nt:Nat)(l:List Oper):Bool:=l.all fun o=>(match o.dst with|some d=>decide (d<nt)|none=>true)&&Ky o.op
theorem BY{fr:List FuncId}{sm:List Nat}(fK:Kp c sm){ops:List Oper}{K:Fr→av→Prop}{Q:Exit→Act→World→Prop}(hK:∀τ H a w,K τ H→R c τ H [] a w→Q .normal a w):
  ∀(l:List Oper) (τ:Fr) (H:av) (a:Act) (w:World),pU c.nt l=true→Cg P fr sm ops l τ H K→R c τ H [] a w→wpListIn c.F 0 P ops.toArray Q l a w
 |[],τ,H,a,w,_,h,hR=>hK τ H a w h hR
 |o::l,τ,H,a,w,hd,h,⟨pl,hR⟩=>by
  obtain⟨b,hg,ht,hf⟩:=h
  have hw:=MD hR hg
  simp only[pU,List.all_cons,fY]at hd
  have oy:∀d,o.dst=some d→d<c.nt:=fun d e=>by have:=hd.1.1;rw[e]at this;simpa using this
  unfold wpListIn
  cases b with
  |false=>
   rw[if_neg (by rw[hw];decide)]
   exact⟨fun _ _=>trivial,BY fK hK l _ _ _ _ hd.2 (hf rfl) ⟨pl,hR.put _ oy (.d _ _ (.val _))⟩⟩
  |true=>
   rw[if_pos hw]
   have ht:=ht rfl
   unfold Kx at ht
   split at ht
   ·rcases ht with⟨x,hq,hk⟩|hq
    ·exact sn c hd.1.2 (IZ hR hq fun v w' h1 h2=>BY fK hK l _ _ _ _ hd.2 hk ⟨pl,h1.put _ oy h2⟩)
    ·exact SL fK hR hq fun x v H' w' bK hk h1 h2=>BY fK hK l _ _ _ _ hd.2 hk ⟨bK,h1.put _ oy h2⟩
   ·obtain⟨H',hq,hk⟩:=ht
    exact sn c hd.1.2 (Mm hR hq fun w' bK h1=>BY fK hK l _ _ _ _ hd.2 hk ⟨bK,h1.put _ oy (.d _ _ (.val _))⟩)
   ·obtain⟨x,H',hq,hk⟩:=ht
    exact sn c hd.1.2 (Mn hR hq fun v w' h1 h2=>BY fK hK l _ _ _ _ hd.2 hk ⟨pl,h1.put _ oy h2⟩)
   ·obtain⟨x,H',hq,hk⟩:=ht
    exact sn c hd.1.2 (IY hR.eV (by rw[jj (bJ _)];simp) (fun p hp=>by cases hp) hq fun v w' bK h1 h2=>BY fK hK l _ _ _ _ hd.2 hk ⟨bK,h1.put _ oy h2⟩)
variable {Q Q':Exit→Fr→av→Prop}
theorem jkq{code:Code}(h:ei P c code Q τ H)(hq:∀e τ H,Q e τ H→Q' e τ H):ei P c code Q' τ H:=fun a w hR=>
 wpIn_mono (h a w hR) fun _ _ _ ⟨τ',H',h1,h2⟩=>⟨τ',H',h1,hq _ _ _ h2⟩
theorem SK{fr:List FuncId}{sm:List Nat}(fK:Kp c sm){id:Nat}{l:List Oper}(hd:pU c.nt l=true)(h:Cg P fr sm l l τ H (Q .normal)):ei P c (.region id l.toArray false) Q τ H:=fun a w hR=>
 wpIn_region_lit (BY fK (K:=Q .normal) (fun τ' H' a' w' hk CH=>⟨τ',H',CH,hk⟩) l τ H a w hd h hR)
theorem bg(h:Q .normal τ H):ei P c .skip Q τ H:=fun _ _ hR=>wpIn_skip ⟨τ,H,hR,h⟩
theorem cJ{id:Nat}(h:Q (.exit id) τ H):ei P c (.exit id) Q τ H:=fun _ _ hR=>wpIn_exit ⟨τ,H,hR,h⟩
theorem aM(h:Q .ret τ H):ei P c .ret Q τ H:=fun _ _ hR=>wpIn_ret ⟨τ,H,hR,h⟩
def cC(next:Fr→av→Prop)(Q:Exit→Fr→av→Prop):Exit→Fr→av→Prop
 | .normal,τ,H=>next τ H
 |e,τ,H=>Q e τ H
theorem Iy{x y:Code}(h:ei P c x (cC (ei P c y Q) Q) τ H):ei P c (.seq x y) Q τ H:=fun a w hR=>
 wpIn_seq (wpIn_mono (h a w hR) fun e _ _ ⟨τ',H',h1,h2⟩=>by
  cases e with
  |normal=>exact h2 _ _ h1
  |_=>exact⟨τ',H',h1,h2⟩)
def cI(id:Nat)(Q:Exit→Fr→av→Prop):Exit→Fr→av→Prop
 | .exit cH,τ,H=>if cH=id then Q .normal τ H else Q (.exit cH) τ H
 |e,τ,H=>Q e τ H
theorem aW{id:Nat}{x:Code}(h:ei P c x (cI id Q) τ H):ei P c (.block id x) Q τ H:=fun a w hR=>
 wpIn_block (wpIn_mono (h a w hR) fun e _ _ ⟨τ',H',h1,h2⟩=>by
  cases e with
  |exit cH=>
   simp only[cI]at h2
   simp only[Exit.inBlock]
   split
   ·rename_i hi;rw[if_pos hi]at h2;exact⟨τ',H',h1,h2⟩
   ·rename_i hi;rw[if_neg hi]at h2;exact⟨τ',H',h1,h2⟩
  |_=>exact⟨τ',H',h1,h2⟩)
theorem bf{o:Operand}{x y:Code}{t:Bool}(ht:bu τ o= .d (.val (.bool t)))(h1:t=true→ei P c x Q τ H)(h2:t=false→ei P c y Q τ H):ei P c (.cond o x y) Q τ H:=fun a w hR=>by
 obtain⟨pl,hS⟩:=hR
 have hv:=hS.eval o
 rw[ht]at hv
 have he:a.eval o= .bool t:=by generalize a.eval o=z at hv;cases hv with|d _ _ hv=>cases hv;rfl
 exact wpIn_cond_split he (fun e=>h1 e a w ⟨pl,hS⟩) (fun e=>h2 e a w ⟨pl,hS⟩)
theorem KG{p:Nat→Prop}(h:∃n,p n):∃n,p n∧∀m,p m→n≤m:=by
 obtain⟨n,hn⟩:=h
 induction n using Nat.strongRecOn with
 |_ n ih=>
  by_cases hm:∃m,m<n∧p m
  ·obtain⟨m,h1,h2⟩:=hm;exact ih m h1 h2
  ·exact⟨n,hn,fun m hpm=>Nat.le_of_not_lt fun aA=>hm ⟨m,aA,hpm⟩⟩
open Classical in
theorem jkr{x:Code}(I:Fr→av→Nat→Prop){n0:Nat}(h0:I τ H n0)(round:∀τ H n,I τ H n→ei P c x (cC (fun τ' H'=>∃n',n'<n∧I τ' H' n') Q) τ H):ei P c (.loop x) Q τ H:=fun a w hR=>by
 let J:Act→World→Nat→Prop:=fun a w n=>∃τ H,I τ H n∧R c τ H [] a w
 refine wpIn_loop (fun a w=>∃n,J a w n) (fun a w=>if h:∃n,J a w n then Classical.choose (KG h)else 0) ⟨n0,τ,H,h0,hR⟩ fun a w hI=>?_
 obtain⟨hJ,Ha⟩:=Classical.choose_spec (KG hI)
 rw[dif_pos hI]
 generalize Classical.choose (KG hI)=n at hJ Ha
 obtain⟨τ1,H1,h1,h2⟩:=hJ
 refine wpIn_mono (round τ1 H1 n h1 a w h2) fun e a' w' ⟨τ',H',h3,h4⟩=>?_
 cases e with
 |normal=>
  obtain⟨n',aA,hI'⟩:=h4
  have Li:J a' w' n':=⟨τ',H',hI',h3⟩
  refine⟨⟨n',Li⟩,?_⟩
  rw[dif_pos ⟨n',Li⟩]
  exact Nat.lt_of_le_of_lt ((Classical.choose_spec (KG (⟨n',Li⟩:∃n,J a' w' n))).2 n' Li) aA
 |_=>exact⟨τ',H',h3,h4⟩

def ai(H:av):AV→Option AV
 | .dR xs=>(kx (l6 H H.length) 9 xs).map fun ys=>.dR (ys.map .d)
 |x=>(qo (l6 H H.length) 9 x).map .d
theorem RP{E:Nat→Prop}(hr:fb E w pl H sh){x r:AV}{v:Value}(h:ai H x=some r)(hv:Rd w pl (bF E H pl) x v):Rd w [] E r v:=by
 unfold ai at h
 split at h
 ·obtain⟨ys,hy,rfl⟩:=dc.1 h
  cases hv with|dR _ vs hl hx=>
  obtain⟨h1,h2⟩:=(E8 hr H.length 9).2 _ ys _ hy hx
  refine .dR _ _ (by simp;omega) fun j x hj=>?_
  rw[List.getElem?_map,dc]at hj
  obtain⟨y,hy,rfl⟩:=hj
  exact .d _ _ (h2 j y hy)
 ·obtain⟨y,hy,rfl⟩:=dc.1 h
  exact .d _ _ ((E8 hr H.length 9).1 _ y v hy hv)
theorem jK.mX{w w':World}(h:jK (fun _=>False) w w'):Below w.heap.size w w':=⟨h.os,h.tape,h.output,h.size,fun b hb=>h.block b hb (fun h=>h)⟩
def ku(H:av):AV→Option AV
 | .dR xs=>(rD (l6 H H.length) 9 xs).map fun ys=>.dR (ys.map .d)
 |x=>(s8 (l6 H H.length) 9 x).map .d
theorem jfr{E E':Nat→Prop}(hr:fb E w pl H sh)(wU:∀(id:Nat) (o:bB) (p:Nat × Nat),H[id]? =some o→o.live=true→pl[id]? =some (some p)→¬E' p.1){x r:AV}{v:Value}(h:ku H x=some r)(hv:Rd w pl (bF E H pl) x v):Rd w [] E' r v:=by
 unfold ku at h
 split at h
 ·obtain⟨ys,hy,rfl⟩:=dc.1 h
  cases hv with|dR _ vs hl hx=>
  obtain⟨h1,h2⟩:=(O1 hr wU H.length 9).2 _ ys _ hy hx
  refine .dR _ _ (by simp;omega) fun j x hj=>?_
  rw[List.getElem?_map,dc]at hj
  obtain⟨y,hy,rfl⟩:=hj
  exact .d _ _ (h2 j y hy)
 ·obtain⟨y,hy,rfl⟩:=dc.1 h
  exact .d _ _ ((O1 hr wU H.length 9).1 _ y v hy hv)
end
end
section
section
variable {P:Program} {c:Cx} {τ:Fr} {a:Act} {w w':World} {pl bK:List (Option (Nat × Nat))} {H H':av} {sh sh':List (Nat × Nat)} {fr:List FuncId} {ops:List Oper} {N:Nat}
structure St where
 τ:Fr
 H:av
 sh:List (Nat × Nat)
def bI(fr:List FuncId)(o:Oper):Bool:=gx fr o.op==1||gx fr o.op==3
def kU(fr:List FuncId)(ops:List Oper)(i:Nat):Nat:=(ops.take i).countP (bI fr)
def vO(ops:List Oper)(o:Oper):Bool:=
 match o.op with
 | .store _ (.tmp t) _=>ops.any fun p=>p.dst==some t&&(match p.op with| .alloc _=>true|_=>false)
 |_=>false
def rM(N:Nat)(al:List Nat):AV→Bool
 | .os _ id _ _=>decide (id<N)||al.contains (id - N)
 |_=>true
def Gf(fr:List FuncId)(ops:List Oper)(o:Oper):List Nat:=(o.after.toList.filter fun e=>Region.binds .any e&&((ops[e.on]?).any (bI fr))).map fun e=>kU fr ops e.on
def yq(N:Nat)(al:List Nat)(ρ:Operand→AV)(op:Op):Prop:=
 match op with
 | .call c=>match c.callee with
  | .builtin .append=>∀y∈c.args.toList,rM N al (ρ y)=true
  |_=>True
 |_=>True
def qW(P:Program)(fr:List FuncId)(ops:List Oper)(N i:Nat)(o:Oper)(b:Bool)(ρ:Operand→AV)(H:av)(sh:List (Nat × Nat))(x:AV)(H':av)(sh':List (Nat × Nat)):Prop:=
 if b then match gx fr o.op with
  |0=>iq P N H ρ o.op x∧H'=H∧sh'=sh
  |2=>vy P ρ o.op H sh (if vO ops o then N else 0) H'∧x= .d (.val undef)∧sh'=sh
  |4=>pD P ρ o.op H sh x H'∧sh'=sh
  |_=>H[N+kU fr ops i]? =some .free∧(∀p∈sh,p.1≠N+kU fr ops i∧p.2≠N+kU fr ops i)∧yq N (Gf fr ops o) ρ o.op∧kI P true (N+kU fr ops i) ρ o.op H sh x H' sh'
 else x= .d (.val undef)∧H'=H∧sh'=sh
def Eg(P:Program)(fr:List FuncId)(ops:List Oper)(N i:Nat)(σ σ':St):Prop:=
 ∃o b x H' sh',ops[i]? =some o∧lO ops σ.τ o=some b∧qW P fr ops N i o b (bu σ.τ) σ.H σ.sh x H' sh'∧σ'=⟨σ.τ.put o.dst x,H',sh'⟩
def DJ(P:Program)(fr:List FuncId)(ops:List Oper)(N:Nat)(K:St→Prop):Nat→Array Bool→St→Prop
 |0,listed,σ=>Region.ready .any ops.toArray listed=[]∧K σ
 |fuel+1,listed,σ=>(Region.ready .any ops.toArray listed=[]→K σ)∧∀i∈Region.ready .any ops.toArray listed,∃σ',Eg P fr ops N i σ σ'∧DJ P fr ops N K fuel (listed.setIfInBounds i true) σ'
theorem SJ{K:St→Prop}{Q:Exit→Act→World→Prop}(hd:pU c.nt ops=true)(hK:∀σ a w,K σ→R c σ.τ σ.H σ.sh a w→Q .normal a w):
  ∀(fuel:Nat) (listed:Array Bool) (σ:St) (a:Act) (w:World),DJ P fr ops N K fuel listed σ→R c σ.τ σ.H σ.sh a w→wpAnyIn c.F 0 P .any ops.toArray Q fuel listed a w
 |0,_,σ,a,w,h,hR=>⟨h.1,hK σ a w h.2 hR⟩
 |fuel+1,listed,σ,a,w,h,hR=>by
  refine⟨fun h0=>hK σ a w (h.1 h0) hR,fun i hi=>?_⟩
  obtain⟨σ',⟨o,b,x,H',sh',ho,hg,hs,rfl⟩,kc⟩:=h.2 i hi
  obtain⟨pl,hR⟩:=hR
  have hw:=MD hR hg
  have oy:∀d,o.dst=some d→d<c.nt:=fun d e=>by
   have:=kB.1 hd o (List.mem_of_getElem? ho)
   rw[e]at this;simpa using((fY _ _).mp this).1
  have nO:Ky o.op=true:=by
   have:=kB.1 hd o (List.mem_of_getElem? ho)
   exact((fY _ _).mp this).2
  have ih:=SJ (Q:=Q) hd hK fuel (listed.setIfInBounds i true)
  unfold wpOpIn
  rw[List.getElem?_toArray,ho]
  simp only
  unfold qW at hs
  cases b with
  |false=>
   rw[if_neg (by rw[hw];decide)]
   simp only[Bool.false_eq_true,if_false]at hs
   obtain⟨rfl,rfl,rfl⟩:=hs
   exact⟨fun _ _=>trivial,ih _ _ _ kc ⟨pl,hR.put _ oy (.d _ _ (.val _))⟩⟩
  |true=>
   rw[if_pos hw]
   simp only[if_true]at hs
   split at hs
   ·obtain⟨hq,rfl,rfl⟩:=hs
    exact sn c nO (IZ hR hq fun v w' h1 h2=>ih _ _ _ kc ⟨pl,h1.put _ oy h2⟩)
   ·obtain⟨hq,rfl,rfl⟩:=hs
    exact sn c nO (Mm hR hq fun w' bK h1=>ih _ _ _ kc ⟨bK,h1.put _ oy (.d _ _ (.val _))⟩)
   ·obtain⟨hq,rfl⟩:=hs
    exact sn c nO (Mn hR hq fun v w' h1 h2=>ih _ _ _ kc ⟨pl,h1.put _ oy h2⟩)
   ·obtain⟨hn,eL,_,hq⟩:=hs
    exact sn c nO (IY hR hn eL hq fun v w' bK h1 h2=>ih _ _ _ kc ⟨bK,h1.put _ oy h2⟩)

theorem RO{d:Option Tmp}{x:AV}{y:Operand}(h:∀t,d=some t→y≠ .tmp t):bu (τ.put d x) y=bu τ y:=by
 cases d with
 |none=>rfl
 |some d=>
  cases y with
  |tmp t=>
   have cR:t≠d:=fun e=>h d rfl (e▸rfl)
   simp[bu,Fr.put,cR]
  |_=>rfl
theorem jks{x y:Option Tmp}{u v:AV}(h:∀d,x=some d→y≠some d):(τ.put x u).put y v=(τ.put y v).put x u:=by
 cases x with
 |none=>rfl
 |some d=>
  cases y with
  |none=>rfl
  |some e=>
   have cR:d≠e:=fun he=>h d rfl (he▸rfl)
   funext t
   simp only[Fr.put]
   by_cases h1:t=e<;>by_cases h2:t=d<;>simp_all
theorem Fc{callee:Callee}{args:Array Operand}{ts:Array TypeId}{y:Operand}(hy:y∈args.toList):y∈(Op.call ⟨callee,args,ts⟩).operands:=Array.mem_append.2 (.inr (by simpa using hy))
theorem IX{ρ ρ':Operand→AV}{op:Op}(h:∀x∈op.operands,ρ x=ρ' x)(M:Nat)(H:av)(x:AV):iq P M H ρ op x=iq P M H ρ' op x:=by
 cases op with
 |call cl=>
  obtain⟨callee,args,ts⟩:=cl
  have ha:args.toList.map ρ=args.toList.map ρ':=List.map_congr_left fun y hy=>h y (Fc hy)
  cases callee with
  |value f=>
   have hf:ρ f=ρ' f:=h f (by simp[Op.operands,Call.operands])
   simp only[iq,ha,hf]
  |builtin b=>simp only[iq,ha]
  |invoke r m=>rfl
 |build t parts=>
  have:(parts.toList.map fun p=>(p.1,ρ p.2))=parts.toList.map fun p=>(p.1,ρ' p.2):=List.map_congr_left fun p hp=>by rw[h p.2 (by simp only[Op.operands,List.mem_toArray];exact List.mem_map_of_mem hp)]
  simp only[iq,this]
 |makeFunc fn fi ca=>
  have h1:fi.toList.map ρ=fi.toList.map ρ':=List.map_congr_left fun y hy=>h y (by simp[Op.operands]at hy ⊢;exact .inl hy)
  have h2:ca.toList.map ρ=ca.toList.map ρ':=List.map_congr_left fun y hy=>h y (by simp[Op.operands]at hy ⊢;exact .inr hy)
  simp only[iq,h1,h2]
 |slice t p lo hi mx=>
  cases mx with
  |some _=>rfl
  |none=>
   have hp:ρ p=ρ' p:=h p (by simp[Op.operands])
   have h1:lo.map ρ=lo.map ρ':=by cases lo with|none=>rfl|some y=>simp[h y (by simp[Op.operands])]
   have h2:hi.map ρ=hi.map ρ':=by cases hi with|none=>rfl|some y=>simp[h y (by simp[Op.operands])]
   simp only[iq,hp,h1,h2]
 |pick a b c=>simp only[iq,h a (by simp[Op.operands]),h b (by simp[Op.operands]),h c (by simp[Op.operands])]
 |binOp op t y z t'=>simp only[iq,h y (by simp[Op.operands]),h z (by simp[Op.operands])]
 |indexAddr t y z=>simp only[iq,h y (by simp[Op.operands]),h z (by simp[Op.operands])]
 |index t y z=>simp only[iq,h y (by simp[Op.operands]),h z (by simp[Op.operands])]
 |move y=>simp only[iq,h y (by simp[Op.operands])]
 |assign y=>simp only[iq,h y (by simp[Op.operands])]
 |load t y=>simp only[iq,h y (by simp[Op.operands])]
 |fieldAddr t y f=>simp only[iq,h y (by simp[Op.operands])]
 |field t y f=>simp only[iq,h y (by simp[Op.operands])]
 |unOp o t y=>simp only[iq,h y (by simp[Op.operands])]
 |convert s t y=>simp only[iq,h y (by simp[Op.operands])]
 |extract y i=>simp only[iq,h y (by simp[Op.operands])]
 |lookup t m k ok=>simp only[iq,h m (by simp[Op.operands]),h k (by simp[Op.operands])]
 |nilCheck y=>simp only[iq,h y (by simp[Op.operands])]
 |_=>rfl
theorem IW{ρ ρ':Operand→AV}{op:Op}(h:∀x∈op.operands,ρ x=ρ' x)(dr:Bool)(n:Nat)(H:av)(sh:List (Nat × Nat))(x:AV)(H':av)(sh':List (Nat × Nat)):kI P dr n ρ op H sh x H' sh'=kI P dr n ρ' op H sh x H' sh':=by
 cases op with
 |call cl=>
  obtain⟨callee,args,ts⟩:=cl
  have ha:args.toList.map ρ=args.toList.map ρ':=List.map_congr_left fun y hy=>h y (Fc hy)
  cases callee with
  |value f=>
   have hf:ρ f=ρ' f:=h f (by simp[Op.operands,Call.operands])
   simp only[kI,ha,hf]
  |builtin b=>
   obtain⟨args⟩:=args
   obtain⟨ts⟩:=ts
   cases b<;>try rfl
   simp only[kI]
   split
   ·rename_i s y t t'
    rw[h s (by simp[Op.operands,Call.operands]),h y (by simp[Op.operands,Call.operands])]
   ·rfl
  |invoke r m=>rfl
 |buildSlice t len parts=>
  have:(parts.toList.map fun p=>(p.1,ρ p.2))=parts.toList.map fun p=>(p.1,ρ' p.2):=List.map_congr_left fun p hp=>by rw[h p.2 (by simp only[Op.operands,List.mem_toArray];exact List.mem_map_of_mem hp)]
  simp only[kI,this]
 |makeSlice t l cp=>simp only[kI,h l (by simp[Op.operands]),h cp (by simp[Op.operands])]
 |box t y=>simp only[kI,h y (by simp[Op.operands])]
 |makeMap t hint=>
  simp only[kI]
  cases hint with
  |none=>simp
  |some y=>simp[h y (by simp[Op.operands])]
 |_=>rfl
theorem RN{ρ ρ':Operand→AV}{op:Op}(h:∀x∈op.operands,ρ x=ρ' x)(H:av)(sh:List (Nat × Nat))(N1:Nat)(H':av):vy P ρ op H sh N1 H'=vy P ρ' op H sh N1 H':=by
 cases op with
 |store t p y=>simp only[vy,h p (by simp[Op.operands]),h y (by simp[Op.operands])]
 |_=>rfl
theorem RM{ρ ρ':Operand→AV}{op:Op}(h:∀x∈op.operands,ρ x=ρ' x)(H:av)(sh:List (Nat × Nat))(x:AV)(H':av):pD P ρ op H sh x H'=pD P ρ' op H sh x H':=by
 cases op with
 |mapUpdate t m k y=>simp only[pD,h m (by simp[Op.operands]),h k (by simp[Op.operands]),h y (by simp[Op.operands])]
 |insert t m k y=>simp only[pD,h m (by simp[Op.operands]),h k (by simp[Op.operands]),h y (by simp[Op.operands])]
 |mapEntry t m k=>simp only[pD,h m (by simp[Op.operands]),h k (by simp[Op.operands])]
 |entryStore t m s y=>simp only[pD,h m (by simp[Op.operands]),h s (by simp[Op.operands]),h y (by simp[Op.operands])]
 |call cl=>
  obtain⟨callee,⟨args⟩,⟨ts⟩⟩:=cl
  cases callee with
  |builtin b=>
   cases b<;>try rfl
   ·simp only[pD]
    split
    ·rename_i e;cases e
    ·rename_i m t e
     rw[h m (by simp[Op.operands,Call.operands])]
    ·rfl
   ·simp only[pD]
    split
    ·rename_i m k t t' e
     rw[h m (by simp[Op.operands,Call.operands]),h k (by simp[Op.operands,Call.operands])]
    ·rename_i e;cases e
    ·rfl
  |_=>rfl
 |_=>rfl
theorem zyf{ρ ρ':Operand→AV}{op:Op}(h:∀x∈op.operands,ρ x=ρ' x)(al:List Nat):yq N al ρ op=yq N al ρ' op:=by
 cases op with
 |call cl=>
  obtain⟨callee,args,ts⟩:=cl
  cases callee with
  |builtin b=>
   cases b<;>try rfl
   simp only[yq]
   refine propext ⟨fun hh y hy=>?_,fun hh y hy=>?_⟩
   ·rw[←h y (Fc hy)];exact hh y hy
   ·rw[h y (Fc hy)];exact hh y hy
  |_=>rfl
 |_=>rfl
theorem RL{o:Oper}{t:Tmp}(h:Operand.tmp t∈o.op.operands):t∈o.looksAt ops.toArray:=
 List.mem_append_left _ (List.mem_filterMap.2 ⟨.tmp t,by simpa using h,rfl⟩)
theorem SI{o:Oper}{d:Option Tmp}{x:AV}(h:∀t,d=some t→t∉o.looksAt ops.toArray):lO ops (τ.put d x) o=lO ops τ o:=by
 cases d with
 |none=>rfl
 |some d=>
  unfold lO
  cases hg:o.guard with
  |none=>rfl
  |some p=>
   obtain⟨j,want⟩:=p
   simp only
   cases hj:(ops[j]?).bind (·.dst)with
   |none=>rfl
   |some t=>
    have cR:t≠d:=fun e=>h d rfl (by
     unfold Oper.looksAt
     refine List.mem_append_right _ ?_
     rw[hg]
     simp only[List.getElem?_toArray,hj,Option.toList_some,rN]
     exact e.symm)
    simp[Fr.put,cR]
end
end
section
section
variable {P:Program} {c:Cx} {τ:Fr} {a:Act} {w w':World} {pl bK:List (Option (Nat × Nat))} {H H' H1 H2:av} {sh sh' Nz su:List (Nat × Nat)} {fr:List FuncId} {ops:List Oper} {N:Nat} {ρ ρ':Operand→AV}
theorem zyg(h:∀id,id<N→H[id]? =H'[id]?):l6 H N=l6 H' N:=by
 unfold l6
 congr 1
 ·funext id
  split
  ·rename_i hid;rw[h id hid]
  ·rfl
 ·funext id
  split
  ·rename_i hid;rw[h id hid]
  ·rfl
theorem zqa(h:∀id,id<N→H[id]? =H'[id]?)(m:AV):xN H N m=xN H' N m:=by
 unfold xN
 split
 ·rfl
 ·rfl
 ·split
  ·rename_i hid;rw[h _ hid]
  ·rfl
 ·rfl
def quiet:Op→Bool
 | .move _| .assign _| .pick .. | .fieldAddr .. | .field .. | .indexAddr .. | .index .. | .binOp .. | .unOp .. | .convert .. | .build .. | .extract .. | .nilCheck _| .makeFunc .. =>true
 | .call {callee:=.builtin .len,..}| .call {callee:=.builtin .min,..}| .call {callee:=.builtin .max,..}=>true
 |_=>false
theorem Fo{op:Op}(h:quiet op=true)(H H':av)(x:AV)(hq:iq P N H ρ op x):iq P N H' ρ op x:=by
 cases op with
 |call c=>
  obtain⟨callee,args,ts⟩:=c
  cases callee with
  |builtin b=>exact hq
  |_=>cases h
 |_=>first|exact hq|cases h
theorem yF(h:∀id,id<N→H[id]? =H'[id]?)(op:Op)(x:AV)(hq:iq P N H ρ op x):iq P N H' ρ op x:=by
 unfold iq at hq ⊢
 split at hq
 all_goals try exact hq
 ·unfold lX at hq ⊢
  split at hq
  ·exact hq
  ·obtain⟨g,k,h1,h2,h3,cs,h4,h5⟩:=hq
   exact⟨g,k,h1,h2,h3,cs,(h _ h3)▸h4,h5⟩
  ·exact hq
 ·unfold lI at hq ⊢
  split at hq
  ·exact hq
  ·exact hq
  ·exact hq
  ·obtain⟨n,e,s,l,h',cs,h1,h2,h3,h4⟩:=hq
   exact⟨n,e,s,l,h',cs,h1,h2,(h _ h2)▸h3,h4⟩
  ·exact hq
 ·obtain⟨kt,et,z,v,es,h1,h2,h3,h4,h5,h6,h7,h8⟩:=hq
  exact⟨kt,et,z,v,es,h1,h2,h3,h4,h5,h6,(zqa h _)▸h7,h8⟩
 ·split at hq
  ·obtain⟨n,fi,ca,ds,h1,h2⟩:=hq
   exact⟨n,fi,ca,ds,h1,by rw[←zyg h];exact h2⟩
  ·exact hq
  ·exact hq
theorem BN{op:Op}(hk:gx fr op=1){n:Nat}{x:AV}(hq:kI P true n ρ op H sh x H' sh'):∃o,H'=H.set n o∧sh'=sh∧∀H2 su,kI P true n ρ op H2 su x (H2.set n o) su:=by
 unfold kI at hq
 split at hq
 ·obtain⟨cs,h1,h2,rfl,rfl⟩:=hq
  exact⟨_,rfl,rfl,fun H2 su=>⟨cs,h1,h2,rfl,rfl⟩⟩
 ·obtain⟨zs,h1,h2,h3,rfl,rfl⟩:=hq
  exact⟨_,rfl,rfl,fun H2 su=>⟨zs,h1,h2,h3,rfl,rfl⟩⟩
 ·obtain⟨e,s,zs,bts,k1,k2,m,m',he,hz,hl,h0,h1,eI,hm,sI,b0,b1,b2,b3,hc,rfl⟩:=hq
  rcases hc with⟨h2,rfl⟩|⟨ds,h2,h3,h4,rfl⟩
  ·exact⟨_,rfl,rfl,fun H2 su=>⟨e,s,zs,bts,k1,k2,m,m',he,hz,hl,h0,h1,eI,hm,sI,b0,b1,b2,b3,.inl ⟨h2,rfl⟩,rfl⟩⟩
  ·exact⟨_,rfl,rfl,fun H2 su=>⟨e,s,zs,bts,k1,k2,m,m',he,hz,hl,h0,h1,eI,hm,sI,b0,b1,b2,b3,.inr ⟨ds,h2,h3,h4,rfl⟩,rfl⟩⟩
 ·obtain⟨h1,h2,rfl,rfl⟩:=hq
  exact⟨_,rfl,rfl,fun H2 su=>⟨h1,h2,rfl,rfl⟩⟩
 ·obtain⟨e,s,zs,cs,he,hz,hl,h0,h1,Co,hf,hc,rfl⟩:=hq
  rcases hc with⟨h2,rfl⟩|⟨ds,h2,h3,h4,rfl⟩
  ·exact⟨_,rfl,rfl,fun H2 su=>⟨e,s,zs,cs,he,hz,hl,h0,h1,Co,hf,.inl ⟨h2,rfl⟩,rfl⟩⟩
  ·exact⟨_,rfl,rfl,fun H2 su=>⟨e,s,zs,cs,he,hz,hl,h0,h1,Co,hf,.inr ⟨ds,h2,h3,h4,rfl⟩,rfl⟩⟩
 ·rename_i cl
  obtain⟨callee,args,ts⟩:=cl
  simp only at hq
  split at hq
  ·obtain⟨f,fi,ca,ds,r,cs,hc,uI,hp,h1,rfl,rfl⟩:=hq
   exact⟨_,rfl,rfl,fun H2 su=>⟨f,fi,ca,ds,r,cs,hc,uI,hp,h1,rfl,rfl⟩⟩
  ·cases hk
  ·exact hq.elim
 ·exact hq.elim
theorem SE{al:List Nat}{k id off n:Nat}(h:rM N al (.os k id off n)=true):id<N∨(id - N)∈al:=by
 simpa[rM]using h
theorem E5{op:Op}(hk:gx fr op=3){n:Nat}{x:AV}{al:List Nat}(ha:yq N al ρ op)(hq:kI P true n ρ op H sh x H' sh'):∃o,H'=H.set n o∧((∀p∈sh,p∈sh')∧∀p∈sh',p∈sh∨p.1=n∧((∃cs,H[p.2]? =some (.cells cs))∨∃q∈sh,q.2=p.2))∧∀H2,(∀id,id<N∨(id - N)∈al→H[id]? =H2[id]?)→kI P true n ρ op H2 sh x (H2.set n o) sh':=by
 unfold kI at hq
 split at hq
 ·cases hk
 ·cases hk
 ·cases hk
 ·cases hk
 ·cases hk
 ·rename_i cl
  obtain⟨callee,args,ts⟩:=cl
  simp only at hq
  split at hq
  ·rename_i f
   cases f<;>simp only[gx]at hk<;>first|(cases hk;done)|(split at hk<;>cases hk)
  ·obtain⟨args⟩:=args
   obtain⟨ts⟩:=ts
   simp only at hq
   split at hq
   ·rename_i s y t t'
    obtain⟨e,k,zs,bts,m,l,he,hz,hl,eI,hs,hq⟩:=hq
    have kD:rM N al (ρ s)=true:=ha s (by simp)
    have hy1:rM N al (ρ y)=true:=ha y (by simp)
    have iT:∀H2:av,(∀id,id<N∨(id - N)∈al→H[id]? =H2[id]?)→Eh P t t' zs bts H2 k (ρ y) m l:=fun H2 hH=>by
     refine hs.imp_left fun⟨ht,hs⟩=>⟨ht,?_⟩
     unfold pB at hs ⊢
     split at hs
     ·exact hs
     ·rename_i e1
      obtain⟨h1,cs,h2,h3,h4⟩:=hs
      rw[e1]at hy1
      exact⟨h1,cs,(hH _ (SE hy1))▸h2,h3,h4⟩
     ·exact hs
     ·exact hs
    split at hq
    ·rename_i k' id off q e3
     obtain⟨cs,h1,h2,h3,h4,h5,h6,fl,rfl,rfl⟩:=hq
     rw[e3]at kD
     refine⟨_,rfl,⟨fun p hp=>Fj hp,fun p hp=>?_⟩,fun H2 hH=>?_⟩
     ·obtain⟨p1,p2⟩:=p
      rcases yH hp with⟨k1,k2⟩|⟨k1,k2⟩|k
      ·exact .inr ⟨k1,.inl ⟨cs,k2▸h2⟩⟩
      ·exact .inr ⟨k1,.inr ⟨_,k2,rfl⟩⟩
      ·exact .inl k
     refine⟨e,k,zs,bts,m,l,he,hz,hl,eI,iT H2 hH,?_⟩
     rw[e3]
     exact⟨cs,h1,(hH _ (SE kD))▸h2,h3,h4,h5,h6,fl,rfl,rfl⟩
    ·rename_i e3
     obtain⟨h1,h2,h3,rfl,rfl⟩:=hq
     refine⟨_,rfl,⟨fun p hp=>hp,fun p hp=>.inl hp⟩,fun H2 hH=>?_⟩
     refine⟨e,k,zs,bts,m,l,he,hz,hl,eI,iT H2 hH,?_⟩
     rw[e3]
     exact⟨h1,h2,h3,rfl,rfl⟩
    ·exact hq.elim
   ·exact hq.elim
  ·exact hq.elim
 ·exact hq.elim
theorem LH{op:Op}{N1:Nat}(hq:vy P ρ op H sh N1 H'):∃id o cs,N1≤id∧H[id]? =some (.cells cs)∧H'=H.set id o∧∀H2,H2[id]? =H[id]? →vy P ρ op H2 sh N1 (H2.set id o):=by
 unfold vy at hq
 split at hq
 ·obtain⟨id,i,cs,l,h1,h2,h3,h4,h5,h6,h7,rfl⟩:=hq
  exact⟨id,_,cs,h7,h2,rfl,fun H2 hH=>⟨id,i,cs,l,h1,hH.trans h2,h3,h4,h5,h6,h7,rfl⟩⟩
 ·exact hq.elim
def lv:Op→Op→Bool
 | .lookup t (.tmp m) (.tmp k) false,.mapEntry t' (.tmp m') (.tmp k')=>t==t'&&m==m'&&k==k'
 |_,_=>false
theorem SD{v:Value}(hv:mr v=true)(n:Nat)(z:AV):∀(es:List (Value × Nat × AV)) (i:Nat),jS v es i=none→jS v (es++[(v,n,z)]) i=some (i+es.length,z)
 |[],i,_=>by simp[jS,IJ hv]
 |e::l,i,h=>by
  unfold jS at h
  split at h
  ·cases h
  ·rename_i cR
   rw[List.cons_append,jS,if_neg cR,SD hv n z l (i+1) h,List.length_cons]
   congr 2;omega
theorem zyi{kt:TypeId}{es:List (Value × Nat × AV)}{v:Value}{n:Nat}{z:AV}(h:o8 P kt es=true)(hv:(keyOf P kt v).isSome=true):o8 P kt (es++[(v,n,z)])=true:=by
 unfold o8 at h ⊢
 rw[List.all_append,h]
 simp[hv]
theorem zra{oi oj:Op}(h:lv oi oj=true){xi xj:AV}(h1:iq P N H ρ oi xi)(h2:pD P ρ oj H sh xj H'):iq P N H' ρ oi xi:=by
 unfold lv at h
 split at h
 ·rename_i t m k t' m' k'
  simp only[fY,beq_iff_eq]at h
  obtain⟨⟨rfl,rfl⟩,rfl⟩:=h
  obtain⟨kt,et,z,v,es,a1,a2,a3,a4,a5,a6,a7,a8,rfl⟩:=h1
  obtain⟨kt',et',z',v',es',clock,id,b1,b2,b3,b4,b5,b6,b7,b8,b9,b10,Ln⟩:=h2
  rw[a1]at b1;cases b1
  rw[a3]at b3;cases b3
  rw[a4]at b4;cases b4
  have aA:=(ew.1 b8).1
  rw[b7]at a7
  unfold xN at a7
  simp only at a7
  split at a7
  ·rename_i hid
   rw[b8]at a7
   cases a7
   cases hf:jS v es 0 with
   |none=>
    rw[hf]at Ln
    obtain⟨_,rfl⟩:=Ln
    refine⟨kt,et,z,v,es++[(v,clock,z)],a1,a2,a3,a4,a5,a6,?_,zyi a8 a6,?_⟩
    ·rw[b7];unfold xN;simp only[if_pos hid,List.getElem?_set_self aA]
    ·rw[SD a5 clock z es 0 hf];rfl
   |some p=>
    obtain⟨i,y⟩:=p
    rw[hf]at Ln
    obtain⟨_,rfl⟩:=Ln
    refine⟨kt,et,z,v,es,a1,a2,a3,a4,a5,a6,?_,a8,by rw[hf]⟩
    rw[b7];unfold xN;simp only[if_pos hid,List.getElem?_set_self aA]
  ·cases a7
 ·cases h
def Ef(fr:List FuncId)(ops:List Oper)(i j:Nat)(oi oj:Oper):Bool:=
 match gx fr oi.op,gx fr oj.op with
 |0,2=>vO ops oj||quiet oi.op
 |2,0=>vO ops oi||quiet oj.op
 |0,4=>quiet oi.op||lv oi.op oj.op
 |4,0=>quiet oj.op
 |0,_=>true
 |_,0=>true
 |1,1=>kU fr ops i !=kU fr ops j
 |1,3=>kU fr ops i !=kU fr ops j&& !(Gf fr ops oj).contains (kU fr ops i)
 |3,1=>kU fr ops i !=kU fr ops j&& !(Gf fr ops oi).contains (kU fr ops j)
 |_,_=>false
theorem C7(fr:List FuncId)(op:Op):gx fr op=0∨gx fr op=1∨gx fr op=2∨gx fr op=3∨gx fr op=4:=by
 unfold gx
 split
 all_goals first|(simp;done)|(split<;>simp)
theorem jkt{i j:Nat}{oi oj:Oper}{bi bj:Bool}(hk:Ef fr ops i j oi oj=true){xi xj:AV}(h1:qW P fr ops N i oi bi ρ H sh xi H1 Nz)(h2:qW P fr ops N j oj bj ρ H1 Nz xj H2 su):
  ∃H3 FR,qW P fr ops N j oj bj ρ H sh xj H3 FR∧qW P fr ops N i oi bi ρ H3 FR xi H2 su:=by
 cases bi with
 |false=>
  simp only[qW,Bool.false_eq_true,if_false]at h1
  obtain⟨rfl,rfl,rfl⟩:=h1
  exact⟨_,_,h2,by simp only[qW,Bool.false_eq_true,if_false];exact⟨trivial,trivial,trivial⟩⟩
 |true=>
  cases bj with
  |false=>
   simp only[qW,Bool.false_eq_true,if_false]at h2
   obtain⟨rfl,rfl,rfl⟩:=h2
   exact⟨_,_,by simp only[qW,Bool.false_eq_true,if_false];exact⟨trivial,trivial,trivial⟩,h1⟩
  |true=>
   simp only[qW,if_true]at h1 h2 ⊢
   unfold Ef at hk
   have EC:∀(H:av) (n:Nat) (o:bB),N≤n→∀id,id<N→H[id]? =(H.set n o)[id]? :=fun H n o hn id hid=>(pW (show id≠n by omega)).symm
   rcases C7 fr oi.op with ki|ki|ki|ki|ki<;>rcases C7 fr oj.op with kj|kj|kj|kj|kj<;>simp only[ki,kj]at hk h1 h2 ⊢
   -- looks, looks
   ·obtain⟨q1,rfl,rfl⟩:=h1
    obtain⟨q2,rfl,rfl⟩:=h2
    exact⟨_,_,⟨q2,rfl,rfl⟩,q1,rfl,rfl⟩
   -- looks, bI
   ·obtain⟨q1,rfl,rfl⟩:=h1
    obtain⟨f1,f2,f3,q2⟩:=h2
    obtain⟨o,rfl,rfl,_⟩:=BN kj q2
    exact⟨_,_,⟨f1,f2,f3,q2⟩,yF (EC _ _ _ (Nat.le_add_right _ _)) _ _ q1,rfl,rfl⟩
   -- looks, writes
   ·obtain⟨q1,rfl,rfl⟩:=h1
    obtain⟨q2,rfl,rfl⟩:=h2
    rcases Bool.or_eq_true_iff.1 hk with hk|hk
    ·rw[if_pos hk]at q2
     obtain⟨id,o,cs,hle,_,rfl,_⟩:=LH q2
     exact⟨_,_,⟨by rw[if_pos hk];exact q2,rfl,rfl⟩,yF (EC _ _ _ hle) _ _ q1,rfl,rfl⟩
    ·exact⟨_,_,⟨q2,rfl,rfl⟩,Fo hk _ _ _ q1,rfl,rfl⟩
   -- looks, pz
   ·obtain⟨q1,rfl,rfl⟩:=h1
    obtain⟨f1,f2,f3,q2⟩:=h2
    obtain⟨o,rfl,_,_⟩:=E5 kj f3 q2
    exact⟨_,_,⟨f1,f2,f3,q2⟩,yF (EC _ _ _ (Nat.le_add_right _ _)) _ _ q1,rfl,rfl⟩
   -- looks, writes a map
   ·obtain⟨q1,rfl,rfl⟩:=h1
    obtain⟨q2,rfl⟩:=h2
    rcases Bool.or_eq_true_iff.1 hk with hk|hk
    ·exact⟨_,_,⟨q2,rfl⟩,Fo hk _ _ _ q1,rfl,rfl⟩
    ·exact⟨_,_,⟨q2,rfl⟩,zra hk q1 q2,rfl,rfl⟩
   -- bI, looks
   ·obtain⟨f1,f2,f3,q1⟩:=h1
    obtain⟨o,rfl,rfl,q3⟩:=BN ki q1
    obtain⟨q2,rfl,rfl⟩:=h2
    exact⟨_,_,⟨yF (fun id hid=>(EC _ _ _ (Nat.le_add_right _ _) id hid).symm) _ _ q2,rfl,rfl⟩,f1,f2,f3,q1⟩
   -- bI, bI
   ·obtain⟨f1,f2,f3,q1⟩:=h1
    obtain⟨o,rfl,rfl,q3⟩:=BN ki q1
    obtain⟨g1,g2,g3,q2⟩:=h2
    obtain⟨o',rfl,rfl,q4⟩:=BN kj q2
    have cR:N+kU fr ops i≠N+kU fr ops j:=by simp only[bne_iff_ne,ne_eq]at hk;omega
    rw[pW cR.symm]at g1
    refine⟨_,_,⟨g1,g2,g3,q4 _ _⟩,by rw[pW cR];exact f1,f2,f3,?_⟩
    rw[List.set_comm _ _ cR]
    exact q3 _ _
   ·cases hk
   -- bI, pz
   ·obtain⟨f1,f2,f3,q1⟩:=h1
    obtain⟨o,rfl,rfl,q3⟩:=BN ki q1
    obtain⟨g1,g2,g3,q2⟩:=h2
    simp only[fY,bne_iff_ne,ne_eq,Bool.not_eq_true',List.contains_eq_mem,decide_eq_false_iff_not]at hk
    have cR:N+kU fr ops i≠N+kU fr ops j:=by omega
    obtain⟨o',rfl,uy,q4⟩:=E5 kj g3 q2
    rw[pW cR.symm]at g1
    have hq:=q4 H fun id hid=>pW (fun e=>by
     rcases hid with hid|hid
     ·omega
     ·rw[e,Nat.add_sub_cancel_left]at hid;exact hk.2 hid)
    refine⟨_,_,⟨g1,g2,g3,hq⟩,by rw[pW cR];exact f1,?_,f3,?_⟩
    ·intro p hp
     obtain⟨_,_,⟨_,uA⟩,_⟩:=E5 kj g3 hq
     rcases uA p hp with h|⟨h3,⟨cs,h4⟩|⟨q,h4,h5⟩⟩
     ·exact f2 p h
     ·exact⟨by rw[h3];exact cR.symm,fun e=>by rw[e,f1]at h4;cases h4⟩
     ·exact⟨by rw[h3];exact cR.symm,by rw[←h5];exact(f2 q h4).2⟩
    ·rw[List.set_comm _ _ cR]
     exact q3 _ _
   ·cases hk
   -- writes, looks
   ·obtain⟨q1,rfl,rfl⟩:=h1
    obtain⟨q2,rfl,rfl⟩:=h2
    rcases Bool.or_eq_true_iff.1 hk with hk|hk
    ·rw[if_pos hk]at q1
     obtain⟨id,o,cs,hle,_,rfl,_⟩:=LH q1
     exact⟨_,_,⟨yF (fun cH hid=>(EC _ _ _ hle cH hid).symm) _ _ q2,rfl,rfl⟩,by rw[if_pos hk];exact q1,rfl,rfl⟩
    ·exact⟨_,_,⟨Fo hk _ _ _ q2,rfl,rfl⟩,q1,rfl,rfl⟩
   ·cases hk
   ·cases hk
   ·cases hk
   ·cases hk
   -- pz, looks
   ·obtain⟨f1,f2,f3,q1⟩:=h1
    obtain⟨o,rfl,_,q3⟩:=E5 ki f3 q1
    obtain⟨q2,rfl,rfl⟩:=h2
    exact⟨_,_,⟨yF (fun id hid=>(EC _ _ _ (Nat.le_add_right _ _) id hid).symm) _ _ q2,rfl,rfl⟩,f1,f2,f3,q1⟩
   -- pz, bI
   ·obtain⟨f1,f2,f3,q1⟩:=h1
    obtain⟨o,rfl,uy,q3⟩:=E5 ki f3 q1
    obtain⟨g1,g2,g3,q2⟩:=h2
    obtain⟨o',rfl,rfl,q4⟩:=BN kj q2
    simp only[fY,bne_iff_ne,ne_eq,Bool.not_eq_true',List.contains_eq_mem,decide_eq_false_iff_not]at hk
    have cR:N+kU fr ops i≠N+kU fr ops j:=by omega
    rw[pW cR.symm]at g1
    have hq:=q3 (H.set (N+kU fr ops j) o') fun id hid=>(pW (fun e=>by
     rcases hid with hid|hid
     ·omega
     ·rw[e,Nat.add_sub_cancel_left]at hid;exact hk.2 hid)).symm
    refine⟨_,_,⟨g1,fun p hp=>g2 p (uy.1 p hp),g3,q4 _ _⟩,by rw[pW cR];exact f1,f2,f3,?_⟩
    rw[List.set_comm _ _ cR]
    exact hq
   ·cases hk
   ·cases hk
   ·cases hk
   -- writes a map, looks
   ·obtain⟨q1,rfl⟩:=h1
    obtain⟨q2,rfl,rfl⟩:=h2
    exact⟨_,_,⟨Fo hk _ _ _ q2,rfl,rfl⟩,q1,rfl⟩
   ·cases hk
   ·cases hk
   ·cases hk
   ·cases hk
theorem jdt{i j:Nat}{oi oj:Oper}(hi:ops[i]? =some oi)(hj:ops[j]? =some oj)(Qa:oi.apart ops.toArray oj=true)(hk:Ef fr ops i j oi oj=true){σ σ1 σ2:St}(h1:Eg P fr ops N i σ σ1)(h2:Eg P fr ops N j σ1 σ2):∃σ3,Eg P fr ops N j σ σ3∧Eg P fr ops N i σ3 σ2:=by
 obtain⟨p1,p2,p3⟩:=Oper.apart_spec Qa
 obtain⟨o,bi,xi,H1,Nz,e1,g1,h1,rfl⟩:=h1
 rw[hi]at e1;cases e1
 obtain⟨o,bj,xj,H2,su,e2,g2,h2,rfl⟩:=h2
 rw[hj]at e2;cases e2
 simp only at g2 h2 ⊢
 rw[SI p1]at g2
 have c1:∀(y:Operand),y∈oj.op.operands→bu (σ.τ.put oi.dst xi) y=bu σ.τ y:=fun y hy=>RO fun t ht e=>p1 t ht (RL (e▸hy))
 have c2:∀(y:Operand),y∈oi.op.operands→bu (σ.τ.put oj.dst xj) y=bu σ.τ y:=fun y hy=>RO fun t ht e=>p3 t ht (RL (e▸hy))
 have conv:∀(k:Nat) (o:Oper) (b:Bool) (ρ ρ':Operand→AV) (H:av) (sh:List (Nat × Nat)) (x:AV) (H':av) (sh':List (Nat × Nat)),(∀y∈o.op.operands,ρ y=ρ' y)→qW P fr ops N k o b ρ H sh x H' sh'→qW P fr ops N k o b ρ' H sh x H' sh':=by
  intro k o b ρ ρ' H sh x H' sh' h he
  unfold qW at he ⊢
  rw[IX (P:=P) (fun y hy=>(h y hy).symm),RN (P:=P) (fun y hy=>(h y hy).symm),RM (P:=P) (fun y hy=>(h y hy).symm),IW (P:=P) (fun y hy=>(h y hy).symm),zyf (fun y hy=>(h y hy).symm)]
  exact he
 obtain⟨H3,FR,q1,q2⟩:=jkt hk h1 (conv _ _ _ _ _ _ _ _ _ _ c1 h2)
 refine⟨⟨σ.τ.put oj.dst xj,H3,FR⟩,⟨oj,bj,xj,H3,FR,hj,g2,q1,rfl⟩,oi,bi,xi,H2,su,hi,?_,conv _ _ _ _ _ _ _ _ _ _ (fun y hy=>(c2 y hy).symm) q2,?_⟩
 ·simp only
  rw[SI p3];exact g1
 ·simp only
  rw[jks p2]
def oI(ops:List Oper)(j i:Nat):Bool:=
 match ops[j]? with
 |none=>false
 |some oj=>oj.after.any (fun e=>Region.binds .any e&&e.on==i)||oj.after.any fun e=>Region.binds .any e&&match ops[e.on]? with
  |some ok=>ok.after.any fun e'=>Region.binds .any e'&&e'.on==i
  |none=>false
def iu(ops:List Oper)(listed:Array Bool):Prop:=∀(k:Nat) (o:Oper),ops[k]? =some o→listed.getD k false=true→∀e∈o.after,Region.binds .any e=true→listed.getD e.on false=true
theorem MJ{listed:Array Bool}{k:Nat}(h:listed.getD k false=true):listed.getD k true=true:=by
 by_cases hk:k<listed.size
 ·simp only[Array.getD,dif_pos hk]at h ⊢;exact h
 ·simp[Array.getD,hk]at h
theorem iu.set{listed:Array Bool}(h:iu ops listed){j:Nat}(hj:j∈Region.ready .any ops.toArray listed):iu ops (listed.setIfInBounds j true):=by
 obtain⟨_,oj,zg,cV⟩:=mem_ready.1 hj
 intro k o ho hk e he hb
 by_cases hkj:j=k
 ·subst hkj
  rw[List.getElem?_toArray,ho]at zg
  cases zg
  exact getD_set_true (cV e he hb)
 ·rw[getD_set_ne false hkj]at hk
  exact getD_set_true (h k o ho hk e he hb)
theorem jku{listed:Array Bool}(hc:iu ops listed){i j:Nat}(hi:listed.getD i true=false)(hj:j∈Region.ready .any ops.toArray listed):oI ops j i=false:=by
 obtain⟨_,oj,zg,cV⟩:=mem_ready.1 hj
 rw[List.getElem?_toArray]at zg
 have gq:listed.getD i false=true→False:=fun h=>by rw[MJ h]at hi;cases hi
 cases hw:oI ops j i with
 |false=>rfl
 |true=>
  exfalso
  unfold oI at hw
  rw[zg]at hw
  simp only[Bool.or_eq_true,Array.any_eq_true',fY,beq_iff_eq]at hw
  rcases hw with⟨e,he,hb,PC⟩|⟨e,he,hb,hw⟩
  ·exact gq (PC▸cV e he hb)
  ·split at hw
   ·rename_i ok l9
    simp only[Array.any_eq_true',fY,beq_iff_eq]at hw
    obtain⟨e',P2,ig,PC⟩:=hw
    exact gq (PC▸hc _ ok l9 (cV e he hb) e' P2 ig)
   ·cases hw
theorem SC{K:St→Prop}{i:Nat}{oi:Oper}(hi:ops[i]? =some oi):
  ∀(fuel:Nat) (listed:Array Bool) (σ σ1:St),iu ops listed→(∀j oj,ops[j]? =some oj→j≠i→listed.getD j true=false→oI ops j i=false→oi.apart ops.toArray oj=true∧Ef fr ops i j oi oj=true)→
   i∈Region.ready .any ops.toArray listed→Eg P fr ops N i σ σ1→DJ P fr ops N K fuel (listed.setIfInBounds i true) σ1→DJ P fr ops N K (fuel+1) listed σ:=by
 intro fuel
 induction fuel with
 |zero=>
  intro listed σ σ1 fT eg hr h1 H
  refine⟨fun h=>(by rw[h]at hr;cases hr),fun j hj=>?_⟩
  by_cases mK:j=i
  ·subst mK;exact⟨σ1,h1,H⟩
  ·have:=ready_mono hj mK
   rw[H.1]at this
   cases this
 |succ fuel ih=>
  intro listed σ σ1 fT eg hr h1 H
  refine⟨fun h=>(by rw[h]at hr;cases hr),fun j hj=>?_⟩
  by_cases mK:j=i
  ·subst mK;exact⟨σ1,h1,H⟩
  ·obtain⟨σ2,h2,H2⟩:=H.2 j (ready_mono hj mK)
   obtain⟨Hk,oj,zg,_⟩:=mem_ready.1 hj
   rw[List.getElem?_toArray]at zg
   have PW:=(mem_ready.1 hr).1
   obtain⟨Qa,hk⟩:=eg j oj zg mK Hk (jku fT PW hj)
   obtain⟨σ3,h3,h4⟩:=jdt hi zg Qa hk h1 h2
   refine⟨σ3,h3,ih (listed.setIfInBounds j true) σ3 σ2 (fT.set hj) (fun k ok hk hki Cl gq=>eg k ok hk hki ?_ gq) (ready_mono hr (Ne.symm mK)) h4 ?_⟩
   ·by_cases hjk:j=k
    ·subst hjk;exact Hk
    ·rw[getD_set_ne true hjk]at Cl;exact Cl
   ·rw[Array.setIfInBounds_comm _ _ mK];exact H2
def Zf(fr:List FuncId)(ops:List Oper)(listed:Array Bool)(i:Nat):Bool:=
 match ops[i]? with
 |none=>false
 |some oi=>(List.range ops.length).all fun j=>j==i||listed.getD j true||oI ops j i||match ops[j]? with
  |some oj=>oi.apart ops.toArray oj&&Ef fr ops i j oi oj
  |none=>true
def yY(fr:List FuncId)(ops:List Oper):Nat→Nat→Array Bool→Bool
 |0,_,listed=>(Region.ready .any ops.toArray listed).isEmpty
 |fuel+1,k,listed=>(Region.ready .any ops.toArray listed).contains k&&Zf fr ops listed k&&yY fr ops fuel (k+1) (listed.setIfInBounds k true)
def DI(P:Program)(fr:List FuncId)(ops:List Oper)(N:Nat):Nat→List Oper→Fr→av→List (Nat × Nat)→(Fr→av→List (Nat × Nat)→Prop)→Prop
 |_,[],τ,H,sh,K=>K τ H sh
 |i,o::l,τ,H,sh,K=>∃b,lO ops τ o=some b∧(b=true→∃x H' sh',qW P fr ops N i o true (bu τ) H sh x H' sh'∧DI P fr ops N (i+1) l (τ.put o.dst x) H' sh' K)∧(b=false→DI P fr ops N (i+1) l (τ.put o.dst (.d (.val undef))) H sh K)
theorem Q2{K:Fr→av→List (Nat × Nat)→Prop}:∀(l:List Oper) (k:Nat) (listed:Array Bool) (τ:Fr) (H:av) (sh:List (Nat × Nat)),(∀j,l[j]? =ops[k+j]?)→iu ops listed→yY fr ops l.length k listed=true→DI P fr ops N k l τ H sh K→
  DJ P fr ops N (fun σ=>K σ.τ σ.H σ.sh) l.length listed ⟨τ,H,sh⟩
 |[],_,_,_,_,_,_,_,hB,h=>⟨by simpa[yY]using hB,h⟩
 |o::l,k,listed,τ,H,sh,hl,fT,hB,h=>by
  have h0:ops[k]? =some o:=by simpa using(hl 0).symm
  simp only[List.length_cons,yY,fY]at hB
  obtain⟨⟨hr,hf⟩,hB'⟩:=hB
  have GY:k∈Region.ready .any ops.toArray listed:=by simpa using hr
  have eg:∀j oj,ops[j]? =some oj→j≠k→listed.getD j true=false→oI ops j k=false→o.apart ops.toArray oj=true∧Ef fr ops k j o oj=true:=by
   intro j oj hj cR Cl gq
   unfold Zf at hf
   rw[h0]at hf
   simp only[kB,tv]at hf
   have h1:=hf j (ew.1 hj).1
   simp only[hj,Bool.or_eq_true,beq_iff_eq,cR,false_or,Cl,Bool.false_eq_true,gq,fY]at h1
   exact h1
  obtain⟨b,hg,ht,hfa⟩:=h
  have kc:∀τ' H' sh',DI P fr ops N (k+1) l τ' H' sh' K→DJ P fr ops N (fun σ=>K σ.τ σ.H σ.sh) l.length (listed.setIfInBounds k true) ⟨τ',H',sh'⟩:=fun τ' H' sh' hh=>
   Q2 l (k+1) _ τ' H' sh' (fun j=>by have:=hl (j+1);simpa[Nat.add_assoc,Nat.add_comm 1 j]using this) (fT.set GY) hB' hh
  cases b with
  |true=>
   obtain⟨x,H',sh',he,hh⟩:=ht rfl
   exact SC h0 _ _ _ _ fT eg GY ⟨o,true,x,H',sh',h0,hg,he,rfl⟩ (kc _ _ _ hh)
  |false=>exact SC h0 _ _ _ _ fT eg GY ⟨o,false,_,H,sh,h0,hg,by simp only[qW,Bool.false_eq_true,if_false];exact⟨trivial,trivial,trivial⟩,rfl⟩ (kc _ _ _ (hfa rfl))
def dK:List (Nat × Nat)→av→av
 |[],H=>H
 |p::l,H=>dK l (H.set p.2 .dead)
theorem R.dK:∀(l sh:List (Nat × Nat)) (H:av),(∀p∈sh,p∈l)→R c τ H sh a w→R c τ (dK l H) [] a w
 |[],sh,H,hs,hR=>by
  have:sh=[]:=List.eq_nil_iff_forall_not_mem.2 fun p hp=>by cases hs p hp
  subst this;exact hR
 |p::l,sh,H,hs,⟨pl,hR⟩=>by
  refine R.dK l (sh.filter fun q=>decide (q.1≠p.2)&&decide (q.2≠p.2)) _ (fun q hq=>?_) ⟨pl,hR.kill p.2 (fun i j hm h1 h2=>?_) (fun q hq=>?_)⟩
  ·obtain⟨h1,h2⟩:=List.mem_filter.1 hq
   simp only[fY,mZ]at h2
   rcases List.mem_cons.1 (hs q h1)with h|h
   ·subst h;exact absurd rfl h2.2
   ·exact h
  ·exact List.mem_filter.2 ⟨hm,by simp[h1,h2]⟩
  ·exact(List.mem_filter.1 hq).1
theorem R.eV:∀(n:Nat) (H:av),R c τ H sh a w→R c τ (H++List.replicate n .free) sh a w
 |0,H,hR=>by simpa using hR
 |n+1,H,⟨pl,hR⟩=>by
  have:=R.eV n (H++[.free]) ⟨_,hR.eV⟩
  rwa[List.append_assoc,List.singleton_append,←List.replicate_succ]at this
theorem Q1{Q:Exit→Fr→av→Prop}{id:Nat}(fr:List FuncId)(hm:P.follows .mixedOrders=true)(hd:pU c.nt ops=true)(hB:yY fr ops ops.length 0 (Array.replicate ops.length false)=true)
  (h:DI P fr ops H.length 0 ops τ (H++List.replicate (ops.countP (bI fr)) .free) [] fun τ' H' sh'=>Q .normal τ' (dK sh' H')):ei P c (.region id ops.toArray true) Q τ H:=fun a w hR=>by
 refine wpIn_region_any hm ?_
 have CH:R c τ (H++List.replicate (ops.countP (bI fr)) .free) [] a {w with drawn:=w.drawn+1}:=R.eV _ _ (by obtain⟨pl,h⟩:=hR;exact⟨pl,h.drew⟩)
 have hA:=Q2 (P:=P) (N:=H.length) ops 0 (Array.replicate ops.length false) τ _ [] (fun j=>by simp) (fun k o ho hk=>by
  have aA:=(ew.1 ho).1
  simp[Array.getD,aA]at hk) hB h
 have:=SJ (c:=c) hd (K:=fun σ=>Q .normal σ.τ (dK σ.sh σ.H)) (Q:=fun e a' w'=>∃τ' H',R c τ' H' [] a' w'∧Q e τ' H') (fun σ a' w' hk hr=>⟨_,_,R.dK σ.sh σ.sh _ (fun p hp=>hp) hr,hk⟩) ops.length _ _ _ _ hA CH
 simpa using this
end
end
section
def aF:List (Nat × AV)→Fr
 |[]=>fun _=>.any
 |(d,x)::l=>fun t=>if t=d then x else aF l t
theorem Dh(d t:Nat)(x:AV)(l:List (Nat × AV)):aF ((d,x)::l) t=if t=d then x else aF l t:=rfl
theorem jfs(d:Nat)(x:AV)(l:List (Nat × AV)):(aF l).put (some d) x=aF ((d,x)::l):=rfl
theorem Q0(x:AV)(τ:Fr):τ.put none x=τ:=rfl
theorem RK(τ:Fr)(t:Nat):bu τ (.tmp t)=τ t:=rfl
theorem SW(τ:Fr)(v:Value):bu τ (.const v)= .d (.val v):=rfl
theorem SB(τ:Fr)(f:FuncId):bu τ (.func f)= .d (.val (.func (.func f) #[] #[])):=rfl
def fw(τ τ':Fr):Prop:=∀t,τ' t= .any∨τ' t=τ t
section
variable {P:Program} {c:Cx} {τ τ':Fr} {a:Act} {w:World} {H:av} {sh:List (Nat × Nat)} {Q:Exit→Fr→av→Prop}
theorem R.less(h:fw τ τ')(hR:R c τ H sh a w):R c τ' H sh a w:=by
 obtain⟨pl,h1⟩:=hR
 refine⟨pl,h1.h,h1.lR,h1.js,h1.ext,fun t=>?_,h1.size,h1.defs,h1.keep⟩
 rcases h t with h|h
 ·rw[h];exact .any _
 ·rw[h];exact h1.fr t
theorem dY{x:Code}(h:fw τ τ')(hx:ei P c x Q τ' H):ei P c x Q τ H:=fun a w hR=>hx a w (hR.less h)
theorem cw(τ:Fr):fw τ (aF []):=fun _=>.inl rfl
theorem cg{d:Nat}{x:AV}{l:List (Nat × AV)}(h:fw τ (aF l))(hx:τ d=x):fw τ (aF ((d,x)::l)):=fun t=>by
 rw[Dh]
 split
 ·rename_i e;subst e;exact .inr hx.symm
 ·exact h t
theorem jft{fr:List FuncId}{sm:List Nat}(fK:Kp c sm){id:Nat}{l:List Oper}{y:Code}{n:Nat}(hn:c.nt=n)(hd:pU n l=true)(h:∀K:Fr→av→Prop,(∀τ H,ei P c y Q τ H→K τ H)→Cg P fr sm l l τ H K):ei P c (.seq (.region id l.toArray false) y) Q τ H:=
 Iy (SK (fr:=fr) fK (hn▸hd) (h _ fun _ _ h=>h))
theorem yeb{fr:List FuncId}{sm:List Nat}(fK:Kp c sm){id:Nat}{l:List Oper}{n:Nat}(hn:c.nt=n)(hd:pU n l=true)(h:∀K:Fr→av→Prop,(∀τ H,Q .normal τ H→K τ H)→Cg P fr sm l l τ H K):ei P c (.region id l.toArray false) Q τ H:=
 SK (fr:=fr) fK (hn▸hd) (h _ fun _ _ h=>h)
theorem aD{x y:Code}(h:∀K:Fr→av→Prop,(∀τ H,ei P c y Q τ H→K τ H)→ei P c x (cC K Q) τ H):ei P c (.seq x y) Q τ H:=Iy (h _ fun _ _ h=>h)
end
section
variable {P:Program} {fr:List FuncId} {ops l:List Oper} {τ:Fr} {H:av} {sh:List (Nat × Nat)} {N i:Nat} {d:Option Tmp} {op:Op} {ty:TypeId} {pos:String} {af:Array Edge}
end
end
end Go.Proofs.YtapjobndmmkanaaGreat
