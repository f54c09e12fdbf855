/- Of no program: every operation of the abstract machine, carried out. -/
import Derived.Test.YtfolbdkbpmgjgaaAN
import Derived.Laws.StructEq
import Derived.Still
set_option linter.unusedVariables false
set_option linter.unusedSimpArgs false
namespace Go.Proofs.Ytfolbdkbpmgjgaa
open Go Go.RowKit
section
section
variable {P:Program} {c:Cx} {τ:Fr} {a:Act} {w w':World} {pl pl':List (Option (Nat × Nat))} {H H':zaa} {sh sh':List (Nat × Nat)} {own:Nat→Prop}
theorem zmz{t e:TypeId}(hu:P.underlying t=some (.slice e))(ad:Addr)(n n' c c':Nat)(x y:Operand){op:BinOp}(hop:op= .eql∨op= .neq):(do eqGuard op t x y (.slice (some ad) n c) (.slice none n' c');binOp op t (.slice (some ad) n c) (.slice none n' c'):Sem Value).run P w= .ok (.bool (op== .neq)) w:=by
 have h:(Op.equal t (.slice (some ad) n c) (.slice none n' c')).run P w= .ok false w:=zga (by unfold zfq;rw[hu]) _ _ _ _ _ w
 rw[Sem.run_bind,zgq]
 rcases hop with rfl|rfl<;>simp[binOp,h]
theorem zuk{t e:TypeId}(hu:P.underlying t=some (.pointer e))(ad:Addr)(x y:Operand){op:BinOp}(hop:op= .eql∨op= .neq):(do eqGuard op t x y (.pointer (some ad)) (.pointer none);binOp op t (.pointer (some ad)) (.pointer none):Sem Value).run P w= .ok (.bool (op== .neq)) w:=by
 have h:(Op.equalIn (9999+1) t (.pointer (some ad)) (.pointer none)).run P w= .ok false w:=by
  unfold Op.equalIn;simp[run_underlying hu]
 have h:(Op.equal t (.pointer (some ad)) (.pointer none)).run P w= .ok false w:=h
 have hg:(eqGuard op t x y (.pointer (some ad)) (.pointer none)).run P w= .ok () w:=by
  unfold eqGuard;split<;>simp
 rw[Sem.run_bind,hg]
 rcases hop with rfl|rfl<;>simp[binOp,h]
theorem jet{t k e:TypeId}(hu:P.underlying t=some (.map k e))(b:Nat)(x y:Operand){op:BinOp}(hop:op= .eql∨op= .neq):(do eqGuard op t x y (.map (some b)) (.map none);binOp op t (.map (some b)) (.map none):Sem Value).run P w= .ok (.bool (op== .neq)) w:=by
 have h:(Op.equalIn (9999+1) t (.map (some b)) (.map none)).run P w= .ok false w:=by
  unfold Op.equalIn;simp[run_underlying hu]
 have h:(Op.equal t (.map (some b)) (.map none)).run P w= .ok false w:=h
 have hg:(eqGuard op t x y (.map (some b)) (.map none)).run P w= .ok () w:=by
  unfold eqGuard;split<;>simp
 rw[Sem.run_bind,hg]
 rcases hop with rfl|rfl<;>simp[binOp,h]
theorem zou(w:World)(l m:List Value):∀(fs:List Field) (d:Nat) {b:Bool},fs.all (joo P)=true→ziz l m (fs.map (jnw P))=some b→(Op.eqFields (d+1) l.toArray m.toArray fs).run P w= .ok b w
 |[],d,b,_,h=>by cases h;rfl
 |f::fs,d,b,ha,h=>by
  simp only[List.all_cons,Bool.and_eq_true]at ha
  obtain⟨h1,h2⟩:=ha
  simp only[joo,Bool.and_eq_true,decide_eq_true_eq]at h1
  obtain⟨hn,hu⟩:=h1
  have hag:∀u,P.underlying f.type=some u→(∀fs,u≠ .struct fs)→(∀n e,u≠ .array n e)→agO P f.type=some false:=fun u hu h1 h2=>by
   unfold agO;rw[hu]
   cases u<;>first|rfl|exact absurd rfl (h1 _)|exact absurd rfl (h2 _ _)
  have part_ok:∀(l:List Value) (v:Value),agO P f.type=some false→l[f.offset]? =some v→(part f.type l.toArray f.offset).run P w= .ok v w:=fun l v hg hx=>by
   unfold part
   simp only[Sem.run_bind,zoj hg,Result.andThen_ok]
   rw[if_neg (by decide),List.getElem?_toArray,hx];rfl
  cases hk:jiz P f with
  |none=>rw[hk]at hu;cases hu
  |some kb=>
   have hfo:jnw P f=(f.offset,kb):=by unfold jnw;rw[hk];rfl
   rw[List.map_cons,hfo]at h
   cases kb with
   |false=>
    obtain⟨k0,hk0⟩:∃k0,P.underlying f.type=some (.int k0):=by
     unfold jiz at hk
     split at hk
     ·rename_i k0 e;exact⟨k0,e⟩
     ·cases hk
     ·cases hk
    have hg:=hag _ hk0 (fun _ e=>by cases e) (fun _ _ e=>by cases e)
    simp only[ziz]at h
    split at h
    ·rename_i k x k' y hx hy
     split at h
     ·rename_i e
      subst e
      obtain⟨r,hr,rfl⟩:=Option.map_eq_some_iff.1 h
      unfold Op.eqFields
      rw[if_pos hn]
      simp only[Sem.run_bind,part_ok l _ hg hx,part_ok m _ hg hy,Result.andThen_ok,run_equalIn_int w d f.type k k0 x y hk0]
      cases hxy:x==y
      ·simp
      ·simp only[Bool.not_true,Bool.false_eq_true,if_false,Bool.true_and]
       exact zou w l m fs d h2 hr
     ·cases h
    ·cases h
   |true=>
    have hk0:P.underlying f.type=some .bool:=by
     unfold jiz at hk
     split at hk
     ·cases hk
     ·rename_i e;exact e
     ·cases hk
    have hg:=hag _ hk0 (fun _ e=>by cases e) (fun _ _ e=>by cases e)
    simp only[ziz]at h
    split at h
    ·rename_i x y hx hy
     obtain⟨r,hr,rfl⟩:=Option.map_eq_some_iff.1 h
     unfold Op.eqFields
     rw[if_pos hn]
     simp only[Sem.run_bind,part_ok l _ hg hx,part_ok m _ hg hy,Result.andThen_ok,run_equalIn_bool' w d f.type x y hk0]
     cases hxy:x==y
     ·simp
     ·simp only[Bool.not_true,Bool.false_eq_true,if_false,Bool.true_and]
      exact zou w l m fs d h2 hr
    ·cases h
theorem zul{y:AV}{l:List Value}{u:Value}(h:jnx y=some l)(hy:Rd w pl own y u):u= .agg l.toArray:=by
 refine ziw ?_ hy
 unfold jnx at h
 split at h
 ·simp only[zqa,h,Option.map_some]
 ·simp only[zqa,h,Option.map_some]
 ·cases h
theorem zqe{op:BinOp}{t:TypeId}{y z:Operand}{ay az:AV}{u v:Value}{b:Bool}(hb:jny P t ay az=some b)(hy:Rd w pl own ay u)(hz:Rd w pl own az v)(hop:op= .eql∨op= .neq):
  (do eqGuard op t y z u v;binOp op t u v:Sem Value).run P w= .ok (.bool (if op= .eql then b else !b)) w:=by
 unfold jny at hb
 obtain⟨os,hos,hb⟩:=Option.bind_eq_some_iff.1 hb
 obtain⟨l,hl,hb⟩:=Option.bind_eq_some_iff.1 hb
 obtain⟨m,hm,hb⟩:=Option.bind_eq_some_iff.1 hb
 rw[zul hl hy,zul hm hz]
 unfold jop at hos
 split at hos
 ·rename_i fs hfs
  split at hos
  ·rename_i hc
   simp only[Bool.and_eq_true,Bool.not_eq_true']at hc
   obtain⟨c1,c2,c3⟩:=hc
   cases hos
   have hF:P.fieldsOf t=fs:=by unfold Program.fieldsOf;rw[hfs]
   have hq:=run_equalIn_struct w 9999 t l.toArray m.toArray (by rw[hF,hfs]) c1
   rw[hF,zou w l m fs.toList 9998 c3 hb]at hq
   rw[Sem.run_bind,run_eqGuard_agg w op t y z _ _ c2]
   rcases hop with rfl|rfl
   ·have h2:=run_eql_struct (P:=P) w t l.toArray m.toArray
    rw[hq]at h2
    exact h2
   ·have h2:=run_neq_struct (P:=P) w t l.toArray m.toArray
    rw[hq]at h2
    exact h2
  ·cases hos
 ·cases hos
theorem zqf{op:BinOp}{t:TypeId}{y z:Operand}{b:Bool}(hn:ziy P t (zap τ y) (zap τ z)=true)(hop:op= .eql∨op= .neq)(hb:b=(op== .neq))(hy:Rd w pl own (zap τ y) (a.eval y))(hz:Rd w pl own (zap τ z) (a.eval z)):
  (do eqGuard op t y z (a.eval y) (a.eval z);binOp op t (a.eval y) (a.eval z):Sem Value).run P w= .ok (.bool b) w:=by
 subst hb
 unfold ziy at hn
 generalize a.eval y=u at hy ⊢
 generalize a.eval z=v at hz ⊢
 generalize zap τ y=ay at hn hy
 generalize zap τ z=az at hn hz
 split at hn
 ·rename_i hu
  cases hy with|d _ _ hy=>cases hz with|d _ _ hz=>
  cases hz
  cases hy with|fs cs n cap b0 off f=>exact zmz hu _ _ _ _ _ y z hop
 ·rename_i hu
  cases hz with|d _ _ hz=>
  cases hz
  cases hy with|os k id off n cap b0 base sz tt=>exact zmz hu _ _ _ _ _ y z hop
 ·rename_i hu
  cases hz with|d _ _ hz=>
  cases hz
  cases hy with|op id off b0 base=>exact zuk hu _ y z hop
 ·rename_i hu
  cases hy with|d _ _ hy=>cases hz with|d _ _ hz=>
  cases hz
  cases hy with|fp cs i b0 off f=>exact zuk hu _ y z hop
 ·rename_i hu
  cases hz with|d _ _ hz=>
  cases hz
  cases hy with|om id b0 base=>exact jet hu _ y z hop
 ·cases hn
theorem zzn{op:BinOp}{t:TypeId}{y z:Operand}{b:Bool}(hb:ji0 P op t (zap τ y) (zap τ z)=some b)(hy:Rd w pl own (zap τ y) (a.eval y))(hz:Rd w pl own (zap τ z) (a.eval z)):
  (do eqGuard op t y z (a.eval y) (a.eval z);binOp op t (a.eval y) (a.eval z):Sem Value).run P w= .ok (.bool b) w:=by
 unfold ji0 at hb
 split at hb
 ·split at hb
  ·rename_i hn;cases hb;exact zqf hn (.inl rfl) rfl hy hz
  ·exact zqe (op:=.eql) hb hy hz (.inl rfl)
 ·split at hb
  ·rename_i hn;cases hb;exact zqf hn (.inr rfl) rfl hy hz
  ·obtain⟨r,hr,rfl⟩:=Option.map_eq_some_iff.1 hb
   exact zqe (op:=.neq) hr hy hz (.inr rfl)
 ·cases hb
theorem zgv(h:RelS c τ H sh pl a w){o:Oper}{N0:Nat}{x:AV}(hq:OpQ P N0 H (zap τ) o.op x){K:Act→World→Prop}{Q:Exit→Act→World→Prop}
  (hK:∀v w',RelS c τ H sh pl a w'→Rd w' pl (za4 c.E H pl) x v→K (a.put o.dst v) w'):o.wp P a w K Q:=by
 have done:∀v,(execOp a.eval o).run P w= .ok (.value v) w→Rd w pl (za4 c.E H pl) x v→o.wp P a w K Q:=fun v hr hx=>zen hr (hK v w h hx)
 obtain⟨dst,op,ty,pos,after,guard⟩:=o
 simp only at hq hK done
 unfold OpQ at hq
 split at hq
 ·subst hq;exact done _ rfl (h.eval _)
 ·subst hq;exact done _ rfl (h.eval _)
 ·rename_i cc aa bb
  obtain⟨t,ht,rfl⟩:=hq
  have hb:=h.eval cc
  rw[ht]at hb
  have hbv:a.eval cc= .bool t:=by
   generalize a.eval cc=z at hb ⊢
   cases hb with|d _ _ hb=>cases hb;rfl
  refine done (if t then a.eval aa else a.eval bb) (by simp[execOp,hbv,asBool]) ?_
  cases t
  ·exact h.eval bb
  ·exact h.eval aa
 ·obtain⟨u,h1,h2⟩:=hq.run h.h (h.eval _)
  exact done u (by simp[execOp,h1]) h2
 ·obtain⟨u,h1,h2⟩:=hq.run (h.eval _)
  exact done u (by simp[execOp,h1]) h2
 ·obtain⟨u,h1,h2⟩:=hq.run (h.eval _)
  exact done u (by simp[execOp,h1]) h2
 ·obtain⟨u,h1,h2⟩:=hq.run (h.eval _) (h.eval _)
  exact done u (by simp[execOp,h1]) h2
 ·obtain⟨u,h1,h2⟩:=hq.run (h.eval _) (h.eval _)
  exact done u (by simp[execOp,h1]) h2
 ·rename_i t p lo hi
  have ev:∀(z:Option Operand) (y:AV),z.map (zap τ)=some y→∃v,z.map a.eval=some v∧Rd w pl (za4 c.E H pl) y v:=fun z y hz=>by
   obtain⟨b,rfl,rfl⟩:=Option.map_eq_some_iff.1 hz
   exact⟨_,rfl,h.eval b⟩
  have ev0:∀(z:Option Operand),z.map (zap τ)=none→z.map a.eval=none:=fun z hz=>by
   cases z<;>simp_all
  obtain⟨u,h1,h2⟩:=hq.run h.h (h.eval p) (ev lo) (ev0 lo) (ev hi) (ev0 hi)
  exact done u (by simp[execOp,h1]) h2
 ·rename_i op t y z t'
  rcases hq with⟨u,v,r,hu,hv,hr,rfl⟩|⟨b,hb,rfl⟩
  case inr=>
   have hrun:=zzn (P:=P) hb (h.eval y) (h.eval z)
   exact done _ (by simp only[execOp,Sem.run_bind]at hrun ⊢;rw[hrun];rfl) (.d _ _ (.val _))
  have h1:=h.eval y
  rw[hu]at h1
  have e1:a.eval y=u:=by generalize a.eval y=q at h1;cases h1 with|d _ _ h1=>cases h1;rfl
  have h2:=h.eval z
  rw[hv]at h2
  have e2:a.eval z=v:=by generalize a.eval z=q at h2;cases h2 with|d _ _ h2=>cases h2;rfl
  have hrun:=zzj (P:=P) hr y z w
  exact done r (by simp only[execOp,e1,e2,Sem.run_bind]at hrun ⊢;rw[hrun];rfl) (.d _ _ (.val _))
 ·rename_i op t y
  obtain⟨u,r,hu,hr,rfl⟩:=hq
  have h1:=h.eval y
  rw[hu]at h1
  have e1:a.eval y=u:=by generalize a.eval y=q at h1;cases h1 with|d _ _ h1=>cases h1;rfl
  exact done r (by simp[execOp,e1,jeq (P:=P) hr w]) (.d _ _ (.val _))
 ·rename_i s t y
  obtain⟨k,k',j,n,hu,hs,ht,rfl⟩:=hq
  have h1:=h.eval y
  rw[hu]at h1
  have e1:a.eval y= .int j n:=zdi h1
  exact done _ (by simp[execOp,e1,zt5 hs ht]) (.d _ _ (.val _))
 ·rename_i t parts
  obtain⟨u,h1,h2⟩:=hq.run (w:=w) (pl:=pl) (own:=za4 c.E H pl) (vparts:=parts.map fun p=>(p.1,a.eval p.2)) (by simp) (fun j i x hj=>by
   rw[List.getElem?_map,Option.map_eq_some_iff]at hj
   obtain⟨q,hq,he⟩:=hj
   cases he
   exact⟨a.eval q.2,by rw[Array.toList_map,List.getElem?_map,hq];rfl,h.eval q.2⟩)
  exact done u (by simp only[execOp,Sem.run_bind,h1];rfl) h2
 ·rename_i t i
  obtain⟨vs,hv,hi⟩:=hq
  have h1:=h.eval t
  rw[hv]at h1
  generalize ht:a.eval t=q at h1
  cases h1 with
  |tup _ us hl hx=>
   have hlt:=(List.getElem?_eq_some_iff.1 hi).1
   have e:us[i]? =some (us.getD i undef):=by rw[Array.getElem?_eq_getElem (by omega)];simp[Array.getD,hl,hlt]
   have hx':=hx i x hi
   generalize us.getD i undef=u0 at e hx'
   exact done u0 (by simp[execOp,ht,Instr.extract,e]) hx'
 ·rename_i y
  obtain⟨hm,rfl⟩:=hq
  have h1:=h.eval y
  refine done (a.eval y) ?_ h1
  split at hm
  ·rename_i e;rw[e]at h1
   generalize hy:a.eval y=q at h1
   cases h1;simp[execOp,hy]
  ·rename_i e;rw[e]at h1
   generalize hy:a.eval y=q at h1
   cases h1 with|d _ _ h1=>cases h1;simp[execOp,hy]
  ·rename_i e;rw[e]at h1
   generalize hy:a.eval y=q at h1
   cases h1;simp[execOp,hy]
  ·exact hm.elim
 ·obtain⟨u,h1,h2⟩:=LookupQ.run hq h.h (h.eval _) (h.eval _)
  exact done u (by simp[execOp,h1]) h2
 ·rename_i fn fi ca
  subst hq
  have k1:=h.args fi
  have k2:=h.args ca
  exact done _ (by simp[execOp,Instr.makeFunc]) (.clo _ _ _ _ _ k1.1 k1.2 k2.1 k2.2)
 ·rename_i cl
  obtain⟨callee,args,ts⟩:=cl
  simp only at hq
  split at hq
  ·exact zor (o:=⟨dst,_,ty,pos,after,guard⟩) h rfl hq hK
  ·rename_i b
   obtain⟨v,h1,h2⟩:=zmx h hq ty (args.map fun| .const _=>true|_=>false)
   exact done v (by simp only[execOp,resolve,Sem.run_bind,Sem.run_pure,Result.andThen_ok,invoke];exact h1) h2
  ·exact hq.elim
 ·exact hq.elim

def SrcA(H:zaa)(s:Nat)(src:AV)(m:Nat)(l:List AV):Prop:=
 match src with
 | .d (.fs cs n)=>cs.length=n*s∧m=n∧l=cs.map .d
 | .os k id off n=>k=s∧∃cs,H[id]? =some (.cells cs)∧zck cs off (n*s)=some l∧m=n
 | .d (.val (.slice none 0 0))=>m=0∧l=[]
 |_=>False
theorem SrcA.src{s m:Nat}{x:AV}{l:List AV}(h:SrcA H s x m l):Src H s x m l:=by
 unfold SrcA at h
 split at h
 ·obtain⟨h1,rfl,rfl⟩:=h;exact .fs _ _ h1
 ·obtain⟨rfl,cs,h1,h2,rfl⟩:=h;exact .os _ _ _ cs _ h1 h2
 ·obtain⟨rfl,rfl⟩:=h;exact .nil
 ·exact h.elim
def zsp(P:Program)(t t':TypeId)(zs:List D)(bts:Nat)(H:zaa)(s:Nat)(src:AV)(m:Nat)(l:List AV):Prop:=
 (t'=t∧SrcA H s src m l)∨((zgs P t').isSome=true∧zs.all D.one=true∧1≤bts∧(∃k,src= .d (.val (.int k (m:Int))))∧l=zf2 m zs)
def jse(P:Program)(dr:Bool)(nid:Nat)(t t':TypeId)(base src:AV)(H:zaa)(sh:List (Nat × Nat))(x:AV)(H':zaa)(sh':List (Nat × Nat)):Prop:=
 ∃e s zs bts m l,elO P t=some (none,e,s)∧zcO P e=some zs∧zs.length=s∧byO P e=some bts∧zsp P t t' zs bts H s src m l∧
  match base with
  | .os k id off n=>∃cs,k=s∧H[id]? =some (.cells cs)∧off+n*s=cs.length∧n+m≤maxLen∧(n+m)*bts≤140737488355328∧x= .os s nid 0 (n+m)∧
    if dr then(∀p∈sh,p.2≠id)∧H'=H.set nid (.cells (cs.drop off++l))∧sh'=appSh sh id nid else sh=[]∧H'=(H.set nid (.cells (cs.drop off++l))).set id .dead∧sh'=[]
  | .d (.val (.slice none 0 0))=>m≤maxLen∧m*bts≤140737488355328∧x= .os s nid 0 m∧H'=H.set nid (.cells l)∧sh'=sh
  |_=>False
def OpA(P:Program)(dr:Bool)(nid:Nat)(ρ:Operand→AV)(op:Op)(H:zaa)(sh:List (Nat × Nat))(x:AV)(H':zaa)(sh':List (Nat × Nat)):Prop:=
 match op with
 | .box _ y=>∃cs,zb2 (ρ y)=some cs∧x= .op nid 0∧H'=H.set nid (.cells cs)∧sh'=sh
 | .alloc t=>∃zs,zcO P t=some zs∧zs.all D.one=true∧x= .op nid 0∧H'=H.set nid (.cells (zs.map .d))∧sh'=sh
 | .makeSlice t l cp=>∃(e:TypeId) (s:Nat) (zs:List D) (bts:Nat) (k1 k2:IntKind) (n m:Int),elO P t=some (none,e,s)∧zcO P e=some zs∧zs.length=s∧0<s∧zs.all D.one=true∧byO P e=some bts∧
   ρ l= .d (.val (.int k1 n))∧ρ cp= .d (.val (.int k2 m))∧0≤n∧n≤m∧m≤maxLen∧bts*m.toNat≤281474976710656∧
   (x= .os s nid 0 n.toNat∧H'=H.set nid (.cells (zf2 n.toNat zs))∨∃ds:List D,zf2 n.toNat zs=ds.map .d∧ds.length=n.toNat*s∧x= .d (.fs ds n.toNat)∧H'=H.set nid .dead)∧sh'=sh
 | .makeMap t hint=>(hint=none∨∃y k m,hint=some y∧ρ y= .d (.val (.int k m))∧(zml P t).isSome=true)∧x= .om nid∧H'=H.set nid (.map [] 0)∧sh'=sh
 | .buildSlice t len parts=>∃e s zs cs,elO P t=some (none,e,s)∧zcO P e=some zs∧zs.length=s∧0<s∧zs.all D.one=true∧len*s≤16777216∧zib (fun i=>some (i*s,s)) (zf2 len zs) (parts.toList.map fun p=>(p.1,ρ p.2))=some cs∧
   (x= .os s nid 0 len∧H'=H.set nid (.cells cs)∨∃ds:List D,cs=ds.map .d∧ds.length=len*s∧x= .d (.fs ds len)∧H'=H.set nid .dead)∧sh'=sh
 | .call c=>match c.callee with
  | .value f=>∃n fi ca ds r cs,zde (ρ f)=some (n,fi,ca)∧AV.toD.toDs (fi++c.args.toList.map ρ++ca)=some ds∧jix P n ds r cs∧x=r nid∧H'=H.set nid (.cells (cs.map .d))∧sh'=sh
  | .builtin .append=>match c.args.toList,c.argTypes.toList with
   |[s,y],[t,t']=>jse P dr nid t t' (ρ s) (ρ y) H sh x H' sh'
   |_,_=>False
  |_=>False
 |_=>False
theorem RelS.laid(h:RelS c τ H sh pl a w){n:Nat}(hn:H[n]? =some .free)(hsn:∀p∈sh,p.1≠n∧p.2≠n)(hb:Below w.heap.size w w'){p:Option (Nat × Nat)}(hp:∀q,p=some q→w.heap.size≤q.1){o:AObj}
  (ho:∀own',(∀b,own' b→za4 c.E H pl b∨∃k,p=some (b,k))→ObjAt w' (pl.set n p) own' n o):RelS c τ (H.set n o) sh (pl.set n p) a w'∧∀b,za4 c.E (H.set n o) (pl.set n p) b→za4 c.E H pl b∨∃k,p=some (b,k):=by
 have hp0:=h.h.free_place hn
 have hs:Stp (fun _=>False) w w':=⟨hb.os,hb.tape,hb.output,hb.size,fun b h _=>hb.block b h,fun b s hs=>(zbw (hb.block b (zfr hs))).trans hs⟩
 have hplace:=fun i oo p' h1 h2=>h.h.place (n:=n) (o:=o) (q:=p) i oo p' h1 h2
 have hown:∀b,za4 c.E (H.set n o) (pl.set n p) b→za4 c.E H pl b∨∃k,p=some (b,k):=fun b hb=>by
  rcases hb with hb|⟨i,oo,e,h1,h2,h3⟩
  ·exact .inl (.inl hb)
  ·rcases hplace i oo _ h1 h3 with⟨_,k1,k2⟩|⟨_,_,k⟩
   ·exact .inl (.inr ⟨i,oo,e,k1,h2,k2⟩)
   ·exact .inr ⟨e,k⟩
 have hlt:∀(id:Nat) (oo:AObj) (p:Nat × Nat),H[id]? =some oo→oo.live=true→pl[id]? =some (some p)→p.1<w.heap.size:=fun id oo p h1 h2 h3=>h.h.block_lt h1 h2 h3
 refine⟨h.step (hs.mono fun _ _ h=>h.elim) (zgu hp0) (fun b hb'=>?_) ⟨by simp[h.h.len],fun i oo hi=>?_,fun i j oi oj p1 q1 h1 h2 l1 l2 hne s1 s2 e1 e2=>?_,fun i oo p1 h1 l1 e1=>?_,fun p hp=>by have:=h.h.shl p hp;simpa using this,fun i j ci cj p1 q1 hm h1 h2 e1 e2 hpq=>?_⟩,hown⟩
 ·obtain⟨i,oo,e,h1,h2,h3⟩:=hb'
  rcases hplace i oo _ h1 h3 with⟨_,k1,k2⟩|⟨_,_,k⟩
  ·exact .inl ⟨i,oo,e,k1,h2,k2⟩
  ·exact .inr (hp _ k)
 ·rcases za2 hi with⟨rfl,rfl,_⟩|⟨hne,hi⟩
  ·exact ho _ hown
  ·refine(h.h.obj i oo hi).mono hb.size (fun b h _=>hb.block b h) (fun b hbl hb'=>?_) hs.shape (zgu hp0) (fun hh=>by rw[zcw hne];exact hh) (fun hl b e he=>hb.block b (hlt i oo _ hi hl he))
   rcases hown b hb' with h'|⟨k,h'⟩
   ·exact h'
   ·have:=hp _ h';simp only at this;omega
 ·rcases hplace i oi p1 h1 e1 with⟨_,a1,a2⟩|⟨a0,a1,a2⟩<;>rcases hplace j oj q1 h2 e2 with⟨_,b1,b2⟩|⟨b0,b1,b2⟩
  ·exact h.h.dis i j oi oj p1 q1 a1 b1 l1 l2 hne s1 s2 a2 b2
  ·have:=hlt i oi p1 a1 l1 a2;have:=hp _ b2;omega
  ·have:=hlt j oj q1 b1 l2 b2;have:=hp _ a2;omega
  ·omega
 ·rcases hplace i oo p1 h1 e1 with⟨_,a1,a2⟩|⟨a0,a1,a2⟩
  ·exact h.h.ext i oo p1 a1 l1 a2
  ·intro he;have:=h.lt _ he;have:=hp _ a2;omega
 ·rcases hplace i _ p1 h1 e1 with⟨_,a1,a2⟩|⟨a0,a1,a2⟩
  ·rcases hplace j _ q1 h2 e2 with⟨_,b1,b2⟩|⟨b0,b1,b2⟩
   ·exact h.h.shr i j ci cj p1 q1 hm a1 b1 a2 b2 hpq
   ·exact absurd b0 (hsn _ hm).2
  ·exact absurd a0 (hsn _ hm).1
theorem RelS.frozen(h:RelS c τ H sh pl a w){n:Nat}(hsn:∀p∈sh,p.1≠n∧p.2≠n){ds:List D}{s len:Nat}(hid:H[n]? =some (.cells (ds.map .d)))(hl:ds.length=len*s)(h0:0<s){v:Value}(hv:Rd w pl (za4 c.E H pl) (.os s n 0 len) v):
  RelS c τ (H.set n .dead) sh pl a w∧Rd w pl (za4 c.E (H.set n .dead) pl) (.d (.fs ds len)) v:=by
 refine⟨h.kill n (fun i j hm _ _=>hm) (fun p hp=>hp),?_⟩
 have hown:∀b,za4 c.E (H.set n .dead) pl b→za4 c.E H pl b∧(∀base,pl[n]? =some (some (b,base))→False):=fun b hb=>by
  rcases hb with hb|⟨i,o,e,h1,h2,h3⟩
  ·exact⟨.inl hb,fun base hp=>h.h.ext n _ _ hid rfl hp hb⟩
  ·rcases za2 h1 with⟨_,rfl,_⟩|⟨hne,h1⟩
   ·cases h2
   ·exact⟨.inr ⟨i,o,e,h1,h2,h3⟩,fun base hp=>h.h.dis i n o _ _ _ h1 hid h2 rfl hne (fun hm=>(hsn _ hm).2 rfl) (fun hm=>(hsn _ hm).1 rfl) h3 hp rfl⟩
 cases hv with
 |os _ _ _ _ cap b base sz t hp hsh hn hm hz=>
  rcases h.h.obj _ _ hid with⟨_,k2⟩|⟨b',base',arr,t',k1,k2,k3,k4⟩
  ·rw[hp]at k2;cases k2
  ·rw[hp]at k1;cases k1
   have k3':base+ds.length≤arr.size:=by simpa using k3
   refine .d _ _ (.fs ds len cap b (base+0) (fun j=>arr.getD (base+j) undef) (Array.getElem?_eq_some_iff.1 k2).1 (fun hb=>(hown b hb).2 base hp) hn hm (fun j y hj=>?_) (fun j y hj=>?_) (fun j y hj=>?_))
   ·have:=(List.getElem?_eq_some_iff.1 hj).1
    rw[cell_of_row _ _ _ _ _ _ k2]
    simp[Array.getD,show base+j<arr.size by omega]
   ·exact(k4 j (.d y) (by rw[List.getElem?_map,hj];rfl)).2
   ·have h1:=(k4 j (.d y) (by rw[List.getElem?_map,hj];rfl)).1
    cases h1 with|d _ _ h1=>
    exact h1.mono (Nat.le_refl _) (fun _ _ _=>rfl) (fun b _ hb=>(hown b hb).1)
 |os0 _ _ _ ad=>
  have:ds=[]:=List.eq_nil_of_length_eq_zero (by simpa using hl)
  subst this
  exact .d _ _ (.f0 ad 0 (Nat.zero_le _) (fun _=>rfl))
theorem zqg{t:TypeId}(h:(zgs P t).isSome=true):∃k,P.underlying t=some (.int k):=by
 unfold zgs at h
 split at h
 ·rename_i k hk;exact⟨k,hk⟩
 ·cases h
theorem jcf{n m bts:Nat}(h:1≤bts)(hb:(n+m)*bts≤140737488355328):n+m≤4611686018427387904:=by
 have:=Nat.mul_le_mul_left (n+m) h
 omega
theorem zi2(h:RelS c τ H sh pl a w){id':Nat}(hn':H[id']? =some .free)(hsn:∀p∈sh,p.1≠id'∧p.2≠id'){t t' ty e:TypeId}{s bts:Nat}(he:elO P t=some (none,e,s))(hby:byO P e=some bts){zs:List D}(hz:zcO P e=some zs)(hzs:zs.length=s)
  {id off n:Nat} {cs:List AV} (hid:H[id]? =some (.cells cs)) (hend:off+n*s=cs.length) (hsh:∀p∈sh,p.2≠id) {v:Value} (hv:Rd w pl (za4 c.E H pl) (.os s id off n) v)
  {xa:AV} {m:Nat} {l:List AV} (hs:zsp P t t' zs bts H s xa m l) {x:Value} (hx:Rd w pl (za4 c.E H pl) xa x) (h63:n+m≤maxLen) (hb:(n+m)*bts≤140737488355328):
  ∃u w',(Builtin.append_ #[t,t'] ty #[v,x]).run P w= .ok u w'∧Lays c τ a (H.set id' (.cells (cs.drop off++l))) (appSh sh id id') (.os s id' 0 (n+m)) u w':=by
 rcases hs with⟨rfl,hs⟩|⟨h1,h2,h3,⟨k,rfl⟩,rfl⟩
 ·exact zsn h hn' hsn he hby hz hzs hid hend hsh hv hs.src hx h63 hb
 ·obtain⟨kn,hin⟩:=zqg h1
  rw[zdi hx]
  exact zon h hn' hsn hin he hby hz hzs h2 hid hend hsh hv (jcf h3 hb) hb
theorem zov(h:RelS c τ H sh pl a w){id':Nat}(hn':H[id']? =some .free)(hsn:∀p∈sh,p.1≠id'∧p.2≠id'){t t' ty e:TypeId}{s bts:Nat}(he:elO P t=some (none,e,s))(hby:byO P e=some bts){zs:List D}(hz:zcO P e=some zs)(hzs:zs.length=s)
  {xa:AV} {m:Nat} {l:List AV} (hs:zsp P t t' zs bts H s xa m l) {x:Value} (hx:Rd w pl (za4 c.E H pl) xa x) (h63:m≤maxLen) (hb:m*bts≤140737488355328):
  ∃u w',(Builtin.append_ #[t,t'] ty #[.slice none 0 0,x]).run P w= .ok u w'∧Lays c τ a (H.set id' (.cells l)) sh (.os s id' 0 m) u w':=by
 rcases hs with⟨rfl,hs⟩|⟨h1,h2,h3,⟨k,rfl⟩,rfl⟩
 ·exact append_nil h hn' hsn he hby hz hzs hs.src hx h63 hb
 ·obtain⟨kn,hin⟩:=zqg h1
  rw[zdi hx]
  exact zoo h hn' hsn hin he hby hz hzs h2 (by have:=jcf (n:=0) (m:=m) h3 (by rw[Nat.zero_add];exact hb);omega) hb
theorem zgw(h:RelS c τ H sh pl a w){o:Oper}{dr:Bool}{n:Nat}(hn:H[n]? =some .free)(hsn:∀p∈sh,p.1≠n∧p.2≠n){x:AV}(hq:OpA P dr n (zap τ) o.op H sh x H' sh'){K:Act→World→Prop}{Q:Exit→Act→World→Prop}
  (hK:∀v w' pl',RelS c τ H' sh' pl' a w'→Rd w' pl' (za4 c.E H' pl') x v→K (a.put o.dst v) w'):o.wp P a w K Q:=by
 have done:∀v w',(execOp a.eval o).run P w= .ok (.value v) w'→Lays c τ a H' sh' x v w'→o.wp P a w K Q:=fun v w' hr ⟨pl',h1,h2⟩=>zen hr (hK v w' pl' h1 h2)
 obtain⟨dst,op,ty,pos,after,guard⟩:=o
 simp only at hq hK done
 unfold OpA at hq
 split at hq
 ·rename_i t y
  obtain⟨cs,hc,rfl,rfl,rfl⟩:=hq
  obtain⟨u,w',h1,h2⟩:=jer (P:=P) h hn hsn t hc (h.eval y)
  exact done u w' (by simp[execOp,h1]) h2
 ·obtain⟨zs,hz,h0,rfl,rfl,rfl⟩:=hq
  obtain⟨u,w',h1,h2⟩:=zt8 (P:=P) h hn hsn _ hz h0
  exact done u w' (by simp[execOp,h1]) h2
 ·obtain⟨e,s,zs,bts,k1,k2,m,m',he,hz,hl,h0,h1,hby,hm,hm',b0,b1,b2,b3,hc,rfl⟩:=hq
  have r1:=zdi (hm▸h.eval _)
  have r2:=zdi (hm'▸h.eval _)
  obtain⟨q,rfl⟩:∃q:Nat,m=q:=⟨m.toNat,by omega⟩
  obtain⟨q',rfl⟩:∃q:Nat,m'=q:=⟨m'.toNat,by omega⟩
  simp only[Int.toNat_natCast]at *
  obtain⟨u,w',h2,h3⟩:=zk9 (P:=P) h hn hsn he hz hl h0 h1 hby k1 k2 (n:=q) (cap:=q') (by omega) (by omega) b3
  rcases hc with⟨rfl,rfl⟩|⟨ds,hr,hdl,rfl,rfl⟩
  ·exact done u w' (by simp[execOp,r1,r2,h2]) h3
  ·obtain⟨pl',k1,k2⟩:=h3
   rw[hr]at k1 k2
   have hlt:n<H.length:=(List.getElem?_eq_some_iff.1 hn).1
   obtain⟨f1,f2⟩:=k1.frozen hsn (List.getElem?_set_self hlt) hdl h0 k2
   rw[List.set_set]at f1 f2
   exact done u w' (by simp[execOp,r1,r2,h2]) ⟨pl',f1,f2⟩
 ·rename_i t hint
  obtain⟨hh,rfl,rfl,rfl⟩:=hq
  obtain⟨h1,h2,h3⟩:=zot (P:=P) h hn hsn t (hint.map a.eval) (by
   rcases hh with rfl|⟨y,k,m,rfl,hy,hm⟩
   ·exact .inl rfl
   ·exact .inr ⟨k,m,congrArg some (zdi (hy▸h.eval y)),hm⟩)
  exact done _ _ (by simp only[execOp,Sem.run_bind,h1];rfl) ⟨_,h2,h3⟩
 ·rename_i t len parts
  obtain⟨e,s,zs,cs,he,hz,hl,h0,h1,hsm,hf,hc,rfl⟩:=hq
  obtain⟨u,w',h2,h3⟩:=zj8 (P:=P) h hn hsn he hz hl h0 h1 hsm hf (vparts:=parts.map fun p=>(p.1,a.eval p.2)) (by simp) (fun j i x hj=>by
   rw[List.getElem?_map,Option.map_eq_some_iff]at hj
   obtain⟨q,hq,he⟩:=hj
   cases he
   exact⟨a.eval q.2,by rw[Array.toList_map,List.getElem?_map,hq];rfl,h.eval q.2⟩)
  rcases hc with⟨rfl,rfl⟩|⟨ds,rfl,hdl,rfl,rfl⟩
  ·exact done u w' (by simp only[execOp,Sem.run_bind,h2];rfl) h3
  ·obtain⟨pl',k1,k2⟩:=h3
   have hlt:n<H.length:=(List.getElem?_eq_some_iff.1 hn).1
   obtain⟨f1,f2⟩:=k1.frozen hsn (List.getElem?_set_self hlt) hdl h0 k2
   rw[List.set_set]at f1 f2
   exact done u w' (by simp only[execOp,Sem.run_bind,h2];rfl) ⟨pl',f1,f2⟩
 ·rename_i cl
  obtain⟨callee,args,ts⟩:=cl
  simp only at hq
  split at hq
  ·obtain⟨f,fi,ca,ds,r,cs,hc,hds,hp,rfl,rfl,rfl⟩:=hq
   obtain⟨vs,us,hv,h1,h2⟩:=zeo hc (h.eval _)
   have hall:=(h1.append (h.args args)).append h2
   obtain⟨l1,l2⟩:=zgc w pl (za4 c.E H pl) _ ds _ hds hall.2
   refine zfs (o:=⟨dst,_,ty,pos,after,guard⟩) (zft (o:=⟨dst,_,ty,pos,after,guard⟩) rfl hv hp.1) ((hp.2 w (za4 c.E H pl) _ (by rw[hall.1,l1]) l2 h.own_lt).mono fun e w' ⟨v,p,he,hb,hge,ho⟩=>⟨v,he,?_⟩)
   have hpn:(pl.set n p)[n]? =some p:=zbl h hn p
   obtain⟨o1,o2⟩:=ho _ _ hpn
   obtain⟨hS,hown⟩:=h.laid hn hsn hb hge (o:=.cells (cs.map .d)) (fun own' hsub=>o1.mono (Nat.le_refl _) (fun _ _ _=>rfl) (fun b _ hb=>hsub b hb) (fun _ _ h=>h) (fun _ _ h=>h) (fun h=>h) (fun _ _ _ _=>rfl))
   exact hK v w' _ hS (o2.mono (Nat.le_refl _) (fun _ _ _=>rfl) (fun b _ hb=>hown b hb) (fun _ _ h=>h) (fun _ _ h=>h))
  ·obtain⟨args⟩:=args
   obtain⟨ts⟩:=ts
   simp only at hq
   split at hq
   ·rename_i s y t t'
    obtain⟨e,k,zs,bts,m,l,he,hz,hl,hby,hs,hq⟩:=hq
    have hrun:∀u w',(Builtin.append_ #[t,t'] ty #[a.eval s,a.eval y]).run P w= .ok u w'→(execOp a.eval ⟨dst,.call {callee:=.builtin .append,args:=⟨[s,y]⟩,argTypes:=⟨[t,t']⟩},ty,pos,after,guard⟩).run P w= .ok (.value u) w':=fun u w' h1=>by
     simp only[execOp,resolve,Sem.run_bind,Sem.run_pure,Result.andThen_ok,invoke,builtin,List.map_toArray,List.map_cons,List.map_nil]
     rw[h1];rfl
    split at hq
    ·rename_i k' id off q e3
     obtain⟨cs,rfl,hid,hend,b1,b2,rfl,hq⟩:=hq
     have hv:=h.eval s
     rw[e3]at hv
     cases dr with
     |true=>
      obtain⟨hsh,rfl,rfl⟩:=hq
      obtain⟨u,w',h1,h2⟩:=zi2 (P:=P) (ty:=ty) h hn hsn he hby hz hl hid hend hsh hv hs (h.eval y) b1 b2
      exact done u w' (hrun u w' h1) h2
     |false=>
      obtain⟨rfl,rfl,rfl⟩:=hq
      obtain⟨u,w',h1,pl',h2,h3⟩:=zi2 (P:=P) (ty:=ty) h hn hsn he hby hz hl hid hend (fun p hp=>by cases hp) hv hs (h.eval y) b1 b2
      refine done u w' (hrun u w' h1) ⟨pl',h2.kill id (fun i j hm h4 h5=>?_) (fun p hp=>by cases hp),?_⟩
      ·rcases zcp hm with⟨_,k⟩|⟨_,k⟩|k
       ·exact absurd k h5
       ·cases k
       ·cases k
      ·refine h3.mono (Nat.le_refl _) (fun _ _ _=>rfl) (fun b _ hb=>?_) (fun _ _ h=>h) (fun _ _ h=>h)
       rcases hb with hb|⟨i,oo,e,k1,k2,k3⟩
       ·exact .inl hb
       ·rcases za2 k1 with⟨_,rfl,_⟩|⟨_,k1⟩
        ·cases k2
        ·exact .inr ⟨i,oo,e,k1,k2,k3⟩
    ·rename_i e3
     obtain⟨b1,b2,rfl,rfl,rfl⟩:=hq
     have hv:=h.eval s
     rw[e3]at hv
     have hv':a.eval s= .slice none 0 0:=by generalize a.eval s=z at hv;cases hv with|d _ _ hv=>cases hv;rfl
     obtain⟨u,w',h1,h2⟩:=zov (P:=P) (ty:=ty) h hn hsn he hby hz hl hs (h.eval y) b1 b2
     exact done u w' (hrun u w' (by rw[hv'];exact h1)) h2
    ·exact hq.elim
   ·exact hq.elim
  ·exact hq.elim
 ·exact hq.elim
def OpD(P:Program)(ρ:Operand→AV)(op:Op)(H:zaa)(sh:List (Nat × Nat))(N1:Nat)(H':zaa):Prop:=
 match op with
 | .store t p y=>∃id i cs l,ρ p= .op id i∧H[id]? =some (.cells cs)∧szO P t=some l.length∧zb2 (ρ y)=some l∧i+l.length≤cs.length∧(∀q∈sh,q.1≠id∧q.2≠id)∧N1≤id∧H'=H.set id (.cells (zch cs i l))
 |_=>False
theorem zi3(h:RelS c τ H sh pl a w){o:Oper}{N1:Nat}(hq:OpD P (zap τ) o.op H sh N1 H'){K:Act→World→Prop}{Q:Exit→Act→World→Prop}
  (hK:∀w' pl',RelS c τ H' sh pl' a w'→K (a.put o.dst undef) w'):o.wp P a w K Q:=by
 obtain⟨dst,op,ty,pos,after,guard⟩:=o
 simp only at hq hK
 unfold OpD at hq
 split at hq
 ·rename_i t p y
  obtain⟨id,i,cs,l,hp,hid,hs,hc,hi,hsh,_,rfl⟩:=hq
  have h1:=h.eval p
  rw[hp]at h1
  obtain⟨w',h2,pl',h3⟩:=zt9 (P:=P) h t hid hs hc hi hsh h1 (h.eval y)
  exact zik (by simp only[execOp,Sem.run_bind];rw[h2];rfl) (hK w' pl' h3)
 ·exact hq.elim
end
/- Of no program: calls that see the first objects of the caller, and may move some of them. -/
end
section
mutual
def AV.allI(p:Nat→Bool):AV→Bool
 | .os _ id _ _=>p id
 | .op id _=>p id
 | .om id=>p id
 | .agg cs=>AV.allIs p cs
 | .tup cs=>AV.allIs p cs
 | .clo _ fi ca=>AV.allIs p fi&&AV.allIs p ca
 | .any=>true
 | .d _=>true
def AV.allIs(p:Nat→Bool):List AV→Bool
 |[]=>true
 |x::l=>AV.allI p x&&AV.allIs p l
end
theorem AV.allIs_get{p:Nat→Bool}:∀{l:List AV} {j:Nat} {x:AV},AV.allIs p l=true→l[j]? =some x→x.allI p=true
 |y::l,0,x,h,hj=>by
  rw[AV.allIs,Bool.and_eq_true]at h
  simp at hj;subst hj;exact h.1
 |y::l,j+1,x,h,hj=>by
  rw[AV.allIs,Bool.and_eq_true]at h
  exact AV.allIs_get h.2 (by simpa using hj)
def AObj.allI(p:Nat→Bool):AObj→Bool
 | .cells cs=>AV.allIs p cs
 | .map es _=>AV.allIs p (es.map (·.2.2))
 | .loop _ _ fr=>AV.allIs p fr
 |_=>true
theorem Rd.place{w w':World}{pl pl':List (Option (Nat × Nat))}{own own':Nat→Prop}{x:AV}{v:Value}{p:Nat→Bool}(h:Rd w pl own x v)(hi:x.allI p=true)(hs:w.heap.size≤w'.heap.size)
  (hb:∀b,b<w.heap.size→¬own b→w'.heap[b]? =w.heap[b]?) (hw:∀b,b<w.heap.size→own' b→own b)
  (hsh:∀b s,w.shape? b=some s→w'.shape? b=some s) (hp:∀(i:Nat) (q:Nat × Nat),p i=true→pl[i]? =some (some q)→pl'[i]? =some (some q)):Rd w' pl' own' x v:=by
 induction h with
 |any v=>exact .any v
 |d x v h=>exact .d x v (h.mono hs hb hw)
 |os k id off n cap b base sz t h1 h2 h3 h4 h5=>
  exact .os k id off n cap b base sz t (hp _ _ (by simpa[AV.allI]using hi) h1) (hsh _ _ h2) h3 h4 h5
 |os0 k id off a=>exact .os0 k id off a
 |op id off b base h1=>exact .op id off b base (hp _ _ (by simpa[AV.allI]using hi) h1)
 |om id b base h1=>exact .om id b base (hp _ _ (by simpa[AV.allI]using hi) h1)
 |agg cs vs hl _ ih=>exact .agg cs vs hl fun j x hj=>ih j x hj (AV.allIs_get (by simpa[AV.allI]using hi) hj)
 |tup cs vs hl _ ih=>exact .tup cs vs hl fun j x hj=>ih j x hj (AV.allIs_get (by simpa[AV.allI]using hi) hj)
 |clo fn fi ca vs us hl _ hl' _ ih ih'=>
  rw[AV.allI,Bool.and_eq_true]at hi
  exact .clo fn fi ca vs us hl (fun j x hj=>ih j x hj (AV.allIs_get hi.1 hj)) hl' (fun j x hj=>ih' j x hj (AV.allIs_get hi.2 hj))
theorem ObjAt.place{w w':World}{pl pl':List (Option (Nat × Nat))}{own own':Nat→Prop}{id id':Nat}{o:AObj}{p:Nat→Bool}(h:ObjAt w pl own id o)(hi:o.allI p=true)(hs:w.heap.size≤w'.heap.size)
  (hb:∀b,b<w.heap.size→¬own b→w'.heap[b]? =w.heap[b]?) (hw:∀b,b<w.heap.size→own' b→own b)
  (hsh:∀b s,w.shape? b=some s→w'.shape? b=some s) (hp:∀(i:Nat) (q:Nat × Nat),p i=true→pl[i]? =some (some q)→pl'[i]? =some (some q)) (hid:∀q,pl[id]? =some q→pl'[id']? =some q)
  (hblk:o.live=true→∀b c,pl[id]? =some (some (b,c))→w'.heap[b]? =w.heap[b]?):ObjAt w' pl' own' id' o:=by
 cases o with
 |free=>exact hid _ h
 |dead=>trivial
 |cells cs=>
  rcases h with⟨h1,h2⟩|⟨b,base,arr,t,h1,h2,h3,h4⟩
  ·exact .inl ⟨h1,hid _ h2⟩
  ·exact .inr ⟨b,base,arr,t,hid _ h1,(hblk rfl _ _ h1).trans h2,h3,fun j x hj=>⟨(h4 j x hj).1.place (AV.allIs_get hi hj) hs hb hw hsh hp,(h4 j x hj).2⟩⟩
 |map es clock=>
  obtain⟨b,base,ms,h1,h2,h3,h5,h4⟩:=h
  refine⟨b,base,ms,hid _ h1,(hblk rfl _ _ h1).trans h2,h3,h5,fun j e k n x hj hk=>⟨(h4 j e k n x hj hk).1,(h4 j e k n x hj hk).2.1,(h4 j e k n x hj hk).2.2.place (AV.allIs_get (j:=j) hi ?_) hs hb hw hsh hp⟩⟩
  rw[List.getElem?_map,hk];rfl
 |loop b r fr=>
  obtain⟨base,h1,h2,h3⟩:=h
  exact⟨base,hid _ h1,(hblk rfl _ _ h1).trans h2,fun j x hj=>(h3 j x hj).place (AV.allIs_get hi hj) hs hb hw hsh hp⟩
def ScS(P:Program)(m:List Nat)(f:FuncId)(xs:List AV)(S:zaa)(K:AV→zaa→Prop):Prop:=
 zk7 P f=true∧∀(E:Nat→Prop) (w:World) (pl:List (Option (Nat × Nat))) (vals:Array Value),vals.size=xs.length→(∀j x,xs[j]? =some x→Rd w pl (za4 E S pl) x (vals.getD j undef))→RelH E w pl S []→(∀b,E b→b<w.heap.size)→
  Calls P f vals w fun e w'=>∃v x S' pl',e= .returned v∧K x S'∧Rd w' pl' (za4 E S' pl') x v∧RelH E w' pl' S' []∧Stp (zco S pl) w w'∧(∀b,zco S' pl' b→zco S pl b∨w.heap.size≤b)∧(∀(i:Nat) (p:Nat × Nat),i∈m→pl[i]? =some (some p)→pl'[i]? =some (some p))
theorem ScS.mono{P:Program}{m:List Nat}{f:FuncId}{xs:List AV}{S:zaa}{K K':AV→zaa→Prop}(h:ScS P m f xs S K)(hK:∀x S',K x S'→K' x S'):ScS P m f xs S K':=
 ⟨h.1,fun E w pl vals hl hx hh hE=>(h.2 E w pl vals hl hx hh hE).mono fun e w' ⟨v,x,H',pl',k1,k2,k3⟩=>⟨v,x,H',pl',k1,hK _ _ k2,k3⟩⟩
def okI(m:List Nat)(k i:Nat):Bool:=m.contains i||decide (k≤i)
def Kp(c:Cx)(sm:List Nat):Prop:=∀(i:Nat) (p:Nat × Nat),c.pl0[i]? =some (some p)→i∈sm
theorem Kp.all(c:Cx):Kp c (List.range c.pl0.length):=fun i p h=>List.mem_range.2 (List.getElem?_eq_some_iff.1 h).1
theorem Kp.none{c:Cx}(h:c.pl0=[]):Kp c []:=fun i p hi=>by rw[h]at hi;cases hi
def ltI(k i:Nat):Bool:=decide (i<k)
section
variable {P:Program} {c:Cx} {τ:Fr} {a:Act} {w w':World} {pl pl':List (Option (Nat × Nat))} {S T S':zaa} {pS pT:List (Option (Nat × Nat))} {m sm:List Nat}
theorem zcc(hl:pS.length=S.length){b:Nat}:zco (S++T) (pS++pT) b↔zco S pS b∨zco T pT b:=by
 constructor
 ·rintro⟨id,o,e,h1,h2,h3⟩
  by_cases hi:id<S.length
  ·rw[List.getElem?_append_left hi]at h1
   rw[List.getElem?_append_left (by omega)]at h3
   exact .inl ⟨id,o,e,h1,h2,h3⟩
  ·rw[List.getElem?_append_right (by omega)]at h1
   rw[List.getElem?_append_right (by omega),hl]at h3
   exact .inr ⟨id - S.length,o,e,h1,h2,h3⟩
 ·rintro(⟨id,o,e,h1,h2,h3⟩|⟨id,o,e,h1,h2,h3⟩)
  ·have hi:=(List.getElem?_eq_some_iff.1 h1).1
   exact⟨id,o,e,by rw[List.getElem?_append_left hi];exact h1,h2,by rw[List.getElem?_append_left (by omega)];exact h3⟩
  ·refine⟨S.length+id,o,e,?_,h2,?_⟩
   ·rw[List.getElem?_append_right (by omega),Nat.add_sub_cancel_left];exact h1
   ·rw[List.getElem?_append_right (by omega),hl,Nat.add_sub_cancel_left];exact h3
theorem jcg{E:Nat→Prop}{H:zaa}{b:Nat}:za4 E H pl b↔E b∨zco H pl b:=Iff.rfl
def zzo(E:Nat→Prop)(T:zaa)(pT:List (Option (Nat × Nat)))(b:Nat):Prop:=E b∨zco T pT b
theorem zge{E:Nat→Prop}(hl:pS.length=S.length){b:Nat}:za4 (zzo E T pT) S pS b↔za4 E (S++T) (pS++pT) b:=by
 rw[jcg,jcg,zcc hl]
 unfold zzo
 constructor
 ·rintro((h|h)|h)
  ·exact .inl h
  ·exact .inr (.inr h)
  ·exact .inr (.inl h)
 ·rintro(h|h|h)
  ·exact .inl (.inl h)
  ·exact .inr h
  ·exact .inl (.inr h)
theorem zep{α:Type}{A B:List α}{i:Nat}{x:α}(h:A[i]? =some x):(A++B)[i]? =some x:=by
 rw[List.getElem?_append_left (List.getElem?_eq_some_iff.1 h).1];exact h
theorem zhf{α:Type}{A B:List α}{i:Nat}{x:α}(h:B[i]? =some x):(A++B)[A.length+i]? =some x:=by
 rw[List.getElem?_append_right (by omega),Nat.add_sub_cancel_left];exact h
theorem zow{E:Nat→Prop}(h:RelH E w (pS++pT) (S++T) [])(hl:pS.length=S.length)(hS:∀o∈S,o.allI (ltI S.length)=true):RelH (zzo E T pT) w pS S []:=by
 have hlt:pT.length=T.length:=by have:=h.len;simp at this;omega
 refine⟨hl,fun id o ho=>?_,fun i j oi oj p q h1 h2 l1 l2 hne s1 s2 p1 p2=>?_,fun i o p h1 l1 p1=>?_,fun p hp=>(by cases hp),fun i k ci ck p q hm=>(by cases hm)⟩
 ·have hid:=(List.getElem?_eq_some_iff.1 ho).1
  refine(h.obj id o (zep ho)).place (p:=ltI S.length) (hS o (List.mem_of_getElem? ho)) (Nat.le_refl _) (fun _ _ _=>rfl) (fun b _ hb=>(zge hl).1 hb) (fun _ _ h=>h) (fun i q hi hq=>?_) (fun q hq=>?_) (fun _ _ _ _=>rfl)
  ·have hi:i<S.length:=by simpa[ltI]using hi
   rwa[List.getElem?_append_left (by omega)]at hq
  ·rwa[List.getElem?_append_left (by omega)]at hq
 ·exact h.dis i j oi oj p q (zep h1) (zep h2) l1 l2 hne s1 s2 (zep p1) (zep p2)
 ·rintro(he|⟨id,o',e,k1,k2,k3⟩)
  ·exact h.ext i o p (zep h1) l1 (zep p1) he
  ·have hi:=(List.getElem?_eq_some_iff.1 h1).1
   have a1:(pS++pT)[S.length+id]? =some (some (p.1,e)):=by rw[←hl];exact zhf k3
   exact h.dis i (S.length+id) o o' p (p.1,e) (zep h1) (zhf k1) l1 k2 (by omega) (by simp) (by simp) (zep p1) a1 rfl
theorem zox(h:RelS c τ (S++T) [] (pS++pT) a w)(hl:pS.length=S.length)(hc:Kp c sm)(hm:sm.all (okI m S.length)=true)(hτ:∀t,(τ t).allI (okI m S.length)=true)(hT:∀o∈T,o.allI (okI m S.length)=true)
  (hS':S'.length=S.length) (hh:RelH (zzo c.E T pT) w' pl' S' []) (hs:Stp (zco S pS) w w') (hn:∀b,zco S' pl' b→zco S pS b∨w.heap.size≤b) (hk:∀(i:Nat) (p:Nat × Nat),i∈m→pS[i]? =some (some p)→pl'[i]? =some (some p)):
  RelS c τ (S'++T) [] (pl'++pT) a w':=by
 have hlen:=h.h.len
 have hlT:pT.length=T.length:=by simp at hlen;omega
 have hl':pl'.length=S'.length:=hh.len
 have hpl:∀(i:Nat) (q:Nat × Nat),okI m S.length i=true→(pS++pT)[i]? =some (some q)→(pl'++pT)[i]? =some (some q):=fun i q hi hq=>by
  simp only[okI,Bool.or_eq_true,decide_eq_true_eq,List.contains_eq_mem]at hi
  by_cases hlt:i<S.length
  ·rw[List.getElem?_append_left (by omega)]at hq
   exact zep (hk i q (hi.resolve_right (by omega)) hq)
  ·have hi:S.length≤i:=by omega
   rw[List.getElem?_append_right (by omega),hl]at hq
   rw[List.getElem?_append_right (by omega),hl',hS'];exact hq
 have hSb:∀b,zco S pS b→b<w.heap.size:=fun b hb=>h.own_lt b (.inr ((zcc hl).2 (.inl hb)))
 have hST:∀b,zco S pS b→¬zco T pT b:=fun b ⟨i,o,e,k1,k2,k3⟩ ⟨j,o',e',j1,j2,j3⟩=>by
  have hi:=(List.getElem?_eq_some_iff.1 k1).1
  have a1:(pS++pT)[S.length+j]? =some (some (b,e')):=by rw[←hl];exact zhf j3
  exact h.h.dis i (S.length+j) o o' (b,e) (b,e') (zep k1) (zhf j1) k2 j2 (by omega) (by simp) (by simp) (zep k3) a1 rfl
 have hTb:∀b,zco T pT b→b<w.heap.size:=fun b hb=>h.own_lt b (.inr ((zcc hl).2 (.inr hb)))
 have how:∀b,b<w.heap.size→za4 c.E (S'++T) (pl'++pT) b→za4 c.E (S++T) (pS++pT) b:=fun b hb ho=>by
  rcases ho with ho|ho
  ·exact .inl ho
  ·rcases(zcc hl').1 ho with ho|ho
   ·rcases hn b ho with ho|ho
    ·exact .inr ((zcc hl).2 (.inl ho))
    ·omega
   ·exact .inr ((zcc hl).2 (.inr ho))
 have hbl:∀b,b<w.heap.size→¬za4 c.E (S++T) (pS++pT) b→w'.heap[b]? =w.heap[b]? :=fun b hb hno=>hs.block b hb fun hb'=>hno (.inr ((zcc hl).2 (.inl hb')))
 have hO:∀b,zco S pS b→c.O0 b∨c.w0.heap.size≤b:=fun b ⟨i,o,e,k1,k2,k3⟩=>h.own0 i o (b,e) (zep k1) k2 (zep k3)
 have hL:∀b,zco (S'++T) (pl'++pT) b→zco (S++T) (pS++pT) b∨w.heap.size≤b:=fun b ho=>by
  rcases(zcc hl').1 ho with ho|ho
  ·rcases hn b ho with ho|ho
   ·exact .inl ((zcc hl).2 (.inl ho))
   ·exact .inr ho
  ·exact .inl ((zcc hl).2 (.inr ho))
 refine⟨⟨by simp;omega,fun id o ho=>?_,fun i j oi oj p q h1 h2 l1 l2 hne s1 s2 p1 p2=>?_,fun i o p h1 l1 p1=>?_,fun p hp=>(by cases hp),fun i k ci ck p q hm=>(by cases hm)⟩,
  h.stp.trans hs (fun b hb ho=>by
   rcases hO b ho with h1|h1
   ·exact h1
   ·omega),fun id o p h1 l1 p1=>?_,h.ext,fun t=>(h.fr t).place (hτ t) hs.size hbl how hs.shape hpl,h.size,h.defs.step (fun b hb hno=>hs.block b hb fun hb'=>hno ((zcc hl).2 (.inl hb'))) hL,fun i p hi=>?_⟩
 ·by_cases hid:id<S'.length
  ·rw[List.getElem?_append_left hid]at ho
   refine(hh.obj id o ho).mono (Nat.le_refl _) (fun _ _ _=>rfl) (fun b _ hb=>(zge hl').2 hb) (fun _ _ h=>h) (fun i q hq=>zep hq) (fun h0=>zep h0) (fun _ _ _ _=>rfl)
  ·rw[List.getElem?_append_right (by omega)]at ho
   have hid2:id=S.length+(id - S'.length):=by omega
   have ho2:(S++T)[id]? =some o:=by rw[hid2];exact zhf ho
   refine(h.h.obj id o ho2).place (p:=okI m S.length) (hT o (List.mem_of_getElem? ho)) hs.size hbl how hs.shape hpl (fun q hq=>?_) (fun l1 b e hq=>?_)
   ·rw[List.getElem?_append_right (by omega),hl]at hq
    rw[List.getElem?_append_right (by omega),hl',hS'];exact hq
   ·rw[List.getElem?_append_right (by omega),hl]at hq
    have hT1:zco T pT b:=⟨id - S'.length,o,e,ho,l1,by rw[hS'];exact hq⟩
    exact hs.block b (hTb b hT1) fun hb=>hST b hb hT1
 ·have side:∀(i:Nat) (o:AObj) (p:Nat × Nat),(S'++T)[i]? =some o→o.live=true→(pl'++pT)[i]? =some (some p)→(i<S'.length∧S'[i]? =some o∧pl'[i]? =some (some p))∨(S'.length≤i∧T[i - S'.length]? =some o∧pT[i - S'.length]? =some (some p)):=fun i o p h1 l1 p1=>by
   by_cases hi:i<S'.length
   ·rw[List.getElem?_append_left hi]at h1
    rw[List.getElem?_append_left (by omega)]at p1
    exact .inl ⟨hi,h1,p1⟩
   ·rw[List.getElem?_append_right (by omega)]at h1
    rw[List.getElem?_append_right (by omega),hl']at p1
    exact .inr ⟨by omega,h1,p1⟩
  have cross:∀(i j:Nat) (oi oj:AObj) (p q:Nat × Nat),S'[i]? =some oi→pl'[i]? =some (some p)→oi.live=true→T[j]? =some oj→pT[j]? =some (some q)→oj.live=true→p.1≠q.1:=fun i j oi oj p q a1 a2 a3 b1 b2 b3 e=>by
   have hT1:zco T pT q.1:=⟨j,oj,q.2,b1,b3,b2⟩
   rcases hn p.1 ⟨i,oi,p.2,a1,a3,a2⟩with h1|h1
   ·exact hST _ h1 (e▸hT1)
   ·have:=hTb _ hT1;omega
  rcases side i oi p h1 l1 p1 with⟨a0,a1,a2⟩|⟨a0,a1,a2⟩<;>rcases side j oj q h2 l2 p2 with⟨b0,b1,b2⟩|⟨b0,b1,b2⟩
  ·exact hh.dis i j oi oj p q a1 b1 l1 l2 hne (by simp) (by simp) a2 b2
  ·exact cross i _ oi oj p q a1 a2 l1 b1 b2 l2
  ·exact(cross j _ oj oi q p b1 b2 l2 a1 a2 l1).symm
  ·refine h.h.dis (S.length+(i - S'.length)) (S.length+(j - S'.length)) oi oj p q (zhf a1) (zhf b1) l1 l2 (by omega) (by simp) (by simp) ?_ ?_
   ·rw[←hl];exact zhf a2
   ·rw[←hl];exact zhf b2
 ·by_cases hi:i<S'.length
  ·rw[List.getElem?_append_left hi]at h1
   rw[List.getElem?_append_left (by omega)]at p1
   exact fun he=>hh.ext i o p h1 l1 p1 (.inl he)
  ·rw[List.getElem?_append_right (by omega)]at h1
   rw[List.getElem?_append_right (by omega),hl']at p1
   refine h.h.ext (S.length+(i - S'.length)) o p (zhf h1) l1 ?_
   rw[←hl];exact zhf p1
 ·by_cases hi:id<S'.length
  ·rw[List.getElem?_append_left hi]at h1
   rw[List.getElem?_append_left (by omega)]at p1
   rcases hn p.1 ⟨id,o,p.2,h1,l1,p1⟩with k1|k1
   ·exact hO _ k1
   ·exact .inr (Nat.le_trans h.stp.size k1)
  ·rw[List.getElem?_append_right (by omega)]at h1
   rw[List.getElem?_append_right (by omega),hl']at p1
   refine h.own0 (S.length+(id - S'.length)) o p (zhf h1) l1 ?_
   rw[←hl];exact zhf p1
 ·exact hpl i p (List.all_eq_true.1 hm i (hc i p hi)) (h.keep i p hi)
end
/- Of no program: regions in the order of the text, and the other pieces of code. -/
end
section
open Go Go.RowKit
section
variable {P:Program} {c:Cx} {τ:Fr} {a:Act} {w w':World} {pl pl':List (Option (Nat × Nat))} {H H':zaa} {sh sh':List (Nat × Nat)}
def kOf(fr:List FuncId):Op→Nat
 | .box .. | .alloc _| .makeSlice .. | .buildSlice .. | .makeMap .. =>1
 | .call {callee:=.builtin .append,..}=>3
 | .call {callee:=.builtin .delete,..}=>4
 | .call {callee:=.builtin .clear,..}=>4
 | .call {callee:=.value (.func f),..}=>if fr.contains f then 1 else 0
 | .store .. =>2
 | .mapUpdate .. | .insert .. | .mapEntry .. | .entryStore .. =>4
 |_=>0
def zkk(want:Bool):AV→Option Bool
 | .d (.val (.bool b))=>some (b==want)
 | .d (.val (.tuple _))=>some false
 |_=>none
def zbr(ops:List Oper)(τ:Fr)(o:Oper):Option Bool:=
 match o.guard with
 |none=>some true
 |some (j,want)=>match(ops[j]?).bind (·.dst)with
  |none=>some false
  |some d=>zkk want (τ d)
theorem zeq(h:RelS c τ H sh pl a w){ops:List Oper}{o:Oper}{b:Bool}(hg:zbr ops τ o=some b):Region.wanted o (yielded ops.toArray a.tmps)=b:=by
 unfold zbr at hg
 unfold Region.wanted
 split at hg
 ·rename_i e;cases hg;rw[e]
 ·rename_i j want e
  rw[e]
  simp only
  unfold yielded
  rw[List.getElem?_toArray]
  split at hg
  ·rename_i e2;cases hg;rw[e2];rfl
  ·rename_i d e2
   rw[e2]
   simp only[Option.bind_some]
   have hx:=h.fr d
   unfold zkk at hg
   split at hg
   ·rename_i b' e3
    cases hg
    rw[e3]at hx
    have hv:a.tmps.getD d undef= .bool b':=by generalize a.tmps.getD d undef=z at hx;cases hx with|d _ _ hx=>cases hx;rfl
    by_cases hd:d<a.tmps.size
    ·rw[Array.getD,dif_pos hd]at hv
     rw[Array.getElem?_eq_getElem hd]
     have hv':a.tmps[d]= .bool b':=hv
     rw[hv']
     cases b'<;>cases want<;>rfl
    ·rw[Array.getD,dif_neg hd]at hv
     cases hv
   ·rename_i u e3
    cases hg
    rw[e3]at hx
    have hv:a.tmps.getD d undef= .tuple u:=by generalize a.tmps.getD d undef=z at hx;cases hx with|d _ _ hx=>cases hx;rfl
    by_cases hd:d<a.tmps.size
    ·rw[Array.getD,dif_pos hd]at hv
     rw[Array.getElem?_eq_getElem hd]
     have hv':a.tmps[d]= .tuple u:=hv
     rw[hv'];rfl
    ·rw[Array.getElem?_eq_none (Nat.le_of_not_lt hd)];rfl
   ·cases hg
def AWp(P:Program)(c:Cx)(code:Code)(Q:Exit→Fr→zaa→Prop)(τ:Fr)(H:zaa):Prop:=
 ∀a w,R c τ H [] a w→code.wpIn c.F 0 P (fun e a' w'=>∃τ' H',R c τ' H' [] a' w'∧Q e τ' H') a w
def retV:List AV→AV
 |[x]=>x
 |xs=>.tup xs
def zsq(P:Program)(τ:Fr)(H:zaa):List ResultVar→(List AV→Prop)→Prop
 |[],K=>K []
 | .tmp t::l,K=>zsq P τ H l fun xs=>K (τ t::xs)
 | .cell t ty::l,K=>∃x,LoadQ P H H.length ty (τ t) x∧zsq P τ H l fun xs=>K (x::xs)
def zer(P:Program)(fn:Func)(Q:AV→zaa→Prop):Exit→Fr→zaa→Prop
 | .normal,τ,H| .ret,τ,H=>zsq P τ H fn.results.toList fun xs=>Q (retV xs) H
 |_,_,_=>False
theorem zef{K K':List AV→Prop}:∀(l:List ResultVar) (τ:Fr) (H:zaa),(∀xs,K xs→K' xs)→zsq P τ H l K→zsq P τ H l K'
 |[],_,_,h,hk=>h _ hk
 | .tmp t::l,τ,H,h,hk=>zef (K:=fun xs=>K (τ t::xs)) (K':=fun xs=>K' (τ t::xs)) l τ H (fun _ hh=>h _ hh) hk
 | .cell t ty::l,τ,H,h,⟨x,hx,hk⟩=>⟨x,hx,zef (K:=fun xs=>K (x::xs)) (K':=fun xs=>K' (x::xs)) l τ H (fun _ hh=>h _ hh) hk⟩
theorem zlb(h:RelS c τ H sh pl a w):∀(l:List ResultVar) (K:List AV→Prop),zsq P τ H l K→∃(xs:List AV) (vs:List Value),K xs∧vs.length=xs.length∧(∀j x,xs[j]? =some x→Rd w pl (za4 c.E H pl) x (vs.getD j undef))∧
  (l.mapM (m:=Sem) fun| .tmp t=>pure (a.tmps.getD t undef)| .cell p t=>do loadVar t (←asAddr (a.tmps.getD p undef))).run P w= .ok vs w
 |[],K,hk=>⟨[],[],hk,rfl,fun j x hj=>by simp at hj,by simp⟩
 | .tmp t::l,K,hk=>by
  obtain⟨xs,vs,h1,h2,h3,h4⟩:=zlb h l _ hk
  refine⟨τ t::xs,a.tmps.getD t undef::vs,h1,by simp[h2],fun j x hj=>?_,?_⟩
  ·cases j with
   |zero=>cases hj;exact h.fr t
   |succ j=>exact h3 j x hj
  ·rw[List.mapM_cons]
   simp only[Sem.run_bind,Sem.run_pure,Result.andThen_ok,h4]
 | .cell p t::l,K,hk=>by
  obtain⟨x,hx,hk⟩:=hk
  obtain⟨xs,vs,h1,h2,h3,h4⟩:=zlb h l _ hk
  obtain⟨u,hu,hr⟩:=hx.run (P:=P) h.h (h.fr p)
  refine⟨x::xs,u::vs,h1,by simp[h2],fun j y hj=>?_,?_⟩
  ·cases j with
   |zero=>cases hj;exact hr
   |succ j=>exact h3 j y hj
  ·have hl:(do loadVar t (←asAddr (a.tmps.getD p undef)):Sem Value).run P w= .ok u w:=by
    have hp:=h.fr p
    have key:∀z,Rd w pl (za4 c.E H pl) (τ p) z→(Instr.loadAt t z).run P w= .ok u w→(do loadVar t (←asAddr z):Sem Value).run P w= .ok u w:=by
     intro z hz hrun
     unfold LoadQ at hx
     split at hx
     ·rename_i e;rw[e]at hz;cases hz with|d _ _ hz=>cases hz;exact hrun
     ·rename_i e;rw[e]at hz;cases hz;exact hrun
     ·exact hx.elim
    exact key _ hp hu
   rw[List.mapM_cons]
   simp only[Sem.run_bind]at hl
   simp only[Sem.run_bind,hl,Result.andThen_ok,h4,Sem.run_pure]
theorem zoy(h:RelS c τ H sh pl a w)(fn:Func){K:List AV→Prop}(hk:zsq P τ H fn.results.toList K):∃(xs:List AV) (v:Value),K xs∧Rd w pl (za4 c.E H pl) (retV xs) v∧(results fn a.tmps).run P w= .ok v w:=by
 obtain⟨xs,vs,h1,h2,h3,h4⟩:=zlb h _ K hk
 refine⟨xs,if h:vs.toArray.size=1 then vs.toArray[0]else .tuple vs.toArray,h1,?_,?_⟩
 ·match xs,vs,h2,h3 with
  |[x],[v],_,h3=>exact h3 0 x rfl
  |[],[],_,h3=>exact .tup _ _ rfl fun j x hj=>by simp at hj
  |x::y::xs,v::u::vs,h2,h3=>
   rw[dif_neg (by simp)]
   exact .tup _ _ (by simpa using h2) fun j z hj=>by simpa using h3 j z hj
 ·unfold results
  rw[Array.mapM_eq_mapM_toList]
  simp only[Sem.run_bind,Sem.run_map,Sem.run_pure]
  erw [h4]
  rfl
def shut:List Nat→World→World
 |[],w=>w
 |r::rs,w=>shut rs (w.putObj r (.deferred none))
theorem zm0{r:Nat}{d:Option (List Deferred)}(hr:w.heap[r]? =some (.deferred d)){b o:Nat}{v:Value}(h:w.cell? ⟨b,o,none⟩=some v):(w.putObj r (.deferred none)).cell? ⟨b,o,none⟩=some v:=by
 have hb:b≠r:=fun e=>by subst e;simp[World.cell?,hr]at h
 exact(zhc (World.putObj_heap_other hb)).trans h
theorem zkl{r:Nat}{d:Option (List Deferred)}(hr:w.heap[r]? =some (.deferred d)){b:Nat}{s:TypeId × Nat}(h:w.shape? b=some s):(w.putObj r (.deferred none)).shape? b=some s:=by
 have hb:b≠r:=fun e=>by subst e;simp[World.shape?,hr]at h
 exact(zbw (World.putObj_heap_other hb)).trans h
theorem zil{r:Nat}{d:Option (List Deferred)}(hr:w.heap[r]? =some (.deferred d)){b:Nat}{o:Obj}(ho:∀d,o≠ .deferred d)(h:w.heap[b]? =some o):(w.putObj r (.deferred none)).heap[b]? =some o:=by
 have hb:b≠r:=fun e=>by subst e;rw[hr]at h;cases h;exact ho _ rfl
 exact(World.putObj_heap_other hb).trans h
theorem RdD.dturn{r:Nat}{d:Option (List Deferred)}(hr:w.heap[r]? =some (.deferred d)){own:Nat→Prop}{x:D}{v:Value}(h:RdD w own x v):RdD (w.putObj r (.deferred none)) own x v:=by
 induction h with
 |val v=>exact .val v
 |f0 a cap hm hn=>exact .f0 a cap hm hn
 |fs cs n cap b off f h1 h2 hn hm hc h3 _ ih=>exact .fs cs n cap b off f (by simpa using h1) h2 hn hm (fun j x hj=>zm0 hr (hc j x hj)) h3 ih
 |fp cs i b off f h1 h2 hc h3 _ ih=>exact .fp cs i b off f (by simpa using h1) h2 (fun j x hj=>zm0 hr (hc j x hj)) h3 ih
 |agg cs vs hl _ ih=>exact .agg cs vs hl ih
 |clo fn fi ca vs us hl _ hl' _ ih ih'=>exact .clo fn fi ca vs us hl ih hl' ih'
 |mp es clock b h1 h2 hg hn=>exact .mp es clock b (by simpa using h1) h2 (zil hr (fun _ e=>by cases e) hg) hn
theorem Rd.dturn{r:Nat}{d:Option (List Deferred)}(hr:w.heap[r]? =some (.deferred d)){own:Nat→Prop}{x:AV}{v:Value}(h:Rd w pl own x v):Rd (w.putObj r (.deferred none)) pl own x v:=by
 induction h with
 |any v=>exact .any v
 |d x v h=>exact .d x v (h.dturn hr)
 |os k id off n cap b base sz t h1 h2 h3 h4 h5=>exact .os k id off n cap b base sz t h1 (zkl hr h2) h3 h4 h5
 |os0 k id off a=>exact .os0 k id off a
 |op id off b base h1=>exact .op id off b base h1
 |om id b base h1=>exact .om id b base h1
 |agg cs vs hl _ ih=>exact .agg cs vs hl ih
 |tup cs vs hl _ ih=>exact .tup cs vs hl ih
 |clo fn fi ca vs us hl _ hl' _ ih ih'=>exact .clo fn fi ca vs us hl ih hl' ih'
theorem ObjAt.dturn{r:Nat}{d:Option (List Deferred)}(hr:w.heap[r]? =some (.deferred d)){own:Nat→Prop}{id:Nat}{o:AObj}(h:ObjAt w pl own id o):ObjAt (w.putObj r (.deferred none)) pl own id o:=by
 cases o with
 |free=>exact h
 |dead=>trivial
 |cells cs=>
  rcases h with⟨h1,h2⟩|⟨b,base,arr,t,h1,h2,h3,h4⟩
  ·exact .inl ⟨h1,h2⟩
  ·exact .inr ⟨b,base,arr,t,h1,zil hr (fun _ e=>by cases e) h2,h3,fun j x hj=>⟨(h4 j x hj).1.dturn hr,(h4 j x hj).2⟩⟩
 |map es clock=>
  obtain⟨b,base,ms,h1,h2,h3,h5,h4⟩:=h
  exact⟨b,base,ms,h1,zil hr (fun _ e=>by cases e) h2,h3,h5,fun j e k n x hj hk=>⟨(h4 j e k n x hj hk).1,(h4 j e k n x hj hk).2.1,(h4 j e k n x hj hk).2.2.dturn hr⟩⟩
 |loop b l fr=>
  obtain⟨base,h1,h2,h3⟩:=h
  exact⟨base,h1,zil hr (fun _ e=>by cases e) h2,fun j x hj=>(h3 j x hj).dturn hr⟩
theorem RelS.dturn(h:RelS c τ H sh pl a w){r:Nat}(ha:a.defers=[])(hr:w.heap[r]? =some (.deferred (some [])))(hm:c.w0.heap.size≤r):RelS c τ H sh pl a (w.putObj r (.deferred none)):=
 ⟨⟨h.h.len,fun id o ho=>(h.h.obj id o ho).dturn hr,h.h.dis,h.h.ext,h.h.shl,h.h.shr⟩,
  ⟨h.stp.os,h.stp.tape,h.stp.output,by simpa using h.stp.size,fun b hb hn=>(World.putObj_heap_other (by omega)).trans (h.stp.block b hb hn),fun b s hs=>zkl hr (h.stp.shape b s hs)⟩,
  h.own0,h.ext,fun t=>(h.fr t).dturn hr,h.size,by rw[ha];exact Dfk.nil,h.keep⟩
theorem RelS.shut(h:RelS c τ H sh pl a w)(hm:c.w0.heap.size≤c.m0):∃rs:List Nat,a.defers=rs.map mkD∧rs.Nodup∧(∀r∈rs,w.heap[r]? =some (.deferred (some [])))∧RelS c τ H sh pl {a with defers:=[]} (shut rs w):=by
 obtain⟨rs,h1,h2,h3⟩:=h.defs
 refine⟨rs,h1,h2,fun r hr=>(h3 r hr).2.1,?_⟩
 have h0:RelS c τ H sh pl {a with defers:=[]} w:=⟨h.h,h.stp,h.own0,h.ext,h.fr,h.size,Dfk.nil,h.keep⟩
 have h3':∀r∈rs,c.w0.heap.size≤r∧w.heap[r]? =some (.deferred (some [])):=fun r hr=>⟨Nat.le_trans hm (h3 r hr).1,(h3 r hr).2.1⟩
 clear h1 h3 h
 induction rs generalizing w with
 |nil=>exact h0
 |cons r rs ih=>
  rw[List.nodup_cons]at h2
  obtain⟨k1,k2⟩:=h3' r List.mem_cons_self
  exact ih h2.2 (h0.dturn rfl k2 k1) fun q hq=>⟨(h3' q (List.mem_cons_of_mem _ hq)).1,(World.putObj_heap_other (fun e=>by subst e;exact h2.1 hq)).trans (h3' q (List.mem_cons_of_mem _ hq)).2⟩
theorem zh3{fn:Func}{tmps:Array Value}{Rr:Ending→World→Prop}:∀(rs:List Nat) (w:World),rs.Nodup→(∀r∈rs,w.heap[r]? =some (.deferred (some [])))→(∃v,(results fn tmps).run P (shut rs w)= .ok v (shut rs w)∧Rr (.returned v) (shut rs w))→
  LeavesInM Fence.wide 0 P fn tmps Rr (rs.map mkD) .returning w
 |[],w,_,_,h=>h
 |r::rs,w,hn,hd,h=>by
  rw[List.nodup_cons]at hn
  refine⟨by simp,.inl ⟨r,_,rfl,run_takeDeferred (hd r List.mem_cons_self),zh3 rs _ hn.2 (fun q hq=>?_) h⟩⟩
  exact(World.putObj_heap_other (fun e=>by subst e;exact hn.1 hq)).trans (hd q (List.mem_cons_of_mem _ hq))
theorem zfb{f:FuncId}{fn:Func}{code:Code}{vals:Array Value}{Rr:Ending→World→Prop}{Q:AV→zaa→Prop}{c:Cx}{w:World}(hc:c.rnd=none)(hm:c.w0.heap.size≤c.m0)(hf:P.funcs[f]? =some fn)(hb:fn.body=some code)
  (h:code.wpIn c.F 0 P (fun e a' w'=>∃τ' H',R c τ' H' [] a' w'∧zer P fn Q e τ' H') {tmps:=vals++Array.replicate (fn.ntmps - vals.size) undef,defers:=[]} w)
  (hR:∀τ' H' pl' a' w' x v,RelS c τ' H' [] pl' a' w'→Q x H'→Rd w' pl' (za4 c.E H' pl') x v→Rr (.returned v) w'):Calls P f vals w Rr:=by
 refine(callsIn_wide (n:=0)).1 (callsIn_of_wp_marks hf hb trivial ?_)
 have hF:c.F=Fence.wide:=by cases c;cases hc;rfl
 rw[hF]at h
 refine wpIn_mono h fun e a' w' ⟨τ',H',⟨pl',h1⟩,h2⟩=>?_
 have key:zsq P τ' H' fn.results.toList (fun xs=>Q (retV xs) H')→LeavesInM Fence.wide 0 P fn a'.tmps Rr a'.defers .returning w':=fun h2=>by
  obtain⟨rs,e1,e2,e3,e4⟩:=h1.shut hm
  obtain⟨xs,v,k1,k2,k3⟩:=zoy e4 fn h2
  rw[e1]
  exact zh3 rs w' e2 e3 ⟨v,k3,hR _ _ _ _ _ _ _ e4 k1 k2⟩
 cases e with
 |normal=>exact key h2
 |ret=>exact key h2
 |_=>exact h2.elim
def zdp(xs:List AV):Fr:=fun t=>xs.getD t (.d (.val undef))
def zf4(ds:List D):Fr:=fun t=>(ds.map AV.d).getD t (.d (.val undef))
theorem zi4(vals:Array Value)(n t:Nat):(vals++Array.replicate n undef).getD t undef=vals.getD t undef:=by
 rw[Array.getD_eq_getD_getElem?,Array.getD_eq_getD_getElem?,Array.getElem?_append]
 split
 ·rfl
 ·rename_i h
  rw[Array.getElem?_eq_none (xs:=vals) (by omega)]
  by_cases hn:t - vals.size<n
  ·simp[hn]
  ·simp[hn]
theorem zh4{f:FuncId}{fn:Func}{code:Code}{xs:List AV}{Q:AV→zaa→Prop}{E:Nat→Prop}{vals:Array Value}(hf:P.funcs[f]? =some fn)(hb:fn.body=some code)(hn:xs.length≤fn.ntmps)(h:∀c:Cx,c.nt=fn.ntmps→Top c→AWp P c code (zer P fn Q) (zdp xs) H)
  (hl:vals.size=xs.length) (hx:∀j x,xs[j]? =some x→Rd w pl (za4 E H pl) x (vals.getD j undef)) (hh:RelH E w pl H []) (hE:∀b,E b→b<w.heap.size):
  Calls P f vals w fun e w'=>∃v x H' a' pl' τ',e= .returned v∧Q x H'∧Rd w' pl' (za4 E H' pl') x v∧RelS ⟨E,w,zco H pl,fn.ntmps,pl,none,w.heap.size⟩ τ' H' [] pl' a' w':=by
 have hR:R ⟨E,w,zco H pl,fn.ntmps,pl,none,w.heap.size⟩ (zdp xs) H [] {tmps:=vals++Array.replicate (fn.ntmps - vals.size) undef,defers:=[]} w:=by
  refine⟨pl,hh,Stp.refl _ _,fun id o p h1 h2 h3=>.inl ⟨id,o,p.2,h1,h2,h3⟩,hE,fun t=>?_,by simp;omega,Dfk.nil,fun i p hi=>hi⟩
  simp only[zi4]
  unfold zdp
  rw[List.getD_eq_getElem?_getD]
  cases hd:xs[t]? with
  |none=>
   have:vals.size≤t:=by rw[hl];exact List.getElem?_eq_none_iff.1 hd
   simp only[Array.getD,dif_neg (Nat.not_lt.2 this)]
   exact .d _ _ (.val _)
  |some x=>exact hx t x hd
 exact zfb (c:=⟨E,w,zco H pl,fn.ntmps,pl,none,w.heap.size⟩) rfl (Nat.le_refl _) hf hb (h _ rfl ⟨rfl,Nat.le_refl _⟩ _ w hR) fun τ' H' pl' a' w' x v h1 k1 k2=>⟨v,x,H',a',pl',τ',rfl,k1,k2,h1⟩
theorem zh5{f:FuncId}{fn:Func}{code:Code}{ds:List D}{Q:AV→zaa→Prop}{E:Nat→Prop}{vals:Array Value}(hf:P.funcs[f]? =some fn)(hb:fn.body=some code)(hn:ds.length≤fn.ntmps)(h:∀c:Cx,c.nt=fn.ntmps→AWp P c code (zer P fn Q) (zf4 ds) [])
  (hl:vals.size=ds.length) (hx:∀j x,ds[j]? =some x→RdD w E x (vals.getD j undef)) (hE:∀b,E b→b<w.heap.size):
  Calls P f vals w fun e w'=>∃v x H' a' pl τ',e= .returned v∧Q x H'∧Rd w' pl (za4 E H' pl) x v∧RelS ⟨E,w,fun _=>False,fn.ntmps,[],none,w.heap.size⟩ τ' H' [] pl a' w':=by
 have hown:∀b,za4 E [] [] b→E b:=fun b hb=>by
  rcases hb with hb|⟨i,o,e,h1,_⟩
  ·exact hb
  ·simp at h1
 have hnot:∀b,¬zco [] [] b:=fun b ⟨i,o,e,h1,_⟩=>by simp at h1
 refine(zh4 (w:=w) (pl:=[]) (H:=[]) (xs:=ds.map .d) hf hb (by simpa using hn) (fun c h1 _=>h c h1) (by simpa using hl) (fun j x hj=>?_) ⟨rfl,fun id o ho=>by simp at ho,fun i j oi oj p q h1=>by simp at h1,fun i o p h1=>by simp at h1,fun p hp=>(by cases hp),fun i j ci cj p q hm=>(by cases hm)⟩ hE).mono fun e w' ⟨v,x,H',a',pl',τ',k1,k2,k3,k4⟩=>
  ⟨v,x,H',a',pl',τ',k1,k2,k3,k4.h,k4.stp.mono (fun b _ hb=>(hnot b hb).elim),fun id o p h1 h2 h3=>(k4.own0 id o p h1 h2 h3).imp (fun h=>(hnot _ h).elim) (fun h=>h),k4.ext,k4.fr,k4.size,k4.defs,k4.keep⟩
 rw[List.getElem?_map,Option.map_eq_some_iff]at hj
 obtain⟨y,hy,rfl⟩:=hj
 exact .d _ _ ((hx j y hy).mono (Nat.le_refl _) (fun _ _ _=>rfl) (fun b _ hb=>hown b hb))
def IcK(P:Program)(f:FuncId)(xs:List AV)(H:zaa)(K:AV→zaa→Prop):Prop:=
 zk7 P f=true∧∃fn code,P.funcs[f]? =some fn∧fn.body=some code∧xs.length≤fn.ntmps∧∀c:Cx,c.nt=fn.ntmps→AWp P c code (zer P fn K) (zdp xs) H
def IcS(P:Program)(f:FuncId)(xs:List AV)(H:zaa)(K:AV→zaa→Prop):Prop:=
 zk7 P f=true∧∀(E:Nat→Prop) (w:World) (pl:List (Option (Nat × Nat))) (vals:Array Value),vals.size=xs.length→(∀j x,xs[j]? =some x→Rd w pl (za4 E H pl) x (vals.getD j undef))→RelH E w pl H []→(∀b,E b→b<w.heap.size)→
  Calls P f vals w fun e w'=>∃v x H' pl',e= .returned v∧K x H'∧Rd w' pl' (za4 E H' pl') x v∧RelH E w' pl' H' []∧Stp (zco H pl) w w'∧(∀b,zco H' pl' b→zco H pl b∨w.heap.size≤b)∧(∀(i:Nat) (p:Nat × Nat),pl[i]? =some (some p)→pl'[i]? =some (some p))
theorem IcK.sem{f:FuncId}{xs:List AV}{K:AV→zaa→Prop}(h:IcK P f xs H K):IcS P f xs H K:=by
 obtain⟨he,fn,code,hf,hb,hn,hw⟩:=h
 exact⟨he,fun E w pl vals hl hx hh hE=>(zh4 hf hb hn (fun c h1 _=>hw c h1) hl hx hh hE).mono fun e w' ⟨v,x,H',a',pl',τ',k1,k2,k3,k4⟩=>⟨v,x,H',pl',k1,k2,k3,k4.h,k4.stp,fun b ⟨i,o,q,b1,b2,b3⟩=>k4.own0 i o _ b1 b2 b3,k4.keep⟩⟩
theorem IcS.mono{f:FuncId}{xs:List AV}{K K':AV→zaa→Prop}(h:IcS P f xs H K)(hK:∀x H',K x H'→K' x H'):IcS P f xs H K':=
 ⟨h.1,fun E w pl vals hl hx hh hE=>(h.2 E w pl vals hl hx hh hE).mono fun e w' ⟨v,x,H',pl',k1,k2,k3⟩=>⟨v,x,H',pl',k1,hK _ _ k2,k3⟩⟩
def ScK(P:Program)(sm:List Nat)(f:FuncId)(xs:List AV)(τ:Fr)(H:zaa)(K:AV→zaa→Prop):Prop:=
 ∃(m:List Nat) (S T:zaa) (K0:AV→zaa→Prop),H=S++T∧sm.all (okI m S.length)=true∧(∀t,(τ t).allI (okI m S.length)=true)∧AV.allIs (ltI S.length) xs=true∧(∀o∈S,o.allI (ltI S.length)=true)∧(∀o∈T,o.allI (okI m S.length)=true)∧
  ScS P m f xs S K0∧∀x S',K0 x S'→S'.length=S.length∧K x (S'++T)
theorem zum{sm:List Nat}(hc0:Kp c sm)(h:RelS c τ H [] pl a w){o:Oper}{K0:AV→zaa→Prop}{n:FuncId}{xs:List AV}(hq:ScK P sm n xs τ H K0){K:Act→World→Prop}{Q:Exit→Act→World→Prop}
  {f:Operand} {args:Array Operand} {ts:Array TypeId} {vs us:Array Value} (e:o.op= .call {callee:=.value f,args:=args,argTypes:=ts}) (hv:a.eval f= .func (.func n) vs us)
  (hl:(vs++args.map a.eval++us).size=xs.length) (hx:∀j x,xs[j]? =some x→Rd w pl (za4 c.E H pl) x ((vs++args.map a.eval++us).getD j undef))
  (hK:∀x v H' w' pl',K0 x H'→RelS c τ H' [] pl' a w'→Rd w' pl' (za4 c.E H' pl') x v→K (a.put o.dst v) w'):o.wp P a w K Q:=by
 obtain⟨m,S,T,K1,rfl,h1,h2,h3,h4,h5,⟨he,hs⟩,h6⟩:=hq
 have hlen:=h.h.len
 rw[List.length_append]at hlen
 obtain⟨pS,pT,rfl,hpS⟩:∃pS pT,pl=pS++pT∧pS.length=S.length:=⟨pl.take S.length,pl.drop S.length,(List.take_append_drop _ _).symm,by rw[List.length_take];omega⟩
 refine zfs (zft e hv he) ((hs (zzo c.E T pT) w pS _ hl (fun j x hj=>?_) (zow h.h hpS h4) (fun b hb=>h.own_lt b ?_)).mono fun e w' ⟨v,x,S',pl',k1,k2,k3,k4,k5,k6,k7⟩=>?_)
 ·refine(hx j x hj).place (p:=ltI S.length) (AV.allIs_get h3 hj) (Nat.le_refl _) (fun _ _ _=>rfl) (fun b _ hb=>(zge hpS).1 hb) (fun _ _ h=>h) (fun i q hi hq=>?_)
  have hi:i<S.length:=by simpa[ltI]using hi
  rwa[List.getElem?_append_left (by omega)]at hq
 ·rcases hb with hb|hb
  ·exact .inl hb
  ·exact .inr ((zcc hpS).2 (.inr hb))
 ·obtain⟨l1,l2⟩:=h6 x S' k2
  have hR:=zox h hpS hc0 h1 h2 h5 l1 k4 k5 k6 k7
  exact⟨v,k1,hK x v _ w' _ l2 hR (k3.mono (Nat.le_refl _) (fun _ _ _=>rfl) (fun b _ hb=>(zge k4.len).2 hb) (fun _ _ h=>h) (fun i q hq=>zep hq))⟩
def zm1(m:List Nat)(pl:List (Option (Nat × Nat))):List (Option (Nat × Nat)):=(List.range pl.length).map fun i=>if m.contains i then pl.getD i none else none
theorem zgx{m:List Nat}{pl:List (Option (Nat × Nat))}{i:Nat}{p:Nat × Nat}(h:(zm1 m pl)[i]? =some (some p)):i∈m∧pl[i]? =some (some p):=by
 unfold zm1 at h
 rw[List.getElem?_map,Option.map_eq_some_iff]at h
 obtain⟨j,hj,h⟩:=h
 have hj':=List.getElem?_eq_some_iff.1 hj
 obtain⟨h1,h2⟩:=hj'
 simp at h1 h2
 subst h2
 split at h
 ·rename_i hm
  refine⟨by simpa using hm,?_⟩
  rw[List.getElem?_eq_getElem h1]
  rw[List.getD_eq_getElem?_getD,List.getElem?_eq_getElem h1]at h
  exact congrArg some h
 ·cases h
theorem zqh{m:List Nat}{pl:List (Option (Nat × Nat))}{i:Nat}{p:Nat × Nat}(h:i∈m)(hp:pl[i]? =some (some p)):(zm1 m pl)[i]? =some (some p):=by
 have hlt:=(List.getElem?_eq_some_iff.1 hp).1
 unfold zm1
 rw[List.getElem?_map,List.getElem?_range hlt,Option.map_some,if_pos (by simpa using h),List.getD_eq_getElem?_getD,hp];rfl
theorem jeu{f:FuncId}{fn:Func}{code:Code}{xs:List AV}{m:List Nat}{S:zaa}{Q:AV→zaa→Prop}(he:zk7 P f=true)(hf:P.funcs[f]? =some fn)(hb:fn.body=some code)(hn:xs.length≤fn.ntmps)
  (h:∀c:Cx,c.nt=fn.ntmps→Kp c m→Top c→AWp P c code (zer P fn Q) (zdp xs) S):ScS P m f xs S Q:=by
 refine⟨he,fun E w pl vals hl hx hh hE=>?_⟩
 have hR:R ⟨E,w,zco S pl,fn.ntmps,zm1 m pl,none,w.heap.size⟩ (zdp xs) S [] {tmps:=vals++Array.replicate (fn.ntmps - vals.size) undef,defers:=[]} w:=by
  refine⟨pl,hh,Stp.refl _ _,fun id o p h1 h2 h3=>.inl ⟨id,o,p.2,h1,h2,h3⟩,hE,fun t=>?_,by simp;omega,Dfk.nil,fun i p hi=>?_⟩
  ·simp only[zi4]
   unfold zdp
   rw[List.getD_eq_getElem?_getD]
   cases hd:xs[t]? with
   |none=>
    have:vals.size≤t:=by rw[hl];exact List.getElem?_eq_none_iff.1 hd
    simp only[Array.getD,dif_neg (Nat.not_lt.2 this)]
    exact .d _ _ (.val _)
   |some x=>exact hx t x hd
  ·exact(zgx hi).2
 have fin:∀{τ':Fr} {H':zaa} {pl':List (Option (Nat × Nat))} {a':Act} {w':World} {v x:_},RelS ⟨E,w,zco S pl,fn.ntmps,zm1 m pl,none,w.heap.size⟩ τ' H' [] pl' a' w'→Q x H'→Rd w' pl' (za4 E H' pl') x v→
   ∃v' x S' pl',Ending.returned v= .returned v'∧Q x S'∧Rd w' pl' (za4 E S' pl') x v'∧RelH E w' pl' S' []∧Stp (zco S pl) w w'∧(∀b,zco S' pl' b→zco S pl b∨w.heap.size≤b)∧(∀(i:Nat) (p:Nat × Nat),i∈m→pl[i]? =some (some p)→pl'[i]? =some (some p)):=fun h1 k1 k2=>
  ⟨_,_,_,_,rfl,k1,k2,h1.h,h1.stp,fun b ⟨i,o,q,b1,b2,b3⟩=>h1.own0 i o (b,q) b1 b2 b3,fun i p hi hp=>h1.keep i p (zqh hi hp)⟩
 exact zfb (c:=⟨E,w,zco S pl,fn.ntmps,zm1 m pl,none,w.heap.size⟩) rfl (Nat.le_refl _) hf hb (h _ rfl (fun i p hi=>(zgx hi).1) ⟨rfl,Nat.le_refl _⟩ _ w hR) fun τ' H' pl' a' w' x v h1 k1 k2=>fin h1 k1 k2
theorem zgf{f:FuncId}{fn:Func}{code:Code}{xs:List AV}{m:List Nat}{S:zaa}{Q:AV→zaa→Prop}(he:zk7 P f=true)(hf:P.funcs[f]? =some fn)(hb:fn.body=some code)(hn:xs.length≤fn.ntmps)
  (h:∀c:Cx,c.nt=fn.ntmps→Kp c m→AWp P c code (zer P fn Q) (zdp xs) S):ScS P m f xs S Q:=jeu he hf hb hn fun c h1 h2 _=>h c h1 h2
def YsS(P:Program)(m:List Nat)(l:Nat)(xs:List AV)(S:zaa)(K:AV→zaa→Prop):Prop:=
 ∀(E:Nat→Prop) (w:World) (pl:List (Option (Nat × Nat))) (vals:Array Value),vals.size=xs.length→(∀j x,xs[j]? =some x→Rd w pl (za4 E S pl) x (vals.getD j undef))→RelH E w pl S []→(∀b,E b→b<w.heap.size)→
  ∃fn tmps assign body,(Instr.yield l vals).run P w= .ok (.round l fn tmps assign body) w∧
   RoundIn Fence.wide 0 P l fn tmps assign body w fun e w'=>∃v x S' pl',e= .returned v∧K x S'∧Rd w' pl' (za4 E S' pl') x v∧RelH E w' pl' S' []∧Stp (zco S pl) w w'∧(∀b,zco S' pl' b→zco S pl b∨w.heap.size≤b)∧(∀(i:Nat) (p:Nat × Nat),i∈m→pl[i]? =some (some p)→pl'[i]? =some (some p))
def YcK(P:Program)(sm:List Nat)(l:Nat)(xs:List AV)(τ:Fr)(H:zaa)(K:AV→zaa→Prop):Prop:=
 ∃(m:List Nat) (S T:zaa) (K0:AV→zaa→Prop),H=S++T∧sm.all (okI m S.length)=true∧(∀t,(τ t).allI (okI m S.length)=true)∧AV.allIs (ltI S.length) xs=true∧(∀o∈S,o.allI (ltI S.length)=true)∧(∀o∈T,o.allI (okI m S.length)=true)∧
  YsS P m l xs S K0∧∀x S',K0 x S'→S'.length=S.length∧K x (S'++T)
theorem zun{f:Operand}{args:Array Operand}{ts:Array TypeId}{o:Oper}(ho:o.op= .call {callee:=.value f,args:=args,argTypes:=ts}){l:Nat}(hf:a.eval f= .func (.yield l) #[] #[]):
  (execOp a.eval o).run P w=(Instr.yield l (args.map a.eval)).run P w:=by
 unfold execOp
 simp[ho,resolve,hf,Deferred.ofValue,invoke]
theorem zuo{sm:List Nat}(hc0:Kp c sm)(h:RelS c τ H [] pl a w){o:Oper}{K0:AV→zaa→Prop}{l:Nat}{K:Act→World→Prop}{Q:Exit→Act→World→Prop}
  {f:Operand} {args:Array Operand} {ts:Array TypeId} (hq:YcK P sm l (args.toList.map (zap τ)) τ H K0) (e:o.op= .call {callee:=.value f,args:=args,argTypes:=ts}) (hl:zap τ f= .d (.val (.func (.yield l) #[] #[])))
  (hK:∀x v H' w' pl',K0 x H'→RelS c τ H' [] pl' a w'→Rd w' pl' (za4 c.E H' pl') x v→K (a.put o.dst v) w'):o.wpIn c.F 0 P a w K Q:=by
 obtain⟨m,S,T,K1,rfl,h1,h2,h3,h4,h5,hs,h6⟩:=hq
 have hv:a.eval f= .func (.yield l) #[] #[]:=by
  have:=h.eval f
  rw[hl]at this
  generalize a.eval f=z at this
  cases this with|d _ _ hh=>cases hh;rfl
 have hx:=h.args args
 have hlen:=h.h.len
 rw[List.length_append]at hlen
 obtain⟨pS,pT,rfl,hpS⟩:∃pS pT,pl=pS++pT∧pS.length=S.length:=⟨pl.take S.length,pl.drop S.length,(List.take_append_drop _ _).symm,by rw[List.length_take];omega⟩
 obtain⟨fn,tmps,assign,body,g1,g2⟩:=hs (zzo c.E T pT) w pS (args.map a.eval) hx.1 (fun j x hj=>by
  refine(hx.2 j x hj).place (p:=ltI S.length) (AV.allIs_get h3 hj) (Nat.le_refl _) (fun _ _ _=>rfl) (fun b _ hb=>(zge hpS).1 hb) (fun _ _ h=>h) (fun i q hi hq=>?_)
  have hi:i<S.length:=by simpa[ltI]using hi
  rwa[List.getElem?_append_left (by omega)]at hq) (zow h.h hpS h4) (fun b hb=>h.own_lt b (by
  rcases hb with hb|hb
  ·exact .inl hb
  ·exact .inr ((zcc hpS).2 (.inr hb))))
 refine⟨fun _ _=>trivial,?_⟩
 have es:o.semAt c.F.round a.eval=execOp a.eval o:=by
  cases hr:c.F.round with
  |none=>rfl
  |some l=>exact Oper.semAt_some l _ o fun x hx=>by rw[e]at hx;cases hx
 rw[es,zun e hv,g1]
 refine⟨fun hh=>(by cases hh),⟨trivial,fun cc cs hr=>?_⟩⟩
 obtain⟨e',w',⟨v,x,S',pl',k0,k2,k3,k4,k5,k6,k7⟩,hc⟩:=g2.2 cc cs hr
 obtain⟨l1,l2⟩:=h6 x S' k2
 have hR:=zox h hpS hc0 h1 h2 h5 l1 k4 k5 k6 k7
 subst k0
 exact⟨.returned v,w',hK x v _ w' _ l2 hR (k3.mono (Nat.le_refl _) (fun _ _ _=>rfl) (fun b _ hb=>(zge k4.len).2 hb) (fun _ _ h=>h) (fun i q hq=>zep hq)),hc⟩
def ji3(P:Program)(sm:List Nat)(op:Op)(τ:Fr)(H:zaa)(K:AV→zaa→Prop):Prop:=
 match op with
 | .call {callee:=.value f,args:=args,argTypes:=_}=>(∃n fi ca,zde (zap τ f)=some (n,fi,ca)∧(IcS P n (fi++args.toList.map (zap τ)++ca) H K∨(∃ds Q,AV.toD.toDs (fi++args.toList.map (zap τ)++ca)=some ds∧zix P n ds Q∧∀x,Q x→K x H)∨ScK P sm n (fi++args.toList.map (zap τ)++ca) τ H K))∨
   ∃l,zap τ f= .d (.val (.func (.yield l) #[] #[]))∧YcK P sm l (args.toList.map (zap τ)) τ H K
 |_=>False
def zci:Op→Bool
 | .call {callee:=.value _,..}=>true
 |_=>false
theorem zkm{sm:List Nat}(hc0:Kp c sm)(h:RelS c τ H [] pl a w){o:Oper}{K0:AV→zaa→Prop}(hq:ji3 P sm o.op τ H K0){K:Act→World→Prop}{Q:Exit→Act→World→Prop}
  (hK:∀x v H' w' pl',K0 x H'→RelS c τ H' [] pl' a w'→Rd w' pl' (za4 c.E H' pl') x v→K (a.put o.dst v) w'):o.wpIn c.F 0 P a w K Q:=by
 unfold ji3 at hq
 split at hq
 ·rename_i f args ts e
  rcases hq with hq|⟨l,hl,hq⟩
  case inr=>exact zuo hc0 h hq e hl hK
  refine zbi c (by rw[e];rfl) ?_
  obtain⟨n,fi,ca,hc,hq⟩:=hq
  obtain⟨vs,us,hv,h1,h2⟩:=zeo hc (h.eval f)
  have hall:=(h1.append (h.args args)).append h2
  rcases hq with hq|⟨ds,Qr,hds,hp,hk⟩|hq
  case inr.inr=>exact zum hc0 h hq e hv hall.1 hall.2 hK
  case inr.inl=>
   refine zfs (zft e hv hp.1) ?_
   obtain⟨l1,l2⟩:=zgc w pl (za4 c.E H pl) _ ds _ hds hall.2
   exact(hp.2 w (za4 c.E H pl) _ (by rw[hall.1,l1]) l2 h.own_lt).mono fun e w' ⟨v,r,he,hq,hr,hb⟩=>⟨v,he,hK r v H w' pl (hk r hq) (h.below hb) (hr.mono (Nat.le_refl _) (fun _ _ _=>rfl) (fun _ _ h=>h) (fun _ _ h=>h) (fun i p hp=>by simp at hp))⟩
  obtain⟨he,hs⟩:=hq
  exact zfs (zft e hv he) ((hs c.E w pl _ hall.1 hall.2 h.h h.lt).mono fun e w' ⟨v,x,H',pl',k1,k2,k3,k4,k5,k6,k7⟩=>⟨v,k1,hK x v H' w' pl' k2 (h.step k5 k7 k6 k4) k3⟩)
 ·exact hq.elim
def zsr(P:Program)(fr:List FuncId)(sm:List Nat)(o:Oper)(τ:Fr)(H:zaa)(K:Fr→zaa→Prop):Prop:=
 match kOf fr o.op with
 |0=>(∃x,OpQ P H.length H (zap τ) o.op x∧K (τ.put o.dst x) H)∨ji3 P sm o.op τ H fun x H'=>K (τ.put o.dst x) H'
 |2=>∃H',OpD P (zap τ) o.op H [] 0 H'∧K (τ.put o.dst (.d (.val undef))) H'
 |4=>∃x H',OpM P (zap τ) o.op H [] x H'∧K (τ.put o.dst x) H'
 |_=>∃x H',OpA P false H.length (zap τ) o.op (H++[.free]) [] x H' []∧K (τ.put o.dst x) H'
def jch(P:Program)(fr:List FuncId)(sm:List Nat)(ops:List Oper):List Oper→Fr→zaa→(Fr→zaa→Prop)→Prop
 |[],τ,H,K=>K τ H
 |o::l,τ,H,K=>∃b,zbr ops τ o=some b∧(b=true→zsr P fr sm o τ H fun τ' H'=>jch P fr sm ops l τ' H' K)∧(b=false→jch P fr sm ops l (τ.put o.dst (.d (.val undef))) H K)
def zdl(nt:Nat)(l:List Oper):Bool:=l.all fun o=>(match o.dst with|some d=>decide (d<nt)|none=>true)&&zzm o.op
theorem zda{fr:List FuncId}{sm:List Nat}(hc0:Kp c sm){ops:List Oper}{K:Fr→zaa→Prop}{Q:Exit→Act→World→Prop}(hK:∀τ H a w,K τ H→R c τ H [] a w→Q .normal a w):
  ∀(l:List Oper) (τ:Fr) (H:zaa) (a:Act) (w:World),zdl c.nt l=true→jch P fr sm ops l τ H K→R c τ H [] a w→wpListIn c.F 0 P ops.toArray Q l a w
 |[],τ,H,a,w,_,h,hR=>hK τ H a w h hR
 |o::l,τ,H,a,w,hd,h,⟨pl,hR⟩=>by
  obtain⟨b,hg,ht,hf⟩:=h
  have hw:=zeq hR hg
  simp only[zdl,List.all_cons,Bool.and_eq_true]at hd
  have hdo:∀d,o.dst=some d→d<c.nt:=fun d e=>by have:=hd.1.1;rw[e]at this;simpa using this
  unfold wpListIn
  cases b with
  |false=>
   rw[if_neg (by rw[hw];decide)]
   exact⟨fun _ _=>trivial,zda hc0 hK l _ _ _ _ hd.2 (hf rfl) ⟨pl,hR.put _ hdo (.d _ _ (.val _))⟩⟩
  |true=>
   rw[if_pos hw]
   have ht:=ht rfl
   unfold zsr at ht
   split at ht
   ·rcases ht with⟨x,hq,hk⟩|hq
    ·exact zbi c hd.1.2 (zgv hR hq fun v w' h1 h2=>zda hc0 hK l _ _ _ _ hd.2 hk ⟨pl,h1.put _ hdo h2⟩)
    ·exact zkm hc0 hR hq fun x v H' w' pl' hk h1 h2=>zda hc0 hK l _ _ _ _ hd.2 hk ⟨pl',h1.put _ hdo h2⟩
   ·obtain⟨H',hq,hk⟩:=ht
    exact zbi c hd.1.2 (zi3 hR hq fun w' pl' h1=>zda hc0 hK l _ _ _ _ hd.2 hk ⟨pl',h1.put _ hdo (.d _ _ (.val _))⟩)
   ·obtain⟨x,H',hq,hk⟩:=ht
    exact zbi c hd.1.2 (zi1 hR hq fun v w' h1 h2=>zda hc0 hK l _ _ _ _ hd.2 hk ⟨pl,h1.put _ hdo h2⟩)
   ·obtain⟨x,H',hq,hk⟩:=ht
    exact zbi c hd.1.2 (zgw hR.reserve (by rw[List.getElem?_append_right (Nat.le_refl _)];simp) (fun p hp=>by cases hp) hq fun v w' pl' h1 h2=>zda hc0 hK l _ _ _ _ hd.2 hk ⟨pl',h1.put _ hdo h2⟩)
variable {Q Q':Exit→Fr→zaa→Prop}
theorem zcd{code:Code}(h:AWp P c code Q τ H)(hq:∀e τ H,Q e τ H→Q' e τ H):AWp P c code Q' τ H:=fun a w hR=>
 wpIn_mono (h a w hR) fun _ _ _ ⟨τ',H',h1,h2⟩=>⟨τ',H',h1,hq _ _ _ h2⟩
theorem zhg{fr:List FuncId}{sm:List Nat}(hc0:Kp c sm){id:Nat}{l:List Oper}(hd:zdl c.nt l=true)(h:jch P fr sm l l τ H (Q .normal)):AWp P c (.region id l.toArray false) Q τ H:=fun a w hR=>
 wpIn_region_lit (zda hc0 (K:=Q .normal) (fun τ' H' a' w' hk hR'=>⟨τ',H',hR',hk⟩) l τ H a w hd h hR)
theorem zah(h:Q .normal τ H):AWp P c .skip Q τ H:=fun _ _ hR=>wpIn_skip ⟨τ,H,hR,h⟩
theorem zat{id:Nat}(h:Q (.exit id) τ H):AWp P c (.exit id) Q τ H:=fun _ _ hR=>wpIn_exit ⟨τ,H,hR,h⟩
theorem zaq(h:Q .ret τ H):AWp P c .ret Q τ H:=fun _ _ hR=>wpIn_ret ⟨τ,H,hR,h⟩
def zcq(next:Fr→zaa→Prop)(Q:Exit→Fr→zaa→Prop):Exit→Fr→zaa→Prop
 | .normal,τ,H=>next τ H
 |e,τ,H=>Q e τ H
theorem zgg{x y:Code}(h:AWp P c x (zcq (AWp P c y Q) Q) τ H):AWp P c (.seq x y) Q τ H:=fun a w hR=>
 wpIn_seq (wpIn_mono (h a w hR) fun e _ _ ⟨τ',H',h1,h2⟩=>by
  cases e with
  |normal=>exact h2 _ _ h1
  |_=>exact⟨τ',H',h1,h2⟩)
def za7(id:Nat)(Q:Exit→Fr→zaa→Prop):Exit→Fr→zaa→Prop
 | .exit id',τ,H=>if id'=id then Q .normal τ H else Q (.exit id') τ H
 |e,τ,H=>Q e τ H
theorem zae{id:Nat}{x:Code}(h:AWp P c x (za7 id Q) τ H):AWp P c (.block id x) Q τ H:=fun a w hR=>
 wpIn_block (wpIn_mono (h a w hR) fun e _ _ ⟨τ',H',h1,h2⟩=>by
  cases e with
  |exit id'=>
   simp only[za7]at h2
   simp only[Exit.inBlock]
   split
   ·rename_i hi;rw[if_pos hi]at h2;exact⟨τ',H',h1,h2⟩
   ·rename_i hi;rw[if_neg hi]at h2;exact⟨τ',H',h1,h2⟩
  |_=>exact⟨τ',H',h1,h2⟩)
theorem zai{o:Operand}{x y:Code}{t:Bool}(ht:zap τ o= .d (.val (.bool t)))(h1:t=true→AWp P c x Q τ H)(h2:t=false→AWp P c y Q τ H):AWp P c (.cond o x y) Q τ H:=fun a w hR=>by
 obtain⟨pl,hS⟩:=hR
 have hv:=hS.eval o
 rw[ht]at hv
 have he:a.eval o= .bool t:=by generalize a.eval o=z at hv;cases hv with|d _ _ hv=>cases hv;rfl
 exact wpIn_cond_split he (fun e=>h1 e a w ⟨pl,hS⟩) (fun e=>h2 e a w ⟨pl,hS⟩)
theorem zj9{p:Nat→Prop}(h:∃n,p n):∃n,p n∧∀m,p m→n≤m:=by
 obtain⟨n,hn⟩:=h
 induction n using Nat.strongRecOn with
 |_ n ih=>
  by_cases hm:∃m,m<n∧p m
  ·obtain⟨m,h1,h2⟩:=hm;exact ih m h1 h2
  ·exact⟨n,hn,fun m hpm=>Nat.le_of_not_lt fun hlt=>hm ⟨m,hlt,hpm⟩⟩
open Classical in
theorem zqi{x:Code}(I:Fr→zaa→Nat→Prop){n0:Nat}(h0:I τ H n0)(round:∀τ H n,I τ H n→AWp P c x (zcq (fun τ' H'=>∃n',n'<n∧I τ' H' n') Q) τ H):AWp P c (.loop x) Q τ H:=fun a w hR=>by
 let J:Act→World→Nat→Prop:=fun a w n=>∃τ H,I τ H n∧R c τ H [] a w
 refine wpIn_loop (fun a w=>∃n,J a w n) (fun a w=>if h:∃n,J a w n then Classical.choose (zj9 h)else 0) ⟨n0,τ,H,h0,hR⟩ fun a w hI=>?_
 obtain⟨hJ,hmin⟩:=Classical.choose_spec (zj9 hI)
 rw[dif_pos hI]
 generalize Classical.choose (zj9 hI)=n at hJ hmin
 obtain⟨τ1,H1,h1,h2⟩:=hJ
 refine wpIn_mono (round τ1 H1 n h1 a w h2) fun e a' w' ⟨τ',H',h3,h4⟩=>?_
 cases e with
 |normal=>
  obtain⟨n',hlt,hI'⟩:=h4
  have hJ':J a' w' n':=⟨τ',H',hI',h3⟩
  refine⟨⟨n',hJ'⟩,?_⟩
  rw[dif_pos ⟨n',hJ'⟩]
  exact Nat.lt_of_le_of_lt ((Classical.choose_spec (zj9 (⟨n',hJ'⟩:∃n,J a' w' n))).2 n' hJ') hlt
 |_=>exact⟨τ',H',h3,h4⟩

def closeA(H:zaa):AV→Option AV
 | .tup xs=>(zc1 (zdr H H.length) 9 xs).map fun ys=>.tup (ys.map .d)
 |x=>(zmv (zdr H H.length) 9 x).map .d
theorem zi5{E:Nat→Prop}(hr:RelH E w pl H sh){x r:AV}{v:Value}(h:closeA H x=some r)(hv:Rd w pl (za4 E H pl) x v):Rd w [] E r v:=by
 unfold closeA at h
 split at h
 ·obtain⟨ys,hy,rfl⟩:=Option.map_eq_some_iff.1 h
  cases hv with|tup _ vs hl hx=>
  obtain⟨h1,h2⟩:=(zi0 hr H.length 9).2 _ ys _ hy hx
  refine .tup _ _ (by simp;omega) fun j x hj=>?_
  rw[List.getElem?_map,Option.map_eq_some_iff]at hj
  obtain⟨y,hy,rfl⟩:=hj
  exact .d _ _ (h2 j y hy)
 ·obtain⟨y,hy,rfl⟩:=Option.map_eq_some_iff.1 h
  exact .d _ _ ((zi0 hr H.length 9).1 _ y v hy hv)
theorem Stp.to_below{w w':World}(h:Stp (fun _=>False) w w'):Below w.heap.size w w':=⟨h.os,h.tape,h.output,h.size,fun b hb=>h.block b hb (fun h=>h)⟩
theorem zup{f:FuncId}{fn:Func}{code:Code}{ds:List D}{r:AV}(he:zk7 P f=true)(hf:P.funcs[f]? =some fn)(hb:fn.body=some code)(hn:ds.length≤fn.ntmps)
  (h:∀c:Cx,c.nt=fn.ntmps→AWp P c code (zer P fn fun x H=>closeA H x=some r) (zf4 ds) []):zas P f ds r:=
 ⟨he,fun _ _ _ hl hx hE=>(zh5 hf hb hn h hl hx hE).mono fun _ _ ⟨v,_,_,_,_,_,h1,h2,h3,h4⟩=>⟨v,h1,zi5 h4.h h2 h3,h4.stp.to_below⟩⟩
def closeN(H:zaa):AV→Option AV
 | .tup xs=>(zzk (zdr H H.length) 9 xs).map fun ys=>.tup (ys.map .d)
 |x=>(jiy (zdr H H.length) 9 x).map .d
theorem zuq{E E':Nat→Prop}(hr:RelH E w pl H sh)(hE':∀(id:Nat) (o:AObj) (p:Nat × Nat),H[id]? =some o→o.live=true→pl[id]? =some (some p)→¬E' p.1){x r:AV}{v:Value}(h:closeN H x=some r)(hv:Rd w pl (za4 E H pl) x v):Rd w [] E' r v:=by
 unfold closeN at h
 split at h
 ·obtain⟨ys,hy,rfl⟩:=Option.map_eq_some_iff.1 h
  cases hv with|tup _ vs hl hx=>
  obtain⟨h1,h2⟩:=(zug hr hE' H.length 9).2 _ ys _ hy hx
  refine .tup _ _ (by simp;omega) fun j x hj=>?_
  rw[List.getElem?_map,Option.map_eq_some_iff]at hj
  obtain⟨y,hy,rfl⟩:=hj
  exact .d _ _ (h2 j y hy)
 ·obtain⟨y,hy,rfl⟩:=Option.map_eq_some_iff.1 h
  exact .d _ _ ((zug hr hE' H.length 9).1 _ y v hy hv)
theorem zur{f:FuncId}{fn:Func}{code:Code}{ds:List D}{r:AV}(he:zk7 P f=true)(hf:P.funcs[f]? =some fn)(hb:fn.body=some code)(hn:ds.length≤fn.ntmps)
  (h:∀c:Cx,c.nt=fn.ntmps→AWp P c code (zer P fn fun x H=>closeN H x=some r) (zf4 ds) []):zqc P f ds r:=
 ⟨he,fun w O _ hl hx hE=>(zh5 hf hb hn h hl hx hE).mono fun _ w' ⟨v,_,_,_,_,_,h1,h2,h3,h4⟩=>⟨v,h1,zuq h4.h (fun id o p k1 k2 k3 hE'=>by
  rcases hE' with hE'|hE'
  ·exact h4.h.ext id o p k1 k2 k3 hE'
  ·rcases h4.own0 id o p k1 k2 k3 with h|h
   ·exact h
   ·simp only at h;omega) h2 h3,h4.stp.to_below⟩⟩
end
/- Of no program: regions that draw their order: the order of the text stands for all. -/
end
section
section
variable {P:Program} {c:Cx} {τ:Fr} {a:Act} {w w':World} {pl pl':List (Option (Nat × Nat))} {H H':zaa} {sh sh':List (Nat × Nat)} {fr:List FuncId} {ops:List Oper} {N:Nat}
structure St where
 τ:Fr
 H:zaa
 sh:List (Nat × Nat)
def lays(fr:List FuncId)(o:Oper):Bool:=kOf fr o.op==1||kOf fr o.op==3
def zf5(fr:List FuncId)(ops:List Oper)(i:Nat):Nat:=(ops.take i).countP (lays fr)
def zc2(ops:List Oper)(o:Oper):Bool:=
 match o.op with
 | .store _ (.tmp t) _=>ops.any fun p=>p.dst==some t&&(match p.op with| .alloc _=>true|_=>false)
 |_=>false
def zdq(N:Nat)(al:List Nat):AV→Bool
 | .os _ id _ _=>decide (id<N)||al.contains (id - N)
 |_=>true
def jij(fr:List FuncId)(ops:List Oper)(o:Oper):List Nat:=(o.after.toList.filter fun e=>Region.binds .any e&&((ops[e.on]?).any (lays fr))).map fun e=>zf5 fr ops e.on
def zka(N:Nat)(al:List Nat)(ρ:Operand→AV)(op:Op):Prop:=
 match op with
 | .call c=>match c.callee with
  | .builtin .append=>∀y∈c.args.toList,zdq N al (ρ y)=true
  |_=>True
 |_=>True
def eff(P:Program)(fr:List FuncId)(ops:List Oper)(N i:Nat)(o:Oper)(b:Bool)(ρ:Operand→AV)(H:zaa)(sh:List (Nat × Nat))(x:AV)(H':zaa)(sh':List (Nat × Nat)):Prop:=
 if b then match kOf fr o.op with
  |0=>OpQ P N H ρ o.op x∧H'=H∧sh'=sh
  |2=>OpD P ρ o.op H sh (if zc2 ops o then N else 0) H'∧x= .d (.val undef)∧sh'=sh
  |4=>OpM P ρ o.op H sh x H'∧sh'=sh
  |_=>H[N+zf5 fr ops i]? =some .free∧(∀p∈sh,p.1≠N+zf5 fr ops i∧p.2≠N+zf5 fr ops i)∧zka N (jij fr ops o) ρ o.op∧OpA P true (N+zf5 fr ops i) ρ o.op H sh x H' sh'
 else x= .d (.val undef)∧H'=H∧sh'=sh
def zoz(P:Program)(fr:List FuncId)(ops:List Oper)(N i:Nat)(σ σ':St):Prop:=
 ∃o b x H' sh',ops[i]? =some o∧zbr ops σ.τ o=some b∧eff P fr ops N i o b (zap σ.τ) σ.H σ.sh x H' sh'∧σ'=⟨σ.τ.put o.dst x,H',sh'⟩
def jev(P:Program)(fr:List FuncId)(ops:List Oper)(N:Nat)(K:St→Prop):Nat→Array Bool→St→Prop
 |0,listed,σ=>Region.ready .any ops.toArray listed=[]∧K σ
 |fuel+1,listed,σ=>(Region.ready .any ops.toArray listed=[]→K σ)∧∀i∈Region.ready .any ops.toArray listed,∃σ',zoz P fr ops N i σ σ'∧jev P fr ops N K fuel (listed.setIfInBounds i true) σ'
theorem zhh{K:St→Prop}{Q:Exit→Act→World→Prop}(hd:zdl c.nt ops=true)(hK:∀σ a w,K σ→R c σ.τ σ.H σ.sh a w→Q .normal a w):
  ∀(fuel:Nat) (listed:Array Bool) (σ:St) (a:Act) (w:World),jev P fr ops N K fuel listed σ→R c σ.τ σ.H σ.sh a w→wpAnyIn c.F 0 P .any ops.toArray Q fuel listed a w
 |0,_,σ,a,w,h,hR=>⟨h.1,hK σ a w h.2 hR⟩
 |fuel+1,listed,σ,a,w,h,hR=>by
  refine⟨fun h0=>hK σ a w (h.1 h0) hR,fun i hi=>?_⟩
  obtain⟨σ',⟨o,b,x,H',sh',ho,hg,hs,rfl⟩,hrest⟩:=h.2 i hi
  obtain⟨pl,hR⟩:=hR
  have hw:=zeq hR hg
  have hdo:∀d,o.dst=some d→d<c.nt:=fun d e=>by
   have:=List.all_eq_true.1 hd o (List.mem_of_getElem? ho)
   rw[e]at this;simpa using((Bool.and_eq_true _ _).mp this).1
  have hnd:zzm o.op=true:=by
   have:=List.all_eq_true.1 hd o (List.mem_of_getElem? ho)
   exact((Bool.and_eq_true _ _).mp this).2
  have ih:=zhh (Q:=Q) hd hK fuel (listed.setIfInBounds i true)
  unfold wpOpIn
  rw[List.getElem?_toArray,ho]
  simp only
  unfold eff at hs
  cases b with
  |false=>
   rw[if_neg (by rw[hw];decide)]
   simp only[Bool.false_eq_true,if_false]at hs
   obtain⟨rfl,rfl,rfl⟩:=hs
   exact⟨fun _ _=>trivial,ih _ _ _ hrest ⟨pl,hR.put _ hdo (.d _ _ (.val _))⟩⟩
  |true=>
   rw[if_pos hw]
   simp only[if_true]at hs
   split at hs
   ·obtain⟨hq,rfl,rfl⟩:=hs
    exact zbi c hnd (zgv hR hq fun v w' h1 h2=>ih _ _ _ hrest ⟨pl,h1.put _ hdo h2⟩)
   ·obtain⟨hq,rfl,rfl⟩:=hs
    exact zbi c hnd (zi3 hR hq fun w' pl' h1=>ih _ _ _ hrest ⟨pl',h1.put _ hdo (.d _ _ (.val _))⟩)
   ·obtain⟨hq,rfl⟩:=hs
    exact zbi c hnd (zi1 hR hq fun v w' h1 h2=>ih _ _ _ hrest ⟨pl,h1.put _ hdo h2⟩)
   ·obtain⟨hn,hsn,_,hq⟩:=hs
    exact zbi c hnd (zgw hR hn hsn hq fun v w' pl' h1 h2=>ih _ _ _ hrest ⟨pl',h1.put _ hdo h2⟩)

theorem zm2{d:Option Tmp}{x:AV}{y:Operand}(h:∀t,d=some t→y≠ .tmp t):zap (τ.put d x) y=zap τ y:=by
 cases d with
 |none=>rfl
 |some d=>
  cases y with
  |tmp t=>
   have hne:t≠d:=fun e=>h d rfl (e▸rfl)
   simp[zap,Fr.put,hne]
  |_=>rfl
theorem zzp{x y:Option Tmp}{u v:AV}(h:∀d,x=some d→y≠some d):(τ.put x u).put y v=(τ.put y v).put x u:=by
 cases x with
 |none=>rfl
 |some d=>
  cases y with
  |none=>rfl
  |some e=>
   have hne:d≠e:=fun he=>h d rfl (he▸rfl)
   funext t
   simp only[Fr.put]
   by_cases h1:t=e<;>by_cases h2:t=d<;>simp_all
theorem zgy{callee:Callee}{args:Array Operand}{ts:Array TypeId}{y:Operand}(hy:y∈args.toList):y∈(Op.call ⟨callee,args,ts⟩).operands:=Array.mem_append.2 (.inr (by simpa using hy))
theorem zgz{ρ ρ':Operand→AV}{op:Op}(h:∀x∈op.operands,ρ x=ρ' x)(M:Nat)(H:zaa)(x:AV):OpQ P M H ρ op x=OpQ P M H ρ' op x:=by
 cases op with
 |call cl=>
  obtain⟨callee,args,ts⟩:=cl
  have ha:args.toList.map ρ=args.toList.map ρ':=List.map_congr_left fun y hy=>h y (zgy hy)
  cases callee with
  |value f=>
   have hf:ρ f=ρ' f:=h f (by simp[Op.operands,Call.operands])
   simp only[OpQ,ha,hf]
  |builtin b=>simp only[OpQ,ha]
  |invoke r m=>rfl
 |build t parts=>
  have:(parts.toList.map fun p=>(p.1,ρ p.2))=parts.toList.map fun p=>(p.1,ρ' p.2):=List.map_congr_left fun p hp=>by rw[h p.2 (by simp only[Op.operands,List.mem_toArray];exact List.mem_map_of_mem hp)]
  simp only[OpQ,this]
 |makeFunc fn fi ca=>
  have h1:fi.toList.map ρ=fi.toList.map ρ':=List.map_congr_left fun y hy=>h y (by simp[Op.operands]at hy ⊢;exact .inl hy)
  have h2:ca.toList.map ρ=ca.toList.map ρ':=List.map_congr_left fun y hy=>h y (by simp[Op.operands]at hy ⊢;exact .inr hy)
  simp only[OpQ,h1,h2]
 |slice t p lo hi mx=>
  cases mx with
  |some _=>rfl
  |none=>
   have hp:ρ p=ρ' p:=h p (by simp[Op.operands])
   have h1:lo.map ρ=lo.map ρ':=by cases lo with|none=>rfl|some y=>simp[h y (by simp[Op.operands])]
   have h2:hi.map ρ=hi.map ρ':=by cases hi with|none=>rfl|some y=>simp[h y (by simp[Op.operands])]
   simp only[OpQ,hp,h1,h2]
 |pick a b c=>simp only[OpQ,h a (by simp[Op.operands]),h b (by simp[Op.operands]),h c (by simp[Op.operands])]
 |binOp op t y z t'=>simp only[OpQ,h y (by simp[Op.operands]),h z (by simp[Op.operands])]
 |indexAddr t y z=>simp only[OpQ,h y (by simp[Op.operands]),h z (by simp[Op.operands])]
 |index t y z=>simp only[OpQ,h y (by simp[Op.operands]),h z (by simp[Op.operands])]
 |move y=>simp only[OpQ,h y (by simp[Op.operands])]
 |assign y=>simp only[OpQ,h y (by simp[Op.operands])]
 |load t y=>simp only[OpQ,h y (by simp[Op.operands])]
 |fieldAddr t y f=>simp only[OpQ,h y (by simp[Op.operands])]
 |field t y f=>simp only[OpQ,h y (by simp[Op.operands])]
 |unOp o t y=>simp only[OpQ,h y (by simp[Op.operands])]
 |convert s t y=>simp only[OpQ,h y (by simp[Op.operands])]
 |extract y i=>simp only[OpQ,h y (by simp[Op.operands])]
 |lookup t m k ok=>simp only[OpQ,h m (by simp[Op.operands]),h k (by simp[Op.operands])]
 |nilCheck y=>simp only[OpQ,h y (by simp[Op.operands])]
 |_=>rfl
theorem zg0{ρ ρ':Operand→AV}{op:Op}(h:∀x∈op.operands,ρ x=ρ' x)(dr:Bool)(n:Nat)(H:zaa)(sh:List (Nat × Nat))(x:AV)(H':zaa)(sh':List (Nat × Nat)):OpA P dr n ρ op H sh x H' sh'=OpA P dr n ρ' op H sh x H' sh':=by
 cases op with
 |call cl=>
  obtain⟨callee,args,ts⟩:=cl
  have ha:args.toList.map ρ=args.toList.map ρ':=List.map_congr_left fun y hy=>h y (zgy hy)
  cases callee with
  |value f=>
   have hf:ρ f=ρ' f:=h f (by simp[Op.operands,Call.operands])
   simp only[OpA,ha,hf]
  |builtin b=>
   obtain⟨args⟩:=args
   obtain⟨ts⟩:=ts
   cases b<;>try rfl
   simp only[OpA]
   split
   ·rename_i s y t t'
    rw[h s (by simp[Op.operands,Call.operands]),h y (by simp[Op.operands,Call.operands])]
   ·rfl
  |invoke r m=>rfl
 |buildSlice t len parts=>
  have:(parts.toList.map fun p=>(p.1,ρ p.2))=parts.toList.map fun p=>(p.1,ρ' p.2):=List.map_congr_left fun p hp=>by rw[h p.2 (by simp only[Op.operands,List.mem_toArray];exact List.mem_map_of_mem hp)]
  simp only[OpA,this]
 |makeSlice t l cp=>simp only[OpA,h l (by simp[Op.operands]),h cp (by simp[Op.operands])]
 |box t y=>simp only[OpA,h y (by simp[Op.operands])]
 |makeMap t hint=>
  simp only[OpA]
  cases hint with
  |none=>simp
  |some y=>simp[h y (by simp[Op.operands])]
 |_=>rfl
theorem zm3{ρ ρ':Operand→AV}{op:Op}(h:∀x∈op.operands,ρ x=ρ' x)(H:zaa)(sh:List (Nat × Nat))(N1:Nat)(H':zaa):OpD P ρ op H sh N1 H'=OpD P ρ' op H sh N1 H':=by
 cases op with
 |store t p y=>simp only[OpD,h p (by simp[Op.operands]),h y (by simp[Op.operands])]
 |_=>rfl
theorem zm4{ρ ρ':Operand→AV}{op:Op}(h:∀x∈op.operands,ρ x=ρ' x)(H:zaa)(sh:List (Nat × Nat))(x:AV)(H':zaa):OpM P ρ op H sh x H'=OpM P ρ' op H sh x H':=by
 cases op with
 |mapUpdate t m k y=>simp only[OpM,h m (by simp[Op.operands]),h k (by simp[Op.operands]),h y (by simp[Op.operands])]
 |insert t m k y=>simp only[OpM,h m (by simp[Op.operands]),h k (by simp[Op.operands]),h y (by simp[Op.operands])]
 |mapEntry t m k=>simp only[OpM,h m (by simp[Op.operands]),h k (by simp[Op.operands])]
 |entryStore t m s y=>simp only[OpM,h m (by simp[Op.operands]),h s (by simp[Op.operands]),h y (by simp[Op.operands])]
 |call cl=>
  obtain⟨callee,⟨args⟩,⟨ts⟩⟩:=cl
  cases callee with
  |builtin b=>
   cases b<;>try rfl
   ·simp only[OpM]
    split
    ·rename_i e;cases e
    ·rename_i m t e
     rw[h m (by simp[Op.operands,Call.operands])]
    ·rfl
   ·simp only[OpM]
    split
    ·rename_i m k t t' e
     rw[h m (by simp[Op.operands,Call.operands]),h k (by simp[Op.operands,Call.operands])]
    ·rename_i e;cases e
    ·rfl
  |_=>rfl
 |_=>rfl
theorem zo0{ρ ρ':Operand→AV}{op:Op}(h:∀x∈op.operands,ρ x=ρ' x)(al:List Nat):zka N al ρ op=zka N al ρ' op:=by
 cases op with
 |call cl=>
  obtain⟨callee,args,ts⟩:=cl
  cases callee with
  |builtin b=>
   cases b<;>try rfl
   simp only[zka]
   refine propext ⟨fun hh y hy=>?_,fun hh y hy=>?_⟩
   ·rw[←h y (zgy hy)];exact hh y hy
   ·rw[h y (zgy hy)];exact hh y hy
  |_=>rfl
 |_=>rfl
theorem zm5{o:Oper}{t:Tmp}(h:Operand.tmp t∈o.op.operands):t∈o.looksAt ops.toArray:=
 List.mem_append_left _ (List.mem_filterMap.2 ⟨.tmp t,by simpa using h,rfl⟩)
theorem zkn{o:Oper}{d:Option Tmp}{x:AV}(h:∀t,d=some t→t∉o.looksAt ops.toArray):zbr ops (τ.put d x) o=zbr ops τ o:=by
 cases d with
 |none=>rfl
 |some d=>
  unfold zbr
  cases hg:o.guard with
  |none=>rfl
  |some p=>
   obtain⟨j,want⟩:=p
   simp only
   cases hj:(ops[j]?).bind (·.dst)with
   |none=>rfl
   |some t=>
    have hne:t≠d:=fun e=>h d rfl (by
     unfold Oper.looksAt
     refine List.mem_append_right _ ?_
     rw[hg]
     simp only[List.getElem?_toArray,hj,Option.toList_some,List.mem_singleton]
     exact e.symm)
    simp[Fr.put,hne]
end
/- Of no program: operations that may change places, and the region's rule. -/
end
section
section
variable {P:Program} {c:Cx} {τ:Fr} {a:Act} {w w':World} {pl pl':List (Option (Nat × Nat))} {H H' H1 H2:zaa} {sh sh' sh1 sh2:List (Nat × Nat)} {fr:List FuncId} {ops:List Oper} {N:Nat} {ρ ρ':Operand→AV}
theorem zo1(h:∀id,id<N→H[id]? =H'[id]?):zdr H N=zdr H' N:=by
 unfold zdr
 congr 1
 ·funext id
  split
  ·rename_i hid;rw[h id hid]
  ·rfl
 ·funext id
  split
  ·rename_i hid;rw[h id hid]
  ·rfl
theorem zi6(h:∀id,id<N→H[id]? =H'[id]?)(m:AV):zc0 H N m=zc0 H' N m:=by
 unfold zc0
 split
 ·rfl
 ·rfl
 ·split
  ·rename_i hid;rw[h _ hid]
  ·rfl
 ·rfl
def quiet:Op→Bool
 | .move _| .assign _| .pick .. | .fieldAddr .. | .field .. | .indexAddr .. | .index .. | .binOp .. | .unOp .. | .convert .. | .build .. | .extract .. | .nilCheck _| .makeFunc .. =>true
 | .call {callee:=.builtin .len,..}| .call {callee:=.builtin .min,..}| .call {callee:=.builtin .max,..}=>true
 |_=>false
theorem zfc{op:Op}(h:quiet op=true)(H H':zaa)(x:AV)(hq:OpQ P N H ρ op x):OpQ P N H' ρ op x:=by
 cases op with
 |call c=>
  obtain⟨callee,args,ts⟩:=c
  cases callee with
  |builtin b=>exact hq
  |_=>cases h
 |_=>first|exact hq|cases h
theorem zds(h:∀id,id<N→H[id]? =H'[id]?)(op:Op)(x:AV)(hq:OpQ P N H ρ op x):OpQ P N H' ρ op x:=by
 unfold OpQ at hq ⊢
 split at hq
 all_goals try exact hq
 ·unfold LoadQ at hq ⊢
  split at hq
  ·exact hq
  ·obtain⟨g,k,h1,h2,h3,cs,h4,h5⟩:=hq
   exact⟨g,k,h1,h2,h3,cs,(h _ h3)▸h4,h5⟩
  ·exact hq
 ·unfold SliceQ at hq ⊢
  split at hq
  ·exact hq
  ·exact hq
  ·exact hq
  ·obtain⟨n,e,s,l,h',cs,h1,h2,h3,h4⟩:=hq
   exact⟨n,e,s,l,h',cs,h1,h2,(h _ h2)▸h3,h4⟩
  ·exact hq
 ·obtain⟨kt,et,z,v,es,h1,h2,h3,h4,h5,h6,h7,h8⟩:=hq
  exact⟨kt,et,z,v,es,h1,h2,h3,h4,h5,h6,(zi6 h _)▸h7,h8⟩
 ·split at hq
  ·obtain⟨n,fi,ca,ds,h1,h2⟩:=hq
   exact⟨n,fi,ca,ds,h1,by rw[←zo1 h];exact h2⟩
  ·exact hq
  ·exact hq
theorem zes{op:Op}(hk:kOf fr op=1){n:Nat}{x:AV}(hq:OpA P true n ρ op H sh x H' sh'):∃o,H'=H.set n o∧sh'=sh∧∀H2 sh2,OpA P true n ρ op H2 sh2 x (H2.set n o) sh2:=by
 unfold OpA at hq
 split at hq
 ·obtain⟨cs,h1,h2,rfl,rfl⟩:=hq
  exact⟨_,rfl,rfl,fun H2 sh2=>⟨cs,h1,h2,rfl,rfl⟩⟩
 ·obtain⟨zs,h1,h2,h3,rfl,rfl⟩:=hq
  exact⟨_,rfl,rfl,fun H2 sh2=>⟨zs,h1,h2,h3,rfl,rfl⟩⟩
 ·obtain⟨e,s,zs,bts,k1,k2,m,m',he,hz,hl,h0,h1,hby,hm,hm',b0,b1,b2,b3,hc,rfl⟩:=hq
  rcases hc with⟨h2,rfl⟩|⟨ds,h2,h3,h4,rfl⟩
  ·exact⟨_,rfl,rfl,fun H2 sh2=>⟨e,s,zs,bts,k1,k2,m,m',he,hz,hl,h0,h1,hby,hm,hm',b0,b1,b2,b3,.inl ⟨h2,rfl⟩,rfl⟩⟩
  ·exact⟨_,rfl,rfl,fun H2 sh2=>⟨e,s,zs,bts,k1,k2,m,m',he,hz,hl,h0,h1,hby,hm,hm',b0,b1,b2,b3,.inr ⟨ds,h2,h3,h4,rfl⟩,rfl⟩⟩
 ·obtain⟨h1,h2,rfl,rfl⟩:=hq
  exact⟨_,rfl,rfl,fun H2 sh2=>⟨h1,h2,rfl,rfl⟩⟩
 ·obtain⟨e,s,zs,cs,he,hz,hl,h0,h1,hsm,hf,hc,rfl⟩:=hq
  rcases hc with⟨h2,rfl⟩|⟨ds,h2,h3,h4,rfl⟩
  ·exact⟨_,rfl,rfl,fun H2 sh2=>⟨e,s,zs,cs,he,hz,hl,h0,h1,hsm,hf,.inl ⟨h2,rfl⟩,rfl⟩⟩
  ·exact⟨_,rfl,rfl,fun H2 sh2=>⟨e,s,zs,cs,he,hz,hl,h0,h1,hsm,hf,.inr ⟨ds,h2,h3,h4,rfl⟩,rfl⟩⟩
 ·rename_i cl
  obtain⟨callee,args,ts⟩:=cl
  simp only at hq
  split at hq
  ·obtain⟨f,fi,ca,ds,r,cs,hc,hds,hp,h1,rfl,rfl⟩:=hq
   exact⟨_,rfl,rfl,fun H2 sh2=>⟨f,fi,ca,ds,r,cs,hc,hds,hp,h1,rfl,rfl⟩⟩
  ·cases hk
  ·exact hq.elim
 ·exact hq.elim
theorem zko{al:List Nat}{k id off n:Nat}(h:zdq N al (.os k id off n)=true):id<N∨(id - N)∈al:=by
 simpa[zdq]using h
theorem zi7{op:Op}(hk:kOf fr op=3){n:Nat}{x:AV}{al:List Nat}(ha:zka N al ρ op)(hq:OpA P true n ρ op H sh x H' sh'):∃o,H'=H.set n o∧((∀p∈sh,p∈sh')∧∀p∈sh',p∈sh∨p.1=n∧((∃cs,H[p.2]? =some (.cells cs))∨∃q∈sh,q.2=p.2))∧∀H2,(∀id,id<N∨(id - N)∈al→H[id]? =H2[id]?)→OpA P true n ρ op H2 sh x (H2.set n o) sh':=by
 unfold OpA at hq
 split at hq
 ·cases hk
 ·cases hk
 ·cases hk
 ·cases hk
 ·cases hk
 ·rename_i cl
  obtain⟨callee,args,ts⟩:=cl
  simp only at hq
  split at hq
  ·rename_i f
   cases f<;>simp only[kOf]at hk<;>first|(cases hk;done)|(split at hk<;>cases hk)
  ·obtain⟨args⟩:=args
   obtain⟨ts⟩:=ts
   simp only at hq
   split at hq
   ·rename_i s y t t'
    obtain⟨e,k,zs,bts,m,l,he,hz,hl,hby,hs,hq⟩:=hq
    have hs1:zdq N al (ρ s)=true:=ha s (by simp)
    have hy1:zdq N al (ρ y)=true:=ha y (by simp)
    have hsrc:∀H2:zaa,(∀id,id<N∨(id - N)∈al→H[id]? =H2[id]?)→zsp P t t' zs bts H2 k (ρ y) m l:=fun H2 hH=>by
     refine hs.imp_left fun⟨ht,hs⟩=>⟨ht,?_⟩
     unfold SrcA at hs ⊢
     split at hs
     ·exact hs
     ·rename_i e1
      obtain⟨h1,cs,h2,h3,h4⟩:=hs
      rw[e1]at hy1
      exact⟨h1,cs,(hH _ (zko hy1))▸h2,h3,h4⟩
     ·exact hs
     ·exact hs
    split at hq
    ·rename_i k' id off q e3
     obtain⟨cs,h1,h2,h3,h4,h5,h6,hsh,rfl,rfl⟩:=hq
     rw[e3]at hs1
     refine⟨_,rfl,⟨fun p hp=>ze9 hp,fun p hp=>?_⟩,fun H2 hH=>?_⟩
     ·obtain⟨p1,p2⟩:=p
      rcases zcp hp with⟨k1,k2⟩|⟨k1,k2⟩|k
      ·exact .inr ⟨k1,.inl ⟨cs,k2▸h2⟩⟩
      ·exact .inr ⟨k1,.inr ⟨_,k2,rfl⟩⟩
      ·exact .inl k
     refine⟨e,k,zs,bts,m,l,he,hz,hl,hby,hsrc H2 hH,?_⟩
     rw[e3]
     exact⟨cs,h1,(hH _ (zko hs1))▸h2,h3,h4,h5,h6,hsh,rfl,rfl⟩
    ·rename_i e3
     obtain⟨h1,h2,h3,rfl,rfl⟩:=hq
     refine⟨_,rfl,⟨fun p hp=>hp,fun p hp=>.inl hp⟩,fun H2 hH=>?_⟩
     refine⟨e,k,zs,bts,m,l,he,hz,hl,hby,hsrc H2 hH,?_⟩
     rw[e3]
     exact⟨h1,h2,h3,rfl,rfl⟩
    ·exact hq.elim
   ·exact hq.elim
  ·exact hq.elim
 ·exact hq.elim
theorem zo2{op:Op}{N1:Nat}(hq:OpD P ρ op H sh N1 H'):∃id o cs,N1≤id∧H[id]? =some (.cells cs)∧H'=H.set id o∧∀H2,H2[id]? =H[id]? →OpD P ρ op H2 sh N1 (H2.set id o):=by
 unfold OpD at hq
 split at hq
 ·obtain⟨id,i,cs,l,h1,h2,h3,h4,h5,h6,h7,rfl⟩:=hq
  exact⟨id,_,cs,h7,h2,rfl,fun H2 hH=>⟨id,i,cs,l,h1,hH.trans h2,h3,h4,h5,h6,h7,rfl⟩⟩
 ·exact hq.elim
theorem zus{op:Op}{N1:Nat}(hq:OpD P ρ op H sh N1 H'):∃id cs cs',H[id]? =some (.cells cs)∧H'=H.set id (.cells cs')∧∀H2,H2[id]? =H[id]? →OpD P ρ op H2 sh N1 (H2.set id (.cells cs')):=by
 unfold OpD at hq
 split at hq
 ·obtain⟨id,i,cs,l,h1,h2,h3,h4,h5,h6,h7,rfl⟩:=hq
  exact⟨id,cs,_,h2,rfl,fun H2 hH=>⟨id,i,cs,l,h1,hH.trans h2,h3,h4,h5,h6,h7,rfl⟩⟩
 ·exact hq.elim
def lookEntry:Op→Op→Bool
 | .lookup t (.tmp m) (.tmp k) false,.mapEntry t' (.tmp m') (.tmp k')=>t==t'&&m==m'&&k==k'
 |_,_=>false
theorem zkp{v:Value}(hv:zoq v=true)(n:Nat)(z:AV):∀(es:List (Value × Nat × AV)) (i:Nat),zdx v es i=none→zdx v (es++[(v,n,z)]) i=some (i+es.length,z)
 |[],i,_=>by simp[zdx,zp9 hv]
 |e::l,i,h=>by
  unfold zdx at h
  split at h
  ·cases h
  ·rename_i hne
   rw[List.cons_append,zdx,if_neg hne,zkp hv n z l (i+1) h,List.length_cons]
   congr 2;omega
theorem zo3{kt:TypeId}{es:List (Value × Nat × AV)}{v:Value}{n:Nat}{z:AV}(h:zd6 P kt es=true)(hv:(keyOf P kt v).isSome=true):zd6 P kt (es++[(v,n,z)])=true:=by
 unfold zd6 at h ⊢
 rw[List.all_append,h]
 simp[hv]
theorem zkb{oi oj:Op}(h:lookEntry oi oj=true){xi xj:AV}(h1:OpQ P N H ρ oi xi)(h2:OpM P ρ oj H sh xj H'):OpQ P N H' ρ oi xi:=by
 unfold lookEntry at h
 split at h
 ·rename_i t m k t' m' k'
  simp only[Bool.and_eq_true,beq_iff_eq]at h
  obtain⟨⟨rfl,rfl⟩,rfl⟩:=h
  obtain⟨kt,et,z,v,es,a1,a2,a3,a4,a5,a6,a7,a8,rfl⟩:=h1
  obtain⟨kt',et',z',v',es',clock,id,b1,b2,b3,b4,b5,b6,b7,b8,b9,b10,b11⟩:=h2
  rw[a1]at b1;cases b1
  rw[a3]at b3;cases b3
  rw[a4]at b4;cases b4
  have hlt:=(List.getElem?_eq_some_iff.1 b8).1
  rw[b7]at a7
  unfold zc0 at a7
  simp only at a7
  split at a7
  ·rename_i hid
   rw[b8]at a7
   cases a7
   cases hf:zdx v es 0 with
   |none=>
    rw[hf]at b11
    obtain⟨_,rfl⟩:=b11
    refine⟨kt,et,z,v,es++[(v,clock,z)],a1,a2,a3,a4,a5,a6,?_,zo3 a8 a6,?_⟩
    ·rw[b7];unfold zc0;simp only[if_pos hid,List.getElem?_set_self hlt]
    ·rw[zkp a5 clock z es 0 hf];rfl
   |some p=>
    obtain⟨i,y⟩:=p
    rw[hf]at b11
    obtain⟨_,rfl⟩:=b11
    refine⟨kt,et,z,v,es,a1,a2,a3,a4,a5,a6,?_,a8,by rw[hf]⟩
    rw[b7];unfold zc0;simp only[if_pos hid,List.getElem?_set_self hlt]
  ·cases a7
 ·cases h
def zo4(fr:List FuncId)(ops:List Oper)(i j:Nat)(oi oj:Oper):Bool:=
 match kOf fr oi.op,kOf fr oj.op with
 |0,2=>zc2 ops oj||quiet oi.op
 |2,0=>zc2 ops oi||quiet oj.op
 |0,4=>quiet oi.op||lookEntry oi.op oj.op
 |4,0=>quiet oj.op
 |0,_=>true
 |_,0=>true
 |2,1=>true
 |1,1=>zf5 fr ops i !=zf5 fr ops j
 |1,3=>zf5 fr ops i !=zf5 fr ops j&& !(jij fr ops oj).contains (zf5 fr ops i)
 |3,1=>zf5 fr ops i !=zf5 fr ops j&& !(jij fr ops oi).contains (zf5 fr ops j)
 |_,_=>false
theorem zi8(fr:List FuncId)(op:Op):kOf fr op=0∨kOf fr op=1∨kOf fr op=2∨kOf fr op=3∨kOf fr op=4:=by
 unfold kOf
 split
 all_goals first|(simp;done)|(split<;>simp)
theorem zzq{i j:Nat}{oi oj:Oper}{bi bj:Bool}(hk:zo4 fr ops i j oi oj=true){xi xj:AV}(h1:eff P fr ops N i oi bi ρ H sh xi H1 sh1)(h2:eff P fr ops N j oj bj ρ H1 sh1 xj H2 sh2):
  ∃H3 sh3,eff P fr ops N j oj bj ρ H sh xj H3 sh3∧eff P fr ops N i oi bi ρ H3 sh3 xi H2 sh2:=by
 cases bi with
 |false=>
  simp only[eff,Bool.false_eq_true,if_false]at h1
  obtain⟨rfl,rfl,rfl⟩:=h1
  exact⟨_,_,h2,by simp only[eff,Bool.false_eq_true,if_false];exact⟨trivial,trivial,trivial⟩⟩
 |true=>
  cases bj with
  |false=>
   simp only[eff,Bool.false_eq_true,if_false]at h2
   obtain⟨rfl,rfl,rfl⟩:=h2
   exact⟨_,_,by simp only[eff,Bool.false_eq_true,if_false];exact⟨trivial,trivial,trivial⟩,h1⟩
  |true=>
   simp only[eff,if_true]at h1 h2 ⊢
   unfold zo4 at hk
   have far:∀(H:zaa) (n:Nat) (o:AObj),N≤n→∀id,id<N→H[id]? =(H.set n o)[id]? :=fun H n o hn id hid=>(zcw (show id≠n by omega)).symm
   rcases zi8 fr oi.op with ki|ki|ki|ki|ki<;>rcases zi8 fr oj.op with kj|kj|kj|kj|kj<;>simp only[ki,kj]at hk h1 h2 ⊢
   -- looks, looks
   ·obtain⟨q1,rfl,rfl⟩:=h1
    obtain⟨q2,rfl,rfl⟩:=h2
    exact⟨_,_,⟨q2,rfl,rfl⟩,q1,rfl,rfl⟩
   -- looks, lays
   ·obtain⟨q1,rfl,rfl⟩:=h1
    obtain⟨f1,f2,f3,q2⟩:=h2
    obtain⟨o,rfl,rfl,_⟩:=zes kj q2
    exact⟨_,_,⟨f1,f2,f3,q2⟩,zds (far _ _ _ (Nat.le_add_right _ _)) _ _ q1,rfl,rfl⟩
   -- looks, writes
   ·obtain⟨q1,rfl,rfl⟩:=h1
    obtain⟨q2,rfl,rfl⟩:=h2
    rcases Bool.or_eq_true_iff.1 hk with hk|hk
    ·rw[if_pos hk]at q2
     obtain⟨id,o,cs,hle,_,rfl,_⟩:=zo2 q2
     exact⟨_,_,⟨by rw[if_pos hk];exact q2,rfl,rfl⟩,zds (far _ _ _ hle) _ _ q1,rfl,rfl⟩
    ·exact⟨_,_,⟨q2,rfl,rfl⟩,zfc hk _ _ _ q1,rfl,rfl⟩
   -- looks, appends
   ·obtain⟨q1,rfl,rfl⟩:=h1
    obtain⟨f1,f2,f3,q2⟩:=h2
    obtain⟨o,rfl,_,_⟩:=zi7 kj f3 q2
    exact⟨_,_,⟨f1,f2,f3,q2⟩,zds (far _ _ _ (Nat.le_add_right _ _)) _ _ q1,rfl,rfl⟩
   -- looks, writes a map
   ·obtain⟨q1,rfl,rfl⟩:=h1
    obtain⟨q2,rfl⟩:=h2
    rcases Bool.or_eq_true_iff.1 hk with hk|hk
    ·exact⟨_,_,⟨q2,rfl⟩,zfc hk _ _ _ q1,rfl,rfl⟩
    ·exact⟨_,_,⟨q2,rfl⟩,zkb hk q1 q2,rfl,rfl⟩
   -- lays, looks
   ·obtain⟨f1,f2,f3,q1⟩:=h1
    obtain⟨o,rfl,rfl,q3⟩:=zes ki q1
    obtain⟨q2,rfl,rfl⟩:=h2
    exact⟨_,_,⟨zds (fun id hid=>(far _ _ _ (Nat.le_add_right _ _) id hid).symm) _ _ q2,rfl,rfl⟩,f1,f2,f3,q1⟩
   -- lays, lays
   ·obtain⟨f1,f2,f3,q1⟩:=h1
    obtain⟨o,rfl,rfl,q3⟩:=zes ki q1
    obtain⟨g1,g2,g3,q2⟩:=h2
    obtain⟨o',rfl,rfl,q4⟩:=zes kj q2
    have hne:N+zf5 fr ops i≠N+zf5 fr ops j:=by simp only[bne_iff_ne,ne_eq]at hk;omega
    rw[zcw hne.symm]at g1
    refine⟨_,_,⟨g1,g2,g3,q4 _ _⟩,by rw[zcw hne];exact f1,f2,f3,?_⟩
    rw[List.set_comm _ _ hne]
    exact q3 _ _
   ·cases hk
   -- lays, appends
   ·obtain⟨f1,f2,f3,q1⟩:=h1
    obtain⟨o,rfl,rfl,q3⟩:=zes ki q1
    obtain⟨g1,g2,g3,q2⟩:=h2
    simp only[Bool.and_eq_true,bne_iff_ne,ne_eq,Bool.not_eq_true',List.contains_eq_mem,decide_eq_false_iff_not]at hk
    have hne:N+zf5 fr ops i≠N+zf5 fr ops j:=by omega
    obtain⟨o',rfl,hsub,q4⟩:=zi7 kj g3 q2
    rw[zcw hne.symm]at g1
    have hq:=q4 H fun id hid=>zcw (fun e=>by
     rcases hid with hid|hid
     ·omega
     ·rw[e,Nat.add_sub_cancel_left]at hid;exact hk.2 hid)
    refine⟨_,_,⟨g1,g2,g3,hq⟩,by rw[zcw hne];exact f1,?_,f3,?_⟩
    ·intro p hp
     obtain⟨_,_,⟨_,hnew⟩,_⟩:=zi7 kj g3 hq
     rcases hnew p hp with h|⟨h3,⟨cs,h4⟩|⟨q,h4,h5⟩⟩
     ·exact f2 p h
     ·exact⟨by rw[h3];exact hne.symm,fun e=>by rw[e,f1]at h4;cases h4⟩
     ·exact⟨by rw[h3];exact hne.symm,by rw[←h5];exact(f2 q h4).2⟩
    ·rw[List.set_comm _ _ hne]
     exact q3 _ _
   ·cases hk
   -- writes, looks
   ·obtain⟨q1,rfl,rfl⟩:=h1
    obtain⟨q2,rfl,rfl⟩:=h2
    rcases Bool.or_eq_true_iff.1 hk with hk|hk
    ·rw[if_pos hk]at q1
     obtain⟨id,o,cs,hle,_,rfl,_⟩:=zo2 q1
     exact⟨_,_,⟨zds (fun id' hid=>(far _ _ _ hle id' hid).symm) _ _ q2,rfl,rfl⟩,by rw[if_pos hk];exact q1,rfl,rfl⟩
    ·exact⟨_,_,⟨zfc hk _ _ _ q2,rfl,rfl⟩,q1,rfl,rfl⟩
   -- writes, lays
   ·obtain⟨q1,rfl,rfl⟩:=h1
    obtain⟨id,cs,cs',hid,rfl,q3⟩:=zus q1
    obtain⟨g1,g2,g3,q2⟩:=h2
    obtain⟨o',rfl,rfl,q4⟩:=zes kj q2
    have hne:id≠N+zf5 fr ops j:=fun e=>by
     rw[←e,List.getElem?_set_self (List.getElem?_eq_some_iff.1 hid).1]at g1
     cases g1
    rw[zcw hne.symm]at g1
    refine⟨_,_,⟨g1,g2,g3,q4 _ _⟩,?_,rfl,rfl⟩
    rw[List.set_comm _ _ hne]
    exact q3 _ (zcw hne)
   ·cases hk
   ·cases hk
   ·cases hk
   -- appends, looks
   ·obtain⟨f1,f2,f3,q1⟩:=h1
    obtain⟨o,rfl,_,q3⟩:=zi7 ki f3 q1
    obtain⟨q2,rfl,rfl⟩:=h2
    exact⟨_,_,⟨zds (fun id hid=>(far _ _ _ (Nat.le_add_right _ _) id hid).symm) _ _ q2,rfl,rfl⟩,f1,f2,f3,q1⟩
   -- appends, lays
   ·obtain⟨f1,f2,f3,q1⟩:=h1
    obtain⟨o,rfl,hsub,q3⟩:=zi7 ki f3 q1
    obtain⟨g1,g2,g3,q2⟩:=h2
    obtain⟨o',rfl,rfl,q4⟩:=zes kj q2
    simp only[Bool.and_eq_true,bne_iff_ne,ne_eq,Bool.not_eq_true',List.contains_eq_mem,decide_eq_false_iff_not]at hk
    have hne:N+zf5 fr ops i≠N+zf5 fr ops j:=by omega
    rw[zcw hne.symm]at g1
    have hq:=q3 (H.set (N+zf5 fr ops j) o') fun id hid=>(zcw (fun e=>by
     rcases hid with hid|hid
     ·omega
     ·rw[e,Nat.add_sub_cancel_left]at hid;exact hk.2 hid)).symm
    refine⟨_,_,⟨g1,fun p hp=>g2 p (hsub.1 p hp),g3,q4 _ _⟩,by rw[zcw hne];exact f1,f2,f3,?_⟩
    rw[List.set_comm _ _ hne]
    exact hq
   ·cases hk
   ·cases hk
   ·cases hk
   -- writes a map, looks
   ·obtain⟨q1,rfl⟩:=h1
    obtain⟨q2,rfl,rfl⟩:=h2
    exact⟨_,_,⟨zfc hk _ _ _ q2,rfl,rfl⟩,q1,rfl⟩
   ·cases hk
   ·cases hk
   ·cases hk
   ·cases hk
theorem zss{i j:Nat}{oi oj:Oper}(hi:ops[i]? =some oi)(hj:ops[j]? =some oj)(hap:oi.apart ops.toArray oj=true)(hk:zo4 fr ops i j oi oj=true){σ σ1 σ2:St}(h1:zoz P fr ops N i σ σ1)(h2:zoz P fr ops N j σ1 σ2):∃σ3,zoz P fr ops N j σ σ3∧zoz P fr ops N i σ3 σ2:=by
 obtain⟨p1,p2,p3⟩:=Oper.apart_spec hap
 obtain⟨o,bi,xi,H1,sh1,e1,g1,h1,rfl⟩:=h1
 rw[hi]at e1;cases e1
 obtain⟨o,bj,xj,H2,sh2,e2,g2,h2,rfl⟩:=h2
 rw[hj]at e2;cases e2
 simp only at g2 h2 ⊢
 rw[zkn p1]at g2
 have c1:∀(y:Operand),y∈oj.op.operands→zap (σ.τ.put oi.dst xi) y=zap σ.τ y:=fun y hy=>zm2 fun t ht e=>p1 t ht (zm5 (e▸hy))
 have c2:∀(y:Operand),y∈oi.op.operands→zap (σ.τ.put oj.dst xj) y=zap σ.τ y:=fun y hy=>zm2 fun t ht e=>p3 t ht (zm5 (e▸hy))
 have conv:∀(k:Nat) (o:Oper) (b:Bool) (ρ ρ':Operand→AV) (H:zaa) (sh:List (Nat × Nat)) (x:AV) (H':zaa) (sh':List (Nat × Nat)),(∀y∈o.op.operands,ρ y=ρ' y)→eff P fr ops N k o b ρ H sh x H' sh'→eff P fr ops N k o b ρ' H sh x H' sh':=by
  intro k o b ρ ρ' H sh x H' sh' h he
  unfold eff at he ⊢
  rw[zgz (P:=P) (fun y hy=>(h y hy).symm),zm3 (P:=P) (fun y hy=>(h y hy).symm),zm4 (P:=P) (fun y hy=>(h y hy).symm),zg0 (P:=P) (fun y hy=>(h y hy).symm),zo0 (fun y hy=>(h y hy).symm)]
  exact he
 obtain⟨H3,sh3,q1,q2⟩:=zzq hk h1 (conv _ _ _ _ _ _ _ _ _ _ c1 h2)
 refine⟨⟨σ.τ.put oj.dst xj,H3,sh3⟩,⟨oj,bj,xj,H3,sh3,hj,g2,q1,rfl⟩,oi,bi,xi,H2,sh2,hi,?_,conv _ _ _ _ _ _ _ _ _ _ (fun y hy=>(c2 y hy).symm) q2,?_⟩
 ·simp only
  rw[zkn p3];exact g1
 ·simp only
  rw[zzp p2]
def wait2(ops:List Oper)(j i:Nat):Bool:=
 match ops[j]? with
 |none=>false
 |some oj=>oj.after.any (fun e=>Region.binds .any e&&e.on==i)||oj.after.any fun e=>Region.binds .any e&&match ops[e.on]? with
  |some ok=>ok.after.any fun e'=>Region.binds .any e'&&e'.on==i
  |none=>false
def Closed(ops:List Oper)(listed:Array Bool):Prop:=∀(k:Nat) (o:Oper),ops[k]? =some o→listed.getD k false=true→∀e∈o.after,Region.binds .any e=true→listed.getD e.on false=true
theorem zdy{listed:Array Bool}{k:Nat}(h:listed.getD k false=true):listed.getD k true=true:=by
 by_cases hk:k<listed.size
 ·simp only[Array.getD,dif_pos hk]at h ⊢;exact h
 ·simp[Array.getD,hk]at h
theorem Closed.set{listed:Array Bool}(h:Closed ops listed){j:Nat}(hj:j∈Region.ready .any ops.toArray listed):Closed ops (listed.setIfInBounds j true):=by
 obtain⟨_,oj,hoj,hall⟩:=mem_ready.1 hj
 intro k o ho hk e he hb
 by_cases hkj:j=k
 ·subst hkj
  rw[List.getElem?_toArray,ho]at hoj
  cases hoj
  exact getD_set_true (hall e he hb)
 ·rw[getD_set_ne false hkj]at hk
  exact getD_set_true (h k o ho hk e he hb)
theorem zzr{listed:Array Bool}(hc:Closed ops listed){i j:Nat}(hi:listed.getD i true=false)(hj:j∈Region.ready .any ops.toArray listed):wait2 ops j i=false:=by
 obtain⟨_,oj,hoj,hall⟩:=mem_ready.1 hj
 rw[List.getElem?_toArray]at hoj
 have hno:listed.getD i false=true→False:=fun h=>by rw[zdy h]at hi;cases hi
 cases hw:wait2 ops j i with
 |false=>rfl
 |true=>
  exfalso
  unfold wait2 at hw
  rw[hoj]at hw
  simp only[Bool.or_eq_true,Array.any_eq_true',Bool.and_eq_true,beq_iff_eq]at hw
  rcases hw with⟨e,he,hb,hon⟩|⟨e,he,hb,hw⟩
  ·exact hno (hon▸hall e he hb)
  ·split at hw
   ·rename_i ok hok
    simp only[Array.any_eq_true',Bool.and_eq_true,beq_iff_eq]at hw
    obtain⟨e',he',hb',hon⟩:=hw
    exact hno (hon▸hc _ ok hok (hall e he hb) e' he' hb')
   ·cases hw
theorem zhi{K:St→Prop}{i:Nat}{oi:Oper}(hi:ops[i]? =some oi):
  ∀(fuel:Nat) (listed:Array Bool) (σ σ1:St),Closed ops listed→(∀j oj,ops[j]? =some oj→j≠i→listed.getD j true=false→wait2 ops j i=false→oi.apart ops.toArray oj=true∧zo4 fr ops i j oi oj=true)→
   i∈Region.ready .any ops.toArray listed→zoz P fr ops N i σ σ1→jev P fr ops N K fuel (listed.setIfInBounds i true) σ1→jev P fr ops N K (fuel+1) listed σ:=by
 intro fuel
 induction fuel with
 |zero=>
  intro listed σ σ1 hcl hfree hr h1 H
  refine⟨fun h=>(by rw[h]at hr;cases hr),fun j hj=>?_⟩
  by_cases hji:j=i
  ·subst hji;exact⟨σ1,h1,H⟩
  ·have:=ready_mono hj hji
   rw[H.1]at this
   cases this
 |succ fuel ih=>
  intro listed σ σ1 hcl hfree hr h1 H
  refine⟨fun h=>(by rw[h]at hr;cases hr),fun j hj=>?_⟩
  by_cases hji:j=i
  ·subst hji;exact⟨σ1,h1,H⟩
  ·obtain⟨σ2,h2,H2⟩:=H.2 j (ready_mono hj hji)
   obtain⟨hjun,oj,hoj,_⟩:=mem_ready.1 hj
   rw[List.getElem?_toArray]at hoj
   have hiun:=(mem_ready.1 hr).1
   obtain⟨hap,hk⟩:=hfree j oj hoj hji hjun (zzr hcl hiun hj)
   obtain⟨σ3,h3,h4⟩:=zss hi hoj hap hk h1 h2
   refine⟨σ3,h3,ih (listed.setIfInBounds j true) σ3 σ2 (hcl.set hj) (fun k ok hk hki hun hno=>hfree k ok hk hki ?_ hno) (ready_mono hr (Ne.symm hji)) h4 ?_⟩
   ·by_cases hjk:j=k
    ·subst hjk;exact hjun
    ·rw[getD_set_ne true hjk]at hun;exact hun
   ·rw[Array.setIfInBounds_comm _ _ hji];exact H2
def zzs(fr:List FuncId)(ops:List Oper)(listed:Array Bool)(i:Nat):Bool:=
 match ops[i]? with
 |none=>false
 |some oi=>(List.range ops.length).all fun j=>j==i||listed.getD j true||wait2 ops j i||match ops[j]? with
  |some oj=>oi.apart ops.toArray oj&&zo4 fr ops i j oi oj
  |none=>true
def zut(fr:List FuncId)(ops:List Oper):Nat→Nat→Array Bool→Bool
 |0,_,listed=>(Region.ready .any ops.toArray listed).isEmpty
 |fuel+1,k,listed=>(Region.ready .any ops.toArray listed).contains k&&zzs fr ops listed k&&zut fr ops fuel (k+1) (listed.setIfInBounds k true)
def jik(P:Program)(fr:List FuncId)(ops:List Oper)(N:Nat):Nat→List Oper→Fr→zaa→List (Nat × Nat)→(Fr→zaa→List (Nat × Nat)→Prop)→Prop
 |_,[],τ,H,sh,K=>K τ H sh
 |i,o::l,τ,H,sh,K=>∃b,zbr ops τ o=some b∧(b=true→∃x H' sh',eff P fr ops N i o true (zap τ) H sh x H' sh'∧jik P fr ops N (i+1) l (τ.put o.dst x) H' sh' K)∧(b=false→jik P fr ops N (i+1) l (τ.put o.dst (.d (.val undef))) H sh K)
theorem zqj{K:Fr→zaa→List (Nat × Nat)→Prop}:∀(l:List Oper) (k:Nat) (listed:Array Bool) (τ:Fr) (H:zaa) (sh:List (Nat × Nat)),(∀j,l[j]? =ops[k+j]?)→Closed ops listed→zut fr ops l.length k listed=true→jik P fr ops N k l τ H sh K→
  jev P fr ops N (fun σ=>K σ.τ σ.H σ.sh) l.length listed ⟨τ,H,sh⟩
 |[],_,_,_,_,_,_,_,hB,h=>⟨by simpa[zut]using hB,h⟩
 |o::l,k,listed,τ,H,sh,hl,hcl,hB,h=>by
  have h0:ops[k]? =some o:=by simpa using(hl 0).symm
  simp only[List.length_cons,zut,Bool.and_eq_true]at hB
  obtain⟨⟨hr,hf⟩,hB'⟩:=hB
  have hr':k∈Region.ready .any ops.toArray listed:=by simpa using hr
  have hfree:∀j oj,ops[j]? =some oj→j≠k→listed.getD j true=false→wait2 ops j k=false→o.apart ops.toArray oj=true∧zo4 fr ops k j o oj=true:=by
   intro j oj hj hne hun hno
   unfold zzs at hf
   rw[h0]at hf
   simp only[List.all_eq_true,List.mem_range]at hf
   have h1:=hf j (List.getElem?_eq_some_iff.1 hj).1
   simp only[hj,Bool.or_eq_true,beq_iff_eq,hne,false_or,hun,Bool.false_eq_true,hno,Bool.and_eq_true]at h1
   exact h1
  obtain⟨b,hg,ht,hfa⟩:=h
  have hrest:∀τ' H' sh',jik P fr ops N (k+1) l τ' H' sh' K→jev P fr ops N (fun σ=>K σ.τ σ.H σ.sh) l.length (listed.setIfInBounds k true) ⟨τ',H',sh'⟩:=fun τ' H' sh' hh=>
   zqj l (k+1) _ τ' H' sh' (fun j=>by have:=hl (j+1);simpa[Nat.add_assoc,Nat.add_comm 1 j]using this) (hcl.set hr') hB' hh
  cases b with
  |true=>
   obtain⟨x,H',sh',he,hh⟩:=ht rfl
   exact zhi h0 _ _ _ _ hcl hfree hr' ⟨o,true,x,H',sh',h0,hg,he,rfl⟩ (hrest _ _ _ hh)
  |false=>exact zhi h0 _ _ _ _ hcl hfree hr' ⟨o,false,_,H,sh,h0,hg,by simp only[eff,Bool.false_eq_true,if_false];exact⟨trivial,trivial,trivial⟩,rfl⟩ (hrest _ _ _ (hfa rfl))
def killAll:List (Nat × Nat)→zaa→zaa
 |[],H=>H
 |p::l,H=>killAll l (H.set p.2 .dead)
theorem R.killAll:∀(l sh:List (Nat × Nat)) (H:zaa),(∀p∈sh,p∈l)→R c τ H sh a w→R c τ (killAll l H) [] a w
 |[],sh,H,hs,hR=>by
  have:sh=[]:=List.eq_nil_iff_forall_not_mem.2 fun p hp=>by cases hs p hp
  subst this;exact hR
 |p::l,sh,H,hs,⟨pl,hR⟩=>by
  refine R.killAll l (sh.filter fun q=>decide (q.1≠p.2)&&decide (q.2≠p.2)) _ (fun q hq=>?_) ⟨pl,hR.kill p.2 (fun i j hm h1 h2=>?_) (fun q hq=>?_)⟩
  ·obtain⟨h1,h2⟩:=List.mem_filter.1 hq
   simp only[Bool.and_eq_true,decide_eq_true_eq]at h2
   rcases List.mem_cons.1 (hs q h1)with h|h
   ·subst h;exact absurd rfl h2.2
   ·exact h
  ·exact List.mem_filter.2 ⟨hm,by simp[h1,h2]⟩
  ·exact(List.mem_filter.1 hq).1
theorem R.reserve:∀(n:Nat) (H:zaa),R c τ H sh a w→R c τ (H++List.replicate n .free) sh a w
 |0,H,hR=>by simpa using hR
 |n+1,H,⟨pl,hR⟩=>by
  have:=R.reserve n (H++[.free]) ⟨_,hR.reserve⟩
  rwa[List.append_assoc,List.singleton_append,←List.replicate_succ]at this
theorem zqk{Q:Exit→Fr→zaa→Prop}{id:Nat}(fr:List FuncId)(hm:P.follows .mixedOrders=true)(hd:zdl c.nt ops=true)(hB:zut fr ops ops.length 0 (Array.replicate ops.length false)=true)
  (h:jik P fr ops H.length 0 ops τ (H++List.replicate (ops.countP (lays fr)) .free) [] fun τ' H' sh'=>Q .normal τ' (killAll sh' H')):AWp P c (.region id ops.toArray true) Q τ H:=fun a w hR=>by
 refine wpIn_region_any hm ?_
 have hR':R c τ (H++List.replicate (ops.countP (lays fr)) .free) [] a {w with drawn:=w.drawn+1}:=R.reserve _ _ (by obtain⟨pl,h⟩:=hR;exact⟨pl,h.drew⟩)
 have hA:=zqj (P:=P) (N:=H.length) ops 0 (Array.replicate ops.length false) τ _ [] (fun j=>by simp) (fun k o ho hk=>by
  have hlt:=(List.getElem?_eq_some_iff.1 ho).1
  simp[Array.getD,hlt]at hk) hB h
 have:=zhh (c:=c) hd (K:=fun σ=>Q .normal σ.τ (killAll σ.sh σ.H)) (Q:=fun e a' w'=>∃τ' H',R c τ' H' [] a' w'∧Q e τ' H') (fun σ a' w' hk hr=>⟨_,_,R.killAll σ.sh σ.sh _ (fun p hp=>hp) hr,hk⟩) ops.length _ _ _ _ hA hR'
 simpa using this
end
/- Of no program: the abstract machine's run, as equations. -/
end
section
def frL:List (Nat × AV)→Fr
 |[]=>fun _=>.any
 |(d,x)::l=>fun t=>if t=d then x else frL l t
theorem zhj(d t:Nat)(x:AV)(l:List (Nat × AV)):frL ((d,x)::l) t=if t=d then x else frL l t:=rfl
theorem zuu(d:Nat)(x:AV)(l:List (Nat × AV)):(frL l).put (some d) x=frL ((d,x)::l):=rfl
theorem zql(x:AV)(τ:Fr):τ.put none x=τ:=rfl
theorem zm6(τ:Fr)(t:Nat):zap τ (.tmp t)=τ t:=rfl
theorem zi9(τ:Fr)(v:Value):zap τ (.const v)= .d (.val v):=rfl
theorem zkq(τ:Fr)(f:FuncId):zap τ (.func f)= .d (.val (.func (.func f) #[] #[])):=rfl
def zez(τ τ':Fr):Prop:=∀t,τ' t= .any∨τ' t=τ t
section
variable {P:Program} {c:Cx} {τ τ':Fr} {a:Act} {w:World} {H:zaa} {sh:List (Nat × Nat)} {Q:Exit→Fr→zaa→Prop}
theorem R.less(h:zez τ τ')(hR:R c τ H sh a w):R c τ' H sh a w:=by
 obtain⟨pl,h1⟩:=hR
 refine⟨pl,h1.h,h1.stp,h1.own0,h1.ext,fun t=>?_,h1.size,h1.defs,h1.keep⟩
 rcases h t with h|h
 ·rw[h];exact .any _
 ·rw[h];exact h1.fr t
theorem zaw{x:Code}(h:zez τ τ')(hx:AWp P c x Q τ' H):AWp P c x Q τ H:=fun a w hR=>hx a w (hR.less h)
theorem zal(τ:Fr):zez τ (frL []):=fun _=>.inl rfl
theorem zaf{d:Nat}{x:AV}{l:List (Nat × AV)}(h:zez τ (frL l))(hx:τ d=x):zez τ (frL ((d,x)::l)):=fun t=>by
 rw[zhj]
 split
 ·rename_i e;subst e;exact .inr hx.symm
 ·exact h t
theorem zuv{fr:List FuncId}{sm:List Nat}(hc0:Kp c sm){id:Nat}{l:List Oper}{y:Code}{n:Nat}(hn:c.nt=n)(hd:zdl n l=true)(h:∀K:Fr→zaa→Prop,(∀τ H,AWp P c y Q τ H→K τ H)→jch P fr sm l l τ H K):AWp P c (.seq (.region id l.toArray false) y) Q τ H:=
 zgg (zhg (fr:=fr) hc0 (hn▸hd) (h _ fun _ _ h=>h))
theorem joq{fr:List FuncId}{sm:List Nat}(hc0:Kp c sm){id:Nat}{l:List Oper}{n:Nat}(hn:c.nt=n)(hd:zdl n l=true)(h:∀K:Fr→zaa→Prop,(∀τ H,Q .normal τ H→K τ H)→jch P fr sm l l τ H K):AWp P c (.region id l.toArray false) Q τ H:=
 zhg (fr:=fr) hc0 (hn▸hd) (h _ fun _ _ h=>h)
theorem zab{x y:Code}(h:∀K:Fr→zaa→Prop,(∀τ H,AWp P c y Q τ H→K τ H)→AWp P c x (zcq K Q) τ H):AWp P c (.seq x y) Q τ H:=zgg (h _ fun _ _ h=>h)
end
section
variable {P:Program} {fr:List FuncId} {ops l:List Oper} {τ:Fr} {H:zaa} {sh:List (Nat × Nat)} {N i:Nat} {d:Option Tmp} {op:Op} {ty:TypeId} {pos:String} {af:Array Edge}
end
end
end Go.Proofs.Ytfolbdkbpmgjgaa
