/- Of no program: every operation of the abstract machine, carried out. -/
import Derived.Test.YtapjobndmmkanaaGreatAN
import Derived.Laws.StructEq
import Derived.Still
set_option linter.unusedVariables false
set_option linter.unusedSimpArgs false
namespace Go.Proofs.YtapjobndmmkanaaGreat
open Go Go.RowKit
section
section
variable {P:Program} {c:Cx} {τ:Fr} {a:Act} {w w':World} {pl bt:List (Option (Nat × Nat))} {H H':ak} {sh sh':List (Nat × Nat)} {own:Nat→Prop}
theorem SB{t e:TypeId}(hu:P.underlying t=some (.slice e))(ad:Addr)(n n' c c':Nat)(x y:Operand){op:BinOp}(iC:op= .eql∨op= .neq):(do eqGuard op t x y (.slice (some ad) n c) (.slice none n' c');binOp op t (.slice (some ad) n c) (.slice none n' c'):Sem Value).run P w= .ok (.bool (op== .neq)) w:=by
 have h:(Op.equal t (.slice (some ad) n c) (.slice none n' c')).run P w= .ok false w:=Nj (by unfold Jz;rw[hu]) _ _ _ _ _ w
 rw[Sem.run_bind,UB]
 rcases iC with rfl|rfl<;>simp[binOp,h]
theorem jhx{t e:TypeId}(hu:P.underlying t=some (.pointer e))(ad:Addr)(x y:Operand){op:BinOp}(iC:op= .eql∨op= .neq):(do eqGuard op t x y (.pointer (some ad)) (.pointer none);binOp op t (.pointer (some ad)) (.pointer none):Sem Value).run P w= .ok (.bool (op== .neq)) w:=by
 have h:(Op.equalIn (9999+1) t (.pointer (some ad)) (.pointer none)).run P w= .ok false w:=by
  unfold Op.equalIn;simp[run_underlying hu]
 have h:(Op.equal t (.pointer (some ad)) (.pointer none)).run P w= .ok false w:=h
 have hg:(eqGuard op t x y (.pointer (some ad)) (.pointer none)).run P w= .ok () w:=by
  unfold eqGuard;split<;>simp
 rw[Sem.run_bind,hg]
 rcases iC with rfl|rfl<;>simp[binOp,h]
theorem jus{t k e:TypeId}(hu:P.underlying t=some (.map k e))(b:Nat)(x y:Operand){op:BinOp}(iC:op= .eql∨op= .neq):(do eqGuard op t x y (.map (some b)) (.map none);binOp op t (.map (some b)) (.map none):Sem Value).run P w= .ok (.bool (op== .neq)) w:=by
 have h:(Op.equalIn (9999+1) t (.map (some b)) (.map none)).run P w= .ok false w:=by
  unfold Op.equalIn;simp[run_underlying hu]
 have h:(Op.equal t (.map (some b)) (.map none)).run P w= .ok false w:=h
 have hg:(eqGuard op t x y (.map (some b)) (.map none)).run P w= .ok () w:=by
  unfold eqGuard;split<;>simp
 rw[Sem.run_bind,hg]
 rcases iC with rfl|rfl<;>simp[binOp,h]
theorem Ms(w:World)(l m:List Value):∀(fs:List Field) (d:Nat) {b:Bool},fs.all (N7 P)=true→sF l m (fs.map (KG P))=some b→(Op.eqFields (d+1) l.toArray m.toArray fs).run P w= .ok b w
 |[],d,b,_,h=>by cases h;rfl
 |f::fs,d,b,ha,h=>by
  simp only[List.all_cons,gG]at ha
  obtain⟨h1,h2⟩:=ha
  simp only[N7,gG,oU]at h1
  obtain⟨hn,hu⟩:=h1
  have BG:∀u,P.underlying f.type=some u→(∀fs,u≠ .struct fs)→(∀n e,u≠ .array n e)→eI P f.type=some false:=fun u hu h1 h2=>by
   unfold eI;rw[hu]
   cases u<;>first|rfl|exact absurd rfl (h1 _)|exact absurd rfl (h2 _ _)
  have mA:∀(l:List Value) (v:Value),eI P f.type=some false→l[f.offset]? =some v→(part f.type l.toArray f.offset).run P w= .ok v w:=fun l v hg hx=>by
   unfold part
   simp only[Sem.run_bind,My hg,Result.andThen_ok]
   rw[if_neg (by decide),List.getElem?_toArray,hx];rfl
  cases hk:GY P f with
  |none=>rw[hk]at hu;cases hu
  |some kb=>
   have hfo:KG P f=(f.offset,kb):=by unfold KG;rw[hk];rfl
   rw[List.map_cons,hfo]at h
   cases kb with
   |false=>
    obtain⟨k0,dP⟩:∃k0,P.underlying f.type=some (.int k0):=by
     unfold GY at hk
     split at hk
     ·rename_i k0 e;exact⟨k0,e⟩
     ·cases hk
     ·cases hk
    have hg:=BG _ dP (fun _ e=>by cases e) (fun _ _ e=>by cases e)
    simp only[sF]at h
    split at h
    ·rename_i k x k' y hx hy
     split at h
     ·rename_i e
      subst e
      obtain⟨r,hr,rfl⟩:=cA.1 h
      unfold Op.eqFields
      rw[if_pos hn]
      simp only[Sem.run_bind,mA l _ hg hx,mA m _ hg hy,Result.andThen_ok,run_equalIn_int w d f.type k k0 x y dP]
      cases qm:x==y
      ·simp
      ·simp only[Bool.not_true,Bool.false_eq_true,if_false,Bool.true_and]
       exact Ms w l m fs d h2 hr
     ·cases h
    ·cases h
   |true=>
    have dP:P.underlying f.type=some .bool:=by
     unfold GY at hk
     split at hk
     ·cases hk
     ·rename_i e;exact e
     ·cases hk
    have hg:=BG _ dP (fun _ e=>by cases e) (fun _ _ e=>by cases e)
    simp only[sF]at h
    split at h
    ·rename_i x y hx hy
     obtain⟨r,hr,rfl⟩:=cA.1 h
     unfold Op.eqFields
     rw[if_pos hn]
     simp only[Sem.run_bind,mA l _ hg hx,mA m _ hg hy,Result.andThen_ok,run_equalIn_bool' w d f.type x y dP]
     cases qm:x==y
     ·simp
     ·simp only[Bool.not_true,Bool.false_eq_true,if_false,Bool.true_and]
      exact Ms w l m fs d h2 hr
    ·cases h
theorem jhy{y:AV}{l:List Value}{u:Value}(h:KF y=some l)(hy:Rd w pl own y u):u= .agg l.toArray:=by
 refine FH ?_ hy
 unfold KF at h
 split at h
 ·simp only[nT,h,Option.map_some]
 ·simp only[nT,h,Option.map_some]
 ·cases h
theorem ja9{op:BinOp}{t:TypeId}{y z:Operand}{ay az:AV}{u v:Value}{b:Bool}(hb:KE P t ay az=some b)(hy:Rd w pl own ay u)(hz:Rd w pl own az v)(iC:op= .eql∨op= .neq):
  (do eqGuard op t y z u v;binOp op t u v:Sem Value).run P w= .ok (.bool (if op= .eql then b else !b)) w:=by
 unfold KE at hb
 obtain⟨os,E5,hb⟩:=Option.bind_eq_some_iff.1 hb
 obtain⟨l,hl,hb⟩:=Option.bind_eq_some_iff.1 hb
 obtain⟨m,hm,hb⟩:=Option.bind_eq_some_iff.1 hb
 rw[jhy hl hy,jhy hm hz]
 unfold CE at E5
 split at E5
 ·rename_i fs hfs
  split at E5
  ·rename_i hc
   simp only[gG,Bool.not_eq_true']at hc
   obtain⟨c1,c2,c3⟩:=hc
   cases E5
   have hF:P.fieldsOf t=fs:=by unfold Program.fieldsOf;rw[hfs]
   have hq:=run_equalIn_struct w 9999 t l.toArray m.toArray (by rw[hF,hfs]) c1
   rw[hF,Ms w l m fs.toList 9998 c3 hb]at hq
   rw[Sem.run_bind,run_eqGuard_agg w op t y z _ _ c2]
   rcases iC with rfl|rfl
   ·have h2:=run_eql_struct (P:=P) w t l.toArray m.toArray
    rw[hq]at h2
    exact h2
   ·have h2:=run_neq_struct (P:=P) w t l.toArray m.toArray
    rw[hq]at h2
    exact h2
  ·cases E5
 ·cases E5
theorem jba{op:BinOp}{t:TypeId}{y z:Operand}{b:Bool}(hn:Jc P t (aU τ y) (aU τ z)=true)(iC:op= .eql∨op= .neq)(hb:b=(op== .neq))(hy:Rd w pl own (aU τ y) (a.eval y))(hz:Rd w pl own (aU τ z) (a.eval z)):
  (do eqGuard op t y z (a.eval y) (a.eval z);binOp op t (a.eval y) (a.eval z):Sem Value).run P w= .ok (.bool b) w:=by
 subst hb
 unfold Jc at hn
 generalize a.eval y=u at hy ⊢
 generalize a.eval z=v at hz ⊢
 generalize aU τ y=ay at hn hy
 generalize aU τ z=az at hn hz
 split at hn
 ·rename_i hu
  cases hy with|d _ _ hy=>cases hz with|d _ _ hz=>
  cases hz
  cases hy with|fs cs n cap b0 off f=>exact SB hu _ _ _ _ _ y z iC
 ·rename_i hu
  cases hz with|d _ _ hz=>
  cases hz
  cases hy with|os k id off n cap b0 base sz tt=>exact SB hu _ _ _ _ _ y z iC
 ·rename_i hu
  cases hz with|d _ _ hz=>
  cases hz
  cases hy with|op id off b0 base=>exact jhx hu _ y z iC
 ·rename_i hu
  cases hy with|d _ _ hy=>cases hz with|d _ _ hz=>
  cases hz
  cases hy with|fp cs i b0 off f=>exact jhx hu _ y z iC
 ·rename_i hu
  cases hz with|d _ _ hz=>
  cases hz
  cases hy with|om id b0 base=>exact jus hu _ y z iC
 ·cases hn
theorem jnq{op:BinOp}{t:TypeId}{y z:Operand}{b:Bool}(hb:KC P op t (aU τ y) (aU τ z)=some b)(hy:Rd w pl own (aU τ y) (a.eval y))(hz:Rd w pl own (aU τ z) (a.eval z)):
  (do eqGuard op t y z (a.eval y) (a.eval z);binOp op t (a.eval y) (a.eval z):Sem Value).run P w= .ok (.bool b) w:=by
 unfold KC at hb
 split at hb
 ·split at hb
  ·rename_i hn;cases hb;exact jba hn (.inl rfl) rfl hy hz
  ·exact ja9 (op:=.eql) hb hy hz (.inl rfl)
 ·split at hb
  ·rename_i hn;cases hb;exact jba hn (.inr rfl) rfl hy hz
  ·obtain⟨r,hr,rfl⟩:=cA.1 hb
   exact ja9 (op:=.neq) hr hy hz (.inr rfl)
 ·cases hb
theorem JG(h:aQ c τ H sh pl a w){o:Oper}{N0:Nat}{x:AV}(hq:gR P N0 H (aU τ) o.op x){K:Act→World→Prop}{Q:Exit→Act→World→Prop}
  (hK:∀v w',aQ c τ H sh pl a w'→Rd w' pl (bu c.E H pl) x v→K (a.put o.dst v) w'):o.wp P a w K Q:=by
 have done:∀v,(execOp a.eval o).run P w= .ok (.value v) w→Rd w pl (bu c.E H pl) x v→o.wp P a w K Q:=fun v hr hx=>Cd hr (hK v w h hx)
 obtain⟨dst,op,ty,pos,after,guard⟩:=o
 simp only at hq hK done
 unfold gR at hq
 split at hq
 ·subst hq;exact done _ rfl (h.eval _)
 ·subst hq;exact done _ rfl (h.eval _)
 ·rename_i cc aa bb
  obtain⟨t,ht,rfl⟩:=hq
  have hb:=h.eval cc
  rw[ht]at hb
  have Rn:a.eval cc= .bool t:=by
   generalize a.eval cc=z at hb ⊢
   cases hb with|d _ _ hb=>cases hb;rfl
  refine done (if t then a.eval aa else a.eval bb) (by simp[execOp,Rn,asBool]) ?_
  cases t
  ·exact h.eval bb
  ·exact h.eval aa
 ·obtain⟨u,h1,h2⟩:=hq.run h.h (h.eval _)
  exact done u (by simp[execOp,h1]) h2
 ·obtain⟨u,h1,h2⟩:=hq.run (h.eval _)
  exact done u (by simp[execOp,h1]) h2
 ·obtain⟨u,h1,h2⟩:=hq.run (h.eval _)
  exact done u (by simp[execOp,h1]) h2
 ·obtain⟨u,h1,h2⟩:=hq.run (h.eval _) (h.eval _)
  exact done u (by simp[execOp,h1]) h2
 ·obtain⟨u,h1,h2⟩:=hq.run (h.eval _) (h.eval _)
  exact done u (by simp[execOp,h1]) h2
 ·rename_i t p lo hi
  have ev:∀(z:Option Operand) (y:AV),z.map (aU τ)=some y→∃v,z.map a.eval=some v∧Rd w pl (bu c.E H pl) y v:=fun z y hz=>by
   obtain⟨b,rfl,rfl⟩:=cA.1 hz
   exact⟨_,rfl,h.eval b⟩
  have ev0:∀(z:Option Operand),z.map (aU τ)=none→z.map a.eval=none:=fun z hz=>by
   cases z<;>simp_all
  obtain⟨u,h1,h2⟩:=hq.run h.h (h.eval p) (ev lo) (ev0 lo) (ev hi) (ev0 hi)
  exact done u (by simp[execOp,h1]) h2
 ·rename_i op t y z t'
  rcases hq with⟨u,v,r,hu,hv,hr,rfl⟩|⟨b,hb,rfl⟩
  case inr=>
   have cR:=jnq (P:=P) hb (h.eval y) (h.eval z)
   exact done _ (by simp only[execOp,Sem.run_bind]at cR ⊢;rw[cR];rfl) (.d _ _ (.val _))
  have h1:=h.eval y
  rw[hu]at h1
  have e1:a.eval y=u:=by generalize a.eval y=q at h1;cases h1 with|d _ _ h1=>cases h1;rfl
  have h2:=h.eval z
  rw[hv]at h2
  have e2:a.eval z=v:=by generalize a.eval z=q at h2;cases h2 with|d _ _ h2=>cases h2;rfl
  have cR:=jnm (P:=P) hr y z w
  exact done r (by simp only[execOp,e1,e2,Sem.run_bind]at cR ⊢;rw[cR];rfl) (.d _ _ (.val _))
 ·rename_i op t y
  obtain⟨u,r,hu,hr,rfl⟩:=hq
  have h1:=h.eval y
  rw[hu]at h1
  have e1:a.eval y=u:=by generalize a.eval y=q at h1;cases h1 with|d _ _ h1=>cases h1;rfl
  exact done r (by simp[execOp,e1,jun (P:=P) hr w]) (.d _ _ (.val _))
 ·rename_i s t y
  obtain⟨k,k',j,n,hu,hs,ht,rfl⟩:=hq
  have h1:=h.eval y
  rw[hu]at h1
  have e1:a.eval y= .int j n:=qN h1
  exact done _ (by simp[execOp,e1,jhh hs ht]) (.d _ _ (.val _))
 ·rename_i t parts
  obtain⟨u,h1,h2⟩:=hq.run (w:=w) (pl:=pl) (own:=bu c.E H pl) (vparts:=parts.map fun p=>(p.1,a.eval p.2)) (by simp) (fun j i x hj=>by
   rw[List.getElem?_map,cA]at hj
   obtain⟨q,hq,he⟩:=hj
   cases he
   exact⟨a.eval q.2,by rw[Array.toList_map,List.getElem?_map,hq];rfl,h.eval q.2⟩)
  exact done u (by simp only[execOp,Sem.run_bind,h1];rfl) h2
 ·rename_i t i
  obtain⟨vs,hv,hi⟩:=hq
  have h1:=h.eval t
  rw[hv]at h1
  generalize ht:a.eval t=q at h1
  cases h1 with
  |dc _ us hl hx=>
   have aA:=(dX.1 hi).1
   have e:us[i]? =some (us.getD i undef):=by rw[Array.getElem?_eq_getElem (by omega)];simp[Array.getD,hl,aA]
   have lV:=hx i x hi
   generalize us.getD i undef=u0 at e lV
   exact done u0 (by simp[execOp,ht,Instr.extract,e]) lV
 ·rename_i y
  obtain⟨hm,rfl⟩:=hq
  have h1:=h.eval y
  refine done (a.eval y) ?_ h1
  split at hm
  ·rename_i e;rw[e]at h1
   generalize hy:a.eval y=q at h1
   cases h1;simp[execOp,hy]
  ·rename_i e;rw[e]at h1
   generalize hy:a.eval y=q at h1
   cases h1 with|d _ _ h1=>cases h1;simp[execOp,hy]
  ·rename_i e;rw[e]at h1
   generalize hy:a.eval y=q at h1
   cases h1;simp[execOp,hy]
  ·exact hm.elim
 ·obtain⟨u,h1,h2⟩:=mH.run hq h.h (h.eval _) (h.eval _)
  exact done u (by simp[execOp,h1]) h2
 ·rename_i fn fi ca
  subst hq
  have k1:=h.args fi
  have k2:=h.args ca
  exact done _ (by simp[execOp,Instr.makeFunc]) (.dk _ _ _ _ _ k1.1 k1.2 k2.1 k2.2)
 ·rename_i cl
  obtain⟨callee,args,ts⟩:=cl
  simp only at hq
  split at hq
  ·exact zzf (o:=⟨dst,_,ty,pos,after,guard⟩) h rfl hq hK
  ·rename_i b
   obtain⟨v,h1,h2⟩:=zwn h hq ty (args.map fun| .const _=>true|_=>false)
   exact done v (by simp only[execOp,resolve,Sem.run_bind,Sem.run_pure,Result.andThen_ok,invoke];exact h1) h2
  ·exact hq.elim
 ·exact hq.elim

def pJ(H:ak)(s:Nat)(src:AV)(m:Nat)(l:List AV):Prop:=
 match src with
 | .d (.fs cs n)=>cs.length=n*s∧m=n∧l=cs.map .d
 | .os k id off n=>k=s∧∃cs,H[id]? =some (.cells cs)∧dJ cs off (n*s)=some l∧m=n
 | .d (.val (.slice none 0 0))=>m=0∧l=[]
 |_=>False
theorem pJ.src{s m:Nat}{x:AV}{l:List AV}(h:pJ H s x m l):Src H s x m l:=by
 unfold pJ at h
 split at h
 ·obtain⟨h1,rfl,rfl⟩:=h;exact .fs _ _ h1
 ·obtain⟨rfl,cs,h1,h2,rfl⟩:=h;exact .os _ _ _ cs _ h1 h2
 ·obtain⟨rfl,rfl⟩:=h;exact .nil
 ·exact h.elim
def EZ(P:Program)(t t':TypeId)(zs:List D)(bts:Nat)(H:ak)(s:Nat)(src:AV)(m:Nat)(l:List AV):Prop:=
 (t'=t∧pJ H s src m l)∨((tP P t').isSome=true∧zs.all D.one=true∧1≤bts∧(∃k,src= .d (.val (.int k (m:Int))))∧l=kx m zs)
def yo7(P:Program)(dr:Bool)(iA:Nat)(t t':TypeId)(base src:AV)(H:ak)(sh:List (Nat × Nat))(x:AV)(H':ak)(sh':List (Nat × Nat)):Prop:=
 ∃e s zs bts m l,fl P t=some (none,e,s)∧eK P e=some zs∧zs.length=s∧oE P e=some bts∧EZ P t t' zs bts H s src m l∧
  match base with
  | .os k id off n=>∃cs,k=s∧H[id]? =some (.cells cs)∧off+n*s=cs.length∧n+m≤maxLen∧(n+m)*bts≤140737488355328∧x= .os s iA 0 (n+m)∧
    if dr then(∀p∈sh,p.2≠id)∧H'=H.set iA (.cells (cs.drop off++l))∧sh'=fX sh id iA else sh=[]∧H'=(H.set iA (.cells (cs.drop off++l))).set id .dead∧sh'=[]
  | .d (.val (.slice none 0 0))=>m≤maxLen∧m*bts≤140737488355328∧x= .os s iA 0 m∧H'=H.set iA (.cells l)∧sh'=sh
  |_=>False
def ka(P:Program)(dr:Bool)(iA:Nat)(ρ:Operand→AV)(op:Op)(H:ak)(sh:List (Nat × Nat))(x:AV)(H':ak)(sh':List (Nat × Nat)):Prop:=
 match op with
 | .box _ y=>∃cs,lS (ρ y)=some cs∧x= .op iA 0∧H'=H.set iA (.cells cs)∧sh'=sh
 | .alloc t=>∃zs,eK P t=some zs∧zs.all D.one=true∧x= .op iA 0∧H'=H.set iA (.cells (zs.map .d))∧sh'=sh
 | .makeSlice t l cp=>∃(e:TypeId) (s:Nat) (zs:List D) (bts:Nat) (k1 k2:IntKind) (n m:Int),fl P t=some (none,e,s)∧eK P e=some zs∧zs.length=s∧0<s∧zs.all D.one=true∧oE P e=some bts∧
   ρ l= .d (.val (.int k1 n))∧ρ cp= .d (.val (.int k2 m))∧0≤n∧n≤m∧m≤maxLen∧bts*m.toNat≤281474976710656∧
   (x= .os s iA 0 n.toNat∧H'=H.set iA (.cells (kx n.toNat zs))∨∃ds:List D,kx n.toNat zs=ds.map .d∧ds.length=n.toNat*s∧x= .d (.fs ds n.toNat)∧H'=H.set iA .dead)∧sh'=sh
 | .makeMap t hint=>(hint=none∨∃y k m,hint=some y∧ρ y= .d (.val (.int k m))∧(j4 P t).isSome=true)∧x= .om iA∧H'=H.set iA (.map [] 0)∧sh'=sh
 | .buildSlice t len parts=>∃e s zs cs,fl P t=some (none,e,s)∧eK P e=some zs∧zs.length=s∧0<s∧zs.all D.one=true∧len*s≤16777216∧vJ (fun i=>some (i*s,s)) (kx len zs) (parts.toList.map fun p=>(p.1,ρ p.2))=some cs∧
   (x= .os s iA 0 len∧H'=H.set iA (.cells cs)∨∃ds:List D,cs=ds.map .d∧ds.length=len*s∧x= .d (.fs ds len)∧H'=H.set iA .dead)∧sh'=sh
 | .call c=>match c.callee with
  | .value f=>∃n fi ca ds r cs,zj (ρ f)=some (n,fi,ca)∧AV.lT.iO (fi++c.args.toList.map ρ++ca)=some ds∧jzh P n ds r cs∧x=r iA∧H'=H.set iA (.cells (cs.map .d))∧sh'=sh
  | .builtin .append=>match c.args.toList,c.argTypes.toList with
   |[s,y],[t,t']=>yo7 P dr iA t t' (ρ s) (ρ y) H sh x H' sh'
   |_,_=>False
  |_=>False
 |_=>False
theorem aQ.laid(h:aQ c τ H sh pl a w){n:Nat}(hn:H[n]? =some .free)(eg:∀p∈sh,p.1≠n∧p.2≠n)(hb:Below w.heap.size w w'){p:Option (Nat × Nat)}(hp:∀q,p=some q→w.heap.size≤q.1){o:bq}
  (ho:∀dO,(∀b,dO b→bu c.E H pl b∨∃k,p=some (b,k))→gC w' (pl.set n p) dO n o):aQ c τ (H.set n o) sh (pl.set n p) a w'∧∀b,bu c.E (H.set n o) (pl.set n p) b→bu c.E H pl b∨∃k,p=some (b,k):=by
 have fg:=h.h.dq hn
 have hs:jw (fun _=>False) w w':=⟨hb.os,hb.tape,hb.output,hb.size,fun b h _=>hb.block b h,fun b s hs=>(AK (hb.block b (FR hs))).trans hs⟩
 have cd:=fun i oo p' h1 h2=>h.h.place (n:=n) (o:=o) (q:=p) i oo p' h1 h2
 have dp:∀b,bu c.E (H.set n o) (pl.set n p) b→bu c.E H pl b∨∃k,p=some (b,k):=fun b hb=>by
  rcases hb with hb|⟨i,oo,e,h1,h2,h3⟩
  ·exact .inl (.inl hb)
  ·rcases cd i oo _ h1 h3 with⟨_,k1,k2⟩|⟨_,_,k⟩
   ·exact .inl (.inr ⟨i,oo,e,k1,h2,k2⟩)
   ·exact .inr ⟨e,k⟩
 have aA:∀(id:Nat) (oo:bq) (p:Nat × Nat),H[id]? =some oo→oo.live=true→pl[id]? =some (some p)→p.1<w.heap.size:=fun id oo p h1 h2 h3=>h.h.jC h1 h2 h3
 refine⟨h.step (hs.mono fun _ _ h=>h.elim) (y7 fg) (fun b ia=>?_) ⟨by simp[h.h.len],fun i oo hi=>?_,fun i j oi oj p1 q1 h1 h2 l1 l2 cw s1 s2 e1 e2=>?_,fun i oo p1 h1 l1 e1=>?_,fun p hp=>by have:=h.h.shl p hp;simpa using this,fun i j ci cj p1 q1 hm h1 h2 e1 e2 mX=>?_⟩,dp⟩
 ·obtain⟨i,oo,e,h1,h2,h3⟩:=ia
  rcases cd i oo _ h1 h3 with⟨_,k1,k2⟩|⟨_,_,k⟩
  ·exact .inl ⟨i,oo,e,k1,h2,k2⟩
  ·exact .inr (hp _ k)
 ·rcases kP hi with⟨rfl,rfl,_⟩|⟨cw,hi⟩
  ·exact ho _ dp
  ·refine(h.h.obj i oo hi).mono hb.size (fun b h _=>hb.block b h) (fun b pC ia=>?_) hs.shape (y7 fg) (fun hh=>by rw[qa cw];exact hh) (fun hl b e he=>hb.block b (aA i oo _ hi hl he))
   rcases dp b ia with h'|⟨k,h'⟩
   ·exact h'
   ·have:=hp _ h';simp only at this;omega
 ·rcases cd i oi p1 h1 e1 with⟨_,a1,a2⟩|⟨a0,a1,a2⟩<;>rcases cd j oj q1 h2 e2 with⟨_,b1,b2⟩|⟨b0,b1,b2⟩
  ·exact h.h.l9 i j oi oj p1 q1 a1 b1 l1 l2 cw s1 s2 a2 b2
  ·have:=aA i oi p1 a1 l1 a2;have:=hp _ b2;omega
  ·have:=aA j oj q1 b1 l2 b2;have:=hp _ a2;omega
  ·omega
 ·rcases cd i oo p1 h1 e1 with⟨_,a1,a2⟩|⟨a0,a1,a2⟩
  ·exact h.h.ext i oo p1 a1 l1 a2
  ·intro he;have:=h.lt _ he;have:=hp _ a2;omega
 ·rcases cd i _ p1 h1 e1 with⟨_,a1,a2⟩|⟨a0,a1,a2⟩
  ·rcases cd j _ q1 h2 e2 with⟨_,b1,b2⟩|⟨b0,b1,b2⟩
   ·exact h.h.shr i j ci cj p1 q1 hm a1 b1 a2 b2 mX
   ·exact absurd b0 (eg _ hm).2
  ·exact absurd a0 (eg _ hm).1
theorem aQ.frozen(h:aQ c τ H sh pl a w){n:Nat}(eg:∀p∈sh,p.1≠n∧p.2≠n){ds:List D}{s len:Nat}(hid:H[n]? =some (.cells (ds.map .d)))(hl:ds.length=len*s)(h0:0<s){v:Value}(hv:Rd w pl (bu c.E H pl) (.os s n 0 len) v):
  aQ c τ (H.set n .dead) sh pl a w∧Rd w pl (bu c.E (H.set n .dead) pl) (.d (.fs ds len)) v:=by
 refine⟨h.kill n (fun i j hm _ _=>hm) (fun p hp=>hp),?_⟩
 have dp:∀b,bu c.E (H.set n .dead) pl b→bu c.E H pl b∧(∀base,pl[n]? =some (some (b,base))→False):=fun b hb=>by
  rcases hb with hb|⟨i,o,e,h1,h2,h3⟩
  ·exact⟨.inl hb,fun base hp=>h.h.ext n _ _ hid rfl hp hb⟩
  ·rcases kP h1 with⟨_,rfl,_⟩|⟨cw,h1⟩
   ·cases h2
   ·exact⟨.inr ⟨i,o,e,h1,h2,h3⟩,fun base hp=>h.h.l9 i n o _ _ _ h1 hid h2 rfl cw (fun hm=>(eg _ hm).2 rfl) (fun hm=>(eg _ hm).1 rfl) h3 hp rfl⟩
 cases hv with
 |os _ _ _ _ cap b base sz t hp eD hn hm hz=>
  rcases h.h.obj _ _ hid with⟨_,k2⟩|⟨b',gz,arr,t',k1,k2,k3,k4⟩
  ·rw[hp]at k2;cases k2
  ·rw[hp]at k1;cases k1
   have k3':base+ds.length≤arr.size:=by simpa using k3
   refine .d _ _ (.fs ds len cap b (base+0) (fun j=>arr.getD (base+j) undef) (oq.1 k2).1 (fun hb=>(dp b hb).2 base hp) hn hm (fun j y hj=>?_) (fun j y hj=>?_) (fun j y hj=>?_))
   ·have:=(dX.1 hj).1
    rw[cell_of_row _ _ _ _ _ _ k2]
    simp[Array.getD,show base+j<arr.size by omega]
   ·exact(k4 j (.d y) (by rw[List.getElem?_map,hj];rfl)).2
   ·have h1:=(k4 j (.d y) (by rw[List.getElem?_map,hj];rfl)).1
    cases h1 with|d _ _ h1=>
    exact h1.mono (bm _) (fun _ _ _=>rfl) (fun b _ hb=>(dp b hb).1)
 |lJ _ _ _ ad=>
  have:ds=[]:=List.eq_nil_of_length_eq_zero (by simpa using hl)
  subst this
  exact .d _ _ (.f0 ad 0 (cy _) (fun _=>rfl))
theorem jbb{t:TypeId}(h:(tP P t).isSome=true):∃k,P.underlying t=some (.int k):=by
 unfold tP at h
 split at h
 ·rename_i k hk;exact⟨k,hk⟩
 ·cases h
theorem jqz{n m bts:Nat}(h:1≤bts)(hb:(n+m)*bts≤140737488355328):n+m≤4611686018427387904:=by
 have:=Nat.mul_le_mul_left (n+m) h
 omega
theorem TM(h:aQ c τ H sh pl a w){cq:Nat}(iR:H[cq]? =some .free)(eg:∀p∈sh,p.1≠cq∧p.2≠cq){t t' ty e:TypeId}{s bts:Nat}(he:fl P t=some (none,e,s))(ef:oE P e=some bts){zs:List D}(hz:eK P e=some zs)(jj:zs.length=s)
  {id off n:Nat} {cs:List AV} (hid:H[id]? =some (.cells cs)) (oA:off+n*s=cs.length) (eD:∀p∈sh,p.2≠id) {v:Value} (hv:Rd w pl (bu c.E H pl) (.os s id off n) v)
  {xa:AV} {m:Nat} {l:List AV} (hs:EZ P t t' zs bts H s xa m l) {x:Value} (hx:Rd w pl (bu c.E H pl) xa x) (sk:n+m≤maxLen) (hb:(n+m)*bts≤140737488355328):
  ∃u w',(Builtin.append_ #[t,t'] ty #[v,x]).run P w= .ok u w'∧Lays c τ a (H.set cq (.cells (cs.drop off++l))) (fX sh id cq) (.os s cq 0 (n+m)) u w':=by
 rcases hs with⟨rfl,hs⟩|⟨h1,h2,h3,⟨k,rfl⟩,rfl⟩
 ·exact jfn h iR eg he ef hz jj hid oA eD hv hs.src hx sk hb
 ·obtain⟨kn,iJ⟩:=jbb h1
  rw[qN hx]
  exact zza h iR eg iJ he ef hz jj h2 hid oA eD hv (jqz h3 hb) hb
theorem zzj(h:aQ c τ H sh pl a w){cq:Nat}(iR:H[cq]? =some .free)(eg:∀p∈sh,p.1≠cq∧p.2≠cq){t t' ty e:TypeId}{s bts:Nat}(he:fl P t=some (none,e,s))(ef:oE P e=some bts){zs:List D}(hz:eK P e=some zs)(jj:zs.length=s)
  {xa:AV} {m:Nat} {l:List AV} (hs:EZ P t t' zs bts H s xa m l) {x:Value} (hx:Rd w pl (bu c.E H pl) xa x) (sk:m≤maxLen) (hb:m*bts≤140737488355328):
  ∃u w',(Builtin.append_ #[t,t'] ty #[.slice none 0 0,x]).run P w= .ok u w'∧Lays c τ a (H.set cq (.cells l)) sh (.os s cq 0 m) u w':=by
 rcases hs with⟨rfl,hs⟩|⟨h1,h2,h3,⟨k,rfl⟩,rfl⟩
 ·exact append_nil h iR eg he ef hz jj hs.src hx sk hb
 ·obtain⟨kn,iJ⟩:=jbb h1
  rw[qN hx]
  exact zzb h iR eg iJ he ef hz jj h2 (by have:=jqz (n:=0) (m:=m) h3 (by rw[Nat.zero_add];exact hb);omega) hb
theorem JF(h:aQ c τ H sh pl a w){o:Oper}{dr:Bool}{n:Nat}(hn:H[n]? =some .free)(eg:∀p∈sh,p.1≠n∧p.2≠n){x:AV}(hq:ka P dr n (aU τ) o.op H sh x H' sh'){K:Act→World→Prop}{Q:Exit→Act→World→Prop}
  (hK:∀v w' bt,aQ c τ H' sh' bt a w'→Rd w' bt (bu c.E H' bt) x v→K (a.put o.dst v) w'):o.wp P a w K Q:=by
 have done:∀v w',(execOp a.eval o).run P w= .ok (.value v) w'→Lays c τ a H' sh' x v w'→o.wp P a w K Q:=fun v w' hr ⟨bt,h1,h2⟩=>Cd hr (hK v w' bt h1 h2)
 obtain⟨dst,op,ty,pos,after,guard⟩:=o
 simp only at hq hK done
 unfold ka at hq
 split at hq
 ·rename_i t y
  obtain⟨cs,hc,rfl,rfl,rfl⟩:=hq
  obtain⟨u,w',h1,h2⟩:=juo (P:=P) h hn eg t hc (h.eval y)
  exact done u w' (by simp[execOp,h1]) h2
 ·obtain⟨zs,hz,h0,rfl,rfl,rfl⟩:=hq
  obtain⟨u,w',h1,h2⟩:=jhk (P:=P) h hn eg _ hz h0
  exact done u w' (by simp[execOp,h1]) h2
 ·obtain⟨e,s,zs,bts,k1,k2,m,m',he,hz,hl,h0,h1,ef,hm,tx,b0,b1,b2,b3,hc,rfl⟩:=hq
  have r1:=qN (hm▸h.eval _)
  have r2:=qN (tx▸h.eval _)
  obtain⟨q,rfl⟩:∃q:Nat,m=q:=⟨m.toNat,by omega⟩
  obtain⟨q',rfl⟩:∃q:Nat,m'=q:=⟨m'.toNat,by omega⟩
  simp only[Int.toNat_natCast]at *
  obtain⟨u,w',h2,h3⟩:=zun (P:=P) h hn eg he hz hl h0 h1 ef k1 k2 (n:=q) (cap:=q') (by omega) (by omega) b3
  rcases hc with⟨rfl,rfl⟩|⟨ds,hr,mG,rfl,rfl⟩
  ·exact done u w' (by simp[execOp,r1,r2,h2]) h3
  ·obtain⟨bt,k1,k2⟩:=h3
   rw[hr]at k1 k2
   have aA:n<H.length:=(dX.1 hn).1
   obtain⟨f1,f2⟩:=k1.frozen eg (List.getElem?_set_self aA) mG h0 k2
   rw[List.set_set]at f1 f2
   exact done u w' (by simp[execOp,r1,r2,h2]) ⟨bt,f1,f2⟩
 ·rename_i t hint
  obtain⟨hh,rfl,rfl,rfl⟩:=hq
  obtain⟨h1,h2,h3⟩:=zzh (P:=P) h hn eg t (hint.map a.eval) (by
   rcases hh with rfl|⟨y,k,m,rfl,hy,hm⟩
   ·exact .inl rfl
   ·exact .inr ⟨k,m,congrArg some (qN (hy▸h.eval y)),hm⟩)
  exact done _ _ (by simp only[execOp,Sem.run_bind,h1];rfl) ⟨_,h2,h3⟩
 ·rename_i t len parts
  obtain⟨e,s,zs,cs,he,hz,hl,h0,h1,ti,hf,hc,rfl⟩:=hq
  obtain⟨u,w',h2,h3⟩:=zsl (P:=P) h hn eg he hz hl h0 h1 ti hf (vparts:=parts.map fun p=>(p.1,a.eval p.2)) (by simp) (fun j i x hj=>by
   rw[List.getElem?_map,cA]at hj
   obtain⟨q,hq,he⟩:=hj
   cases he
   exact⟨a.eval q.2,by rw[Array.toList_map,List.getElem?_map,hq];rfl,h.eval q.2⟩)
  rcases hc with⟨rfl,rfl⟩|⟨ds,rfl,mG,rfl,rfl⟩
  ·exact done u w' (by simp only[execOp,Sem.run_bind,h2];rfl) h3
  ·obtain⟨bt,k1,k2⟩:=h3
   have aA:n<H.length:=(dX.1 hn).1
   obtain⟨f1,f2⟩:=k1.frozen eg (List.getElem?_set_self aA) mG h0 k2
   rw[List.set_set]at f1 f2
   exact done u w' (by simp only[execOp,Sem.run_bind,h2];rfl) ⟨bt,f1,f2⟩
 ·rename_i cl
  obtain⟨callee,args,ts⟩:=cl
  simp only at hq
  split at hq
  ·obtain⟨f,fi,ca,ds,r,cs,hc,qq,hp,rfl,rfl,rfl⟩:=hq
   obtain⟨vs,us,hv,h1,h2⟩:=Nh hc (h.eval _)
   have cP:=(h1.append (h.args args)).append h2
   obtain⟨l1,l2⟩:=B3 w pl (bu c.E H pl) _ ds _ qq cP.2
   refine DP (o:=⟨dst,_,ty,pos,after,guard⟩) (DO (o:=⟨dst,_,ty,pos,after,guard⟩) rfl hv hp.1) ((hp.2 w (bu c.E H pl) _ (by rw[cP.1,l1]) l2 h.iP).mono fun e w' ⟨v,p,he,hb,xS,ho⟩=>⟨v,he,?_⟩)
   have Bn:(pl.set n p)[n]? =some p:=wg h hn p
   obtain⟨o1,o2⟩:=ho _ _ Bn
   obtain⟨hS,dp⟩:=h.laid hn eg hb xS (o:=.cells (cs.map .d)) (fun dO vv=>o1.mono (bm _) (fun _ _ _=>rfl) (fun b _ hb=>vv b hb) (fun _ _ h=>h) (fun _ _ h=>h) (fun h=>h) (fun _ _ _ _=>rfl))
   exact hK v w' _ hS (o2.mono (bm _) (fun _ _ _=>rfl) (fun b _ hb=>dp b hb) (fun _ _ h=>h) (fun _ _ h=>h))
  ·obtain⟨args⟩:=args
   obtain⟨ts⟩:=ts
   simp only at hq
   split at hq
   ·rename_i s y t t'
    obtain⟨e,k,zs,bts,m,l,he,hz,hl,ef,hs,hq⟩:=hq
    have cR:∀u w',(Builtin.append_ #[t,t'] ty #[a.eval s,a.eval y]).run P w= .ok u w'→(execOp a.eval ⟨dst,.call {callee:=.builtin .append,args:=⟨[s,y]⟩,argTypes:=⟨[t,t']⟩},ty,pos,after,guard⟩).run P w= .ok (.value u) w':=fun u w' h1=>by
     simp only[execOp,resolve,Sem.run_bind,Sem.run_pure,Result.andThen_ok,invoke,builtin,List.map_toArray,List.map_cons,List.map_nil]
     rw[h1];rfl
    split at hq
    ·rename_i k' id off q e3
     obtain⟨cs,rfl,hid,oA,b1,b2,rfl,hq⟩:=hq
     have hv:=h.eval s
     rw[e3]at hv
     cases dr with
     |true=>
      obtain⟨eD,rfl,rfl⟩:=hq
      obtain⟨u,w',h1,h2⟩:=TM (P:=P) (ty:=ty) h hn eg he ef hz hl hid oA eD hv hs (h.eval y) b1 b2
      exact done u w' (cR u w' h1) h2
     |false=>
      obtain⟨rfl,rfl,rfl⟩:=hq
      obtain⟨u,w',h1,bt,h2,h3⟩:=TM (P:=P) (ty:=ty) h hn eg he ef hz hl hid oA (fun p hp=>by cases hp) hv hs (h.eval y) b1 b2
      refine done u w' (cR u w' h1) ⟨bt,h2.kill id (fun i j hm h4 h5=>?_) (fun p hp=>by cases hp),?_⟩
      ·rcases zk hm with⟨_,k⟩|⟨_,k⟩|k
       ·exact absurd k h5
       ·cases k
       ·cases k
      ·refine h3.mono (bm _) (fun _ _ _=>rfl) (fun b _ hb=>?_) (fun _ _ h=>h) (fun _ _ h=>h)
       rcases hb with hb|⟨i,oo,e,k1,k2,k3⟩
       ·exact .inl hb
       ·rcases kP k1 with⟨_,rfl,_⟩|⟨_,k1⟩
        ·cases k2
        ·exact .inr ⟨i,oo,e,k1,k2,k3⟩
    ·rename_i e3
     obtain⟨b1,b2,rfl,rfl,rfl⟩:=hq
     have hv:=h.eval s
     rw[e3]at hv
     have HB:a.eval s= .slice none 0 0:=by generalize a.eval s=z at hv;cases hv with|d _ _ hv=>cases hv;rfl
     obtain⟨u,w',h1,h2⟩:=zzj (P:=P) (ty:=ty) h hn eg he ef hz hl hs (h.eval y) b1 b2
     exact done u w' (cR u w' (by rw[HB];exact h1)) h2
    ·exact hq.elim
   ·exact hq.elim
  ·exact hq.elim
 ·exact hq.elim
def wR(P:Program)(ρ:Operand→AV)(op:Op)(H:ak)(sh:List (Nat × Nat))(N1:Nat)(H':ak):Prop:=
 match op with
 | .store t p y=>∃id i cs l,ρ p= .op id i∧H[id]? =some (.cells cs)∧dA P t=some l.length∧lS (ρ y)=some l∧i+l.length≤cs.length∧(∀q∈sh,q.1≠id∧q.2≠id)∧N1≤id∧H'=H.set id (.cells (ir cs i l))
 |_=>False
theorem M8(h:aQ c τ H sh pl a w){o:Oper}{N1:Nat}(hq:wR P (aU τ) o.op H sh N1 H'){K:Act→World→Prop}{Q:Exit→Act→World→Prop}
  (hK:∀w' bt,aQ c τ H' sh bt a w'→K (a.put o.dst undef) w'):o.wp P a w K Q:=by
 obtain⟨dst,op,ty,pos,after,guard⟩:=o
 simp only at hq hK
 unfold wR at hq
 split at hq
 ·rename_i t p y
  obtain⟨id,i,cs,l,hp,hid,hs,hc,hi,eD,_,rfl⟩:=hq
  have h1:=h.eval p
  rw[hp]at h1
  obtain⟨w',h2,bt,h3⟩:=jhl (P:=P) h t hid hs hc hi eD h1 (h.eval y)
  exact Jn (by simp only[execOp,Sem.run_bind];rw[h2];rfl) (hK w' bt h3)
 ·exact hq.elim
end
end
section
mutual
def AV.allI(p:Nat→Bool):AV→Bool
 | .os _ id _ _=>p id
 | .op id _=>p id
 | .om id=>p id
 | .agg cs=>AV.ah p cs
 | .dc cs=>AV.ah p cs
 | .dk _ fi ca=>AV.ah p fi&&AV.ah p ca
 | .any=>true
 | .d _=>true
def AV.ah(p:Nat→Bool):List AV→Bool
 |[]=>true
 |x::l=>AV.allI p x&&AV.ah p l
end
theorem AV.dF{p:Nat→Bool}:∀{l:List AV} {j:Nat} {x:AV},AV.ah p l=true→l[j]? =some x→x.allI p=true
 |y::l,0,x,h,hj=>by
  rw[AV.ah,gG]at h
  simp at hj;subst hj;exact h.1
 |y::l,j+1,x,h,hj=>by
  rw[AV.ah,gG]at h
  exact AV.dF h.2 (by simpa using hj)
def bq.allI(p:Nat→Bool):bq→Bool
 | .cells cs=>AV.ah p cs
 | .map es _=>AV.ah p (es.map (·.2.2))
 | .loop _ _ fr=>AV.ah p fr
 |_=>true
theorem Rd.place{w w':World}{pl bt:List (Option (Nat × Nat))}{own dO:Nat→Prop}{x:AV}{v:Value}{p:Nat→Bool}(h:Rd w pl own x v)(hi:x.allI p=true)(hs:w.heap.size≤w'.heap.size)
  (hb:∀b,b<w.heap.size→¬own b→w'.heap[b]? =w.heap[b]?) (hw:∀b,b<w.heap.size→dO b→own b)
  (eD:∀b s,w.shape? b=some s→w'.shape? b=some s) (hp:∀(i:Nat) (q:Nat × Nat),p i=true→pl[i]? =some (some q)→bt[i]? =some (some q)):Rd w' bt dO x v:=by
 induction h with
 |any v=>exact .any v
 |d x v h=>exact .d x v (h.mono hs hb hw)
 |os k id off n cap b base sz t h1 h2 h3 h4 h5=>
  exact .os k id off n cap b base sz t (hp _ _ (by simpa[AV.allI]using hi) h1) (eD _ _ h2) h3 h4 h5
 |lJ k id off a=>exact .lJ k id off a
 |op id off b base h1=>exact .op id off b base (hp _ _ (by simpa[AV.allI]using hi) h1)
 |om id b base h1=>exact .om id b base (hp _ _ (by simpa[AV.allI]using hi) h1)
 |agg cs vs hl _ ih=>exact .agg cs vs hl fun j x hj=>ih j x hj (AV.dF (by simpa[AV.allI]using hi) hj)
 |dc cs vs hl _ ih=>exact .dc cs vs hl fun j x hj=>ih j x hj (AV.dF (by simpa[AV.allI]using hi) hj)
 |dk fn fi ca vs us hl _ gh _ ih vo=>
  rw[AV.allI,gG]at hi
  exact .dk fn fi ca vs us hl (fun j x hj=>ih j x hj (AV.dF hi.1 hj)) gh (fun j x hj=>vo j x hj (AV.dF hi.2 hj))
theorem gC.place{w w':World}{pl bt:List (Option (Nat × Nat))}{own dO:Nat→Prop}{id cq:Nat}{o:bq}{p:Nat→Bool}(h:gC w pl own id o)(hi:o.allI p=true)(hs:w.heap.size≤w'.heap.size)
  (hb:∀b,b<w.heap.size→¬own b→w'.heap[b]? =w.heap[b]?) (hw:∀b,b<w.heap.size→dO b→own b)
  (eD:∀b s,w.shape? b=some s→w'.shape? b=some s) (hp:∀(i:Nat) (q:Nat × Nat),p i=true→pl[i]? =some (some q)→bt[i]? =some (some q)) (hid:∀q,pl[id]? =some q→bt[cq]? =some q)
  (pB:o.live=true→∀b c,pl[id]? =some (some (b,c))→w'.heap[b]? =w.heap[b]?):gC w' bt dO cq o:=by
 cases o with
 |free=>exact hid _ h
 |dead=>trivial
 |cells cs=>
  rcases h with⟨h1,h2⟩|⟨b,base,arr,t,h1,h2,h3,h4⟩
  ·exact .inl ⟨h1,hid _ h2⟩
  ·exact .inr ⟨b,base,arr,t,hid _ h1,(pB rfl _ _ h1).trans h2,h3,fun j x hj=>⟨(h4 j x hj).1.place (AV.dF hi hj) hs hb hw eD hp,(h4 j x hj).2⟩⟩
 |map es clock=>
  obtain⟨b,base,ms,h1,h2,h3,h5,h4⟩:=h
  refine⟨b,base,ms,hid _ h1,(pB rfl _ _ h1).trans h2,h3,h5,fun j e k n x hj hk=>⟨(h4 j e k n x hj hk).1,(h4 j e k n x hj hk).2.1,(h4 j e k n x hj hk).2.2.place (AV.dF (j:=j) hi ?_) hs hb hw eD hp⟩⟩
  rw[List.getElem?_map,hk];rfl
 |loop b r fr=>
  obtain⟨base,h1,h2,h3⟩:=h
  exact⟨base,hid _ h1,(pB rfl _ _ h1).trans h2,fun j x hj=>(h3 j x hj).place (AV.dF hi hj) hs hb hw eD hp⟩
def cM(P:Program)(m:List Nat)(f:FuncId)(xs:List AV)(S:ak)(K:AV→ak→Prop):Prop:=
 nU P f=true∧∀(E:Nat→Prop) (w:World) (pl:List (Option (Nat × Nat))) (vals:Array Value),vals.size=xs.length→(∀j x,xs[j]? =some x→Rd w pl (bu E S pl) x (vals.getD j undef))→ei E w pl S []→(∀b,E b→b<w.heap.size)→
  Calls P f vals w fun e w'=>∃v x S' bt,e= .returned v∧K x S'∧Rd w' bt (bu E S' bt) x v∧ei E w' bt S' []∧jw (fK S pl) w w'∧(∀b,fK S' bt b→fK S pl b∨w.heap.size≤b)∧(∀(i:Nat) (p:Nat × Nat),i∈m→pl[i]? =some (some p)→bt[i]? =some (some p))
def aJ(m:List Nat)(k i:Nat):Bool:=m.contains i||decide (k≤i)
def Kp(c:Cx)(sm:List Nat):Prop:=∀(i:Nat) (p:Nat × Nat),c.KJ[i]? =some (some p)→i∈sm
theorem Kp.all(c:Cx):Kp c (List.range c.KJ.length):=fun i p h=>qk.2 (dX.1 h).1
theorem Kp.none{c:Cx}(h:c.KJ=[]):Kp c []:=fun i p hi=>by rw[h]at hi;cases hi
def aN(k i:Nat):Bool:=decide (i<k)
section
variable {P:Program} {c:Cx} {τ:Fr} {a:Act} {w w':World} {pl bt:List (Option (Nat × Nat))} {S T S':ak} {pS pT:List (Option (Nat × Nat))} {m sm:List Nat}
theorem uY(hl:pS.length=S.length){b:Nat}:fK (S++T) (pS++pT) b↔fK S pS b∨fK T pT b:=by
 constructor
 ·rintro⟨id,o,e,h1,h2,h3⟩
  by_cases hi:id<S.length
  ·rw[iI hi]at h1
   rw[iI (by omega)]at h3
   exact .inl ⟨id,o,e,h1,h2,h3⟩
  ·rw[ji (by omega)]at h1
   rw[ji (by omega),hl]at h3
   exact .inr ⟨id - S.length,o,e,h1,h2,h3⟩
 ·rintro(⟨id,o,e,h1,h2,h3⟩|⟨id,o,e,h1,h2,h3⟩)
  ·have hi:=(dX.1 h1).1
   exact⟨id,o,e,by rw[iI hi];exact h1,h2,by rw[iI (by omega)];exact h3⟩
  ·refine⟨S.length+id,o,e,?_,h2,?_⟩
   ·rw[ji (by omega),Nat.add_sub_cancel_left];exact h1
   ·rw[ji (by omega),hl,Nat.add_sub_cancel_left];exact h3
theorem jq0{E:Nat→Prop}{H:ak}{b:Nat}:bu E H pl b↔E b∨fK H pl b:=Iff.rfl
def Ek(E:Nat→Prop)(T:ak)(pT:List (Option (Nat × Nat)))(b:Nat):Prop:=E b∨fK T pT b
theorem DH{E:Nat→Prop}(hl:pS.length=S.length){b:Nat}:bu (Ek E T pT) S pS b↔bu E (S++T) (pS++pT) b:=by
 rw[jq0,jq0,uY hl]
 unfold Ek
 constructor
 ·rintro((h|h)|h)
  ·exact .inl h
  ·exact .inr (.inr h)
  ·exact .inr (.inl h)
 ·rintro(h|h|h)
  ·exact .inl (.inl h)
  ·exact .inr h
  ·exact .inl (.inr h)
theorem p7{α:Type}{A B:List α}{i:Nat}{x:α}(h:A[i]? =some x):(A++B)[i]? =some x:=by
 rw[iI (dX.1 h).1];exact h
theorem uM{α:Type}{A B:List α}{i:Nat}{x:α}(h:B[i]? =some x):(A++B)[A.length+i]? =some x:=by
 rw[ji (by omega),Nat.add_sub_cancel_left];exact h
theorem jhz{E:Nat→Prop}(h:ei E w (pS++pT) (S++T) [])(hl:pS.length=S.length)(hS:∀o∈S,o.allI (aN S.length)=true):ei (Ek E T pT) w pS S []:=by
 have aA:pT.length=T.length:=by have:=h.len;simp at this;omega
 refine⟨hl,fun id o ho=>?_,fun i j oi oj p q h1 h2 l1 l2 cw s1 s2 p1 p2=>?_,fun i o p h1 l1 p1=>?_,fun p hp=>(by cases hp),fun i k ci ck p q hm=>(by cases hm)⟩
 ·have hid:=(dX.1 ho).1
  refine(h.obj id o (p7 ho)).place (p:=aN S.length) (hS o (List.mem_of_getElem? ho)) (bm _) (fun _ _ _=>rfl) (fun b _ hb=>(DH hl).1 hb) (fun _ _ h=>h) (fun i q hi hq=>?_) (fun q hq=>?_) (fun _ _ _ _=>rfl)
  ·have hi:i<S.length:=by simpa[aN]using hi
   rwa[iI (by omega)]at hq
  ·rwa[iI (by omega)]at hq
 ·exact h.l9 i j oi oj p q (p7 h1) (p7 h2) l1 l2 cw s1 s2 (p7 p1) (p7 p2)
 ·rintro(he|⟨id,o',e,k1,k2,k3⟩)
  ·exact h.ext i o p (p7 h1) l1 (p7 p1) he
  ·have hi:=(dX.1 h1).1
   have a1:(pS++pT)[S.length+id]? =some (some (p.1,e)):=by rw[←hl];exact uM k3
   exact h.l9 i (S.length+id) o o' p (p.1,e) (p7 h1) (uM k1) l1 k2 (by omega) (by simp) (by simp) (p7 p1) a1 rfl
theorem jh0(h:aQ c τ (S++T) [] (pS++pT) a w)(hl:pS.length=S.length)(hc:Kp c sm)(hm:sm.all (aJ m S.length)=true)(hτ:∀t,(τ t).allI (aJ m S.length)=true)(hT:∀o∈T,o.allI (aJ m S.length)=true)
  (zV:S'.length=S.length) (hh:ei (Ek c.E T pT) w' bt S' []) (hs:jw (fK S pS) w w') (hn:∀b,fK S' bt b→fK S pS b∨w.heap.size≤b) (hk:∀(i:Nat) (p:Nat × Nat),i∈m→pS[i]? =some (some p)→bt[i]? =some (some p)):
  aQ c τ (S'++T) [] (bt++pT) a w':=by
 have hlen:=h.h.len
 have hlT:pT.length=T.length:=by simp at hlen;omega
 have gh:bt.length=S'.length:=hh.len
 have py:∀(i:Nat) (q:Nat × Nat),aJ m S.length i=true→(pS++pT)[i]? =some (some q)→(bt++pT)[i]? =some (some q):=fun i q hi hq=>by
  simp only[aJ,Bool.or_eq_true,oU,List.contains_eq_mem]at hi
  by_cases aA:i<S.length
  ·rw[iI (by omega)]at hq
   exact p7 (hk i q (hi.resolve_right (by omega)) hq)
  ·have hi:S.length≤i:=by omega
   rw[ji (by omega),hl]at hq
   rw[ji (by omega),gh,zV];exact hq
 have hSb:∀b,fK S pS b→b<w.heap.size:=fun b hb=>h.iP b (.inr ((uY hl).2 (.inl hb)))
 have hST:∀b,fK S pS b→¬fK T pT b:=fun b ⟨i,o,e,k1,k2,k3⟩ ⟨j,o',e',j1,j2,j3⟩=>by
  have hi:=(dX.1 k1).1
  have a1:(pS++pT)[S.length+j]? =some (some (b,e')):=by rw[←hl];exact uM j3
  exact h.h.l9 i (S.length+j) o o' (b,e) (b,e') (p7 k1) (uM j1) k2 j2 (by omega) (by simp) (by simp) (p7 k3) a1 rfl
 have hTb:∀b,fK T pT b→b<w.heap.size:=fun b hb=>h.iP b (.inr ((uY hl).2 (.inr hb)))
 have how:∀b,b<w.heap.size→bu c.E (S'++T) (bt++pT) b→bu c.E (S++T) (pS++pT) b:=fun b hb ho=>by
  rcases ho with ho|ho
  ·exact .inl ho
  ·rcases(uY gh).1 ho with ho|ho
   ·rcases hn b ho with ho|ho
    ·exact .inr ((uY hl).2 (.inl ho))
    ·omega
   ·exact .inr ((uY hl).2 (.inr ho))
 have pC:∀b,b<w.heap.size→¬bu c.E (S++T) (pS++pT) b→w'.heap[b]? =w.heap[b]? :=fun b hb lX=>hs.block b hb fun ia=>lX (.inr ((uY hl).2 (.inl ia)))
 have hO:∀b,fK S pS b→c.O0 b∨c.w0.heap.size≤b:=fun b ⟨i,o,e,k1,k2,k3⟩=>h.gZ i o (b,e) (p7 k1) k2 (p7 k3)
 have hL:∀b,fK (S'++T) (bt++pT) b→fK (S++T) (pS++pT) b∨w.heap.size≤b:=fun b ho=>by
  rcases(uY gh).1 ho with ho|ho
  ·rcases hn b ho with ho|ho
   ·exact .inl ((uY hl).2 (.inl ho))
   ·exact .inr ho
  ·exact .inl ((uY hl).2 (.inr ho))
 refine⟨⟨by simp;omega,fun id o ho=>?_,fun i j oi oj p q h1 h2 l1 l2 cw s1 s2 p1 p2=>?_,fun i o p h1 l1 p1=>?_,fun p hp=>(by cases hp),fun i k ci ck p q hm=>(by cases hm)⟩,
  h.km.trans hs (fun b hb ho=>by
   rcases hO b ho with h1|h1
   ·exact h1
   ·omega),fun id o p h1 l1 p1=>?_,h.ext,fun t=>(h.fr t).place (hτ t) hs.size pC how hs.shape py,h.size,h.defs.step (fun b hb lX=>hs.block b hb fun ia=>lX ((uY hl).2 (.inl ia))) hL,fun i p hi=>?_⟩
 ·by_cases hid:id<S'.length
  ·rw[iI hid]at ho
   refine(hh.obj id o ho).mono (bm _) (fun _ _ _=>rfl) (fun b _ hb=>(DH gh).2 hb) (fun _ _ h=>h) (fun i q hq=>p7 hq) (fun h0=>p7 h0) (fun _ _ _ _=>rfl)
  ·rw[ji (by omega)]at ho
   have Rb:id=S.length+(id - S'.length):=by omega
   have ho2:(S++T)[id]? =some o:=by rw[Rb];exact uM ho
   refine(h.h.obj id o ho2).place (p:=aJ m S.length) (hT o (List.mem_of_getElem? ho)) hs.size pC how hs.shape py (fun q hq=>?_) (fun l1 b e hq=>?_)
   ·rw[ji (by omega),hl]at hq
    rw[ji (by omega),gh,zV];exact hq
   ·rw[ji (by omega),hl]at hq
    have Iu:fK T pT b:=⟨id - S'.length,o,e,ho,l1,by rw[zV];exact hq⟩
    exact hs.block b (hTb b Iu) fun hb=>hST b hb Iu
 ·have side:∀(i:Nat) (o:bq) (p:Nat × Nat),(S'++T)[i]? =some o→o.live=true→(bt++pT)[i]? =some (some p)→(i<S'.length∧S'[i]? =some o∧bt[i]? =some (some p))∨(S'.length≤i∧T[i - S'.length]? =some o∧pT[i - S'.length]? =some (some p)):=fun i o p h1 l1 p1=>by
   by_cases hi:i<S'.length
   ·rw[iI hi]at h1
    rw[iI (by omega)]at p1
    exact .inl ⟨hi,h1,p1⟩
   ·rw[ji (by omega)]at h1
    rw[ji (by omega),gh]at p1
    exact .inr ⟨by omega,h1,p1⟩
  have BH:∀(i j:Nat) (oi oj:bq) (p q:Nat × Nat),S'[i]? =some oi→bt[i]? =some (some p)→oi.live=true→T[j]? =some oj→pT[j]? =some (some q)→oj.live=true→p.1≠q.1:=fun i j oi oj p q a1 a2 a3 b1 b2 b3 e=>by
   have Iu:fK T pT q.1:=⟨j,oj,q.2,b1,b3,b2⟩
   rcases hn p.1 ⟨i,oi,p.2,a1,a3,a2⟩with h1|h1
   ·exact hST _ h1 (e▸Iu)
   ·have:=hTb _ Iu;omega
  rcases side i oi p h1 l1 p1 with⟨a0,a1,a2⟩|⟨a0,a1,a2⟩<;>rcases side j oj q h2 l2 p2 with⟨b0,b1,b2⟩|⟨b0,b1,b2⟩
  ·exact hh.l9 i j oi oj p q a1 b1 l1 l2 cw (by simp) (by simp) a2 b2
  ·exact BH i _ oi oj p q a1 a2 l1 b1 b2 l2
  ·exact(BH j _ oj oi q p b1 b2 l2 a1 a2 l1).symm
  ·refine h.h.l9 (S.length+(i - S'.length)) (S.length+(j - S'.length)) oi oj p q (uM a1) (uM b1) l1 l2 (by omega) (by simp) (by simp) ?_ ?_
   ·rw[←hl];exact uM a2
   ·rw[←hl];exact uM b2
 ·by_cases hi:i<S'.length
  ·rw[iI hi]at h1
   rw[iI (by omega)]at p1
   exact fun he=>hh.ext i o p h1 l1 p1 (.inl he)
  ·rw[ji (by omega)]at h1
   rw[ji (by omega),gh]at p1
   refine h.h.ext (S.length+(i - S'.length)) o p (uM h1) l1 ?_
   rw[←hl];exact uM p1
 ·by_cases hi:id<S'.length
  ·rw[iI hi]at h1
   rw[iI (by omega)]at p1
   rcases hn p.1 ⟨id,o,p.2,h1,l1,p1⟩with k1|k1
   ·exact hO _ k1
   ·exact .inr (Nat.le_trans h.km.size k1)
  ·rw[ji (by omega)]at h1
   rw[ji (by omega),gh]at p1
   refine h.gZ (S.length+(id - S'.length)) o p (uM h1) l1 ?_
   rw[←hl];exact uM p1
 ·exact py i p (kF.1 hm i (hc i p hi)) (h.keep i p hi)
end
end
section
open Go Go.RowKit
section
variable {P:Program} {c:Cx} {τ:Fr} {a:Act} {w w':World} {pl bt:List (Option (Nat × Nat))} {H H':ak} {sh sh':List (Nat × Nat)}
def fW(fr:List FuncId):Op→Nat
 | .box .. | .alloc _| .makeSlice .. | .buildSlice .. | .makeMap .. =>1
 | .call {callee:=.builtin .append,..}=>3
 | .call {callee:=.builtin .delete,..}=>4
 | .call {callee:=.builtin .clear,..}=>4
 | .call {callee:=.value (.func f),..}=>if fr.contains f then 1 else 0
 | .store .. =>2
 | .mapUpdate .. | .insert .. | .mapEntry .. | .entryStore .. =>4
 |_=>0
def Dy(want:Bool):AV→Option Bool
 | .d (.val (.bool b))=>some (b==want)
 | .d (.val (.tuple _))=>some false
 |_=>none
def kl(ops:List Oper)(τ:Fr)(o:Oper):Option Bool:=
 match o.guard with
 |none=>some true
 |some (j,want)=>match(ops[j]?).bind (·.dst)with
  |none=>some false
  |some d=>Dy want (τ d)
theorem Nu(h:aQ c τ H sh pl a w){ops:List Oper}{o:Oper}{b:Bool}(hg:kl ops τ o=some b):Region.wanted o (yielded ops.toArray a.tmps)=b:=by
 unfold kl at hg
 unfold Region.wanted
 split at hg
 ·rename_i e;cases hg;rw[e]
 ·rename_i j want e
  rw[e]
  simp only
  unfold yielded
  rw[List.getElem?_toArray]
  split at hg
  ·rename_i e2;cases hg;rw[e2];rfl
  ·rename_i d e2
   rw[e2]
   simp only[Option.bind_some]
   have hx:=h.fr d
   unfold Dy at hg
   split at hg
   ·rename_i b' e3
    cases hg
    rw[e3]at hx
    have hv:a.tmps.getD d undef= .bool b':=by generalize a.tmps.getD d undef=z at hx;cases hx with|d _ _ hx=>cases hx;rfl
    by_cases hd:d<a.tmps.size
    ·rw[Array.getD,dif_pos hd]at hv
     rw[Array.getElem?_eq_getElem hd]
     have HB:a.tmps[d]= .bool b':=hv
     rw[HB]
     cases b'<;>cases want<;>rfl
    ·rw[Array.getD,dif_neg hd]at hv
     cases hv
   ·rename_i u e3
    cases hg
    rw[e3]at hx
    have hv:a.tmps.getD d undef= .tuple u:=by generalize a.tmps.getD d undef=z at hx;cases hx with|d _ _ hx=>cases hx;rfl
    by_cases hd:d<a.tmps.size
    ·rw[Array.getD,dif_pos hd]at hv
     rw[Array.getElem?_eq_getElem hd]
     have HB:a.tmps[d]= .tuple u:=hv
     rw[HB];rfl
    ·rw[Array.getElem?_eq_none (Nat.le_of_not_lt hd)];rfl
   ·cases hg
def dj(P:Program)(c:Cx)(code:Code)(Q:Exit→Fr→ak→Prop)(τ:Fr)(H:ak):Prop:=
 ∀a w,R c τ H [] a w→code.wpIn c.F 0 P (fun e a' w'=>∃τ' H',R c τ' H' [] a' w'∧Q e τ' H') a w
def qZ:List AV→AV
 |[x]=>x
 |xs=>.dc xs
def oG(P:Program)(τ:Fr)(H:ak):List ResultVar→(List AV→Prop)→Prop
 |[],K=>K []
 | .tmp t::l,K=>oG P τ H l fun xs=>K (τ t::xs)
 | .cell t ty::l,K=>∃x,lO P H H.length ty (τ t) x∧oG P τ H l fun xs=>K (x::xs)
def mQ(P:Program)(fn:Func)(Q:AV→ak→Prop):Exit→Fr→ak→Prop
 | .normal,τ,H| .ret,τ,H=>oG P τ H fn.results.toList fun xs=>Q (qZ xs) H
 |_,_,_=>False
theorem DQ{K K':List AV→Prop}:∀(l:List ResultVar) (τ:Fr) (H:ak),(∀xs,K xs→K' xs)→oG P τ H l K→oG P τ H l K'
 |[],_,_,h,hk=>h _ hk
 | .tmp t::l,τ,H,h,hk=>DQ (K:=fun xs=>K (τ t::xs)) (K':=fun xs=>K' (τ t::xs)) l τ H (fun _ hh=>h _ hh) hk
 | .cell t ty::l,τ,H,h,⟨x,hx,hk⟩=>⟨x,hx,DQ (K:=fun xs=>K (x::xs)) (K':=fun xs=>K' (x::xs)) l τ H (fun _ hh=>h _ hh) hk⟩
theorem MV(h:aQ c τ H sh pl a w):∀(l:List ResultVar) (K:List AV→Prop),oG P τ H l K→∃(xs:List AV) (vs:List Value),K xs∧vs.length=xs.length∧(∀j x,xs[j]? =some x→Rd w pl (bu c.E H pl) x (vs.getD j undef))∧
  (l.mapM (m:=Sem) fun| .tmp t=>pure (a.tmps.getD t undef)| .cell p t=>do loadVar t (←asAddr (a.tmps.getD p undef))).run P w= .ok vs w
 |[],K,hk=>⟨[],[],hk,rfl,fun j x hj=>by simp at hj,by simp⟩
 | .tmp t::l,K,hk=>by
  obtain⟨xs,vs,h1,h2,h3,h4⟩:=MV h l _ hk
  refine⟨τ t::xs,a.tmps.getD t undef::vs,h1,by simp[h2],fun j x hj=>?_,?_⟩
  ·cases j with
   |zero=>cases hj;exact h.fr t
   |succ j=>exact h3 j x hj
  ·rw[List.mapM_cons]
   simp only[Sem.run_bind,Sem.run_pure,Result.andThen_ok,h4]
 | .cell p t::l,K,hk=>by
  obtain⟨x,hx,hk⟩:=hk
  obtain⟨xs,vs,h1,h2,h3,h4⟩:=MV h l _ hk
  obtain⟨u,hu,hr⟩:=hx.run (P:=P) h.h (h.fr p)
  refine⟨x::xs,u::vs,h1,by simp[h2],fun j y hj=>?_,?_⟩
  ·cases j with
   |zero=>cases hj;exact hr
   |succ j=>exact h3 j y hj
  ·have hl:(do loadVar t (←asAddr (a.tmps.getD p undef)):Sem Value).run P w= .ok u w:=by
    have hp:=h.fr p
    have key:∀z,Rd w pl (bu c.E H pl) (τ p) z→(Instr.loadAt t z).run P w= .ok u w→(do loadVar t (←asAddr z):Sem Value).run P w= .ok u w:=by
     intro z hz cR
     unfold lO at hx
     split at hx
     ·rename_i e;rw[e]at hz;cases hz with|d _ _ hz=>cases hz;exact cR
     ·rename_i e;rw[e]at hz;cases hz;exact cR
     ·exact hx.elim
    exact key _ hp hu
   rw[List.mapM_cons]
   simp only[Sem.run_bind]at hl
   simp only[Sem.run_bind,hl,Result.andThen_ok,h4,Sem.run_pure]
theorem zzk(h:aQ c τ H sh pl a w)(fn:Func){K:List AV→Prop}(hk:oG P τ H fn.results.toList K):∃(xs:List AV) (v:Value),K xs∧Rd w pl (bu c.E H pl) (qZ xs) v∧(results fn a.tmps).run P w= .ok v w:=by
 obtain⟨xs,vs,h1,h2,h3,h4⟩:=MV h _ K hk
 refine⟨xs,if h:vs.toArray.size=1 then vs.toArray[0]else .tuple vs.toArray,h1,?_,?_⟩
 ·match xs,vs,h2,h3 with
  |[x],[v],_,h3=>exact h3 0 x rfl
  |[],[],_,h3=>exact .dc _ _ rfl fun j x hj=>by simp at hj
  |x::y::xs,v::u::vs,h2,h3=>
   rw[dif_neg (by simp)]
   exact .dc _ _ (by simpa using h2) fun j z hj=>by simpa using h3 j z hj
 ·unfold results
  rw[Array.mapM_eq_mapM_toList]
  simp only[Sem.run_bind,Sem.run_map,Sem.run_pure]
  erw [h4]
  rfl
def shut:List Nat→World→World
 |[],w=>w
 |r::rs,w=>shut rs (w.putObj r (.deferred none))
theorem SA{r:Nat}{d:Option (List Deferred)}(hr:w.heap[r]? =some (.deferred d)){b o:Nat}{v:Value}(h:w.cell? ⟨b,o,none⟩=some v):(w.putObj r (.deferred none)).cell? ⟨b,o,none⟩=some v:=by
 have hb:b≠r:=fun e=>by subst e;simp[World.cell?,hr]at h
 exact(Nf (World.putObj_heap_other hb)).trans h
theorem Tm{r:Nat}{d:Option (List Deferred)}(hr:w.heap[r]? =some (.deferred d)){b:Nat}{s:TypeId × Nat}(h:w.shape? b=some s):(w.putObj r (.deferred none)).shape? b=some s:=by
 have hb:b≠r:=fun e=>by subst e;simp[World.shape?,hr]at h
 exact(AK (World.putObj_heap_other hb)).trans h
theorem Jm{r:Nat}{d:Option (List Deferred)}(hr:w.heap[r]? =some (.deferred d)){b:Nat}{o:Obj}(ho:∀d,o≠ .deferred d)(h:w.heap[b]? =some o):(w.putObj r (.deferred none)).heap[b]? =some o:=by
 have hb:b≠r:=fun e=>by subst e;rw[hr]at h;cases h;exact ho _ rfl
 exact(World.putObj_heap_other hb).trans h
theorem fJ.j0{r:Nat}{d:Option (List Deferred)}(hr:w.heap[r]? =some (.deferred d)){own:Nat→Prop}{x:D}{v:Value}(h:fJ w own x v):fJ (w.putObj r (.deferred none)) own x v:=by
 induction h with
 |val v=>exact .val v
 |f0 a cap hm hn=>exact .f0 a cap hm hn
 |fs cs n cap b off f h1 h2 hn hm hc h3 _ ih=>exact .fs cs n cap b off f (by simpa using h1) h2 hn hm (fun j x hj=>SA hr (hc j x hj)) h3 ih
 |fp cs i b off f h1 h2 hc h3 _ ih=>exact .fp cs i b off f (by simpa using h1) h2 (fun j x hj=>SA hr (hc j x hj)) h3 ih
 |agg cs vs hl _ ih=>exact .agg cs vs hl ih
 |dk fn fi ca vs us hl _ gh _ ih vo=>exact .dk fn fi ca vs us hl ih gh vo
 |mp es clock b h1 h2 hg hn=>exact .mp es clock b (by simpa using h1) h2 (Jm hr (fun _ e=>by cases e) hg) hn
theorem Rd.j0{r:Nat}{d:Option (List Deferred)}(hr:w.heap[r]? =some (.deferred d)){own:Nat→Prop}{x:AV}{v:Value}(h:Rd w pl own x v):Rd (w.putObj r (.deferred none)) pl own x v:=by
 induction h with
 |any v=>exact .any v
 |d x v h=>exact .d x v (h.j0 hr)
 |os k id off n cap b base sz t h1 h2 h3 h4 h5=>exact .os k id off n cap b base sz t h1 (Tm hr h2) h3 h4 h5
 |lJ k id off a=>exact .lJ k id off a
 |op id off b base h1=>exact .op id off b base h1
 |om id b base h1=>exact .om id b base h1
 |agg cs vs hl _ ih=>exact .agg cs vs hl ih
 |dc cs vs hl _ ih=>exact .dc cs vs hl ih
 |dk fn fi ca vs us hl _ gh _ ih vo=>exact .dk fn fi ca vs us hl ih gh vo
theorem gC.j0{r:Nat}{d:Option (List Deferred)}(hr:w.heap[r]? =some (.deferred d)){own:Nat→Prop}{id:Nat}{o:bq}(h:gC w pl own id o):gC (w.putObj r (.deferred none)) pl own id o:=by
 cases o with
 |free=>exact h
 |dead=>trivial
 |cells cs=>
  rcases h with⟨h1,h2⟩|⟨b,base,arr,t,h1,h2,h3,h4⟩
  ·exact .inl ⟨h1,h2⟩
  ·exact .inr ⟨b,base,arr,t,h1,Jm hr (fun _ e=>by cases e) h2,h3,fun j x hj=>⟨(h4 j x hj).1.j0 hr,(h4 j x hj).2⟩⟩
 |map es clock=>
  obtain⟨b,base,ms,h1,h2,h3,h5,h4⟩:=h
  exact⟨b,base,ms,h1,Jm hr (fun _ e=>by cases e) h2,h3,h5,fun j e k n x hj hk=>⟨(h4 j e k n x hj hk).1,(h4 j e k n x hj hk).2.1,(h4 j e k n x hj hk).2.2.j0 hr⟩⟩
 |loop b l fr=>
  obtain⟨base,h1,h2,h3⟩:=h
  exact⟨base,h1,Jm hr (fun _ e=>by cases e) h2,fun j x hj=>(h3 j x hj).j0 hr⟩
theorem aQ.j0(h:aQ c τ H sh pl a w){r:Nat}(ha:a.defers=[])(hr:w.heap[r]? =some (.deferred (some [])))(hm:c.w0.heap.size≤r):aQ c τ H sh pl a (w.putObj r (.deferred none)):=
 ⟨⟨h.h.len,fun id o ho=>(h.h.obj id o ho).j0 hr,h.h.l9,h.h.ext,h.h.shl,h.h.shr⟩,
  ⟨h.km.os,h.km.tape,h.km.output,by simpa using h.km.size,fun b hb hn=>(World.putObj_heap_other (by omega)).trans (h.km.block b hb hn),fun b s hs=>Tm hr (h.km.shape b s hs)⟩,
  h.gZ,h.ext,fun t=>(h.fr t).j0 hr,h.size,by rw[ha];exact sl.nil,h.keep⟩
theorem aQ.shut(h:aQ c τ H sh pl a w)(hm:c.w0.heap.size≤c.m0):∃rs:List Nat,a.defers=rs.map Oq∧rs.Nodup∧(∀r∈rs,w.heap[r]? =some (.deferred (some [])))∧aQ c τ H sh pl {a with defers:=[]} (shut rs w):=by
 obtain⟨rs,h1,h2,h3⟩:=h.defs
 refine⟨rs,h1,h2,fun r hr=>(h3 r hr).2.1,?_⟩
 have h0:aQ c τ H sh pl {a with defers:=[]} w:=⟨h.h,h.km,h.gZ,h.ext,h.fr,h.size,sl.nil,h.keep⟩
 have RT:∀r∈rs,c.w0.heap.size≤r∧w.heap[r]? =some (.deferred (some [])):=fun r hr=>⟨Nat.le_trans hm (h3 r hr).1,(h3 r hr).2.1⟩
 clear h1 h3 h
 induction rs generalizing w with
 |nil=>exact h0
 |cons r rs ih=>
  rw[List.nodup_cons]at h2
  obtain⟨k1,k2⟩:=RT r List.mem_cons_self
  exact ih h2.2 (h0.j0 rfl k2 k1) fun q hq=>⟨(RT q (wq _ hq)).1,(World.putObj_heap_other (fun e=>by subst e;exact h2.1 hq)).trans (RT q (wq _ hq)).2⟩
theorem Ul{fn:Func}{tmps:Array Value}{Rr:Ending→World→Prop}:∀(rs:List Nat) (w:World),rs.Nodup→(∀r∈rs,w.heap[r]? =some (.deferred (some [])))→(∃v,(results fn tmps).run P (shut rs w)= .ok v (shut rs w)∧Rr (.returned v) (shut rs w))→
  LeavesInM Fence.wide 0 P fn tmps Rr (rs.map Oq) .returning w
 |[],w,_,_,h=>h
 |r::rs,w,hn,hd,h=>by
  rw[List.nodup_cons]at hn
  refine⟨by simp,.inl ⟨r,_,rfl,run_takeDeferred (hd r List.mem_cons_self),Ul rs _ hn.2 (fun q hq=>?_) h⟩⟩
  exact(World.putObj_heap_other (fun e=>by subst e;exact hn.1 hq)).trans (hd q (wq _ hq))
theorem Nl{f:FuncId}{fn:Func}{code:Code}{vals:Array Value}{Rr:Ending→World→Prop}{Q:AV→ak→Prop}{c:Cx}{w:World}(hc:c.Oj=none)(hm:c.w0.heap.size≤c.m0)(hf:P.funcs[f]? =some fn)(hb:fn.body=some code)
  (h:code.wpIn c.F 0 P (fun e a' w'=>∃τ' H',R c τ' H' [] a' w'∧mQ P fn Q e τ' H') {tmps:=vals++Array.replicate (fn.ntmps - vals.size) undef,defers:=[]} w)
  (hR:∀τ' H' bt a' w' x v,aQ c τ' H' [] bt a' w'→Q x H'→Rd w' bt (bu c.E H' bt) x v→Rr (.returned v) w'):Calls P f vals w Rr:=by
 refine(callsIn_wide (n:=0)).1 (callsIn_of_wp_marks hf hb trivial ?_)
 have hF:c.F=Fence.wide:=by cases c;cases hc;rfl
 rw[hF]at h
 refine wpIn_mono h fun e a' w' ⟨τ',H',⟨bt,h1⟩,h2⟩=>?_
 have key:oG P τ' H' fn.results.toList (fun xs=>Q (qZ xs) H')→LeavesInM Fence.wide 0 P fn a'.tmps Rr a'.defers .returning w':=fun h2=>by
  obtain⟨rs,e1,e2,e3,e4⟩:=h1.shut hm
  obtain⟨xs,v,k1,k2,k3⟩:=zzk e4 fn h2
  rw[e1]
  exact Ul rs w' e2 e3 ⟨v,k3,hR _ _ _ _ _ _ _ e4 k1 k2⟩
 cases e with
 |normal=>exact key h2
 |ret=>exact key h2
 |_=>exact h2.elim
def qM(xs:List AV):Fr:=fun t=>xs.getD t (.d (.val undef))
def vU(ds:List D):Fr:=fun t=>(ds.map AV.d).getD t (.d (.val undef))
theorem M7(vals:Array Value)(n t:Nat):(vals++Array.replicate n undef).getD t undef=vals.getD t undef:=by
 rw[nF,nF,Array.getElem?_append]
 split
 ·rfl
 ·rename_i h
  rw[Array.getElem?_eq_none (xs:=vals) (by omega)]
  by_cases hn:t - vals.size<n
  ·simp[hn]
  ·simp[hn]
theorem Uk{f:FuncId}{fn:Func}{code:Code}{xs:List AV}{Q:AV→ak→Prop}{E:Nat→Prop}{vals:Array Value}(hf:P.funcs[f]? =some fn)(hb:fn.body=some code)(hn:xs.length≤fn.ntmps)(h:∀c:Cx,c.nt=fn.ntmps→Fj c→dj P c code (mQ P fn Q) (qM xs) H)
  (hl:vals.size=xs.length) (hx:∀j x,xs[j]? =some x→Rd w pl (bu E H pl) x (vals.getD j undef)) (hh:ei E w pl H []) (hE:∀b,E b→b<w.heap.size):
  Calls P f vals w fun e w'=>∃v x H' a' bt τ',e= .returned v∧Q x H'∧Rd w' bt (bu E H' bt) x v∧aQ ⟨E,w,fK H pl,fn.ntmps,pl,none,w.heap.size⟩ τ' H' [] bt a' w':=by
 have hR:R ⟨E,w,fK H pl,fn.ntmps,pl,none,w.heap.size⟩ (qM xs) H [] {tmps:=vals++Array.replicate (fn.ntmps - vals.size) undef,defers:=[]} w:=by
  refine⟨pl,hh,jw.refl _ _,fun id o p h1 h2 h3=>.inl ⟨id,o,p.2,h1,h2,h3⟩,hE,fun t=>?_,by simp;omega,sl.nil,fun i p hi=>hi⟩
  simp only[M7]
  unfold qM
  rw[gp]
  cases hd:xs[t]? with
  |none=>
   have:vals.size≤t:=by rw[hl];exact List.getElem?_eq_none_iff.1 hd
   simp only[Array.getD,dif_neg (Nat.not_lt.2 this)]
   exact .d _ _ (.val _)
  |some x=>exact hx t x hd
 exact Nl (c:=⟨E,w,fK H pl,fn.ntmps,pl,none,w.heap.size⟩) rfl (bm _) hf hb (h _ rfl ⟨rfl,bm _⟩ _ w hR) fun τ' H' bt a' w' x v h1 k1 k2=>⟨v,x,H',a',bt,τ',rfl,k1,k2,h1⟩
theorem Uj{f:FuncId}{fn:Func}{code:Code}{ds:List D}{Q:AV→ak→Prop}{E:Nat→Prop}{vals:Array Value}(hf:P.funcs[f]? =some fn)(hb:fn.body=some code)(hn:ds.length≤fn.ntmps)(h:∀c:Cx,c.nt=fn.ntmps→dj P c code (mQ P fn Q) (vU ds) [])
  (hl:vals.size=ds.length) (hx:∀j x,ds[j]? =some x→fJ w E x (vals.getD j undef)) (hE:∀b,E b→b<w.heap.size):
  Calls P f vals w fun e w'=>∃v x H' a' pl τ',e= .returned v∧Q x H'∧Rd w' pl (bu E H' pl) x v∧aQ ⟨E,w,fun _=>False,fn.ntmps,[],none,w.heap.size⟩ τ' H' [] pl a' w':=by
 have dp:∀b,bu E [] [] b→E b:=fun b hb=>by
  rcases hb with hb|⟨i,o,e,h1,_⟩
  ·exact hb
  ·simp at h1
 have HO:∀b,¬fK [] [] b:=fun b ⟨i,o,e,h1,_⟩=>by simp at h1
 refine(Uk (w:=w) (pl:=[]) (H:=[]) (xs:=ds.map .d) hf hb (by simpa using hn) (fun c h1 _=>h c h1) (by simpa using hl) (fun j x hj=>?_) ⟨rfl,fun id o ho=>by simp at ho,fun i j oi oj p q h1=>by simp at h1,fun i o p h1=>by simp at h1,fun p hp=>(by cases hp),fun i j ci cj p q hm=>(by cases hm)⟩ hE).mono fun e w' ⟨v,x,H',a',bt,τ',k1,k2,k3,k4⟩=>
  ⟨v,x,H',a',bt,τ',k1,k2,k3,k4.h,k4.km.mono (fun b _ hb=>(HO b hb).elim),fun id o p h1 h2 h3=>(k4.gZ id o p h1 h2 h3).imp (fun h=>(HO _ h).elim) (fun h=>h),k4.ext,k4.fr,k4.size,k4.defs,k4.keep⟩
 rw[List.getElem?_map,cA]at hj
 obtain⟨y,hy,rfl⟩:=hj
 exact .d _ _ ((hx j y hy).mono (bm _) (fun _ _ _=>rfl) (fun b _ hb=>dp b hb))
def yV(P:Program)(f:FuncId)(xs:List AV)(H:ak)(K:AV→ak→Prop):Prop:=
 nU P f=true∧∃fn code,P.funcs[f]? =some fn∧fn.body=some code∧xs.length≤fn.ntmps∧∀c:Cx,c.nt=fn.ntmps→dj P c code (mQ P fn K) (qM xs) H
def wU(P:Program)(f:FuncId)(xs:List AV)(H:ak)(K:AV→ak→Prop):Prop:=
 nU P f=true∧∀(E:Nat→Prop) (w:World) (pl:List (Option (Nat × Nat))) (vals:Array Value),vals.size=xs.length→(∀j x,xs[j]? =some x→Rd w pl (bu E H pl) x (vals.getD j undef))→ei E w pl H []→(∀b,E b→b<w.heap.size)→
  Calls P f vals w fun e w'=>∃v x H' bt,e= .returned v∧K x H'∧Rd w' bt (bu E H' bt) x v∧ei E w' bt H' []∧jw (fK H pl) w w'∧(∀b,fK H' bt b→fK H pl b∨w.heap.size≤b)∧(∀(i:Nat) (p:Nat × Nat),pl[i]? =some (some p)→bt[i]? =some (some p))
theorem yV.ZQ{f:FuncId}{xs:List AV}{K:AV→ak→Prop}(h:yV P f xs H K):wU P f xs H K:=by
 obtain⟨he,fn,code,hf,hb,hn,hw⟩:=h
 exact⟨he,fun E w pl vals hl hx hh hE=>(Uk hf hb hn (fun c h1 _=>hw c h1) hl hx hh hE).mono fun e w' ⟨v,x,H',a',bt,τ',k1,k2,k3,k4⟩=>⟨v,x,H',bt,k1,k2,k3,k4.h,k4.km,fun b ⟨i,o,q,b1,b2,b3⟩=>k4.gZ i o _ b1 b2 b3,k4.keep⟩⟩
theorem wU.mono{f:FuncId}{xs:List AV}{K K':AV→ak→Prop}(h:wU P f xs H K)(hK:∀x H',K x H'→K' x H'):wU P f xs H K':=
 ⟨h.1,fun E w pl vals hl hx hh hE=>(h.2 E w pl vals hl hx hh hE).mono fun e w' ⟨v,x,H',bt,k1,k2,k3⟩=>⟨v,x,H',bt,k1,hK _ _ k2,k3⟩⟩
def RY(P:Program)(sm:List Nat)(f:FuncId)(xs:List AV)(τ:Fr)(H:ak)(K:AV→ak→Prop):Prop:=
 ∃(m:List Nat) (S T:ak) (K0:AV→ak→Prop),H=S++T∧sm.all (aJ m S.length)=true∧(∀t,(τ t).allI (aJ m S.length)=true)∧AV.ah (aN S.length) xs=true∧(∀o∈S,o.allI (aN S.length)=true)∧(∀o∈T,o.allI (aJ m S.length)=true)∧
  cM P m f xs S K0∧∀x S',K0 x S'→S'.length=S.length∧K x (S'++T)
theorem jh1{sm:List Nat}(fk:Kp c sm)(h:aQ c τ H [] pl a w){o:Oper}{K0:AV→ak→Prop}{n:FuncId}{xs:List AV}(hq:RY P sm n xs τ H K0){K:Act→World→Prop}{Q:Exit→Act→World→Prop}
  {f:Operand} {args:Array Operand} {ts:Array TypeId} {vs us:Array Value} (e:o.op= .call {callee:=.value f,args:=args,argTypes:=ts}) (hv:a.eval f= .func (.func n) vs us)
  (hl:(vs++args.map a.eval++us).size=xs.length) (hx:∀j x,xs[j]? =some x→Rd w pl (bu c.E H pl) x ((vs++args.map a.eval++us).getD j undef))
  (hK:∀x v H' w' bt,K0 x H'→aQ c τ H' [] bt a w'→Rd w' bt (bu c.E H' bt) x v→K (a.put o.dst v) w'):o.wp P a w K Q:=by
 obtain⟨m,S,T,K1,rfl,h1,h2,h3,h4,h5,⟨he,hs⟩,h6⟩:=hq
 have hlen:=h.h.len
 rw[List.length_append]at hlen
 obtain⟨pS,pT,rfl,zM⟩:∃pS pT,pl=pS++pT∧pS.length=S.length:=⟨pl.take S.length,pl.drop S.length,(List.take_append_drop _ _).symm,by rw[List.length_take];omega⟩
 refine DP (DO e hv he) ((hs (Ek c.E T pT) w pS _ hl (fun j x hj=>?_) (jhz h.h zM h4) (fun b hb=>h.iP b ?_)).mono fun e w' ⟨v,x,S',bt,k1,k2,k3,k4,k5,k6,k7⟩=>?_)
 ·refine(hx j x hj).place (p:=aN S.length) (AV.dF h3 hj) (bm _) (fun _ _ _=>rfl) (fun b _ hb=>(DH zM).1 hb) (fun _ _ h=>h) (fun i q hi hq=>?_)
  have hi:i<S.length:=by simpa[aN]using hi
  rwa[iI (by omega)]at hq
 ·rcases hb with hb|hb
  ·exact .inl hb
  ·exact .inr ((uY zM).2 (.inr hb))
 ·obtain⟨l1,l2⟩:=h6 x S' k2
  have hR:=jh0 h zM fk h1 h2 h5 l1 k4 k5 k6 k7
  exact⟨v,k1,hK x v _ w' _ l2 hR (k3.mono (bm _) (fun _ _ _=>rfl) (fun b _ hb=>(DH k4.len).2 hb) (fun _ _ h=>h) (fun i q hq=>p7 hq))⟩
def BO(m:List Nat)(pl:List (Option (Nat × Nat))):List (Option (Nat × Nat)):=(List.range pl.length).map fun i=>if m.contains i then pl.getD i none else none
theorem Sz{m:List Nat}{pl:List (Option (Nat × Nat))}{i:Nat}{p:Nat × Nat}(h:(BO m pl)[i]? =some (some p)):i∈m∧pl[i]? =some (some p):=by
 unfold BO at h
 rw[List.getElem?_map,cA]at h
 obtain⟨j,hj,h⟩:=h
 have kH:=dX.1 hj
 obtain⟨h1,h2⟩:=kH
 simp at h1 h2
 subst h2
 split at h
 ·rename_i hm
  refine⟨by simpa using hm,?_⟩
  rw[ij h1]
  rw[gp,ij h1]at h
  exact congrArg some h
 ·cases h
theorem jnr{m:List Nat}{pl:List (Option (Nat × Nat))}{i:Nat}{p:Nat × Nat}(h:i∈m)(hp:pl[i]? =some (some p)):(BO m pl)[i]? =some (some p):=by
 have aA:=(dX.1 hp).1
 unfold BO
 rw[List.getElem?_map,List.getElem?_range aA,Option.map_some,if_pos (by simpa using h),gp,hp];rfl
theorem jut{f:FuncId}{fn:Func}{code:Code}{xs:List AV}{m:List Nat}{S:ak}{Q:AV→ak→Prop}(he:nU P f=true)(hf:P.funcs[f]? =some fn)(hb:fn.body=some code)(hn:xs.length≤fn.ntmps)
  (h:∀c:Cx,c.nt=fn.ntmps→Kp c m→Fj c→dj P c code (mQ P fn Q) (qM xs) S):cM P m f xs S Q:=by
 refine⟨he,fun E w pl vals hl hx hh hE=>?_⟩
 have hR:R ⟨E,w,fK S pl,fn.ntmps,BO m pl,none,w.heap.size⟩ (qM xs) S [] {tmps:=vals++Array.replicate (fn.ntmps - vals.size) undef,defers:=[]} w:=by
  refine⟨pl,hh,jw.refl _ _,fun id o p h1 h2 h3=>.inl ⟨id,o,p.2,h1,h2,h3⟩,hE,fun t=>?_,by simp;omega,sl.nil,fun i p hi=>?_⟩
  ·simp only[M7]
   unfold qM
   rw[gp]
   cases hd:xs[t]? with
   |none=>
    have:vals.size≤t:=by rw[hl];exact List.getElem?_eq_none_iff.1 hd
    simp only[Array.getD,dif_neg (Nat.not_lt.2 this)]
    exact .d _ _ (.val _)
   |some x=>exact hx t x hd
  ·exact(Sz hi).2
 have fin:∀{τ':Fr} {H':ak} {bt:List (Option (Nat × Nat))} {a':Act} {w':World} {v x:_},aQ ⟨E,w,fK S pl,fn.ntmps,BO m pl,none,w.heap.size⟩ τ' H' [] bt a' w'→Q x H'→Rd w' bt (bu E H' bt) x v→
   ∃v' x S' bt,Ending.returned v= .returned v'∧Q x S'∧Rd w' bt (bu E S' bt) x v'∧ei E w' bt S' []∧jw (fK S pl) w w'∧(∀b,fK S' bt b→fK S pl b∨w.heap.size≤b)∧(∀(i:Nat) (p:Nat × Nat),i∈m→pl[i]? =some (some p)→bt[i]? =some (some p)):=fun h1 k1 k2=>
  ⟨_,_,_,_,rfl,k1,k2,h1.h,h1.km,fun b ⟨i,o,q,b1,b2,b3⟩=>h1.gZ i o (b,q) b1 b2 b3,fun i p hi hp=>h1.keep i p (jnr hi hp)⟩
 exact Nl (c:=⟨E,w,fK S pl,fn.ntmps,BO m pl,none,w.heap.size⟩) rfl (bm _) hf hb (h _ rfl (fun i p hi=>(Sz hi).1) ⟨rfl,bm _⟩ _ w hR) fun τ' H' bt a' w' x v h1 k1 k2=>fin h1 k1 k2
theorem fV{f:FuncId}{fn:Func}{code:Code}{xs:List AV}{m:List Nat}{S:ak}{Q:AV→ak→Prop}(he:nU P f=true)(hf:P.funcs[f]? =some fn)(hb:fn.body=some code)(hn:xs.length≤fn.ntmps)
  (h:∀c:Cx,c.nt=fn.ntmps→Kp c m→dj P c code (mQ P fn Q) (qM xs) S):cM P m f xs S Q:=jut he hf hb hn fun c h1 h2 _=>h c h1 h2
def YsS(P:Program)(m:List Nat)(l:Nat)(xs:List AV)(S:ak)(K:AV→ak→Prop):Prop:=
 ∀(E:Nat→Prop) (w:World) (pl:List (Option (Nat × Nat))) (vals:Array Value),vals.size=xs.length→(∀j x,xs[j]? =some x→Rd w pl (bu E S pl) x (vals.getD j undef))→ei E w pl S []→(∀b,E b→b<w.heap.size)→
  ∃fn tmps assign body,(Instr.yield l vals).run P w= .ok (.round l fn tmps assign body) w∧
   RoundIn Fence.wide 0 P l fn tmps assign body w fun e w'=>∃v x S' bt,e= .returned v∧K x S'∧Rd w' bt (bu E S' bt) x v∧ei E w' bt S' []∧jw (fK S pl) w w'∧(∀b,fK S' bt b→fK S pl b∨w.heap.size≤b)∧(∀(i:Nat) (p:Nat × Nat),i∈m→pl[i]? =some (some p)→bt[i]? =some (some p))
def RX(P:Program)(sm:List Nat)(l:Nat)(xs:List AV)(τ:Fr)(H:ak)(K:AV→ak→Prop):Prop:=
 ∃(m:List Nat) (S T:ak) (K0:AV→ak→Prop),H=S++T∧sm.all (aJ m S.length)=true∧(∀t,(τ t).allI (aJ m S.length)=true)∧AV.ah (aN S.length) xs=true∧(∀o∈S,o.allI (aN S.length)=true)∧(∀o∈T,o.allI (aJ m S.length)=true)∧
  YsS P m l xs S K0∧∀x S',K0 x S'→S'.length=S.length∧K x (S'++T)
theorem jh2{f:Operand}{args:Array Operand}{ts:Array TypeId}{o:Oper}(ho:o.op= .call {callee:=.value f,args:=args,argTypes:=ts}){l:Nat}(hf:a.eval f= .func (.yield l) #[] #[]):
  (execOp a.eval o).run P w=(Instr.yield l (args.map a.eval)).run P w:=by
 unfold execOp
 simp[ho,resolve,hf,Deferred.ofValue,invoke]
theorem jh3{sm:List Nat}(fk:Kp c sm)(h:aQ c τ H [] pl a w){o:Oper}{K0:AV→ak→Prop}{l:Nat}{K:Act→World→Prop}{Q:Exit→Act→World→Prop}
  {f:Operand} {args:Array Operand} {ts:Array TypeId} (hq:RX P sm l (args.toList.map (aU τ)) τ H K0) (e:o.op= .call {callee:=.value f,args:=args,argTypes:=ts}) (hl:aU τ f= .d (.val (.func (.yield l) #[] #[])))
  (hK:∀x v H' w' bt,K0 x H'→aQ c τ H' [] bt a w'→Rd w' bt (bu c.E H' bt) x v→K (a.put o.dst v) w'):o.wpIn c.F 0 P a w K Q:=by
 obtain⟨m,S,T,K1,rfl,h1,h2,h3,h4,h5,hs,h6⟩:=hq
 have hv:a.eval f= .func (.yield l) #[] #[]:=by
  have:=h.eval f
  rw[hl]at this
  generalize a.eval f=z at this
  cases this with|d _ _ hh=>cases hh;rfl
 have hx:=h.args args
 have hlen:=h.h.len
 rw[List.length_append]at hlen
 obtain⟨pS,pT,rfl,zM⟩:∃pS pT,pl=pS++pT∧pS.length=S.length:=⟨pl.take S.length,pl.drop S.length,(List.take_append_drop _ _).symm,by rw[List.length_take];omega⟩
 obtain⟨fn,tmps,assign,body,g1,g2⟩:=hs (Ek c.E T pT) w pS (args.map a.eval) hx.1 (fun j x hj=>by
  refine(hx.2 j x hj).place (p:=aN S.length) (AV.dF h3 hj) (bm _) (fun _ _ _=>rfl) (fun b _ hb=>(DH zM).1 hb) (fun _ _ h=>h) (fun i q hi hq=>?_)
  have hi:i<S.length:=by simpa[aN]using hi
  rwa[iI (by omega)]at hq) (jhz h.h zM h4) (fun b hb=>h.iP b (by
  rcases hb with hb|hb
  ·exact .inl hb
  ·exact .inr ((uY zM).2 (.inr hb))))
 refine⟨fun _ _=>trivial,?_⟩
 have es:o.semAt c.F.round a.eval=execOp a.eval o:=by
  cases hr:c.F.round with
  |none=>rfl
  |some l=>exact Oper.semAt_some l _ o fun x hx=>by rw[e]at hx;cases hx
 rw[es,jh2 e hv,g1]
 refine⟨fun hh=>(by cases hh),⟨trivial,fun cc cs hr=>?_⟩⟩
 obtain⟨e',w',⟨v,x,S',bt,k0,k2,k3,k4,k5,k6,k7⟩,hc⟩:=g2.2 cc cs hr
 obtain⟨l1,l2⟩:=h6 x S' k2
 have hR:=jh0 h zM fk h1 h2 h5 l1 k4 k5 k6 k7
 subst k0
 exact⟨.returned v,w',hK x v _ w' _ l2 hR (k3.mono (bm _) (fun _ _ _=>rfl) (fun b _ hb=>(DH k4.len).2 hb) (fun _ _ h=>h) (fun i q hq=>p7 hq)),hc⟩
def GX(P:Program)(sm:List Nat)(op:Op)(τ:Fr)(H:ak)(K:AV→ak→Prop):Prop:=
 match op with
 | .call {callee:=.value f,args:=args,argTypes:=_}=>(∃n fi ca,zj (aU τ f)=some (n,fi,ca)∧(wU P n (fi++args.toList.map (aU τ)++ca) H K∨(∃ds Q,AV.lT.iO (fi++args.toList.map (aU τ)++ca)=some ds∧tV P n ds Q∧∀x,Q x→K x H)∨RY P sm n (fi++args.toList.map (aU τ)++ca) τ H K))∨
   ∃l,aU τ f= .d (.val (.func (.yield l) #[] #[]))∧RX P sm l (args.toList.map (aU τ)) τ H K
 |_=>False
def qg:Op→Bool
 | .call {callee:=.value _,..}=>true
 |_=>false
theorem Tl{sm:List Nat}(fk:Kp c sm)(h:aQ c τ H [] pl a w){o:Oper}{K0:AV→ak→Prop}(hq:GX P sm o.op τ H K0){K:Act→World→Prop}{Q:Exit→Act→World→Prop}
  (hK:∀x v H' w' bt,K0 x H'→aQ c τ H' [] bt a w'→Rd w' bt (bu c.E H' bt) x v→K (a.put o.dst v) w'):o.wpIn c.F 0 P a w K Q:=by
 unfold GX at hq
 split at hq
 ·rename_i f args ts e
  rcases hq with hq|⟨l,hl,hq⟩
  case inr=>exact jh3 fk h hq e hl hK
  refine sM c (by rw[e];rfl) ?_
  obtain⟨n,fi,ca,hc,hq⟩:=hq
  obtain⟨vs,us,hv,h1,h2⟩:=Nh hc (h.eval f)
  have cP:=(h1.append (h.args args)).append h2
  rcases hq with hq|⟨ds,Qr,qq,hp,hk⟩|hq
  case inr.inr=>exact jh1 fk h hq e hv cP.1 cP.2 hK
  case inr.inl=>
   refine DP (DO e hv hp.1) ?_
   obtain⟨l1,l2⟩:=B3 w pl (bu c.E H pl) _ ds _ qq cP.2
   exact(hp.2 w (bu c.E H pl) _ (by rw[cP.1,l1]) l2 h.iP).mono fun e w' ⟨v,r,he,hq,hr,hb⟩=>⟨v,he,hK r v H w' pl (hk r hq) (h.below hb) (hr.mono (bm _) (fun _ _ _=>rfl) (fun _ _ h=>h) (fun _ _ h=>h) (fun i p hp=>by simp at hp))⟩
  obtain⟨he,hs⟩:=hq
  exact DP (DO e hv he) ((hs c.E w pl _ cP.1 cP.2 h.h h.lt).mono fun e w' ⟨v,x,H',bt,k1,k2,k3,k4,k5,k6,k7⟩=>⟨v,k1,hK x v H' w' bt k2 (h.step k5 k7 k6 k4) k3⟩)
 ·exact hq.elim
def EY(P:Program)(fr:List FuncId)(sm:List Nat)(o:Oper)(τ:Fr)(H:ak)(K:Fr→ak→Prop):Prop:=
 match fW fr o.op with
 |0=>(∃x,gR P H.length H (aU τ) o.op x∧K (τ.put o.dst x) H)∨GX P sm o.op τ H fun x H'=>K (τ.put o.dst x) H'
 |2=>∃H',wR P (aU τ) o.op H [] 0 H'∧K (τ.put o.dst (.d (.val undef))) H'
 |4=>∃x H',pL P (aU τ) o.op H [] x H'∧K (τ.put o.dst x) H'
 |_=>∃x H',ka P false H.length (aU τ) o.op (H++[.free]) [] x H' []∧K (τ.put o.dst x) H'
def Ba(P:Program)(fr:List FuncId)(sm:List Nat)(ops:List Oper):List Oper→Fr→ak→(Fr→ak→Prop)→Prop
 |[],τ,H,K=>K τ H
 |o::l,τ,H,K=>∃b,kl ops τ o=some b∧(b=true→EY P fr sm o τ H fun τ' H'=>Ba P fr sm ops l τ' H' K)∧(b=false→Ba P fr sm ops l (τ.put o.dst (.d (.val undef))) H K)
def mh(nt:Nat)(l:List Oper):Bool:=l.all fun o=>(match o.dst with|some d=>decide (d<nt)|none=>true)&&Lw o.op
theorem Cf{fr:List FuncId}{sm:List Nat}(fk:Kp c sm){ops:List Oper}{K:Fr→ak→Prop}{Q:Exit→Act→World→Prop}(hK:∀τ H a w,K τ H→R c τ H [] a w→Q .normal a w):
  ∀(l:List Oper) (τ:Fr) (H:ak) (a:Act) (w:World),mh c.nt l=true→Ba P fr sm ops l τ H K→R c τ H [] a w→wpListIn c.F 0 P ops.toArray Q l a w
 |[],τ,H,a,w,_,h,hR=>hK τ H a w h hR
 |o::l,τ,H,a,w,hd,h,⟨pl,hR⟩=>by
  obtain⟨b,hg,ht,hf⟩:=h
  have hw:=Nu hR hg
  simp only[mh,List.all_cons,gG]at hd
  have lr:∀d,o.dst=some d→d<c.nt:=fun d e=>by have:=hd.1.1;rw[e]at this;simpa using this
  unfold wpListIn
  cases b with
  |false=>
   rw[if_neg (by rw[hw];decide)]
   exact⟨fun _ _=>trivial,Cf fk hK l _ _ _ _ hd.2 (hf rfl) ⟨pl,hR.put _ lr (.d _ _ (.val _))⟩⟩
  |true=>
   rw[if_pos hw]
   have ht:=ht rfl
   unfold EY at ht
   split at ht
   ·rcases ht with⟨x,hq,hk⟩|hq
    ·exact sM c hd.1.2 (JG hR hq fun v w' h1 h2=>Cf fk hK l _ _ _ _ hd.2 hk ⟨pl,h1.put _ lr h2⟩)
    ·exact Tl fk hR hq fun x v H' w' bt hk h1 h2=>Cf fk hK l _ _ _ _ hd.2 hk ⟨bt,h1.put _ lr h2⟩
   ·obtain⟨H',hq,hk⟩:=ht
    exact sM c hd.1.2 (M8 hR hq fun w' bt h1=>Cf fk hK l _ _ _ _ hd.2 hk ⟨bt,h1.put _ lr (.d _ _ (.val _))⟩)
   ·obtain⟨x,H',hq,hk⟩:=ht
    exact sM c hd.1.2 (M9 hR hq fun v w' h1 h2=>Cf fk hK l _ _ _ _ hd.2 hk ⟨pl,h1.put _ lr h2⟩)
   ·obtain⟨x,H',hq,hk⟩:=ht
    exact sM c hd.1.2 (JF hR.eu (by rw[ji (bm _)];simp) (fun p hp=>by cases hp) hq fun v w' bt h1 h2=>Cf fk hK l _ _ _ _ hd.2 hk ⟨bt,h1.put _ lr h2⟩)
variable {Q Q':Exit→Fr→ak→Prop}
theorem wb{code:Code}(h:dj P c code Q τ H)(hq:∀e τ H,Q e τ H→Q' e τ H):dj P c code Q' τ H:=fun a w hR=>
 wpIn_mono (h a w hR) fun _ _ _ ⟨τ',H',h1,h2⟩=>⟨τ',H',h1,hq _ _ _ h2⟩
theorem Nc{fr:List FuncId}{sm:List Nat}(fk:Kp c sm){id:Nat}{l:List Oper}(hd:mh c.nt l=true)(h:Ba P fr sm l l τ H (Q .normal)):dj P c (.region id l.toArray false) Q τ H:=fun a w hR=>
 wpIn_region_lit (Cf fk (K:=Q .normal) (fun τ' H' a' w' hk C2=>⟨τ',H',C2,hk⟩) l τ H a w hd h hR)
theorem bB(h:Q .normal τ H):dj P c .skip Q τ H:=fun _ _ hR=>wpIn_skip ⟨τ,H,hR,h⟩
theorem cL{id:Nat}(h:Q (.exit id) τ H):dj P c (.exit id) Q τ H:=fun _ _ hR=>wpIn_exit ⟨τ,H,hR,h⟩
theorem bh(h:Q .ret τ H):dj P c .ret Q τ H:=fun _ _ hR=>wpIn_ret ⟨τ,H,hR,h⟩
def fb(next:Fr→ak→Prop)(Q:Exit→Fr→ak→Prop):Exit→Fr→ak→Prop
 | .normal,τ,H=>next τ H
 |e,τ,H=>Q e τ H
theorem DG{x y:Code}(h:dj P c x (fb (dj P c y Q) Q) τ H):dj P c (.seq x y) Q τ H:=fun a w hR=>
 wpIn_seq (wpIn_mono (h a w hR) fun e _ _ ⟨τ',H',h1,h2⟩=>by
  cases e with
  |normal=>exact h2 _ _ h1
  |_=>exact⟨τ',H',h1,h2⟩)
def fc(id:Nat)(Q:Exit→Fr→ak→Prop):Exit→Fr→ak→Prop
 | .exit cq,τ,H=>if cq=id then Q .normal τ H else Q (.exit cq) τ H
 |e,τ,H=>Q e τ H
theorem aW{id:Nat}{x:Code}(h:dj P c x (fc id Q) τ H):dj P c (.block id x) Q τ H:=fun a w hR=>
 wpIn_block (wpIn_mono (h a w hR) fun e _ _ ⟨τ',H',h1,h2⟩=>by
  cases e with
  |exit cq=>
   simp only[fc]at h2
   simp only[Exit.inBlock]
   split
   ·rename_i hi;rw[if_pos hi]at h2;exact⟨τ',H',h1,h2⟩
   ·rename_i hi;rw[if_neg hi]at h2;exact⟨τ',H',h1,h2⟩
  |_=>exact⟨τ',H',h1,h2⟩)
theorem aX{o:Operand}{x y:Code}{t:Bool}(ht:aU τ o= .d (.val (.bool t)))(h1:t=true→dj P c x Q τ H)(h2:t=false→dj P c y Q τ H):dj P c (.cond o x y) Q τ H:=fun a w hR=>by
 obtain⟨pl,hS⟩:=hR
 have hv:=hS.eval o
 rw[ht]at hv
 have he:a.eval o= .bool t:=by generalize a.eval o=z at hv;cases hv with|d _ _ hv=>cases hv;rfl
 exact wpIn_cond_split he (fun e=>h1 e a w ⟨pl,hS⟩) (fun e=>h2 e a w ⟨pl,hS⟩)
theorem LA{p:Nat→Prop}(h:∃n,p n):∃n,p n∧∀m,p m→n≤m:=by
 obtain⟨n,hn⟩:=h
 induction n using Nat.strongRecOn with
 |_ n ih=>
  by_cases hm:∃m,m<n∧p m
  ·obtain⟨m,h1,h2⟩:=hm;exact ih m h1 h2
  ·exact⟨n,hn,fun m hpm=>Nat.le_of_not_lt fun aA=>hm ⟨m,aA,hpm⟩⟩
open Classical in
theorem jbc{x:Code}(I:Fr→ak→Nat→Prop){n0:Nat}(h0:I τ H n0)(round:∀τ H n,I τ H n→dj P c x (fb (fun τ' H'=>∃n',n'<n∧I τ' H' n') Q) τ H):dj P c (.loop x) Q τ H:=fun a w hR=>by
 let J:Act→World→Nat→Prop:=fun a w n=>∃τ H,I τ H n∧R c τ H [] a w
 refine wpIn_loop (fun a w=>∃n,J a w n) (fun a w=>if h:∃n,J a w n then Classical.choose (LA h)else 0) ⟨n0,τ,H,h0,hR⟩ fun a w hI=>?_
 obtain⟨hJ,HY⟩:=Classical.choose_spec (LA hI)
 rw[dif_pos hI]
 generalize Classical.choose (LA hI)=n at hJ HY
 obtain⟨τ1,H1,h1,h2⟩:=hJ
 refine wpIn_mono (round τ1 H1 n h1 a w h2) fun e a' w' ⟨τ',H',h3,h4⟩=>?_
 cases e with
 |normal=>
  obtain⟨n',aA,hI'⟩:=h4
  have Mb:J a' w' n':=⟨τ',H',hI',h3⟩
  refine⟨⟨n',Mb⟩,?_⟩
  rw[dif_pos ⟨n',Mb⟩]
  exact Nat.lt_of_le_of_lt ((Classical.choose_spec (LA (⟨n',Mb⟩:∃n,J a' w' n))).2 n' Mb) aA
 |_=>exact⟨τ',H',h3,h4⟩

def aC(H:ak):AV→Option AV
 | .dc xs=>(mo (lE H H.length) 9 xs).map fun ys=>.dc (ys.map .d)
 |x=>(sq (lE H H.length) 9 x).map .d
theorem M6{E:Nat→Prop}(hr:ei E w pl H sh){x r:AV}{v:Value}(h:aC H x=some r)(hv:Rd w pl (bu E H pl) x v):Rd w [] E r v:=by
 unfold aC at h
 split at h
 ·obtain⟨ys,hy,rfl⟩:=cA.1 h
  cases hv with|dc _ vs hl hx=>
  obtain⟨h1,h2⟩:=(FG hr H.length 9).2 _ ys _ hy hx
  refine .dc _ _ (by simp;omega) fun j x hj=>?_
  rw[List.getElem?_map,cA]at hj
  obtain⟨y,hy,rfl⟩:=hj
  exact .d _ _ (h2 j y hy)
 ·obtain⟨y,hy,rfl⟩:=cA.1 h
  exact .d _ _ ((FG hr H.length 9).1 _ y v hy hv)
theorem jw.jz{w w':World}(h:jw (fun _=>False) w w'):Below w.heap.size w w':=⟨h.os,h.tape,h.output,h.size,fun b hb=>h.block b hb (fun h=>h)⟩
theorem jh4{f:FuncId}{fn:Func}{code:Code}{ds:List D}{r:AV}(he:nU P f=true)(hf:P.funcs[f]? =some fn)(hb:fn.body=some code)(hn:ds.length≤fn.ntmps)
  (h:∀c:Cx,c.nt=fn.ntmps→dj P c code (mQ P fn fun x H=>aC H x=some r) (vU ds) []):cC P f ds r:=
 ⟨he,fun _ _ _ hl hx hE=>(Uj hf hb hn h hl hx hE).mono fun _ _ ⟨v,_,_,_,_,_,h1,h2,h3,h4⟩=>⟨v,h1,M6 h4.h h2 h3,h4.km.jz⟩⟩
def gy(H:ak):AV→Option AV
 | .dc xs=>(rV (lE H H.length) 9 xs).map fun ys=>.dc (ys.map .d)
 |x=>(uu (lE H H.length) 9 x).map .d
theorem Sy{E E':Nat→Prop}(hr:ei E w pl H sh)(sj:∀(id:Nat) (o:bq) (p:Nat × Nat),H[id]? =some o→o.live=true→pl[id]? =some (some p)→¬E' p.1){x r:AV}{v:Value}(h:gy H x=some r)(hv:Rd w pl (bu E H pl) x v):Rd w [] E' r v:=by
 unfold gy at h
 split at h
 ·obtain⟨ys,hy,rfl⟩:=cA.1 h
  cases hv with|dc _ vs hl hx=>
  obtain⟨h1,h2⟩:=(P7 hr sj H.length 9).2 _ ys _ hy hx
  refine .dc _ _ (by simp;omega) fun j x hj=>?_
  rw[List.getElem?_map,cA]at hj
  obtain⟨y,hy,rfl⟩:=hj
  exact .d _ _ (h2 j y hy)
 ·obtain⟨y,hy,rfl⟩:=cA.1 h
  exact .d _ _ ((P7 hr sj H.length 9).1 _ y v hy hv)
theorem jh5{f:FuncId}{fn:Func}{code:Code}{ds:List D}{r:AV}(he:nU P f=true)(hf:P.funcs[f]? =some fn)(hb:fn.body=some code)(hn:ds.length≤fn.ntmps)
  (h:∀c:Cx,c.nt=fn.ntmps→dj P c code (mQ P fn fun x H=>gy H x=some r) (vU ds) []):w9 P f ds r:=
 ⟨he,fun w O _ hl hx hE=>(Uj hf hb hn h hl hx hE).mono fun _ w' ⟨v,_,_,_,_,_,h1,h2,h3,h4⟩=>⟨v,h1,Sy h4.h (fun id o p k1 k2 k3 sj=>by
  rcases sj with sj|sj
  ·exact h4.h.ext id o p k1 k2 k3 sj
  ·rcases h4.gZ id o p k1 k2 k3 with h|h
   ·exact h
   ·simp only at h;omega) h2 h3,h4.km.jz⟩⟩
end
end
section
section
variable {P:Program} {c:Cx} {τ:Fr} {a:Act} {w w':World} {pl bt:List (Option (Nat × Nat))} {H H':ak} {sh sh':List (Nat × Nat)} {fr:List FuncId} {ops:List Oper} {N:Nat}
structure St where
 τ:Fr
 H:ak
 sh:List (Nat × Nat)
def bp(fr:List FuncId)(o:Oper):Bool:=fW fr o.op==1||fW fr o.op==3
def kO(fr:List FuncId)(ops:List Oper)(i:Nat):Nat:=(ops.take i).countP (bp fr)
def tY(ops:List Oper)(o:Oper):Bool:=
 match o.op with
 | .store _ (.tmp t) _=>ops.any fun p=>p.dst==some t&&(match p.op with| .alloc _=>true|_=>false)
 |_=>false
def tU(N:Nat)(al:List Nat):AV→Bool
 | .os _ id _ _=>decide (id<N)||al.contains (id - N)
 |_=>true
def GW(fr:List FuncId)(ops:List Oper)(o:Oper):List Nat:=(o.after.toList.filter fun e=>Region.binds .any e&&((ops[e.on]?).any (bp fr))).map fun e=>kO fr ops e.on
def y4(N:Nat)(al:List Nat)(ρ:Operand→AV)(op:Op):Prop:=
 match op with
 | .call c=>match c.callee with
  | .builtin .append=>∀y∈c.args.toList,tU N al (ρ y)=true
  |_=>True
 |_=>True
def rH(P:Program)(fr:List FuncId)(ops:List Oper)(N i:Nat)(o:Oper)(b:Bool)(ρ:Operand→AV)(H:ak)(sh:List (Nat × Nat))(x:AV)(H':ak)(sh':List (Nat × Nat)):Prop:=
 if b then match fW fr o.op with
  |0=>gR P N H ρ o.op x∧H'=H∧sh'=sh
  |2=>wR P ρ o.op H sh (if tY ops o then N else 0) H'∧x= .d (.val undef)∧sh'=sh
  |4=>pL P ρ o.op H sh x H'∧sh'=sh
  |_=>H[N+kO fr ops i]? =some .free∧(∀p∈sh,p.1≠N+kO fr ops i∧p.2≠N+kO fr ops i)∧y4 N (GW fr ops o) ρ o.op∧ka P true (N+kO fr ops i) ρ o.op H sh x H' sh'
 else x= .d (.val undef)∧H'=H∧sh'=sh
def EW(P:Program)(fr:List FuncId)(ops:List Oper)(N i:Nat)(σ σ':St):Prop:=
 ∃o b x H' sh',ops[i]? =some o∧kl ops σ.τ o=some b∧rH P fr ops N i o b (aU σ.τ) σ.H σ.sh x H' sh'∧σ'=⟨σ.τ.put o.dst x,H',sh'⟩
def Ej(P:Program)(fr:List FuncId)(ops:List Oper)(N:Nat)(K:St→Prop):Nat→Array Bool→St→Prop
 |0,listed,σ=>Region.ready .any ops.toArray listed=[]∧K σ
 |fuel+1,listed,σ=>(Region.ready .any ops.toArray listed=[]→K σ)∧∀i∈Region.ready .any ops.toArray listed,∃σ',EW P fr ops N i σ σ'∧Ej P fr ops N K fuel (listed.setIfInBounds i true) σ'
theorem Tk{K:St→Prop}{Q:Exit→Act→World→Prop}(hd:mh c.nt ops=true)(hK:∀σ a w,K σ→R c σ.τ σ.H σ.sh a w→Q .normal a w):
  ∀(fuel:Nat) (listed:Array Bool) (σ:St) (a:Act) (w:World),Ej P fr ops N K fuel listed σ→R c σ.τ σ.H σ.sh a w→wpAnyIn c.F 0 P .any ops.toArray Q fuel listed a w
 |0,_,σ,a,w,h,hR=>⟨h.1,hK σ a w h.2 hR⟩
 |fuel+1,listed,σ,a,w,h,hR=>by
  refine⟨fun h0=>hK σ a w (h.1 h0) hR,fun i hi=>?_⟩
  obtain⟨σ',⟨o,b,x,H',sh',ho,hg,hs,rfl⟩,jZ⟩:=h.2 i hi
  obtain⟨pl,hR⟩:=hR
  have hw:=Nu hR hg
  have lr:∀d,o.dst=some d→d<c.nt:=fun d e=>by
   have:=kF.1 hd o (List.mem_of_getElem? ho)
   rw[e]at this;simpa using((gG _ _).mp this).1
  have o4:Lw o.op=true:=by
   have:=kF.1 hd o (List.mem_of_getElem? ho)
   exact((gG _ _).mp this).2
  have ih:=Tk (Q:=Q) hd hK fuel (listed.setIfInBounds i true)
  unfold wpOpIn
  rw[List.getElem?_toArray,ho]
  simp only
  unfold rH at hs
  cases b with
  |false=>
   rw[if_neg (by rw[hw];decide)]
   simp only[Bool.false_eq_true,if_false]at hs
   obtain⟨rfl,rfl,rfl⟩:=hs
   exact⟨fun _ _=>trivial,ih _ _ _ jZ ⟨pl,hR.put _ lr (.d _ _ (.val _))⟩⟩
  |true=>
   rw[if_pos hw]
   simp only[if_true]at hs
   split at hs
   ·obtain⟨hq,rfl,rfl⟩:=hs
    exact sM c o4 (JG hR hq fun v w' h1 h2=>ih _ _ _ jZ ⟨pl,h1.put _ lr h2⟩)
   ·obtain⟨hq,rfl,rfl⟩:=hs
    exact sM c o4 (M8 hR hq fun w' bt h1=>ih _ _ _ jZ ⟨bt,h1.put _ lr (.d _ _ (.val _))⟩)
   ·obtain⟨hq,rfl⟩:=hs
    exact sM c o4 (M9 hR hq fun v w' h1 h2=>ih _ _ _ jZ ⟨pl,h1.put _ lr h2⟩)
   ·obtain⟨hn,eg,_,hq⟩:=hs
    exact sM c o4 (JF hR hn eg hq fun v w' bt h1 h2=>ih _ _ _ jZ ⟨bt,h1.put _ lr h2⟩)

theorem Sx{d:Option Tmp}{x:AV}{y:Operand}(h:∀t,d=some t→y≠ .tmp t):aU (τ.put d x) y=aU τ y:=by
 cases d with
 |none=>rfl
 |some d=>
  cases y with
  |tmp t=>
   have cw:t≠d:=fun e=>h d rfl (e▸rfl)
   simp[aU,Fr.put,cw]
  |_=>rfl
theorem jns{x y:Option Tmp}{u v:AV}(h:∀d,x=some d→y≠some d):(τ.put x u).put y v=(τ.put y v).put x u:=by
 cases x with
 |none=>rfl
 |some d=>
  cases y with
  |none=>rfl
  |some e=>
   have cw:d≠e:=fun he=>h d rfl (he▸rfl)
   funext t
   simp only[Fr.put]
   by_cases h1:t=e<;>by_cases h2:t=d<;>simp_all
theorem FQ{callee:Callee}{args:Array Operand}{ts:Array TypeId}{y:Operand}(hy:y∈args.toList):y∈(Op.call ⟨callee,args,ts⟩).operands:=Array.mem_append.2 (.inr (by simpa using hy))
theorem JE{ρ ρ':Operand→AV}{op:Op}(h:∀x∈op.operands,ρ x=ρ' x)(M:Nat)(H:ak)(x:AV):gR P M H ρ op x=gR P M H ρ' op x:=by
 cases op with
 |call cl=>
  obtain⟨callee,args,ts⟩:=cl
  have ha:args.toList.map ρ=args.toList.map ρ':=List.map_congr_left fun y hy=>h y (FQ hy)
  cases callee with
  |value f=>
   have hf:ρ f=ρ' f:=h f (by simp[Op.operands,Call.operands])
   simp only[gR,ha,hf]
  |builtin b=>simp only[gR,ha]
  |invoke r m=>rfl
 |build t parts=>
  have:(parts.toList.map fun p=>(p.1,ρ p.2))=parts.toList.map fun p=>(p.1,ρ' p.2):=List.map_congr_left fun p hp=>by rw[h p.2 (by simp only[Op.operands,List.mem_toArray];exact List.mem_map_of_mem hp)]
  simp only[gR,this]
 |makeFunc fn fi ca=>
  have h1:fi.toList.map ρ=fi.toList.map ρ':=List.map_congr_left fun y hy=>h y (by simp[Op.operands]at hy ⊢;exact .inl hy)
  have h2:ca.toList.map ρ=ca.toList.map ρ':=List.map_congr_left fun y hy=>h y (by simp[Op.operands]at hy ⊢;exact .inr hy)
  simp only[gR,h1,h2]
 |slice t p lo hi mx=>
  cases mx with
  |some _=>rfl
  |none=>
   have hp:ρ p=ρ' p:=h p (by simp[Op.operands])
   have h1:lo.map ρ=lo.map ρ':=by cases lo with|none=>rfl|some y=>simp[h y (by simp[Op.operands])]
   have h2:hi.map ρ=hi.map ρ':=by cases hi with|none=>rfl|some y=>simp[h y (by simp[Op.operands])]
   simp only[gR,hp,h1,h2]
 |pick a b c=>simp only[gR,h a (by simp[Op.operands]),h b (by simp[Op.operands]),h c (by simp[Op.operands])]
 |binOp op t y z t'=>simp only[gR,h y (by simp[Op.operands]),h z (by simp[Op.operands])]
 |indexAddr t y z=>simp only[gR,h y (by simp[Op.operands]),h z (by simp[Op.operands])]
 |index t y z=>simp only[gR,h y (by simp[Op.operands]),h z (by simp[Op.operands])]
 |move y=>simp only[gR,h y (by simp[Op.operands])]
 |assign y=>simp only[gR,h y (by simp[Op.operands])]
 |load t y=>simp only[gR,h y (by simp[Op.operands])]
 |fieldAddr t y f=>simp only[gR,h y (by simp[Op.operands])]
 |field t y f=>simp only[gR,h y (by simp[Op.operands])]
 |unOp o t y=>simp only[gR,h y (by simp[Op.operands])]
 |convert s t y=>simp only[gR,h y (by simp[Op.operands])]
 |extract y i=>simp only[gR,h y (by simp[Op.operands])]
 |lookup t m k ok=>simp only[gR,h m (by simp[Op.operands]),h k (by simp[Op.operands])]
 |nilCheck y=>simp only[gR,h y (by simp[Op.operands])]
 |_=>rfl
theorem JD{ρ ρ':Operand→AV}{op:Op}(h:∀x∈op.operands,ρ x=ρ' x)(dr:Bool)(n:Nat)(H:ak)(sh:List (Nat × Nat))(x:AV)(H':ak)(sh':List (Nat × Nat)):ka P dr n ρ op H sh x H' sh'=ka P dr n ρ' op H sh x H' sh':=by
 cases op with
 |call cl=>
  obtain⟨callee,args,ts⟩:=cl
  have ha:args.toList.map ρ=args.toList.map ρ':=List.map_congr_left fun y hy=>h y (FQ hy)
  cases callee with
  |value f=>
   have hf:ρ f=ρ' f:=h f (by simp[Op.operands,Call.operands])
   simp only[ka,ha,hf]
  |builtin b=>
   obtain⟨args⟩:=args
   obtain⟨ts⟩:=ts
   cases b<;>try rfl
   simp only[ka]
   split
   ·rename_i s y t t'
    rw[h s (by simp[Op.operands,Call.operands]),h y (by simp[Op.operands,Call.operands])]
   ·rfl
  |invoke r m=>rfl
 |buildSlice t len parts=>
  have:(parts.toList.map fun p=>(p.1,ρ p.2))=parts.toList.map fun p=>(p.1,ρ' p.2):=List.map_congr_left fun p hp=>by rw[h p.2 (by simp only[Op.operands,List.mem_toArray];exact List.mem_map_of_mem hp)]
  simp only[ka,this]
 |makeSlice t l cp=>simp only[ka,h l (by simp[Op.operands]),h cp (by simp[Op.operands])]
 |box t y=>simp only[ka,h y (by simp[Op.operands])]
 |makeMap t hint=>
  simp only[ka]
  cases hint with
  |none=>simp
  |some y=>simp[h y (by simp[Op.operands])]
 |_=>rfl
theorem Sw{ρ ρ':Operand→AV}{op:Op}(h:∀x∈op.operands,ρ x=ρ' x)(H:ak)(sh:List (Nat × Nat))(N1:Nat)(H':ak):wR P ρ op H sh N1 H'=wR P ρ' op H sh N1 H':=by
 cases op with
 |store t p y=>simp only[wR,h p (by simp[Op.operands]),h y (by simp[Op.operands])]
 |_=>rfl
theorem Sv{ρ ρ':Operand→AV}{op:Op}(h:∀x∈op.operands,ρ x=ρ' x)(H:ak)(sh:List (Nat × Nat))(x:AV)(H':ak):pL P ρ op H sh x H'=pL P ρ' op H sh x H':=by
 cases op with
 |mapUpdate t m k y=>simp only[pL,h m (by simp[Op.operands]),h k (by simp[Op.operands]),h y (by simp[Op.operands])]
 |insert t m k y=>simp only[pL,h m (by simp[Op.operands]),h k (by simp[Op.operands]),h y (by simp[Op.operands])]
 |mapEntry t m k=>simp only[pL,h m (by simp[Op.operands]),h k (by simp[Op.operands])]
 |entryStore t m s y=>simp only[pL,h m (by simp[Op.operands]),h s (by simp[Op.operands]),h y (by simp[Op.operands])]
 |call cl=>
  obtain⟨callee,⟨args⟩,⟨ts⟩⟩:=cl
  cases callee with
  |builtin b=>
   cases b<;>try rfl
   ·simp only[pL]
    split
    ·rename_i e;cases e
    ·rename_i m t e
     rw[h m (by simp[Op.operands,Call.operands])]
    ·rfl
   ·simp only[pL]
    split
    ·rename_i m k t t' e
     rw[h m (by simp[Op.operands,Call.operands]),h k (by simp[Op.operands,Call.operands])]
    ·rename_i e;cases e
    ·rfl
  |_=>rfl
 |_=>rfl
theorem zzm{ρ ρ':Operand→AV}{op:Op}(h:∀x∈op.operands,ρ x=ρ' x)(al:List Nat):y4 N al ρ op=y4 N al ρ' op:=by
 cases op with
 |call cl=>
  obtain⟨callee,args,ts⟩:=cl
  cases callee with
  |builtin b=>
   cases b<;>try rfl
   simp only[y4]
   refine propext ⟨fun hh y hy=>?_,fun hh y hy=>?_⟩
   ·rw[←h y (FQ hy)];exact hh y hy
   ·rw[h y (FQ hy)];exact hh y hy
  |_=>rfl
 |_=>rfl
theorem Su{o:Oper}{t:Tmp}(h:Operand.tmp t∈o.op.operands):t∈o.looksAt ops.toArray:=
 List.mem_append_left _ (List.mem_filterMap.2 ⟨.tmp t,by simpa using h,rfl⟩)
theorem Tj{o:Oper}{d:Option Tmp}{x:AV}(h:∀t,d=some t→t∉o.looksAt ops.toArray):kl ops (τ.put d x) o=kl ops τ o:=by
 cases d with
 |none=>rfl
 |some d=>
  unfold kl
  cases hg:o.guard with
  |none=>rfl
  |some p=>
   obtain⟨j,want⟩:=p
   simp only
   cases hj:(ops[j]?).bind (·.dst)with
   |none=>rfl
   |some t=>
    have cw:t≠d:=fun e=>h d rfl (by
     unfold Oper.looksAt
     refine List.mem_append_right _ ?_
     rw[hg]
     simp only[List.getElem?_toArray,hj,Option.toList_some,sa]
     exact e.symm)
    simp[Fr.put,cw]
end
end
section
section
variable {P:Program} {c:Cx} {τ:Fr} {a:Act} {w w':World} {pl bt:List (Option (Nat × Nat))} {H H' H1 H2:ak} {sh sh' KI r9:List (Nat × Nat)} {fr:List FuncId} {ops:List Oper} {N:Nat} {ρ ρ':Operand→AV}
theorem zzn(h:∀id,id<N→H[id]? =H'[id]?):lE H N=lE H' N:=by
 unfold lE
 congr 1
 ·funext id
  split
  ·rename_i hid;rw[h id hid]
  ·rfl
 ·funext id
  split
  ·rename_i hid;rw[h id hid]
  ·rfl
theorem zrl(h:∀id,id<N→H[id]? =H'[id]?)(m:AV):yz H N m=yz H' N m:=by
 unfold yz
 split
 ·rfl
 ·rfl
 ·split
  ·rename_i hid;rw[h _ hid]
  ·rfl
 ·rfl
def quiet:Op→Bool
 | .move _| .assign _| .pick .. | .fieldAddr .. | .field .. | .indexAddr .. | .index .. | .binOp .. | .unOp .. | .convert .. | .build .. | .extract .. | .nilCheck _| .makeFunc .. =>true
 | .call {callee:=.builtin .len,..}| .call {callee:=.builtin .min,..}| .call {callee:=.builtin .max,..}=>true
 |_=>false
theorem FY{op:Op}(h:quiet op=true)(H H':ak)(x:AV)(hq:gR P N H ρ op x):gR P N H' ρ op x:=by
 cases op with
 |call c=>
  obtain⟨callee,args,ts⟩:=c
  cases callee with
  |builtin b=>exact hq
  |_=>cases h
 |_=>first|exact hq|cases h
theorem zi(h:∀id,id<N→H[id]? =H'[id]?)(op:Op)(x:AV)(hq:gR P N H ρ op x):gR P N H' ρ op x:=by
 unfold gR at hq ⊢
 split at hq
 all_goals try exact hq
 ·unfold lO at hq ⊢
  split at hq
  ·exact hq
  ·obtain⟨g,k,h1,h2,h3,cs,h4,h5⟩:=hq
   exact⟨g,k,h1,h2,h3,cs,(h _ h3)▸h4,h5⟩
  ·exact hq
 ·unfold lx at hq ⊢
  split at hq
  ·exact hq
  ·exact hq
  ·exact hq
  ·obtain⟨n,e,s,l,h',cs,h1,h2,h3,h4⟩:=hq
   exact⟨n,e,s,l,h',cs,h1,h2,(h _ h2)▸h3,h4⟩
  ·exact hq
 ·obtain⟨kt,et,z,v,es,h1,h2,h3,h4,h5,h6,h7,h8⟩:=hq
  exact⟨kt,et,z,v,es,h1,h2,h3,h4,h5,h6,(zrl h _)▸h7,h8⟩
 ·split at hq
  ·obtain⟨n,fi,ca,ds,h1,h2⟩:=hq
   exact⟨n,fi,ca,ds,h1,by rw[←zzn h];exact h2⟩
  ·exact hq
  ·exact hq
theorem B2{op:Op}(hk:fW fr op=1){n:Nat}{x:AV}(hq:ka P true n ρ op H sh x H' sh'):∃o,H'=H.set n o∧sh'=sh∧∀H2 r9,ka P true n ρ op H2 r9 x (H2.set n o) r9:=by
 unfold ka at hq
 split at hq
 ·obtain⟨cs,h1,h2,rfl,rfl⟩:=hq
  exact⟨_,rfl,rfl,fun H2 r9=>⟨cs,h1,h2,rfl,rfl⟩⟩
 ·obtain⟨zs,h1,h2,h3,rfl,rfl⟩:=hq
  exact⟨_,rfl,rfl,fun H2 r9=>⟨zs,h1,h2,h3,rfl,rfl⟩⟩
 ·obtain⟨e,s,zs,bts,k1,k2,m,m',he,hz,hl,h0,h1,ef,hm,tx,b0,b1,b2,b3,hc,rfl⟩:=hq
  rcases hc with⟨h2,rfl⟩|⟨ds,h2,h3,h4,rfl⟩
  ·exact⟨_,rfl,rfl,fun H2 r9=>⟨e,s,zs,bts,k1,k2,m,m',he,hz,hl,h0,h1,ef,hm,tx,b0,b1,b2,b3,.inl ⟨h2,rfl⟩,rfl⟩⟩
  ·exact⟨_,rfl,rfl,fun H2 r9=>⟨e,s,zs,bts,k1,k2,m,m',he,hz,hl,h0,h1,ef,hm,tx,b0,b1,b2,b3,.inr ⟨ds,h2,h3,h4,rfl⟩,rfl⟩⟩
 ·obtain⟨h1,h2,rfl,rfl⟩:=hq
  exact⟨_,rfl,rfl,fun H2 r9=>⟨h1,h2,rfl,rfl⟩⟩
 ·obtain⟨e,s,zs,cs,he,hz,hl,h0,h1,ti,hf,hc,rfl⟩:=hq
  rcases hc with⟨h2,rfl⟩|⟨ds,h2,h3,h4,rfl⟩
  ·exact⟨_,rfl,rfl,fun H2 r9=>⟨e,s,zs,cs,he,hz,hl,h0,h1,ti,hf,.inl ⟨h2,rfl⟩,rfl⟩⟩
  ·exact⟨_,rfl,rfl,fun H2 r9=>⟨e,s,zs,cs,he,hz,hl,h0,h1,ti,hf,.inr ⟨ds,h2,h3,h4,rfl⟩,rfl⟩⟩
 ·rename_i cl
  obtain⟨callee,args,ts⟩:=cl
  simp only at hq
  split at hq
  ·obtain⟨f,fi,ca,ds,r,cs,hc,qq,hp,h1,rfl,rfl⟩:=hq
   exact⟨_,rfl,rfl,fun H2 r9=>⟨f,fi,ca,ds,r,cs,hc,qq,hp,h1,rfl,rfl⟩⟩
  ·cases hk
  ·exact hq.elim
 ·exact hq.elim
theorem Ti{al:List Nat}{k id off n:Nat}(h:tU N al (.os k id off n)=true):id<N∨(id - N)∈al:=by
 simpa[tU]using h
theorem FF{op:Op}(hk:fW fr op=3){n:Nat}{x:AV}{al:List Nat}(ha:y4 N al ρ op)(hq:ka P true n ρ op H sh x H' sh'):∃o,H'=H.set n o∧((∀p∈sh,p∈sh')∧∀p∈sh',p∈sh∨p.1=n∧((∃cs,H[p.2]? =some (.cells cs))∨∃q∈sh,q.2=p.2))∧∀H2,(∀id,id<N∨(id - N)∈al→H[id]? =H2[id]?)→ka P true n ρ op H2 sh x (H2.set n o) sh':=by
 unfold ka at hq
 split at hq
 ·cases hk
 ·cases hk
 ·cases hk
 ·cases hk
 ·cases hk
 ·rename_i cl
  obtain⟨callee,args,ts⟩:=cl
  simp only at hq
  split at hq
  ·rename_i f
   cases f<;>simp only[fW]at hk<;>first|(cases hk;done)|(split at hk<;>cases hk)
  ·obtain⟨args⟩:=args
   obtain⟨ts⟩:=ts
   simp only at hq
   split at hq
   ·rename_i s y t t'
    obtain⟨e,k,zs,bts,m,l,he,hz,hl,ef,hs,hq⟩:=hq
    have uz:tU N al (ρ s)=true:=ha s (by simp)
    have hy1:tU N al (ρ y)=true:=ha y (by simp)
    have iQ:∀H2:ak,(∀id,id<N∨(id - N)∈al→H[id]? =H2[id]?)→EZ P t t' zs bts H2 k (ρ y) m l:=fun H2 hH=>by
     refine hs.imp_left fun⟨ht,hs⟩=>⟨ht,?_⟩
     unfold pJ at hs ⊢
     split at hs
     ·exact hs
     ·rename_i e1
      obtain⟨h1,cs,h2,h3,h4⟩:=hs
      rw[e1]at hy1
      exact⟨h1,cs,(hH _ (Ti hy1))▸h2,h3,h4⟩
     ·exact hs
     ·exact hs
    split at hq
    ·rename_i k' id off q e3
     obtain⟨cs,h1,h2,h3,h4,h5,h6,eD,rfl,rfl⟩:=hq
     rw[e3]at uz
     refine⟨_,rfl,⟨fun p hp=>FZ hp,fun p hp=>?_⟩,fun H2 hH=>?_⟩
     ·obtain⟨p1,p2⟩:=p
      rcases zk hp with⟨k1,k2⟩|⟨k1,k2⟩|k
      ·exact .inr ⟨k1,.inl ⟨cs,k2▸h2⟩⟩
      ·exact .inr ⟨k1,.inr ⟨_,k2,rfl⟩⟩
      ·exact .inl k
     refine⟨e,k,zs,bts,m,l,he,hz,hl,ef,iQ H2 hH,?_⟩
     rw[e3]
     exact⟨cs,h1,(hH _ (Ti uz))▸h2,h3,h4,h5,h6,eD,rfl,rfl⟩
    ·rename_i e3
     obtain⟨h1,h2,h3,rfl,rfl⟩:=hq
     refine⟨_,rfl,⟨fun p hp=>hp,fun p hp=>.inl hp⟩,fun H2 hH=>?_⟩
     refine⟨e,k,zs,bts,m,l,he,hz,hl,ef,iQ H2 hH,?_⟩
     rw[e3]
     exact⟨h1,h2,h3,rfl,rfl⟩
    ·exact hq.elim
   ·exact hq.elim
  ·exact hq.elim
 ·exact hq.elim
theorem Mr{op:Op}{N1:Nat}(hq:wR P ρ op H sh N1 H'):∃id o cs,N1≤id∧H[id]? =some (.cells cs)∧H'=H.set id o∧∀H2,H2[id]? =H[id]? →wR P ρ op H2 sh N1 (H2.set id o):=by
 unfold wR at hq
 split at hq
 ·obtain⟨id,i,cs,l,h1,h2,h3,h4,h5,h6,h7,rfl⟩:=hq
  exact⟨id,_,cs,h7,h2,rfl,fun H2 hH=>⟨id,i,cs,l,h1,hH.trans h2,h3,h4,h5,h6,h7,rfl⟩⟩
 ·exact hq.elim
def lg:Op→Op→Bool
 | .lookup t (.tmp m) (.tmp k) false,.mapEntry t' (.tmp m') (.tmp k')=>t==t'&&m==m'&&k==k'
 |_,_=>false
theorem Th{v:Value}(hv:mI v=true)(n:Nat)(z:AV):∀(es:List (Value × Nat × AV)) (i:Nat),j6 v es i=none→j6 v (es++[(v,n,z)]) i=some (i+es.length,z)
 |[],i,_=>by simp[j6,Jp hv]
 |e::l,i,h=>by
  unfold j6 at h
  split at h
  ·cases h
  ·rename_i cw
   rw[List.cons_append,j6,if_neg cw,Th hv n z l (i+1) h,List.length_cons]
   congr 2;omega
theorem zzp{kt:TypeId}{es:List (Value × Nat × AV)}{v:Value}{n:Nat}{z:AV}(h:p9 P kt es=true)(hv:(keyOf P kt v).isSome=true):p9 P kt (es++[(v,n,z)])=true:=by
 unfold p9 at h ⊢
 rw[List.all_append,h]
 simp[hv]
theorem zso{oi oj:Op}(h:lg oi oj=true){xi xj:AV}(h1:gR P N H ρ oi xi)(h2:pL P ρ oj H sh xj H'):gR P N H' ρ oi xi:=by
 unfold lg at h
 split at h
 ·rename_i t m k t' m' k'
  simp only[gG,beq_iff_eq]at h
  obtain⟨⟨rfl,rfl⟩,rfl⟩:=h
  obtain⟨kt,et,z,v,es,a1,a2,a3,a4,a5,a6,a7,a8,rfl⟩:=h1
  obtain⟨kt',et',z',v',es',clock,id,b1,b2,b3,b4,b5,b6,b7,b8,b9,b10,Mg⟩:=h2
  rw[a1]at b1;cases b1
  rw[a3]at b3;cases b3
  rw[a4]at b4;cases b4
  have aA:=(dX.1 b8).1
  rw[b7]at a7
  unfold yz at a7
  simp only at a7
  split at a7
  ·rename_i hid
   rw[b8]at a7
   cases a7
   cases hf:j6 v es 0 with
   |none=>
    rw[hf]at Mg
    obtain⟨_,rfl⟩:=Mg
    refine⟨kt,et,z,v,es++[(v,clock,z)],a1,a2,a3,a4,a5,a6,?_,zzp a8 a6,?_⟩
    ·rw[b7];unfold yz;simp only[if_pos hid,List.getElem?_set_self aA]
    ·rw[Th a5 clock z es 0 hf];rfl
   |some p=>
    obtain⟨i,y⟩:=p
    rw[hf]at Mg
    obtain⟨_,rfl⟩:=Mg
    refine⟨kt,et,z,v,es,a1,a2,a3,a4,a5,a6,?_,a8,by rw[hf]⟩
    rw[b7];unfold yz;simp only[if_pos hid,List.getElem?_set_self aA]
  ·cases a7
 ·cases h
def EV(fr:List FuncId)(ops:List Oper)(i j:Nat)(oi oj:Oper):Bool:=
 match fW fr oi.op,fW fr oj.op with
 |0,2=>tY ops oj||quiet oi.op
 |2,0=>tY ops oi||quiet oj.op
 |0,4=>quiet oi.op||lg oi.op oj.op
 |4,0=>quiet oj.op
 |0,_=>true
 |_,0=>true
 |1,1=>kO fr ops i !=kO fr ops j
 |1,3=>kO fr ops i !=kO fr ops j&& !(GW fr ops oj).contains (kO fr ops i)
 |3,1=>kO fr ops i !=kO fr ops j&& !(GW fr ops oi).contains (kO fr ops j)
 |_,_=>false
theorem Dx(fr:List FuncId)(op:Op):fW fr op=0∨fW fr op=1∨fW fr op=2∨fW fr op=3∨fW fr op=4:=by
 unfold fW
 split
 all_goals first|(simp;done)|(split<;>simp)
theorem jnt{i j:Nat}{oi oj:Oper}{bi bj:Bool}(hk:EV fr ops i j oi oj=true){xi xj:AV}(h1:rH P fr ops N i oi bi ρ H sh xi H1 KI)(h2:rH P fr ops N j oj bj ρ H1 KI xj H2 r9):
  ∃H3 GL,rH P fr ops N j oj bj ρ H sh xj H3 GL∧rH P fr ops N i oi bi ρ H3 GL xi H2 r9:=by
 cases bi with
 |false=>
  simp only[rH,Bool.false_eq_true,if_false]at h1
  obtain⟨rfl,rfl,rfl⟩:=h1
  exact⟨_,_,h2,by simp only[rH,Bool.false_eq_true,if_false];exact⟨trivial,trivial,trivial⟩⟩
 |true=>
  cases bj with
  |false=>
   simp only[rH,Bool.false_eq_true,if_false]at h2
   obtain⟨rfl,rfl,rfl⟩:=h2
   exact⟨_,_,by simp only[rH,Bool.false_eq_true,if_false];exact⟨trivial,trivial,trivial⟩,h1⟩
  |true=>
   simp only[rH,if_true]at h1 h2 ⊢
   unfold EV at hk
   have Ff:∀(H:ak) (n:Nat) (o:bq),N≤n→∀id,id<N→H[id]? =(H.set n o)[id]? :=fun H n o hn id hid=>(qa (show id≠n by omega)).symm
   rcases Dx fr oi.op with ki|ki|ki|ki|ki<;>rcases Dx fr oj.op with kj|kj|kj|kj|kj<;>simp only[ki,kj]at hk h1 h2 ⊢
   -- looks, looks
   ·obtain⟨q1,rfl,rfl⟩:=h1
    obtain⟨q2,rfl,rfl⟩:=h2
    exact⟨_,_,⟨q2,rfl,rfl⟩,q1,rfl,rfl⟩
   -- looks, bp
   ·obtain⟨q1,rfl,rfl⟩:=h1
    obtain⟨f1,f2,f3,q2⟩:=h2
    obtain⟨o,rfl,rfl,_⟩:=B2 kj q2
    exact⟨_,_,⟨f1,f2,f3,q2⟩,zi (Ff _ _ _ (Nat.le_add_right _ _)) _ _ q1,rfl,rfl⟩
   -- looks, writes
   ·obtain⟨q1,rfl,rfl⟩:=h1
    obtain⟨q2,rfl,rfl⟩:=h2
    rcases Bool.or_eq_true_iff.1 hk with hk|hk
    ·rw[if_pos hk]at q2
     obtain⟨id,o,cs,hle,_,rfl,_⟩:=Mr q2
     exact⟨_,_,⟨by rw[if_pos hk];exact q2,rfl,rfl⟩,zi (Ff _ _ _ hle) _ _ q1,rfl,rfl⟩
    ·exact⟨_,_,⟨q2,rfl,rfl⟩,FY hk _ _ _ q1,rfl,rfl⟩
   -- looks, pH
   ·obtain⟨q1,rfl,rfl⟩:=h1
    obtain⟨f1,f2,f3,q2⟩:=h2
    obtain⟨o,rfl,_,_⟩:=FF kj f3 q2
    exact⟨_,_,⟨f1,f2,f3,q2⟩,zi (Ff _ _ _ (Nat.le_add_right _ _)) _ _ q1,rfl,rfl⟩
   -- looks, writes a map
   ·obtain⟨q1,rfl,rfl⟩:=h1
    obtain⟨q2,rfl⟩:=h2
    rcases Bool.or_eq_true_iff.1 hk with hk|hk
    ·exact⟨_,_,⟨q2,rfl⟩,FY hk _ _ _ q1,rfl,rfl⟩
    ·exact⟨_,_,⟨q2,rfl⟩,zso hk q1 q2,rfl,rfl⟩
   -- bp, looks
   ·obtain⟨f1,f2,f3,q1⟩:=h1
    obtain⟨o,rfl,rfl,q3⟩:=B2 ki q1
    obtain⟨q2,rfl,rfl⟩:=h2
    exact⟨_,_,⟨zi (fun id hid=>(Ff _ _ _ (Nat.le_add_right _ _) id hid).symm) _ _ q2,rfl,rfl⟩,f1,f2,f3,q1⟩
   -- bp, bp
   ·obtain⟨f1,f2,f3,q1⟩:=h1
    obtain⟨o,rfl,rfl,q3⟩:=B2 ki q1
    obtain⟨g1,g2,g3,q2⟩:=h2
    obtain⟨o',rfl,rfl,q4⟩:=B2 kj q2
    have cw:N+kO fr ops i≠N+kO fr ops j:=by simp only[bne_iff_ne,ne_eq]at hk;omega
    rw[qa cw.symm]at g1
    refine⟨_,_,⟨g1,g2,g3,q4 _ _⟩,by rw[qa cw];exact f1,f2,f3,?_⟩
    rw[List.set_comm _ _ cw]
    exact q3 _ _
   ·cases hk
   -- bp, pH
   ·obtain⟨f1,f2,f3,q1⟩:=h1
    obtain⟨o,rfl,rfl,q3⟩:=B2 ki q1
    obtain⟨g1,g2,g3,q2⟩:=h2
    simp only[gG,bne_iff_ne,ne_eq,Bool.not_eq_true',List.contains_eq_mem,decide_eq_false_iff_not]at hk
    have cw:N+kO fr ops i≠N+kO fr ops j:=by omega
    obtain⟨o',rfl,vv,q4⟩:=FF kj g3 q2
    rw[qa cw.symm]at g1
    have hq:=q4 H fun id hid=>qa (fun e=>by
     rcases hid with hid|hid
     ·omega
     ·rw[e,Nat.add_sub_cancel_left]at hid;exact hk.2 hid)
    refine⟨_,_,⟨g1,g2,g3,hq⟩,by rw[qa cw];exact f1,?_,f3,?_⟩
    ·intro p hp
     obtain⟨_,_,⟨_,lY⟩,_⟩:=FF kj g3 hq
     rcases lY p hp with h|⟨h3,⟨cs,h4⟩|⟨q,h4,h5⟩⟩
     ·exact f2 p h
     ·exact⟨by rw[h3];exact cw.symm,fun e=>by rw[e,f1]at h4;cases h4⟩
     ·exact⟨by rw[h3];exact cw.symm,by rw[←h5];exact(f2 q h4).2⟩
    ·rw[List.set_comm _ _ cw]
     exact q3 _ _
   ·cases hk
   -- writes, looks
   ·obtain⟨q1,rfl,rfl⟩:=h1
    obtain⟨q2,rfl,rfl⟩:=h2
    rcases Bool.or_eq_true_iff.1 hk with hk|hk
    ·rw[if_pos hk]at q1
     obtain⟨id,o,cs,hle,_,rfl,_⟩:=Mr q1
     exact⟨_,_,⟨zi (fun cq hid=>(Ff _ _ _ hle cq hid).symm) _ _ q2,rfl,rfl⟩,by rw[if_pos hk];exact q1,rfl,rfl⟩
    ·exact⟨_,_,⟨FY hk _ _ _ q2,rfl,rfl⟩,q1,rfl,rfl⟩
   ·cases hk
   ·cases hk
   ·cases hk
   ·cases hk
   -- pH, looks
   ·obtain⟨f1,f2,f3,q1⟩:=h1
    obtain⟨o,rfl,_,q3⟩:=FF ki f3 q1
    obtain⟨q2,rfl,rfl⟩:=h2
    exact⟨_,_,⟨zi (fun id hid=>(Ff _ _ _ (Nat.le_add_right _ _) id hid).symm) _ _ q2,rfl,rfl⟩,f1,f2,f3,q1⟩
   -- pH, bp
   ·obtain⟨f1,f2,f3,q1⟩:=h1
    obtain⟨o,rfl,vv,q3⟩:=FF ki f3 q1
    obtain⟨g1,g2,g3,q2⟩:=h2
    obtain⟨o',rfl,rfl,q4⟩:=B2 kj q2
    simp only[gG,bne_iff_ne,ne_eq,Bool.not_eq_true',List.contains_eq_mem,decide_eq_false_iff_not]at hk
    have cw:N+kO fr ops i≠N+kO fr ops j:=by omega
    rw[qa cw.symm]at g1
    have hq:=q3 (H.set (N+kO fr ops j) o') fun id hid=>(qa (fun e=>by
     rcases hid with hid|hid
     ·omega
     ·rw[e,Nat.add_sub_cancel_left]at hid;exact hk.2 hid)).symm
    refine⟨_,_,⟨g1,fun p hp=>g2 p (vv.1 p hp),g3,q4 _ _⟩,by rw[qa cw];exact f1,f2,f3,?_⟩
    rw[List.set_comm _ _ cw]
    exact hq
   ·cases hk
   ·cases hk
   ·cases hk
   -- writes a map, looks
   ·obtain⟨q1,rfl⟩:=h1
    obtain⟨q2,rfl,rfl⟩:=h2
    exact⟨_,_,⟨FY hk _ _ _ q2,rfl,rfl⟩,q1,rfl⟩
   ·cases hk
   ·cases hk
   ·cases hk
   ·cases hk
theorem jft{i j:Nat}{oi oj:Oper}(hi:ops[i]? =some oi)(hj:ops[j]? =some oj)(Rv:oi.apart ops.toArray oj=true)(hk:EV fr ops i j oi oj=true){σ σ1 σ2:St}(h1:EW P fr ops N i σ σ1)(h2:EW P fr ops N j σ1 σ2):∃σ3,EW P fr ops N j σ σ3∧EW P fr ops N i σ3 σ2:=by
 obtain⟨p1,p2,p3⟩:=Oper.apart_spec Rv
 obtain⟨o,bi,xi,H1,KI,e1,g1,h1,rfl⟩:=h1
 rw[hi]at e1;cases e1
 obtain⟨o,bj,xj,H2,r9,e2,g2,h2,rfl⟩:=h2
 rw[hj]at e2;cases e2
 simp only at g2 h2 ⊢
 rw[Tj p1]at g2
 have c1:∀(y:Operand),y∈oj.op.operands→aU (σ.τ.put oi.dst xi) y=aU σ.τ y:=fun y hy=>Sx fun t ht e=>p1 t ht (Su (e▸hy))
 have c2:∀(y:Operand),y∈oi.op.operands→aU (σ.τ.put oj.dst xj) y=aU σ.τ y:=fun y hy=>Sx fun t ht e=>p3 t ht (Su (e▸hy))
 have conv:∀(k:Nat) (o:Oper) (b:Bool) (ρ ρ':Operand→AV) (H:ak) (sh:List (Nat × Nat)) (x:AV) (H':ak) (sh':List (Nat × Nat)),(∀y∈o.op.operands,ρ y=ρ' y)→rH P fr ops N k o b ρ H sh x H' sh'→rH P fr ops N k o b ρ' H sh x H' sh':=by
  intro k o b ρ ρ' H sh x H' sh' h he
  unfold rH at he ⊢
  rw[JE (P:=P) (fun y hy=>(h y hy).symm),Sw (P:=P) (fun y hy=>(h y hy).symm),Sv (P:=P) (fun y hy=>(h y hy).symm),JD (P:=P) (fun y hy=>(h y hy).symm),zzm (fun y hy=>(h y hy).symm)]
  exact he
 obtain⟨H3,GL,q1,q2⟩:=jnt hk h1 (conv _ _ _ _ _ _ _ _ _ _ c1 h2)
 refine⟨⟨σ.τ.put oj.dst xj,H3,GL⟩,⟨oj,bj,xj,H3,GL,hj,g2,q1,rfl⟩,oi,bi,xi,H2,r9,hi,?_,conv _ _ _ _ _ _ _ _ _ _ (fun y hy=>(c2 y hy).symm) q2,?_⟩
 ·simp only
  rw[Tj p3];exact g1
 ·simp only
  rw[jns p2]
def oN(ops:List Oper)(j i:Nat):Bool:=
 match ops[j]? with
 |none=>false
 |some oj=>oj.after.any (fun e=>Region.binds .any e&&e.on==i)||oj.after.any fun e=>Region.binds .any e&&match ops[e.on]? with
  |some ok=>ok.after.any fun e'=>Region.binds .any e'&&e'.on==i
  |none=>false
def ig(ops:List Oper)(listed:Array Bool):Prop:=∀(k:Nat) (o:Oper),ops[k]? =some o→listed.getD k false=true→∀e∈o.after,Region.binds .any e=true→listed.getD e.on false=true
theorem Nx{listed:Array Bool}{k:Nat}(h:listed.getD k false=true):listed.getD k true=true:=by
 by_cases hk:k<listed.size
 ·simp only[Array.getD,dif_pos hk]at h ⊢;exact h
 ·simp[Array.getD,hk]at h
theorem ig.set{listed:Array Bool}(h:ig ops listed){j:Nat}(hj:j∈Region.ready .any ops.toArray listed):ig ops (listed.setIfInBounds j true):=by
 obtain⟨_,oj,zN,cP⟩:=mem_ready.1 hj
 intro k o ho hk e he hb
 by_cases hkj:j=k
 ·subst hkj
  rw[List.getElem?_toArray,ho]at zN
  cases zN
  exact getD_set_true (cP e he hb)
 ·rw[getD_set_ne false hkj]at hk
  exact getD_set_true (h k o ho hk e he hb)
theorem jnu{listed:Array Bool}(hc:ig ops listed){i j:Nat}(hi:listed.getD i true=false)(hj:j∈Region.ready .any ops.toArray listed):oN ops j i=false:=by
 obtain⟨_,oj,zN,cP⟩:=mem_ready.1 hj
 rw[List.getElem?_toArray]at zN
 have lX:listed.getD i false=true→False:=fun h=>by rw[Nx h]at hi;cases hi
 cases hw:oN ops j i with
 |false=>rfl
 |true=>
  exfalso
  unfold oN at hw
  rw[zN]at hw
  simp only[Bool.or_eq_true,Array.any_eq_true',gG,beq_iff_eq]at hw
  rcases hw with⟨e,he,hb,QO⟩|⟨e,he,hb,hw⟩
  ·exact lX (QO▸cP e he hb)
  ·split at hw
   ·rename_i ok hok
    simp only[Array.any_eq_true',gG,beq_iff_eq]at hw
    obtain⟨e',Rh,ia,QO⟩:=hw
    exact lX (QO▸hc _ ok hok (cP e he hb) e' Rh ia)
   ·cases hw
theorem Tf{K:St→Prop}{i:Nat}{oi:Oper}(hi:ops[i]? =some oi):
  ∀(fuel:Nat) (listed:Array Bool) (σ σ1:St),ig ops listed→(∀j oj,ops[j]? =some oj→j≠i→listed.getD j true=false→oN ops j i=false→oi.apart ops.toArray oj=true∧EV fr ops i j oi oj=true)→
   i∈Region.ready .any ops.toArray listed→EW P fr ops N i σ σ1→Ej P fr ops N K fuel (listed.setIfInBounds i true) σ1→Ej P fr ops N K (fuel+1) listed σ:=by
 intro fuel
 induction fuel with
 |zero=>
  intro listed σ σ1 gj dy hr h1 H
  refine⟨fun h=>(by rw[h]at hr;cases hr),fun j hj=>?_⟩
  by_cases mF:j=i
  ·subst mF;exact⟨σ1,h1,H⟩
  ·have:=ready_mono hj mF
   rw[H.1]at this
   cases this
 |succ fuel ih=>
  intro listed σ σ1 gj dy hr h1 H
  refine⟨fun h=>(by rw[h]at hr;cases hr),fun j hj=>?_⟩
  by_cases mF:j=i
  ·subst mF;exact⟨σ1,h1,H⟩
  ·obtain⟨σ2,h2,H2⟩:=H.2 j (ready_mono hj mF)
   obtain⟨Ib,oj,zN,_⟩:=mem_ready.1 hj
   rw[List.getElem?_toArray]at zN
   have Q8:=(mem_ready.1 hr).1
   obtain⟨Rv,hk⟩:=dy j oj zN mF Ib (jnu gj Q8 hj)
   obtain⟨σ3,h3,h4⟩:=jft hi zN Rv hk h1 h2
   refine⟨σ3,h3,ih (listed.setIfInBounds j true) σ3 σ2 (gj.set hj) (fun k ok hk hki CP lX=>dy k ok hk hki ?_ lX) (ready_mono hr (Ne.symm mF)) h4 ?_⟩
   ·by_cases hjk:j=k
    ·subst hjk;exact Ib
    ·rw[getD_set_ne true hjk]at CP;exact CP
   ·rw[Array.setIfInBounds_comm _ _ mF];exact H2
def jzn(fr:List FuncId)(ops:List Oper)(listed:Array Bool)(i:Nat):Bool:=
 match ops[i]? with
 |none=>false
 |some oi=>(List.range ops.length).all fun j=>j==i||listed.getD j true||oN ops j i||match ops[j]? with
  |some oj=>oi.apart ops.toArray oj&&EV fr ops i j oi oj
  |none=>true
def xD(fr:List FuncId)(ops:List Oper):Nat→Nat→Array Bool→Bool
 |0,_,listed=>(Region.ready .any ops.toArray listed).isEmpty
 |fuel+1,k,listed=>(Region.ready .any ops.toArray listed).contains k&&jzn fr ops listed k&&xD fr ops fuel (k+1) (listed.setIfInBounds k true)
def Ei(P:Program)(fr:List FuncId)(ops:List Oper)(N:Nat):Nat→List Oper→Fr→ak→List (Nat × Nat)→(Fr→ak→List (Nat × Nat)→Prop)→Prop
 |_,[],τ,H,sh,K=>K τ H sh
 |i,o::l,τ,H,sh,K=>∃b,kl ops τ o=some b∧(b=true→∃x H' sh',rH P fr ops N i o true (aU τ) H sh x H' sh'∧Ei P fr ops N (i+1) l (τ.put o.dst x) H' sh' K)∧(b=false→Ei P fr ops N (i+1) l (τ.put o.dst (.d (.val undef))) H sh K)
theorem jbd{K:Fr→ak→List (Nat × Nat)→Prop}:∀(l:List Oper) (k:Nat) (listed:Array Bool) (τ:Fr) (H:ak) (sh:List (Nat × Nat)),(∀j,l[j]? =ops[k+j]?)→ig ops listed→xD fr ops l.length k listed=true→Ei P fr ops N k l τ H sh K→
  Ej P fr ops N (fun σ=>K σ.τ σ.H σ.sh) l.length listed ⟨τ,H,sh⟩
 |[],_,_,_,_,_,_,_,hB,h=>⟨by simpa[xD]using hB,h⟩
 |o::l,k,listed,τ,H,sh,hl,gj,hB,h=>by
  have h0:ops[k]? =some o:=by simpa using(hl 0).symm
  simp only[List.length_cons,xD,gG]at hB
  obtain⟨⟨hr,hf⟩,hB'⟩:=hB
  have HH:k∈Region.ready .any ops.toArray listed:=by simpa using hr
  have dy:∀j oj,ops[j]? =some oj→j≠k→listed.getD j true=false→oN ops j k=false→o.apart ops.toArray oj=true∧EV fr ops k j o oj=true:=by
   intro j oj hj cw CP lX
   unfold jzn at hf
   rw[h0]at hf
   simp only[kF,qk]at hf
   have h1:=hf j (dX.1 hj).1
   simp only[hj,Bool.or_eq_true,beq_iff_eq,cw,false_or,CP,Bool.false_eq_true,lX,gG]at h1
   exact h1
  obtain⟨b,hg,ht,hfa⟩:=h
  have jZ:∀τ' H' sh',Ei P fr ops N (k+1) l τ' H' sh' K→Ej P fr ops N (fun σ=>K σ.τ σ.H σ.sh) l.length (listed.setIfInBounds k true) ⟨τ',H',sh'⟩:=fun τ' H' sh' hh=>
   jbd l (k+1) _ τ' H' sh' (fun j=>by have:=hl (j+1);simpa[Nat.add_assoc,Nat.add_comm 1 j]using this) (gj.set HH) hB' hh
  cases b with
  |true=>
   obtain⟨x,H',sh',he,hh⟩:=ht rfl
   exact Tf h0 _ _ _ _ gj dy HH ⟨o,true,x,H',sh',h0,hg,he,rfl⟩ (jZ _ _ _ hh)
  |false=>exact Tf h0 _ _ _ _ gj dy HH ⟨o,false,_,H,sh,h0,hg,by simp only[rH,Bool.false_eq_true,if_false];exact⟨trivial,trivial,trivial⟩,rfl⟩ (jZ _ _ _ (hfa rfl))
def c6:List (Nat × Nat)→ak→ak
 |[],H=>H
 |p::l,H=>c6 l (H.set p.2 .dead)
theorem R.c6:∀(l sh:List (Nat × Nat)) (H:ak),(∀p∈sh,p∈l)→R c τ H sh a w→R c τ (c6 l H) [] a w
 |[],sh,H,hs,hR=>by
  have:sh=[]:=List.eq_nil_iff_forall_not_mem.2 fun p hp=>by cases hs p hp
  subst this;exact hR
 |p::l,sh,H,hs,⟨pl,hR⟩=>by
  refine R.c6 l (sh.filter fun q=>decide (q.1≠p.2)&&decide (q.2≠p.2)) _ (fun q hq=>?_) ⟨pl,hR.kill p.2 (fun i j hm h1 h2=>?_) (fun q hq=>?_)⟩
  ·obtain⟨h1,h2⟩:=List.mem_filter.1 hq
   simp only[gG,oU]at h2
   rcases List.mem_cons.1 (hs q h1)with h|h
   ·subst h;exact absurd rfl h2.2
   ·exact h
  ·exact List.mem_filter.2 ⟨hm,by simp[h1,h2]⟩
  ·exact(List.mem_filter.1 hq).1
theorem R.eu:∀(n:Nat) (H:ak),R c τ H sh a w→R c τ (H++List.replicate n .free) sh a w
 |0,H,hR=>by simpa using hR
 |n+1,H,⟨pl,hR⟩=>by
  have:=R.eu n (H++[.free]) ⟨_,hR.eu⟩
  rwa[List.append_assoc,List.singleton_append,←List.replicate_succ]at this
theorem jbe{Q:Exit→Fr→ak→Prop}{id:Nat}(fr:List FuncId)(hm:P.follows .mixedOrders=true)(hd:mh c.nt ops=true)(hB:xD fr ops ops.length 0 (Array.replicate ops.length false)=true)
  (h:Ei P fr ops H.length 0 ops τ (H++List.replicate (ops.countP (bp fr)) .free) [] fun τ' H' sh'=>Q .normal τ' (c6 sh' H')):dj P c (.region id ops.toArray true) Q τ H:=fun a w hR=>by
 refine wpIn_region_any hm ?_
 have C2:R c τ (H++List.replicate (ops.countP (bp fr)) .free) [] a {w with drawn:=w.drawn+1}:=R.eu _ _ (by obtain⟨pl,h⟩:=hR;exact⟨pl,h.drew⟩)
 have hA:=jbd (P:=P) (N:=H.length) ops 0 (Array.replicate ops.length false) τ _ [] (fun j=>by simp) (fun k o ho hk=>by
  have aA:=(dX.1 ho).1
  simp[Array.getD,aA]at hk) hB h
 have:=Tk (c:=c) hd (K:=fun σ=>Q .normal σ.τ (c6 σ.sh σ.H)) (Q:=fun e a' w'=>∃τ' H',R c τ' H' [] a' w'∧Q e τ' H') (fun σ a' w' hk hr=>⟨_,_,R.c6 σ.sh σ.sh _ (fun p hp=>hp) hr,hk⟩) ops.length _ _ _ _ hA C2
 simpa using this
end
end
section
def aG:List (Nat × AV)→Fr
 |[]=>fun _=>.any
 |(d,x)::l=>fun t=>if t=d then x else aG l t
theorem DF(d t:Nat)(x:AV)(l:List (Nat × AV)):aG ((d,x)::l) t=if t=d then x else aG l t:=rfl
theorem jh7(d:Nat)(x:AV)(l:List (Nat × AV)):(aG l).put (some d) x=aG ((d,x)::l):=rfl
theorem jbf(x:AV)(τ:Fr):τ.put none x=τ:=rfl
theorem Sr(τ:Fr)(t:Nat):aU τ (.tmp t)=τ t:=rfl
theorem TL(τ:Fr)(v:Value):aU τ (.const v)= .d (.val v):=rfl
theorem Te(τ:Fr)(f:FuncId):aU τ (.func f)= .d (.val (.func (.func f) #[] #[])):=rfl
def fm(τ τ':Fr):Prop:=∀t,τ' t= .any∨τ' t=τ t
section
variable {P:Program} {c:Cx} {τ τ':Fr} {a:Act} {w:World} {H:ak} {sh:List (Nat × Nat)} {Q:Exit→Fr→ak→Prop}
theorem R.less(h:fm τ τ')(hR:R c τ H sh a w):R c τ' H sh a w:=by
 obtain⟨pl,h1⟩:=hR
 refine⟨pl,h1.h,h1.km,h1.gZ,h1.ext,fun t=>?_,h1.size,h1.defs,h1.keep⟩
 rcases h t with h|h
 ·rw[h];exact .any _
 ·rw[h];exact h1.fr t
theorem dG{x:Code}(h:fm τ τ')(hx:dj P c x Q τ' H):dj P c x Q τ H:=fun a w hR=>hx a w (hR.less h)
theorem bT(τ:Fr):fm τ (aG []):=fun _=>.inl rfl
theorem bM{d:Nat}{x:AV}{l:List (Nat × AV)}(h:fm τ (aG l))(hx:τ d=x):fm τ (aG ((d,x)::l)):=fun t=>by
 rw[DF]
 split
 ·rename_i e;subst e;exact .inr hx.symm
 ·exact h t
theorem jh8{fr:List FuncId}{sm:List Nat}(fk:Kp c sm){id:Nat}{l:List Oper}{y:Code}{n:Nat}(hn:c.nt=n)(hd:mh n l=true)(h:∀K:Fr→ak→Prop,(∀τ H,dj P c y Q τ H→K τ H)→Ba P fr sm l l τ H K):dj P c (.seq (.region id l.toArray false) y) Q τ H:=
 DG (Nc (fr:=fr) fk (hn▸hd) (h _ fun _ _ h=>h))
theorem yjj{fr:List FuncId}{sm:List Nat}(fk:Kp c sm){id:Nat}{l:List Oper}{n:Nat}(hn:c.nt=n)(hd:mh n l=true)(h:∀K:Fr→ak→Prop,(∀τ H,Q .normal τ H→K τ H)→Ba P fr sm l l τ H K):dj P c (.region id l.toArray false) Q τ H:=
 Nc (fr:=fr) fk (hn▸hd) (h _ fun _ _ h=>h)
theorem aH{x y:Code}(h:∀K:Fr→ak→Prop,(∀τ H,dj P c y Q τ H→K τ H)→dj P c x (fb K Q) τ H):dj P c (.seq x y) Q τ H:=DG (h _ fun _ _ h=>h)
end
section
variable {P:Program} {fr:List FuncId} {ops l:List Oper} {τ:Fr} {H:ak} {sh:List (Nat × Nat)} {N i:Nat} {d:Option Tmp} {op:Op} {ty:TypeId} {pos:String} {af:Array Edge}
end
end
end Go.Proofs.YtapjobndmmkanaaGreat
