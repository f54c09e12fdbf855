/- Of no program: the run of a region that draws, operation by operation; the laying operations. -/
import Derived.Test.YtfolbdkbpmgjgaaA22
set_option linter.unusedVariables false
set_option linter.unusedSimpArgs false
namespace Go.Proofs.Ytfolbdkbpmgjgaa
open Go Go.RowKit
section
section
variable {P:Program} {fr:List FuncId} {ops l:List Oper} {τ:Fr} {H:zaa} {sh:List (Nat × Nat)} {N i r:Nat} {m:List (Nat × Nat)} {d:Option Tmp} {op:Op} {ty:TypeId} {pos:String} {af:Array Edge} {KD:Fr→zaa→List (Nat × Nat)→Prop} {K:Fr→zaa→Prop}
theorem zjb{j:Nat}{want:Bool}{τ:Fr}:zbr ops τ ⟨d,op,ty,pos,af,some (j,want)⟩=match(ops[j]?).bind (·.dst)with|none=>some false|some d=>zkk want (τ d):=rfl
theorem zqn{b:Bool}:zkk true (.d (.val (.bool b)))=some b:=by cases b<;>rfl
theorem zqo{b:Bool}:zkk false (.d (.val (.bool b)))=some (!b):=by cases b<;>rfl
theorem zqp{want:Bool}:zkk want (.d (.val undef))=some false:=rfl
theorem zjc(hk:kOf fr op=0):lays fr ⟨d,op,ty,pos,af,none⟩=false:=by simp[lays,hk]
def zt3(n:Nat):List (Nat × Nat)→Prop
 |[]=>True
 |p::l=>p.1≠n∧p.2≠n∧zt3 n l
theorem zc3(n:Nat):∀sh:List (Nat × Nat),zt3 n sh↔∀p∈sh,p.1≠n∧p.2≠n
 |[]=>by simp[zt3]
 |p::l=>by simp[zt3,zc3 n l,and_assoc]
def zzd(P:Program)(N r:Nat)(al:List Nat)(ρ:Operand→AV)(op:Op)(H:zaa)(sh:List (Nat × Nat))(KX:AV→zaa→List (Nat × Nat)→Prop):Prop:=
 H[N+r]? =some .free∧(∀p∈sh,p.1≠N+r∧p.2≠N+r)∧zka N al ρ op∧∃x H' sh',OpA P true (N+r) ρ op H sh x H' sh'∧KX x H' sh'
theorem zuy{y:Operand}:lays fr ⟨d,.move y,ty,pos,af,none⟩=false:=zjc rfl
theorem zuz{c a b:Operand}:lays fr ⟨d,.pick c a b,ty,pos,af,none⟩=false:=zjc rfl
theorem zu0{t:TypeId}{y:Operand}:lays fr ⟨d,.load t y,ty,pos,af,none⟩=false:=zjc rfl
theorem ji5{t:TypeId}{y z:Operand}:lays fr ⟨d,.indexAddr t y z,ty,pos,af,none⟩=false:=zjc rfl
theorem jcj{op:BinOp}{t t':TypeId}{y z:Operand}:lays fr ⟨d,.binOp op t y z t',ty,pos,af,none⟩=false:=zjc rfl
theorem jck{args:Array Operand}{ts:Array TypeId}:lays fr ⟨d,.call ⟨.builtin .len,args,ts⟩,ty,pos,af,none⟩=false:=zjc rfl
theorem zqq{f:Nat}{args:Array Operand}{ts:Array TypeId}:lays fr ⟨d,.call ⟨.value (.tmp f),args,ts⟩,ty,pos,af,none⟩=false:=zjc rfl
end
section
variable {P:Program} {τ:Fr} {H:zaa} {sh:List (Nat × Nat)} {N r:Nat} {al:List Nat} {ρ:Operand→AV} {KX:AV→zaa→List (Nat × Nat)→Prop} {K:AV→zaa→Prop} {t:TypeId}
theorem zdf(H:zaa)(o:AObj):(H++[AObj.free]).set H.length o=H++[o]:=by
 rw[List.set_append_right _ _ (Nat.le_refl _),Nat.sub_self];rfl
theorem jos{y:Operand}:(∃x H',OpA P false H.length ρ (.box t y) (H++[.free]) [] x H' []∧K x H')=∃cs,zb2 (ρ y)=some cs∧K (.op H.length 0) (H++[.cells cs]):=by
 refine propext ⟨?_,?_⟩
 ·rintro⟨x,H',⟨cs,h1,rfl,rfl,_⟩,h2⟩;rw[zdf]at h2;exact⟨cs,h1,h2⟩
 ·rintro⟨cs,h1,h2⟩;exact⟨_,_,⟨cs,h1,rfl,rfl,rfl⟩,by rw[zdf];exact h2⟩
theorem jot{y:Operand}:zzd P N r al ρ (.box t y) H sh KX=(H[N+r]? =some .free∧zt3 (N+r) sh∧∃cs,zb2 (ρ y)=some cs∧KX (.op (N+r) 0) (H.set (N+r) (.cells cs)) sh):=by
 refine propext ⟨?_,?_⟩
 ·rintro⟨h1,h2,_,x,H',sh',⟨cs,h3,rfl,rfl,rfl⟩,h4⟩;exact⟨h1,(zc3 _ _).2 h2,cs,h3,h4⟩
 ·rintro⟨h1,h2,cs,h3,h4⟩;exact⟨h1,(zc3 _ _).1 h2,trivial,_,_,_,⟨cs,h3,rfl,rfl,rfl⟩,h4⟩
theorem jex:(∃x H',OpA P false H.length ρ (.alloc t) (H++[.free]) [] x H' []∧K x H')=∃zs,zaO P t=some zs∧K (.op H.length 0) (H++[.cells (zs.map .d)]):=by
 refine propext ⟨?_,?_⟩
 ·rintro⟨x,H',⟨zs,h0,h1,rfl,rfl,_⟩,h2⟩;rw[zdf]at h2;exact⟨zs,by unfold zaO;rw[h0];simp only;rw[if_pos h1],h2⟩
 ·rintro⟨zs,h1,h2⟩;obtain⟨h3,h4⟩:=zqm h1;exact⟨_,_,⟨zs,h3,h4,rfl,rfl,rfl⟩,by rw[zdf];exact h2⟩
theorem jey:zzd P N r al ρ (.alloc t) H sh KX=(H[N+r]? =some .free∧zt3 (N+r) sh∧∃zs,zaO P t=some zs∧KX (.op (N+r) 0) (H.set (N+r) (.cells (zs.map .d))) sh):=by
 refine propext ⟨?_,?_⟩
 ·rintro⟨h1,h2,_,x,H',sh',⟨zs,h5,h3,rfl,rfl,rfl⟩,h4⟩;exact⟨h1,(zc3 _ _).2 h2,zs,by unfold zaO;rw[h5];simp only;rw[if_pos h3],h4⟩
 ·rintro⟨h1,h2,zs,h3,h4⟩;obtain⟨h5,h6⟩:=zqm h3;exact⟨h1,(zc3 _ _).1 h2,trivial,_,_,_,⟨zs,h5,h6,rfl,rfl,rfl⟩,h4⟩
def zzt(P:Program)(t:TypeId)(y z:AV)(KK:Nat→Nat→List AV→Prop):Prop:=∃(q:Nat × List D × Nat) (k1 k2:IntKind) (n m:Int),mkO P t=some q∧y= .d (.val (.int k1 n))∧z= .d (.val (.int k2 m))∧0≤n∧n≤m∧m≤maxLen∧q.2.2*m.toNat≤281474976710656∧KK q.1 n.toNat (zf2 n.toNat q.2.1)
theorem zld{dr:Bool}{nid:Nat}{y z:Operand}{x:AV}{H':zaa}{sh':List (Nat × Nat)}(h:zzt P t (ρ y) (ρ z) fun s n l=>(x= .os s nid 0 n∧H'=H.set nid (.cells l)∨∃ds:List D,l=ds.map .d∧ds.length=n*s∧x= .d (.fs ds n)∧H'=H.set nid .dead)∧sh'=sh):OpA P dr nid ρ (.makeSlice t y z) H sh x H' sh':=by
 obtain⟨⟨s,zs,bts⟩,k1,k2,n,m,hq,h2,h3,h4,h5,h6,h7,h8,h9⟩:=h
 obtain⟨e,he,hz,hby,hl,h0,h1⟩:=zd7 hq
 exact⟨e,s,zs,bts,k1,k2,n,m,he,hz,hl,h0,h1,hby,h2,h3,h4,h5,h6,h7,h8,h9⟩
theorem ji6{y z:Operand}(h:zzt P t (ρ y) (ρ z) fun s n l=>K (.os s H.length 0 n) (H++[.cells l])):∃x H',OpA P false H.length ρ (.makeSlice t y z) (H++[.free]) [] x H' []∧K x H':=by
 obtain⟨q,k1,k2,n,m,h1,h3,h4,h5,h6,h7,h8,h9⟩:=h
 exact⟨_,_,zld ⟨q,k1,k2,n,m,h1,h3,h4,h5,h6,h7,h8,.inl ⟨rfl,rfl⟩,rfl⟩,by rw[zdf];exact h9⟩
theorem jcl{y z:Operand}(h:H[N+r]? =some .free∧zt3 (N+r) sh∧zzt P t (ρ y) (ρ z) fun s n l=>KX (.os s (N+r) 0 n) (H.set (N+r) (.cells l)) sh):zzd P N r al ρ (.makeSlice t y z) H sh KX:=by
 obtain⟨e1,e2,q,k1,k2,n,m,h1,h3,h4,h5,h6,h7,h8,h9⟩:=h
 exact⟨e1,(zc3 _ _).1 e2,trivial,_,_,_,zld ⟨q,k1,k2,n,m,h1,h3,h4,h5,h6,h7,h8,.inl ⟨rfl,rfl⟩,rfl⟩,h9⟩
theorem jez{y z:Operand}(h:H[N+r]? =some .free∧zt3 (N+r) sh∧zzt P t (ρ y) (ρ z) fun s n l=>∃ds:List D,l=ds.map .d∧ds.length=n*s∧KX (.d (.fs ds n)) (H.set (N+r) .dead) sh):zzd P N r al ρ (.makeSlice t y z) H sh KX:=by
 obtain⟨e1,e2,q,k1,k2,n,m,h1,h3,h4,h5,h6,h7,h7b,ds,h8,h9,h10⟩:=h
 exact⟨e1,(zc3 _ _).1 e2,trivial,_,_,_,zld ⟨q,k1,k2,n,m,h1,h3,h4,h5,h6,h7,h7b,.inr ⟨ds,h8,h9,rfl,rfl⟩,rfl⟩,h10⟩
def BsK(P:Program)(t:TypeId)(len:Nat)(ps:List (Nat × AV))(KK:Nat→List AV→Prop):Prop:=∃q,mkO P t=some q∧len*q.1≤16777216∧∃cs,zib (fun i=>some (i*q.1,q.1)) (zf2 len q.2.1) ps=some cs∧KK q.1 cs
theorem zu1{dr:Bool}{nid n:Nat}{ps:Array (Nat × Operand)}{x:AV}{H':zaa}{sh':List (Nat × Nat)}(h:BsK P t n (ps.toList.map fun p=>(p.1,ρ p.2)) fun s l=>(x= .os s nid 0 n∧H'=H.set nid (.cells l)∨∃ds:List D,l=ds.map .d∧ds.length=n*s∧x= .d (.fs ds n)∧H'=H.set nid .dead)∧sh'=sh):OpA P dr nid ρ (.buildSlice t n ps) H sh x H' sh':=by
 obtain⟨⟨s,zs,bts⟩,hq,h2,cs,h3,h4⟩:=h
 obtain⟨e,he,hz,hby,hl,h0,h1⟩:=zd7 hq
 exact⟨e,s,zs,cs,he,hz,hl,h0,h1,h2,h3,h4⟩
theorem jsf{n:Nat}{ps:Array (Nat × Operand)}(h:BsK P t n (ps.toList.map fun p=>(p.1,ρ p.2)) fun s l=>K (.os s H.length 0 n) (H++[.cells l])):∃x H',OpA P false H.length ρ (.buildSlice t n ps) (H++[.free]) [] x H' []∧K x H':=by
 obtain⟨q,h1,h3,cs,h4,h5⟩:=h
 exact⟨_,_,zu1 ⟨q,h1,h3,cs,h4,.inl ⟨rfl,rfl⟩,rfl⟩,by rw[zdf];exact h5⟩
theorem jsg{n:Nat}{ps:Array (Nat × Operand)}(h:H[N+r]? =some .free∧zt3 (N+r) sh∧BsK P t n (ps.toList.map fun p=>(p.1,ρ p.2)) fun s l=>KX (.os s (N+r) 0 n) (H.set (N+r) (.cells l)) sh):zzd P N r al ρ (.buildSlice t n ps) H sh KX:=by
 obtain⟨e1,e2,q,h1,h3,cs,h4,h5⟩:=h
 exact⟨e1,(zc3 _ _).1 e2,trivial,_,_,_,zu1 ⟨q,h1,h3,cs,h4,.inl ⟨rfl,rfl⟩,rfl⟩,h5⟩
theorem jou{n:Nat}{ps:Array (Nat × Operand)}(h:H[N+r]? =some .free∧zt3 (N+r) sh∧BsK P t n (ps.toList.map fun p=>(p.1,ρ p.2)) fun s l=>∃ds:List D,l=ds.map .d∧ds.length=n*s∧KX (.d (.fs ds n)) (H.set (N+r) .dead) sh):zzd P N r al ρ (.buildSlice t n ps) H sh KX:=by
 obtain⟨e1,e2,q,h1,h3,cs,h4,ds,h5,h6,h7⟩:=h
 exact⟨e1,(zc3 _ _).1 e2,trivial,_,_,_,zu1 ⟨q,h1,h3,cs,h4,.inr ⟨ds,h5,h6,rfl,rfl⟩,rfl⟩,h7⟩
def jn0(P:Program)(t t':TypeId)(q:Nat × List D × Nat)(H:zaa)(k:Nat)(src:AV)(G:Nat→List AV→Prop):Prop:=∃m l,zsp P t t' q.2.1 q.2.2 H k src m l∧G m l
def jq5(P:Program)(t t':TypeId)(base src:AV)(H:zaa)(K:AV→zaa→Prop):Prop:=
 match base with
 | .os k id off n=>∃q,mkO P t=some q∧k=q.1∧∃cs,H[id]? =some (.cells cs)∧off+n*k=cs.length∧jn0 P t t' q H k src fun m l=>n+m≤9223372036854775807∧(n+m)*q.2.2≤140737488355328∧K (.os k H.length 0 (n+m)) (H.set id .dead++[.cells (cs.drop off++l)])
 | .d (.val (.slice none 0 0))=>∃q,mkO P t=some q∧jn0 P t t' q H q.1 src fun m l=>m≤9223372036854775807∧m*q.2.2≤140737488355328∧K (.os q.1 H.length 0 m) (H++[.cells l])
 |_=>False
def jsh(P:Program)(N r:Nat)(al:List Nat)(t t':TypeId)(base src:AV)(H:zaa)(sh:List (Nat × Nat))(KX:AV→zaa→List (Nat × Nat)→Prop):Prop:=
 H[N+r]? =some .free∧zt3 (N+r) sh∧zdq N al base=true∧zdq N al src=true∧match base with
 | .os k id off n=>∃q,mkO P t=some q∧k=q.1∧∃cs,H[id]? =some (.cells cs)∧off+n*k=cs.length∧(∀p∈sh,p.2≠id)∧jn0 P t t' q H k src fun m l=>n+m≤9223372036854775807∧(n+m)*q.2.2≤140737488355328∧KX (.os k (N+r) 0 (n+m)) (H.set (N+r) (.cells (cs.drop off++l))) (appSh sh id (N+r))
 | .d (.val (.slice none 0 0))=>∃q,mkO P t=some q∧jn0 P t t' q H q.1 src fun m l=>m≤9223372036854775807∧m*q.2.2≤140737488355328∧KX (.os q.1 (N+r) 0 m) (H.set (N+r) (.cells l)) sh
 |_=>False
theorem jov{s y:Operand}{t':TypeId}:jsh P N r al t t' (ρ s) (ρ y) H sh KX→zzd P N r al ρ (.call ⟨.builtin .append,#[s,y],#[t,t']⟩) H sh KX:=by
 rintro⟨h1,h2,hb1,hb2,h3⟩
 refine⟨h1,(zc3 _ _).1 h2,fun z hz=>?_,?_⟩
 ·simp only[List.mem_cons,List.not_mem_nil,or_false]at hz
  rcases hz with rfl|rfl
  ·exact hb1
  ·exact hb2
 ·split at h3
  ·rename_i k id off n e
   obtain⟨⟨s',zs,bts⟩,hq,rfl,cs,h4,h5,h6,m,l,h7,h8,h9,h10⟩:=h3
   obtain⟨e',he,hz,hby,hl,h0,h1'⟩:=zd7 hq
   exact⟨_,_,_,⟨e',_,zs,bts,m,l,he,hz,hl,hby,h7,by rw[e];exact⟨cs,rfl,h4,h5,by unfold maxLen;omega,h9,rfl,h6,rfl,rfl⟩⟩,h10⟩
  ·rename_i e
   obtain⟨⟨s',zs,bts⟩,hq,m,l,h7,h8,h9,h10⟩:=h3
   obtain⟨e',he,hz,hby,hl,h0,h1'⟩:=zd7 hq
   exact⟨_,_,_,⟨e',s',zs,bts,m,l,he,hz,hl,hby,h7,by rw[e];exact⟨by unfold maxLen;omega,h9,rfl,rfl,rfl⟩⟩,h10⟩
  ·exact h3.elim
theorem zqr{k m:Nat}{src:AV}{l:List AV}(h:SrcA H k src m l):SrcA (H++[.free]) k src m l:=by
 unfold SrcA at h ⊢
 split at h
 ·exact h
 ·obtain⟨h1,cs,h2,h3⟩:=h
  exact⟨h1,cs,by rw[List.getElem?_append_left (List.getElem?_eq_some_iff.1 h2).1];exact h2,h3⟩
 ·exact h
 ·exact h
theorem jow{s y:Operand}{t':TypeId}:jq5 P t t' (ρ s) (ρ y) H K→∃x H',OpA P false H.length ρ (.call ⟨.builtin .append,#[s,y],#[t,t']⟩) (H++[.free]) [] x H' []∧K x H':=by
 intro h3
 unfold jq5 at h3
 split at h3
 ·rename_i k id off n e
  obtain⟨⟨s',zs,bts⟩,hq,rfl,cs,h4,h5,m,l,h7,h8,h9,h10⟩:=h3
  obtain⟨e',he,hz,hby,hl,h0,h1'⟩:=zd7 hq
  have hlt:=(List.getElem?_eq_some_iff.1 h4).1
  refine⟨_,_,⟨e',_,zs,bts,m,l,he,hz,hl,hby,h7.imp_left fun⟨ht,hs⟩=>⟨ht,zqr hs⟩,by rw[e];exact⟨cs,rfl,by rw[List.getElem?_append_left hlt];exact h4,h5,by unfold maxLen;omega,h9,rfl,rfl,rfl,rfl⟩⟩,?_⟩
  rw[zdf,List.set_append_left _ _ hlt];exact h10
 ·rename_i e
  obtain⟨⟨s',zs,bts⟩,hq,m,l,h7,h8,h9,h10⟩:=h3
  obtain⟨e',he,hz,hby,hl,h0,h1'⟩:=zd7 hq
  refine⟨_,_,⟨e',s',zs,bts,m,l,he,hz,hl,hby,h7.imp_left fun⟨ht,hs⟩=>⟨ht,zqr hs⟩,by rw[e];exact⟨by unfold maxLen;omega,h9,rfl,rfl,rfl⟩⟩,?_⟩
  rw[zdf];exact h10
 ·exact h3.elim
variable {KA:AV→Prop} {cs:List AV}
theorem je0{N:Nat}{f:FuncId}{args:List AV}{ds:List D}{x:AV}(hp:zas P f ds x)(hd:AV.toD.toDs args=some ds)(hK:KA x):∃x,zso P N H (.d (.val (.func (.func f) #[] #[]))) args x∧KA x:=
 ⟨x,⟨f,[],[],ds,rfl,.inl ⟨.inl (by simpa using hd),hp⟩⟩,hK⟩
theorem zzu{N:Nat}{f:FuncId}{args:List AV}{ds:List D}{v:Value}(hp:zas P f ds (.d (.val v)))(hd:zc1 (zdr H N) 9 args=some ds)(hK:KA (.d (.val v))):∃x,zso P N H (.d (.val (.func (.func f) #[] #[]))) args x∧KA x:=
 ⟨_,⟨f,[],[],ds,rfl,.inl ⟨.inr ⟨rfl,by simpa using hd⟩,hp⟩⟩,hK⟩
end
/- Of no program: small equations of appends; loose ends of the run. -/
end
section
section
variable {P:Program} {H:zaa} {sh:List (Nat × Nat)} {N r:Nat} {al:List Nat} {t:TypeId} {src:AV} {K:AV→zaa→Prop} {KX:AV→zaa→List (Nat × Nat)→Prop}
end
end
end Go.Proofs.Ytfolbdkbpmgjgaa
