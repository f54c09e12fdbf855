/- Of no program: the run of a region that draws, operation by operation; the laying operations. -/
import Derived.Test.YtapjobndmmkanaaGreatA22
set_option linter.unusedVariables false
set_option linter.unusedSimpArgs false
namespace Go.Proofs.YtapjobndmmkanaaGreat
open Go Go.RowKit
section
section
variable {P:Program} {fr:List FuncId} {ops l:List Oper} {τ:Fr} {H:ak} {sh:List (Nat × Nat)} {N i r:Nat} {m:List (Nat × Nat)} {d:Option Tmp} {op:Op} {ty:TypeId} {pos:String} {af:Array Edge} {KD:Fr→ak→List (Nat × Nat)→Prop} {K:Fr→ak→Prop}
theorem TK{j:Nat}{want:Bool}{τ:Fr}:kl ops τ ⟨d,op,ty,pos,af,some (j,want)⟩=match(ops[j]?).bind (·.dst)with|none=>some false|some d=>Dy want (τ d):=rfl
theorem jbi{b:Bool}:Dy true (.d (.val (.bool b)))=some b:=by cases b<;>rfl
theorem jbj{b:Bool}:Dy false (.d (.val (.bool b)))=some (!b):=by cases b<;>rfl
theorem jbk{want:Bool}:Dy want (.d (.val undef))=some false:=rfl
theorem BY(hk:fW fr op=0):bp fr ⟨d,op,ty,pos,af,none⟩=false:=by simp[bp,hk]
def wG(n:Nat):List (Nat × Nat)→Prop
 |[]=>True
 |p::l=>p.1≠n∧p.2≠n∧wG n l
theorem xl(n:Nat):∀sh:List (Nat × Nat),wG n sh↔∀p∈sh,p.1≠n∧p.2≠n
 |[]=>by simp[wG]
 |p::l=>by simp[wG,xl n l,and_assoc]
def yN(P:Program)(N r:Nat)(al:List Nat)(ρ:Operand→AV)(op:Op)(H:ak)(sh:List (Nat × Nat))(KX:AV→ak→List (Nat × Nat)→Prop):Prop:=
 H[N+r]? =some .free∧(∀p∈sh,p.1≠N+r∧p.2≠N+r)∧y4 N al ρ op∧∃x H' sh',ka P true (N+r) ρ op H sh x H' sh'∧KX x H' sh'
theorem jib{y:Operand}:bp fr ⟨d,.move y,ty,pos,af,none⟩=false:=BY rfl
theorem jic{c a b:Operand}:bp fr ⟨d,.pick c a b,ty,pos,af,none⟩=false:=BY rfl
theorem jid{t:TypeId}{y:Operand}:bp fr ⟨d,.load t y,ty,pos,af,none⟩=false:=BY rfl
theorem jzq{t:TypeId}{y:Operand}{f:Nat}:bp fr ⟨d,.fieldAddr t y f,ty,pos,af,none⟩=false:=BY rfl
theorem jzr{t:TypeId}{y z:Operand}:bp fr ⟨d,.indexAddr t y z,ty,pos,af,none⟩=false:=BY rfl
theorem jq3{op:BinOp}{t t':TypeId}{y z:Operand}:bp fr ⟨d,.binOp op t y z t',ty,pos,af,none⟩=false:=BY rfl
theorem jie{s t:TypeId}{y:Operand}:bp fr ⟨d,.convert s t y,ty,pos,af,none⟩=false:=BY rfl
end
section
variable {P:Program} {τ:Fr} {H:ak} {sh:List (Nat × Nat)} {N r:Nat} {al:List Nat} {ρ:Operand→AV} {KX:AV→ak→List (Nat × Nat)→Prop} {K:AV→ak→Prop} {t:TypeId}
theorem yx(H:ak)(o:bq):(H++[bq.free]).set H.length o=H++[o]:=by
 rw[List.set_append_right _ _ (bm _),Nat.sub_self];rfl
theorem yjm{y:Operand}:(∃x H',ka P false H.length ρ (.box t y) (H++[.free]) [] x H' []∧K x H')=∃cs,lS (ρ y)=some cs∧K (.op H.length 0) (H++[.cells cs]):=by
 refine propext ⟨?_,?_⟩
 ·rintro⟨x,H',⟨cs,h1,rfl,rfl,_⟩,h2⟩;rw[yx]at h2;exact⟨cs,h1,h2⟩
 ·rintro⟨cs,h1,h2⟩;exact⟨_,_,⟨cs,h1,rfl,rfl,rfl⟩,by rw[yx];exact h2⟩
theorem yjn{y:Operand}:yN P N r al ρ (.box t y) H sh KX=(H[N+r]? =some .free∧wG (N+r) sh∧∃cs,lS (ρ y)=some cs∧KX (.op (N+r) 0) (H.set (N+r) (.cells cs)) sh):=by
 refine propext ⟨?_,?_⟩
 ·rintro⟨h1,h2,_,x,H',sh',⟨cs,h3,rfl,rfl,rfl⟩,h4⟩;exact⟨h1,(xl _ _).2 h2,cs,h3,h4⟩
 ·rintro⟨h1,h2,cs,h3,h4⟩;exact⟨h1,(xl _ _).1 h2,trivial,_,_,_,⟨cs,h3,rfl,rfl,rfl⟩,h4⟩
theorem juv:(∃x H',ka P false H.length ρ (.alloc t) (H++[.free]) [] x H' []∧K x H')=∃zs,jO P t=some zs∧K (.op H.length 0) (H++[.cells (zs.map .d)]):=by
 refine propext ⟨?_,?_⟩
 ·rintro⟨x,H',⟨zs,h0,h1,rfl,rfl,_⟩,h2⟩;rw[yx]at h2;exact⟨zs,by unfold jO;rw[h0];simp only;rw[if_pos h1],h2⟩
 ·rintro⟨zs,h1,h2⟩;obtain⟨h3,h4⟩:=jbg h1;exact⟨_,_,⟨zs,h3,h4,rfl,rfl,rfl⟩,by rw[yx];exact h2⟩
theorem juw:yN P N r al ρ (.alloc t) H sh KX=(H[N+r]? =some .free∧wG (N+r) sh∧∃zs,jO P t=some zs∧KX (.op (N+r) 0) (H.set (N+r) (.cells (zs.map .d))) sh):=by
 refine propext ⟨?_,?_⟩
 ·rintro⟨h1,h2,_,x,H',sh',⟨zs,h5,h3,rfl,rfl,rfl⟩,h4⟩;exact⟨h1,(xl _ _).2 h2,zs,by unfold jO;rw[h5];simp only;rw[if_pos h3],h4⟩
 ·rintro⟨h1,h2,zs,h3,h4⟩;obtain⟨h5,h6⟩:=jbg h3;exact⟨h1,(xl _ _).1 h2,trivial,_,_,_,⟨zs,h5,h6,rfl,rfl,rfl⟩,h4⟩
def Lv(P:Program)(t:TypeId)(y z:AV)(KK:Nat→Nat→List AV→Prop):Prop:=∃(q:Nat × List D × Nat) (k1 k2:IntKind) (n m:Int),nG P t=some q∧y= .d (.val (.int k1 n))∧z= .d (.val (.int k2 m))∧0≤n∧n≤m∧m≤maxLen∧q.2.2*m.toNat≤281474976710656∧KK q.1 n.toNat (kx n.toNat q.2.1)
theorem MU{dr:Bool}{iA:Nat}{y z:Operand}{x:AV}{H':ak}{sh':List (Nat × Nat)}(h:Lv P t (ρ y) (ρ z) fun s n l=>(x= .os s iA 0 n∧H'=H.set iA (.cells l)∨∃ds:List D,l=ds.map .d∧ds.length=n*s∧x= .d (.fs ds n)∧H'=H.set iA .dead)∧sh'=sh):ka P dr iA ρ (.makeSlice t y z) H sh x H' sh':=by
 obtain⟨⟨s,zs,bts⟩,k1,k2,n,m,hq,h2,h3,h4,h5,h6,h7,h8,h9⟩:=h
 obtain⟨e,he,hz,ef,hl,h0,h1⟩:=AB hq
 exact⟨e,s,zs,bts,k1,k2,n,m,he,hz,hl,h0,h1,ef,h2,h3,h4,h5,h6,h7,h8,h9⟩
theorem jzs{y z:Operand}(h:Lv P t (ρ y) (ρ z) fun s n l=>K (.os s H.length 0 n) (H++[.cells l])):∃x H',ka P false H.length ρ (.makeSlice t y z) (H++[.free]) [] x H' []∧K x H':=by
 obtain⟨q,k1,k2,n,m,h1,h3,h4,h5,h6,h7,h8,h9⟩:=h
 exact⟨_,_,MU ⟨q,k1,k2,n,m,h1,h3,h4,h5,h6,h7,h8,.inl ⟨rfl,rfl⟩,rfl⟩,by rw[yx];exact h9⟩
theorem jq4{y z:Operand}(h:H[N+r]? =some .free∧wG (N+r) sh∧Lv P t (ρ y) (ρ z) fun s n l=>KX (.os s (N+r) 0 n) (H.set (N+r) (.cells l)) sh):yN P N r al ρ (.makeSlice t y z) H sh KX:=by
 obtain⟨e1,e2,q,k1,k2,n,m,h1,h3,h4,h5,h6,h7,h8,h9⟩:=h
 exact⟨e1,(xl _ _).1 e2,trivial,_,_,_,MU ⟨q,k1,k2,n,m,h1,h3,h4,h5,h6,h7,h8,.inl ⟨rfl,rfl⟩,rfl⟩,h9⟩
theorem jux{y z:Operand}(h:H[N+r]? =some .free∧wG (N+r) sh∧Lv P t (ρ y) (ρ z) fun s n l=>∃ds:List D,l=ds.map .d∧ds.length=n*s∧KX (.d (.fs ds n)) (H.set (N+r) .dead) sh):yN P N r al ρ (.makeSlice t y z) H sh KX:=by
 obtain⟨e1,e2,q,k1,k2,n,m,h1,h3,h4,h5,h6,h7,h7b,ds,h8,h9,zZ⟩:=h
 exact⟨e1,(xl _ _).1 e2,trivial,_,_,_,MU ⟨q,k1,k2,n,m,h1,h3,h4,h5,h6,h7,h7b,.inr ⟨ds,h8,h9,rfl,rfl⟩,rfl⟩,zZ⟩
def Mi(P:Program)(t:TypeId)(len:Nat)(ps:List (Nat × AV))(KK:Nat→List AV→Prop):Prop:=∃q,nG P t=some q∧len*q.1≤16777216∧∃cs,vJ (fun i=>some (i*q.1,q.1)) (kx len q.2.1) ps=some cs∧KK q.1 cs
theorem P6{dr:Bool}{iA n:Nat}{ps:Array (Nat × Operand)}{x:AV}{H':ak}{sh':List (Nat × Nat)}(h:Mi P t n (ps.toList.map fun p=>(p.1,ρ p.2)) fun s l=>(x= .os s iA 0 n∧H'=H.set iA (.cells l)∨∃ds:List D,l=ds.map .d∧ds.length=n*s∧x= .d (.fs ds n)∧H'=H.set iA .dead)∧sh'=sh):ka P dr iA ρ (.buildSlice t n ps) H sh x H' sh':=by
 obtain⟨⟨s,zs,bts⟩,hq,h2,cs,h3,h4⟩:=h
 obtain⟨e,he,hz,ef,hl,h0,h1⟩:=AB hq
 exact⟨e,s,zs,cs,he,hz,hl,h0,h1,h2,h3,h4⟩
theorem yo8{n:Nat}{ps:Array (Nat × Operand)}(h:Mi P t n (ps.toList.map fun p=>(p.1,ρ p.2)) fun s l=>K (.os s H.length 0 n) (H++[.cells l])):∃x H',ka P false H.length ρ (.buildSlice t n ps) (H++[.free]) [] x H' []∧K x H':=by
 obtain⟨q,h1,h3,cs,h4,h5⟩:=h
 exact⟨_,_,P6 ⟨q,h1,h3,cs,h4,.inl ⟨rfl,rfl⟩,rfl⟩,by rw[yx];exact h5⟩
theorem yo9{n:Nat}{ps:Array (Nat × Operand)}(h:H[N+r]? =some .free∧wG (N+r) sh∧Mi P t n (ps.toList.map fun p=>(p.1,ρ p.2)) fun s l=>KX (.os s (N+r) 0 n) (H.set (N+r) (.cells l)) sh):yN P N r al ρ (.buildSlice t n ps) H sh KX:=by
 obtain⟨e1,e2,q,h1,h3,cs,h4,h5⟩:=h
 exact⟨e1,(xl _ _).1 e2,trivial,_,_,_,P6 ⟨q,h1,h3,cs,h4,.inl ⟨rfl,rfl⟩,rfl⟩,h5⟩
theorem yjo{n:Nat}{ps:Array (Nat × Operand)}(h:H[N+r]? =some .free∧wG (N+r) sh∧Mi P t n (ps.toList.map fun p=>(p.1,ρ p.2)) fun s l=>∃ds:List D,l=ds.map .d∧ds.length=n*s∧KX (.d (.fs ds n)) (H.set (N+r) .dead) sh):yN P N r al ρ (.buildSlice t n ps) H sh KX:=by
 obtain⟨e1,e2,q,h1,h3,cs,h4,ds,h5,h6,h7⟩:=h
 exact⟨e1,(xl _ _).1 e2,trivial,_,_,_,P6 ⟨q,h1,h3,cs,h4,.inr ⟨ds,h5,h6,rfl,rfl⟩,rfl⟩,h7⟩
def KB(P:Program)(t t':TypeId)(q:Nat × List D × Nat)(H:ak)(k:Nat)(src:AV)(G:Nat→List AV→Prop):Prop:=∃m l,EZ P t t' q.2.1 q.2.2 H k src m l∧G m l
def Xo(P:Program)(t t':TypeId)(base src:AV)(H:ak)(K:AV→ak→Prop):Prop:=
 match base with
 | .os k id off n=>∃q,nG P t=some q∧k=q.1∧∃cs,H[id]? =some (.cells cs)∧off+n*k=cs.length∧KB P t t' q H k src fun m l=>n+m≤9223372036854775807∧(n+m)*q.2.2≤140737488355328∧K (.os k H.length 0 (n+m)) (H.set id .dead++[.cells (cs.drop off++l)])
 | .d (.val (.slice none 0 0))=>∃q,nG P t=some q∧KB P t t' q H q.1 src fun m l=>m≤9223372036854775807∧m*q.2.2≤140737488355328∧K (.os q.1 H.length 0 m) (H++[.cells l])
 |_=>False
def ypa(P:Program)(N r:Nat)(al:List Nat)(t t':TypeId)(base src:AV)(H:ak)(sh:List (Nat × Nat))(KX:AV→ak→List (Nat × Nat)→Prop):Prop:=
 H[N+r]? =some .free∧wG (N+r) sh∧tU N al base=true∧tU N al src=true∧match base with
 | .os k id off n=>∃q,nG P t=some q∧k=q.1∧∃cs,H[id]? =some (.cells cs)∧off+n*k=cs.length∧(∀p∈sh,p.2≠id)∧KB P t t' q H k src fun m l=>n+m≤9223372036854775807∧(n+m)*q.2.2≤140737488355328∧KX (.os k (N+r) 0 (n+m)) (H.set (N+r) (.cells (cs.drop off++l))) (fX sh id (N+r))
 | .d (.val (.slice none 0 0))=>∃q,nG P t=some q∧KB P t t' q H q.1 src fun m l=>m≤9223372036854775807∧m*q.2.2≤140737488355328∧KX (.os q.1 (N+r) 0 m) (H.set (N+r) (.cells l)) sh
 |_=>False
theorem yjp{s y:Operand}{t':TypeId}:ypa P N r al t t' (ρ s) (ρ y) H sh KX→yN P N r al ρ (.call ⟨.builtin .append,#[s,y],#[t,t']⟩) H sh KX:=by
 rintro⟨h1,h2,Fb,It,h3⟩
 refine⟨h1,(xl _ _).1 h2,fun z hz=>?_,?_⟩
 ·simp only[List.mem_cons,List.not_mem_nil,or_false]at hz
  rcases hz with rfl|rfl
  ·exact Fb
  ·exact It
 ·split at h3
  ·rename_i k id off n e
   obtain⟨⟨s',zs,bts⟩,hq,rfl,cs,h4,h5,h6,m,l,h7,h8,h9,zZ⟩:=h3
   obtain⟨e',he,hz,ef,hl,h0,IH⟩:=AB hq
   exact⟨_,_,_,⟨e',_,zs,bts,m,l,he,hz,hl,ef,h7,by rw[e];exact⟨cs,rfl,h4,h5,by unfold maxLen;omega,h9,rfl,h6,rfl,rfl⟩⟩,zZ⟩
  ·rename_i e
   obtain⟨⟨s',zs,bts⟩,hq,m,l,h7,h8,h9,zZ⟩:=h3
   obtain⟨e',he,hz,ef,hl,h0,IH⟩:=AB hq
   exact⟨_,_,_,⟨e',s',zs,bts,m,l,he,hz,hl,ef,h7,by rw[e];exact⟨by unfold maxLen;omega,h9,rfl,rfl,rfl⟩⟩,zZ⟩
  ·exact h3.elim
theorem jbl{k m:Nat}{src:AV}{l:List AV}(h:pJ H k src m l):pJ (H++[.free]) k src m l:=by
 unfold pJ at h ⊢
 split at h
 ·exact h
 ·obtain⟨h1,cs,h2,h3⟩:=h
  exact⟨h1,cs,by rw[iI (dX.1 h2).1];exact h2,h3⟩
 ·exact h
 ·exact h
theorem yjq{s y:Operand}{t':TypeId}:Xo P t t' (ρ s) (ρ y) H K→∃x H',ka P false H.length ρ (.call ⟨.builtin .append,#[s,y],#[t,t']⟩) (H++[.free]) [] x H' []∧K x H':=by
 intro h3
 unfold Xo at h3
 split at h3
 ·rename_i k id off n e
  obtain⟨⟨s',zs,bts⟩,hq,rfl,cs,h4,h5,m,l,h7,h8,h9,zZ⟩:=h3
  obtain⟨e',he,hz,ef,hl,h0,IH⟩:=AB hq
  have aA:=(dX.1 h4).1
  refine⟨_,_,⟨e',_,zs,bts,m,l,he,hz,hl,ef,h7.imp_left fun⟨ht,hs⟩=>⟨ht,jbl hs⟩,by rw[e];exact⟨cs,rfl,by rw[iI aA];exact h4,h5,by unfold maxLen;omega,h9,rfl,rfl,rfl,rfl⟩⟩,?_⟩
  rw[yx,List.set_append_left _ _ aA];exact zZ
 ·rename_i e
  obtain⟨⟨s',zs,bts⟩,hq,m,l,h7,h8,h9,zZ⟩:=h3
  obtain⟨e',he,hz,ef,hl,h0,IH⟩:=AB hq
  refine⟨_,_,⟨e',s',zs,bts,m,l,he,hz,hl,ef,h7.imp_left fun⟨ht,hs⟩=>⟨ht,jbl hs⟩,by rw[e];exact⟨by unfold maxLen;omega,h9,rfl,rfl,rfl⟩⟩,?_⟩
  rw[yx];exact zZ
 ·exact h3.elim
variable {KA:AV→Prop} {cs:List AV}
theorem jig{N:Nat}{f:FuncId}{args:List AV}{ds:List D}{x:AV}(hp:cC P f ds x)(hd:AV.lT.iO args=some ds)(hK:KA x):∃x,BP P N H (.d (.val (.func (.func f) #[] #[]))) args x∧KA x:=
 ⟨x,⟨f,[],[],ds,rfl,.inl ⟨.inl (by simpa using hd),hp⟩⟩,hK⟩
theorem jnw{N:Nat}{f:FuncId}{args:List AV}{ds:List D}{v:Value}(hp:cC P f ds (.d (.val v)))(hd:mo (lE H N) 9 args=some ds)(hK:KA (.d (.val v))):∃x,BP P N H (.d (.val (.func (.func f) #[] #[]))) args x∧KA x:=
 ⟨_,⟨f,[],[],ds,rfl,.inl ⟨.inr ⟨rfl,by simpa using hd⟩,hp⟩⟩,hK⟩
theorem jnx{N:Nat}{f:FuncId}{args:List AV}{ds:List D}{x:AV}(hp:w9 P f ds x)(hd:mo (lE H N) 9 args=some ds)(hK:KA x):∃x,BP P N H (.d (.val (.func (.func f) #[] #[]))) args x∧KA x:=
 ⟨_,⟨f,[],[],ds,rfl,.inr ⟨by simpa using hd,hp⟩⟩,hK⟩
end
end
section
section
variable {P:Program} {H:ak} {sh:List (Nat × Nat)} {N r:Nat} {al:List Nat} {t:TypeId} {src:AV} {K:AV→ak→Prop} {KX:AV→ak→List (Nat × Nat)→Prop}
end
end
end Go.Proofs.YtapjobndmmkanaaGreat
