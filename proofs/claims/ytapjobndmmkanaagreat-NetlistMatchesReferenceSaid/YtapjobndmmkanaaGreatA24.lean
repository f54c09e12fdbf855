/- Of no program: the run of a region that draws, operation by operation; the laying operations. -/
import Derived.Test.YtapjobndmmkanaaGreatA22
set_option linter.unusedVariables false
set_option linter.unusedSimpArgs false
namespace Go.Proofs.YtapjobndmmkanaaGreat
open Go Go.RowKit
section
section
variable {P:Program} {fr:List FuncId} {ops l:List Oper} {τ:Fr} {H:av} {sh:List (Nat × Nat)} {N i r:Nat} {m:List (Nat × Nat)} {d:Option Tmp} {op:Op} {ty:TypeId} {pos:String} {af:Array Edge} {KD:Fr→av→List (Nat × Nat)→Prop} {K:Fr→av→Prop}
theorem SV{j:Nat}{want:Bool}{τ:Fr}:lO ops τ ⟨d,op,ty,pos,af,some (j,want)⟩=match(ops[j]?).bind (·.dst)with|none=>some false|some d=>Db want (τ d):=rfl
theorem Rk{b:Bool}:Db true (.d (.val (.bool b)))=some b:=by cases b<;>rfl
theorem Rj{b:Bool}:Db false (.d (.val (.bool b)))=some (!b):=by cases b<;>rfl
theorem Ri{want:Bool}:Db want (.d (.val undef))=some false:=rfl
theorem Aa(hk:gx fr op=0):bI fr ⟨d,op,ty,pos,af,none⟩=false:=by simp[bI,hk]
def vq(n:Nat):List (Nat × Nat)→Prop
 |[]=>True
 |p::l=>p.1≠n∧p.2≠n∧vq n l
theorem vR(n:Nat):∀sh:List (Nat × Nat),vq n sh↔∀p∈sh,p.1≠n∧p.2≠n
 |[]=>by simp[vq]
 |p::l=>by simp[vq,vR n l,and_assoc]
def yX(P:Program)(N r:Nat)(al:List Nat)(ρ:Operand→AV)(op:Op)(H:av)(sh:List (Nat × Nat))(KX:AV→av→List (Nat × Nat)→Prop):Prop:=
 H[N+r]? =some .free∧(∀p∈sh,p.1≠N+r∧p.2≠N+r)∧yq N al ρ op∧∃x H' sh',kI P true (N+r) ρ op H sh x H' sh'∧KX x H' sh'
theorem jfx{y:Operand}:bI fr ⟨d,.move y,ty,pos,af,none⟩=false:=Aa rfl
theorem jfy{c a b:Operand}:bI fr ⟨d,.pick c a b,ty,pos,af,none⟩=false:=Aa rfl
theorem jfz{t:TypeId}{y:Operand}:bI fr ⟨d,.load t y,ty,pos,af,none⟩=false:=Aa rfl
theorem Ze{t:TypeId}{y:Operand}{f:Nat}:bI fr ⟨d,.fieldAddr t y f,ty,pos,af,none⟩=false:=Aa rfl
theorem Zd{t:TypeId}{y z:Operand}:bI fr ⟨d,.indexAddr t y z,ty,pos,af,none⟩=false:=Aa rfl
theorem jnv{op:BinOp}{t t':TypeId}{y z:Operand}:bI fr ⟨d,.binOp op t y z t',ty,pos,af,none⟩=false:=Aa rfl
theorem Zc{op:UnOp}{t:TypeId}{y:Operand}:bI fr ⟨d,.unOp op t y,ty,pos,af,none⟩=false:=Aa rfl
theorem Rh{f:FuncId}{args:Array Operand}{ts:Array TypeId}:bI [] ⟨d,.call ⟨.value (.func f),args,ts⟩,ty,pos,af,none⟩=false:=Aa rfl
end
section
variable {P:Program} {τ:Fr} {H:av} {sh:List (Nat × Nat)} {N r:Nat} {al:List Nat} {ρ:Operand→AV} {KX:AV→av→List (Nat × Nat)→Prop} {K:AV→av→Prop} {t:TypeId}
theorem xM(H:av)(o:bB):(H++[bB.free]).set H.length o=H++[o]:=by
 rw[List.set_append_right _ _ (bJ _),Nat.sub_self];rfl
theorem yef{y:Operand}:(∃x H',kI P false H.length ρ (.box t y) (H++[.free]) [] x H' []∧K x H')=∃cs,lQ (ρ y)=some cs∧K (.op H.length 0) (H++[.cells cs]):=by
 refine propext ⟨?_,?_⟩
 ·rintro⟨x,H',⟨cs,h1,rfl,rfl,_⟩,h2⟩;rw[xM]at h2;exact⟨cs,h1,h2⟩
 ·rintro⟨cs,h1,h2⟩;exact⟨_,_,⟨cs,h1,rfl,rfl,rfl⟩,by rw[xM];exact h2⟩
theorem yeg{y:Operand}:yX P N r al ρ (.box t y) H sh KX=(H[N+r]? =some .free∧vq (N+r) sh∧∃cs,lQ (ρ y)=some cs∧KX (.op (N+r) 0) (H.set (N+r) (.cells cs)) sh):=by
 refine propext ⟨?_,?_⟩
 ·rintro⟨h1,h2,_,x,H',sh',⟨cs,h3,rfl,rfl,rfl⟩,h4⟩;exact⟨h1,(vR _ _).2 h2,cs,h3,h4⟩
 ·rintro⟨h1,h2,cs,h3,h4⟩;exact⟨h1,(vR _ _).1 h2,trivial,_,_,_,⟨cs,h3,rfl,rfl,rfl⟩,h4⟩
theorem jrh:(∃x H',kI P false H.length ρ (.alloc t) (H++[.free]) [] x H' []∧K x H')=∃zs,j8 P t=some zs∧K (.op H.length 0) (H++[.cells (zs.map .d)]):=by
 refine propext ⟨?_,?_⟩
 ·rintro⟨x,H',⟨zs,h0,h1,rfl,rfl,_⟩,h2⟩;rw[xM]at h2;exact⟨zs,by unfold j8;rw[h0];simp only;rw[if_pos h1],h2⟩
 ·rintro⟨zs,h1,h2⟩;obtain⟨h3,h4⟩:=QZ h1;exact⟨_,_,⟨zs,h3,h4,rfl,rfl,rfl⟩,by rw[xM];exact h2⟩
theorem jri:yX P N r al ρ (.alloc t) H sh KX=(H[N+r]? =some .free∧vq (N+r) sh∧∃zs,j8 P t=some zs∧KX (.op (N+r) 0) (H.set (N+r) (.cells (zs.map .d))) sh):=by
 refine propext ⟨?_,?_⟩
 ·rintro⟨h1,h2,_,x,H',sh',⟨zs,h5,h3,rfl,rfl,rfl⟩,h4⟩;exact⟨h1,(vR _ _).2 h2,zs,by unfold j8;rw[h5];simp only;rw[if_pos h3],h4⟩
 ·rintro⟨h1,h2,zs,h3,h4⟩;obtain⟨h5,h6⟩:=QZ h3;exact⟨h1,(vR _ _).1 h2,trivial,_,_,_,⟨zs,h5,h6,rfl,rfl,rfl⟩,h4⟩
def Kw(P:Program)(t:TypeId)(y z:AV)(KK:Nat→Nat→List AV→Prop):Prop:=∃(q:Nat × List D × Nat) (k1 k2:IntKind) (n m:Int),ot P t=some q∧y= .d (.val (.int k1 n))∧z= .d (.val (.int k2 m))∧0≤n∧n≤m∧m≤maxLen∧q.2.2*m.toNat≤281474976710656∧KK q.1 n.toNat (kl n.toNat q.2.1)
theorem Mc{dr:Bool}{iI:Nat}{y z:Operand}{x:AV}{H':av}{sh':List (Nat × Nat)}(h:Kw P t (ρ y) (ρ z) fun s n l=>(x= .os s iI 0 n∧H'=H.set iI (.cells l)∨∃ds:List D,l=ds.map .d∧ds.length=n*s∧x= .d (.fs ds n)∧H'=H.set iI .dead)∧sh'=sh):kI P dr iI ρ (.makeSlice t y z) H sh x H' sh':=by
 obtain⟨⟨s,zs,bts⟩,k1,k2,n,m,hq,h2,h3,h4,h5,h6,h7,h8,h9⟩:=h
 obtain⟨e,he,hz,eI,hl,h0,h1⟩:=Aj hq
 exact⟨e,s,zs,bts,k1,k2,n,m,he,hz,hl,h0,h1,eI,h2,h3,h4,h5,h6,h7,h8,h9⟩
theorem jv0{y z:Operand}(h:Kw P t (ρ y) (ρ z) fun s n l=>K (.os s H.length 0 n) (H++[.cells l])):∃x H',kI P false H.length ρ (.makeSlice t y z) (H++[.free]) [] x H' []∧K x H':=by
 obtain⟨q,k1,k2,n,m,h1,h3,h4,h5,h6,h7,h8,h9⟩:=h
 exact⟨_,_,Mc ⟨q,k1,k2,n,m,h1,h3,h4,h5,h6,h7,h8,.inl ⟨rfl,rfl⟩,rfl⟩,by rw[xM];exact h9⟩
theorem jv1{y z:Operand}(h:H[N+r]? =some .free∧vq (N+r) sh∧Kw P t (ρ y) (ρ z) fun s n l=>KX (.os s (N+r) 0 n) (H.set (N+r) (.cells l)) sh):yX P N r al ρ (.makeSlice t y z) H sh KX:=by
 obtain⟨e1,e2,q,k1,k2,n,m,h1,h3,h4,h5,h6,h7,h8,h9⟩:=h
 exact⟨e1,(vR _ _).1 e2,trivial,_,_,_,Mc ⟨q,k1,k2,n,m,h1,h3,h4,h5,h6,h7,h8,.inl ⟨rfl,rfl⟩,rfl⟩,h9⟩
theorem jrj{y z:Operand}(h:H[N+r]? =some .free∧vq (N+r) sh∧Kw P t (ρ y) (ρ z) fun s n l=>∃ds:List D,l=ds.map .d∧ds.length=n*s∧KX (.d (.fs ds n)) (H.set (N+r) .dead) sh):yX P N r al ρ (.makeSlice t y z) H sh KX:=by
 obtain⟨e1,e2,q,k1,k2,n,m,h1,h3,h4,h5,h6,h7,h7b,ds,h8,h9,zx⟩:=h
 exact⟨e1,(vR _ _).1 e2,trivial,_,_,_,Mc ⟨q,k1,k2,n,m,h1,h3,h4,h5,h6,h7,h7b,.inr ⟨ds,h8,h9,rfl,rfl⟩,rfl⟩,zx⟩
def Lq(P:Program)(t:TypeId)(len:Nat)(ps:List (Nat × AV))(KK:Nat→List AV→Prop):Prop:=∃q,ot P t=some q∧len*q.1≤16777216∧∃cs,u3 (fun i=>some (i*q.1,q.1)) (kl len q.2.1) ps=some cs∧KK q.1 cs
theorem O3{dr:Bool}{iI n:Nat}{ps:Array (Nat × Operand)}{x:AV}{H':av}{sh':List (Nat × Nat)}(h:Lq P t n (ps.toList.map fun p=>(p.1,ρ p.2)) fun s l=>(x= .os s iI 0 n∧H'=H.set iI (.cells l)∨∃ds:List D,l=ds.map .d∧ds.length=n*s∧x= .d (.fs ds n)∧H'=H.set iI .dead)∧sh'=sh):kI P dr iI ρ (.buildSlice t n ps) H sh x H' sh':=by
 obtain⟨⟨s,zs,bts⟩,hq,h2,cs,h3,h4⟩:=h
 obtain⟨e,he,hz,eI,hl,h0,h1⟩:=Aj hq
 exact⟨e,s,zs,cs,he,hz,hl,h0,h1,h2,h3,h4⟩
theorem yjl{n:Nat}{ps:Array (Nat × Operand)}(h:Lq P t n (ps.toList.map fun p=>(p.1,ρ p.2)) fun s l=>K (.os s H.length 0 n) (H++[.cells l])):∃x H',kI P false H.length ρ (.buildSlice t n ps) (H++[.free]) [] x H' []∧K x H':=by
 obtain⟨q,h1,h3,cs,h4,h5⟩:=h
 exact⟨_,_,O3 ⟨q,h1,h3,cs,h4,.inl ⟨rfl,rfl⟩,rfl⟩,by rw[xM];exact h5⟩
theorem yjm{n:Nat}{ps:Array (Nat × Operand)}(h:H[N+r]? =some .free∧vq (N+r) sh∧Lq P t n (ps.toList.map fun p=>(p.1,ρ p.2)) fun s l=>KX (.os s (N+r) 0 n) (H.set (N+r) (.cells l)) sh):yX P N r al ρ (.buildSlice t n ps) H sh KX:=by
 obtain⟨e1,e2,q,h1,h3,cs,h4,h5⟩:=h
 exact⟨e1,(vR _ _).1 e2,trivial,_,_,_,O3 ⟨q,h1,h3,cs,h4,.inl ⟨rfl,rfl⟩,rfl⟩,h5⟩
theorem yeh{n:Nat}{ps:Array (Nat × Operand)}(h:H[N+r]? =some .free∧vq (N+r) sh∧Lq P t n (ps.toList.map fun p=>(p.1,ρ p.2)) fun s l=>∃ds:List D,l=ds.map .d∧ds.length=n*s∧KX (.d (.fs ds n)) (H.set (N+r) .dead) sh):yX P N r al ρ (.buildSlice t n ps) H sh KX:=by
 obtain⟨e1,e2,q,h1,h3,cs,h4,ds,h5,h6,h7⟩:=h
 exact⟨e1,(vR _ _).1 e2,trivial,_,_,_,O3 ⟨q,h1,h3,cs,h4,.inr ⟨ds,h5,h6,rfl,rfl⟩,rfl⟩,h7⟩
def JM(P:Program)(t t':TypeId)(q:Nat × List D × Nat)(H:av)(k:Nat)(src:AV)(G:Nat→List AV→Prop):Prop:=∃m l,Eh P t t' q.2.1 q.2.2 H k src m l∧G m l
def WB(P:Program)(t t':TypeId)(base src:AV)(H:av)(K:AV→av→Prop):Prop:=
 match base with
 | .os k id off n=>∃q,ot P t=some q∧k=q.1∧∃cs,H[id]? =some (.cells cs)∧off+n*k=cs.length∧JM P t t' q H k src fun m l=>n+m≤9223372036854775807∧(n+m)*q.2.2≤140737488355328∧K (.os k H.length 0 (n+m)) (H.set id .dead++[.cells (cs.drop off++l)])
 | .d (.val (.slice none 0 0))=>∃q,ot P t=some q∧JM P t t' q H q.1 src fun m l=>m≤9223372036854775807∧m*q.2.2≤140737488355328∧K (.os q.1 H.length 0 m) (H++[.cells l])
 |_=>False
def yjn(P:Program)(N r:Nat)(al:List Nat)(t t':TypeId)(base src:AV)(H:av)(sh:List (Nat × Nat))(KX:AV→av→List (Nat × Nat)→Prop):Prop:=
 H[N+r]? =some .free∧vq (N+r) sh∧rM N al base=true∧rM N al src=true∧match base with
 | .os k id off n=>∃q,ot P t=some q∧k=q.1∧∃cs,H[id]? =some (.cells cs)∧off+n*k=cs.length∧(∀p∈sh,p.2≠id)∧JM P t t' q H k src fun m l=>n+m≤9223372036854775807∧(n+m)*q.2.2≤140737488355328∧KX (.os k (N+r) 0 (n+m)) (H.set (N+r) (.cells (cs.drop off++l))) (fU sh id (N+r))
 | .d (.val (.slice none 0 0))=>∃q,ot P t=some q∧JM P t t' q H q.1 src fun m l=>m≤9223372036854775807∧m*q.2.2≤140737488355328∧KX (.os q.1 (N+r) 0 m) (H.set (N+r) (.cells l)) sh
 |_=>False
theorem yei{s y:Operand}{t':TypeId}:yjn P N r al t t' (ρ s) (ρ y) H sh KX→yX P N r al ρ (.call ⟨.builtin .append,#[s,y],#[t,t']⟩) H sh KX:=by
 rintro⟨h1,h2,CE,Hw,h3⟩
 refine⟨h1,(vR _ _).1 h2,fun z hz=>?_,?_⟩
 ·simp only[List.mem_cons,List.not_mem_nil,or_false]at hz
  rcases hz with rfl|rfl
  ·exact CE
  ·exact Hw
 ·split at h3
  ·rename_i k id off n e
   obtain⟨⟨s',zs,bts⟩,hq,rfl,cs,h4,h5,h6,m,l,h7,h8,h9,zx⟩:=h3
   obtain⟨e',he,hz,eI,hl,h0,Ie⟩:=Aj hq
   exact⟨_,_,_,⟨e',_,zs,bts,m,l,he,hz,hl,eI,h7,by rw[e];exact⟨cs,rfl,h4,h5,by unfold maxLen;omega,h9,rfl,h6,rfl,rfl⟩⟩,zx⟩
  ·rename_i e
   obtain⟨⟨s',zs,bts⟩,hq,m,l,h7,h8,h9,zx⟩:=h3
   obtain⟨e',he,hz,eI,hl,h0,Ie⟩:=Aj hq
   exact⟨_,_,_,⟨e',s',zs,bts,m,l,he,hz,hl,eI,h7,by rw[e];exact⟨by unfold maxLen;omega,h9,rfl,rfl,rfl⟩⟩,zx⟩
  ·exact h3.elim
theorem Rg{k m:Nat}{src:AV}{l:List AV}(h:pB H k src m l):pB (H++[.free]) k src m l:=by
 unfold pB at h ⊢
 split at h
 ·exact h
 ·obtain⟨h1,cs,h2,h3⟩:=h
  exact⟨h1,cs,by rw[iw (ew.1 h2).1];exact h2,h3⟩
 ·exact h
 ·exact h
theorem yej{s y:Operand}{t':TypeId}:WB P t t' (ρ s) (ρ y) H K→∃x H',kI P false H.length ρ (.call ⟨.builtin .append,#[s,y],#[t,t']⟩) (H++[.free]) [] x H' []∧K x H':=by
 intro h3
 unfold WB at h3
 split at h3
 ·rename_i k id off n e
  obtain⟨⟨s',zs,bts⟩,hq,rfl,cs,h4,h5,m,l,h7,h8,h9,zx⟩:=h3
  obtain⟨e',he,hz,eI,hl,h0,Ie⟩:=Aj hq
  have aA:=(ew.1 h4).1
  refine⟨_,_,⟨e',_,zs,bts,m,l,he,hz,hl,eI,h7.imp_left fun⟨ht,hs⟩=>⟨ht,Rg hs⟩,by rw[e];exact⟨cs,rfl,by rw[iw aA];exact h4,h5,by unfold maxLen;omega,h9,rfl,rfl,rfl,rfl⟩⟩,?_⟩
  rw[xM,List.set_append_left _ _ aA];exact zx
 ·rename_i e
  obtain⟨⟨s',zs,bts⟩,hq,m,l,h7,h8,h9,zx⟩:=h3
  obtain⟨e',he,hz,eI,hl,h0,Ie⟩:=Aj hq
  refine⟨_,_,⟨e',s',zs,bts,m,l,he,hz,hl,eI,h7.imp_left fun⟨ht,hs⟩=>⟨ht,Rg hs⟩,by rw[e];exact⟨by unfold maxLen;omega,h9,rfl,rfl,rfl⟩⟩,?_⟩
  rw[xM];exact zx
 ·exact h3.elim
variable {KA:AV→Prop} {cs:List AV}
theorem jf1{N:Nat}{f:FuncId}{args:List AV}{ds:List D}{x:AV}(hp:dq P f ds x)(hd:AV.mB.jr args=some ds)(hK:KA x):∃x,Bv P N H (.d (.val (.func (.func f) #[] #[]))) args x∧KA x:=
 ⟨x,⟨f,[],[],ds,rfl,.inl ⟨.inl (by simpa using hd),hp⟩⟩,hK⟩
theorem jky{N:Nat}{f:FuncId}{args:List AV}{ds:List D}{v:Value}(hp:dq P f ds (.d (.val v)))(hd:kx (l6 H N) 9 args=some ds)(hK:KA (.d (.val v))):∃x,Bv P N H (.d (.val (.func (.func f) #[] #[]))) args x∧KA x:=
 ⟨_,⟨f,[],[],ds,rfl,.inl ⟨.inr ⟨rfl,by simpa using hd⟩,hp⟩⟩,hK⟩
theorem jkz{N:Nat}{f:FuncId}{args:List AV}{ds:List D}{x:AV}(hp:Dc P f ds x)(hd:kx (l6 H N) 9 args=some ds)(hK:KA x):∃x,Bv P N H (.d (.val (.func (.func f) #[] #[]))) args x∧KA x:=
 ⟨_,⟨f,[],[],ds,rfl,.inr ⟨by simpa using hd,hp⟩⟩,hK⟩
end
end
section
section
variable {P:Program} {H:av} {sh:List (Nat × Nat)} {N r:Nat} {al:List Nat} {t:TypeId} {src:AV} {K:AV→av→Prop} {KX:AV→av→List (Nat × Nat)→Prop}
end
end
end Go.Proofs.YtapjobndmmkanaaGreat
