/- Of no program: the run of a region that draws, operation by operation; the laying operations. -/
import Derived.Test.YtfolbdkbpmgjgaaA22
set_option linter.unusedVariables false
set_option linter.unusedSimpArgs false
namespace Go.Proofs.Ytfolbdkbpmgjgaa
open Go Go.RowKit
section
section
variable {P:Program} {fr:List FuncId} {ops l:List Oper} {τ:Fr} {H:zaa} {sh:List (Nat × Nat)} {N i r:Nat} {m:List (Nat × Nat)} {d:Option Tmp} {op:Op} {ty:TypeId} {pos:String} {af:Array Edge} {KD:Fr→zaa→List (Nat × Nat)→Prop} {K:Fr→zaa→Prop}
theorem zik{j:Nat}{want:Bool}{τ:Fr}:zbl ops τ ⟨d,op,ty,pos,af,some (j,want)⟩=match(ops[j]?).bind (·.dst)with|none=>some false|some d=>zjp want (τ d):=rfl
theorem zpe{b:Bool}:zjp true (.d (.val (.bool b)))=some b:=by cases b<;>rfl
theorem zpf{b:Bool}:zjp false (.d (.val (.bool b)))=some (!b):=by cases b<;>rfl
theorem zpg{want:Bool}:zjp want (.d (.val undef))=some false:=rfl
theorem zhi(hk:kOf fr op=0):lays fr ⟨d,op,ty,pos,af,none⟩=false:=by simp[lays,hk]
def zsb(n:Nat):List (Nat × Nat)→Prop
 |[]=>True
 |p::l=>p.1≠n∧p.2≠n∧zsb n l
theorem zcq(n:Nat):∀sh:List (Nat × Nat),zsb n sh↔∀p∈sh,p.1≠n∧p.2≠n
 |[]=>by simp[zsb]
 |p::l=>by simp[zsb,zcq n l,and_assoc]
def zw6(P:Program)(N r:Nat)(al:List Nat)(ρ:Operand→AV)(op:Op)(H:zaa)(sh:List (Nat × Nat))(KX:AV→zaa→List (Nat × Nat)→Prop):Prop:=
 H[N+r]? =some .free∧(∀p∈sh,p.1≠N+r∧p.2≠N+r)∧zjg N al ρ op∧∃x H' sh',OpA P true (N+r) ρ op H sh x H' sh'∧KX x H' sh'
theorem zs8{y:Operand}:lays fr ⟨d,.move y,ty,pos,af,none⟩=false:=zhi rfl
theorem zs9{t:TypeId}{y:Operand}:lays fr ⟨d,.load t y,ty,pos,af,none⟩=false:=zhi rfl
theorem jf6{t:TypeId}{y:Operand}{f:Nat}:lays fr ⟨d,.fieldAddr t y f,ty,pos,af,none⟩=false:=zhi rfl
theorem jf7{t:TypeId}{y z:Operand}:lays fr ⟨d,.indexAddr t y z,ty,pos,af,none⟩=false:=zhi rfl
theorem zzy{op:BinOp}{t t':TypeId}{y z:Operand}:lays fr ⟨d,.binOp op t y z t',ty,pos,af,none⟩=false:=zhi rfl
theorem jf8{op:UnOp}{t:TypeId}{y:Operand}:lays fr ⟨d,.unOp op t y,ty,pos,af,none⟩=false:=zhi rfl
theorem zzz{args:Array Operand}{ts:Array TypeId}:lays fr ⟨d,.call ⟨.builtin .len,args,ts⟩,ty,pos,af,none⟩=false:=zhi rfl
theorem zph{f:Nat}{args:Array Operand}{ts:Array TypeId}:lays fr ⟨d,.call ⟨.value (.tmp f),args,ts⟩,ty,pos,af,none⟩=false:=zhi rfl
end
section
variable {P:Program} {τ:Fr} {H:zaa} {sh:List (Nat × Nat)} {N r:Nat} {al:List Nat} {ρ:Operand→AV} {KX:AV→zaa→List (Nat × Nat)→Prop} {K:AV→zaa→Prop} {t:TypeId}
theorem zc0(H:zaa)(o:AObj):(H++[AObj.free]).set H.length o=H++[o]:=by
 rw[List.set_append_right _ _ (Nat.le_refl _),Nat.sub_self];rfl
theorem jk1{y:Operand}:(∃x H',OpA P false H.length ρ (.box t y) (H++[.free]) [] x H' []∧K x H')=∃cs,zbw (ρ y)=some cs∧K (.op H.length 0) (H++[.cells cs]):=by
 refine propext ⟨?_,?_⟩
 ·rintro⟨x,H',⟨cs,h1,rfl,rfl,_⟩,h2⟩;rw[zc0]at h2;exact⟨cs,h1,h2⟩
 ·rintro⟨cs,h1,h2⟩;exact⟨_,_,⟨cs,h1,rfl,rfl,rfl⟩,by rw[zc0];exact h2⟩
theorem jk2{y:Operand}:zw6 P N r al ρ (.box t y) H sh KX=(H[N+r]? =some .free∧zsb (N+r) sh∧∃cs,zbw (ρ y)=some cs∧KX (.op (N+r) 0) (H.set (N+r) (.cells cs)) sh):=by
 refine propext ⟨?_,?_⟩
 ·rintro⟨h1,h2,_,x,H',sh',⟨cs,h3,rfl,rfl,rfl⟩,h4⟩;exact⟨h1,(zcq _ _).2 h2,cs,h3,h4⟩
 ·rintro⟨h1,h2,cs,h3,h4⟩;exact⟨h1,(zcq _ _).1 h2,trivial,_,_,_,⟨cs,h3,rfl,rfl,rfl⟩,h4⟩
theorem jca:(∃x H',OpA P false H.length ρ (.alloc t) (H++[.free]) [] x H' []∧K x H')=∃zs,zaO P t=some zs∧K (.op H.length 0) (H++[.cells (zs.map .d)]):=by
 refine propext ⟨?_,?_⟩
 ·rintro⟨x,H',⟨zs,h0,h1,rfl,rfl,_⟩,h2⟩;rw[zc0]at h2;exact⟨zs,by unfold zaO;rw[h0];simp only;rw[if_pos h1],h2⟩
 ·rintro⟨zs,h1,h2⟩;obtain⟨h3,h4⟩:=zpd h1;exact⟨_,_,⟨zs,h3,h4,rfl,rfl,rfl⟩,by rw[zc0];exact h2⟩
theorem jcb:zw6 P N r al ρ (.alloc t) H sh KX=(H[N+r]? =some .free∧zsb (N+r) sh∧∃zs,zaO P t=some zs∧KX (.op (N+r) 0) (H.set (N+r) (.cells (zs.map .d))) sh):=by
 refine propext ⟨?_,?_⟩
 ·rintro⟨h1,h2,_,x,H',sh',⟨zs,h5,h3,rfl,rfl,rfl⟩,h4⟩;exact⟨h1,(zcq _ _).2 h2,zs,by unfold zaO;rw[h5];simp only;rw[if_pos h3],h4⟩
 ·rintro⟨h1,h2,zs,h3,h4⟩;obtain⟨h5,h6⟩:=zpd h3;exact⟨h1,(zcq _ _).1 h2,trivial,_,_,_,⟨zs,h5,h6,rfl,rfl,rfl⟩,h4⟩
def zxn(P:Program)(t:TypeId)(y z:AV)(KK:Nat→Nat→List AV→Prop):Prop:=∃(q:Nat × List D × Nat) (k1 k2:IntKind) (n m:Int),mkO P t=some q∧y= .d (.val (.int k1 n))∧z= .d (.val (.int k2 m))∧0≤n∧n≤m∧m≤maxLen∧q.2.2*m.toNat≤281474976710656∧KK q.1 n.toNat (zfo n.toNat q.2.1)
theorem zkh{dr:Bool}{nid:Nat}{y z:Operand}{x:AV}{H':zaa}{sh':List (Nat × Nat)}(h:zxn P t (ρ y) (ρ z) fun s n l=>(x= .os s nid 0 n∧H'=H.set nid (.cells l)∨∃ds:List D,l=ds.map .d∧ds.length=n*s∧x= .d (.fs ds n)∧H'=H.set nid .dead)∧sh'=sh):OpA P dr nid ρ (.makeSlice t y z) H sh x H' sh':=by
 obtain⟨⟨s,zs,bts⟩,k1,k2,n,m,hq,h2,h3,h4,h5,h6,h7,h8,h9⟩:=h
 obtain⟨e,he,hz,hby,hl,h0,h1⟩:=zdz hq
 exact⟨e,s,zs,bts,k1,k2,n,m,he,hz,hl,h0,h1,hby,h2,h3,h4,h5,h6,h7,h8,h9⟩
theorem jf9{y z:Operand}(h:zxn P t (ρ y) (ρ z) fun s n l=>K (.os s H.length 0 n) (H++[.cells l])):∃x H',OpA P false H.length ρ (.makeSlice t y z) (H++[.free]) [] x H' []∧K x H':=by
 obtain⟨q,k1,k2,n,m,h1,h3,h4,h5,h6,h7,h8,h9⟩:=h
 exact⟨_,_,zkh ⟨q,k1,k2,n,m,h1,h3,h4,h5,h6,h7,h8,.inl ⟨rfl,rfl⟩,rfl⟩,by rw[zc0];exact h9⟩
theorem zz0{y z:Operand}(h:H[N+r]? =some .free∧zsb (N+r) sh∧zxn P t (ρ y) (ρ z) fun s n l=>KX (.os s (N+r) 0 n) (H.set (N+r) (.cells l)) sh):zw6 P N r al ρ (.makeSlice t y z) H sh KX:=by
 obtain⟨e1,e2,q,k1,k2,n,m,h1,h3,h4,h5,h6,h7,h8,h9⟩:=h
 exact⟨e1,(zcq _ _).1 e2,trivial,_,_,_,zkh ⟨q,k1,k2,n,m,h1,h3,h4,h5,h6,h7,h8,.inl ⟨rfl,rfl⟩,rfl⟩,h9⟩
theorem jcc{y z:Operand}(h:H[N+r]? =some .free∧zsb (N+r) sh∧zxn P t (ρ y) (ρ z) fun s n l=>∃ds:List D,l=ds.map .d∧ds.length=n*s∧KX (.d (.fs ds n)) (H.set (N+r) .dead) sh):zw6 P N r al ρ (.makeSlice t y z) H sh KX:=by
 obtain⟨e1,e2,q,k1,k2,n,m,h1,h3,h4,h5,h6,h7,h7b,ds,h8,h9,h10⟩:=h
 exact⟨e1,(zcq _ _).1 e2,trivial,_,_,_,zkh ⟨q,k1,k2,n,m,h1,h3,h4,h5,h6,h7,h7b,.inr ⟨ds,h8,h9,rfl,rfl⟩,rfl⟩,h10⟩
def BsK(P:Program)(t:TypeId)(len:Nat)(ps:List (Nat × AV))(KK:Nat→List AV→Prop):Prop:=∃q,mkO P t=some q∧len*q.1≤16777216∧∃cs,zhn (fun i=>some (i*q.1,q.1)) (zfo len q.2.1) ps=some cs∧KK q.1 cs
theorem zta{dr:Bool}{nid n:Nat}{ps:Array (Nat × Operand)}{x:AV}{H':zaa}{sh':List (Nat × Nat)}(h:BsK P t n (ps.toList.map fun p=>(p.1,ρ p.2)) fun s l=>(x= .os s nid 0 n∧H'=H.set nid (.cells l)∨∃ds:List D,l=ds.map .d∧ds.length=n*s∧x= .d (.fs ds n)∧H'=H.set nid .dead)∧sh'=sh):OpA P dr nid ρ (.buildSlice t n ps) H sh x H' sh':=by
 obtain⟨⟨s,zs,bts⟩,hq,h2,cs,h3,h4⟩:=h
 obtain⟨e,he,hz,hby,hl,h0,h1⟩:=zdz hq
 exact⟨e,s,zs,cs,he,hz,hl,h0,h1,h2,h3,h4⟩
theorem joi{n:Nat}{ps:Array (Nat × Operand)}(h:BsK P t n (ps.toList.map fun p=>(p.1,ρ p.2)) fun s l=>K (.os s H.length 0 n) (H++[.cells l])):∃x H',OpA P false H.length ρ (.buildSlice t n ps) (H++[.free]) [] x H' []∧K x H':=by
 obtain⟨q,h1,h3,cs,h4,h5⟩:=h
 exact⟨_,_,zta ⟨q,h1,h3,cs,h4,.inl ⟨rfl,rfl⟩,rfl⟩,by rw[zc0];exact h5⟩
theorem joj{n:Nat}{ps:Array (Nat × Operand)}(h:H[N+r]? =some .free∧zsb (N+r) sh∧BsK P t n (ps.toList.map fun p=>(p.1,ρ p.2)) fun s l=>KX (.os s (N+r) 0 n) (H.set (N+r) (.cells l)) sh):zw6 P N r al ρ (.buildSlice t n ps) H sh KX:=by
 obtain⟨e1,e2,q,h1,h3,cs,h4,h5⟩:=h
 exact⟨e1,(zcq _ _).1 e2,trivial,_,_,_,zta ⟨q,h1,h3,cs,h4,.inl ⟨rfl,rfl⟩,rfl⟩,h5⟩
theorem jk3{n:Nat}{ps:Array (Nat × Operand)}(h:H[N+r]? =some .free∧zsb (N+r) sh∧BsK P t n (ps.toList.map fun p=>(p.1,ρ p.2)) fun s l=>∃ds:List D,l=ds.map .d∧ds.length=n*s∧KX (.d (.fs ds n)) (H.set (N+r) .dead) sh):zw6 P N r al ρ (.buildSlice t n ps) H sh KX:=by
 obtain⟨e1,e2,q,h1,h3,cs,h4,ds,h5,h6,h7⟩:=h
 exact⟨e1,(zcq _ _).1 e2,trivial,_,_,_,zta ⟨q,h1,h3,cs,h4,.inr ⟨ds,h5,h6,rfl,rfl⟩,rfl⟩,h7⟩
def jkc(P:Program)(t t':TypeId)(q:Nat × List D × Nat)(H:zaa)(k:Nat)(src:AV)(G:Nat→List AV→Prop):Prop:=∃m l,zq9 P t t' q.2.1 q.2.2 H k src m l∧G m l
def jm9(P:Program)(t t':TypeId)(base src:AV)(H:zaa)(K:AV→zaa→Prop):Prop:=
 match base with
 | .os k id off n=>∃q,mkO P t=some q∧k=q.1∧∃cs,H[id]? =some (.cells cs)∧off+n*k=cs.length∧jkc P t t' q H k src fun m l=>n+m≤9223372036854775807∧(n+m)*q.2.2≤140737488355328∧K (.os k H.length 0 (n+m)) (H.set id .dead++[.cells (cs.drop off++l)])
 | .d (.val (.slice none 0 0))=>∃q,mkO P t=some q∧jkc P t t' q H q.1 src fun m l=>m≤9223372036854775807∧m*q.2.2≤140737488355328∧K (.os q.1 H.length 0 m) (H++[.cells l])
 |_=>False
def jok(P:Program)(N r:Nat)(al:List Nat)(t t':TypeId)(base src:AV)(H:zaa)(sh:List (Nat × Nat))(KX:AV→zaa→List (Nat × Nat)→Prop):Prop:=
 H[N+r]? =some .free∧zsb (N+r) sh∧zdd N al base=true∧zdd N al src=true∧match base with
 | .os k id off n=>∃q,mkO P t=some q∧k=q.1∧∃cs,H[id]? =some (.cells cs)∧off+n*k=cs.length∧(∀p∈sh,p.2≠id)∧jkc P t t' q H k src fun m l=>n+m≤9223372036854775807∧(n+m)*q.2.2≤140737488355328∧KX (.os k (N+r) 0 (n+m)) (H.set (N+r) (.cells (cs.drop off++l))) (appSh sh id (N+r))
 | .d (.val (.slice none 0 0))=>∃q,mkO P t=some q∧jkc P t t' q H q.1 src fun m l=>m≤9223372036854775807∧m*q.2.2≤140737488355328∧KX (.os q.1 (N+r) 0 m) (H.set (N+r) (.cells l)) sh
 |_=>False
theorem jk4{s y:Operand}{t':TypeId}:jok P N r al t t' (ρ s) (ρ y) H sh KX→zw6 P N r al ρ (.call ⟨.builtin .append,#[s,y],#[t,t']⟩) H sh KX:=by
 rintro⟨h1,h2,hb1,hb2,h3⟩
 refine⟨h1,(zcq _ _).1 h2,fun z hz=>?_,?_⟩
 ·simp only[List.mem_cons,List.not_mem_nil,or_false]at hz
  rcases hz with rfl|rfl
  ·exact hb1
  ·exact hb2
 ·split at h3
  ·rename_i k id off n e
   obtain⟨⟨s',zs,bts⟩,hq,rfl,cs,h4,h5,h6,m,l,h7,h8,h9,h10⟩:=h3
   obtain⟨e',he,hz,hby,hl,h0,h1'⟩:=zdz hq
   exact⟨_,_,_,⟨e',_,zs,bts,m,l,he,hz,hl,hby,h7,by rw[e];exact⟨cs,rfl,h4,h5,by unfold maxLen;omega,h9,rfl,h6,rfl,rfl⟩⟩,h10⟩
  ·rename_i e
   obtain⟨⟨s',zs,bts⟩,hq,m,l,h7,h8,h9,h10⟩:=h3
   obtain⟨e',he,hz,hby,hl,h0,h1'⟩:=zdz hq
   exact⟨_,_,_,⟨e',s',zs,bts,m,l,he,hz,hl,hby,h7,by rw[e];exact⟨by unfold maxLen;omega,h9,rfl,rfl,rfl⟩⟩,h10⟩
  ·exact h3.elim
theorem zpi{k m:Nat}{src:AV}{l:List AV}(h:SrcA H k src m l):SrcA (H++[.free]) k src m l:=by
 unfold SrcA at h ⊢
 split at h
 ·exact h
 ·obtain⟨h1,cs,h2,h3⟩:=h
  exact⟨h1,cs,by rw[List.getElem?_append_left (List.getElem?_eq_some_iff.1 h2).1];exact h2,h3⟩
 ·exact h
 ·exact h
theorem jk5{s y:Operand}{t':TypeId}:jm9 P t t' (ρ s) (ρ y) H K→∃x H',OpA P false H.length ρ (.call ⟨.builtin .append,#[s,y],#[t,t']⟩) (H++[.free]) [] x H' []∧K x H':=by
 intro h3
 unfold jm9 at h3
 split at h3
 ·rename_i k id off n e
  obtain⟨⟨s',zs,bts⟩,hq,rfl,cs,h4,h5,m,l,h7,h8,h9,h10⟩:=h3
  obtain⟨e',he,hz,hby,hl,h0,h1'⟩:=zdz hq
  have hlt:=(List.getElem?_eq_some_iff.1 h4).1
  refine⟨_,_,⟨e',_,zs,bts,m,l,he,hz,hl,hby,h7.imp_left fun⟨ht,hs⟩=>⟨ht,zpi hs⟩,by rw[e];exact⟨cs,rfl,by rw[List.getElem?_append_left hlt];exact h4,h5,by unfold maxLen;omega,h9,rfl,rfl,rfl,rfl⟩⟩,?_⟩
  rw[zc0,List.set_append_left _ _ hlt];exact h10
 ·rename_i e
  obtain⟨⟨s',zs,bts⟩,hq,m,l,h7,h8,h9,h10⟩:=h3
  obtain⟨e',he,hz,hby,hl,h0,h1'⟩:=zdz hq
  refine⟨_,_,⟨e',s',zs,bts,m,l,he,hz,hl,hby,h7.imp_left fun⟨ht,hs⟩=>⟨ht,zpi hs⟩,by rw[e];exact⟨by unfold maxLen;omega,h9,rfl,rfl,rfl⟩⟩,?_⟩
  rw[zc0];exact h10
 ·exact h3.elim
variable {KA:AV→Prop} {cs:List AV}
theorem jcd{N:Nat}{f:FuncId}{args:List AV}{ds:List D}{x:AV}(hp:zar P f ds x)(hd:AV.toD.toDs args=some ds)(hK:KA x):∃x,zq8 P N H (.d (.val (.func (.func f) #[] #[]))) args x∧KA x:=
 ⟨x,⟨f,[],[],ds,rfl,.inl ⟨.inl (by simpa using hd),hp⟩⟩,hK⟩
theorem zxo{N:Nat}{f:FuncId}{args:List AV}{ds:List D}{v:Value}(hp:zar P f ds (.d (.val v)))(hd:zco (zde H N) 9 args=some ds)(hK:KA (.d (.val v))):∃x,zq8 P N H (.d (.val (.func (.func f) #[] #[]))) args x∧KA x:=
 ⟨_,⟨f,[],[],ds,rfl,.inl ⟨.inr ⟨rfl,by simpa using hd⟩,hp⟩⟩,hK⟩
end
/- Of no program: small equations of appends; loose ends of the run. -/
end
section
section
variable {P:Program} {H:zaa} {sh:List (Nat × Nat)} {N r:Nat} {al:List Nat} {t:TypeId} {src:AV} {K:AV→zaa→Prop} {KX:AV→zaa→List (Nat × Nat)→Prop}
end
end
end Go.Proofs.Ytfolbdkbpmgjgaa
