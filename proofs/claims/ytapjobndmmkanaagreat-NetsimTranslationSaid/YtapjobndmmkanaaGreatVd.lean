/- Of no program: an entry of a map that is there already is set anew. -/
import Derived.Test.YtapjobndmmkanaaGreatAZ
import Derived.Test.YtapjobndmmkanaaGreatQr
import Derived.Test.YtapjobndmmkanaaGreatOe
import Derived.Test.YtapjobndmmkanaaGreatDb
import Derived.Test.YtapjobndmmkanaaGreatTy
import Derived.Test.YtapjobndmmkanaaGreatVc
set_option linter.unusedVariables false
set_option linter.unusedSimpArgs false
namespace Go.Proofs.YtapjobndmmkanaaGreat
open Go.Proofs.Tryz
open Go Go.RowKit
section
section
variable {P:Program} {KT:TypeId→Bool} {H:zad}
structure OkB (P:Program) (t:TypeId) (μ:Mp):Prop where
 ok:OkM P t μ
 nd:(μ.1.map (·.2.1)).Nodup
theorem OkB.nil(t:TypeId)(n:Nat):OkB P t ([],n):=⟨OkM.nil t n,.nil⟩
theorem jd3(i:Nat)(v:Value):∀(s:List (Value × Nat × Value)) (i:Nat),(s.modify i fun q=>(q.1,q.2.1,v)).map (·.2.1)=s.map (·.2.1)
 |[],i=>by simp
 |a::s,0=>by simp
 |a::s,i+1=>by rw[List.modify_succ_cons,List.map_cons,List.map_cons,jd3 i v s i]
theorem OkB.put{t:TypeId}{μ:Mp}(h:OkB P t μ){k v:Value}(hk:zk8 P t k):OkB P t (zp8 k v μ):=by
 refine⟨h.ok.put hk,?_⟩
 unfold zp8
 split
 ·rw[jd3 0];exact h.nd
 ·simp only[List.map_append,List.map_cons,List.map_nil]
  rw[List.nodup_append]
  refine⟨h.nd,by simp,fun a ha b hb e=>?_⟩
  obtain⟨p,hp,rfl⟩:=qat.1 ha
  simp only[qau]at hb
  have:=h.ok.born p hp
  omega
def jnf(k:Value)(μ:Mp):Nat:=match fiM k μ.1 with
 |some i=>(μ.1.getD i (undef,0,undef)).2.1
 |none=>0
theorem jd4{k u:Value}{μ:Mp}(h:zl2 k μ=some u):∃i,fiM k μ.1=some i∧i<μ.1.length∧(μ.1.getD i (undef,0,undef)).2.2=u:=by
 have hf:=zrk k μ
 rw[h,zn3]at hf
 unfold fiM
 cases e:μ.1.findIdx? fun e=>vEq e.1 k with
 |none=>rw[e]at hf;cases hf
 |some i=>
  rw[e]at hf
  simp only[Option.map_some]at hf
  refine⟨i,rfl,(List.findIdx?_eq_some_iff_getElem.1 e).1,?_⟩
  injection hf with hf
  injection hf with hf
  injection hf
theorem yib{t:TypeId}{id:Nat}{v u z:Value}{μ:Mp}(ht:mtB P KT t=some z)(hv:zk8 P t v)(hμ:OkB P t μ)(hn:zl2 v μ=some u):meO P KT t id v H (some (mO μ))=some (.tup [.d (.val u),.d (.val (.int .i64 (jnf v μ)))],H.set id (mO μ)):=by
 obtain⟨kt,et,hm,h1,hz⟩:=zmv ht
 obtain⟨i,hi,hl,hu⟩:=jd4 hn
 unfold meO mO
 simp only[hm,hz,h1,hv.1,hv.2 kt et hm,hμ.ok.kb hm,Bool.and_self,if_true,zn3]
 unfold jnf
 rw[hi]
 unfold fiM at hi
 rw[hi]
 simp only[Option.map_some,Nat.zero_add,hu]
 have:(mE μ.1)[i]? =some ((μ.1.getD i (undef,0,undef)).1,(μ.1.getD i (undef,0,undef)).2.1,.d (.val (μ.1.getD i (undef,0,undef)).2.2)):=by
  unfold mE;rw[List.getElem?_map,qai,qal hl];rfl
 rw[this];rfl
theorem jsd{i:Nat}:∀{s:List (Value × Nat × Value)},(s.map (·.2.1)).Nodup→∀{i:Nat},i<s.length→(mE s).findIdx? (fun q=>(q.2.1:Int)==((s.getD i (undef,0,undef)).2.1:Int))=some i
 |[],_,i,h=>by simp at h
 |a::s,hn,0,h=>by simp[mE,List.findIdx?_cons]
 |a::s,hn,i+1,h=>by
  obtain⟨h1,h2⟩:=List.nodup_cons.1 (show(a.2.1::s.map (·.2.1)).Nodup from hn)
  have hl:i<s.length:=by simpa using h
  have hm:(s.getD i (undef,0,undef)).2.1∈s.map (·.2.1):=qat.2 ⟨_,by rw[qai,qal hl];exact List.getElem_mem hl,rfl⟩
  have hne:a.2.1≠(s.getD i (undef,0,undef)).2.1:=fun e=>h1 (e▸hm)
  have ih:=jsd (i:=0) h2 hl
  show((a.1,a.2.1,AV.d (.val a.2.2))::mE s).findIdx? _=_
  rw[List.findIdx?_cons,List.getD_cons_succ]
  have:((a.2.1:Int)==((s.getD i (undef,0,undef)).2.1:Int))=false:=by simp only[beq_eq_false_iff_ne,ne_eq];omega
  simp only[this,ih];rfl
theorem yic{t:TypeId}{id:Nat}{v u w:Value}{μ:Mp}(hμ:OkB P t μ)(hn:zl2 v μ=some u):esN id (jnf v μ) (.d (.val w)) H (some (mO μ))=some (.d (.val undef),H.set id (mO (zp8 v w μ))):=by
 obtain⟨i,hi,hl,hu⟩:=jd4 hn
 unfold esN mO zp8 jnf
 rw[hi]
 simp only
 rw[jsd (i:=0) hμ.nd hl,Option.map_some,zrl]
theorem jng{v z:Value}{μ:Mp}(hv:znq v=true)(hn:zl2 v μ=none):zp8 v z μ=(μ.1++[(v,μ.2,z)],μ.2+1):=by
 unfold zp8
 rw[(zux hv).2 ((zrj hv).1 hn)]
theorem yid{t:TypeId}{v z:Value}{μ:Mp}(ht:mtB P KT t=some z)(hv:zk8 P t v)(hμ:OkM P t μ)(hn:zl2 v μ=none):lkK P KT t (some v) false (some (mE (μ.1++[(v,μ.2,z)])))=some (.d (.val z)):=by
 classical
 have h:=zpk ht hv (hμ.put (v:=z) hv)
 rw[zha hv.1 hv.1,if_pos rfl,jng hv.1 hn]at h
 exact h
end
set_option maxRecDepth 100000
set_option maxHeartbeats 4000000
end
theorem ym6:(type_of% @zi1):=@zi1
theorem yb7{P:Program}{c:Cx}{x:Code}{Q:Exit→Fr→zad→Prop}{τ:Fr}{H:zad}(t:Nat)(ht:τ t= .d (.fs [] 0))
  (h:∀(a:Option Addr) (cap:Nat),cap≤maxLen→(a=none→cap=0)→AWp P c x Q (τ.put (some t) (.d (.val (.slice a 0 cap)))) H):AWp P c x Q τ H:=fun ac w hR=>by
 obtain⟨pl,hS⟩:=hR
 have h1:=hS.fr t
 rw[ht]at h1
 have key:∀a cap,ac.tmps.getD t undef= .slice a 0 cap→R c (τ.put (some t) (.d (.val (.slice a 0 cap)))) H [] ac w:=fun a cap e=>
  ⟨pl,hS.h,hS.stp,hS.own0,hS.ext,fun t'=>by
   by_cases ht':t'=t
   ·subst ht'
    rw[e]
    simp only[Fr.put,if_pos]
    exact .d _ _ (.val _)
   ·simp only[Fr.put,if_neg ht']
    exact hS.fr t',hS.size,hS.defs,hS.keep⟩
 cases h1 with
 |d _ _ h1=>
  generalize hv:ac.tmps.getD t undef=v at h1
  cases h1 with
  |f0 a cap hm hn=>exact h a cap hm hn ac w (key a cap hv)
  |fs _ _ cap b off f hb ho hn hm hc h1 hx=>exact h _ cap hm (fun e=>by cases e) ac w (key _ cap hv)
theorem Imp.f0{a:Option Addr}{cap:Nat}(hm:cap≤maxLen)(hn:a=none→cap=0):Imp (.d (.val (.slice a 0 cap))) (.d (.fs [] 0)):=fun _ _ _ v h=>by
 cases h with
 |d _ _ h=>cases h;exact .d _ _ (.f0 a cap hm hn)
theorem jnh{P:Program}{t:TypeId}(h:zj5 P t=true){a:Option Addr}{n c n' c':Nat}:zg0 P .eql t (.slice a n c) (.slice none n' c')=some (.bool a.isNone):=by simp[zg0,h]
theorem jni:(type_of% @zd1):=@zd1
def zzc(w:Wire)(kind i:Int):Bool:=decide (w.kind=kind)&&decide (w.i=i)
def jse(b:Int):Int:=IntKind.i64.wrap (1*2^min b.toNat 64)
def zog(out:List Wire)(v:List Bool)(kind i:Int):Nat→Bool
 |0=>false
 |k+1=>zog out v kind i k||(nth v k&&zzc (nth out k) kind i)
def zen(out:List Wire)(v:List Bool)(kind i:Int):Nat→Int
 |0=>0
 |k+1=>if(nth v k&&zzc (nth out k) kind i)=true then zr9 .or .i64 (zen out v kind i k) (jse (nth out k).bit)else zen out v kind i k
theorem jj4{out:List Wire}{v:List Bool}{kind i:Int}:∀{k:Nat},zog out v kind i k=false→zen out v kind i k=0
 |0,_=>rfl
 |k+1,h=>by
  simp only[zog,Bool.or_eq_false_iff]at h
  rw[zen,h.2,if_neg (by simp)]
  exact jj4 h.1
theorem yie{b:Int}(h0:0≤b)(h1:b≤7):∃n:Nat,jse b=n∧n<256:=by
 rcases(show b=0∨b=1∨b=2∨b=3∨b=4∨b=5∨b=6∨b=7 by omega)with rfl|rfl|rfl|rfl|rfl|rfl|rfl|rfl
 ·exact⟨1,by decide,by decide⟩
 ·exact⟨2,by decide,by decide⟩
 ·exact⟨4,by decide,by decide⟩
 ·exact⟨8,by decide,by decide⟩
 ·exact⟨16,by decide,by decide⟩
 ·exact⟨32,by decide,by decide⟩
 ·exact⟨64,by decide,by decide⟩
 ·exact⟨128,by decide,by decide⟩
theorem jsf{a b:Nat}(ha:a<256)(hb:b<256):zr9 .or .i64 a b=((a|||b:Nat):Int):=by
 have h:a|||b<2^8:=Nat.or_lt_two_pow ha hb
 show IntKind.i64.wrap ((BitVec.ofInt 64 a|||BitVec.ofInt 64 b).toNat:Int)=_
 have e:(BitVec.ofInt 64 (a:Int)|||BitVec.ofInt 64 (b:Int)).toNat=a|||b:=by
  rw[BitVec.toNat_or]
  simp only[BitVec.ofInt_natCast,BitVec.toNat_ofNat]
  rw[Nat.mod_eq_of_lt (by omega),Nat.mod_eq_of_lt (by omega)]
 rw[e,zre (by omega) (by omega)]
theorem jsg{out:List Wire}{v:List Bool}{kind i:Int}(hb:∀k,k<out.length→0≤(nth out k).bit∧(nth out k).bit≤7):∀{k:Nat},k≤out.length→∃n:Nat,zen out v kind i k=n∧n<256
 |0,_=>⟨0,rfl,by decide⟩
 |k+1,h=>by
  obtain⟨a,ha,ha2⟩:=jsg hb (k:=k) (kind:=kind) (i:=i) (v:=v) (by omega)
  rw[zen]
  split
  ·obtain⟨b,hb1,hb2⟩:=yie (hb k (by omega)).1 (hb k (by omega)).2
   rw[ha,hb1,jsf ha2 hb2]
   exact⟨_,rfl,Nat.or_lt_two_pow (n:=8) ha2 hb2⟩
  ·exact⟨a,ha,ha2⟩
structure Fir where
 fires:Bool
 st:PSt
 pops:List Bool
 puts:List Head
 deriving Inhabited
def zgz(f:Fir):List D:=[oD f.fires,intsD f.st.regs,intssD f.st.mems,boolsD f.pops,za9 f.puts]
def jge(out:List Wire)(v:List Bool)(i:Nat)(l:List Int):List Int:=
 if(zog out v 8 i out.length&&decide (zen out v 9 i out.length<l.length))=true then l.set (zen out v 9 i out.length).toNat (zen out v 10 i out.length)else l
def jsh(out:List Wire)(v:List Bool)(i:Nat):Head:=if zog out v 6 i out.length then⟨true,zen out v 7 i out.length⟩else⟨false,0⟩
def znf(out:List Wire)(v:List Bool)(n:Nat):List Int:=(List.range n).map fun(i:Nat)=>zen out v 1 i out.length
def zoh(out:List Wire)(v:List Bool)(ms:List (List Int))(n:Nat):List (List Int):=(List.range n).map fun i=>jge out v i (nth ms i)
def zva(out:List Wire)(v:List Bool)(n:Nat):List Bool:=(List.range n).map fun(i:Nat)=>zog out v 5 i out.length
def zxa(out:List Wire)(v:List Bool)(n:Nat):List Head:=(List.range n).map fun i=>jsh out v i
theorem zbv(out:List Wire)(v:List Bool)(n:Nat):(znf out v n).length=n:=by simp[znf]
theorem zbw(out:List Wire)(v:List Bool)(ms:List (List Int))(n:Nat):(zoh out v ms n).length=n:=by simp[zoh]
theorem zbx(out:List Wire)(v:List Bool)(n:Nat):(zva out v n).length=n:=by simp[zva]
theorem zby(out:List Wire)(v:List Bool)(n:Nat):(zxa out v n).length=n:=by simp[zxa]
theorem jfj(out:List Wire)(v:List Bool)(n:Nat):znf out v (n+1)=znf out v n++[zen out v 1 n out.length]:=by simp[znf,qav]
theorem jfk(out:List Wire)(v:List Bool)(ms:List (List Int))(n:Nat):zoh out v ms (n+1)=zoh out v ms n++[jge out v n (nth ms n)]:=by simp[zoh,qav]
theorem jfl(out:List Wire)(v:List Bool)(n:Nat):zva out v (n+1)=zva out v n++[zog out v 5 n out.length]:=by simp[zva,qav]
theorem zt6(out:List Wire)(v:List Bool)(n:Nat):zxa out v (n+1)=zxa out v n++[jsh out v n]:=by simp[zxa,qav]
def efF(out:List Wire)(s:PSt)(v:List Bool)(e0 e1:Nat):Fir:=⟨false,⟨znf out v s.regs.length,zoh out v s.mems s.mems.length⟩,zva out v e0,zxa out v e1⟩
abbrev tEb:TypeId:=287
abbrev tEi:TypeId:=288
structure EfP (out:List Wire) (v:List Bool) (k:Nat) (μs μw:Mp):Prop where
 s:OkB prog tEb μs
 w:OkB prog tEi μw
 gs:∀kind i,I64 kind→I64 i→zl2 (eV kind i) μs=if zog out v kind i k then some (.bool true)else none
 gw:∀kind i,I64 kind→I64 i→zl2 (eV kind i) μw=if zog out v kind i k then some (.int .i64 (zen out v kind i k))else none
theorem jd5{a b:Int}:znq (eV a b)=true:=rfl
theorem EfP.nil(out:List Wire)(v:List Bool):EfP out v 0 ([],0) ([],0):=⟨OkB.nil _ _,OkB.nil _ _,fun _ _ _ _=>rfl,fun _ _ _ _=>rfl⟩
theorem EfP.same{out:List Wire}{v:List Bool}{k:Nat}{μs μw:Mp}(h:EfP out v k μs μw)(hv:nth v k=false):EfP out v (k+1) μs μw:=
 ⟨h.s,h.w,fun kind i h1 h2=>by rw[h.gs kind i h1 h2];simp[zog,hv],fun kind i h1 h2=>by rw[h.gw kind i h1 h2];simp[zog,zen,hv]⟩
theorem hit_iff{w:Wire}{kind i:Int}:zzc w kind i=true↔eV kind i=eV w.kind w.i:=by
 unfold zzc
 rw[qar,qax,qax]
 exact⟨fun h=>by rw[h.1,h.2],fun h=>by obtain⟨a,b⟩:=jr4 h;exact⟨a.symm,b.symm⟩⟩
theorem EfP.add{out:List Wire}{v:List Bool}{k:Nat}{μs μw:Mp}(h:EfP out v k μs μw)(hv:nth v k=true)(h1:I64 (nth out k).kind)(h2:I64 (nth out k).i):
  EfP out v (k+1) (zp8 (eV (nth out k).kind (nth out k).i) (.bool true) μs) (zp8 (eV (nth out k).kind (nth out k).i) (.int .i64 (zr9 .or .i64 (zen out v (nth out k).kind (nth out k).i k) (jse (nth out k).bit))) μw):=by
 classical
 refine⟨h.s.put (zw3 h1 h2),h.w.put (zt5 h1 h2),fun kind i k1 k2=>?_,fun kind i k1 k2=>?_⟩
 ·rw[zha jd5 jd5,h.gs kind i k1 k2]
  rcases tf (zzc (nth out k) kind i)with e|e
  ·rw[if_pos (hit_iff.1 e)];simp[zog,hv,e]
  ·rw[if_neg fun e2=>by rw[hit_iff.2 e2]at e;cases e];simp[zog,hv,e]
 ·rw[zha jd5 jd5,h.gw kind i k1 k2]
  rcases tf (zzc (nth out k) kind i)with e|e
  ·have e2:=hit_iff.1 e
   rw[if_pos e2]
   obtain⟨e3,e4⟩:=jr4 e2
   subst e3 e4
   simp[zog,zen,hv,e]
  ·rw[if_neg fun e2=>by rw[hit_iff.2 e2]at e;cases e];simp[zog,zen,hv,e]
theorem jnj{b:Bool}:((if b=true then some (Value.bool true)else none).getD (.bool false))= .bool b:=by cases b<;>rfl
theorem zng{out:List Wire}{v:List Bool}{kind i:Int}{k:Nat}:((if zog out v kind i k=true then some (Value.int .i64 (zen out v kind i k))else none).getD (.int .i64 0))= .int .i64 (zen out v kind i k):=by
 rcases tf (zog out v kind i k)with e|e
 ·rw[e];rfl
 ·rw[e,jj4 e];rfl
theorem ygv:mtB prog KT tEb=some (.bool false):=by kernel_rfl
theorem jsi:mtB prog KT tEi=some (.int .i64 0):=by kernel_rfl
theorem zii{a b:Int}:Value.agg #[.int .i64 a,.int .i64 b]=eV a b:=rfl
def yif(l:List Int)(x:AV)(S':zad):Prop:=∃n,n=l.length∧x= .os 1 0 0 n∧S'=[.cells (avs (l.map iD))]
theorem yb8{p q:Prop}(hq:q)(h:p=q:=by
 conv=>lhs;simp -dsimp -implicitDefEqProofs (disch:=first|assumption|omega|(simp only[r_z]<;>omega)|decide) only[r_r,↓reduceIte,Nat.reduceEqDiff,Nat.reduceAdd,D.fix,Int.reduceToNat,Nat.reduceMul,Nat.reduceBNe,Nat.reduceBEq,intsD,List.map_nil,List.length_nil]):p:=h.mpr hq
theorem yb9{p q:Prop}(hq:q)(h:p=q:=by
 conv=>lhs;simp -dsimp -implicitDefEqProofs (disch:=first|assumption|omega|(simp only[r_z]<;>omega)|decide) only[r_r,↓reduceIte,Nat.reduceEqDiff,Nat.reduceAdd,D.fix,Int.reduceToNat,Nat.reduceMul,Nat.reduceBNe,Nat.reduceBEq,intsD,List.map_nil,List.length_nil,jnh hst,Option.isNone_none,Option.isNone_some,jni]):p:=h.mpr hq
theorem ygw{m:List Nat}{τ τ':Fr}{H H':zad}(h2:H=H')(h:zgk τ τ':=by
 repeat (first|exact zaq _|refine zak ?_ (by first|rfl|(simp[r_f];done)|simp[r_f, *]))):Rt m τ H τ' H':=Rt.end h h2
theorem yig{p:Prop}(h:p:=by
 first|rfl|(simp only[r_g,Nat.reduceAdd,↓reduceIte,Nat.reduceEqDiff,intsD,List.map_nil,List.length_nil];first|done|rfl)):p:=h
theorem jnk:ScS prog [] 185 [.d (intsD [])] ([.free]) (yif []):=by
 refine zbg (fn:=f185) (by kernel_rfl) func185 rfl (qaf rfl) fun c hc hp=>?_
 refine zrg ?_
 refine szq (yb8 ·) ?_
 refine zaa fun K2 hK2=>?_
 refine yb7 0 rfl fun a cap hm hn=>?_
 have hst:zj5 prog 28=true:=by kernel_rfl
 refine zaf hp zah hc rfl fun K3 hK3=>?_
 rcases a with _|a
 ·refine yb9 ?_
  refine hK3 _ _ ?_
  refine szt ?_
  refine szq (yb8 ·) ?_
  refine zav hp (τ':=frL [(2,.os 1 0 0 0)]) (H':=[.cells []]) ?_ ?_
  ·refine Rt.trans (Rt.nil 2 1 rfl) ?_
   refine Rt.trans (Rt.gc (keep:=[1]) (by decide) (by decide) (by simp[fzH,gcH])) ?_
   refine ygw ?_
   exact yig
  refine zaj ?_
  refine zap (t:=2) rfl ?_
  show ∃_,_
  exact⟨_,rfl,rfl,rfl⟩
 ·refine yb9 ?_
  refine hK3 _ _ ?_
  refine szf ?_
  refine zai (hK2 _ _ ?_)
  refine zav hp (τ':=frL [(0,.d (.fs [] 0))]) (H':=[.free]) ?_ ?_
  ·refine Rt.trans (Rt.put 0 (Imp.f0 hm hn)) ?_
   refine ygw ?_
   exact yig
  refine zaf hp zah hc rfl fun K5 hK5=>?_
  simp -dsimp -implicitDefEqProofs (disch:=first|assumption|omega|(simp only[r_z]<;>omega)|decide) only[r_r,↓reduceIte,Nat.reduceEqDiff,Nat.reduceAdd,D.fix,Int.reduceToNat,Nat.reduceMul,Nat.reduceBNe,Nat.reduceBEq,intsD,List.map_nil,List.length_nil,jni]
  refine hK5 _ _ ?_
  refine zav hp (τ':=frL [(2,.os 1 0 0 0)]) (H':=[.cells []]) ?_ ?_
  ·refine Rt.trans (Rt.gc (keep:=[2]) (by decide) (by decide) (by simp[fzH,gcH])) ?_
   refine ygw ?_
   exact yig
  refine zaj ?_
  refine zap (t:=2) rfl ?_
  show ∃_,_
  exact⟨_,rfl,rfl,rfl⟩
theorem jnl(l:List Int)(hl:l.length≤1000000)(h0:0<l.length):ScS prog [] 185 [.d (intsD l)] ([.free]) (yif l):=by
 refine zbg (fn:=f185) (by kernel_rfl) func185 rfl (qaf rfl) fun c hc hp=>?_
 refine zrg ?_
 refine zaf hp zah hc rfl fun K1 hK1=>?_
 simp -dsimp -implicitDefEqProofs (disch:=first|assumption|omega|(simp only[r_z]<;>omega)|decide) only[r_r,↓reduceIte,Nat.reduceEqDiff,Nat.reduceAdd,D.fix,Int.reduceToNat,Nat.reduceMul,Nat.reduceBNe,Nat.reduceBEq,intsD]
 refine hK1 _ _ ?_
 refine zaa fun K2 hK2=>?_
 have hnil:zwa prog .eql 28 (.d (.fs (l.map iD) l.length)) (.d (.val (.slice none 0 0)))=some (.d (.val (.bool false))):=jms underlying28 h0
 refine zaf hp zah hc rfl fun K3 hK3=>?_
 simp -dsimp -implicitDefEqProofs (disch:=first|assumption|omega|(simp only[r_z]<;>omega)|decide) only[r_r,↓reduceIte,Nat.reduceEqDiff,Nat.reduceAdd,D.fix,Int.reduceToNat,Nat.reduceMul,Nat.reduceBNe,Nat.reduceBEq,intsD,hnil,jni]
 refine hK3 _ _ ?_
 refine szf ?_
 refine zai (hK2 _ _ ?_)
 refine zaf hp zah hc rfl fun K4 hK4=>?_
 simp -dsimp -implicitDefEqProofs (disch:=first|assumption|omega|(simp only[r_z]<;>omega)|decide) only[r_r,↓reduceIte,Nat.reduceEqDiff,Nat.reduceAdd,D.fix,Int.reduceToNat,Nat.reduceMul,Nat.reduceBNe,Nat.reduceBEq,intsD,jni]
 refine hK4 _ _ ?_
 refine zav hp (τ':=frL [(2,.os 1 0 0 l.length)]) (H':=[.cells (avs (l.map iD))]) ?_ ?_
 ·refine Rt.trans (Rt.gc (keep:=[2]) (by decide) (by decide) (by simp[fzH,gcH])) ?_
  refine ygw ?_
  first|rfl|(simp only[r_g,Nat.reduceAdd,↓reduceIte,Nat.reduceEqDiff,intsD];first|done|rfl)
 refine zaj ?_
 refine zap (t:=2) rfl ?_
 show ∃_,_
 exact⟨_,rfl,rfl,rfl⟩
theorem jux(l:List Int)(hl:l.length≤1000000):ScS prog [] 185 [.d (intsD l)] [.free] (yif l):=by
 rcases l with _|⟨g,l⟩
 ·exact jnk
 ·exact jnl _ hl (by simp)
theorem Rt.fr1{m:List Nat}{τ:Fr}{H:zad}:Rt m τ H τ (H++[.free]):=fun c a w _ h=>R.reserve 1 H h
def zl6:AObj:=.cells [.d (oD false),.d (.val (.slice none 0 0)),.d (.val (.slice none 0 0)),.d (.val (.slice none 0 0)),.d (.val (.slice none 0 0))]
theorem zfh{p q:Prop}(hq:q)(h:p=q:=by
 conv=>lhs;simp -dsimp -implicitDefEqProofs (disch:=first|assumption|omega|(simp only[r_z,zac,zab,zat,zbv,zbw,zbx,zby]<;>omega)|decide) only[r_r,↓reduceIte,Nat.reduceEqDiff,Nat.reduceAdd,D.fix,Int.reduceToNat,Nat.reduceMul,Nat.reduceBNe,Nat.reduceBEq,r_m,zdj,zdu,zbf,zbj,zc5,za9,zcp,zb2,zb9,zcj,iD,oD,zl6,qae]):p:=h.mpr hq
theorem zxb(k:List Nat){m:List Nat}{τ τ1:Fr}{H H1:zad}(h:Rt m (fun t=>gcV k (τ t)) (gcH k H) τ1 H1)(a:∀i∈m,k[i]? =some i:=by decide)(b:k.Nodup:=by decide)(c:∀i∈k,i<H.length:=by
 simp[fzH,gcH]):Rt m τ H τ1 H1:=Rt.trans (Rt.gc a b c) h
theorem zxc{m:List Nat}{τ τ':Fr}{H H':zad}(h2:H=H')(h:zgk τ τ':=by
 repeat (first|exact zaq _|refine zak ?_ (by first|rfl|(simp[r_f,zac,zab,zat,zbv,zbw,zbx,zby,jse];done)|simp[r_f,zac,zab,zat,zbv,zbw,zbx,zby,jse, *]))):Rt m τ H τ' H':=Rt.end h h2
theorem yca{p q r:Prop}(e:r)(hq:q)(h:r→p=q:=by
 intro hY
 conv=>lhs;simp -dsimp -implicitDefEqProofs (disch:=first|assumption|omega|(simp only[r_z,zac,zab,zat,zbv,zbw,zbx,zby]<;>omega)|decide) only[r_r,↓reduceIte,Nat.reduceEqDiff,Nat.reduceAdd,D.fix,Int.reduceToNat,Nat.reduceMul,Nat.reduceBNe,Nat.reduceBEq,r_m,zdj,zdu,zbf,zbj,zc5,za9,zcp,zb2,zb9,zcj,iD,oD,zl6,za4,qae,hY]):p:=(h e).mpr hq
theorem ycb{p q r:Prop}(e:r)(hq:q)(h:r→p=q:=by
 intro hY
 conv=>lhs;simp -dsimp -implicitDefEqProofs (disch:=first|assumption|omega|(simp only[r_z,zac,zab,zat,zbv,zbw,zbx,zby]<;>omega)|decide) only[r_r,↓reduceIte,Nat.reduceEqDiff,Nat.reduceAdd,D.fix,Int.reduceToNat,Nat.reduceMul,Nat.reduceBNe,Nat.reduceBEq,r_w,r_m,zdj,zdu,zbf,zbj,zc5,za9,zcp,zb2,zb9,zcj,iD,oD,zl6,zii,zfc,zpk jsi hkw hE.w.ok,Option.getD_some,Option.getD_none,qae,hY]):p:=(h e).mpr hq
theorem juy{p q:Prop}(hq:q)(h:p=q:=by
 conv=>lhs;simp -dsimp -implicitDefEqProofs (disch:=first|assumption|omega|(simp only[r_z,zac,zab,zat,zbv,zbw,zbx,zby]<;>omega)|decide) only[r_r,↓reduceIte,Nat.reduceEqDiff,Nat.reduceAdd,D.fix,Int.reduceToNat,Nat.reduceMul,Nat.reduceBNe,Nat.reduceBEq,r_m,zdj,zdu,zbf,zbj,zc5,za9,zcp,zb2,zb9,zcj,iD,oD,zl6]):p:=h.mpr hq
theorem ycc{p q r:Prop}(e:r)(hq:q)(h:r→p=q:=by
 intro hY
 conv=>lhs;simp -dsimp -implicitDefEqProofs (disch:=first|assumption|omega|(simp only[r_z,zac,zab,zat,zbv,zbw,zbx,zby]<;>omega)|decide) only[r_r,↓reduceIte,Nat.reduceEqDiff,Nat.reduceAdd,D.fix,Int.reduceToNat,Nat.reduceMul,Nat.reduceBNe,Nat.reduceBEq,r_m,zdj,zdu,zbf,zbj,zc5,za9,zcp,zb2,zb9,zcj,iD,oD,zl6,zii,zfc,zpk ygv hk8 hE.s.ok,Option.getD_some,Option.getD_none,qae,hY]):p:=(h e).mpr hq
theorem ycd{p q r:Prop}(e:r)(hq:q)(h:r→p=q:=by
 intro hY
 conv=>lhs;simp -dsimp -implicitDefEqProofs (disch:=first|assumption|omega|(simp only[r_z,zac,zab,zat,zbv,zbw,zbx,zby]<;>omega)|decide) only[r_r,↓reduceIte,Nat.reduceEqDiff,Nat.reduceAdd,D.fix,Int.reduceToNat,Nat.reduceMul,Nat.reduceBNe,Nat.reduceBEq,r_m,zdj,zdu,zbf,zbj,zc5,za9,zcp,zb2,zb9,zcj,iD,oD,zl6,qae,hY]):p:=(h e).mpr hq
theorem yce{p q r:Prop}(e:r)(hq:q)(h:r→p=q:=by
 intro hY
 conv=>lhs;simp -dsimp -implicitDefEqProofs (disch:=first|assumption|omega|(simp only[r_z,zac,zab,zat,zbv,zbw,zbx,zby]<;>omega)|decide) only[r_r,↓reduceIte,Nat.reduceEqDiff,Nat.reduceAdd,D.fix,Int.reduceToNat,Nat.reduceMul,Nat.reduceBNe,Nat.reduceBEq,r_m,zdj,zdu,zbf,zbj,zc5,za9,zcp,zb2,zb9,zcj,iD,oD,zl6,zii,zfc,zpk ygv hk6 hE.s.ok,Option.getD_some,Option.getD_none,qae,hY]):p:=(h e).mpr hq
theorem jj5{p:Prop}(h:p:=by
 first|rfl|(simp only[r_g,Nat.reduceAdd,↓reduceIte,Nat.reduceEqDiff,r_m,zdj,zdu,zbf,zbj,zc5,za9,zcp,zb2,zb9,zcj,iD,oD,zl6];first|done|rfl)):p:=h
theorem jxk{p q:Prop}(hq:q)(h:p=q:=by
 conv=>lhs;simp only[r_g,Nat.reduceAdd,↓reduceIte,Nat.reduceEqDiff,r_m,zdj,zdu,zbf,zbj,zc5,za9,zcp,zb2,zb9,zcj,iD,oD,zl6]):p:=h.mpr hq
theorem jnm(n:Net)(s:PSt)(v:List Bool)(e0 e1:Int)(ho:n.out.length≤1000000)(hv:n.out.length≤v.length)(hw:∀w∈n.out,WireOut w)(h1:s.regs.length≤1000000)(h2:s.mems.length≤1000000)(h3:∀l∈s.mems,l.length≤1000000)(h4:e0≤1000000)(h5:e1≤1000000)(h6: -1000000≤e0)(h7: -1000000≤e1):za2 prog 156 [zdj n,.agg (zc5 s),boolsD v,.agg [iD e0,iD e1]] (.d (.agg (zgz (efF n.out s v e0.toNat e1.toNat)))):=by
 refine zax (fn:=f156) (by kernel_rfl) func156 rfl (qaf rfl) fun c hc hp=>?_
 refine za0 (τ':=frL [(0,.d (zdj n)),(1,.d (.agg (zc5 s))),(2,.d (boolsD v)),(3,.d (.agg [iD e0,iD e1]))]) (by repeat (first|exact zaq _|refine zak ?_ (by first|rfl|(simp[r_f,zac,zab,zat,zbv,zbw,zbx,zby,jse];done)|simp[r_f,zac,zab,zat,zbv,zbw,zbx,zby,jse, *]))) ?_
 refine szq (zfh ·) ?_
 refine szq (zfh ·) ?_
 refine zaa fun K3 hK3=>?_
 refine szq (zfh ·) ?_
 refine zag ?_
 refine zao hp (fun τ' H' mm=>∃(k:Nat) (μs μw:Mp),(k≤n.out.length∧EfP n.out v k μs μw)∧mm=n.out.length - k∧H'=[.cells (avs (zdu n)),.cells (avs (zc5 s)),.cells [.d (iD e0),.d (iD e1)],zl6,mO μs,mO μw]∧τ'=frL [(2,.d (boolsD v)),(4,.op 0 0),(5,.op 1 0),(7,.op 2 0),(8,.op 3 0),(9,.om 4),(10,.om 5),(24,.d (zbf n.out)),(25,.d (iD n.out.length)),(26,.d (iD k))]) (n.out.length) ?_ ⟨0,([],0),([],0),⟨qap _,EfP.nil _ _⟩,rfl,rfl,rfl⟩ ?_
 ·refine zxb [0,1,2,3,4,5] ?_
  refine zxc ?_
  exact jj5
 rintro τ' H' mm ⟨k,μs,μw,⟨hk,hE⟩,rfl,rfl,rfl⟩
 refine szq (zfh ·) ?_
 refine zaa fun K6 hK6=>?_
 refine zan rfl (fun ht=>?_) (fun ht=>?_)
 ·have hlt:k<n.out.length:=by simp at ht;omega
  obtain⟨ko,i0,b0,b7,i2⟩:=hw _ (zcb hlt)
  have I1:I64 (nth n.out k).kind:=zh2 (by omega) (by omega)
  have I2:I64 (nth n.out k).i:=zh2 (by omega) (by omega)
  refine zai (hK6 _ _ ?_)
  refine zaa fun K7 hK7=>?_
  refine zag ?_
  refine szq (zfh ·) ?_
  refine zaf hp zah hc rfl fun K9 hK9=>?_
  rcases tf (nth v k)with e|e
  ·refine yca e ?_
   refine hK9 _ _ ?_
   refine szt ?_
   skip
   have hks:zk8 prog tEb (eV (nth n.out k).kind (nth n.out k).i):=zw3 I1 I2
   have hkw:zk8 prog tEi (eV (nth n.out k).kind (nth n.out k).i):=zt5 I1 I2
   refine zaf hp zah hc rfl fun K10 hK10=>?_
   simp -dsimp -implicitDefEqProofs (disch:=first|assumption|omega|(simp only[r_z,zac,zab,zat,zbv,zbw,zbx,zby]<;>omega)|decide) only[r_r,↓reduceIte,Nat.reduceEqDiff,Nat.reduceAdd,D.fix,Int.reduceToNat,Nat.reduceMul,Nat.reduceBNe,Nat.reduceBEq,r_m,zdj,zdu,zbf,zbj,zc5,za9,zcp,zb2,zb9,zcj,iD,oD,zl6,zii,je6 ygv hks hE.s.ok,qae]
   refine hK10 _ _ ?_
   refine zmu zah hp hc mixed rfl [(0,[]),(1,[]),(2,[]),(3,[]),(4,[]),(5,[]),(6,[]),(7,[]),(8,[]),(9,[]),(10,[]),(11,[6]),(12,[]),(13,[])] [[],[],[1],[],[3],[1,2,3,4],[0,1,2,3,4,5],[],[7],[7,8],[0,1,2,3,4,5,6,7,8,9],[0,1,2,3,4,5,7,8,9],[0,1,2,3,4,5,7,8,9,11],[0,1,2,3,4,5,6,7,8,9,10,11,12]] 0 (by kernel_rfl) fun K11 hK11=>?_
   rcases tf (zog n.out v (nth n.out k).kind (nth n.out k).i k)with e2|e2
   ·have hgm:zl2 (eV (nth n.out k).kind (nth n.out k).i) μw=some (.int .i64 (zen n.out v (nth n.out k).kind (nth n.out k).i k)):=by rw[hE.gw _ _ I1 I2,if_pos e2]
    have hA:=fun(H:zad) (id:Nat)=>yib (H:=H) (id:=id) jsi hkw hE.w hgm
    have hB:=fun(H:zad) (id:Nat) (w:Value)=>yic (H:=H) (id:=id) (w:=w) hE.w hgm
    have hC:=hgm
    refine ycb (sza hgm (sza hA (sza hB hC))) ?_
    refine hK11 _ _ (hK7 _ _ ?_)
    refine za1 hp zah hc rfl fun K12 hK12=>?_
    refine zfh ?_
    refine hK12 _ _ ⟨_,_,_,?_,⟨k+1,_,_,⟨by omega,hE.add e I1 I2⟩,rfl,rfl,rfl⟩,?_⟩
    ·first|omega|(simp only[List.length_cons];omega)|(dsimp only;omega)
    ·refine zxb [0,1,2,3,4,5] ?_
     refine zxc ?_
     exact jj5
   ·have hgm:zl2 (eV (nth n.out k).kind (nth n.out k).i) μw=none:=by rw[hE.gw _ _ I1 I2,if_neg (by rw[e2];simp)]
    have hw0:=jj4 e2
    have hA:=fun(H:zad) (id:Nat)=>yhz (H:=H) (id:=id) jsi hkw hE.w.ok hgm
    have hB:=fun(H:zad) (id:Nat) (w:Value)=>yh0 (H:=H) (id:=id) (u:=w) (z:=.int .i64 0) hE.w.ok hkw.1 hgm
    have hC:=yid jsi hkw hE.w.ok hgm
    refine ycb (sza hgm (sza hA (sza hB hC))) ?_
    refine hK11 _ _ (hK7 _ _ ?_)
    refine za1 hp zah hc rfl fun K13 hK13=>?_
    refine zfh ?_
    refine hK13 _ _ ⟨_,_,_,?_,⟨k+1,_,_,⟨by omega,hE.add e I1 I2⟩,rfl,rfl,rfl⟩,?_⟩
    ·first|omega|(simp only[List.length_cons];omega)|(dsimp only;omega)
    ·refine zxb [0,1,2,3,4,5] ?_
     refine zxc ?_
     refine jxk ?_;rw[hw0];rfl
  ·refine yca e ?_
   refine hK9 _ _ ?_
   refine szf ?_
   refine zai (hK7 _ _ ?_)
   refine za1 hp zah hc rfl fun K14 hK14=>?_
   refine zfh ?_
   refine hK14 _ _ ⟨_,_,_,?_,⟨k+1,_,_,⟨by omega,hE.same e⟩,rfl,rfl,rfl⟩,?_⟩
   ·first|omega|(simp only[List.length_cons];omega)|(dsimp only;omega)
   ·refine zxb [0,1,2,3,4,5] ?_
    refine zxc ?_
    exact jj5
 ·have hkk:k=n.out.length:=by simp at ht;omega
  subst hkk
  refine zau (hK3 _ _ ?_)
  refine szq (zfh ·) ?_
  refine zaa fun K16 hK16=>?_
  refine szq (zfh ·) ?_
  refine zag ?_
  refine zao hp (fun τ' H' mm=>∃(i:Nat),(i≤s.regs.length)∧mm=s.regs.length - i∧H'=[.cells (avs (zc5 s)),.cells [.d (iD e0),.d (iD e1)],zl6,mO μs,mO μw,.cells [.d (oD false),.os 1 6 0 i,.d (.val (.slice none 0 0)),.d (.val (.slice none 0 0)),.d (.val (.slice none 0 0))],.cells (avs ((znf n.out v i).map iD))]∧τ'=frL [(5,.op 0 0),(7,.op 1 0),(8,.op 2 0),(9,.om 3),(10,.om 4),(13,.op 5 0),(57,.d (iD s.regs.length)),(58,.d (iD i))]) (s.regs.length) ?_ ⟨0,qap _,rfl,rfl,rfl⟩ ?_
  ·refine Rt.trans (Rt.nilc 6 1 1 rfl rfl) ?_
   refine zxb [1,2,3,4,5,6,7] ?_
   refine zxc ?_
   exact jj5
  rintro τ' H' mm ⟨i,hi,rfl,rfl,rfl⟩
  refine szq (zfh ·) ?_
  refine zaa fun K19 hK19=>?_
  refine zan rfl (fun ht=>?_) (fun ht=>?_)
  ·have hlt:i<s.regs.length:=by simp at ht;omega
   have I3:I64 (i:Int):=zh2 (by omega) (by omega)
   have hkw:zk8 prog tEi (eV 1 i):=zt5 (zh2 (by omega) (by omega)) I3
   have hgm:=hE.gw 1 i (zh2 (by omega) (by omega)) I3
   refine zai (hK19 _ _ ?_)
   refine zaa fun K20 hK20=>?_
   refine zag ?_
   refine szq (juy ·) ?_
   refine zov zah hc mixed rfl (q:=2) (by kernel_rfl) (by kernel_rfl) fun K22 hK22=>?_
   simp -dsimp -implicitDefEqProofs (disch:=first|assumption|omega|(simp only[r_z,zac,zab,zat,zbv,zbw,zbx,zby]<;>omega)|decide) only[r_r,↓reduceIte,Nat.reduceEqDiff,Nat.reduceAdd,D.fix,Int.reduceToNat,Nat.reduceMul,Nat.reduceBNe,Nat.reduceBEq,r_m,zdj,zdu,zbf,zbj,zc5,za9,zcp,zb2,zb9,zcj,iD,oD,zl6,zii,zfc,zpk jsi hkw hE.w.ok,hgm,zng,qae]
   refine hK22 _ _ (hK20 _ _ ?_)
   refine za1 hp zah hc rfl fun K23 hK23=>?_
   refine zfh ?_
   refine hK23 _ _ ⟨_,_,_,?_,⟨i+1,by omega,rfl,rfl,rfl⟩,?_⟩
   ·first|omega|(simp only[List.length_cons];omega)|(dsimp only;omega)
   ·refine zxb [0,1,2,3,4,5,8] ?_
    refine zxc ?_
    refine jxk ?_;rw[jfj];simp[iD]
  ·have hii:i=s.regs.length:=by simp at ht;omega
   subst hii
   refine zau (hK16 _ _ ?_)
   refine zaa fun K24 hK24=>?_
   refine szq (zfh ·) ?_
   refine zag ?_
   refine zao hp (fun τ' H' mm=>∃(i:Nat),(i≤s.mems.length)∧mm=s.mems.length - i∧H'=[.cells (avs (zc5 s)),.cells [.d (iD e0),.d (iD e1)],zl6,mO μs,mO μw,.cells [.d (oD false),.os 1 6 0 s.regs.length,.os 1 7 0 i,.d (.val (.slice none 0 0)),.d (.val (.slice none 0 0))],.cells (avs ((znf n.out v s.regs.length).map iD)),.cells (avs ((zoh n.out v s.mems i).map intsD))]∧τ'=frL [(5,.op 0 0),(7,.op 1 0),(8,.op 2 0),(9,.om 3),(10,.om 4),(13,.op 5 0),(74,.d (intssD s.mems)),(75,.d (iD s.mems.length)),(76,.d (iD i))]) (s.mems.length) ?_ ⟨0,qap _,rfl,rfl,rfl⟩ ?_
   ·refine Rt.trans (Rt.nilc 5 2 1 rfl rfl) ?_
    refine zxb [0,1,2,3,4,5,6,7] ?_
    refine zxc ?_
    exact jj5
   rintro τ' H' mm ⟨i,hi,rfl,rfl,rfl⟩
   refine szq (zfh ·) ?_
   refine zaa fun K27 hK27=>?_
   refine zan rfl (fun ht=>?_) (fun ht=>?_)
   ·have hlt:i<s.mems.length:=by simp at ht;omega
    have I3:I64 (i:Int):=zh2 (by omega) (by omega)
    have hml:(nth s.mems i).length≤1000000:=h3 _ (zcb hlt)
    refine zai (hK27 _ _ ?_)
    refine zaa fun K28 hK28=>?_
    refine zag ?_
    refine zaf hp zah hc rfl fun K29 hK29=>?_
    simp -dsimp -implicitDefEqProofs (disch:=first|assumption|omega|(simp only[r_z,zac,zab,zat,zbv,zbw,zbx,zby]<;>omega)|decide) only[r_r,↓reduceIte,Nat.reduceEqDiff,Nat.reduceAdd,D.fix,Int.reduceToNat,Nat.reduceMul,Nat.reduceBNe,Nat.reduceBEq,r_m,zdj,zdu,zbf,zbj,zc5,za9,zcp,zb2,zb9,zcj,iD,oD,zl6,za4,qae]
    refine hK29 _ _ ?_
    refine zav hp (τ':=frL [(5,.op 1 0),(7,.op 2 0),(8,.op 3 0),(9,.om 4),(10,.om 5),(13,.op 6 0),(15,.d (iD i)),(16,.d (intsD (nth s.mems i))),(74,.d (intssD s.mems)),(75,.d (iD s.mems.length)),(76,.d (iD i))]) (H':=.free::[.cells (avs (zc5 s)),.cells [.d (iD e0),.d (iD e1)],zl6,mO μs,mO μw,.cells [.d (oD false),.os 1 7 0 s.regs.length,.os 1 8 0 i,.d (.val (.slice none 0 0)),.d (.val (.slice none 0 0))],.cells (avs ((znf n.out v s.regs.length).map iD)),.cells (avs ((zoh n.out v s.mems i).map intsD))]) ?_ ?_
    ·refine Rt.trans (Rt.fr1) ?_
     refine zxb [8,0,1,2,3,4,5,6,7] ?_
     refine zxc ?_
     exact jj5
    refine zaf hp zah hc rfl fun K30 hK30=>?_
    refine zfh ?_
    refine zk7 (S:=[.free]) (T:=[.cells (avs (zc5 s)),.cells [.d (iD e0),.d (iD e1)],zl6,mO μs,mO μw,.cells [.d (oD false),.os 1 7 0 s.regs.length,.os 1 8 0 i,.d (.val (.slice none 0 0)),.d (.val (.slice none 0 0))],.cells (avs ((znf n.out v s.regs.length).map iD)),.cells (avs ((zoh n.out v s.mems i).map intsD))]) (jux (nth s.mems i) hml) rfl (by first|rfl|(simp[AV.allIs,AV.allI,zas,zal,zam,okI,ltI,zae,zaz,zl6];done)|(intro o ho;simp at ho;done)) (fun t=>zbi (by first|rfl|(simp[AV.allIs,AV.allI,zas,zal,zam,okI,ltI,zae,zaz,zl6];done)|(intro o ho;simp at ho;done)) t) (by first|rfl|(simp[AV.allIs,AV.allI,zas,zal,zam,okI,ltI,zae,zaz,zl6];done)|(intro o ho;simp at ho;done)) (by first|rfl|(simp[AV.allIs,AV.allI,zas,zal,zam,okI,ltI,zae,zaz,zl6];done)|(intro o ho;simp at ho;done)) (by first|rfl|(simp[AV.allIs,AV.allI,zas,zal,zam,okI,ltI,zae,zaz,zl6];done)|(intro o ho;simp at ho;done)) ?_
    rintro _ _ ⟨_,rfl,rfl,rfl⟩
    refine⟨rfl,?_⟩
    refine zfh ?_
    refine hK30 _ _ ?_
    refine zaa fun K31 hK31=>?_
    have hJ31:∀τ' H',(∃τ1 H1,∃(ml:List Int),(ml=jge n.out v i (nth s.mems i))∧H1=[.cells (avs (zc5 s)),.cells [.d (iD e0),.d (iD e1)],zl6,mO μs,mO μw,.cells [.d (oD false),.os 1 6 0 s.regs.length,.os 1 7 0 i,.d (.val (.slice none 0 0)),.d (.val (.slice none 0 0))],.cells (avs ((znf n.out v s.regs.length).map iD)),.cells (avs ((zoh n.out v s.mems i).map intsD))]∧τ1=frL [(5,.op 0 0),(7,.op 1 0),(8,.op 2 0),(9,.om 3),(10,.om 4),(13,.op 5 0),(16,.d (intsD ml)),(74,.d (intssD s.mems)),(75,.d (iD s.mems.length)),(76,.d (iD i))]∧Rt [] τ' H' τ1 H1)→K31 τ' H':=by
     rintro τ' H' ⟨_,_,ml,hml2,rfl,rfl,hrt⟩
     refine hK31 _ _ (zav hp hrt ?_)
     clear hrt
     refine szs (zfh ·) (hK28 _ _ ?_)
     refine za1 hp zah hc rfl fun K33 hK33=>?_
     refine zfh ?_
     refine hK33 _ _ ⟨_,_,_,?_,⟨i+1,by omega,rfl,rfl,rfl⟩,?_⟩
     ·first|omega|(simp only[List.length_cons];omega)|(dsimp only;omega)
     ·refine zxb [0,1,2,3,4,5,6,9] ?_
      refine zxc ?_
      refine jxk ?_;rw[jfk,←hml2];simp[intsD,iD]
    have hk9:zk8 prog tEi (eV 9 i):=zt5 (zh2 (by omega) (by omega)) I3
    have hg9:=hE.gw 9 i (zh2 (by omega) (by omega)) I3
    have hk8:zk8 prog tEb (eV 8 i):=zw3 (zh2 (by omega) (by omega)) I3
    have hg8:=hE.gs 8 i (zh2 (by omega) (by omega)) I3
    have hk10:zk8 prog tEi (eV 10 i):=zt5 (zh2 (by omega) (by omega)) I3
    have hg10:=hE.gw 10 i (zh2 (by omega) (by omega)) I3
    obtain⟨at9,ha9,hb9⟩:=jsg (out:=n.out) (v:=v) (kind:=9) (i:=i) (fun k hk=>⟨(hw _ (zcb hk)).b0,(hw _ (zcb hk)).b7⟩) (qao _)
    have hd9:=zng (out:=n.out) (v:=v) (kind:=9) (i:=i) (k:=n.out.length)
    rw[ha9]at hd9 hg9
    refine zaf hp zah hc rfl fun K34 hK34=>?_
    simp -dsimp -implicitDefEqProofs (disch:=first|assumption|omega|(simp only[r_z,zac,zab,zat,zbv,zbw,zbx,zby]<;>omega)|decide) only[r_r,↓reduceIte,Nat.reduceEqDiff,Nat.reduceAdd,D.fix,Int.reduceToNat,Nat.reduceMul,Nat.reduceBNe,Nat.reduceBEq,r_m,zdj,zdu,zbf,zbj,zc5,za9,zcp,zb2,zb9,zcj,iD,oD,zl6,zii,zfc,zpk jsi hk9 hE.w.ok,hg9,hd9,ha9,qae]
    refine hK34 _ _ ?_
    refine zaf hp zah hc rfl fun K35 hK35=>?_
    rcases tf (zog n.out v 8 i n.out.length)with e8|e8
    ·refine ycc (sza hg8 e8) ?_
     refine hK35 _ _ ?_
     refine zan rfl (fun ht=>?_) (fun ht=>?_)
     ·have hlt9:at9<(nth s.mems i).length:=by simpa using ht
      have hmf:jge n.out v i (nth s.mems i)=(nth s.mems i).set at9 (zen n.out v 10 i n.out.length):=by unfold jge;rw[ha9,e8,if_pos (by simp;omega)];simp
      refine za1 hp zah hc rfl fun K36 hK36=>?_
      simp -dsimp -implicitDefEqProofs (disch:=first|assumption|omega|(simp only[r_z,zac,zab,zat,zbv,zbw,zbx,zby]<;>omega)|decide) only[r_r,↓reduceIte,Nat.reduceEqDiff,Nat.reduceAdd,D.fix,Int.reduceToNat,Nat.reduceMul,Nat.reduceBNe,Nat.reduceBEq,r_m,zdj,zdu,zbf,zbj,zc5,za9,zcp,zb2,zb9,zcj,iD,oD,zl6,zii,zfc,zpk jsi hk10 hE.w.ok,hg10,zng,qae]
      refine hK36 _ _ (hJ31 _ _ ⟨_,_,_,hmf.symm,rfl,rfl,?_⟩)
      refine Rt.trans (Rt.fz (id:=0) rfl) ?_
      refine Rt.trans (Rt.slot 16 (zex (zba (by simp[r_z,zac,zab,zat,zbv,zbw,zbx,zby])))) ?_
      refine zxb [1,2,3,4,5,6,7,8] ?_
      refine zxc ?_
      exact jj5
     ·have hmf:jge n.out v i (nth s.mems i)=nth s.mems i:=by unfold jge;rw[ha9,e8,if_neg (by simpa using ht)]
      refine zai (hJ31 _ _ ⟨_,_,_,hmf.symm,rfl,rfl,?_⟩)
      refine Rt.trans (Rt.fz (id:=0) rfl) ?_
      refine Rt.trans (Rt.slot 16 (zex (zba (by simp[r_z,zac,zab,zat,zbv,zbw,zbx,zby])))) ?_
      refine zxb [1,2,3,4,5,6,7,8] ?_
      refine zxc ?_
      exact jj5
    ·refine ycc (sza hg8 e8) ?_
     refine hK35 _ _ ?_
     refine szf ?_
     have hmf:jge n.out v i (nth s.mems i)=nth s.mems i:=by unfold jge;rw[e8,if_neg (by simp)]
     refine zai (hJ31 _ _ ⟨_,_,_,hmf.symm,rfl,rfl,?_⟩)
     refine Rt.trans (Rt.fz (id:=0) rfl) ?_
     refine Rt.trans (Rt.slot 16 (zex (zba (by simp[r_z,zac,zab,zat,zbv,zbw,zbx,zby])))) ?_
     refine zxb [1,2,3,4,5,6,7,8] ?_
     refine zxc ?_
     exact jj5
   ·have hii:i=s.mems.length:=by simp at ht;omega
    subst hii
    have hE1:((max e0 0:Int))=(e0.toNat:Int):=by omega
    refine zau (hK24 _ _ ?_)
    refine zaa fun K37 hK37=>?_
    refine szq (ycd hE1 ·) ?_
    refine zag ?_
    refine zao hp (fun τ' H' mm=>∃(i:Nat),(i≤e0.toNat)∧mm=e0.toNat - i∧H'=[.cells (avs (zc5 s)),.cells [.d (iD e0),.d (iD e1)],zl6,mO μs,mO μw,.cells [.d (oD false),.os 1 6 0 s.regs.length,.os 1 7 0 s.mems.length,.os 1 8 0 i,.d (.val (.slice none 0 0))],.cells (avs ((znf n.out v s.regs.length).map iD)),.cells (avs ((zoh n.out v s.mems s.mems.length).map intsD)),.cells (avs ((zva n.out v i).map oD))]∧τ'=frL [(5,.op 0 0),(7,.op 1 0),(8,.op 2 0),(9,.om 3),(10,.om 4),(13,.op 5 0),(115,.d (iD e0.toNat)),(116,.d (iD i))]) (e0.toNat) ?_ ⟨0,qap _,rfl,rfl,rfl⟩ ?_
    ·refine Rt.trans (Rt.nilc 5 3 1 rfl rfl) ?_
     refine zxb [0,1,2,3,4,5,6,7,8] ?_
     refine zxc ?_
     exact jj5
    rintro τ' H' mm ⟨i,hi,rfl,rfl,rfl⟩
    refine szq (zfh ·) ?_
    refine zaa fun K40 hK40=>?_
    refine zan rfl (fun ht=>?_) (fun ht=>?_)
    ·have hlt:i<e0.toNat:=by simp at ht;omega
     have I3:I64 (i:Int):=zh2 (by omega) (by omega)
     have hk5:zk8 prog tEb (eV 5 i):=zw3 (zh2 (by omega) (by omega)) I3
     have hg5:=hE.gs 5 i (zh2 (by omega) (by omega)) I3
     refine zai (hK40 _ _ ?_)
     refine zaa fun K41 hK41=>?_
     refine zag ?_
     refine szq (juy ·) ?_
     refine zov zah hc mixed rfl (q:=2) (by kernel_rfl) (by kernel_rfl) fun K43 hK43=>?_
     simp -dsimp -implicitDefEqProofs (disch:=first|assumption|omega|(simp only[r_z,zac,zab,zat,zbv,zbw,zbx,zby]<;>omega)|decide) only[r_r,↓reduceIte,Nat.reduceEqDiff,Nat.reduceAdd,D.fix,Int.reduceToNat,Nat.reduceMul,Nat.reduceBNe,Nat.reduceBEq,r_m,zdj,zdu,zbf,zbj,zc5,za9,zcp,zb2,zb9,zcj,iD,oD,zl6,zii,zfc,zpk ygv hk5 hE.s.ok,hg5,jnj,qae]
     refine hK43 _ _ (hK41 _ _ ?_)
     refine za1 hp zah hc rfl fun K44 hK44=>?_
     refine zfh ?_
     refine hK44 _ _ ⟨_,_,_,?_,⟨i+1,by omega,rfl,rfl,rfl⟩,?_⟩
     ·first|omega|(simp only[List.length_cons];omega)|(dsimp only;omega)
     ·refine zxb [0,1,2,3,4,5,6,7,10] ?_
      refine zxc ?_
      refine jxk ?_;rw[jfl];simp[oD]
    ·have hii:i=e0.toNat:=by simp at ht;omega
     subst hii
     have hE2:((max e1 0:Int))=(e1.toNat:Int):=by omega
     refine zau (hK37 _ _ ?_)
     refine zaa fun K45 hK45=>?_
     refine szq (ycd hE2 ·) ?_
     refine zag ?_
     refine zao hp (fun τ' H' mm=>∃(i:Nat),(i≤e1.toNat)∧mm=e1.toNat - i∧H'=[.cells (avs (zc5 s)),.cells [.d (iD e0),.d (iD e1)],zl6,mO μs,mO μw,.cells [.d (oD false),.os 1 6 0 s.regs.length,.os 1 7 0 s.mems.length,.os 1 8 0 e0.toNat,.os 2 9 0 i],.cells (avs ((znf n.out v s.regs.length).map iD)),.cells (avs ((zoh n.out v s.mems s.mems.length).map intsD)),.cells (avs ((zva n.out v e0.toNat).map oD)),.cells (avs ((zxa n.out v i).flatMap zcj))]∧τ'=frL [(5,.op 0 0),(7,.op 1 0),(8,.op 2 0),(9,.om 3),(10,.om 4),(13,.op 5 0),(131,.d (iD e1.toNat)),(132,.d (iD i))]) (e1.toNat) ?_ ⟨0,qap _,rfl,rfl,rfl⟩ ?_
     ·refine Rt.trans (Rt.nilc 5 4 2 rfl rfl) ?_
      refine zxb [0,1,2,3,4,5,6,7,8,9] ?_
      refine zxc ?_
      exact jj5
     rintro τ' H' mm ⟨i,hi,rfl,rfl,rfl⟩
     refine szq (zfh ·) ?_
     refine zaa fun K48 hK48=>?_
     refine zan rfl (fun ht=>?_) (fun ht=>?_)
     ·have hlt:i<e1.toNat:=by simp at ht;omega
      have I3:I64 (i:Int):=zh2 (by omega) (by omega)
      have hk6:zk8 prog tEb (eV 6 i):=zw3 (zh2 (by omega) (by omega)) I3
      have hg6:=hE.gs 6 i (zh2 (by omega) (by omega)) I3
      have hk7:zk8 prog tEi (eV 7 i):=zt5 (zh2 (by omega) (by omega)) I3
      have hg7:=hE.gw 7 i (zh2 (by omega) (by omega)) I3
      refine zai (hK48 _ _ ?_)
      refine zaa fun K49 hK49=>?_
      refine zag ?_
      refine szq (juy ·) ?_
      refine szq (zfh ·) ?_
      refine zaa fun K52 hK52=>?_
      refine zaf hp zah hc rfl fun K53 hK53=>?_
      rcases tf (zog n.out v 6 i n.out.length)with e6|e6
      ·have hpf:jsh n.out v i=⟨true,zen n.out v 7 i n.out.length⟩:=by unfold jsh;rw[if_pos e6]
       refine yce (sza hg6 e6) ?_
       refine hK53 _ _ ?_
       refine szt ?_
       refine za1 hp zah hc rfl fun K54 hK54=>?_
       simp -dsimp -implicitDefEqProofs (disch:=first|assumption|omega|(simp only[r_z,zac,zab,zat,zbv,zbw,zbx,zby]<;>omega)|decide) only[r_r,↓reduceIte,Nat.reduceEqDiff,Nat.reduceAdd,D.fix,Int.reduceToNat,Nat.reduceMul,Nat.reduceBNe,Nat.reduceBEq,r_m,zdj,zdu,zbf,zbj,zc5,za9,zcp,zb2,zb9,zcj,iD,oD,zl6,zii,zfc,zpk jsi hk7 hE.w.ok,hg7,zng,qae]
       refine hK54 _ _ (hK52 _ _ ?_)
       refine szs (zfh ·) (hK49 _ _ ?_)
       refine za1 hp zah hc rfl fun K56 hK56=>?_
       refine zfh ?_
       refine hK56 _ _ ⟨_,_,_,?_,⟨i+1,by omega,rfl,rfl,rfl⟩,?_⟩
       ·first|omega|(simp only[List.length_cons];omega)|(dsimp only;omega)
       ·refine zxb [0,1,2,3,4,5,6,7,8,12] ?_
        refine zxc ?_
        refine jxk ?_;rw[zt6,hpf];simp[zcj,oD,iD]
      ·have hpf:jsh n.out v i=⟨false,0⟩:=by unfold jsh;rw[if_neg (by rw[e6];simp)]
       refine yce (sza hg6 e6) ?_
       refine hK53 _ _ ?_
       refine szf ?_
       refine zai (hK52 _ _ ?_)
       refine szs (zfh ·) (hK49 _ _ ?_)
       refine za1 hp zah hc rfl fun K58 hK58=>?_
       refine zfh ?_
       refine hK58 _ _ ⟨_,_,_,?_,⟨i+1,by omega,rfl,rfl,rfl⟩,?_⟩
       ·first|omega|(simp only[List.length_cons];omega)|(dsimp only;omega)
       ·refine zxb [0,1,2,3,4,5,6,7,8,12] ?_
        refine zxc ?_
        refine jxk ?_;rw[zt6,hpf];simp[zcj,oD,iD]
     ·have hii:i=e1.toNat:=by simp at ht;omega
      subst hii
      refine zau (hK45 _ _ ?_)
      refine szq (zfh ·) ?_
      refine zaj ?_
      try dsimp only[zcg,za5]
      refine za6 rfl ?_
      simp -dsimp -implicitDefEqProofs (disch:=first|assumption|omega|(simp only[r_z,zac,zab,zat,zbv,zbw,zbx,zby]<;>omega)|decide) only[r_r,↓reduceIte,Nat.reduceEqDiff,Nat.reduceAdd,D.fix,Int.reduceToNat,Nat.reduceMul,Nat.reduceBNe,Nat.reduceBEq,r_m,zdj,zdu,zbf,zbj,zc5,za9,zcp,zb2,zb9,zcj,iD,oD,zl6,zn8,zrq]
      show closeA _ _=_
      simp (disch:=first|assumption|omega|(simp only[r_z,zac,zab,zat,zbv,zbw,zbx,zby]<;>omega)|decide) only[r_c,Nat.reduceAdd,D.fix,↓reduceIte,Nat.reduceEqDiff,r_m,zdj,zdu,zbf,zbj,zc5,za9,zcp,zb2,zb9,zcj,iD,oD,zl6,zk4,zy3,zgz,efF]
      simp[zgz,efF,intsD,intssD,boolsD,za9,zbv,zbw,zbx,zby,oD]
theorem juz{i:Nat}(h:i<10):([.d (.val (.int .i64 2)),.d (.val (.int .i64 3)),.d (.val (.int .i64 4)),.d (.val (.int .i64 5)),.d (.val (.int .i64 6)),.d (.val (.int .i64 7)),.d (.val (.int .i64 10)),.d (.val (.int .i64 8)),.d (.val (.int .i64 9)),.d (.val (.int .i64 11))]:List AV)[i]? =some (.d (.val (.int .i64 (nth ([2,3,4,5,6,7,10,8,9,11]:List Int) i)))):=by
 rcases(show i=0∨i=1∨i=2∨i=3∨i=4∨i=5∨i=6∨i=7∨i=8∨i=9 by omega)with rfl|rfl|rfl|rfl|rfl|rfl|rfl|rfl|rfl|rfl<;>rfl
def byK(m k:Nat):Nat:=k*m
theorem yih(m:Nat):byK m 0=0:=Nat.zero_mul m
theorem yii(m k:Nat):byK m (k+1)=byK m k+m:=Nat.succ_mul k m
theorem ycf{m k:Nat}(h:k≤3):byK m k≤3*m:=Nat.mul_le_mul_right m h
def OpW(w:Nat)(o:Int)(ws:List Nat):Prop:=(o=2∧ws=[w])∨((o=3∨o=4∨o=5∨o=6∨o=7)∧ws=[w,w])∨(o=10∧ws=[1,w,w])∨((o=8∨o=9)∧w=1∧∃u,1≤u∧u≤3∧ws=[u,u])∨(o=11∧1<w∧ws=[w - 1,1])
theorem ycg{w:Nat}{o:Int}{ws:List Nat}(h:OpW w o ws)(hw:1≤w):ws.length≤3∧∀k,k<ws.length→1≤nth ws k∧(nth ws k≤w∨nth ws k≤3):=by
 rcases h with⟨_,rfl⟩|⟨_,rfl⟩|⟨_,rfl⟩|⟨_,_,u,h1,h2,rfl⟩|⟨_,h1,rfl⟩<;>refine⟨by simp,fun k hk=>?_⟩<;>simp only[List.length_cons,List.length_nil]at hk<;>rcases(show k=0∨k=1∨k=2 by omega)with rfl|rfl|rfl<;>simp[nth]<;>omega
theorem yij{l:List Ex}(h:l.length=1):l=[nth l 0]:=by
 match l,h with
 |[a],_=>rfl
theorem jj6{l:List Ex}(h:l.length=2):l=[nth l 0,nth l 1]:=by
 match l,h with
 |[a,b],_=>rfl
theorem ych{l:List Ex}(h:l.length=3):l=[nth l 0,nth l 1,nth l 2]:=by
 match l,h with
 |[a,b,c],_=>rfl
theorem yci{C:Ct}{q:Bool}(hC:CtOk C){w n:Nat}{o:Int}{ws:List Nat}{l:List Ex}(h:OpW w o ws)(hl:l.length=ws.length)(hf:∀k,k<ws.length→Fit C q (nth ws k) n (nth l k))(hw8:w≤8):∃e,Fit C q w (3*n+32) e∧exC e=exR o 0 0 (l.flatMap exC) l.length:=by
 rcases h with⟨rfl,rfl⟩|⟨ho,rfl⟩|⟨rfl,rfl⟩|⟨ho,rfl,u,h1,h2,rfl⟩|⟨rfl,h1,rfl⟩
 ·have f0:=hf 0 (by simp)
  have el:=yij hl
  obtain⟨t0,w0,n0⟩:=f0
  refine⟨.not (nth l 0),⟨t0,w0,?_⟩,by rw[el];simp[exC,nth]⟩
  simp only[za8]
  simp[nth]at w0 n0 ⊢
  omega
 ·obtain⟨t0,w0,n0⟩:=hf 0 (by simp)
  obtain⟨t1,w1,n1⟩:=hf 1 (by simp)
  have el:=jj6 hl
  have w0':za7 C (nth l 0)=w:=w0
  have w1':za7 C (nth l 1)=w:=w1
  rcases ho with rfl|rfl|rfl|rfl|rfl
  ·exact⟨.two 3 (nth l 0) (nth l 1),⟨⟨by simp,t0,t1,by rw[w0',w1']⟩,w0',by simp only[za8];omega⟩,by rw[el];simp[exC,nth]⟩
  ·exact⟨.two 4 (nth l 0) (nth l 1),⟨⟨by simp,t0,t1,by rw[w0',w1']⟩,w0',by simp only[za8];omega⟩,by rw[el];simp[exC,nth]⟩
  ·exact⟨.two 5 (nth l 0) (nth l 1),⟨⟨by simp,t0,t1,by rw[w0',w1']⟩,w0',by simp only[za8];omega⟩,by rw[el];simp[exC,nth]⟩
  ·exact⟨.add (nth l 0) (nth l 1),⟨⟨t0,t1,by rw[w0',w1']⟩,w0',by simp only[za8];omega⟩,by rw[el];simp[exC,nth]⟩
  ·exact⟨.sub (nth l 0) (nth l 1),⟨⟨t0,t1,by rw[w0',w1']⟩,w0',by simp only[za8];omega⟩,by rw[el];simp[exC,nth]⟩
 ·obtain⟨t0,w0,n0⟩:=hf 0 (by simp)
  obtain⟨t1,w1,n1⟩:=hf 1 (by simp)
  obtain⟨t2,w2,n2⟩:=hf 2 (by simp)
  have el:=ych hl
  have w0':za7 C (nth l 0)=1:=w0
  have w1':za7 C (nth l 1)=w:=w1
  have w2':za7 C (nth l 2)=w:=w2
  exact⟨.mux (nth l 0) (nth l 1) (nth l 2),⟨⟨t0,t1,t2,w0',by rw[w1',w2']⟩,w1',by simp only[za8];omega⟩,by rw[el];simp[exC,nth]⟩
 ·obtain⟨t0,w0,n0⟩:=hf 0 (by simp)
  obtain⟨t1,w1,n1⟩:=hf 1 (by simp)
  have el:=jj6 hl
  have w0':za7 C (nth l 0)=u:=w0
  have w1':za7 C (nth l 1)=u:=w1
  rcases ho with rfl|rfl
  ·exact⟨.eq (nth l 0) (nth l 1),⟨⟨t0,t1,by rw[w0',w1']⟩,rfl,by simp only[za8];omega⟩,by rw[el];simp[exC,nth]⟩
  ·exact⟨.lt (nth l 0) (nth l 1),⟨⟨t0,t1,by rw[w0',w1']⟩,rfl,by simp only[za8];omega⟩,by rw[el];simp[exC,nth]⟩
 ·obtain⟨t0,w0,n0⟩:=hf 0 (by simp)
  obtain⟨t1,w1,n1⟩:=hf 1 (by simp)
  have el:=jj6 hl
  have w0':za7 C (nth l 0)=w - 1:=w0
  have w1':za7 C (nth l 1)=1:=w1
  exact⟨.cat (nth l 0) (nth l 1),⟨⟨t0,t1,by rw[w0',w1'];omega⟩,by show za7 C (nth l 0)+za7 C (nth l 1)=w;rw[w0',w1'];omega,by simp only[za8];omega⟩,by rw[el];simp[exC,nth]⟩
def zei:AObj:=.cells [.d (iD 0),.d nS,.d (iD 0),.d nS,.d (iD 0),.d nS,.d (.val (.slice none 0 0)),.d (.val (.slice none 0 0)),.d (iD 0)]
theorem zf1{p q:Prop}(hq:q)(h:p=q:=by
 conv=>lhs;simp -dsimp -implicitDefEqProofs (disch:=first|assumption|omega|(simp only[r_z,zb8,zbm]<;>omega)|decide) only[r_r,↓reduceIte,Nat.reduceEqDiff,Nat.reduceAdd,D.fix,Int.reduceToNat,Nat.reduceMul,Nat.reduceBNe,Nat.reduceBEq,zf6,zbk,scV,nI,exR,zei,zb4,zb5,Int.reduceBEq,Int.reduceToNat,Bool.not_true,Bool.not_false,qae]):p:=h.mpr hq
theorem zoj{p q r:Prop}(e:r)(hq:q)(h:r→p=q:=by
 intro hY
 conv=>lhs;simp -dsimp -implicitDefEqProofs (disch:=first|assumption|omega|(simp only[r_z,zb8,zbm]<;>omega)|decide) only[r_r,↓reduceIte,Nat.reduceEqDiff,Nat.reduceAdd,D.fix,Int.reduceToNat,Nat.reduceMul,Nat.reduceBNe,Nat.reduceBEq,zf6,zbk,scV,nI,exR,zei,zb4,zb5,Int.reduceBEq,Int.reduceToNat,Bool.not_true,Bool.not_false,qae,hY]):p:=(h e).mpr hq
theorem ycj{p q r:Prop}(e:r)(hq:q)(h:r→p=q:=by
 intro hY
 conv=>lhs;simp -dsimp -implicitDefEqProofs (disch:=first|assumption|omega|(simp only[r_z,zb8,zbm]<;>omega)|decide) only[r_r,↓reduceIte,Nat.reduceEqDiff,Nat.reduceAdd,D.fix,Int.reduceToNat,Nat.reduceMul,Nat.reduceBNe,Nat.reduceBEq,r_w,zf6,zbk,scV,nI,exR,zei,zb4,zb5,Int.reduceBEq,Int.reduceToNat,Bool.not_true,Bool.not_false,qae,hY]):p:=(h e).mpr hq
theorem yk1{P:Program}{sm:List Nat}{N:Nat}{τ0 τ:Fr}{H:zad}{f:FuncId}{args:List AV}{K0 KK:AV→zad→Prop}{ks:List Nat}(S T:zad)(h:ScS P ks f args S K0)(hK:∀x S',K0 x S'→S'.length=S.length∧KK x (S'++T))(hH:H=S++T:=by
 rfl) (hN:S.length≤N:=by
 exact qaf rfl) (hm:sm.all (okI ks S.length)=true:=by
 first|rfl|(simp[AV.allIs,AV.allI,zas,zal,zam,okI,ltI,zae,zaz,zei,zbn,scV,zbk];done)|(intro o ho;simp at ho;done)) (hτ:∀t,(τ t).allI (okI ks S.length)=true:=by
 exact fun t=>zbi (by first|rfl|(simp[AV.allIs,AV.allI,zas,zal,zam,okI,ltI,zae,zaz,zei,zbn,scV,zbk];done)|(intro o ho;simp at ho;done)) t) (h0:∀t,(τ0 t).allI (okI ks S.length)=true:=by
 exact fun t=>zbi (by first|rfl|(simp[AV.allIs,AV.allI,zas,zal,zam,okI,ltI,zae,zaz,zei,zbn,scV,zbk];done)|(intro o ho;simp at ho;done)) t) (ha:AV.allIs (ltI S.length) args=true:=by
 first|rfl|(simp[AV.allIs,AV.allI,zas,zal,zam,okI,ltI,zae,zaz,zei,zbn,scV,zbk];done)|(intro o ho;simp at ho;done)) (hS:∀o∈S,o.allI (ltI S.length)=true:=by
 first|rfl|(simp[AV.allIs,AV.allI,zas,zal,zam,okI,ltI,zae,zaz,zei,zbn,scV,zbk];done)|(intro o ho;simp at ho;done)) (hT:∀o∈T,o.allI (okI ks S.length)=true:=by
 first|rfl|(simp[AV.allIs,AV.allI,zas,zal,zam,okI,ltI,zae,zaz,zei,zbn,scV,zbk];done)|(intro o ho;simp at ho;done)):kE P sm N τ0 τ H (.d (.val (.func (.func f) #[] #[]))) args (tg KK):=zpl h hH hN hm hτ h0 ha hS hT hK
theorem jd6(k:List Nat){m:List Nat}{τ τ1:Fr}{H H1:zad}(h:Rt m (fun t=>gcV k (τ t)) (gcH k H) τ1 H1)(a:∀i∈m,k[i]? =some i:=by decide)(b:k.Nodup:=by decide)(c:∀i∈k,i<H.length:=by
 simp[fzH,gcH]):Rt m τ H τ1 H1:=Rt.trans (Rt.gc a b c) h
theorem zzd{m:List Nat}{τ τ':Fr}{H H':zad}(h2:H=H')(h:zgk τ τ':=by
 repeat (first|exact zaq _|refine zak ?_ (by first|rfl|(simp[r_f,zb8,zbm];done)|simp[r_f,zb8,zbm, *]))):Rt m τ H τ' H':=Rt.end h h2
theorem jno{p q:Prop}(hq:q)(h:p=q:=by
 conv=>lhs;simp -dsimp -implicitDefEqProofs (disch:=first|assumption|omega|(simp only[r_z,zb8,zbm]<;>omega)|decide) only[r_r,↓reduceIte,Nat.reduceEqDiff,Nat.reduceAdd,D.fix,Int.reduceToNat,Nat.reduceMul,Nat.reduceBNe,Nat.reduceBEq,zf6,zbk,scV,nI,exR,zei,zb4,zb5,Int.reduceBEq,Int.reduceToNat,Bool.not_true,Bool.not_false,zjo,jjh]):p:=h.mpr hq
theorem yk2{P:Program}{sm:List Nat}{N:Nat}{τ:Fr}{H:zad}{f:FuncId}{args:List AV}{K0 KK:AV→zad→Prop}{ks:List Nat}(S T:zad)(h:ScS P ks f args S K0)(hK:∀x S',K0 x S'→S'.length=S.length∧KK x (S'++T))(hH:H=S++T:=by
 rfl) (hm:sm.all (okI ks S.length)=true:=by
 first|rfl|(simp[AV.allIs,AV.allI,zas,zal,zam,okI,ltI,zae,zaz,zei,zbn,scV,zbk];done)|(intro o ho;simp at ho;done)) (hτ:∀t,(τ t).allI (okI ks S.length)=true:=by
 exact fun t=>zbi (by first|rfl|(simp[AV.allIs,AV.allI,zas,zal,zam,okI,ltI,zae,zaz,zei,zbn,scV,zbk];done)|(intro o ho;simp at ho;done)) t) (ha:AV.allIs (ltI S.length) args=true:=by
 first|rfl|(simp[AV.allIs,AV.allI,zas,zal,zam,okI,ltI,zae,zaz,zei,zbn,scV,zbk];done)|(intro o ho;simp at ho;done)) (hS:∀o∈S,o.allI (ltI S.length)=true:=by
 first|rfl|(simp[AV.allIs,AV.allI,zas,zal,zam,okI,ltI,zae,zaz,zei,zbn,scV,zbk];done)|(intro o ho;simp at ho;done)) (hT:∀o∈T,o.allI (okI ks S.length)=true:=by
 first|rfl|(simp[AV.allIs,AV.allI,zas,zal,zam,okI,ltI,zae,zaz,zei,zbn,scV,zbk];done)|(intro o ho;simp at ho;done)):kC P sm N H τ (.d (.val (.func (.func f) #[] #[]))) args true (tg KK):=zk7 h hH hm hτ ha hS hT hK
theorem yck{p q r:Prop}(e:r)(hq:q)(h:r→p=q:=by
 intro hY
 conv=>lhs;simp -dsimp -implicitDefEqProofs (disch:=first|assumption|omega|(simp only[r_z,zb8,zbm]<;>omega)|decide) only[r_r,↓reduceIte,Nat.reduceEqDiff,Nat.reduceAdd,D.fix,Int.reduceToNat,Nat.reduceMul,Nat.reduceBNe,Nat.reduceBEq,r_w,zf6,zbk,scV,nI,exR,zei,zb4,zb5,Int.reduceBEq,Int.reduceToNat,Bool.not_true,Bool.not_false,za4,qae,hY]):p:=(h e).mpr hq
theorem jxl{p q:Prop}(hq:q)(h:p=q:=by
 conv=>lhs;simp only[r_g,Nat.reduceAdd,↓reduceIte,Nat.reduceEqDiff,zf6,zbk,scV,nI,exR,zei,zb4,zb5,Int.reduceBEq,Int.reduceToNat,Bool.not_true,Bool.not_false]):p:=h.mpr hq
theorem jnp{p:Prop}(h:p:=by
 first|rfl|(simp only[r_g,Nat.reduceAdd,↓reduceIte,Nat.reduceEqDiff,zf6,zbk,scV,nI,exR,zei,zb4,zb5,Int.reduceBEq,Int.reduceToNat,Bool.not_true,Bool.not_false];first|done|rfl)):p:=h
theorem jj7(d:Nat)(hT:TyK (d+1))(C:Ct)(s:Sc)(b:List Int)(i w:Nat)(hC:CtOk C)(hs:ScOk C s)(hb:zg1 b)(hl:b.length≤maxLen)(hw:1≤w)(hw8:w+(d+2)≤8)(hd:d≤3)(hi:i≤jfi (d+2)):ScS prog [0] 56 [zf6 b i,.agg (scV s),.agg [.d (iD w),.d (iD (d+2:Nat))]] ([zdv s,.free]) (TyQ C s b i w (zx8 (d+2)) (byD (d+2))):=by
 refine zbg (fn:=f56) (by kernel_rfl) func56 rfl (qaf rfl) fun c hc hp=>?_
 refine zf8 ?_
 obtain⟨hcp,hcp2⟩:=yia hd
 have hbd:byD (d+1)≤100000:=by
  rcases(show d=0∨d=1∨d=2∨d=3 by omega)with rfl|rfl|rfl|rfl<;>decide
 obtain⟨y,hy⟩:∃y:Nat,byN b i=y:=⟨(byN b i).toNat,by have:=(zgn hb i).1;omega⟩
 have hy2:=(zgn hb i).2
 have hy14:(y:Int) / 14=((y / 14:Nat):Int):=by omega
 have hy14r:(y:Int) % 14=((y % 14:Nat):Int):=by omega
 have hyb:=ziw b i hb hl
 rw[hy]at hyb
 have hdd:((d+2:Nat):Int) - 1=((d+1:Nat):Int):=by omega
 have hd1:decide (((d+2:Nat):Int)≤1)=false:=decide_eq_false (by omega)
 have hcs:zx8 (d+2)=3*zx8 (d+1)+32:=rfl
 have hby:byD (d+2)=3*byD (d+1)+1:=rfl
 have hbp:=jsb (d+1)
 refine szq (zf1 ·) ?_
 refine zay zah hc mixed rfl (q:=0) (by kernel_rfl) (by kernel_rfl) fun K2 hK2=>?_
 refine zf1 ?_
 refine hK2 _ _ ?_
 refine zaf hp zah hc rfl fun K3 hK3=>?_
 refine zf1 ?_
 refine zbl (hyb) rfl ?_
 refine zf1 ?_
 refine hK3 _ _ ?_
 refine zaf hp zah hc rfl fun K4 hK4=>?_
 refine zf1 ?_
 refine zbl (jfe b i 1 (by omega) (by omega)) rfl ?_
 refine zf1 ?_
 refine hK4 _ _ ?_
 refine szq (zoj hy14r ·) ?_
 refine zaa fun K6 hK6=>?_
 refine szq (zoj hd1 ·) ?_
 refine zan rfl (fun ht=>?_) (fun ht=>?_)
 ·have hk2:y % 14<2:=by simp at ht;omega
  refine zbc zah hp hc mixed rfl [(0,[]),(1,[]),(2,[]),(3,[]),(5,[]),(4,[5]),(6,[]),(7,[])] [[],[],[],[2],[0,1,2,3],[],[0,1,2,3,4,5],[0,1,2,3,4,5,6]] 0 (by kernel_rfl) fun K8 hK8=>?_
  refine ycj hy14 ?_
  refine yk1 ([zdv s,.free]) ([.cells (avs (zbk b (i+1))),.cells (scV s),.cells [.d (iD w),.d (iD (d+2:Nat))],zei]) (jsa C s w (y / 14) hs hw (by omega) (by omega)) ?_
  rintro _ _ ⟨e,he,rfl,g,rfl⟩
  refine⟨rfl,?_⟩
  obtain⟨xo,xk,xw,xc,xn,hex⟩:=zce e;unfold exV;rw[hex]
  refine ycj hy14 ?_
  refine hK8 _ _ ?_
  refine zav hp (τ':=frL [(6,.op 1 0)]) (H':=[zdv s,.cells [.d (iD xo),.d nS,.d (iD xk),.d nS,.d (iD xw),.d nS,.d (.fs xc xn),.d (bytesD b),.d (iD (i+1:Nat))]]) ?_ ?_
  ·refine jd6 [0,5] ?_
   refine zzd ?_
   refine jxl ?_;simp[bytesD,iD]
  refine zaj ?_
  try dsimp only[zcg,za5]
  refine za6 rfl ?_
  refine jno ?_
  show ∃_,_
  exact⟨e,i+1,⟨he.t,he.w,by have:=he.n;omega⟩,by omega,by omega,by unfold tyV;rw[hex];simp[zbk,iD,bytesD],_,rfl⟩
 ·have hk2:2≤y % 14:=by simp at ht;omega
  refine zai (hK6 _ _ ?_)
  refine zaa fun K9 hK9=>?_
  refine zaf hp zah hc rfl fun K10 hK10=>?_
  rcases(show y % 14=2∨y % 14=3∨4≤y % 14 by omega)with e2|e2|e2
  ·have q7:(((y % 14:Nat):Int)==2)=true:=by rw[e2];rfl
   have q8:=q7
   refine zoj (sza q7 q8) ?_
   refine hK10 _ _ ?_
   refine szt ?_
   refine zaf hp zah hc rfl fun K11 hK11=>?_
   refine zoj hy14 ?_
   refine yk2 ([zdv s,.free]) ([.cells (avs (zbk b (i+1))),.cells (scV s),.cells [.d (iD w),.d (iD (d+2:Nat))],zei]) (zw9 d hT C s b (i+1) w (y / 14) hC hs hb hl hw hw8 hd (by omega) (by omega)) ?_
   rintro _ _ ⟨e,j,he,hj1,hj2,rfl,g,rfl⟩
   refine⟨rfl,?_⟩
   obtain⟨xo,xk,xw,xc,xn,hex⟩:=zce e;unfold tyV;rw[hex];dsimp only[List.map_cons,List.map_nil,List.cons_append,List.nil_append,zbk]
   refine zoj hy14 ?_
   refine hK11 _ _ ?_
   refine zav hp (τ':=frL [(6,.op 1 0)]) (H':=[zdv s,.cells [.d (iD xo),.d nS,.d (iD xk),.d nS,.d (iD xw),.d nS,.d (.fs xc xn),.d (bytesD b),.d (iD j)]]) ?_ ?_
   ·refine jd6 [0,5] ?_
    refine zzd ?_
    refine jxl ?_;simp[bytesD,iD]
   refine zaj ?_
   try dsimp only[zcg,za5]
   refine za6 rfl ?_
   refine jno ?_
   show ∃_,_
   exact⟨e,j,he,by omega,by omega,by unfold tyV;rw[hex];simp[zbk,iD,bytesD],_,rfl⟩
  ·have q7:(((y % 14:Nat):Int)==2)=false:=by rw[e2];rfl
   have q8:(((y % 14:Nat):Int)==3)=true:=by rw[e2];rfl
   refine zoj (sza q7 q8) ?_
   refine hK10 _ _ ?_
   refine szt ?_
   refine zaf hp zah hc rfl fun K12 hK12=>?_
   refine zoj hy14 ?_
   refine yk2 ([zdv s,.free]) ([.cells (avs (zbk b (i+1))),.cells (scV s),.cells [.d (iD w),.d (iD (d+2:Nat))],zei]) (zw9 d hT C s b (i+1) w (y / 14) hC hs hb hl hw hw8 hd (by omega) (by omega)) ?_
   rintro _ _ ⟨e,j,he,hj1,hj2,rfl,g,rfl⟩
   refine⟨rfl,?_⟩
   obtain⟨xo,xk,xw,xc,xn,hex⟩:=zce e;unfold tyV;rw[hex];dsimp only[List.map_cons,List.map_nil,List.cons_append,List.nil_append,zbk]
   refine zoj hy14 ?_
   refine hK12 _ _ ?_
   refine zav hp (τ':=frL [(6,.op 1 0)]) (H':=[zdv s,.cells [.d (iD xo),.d nS,.d (iD xk),.d nS,.d (iD xw),.d nS,.d (.fs xc xn),.d (bytesD b),.d (iD j)]]) ?_ ?_
   ·refine jd6 [0,5] ?_
    refine zzd ?_
    refine jxl ?_;simp[bytesD,iD]
   refine zaj ?_
   try dsimp only[zcg,za5]
   refine za6 rfl ?_
   refine jno ?_
   show ∃_,_
   exact⟨e,j,he,by omega,by omega,by unfold tyV;rw[hex];simp[zbk,iD,bytesD],_,rfl⟩
  ·have q7:(((y % 14:Nat):Int)==2)=false:=by rw[beq_eq_false_iff_ne];omega
   have q8:(((y % 14:Nat):Int)==3)=false:=by rw[beq_eq_false_iff_ne];omega
   refine zoj (sza q7 q8) ?_
   refine hK10 _ _ ?_
   refine szf ?_
   refine zai (hK9 _ _ ?_)
   obtain⟨o0,ho0,hoo⟩:∃o:Int,o=nth ([2,3,4,5,6,7,10,8,9,11]:List Int) (y % 14 - 4)∧(o=2∨o=3∨o=4∨o=5∨o=6∨o=7∨o=10∨o=8∨o=9∨o=11):=by
    refine⟨_,rfl,?_⟩
    rcases(show y % 14=4∨y % 14=5∨y % 14=6∨y % 14=7∨y % 14=8∨y % 14=9∨y % 14=10∨y % 14=11∨y % 14=12∨y % 14=13 by omega)with e|e|e|e|e|e|e|e|e|e<;>rw[e]<;>decide
   have hog:=juz (i:=y % 14 - 4) (by omega)
   rw[←ho0]at hog
   have hy4:((y % 14:Nat):Int) - 4=((y % 14 - 4:Nat):Int):=by omega
   have hy143:((y / 14:Nat):Int) % 3=((y / 14 % 3:Nat):Int):=by omega
   have h1y:(1:Int)+((y / 14 % 3:Nat):Int)=((1+y / 14 % 3:Nat):Int):=by omega
   clear ho0
   refine szq (zoj (sza hy4 hog) ·) ?_
   refine szq (zf1 ·) ?_
   refine zaa fun K15 hK15=>?_
   have hJ15:∀τ' H',(∃τ1 H1,∃(o:Int) (ws:List Nat),(OpW w o ws)∧H1=[zdv s,.free,.cells (avs (zbk b (i+1))),.cells (scV s),.cells [.d (iD w),.d (iD (d+2:Nat))],zei,.cells [.d (iD o),.d nS,.d (iD 0),.d nS,.d (iD 0),.d nS,.d (.val (.slice none 0 0))],.cells (avs (ws.map fun n:Nat=>iD n))]∧τ1=frL [(3,.op 2 0),(4,.op 3 0),(6,.op 5 0),(8,.d (iD (d+2:Nat))),(11,.op 6 0),(12,.os 1 7 0 ws.length)]∧Rt [0] τ' H' τ1 H1)→K15 τ' H':=by
    rintro τ' H' ⟨_,_,o,ws,how,rfl,rfl,hrt⟩
    refine hK15 _ _ (zav hp hrt ?_)
    clear hrt
    refine zaa fun K16 hK16=>?_
    refine zaf hp zah hc rfl fun K17 hK17=>?_
    simp -dsimp -implicitDefEqProofs (disch:=first|assumption|omega|(simp only[r_z,zb8,zbm]<;>omega)|decide) only[r_r,↓reduceIte,Nat.reduceEqDiff,Nat.reduceAdd,D.fix,Int.reduceToNat,Nat.reduceMul,Nat.reduceBNe,Nat.reduceBEq,zf6,zbk,scV,nI,exR,zei,zb4,zb5,Int.reduceBEq,Int.reduceToNat,Bool.not_true,Bool.not_false]
    refine hK17 _ _ ?_
    refine zag ?_
    refine zao hp (fun τ' H' mm=>∃(k j:Nat) (l:List Ex),(k≤ws.length∧l.length=k∧(∀q,q<k→Fit C s.q (nth ws q) (zx8 (d+1)) (nth l q))∧i+1≤j∧j≤i+1+byK (byD (d+1)) k)∧mm=ws.length - k∧H'=[zdv s,.free,.cells (avs (zbk b j)),.cells (scV s),.cells [.d (iD w),.d (iD (d+2:Nat))],zei,.cells [.d (iD o),.d nS,.d (iD 0),.d nS,.d (iD 0),.d nS,.os 7 8 0 l.length],.cells (avs (ws.map fun n:Nat=>iD n)),.cells (avs (l.flatMap exC))]∧τ'=frL [(3,.op 2 0),(4,.op 3 0),(6,.op 5 0),(8,.d (iD (d+2:Nat))),(11,.op 6 0),(12,.os 1 7 0 ws.length),(13,.d (iD k))]) (ws.length) ?_ ⟨0,i+1,[],⟨qap _,rfl,fun q hq=>by omega,qao _,by rw[yih];omega⟩,rfl,rfl,rfl⟩ ?_
    ·refine Rt.trans (Rt.nilc 6 6 7 rfl rfl) ?_
     refine zzd ?_
     exact jnp
    rintro τ' H' mm ⟨k,j,l,⟨hk,hlk,hlf,hj1,hj2⟩,rfl,rfl,rfl⟩
    obtain⟨ow1,ow2⟩:=ycg how hw
    refine zaa fun K18 hK18=>?_
    refine szq (zf1 ·) ?_
    refine zan rfl (fun ht=>?_) (fun ht=>?_)
    ·have hlt:k<ws.length:=by simp at ht;omega
     obtain⟨ow3,ow4⟩:=ow2 k hlt
     have hkb:byK (byD (d+1)) k≤3*byD (d+1):=ycf (by omega)
     refine zai (hK18 _ _ ?_)
     refine zaa fun K20 hK20=>?_
     refine zag ?_
     refine zbc zah hp hc mixed rfl [(0,[]),(1,[]),(2,[]),(3,[]),(4,[]),(5,[]),(6,[]),(7,[]),(8,[]),(10,[]),(9,[]),(11,[])] [[],[],[],[],[2,3],[2,3,4],[],[6],[2,3,4,5,6,7],[0,1,2,3,4,5,6,7,8],[],[0,1,2,3,4,5,6,7,8,9,10]] 1 (by kernel_rfl) fun K21 hK21=>?_
     refine yck hdd ?_
     refine yk1 ([zdv s,.free]) ([.cells (avs (zbk b j)),.cells (scV s),.cells [.d (iD w),.d (iD (d+2:Nat))],zei,.cells [.d (iD o),.d nS,.d (iD 0),.d nS,.d (iD 0),.d nS,.os 7 8 0 l.length],.cells (avs (ws.map fun n:Nat=>iD n)),.cells (avs (l.flatMap exC)),zei]) (hT C s b j (nth ws k) hC hs hb hl ow3 (by omega) (by omega)) ?_
     rintro _ _ ⟨e,j',he,hj3,hj4,rfl,g,rfl⟩
     refine⟨rfl,?_⟩
     obtain⟨xo,xk,xw,xc,xn,hex⟩:=zce e;unfold tyV;rw[hex];dsimp only[List.map_cons,List.map_nil,List.cons_append,List.nil_append,zbk]
     refine yck hdd ?_
     refine hK21 _ _ ?_
     refine szq (zf1 ·) ?_
     refine szs (zf1 ·) (hK20 _ _ ?_)
     refine za1 hp zah hc rfl fun K24 hK24=>?_
     refine zf1 ?_
     have hlf2:∀q,q<k+1→Fit C s.q (nth ws q) (zx8 (d+1)) (nth (l++[e]) q):=fun q hq=>by
      rcases zeg (x:=e) hlk hq with⟨h1,h2⟩|⟨h1,h2⟩
      ·rw[h2];exact hlf q h1
      ·rw[h2,h1];exact he
     refine hK24 _ _ ⟨_,_,_,?_,⟨k+1,j',l++[e],⟨by omega,by simp[hlk],hlf2,by omega,by rw[yii];omega⟩,rfl,rfl,rfl⟩,?_⟩
     ·first|omega|(simp only[List.length_cons];omega)|(dsimp only;omega)
     ·refine Rt.trans (Rt.fr1) ?_
      refine jd6 [0,12,2,3,4,5,6,7,11] ?_
      refine zzd ?_
      refine jxl ?_;simp[hex,exR,nS,iD,oD,bytesD]
    ·have hkk:k=ws.length:=by simp at ht;omega
     subst hkk
     have hkb:byK (byD (d+1)) ws.length≤3*byD (d+1):=ycf ow1
     obtain⟨e,he,hex⟩:=yci hC how hlk hlf (by omega)
     have htk:zbz (l.flatMap exC) 0 (l.length*7)=some (l.flatMap exC):=zba (by rw[zbm])
     refine zau (hK16 _ _ ?_)
     refine szq (zf1 ·) ?_
     refine zav hp (τ':=frL [(6,.op 1 0)]) (H':=[zdv s,.cells [.d (iD o),.d nS,.d (iD 0),.d nS,.d (iD 0),.d nS,.d (.fs (l.flatMap exC) l.length),.d (bytesD b),.d (iD j)]]) ?_ ?_
     ·refine Rt.trans (Rt.fz (id:=8) (l:=(l.flatMap exC)) rfl) ?_
      refine jd6 [0,5] ?_
      refine zzd ?_
      refine jxl ?_;simp[bytesD,iD,nS,htk,gcV]
     refine zaj ?_
     try dsimp only[zcg,za5]
     refine za6 rfl ?_
     refine jno ?_
     show ∃_,_
     exact⟨e,j,by rw[hcs];exact he,by omega,by omega,by unfold tyV;rw[hex];simp[exR,zbk,nS,iD,bytesD],_,rfl⟩
   refine szq (zf1 ·) ?_
   refine zag ?_
   refine szq (zf1 ·) ?_
   refine zan rfl (fun ht=>?_) (fun ht=>?_)
   ·have h2:o0=2:=by simpa using ht
    subst h2
    refine za1 hp zah hc rfl fun K28 hK28=>?_
    refine zf1 ?_
    refine hK28 _ _ (hJ15 _ _ ⟨_,_,2,[w],.inl ⟨rfl,rfl⟩,rfl,rfl,?_⟩)
    refine jd6 [0,1,2,3,4,5,7,9] ?_
    refine zzd ?_
    exact jnp
   ·have h2:o0≠2:=by simpa using ht
    refine szq (zf1 ·) ?_
    refine zan rfl (fun ht=>?_) (fun ht=>?_)
    ·have h3:o0=10:=by simpa using ht
     subst h3
     refine za1 hp zah hc rfl fun K30 hK30=>?_
     refine zf1 ?_
     refine hK30 _ _ (hJ15 _ _ ⟨_,_,10,[1,w,w],.inr (.inr (.inl ⟨rfl,rfl⟩)),rfl,rfl,?_⟩)
     refine jd6 [0,1,2,3,4,5,7,9] ?_
     refine zzd ?_
     exact jnp
    ·have h3:o0≠10:=by simpa using ht
     refine zaa fun K31 hK31=>?_
     refine szq (zf1 ·) ?_
     refine zan rfl (fun ht=>?_) (fun ht=>?_)
     ·have h4:o0=8:=by simpa using ht
      refine zai (hK31 _ _ ?_)
      refine zan rfl (fun ht=>?_) (fun ht=>?_)
      ·refine szq (zf1 ·) ?_
       refine zan rfl (fun ht=>?_) (fun ht=>?_)
       ·have hw1:1<w:=by simp at ht;omega
        refine za1 hp zah hc rfl fun K34 hK34=>?_
        refine zf1 ?_
        refine hK34 _ _ (hJ15 _ _ ⟨_,_,5,[w,w],.inr (.inl ⟨by simp,rfl⟩),rfl,rfl,?_⟩)
        refine jd6 [0,1,2,3,4,5,7,8] ?_
        refine zzd ?_
        exact jnp
       ·have hw1:w=1:=by simp at ht;omega
        refine za1 hp zah hc rfl fun K35 hK35=>?_
        refine zoj (sza hy14 (sza hy143 h1y)) ?_
        refine hK35 _ _ (hJ15 _ _ ⟨_,_,o0,[1+y / 14 % 3,1+y / 14 % 3],.inr (.inr (.inr (.inl ⟨.inl h4,hw1,_,by omega,by omega,rfl⟩))),rfl,rfl,?_⟩)
        refine jd6 [0,1,2,3,4,5,7,9] ?_
        refine zzd ?_
        exact jnp
      ·rw[h4]at ht
       cases ht
     ·have h4:o0≠8:=by simpa using ht
      refine szs (zf1 ·) (hK31 _ _ ?_)
      refine zan rfl (fun ht=>?_) (fun ht=>?_)
      ·have h5:o0=9:=by simpa using ht
       refine szq (zf1 ·) ?_
       refine zan rfl (fun ht=>?_) (fun ht=>?_)
       ·have hw1:1<w:=by simp at ht;omega
        refine za1 hp zah hc rfl fun K38 hK38=>?_
        refine zf1 ?_
        refine hK38 _ _ (hJ15 _ _ ⟨_,_,5,[w,w],.inr (.inl ⟨by simp,rfl⟩),rfl,rfl,?_⟩)
        refine jd6 [0,1,2,3,4,5,7,8] ?_
        refine zzd ?_
        exact jnp
       ·have hw1:w=1:=by simp at ht;omega
        refine za1 hp zah hc rfl fun K39 hK39=>?_
        refine zoj (sza hy14 (sza hy143 h1y)) ?_
        refine hK39 _ _ (hJ15 _ _ ⟨_,_,o0,[1+y / 14 % 3,1+y / 14 % 3],.inr (.inr (.inr (.inl ⟨.inr h5,hw1,_,by omega,by omega,rfl⟩))),rfl,rfl,?_⟩)
        refine jd6 [0,1,2,3,4,5,7,9] ?_
        refine zzd ?_
        exact jnp
      ·have h5:o0≠9:=by simpa using ht
       refine szq (zf1 ·) ?_
       refine zan rfl (fun ht=>?_) (fun ht=>?_)
       ·have h7:o0=11:=by simpa using ht
        refine szq (zf1 ·) ?_
        refine zan rfl (fun ht=>?_) (fun ht=>?_)
        ·have hw1:w=1:=by simp at ht;omega
         refine za1 hp zah hc rfl fun K42 hK42=>?_
         refine zf1 ?_
         refine hK42 _ _ (hJ15 _ _ ⟨_,_,3,[w,w],.inr (.inl ⟨by simp,rfl⟩),rfl,rfl,?_⟩)
         refine jd6 [0,1,2,3,4,5,7,8] ?_
         refine zzd ?_
         exact jnp
        ·have hw1:1<w:=by simp at ht;omega
         have hwm:(w:Int) - 1=((w - 1:Nat):Int):=by omega
         refine za1 hp zah hc rfl fun K43 hK43=>?_
         refine zoj hwm ?_
         refine hK43 _ _ (hJ15 _ _ ⟨_,_,11,[w - 1,1],.inr (.inr (.inr (.inr ⟨rfl,hw1,rfl⟩))),rfl,rfl,?_⟩)
         refine jd6 [0,1,2,3,4,5,7,9] ?_
         refine zzd ?_
         refine jxl ?_;subst h7;rfl
       ·have h7:o0≠11:=by simpa using ht
        refine zai (hJ15 _ _ ⟨_,_,o0,[w,w],.inr (.inl ⟨by omega,rfl⟩),rfl,rfl,?_⟩)
        refine jd6 [0,1,2,3,4,5,7,8] ?_
        refine zzd ?_
        exact jnp
theorem ycl:TyK 2:=fun C s b i w hC hs hb hl h1 h2 hi=>jj7 0 ykz C s b i w hC hs hb hl h1 h2 (by decide) hi
theorem ym7:TyK 3:=fun C s b i w hC hs hb hl h1 h2 hi=>jj7 1 ycl C s b i w hC hs hb hl h1 h2 (by decide) hi
end Go.Proofs.YtapjobndmmkanaaGreat
