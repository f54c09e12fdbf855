/- What the reference makes of driven outputs: the step of the process. -/
import Derived.Test.YtapjobndmmkanaaGreatPm
set_option linter.unusedVariables false
set_option linter.unusedSimpArgs false
namespace Go.Proofs.YtapjobndmmkanaaGreat
open Go Go.RowKit
def tI(f:aB→Bool)(l:List aB):Bool:=l.foldl (fun _ w=>f w) false
def wC(f:aB→Bool)(w:aB):Nat:=if f w then 2^w.bit.toNat else 0
theorem Sk{f:aB→Bool}{l:List aB}{w:aB}:tI f (l++[w])=f w:=by unfold tI;rw[List.foldl_append];rfl
theorem je4{f:aB→Bool}{l:List aB}{w:aB}:kA f (l++[w])=kA f l+wC f w:=by
 unfold kA wC
 rw[List.foldl_append,List.foldl_cons,List.foldl_nil]
 cases f w<;>simp
def nE(f:aB→Bool)(l:List aB)(kind:Int)(n:Nat):List Int:=(List.range n).map fun(k:Nat)=>((kA f (fh l kind k):Nat):Int)
def u5(f:aB→Bool)(l:List aB)(kind:Int)(n:Nat):List Bool:=(List.range n).map fun(k:Nat)=>tI f (fh l kind k)
def oh(f:aB→Bool)(l:List aB)(n:Nat):List Head:=(List.range n).map fun(k:Nat)=>⟨tI f (fh l 6 k),((kA f (fh l 7 k):Nat):Int)⟩
theorem qQ{f:aB→Bool}{l:List aB}{kind:Int}{n:Nat}:(nE f l kind n).length=n:=by simp[nE]
theorem uS{f:aB→Bool}{l:List aB}{kind:Int}{n:Nat}:(u5 f l kind n).length=n:=by simp[u5]
theorem sG{f:aB→Bool}{l:List aB}{n:Nat}:(oh f l n).length=n:=by simp[oh]
theorem I4{α:Type}{n k:Nat}{g h:Nat→α}{x:α}(hk:h k=x)(hj:∀j,j≠k→h j=g j):((List.range n).map g).set k x=(List.range n).map h:=by
 refine List.ext_getElem (by simp) fun j h1 h2=>?_
 rw[List.getElem_map,List.getElem_range,List.getElem_set]
 split
 ·rename_i e;rw[←e,hk]
 ·rename_i e;rw[List.getElem_map,List.getElem_range,hj j (fun x=>e x.symm)]
theorem Na{l:List aB}{w:aB}{kind i:Int}:fh (l++[w]) kind i=fh l kind i++if yK w kind i then[w]else[]:=by
 unfold fh
 rw[List.filter_append]
 congr 1
 by_cases h:yK w kind i<;>simp[h]
theorem Ld{w:aB}{kind:Int}{k:Nat}(h1:w.kind=kind)(h2:w.i=(k:Int)){l:List aB}:fh (l++[w]) kind (k:Int)=fh l kind k++[w]:=by
 rw[Na,if_pos (by simp[yK,h1,h2])]
theorem EG{w:aB}{kind:Int}{k j:Nat}(h2:w.i=(k:Int))(hj:j≠k){l:List aB}:fh (l++[w]) kind (j:Int)=fh l kind j:=by
 rw[Na,if_neg (by simp[yK,h2];omega),List.append_nil]
theorem EF{w:aB}{kind i:Int}(h1:w.kind≠kind){l:List aB}:fh (l++[w]) kind i=fh l kind i:=by
 rw[Na,if_neg (by simp[yK,h1]),List.append_nil]
theorem Dq{f:aB→Bool}{l:List aB}{kind:Int}{n k:Nat}(h:k<n):nth (nE f l kind n) k=((kA f (fh l kind k):Nat):Int):=tZ h
theorem ye0{f:aB→Bool}{l:List aB}{kind:Int}{n k:Nat}(h:k<n):nth (u5 f l kind n) k=tI f (fh l kind k):=tZ h
theorem PC{f:aB→Bool}{l:List aB}{n k:Nat}(h:k<n):nth (oh f l n) k=⟨tI f (fh l 6 k),((kA f (fh l 7 k):Nat):Int)⟩:=tZ h
theorem OO{f:aB→Bool}{l:List aB}{kind:Int}{n k:Nat}{w:aB}(h1:w.kind=kind)(h2:w.i=(k:Int))(h:k<n):(nE f l kind n).set k (nth (nE f l kind n) k+((wC f w:Nat):Int))=nE f (l++[w]) kind n:=by
 rw[Dq h]
 exact I4 (by rw[Ld h1 h2,je4];push_cast;rfl) fun j hj=>by rw[EG h2 hj]
theorem Yr{f:aB→Bool}{l:List aB}{kind:Int}{n k:Nat}{w:aB}(h1:w.kind=kind)(h2:w.i=(k:Int)):(u5 f l kind n).set k (f w)=u5 f (l++[w]) kind n:=
 I4 (by rw[Ld h1 h2,Sk]) fun j hj=>by rw[EG h2 hj]
theorem yk5{f:aB→Bool}{l:List aB}{n k:Nat}{w:aB}(h1:w.kind=6)(h2:w.i=(k:Int))(h:k<n):(oh f l n).set k ⟨f w,(nth (oh f l n) k).v⟩=oh f (l++[w]) n:=by
 rw[PC h]
 exact I4 (by rw[Ld h1 h2,Sk,EF (by rw[h1];decide)]) fun j hj=>by rw[EG h2 hj,EG h2 hj]
theorem yk6{f:aB→Bool}{l:List aB}{n k:Nat}{w:aB}(h1:w.kind=7)(h2:w.i=(k:Int))(h:k<n):(oh f l n).set k ⟨(nth (oh f l n) k).has,(nth (oh f l n) k).v+((wC f w:Nat):Int)⟩=oh f (l++[w]) n:=by
 rw[PC h]
 exact I4 (by rw[Ld h1 h2,je4,EF (by rw[h1];decide)];push_cast;rfl) fun j hj=>by rw[EG h2 hj,EG h2 hj]
theorem p4{f:aB→Bool}{l:List aB}{kind:Int}{n:Nat}{w:aB}(h1:w.kind≠kind):nE f (l++[w]) kind n=nE f l kind n:=Ce fun i _=>by rw[EF h1]
theorem vL{f:aB→Bool}{l:List aB}{kind:Int}{n:Nat}{w:aB}(h1:w.kind≠kind):u5 f (l++[w]) kind n=u5 f l kind n:=Ce fun i _=>by rw[EF h1]
theorem Hf{f:aB→Bool}{l:List aB}{n:Nat}{w:aB}(h1:w.kind≠6)(h2:w.kind≠7):oh f (l++[w]) n=oh f l n:=Ce fun i _=>by rw[EF h1,EF h2]
theorem yk7{f:aB→Bool}{kind:Int}{n:Nat}:nE f [] kind n=List.replicate n 0:=F2 fun i _=>rfl
theorem yk8{f:aB→Bool}{kind:Int}{n:Nat}:u5 f [] kind n=List.replicate n false:=F2 fun i _=>rfl
theorem yk9{f:aB→Bool}{n:Nat}:oh f [] n=List.replicate n ⟨false,0⟩:=F2 fun i _=>rfl
theorem jt2{f:aB→Bool}{w:aB}(h0:0≤w.bit)(h:w.bit≤7):wC f w≤128:=by
 unfold wC
 split
 ·show 2^_≤2^7
  exact rj (by decide) (by omega)
 ·omega
theorem ye2{f:aB→Bool}(l:List aB)(h:∀w∈l,0≤w.bit∧w.bit≤7):kA f l≤128*l.length:=by
 have key:∀(l:List aB) (a:Nat),(∀w∈l,0≤w.bit∧w.bit≤7)→l.foldl (fun a w=>if f w then a+2^w.bit.toNat else a) a≤a+128*l.length:=by
  intro l
  induction l with
  |nil=>intro a _;exact bm _
  |cons w l ih=>
   intro a h
   rw[List.foldl_cons,List.length_cons]
   have h1:=ih (if f w then a+2^w.bit.toNat else a) fun x hx=>h x (wq _ hx)
   have h2:=jt2 (f:=f) (h w List.mem_cons_self).1 (h w List.mem_cons_self).2
   unfold wC at h2
   split at h1<;>rename_i hf<;>simp only[hf,if_true,Bool.false_eq_true,if_false]at h2 ⊢<;>omega
 have:=key l 0 h
 rw[Nat.zero_add]at this
 exact this
theorem Ju{f:aB→Bool}{l:List aB}{kind i:Int}(h:∀w∈l,0≤w.bit∧w.bit≤7):kA f (fh l kind i)≤128*l.length:=by
 have h1:=ye2 (f:=f) (fh l kind i) fun w hw=>h w (List.mem_filter.1 hw).1
 have h2:(fh l kind i).length≤l.length:=List.length_filter_le _ _
 omega
def Yq(p:Pr)(w:aB):Prop:=(w.kind=1∧∃k,w.i=((k:Nat):Int)∧k<p.ag.length)∨(w.kind=5∧∃k,w.i=((k:Nat):Int)∧k<p.ae.length)∨(w.kind=6∧∃k,w.i=((k:Nat):Int)∧k<p.ao.length)∨(w.kind=7∧∃k,w.i=((k:Nat):Int)∧k<p.ao.length)∨(w.kind=8∧∃k,w.i=((k:Nat):Int)∧k<p.mems.length)∨(w.kind=9∧∃k,w.i=((k:Nat):Int)∧k<p.mems.length)∨(w.kind=10∧∃k,w.i=((k:Nat):Int)∧k<p.mems.length)
theorem tT{kind i:Int}{w:Nat}{x:aB}(h:x∈bK kind i w):x.kind=kind∧x.i=i:=by
 obtain⟨k,_,rfl⟩:=kV.1 h;exact⟨rfl,rfl⟩
theorem ye4{p:Pr}(h:bJ p){w:aB}(hw:w∈(eV p).out):Yq p w:=by
 rw[DJ h]at hw
 simp only[pr,List.mem_flatMap,qk,oR,oT,oQ,oM]at hw
 rcases hw with((⟨i,hi,hw⟩|⟨i,hi,hw⟩)|⟨i,hi,hw|hw⟩)|⟨i,hi,hw|hw|hw⟩
 ·exact .inl ⟨(tT hw).1,i,(tT hw).2,hi⟩
 ·exact .inr (.inl ⟨(tT hw).1,i,(tT hw).2,hi⟩)
 ·exact .inr (.inr (.inl ⟨(tT hw).1,i,(tT hw).2,hi⟩))
 ·exact .inr (.inr (.inr (.inl ⟨(tT hw).1,i,(tT hw).2,hi⟩)))
 ·exact .inr (.inr (.inr (.inr (.inl ⟨(tT hw).1,i,(tT hw).2,hi⟩))))
 ·exact .inr (.inr (.inr (.inr (.inr (.inl ⟨(tT hw).1,i,(tT hw).2,hi⟩)))))
 ·exact .inr (.inr (.inr (.inr (.inr (.inr ⟨(tT hw).1,i,(tT hw).2,hi⟩)))))
def wB(f:aB→Bool)(out:List aB)(i:Nat)(l:List Int):List Int:=if(tI f (fh out 8 i)&&decide (kA f (fh out 9 i)<l.length))=true then l.set (kA f (fh out 9 i)) ((kA f (fh out 10 i):Nat):Int)else l
def w5(f:aB→Bool)(out:List aB)(ms:List (List Int))(n:Nat):List (List Int):=(List.range n).map fun i=>wB f out i (nth ms i)
theorem jpj{f:aB→Bool}{out:List aB}{i:Nat}{l:List Int}:(wB f out i l).length=l.length:=by unfold wB;split<;>simp
theorem wc{f:aB→Bool}{out:List aB}{ms:List (List Int)}{n:Nat}:(w5 f out ms n).length=n:=by simp[w5]
theorem jws{f:aB→Bool}{out:List aB}{ms:List (List Int)}{n:Nat}:w5 f out ms (n+1)=w5 f out ms n++[wB f out n (nth ms n)]:=by simp[w5,xt]
def Ka(p:Pr)(s:im)(f:aB→Bool)(out:List aB):Fl:=⟨false,⟨nE f out 1 p.ag.length,w5 f out s.mems p.mems.length⟩,u5 f out 5 p.ae.length,oh f out p.ao.length⟩
theorem MD{f:aB→Bool}{kind i:Int}:tI f (bK kind i 1)=f ⟨kind,i,0⟩:=by simp[bK,tI]
section
variable {p:Pr} {s:im} {heads:List Head} {rooms:List Bool} (hp:fD p) (hs:qt p s heads rooms)
include hp hs
theorem jpk:Ka p s (j8 p s heads rooms) (eV p).out=DV (qF p s heads rooms):=by
 have h:=hp.ok
 have hU:=Qm hp
 have vz:∀i,i<p.ag.length→((kA (j8 p s heads rooms) (fh (eV p).out 1 (i:Nat)):Nat):Int)=(((if jM p s heads rooms then jt p s heads (nth p.ag i).next else(nth s.ag i).toNat):Nat):Int):=fun i hi=>by
  rw[ydp h hi,FJ (fun k hk=>ZX),Nat.mod_eq_of_lt (Yw h hs hi)]
 have zL:∀i,i<p.ae.length→tI (j8 p s heads rooms) (fh (eV p).out 5 (i:Nat))=(jM p s heads rooms&&qz p s i):=fun i hi=>by
  rw[ydq h hi,MD,ZW]
 have uA:∀i,i<p.ao.length→tI (j8 p s heads rooms) (fh (eV p).out 6 (i:Nat))=(jM p s heads rooms&&qG p s heads i):=fun i hi=>by
  rw[(jlp h hi).1,MD,ZV]
 have LZ:∀i,i<p.ao.length→((kA (j8 p s heads rooms) (fh (eV p).out 7 (i:Nat)):Nat):Int)=(((if jM p s heads rooms&&qG p s heads i then jt p s heads (nth p.ao i).da else 0):Nat):Int):=fun i hi=>by
  rw[(jlp h hi).2,FJ (fun k hk=>ZU),Nat.mod_eq_of_lt (ykp h hs hi)]
 have By:∀i,i<p.mems.length→tI (j8 p s heads rooms) (fh (eV p).out 8 (i:Nat))=(jM p s heads rooms&&decide (jt p s heads (nth p.mems i).en=1)):=fun i hi=>by
  rw[(Px h hi).1,MD,ZT]
 have had:∀i,i<p.mems.length→kA (j8 p s heads rooms) (fh (eV p).out 9 (i:Nat))=jt p s heads (nth p.mems i).ad % (nth p.mems i).words:=fun i hi=>by
  have hx:=Lp h hs hU hi
  rw[(Px h hi).2.1,FJ (fun k hk=>ZS),Nat.mod_eq_of_lt (show _<2^3 by omega)]
 have gH:∀i,i<p.mems.length→((kA (j8 p s heads rooms) (fh (eV p).out 10 (i:Nat)):Nat):Int)=((jt p s heads (nth p.mems i).da:Nat):Int):=fun i hi=>by
  have hx:=Lp h hs hU hi
  rw[(Px h hi).2.2,FJ (fun k hk=>WW),Nat.mod_eq_of_lt hx.2.2]
 unfold Ka nE w5 u5 oh qF DV
 by_cases hf:jM p s heads rooms=true
 ·rw[if_pos hf]
  simp only[hf,if_true,Bool.true_and]at vz zL uA LZ By
  simp only
  congr 1
  ·congr 1
   ·exact Ce vz
   ·refine Ce fun i hi=>?_
    have hx:=Lp h hs hU hi
    unfold wB
    rw[By i hi,had i hi,gH i hi,hs.mw i hi,decide_eq_true hx.1,Bool.and_true]
    simp only[oU]
  ·exact Ce zL
  ·refine Ce fun i hi=>?_
   rw[uA i hi,LZ i hi]
   cases qG p s heads i<;>rfl
 ·rw[if_neg hf]
  have hf':jM p s heads rooms=false:=by simpa using hf
  simp only[hf',Bool.false_and]at vz zL uA LZ By
  simp only
  congr 1
  ·have e1:(List.range p.ag.length).map (fun(i:Nat)=>((kA (j8 p s heads rooms) (fh (eV p).out 1 i):Nat):Int))=s.ag:=SZ hs.rl fun i hi=>by
    rw[vz i hi]
    have:=(hs.rv i hi).1
    simp;omega
   have e2:(List.range p.mems.length).map (fun i=>wB (j8 p s heads rooms) (eV p).out i (nth s.mems i))=s.mems:=SZ hs.ml fun i hi=>by
    unfold wB
    rw[By i hi,Bool.false_and,if_neg (by decide)]
   rw[e1,e2]
  ·exact F2 zL
  ·refine F2 fun i hi=>?_
   rw[uA i hi,LZ i hi];rfl
end
end Go.Proofs.YtapjobndmmkanaaGreat
