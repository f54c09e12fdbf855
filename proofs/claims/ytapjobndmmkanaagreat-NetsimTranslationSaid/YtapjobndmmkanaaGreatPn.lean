/- States, heads and rooms that bytes describe; valid states. -/
import Derived.Test.YtapjobndmmkanaaGreatQr
import Derived.Test.YtapjobndmmkanaaGreatPm
import Derived.Test.YtapjobndmmkanaaGreatPh
set_option linter.unusedVariables false
set_option linter.unusedSimpArgs false
set_option maxRecDepth 100000
set_option maxHeartbeats 4000000
namespace Go.Proofs.YtapjobndmmkanaaGreat
open Go.Proofs.Tryz
open Go Go.RowKit
theorem ylv{l:List PReg}{k:Nat}(h:k<l.length):(l.flatMap prC)[k*13+1]? =some (iD (nth l k).w):=(zdk (j:=1) zpz h (by omega)).trans rfl
abbrev LL:=List (List Int)
def zzp(l:List (List Int)):D:=.fs (l.map bytesD) l.length
def nlS:AV:=.d (.val (.slice none 0 0))
theorem zzq{x w:Nat}:(0:Int)≤((x % 2^w:Nat):Int)∧((x % 2^w:Nat):Int)<2^w:=zzm (Nat.mod_lt _ (Nat.two_pow_pos w))
theorem jku{l:List Int}{P:Nat→Int→Prop}{k:Nat}{x:Int}(hl:l.length=k)(h:∀j,j<k→P j (nth l j))(hx:P k x):∀j,j<k+1→P j (nth (l++[x]) j):=fun j hj=>by
 subst hl
 by_cases e:j<l.length
 ·rw[zgu e];exact h j e
 ·rw[show j=l.length by omega,zfj];exact hx
theorem jvp{l:List Head}{P:Nat→Int→Prop}{k:Nat}{x:Head}(hl:l.length=k)(h:∀j,j<k→P j (nth l j).v)(hx:P k x.v):∀j,j<k+1→P j (nth (l++[x]) j).v:=fun j hj=>by
 subst hl
 by_cases e:j<l.length
 ·rw[zgu e];exact h j e
 ·rw[show j=l.length by omega,zfj];exact hx
theorem zl8{p q:Prop}(hq:q)(h:p=q:=by
 conv=>lhs;simp -dsimp -implicitDefEqProofs (disch:=first|assumption|omega|(simp only[r_z,zbt,zb0]<;>omega)|decide) only[r_r,↓reduceIte,Nat.reduceEqDiff,Nat.reduceAdd,D.fix,Int.reduceToNat,Nat.reduceMul,Nat.reduceBNe,Nat.reduceBEq,zc4,zar,zbk,nlS,zc5,sD,nS,qae]):p:=h.mpr hq
theorem jvq{p q:Prop}(hq:q)(h:p=q:=by
 conv=>lhs;simp -dsimp -implicitDefEqProofs (disch:=first|assumption|omega|(simp only[r_z,zbt,zb0]<;>omega)|decide) only[r_r,↓reduceIte,Nat.reduceEqDiff,Nat.reduceAdd,D.fix,Int.reduceToNat,Nat.reduceMul,Nat.reduceBNe,Nat.reduceBEq,zc4,zar,zbk,nlS,zc5,sD,nS]):p:=h.mpr hq
theorem jft{m:List Nat}{τ τ':Fr}{H H':zad}(h2:H=H')(h:zgk τ τ':=by
 repeat (first|exact zaq _|refine zak ?_ (by first|rfl|(simp[r_f,zbt,zb0];done)|simp[r_f,zbt,zb0, *]))):Rt m τ H τ' H':=Rt.end h h2
theorem jkv{p q r:Prop}(e:r)(hq:q)(h:r→p=q:=by
 intro hY
 conv=>lhs;simp -dsimp -implicitDefEqProofs (disch:=first|assumption|omega|(simp only[r_z,zbt,zb0]<;>omega)|decide) only[r_r,↓reduceIte,Nat.reduceEqDiff,Nat.reduceAdd,D.fix,Int.reduceToNat,Nat.reduceMul,Nat.reduceBNe,Nat.reduceBEq,zc4,zar,zbk,nlS,zc5,sD,nS,qae,hY]):p:=(h e).mpr hq
theorem yec(k:List Nat){m:List Nat}{τ τ1:Fr}{H H1:zad}(h:Rt m (fun t=>gcV k (τ t)) (gcH k H) τ1 H1)(a:∀i∈m,k[i]? =some i:=by decide)(b:k.Nodup:=by decide)(c:∀i∈k,i<H.length:=by
 simp[fzH,gcH]):Rt m τ H τ1 H1:=Rt.trans (Rt.gc a b c) h
theorem yg3{p:Prop}(h:p:=by
 first|rfl|(simp only[r_g,Nat.reduceAdd,↓reduceIte,Nat.reduceEqDiff,zc4,zar,zbk,nlS,zc5,sD,nS];first|done|rfl)):p:=h
theorem yjb{p q:Prop}(hq:q)(h:p=q:=by
 conv=>lhs;simp only[r_g,Nat.reduceAdd,↓reduceIte,Nat.reduceEqDiff,zc4,zar,zbk,nlS,zc5,sD,nS]):p:=h.mpr hq
theorem jvr(p:Pr)(hP:Proc p)(b:List Int)(hb:zg1 b)(hl:b.length≤maxLen):zg5 prog 18 [zc4 p,bytesD b] (fun r=>∃s,StS p s∧r= .d (.agg (zc5 s))):=by
 have hr3:=hP.r3
 have hm1:=hP.m1
 refine zj9 (fn:=f18) (by kernel_rfl) func18 rfl (qaf rfl) fun c hc hp=>?_
 refine za0 (τ':=frL [(0,.d (zc4 p)),(1,.d (bytesD b))]) (by repeat (first|exact zaq _|refine zak ?_ (by first|rfl|(simp[r_f,zbt,zb0];done)|simp[r_f,zbt,zb0, *]))) ?_
 refine szq (zl8 ·) ?_
 refine szq (zl8 ·) ?_
 refine szq (zl8 ·) ?_
 refine zaa fun K4 hK4=>?_
 refine szq (jvq ·) ?_
 refine zag ?_
 refine zao hp (fun τ' H' mm=>∃(i:Nat) (rg:List Int),(i≤p.regs.length∧rg.length=i∧∀j,j<i→0≤nth rg j∧nth rg j<2^(nth p.regs j).w)∧mm=p.regs.length - i∧H'=[.cells (avs (zar p)),.cells [nlS,nlS],.cells (avs (zbk b i)),.cells [.os 1 4 0 i,nlS],.cells (avs (rg.map iD))]∧τ'=frL [(2,.op 0 0),(4,.op 1 0),(5,.op 2 0),(6,.op 3 0),(7,.d (iD i))]) (p.regs.length) ?_ ⟨0,[],⟨qap _,rfl,fun j hj=>absurd hj (Nat.not_lt_zero _)⟩,rfl,rfl,rfl⟩ ?_
 ·refine Rt.trans (Rt.nilc 3 0 1 rfl rfl) ?_
  refine jft ?_
  exact yg3
 rintro τ' H' mm ⟨i,rg,⟨hi,hrl,hrg⟩,rfl,rfl,rfl⟩
 refine zaa fun K6 hK6=>?_
 refine szq (zl8 ·) ?_
 refine zan rfl (fun ht=>?_) (fun ht=>?_)
 ·have hlt:i<p.regs.length:=by simp at ht;omega
  have hw:=hP.rw i hlt
  have m1:=ylv hlt
  obtain⟨w,hwe⟩:∃w,w=(nth p.regs i).w:=⟨_,rfl⟩
  rw[←hwe]at hw m1
  obtain⟨y,hy⟩:∃y:Nat,byN b i=y:=⟨(byN b i).toNat,by have:=(zgn hb i).1;omega⟩
  have hy2:=(zgn hb i).2
  have hyb:=ziw b i hb hl
  rw[hy]at hyb
  have hu:IntKind.u64.wrap (w:Int)=w:=je4 (by omega) (by omega)
  have hs:=jff (w:=w) (by omega)
  have hm:=zna (v:=y) (w:=w) (by omega) (by omega)
  have hp0:=Nat.two_pow_pos w
  have hp2:2^w≤256:=Nat.le_trans (qba (by decide) (show w≤8 by omega)) (show 2^8≤256 by decide)
  have hnew:(0:Int)≤((y % 2^w:Nat):Int)∧((y % 2^w:Nat):Int)<2^(nth p.regs i).w:=by rw[←hwe];exact zzq
  obtain⟨M,hM⟩:∃M:Nat,2^w=M:=⟨_,rfl⟩
  rw[hM]at hs hm hp0 hp2 hnew
  refine zai (hK6 _ _ ?_)
  refine zaa fun K8 hK8=>?_
  refine zag ?_
  refine zay zah hc mixed rfl (q:=2) (by kernel_rfl) (by kernel_rfl) fun K9 hK9=>?_
  refine jkv (sza m1 (sza hu (sza hs hm))) ?_
  refine zbl (hyb) rfl ?_
  refine jkv (sza m1 (sza hu (sza hs hm))) ?_
  refine hK9 _ _ ?_
  refine za1 hp zah hc rfl fun K10 hK10=>?_
  refine zl8 ?_
  refine zbl (jfe b i 1 (by omega) (by omega)) rfl ?_
  refine zl8 ?_
  refine hK10 _ _ (hK8 _ _ ?_)
  refine za1 hp zah hc rfl fun K11 hK11=>?_
  refine zl8 ?_
  refine hK11 _ _ ⟨_,_,_,?_,⟨i+1,rg++[((y % M:Nat):Int)],⟨by omega,by simp[hrl],jku (P:=fun j x=>0≤x∧x<2^(nth p.regs j).w) hrl hrg hnew⟩,rfl,rfl,rfl⟩,?_⟩
  ·first|omega|(simp only[List.length_cons];omega)|(dsimp only;omega)
  ·refine yec [0,1,2,3,6] ?_
   refine jft ?_
   refine yjb ?_;rw[List.map_append];rfl
 ·have hii:i=p.regs.length:=by simp at ht;omega
  subst hii
  refine zau (hK4 _ _ ?_)
  refine zaa fun K12 hK12=>?_
  refine szq (jvq ·) ?_
  refine zag ?_
  refine zao hp (fun τ' H' mm=>∃(i:Nat) (n:Nat) (ms:LL),(i≤p.mems.length∧n≤3+4*i∧ms.length=i∧∀j,j<i→(nth ms j).length=(nth p.mems j).words∧∀k,k<(nth p.mems j).words→0≤nth (nth ms j) k∧nth (nth ms j) k<2^(nth p.mems j).w)∧mm=p.mems.length - i∧H'=[.cells (avs (zar p)),.cells [nlS,nlS],.cells (avs (zbk b n)),.cells [.os 1 4 0 p.regs.length,.os 1 5 0 i],.cells (avs (rg.map iD)),.cells (avs (ms.map intsD))]∧τ'=frL [(2,.op 0 0),(4,.op 1 0),(5,.op 2 0),(6,.op 3 0),(8,.d (iD i))]) (p.mems.length) ?_ ⟨0,p.regs.length,[],⟨qap _,by omega,rfl,fun j hj=>absurd hj (Nat.not_lt_zero _)⟩,rfl,rfl,rfl⟩ ?_
  ·refine Rt.trans (Rt.nilc 3 1 1 rfl rfl) ?_
   refine jft ?_
   exact yg3
  rintro τ' H' mm ⟨i,n,ms,⟨hi,hn,hml,hms⟩,rfl,rfl,rfl⟩
  refine zaa fun K14 hK14=>?_
  refine szq (zl8 ·) ?_
  refine zan rfl (fun ht=>?_) (fun ht=>?_)
  ·have hlt:i<p.mems.length:=by simp at ht;omega
   have hw:=hP.mw i hlt
   have m1:=yg1 hlt
   have m2:=yi1 hlt
   obtain⟨w,hwe⟩:∃w,w=(nth p.mems i).w:=⟨_,rfl⟩
   obtain⟨wo,hwo⟩:∃w,w=(nth p.mems i).words:=⟨_,rfl⟩
   rw[←hwe,←hwo]at hw
   rw[←hwe]at m1
   rw[←hwo]at m2
   have hu:IntKind.u64.wrap (w:Int)=w:=je4 (by omega) (by omega)
   have hs:=jff (w:=w) (by omega)
   have hp0:=Nat.two_pow_pos w
   have hp2:2^w≤256:=Nat.le_trans (qba (by decide) (show w≤8 by omega)) (show 2^8≤256 by decide)
   have hmm:∀y:Nat,y<256→zr9 .and .i64 y (((2^w:Nat):Int) - 1)=((y % 2^w:Nat):Int):=fun y hy=>zna (v:=y) (w:=w) (by omega) (by omega)
   have hnw:∀y:Nat,(0:Int)≤((y % 2^w:Nat):Int)∧((y % 2^w:Nat):Int)<2^(nth p.mems i).w:=fun y=>by rw[←hwe];exact zzq
   obtain⟨M,hM⟩:∃M:Nat,2^w=M:=⟨_,rfl⟩
   rw[hM]at hs hmm hp0 hp2 hnw
   refine zai (hK14 _ _ ?_)
   refine zaa fun K16 hK16=>?_
   refine zag ?_
   refine szq (zl8 ·) ?_
   refine zaa fun K18 hK18=>?_
   refine szq (jvq ·) ?_
   refine zag ?_
   refine zao hp (fun τ' H' mm=>∃(k:Nat) (ws:List Int),(k≤wo∧ws.length=k∧∀j,j<k→0≤nth ws j∧nth ws j<2^(nth p.mems i).w)∧mm=wo - k∧H'=[.cells (avs (zar p)),.cells [nlS,nlS],.cells (avs (zbk b (n+k))),.cells [.os 1 4 0 p.regs.length,.os 1 5 0 i],.cells (avs (rg.map iD)),.cells (avs (ms.map intsD)),.cells (avs (ws.map iD))]∧τ'=frL [(2,.op 0 0),(4,.op 1 0),(5,.op 2 0),(6,.op 3 0),(8,.d (iD i)),(9,.os 1 6 0 k),(10,.d (iD k))]) (wo) ?_ ⟨0,[],⟨qap _,rfl,fun j hj=>absurd hj (Nat.not_lt_zero _)⟩,rfl,rfl,rfl⟩ ?_
   ·refine jft ?_
    exact yg3
   rintro τ' H' mm ⟨k,ws,⟨hk,hwl,hws⟩,rfl,rfl,rfl⟩
   refine zaa fun K20 hK20=>?_
   refine szq (jkv m2 ·) ?_
   refine zan rfl (fun ht=>?_) (fun ht=>?_)
   ·have hlk:k<wo:=by simp at ht;omega
    obtain⟨y,hy⟩:∃y:Nat,byN b (n+k)=y:=⟨(byN b (n+k)).toNat,by have:=(zgn hb (n+k)).1;omega⟩
    have hy2:=(zgn hb (n+k)).2
    have hyb:=ziw b (n+k) hb hl
    rw[hy]at hyb
    have hm:=hmm y (by omega)
    refine zai (hK20 _ _ ?_)
    refine zaa fun K22 hK22=>?_
    refine zag ?_
    refine zay zah hc mixed rfl (q:=2) (by kernel_rfl) (by kernel_rfl) fun K23 hK23=>?_
    refine jkv (sza m1 (sza hu (sza hs hm))) ?_
    refine zbl (hyb) rfl ?_
    refine jkv (sza m1 (sza hu (sza hs hm))) ?_
    refine hK23 _ _ ?_
    refine za1 hp zah hc rfl fun K24 hK24=>?_
    refine zl8 ?_
    refine zbl (jfe b (n+k) 1 (by omega) (by omega)) rfl ?_
    refine zl8 ?_
    refine hK24 _ _ (hK22 _ _ ?_)
    refine za1 hp zah hc rfl fun K25 hK25=>?_
    refine zl8 ?_
    refine hK25 _ _ ⟨_,_,_,?_,⟨k+1,ws++[((y % M:Nat):Int)],⟨by omega,by simp[hwl],jku (P:=fun _ x=>0≤x∧x<2^(nth p.mems i).w) hwl hws (hnw y)⟩,rfl,rfl,rfl⟩,?_⟩
    ·first|omega|(simp only[List.length_cons];omega)|(dsimp only;omega)
    ·refine yec [0,1,2,3,4,5,8] ?_
     refine jft ?_
     refine yjb ?_;rw[List.map_append];rfl
   ·have hkk:k=wo:=by simp at ht;omega
    subst hkk
    have hW:(nth p.mems i).words=k:=hwo.symm
    clear hwo
    have htk:zbz (ws.map iD) 0 k=some (ws.map iD):=zba (by simp[hwl])
    have hnx:∀j,j<i+1→(nth (ms++[ws]) j).length=(nth p.mems j).words∧∀k,k<(nth p.mems j).words→0≤nth (nth (ms++[ws]) j) k∧nth (nth (ms++[ws]) j) k<2^(nth p.mems j).w:=fun j hj=>by
     by_cases e:j<i
     ·rw[zgu (by omega)];exact hms j e
     ·rw[show j=ms.length by omega,zfj,hml]
      exact⟨by omega,fun q hq=>hws q (by omega)⟩
    refine zau (hK18 _ _ ?_)
    refine zav hp (τ':=frL [(2,.op 0 0),(4,.op 1 0),(5,.op 2 0),(6,.op 3 0),(8,.d (iD i)),(9,.d (.fs (ws.map iD) k))]) (H':=[.cells (avs (zar p)),.cells [nlS,nlS],.cells (avs (zbk b (n+k))),.cells [.os 1 4 0 p.regs.length,.os 1 5 0 i],.cells (avs (rg.map iD)),.cells (avs (ms.map intsD)),.dead]) ?_ ?_
    ·refine Rt.trans (Rt.fz (id:=6) (l:=(ws.map iD)) rfl) ?_
     refine jft ?_
     exact yg3
    refine szs (zl8 ·) (hK16 _ _ ?_)
    refine za1 hp zah hc rfl fun K27 hK27=>?_
    refine zl8 ?_
    refine hK27 _ _ ⟨_,_,_,?_,⟨i+1,n+k,ms++[ws],⟨by omega,by omega,by simp[hml],hnx⟩,rfl,rfl,rfl⟩,?_⟩
    ·first|omega|(simp only[List.length_cons];omega)|(dsimp only;omega)
    ·refine yec [0,1,2,3,4,8] ?_
     refine jft ?_
     refine yjb ?_;simp[intsD,hwl,iD]
  ·have him:i=p.mems.length:=by simp at ht;omega
   refine zau (hK12 _ _ ?_)
   refine szq (zl8 ·) ?_
   refine zaj ?_
   try dsimp only[zcg,za5]
   refine za6 rfl ?_
   simp -dsimp -implicitDefEqProofs (disch:=first|assumption|omega|(simp only[r_z,zbt,zb0]<;>omega)|decide) only[r_r,↓reduceIte,Nat.reduceEqDiff,Nat.reduceAdd,D.fix,Int.reduceToNat,Nat.reduceMul,Nat.reduceBNe,Nat.reduceBEq,zc4,zar,zbk,nlS,zc5,sD,nS,zm3,zm4]
   show ∃r,closeA _ _=some r∧_
   simp (disch:=first|assumption|omega|(simp only[r_z,zbt,zb0]<;>omega)|decide) only[r_c,Nat.reduceAdd,D.fix,↓reduceIte,Nat.reduceEqDiff,zc4,zar,zbk,nlS,zc5,sD,nS]
   subst him
   exact⟨_,rfl,⟨rg,ms⟩,⟨hrl,hrg,hml,fun j hj=>(hms j hj).1,fun j hj=>(hms j hj).2⟩,by simp[zc5,intsD,intssD,hrl,hml]⟩
theorem znn{p q:Prop}(hq:q)(h:p=q:=by
 conv=>lhs;simp -dsimp -implicitDefEqProofs (disch:=first|assumption|omega|(simp only[r_z,zbr,zbs,zat]<;>omega)|decide) only[r_r,↓reduceIte,Nat.reduceEqDiff,Nat.reduceAdd,D.fix,Int.reduceToNat,Nat.reduceMul,Nat.reduceBNe,Nat.reduceBEq,zc4,zar,zbk,nlS,za9,sD,nS,qae]):p:=h.mpr hq
theorem yed{p q:Prop}(hq:q)(h:p=q:=by
 conv=>lhs;simp -dsimp -implicitDefEqProofs (disch:=first|assumption|omega|(simp only[r_z,zbr,zbs,zat]<;>omega)|decide) only[r_r,↓reduceIte,Nat.reduceEqDiff,Nat.reduceAdd,D.fix,Int.reduceToNat,Nat.reduceMul,Nat.reduceBNe,Nat.reduceBEq,zc4,zar,zbk,nlS,za9,sD,nS]):p:=h.mpr hq
theorem yg4{m:List Nat}{τ τ':Fr}{H H':zad}(h2:H=H')(h:zgk τ τ':=by
 repeat (first|exact zaq _|refine zak ?_ (by first|rfl|(simp[r_f,zbr,zbs,zat];done)|simp[r_f,zbr,zbs,zat, *]))):Rt m τ H τ' H':=Rt.end h h2
theorem jvs{p q r:Prop}(e:r)(hq:q)(h:r→p=q:=by
 intro hY
 conv=>lhs;simp -dsimp -implicitDefEqProofs (disch:=first|assumption|omega|(simp only[r_z,zbr,zbs,zat]<;>omega)|decide) only[r_r,↓reduceIte,Nat.reduceEqDiff,Nat.reduceAdd,D.fix,Int.reduceToNat,Nat.reduceMul,Nat.reduceBNe,Nat.reduceBEq,zc4,zar,zbk,nlS,za9,sD,nS,qae,hY]):p:=(h e).mpr hq
theorem ylw{p:Prop}(h:p:=by
 first|rfl|(simp only[r_g,Nat.reduceAdd,↓reduceIte,Nat.reduceEqDiff,zc4,zar,zbk,nlS,za9,sD,nS];first|done|rfl)):p:=h
theorem ylx{p q:Prop}(hq:q)(h:p=q:=by
 conv=>lhs;simp only[r_g,Nat.reduceAdd,↓reduceIte,Nat.reduceEqDiff,zc4,zar,zbk,nlS,za9,sD,nS]):p:=h.mpr hq
theorem yee(p:Pr)(hP:Proc p)(b:List Int)(hb:zg1 b)(hl:b.length≤maxLen):zg5 prog 19 [zc4 p,bytesD b] (fun r=>∃heads rooms,InS p heads rooms∧r= .d (.agg [za9 heads,boolsD rooms])):=by
 have ht2:=hP.t2
 have hq2:=hP.q2
 refine zj9 (fn:=f19) (by kernel_rfl) func19 rfl (qaf rfl) fun c hc hp=>?_
 refine za0 (τ':=frL [(0,.d (zc4 p)),(1,.d (bytesD b))]) (by repeat (first|exact zaq _|refine zak ?_ (by first|rfl|(simp[r_f,zbr,zbs,zat];done)|simp[r_f,zbr,zbs,zat, *]))) ?_
 refine szq (znn ·) ?_
 refine szq (znn ·) ?_
 refine szq (znn ·) ?_
 refine zaa fun K4 hK4=>?_
 refine szq (yed ·) ?_
 refine zag ?_
 refine zao hp (fun τ' H' mm=>∃(i:Nat) (hs:List Head),(i≤p.takes.length∧hs.length=i∧∀j,j<i→0≤(nth hs j).v∧(nth hs j).v<2^(nth p.takes j).w)∧mm=p.takes.length - i∧H'=[.cells (avs (zar p)),.cells [nlS,nlS],.cells (avs (zbk b i)),.cells [.os 2 4 0 i,nlS],.cells (avs (hs.flatMap zcj))]∧τ'=frL [(2,.op 0 0),(4,.op 1 0),(5,.op 2 0),(6,.op 3 0),(7,.d (iD i))]) (p.takes.length) ?_ ⟨0,[],⟨qap _,rfl,fun j hj=>absurd hj (Nat.not_lt_zero _)⟩,rfl,rfl,rfl⟩ ?_
 ·refine Rt.trans (Rt.nilc 3 0 2 rfl rfl) ?_
  refine yg4 ?_
  exact ylw
 rintro τ' H' mm ⟨i,hs,⟨hi,hrl,hrg⟩,rfl,rfl,rfl⟩
 refine zaa fun K6 hK6=>?_
 refine szq (znn ·) ?_
 refine zan rfl (fun ht=>?_) (fun ht=>?_)
 ·have hlt:i<p.takes.length:=by simp at ht;omega
  have hw:=hP.tw i hlt
  have m1:=ylt hlt
  obtain⟨w,hwe⟩:∃w,w=(nth p.takes i).w:=⟨_,rfl⟩
  rw[←hwe]at hw m1
  obtain⟨y,hy⟩:∃y:Nat,byN b i=y:=⟨(byN b i).toNat,by have:=(zgn hb i).1;omega⟩
  have hy2:=(zgn hb i).2
  have hyb:=ziw b i hb hl
  rw[hy]at hyb
  have hy4:(y:Int) % 4=((y % 4:Nat):Int):=by omega
  have hyq:(y:Int) / 4=((y / 4:Nat):Int):=by omega
  have hu:IntKind.u64.wrap (w:Int)=w:=je4 (by omega) (by omega)
  have hs2:=jff (w:=w) (by omega)
  have hm:=zna (v:=y / 4) (w:=w) (by omega) (by omega)
  have hp0:=Nat.two_pow_pos w
  have hp2:2^w≤256:=Nat.le_trans (qba (by decide) (show w≤8 by omega)) (show 2^8≤256 by decide)
  have hnew:(0:Int)≤((y / 4 % 2^w:Nat):Int)∧((y / 4 % 2^w:Nat):Int)<2^(nth p.takes i).w:=by rw[←hwe];exact zzq
  obtain⟨M,hM⟩:∃M:Nat,2^w=M:=⟨_,rfl⟩
  rw[hM]at hs2 hm hp0 hp2 hnew
  obtain⟨hd,hhd⟩:∃hd:Head,hd=⟨((y % 4:Nat):Int) !=3,((y / 4 % M:Nat):Int)⟩:=⟨_,rfl⟩
  have hnew2:0≤hd.v∧hd.v<2^(nth p.takes i).w:=by rw[hhd];exact hnew
  refine zai (hK6 _ _ ?_)
  refine zaa fun K8 hK8=>?_
  refine zag ?_
  refine zaf hp zah hc rfl fun K9 hK9=>?_
  refine znn ?_
  refine zbl (hyb) rfl ?_
  refine znn ?_
  refine hK9 _ _ ?_
  refine zay zah hc mixed rfl (q:=2) (by kernel_rfl) (by kernel_rfl) fun K10 hK10=>?_
  refine jvs (sza m1 (sza hu (sza hs2 (sza hm (sza hy4 hyq))))) ?_
  refine hK10 _ _ ?_
  refine za1 hp zah hc rfl fun K11 hK11=>?_
  refine znn ?_
  refine zbl (jfe b i 1 (by omega) (by omega)) rfl ?_
  refine znn ?_
  refine hK11 _ _ (hK8 _ _ ?_)
  refine za1 hp zah hc rfl fun K12 hK12=>?_
  refine znn ?_
  refine hK12 _ _ ⟨_,_,_,?_,⟨i+1,hs++[hd],⟨by omega,by simp[hrl],jvp (P:=fun j x=>0≤x∧x<2^(nth p.takes j).w) hrl hrg hnew2⟩,rfl,rfl,rfl⟩,?_⟩
  ·first|omega|(simp only[List.length_cons];omega)|(dsimp only;omega)
  ·refine yec [0,1,2,3,6] ?_
   refine yg4 ?_
   refine ylx ?_;rw[hhd];simp[zcj,iD,oD]
 ·have hii:i=p.takes.length:=by simp at ht;omega
  subst hii
  refine zau (hK4 _ _ ?_)
  refine zaa fun K13 hK13=>?_
  refine szq (yed ·) ?_
  refine zag ?_
  refine zao hp (fun τ' H' mm=>∃(i:Nat) (rs:List Bool),(i≤p.puts.length∧rs.length=i)∧mm=p.puts.length - i∧H'=[.cells (avs (zar p)),.cells [nlS,nlS],.cells (avs (zbk b (p.takes.length+i))),.cells [.os 2 4 0 p.takes.length,.os 1 5 0 i],.cells (avs (hs.flatMap zcj)),.cells (avs (rs.map oD))]∧τ'=frL [(2,.op 0 0),(4,.op 1 0),(5,.op 2 0),(6,.op 3 0),(9,.d (iD i))]) (p.puts.length) ?_ ⟨0,[],⟨qap _,rfl⟩,rfl,rfl,rfl⟩ ?_
  ·refine Rt.trans (Rt.nilc 3 1 1 rfl rfl) ?_
   refine yg4 ?_
   exact ylw
  rintro τ' H' mm ⟨i,rs,⟨hi,hml⟩,rfl,rfl,rfl⟩
  refine zaa fun K15 hK15=>?_
  refine szq (znn ·) ?_
  refine zan rfl (fun ht=>?_) (fun ht=>?_)
  ·have hlt:i<p.puts.length:=by simp at ht;omega
   obtain⟨y,hy⟩:∃y:Nat,byN b (p.takes.length+i)=y:=⟨(byN b (p.takes.length+i)).toNat,by have:=(zgn hb (p.takes.length+i)).1;omega⟩
   have hy2:=(zgn hb (p.takes.length+i)).2
   have hyb:=ziw b (p.takes.length+i) hb hl
   rw[hy]at hyb
   have hy4:(y:Int) % 4=((y % 4:Nat):Int):=by omega
   refine zai (hK15 _ _ ?_)
   refine zaa fun K17 hK17=>?_
   refine zag ?_
   refine zay zah hc mixed rfl (q:=2) (by kernel_rfl) (by kernel_rfl) fun K18 hK18=>?_
   refine jvs hy4 ?_
   refine zbl (hyb) rfl ?_
   refine jvs hy4 ?_
   refine hK18 _ _ ?_
   refine za1 hp zah hc rfl fun K19 hK19=>?_
   refine znn ?_
   refine zbl (jfe b (p.takes.length+i) 1 (by omega) (by omega)) rfl ?_
   refine znn ?_
   refine hK19 _ _ (hK17 _ _ ?_)
   refine za1 hp zah hc rfl fun K20 hK20=>?_
   refine znn ?_
   refine hK20 _ _ ⟨_,_,_,?_,⟨i+1,rs++[((y % 4:Nat):Int) !=3],⟨by omega,by simp[hml]⟩,rfl,rfl,rfl⟩,?_⟩
   ·first|omega|(simp only[List.length_cons];omega)|(dsimp only;omega)
   ·refine yec [0,1,2,3,4,7] ?_
    refine yg4 ?_
    refine ylx ?_;rw[List.map_append];rfl
  ·have him:i=p.puts.length:=by simp at ht;omega
   refine zau (hK13 _ _ ?_)
   refine szq (znn ·) ?_
   refine zaj ?_
   try dsimp only[zcg,za5]
   refine za6 rfl ?_
   simp -dsimp -implicitDefEqProofs (disch:=first|assumption|omega|(simp only[r_z,zbr,zbs,zat]<;>omega)|decide) only[r_r,↓reduceIte,Nat.reduceEqDiff,Nat.reduceAdd,D.fix,Int.reduceToNat,Nat.reduceMul,Nat.reduceBNe,Nat.reduceBEq,zc4,zar,zbk,nlS,za9,sD,nS,jja,jjb]
   show ∃r,closeA _ _=some r∧_
   simp (disch:=first|assumption|omega|(simp only[r_z,zbr,zbs,zat]<;>omega)|decide) only[r_c,Nat.reduceAdd,D.fix,↓reduceIte,Nat.reduceEqDiff,zc4,zar,zbk,nlS,za9,sD,nS]
   subst him
   exact⟨_,rfl,hs,rs,⟨hrl,hrg,hml⟩,by simp[za9,boolsD,hrl,hml,zk4]⟩
theorem jkw(v:Int)(w:Nat)(h0:0≤v)(h:v<2^w)(hw:w≤8):za2 prog 98 [iD v,iD w] (.d (oD true)):=by
 have q0:decide (0≤v)=true:=decide_eq_true h0
 have hu:IntKind.u64.wrap (w:Int)=w:=je4 (by omega) (by omega)
 have hs:v.fdiv (2^min w 64)=0:=by
  obtain⟨n,rfl⟩:∃n:Nat,v=n:=⟨v.toNat,by omega⟩
  have e:((2^w:Nat):Int)=(2:Int)^w:=by simp
  have hn:n<2^w:=by omega
  rw[ydq hw,Nat.div_eq_of_lt hn];rfl
 refine zax (fn:=f98) (by kernel_rfl) func98 rfl (qaf rfl) fun c hc hp=>?_
 refine za0 (τ':=frL [(0,.d (iD v)),(1,.d (iD w))]) (by repeat (first|exact zaq _|refine zak ?_ (by first|rfl|(simp[r_f];done)|simp[r_f, *]))) ?_
 refine zaf hp zah hc rfl fun K1 hK1=>?_
 simp -dsimp -implicitDefEqProofs (disch:=first|assumption|omega|(simp only[r_z]<;>omega)|decide) only[r_r,↓reduceIte,Nat.reduceEqDiff,Nat.reduceAdd,D.fix,Int.reduceToNat,Nat.reduceMul,Nat.reduceBNe,Nat.reduceBEq]
 refine hK1 _ _ ?_
 refine zaf hp zah hc rfl fun K2 hK2=>?_
 simp -dsimp -implicitDefEqProofs (disch:=first|assumption|omega|(simp only[r_z]<;>omega)|decide) only[r_r,↓reduceIte,Nat.reduceEqDiff,Nat.reduceAdd,D.fix,Int.reduceToNat,Nat.reduceMul,Nat.reduceBNe,Nat.reduceBEq,q0,hu,hs,beq_self_eq_true,qae]
 refine hK2 _ _ ?_
 refine zaj ?_
 show closeA _ _=_
 simp (disch:=first|assumption|omega|(simp only[r_z]<;>omega)|decide) only[r_c,Nat.reduceAdd,D.fix,↓reduceIte,Nat.reduceEqDiff]
theorem zzr{p q:Prop}(hq:q)(h:p=q:=by
 conv=>lhs;simp -dsimp -implicitDefEqProofs (disch:=first|assumption|omega|(simp only[r_z,zbt,zb0]<;>omega)|decide) only[r_r,↓reduceIte,Nat.reduceEqDiff,Nat.reduceAdd,D.fix,Int.reduceToNat,Nat.reduceMul,Nat.reduceBNe,Nat.reduceBEq,zc4,zar,zc5,intssD,za4,sD,nS,qae]):p:=h.mpr hq
theorem jfu{p q r:Prop}(e:r)(hq:q)(h:r→p=q:=by
 intro hY
 conv=>lhs;simp -dsimp -implicitDefEqProofs (disch:=first|assumption|omega|(simp only[r_z,zbt,zb0]<;>omega)|decide) only[r_r,↓reduceIte,Nat.reduceEqDiff,Nat.reduceAdd,D.fix,Int.reduceToNat,Nat.reduceMul,Nat.reduceBNe,Nat.reduceBEq,zc4,zar,zc5,intssD,za4,sD,nS,qae,hY]):p:=(h e).mpr hq
theorem joc{p q:Prop}(hq:q)(h:p=q:=by
 conv=>lhs;simp -dsimp -implicitDefEqProofs (disch:=first|assumption|omega|(simp only[r_z,zbt,zb0]<;>omega)|decide) only[r_r,↓reduceIte,Nat.reduceEqDiff,Nat.reduceAdd,D.fix,Int.reduceToNat,Nat.reduceMul,Nat.reduceBNe,Nat.reduceBEq,zc4,zar,zc5,intssD,za4,sD,nS]):p:=h.mpr hq
theorem jxq{p:Prop}(h:p:=by
 first|rfl|(simp only[r_g,Nat.reduceAdd,↓reduceIte,Nat.reduceEqDiff,zc4,zar,zc5,intssD,za4,sD,nS];first|done|rfl)):p:=h
theorem yjc(p:Pr)(hP:Proc p)(s:PSt)(h:StS p s):za2 prog 33 [zc4 p,.agg (zc5 s)] (.d (oD true)):=by
 have hr3:=hP.r3
 have hm1:=hP.m1
 have hrl:=h.rl
 have hml:=h.ml
 have q0:((s.regs.length:Int) !=p.regs.length)=false:=by simp;omega
 have q1:((s.mems.length:Int) !=p.mems.length)=false:=by simp;omega
 refine zax (fn:=f33) (by kernel_rfl) func33 rfl (qaf rfl) fun c hc hp=>?_
 refine za0 (τ':=frL [(0,.d (zc4 p)),(1,.d (.agg (zc5 s)))]) (by repeat (first|exact zaq _|refine zak ?_ (by first|rfl|(simp[r_f,zbt,zb0];done)|simp[r_f,zbt,zb0, *]))) ?_
 refine szq (zzr ·) ?_
 refine zaa fun K2 hK2=>?_
 refine szq (jfu (sza q0 q1) ·) ?_
 refine szf ?_
 refine zai (hK2 _ _ ?_)
 refine zaa fun K4 hK4=>?_
 refine szq (joc ·) ?_
 refine zag ?_
 refine zao hp (fun τ' H' mm=>∃(i:Nat),(i≤s.regs.length)∧mm=s.regs.length - i∧H'=[.cells (avs (zar p)),.cells (avs (zc5 s))]∧τ'=frL [(2,.op 0 0),(3,.op 1 0),(5,.d (iD i))]) (s.regs.length) ?_ ⟨0,qap _,rfl,rfl,rfl⟩ ?_
 ·refine jft ?_
  exact jxq
 rintro τ' H' mm ⟨i,hi,rfl,rfl,rfl⟩
 refine zaa fun K6 hK6=>?_
 refine szq (zzr ·) ?_
 refine zan rfl (fun ht=>?_) (fun ht=>?_)
 ·have hlt:i<s.regs.length:=by simp at ht;omega
  have hlp:i<p.regs.length:=by omega
  have m1:=ylv hlp
  have hw:=hP.rw i hlp
  have hfc:=jkw (nth s.regs i) (nth p.regs i).w (h.rv i hlp).1 (h.rv i hlp).2 (by omega)
  refine zai (hK6 _ _ ?_)
  refine zaa fun K8 hK8=>?_
  refine zag ?_
  refine zay zah hc mixed rfl (q:=0) (by kernel_rfl) (by kernel_rfl) fun K9 hK9=>?_
  refine jfu m1 ?_
  refine zbl (hfc) rfl ?_
  refine jfu m1 ?_
  refine hK9 _ _ ?_
  refine szf ?_
  refine zai (hK8 _ _ ?_)
  refine za1 hp zah hc rfl fun K10 hK10=>?_
  refine zzr ?_
  refine hK10 _ _ ⟨_,_,_,?_,⟨i+1,by omega,rfl,rfl,rfl⟩,?_⟩
  ·first|omega|(simp only[List.length_cons];omega)|(dsimp only;omega)
  ·refine jft ?_
   exact jxq
 ·refine zau (hK4 _ _ ?_)
  refine zaa fun K11 hK11=>?_
  refine szq (joc ·) ?_
  refine zag ?_
  refine zao hp (fun τ' H' mm=>∃(i:Nat),(i≤s.mems.length)∧mm=s.mems.length - i∧H'=[.cells (avs (zar p)),.cells (avs (zc5 s))]∧τ'=frL [(2,.op 0 0),(3,.op 1 0),(6,.d (iD i))]) (s.mems.length) ?_ ⟨0,qap _,rfl,rfl,rfl⟩ ?_
  ·refine jft ?_
   exact jxq
  rintro τ' H' mm ⟨i,hi,rfl,rfl,rfl⟩
  refine zaa fun K13 hK13=>?_
  refine szq (zzr ·) ?_
  refine zan rfl (fun ht=>?_) (fun ht=>?_)
  ·have hlt:i<s.mems.length:=by simp at ht;omega
   have hlp:i<p.mems.length:=by omega
   have m1:=yg1 hlp
   have m2:=yi1 hlp
   have hw:=hP.mw i hlp
   have hwl:=h.mw i hlp
   have q2:(((nth s.mems i).length:Int) !=(nth p.mems i).words)=false:=by simp;omega
   refine zai (hK13 _ _ ?_)
   refine zaa fun K15 hK15=>?_
   refine zag ?_
   refine zaa fun K16 hK16=>?_
   refine zay zah hc mixed rfl (q:=0) (by kernel_rfl) (by kernel_rfl) fun K17 hK17=>?_
   refine jfu (sza m2 q2) ?_
   refine hK17 _ _ ?_
   refine szf ?_
   refine zai (hK16 _ _ ?_)
   refine szq (joc ·) ?_
   refine zag ?_
   refine zao hp (fun τ' H' mm=>∃(k:Nat),(k≤(nth s.mems i).length)∧mm=(nth s.mems i).length - k∧H'=[.cells (avs (zar p)),.cells (avs (zc5 s))]∧τ'=frL [(2,.op 0 0),(3,.op 1 0),(6,.d (iD i)),(7,.d (iD k))]) ((nth s.mems i).length) ?_ ⟨0,qap _,rfl,rfl,rfl⟩ ?_
   ·refine jft ?_
    exact jxq
   rintro τ' H' mm ⟨k,hk,rfl,rfl,rfl⟩
   refine zaa fun K19 hK19=>?_
   refine szq (zzr ·) ?_
   refine zan rfl (fun ht=>?_) (fun ht=>?_)
   ·have hlk:k<(nth s.mems i).length:=by simp at ht;omega
    have hv:=h.mv i hlp k (by omega)
    have hfc:=jkw (nth (nth s.mems i) k) (nth p.mems i).w hv.1 hv.2 (by omega)
    refine zai (hK19 _ _ ?_)
    refine zaa fun K21 hK21=>?_
    refine zag ?_
    refine zay zah hc mixed rfl (q:=0) (by kernel_rfl) (by kernel_rfl) fun K22 hK22=>?_
    refine jfu m1 ?_
    refine zbl (hfc) rfl ?_
    refine jfu m1 ?_
    refine hK22 _ _ ?_
    refine szf ?_
    refine zai (hK21 _ _ ?_)
    refine za1 hp zah hc rfl fun K23 hK23=>?_
    refine zzr ?_
    refine hK23 _ _ ⟨_,_,_,?_,⟨k+1,by omega,rfl,rfl,rfl⟩,?_⟩
    ·first|omega|(simp only[List.length_cons];omega)|(dsimp only;omega)
    ·refine jft ?_
     exact jxq
   ·refine zau (hK15 _ _ ?_)
    refine za1 hp zah hc rfl fun K24 hK24=>?_
    refine zzr ?_
    refine hK24 _ _ ⟨_,_,_,?_,⟨i+1,by omega,rfl,rfl,rfl⟩,?_⟩
    ·first|omega|(simp only[List.length_cons];omega)|(dsimp only;omega)
    ·refine jft ?_
     exact jxq
  ·refine zau (hK11 _ _ ?_)
   refine szq (joc ·) ?_
   refine zaj ?_
   show closeA _ _=_
   simp (disch:=first|assumption|omega|(simp only[r_z,zbt,zb0]<;>omega)|decide) only[r_c,Nat.reduceAdd,D.fix,↓reduceIte,Nat.reduceEqDiff,zc4,zar,zc5,intssD,za4,sD,nS]
end Go.Proofs.YtapjobndmmkanaaGreat
