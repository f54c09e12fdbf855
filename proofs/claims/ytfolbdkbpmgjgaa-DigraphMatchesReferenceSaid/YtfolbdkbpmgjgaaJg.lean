/- Components: what the visits find are the classes of nodes that reach each other (no program in sight). -/
import Derived.Test.YtfolbdkbpmgjgaaJf
set_option linter.unusedVariables false
set_option linter.unusedSimpArgs false
set_option linter.unusedSectionVars false
namespace Go.Proofs.Ytfolbdkbpmgjgaa
open Go Go.RowKit
section
variable {n:Nat} {nx:List (List Nat)}
structure TW (n:Nat) (nx:List (List Nat)) (G:List Nat) (s:Ts):Prop where
 i:TI n s
 gs:∀g∈G,g∈s.stk
 bw:∀u,u<n→nth s.num u≠0→u∉G→∀w∈nth nx u,nth s.num w≠0
 so:s.stk.Pairwise fun a b=>nth s.num a<nth s.num b
 nc:∀w,nth s.num w≤s.c
 up:∀x∈s.stk,∃y∈G,nth s.num y≤nth s.num x∧RT nx x y
 dn:∀x∈G,∀y∈s.stk,nth s.num x≤nth s.num y→RT nx x y
 cl:∀r∈s.out,∀x∈r,∀y,y∈r↔(RT nx x y∧RT nx y x)
 sr:∀r∈s.out,∃l,r=ze4 l
structure TV (n:Nat) (nx:List (List Nat)) (G:List Nat) (v:Nat) (s t:Ts):Prop where
 w:TW n nx G t
 e:TE s t
 nv:nth t.num v≠0
 lo:∀w,nth s.num w≠0→nth t.low w=nth s.low w
 rc:s.c<nth t.low v∨∃y∈t.stk,nth t.num y=nth t.low v∧RT nx v y
 cr:∀x∈t.stk,x∉s.stk→∀y∈nth nx x,y∈s.stk→nth t.low v≤nth t.num y
 oo:∀r∈s.out,r∈t.out
structure TL (n:Nat) (nx:List (List Nat)) (G:List Nat) (v:Nat) (s:Ts) (pre:List Nat) (t:Ts):Prop where
 w:TW n nx (G++[v]) t
 e:TE (zc8 v s) t
 lo:∀w,nth s.num w≠0→nth t.low w=nth s.low w
 le:nth t.low v≤nth t.num v
 rc:∃y∈t.stk,nth t.num y=nth t.low v∧RT nx v y
 cr:∀x∈t.stk,x∉s.stk→x≠v→∀y∈nth nx x,y∈s.stk→nth t.low v≤nth t.num y
 cv:∀y∈pre,y∈s.stk→nth t.low v≤nth t.num y
 pn:∀y∈pre,nth t.num y≠0
 oo:∀r∈s.out,r∈t.out
theorem TI.z{s:Ts}(h:TI n s){w:Nat}(hw:nth s.num w≠0):w<n:=by
 refine Decidable.byContradiction fun hn=>hw ?_
 unfold nth
 rw[List.getD_eq_getElem?_getD,List.getElem?_eq_none (by rw[h.nl];omega)];rfl
theorem TI.st{s:Ts}(h:TI n s){w:Nat}(hw:w∈s.stk):nth s.num w≠0:=(h.mem w (h.lt w (List.mem_append_left _ hw))).2 (List.mem_append_left _ hw)
theorem TE.mem{s t:Ts}(h:TE s t){w:Nat}(hw:w∈s.stk):w∈t.stk:=h.stk.subset hw
theorem joh{G:List Nat}{v:Nat}{s:Ts}(hw:TW n nx G s)(hv:v<n)(h0:nth s.num v=0):nth (zc8 v s).num v=s.c+1:=zaz (by rw[hw.i.nl];exact hv)
theorem jp1{G:List Nat}{v:Nat}{s:Ts}(hw:TW n nx G s)(hv:v<n)(h0:nth s.num v=0){w:Nat}(h:w≠v):nth (zc8 v s).num w=nth s.num w:=zax fun e=>h e.symm
theorem jso{G:List Nat}{v:Nat}{s:Ts}(hw:TW n nx G s)(hv:v<n)(h0:nth s.num v=0)(hg:∀g∈G,RT nx g v):TW n nx (G++[v]) (zc8 v s):=by
 have hne:∀x∈s.stk,x≠v:=fun x hx e=>hw.i.st hx (e▸h0)
 have hpv:nth (zc8 v s).num v=s.c+1:=joh hw hv h0
 have hpo:∀w,w≠v→nth (zc8 v s).num w=nth s.num w:=fun w=>jp1 hw hv h0
 refine⟨zpm hw.i hv h0,fun g h=>?_,fun u hu hun hug w hwm=>?_,?_,fun w=>?_,fun x hx=>?_,fun x hx y hy hxy=>?_,hw.cl,hw.sr⟩
 ·show g∈s.stk++[v]
  rcases List.mem_append.1 h with h|h
  ·exact List.mem_append_left _ (hw.gs g h)
  ·exact List.mem_append_right _ h
 ·rw[List.mem_append,List.mem_singleton,not_or]at hug
  rw[hpo u hug.2]at hun
  have:=hw.bw u hu hun hug.1 w hwm
  by_cases e:w=v
  ·rw[e,hpv];omega
  ·rw[hpo w e];exact this
 ·show(s.stk++[v]).Pairwise _
  refine List.pairwise_append.2 ⟨hw.so.imp_of_mem fun ha hb h=>by rw[hpo _ (hne _ ha),hpo _ (hne _ hb)];exact h,by simp,fun a ha b hb=>?_⟩
  rw[List.mem_singleton.1 hb,hpv,hpo a (hne a ha)]
  have:=hw.nc a;omega
 ·show nth (zc8 v s).num w≤s.c+1
  by_cases e:w=v
  ·rw[e,hpv];exact Nat.le_refl _
  ·rw[hpo w e];have:=hw.nc w;omega
 ·have hx':x∈s.stk++[v]:=hx
  rcases List.mem_append.1 hx' with hx|hx
  ·obtain⟨y,hy,h1,h2⟩:=hw.up x hx
   exact⟨y,List.mem_append_left _ hy,by rw[hpo y (hne y (hw.gs y hy)),hpo x (hne x hx)];exact h1,h2⟩
  ·rw[List.mem_singleton.1 hx]
   exact⟨v,by simp,Nat.le_refl _,.here⟩
 ·have hy':y∈s.stk++[v]:=hy
  rcases List.mem_append.1 hx with hx|hx
  ·rcases List.mem_append.1 hy' with hy|hy
   ·rw[hpo x (hne x (hw.gs x hx)),hpo y (hne y hy)]at hxy
    exact hw.dn x hx y hy hxy
   ·rw[List.mem_singleton.1 hy];exact hg x hx
  ·rw[List.mem_singleton.1 hx]at hxy ⊢
   rcases List.mem_append.1 hy' with hy|hy
   ·rw[hpv,hpo y (hne y hy)]at hxy
    have:=hw.nc y;omega
   ·rw[List.mem_singleton.1 hy];exact .here
theorem jsp{G:List Nat}{v:Nat}{s:Ts}(hw:TW n nx G s)(hv:v<n)(h0:nth s.num v=0)(hg:∀g∈G,RT nx g v):TL n nx G v s [] (zc8 v s):=by
 have hpv:nth (zc8 v s).num v=s.c+1:=joh hw hv h0
 have hlv:nth (zc8 v s).low v=s.c+1:=zaz (by rw[hw.i.ll];exact hv)
 refine⟨jso hw hv h0 hg,TE.refl _,fun w hwn=>zax fun e=>hwn (e▸h0),by omega,⟨v,by simp[zc8],by omega,.here⟩,fun x hx hxs hxv=>?_,fun y hy=>by(cases hy),fun y hy=>by(cases hy),fun r hr=>hr⟩
 have hx':x∈s.stk++[v]:=hx
 rcases List.mem_append.1 hx' with hx|hx
 ·exact absurd hx hxs
 ·exact absurd (List.mem_singleton.1 hx) hxv
theorem zia{v x:Nat}{t:Ts}(h:v<t.low.length):nth (zt4 v x t).low v=min (nth t.low v) x:=zaz h
theorem jeb{v x w:Nat}{t:Ts}(h:w≠v):nth (zt4 v x t).low w=nth t.low w:=zax fun e=>h e.symm
theorem TW.low{G:List Nat}{v x:Nat}{t:Ts}(h:TW n nx G t):TW n nx G (zt4 v x t):=⟨zn6 h.i,h.gs,h.bw,h.so,h.nc,h.up,h.dn,h.cl,h.sr⟩
theorem jhm(hni:∀u,u<n→∀w∈nth nx u,w<n){f:Nat}{G:List Nat}{v w:Nat}{s t:Ts}{pre:List Nat}(hs:TW n nx G s)(hv:v<n)(h0:nth s.num v=0)(hg:∀g∈G,RT nx g v)
  (ih:∀(G:List Nat) (w:Nat) (t:Ts),TW n nx G t→w<n→nth t.num w=0→unn n t≤f→(∀g∈G,RT nx g w)→TV n nx G w t (zh7 nx f w t)) (hwm:w∈nth nx v) (h:TL n nx G v s pre t) (hu:unn n t≤f):
  TL n nx G v s (pre++[w]) (zir (zh7 nx f) v t w)∧unn n (zir (zh7 nx f) v t w)≤f:=by
 have hwn:=hni v hv w hwm
 have hpv:nth (zc8 v s).num v=s.c+1:=joh hs hv h0
 have hnv:nth t.num v=s.c+1:=by rw[h.e.num v (by omega),hpv]
 have hvs:v∈t.stk:=h.e.mem (show v∈s.stk++[v] by simp)
 have hst:∀y∈s.stk,y∈t.stk:=fun y hy=>h.e.mem (List.mem_append_left _ hy)
 have hsv:∀x,nth s.num x≠0→x≠v:=fun x hx e=>hx (e▸h0)
 have hvl:v<t.low.length:=by rw[h.w.i.ll];exact hv
 unfold zir
 by_cases h1:nth t.num w=0
 ·rw[if_pos h1]
  have k:=ih (G++[v]) w t h.w hwn h1 hu (fun g hg'=>by
   rcases List.mem_append.1 hg' with hg'|hg'
   ·exact(hg g hg').go hwm
   ·rw[List.mem_singleton.1 hg'];exact RT.here.go hwm)
  generalize zh7 nx f w t=t' at k
  have hnv':nth t'.num v=s.c+1:=by rw[k.e.num v (by omega),hnv]
  have hlv':nth t'.low v=nth t.low v:=k.lo v (by omega)
  have hvl':v<t'.low.length:=by rw[k.w.i.ll];exact hv
  have hle:=h.le
  have hws:w∉s.stk:=fun hm=>h.w.i.st (hst w hm) h1
  refine⟨⟨k.w.low,h.e.trans k.e.low,fun x hx=>?_,?_,?_,fun x hx hxs hxv y hy hys=>?_,fun y hy hys=>?_,fun y hy=>?_,fun r hr=>k.oo r (h.oo r hr)⟩,Nat.le_trans (ztf k.e.low) hu⟩
  ·have hxt:nth t.num x≠0:=by rw[h.e.num x (by rw[jp1 hs hv h0 (hsv x hx)];exact hx),jp1 hs hv h0 (hsv x hx)];exact hx
   rw[jeb (hsv x hx),k.lo x hxt,h.lo x hx]
  ·rw[zia hvl'];show min _ _≤nth t'.num v;omega
  ·rw[zia hvl']
   obtain⟨y,hy,e1,e2⟩:=h.rc
   have hyn:nth t'.num y=nth t.num y:=k.e.num y (h.w.i.st hy)
   by_cases hm:nth t.low v≤nth t'.low w
   ·exact⟨y,k.e.mem hy,by show nth t'.num y=_;omega,e2⟩
   ·rcases k.rc with hr|⟨z,hz,z1,z2⟩
    ·have:=h.w.nc v;omega
    ·exact⟨z,hz,by show nth t'.num z=_;omega,(RT.here.go hwm).trans z2⟩
  ·rw[zia hvl']
   show min _ _≤nth t'.num y
   by_cases hxt:x∈t.stk
   ·have:=h.cr x hxt hxs hxv y hy hys
    rw[k.e.num y (h.w.i.st (hst y hys))];omega
   ·have:=k.cr x hx hxt y hy (hst y hys)
    omega
  ·rw[zia hvl']
   show min _ _≤nth t'.num y
   rcases List.mem_append.1 hy with hy|hy
   ·have:=h.cv y hy hys
    rw[k.e.num y (h.w.i.st (hst y hys))];omega
   ·rw[List.mem_singleton.1 hy]at hys;exact absurd hys hws
  ·show nth t'.num y≠0
   rcases List.mem_append.1 hy with hy|hy
   ·rw[k.e.num y (h.pn y hy)];exact h.pn y hy
   ·rw[List.mem_singleton.1 hy];exact k.nv
 ·rw[if_neg h1]
  by_cases h2:nth t.opn w=true
  ·rw[if_pos h2]
   have hwt:w∈t.stk:=(h.w.i.op w hwn).1 h2
   have hle:=h.le
   refine⟨⟨h.w.low,h.e.low,fun x hx=>?_,?_,?_,fun x hx hxs hxv y hy hys=>?_,fun y hy hys=>?_,fun y hy=>?_,h.oo⟩,Nat.le_trans (ztf (TE.refl t).low) hu⟩
   ·rw[jeb (hsv x hx),h.lo x hx]
   ·rw[zia hvl];show min _ _≤nth t.num v;omega
   ·rw[zia hvl]
    obtain⟨y,hy,e1,e2⟩:=h.rc
    by_cases hm:nth t.low v≤nth t.num w
    ·exact⟨y,hy,by show nth t.num y=_;omega,e2⟩
    ·exact⟨w,hwt,by show nth t.num w=_;omega,RT.here.go hwm⟩
   ·rw[zia hvl];show min _ _≤nth t.num y;have:=h.cr x hx hxs hxv y hy hys;omega
   ·rw[zia hvl]
    show min _ _≤nth t.num y
    rcases List.mem_append.1 hy with hy|hy
    ·have:=h.cv y hy hys;omega
    ·rw[List.mem_singleton.1 hy];omega
   ·show nth t.num y≠0
    rcases List.mem_append.1 hy with hy|hy
    ·exact h.pn y hy
    ·rw[List.mem_singleton.1 hy];exact h1
  ·rw[if_neg h2]
   have hwt:w∉t.stk:=fun hm=>h2 ((h.w.i.op w hwn).2 hm)
   refine⟨⟨h.w,h.e,h.lo,h.le,h.rc,h.cr,fun y hy hys=>?_,fun y hy=>?_,h.oo⟩,hu⟩
   ·rcases List.mem_append.1 hy with hy|hy
    ·exact h.cv y hy hys
    ·rw[List.mem_singleton.1 hy]at hys;exact absurd (hst w hys) hwt
   ·rcases List.mem_append.1 hy with hy|hy
    ·exact h.pn y hy
    ·rw[List.mem_singleton.1 hy];exact h1
theorem jec(hni:∀u,u<n→∀w∈nth nx u,w<n){f:Nat}{G:List Nat}{v:Nat}{s:Ts}(hs:TW n nx G s)(hv:v<n)(h0:nth s.num v=0)(hg:∀g∈G,RT nx g v)
  (ih:∀(G:List Nat) (w:Nat) (t:Ts),TW n nx G t→w<n→nth t.num w=0→unn n t≤f→(∀g∈G,RT nx g w)→TV n nx G w t (zh7 nx f w t)):∀(l pre:List Nat) (t:Ts),(∀w∈l,w∈nth nx v)→TL n nx G v s pre t→unn n t≤f→TL n nx G v s (pre++l) (l.foldl (zir (zh7 nx f) v) t)
 |[],pre,t,_,h,_=>by rw[List.append_nil];exact h
 |w::l,pre,t,hl,h,hu=>by
  obtain⟨k1,k2⟩:=jhm hni hs hv h0 hg ih (hl w (by simp)) h hu
  have:=jec hni hs hv h0 hg ih l (pre++[w]) _ (fun x hx=>hl x (by simp[hx])) k1 k2
  rwa[List.append_assoc]at this
theorem jmk{G:List Nat}{v:Nat}{s t:Ts}(hs:TW n nx G s)(hv:v<n)(h0:nth s.num v=0)(hg:∀g∈G,RT nx g v)(L:TL n nx G v s (nth nx v) t):TV n nx G v s (jf6 s.stk.length v t):=by
 have hpv:nth (zc8 v s).num v=s.c+1:=joh hs hv h0
 have hnv:nth t.num v=s.c+1:=by rw[L.e.num v (by omega),hpv]
 have hE:TE s t:=(zxb h0).trans L.e
 have hsn:∀y∈s.stk,nth t.num y=nth s.num y:=fun y hy=>hE.num y (hs.i.st hy)
 have hbw:∀u,u<n→nth t.num u≠0→u∉G→∀w∈nth nx u,nth t.num w≠0:=fun u hu hun hug w hwm=>by
  by_cases e:u=v
  ·subst e;exact L.pn w hwm
  ·exact L.w.bw u hu hun (by simp[hug,e]) w hwm
 have hcr:∀x∈t.stk,x∉s.stk→∀y∈nth nx x,y∈s.stk→nth t.low v≤nth t.num y:=fun x hx hxs y hy hys=>by
  by_cases e:x=v
  ·subst e;exact L.cv y hy hys
  ·exact L.cr x hx hxs e y hy hys
 unfold jf6
 by_cases hlt:nth t.low v<nth t.num v
 ·rw[if_pos hlt]
  refine⟨⟨L.w.i,fun g h=>L.w.gs g (List.mem_append_left _ h),hbw,L.w.so,L.w.nc,fun x hx=>?_,fun x hx=>L.w.dn x (List.mem_append_left _ hx),L.w.cl,L.w.sr⟩,hE,by omega,L.lo,.inr L.rc,hcr,L.oo⟩
  obtain⟨y,hy,h1,h2⟩:=L.w.up x hx
  rcases List.mem_append.1 hy with hy|hy
  ·exact⟨y,hy,h1,h2⟩
  ·rw[List.mem_singleton.1 hy]at h1 h2
   obtain⟨z,hz,z1,z2⟩:=L.rc
   obtain⟨y1,hy1,e1,e2⟩:=L.w.up z hz
   rcases List.mem_append.1 hy1 with hy1|hy1
   ·exact⟨y1,hy1,by omega,(h2.trans z2).trans e2⟩
   ·rw[List.mem_singleton.1 hy1]at e1;omega
 ·rw[if_neg hlt]
  have hlow:nth t.low v=s.c+1:=by have:=L.le;omega
  obtain⟨r,hr⟩:=L.e.stk
  have hr':t.stk=s.stk++(v::r):=by rw[←hr];simp[zc8]
  have htk:t.stk.take s.stk.length=s.stk:=by rw[hr',List.take_left]
  have hdr:t.stk.drop s.stk.length=v::r:=by rw[hr',List.drop_left]
  have hin:∀x∈v::r,x∈t.stk:=fun x hx=>by rw[hr'];exact List.mem_append_right _ hx
  have hnd:t.stk.Nodup:=(List.nodup_append.1 L.w.i.nd).1
  have hnin:∀x∈v::r,x∉s.stk:=fun x hx hxs=>by
   rw[hr']at hnd
   exact(List.nodup_append.1 hnd).2.2 x hxs x hx rfl
  have hvx:∀x∈v::r,RT nx v x:=fun x hx=>by
   refine L.w.dn v (by simp) x (hin x hx) ?_
   have:=L.w.so
   rw[hr',List.pairwise_append,List.pairwise_cons]at this
   rcases List.mem_cons.1 hx with e|hx
   ·rw[e];exact Nat.le_refl _
   ·exact Nat.le_of_lt (this.2.1.1 x hx)
  have hxv:∀x∈v::r,RT nx x v:=fun x hx=>by
   obtain⟨y,hy,_,h2⟩:=L.w.up x (hin x hx)
   rcases List.mem_append.1 hy with hy|hy
   ·exact h2.trans (hg y hy)
   ·rw[List.mem_singleton.1 hy]at h2;exact h2
  have hmax:∀x∈v::r,∀z,RT nx x z→RT nx z x→z∈v::r:=fun x hx z hxz=>by
   induction hxz with
   |here=>intro _;exact hx
   |@go b c hb hc ihb=>
    intro hcx
    have hbc:b∈v::r:=ihb ((RT.here.go hc).trans hcx)
    have hbn:=L.w.i.z (L.w.i.st (hin b hbc))
    have hcn:nth t.num c≠0:=hbw b hbn (L.w.i.st (hin b hbc)) (fun hG=>hnin b hbc (hs.gs b hG)) c hc
    have hcm:=(L.w.i.mem c (L.w.i.z hcn)).1 hcn
    rcases List.mem_append.1 hcm with hcm|hcm
    ·rw[hr']at hcm
     rcases List.mem_append.1 hcm with hcm|hcm
     ·exfalso
      have h1:=hcr b (hin b hbc) (hnin b hbc) c hc hcm
      rw[hsn c hcm]at h1
      have:=hs.nc c
      omega
     ·exact hcm
    ·exfalso
     obtain⟨r0,hr0,hc0⟩:=List.mem_flatten.1 hcm
     have hx0:=(L.w.cl r0 hr0 c hc0 x).2 ⟨hcx,hb.go hc⟩
     have:=L.w.i.nd
     rw[List.nodup_append]at this
     exact this.2.2 x (hin x hx) x (List.mem_flatten.2 ⟨r0,hr0,hx0⟩) rfl
  refine⟨⟨jdy L.w.i (by rw[hdr];simp),fun g h=>?_,hbw,?_,L.w.nc,fun x hx=>?_,fun x hx y hy=>?_,fun q hq x hx y=>?_,fun q hq=>?_⟩,⟨hE.num,?_⟩,by show nth t.num v≠0;omega,L.lo,.inl (by show s.c<nth t.low v;omega),fun x hx hxs=>?_,fun q hq=>List.mem_append_left _ (L.oo q hq)⟩
  ·show g∈t.stk.take _
   rw[htk];exact hs.gs g h
  ·exact L.w.so.sublist (List.take_sublist _ _)
  ·have hx':x∈t.stk.take s.stk.length:=hx
   rw[htk]at hx'
   obtain⟨y,hy,h1,h2⟩:=hs.up x hx'
   exact⟨y,hy,by show nth t.num y≤nth t.num x;rw[hsn y (hs.gs y hy),hsn x hx'];exact h1,h2⟩
  ·exact L.w.dn x (List.mem_append_left _ hx) y (List.mem_of_mem_take hy)
  ·rcases List.mem_append.1 hq with hq|hq
   ·exact L.w.cl q hq x hx y
   ·rw[List.mem_singleton.1 hq,hdr]at hx ⊢
    have hm:∀z,z∈ze4 (v::r)↔z∈v::r:=fun z=>(zdu _).mem_iff
    rw[hm]at hx ⊢
    exact⟨fun hy=>⟨(hxv x hx).trans (hvx y hy),(hxv y hy).trans (hvx x hx)⟩,fun h=>hmax x hx y h.1 h.2⟩
  ·rcases List.mem_append.1 hq with hq|hq
   ·exact L.w.sr q hq
   ·exact⟨_,List.mem_singleton.1 hq⟩
  ·show s.stk<+:t.stk.take _
   rw[htk];exact List.prefix_refl _
  ·have hx':x∈t.stk.take s.stk.length:=hx
   rw[htk]at hx'
   exact absurd hx' hxs
theorem zr8(hni:∀u,u<n→∀w∈nth nx u,w<n):∀(f:Nat) (G:List Nat) (v:Nat) (s:Ts),TW n nx G s→v<n→nth s.num v=0→unn n s≤f→(∀g∈G,RT nx g v)→TV n nx G v s (zh7 nx f v s)
 |0,G,v,s,_,hv,h0,hf,_=>by
  exfalso
  have:v∈(List.range n).filter fun w=>nth s.num w==0:=List.mem_filter.2 ⟨List.mem_range.2 hv,by simpa using h0⟩
  have:=List.length_pos_of_mem this
  unfold unn at hf
  omega
 |f+1,G,v,s,hs,hv,h0,hf,hg=>by
  have hu:=zl6 hs.i.nl hv h0
  have:=jec hni hs hv h0 hg (zr8 hni f) (nth nx v) [] (zc8 v s) (fun w hw=>hw) (jsp hs hv h0 hg) (by omega)
  exact jmk hs hv h0 hg this
theorem zyh(n w:Nat):nth (List.replicate n 0) w=0:=by
 unfold nth;rw[List.getD_eq_getElem?_getD,List.getElem?_replicate];split<;>rfl
theorem jp2:TW n nx [] (tsI n):=
 ⟨jl5 n,fun g h=>by(cases h),fun u _ hun=>absurd (zyh n u) hun,.nil,fun w=>by show nth (List.replicate n 0) w≤0;rw[zyh];exact Nat.le_refl _,fun x hx=>by(cases hx),fun x hx=>by(cases hx),fun r hr=>by(cases hr),fun r hr=>by(cases hr)⟩
theorem jed(hni:∀u,u<n→∀w∈nth nx u,w<n):∀k,k≤n→TW n nx [] (zto nx n k)∧∀v,v<k→nth (zto nx n k).num v≠0
 |0,_=>⟨jp2,fun v hv=>absurd hv (Nat.not_lt_zero _)⟩
 |k+1,hk=>by
  obtain⟨h1,h2⟩:=jed hni k (by omega)
  rw[zx3,jl4]
  by_cases h:nth (zto nx n k).num k=0
  ·rw[if_pos h]
   have hv:=zr8 hni n [] k _ h1 (by omega) h (jd9 n _) (fun g hg=>by cases hg)
   refine⟨hv.w,fun v hv'=>?_⟩
   by_cases e:v=k
   ·rw[e];exact hv.nv
   ·rw[hv.e.num v (h2 v (by omega))];exact h2 v (by omega)
  ·rw[if_neg h]
   refine⟨h1,fun v hv'=>?_⟩
   by_cases e:v=k
   ·rw[e];exact h
   ·exact h2 v (by omega)
structure CmpI (n:Nat) (nx:List (List Nat)) (L:List (List Nat)):Prop where
 ne:∀r∈L,r≠[]
 nd:L.flatten.Nodup
 al:∀w,w∈L.flatten↔w<n
 cl:∀r∈L,∀x∈r,∀y,y∈r↔(RT nx x y∧RT nx y x)
 up:∀r∈L,r.Pairwise (·<·)
 so:L.Pairwise fun a b=>nth a 0<nth b 0
theorem zr9(l:List Nat):(ze4 l).Pairwise (·≤·):=by
 have h:(zcb (zl l)).Pairwise fun a b=>leI a b=true:=List.pairwise_mergeSort jdk jdl _
 unfold ze4 zl4
 rw[List.pairwise_map]
 refine h.imp fun h=>?_
 have:=of_decide_eq_true h
 omega
theorem zog{L:List (List Nat)}(h:L.flatten.Nodup){r:List Nat}(hr:r∈L):r.Nodup:=h.sublist (List.sublist_flatten_of_mem hr)
theorem zsa{r:List Nat}(h:r.Pairwise (·≤·))(hd:r.Nodup):r.Pairwise (·<·):=(h.and hd).imp fun⟨h1,h2⟩=>Nat.lt_of_le_of_ne h1 h2
theorem jbo{L:List (List Nat)}(hs:L.Pairwise fun a b=>nth a 0≤nth b 0)(hne:∀r∈L,r≠[])(hnd:L.flatten.Nodup):L.Pairwise fun a b=>nth a 0<nth b 0:=by
 induction L with
 |nil=>exact .nil
 |cons a L ih=>
  rw[List.pairwise_cons]at hs ⊢
  rw[List.flatten_cons,List.nodup_append]at hnd
  refine⟨fun b hb=>?_,ih hs.2 (fun r hr=>hne r (by simp[hr])) hnd.2.1⟩
  have h1:=hs.1 b hb
  have la:0<a.length:=List.length_pos_iff.2 (hne a (by simp))
  have lb:0<b.length:=List.length_pos_iff.2 (hne b (by simp[hb]))
  have:=hnd.2.2 _ (za3 la) _ (List.mem_flatten.2 ⟨b,hb,za3 lb⟩)
  omega
theorem jp3(hni:∀u,u<n→∀w∈nth nx u,w<n):CmpI n nx (jbi (zto nx n n).out):=by
 obtain⟨h1,h2⟩:=jed hni n (Nat.le_refl _)
 generalize zto nx n n=s at h1 h2
 have hst:s.stk=[]:=by
  cases hh:s.stk with
  |nil=>rfl
  |cons x l=>
   obtain⟨y,hy,_⟩:=h1.up x (by rw[hh];simp)
   cases hy
 have hp:=zjy s.out
 have hnd0:s.out.flatten.Nodup:=(List.nodup_append.1 h1.i.nd).2.1
 have hpf:(jbi s.out).flatten.Perm s.out.flatten:=hp.flatten
 have hnd:(jbi s.out).flatten.Nodup:=hpf.nodup_iff.2 hnd0
 have hne:∀r∈jbi s.out,r≠[]:=fun r hr=>h1.i.ne r (hp.mem_iff.1 hr)
 refine⟨hne,hnd,fun w=>?_,fun r hr=>h1.cl r (hp.mem_iff.1 hr),fun r hr=>?_,jbo ((zx4 s.out).imp fun h=>of_decide_eq_true h) hne hnd⟩
 ·rw[hpf.mem_iff]
  refine⟨fun hw=>h1.i.lt w (List.mem_append_right _ hw),fun hw=>?_⟩
  have:=(h1.i.mem w hw).1 (h2 w hw)
  rwa[hst]at this
 ·obtain⟨l,rfl⟩:=h1.sr r (hp.mem_iff.1 hr)
  exact zsa (zr9 l) (zog hnd hr)
theorem ztr{α:Type}(f:α→Nat):∀{a b:List α},a.Pairwise (fun x y=>f x<f y)→b.Pairwise (fun x y=>f x<f y)→(∀x,x∈a↔x∈b)→a=b
 |[],[],_,_,_=>rfl
 |[],y::b,_,_,h=>by have:=(h y).2 (by simp);cases this
 |x::a,[],_,_,h=>by have:=(h x).1 (by simp);cases this
 |x::a,y::b,ha,hb,h=>by
  rw[List.pairwise_cons]at ha hb
  have e:x=y:=by
   rcases List.mem_cons.1 ((h x).1 (by simp))with e|hx
   ·exact e
   ·rcases List.mem_cons.1 ((h y).2 (by simp))with e|hy
    ·exact e.symm
    ·have:=ha.1 y hy;have:=hb.1 x hx;omega
  subst e
  congr 1
  refine ztr f ha.2 hb.2 fun z=>⟨fun hz=>?_,fun hz=>?_⟩
  ·rcases List.mem_cons.1 ((h z).1 (by simp[hz]))with e|hz'
   ·subst e;have:=ha.1 z hz;omega
   ·exact hz'
  ·rcases List.mem_cons.1 ((h z).2 (by simp[hz]))with e|hz'
   ·subst e;have:=hb.1 z hz;omega
   ·exact hz'
theorem zyi{nx':List (List Nat)}{L L':List (List Nat)}(h:CmpI n nx L)(h':CmpI n nx' L')(hm:∀x y,x<n→y<n→(RT nx x y∧RT nx y x↔RT nx' x y∧RT nx' y x)):∀r,r∈L→r∈L':=fun r hr=>by
 obtain⟨x,hx⟩:=List.exists_mem_of_ne_nil r (h.ne r hr)
 have hxn:=(h.al x).1 (List.mem_flatten.2 ⟨r,hr,hx⟩)
 obtain⟨q,hq,hxq⟩:=List.mem_flatten.1 ((h'.al x).2 hxn)
 have:r=q:=ztr id (h.up r hr) (h'.up q hq) fun y=>by
  rw[h.cl r hr x hx y,h'.cl q hq x hxq y]
  by_cases hy:y<n
  ·exact hm x y hxn hy
  ·constructor
   ·intro k
    exact absurd ((h.al y).1 (List.mem_flatten.2 ⟨r,hr,(h.cl r hr x hx y).2 k⟩)) hy
   ·intro k
    exact absurd ((h'.al y).1 (List.mem_flatten.2 ⟨q,hq,(h'.cl q hq x hxq y).2 k⟩)) hy
 rw[this];exact hq
theorem zsb{nx':List (List Nat)}{L L':List (List Nat)}(h:CmpI n nx L)(h':CmpI n nx' L')(hm:∀x y,x<n→y<n→(RT nx x y∧RT nx y x↔RT nx' x y∧RT nx' y x)):L=L':=
 ztr (fun r=>nth r 0) h.so h'.so fun r=>⟨zyi h h' hm r,zyi h' h (fun x y hx hy=>(hm x y hx hy).symm) r⟩
end
end Go.Proofs.Ytfolbdkbpmgjgaa
