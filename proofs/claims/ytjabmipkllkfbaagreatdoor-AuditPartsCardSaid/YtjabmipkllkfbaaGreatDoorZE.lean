/-
  Trees are sound (1): cases, new variables, what is learned; Trees are sound (2): one operation, a row of operations; Trees are sound (3): regions that draw their order (laws); Trees are sound (4): regions; Trees are sound (5): regions that draw their order; Trees are sound (6): loops.
-/
import Derived.Test.YtjabmipkllkfbaaGreatDoorZD
import Derived.RangeFuncLeaves
import Derived.Sort.LoopGhostIn
set_option linter.unusedVariables false
set_option linter.unusedSimpArgs false
namespace Go.Proofs.YtjabmipkllkfbaaGreatDoor.Vc
section
open Go.RowKit
theorem uC {R:Type} {pe:PE} {K K':R->Prop} (h:∀r,K r->K' r):∀(ks:List Kd) (vs:List AV) (f:mR ks R),ll pe ks vs f K->ll pe ks vs f K':=by
 intro ks
 induction ks with
 | nil=>intro vs f;cases vs<;>simp only [ll]<;>first | exact h _ | exact id
 | cons k ks ih =>
  intro vs f
  cases vs with
  | nil=>cases k<;>(simp only [ll];exact id)
  | cons v vs =>
   cases k<;>cases v<;>simp only [ll]<;>try exact id
   all_goals first
    | exact ih _ _
    | (split<;>first | exact fun h=>⟨h.1,ih _ _ h.2⟩ | exact ih _ _ | exact id)
theorem mn {R:Type} {C C':PE->R->Prop} (h:∀pe r,C pe r->C' pe r):∀(ks:List Kd) (pe:PE) (f:mR ks R),jE ks pe f C->jE ks pe f C':=by
 intro ks
 induction ks with
 | nil=>intro pe f;exact h _ _
 | cons k ks ih=>
  intro pe f
  cases k<;>simp only [jE]
  ·exact fun h x a b=>ih _ _ (h x a b)
  ·exact fun h x=>ih _ _ (h x)
  ·exact fun h x=>ih _ _ (h x)
  ·exact fun h x=>ih _ _ (h x)
  ·exact fun h x a=>ih _ _ (h x a)
  ·exact fun h p n c a b=>ih _ _ (h p n c a b)
theorem D.sat_mono {K1 K2:PE->Prop} (hk:∀pe,K1 pe->K2 pe) (d:D) (pe:PE) (h:d.sat pe K1):d.sat pe K2:=by
 cases d<;>simp only [D.sat] at h ⊢
 case openI=>obtain ⟨x,h1,h2,h3⟩:=h;exact ⟨x,h1,h2,hk _ h3⟩
 case openB=>obtain ⟨x,h1,h2⟩:=h;exact ⟨x,h1,hk _ h2⟩
 case openS=>obtain ⟨x,h1,h2⟩:=h;exact ⟨x,h1,hk _ h2⟩
 case openV=>obtain ⟨x,h1,h2⟩:=h;exact ⟨x,h1,hk _ h2⟩
 case openSl=>obtain ⟨p,n,c,h1,h2,h3⟩:=h;exact ⟨p,n,c,h1,h2,hk _ h3⟩
 case has=>split at h;exact ⟨h.1,hk _ h.2⟩;exact h
 case nn=>split at h;exact ⟨h.1,hk _ h.2⟩;exact h
 case arith=>split at h;exact ⟨h.1,fun z hz=>⟨(h.2 z hz).1,hk _ (h.2 z hz).2⟩⟩;exact h
 case wrap=>split at h;exact fun z h1 h2 h3=>hk _ (h z h1 h2 h3);exact h
 case cut=>split at h;(obtain ⟨z,h1,h2,h3⟩:=h;exact ⟨z,h1,h2,hk _ h3⟩);exact h
 case nat=>split at h;(obtain ⟨z,h1,h2,h3⟩:=h;exact ⟨z,h1,h2,hk _ h3⟩);exact h
 case pick=>split at h;exact fun z h1=>⟨(h z h1).1,hk _ (h z h1).2⟩;exact h
 case mm=>split at h;exact fun z h1=>⟨(h z h1).1,hk _ (h z h1).2⟩;exact h
 case seq=>split at h;exact fun z h1=>hk _ (h z h1);exact h
 case nul=>split at h;exact fun z h1=>hk _ (h z h1);exact h
 case slen=>split at h;exact fun z h1=>⟨(h z h1).1,(h z h1).2.1,hk _ (h z h1).2.2⟩;exact h
 case sidx=>split at h;exact ⟨h.1,fun z h1 h2 h3=>hk _ (h.2 z h1 h2 h3)⟩;exact h
 case scat=>split at h;exact ⟨h.1,fun z h1=>hk _ (h.2 z h1)⟩;exact h
 case ssub=>split at h;exact ⟨h.1,fun z h1=>hk _ (h.2 z h1)⟩;exact h
 case rhas=>split at h;exact ⟨h.1,hk _ h.2⟩;exact h
 case rset=>split at h;exact ⟨h.1,fun z h1=>hk _ (h.2 z h1)⟩;exact h
 case mk=>split at h;exact ⟨h.1,fun p z h1=>hk _ (h.2 p z h1)⟩;exact h
 case rapp=>split at h;exact ⟨h.1,fun p c z h1 h2 h3=>hk _ (h.2 p c z h1 h2 h3)⟩;exact h
 case frz=>split at h;exact fun m h1 h2=>hk _ (h m h1 h2);exact h
 case pub=>split at h;exact fun q m h1 h2=>hk _ (h q m h1 h2);exact h
 case pubc=>split at h;exact fun q c m h1 h2 h3=>hk _ (h q c m h1 h2 h3);exact h
 case mget=>split at h;(obtain ⟨f,h1,h2⟩:=h;exact ⟨f,h1,fun b hb=>(h2 b hb).elim fun l' hl=>⟨l',hl.1,hk _ hl.2⟩⟩);exact h
 case mset=>split at h;(obtain ⟨f,h1,h2⟩:=h;exact ⟨f,h1,fun l h3=>hk _ (h2 l h3)⟩);exact h
 case mdel=>split at h;(obtain ⟨f,h1,h2⟩:=h;exact ⟨f,h1,fun l h3=>hk _ (h2 l h3)⟩);exact h
 case mnew=>exact fun p=>hk _ (h p)
 case sbytes=>split at h;exact ⟨h.1,fun q n c l h1 h2 h3 h4=>hk _ (h.2 q n c l h1 h2 h3 h4)⟩;exact h
 case mrow=>split at h;(obtain ⟨l,h1,h2,h3⟩:=h;exact ⟨l,h1,h2,hk _ h3⟩);exact h
 case grow=>split at h;exact ⟨h.1,fun q c l h1 h2 h3 h4=>hk _ (h.2 q c l h1 h2 h3 h4)⟩;exact h
 case growk=>split at h;exact ⟨h.1,fun q c l h1 h2 h3 h4=>hk _ (h.2 q c l h1 h2 h3 h4)⟩;exact h
 case zn=>split at h;exact ⟨h.1,hk _ h.2⟩;exact h
 case rtk=>split at h;exact ⟨h.1,fun z h1=>hk _ (h.2 z h1)⟩;exact h
 case zrow=>split at h;exact ⟨h.1,fun z h1=>hk _ (h.2 z h1)⟩;exact h
 case rdrp=>split at h;exact ⟨h.1,fun z h1=>hk _ (h.2 z h1)⟩;exact h
 case bstr=>split at h;(obtain ⟨ns,h1,h2⟩:=h;exact ⟨ns,h1,fun x h3=>hk _ (h2 x h3)⟩);exact h
theorem qO {K K':PE->Prop} (h:∀pe,K pe->K' pe):∀(p:List aX) (pe:PE),aj p pe K->aj p pe K':=by
 intro p
 induction p with
 | nil=>intro pe;exact h pe
 | cons x p ih=>
  intro pe
  cases x with
  | need c=>simp only [aj,aX.sat];split<;>first | exact fun h=>⟨h.1,ih _ h.2⟩ | exact id
  | d d=>simp only [aj,aX.sat];exact D.sat_mono (fun pe=>ih pe) d pe
section
variable {SP:Nat->Option Sp}
theorem DF:∀(t:T) (pe:PE) (K K':PE->gA->Prop),(∀pe o,K pe o->K' pe o)->eh SP t pe K->eh SP t pe K':=by
 intro t
 induction t with
 | out o=>intro pe K K' h;exact h pe o
 | ite c x y ihx ihy=>
  intro pe K K' h
  simp only [eh]
  split
  ·exact fun hs=>⟨fun hc=>ihx pe K K' h (hs.1 hc),fun hc=>ihy pe K K' h (hs.2 hc)⟩
  ·exact id
 | pre p x ih=>intro pe K K' h;exact qO (fun pe=>ih pe K K' h) p pe
 | spec k args x ih=>
  intro pe K K' h
  simp only [eh]
  split
  ·exact uC (fun r hs=>⟨hs.1,fun m' hm=>mn (fun pe (post:Prop) (hp:post->_) (hpost:post)=>ih pe K K' h (hp hpost)) _ _ _ (hs.2 m' hm)⟩) _ _ _
  ·exact id
 | loop ks init b f ihb ihf=>
  intro pe K K' h
  simp only [eh]
  rintro ⟨F,h1,h2⟩
  refine ⟨F,h1,mn (fun pe r hr hi => ?_) _ _ _ h2⟩
  refine ihb pe _ _ (fun pe o ho => ?_) (hr hi)
  cases o with
  | again vs=>exact ho
  | code e a s=>exact ihf _ pe K K' h ho
  | val v s=>exact ihf _ pe K K' h ho
  | err n=>exact ihf _ pe K K' h ho
theorem cN (g:gA->T):∀(t:T) (pe:PE) (K:PE->gA->Prop),eh SP (t.bind g) pe K->eh SP t pe (fun pe o=>eh SP (g o) pe K):=by
 intro t
 induction t with
 | out o=>intro pe K h;exact h
 | ite c x y ihx ihy=>
  intro pe K
  simp only [T.bind,eh]
  split
  ·exact fun hs=>⟨fun hc=>ihx pe K (hs.1 hc),fun hc=>ihy pe K (hs.2 hc)⟩
  ·exact id
 | pre p x ih=>intro pe K;exact qO (fun pe=>ih pe K) p pe
 | spec k args x ih=>
  intro pe K
  simp only [T.bind,eh]
  split
  ·exact uC (fun r hs=>⟨hs.1,fun m' hm=>mn (fun pe (post:Prop) (hp:post->_) (hpost:post)=>ih pe K (hp hpost)) _ _ _ (hs.2 m' hm)⟩) _ _ _
  ·exact id
 | loop ks init b f ihb ihf=>
  intro pe K
  simp only [T.bind,eh]
  rintro ⟨F,h1,h2⟩
  refine ⟨F,h1,mn (fun pe r hr hi => ?_) _ _ _ h2⟩
  refine DF b pe _ _ (fun pe o ho => ?_) (hr hi)
  cases o with
  | again vs=>exact ho
  | code e a s=>exact ihf _ pe K ho
  | val v s=>exact ihf _ pe K ho
  | err n=>exact ihf _ pe K ho
end
section
variable {P:Program} {V:az} {s s':S} {B w:World}
theorem xl {pe:PE} {v:AV} {x:Value} (h:JO pe v=some x) {V:az} (hv:V.toPE=pe):v.conc V=some x:=by
 refine aF ?_ v x h
 subst hv
 exact ⟨dr.refl _,fun _ _ h=>(by cases h),fun _ _ h=>(by cases h)⟩
structure kH (P:Program) (B w:World) (V:az) (s:S) (l:List AV) (pe:PE) (s':S) (ws:List Value):Prop where
 up:dr V.toPE pe
 mem:pe.mem=V.mem
 rel:av P (V.at pe) s' B w
 heap:s'.heap=s.heap
 next:s'.next=s.next
 own:s'.own=s.own
 vals:concL (iN pe) l=some ws
theorem IY {pe pe':PE} (h:dr pe pe'):eU (iN pe) (iN pe'):=⟨h,fun _ _ e=>e,fun _ _ e=>e⟩
theorem kH.cons {pe1 pe2:PE} {s1 s2:S} {u:AV} {x:Value} {l:List AV} {ws:List Value} (h1:dr V.toPE pe1) (hm:pe1.mem=V.mem) (r1:av P (V.at pe1) s1 B w) (hh:s1.heap=s.heap) (hn:s1.next=s.next) (ho:s1.own=s.own) (hu:u.conc (iN pe1)=some x) (h:kH P B w (V.at pe1) s1 l pe2 s2 ws):kH P B w V s (u::l) pe2 s2 (x::ws):=
 ⟨h1.trans h.up,h.mem.trans hm,h.rel,h.heap.trans hh,h.next.trans hn,h.own.trans ho,ax (aF (IY h.up) _ _ hu) h.vals⟩
theorem Ch {R:Type} {C:PE->R->Prop} {K:R->Prop} {pe':PE}:∀(ks:List Kd) (vs:List AV) (V:az) (s:S) (F:mR ks R),av P V s B w->gz pe' ks vs F K->jE ks V.toPE F C->
  ∃pe r ws,C pe r/\K r/\kH P B w V s (cu ks s).1 pe (cu ks s).2 ws/\concL (iN pe') vs=some ws:=by
 intro ks
 induction ks with
 | nil=>
  intro vs V s F hR ha hc
  cases vs with
  | nil=>exact ⟨V.toPE,F,[],hc,ha,⟨dr.refl _,rfl,hR,rfl,rfl,rfl,rfl⟩,rfl⟩
  | cons v vs=>exact ha.elim
 | cons k ks ih =>
  intro vs V s F hR ha hc
  cases vs with
  | nil=>cases k<;>exact ha.elim
  | cons v vs =>
   cases k with
   | i k =>
    cases v<;>simp only [gz] at ha<;>try exact ha.elim
    rename_i k' e
    split at ha
    ·rename_i x hk hx
     have:=cF hk;subst this
     obtain ⟨⟨a1,a2⟩,a3⟩:=ha
     obtain ⟨r1,r2⟩:=jh hR a1 a2
     obtain ⟨pe,r,ws,k1,k2,k3,k4⟩:=ih vs _ _ _ r1 a3 (hc x a1 a2)
     refine ⟨pe,r,.int k x::ws,k1,k2,kH.cons (qR _ x) rfl r1 rfl rfl rfl ?_ k3,ax (dc hx) k4⟩
     exact dc r2
    ·exact ha.elim
   | b =>
    simp only [gz] at ha
    split at ha
    ·rename_i x hx
     obtain ⟨r1,r2⟩:=C4 hR x
     obtain ⟨pe,r,ws,k1,k2,k3,k4⟩:=ih vs _ _ _ r1 ha (hc x)
     refine ⟨pe,r,.bool x::ws,k1,k2,kH.cons (HQ _ x) rfl r1 rfl rfl rfl ?_ k3,ax ?_ k4⟩
     ·exact eZ r2
     ·cases v<;>simp only [wC] at hx<;>first
       | (cases hx;rfl)
       | exact eZ hx
       | cases hx
    ·exact ha.elim
   | s =>
    simp only [gz] at ha
    split at ha
    ·rename_i x hx
     obtain ⟨r1,r2⟩:=C5 hR x
     obtain ⟨pe,r,ws,k1,k2,k3,k4⟩:=ih vs _ _ _ r1 ha (hc x)
     refine ⟨pe,r,.string ⟨x.toArray⟩::ws,k1,k2,kH.cons (HR _ x) rfl r1 rfl rfl rfl ?_ k3,ax (qp (V:=iN pe') hx) k4⟩
     simp only [AV.conc]
     rw [show (iN (iz V.toPE x)).ς=(iz V.toPE x).ς from rfl,r2]
    ·exact ha.elim
   | r =>
    have key:∀l:List Value,gz pe' ks vs (F l) K->v.conc (iN pe')=some (.tuple l.toArray)->
      ∃pe r ws,C pe r/\K r/\kH P B w V s (cu (.r::ks) s).1 pe (cu (.r::ks) s).2 ws/\concL (iN pe') (v::vs)=some ws:=by
     intro l ha hv
     obtain ⟨r1,r2⟩:=fA hR l
     obtain ⟨pe,r,ws,k1,k2,k3,k4⟩:=ih vs _ _ _ r1 ha (hc l)
     refine ⟨pe,r,.tuple l.toArray::ws,k1,k2,kH.cons (kx _ l) rfl r1 rfl rfl rfl ?_ k3,ax hv k4⟩
     simp only [AV.conc]
     rw [show (iN (aL V.toPE l)).ρ=(aL V.toPE l).ρ from rfl,r2]
    cases v<;>(try simp only [gz] at ha)<;>try exact ha.elim
    ·rename_i l0
     cases l0 with
     | nil=>exact key [] ha rfl
     | cons _ _=>exact ha.elim
    ·rename_i r0
     split at ha
     ·rename_i l hl
      refine key l ha ?_
      simp only [AV.conc]
      rw [show (iN pe').ρ=pe'.ρ from rfl,hl]
     ·exact ha.elim
   | v =>
    cases v<;>simp only [gz] at ha<;>try exact ha.elim
    rename_i i
    split at ha
    ·rename_i x hx
     obtain ⟨v0,_,h4⟩:=ke hx
     have h1:=(dC h4).1
     subst h1
     obtain ⟨r1,r2⟩:=tE hR x
     obtain ⟨pe,r,ws,k1,k2,k3,k4⟩:=ih vs _ _ _ r1 ha (hc x h4)
     refine ⟨pe,r,x::ws,k1,k2,kH.cons (z5 _ x) rfl r1 rfl rfl rfl ?_ k3,ax hx k4⟩
     show lq (be V.toPE x) s.nv=some x
     simp only [lq,r2,h4]
    ·exact ha.elim
   | sl =>
    have key:∀(q:Option Addr) (n c:Nat),n<=9223372036854775807->c<=9223372036854775807->gz pe' ks vs (F q n c) K->v.conc (iN pe')=some (.slice q n c)->
      ∃pe r ws,C pe r/\K r/\kH P B w V s (cu (.sl::ks) s).1 pe (cu (.sl::ks) s).2 ws/\concL (iN pe') (v::vs)=some ws:=by
     intro q n c hn hcc ha hv
     obtain ⟨r1,e1⟩:=tE hR (.pointer q)
     obtain ⟨r2,e2⟩:=jh r1 (x:=(n:Int)) (lo:=0) (hi:=9223372036854775807) (by omega) (by omega)
     obtain ⟨r3,e3⟩:=jh r2 (x:=(c:Int)) (lo:=0) (hi:=9223372036854775807) (by omega) (by omega)
     simp only [az.at_at,az.at_toPE] at r2 r3 e2 e3
     have n0:nI (bu s)=nI s:=rfl
     have n1':nI (aK (bu s) 0 9223372036854775807)=Nat.succ (nI s):=by simp [nI,aK,bu,aO]
     rw [n0] at e2;rw [n1'] at e3
     have hu1:=z5 V.toPE (.pointer q)
     have hu2:=qR (be V.toPE (.pointer q)) (n:Int)
     have hu3:=qR (bm (be V.toPE (.pointer q)) (n:Int)) (c:Int)
     obtain ⟨pe,r,ws,k1,k2,k3,k4⟩:=ih vs _ _ _ r3 ha (hc q n c hn hcc)
     refine ⟨pe,r,.slice q n c::ws,k1,k2,kH.cons ((hu1.trans hu2).trans hu3) rfl r3 rfl rfl rfl ?_ k3,ax hv k4⟩
     have p1:aM (bm (bm (be V.toPE (.pointer q)) n) c).τ s.nv=some q:=by
      unfold aM
      rw [show (bm (bm (be V.toPE (.pointer q)) n) c).τ=(be V.toPE (.pointer q)).τ from rfl,e1]
     have p2:=bN (IE.val_up hu3.σ _ _ e2) (by omega)
     have p3:=bN e3 (by omega)
     have p4:aQ (bm (bm (be V.toPE (.pointer q)) n) c).σ (.lit 0)=some 0:=rfl
     show qS (bm (bm (be V.toPE (.pointer q)) n) c) _ _ _ _=_
     simp only [qS,p1,p2,p3,p4,Int.toNat_natCast]
     congr 2
     cases q<;>simp [Addr.add]
    cases v<;>simp only [gz] at ha<;>try exact ha.elim
    ·rename_i a off len cap
     split at ha
     ·rename_i p o n c q1 q2 q3 q4
      refine key _ n c ha.1.1 ha.1.2 ha.2 ?_
      show qS pe' a off len cap=_
      simp only [qS,q1,q2,q3,q4]
     ·exact ha.elim
    ·exact key none 0 0 (by omega) (by omega) ha rfl
theorem iS {K:ew} {σ:List Int} (h:cx K σ) {i:Nat} {lo hi x:Int} (hx:aA σ i=some x) (h1:lo<=x) (h2:x<=hi):cx { K with rng:=mS K.rng i (lo,hi) } σ:=by
 refine ⟨by simp [fD,h.len],fun j r hr => ?_,h.le,h.eq⟩
 rw [fD,cJ,List.getElem?_set] at hr
 by_cases hj:i=j
 ·subst hj
  simp only [if_true] at hr
  split at hr
  ·cases hr;exact ⟨x,hx,h1,h2⟩
  ·cases hr
 ·rw [if_neg hj,<-cJ] at hr;exact h.rng j r hr
theorem Ba {a b x:Int} (h1:a<=x) (h2:b<=x):GJ a b<=x:=by unfold GJ;cases lf a b<;>assumption
theorem Bb {a b x:Int} (h1:x<=a) (h2:x<=b):x<=GK a b:=by unfold GK;cases lf a b<;>assumption
theorem av.know' (h:av P V s B w) {K:ew} (hK:cx K V.σ):av P V { s with know:=K } B w:=
 ⟨hK,h.lens,h.memo,h.mem,h.memB,h.below,h.blk,h.dom,h.domL,h.inj,h.glob,h.own⟩
theorem zu (h:av P V s B w) {a b:IE} {x y:Int} (hx:a.val V.σ=some x) (hy:b.val V.σ=some y):av P V (wa s a b (decide (x<=y))) B w:=by
 unfold wa
 split
 ·rename_i i n ht
  simp only [decide_eq_true_eq,IE.val,Option.some.injEq] at ht hx hy
  split
  ·rename_i lo hi hr
   obtain ⟨z,e1,e2,e3⟩:=h.know.rng i _ hr
   rw [hx] at e1;cases e1
   exact h.know' (iS h.know hx e2 (Bb e3 (by omega)))
  ·exact h
 ·rename_i i n ht
  simp only [decide_eq_false_iff_not,IE.val,Option.some.injEq] at ht hx hy
  split
  ·rename_i lo hi hr
   obtain ⟨z,e1,e2,e3⟩:=h.know.rng i _ hr
   rw [hx] at e1;cases e1
   exact h.know' (iS h.know hx (Ba e2 (by omega)) e3)
  ·exact h
 ·rename_i n i ht
  simp only [decide_eq_true_eq,IE.val,Option.some.injEq] at ht hx hy
  split
  ·rename_i lo hi hr
   obtain ⟨z,e1,e2,e3⟩:=h.know.rng i _ hr
   rw [hy] at e1;cases e1
   exact h.know' (iS h.know hy (Ba e2 (by omega)) e3)
  ·exact h
 ·rename_i n i ht
  simp only [decide_eq_false_iff_not,IE.val,Option.some.injEq] at ht hx hy
  split
  ·rename_i lo hi hr
   obtain ⟨z,e1,e2,e3⟩:=h.know.rng i _ hr
   rw [hy] at e1;cases e1
   exact h.know' (iS h.know hy e2 (Bb e3 (by omega)))
  ·exact h
 ·exact h
theorem yE (h:av P V s B w) {a b:IE} {t:Bool} (hc:(BE.le a b).val V.σ V.β=some t):av P V (Bi s a b t) B w:=by
 simp only [BE.val] at hc
 split at hc
 ·rename_i x y hx hy
  cases hc
  refine zu (h.know' (K:={ s.know with le:=(a,b,decide (x<=y))::s.know.le }) ⟨h.know.len,h.know.rng,fun a' b' t' hm => ?_,h.know.eq⟩) hx hy
  cases hm with
  | head=>exact ⟨x,y,hx,hy,rfl⟩
  | tail _ hm=>exact h.know.le a' b' t' hm
 ·cases hc
theorem zt (h:av P V s B w) {a b:IE} {x y:Int} (hx:a.val V.σ=some x) (hy:b.val V.σ=some y):av P V (v9 s a b (decide (x=y))) B w:=by
 unfold v9
 split
 ·rename_i i n ht
  simp only [decide_eq_true_eq,IE.val,Option.some.injEq] at ht hx hy
  split
  ·exact h.know' (iS h.know hx (by omega) (by omega))
  ·exact h
 ·rename_i n i ht
  simp only [decide_eq_true_eq,IE.val,Option.some.injEq] at ht hx hy
  split
  ·exact h.know' (iS h.know hy (by omega) (by omega))
  ·exact h
 ·exact h
theorem yD (h:av P V s B w) {a b:IE} {t:Bool} (hc:(BE.eq a b).val V.σ V.β=some t):av P V (Bh s a b t) B w:=by
 simp only [BE.val] at hc
 split at hc
 ·rename_i x y hx hy
  cases hc
  refine zt (h.know' (K:={ s.know with eq:=(a,b,decide (x=y))::s.know.eq }) ⟨h.know.len,h.know.rng,h.know.le,fun a' b' t' hm => ?_⟩) hx hy
  cases hm with
  | head=>exact ⟨x,y,hx,hy,rfl⟩
  | tail _ hm=>exact h.know.eq a' b' t' hm
 ·cases hc
theorem gk:∀(c:BE) (t:Bool) (s:S),av P V s B w->c.val V.σ V.β=some t->av P V (eQ s c t) B w:=by
 intro c
 induction c with
 | var i=>intro t s h hc;exact kV h (eZ hc) rfl
 | le a b=>intro t s h hc;exact yE h hc
 | eq a b=>intro t s h hc;exact yD h hc
 | not c ih=>
  intro t s h hc
  simp only [BE.val] at hc
  split at hc
  ·rename_i x hx;cases hc;simp only [eQ,Bool.not_not];exact ih x s h hx
  ·cases hc
 | and c d ih1 ih2 =>
  intro t s h hc
  simp only [BE.val] at hc
  split at hc
  ·rename_i x y hx hy
   cases t with
   | false=>exact h
   | true=>
    simp only [Option.some.injEq,Bool.and_eq_true] at hc
    obtain ⟨rfl,rfl⟩:=hc
    exact ih2 true _ (ih1 true s h hx) hy
  ·cases hc
theorem vz (h:av P V s B w):∀(c:BE) (t b:Bool),nE s c=some t->c.val V.σ V.β=some b->b=t:=by
 intro c
 induction c with
 | var i =>
  intro t b hd hb
  simp only [nE] at hd
  split at hd
  ·rename_i t' hm;cases hd
   obtain ⟨x,h1,h2⟩:=h.memo _ _ (fW hm)
   rw [eZ (c := .var i) hb] at h1
   simp only [AV.conc] at h2
   rw [<-h1] at h2;cases h2;rfl
  ·cases hd
 | le a b =>
  intro t b' hd hb
  simp only [BE.val] at hb
  split at hb
  ·rename_i x y hx hy
   cases hb
   simp only [nE] at hd
   cases c0:a.eqb b with
   | true=>
    rw [c0] at hd
    cases hd
    rw [IE.eqb_eq _ _ c0,hy] at hx
    cases hx
    simp
   | false=>rw [c0] at hd;exact i5 h.know _ _ _ hd hx hy
  ·cases hb
 | eq a b=>
  intro t b' hd hb
  simp only [BE.val] at hb
  split at hb
  ·rename_i x y hx hy;cases hb;exact vC h.know _ _ _ hd hx hy
  ·cases hb
 | not c ih =>
  intro t b hd hb
  simp only [nE] at hd
  simp only [BE.val] at hb
  split at hd
  ·rename_i t' ht;cases hd
   split at hb
   ·rename_i x hx;cases hb;rw [ih _ _ ht hx]
   ·cases hb
  ·cases hd
 | and c d ih1 ih2 =>
  intro t b hd hb
  simp only [nE] at hd
  simp only [BE.val] at hb
  split at hb
  ·rename_i x y hx hy;cases hb
   split at hd
   ·rename_i h1 h2;cases hd;rw [ih1 _ _ h1 hx,ih2 _ _ h2 hy];rfl
   ·rename_i h1 h2;cases hd;rw [ih1 _ _ h1 hx];rfl
   ·rename_i h1 h2;cases hd;rw [ih2 _ _ h2 hy];simp
   ·cases hd
  ·cases hb
end
end
section
open Go.RowKit
def mZ (F:Fence):Prop:=(∀f,F.fn f)/\F.depth=none/\F.alive=false
theorem oq {F:Fence} (hF:mZ F) {n:Nat} {P:Program} {f:FuncId} {args:Array Value} {w:World} {R:Ending->World->Prop} (h:Calls P f args w R):CallsIn F n P f args w R:=by
 refine ⟨hF.1 f,fun cs _ => ?_⟩
 obtain ⟨e,w',fr,r,s,x⟩:=h cs
 refine ⟨e,w',fr,r,?_,x⟩
 have free:∀m:Machine,m.fenced P F:=fun m g _=>⟨fun h=>(by rw [hF.2.2] at h;cases h),.inl (hF.1 _),fun f _=>hF.1 f,fun d h=>(by rw [hF.2.1] at h;cases h)⟩
 cases e with
 | returned v=>exact (StepsIn.of_steps s).mono fun m _=>free m
 | panicked c=>exact (StepsIn.of_steps s).mono fun m _=>free m
 | outgrown=>exact s
def pI:Ex->Exit
 | .normal => .normal
 | .exit id => .exit id
 | .goto l => .goto l
 | .ret => .ret
def ip (V:az) (lv:Lv):Prop:=∀i c,sX lv i=some c->V.L i=some c
theorem ip.mono {V V':az} {lv:Lv} (h:ip V lv) (k:eU V V'):ip V' lv:=fun i c hi=>k.L i c (h i c hi)
def uj (V:az) (F:Fence):Option Nat->Prop
 | none=>F.round=none
 | some l=>∃p,V.E l=some p/\F.round=some p.1
theorem uj.mono {V V':az} {F:Fence} {rd:Option Nat} (h:uj V F rd) (k:eU V V'):uj V' F rd:=by
 cases rd with
 | none=>exact h
 | some l=>obtain ⟨p,h1,h2⟩:=h;exact ⟨p,k.E _ _ h1,h2⟩
def mY (P:Program) (V:az) (B:World) (K:PE->gA->Prop) (Q:Exit->Act->World->Prop):Prop:=
 ∀pe o,K pe o->∃e a s,o = .code e a s/\∀V' A w,eU V V'->V'.toPE=pe->av P V' s B w->aN V' a A->Q (pI e) A w
def DG (P:Program) (V:az) (B:World) (K:PE->gA->Prop) (R:Ending->World->Prop):Prop:=
 ∀pe o,K pe o->∃v s,o = .val v s/\∀V' x w,eU V V'->V'.toPE=pe->av P V' s B w->v.conc V'=some x->R (.returned x) w
theorem mY.mono {P:Program} {V V':az} {B:World} {K:PE->gA->Prop} {Q:Exit->Act->World->Prop} (h:mY P V B K Q) (k:eU V V'):mY P V' B K Q:=fun pe o hk=>by
 obtain ⟨e,a,s,h1,h2⟩:=h pe o hk
 exact ⟨e,a,s,h1,fun V2 A w x=>h2 V2 A w (k.trans x)⟩
structure kC (P:Program) (g:G) (SP:Nat->Option Sp) (ih:Ih) (m:Nat):Prop where
 code:∀{V:az} {F:Fence} {n:Nat} {B w:World} {lv:Lv} {rd:Option Nat} {c:Code} {a:A} {A:Act} {s:S} {K:PE->gA->Prop} {Q:Exit->Act->World->Prop},mZ F->ip V lv->uj V F rd->av P V s B w->aN V a A->
  eh SP (ih (.code lv rd c a) s) V.toPE K->mY P V B K Q->(∀ch A w,¬Q (.panic ch) A w)->c.wpIn F n P Q A w
 call:∀{V:az} {F:Fence} {n:Nat} {B w:World} {lv:Lv} {f:FuncId} {args:List AV} {xs:List Value} {s:S} {K:PE->gA->Prop} {R:Ending->World->Prop},mZ F->ip V lv->av P V s B w->concL V args=some xs->
  eh SP (ih (.call lv f args) s) V.toPE K->DG P V B K R->CallsIn F n P f xs.toArray w R
 yield:∀{V:az} {F:Fence} {n:Nat} {B w:World} {lv:Lv} {l:Nat} {p:Nat×Nat} {args:List AV} {xs:List Value} {s:S} {K:PE->gA->Prop} {R:Ending->World->Prop},mZ F->ip V lv->av P V s B w->V.E l=some p->concL V args=some xs->
  eh SP (ih (.yield lv l args) s) V.toPE K->DG P V B K R->∃fn tmps assign body,(Instr.yield p.1 xs.toArray).run P w = .ok (.round p.1 fn tmps assign body) w/\RoundIn F n P p.1 fn tmps assign body w R
 loop:∀{V:az} {F:Fence} {n:Nat} {B w:World} {lv:Lv} {rd:Option Nat} {c:Code} {a:A} {A:Act} {s:S} {K:PE->gA->Prop} {Q:Exit->Act->World->Prop},mZ F->ip V lv->uj V F rd->av P V s B w->aN V a A->
  eh SP (ih (.loop lv rd c a) s) V.toPE K->mY P V B K Q->(∀ch A w,¬Q (.panic ch) A w)->Code.roundsIn F n P c Q m A w
def bR {R:Type}:(ks:List Kd)->mR ks R->List Value->(R->Prop)->Prop
 | [],f,[],K=>K f
 | .i k::ks,f,.int k' x::vs,K=>k'=k/\(k.min<=x/\x<=k.max)/\bR ks (f x) vs K
 | .b::ks,f,.bool x::vs,K=>bR ks (f x) vs K
 | .s::ks,f,.string x::vs,K=>bR ks (f x.data.toList) vs K
 | .v::ks,f,x::vs,K=>bK x=some x/\bR ks (f x) vs K
 | .sl::ks,f,.slice p n c::vs,K=>(n<=9223372036854775807/\c<=9223372036854775807)/\bR ks (f p n c) vs K
 | _,_,_,_=>False
def BU:List Value->Value
 | [v]=>v
 | l => .tuple l.toArray
def ff:List (Option Nat)->List Value->Option (List Value)
 | [],[]=>some []
 | none::g,v::vs=>(match ff g vs with | some l=>some (v::l) | none=>none)
 | some n::g,vs=>(match gn n vs,ff g (jp vs n) with | some l,some l'=>some (.agg l.toArray::l') | _,_=>none)
 | _,_=>none
def cI (P:Program) (sp:Sp):Prop:=
 ∀ (m : Mem) (w : World) (ys xs : List Value), (∀ b o, m b = some o -> w.heap[b]? = some o) -> ff sp.grp ys = some xs -> bR sp.args sp.spec ys (fun r => r.1 m) ->
  Calls P sp.fn xs.toArray w fun e w'=>∃m' rs rs',e = .returned (BU rs')/\ff sp.rgrp rs=some rs'/\Below w.heap.size w w'/\ac m m'/\(∀b o,m' b=some o->w'.heap[b]? = some o/\(m b=some o\/w.heap.size<=b))/\
   bR sp.args sp.spec ys fun r=>bR sp.res (r.2 m') rs fun p=>p
def eO (P:Program) (g:G) (SP:Nat->Option Sp):Prop:=
 ∀f k sg,mc g.specs f=some (k,sg)->∃sp,SP k=some sp/\sp.fn=f/\sp.toSig=sg/\cI P sp
theorem Ci {R:Type} {K K':R->Prop}:∀(ks:List Kd) (f:mR ks R) (vs:List Value),bR ks f vs K->bR ks f vs K'->bR ks f vs (fun r=>K r/\K' r):=by
 intro ks
 induction ks with
 | nil=>intro f vs h h';cases vs<;>first | exact ⟨h,h'⟩ | exact h.elim
 | cons k ks ih =>
  intro f vs h h'
  cases vs with
  | nil=>cases k<;>exact h.elim
  | cons v vs=>
   cases k with
   | i k=>cases v<;>first | exact ⟨h.1,h.2.1,ih _ _ h.2.2 h'.2.2⟩ | exact h.elim
   | b=>cases v<;>first | exact ih _ _ h h' | exact h.elim
   | s=>cases v<;>first | exact ih _ _ h h' | exact h.elim
   | r=>exact h.elim
   | v=>exact ⟨h.1,ih _ _ h.2 h'.2⟩
   | sl=>cases v<;>first | exact ⟨h.1,ih _ _ h.2 h'.2⟩ | exact h.elim
theorem bq {R:Type} {K K':R->Prop} (hk:∀r,K r->K' r):∀(ks:List Kd) (f:mR ks R) (vs:List Value),bR ks f vs K->bR ks f vs K':=by
 intro ks
 induction ks with
 | nil=>intro f vs h;cases vs<;>first | exact hk _ h | exact h.elim
 | cons k ks ih =>
  intro f vs h
  cases vs with
  | nil=>cases k<;>exact h.elim
  | cons v vs=>
   cases k with
   | i k=>cases v<;>first | exact ⟨h.1,h.2.1,ih _ _ h.2.2⟩ | exact h.elim
   | b=>cases v<;>first | exact ih _ _ h | exact h.elim
   | s=>cases v<;>first | exact ih _ _ h | exact h.elim
   | r=>exact h.elim
   | v=>exact ⟨h.1,ih _ _ h.2⟩
   | sl=>cases v<;>first | exact ⟨h.1,ih _ _ h.2⟩ | exact h.elim
theorem yi {R:Type} {K:R->Prop}:∀(ks:List Kd) (f:mR ks R) (vs:List Value),bR ks f vs K->∃r,K r:=by
 intro ks
 induction ks with
 | nil=>intro f vs h;cases vs<;>first | exact ⟨_,h⟩ | exact h.elim
 | cons k ks ih =>
  intro f vs h
  cases vs with
  | nil=>cases k<;>exact h.elim
  | cons v vs=>
   cases k with
   | i k=>cases v<;>first | exact ih _ _ h.2.2 | exact h.elim
   | b=>cases v<;>first | exact ih _ _ h | exact h.elim
   | s=>cases v<;>first | exact ih _ _ h | exact h.elim
   | r=>exact h.elim
   | v=>exact ih _ _ h.2
   | sl=>cases v<;>first | exact ih _ _ h.2 | exact h.elim
theorem pX {α:Type}:∀(l r:List α) (n:Nat),l.length=n->gn n (l++r)=some l/\jp (l++r) n=r:=by
 intro l
 induction l with
 | nil=>intro r n h;subst h;exact ⟨by cases r<;>rfl,by cases r<;>simp [jp]⟩
 | cons x l ih=>
  intro r n h
  subst h
  obtain ⟨h1,h2⟩:=ih r l.length rfl
  exact ⟨by simp only [List.cons_append,List.length_cons,gn,h1],by simp [jp,show Nat.sub (l.length+1) 1=l.length from rfl,h2]⟩
theorem AR {V:az}:∀{g:List (Option Nat)} {args vs:List AV} {xs:List Value},jm g args=some vs->concL V args=some xs->∃ys,concL V vs=some ys/\ff g ys=some xs:=by
 intro g
 induction g with
 | nil=>intro args vs xs h hx;cases args<;>simp [jm] at h;subst h;cases hx;exact ⟨[],rfl,rfl⟩
 | cons n g ih =>
  intro args vs xs h hx
  cases n with
  | none =>
   cases args with
   | nil=>simp [jm] at h
   | cons v args =>
    simp only [jm] at h
    split at h
    ·rename_i l hl;cases h
     obtain ⟨x,r,rfl,hx1,hr⟩:=ag hx
     obtain ⟨ys,h1,h2⟩:=ih hl hr
     exact ⟨x::ys,ax hx1 h1,by simp only [ff,h2]⟩
    ·cases h
  | some n =>
   cases args with
   | nil=>simp [jm] at h
   | cons v args =>
    cases v<;>simp only [jm] at h<;>try (cases h;done)
    rename_i l
    cases c:Nat.beq (bF l) n with
    | false=>rw [c] at h;cases h
    | true =>
     rw [c] at h;simp only [cond_true] at h
     split at h
     ·rename_i l' hl;cases h
      obtain ⟨x,r,rfl,hx1,hr⟩:=ag hx
      obtain ⟨us,rfl,hus⟩:=cg hx1
      obtain ⟨ys,h1,h2⟩:=ih hl hr
      refine ⟨us++ys,fP hus h1,?_⟩
      have hlen:us.length=n:=by rw [aW hus];rw [aO] at c;simpa using c
      obtain ⟨e1,e2⟩:=pX us ys n hlen
      simp only [ff,e1,e2,h2]
     ·cases h
theorem Hr {V:az}:∀{g:List (Option Nat)} {vs l:List AV} {ys:List Value},gp g vs=some l->concL V vs=some ys->∃xs,ff g ys=some xs/\concL V l=some xs:=by
 intro g
 induction g with
 | nil=>intro vs l ys h hy;cases vs<;>simp [gp] at h;subst h;cases hy;exact ⟨[],rfl,rfl⟩
 | cons n g ih =>
  intro vs l ys h hy
  cases n with
  | none =>
   cases vs with
   | nil=>simp [gp] at h
   | cons v vs =>
    simp only [gp] at h
    split at h
    ·rename_i l' hl;cases h
     obtain ⟨x,r,rfl,hx1,hr⟩:=ag hy
     obtain ⟨xs,h1,h2⟩:=ih hl hr
     exact ⟨x::xs,by simp only [ff,h1],ax hx1 h2⟩
    ·cases h
  | some n =>
   simp only [gp] at h
   split at h
   ·rename_i u l' h1 h2;cases h
    obtain ⟨e1,e2,e3⟩:=gL _ _ _ h1
    rw [ic] at h2
    obtain ⟨xs,k1,k2⟩:=ih h2 (nB hy n)
    have hyl:=aW hy
    have ht:gn n ys=some (ys.take n):=by
     obtain ⟨a1,a2⟩:=pX (ys.take n) (ys.drop n) n (by simp;omega)
     rw [List.take_append_drop] at a1;exact a1
    refine ⟨.agg (ys.take n).toArray::xs,?_,ax (gd (by rw [e1];exact fH hy n)) k2⟩
    simp only [ff,ht,ic,k1]
   ·cases h
section
variable {P:Program} {g:G} {SP:Nat->Option Sp} {V:az} {s s':S} {B w:World} {a a':A} {A:Act} {F:Fence} {n:Nat} {ops:Array Oper} {Q:Exit->Act->World->Prop}
theorem da {p:List aX} {x:T} {pe:PE} {K:PE->gA->Prop} (h:eh SP (mT p x) pe K):aj p pe (fun pe=>eh SP x pe K):=by
 cases p with
 | nil=>exact h
 | cons y p=>exact h
theorem av.grow (h:av P V s B w) {w':World} (hb:Below w.heap.size w w') {m':Mem} (hm:ac V.mem m') (hm':∀b o,m' b=some o->w'.heap[b]? = some o/\(V.mem b=some o\/w.heap.size<=b)) :
  av P (V.at { V.toPE with mem:=m' }) s B w'/\dr V.toPE { V.toPE with mem:=m' }:=by
 have hu:dr V.toPE { V.toPE with mem:=m' }:=⟨Up.refl _,Up.refl _,Up.refl _,Up.refl _,Up.refl _,hm,rfl⟩
 have hx:=aD (V:=V) hu
 have low:∀id blk p,s.heap.get id=some blk->ct blk=true->V.E id=some p->p.1<w.heap.size:=fun id blk p hg ho hp=>by
  obtain ⟨q,hq,hB,_⟩:=h.blk id blk hg
  rw [hp] at hq;cases hq
  rcases Nat.lt_or_ge p.1 w.heap.size with hl | hl
  ·exact hl
  ·have hno:w.heap[p.1]? = none:=Array.getElem?_eq_none hl
   rw [hno] at hB
   cases blk with
   | dead=>simp [ct] at ho
   | cells l e=>obtain ⟨vs,fz,_,e2,_⟩:=hB;cases e2
   | row l e=>obtain ⟨vs,r,fz,_,e2,_⟩:=hB;cases e2
   | ro l=>simp [ct] at ho
   | map es c=>obtain ⟨ms,_,e2⟩:=hB;cases e2
   | defd=>cases hB
   | loop st pe t n d=>obtain ⟨_,_,_,_,_,_,_,e2⟩:=hB;cases e2
 refine ⟨⟨h.know,h.lens,js h hu,fun b o hbo => ?_,fun b o hbo => ?_,?_,fun id b hg => ?_,h.dom,h.domL,h.inj,h.glob,?_⟩,hu⟩
 ·obtain ⟨m1,m2⟩:=hm' b o hbo
  refine ⟨m1,fun id blk p hg ho hp => ?_⟩
  rcases m2 with m2 | m2
  ·exact (h.mem b o m2).2 id blk p hg ho hp
  ·have:=low id blk p hg ho hp;omega
 ·rcases (hm' b o hbo).2 with m2 | m2
  ·exact h.memB b o m2
  ·exact .inr (Nat.le_trans h.below.size m2)
 ·exact h.below.trans (hb.mono h.below.size)
 ·obtain ⟨p,h1,h2,h3,h4⟩:=h.blk id b hg
  refine ⟨p,h1,?_,h3,fun e=>(h4 e).imp (fun k=>k) fun ⟨ob,k⟩=>⟨ob,hm _ _ k⟩⟩
  cases b with
  | dead=>trivial
  | ro l =>
   have hlt:p.1<w.heap.size:=by
    rcases h4 rfl with k | ⟨ob,k⟩
    ·exact Nat.lt_of_lt_of_le k h.below.size
    ·exact (Array.getElem?_eq_some_iff.1 (h.mem _ _ k).1).1
   have:=fL hx h2
   rw [hb.block p.1 hlt];exact this
  | _=>
   have hlt:=low id _ p hg rfl h1
   have:=fL hx h2
   rw [hb.block p.1 hlt];exact this
 ·refine h.own.keep hu (fun b o _ hbo hmb ha => ?_)
  have hlt:b<w.heap.size:=(Array.getElem?_eq_some_iff.1 hbo).1
  refine ⟨?_,by rw [hb.block b hlt];exact hbo,ha⟩
  show m' b=none
  cases hmm:m' b with
  | none=>rfl
  | some o'=>
   rcases (hm' b o' hmm).2 with k | k
   ·rw [hmb] at k;cases k
   ·omega
theorem fG {R:Type} {C:PE->R->Prop} {K:R->Prop}:∀(ks:List Kd) (rs:List Value) (V:az) (s:S) (f:mR ks R),av P V s B w->bR ks f rs K->jE ks V.toPE f C->
  ∃pe post,C pe post/\K post/\kH P B w V s (cu ks s).1 pe (cu ks s).2 rs:=by
 intro ks
 induction ks with
 | nil=>
  intro rs V s f hR ha hc
  cases rs with
  | nil=>exact ⟨V.toPE,f,hc,ha,dr.refl _,rfl,hR,rfl,rfl,rfl,rfl⟩
  | cons v vs=>exact ha.elim
 | cons k ks ih =>
  intro rs V s f hR ha hc
  cases rs with
  | nil=>cases k<;>exact ha.elim
  | cons v vs =>
   cases k with
   | i k =>
    cases v with
    | int k' x=>
     have h1:k'=k/\(k.min<=x/\x<=k.max)/\bR ks (f x) vs K:=ha
     have r:=jh hR h1.2.1.1 h1.2.1.2
     have:=h1.1
     subst this
     have hh:=ih vs (V.at (bm V.toPE x)) (aK s k'.min k'.max) (f x) r.1 h1.2.2 (hc x h1.2.1.1 h1.2.1.2)
     exact hh.elim fun pe hh=>hh.elim fun post hh=>⟨pe,post,hh.1,hh.2.1,kH.cons (qR _ x) rfl r.1 rfl rfl rfl (dc r.2) hh.2.2⟩
    | _=>exact ha.elim
   | b =>
    cases v with
    | bool x=>
     have r:=C4 hR x
     have hh:=ih vs (V.at (nm V.toPE x)) (kl s) (f x) r.1 ha (hc x)
     exact hh.elim fun pe hh=>hh.elim fun post hh=>⟨pe,post,hh.1,hh.2.1,kH.cons (HQ _ x) rfl r.1 rfl rfl rfl (eZ r.2) hh.2.2⟩
    | _=>exact ha.elim
   | s =>
    cases v with
    | string x =>
     have r:=C5 hR x.data.toList
     have hh:=ih vs (V.at (iz V.toPE x.data.toList)) (li s) (f x.data.toList) r.1 ha (hc x.data.toList)
     have hv:(AV.sv s.ns).conc (iN (iz V.toPE x.data.toList))=some (.string x):=by
      simp only [AV.conc]
      rw [show (iN (iz V.toPE x.data.toList)).ς=(iz V.toPE x.data.toList).ς from rfl,r.2]
     exact hh.elim fun pe hh=>hh.elim fun post hh=>⟨pe,post,hh.1,hh.2.1,kH.cons (HR _ x.data.toList) rfl r.1 rfl rfl rfl hv hh.2.2⟩
    | _=>exact ha.elim
   | r=>exact ha.elim
   | v =>
    have h1:bK v=some v/\bR ks (f v) vs K:=ha
    have r:=tE hR v
    have hh:=ih vs (V.at (be V.toPE v)) (bu s) (f v) r.1 h1.2 (hc v h1.1)
    have hv:(AV.opq s.nv).conc (iN (be V.toPE v))=some v:=by
     show lq (be V.toPE v) s.nv=some v
     simp only [lq,r.2,h1.1]
    exact hh.elim fun pe hh=>hh.elim fun post hh=>⟨pe,post,hh.1,hh.2.1,kH.cons (z5 _ v) rfl r.1 rfl rfl rfl hv hh.2.2⟩
   | sl =>
    cases v with
    | slice q n c =>
     have h1:(n<=9223372036854775807/\c<=9223372036854775807)/\bR ks (f q n c) vs K:=ha
     obtain ⟨r1,e1⟩:=tE hR (.pointer q)
     obtain ⟨r2,e2⟩:=jh r1 (x:=(n:Int)) (lo:=0) (hi:=9223372036854775807) (by omega) (by have:=h1.1.1;omega)
     obtain ⟨r3,e3⟩:=jh r2 (x:=(c:Int)) (lo:=0) (hi:=9223372036854775807) (by omega) (by have:=h1.1.2;omega)
     simp only [az.at_at,az.at_toPE] at r2 r3 e2 e3
     have n0:nI (bu s)=nI s:=rfl
     have n1':nI (aK (bu s) 0 9223372036854775807)=Nat.succ (nI s):=by simp [nI,aK,bu,aO]
     rw [n0] at e2;rw [n1'] at e3
     have hu1:=z5 V.toPE (.pointer q)
     have hu2:=qR (be V.toPE (.pointer q)) (n:Int)
     have hu3:=qR (bm (be V.toPE (.pointer q)) (n:Int)) (c:Int)
     have hh:=ih vs (V.at (bm (bm (be V.toPE (.pointer q)) n) c)) (aK (aK (bu s) 0 9223372036854775807) 0 9223372036854775807) (f q n c) r3 h1.2 (hc q n c h1.1.1 h1.1.2)
     have hv:(AV.sl s.nv (.lit 0) (.var (nI s)) (.var (Nat.succ (nI s)))).conc (iN (bm (bm (be V.toPE (.pointer q)) n) c))=some (.slice q n c):=by
      have p1:aM (bm (bm (be V.toPE (.pointer q)) n) c).τ s.nv=some q:=by
       unfold aM
       rw [show (bm (bm (be V.toPE (.pointer q)) n) c).τ=(be V.toPE (.pointer q)).τ from rfl,e1]
      have p2:=bN (IE.val_up hu3.σ _ _ e2) (by omega)
      have p3:=bN e3 (by omega)
      have p4:aQ (bm (bm (be V.toPE (.pointer q)) n) c).σ (.lit 0)=some 0:=rfl
      show qS (bm (bm (be V.toPE (.pointer q)) n) c) _ _ _ _=_
      simp only [qS,p1,p2,p3,p4,Int.toNat_natCast]
      congr 2
      cases q<;>simp [Addr.add]
     exact hh.elim fun pe hh=>hh.elim fun post hh=>⟨pe,post,hh.1,hh.2.1,kH.cons ((hu1.trans hu2).trans hu3) rfl r3 rfl rfl rfl hv hh.2.2⟩
    | _=>exact ha.elim
theorem cG {pe:PE} {l:List AV} {xs:List Value} (h:concL (iN pe) l=some xs) {V:az} (hv:V.toPE=pe):concL V l=some xs:=by
 refine aG ?_ h
 subst hv
 exact ⟨dr.refl _,fun _ _ h=>(by cases h),fun _ _ h=>(by cases h)⟩
theorem C6 {V:az} {l:List AV} {rs:List Value} (h:concL V l=some rs):(Jb l).conc V=some (BU rs):=by
 cases l with
 | nil=>cases h;rfl
 | cons v l =>
  obtain ⟨x,r,rfl,hx,hr⟩:=ag h
  cases l with
  | nil=>cases hr;exact hx
  | cons u l=>
   obtain ⟨y,r',rfl,_,_⟩:=ag hr
   exact qv h
theorem uL (h:av P V s B w) {k:Kd} {v u:AV} {X:Value} {p:List aX} (hf:sD k v s=some (p,u,s')) (hv:v.conc V=some X) :
  ak P B w V s p s' (fun V'=>u.conc V'=some X):=by
 unfold sD at hf
 cases hl:fb v with
 | false=>rw [hl] at hf;cases hf;exact ak.nil h hv
 | true =>
  rw [hl] at hf;simp only [cond_true] at hf
  split at hf
  ·rename_i u' hm;cases hf
   obtain ⟨x,h1,h2⟩:=h.memo _ _ (fW hm)
   rw [hv] at h1;cases h1
   exact ak.nil h h2
  ·split at hf
   ·cases hf;exact xt h hl hv _
   ·cases hf;exact xq h hl hv
   ·cases hf;exact xu h hl hv
   ·cases hf;exact uW h hl hv
   ·cases hf
def Ab (V:az):List Kd->List AV->Prop
 | .i k::ks,.int _ e::vs=>(∀z,e.val V.σ=some z->k.min<=z/\z<=k.max)/\Ab V ks vs
 | _::ks,_::vs=>Ab V ks vs
 | _,_=>True
theorem xL:∀{ks:List Kd} {vs us:List AV} {V:az} {s s':S} {xs:List Value} {p:List aX},av P V s B w->ko ks vs s=some (p,us,s')->concL V vs=some xs->
  ak P B w V s p s' (fun V'=>concL V' us=some xs/\Ab V' ks us):=by
 intro ks
 induction ks with
 | nil=>
  intro vs us V s s' xs p hR h hx
  cases vs<;>simp [ko] at h
  obtain ⟨rfl,rfl,rfl⟩:=h
  cases hx
  exact ak.nil hR ⟨rfl,trivial⟩
 | cons k ks ih =>
  intro vs us V s s' xs p hR h hx
  cases vs with
  | nil=>simp [ko] at h
  | cons v vs =>
   simp only [ko] at h
   split at h
   ·rename_i p1 u s1 hf
    split at h
    ·rename_i q us' s2 hs;cases h
     obtain ⟨x,r,rfl,hv,hr⟩:=ag hx
     refine (uL hR hf hv).app (fun pe hu r1 hu1 => ?_)
     have hin:ak P B w (V.at pe) s1 (vQ s1 k u) s1 (fun V'=>∀k' kk e,k = .i k'->u = .int kk e->∀z,e.val V'.σ=some z->k'.min<=z/\z<=k'.max):=by
      unfold vQ
      split
      ·rename_i k' kk e
       obtain ⟨z,hz,_⟩:=aC hu1
       refine (mC r1 k' hz).mono (fun pe2 hu2 hr2 => ?_)
       intro k2 kk2 e2 h1 h2 z' hz'
       cases h1;cases h2
       have:=IE.val_up hu2.σ _ _ hz
       rw [show ((V.at pe).at pe2).σ=pe2.σ from rfl] at hz'
       rw [this] at hz';cases hz'
       exact hr2
      ·rename_i hno
       exact ak.nil r1 (fun k' kk e h1 h2=>(hno k' kk e h1 h2).elim)
     refine hin.app (fun pe2 hu2 r2 hr2 => ?_)
     have hup:=hu.trans hu2
     simp only [az.at_at] at r2
     refine (ih r2 hs (aG (aD hup) hr)).mono (fun pe3 hu3 hk => ?_)
     refine ⟨ax (aF (aD (V:=V.at pe) (hu2.trans hu3)) _ _ hu1) hk.1,?_⟩
     cases k<;>cases u<;>first
      | exact hk.2
      | skip
     rename_i k' kk e
     refine ⟨fun z hz => ?_,hk.2⟩
     obtain ⟨z0,hz0,_⟩:=aC hu1
     have:=IE.val_up (hu2.trans hu3).σ _ _ hz0
     rw [show ((V.at pe2).at pe3).σ=pe3.σ from rfl] at hz
     rw [this] at hz;cases hz
     exact hr2 k' kk e rfl rfl _ (IE.val_up hu2.σ _ _ hz0)
    ·cases h
   ·cases h
theorem DK {R:Type} {K:R->Prop} {V:az}:∀(ks:List Kd) (us:List AV) (f:mR ks R) (xs:List Value),ll V.toPE ks us f K->concL V us=some xs->Ab V ks us->bR ks f xs K:=by
 intro ks
 induction ks with
 | nil=>
  intro us f xs h hx _
  cases us with
  | nil=>cases hx;exact h
  | cons _ _=>exact h.elim
 | cons k ks ih =>
  intro us f xs h hx hr
  cases us with
  | nil=>cases k<;>exact h.elim
  | cons u us =>
   obtain ⟨x,r,rfl,hu,hus⟩:=ag hx
   cases k with
   | i k =>
    cases u<;>simp only [ll] at h<;>try exact h.elim
    rename_i k' e
    split at h
    ·rename_i z hk hz
     have:=cF hk;subst this
     obtain ⟨z',hz',rfl⟩:=aC hu
     have e0:z=z':=Option.some.inj (hz.symm.trans hz')
     subst e0
     exact ⟨rfl,hr.1 z hz',ih us _ r h hus hr.2⟩
    ·exact h.elim
   | b =>
    simp only [ll] at h
    split at h
    ·rename_i z hz
     have hb:u.conc V=some (.bool z):=by
      cases u<;>simp only [wC] at hz<;>first
       | (cases hz;rfl)
       | exact eZ hz
       | cases hz
     rw [hu] at hb;cases hb
     exact ih us _ r h hus (by cases u<;>exact hr)
    ·exact h.elim
   | s =>
    simp only [ll] at h
    split at h
    ·rename_i z hz
     have hb:=qp hz
     rw [hu] at hb;cases hb
     exact ih us _ r h hus (by cases u<;>exact hr)
    ·exact h.elim
   | r=>cases u<;>exact h.elim
   | v =>
    cases u<;>simp only [ll] at h<;>try exact h.elim
    split at h
    ·rename_i z hz
     have hb:_=some z:=hz
     have hu':lq V.toPE _=some x:=hu
     rw [hz] at hu';cases hu'
     obtain ⟨v0,_,h4⟩:=ke hz
     have h1:=(dC h4).1
     subst h1
     exact ⟨h4,ih us _ r h hus hr⟩
    ·exact h.elim
   | sl =>
    cases u<;>simp only [ll] at h<;>try exact h.elim
    ·rename_i a off len cap
     split at h
     ·rename_i p o n c q1 q2 q3 q4
      have hu':qS V.toPE a off len cap=some x:=hu
      simp only [qS,q1,q2,q3,q4,Option.some.injEq] at hu'
      subst hu'
      exact ⟨h.1,ih us _ r h.2 hus hr⟩
     ·exact h.elim
    ·simp only [AV.conc,Option.some.injEq] at hu
     subst hu
     exact ⟨⟨by omega,by omega⟩,ih us _ r h hus hr⟩
theorem lN (hR : av P V s B w) (hA : aN V a A) {o : Oper} :
  match gi ops.toList a s o with
  | .yes=>Region.wanted o (yielded ops A.tmps)=true
  | .no=>Region.wanted o (yielded ops A.tmps)=false
  | .ask d c want=>a.tmps.get d=some (.bx c)/\∀b,c.val V.σ V.β=some b->Region.wanted o (yielded ops A.tmps)=(b==want)
  | .bad=>True:=by
 unfold gi
 cases hg:o.guard with
 | none=>simp only;unfold Region.wanted;rw [hg]
 | some jw =>
  obtain ⟨j,want⟩:=jw
  have hw:Region.wanted o (yielded ops A.tmps)=(yielded ops A.tmps j==some want):=by unfold Region.wanted;rw [hg]
  simp only [cJ,Array.getElem?_toList]
  cases hj:ops[j]? with
  | none=>trivial
  | some oj =>
   simp only
   cases hd:oj.dst with
   | none=>trivial
   | some d =>
    simp only
    have hy:yielded ops A.tmps j=(match A.tmps[d]? with | some (.bool b)=>some b | _=>none):=by
     unfold yielded;rw [hj];simp only [Option.bind_some,hd];rfl
    have isB:∀b,A.tmps.getD d undef = .bool b->yielded ops A.tmps j=some b:=fun b hb=>by
     rw [hy]
     cases ht:A.tmps[d]? with
     | none=>simp [Array.getD_eq_getD_getElem?,ht,undef] at hb
     | some x=>simp [Array.getD_eq_getD_getElem?,ht] at hb;rw [hb]
    have noB:(∀b,A.tmps.getD d undef≠ .bool b)->yielded ops A.tmps j=none:=fun hb=>by
     rw [hy]
     cases ht:A.tmps[d]? with
     | none=>rfl
     | some x=>
      have hx:A.tmps.getD d undef=x:=by simp [Array.getD_eq_getD_getElem?,ht]
      cases x<;>first | rfl | (exact (hb _ hx).elim)
    cases hv:a.tmps.get d with
    | none=>trivial
    | some v =>
     have hc:v.conc V=some (A.tmps.getD d undef):=hA.get hv
     cases v with
     | bool b=>
      simp only [AV.conc,Option.some.injEq] at hc
      have e:=isB b hc.symm
      cases hbw:(b==want) with
      | true=>simp only [hbw,cond_true];rw [hw,e];simpa using hbw
      | false=>simp only [hbw,cond_false];rw [hw,e];simpa using hbw
     | bx c =>
      obtain ⟨z,hz,ez⟩:=fm hc
      have e:=isB z ez
      simp only
      cases hdec:nE s c with
      | some t=>
       have:=vz hR c t z hdec hz
       subst this
       cases hbw:(z==want) with
       | true=>simp only [hbw,cond_true];rw [hw,e];simpa using hbw
       | false=>simp only [hbw,cond_false];rw [hw,e];simpa using hbw
      | none=>
       refine ⟨hv,fun b hb => ?_⟩
       rw [hz] at hb;cases hb
       rw [hw,e];cases z<;>cases want<;>rfl
     | cl p q=>trivial
     | rc p q=>trivial
     | opq i=>trivial
     | _ =>
      all_goals
       simp only [fb,cond_false]
       rw [hw,noB (fun b hb=>by
        rw [hb] at hc
        simp only [AV.conc] at hc
        first
         | (cases hc;done)
         | (obtain ⟨_,_,_,_,_,_,_,_,e⟩:=bX hc;cases e)
         | (obtain ⟨_,_,_,_,e⟩:=jf hc;cases e)
         | (split at hc<;>cases hc))]
       rfl
theorem iO {o:Oper} {r:uA} (h:I1 g a s o=r) (hr:∀n,r≠ .err n):∀c,o.op≠ .defer c:=by
 intro c hc
 obtain ⟨dst,op,type,pos,after,guard⟩:=o
 simp only at hc
 subst hc
 exact hr 99 (by rw [<-h];rfl)
theorem zG {o:Oper} {r:List aX×AV×S×List HX} (h:Fm g a s o=some r):∀c,o.op≠ .defer c:=by
 intro c hc
 obtain ⟨dst,op,type,pos,after,guard⟩:=o
 simp only at hc
 subst hc
 cases h
theorem lH (hF:mZ F):F.depth.isSome=true->1<=n:=fun h=>by rw [hF.2.1] at h;simp at h
theorem kT {o:Oper} {v:AV} {x:Value} (hR:av P V s B w) (hA:aN V a A) {K:PE->gA->Prop} (h:eh SP (qj a o v s) V.toPE K) (hv:v.conc V=some x) {K2:Act->World->Prop} (hE:∀pe n,¬K pe (.err n))
  (hK:∀a' V' A' w',eU V V'->av P V' s B w'->aN V' a' A'->K V'.toPE (.code .normal a' s)->K2 A' w'):K2 (A.put o.dst x) w:=by
 unfold qj at h
 split at h
 ·rename_i a' ha;exact hK a' V _ w (eU.refl V) hR (hA.put ha hv) h
 ·exact (hE _ _ h).elim
theorem Bx (hR:av P V s B w) {v:AV} {x:Value} (hv:v.conc V=some x):(yQ s v).conc V=some x:=by
 cases v with
 | bx c =>
  obtain ⟨z,hz,ez⟩:=fm hv
  simp only [yQ]
  cases hdec:nE s c with
  | some t=>
   have:=vz hR c t z hdec hz
   subst this;subst ez;rfl
  | none=>exact hv
 | _=>exact hv
theorem mz (hG:cv P g) {o:Oper} {v:AV} {x:Value} (hR:av P V s B w) (hA:aN V a A) {K:PE->gA->Prop} (h:eh SP (pN g o a v s) V.toPE K) (hv:v.conc V=some x) {K2:Act->World->Prop} (hE:∀pe n,¬K pe (.err n))
  (hK:∀a' s' V' A' w',eU V V'->av P V' s' B w'->aN V' a' A'->K V'.toPE (.code .normal a' s')->K2 A' w'):K2 (A.put o.dst x) w:=by
 unfold pN at h
 split at h
 ·rename_i p u s1 hf
  obtain ⟨pe,u1,h1,r1,hu⟩:=lM hG hR hf hv _ (da h)
  exact kT (V:=V.at pe) r1 (hA.mono (aD u1)) h1 (Bx r1 hu) hE (fun a' V' A' w' e r ar k=>hK a' s1 V' A' w' ((aD u1).trans e) r ar k)
 ·exact kT hR hA h (Bx hR hv) hE (fun a' V' A' w' e r ar k=>hK a' s V' A' w' e r ar k)
theorem Dg (hG:cv P g) (hF:mZ F) (hS:eO P g SP) (hR:av P V s B w) (hA:aN V a A) {o:Oper} {f:FuncId} {k:Nat} {sg:Sig} (hk:mc g.specs f=some (k,sg)) {args:List AV} {xs:List Value} (hx:concL V args=some xs) {K:PE->gA->Prop} (hE:∀pe n,¬K pe (.err n))
  (h:eh SP (zD g a s o k sg args) V.toPE K) {R:Ending->World->Prop} {K2:Act->World->Prop}
  (hK:∀a' s' V' A' w',eU V V'->av P V' s' B w'->aN V' a' A'->K V'.toPE (.code .normal a' s')->K2 A' w') (hR':∀v w',K2 (A.put o.dst v) w'->R (.returned v) w'):CallsIn F n P f xs.toArray w R:=by
 obtain ⟨sp,h1,rfl,rfl,h4⟩:=hS f k sg hk
 unfold zD at h
 split at h
 ·rename_i ws hfl
  obtain ⟨ys,hy9,hpk⟩:=AR hfl hx
  rcases hpb:qi g ws s with ⟨p0,vs,s9⟩
  rw [hpb] at h
  simp only at h
  obtain ⟨tB,u0,h9,hR9,hy0⟩:=rz hG _ V s hR hy9 hpb _ (da h)
  have hK9:=hK
  replace hA:=hA.mono (aD u0)
  replace hR:=hR9
  replace hK:∀a' s' V' A' w',eU (V.at tB) V'->av P V' s' B w'->aN V' a' A'->K V'.toPE (.code .normal a' s')->K2 A' w':=fun a' s' V' A' w' e=>hK9 a' s' V' A' w' ((aD u0).trans e)
  clear h
  have h:=h9
  clear h9
  generalize hV0:V.at tB=V0 at *
  have hVp:tB=V0.toPE:=by rw [<-hV0];rfl
  rw [hVp] at h
  clear hV0 hVp hy9
  clear hK9
  rcases hfz:sH vs s9 with ⟨pf,sf⟩
  rw [hfz] at h
  simp only at h
  obtain ⟨pef,uf,hf1,hRf,_⟩:=oG hR hfz _ (da h)
  have hK0:=hK
  have hy:=aG (aD uf) hy0
  replace hA:=hA.mono (aD uf)
  replace hR:=hRf
  replace hK:∀a' s' V' A' w',eU (V0.at pef) V'->av P V' s' B w'->aN V' a' A'->K V'.toPE (.code .normal a' s')->K2 A' w':=fun a' s' V' A' w' e=>hK0 a' s' V' A' w' ((aD uf).trans e)
  clear h
  have h:=hf1
  clear hf1
  unfold Fh at h
  split at h
  ·rename_i p us s1 hsa
   rcases hpu:cu sp.res s1 with ⟨l,s2⟩
   rw [hpu] at h
   simp only at h
   split at h
   ·rename_i l' hl'
    obtain ⟨pe,u1,hs,r1,hus,hrg⟩:=xL hR hsa hy _ (da h)
    simp only [eh,h1] at hs
    have harg:=DK (V:=(V0.at pef).at pe) sp.args us sp.spec ys hs hus hrg
    refine oq hF ((h4 pe.mem w ys xs (fun b o hb=>(r1.mem b o hb).1) hpk (bq (fun r hr=>hr.1) _ _ _ harg)).mono ?_)
    rintro e w' ⟨m',rs,rs',rfl,hpr,hb,hm,hm',hres⟩
    obtain ⟨r2,u2⟩:=r1.grow hb hm hm'
    obtain ⟨r,⟨_,hr1⟩,hr2⟩:=yi _ _ _ (Ci _ _ _ harg hres)
    have hh:=fG (C:=fun pe post=>post->eh SP (qj a o (Jb l') s2) pe K) sp.res rs _ s1 _ r2 hr2 (hr1 m' hm)
    refine hh.elim fun pe3 hh=>hh.elim fun post c => ?_
    have hv:=c.2.2
    rw [hpu] at hv
    obtain ⟨xs',e1,e2⟩:=Hr hl' (cG hv.vals rfl:concL ((V0.at pef).at pe3) l=some rs)
    rw [hpr] at e1;cases e1
    have hup:=(u1.trans u2).trans hv.up
    exact hR' _ _ (kT (V:=(V0.at pef).at pe3) hv.rel (hA.mono (aD hup)) (c.1 c.2.1) (C6 e2) hE (fun a' V' A' w2 e r ar k=>hK a' _ V' A' w2 ((aD hup).trans e) r ar k))
   ·exact (hE _ _ h).elim
  ·exact (hE _ _ h).elim
 ·exact (hE _ _ h).elim
theorem Eb:∀{l m:List AV},AV.eqbL l m=true->l=m:=by
 intro l
 induction l with
 | nil=>intro m h;cases m with | nil=>rfl | cons _ _=>cases h
 | cons x l ih =>
  intro m h
  cases m with
  | nil=>cases h
  | cons y m=>
   have h':(AV.eqb x y&&AV.eqbL l m)=true:=h
   simp only [Bool.and_eq_true] at h'
   rw [eqb_eq x y h'.1,ih h'.2]
theorem DZ (hG:cv P g):∀(l:List AV) (V:az) (s:S) {p:List aX} {s':S},av P V s B w->nf g l s=(p,s')->ak P B w V s p s' (fun _=>True):=by
 intro l
 induction l with
 | nil=>intro V s p s' hR h;simp only [nf,Prod.mk.injEq] at h;obtain ⟨rfl,rfl⟩:=h;exact ak.nil hR trivial
 | cons x l ih =>
  intro V s p s' hR h
  have no:([],s)=(p,s')->ak P B w V s p s' (fun _=>True):=fun h=>by
   simp only [Prod.mk.injEq] at h;obtain ⟨rfl,rfl⟩:=h;exact ak.nil hR trivial
  cases x<;>simp only [nf] at h<;>try exact ih V s hR h
  rename_i id off n c k
  split at h
  ·rename_i c e hb
   cases hc:(Eo c&&Nat.blt id eY) with
   | false=>rw [hc] at h;exact ih V s hR h
   | true =>
    rw [hc] at h;simp only [cond_true] at h
    simp only [Bool.and_eq_true] at hc
    have hid:id<eY:=by simpa using hc.2
    rcases hp:qi g c s with ⟨p1,us,s1⟩
    rw [hp] at h;simp only at h
    split at h
    ·rename_i c' e' hb'
     cases he:(AV.eqbL c' c&&Nat.beq e' e) with
     | false=>rw [he] at h;exact no h
     | true =>
      rw [he] at h;simp only [cond_true] at h
      rcases hq:nf g l { s1 with heap:=Tr.set 64 s1.heap id (.cells us e) } with ⟨q,s2⟩
      rw [hq] at h;simp only [Prod.mk.injEq] at h
      obtain ⟨rfl,rfl⟩:=h
      obtain ⟨pa,h1,h2,_⟩:=hR.blk _ _ hb
      obtain ⟨vs,fz,k1,k2,k3⟩:=h2
      refine (rz hG c V s hR k1 hp).app (fun pe hu r1 hus => ?_)
      simp only [Bool.and_eq_true] at he
      have ec:c'=c:=Eb he.1
      have ee:e'=e:=by simpa using he.2
      subst ec;subst ee
      have h1':(V.at pe).E id=some pa:=h1
      have r2:av P (V.at pe) { s1 with heap:=Tr.set 64 s1.heap id (.cells us e') } B w:=
       r1.turn (b := .cells c' e') (b' := .cells us e') hid rfl hb' rfl rfl h1' (fun _ _=>rfl) rfl rfl rfl rfl ⟨vs,fz,hus,k2,k3⟩
      exact fun K hK=>ih (V.at pe) _ r2 hq K hK
    ·exact no h
  ·exact ih V s hR h
theorem Fi (hG:cv P g) (hF:mZ F) (hS:eO P g SP) (hR:av P V s B w) (hA:aN V a A) {o:Oper} {f:FuncId} {k:Nat} {sg:Sig} (hk:mc g.specs f=some (k,sg)) {args:List AV} {xs:List Value} (hx:concL V args=some xs) {K:PE->gA->Prop} (hE:∀pe n,¬K pe (.err n))
  (h:eh SP (Fg g a s o k sg args) V.toPE K) {R:Ending->World->Prop} {K2:Act->World->Prop}
  (hK:∀a' s' V' A' w',eU V V'->av P V' s' B w'->aN V' a' A'->K V'.toPE (.code .normal a' s')->K2 A' w') (hR':∀v w',K2 (A.put o.dst v) w'->R (.returned v) w'):CallsIn F n P f xs.toArray w R:=by
 unfold Fg at h
 split at h
 ·rename_i ws hfl
  rcases hfd:sH (wI s ws) s with ⟨pd,s8⟩
  rw [hfd] at h
  simp only at h
  obtain ⟨ped,ud,hd1,hRd,_⟩:=oG hR hfd _ (da h)
  rcases hdp:nf g ws s8 with ⟨pp,s7⟩
  rw [hdp] at hd1
  simp only at hd1
  obtain ⟨pep,up,hd2,hRp,_⟩:=DZ hG ws (V.at ped) s8 hRd hdp _ (da hd1)
  have ux:=(aD ud).trans (aD up)
  exact Dg (V:=(V.at ped).at pep) hG hF hS hRp (hA.mono ux) hk (aG ux hx) hE hd2 (fun a' s' V' A' w' e=>hK a' s' V' A' w' (ux.trans e)) hR'
 ·exact (hE _ _ h).elim
theorem BF {ih:Ih} {lv:Lv} {m:Nat} (hI:kC P g SP ih m) (hS:eO P g SP) (hG:cv P g) (hF:mZ F) (hL:ip V lv) (hR:av P V s B w) (hA:aN V a A) {i:Nat} {o:Oper} (ho:ops[i]? = some o) (hw:Region.wanted o (yielded ops A.tmps)=true)
  {K:PE->gA->Prop} (h:eh SP (He ih lv g a s o) V.toPE K) (hE:∀pe n,¬K pe (.err n)) {K2:Act->World->Prop}
  (hK:∀a' s' V' A' w',eU V V'->av P V' s' B w'->aN V' a' A'->K V'.toPE (.code .normal a' s')->K2 A' w'):wpOpIn F n P ops Q i K2 A w:=by
 have ab:∀f,o.about P w A.eval=some f->F.fn f:=fun f _=>hF.1 f
 unfold wpOpIn
 simp only [ho,hw,if_true]
 refine ⟨ab,?_⟩
 unfold He at h
 cases hsm:tX g s o with
 | some r=>
  obtain ⟨p,v,s1⟩:=r
  rw [hsm] at h
  simp only at h
  obtain ⟨pe,x,w',u1,h1,r1,hv,hrun⟩:=Dp hG hR hA hsm _ (da h)
  rw [Oper.semAt_eq _ _ _ (wo hsm)]
  have hfin:K2 (A.put o.dst x) w':=mz hG (V:=V.at pe) r1 (hA.mono (aD u1)) h1 hv hE (fun a' s' V' A' w' e r ar k=>hK a' s' V' A' w' ((aD u1).trans e) r ar k)
  rcases hrun with hrun | ⟨hrun,rfl⟩
  ·rw [hrun];exact hfin
  ·rw [hrun];exact hfin
 | none=>
 rw [hsm] at h
 simp only at h
 have hop:=ES hG hR hA o
 cases hr:I1 g a s o with
 | err k =>
  rw [hr] at h;simp only at h
  split at h
  ·rename_i p v s1 hs1 hsym
   obtain ⟨pe,u1,h1,r1,x,c,hv,hc,hat,hrun⟩:=B2 hG hR hA hsym _ (da h)
   rw [Oper.semAt_eq _ _ _ (zG hsym),hrun w hat]
   exact mz hG (V:=V.at pe) r1 (hA.mono (aD u1)) h1 hv hE (fun a' s' V' A' w' e r ar k=>hK a' s' V' A' w' ((aD u1).trans e) r ar k)
  ·split at h
   ·rename_i p v s1 hsym
    obtain ⟨pe,x,w',u1,h1,r1,hv,hrun⟩:=HK hG hR hA hsym _ (da h)
    rw [Oper.semAt_eq _ _ _ (zQ hsym)]
    have hfin:K2 (A.put o.dst x) w':=mz hG (V:=V.at pe) r1 (hA.mono (aD u1)) h1 hv hE (fun a' s' V' A' w' e r ar k=>hK a' s' V' A' w' ((aD u1).trans e) r ar k)
    rcases hrun with hrun | ⟨hrun,rfl⟩
    ·rw [hrun];exact hfin
    ·rw [hrun];exact hfin
   ·exact (hE _ _ h).elim
 | val v s1=>
  rw [hr] at h hop;simp only at h
  obtain ⟨V',x,w',k1,k2,k3,k4⟩:=hop
  rw [Oper.semAt_eq _ _ _ (iO hr (by simp))]
  have hfin:K2 (A.put o.dst x) w':=mz hG k2 (hA.mono k1) (by rw [k1.pe];exact h) k3 hE (fun a' s' V2 A' w2 e r ar k=>hK a' s' V2 A' w2 (k1.ext.trans e) r ar k)
  rcases k4 with k4 | ⟨k4,rfl⟩
  ·rw [k4];exact hfin
  ·rw [k4];exact hfin
 | enter f args =>
  rw [hr] at h hop;simp only at h
  obtain ⟨_,xs,k1,k2⟩:=hop
  rw [Oper.semAt_eq _ _ _ (iO hr (by simp)),k2]
  refine ⟨lH hF,?_⟩
  split at h
  ·rename_i ins e htr
   split at h
   ·rename_i p v s1 hs1
    refine oq hF (Dl hG hR (hG.trs _ _ _ htr) hs1 k1 (da h) (fun pe x w' u1 hk r1 hv => ?_))
    exact kT (V:=V.at pe) r1 (hA.mono (aD u1)) hk hv hE (fun a' V' A' w2 e r ar k=>hK a' _ V' A' w2 ((aD u1).trans e) r ar k)
   ·exact (hE _ _ h).elim
  split at h
  ·rename_i k ks hk
   exact Fi hG hF hS hR hA hk k1 hE h hK (fun v w' h=>h)
  ·refine hI.call hF hL hR k1 (cN _ _ _ _ h) (fun pe r hr' => ?_)
   cases r with
   | val v s1=>
    refine ⟨v,s1,rfl,fun V' x w' e ep r1 hv => ?_⟩
    subst ep
    exact kT r1 (hA.mono e) hr' hv hE (fun a' V2 A' w' e2 r ar k=>hK a' _ V2 A' w' (e.trans e2) r ar k)
   | code e a s=>exact (hE _ _ hr').elim
   | again vs=>exact (hE _ _ hr').elim
   | err n=>exact (hE _ _ hr').elim
 | yield l args =>
  rw [hr] at h hop;simp only at h
  obtain ⟨p,xs,k0,k1,k2⟩:=hop
  rw [Oper.semAt_eq _ _ _ (iO hr (by simp)),k2]
  obtain ⟨fn,tmps,assign,body,r1,r2⟩:=hI.yield (F:=F) (n:=n-1) (R:=fun e w'=>match e with | .returned x=>K2 (A.put o.dst x) w' | _=>False) hF hL hR k0 k1 (cN _ _ _ _ h) (fun pe r hr'=>by
   cases r with
   | val v s1=>
    refine ⟨v,s1,rfl,fun V' x w' e ep r1 hv => ?_⟩
    subst ep
    exact kT r1 (hA.mono e) hr' hv hE (fun a' V2 A' w' e2 r ar k=>hK a' _ V2 A' w' (e.trans e2) r ar k)
   | code e a s=>exact (hE _ _ hr').elim
   | again vs=>exact (hE _ _ hr').elim
   | err n=>exact (hE _ _ hr').elim)
  rw [r1]
  refine ⟨lH hF,r2.mono ?_⟩
  intro e w' he
  cases e with
  | returned x=>exact he
  | panicked c=>exact he.elim
  | outgrown=>exact he.elim
theorem aN.setI {d:Tmp} {k:IntKind} {e:IE} {z:Int} (hA:aN V a A) (hd:a.tmps.get d=some (.int k e)) (hz:e.val V.σ=some z) (hbig:d<eY):aN V (Vc.setI a d k z) A:=by
 refine ⟨⟨hA.tm.1,fun j v hv => ?_⟩,hA.marks⟩
 simp only [Vc.setI] at hv
 rw [Tr.get_set64 _ _ _ _ hbig] at hv
 by_cases hj:j=d
 ·subst hj
  simp only [if_true,Option.some.injEq] at hv
  subst hv
  rw [<-hA.tm.2 j _ hd,dc hz];rfl
 ·rw [if_neg hj] at hv;exact hA.tm.2 j v hv
theorem uE {v:AV} {d d':Tmp} {k k':IntKind} {e e':IE} {lo:Int} {n:Nat} (h:FX v k e d=some (d',k',e',lo,n)):d'=d/\k'=k/\e'=e:=by
 unfold FX at h
 split at h
 ·obtain ⟨_,h⟩:=bn h
  cases h;exact ⟨rfl,rfl,rfl⟩
 ·cases h
theorem Cj {v:AV} {d d':Tmp} {k k':IntKind} {e e':IE} {lo:Int} {n:Nat} (h:Is s v k e d=some (d',k',e',lo,n)):d'=d/\k'=k/\e'=e:=by
 unfold Is at h
 split at h
 ·rename_i lo' hi' _
  cases c:(lf hi' (lo'+64)) with
  | false=>rw [c] at h;exact uE h
  | true=>rw [c] at h;simp only [cond_true] at h;cases h;exact ⟨rfl,rfl,rfl⟩
 ·exact uE h
theorem rT {x:Operand} {d d':Tmp} {k:IntKind} {e:IE} {lo:Int} {n:Nat} (h:Am a s x d=some (d',k,e,lo,n)):d'<eY/\a.tmps.get d'=some (.int k e):=by
 unfold Am at h
 split at h
 ·cases h
 ·cases h
 ·split at h
  ·cases h
  ·obtain ⟨hb,h⟩:=bn h
   obtain ⟨rfl,rfl,rfl⟩:=Cj h
   simp only [qX,decide_eq_true_eq] at hb
   exact ⟨hb,by assumption⟩
  ·cases h
 ·cases h
theorem uD {o:Oper} {d:Tmp} {k:IntKind} {e:IE} {lo:Int} {n:Nat} (h:FW a s o=some (d,k,e,lo,n)):d<eY/\a.tmps.get d=some (.int k e):=by
 unfold FW at h
 split at h
 ·exact rT h
 ·exact rT h
 ·cases h
theorem tR {pe:PE} {d:Tmp} {k:IntKind} {e:IE} {f:Vc.A->S->T} {z:Int} (hz:e.val pe.σ=some z) {K:PE->gA->Prop} (hE:∀pe n,¬K pe (.err n)):∀(n:Nat) (lo:Int),eh SP (tQ d k e f a s n lo) pe K->
  eh SP (f (Vc.setI a d k z) (eQ s (.eq e (.lit z)) true)) pe K/\(BE.eq e (.lit z)).val pe.σ pe.β=some true:=by
 intro n
 induction n with
 | zero=>intro lo h;exact (hE _ _ h).elim
 | succ n ih =>
  intro lo h
  have hc:(BE.eq e (.lit lo)).val pe.σ pe.β=some (decide (z=lo)):=by simp only [BE.val,hz,IE.val]
  simp only [tQ,eh,hc] at h
  by_cases he:z=lo
  ·subst he
   exact ⟨h.1 ((BE.T_iff _ _ true hc).2 (by simp)),by rw [hc];simp⟩
  ·exact ih (lo+1) (h.2 ((BE.T_iff _ _ false hc).2 (by simp [he])))
theorem mP {f:S->T} {K:PE->gA->Prop}:∀(l:List BE) (s:S),av P V s B w->eh SP (md f s l) V.toPE K->∃s',av P V s' B w/\eh SP (f s') V.toPE K:=by
 intro l
 induction l with
 | nil=>intro s hR h;exact ⟨s,hR,h⟩
 | cons c l ih =>
  intro s hR h
  simp only [md] at h
  split at h
  ·exact ⟨s,hR,h⟩
  ·exact ih s hR h
  ·simp only [eh] at h
   cases hc:c.val V.σ V.β with
   | none=>rw [hc] at h;exact h.elim
   | some z=>
    rw [hc] at h
    cases z with
    | true=>exact ⟨_,gk c true s hR hc,h.1 ((BE.T_iff _ _ true hc).2 rfl)⟩
    | false=>exact ih _ (gk c false s hR hc) (h.2 ((BE.T_iff _ _ false hc).2 rfl))
theorem yT {ih:Ih} {lv:Lv} {m:Nat} (hI:kC P g SP ih m) (hS:eO P g SP) (hG:cv P g) (hF:mZ F) (hL:ip V lv) (hR:av P V s B w) (hA:aN V a A) {i:Nat} {o:Oper} (ho:ops[i]? = some o) (hw:Region.wanted o (yielded ops A.tmps)=true)
  {K:PE->gA->Prop} (h:eh SP (JL ih lv g a s o) V.toPE K) (hE:∀pe n,¬K pe (.err n)) {K2:Act->World->Prop}
  (hK:∀a' s' V' A' w',eU V V'->av P V' s' B w'->aN V' a' A'->K V'.toPE (.code .normal a' s')->K2 A' w'):wpOpIn F n P ops Q i K2 A w:=by
 unfold JL at h
 split at h
 ·rename_i d k e lo n hask
  obtain ⟨hd,hg⟩:=uD hask
  obtain ⟨z,hz,_⟩:=aC (hA.get hg)
  obtain ⟨h1,h2⟩:=tR hz hE _ _ h
  exact BF hI hS hG hF hL (gk _ true s hR h2) (hA.setI hg hz hd) ho hw h1 hE hK
 ·obtain ⟨s',hR',h'⟩:=mP _ s hR h
  exact BF hI hS hG hF hL hR' hA ho hw h' hE hK
end
end
section
open Go.RowKit
abbrev CH:=List (Nat×Addr×Value)
def SH (ch:CH) (w:World):Prop:=∀i p x,(i,p,x)∈ch->w.cell? p=some x
def dt (es:List Edge):CH->CH
 | []=>[]
 | (i,c)::h=>bif cO i es then dt es h else (i,c)::dt es h
theorem nu {es:List Edge}:∀{ch:CH} {x},x∈dt es ch->x∈ch:=by
 intro ch
 induction ch with
 | nil=>intro x h;exact h
 | cons c ch ih =>
  intro x h
  obtain ⟨i,c⟩:=c
  simp only [dt] at h
  cases he:cO i es with
  | true=>rw [he] at h;exact List.mem_cons_of_mem _ (ih h)
  | false=>
   rw [he] at h
   cases h with
   | head=>exact List.mem_cons_self ..
   | tail _ h=>exact List.mem_cons_of_mem _ (ih h)
theorem qB {es:List Edge}:∀{ch ch':CH},(∀x,x∈ch'->x∈ch)->∀x,x∈dt es ch'->x∈dt es ch:=by
 intro ch ch' h
 have mem:∀(c:CH) (i:Nat) (p:Addr×Value),(i,p)∈dt es c↔(i,p)∈c/\cO i es=false:=by
  intro c
  induction c with
  | nil=>intro i p;simp [dt]
  | cons y c ih =>
   intro i p
   obtain ⟨j,q⟩:=y
   simp only [dt]
   cases he:cO j es with
   | true =>
    simp only [cond_true,ih,List.mem_cons,Prod.mk.injEq]
    constructor
    ·rintro ⟨h1,h2⟩;exact ⟨.inr h1,h2⟩
    ·rintro ⟨h1 | h1,h2⟩
     ·rw [h1.1,he] at h2;cases h2
     ·exact ⟨h1,h2⟩
   | false =>
    simp only [cond_false,List.mem_cons,Prod.mk.injEq,ih]
    constructor
    ·rintro (h1 | ⟨h1,h2⟩)
     ·exact ⟨.inl h1,by rw [h1.1];exact he⟩
     ·exact ⟨.inr h1,h2⟩
    ·rintro ⟨h1 | h1,h2⟩
     ·exact .inl h1
     ·exact .inr ⟨h1,h2⟩
 rintro ⟨i,p⟩ hx
 rw [mem] at hx ⊢
 exact ⟨h _ hx.1,hx.2⟩
theorem yk {es:List Edge} {i:Nat} (hi:cO i es=false):∀{chi ch:CH},(∀x∈chi,x.1=i)->dt es (chi++ch)=chi++dt es ch:=by
 intro chi
 induction chi with
 | nil=>intro ch _;rfl
 | cons c chi ih=>
  intro ch h
  obtain ⟨j,c⟩:=c
  have hj:j=i:=h (j,c) (by simp)
  subst hj
  simp only [List.cons_append,dt,hi,cond_false]
  rw [ih (fun x hx=>h x (by simp [hx]))]
section
variable {P:Program} {F:Fence} {n:Nat} {ops:Array Oper} {Q:Exit->Act->World->Prop}
theorem EB {α:Type}:∀(l:List α) (k:Nat),aA l k=l[k]? := cJ
def nk (ops:Array Oper) (listed:Array Bool):Prop:=∀j o,ops[j]? = some o->listed.getD j false=true->∀e∈o.after,Region.binds .any e=true->listed.getD e.on false=true
theorem nk.set {listed:Array Bool} {i:Nat} (h:nk ops listed) (hi:i∈Region.ready .any ops listed):nk ops (listed.setIfInBounds i true):=by
 intro j o ho hj e he hb
 obtain ⟨h0,oi,hoi,hall⟩:=mem_ready.1 hi
 by_cases hji:j=i
 ·subst hji
  have:o=oi:=Option.some.inj (ho.symm.trans hoi)
  subst this
  exact getD_set_true (hall e he hb)
 ·rw [getD_set_ne false (Ne.symm hji)] at hj
  exact getD_set_true (h j o ho hj e he hb)
def gQ (F:Fence) (n:Nat) (P:Program) (ops:Array Oper) (Q:Exit->Act->World->Prop):Nat->Array Bool->CH->Act->World->Prop
 | 0,listed,_,a,w=>nk ops listed->Region.ready .any ops listed=[]/\Q .normal a w
 | fuel+1,listed,ch,a,w=>nk ops listed->
  (Region.ready .any ops listed=[]->Q .normal a w)/\
  ∀i∈Region.ready .any ops listed,∀o,ops[i]? = some o->wpOpIn F n P ops Q i (fun a' w'=>SH (dt (fj ops.toList o) ch) w'/\gQ F n P ops Q fuel (listed.setIfInBounds i true) (dt (fj ops.toList o) ch) a' w') a w
theorem uc:∀(fuel:Nat) (listed:Array Bool) (ch:CH) (a:Act) (w:World),nk ops listed->gQ F n P ops Q fuel listed ch a w->wpAnyIn F n P .any ops Q fuel listed a w
 | 0,_,_,_,_,hc,h=>h hc
 | fuel+1,listed,ch,a,w,hc,h=>⟨(h hc).1,fun i hi=>by
  obtain ⟨_,o,ho,_⟩:=mem_ready.1 hi
  exact wpOpIn_mono (fun a' w' h'=>uc fuel _ _ a' w' (hc.set hi) h'.2) ((h hc).2 i hi o ho)⟩
theorem ua:∀(fuel:Nat) (listed:Array Bool) (ch ch':CH) (a:Act) (w:World),(∀x,x∈ch'->x∈ch)->gQ F n P ops Q fuel listed ch a w->gQ F n P ops Q fuel listed ch' a w
 | 0,_,_,_,_,_,_,h=>h
 | fuel+1,listed,ch,ch',a,w,hs,h=>fun hc=>⟨(h hc).1,fun i hi o ho=>
  wpOpIn_mono (fun a' w' h'=>⟨fun i p x hx=>h'.1 i p x (qB hs _ hx),ua fuel _ _ _ a' w' (qB hs) h'.2⟩) ((h hc).2 i hi o ho)⟩
def fh (P:Program) (ops:Array Oper) (chi:CH) (o:Oper) (v:Value) (a:Act):Prop:=
 (Region.wanted o (yielded ops a.tmps)=true/\∀w,SH chi w->(execOp a.eval o).run P w = .ok (.value v) w)\/
 (Region.wanted o (yielded ops a.tmps)=false/\v=undef)
theorem fh.of_same {chi:CH} {o:Oper} {v:Value} {a a':Act} (hy:fh P ops chi o v a) (he:execOp a'.eval o=execOp a.eval o)
  (hw:Region.wanted o (yielded ops a'.tmps)=Region.wanted o (yielded ops a.tmps)):fh P ops chi o v a':=by
 unfold fh at *;rw [he,hw];exact hy
theorem fh.wpOpIn {chi:CH} {i:Nat} {o:Oper} {v:Value} {a:Act} (hF:mZ F) (hd:∀c,o.op≠ .defer c) (hi:ops[i]? = some o) (hy:fh P ops chi o v a)
  {K:Act->World->Prop} {w:World} (hs:SH chi w) (h:K (a.put o.dst v) w):wpOpIn F n P ops Q i K a w:=by
 unfold Go.wpOpIn
 simp only [hi]
 rcases hy with ⟨hw,hv⟩ | ⟨hw,rfl⟩
 ·simp only [hw,if_true,Oper.wpIn,Oper.semAt_eq _ _ _ hd,hv w hs,Oper.uponIn];exact ⟨fun f _=>hF.1 f,h⟩
 ·simp only [hw,Bool.false_eq_true,if_false];exact ⟨fun f _=>hF.1 f,h⟩
theorem xX {chi:CH} {j:Nat} {oi oj:Oper} {v:Value} (hF:mZ F) (hj:ops[j]? = some oj)
  (h1:∀d,oi.dst=some d->d ∉ oj.looksAt ops) (h2:∀d,oi.dst=some d->oj.dst≠some d) (h3:∀d,oj.dst=some d->d ∉ oi.looksAt ops)
  (hsi:∀cs b,oi.op≠ .select cs b) (hsj:∀cs b,oj.op≠ .select cs b) (hdj:∀c,oj.op≠ .defer c)
  (hQ:∀c a w,¬Q (.panic c) a w) {K:Act->World->Prop} {a:Act} {w:World}
  (hy:fh P ops chi oi v a) (h:wpOpIn F n P ops Q j K (a.put oi.dst v) w) :
  wpOpIn F n P ops Q j (fun a' w'=>fh P ops chi oi v a'/\K (a'.put oi.dst v) w') a w:=by
 have keep:∀(a:Act),fh P ops chi oi v a->∀u,fh P ops chi oi v (a.put oj.dst u):=fun a hy u=>
  hy.of_same (execOp_put oi hsi a oj.dst u h3) (wanted_put oi a oj.dst u h3)
 unfold wpOpIn at *
 simp only [hj] at *
 rw [wanted_put oj a oi.dst v h1] at h
 split
 ·rename_i hw
  simp only [hw,if_true] at h
  unfold Oper.wpIn at *
  refine ⟨fun f _=>hF.1 f,?_⟩
  have h:=h.2
  rw [Oper.semAt_eq _ _ _ hdj,execOp_put oj hsj a oi.dst v h1] at h
  rw [Oper.semAt_eq _ _ _ hdj]
  generalize (execOp a.eval oj).run P w=r at *
  cases r with
  | ok x w' =>
   cases x<;>simp only [Oper.uponIn] at h ⊢
   case value u=>exact ⟨keep a hy u,by rw [<-Act.put_comm a v u h2];exact h⟩
   case skip=>exact ⟨keep a hy _,by rw [<-Act.put_comm a v undef h2];exact h⟩
   case defer d=>
    refine ⟨?_,?_⟩
    ·have:fh P ops chi oi v { a with defers:=d::a.defers }:=hy.of_same rfl rfl
     exact keep _ this _
    ·rw [<-Act.put_comm _ v undef h2,<-Act.put_defers]
     exact h
   case enter f args=>
    refine ⟨h.1,CallsIn.mono h.2 fun e w'' he => ?_⟩
    cases e with
    | returned u=>exact ⟨keep a hy u,by rw [<-Act.put_comm a v u h2];exact he⟩
    | panicked c=>exact (hQ _ _ _ he).elim
    | outgrown=>exact he
   case row row args=>exact ⟨h.1,RowsIn.mono h.2 fun u w'' he=>⟨keep a hy u,by rw [<-Act.put_comm a v u h2];exact he⟩⟩
   case round l f tmps assign body=>
    refine ⟨h.1,RoundIn.mono h.2 fun e w'' he => ?_⟩
    cases e with
    | returned u=>exact ⟨keep a hy u,by rw [<-Act.put_comm a v u h2];exact he⟩
    | panicked c=>exact (hQ _ _ _ he).elim
    | outgrown=>exact he
  | halt x w'=>
   cases x<;>simp only [Oper.uponIn] at h ⊢
   case panic u=>exact (hQ _ _ _ h).elim
 ·rename_i hw
  simp only [hw] at h
  exact ⟨fun f _=>hF.1 f,keep a hy _,by rw [<-Act.put_comm a v undef h2];exact h.2⟩
theorem pG (e:Edge):pF e=Region.binds .any e:=by
 unfold pF Region.binds
 cases e.ground<;>rfl
theorem nG {i:Nat}:∀{es:List Edge},cO i es=true↔∃e∈es,Region.binds .any e=true/\e.on=i:=by
 intro es
 induction es with
 | nil=>simp [cO]
 | cons e es ih =>
  simp only [cO,Bool.or_eq_true,Bool.and_eq_true,bt,decide_eq_true_eq,ih,pG,List.mem_cons]
  constructor
  ·rintro (h | ⟨e',h1,h2⟩)
   ·exact ⟨e,.inl rfl,h⟩
   ·exact ⟨e',.inr h1,h2⟩
  ·rintro ⟨e',h1 | h1,h2⟩
   ·subst h1;exact .inl h2
   ·exact .inr ⟨e',h1,h2⟩
theorem G7 {all:List Oper}:∀{es:List Edge} {e:Edge},e∈Jh all es->∃e0∈es,Region.binds .any e0=true/\∃o,all[e0.on]? = some o/\e∈o.after.toList:=by
 intro es
 induction es with
 | nil=>intro e h;cases h
 | cons e0 es ih =>
  intro e h
  have tail:e∈Jh all es->∃e1∈e0::es,Region.binds .any e1=true/\∃o,all[e1.on]? = some o/\e∈o.after.toList:=fun h=>by
   obtain ⟨e1,h1,h2⟩:=ih h
   exact ⟨e1,List.mem_cons_of_mem _ h1,h2⟩
  simp only [Jh] at h
  cases hb:pF e0 with
  | false=>rw [hb] at h;exact tail h
  | true =>
   rw [hb] at h;simp only [cond_true] at h
   split at h
   ·rename_i o ho
    rw [EB] at ho
    rcases List.mem_append.1 h with h | h
    ·exact ⟨e0,List.mem_cons_self ..,by rw [<-pG];exact hb,o,ho,h⟩
    ·exact tail h
   ·exact tail h
theorem zZ {listed:Array Bool} (hc:nk ops listed):∀(f:Nat) (es:List Edge),(∀e∈es,Region.binds .any e=true->listed.getD e.on false=true)->∀e∈JX ops.toList f es,Region.binds .any e=true->listed.getD e.on false=true:=by
 intro f
 induction f with
 | zero=>intro es h;exact h
 | succ f ih =>
  intro es h e he hb
  simp only [JX,List.mem_append] at he
  rcases he with he | he
  ·exact h e he hb
  ·refine ih _ (fun e1 h1 hb1 => ?_) e he hb
   obtain ⟨e0,h0,hb0,o,ho,hm⟩:=G7 h1
   have ho':ops[e0.on]? = some o:=by simpa using ho
   exact hc _ o ho' (h e0 h0 hb0) e1 (by simpa using hm) hb1
theorem lb {i:Nat} {oi:Oper} {v:Value} {chi:CH} (hF:mZ F) (hi:ops[i]? = some oi) (hsel:∀(j:Nat) (o:Oper),ops[j]? = some o->(∀cs b,o.op≠ .select cs b)/\∀c,o.op≠ .defer c)
  (hQ:∀c a w,¬Q (.panic c) a w) (hidx:∀x∈chi,x.1=i)
  (hfree:∀j oj,ops[j]? = some oj->j≠i->cO i oj.after.toList=true\/cO j oi.after.toList=true\/((∀d,oi.dst=some d->d ∉ oj.looksAt ops)/\(∀d,oi.dst=some d->oj.dst≠some d)/\(∀d,oj.dst=some d->d ∉ oi.looksAt ops))) :
  ∀(fuel:Nat) (listed:Array Bool) (ch:CH) (a:Act) (w:World),
   i∈Region.ready .any ops listed->fh P ops chi oi v a->SH (chi++ch) w->
   gQ F n P ops Q fuel (listed.setIfInBounds i true) (chi++ch) (a.put oi.dst v) w->gQ F n P ops Q (fuel+1) listed ch a w:=by
 intro fuel
 induction fuel with
 | zero =>
  intro listed ch a w hr hy hS H hc
  have H':=H (hc.set hr)
  refine ⟨fun h=>(by rw [h] at hr;cases hr),fun j hj oj hoj => ?_⟩
  by_cases hji:j=i
  ·subst hji
   have:oi=oj:=Option.some.inj (hi.symm.trans hoj)
   subst this
   exact hy.wpOpIn hF (hsel _ _ hi).2 hi (fun i p x hx=>hS i p x (List.mem_append_left _ hx)) ⟨fun i p x hx=>hS i p x (List.mem_append_right _ (nu hx)),H⟩
  ·have:=ready_mono hj hji
   rw [H'.1] at this
   cases this
 | succ fuel ih =>
  intro listed ch a w hr hy hS H hc
  refine ⟨fun h=>(by rw [h] at hr;cases hr),fun j hj oj hoj => ?_⟩
  by_cases hji:j=i
  ·subst hji
   have:oi=oj:=Option.some.inj (hi.symm.trans hoj)
   subst this
   exact hy.wpOpIn hF (hsel _ _ hi).2 hi (fun i p x hx=>hS i p x (List.mem_append_left _ hx)) ⟨fun i p x hx=>hS i p x (List.mem_append_right _ (nu hx)),ua _ _ _ _ _ _ (fun x hx=>List.mem_append_right _ (nu hx)) H⟩
  ·have h1:=(H (hc.set hr)).2 j (ready_mono hj hji) oj hoj
   obtain ⟨hjun,oj',hoj',hall⟩:=mem_ready.1 hj
   have:oj=oj':=Option.some.inj (hoj.symm.trans hoj')
   subst this
   have hnot:cO i oj.after.toList=false:=by
    cases he:cO i oj.after.toList with
    | false=>rfl
    | true=>
     exfalso
     obtain ⟨e,he1,hb,heq⟩:=nG.1 he
     have h1:=hall e (by simpa using he1) hb
     have h0:=(mem_ready.1 hr).1
     rw [heq] at h1
     rcases Nat.lt_or_ge i listed.size with h' | h'
     ·simp [h'] at h0 h1;rw [h0] at h1;cases h1
     ·simp [Array.getElem?_eq_none h'] at h1
   have hnotA:cO i (fj ops.toList oj)=false:=by
    cases he:cO i (fj ops.toList oj) with
    | false=>rfl
    | true=>
     exfalso
     obtain ⟨e,he1,hb,heq⟩:=nG.1 he
     have h1:=zZ hc _ _ (fun e h hb=>hall e (by simpa using h) hb) e he1 hb
     have h0:=(mem_ready.1 hr).1
     rw [heq] at h1
     rcases Nat.lt_or_ge i listed.size with h' | h'
     ·simp [h'] at h0 h1;rw [h0] at h1;cases h1
     ·simp [Array.getElem?_eq_none h'] at h1
   have hnot2:cO j oi.after.toList=false:=by
    cases he:cO j oi.after.toList with
    | false=>rfl
    | true=>
     exfalso
     obtain ⟨e,he1,hb,heq⟩:=nG.1 he
     obtain ⟨_,oi',hoi',halli⟩:=mem_ready.1 hr
     have:oi=oi':=Option.some.inj (hi.symm.trans hoi')
     subst this
     have h1:=halli e (by simpa using he1) hb
     rw [heq] at h1
     rcases Nat.lt_or_ge j listed.size with h' | h'
     ·simp [h'] at hjun h1;rw [hjun] at h1;cases h1
     ·simp [Array.getElem?_eq_none h'] at h1
   obtain ⟨f1,f2,f3⟩:=((hfree j oj hoj hji).resolve_left (by rw [hnot];simp)).resolve_left (by rw [hnot2];simp)
   have h2:=xX hF hoj f1 f2 f3 (hsel _ _ hi).1 (hsel _ _ hoj).1 (hsel _ _ hoj).2 hQ hy h1
   refine wpOpIn_mono (fun a' w' h3 => ?_) h2
   obtain ⟨k1,k2,k3⟩:=h3
   rw [yk hnotA hidx] at k2 k3
   refine ⟨fun i p x hx=>k2 i p x (List.mem_append_right _ hx),ih (listed.setIfInBounds j true) _ a' w' (ready_mono hr (Ne.symm hji)) k1 k2 ?_⟩
   rw [Array.setIfInBounds_comm _ _ hji]
   exact k3
end
def kA (V:az):eV->CH->Prop
 | [],[]=>True
 | (i,.own id off v)::h,(j,p,x)::ch=>i=j/\(∃q,V.E id=some q/\p=⟨q.1,off,none⟩)/\v.conc V=some x/\kA V h ch
 | (i,.ext a r off)::h,(j,p,x)::ch=>i=j/\lw V a r off p x/\kA V h ch
 | _,_=>False
theorem lw.up {V V':az} {a:Nat} {r:Option Nat} {off:IE} {p:Addr} {x:Value} (h:lw V a r off p x) (k:eU V V'):lw V' a r off p x:=by
 obtain ⟨q,o,h2,h3,h4,h5⟩:=h
 refine ⟨q,o,fp k.up.τ h2,bP k.up.σ h3,h4,?_⟩
 cases r with
 | none=>exact fI k.up.mem h5
 | some r=>obtain ⟨l,k1,k2⟩:=h5;exact ⟨l,k.up.ρ _ _ k1,k2⟩
theorem kA.mono {V V':az} (k:eU V V'):∀{h:eV} {ch:CH},kA V h ch->kA V' h ch:=by
 intro h
 induction h with
 | nil=>intro ch hh;cases ch<;>first | trivial | exact hh.elim
 | cons c h ih =>
  intro ch hh
  obtain ⟨i,c⟩:=c
  cases ch with
  | nil=>cases c<;>exact hh.elim
  | cons d ch =>
   obtain ⟨j,p,x⟩:=d
   cases c with
   | own id off v=>
    obtain ⟨h1,⟨q,h2,h3⟩,h4,h5⟩:=hh
    exact ⟨h1,⟨q,k.E _ _ h2,h3⟩,aF k _ _ h4,ih h5⟩
   | ext a r off=>
    obtain ⟨h1,h2,h6⟩:=hh
    exact ⟨h1,h2.up k,ih h6⟩
theorem kA.drop {V:az} (es:List Edge):∀{h:eV} {ch:CH},kA V h ch->kA V (bD es h) (dt es ch):=by
 intro h
 induction h with
 | nil=>intro ch hh;cases ch<;>first | trivial | exact hh.elim
 | cons c h ih =>
  intro ch hh
  obtain ⟨i,c⟩:=c
  cases ch with
  | nil=>cases c<;>exact hh.elim
  | cons d ch =>
   obtain ⟨j,p,x⟩:=d
   cases c with
   | own id off v=>
    obtain ⟨rfl,h2,h4,h5⟩:=hh
    simp only [bD,dt]
    cases cO i es with
    | true=>exact ih h5
    | false=>exact ⟨rfl,h2,h4,ih h5⟩
   | ext a r off=>
    obtain ⟨rfl,h2,h5⟩:=hh
    simp only [bD,dt]
    cases cO i es with
    | true=>exact ih h5
    | false=>exact ⟨rfl,h2,ih h5⟩
theorem kA.app {V:az}:∀{h h':eV} {ch ch':CH},kA V h ch->kA V h' ch'->kA V (h++h') (ch++ch'):=by
 intro h
 induction h with
 | nil=>intro h' ch ch' hh hh';cases ch<;>first | exact hh' | exact hh.elim
 | cons c h ih =>
  intro h' ch ch' hh hh'
  obtain ⟨i,c⟩:=c
  cases ch with
  | nil=>cases c<;>exact hh.elim
  | cons d ch=>
   obtain ⟨j,p,x⟩:=d
   cases c with
   | own id off v=>exact ⟨hh.1,hh.2.1,hh.2.2.1,ih hh.2.2.2 hh'⟩
   | ext a r off=>exact ⟨hh.1,hh.2.1,ih hh.2.2 hh'⟩
section
variable {P:Program} {g:G} {F:Fence} {n:Nat} {ops:Array Oper} {Q:Exit->Act->World->Prop}
theorem jX {V:az} {s:S} {B w:World} (hR:av P V s B w):∀{h:eV} {ch:CH},kA V h ch->eC s h=true->SH ch w:=by
 intro h
 induction h with
 | nil=>
  intro ch hh _
  cases ch with
  | nil=>intro i p x hx;cases hx
  | cons d ch=>exact hh.elim
 | cons c h ih =>
  intro ch hh hk
  obtain ⟨i,c⟩:=c
  cases ch with
  | nil=>cases c<;>exact hh.elim
  | cons d ch =>
   obtain ⟨j,p,x⟩:=d
   cases c with
   | own id off v =>
    obtain ⟨rfl,⟨q,h2,h3⟩,h4,h5⟩:=hh
    simp only [eC,Bool.and_eq_true] at hk
    intro i' p' x' hx
    cases hx with
    | head =>
     have hk1:=hk.1
     split at hk1
     ·rename_i u hu
      have:=eqb_eq _ _ hk1
      subst this
      obtain ⟨vs,e1,e2,e3⟩:=eI hR hu h2
      obtain ⟨y,r,rfl,hy,_⟩:=ag e1
      rw [h4] at hy;cases hy
      have:=e3 0 x (by simp)
      rw [h3];simpa using this
     ·cases hk1
    | tail _ hx=>exact ih h5 hk.2 i' p' x' hx
   | ext a r off =>
    obtain ⟨rfl,h2,h6⟩:=hh
    simp only [eC,Bool.and_eq_true] at hk
    intro i' p' x' hx
    cases hx with
    | head =>
     cases r with
     | none=>obtain ⟨q,o,_,_,_,h5⟩:=h2;exact tg hR h5
     | some r =>
      have hk1:=hk.1
      simp only [EU] at hk1
      split at hk1
      ·rename_i o ho
       simp only [Bool.and_eq_true,Bool.not_eq_true',bt,decide_eq_true_eq] at hk1
       have:=hk1.2
       subst this
       exact tw hR ho hk1.1 h2
      ·cases hk1
    | tail _ hx=>exact ih h6 hk.2 i' p' x' hx
theorem sS {V:az} {i id:Nat} {q:Nat×Nat} (hq:V.E id=some q):∀{l:List AV} {vs:List Value} (off:Nat),concL V l=some vs->
  kA V (sR i id off l) ((List.range' off vs.length).zip vs |>.map fun (o,x)=>(i,(⟨q.1,o,none⟩:Addr),x)):=by
 intro l
 induction l with
 | nil=>intro vs off h;cases h;trivial
 | cons y ys ih=>
  intro vs off h
  obtain ⟨v,r,rfl,hv,hr⟩:=ag h
  simp only [sR,List.length_cons,List.range'_succ,List.zip_cons_cons,List.map_cons]
  exact ⟨rfl,⟨q,hq,rfl⟩,hv,ih (off+1) hr⟩
theorem wW {α:Type}:∀(l:List α) (k j:Nat) (x:α),(j,x)∈bE k l↔k<=j/\l[j-k]? = some x:=by
 intro l
 induction l with
 | nil=>intro k j x;simp [bE]
 | cons y ys ih =>
  intro k j x
  simp only [bE,List.mem_cons,Prod.mk.injEq,ih]
  constructor
  ·rintro (⟨rfl,rfl⟩ | ⟨h1,h2⟩)
   ·simp
   ·have h1':k+1<=j:=h1
    refine ⟨by omega,?_⟩
    rw [show j-k=(j-(k+1))+1 by omega];simpa using h2
  ·rintro ⟨h1,h2⟩
   by_cases hjk:j=k
   ·subst hjk;simp at h2;exact .inl ⟨rfl,h2.symm⟩
   ·right
    have h1':k+1<=j:=by omega
    refine ⟨h1',?_⟩
    rw [show j-k=(j-(k+1))+1 by omega] at h2;simpa using h2
end
theorem Tr.eqb_eq {α:Type} {p:α->α->Bool} (hp:∀x y,p x y=true->x=y):∀(t u:Tr α),Tr.eqb p t u=true->t=u:=by
 intro t
 induction t with
 | e=>intro u h;cases u<;>first | rfl | (simp [Tr.eqb] at h)
 | n l v r ihl ihr =>
  intro u h
  cases u with
  | e=>simp [Tr.eqb] at h
  | n l' v' r'=>
   simp only [Tr.eqb,Bool.and_eq_true] at h
   obtain ⟨⟨h1,h2⟩,h3⟩:=h
   rw [ihl _ h2,ihr _ h3]
   congr 1
   cases v<;>cases v'<;>simp at h1<;>first | rfl | rw [hp _ _ h1]
theorem mJ:∀{a b:List Nat},nN a b=true->a=b:=by
 intro a
 induction a with
 | nil=>intro b h;cases b<;>first | rfl | (simp [nN] at h)
 | cons x xs ih=>intro b h;cases b<;>simp [nN] at h;rw [h.1,ih h.2]
theorem eB {l m:List AV} (h:AV.eqbL l m=true):l=m:=by
 have:=eqb_eq (.agg l) (.agg m) (by simpa [AV.eqb] using h)
 injection this
theorem B0 {a b:LoopState} (h:HI a b=true):a=b:=by cases a<;>cases b<;>first | rfl | (simp [HI] at h)
theorem Ex.eqb_eq {a b:Ex} (h:a.eqb b=true):a=b:=by
 cases a<;>cases b<;>simp [Ex.eqb] at h<;>first | rfl | rw [h]
theorem CP:∀{l m:List (AV×AV×Nat)},ef.eqb.mapEqb l m=true->l=m:=by
 intro l
 induction l with
 | nil=>intro m h;cases m<;>first | rfl | (simp [ef.eqb.mapEqb] at h)
 | cons x l ih =>
  intro m h
  obtain ⟨a,b,c⟩:=x
  cases m with
  | nil=>simp [ef.eqb.mapEqb] at h
  | cons y m=>
   obtain ⟨a',b',c'⟩:=y
   simp [ef.eqb.mapEqb] at h
   rw [eqb_eq _ _ h.1.1.1,eqb_eq _ _ h.1.1.2,h.1.2,ih h.2]
theorem ef.eqb_eq (a b:ef) (h:a.eqb b=true):a=b:=by
 cases a<;>cases b<;>simp [ef.eqb] at h<;>try rfl
 ·rw [eB h.1,h.2]
 ·rw [eB h.1,h.2]
 ·rw [eB h]
 ·rw [h.1,CP h.2]
 ·rw [B0 h.1.1.1.1,Ex.eqb_eq h.1.1.1.2,Tr.eqb_eq Vc.eqb_eq _ _ h.1.1.2,h.1.2,h.2]
theorem cL.eqb_eq {x y:cL} (h:x.eqb y=true):x=y:=by
 simp only [cL.eqb,Bool.and_eq_true,bt,decide_eq_true_eq] at h
 obtain ⟨⟨⟨⟨⟨h1,h2⟩,h3⟩,h4⟩,h5⟩,h6⟩:=h
 obtain ⟨a,r,e,l,c,m⟩:=x
 obtain ⟨a',r',e',l',c',m'⟩:=y
 simp only [beq_iff_eq] at h1 h2 h3 h4 h5 h6
 rw [h1,h2,h3,IE.eqb_eq _ _ h4,IE.eqb_eq _ _ h5,h6]
theorem uX:∀{x y:List cL},nR x y=true->x=y:=by
 intro x
 induction x with
 | nil=>intro y h;cases y<;>simp [nR] at h ⊢
 | cons o x ih=>
  intro y h
  cases y with
  | nil=>simp [nR] at h
  | cons o' y=>simp only [nR,Bool.and_eq_true] at h;rw [cL.eqb_eq h.1,ih h.2]
theorem vf {a a':A} {s s':S} (h:v7 a s a' s'=true):a=a'/\s.heap=s'.heap/\s.own=s'.own/\s.nv=s'.nv/\s.nr=s'.nr:=by
 simp only [v7,Bool.and_eq_true,bt,decide_eq_true_eq] at h
 obtain ⟨⟨⟨⟨⟨⟨h1,h2⟩,h3⟩,h4⟩,h5⟩,h6⟩,h7⟩:=h
 refine ⟨?_,Tr.eqb_eq ef.eqb_eq _ _ h4,uX h5,h6,h7⟩
 obtain ⟨t,n,m⟩:=a
 obtain ⟨t',n',m'⟩:=a'
 simp only at h1 h2 h3
 rw [h1,mJ h2,Tr.eqb_eq Vc.eqb_eq _ _ h3]
theorem D.eqb_eq (x y:D) (h:D.eqb x y=true):x=y:=by
 unfold D.eqb at h
 split at h
 ·-- openI
  simp only [Bool.and_eq_true,bt,decide_eq_true_eq,beq_iff_eq] at h
  obtain ⟨h0,h1⟩:=h
  rw [cF h0,Vc.eqb_eq _ _ h1]
 ·-- openB
  skip
  have h0:=h
  rw [Vc.eqb_eq _ _ h0]
 ·-- openS
  skip
  have h0:=h
  rw [Vc.eqb_eq _ _ h0]
 ·-- openV
  skip
  have h0:=h
  rw [Vc.eqb_eq _ _ h0]
 ·-- openSl
  simp only [Bool.and_eq_true,beq_iff_eq] at h
  obtain ⟨h0,h1⟩:=h
  rw [h0,Vc.eqb_eq _ _ h1]
 ·-- has
  simp only [Bool.and_eq_true,bt,decide_eq_true_eq,beq_iff_eq] at h
  obtain ⟨⟨h0,h1⟩,h2⟩:=h
  rw [h0,IE.eqb_eq _ _ h1,h2]
 ·-- nn
  simp only [Bool.and_eq_true,bt,decide_eq_true_eq,beq_iff_eq] at h
  have h0:=h
  rw [h0]
 ·-- arith
  simp only [Bool.and_eq_true,bt,decide_eq_true_eq,beq_iff_eq] at h
  obtain ⟨⟨⟨h0,h1⟩,h2⟩,h3⟩:=h
  rw [h0,cF h1,IE.eqb_eq _ _ h2,IE.eqb_eq _ _ h3]
 ·-- wrap
  simp only [Bool.and_eq_true,bt,decide_eq_true_eq,beq_iff_eq] at h
  obtain ⟨h0,h1⟩:=h
  rw [cF h0,IE.eqb_eq _ _ h1]
 ·-- cut
  simp only [Bool.and_eq_true,bt,decide_eq_true_eq,beq_iff_eq] at h
  obtain ⟨⟨⟨h0,h1⟩,h2⟩,h3⟩:=h
  rw [IE.eqb_eq _ _ h0,IE.eqb_eq _ _ h1,IE.eqb_eq _ _ h2,h3]
 ·-- nat
  skip
  have h0:=h
  rw [IE.eqb_eq _ _ h0]
 ·-- pick
  simp only [Bool.and_eq_true,bt,decide_eq_true_eq,beq_iff_eq] at h
  obtain ⟨⟨⟨h0,h1⟩,h2⟩,h3⟩:=h
  rw [cF h0,BE.eqb_eq _ _ h1,IE.eqb_eq _ _ h2,IE.eqb_eq _ _ h3]
 ·-- mm
  simp only [Bool.and_eq_true,bt,decide_eq_true_eq,beq_iff_eq] at h
  obtain ⟨⟨⟨h0,h1⟩,h2⟩,h3⟩:=h
  rw [h0,cF h1,IE.eqb_eq _ _ h2,IE.eqb_eq _ _ h3]
 ·-- seq
  simp only [Bool.and_eq_true,bt,decide_eq_true_eq,beq_iff_eq] at h
  obtain ⟨h0,h1⟩:=h
  rw [Vc.eqb_eq _ _ h0,Vc.eqb_eq _ _ h1]
 ·-- slen
  skip
  have h0:=h
  rw [Vc.eqb_eq _ _ h0]
 ·-- sidx
  simp only [Bool.and_eq_true,bt,decide_eq_true_eq,beq_iff_eq] at h
  obtain ⟨h0,h1⟩:=h
  rw [Vc.eqb_eq _ _ h0,IE.eqb_eq _ _ h1]
 ·-- scat
  simp only [Bool.and_eq_true,bt,decide_eq_true_eq,beq_iff_eq] at h
  obtain ⟨h0,h1⟩:=h
  rw [Vc.eqb_eq _ _ h0,Vc.eqb_eq _ _ h1]
 ·-- ssub
  simp only [Bool.and_eq_true,bt,decide_eq_true_eq,beq_iff_eq] at h
  obtain ⟨⟨h0,h1⟩,h2⟩:=h
  rw [Vc.eqb_eq _ _ h0,IE.eqb_eq _ _ h1,IE.eqb_eq _ _ h2]
 ·-- rhas
  simp only [Bool.and_eq_true,bt,decide_eq_true_eq,beq_iff_eq] at h
  obtain ⟨⟨h0,h1⟩,h2⟩:=h
  rw [h0,IE.eqb_eq _ _ h1,h2]
 ·-- rset
  simp only [Bool.and_eq_true,bt,decide_eq_true_eq,beq_iff_eq] at h
  obtain ⟨⟨h0,h1⟩,h2⟩:=h
  rw [h0,IE.eqb_eq _ _ h1,eB h2]
 ·-- mk
  simp only [Bool.and_eq_true,bt,decide_eq_true_eq,beq_iff_eq] at h
  obtain ⟨h0,h1⟩:=h
  rw [IE.eqb_eq _ _ h0,eB h1]
 ·-- rapp
  simp only [Bool.and_eq_true,bt,decide_eq_true_eq,beq_iff_eq] at h
  obtain ⟨⟨⟨⟨h0,h1⟩,h2⟩,h3⟩,h4⟩:=h
  rw [h0,IE.eqb_eq _ _ h1,h2,h3,eB h4]
 ·-- frz
  simp only [Bool.and_eq_true,bt,decide_eq_true_eq,beq_iff_eq] at h
  obtain ⟨h0,h1⟩:=h
  rw [h0,h1]
 ·-- pub
  skip
  have h0:=h
  rw [eB h0]
 ·-- pubc
  skip
  have h0:=h
  rw [eB h0]
 ·-- mrow
  simp only [Bool.and_eq_true,bt,decide_eq_true_eq,beq_iff_eq] at h
  obtain ⟨⟨⟨h0,h1⟩,h2⟩,h3⟩:=h
  rw [h0,IE.eqb_eq _ _ h1,IE.eqb_eq _ _ h2,h3]
 ·-- grow
  simp only [Bool.and_eq_true,bt,decide_eq_true_eq,beq_iff_eq] at h
  obtain ⟨⟨⟨h0,h1⟩,h2⟩,h3⟩:=h
  rw [h0,h1,IE.eqb_eq _ _ h2,h3]
 ·-- growk
  simp only [Bool.and_eq_true,bt,decide_eq_true_eq,beq_iff_eq] at h
  obtain ⟨⟨⟨h0,h1⟩,h2⟩,h3⟩:=h
  rw [h0,eB h1,IE.eqb_eq _ _ h2,h3]
 ·-- zn
  simp only [Bool.and_eq_true,bt,decide_eq_true_eq,beq_iff_eq] at h
  obtain ⟨h0,h1⟩:=h
  rw [h0,IE.eqb_eq _ _ h1]
 ·-- nul
  simp only [bt,decide_eq_true_eq] at h
  rw [h]
 ·-- rtk
  simp only [Bool.and_eq_true,bt,decide_eq_true_eq,beq_iff_eq] at h
  obtain ⟨⟨h0,h1⟩,h2⟩:=h
  rw [h0,IE.eqb_eq _ _ h1,h2]
 ·-- mget
  simp only [Bool.and_eq_true,bt,decide_eq_true_eq,beq_iff_eq] at h
  obtain ⟨⟨⟨h0,h1⟩,h2⟩,h3⟩:=h
  rw [h0,h1,Vc.eqb_eq _ _ h2,eB h3]
 ·-- mset
  simp only [Bool.and_eq_true,bt,decide_eq_true_eq,beq_iff_eq] at h
  obtain ⟨⟨h0,h1⟩,h2⟩:=h
  rw [h0,Vc.eqb_eq _ _ h1,Vc.eqb_eq _ _ h2]
 ·-- mdel
  simp only [Bool.and_eq_true,bt,decide_eq_true_eq,beq_iff_eq] at h
  obtain ⟨h0,h1⟩:=h
  rw [h0,Vc.eqb_eq _ _ h1]
 ·-- mnew
  rfl
 ·-- zrow
  simp only [Bool.and_eq_true] at h
  obtain ⟨h0,h1⟩:=h
  rw [IE.eqb_eq _ _ h0,eB h1]
 ·-- rdrp
  simp only [Bool.and_eq_true,bt,decide_eq_true_eq,beq_iff_eq] at h
  obtain ⟨⟨⟨h0,h1⟩,h2⟩,h3⟩:=h
  rw [h0,IE.eqb_eq _ _ h1,h2,eB h3]
 ·-- sbytes
  rw [Vc.eqb_eq _ _ h]
 ·-- bstr
  rw [eB h]
 ·cases h
theorem aX.eqb_eq (x y:aX) (h:aX.eqb x y=true):x=y:=by
 unfold aX.eqb at h
 split at h
 ·rw [BE.eqb_eq _ _ h]
 ·rw [D.eqb_eq _ _ h]
 ·cases h
theorem CZ:∀{x y:List aX},qh x y=true->x=y:=by
 intro x
 induction x with
 | nil=>intro y h;cases y<;>simp [qh] at h ⊢
 | cons o x ih=>
  intro y h
  cases y with
  | nil=>simp [qh] at h
  | cons o' y=>simp only [qh,Bool.and_eq_true] at h;rw [aX.eqb_eq _ _ h.1,ih h.2]
theorem C7:∀{x y:List (Int×Int)},ql x y=true->x=y:=by
 intro x
 induction x with
 | nil=>intro y h;cases y<;>simp [ql] at h ⊢
 | cons o x ih =>
  intro y h
  cases y with
  | nil=>simp [ql] at h
  | cons o' y=>
   simp only [ql,Bool.and_eq_true,decide_eq_true_eq] at h
   rw [ih h.2]
   exact congrArg (· ::y) (Prod.ext h.1.1 h.1.2)
theorem uH:∀{x y:List (IE×IE×Bool)},nA x y=true->x=y:=by
 intro x
 induction x with
 | nil=>intro y h;cases y<;>simp [nA] at h ⊢
 | cons o x ih =>
  intro y h
  cases y with
  | nil=>simp [nA] at h
  | cons o' y=>
   simp only [nA,Bool.and_eq_true,beq_iff_eq] at h
   rw [ih h.2]
   exact congrArg (· ::y) (Prod.ext (IE.eqb_eq _ _ h.1.1.1) (Prod.ext (IE.eqb_eq _ _ h.1.1.2) h.1.2))
theorem yJ:∀{x y:List (AV×AV)},mI x y=true->x=y:=by
 intro x
 induction x with
 | nil=>intro y h;cases y<;>simp [mI] at h ⊢
 | cons o x ih =>
  intro y h
  cases y with
  | nil=>simp [mI] at h
  | cons o' y=>
   simp only [mI,Bool.and_eq_true] at h
   rw [ih h.2]
   exact congrArg (· ::y) (Prod.ext (eqb_eq _ _ h.1.1) (eqb_eq _ _ h.1.2))
theorem A.eqb_eq {a a':A} (h:A.eqb a a'=true):a=a':=by
 simp only [A.eqb,Bool.and_eq_true,bt,decide_eq_true_eq] at h
 obtain ⟨⟨h1,h2⟩,h3⟩:=h
 obtain ⟨t,n,m⟩:=a
 obtain ⟨t',n',m'⟩:=a'
 simp only at h1 h2 h3
 rw [h1,mJ h2,Tr.eqb_eq Vc.eqb_eq _ _ h3]
theorem S.eqb_eq {s s':S} (h:S.eqb s s'=true):s=s':=by
 simp only [S.eqb,Bool.and_eq_true,bt,decide_eq_true_eq] at h
 obtain ⟨⟨⟨⟨⟨⟨⟨⟨⟨⟨h1,h2⟩,h3⟩,h4⟩,h5⟩,h6⟩,h7⟩,h8⟩,h9⟩,h10⟩,h11⟩:=h
 obtain ⟨hp,nx,⟨r,l,e⟩,b,n2,v,w,mm,ow⟩:=s
 obtain ⟨hp',nx',⟨r',l',e'⟩,b',n2',v',w',mm',ow'⟩:=s'
 simp only at h1 h2 h3 h4 h5 h6 h7 h8 h9 h10 h11
 rw [Tr.eqb_eq ef.eqb_eq _ _ h1,h2,C7 h3,uH h4,uH h5,h6,h7,h8,h9,yJ h10,uX h11]
theorem T.eqb_eq:∀(x y:T),T.eqb x y=true->x=y:=by
 intro x
 induction x with
 | out o =>
  intro y h
  cases y<;>try (simp [T.eqb] at h;done)
  rename_i o'
  cases o<;>cases o'<;>try (simp [T.eqb] at h;done)
  ·rename_i e a s e' a' s'
   cases e<;>cases e'<;>simp [T.eqb] at h
   rw [A.eqb_eq h.1,S.eqb_eq h.2]
  ·rename_i n m
   have e:n=m:=by simpa [T.eqb] using h
   rw [e]
 | ite c x y ih1 ih2=>
  intro z h
  cases z<;>simp only [T.eqb,Bool.and_eq_true] at h<;>first | (cases h;done) | skip
  rw [BE.eqb_eq _ _ h.1.1,ih1 _ h.1.2,ih2 _ h.2]
 | pre p x ih=>
  intro z h
  cases z<;>simp only [T.eqb,Bool.and_eq_true] at h<;>first | (cases h;done) | skip
  rw [CZ h.1,ih _ h.2]
 | spec k l x ih=>
  intro z h
  cases z<;>simp only [T.eqb,Bool.and_eq_true,bt,decide_eq_true_eq] at h<;>first | (cases h;done) | skip
  rw [h.1.1,eB h.1.2,ih _ h.2]
 | loop ks i b f ih1 ih2=>intro z h;cases z<;>simp [T.eqb] at h
theorem Db {x:T} {f:Nat->Oper->T}:∀{l:List (Nat×Oper)},xI x f l=true->∀j o,(j,o)∈l->x=f j o:=by
 intro l
 induction l with
 | nil=>intro _ j o h;cases h
 | cons p l ih=>
  obtain ⟨i,q⟩:=p
  intro h j o hm
  simp only [xI,Bool.and_eq_true] at h
  cases hm with
  | head=>exact T.eqb_eq _ _ h.1
  | tail _ hm=>exact ih h.2 j o hm
def pz (ops:Array Oper) (mask:Nat) (listed:Array Bool):Prop:=listed.size=ops.size/\∀i,listed.getD i false=Nat.testBit mask i
section
variable {ops:Array Oper} {mask:Nat} {listed:Array Bool}
theorem ij {i:Nat} (hi:i<ops.size) (h:pz ops mask listed):pz ops (Nat.lor mask (Nat.shiftLeft 1 i)) (listed.setIfInBounds i true):=by
 refine ⟨by simp [h.1],fun j => ?_⟩
 have e:Nat.testBit (Nat.lor mask (Nat.shiftLeft 1 i)) j=(Nat.testBit mask j||decide (j=i)):=by
  show Nat.testBit (mask ||| (1 <<< i)) j=_
  rw [Nat.testBit_or,Nat.testBit_shiftLeft]
  by_cases hj:j=i
  ·subst hj;simp
  ·by_cases hg:j ≥ i
   ·have:j-i≠0:=by omega
    simp [hj,hg,Nat.testBit_one_eq_true_iff_self_eq_zero,this]
   ·simp [hj,hg]
 rw [e,<-h.2 j]
 by_cases hj:j=i
 ·subst hj
  have:j<listed.size:=by rw [h.1];exact hi
  simp [this]
 ·rw [getD_set_ne false (fun e=>hj e.symm)];simp [hj]
theorem si:∀{es:List Edge},nF mask es=true↔∀e∈es,Region.binds .any e=true->Nat.testBit mask e.on=true:=by
 intro es
 induction es with
 | nil=>simp [nF]
 | cons e es ih =>
  simp only [nF,Bool.and_eq_true,Bool.or_eq_true,Bool.not_eq_true',ih,pG,List.mem_cons]
  constructor
  ·rintro ⟨h1,h2⟩ e' (rfl | h)
   ·intro hb;rcases h1 with h1 | h1
    ·rw [h1] at hb;cases hb
    ·exact h1
   ·exact h2 e' h
  ·intro h
   refine ⟨?_,fun e' he=>h e' (.inr he)⟩
   cases hb:Region.binds .any e with
   | false=>exact .inl rfl
   | true=>exact .inr (h e (.inl rfl) hb)
theorem dH {i:Nat} {o:Oper}:∀{l:List (Nat×Oper)},(i,o)∈gq mask l↔(i,o)∈l/\Nat.testBit mask i=false/\nF mask o.after.toList=true:=by
 intro l
 induction l with
 | nil=>simp [gq]
 | cons x l ih =>
  obtain ⟨j,p⟩:=x
  simp only [gq]
  cases c:(!Nat.testBit mask j&&nF mask p.after.toList) with
  | true =>
   simp only [cond_true,List.mem_cons,Prod.mk.injEq,ih]
   simp only [Bool.and_eq_true,Bool.not_eq_true'] at c
   constructor
   ·rintro (⟨rfl,rfl⟩ | ⟨h1,h2⟩)
    ·exact ⟨.inl ⟨rfl,rfl⟩,c⟩
    ·exact ⟨.inr h1,h2⟩
   ·rintro ⟨⟨rfl,rfl⟩ | h1,h2⟩
    ·exact .inl ⟨rfl,rfl⟩
    ·exact .inr ⟨h1,h2⟩
  | false =>
   simp only [cond_false,List.mem_cons,Prod.mk.injEq,ih]
   constructor
   ·rintro ⟨h1,h2⟩;exact ⟨.inr h1,h2⟩
   ·rintro ⟨⟨rfl,rfl⟩ | h1,h2⟩
    ·exfalso;rw [h2.1,h2.2] at c;simp at c
    ·exact ⟨h1,h2⟩
theorem eH {i:Nat} {o:Oper}:(i,o)∈bE 0 ops.toList↔ops[i]? = some o:=by
 rw [wW];simp
theorem cW (h:pz ops mask listed) {i:Nat}:i∈Region.ready .any ops listed↔∃o,(i,o)∈gq mask (bE 0 ops.toList):=by
 rw [mem_ready]
 have key:∀o,ops[i]? = some o->(listed.getD i true=false↔Nat.testBit mask i=false):=by
  intro o ho
  have hlt:i<listed.size:=by rw [h.1];exact (Array.getElem?_eq_some_iff.1 ho).1
  rw [<-h.2 i]
  simp [hlt]
 constructor
 ·rintro ⟨h1,o,h2,h3⟩
  refine ⟨o,dH.2 ⟨eH.2 h2,(key o h2).1 h1,si.2 fun e he hb => ?_⟩⟩
  rw [<-h.2];exact h3 e (by simpa using he) hb
 ·rintro ⟨o,ho⟩
  obtain ⟨h1,h2,h3⟩:=dH.1 ho
  have h1':=eH.1 h1
  refine ⟨(key o h1').2 h2,o,h1',fun e he hb => ?_⟩
  rw [h.2];exact si.1 h3 e (by simpa using he) hb
theorem EN {d:Tmp}:∀{l:List Operand},EM d l=false->d ∉ l.filterMap fun | .tmp t=>some t | _=>none:=by
 intro l
 induction l with
 | nil=>intro _ h;simp at h
 | cons x l ih =>
  intro h hm
  cases x with
  | tmp t=>
   simp only [EM,Bool.or_eq_false_iff,bt,decide_eq_false_iff_not] at h
   simp only [List.filterMap_cons,List.mem_cons] at hm
   rcases hm with hm | hm
   ·exact h.1 hm.symm
   ·exact ih h.2 hm
  | const v=>exact ih h (by simpa using hm)
  | global v=>exact ih h (by simpa using hm)
  | func v=>exact ih h (by simpa using hm)
theorem sW {d:Tmp} {o:Oper} (h:vS ops.toList d o=false):d ∉ o.looksAt ops:=by
 simp only [vS,Bool.or_eq_false_iff] at h
 unfold Oper.looksAt
 rw [List.mem_append]
 rintro (hm | hm)
 ·exact EN h.1 hm
 ·have h2:=h.2
  unfold sM at h2
  cases hg:o.guard with
  | none=>rw [hg] at hm;simp at hm
  | some gw =>
   obtain ⟨g,w⟩:=gw
   rw [hg] at hm h2
   simp only [cJ,Array.getElem?_toList] at h2
   simp only at hm
   cases hog:ops[g]? with
   | none=>rw [hog] at hm;simp at hm
   | some og=>
    rw [hog] at hm h2
    simp only [Option.bind_some] at hm h2
    cases hd:og.dst with
    | none=>rw [hd] at hm;simp at hm
    | some t=>rw [hd] at hm h2;simp at hm h2;exact h2 hm.symm
theorem lE {x y:Oper} (h:rR ops.toList x y=true) :
  (∀d,x.dst=some d->d ∉ y.looksAt ops)/\(∀d,x.dst=some d->y.dst≠some d)/\(∀d,y.dst=some d->d ∉ x.looksAt ops):=by
 simp only [rR,Bool.and_eq_true] at h
 obtain ⟨h1,h2⟩:=h
 refine ⟨fun d hd => ?_,fun d hd he => ?_,fun d hd => ?_⟩
 ·rw [hd] at h1;simp only [Bool.and_eq_true,Bool.not_eq_true'] at h1;exact sW h1.1
 ·rw [hd] at h1;simp only [Bool.and_eq_true,he] at h1;simp at h1
 ·rw [hd] at h2;simp only [Bool.not_eq_true'] at h2;exact sW h2
theorem yP:∀{l:List Oper},Bw l=true->∀o∈l,(∀cs b,o.op≠ .select cs b)/\∀c,o.op≠ .defer c:=by
 intro l
 induction l with
 | nil=>intro _ o h;cases h
 | cons x l ih =>
  intro h o ho
  simp only [Bw,Bool.and_eq_true] at h
  cases ho with
  | head=>
   have h1:=h.1
   refine ⟨fun cs b e => ?_,fun c e => ?_⟩<;>(rw [e] at h1;simp at h1)
  | tail _ ho=>exact ih h.2 o ho
theorem qt (h : zV ops.toList = true) : (∀ (j : Nat) (o : Oper), ops[j]? = some o -> (∀ cs b, o.op ≠ .select cs b) /\ ∀ c, o.op ≠ .defer c) /\
  ∀i o j p,ops[i]? = some o->ops[j]? = some p->j≠i->cO i p.after.toList=true\/cO j o.after.toList=true\/rR ops.toList o p=true:=by
 simp only [zV,Bool.and_eq_true] at h
 obtain ⟨h1,h2⟩:=h
 refine ⟨fun j o ho=>yP h1 o (by have:=Array.mem_of_getElem? ho;simpa using this),?_⟩
 have with':∀(i:Nat) (o:Oper) (l:List (Nat×Oper)),mf ops.toList i o l=true->∀j p,(j,p)∈l->i=j\/cO i p.after.toList=true\/cO j o.after.toList=true\/rR ops.toList o p=true:=by
  intro i o l
  induction l with
  | nil=>intro _ j p hm;cases hm
  | cons x l ih=>
   intro ht j p hm
   obtain ⟨j0,p0⟩:=x
   simp only [mf,Bool.and_eq_true,Bool.or_eq_true,bt,decide_eq_true_eq] at ht
   cases hm with
   | head=>
        rcases ht.1 with ((h | h) | h) | h
        ·exact .inl h
        ·exact .inr (.inl h)
        ·exact .inr (.inr (.inl h))
        ·exact .inr (.inr (.inr h))
   | tail _ hm=>exact ih ht.2 j p hm
 have all':∀(idx l:List (Nat×Oper)),B6 ops.toList idx l=true->∀i o,(i,o)∈l->mf ops.toList i o idx=true:=by
  intro idx l
  induction l with
  | nil=>intro _ i o hm;cases hm
  | cons x l ih=>
   intro ht i o hm
   obtain ⟨i0,o0⟩:=x
   simp only [B6,Bool.and_eq_true] at ht
   cases hm with
   | head=>exact ht.1
   | tail _ hm=>exact ih ht.2 i o hm
 intro i o j p hi hj hne
 have:=with' i o _ (all' _ _ h2 i o (eH.2 hi)) j p (eH.2 hj)
 exact this.resolve_left (fun e=>hne e.symm)
end
end
section
open Go.RowKit
section
variable {P:Program} {g:G} {SP:Nat->Option Sp} {V:az} {s s':S} {B w:World} {a a':A} {A:Act} {F:Fence} {n:Nat} {ops:Array Oper} {Q:Exit->Act->World->Prop}
theorem pM (hG:cv P g) (h:av P V s B w) {t:TypeId} {v u:AV} {X:Value} {p:List aX} (hf:lL g t v s=(p,u,s')) (hv:v.conc V=some X):ak P B w V s p s' (fun V'=>u.conc V'=some X):=by
 unfold lL at hf
 split at hf
 ·rename_i r hr;subst hf;exact lM hG h hr hv
 ·cases hf;exact ak.nil h hv
theorem Cc {V V':az} (k:eU V V'):∀{hs:List HX} {c:List (Addr×Value)},ky V hs c->ky V' hs c:=by
 intro hs
 induction hs with
 | nil=>intro c h;cases c<;>first | trivial | exact h.elim
 | cons y hs ih =>
  intro c h
  cases c with
  | nil=>exact h.elim
  | cons z c=>
   obtain ⟨a,r,off⟩:=y;obtain ⟨p,x⟩:=z
   exact ⟨h.1.up k,ih h.2⟩
theorem Ee {V:az} {i:Nat}:∀{hs:List HX} {c:List (Addr×Value)},ky V hs c->kA V (vO i hs) (c.map fun (p,x)=>(i,p,x)):=by
 intro hs
 induction hs with
 | nil=>intro c h;cases c with
  | nil=>trivial
  | cons _ _=>exact h.elim
 | cons y hs ih =>
  intro c h
  obtain ⟨a,r,off⟩:=y
  cases c with
  | nil=>exact h.elim
  | cons z c=>
   obtain ⟨p,x⟩:=z
   exact ⟨rfl,h.1,ih h.2⟩
def FF (P:Program) (ops:Array Oper) (A:Act) (w:World) (i:Nat) (o:Oper) (v:AV) (h:eV) (V':az):Prop:=
 ∃x chi,v.conc V'=some x/\kA V' h chi/\SH chi w/\(∀y∈chi,y.1=i)/\fh P ops chi o x A
theorem qk (hG : cv P g) (hR : av P V s B w) (hA : aN V a A) {i : Nat} {o : Oper} {p : List aX} {v : AV} {h : eV} (hq : vY g ops.toList a s i o = some (p, v, s', h)) :
  ak P B w V s p s' (FF P ops A w i o v h):=by
 have noS:SH ([]:CH) w:=by intro i p x h;cases h
 have noI:∀y∈([]:CH),y.1=i:=by intro y h;cases h
 have hgd:=lN (ops:=ops) hR hA (o:=o)
 unfold vY at hq
 cases hgu:gi ops.toList a s o with
 | no=>
  rw [hgu] at hq hgd;cases hq
  exact ak.nil hR ⟨undef,[],rfl,trivial,noS,noI,.inr ⟨hgd,rfl⟩⟩
 | ask d c want=>rw [hgu] at hq;cases hq
 | bad=>rw [hgu] at hq;cases hq
 | yes =>
  rw [hgu] at hq hgd
  simp only at hq
  split at hq
  ·rename_i v0 hv
   obtain ⟨x,h1,h2⟩:=xD hG hR.know hA hR.globOk hv
   rcases hfo:lL g o.type v0 s with ⟨p1,u1,s1⟩
   rw [hfo] at hq;cases hq
   exact (pM hG hR hfo h1).mono (fun pe hu hv'=>⟨x,[],hv',trivial,noS,noI,.inl ⟨hgd,fun w' _=>h2 w'⟩⟩)
  ·split at hq
   ·rename_i p0 v0 s0 hs hsym
    rcases hfo:lL g o.type v0 s0 with ⟨p1,u1,s1⟩
    rw [hfo] at hq;cases hq
    refine (B2 hG hR hA hsym).app (fun pe hu r1 k1 => ?_)
    obtain ⟨x,c,h1,h2,hat,h3⟩:=k1
    refine (pM hG r1 hfo h1).mono (fun pe2 hu2 hv' => ?_)
    have h2':ky ((V.at pe).at pe2) hs c:=Cc (aD hu2) h2
    refine ⟨x,_,hv',Ee h2',?_,?_,.inl ⟨hgd,fun w' hw'=>h3 w' (fun p x hm=>hw' i p x (List.mem_map.2 ⟨(p,x),hm,rfl⟩))⟩⟩
    ·intro i' p x' hm
     obtain ⟨⟨p',x''⟩,hm1,hm2⟩:=List.mem_map.1 hm
     cases hm2;exact hat _ _ hm1
    ·intro y hm
     obtain ⟨⟨p',x''⟩,hm1,hm2⟩:=List.mem_map.1 hm
     rw [<-hm2]
   ·split at hq
    ·rename_i t x hop
     split at hq
     ·rename_i id off ti hx hti
      obtain ⟨p0,hp,e⟩:=dT (au hA hR.globOk hx)
      have hT:=hG.ty _ _ hti
      split at hq
      ·rename_i l hl
       obtain ⟨vs,e1,e2,e3⟩:=eI hR hl hp
       have hS:SH ((List.range' off vs.length).zip vs |>.map fun (o,x)=>(i,(⟨p0.1,o,none⟩:Addr),x)) w:=by
        intro i' p' x' hm
        simp only [List.mem_map] at hm
        obtain ⟨⟨o',y⟩,hm1,hm2⟩:=hm
        cases hm2
        obtain ⟨j,hj⟩:=List.getElem?_of_mem hm1
        rw [List.getElem?_zip_eq_some] at hj
        obtain ⟨j1,j2⟩:=hj
        have hjl:j<vs.length:=(List.getElem?_eq_some_iff.1 j2).1
        have ho':o'=off+j:=by
         rw [List.getElem?_range' hjl] at j1
         have:=Option.some.inj j1;omega
        subst ho'
        exact e3 j _ j2
       have hI:∀y∈((List.range' off vs.length).zip vs |>.map fun (o,x)=>(i,(⟨p0.1,o,none⟩:Addr),x)),y.1=i:=by
        intro y hy
        simp only [List.mem_map] at hy
        obtain ⟨⟨o',z⟩,_,rfl⟩:=hy
        rfl
       have hcell:∀w',SH ((List.range' off vs.length).zip vs |>.map fun (o,x)=>(i,(⟨p0.1,o,none⟩:Addr),x)) w'->∀j y,vs[j]? = some y->w'.cell? ⟨p0.1,off+j,none⟩=some y:=by
        intro w' hs j y hy
        have hjl:j<vs.length:=(List.getElem?_eq_some_iff.1 hy).1
        refine hs i ⟨p0.1,off+j,none⟩ y ?_
        simp only [List.mem_map]
        refine ⟨(off+j,y),?_,rfl⟩
        refine List.mem_of_getElem? (i:=j) ?_
        rw [List.getElem?_zip_eq_some]
        exact ⟨by rw [List.getElem?_range' hjl];simp,hy⟩
       have fin:∀{X:Value} {w':World},(loadVar t ⟨p0.1,off,none⟩).run P w' = .ok X w'->(execOp A.eval o).run P w' = .ok (.value X) w':=by
        intro X w' hld
        obtain ⟨dst,op,type,pos,after,guard⟩:=o
        simp only at hop
        subst hop
        simp only [execOp,Sem.run_bind,Instr.loadAt,e,Instr.sureAddr,Sem.run_pure,Result.andThen_ok,hld]
       cases c:fa ti.desc with
       | true=>
        rw [c] at hq e2;simp only [cond_true] at hq e2;cases hq
        refine ak.nil hR ⟨_,_,gd e1,sS hp off e1,hS,hI,.inl ⟨hgd,fun w' hs=>fin ?_⟩⟩
        simp only [loadVar,Sem.run_bind,dI hT,Result.andThen_ok,c,if_true,aB hT,<-e2]
        rw [run_loadCells_list w' ⟨p0.1,off,none⟩ vs (fun j y hy=>by rw [bY];exact hcell w' hs j y hy)]
        rfl
       | false =>
        rw [c] at hq e2;simp only [cond_false] at hq e2
        split at hq
        ·rename_i v0
         rcases hfo:lL g o.type v0 s with ⟨p1,u1,s1⟩
         rw [hfo] at hq;cases hq
         obtain ⟨z,r,rfl,hz,hr⟩:=ag e1
         refine (pM hG hR hfo hz).mono (fun pe hu hv' => ?_)
         refine ⟨z,_,hv',sS (V:=V.at pe) hp off (aG (aD hu) e1),hS,hI,.inl ⟨hgd,fun w' hs=>fin ?_⟩⟩
         have:=hcell w' hs 0 z (by simp)
         rw [Nat.add_zero] at this
         simp only [loadVar,Sem.run_bind,dI hT,Result.andThen_ok,c,Bool.false_eq_true,if_false,run_load,this]
        ·cases hq
      ·cases hq
     ·cases hq
    ·cases hq
theorem aN.setB {d:Tmp} {c:BE} {b:Bool} (hA:aN V a A) (hd:a.tmps.get d=some (.bx c)) (hb:c.val V.σ V.β=some b) (hbig:d<eY):aN V (setB a d b) A:=by
 refine ⟨⟨hA.tm.1,fun k v hv => ?_⟩,hA.marks⟩
 simp only [Vc.setB] at hv
 rw [Tr.get_set64 _ _ _ _ hbig] at hv
 by_cases hk:k=d
 ·subst hk
  simp only [if_true,Option.some.injEq] at hv
  subst hv
  rw [<-hA.tm.2 k _ hd,eZ hb];rfl
 ·rw [if_neg hk] at hv;exact hA.tm.2 k v hv
theorem sj {ih:Ih} {lv:Lv} {m:Nat} (hI:kC P g SP ih m) (hS:eO P g SP) (hG:cv P g) (hF:mZ F) (hL:ip V lv) (hR:av P V s B w) (hA:aN V a A) {i:Nat} {o:Oper} (ho:ops[i]? = some o)
  {K:PE->gA->Prop} (h:eh SP (wK ih lv g ops.toList o a s) V.toPE K) (hE:∀pe n,¬K pe (.err n)) {K2:Act->World->Prop}
  (hK:∀a' s' V' A' w',eU V V'->av P V' s' B w'->aN V' a' A'->K V'.toPE (.code .normal a' s')->K2 A' w'):wpOpIn F n P ops Q i K2 A w:=by
 have ab:∀f,o.about P w A.eval=some f->F.fn f:=fun f _=>hF.1 f
 have pass:∀{a1:Vc.A} {s1:S},av P V s1 B w->aN V a1 A->Region.wanted o (yielded ops A.tmps)=false->eh SP (qj a1 o gx s1) V.toPE K->wpOpIn F n P ops Q i K2 A w:=by
  intro a1 s1 hR1 hA1 hw hs
  unfold wpOpIn
  simp only [ho,hw,Bool.false_eq_true,if_false]
  exact ⟨ab,kT hR1 hA1 hs rfl hE (fun a' V' A' w' e r ar k=>hK a' _ V' A' w' e r ar k)⟩
 have hgd:=lN (ops:=ops) hR hA (o:=o)
 unfold wK at h
 cases hgu:gi ops.toList a s o with
 | no=>rw [hgu] at h hgd;exact pass hR hA hgd h
 | yes=>rw [hgu] at h hgd;exact yT hI hS hG hF hL hR hA ho hgd h hE hK
 | bad=>rw [hgu] at h;exact (hE _ _ h).elim
 | ask d c want =>
  rw [hgu] at h hgd
  obtain ⟨hd,hw⟩:=hgd
  simp only at h
  cases hdb:Nat.blt d eY with
  | false=>rw [hdb] at h;exact (hE _ _ h).elim
  | true =>
   rw [hdb] at h
   simp only [cond_true,eh] at h
   have hd':d<eY:=by simpa using hdb
   split at h
   ·rename_i b0 hb
    have hR1:=gk c b0 s hR hb
    have hA1:=hA.setB hd hb hd'
    have hw':=hw b0 hb
    cases b0 with
    | true=>
     have h1:=h.1 ((BE.T_iff c _ true hb).2 rfl)
     cases want with
     | true=>exact yT hI hS hG hF hL hR1 hA1 ho hw' h1 hE hK
     | false=>exact pass hR1 hA1 hw' h1
    | false=>
     have h1:=h.2 ((BE.T_iff c _ false hb).2 rfl)
     cases want with
     | true=>exact pass hR1 hA1 hw' h1
     | false=>exact yT hI hS hG hF hL hR1 hA1 ho hw' h1 hE hK
   ·exact h.elim
theorem zo {ih:Ih} {lv:Lv} {m:Nat} (hI:kC P g SP ih m) (hS:eO P g SP) (hG:cv P g) (hF:mZ F) {K:PE->gA->Prop} (hE:∀pe n,¬K pe (.err n)):∀(l:List Oper) (k:Nat) (V:az) (a:Vc.A) (s:S) (A:Act) (w:World),ip V lv->av P V s B w->aN V a A->l=ops.toList.drop k->
  eh SP (rB ih lv g ops.toList l a s) V.toPE K->(∀a' s' V' A' w',eU V V'->av P V' s' B w'->aN V' a' A'->K V'.toPE (.code .normal a' s')->Q .normal A' w')->wpOpsIn F n P ops Q (List.range' k l.length) A w:=by
 intro l
 induction l with
 | nil=>
  intro k V a s A w hL hR hA _ h hQ
  exact hQ a s V A w (eU.refl V) hR hA h
 | cons o l ihl =>
  intro k V a s A w hL hR hA hl h hQ
  have ho:ops[k]? = some o:=by
   have:=congrArg (fun m=>m[0]?) hl
   simp at this;exact this.symm
  have hl':l=ops.toList.drop (k+1):=by
   have:=congrArg List.tail hl
   simpa [List.tail_drop] using this
  simp only [rB] at h
  simp only [List.length_cons,List.range'_succ]
  rw [wpOpsIn_cons]
  refine sj hI hS hG hF hL hR hA ho (cN _ _ _ _ h) (fun pe n hk=>hE pe n hk) (fun a' s' V' A' w' e r ar hk => ?_)
  exact ihl (k+1) V' a' s' A' w' (hL.mono e) r ar hl' hk (fun a2 s2 V2 A2 w2 e2 r2 ar2 k2=>hQ a2 s2 V2 A2 w2 (e.trans e2) r2 ar2 k2)
theorem av.asVars {V':az} {s1:S} {w':World} (h:av P V s B w) (k:dM V V') (r:av P V' s1 B w'):av P V' (asVars s s1) B w':=by
 refine ⟨?_,?_,fun c v hm => ?_,r.mem,r.memB,r.below,r.blk,r.dom,r.domL,r.inj,r.glob,r.own⟩
 ·show cx s.know V'.σ
  rw [show V'.σ=V.σ by rw [k.pe]];exact h.know
 ·show V'.β.length=s.nb/\V'.ς.length=s.ns/\V'.τ.length=s1.nv/\V'.ρ.length=s1.nr
  exact ⟨by rw [k.pe];exact h.lens.1,by rw [k.pe];exact h.lens.2.1,r.lens.2.2.1,r.lens.2.2.2⟩
 ·obtain ⟨x,e1,e2⟩:=h.memo c v hm
  exact ⟨x,aF k.ext _ _ e1,aF k.ext _ _ e2⟩
theorem dM.trans {A B C:az} (h:dM A B) (k:dM B C):dM A C:=⟨h.ext.trans k.ext,k.pe.trans h.pe⟩
theorem AB {ih:Ih} {lv:Lv} {m:Nat} (hI:kC P g SP ih m) (hG:cv P g) (hF:mZ F) (hL:ip V lv) (hR:av P V s B w) (hA:aN V a A) {i:Nat} {o:Oper} (ho:ops[i]? = some o) (h:Iy (fun c s=>jg (ih c s)) lv g ops.toList o a s = .ok a' s') {K:Act->World->Prop}
  (hK:∀V' A' w',dM V V'->av P V' s' B w'->aN V' a' A'->K A' w'):wpOpIn F n P ops Q i K A w:=by
 have ab:∀f,o.about P w A.eval=some f->F.fn f:=fun f _=>hF.1 f
 have put:∀{v:AV} {s1:S},C1 a o v s1 = .ok a' s'->s1=s'/\a.put o.dst v=some a':=by
  intro v s1 h
  unfold C1 at h
  split at h
  ·rename_i a1 h1;cases h;exact ⟨rfl,h1⟩
  ·cases h
 have hgd:=lN (ops:=ops) hR hA (o:=o)
 unfold Iy at h
 unfold wpOpIn
 simp only [ho]
 cases hgu:gi ops.toList a s o with
 | ask d c want=>rw [hgu] at h;cases h
 | bad=>rw [hgu] at h;cases h
 | no=>
  rw [hgu] at h hgd
  simp only at hgd
  rw [hgd]
  simp only [Bool.false_eq_true,if_false]
  obtain ⟨rfl,h1⟩:=put h
  exact ⟨ab,hK V _ w (dM.refl V) hR (hA.put h1 rfl)⟩
 | yes =>
  rw [hgu] at h hgd
  simp only at h hgd
  rw [hgd]
  simp only [if_true]
  have hop:=ES hG hR hA o
  have ofOut:∀{c:Jv} {v:AV} {s1:S},jg (ih c s) = .val v s1->eh SP (ih c s) V.toPE (fun pe o=>pe=V.toPE/\o = .val v s1):=by
   intro c v s1 ho
   cases ht:ih c s with
   | out o=>rw [ht] at ho;simp only [jg] at ho;subst ho;exact ⟨rfl,rfl⟩
   | ite c x y=>rw [ht] at ho;cases ho
   | pre p x=>rw [ht] at ho;cases ho
   | spec k l x=>rw [ht] at ho;cases ho
   | loop ks i b f=>rw [ht] at ho;cases ho
  cases hr:I1 g a s o with
  | err k=>rw [hr] at h;cases h
  | val v s1=>
   rw [hr] at h hop;simp only at h
   obtain ⟨rfl,h1⟩:=put h
   obtain ⟨V',x,w',k1,k2,k3,k4⟩:=hop
   refine ⟨ab,?_⟩
   rw [Oper.semAt_eq _ _ _ (iO hr (by simp))]
   have hA':=(hA.mono k1.ext).put h1 k3
   rcases k4 with k4 | ⟨k4,rfl⟩
   ·rw [k4];exact hK V' _ w' k1 k2 hA'
   ·rw [k4];exact hK V' _ w' k1 k2 hA'
  | enter f args =>
   rw [hr] at h hop;simp only at h
   obtain ⟨_,xs,k1,k2⟩:=hop
   split at h
   ·cases h
   ·split at h
    ·rename_i v s1 hv
     obtain ⟨rfl,h1⟩:=put h
     refine ⟨ab,?_⟩
     rw [Oper.semAt_eq _ _ _ (iO hr (by simp)),k2]
     refine ⟨lH hF,hI.call hF hL hR k1 (ofOut hv) (fun pe o hk => ?_)⟩
     obtain ⟨rfl,rfl⟩:=hk
     exact ⟨v,s1,rfl,fun V' x w' e ep r1 hv'=>hK V' _ w' ⟨e,ep⟩ r1 ((hA.mono e).put h1 hv')⟩
    ·cases h
    ·cases h
  | yield l args =>
   rw [hr] at h hop;simp only at h
   obtain ⟨p,xs,k0,k1,k2⟩:=hop
   split at h
   ·rename_i v s1 hv
    obtain ⟨rfl,h1⟩:=put h
    refine ⟨ab,?_⟩
    rw [Oper.semAt_eq _ _ _ (iO hr (by simp)),k2]
    obtain ⟨fn,tmps,assign,body,r1,r2⟩:=hI.yield (F:=F) (n:=n-1) (R:=fun e w'=>match e with | .returned x=>K (A.put o.dst x) w' | _=>False) hF hL hR k0 k1 (ofOut hv) (fun pe o hk=>by
     obtain ⟨rfl,rfl⟩:=hk
     exact ⟨v,s1,rfl,fun V' x w' e ep r1 hv'=>hK V' _ w' ⟨e,ep⟩ r1 ((hA.mono e).put h1 hv')⟩)
    rw [r1]
    refine ⟨lH hF,r2.mono ?_⟩
    intro e w' he
    cases e with
    | returned x=>exact he
    | panicked c=>exact he.elim
    | outgrown=>exact he.elim
   ·cases h
   ·cases h
end
end
section
open Go.RowKit
theorem lK {g:G} {all:List Oper} {a:A} {s s':S} {i:Nat} {o:Oper} {p:List aX} {v:AV} {h:eV}:∀{l:List (Nat×Oper)},pK g all a s l=some (i,o,p,v,s',h)->(i,o)∈l/\vY g all a s i o=some (p,v,s',h):=by
 intro l
 induction l with
 | nil=>intro h;cases h
 | cons x l ih=>
  intro h
  obtain ⟨j,q⟩:=x
  simp only [pK] at h
  split at h
  ·rename_i p' v' s' h' hq;cases h;exact ⟨List.mem_cons_self ..,hq⟩
  ·obtain ⟨h1,h2⟩:=ih h;exact ⟨List.mem_cons_of_mem _ h1,h2⟩
theorem ul {all:List Oper} {a:A} {s:S} {d:Tmp} {c:BE}:∀{l:List (Nat×Oper)},oD all a s l=some (d,c)->∃i o want,(i,o)∈l/\gi all a s o = .ask d c want:=by
 intro l
 induction l with
 | nil=>intro h;cases h
 | cons x l ih=>
  intro h
  obtain ⟨j,q⟩:=x
  simp only [oD] at h
  split at h
  ·rename_i d' c' w' hq;cases h;exact ⟨j,q,w',List.mem_cons_self ..,hq⟩
  ·obtain ⟨i,o,want,h1,h2⟩:=ih h;exact ⟨i,o,want,List.mem_cons_of_mem _ h1,h2⟩
theorem sC {all:List Oper} {a:A} {s:S} {d:Tmp} {k:IntKind} {e:IE} {lo:Int} {n:Nat}:∀{l:List (Nat×Oper)},jU all a s l=some (d,k,e,lo,n)->d<eY/\a.tmps.get d=some (.int k e):=by
 intro l
 induction l with
 | nil=>intro h;cases h
 | cons x l ih =>
  intro h
  obtain ⟨j,q⟩:=x
  simp only [jU] at h
  split at h
  ·split at h
   ·rename_i r hr;cases h;exact uD hr
   ·exact ih h
  ·exact ih h
theorem oR {f:Nat->Oper->py} {a1:A} {s2:S}:∀{l:List (Nat×Oper)},i6 f a1 s2 l=true->∀j o,(j,o)∈l->∃a s r,f j o = .ok a s r/\v7 a s a1 s2=true:=by
 intro l
 induction l with
 | nil=>intro _ j o h;cases h
 | cons x l ih =>
  intro h j o hm
  obtain ⟨j0,o0⟩:=x
  simp only [i6,Bool.and_eq_true] at h
  cases hm with
  | head=>
   have h1:=h.1
   split at h1
   ·rename_i a s r hf;exact ⟨a,s,r,hf,h1⟩
   ·cases h1
  | tail _ hm=>exact ih h.2 j o hm
theorem oZ (s:S) (lo:Option jD) (j:Nat):mN s lo j={ s with next:=(mN s lo j).next }:=by
 unfold mN
 split
 ·split<;>rfl
 ·rfl
section
variable {P:Program} {g:G} {SP:Nat->Option Sp} {F:Fence} {n:Nat} {ops:Array Oper} {Q:Exit->Act->World->Prop} {B:World}
theorem l6 {ih:Ij} {lv:Lv} {all:List Oper} {idx:List (Nat×Oper)}:∀(fuel mask:Nat) (a:A) (s:S) (held:eV) (lo:Option jD) (a':A) (s':S) (r:jD),dW ih lv g all idx fuel mask a s held lo = .ok a' s' r->s'=asVars s s':=by
 intro fuel
 induction fuel with
 | zero=>
  intro mask a s held lo a' s' r h
  simp only [dW] at h
  split at h
  ·cases h;rfl
  ·cases h
 | succ fuel IH =>
  intro mask a s held lo a' s' r h
  have go:∀(lo:Option jD) (j:Nat) (oj:Oper) (a2:Vc.A) (s2:S) (r2:jD),jV ih lv g all (dW ih lv g all idx fuel) mask a s held lo j oj = .ok a2 s2 r2->s2=asVars s s2:=by
   intro lo j oj a2 s2 r2 hg
   unfold jV at hg
   split at hg
   ·rename_i a3 s3 hd
    cases ck:eC s3 (bD (fj all oj) held) with
    | false=>rw [ck] at hg;cases hg
    | true=>
     rw [ck] at hg;simp only [cond_true] at hg
     have:=IH _ _ _ _ _ _ _ _ hg
     rw [this];rfl
   ·cases hg
  simp only [dW] at h
  split at h
  ·cases h;rfl
  ·split at h
   ·split at h
    ·exact IH _ _ _ _ _ _ _ _ h
    ·cases h
   ·cases h
   ·split at h
    ·cases h
    ·rename_i a1 s1 r1 hg1
     have key:∀(b:Bool) (x:jD),(bif b then py.ok a1 s1 x else .err 63) = .ok a' s' r->s'=asVars s s':=by
      intro b x hb
      cases b with
      | false=>cases hb
      | true=>cases hb;exact go _ _ _ _ _ _ hg1
     exact key _ _ h
theorem va {ih : Ih} {lv : Lv} {m : Nat} (hI : kC P g SP ih m) (hG : cv P g) (hF : mZ F) (hQ : ∀ c a w, ¬ Q (.panic c) a w) (ht : zV ops.toList = true) :
  ∀ (fuel mask : Nat) (a : A) (s : S) (held : eV) (lo : Option jD) (a' : A) (s' : S) (r : jD), dW (fun c s => jg (ih c s)) lv g ops.toList (bE 0 ops.toList) fuel mask a s held lo = .ok a' s' r ->
   ∀(V:az) (A:Act) (w:World) (ch:CH) (listed:Array Bool),ip V lv->av P V s B w->aN V a A->kA V held ch->SH ch w->pz ops mask listed->
    (∀V' A' w',dM V V'->av P V' s' B w'->aN V' a' A'->Q .normal A' w')->gQ F n P ops Q fuel listed ch A w:=by
 obtain ⟨tsel,tap⟩:=qt ht
 intro fuel
 induction fuel with
 | zero =>
  intro mask a s held lo a' s' r h V A w ch listed hL hR hA hH hS hM hK
  simp only [dW] at h
  split at h
  ·rename_i hr;cases h
   refine fun _=>⟨?_,hK V A w (dM.refl V) hR hA⟩
   apply List.eq_nil_iff_forall_not_mem.2
   intro i hi
   obtain ⟨o,ho⟩:=(cW hM).1 hi
   rw [hr] at ho;cases ho
  ·cases h
 | succ fuel IH =>
  intro mask a s held lo a' s' r h V A w ch listed hL hR hA hH hS hM hK
  have step:∀(lo:Option jD) (j:Nat) (oj:Oper) (a2:Vc.A) (s2:S) (r2:jD),ops[j]? = some oj->jV (fun c s=>jg (ih c s)) lv g ops.toList (dW (fun c s=>jg (ih c s)) lv g ops.toList (bE 0 ops.toList) fuel) mask a s held lo j oj = .ok a2 s2 r2->
    (∀V' A' w',dM V V'->av P V' s2 B w'->aN V' a2 A'->Q .normal A' w')->
    wpOpIn F n P ops Q j (fun A' w'=>SH (dt (fj ops.toList oj) ch) w'/\gQ F n P ops Q fuel (listed.setIfInBounds j true) (dt (fj ops.toList oj) ch) A' w') A w:=by
   intro lo j oj a2 s2 r2 hj hg hK2
   unfold jV at hg
   split at hg
   ·rename_i a3 s3 hd
    cases ck:eC s3 (bD (fj ops.toList oj) held) with
    | false=>rw [ck] at hg;cases hg
    | true=>
     rw [ck] at hg;simp only [cond_true] at hg
     have hRn:av P V (mN s lo j) B w:=hR.next (oZ s lo j)
     refine AB hI hG hF hL hRn hA hj hd (fun V1 A1 w1 k1 k2 k3 => ?_)
     have hH1:=(hH.drop (fj ops.toList oj)).mono k1.ext
     have hS1:=jX k2 hH1 ck
     refine ⟨hS1,IH _ _ _ _ _ _ _ _ hg V1 A1 w1 _ _ (hL.mono k1.ext) (hR.asVars k1 k2) k3 hH1 hS1 (ij (Array.getElem?_eq_some_iff.1 hj).1 hM) (fun V2 A2 w2 q1 q2 q3=>hK2 V2 A2 w2 (k1.trans q1) q2 q3)⟩
   ·cases hg
  have vars:∀(lo:Option jD) (j:Nat) (oj:Oper) (a2:Vc.A) (s2:S) (r2:jD),jV (fun c s=>jg (ih c s)) lv g ops.toList (dW (fun c s=>jg (ih c s)) lv g ops.toList (bE 0 ops.toList) fuel) mask a s held lo j oj = .ok a2 s2 r2->s2=asVars s s2:=by
   intro lo j oj a2 s2 r2 hg
   unfold jV at hg
   split at hg
   ·rename_i a3 s3 hd
    cases ck:eC s3 (bD (fj ops.toList oj) held) with
    | false=>rw [ck] at hg;cases hg
    | true=>
     rw [ck] at hg;simp only [cond_true] at hg
     have:=l6 _ _ _ _ _ _ _ _ _ hg
     rw [this];rfl
   ·cases hg
  simp only [dW] at h
  split at h
  ·rename_i hr;cases h
   have hnil:Region.ready .any ops listed=[]:=by
    apply List.eq_nil_iff_forall_not_mem.2
    intro i hi
    obtain ⟨o,ho⟩:=(cW hM).1 hi
    rw [hr] at ho;cases ho
   exact fun _=>⟨fun _=>hK V A w (dM.refl V) hR hA,fun i hi=>by rw [hnil] at hi;cases hi⟩
  ·rename_i i0 o0 rest hr
   split at h
   ·rename_i i o v sq hh hfq
    obtain ⟨hm,hq⟩:=lK hfq
    rw [<-hr] at hm
    have hio:=eH.1 (dH.1 hm).1
    obtain ⟨pe,u1,kpe,r1,x,chi,q1,q2,q3,q4,q5⟩:=qk hG hR hA hq (fun pe=>pe=V.toPE) rfl
    subst kpe
    simp only [az.at_self] at q1 q2
    split at h
    ·rename_i a1 ha1
     have hSS:SH (chi++ch) w:=fun i' p x hx=>by
      rcases List.mem_append.1 hx with hx | hx
      ·exact q3 i' p x hx
      ·exact hS i' p x hx
     refine lb hF hio tsel hQ q4 (fun j oj hj hne => ?_) fuel listed ch A w ((cW hM).2 ⟨o,hm⟩) q5 hSS ?_
     ·rcases tap i o j oj hio hj hne with h1 | h1 | h1
      ·exact .inl h1
      ·exact .inr (.inl h1)
      ·exact .inr (.inr (lE h1))
     ·exact IH _ _ _ _ _ _ _ _ h V _ w _ _ hL hR (hA.put ha1 q1) (q2.app hH) hSS (ij (Array.getElem?_eq_some_iff.1 hio).1 hM) hK
    ·cases h
   ·cases h
   ·split at h
    ·cases h
    ·rename_i a1 s1 r1 hg1
     cases ck:i6 (jV (fun c s=>jg (ih c s)) lv g ops.toList (dW (fun c s=>jg (ih c s)) lv g ops.toList (bE 0 ops.toList) fuel) mask a s held (G0 lo (pD s lo i0 r1))) a1 s1 rest with
     | false=>rw [ck] at h;cases h
     | true =>
      rw [ck] at h;simp only [cond_true] at h;cases h
      refine fun _=>⟨fun hn => ?_,fun j hj oj hoj => ?_⟩
      ·have:i0∈Region.ready .any ops listed:=(cW hM).2 ⟨o0,by rw [hr];exact List.mem_cons_self ..⟩
       rw [hn] at this;cases this
      ·obtain ⟨oj',hm⟩:=(cW hM).1 hj
       have hoj':=eH.1 (dH.1 hm).1
       have:oj=oj':=Option.some.inj (hoj.symm.trans hoj')
       subst this
       rw [hr] at hm
       rcases List.mem_cons.1 hm with hm | hm
       ·have e1:j=i0:=congrArg Prod.fst hm
        have e2:oj=o0:=congrArg Prod.snd hm
        subst e1;subst e2
        exact step lo _ _ _ _ r1 hoj hg1 hK
       ·obtain ⟨a2,s2,r2,h1,h2⟩:=oR ck j oj hm
        obtain ⟨e1,e2,e3,e4,e5⟩:=vf h2
        subst e1
        refine step _ j oj a2 s2 r2 hoj h1 (fun V' A' w' k1 k2 k3=>hK V' A' w' k1 ?_ k3)
        have v1:=vars _ _ _ _ _ _ hg1
        have v2:=vars _ _ _ _ _ _ h1
        have:s'={ s2 with next:=s'.next }:=by
         rw [v1,v2];simp only [asVars,e2,e3,e4,e5]
        exact k2.next this
theorem jJ {g : G} {a : Vc.A} {s s1 : S} {o : Oper} {e : IE} {zs : List AV} {v : AV} (h : EO g a s o = some (e, zs, v, s1)) : pc g a s o = some ([.d (.mk e zs)], v, s1) /\ s1.know = s.know /\ s1.nb = s.nb /\ s1.ns = s.ns /\ s1.memo = s.memo := by
 unfold EO at h
 split at h
 ·rename_i e' zs' v' s1' hs
  cases h
  refine ⟨hs,?_⟩
  obtain ⟨dst,op,type,pos,after,guard⟩:=o
  unfold pc at hs
  simp only at hs
  split at hs
  ·split at hs
   ·unfold wl at hs
    split at hs
    ·split at hs
     ·split at hs
      ·split at hs
       ·rename_i z _
        rename_i o0 _ _ _ _ _ _ _
        revert hs
        cases (_&&_&&_&&_:Bool)<;>intro hs
        ·cases hs
        ·cases hs
       ·cases hs
      ·cases hs
     ·cases hs
    ·cases hs
   ·cases hs
  ·split at hs
   ·unfold qq at hs
    split at hs
    ·split at hs
     ·split at hs
      ·revert hs
       cases (_&&_:Bool)<;>intro hs<;>cases hs
      ·cases hs
     ·cases hs
    ·cases hs
   ·cases hs
  ·split at hs
   ·unfold qq at hs
    split at hs
    ·split at hs
     ·split at hs
      ·revert hs
       cases (_&&_:Bool)<;>intro hs<;>cases hs
      ·cases hs
     ·cases hs
    ·cases hs
   ·cases hs
  ·split at hs
   ·unfold pg at hs
    split at hs
    ·split at hs
     ·revert hs
      cases (_&&_&&_:Bool)<;>intro hs<;>cases hs
     ·cases hs
    ·cases hs
   ·cases hs
  ·split at hs
   ·unfold rL at hs
    split at hs
    ·split at hs
     ·split at hs
      ·split at hs
       ·revert hs
        cases (_&&_&&_&&_&&_:Bool)<;>intro hs
        ·cases hs
        ·cases hs;exact ⟨rfl,rfl,rfl,rfl⟩
       ·cases hs
      ·cases hs
     ·cases hs
    ·cases hs
   ·cases hs
  ·split at hs
   ·unfold rJ at hs
    split at hs
    ·split at hs
     ·split at hs
      ·split at hs
       ·revert hs
        cases (Nat.beq _ _:Bool)<;>intro hs<;>cases hs
       ·cases hs
      ·cases hs
     ·split at hs
      ·split at hs
       ·split at hs<;>cases hs
       ·cases hs
      ·cases hs
     ·cases hs
    ·cases hs
   ·cases hs
  ·split at hs
   ·split at hs
    ·rename_i r hs2
     cases hs
     unfold wg at hs2
     split at hs2
     ·split at hs2
      ·split at hs2
       ·split at hs2
        ·revert hs2
         cases (_&&_&&_&&_&&_&&_&&_&&_&&_&&_:Bool)<;>intro hs2<;>cases hs2
        ·cases hs2
       ·cases hs2
      ·cases hs2
     ·cases hs2
    ·have two : ∀ {s : S} {x y : IE} {a b z : aX} {l : List aX}, lV s x y ++ (a :: b :: l) = [z] -> False := fun h => by
      have:=congrArg List.length h
      simp at this
      omega
     split at hs
     ·rename_i r hs2
      cases hs
      unfold rK at hs2
      split at hs2
      ·split at hs2
       ·split at hs2
        ·obtain ⟨_,hs2⟩:=bn hs2
         split at hs2
         ·split at hs2
          ·obtain ⟨_,hs2⟩:=bn hs2
           simp only [Option.some.injEq,Prod.mk.injEq] at hs2
           exact (two hs2.1).elim
          ·simp only [Option.some.injEq,Prod.mk.injEq] at hs2
           exact (two hs2.1).elim
         ·split at hs2
          ·obtain ⟨_,hs2⟩:=bn hs2
           simp only [Option.some.injEq,Prod.mk.injEq] at hs2
           exact (two hs2.1).elim
          ·cases hs2
        ·cases hs2
       ·cases hs2
      ·cases hs2
     ·have two : ∀ {s : S} {x y : IE} {a b z : aX} {l : List aX}, dG s x y ++ (a :: b :: l) = [z] -> False := fun h => by
       have:=congrArg List.length h
       simp at this
       omega
      split at hs
      ·rename_i r hs2
       cases hs
       unfold wp at hs2
       split at hs2
       ·split at hs2
        ·split at hs2
         ·obtain ⟨_,hs2⟩:=bn hs2
          split at hs2
          ·obtain ⟨_,hs2⟩:=bn hs2
           simp only [Option.some.injEq,Prod.mk.injEq] at hs2
           exact (two hs2.1).elim
          ·simp only [Option.some.injEq,Prod.mk.injEq] at hs2
           exact (two hs2.1).elim
         ·cases hs2
        ·cases hs2
       ·cases hs2
      ·split at hs
       ·rename_i r hs2
        cases hs
        unfold rH at hs2
        split at hs2
        ·split at hs2
         ·split at hs2
          ·obtain ⟨_,hs2⟩:=bn hs2
           split at hs2
           ·obtain ⟨_,hs2⟩:=bn hs2
            simp at hs2
           ·simp at hs2
          ·cases hs2
         ·cases hs2
        ·cases hs2
       ·split at hs
        ·rename_i r hs2
         cases hs
         unfold rG at hs2
         split at hs2
         ·split at hs2
          ·split at hs2
           ·obtain ⟨_,hs2⟩:=bn hs2
            split at hs2
            ·obtain ⟨_,hs2⟩:=bn hs2
             simp at hs2
            ·simp at hs2
           ·cases hs2
          ·cases hs2
         ·cases hs2
        ·split at hs
         ·rename_i r hs2
          cases hs
          unfold rI at hs2
          split at hs2
          ·split at hs2
           ·split at hs2
            ·split at hs2
             ·obtain ⟨_,hs2⟩:=bn hs2
              simp at hs2
             ·cases hs2
            ·cases hs2
           ·cases hs2
          ·cases hs2
         ·unfold rF at hs
          split at hs
          ·split at hs
           ·split at hs
            ·split at hs
             ·obtain ⟨_,hs⟩:=bn hs
              simp at hs
             ·cases hs
            ·cases hs
           ·cases hs
          ·cases hs
   ·unfold wi at hs
    split at hs
    ·split at hs
     ·split at hs
      ·revert hs
       cases (_&&_:Bool)<;>intro hs<;>cases hs
      ·cases hs
     ·cases hs
    ·cases hs
   ·cases hs
  ·cases hs
 ·cases h
theorem xM {g:G} {a:Vc.A} {s:S} {o:Oper} {r:List aX×AV×S} (h:pc g a s o=some r):∀c,o.op≠ .defer c:=by
 intro c hc
 obtain ⟨dst,op,type,pos,after,guard⟩:=o
 simp only at hc
 subst hc
 cases h
theorem pO {g:G} {all:List Oper} {rec:Nat->Vc.A->S->eV->Option jD->py} {e:IE} {zs:List AV} {mask:Nat} {a a2:Vc.A} {s s2:S} {held:eV} {lo:Option jD} {j:Nat} {oj:Oper} {r:jD} (h:IJ g all rec e zs mask a s held lo j oj = .ok a2 s2 r) :
  gi all a s oj = .yes/\∃v s1 a1,EO g a s oj=some (e,zs,v,s1)/\a.put oj.dst v=some a1/\eC s1 (bD (fj all oj) held)=true/\rec (Nat.lor mask (Nat.shiftLeft 1 j)) a1 s1 (bD (fj all oj) held) lo = .ok a2 s2 r:=by
 unfold IJ at h
 split at h
 ·rename_i e' zs' v s1 hgu hmk
  split at h
  ·rename_i a1 ha
   cases ck:(e'.eqb e&&AV.eqbL zs' zs&&eC s1 (bD (fj all oj) held)) with
   | false=>rw [ck] at h;cases h
   | true=>
    rw [ck] at h;simp only [cond_true] at h
    simp only [Bool.and_eq_true] at ck
    have e1:=IE.eqb_eq _ _ ck.1.1
    have e2:=eB ck.1.2
    subst e1;subst e2
    exact ⟨hgu,v,s1,a1,hmk,ha,ck.2,h⟩
  ·cases h
 ·cases h
theorem v5 {ih:Ij} {lv:Lv} {all:List Oper} {idx:List (Nat×Oper)} {im:Nat} {e:IE} {zs:List AV}:∀(fuel mask:Nat) (a:A) (s:S) (held:eV) (lo:Option jD) (a':A) (s':S) (r:jD),fF ih lv g all idx im e zs fuel mask a s held lo = .ok a' s' r->s'=asVars s s':=by
 intro fuel
 induction fuel with
 | zero=>intro mask a s held lo a' s' r h;cases h
 | succ fuel IH =>
  intro mask a s held lo a' s' r h
  have go:∀(lo:Option jD) (j:Nat) (oj:Oper) (a2:Vc.A) (s2:S) (r2:jD),GB ih lv g all im e zs (fF ih lv g all idx im e zs fuel) (dW ih lv g all idx fuel) mask a s held lo j oj = .ok a2 s2 r2->s2=asVars s s2:=by
   intro lo j oj a2 s2 r2 hg
   unfold GB at hg
   cases hj:Nat.beq j im with
   | true=>
    rw [hj] at hg;simp only [cond_true] at hg
    obtain ⟨_,v,s1,a1,hmk,_,_,hrec⟩:=pO hg
    obtain ⟨_,q1,q2,q3,q4⟩:=jJ hmk
    have:=l6 _ _ _ _ _ _ _ _ _ hrec
    rw [this]
    simp only [asVars,q1,q2,q3,q4]
   | false =>
    rw [hj] at hg;simp only [cond_false] at hg
    unfold jV at hg
    split at hg
    ·rename_i a3 s3 hd
     cases ck:eC s3 (bD (fj all oj) held) with
     | false=>rw [ck] at hg;cases hg
     | true=>
      rw [ck] at hg;simp only [cond_true] at hg
      have:=IH _ _ _ _ _ _ _ _ hg
      rw [this];rfl
    ·cases hg
  simp only [fF] at h
  split at h
  ·cases h
  ·split at h
   ·split at h
    ·exact IH _ _ _ _ _ _ _ _ h
    ·cases h
   ·cases h
   ·split at h
    ·cases h
    ·rename_i a1 s1 r1 hg1
     have key:∀(b:Bool) (x:jD),(bif b then py.ok a1 s1 x else .err 63) = .ok a' s' r->s'=asVars s s':=by
      intro b x hb
      cases b with
      | false=>cases hb
      | true=>cases hb;exact go _ _ _ _ _ _ hg1
     exact key _ _ h
theorem ze {ih : Ih} {lv : Lv} {m : Nat} (hI : kC P g SP ih m) (hG : cv P g) (hF : mZ F) (hQ : ∀ c a w, ¬ Q (.panic c) a w) (ht : zV ops.toList = true) {im : Nat} {e : IE} {zs : List AV} {z : Int} {xs : List Value} (hb : 0 <= z /\ z <= 1000000) :
  ∀ (fuel mask : Nat) (a : A) (s : S) (held : eV) (lo : Option jD) (a' : A) (s' : S) (r : jD), fF (fun c s => jg (ih c s)) lv g ops.toList (bE 0 ops.toList) im e zs fuel mask a s held lo = .ok a' s' r ->
   ∀(V:az) (A:Act) (w:World) (ch:CH) (listed:Array Bool),ip V lv->av P V s B w->aN V a A->kA V held ch->SH ch w->pz ops mask listed->e.val V.σ=some z->concL (iN V.toPE) zs=some xs->
    (∀V' A' w' p,eU V V'->V'.toPE=aL (be V.toPE (.pointer (some p))) (cP z.toNat xs)->av P V' s' B w'->aN V' a' A'->Q .normal A' w')->gQ F n P ops Q fuel listed ch A w:=by
 obtain ⟨tsel,tap⟩:=qt ht
 intro fuel
 induction fuel with
 | zero=>intro mask a s held lo a' s' r h;cases h
 | succ fuel IH =>
  intro mask a s held lo a' s' r h V A w ch listed hL hR hA hH hS hM he hz hK
  have step:∀(lo:Option jD) (j:Nat) (oj:Oper) (a2:Vc.A) (s2:S) (r2:jD),ops[j]? = some oj->GB (fun c s=>jg (ih c s)) lv g ops.toList im e zs (fF (fun c s=>jg (ih c s)) lv g ops.toList (bE 0 ops.toList) im e zs fuel) (dW (fun c s=>jg (ih c s)) lv g ops.toList (bE 0 ops.toList) fuel) mask a s held lo j oj = .ok a2 s2 r2->
    (∀V' A' w' p,eU V V'->V'.toPE=aL (be V.toPE (.pointer (some p))) (cP z.toNat xs)->av P V' s2 B w'->aN V' a2 A'->Q .normal A' w')->
    wpOpIn F n P ops Q j (fun A' w'=>SH (dt (fj ops.toList oj) ch) w'/\gQ F n P ops Q fuel (listed.setIfInBounds j true) (dt (fj ops.toList oj) ch) A' w') A w:=by
   intro lo j oj a2 s2 r2 hj hg hK2
   unfold GB at hg
   cases hjm:Nat.beq j im with
   | true =>
    rw [hjm] at hg;simp only [cond_true] at hg
    obtain ⟨hgu,v,s1,a1,hmk,hput,ck,hrec⟩:=pO hg
    obtain ⟨hsym,_⟩:=jJ hmk
    have hgd:=lN (ops:=ops) hR hA (o:=oj)
    rw [hgu] at hgd
    have ab:∀f,oj.about P w A.eval=some f->F.fn f:=fun f _=>hF.1 f
    unfold wpOpIn
    simp only [hj,show Region.wanted oj (yielded ops A.tmps)=true from hgd,if_true]
    refine ⟨ab,?_⟩
    obtain ⟨pe,x,w',u1,⟨p,kpe⟩,r1,hv,hrun⟩:=xN hG hR hA hsym (fun pe=>∃p,pe=aL (be V.toPE (.pointer (some p))) (cP z.toNat xs)) (by
     simp only [aj,aX.sat,D.sat,he,hz]
     exact ⟨hb,fun p l' hl'=>⟨p,by rw [hl']⟩⟩)
    rw [Oper.semAt_eq _ _ _ (xM hsym)]
    have hx:=aD u1
    have hH1:=(hH.drop (fj ops.toList oj)).mono hx
    have hS1:=jX r1 hH1 ck
    have fin:SH (dt (fj ops.toList oj) ch) w'/\gQ F n P ops Q fuel (listed.setIfInBounds j true) (dt (fj ops.toList oj) ch) (A.put oj.dst x) w':=
     ⟨hS1,va hI hG hF hQ ht _ _ _ _ _ _ _ _ _ hrec (V.at pe) _ w' _ _ (hL.mono hx) r1 ((hA.mono hx).put hput hv) hH1 hS1 (ij (Array.getElem?_eq_some_iff.1 hj).1 hM) (fun V' A' w2 q1 q2 q3=>hK2 V' A' w2 p (hx.trans q1.ext) (by rw [q1.pe];exact kpe) q2 q3)⟩
    rcases hrun with hrun | ⟨hrun,rfl⟩
    ·rw [hrun];exact fin
    ·rw [hrun];exact fin
   | false =>
    rw [hjm] at hg;simp only [cond_false] at hg
    unfold jV at hg
    split at hg
    ·rename_i a3 s3 hd
     cases ck:eC s3 (bD (fj ops.toList oj) held) with
     | false=>rw [ck] at hg;cases hg
     | true=>
      rw [ck] at hg;simp only [cond_true] at hg
      have hRn:av P V (mN s lo j) B w:=hR.next (oZ s lo j)
      refine AB hI hG hF hL hRn hA hj hd (fun V1 A1 w1 k1 k2 k3 => ?_)
      have hH1:=(hH.drop (fj ops.toList oj)).mono k1.ext
      have hS1:=jX k2 hH1 ck
      refine ⟨hS1,IH _ _ _ _ _ _ _ _ hg V1 A1 w1 _ _ (hL.mono k1.ext) (hR.asVars k1 k2) k3 hH1 hS1 (ij (Array.getElem?_eq_some_iff.1 hj).1 hM) (by rw [k1.pe];exact he) (by rw [k1.pe];exact hz) (fun V2 A2 w2 p q1 q0 q2 q3=>hK2 V2 A2 w2 p (k1.ext.trans q1) (by rw [q0,k1.pe]) q2 q3)⟩
    ·cases hg
  have vars:∀(lo:Option jD) (j:Nat) (oj:Oper) (a2:Vc.A) (s2:S) (r2:jD),GB (fun c s=>jg (ih c s)) lv g ops.toList im e zs (fF (fun c s=>jg (ih c s)) lv g ops.toList (bE 0 ops.toList) im e zs fuel) (dW (fun c s=>jg (ih c s)) lv g ops.toList (bE 0 ops.toList) fuel) mask a s held lo j oj = .ok a2 s2 r2->s2=asVars s s2:=by
   intro lo j oj a2 s2 r2 hg
   unfold GB at hg
   cases hj:Nat.beq j im with
   | true=>
    rw [hj] at hg;simp only [cond_true] at hg
    obtain ⟨_,v,s1,a1,hmk,_,_,hrec⟩:=pO hg
    obtain ⟨_,q1,q2,q3,q4⟩:=jJ hmk
    have:=l6 _ _ _ _ _ _ _ _ _ hrec
    rw [this]
    simp only [asVars,q1,q2,q3,q4]
   | false =>
    rw [hj] at hg;simp only [cond_false] at hg
    unfold jV at hg
    split at hg
    ·rename_i a3 s3 hd
     cases ck:eC s3 (bD (fj ops.toList oj) held) with
     | false=>rw [ck] at hg;cases hg
     | true=>
      rw [ck] at hg;simp only [cond_true] at hg
      have:=v5 _ _ _ _ _ _ _ _ _ hg
      rw [this];rfl
    ·cases hg
  simp only [fF] at h
  split at h
  ·cases h
  ·rename_i i0 o0 rest hr
   split at h
   ·rename_i i o v sq hh hfq
    obtain ⟨hm,hq⟩:=lK hfq
    rw [<-hr] at hm
    have hio:=eH.1 (dH.1 hm).1
    obtain ⟨pe,u1,kpe,r1,x,chi,q1,q2,q3,q4,q5⟩:=qk hG hR hA hq (fun pe=>pe=V.toPE) rfl
    subst kpe
    simp only [az.at_self] at q1 q2
    split at h
    ·rename_i a1 ha1
     have hSS:SH (chi++ch) w:=fun i' p x hx=>by
      rcases List.mem_append.1 hx with hx | hx
      ·exact q3 i' p x hx
      ·exact hS i' p x hx
     refine lb hF hio tsel hQ q4 (fun j oj hj hne => ?_) fuel listed ch A w ((cW hM).2 ⟨o,hm⟩) q5 hSS ?_
     ·rcases tap i o j oj hio hj hne with h1 | h1 | h1
      ·exact .inl h1
      ·exact .inr (.inl h1)
      ·exact .inr (.inr (lE h1))
     ·exact IH _ _ _ _ _ _ _ _ h V _ w _ _ hL hR (hA.put ha1 q1) (q2.app hH) hSS (ij (Array.getElem?_eq_some_iff.1 hio).1 hM) he hz hK
    ·cases h
   ·cases h
   ·split at h
    ·cases h
    ·rename_i a1 s1 r1 hg1
     cases ck:i6 (GB (fun c s=>jg (ih c s)) lv g ops.toList im e zs (fF (fun c s=>jg (ih c s)) lv g ops.toList (bE 0 ops.toList) im e zs fuel) (dW (fun c s=>jg (ih c s)) lv g ops.toList (bE 0 ops.toList) fuel) mask a s held (G0 lo (pD s lo i0 r1))) a1 s1 rest with
     | false=>rw [ck] at h;cases h
     | true =>
      rw [ck] at h;simp only [cond_true] at h;cases h
      refine fun _=>⟨fun hn => ?_,fun j hj oj hoj => ?_⟩
      ·have:i0∈Region.ready .any ops listed:=(cW hM).2 ⟨o0,by rw [hr];exact List.mem_cons_self ..⟩
       rw [hn] at this;cases this
      ·obtain ⟨oj',hm⟩:=(cW hM).1 hj
       have hoj':=eH.1 (dH.1 hm).1
       have:oj=oj':=Option.some.inj (hoj.symm.trans hoj')
       subst this
       rw [hr] at hm
       rcases List.mem_cons.1 hm with hm | hm
       ·have e1:j=i0:=congrArg Prod.fst hm
        have e2:oj=o0:=congrArg Prod.snd hm
        subst e1;subst e2
        exact step lo _ _ _ _ r1 hoj hg1 hK
       ·obtain ⟨a2,s2,r2,h1,h2⟩:=oR ck j oj hm
        obtain ⟨e1,e2,e3,e4,e5⟩:=vf h2
        subst e1
        refine step _ j oj a2 s2 r2 hoj h1 (fun V' A' w' p k1 k0 k2 k3=>hK V' A' w' p k1 k0 ?_ k3)
        have v1:=vars _ _ _ _ _ _ hg1
        have v2:=vars _ _ _ _ _ _ h1
        have:s'={ s2 with next:=s'.next }:=by
         rw [v1,v2];simp only [asVars,e2,e3,e4,e5]
        exact k2.next this
theorem BW {V:az} {s:S} {B w:World} (hR:av P V s B w) (nb:Option Nat) (j:Nat):av P V (Je nb j s) B w:=by
 cases nb with
 | none=>exact hR
 | some n=>exact hR.next rfl
theorem zf {ih : Ih} {lv : Lv} {m : Nat} (hI : kC P g SP ih m) (hS : eO P g SP) (hG : cv P g) (hF : mZ F) (hQ : ∀ c a w, ¬ Q (.panic c) a w) (ht : zV ops.toList = true)   :
  ∀ (fuel : Nat) (nb : Option Nat) (K : PE -> gA -> Prop) (hE : ∀ pe n, ¬ K pe (.err n)) (left mask : Nat) (a : A) (s : S) (held : eV) (V : az) (A : Act) (w : World) (ch : CH) (listed : Array Bool), eh SP (dO ih lv g ops.toList (bE 0 ops.toList) fuel nb left mask a s held) V.toPE K ->
   ip V lv->av P V s B w->aN V a A->kA V held ch->SH ch w->pz ops mask listed->
    (∀a' s' V' A' w',eU V V'->av P V' s' B w'->aN V' a' A'->K V'.toPE (.code .normal a' s')->Q .normal A' w')->gQ F n P ops Q left listed ch A w:=by
 obtain ⟨tsel,tap⟩:=qt ht
 intro fuel
 induction fuel with
 | zero=>intro nb K hE left mask a s held V A w ch listed h;exact (hE _ _ h).elim
 | succ fuel IH =>
  intro nb K hE left mask a s held V A w ch listed h hL hR hA hH hSH hM hK
  simp only [dO] at h
  split at h
  ·rename_i hr
   have hnil:Region.ready .any ops listed=[]:=by
    apply List.eq_nil_iff_forall_not_mem.2
    intro i hi
    obtain ⟨o,ho⟩:=(cW hM).1 hi
    rw [hr] at ho;cases ho
   have hq:=hK a s V A w (eU.refl V) hR hA h
   cases left with
   | zero=>exact fun _=>⟨hnil,hq⟩
   | succ left=>exact fun _=>⟨fun _=>hq,fun i hi=>by rw [hnil] at hi;cases hi⟩
  ·rename_i hne
   split at h
   ·-- an operation that only looks
    rename_i i o p v s1 hh hfq
    obtain ⟨hm,hq⟩:=lK hfq
    have hio:=eH.1 (dH.1 hm).1
    split at h
    ·rename_i a1 left' ha1
     obtain ⟨pe,u1,h1,r1,x,chi,q1,q2,q3,q4,q5⟩:=qk hG hR hA hq _ (da h)
     have hx:=aD u1
     have hSS:SH (chi++ch) w:=fun i' p x hx=>by
      rcases List.mem_append.1 hx with hx | hx
      ·exact q3 i' p x hx
      ·exact hSH i' p x hx
     refine lb hF hio tsel hQ q4 (fun j oj hj hne => ?_) left' listed ch A w ((cW hM).2 ⟨o,hm⟩) q5 hSS ?_
     ·rcases tap i o j oj hio hj hne with h1 | h1 | h1
      ·exact .inl h1
      ·exact .inr (.inl h1)
      ·exact .inr (.inr (lE h1))
     ·exact IH nb K hE left' _ _ _ _ (V.at pe) _ w _ _ h1 (hL.mono hx) r1 ((hA.mono hx).put ha1 q1) (q2.app (hH.mono hx)) hSS (ij (Array.getElem?_eq_some_iff.1 hio).1 hM) (fun a' s' V' A' w' e r ar k=>hK a' s' V' A' w' (hx.trans e) r ar k)
    ·exact (hE _ _ h).elim
   ·split at h
    ·-- a test
     rename_i d c hfa
     obtain ⟨i,o,want,hm,hgu⟩:=ul hfa
     have hgd:=lN (ops:=ops) hR hA (o:=o)
     rw [hgu] at hgd
     obtain ⟨hd,_⟩:=hgd
     cases hdb:Nat.blt d eY with
     | false=>rw [hdb] at h;exact (hE _ _ h).elim
     | true =>
      rw [hdb] at h
      simp only [cond_true,eh] at h
      have hd':d<eY:=by simpa using hdb
      split at h
      ·rename_i b0 hb
       have hR1:=gk c b0 s hR hb
       have hA1:=hA.setB hd hb hd'
       cases b0 with
       | true=>exact IH nb K hE left _ _ _ _ V A w ch listed (h.1 ((BE.T_iff c _ true hb).2 rfl)) hL hR1 hA1 hH hSH hM hK
       | false=>exact IH nb K hE left _ _ _ _ V A w ch listed (h.2 ((BE.T_iff c _ false hb).2 rfl)) hL hR1 hA1 hH hSH hM hK
      ·exact h.elim
    ·split at h
     ·rename_i d k e lo n hask
      obtain ⟨hd,hg⟩:=sC hask
      obtain ⟨z,hz,_⟩:=aC (hA.get hg)
      obtain ⟨h1,h2⟩:=tR hz hE _ _ h
      exact IH nb K hE left _ _ _ _ V A w ch listed h1 hL (gk _ true s hR h2) (hA.setI hg hz hd) hH hSH hM hK
     ·split at h
      ·rename_i c _
       simp only [eh] at h
       split at h
       ·rename_i b0 hb
        have hR1:=gk c b0 s hR hb
        cases b0 with
        | true=>exact IH nb K hE left _ _ _ _ V A w ch listed (h.1 ((BE.T_iff c _ true hb).2 rfl)) hL hR1 hA hH hSH hM hK
        | false=>exact IH nb K hE left _ _ _ _ V A w ch listed (h.2 ((BE.T_iff c _ false hb).2 rfl)) hL hR1 hA hH hSH hM hK
       ·exact h.elim
      ·have many : ∀ (n1 left' : Nat), left = left' + 1 -> eh SP (Bs ih lv g ops.toList (fun mask a s held => dO ih lv g ops.toList (bE 0 ops.toList) fuel (some n1) left' mask a s held) n1 mask a s held (gq mask (bE 0 ops.toList))) V.toPE K -> gQ F n P ops Q left listed ch A w := by
        clear h
        intro n1 left' hl h
        subst hl
        cases hr:gq mask (bE 0 ops.toList) with
        | nil=>rw [hr] at h;exact (hE _ _ h).elim
        | cons q rest =>
         obtain ⟨i,o⟩:=q
         rw [hr] at h
         simp only [Bs] at h
         have him:(i,o)∈gq mask (bE 0 ops.toList):=by rw [hr];exact List.mem_cons_self ..
         cases cs:xI (IK ih lv g ops.toList (fun mask a s held=>dO ih lv g ops.toList (bE 0 ops.toList) fuel (some n1) left' mask a s held) n1 mask a s held i o) (IK ih lv g ops.toList (fun mask a s held=>dO ih lv g ops.toList (bE 0 ops.toList) fuel (some n1) left' mask a s held) n1 mask a s held) rest with
         | false=>rw [cs] at h;exact (hE _ _ h).elim
         | true =>
          rw [cs] at h;simp only [cond_true] at h
          refine fun _=>⟨fun hn => ?_,fun j hj oj hoj => ?_⟩
          ·have:i∈Region.ready .any ops listed:=(cW hM).2 ⟨o,him⟩
           rw [hn] at this;cases this
          ·obtain ⟨oj',hm⟩:=(cW hM).1 hj
           have hoj':=eH.1 (dH.1 hm).1
           have:oj=oj':=Option.some.inj (hoj.symm.trans hoj')
           subst this
           have hX:eh SP (IK ih lv g ops.toList (fun mask a s held=>dO ih lv g ops.toList (bE 0 ops.toList) fuel (some n1) left' mask a s held) n1 mask a s held j oj) V.toPE K:=by
            rw [hr] at hm
            cases hm with
            | head=>exact h
            | tail _ hm=>rw [<-Db cs j oj hm];exact h
           unfold IK at hX
           refine sj hI hS hG hF hL (BW hR (some n1) j) hA hoj (cN _ _ _ _ (cN _ _ _ _ hX)) (fun pe k hk=>hE pe k hk) (fun a' s' V' A' w' e r ar hk => ?_)
           simp only at hk
           cases ck:eC s' (bD (fj ops.toList oj) held) with
           | false=>rw [ck] at hk;exact (hE _ _ hk).elim
           | true=>
            rw [ck] at hk;simp only [cond_true] at hk
            have hH1:=(hH.drop (fj ops.toList oj)).mono e
            have hS1:=jX r hH1 ck
            exact ⟨hS1,IH (some n1) (fun pe o=>eh SP (JD (Nat.add n1 (Nat.mul 4096 (Nat.succ (Nat.succ (bF ops.toList))))) o) pe K) (fun pe k hk=>hE pe k hk) left' _ _ _ _ V' A' w' _ _ hk (hL.mono e) r ar hH1 hS1 (ij (Array.getElem?_eq_some_iff.1 hoj).1 hM) (fun a2 s2 V2 A2 w2 e2 r2 ar2 k2=>hK a2 _ V2 A2 w2 (e.trans e2) (r2.next (s':={ s2 with next:=Nat.add n1 (Nat.mul 4096 (Nat.succ (Nat.succ (bF ops.toList)))) }) rfl) ar2 k2)⟩
       split at h
       ·-- one alone
        rename_i _ i o left' hr
        have him:(i,o)∈gq mask (bE 0 ops.toList):=by rw [hr];exact List.mem_cons_self ..
        have hio:=eH.1 (dH.1 him).1
        refine fun _=>⟨fun hn => ?_,fun j hj oj hoj => ?_⟩
        ·have:i∈Region.ready .any ops listed:=(cW hM).2 ⟨o,him⟩
         rw [hn] at this;cases this
        ·obtain ⟨oj',hm⟩:=(cW hM).1 hj
         have hoj':=eH.1 (dH.1 hm).1
         have:oj=oj':=Option.some.inj (hoj.symm.trans hoj')
         subst this
         rw [hr] at hm
         rcases List.mem_cons.1 hm with hm | hm
         ·have e1:j=i:=congrArg Prod.fst hm
          have e2:oj=o:=congrArg Prod.snd hm
          subst e1;subst e2
          refine sj hI hS hG hF hL (BW hR nb j) hA hio (cN _ _ _ _ h) (fun pe n hk=>hE pe n hk) (fun a' s' V' A' w' e r ar hk => ?_)
          simp only at hk
          cases ck:eC s' (bD (fj ops.toList oj) held) with
          | false=>rw [ck] at hk;exact (hE _ _ hk).elim
          | true=>
           rw [ck] at hk;simp only [cond_true] at hk
           have hH1:=(hH.drop (fj ops.toList oj)).mono e
           have hS1:=jX r hH1 ck
           exact ⟨hS1,IH nb K hE left' _ _ _ _ V' A' w' _ _ hk (hL.mono e) r ar hH1 hS1 (ij (Array.getElem?_eq_some_iff.1 hio).1 hM) (fun a2 s2 V2 A2 w2 e2 r2 ar2 k2=>hK a2 s2 V2 A2 w2 (e.trans e2) r2 ar2 k2)⟩
         ·cases hm
       ·split at h
        ·exact many _ _ rfl h
        ·split at h
         ·rename_i a1 s1 r1 hra
          exact va hI hG hF hQ ht _ mask a s held none a1 s1 r1 hra V A w ch listed hL hR hA hH hSH hM (fun V' A' w' e r ar=>hK a1 s1 V' A' w' e.ext r ar (by rw [e.pe];exact h))
         ·split at h
          ·rename_i im e zs _
           split at h
           ·rename_i a1 s1 r1 hra
            simp only [eh,aj,aX.sat,D.sat] at h
            split at h
            ·rename_i z xs he hz
             obtain ⟨hb,hk⟩:=h
             exact ze hI hG hF hQ ht hb _ mask a s held none a1 s1 r1 hra V A w ch listed hL hR hA hH hSH hM he hz (fun V' A' w' p e1 e2 r ar=>hK a1 s1 V' A' w' e1 r ar (by rw [e2];exact hk p _ rfl))
            ·exact h.elim
           ·exact (hE _ _ h).elim
          ·split at h
           ·exact many _ _ rfl h
           ·exact (hE _ _ h).elim
theorem zg {ih:Ih} {lv:Lv} {m:Nat} (hI:kC P g SP ih m) (hS:eO P g SP) (hG:cv P g) (hF:mZ F) (hQ:∀c a w,¬Q (.panic c) a w) {V:az} {a:A} {A:Act} {s:S} {w:World} {id:Nat} {K:PE->gA->Prop} (hE:∀pe n,¬K pe (.err n)) (hL:ip V lv) (hR:av P V s B w) (hA:aN V a A)
  (h:eh SP (v6 ih lv g ops.toList a s) V.toPE K) (hK:∀a' s' V' A' w',eU V V'->av P V' s' B w'->aN V' a' A'->K V'.toPE (.code .normal a' s')->Q .normal A' w'):(Code.region id ops true).wpIn F n P Q A w:=by
 unfold v6 at h
 cases ht:zV ops.toList with
 | false=>rw [ht] at h;exact (hE _ _ h).elim
 | true =>
  rw [ht] at h;simp only [cond_true] at h
  rw [aO] at h
  refine wpIn_region_any hG.mixed (uc _ _ [] _ _ (fun j o _ hj=>by
   have hf:∀n k,(Array.replicate n false).getD k false=false:=fun n k=>by simp [Array.getD_eq_getD_getElem?,Array.getElem?_replicate];split<;>rfl
   rw [hf] at hj;cases hj) ?_)
  have:=zf (F:=F) (n:=n) (Q:=Q) (B:=B) hI hS hG hF hQ ht _ _ _ hE _ _ _ _ _ V A { w with drawn:=w.drawn+1 } [] (Array.replicate ops.size false) h hL (hR.drew _) hA trivial (fun _ _ _ h=>by cases h)
   ⟨by simp,fun i=>by simp [Array.getD_eq_getD_getElem?,Array.getElem?_replicate];split<;>rfl⟩ hK
  simpa using this
end
end
section
open Go.RowKit
theorem Tr.bare_get {α : Type} : ∀ (t : Tr α), t.bare = true -> ∀ k, t.get k = none := by
 intro t
 induction t with
 | e=>intro _ k;rfl
 | n l v r ihl ihr=>
  intro h k
  simp only [Tr.bare,Bool.and_eq_true] at h
  simp only [Tr.get]
  cases Nat.beq k 0 with
  | true=>cases v<;>simp at h ⊢
  | false=>
        cases Nat.beq (Nat.mod k 2) 1<;>simp only [cond_true,cond_false]
        ·exact ihr h.2 _
        ·exact ihl h.1.2 _
theorem Tr.le_get {α:Type} {p:α->α->Bool} (hp:∀x y,p x y=true->x=y):∀(t u:Tr α),Tr.le p t u=true->∀k x,t.get k=some x->u.get k=some x:=by
 intro t
 induction t with
 | e=>intro u _ k x h;cases h
 | n l v r ihl ihr =>
  intro u h k x hx
  cases u with
  | e=>
   simp only [Tr.le,Bool.and_eq_true] at h
   have:(Tr.n l v r).bare=true:=by simp only [Tr.bare,Bool.and_eq_true];exact h
   rw [Tr.bare_get _ this k] at hx;cases hx
  | n l' v' r' =>
   simp only [Tr.le,Bool.and_eq_true] at h
   obtain ⟨⟨h1,h2⟩,h3⟩:=h
   simp only [Tr.get] at hx ⊢
   cases c:Nat.beq k 0 with
   | true=>
    rw [c] at hx;simp only [cond_true] at hx ⊢
    subst hx
    cases v' with
    | none=>simp at h1
    | some y=>simp at h1;rw [hp _ _ h1]
   | false=>
    rw [c] at hx;simp only [cond_false] at hx ⊢
    cases c2:Nat.beq (Nat.mod k 2) 1 with
    | true=>rw [c2] at hx;exact ihl _ h2 _ _ hx
    | false=>rw [c2] at hx;exact ihr _ h3 _ _ hx
theorem Tr.le_getR {α:Type} {p:α->α->Bool}:∀(t u:Tr α),Tr.le p t u=true->∀k x,t.get k=some x->∃y,u.get k=some y/\p x y=true:=by
 intro t
 induction t with
 | e=>intro u _ k x h;cases h
 | n l v r ihl ihr =>
  intro u h k x hx
  cases u with
  | e=>
   simp only [Tr.le,Bool.and_eq_true] at h
   have:(Tr.n l v r).bare=true:=by simp only [Tr.bare,Bool.and_eq_true];exact h
   rw [Tr.bare_get _ this k] at hx;cases hx
  | n l' v' r' =>
   simp only [Tr.le,Bool.and_eq_true] at h
   obtain ⟨⟨h1,h2⟩,h3⟩:=h
   simp only [Tr.get] at hx ⊢
   cases c:Nat.beq k 0 with
   | true=>
    rw [c] at hx;simp only [cond_true] at hx ⊢
    subst hx
    cases v' with
    | none=>simp at h1
    | some y=>simp at h1;exact ⟨y,rfl,h1⟩
   | false=>
    rw [c] at hx;simp only [cond_false] at hx ⊢
    cases c2:Nat.beq (Nat.mod k 2) 1 with
    | true=>rw [c2] at hx;exact ihl _ h2 _ _ hx
    | false=>rw [c2] at hx;exact ihr _ h3 _ _ hx
theorem ef.leb_cases {b b':ef} (h:b.leb b'=true):b=b'\/∃st p t n d t',b = .loop st p t n d/\b' = .loop st p t' n d/\∀k v,t.get k=some v->t'.get k=some v:=by
 cases b with
 | loop st p t n d =>
  cases b' with
  | loop st' p' t' n' d'=>
   simp only [ef.leb,Bool.and_eq_true,bt,decide_eq_true_eq] at h
   obtain ⟨⟨⟨⟨h1,h2⟩,h3⟩,h4⟩,h5⟩:=h
   have h1:=B0 h1
   have h2:=Ex.eqb_eq h2
   subst h1;subst h2;subst h4;subst h5
   exact .inr ⟨_,_,_,_,_,_,rfl,rfl,fun k v hk=>Tr.le_get Vc.eqb_eq _ _ h3 k v hk⟩
  | cells l e=>exact .inl (ef.eqb_eq _ _ h)
  | row l e=>exact .inl (ef.eqb_eq _ _ h)
  | ro l=>exact .inl (ef.eqb_eq _ _ h)
  | map l c=>exact .inl (ef.eqb_eq _ _ h)
  | defd=>exact .inl (ef.eqb_eq _ _ h)
  | dead=>exact .inl (ef.eqb_eq _ _ h)
 | cells l e=>exact .inl (ef.eqb_eq _ _ h)
 | row l e=>exact .inl (ef.eqb_eq _ _ h)
 | ro l=>exact .inl (ef.eqb_eq _ _ h)
 | map l c=>exact .inl (ef.eqb_eq _ _ h)
 | defd=>exact .inl (ef.eqb_eq _ _ h)
 | dead=>exact .inl (ef.eqb_eq _ _ h)
theorem oF:∀(lv:Lv) (hp:Tr ef) (id:Nat) (b:ef),hp.get id=some b->∃b',(gh lv hp).get id=some b':=by
 intro lv
 induction lv with
 | nil=>intro hp id b h;exact ⟨b,h⟩
 | cons x lv ih =>
  intro hp id b h
  obtain ⟨l,lc⟩:=x
  unfold gh
  split
  ·rename_i st pe t n d hg
   cases hb:Nat.blt l eY with
   | false=>exact ih _ _ _ h
   | true=>
    have hb':l<eY:=by simpa [qX] using hb
    simp only [cond_true]
    by_cases hi:id=l
    ·exact ih _ _ _ (by rw [Tr.get_set64 _ _ _ _ hb',if_pos hi])
    ·exact ih _ _ _ (by rw [Tr.get_set64 _ _ _ _ hb',if_neg hi];exact h)
  ·exact ih _ _ _ h
def jK:List (Hv×Kd)->List Tmp
 | []=>[]
 | (.tmp t,_)::l=>t::jK l
 | _::l=>jK l
theorem nS:∀(hv:List (Hv×Kd)) (vs:List AV) (a:A) (s:S),(dL a s hv vs).1.n=a.n/\(dL a s hv vs).1.marks=a.marks/\(dL a s hv vs).2={ s with heap:=(dL a s hv vs).2.heap }:=by
 intro hv
 induction hv with
 | nil=>intro vs a s;exact ⟨rfl,rfl,rfl⟩
 | cons x hv ih =>
  intro vs a s
  obtain ⟨x,k⟩:=x
  cases vs with
  | nil=>cases x<;>exact ⟨rfl,rfl,rfl⟩
  | cons v vs =>
   cases x with
   | tmp t=>exact ih vs _ s
   | cell id off=>
    simp only [dL]
    obtain ⟨h1,h2,h3⟩:=ih vs a (io s id off v)
    refine ⟨h1,h2,?_⟩
    rw [h3]
    unfold io
    split<;>rfl
   | own t e=>exact ih vs a s
   | row x=>exact ih vs a s
theorem u5 {n:Nat}:∀(hv:List (Hv×Kd)) (vs:List AV) (a:A) (s:S),hv.length=vs.length->lO n hv=true->∀t,
  (t ∉ jK hv->(dL a s hv vs).1.tmps.get t=a.tmps.get t)/\(t∈jK hv->∃(j:Nat) (k:Kd) (v:AV),hv[j]? = some (Hv.tmp t,k)/\vs[j]? = some v/\(dL a s hv vs).1.tmps.get t=some v):=by
 intro hv
 induction hv with
 | nil=>intro vs a s hl _ t;cases vs<;>first | exact ⟨fun _=>rfl,fun h=>by cases h⟩ | cases hl
 | cons x hv ih =>
  intro vs a s hl ho t
  obtain ⟨x,k⟩:=x
  cases vs with
  | nil=>cases hl
  | cons v vs =>
   have hl':hv.length=vs.length:=by simpa using hl
   cases x with
   | tmp t0 =>
    simp only [lO,Bool.and_eq_true,qX,decide_eq_true_eq] at ho
    obtain ⟨⟨⟨o1,o2⟩,_⟩,o3⟩:=ho
    obtain ⟨h1,h2⟩:=ih vs { a with tmps:=Tr.set 64 a.tmps t0 v } s hl' o3 t
    simp only [dL,jK]
    refine ⟨fun hn => ?_,fun hm => ?_⟩
    ·simp only [List.mem_cons,not_or] at hn
     rw [h1 hn.2,Tr.get_set64 _ _ _ _ o2,if_neg hn.1]
    ·by_cases hin:t∈jK hv
     ·obtain ⟨j,k',u,e1,e2,e3⟩:=h2 hin
      exact ⟨j+1,k',u,by simpa using e1,by simpa using e2,e3⟩
     ·have ht:t=t0:=by
       cases hm with
       | head=>rfl
       | tail _ hm=>exact (hin hm).elim
      subst ht
      exact ⟨0,k,v,rfl,rfl,by rw [h1 hin,Tr.get_set64 _ _ _ _ o2,if_pos rfl]⟩
   | cell id off=>
    simp only [lO,Bool.and_eq_true] at ho
    obtain ⟨h1,h2⟩:=ih vs a (io s id off v) hl' ho.2 t
    simp only [dL,jK]
    refine ⟨h1,fun hm => ?_⟩
    obtain ⟨j,k',u,e1,e2,e3⟩:=h2 hm
    exact ⟨j+1,k',u,by simpa using e1,by simpa using e2,e3⟩
   | own t0 e0=>
    simp only [lO,Bool.and_eq_true] at ho
    obtain ⟨h1,h2⟩:=ih vs a s hl' ho.2 t
    simp only [dL,jK]
    refine ⟨h1,fun hm => ?_⟩
    obtain ⟨j,k',u,e1,e2,e3⟩:=h2 hm
    exact ⟨j+1,k',u,by simpa using e1,by simpa using e2,e3⟩
   | row x0=>
    simp only [lO,Bool.and_eq_true] at ho
    obtain ⟨h1,h2⟩:=ih vs a s hl' ho.2 t
    simp only [dL,jK]
    refine ⟨h1,fun hm => ?_⟩
    obtain ⟨j,k',u,e1,e2,e3⟩:=h2 hm
    exact ⟨j+1,k',u,by simpa using e1,by simpa using e2,e3⟩
theorem v8 {s:S} {id off:Nat} {v:AV} (hid:id<eY) (j:Nat):(io s id off v).heap.get j=match s.heap.get j with | some (.cells l e)=>(if j=id then some (.cells (mS l off v) e) else some (.cells l e)) | b=>b:=by
 unfold io
 cases hb:s.heap.get id with
 | none =>
  simp only
  cases hj:s.heap.get j with
  | none=>rfl
  | some b=>
   cases b<;>try rfl
   rename_i l e
   by_cases he:j=id
   ·subst he;rw [hb] at hj;cases hj
   ·simp [he]
 | some b =>
  cases b with
  | cells l e =>
   simp only
   rw [Tr.get_set64 _ _ _ _ hid]
   by_cases he:j=id
   ·subst he;simp [hb]
   ·rw [if_neg he]
    cases hj:s.heap.get j with
    | none=>rfl
    | some b=>cases b<;>first | rfl | simp [he]
  | _ =>
   all_goals
    (simp only
     cases hj:s.heap.get j with
     | none=>rfl
     | some b'=>
      cases b'<;>try rfl
      rename_i l e
      by_cases he:j=id
      ·subst he;rw [hb] at hj;cases hj
      ·simp [he])
theorem nT {n : Nat} : ∀ (hv : List (Hv × Kd)) (vs : List AV) (a : A) (s : S), hv.length = vs.length -> lO n hv = true -> ∀ id,
  (∀ l e, s.heap.get id = some (.cells l e) -> ∃ l', (dL a s hv vs).2.heap.get id = some (.cells l' e) /\ l'.length = l.length /\
   ∀j,j<l.length->((∃k,(Hv.cell id j,k)∈hv)->∃(q:Nat) (k:Kd),hv[q]? = some (Hv.cell id j,k)/\l'[j]? = vs[q]?)/\((∀k,(Hv.cell id j,k) ∉ hv)->l'[j]? = l[j]?))/\
  ((∀l e,s.heap.get id≠some (.cells l e))->(dL a s hv vs).2.heap.get id=s.heap.get id):=by
 intro hv
 induction hv with
 | nil=>
  intro vs a s hl _ id
  refine ⟨fun l e h=>⟨l,by cases vs<;>exact h,rfl,fun j hj=>⟨fun ⟨k,hk⟩=>(by cases hk),fun _=>rfl⟩⟩,fun _=>by cases vs<;>rfl⟩
 | cons x hv ih =>
  intro vs a s hl ho id
  obtain ⟨x,k⟩:=x
  cases vs with
  | nil=>cases hl
  | cons v vs =>
   have hl':hv.length=vs.length:=by simpa using hl
   cases x with
   | tmp t0 =>
    simp only [lO,Bool.and_eq_true] at ho
    obtain ⟨h1,h2⟩:=ih vs { a with tmps:=Tr.set 64 a.tmps t0 v } s hl' ho.2 id
    simp only [dL]
    refine ⟨fun l e h => ?_,h2⟩
    obtain ⟨l',e1,e2,e3⟩:=h1 l e h
    refine ⟨l',e1,e2,fun j hj=>⟨fun ⟨k',hk'⟩ => ?_,fun hn=>(e3 j hj).2 (fun k' hk'=>hn k' (List.mem_cons_of_mem _ hk'))⟩⟩
    have:(Hv.cell id j,k')∈hv:=by
     cases hk' with
     | tail _ h=>exact h
    obtain ⟨q,k2,q1,q2⟩:=(e3 j hj).1 ⟨k',this⟩
    exact ⟨q+1,k2,by simpa using q1,by simpa using q2⟩
   | cell id0 off =>
    simp only [lO,Bool.and_eq_true,qX,decide_eq_true_eq] at ho
    have hid0:=ho.1.1
    obtain ⟨h1,h2⟩:=ih vs a (io s id0 off v) hl' ho.2 id
    have hg:=v8 (s:=s) (off:=off) (v:=v) hid0 id
    simp only [dL]
    refine ⟨fun l e h => ?_,fun hn => ?_⟩
    ·rw [h] at hg
     simp only at hg
     by_cases he:id=id0
     ·subst he
      rw [if_pos rfl] at hg
      obtain ⟨l',e1,e2,e3⟩:=h1 _ e hg
      rw [fD] at e2 e3
      have e2':l'.length=l.length:=by simpa using e2
      refine ⟨l',e1,e2',fun j hj => ?_⟩
      obtain ⟨f1,f2⟩:=e3 j (by simpa using hj)
      by_cases hin:∃k',(Hv.cell id j,k')∈hv
      ·refine ⟨fun _ => ?_,fun hn=>(by obtain ⟨k',hk'⟩:=hin;exact (hn k' (List.mem_cons_of_mem _ hk')).elim)⟩
       obtain ⟨q,k2,q1,q2⟩:=f1 hin
       exact ⟨q+1,k2,by simpa using q1,by simpa using q2⟩
      ·have hno:∀k',(Hv.cell id j,k') ∉ hv:=fun k' hk'=>hin ⟨k',hk'⟩
       have hl2:=f2 hno
       by_cases hj0:j=off
       ·subst hj0
        refine ⟨fun _=>⟨0,k,rfl,by rw [hl2];simp [hj]⟩,fun hn=>(hn k (List.mem_cons_self ..)).elim⟩
       ·refine ⟨fun ⟨k',hk'⟩ => ?_,fun _=>by rw [hl2,List.getElem?_set_ne (fun e=>hj0 e.symm)]⟩
        cases hk' with
        | head=>exact (hj0 rfl).elim
        | tail _ hk'=>exact (hno k' hk').elim
     ·rw [if_neg he] at hg
      obtain ⟨l',e1,e2,e3⟩:=h1 l e hg
      refine ⟨l',e1,e2,fun j hj=>⟨fun ⟨k',hk'⟩ => ?_,fun hn=>(e3 j hj).2 (fun k' hk'=>hn k' (List.mem_cons_of_mem _ hk'))⟩⟩
      have:(Hv.cell id j,k')∈hv:=by
       cases hk' with
       | head=>exact (he rfl).elim
       | tail _ h=>exact h
      obtain ⟨q,k2,q1,q2⟩:=(e3 j hj).1 ⟨k',this⟩
      exact ⟨q+1,k2,by simpa using q1,by simpa using q2⟩
    ·have hg':(io s id0 off v).heap.get id=s.heap.get id:=by
      rw [hg]
      cases hb:s.heap.get id with
      | none=>rfl
      | some b=>cases b<;>first | rfl | (exact (hn _ _ hb).elim)
     rw [h2 (fun l e hc=>hn l e (by rw [<-hg'];exact hc)),hg']
   | own t0 e0 =>
    simp only [lO,Bool.and_eq_true] at ho
    obtain ⟨h1,h2⟩:=ih vs a s hl' ho.2 id
    simp only [dL]
    refine ⟨fun l e h => ?_,h2⟩
    obtain ⟨l',e1,e2,e3⟩:=h1 l e h
    refine ⟨l',e1,e2,fun j hj=>⟨fun ⟨k',hk'⟩ => ?_,fun hn=>(e3 j hj).2 (fun k' hk'=>hn k' (List.mem_cons_of_mem _ hk'))⟩⟩
    have:(Hv.cell id j,k')∈hv:=by
     cases hk' with
     | tail _ h=>exact h
    obtain ⟨q,k2,q1,q2⟩:=(e3 j hj).1 ⟨k',this⟩
    exact ⟨q+1,k2,by simpa using q1,by simpa using q2⟩
   | row x0 =>
    simp only [lO,Bool.and_eq_true] at ho
    obtain ⟨h1,h2⟩:=ih vs a s hl' ho.2 id
    simp only [dL]
    refine ⟨fun l e h => ?_,h2⟩
    obtain ⟨l',e1,e2,e3⟩:=h1 l e h
    refine ⟨l',e1,e2,fun j hj=>⟨fun ⟨k',hk'⟩ => ?_,fun hn=>(e3 j hj).2 (fun k' hk'=>hn k' (List.mem_cons_of_mem _ hk'))⟩⟩
    have:(Hv.cell id j,k')∈hv:=by
     cases hk' with
     | tail _ h=>exact h
    obtain ⟨q,k2,q1,q2⟩:=(e3 j hj).1 ⟨k',this⟩
    exact ⟨q+1,k2,by simpa using q1,by simpa using q2⟩
theorem yB:∀{hv:List (Hv×Kd)} {a:A} {s:S} {us:List AV},fS a s hv=some us->hv.length=us.length/\
  (∀(j:Nat) (t:Tmp) (k:Kd),hv[j]? = some (Hv.tmp t,k)->∃u,us[j]? = some u/\a.tmps.get t=some u)/\(∀(j id off:Nat) (k:Kd),hv[j]? = some (Hv.cell id off,k)->∃u,us[j]? = some u/\yj s id off=some u):=by
 intro hv
 induction hv with
 | nil=>intro a s us h;cases h;exact ⟨rfl,fun j t k h=>by simp at h,fun j id off k h=>by simp at h⟩
 | cons x hv ih =>
  intro a s us h
  obtain ⟨x,k⟩:=x
  cases x with
  | tmp t =>
   simp only [fS] at h
   split at h
   ·rename_i u r hu hr;cases h
    obtain ⟨h1,h2,h3⟩:=ih hr
    refine ⟨by simp [h1],fun j t' k' hj => ?_,fun j id off k' hj => ?_⟩
    ·cases j with
     | zero=>simp at hj;obtain ⟨rfl,rfl⟩:=hj;exact ⟨u,rfl,hu⟩
     | succ j=>exact h2 j t' k' (by simpa using hj)
    ·cases j with
     | zero=>simp at hj
     | succ j=>exact h3 j id off k' (by simpa using hj)
   ·cases h
  | cell id0 off0 =>
   simp only [fS] at h
   split at h
   ·rename_i u r hu hr;cases h
    obtain ⟨h1,h2,h3⟩:=ih hr
    refine ⟨by simp [h1],fun j t' k' hj => ?_,fun j id off k' hj => ?_⟩
    ·cases j with
     | zero=>simp at hj
     | succ j=>exact h2 j t' k' (by simpa using hj)
    ·cases j with
     | zero=>simp at hj;obtain ⟨⟨rfl,rfl⟩,rfl⟩:=hj;exact ⟨u,rfl,hu⟩
     | succ j=>exact h3 j id off k' (by simpa using hj)
   ·cases h
  | own t0 e0 =>
   simp only [fS] at h
   split at h
   ·rename_i u r hu hr;cases h
    obtain ⟨h1,h2,h3⟩:=ih hr
    refine ⟨by simp [h1],fun j t' k' hj => ?_,fun j id off k' hj => ?_⟩
    ·cases j with
     | zero=>simp at hj
     | succ j=>exact h2 j t' k' (by simpa using hj)
    ·cases j with
     | zero=>simp at hj
     | succ j=>exact h3 j id off k' (by simpa using hj)
   ·cases h
  | row x0 =>
   simp only [fS] at h
   split at h
   ·rename_i u r hu hr;cases h
    obtain ⟨h1,h2,h3⟩:=ih hr
    refine ⟨by simp [h1],fun j t' k' hj => ?_,fun j id off k' hj => ?_⟩
    ·cases j with
     | zero=>simp at hj
     | succ j=>exact h2 j t' k' (by simpa using hj)
    ·cases j with
     | zero=>simp at hj
     | succ j=>exact h3 j id off k' (by simpa using hj)
   ·cases h
theorem Cx:∀{hv:List (Hv×Kd)} {a:A} {s:S} {us:List AV},fS a s hv=some us->∀(j x:Nat) (k:Kd),hv[j]? = some (Hv.row x,k)->∃o,bB s.own x=some o/\us[j]? = some (.whole o.r):=by
 intro hv
 induction hv with
 | nil=>intro a s us h j x k hj;simp at hj
 | cons y hv ih =>
  intro a s us h j x k hj
  obtain ⟨y,k0⟩:=y
  cases y<;>simp only [fS] at h<;>(split at h<;>first | (cases h;done) | skip)
  all_goals
   rename_i u r hu hr
   cases h
   cases j with
   | zero=>first
    | (simp at hj;done)
    | (simp at hj;obtain ⟨rfl,rfl⟩:=hj;exact ⟨_,hu,rfl⟩)
   | succ j=>exact ih hr j x k (by simpa using hj)
theorem zd:∀{hv:List (Hv×Kd)} {vs:List AV} {y r:Nat},tI hv vs y=some r->∃(j:Nat) (k:Kd),hv[j]? = some (Hv.row y,k)/\vs[j]? = some (.whole r):=by
 intro hv
 induction hv with
 | nil=>intro vs y r h;cases vs<;>cases h
 | cons x hv ih =>
  intro vs y r h
  obtain ⟨x,k⟩:=x
  cases vs with
  | nil=>cases x<;>cases h
  | cons v vs =>
   cases x<;>simp only [tI] at h
   case row x=>
    cases hb:Nat.beq x y with
    | true=>
     rw [hb] at h;simp only [cond_true] at h
     have:x=y:=by simpa using hb
     subst this
     split at h
     ·cases h;exact ⟨0,k,rfl,rfl⟩
     ·cases h
    | false=>
     rw [hb] at h
     obtain ⟨j,k',e1,e2⟩:=ih h
     exact ⟨j+1,k',by simpa using e1,by simpa using e2⟩
   all_goals
    obtain ⟨j,k',e1,e2⟩:=ih h
    exact ⟨j+1,k',by simpa using e1,by simpa using e2⟩
def DD (V' W:az) (own':List cL) (u:Option cL) (o:cL):Prop:=
 ∃q l n c,aA W.τ o.a=some (gP o.m q)/\aA W.ρ o.r=some l/\aQ W.σ o.len=some n/\aQ W.σ o.cap=some c/\
  match u with
  | none=>q=none/\l=[]/\n=0/\c=0/\o.m=false
  | some o'=>o'∈own'/\(o'.m=o.m/\o'.e=o.e)/\aA V'.τ o'.a=some (gP o'.m q)/\aA V'.ρ o'.r=some l/\aQ V'.σ o'.len=some n/\aQ V'.σ o'.cap=some c
def kD (V' W:az) (own':List cL):List (Option cL)->List cL->Prop
 | [],[]=>True
 | u::us,o::os=>DD V' W own' u o/\kD V' W own' us os
 | _,_=>False
theorem yI {V' W:az} {own':List cL}:∀{us vs:List (Option cL)} {os ps:List cL},kD V' W own' us os->kD V' W own' vs ps->kD V' W own' (us++vs) (os++ps):=by
 intro us
 induction us with
 | nil=>intro vs os ps h k;cases os<;>first | exact k | exact h.elim
 | cons u us ih=>
  intro vs os ps h k
  cases os with
  | nil=>exact h.elim
  | cons o os=>exact ⟨h.1,ih h.2 k⟩
theorem tc {V' W:az} {own':List cL}:∀{us:List (Option cL)} {os:List cL},kD V' W own' us os->∀o∈os,∃u∈us,DD V' W own' u o:=by
 intro us
 induction us with
 | nil=>intro os h o ho;cases os<;>first | exact h.elim | cases ho
 | cons u us ih =>
  intro os h o ho
  cases os with
  | nil=>cases ho
  | cons o' os=>
   cases ho with
   | head=>exact ⟨u,List.mem_cons_self ..,h.1⟩
   | tail _ ho=>obtain ⟨u',h1,h2⟩:=ih h.2 o ho;exact ⟨u',List.mem_cons_of_mem _ h1,h2⟩
theorem zF:∀{us:List (Option cL)} {x:Nat},tS x us=true->∀o,some o∈us->o.a≠x:=by
 intro us
 induction us with
 | nil=>intro x _ o h;cases h
 | cons u us ih =>
  intro x h o ho
  cases u with
  | none=>
   cases ho with
   | tail _ ho=>exact ih h o ho
  | some o'=>
   simp only [tS,Bool.and_eq_true,Bool.not_eq_true',bt,decide_eq_false_iff_not] at h
   cases ho with
   | head=>exact h.1
   | tail _ ho=>exact ih h.2 o ho
theorem yV:∀{l:List cL} {o:cL},o∈l->∃o',bB l o.a=some o':=by
 intro l
 induction l with
 | nil=>intro o h;cases h
 | cons x l ih =>
  intro o h
  simp only [bB]
  cases hb:Nat.beq x.a o.a with
  | true=>exact ⟨x,rfl⟩
  | false=>
   cases h with
   | head=>simp at hb
   | tail _ h=>exact ih h
theorem EV:∀{l:List cL},qN l=true->(l.map cL.a).Nodup:=by
 intro l
 induction l with
 | nil=>intro _;simp
 | cons o l ih=>
  intro h
  simp only [qN,Bool.and_eq_true] at h
  simp only [List.map_cons,List.nodup_cons]
  refine ⟨fun hm => ?_,ih h.2⟩
  obtain ⟨y,hy,e⟩:=List.mem_map.1 hm
  obtain ⟨o',h1⟩:=yV hy
  rw [e] at h1
  have:=h.1
  rw [h1] at this
  cases this
theorem ur {P : Program} {V' W : az} {hp hp' : Tr ef} {own own' : List cL} {B w : World} {src : List (Option cL)} (hO : yf P V' hp' own' B w) (hm : kD V' W own' src own) (hnd : qQ src = true) (hna : qN own = true)
  (hmem:∀b,V'.mem b=none->W.mem b=none) (hap:∀b,mX V' hp' b->mX W hp b):yf P W hp own B w:=by
 refine ⟨EV hna,fun o ho => ?_,?_⟩
 ·obtain ⟨u,_,q,l,n,c,h1,h2,h3,h4,h5⟩:=tc hm o ho
  cases u with
  | none=>
   obtain ⟨rfl,rfl,rfl,rfl,hmf⟩:=h5
   exact ⟨none,[],0,0,h1,h2,h3,h4,⟨by omega,fun _ x hx=>by cases hx⟩,fun _ i _=>by simp,fun _=>⟨rfl,hmf⟩,fun p hp=>by cases hp⟩
  | some o' =>
   obtain ⟨k1,⟨k0,k2⟩,k3,k4,k5,k6⟩:=h5
   obtain ⟨q',l',n',c',m1,m2,m3,m4,m5,m6,m7,m8⟩:=hO.ok o' k1
   rw [k4] at m2;cases m2
   rw [k5] at m3;cases m3
   rw [k6] at m4;cases m4
   have hfin:∀p,q'=some p->p.off=0/\p.spot=none/\B.heap.size<=p.block/\W.mem p.block=none/\mX W hp p.block/\∃ob,w.heap[p.block]? = some ob/\fu P o l c ob:=fun p hp=>by
    obtain ⟨e1,e2,e3,e4,e5,ob,e6,e7⟩:=m8 p hp
    refine ⟨e1,e2,e3,hmem _ e4,hap _ e5,ob,e6,?_⟩
    unfold fu at e7 ⊢
    rw [k0,k2] at e7
    exact e7
   rw [k0,k2] at m6
   rw [k0] at m5 m7
   refine ⟨q',l,n,c,?_,h2,h3,h4,m5,m6,m7,hfin⟩
   rw [h1,<-k0]
   exact k3.symm.trans m1
 ·have key : ∀ (src : List (Option cL)) (own : List cL), kD V' W own' src own -> qQ src = true -> ∀ o ∈ own, ∀ o2 ∈ own, ∀ p p', o.a ≠ o2.a -> aA W.τ o.a = some (gP o.m (some p)) -> aA W.τ o2.a = some (gP o2.m (some p')) -> p.block ≠ p'.block := by
   intro src
   induction src with
   | nil=>intro own hm _ o ho;cases own<;>first | exact hm.elim | cases ho
   | cons u src ih =>
    intro own hm hnd o ho o2 ho2 p p' hne hp hp'
    cases own with
    | nil=>cases ho
    | cons x own =>
     have hnd':qQ src=true:=by
      cases u with
      | none=>exact hnd
      | some o=>simp only [qQ,Bool.and_eq_true] at hnd;exact hnd.2
     have pair:∀(y:cL) (q q':Addr),y∈own->aA W.τ x.a=some (gP x.m (some q))->aA W.τ y.a=some (gP y.m (some q'))->q.block≠q'.block:=by
      intro y q q' hy hq hq'
      obtain ⟨q1,l1,n1,c1,a1,_,_,_,a5⟩:=hm.1
      obtain ⟨u2,hu2,q2,l2,n2,c2,b1,_,_,_,b5⟩:=tc hm.2 y hy
      obtain ⟨qa,rfl,ea⟩:=kj hq a1
      obtain ⟨qb,rfl,eb⟩:=kj hq' b1
      cases u with
      | none=>cases a5.1
      | some o1 =>
       cases u2 with
       | none=>cases b5.1
       | some o3=>
        simp only [qQ,Bool.and_eq_true] at hnd
        rw [<-ea,<-eb]
        exact hO.dj o1 a5.1 o3 b5.1 qa qb (zF hnd.1 o3 hu2).symm a5.2.2.1 b5.2.2.1
     cases ho with
     | head=>
      cases ho2 with
      | head=>exact (hne rfl).elim
      | tail _ ho2=>exact pair o2 p p' ho2 hp hp'
     | tail _ ho=>
      cases ho2 with
      | head=>exact (pair o p' p ho hp' hp).symm
      | tail _ ho2=>exact ih own hm.2 hnd' o ho o2 ho2 p p' hne hp hp'
  exact key src own hm hnd
theorem ai (q:Option Addr):(q.map fun p=>p.add 0)=q:=by cases q<;>simp [Addr.add]
theorem EQ {V' W : az} {ah a' : A} {s' : S} (hT : ∀ t v v', ah.tmps.get t = some v -> a'.tmps.get t = some v' -> ∃ x, v.conc W = some x /\ v'.conc V' = some x) :
  ∀(hv:List (Hv×Kd)) (vs us:List AV) (ws:List Value) (nw:List cL) (src:List (Option cL)),lX ah hv vs=some nw->nP a' s' hv=some src->fS a' s' hv=some us->concL W vs=some ws->concL V' us=some ws->hv.length=vs.length->kD V' W s'.own src nw:=by
 intro hv
 induction hv with
 | nil=>
  intro vs us ws nw src h1 h2 h3 h4 h5 h6
  cases vs with
  | nil=>cases h1;cases h2;trivial
  | cons _ _=>cases h6
 | cons x hv ih =>
  intro vs us ws nw src h1 h2 h3 h4 h5 h6
  obtain ⟨x,k⟩:=x
  cases vs with
  | nil=>cases h6
  | cons v vs =>
   have h6':hv.length=vs.length:=by simpa using h6
   obtain ⟨x1,ws',rfl,hv1,hvs⟩:=ag h4
   cases x with
   | own t e =>
    simp only [lX] at h1
    simp only [nP] at h2
    simp only [fS] at h3
    split at h1
    ·rename_i r x0 off n c nw' hx0 hnw'
     cases cl:dv off with
     | false=>rw [cl] at h1;cases h1
     | true =>
      rw [cl] at h1;cases h1
      have:=dB cl;subst this
      split at h2
      ·rename_i o os ho hos;cases h2
       rw [ho] at h3
       split at h3
       ·rename_i u us' hu hus;cases hu;cases h3
        obtain ⟨y1,ws2,e1,hu1,hus1⟩:=ag h5
        cases e1
        refine ⟨?_,ih vs us' ws' nw' os hnw' hos hus hvs hus1 h6'⟩
        -- the row
        have hrow:∃l,aA W.ρ r=some l/\x1 = .tuple l.toArray:=by
         simp only [AV.conc] at hv1
         split at hv1
         ·rename_i l hl;cases hv1;exact ⟨l,hl,rfl⟩
         ·cases hv1
        obtain ⟨l,hl,rfl⟩:=hrow
        unfold ET at ho
        split at ho
        ·rename_i ht;cases ho
         obtain ⟨X,hX1,hX2⟩:=hT t _ _ hx0 ht
         simp only [AV.conc,Option.some.injEq] at hX2
         subst hX2
         obtain ⟨p,o0,N,C,g1,g2,g3,g4,g5⟩:=bX hX1
         have go:o0=0:=by have:aQ W.σ (.lit 0)=some 0:=rfl;rw [this] at g2;cases g2;rfl
         subst go
         rw [ai] at g5;cases g5
         have hlt:aA W.τ x0=some (.pointer none):=by
          unfold aM at g1
          split at g1
          ·rename_i p hp;cases g1;exact hp
          ·cases g1
         have hl0:l=[]:=by
          have h0:(ww none).conc V'=some (.tuple #[]):=rfl
          rw [h0] at hu1;injection hu1 with hu1;injection hu1 with hu1
          have:=congrArg Array.toList hu1
          simpa using this.symm
         exact ⟨none,l,0,0,hlt,hl,g3,g4,rfl,hl0,rfl,rfl,rfl⟩
        ·rename_i x' off' n' c' ht
         split at ho
         ·rename_i o' ho'
          cases cc:(!o'.m&&dv off'&&o'.len.eqb n'&&o'.cap.eqb c'&&Nat.beq o'.e e) with
          | false=>rw [cc] at ho;cases ho
          | true =>
           rw [cc] at ho;cases ho
           simp only [Bool.and_eq_true,bt,decide_eq_true_eq,Bool.not_eq_true'] at cc
           obtain ⟨⟨⟨⟨c0,c1⟩,c2⟩,c3⟩,c4⟩:=cc
           have:=dB c1;subst this
           have:=IE.eqb_eq _ _ c2;subst this
           have:=IE.eqb_eq _ _ c3;subst this
           obtain ⟨m1,m2⟩:=bd ho'
           obtain ⟨X,hX1,hX2⟩:=hT t _ _ hx0 ht
           obtain ⟨p,o0,N,C,g1,g2,g3,g4,g5⟩:=bX hX1
           obtain ⟨p',o0',N',C',g1',g2',g3',g4',g5'⟩:=bX hX2
           have go:o0=0:=by have:aQ W.σ (.lit 0)=some 0:=rfl;rw [this] at g2;cases g2;rfl
           have go':o0'=0:=by have:aQ V'.σ (.lit 0)=some 0:=rfl;rw [this] at g2';cases g2';rfl
           subst go;subst go'
           rw [ai] at g5 g5'
           rw [g5] at g5';cases g5'
           have hlt:aA W.τ x0=some (.pointer p):=by
            unfold aM at g1
            split at g1
            ·rename_i p hp;cases g1;exact hp
            ·cases g1
           have hlt':aA V'.τ o'.a=some (gP o'.m p):=by
            rw [m2,c0]
            show _=some (Value.pointer p)
            unfold aM at g1'
            split at g1'
            ·rename_i p hp;cases g1';exact hp
            ·cases g1'
           have hl':aA V'.ρ o'.r=some l:=by
            simp only [ww,AV.conc] at hu1
            split at hu1
            ·rename_i l2 hl2
             injection hu1 with hu1;injection hu1 with hu1
             have:=congrArg Array.toList hu1
             simp only at this
             rw [<-this];exact hl2
            ·cases hu1
           exact ⟨p,l,N,C,hlt,hl,g3,g4,m1,⟨c0,c4⟩,hlt',hl',g3',g4'⟩
         ·cases ho
        ·cases ho
       ·cases h3
      ·cases h2
    ·cases h1
   | _ =>
    all_goals
     simp only [lX] at h1
     simp only [nP] at h2
     simp only [fS] at h3
     split at h3
     ·rename_i u us' hu hus;cases h3
      obtain ⟨y1,ws2,e1,hu1,hus1⟩:=ag h5
      cases e1
      exact ih vs us' ws' nw src h1 h2 hus hvs hus1 h6'
     ·cases h3
theorem CG {P:Program} {V V' W:az} {a':A} {s s':S} {B w:World} {hv:List (Hv×Kd)} {vs us:List AV} {ws:List Value} (hR:av P V s B w) (hx:eU V V') (hn:eU V W) (hg:fS a' s' hv=some us) (h4:concL W vs=some ws) (h5:concL V' us=some ws) :
  ∀(base:List cL) (src:List (Option cL)),(∀o∈base,o∈s.own)->rp hv vs s' base=some src->kD V' W s'.own src (kO hv vs base):=by
 intro base
 induction base with
 | nil=>intro src _ h;cases h;trivial
 | cons o base ih =>
  intro src hb h
  simp only [rp] at h
  split at h
  ·rename_i o' os ho' hos
   cases cc:((o'.m==o.m)&&Nat.beq o'.e o.e&&o'.len.eqb o.len&&o'.cap.eqb o.cap&&vZ hv vs o.a o'.r o.r) with
   | false=>rw [cc] at h;cases h
   | true =>
    rw [cc] at h;cases h
    simp only [Bool.and_eq_true,bt,decide_eq_true_eq,beq_iff_eq] at cc
    obtain ⟨⟨⟨⟨c0,c1⟩,c2⟩,c3⟩,c4⟩:=cc
    have e2:=IE.eqb_eq _ _ c2
    have e3:=IE.eqb_eq _ _ c3
    obtain ⟨m1,m2⟩:=bd ho'
    obtain ⟨q,l,n,c,k1,k2,k3,k4,_⟩:=hR.own.ok o (hb o (List.mem_cons_self ..))
    refine ⟨?_,ih os (fun o ho=>hb o (List.mem_cons_of_mem _ ho)) hos⟩
    cases hr:tI hv vs o.a with
    | none=>
     unfold vZ at c4
     rw [hr] at c4
     have e4:o'.r=o.r:=by simpa using c4
     exact ⟨q,l,n,c,hn.up.τ _ _ k1,hn.up.ρ _ _ k2,bP hn.up.σ k3,bP hn.up.σ k4,m1,⟨c0,c1⟩,by rw [m2,c0];exact hx.up.τ _ _ k1,by rw [e4];exact hx.up.ρ _ _ k2,by rw [e2];exact bP hx.up.σ k3,by rw [e3];exact bP hx.up.σ k4⟩
    | some r =>
     obtain ⟨j,kk,j1,j2⟩:=zd hr
     obtain ⟨o2,j3,j4⟩:=Cx hg j o.a kk j1
     rw [ho'] at j3;cases j3
     obtain ⟨x,x1,x2⟩:=iK h4 j2
     obtain ⟨x',x3,x4⟩:=iK h5 j4
     rw [x1] at x3;cases x3
     simp only [AV.conc] at x2 x4
     split at x2
     ·rename_i l1 hl1
      cases x2
      split at x4
      ·rename_i l2 hl2
       injection x4 with x4;injection x4 with x4
       have:=congrArg Array.toList x4
       simp only at this
       subst this
       exact ⟨q,l2,n,c,hn.up.τ _ _ k1,hl1,bP hn.up.σ k3,bP hn.up.σ k4,m1,⟨c0,c1⟩,by rw [m2,c0];exact hx.up.τ _ _ k1,hl2,by rw [e2];exact bP hx.up.σ k3,by rw [e3];exact bP hx.up.σ k4⟩
      ·cases x4
     ·cases x2
  ·cases h
theorem xW:∀{us:List (Option cL)} {ow:List cL} {o:cL},o∈pn us ow->o∈ow:=by
 intro us
 induction us with
 | nil=>intro ow o h;exact h
 | cons u us ih=>
  intro ow o h
  cases u with
  | none=>exact ih h
  | some o'=>exact (am (ih (ow:=bc ow o'.a) h)).1
section
variable {P:Program} {B:World}
theorem jR {V V' Vn:az} (h':eU V V') (hn:eU V Vn) {v:AV} {y x:Value} (h:v.conc V=some y) (hx:v.conc V'=some x):v.conc Vn=some x:=by
 have:=aF h' _ _ h
 rw [hx] at this;cases this
 exact aF hn _ _ h
theorem nC {V V' Vn:az} (h':eU V V') (hn:eU V Vn) {l:List AV} {ys xs:List Value} (h:concL V l=some ys) (hx:concL V' l=some xs):concL Vn l=some xs:=by
 have:=aG h' h
 rw [hx] at this;cases this
 exact aG hn h
theorem Cd {V V' Vn:az} (h':eU V V') (hn:eU V Vn) {t:Tr AV} {n:Nat} {tm0 tm:Array Value} (h:oc V t n tm0) (hx:oc V' t n tm):oc Vn t n tm:=
 ⟨hx.1,fun k v hv=>jR h' hn (h.2 k v hv) (hx.2 k v hv)⟩
theorem yc {V V' Vn:az} (h':eU V V') (hn:eU V Vn):∀{es:List (AV×AV×Nat)} {ms0 ms:List MapEntry},dP V es ms0->dP V' es ms->dP Vn es ms:=by
 intro es
 induction es with
 | nil=>intro ms0 ms h0 h;cases ms<;>first | trivial | exact h.elim
 | cons e es ih =>
  intro ms0 ms h0 h
  obtain ⟨k,v,b⟩:=e
  cases ms0 with
  | nil=>exact h0.elim
  | cons m0 ms0=>
   cases ms with
   | nil=>exact h.elim
   | cons m ms=>exact ⟨jR h' hn h0.1 h.1,jR h' hn h0.2.1 h.2.1,h.2.2.1,ih h0.2.2.2 h.2.2.2⟩
theorem Cb {V V' Vn:az} (h':eU V V') (hn:eU V Vn) {b:ef} {id:Nat} {p:Nat×Nat} {o0 o:Option Obj} (h:ni P V b id p o0) (hx:ni P V' b id p o):ni P Vn b id p o:=by
 cases b with
 | cells l e=>
  obtain ⟨vs0,_,k1,_⟩:=h
  obtain ⟨vs,fz,h1,h2,h3⟩:=hx
  exact ⟨vs,fz,nC h' hn k1 h1,h2,h3⟩
 | row l e=>
  obtain ⟨vs0,_,_,k1,_⟩:=h
  obtain ⟨vs,rest,fz,h1,h2,h3,h4⟩:=hx
  exact ⟨vs,rest,fz,nC h' hn k1 h1,h2,h3,h4⟩
 | ro l=>
  obtain ⟨vs0,_,_,_,k1,_⟩:=h
  obtain ⟨vs,rest,e,fz,h1,h2⟩:=hx
  exact ⟨vs,rest,e,fz,nC h' hn k1 h1,h2⟩
 | map es c=>
  obtain ⟨ms0,k1,_⟩:=h
  obtain ⟨ms,h1,h2⟩:=hx
  exact ⟨ms,yc h' hn k1 h1,h2⟩
 | defd=>exact hx
 | loop st pe t n d=>
  obtain ⟨fn0,lc0,pd0,tm0,k1,k2,k3,k4⟩:=h
  obtain ⟨fn,lc,pd,tm,h1,h2,h3,h4⟩:=hx
  have e1:=h'.L _ _ k1;rw [h1] at e1;have e1:=Option.some.inj e1
  have e2:=h'.E _ _ k2;rw [h2] at e2;have e2:=Option.some.inj e2
  exact ⟨fn,lc,pd,tm,e1▸hn.L _ _ k1,e2▸hn.E _ _ k2,Cd h' hn k3 h3,h4⟩
 | dead=>trivial
theorem jQ {V:az} {l:List AV} {ws:List Value} (h:concL V l=some ws) {j:Nat} {u:AV} (hu:l[j]? = some u):∃x,ws[j]? = some x/\u.conc V=some x:=iK h hu
theorem ef.leb_same {b b':ef} (h:b.leb b'=true):ct b'=ct b/\wY b'=wY b:=by
 rcases ef.leb_cases h with rfl | ⟨_,_,_,_,_,_,rfl,rfl,_⟩<;>exact ⟨rfl,rfl⟩
theorem uy {V:az} {b b':ef} (h:b.leb b'=true) {id:Nat} {p:Nat×Nat} {o:Option Obj} (k:ni P V b' id p o):ni P V b id p o:=by
 rcases ef.leb_cases h with rfl | ⟨_,_,_,_,_,_,rfl,rfl,hs⟩
 ·exact k
 ·obtain ⟨fn,lc,pd,tm,h1,h2,h3,h4⟩:=k
  exact ⟨fn,lc,pd,tm,h1,h2,⟨h3.1,fun k v hk=>h3.2 k v (hs k v hk)⟩,h4⟩
theorem I9 {V V':az} {s0 s1 s':S} {w0 w':World} {a0 a' ah:A} {sh:S} {A0 A':Act} {hv:List (Hv×Kd)} {vs us:List AV} {ws:List Value} {pe:PE} {n:Nat} {a1:A}
  (hR0:av P V s0 B w0) (hA0:aN V a0 A0) (hR':av P V' s' B w') (hA':aN V' a' A') (hx:eU V V') (hvars:kH P B w0 V s0 vs pe s1 ws) (hus:concL V' us=some ws)
  (hok:lO n hv=true) (hlen:hv.length=vs.length) {sh0:S} (hhead:(dL a1 s1 hv vs).2=sh0) {nw base:List cL} {lv:Lv} (hsh:sh={ sh0 with heap:=gh lv sh0.heap,own:=nw++kO hv vs base }) (hnw:lX ah hv vs=some nw) (hbase:∀o∈base,o∈s0.own) (hof:jt hv vs base a' s'=true) (hnd:qN sh.own=true) (hf0:vM ah sh hv vs a0 s0=true) (hf:vM ah sh hv vs a' s'=true) (hget:fS a' s' hv=some us) :
  av P (V.at pe) sh B w'/\aN (V.at pe) ah A':=by
 have hn:eU V (V.at pe):=aD hvars.up
 have hvals:concL (V.at pe) vs=some ws:=cG hvars.vals rfl
 unfold vM at hf hf0
 rcases hp0:dL a0 s0 hv vs with ⟨ap0,sp0⟩
 rcases hp:dL a' s' hv vs with ⟨ap,sp⟩
 rw [hp0] at hf0;rw [hp] at hf
 simp only [Bool.and_eq_true,bt,decide_eq_true_eq] at hf hf0
 obtain ⟨⟨⟨f1,f2⟩,f3⟩,f4⟩:=hf
 obtain ⟨⟨⟨g1,g2⟩,g3⟩,g4⟩:=hf0
 have f2:=mJ f2
 have g2:=mJ g2
 have b0:=nS hv vs a0 s0
 have b1:=nS hv vs a' s'
 rw [hp0] at b0;rw [hp] at b1
 obtain ⟨l1,l2,l3⟩:=yB hget
 have bs1:=nS hv vs a1 s1
 rw [hhead] at bs1
 have hheap:sh.heap=gh lv sh0.heap:=by rw [hsh]
 have hall:sh={ s1 with heap:=sh.heap,own:=sh.own }:=by rw [hsh];show _=_;rw [bs1.2.2]
 -- the blocks of the head
 have blk:∀id bh,sh.heap.get id=some bh->∃b0 b',s0.heap.get id=some b0/\s'.heap.get id=some b'/\ct b0=ct bh/\wY b0=wY bh/\ct b'=ct bh/\
   ∀p o0 o,ni P V b0 id p o0->ni P V' b' id p o->ni P (V.at pe) bh id p o:=by
  intro id bh hb
  obtain ⟨y1,e1,y1l⟩:=Tr.le_getR _ _ f4 id bh hb
  obtain ⟨y0,e0,y0l⟩:=Tr.le_getR _ _ g4 id bh hb
  have cell1:∀l e,y1 = .cells l e->bh = .cells l e:=fun l e h=>by
   rcases ef.leb_cases y1l with q | ⟨_,_,_,_,_,_,_,q,_⟩
   ·rw [q,h]
   ·rw [q] at h;cases h
  have cell0:∀l e,y0 = .cells l e->bh = .cells l e:=fun l e h=>by
   rcases ef.leb_cases y0l with q | ⟨_,_,_,_,_,_,_,q,_⟩
   ·rw [q,h]
   ·rw [q] at h;cases h
  have c1:=nT (n:=n) hv vs a' s' hlen hok id
  have c0:=nT (n:=n) hv vs a0 s0 hlen hok id
  rw [hp] at c1;rw [hp0] at c0
  by_cases hc:∃l e,s'.heap.get id=some (.cells l e)
  ·obtain ⟨l,e,hl⟩:=hc
   obtain ⟨l',k1,k2,k3⟩:=c1.1 l e hl
   simp only at k1
   rw [e1] at k1;cases k1
   have hbh:=cell1 _ _ rfl
   subst hbh
   by_cases hc0:∃l e,s0.heap.get id=some (.cells l e)
   ·obtain ⟨l0,e0',hl0⟩:=hc0
    obtain ⟨l0',m1,m2,m3⟩:=c0.1 l0 e0' hl0
    simp only at m1
    rw [e0] at m1;cases m1
    have hbh:=cell0 _ _ rfl
    cases hbh
    refine ⟨_,_,hl0,hl,rfl,rfl,rfl,fun p o0 o hb0 hb' => ?_⟩
    obtain ⟨ys,_,y1,_⟩:=hb0
    obtain ⟨xs,fz,x1,x2,x3⟩:=hb'
    refine ⟨xs,fz,?_,x2,x3⟩
    obtain ⟨x4,x5⟩:=dS.1 x1
    obtain ⟨y4,y5⟩:=dS.1 y1
    refine dS.2 ⟨by rw [k2];exact x4,fun j v x hj hxj => ?_⟩
    have hjl:j<l.length:=by rw [<-k2];exact (List.getElem?_eq_some_iff.1 hj).1
    by_cases hin:∃k,(Hv.cell id j,k)∈hv
    ·obtain ⟨q,k,q1,q2⟩:=(k3 j hjl).1 hin
     rw [hj] at q2
     obtain ⟨u,u1,u2⟩:=l3 q id j k q1
     unfold yj at u2
     rw [hl] at u2
     simp only [cJ] at u2
     obtain ⟨z,z1,z2⟩:=jQ hvals q2.symm
     obtain ⟨z',z3,z4⟩:=jQ hus u1
     rw [z1] at z3;cases z3
     have:=x5 j u x u2 hxj
     rw [z4] at this;cases this
     exact z2
    ·have hno:∀k,(Hv.cell id j,k) ∉ hv:=fun k hk=>hin ⟨k,hk⟩
     have r1:=(k3 j hjl).2 hno
     have r0:=(m3 j (by omega)).2 hno
     have hv':=x5 j v x (by rw [<-r1];exact hj) hxj
     have h0j:l0[j]? = some v:=by rw [<-r0];exact hj
     obtain ⟨y,y6,y7⟩:=jQ y1 h0j
     exact jR hx hn y7 hv'
   ·have:=c0.2 (fun l e h=>hc0 ⟨l,e,h⟩)
    simp only at this
    rw [e0] at this
    rcases ef.leb_cases y0l with q | ⟨_,_,_,_,_,_,q,_⟩
    ·rw [<-q] at this;exact (hc0 ⟨_,_,this.symm⟩).elim
    ·cases q
  ·have h1:=c1.2 (fun l e h=>hc ⟨l,e,h⟩)
   simp only at h1
   rw [e1] at h1
   by_cases hc0:∃l e,s0.heap.get id=some (.cells l e)
   ·obtain ⟨l0,e0',hl0⟩:=hc0
    obtain ⟨l0',m1,_⟩:=c0.1 l0 e0' hl0
    simp only at m1
    rw [e0] at m1;cases m1
    have hbh:=cell0 _ _ rfl
    subst hbh
    rcases ef.leb_cases y1l with q | ⟨_,_,_,_,_,_,q,_⟩
    ·rw [<-q] at h1;exact (hc ⟨_,_,h1.symm⟩).elim
    ·cases q
   ·have h0:=c0.2 (fun l e h=>hc0 ⟨l,e,h⟩)
    simp only at h0
    rw [e0] at h0
    exact ⟨y0,y1,h0.symm,h1.symm,(ef.leb_same y0l).1,(ef.leb_same y0l).2,(ef.leb_same y1l).1,fun p o0 o hb0 hb'=>Cb hx hn (uy y0l hb0) (uy y1l hb')⟩
 have dom:∀id b,s0.heap.get id=some b->∃bh,sh.heap.get id=some bh:=by
  intro id b hb
  have hb1:s1.heap.get id=some b:=by rw [hvars.heap];exact hb
  have c1:=nT (n:=n) hv vs a1 s1 hlen hok id
  rw [hhead] at c1
  rw [hheap]
  by_cases hc:∃l e,s1.heap.get id=some (.cells l e)
  ·obtain ⟨l,e,hl⟩:=hc
   obtain ⟨l',k1,_⟩:=c1.1 l e hl
   exact oF lv _ id _ k1
  ·exact oF lv _ id b (by rw [c1.2 (fun l e h=>hc ⟨l,e,h⟩)];exact hb1)
 have htm:oc (V.at pe) ah.tmps ah.n A'.tmps:=by
  refine ⟨by rw [hA'.tm.1,f1,b1.1],fun t v hv' => ?_⟩
  have e1:=Tr.le_get eqb_eq _ _ f3 t v hv'
  have e0:=Tr.le_get eqb_eq _ _ g3 t v hv'
  have t1:=u5 (n:=n) hv vs a' s' hlen hok t
  have t0:=u5 (n:=n) hv vs a0 s0 hlen hok t
  rw [hp] at t1;rw [hp0] at t0
  by_cases hin:t∈jK hv
  ·obtain ⟨j,k,u,q1,q2,q3⟩:=t1.2 hin
   simp only at q3
   rw [e1] at q3;cases q3
   obtain ⟨u',u1,u2⟩:=l2 j t k q1
   obtain ⟨z,z1,z2⟩:=jQ hvals q2
   obtain ⟨z',z3,z4⟩:=jQ hus u1
   rw [z1] at z3;cases z3
   have:=hA'.tm.2 t u' u2
   rw [z4] at this;cases this
   exact z2
  ·have r1:=t1.1 hin
   have r0:=t0.1 hin
   simp only at r1 r0
   rw [e1] at r1;rw [e0] at r0
   exact jR hx hn (hA0.tm.2 t v r0.symm) (hA'.tm.2 t v r1.symm)
 have hown:yf P (V.at pe) sh.heap sh.own B w':=by
  unfold jt at hof
  split at hof
  ·rename_i u v hu hv2
   have m1:=EQ (V':=V') (W:=V.at pe) (fun t v v' h h'=>⟨_,htm.2 t v h,hA'.tm.2 t v' h'⟩) hv vs us ws nw u hnw hu hget hvals hus hlen
   have m2:=CG hR0 hx hn hget hvals hus base v hbase hv2
   have hso:sh.own=nw++kO hv vs base:=by rw [hsh]
   have m3:=yI m1 m2
   rw [<-hso] at m3
   refine ur hR'.own m3 hof hnd (fun b hb => ?_) (fun b hb id bh p hbh ho hp => ?_)
   ·show pe.mem b=none
    rw [hvars.mem]
    cases hm:V.mem b with
    | none=>rfl
    | some o=>have:=hx.up.mem b o hm;rw [hb] at this;cases this
   ·obtain ⟨_,b',_,k2,_,_,k4,_⟩:=blk id bh hbh
    exact hb id b' p k2 (by rw [k4];exact ho) (hx.E _ _ hp)
  ·cases hof
 refine ⟨⟨?_,?_,?_,fun b o hb => ?_,fun b o hb => ?_,hR'.below,fun id bh hb => ?_,fun id p hp => ?_,fun id c hc => ?_,fun id id' b b' p p' hb hb' ho ho' hp hp' he => ?_,hR0.glob,hown⟩,htm,?_⟩
 ·rw [hall];exact hvars.rel.know
 ·rw [hall];exact hvars.rel.lens
 ·rw [hall];exact hvars.rel.memo
 ·have hb0:V.mem b=some o:=by rw [<-hvars.mem];exact hb
  refine ⟨(hR'.mem b o (hx.up.mem b o hb0)).1,fun id bh p hbh ho hp => ?_⟩
  obtain ⟨bb0,_,k1,_,k2,_⟩:=blk id bh hbh
  exact (hR0.mem b o hb0).2 id bb0 p k1 (by rw [k2];exact ho) hp
 ·have hb0:V.mem b=some o:=by rw [<-hvars.mem];exact hb
  rcases hR0.memB b o hb0 with h1 | h1
  ·exact .inl (by show pe.mem0 b=some o;rw [hvars.up.mem0];exact h1)
  ·exact .inr h1
 ·obtain ⟨bb0,b',k1,k2,k3,k3',k4,k5⟩:=blk id bh hb
  obtain ⟨p,q1,q2,q3,q4⟩:=hR0.blk id bb0 k1
  obtain ⟨p',r1,r2,r3,r4⟩:=hR'.blk id b' k2
  have:=hx.E _ _ q1
  rw [r1] at this;cases this
  exact ⟨_,q1,k5 _ _ _ q2 r2,fun h=>q3 (by rw [k3];exact h),fun h=>(q4 (by rw [k3'];exact h)).imp (fun k=>k) fun ⟨ob,k⟩=>⟨ob,hvars.up.mem _ _ k⟩⟩
 ·obtain ⟨b,hb⟩:=hR0.dom id p hp;exact dom id b hb
 ·obtain ⟨b,hb⟩:=hR0.domL id c hc;exact dom id b hb
 ·obtain ⟨c0,_,k1,_,k2,_⟩:=blk id b hb
  obtain ⟨c0',_,k1',_,k2',_⟩:=blk id' b' hb'
  exact hR0.inj id id' c0 c0' p p' k1 k1' (by rw [k2];exact ho) (by rw [k2'];exact ho') hp hp' he
 ·obtain ⟨ps,m1,m2,m3⟩:=hA'.marks
  obtain ⟨ps0,n1,n2,n3⟩:=hA0.marks
  have em:ah.marks=a'.marks:=by rw [f2,b1.2.1]
  have em0:ah.marks=a0.marks:=by rw [g2,b0.2.1]
  refine ⟨ps,by rw [m1,em],fun i d p hi hpi => ?_,m3⟩
  have hd':a'.marks[i]? = some d:=by rw [<-em];exact hi
  have hd0:a0.marks[i]? = some d:=by rw [<-em0];exact hi
  have hE':=m2 i d p hd' hpi
  have hil:i<ps0.length:=by rw [n1];exact (List.getElem?_eq_some_iff.1 hd0).1
  have hE0:=n2 i d _ hd0 (List.getElem?_eq_getElem hil)
  have:=hx.E _ _ hE0
  rw [hE'] at this;cases this
  exact hE0
theorem Ew:∀(hv:List (Hv×Kd)),(qW hv).length=hv.length:=by
 intro hv
 induction hv with
 | nil=>rfl
 | cons x hv ih=>simp [qW,ih]
theorem C0:∀(ks:List Kd) (s:S),(cu ks s).1.length=ks.length:=by
 intro ks
 induction ks with
 | nil=>intro s;rfl
 | cons k ks ih=>intro s;cases k<;>simp [cu,ih]
theorem EH {g : G} {SP : Nat -> Option Sp} {ih : Ih} {lv : Lv} {m : Nat} (hI : kC P g SP ih m) {V : az} {F : Fence} {n : Nat} {w : World} {rd : Option Nat} {c : Code} {a : A} {A : Act} {s : S} {nt : pA} {K : PE -> gA -> Prop} {Q : Exit -> Act -> World -> Prop}
  (hF:mZ F) (hL:ip V lv) (hrd:uj V F rd) (hR:av P V s B w) (hA:aN V a A) (h:eh SP (EG ih lv rd c a s nt) V.toPE K) (hK:mY P V B K Q) (hQ:∀ch A w,¬Q (.panic ch) A w):(Code.loop c).wpIn F n P Q A w:=by
 have hE:∀pe n,¬K pe (.err n):=fun pe n hk=>by obtain ⟨_,_,_,e,_⟩:=hK _ _ hk;cases e
 unfold EG at h
 rcases hh:pR (nt.tmps++nt.otmps.map fun (x:Tmp×TypeId)=>(x.1,Kd.sl)) a (lI c) [] with ⟨hv0,a1⟩
 rw [hh] at h
 simp only at h
 generalize hhv:(hv0++((nt.cells.map fun (x:Nat×Nat×Kd)=>(Hv.cell x.1 x.2.1,x.2.2))++((nt.otmps.map fun (x:Tmp×TypeId)=>(Hv.own x.1 x.2,Kd.r))++nt.rows.map fun x=>(Hv.row x,Kd.r))))=hv at h
 rcases hpk:cu (qW hv) s with ⟨vs,s1⟩
 rw [hpk] at h
 split at h
 ·rename_i vs' s1' init usd e1 hget husd
  cases e1
  rcases hph:dL a1 s1 hv vs with ⟨ah,sh0⟩
  rw [hph] at h
  simp only at h
  generalize hbs:pn usd s.own=base at h
  have hbase:∀o∈base,o∈s.own:=fun o ho=>by rw [<-hbs] at ho;exact xW ho
  cases hnw:lX ah hv vs with
  | none=>rw [hnw] at h;exact (hE _ _ h).elim
  | some nw=>
  rw [hnw] at h
  simp only at h
  generalize hsh:({ sh0 with heap:=gh lv sh0.heap,own:=nw++kO hv vs base }:S)=sh at h
  cases ck:(lO a.n hv&&vM ah sh hv vs a s&&jt hv vs base a s&&qN (nw++kO hv vs base)) with
  | false=>rw [ck] at h;exact (hE _ _ h).elim
  | true =>
   rw [ck] at h
   simp only [cond_true,eh] at h
   simp only [Bool.and_eq_true] at ck
   obtain ⟨⟨⟨hok,hf0⟩,hof0⟩,hond0⟩:=ck
   have hond:qN sh.own=true:=by rw [<-hsh];exact hond0
   obtain ⟨Fn,h1,h2⟩:=h
   have hlen:hv.length=vs.length:=by
    have:=C0 (qW hv) s
    rw [hpk] at this;rw [<-Ew,<-this]
   have hpk1:(cu (qW hv) s).1=vs:=by rw [hpk]
   have hpk2:(cu (qW hv) s).2=s1:=by rw [hpk]
   have hhead:(dL a1 s1 hv vs).2=sh0:=by rw [hph]
   let body : Prop × Nat -> PE -> Prop := fun r pe => eh SP ((ih (.code lv rd c ah) sh).bind fun r => match r with
       | .code .normal a' s'=>(match fS a' s' hv with
        | some vs'=>bif vM ah sh hv vs a' s'&&jt hv vs base a' s' then .out (.again vs') else .out (.err 101)
        | none => .out (.err 102))
       | .again _ => .out (.err 100)
       | r => .out r) pe fun pe' o=>match o with
    | .again vs=>gz pe' (qW hv) vs Fn fun r'=>r'.1/\r'.2<r.2
    | o=>eh SP (.out o) pe' K
   -- a round begins
   have begin_:∀{V':az} {a':Vc.A} {s':S} {A':Act} {w':World} {us:List AV} {Kr:Prop×Nat->Prop},eU V V'->av P V' s' B w'->aN V' a' A'->fS a' s' hv=some us->vM ah sh hv vs a' s'=true->jt hv vs base a' s'=true->gz V'.toPE (qW hv) us Fn Kr->
     ∃pe r,Kr r/\(r.1->body r pe)/\dr V.toPE pe/\av P (V.at pe) sh B w'/\aN (V.at pe) ah A':=by
    intro V' a' s' A' w' us Kr hx hR' hA' hg hf hof ha
    obtain ⟨pe,r,ws,k1,k2,k3,k4⟩:=Ch (B:=B) (w:=w) (qW hv) us V s Fn hR ha h2
    rw [hpk1,hpk2] at k3
    obtain ⟨r1,r2⟩:=I9 (a1:=a1) hR hA hR' hA' hx k3 (cG k4 rfl) hok hlen hhead hsh.symm hnw hbase hof hond hf0 hf hg
    exact ⟨pe,r,k2,k1,k3.up,r1,r2⟩
   obtain ⟨tB,r0,b1,b2,b3,b4,b5⟩:=begin_ (eU.refl V) hR hA hget hf0 hof0 h1
   refine wpIn_loop_ghost (fun k A' w'=>∃pe r,r.1/\r.2=k/\(r.1->body r pe)/\dr V.toPE pe/\av P (V.at pe) sh B w'/\aN (V.at pe) ah A') r0.2 ⟨tB,r0,b1,rfl,b2,b3,b4,b5⟩ ?_
   rintro k A1 w1 ⟨pe,r,c1,rfl,c2,c3,c4,c5⟩
   have hx:=aD (V:=V) c3
   refine hI.code hF (hL.mono hx) (hrd.mono hx) c4 c5 (cN _ _ _ _ (c2 c1)) (fun pe' o ho => ?_) (fun ch A w hp=>hQ ch A w hp)
   have last:∀{o:gA},(∀vs,o≠ .again vs)->K pe' o->(∀a' s',o≠ .code .normal a' s')->∃e a s,o = .code e a s/\∀V' A w,eU (V.at pe) V'->V'.toPE=pe'->av P V' s B w->aN V' a A->
     Exit.then (fun A' w'=>∃n',n'<r.2/\∃pe r,r.1/\r.2=n'/\(r.1->body r pe)/\dr V.toPE pe/\av P (V.at pe) sh B w'/\aN (V.at pe) ah A') Q (pI e) A w:=by
    intro o _ hk hne
    obtain ⟨e,a',s',e1,e2⟩:=hK _ _ hk
    refine ⟨e,a',s',e1,fun V' A' w' x1 x2 x3 x4 => ?_⟩
    have:=e2 V' A' w' (hx.trans x1) x2 x3 x4
    cases e with
    | normal=>exact (hne a' s' e1).elim
    | exit id=>exact this
    | goto l=>exact this
    | ret=>exact this
   cases o with
   | val v s'=>exact last (by simp) ho (by simp)
   | err k=>exact last (by simp) ho (by simp)
   | again vs'=>exact (hE _ _ ho).elim
   | code e a' s' =>
    cases e with
    | exit id=>exact last (by simp) ho (by simp)
    | goto l=>exact last (by simp) ho (by simp)
    | ret=>exact last (by simp) ho (by simp)
    | normal =>
     refine ⟨.normal,a',s',rfl,fun V2 A2 w2 x1 x2 x3 x4 => ?_⟩
     simp only at ho
     split at ho
     ·rename_i us hus
      cases cf:(vM ah sh hv vs a' s'&&jt hv vs base a' s') with
      | false=>rw [cf] at ho;exact (hE _ _ ho).elim
      | true=>
       rw [cf] at ho
       simp only [cond_true,eh] at ho
       simp only [Bool.and_eq_true] at cf
       subst x2
       obtain ⟨pe2,r2,d1,d2,d3,d4,d5⟩:=begin_ (hx.trans x1) x3 x4 hus cf.1 cf.2 ho
       exact ⟨r2.2,d1.2,pe2,r2,d1.1,rfl,d2,d3,d4,d5⟩
     ·exact (hE _ _ ho).elim
 ·exact (hE _ _ h).elim
end
end
end Go.Proofs.YtjabmipkllkfbaaGreatDoor.Vc
