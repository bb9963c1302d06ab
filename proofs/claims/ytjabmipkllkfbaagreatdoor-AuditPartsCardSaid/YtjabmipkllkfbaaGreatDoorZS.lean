/-
  A law of which a part only reads what the run has made, and the rest writes it again: three trees, one for what is ahead, one for the part, one for the rest.
-/
import Derived.Test.YtjabmipkllkfbaaGreatDoorZF
set_option linter.unusedVariables false
set_option linter.unusedSimpArgs false
namespace Go.Proofs.YtjabmipkllkfbaaGreatDoor.Vc
section
open Go.RowKit
def vr (SP:Nat->Option Sp) (g:G) (fuel:Nat) (Kend:Code->PE->A->S->Prop) (Kret:PE->gA->Prop):Nat->Code->A->S->PE->Prop
 | 0,c,a,s,pe=>Kend c pe a s
 | k + 1, c, a, s, pe => (match c with
  | .seq x y=>eh SP (ev g fuel (.code [] none x a) s) pe fun pe' o=>match o with
   | .code .normal a' s'=>vr SP g fuel Kend Kret k y a' s' pe'
   | o=>Kret pe' o
  | _=>False)
def Ic:ef->ef
 | .cells l _ => .ro l
 | .row l _ => .ro l
 | .ro l => .ro l
 | _ => .dead
def Tr.map {α:Type} (f:α->α):Tr α->Tr α
 | .e => .e
 | .n l v r => .n (l.map f) (match v with | some x=>some (f x) | none=>none) (r.map f)
theorem Tr.get_map {α:Type} (f:α->α):∀(t:Tr α) (k:Nat),(t.map f).get k=(match t.get k with | some x=>some (f x) | none=>none):=by
 intro t
 induction t with
 | e=>intro k;rfl
 | n l v r ihl ihr =>
  intro k
  simp only [Tr.map,Tr.get]
  cases Nat.beq k 0 with
  | true=>simp only [cond_true]
  | false=>
   simp only [cond_false]
   cases Nat.beq (Nat.mod k 2) 1 with
   | true=>exact ihl _
   | false=>exact ihr _
def J6 (s:S):S:={ s with heap:=Tr.map Ic s.heap,own:=[] }
def tr:List cL->Bool
 | []=>true
 | o::l => !o.m&&tr l
def yz:List cL->List aX
 | []=>[]
 | o::l => .d (.frz o.a o.r)::yz l
def qK:List Nat->Tr AV->Tr AV->Tr AV
 | [],_,_ => .e
 | k::ks,x,y=>(match x.get k,y.get k with
  | some u,some v=>bif AV.eqb u v&&Nat.blt k eY then Tr.set 64 (qK ks x y) k u else qK ks x y
  | _,_=>qK ks x y)
def mL (a:A):Bool:=match a.marks with | []=>true | _=>false
def oV (g : G) (a : A) : List Tmp -> S -> List aX × S
 | [],s=>([],s)
 | t :: ts, s => (match a.tmps.get t with
  | some (.ptr id _) => (match s.heap.get id with
   | some (.cells l _)=>(match qi g l s with
    | (p,_,s1)=>(match oV g a ts s1 with | (q,s2)=>(p++q,s2)))
   | _=>oV g a ts s)
  | _=>oV g a ts s)
section
variable {P:Program} {g:G} {V:az} {s s':S} {B w:World}
theorem ou (V:az) (m:Mem) (v:AV):v.conc (V.at { V.toPE with mem0:=m })=v.conc V:=by
 induction v using AV.rec (motive_2:=fun l=>concL (V.at { V.toPE with mem0:=m }) l=concL V l) with
 | func fn f c ih1 ih2=>
  have e1:AV.conc.concL (V.at { V.toPE with mem0:=m }) f=AV.conc.concL V f:=ih1
  have e2:AV.conc.concL (V.at { V.toPE with mem0:=m }) c=AV.conc.concL V c:=ih2
  simp only [AV.conc];rw [e1,e2]
 | agg l ih=>
  have e1:AV.conc.concL (V.at { V.toPE with mem0:=m }) l=AV.conc.concL V l:=ih
  simp only [AV.conc];rw [e1]
 | tup l ih=>
  have e1:AV.conc.concL (V.at { V.toPE with mem0:=m }) l=AV.conc.concL V l:=ih
  simp only [AV.conc];rw [e1]
 | nil=>rfl
 | cons x xs ih1 ih2=>
  have e1:AV.conc.concL (V.at { V.toPE with mem0:=m }) xs=AV.conc.concL V xs:=ih2
  show (match x.conc _,AV.conc.concL _ xs with | some v,some vs=>some (v::vs) | _,_=>none)=_
  rw [ih1,e1];rfl
 | _=>rfl
theorem sc (V:az) (m:Mem):∀(l:List AV),concL (V.at { V.toPE with mem0:=m }) l=concL V l:=by
 intro l
 induction l with
 | nil=>rfl
 | cons x xs ih=>
  have e1:AV.conc.concL (V.at { V.toPE with mem0:=m }) xs=AV.conc.concL V xs:=ih
  show (match x.conc _,AV.conc.concL _ xs with | some v,some vs=>some (v::vs) | _,_=>none)=_
  rw [ou,e1];rfl
theorem yU:∀{l:List cL} {a:Nat},a ∉ l.map cL.a->bc l a=l:=by
 intro l
 induction l with
 | nil=>intro a _;rfl
 | cons o l ih =>
  intro a h
  have h1:o.a≠a:=fun e=>h (by simp [e])
  have h2:a ∉ l.map cL.a:=fun e=>h (by simp at e ⊢;exact .inr e)
  have hb:Nat.beq o.a a=false:=by
   cases hb:Nat.beq o.a a with
   | false=>rfl
   | true=>exact (h1 (by simpa using hb)).elim
  simp only [bc,hb,cond_false,ih h2]
theorem Cv:∀(ow:List cL) (V:az) (s:S),av P V s B w->s.own=ow->tr ow=true->ak P B w V s (yz ow) { s with own:=[] } (fun _=>True):=by
 intro ow
 induction ow with
 | nil => intro V s hR ho _; have : { s with own := [] } = s := by rw [<- ho]
          rw [this];exact ak.nil hR trivial
 | cons o ow ih=>
  intro V s hR ho hm
  simp only [tr,Bool.and_eq_true,Bool.not_eq_true'] at hm
  have hg:bB s.own o.a=some o:=by rw [ho];simp [bB]
  have hnd:=hR.own.nd
  rw [ho,List.map_cons,List.nodup_cons] at hnd
  have hd:bc s.own o.a=ow:=by rw [ho];simp [bc,yU hnd.1]
  have h1:=hR.frz hg hm.1
  rw [hd] at h1
  exact h1.app (p:=[.d (.frz o.a o.r)]) (fun pe hu r1 _=>ih (V.at pe) { s with own:=ow } r1 rfl hm.2)
theorem Jc (hR:av P V s B w) (ho:s.own=[]):av P (V.at { V.toPE with mem0:=V.mem }) (J6 s) w w:=by
 have get:∀id b',(J6 s).heap.get id=some b'->∃b,s.heap.get id=some b/\b'=Ic b:=fun id b' h=>by
  have h':(Tr.map Ic s.heap).get id=some b':=h
  rw [Tr.get_map] at h'
  cases hb:s.heap.get id with
  | none=>rw [hb] at h';cases h'
  | some b=>rw [hb] at h';cases h';exact ⟨b,rfl,rfl⟩
 have noown:∀b,ct (Ic b)=false:=fun b=>by cases b<;>rfl
 refine ⟨hR.know,hR.lens,fun c v hm => ?_,fun b o hb=>⟨(hR.mem b o hb).1,fun id blk p hg hw hp => ?_⟩,fun b o hb => .inl hb,Below.refl _ _,fun id b' hb => ?_,fun id p hp => ?_,fun id c hc => ?_,fun id id' b b' p p' h1 h2 h3 => ?_,fun g p h=>hR.glob g p h,⟨List.nodup_nil,fun o h=>(by cases h),fun o h=>(by cases h)⟩⟩
 ·obtain ⟨x,h1,h2⟩:=hR.memo c v hm
  exact ⟨x,by rw [ou];exact h1,by rw [ou];exact h2⟩
 ·obtain ⟨b0,_,rfl⟩:=get id blk hg
  rw [noown] at hw;cases hw
 ·obtain ⟨b,hg,rfl⟩:=get id b' hb
  obtain ⟨p,h1,h2,h3,h4⟩:=hR.blk id b hg
  have lt:∀{o:Obj},w.heap[p.1]? = some o->p.1<w.heap.size:=fun h=>(Array.getElem?_eq_some_iff.1 h).1
  refine ⟨p,h1,?_,fun h=>(by rw [noown] at h;cases h),fun h => .inl ?_⟩
  ·cases b with
   | cells l e=>
    obtain ⟨vs,fz,k1,k2,_⟩:=h2
    exact ⟨vs,[],e,fz,by rw [sc];exact k1,by rw [k2];simp⟩
   | row l e=>
    obtain ⟨vs,rest,fz,k1,k2,_⟩:=h2
    exact ⟨vs,rest,e,fz,by rw [sc];exact k1,k2⟩
   | ro l=>
    obtain ⟨vs,rest,e,fz,k1,k2⟩:=h2
    exact ⟨vs,rest,e,fz,by rw [sc];exact k1,k2⟩
   | _=>trivial
  ·cases b with
   | cells l e=>obtain ⟨vs,fz,k1,k2,_⟩:=h2;exact lt k2
   | row l e=>obtain ⟨vs,rest,fz,k1,k2,_⟩:=h2;exact lt k2
   | ro l=>obtain ⟨vs,rest,e,fz,k1,k2⟩:=h2;exact lt k2
   | _=>cases h
 ·obtain ⟨b,hb⟩:=hR.dom id p hp
  exact ⟨Ic b,by show (Tr.map Ic s.heap).get id=_;rw [Tr.get_map,hb]⟩
 ·obtain ⟨b,hb⟩:=hR.domL id c hc
  exact ⟨Ic b,by show (Tr.map Ic s.heap).get id=_;rw [Tr.get_map,hb]⟩
 ·obtain ⟨b0,_,rfl⟩:=get id b h1
  rw [noown] at h3;cases h3
theorem E7 (hG:cv P g) {a:A} {A:Act}:∀(ts:List Tmp) (V:az) (s:S),av P V s B w->aN V a A->∀{p:List aX} {s':S},oV g a ts s=(p,s')->ak P B w V s p s' (fun _=>True):=by
 intro ts
 induction ts with
 | nil=>intro V s hR hA p s' h;simp only [oV,Prod.mk.injEq] at h;obtain ⟨rfl,rfl⟩:=h;exact ak.nil hR trivial
 | cons t ts ih =>
  intro V s hR hA p s' h
  simp only [oV] at h
  split at h
  ·split at h
   ·rename_i l e hb
    rcases hp:qi g l s with ⟨p1,us,s1⟩
    rw [hp] at h;simp only at h
    rcases hq:oV g a ts s1 with ⟨q,s2⟩
    rw [hq] at h;simp only [Prod.mk.injEq] at h
    obtain ⟨rfl,rfl⟩:=h
    obtain ⟨pa,h1,h2,_⟩:=hR.blk _ _ hb
    obtain ⟨vs,fz,k1,_⟩:=h2
    exact (rz hG l V s hR k1 hp).app (fun pe hu r1 _=>ih (V.at pe) s1 r1 (hA.mono (aD hu)) hq)
   ·exact ih V s hR hA h
  ·exact ih V s hR hA h
theorem w8 (hG:cv P g) {f:FuncId} {fi:FI} {fn:Func} (hres:fn.results.toList=fi.results) {F:Fence} {n:Nat} {V1:az} {s1:S} {B1 w1:World} {a1:A} {A1:Act} {e:Ex} {K:PE->gA->Prop} {R:Ending->World->Prop}
  (k3:av P V1 s1 B1 w1) (k4:aN V1 a1 A1) (ho:K V1.toPE (nK g fi e a1 s1)) (hE:∀pe n,¬K pe (.err n))
  (hK:∀v s2 x w2,K V1.toPE (.val v s2)->av P V1 s2 B1 w2->v.conc V1=some x->R (.returned x) w2):(e = .normal\/e = .ret)/\LeavesInM F n P fn A1.tmps R A1.defers .returning w1:=by
 obtain ⟨ps,m1,m2,m3⟩:=k4.marks
 have fin:∀s2 vs v,ga s1 a1.marks=some s2->tG g a1 s2 fi.results=some vs->v=(match vs with | [v]=>v | l=>AV.tup l)->K V1.toPE (.val v s2)->LeavesInM F n P fn A1.tmps R A1.defers .returning w1:=by
  intro s2 vs v ht hr hv hk
  rw [m3]
  refine pi k3 ht m1 m2 (fun w2 hR2 => ?_)
  obtain ⟨x,r1,r2⟩:=tH hG hR2 k4 (fn:=fn) (by rw [hres];exact hr)
  exact ⟨x,r2,hK v s2 x w2 hk hR2 (by rw [hv];exact r1)⟩
 have all:(match ga s1 a1.marks with
   | some s=>(match tG g a1 s fi.results with
    | some [v]=>gA.val v s
    | some l => .val (.tup l) s
    | none => .err 80)
   | none => .err 81)=nK g fi .ret a1 s1:=rfl
 cases e with
 | exit id=>exact (hE _ _ ho).elim
 | goto l=>exact (hE _ _ ho).elim
 | _ =>
  refine ⟨by simp,?_⟩
  simp only [nK] at ho
  split at ho
  ·rename_i s2 ht
   split at ho
   ·rename_i v0 hr;exact fin _ _ _ ht hr rfl ho
   ·rename_i l hne hr
    refine fin _ _ _ ht hr ?_ ho
    split
    ·rename_i v0;exact (hne v0 rfl).elim
    ·rfl
   ·exact (hE _ _ ho).elim
  ·exact (hE _ _ ho).elim
end
def JC (g:G) (fi:FI) (K:PE->gA->Prop):PE->gA->Prop:=fun pe o=>
 match o with
 | .code e a s=>K pe (nK g fi e a s)
 | _=>False
def Id (SP2 SP3:Nat->Option Sp) (g2 g3:G) (fi:FI) (fuel k2:Nat) (ps ks:List Nat) (K:PE->gA->Prop):Code->PE->A->S->Prop:=fun c pe a s=>
 match oV g2 a ps s with
 | (p,s')=>aj p pe fun pe'=>bif tr s'.own then aj (yz s'.own) pe' fun pe2=>vr SP2 g2 fuel (fun rest pe3 a2 _=>bif mL a&&(mL a2&&Nat.beq a2.n a.n) then eh SP3 (ev g3 fuel (.code [] none rest { a with tmps:=qK ks a.tmps a2.tmps }) s') pe' (JC g3 fi K) else False) (JC g2 fi K) k2 c a (J6 s') { pe2 with mem0:=pe2.mem } else False
def yy (g:G) (f:FuncId):FI:=match g.fn.get f with | some fi=>fi | none=>⟨.skip,0,[]⟩
section
variable {P:Program}
theorem CF {V V2:az} {x y:Tr AV} {tm:Array Value} (hx:∀k v,x.get k=some v->∀u,v.conc V2=some u->v.conc V=some u) (hy:∀k v,y.get k=some v->v.conc V2=some (tm.getD k undef)):∀(ks:List Nat) (k:Nat) (v:AV),(qK ks x y).get k=some v->v.conc V=some (tm.getD k undef):=by
 intro ks
 induction ks with
 | nil=>intro k v h;cases h
 | cons j ks ih =>
  intro k v h
  simp only [qK] at h
  split at h
  ·rename_i u u' hu hu'
   cases c:(AV.eqb u u'&&Nat.blt j eY) with
   | false=>rw [c] at h;exact ih k v h
   | true =>
    rw [c] at h;simp only [cond_true] at h
    simp only [Bool.and_eq_true] at c
    have e:=eqb_eq u u' c.1
    subst e
    have hj:j<eY:=by simpa using c.2
    rw [Tr.get_set64 _ _ _ _ hj] at h
    by_cases hk:k=j
    ·subst hk
     simp only [if_true,Option.some.injEq] at h
     subst h
     exact hx _ _ hu _ (hy _ _ hu')
    ·rw [if_neg hk] at h;exact ih k v h
  ·exact ih k v h
theorem E5 {g:G} {SP:Nat->Option Sp} (hS:eO P g SP) (hG:cv P g) (fuel:Nat) {F:Fence} {n:Nat} (hF:mZ F) (hFr:F.round=none) {B:World} {Kend:Code->PE->A->S->Prop} {Kret:PE->gA->Prop} {Q:Exit->Act->World->Prop} :
  ∀(k:Nat) (c:Code) (V:az) (a:A) (s:S) (A:Act) (w:World),av P V s B w->aN V a A->vr SP g fuel Kend Kret k c a s V.toPE->
   (∀(c':Code) (V':az) (a':Vc.A) (s':S) (A':Act) (w':World),eU V V'->av P V' s' B w'->aN V' a' A'->Kend c' V'.toPE a' s'->c'.wpIn F n P Q A' w')->
   (∀pe o,Kret pe o->∃e a s,o = .code e a s/\(e≠ .normal->∀V' A' w',V'.toPE=pe->eU V V'->av P V' s B w'->aN V' a A'->Q (pI e) A' w'))->c.wpIn F n P Q A w:=by
 intro k
 induction k with
 | zero=>intro c V a s A w hR hA h he _;exact he c V a s A w (eU.refl V) hR hA h
 | succ k ih =>
  intro c V a s A w hR hA h he hr
  cases c<;>try exact h.elim
  rename_i x y
  refine wpIn_seq (jP (AM hS hG fuel) (lv:=[]) (rd:=none) hF (fun i c h=>by simp [sX] at h) hFr hR hA h (fun pe o ho => ?_))
  have other:∀{o:gA},Kret pe o->(∀a' s',o≠ .code .normal a' s')->∃e a s,o = .code e a s/\∀V' A w,eU V V'->V'.toPE=pe->av P V' s B w->aN V' a A->Exit.then (fun a w=>y.wpIn F n P Q a w) Q (pI e) A w:=by
   intro o hk hne
   obtain ⟨e,a',s',e1,e2⟩:=hr _ _ hk
   refine ⟨e,a',s',e1,fun V' A' w' x1 x2 x3 x4 => ?_⟩
   cases e with
   | normal=>exact (hne a' s' e1).elim
   | exit id=>exact e2 (by simp) V' A' w' x2 x1 x3 x4
   | goto l=>exact e2 (by simp) V' A' w' x2 x1 x3 x4
   | ret=>exact e2 (by simp) V' A' w' x2 x1 x3 x4
  cases o with
  | val v s'=>exact other ho (by simp)
  | err k=>exact other ho (by simp)
  | again vs'=>exact other ho (by simp)
  | code e a' s' =>
   cases e with
   | exit id=>exact other ho (by simp)
   | goto l=>exact other ho (by simp)
   | ret=>exact other ho (by simp)
   | normal =>
    refine ⟨.normal,a',s',rfl,fun V' A' w' x1 x2 x3 x4 => ?_⟩
    subst x2
    exact ih y V' a' s' A' w' x3 x4 ho (fun c' V2 a2 s2 A2 w2 z=>he c' V2 a2 s2 A2 w2 (x1.trans z)) (fun pe o hk=>by
     obtain ⟨e,a,s,q1,q2⟩:=hr pe o hk
     exact ⟨e,a,s,q1,fun hne V2 A2 w2 z1 z2=>q2 hne V2 A2 w2 z1 (x1.trans z2)⟩)
theorem Az {g1 g2 g3:G} {SP1 SP2 SP3:Nat->Option Sp} (hS1:eO P g1 SP1) (hS2:eO P g2 SP2) (hS3:eO P g3 SP3) (hG1:cv P g1) (hG2:cv P g2) (hG3:cv P g3) (fuel:Nat) (c:Sp) (k1 k2:Nat) (ps ks:List Nat) (args:List AV)
  (hr:jz c.toSig=true) (hargs:gp c.grp (cu c.args s0).1=some args) (hfi:g1.fn.get c.fn=some (yy g1 c.fn)) (hn:(Nat.ble (bF args) (yy g1 c.fn).ntmps&&Nat.ble (yy g1 c.fn).ntmps 100000)=true)
  (h:∀m,jE c.args (tB m) c.spec fun pe r=>r.1 m->vr SP1 g1 fuel (Id SP2 SP3 g2 g3 (yy g1 c.fn) fuel k2 ps ks (kW c.toSig r.2)) (fun _ _=>False) k1 (yy g1 c.fn).code { tmps:=nQ 0 .e args,n:=(yy g1 c.fn).ntmps,marks:=[] } (cu c.args s0).2 pe):cI P c:=by
 simp only [jz,Bool.and_eq_true] at hr
 intro m w ys xs hm hpk hpre
 have hself:∀{R:Type} {K:R->Prop} (ks:List Kd) (f:mR ks R) (vs:List Value),bR ks f vs K->bR ks f vs (fun r=>K r/\∀K':R->Prop,K' r->bR ks f vs K'):=by
  intro R K ks
  induction ks with
  | nil=>intro f vs h;cases vs<;>first | exact ⟨h,fun K' hk=>hk⟩ | exact h.elim
  | cons k ks ih =>
   intro f vs h
   cases vs with
   | nil=>cases k<;>exact h.elim
   | cons v vs=>
    cases k with
    | i k=>cases v<;>first | exact ⟨h.1,h.2.1,bq (fun r hr=>⟨hr.1,fun K' hk=>⟨h.1,h.2.1,hr.2 K' hk⟩⟩) _ _ _ (ih _ _ h.2.2)⟩ | exact h.elim
    | b=>cases v<;>first | exact ih _ _ h | exact h.elim
    | s=>cases v<;>first | exact ih _ _ h | exact h.elim
    | r=>exact h.elim
    | v=>exact ⟨h.1,bq (fun r hr=>⟨hr.1,fun K' hk=>⟨h.1,hr.2 K' hk⟩⟩) _ _ _ (ih _ _ h.2)⟩
    | sl=>cases v<;>first | exact ⟨h.1,bq (fun r hr=>⟨hr.1,fun K' hk=>⟨h.1,hr.2 K' hk⟩⟩) _ _ _ (ih _ _ h.2)⟩ | exact h.elim
 have hh:=fG (P:=P) (B:=w) (w:=w) c.args ys (iN (tB m)) s0 c.spec (JP hm) (hself _ _ _ hpre) (h m)
 refine hh.elim fun pe hh=>hh.elim fun r hh => ?_
 obtain ⟨h1,⟨h2,hback⟩,h3⟩:=hh
 obtain ⟨l,e1,e2⟩:=ki hpk (cG (V:=(iN (tB m)).at pe) h3.vals rfl)
 rw [hargs] at e1;cases e1
 have hsat:=h1 h2
 generalize hfi':yy g1 c.fn=fi at *
 rw [aO] at hn
 simp only [nO,Bool.and_eq_true,decide_eq_true_eq] at hn
 obtain ⟨fn,hf,hb,hnt,hres⟩:=(hG1.fn c.fn fi hfi).fn
 have hE:∀pe n,¬kW c.toSig r.2 pe (.err n):=fun pe n hk=>hk
 -- the end, for any base
 have fin:∀(V':az) (w':World) (v:AV) (s2:S) (x:Value),Below w.heap.size w w'->ac m V'.mem->(∀b o,V'.mem b=some o->w'.heap[b]? = some o/\(m b=some o\/w.heap.size<=b))->kW c.toSig r.2 V'.toPE (.val v s2)->v.conc V'=some x->
   (fun (e:Ending) (w':World)=>∃m' rs rs',e = .returned (BU rs')/\ff c.rgrp rs=some rs'/\Below w.heap.size w w'/\ac m m'/\(∀b o,m' b=some o->w'.heap[b]? = some o/\(m b=some o\/w.heap.size<=b))/\bR c.args c.spec ys fun r=>bR c.res (r.2 m') rs fun p=>p) (.returned x) w':=by
  intro V' w' v s2 x b1 b2 b3 ho k4
  simp only [kW] at ho
  split at ho
  ·rename_i fl hfl
   obtain ⟨ws,f1,f2⟩:=jN c.res _ _ (jZ hr.1) ho
   obtain ⟨rs',g1',g2'⟩:=fY (ys:=ys) (by intro e;rw [e] at hr;simp at hr) k4 hfl (cG f1 rfl)
   exact ⟨V'.mem,ws,rs',by rw [g2'],g1',b1,b2,b3,hback _ f2⟩
  ·exact ho.elim
 suffices key:∀R:Ending->World->Prop,(∀(V':az) (w':World) (v:AV) (s2:S) (x:Value),Below w.heap.size w w'->ac m V'.mem->(∀b o,V'.mem b=some o->w'.heap[b]? = some o/\(m b=some o\/w.heap.size<=b))->kW c.toSig r.2 V'.toPE (.val v s2)->v.conc V'=some x->R (.returned x) w')->Calls P c.fn xs.toArray w R from key _ fin
 clear fin
 intro R fin
 have hF:mZ Fence.wide:=⟨fun _=>trivial,rfl,rfl⟩
 have hFp:mZ Fence.wide.plain:=hF
 refine (callsIn_wide (n:=0)).1 ?_
 suffices goal:CallsIn Fence.wide.plain 0 P c.fn xs.toArray w R from goal
 refine callsIn_of_wp_marks hf hb trivial ?_
 refine E5 hS1 hG1 fuel hFp rfl k1 _ _ _ _ _ _ h3.rel (by rw [hnt];exact wP e2 hn.1 hn.2) hsat (fun c1 V1 a1 s1 A1 w1 x1 R1 AR1 ho1 => ?_) (fun _ _ h=>h.elim)
 simp only [Id] at ho1
 rcases hpb:oV g2 a1 ps s1 with ⟨pp,s1'⟩
 rw [hpb] at ho1
 simp only at ho1
 obtain ⟨pe1',u1,ho1,R1',_⟩:=E7 hG2 ps V1 s1 R1 AR1 hpb _ ho1
 have AR1':=AR1.mono (aD u1)
 have X1:eU ((iN (tB m)).at pe) (V1.at pe1'):=x1.trans (aD u1)
 generalize hV1':V1.at pe1'=V1' at R1' AR1' X1
 have hp1:pe1'=V1'.toPE:=by rw [<-hV1'];rfl
 subst hp1
 clear hV1' u1 R1 AR1 x1 hpb
 cases hnm:tr s1'.own with
 | false=>rw [hnm] at ho1;exact ho1.elim
 | true=>
 rw [hnm] at ho1
 simp only [cond_true] at ho1
 obtain ⟨pe2,u2,hsat2,R2,_⟩:=Cv s1'.own V1' s1' R1' rfl hnm _ ho1
 have AR2:=AR1'.mono (aD u2)
 have R2':=Jc R2 rfl
 have AR2':aN ((V1'.at pe2).at { pe2 with mem0:=pe2.mem }) a1 A1:=⟨⟨AR2.tm.1,fun k v hv=>by have:=AR2.tm.2 k v hv;rw [<-this];exact ou (V1'.at pe2) pe2.mem v⟩,AR2.marks⟩
 have memOk1:ac m V1'.mem:=fun b o hb=>X1.up.mem b o (h3.up.mem b o hb)
 have mem0':V1'.mem0=m:=by rw [show V1'.mem0=pe.mem0 from X1.up.mem0,h3.up.mem0];rfl
 have calm:∀e:Ex,(e = .normal\/e = .ret)->pI e = .normal\/pI e = .ret:=fun e h=>by rcases h with rfl | rfl<;>simp [pI]
 refine E5 hS2 hG2 fuel hFp rfl k2 _ _ _ _ _ _ R2' AR2' hsat2 (fun rest V3 a3 s3 A3 w3 y1 R3 AR3 ho3 => ?_) (fun pe3 o3 ho3 => ?_)
 ·cases hc:(mL a1&&(mL a3&&Nat.beq a3.n a1.n)) with
  | false=>rw [hc] at ho3;exact ho3.elim
  | true=>
  rw [hc] at ho3
  simp only [cond_true] at ho3
  simp only [Bool.and_eq_true] at hc
  obtain ⟨c1,c2,c3⟩:=hc
  have c3':a3.n=a1.n:=by simpa using c3
  have mk:∀(a:Vc.A),mL a=true->a.marks=[]:=fun a h=>by
   unfold mL at h
   split at h
   ·assumption
   ·cases h
  have below13:Below w1.heap.size w1 w3:=R3.below
  have get13:∀b o,w1.heap[b]? = some o->w3.heap[b]? = some o:=fun b o hb=>by rw [below13.block b (Array.getElem?_eq_some_iff.1 hb).1];exact hb
  have R5:=(R1'.grow below13 (fun _ _ h=>h) (fun b o hb=>⟨get13 b o (R1'.mem b o hb).1,.inl hb⟩)).1
  have AR5:aN V1' { a1 with tmps:=qK ks a1.tmps a3.tmps } A3:=by
   refine ⟨⟨by rw [AR3.tm.1];exact c3',CF (V2:=V3) (fun k v hv u hu => ?_) AR3.tm.2 ks⟩,?_⟩
   ·have q1:=AR1'.tm.2 k v hv
    have q2:=aF (aD u2) _ _ q1
    have q3:v.conc ((V1'.at pe2).at { pe2 with mem0:=pe2.mem })=some (A1.tmps.getD k undef):=by rw [<-q2];exact ou (V1'.at pe2) pe2.mem v
    have q4:=aF y1 _ _ q3
    rw [hu] at q4;cases q4
    exact q1
   ·obtain ⟨ps',m1,m2,m3⟩:=AR3.marks
    rw [mk a3 c2] at m1
    have:ps'=[]:=List.length_eq_zero_iff.1 m1
    subst this
    exact ⟨[],by rw [show ({ a1 with tmps:=qK ks a1.tmps a3.tmps }:Vc.A).marks=a1.marks from rfl,mk a1 c1];rfl,fun i d p h=>by simp [mk a1 c1] at h,m3⟩
  refine jP (AM hS3 hG3 fuel) (lv:=[]) (rd:=none) hFp (fun i c h=>by simp [sX] at h) rfl (V:=V1') R5 AR5 ho3 (fun pe5 o5 ho5 => ?_)
  cases o5 with
  | val v s1=>exact ho5.elim
  | again vs=>exact ho5.elim
  | err k=>exact ho5.elim
  | code e5 a5 s5=>
  refine ⟨e5,a5,s5,rfl,fun V5 A5 w5 y1' z2 R5' AR5' => ?_⟩
  subst z2
  have:=w8 (R:=R) (F:=Fence.wide.plain) (n:=0) (f:=c.fn) hG3 hres R5' AR5' (K:=kW c.toSig r.2) ho5 hE (fun v s2 x w2 hk hR2 hx=>fin V5 w2 v s2 x hR2.below (fun b o hb=>y1'.up.mem b o (memOk1 b o hb)) (fun b o hb=>⟨(hR2.mem b o hb).1,by
   rcases hR2.memB b o hb with q | q
   ·rw [show V5.mem0=V1'.mem0 from y1'.up.mem0,mem0'] at q;exact .inl q
   ·exact .inr q⟩) hk hx)
  rcases this with ⟨rfl | rfl,h⟩<;>exact h
 ·cases o3 with
  | val v s1=>exact ho3.elim
  | again vs=>exact ho3.elim
  | err k=>exact ho3.elim
  | code e3 a3 s3=>
  refine ⟨e3,a3,s3,rfl,fun _ V3 A3 w3 z2 y1 R3 AR3 => ?_⟩
  subst z2
  have:=w8 (R:=R) (F:=Fence.wide.plain) (n:=0) (f:=c.fn) hG2 hres R3 AR3 (K:=kW c.toSig r.2) ho3 hE (fun v s2 x w2 hk hR2 hx=>fin V3 w2 v s2 x (R1'.below.trans (hR2.below.mono R1'.below.size)) (fun b o hb=>y1.up.mem b o (u2.mem b o (memOk1 b o hb))) (fun b o hb=>⟨(hR2.mem b o hb).1,by
   rcases hR2.memB b o hb with q | q
   ·rw [show V3.mem0=pe2.mem from y1.up.mem0] at q
    rcases R2.memB b o q with q' | q'
    ·rw [show (V1'.at pe2).mem0=V1'.mem0 from u2.mem0,mem0'] at q';exact .inl q'
    ·exact .inr q'
   ·exact .inr (Nat.le_trans R1'.below.size q)⟩) hk hx)
  rcases this with ⟨rfl | rfl,h⟩<;>exact h
end
#print axioms Az
end
end Go.Proofs.YtjabmipkllkfbaaGreatDoor.Vc
