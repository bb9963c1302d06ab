/-
  Trees are sound (7): frames, marks, results, rounds; Trees are sound (8): code; the whole; Contracts of functions, by their trees; Contracts of functions that read laid variables; Contracts by trees, with cells of the memory that are known at the beginning.
-/
import Derived.Test.YtjabmipkllkfbaaGreatDoorZE
import Derived.LoopNIn
import Derived.RangeFuncRecord
set_option linter.unusedVariables false
set_option linter.unusedSimpArgs false
namespace Go.Proofs.YtjabmipkllkfbaaGreatDoor.Vc
section
open Go.RowKit
section
variable {P:Program} {g:G}
theorem mF {V:az} {s:S} {B w:World} (hR:av P V s B w) {l:Nat} {st:LoopState} {pe:Ex} {t:Tr AV} {n d:Nat} {p:Nat×Nat} (hb:s.heap.get l=some (.loop st pe t n d)) (hp:V.E l=some p) :
  ∃fn lc pd tm,V.L l=some lc/\V.E d=some pd/\oc V t n tm/\w.heap[p.1]? = some (.loop { state:=st,pending:=i4 pe,fn:=fn,tmps:=tm,params:=lc.params,assign:=lc.assign,body:=lc.body,defers:=pd.1 }):=by
 obtain ⟨q,hq,hB,_⟩:=hR.blk l _ hb
 rw [hp] at hq;cases hq
 exact hB
theorem qw {V:az} {s:S} {B w:World} (hR:av P V s B w) {l:Nat} {st st':LoopState} {pe pe':Ex} {t:Tr AV} {n d:Nat} {p:Nat×Nat} (hl:l<eY) (hb:s.heap.get l=some (.loop st pe t n d)) (hp:V.E l=some p) {r:Loop} (hr:w.heap[p.1]? = some (.loop r)) :
  av P V { s with heap:=Tr.set 64 s.heap l (.loop st' pe' t n d) } B (w.putObj p.1 (.loop { r with state:=st',pending:=i4 pe' })):=by
 obtain ⟨fn,lc,pd,tm,h1,h2,h3,h4⟩:=mF hR hb hp
 rw [hr] at h4;cases h4
 have hlt:p.1<w.heap.size:=(Array.getElem?_eq_some_iff.1 hr).1
 refine hR.turn (b' := .loop st' pe' t n d) hl rfl hb rfl rfl hp (fun k hk=>World.putObj_heap_other hk) (by simp) rfl rfl rfl ?_
 exact ⟨fn,lc,pd,tm,h1,h2,h3,World.putObj_heap_same hlt⟩
theorem zr {V:az}:∀{ps:List Tmp} {vs:List AV} {xs:List Value} {t t':Tr AV} {n:Nat} {tm:Array Value},kX t n ps vs=some t'->concL V vs=some xs->oc V t n tm->
  ps.length=xs.length/\oc V t' n ((ps.zip xs).foldl (fun tmps (x:Tmp×Value)=>tmps.setIfInBounds x.1 x.2) tm):=by
 intro ps
 induction ps with
 | nil=>
  intro vs xs t t' n tm h hc ht
  cases vs with
  | nil=>simp [kX] at h;subst h;cases hc;exact ⟨rfl,ht⟩
  | cons v vs=>simp [kX] at h
 | cons p ps ih =>
  intro vs xs t t' n tm h hc ht
  cases vs with
  | nil=>simp [kX] at h
  | cons v vs =>
   obtain ⟨x,r,rfl,hx,hr⟩:=ag hc
   simp only [kX] at h
   cases c:(Nat.blt p n&&Nat.blt p eY) with
   | false=>rw [c] at h;cases h
   | true =>
    rw [c] at h;simp only [cond_true] at h
    simp only [qX,Bool.and_eq_true,decide_eq_true_eq] at c
    have ht':oc V (Tr.set 64 t p v) n (tm.setIfInBounds p x):=by
     refine ⟨by simp [ht.1],fun k u hu => ?_⟩
     rw [Tr.get_set64 _ _ _ _ c.2] at hu
     by_cases hk:k=p
     ·subst hk
      simp only [if_true,Option.some.injEq] at hu
      subst hu
      have:(tm.setIfInBounds k x).getD k undef=x:=by simp [ht.1,c.1]
      rw [this];exact hx
     ·rw [if_neg hk] at hu
      have:(tm.setIfInBounds p x).getD k undef=tm.getD k undef:=by
       simp [Array.getElem?_setIfInBounds_ne (fun e=>hk e.symm)]
      rw [this];exact ht.2 k u hu
    obtain ⟨h1,h2⟩:=ih h hr ht'
    exact ⟨by simp [h1],h2⟩
theorem yS:∀(vs:List AV) (i:Nat) (t:Tr AV) (k:Nat),i+vs.length<eY->(nQ i t vs).get k=if i<=k/\k<i+vs.length then vs[k-i]? else t.get k:=by
 intro vs
 induction vs with
 | nil=>intro i t k _;simp [nQ];omega
 | cons v vs ih =>
  intro i t k h
  simp only [List.length_cons] at h
  simp only [nQ]
  rw [ih (Nat.succ i) _ k (by omega),Tr.get_set64 _ _ _ _ (by omega)]
  simp only [List.length_cons]
  by_cases h1:k=i
  ·subst h1
   rw [if_neg (by omega),if_pos rfl,if_pos (by omega)];simp
  ·by_cases h2:Nat.succ i<=k/\k<Nat.succ i+vs.length
   ·rw [if_pos h2,if_pos (by omega)]
    obtain ⟨m,rfl⟩:∃m,k=i+1+m:=⟨k-(i+1),by omega⟩
    have e1:i+1+m-Nat.succ i=m:=by omega
    have e2:i+1+m-i=m+1:=by omega
    rw [e1,e2];simp
   ·rw [if_neg h2,if_neg h1,if_neg (by omega)]
theorem wP {V:az} {args:List AV} {xs:List Value} {nt:Nat} (hc:concL V args=some xs) (h1:args.length<=nt) (h2:nt<=100000):aN V { tmps:=nQ 0 .e args,n:=nt,marks:=[] } { tmps:=xs.toArray++Array.replicate (nt-xs.toArray.size) undef,defers:=[] }:=by
 have hl:=aW hc
 refine ⟨⟨by simp;omega,fun k v hv => ?_⟩,[],rfl,fun i d p h=>by simp at h,rfl⟩
 have hb:0+args.length<eY:=by unfold eY;omega
 rw [yS args 0 .e k hb] at hv
 by_cases hk:k<args.length
 ·rw [if_pos ⟨Nat.zero_le _,by omega⟩,Nat.sub_zero] at hv
  obtain ⟨x,e1,e2⟩:=iK hc hv
  have:(xs.toArray++Array.replicate (nt-xs.toArray.size) undef).getD k undef=x:=by
   have hkx:k<xs.length:=by omega
   simp [Array.getD_eq_getD_getElem?,Array.getElem?_append,hkx]
   have:=(List.getElem?_eq_some_iff.1 e1).2
   exact this
  rw [this];exact e2
 ·rw [if_neg (by omega)] at hv;cases hv
theorem pi {F:Fence} {n:Nat} {fn:Func} {tmps:Array Value} {R:Ending->World->Prop}:∀{ms:List Nat} {V:az} {s s':S} {B w:World} {ps:List (Nat×Nat)},av P V s B w->ga s ms=some s'->ps.length=ms.length->(∀(i d:Nat) (p:Nat×Nat),ms[i]? = some d->ps[i]? = some p->V.E d=some p)->
  (∀w',av P V s' B w'->LeavesIn F n P fn tmps R [] .returning w')->LeavesInM F n P fn tmps R (ps.map fun p=>{ target := .collected p.1,args := #[] }) .returning w:=by
 intro ms
 induction ms with
 | nil=>
  intro V s s' B w ps hR h hl _ hK
  have:ps=[]:=List.length_eq_zero_iff.1 hl
  subst this
  simp [ga] at h;subst h
  exact hK w hR
 | cons d ms ih =>
  intro V s s' B w ps hR h hl hE hK
  cases ps with
  | nil=>simp at hl
  | cons p ps =>
   have hp:V.E d=some p:=hE 0 d p rfl rfl
   simp only [ga] at h
   split at h
   ·rename_i hb
    cases c:Nat.blt d eY with
    | false=>rw [c] at h;cases h
    | true =>
     rw [c] at h;simp only [cond_true] at h
     have hd:d<eY:=by simpa using c
     obtain ⟨q,hq,hB,_⟩:=hR.blk d _ hb
     rw [hp] at hq;cases hq
     have hB':w.heap[p.1]? = some (.deferred (some [])):=hB
     refine ⟨by simp,.inl ⟨p.1,_,rfl,run_takeDeferred hB',?_⟩⟩
     have hR':av P V { s with heap:=Tr.set 64 s.heap d .dead } B (w.putObj p.1 (.deferred none)):=
      hR.turn (b' := .dead) hd rfl hb rfl rfl hp (fun k hk=>World.putObj_heap_other hk) (by simp) rfl rfl rfl trivial
     exact ih hR' h (by simpa using hl) (fun i d' p' h1 h2=>hE (i+1) d' p' (by simpa using h1) (by simpa using h2)) hK
   ·cases h
def tF (tm:Array Value):ResultVar->Sem Value
 | .tmp t=>pure (tm.getD t undef)
 | .cell a t=>do loadVar t (<-asAddr (tm.getD a undef))
theorem y9 (fn:Func) (tm:Array Value):results fn tm=(do
  let vs <-fn.results.mapM (tF tm)
  pure (if h:vs.size=1 then vs[0] else .tuple vs):Sem Value):=rfl
theorem HD {V:az} {s:S} {B w:World} (hG:cv P g) (hR:av P V s B w) {a:A} {A:Act} (hA:aN V a A):∀{rs:List ResultVar} {vs:List AV},tG g a s rs=some vs->
  ∃xs,concL V vs=some xs/\(rs.mapM (tF A.tmps)).run P w = .ok xs w:=by
 intro rs
 induction rs with
 | nil=>intro vs h;simp [tG] at h;subst h;exact ⟨[],rfl,rfl⟩
 | cons r rs ih =>
  intro vs h
  cases r with
  | tmp t =>
   simp only [tG] at h
   split at h
   ·rename_i v l hv hl;cases h
    obtain ⟨xs,h1,h2⟩:=ih hl
    refine ⟨_,ax (hA.get hv) h1,?_⟩
    have e1:(tF A.tmps (.tmp t)).run P w = .ok (A.tmps.getD t undef) w:=rfl
    rw [List.mapM_cons,Sem.run_bind,e1,Result.andThen_ok,Sem.run_bind,h2]
    rfl
   ·cases h
  | cell x t =>
   simp only [tG] at h
   split at h
   ·rename_i id off hx
    split at h
    ·rename_i v l hv hl;cases h
     obtain ⟨xs,h1,h2⟩:=ih hl
     have hc:=hA.get hx
     obtain ⟨p,hp,e⟩:=dT hc
     have e':A.tmps.getD x undef = .pointer (some ⟨p.1,off,none⟩):=e
     obtain ⟨X,k1,k2⟩:=ve hG hR hv hp
     refine ⟨_,ax k1 h1,?_⟩
     have e1:(tF A.tmps (.cell x t)).run P w = .ok X w:=by
      show (do loadVar t (<-asAddr (A.tmps.getD x undef)):Sem Value).run P w = .ok X w
      rw [e'];exact k2
     rw [List.mapM_cons,Sem.run_bind,e1,Result.andThen_ok,Sem.run_bind,h2]
     rfl
    ·cases h
   ·cases h
theorem tH {V:az} {s:S} {B w:World} (hG:cv P g) (hR:av P V s B w) {a:A} {A:Act} (hA:aN V a A) {fn:Func} {vs:List AV} (h:tG g a s fn.results.toList=some vs) :
  ∃v,(match vs with | [v]=>v | l=>AV.tup l).conc V=some v/\(results fn A.tmps).run P w = .ok v w:=by
 obtain ⟨xs,h1,h2⟩:=HD hG hR hA h
 have hrun:(fn.results.mapM (tF A.tmps)).run P w = .ok xs.toArray w:=by
  rw [Array.mapM_eq_mapM_toList,<-bind_pure_comp,Sem.run_bind,h2];rfl
 rw [y9,Sem.run_bind,hrun,Result.andThen_ok]
 have hl:=aW h1
 split
 ·rename_i v
  obtain ⟨x,r,rfl,hx,hr⟩:=ag h1
  cases hr
  refine ⟨x,hx,?_⟩
  simp
 ·rename_i hne
  refine ⟨.tuple xs.toArray,qv h1,?_⟩
  have hn1:¬(xs.toArray.size=1):=by
   intro e
   have:vs.length=1:=by rw [<-hl];simpa using e
   obtain ⟨v,rfl⟩:=List.length_eq_one_iff.1 this
   exact hne v rfl
  simp only [hn1,dite_false,Sem.run_pure]
section
variable {SP:Nat->Option Sp} {ih:Ih} {m:Nat}
theorem Ct (e:Ex):∀ch,pI e≠ .panic ch:=by intro ch;cases e<;>simp [pI]
theorem jP (hI:kC P g SP ih m) {V:az} {F:Fence} {n:Nat} {B w:World} {lv:Lv} {rd:Option Nat} {c:Code} {a:A} {A:Act} {s:S} {K:PE->gA->Prop} {Q:Exit->Act->World->Prop} (hF:mZ F) (hL:ip V lv) (hrd:uj V F rd) (hR:av P V s B w) (hA:aN V a A)
  (h:eh SP (ih (.code lv rd c a) s) V.toPE K) (hK:mY P V B K Q):c.wpIn F n P Q A w:=
 wpIn_mono (Q:=fun ex A w=>(∀ch,ex≠ .panic ch)/\Q ex A w) (hI.code hF hL hrd hR hA h (fun pe o ho=>by
  obtain ⟨e,a,s,h1,h2⟩:=hK pe o ho
  exact ⟨e,a,s,h1,fun V' A w x1 x2 x3 x4=>⟨Ct e,h2 V' A w x1 x2 x3 x4⟩⟩) (fun ch A w hp=>hp.1 ch rfl)) (fun _ _ _ hq=>hq.2)
theorem DQ (hI:kC P g SP ih m) (hG:cv P g) {V:az} {F:Fence} {n:Nat} {B w:World} {lv:Lv} {f:FuncId} {args:List AV} {xs:List Value} {s:S} {K:PE->gA->Prop} {R:Ending->World->Prop} (hF:mZ F) (hL:ip V lv) (hR:av P V s B w) (hx:concL V args=some xs)
  (h:eh SP (DP g ih lv f args s) V.toPE K) (hK:DG P V B K R):CallsIn F n P f xs.toArray w R:=by
 have hE:∀pe n,¬K pe (.err n):=fun pe n hk=>by obtain ⟨_,_,e,_⟩:=hK _ _ hk;cases e
 unfold DP at h
 split at h
 ·exact (hE _ _ h).elim
 ·rename_i fi hfi
  cases c:(Nat.ble (bF args) fi.ntmps&&Nat.ble fi.ntmps 100000) with
  | false=>rw [c] at h;exact (hE _ _ h).elim
  | true =>
   rw [c] at h;simp only [cond_true] at h
   rw [aO] at c
   simp only [nO,Bool.and_eq_true,decide_eq_true_eq] at c
   obtain ⟨fn,hf,hb,hnt,hres⟩:=(hG.fn f fi hfi).fn
   have hFp:mZ F.plain:=hF
   suffices goal:CallsIn F.plain n P f xs.toArray w R from goal
   refine callsIn_of_wp_marks hf hb (hF.1 f) ?_
   refine jP hI (rd:=none) hFp hL rfl hR (by rw [hnt];exact wP hx c.1 c.2) (cN _ _ _ _ h) (fun pe o ho => ?_)
   cases o with
   | val v s1=>exact (hE _ _ ho).elim
   | again vs=>exact (hE _ _ ho).elim
   | err k=>exact (hE _ _ ho).elim
   | code e a1 s1 =>
    simp only [eh] at ho
    refine ⟨e,a1,s1,rfl,fun V1 A1 w1 k1 k2 k3 k4 => ?_⟩
    subst k2
    obtain ⟨ps,m1,m2,m3⟩:=k4.marks
    have fin:∀s2 vs v,ga s1 a1.marks=some s2->tG g a1 s2 fi.results=some vs->v=(match vs with | [v]=>v | l=>AV.tup l)->K V1.toPE (.val v s2)->LeavesInM F.plain n P fn A1.tmps R A1.defers .returning w1:=by
     intro s2 vs v ht hr hv hk
     rw [m3]
     refine pi k3 ht m1 m2 (fun w2 hR2 => ?_)
     obtain ⟨x,r1,r2⟩:=tH hG hR2 k4 (fn:=fn) (by rw [hres];exact hr)
     obtain ⟨v',s',e1,e2⟩:=hK _ _ hk
     cases e1
     exact ⟨x,r2,e2 V1 x w2 k1 rfl hR2 (by rw [hv];exact r1)⟩
    cases e with
    | normal =>
     simp only [nK] at ho
     split at ho
     ·rename_i s2 ht
      split at ho
      ·rename_i v0 hr;exact fin _ _ _ ht hr rfl ho
      ·rename_i l hne hr
       refine fin _ _ _ ht hr ?_ ho
       split
       ·rename_i v0;exact (hne v0 rfl).elim
       ·rfl
      ·exact (hE _ _ ho).elim
     ·exact (hE _ _ ho).elim
    | ret =>
     simp only [nK] at ho
     split at ho
     ·rename_i s2 ht
      split at ho
      ·rename_i v0 hr;exact fin _ _ _ ht hr rfl ho
      ·rename_i l hne hr
       refine fin _ _ _ ht hr ?_ ho
       split
       ·rename_i v0;exact (hne v0 rfl).elim
       ·rfl
      ·exact (hE _ _ ho).elim
     ·exact (hE _ _ ho).elim
    | exit id=>exact (hE _ _ ho).elim
    | goto l=>exact (hE _ _ ho).elim
theorem Dv (hI : kC P g SP ih m) (hG : cv P g) {V : az} {F : Fence} {n : Nat} {B w : World} {lv : Lv} {l : Nat} {p : Nat × Nat} {args : List AV} {xs : List Value} {s : S} {K : PE -> gA -> Prop} {R : Ending -> World -> Prop} (hF : mZ F) (hL : ip V lv) (hR : av P V s B w) (hp : V.E l = some p) (hx : concL V args = some xs)
  (h:eh SP (z7 ih lv l args s) V.toPE K) (hK:DG P V B K R):∃fn tmps assign body,(Instr.yield p.1 xs.toArray).run P w = .ok (.round p.1 fn tmps assign body) w/\RoundIn F n P p.1 fn tmps assign body w R:=by
 have hE:∀pe n,¬K pe (.err n):=fun pe n hk=>by obtain ⟨_,_,e,_⟩:=hK _ _ hk;cases e
 unfold z7 at h
 split at h
 ·rename_i lc tB t nn d hlc hb
  obtain ⟨fn,lc',pd,tm,q1,q2,q3,q4⟩:=mF hR hb hp
  have:lc=lc':=by have:=hL l lc hlc;rw [this] at q1;exact Option.some.inj q1
  subst this
  split at h
  ·exact (hE _ _ h).elim
  ·rename_i t' hset
   obtain ⟨s1,s2⟩:=zr hset hx q3
   have hy:=run_yield (P:=P) (args:=xs.toArray) q4 (by simpa using s1.symm)
   refine ⟨_,_,_,_,hy,?_⟩
   have hFr:mZ (F.inRound p.1):=hF
   have hA0:aN V { tmps:=t',n:=nn,marks:=[] } { tmps:=(lc.params.zip xs.toArray).foldl (fun tmps (t,a)=>tmps.setIfInBounds t a) tm,defers:=[] }:=by
    refine ⟨?_,[],rfl,fun i d p h=>by simp at h,rfl⟩
    have e:(lc.params.zip xs.toArray).foldl (fun tmps (t,a)=>tmps.setIfInBounds t a) tm=(lc.params.toList.zip xs).foldl (fun tmps (x:Tmp×Value)=>tmps.setIfInBounds x.1 x.2) tm:=by
     rw [<-Array.foldl_toList];simp
    rw [e];exact s2
   refine roundIn_of_wpIn (hF.1 fn) ?_
   refine jP hI (F:=F.inRound p.1) (n:=n) (rd:=some l) hFr hL ⟨p,hp,rfl⟩ hR hA0 (cN _ _ _ _ h) (fun pe o ho => ?_)
   cases o with
   | val v s1=>exact (hE _ _ ho).elim
   | again vs=>exact (hE _ _ ho).elim
   | err k=>exact (hE _ _ ho).elim
   | code e a1 s1' =>
    cases e with
    | exit id=>exact (hE _ _ ho).elim
    | goto l=>exact (hE _ _ ho).elim
    | ret=>exact (hE _ _ ho).elim
    | normal =>
     refine ⟨.normal,a1,s1',rfl,fun V1 A1 w1 m1 m2 m3 m4 => ?_⟩
     subst m2
     simp only at ho
     show ∃w₂,_/\_
     split at ho
     ·rename_i pe1 t1 n1 d1 hb1
      cases cl:Nat.blt l eY with
      | false=>rw [cl] at ho;exact (hE _ _ ho).elim
      | true =>
       rw [cl] at ho;simp only [cond_true] at ho
       have hl:l<eY:=by simpa using cl
       have hp1:=m1.E _ _ hp
       obtain ⟨fn1,lc1,pd1,tm1,r1,r2,r3,r4⟩:=mF m3 hb1 hp1
       have hbr:=run_beginRound (P:=P) r4 rfl
       have hR2:=qw (st' := .busy) (pe':=pe1) m3 hl hb1 hp1 r4
       refine ⟨_,hbr,?_⟩
       refine jP hI (F:=F.inRound p.1) (n:=n) (rd:=some l) hFr (hL.mono m1) ⟨p,hp1,rfl⟩ hR2 m4 (cN _ _ _ _ ho) (fun pe3 o3 ho3 => ?_)
       cases o3 with
       | val v s1=>exact (hE _ _ ho3).elim
       | again vs=>exact (hE _ _ ho3).elim
       | err k=>exact (hE _ _ ho3).elim
       | code e3 a3 s3 =>
        refine ⟨e3,a3,s3,rfl,fun V3 A3 w3 u1 u2 u3 u4 => ?_⟩
        subst u2
        have hp3:=u1.E _ _ hp1
        simp only [eh] at ho3
        have fin:∀(e:Ex) (t3:Tr AV) (n3 d3:Nat) (st3:LoopState) (pe3:Ex),s3.heap.get l=some (.loop st3 pe3 t3 n3 d3)->
          K V3.toPE (.val (.bool (i4 e).isNone) { s3 with heap:=Tr.set 64 s3.heap l (.loop (if (i4 e).isNone then .ready else .done) e t3 n3 d3) })->
          ∃x w',(Instr.endRound p.1 (i4 e)).run P w3 = .ok x w'/\R (.returned x) w':=by
         intro e t3 n3 d3 st3 pe3 hb3 hk
         obtain ⟨fn3,lc3,pd3,tm3,y1,y2,y3,y4⟩:=mF u3 hb3 hp3
         have hen:=run_endRound (P:=P) (i4 e) y4
         obtain ⟨v',s',e1,e2⟩:=hK _ _ hk
         cases e1
         exact ⟨_,_,hen,e2 V3 _ _ (m1.trans u1) rfl (qw (st':=if (i4 e).isNone then .ready else .done) (pe':=e) u3 hl hb3 hp3 y4) rfl⟩
        unfold endRound at ho3
        split at ho3
        ·rename_i st3 pe3 t3 n3 d3 hb3
         cases e3 with
         | normal=>exact fin .normal t3 n3 d3 st3 pe3 hb3 ho3
         | ret=>exact fin .ret t3 n3 d3 st3 pe3 hb3 ho3
         | exit id=>exact fin (.exit id) t3 n3 d3 st3 pe3 hb3 ho3
         | goto id=>exact fin (.goto id) t3 n3 d3 st3 pe3 hb3 ho3
        ·exact (hE _ _ ho3).elim
     ·exact (hE _ _ ho).elim
 ·exact (hE _ _ h).elim
end
end
end
section
open Go.RowKit
section
variable {P:Program} {g:G} {SP:Nat->Option Sp} {ih:Ih} {m:Nat}
theorem wQ {V:az} {s s1 s2:S} {B w:World} (hR:av P V s B w) {d l:Nat} {t:Tr AV} {n:Nat} {tm:Array Value} (ht:oc V t n tm) {ps:Array Tmp} {x y:Code} (fn:FuncId) (h1:iD s .defd=some (d,s1)) (h2:iD s1 (.loop .ready .normal t n d)=some (l,s2)) :
  ∃V2,dM V V2/\V2.E d=some (w.heap.size,0)/\V2.E l=some (w.heap.size+1,0)/\V2.L l=some ⟨ps,x,y⟩/\
   av P V2 s2 B ((w.alloc (.deferred (some []))).alloc (.loop { state := .ready,pending:=none,fn:=fn,tmps:=tm,params:=ps,assign:=x,body:=y,defers:=w.heap.size })):=by
 obtain ⟨a1,a2,a3⟩:=hR.new (cap:=0) (lc:=none) (o := .deferred (some [])) h1 rfl (.inl rfl) rfl
 have hsz:(w.alloc (.deferred (some []))).heap.size=w.heap.size+1:=fK _ _
 have hx:=a1.ext (gN h2).2.2.1 ((w.alloc (.deferred (some []))).heap.size,0) (some ⟨ps,x,y⟩)
 obtain ⟨b1,b2,b3⟩:=a1.new (cap:=0) (lc:=some ⟨ps,x,y⟩) (o := .loop { state := .ready,pending:=none,fn:=fn,tmps:=tm,params:=ps,assign:=x,body:=y,defers:=w.heap.size }) h2 rfl (.inr ⟨_,_,_,_,_,rfl⟩)
  ⟨fn,⟨ps,x,y⟩,(w.heap.size,0),tm,by show (if l=l then Dy (some ⟨ps,x,y⟩) _ else _)=_;simp [Dy],hx.E _ _ a3,jM (a2.ext.trans hx) ht,rfl⟩
 refine ⟨_,a2.trans b2,b2.ext.E _ _ a3,by rw [b3,hsz],?_,b1⟩
 show (if l=l then Dy (some ⟨ps,x,y⟩) _ else _)=_
 simp [Dy]
theorem wO {V:az} {s s2:S} {B w:World} (hR:av P V s B w) {d l:Nat} {t:Tr AV} {n:Nat} {tm:Array Value} {pd:Nat×Nat} (ht:oc V t n tm) (hd:V.E d=some pd) {ps:Array Tmp} {x y:Code} (fn:FuncId) (h2:iD s (.loop .ready .normal t n d)=some (l,s2)) :
  ∃V2,dM V V2/\V2.E l=some (w.heap.size,0)/\V2.L l=some ⟨ps,x,y⟩/\
   av P V2 s2 B (w.alloc (.loop { state := .ready,pending:=none,fn:=fn,tmps:=tm,params:=ps,assign:=x,body:=y,defers:=pd.1 })):=by
 have hx:=hR.ext (gN h2).2.2.1 (w.heap.size,0) (some ⟨ps,x,y⟩)
 obtain ⟨b1,b2,b3⟩:=hR.new (cap:=0) (lc:=some ⟨ps,x,y⟩) (o := .loop { state := .ready,pending:=none,fn:=fn,tmps:=tm,params:=ps,assign:=x,body:=y,defers:=pd.1 }) h2 rfl (.inr ⟨_,_,_,_,_,rfl⟩)
  ⟨fn,⟨ps,x,y⟩,pd,tm,by show (if l=l then Dy (some ⟨ps,x,y⟩) _ else _)=_;simp [Dy],hx.E _ _ hd,jM hx ht,rfl⟩
 refine ⟨_,b2,b3,?_,b1⟩
 show (if l=l then Dy (some ⟨ps,x,y⟩) _ else _)=_
 simp [Dy]
theorem mV {w:World} {l0:Nat} {r:Loop} (h:w.heap[l0]? = some (.loop r)) (fn:FuncId) (tmps:Array Value) (ps:Array Tmp) (assign body:Code) :
  (Instr.enterLoop fn tmps ps assign body (some l0)).run P w = .ok (w.heap.size,[]) (w.alloc (.loop { state := .ready,pending:=none,fn,tmps,params:=ps,assign,body,defers:=r.defers })):=by
 unfold Instr.enterLoop
 simp only [Sem.run_bind,run_getLoop h,Result.andThen_ok,Sem.run_pure,run_newObj_alloc]
theorem G1 {V:az} {lv:Lv} {l:Nat} {c:LC} (h:ip V lv) (hl:V.L l=some c):ip V ((l,c)::lv):=by
 intro i c' hi
 simp only [sX] at hi
 cases hb:Nat.beq l i with
 | true=>
      rw [hb] at hi;simp only [cond_true] at hi;cases hi;have:l=i:=by simpa using hb
      rw [<-this];exact hl
 | false=>rw [hb] at hi;exact h i c' hi
theorem C3 (hI:kC P g SP ih m) {V3:az} {F:Fence} {n:Nat} {B w3:World} {lv:Lv} {rd:Option Nat} {a:A} {A:Act} {s3:S} {l:Nat} {q:Nat×Nat} {mark:List Nat} {marks:List Deferred} {K:PE->gA->Prop} {Q:Exit->Act->World->Prop}
  (hF:mZ F) (hL:ip V3 lv) (hrd:uj V3 F rd) (hR:av P V3 s3 B w3) (hp:V3.E l=some q) (hK:mY P V3 B K Q) (hQ:∀ch A w,¬Q (.panic ch) A w)
  (hA:aN V3 { a with marks:=mark++a.marks } { A with defers:=marks++A.defers }) (h:eh SP (kI ih lv rd l mark a s3) V3.toPE K) :
  ∃ jump w4, (Instr.endLoop q.1).run P w3 = .ok jump w4 /\ (match jump with
    | none=>Q .normal { A with defers:=marks++A.defers } w4
    | some c=>c.wpIn F n P Q { A with defers:=marks++A.defers } w4):=by
 have hE:∀pe n,¬K pe (.err n):=fun pe n hk=>by obtain ⟨_,_,_,e,_⟩:=hK _ _ hk;cases e
 unfold kI at h
 split at h
 ·rename_i st pe t nn d hb
  have key : st ≠ .busy -> ∃ jump w4, (Instr.endLoop q.1).run P w3 = .ok jump w4 /\ (match jump with
       | none=>Q .normal { A with defers:=marks++A.defers } w4
       | some c=>c.wpIn F n P Q { A with defers:=marks++A.defers } w4):=by
   intro hst
   split at h
   ·exact (hE _ _ h).elim
   ·cases cl:Nat.blt l eY with
    | false=>rw [cl] at h;exact (hE _ _ h).elim
    | true =>
     rw [cl] at h;simp only [cond_true] at h
     have hl:l<eY:=by simpa using cl
     obtain ⟨fn,lc,pd,tm,h1,h2,h3,h4⟩:=mF hR hb hp
     have hrun:=run_endLoop (P:=P) h4 hst
     have hR4:=qw (st' := .exhausted) (pe':=pe) hR hl hb hp h4
     refine ⟨i4 pe,_,hrun,?_⟩
     cases hj:i4 pe with
     | none=>
      rw [hj] at h
      obtain ⟨e,a',s',e1,e2⟩:=hK _ _ h
      cases e1
      refine e2 V3 _ _ (eU.refl V3) rfl ?_ hA
      rw [<-hj];exact hR4
     | some c=>
      rw [hj] at h
      refine hI.code hF hL hrd ?_ hA h hK hQ
      rw [<-hj];exact hR4
  by_cases hst:st = .busy
  ·subst hst;exact (hE _ _ h).elim
  ·exact key hst
 ·exact (hE _ _ h).elim
theorem C2 (hI : kC P g SP ih m) (hG : cv P g) {V : az} {F : Fence} {n : Nat} {B w : World} {lv : Lv} {rd : Option Nat} {f : Operand} {params : Array Tmp} {assign body : Code} {a : A} {A : Act} {s : S} {K : PE -> gA -> Prop} {Q : Exit -> Act -> World -> Prop}
  (hF:mZ F) (hL:ip V lv) (hrd:uj V F rd) (hR:av P V s B w) (hA:aN V a A) (h:eh SP (yX ih lv rd g f params assign body a s) V.toPE K) (hK:mY P V B K Q) (hQ:∀ch A w,¬Q (.panic ch) A w) :
  (Code.rangeFunc f params assign body).wpIn F n P Q A w:=by
 have hE:∀pe n,¬K pe (.err n):=fun pe n hk=>by obtain ⟨_,_,_,e,_⟩:=hK _ _ hk;cases e
 unfold yX at h
 split at h
 ·rename_i kf first captured hf
  split at h
  ·exact (hE _ _ h).elim
  ·rename_i fi hfi
   obtain ⟨fs,cs,f1,f2,f3⟩:=fQ (au hA hR.globOk hf)
   refine wpIn_rangeFunc (fun fn _ => ?_)
   have rest:∀(V2:az) (s2:S) (l:Nat) (q:Nat×Nat) (w2:World) (mark:List Nat) (marks:List Deferred),dM V V2->av P V2 s2 B w2->V2.E l=some q->V2.L l=some ⟨params,assign,body⟩->
     aN V2 { a with marks:=mark++a.marks } { A with defers:=marks++A.defers }->eh SP ((ih (.call ((l,⟨params,assign,body⟩)::lv) kf ((first++[.yield l])++captured)) s2).bind fun r=>match r with
       | .val _ s=>kI ih lv rd l mark a s
       | .err n => .out (.err n)
       | _ => .out (.err 76)) V2.toPE K->
     ∃(d:Deferred) (w₁':World) (f':FuncId) (args:Array Value) (w₂:World),(resolve A.eval (rangeCall f q.1) 0).run P w2 = .ok d w₁'/\(∀f',Target.leads P w₁' d.target d.args=some f'->F.fn f')/\(invoke d.target d.args).run P w₁' = .ok (.enter f' args) w₂/\
      (F.depth.isSome=true->1<=n)/\CallsIn F (n-1) P f' args w₂ (rangePost F n P q.1 Q { A with defers:=marks++A.defers }):=by
    intro V2 s2 l q w2 mark marks x1 x2 x3 x4 x5 hs
    have hargs:concL V2 ((first++[.yield l])++captured)=some ((fs++[Value.func (.yield q.1) #[] #[]])++cs):=
     fP (fP (aG x1.ext f1) (ax (by simp only [AV.conc,x3]) (cA V2))) (aG x1.ext f2)
    refine ⟨{ target := .fn (.func kf) cs.toArray,args:=fs.toArray ++ #[.func (.yield q.1) #[] #[]] },w2,kf,((fs++[Value.func (.yield q.1) #[] #[]])++cs).toArray,w2,?_,fun f' _=>hF.1 f',?_,lH hF,?_⟩
    ·simp only [resolve,f3]
     simp [go_sem]
    ·have:=(hG.fn kf fi hfi).call ((fs++[Value.func (.yield q.1) #[] #[]])++cs).toArray w2
     rw [<-this]
     simp only [invoke]
     congr 2
     apply Array.ext';simp
    ·refine hI.call (F:=F) (n:=n-1) hF (G1 (hL.mono x1.ext) x4) x2 hargs (cN _ _ _ _ hs) (fun pe o ho => ?_)
     cases o with
     | code e a s=>exact (hE _ _ ho).elim
     | again vs=>exact (hE _ _ ho).elim
     | err k=>exact (hE _ _ ho).elim
     | val v s3=>
      refine ⟨v,s3,rfl,fun V3 x w3 z1 z2 z3 z4 => ?_⟩
      subst z2
      have hx3:=x1.ext.trans z1
      exact C3 hI hF (hL.mono hx3) (hrd.mono hx3) z3 (z1.E _ _ x3) (hK.mono hx3) hQ (x5.mono z1) ho
   cases rd with
   | none =>
    have hro:F.round=none:=hrd
    rw [hro]
    simp only at h
    cases hd:iD s .defd with
    | none=>rw [hd] at h;exact (hE _ _ h).elim
    | some ds =>
     obtain ⟨d,s1⟩:=ds
     rw [hd] at h;simp only at h
     cases hl:iD s1 (.loop .ready .normal a.tmps a.n d) with
     | none=>rw [hl] at h;exact (hE _ _ h).elim
     | some ls =>
      obtain ⟨l,s2⟩:=ls
      rw [hl] at h;simp only at h
      obtain ⟨V2,e1,e2,e3,e4,e5⟩:=wQ hR hA.tm (ps:=params) (x:=assign) (y:=body) fn hd hl
      obtain ⟨ps,m1,m2,m3⟩:=hA.marks
      obtain ⟨dd,w₁',f',args,w₂,q1,q2,q3,q4,q5⟩:=rest V2 s2 l (w.heap.size+1,0) _ [d] [{ target := .collected w.heap.size,args := #[] }] e1 e5 e3 e4
       ⟨jM e1.ext hA.tm, (w.heap.size, 0) :: ps, by simp [m1], fun i d' p' hh1 hh2 => by
        cases i with
        | zero=>simp at hh1 hh2;rw [<-hh1,<-hh2];exact e2
        | succ i=>simp at hh1 hh2;exact e1.ext.E _ _ (m2 i d' p' hh1 hh2),by simp [m3]⟩ (by rw [e1.pe];exact h)
      exact ⟨_,_,_,dd,w₁',f',args,w₂,run_enterLoop_outer _ _ _ _ _,q1,q2,q3,q4,q5⟩
   | some l0 =>
    obtain ⟨p0,hp0,hro⟩:=hrd
    rw [hro]
    simp only at h
    split at h
    ·exact (hE _ _ h).elim
    ·rename_i d mark s1 hx0
     split at hx0
     ·rename_i st0 tB t0 n0 d0 hb0
      cases hx0
      obtain ⟨fn0,lc0,pd0,tm0,g1,g2,g3,g4⟩:=mF hR hb0 hp0
      cases hl:iD s (.loop .ready .normal a.tmps a.n d) with
      | none=>rw [hl] at h;exact (hE _ _ h).elim
      | some ls=>
       obtain ⟨l,s2⟩:=ls
       rw [hl] at h;simp only at h
       obtain ⟨V2,e1,e3,e4,e5⟩:=wO hR hA.tm g2 (ps:=params) (x:=assign) (y:=body) fn hl
       obtain ⟨dd,w₁',f',args,w₂,q1,q2,q3,q4,q5⟩:=rest V2 s2 l (w.heap.size,0) _ [] [] e1 e5 e3 e4 (hA.mono e1.ext) (by rw [e1.pe];exact h)
       exact ⟨_,_,_,dd,w₁',f',args,w₂,mV g4 _ _ _ _ _,q1,q2,q3,q4,q5⟩
     ·cases hx0
 ·exact (hE _ _ h).elim
theorem av.shrink (hG:cv P g) {V:az} {s:S} {B w:World} (hR:av P V s B w) {x:Nat} {o:cL} {n:IE} {te:TI} (ho:bB s.own x=some o) (hmf:o.m=false) (hte:g.ty.get o.e=some te) (hz:te.size≠0) :
  ak P B w V s [.d (.rtk o.r n te.size)] { aY s with own:={ o with r:=s.nr,len:=n }::bc s.own x } (fun _=>True):=by
 intro K hK
 obtain ⟨ho1,ho2⟩:=bd ho
 obtain ⟨_,l0,_,_,_,m2',_⟩:=hR.own.ok o ho1
 simp only [aj,aX.sat,D.sat,m2'] at hK
 split at hK
 ·rename_i l9 z g1 g2
  cases g1
  obtain ⟨⟨z0,zl⟩,hk⟩:=hK
  obtain ⟨r1,r2⟩:=fA hR (l0.take (z.toNat*te.size))
  have hu:=kx V.toPE (l0.take (z.toNat*te.size))
  refine ⟨_,hu,hk _ rfl,?_,trivial⟩
  obtain ⟨q,l,n0,c,m1,m2,m3,m4,m5,m6,m7,m8⟩:=r1.own.ok o ho1
  have e:=hu.ρ _ _ m2'
  have e':aA (V.at (aL V.toPE (l0.take (z.toNat*te.size)))).ρ o.r=some l0:=e
  rw [m2] at e'
  cases e'
  obtain ⟨i,i1,i2,_⟩:=(hG.ty _ _ hte).info
  have hl:=m6 hmf i i1
  have hzz:z=Int.ofNat z.toNat:=by show z=(z.toNat:Int);omega
  have hnv:aQ (V.at (aL V.toPE (l0.take (z.toNat*te.size)))).σ n=some z.toNat:=by
   have hn:n.val (V.at (aL V.toPE (l0.take (z.toNat*te.size)))).σ=some (Int.ofNat z.toNat):=by rw [<-hzz];exact IE.val_up hu.σ _ _ g2
   simp only [aQ,hn]
  have hle:z.toNat*te.size<=l0.length:=by
   have:((z.toNat*te.size:Nat):Int)=z*(te.size:Int):=by rw [Int.natCast_mul,Int.toNat_of_nonneg z0]
   omega
  have hnn:z.toNat<=n0:=by
   rw [hl,i2] at hle
   exact Nat.le_of_mul_le_mul_right hle (by omega)
  have hnew:z9 P (V.at (aL V.toPE (l0.take (z.toNat*te.size)))) s.heap B w { o with r:=s.nr,len:=n }:=by
   refine ⟨q,_,z.toNat,c,m1,r2,hnv,m4,⟨⟨by omega,m5.1.2⟩,fun h x hx=>m5.2 h x (List.mem_of_mem_take hx)⟩,fun _ i' hi' => ?_,m7,fun p hp => ?_⟩
   ·have:i'=i:=Option.some.inj (hi'.symm.trans i1)
    subst this
    rw [List.length_take,i2]
    omega
   ·obtain ⟨k1,k2,k3,k4,k5,ob,k6,k7⟩:=m8 p hp
    refine ⟨k1,k2,k3,k4,k5,ob,k6,?_⟩
    unfold fu at k7 ⊢
    simp only [hmf] at k7 ⊢
    obtain ⟨rest,fz,rfl,q1,q2⟩:=k7
    refine ⟨l0.drop (z.toNat*te.size)++rest,fz,by rw [<-List.append_assoc,List.take_append_drop],?_,fun i' hi' => ?_⟩
    ·have:(l0.take (z.toNat*te.size)).length+(l0.drop (z.toNat*te.size)++rest).length=l0.length+rest.length:=by simp;omega
     rw [this];exact q1
    ·have:(l0.take (z.toNat*te.size)).length+(l0.drop (z.toNat*te.size)++rest).length=l0.length+rest.length:=by simp;omega
     rw [this];exact q2 i' hi'
  refine ⟨r1.know,r1.lens,r1.memo,r1.mem,r1.memB,r1.below,r1.blk,r1.dom,r1.domL,r1.inj,r1.glob,?_,fun o' h => ?_,fun o1 h1 o2 h2 p p' hne hp hp' => ?_⟩
  ·simp only [List.map_cons,List.nodup_cons]
   refine ⟨fun hm => ?_,eN r1.own.nd⟩
   obtain ⟨y,hy,ey⟩:=List.mem_map.1 hm
   exact (am hy).2 (by rw [ey,ho2])
  ·cases h with
   | head=>exact hnew
   | tail _ h=>exact r1.own.ok o' (am h).1
  ·have gK:∀y,y∈({ o with r:=s.nr,len:=n }::bc s.own x)->∃y',y'∈s.own/\y'.a=y.a/\y'.m=y.m:=fun y hy=>by
    cases hy with
    | head=>exact ⟨o,ho1,rfl,rfl⟩
    | tail _ hy=>exact ⟨y,(am hy).1,rfl,rfl⟩
   obtain ⟨y1,a1,a2,a3⟩:=gK o1 h1
   obtain ⟨y2,b1,b2,b3⟩:=gK o2 h2
   exact r1.own.dj y1 a1 y2 b1 p p' (by rw [a2,b2];exact hne) (by rw [a2,a3];exact hp) (by rw [b2,b3];exact hp')
 ·exact hK.elim
theorem zw (hG:cv P g) {a:A} {B w:World}:∀(l:List (Tmp×TypeId)) (V:az) (s:S) {p:List aX} {s':S},av P V s B w->gZ g a l s=(p,s')->ak P B w V s p s' (fun _=>True):=by
 intro l
 induction l with
 | nil=>intro V s p s' hR h;simp only [gZ,Prod.mk.injEq] at h;obtain ⟨rfl,rfl⟩:=h;exact ak.nil hR trivial
 | cons x l ih =>
  intro V s p s' hR h
  obtain ⟨t,e⟩:=x
  simp only [gZ] at h
  split at h
  ·split at h
   ·rename_i x off n c _ _ _ o te ho hte
    cases hc:(!o.m&&(dv off&&(o.cap.eqb c&&(Nat.beq o.e e&&(!o.len.eqb n && !Nat.beq te.size 0))))) with
    | false=>rw [hc] at h;exact ih V s hR h
    | true=>
     rw [hc] at h
     simp only [cond_true] at h
     simp only [Bool.and_eq_true,Bool.not_eq_true'] at hc
     obtain ⟨c1,c2,c3,c4,c5,c6⟩:=hc
     have ee:o.e=e:=by simpa using c4
     subst ee
     have hz:te.size≠0:=fun e0=>by rw [e0] at c6;cases c6
     rcases hs:gZ g a l { aY s with own:={ o with r:=s.nr,len:=n }::bc s.own x } with ⟨p1,s1⟩
     rw [hs] at h
     simp only [Prod.mk.injEq] at h
     obtain ⟨rfl,rfl⟩:=h
     exact (av.shrink hG hR ho c1 hte hz).app (p:=[.d (.rtk o.r n te.size)]) (fun pe hu r1 _=>ih (V.at pe) _ r1 hs)
   ·exact ih V s hR h
  ·exact ih V s hR h
theorem DW (hI:kC P g SP ih m) (hS:eO P g SP) (hG:cv P g) {V:az} {F:Fence} {n:Nat} {B w:World} {lv:Lv} {rd:Option Nat} {c:Code} {a:A} {A:Act} {s:S} {K:PE->gA->Prop} {Q:Exit->Act->World->Prop}
  (hF:mZ F) (hL:ip V lv) (hrd:uj V F rd) (hR:av P V s B w) (hA:aN V a A) (h:eh SP (qC g ih lv rd c a s) V.toPE K) (hK:mY P V B K Q) (hQ:∀ch A w,¬Q (.panic ch) A w):c.wpIn F n P Q A w:=by
 have hE:∀pe n,¬K pe (.err n):=fun pe n hk=>by obtain ⟨_,_,_,e,_⟩:=hK _ _ hk;cases e
 have fin:∀{e:Ex} {a':Vc.A} {s':S},K V.toPE (.code e a' s')->av P V s' B w->aN V a' A->Q (pI e) A w:=by
  intro e a' s' hk r ar
  obtain ⟨e',a2,s2,e1,e2⟩:=hK _ _ hk
  cases e1
  exact e2 V A w (eU.refl V) rfl r ar
 have yQ:∀(a':Vc.A) (s':S) (V':az) (A':Act) (w':World),eU V V'->av P V' s' B w'->aN V' a' A'->K V'.toPE (.code .normal a' s')->Q .normal A' w':=by
  intro a' s' V' A' w' x r ar hk
  obtain ⟨e',a2,s2,e1,e2⟩:=hK _ _ hk
  cases e1
  exact e2 V' A' w' x rfl r ar
 cases c with
 | skip=>exact wpIn_skip (fin h hR hA)
 | label l=>exact wpIn_label (fin h hR hA)
 | exit id=>exact wpIn_exit (fin (e := .exit id) h hR hA)
 | ret=>exact wpIn_ret (fin (e := .ret) h hR hA)
 | scope b=>exact (hE _ _ h).elim
 | goto l=>exact (hE _ _ h).elim
 | refuse l=>exact (hE _ _ h).elim
 | region id ops draw =>
  simp only [qC] at h
  cases draw with
  | true=>
   simp only [cond_true] at h
   exact zg hI hS hG hF hQ hE hL hR hA h yQ
  | false=>
   simp only [cond_false] at h
   refine wpIn_region ?_
   have:=zo (F:=F) (n:=n) (Q:=Q) (B:=B) hI hS hG hF hE ops.toList 0 V a s A w hL hR hA (by simp) h yQ
   rw [List.range_eq_range']
   simpa using this
 | seq x y =>
  simp only [qC] at h
  refine wpIn_seq (hI.code hF hL hrd hR hA (cN _ _ _ _ h) (fun pe o ho => ?_) (fun ch A w hp=>hQ ch A w hp))
  have other:∀{o:gA},K pe o->(∀a' s',o≠ .code .normal a' s')->∃e a s,o = .code e a s/\∀V' A w,eU V V'->V'.toPE=pe->av P V' s B w->aN V' a A->Exit.then (fun a w=>y.wpIn F n P Q a w) Q (pI e) A w:=by
   intro o hk hne
   obtain ⟨e,a',s',e1,e2⟩:=hK _ _ hk
   refine ⟨e,a',s',e1,fun V' A' w' x1 x2 x3 x4 => ?_⟩
   have:=e2 V' A' w' x1 x2 x3 x4
   cases e with
   | normal=>exact (hne a' s' e1).elim
   | exit id=>exact this
   | goto l=>exact this
   | ret=>exact this
  cases o with
  | val v s'=>exact other ho (by simp)
  | err k=>exact other ho (by simp)
  | again vs'=>exact other ho (by simp)
  | code e a' s' =>
   cases e with
   | exit id=>exact other ho (by simp)
   | goto l=>exact other ho (by simp)
   | ret=>exact other ho (by simp)
   | normal=>
    refine ⟨.normal,a',s',rfl,fun V' A' w' x1 x2 x3 x4 => ?_⟩
    subst x2
    exact hI.code hF (hL.mono x1) (hrd.mono x1) x3 x4 ho (hK.mono x1) hQ
 | cond o x y =>
  simp only [qC,H0] at h
  split at h
  ·rename_i b hb
   have:=au hA hR.globOk hb
   simp only [AV.conc,Option.some.injEq] at this
   refine wpIn_cond (t:=b) this.symm ?_
   cases b with
   | true=>exact hI.code hF hL hrd hR hA h hK hQ
   | false=>exact hI.code hF hL hrd hR hA h hK hQ
  ·rename_i c hc
   obtain ⟨z,hz,ez⟩:=fm (au hA hR.globOk hc)
   refine wpIn_cond (t:=z) ez ?_
   split at h
   ·rename_i b hb
    have:=vz hR c b z hb hz
    subst this
    cases z with
    | true=>exact hI.code hF hL hrd hR hA h hK hQ
    | false=>exact hI.code hF hL hrd hR hA h hK hQ
   ·have hR1:=gk c z s hR hz
    split at h
    ·rename_i t
     cases hdb:Nat.blt t eY with
     | false=>rw [hdb] at h;exact (hE _ _ h).elim
     | true=>
      rw [hdb] at h
      simp only [cond_true,eh,hz] at h
      have ht:t<eY:=by simpa using hdb
      have hA1:=hA.setB (d:=t) (c:=c) (b:=z) (by simpa [ei] using hc) hz ht
      cases z with
      | true=>exact hI.code hF hL hrd hR1 hA1 (h.1 ((BE.T_iff c _ true hz).2 rfl)) hK hQ
      | false=>exact hI.code hF hL hrd hR1 hA1 (h.2 ((BE.T_iff c _ false hz).2 rfl)) hK hQ
    ·simp only [eh] at h
     have hz':c.val V.toPE.σ V.toPE.β=some z:=hz
     rw [hz'] at h
     cases z with
     | true=>exact hI.code hF hL hrd hR1 hA (h.1 ((BE.T_iff c _ true hz).2 rfl)) hK hQ
     | false=>exact hI.code hF hL hrd hR1 hA (h.2 ((BE.T_iff c _ false hz).2 rfl)) hK hQ
  ·exact (hE _ _ h).elim
 | block id b =>
  simp only [qC] at h
  refine wpIn_block (hI.code hF hL hrd hR hA (cN _ _ _ _ h) (fun pe o ho => ?_) (fun ch A w hp=>hQ ch A w hp))
  have other:∀{o:gA},K pe o->(∀i a' s',o≠ .code (.exit i) a' s')->∃e a s,o = .code e a s/\∀V' A w,eU V V'->V'.toPE=pe->av P V' s B w->aN V' a A->Exit.inBlock id Q (pI e) A w:=by
   intro o hk hne
   obtain ⟨e,a',s',e1,e2⟩:=hK _ _ hk
   refine ⟨e,a',s',e1,fun V' A' w' x1 x2 x3 x4 => ?_⟩
   have:=e2 V' A' w' x1 x2 x3 x4
   cases e with
   | normal=>exact this
   | exit i=>exact (hne i a' s' e1).elim
   | goto l=>exact this
   | ret=>exact this
  cases o with
  | val v s'=>exact other ho (by simp)
  | err k=>exact other ho (by simp)
  | again vs'=>exact other ho (by simp)
  | code e a' s' =>
   cases e with
   | normal=>exact other ho (by simp)
   | goto l=>exact other ho (by simp)
   | ret=>exact other ho (by simp)
   | exit i =>
    refine ⟨.exit i,a',s',rfl,fun V' A' w' x1 x2 x3 x4 => ?_⟩
    subst x2
    simp only at ho
    cases hc:Nat.beq i id with
    | true=>
     rw [hc] at ho
     have hi:i=id:=by simpa using hc
     obtain ⟨e',a2,s2,e1,e2⟩:=hK _ _ ho
     cases e1
     show (if i=id then _ else _)
     rw [if_pos hi];exact e2 V' A' w' x1 rfl x3 x4
    | false=>
     rw [hc] at ho
     have hi:¬i=id:=by simpa using hc
     obtain ⟨e',a2,s2,e1,e2⟩:=hK _ _ ho
     cases e1
     show (if i=id then _ else _)
     rw [if_neg hi];exact e2 V' A' w' x1 rfl x3 x4
 | loop b =>
  simp only [qC] at h
  split at h
  ·rename_i nt _
   rcases hsl:gZ g a nt.otmps s with ⟨p,s'⟩
   rw [hsl] at h
   simp only at h
   obtain ⟨pe,u,h1,r1,_⟩:=zw hG nt.otmps V s hR hsl _ (da h)
   exact EH (V:=V.at pe) hI hF (hL.mono (aD u)) (hrd.mono (aD u)) r1 (hA.mono (aD u)) h1 (hK.mono (aD u)) hQ
  ·exact wpIn_loop_rounds m (hI.loop hF hL hrd hR hA h hK hQ)
 | rangeFunc f params assign body=>
  simp only [qC] at h
  exact C2 hI hG hF hL hrd hR hA h hK hQ
theorem HJ (hI:kC P g SP ih m) (hS:eO P g SP) (hG:cv P g):kC P g SP (step g ih) (m+1):=by
 refine ⟨fun hF hL hrd hR hA h hK hQ=>DW hI hS hG hF hL hrd hR hA h hK hQ,fun hF hL hR hx h hK=>DQ hI hG hF hL hR hx h hK,fun hF hL hR hp hx h hK=>Dv hI hG hF hL hR hp hx h hK,?_⟩
 intro V F n B w lv rd c a A s K Q hF hL hrd hR hA h hK hQ
 simp only [step] at h
 show c.wpIn F n P (Exit.then (Code.roundsIn F n P c Q m) Q) A w
 refine hI.code hF hL hrd hR hA (cN _ _ _ _ h) (fun pe o ho => ?_) (fun ch A w hp=>hQ ch A w hp)
 have other:∀{o:gA},K pe o->(∀a' s',o≠ .code .normal a' s')->∃e a s,o = .code e a s/\∀V' A w,eU V V'->V'.toPE=pe->av P V' s B w->aN V' a A->Exit.then (Code.roundsIn F n P c Q m) Q (pI e) A w:=by
  intro o hk hne
  obtain ⟨e,a',s',e1,e2⟩:=hK _ _ hk
  refine ⟨e,a',s',e1,fun V' A' w' x1 x2 x3 x4 => ?_⟩
  have:=e2 V' A' w' x1 x2 x3 x4
  cases e with
  | normal=>exact (hne a' s' e1).elim
  | exit id=>exact this
  | goto l=>exact this
  | ret=>exact this
 cases o with
 | val v s'=>exact other ho (by simp)
 | err k=>exact other ho (by simp)
 | again vs'=>exact other ho (by simp)
 | code e a' s' =>
  cases e with
  | exit id=>exact other ho (by simp)
  | goto l=>exact other ho (by simp)
  | ret=>exact other ho (by simp)
  | normal=>
   refine ⟨.normal,a',s',rfl,fun V' A' w' x1 x2 x3 x4 => ?_⟩
   subst x2
   exact hI.loop hF (hL.mono x1) (hrd.mono x1) x3 x4 ho (hK.mono x1) hQ
theorem AM (hS:eO P g SP) (hG:cv P g):∀n,kC P g SP (ev g n) n
 | 0 => by
  have no:∀{K:PE->gA->Prop} {pe:PE} {Q:Prop},(∀pe n,¬K pe (.err n))->eh SP (.out (.err 0)) pe K->Q:=fun h hs=>(h _ _ hs).elim
  exact ⟨fun _ _ _ _ _ h hK _=>no (fun pe n hk=>by obtain ⟨_,_,_,e,_⟩:=hK _ _ hk;cases e) h,
   fun _ _ _ _ h hK=>no (fun pe n hk=>by obtain ⟨_,_,e,_⟩:=hK _ _ hk;cases e) h,
   fun _ _ _ _ _ h hK=>no (fun pe n hk=>by obtain ⟨_,_,e,_⟩:=hK _ _ hk;cases e) h,
   fun _ _ _ _ _ h hK _=>no (fun pe n hk=>by obtain ⟨_,_,_,e,_⟩:=hK _ _ hk;cases e) h⟩
 | n+1=>HJ (AM hS hG n) hS hG
theorem jT (hS:eO P g SP) (hG:cv P g) (fuel:Nat) {V:az} {B w:World} {f:FuncId} {args:List AV} {xs:List Value} {s:S} {K:PE->gA->Prop} {R:Ending->World->Prop} (hR:av P V s B w) (hx:concL V args=some xs)
  (h:eh SP (ev g fuel (.call [] f args) s) V.toPE K) (hK:DG P V B K R):Calls P f xs.toArray w R:=
 callsIn_wide.1 ((AM hS hG fuel).call (F:=Fence.wide) (n:=0) (lv:=[]) ⟨fun _=>trivial,rfl,rfl⟩ (fun i c h=>by simp [sX] at h) hR hx h hK)
end
#print axioms jT
end
section
open Go.RowKit
section
variable {P:Program} {B w:World}
def s0:S:={ heap := .e,next:=0,know:=⟨[],[],[]⟩,nb:=0,ns:=0,nv:=0,nr:=0,memo:=[] }
def tB (m:Mem):PE:={ σ:=[],β:=[],ς:=[],τ:=[],ρ:=[],mem:=m,mem0:=m }
theorem JP {m:Mem} (hm:∀b o,m b=some o->w.heap[b]? = some o):av P (iN (tB m)) s0 w w:=
 ⟨⟨rfl, fun i r h => (by simp [s0, aA] at h), fun a b t h => (by cases h), fun a b t h => (by cases h)⟩, ⟨rfl, rfl, rfl, rfl⟩, fun c v h => (by cases h), fun b o h => ⟨hm b o h, fun id blk p hb => (by cases hb)⟩, fun b o h => .inl h, Below.refl _ _,
  fun id b h=>(by cases h),fun id p h=>(by cases h),fun id c h=>(by cases h),fun id id' b b' p p' h=>(by cases h),fun g p h=>(by cases h),
  ⟨List.nodup_nil,fun o h=>(by cases h),fun o h=>(by cases h)⟩⟩
theorem jN {R:Type} {pe:PE} {K:R->Prop}:∀(ks:List Kd) (vs:List AV) (f:mR ks R),(∀k∈ks,k≠ .r)->gz pe ks vs f K->∃ws,concL (iN pe) vs=some ws/\bR ks f ws K:=by
 intro ks
 induction ks with
 | nil=>intro vs f _ h;cases vs<;>first | exact ⟨[],rfl,h⟩ | exact h.elim
 | cons k ks ih =>
  intro vs f hnr ha
  have hnr':∀k∈ks,k≠Kd.r:=fun k hk=>hnr k (List.mem_cons_of_mem _ hk)
  cases vs with
  | nil=>cases k<;>exact ha.elim
  | cons v vs =>
   cases k with
   | i k =>
    cases v<;>simp only [gz] at ha<;>try exact ha.elim
    rename_i k' e
    split at ha
    ·rename_i x hk hx
     have:=cF hk;subst this
     obtain ⟨ws,h1,h2⟩:=ih vs _ hnr' ha.2
     exact ⟨.int k x::ws,ax (dc hx) h1,rfl,ha.1,h2⟩
    ·exact ha.elim
   | b =>
    simp only [gz] at ha
    split at ha
    ·rename_i x hx
     obtain ⟨ws,h1,h2⟩:=ih vs _ hnr' ha
     refine ⟨.bool x::ws,ax ?_ h1,h2⟩
     cases v<;>simp only [wC] at hx<;>first
       | (cases hx;rfl)
       | exact eZ hx
       | cases hx
    ·exact ha.elim
   | s =>
    simp only [gz] at ha
    split at ha
    ·rename_i x hx
     obtain ⟨ws,h1,h2⟩:=ih vs _ hnr' ha
     exact ⟨.string ⟨x.toArray⟩::ws,ax (qp (V:=iN pe) hx) h1,h2⟩
    ·exact ha.elim
   | r=>exact (hnr .r (List.mem_cons_self ..) rfl).elim
   | v =>
    cases v<;>simp only [gz] at ha<;>try exact ha.elim
    rename_i i
    split at ha
    ·rename_i x hx
     obtain ⟨v0,_,h4⟩:=ke hx
     have h1:=(dC h4).1
     subst h1
     obtain ⟨ws,h1,h2⟩:=ih vs _ hnr' ha
     exact ⟨x::ws,ax hx h1,h4,h2⟩
    ·exact ha.elim
   | sl =>
    cases v<;>simp only [gz] at ha<;>try exact ha.elim
    ·rename_i a off len cap
     split at ha
     ·rename_i p o n c q1 q2 q3 q4
      obtain ⟨ws,h1,h2⟩:=ih vs _ hnr' ha.2
      refine ⟨.slice (p.map fun p=>p.add o) n c::ws,ax ?_ h1,ha.1,h2⟩
      show qS pe a off len cap=_
      simp only [qS,q1,q2,q3,q4]
     ·exact ha.elim
    ·obtain ⟨ws,h1,h2⟩:=ih vs _ hnr' ha
     exact ⟨.slice none 0 0::ws,ax rfl h1,⟨by omega,by omega⟩,h2⟩
def vX:List (Option Nat)->AV->List AV
 | [_],v=>[v]
 | _,.tup l=>l
 | _,_=>[]
def kW (sg:Sig) (post:Mem->mR sg.res Prop):PE->gA->Prop:=fun pe o=>
 match o with
 | .val v _=>(match jm sg.rgrp (vX sg.rgrp v) with
  | some l=>gz pe sg.res l (post pe.mem) fun p=>p
  | none=>False)
 | _=>False
theorem fY {V : az} {g : List (Option Nat)} {v : AV} {x : Value} {ws ys : List Value} {l : List AV} (hne : g ≠ []) (hv : v.conc V = some x) (hf : jm g (vX g v) = some l) (hl : concL V l = some ws) : ∃ rs, ff g ws = some rs /\ x = BU rs := by
 have key:∀{xs:List Value},concL V (vX g v)=some xs->ff g ws=some xs:=fun hx=>by
  obtain ⟨ys,h1,h2⟩:=AR hf hx
  rw [hl] at h1;cases h1;exact h2
 cases g with
 | nil=>exact (hne rfl).elim
 | cons k g =>
  cases g with
  | nil=>
   have e:vX [k] v=[v]:=by cases v<;>rfl
   have:=key (xs:=[x]) (by rw [e];exact ax hv (cA V))
   exact ⟨[x],this,rfl⟩
  | cons k' g =>
   cases v with
   | tup l0 =>
    obtain ⟨vs,rfl,h1⟩:=ov hv
    have:=key (xs:=vs) h1
    refine ⟨vs,this,?_⟩
    have hlen : vs.length ≥ 2 := by
     have hp:∀(g:List (Option Nat)) (ws rs:List Value),ff g ws=some rs->rs.length=g.length:=by
      intro g
      induction g with
      | nil=>intro ws rs h;cases ws<;>simp [ff] at h;subst h;rfl
      | cons n g ih =>
       intro ws rs h
       cases n with
       | none =>
        cases ws with
        | nil=>simp [ff] at h
        | cons w ws=>
         simp only [ff] at h
         split at h
         ·rename_i l hl;cases h;simp [ih _ _ hl]
         ·cases h
       | some n=>
        simp only [ff] at h
        split at h
        ·rename_i l l' _ hl;cases h;simp [ih _ _ hl]
        ·cases h
     have:=hp _ _ _ this
     simp at this;omega
    match vs,hlen with
    | a::b::r,_=>rfl
   | _ =>
    all_goals
     (have hp : jm (k :: k' :: g) [] = some l := hf
      cases k<;>simp [jm] at hp)
def J0:List Kd->Bool
 | []=>true
 | .r::_=>false
 | _::ks=>J0 ks
theorem jZ:∀{ks:List Kd},J0 ks=true->∀k∈ks,k≠Kd.r:=by
 intro ks
 induction ks with
 | nil=>intro _ k h;cases h
 | cons k ks ih =>
  intro h k' hk'
  cases k<;>first
   | cases h
   | (cases hk' with
      | head=>simp
      | tail _ hk'=>exact ih h k' hk')
def jz (sg:Sig):Bool:=J0 sg.res && !sg.rgrp.isEmpty
theorem ki {V:az}:∀{g:List (Option Nat)} {vs:List AV} {ys xs:List Value},ff g ys=some xs->concL V vs=some ys->∃l,gp g vs=some l/\concL V l=some xs:=by
 intro g
 induction g with
 | nil=>
  intro vs ys xs h hy
  cases ys<;>simp [ff] at h
  subst h
  have:vs=[]:=List.length_eq_zero_iff.1 (aW hy).symm
  subst this
  exact ⟨[],rfl,rfl⟩
 | cons n g ih =>
  intro vs ys xs h hy
  cases n with
  | none =>
   cases vs with
   | nil=>cases hy;simp [ff] at h
   | cons v vs =>
    obtain ⟨y,r,rfl,h1,h2⟩:=ag hy
    simp only [ff] at h
    split at h
    ·rename_i l hl;cases h
     obtain ⟨l',k1,k2⟩:=ih hl h2
     exact ⟨v::l',by simp only [gp,k1],ax h1 k2⟩
    ·cases h
  | some n =>
   simp only [ff] at h
   split at h
   ·rename_i u l' h1 h2;cases h
    obtain ⟨e1,e2,e3⟩:=gL _ _ _ h1
    rw [ic] at h2
    obtain ⟨l,k1,k2⟩:=ih h2 (nB hy n)
    have hyl:=aW hy
    have ht:gn n vs=some (vs.take n):=by
     obtain ⟨a1,a2⟩:=pX (vs.take n) (vs.drop n) n (by simp;omega)
     rw [List.take_append_drop] at a1;exact a1
    refine ⟨.agg (vs.take n)::l,by simp only [gp,ht,ic,k1],ax (gd (by rw [e1];exact fH hy n)) k2⟩
   ·cases h
theorem cX {g:G} {SP:Nat->Option Sp} (hS:eO P g SP) (hG:cv P g) (fuel:Nat) (c:Sp) (args:List AV) (hr:jz c.toSig=true) (hargs:gp c.grp (cu c.args s0).1=some args)
  (h:∀m,jE c.args (tB m) c.spec fun pe r=>r.1 m->eh SP (ev g fuel (.call [] c.fn args) (cu c.args s0).2) pe (kW c.toSig r.2)):cI P c:=by
 simp only [jz,Bool.and_eq_true] at hr
 intro m w ys xs hm hpk hpre
 have hself:∀{R:Type} {K:R->Prop} (ks:List Kd) (f:mR ks R) (vs:List Value),bR ks f vs K->bR ks f vs (fun r=>K r/\∀K':R->Prop,K' r->bR ks f vs K'):=by
  intro R K ks
  induction ks with
  | nil=>intro f vs h;cases vs<;>first | exact ⟨h,fun K' hk=>hk⟩ | exact h.elim
  | cons k ks ih =>
   intro f vs h
   cases vs with
   | nil=>cases k<;>exact h.elim
   | cons v vs=>
    cases k with
    | i k=>cases v<;>first | exact ⟨h.1,h.2.1,bq (fun r hr=>⟨hr.1,fun K' hk=>⟨h.1,h.2.1,hr.2 K' hk⟩⟩) _ _ _ (ih _ _ h.2.2)⟩ | exact h.elim
    | b=>cases v<;>first | exact ih _ _ h | exact h.elim
    | s=>cases v<;>first | exact ih _ _ h | exact h.elim
    | r=>exact h.elim
    | v=>exact ⟨h.1,bq (fun r hr=>⟨hr.1,fun K' hk=>⟨h.1,hr.2 K' hk⟩⟩) _ _ _ (ih _ _ h.2)⟩
    | sl=>cases v<;>first | exact ⟨h.1,bq (fun r hr=>⟨hr.1,fun K' hk=>⟨h.1,hr.2 K' hk⟩⟩) _ _ _ (ih _ _ h.2)⟩ | exact h.elim
 have hh:=fG (P:=P) (B:=w) (w:=w) c.args ys (iN (tB m)) s0 c.spec (JP hm) (hself _ _ _ hpre) (h m)
 refine hh.elim fun pe hh=>hh.elim fun r hh => ?_
 obtain ⟨h1,⟨h2,hback⟩,h3⟩:=hh
 obtain ⟨l,e1,e2⟩:=ki hpk (cG (V:=(iN (tB m)).at pe) h3.vals rfl)
 rw [hargs] at e1;cases e1
 refine jT hS hG fuel h3.rel e2 (h1 h2) (fun pe' o ho => ?_)
 unfold kW at ho
 cases o with
 | code e a s=>exact ho.elim
 | again vs=>exact ho.elim
 | err k=>exact ho.elim
 | val v s =>
  refine ⟨v,s,rfl,fun V' x w' k1 k2 k3 k4 => ?_⟩
  subst k2
  simp only at ho
  split at ho
  ·rename_i fl hfl
   obtain ⟨ws,f1,f2⟩:=jN c.res _ _ (jZ hr.1) ho
   obtain ⟨rs',g1,g2⟩:=fY (ys:=ys) (by intro e;rw [e] at hr;simp at hr) k4 hfl (cG f1 rfl)
   refine ⟨V'.mem,ws,rs',by rw [g2],g1,k3.below,fun b o hb=>k1.up.mem b o (h3.up.mem b o hb),fun b o hb=>⟨(k3.mem b o hb).1,?_⟩,hback _ f2⟩
   rcases k3.memB b o hb with q | q
   ·left
    rw [show V'.mem0=pe.mem0 from k1.up.mem0,h3.up.mem0] at q
    exact q
   ·exact .inr q
  ·exact ho.elim
def rE:Nat->List Sp->List (Nat×FuncId×Sig)
 | _,[]=>[]
 | k,sp::l=>(k,sp.fn,sp.toSig)::rE (Nat.succ k) l
def Dz (P:Program):List Sp->Prop
 | []=>True
 | sp::l=>cI P sp/\Dz P l
theorem zE:∀(l:List Sp) (k j:Nat) (f:FuncId) (sg:Sig),Dz P l->mc (rE k l) f=some (j,sg)->∃sp,k<=j/\aA l (j-k)=some sp/\sp.fn=f/\sp.toSig=sg/\cI P sp:=by
 intro l
 induction l with
 | nil=>intro k j f ks _ h;cases h
 | cons sp l ih =>
  intro k j f ks ha h
  simp only [rE,mc] at h
  cases hb:Nat.beq sp.fn f with
  | true=>
   rw [hb] at h;cases h
   exact ⟨sp,Nat.le_refl _,by simp [aA],by simpa using hb,rfl,ha.1⟩
  | false=>
   rw [hb] at h
   obtain ⟨sp',h1,h2,h3⟩:=ih (Nat.succ k) j f ks ha.2 h
   have h1':k+1<=j:=h1
   refine ⟨sp',by omega,?_,h3⟩
   rw [cJ] at h2 ⊢
   rw [show j-k=(j-Nat.succ k)+1 by omega]
   simpa using h2
theorem aZ {g:G} (l:List Sp) (ha:Dz P l) (hg:g.specs=rE 0 l):eO P g (aA l):=by
 intro f k ks h
 rw [hg] at h
 obtain ⟨sp,_,h1,h2,h3,h4⟩:=zE l 0 k f ks ha h
 exact ⟨sp,h1,h2,h3,h4⟩
end
end
section
open Go.RowKit
def gH:List (Nat×List AV)->Tr ef
 | [] => .e
 | (g,l)::r=>Tr.set 64 (gH r) (Nat.succ (Nat.mul 2 g)) (.ro l)
def gE:List (Nat×List AV)->Nat->Option (Nat×Nat)
 | [],_=>none
 | (g,_)::r,id=>if id=2*g+1 then some (g,0) else gE r id
def FA:List (Nat×List AV)->Bool
 | []=>true
 | (g,_)::r=>Nat.blt (Nat.succ (Nat.mul 2 g)) eY&&FA r
def uw:List AV->Option (List Value)
 | []=>some []
 | .int k (.lit n)::l=>(match uw l with | some r=>some (.int k n::r) | none=>none)
 | .str t::l=>(match uw l with | some r=>some (.string ⟨t.toArray⟩::r) | none=>none)
 | .bool b::l=>(match uw l with | some r=>some (.bool b::r) | none=>none)
 | _=>none
theorem Du {V:az}:∀{l:List AV} {r:List Value},uw l=some r->concL V l=some r:=by
 intro l
 induction l with
 | nil=>intro r h;exact h
 | cons x l ih =>
  intro r h
  unfold uw at h
  split at h
  ·rename_i heq;cases heq
  ·rename_i heq;cases heq
   split at h
   ·rename_i r' hr;cases h;exact ax rfl (ih hr)
   ·cases h
  ·rename_i heq;cases heq
   split at h
   ·rename_i r' hr;cases h;exact ax rfl (ih hr)
   ·cases h
  ·rename_i heq;cases heq
   split at h
   ·rename_i r' hr;cases h;exact ax rfl (ih hr)
   ·cases h
  ·cases h
def bg (m:Mem):List (Nat×List AV)->Prop
 | []=>True
 | (g,l)::r=>(∃vs rest e fz,uw l=some vs/\m g=some (.cells (vs++rest).toArray e fz))/\bg m r
theorem bg.sub {m m':Mem} (h:ac m m'):∀{gl:List (Nat×List AV)},bg m gl->bg m' gl:=by
 intro gl
 induction gl with
 | nil=>intro _;trivial
 | cons x r ih=>
  intro hg
  obtain ⟨g,l⟩:=x
  obtain ⟨⟨vs,rest,e,fz,h1,h2⟩,h3⟩:=hg
  exact ⟨⟨vs,rest,e,fz,h1,h _ _ h2⟩,ih h3⟩
structure dJ (m:Mem) (gl:List (Nat×List AV)):Prop where
 h:bg m gl
theorem dJ.sub {m m':Mem} {gl:List (Nat×List AV)} (h:ac m m') (k:dJ m gl):dJ m' gl:=⟨k.h.sub h⟩
def sG (gl:List (Nat×List AV)):S:={ heap:=gH gl,next:=0,know:=⟨[],[],[]⟩,nb:=0,ns:=0,nv:=0,nr:=0,memo:=[] }
def vG (gl:List (Nat×List AV)) (m:Mem):az:={ tB m with E:=gE gl,L:=fun _=>none }
section
variable {P:Program} {B w:World}
theorem yA:∀(gl:List (Nat×List AV)),FA gl=true->∀id,(gH gl).get id=none/\gE gl id=none\/∃g l,(g,l)∈gl/\id=2*g+1/\(gH gl).get id=some (.ro l)/\gE gl id=some (g,0):=by
 intro gl
 induction gl with
 | nil=>intro _ id;exact .inl ⟨rfl,rfl⟩
 | cons x r ih =>
  intro hok id
  obtain ⟨g,l⟩:=x
  simp only [FA,Bool.and_eq_true,qX,decide_eq_true_eq] at hok
  have e:(gH ((g,l)::r)).get id=if id=2*g+1 then some (.ro l) else (gH r).get id:=by
   simp only [gH]
   rw [Tr.get_set64 _ _ _ _ hok.1]
   rfl
  simp only [gE]
  rw [e]
  by_cases hi:id=2*g+1
  ·right
   exact ⟨g,l,List.mem_cons_self ..,hi,by rw [if_pos hi],by rw [if_pos hi]⟩
  ·rw [if_neg hi,if_neg hi]
   rcases ih hok.2 id with h | ⟨g',l',h1,h2⟩
   ·exact .inl h
   ·exact .inr ⟨g',l',List.mem_cons_of_mem _ h1,h2⟩
theorem Cy {m:Mem}:∀{gl:List (Nat×List AV)},bg m gl->∀{g:Nat} {l:List AV},(g,l)∈gl->∃vs rest e fz,uw l=some vs/\m g=some (.cells (vs++rest).toArray e fz):=by
 intro gl
 induction gl with
 | nil=>intro _ g l h;cases h
 | cons x r ih=>
  intro hg g l h
  obtain ⟨g',l'⟩:=x
  cases h with
  | head=>exact hg.1
  | tail _ h=>exact ih hg.2 h
theorem HB {gl:List (Nat×List AV)} (hok:FA gl=true) {m:Mem} (hm:∀b o,m b=some o->w.heap[b]? = some o) (hg:bg m gl):av P (vG gl m) (sG gl) w w:=by
 have ro:∀id b,(sG gl).heap.get id=some b->∃g l,(g,l)∈gl/\id=2*g+1/\b = .ro l/\gE gl id=some (g,0):=by
  intro id b h
  rcases yA gl hok id with ⟨h1,_⟩ | ⟨g,l,h1,h2,h3,h4⟩
  ·rw [show (sG gl).heap=gH gl from rfl,h1] at h;cases h
  ·rw [show (sG gl).heap=gH gl from rfl,h3] at h;cases h
   exact ⟨g,l,h1,h2,rfl,h4⟩
 refine ⟨⟨rfl,fun i r h=>(by simp [sG,aA] at h),fun a b t h=>(by cases h),fun a b t h=>(by cases h)⟩,⟨rfl,rfl,rfl,rfl⟩,fun c v h=>(by cases h),fun b o h=>⟨hm b o h,fun id blk p hb ho => ?_⟩,fun b o h => .inl h,Below.refl _ _,
  fun id b h => ?_,fun id p h => ?_,fun id c h=>(by cases h),fun id id' b b' p p' h _ ho => ?_,fun g p h => ?_,⟨List.nodup_nil,fun o h=>(by cases h),fun o h=>(by cases h)⟩⟩
 ·obtain ⟨_,_,_,_,rfl,_⟩:=ro id blk hb
  cases ho
 ·obtain ⟨g,l,h1,h2,rfl,h4⟩:=ro id b h
  obtain ⟨vs,rest,e,fz,k1,k2⟩:=Cy hg h1
  have k3:=hm _ _ k2
  refine ⟨(g,0),h4,⟨vs,rest,e,fz,Du k1,k3⟩,fun h=>(by cases h),fun _ => ?_⟩
  exact .inl (Array.getElem?_eq_some_iff.1 k3).1
 ·rcases yA gl hok id with ⟨_,h1⟩ | ⟨g,l,_,_,h3,_⟩
  ·rw [show (vG gl m).E id=gE gl id from rfl,h1] at h;cases h
  ·exact ⟨_,h3⟩
 ·obtain ⟨_,_,_,_,rfl,_⟩:=ro id b h
  cases ho
 ·rcases yA gl hok (2*g+1) with ⟨_,h1⟩ | ⟨g',l,_,h2,_,h4⟩
  ·rw [show (vG gl m).E (2*g+1)=gE gl (2*g+1) from rfl,h1] at h;cases h
  ·rw [show (vG gl m).E (2*g+1)=gE gl (2*g+1) from rfl,h4] at h;cases h
   simp only;omega
def oM:AV->List AV
 | .tup l=>l.flatMap AV.cells
 | v=>v.cells
def vN:gA->T
 | .val v s=>(match sH (oM v) s with | (p,s')=>mT p (.out (.val v s')))
 | o => .out o
def bG {R:Type}:(ks:List Kd)->mR ks R->(R->Prop)->Prop
 | [],f,C=>C f
 | .i _::ks,f,C=>∀x,bG ks (f x) C
 | .b::ks,f,C=>∀x,bG ks (f x) C
 | .s::ks,f,C=>∀x,bG ks (f x) C
 | .r::ks,f,C=>∀x,bG ks (f x) C
 | .v::ks,f,C=>∀x,bG ks (f x) C
 | .sl::ks,f,C=>∀p n c,bG ks (f p n c) C
theorem iI {R:Type} {C K:R->Prop}:∀(ks:List Kd) (f:mR ks R) (vs:List Value),bG ks f C->bR ks f vs K->∃r,C r/\K r:=by
 intro ks
 induction ks with
 | nil=>intro f vs hc h;cases vs<;>first | exact ⟨f,hc,h⟩ | exact h.elim
 | cons k ks ih =>
  intro f vs hc h
  cases vs with
  | nil=>cases k<;>exact h.elim
  | cons v vs=>
   cases k with
   | i k=>cases v<;>first | exact ih _ _ (hc _) h.2.2 | exact h.elim
   | b=>cases v<;>first | exact ih _ _ (hc _) h | exact h.elim
   | s=>cases v<;>first | exact ih _ _ (hc _) h | exact h.elim
   | r=>exact h.elim
   | v=>exact ih _ _ (hc _) h.2
   | sl=>cases v<;>first | exact ih _ _ (hc _ _ _) h.2 | exact h.elim
def tp:List BE->List aX
 | []=>[]
 | c::l => .need c::tp l
def pW:List BE->S->S
 | [],s=>s
 | c::l,s=>pW l (eQ s c true)
theorem oQ {V:az} {C:PE->Prop}:∀(fs:List BE) (s:S),av P V s B w->aj (tp fs) V.toPE C->av P V (pW fs s) B w/\C V.toPE:=by
 intro fs
 induction fs with
 | nil=>intro s hR h;exact ⟨hR,h⟩
 | cons c l ih =>
  intro s hR h
  simp only [tp,aj,aX.sat] at h
  cases hc:c.val V.σ V.β with
  | none=>rw [hc] at h;exact h.elim
  | some z=>
   rw [hc] at h
   have hz:=(BE.T_iff _ _ true hc).1 h.1
   subst hz
   exact ih _ (gk c true s hR hc) h.2
theorem Aw (gl:List (Nat×List AV)) (fs cs:List BE) (hgl:FA gl=true) {g:G} {SP:Nat->Option Sp} (hS:eO P g SP) (hG:cv P g) (fuel:Nat) (c:Sp) (args:List AV) (hr:jz c.toSig=true) (hargs:gp c.grp (cu c.args (sG gl)).1=some args)
  (hpg:∀m,bG c.args c.spec fun r=>r.1 m->bg m gl)
  (h:∀m,jE c.args (tB m) c.spec fun pe r=>r.1 m->aj (tp fs) pe fun pe=>eh SP (md (fun s=>ev g fuel (.call [] c.fn args) s) (pW fs (cu c.args (sG gl)).2) cs) pe (kW c.toSig r.2)):cI P c:=by
 simp only [jz,Bool.and_eq_true] at hr
 intro m w ys xs hm hpk hpre
 have hglob:bg m gl:=by
  obtain ⟨r,h1,h2⟩:=iI _ _ _ (hpg m) hpre
  exact h1 h2
 have hself:∀{R:Type} {K:R->Prop} (ks:List Kd) (f:mR ks R) (vs:List Value),bR ks f vs K->bR ks f vs (fun r=>K r/\∀K':R->Prop,K' r->bR ks f vs K'):=by
  intro R K ks
  induction ks with
  | nil=>intro f vs h;cases vs<;>first | exact ⟨h,fun K' hk=>hk⟩ | exact h.elim
  | cons k ks ih =>
   intro f vs h
   cases vs with
   | nil=>cases k<;>exact h.elim
   | cons v vs=>
    cases k with
    | i k=>cases v<;>first | exact ⟨h.1,h.2.1,bq (fun r hr=>⟨hr.1,fun K' hk=>⟨h.1,h.2.1,hr.2 K' hk⟩⟩) _ _ _ (ih _ _ h.2.2)⟩ | exact h.elim
    | b=>cases v<;>first | exact ih _ _ h | exact h.elim
    | s=>cases v<;>first | exact ih _ _ h | exact h.elim
    | r=>exact h.elim
    | v=>exact ⟨h.1,bq (fun r hr=>⟨hr.1,fun K' hk=>⟨h.1,hr.2 K' hk⟩⟩) _ _ _ (ih _ _ h.2)⟩
    | sl=>cases v<;>first | exact ⟨h.1,bq (fun r hr=>⟨hr.1,fun K' hk=>⟨h.1,hr.2 K' hk⟩⟩) _ _ _ (ih _ _ h.2)⟩ | exact h.elim
 have hh:=fG (P:=P) (B:=w) (w:=w) c.args ys (vG gl m) (sG gl) c.spec (HB hgl hm hglob) (hself _ _ _ hpre) (h m)
 refine hh.elim fun pe hh=>hh.elim fun r hh => ?_
 obtain ⟨h1,⟨h2,hback⟩,h3⟩:=hh
 obtain ⟨l,e1,e2⟩:=ki hpk (cG (V:=(vG gl m).at pe) h3.vals rfl)
 rw [hargs] at e1;cases e1
 obtain ⟨hrel0,h1''⟩:=oQ fs _ h3.rel (h1 h2)
 obtain ⟨s',hrel,h1'⟩:=mP cs _ hrel0 h1''
 refine jT hS hG fuel hrel e2 h1' (fun pe' o ho => ?_)
 unfold kW at ho
 cases o with
 | code e a s=>exact ho.elim
 | again vs=>exact ho.elim
 | err k=>exact ho.elim
 | val v s =>
  refine ⟨v,s,rfl,fun V' x w' k1 k2 k3 k4 => ?_⟩
  subst k2
  simp only at ho
  split at ho
  ·rename_i fl hfl
   obtain ⟨ws,f1,f2⟩:=jN c.res _ _ (jZ hr.1) ho
   obtain ⟨rs',g1,g2⟩:=fY (ys:=ys) (by intro e;rw [e] at hr;simp at hr) k4 hfl (cG f1 rfl)
   refine ⟨V'.mem,ws,rs',by rw [g2],g1,k3.below,fun b o hb=>k1.up.mem b o (h3.up.mem b o hb),fun b o hb=>⟨(k3.mem b o hb).1,?_⟩,hback _ f2⟩
   rcases k3.memB b o hb with q | q
   ·left
    rw [show V'.mem0=pe.mem0 from k1.up.mem0,h3.up.mem0] at q
    exact q
   ·exact .inr q
  ·exact ho.elim
theorem ot (gl:List (Nat×List AV)) (fs cs:List BE) (hgl:FA gl=true) {g:G} {SP:Nat->Option Sp} (hS:eO P g SP) (hG:cv P g) (fuel:Nat) (c:Sp) (args:List AV) (hr:jz c.toSig=true) (hargs:gp c.grp (cu c.args (sG gl)).1=some args)
  (hpg:∀m,bG c.args c.spec fun r=>r.1 m->bg m gl)
  (h:∀m,jE c.args (tB m) c.spec fun pe r=>r.1 m->aj (tp fs) pe fun pe=>eh SP (md (fun s=>(ev g fuel (.call [] c.fn args) s).bind vN) (pW fs (cu c.args (sG gl)).2) cs) pe (kW c.toSig r.2)):cI P c:=by
 simp only [jz,Bool.and_eq_true] at hr
 intro m w ys xs hm hpk hpre
 have hglob:bg m gl:=by
  obtain ⟨r,h1,h2⟩:=iI _ _ _ (hpg m) hpre
  exact h1 h2
 have hself:∀{R:Type} {K:R->Prop} (ks:List Kd) (f:mR ks R) (vs:List Value),bR ks f vs K->bR ks f vs (fun r=>K r/\∀K':R->Prop,K' r->bR ks f vs K'):=by
  intro R K ks
  induction ks with
  | nil=>intro f vs h;cases vs<;>first | exact ⟨h,fun K' hk=>hk⟩ | exact h.elim
  | cons k ks ih =>
   intro f vs h
   cases vs with
   | nil=>cases k<;>exact h.elim
   | cons v vs=>
    cases k with
    | i k=>cases v<;>first | exact ⟨h.1,h.2.1,bq (fun r hr=>⟨hr.1,fun K' hk=>⟨h.1,h.2.1,hr.2 K' hk⟩⟩) _ _ _ (ih _ _ h.2.2)⟩ | exact h.elim
    | b=>cases v<;>first | exact ih _ _ h | exact h.elim
    | s=>cases v<;>first | exact ih _ _ h | exact h.elim
    | r=>exact h.elim
    | v=>exact ⟨h.1,bq (fun r hr=>⟨hr.1,fun K' hk=>⟨h.1,hr.2 K' hk⟩⟩) _ _ _ (ih _ _ h.2)⟩
    | sl=>cases v<;>first | exact ⟨h.1,bq (fun r hr=>⟨hr.1,fun K' hk=>⟨h.1,hr.2 K' hk⟩⟩) _ _ _ (ih _ _ h.2)⟩ | exact h.elim
 have hh:=fG (P:=P) (B:=w) (w:=w) c.args ys (vG gl m) (sG gl) c.spec (HB hgl hm hglob) (hself _ _ _ hpre) (h m)
 refine hh.elim fun pe hh=>hh.elim fun r hh => ?_
 obtain ⟨h1,⟨h2,hback⟩,h3⟩:=hh
 obtain ⟨l,e1,e2⟩:=ki hpk (cG (V:=(vG gl m).at pe) h3.vals rfl)
 rw [hargs] at e1;cases e1
 obtain ⟨hrel0,h1''⟩:=oQ fs _ h3.rel (h1 h2)
 obtain ⟨s',hrel,h1'⟩:=mP cs _ hrel0 h1''
 refine jT hS hG fuel hrel e2 (cN _ _ _ _ h1') (fun pe' o ho => ?_)
 cases o with
 | code e a s=>exact ho.elim
 | again vs=>exact ho.elim
 | err k=>exact ho.elim
 | val v s =>
  refine ⟨v,s,rfl,fun V0 x w' k1' k2 k3' k4' => ?_⟩
  subst k2
  simp only [vN] at ho
  rcases hfz:sH (oM v) s with ⟨pf,sf⟩
  rw [hfz] at ho
  simp only at ho
  obtain ⟨pef,uf,ho,k3,_⟩:=oG k3' hfz _ (da ho)
  have k4:=aF (aD uf) _ _ k4'
  have k1:=k1'.trans (aD uf)
  generalize hV':V0.at pef=V' at k3 k4 k1
  have hpe:V'.toPE=pef:=by rw [<-hV'];rfl
  subst hpe
  simp only [eh,kW] at ho
  split at ho
  ·rename_i fl hfl
   obtain ⟨ws,f1,f2⟩:=jN c.res _ _ (jZ hr.1) ho
   obtain ⟨rs',g1,g2⟩:=fY (ys:=ys) (by intro e;rw [e] at hr;simp at hr) k4 hfl (cG f1 rfl)
   refine ⟨V'.mem,ws,rs',by rw [g2],g1,k3.below,fun b o hb=>k1.up.mem b o (h3.up.mem b o hb),fun b o hb=>⟨(k3.mem b o hb).1,?_⟩,hback _ f2⟩
   rcases k3.memB b o hb with q | q
   ·left
    rw [show V'.mem0=pe.mem0 from k1.up.mem0,h3.up.mem0] at q
    exact q
   ·exact .inr q
  ·exact ho.elim
def yR (K:ew) (e:IE):IE:=match e.rng K with | some (a,b)=>bif lf b a then .lit a else e | none=>e
theorem BA {K:ew} {σ:List Int} (hK:cx K σ) {e:IE} {z:Int} (h:e.val σ=some z):(yR K e).val σ=some z:=by
 unfold yR
 split
 ·rename_i a b hr
  obtain ⟨z',h1,h2,h3⟩:=IE.rng_ok hK e _ hr
  rw [h] at h1;cases h1
  cases c:lf b a with
  | false=>exact h
  | true=>
   have c':b<=a:=by rw [jG] at c;simpa using c
   simp only at h2 h3
   have:a=z:=by omega
   rw [this];rfl
 ·exact h
def xn (K:ew):AV->AV
 | .int k e => .int k (yR K e)
 | .sl a off n c => .sl a (yR K off) (yR K n) (yR K c)
 | v=>v
def Hb (K:ew):AV->AV
 | .agg l => .agg (l.map (xn K))
 | v=>xn K v
theorem th {K:ew} {σ:List Int} (hK:cx K σ) {e:IE} {n:Nat} (h:aQ σ e=some n):aQ σ (yR K e)=some n:=by
 unfold aQ at h ⊢
 cases hz:e.val σ with
 | none=>rw [hz] at h;cases h
 | some z=>rw [hz] at h;rw [BA hK hz];exact h
theorem BB {K:ew} {V:az} (hK:cx K V.σ) {v:AV} {x:Value} (h:v.conc V=some x):(xn K v).conc V=some x:=by
 cases v with
 | int k e=>
  simp only [AV.conc,xn] at h ⊢
  cases hz:e.val V.σ with
  | none=>rw [hz] at h;cases h
  | some z=>rw [hz] at h;rw [BA hK hz];exact h
 | sl a off n c =>
  simp only [AV.conc,xn,qS] at h ⊢
  split at h
  ·rename_i p o n' c' h1 h2 h3 h4
   rw [h1,th hK h2,th hK h3,th hK h4]
   exact h
  ·cases h
 | _=>exact h
theorem Hd {K:ew} {V:az} (hK:cx K V.σ):∀{l:List AV} {vs:List Value},concL V l=some vs->concL V (l.map (xn K))=some vs:=by
 intro l
 induction l with
 | nil=>intro vs h;exact h
 | cons x l ih=>
  intro vs h
  obtain ⟨v,r,rfl,h1,h2⟩:=ag h
  exact ax (BB hK h1) (ih h2)
theorem Hc {K:ew} {V:az} (hK:cx K V.σ) {v:AV} {x:Value} (h:v.conc V=some x):(Hb K v).conc V=some x:=by
 cases v with
 | agg l=>
  obtain ⟨vs,rfl,h1⟩:=cg h
  show (AV.agg (l.map (xn K))).conc V=_
  have e:AV.conc.concL V (l.map (xn K))=some vs:=Hd hK h1
  simp only [AV.conc]
  rw [e]
 | _=>exact BB hK h
theorem xm {K:ew} {V:az} (hK:cx K V.σ):∀{l:List AV} {vs:List Value},concL V l=some vs->concL V (l.map (Hb K))=some vs:=by
 intro l
 induction l with
 | nil=>intro vs h;exact h
 | cons x l ih=>
  intro vs h
  obtain ⟨v,r,rfl,h1,h2⟩:=ag h
  exact ax (Hc hK h1) (ih h2)
theorem rf (gl:List (Nat×List AV)) (fs cs:List BE) (hgl:FA gl=true) {g:G} {SP:Nat->Option Sp} (hS:eO P g SP) (hG:cv P g) (fuel:Nat) (c:Sp) (args:List AV) (hr:jz c.toSig=true) (hargs:gp c.grp (cu c.args (sG gl)).1=some args)
  (hpg:∀m,bG c.args c.spec fun r=>r.1 m->bg m gl)
  (h:∀m,jE c.args (tB m) c.spec fun pe r=>r.1 m->aj (tp fs) pe fun pe=>eh SP (md (fun s=>(ev g fuel (.call [] c.fn (args.map (Hb s.know))) s).bind vN) (pW fs (cu c.args (sG gl)).2) cs) pe (kW c.toSig r.2)):cI P c:=by
 simp only [jz,Bool.and_eq_true] at hr
 intro m w ys xs hm hpk hpre
 have hglob:bg m gl:=by
  obtain ⟨r,h1,h2⟩:=iI _ _ _ (hpg m) hpre
  exact h1 h2
 have hself:∀{R:Type} {K:R->Prop} (ks:List Kd) (f:mR ks R) (vs:List Value),bR ks f vs K->bR ks f vs (fun r=>K r/\∀K':R->Prop,K' r->bR ks f vs K'):=by
  intro R K ks
  induction ks with
  | nil=>intro f vs h;cases vs<;>first | exact ⟨h,fun K' hk=>hk⟩ | exact h.elim
  | cons k ks ih =>
   intro f vs h
   cases vs with
   | nil=>cases k<;>exact h.elim
   | cons v vs=>
    cases k with
    | i k=>cases v<;>first | exact ⟨h.1,h.2.1,bq (fun r hr=>⟨hr.1,fun K' hk=>⟨h.1,h.2.1,hr.2 K' hk⟩⟩) _ _ _ (ih _ _ h.2.2)⟩ | exact h.elim
    | b=>cases v<;>first | exact ih _ _ h | exact h.elim
    | s=>cases v<;>first | exact ih _ _ h | exact h.elim
    | r=>exact h.elim
    | v=>exact ⟨h.1,bq (fun r hr=>⟨hr.1,fun K' hk=>⟨h.1,hr.2 K' hk⟩⟩) _ _ _ (ih _ _ h.2)⟩
    | sl=>cases v<;>first | exact ⟨h.1,bq (fun r hr=>⟨hr.1,fun K' hk=>⟨h.1,hr.2 K' hk⟩⟩) _ _ _ (ih _ _ h.2)⟩ | exact h.elim
 have hh:=fG (P:=P) (B:=w) (w:=w) c.args ys (vG gl m) (sG gl) c.spec (HB hgl hm hglob) (hself _ _ _ hpre) (h m)
 refine hh.elim fun pe hh=>hh.elim fun r hh => ?_
 obtain ⟨h1,⟨h2,hback⟩,h3⟩:=hh
 obtain ⟨l,e1,e2⟩:=ki hpk (cG (V:=(vG gl m).at pe) h3.vals rfl)
 rw [hargs] at e1;cases e1
 obtain ⟨hrel0,h1''⟩:=oQ fs _ h3.rel (h1 h2)
 obtain ⟨s',hrel,h1'⟩:=mP cs _ hrel0 h1''
 refine jT hS hG fuel hrel (xm hrel.know e2) (cN _ _ _ _ h1') (fun pe' o ho => ?_)
 cases o with
 | code e a s=>exact ho.elim
 | again vs=>exact ho.elim
 | err k=>exact ho.elim
 | val v s =>
  refine ⟨v,s,rfl,fun V0 x w' k1' k2 k3' k4' => ?_⟩
  subst k2
  simp only [vN] at ho
  rcases hfz:sH (oM v) s with ⟨pf,sf⟩
  rw [hfz] at ho
  simp only at ho
  obtain ⟨pef,uf,ho,k3,_⟩:=oG k3' hfz _ (da ho)
  have k4:=aF (aD uf) _ _ k4'
  have k1:=k1'.trans (aD uf)
  generalize hV':V0.at pef=V' at k3 k4 k1
  have hpe:V'.toPE=pef:=by rw [<-hV'];rfl
  subst hpe
  simp only [eh,kW] at ho
  split at ho
  ·rename_i fl hfl
   obtain ⟨ws,f1,f2⟩:=jN c.res _ _ (jZ hr.1) ho
   obtain ⟨rs',g1,g2⟩:=fY (ys:=ys) (by intro e;rw [e] at hr;simp at hr) k4 hfl (cG f1 rfl)
   refine ⟨V'.mem,ws,rs',by rw [g2],g1,k3.below,fun b o hb=>k1.up.mem b o (h3.up.mem b o hb),fun b o hb=>⟨(k3.mem b o hb).1,?_⟩,hback _ f2⟩
   rcases k3.memB b o hb with q | q
   ·left
    rw [show V'.mem0=pe.mem0 from k1.up.mem0,h3.up.mem0] at q
    exact q
   ·exact .inr q
  ·exact ho.elim
theorem Ax (gl:List (Nat×List AV)) (fs:List BE) (hgl:FA gl=true) {g:G} {SP:Nat->Option Sp} (hS:eO P g SP) (hG:cv P g) (fuel:Nat) (c:Sp) (args:List AV) (hr:jz c.toSig=true) (hargs:gp c.grp (cu c.args (sG gl)).1=some args)
  (hpg:∀m,bG c.args c.spec fun r=>r.1 m->bg m gl)
  (h:∀m,jE c.args (tB m) c.spec fun pe r=>r.1 m->aj (tp fs) pe fun pe=>eh SP (ev g fuel (.call [] c.fn args) (pW fs (cu c.args (sG gl)).2)) pe (kW c.toSig r.2)):cI P c:=
 Aw gl fs [] hgl hS hG fuel c args hr hargs hpg h
theorem Ay (gl:List (Nat×List AV)) (hgl:FA gl=true) {g:G} {SP:Nat->Option Sp} (hS:eO P g SP) (hG:cv P g) (fuel:Nat) (c:Sp) (args:List AV) (hr:jz c.toSig=true) (hargs:gp c.grp (cu c.args (sG gl)).1=some args)
  (hpg:∀m,bG c.args c.spec fun r=>r.1 m->bg m gl)
  (h:∀m,jE c.args (tB m) c.spec fun pe r=>r.1 m->eh SP (ev g fuel (.call [] c.fn args) (cu c.args (sG gl)).2) pe (kW c.toSig r.2)):cI P c:=
 Ax gl [] hgl hS hG fuel c args hr hargs hpg h
end
end
section
open Go.RowKit
inductive St where
 | opn (c:AV)
 | is (c v:AV)
 | need (c:BE)
def gu:List St->S->PE->(PE->S->Prop)->Prop
 | [],s,pe,K=>K pe s
 | .opn c::l,s,pe,K=>(match sD (.i .i64) c s with
  | some ([.d (.openI k v)],_,s')=>aj [.d (.openI k v)] pe fun pe'=>gu l s' pe' K
  | _=>False)
 | .is c v::l,s,pe,K=>(match v.conc (iN pe) with
  | some x=>c.conc (iN pe)=some x/\gu l (cK s c v) pe K
  | none=>False)
 | .need c::l,s,pe,K=>aj [.need c] pe fun pe'=>gu l (eQ s c true) pe' K
def tA:AV->List AV
 | .tup l=>l
 | v=>[v]
def uZ:AV->List AV->AV
 | .tup _,us => .tup us
 | _,[u]=>u
 | v,_=>v
def E6 (g:G):gA->T
 | .val v s=>(match qi g (tA v) s with
  | (p,us,s1)=>mT p (match sH (oM (uZ v us)) s1 with | (q,s2)=>mT q (.out (.val (uZ v us) s2))))
 | o => .out o
section
variable {P:Program} {B w:World}
theorem E1 {V:az} {v:AV} {x:Value} (h:v.conc V=some x):∃ys,concL V (tA v)=some ys/\∀{V':az} {us:List AV},concL V' us=some ys->(uZ v us).conc V'=some x:=by
 have one:tA v=[v]->(∀u,uZ v [u]=u)->∃ys,concL V (tA v)=some ys/\∀{V':az} {us:List AV},concL V' us=some ys->(uZ v us).conc V'=some x:=fun e1 e2=>by
  refine ⟨[x],by rw [e1];exact ax h (cA V),fun {V' us} hu => ?_⟩
  cases us with
  | nil=>cases hu
  | cons u us=>
   obtain ⟨y,r,e,h1,h2⟩:=ag hu
   cases us with
   | nil=>cases e;rw [e2];exact h1
   | cons u2 us=>obtain ⟨y2,r2,e',_,_⟩:=ag h2;subst e';cases e
 cases v with
 | tup l =>
  obtain ⟨vs,rfl,h1⟩:=ov h
  exact ⟨vs,h1,fun {V' us} hu=>by
   show (AV.tup us).conc V'=_
   have e:AV.conc.concL V' us=some vs:=hu
   simp only [AV.conc];rw [e]⟩
 | _=>exact one rfl (fun u=>rfl)
theorem Fj:∀(st:List St) (V:az) (s:S) {K:PE->S->Prop},av P V s B w->gu st s V.toPE K->∃pe s',dr V.toPE pe/\K pe s'/\av P (V.at pe) s' B w:=by
 intro st
 induction st with
 | nil=>intro V s K hR h;exact ⟨V.toPE,s,dr.refl _,h,hR⟩
 | cons x st ih =>
  intro V s K hR h
  cases x with
  | opn c =>
   simp only [gu] at h
   split at h
   ·rename_i k v u s' hf
    have key:fb c=true/\v=c/\k = .i64:=by
     unfold sD at hf
     cases hl:fb c with
     | false=>rw [hl] at hf;cases hf
     | true=>
      rw [hl] at hf;simp only [cond_true] at hf
      split at hf
      ·cases hf
      ·cases hf;exact ⟨rfl,rfl,rfl⟩
    obtain ⟨k1,rfl,rfl⟩:=key
    have h0:=h
    simp only [aj,aX.sat,D.sat] at h0
    obtain ⟨z,hz,_⟩:=h0
    have hv:v.conc V=some (.int .i64 z):=by cases v<;>first | exact hz | cases k1
    obtain ⟨pe,hu,hk,hR',_⟩:=uL hR hf hv _ h
    obtain ⟨pe',s2,u2,k2,r2⟩:=ih (V.at pe) s' hR' hk
    exact ⟨pe',s2,hu.trans u2,k2,r2⟩
   ·exact h.elim
  | is c v =>
   simp only [gu] at h
   split at h
   ·rename_i x hx
    have hR':av P V (cK s c v) B w:=⟨hR.know,hR.lens,fun c' v' hm=>by
     simp only [cK,List.mem_cons,Prod.mk.injEq] at hm
     rcases hm with ⟨rfl,rfl⟩ | hm
     ·exact ⟨x,xl h.1 rfl,xl hx rfl⟩
     ·exact hR.memo c' v' hm,hR.mem,hR.memB,hR.below,hR.blk,hR.dom,hR.domL,hR.inj,hR.glob,hR.own⟩
    exact ih V _ hR' h.2
   ·exact h.elim
  | need c=>
   simp only [gu] at h
   obtain ⟨h1,h2⟩:=oQ (C:=fun pe'=>gu st (eQ s c true) pe' K) [c] s hR h
   exact ih V _ h1 h2
theorem vy (gl:List (Nat×List AV)) (st:List St) (hgl:FA gl=true) {g:G} {SP:Nat->Option Sp} (hS:eO P g SP) (hG:cv P g) (fuel:Nat) (c:Sp) (args:List AV) (hr:jz c.toSig=true) (hargs:gp c.grp (cu c.args (sG gl)).1=some args)
  (hpg:∀m,bG c.args c.spec fun r=>r.1 m->bg m gl)
  (h:∀m,jE c.args (tB m) c.spec fun pe r=>r.1 m->gu st (cu c.args (sG gl)).2 pe fun pe s=>eh SP ((ev g fuel (.call [] c.fn (args.map (Hb s.know))) s).bind (E6 g)) pe (kW c.toSig r.2)):cI P c:=by
 simp only [jz,Bool.and_eq_true] at hr
 intro m w ys xs hm hpk hpre
 have hglob:bg m gl:=by
  obtain ⟨r,h1,h2⟩:=iI _ _ _ (hpg m) hpre
  exact h1 h2
 have hself:∀{R:Type} {K:R->Prop} (ks:List Kd) (f:mR ks R) (vs:List Value),bR ks f vs K->bR ks f vs (fun r=>K r/\∀K':R->Prop,K' r->bR ks f vs K'):=by
  intro R K ks
  induction ks with
  | nil=>intro f vs h;cases vs<;>first | exact ⟨h,fun K' hk=>hk⟩ | exact h.elim
  | cons k ks ih =>
   intro f vs h
   cases vs with
   | nil=>cases k<;>exact h.elim
   | cons v vs=>
    cases k with
    | i k=>cases v<;>first | exact ⟨h.1,h.2.1,bq (fun r hr=>⟨hr.1,fun K' hk=>⟨h.1,h.2.1,hr.2 K' hk⟩⟩) _ _ _ (ih _ _ h.2.2)⟩ | exact h.elim
    | b=>cases v<;>first | exact ih _ _ h | exact h.elim
    | s=>cases v<;>first | exact ih _ _ h | exact h.elim
    | r=>exact h.elim
    | v=>exact ⟨h.1,bq (fun r hr=>⟨hr.1,fun K' hk=>⟨h.1,hr.2 K' hk⟩⟩) _ _ _ (ih _ _ h.2)⟩
    | sl=>cases v<;>first | exact ⟨h.1,bq (fun r hr=>⟨hr.1,fun K' hk=>⟨h.1,hr.2 K' hk⟩⟩) _ _ _ (ih _ _ h.2)⟩ | exact h.elim
 have hh:=fG (P:=P) (B:=w) (w:=w) c.args ys (vG gl m) (sG gl) c.spec (HB hgl hm hglob) (hself _ _ _ hpre) (h m)
 refine hh.elim fun pe hh=>hh.elim fun r hh => ?_
 obtain ⟨h1,⟨h2,hback⟩,h3⟩:=hh
 obtain ⟨l,e1,e2⟩:=ki hpk (cG (V:=(vG gl m).at pe) h3.vals rfl)
 rw [hargs] at e1;cases e1
 obtain ⟨pes,s',us,h1',hrel⟩:=Fj st _ _ h3.rel (h1 h2)
 have e2:=aG (aD us) e2
 refine jT hS hG fuel hrel (xm hrel.know e2) (cN _ _ _ _ h1') (fun pe' o ho => ?_)
 cases o with
 | code e a s=>exact ho.elim
 | again vs=>exact ho.elim
 | err k=>exact ho.elim
 | val v s =>
  refine ⟨v,s,rfl,fun V0 x w' k1' k2 k3' k4' => ?_⟩
  subst k2
  simp only [E6] at ho
  rcases hpb:qi g (tA v) s with ⟨pb,us',sb⟩
  rw [hpb] at ho
  simp only at ho
  obtain ⟨ysv,py1,py2⟩:=E1 k4'
  obtain ⟨peb,ub,ho,k3b,hub⟩:=rz hG _ V0 s k3' py1 hpb _ (da ho)
  have k4b:=py2 hub
  generalize uZ v us'=v at ho k4b
  rcases hfz:sH (oM v) sb with ⟨pf,sf⟩
  rw [hfz] at ho
  simp only at ho
  obtain ⟨pef,uf,ho,k3,_⟩:=oG k3b hfz _ (da ho)
  have k4:=aF (aD uf) _ _ k4b
  have k1:=(k1'.trans (aD ub)).trans (aD uf)
  simp only [az.at_at] at k3 k4 k1
  generalize hV':V0.at pef=V' at k3 k4 k1
  have hpe:V'.toPE=pef:=by rw [<-hV'];rfl
  subst hpe
  simp only [eh,kW] at ho
  split at ho
  ·rename_i fl hfl
   obtain ⟨ws,f1,f2⟩:=jN c.res _ _ (jZ hr.1) ho
   obtain ⟨rs',g1,g2⟩:=fY (ys:=ys) (by intro e;rw [e] at hr;simp at hr) k4 hfl (cG f1 rfl)
   refine ⟨V'.mem,ws,rs',by rw [g2],g1,k3.below,fun b o hb=>k1.up.mem b o ((h3.up.trans us).mem b o hb),fun b o hb=>⟨(k3.mem b o hb).1,?_⟩,hback _ f2⟩
   rcases k3.memB b o hb with q | q
   ·left
    rw [show V'.mem0=pes.mem0 from k1.up.mem0,(h3.up.trans us).mem0] at q
    exact q
   ·exact .inr q
  ·exact ho.elim
end
#print axioms vy
end
end Go.Proofs.YtjabmipkllkfbaaGreatDoor.Vc
