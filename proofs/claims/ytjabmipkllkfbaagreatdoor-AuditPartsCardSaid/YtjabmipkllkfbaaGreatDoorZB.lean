/-
  The engine is sound, 5: operations that only compute (joined); The engine is sound, 6: loads, stores, new blocks; The engine is sound, 7: append, copy, conversions; The engine is sound, 8: append, copy, joined; The engine is sound, 9: copy, maps; The engine is sound, 10: maps; all operations; The engine is sound, 11: all operations; The engine is sound, 12: all operations, joined.
-/
import Derived.Test.YtjabmipkllkfbaaGreatDoorZA
import Derived.Laws.Cells
import Derived.MapKept
import Derived.Laws.BytesString
set_option linter.unusedVariables false
set_option linter.unusedSimpArgs false
namespace Go.Proofs.YtjabmipkllkfbaaGreatDoor.Vc
section
open Go.RowKit
section
variable {P:Program} {g:G} {V:az} {K:ew}
theorem wT:∀(xs l:List Value) (off k:Nat),(xs.zipIdx k).foldl (fun (cs:Array Value) (x:Value×Nat)=>cs.setIfInBounds (off+x.2) x.1) l.toArray=(dZ l (off+k) xs).toArray:=by
 intro xs
 induction xs with
 | nil=>intro l off k;simp [dZ]
 | cons x xs ih=>
  intro l off k
  simp only [List.zipIdx_cons,List.foldl_cons,dZ]
  have:l.toArray.setIfInBounds (off+k) x=(l.set (off+k) x).toArray:=by simp
  rw [this,ih]
  rw [show off+(k+1)=off+k+1 by omega]
def vp (V:az):List (Nat×AV)->List (Nat×Value)->Prop
 | [],[]=>True
 | (i,v)::l,(j,x)::m=>i=j/\v.conc V=some x/\vp V l m
 | _,_=>False
theorem vL {pl:Nat->Option (Nat×Nat)}:∀{ps:List (Nat×AV)} {xs:List (Nat×Value)} {cells cs:List AV} {vs:List Value},sB pl cells ps=some cs->concL V cells=some vs->vp V ps xs->
  ∃us,Instr.fill pl vs.toArray xs=some us.toArray/\concL V cs=some us:=by
 intro ps
 induction ps with
 | nil=>
  intro xs cells cs vs h hc hp
  cases xs with
  | nil=>simp [sB] at h;subst h;exact ⟨vs,rfl,hc⟩
  | cons x xs=>exact hp.elim
 | cons p ps ih =>
  intro xs cells cs vs h hc hp
  obtain ⟨i,v⟩:=p
  cases xs with
  | nil=>exact hp.elim
  | cons x xs =>
   obtain ⟨j,X⟩:=x
   obtain ⟨rfl,hv,hr⟩:=hp
   simp only [sB] at h
   cases hpl:pl i with
   | none=>rw [hpl] at h;cases h
   | some os =>
    obtain ⟨off,size⟩:=os
    rw [hpl] at h;simp only at h
    cases c:(Nat.beq (bF v.cells) size&&Nat.ble (Nat.add off size) (bF cells)&&bQ v.cells) with
    | false=>rw [c] at h;cases h
    | true =>
     rw [c] at h;simp only [cond_true] at h
     rw [aO,aO] at c
     simp only [bt,nO,Bool.and_eq_true,decide_eq_true_eq] at c
     obtain ⟨⟨c1,c2⟩,_⟩:=c
     have c2':off+size<=cells.length:=c2
     have hcell:=cC hv
     have hlen:=aW hcell
     have hlen2:=aW hc
     obtain ⟨us,h1,h2⟩:=ih h (kK off hc hcell) hr
     refine ⟨us,?_,h2⟩
     have hsz:X.cells.size=size:=by rw [<-Array.length_toList,hlen,c1]
     have e1:¬(X.cells.size≠size||decide (off+X.cells.size > vs.toArray.size))=true:=by
      simp [hsz];omega
     simp only [Instr.fill,hpl,if_neg e1]
     rw [<-h1]
     congr 1
     have:=wT X.cells.toList vs off 0
     rw [Nat.add_zero] at this
     rw [<-this,<-Array.foldl_toList,Array.toList_zipIdx]
theorem sx {a:A} {A:Act} {s:S} (hA:aN V a A) (hg:jC V s):∀{l:List (Nat×Operand)} {vs:List (Nat×AV)},oB a s l=some vs->vp V vs (l.map fun (i,x)=>(i,A.eval x)):=by
 intro l
 induction l with
 | nil=>intro vs h;cases h;trivial
 | cons x xs ih=>
  intro vs h
  obtain ⟨i,x⟩:=x
  simp only [oB] at h
  split at h
  ·rename_i v r hv hr;cases h;exact ⟨rfl,au hA hg hv,ih hr⟩
  ·cases h
theorem yW (hG:cv P g):∀{fs:List Field} {pl:List (Nat×Nat)},rv g fs=some pl->fs.mapM (fun f=>(P.info? f.type).map fun i=>(f.offset,i.size))=some pl:=by
 intro fs
 induction fs with
 | nil=>intro pl h;cases h;rfl
 | cons f fs ih =>
  intro pl h
  simp only [rv] at h
  split at h
  ·rename_i ti l hti hl;cases h
   obtain ⟨i,h1,h2,_⟩:=(hG.ty _ _ hti).info
   simp [List.mapM_cons,h1,ih hl,h2]
  ·cases h
theorem ed {t:TypeId} {ti:TI} {z:AV} (hG:cv P g) (ht:g.ty.get t=some ti) (hz:ti.zero=some z) :
  ∃i v,P.info? t=some i/\i.zero=some v/\i.size=ti.size/\z.conc V=some v/\concL V z.cells=some v.cells.toList:=by
 obtain ⟨i,h1,h2,_,h4⟩:=(hG.ty _ _ ht).info
 obtain ⟨v,hv,hl⟩:=h4 z hz
 have:=Bk V hl
 exact ⟨i,v,h1,hv,h2,this,cC this⟩
theorem kb {x:AV} {n:Nat} {X:Value} (h:qM x=some n) (hX:x.conc V=some X):∃k,X = .int k n:=by
 unfold qM at h
 split at h
 ·rename_i k m;cases h
  obtain ⟨z,hz,rfl⟩:=aC hX
  simp only [IE.val,Option.some.injEq] at hz;subst hz
  exact ⟨k,rfl⟩
 ·cases h
theorem iV {a:A} {A:Act} {s:S} (hA:aN V a A) (hg:jC V s) {o:Option Operand} {d n:Nat} (h:cd a s o d=some n) :
  (o=none/\n=d)\/∃x k,o=some x/\A.eval x = .int k n:=by
 unfold cd at h
 split at h
 ·cases h;exact .inl ⟨rfl,rfl⟩
 ·rename_i x
  split at h
  ·rename_i v hv
   obtain ⟨k,hk⟩:=kb h (au hA hg hv)
   exact .inr ⟨x,k,rfl,hk⟩
  ·cases h
theorem gr {n m:Nat} {k:IntKind} (h:n<=m) (code:BoundsCode) (w:World):(Instr.sliceBound (.int k n) m code).run P w = .ok n w:=by
 simp [Instr.sliceBound,asIntOf,h]
theorem eK {a:A} {A:Act} {s:S} (hA:aN V a A) (hg:jC V s) {lo hi:Option Operand} {len cap i j:Nat} (b:Bool) (h1:cd a s lo 0=some i) (h2:cd a s hi len=some j) (hij:i<=j) (hjc:j<=cap) (w:World) :
  (Instr.sliceBounds b len cap (lo.map A.eval) (hi.map A.eval) none).run P w = .ok (i,j,cap) w:=by
 have sb:∀{n m:Nat} {k:IntKind} (h:n<=m) (code:BoundsCode) (w:World),(Instr.sliceBound (.int k n) m code).run P w = .ok n w:=fun h c w=>gr h c w
 rcases iV hA hg h2 with ⟨rfl,rfl⟩ | ⟨x,k,rfl,hx⟩<;>rcases iV hA hg h1 with ⟨rfl,rfl⟩ | ⟨y,k',rfl,hy⟩
 ·simp only [Instr.sliceBounds,Option.map_none,Sem.run_bind,Sem.run_pure,Result.andThen_ok]
 ·simp only [Instr.sliceBounds,Option.map_none,Option.map_some,hy,Sem.run_bind,Sem.run_pure,Result.andThen_ok,sb hij]
 ·simp only [Instr.sliceBounds,Option.map_none,Option.map_some,hx,Sem.run_bind,Sem.run_pure,Result.andThen_ok,sb hjc]
 ·simp only [Instr.sliceBounds,Option.map_some,hx,hy,Sem.run_bind,Sem.run_pure,Result.andThen_ok,sb hij,sb hjc]
theorem kN (l:List UInt8) (i j:Nat):(⟨l.toArray⟩:ByteArray).extract i j=⟨((l.drop i).take (j-i)).toArray⟩:=by
 apply ByteArray.ext
 simp [ByteArray.data_extract]
theorem Dd (hG : cv P g) {a : A} {A : Act} {s : S} (hA : aN V a A) (hg : jC V s) {t : TypeId} {x v : AV} {X : Value} {lo hi mx : Option Operand} (h : zA g a s t x lo hi mx = some v) (hX : x.conc V = some X) :
  ∃R,v.conc V=some R/\∀w,(Instr.sliceAt t X (lo.map A.eval) (hi.map A.eval) (mx.map A.eval)).run P w = .ok R w:=by
 unfold zA at h
 cases mx with
 | some m=>cases h
 | none =>
  simp only at h
  split at h
  ·cases h
  ·rename_i ti hti
   have hT:=hG.ty _ _ hti
   have hu:=hT.desc
   split at h
   ·-- a string
    rename_i l hd
    rw [hd] at hu
    simp only [AV.conc] at hX;cases hX
    split at h
    ·rename_i i j h1 h2
     rw [aO] at h h2
     cases c:(Nat.ble i j&&Nat.ble j l.length) with
     | false=>rw [c] at h;cases h
     | true =>
      rw [c] at h;simp only [cond_true] at h
      simp only [nO,Bool.and_eq_true,decide_eq_true_eq] at c
      split at h
      ·rename_i r hr;cases h
       obtain ⟨e1,_,_⟩:=gL _ _ _ hr
       rw [ic] at e1
       refine ⟨_,rfl,fun w => ?_⟩
       have hs:(⟨l.toArray⟩:ByteArray).size=l.length:=by simp [ByteArray.size]
       simp only [Instr.sliceAt,Sem.run_bind,run_underlying hu,Result.andThen_ok,Instr.slice,Option.map_none,Option.isSome_none,Bool.false_eq_true,if_false,Sem.run_pure,hs]
       rw [eK hA hg false h1 h2 c.1 c.2 w]
       simp only [Result.andThen_ok,Sem.run_pure]
       rw [kN,e1]
       rfl
      ·cases h
    ·cases h
   ·-- a slice of known capacity
    rename_i e id off len cp skip hd
    rw [hd] at hu
    obtain ⟨p,hp,rfl⟩:=aT hX
    split at h
    ·rename_i i j te h1 h2 hte
     cases c:(Nat.ble i j&&Nat.ble j cp) with
     | false=>rw [c] at h;cases h
     | true =>
      rw [c] at h;simp only [cond_true] at h;cases h
      simp only [nO,Bool.and_eq_true,decide_eq_true_eq] at c
      refine ⟨.slice (some (if cp=i then ⟨p.1,off,none⟩ else (⟨p.1,off,none⟩:Addr).add (i*te.size))) (j-i) (cp-i),?_,fun w => ?_⟩
      ·simp only [AV.conc,hp,eG,bt]
       by_cases hci:cp=i
       ·simp [hci]
       ·simp only [hci,decide_false,cond_false,if_false]
        congr 2
        unfold Addr.add
        split
        ·rename_i h0;simp [h0]
        ·rfl
      ·simp only [Instr.sliceAt,Sem.run_bind,run_underlying hu,Result.andThen_ok,Instr.slice,Option.map_none,eG]
       rw [eK hA hg true h1 h2 c.1 c.2 w]
       simp only [Result.andThen_ok,aB (hG.ty _ _ hte),Sem.run_pure,Option.map_some]
       by_cases hci:cp=i<;>simp [hci]
    ·cases h
   ·-- nil
    rename_i e hd
    rw [hd] at hu
    simp only [AV.conc] at hX;cases hX
    split at h
    ·rename_i i j te h1 h2 hte
     cases c:(Nat.beq i 0&&Nat.beq j 0) with
     | false=>rw [c] at h;cases h
     | true=>
      rw [c] at h;simp only [cond_true] at h;cases h
      simp only [bt,Bool.and_eq_true,decide_eq_true_eq] at c
      obtain ⟨rfl,rfl⟩:=c
      refine ⟨_,rfl,fun w => ?_⟩
      simp only [Instr.sliceAt,Sem.run_bind,run_underlying hu,Result.andThen_ok,Instr.slice,Option.map_none]
      rw [eK hA hg true h1 h2 (Nat.le_refl 0) (Nat.le_refl 0) w]
      simp only [Result.andThen_ok,aB (hG.ty _ _ hte),Sem.run_pure]
      rfl
    ·cases h
   ·-- the whole of an array
    rename_i n e id off hd
    rw [hd] at hu
    obtain ⟨p,hp,rfl⟩:=dT hX
    split at h
    ·rename_i i j te h1 h2 hte
     cases c:(Nat.ble i j&&Nat.ble j n) with
     | false=>rw [c] at h;cases h
     | true =>
      rw [c] at h;simp only [cond_true] at h;cases h
      simp only [nO,Bool.and_eq_true,decide_eq_true_eq] at c
      refine ⟨.slice (some (if n=i then ⟨p.1,off,none⟩ else (⟨p.1,off,none⟩:Addr).add (i*te.size))) (j-i) (n-i),?_,fun w => ?_⟩
      ·simp only [AV.conc,hp,eG,bt]
       by_cases hci:n=i
       ·simp [hci]
       ·simp only [hci,decide_false,cond_false,if_false]
        congr 2
        unfold Addr.add
        split
        ·rename_i h0;simp [h0]
        ·rfl
      ·simp only [Instr.sliceAt,Sem.run_bind,run_underlying hu,Result.andThen_ok,Instr.sureAddr,Sem.run_pure,Option.map_none]
       rw [eK hA hg false h1 h2 c.1 c.2 w]
       simp only [Result.andThen_ok,aB (hG.ty _ _ hte),Sem.run_pure]
    ·cases h
   ·cases h
theorem uJ (hK:cx K V.σ) (mx:Bool):∀(r:List AV) (x v:AV) (X:Value) (xs:List Value),pL K mx x r=some v->x.conc V=some X->concL V r=some xs->∃R,v.conc V=some R/\
  ∀w,(xs.foldlM (if mx then Builtin.max2 else Builtin.min2) X).run P w = .ok R w:=by
 intro r
 induction r with
 | nil=>intro x v X xs h hX hr;cases hr;simp [pL] at h;subst h;exact ⟨X,hX,fun w=>rfl⟩
 | cons y ys ih =>
  intro x v X xs h hX hr
  obtain ⟨Y,r',rfl,hY,hr'⟩:=ag hr
  unfold pL at h
  split at h
  ·rename_i h0;cases h0
  ·rename_i k a k' b r0 e1;cases e1
   obtain ⟨x1,hx1,rfl⟩:=aC hX
   obtain ⟨y1,hy1,rfl⟩:=aC hY
   split at h
   ·rename_i t ht
    split at h
    ·rename_i u hu
     have l1:=i5 hK _ _ _ ht hx1 hy1
     have l2:=i5 hK _ _ _ hu hy1 hx1
     obtain ⟨R,hR,hrun⟩:=ih _ _ (.int k (bif mx then (bif t && !u then y1 else x1) else (bif u && !t then y1 else x1))) _ h (dc (by
      cases mx<;>cases t<;>cases u<;>first | exact hx1 | exact hy1)) hr'
     refine ⟨R,hR,fun w => ?_⟩
     rw [List.foldlM_cons,Sem.run_bind]
     have:((if mx then Builtin.max2 else Builtin.min2) (Value.int k x1) (Value.int k' y1)).run P w =
       .ok (.int k (bif mx then (bif t && !u then y1 else x1) else (bif u && !t then y1 else x1))) w:=by
      cases mx<;>cases t<;>cases u<;>simp at l1 l2<;>simp [Builtin.max2,Builtin.min2]<;>omega
     rw [this]
     exact hrun w
    ·cases h
   ·cases h
  ·cases h
theorem Fb (hG:cv P g) (hK:cx K V.σ) {b:Builtin} {ats:Array TypeId} {args:List AV} {v:AV} {xs:List Value} (ty:TypeId) (cs:Array Bool) (h:Fa g K b ats args=some v) (hx:concL V args=some xs) :
  ∃R,v.conc V=some R/\∀w,(builtin b ats ty cs xs.toArray).run P w = .ok (.value R) w:=by
 obtain ⟨ats⟩:=ats
 unfold Fa at h
 split at h
 ·-- len
  rename_i t ts x r e1
  cases e1
  obtain ⟨X,xr,rfl,hX,_⟩:=ag hx
  split at h
  ·rename_i ti hti
   have hu:=(hG.ty _ _ hti).desc
   split at h
   ·rename_i l hd;cases h;rw [hd] at hu
    simp only [AV.conc] at hX;cases hX
    refine ⟨_,rfl,fun w => ?_⟩
    have hs:(⟨l.toArray⟩:ByteArray).size=l.length:=by simp [ByteArray.size]
    have e:(Builtin.len_ ⟨t::ts⟩ ty (Value.string ⟨l.toArray⟩::xr).toArray).run P w = .ok (goInt l.length) w:=by
     simp [Builtin.len_,run_underlying hu,hs]
    show (do pure (Next.value (<-Builtin.len_ ⟨t::ts⟩ ty (Value.string ⟨l.toArray⟩::xr).toArray)):Sem Next).run P w=_
    simp only [Sem.run_bind,e,Result.andThen_ok,Sem.run_pure,aO]
    rfl
   ·rename_i e id off n c sk hd;cases h;rw [hd] at hu
    obtain ⟨p,_,rfl⟩:=aT hX
    refine ⟨_,rfl,fun w => ?_⟩
    simp [builtin,Builtin.len_,run_underlying hu,IE.val,goInt]
   ·rename_i e hd;cases h;rw [hd] at hu
    simp only [AV.conc] at hX;cases hX
    refine ⟨_,rfl,fun w => ?_⟩
    simp [builtin,Builtin.len_,run_underlying hu,IE.val,goInt]
   ·cases h
  ·cases h
 ·-- cap
  rename_i t ts x r e1
  cases e1
  obtain ⟨X,xr,rfl,hX,_⟩:=ag hx
  split at h
  ·rename_i ti hti
   have hu:=(hG.ty _ _ hti).desc
   split at h
   ·rename_i e id off n c sk hd;cases h;rw [hd] at hu
    obtain ⟨p,_,rfl⟩:=aT hX
    refine ⟨_,rfl,fun w => ?_⟩
    simp [builtin,Builtin.cap_,run_underlying hu,IE.val,goInt,eG]
   ·rename_i e hd;cases h;rw [hd] at hu
    simp only [AV.conc] at hX;cases hX
    refine ⟨_,rfl,fun w => ?_⟩
    simp [builtin,Builtin.cap_,run_underlying hu,IE.val,goInt]
   ·cases h
  ·cases h
 ·-- max
  obtain ⟨X,xr,rfl,hX,hr⟩:=ag hx
  obtain ⟨R,hR,hrun⟩:=uJ (P:=P) hK true _ _ _ _ _ h hX hr
  refine ⟨R,hR,fun w => ?_⟩
  have:=hrun w
  simp only [if_true] at this
  have e:(Builtin.max_ ⟨ats⟩ ty (X::xr).toArray).run P w = .ok R w:=this
  show (do pure (Next.value (<-Builtin.max_ ⟨ats⟩ ty (X::xr).toArray)):Sem Next).run P w=_
  simp only [Sem.run_bind,e,Result.andThen_ok,Sem.run_pure]
 ·-- min
  obtain ⟨X,xr,rfl,hX,hr⟩:=ag hx
  obtain ⟨R,hR,hrun⟩:=uJ (P:=P) hK false _ _ _ _ _ h hX hr
  refine ⟨R,hR,fun w => ?_⟩
  have:=hrun w
  simp only [Bool.false_eq_true,if_false] at this
  have e:(Builtin.min_ ⟨ats⟩ ty (X::xr).toArray).run P w = .ok R w:=this
  show (do pure (Next.value (<-Builtin.min_ ⟨ats⟩ ty (X::xr).toArray)):Sem Next).run P w=_
  simp only [Sem.run_bind,e,Result.andThen_ok,Sem.run_pure]
 ·cases h
theorem CW {l:List AV} {vs:List Value} {i:Nat} {v:AV} (hl:concL V l=some vs) (h:aA l i=some v):∃x,vs[i]? = some x/\v.conc V=some x:=by
 rw [cJ] at h;exact iK hl h
theorem nH (hG:cv P g) {t:TypeId} {f:Nat} {fd:Field} (h:rk g t f=some fd):∃fields:Array Field,P.underlying t=some (.struct fields)/\fields[f]? = some fd:=by
 unfold rk at h
 split at h
 ·rename_i ti hti
  have hu:=(hG.ty _ _ hti).desc
  split at h
  ·rename_i fields hd
   rw [hd] at hu;rw [cJ] at h
   exact ⟨fields,hu,by simpa using h⟩
  ·cases h
 ·cases h
theorem add_add (p:Addr) (m n:Nat):(p.add m).add n=p.add (m+n):=by
 unfold Addr.add
 by_cases h1:m=0
 ·subst h1;simp
 ·by_cases h2:n=0
  ·subst h2;simp [h1]
  ·simp [h1,h2,Nat.add_assoc]
theorem oU {σ:List Int} {e:IE} {o:Nat} (n:Nat) (h:aQ σ e=some o):aQ σ (lh e n)=some (o+n):=by
 unfold lh
 cases c:Nat.beq n 0 with
 | true=>simp at c;subst c;simpa using h
 | false=>
  simp only [cond_false]
  have h1:=dR (ao h) (show (IE.lit (Int.ofNat n)).val σ=some (n:Int) from rfl)
  have:=bN h1 (by omega)
  rw [this];congr 1
theorem xD (hG:cv P g) {a:A} {A:Act} {s:S} (hK:cx s.know V.σ) (hA:aN V a A) (hg:jC V s) {o:Oper} {v:AV} (h:BT g a s o=some v) :
  ∃x,v.conc V=some x/\∀w,(execOp A.eval o).run P w = .ok (.value x) w:=by
 have gK:∀{m:Sem Value} {x:Value},(∀w,m.run P w = .ok x w)->∀w,(do pure (Next.value (<-m)):Sem Next).run P w = .ok (.value x) w:=by
  intro m x hm w;simp only [Sem.run_bind,hm,Result.andThen_ok,Sem.run_pure]
 obtain ⟨dst,op,type,pos,after,guard⟩:=o
 unfold BT at h
 simp only at h
 split at h
 ·exact ⟨_,au hA hg h,fun w=>rfl⟩
 ·exact ⟨_,au hA hg h,fun w=>rfl⟩
 ·-- pick
  rename_i c x y
  unfold Ia at h
  split at h
  ·rename_i b X Y hc hx hy;cases h
   have h1:=au hA hg hc
   simp only [AV.conc,Option.some.injEq] at h1
   refine ⟨if b then A.eval x else A.eval y,?_,fun w => ?_⟩
   ·cases b
    ·exact au hA hg hy
    ·exact au hA hg hx
   ·simp [execOp,<-h1,asBool]
  ·cases h
 ·-- build
  rename_i t parts
  unfold EW at h
  split at h
  ·rename_i ti ps hti hps
   split at h
   ·rename_i z hz
    obtain ⟨i,zv,hi,hiz,his,hzc,hzl⟩:=ed hG hti hz
    have hu:=(hG.ty _ _ hti).desc
    have hP:=sx hA hg hps
    split at h
    ·rename_i fields hd
     rw [hd] at hu
     split at h
     ·rename_i pl hpl
      split at h
      ·rename_i cs hf;cases h
       obtain ⟨us,h1,h2⟩:=vL hf hzl hP
       refine ⟨_,gd h2,gK (fun w => ?_)⟩
       refine run_build w t _ us.toArray ?_
       simp only [Program.built,hi,hu,hiz,yW hG hpl,Array.toList_map]
       have e:(fun i=>(pl.toArray)[i]? :Nat->Option (Nat×Nat))=aA pl:=by funext i;rw [cJ];simp
       rw [e]
       simpa using h1
      ·cases h
     ·cases h
    ·rename_i n e hd
     rw [hd] at hu
     split at h
     ·rename_i te hte
      split at h
      ·rename_i cs hf;cases h
       obtain ⟨us,h1,h2⟩:=vL hf hzl hP
       refine ⟨_,gd h2,gK (fun w => ?_)⟩
       refine run_build w t _ us.toArray ?_
       obtain ⟨ie,hie,hies,_⟩:=(hG.ty _ _ hte).info
       simp only [Program.built,hi,hu,hiz,hie,Array.toList_map,hies]
       simpa using h1
      ·cases h
     ·cases h
    ·cases h
   ·cases h
  ·cases h
 ·-- nilCheck
  rename_i x
  unfold uY at h
  split at h
  ·rename_i id off hx;cases h
   obtain ⟨p,hp,e⟩:=dT (au hA hg hx)
   exact ⟨_,e▸au hA hg hx,fun w=>by simp [execOp,e]⟩
  ·rename_i id off hx;cases h
   obtain ⟨p,o,_,_,e⟩:=jf (au hA hg hx)
   exact ⟨_,e▸au hA hg hx,fun w=>by simp [execOp,e]⟩
  ·rename_i f p q hx;cases h
   obtain ⟨fs,cs,h1,h2,e⟩:=fQ (au hA hg hx)
   exact ⟨_,e▸au hA hg hx,fun w=>by simp [execOp,e]⟩
  ·rename_i l hx;cases h
   obtain ⟨p,hp,e⟩:=nD (au hA hg hx)
   exact ⟨_,e▸au hA hg hx,fun w=>by simp [execOp,e]⟩
  ·cases h
 ·-- binOp
  rename_i op t x y yt
  unfold JN at h
  split at h
  ·rename_i X Y hx hy
   obtain ⟨R,h1,h2⟩:=F0 hG hK x y h (au hA hg hx) (au hA hg hy)
   exact ⟨R,h1,gK h2⟩
  ·cases h
 ·-- unOp
  rename_i op t x
  unfold Kj at h
  split at h
  ·rename_i X hx
   have hX:=au hA hg hx
   unfold Kl at h
   split at h
   ·cases h
    simp only [AV.conc,Option.some.injEq] at hX
    exact ⟨_,rfl,gK (fun w=>by rw [<-hX];rfl)⟩
   ·rename_i k e
    obtain ⟨z,hz,eX⟩:=aC hX
    obtain ⟨R,h1,h2⟩:=sT (P:=P) hK .sub 0 k (.lit 0) e v h rfl hz
    refine ⟨R,h1,gK (fun w => ?_)⟩
    rw [eX]
    have:=h2 w
    simp only [binOp,ne_eq,not_true,if_false] at this
    exact this
   ·rename_i k e
    obtain ⟨z,hz,eX⟩:=aC hX
    obtain ⟨R,h1,h2⟩:=sT (P:=P) hK .xor 0 k (.lit (bif k.signed then -1 else k.max)) e v h rfl hz
    refine ⟨R,h1,gK (fun w => ?_)⟩
    rw [eX]
    have:=h2 w
    simp only [binOp,ne_eq,not_true,if_false] at this
    cases hs:k.signed
    ·rw [hs] at this;simp only [cond_false] at this
     show (Op.intBits .xor k (if k.signed then -1 else k.max) z).run P w=_
     rw [hs];exact this
    ·rw [hs] at this;simp only [cond_true] at this
     show (Op.intBits .xor k (if k.signed then -1 else k.max) z).run P w=_
     rw [hs];exact this
   ·cases h
  ·cases h
 ·-- convert
  rename_i t u x
  unfold xx at h
  split at h
  ·rename_i l tu ti hx hu' ht'
   have hX:=au hA hg hx
   simp only [AV.conc,Option.some.injEq] at hX
   have hu:=(hG.ty _ _ hu').desc
   have ht:=(hG.ty _ _ ht').desc
   split at h
   ·rename_i hd;cases h;rw [hd] at hu
    refine ⟨_,rfl,gK (fun w => ?_)⟩
    rw [<-hX]
    simp only [convert,Sem.run_bind,run_underlying ht,run_underlying hu,Result.andThen_ok]
    cases ti.desc<;>rfl
   ·cases h
  ·rename_i l tu ti hx hu' ht'
   obtain ⟨b,hb,hX⟩:=mu (au hA hg hx)
   have hu:=(hG.ty _ _ hu').desc
   have ht:=(hG.ty _ _ ht').desc
   split at h
   ·rename_i hd;cases h;rw [hd] at hu
    refine ⟨_,au hA hg hx,gK (fun w => ?_)⟩
    rw [hX]
    simp only [convert,Sem.run_bind,run_underlying ht,run_underlying hu,Result.andThen_ok]
    cases ti.desc<;>rfl
   ·cases h
  ·rename_i k e tu ti hx hu' ht'
   obtain ⟨z,hz,hX⟩:=aC (au hA hg hx)
   have hu:=(hG.ty _ _ hu').desc
   have ht:=(hG.ty _ _ ht').desc
   split at h
   ·rename_i k2 hd
    rw [hd] at hu
    split at h
    ·rename_i e2 he;cases h
     refine ⟨_,dc (ue hK _ _ _ he hz),gK (fun w => ?_)⟩
     rw [hX]
     simp only [convert,Sem.run_bind,run_underlying ht,run_underlying hu,Result.andThen_ok]
     cases ti.desc<;>rfl
    ·cases h
   ·cases h
  ·cases h
 ·-- makeFunc
  rename_i fn first captured
  unfold H9 at h
  split at h
  ·rename_i f c hf hc;cases h
   refine ⟨_,AW (iu hA hg hf) (iu hA hg hc),fun w => ?_⟩
   simp only [execOp,Instr.makeFunc]
   show Result.ok _ w=_
   congr 3<;>(apply Array.ext';simp)
  ·cases h
 ·-- slice
  rename_i t x lo hi mx
  unfold EZ at h
  split at h
  ·rename_i X hx
   obtain ⟨R,h1,h2⟩:=Dd hG hA hg h (au hA hg hx)
   exact ⟨R,h1,gK h2⟩
  ·cases h
 ·-- fieldAddr
  rename_i t x f
  unfold tx at h
  split at h
  ·rename_i id off fd hx hfo
   obtain ⟨p,hp,e⟩:=dT (au hA hg hx)
   obtain ⟨fields,hu,hfd⟩:=nH hG hfo
   split at h
   ·rename_i tf htf
    cases c:Nat.beq tf.size 0 with
    | true=>rw [c] at h;cases h
    | false=>
     rw [c] at h;cases h
     have hne:tf.size≠0:=by simpa using c
     refine ⟨.pointer (some ⟨p.1,off+fd.offset,none⟩),by simp only [AV.conc,hp];rfl,gK (fun w => ?_)⟩
     simp only [Instr.fieldAt,Sem.run_bind,run_underlying hu,Result.andThen_ok,hfd,e,Instr.sureAddr,Sem.run_pure,fieldPlace,aB (hG.ty _ _ htf),Sem.run_ite,if_neg hne]
     congr 3
     unfold Addr.add
     split
     ·rename_i h0;simp [h0]
     ·rfl
   ·cases h
  ·rename_i a' off fd hx hfo
   obtain ⟨p,o,hp,ho,e⟩:=jf (au hA hg hx)
   obtain ⟨fields,hu,hfd⟩:=nH hG hfo
   split at h
   ·rename_i tf htf
    cases c:Nat.beq tf.size 0 with
    | true=>rw [c] at h;cases h
    | false =>
     rw [c] at h;cases h
     have hne:tf.size≠0:=by simpa using c
     refine ⟨.pointer (some ((p.add o).add fd.offset)),?_,gK (fun w => ?_)⟩
     ·show HV V.toPE a' (lh off fd.offset)=_
      simp only [HV,hp,oU fd.offset ho,add_add]
     ·simp only [Instr.fieldAt,Sem.run_bind,run_underlying hu,Result.andThen_ok,hfd,e,Instr.sureAddr,Sem.run_pure,fieldPlace,aB (hG.ty _ _ htf),Sem.run_ite,if_neg hne]
   ·cases h
  ·cases h
 ·-- field
  rename_i t x f
  unfold EX at h
  split at h
  ·rename_i l fd hx hfo
   obtain ⟨vs,e,hl⟩:=cg (au hA hg hx)
   obtain ⟨fields,hu,hfd⟩:=nH hG hfo
   obtain ⟨X,h1,h2⟩:=jb hG.ty h hl
   refine ⟨X,h1,gK (fun w => ?_)⟩
   simp only [Instr.field,Sem.run_bind,run_underlying hu,Result.andThen_ok,hfd,e,asAgg,Sem.run_pure,h2]
  ·cases h
 ·-- indexAddr
  rename_i t x i
  unfold tz at h
  split at h
  ·rename_i X I ti hx hi hti
   have hX:=au hA hg hx
   have hu:=(hG.ty _ _ hti).desc
   split at h
   ·rename_i n hn
    obtain ⟨k,hI⟩:=kb hn (au hA hg hi)
    split at h
    ·rename_i m e id off hd
     rw [hd] at hu
     obtain ⟨p,hp,eX⟩:=dT hX
     split at h
     ·rename_i te hte
      cases c:Nat.blt n m with
      | false=>rw [c] at h;cases h
      | true=>
       rw [c] at h;cases h
       have hlt:n<m:=by simpa using c
       refine ⟨.pointer (some ⟨p.1,off+n*te.size,none⟩),by simp only [AV.conc,hp];rfl,gK (fun w => ?_)⟩
       have hb:(0:Int)<=(n:Int)/\(n:Int)<(m:Int):=by omega
       simp only [Instr.indexAt,hI,asIntOf,Sem.run_bind,Sem.run_pure,Result.andThen_ok,run_underlying hu,eX,Instr.sureAddr,Sem.run_ite,if_pos hb,aB (hG.ty _ _ hte),Int.toNat_natCast]
       congr 3
       unfold Addr.add
       split
       ·rename_i h0;simp [h0]
       ·rfl
     ·cases h
    ·rename_i e id off len cp sk hd
     rw [hd] at hu
     obtain ⟨p,hp,eX⟩:=aT hX
     split at h
     ·rename_i te hte
      cases c:Nat.blt n len with
      | false=>rw [c] at h;cases h
      | true=>
       rw [c] at h;cases h
       have hlt:n<len:=by simpa using c
       refine ⟨.pointer (some ⟨p.1,off+n*te.size,none⟩),by simp only [AV.conc,hp];rfl,gK (fun w => ?_)⟩
       have hb:(0:Int)<=(n:Int)/\(n:Int)<(len:Int):=by omega
       simp only [Instr.indexAt,hI,asIntOf,Sem.run_bind,Sem.run_pure,Result.andThen_ok,run_underlying hu,eX,Sem.run_ite,if_pos hb,aB (hG.ty _ _ hte),Int.toNat_natCast]
       congr 3
       unfold Addr.add
       split
       ·rename_i h0;simp [h0]
       ·rfl
     ·cases h
    ·cases h
   ·cases h
  ·cases h
 ·-- index
  rename_i t x i
  unfold EY at h
  split at h
  ·rename_i X I ti hx hi hti
   have hX:=au hA hg hx
   have hu:=(hG.ty _ _ hti).desc
   split at h
   ·rename_i n hn
    obtain ⟨k,hI⟩:=kb hn (au hA hg hi)
    split at h
    ·rename_i m e cs hd
     rw [hd] at hu
     obtain ⟨vs,eX,hl⟩:=cg hX
     split at h
     ·rename_i te hte
      cases c:Nat.blt n m with
      | false=>rw [c] at h;cases h
      | true=>
       rw [c] at h;simp only [cond_true] at h
       have hlt:n<m:=by simpa using c
       obtain ⟨R,h1,h2⟩:=jb hG.ty h hl
       refine ⟨R,h1,gK (fun w => ?_)⟩
       have hb:(0:Int)<=(n:Int)/\(n:Int)<(m:Int):=by omega
       simp only [Instr.index,hI,asIntOf,Sem.run_bind,Sem.run_pure,Result.andThen_ok,run_underlying hu,eX,Sem.run_ite,if_pos hb,aB (hG.ty _ _ hte),Int.toNat_natCast]
       exact h2 w
     ·cases h
    ·rename_i l hd
     rw [hd] at hu
     simp only [AV.conc,Option.some.injEq] at hX
     split at h
     ·rename_i b hb;cases h
      rw [cJ] at hb
      refine ⟨_,rfl,gK (fun w => ?_)⟩
      have hb0:(0:Int)<=(n:Int):=by omega
      have hb2:(⟨l.toArray⟩:ByteArray)[n]? = some b:=by
       have hl:n<l.length:=(List.getElem?_eq_some_iff.1 hb).1
       have hs:n<(⟨l.toArray⟩:ByteArray).size:=by simpa [ByteArray.size] using hl
       rw [getElem?_pos (⟨l.toArray⟩:ByteArray) n hs]
       congr 1
       have:=(List.getElem?_eq_some_iff.1 hb).2
       rw [<-this];rfl
      simp only [Instr.index,hI,asIntOf,Sem.run_bind,Sem.run_pure,Result.andThen_ok,run_underlying hu,<-hX,if_pos hb0,Int.toNat_natCast,hb2]
      rfl
     ·cases h
    ·cases h
   ·cases h
  ·cases h
 ·-- extract
  rename_i t i
  unfold xy at h
  split at h
  ·rename_i l hx
   obtain ⟨vs,e,hl⟩:=ov (au hA hg hx)
   obtain ⟨x,h1,h2⟩:=CW hl h
   refine ⟨x,h2,gK (fun w => ?_)⟩
   have:vs.toArray[i]? = some x:=by simpa using h1
   simp only [e,Instr.extract,this,Sem.run_pure]
  ·cases h
 ·-- a builtin
  rename_i c
  obtain ⟨callee,args,argTypes⟩:=c
  unfold H8 at h
  simp only at h
  split at h
  ·rename_i b
   split at h
   ·rename_i as has
    obtain ⟨R,h1,h2⟩:=Fb hG hK type (args.map fun | .const _=>true | _=>false) h (iu hA hg has)
    refine ⟨R,h1,fun w => ?_⟩
    have e:(args.map A.eval)=(args.toList.map A.eval).toArray:=by apply Array.ext';simp
    simp only [execOp,resolve,Sem.run_bind,Sem.run_pure,Result.andThen_ok,invoke,e]
    exact h2 w
   ·cases h
  ·cases h
 ·cases h
end
end
section
open Go.RowKit
section
variable {P:Program} {g:G} {V:az} {s s':S} {B w:World}
theorem bY (b o j:Nat):(⟨b,o,none⟩:Addr).add j=⟨b,o+j,none⟩:=by
 unfold Addr.add
 split
 ·rename_i h;simp [h]
 ·rfl
theorem ef.list_ok {b:ef} {l:List AV} {id:Nat} {p:Nat×Nat} {o:Option Obj} (h:b.list? = some l) (hB:ni P V b id p o) :
  ∃vs rest e fz,concL V l=some vs/\o=some (.cells (vs++rest).toArray e fz):=by
 cases b<;>simp [ef.list?] at h
 ·subst h;obtain ⟨vs,fz,h1,h2,_⟩:=hB;exact ⟨vs,[],_,fz,h1,by simpa using h2⟩
 ·subst h;obtain ⟨vs,rest,fz,h1,h2,_⟩:=hB;exact ⟨vs,rest,_,fz,h1,h2⟩
 ·subst h;obtain ⟨vs,rest,e,fz,h1,h2⟩:=hB;exact ⟨vs,rest,e,fz,h1,h2⟩
theorem eI (hR:av P V s B w) {id off n:Nat} {l:List AV} {p:Nat×Nat} (h:j9 s id off n=some l) (hp:V.E id=some p) :
  ∃vs,concL V l=some vs/\vs.length=n/\∀j x,vs[j]? = some x->w.cell? ⟨p.1,off+j,none⟩=some x:=by
 unfold j9 at h
 split at h
 ·rename_i b hb
  split at h
  ·rename_i l0 hl0
   obtain ⟨q,hq,hB,_⟩:=hR.blk id b hb
   rw [hp] at hq;cases hq
   obtain ⟨vs,rest,e,fz,h1,h2⟩:=ef.list_ok hl0 hB
   rcases qD h1 h with ⟨k1,k2,k3⟩ | ⟨k1,k2,k3⟩
   ·refine ⟨_,k1,by simp;omega,fun j x hx => ?_⟩
    rw [List.getElem?_take] at hx
    split at hx
    ·rw [List.getElem?_drop] at hx
     simp only [World.cell?,h2]
     have hj:off+j<vs.length:=(List.getElem?_eq_some_iff.1 hx).1
     simp [List.getElem?_append_left hj,hx]
    ·cases hx
   ·exact ⟨[],k1,k2.symm,fun j x hx=>by simp at hx⟩
  ·cases h
 ·cases h
theorem ve (hG:cv P g) (hR:av P V s B w) {t:TypeId} {id off:Nat} {v:AV} {p:Nat×Nat} (h:Bl g s t id off=some v) (hp:V.E id=some p) :
  ∃x,v.conc V=some x/\(loadVar t ⟨p.1,off,none⟩).run P w = .ok x w:=by
 unfold Bl at h
 split at h
 ·rename_i ti hti
  have hT:=hG.ty _ _ hti
  cases c:fa ti.desc with
  | true =>
   rw [c] at h;simp only [cond_true] at h
   split at h
   ·rename_i l hl;cases h
    obtain ⟨vs,h1,h2,h3⟩:=eI hR hl hp
    refine ⟨_,gd h1,?_⟩
    simp only [loadVar,Sem.run_bind,dI hT,Result.andThen_ok,c,if_true,aB hT,<-h2]
    rw [run_loadCells_list w ⟨p.1,off,none⟩ vs (fun j x hx=>by rw [bY];exact h3 j x hx)]
    rfl
   ·cases h
  | false =>
   rw [c] at h;simp only [cond_false] at h
   split at h
   ·rename_i v' hl;cases h
    obtain ⟨vs,h1,h2,h3⟩:=eI hR hl hp
    obtain ⟨x,r,rfl,hx,hr⟩:=ag h1
    refine ⟨x,hx,?_⟩
    have:=h3 0 x (by simp)
    simp only [loadVar,Sem.run_bind,dI hT,Result.andThen_ok,c,Bool.false_eq_true,if_false,run_load]
    rw [Nat.add_zero] at this
    rw [this]
   ·cases h
 ·cases h
theorem cH (b o:Nat) (e:TypeId) (fz:Nat×Nat):∀(us:List Value) (i:Nat) (cur:List Value) (w:World),w.heap[b]? = some (.cells cur.toArray e fz)->ui fz cur.length->o+i+us.length<=cur.length->(∀v∈us,v.oneCell'=true)->
  ∃w',(storeCells ⟨b,o,none⟩ us i).run P w = .ok () w'/\w'.heap[b]? = some (.cells (dZ cur (o+i) us).toArray e fz)/\(∀k,k≠b->w'.heap[k]? = w.heap[k]?)/\w'.heap.size=w.heap.size/\w'.os=w.os/\w'.tape=w.tape/\w'.output=w.output:=by
 intro us
 induction us with
 | nil=>intro i cur w h _ _ _;exact ⟨w,rfl,h,fun _ _=>rfl,rfl,rfl,rfl,rfl⟩
 | cons u us ih =>
  intro i cur w h hf hl h1
  simp only [List.length_cons] at hl
  have hc:w.cell? ⟨b,o+i,none⟩=some (cur[o+i]'(by omega)):=by
   simp only [World.cell?,h]
   simp [List.getElem?_eq_getElem (show o+i<cur.length by omega)]
  have hz:w.frozen? ⟨b,o+i,none⟩=false:=by
   simp only [World.frozen?,h]
   have:=hf (o+i) (by omega)
   simp only [Bool.and_eq_false_iff,decide_eq_false_iff_not]
   omega
  have hb':(w.setCell ⟨b,o+i,none⟩ u).heap[b]? = some (.cells (cur.set (o+i) u).toArray e fz):=by
   simp only [World.setCell,Array.getElem?_modify]
   simp [h]
  obtain ⟨w',k1,k2,k3,k4,k5,k6,k7⟩:=ih (i+1) (cur.set (o+i) u) (w.setCell ⟨b,o+i,none⟩ u) hb' (by simpa using hf) (by simp;omega) (fun v hv=>h1 v (by simp [hv]))
  refine ⟨w',?_,?_,?_,?_,k5,k6,k7⟩
  ·have hst':(store ((⟨b,o,none⟩:Addr).add i) u).run P w = .ok () (w.setCell ⟨b,o+i,none⟩ u):=by
    rw [bY,run_store P w _ u .plain (h1 u (by simp)),hc,hz];rfl
   simp only [storeCells,Sem.run_bind,hst',Result.andThen_ok]
   exact k1
  ·rw [k2,show o+(i+1)=o+i+1 by omega];rfl
  ·intro k hk;rw [k3 k hk];exact Below.heap_setCell _ _ _ _ hk
  ·rw [k4];simp [World.setCell]
theorem tO:∀(us l r:List Value) (k:Nat),k+us.length<=l.length->dZ (l++r) k us=dZ l k us++r:=by
 intro us
 induction us with
 | nil=>intro l r k _;rfl
 | cons u us ih=>
  intro l r k h
  simp only [List.length_cons] at h
  simp only [dZ]
  rw [List.set_append_left _ _ (by omega),ih _ _ _ (by simp;omega)]
theorem kp (hR:av P V s B w) {id off:Nat} {vs:List AV} {us:List Value} {p:Nat×Nat} (h:nU s id off vs=some s') (hp:V.E id=some p) (hu:concL V vs=some us) :
  ∃w',av P V s' B w'/\(storeCells ⟨p.1,off,none⟩ us).run P w = .ok () w'/\w'.heap.size=w.heap.size:=by
 unfold nU at h
 simp only [EJ] at h
 cases c0:(Nat.blt id eY&&bQ vs) with
 | false=>rw [c0] at h;cases h
 | true =>
  rw [c0] at h;simp only [cond_true] at h
  simp only [qX,Bool.and_eq_true,decide_eq_true_eq] at c0
  have h1:=ge hu c0.2
  have hlen:=aW hu
  split at h
  ·rename_i l e hb
   cases c:Nat.ble (Nat.add off (bF vs)) (bF l) with
   | false=>rw [c] at h;cases h
   | true=>
    rw [c] at h;cases h
    rw [aO,aO] at c
    have c':off+vs.length<=l.length:=by simpa using c
    obtain ⟨q,hq,hB,hO,_⟩:=hR.blk id _ hb
    rw [hp] at hq;cases hq
    obtain ⟨cur,fz,k1,k2,k3⟩:=hB
    have hl:=aW k1
    obtain ⟨w',m1,m2,m3,m4,m5,m6,m7⟩:=cH (P:=P) p.1 off e fz us 0 cur w k2 (fun o h=>k3 o (by omega)) (by omega) h1
    refine ⟨w',hR.turn (b' := .cells (aE l off vs) e) c0.1 rfl hb rfl rfl hp m3 m4 m5 m6 m7 ?_,m1,m4⟩
    exact ⟨_,fz,kK off k1 hu,m2,by rw [jI];exact k3⟩
  ·rename_i l e hb
   cases c:Nat.ble (Nat.add off (bF vs)) (bF l) with
   | false=>rw [c] at h;cases h
   | true=>
    rw [c] at h;cases h
    rw [aO,aO] at c
    have c':off+vs.length<=l.length:=by simpa using c
    obtain ⟨q,hq,hB,hO,_⟩:=hR.blk id _ hb
    rw [hp] at hq;cases hq
    obtain ⟨cur,rest,fz,k1,k2,k3,k4⟩:=hB
    have hl:=aW k1
    obtain ⟨w',m1,m2,m3,m4,m5,m6,m7⟩:=cH (P:=P) p.1 off e fz us 0 (cur++rest) w k2 (by simpa using k3) (by simp;omega) h1
    refine ⟨w',hR.turn (b' := .row (aE l off vs) e) c0.1 rfl hb rfl rfl hp m3 m4 m5 m6 m7 ?_,m1,m4⟩
    refine ⟨_,rest,fz,kK off k1 hu,?_,by rw [jI];exact k3,by rw [jI];exact k4⟩
    rw [m2,Nat.add_zero,tO _ _ _ _ (by omega)]
  ·cases h
theorem uz (n:Nat):ui (0,0) n:=fun o _ h=>by omega
theorem mK (hR:av P V s B w) {l:List AV} {e:TypeId} {id:Nat} {vs:List Value} (h:iD s (.cells l e)=some (id,s')) (hl:concL V l=some vs) :
  ∃V',dM V V'/\av P V' s' B (w.alloc (.cells vs.toArray e))/\V'.E id=some (w.heap.size,0):=by
 obtain ⟨h1,h2,h3⟩:=hR.new (cap:=0) (lc:=none) (o := .cells vs.toArray e) h rfl (.inl rfl) ⟨vs,(0,0),aG (hR.ext (gN h).2.2.1 _ _) hl,rfl,uz _⟩
 exact ⟨_,h2,h1,h3⟩
theorem Bv (hR:av P V s B w) {l:List AV} {e:TypeId} {id cap:Nat} {vs rest:List Value} {fz:Nat×Nat} (h:iD s (.row l e)=some (id,s')) (hl:concL V l=some vs)
  (hf:ui fz (vs.length+rest.length)) (hc:∀i,P.info? e=some i->vs.length+rest.length=cap*i.size/\(1<i.size->cap<=9223372036854775807)) :
  ∃V',dM V V'/\av P V' s' B (w.alloc (.cells (vs++rest).toArray e fz))/\V'.E id=some (w.heap.size,cap):=by
 obtain ⟨h1,h2,h3⟩:=hR.new (cap:=cap) (lc:=none) (o := .cells (vs++rest).toArray e fz) h rfl (.inl rfl) ⟨vs,rest,fz,aG (hR.ext (gN h).2.2.1 _ _) hl,rfl,hf,hc⟩
 exact ⟨_,h2,h1,h3⟩
theorem cY (e:TypeId) (c:Array Value) (w:World):(newRow e c).run P w = .ok ⟨w.heap.size,0,none⟩ (w.alloc (.cells c e)):=rfl
theorem oW {α:Type}:∀(n:Nat) (l:List α) (i:Nat),i<n*l.length->(cP n l)[i]? = l[i % l.length]? := by
 intro n
 induction n with
 | zero=>intro l i h;simp at h
 | succ n ih =>
  intro l i h
  simp only [cP]
  by_cases hi:i<l.length
  ·rw [List.getElem?_append_left hi,Nat.mod_eq_of_lt hi]
  ·have hi':l.length<=i:=by omega
   have h':i-l.length<n*l.length:=by rw [Nat.succ_mul] at h;omega
   rw [List.getElem?_append_right hi',ih l _ h',<-Nat.mod_eq_sub_mod hi']
theorem pw (z:Array Value) (n:Nat):((Array.range (n*z.size)).map fun i=>z[i % z.size]!)=(cP n z.toList).toArray:=by
 apply Array.ext'
 simp only [Array.toList_map,Array.toList_range]
 apply List.ext_getElem?
 intro i
 by_cases hi:i<n*z.size
 ·have hz:0<z.size:=by
   rcases Nat.eq_zero_or_pos z.size with h | h
   ·rw [h] at hi;simp at hi
   ·exact h
  have hm:i % z.size<z.size:=Nat.mod_lt _ hz
  have:(cP n z.toList)[i]? = z.toList[i % z.toList.length]? := oW n z.toList i (by simpa using hi)
  rw [this]
  simp [hi,hm]
 ·have h1:(cP n z.toList).length<=i:=by rw [dE];simpa using hi
  rw [List.getElem?_eq_none h1]
  simp;omega
theorem iR {l:List AV} {vs:List Value} (h:concL V l=some vs):∀n,concL V (cP n l)=some (cP n vs):=by
 intro n
 induction n with
 | zero=>rfl
 | succ n ih=>exact fP h ih
end
end
section
open Go.RowKit
def FD (P:Program) (B:World) (V:az) (v:AV) (s':S) (m:World->Result Value) (w:World):Prop:=
 ∃V' x w',dM V V'/\av P V' s' B w'/\v.conc V'=some x/\m w = .ok x w'
section
variable {P:Program} {g:G} {V:az} {s s':S} {B w:World}
theorem il (hR:av P V s B w) {id off n len size cap:Nat} {l:List AV} {p:Nat×Nat} (h:j9 s id off (n*size)=some l) (hp:V.E id=some p) :
  ∃vs,concL V l=some vs/\vs.length=n*size/\(Builtin.firstCells size n (.slice (some ⟨p.1,off,none⟩) len cap)).run P w = .ok vs.toArray w:=by
 obtain ⟨vs,h1,h2,h3⟩:=eI hR h hp
 refine ⟨vs,h1,h2,?_⟩
 simp only [Builtin.firstCells,<-h2]
 exact run_loadCells_list w _ vs (fun j x hx=>by rw [bY];exact h3 j x hx)
theorem ia (V:az):∀(l:List UInt8),concL V (nq l)=some (l.map fun b => .int .u8 b.toNat):=by
 intro l
 induction l with
 | nil=>rfl
 | cons b l ih=>exact ax rfl ih
theorem gy (z:Array Value) (n:Nat):Builtin.zeroCells z n=(cP n z.toList).toArray:=pw z n
theorem qA (hG:cv P g) (hR:av P V s B w) {t:TypeId} {te tu:TI} {y:AV} {Y:Value} {zeros:Bool} {n:Nat} {new:List AV} (hte:g.ty.get t=some te) (h:iT s te y zeros=some (n,new)) (hY:y.conc V=some Y)
  (hz:zeros=true↔∃k,tu.desc = .int k) :
  ∃ vs, concL V new = some vs /\ vs.length = n * te.size /\
   (if zeros then (∃ k, Y = .int k n) /\ n <= 1000000 /\ te.bytes <= 1000000 /\ (∀ w, (do pure (Builtin.zeroCells (<- zeroValue t).cells n) : Sem (Array Value)).run P w = .ok vs.toArray w)
    else (Builtin.lenOf Y).run P w = .ok n w/\(Builtin.firstCells te.size n Y).run P w = .ok vs.toArray w):=by
 unfold iT at h
 cases zeros with
 | true =>
  simp only [cond_true] at h
  split at h
  ·rename_i m z hm hzz
   cases c:(Nat.ble m 1000000&&Nat.ble te.bytes 1000000&&Nat.beq (bF z.cells) te.size) with
   | false=>rw [c] at h;cases h
   | true=>
    rw [c] at h;simp only [cond_true,Option.some.injEq,Prod.mk.injEq] at h
    obtain ⟨rfl,rfl⟩:=h
    rw [aO] at c
    simp only [nO,bt,Bool.and_eq_true,decide_eq_true_eq] at c
    obtain ⟨i,zv,hi,hiz,his,hzc,hzl⟩:=ed hG hte hzz
    have hlen:=aW hzl
    obtain ⟨k,hk⟩:=kb hm hY
    refine ⟨_,iR hzl m,by rw [dE,hlen,c.2],?_⟩
    simp only [if_true]
    refine ⟨⟨k,hk⟩,c.1.1,c.1.2,fun w => ?_⟩
    simp only [zeroValue,typeInfo,Sem.run_bind,run_program,Result.andThen_ok,hi,Sem.run_pure,hiz,gy]
  ·cases h
 | false =>
  simp only [cond_false] at h
  unfold gt at h
  split at h
  ·cases h
   simp only [AV.conc] at hY;cases hY
   exact ⟨[],rfl,by simp,by simp [Builtin.lenOf,Builtin.firstCells]⟩
  ·rename_i id off len cp sk
   split at h
   ·rename_i l hl;cases h
    obtain ⟨p,hp,rfl⟩:=aT hY
    obtain ⟨vs,h1,h2,h3⟩:=il (len:=n) (cap:=eG cp p.2 sk) hR hl hp
    exact ⟨vs,h1,h2,by simp only [Bool.false_eq_true,if_false];exact ⟨rfl,h3⟩⟩
   ·cases h
  ·rename_i l
   cases c1:Nat.beq te.size 1 with
   | false=>rw [c1] at h;cases h
   | true=>
   rw [c1] at h;cases h
   have c1':te.size=1:=by simpa using c1
   simp only [AV.conc] at hY;cases hY
   refine ⟨_,ia V l,by rw [c1',aO];simp,?_⟩
   have hs:(⟨l.toArray⟩:ByteArray).size=l.length:=by simp [ByteArray.size]
   simp only [Bool.false_eq_true,if_false,aO]
   refine ⟨by simp [Builtin.lenOf,hs],?_⟩
   simp only [Builtin.firstCells,Sem.run_pure]
   congr 1
   apply Array.ext'
   simp [ByteArray.data_extract]
  ·cases h
theorem Cz:∀(r n c:Nat),c<n->256<=c->Builtin.growBy n r c<=2*n:=by
 intro r
 induction r with
 | zero=>intro n c h _;simp only [Builtin.growBy];omega
 | succ r ih =>
  intro n c h h2
  simp only [Builtin.growBy]
  split
  ·omega
  ·by_cases h3:c+(c+768) / 4<n
   ·exact ih n _ h3 (by omega)
   ·cases r with
    | zero=>simp only [Builtin.growBy];omega
    | succ r=>simp only [Builtin.growBy];split<;>omega
theorem yO (need old:Nat) (h:old<need):Builtin.nextslicecap need old<=2*need:=by
 unfold Builtin.nextslicecap
 split
 ·omega
 ·split
  ·omega
  ·exact Cz 4 need old h (by omega)
structure Ac (P:Program) (e:TypeId) (te:TI) (u:TypeId) (tu:TI) (zeros:Bool) (n:Nat) (Y:Value) (vs:List Value) (w:World):Prop where
 und:P.underlying u=some tu.desc
 zk:zeros=(match tu.desc with | .int _=>true | _=>false)
 z:zeros=true->(∃k,Y = .int k n)/\n<=1000000/\te.bytes<=1000000/\(∀w,(do pure (Builtin.zeroCells (<-zeroValue e).cells n):Sem (Array Value)).run P w = .ok vs.toArray w)
 len:vs.length=n*te.size
 nz:zeros=false->(Builtin.lenOf Y).run P w = .ok n w/\(Builtin.firstCells te.size n Y).run P w = .ok vs.toArray w
theorem mh {n:Nat} (h:n<=9223372036854775807):IntKind.i64.wrap (n:Int)=n:=hD (by simp [IntKind.min,IntKind.signed,IntKind.bits]<;>omega) (by rw [IntKind.max_i64];omega)
theorem gI (hG:cv P g) {t e u:TypeId} {te tu:TI} {zeros:Bool} {n sLen sCap:Nat} {Y:Value} {vs:List Value} {a:Addr} {ty:TypeId} {w':World} (ht:P.underlying t=some (.slice e)) (hte:g.ty.get e=some te)
  (hS:Ac P e te u tu zeros n Y vs w) (hfit:sLen+n<=sCap) (hst:(storeCells (a.add (sLen*te.size)) vs).run P w = .ok () w') :
  (Builtin.append_ #[t,u] ty #[.slice (some a) sLen sCap,Y]).run P w = .ok (.slice (some a) (sLen+n) sCap) w':=by
 have hsz:=aB (w:=w) (hG.ty _ _ hte)
 obtain ⟨bi,hbi,hbs⟩:=vd (w:=w) (hG.ty _ _ hte)
 cases zeros with
 | true =>
  obtain ⟨⟨k,rfl⟩,h1,h2,h3⟩:=hS.z rfl
  have hd:∃k,tu.desc = .int k:=by
   have:=hS.zk
   cases hdd:tu.desc<;>rw [hdd] at this<;>first | exact ⟨_,rfl⟩ | cases this
  obtain ⟨kd,hkd⟩:=hd
  have hund:=hS.und;rw [hkd] at hund
  have hw0:IntKind.i64.wrap (n:Int)=n:=mh (by omega)
  have hneg:¬((n:Int)<0):=by omega
  have hbig:¬((n:Int)*(bi.bytes:Int) > 2 ^ 48):=by
   rw [hbs]
   have:n*te.bytes<=1000000*1000000:=Nat.mul_le_mul h1 h2
   have e48:(2:Int) ^ 48=281474976710656:=by decide
   rw [e48]
   have:((n*te.bytes:Nat):Int)<=1000000000000:=by omega
   simp only [Int.natCast_mul] at this
   omega
  have key:(Builtin.append_ #[t,u] ty #[.slice (some a) sLen sCap,.int k n]).run P w=((do
    let new <-(if n*te.size=0 then pure #[] else do pure (Builtin.zeroCells (<-zeroValue e).cells n):Sem (Array Value))
    storeCells (a.add (sLen*te.size)) new.toList
    pure (.slice (some a) (sLen+n) sCap):Sem Value)).run P w:=by
   simp only [Builtin.append_,List.getElem?_toArray,List.getElem?_cons_zero,List.getElem?_cons_succ,Sem.run_bind,run_underlying ht,run_underlying hund,Result.andThen_ok,hsz,Sem.run_pure,asInt,asIntOf,if_true,hw0,Sem.run_ite,if_neg hneg,hbi,if_neg hbig,Int.toNat_natCast,if_pos hfit,Bool.not_true,Bool.false_eq_true,if_false]
  rw [key]
  by_cases h0:n*te.size=0
  ·have:vs=[]:=List.length_eq_zero_iff.1 (by rw [hS.len,h0])
   subst this
   have hw:w'=w:=by
    simp only [storeCells] at hst
    injection hst with _ h;exact h.symm
   subst hw
   simp only [if_pos h0,Sem.run_bind,Sem.run_pure,Result.andThen_ok]
   rfl
  ·simp only [if_neg h0,Sem.run_bind]
   have:=h3 w
   simp only [Sem.run_bind] at this
   rw [this]
   simp only [Result.andThen_ok,hst,Sem.run_pure]
 | false =>
  obtain ⟨h1,h2⟩:=hS.nz rfl
  have hund:=hS.und
  have key:(Builtin.append_ #[t,u] ty #[.slice (some a) sLen sCap,Y]).run P w=((do
    let n <-Builtin.lenOf Y
    if sLen+n<=sCap then do
     let new <-Builtin.firstCells te.size n Y
     storeCells (a.add (sLen*te.size)) new.toList
     pure (.slice (some a) (sLen+n) sCap)
    else unsupported (.resourceLimit ""):Sem Value)).run P w:=by
   have hk:=hS.zk
   cases hdd:tu.desc<;>rw [hdd] at hund hk<;>first | (cases hk;done) | skip
   all_goals
    simp only [Builtin.append_,List.getElem?_toArray,List.getElem?_cons_zero,List.getElem?_cons_succ,Sem.run_bind,run_underlying ht,run_underlying hund,Result.andThen_ok,hsz,Sem.run_pure,Bool.false_eq_true,if_false,h1,Sem.run_ite,if_pos hfit,Bool.not_false,if_true]
  rw [key]
  simp only [Sem.run_bind,h1,Result.andThen_ok,Sem.run_ite,if_pos hfit,h2,hst,Sem.run_pure]
theorem ji (hG:cv P g) {t e u:TypeId} {te tu:TI} {zeros:Bool} {n sLen sCap:Nat} {Y:Value} {vs old:List Value} {base:Option Addr} {ty:TypeId} (ht:P.underlying t=some (.slice e)) (hte:g.ty.get e=some te)
  (hS:∀d,Ac P e te u tu zeros n Y vs { w with drawn:=d }) (hfit:sCap<sLen+n) (hb:0<te.bytes) (hmax:2*(sLen+n)*te.bytes<=281474976710656)
  (hold:∀d,(Builtin.firstCells te.size sLen (.slice base sLen sCap)).run P { w with drawn:=d } = .ok old.toArray { w with drawn:=d }) (hol:old.length=sLen*te.size) (hzero:∃z,(zeroValue e).run P { w with drawn:=w.drawn+1 } = .ok z { w with drawn:=w.drawn+1 }/\z.cells.size=te.size) :
  ∃cap rest,sLen+n<=cap/\cap<=9223372036854775807/\(vs.length+old.length)+rest.length=cap*te.size/\
   (Builtin.append_ #[t,u] ty #[.slice base sLen sCap,Y]).run P w = .ok (.slice (some ⟨w.heap.size,0,none⟩) (sLen+n) cap) (({ w with drawn:=w.drawn+1 }:World).alloc (.cells ((old++vs)++rest).toArray e)):=by
 obtain ⟨z,hz,hzs⟩:=hzero
 obtain ⟨W1,hW1⟩:∃W1:World,W1={ w with drawn:=w.drawn+1 }:=⟨_,rfl⟩
 have hWh:W1.heap=w.heap:=by rw [hW1]
 rw [<-hW1] at hz ⊢
 have hold1:(Builtin.firstCells te.size sLen (.slice base sLen sCap)).run P W1 = .ok old.toArray W1:=by rw [hW1];exact hold _
 have hS1:Ac P e te u tu zeros n Y vs W1:=by rw [hW1];exact hS _
 have hsz:∀w',(sizeOf e).run P w' = .ok te.size w':=fun w'=>aB (hG.ty _ _ hte)
 obtain ⟨bi,hbi,hbs⟩:∃i,(∀w',(typeInfo e).run P w' = .ok i w')/\i.bytes=te.bytes:=by
  obtain ⟨i,h1,_,h3,_⟩:=(hG.ty _ _ hte).info
  exact ⟨i,fun w'=>by simp [typeInfo,h1],h3⟩
 obtain ⟨cap,hcap⟩:∃cap,(Question.appendCap (sLen+n) sCap e).cut (w.tape w.drawn (Question.appendCap (sLen+n) sCap e))=cap:=⟨_,rfl⟩
 have hle:sLen+n<=cap:=by rw [<-hcap];simp [Question.cut]
 have hch:(choose (Question.appendCap (sLen+n) sCap e)).run P w = .ok cap W1:=by
  rw [run_choose,hW1]
  have:(Question.appendCap (sLen+n) sCap e).forced=false:=rfl
  rw [this,hcap];rfl
 have hmx:¬(((sLen+n:Nat):Int) > IntKind.i64.max/\(zeros=true\/bi.bytes=0)):=by
  rw [IntKind.max_i64]
  intro hh
  have:(sLen+n)*1<=(sLen+n)*te.bytes:=Nat.mul_le_mul_left _ hb
  have h3:2*(sLen+n)*te.bytes=2*((sLen+n)*te.bytes):=by rw [Nat.mul_assoc]
  omega
 have hnc:¬(Builtin.nextslicecap (sLen+n) sCap*bi.bytes > 2 ^ 48):=by
  rw [hbs]
  have h1:=yO (sLen+n) sCap hfit
  have h2:=Nat.mul_le_mul_right te.bytes h1
  have e48:(2:Nat) ^ 48=281474976710656:=by decide
  rw [e48];omega
 obtain ⟨rest,hrest⟩:∃rest,(cP (cap-(sLen+n)) z.cells.toList)=rest:=⟨_,rfl⟩
 have hrl:rest.length=(cap-(sLen+n))*te.size:=by rw [<-hrest,dE];simp [hzs]
 have hvl:vs.length=n*te.size:=(hS w.drawn).len
 have hnf:¬(sLen+n<=sCap):=by omega
 refine ⟨cap,rest,hle,?_,?_,?_⟩
 ·rw [<-hcap]
  simp only [Question.cut]
  have hn1:(sLen+n)*1<=(sLen+n)*te.bytes:=Nat.mul_le_mul_left _ hb
  have h3:2*(sLen+n)*te.bytes=2*((sLen+n)*te.bytes):=by rw [Nat.mul_assoc]
  have e63:(2:Nat) ^ 63=9223372036854775808:=by decide
  have:=Nat.mod_lt (w.tape w.drawn (Question.appendCap (sLen+n) sCap e)) (show 0<2 ^ 63-(sLen+n) by rw [e63];omega)
  rw [e63] at this ⊢
  omega
 ·rw [hvl,hol,hrl,<-Nat.add_mul,<-Nat.add_mul];congr 1;omega
 cases zeros with
 | true =>
  obtain ⟨⟨k,rfl⟩,h1,h2,h3⟩:=(hS w.drawn).z rfl
  have hd:∃k,tu.desc = .int k:=by
   have:=(hS w.drawn).zk
   cases hdd:tu.desc<;>rw [hdd] at this<;>first | exact ⟨_,rfl⟩ | cases this
  obtain ⟨kd,hkd⟩:=hd
  have hund:=(hS w.drawn).und;rw [hkd] at hund
  have hw0:IntKind.i64.wrap (n:Int)=n:=mh (by omega)
  have hneg:¬((n:Int)<0):=by omega
  have hbig:¬((n:Int)*(bi.bytes:Int) > 2 ^ 48):=by
   rw [hbs]
   have:n*te.bytes<=1000000*1000000:=Nat.mul_le_mul h1 h2
   have e48:(2:Int) ^ 48=281474976710656:=by decide
   rw [e48]
   have:((n*te.bytes:Nat):Int)<=1000000000000:=by omega
   simp only [Int.natCast_mul] at this
   omega
  have hmx':¬(((sLen+n:Nat):Int) > IntKind.i64.max/\(True\/bi.bytes=0)):=by simpa using hmx
  have key:(Builtin.append_ #[t,u] ty #[.slice base sLen sCap,.int k n]).run P w=((do
    let old <-Builtin.firstCells te.size sLen (.slice base sLen sCap)
    let new <-(if n*te.size=0 then pure #[] else do pure (Builtin.zeroCells (<-zeroValue e).cells n):Sem (Array Value))
    let rest:=Builtin.zeroCells (<-zeroValue e).cells (cap-(sLen+n))
    pure (.slice (some (<-newRow e (old++new++rest))) (sLen+n) cap):Sem Value)).run P W1:=by
   simp only [Builtin.append_,List.getElem?_toArray,List.getElem?_cons_zero,List.getElem?_cons_succ,Sem.run_bind,run_underlying ht,run_underlying hund,Result.andThen_ok,hsz,Sem.run_pure,asInt,asIntOf,if_true,hw0,Sem.run_ite,if_neg hneg,hbi,if_neg hbig,Int.toNat_natCast,if_neg hnf,Bool.not_true,Bool.false_eq_true,if_false,if_neg hmx',if_neg hnc,hch,run_askRoom]
  rw [key]
  have hnew:((if n*te.size=0 then pure #[] else do pure (Builtin.zeroCells (<-zeroValue e).cells n):Sem (Array Value))).run P W1 = .ok vs.toArray W1:=by
   by_cases h0:n*te.size=0
   ·have:vs=[]:=List.length_eq_zero_iff.1 (by rw [hvl,h0])
    subst this
    simp only [if_pos h0,Sem.run_pure]
   ·simp only [if_neg h0];exact h3 _
  rw [Sem.run_bind,hold1,Result.andThen_ok,Sem.run_bind,hnew,Result.andThen_ok]
  simp only [Sem.run_bind,Result.andThen_ok,hz,cY,Sem.run_pure,gy,hrest]
  rw [hWh]
  simp only [List.append_toArray]
 | false =>
  obtain ⟨h1,_⟩:=(hS w.drawn).nz rfl
  obtain ⟨_,h2⟩:=hS1.nz rfl
  have hund:=(hS w.drawn).und
  have hmx':¬(((sLen+n:Nat):Int) > IntKind.i64.max/\(False\/bi.bytes=0)):=by simpa using hmx
  have key:(Builtin.append_ #[t,u] ty #[.slice base sLen sCap,Y]).run P w=((do
    let old <-Builtin.firstCells te.size sLen (.slice base sLen sCap)
    let new <-Builtin.firstCells te.size n Y
    let rest:=Builtin.zeroCells (<-zeroValue e).cells (cap-(sLen+n))
    pure (.slice (some (<-newRow e (old++new++rest))) (sLen+n) cap):Sem Value)).run P W1:=by
   have hk:=(hS w.drawn).zk
   cases hdd:tu.desc<;>rw [hdd] at hund hk<;>first | (cases hk;done) | skip
   all_goals
    simp only [Builtin.append_,List.getElem?_toArray,List.getElem?_cons_zero,List.getElem?_cons_succ,Sem.run_bind,run_underlying ht,run_underlying hund,Result.andThen_ok,hsz,Sem.run_pure,Bool.false_eq_true,if_false,h1,Sem.run_ite,if_neg hnf,hbi,if_neg hmx',if_neg hnc,hch,run_askRoom,Bool.not_false,if_true]
  rw [key]
  simp only [Sem.run_bind,hold1,Result.andThen_ok,h2,hz,cY,Sem.run_pure,gy,hrest]
  rw [hWh]
  simp only [List.append_toArray]
end
end
section
open Go.RowKit
section
variable {P:Program} {g:G} {V:az} {s s':S} {B w:World}
theorem wd (hG:cv P g) (hR:av P V s B w) {e u:TypeId} {te tu:TI} {y:AV} {Y:Value} {zeros:Bool} {n:Nat} {new:List AV} (hte:g.ty.get e=some te) (hu:P.underlying u=some tu.desc)
  (hz:zeros=(match tu.desc with | .int _=>true | _=>false)) (h:iT s te y zeros=some (n,new)) (hY:y.conc V=some Y) :
  ∃vs,concL V new=some vs/\∀d,Ac P e te u tu zeros n Y vs { w with drawn:=d }:=by
 have hzk:zeros=true↔∃k,tu.desc = .int k:=by
  rw [hz];cases tu.desc<;>simp
 obtain ⟨vs,h1,h2,_⟩:=qA hG hR hte h hY hzk
 refine ⟨vs,h1,fun d => ?_⟩
 obtain ⟨vs',h1',h2',h3'⟩:=qA hG (hR.drew d) hte h hY hzk
 rw [h1] at h1';cases h1'
 refine ⟨hu,hz,fun e => ?_,h2,fun e => ?_⟩
 ·rw [e] at h3';simpa using h3'
 ·rw [e] at h3';simpa using h3'
theorem pu (hG:cv P g) {e:TypeId} {te:TI} {z:AV} (hte:g.ty.get e=some te) (hz:te.zero=some z) (hs:bF z.cells=te.size) (w:World) :
  ∃z,(zeroValue e).run P w = .ok z w/\z.cells.size=te.size:=by
 obtain ⟨i,zv,hi,hiz,his,hzc,hzl⟩:=ed (V:=⟨⟨[],[],[],[],[],fun _=>none,fun _=>none⟩,fun _=>none,fun _=>none⟩) hG hte hz
 refine ⟨zv,by simp [zeroValue,typeInfo,hi,hiz],?_⟩
 have:=aW hzl
 rw [Array.length_toList] at this
 rw [this,<-aO,hs]
theorem jj (hG:cv P g) {t e u:TypeId} {te tu:TI} {zeros:Bool} {Y:Value} {vs:List Value} {ty:TypeId} (ht:P.underlying t=some (.slice e)) (hte:g.ty.get e=some te) (hS:Ac P e te u tu zeros 0 Y vs w) :
  (Builtin.append_ #[t,u] ty #[.slice none 0 0,Y]).run P w = .ok (.slice none 0 0) w:=by
 have hsz:=aB (w:=w) (hG.ty _ _ hte)
 obtain ⟨bi,hbi,hbs⟩:=vd (w:=w) (hG.ty _ _ hte)
 cases zeros with
 | true =>
  obtain ⟨⟨k,rfl⟩,h1,h2,h3⟩:=hS.z rfl
  have hd:∃k,tu.desc = .int k:=by
   have:=hS.zk
   cases hdd:tu.desc<;>rw [hdd] at this<;>first | exact ⟨_,rfl⟩ | cases this
  obtain ⟨kd,hkd⟩:=hd
  have hund:=hS.und;rw [hkd] at hund
  have hw0:IntKind.i64.wrap ((0:Nat):Int)=0:=by decide
  have hbig:¬((0:Int)*(bi.bytes:Int) > 2 ^ 48):=by simp
  have hneg:¬((0:Int)<0):=by decide
  simp only [Builtin.append_,List.getElem?_toArray,List.getElem?_cons_zero,List.getElem?_cons_succ,Sem.run_bind,run_underlying ht,run_underlying hund,Result.andThen_ok,hsz,Sem.run_pure,asInt,asIntOf,if_true,hw0,Sem.run_ite,if_neg hneg,hbi,if_neg hbig,Int.toNat_zero,Nat.add_zero,Nat.le_refl,Nat.zero_mul,Bool.not_true,Bool.false_eq_true,if_false]
 | false =>
  obtain ⟨h1,h2⟩:=hS.nz rfl
  have hund:=hS.und
  have hk:=hS.zk
  cases hdd:tu.desc<;>rw [hdd] at hund hk<;>first | (cases hk;done) | skip
  all_goals
   simp only [Builtin.append_,List.getElem?_toArray,List.getElem?_cons_zero,List.getElem?_cons_succ,Sem.run_bind,run_underlying ht,run_underlying hund,Result.andThen_ok,hsz,Sem.run_pure,Bool.false_eq_true,if_false,h1,Sem.run_ite,Nat.add_zero,Nat.le_refl,Bool.not_false,if_true,h2]
theorem sL (hG:cv P g) (hR:av P V s B w) {t e u:TypeId} {te tu:TI} {zeros:Bool} {n sLen sCap:Nat} {Y:Value} {vs olds:List Value} {base:Option Addr} {ty:TypeId} {old new:List AV} {id:Nat}
  (ht:P.underlying t=some (.slice e)) (hte:g.ty.get e=some te) (hS:∀d,Ac P e te u tu zeros n Y vs { w with drawn:=d }) (hfit:sCap<sLen+n) (hb:0<te.bytes) (hmax:2*(sLen+n)*te.bytes<=281474976710656)
  (hold:∀d,(Builtin.firstCells te.size sLen (.slice base sLen sCap)).run P { w with drawn:=d } = .ok olds.toArray { w with drawn:=d }) (hol:olds.length=sLen*te.size)
  (hz:∃z,te.zero=some z/\bF z.cells=te.size) (hn:iD s (.row (old++new) e)=some (id,s')) (hco:concL V old=some olds) (hcn:concL V new=some vs) :
  FD P B V (.slice id 0 (sLen+n) none 0) s' (fun w=>(Builtin.append_ #[t,u] ty #[.slice base sLen sCap,Y]).run P w) w:=by
 obtain ⟨z,hz1,hz2⟩:=hz
 obtain ⟨cap,rest,h1,hcb,h2,h3⟩:=ji (ty:=ty) hG ht hte hS hfit hb hmax hold hol (pu hG hte hz1 hz2 _)
 have hR1:=hR.drew (w.drawn+1)
 obtain ⟨i,hi,his,_⟩:=(hG.ty _ _ hte).info
 obtain ⟨V',k1,k2,k3⟩:=Bv (cap:=cap) (rest:=rest) (fz:=(0,0)) hR1 hn (fP hco hcn) (uz _) (fun j hj=>by
  rw [hi] at hj;cases hj;rw [List.length_append,his];exact ⟨by omega,fun _=>hcb⟩)
 refine ⟨V',_,_,k1,k2,?_,h3⟩
 simp only [AV.conc,k3,eG,Nat.sub_zero]
theorem rS (hG : cv P g) (hR : av P V s B w) {t u : TypeId} {tu : TI} {x y v : AV} {X Y : Value} {zeros : Bool} (ty : TypeId) (hu : P.underlying u = some tu.desc)
  (hz:zeros=(match tu.desc with | .int _=>true | _=>false)) (h:re g s t x y zeros=some (v,s')) (hX:x.conc V=some X) (hY:y.conc V=some Y) :
  FD P B V v s' (fun w=>(Builtin.append_ #[t,u] ty #[X,Y]).run P w) w:=by
 unfold re at h
 split at h
 ·rename_i ti hti
  have ht:=(hG.ty _ _ hti).desc
  split at h
  ·rename_i e hd
   rw [hd] at ht
   split at h
   ·rename_i te hte
    split at h
    ·rename_i n new hsrc
     obtain ⟨vs,hvs,hS⟩:=wd hG hR hte hu hz hsrc hY
     have hS0:Ac P e te u tu zeros n Y vs w:=hS w.drawn
     cases c0:(Nat.beq te.size 0||Nat.beq te.bytes 0 || !bQ new || !z8 te) with
     | true=>rw [c0] at h;cases h
     | false =>
      rw [c0] at h;simp only [cond_false] at h
      simp only [Bool.or_eq_false_iff,bt,decide_eq_false_iff_not,Bool.not_eq_false'] at c0
      obtain ⟨⟨⟨cs,cb⟩,cone⟩,cz⟩:=c0
      have hzero:∃z,te.zero=some z/\bF z.cells=te.size:=by
       unfold z8 at cz
       split at cz
       ·rename_i z hz;exact ⟨z,hz,by simpa using cz⟩
       ·cases cz
      have hb:0<te.bytes:=Nat.pos_of_ne_zero cb
      have hsz:0<te.size:=Nat.pos_of_ne_zero cs
      have hvl:=hS0.len
      split at h
      ·-- nil
       simp only [AV.conc] at hX;cases hX
       cases c1:Nat.beq n 0 with
       | true=>
        rw [c1] at h;cases h
        have:n=0:=by simpa using c1
        subst this
        exact ⟨V,_,w,dM.refl V,hR,rfl,jj hG ht hte hS0⟩
       | false =>
        rw [c1] at h;simp only [cond_false] at h
        have hn0:n≠0:=by simpa using c1
        cases c2:Nat.ble (Nat.mul (Nat.mul 2 n) te.bytes) 281474976710656 with
        | false=>rw [c2] at h;cases h
        | true =>
         rw [c2] at h;simp only [cond_true] at h
         have hm:2*n*te.bytes<=281474976710656:=by simpa using c2
         split at h
         ·rename_i id s1 hn;cases h
          have:=sL (ty:=ty) (old:=[]) (olds:=[]) (sLen:=0) (sCap:=0) (base:=none) hG hR ht hte hS (by omega) hb (by simpa using hm) (fun d=>by simp [Builtin.firstCells]) (by simp) hzero (by simpa using hn) rfl hvs
          simpa using this
         ·cases h
      ·-- a row of unknown capacity
       rename_i id len
       obtain ⟨p,hp,rfl⟩:=aT hX
       simp only [eG,Nat.sub_zero]
       split at h
       ·rename_i l e' hb'
        cases ce:Nat.beq e e' with
        | false=>rw [ce] at h;cases h
        | true=>
        rw [ce] at h;simp only [Bool.not_true,cond_false] at h
        have hee:e=e':=by simpa using ce
        subst hee
        obtain ⟨q,hq,hB,hO,_⟩:=hR.blk id _ hb'
        rw [hp] at hq;cases hq
        obtain ⟨cur,rest,fz,k1,k2,k3,k4⟩:=hB
        have hl:=aW k1
        obtain ⟨ie,hie,his,_⟩:=(hG.ty _ _ hte).info
        have hcap:=k4 ie hie
        rw [his] at hcap
        obtain ⟨hcap,hcb⟩:=hcap
        cases cf:Nat.ble (Nat.mul (Nat.add len n) te.size) (bF l) with
        | true =>
         rw [cf] at h;simp only [cond_true] at h
         rw [aO] at cf
         have cf':(len+n)*te.size<=l.length:=by simpa using cf
         have hfit:len+n<=p.2:=by
          refine Nat.le_of_mul_le_mul_right (c:=te.size) ?_ hsz
          rw [<-hcap];omega
         split at h
         ·rename_i s1 hst;cases h
          obtain ⟨w',r1,r2,r3⟩:=kp hR hst hp hvs
          refine ⟨V,_,w',dM.refl V,r1,?_,gI hG ht hte hS0 hfit (by rw [bY,Nat.zero_add];exact r2)⟩
          simp only [AV.conc,hp,eG,Nat.sub_zero];rfl
         ·cases h
        | false =>
         rw [cf] at h;simp only [cond_false] at h
         split at h
         ·rename_i old hold
          obtain ⟨o1,o2,o3⟩:=gL _ _ _ hold
          cases c3:(Nat.blt id eY&&Nat.ble (Nat.mul (Nat.mul 2 (Nat.add len n)) te.bytes) 281474976710656) with
          | false=>rw [c3] at h;cases h
          | true =>
           rw [c3] at h;simp only [cond_true] at h
           simp only [qX,nO,Bool.and_eq_true,decide_eq_true_eq] at c3
           have hid:id<eY:=c3.1
           have hm:2*(len+n)*te.bytes<=281474976710656:=c3.2
           split at h
           ·rename_i id' s1 hn;cases h
            have holc:concL V old=some (cur.take (len*te.size)):=by rw [o1];exact fH k1 _
            have hol:(cur.take (len*te.size)).length=len*te.size:=by rw [aW holc];exact o2
            by_cases hfit:len+n<=p.2
            ·-- there is room
             have hmul:=Nat.mul_le_mul_right te.size hfit
             rw [Nat.add_mul] at hmul
             have hroom:0+0+0<=0:=Nat.le_refl 0
             obtain ⟨w',m1,m2,m3,m4,m5,m6,m7⟩:=cH (P:=P) p.1 (0+len*te.size) e fz vs 0 (cur++rest) w k2 (by simpa using k3) (by simp;omega) (ge hvs cone)
             have hsplit:∃rest',dZ (cur++rest) (len*te.size) vs=(cur.take (len*te.size)++vs)++rest'/\(len*te.size+vs.length)+rest'.length=p.2*te.size:=by
              refine ⟨(cur++rest).drop (len*te.size+vs.length),?_,?_⟩
              ·apply List.ext_getElem?
               intro i
               have hg:=jr (α:=Value) vs (cur++rest) (len*te.size) i
               have he:aE (cur++rest) (len*te.size) vs=dZ (cur++rest) (len*te.size) vs:=by
                have:∀(us l:List Value) (k:Nat),aE l k us=dZ l k us:=by
                 intro us
                 induction us with
                 | nil=>intro l k;rfl
                 | cons u us ih=>intro l k;simp only [aE,dZ,fD];exact ih _ _
                exact this _ _ _
               rw [<-he,hg]
               have hlt:len*te.size<=cur.length:=by rw [hl];exact o3
               by_cases i1:i<len*te.size
               ·rw [if_neg (by omega),List.append_assoc,List.getElem?_append_left (by omega),List.getElem?_append_left (by omega)]
                simp [i1]
               ·by_cases i2:i<len*te.size+vs.length
                ·rw [if_pos ⟨by omega,i2,by simp;omega⟩,List.append_assoc,List.getElem?_append_right (by omega),hol,List.getElem?_append_left (by omega)]
                ·have hle:(cur.take (len*te.size)++vs).length<=i:=by rw [List.length_append,hol];omega
                 rw [if_neg (by omega),List.getElem?_append_right hle,List.length_append,hol,List.getElem?_drop]
                 congr 1;omega
              ·simp only [List.length_drop,List.length_append];omega
             obtain ⟨rest',hs1,hs2⟩:=hsplit
             obtain ⟨r1,r2,r3⟩:=hR.rename (cap:=p.2) (b' := .row (old++new) e) (w':=w') hid hb' rfl hp rfl hn rfl m3 m4 m5 m6 m7 (by
              have hx:=(hR.turn (b' := .dead) (s':={ s with heap:=Tr.set 64 s.heap id .dead }) hid rfl hb' rfl rfl hp (fun _ _=>rfl) rfl rfl rfl rfl trivial).ext (gN hn).2.2.1 (p.1,p.2) none
              refine ⟨_,rest',fz,aG hx (fP holc hvs),?_,?_,?_⟩
              ·rw [m2,Nat.add_zero,Nat.zero_add,hs1]
              ·rw [List.length_append,hol];rw [hs2,<-hcap];exact k3
              ·intro i hi;rw [hie] at hi;cases hi;rw [List.length_append,hol,his];exact ⟨hs2,hcb⟩)
             refine ⟨_,_,w',r2,r1,?_,gI hG ht hte hS0 hfit (by rw [bY];exact m1)⟩
             simp only [AV.conc,r3,eG,Nat.sub_zero];rfl
            ·-- a new row
             have hRd:=hR.turn (b' := .dead) (s':={ s with heap:=Tr.set 64 s.heap id .dead }) hid rfl hb' rfl rfl hp (fun _ _=>rfl) rfl rfl rfl rfl trivial
             refine sL (ty:=ty) hG hRd ht hte hS (by omega) hb hm (fun d => ?_) hol hzero hn holc hvs
             have hrun:=run_loadCells_list (P:=P) { w with drawn:=d } ⟨p.1,0,none⟩ (cur.take (len*te.size)) (fun j x hx => ?_)
             ·rw [hol] at hrun;exact hrun
             rw [bY,Nat.zero_add]
             rw [List.getElem?_take] at hx
             split at hx
             ·have hj:j<cur.length:=(List.getElem?_eq_some_iff.1 hx).1
              simp only [World.cell?,k2]
              simp [List.getElem?_append_left hj,hx]
             ·cases hx
           ·cases h
         ·cases h
       ·cases h
      ·-- a row of known capacity
       rename_i id off len cp sk
       obtain ⟨p,hp,rfl⟩:=aT hX
       simp only [eG]
       cases cf:Nat.ble (Nat.add len n) cp with
       | true =>
        rw [cf] at h;simp only [cond_true] at h
        have hfit:len+n<=cp:=by simpa using cf
        split at h
        ·rename_i s1 hst;cases h
         obtain ⟨w',r1,r2,r3⟩:=kp hR hst hp hvs
         refine ⟨V,_,w',dM.refl V,r1,?_,gI hG ht hte hS0 hfit (by rw [bY];exact r2)⟩
         simp only [AV.conc,hp,eG];rfl
        ·cases h
       | false =>
        rw [cf] at h;simp only [cond_false] at h
        have hfit:¬(len+n<=cp):=by simpa using cf
        split at h
        ·rename_i old hold
         cases c3:Nat.ble (Nat.mul (Nat.mul 2 (Nat.add len n)) te.bytes) 281474976710656 with
         | false=>rw [c3] at h;cases h
         | true =>
          rw [c3] at h;simp only [cond_true] at h
          have hm:2*(len+n)*te.bytes<=281474976710656:=by simpa using c3
          split at h
          ·rename_i id' s1 hn;cases h
           obtain ⟨olds,f1,f2,_⟩:=eI hR hold hp
           refine sL (ty:=ty) hG hR ht hte hS (by omega) hb hm (fun d => ?_) f2 hzero hn f1 hvs
           obtain ⟨olds',f1',f2',f3'⟩:=il (P:=P) (size:=te.size) (n:=len) (len:=len) (cap:=cp) (hR.drew d) hold hp
           rw [f1] at f1';cases f1'
           exact f3'
          ·cases h
        ·cases h
      ·cases h
    ·cases h
   ·cases h
  ·cases h
 ·cases h
end
end
section
open Go.RowKit
section
variable {P:Program} {g:G} {V:az} {s s':S} {B w:World}
theorem DY (hG : cv P g) (hR : av P V s B w) {t : TypeId} {x y : AV} {X Y : Value} {n : Nat} {ats : List TypeId} {rest : List Value} (ty : TypeId) (h : DX g s t x y = some (n, s')) (hX : x.conc V = some X) (hY : y.conc V = some Y) :
  ∃w',av P V s' B w'/\(Builtin.copy_ ⟨t::ats⟩ ty ⟨X::Y::rest⟩).run P w = .ok (goInt n) w':=by
 unfold DX at h
 split at h
 ·rename_i ti hti
  have ht:=(hG.ty _ _ hti).desc
  split at h
  ·rename_i e hd
   rw [hd] at ht
   split at h
   ·rename_i te hte
    have hsz:=aB (w:=w) (hG.ty _ _ hte)
    split at h
    ·rename_i k l hsrc
     have src:∃vs,concL V l=some vs/\(Builtin.lenOf Y).run P w = .ok k w/\∀m,m<=k->∀us:List AV×List Value,concL V us.1=some us.2->us.1=l.take (m*te.size)->(Builtin.firstCells te.size m Y).run P w = .ok us.2.toArray w:=by
      unfold gt at hsrc
      split at hsrc
      ·cases hsrc
       simp only [AV.conc] at hY;cases hY
       refine ⟨[],rfl,rfl,fun m hm us hu he => ?_⟩
       obtain ⟨u1,u2⟩:=us
       simp at he;simp only at hu;rw [he] at hu;cases hu
       rfl
      ·rename_i id off len cp sk
       split at hsrc
       ·rename_i l0 hl;cases hsrc
        obtain ⟨p,hp,rfl⟩:=aT hY
        obtain ⟨vs,h1,h2,h3⟩:=eI hR hl hp
        refine ⟨vs,h1,rfl,fun m hm us hu he => ?_⟩
        obtain ⟨u1,u2⟩:=us
        simp only at hu he
        rw [he] at hu
        have:=fH h1 (m*te.size)
        rw [this] at hu;cases hu
        have hl2:(vs.take (m*te.size)).length=m*te.size:=by
         rw [List.length_take,h2];exact Nat.min_eq_left (Nat.mul_le_mul_right _ hm)
        have hrun:=run_loadCells_list (P:=P) w ⟨p.1,off,none⟩ (vs.take (m*te.size)) (fun j x hx => ?_)
        ·rw [hl2] at hrun;exact hrun
        ·rw [bY];rw [List.getElem?_take] at hx
         split at hx
         ·exact h3 j x hx
         ·cases hx
       ·cases hsrc
      ·rename_i bs
       cases c1:Nat.beq te.size 1 with
       | false=>rw [c1] at hsrc;cases hsrc
       | true=>
        rw [c1] at hsrc;cases hsrc
        have c1':te.size=1:=by simpa using c1
        simp only [AV.conc] at hY;cases hY
        have hs:(⟨bs.toArray⟩:ByteArray).size=bs.length:=by simp [ByteArray.size]
        refine ⟨_,ia V bs,by simp [Builtin.lenOf,hs,aO],fun m hm us hu he => ?_⟩
        obtain ⟨u1,u2⟩:=us
        simp only at hu he
        rw [he] at hu
        have:=fH (ia V bs) (m*te.size)
        rw [this] at hu;cases hu
        simp only [Builtin.firstCells,Sem.run_pure,c1',Nat.mul_one]
        congr 1
        apply Array.ext'
        simp [ByteArray.data_extract]
      ·cases hsrc
     obtain ⟨vs,h1,h2,h3⟩:=src
     split at h
     ·rename_i id off m cp sk
      obtain ⟨p,hp,rfl⟩:=aT hX
      simp only at h
      split at h
      ·rename_i us hus
       obtain ⟨o1,o2,o3⟩:=gL _ _ _ hus
       split at h
       ·rename_i s1 hst;cases h
        have hc:concL V us=some (vs.take (Nat.min k m*te.size)):=by rw [o1];exact fH h1 _
        obtain ⟨w',r1,r2,r3⟩:=kp hR hst hp hc
        refine ⟨w',r1,?_⟩
        have hf:=h3 (Nat.min k m) (Nat.min_le_left _ _) (us,vs.take (Nat.min k m*te.size)) hc o1
        simp only [Builtin.copy_,List.getElem?_toArray,List.getElem?_cons_zero,List.getElem?_cons_succ,Sem.run_bind,run_underlying ht,Result.andThen_ok,h2,hsz,hf,r2,Sem.run_pure]
       ·cases h
      ·cases h
     ·cases h
      simp only [AV.conc] at hX;cases hX
      refine ⟨w,hR,?_⟩
      have hf:=h3 0 (Nat.zero_le _) ([],[]) rfl (by simp)
      have hmin:Nat.min k 0=0:=Nat.min_zero k
      simp only [Builtin.copy_,List.getElem?_toArray,List.getElem?_cons_zero,List.getElem?_cons_succ,Sem.run_bind,run_underlying ht,Result.andThen_ok,h2,hsz,hmin,hf,Sem.run_pure]
     ·cases h
    ·cases h
   ·cases h
  ·cases h
 ·cases h
theorem Cn (hG:cv P g) (hR:av P V s B w) {t:TypeId} {x:AV} {X:Value} {ats:List TypeId} {rest:List Value} (ty:TypeId) (h:yl g s t x=some s') (hX:x.conc V=some X) :
  ∃w',av P V s' B w'/\(Builtin.clear_ ⟨t::ats⟩ ty ⟨X::rest⟩).run P w = .ok (.tuple #[]) w':=by
 unfold yl at h
 split at h
 ·rename_i ti hti
  have ht:=(hG.ty _ _ hti).desc
  split at h
  ·rename_i e hd;cases h
   rw [hd] at ht
   simp only [AV.conc] at hX;cases hX
   refine ⟨w,hR,?_⟩
   simp only [Builtin.clear_,List.getElem?_toArray,List.getElem?_cons_zero,Sem.run_bind,run_underlying ht,Result.andThen_ok,Sem.run_pure]
  ·rename_i e id off n c sk hd
   rw [hd] at ht
   obtain ⟨p,hp,rfl⟩:=aT hX
   split at h
   ·rename_i te hte
    split at h
    ·rename_i z hz
     cases n with
     | zero=>
      cases h
      refine ⟨w,hR,?_⟩
      simp only [Builtin.clear_,List.getElem?_toArray,List.getElem?_cons_zero,Sem.run_bind,run_underlying ht,Result.andThen_ok,Sem.run_pure]
     | succ n =>
      have hn:Nat.beq (n+1) 0=false:=rfl
      rw [hn] at h
      simp only [cond_false] at h
      cases c1:Nat.beq (bF z.cells) te.size with
      | false=>rw [c1] at h;cases h
      | true=>
       rw [c1] at h;simp only [cond_true] at h
       obtain ⟨i,zv,hi,hiz,his,hzc,hzl⟩:=ed hG hte hz
       obtain ⟨w',r1,r2,r3⟩:=kp hR h hp (iR hzl (n+1))
       refine ⟨w',r1,?_⟩
       simp only [Builtin.clear_,List.getElem?_toArray,List.getElem?_cons_zero,Sem.run_bind,run_underlying ht,Result.andThen_ok,Sem.run_pure,zeroValue,typeInfo,run_program,hi,hiz,gy,r2]
    ·cases h
   ·cases h
  ·cases h
 ·cases h
theorem xv {a b:Option Nat} (h:tt a b=true):a=b:=by
 cases a<;>cases b<;>simp [tt] at h<;>first | rfl | rw [h]
theorem Gx {a b:Fn} (h:IF a b=true):a=b:=by
 cases a<;>cases b<;>simp [IF] at h;rw [h]
theorem eqb_eq (x:AV):∀(y:AV),AV.eqb x y=true->x=y:=by
 induction x using AV.rec (motive_2:=fun l=>∀m,AV.eqbL l m=true->l=m) with
 | bool b=>intro y h;cases y<;>simp [AV.eqb] at h;rw [h]
 | bx c=>intro y h;cases y<;>simp [AV.eqb] at h;rw [BE.eqb_eq _ _ h]
 | sv i=>intro y h;cases y<;>simp [AV.eqb] at h;rw [h]
 | sl a o n c=>intro y h;cases y<;>simp [AV.eqb] at h;rw [h.1.1.1,IE.eqb_eq _ _ h.1.1.2,IE.eqb_eq _ _ h.1.2,IE.eqb_eq _ _ h.2]
 | pt a o=>intro y h;cases y<;>simp [AV.eqb] at h;rw [h.1,IE.eqb_eq _ _ h.2]
 | cl a o=>intro y h;cases y<;>simp [AV.eqb] at h;rw [h.1,IE.eqb_eq _ _ h.2]
 | rc a o=>intro y h;cases y<;>simp [AV.eqb] at h;rw [h.1,IE.eqb_eq _ _ h.2]
 | int k e=>intro y h;cases y<;>simp [AV.eqb] at h;rw [cF h.1,IE.eqb_eq _ _ h.2]
 | str l=>intro y h;cases y<;>simp [AV.eqb,iW] at h;rw [h]
 | ptr id off=>intro y h;cases y<;>simp [AV.eqb] at h;rw [h.1,h.2]
 | nilp=>intro y h;cases y<;>first | rfl | (simp [AV.eqb] at h)
 | slice id off len cap skip=>intro y h;cases y<;>simp [AV.eqb] at h;obtain ⟨⟨⟨⟨h1,h2⟩,h3⟩,h4⟩,h5⟩:=h;rw [h1,h2,h3,xv h4,h5]
 | nils=>intro y h;cases y<;>first | rfl | (simp [AV.eqb] at h)
 | map id=>intro y h;cases y<;>simp [AV.eqb] at h;rw [h]
 | nilm=>intro y h;cases y<;>first | rfl | (simp [AV.eqb] at h)
 | func fn f c ih1 ih2=>
  intro y h
  cases y<;>simp [AV.eqb] at h
  rw [Gx h.1.1,ih1 _ h.1.2,ih2 _ h.2]
 | yield id=>intro y h;cases y<;>simp [AV.eqb] at h;rw [h]
 | nilf=>intro y h;cases y<;>first | rfl | (simp [AV.eqb] at h)
 | nili=>intro y h;cases y<;>first | rfl | (simp [AV.eqb] at h)
 | agg l ih=>intro y h;cases y<;>simp [AV.eqb] at h;rw [ih _ h]
 | tup l ih=>intro y h;cases y<;>simp [AV.eqb] at h;rw [ih _ h]
 | opq i=>intro y h;cases y<;>simp [AV.eqb] at h;rw [h]
 | whole i=>intro y h;cases y<;>simp [AV.eqb] at h;rw [h]
 | nil=>rename_i m h;cases m<;>first | rfl | (simp [AV.eqbL,AV.eqb.eqbL] at h)
 | cons x xs ih1 ih2=>
  rename_i m h
  cases m with
  | nil=>simp [AV.eqbL,AV.eqb.eqbL] at h
  | cons y ys=>simp [AV.eqbL,AV.eqb.eqbL] at h;rw [ih1 _ h.1,ih2 _ h.2]
theorem qZ (n:Nat):∀{l:List AV} {vs:List Value},gO l=true->concL V l=some vs->(vs.zip vs).all (fun (x,y)=>Instr.sameBits n x y)=true:=by
 intro l
 induction l with
 | nil=>intro vs _ hc;cases hc;rfl
 | cons x xs ih =>
  intro vs h hc
  obtain ⟨v,r,rfl,hv,hr⟩:=ag hc
  cases x<;>simp [gO] at h
  ·simp only [AV.conc] at hv;cases hv
   have:=ih h hr
   simp only [List.zip_cons_cons,List.all_cons,this,Bool.and_true]
   simp [Instr.sameBits]
  ·obtain ⟨z,_,rfl⟩:=aC hv
   have:=ih h hr
   simp only [List.zip_cons_cons,List.all_cons,this,Bool.and_true]
   simp [Instr.sameBits]
  ·simp only [AV.conc] at hv;cases hv
   have:=ih h hr
   simp only [List.zip_cons_cons,List.all_cons,this,Bool.and_true]
   simp only [Instr.sameBits]
   rw [beq_toListBytes];simp
theorem mU (empty:Bool) (d:Nat) (t:TypeId) (xs:Array Value) (fields:Array Field) (ht:P.underlying t=some (.struct fields)) (w:World)
  (h:∀f∈fields.toList,∃x,(∀w,(part f.type xs f.offset).run P w = .ok x w)/\∀w,(Instr.checkKey empty d f.type x).run P w = .ok () w) :
  (Instr.checkKey empty (d+1) t (.agg xs)).run P w = .ok () w:=by
 simp only [Instr.checkKey,Sem.run_bind,run_underlying ht,Result.andThen_ok]
 rw [<-Array.forIn_toList]
 generalize fields.toList=fs at h
 clear ht
 induction fs with
 | nil=>simp
 | cons f fs ih =>
  obtain ⟨x,h1,h2⟩:=h f (by simp)
  have ih':=ih (fun f hf=>h f (by simp [hf]))
  simp only [List.forIn_cons,Sem.run_bind,Sem.run_ite] at ih' ⊢
  split
  ·simp only [h1,h2,Result.andThen_ok,Sem.run_pure]
   exact ih'
  ·simp only [Result.andThen_ok,Sem.run_pure]
   exact ih'
theorem jo (hG : cv P g) (empty : Bool) : ∀ (d : Nat) (t : TypeId) (k : AV) (K : Value), db g d t k = true -> k.conc V = some K -> ∀ d', d <= d' -> (∀ w, (Instr.checkKey empty d' t K).run P w = .ok () w) /\ Instr.sameBits d' K K = true := by
 intro d
 induction d with
 | zero=>intro t k K h;simp [db] at h
 | succ d ih =>
  intro t k K h hK d' hd
  obtain ⟨e,rfl⟩:∃e,d'=e+1:=⟨d'-1,by omega⟩
  simp only [db] at h
  split at h
  ·cases h
  ·rename_i ti hti
   have hT:=hG.ty t ti hti
   have hu:=hT.desc
   split at h
   ·rename_i b hd1;rw [hd1] at hu
    simp only [AV.conc] at hK;cases hK
    exact ⟨fun w=>by simp [Instr.checkKey,run_underlying hu],by simp [Instr.sameBits]⟩
   ·rename_i k0 k1 e1 hd1;rw [hd1] at hu
    obtain ⟨z,_,rfl⟩:=aC hK
    exact ⟨fun w=>by simp [Instr.checkKey,run_underlying hu],by simp [Instr.sameBits]⟩
   ·rename_i l hd1;rw [hd1] at hu
    simp only [AV.conc] at hK;cases hK
    refine ⟨fun w=>by simp [Instr.checkKey,run_underlying hu],?_⟩
    simp only [Instr.sameBits]
    rw [beq_toListBytes];simp
   ·rename_i fields xs hd1
    rw [hd1] at hu
    obtain ⟨vs,rfl,hvs⟩:=cg hK
    rw [Bool.and_eq_true] at h
    refine ⟨fun w=>mU empty e t _ fields hu w (fun f hf => ?_),?_⟩
    ·have key:∀(fs:List Field),mD (db g d) g xs fs=true->∀f∈fs,∃y,iw g f.type xs f.offset=some y/\db g d f.type y=true:=by
      intro fs
      induction fs with
      | nil=>intro _ f hf;cases hf
      | cons f0 fs ihf =>
       intro hk f hf
       simp only [mD,Bool.and_eq_true] at hk
       cases hf with
       | head=>
        have hk1:=hk.1
        split at hk1
        ·rename_i y hy;exact ⟨y,hy,hk1⟩
        ·cases hk1
       | tail _ hf=>exact ihf hk.2 f hf
     obtain ⟨y,hy1,hy2⟩:=key _ h.2 f hf
     obtain ⟨x,hx1,hx2⟩:=jb hG.ty hy1 hvs
     exact ⟨x,hx2,(ih f.type y x hy2 hx1 e (by omega)).1⟩
    ·simp only [Instr.sameBits,Bool.and_eq_true,beq_self_eq_true,true_and]
     exact qZ e h.1 hvs
   ·cases h
end
end
section
open Go.RowKit
section
variable {P:Program} {g:G} {V:az} {s s':S} {B w:World}
def vn (V:az):Option (Nat×AV)->Option (Nat×Value)->Prop
 | none,none=>True
 | some (i,v),some (j,x)=>i=j/\v.conc V=some x
 | _,_=>False
theorem tM {d:TypeDesc} {t:TypeId} {K K':Value} {b c:Bool} (hu:P.underlying t=some d) (h:Instr.sameNow d K K'=some c) (hr:∀w,(Op.equal t K K').run P w = .ok b w) (w:World):b=c:=by
 have:=hr w
 unfold Instr.sameNow at h
 split at h
 ·rename_i k0 k a k' a'
  split at h
  ·rename_i hk;subst hk;cases h
   simp only [Op.equal,Op.maxDepth] at this
   rw [run_equalIn_int w 9999 t _ _ _ _ hu] at this
   injection this with e _;exact e.symm
  ·cases h
 ·cases h
  simp only [Op.equal,Op.maxDepth] at this
  rw [run_equalIn_string w 9999 t _ _ hu] at this
  injection this with e _;rw [<-e,beq_toListBytes]
 ·cases h
  simp only [Op.equal,Op.maxDepth] at this
  rw [run_equalIn_bool w 9999 t _ _ hu] at this
  injection this with e _;exact e.symm
 ·cases h
theorem Ef (hG:cv P g) {Q:ew} (hQ:cx Q V.σ) {t:TypeId} {k:AV} {K:Value} (hK:k.conc V=some K):∀(es:List (AV×AV×Nat)) (ms:List MapEntry) (i:Nat) (r:Option (Nat×AV)),dP V es ms->qG g Q t k es i=some r->
  (∃r',vn V r r'/\∀w,(Instr.findAsking t K ms i).run P w = .ok r' w)/\∀d r',P.underlying t=some d->Instr.findNow d K ms i=some r'->vn V r r':=by
 intro es
 induction es with
 | nil =>
  intro ms i r hm h
  cases ms with
  | nil=>
   simp [qG] at h;subst h
   refine ⟨⟨none,trivial,fun w=>rfl⟩,fun d r' _ h => ?_⟩
   simp [Instr.findNow] at h;subst h;trivial
  | cons m ms=>exact hm.elim
 | cons e es ih =>
  intro ms i r hm h
  obtain ⟨k',v,b⟩:=e
  cases ms with
  | nil=>exact hm.elim
  | cons m ms =>
   obtain ⟨h1,h2,h3,h4⟩:=hm
   simp only [qG,H5] at h
   cases hq:vD g Q 100 t k k' with
   | none=>rw [hq] at h;cases h
   | some q =>
    have heq:∀w,(Op.equal t K m.key).run P w = .ok q w:=vE hG hQ 100 t k k' q K m.key hq hK h1 10000 (by omega)
    rw [hq] at h
    cases q with
    | true =>
     simp only [Option.some.injEq] at h;subst h
     refine ⟨⟨some (i,m.val),⟨rfl,h2⟩,fun w => ?_⟩,fun d r' hd hn => ?_⟩
     ·simp only [Instr.findAsking,Sem.run_bind,heq,Result.andThen_ok,if_true,Sem.run_pure]
     ·simp only [Instr.findNow] at hn
      cases hs:Instr.sameNow d K m.key with
      | none=>rw [hs] at hn;cases hn
      | some c=>
       have:=tM hd hs heq default
       subst this
       rw [hs] at hn;simp only [Option.some.injEq] at hn;subst hn
       exact ⟨rfl,h2⟩
    | false =>
     simp only at h
     obtain ⟨⟨r',k1,k2⟩,k3⟩:=ih ms (i+1) r h4 h
     refine ⟨⟨r',k1,fun w => ?_⟩,fun d r'' hd hn => ?_⟩
     ·simp only [Instr.findAsking,Sem.run_bind,heq,Result.andThen_ok,Bool.false_eq_true,if_false]
      exact k2 w
     ·simp only [Instr.findNow] at hn
      cases hs:Instr.sameNow d K m.key with
      | none=>rw [hs] at hn;cases hn
      | some c=>
       have:=tM hd hs heq default
       subst this
       rw [hs] at hn
       exact k3 d r'' hd hn
theorem fZ (hG:cv P g) {Q:ew} (hQ:cx Q V.σ) {t:TypeId} {d:TypeDesc} {k:AV} {K:Value} (hK:k.conc V=some K) (hu:P.underlying t=some d) {es:List (AV×AV×Nat)} {ms:List MapEntry} {r:Option (Nat×AV)} (hm:dP V es ms) (h:qG g Q t k es 0=some r) :
  ∃r',vn V r r'/\∀w,(Instr.findKey t K ms).run P w = .ok r' w:=by
 obtain ⟨⟨r',k1,k2⟩,k3⟩:=Ef hG hQ hK es ms 0 r hm h
 cases hn:Instr.findNow d K ms 0 with
 | some r''=>
  refine ⟨r'',k3 d r'' hu hn,fun w => ?_⟩
  simp only [Instr.findKey,Sem.run_bind,run_underlying hu,Result.andThen_ok,hn,Sem.run_pure]
 | none=>
  refine ⟨r',k1,fun w => ?_⟩
  simp only [Instr.findKey,Sem.run_bind,run_underlying hu,Result.andThen_ok,hn]
  exact k2 w
theorem dP.len {es:List (AV×AV×Nat)}:∀{ms:List MapEntry},dP V es ms->ms.length=es.length:=by
 induction es with
 | nil=>intro ms h;cases ms<;>first | rfl | exact h.elim
 | cons e es ih=>
  intro ms h
  cases ms with
  | nil=>exact h.elim
  | cons m ms=>obtain ⟨a,b,c⟩:=e;simp [ih h.2.2.2]
theorem dP.get {es:List (AV×AV×Nat)}:∀{ms:List MapEntry} {i:Nat} {e:AV×AV×Nat},dP V es ms->es[i]? = some e->∃m,ms[i]? = some m/\e.1.conc V=some m.key/\e.2.1.conc V=some m.val/\e.2.2=m.born:=by
 induction es with
 | nil=>intro ms i e _ h;simp at h
 | cons x es ih =>
  intro ms i e h he
  cases ms with
  | nil=>exact h.elim
  | cons m ms=>
   obtain ⟨a,b,c⟩:=x
   cases i with
   | zero=>simp at he;subst he;exact ⟨m,rfl,h.1,h.2.1,h.2.2.1⟩
   | succ i=>simp at he;obtain ⟨m',k⟩:=ih h.2.2.2 he;exact ⟨m',by simpa using k⟩
theorem dP.push {es:List (AV×AV×Nat)}:∀{ms:List MapEntry} {k v:AV} {b:Nat} {m:MapEntry},dP V es ms->k.conc V=some m.key->v.conc V=some m.val->b=m.born->dP V (es++[(k,v,b)]) (ms++[m]):=by
 induction es with
 | nil=>intro ms k v b m h h1 h2 h3;cases ms<;>first | exact ⟨h1,h2,h3,trivial⟩ | exact h.elim
 | cons x es ih=>
  intro ms k v b m h h1 h2 h3
  cases ms with
  | nil=>exact h.elim
  | cons y ms=>obtain ⟨p,q,r⟩:=x;exact ⟨h.1,h.2.1,h.2.2.1,ih h.2.2.2 h1 h2 h3⟩
theorem dP.upd {es:List (AV×AV×Nat)}:∀{ms:List MapEntry} {i:Nat} {k v:AV} {K X:Value},dP V es ms->k.conc V=some K->v.conc V=some X->dP V (xV es i k v) (ms.modify i fun e=>{ e with key:=K,val:=X }):=by
 induction es with
 | nil=>intro ms i k v K X h _ _;cases ms<;>first | (simp [xV,dP];done) | exact h.elim
 | cons x es ih =>
  intro ms i k v K X h h1 h2
  cases ms with
  | nil=>exact h.elim
  | cons m ms =>
   obtain ⟨p,q,r⟩:=x
   cases i with
   | zero=>simp only [xV,bt,decide_true,cond_true,List.modify_zero_cons];exact ⟨h1,h2,h.2.2.1,h.2.2.2⟩
   | succ i=>
    have e:xV ((p,q,r)::es) (i+1) k v=(p,q,r)::xV es i k v:=by simp [xV,show Nat.sub (i+1) 1=i from rfl]
    rw [e,List.modify_succ_cons]
    exact ⟨h.1,h.2.1,h.2.2.1,ih h.2.2.2 h1 h2⟩
theorem dP.del {es:List (AV×AV×Nat)}:∀{ms:List MapEntry} {i:Nat},dP V es ms->dP V (wJ es i) (ms.eraseIdx i):=by
 induction es with
 | nil=>intro ms i h;cases ms<;>first | (simp [wJ,dP];done) | exact h.elim
 | cons x es ih =>
  intro ms i h
  cases ms with
  | nil=>exact h.elim
  | cons m ms =>
   obtain ⟨p,q,r⟩:=x
   cases i with
   | zero=>simp only [wJ,bt,decide_true,cond_true,List.eraseIdx_cons_zero];exact h.2.2.2
   | succ i=>
    have e:wJ ((p,q,r)::es) (i+1)=(p,q,r)::wJ es i:=by simp [wJ,show Nat.sub (i+1) 1=i from rfl]
    rw [e,List.eraseIdx_cons_succ]
    exact ⟨h.1,h.2.1,h.2.2.1,ih h.2.2.2⟩
theorem dF {w:World} {r:Nat} {es:Array MapEntry} {c:Nat} (o:Obj) (hb:w.heap[r]? = some (.map es c)):(setObj r o).run P w = .ok () { w with heap:=w.heap.setIfInBounds r o }:=by
 simp [setObj,Sem.run,hb]
theorem ci {w:World} {r:Nat} {es:Array MapEntry} {c:Nat} (hb:w.heap[r]? = some (.map es c)):(getObj r).run P w = .ok (.map es c) w:=by
 simp [getObj,Sem.run,hb]
theorem tZ (hR:av P V s B w) {id:Nat} {es es':List (AV×AV×Nat)} {ms':List MapEntry} {c c':Nat} {p:Nat×Nat} (hid:id<eY) (hb:s.heap.get id=some (.map es c)) (hp:V.E id=some p) (hm:dP V es' ms') :
  av P V { s with heap:=Tr.set 64 s.heap id (.map es' c') } B { w with heap:=w.heap.setIfInBounds p.1 (.map ms'.toArray c') }:=by
 obtain ⟨q,hq,hB,_⟩:=hR.blk id _ hb
 rw [hp] at hq;cases hq
 obtain ⟨ms,_,k2⟩:=hB
 have hlt:p.1<w.heap.size:=(Array.getElem?_eq_some_iff.1 k2).1
 refine hR.turn (b' := .map es' c') hid rfl hb rfl rfl hp (fun k hk => ?_) (by simp) rfl rfl rfl ⟨ms',hm,?_⟩
 ·show (w.heap.setIfInBounds p.1 _)[k]? = _
  rw [Array.getElem?_setIfInBounds_ne (fun e=>hk e.symm)]
 ·show (w.heap.setIfInBounds p.1 _)[p.1]? = _
  simp [hlt]
theorem xg (hR:av P V s B w) {x:AV} {X:Value} {es:List (AV×AV×Nat)} (h:xf s x=some es) (hX:x.conc V=some X) :
  (X = .map none/\es=[])\/∃r ms c,X = .map (some r)/\dP V es ms/\w.heap[r]? = some (.map ms.toArray c):=by
 unfold xf at h
 split at h
 ·cases h;simp only [AV.conc] at hX;cases hX;exact .inl ⟨rfl,rfl⟩
 ·rename_i id
  split at h
  ·rename_i es' c hb;cases h
   obtain ⟨p,hp,rfl⟩:=ib hX
   obtain ⟨q,hq,hB,_⟩:=hR.blk id _ hb
   rw [hp] at hq;cases hq
   obtain ⟨ms,k1,k2⟩:=hB
   exact .inr ⟨p.1,ms,c,rfl,k1,k2⟩
  ·cases h
 ·cases h
end
end
section
open Go.RowKit
section
variable {P:Program} {g:G} {V:az} {s:S} {B w:World} {a:A} {A:Act}
def pB (P:Program) (B:World) (V:az) (A:Act) (o:Oper) (v:AV) (s':S) (w:World):Prop:=
 ∃V' x w',dM V V'/\av P V' s' B w'/\v.conc V'=some x/\((execOp A.eval o).run P w = .ok (.value x) w'\/((execOp A.eval o).run P w = .ok .skip w'/\x=undef))
def bI (P:Program) (g:G) (B:World) (V:az) (A:Act) (o:Oper) (w:World):uA->Prop
 | .val v s'=>pB P B V A o v s' w
 | .enter f args=>(∃fi,g.fn.get f=some fi)/\∃xs,concL V args=some xs/\(execOp A.eval o).run P w = .ok (.enter f xs.toArray) w
 | .yield l args=>∃p xs,V.E l=some p/\concL V args=some xs/\(execOp A.eval o).run P w=(Instr.yield p.1 xs.toArray).run P w
 | .err _=>True
theorem fB {o:Oper} {v:AV} {s':S} {m:Sem Value} (h:FD P B V v s' (fun w=>m.run P w) w) (he:execOp A.eval o=(do pure (Next.value (<-m)):Sem Next)):pB P B V A o v s' w:=by
 obtain ⟨V',x,w',h1,h2,h3,h4⟩:=h
 refine ⟨V',x,w',h1,h2,h3,.inl ?_⟩
 rw [he];simp only [Sem.run_bind,h4,Result.andThen_ok,Sem.run_pure]
theorem wb {o:Oper} {s':S} {m:Sem Unit} {w':World} (hR:av P V s' B w') (h:m.run P w = .ok () w') (he:execOp A.eval o=(do m;pure Next.skip:Sem Next)):pB P B V A o gx s' w:=by
 refine ⟨V,undef,w',dM.refl V,hR,rfl,.inr ⟨?_,rfl⟩⟩
 rw [he];simp only [Sem.run_bind,h,Result.andThen_ok,Sem.run_pure]
theorem qf {r:Option (Nat×S)} {f:Nat->AV} {n:Nat} {o:Oper} (h:∀id s',r=some (id,s')->pB P B V A o (f id) s' w):bI P g B V A o w (I2 r f n):=by
 cases r with
 | none=>trivial
 | some p=>exact h p.1 p.2 rfl
theorem I3 {r:Option AV} {n:Nat} {o:Oper} (h:∀v,r=some v->pB P B V A o v s w):bI P g B V A o w (Ki r s n):=by
 cases r with
 | none=>trivial
 | some p=>exact h p rfl
def iy (P:Program) (B:World) (V:az) (w:World) (m:Sem Next):uA->Prop
 | .val v s'=>∃V' x w',dM V V'/\av P V' s' B w'/\v.conc V'=some x/\m.run P w = .ok (.value x) w'
 | .err _=>True
 | _=>False
theorem iy.err (m:Sem Next) (n:Nat):iy P B V w m (.err n):=trivial
theorem iy.val {m:Sem Next} {v:AV} {s':S} (h:∃V' x w',dM V V'/\av P V' s' B w'/\v.conc V'=some x/\m.run P w = .ok (.value x) w'):iy P B V w m (.val v s'):=h
theorem wD (hG : cv P g) (hR : av P V s B w) {b : Builtin} {ats : Array TypeId} {args : List AV} {xs : List Value} (ty : TypeId) (cs : Array Bool) (hx : concL V args = some xs) :
  iy P B V w (builtin b ats ty cs xs.toArray) (om g s b ats args):=by
 obtain ⟨ats⟩:=ats
 unfold om
 split
 ·-- the length of a map
  rename_i t ts x r e1;cases e1
  obtain ⟨X,xr,rfl,hX,_⟩:=ag hx
  split
  ·rename_i ti hti
   have hu:=(hG.ty _ _ hti).desc
   split
   ·rename_i kt et es hd hm
    rw [hd] at hu
    refine iy.val ⟨V,_,w,dM.refl V,hR,rfl,?_⟩
    have e:(Builtin.len_ ⟨t::ts⟩ ty (X::xr).toArray).run P w = .ok (goInt es.length) w:=by
     rcases xg hR hm hX with ⟨rfl,rfl⟩ | ⟨r0,ms,c,rfl,k1,k2⟩
     ·simp [Builtin.len_,run_underlying hu]
     ·simp [Builtin.len_,run_underlying hu,ci k2,k1.len]
    show (do pure (Next.value (<-Builtin.len_ ⟨t::ts⟩ ty (X::xr).toArray)):Sem Next).run P w=_
    simp only [Sem.run_bind,e,Result.andThen_ok,Sem.run_pure,aO]
    rfl
   ·exact iy.err _ _
  ·exact iy.err _ _
 ·-- append
  rename_i t u x y e1;cases e1
  obtain ⟨X,xr,rfl,hX,hr⟩:=ag hx
  obtain ⟨Y,yr,rfl,hY,hr'⟩:=ag hr
  cases hr'
  have fin:∀{v:AV} {s':S},FD P B V v s' (fun w=>(Builtin.append_ #[t,u] ty #[X,Y]).run P w) w->∃V' x w',dM V V'/\av P V' s' B w'/\v.conc V'=some x/\(builtin .append ⟨[t,u]⟩ ty cs [X,Y].toArray).run P w = .ok (.value x) w':=by
   rintro v s' ⟨V',x,w',h1,h2,h3,h4⟩
   refine ⟨V',x,w',h1,h2,h3,?_⟩
   show (do pure (Next.value (<-Builtin.append_ #[t,u] ty #[X,Y])):Sem Next).run P w=_
   simp only [Sem.run_bind,h4,Result.andThen_ok,Sem.run_pure]
  split
  ·rename_i tu htu
   have hu:=(hG.ty _ _ htu).desc
   split
   ·rename_i k hd
    split
    ·rename_i v s' ha
     exact iy.val (fin (rS hG hR ty hu (by rw [hd]) ha hX hY))
    ·exact iy.err _ _
   ·rename_i hd
    split
    ·rename_i v s' ha
     refine iy.val (fin (rS hG hR ty hu ?_ ha hX hY))
     cases hdd:tu.desc<;>first | rfl | exact (hd _ hdd).elim
    ·exact iy.err _ _
  ·exact iy.err _ _
 ·-- copy
  rename_i t ts x y e1;cases e1
  obtain ⟨X,xr,rfl,hX,hr⟩:=ag hx
  obtain ⟨Y,yr,rfl,hY,hr'⟩:=ag hr
  cases hr'
  split
  ·rename_i n s' ha
   obtain ⟨w',h1,h2⟩:=DY (rest:=[]) (ats:=ts) hG hR ty ha hX hY
   refine iy.val ⟨V,_,w',dM.refl V,h1,rfl,?_⟩
   show (do pure (Next.value (<-Builtin.copy_ ⟨t::ts⟩ ty ⟨[X,Y]⟩)):Sem Next).run P w=_
   simp only [Sem.run_bind,h2,Result.andThen_ok,Sem.run_pure]
   rfl
  ·exact iy.err _ _
 ·-- clear
  rename_i t ts x e1;cases e1
  obtain ⟨X,xr,rfl,hX,hr⟩:=ag hx
  cases hr
  split
  ·rename_i s' ha
   obtain ⟨w',h1,h2⟩:=Cn (rest:=[]) (ats:=ts) hG hR ty ha hX
   refine iy.val ⟨V,_,w',dM.refl V,h1,rfl,?_⟩
   show (do pure (Next.value (<-Builtin.clear_ ⟨t::ts⟩ ty ⟨[X]⟩)):Sem Next).run P w=_
   simp only [Sem.run_bind,h2,Result.andThen_ok,Sem.run_pure]
  ·exact iy.err _ _
 ·-- delete
  rename_i t ts m k e1;cases e1
  obtain ⟨X,xr,rfl,hX,hr⟩:=ag hx
  obtain ⟨K,yr,rfl,hK,hr'⟩:=ag hr
  cases hr'
  split
  ·rename_i ti id hti
   have hu:=(hG.ty _ _ hti).desc
   obtain ⟨p,hp,rfl⟩:=ib hX
   split
   ·rename_i kt et es clock hd hb
    rw [hd] at hu
    cases c:(db g 100 kt k&&Nat.blt id eY) with
    | false=>exact iy.err _ _
    | true =>
     simp only [Bool.and_eq_true,qX,decide_eq_true_eq] at c
     obtain ⟨q,hq,hB,_⟩:=hR.blk id _ hb
     rw [hp] at hq;cases hq
     obtain ⟨ms,k1,k2⟩:=hB
     have hck:=(jo hG ms.toArray.isEmpty 100 kt k K c.1 hK 10000 (by omega)).1
     obtain ⟨tk,htk⟩:∃d,P.underlying kt=some d:=by
      have:=c.1
      unfold db at this
      split at this
      ·cases this
      ·rename_i tk htk;exact ⟨_,(hG.ty _ _ htk).desc⟩
     simp only [cond_true]
     split
     ·rename_i i v hf
      obtain ⟨r',f1,f2⟩:=fZ hG hR.know hK htk k1 hf
      cases r' with
      | none=>exact f1.elim
      | some r'=>
       obtain ⟨j,x⟩:=r'
       obtain ⟨rfl,hv⟩:=f1
       refine iy.val ⟨V,.tuple #[],_,dM.refl V,tZ (c':=clock) hR c.2 hb hp (k1.del (i:=i)),rfl,?_⟩
       show (do pure (Next.value (<-Builtin.delete_ ⟨t::ts⟩ ty #[.map (some p.1),K])):Sem Next).run P w=_
       simp only [Builtin.delete_,List.getElem?_toArray,List.getElem?_cons_zero,List.getElem?_cons_succ,Sem.run_bind,run_underlying hu,Result.andThen_ok,ci k2,hck,f2,dF _ k2,Sem.run_pure]
       congr 4
       simp
     ·rename_i hf
      obtain ⟨r',f1,f2⟩:=fZ hG hR.know hK htk k1 hf
      cases r' with
      | some r'=>exact f1.elim
      | none =>
       have hRs:av P V s B { w with heap:=w.heap.setIfInBounds p.1 (.map ms.toArray clock) }:=by
        have e:w.heap.setIfInBounds p.1 (.map ms.toArray clock)=w.heap:=by
         apply Array.ext_getElem?
         intro j
         by_cases hj:p.1=j
         ·subst hj
          have hlt:p.1<w.heap.size:=(Array.getElem?_eq_some_iff.1 k2).1
          rw [k2];simp [hlt]
         ·rw [Array.getElem?_setIfInBounds_ne hj]
        rw [e];exact hR
       refine iy.val ⟨V,.tuple #[],_,dM.refl V,hRs,rfl,?_⟩
       show (do pure (Next.value (<-Builtin.delete_ ⟨t::ts⟩ ty #[.map (some p.1),K])):Sem Next).run P w=_
       simp only [Builtin.delete_,List.getElem?_toArray,List.getElem?_cons_zero,List.getElem?_cons_succ,Sem.run_bind,run_underlying hu,Result.andThen_ok,ci k2,hck,f2,dF _ k2,Sem.run_pure]
     ·exact iy.err _ _
   ·exact iy.err _ _
  ·exact iy.err _ _
 ·exact iy.err _ _
theorem Cm {l:List AV} {bs:List UInt8}:∀{vs:List Value},rW l=some bs->concL V l=some vs->∃ns:List Int,vs=ns.map (fun n => .int .u8 n)/\bs=ns.map (fun n=>UInt8.ofNat n.toNat):=by
 induction l generalizing bs with
 | nil=>intro vs h hc;simp [rW] at h;subst h;cases hc;exact ⟨[],rfl,rfl⟩
 | cons x xs ih =>
  intro vs h hc
  obtain ⟨v,r,rfl,hv,hr⟩:=ag hc
  unfold rW at h
  split at h
  ·rename_i h0;cases h0
  ·rename_i n l0 e0;cases e0
   split at h
   ·rename_i r0 hr0;cases h
    obtain ⟨ns,e1,e2⟩:=ih hr0 hr
    simp only [AV.conc] at hv;cases hv
    exact ⟨n::ns,by simp [e1,IE.val],by simp [e2]⟩
   ·cases h
  ·cases h
end
end
section
open Go.RowKit
section
variable {P:Program} {g:G} {V:az} {s:S} {B w:World} {a:A} {A:Act}
theorem uK (ns:List Int):∀(acc:ByteArray),ns.foldl (fun r n=>r.push (UInt8.ofNat n.toNat)) acc=⟨acc.data++(ns.map fun n=>UInt8.ofNat n.toNat).toArray⟩:=by
 induction ns with
 | nil=>intro acc;simp
 | cons n ns ih=>
  intro acc
  rw [List.foldl_cons,ih]
  apply ByteArray.ext
  apply Array.ext'
  simp [ByteArray.push]
theorem bI.err {o:Oper} (n:Nat):bI P g B V A o w (.err n):=trivial
theorem bI.val {o:Oper} {v:AV} {s':S} (h:pB P B V A o v s' w):bI P g B V A o w (.val v s'):=h
theorem De (hG : cv P g) (hR : av P V s B w) (hA : aN V a A) {t : TypeId} {x v : AV} {X : Value} {lo hi mx : Option Operand} (h : zB g a s t x lo hi mx = some v) (hX : x.conc V = some X) :
  ∃R,v.conc V=some R/\(Instr.sliceAt t X (lo.map A.eval) (hi.map A.eval) (mx.map A.eval)).run P w = .ok R w:=by
 unfold zB at h
 cases mx with
 | some m=>cases h
 | none =>
  simp only at h
  split at h
  ·cases h
  ·rename_i ti hti
   have hu:=(hG.ty _ _ hti).desc
   split at h
   ·rename_i e id off len skip hd
    rw [hd] at hu
    obtain ⟨p,hp,rfl⟩:=aT hX
    split at h
    ·rename_i i j te l e' h1 h2 hte hb
     cases c:(Nat.beq e e'&&Nat.ble i j&&Nat.ble (Nat.mul (Nat.add skip j) te.size) (bF l) && !Nat.beq te.size 0&&(Nat.beq i 0||Nat.blt (Nat.mul (Nat.add skip i) te.size) (bF l))) with
     | false=>rw [c] at h;cases h
     | true =>
      rw [c] at h;simp only [cond_true] at h;cases h
      rw [aO] at c
      simp only [bt,nO,qX,Bool.and_eq_true,Bool.or_eq_true,decide_eq_true_eq,Bool.not_eq_true',decide_eq_false_iff_not] at c
      obtain ⟨⟨⟨⟨ce,c1⟩,c2⟩,c3⟩,c4⟩:=c
      have c2':(skip+j)*te.size<=l.length:=c2
      subst ce
      obtain ⟨q,hq,hB,_⟩:=hR.blk id _ hb
      rw [hp] at hq;cases hq
      obtain ⟨cur,rest,fz,k1,k2,k3,k4⟩:=hB
      have hl:=aW k1
      obtain ⟨ie,hie,his,_⟩:=(hG.ty _ _ hte).info
      have hcap:=k4 ie hie
      rw [his] at hcap
      replace hcap:=hcap.1
      have hsz:0<te.size:=Nat.pos_of_ne_zero c3
      have hj:skip+j<=p.2:=by
       refine Nat.le_of_mul_le_mul_right (c:=te.size) ?_ hsz
       rw [<-hcap];omega
      have hjc:j<=p.2-skip:=by omega
      refine ⟨.slice (some (if i=0 then ⟨p.1,off,none⟩ else (⟨p.1,off,none⟩:Addr).add (i*te.size))) (j-i) (p.2-skip-i),?_,?_⟩
      ·simp only [AV.conc,hp,eG,bt]
       have e1:p.2-Nat.add skip i=p.2-skip-i:=by show p.2-(skip+i)=_;omega
       rw [e1]
       by_cases hi0:i=0
       ·subst hi0;simp
       ·simp only [hi0,decide_false,cond_false,if_false]
        rw [bY]
        rfl
      ·simp only [Instr.sliceAt,Sem.run_bind,run_underlying hu,Result.andThen_ok,Instr.slice,Option.map_none,eG]
       rw [eK hA hR.globOk true h1 h2 c1 hjc w]
       simp only [Result.andThen_ok,aB (hG.ty _ _ hte),Sem.run_pure,Option.map_some]
       by_cases hi0:i=0
       ·subst hi0
        have e2:(⟨p.1,off,none⟩:Addr).add (0*te.size)=⟨p.1,off,none⟩:=by rw [bY];simp
        rw [e2]
        by_cases h0:p.2-skip=0<;>simp [h0]
       ·have hlt:skip+i<p.2:=by
         rcases c4 with c4 | c4
         ·exact absurd c4 hi0
         ·have c4':(skip+i)*te.size<l.length:=c4
          refine Nat.lt_of_mul_lt_mul_right (a:=te.size) ?_
          rw [<-hcap];omega
        have hne:¬(p.2-skip=i):=by omega
        simp [hi0,hne]
    ·cases h
   ·cases h
theorem kn (hA:aN V a A) (hg:jC V s) {lo:Option Operand} {hi mx:Operand} {len cap i j m:Nat} (h1:cd a s lo 0=some i) (h2:cd a s (some hi) 0=some j) (h3:cd a s (some mx) 0=some m) (hij:i<=j) (hjm:j<=m) (hmc:m<=cap) (w:World) :
  (Instr.sliceBounds true len cap (lo.map A.eval) (some (A.eval hi)) (some (A.eval mx))).run P w = .ok (i,j,m) w:=by
 have sb:∀{n m:Nat} {k:IntKind} (h:n<=m) (code:BoundsCode) (w:World),(Instr.sliceBound (.int k n) m code).run P w = .ok n w:=fun h c w=>gr h c w
 obtain ⟨x2,k2,e2,hx2⟩:=(iV hA hg h2).resolve_left (fun h=>by cases h.1)
 obtain ⟨x3,k3,e3,hx3⟩:=(iV hA hg h3).resolve_left (fun h=>by cases h.1)
 cases e2;cases e3
 rcases iV hA hg h1 with ⟨rfl,rfl⟩ | ⟨y,k',rfl,hy⟩
 ·simp only [Instr.sliceBounds,Option.map_none,hx2,hx3,Sem.run_bind,Sem.run_pure,Result.andThen_ok,sb hjm,sb hmc]
 ·simp only [Instr.sliceBounds,Option.map_some,Option.isSome_some,if_true,hx2,hx3,hy,Sem.run_bind,Sem.run_pure,Result.andThen_ok,sb hij,sb hjm,sb hmc]
theorem DR (hG:cv P g) (hR:av P V s B w) {id:Nat} {e:TypeId} {te:TI} {cap:Option Nat} {skip m:Nat} {p:Nat×Nat} (hte:g.ty.get e=some te) (hp:V.E id=some p) (h:Av s id e te cap skip m=true):m<=eG cap p.2 skip:=by
 unfold Av at h
 split at h
 ·rename_i c;simpa [eG] using h
 ·split at h
  ·rename_i l e' hb
   rw [aO] at h
   simp only [bt,nO,Bool.and_eq_true,decide_eq_true_eq,Bool.not_eq_true',decide_eq_false_iff_not] at h
   obtain ⟨⟨ce,c2⟩,c3⟩:=h
   have c2':(skip+m)*te.size<=l.length:=c2
   subst ce
   obtain ⟨q,hq,hB,_⟩:=hR.blk id _ hb
   rw [hp] at hq;cases hq
   obtain ⟨cur,rest,fz,k1,k2,k3,k4⟩:=hB
   have hl:=aW k1
   obtain ⟨ie,hie,his,_⟩:=(hG.ty _ _ hte).info
   have hcap:=k4 ie hie
   rw [his] at hcap
   replace hcap:=hcap.1
   have hj:skip+m<=p.2:=by
    refine Nat.le_of_mul_le_mul_right (c:=te.size) ?_ (Nat.pos_of_ne_zero c3)
    rw [<-hcap];omega
   simp only [eG];omega
  ·cases h
theorem zz (hG:cv P g) (hR:av P V s B w) (hA:aN V a A) {t:TypeId} {x v:AV} {X:Value} {lo:Option Operand} {hi mx:Operand} (h:wc g a s t x lo hi mx=some v) (hX:x.conc V=some X) :
  ∃R,v.conc V=some R/\(Instr.sliceAt t X (lo.map A.eval) (some (A.eval hi)) (some (A.eval mx))).run P w = .ok R w:=by
 unfold wc at h
 split at h
 ·cases h
 ·rename_i ti hti
  have hu:=(hG.ty _ _ hti).desc
  split at h
  ·rename_i e id off len cap skip hd
   rw [hd] at hu
   obtain ⟨p,hp,rfl⟩:=aT hX
   split at h
   ·rename_i i j m te h1 h2 h3 hte
    cases c:(Nat.ble i j&&Nat.ble j m&&Av s id e te cap skip m) with
    | false=>rw [c] at h;cases h
    | true =>
     rw [c] at h;simp only [cond_true] at h;cases h
     simp only [nO,Bool.and_eq_true,decide_eq_true_eq] at c
     obtain ⟨⟨c1,c2⟩,c3⟩:=c
     have hc:=DR hG hR hte hp c3
     refine ⟨.slice (some (if m=i then ⟨p.1,off,none⟩ else (⟨p.1,off,none⟩:Addr).add (i*te.size))) (j-i) (m-i),?_,?_⟩
     ·simp only [AV.conc,hp,eG,bt]
      by_cases hi0:m=i
      ·subst hi0;simp
      ·simp only [hi0,decide_false,cond_false,if_false]
       rw [bY]
       rfl
     ·simp only [Instr.sliceAt,Sem.run_bind,run_underlying hu,Result.andThen_ok,Instr.slice]
      rw [kn hA hR.globOk h1 h2 h3 c1 c2 hc w]
      simp only [Result.andThen_ok,aB (hG.ty _ _ hte),Sem.run_pure,Option.map_some]
      congr 2
      split<;>rfl
   ·cases h
  ·rename_i e hd
   rw [hd] at hu
   simp only [AV.conc] at hX;cases hX
   split at h
   ·rename_i i j m te h1 h2 h3 hte
    cases c:(Nat.beq i 0&&Nat.beq j 0&&Nat.beq m 0) with
    | false=>rw [c] at h;cases h
    | true=>
     rw [c] at h;simp only [cond_true] at h;cases h
     simp only [bt,Bool.and_eq_true,decide_eq_true_eq] at c
     obtain ⟨⟨rfl,rfl⟩,rfl⟩:=c
     refine ⟨.slice none 0 0,rfl,?_⟩
     simp only [Instr.sliceAt,Sem.run_bind,run_underlying hu,Result.andThen_ok,Instr.slice]
     rw [kn hA hR.globOk h1 h2 h3 (Nat.le_refl _) (Nat.le_refl _) (Nat.le_refl _) w]
     simp only [Result.andThen_ok,aB (hG.ty _ _ hte),Sem.run_pure,if_true]
   ·cases h
  ·cases h
theorem Df (hG:cv P g) (hR:av P V s B w) (hA:aN V a A) {t:TypeId} {x v:AV} {X:Value} {lo hi mx:Option Operand} (h:zC g a s t x lo hi mx=some v) (hX:x.conc V=some X) :
  ∃R,v.conc V=some R/\(Instr.sliceAt t X (lo.map A.eval) (hi.map A.eval) (mx.map A.eval)).run P w = .ok R w:=by
 unfold zC at h
 split at h
 ·exact zz hG hR hA h hX
 ·exact De hG hR hA h hX
theorem sF (W:World) (c:Array Value) (e:TypeId) (n:Nat):(W.alloc (.cells c e)).freeze ⟨W.heap.size,n,none⟩ 1=W.alloc (.cells c e (n,n+1)):=by
 have hpm:∀(h:Array Obj) (x:Obj) (f:Obj->Obj),(h.push x).modify h.size f=h.push (f x):=by
  intro h x f
  apply Array.ext_getElem?
  intro j
  rw [Array.getElem?_modify,Array.getElem?_push,Array.getElem?_push]
  by_cases hj:j=h.size
  ·subst hj;simp
  ·simp [hj];intro e;exact absurd e.symm hj
 have h1:(W.alloc (.cells c e)).freeze ⟨W.heap.size,n,none⟩ 1={ W with heap:=(W.heap.push (.cells c e)).modify W.heap.size fun
   | .cells c elem (lo,hi) => .cells c elem (if lo==hi then (n,n+1) else (min lo n,max hi (n+1)))
   | o=>o }:=rfl
 rw [h1,hpm]
 rfl
theorem uU (hG : cv P g) (hR : av P V s B w) (hA : aN V a A) {t : TypeId} {m k x : Operand} (o : Oper) (he : execOp A.eval o = (do Instr.mapUpdate t (A.eval m) (A.eval k) (A.eval x); pure Next.skip : Sem Next)) :
  bI P g B V A o w (rr g a s t m k x):=by
 have hg:=hR.globOk
 unfold rr
 split
 ·rename_i id K v ti hm hk hx hti
  have hu:=(hG.ty _ _ hti).desc
  obtain ⟨p,hp,eM⟩:=ib (au hA hg hm)
  have hK:=au hA hg hk
  have hX:=au hA hg hx
  split
  ·rename_i kt et es clock hd hb
   rw [hd] at hu
   cases c:(db g 100 kt K&&Nat.blt id eY) with
   | false=>exact bI.err _
   | true =>
    simp only [cond_true]
    simp only [Bool.and_eq_true,qX,decide_eq_true_eq] at c
    obtain ⟨q,hq,hB,_⟩:=hR.blk id _ hb
    rw [hp] at hq;cases hq
    obtain ⟨ms,k1,k2⟩:=hB
    obtain ⟨hck,hsb⟩:=jo hG false 100 kt K _ c.1 hK 10000 (by omega)
    obtain ⟨tk,htk⟩:∃d,P.underlying kt=some d:=by
     have:=c.1
     unfold db at this
     split at this
     ·cases this
     ·rename_i tk htk;exact ⟨_,(hG.ty _ _ htk).desc⟩
    split
    ·rename_i i v0 hf
     obtain ⟨r',f1,f2⟩:=fZ hG hR.know hK htk k1 hf
     cases r' with
     | none=>exact f1.elim
     | some r' =>
      obtain ⟨j,X0⟩:=r'
      obtain ⟨rfl,hv0⟩:=f1
      split
      ·rename_i k' v1 b1 hget
       rw [cJ] at hget
       cases ck:AV.eqb k' K with
       | false=>exact bI.err _
       | true =>
        simp only [cond_true]
        have hkk:=eqb_eq _ _ ck
        subst hkk
        obtain ⟨me,g1,g2,g3,g4⟩:=k1.get hget
        simp only at g2
        have hkey:me.key=A.eval k:=by rw [hK] at g2;exact (Option.some.inj g2).symm
        have hkt:(Instr.keyThatStays (((ms.toArray[i]?).map (·.key)).getD (A.eval k)) (A.eval k)).run P w = .ok (A.eval k) w:=by
         have:((ms.toArray[i]?).map (·.key)).getD (A.eval k)=A.eval k:=by
          simp [g1,hkey]
         rw [this]
         simp only [Instr.keyThatStays,hsb,if_true,Sem.run_pure]
        refine bI.val (wb (m:=Instr.mapUpdate t (A.eval m) (A.eval k) (A.eval x)) (tZ (c':=clock) hR c.2 hb hp (k1.upd (i:=i) hK hX)) ?_ he)
        simp only [Instr.mapUpdate,Sem.run_bind,run_underlying hu,Result.andThen_ok,eM,ci k2,hck,f2,hkt,dF _ k2]
        congr 4
        simp
      ·exact bI.err _
    ·rename_i hf
     obtain ⟨r',f1,f2⟩:=fZ hG hR.know hK htk k1 hf
     cases r' with
     | some r'=>exact f1.elim
     | none=>
      refine bI.val (wb (m:=Instr.mapUpdate t (A.eval m) (A.eval k) (A.eval x)) (tZ (c':=clock+1) hR c.2 hb hp (k1.push (k:=K) (v:=v) (b:=clock) (m:=⟨A.eval k,A.eval x,clock⟩) hK hX rfl)) ?_ he)
      simp only [Instr.mapUpdate,Sem.run_bind,run_underlying hu,Result.andThen_ok,eM,ci k2,hck,f2,dF _ k2]
      congr 4
      simp
    ·exact bI.err _
  ·exact bI.err _
 ·exact bI.err _
set_option maxHeartbeats 4000000 in
theorem ES (hG : cv P g) (hR : av P V s B w) (hA : aN V a A) (o : Oper) : bI P g B V A o w (I1 g a s o) := by
 have hg:=hR.globOk
 unfold I1
 split
 ·rename_i v hv
  obtain ⟨x,h1,h2⟩:=xD hG hR.know hA hg hv
  exact bI.val ⟨V,x,w,dM.refl V,hR,h1,.inl (h2 w)⟩
 ·rename_i hnone; clear hnone
  obtain ⟨dst,op,type,pos,after,guard⟩:=o
  unfold H4
  simp only
  split
  ·-- alloc
   rename_i t
   unfold Ej
   split
   ·rename_i ti hti
    split
    ·rename_i z hz
     refine qf (fun id s' hn => ?_)
     obtain ⟨i,zv,hi,hiz,his,hzc,hzl⟩:=ed hG hti hz
     obtain ⟨V',k1,k2,k3⟩:=mK hR hn hzl
     refine fB (m:=Instr.alloc t true (.tuple #[])) ⟨V',.pointer (some ⟨w.heap.size,0,none⟩),_,k1,k2,by simp only [AV.conc,k3],?_⟩ rfl
     simp only [Instr.alloc,Sem.run_bind,zeroValue,typeInfo,run_program,hi,Result.andThen_ok,Sem.run_pure,hiz,newVar,cY]
    ·exact bI.err _
   ·exact bI.err _
  ·-- box
   rename_i t x
   unfold JF
   split
   ·rename_i v hv
    cases c:bQ v.cells with
    | false=>exact bI.err _
    | true=>
     refine qf (fun id s' hn => ?_)
     have hvc:=cC (au hA hg hv)
     obtain ⟨V',k1,k2,k3⟩:=mK hR hn hvc
     refine fB (m:=Instr.box t (A.eval x)) ⟨V',.pointer (some ⟨w.heap.size,0,none⟩),_,k1,k2,by simp only [AV.conc,k3],?_⟩ rfl
     simp only [Instr.box,Sem.run_bind,newVar,cY,Result.andThen_ok,Sem.run_pure]
   ·exact bI.err _
  ·-- buildSlice
   rename_i t len parts
   unfold qJ
   split
   ·rename_i ti ps hti hps
    have hu:=(hG.ty _ _ hti).desc
    split
    ·rename_i e hd
     rw [hd] at hu
     split
     ·rename_i te hte
      split
      ·rename_i z hz
       cases c:(Nat.beq (bF z.cells) te.size&&Nat.ble (Nat.mul len te.size) 16777216 && !Nat.beq te.size 0) with
       | false=>exact bI.err _
       | true =>
        simp only [cond_true]
        rw [aO] at c
        simp only [bt,nO,Bool.and_eq_true,decide_eq_true_eq,Bool.not_eq_true',decide_eq_false_iff_not] at c
        obtain ⟨⟨c1,c2⟩,c3⟩:=c
        have c2':len*te.size<=16777216:=c2
        split
        ·rename_i cs hf
         refine qf (fun id s' hn => ?_)
         obtain ⟨i,zv,hi,hiz,his,hzc,hzl⟩:=ed hG hte hz
         have hzs:zv.cells.size=te.size:=by rw [<-Array.length_toList,aW hzl,c1]
         obtain ⟨us,f1,f2⟩:=vL hf (iR hzl len) (sx hA hg hps)
         obtain ⟨V',k1,k2,k3⟩:=mK hR hn f2
         refine fB (m:=Instr.buildSlice t len (parts.map fun (i,x)=>(i,A.eval x))) ⟨V',.slice (some ⟨w.heap.size,0,none⟩) len len,_,k1,k2,by simp only [AV.conc,k3,eG],?_⟩ rfl
         have hbig:¬(len*te.size > 2 ^ 24):=by
          have e24:(2:Nat) ^ 24=16777216:=by decide
          rw [e24];omega
         have hfill:Instr.fill (fun i=>some (i*te.size,te.size)) ((Array.range (len*te.size)).map (fun i=>zv.cells[i % zv.cells.size]!)) (parts.map fun (i,x)=>(i,A.eval x)).toList=some us.toArray:=by
          have:=pw zv.cells len
          rw [hzs] at this ⊢
          rw [this,Array.toList_map]
          exact f1
         by_cases h0:len*te.size=0
         ·have hfill':Instr.fill (fun i=>some (i*te.size,te.size)) ((Array.range (len*te.size)).map (fun i=>(#[]:Array Value)[i % (#[]:Array Value).size]!)) (parts.map fun (i,x)=>(i,A.eval x)).toList=some us.toArray:=by
           rw [<-hfill];congr 1;rw [h0];simp
          simp only [Instr.buildSlice,Sem.run_bind,run_underlying hu,Result.andThen_ok,aB (hG.ty _ _ hte),Sem.run_ite,if_neg hbig,if_pos h0,Sem.run_pure,hfill',cY]
         ·simp only [Instr.buildSlice,Sem.run_bind,run_underlying hu,Result.andThen_ok,aB (hG.ty _ _ hte),Sem.run_ite,if_neg hbig,if_neg h0,Sem.run_pure,zeroValue,typeInfo,run_program,hi,hiz,hfill,cY]
        ·exact bI.err _
      ·exact bI.err _
     ·exact bI.err _
    ·exact bI.err _
   ·exact bI.err _
  ·-- load
   rename_i t x
   unfold H3
   split
   ·rename_i id off hx
    refine I3 (fun v hv => ?_)
    obtain ⟨p,hp,e⟩:=dT (au hA hg hx)
    obtain ⟨X,h1,h2⟩:=ve hG hR hv hp
    refine fB (m:=Instr.loadAt t (A.eval x)) ⟨V,X,w,dM.refl V,hR,h1,?_⟩ rfl
    simp only [Instr.loadAt,Sem.run_bind,e,Instr.sureAddr,Sem.run_pure,Result.andThen_ok,h2]
   ·exact bI.err _
  ·-- store
   rename_i t x y
   unfold Em
   split
   ·rename_i id off v ti hx hy hti
    cases c:Nat.beq (bF v.cells) ti.size with
    | false=>exact bI.err _
    | true =>
     simp only [cond_true]
     rw [aO] at c
     have c':v.cells.length=ti.size:=by simpa using c
     split
     ·rename_i s' hst
      obtain ⟨p,hp,e⟩:=dT (au hA hg hx)
      have hvc:=cC (au hA hg hy)
      obtain ⟨w',r1,r2,_⟩:=kp hR hst hp hvc
      refine bI.val (wb (m:=Instr.storeAt t (A.eval x) (A.eval y)) r1 ?_ rfl)
      have hsz:¬((A.eval y).cells.size≠ti.size):=by
       have:=aW hvc
       rw [Array.length_toList] at this
       rw [this,c'];simp
      simp only [Instr.storeAt,Sem.run_bind,e,Instr.sureAddr,Sem.run_pure,Result.andThen_ok,storeVar,aB (hG.ty _ _ hti),if_neg hsz,r2]
     ·exact bI.err _
   ·exact bI.err _
  ·-- makeMap
   rename_i t
   refine qf (fun id s' hn => ?_)
   obtain ⟨h1,h2,h3⟩:=hR.new (cap:=0) (lc:=none) (o := .map #[] 0) hn rfl (.inl rfl) ⟨[],trivial,rfl⟩
   refine fB (m:=Instr.makeMap t none) ⟨_,.map (some w.heap.size),_,h2,h1,by simp only [AV.conc,h3],?_⟩ rfl
   simp only [Instr.makeMap,Sem.run_bind,Sem.run_pure,Result.andThen_ok]
   rfl
  ·-- makeSlice
   rename_i t l c
   unfold sO
   split
   ·rename_i L C ti hl hc hti
    have hu:=(hG.ty _ _ hti).desc
    split
    ·rename_i l' c' e hl' hc' hd
     rw [hd] at hu
     obtain ⟨k1,e1⟩:=kb hl' (au hA hg hl)
     obtain ⟨k2,e2⟩:=kb hc' (au hA hg hc)
     split
     ·rename_i te hte
      split
      ·rename_i z hz
       cases cc:(Nat.beq (bF z.cells) te.size && !Nat.beq te.size 0&&Nat.ble l' c'&&Nat.ble c' 1000000&&Nat.ble te.bytes 1000000) with
       | false=>exact bI.err _
       | true =>
        simp only [cond_true]
        rw [aO] at cc
        simp only [bt,nO,Bool.and_eq_true,decide_eq_true_eq,Bool.not_eq_true',decide_eq_false_iff_not] at cc
        obtain ⟨⟨⟨⟨d1,d2⟩,d3⟩,d4⟩,d5⟩:=cc
        refine qf (fun id s' hn => ?_)
        obtain ⟨i,zv,hi,hiz,his,hzc,hzl⟩:=ed hG hte hz
        have hzs:zv.cells.size=te.size:=by rw [<-Array.length_toList,aW hzl,d1]
        obtain ⟨V',m1,m2,m3⟩:=mK hR hn (iR hzl c')
        refine fB (m:=Instr.makeSlice t (A.eval l) (A.eval c)) ⟨V',.slice (some ⟨w.heap.size,0,none⟩) l' c',_,m1,m2,by simp only [AV.conc,m3,eG],?_⟩ rfl
        have w1:IntKind.i64.wrap (l':Int)=l':=mh (by omega)
        have w2:IntKind.i64.wrap (c':Int)=c':=mh (by omega)
        obtain ⟨ie,hie,_,hib,_⟩:=(hG.ty _ _ hte).info
        have hie':i=ie:=by rw [hi] at hie;cases hie;rfl
        subst hie'
        have hcond:¬(((decide ((c':Int)<0)||decide ((i.bytes:Int)*(c':Int) > 2 ^ 48))||decide ((l':Int)<0)||decide ((l':Int) > (c':Int)))=true):=by
         have hb:i.bytes*c'<=1000000*1000000:=Nat.mul_le_mul (by rw [hib];exact d5) d4
         have e48:(2:Int) ^ 48=281474976710656:=by decide
         rw [e48]
         have:((i.bytes*c':Nat):Int)<=1000000000000:=by omega
         simp only [Int.natCast_mul] at this
         simp only [Bool.or_eq_true,decide_eq_true_eq]
         omega
        have hz2:=pw zv.cells c'
        rw [hzs] at hz2
        by_cases h0:c'*te.size=0
        ·have hz3:((Array.range (c'*te.size)).map (fun i=>(#[]:Array Value)[i % (#[]:Array Value).size]!))=(cP c' zv.cells.toList).toArray:=by
          rw [<-hz2,h0];simp
         simp only [Instr.makeSlice,Sem.run_bind,run_underlying hu,Result.andThen_ok,e1,e2,asInt,asIntOf,Sem.run_pure,typeInfo,run_program,hi,w1,w2,Sem.run_ite,if_neg hcond,run_askRoom,Int.toNat_natCast,aB (hG.ty _ _ hte),if_pos h0,hz3,cY]
        ·simp only [Instr.makeSlice,Sem.run_bind,run_underlying hu,Result.andThen_ok,e1,e2,asInt,asIntOf,Sem.run_pure,typeInfo,run_program,hi,w1,w2,Sem.run_ite,if_neg hcond,run_askRoom,Int.toNat_natCast,aB (hG.ty _ _ hte),if_neg h0,zeroValue,hiz,hzs,hz2,cY]
      ·exact bI.err _
     ·exact bI.err _
    ·exact bI.err _
   ·exact bI.err _
  ·-- lookup
   rename_i t x k ok
   unfold AZ
   split
   ·rename_i m k' ti hx hk hti
    have hu:=(hG.ty _ _ hti).desc
    have hX:=au hA hg hx
    have hK:=au hA hg hk
    split
    ·rename_i kt et es hd hm
     rw [hd] at hu
     cases c:db g 100 kt k' with
     | false=>exact bI.err _
     | true =>
      simp only [cond_true]
      obtain ⟨dk,hdk⟩:∃d,P.underlying kt=some d:=by
       have:=c
       unfold db at this
       split at this
       ·cases this
       ·rename_i tk htk;exact ⟨_,(hG.ty _ _ htk).desc⟩
      have hmap:∃ms,dP V es ms/\∀(m2:Array MapEntry->Sem Value),(do
        let es <-match A.eval x with
         | .map none=>pure #[]
         | .map (some r)=>do
          let .map es _ <-getObj r | stuck "Lookup: map expected"
          pure es
         | _=>stuck "Lookup: map expected"
        m2 es:Sem Value).run P w=(m2 ms.toArray).run P w:=by
       rcases xg hR hm hX with ⟨e1,rfl⟩ | ⟨r0,ms,c0,e1,k1,k2⟩
       ·refine ⟨[],trivial,fun m2 => ?_⟩
        rw [e1];rfl
       ·refine ⟨ms,k1,fun m2 => ?_⟩
        rw [e1]
        simp only [Sem.run_bind,ci k2,Result.andThen_ok,Sem.run_pure]
      obtain ⟨ms,k1,k2⟩:=hmap
      have hck:=(jo hG ms.toArray.isEmpty 100 kt k' _ c hK 10000 (by omega)).1
      have hlk:(Instr.lookup t (A.eval x) (A.eval k) ok).run P w=((do
        Instr.checkKey ms.toArray.isEmpty 10000 kt (A.eval k)
        let (v,b) <-match <-Instr.findKey kt (A.eval k) ms with
         | some (_,v)=>pure (v,true)
         | none=>pure (<-zeroValue et,false)
        pure (if ok then .tuple #[v,.bool b] else v):Sem Value)).run P w:=by
       simp only [Instr.lookup,Sem.run_bind,run_underlying hu,Result.andThen_ok]
       have:=k2 (fun es=>do
        Instr.checkKey es.isEmpty 10000 kt (A.eval k)
        let (v,b) <-match <-Instr.findKey kt (A.eval k) es.toList with
         | some (_,v)=>pure (v,true)
         | none=>pure (<-zeroValue et,false)
        pure (if ok then .tuple #[v,.bool b] else v))
       simp only [Sem.run_bind] at this
       exact this
      split
      ·rename_i i v hf
       obtain ⟨r',f1,f2⟩:=fZ hG hR.know hK hdk k1 hf
       cases r' with
       | none=>exact f1.elim
       | some r' =>
        obtain ⟨j,X⟩:=r'
        obtain ⟨rfl,hv⟩:=f1
        refine bI.val (fB (m:=Instr.lookup t (A.eval x) (A.eval k) ok) ⟨V,if ok then .tuple #[X,.bool true] else X,w,dM.refl V,hR,?_,?_⟩ rfl)
        ·cases ok
         ·exact hv
         ·exact qv (ax hv (ax rfl (cA V)))
        ·show (Instr.lookup t (A.eval x) (A.eval k) ok).run P w=_
         rw [hlk]
         simp only [Sem.run_bind,hck,Result.andThen_ok,f2,Sem.run_pure]
      ·rename_i hf
       obtain ⟨r',f1,f2⟩:=fZ hG hR.know hK hdk k1 hf
       cases r' with
       | some r'=>exact f1.elim
       | none =>
        split
        ·rename_i te hte
         split
         ·rename_i z hz
          obtain ⟨i,zv,hi,hiz,his,hzc,hzl⟩:=ed hG hte hz
          refine bI.val (fB (m:=Instr.lookup t (A.eval x) (A.eval k) ok) ⟨V,if ok then .tuple #[zv,.bool false] else zv,w,dM.refl V,hR,?_,?_⟩ rfl)
          ·cases ok
           ·exact hzc
           ·exact qv (ax hzc (ax rfl (cA V)))
          ·show (Instr.lookup t (A.eval x) (A.eval k) ok).run P w=_
           rw [hlk]
           have hzr:(zeroValue et).run P w = .ok zv w:=by simp [zeroValue,typeInfo,hi,hiz]
           simp only [Sem.run_bind,hck,Result.andThen_ok,f2,Sem.run_pure,hzr]
         ·exact bI.err _
        ·exact bI.err _
      ·exact bI.err _
    ·exact bI.err _
   ·exact bI.err _
  ·-- mapUpdate
   rename_i t m k x
   exact uU hG hR hA _ rfl
  ·-- insert
   rename_i t m k x
   exact uU hG hR hA _ rfl
  ·-- a call
   rename_i c
   unfold H2
   obtain ⟨callee,args,argTypes⟩:=c
   simp only
   split
   ·rename_i as has
    have hxs:=iu hA hg has
    have e:(args.map A.eval)=(args.toList.map A.eval).toArray:=by apply Array.ext';simp
    split
    ·rename_i b
     have hb:=wD (P:=P) (ats:=argTypes) (b:=b) hG hR type (args.map fun | .const _=>true | _=>false) hxs
     cases hr:om g s b argTypes as with
     | val v s'=>
      rw [hr] at hb
      obtain ⟨V',X,w',h1,h2,h3,h4⟩:=hb
      refine bI.val ⟨V',X,w',h1,h2,h3,.inl ?_⟩
      simp only [execOp,resolve,Sem.run_bind,Sem.run_pure,Result.andThen_ok,invoke,e]
      exact h4
     | enter f l=>rw [hr] at hb;exact hb.elim
     | yield f l=>rw [hr] at hb;exact hb.elim
     | err n=>exact bI.err _
    ·rename_i f
     split
     ·rename_i fv hf
      have hF:=au hA hg hf
      unfold HZ
      split
      ·rename_i k first captured
       obtain ⟨fs,cs,h1,h2,h3⟩:=fQ hF
       split
       ·rename_i fi hfi
        refine ⟨⟨fi,hfi⟩,_,fP (fP h1 hxs) h2,?_⟩
        simp only [execOp,resolve,Sem.run_bind,Sem.run_pure,Result.andThen_ok,invoke,e,h3,Deferred.ofValue]
        have:=(hG.fn k fi hfi).call ((fs++args.toList.map A.eval)++cs).toArray w
        rw [<-this]
        congr 2
        apply Array.ext'
        simp
       ·exact bI.err _
      ·rename_i l
       obtain ⟨p,hp,h3⟩:=nD hF
       refine ⟨p,_,hp,hxs,?_⟩
       simp only [execOp,resolve,Sem.run_bind,Sem.run_pure,Result.andThen_ok,invoke,e,h3,Deferred.ofValue]
       congr 2
       simp
      ·exact bI.err _
     ·exact bI.err _
    ·exact bI.err _
   ·exact bI.err _
  ·-- convert
   rename_i t u x
   unfold wU
   split
   ·rename_i l tu ti hx hu' ht'
    have hX:=au hA hg hx
    simp only [AV.conc,Option.some.injEq] at hX
    have hu:=(hG.ty _ _ hu').desc
    have ht:=(hG.ty _ _ ht').desc
    split
    ·rename_i e hd
     rw [hd] at hu
     split
     ·rename_i te hte
      have he:=(hG.ty _ _ hte).desc
      split
      ·rename_i hd2
       rw [hd2] at he
       cases c:(Nat.blt (bF l) eY&&Nat.beq te.size 1) with
       | false=>exact bI.err _
       | true =>
        simp only [qX,bt,Bool.and_eq_true,decide_eq_true_eq] at c
        refine qf (fun id s' hn => ?_)
        obtain ⟨ie,hie,his,_⟩:=(hG.ty _ _ hte).info
        have hs:(⟨l.toArray⟩:ByteArray).size=l.length:=by simp [ByteArray.size]
        obtain ⟨cap,hcap⟩:∃cap,(Question.appendCap l.length 0 e).cut (w.tape w.drawn (Question.appendCap l.length 0 e))=cap:=⟨_,rfl⟩
        have hle:l.length<=cap:=by rw [<-hcap];simp [Question.cut]
        obtain ⟨W1,hW1⟩:∃W1:World,W1={ w with drawn:=w.drawn+1 }:=⟨_,rfl⟩
        have hch:(choose (Question.appendCap l.length 0 e)).run P w = .ok cap W1:=by
         rw [run_choose]
         have:(Question.appendCap l.length 0 e).forced=false:=rfl
         rw [this,hcap,hW1];rfl
        have hR1:av P V s B W1:=by rw [hW1];exact hR.drew _
        have hsz:W1.heap.size=w.heap.size:=by rw [hW1]
        obtain ⟨V',m1,m2,m3⟩:=Bv (cap:=cap) (rest:=List.replicate (cap-l.length) (.int .u8 0)) (fz:=(cap,cap+1)) hR1 hn (ia V l)
         (by simp;intro o ho;omega) (fun j hj=>by rw [hie] at hj;cases hj;rw [his,c.2];exact ⟨by simp;omega,fun h=>by omega⟩)
        refine fB (m:=convert t u (A.eval x)) ⟨V',.slice (some ⟨W1.heap.size,0,none⟩) l.length cap,_,m1,m2,by simp only [AV.conc,m3,eG,aO,Nat.sub_zero],?_⟩ rfl
        have hcv:(convert t u (.string ⟨l.toArray⟩)).run P w=(Conv.stringToBytes e ⟨l.toArray⟩).run P w:=by
         simp only [convert,Sem.run_bind,run_underlying ht,run_underlying hu,Result.andThen_ok]
         cases ti.desc<;>simp only [Sem.run_bind,run_underlying he,Result.andThen_ok]
        show (convert t u (A.eval x)).run P w=_
        rw [<-hX,hcv]
        have hmk:∀(c:Array Value) (n:Nat),c.size=n->(markStringish ⟨W1.heap.size,0,none⟩).run P (W1.alloc (.cells c e)) = .ok () (W1.alloc (.cells c e (n,n+1))):=by
         intro c n hc
         have hsh:(W1.alloc (.cells c e)).shape? W1.heap.size=some (e,n):=by
          simp only [World.shape?,bA,if_true];rw [hc]
         simp only [markStringish,Sem.run_bind,run_shape,Result.andThen_ok,hsh,run_freeze]
         congr 1
         exact sF W1 c e n
        simp only [Conv.stringToBytes,Sem.run_bind,hs,hch,Result.andThen_ok,cY]
        have hca:((l.toArray.map fun b=>Value.int .u8 b.toNat)++Array.replicate (cap-l.length) (Value.int .u8 0))=((l.map fun b=>Value.int .u8 b.toNat)++List.replicate (cap-l.length) (Value.int .u8 0)).toArray:=by
         apply Array.ext';simp
        rw [hca,hmk _ cap (by simp;omega)]
        simp only [Result.andThen_ok,Sem.run_pure]
      ·exact bI.err _
     ·exact bI.err _
    ·exact bI.err _
   ·rename_i id off len cp sk tu ti hx hu' ht'
    obtain ⟨p,hp,eX⟩:=aT (au hA hg hx)
    have hu:=(hG.ty _ _ hu').desc
    have ht:=(hG.ty _ _ ht').desc
    split
    ·rename_i e hd1 hd2
     rw [hd2] at hu;rw [hd1] at ht
     split
     ·rename_i te l hte hl
      have he:=(hG.ty _ _ hte).desc
      split
      ·rename_i bs hd3 hbs
       rw [hd3] at he
       obtain ⟨vs,h1,h2,h3⟩:=eI hR hl hp
       obtain ⟨ns,e1,e2⟩:=Cm hbs h1
       refine bI.val (fB (m:=convert t u (A.eval x)) ⟨V,.string ⟨bs.toArray⟩,w,dM.refl V,hR,rfl,?_⟩ rfl)
       have hld:(loadCells ⟨p.1,off,none⟩ len).run P w = .ok (ns.map (Value.int .u8)).toArray w:=by
        have:=run_loadCells_list (P:=P) w ⟨p.1,off,none⟩ vs (fun j x hx=>by rw [bY];exact h3 j x hx)
        rw [h2,e1] at this
        exact this
       show (convert t u (A.eval x)).run P w=_
       rw [eX,run_convert_bytes_string w t u e _ _ _ ht he hu,run_bytesToString w _ _ _ ns hld,uK,e2]
       congr 2
       apply ByteArray.ext
       simp
      ·exact bI.err _
     ·exact bI.err _
    ·exact bI.err _
   ·rename_i tu ti hx hu' ht'
    have hX:=au hA hg hx
    simp only [AV.conc,Option.some.injEq] at hX
    have hu:=(hG.ty _ _ hu').desc
    have ht:=(hG.ty _ _ ht').desc
    split
    ·rename_i e hd1 hd2
     rw [hd2] at hu;rw [hd1] at ht
     split
     ·rename_i te hte
      have he:=(hG.ty _ _ hte).desc
      split
      ·rename_i hd3
       rw [hd3] at he
       refine bI.val (fB (m:=convert t u (A.eval x)) ⟨V,.string ByteArray.empty,w,dM.refl V,hR,rfl,?_⟩ rfl)
       show (convert t u (A.eval x)).run P w=_
       rw [<-hX,run_convert_bytes_string w t u e _ _ _ ht he hu]
       rfl
      ·exact bI.err _
     ·exact bI.err _
    ·exact bI.err _
   ·exact bI.err _
  ·-- a slice of a row of unknown capacity
   rename_i t x lo hi mx
   unfold El
   split
   ·rename_i X hx
    split
    ·rename_i v hv
     obtain ⟨R,h1,h2⟩:=Df hG hR hA hv (au hA hg hx)
     exact bI.val (fB (m:=Instr.sliceAt t (A.eval x) (lo.map A.eval) (hi.map A.eval) (mx.map A.eval)) ⟨V,R,w,dM.refl V,hR,h1,h2⟩ rfl)
    ·exact bI.err _
   ·exact bI.err _
  ·exact bI.err _
end
end
end Go.Proofs.YtjabmipkllkfbaaGreatDoor.Vc
