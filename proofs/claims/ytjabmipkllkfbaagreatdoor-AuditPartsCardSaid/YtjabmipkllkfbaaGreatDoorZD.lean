/-
  Operations on the run's own rows are sound; The engine: what code comes to, as a tree of cases (definitions); An element is put into a slice of the run's own, or taken out: sound.
-/
import Derived.Test.YtjabmipkllkfbaaGreatDoorZC
set_option linter.unusedVariables false
set_option linter.unusedSimpArgs false
namespace Go.Proofs.YtjabmipkllkfbaaGreatDoor.Vc
section
open Go.RowKit
theorem am:∀{l:List cL} {a:Nat} {o:cL},o∈bc l a->o∈l/\o.a≠a:=by
 intro l
 induction l with
 | nil=>intro a o h;cases h
 | cons x l ih =>
  intro a o h
  simp only [bc] at h
  cases hb:Nat.beq x.a a with
  | true=>rw [hb] at h;exact ⟨List.mem_cons_of_mem _ (ih h).1,(ih h).2⟩
  | false=>
   rw [hb] at h
   cases h with
   | head=>exact ⟨List.mem_cons_self ..,by simpa using hb⟩
   | tail _ h=>exact ⟨List.mem_cons_of_mem _ (ih h).1,(ih h).2⟩
theorem eN:∀{l:List cL} {a:Nat},(l.map cL.a).Nodup->((bc l a).map cL.a).Nodup:=by
 intro l
 induction l with
 | nil=>intro a h;exact h
 | cons x l ih =>
  intro a h
  simp only [List.map_cons,List.nodup_cons] at h
  simp only [bc]
  cases hb:Nat.beq x.a a with
  | true=>exact ih h.2
  | false=>
   simp only [cond_false,List.map_cons,List.nodup_cons]
   refine ⟨fun hm => ?_,ih h.2⟩
   obtain ⟨y,hy,e⟩:=List.mem_map.1 hm
   exact h.1 (List.mem_map.2 ⟨y,(am hy).1,e⟩)
section
variable {P:Program} {g:G} {V:az} {s s':S} {B w:World} {a:A} {A:Act}
theorem fE (V:az):eU (iN V.toPE) V:=⟨dr.refl _,fun _ _ h=>(by cases h),fun _ _ h=>(by cases h)⟩
theorem av.low (h:av P V s B w) {id:Nat} {blk:ef} {p:Nat×Nat} (hg:s.heap.get id=some blk) (ho:ct blk=true) (hp:V.E id=some p):p.1<w.heap.size:=by
 obtain ⟨q,hq,hB,_⟩:=h.blk id blk hg
 rw [hp] at hq;cases hq
 rcases Nat.lt_or_ge p.1 w.heap.size with hl | hl
 ·exact hl
 ·have hno:w.heap[p.1]? = none:=Array.getElem?_eq_none hl
  rw [hno] at hB
  cases blk with
  | dead=>simp [ct] at ho
  | cells l e=>obtain ⟨vs,fz,_,e2,_⟩:=hB;cases e2
  | row l e=>obtain ⟨vs,r,fz,_,e2,_⟩:=hB;cases e2
  | ro l=>simp [ct] at ho
  | map es c=>obtain ⟨ms,_,e2⟩:=hB;cases e2
  | defd=>cases hB
  | loop st pe t n d=>obtain ⟨_,_,_,_,_,_,_,e2⟩:=hB;cases e2
theorem kj {m:Bool} {p:Addr} {q:Option Addr} {x:Option Value} (h:x=some (gP m (some p))) (h':x=some (gP m q)):∃p',q=some p'/\p'.block=p.block:=by
 rw [h] at h'
 cases m with
 | false=>cases h';exact ⟨p,rfl,rfl⟩
 | true=>
  cases q with
  | none=>cases h'
  | some p'=>simp only [gP,Option.map_some] at h';injection h' with h';injection h' with h';injection h' with h';exact ⟨p',rfl,h'.symm⟩
theorem xC {m:Bool} {p p':Addr} {x:Option Value} (h:x=some (gP m (some p))) (h':x=some (gP m (some p'))):p'.block=p.block:=by
 obtain ⟨q,e,hq⟩:=kj h h'
 cases e;exact hq
theorem av.ownPut (h:av P V s B w) {own':List cL} {new:cL} {q:Nat} {w':World} (hsub:∀o∈own',o∈s.own) (hnd:(own'.map cL.a).Nodup) (hna:∀o∈own',o.a≠new.a)
  (hdj:∀o∈own',∀p,aA V.τ o.a=some (gP o.m (some p))->p.block≠q) (hB:B.heap.size<=q) (hmem:V.mem q=none) (hap:mX V s.heap q)
  (hw:∀k,k≠q->w'.heap[k]? = w.heap[k]?) (hsz:w.heap.size<=w'.heap.size) (hos:w'.os=w.os) (htp:w'.tape=w.tape) (hou:w'.output=w.output)
  {l:List Value} {n c:Nat} (h1:aA V.τ new.a=some (gP new.m (some ⟨q,0,none⟩))) (h2:aA V.ρ new.r=some l) (h3:aQ V.σ new.len=some n) (h4:aQ V.σ new.cap=some c) (h5:(n<=c/\c<=9223372036854775807)/\(new.m=false->∀x∈l,bK x=some x))
  (h6:new.m=false->∀i,P.info? new.e=some i->l.length=n*i.size)
  (h7:∃ob,w'.heap[q]? = some ob/\fu P new l c ob) :
  av P V { s with own:=new::own' } B w':=by
 refine ⟨h.know,h.lens,h.memo,fun b o hb => ?_,h.memB,?_,fun id b hb => ?_,h.dom,h.domL,h.inj,h.glob,?_⟩
 ·obtain ⟨m1,m2⟩:=h.mem b o hb
  refine ⟨?_,m2⟩
  rw [hw b (fun e=>by subst e;rw [hmem] at hb;cases hb)];exact m1
 ·exact h.below.trans ⟨hos,htp,hou,by have:=h.below.size;omega,fun k hk=>hw k (by omega)⟩
 ·obtain ⟨p,k1,k2,k3,k4⟩:=h.blk id b hb
  refine ⟨p,k1,?_,k3,k4⟩
  by_cases ho:ct b=true
  ·rw [hw p.1 (hap id b p hb ho k1)];exact k2
  ·cases b with
   | dead=>trivial
   | ro l =>
    have hne:p.1≠q:=by
     rcases k4 rfl with h1 | ⟨o,h1⟩
     ·omega
     ·exact fun e=>by rw [e,hmem] at h1;cases h1
    rw [hw p.1 hne];exact k2
   | _=>simp [ct] at ho
 ·have tail:∀o∈own',z9 P V s.heap B w' o:=fun o ho=>by
   obtain ⟨q',l',n',c',m1,m2,m3,m4,m5,m6,m7,m8⟩:=h.own.ok o (hsub o ho)
   refine ⟨q',l',n',c',m1,m2,m3,m4,m5,m6,m7,fun p hp => ?_⟩
   obtain ⟨e1,e2,e3,e4,e5,ob,e6,e7⟩:=m8 p hp
   subst hp
   exact ⟨e1,e2,e3,e4,e5,ob,by rw [hw p.block (hdj o ho p m1)];exact e6,e7⟩
  refine ⟨?_,fun o ho => ?_,fun o ho o' ho' p p' hne hp hp' => ?_⟩
  ·simp only [List.map_cons,List.nodup_cons]
   refine ⟨fun hm => ?_,hnd⟩
   obtain ⟨y,hy,e⟩:=List.mem_map.1 hm
   exact hna y hy e
  ·cases ho with
   | head=>
    refine ⟨_,l,n,c,h1,h2,h3,h4,h5,h6,(fun e=>by cases e),fun p hp => ?_⟩
    cases hp
    exact ⟨rfl,rfl,hB,hmem,hap,h7⟩
   | tail _ ho=>exact tail o ho
  ·cases ho with
   | head=>
    have hq:p.block=q:=xC h1 hp
    rw [hq]
    cases ho' with
    | head=>exact (hne rfl).elim
    | tail _ ho'=>exact (hdj o' ho' p' hp').symm
   | tail _ ho=>
    cases ho' with
    | head=>have hq:p'.block=q:=xC h1 hp';rw [hq];exact hdj o ho p hp
    | tail _ ho'=>exact h.own.dj o (hsub o ho) o' (hsub o' ho') p p' hne hp hp'
theorem kc:∀{l:List AV} {vs:List Value},concL V l=some vs->bQ l=true->∀x∈vs,bK x=some x:=by
 intro l
 induction l with
 | nil=>intro vs h _ x hx;cases h;cases hx
 | cons v l ih =>
  intro vs h ho x hx
  obtain ⟨y,r,rfl,hv,hr⟩:=ag h
  simp only [bQ,Bool.and_eq_true] at ho
  cases hx with
  | head=>
   obtain ⟨h1,h2⟩:=sd hv ho.1
   cases x with
   | agg cs=>simp [Value.oneCell'] at h2
   | tuple cs=>simp [Value.oneCell'] at h2
   | _=>rfl
  | tail _ hx=>exact ih hr ho.2 x hx
theorem nM:∀(us l:List Value) (k:Nat),aE l k us=dZ l k us:=by
 intro us
 induction us with
 | nil=>intro l k;rfl
 | cons u us ih=>intro l k;simp only [aE,dZ,fD];exact ih _ _
theorem xe {l xs:List Value} {k:Nat} (h:∀x∈l,bK x=some x) (hx:∀x∈xs,bK x=some x):∀x∈aE l k xs,bK x=some x:=by
 induction xs generalizing l k with
 | nil=>exact h
 | cons u us ih=>
  intro x hm
  refine ih (l:=mS l k u) (k:=Nat.add k 1) (fun y hy => ?_) (fun y hy=>hx y (List.mem_cons_of_mem _ hy)) x hm
  rw [fD] at hy
  rcases List.mem_or_eq_of_mem_set hy with h1 | h1
  ·exact h y h1
  ·subst h1;exact hx y (List.mem_cons_self ..)
def DB (P:Program) (B:World) (V:az) (A:Act) (o:Oper) (p:List aX) (v:AV) (s':S) (w:World):Prop:=
 ∀K:PE->Prop,aj p V.toPE K->∃pe x w',dr V.toPE pe/\K pe/\av P (V.at pe) s' B w'/\v.conc (V.at pe)=some x/\
  ((execOp A.eval o).run P w = .ok (.value x) w'\/((execOp A.eval o).run P w = .ok .skip w'/\x=undef))
theorem B9 (hR:av P V s B w) {v:AV} {x:Value} (h:v.conc V=some x):(HP s v).conc V=some x:=by
 unfold HP
 cases hl:fb v with
 | false=>exact h
 | true =>
  simp only [cond_true]
  split
  ·rename_i u hm
   obtain ⟨y,h1,h2⟩:=hR.memo _ _ (fW hm)
   rw [h] at h1;cases h1
   exact h2
  ·exact h
theorem ku (hR:av P V s B w):∀{l:List AV} {xs:List Value},concL V l=some xs->concL V (jB s l)=some xs:=by
 intro l
 induction l with
 | nil=>intro xs h;exact h
 | cons v l ih=>
  intro xs h
  obtain ⟨x,r,rfl,hv,hr⟩:=ag h
  exact ax (B9 hR hv) (ih hr)
theorem pm (hR:av P V s B w) {v:AV} {x:Value} (h:v.conc V=some x):(mg s v).conc V=some x:=by
 cases v with
 | agg l=>
  obtain ⟨vs,rfl,hv⟩:=cg h
  exact gd (ku hR hv)
 | _=>exact B9 hR h
theorem xR (hG:cv P g) (hR:av P V s B w) {t:TypeId} {x y v:AV} {X Y:Value} {p:List aX} (h:pg g s t x y=some (p,v,s')) (hX:x.conc V=some X) (hY:y.conc V=some Y) :
  ∀K:PE->Prop,aj p V.toPE K->∃pe w',dr V.toPE pe/\K pe/\av P (V.at pe) s' B w'/\v=gx/\(Instr.storeAt t X Y).run P w = .ok () w':=by
 unfold pg at h
 split at h
 ·rename_i ti b off hti
  split at h
  ·rename_i o ho
   cases c:(!o.m&&Nat.beq (bF y.cells) ti.size&&bQ y.cells) with
   | false=>rw [c] at h;cases h
   | true =>
    rw [c] at h;simp only [cond_true] at h;cases h
    simp only [Bool.and_eq_true,bt,decide_eq_true_eq,Bool.not_eq_true'] at c
    obtain ⟨⟨hm,c1⟩,c2⟩:=c
    obtain ⟨q,j,k1,k2,rfl⟩:=jf hX
    have hyc:=cC hY
    obtain ⟨ho1,ho2⟩:=bd ho
    obtain ⟨q',l,n,cc,m1,m2,m3,m4,m5,m6,m7,m8⟩:=hR.own.ok o ho1
    have hq:aA V.τ b=some (.pointer (some q)):=by
     unfold aM at k1
     split at k1
     ·rename_i p hp;cases k1;exact hp
     ·cases k1
    rw [ho2,hq,hm] at m1;cases m1
    obtain ⟨e1,e2,e3,e4,e5,ob,e6,e7⟩:=m8 q rfl
    unfold fu at e7
    rw [hm] at e7
    obtain ⟨rest,fz,rfl,e7,e8⟩:=e7
    obtain ⟨qb,qo,qs⟩:=q
    simp only at e1 e2 e3 e4 e5 e6
    subst e1;subst e2
    intro K hK
    simp only [aj,aX.sat,D.sat,m2,ao k2] at hK
    split at hK
    ·rename_i l0 z0 xs g1 g2 g3
     cases g1;cases g2
     obtain ⟨⟨_,g4⟩,g5⟩:=hK
     have hxs:concL V (jB s y.cells)=some xs:=aG (fE V) g3
     rw [ku hR hyc] at hxs
     have hxe:=Option.some.inj hxs
     rw [hxe] at hyc
     simp only [Int.toNat_natCast] at g5
     have one:=kc hyc c2
     obtain ⟨r1,r2⟩:=fA hR (aE l j xs)
     have hu:=kx V.toPE (aE l j xs)
     obtain ⟨w',s1,s2,s3,s4,s5,s6,s7⟩:=cH (P:=P) qb j o.e fz xs 0 (l++rest) w e6 (by simpa using e7) (by simp;omega) (ge hyc c2)
     have hll:(aE l j xs).length=l.length:=fc _ _ _
     have hrow:dZ (l++rest) (j+0) xs=aE l j xs++rest:=by rw [Nat.add_zero,tO _ _ _ _ (by omega),nM]
     refine ⟨_,w',hu,g5 _ rfl,?_,rfl,?_⟩
     ·refine r1.ownPut (q:=qb) (own':=bc s.own b) (new:={ o with r:=s.nr }) (fun o' h=>(am h).1) (eN hR.own.nd) (fun o' h=>by rw [ho2];exact (am h).2) (fun o' h p hp => ?_) e3 e4 e5 s3 (by omega) s5 s6 s7
       (by show aA V.τ o.a=some (gP o.m _);rw [ho2,hm];exact hq) r2 m3 m4 ⟨m5.1,fun _=>xe (m5.2 hm) one⟩ (fun _ i hi=>by rw [hll];exact m6 hm i hi) ⟨_,?_,(by unfold fu;simp only [hm];exact ⟨rest,fz,rfl,by rw [hll];exact e7,fun i hi=>by rw [hll];exact e8 i hi⟩)⟩
      ·exact hR.own.dj o' (am h).1 o ho1 p ⟨qb,0,none⟩ (by rw [ho2];exact (am h).2) hp (by rw [ho2,hm];exact hq)
      ·rw [s2,hrow]
     ·have hsz:¬(Y.cells.size≠ti.size):=by
       have h1:=aW hyc
       have h2:Y.cells.size=xs.length:=by rw [<-hxe];simp
       rw [h2,h1,<-aO,c1];simp
      have hst:(storeCells (Addr.add ⟨qb,0,none⟩ j) Y.cells.toList).run P w = .ok () w':=by rw [bY,Nat.zero_add,hxe];exact s1
      simp only [Instr.storeAt,Sem.run_bind,Instr.sureAddr,Sem.run_pure,Result.andThen_ok,storeVar,aB (hG.ty _ _ hti),if_neg hsz,hst]
    ·exact hK.elim
  ·cases h
 ·cases h
theorem xw (h:av P V s B w) (q:Option Addr) (c:Nat) (hc:c<=9223372036854775807) (l:List Value) :
  ∃pe,pe=aL (bm (be V.toPE (.pointer q)) (c:Int)) l/\dr V.toPE pe/\pe.mem=V.mem/\av P (V.at pe) (aY (aK (bu s) 0 9223372036854775807)) B w/\aA pe.τ s.nv=some (.pointer q)/\(IE.var (nI s)).val pe.σ=some (c:Int)/\aA pe.ρ s.nr=some l:=by
 obtain ⟨r1,e1⟩:=tE h (.pointer q)
 obtain ⟨r2,e2⟩:=jh r1 (x:=(c:Int)) (lo:=0) (hi:=9223372036854775807) (by omega) (by omega)
 obtain ⟨r3,e3⟩:=fA r2 l
 simp only [az.at_at,az.at_toPE] at r2 r3 e2 e3
 have n0:nI (bu s)=nI s:=rfl
 rw [n0] at e2
 exact ⟨_,rfl,((z5 _ _).trans (qR _ _)).trans (kx _ _),rfl,r3,e1,e2,e3⟩
theorem eS {V:az} {a:Nat} {q:Option Addr} {len cap:IE} {n c:Nat} (h1:aA V.τ a=some (.pointer q)) (h2:aQ V.σ len=some n) (h3:aQ V.σ cap=some c):(AV.sl a (.lit 0) len cap).conc V=some (.slice q n c):=by
 have p1:aM V.τ a=some q:=by unfold aM;rw [h1]
 have p4:aQ V.σ (.lit 0)=some 0:=rfl
 simp only [AV.conc,qS,p1,h2,h3,p4]
 congr 2
 cases q<;>simp [Addr.add]
theorem ka (h:av P V s B w):V.mem w.heap.size=none:=by
 cases hm:V.mem w.heap.size with
 | none=>rfl
 | some o=>have:=(Array.getElem?_eq_some_iff.1 (h.mem _ _ hm).1).1;omega
theorem iH (h:av P V s B w):mX V s.heap w.heap.size:=fun id blk p hg ho hp=>by have:=h.low hg ho hp;omega
theorem qg (h:av P V s B w) {o:cL} (ho:o∈s.own) {p:Addr} (hp:aA V.τ o.a=some (gP o.m (some p))):p.block≠w.heap.size:=by
 obtain ⟨q,l,n,c,m1,_,_,_,_,_,_,m8⟩:=h.own.ok o ho
 obtain ⟨p',rfl,hb⟩:=kj hp m1
 obtain ⟨_,_,_,_,_,ob,e6,_⟩:=m8 p' rfl
 have:=(Array.getElem?_eq_some_iff.1 e6).1
 omega
theorem fe (h:av P V s B w) {o:cL} (ho:o∈s.own):o.a≠s.nv:=by
 obtain ⟨q,l,n,c,m1,_⟩:=h.own.ok o ho
 rw [cJ] at m1
 have:=(List.getElem?_eq_some_iff.1 m1).1
 have:=h.lens.2.2.1
 omega
theorem zT (hG : cv P g) (hR : av P V s B w) {t : TypeId} {x y v : AV} {X Y : Value} {p : List aX} (h : rL g s t x y = some (p, v, s')) (hX : x.conc V = some X) (hY : y.conc V = some Y) :
  ∀K:PE->Prop,aj p V.toPE K->∃pe R w',dr V.toPE pe/\K pe/\av P (V.at pe) s' B w'/\v.conc (V.at pe)=some R/\(Instr.makeSlice t X Y).run P w = .ok R w':=by
 unfold rL at h
 split at h
 ·rename_i ti k1 e k2 e' hti
  have hu:=(hG.ty _ _ hti).desc
  split at h
  ·rename_i et hd
   rw [hd] at hu
   split at h
   ·rename_i te hte
    split at h
    ·rename_i z hz
     cases c:(e.eqb e'&&Nat.beq (bF z.cells) te.size && !Nat.beq te.size 0&&Nat.ble te.bytes 1000000&&bQ z.cells) with
     | false=>rw [c] at h;cases h
     | true =>
      rw [c] at h;simp only [cond_true] at h;cases h
      rw [aO] at c
      simp only [bt,nO,Bool.and_eq_true,decide_eq_true_eq,Bool.not_eq_true',decide_eq_false_iff_not] at c
      obtain ⟨⟨⟨⟨d0,d1⟩,d2⟩,d5⟩,d6⟩:=c
      have:=IE.eqb_eq _ _ d0;subst this
      obtain ⟨zi,hzi,rfl⟩:=aC hX
      obtain ⟨zi',hzi',rfl⟩:=aC hY
      rw [hzi] at hzi';cases hzi'
      obtain ⟨i,zv,hi,hiz,his,hzc,hzl⟩:=ed (V:=V) hG hte hz
      have hzs:zv.cells.size=te.size:=by rw [<-Array.length_toList,aW hzl,d1]
      intro K hK
      simp only [aj,aX.sat,D.sat] at hK
      split at hK
      ·rename_i z0 xs g1 g2
       rw [hzi] at g1;cases g1
       obtain ⟨⟨b1,b2⟩,g5⟩:=hK
       have hxs:concL V z.cells=some xs:=aG (fE V) g2
       rw [hzl] at hxs
       have hxe:=Option.some.inj hxs
       obtain ⟨n,rfl⟩:=Int.eq_ofNat_of_zero_le b1
       have hn:n<=1000000:=by omega
       have hone:∀x∈cP n xs,bK x=some x:=kc (V:=V) (iR (hxe▸hzl) n) (by
        have:∀k,bQ (cP k z.cells)=true:=by
         intro k
         have app:∀(l m:List AV),bQ l=true->bQ m=true->bQ (l++m)=true:=by
          intro l
          induction l with
          | nil=>intro m _ h;exact h
          | cons x l ih=>intro m h1 h2;simp only [bQ,Bool.and_eq_true,List.cons_append] at h1 ⊢;exact ⟨h1.1,ih m h1.2 h2⟩
         induction k with
         | zero=>rfl
         | succ k ih=>exact app _ _ d6 ih
        exact this n)
       obtain ⟨r1,q1⟩:=tE hR (.pointer (some ⟨w.heap.size,0,none⟩))
       obtain ⟨r2,q2⟩:=fA r1 (cP n xs)
       simp only [az.at_at,az.at_toPE] at r2 q2
       have hu2:=(z5 V.toPE (.pointer (some ⟨w.heap.size,0,none⟩))).trans (kx _ (cP n xs))
       have hv:aQ (aL (be V.toPE (.pointer (some ⟨w.heap.size,0,none⟩))) (cP n xs)).σ e=some n:=by
        show aQ V.σ e=some n
        have:=bN hzi b1;simpa using this
       have hxl:xs.length=te.size:=by rw [<-hxe,Array.length_toList,hzs]
       obtain ⟨ie,hie,hisz,hib,_⟩:=(hG.ty _ _ hte).info
       refine ⟨_,.slice (some ⟨w.heap.size,0,none⟩) n n,w.alloc (.cells (cP n xs).toArray et),hu2,g5 ⟨w.heap.size,0,none⟩ _ (by simp),?_,eS (V:=V.at _) q1 hv hv,?_⟩
       ·refine r2.ownPut (q:=w.heap.size) (own':=s.own) (new:={ a:=s.nv,r:=s.nr,e:=et,len:=e,cap:=e }) (fun o h=>h) hR.own.nd (fun o h=>fe hR h) (fun o h p hp => ?_) hR.below.size (ka r2) (iH r2) (fun k hk=>by rw [bA,if_neg hk]) (by rw [fK];omega) rfl rfl rfl q1 q2 hv hv ⟨⟨Nat.le_refl _,by omega⟩,fun _=>hone⟩ (fun _ j hj => ?_) ⟨.cells (cP n xs).toArray et,?_,[],(0,0),by simp,uz _,fun j hj => ?_⟩
        ·obtain ⟨q',l',n',c',m1,_⟩:=hR.own.ok o h
         have:=(z5 V.toPE (.pointer (some ⟨w.heap.size,0,none⟩))).τ _ _ m1
         rw [show (be V.toPE (.pointer (some ⟨w.heap.size,0,none⟩))).τ=((V.at (aL (be V.toPE (.pointer (some ⟨w.heap.size,0,none⟩))) (cP n xs)))).τ from rfl,hp] at this
         exact qg hR h (m1.trans this.symm)
        ·rw [hie] at hj;cases hj;rw [dE,hxl,hisz]
        ·rw [bA,if_pos rfl]
        ·rw [hie] at hj;cases hj;rw [dE,hxl,hisz];simp
       ·have w1:IntKind.i64.wrap (n:Int)=n:=mh (by omega)
        have hie':i=ie:=by rw [hi] at hie;cases hie;rfl
        subst hie'
        have hcond:¬(((decide ((n:Int)<0)||decide ((i.bytes:Int)*(n:Int) > 2 ^ 48))||decide ((n:Int)<0)||decide ((n:Int) > (n:Int)))=true):=by
         have hb:i.bytes*n<=1000000*1000000:=Nat.mul_le_mul (by rw [hib];exact d5) hn
         have e48:(2:Int) ^ 48=281474976710656:=by decide
         rw [e48]
         have:((i.bytes*n:Nat):Int)<=1000000000000:=by omega
         simp only [Int.natCast_mul] at this
         simp only [Bool.or_eq_true,decide_eq_true_eq]
         omega
        have hz2:=pw zv.cells n
        rw [hzs] at hz2
        rw [hxe] at hz2
        by_cases h0:n*te.size=0
        ·have hz3:((Array.range (n*te.size)).map (fun i=>(#[]:Array Value)[i % (#[]:Array Value).size]!))=(cP n xs).toArray:=by
          rw [<-hz2,h0];simp
         simp only [Instr.makeSlice,Sem.run_bind,run_underlying hu,Result.andThen_ok,asInt,asIntOf,Sem.run_pure,typeInfo,run_program,hi,w1,Sem.run_ite,if_neg hcond,run_askRoom,Int.toNat_natCast,aB (hG.ty _ _ hte),if_pos h0,hz3,cY]
        ·simp only [Instr.makeSlice,Sem.run_bind,run_underlying hu,Result.andThen_ok,asInt,asIntOf,Sem.run_pure,typeInfo,run_program,hi,w1,Sem.run_ite,if_neg hcond,run_askRoom,Int.toNat_natCast,aB (hG.ty _ _ hte),if_neg h0,zeroValue,hiz,hzs,hz2,cY]
      ·exact hK.elim
    ·cases h
   ·cases h
  ·cases h
 ·cases h
theorem Dh (hG : cv P g) (hR : av P V s B w) {t u : TypeId} (ty : TypeId) {x y v : AV} {X Y : Value} {p : List aX} (h : wg g s t u x y = some (p, v, s')) (hX : x.conc V = some X) (hY : y.conc V = some Y) :
  ∀K:PE->Prop,aj p V.toPE K->∃pe R w',dr V.toPE pe/\K pe/\av P (V.at pe) s' B w'/\v.conc (V.at pe)=some R/\(Builtin.append_ #[t,u] ty #[X,Y]).run P w = .ok R w':=by
 unfold wg at h
 split at h
 ·rename_i ti tu b off n0 c0 hti htu
  have ht:=(hG.ty _ _ hti).desc
  have hu:=(hG.ty _ _ htu).desc
  split at h
  ·rename_i e o hd ho
   rw [hd] at ht
   split at h
   ·rename_i te hte
    split at h
    ·rename_i k new hsrc
     cases cc:(!o.m&&fJ tu.desc&&dv off&&o.len.eqb n0&&o.cap.eqb c0&&Nat.beq o.e e && !Nat.beq k 0 && !Nat.beq te.size 0 && !Nat.beq te.bytes 0&&bQ new&&z8 te) with
     | false=>rw [cc] at h;cases h
     | true =>
      rw [cc] at h;simp only [cond_true] at h;cases h
      simp only [bt,Bool.and_eq_true,decide_eq_true_eq,Bool.not_eq_true',decide_eq_false_iff_not] at cc
      obtain ⟨⟨⟨⟨⟨⟨⟨⟨⟨⟨hmf,c1⟩,c2⟩,c3⟩,c4⟩,c5⟩,c6⟩,c7⟩,c8⟩,c9⟩,gJ⟩:=cc
      have e1:=dB c2;subst e1
      have e2:=IE.eqb_eq _ _ c3;subst e2
      have e3:=IE.eqb_eq _ _ c4;subst e3
      have e4:o.e=e:=c5
      subst e4
      have hzk:(false=(match tu.desc with | .int _=>true | _=>false)):=by
       cases hdd:tu.desc<;>rw [hdd] at c1<;>first | rfl | (simp [fJ] at c1)
      have happ:iT s te y false=some (k,new):=hsrc
      obtain ⟨vs,hvs,hS⟩:=wd hG hR hte hu hzk happ hY
      have hvl:vs.length=k*te.size:=(hS w.drawn).len
      have hone:=kc hvs c9
      have hcell:=ge hvs c9
      obtain ⟨ho1,ho2⟩:=bd ho
      obtain ⟨q,l,n,c,m1,m2,m3,m4,m5,m6,m7,m8⟩:=hR.own.ok o ho1
      rw [hmf] at m1
      have m1b:aA V.τ b=some (.pointer q):=by rw [<-ho2];exact m1
      have hXc:=eS (V:=V) m1b m3 m4
      rw [hX] at hXc;cases hXc
      obtain ⟨ie,hie,his,hib,_⟩:=(hG.ty _ _ hte).info
      have hll:=m6 hmf ie hie
      rw [his] at hll
      have hb:0<te.bytes:=Nat.pos_of_ne_zero c8
      have hsz:0<te.size:=Nat.pos_of_ne_zero c7
      have hzero:∃z,te.zero=some z/\bF z.cells=te.size:=by
       unfold z8 at gJ
       split at gJ
       ·rename_i z hz;exact ⟨z,hz,by simpa using gJ⟩
       ·cases gJ
      have rows:=m5.2 hmf
      have honeA:∀x∈l++vs,bK x=some x:=fun x hx=>by
       rcases List.mem_append.1 hx with h1 | h1
       ·exact rows x h1
       ·exact hone x h1
      intro K hK
      simp only [aj,aX.sat,D.sat,m2,ao m3] at hK
      split at hK
      ·rename_i l0 z0 xs g1 g2 g3
       cases g1;cases g2
       obtain ⟨glim,g5⟩:=hK
       have hxs:concL V (jB s new)=some xs:=aG (fE V) g3
       rw [ku hR hvs] at hxs;cases hxs
       have hm:2*(n+k)*te.bytes<=281474976710656:=by
        have e:((2*(n+k)*te.bytes:Nat):Int)=2*((n:Int)+(k:Int))*(te.bytes:Int):=by simp
        have:((2*(n+k)*te.bytes:Nat):Int)<=281474976710656:=by rw [e];exact glim
        omega
       have lenV:∀{pe:PE},dr V.toPE pe->aQ pe.σ (eA o.len (.lit (Int.ofNat k)))=some (n+k):=fun {pe} hup=>by
        have h1:=IE.val_up hup.σ _ _ (ao m3)
        have h2:=dR h1 (show (IE.lit (Int.ofNat k)).val pe.σ=some (Int.ofNat k) from rfl)
        have:=bN h2 (by simp;omega)
        rw [this];congr 1
       have capV:∀{pe:PE} {cap:Nat},(IE.var (nI s)).val pe.σ=some (cap:Int)->aQ pe.σ (.var (nI s))=some cap:=fun {pe cap} h=>by
        have:=bN h (by omega);simpa using this
       by_cases hfit:n+k<=c
       ·-- there is room
        cases q with
        | none=>have:=m7 rfl;omega
        | some q =>
         obtain ⟨e1,e2,e3,e4,e5,ob,e6,e7⟩:=m8 q rfl
         unfold fu at e7
         rw [hmf] at e7
         obtain ⟨rest,fz,rfl,e7,e8⟩:=e7
         obtain ⟨qb,qo,qs⟩:=q
         simp only at e1 e2 e3 e4 e5 e6
         subst e1;subst e2
         have hcap:=e8 ie hie
         rw [his] at hcap
         have hmul:=Nat.mul_le_mul_right te.size hfit
         rw [Nat.add_mul] at hmul
         have hvr:vs.length<=rest.length:=by omega
         obtain ⟨pe,hpe,hup,hpm,r1,q1,q2,q3⟩:=xw hR (some ⟨qb,0,none⟩) c m5.1.2 (l++vs)
         obtain ⟨w',s1,s2,s3,s4,s5,s6,s7⟩:=cH (P:=P) qb l.length o.e fz vs 0 (l++rest) w e6 (by simpa using e7) (by simp;omega) hcell
         have hset:dZ (l++rest) (l.length+0) vs=(l++vs)++rest.drop vs.length:=by
          rw [Nat.add_zero,<-nM]
          apply List.ext_getElem?
          intro i
          rw [jr,List.append_assoc]
          by_cases i1:i<l.length
          ·rw [if_neg (by omega),List.getElem?_append_left i1,List.getElem?_append_left i1]
          ·by_cases i2:i<l.length+vs.length
           ·rw [if_pos ⟨by omega,i2,by simp;omega⟩,List.getElem?_append_right (by omega),List.getElem?_append_left (by omega)]
           ·rw [if_neg (by omega),List.getElem?_append_right (by omega),List.getElem?_append_right (by omega),List.getElem?_append_right (by omega),List.getElem?_drop]
            congr 1;omega
         have hK':=g5 ⟨qb,0,none⟩ c _ rfl (by have:n+k<=c:=hfit;omega) m5.1.2
         rw [<-hpe] at hK'
         refine ⟨pe,.slice (some ⟨qb,0,none⟩) (n+k) c,w',hup,hK',?_,eS (V:=V.at pe) q1 (lenV hup) (capV q2),?_⟩
         ·refine r1.ownPut (q:=qb) (own':=bc s.own b) (new:={ a:=s.nv,r:=s.nr,e:=o.e,len:=eA o.len (.lit (Int.ofNat k)),cap := .var (nI s) }) (fun o' h=>(am h).1) (eN hR.own.nd) (fun o' h=>fe hR (am h).1) (fun o' h p hp => ?_) e3 (by show pe.mem qb=none;rw [hpm];exact e4) e5 s3 (by omega) s5 s6 s7
           q1 q3 (lenV hup) (capV q2) ⟨⟨hfit,m5.1.2⟩,fun _=>honeA⟩ (fun _ i hi => ?_) ⟨_,s2.trans (by rw [hset]),rest.drop vs.length,fz,rfl,?_,fun i hi => ?_⟩
          ·obtain ⟨q',l',n',c',k1,_⟩:=hR.own.ok o' (am h).1
           have:=hup.τ _ _ k1
           rw [show pe.τ=(V.at pe).τ from rfl,hp] at this
           exact hR.own.dj o' (am h).1 o ho1 p ⟨qb,0,none⟩ (by rw [ho2];exact (am h).2) (k1.trans this.symm) (by rw [hmf];exact m1)
          ·rw [hie] at hi;cases hi;rw [List.length_append,hll,hvl,his,Nat.add_mul]
          ·have:(l++vs).length+(rest.drop vs.length).length=l.length+rest.length:=by simp;omega
           rw [this];exact e7
          ·have:(l++vs).length+(rest.drop vs.length).length=l.length+rest.length:=by simp;omega
           rw [this];exact e8 i hi
         ·exact gI hG ht hte (hS w.drawn) hfit (by rw [bY,Nat.zero_add,<-hll];exact s1)
       ·-- a new row
        have hold:∀d,(Builtin.firstCells te.size n (.slice q n c)).run P { w with drawn:=d } = .ok l.toArray { w with drawn:=d }:=fun d=>by
         cases q with
         | none=>
          have:=m7 rfl
          have hn0:n=0:=by omega
          subst hn0
          have:l=[]:=List.length_eq_zero_iff.1 (by rw [hll];simp)
          subst this
          simp [Builtin.firstCells]
         | some q=>
          obtain ⟨e1,e2,e3,e4,e5,ob,e6,e7⟩:=m8 q rfl
          unfold fu at e7
          rw [hmf] at e7
          obtain ⟨rest,fz,rfl,e7,e8⟩:=e7
          obtain ⟨qb,qo,qs⟩:=q
          simp only at e1 e2 e3 e4 e5 e6
          subst e1;subst e2
          have hrun:=run_loadCells_list (P:=P) { w with drawn:=d } ⟨qb,0,none⟩ l (fun j x hx => ?_)
          ·rw [hll] at hrun;exact hrun
          rw [bY,Nat.zero_add]
          have hj:j<l.length:=(List.getElem?_eq_some_iff.1 hx).1
          simp only [World.cell?,e6]
          simp [List.getElem?_append_left hj,hx]
        obtain ⟨z,hz1,hz2⟩:=hzero
        obtain ⟨cap,rest,a1,a2,a3,a4⟩:=ji (ty:=ty) (base:=q) hG ht hte hS (by omega) hb hm hold hll (pu hG hte hz1 hz2 _)
        have hR1:=hR.drew (w.drawn+1)
        obtain ⟨pe,hpe,hup,hpm,r1,q1,q2,q3⟩:=xw hR1 (some ⟨w.heap.size,0,none⟩) cap a2 (l++vs)
        have hK':=g5 ⟨w.heap.size,0,none⟩ cap _ rfl (by have:n+k<=cap:=a1;omega) a2
        rw [<-hpe] at hK'
        refine ⟨pe,.slice (some ⟨w.heap.size,0,none⟩) (n+k) cap,_,hup,hK',?_,eS (V:=V.at pe) q1 (lenV hup) (capV q2),a4⟩
        refine r1.ownPut (q:=w.heap.size) (own':=bc s.own b) (new:={ a:=s.nv,r:=s.nr,e:=o.e,len:=eA o.len (.lit (Int.ofNat k)),cap := .var (nI s) }) (fun o' h=>(am h).1) (eN hR.own.nd) (fun o' h=>fe hR (am h).1) (fun o' h p hp => ?_) hR.below.size (by show pe.mem _=none;rw [hpm];exact ka hR) (iH (w:={ w with drawn:=w.drawn+1 }) r1)
         (fun k hk=>by rw [bA];exact if_neg hk) (by rw [fK];show w.heap.size<=w.heap.size+1;omega) rfl rfl rfl q1 q3 (lenV hup) (capV q2) ⟨⟨a1,a2⟩,fun _=>honeA⟩ (fun _ i hi => ?_) ⟨_,(by rw [bA];exact if_pos rfl),rest,(0,0),rfl,uz _,fun i hi => ?_⟩
        ·obtain ⟨q',l',n',c',k1,_⟩:=hR.own.ok o' (am h).1
         have:=hup.τ _ _ k1
         rw [show pe.τ=(V.at pe).τ from rfl,hp] at this
         exact qg hR (am h).1 (k1.trans this.symm)
        ·rw [hie] at hi;cases hi;rw [List.length_append,hll,hvl,his,Nat.add_mul]
        ·rw [hie] at hi;cases hi;rw [List.length_append,his];omega
      ·exact hK.elim
    ·cases h
   ·cases h
  ·cases h
 ·cases h
theorem av.ownPut0 (h:av P V s B w) {new:cL} (hna:∀o∈s.own,o.a≠new.a) (hm:new.m=false) (h1:aA V.τ new.a=some (.pointer none)) (h2:aA V.ρ new.r=some []) (h3:aQ V.σ new.len=some 0) (h4:aQ V.σ new.cap=some 0) :
  av P V { s with own:=new::s.own } B w:=by
 have h1':aA V.τ new.a=some (gP new.m none):=by rw [hm];exact h1
 refine ⟨h.know,h.lens,h.memo,h.mem,h.memB,h.below,h.blk,h.dom,h.domL,h.inj,h.glob,?_⟩
 have non:∀p:Addr,aA V.τ new.a=some (gP new.m (some p))->False:=fun p hp=>by
  rw [h1',hm] at hp;cases hp
 refine ⟨?_,fun o ho => ?_,fun o ho o' ho' p p' hne hp hp' => ?_⟩
 ·simp only [List.map_cons,List.nodup_cons]
  refine ⟨fun hm => ?_,h.own.nd⟩
  obtain ⟨y,hy,e⟩:=List.mem_map.1 hm
  exact hna y hy e
 ·cases ho with
  | head=>exact ⟨none,[],0,0,h1',h2,h3,h4,⟨⟨Nat.le_refl _,by omega⟩,(fun _ x hx=>by cases hx)⟩,(fun _ i _=>by simp),(fun _=>⟨rfl,hm⟩),(fun p hp=>by cases hp)⟩
  | tail _ ho=>exact h.own.ok o ho
 ·cases ho with
  | head=>exact (non p hp).elim
  | tail _ ho=>
   cases ho' with
   | head=>exact (non p' hp').elim
   | tail _ ho'=>exact h.own.dj o ho o' ho' p p' hne hp hp'
theorem CS (hR:av P V s B w) {p:Option Addr} {o:Nat} {l:List Value} (h:∀(j:Nat) (v:Value),l[j]? = some v->ae V.mem p ((o:Int)+(j:Int))=some v) :
  (∀x∈l,bK x=some x)/\(p=none->l=[])/\∀q,p=some q->∀(j:Nat) (x:Value),l[j]? = some x->w.cell? ((q.add o).add j)=some x:=by
 have key:∀(j:Nat) (v:Value),l[j]? = some v->∃q,p=some q/\w.cell? ((q.add o).add j)=some v/\bK v=some v:=fun j v hj=>by
  have h1:=h j v hj
  cases p with
  | none=>cases h1
  | some q =>
   have e:((o:Int)+(j:Int))=Int.ofNat (o+j):=by show _=((o+j:Nat):Int);rw [Int.natCast_add]
   rw [e] at h1
   simp only [ae] at h1
   split at h1
   ·rename_i v' hv'
    obtain ⟨rfl,_⟩:=dC h1
    refine ⟨q,rfl,?_,h1⟩
    have:=fI (m':=fun b=>w.heap[b]?) (fun b o hb=>(hR.mem b o hb).1) hv'
    rw [add_add]
    exact this
   ·cases h1
 refine ⟨fun x hx => ?_,fun hp => ?_,fun q hq j x hj => ?_⟩
 ·obtain ⟨j,hj⟩:=List.getElem?_of_mem hx
  obtain ⟨_,_,_,h3⟩:=key j x hj
  exact h3
 ·cases l with
  | nil=>rfl
  | cons v l=>
   obtain ⟨q,h1,_⟩:=key 0 v rfl
   rw [hp] at h1;cases h1
 ·obtain ⟨q',h1,h2,_⟩:=key j x hj
  rw [hq] at h1;cases h1
  exact h2
theorem ek {n c size:Nat} {q:Option Addr} {l:List Value} (hl:l.length=n*size) (hq:q=none->l=[]) (hc:∀a,q=some a->∀(j:Nat) (x:Value),l[j]? = some x->w.cell? (a.add j)=some x) (hs:0<size):∀d,(Builtin.firstCells size n (.slice q n c)).run P { w with drawn:=d } = .ok l.toArray { w with drawn:=d }:=by
 intro d
 cases q with
 | none =>
  have:=hq rfl
  subst this
  have hn0:n=0:=by
   rcases Nat.eq_zero_or_pos n with h | h
   ·exact h
   ·have:=Nat.mul_pos h hs;simp at hl;omega
  subst hn0
  simp [Builtin.firstCells]
 | some a=>
  have hrun:=run_loadCells_list (P:=P) { w with drawn:=d } a l (fun j x hx=>hc a rfl j x hx)
  rw [hl] at hrun
  exact hrun
theorem oI {zeros:Bool} (hG:cv P g) (hR:av P V s B w) {t u e:TypeId} {te tu:TI} (ty:TypeId) (ht:P.underlying t=some (.slice e)) (hte:g.ty.get e=some te) {tot:IE} {nx ny:Nat} {qx:Option Addr} {lx ly:List Value} {Y:Value}
  (hS:∀d,Ac P e te u tu zeros ny Y ly { w with drawn:=d }) (hb:0<te.bytes) (hzk:z8 te=true) (hm:2*(nx+ny)*te.bytes<=281474976710656)
  (hsz:0<te.size) (hlx:lx.length=nx*te.size) (hl0:qx=none->lx=[]) (hX:∀d,(Builtin.firstCells te.size nx (.slice qx nx nx)).run P { w with drawn:=d } = .ok lx.toArray { w with drawn:=d }) (hone:∀x∈lx++ly,bK x=some x) (hz:ny=0->qx=none) (htot:tot.val V.σ=some ((nx+ny:Nat):Int))
  {K:PE->Prop} (hK:∀(q:Option Addr) (c:Nat) l',l'=lx++ly->((nx+ny:Nat):Int)<=(c:Int)->c<=9223372036854775807->(q=none->((nx+ny:Nat):Int)=0)->K (aL (bm (be V.toPE (.pointer q)) c) l')) :
  ∃pe R w',dr V.toPE pe/\K pe/\av P (V.at pe) { aY (aK (bu s) 0 9223372036854775807) with own:={ a:=s.nv,r:=s.nr,e:=e,len:=tot,cap := .var (nI s) }::s.own } B w'/\(AV.sl s.nv (.lit 0) tot (.var (nI s))).conc (V.at pe)=some R/\(Builtin.append_ #[t,u] ty #[.slice qx nx nx,Y]).run P w = .ok R w':=by
 obtain ⟨ie,hie,his,hib,_⟩:=(hG.ty _ _ hte).info
 have lenV:∀{pe:PE},dr V.toPE pe->aQ pe.σ tot=some (nx+ny):=fun {pe} hup=>by
  have:=bN (IE.val_up hup.σ _ _ htot) (by omega)
  rw [Int.toNat_natCast] at this
  exact this
 have capV:∀{pe:PE} {cap:Nat},(IE.var (nI s)).val pe.σ=some (cap:Int)->aQ pe.σ (.var (nI s))=some cap:=fun {pe cap} h=>by
  have:=bN h (by omega);simpa using this
 have hlyl:ly.length=ny*te.size:=(hS w.drawn).len
 by_cases h0:ny=0
 ·have hq:=hz h0
  subst hq
  have e2:ny=0:=h0
  have l1:lx=[]:=hl0 rfl
  have e1:nx=0:=by
   rw [l1] at hlx
   rcases Nat.eq_zero_or_pos nx with h | h
   ·exact h
   ·have:=Nat.mul_pos h hsz;simp at hlx;omega
  subst e1;subst e2
  have l2:ly=[]:=List.length_eq_zero_iff.1 (by rw [hlyl];simp)
  subst l1;subst l2
  obtain ⟨pe,hpe,hup,hpm,r1,q1,q2,q3⟩:=xw hR none 0 (by omega) []
  have hK':=hK none 0 [] rfl (by simp) (by omega) (fun _=>rfl)
  rw [<-hpe] at hK'
  exact ⟨pe,.slice none 0 0,w,hup,hK',r1.ownPut0 (new:={ a:=s.nv,r:=s.nr,e:=e,len:=tot,cap := .var (nI s) }) (fun o ho=>fe hR ho) rfl q1 q3 (lenV hup) (capV q2),eS (V:=V.at pe) q1 (lenV hup) (capV q2),jj hG ht hte (hS w.drawn)⟩
 ·have hzero:∃z,te.zero=some z/\bF z.cells=te.size:=by
   unfold z8 at hzk
   split at hzk
   ·rename_i z hz;exact ⟨z,hz,by simpa using hzk⟩
   ·cases hzk
  obtain ⟨z,hz1,hz2⟩:=hzero
  obtain ⟨cap,rest,a1,a2,a3,a4⟩:=ji (ty:=ty) (base:=qx) hG ht hte hS (by omega) hb hm hX hlx (pu hG hte hz1 hz2 _)
  have hR1:=hR.drew (w.drawn+1)
  obtain ⟨pe,hpe,hup,hpm,r1,q1,q2,q3⟩:=xw hR1 (some ⟨w.heap.size,0,none⟩) cap a2 (lx++ly)
  have hK':=hK (some ⟨w.heap.size,0,none⟩) cap _ rfl (by omega) a2 (fun h=>by cases h)
  rw [<-hpe] at hK'
  refine ⟨pe,.slice (some ⟨w.heap.size,0,none⟩) (nx+ny) cap,_,hup,hK',?_,eS (V:=V.at pe) q1 (lenV hup) (capV q2),a4⟩
  refine r1.ownPut (q:=w.heap.size) (own':=s.own) (new:={ a:=s.nv,r:=s.nr,e:=e,len:=tot,cap := .var (nI s) }) (fun o' h=>h) hR.own.nd (fun o' h=>fe hR h) (fun o' h p hp => ?_) hR.below.size (by show pe.mem _=none;rw [hpm];exact ka hR) (iH (w:={ w with drawn:=w.drawn+1 }) r1)
   (fun k hk=>by rw [bA];exact if_neg hk) (by rw [fK];show w.heap.size<=w.heap.size+1;omega) rfl rfl rfl q1 q3 (lenV hup) (capV q2) ⟨⟨a1,a2⟩,fun _=>hone⟩ (fun _ i hi => ?_) ⟨_,(by rw [bA];exact if_pos rfl),rest,(0,0),rfl,uz _,fun i hi => ?_⟩
  ·obtain ⟨q',l',n',c',k1,_⟩:=hR.own.ok o' h
   have:=hup.τ _ _ k1
   rw [show pe.τ=(V.at pe).τ from rfl,hp] at this
   exact qg hR h (k1.trans this.symm)
  ·rw [hie] at hi;cases hi;rw [List.length_append,hlx,hlyl,his,Nat.add_mul]
  ·rw [hie] at hi;cases hi;rw [List.length_append,his];omega
theorem tj {pe:PE} {x y:IE} {p q:Int} {rest:List aX} {K:PE->Prop} (hx:x.val pe.σ=some p) (hy:y.val pe.σ=some q) (h:aj (lV s x y++rest) pe K):p=q/\aj rest pe K:=by
 unfold lV at h
 cases c:x.eqb y with
 | true=>
  rw [c] at h
  have:=IE.eqb_eq _ _ c
  subst this
  rw [hx] at hy;cases hy
  exact ⟨rfl,h⟩
 | false=>
  rw [c] at h
  simp only [cond_false,List.cons_append,List.nil_append,aj,aX.sat,BE.val,BE.T,hx,hy,cond_true] at h
  exact h
theorem bn {α:Type} {b:Bool} {x:Option α} {y:α} (h:(bif b then x else none)=some y):b=true/\x=some y:=by
 cases b with
 | false=>cases h
 | true=>exact ⟨rfl,h⟩
theorem sK {b:Nat} {off n c:IE} {p:Option Addr} {o nx c' size:Nat} {rest:List aX} {K:PE->Prop} (q1:aM V.τ b=some p) (q2:aQ V.σ off=some o) (q3:aQ V.σ n=some nx) (q4:aQ V.σ c=some c')
  (hK:aj (lV s n c++(.d (.mrow b off n size)::rest)) V.toPE K) :
  c'=nx/\∃lx,lx.length=nx*size/\(∀(j:Nat) (v:Value),lx[j]? = some v->ae V.mem p ((o:Int)+(j:Int))=some v)/\aj rest (aL V.toPE lx) K:=by
 obtain ⟨e1,h1⟩:=tj (ao q3) (ao q4) hK
 simp only [aj,aX.sat,D.sat,q1,ao q2,ao q3] at h1
 obtain ⟨l,h3,h4,h5⟩:=h1
 refine ⟨by omega,l,?_,h4,h5⟩
 have:((l.length:Nat):Int)=((nx*size:Nat):Int):=by rw [h3];simp
 omega
theorem mM {lx ly:List Value} (h1:∀x∈lx,bK x=some x) (h2:∀x∈ly,bK x=some x):∀x∈lx++ly,bK x=some x:=fun x hx=>by
 rcases List.mem_append.1 hx with h | h
 ·exact h1 x h
 ·exact h2 x h
theorem iU (hR:av P V s B w) {p:Option Addr} {o n size:Nat} {l:List Value} (hl:l.length=n*size) (hs:0<size) (h:∀(j:Nat) (v:Value),l[j]? = some v->ae V.mem p ((o:Int)+(j:Int))=some v) (c:Nat) :
  (∀x∈l,bK x=some x)/\(p=none->l=[])/\∀d,(Builtin.firstCells size n (.slice (p.map fun p=>p.add o) n c)).run P { w with drawn:=d } = .ok l.toArray { w with drawn:=d }:=by
 obtain ⟨m1,m2,m3⟩:=CS hR h
 refine ⟨m1,m2,ek hl (fun h => ?_) (fun a ha j x hx => ?_) hs⟩
 ·cases p with
  | none=>exact m2 rfl
  | some q=>cases h
 ·cases p with
  | none=>cases ha
  | some q=>cases ha;exact m3 q rfl j x hx
theorem kP {a b:Nat} (h:2*((a:Nat):Int)*(b:Int)<=281474976710656):2*a*b<=281474976710656:=by
 have e:((2*a*b:Nat):Int)=2*(a:Int)*(b:Int):=by simp
 have:((2*a*b:Nat):Int)<=281474976710656:=by rw [e];exact h
 omega
theorem zP (hG : cv P g) (hR : av P V s B w) {t u : TypeId} (ty : TypeId) {x y v : AV} {X Y : Value} {p : List aX} (h : rK g s t u x y = some (p, v, s')) (hX : x.conc V = some X) (hY : y.conc V = some Y) :
  ∀K:PE->Prop,aj p V.toPE K->∃pe R w',dr V.toPE pe/\K pe/\av P (V.at pe) s' B w'/\v.conc (V.at pe)=some R/\(Builtin.append_ #[t,u] ty #[X,Y]).run P w = .ok R w':=by
 unfold rK at h
 split at h
 ·rename_i ti tu b off n c hti htu
  have ht:=(hG.ty _ _ hti).desc
  have hu:=(hG.ty _ _ htu).desc
  split at h
  ·rename_i e hd
   rw [hd] at ht
   split at h
   ·rename_i te hte
    obtain ⟨cc,h⟩:=bn h
    simp only [bt,Bool.and_eq_true,decide_eq_true_eq,Bool.not_eq_true',decide_eq_false_iff_not] at cc
    obtain ⟨⟨⟨⟨c1,c7⟩,c8⟩,gJ⟩,_⟩:=cc
    have hzk:(false=(match tu.desc with | .int _=>true | _=>false)):=by
     cases hdd:tu.desc<;>rw [hdd] at c1<;>first | rfl | (simp [fJ] at c1)
    have hb:0<te.bytes:=Nat.pos_of_ne_zero c8
    have hsz:0<te.size:=Nat.pos_of_ne_zero c7
    obtain ⟨q,o,nx,c',q1,q2,q3,q4,rfl⟩:=bX hX
    intro K hK
    have fin:∀{ny:Nat} {n2:IE} {lx ly:List Value} {s1:S} {pe1:PE},aQ V.σ n2=some ny->c'=nx->(ny=0->q=none)->dr V.toPE pe1->pe1.mem=V.mem->av P (V.at pe1) s1 B w->lx.length=nx*te.size->
      (∀(j:Nat) (v:Value),lx[j]? = some v->ae V.mem q ((o:Int)+(j:Int))=some v)->(∀x∈ly,bK x=some x)->(∀d,Ac P e te u tu false ny Y ly { w with drawn:=d })->
      (2*((nx+ny:Nat):Int)*(te.bytes:Int)<=281474976710656/\∀(q:Option Addr) (c:Nat) l',l'=lx++ly->((nx+ny:Nat):Int)<=(c:Int)->c<=9223372036854775807->(q=none->((nx+ny:Nat):Int)=0)->K (aL (bm (be pe1 (.pointer q)) c) l'))->
      ∃pe R w',dr V.toPE pe/\K pe/\av P (V.at pe) { aY (aK (bu s1) 0 9223372036854775807) with own:={ a:=s1.nv,r:=s1.nr,e:=e,len:=eA n n2,cap := .var (nI s1) }::s1.own } B w'/\(AV.sl s1.nv (.lit 0) (eA n n2) (.var (nI s1))).conc (V.at pe)=some R/\(Builtin.append_ #[t,u] ty #[.slice (q.map fun p=>p.add o) nx c',Y]).run P w = .ok R w':=by
     intro ny n2 lx ly s1 pe1 hn2 hc hz hup1 hmem hR1 hlx hcell hone hS hk
     subst hc
     obtain ⟨o1,o0,f1⟩:=iU (c:=c') hR hlx hsz hcell
     have htot:(eA n n2).val V.σ=some ((c'+ny:Nat):Int):=by
      rw [Int.natCast_add];exact dR (ao q3) (ao hn2)
     obtain ⟨pe,R,w',g1,g2,g3,g4,g5⟩:=oI (ty:=ty) hG hR1 ht hte (tot:=eA n n2) hS hb gJ (kP hk.1) hsz hlx (fun h=>o0 (by cases q with | none=>rfl | some q=>cases h)) f1 (mM o1 hone) (fun h0=>by rw [hz h0];rfl) (IE.val_up hup1.σ _ _ htot) (K:=K) (fun q c l'=>hk.2 q c l')
     exact ⟨pe,R,w',hup1.trans g1,g2,g3,g4,g5⟩
    split at h
    ·rename_i b2 off2 n2 cap2 _x
     obtain ⟨qy,oy,ny,cy,y1,y2,y3,y4,rfl⟩:=bX hY
     have htot:(eA n n2).val V.σ=some ((nx+ny:Nat):Int):=by
      rw [Int.natCast_add];exact dR (ao q3) (ao y3)
     split at h
     ·rename_i ow how
      obtain ⟨cc,h⟩:=bn h
      cases h
      simp only [bt,Bool.and_eq_true,decide_eq_true_eq,Bool.not_eq_true'] at cc
      obtain ⟨⟨⟨hmf,d1⟩,d2⟩,d3⟩:=cc
      have e1:=dB d1;subst e1
      have e2:=IE.eqb_eq _ _ d2;subst e2
      have e4:ow.e=e:=d3
      subst e4
      obtain ⟨e1,lx,e3,e4,e5⟩:=sK q1 q2 q3 q4 hK
      obtain ⟨r1,f1⟩:=fA hR lx
      obtain ⟨ho1,ho2⟩:=bd how
      obtain ⟨qo,l,no,co,m1,m2,m3,m4,m5,m6,m7,m8⟩:=hR.own.ok ow ho1
      rw [hmf] at m1
      rw [m3] at y3;cases y3
      have y1':qy=qo:=by
       have:aM V.τ b2=some qo:=by unfold aM;rw [<-ho2,m1];rfl
       rw [this] at y1;cases y1;rfl
      subst y1'
      have y2':oy=0:=by
       have:aQ V.σ (.lit 0)=some 0:=rfl
       rw [this] at y2;cases y2;rfl
      subst y2'
      obtain ⟨ie,hie,his,hib,_⟩:=(hG.ty _ _ hte).info
      have hll:=m6 hmf ie hie
      rw [his] at hll
      have m2':=(kx V.toPE lx).ρ _ _ m2
      have q1':aM (aL V.toPE lx).τ b=some q:=q1
      have y3':ow.len.val (aL V.toPE lx).σ=some (ny:Int):=ao m3
      simp only [aj,aX.sat,D.sat,q1',y3',f1,m2',IE.val_up (kx V.toPE lx).σ _ _ htot] at e5
      obtain ⟨e2,e5⟩:=e5
      refine fin m3 e1 (fun h=>e2 (by omega)) (kx _ _) rfl r1 e3 e4 (m5.2 hmf) (fun d=>⟨hu,hzk,(fun h=>by cases h),hll,fun _=>⟨by simp [Builtin.lenOf],?_⟩⟩) e5
      refine ek hll (fun h => ?_) (fun a ha j x hx => ?_) hsz d
      ·cases qy with
       | none=>
        have:=m7 rfl
        apply List.length_eq_zero_iff.1
        rw [hll]
        have:ny=0:=by omega
        rw [this];simp
       | some q=>cases h
      ·cases qy with
       | none=>cases ha
       | some q=>
        cases ha
        obtain ⟨e1,e2,e3,e4,e5,ob,e6,e7⟩:=m8 q rfl
        unfold fu at e7
        rw [hmf] at e7
        obtain ⟨rest,fz,rfl,e7,e8⟩:=e7
        obtain ⟨qb,qo,qs⟩:=q
        simp only at e1 e2 e3 e4 e5 e6
        subst e1;subst e2
        show w.cell? ((Addr.add ⟨qb,0,none⟩ 0).add j)=some x
        rw [bY,bY]
        simp only [Nat.zero_add]
        have hj:j<l.length:=(List.getElem?_eq_some_iff.1 hx).1
        simp only [World.cell?,e6]
        simp [List.getElem?_append_left hj,hx]
     ·cases h
      obtain ⟨e1,lx,e3,e4,e5⟩:=sK q1 q2 q3 q4 hK
      obtain ⟨r1,f1⟩:=fA hR lx
      have u1:=kx V.toPE lx
      have y1':aM (aL V.toPE lx).τ b2=some qy:=y1
      have y2':off2.val (aL V.toPE lx).σ=some (oy:Int):=ao y2
      have y3':n2.val (aL V.toPE lx).σ=some (ny:Int):=ao y3
      have q1':aM (aL V.toPE lx).τ b=some q:=q1
      simp only [aj,aX.sat,D.sat,q1',y1',y2',y3'] at e5
      obtain ⟨e2,ly,k1,k2,k3⟩:=e5
      obtain ⟨r2,f2⟩:=fA r1 ly
      simp only [az.at_at,az.at_toPE] at r2 f2
      have u2:=kx (aL V.toPE lx) ly
      have f1':=u2.ρ _ _ f1
      have f2':aA (aL (aL V.toPE lx) ly).ρ (Nat.succ s.nr)=some ly:=f2
      simp only [f1',f2',IE.val_up (u1.trans u2).σ _ _ htot] at k3
      have hll:ly.length=ny*te.size:=by
       have:((ly.length:Nat):Int)=((ny*te.size:Nat):Int):=by rw [k1];simp
       omega
      obtain ⟨o1,_,g1⟩:=iU (c:=cy) hR hll hsz k2
      exact fin y3 e1 (fun h=>e2 (by omega)) (u1.trans u2) rfl r2 e3 e4 o1 (fun d=>⟨hu,hzk,(fun h=>by cases h),hll,fun _=>⟨by simp [Builtin.lenOf],g1 d⟩⟩) k3
    ·split at h
     ·rename_i k new hsrc
      obtain ⟨cc,h⟩:=bn h
      cases h
      simp only [bt,Bool.and_eq_true,decide_eq_true_eq,Bool.not_eq_true',decide_eq_false_iff_not] at cc
      obtain ⟨d1,d2⟩:=cc
      have happ:iT s te y false=some (k,new):=hsrc
      obtain ⟨vs,hvs,hS⟩:=wd hG hR hte hu hzk happ hY
      have hone:=kc hvs d2
      have hk2:aQ V.σ (.lit (Int.ofNat k))=some k:=bN rfl (Int.natCast_nonneg k)
      have htot:(eA n (.lit (Int.ofNat k))).val V.σ=some ((nx+k:Nat):Int):=by
       rw [Int.natCast_add];exact dR (ao q3) (ao hk2)
      obtain ⟨e1,lx,e3,e4,e5⟩:=sK q1 q2 q3 q4 hK
      obtain ⟨r1,f1⟩:=fA hR lx
      have u1:=kx V.toPE lx
      simp only [aj,aX.sat,D.sat,f1,IE.val_up u1.σ _ _ htot] at e5
      split at e5
      ·rename_i l0 xs z0 g1 g3 g2
       cases g1;cases g2
       have hxs:concL (V.at (aL V.toPE lx)) (jB s new)=some xs:=aG (fE (V.at (aL V.toPE lx))) g3
       rw [aG (aD u1) (ku hR hvs)] at hxs;cases hxs
       exact fin hk2 e1 (fun h=>absurd h d1) u1 rfl r1 e3 e4 hone hS e5
      ·exact e5.elim
     ·cases h
   ·cases h
  ·cases h
 ·cases h
theorem mA {b:Nat} {off:IE} {p:Option Addr} {o size:Nat} {rest:List aX} {K:PE->Prop} (q1:aM V.τ b=some p) (q2:aQ V.σ off=some o)
  (hK:aj (.d (.mrow b off (.lit 0) size)::rest) V.toPE K):aj rest (aL V.toPE []) K:=by
 simp only [aj,aX.sat,D.sat,q1,ao q2,show (IE.lit 0).val V.σ=some 0 from rfl] at hK
 obtain ⟨l,h3,h4,h5⟩:=hK
 have:l=[]:=List.length_eq_zero_iff.1 (by omega)
 rw [this] at h5
 exact h5
theorem Dq (hG:cv P g) (hR:av P V s B w) {t u:TypeId} (ty:TypeId) {x y v:AV} {X Y:Value} {p:List aX} (h:wp g s t u x y=some (p,v,s')) (hX:x.conc V=some X) (hY:y.conc V=some Y) :
  ∀K:PE->Prop,aj p V.toPE K->∃pe R w',dr V.toPE pe/\K pe/\av P (V.at pe) s' B w'/\v.conc (V.at pe)=some R/\(Builtin.append_ #[t,u] ty #[X,Y]).run P w = .ok R w':=by
 unfold wp at h
 split at h
 ·rename_i ti tu id0 off0 sk0 b2 off2 n2 cap2 hti htu
  have ht:=(hG.ty _ _ hti).desc
  have hu:=(hG.ty _ _ htu).desc
  obtain ⟨px,hpx,rfl⟩:=aT hX
  split at h
  ·rename_i e hd
   rw [hd] at ht
   split at h
   ·rename_i te hte
    obtain ⟨cc,h⟩:=bn h
    simp only [bt,Bool.and_eq_true,decide_eq_true_eq,Bool.not_eq_true',decide_eq_false_iff_not] at cc
    obtain ⟨⟨⟨c1,c7⟩,c8⟩,gJ⟩:=cc
    have hzk:(false=(match tu.desc with | .int _=>true | _=>false)):=by
     cases hdd:tu.desc<;>rw [hdd] at c1<;>first | rfl | (simp [fJ] at c1)
    have hb:0<te.bytes:=Nat.pos_of_ne_zero c8
    have hsz:0<te.size:=Nat.pos_of_ne_zero c7
    obtain ⟨qy,oy,ny,cy,y1,y2,y3,y4,rfl⟩:=bX hY
    have f0:∀d,(Builtin.firstCells te.size 0 (.slice (some ⟨px.1,off0,none⟩) 0 0)).run P { w with drawn:=d } = .ok (#[]:Array Value) { w with drawn:=d }:=fun d=>ek (l:=[]) (by simp) (fun h=>by cases h) (fun a ha j x hx=>by simp at hx) hsz d
    intro K hK
    have fin:∀{ly:List Value} {s1:S} {pe1:PE},1<=ny->dr V.toPE pe1->av P (V.at pe1) s1 B w->(∀x∈ly,bK x=some x)->(∀d,Ac P e te u tu false ny (.slice (qy.map fun p=>p.add oy) ny cy) ly { w with drawn:=d })->
      (2*(ny:Int)*(te.bytes:Int)<=281474976710656/\∀(q:Option Addr) (c:Nat) l',l'=[]++ly->(ny:Int)<=(c:Int)->c<=9223372036854775807->(q=none->(ny:Int)=0)->K (aL (bm (be pe1 (.pointer q)) c) l'))->
      ∃pe R w',dr V.toPE pe/\K pe/\av P (V.at pe) { aY (aK (bu s1) 0 9223372036854775807) with own:={ a:=s1.nv,r:=s1.nr,e:=e,len:=n2,cap := .var (nI s1) }::s1.own } B w'/\(AV.sl s1.nv (.lit 0) n2 (.var (nI s1))).conc (V.at pe)=some R/\(Builtin.append_ #[t,u] ty #[.slice (some ⟨px.1,off0,none⟩) 0 0,.slice (qy.map fun p=>p.add oy) ny cy]).run P w = .ok R w':=by
     intro ly s1 pe1 h1 hup1 hR1 hone hS hk
     have htot:n2.val pe1.σ=some ((0+ny:Nat):Int):=by
      rw [Nat.zero_add];exact IE.val_up hup1.σ _ _ (ao y3)
     obtain ⟨pe,R,w',g1,g2,g3,g4,g5⟩:=oI (ty:=ty) (lx:=[]) (nx:=0) hG hR1 ht hte (tot:=n2) hS hb gJ (by rw [Nat.zero_add];exact kP hk.1) hsz (by simp) (fun h=>rfl) (qx:=some ⟨px.1,off0,none⟩) f0 (by simpa using hone) (fun h0=>by omega) htot (K:=K) (fun q c l'=>by rw [Nat.zero_add];exact hk.2 q c l')
     exact ⟨pe,R,w',hup1.trans g1,g2,g3,g4,g5⟩
    have one:∀{rest:List aX},aj (dG s (.lit 1) n2++rest) V.toPE K->1<=ny/\aj rest V.toPE K:=fun {rest} h=>by
     unfold dG at h
     split at h
     ·rename_i hl
      have:=i5 hR.know _ _ _ hl (show (IE.lit 1).val V.σ=some 1 from rfl) (ao y3)
      have h1:(1:Int)<=(ny:Int):=by simpa using this
      exact ⟨by omega,h⟩
     ·simp only [List.cons_append,List.nil_append,aj,aX.sat,BE.val,BE.T,show (IE.lit 1).val V.toPE.σ=some 1 from rfl,ao y3,cond_true] at h
      have h1:(1:Int)<=(ny:Int):=h.1
      exact ⟨by omega,h.2⟩
    split at h
    ·rename_i ow how
     obtain ⟨cc,h⟩:=bn h
     cases h
     simp only [bt,Bool.and_eq_true,decide_eq_true_eq,Bool.not_eq_true'] at cc
     obtain ⟨⟨⟨hmf,d1⟩,d2⟩,d3⟩:=cc
     have e1:=dB d1;subst e1
     have e2:=IE.eqb_eq _ _ d2;subst e2
     have e4:ow.e=e:=d3
     subst e4
     obtain ⟨e1,hK⟩:=one hK
     have e5:=mA y1 y2 hK
     obtain ⟨r1,f1⟩:=fA hR []
     obtain ⟨ho1,ho2⟩:=bd how
     obtain ⟨qo,l,no,co,m1,m2,m3,m4,m5,m6,m7,m8⟩:=hR.own.ok ow ho1
     rw [hmf] at m1
     rw [m3] at y3;cases y3
     have y1':qy=qo:=by
      have:aM V.τ b2=some qo:=by unfold aM;rw [<-ho2,m1];rfl
      rw [this] at y1;cases y1;rfl
     subst y1'
     have y2':oy=0:=by
      have:aQ V.σ (.lit 0)=some 0:=rfl
      rw [this] at y2;cases y2;rfl
     subst y2'
     obtain ⟨ie,hie,his,hib,_⟩:=(hG.ty _ _ hte).info
     have hll:=m6 hmf ie hie
     rw [his] at hll
     have m2':=(kx V.toPE []).ρ _ _ m2
     have y3':ow.len.val (aL V.toPE []).σ=some (ny:Int):=ao m3
     simp only [aj,aX.sat,D.sat,y3',f1,m2'] at e5
     refine fin e1 (kx _ _) r1 (m5.2 hmf) (fun d=>⟨hu,hzk,(fun h=>by cases h),hll,fun _=>⟨by simp [Builtin.lenOf],?_⟩⟩) e5
     refine ek hll (fun h => ?_) (fun a ha j x hx => ?_) hsz d
     ·cases qy with
      | none=>
       have:=m7 rfl
       apply List.length_eq_zero_iff.1
       rw [hll]
       have:ny=0:=by omega
       rw [this];simp
      | some q=>cases h
     ·cases qy with
      | none=>cases ha
      | some q=>
       cases ha
       obtain ⟨e1,e2,e3,e4,e5,ob,e6,e7⟩:=m8 q rfl
       unfold fu at e7
       rw [hmf] at e7
       obtain ⟨rest,fz,rfl,e7,e8⟩:=e7
       obtain ⟨qb,qo,qs⟩:=q
       simp only at e1 e2 e3 e4 e5 e6
       subst e1;subst e2
       show w.cell? ((Addr.add ⟨qb,0,none⟩ 0).add j)=some x
       rw [bY,bY]
       simp only [Nat.zero_add]
       have hj:j<l.length:=(List.getElem?_eq_some_iff.1 hx).1
       simp only [World.cell?,e6]
       simp [List.getElem?_append_left hj,hx]
    ·cases h
     obtain ⟨e1,hK⟩:=one hK
     have e5:=mA y1 y2 hK
     obtain ⟨r1,f1⟩:=fA hR []
     have u1:=kx V.toPE []
     have y1':aM (aL V.toPE []).τ b2=some qy:=y1
     have y2':off2.val (aL V.toPE []).σ=some (oy:Int):=ao y2
     have y3':n2.val (aL V.toPE []).σ=some (ny:Int):=ao y3
     simp only [aj,aX.sat,D.sat,y1',y2',y3'] at e5
     obtain ⟨ly,k1,k2,k3⟩:=e5
     obtain ⟨r2,f2⟩:=fA r1 ly
     simp only [az.at_at,az.at_toPE] at r2 f2
     have u2:=kx (aL V.toPE []) ly
     have f1':=u2.ρ _ _ f1
     have f2':aA (aL (aL V.toPE []) ly).ρ (Nat.succ s.nr)=some ly:=f2
     simp only [f1',f2',IE.val_up (u1.trans u2).σ _ _ (ao y3)] at k3
     have hll:ly.length=ny*te.size:=by
      have:((ly.length:Nat):Int)=((ny*te.size:Nat):Int):=by rw [k1];simp
      omega
     obtain ⟨o1,_,g1⟩:=iU (c:=cy) hR hll hsz k2
     exact fin e1 (u1.trans u2) r2 o1 (fun d=>⟨hu,hzk,(fun h=>by cases h),hll,fun _=>⟨by simp [Builtin.lenOf],g1 d⟩⟩) k3
   ·cases h
  ·cases h
 ·cases h
theorem CV {o:cL} (hmf:o.m=false) {q:Option Addr} {l:List Value} {n c size:Nat} (hll:l.length=n*size) (hnc:n<=c) (hsz:0<size) (m7:q=none->c=0/\o.m=false)
  (m8:∀p,q=some p->p.off=0/\p.spot=none/\∃ob,w.heap[p.block]? = some ob/\fu P o l c ob) {nx:Nat} (hnx:nx<=n) (cc:Nat) :
  ∀d,(Builtin.firstCells size nx (.slice q nx cc)).run P { w with drawn:=d } = .ok (l.take (nx*size)).toArray { w with drawn:=d }:=by
 have hmul:=Nat.mul_le_mul_right size hnx
 refine ek (by rw [List.length_take];omega) (fun h => ?_) (fun a ha j x hx => ?_) hsz
 ·have h1:=m7 h
  have h2:nx=0:=by omega
  rw [h2,Nat.zero_mul];rfl
 ·obtain ⟨e1,e2,ob,e6,e7⟩:=m8 a ha
  unfold fu at e7
  rw [hmf] at e7
  obtain ⟨rest,fz,rfl,e7,e8⟩:=e7
  obtain ⟨qb,qo,qs⟩:=a
  simp only at e1 e2 e6
  subst e1;subst e2
  rw [bY,Nat.zero_add]
  have hj:j<(l.take (nx*size)).length:=(List.getElem?_eq_some_iff.1 hx).1
  rw [List.length_take] at hj
  rw [List.getElem?_take_of_lt (by omega)] at hx
  simp only [World.cell?,e6]
  simp [List.getElem?_append_left (show j<l.length by omega),hx]
theorem av.ownSub (h:av P V s B w) {own':List cL} (hsub:∀o∈own',o∈s.own) (hnd:(own'.map cL.a).Nodup):av P V { s with own:=own' } B w:=
 ⟨h.know,h.lens,h.memo,h.mem,h.memB,h.below,h.blk,h.dom,h.domL,h.inj,h.glob,⟨hnd,fun o ho=>h.own.ok o (hsub o ho),fun o ho o' ho'=>h.own.dj o (hsub o ho) o' (hsub o' ho')⟩⟩
theorem wB (hG:cv P g) (hR:av P V s B w) {o:cL} (ho1:o∈s.own) (hmf:o.m=false) {b:Nat} (ho2:o.a=b) {t u:TypeId} {te tu:TI} (ty:TypeId) (ht:P.underlying t=some (.slice o.e)) (hte:g.ty.get o.e=some te) {tot:IE} {nx ny n c:Nat} {q:Option Addr} {l ly:List Value} {Y:Value}
  (m1:aA V.τ o.a=some (.pointer q)) (m3:aQ V.σ o.len=some n) (m4:aQ V.σ o.cap=some c) (m2:aA V.ρ o.r=some l) (hnx:nx<=n)
  (hS:∀d,Ac P o.e te u tu false ny Y ly { w with drawn:=d }) (hb:0<te.bytes) (hzk:z8 te=true) (hm:2*(nx+ny)*te.bytes<=281474976710656)
  (hsz:0<te.size) (hone:∀x∈ly,bK x=some x) (htot:tot.val V.σ=some ((nx+ny:Nat):Int))
  {K:PE->Prop} (hK:∀(q:Option Addr) (c:Nat) l',l'=l.take (nx*te.size)++ly->((nx+ny:Nat):Int)<=(c:Int)->c<=9223372036854775807->(q=none->((nx+ny:Nat):Int)=0)->K (aL (bm (be V.toPE (.pointer q)) c) l')) :
  ∃pe R w',dr V.toPE pe/\K pe/\av P (V.at pe) { aY (aK (bu s) 0 9223372036854775807) with own:={ a:=s.nv,r:=s.nr,e:=o.e,len:=tot,cap := .var (nI s) }::bc s.own b } B w'/\(AV.sl s.nv (.lit 0) tot (.var (nI s))).conc (V.at pe)=some R/\(Builtin.append_ #[t,u] ty #[.slice q nx c,Y]).run P w = .ok R w':=by
 obtain ⟨q',l',n',c',k1,k2,k3,k4,m5,m6,m7,m8⟩:=hR.own.ok o ho1
 rw [hmf] at k1
 rw [m1] at k1;cases k1
 rw [m2] at k2;cases k2
 rw [m3] at k3;cases k3
 rw [m4] at k4;cases k4
 obtain ⟨ie,hie,his,hib,_⟩:=(hG.ty _ _ hte).info
 have hll:=m6 hmf ie hie
 rw [his] at hll
 have hmulx:=Nat.mul_le_mul_right te.size hnx
 have hlx:(l.take (nx*te.size)).length=nx*te.size:=by rw [List.length_take];omega
 have hlyl:ly.length=ny*te.size:=(hS w.drawn).len
 have honeA:∀x∈l.take (nx*te.size)++ly,bK x=some x:=mM (fun x hx=>m5.2 hmf x (List.mem_of_mem_take hx)) hone
 have lenV:∀{pe:PE},dr V.toPE pe->aQ pe.σ tot=some (nx+ny):=fun {pe} hup=>by
  have:=bN (IE.val_up hup.σ _ _ htot) (by omega)
  rw [Int.toNat_natCast] at this
  exact this
 have capV:∀{pe:PE} {cap:Nat},(IE.var (nI s)).val pe.σ=some (cap:Int)->aQ pe.σ (.var (nI s))=some cap:=fun {pe cap} h=>by
  have:=bN h (by omega);simpa using this
 by_cases hfit:nx+ny<=c
 ·cases hq:q with
  | none=>
   subst hq
   have hc0:=(m7 rfl).1
   have h1:nx=0:=by omega
   have h2:ny=0:=by omega
   subst h1;subst h2
   have e0:ly=[]:=List.length_eq_zero_iff.1 (by rw [hlyl];simp)
   subst e0
   subst hc0
   have hRd:=hR.ownSub (own':=bc s.own b) (fun o' h=>(am h).1) (eN hR.own.nd)
   obtain ⟨pe,hpe,hup,hpm,r1,q1,q2,q3⟩:=xw hRd none 0 (by omega) []
   have hK':=hK none 0 [] (by simp) (by simp) (by omega) (fun _=>by simp)
   rw [<-hpe] at hK'
   exact ⟨pe,.slice none 0 0,w,hup,hK',r1.ownPut0 (new:={ a:=s.nv,r:=s.nr,e:=o.e,len:=tot,cap := .var (nI s) }) (fun o' ho=>fe hR (am ho).1) rfl q1 q3 (lenV hup) (capV q2),eS (V:=V.at pe) q1 (lenV hup) (capV q2),jj hG ht hte (hS w.drawn)⟩
  | some q0 =>
   subst hq
   obtain ⟨e1,e2,e3,e4,e5,ob,e6,e7⟩:=m8 q0 rfl
   unfold fu at e7
   rw [hmf] at e7
   obtain ⟨rest,fz,rfl,e7,e8⟩:=e7
   obtain ⟨qb,qo,qs⟩:=q0
   simp only at e1 e2 e3 e4 e5 e6
   subst e1;subst e2
   have hcap:=e8 ie hie
   rw [his] at hcap
   have hmul:=Nat.mul_le_mul_right te.size hfit
   rw [Nat.add_mul] at hmul
   have hcell:∀x∈ly,x.oneCell'=true:=fun x hx=>(dC (hone x hx)).2.2
   obtain ⟨pe,hpe,hup,hpm,r1,q1,q2,q3⟩:=xw hR (some ⟨qb,0,none⟩) c m5.1.2 (l.take (nx*te.size)++ly)
   obtain ⟨w',s1,s2,s3,s4,s5,s6,s7⟩:=cH (P:=P) qb (nx*te.size) o.e fz ly 0 (l++rest) w e6 (by simpa using e7) (by simp;omega) hcell
   have hset:dZ (l++rest) (nx*te.size+0) ly=(l.take (nx*te.size)++ly)++(l++rest).drop (nx*te.size+ly.length):=by
    rw [Nat.add_zero,<-nM]
    apply List.ext_getElem?
    intro i
    rw [jr,List.append_assoc]
    by_cases i1:i<nx*te.size
    ·rw [if_neg (by omega),List.getElem?_append_left (by omega),List.getElem?_append_left (by rw [hlx];exact i1),List.getElem?_take_of_lt i1]
    ·by_cases i2:i<nx*te.size+ly.length
     ·rw [if_pos ⟨by omega,i2,by simp;omega⟩,List.getElem?_append_right (by omega),List.getElem?_append_left (by omega),hlx]
     ·rw [if_neg (by omega),List.getElem?_append_right (l₁:=l.take (nx*te.size)) (by omega),List.getElem?_append_right (l₁:=ly) (by omega),List.getElem?_drop,hlx]
      congr 1;omega
   have hK':=hK (some ⟨qb,0,none⟩) c _ rfl (by omega) m5.1.2 (fun h=>by cases h)
   rw [<-hpe] at hK'
   refine ⟨pe,.slice (some ⟨qb,0,none⟩) (nx+ny) c,w',hup,hK',?_,eS (V:=V.at pe) q1 (lenV hup) (capV q2),?_⟩
   ·refine r1.ownPut (q:=qb) (own':=bc s.own b) (new:={ a:=s.nv,r:=s.nr,e:=o.e,len:=tot,cap := .var (nI s) }) (fun o' h=>(am h).1) (eN hR.own.nd) (fun o' h=>fe hR (am h).1) (fun o' h p hp => ?_) e3 (by show pe.mem qb=none;rw [hpm];exact e4) e5 s3 (by omega) s5 s6 s7
     q1 q3 (lenV hup) (capV q2) ⟨⟨hfit,m5.1.2⟩,fun _=>honeA⟩ (fun _ i hi => ?_) ⟨_,s2.trans (by rw [hset]),(l++rest).drop (nx*te.size+ly.length),fz,rfl,?_,fun i hi => ?_⟩
    ·obtain ⟨q',l',n',c',k1,_⟩:=hR.own.ok o' (am h).1
     have:=hup.τ _ _ k1
     rw [show pe.τ=(V.at pe).τ from rfl,hp] at this
     exact hR.own.dj o' (am h).1 o ho1 p ⟨qb,0,none⟩ (by rw [ho2];exact (am h).2) (k1.trans this.symm) (by rw [hmf];exact m1)
    ·rw [hie] at hi;cases hi;rw [List.length_append,hlx,hlyl,his,Nat.add_mul]
    ·have:(l.take (nx*te.size)++ly).length+((l++rest).drop (nx*te.size+ly.length)).length=l.length+rest.length:=by
      rw [List.length_append,hlx,List.length_drop,List.length_append];omega
     rw [this];exact e7
    ·have:(l.take (nx*te.size)++ly).length+((l++rest).drop (nx*te.size+ly.length)).length=l.length+rest.length:=by
      rw [List.length_append,hlx,List.length_drop,List.length_append];omega
     rw [this];exact e8 i hi
   ·exact gI hG ht hte (hS w.drawn) hfit (by rw [bY,Nat.zero_add];exact s1)
 ·have hold:=CV (w:=w) (P:=P) (o:=o) hmf hll m5.1.1 hsz m7 (fun p hp=>by obtain ⟨e1,e2,_,_,_,ob,e6,e7⟩:=m8 p hp;exact ⟨e1,e2,ob,e6,e7⟩) hnx c
  have hzero:∃z,te.zero=some z/\bF z.cells=te.size:=by
   unfold z8 at hzk
   split at hzk
   ·rename_i z hz;exact ⟨z,hz,by simpa using hzk⟩
   ·cases hzk
  obtain ⟨z,hz1,hz2⟩:=hzero
  obtain ⟨cap,rest,a1,a2,a3,a4⟩:=ji (ty:=ty) (base:=q) hG ht hte hS (by omega) hb hm hold hlx (pu hG hte hz1 hz2 _)
  have hR1:=hR.drew (w.drawn+1)
  obtain ⟨pe,hpe,hup,hpm,r1,q1,q2,q3⟩:=xw hR1 (some ⟨w.heap.size,0,none⟩) cap a2 (l.take (nx*te.size)++ly)
  have hK':=hK (some ⟨w.heap.size,0,none⟩) cap _ rfl (by omega) a2 (fun h=>by cases h)
  rw [<-hpe] at hK'
  refine ⟨pe,.slice (some ⟨w.heap.size,0,none⟩) (nx+ny) cap,_,hup,hK',?_,eS (V:=V.at pe) q1 (lenV hup) (capV q2),a4⟩
  refine r1.ownPut (q:=w.heap.size) (own':=bc s.own b) (new:={ a:=s.nv,r:=s.nr,e:=o.e,len:=tot,cap := .var (nI s) }) (fun o' h=>(am h).1) (eN hR.own.nd) (fun o' h=>fe hR (am h).1) (fun o' h p hp => ?_) hR.below.size (by show pe.mem _=none;rw [hpm];exact ka hR) (iH (w:={ w with drawn:=w.drawn+1 }) r1)
   (fun k hk=>by rw [bA];exact if_neg hk) (by rw [fK];show w.heap.size<=w.heap.size+1;omega) rfl rfl rfl q1 q3 (lenV hup) (capV q2) ⟨⟨a1,a2⟩,fun _=>honeA⟩ (fun _ i hi => ?_) ⟨_,(by rw [bA];exact if_pos rfl),rest,(0,0),rfl,uz _,fun i hi => ?_⟩
  ·obtain ⟨q',l',n',c',k1,_⟩:=hR.own.ok o' (am h).1
   have:=hup.τ _ _ k1
   rw [show pe.τ=(V.at pe).τ from rfl,hp] at this
   exact qg hR (am h).1 (k1.trans this.symm)
  ·rw [hie] at hi;cases hi;rw [List.length_append,hlx,hlyl,his,Nat.add_mul]
  ·rw [hie] at hi;cases hi;rw [List.length_append,his];omega
theorem BI {o:cL} (hG:cv P g) (hR:av P V s B w) (ho1:o∈s.own) (hmf:o.m=false) {b:Nat} (ho2:o.a=b) {u:TypeId} {te tu:TI} (hu:P.underlying u=some tu.desc) (hzk:(false=(match tu.desc with | .int _=>true | _=>false))) (hte:g.ty.get o.e=some te) (hsz:0<te.size) {cap:IE} {Y:Value}
  (hY:(AV.sl b (.lit 0) o.len cap).conc V=some Y):∃ny l,aQ V.σ o.len=some ny/\aA V.ρ o.r=some l/\(∀x∈l,bK x=some x)/\∀d,Ac P o.e te u tu false ny Y l { w with drawn:=d }:=by
 obtain ⟨qy,oy,ny,cy,y1,y2,y3,y4,rfl⟩:=bX hY
 obtain ⟨qo,l,no,co,m1,m2,m3,m4,m5,m6,m7,m8⟩:=hR.own.ok o ho1
 rw [hmf] at m1
 rw [m3] at y3;cases y3
 have y1':qy=qo:=by
  have:aM V.τ b=some qo:=by unfold aM;rw [<-ho2,m1];rfl
  rw [this] at y1;cases y1;rfl
 subst y1'
 have y2':oy=0:=by
  have:aQ V.σ (.lit 0)=some 0:=rfl
  rw [this] at y2;cases y2;rfl
 subst y2'
 obtain ⟨ie,hie,his,hib,_⟩:=(hG.ty _ _ hte).info
 have hll:=m6 hmf ie hie
 rw [his] at hll
 refine ⟨ny,l,m3,m2,m5.2 hmf,fun d=>⟨hu,hzk,(fun h=>by cases h),hll,fun _=>⟨by simp [Builtin.lenOf],?_⟩⟩⟩
 refine ek hll (fun h => ?_) (fun a ha j x hx => ?_) hsz d
 ·cases qy with
  | none=>
   have:=m7 rfl
   apply List.length_eq_zero_iff.1
   rw [hll]
   have:ny=0:=by omega
   rw [this];simp
  | some q=>cases h
 ·cases qy with
  | none=>cases ha
  | some q=>
   cases ha
   obtain ⟨e1,e2,e3,e4,e5,ob,e6,e7⟩:=m8 q rfl
   unfold fu at e7
   rw [hmf] at e7
   obtain ⟨rest,fz,rfl,e7,e8⟩:=e7
   obtain ⟨qb,qo,qs⟩:=q
   simp only at e1 e2 e3 e4 e5 e6
   subst e1;subst e2
   show w.cell? ((Addr.add ⟨qb,0,none⟩ 0).add j)=some x
   rw [bY,bY]
   simp only [Nat.zero_add]
   have hj:j<l.length:=(List.getElem?_eq_some_iff.1 hx).1
   simp only [World.cell?,e6]
   simp [List.getElem?_append_left hj,hx]
theorem zJ (hG:cv P g) (hR:av P V s B w) {t u:TypeId} (ty:TypeId) {x y v:AV} {X Y:Value} {p:List aX} (h:rH g s t u x y=some (p,v,s')) (hX:x.conc V=some X) (hY:y.conc V=some Y) :
  ∀K:PE->Prop,aj p V.toPE K->∃pe R w',dr V.toPE pe/\K pe/\av P (V.at pe) s' B w'/\v.conc (V.at pe)=some R/\(Builtin.append_ #[t,u] ty #[X,Y]).run P w = .ok R w':=by
 unfold rH at h
 split at h
 ·rename_i ti tu b off n0 c0 b2 off2 n2 cap2 hti htu
  have ht:=(hG.ty _ _ hti).desc
  have hu:=(hG.ty _ _ htu).desc
  split at h
  ·rename_i e o hd ho
   rw [hd] at ht
   split at h
   ·rename_i te hte
    obtain ⟨cc,hh⟩:=bn h
    clear h
    simp only [bt,Bool.and_eq_true,decide_eq_true_eq,Bool.not_eq_true',decide_eq_false_iff_not] at cc
    obtain ⟨⟨⟨⟨⟨⟨⟨hmf,c1⟩,c2⟩,c4⟩,c5⟩,c7⟩,c8⟩,gJ⟩:=cc
    have e1:=dB c2;subst e1
    have e3:=IE.eqb_eq _ _ c4;subst e3
    have e4:o.e=e:=c5
    subst e4
    have hzk:(false=(match tu.desc with | .int _=>true | _=>false)):=by
     cases hdd:tu.desc<;>rw [hdd] at c1<;>first | rfl | (simp [fJ] at c1)
    have hb:0<te.bytes:=Nat.pos_of_ne_zero c8
    have hsz:0<te.size:=Nat.pos_of_ne_zero c7
    obtain ⟨ho1,ho2⟩:=bd ho
    obtain ⟨q,l,n,c,m1,m2,m3,m4,m5,m6,m7,m8⟩:=hR.own.ok o ho1
    rw [hmf] at m1
    have m1b:aA V.τ b=some (.pointer q):=by rw [<-ho2];exact m1
    obtain ⟨_,_,nx,_,_,_,q3,_,_⟩:=bX hX
    have hXc:=eS (V:=V) m1b q3 m4
    rw [hX] at hXc;cases hXc
    obtain ⟨ie,hie,his,hib,_⟩:=(hG.ty _ _ hte).info
    have hll:=m6 hmf ie hie
    rw [his] at hll
    intro K hK
    have pre:∀{rest:List aX},aj (.d (.rtk o.r n0 te.size)::rest) V.toPE K->nx<=n/\aj rest (aL V.toPE (l.take (nx*te.size))) K:=fun {rest} h=>by
     simp only [aj,aX.sat,D.sat,m2,ao q3] at h
     obtain ⟨⟨_,h1⟩,h2⟩:=h
     have h3:nx*te.size<=n*te.size:=by
      have:((nx*te.size:Nat):Int)<=((n*te.size:Nat):Int):=by rw [<-hll,Int.natCast_mul];exact h1
      omega
     refine ⟨Nat.le_of_mul_le_mul_right h3 hsz,?_⟩
     have:=h2 _ rfl
     rwa [Int.toNat_natCast] at this
    split at hh
    ·rename_i o2 how
     obtain ⟨cc,hh⟩:=bn hh
     cases hh
     simp only [bt,Bool.and_eq_true,decide_eq_true_eq,Bool.not_eq_true'] at cc
     obtain ⟨⟨⟨hmf2,d1⟩,d2⟩,d3⟩:=cc
     have e1:=dB d1;subst e1
     have e2:=IE.eqb_eq _ _ d2;subst e2
     have d3:o2.e=o.e:=d3
     obtain ⟨p1,p2⟩:=bd how
     obtain ⟨hnx,hK⟩:=pre hK
     obtain ⟨r1,f1⟩:=fA hR (l.take (nx*te.size))
     have u1:=kx V.toPE (l.take (nx*te.size))
     obtain ⟨ny,ly,s1,s2,s3,s4⟩:=BI (u:=u) hG hR p1 hmf2 p2 hu hzk (by rw [d3];exact hte) hsz hY
     rw [d3] at s4
     have htot:(eA n0 o2.len).val V.σ=some ((nx+ny:Nat):Int):=by
      rw [Int.natCast_add];exact dR (ao q3) (ao s1)
     have s2':=u1.ρ _ _ s2
     simp only [aj,aX.sat,D.sat,f1,s2',IE.val_up u1.σ _ _ htot] at hK
     obtain ⟨pe,R,w',g1,g2,g3,g4,g5⟩:=wB (K:=K) hG r1 (o:=o) ho1 hmf ho2 ty ht hte (tot:=eA n0 o2.len) (nx:=nx) (ny:=ny) (u1.τ _ _ m1) (bP u1.σ m3) (bP u1.σ m4) (u1.ρ _ _ m2) hnx s4 hb gJ (kP hK.1) hsz s3 (IE.val_up u1.σ _ _ htot) (fun q c l'=>hK.2 q c l')
     exact ⟨pe,R,w',u1.trans g1,g2,g3,g4,g5⟩
    ·cases hh
     obtain ⟨hnx,hK⟩:=pre hK
     obtain ⟨r1,f1⟩:=fA hR (l.take (nx*te.size))
     have u1:=kx V.toPE (l.take (nx*te.size))
     obtain ⟨qy,oy,ny,cy,y1,y2,y3,y4,rfl⟩:=bX hY
     have y1':aM (aL V.toPE (l.take (nx*te.size))).τ b2=some qy:=y1
     have y2':off2.val (aL V.toPE (l.take (nx*te.size))).σ=some (oy:Int):=ao y2
     have y3':n2.val (aL V.toPE (l.take (nx*te.size))).σ=some (ny:Int):=ao y3
     simp only [aj,aX.sat,D.sat,y1',y2',y3'] at hK
     obtain ⟨ly,k1,k2,k3⟩:=hK
     obtain ⟨r2,f2⟩:=fA r1 ly
     simp only [az.at_at,az.at_toPE] at r2 f2
     have u2:=kx (aL V.toPE (l.take (nx*te.size))) ly
     have f1':=u2.ρ _ _ f1
     have f2':aA (aL (aL V.toPE (l.take (nx*te.size))) ly).ρ (Nat.succ s.nr)=some ly:=f2
     have htot:(eA n0 n2).val V.σ=some ((nx+ny:Nat):Int):=by
      rw [Int.natCast_add];exact dR (ao q3) (ao y3)
     simp only [f1',f2',IE.val_up (u1.trans u2).σ _ _ htot] at k3
     have hll2:ly.length=ny*te.size:=by
      have:((ly.length:Nat):Int)=((ny*te.size:Nat):Int):=by rw [k1];simp
      omega
     obtain ⟨o1,_,g1⟩:=iU (c:=cy) hR hll2 hsz k2
     have u3:=u1.trans u2
     obtain ⟨pe,R,w',g1,g2,g3,g4,g5⟩:=wB (K:=K) hG r2 (o:=o) ho1 hmf ho2 ty ht hte (tot:=eA n0 n2) (nx:=nx) (ny:=ny) (u3.τ _ _ m1) (bP u3.σ m3) (bP u3.σ m4) (u3.ρ _ _ m2) hnx (fun d=>⟨hu,hzk,(fun h=>by cases h),hll2,fun _=>⟨by simp [Builtin.lenOf],g1 d⟩⟩) hb gJ (kP k3.1) hsz o1 (IE.val_up u3.σ _ _ htot) (fun q c l'=>k3.2 q c l')
     exact ⟨pe,R,w',u3.trans g1,g2,g3,g4,g5⟩
   ·cases h
  ·cases h
 ·cases h
theorem zI (hG:cv P g) (hR:av P V s B w) {t u:TypeId} (ty:TypeId) {x y v:AV} {X Y:Value} {p:List aX} (h:rG g s t u x y=some (p,v,s')) (hX:x.conc V=some X) (hY:y.conc V=some Y) :
  ∀K:PE->Prop,aj p V.toPE K->∃pe R w',dr V.toPE pe/\K pe/\av P (V.at pe) s' B w'/\v.conc (V.at pe)=some R/\(Builtin.append_ #[t,u] ty #[X,Y]).run P w = .ok R w':=by
 unfold rG at h
 split at h
 ·rename_i ti tu b2 off2 n2 cap2 hti htu
  have ht:=(hG.ty _ _ hti).desc
  have hu:=(hG.ty _ _ htu).desc
  cases hX
  split at h
  ·rename_i e hd
   rw [hd] at ht
   split at h
   ·rename_i te hte
    obtain ⟨cc,h⟩:=bn h
    simp only [bt,Bool.and_eq_true,decide_eq_true_eq,Bool.not_eq_true',decide_eq_false_iff_not] at cc
    obtain ⟨⟨⟨c1,c7⟩,c8⟩,gJ⟩:=cc
    have hzk:(false=(match tu.desc with | .int _=>true | _=>false)):=by
     cases hdd:tu.desc<;>rw [hdd] at c1<;>first | rfl | (simp [fJ] at c1)
    have hb:0<te.bytes:=Nat.pos_of_ne_zero c8
    have hsz:0<te.size:=Nat.pos_of_ne_zero c7
    have f0:∀d,(Builtin.firstCells te.size 0 (.slice none 0 0)).run P { w with drawn:=d } = .ok (#[]:Array Value) { w with drawn:=d }:=fun d=>ek (l:=[]) (by simp) (fun h=>rfl) (fun a ha=>by cases ha) hsz d
    intro K hK
    have fin:∀{ny:Nat} {ly:List Value} {s1:S} {pe1:PE},dr V.toPE pe1->av P (V.at pe1) s1 B w->(∀x∈ly,bK x=some x)->(∀d,Ac P e te u tu false ny Y ly { w with drawn:=d })->n2.val pe1.σ=some (ny:Int)->
      (2*(ny:Int)*(te.bytes:Int)<=281474976710656/\∀(q:Option Addr) (c:Nat) l',l'=[]++ly->(ny:Int)<=(c:Int)->c<=9223372036854775807->(q=none->(ny:Int)=0)->K (aL (bm (be pe1 (.pointer q)) c) l'))->
      ∃pe R w',dr V.toPE pe/\K pe/\av P (V.at pe) { aY (aK (bu s1) 0 9223372036854775807) with own:={ a:=s1.nv,r:=s1.nr,e:=e,len:=n2,cap := .var (nI s1) }::s1.own } B w'/\(AV.sl s1.nv (.lit 0) n2 (.var (nI s1))).conc (V.at pe)=some R/\(Builtin.append_ #[t,u] ty #[.slice none 0 0,Y]).run P w = .ok R w':=by
     intro ny ly s1 pe1 hup1 hR1 hone hS hn hk
     have htot:n2.val pe1.σ=some ((0+ny:Nat):Int):=by rw [Nat.zero_add];exact hn
     obtain ⟨pe,R,w',g1,g2,g3,g4,g5⟩:=oI (ty:=ty) (lx:=[]) (nx:=0) hG hR1 ht hte (tot:=n2) hS hb gJ (by rw [Nat.zero_add];exact kP hk.1) hsz (by simp) (fun h=>rfl) (qx:=none) f0 (by simpa using hone) (fun _=>rfl) htot (K:=K) (fun q c l' h1 h2 h3 h4=>hk.2 q c l' h1 (by rw [Nat.zero_add] at h2;exact h2) h3 (fun h=>by have:=h4 h;rw [Nat.zero_add] at this;exact this))
     exact ⟨pe,R,w',hup1.trans g1,g2,g3,g4,g5⟩
    split at h
    ·rename_i o2 how
     obtain ⟨cc,h⟩:=bn h
     cases h
     simp only [bt,Bool.and_eq_true,decide_eq_true_eq,Bool.not_eq_true'] at cc
     obtain ⟨⟨⟨hmf2,d1⟩,d2⟩,d3⟩:=cc
     have e1:=dB d1;subst e1
     have e2:=IE.eqb_eq _ _ d2;subst e2
     have d3:o2.e=e:=d3
     subst d3
     obtain ⟨p1,p2⟩:=bd how
     obtain ⟨_,_,ny0,_,y1,y2,_,_,_⟩:=bX hY
     have e5:=mA y1 y2 hK
     obtain ⟨r1,f1⟩:=fA hR []
     have u1:=kx V.toPE []
     obtain ⟨ny,ly,s1,s2,s3,s4⟩:=BI (u:=u) hG hR p1 hmf2 p2 hu hzk hte hsz hY
     have s2':=u1.ρ _ _ s2
     have y3':o2.len.val (aL V.toPE []).σ=some (ny:Int):=ao s1
     simp only [aj,aX.sat,D.sat,y3',f1,s2'] at e5
     exact fin u1 r1 s3 s4 y3' e5
    ·cases h
     obtain ⟨qy,oy,ny,cy,y1,y2,y3,y4,rfl⟩:=bX hY
     have e5:=mA y1 y2 hK
     obtain ⟨r1,f1⟩:=fA hR []
     have u1:=kx V.toPE []
     have y1':aM (aL V.toPE []).τ b2=some qy:=y1
     have y2':off2.val (aL V.toPE []).σ=some (oy:Int):=ao y2
     have y3':n2.val (aL V.toPE []).σ=some (ny:Int):=ao y3
     simp only [aj,aX.sat,D.sat,y1',y2',y3'] at e5
     obtain ⟨ly,k1,k2,k3⟩:=e5
     obtain ⟨r2,f2⟩:=fA r1 ly
     simp only [az.at_at,az.at_toPE] at r2 f2
     have u2:=kx (aL V.toPE []) ly
     have f1':=u2.ρ _ _ f1
     have f2':aA (aL (aL V.toPE []) ly).ρ (Nat.succ s.nr)=some ly:=f2
     have y3'':=IE.val_up (u1.trans u2).σ _ _ (ao y3)
     simp only [f1',f2',y3''] at k3
     have hll:ly.length=ny*te.size:=by
      have:((ly.length:Nat):Int)=((ny*te.size:Nat):Int):=by rw [k1];simp
      omega
     obtain ⟨o1,_,g1⟩:=iU (c:=cy) hR hll hsz k2
     exact fin (u1.trans u2) r2 o1 (fun d=>⟨hu,hzk,(fun h=>by cases h),hll,fun _=>⟨by simp [Builtin.lenOf],g1 d⟩⟩) y3'' k3
   ·cases h
  ·cases h
 ·cases h
theorem zK (hG : cv P g) (hR : av P V s B w) {t u : TypeId} (ty : TypeId) {x y v : AV} {X Y : Value} {p : List aX} (h : rI g s t u x y = some (p, v, s')) (hX : x.conc V = some X) (hY : y.conc V = some Y) :
  ∀K:PE->Prop,aj p V.toPE K->∃pe R w',dr V.toPE pe/\K pe/\av P (V.at pe) s' B w'/\v.conc (V.at pe)=some R/\(Builtin.append_ #[t,u] ty #[X,Y]).run P w = .ok R w':=by
 unfold rI at h
 split at h
 ·rename_i ti tu e hti htu
  have ht:=(hG.ty _ _ hti).desc
  have hu:=(hG.ty _ _ htu).desc
  cases hX
  split at h
  ·rename_i et hd
   rw [hd] at ht
   split at h
   ·rename_i te hte
    split at h
    ·rename_i z hz
     obtain ⟨cc,h⟩:=bn h
     cases h
     rw [aO] at cc
     simp only [bt,nO,Bool.and_eq_true,decide_eq_true_eq,Bool.not_eq_true',decide_eq_false_iff_not] at cc
     obtain ⟨⟨⟨⟨⟨⟨c1,d1⟩,c7⟩,c8⟩,c9⟩,d6⟩,gJ⟩:=cc
     have hzk:(true=(match tu.desc with | .int _=>true | _=>false)):=by
      cases hdd:tu.desc<;>rw [hdd] at c1<;>first | rfl | (simp [fJ] at c1)
     have hb:0<te.bytes:=Nat.pos_of_ne_zero c8
     have hsz:0<te.size:=Nat.pos_of_ne_zero c7
     obtain ⟨zi,hzi,rfl⟩:=aC hY
     obtain ⟨i,zv,hi,hiz,his,hzc,hzl⟩:=ed (V:=V) hG hte hz
     intro K hK
     have zrow:∀{pe:PE} {K:PE->Prop} {e':IE} {z':Int} {rest:List aX},dr V.toPE pe->e'.val pe.σ=some z'->aj (.d (.zrow e' z.cells)::rest) pe K->0<=z'/\z'<=1000000/\aj rest (aL pe (cP z'.toNat zv.cells.toList)) K:=fun {pe K e' z' rest} hup he h=>by
      simp only [aj,aX.sat,D.sat,he] at h
      split at h
      ·rename_i z0 xs g1 g2
       cases g1
       have hxs:concL (V.at pe) z.cells=some xs:=aG (fE (V.at pe)) g2
       rw [aG (aD hup) hzl] at hxs
       cases hxs
       exact ⟨h.1.1,h.1.2,h.2 _ rfl⟩
      ·exact h.elim
     obtain ⟨_,_,hK⟩:=zrow (dr.refl _) (show (IE.lit 0).val V.toPE.σ=some 0 from rfl) hK
     have e0:cP (0:Int).toNat zv.cells.toList=[]:=rfl
     rw [e0] at hK
     obtain ⟨r1,f1⟩:=fA hR []
     have u1:=kx V.toPE []
     obtain ⟨b1,b2,hK⟩:=zrow u1 (IE.val_up u1.σ _ _ hzi) hK
     obtain ⟨n,rfl⟩:=Int.eq_ofNat_of_zero_le b1
     rw [Int.toNat_natCast] at hK
     have hn:n<=1000000:=by omega
     obtain ⟨r2,f2⟩:=fA r1 (cP n zv.cells.toList)
     simp only [az.at_at,az.at_toPE] at r2 f2
     have u2:=kx (aL V.toPE []) (cP n zv.cells.toList)
     have f1':=u2.ρ _ _ f1
     have f2':aA (aL (aL V.toPE []) (cP n zv.cells.toList)).ρ (Nat.succ s.nr)=some (cP n zv.cells.toList):=f2
     have y3:=IE.val_up (u1.trans u2).σ _ _ hzi
     simp only [aj,aX.sat,D.sat,f1',f2',y3] at hK
     have hone:∀x∈cP n zv.cells.toList,bK x=some x:=kc (V:=V) (iR hzl n) (by
      have:∀k,bQ (cP k z.cells)=true:=by
       intro k
       have app:∀(l m:List AV),bQ l=true->bQ m=true->bQ (l++m)=true:=by
        intro l
        induction l with
        | nil=>intro m _ h;exact h
        | cons x l ih=>intro m h1 h2;simp only [bQ,Bool.and_eq_true,List.cons_append] at h1 ⊢;exact ⟨h1.1,ih m h1.2 h2⟩
       induction k with
       | zero=>rfl
       | succ k ih=>exact app _ _ d6 ih
      exact this n)
     have hll:(cP n zv.cells.toList).length=n*te.size:=by rw [dE,aW hzl,d1]
     have hS:∀d,Ac P et te u tu true n (.int .i64 (n:Int)) (cP n zv.cells.toList) { w with drawn:=d }:=fun d=>
      ⟨hu,hzk,fun _=>⟨⟨_,rfl⟩,hn,c9,fun w=>by simp only [zeroValue,typeInfo,Sem.run_bind,run_program,Result.andThen_ok,hi,Sem.run_pure,hiz,gy]⟩,hll,fun h=>by cases h⟩
     have f0:∀d,(Builtin.firstCells te.size 0 (.slice none 0 0)).run P { w with drawn:=d } = .ok (#[]:Array Value) { w with drawn:=d }:=fun d=>ek (l:=[]) (by simp) (fun h=>rfl) (fun a ha=>by cases ha) hsz d
     have htot:e.val (aL (aL V.toPE []) (cP n zv.cells.toList)).σ=some ((0+n:Nat):Int):=by rw [Nat.zero_add];exact y3
     obtain ⟨pe,R,w',g1,g2,g3,g4,g5⟩:=oI (ty:=ty) (lx:=[]) (nx:=0) hG r2 ht hte (tot:=e) hS hb gJ (by rw [Nat.zero_add];exact kP hK.1) hsz (by simp) (fun h=>rfl) (qx:=none) f0 (by simpa using hone) (fun _=>rfl) htot (K:=K) (fun q c l' h1 h2 h3 h4=>hK.2 q c l' h1 (by rw [Nat.zero_add] at h2;exact h2) h3 (fun h=>by have:=h4 h;rw [Nat.zero_add] at this;exact this))
     exact ⟨pe,R,w',(u1.trans u2).trans g1,g2,g3,g4,g5⟩
    ·cases h
   ·cases h
  ·cases h
 ·cases h
theorem zH (hG:cv P g) (hR:av P V s B w) {t u:TypeId} (ty:TypeId) {x y v:AV} {X Y:Value} {p:List aX} (h:rF g s t u x y=some (p,v,s')) (hX:x.conc V=some X) (hY:y.conc V=some Y) :
  ∀K:PE->Prop,aj p V.toPE K->∃pe R w',dr V.toPE pe/\K pe/\av P (V.at pe) s' B w'/\v.conc (V.at pe)=some R/\(Builtin.append_ #[t,u] ty #[X,Y]).run P w = .ok R w':=by
 unfold rF at h
 split at h
 ·rename_i ti tu b off n0 c0 hti htu
  have ht:=(hG.ty _ _ hti).desc
  have hu:=(hG.ty _ _ htu).desc
  split at h
  ·rename_i e o hd ho
   rw [hd] at ht
   split at h
   ·rename_i te hte
    split at h
    ·rename_i k new hsrc
     obtain ⟨cc,hh⟩:=bn h
     clear h
     cases hh
     simp only [bt,Bool.and_eq_true,decide_eq_true_eq,Bool.not_eq_true'] at cc
     obtain ⟨⟨⟨⟨⟨hmf,c1⟩,c2⟩,c3⟩,c4⟩,c6⟩:=cc
     have e1:=dB c2;subst e1
     have e2:=IE.eqb_eq _ _ c3;subst e2
     have e3:=IE.eqb_eq _ _ c4;subst e3
     subst c6
     have hzk:(false=(match tu.desc with | .int _=>true | _=>false)):=by
      cases hdd:tu.desc<;>rw [hdd] at c1<;>first | rfl | (simp [fJ] at c1)
     have happ:iT s te y false=some (0,new):=hsrc
     obtain ⟨vs,hvs,hS⟩:=wd hG hR hte hu hzk happ hY
     have hvl:vs=[]:=List.length_eq_zero_iff.1 (by rw [(hS w.drawn).len];simp)
     subst hvl
     obtain ⟨ho1,ho2⟩:=bd ho
     obtain ⟨q,l,n,c,m1,m2,m3,m4,m5,m6,m7,m8⟩:=hR.own.ok o ho1
     rw [hmf] at m1
     have m1b:aA V.τ b=some (.pointer q):=by rw [<-ho2];exact m1
     have hXc:=eS (V:=V) m1b m3 m4
     have hX':=hX
     rw [hX] at hXc;cases hXc
     intro K hK
     refine ⟨V.toPE,.slice q n c,w,dr.refl _,hK,hR,hX',?_⟩
     cases hq:q with
     | none=>
      have hc0:=(m7 hq).1
      have hn0:n=0:=by have:=m5.1.1;omega
      rw [hc0,hn0]
      exact jj hG ht hte (hS w.drawn)
     | some a=>exact gI (n:=0) hG ht hte (hS w.drawn) (by have:=m5.1.1;omega) rfl
    ·cases h
   ·cases h
  ·cases h
 ·cases h
theorem qP {d:TypeDesc} {K K':Value} {c:Bool} (hk:((∃kk z,K = .int kk z)/\∃k0,d = .int k0)\/((∃b,K = .string b)/\d = .string)) (h:dh K K'=some c):Instr.sameNow d K K'=some c:=by
 rcases hk with ⟨⟨kk,z,rfl⟩,k0,rfl⟩ | ⟨⟨b,rfl⟩,rfl⟩
 ·cases K'<;>first | (cases h;done) | exact h
 ·cases K'<;>first | (cases h;done) | exact h
theorem DN {a b:ByteArray} (h:(a==b)=true):a=b:=by
 rw [beq_toListBytes] at h
 have h:=eq_of_beq h
 rw [ByteArray.toList_eq,ByteArray.toList_eq] at h
 obtain ⟨⟨x⟩⟩:=a
 obtain ⟨⟨y⟩⟩:=b
 simp only at h
 rw [h]
theorem xG:∀(xs ys:List Value),jc xs ys=some true->ys=xs:=by
 intro xs
 induction xs with
 | nil=>intro ys h;cases ys with | nil=>rfl | cons _ _=>cases h
 | cons x xs ih =>
  intro ys h
  cases x<;>try (cases h;done)
  cases ys with
  | nil=>cases h
  | cons y ys =>
   cases y<;>try (cases h;done)
   simp only [jc] at h
   split at h
   ·rename_i hk;subst hk
    split at h
    ·rename_i r hr
     injection h with h
     rw [Bool.and_eq_true] at h
     obtain ⟨h1,rfl⟩:=h
     rw [ih ys hr,eq_of_beq h1]
    ·cases h
   ·cases h
theorem zp {K K':Value} (h:dh K K'=some true):K'=K:=by
 unfold dh at h
 split at h
 ·split at h
  ·rename_i hk;subst hk;injection h with h;have:=eq_of_beq h;subst this;rfl
  ·cases h
 ·injection h with h;rw [DN h]
 ·rename_i a b
  obtain ⟨a⟩:=a
  obtain ⟨b⟩:=b
  rw [xG a b h]
 ·cases h
theorem CN {K:Value}:∀(ms:List MapEntry) (i:Nat) (f:Option (Nat×Value)),bb K (ms.map jF) i=some f->
  ∀j v,f=some (j,v)->i<=j/\∃e,ms[j-i]? = some e/\e.key=K/\e.val=v:=by
 intro ms
 induction ms with
 | nil=>intro i f h j v hf;cases h;cases hf
 | cons e ms ih =>
  intro i f h j v hf
  simp only [List.map_cons,jF,bb] at h
  split at h
  ·rename_i hs
   cases h
   cases hf;exact ⟨Nat.le_refl _,e,by simp,zp hs,rfl⟩
  ·rename_i hs
   obtain ⟨a1,e',a2,a3,a4⟩:=ih (Nat.succ i) f h j v hf
   refine ⟨by omega,e',?_,a3,a4⟩
   rw [show j-i=(j-Nat.succ i)+1 by omega]
   simpa using a2
  ·cases h
theorem CO {d:TypeDesc} {K:Value} (hk:((∃kk z,K = .int kk z)/\∃k0,d = .int k0)\/((∃b,K = .string b)/\d = .string)):∀(ms:List MapEntry) (i:Nat) (f:Option (Nat×Value)),bb K (ms.map jF) i=some f->
  Instr.findNow d K ms i=some f:=by
 intro ms
 induction ms with
 | nil=>intro i f h;cases h;rfl
 | cons e ms ih =>
  intro i f h
  simp only [List.map_cons,jF,bb] at h
  split at h
  ·rename_i hs
   cases h
   simp only [Instr.findNow,qP hk hs]
  ·rename_i hs
   simp only [Instr.findNow,qP hk hs];exact ih (Nat.succ i) f h
  ·cases h
theorem CM (hG:cv P g) {kt:TypeId} {d:TypeDesc} {ks:List IntKind} {zs:List Int} (hu:P.underlying kt=some d) (hs:∃fs,d = .struct fs) (hk:iB g 100 kt=some ks) (hz:ks.length=zs.length) (w:World):∀(ms:List MapEntry) (i:Nat) (f:Option (Nat×Value)),bb (.agg (jn ks zs).toArray) (ms.map jF) i=some f->
  (Instr.findAsking kt (.agg (jn ks zs).toArray) ms i).run P w = .ok f w:=by
 intro ms
 induction ms with
 | nil=>intro i f h;cases h;rfl
 | cons e ms ih =>
  intro i f h
  simp only [List.map_cons,jF,bb] at h
  split at h
  ·rename_i hsm
   cases h
   simp only [Instr.findAsking,Sem.run_bind,(l7 hG hu hs hk hz hsm w).1,Result.andThen_ok,if_true,Sem.run_pure]
  ·rename_i hsm
   simp only [Instr.findAsking,Sem.run_bind,(l7 hG hu hs hk hz hsm w).1,Result.andThen_ok,Bool.false_eq_true,if_false]
   exact ih (Nat.succ i) f h
  ·cases h
theorem tL (hG:cv P g) {kt:TypeId} {d:TypeDesc} {K:Value} (hu:P.underlying kt=some d) (hk:FE P g kt d K) {ms:List MapEntry} {f:Option (Nat×Value)} (h:bb K (ms.map jF) 0=some f) (w:World) :
  (Instr.findKey kt K ms).run P w = .ok f w:=by
 rcases hk with hk | ⟨⟨fs,rfl⟩,⟨ks,zs,h1,h2,rfl⟩,_⟩
 ·simp only [Instr.findKey,Sem.run_bind,run_underlying hu,Result.andThen_ok,CO hk ms 0 f h,Sem.run_pure]
 ·rw [run_findKey_eq w (by rw [hu])]
  exact CM hG hu ⟨fs,rfl⟩ h1 h2 w ms 0 f h
theorem ut {kt:TypeId} {d:TypeDesc} {K:Value} (hu:P.underlying kt=some d) (hk:((∃kk z,K = .int kk z)/\∃k0,d = .int k0)\/((∃b,K = .string b)/\d = .string)) (e:Bool) (w:World) (n:Nat):(Instr.checkKey e (n+1) kt K).run P w = .ok () w:=by
 rcases hk with ⟨⟨kk,z,rfl⟩,k0,rfl⟩ | ⟨⟨b,rfl⟩,rfl⟩<;>simp only [Instr.checkKey,Sem.run_bind,run_underlying hu,Result.andThen_ok,Sem.run_pure]
theorem jH {kt:TypeId} {d:TypeDesc} {K:Value} (hu:P.underlying kt=some d) (hk:FE P g kt d K) (e:Bool) (w:World):(Instr.checkKey e 10000 kt K).run P w = .ok () w:=by
 rcases hk with hk | ⟨_,_,h⟩
 ·exact ut hu hk e w 9999
 ·exact (h e).1 w
theorem uu {kt:TypeId} {d:TypeDesc} {K:Value} (hk:FE P g kt d K):Instr.sameBits 10000 K K=true:=by
 rcases hk with hk | ⟨_,_,h⟩
 ·rcases hk with ⟨⟨kk,z,rfl⟩,k0,rfl⟩ | ⟨⟨b,rfl⟩,rfl⟩
  ·show (_==_&&_==_)=true
   rw [beq_self_eq_true,beq_self_eq_true];rfl
  ·show (_==_)=true
   rw [beq_toListBytes,beq_self_eq_true]
 ·exact (h true).2
theorem vW (hR:av P V s B w) {a:Nat} {o:cL} (ho:bB s.own a=some o) (hm:o.m=true):∃b ms clock n c,aA V.τ a=some (.map (some b))/\aA V.ρ o.r=some (List.map jF ms)/\w.heap[b]? = some (.map ms.toArray clock)/\B.heap.size<=b/\V.mem b=none/\mX V s.heap b/\
  aQ V.σ o.len=some n/\aQ V.σ o.cap=some c/\(n<=c/\c<=9223372036854775807):=by
 obtain ⟨ho1,ho2⟩:=bd ho
 obtain ⟨q,l,n,c,m1,m2,m3,m4,m5,m6,m7,m8⟩:=hR.own.ok o ho1
 cases q with
 | none=>have:=(m7 rfl).2;rw [hm] at this;cases this
 | some p=>
  obtain ⟨e1,e2,e3,e4,e5,ob,e6,e7⟩:=m8 p rfl
  unfold fu at e7
  rw [hm] at e7
  obtain ⟨ms,clock,rfl,rfl⟩:=e7
  rw [ho2,hm] at m1
  exact ⟨p.block,ms,clock,n,c,m1,m2,e6,e3,e4,e5,m3,m4,m5.1⟩
theorem ta {V:az} {a b:Nat} {X:Value} (h:aA V.τ a=some (.map (some b))) (hX:(AV.opq a).conc V=some X):X = .map (some b):=by
 have hX:lq V.toPE a=some X:=hX
 unfold lq at hX
 rw [h] at hX
 cases hX;rfl
theorem rt (hR:av P V s B w) {a:Nat} {o:cL} (ho:bB s.own a=some o) (hm:o.m=true) {b:Nat} {ms ms':List MapEntry} {clock clock' n c:Nat} (h1:aA V.τ a=some (.map (some b))) (h3:w.heap[b]? = some (.map ms.toArray clock)) (h4:B.heap.size<=b) (h5:V.mem b=none)
  (h6:mX V s.heap b) (h7:aQ V.σ o.len=some n) (h8:aQ V.σ o.cap=some c) (h9:n<=c/\c<=9223372036854775807) :
  av P (V.at (aL V.toPE (List.map jF ms'))) { aY s with own:={ o with r:=s.nr }::bc s.own a } B { w with heap:=w.heap.setIfInBounds b (.map ms'.toArray clock') }:=by
 obtain ⟨ho1,ho2⟩:=bd ho
 obtain ⟨r1,r2⟩:=fA hR (List.map jF ms')
 have hlt:b<w.heap.size:=(Array.getElem?_eq_some_iff.1 h3).1
 refine r1.ownPut (q:=b) (own':=bc s.own a) (new:={ o with r:=s.nr }) (fun o' h=>(am h).1) (eN hR.own.nd) (fun o' h=>by rw [ho2];exact (am h).2) (fun o' h p hp => ?_) h4 h5 h6
  (fun k hk => ?_) (by simp) rfl rfl rfl (by show aA V.τ o.a=some (gP o.m _);rw [ho2,hm];exact h1) r2 h7 h8 ⟨h9,fun e=>by rw [show ({ o with r:=s.nr }:cL).m=o.m from rfl,hm] at e;cases e⟩ (fun e=>by rw [show ({ o with r:=s.nr }:cL).m=o.m from rfl,hm] at e;cases e) ⟨.map ms'.toArray clock',?_,?_⟩
 ·exact hR.own.dj o' (am h).1 o ho1 p ⟨b,0,none⟩ (by rw [ho2];exact (am h).2) hp (by rw [ho2,hm];exact h1)
 ·show (w.heap.setIfInBounds b _)[k]? = _
  rw [Array.getElem?_setIfInBounds_ne (fun e=>hk e.symm)]
 ·show (w.heap.setIfInBounds b _)[b]? = _
  simp [hlt]
 ·unfold fu
  simp only [hm]
  exact ⟨ms',clock',rfl,rfl⟩
theorem za {V:az} {r:Nat} {l:List Value} (hr:aA V.ρ r=some l) (h1:∀x∈l,bK x=some x):∀(n i:Nat),i+n=l.length->concL V (u6 r (.lit 0) n i)=some (l.drop i):=by
 intro n
 induction n with
 | zero=>intro i h;rw [List.drop_eq_nil_of_le (by omega)];rfl
 | succ n ih=>
  intro i h
  have hi:i<l.length:=by omega
  rw [List.drop_eq_getElem_cons hi]
  refine ax ?_ (ih (i+1) (by omega))
  show tJ V.toPE r (lh (.lit 0) i)=some l[i]
  have hp:aQ V.σ (lh (.lit 0) i)=some (0+i):=oU i rfl
  rw [Nat.zero_add] at hp
  exact oX hr hp (List.getElem?_eq_getElem hi) (h1 _ (List.getElem_mem hi))
theorem Dn (hG : cv P g) (hR : av P V s B w) {t : TypeId} {m k v : AV} {X Y : Value} {ok : Bool} {p : List aX} (h : wl g s t m k ok = some (p, v, s')) (hX : m.conc V = some X) (hY : k.conc V = some Y) :
  ∀K:PE->Prop,aj p V.toPE K->∃pe R,dr V.toPE pe/\K pe/\av P (V.at pe) s' B w/\v.conc (V.at pe)=some R/\(Instr.lookup t X Y ok).run P w = .ok R w:=by
 unfold wl at h
 split at h
 ·rename_i ti a hti
  have hu:=(hG.ty _ _ hti).desc
  split at h
  ·rename_i kt et o hd ho
   rw [hd] at hu
   split at h
   ·rename_i tk te htk hte
    have hk:=(hG.ty _ _ htk).desc
    split at h
    ·rename_i z hz
     cases c:(o.m&&wZ g kt tk.desc (mg s k)&&Nat.beq (bF z.cells) te.size&&(gj z||Nat.beq te.size 1)) with
     | false=>rw [c] at h;cases h
     | true =>
      rw [c] at h;simp only [cond_true] at h
      rw [aO] at c
      simp only [bt,Bool.and_eq_true,Bool.or_eq_true,decide_eq_true_eq] at c
      obtain ⟨⟨⟨c1,c2⟩,c3⟩,c5⟩:=c
      obtain ⟨b,ms,clock,n,cc,m1,m2,m3,m4,m5,m6,m7,m8,m9⟩:=vW hR ho c1
      have:=ta m1 hX;subst this
      have hY:=pm hR hY
      have kk:=pU hG c2 hY
      obtain ⟨i,zv,hi,hiz,his,hzc,hzl⟩:=ed (V:=V) hG hte hz
      injection h with h
      simp only [Prod.mk.injEq] at h
      obtain ⟨rfl,rfl,rfl⟩:=h
      intro K hK
      simp only [aj,aX.sat,D.sat,m2] at hK
      split at hK
      ·rename_i l0 x0 zs g1 g2 g3
       cases g1
       have e1:=aF (fE V) _ _ g2
       rw [hY] at e1;cases e1
       have e2:concL V z.cells=some zs:=aG (fE V) g3
       obtain ⟨f,hf,hK⟩:=hK
       obtain ⟨l',⟨q1,q2,q3⟩,hK⟩:=hK (rq f) rfl
       obtain ⟨r1,b1⟩:=C4 hR (rq f)
       obtain ⟨r2,b2⟩:=fA r1 l'
       simp only [az.at_at,az.at_toPE] at r2 b2
       have hup:=(HQ V.toPE (rq f)).trans (kx _ l')
       have hlen:l'.length=te.size:=by rw [q1,aW e2,c3]
       have hbv:(AV.bx (.var s.nb)).conc (V.at (aL (nm V.toPE (rq f)) l'))=some (.bool (rq f)):=eZ b1
       rw [hzl] at e2
       have hzs:zv.cells.toList=zs:=Option.some.inj e2
       -- the value
       have hv:(bif gj z then AV.agg (u6 s.nr (.lit 0) te.size 0) else .rc s.nr (.lit 0)).conc (V.at (aL (nm V.toPE (rq f)) l'))=some (lS (gj z) l'):=by
        cases hz2:gj z with
        | true=>
         simp only [cond_true,lS]
         have:=za (V:=V.at (aL (nm V.toPE (rq f)) l')) b2 q2 te.size 0 (by omega)
         rw [List.drop_zero] at this
         exact gd this
        | false =>
         rw [hz2] at c5
         have c5':te.size=1:=by simpa using c5
         simp only [cond_false,lS]
         match l',hlen with
         | [x],_=>
          refine oX (l:=[x]) (o:=0) b2 rfl rfl (q2 x (List.mem_cons_self ..))
         | [],hl=>simp at hl;omega
         | _::_::_,hl=>simp at hl;omega
       have hfind:=tL (P:=P) hG hk kk hf w
       have hck:(Instr.checkKey ms.toArray.isEmpty 10000 kt Y).run P w = .ok () w:=jH (P:=P) hk kk ms.toArray.isEmpty w
       have hval : (do
         let (v,b) <-match f with
          | some (_,v)=>pure (v,true)
          | none=>pure (<-zeroValue et,false)
         pure (if ok then .tuple #[v,.bool b] else v):Sem Value).run P w = .ok (if ok then .tuple #[lS (gj z) l',.bool (rq f)] else lS (gj z) l') w:=by
        cases f with
        | some f=>
         obtain ⟨j,v⟩:=f
         simp only at q3
         subst q3
         simp only [Sem.run_bind,Sem.run_pure,Result.andThen_ok,rq]
        | none =>
         simp only at q3
         subst q3
         have hzr:(zeroValue et).run P w = .ok zv w:=by simp [zeroValue,typeInfo,hi,hiz]
         have hzp:zv=lS (gj z) l':=by
          cases z with
          | agg lz=>
           obtain ⟨vs,rfl,hvs⟩:=cg hzc
           simp only [gj,lS]
           rw [<-hzs];rfl
          | _ =>
           all_goals
            have hcell:=cC hzc
            simp only [gj,lS]
            rw [<-hzs]
            have h1:=hzc
            have h2:=ax hzc (cA V)
            rw [show AV.cells _=[_] from rfl] at hcell
            rw [h2] at hcell
            injection hcell with hcell
            rw [<-hcell];rfl
         simp only [Sem.run_bind,hzr,Result.andThen_ok,Sem.run_pure,rq,<-hzp]
       refine ⟨_,(if ok then .tuple #[lS (gj z) l',.bool (rq f)] else lS (gj z) l'),hup,hK,r2,?_,?_⟩
       ·cases ok
        ·exact hv
        ·exact qv (ax hv (ax hbv (cA _)))
       ·have:(Instr.lookup t (.map (some b)) Y ok).run P w=((do
          let (v,b) <-match f with
           | some (_,v)=>pure (v,true)
           | none=>pure (<-zeroValue et,false)
          pure (if ok then .tuple #[v,.bool b] else v):Sem Value)).run P w:=by
         simp only [Instr.lookup,Sem.run_bind,run_underlying hu,Result.andThen_ok,ci m3,hck,Sem.run_pure,hfind]
         cases f<;>rfl
        rw [this];exact hval
      ·exact hK.elim
    ·cases h
   ·cases h
  ·cases h
 ·cases h
theorem vl (hG : cv P g) (hR : av P V s B w) {t : TypeId} {m k u v : AV} {X Y U : Value} {p : List aX} (h : qq g s t m k u = some (p, v, s')) (hX : m.conc V = some X) (hY : k.conc V = some Y) (hU : u.conc V = some U) :
  ∀K:PE->Prop,aj p V.toPE K->∃pe w',dr V.toPE pe/\K pe/\av P (V.at pe) s' B w'/\v=gx/\(Instr.mapUpdate t X Y U).run P w = .ok () w':=by
 unfold qq at h
 split at h
 ·rename_i ti a hti
  have hu:=(hG.ty _ _ hti).desc
  split at h
  ·rename_i kt et o hd ho
   rw [hd] at hu
   split at h
   ·rename_i tk htk
    have hk:=(hG.ty _ _ htk).desc
    cases c:(o.m&&wZ g kt tk.desc (mg s k)) with
    | false=>rw [c] at h;cases h
    | true =>
     rw [c] at h;simp only [cond_true] at h;cases h
     simp only [Bool.and_eq_true] at c
     obtain ⟨b,ms,clock,n,cc,m1,m2,m3,m4,m5,m6,m7,m8,m9⟩:=vW hR ho c.1
     have:=ta m1 hX;subst this
     have hY:=pm hR hY
     have kk:=pU hG c.2 hY
     intro K hK
     simp only [aj,aX.sat,D.sat,m2] at hK
     split at hK
     ·rename_i l0 x0 y0 g1 g2 g3
      cases g1
      have e1:=aF (fE V) _ _ g2
      rw [hY] at e1;cases e1
      have e2:=aF (fE V) _ _ g3
      rw [pm hR hU] at e2;cases e2
      obtain ⟨f,hf,hK⟩:=hK
      have hfind:=tL (P:=P) hG hk kk hf w
      have hck:(Instr.checkKey false 10000 kt Y).run P w = .ok () w:=jH (P:=P) hk kk false w
      have hfn:=CN ms 0 f hf
      have hsb:=uu kk
      cases f with
      | none =>
       have hl:List.map jF (ms++[⟨Y,U,clock⟩])=List.map jF ms++[.tuple #[Y,U]]:=by simp [jF]
       refine ⟨_,{ w with heap:=w.heap.setIfInBounds b (.map (ms++[⟨Y,U,clock⟩]:List MapEntry).toArray (clock+1)) },kx _ _,hK _ rfl,?_,rfl,?_⟩
       ·have:=rt (ms':=ms++[⟨Y,U,clock⟩]) (clock':=clock+1) hR ho c.1 m1 m3 m4 m5 m6 m7 m8 m9
        rw [hl] at this
        exact this
       ·simp only [Instr.mapUpdate,Sem.run_bind,run_underlying hu,Result.andThen_ok,ci m3,hck,hfind,dF _ m3]
        congr 4
        simp
      | some f =>
       obtain ⟨j,v0⟩:=f
       obtain ⟨_,e,a2,a3,a4⟩:=hfn j v0 rfl
       rw [Nat.sub_zero] at a2
       have hl:List.map jF (ms.modify j fun e=>{ e with key:=Y,val:=U })=(List.map jF ms).set j (.tuple #[Y,U]):=by
        apply List.ext_getElem?
        intro i
        rw [List.getElem?_map,List.getElem?_modify,List.getElem?_set]
        by_cases hij:j=i
        ·subst hij
         have hjl:j<ms.length:=(List.getElem?_eq_some_iff.1 a2).1
         simp [a2,jF,hjl]
        ·simp [hij]
       refine ⟨_,{ w with heap:=w.heap.setIfInBounds b (.map (ms.modify j fun e=>{ e with key:=Y,val:=U }).toArray clock) },kx _ _,hK _ rfl,?_,rfl,?_⟩
       ·have:=rt (ms':=ms.modify j fun e=>{ e with key:=Y,val:=U }) (clock':=clock) hR ho c.1 m1 m3 m4 m5 m6 m7 m8 m9
        rw [hl] at this
        exact this
       ·have hkt:(Instr.keyThatStays (((ms.toArray[j]?).map (·.key)).getD Y) Y).run P w = .ok Y w:=by
         have:((ms.toArray[j]?).map (·.key)).getD Y=Y:=by simp [a2,a3]
         rw [this]
         simp only [Instr.keyThatStays,hsb,if_true,Sem.run_pure]
        simp only [Instr.mapUpdate,Sem.run_bind,run_underlying hu,Result.andThen_ok,ci m3,hck,hfind,hkt,dF _ m3]
        congr 4
        simp
     ·exact hK.elim
   ·cases h
  ·cases h
 ·cases h
theorem CQ:∀(l:List MapEntry) (j:Nat),List.map jF (l.eraseIdx j)=(List.map jF l).eraseIdx j:=by
 intro l
 induction l with
 | nil=>intro j;simp
 | cons x l ih=>intro j;cases j<;>simp [ih]
theorem Dk (hG : cv P g) (hR : av P V s B w) {t : TypeId} (ts : List TypeId) (ty : TypeId) {m k v : AV} {X Y : Value} {p : List aX} (h : wi g s t m k = some (p, v, s')) (hX : m.conc V = some X) (hY : k.conc V = some Y) :
  ∀K:PE->Prop,aj p V.toPE K->∃pe w',dr V.toPE pe/\K pe/\av P (V.at pe) s' B w'/\v = .tup []/\(Builtin.delete_ ⟨t::ts⟩ ty #[X,Y]).run P w = .ok (.tuple #[]) w':=by
 unfold wi at h
 split at h
 ·rename_i ti a hti
  have hu:=(hG.ty _ _ hti).desc
  split at h
  ·rename_i kt et o hd ho
   rw [hd] at hu
   split at h
   ·rename_i tk htk
    have hk:=(hG.ty _ _ htk).desc
    cases c:(o.m&&wZ g kt tk.desc (mg s k)) with
    | false=>rw [c] at h;cases h
    | true =>
     rw [c] at h;simp only [cond_true] at h;cases h
     simp only [Bool.and_eq_true] at c
     obtain ⟨b,ms,clock,n,cc,m1,m2,m3,m4,m5,m6,m7,m8,m9⟩:=vW hR ho c.1
     have:=ta m1 hX;subst this
     have hY:=pm hR hY
     have kk:=pU hG c.2 hY
     intro K hK
     simp only [aj,aX.sat,D.sat,m2] at hK
     split at hK
     ·rename_i l0 x0 g1 g2
      cases g1
      have e1:=aF (fE V) _ _ g2
      rw [hY] at e1;cases e1
      obtain ⟨f,hf,hK⟩:=hK
      have hfind:=tL (P:=P) hG hk kk hf w
      have hck:(Instr.checkKey ms.toArray.isEmpty 10000 kt Y).run P w = .ok () w:=jH (P:=P) hk kk ms.toArray.isEmpty w
      cases f with
      | none=>
       refine ⟨_,{ w with heap:=w.heap.setIfInBounds b (.map ms.toArray clock) },kx _ _,hK _ rfl,?_,rfl,?_⟩
       ·exact rt (ms':=ms) (clock':=clock) hR ho c.1 m1 m3 m4 m5 m6 m7 m8 m9
       ·simp only [Builtin.delete_,List.getElem?_toArray,List.getElem?_cons_zero,List.getElem?_cons_succ,Sem.run_bind,run_underlying hu,Result.andThen_ok,ci m3,hck,hfind,dF _ m3,Sem.run_pure]
      | some f =>
       obtain ⟨j,v0⟩:=f
       have hl:List.map jF (ms.eraseIdx j)=(List.map jF ms).eraseIdx j:=by
        exact CQ ms j
       refine ⟨_,{ w with heap:=w.heap.setIfInBounds b (.map (ms.eraseIdx j).toArray clock) },kx _ _,hK _ rfl,?_,rfl,?_⟩
       ·have:=rt (ms':=ms.eraseIdx j) (clock':=clock) hR ho c.1 m1 m3 m4 m5 m6 m7 m8 m9
        rw [hl] at this
        exact this
       ·simp only [Builtin.delete_,List.getElem?_toArray,List.getElem?_cons_zero,List.getElem?_cons_succ,Sem.run_bind,run_underlying hu,Result.andThen_ok,ci m3,hck,hfind,dF _ m3,Sem.run_pure]
        congr 4
        simp
     ·exact hK.elim
   ·cases h
  ·cases h
 ·cases h
theorem J5 (h:av P V s B w) (q:Option Addr) (n c:Nat) (hn:n<=9223372036854775807) (hc:c<=9223372036854775807) (l:List Value) :
  ∃pe,pe=aL (bm (bm (be V.toPE (.pointer q)) (n:Int)) (c:Int)) l/\dr V.toPE pe/\pe.mem=V.mem/\av P (V.at pe) (aY (aK (aK (bu s) 0 9223372036854775807) 0 9223372036854775807)) B w/\aA pe.τ s.nv=some (.pointer q)/\aQ pe.σ (.var (nI s))=some n/\aQ pe.σ (.var (Nat.succ (nI s)))=some c/\aA pe.ρ s.nr=some l:=by
 obtain ⟨r1,e1⟩:=tE h (.pointer q)
 obtain ⟨r2,e2⟩:=jh r1 (x:=(n:Int)) (lo:=0) (hi:=9223372036854775807) (by omega) (by omega)
 obtain ⟨r3,e3⟩:=jh r2 (x:=(c:Int)) (lo:=0) (hi:=9223372036854775807) (by omega) (by omega)
 obtain ⟨r4,e4⟩:=fA r3 l
 simp only [az.at_at,az.at_toPE] at r2 r3 r4 e2 e3 e4
 have n0:nI (bu s)=nI s:=rfl
 have n1:nI (aK (bu s) 0 9223372036854775807)=Nat.succ (nI s):=by
  simp only [nI,aK,bu,aO,List.length_append,List.length_cons,List.length_nil]
 rw [n0] at e2
 rw [n1] at e3
 have up3:=qR (bm (be V.toPE (.pointer q)) (n:Int)) (c:Int)
 have e2':(IE.var (nI s)).val (bm (bm (be V.toPE (.pointer q)) (n:Int)) (c:Int)).σ=some (n:Int):=IE.val_up up3.σ _ _ e2
 refine ⟨_,rfl,(((z5 _ _).trans (qR _ _)).trans (qR _ _)).trans (kx _ _),rfl,r4,e1,?_,?_,e4⟩
 ·have:=bN e2' (by omega)
  rw [Int.toNat_natCast] at this
  exact this
 ·have:=bN e3 (by omega)
  rw [Int.toNat_natCast] at this
  exact this
theorem zN (hG : cv P g) (hR : av P V s B w) {t u : TypeId} {x v : AV} {X : Value} {p : List aX} (h : rJ g s t u x = some (p, v, s')) (hX : x.conc V = some X) :
  ∀K:PE->Prop,aj p V.toPE K->∃pe R w',dr V.toPE pe/\K pe/\av P (V.at pe) s' B w'/\v.conc (V.at pe)=some R/\(convert t u X).run P w = .ok R w':=by
 unfold rJ at h
 split at h
 ·rename_i ti tu hti htu
  have ht:=(hG.ty _ _ hti).desc
  have hu:=(hG.ty _ _ htu).desc
  split at h
  ·rename_i e i hd
   rw [hd] at hu
   split at h
   ·rename_i te hte
    have he:=(hG.ty _ _ hte).desc
    split at h
    ·rename_i hd2
     rw [hd2] at he
     cases c:Nat.beq te.size 1 with
     | false=>rw [c] at h;cases h
     | true =>
      rw [c] at h;simp only [cond_true] at h;cases h
      have c1:te.size=1:=by simpa [bt] using c
      obtain ⟨l,hl,rfl⟩:=mu hX
      obtain ⟨ie,hie,his,_⟩:=(hG.ty _ _ hte).info
      intro K hK
      simp only [aj,aX.sat,D.sat,jd] at hK
      rw [show aA V.toPE.ς i=some l from hl] at hK
      simp only at hK
      obtain ⟨hlen,hK⟩:=hK
      have hs:(⟨l.toArray⟩:ByteArray).size=l.length:=by simp [ByteArray.size]
      obtain ⟨cap,hcap⟩:∃cap,(Question.appendCap l.length 0 e).cut (w.tape w.drawn (Question.appendCap l.length 0 e))=cap:=⟨_,rfl⟩
      have hle:l.length<=cap:=by rw [<-hcap];simp [Question.cut]
      have hcm:cap<=9223372036854775807:=by
       rw [<-hcap]
       simp only [Question.cut]
       have e63:(2:Nat) ^ 63=9223372036854775808:=by decide
       have:=Nat.mod_lt (w.tape w.drawn (Question.appendCap l.length 0 e)) (show 0<2 ^ 63-l.length by rw [e63];omega)
       rw [e63] at this ⊢
       omega
      obtain ⟨W1,hW1⟩:∃W1:World,W1={ w with drawn:=w.drawn+1 }:=⟨_,rfl⟩
      have hch:(choose (Question.appendCap l.length 0 e)).run P w = .ok cap W1:=by
       rw [run_choose]
       have:(Question.appendCap l.length 0 e).forced=false:=rfl
       rw [this,hcap,hW1];rfl
      have hR1:av P V s B W1:=by rw [hW1];exact hR.drew _
      obtain ⟨row,hrow⟩:∃row:List Value,row=l.map (fun b=>Value.int .u8 (b.toNat:Int)):=⟨_,rfl⟩
      have hrl:row.length=l.length:=by rw [hrow,List.length_map]
      have hone:∀x∈row,bK x=some x:=fun x hx=>by
       rw [hrow] at hx
       obtain ⟨b,_,rfl⟩:=List.mem_map.1 hx
       rfl
      obtain ⟨pe,hpe,hup,hpm,r1,q1,q2,q3,q4⟩:=J5 hR1 (some ⟨W1.heap.size,0,none⟩) l.length cap (by omega) hcm row
      have hK':=hK ⟨W1.heap.size,0,none⟩ l.length cap row rfl hle hcm hrow
      rw [<-hpe] at hK'
      obtain ⟨rest,hrest⟩:∃rest:List Value,rest=List.replicate (cap-l.length) (Value.int .u8 0):=⟨_,rfl⟩
      have hrst:rest.length=cap-l.length:=by rw [hrest,List.length_replicate]
      refine ⟨pe,.slice (some ⟨W1.heap.size,0,none⟩) l.length cap,W1.alloc (.cells (row++rest).toArray e (cap,cap+1)),hup,hK',?_,eS (V:=V.at pe) q1 q2 q3,?_⟩
      ·refine r1.ownPut (q:=W1.heap.size) (own':=s.own) (new:={ a:=s.nv,r:=s.nr,e:=e,len := .var (nI s),cap := .var (Nat.succ (nI s)) }) (fun o h=>h) hR.own.nd (fun o h=>fe hR h) (fun o h p hp => ?_) hR1.below.size (by show pe.mem _=none;rw [hpm];exact ka hR1) (iH (w:=W1) r1) (fun k hk=>by rw [bA,if_neg hk]) (by rw [fK];omega) rfl rfl rfl q1 q4 q2 q3 ⟨⟨hle,hcm⟩,fun _=>hone⟩ (fun _ j hj => ?_) ⟨.cells (row++rest).toArray e (cap,cap+1),by rw [bA,if_pos rfl],rest,(cap,cap+1),rfl,?_,fun j hj => ?_⟩
       ·obtain ⟨q',l',n',c',m1,_⟩:=hR1.own.ok o h
        have:=hup.τ _ _ m1
        rw [show pe.τ=(V.at pe).τ from rfl,hp] at this
        exact qg hR1 h (m1.trans this.symm)
       ·rw [hie] at hj;cases hj;rw [hrl,his,c1];omega
       ·intro o ho;rw [hrl,hrst] at ho;omega
       ·rw [hie] at hj;cases hj;rw [hrl,hrst,his,c1];omega
      ·have hcv:(convert t u (.string ⟨l.toArray⟩)).run P w=(Conv.stringToBytes e ⟨l.toArray⟩).run P w:=by
        simp only [convert,Sem.run_bind,run_underlying ht,run_underlying hu,Result.andThen_ok]
        cases ti.desc<;>simp only [Sem.run_bind,run_underlying he,Result.andThen_ok]
       rw [hcv]
       have hmk:∀(c:Array Value) (n:Nat),c.size=n->(markStringish ⟨W1.heap.size,0,none⟩).run P (W1.alloc (.cells c e)) = .ok () (W1.alloc (.cells c e (n,n+1))):=by
        intro c n hc
        have hsh:(W1.alloc (.cells c e)).shape? W1.heap.size=some (e,n):=by
         simp only [World.shape?,bA,if_true];rw [hc]
        simp only [markStringish,Sem.run_bind,run_shape,Result.andThen_ok,hsh,run_freeze]
        congr 1
        exact sF W1 c e n
       simp only [Conv.stringToBytes,Sem.run_bind,hs,hch,Result.andThen_ok,cY]
       have hca:((l.toArray.map fun b=>Value.int .u8 b.toNat)++Array.replicate (cap-l.length) (Value.int .u8 0))=(row++rest).toArray:=by
        apply Array.ext';simp [hrow,hrest]
       rw [hca,hmk _ cap (by simp [hrl,hrst];omega)]
       simp only [Result.andThen_ok,Sem.run_pure]
    ·cases h
   ·cases h
  ·rename_i id off len cp sk hd
   rw [hd] at hu
   obtain ⟨p0,hp0,eX⟩:=aT hX
   split at h
   ·rename_i e hd1
    rw [hd1] at ht
    split at h
    ·rename_i te l hte hl
     have he:=(hG.ty _ _ hte).desc
     split at h
     ·rename_i hd3
      rw [hd3] at he
      cases h
      obtain ⟨vs,h1,h2,h3⟩:=eI hR hl hp0
      intro K hK
      simp only [aj,aX.sat,D.sat] at hK
      split at hK
      ·rename_i xs g1
       have g2:concL V (jB s l)=some xs:=aG (fE V) g1
       rw [ku hR h1] at g2;cases g2
       obtain ⟨ns,e1,hK⟩:=hK
       obtain ⟨r1,q1⟩:=C5 hR (ns.map (fun n=>UInt8.ofNat n.toNat))
       refine ⟨_,.string ⟨(ns.map (fun n=>UInt8.ofNat n.toNat)).toArray⟩,w,HR _ _,hK _ rfl,r1,(by simp only [AV.conc];rw [show (V.at (iz V.toPE (ns.map (fun n=>UInt8.ofNat n.toNat)))).ς=(iz V.toPE (ns.map (fun n=>UInt8.ofNat n.toNat))).ς from rfl,q1]),?_⟩
       have hld:(loadCells ⟨p0.1,off,none⟩ len).run P w = .ok (ns.map (Value.int .u8)).toArray w:=by
        have:=run_loadCells_list (P:=P) w ⟨p0.1,off,none⟩ vs (fun j x hx=>by rw [bY];exact h3 j x hx)
        rw [h2,e1] at this
        exact this
       rw [eX,run_convert_bytes_string w t u e _ _ _ ht he hu,run_bytesToString w _ _ _ ns hld,uK]
       congr 2
       apply ByteArray.ext
       simp
      ·exact hK.elim
     ·cases h
    ·cases h
   ·cases h
  ·cases h
 ·cases h
theorem xN (hG : cv P g) (hR : av P V s B w) (hA : aN V a A) {o : Oper} {p : List aX} {v : AV} (h : pc g a s o = some (p, v, s')) : DB P B V A o p v s' w := by
 have hg:=hR.globOk
 obtain ⟨dst,op,type,pos,after,guard⟩:=o
 unfold pc at h
 simp only at h
 intro K hK
 split at h
 ·rename_i t m k ok
  split at h
  ·rename_i m' k' hm hk
   obtain ⟨pe,R,h1,h2,h3,h4,h5⟩:=Dn hG hR h (au hA hg hm) (au hA hg hk) K hK
   refine ⟨pe,R,w,h1,h2,h3,h4,.inl ?_⟩
   show (do pure (Next.value (<-Instr.lookup t (A.eval m) (A.eval k) ok)):Sem Next).run P w=_
   simp only [Sem.run_bind,h5,Result.andThen_ok,Sem.run_pure]
  ·cases h
 ·rename_i t m k x
  split at h
  ·rename_i m' k' x' hm hk hx
   obtain ⟨pe,w',h1,h2,h3,rfl,h5⟩:=vl hG hR h (au hA hg hm) (au hA hg hk) (au hA hg hx) K hK
   refine ⟨pe,undef,w',h1,h2,h3,rfl,.inr ⟨?_,rfl⟩⟩
   show (do Instr.mapUpdate t (A.eval m) (A.eval k) (A.eval x);pure Next.skip:Sem Next).run P w=_
   simp only [Sem.run_bind,h5,Result.andThen_ok,Sem.run_pure]
  ·cases h
 ·rename_i t m k x
  split at h
  ·rename_i m' k' x' hm hk hx
   obtain ⟨pe,w',h1,h2,h3,rfl,h5⟩:=vl hG hR h (au hA hg hm) (au hA hg hk) (au hA hg hx) K hK
   refine ⟨pe,undef,w',h1,h2,h3,rfl,.inr ⟨?_,rfl⟩⟩
   show (do Instr.mapUpdate t (A.eval m) (A.eval k) (A.eval x);pure Next.skip:Sem Next).run P w=_
   simp only [Sem.run_bind,h5,Result.andThen_ok,Sem.run_pure]
  ·cases h
 ·rename_i t x y
  split at h
  ·rename_i x' y' hx hy
   obtain ⟨pe,w',h1,h2,h3,rfl,h5⟩:=xR hG hR h (au hA hg hx) (au hA hg hy) K hK
   refine ⟨pe,undef,w',h1,h2,h3,rfl,.inr ⟨?_,rfl⟩⟩
   show (do Instr.storeAt t (A.eval x) (A.eval y);pure Next.skip:Sem Next).run P w=_
   simp only [Sem.run_bind,h5,Result.andThen_ok,Sem.run_pure]
  ·cases h
 ·rename_i t l c
  split at h
  ·rename_i x' y' hx hy
   obtain ⟨pe,R,w',h1,h2,h3,h4,h5⟩:=zT hG hR h (au hA hg hx) (au hA hg hy) K hK
   refine ⟨pe,R,w',h1,h2,h3,h4,.inl ?_⟩
   show (do pure (Next.value (<-Instr.makeSlice t (A.eval l) (A.eval c))):Sem Next).run P w=_
   simp only [Sem.run_bind,h5,Result.andThen_ok,Sem.run_pure]
  ·cases h
 ·rename_i t u x
  split at h
  ·rename_i x' hx
   obtain ⟨pe,R,w',h1,h2,h3,h4,h5⟩:=zN hG hR h (au hA hg hx) K hK
   refine ⟨pe,R,w',h1,h2,h3,h4,.inl ?_⟩
   show (do pure (Next.value (<-convert t u (A.eval x))):Sem Next).run P w=_
   simp only [Sem.run_bind,h5,Result.andThen_ok,Sem.run_pure]
  ·cases h
 ·rename_i c
  obtain ⟨callee,args,⟨argTypes⟩⟩:=c
  simp only at h
  have e:(args.map A.eval)=(args.toList.map A.eval).toArray:=by apply Array.ext';simp
  split at h
  ·rename_i t u x y has
   obtain ⟨X,xr,exs,hX,hr⟩:=ag (iu hA hg has)
   obtain ⟨Y,yr,eys,hY,hr2⟩:=ag hr
   cases hr2
   subst eys
   have hh : ∃ pe R w', dr V.toPE pe /\ K pe /\ av P (V.at pe) s' B w' /\ v.conc (V.at pe) = some R /\ (Builtin.append_ #[t, u] type #[X, Y]).run P w = .ok R w' := by
    split at h
    ·rename_i r hr
     cases h
     exact Dh hG hR type hr hX hY K hK
    ·split at h
     ·rename_i r hr
      cases h
      exact zP hG hR type hr hX hY K hK
     ·split at h
      ·rename_i r hr
       cases h
       exact Dq hG hR type hr hX hY K hK
      ·split at h
       ·rename_i r hr
        cases h
        exact zJ hG hR type hr hX hY K hK
       ·split at h
        ·rename_i r hr
         cases h
         exact zI hG hR type hr hX hY K hK
        ·split at h
         ·rename_i r hr
          cases h
          exact zK hG hR type hr hX hY K hK
         ·exact zH hG hR type h hX hY K hK
   obtain ⟨pe,R,w',h1,h2,h3,h4,h5⟩:=hh
   refine ⟨pe,R,w',h1,h2,h3,h4,.inl ?_⟩
   simp only [execOp,resolve,pure_bind,invoke,e,exs]
   show (do pure (Next.value (<-Builtin.append_ _ _ _)):Sem Next).run P w=_
   simp only [Sem.run_bind,h5,Result.andThen_ok,Sem.run_pure]
  ·rename_i t ts m k has
   obtain ⟨X,xr,exs,hX,hr⟩:=ag (iu hA hg has)
   obtain ⟨Y,yr,eys,hY,hr2⟩:=ag hr
   cases hr2
   subst eys
   obtain ⟨pe,w',h1,h2,h3,rfl,h5⟩:=Dk hG hR ts type h hX hY K hK
   refine ⟨pe,.tuple #[],w',h1,h2,h3,rfl,.inl ?_⟩
   simp only [execOp,resolve,pure_bind,invoke,e,exs]
   show (do pure (Next.value (<-Builtin.delete_ _ _ _)):Sem Next).run P w=_
   simp only [Sem.run_bind,h5,Result.andThen_ok,Sem.run_pure]
  ·cases h
 ·cases h
theorem Dw:∀{ts:List TypeId} {l:List AV} {xs:List Value},concL V l=some xs->∀t v,(t,v)∈Jn ts l->∃X,v.conc V=some X:=by
 intro ts
 induction ts with
 | nil=>intro l xs _ t v h;cases l<;>cases h
 | cons t0 ts ih =>
  intro l xs hl t v h
  cases l with
  | nil=>cases h
  | cons u l=>
   obtain ⟨x,r,rfl,hu,hr⟩:=ag hl
   cases h with
   | head=>exact ⟨x,hu⟩
   | tail _ h=>exact ih hr t v h
theorem eE {t0:TypeId} {l:List AV} {xs:List Value} (hl:concL V l=some xs):∀t v,(t,v)∈mj g t0 l->∃X,v.conc V=some X:=by
 intro t v h
 unfold mj at h
 split at h
 ·exact Dw hl t v h
 ·cases h
theorem sE (hG:cv P g):∀(l:List (TypeId×AV)) (V:az) (s s':S) (p:List aX),av P V s B w->(∀t v,(t,v)∈l->∃X,v.conc V=some X)->gW g l s=(p,s')->ak P B w V s p s' (fun _=>True):=by
 intro l
 induction l with
 | nil=>intro V s s' p hR _ h;simp only [gW,Prod.mk.injEq] at h;obtain ⟨rfl,rfl⟩:=h;exact ak.nil hR trivial
 | cons y l ih =>
  intro V s s' p hR hc h
  obtain ⟨t,v⟩:=y
  simp only [gW] at h
  split at h
  ·rename_i p1 u s1 hf
   rcases hf2:gW g l s1 with ⟨q,s2⟩
   rw [hf2] at h
   simp only [Prod.mk.injEq] at h
   obtain ⟨rfl,rfl⟩:=h
   obtain ⟨X,hX⟩:=hc t v (List.mem_cons_self ..)
   exact (lM hG hR hf hX).app (fun pe hu r1 _=>ih (V.at pe) s1 s2 q r1 (fun t v h=>by
    obtain ⟨Y,hY⟩:=hc t v (List.mem_cons_of_mem _ h)
    exact ⟨Y,aF (aD hu) _ _ hY⟩) hf2)
  ·exact ih V s s' p hR (fun t v h=>hc t v (List.mem_cons_of_mem _ h)) h
theorem yK (hG : cv P g) (hR : av P V s B w) (hA : aN V a A) (o : Oper) : ∀ t v, (t, v) ∈ Bu g a s o -> ∃ X, v.conc V = some X := by
 have hg:=hR.globOk
 intro t v h
 unfold Bu at h
 split at h
 ·split at h
  ·rename_i y hy;exact eE (cC (au hA hg hy)) t v h
  ·cases h
 ·split at h
  ·rename_i ti kv x _ hkv hx
   split at h
   ·rcases List.mem_append.1 h with h | h
    ·exact eE (cC (au hA hg hkv)) t v h
    ·exact eE (cC (au hA hg hx)) t v h
   ·cases h
  ·cases h
 ·split at h
  ·rename_i ti kv x _ hkv hx
   split at h
   ·rcases List.mem_append.1 h with h | h
    ·exact eE (cC (au hA hg hkv)) t v h
    ·exact eE (cC (au hA hg hx)) t v h
   ·cases h
  ·cases h
 ·split at h
  ·rename_i ti kv _ hkv
   split at h
   ·exact eE (cC (au hA hg hkv)) t v h
   ·cases h
  ·cases h
 ·split at h
  ·rename_i c t0 ts0 m0 kv _ _ has
   split at h
   ·split at h
    ·obtain ⟨X,xr,exs,hX,hr⟩:=ag (iu hA hg has)
     obtain ⟨Y,yr,eys,hY,hr2⟩:=ag hr
     exact eE (cC hY) t v h
    ·cases h
   ·cases h
  ·rename_i c t0 u0 b0 off0 n0 c0 y _ _ has
   split at h
   ·rename_i ti hti
    split at h
    ·rename_i e hd
     split at h
     ·rename_i te hte
      split at h
      ·rename_i l hsrc
       obtain ⟨X,xr,exs,hX,hr⟩:=ag (iu hA hg has)
       obtain ⟨Y,yr,eys,hY,hr2⟩:=ag hr
       have hl:∃xs,concL V l=some xs:=by
        unfold gt at hsrc
        split at hsrc
        ·cases hsrc
        ·split at hsrc
         ·rename_i l' hl'
          cases hsrc
          obtain ⟨p,hp,_⟩:=aT hY
          obtain ⟨vs,e1,_⟩:=eI hR hl' hp
          exact ⟨vs,e1⟩
         ·cases hsrc
        ·rename_i bs
         cases hb:Nat.beq te.size 1 with
         | false=>rw [hb] at hsrc;cases hsrc
         | true=>
          rw [hb] at hsrc
          simp only [cond_true,Option.some.injEq,Prod.mk.injEq] at hsrc
          rw [<-hsrc.2];exact ⟨_,ia V bs⟩
        ·cases hsrc
       obtain ⟨xs,hxs⟩:=hl
       exact eE hxs t v h
      ·cases h
     ·cases h
    ·cases h
   ·cases h
  ·cases h
 ·cases h
theorem HK (hG:cv P g) (hR:av P V s B w) (hA:aN V a A) {o:Oper} {p:List aX} {v:AV} (h:Fq g a s o=some (p,v,s')):DB P B V A o p v s' w:=by
 unfold Fq at h
 split at h
 ·cases h
 ·rcases hf:gW g (Bu g a s o) s with ⟨p1,s1⟩
  rw [hf] at h
  simp only at h
  split at h
  ·rename_i q v2 s2 h1
   simp only [Option.some.injEq,Prod.mk.injEq] at h
   obtain ⟨rfl,rfl,rfl⟩:=h
   intro K hK
   have hy:=sE hG _ V s s1 p1 hR (yK hG hR hA o) hf
   -- what stands before, first
   have sp:aj p1 V.toPE (fun pe=>aj q pe K):=iF q K p1 V.toPE hK
   obtain ⟨pe1,u1,k1,r1,_⟩:=hy _ sp
   obtain ⟨pe2,x,w',a1,a2,a3,a4,a5⟩:=xN (V:=V.at pe1) hG r1 (hA.mono (aD u1)) h1 K k1
   exact ⟨pe2,x,w',u1.trans a1,a2,a3,a4,a5⟩
  ·cases h
theorem Dp (hG:cv P g) (hR:av P V s B w) (hA:aN V a A) {o:Oper} {p:List aX} {v:AV} (h:tX g s o=some (p,v,s')):DB P B V A o p v s' w:=by
 obtain ⟨dst,op,type,pos,after,guard⟩:=o
 unfold tX at h
 simp only at h
 intro K hK
 split at h
 ·rename_i t
  cases c:kS g.smaps t with
  | false=>rw [c] at h;cases h
  | true =>
   rw [c] at h;simp only [cond_true] at h;cases h
   simp only [aj,aX.sat,D.sat] at hK
   obtain ⟨r1,q1⟩:=tE hR (.map (some w.heap.size))
   obtain ⟨r2,q2⟩:=fA r1 []
   simp only [az.at_at,az.at_toPE] at r2 q2
   have hu2:=(z5 V.toPE (.map (some w.heap.size))).trans (kx _ [])
   have l0:aQ (aL (be V.toPE (.map (some w.heap.size))) []).σ (.lit 0)=some 0:=rfl
   refine ⟨_,.map (some w.heap.size),w.alloc (.map #[] 0),hu2,hK w.heap.size,?_,?_,.inl ?_⟩
   ·refine r2.ownPut (q:=w.heap.size) (own':=s.own) (new:={ a:=s.nv,r:=s.nr,e:=t,len := .lit 0,cap := .lit 0,m:=true }) (fun o h=>h) hR.own.nd (fun o h=>fe hR h) (fun o h p hp => ?_) hR.below.size (ka r2) (iH r2) (fun k hk=>by rw [bA,if_neg hk]) (by rw [fK];omega) rfl rfl rfl q1 q2 l0 l0 ⟨⟨Nat.le_refl _,by omega⟩,fun h=>by cases h⟩ (fun h=>by cases h) ⟨.map #[] 0,by rw [bA,if_pos rfl],[],0,rfl,rfl⟩
    obtain ⟨q',l',n',c',m1,_⟩:=hR.own.ok o h
    have:=(z5 V.toPE (.map (some w.heap.size))).τ _ _ m1
    rw [show (be V.toPE (.map (some w.heap.size))).τ=((V.at (aL (be V.toPE (.map (some w.heap.size))) []))).τ from rfl,hp] at this
    exact qg hR h (m1.trans this.symm)
   ·show lq (aL (be V.toPE (.map (some w.heap.size))) []) s.nv=_
    unfold lq
    rw [show (aL (be V.toPE (.map (some w.heap.size))) []).τ=(be V.toPE (.map (some w.heap.size))).τ from rfl,q1]
    rfl
   ·show (do pure (Next.value (<-Instr.makeMap t none)):Sem Next).run P w=_
    simp only [Instr.makeMap,Sem.run_bind,Sem.run_pure,Result.andThen_ok]
    rfl
 ·cases h
theorem wo {o:Oper} {r:List aX×AV×S} (h:tX g s o=some r):∀c,o.op≠ .defer c:=by
 intro c hc
 obtain ⟨dst,op,type,pos,after,guard⟩:=o
 simp only at hc
 subst hc
 cases h
theorem zQ {o:Oper} {r:List aX×AV×S} (h:Fq g a s o=some r):∀c,o.op≠ .defer c:=by
 intro c hc
 obtain ⟨dst,op,type,pos,after,guard⟩:=o
 simp only at hc
 subst hc
 have h0:pc g a s { dst:=dst,op := .defer c,type:=type,pos:=pos,after:=after,guard:=guard }=none:=rfl
 unfold Fq at h
 rw [h0] at h
 cases h
theorem av.frz (h:av P V s B w) {b:Nat} {o:cL} (ho:bB s.own b=some o) (hmf:o.m=false):ak P B w V s [.d (.frz b o.r)] { s with own:=bc s.own b } (fun _=>True):=by
 intro K hK
 obtain ⟨ho1,ho2⟩:=bd ho
 obtain ⟨q,l,n,c,m1,m2,m3,m4,m5,m6,m7,m8⟩:=h.own.ok o ho1
 rw [hmf,ho2] at m1
 simp only [aj,aX.sat,D.sat,m1,gP,m2] at hK
 have rest:∀m':Mem,ac V.mem m'->(∀bl ob,m' bl=some ob->V.mem bl=some ob\/∃p,q=some p/\bl=p.block/\w.heap[bl]? = some ob)->bJ m' q l->
   ∃pe,dr V.toPE pe/\K pe/\av P (V.at pe) { s with own:=bc s.own b } B w/\True:=by
  intro m' hs hm' hrow
  have hu:dr V.toPE { V.toPE with mem:=m' }:=⟨Up.refl _,Up.refl _,Up.refl _,Up.refl _,Up.refl _,hs,rfl⟩
  have hx:=aD (V:=V) hu
  refine ⟨_,hu,hK m' hs hrow,⟨h.know,h.lens,fun c v hm=>js h hu c v hm,fun bl ob hb => ?_,fun bl ob hb => ?_,h.below,fun id bk hb => ?_,h.dom,h.domL,h.inj,h.glob,?_⟩,trivial⟩
  ·rcases hm' bl ob hb with k | ⟨p,rfl,rfl,k⟩
   ·exact h.mem bl ob k
   ·obtain ⟨e1,e2,e3,e4,e5,_⟩:=m8 p rfl
    exact ⟨k,e5⟩
  ·rcases hm' bl ob hb with k | ⟨p,rfl,rfl,k⟩
   ·exact h.memB bl ob k
   ·exact .inr (m8 p rfl).2.2.1
  ·obtain ⟨p,h1,h2,h3,h4⟩:=h.blk id bk hb
   exact ⟨p,h1,fL hx h2,h3,fun e=>(h4 e).imp (fun k=>k) fun ⟨ob,k⟩=>⟨ob,hs _ _ k⟩⟩
  ·have sub:∀o'∈bc s.own b,z9 P (V.at { V.toPE with mem:=m' }) s.heap B w o':=fun o' ho'=>by
    obtain ⟨q',l',n',c',k1,k2,k3,k4,k5,k6,k7,k8⟩:=h.own.ok o' (am ho').1
    refine ⟨q',l',n',c',k1,k2,k3,k4,k5,k6,k7,fun p' hp' => ?_⟩
    subst hp'
    obtain ⟨e1,e2,e3,e4,e5,e6⟩:=k8 p' rfl
    refine ⟨e1,e2,e3,?_,e5,e6⟩
    show m' p'.block=none
    cases hm:m' p'.block with
    | none=>rfl
    | some ob=>
     rcases hm' _ _ hm with k | ⟨p,rfl,k,_⟩
     ·rw [e4] at k;cases k
     ·exact (h.own.dj o' (am ho').1 o ho1 p' p (by rw [ho2];exact (am ho').2) k1 (by rw [hmf,ho2];exact m1) k).elim
   exact ⟨eN h.own.nd,sub,fun o1 h1 o2 h2 p1 p2=>h.own.dj o1 (am h1).1 o2 (am h2).1 p1 p2⟩
 cases q with
 | none=>exact rest V.mem (fun _ _ h=>h) (fun _ _ h => .inl h) (fun p hp=>by cases hp)
 | some p =>
  obtain ⟨e1,e2,e3,e4,e5,ob,e6,e7⟩:=m8 p rfl
  unfold fu at e7
  rw [hmf] at e7
  obtain ⟨r,fz,rfl,e7,e8⟩:=e7
  refine rest (fun bl=>if bl=p.block then w.heap[bl]? else V.mem bl) (fun bl ob hb => ?_) (fun bl ob hb => ?_) (fun p' hp' j x hx => ?_)
  ·show (if bl=p.block then w.heap[bl]? else V.mem bl)=some ob
   rw [if_neg (fun e=>by subst e;rw [e4] at hb;cases hb)];exact hb
  ·have hb':(if bl=p.block then w.heap[bl]? else V.mem bl)=some ob:=hb
   by_cases e:bl=p.block
   ·rw [if_pos e] at hb';exact .inr ⟨p,rfl,e,hb'⟩
   ·rw [if_neg e] at hb';exact .inl hb'
  ·cases hp'
   obtain ⟨pb,po,ps⟩:=p
   simp only at e1 e2 e6
   subst e1;subst e2
   have hj:j<l.length:=(List.getElem?_eq_some_iff.1 hx).1
   rw [bY,Nat.zero_add]
   unfold df
   simp only [if_true,e6,Option.isSome_none,Bool.false_eq_true,if_false]
   simp [List.getElem?_append_left hj,hx]
theorem tq {pe:PE} {l:List AV} {xs:List Value} (h:concL (iN pe) l=some xs) {V:az} (hv:V.toPE=pe):concL V l=some xs:=by
 refine aG ?_ h
 subst hv
 exact ⟨dr.refl _,fun _ _ h=>(by cases h),fun _ _ h=>(by cases h)⟩
def mB (V:az) (w:World) (b:Nat):Mem:=fun x=>if x=b then w.heap[x]? else V.mem x
theorem av.roMem (h:av P V s B w) {id:Nat} {blk:ef} {l:List AV} {e:TypeId} {xs rest:List Value} {fz p:Nat×Nat} (hid:id<eY) (hg:s.heap.get id=some blk) (hown:ct blk=true) (hp:V.E id=some p) (b1:concL V l=some xs)
  (b2:w.heap[p.1]? = some (.cells (xs++rest).toArray e fz)) :
  ac V.mem (mB V w p.1)/\bJ (mB V w p.1) (some ⟨p.1,0,none⟩) xs/\dr V.toPE { V.toPE with mem:=mB V w p.1 }/\av P (V.at { V.toPE with mem:=mB V w p.1 }) { s with heap:=Tr.set 64 s.heap id (.ro l) } B w:=by
 have hO:B.heap.size<=p.1:=by
  obtain ⟨q,hq,_,hO,_⟩:=h.blk id _ hg
  rw [hp] at hq;cases hq
  exact hO hown
 have notmem:∀o,V.mem p.1≠some o:=fun o ho=>(h.mem p.1 o ho).2 id _ p hg hown hp rfl
 have hsub:ac V.mem (mB V w p.1):=fun b o hb=>by
  show (if b=p.1 then w.heap[b]? else V.mem b)=some o
  rw [if_neg (fun e=>by subst e;exact notmem o hb)];exact hb
 have hrow:bJ (mB V w p.1) (some ⟨p.1,0,none⟩) xs:=fun q hq j y hy=>by
  cases hq
  have hj:j<xs.length:=(List.getElem?_eq_some_iff.1 hy).1
  rw [bY,Nat.zero_add]
  unfold df mB
  simp only [if_true,b2,Option.isSome_none,Bool.false_eq_true,if_false]
  simp [List.getElem?_append_left hj,hy]
 have hu:dr V.toPE { V.toPE with mem:=mB V w p.1 }:=⟨Up.refl _,Up.refl _,Up.refl _,Up.refl _,Up.refl _,hsub,rfl⟩
 have hxt:=aD (V:=V) hu
 have hgt:∀j,(Tr.set 64 s.heap id (.ro l):Tr ef).get j=if j=id then some (.ro l) else s.heap.get j:=fun j=>Tr.get_set64 _ _ _ _ hid
 have mem':∀bl ob,(if bl=p.1 then w.heap[bl]? else V.mem bl)=some ob->bl=p.1/\w.heap[bl]? = some ob\/V.mem bl=some ob:=fun bl ob hb=>by
  by_cases e:bl=p.1
  ·rw [if_pos e] at hb;exact .inl ⟨e,hb⟩
  ·rw [if_neg e] at hb;exact .inr hb
 have own_:∀j bk,(Tr.set 64 s.heap id (.ro l):Tr ef).get j=some bk->ct bk=true->s.heap.get j=some bk/\j≠id:=fun j bk hj ho=>by
  rw [hgt] at hj
  by_cases e:j=id
  ·rw [if_pos e] at hj;cases hj;cases ho
  ·rw [if_neg e] at hj;exact ⟨hj,e⟩
 refine ⟨hsub,hrow,hu,⟨h.know,h.lens,fun c v hm=>js h hu c v hm,fun bl ob hb => ?_,fun bl ob hb => ?_,h.below,fun j bk hb => ?_,fun j q hq => ?_,fun j q hq => ?_,fun j j' c1 c2 q q' hc hc' hoc hoc' hq hq' he => ?_,h.glob,?_⟩⟩
 ·rcases mem' bl ob hb with ⟨e,k⟩ | k
  ·refine ⟨k,fun j bk q hj ho hq => ?_⟩
   obtain ⟨j1,j2⟩:=own_ j bk hj ho
   intro e2
   exact j2 (h.inj j id bk _ q p j1 hg ho hown hq hp (by rw [e2,e]))
  ·obtain ⟨m1,m2⟩:=h.mem bl ob k
   exact ⟨m1,fun j bk q hj ho hq=>m2 j bk q (own_ j bk hj ho).1 ho hq⟩
 ·rcases mem' bl ob hb with ⟨e,k⟩ | k
  ·exact .inr (by rw [e];exact hO)
  ·exact h.memB bl ob k
 ·have hb:(Tr.set 64 s.heap id (.ro l):Tr ef).get j=some bk:=hb
  rw [hgt] at hb
  by_cases e1:j=id
  ·subst e1
   rw [if_pos rfl] at hb;cases hb
   refine ⟨p,hp,fL hxt ⟨xs,rest,e,fz,b1,b2⟩,(fun e=>by cases e),fun _ => .inr ⟨.cells (xs++rest).toArray e fz,?_⟩⟩
   show (if p.1=p.1 then w.heap[p.1]? else V.mem p.1)=_
   rw [if_pos rfl];exact b2
  ·rw [if_neg e1] at hb
   obtain ⟨q,h1,h2,h3,h4⟩:=h.blk j bk hb
   exact ⟨q,h1,fL hxt h2,h3,fun e=>(h4 e).imp (fun k=>k) fun ⟨ob,k⟩=>⟨ob,hsub _ _ k⟩⟩
 ·obtain ⟨b,hb⟩:=h.dom j q hq
  show ∃b,(Tr.set 64 s.heap id (.ro l):Tr ef).get j=some b
  rw [hgt]
  by_cases e1:j=id
  ·rw [if_pos e1];exact ⟨_,rfl⟩
  ·rw [if_neg e1];exact ⟨b,hb⟩
 ·obtain ⟨b,hb⟩:=h.domL j q hq
  show ∃b,(Tr.set 64 s.heap id (.ro l):Tr ef).get j=some b
  rw [hgt]
  by_cases e1:j=id
  ·rw [if_pos e1];exact ⟨_,rfl⟩
  ·rw [if_neg e1];exact ⟨b,hb⟩
 ·exact h.inj j j' c1 c2 q q' (own_ j c1 hc hoc).1 (own_ j' c2 hc' hoc').1 hoc hoc' hq hq' he
 ·refine h.own.keep hu (fun b o hb hbo hmb ha=>⟨?_,hbo,fun j bk q hj ho hq=>ha j bk q (own_ j bk hj ho).1 ho hq⟩)
  show (if b=p.1 then w.heap[b]? else V.mem b)=none
  rw [if_neg (fun e=>ha id _ p hg hown hp e.symm)];exact hmb
theorem av.pub (h:av P V s B w) {id:Nat} {l:List AV} {e:TypeId} {off len c k:Nat} {x:Value} (hid:id<eY) (hg:s.heap.get id=some (.cells l e)) (hx:(AV.slice id off len (some c) k).conc V=some x) :
  ak P B w V s [.d (.pub l)] (cK (bu { s with heap:=Tr.set 64 s.heap id (.ro l) }) (.slice id off len (some c) k) (E8 s off len c)) (fun V'=>(E8 s off len c).conc V'=some x):=by
 intro K hK
 simp only [aj,aX.sat,D.sat] at hK
 split at hK
 ·rename_i xs hxs
  obtain ⟨p,hp,⟨vs,fz,b1,b2,b3⟩,_⟩:=h.blk id _ hg
  have hvs:=tq hxs (V:=V) rfl
  rw [b1] at hvs;cases hvs
  obtain ⟨hsub,hrow,hu,r1⟩:=h.roMem (rest:=[]) hid hg rfl hp b1 (by rw [List.append_nil];exact b2)
  have hK:=hK ⟨p.1,0,none⟩ _ hsub hrow
  obtain ⟨r2,hl⟩:=tE r1 (.pointer (some ⟨p.1,0,none⟩))
  have hu2:dr V.toPE (be { V.toPE with mem:=mB V w p.1 } (.pointer (some ⟨p.1,0,none⟩))):=hu.trans (z5 _ _)
  have hc:(E8 s off len c).conc (V.at (be { V.toPE with mem:=mB V w p.1 } (.pointer (some ⟨p.1,0,none⟩))))=some x:=by
   have hx':some (Value.slice (some ⟨p.1,off,none⟩) len c)=some x:=by
    rw [<-hx]
    simp only [AV.conc,hp,eG]
   rw [<-hx']
   show qS _ s.nv (.lit (Int.ofNat off)) (.lit (Int.ofNat len)) (.lit (Int.ofNat c))=_
   have hpl:aM (be { V.toPE with mem:=mB V w p.1 } (.pointer (some ⟨p.1,0,none⟩))).τ s.nv=some (some ⟨p.1,0,none⟩):=by
    unfold aM
    have hl':aA (be { V.toPE with mem:=mB V w p.1 } (.pointer (some ⟨p.1,0,none⟩))).τ s.nv=some (.pointer (some ⟨p.1,0,none⟩)):=hl
    rw [hl']
   unfold qS
   rw [show (V.at (be { V.toPE with mem:=mB V w p.1 } (.pointer (some ⟨p.1,0,none⟩)))).toPE.τ=(be { V.toPE with mem:=mB V w p.1 } (.pointer (some ⟨p.1,0,none⟩))).τ from rfl,hpl]
   simp only [aQ,IE.val,Option.map_some]
   rw [bY,Nat.zero_add]
  exact ⟨_,hu2,hK,kV r2 (aF (aD hu2) _ _ hx) hc,hc⟩
 ·exact hK.elim
theorem av.pubc (hG:cv P g) (h:av P V s B w) {id:Nat} {l:List AV} {e:TypeId} {te:TI} {off len:Nat} {x:Value} (hid:id<eY) (hg:s.heap.get id=some (.row l e)) (hte:g.ty.get e=some te) (hsz:1<te.size) (hx:(AV.slice id off len none 0).conc V=some x) :
  ak P B w V s [.d (.pubc l)] (cK (aK (bu { s with heap:=Tr.set 64 s.heap id (.ro l) }) 0 9223372036854775807) (.slice id off len none 0) (E9 s off len)) (fun V'=>(E9 s off len).conc V'=some x):=by
 intro K hK
 simp only [aj,aX.sat,D.sat] at hK
 split at hK
 ·rename_i xs hxs
  obtain ⟨p,hp,⟨vs,rest,fz,b1,b2,b3,b4⟩,_⟩:=h.blk id _ hg
  have hvs:=tq hxs (V:=V) rfl
  rw [b1] at hvs;cases hvs
  obtain ⟨i,hi,his,_⟩:=(hG.ty _ _ hte).info
  have hcap:=(b4 i hi).2 (by rw [his];exact hsz)
  obtain ⟨hsub,hrow,hu,r1⟩:=h.roMem (rest:=rest) hid hg rfl hp b1 b2
  have hK:=hK ⟨p.1,0,none⟩ p.2 _ hsub hrow hcap
  obtain ⟨r2,hl⟩:=tE r1 (.pointer (some ⟨p.1,0,none⟩))
  obtain ⟨r3,hi3⟩:=jh r2 (x:=(p.2:Int)) (lo:=0) (hi:=9223372036854775807) (by omega) (by omega)
  have hu2:dr V.toPE (bm (be { V.toPE with mem:=mB V w p.1 } (.pointer (some ⟨p.1,0,none⟩))) (p.2:Int)):=(hu.trans (z5 _ _)).trans (qR _ _)
  have hc:(E9 s off len).conc (V.at (bm (be { V.toPE with mem:=mB V w p.1 } (.pointer (some ⟨p.1,0,none⟩))) (p.2:Int)))=some x:=by
   have hx':some (Value.slice (some ⟨p.1,off,none⟩) len p.2)=some x:=by
    rw [<-hx]
    simp only [AV.conc,hp,eG,Nat.sub_zero]
   rw [<-hx']
   show qS _ s.nv (.lit (Int.ofNat off)) (.lit (Int.ofNat len)) (.var (nI s))=_
   have hpl:aM (bm (be { V.toPE with mem:=mB V w p.1 } (.pointer (some ⟨p.1,0,none⟩))) (p.2:Int)).τ s.nv=some (some ⟨p.1,0,none⟩):=by
    unfold aM
    have hl':aA (bm (be { V.toPE with mem:=mB V w p.1 } (.pointer (some ⟨p.1,0,none⟩))) (p.2:Int)).τ s.nv=some (.pointer (some ⟨p.1,0,none⟩)):=hl
    rw [hl']
   have hni:aQ (bm (be { V.toPE with mem:=mB V w p.1 } (.pointer (some ⟨p.1,0,none⟩))) (p.2:Int)).σ (.var (nI s))=some p.2:=by
    unfold aQ
    have hi':(IE.var (nI s)).val (bm (be { V.toPE with mem:=mB V w p.1 } (.pointer (some ⟨p.1,0,none⟩))) (p.2:Int)).σ=some (Int.ofNat p.2):=hi3
    rw [hi']
   unfold qS
   rw [show (V.at (bm (be { V.toPE with mem:=mB V w p.1 } (.pointer (some ⟨p.1,0,none⟩))) (p.2:Int))).toPE.τ=(bm (be { V.toPE with mem:=mB V w p.1 } (.pointer (some ⟨p.1,0,none⟩))) (p.2:Int)).τ from rfl,
    show (V.at (bm (be { V.toPE with mem:=mB V w p.1 } (.pointer (some ⟨p.1,0,none⟩))) (p.2:Int))).toPE.σ=(bm (be { V.toPE with mem:=mB V w p.1 } (.pointer (some ⟨p.1,0,none⟩))) (p.2:Int)).σ from rfl,hpl,hni]
   simp only [aQ,IE.val,Option.map_some]
   rw [bY,Nat.zero_add]
  exact ⟨_,hu2,hK,kV r3 (aF (aD hu2) _ _ hx) hc,hc⟩
 ·exact hK.elim
theorem Hz (hG:cv P g) (hR:av P V s B w) {v u:AV} {p:List aX} {x:Value} (hx:v.conc V=some x) (h:Hy g v s=(p,u,s')):ak P B w V s p s' (fun V'=>u.conc V'=some x):=by
 have triv:([],v,s)=(p,u,s')->ak P B w V s p s' (fun V'=>u.conc V'=some x):=fun e=>by
  simp only [Prod.mk.injEq] at e
  obtain ⟨rfl,rfl,rfl⟩:=e
  exact ak.nil hR hx
 unfold Hy at h
 split at h
 ·rename_i id off len c k
  split at h
  ·rename_i u' hu
   simp only [Prod.mk.injEq] at h
   obtain ⟨rfl,rfl,rfl⟩:=h
   obtain ⟨y,e1,e2⟩:=hR.memo _ _ (fW hu)
   rw [hx] at e1;cases e1
   exact ak.nil hR e2
  ·split at h
   ·rename_i l e hg
    cases hid:Nat.blt id eY with
    | false=>rw [hid] at h;exact triv h
    | true=>
     rw [hid] at h
     simp only [cond_true,Prod.mk.injEq] at h
     obtain ⟨rfl,rfl,rfl⟩:=h
     exact hR.pub (by rw [Nat.blt_eq] at hid;exact hid) hg hx
   ·exact triv h
 ·rename_i id off len k
  split at h
  ·rename_i u' hu
   simp only [Prod.mk.injEq] at h
   obtain ⟨rfl,rfl,rfl⟩:=h
   obtain ⟨y,e1,e2⟩:=hR.memo _ _ (fW hu)
   rw [hx] at e1;cases e1
   exact ak.nil hR e2
  ·split at h
   ·rename_i l e hg
    split at h
    ·rename_i te hte
     cases hid:(Nat.blt id eY&&(Nat.blt 1 te.size&&Nat.beq k 0)) with
     | false=>rw [hid] at h;exact triv h
     | true=>
      rw [hid] at h
      simp only [cond_true,Prod.mk.injEq] at h
      obtain ⟨rfl,rfl,rfl⟩:=h
      simp only [Bool.and_eq_true] at hid
      obtain ⟨i1,i2,i3⟩:=hid
      rw [Nat.blt_eq] at i1 i2
      have:k=0:=Nat.eq_of_beq_eq_true i3
      subst this
      exact hR.pubc hG i1 hg hte i2 hx
    ·exact triv h
   ·exact triv h
 ·exact triv h
theorem rz (hG:cv P g):∀(l:List AV) (V:az) (s:S) {s':S} {p:List aX} {us:List AV} {xs:List Value},av P V s B w->concL V l=some xs->qi g l s=(p,us,s')->ak P B w V s p s' (fun V'=>concL V' us=some xs):=by
 intro l
 induction l with
 | nil=>intro V s s' p us xs hR hx h;simp only [qi,Prod.mk.injEq] at h;obtain ⟨rfl,rfl,rfl⟩:=h;exact ak.nil hR hx
 | cons v l ih=>
  intro V s s' p us xs hR hx h
  obtain ⟨y,r,rfl,hv,hr⟩:=ag hx
  simp only [qi] at h
  rcases h1:Hy g v s with ⟨p1,u1,s1⟩
  rcases h2:qi g l s1 with ⟨p2,u2,s2⟩
  rw [h1] at h
  simp only [h2,Prod.mk.injEq] at h
  obtain ⟨rfl,rfl,rfl⟩:=h
  exact (Hz hG hR hv h1).app (fun pe hu r1 hux=>(ih (V.at pe) s1 r1 (aG (aD hu) hr) h2).mono (fun pe2 hu2 ht=>ax (aF (aD hu2) _ _ hux) ht))
theorem Gy:∀(l:List AV) (V:az) (s:S) {p:List aX} {ow:List cL},av P V s B w->um l s.own=(p,ow)->ak P B w V s p { s with own:=ow } (fun _=>True):=by
 intro l
 induction l with
 | nil=>intro V s p ow hR h;simp only [um,Prod.mk.injEq] at h;obtain ⟨rfl,rfl⟩:=h;exact ak.nil hR trivial
 | cons v l ih =>
  intro V s p ow hR h
  cases v<;>simp only [um] at h<;>try exact ih V s hR h
  rename_i a off n c
  split at h
  ·rename_i o ho
   cases hmf:o.m with
   | true=>rw [hmf] at h;exact ih V s hR h
   | false=>
   rw [hmf] at h
   simp only [cond_false] at h
   rcases hf:um l (bc s.own a) with ⟨p1,ow1⟩
   rw [hf] at h
   simp only [Prod.mk.injEq] at h
   obtain ⟨rfl,rfl⟩:=h
   exact (hR.frz ho hmf).app (p:=[.d (.frz a o.r)]) (fun pe hu r1 _=>ih (V.at pe) _ r1 hf)
  ·exact ih V s hR h
theorem oG (hR:av P V s B w) {l:List AV} {p:List aX} (h:sH l s=(p,s')):ak P B w V s p s' (fun _=>True):=by
 unfold sH at h
 rcases hf:um l s.own with ⟨p1,ow⟩
 rw [hf] at h
 simp only [Prod.mk.injEq] at h
 obtain ⟨rfl,rfl⟩:=h
 exact Gy l V s hR hf
end
end
section
inductive T where
 | out (o:gA)
 | ite (c:BE) (x y:T)
 | pre (p:List aX) (x:T)
 /-- a call of a function with a se -/
 | spec (k:Nat) (args:List AV) (x:T)
 /-- a loop:what a round comes to,and what follows -/
 | loop (ks:List Kd) (init:List AV) (body:T) (f:gA->T)
def T.bind (g:gA->T):T->T
 | .out o=>g o
 | .ite c x y => .ite c (x.bind g) (y.bind g)
 | .pre p x => .pre p (x.bind g)
 | .spec k args x => .spec k args (x.bind g)
 | .loop ks init b f => .loop ks init b fun o=>(f o).bind g
def mT:List aX->T->T
 | [],x=>x
 | p,x => .pre p x
def mR:List Kd->Type->Type
 | [],R=>R
 | .i _::ks,R=>Int->mR ks R
 | .b::ks,R=>Bool->mR ks R
 | .s::ks,R=>List UInt8->mR ks R
 | .r::ks,R=>List Value->mR ks R
 | .v::ks,R=>Value->mR ks R
 | .sl::ks,R=>Option Addr->Nat->Nat->mR ks R
def wC (pe:PE):AV->Option Bool
 | .bool b=>some b
 | .bx c=>c.val pe.σ pe.β
 | _=>none
def JO (pe:PE) (v:AV):Option Value:=v.conc (iN pe)
def gz {R:Type} (pe:PE):(ks:List Kd)->List AV->mR ks R->(R->Prop)->Prop
 | [],[],f,K=>K f
 | .i k::ks,.int k' e::vs,f,K=>(match de k k',e.val pe.σ with
  | true,some x=>(k.min<=x/\x<=k.max)/\gz pe ks vs (f x) K
  | _,_=>False)
 | .b::ks,v::vs,f,K=>(match wC pe v with | some x=>gz pe ks vs (f x) K | none=>False)
 | .s::ks,v::vs,f,K=>(match jd pe v with | some x=>gz pe ks vs (f x) K | none=>False)
 | .r::ks,.whole r::vs,f,K=>(match aA pe.ρ r with | some x=>gz pe ks vs (f x) K | none=>False)
 | .r::ks,.tup []::vs,f,K=>gz pe ks vs (f []) K
 | .v::ks,.opq i::vs,f,K=>(match lq pe i with | some x=>gz pe ks vs (f x) K | none=>False)
 | .sl::ks,.sl a off len cap::vs,f,K=>(match aM pe.τ a,aQ pe.σ off,aQ pe.σ len,aQ pe.σ cap with
  | some p,some o,some n,some c=>(n<=9223372036854775807/\c<=9223372036854775807)/\gz pe ks vs (f (p.map fun p=>p.add o) n c) K
  | _,_,_,_=>False)
 | .sl::ks,.nils::vs,f,K=>gz pe ks vs (f none 0 0) K
 | _,_,_,_=>False
def jE {R:Type}:(ks:List Kd)->PE->mR ks R->(PE->R->Prop)->Prop
 | [],pe,f,C=>C pe f
 | .i k::ks,pe,f,C=>∀x:Int,k.min<=x->x<=k.max->jE ks (bm pe x) (f x) C
 | .b::ks,pe,f,C=>∀x:Bool,jE ks (nm pe x) (f x) C
 | .s::ks,pe,f,C=>∀x:List UInt8,jE ks (iz pe x) (f x) C
 | .r::ks,pe,f,C=>∀x:List Value,jE ks (aL pe x) (f x) C
 | .v::ks,pe,f,C=>∀x:Value,bK x=some x->jE ks (be pe x) (f x) C
 | .sl::ks,pe,f,C=>∀(p:Option Addr) (n c:Nat),n<=9223372036854775807->c<=9223372036854775807->jE ks (bm (bm (be pe (.pointer p)) n) c) (f p n c) C
def ll {R:Type} (pe:PE):(ks:List Kd)->List AV->mR ks R->(R->Prop)->Prop
 | [],[],f,K=>K f
 | .i k::ks,.int k' e::vs,f,K=>(match de k k',e.val pe.σ with
  | true,some x=>ll pe ks vs (f x) K
  | _,_=>False)
 | .b::ks,v::vs,f,K=>(match wC pe v with | some x=>ll pe ks vs (f x) K | none=>False)
 | .s::ks,v::vs,f,K=>(match jd pe v with | some x=>ll pe ks vs (f x) K | none=>False)
 | .v::ks,.opq i::vs,f,K=>(match lq pe i with | some x=>ll pe ks vs (f x) K | none=>False)
 | .sl::ks,.sl a off len cap::vs,f,K=>(match aM pe.τ a,aQ pe.σ off,aQ pe.σ len,aQ pe.σ cap with
  | some p,some o,some n,some c=>(n<=9223372036854775807/\c<=9223372036854775807)/\ll pe ks vs (f (p.map fun p=>p.add o) n c) K
  | _,_,_,_=>False)
 | .sl::ks,.nils::vs,f,K=>ll pe ks vs (f none 0 0) K
 | _,_,_,_=>False
structure Sp extends Sig where
 fn:FuncId
 spec:mR args ((Mem->Prop)×(Mem->mR res Prop))
def eh (SP : Nat -> Option Sp) : T -> PE -> (PE -> gA -> Prop) -> Prop
 | .out o,pe,K=>K pe o
 | .ite c x y,pe,K=>(match c.val pe.σ pe.β with
  | some _=>(c.T pe.σ pe.β true->eh SP x pe K)/\(c.T pe.σ pe.β false->eh SP y pe K)
  | none=>False)
 | .pre p x,pe,K=>aj p pe fun pe=>eh SP x pe K
 | .spec k args x,pe,K=>(match SP k with
  | some sp=>ll pe sp.args args sp.spec fun r=>r.1 pe.mem/\∀m',ac pe.mem m'->jE sp.res { pe with mem:=m' } (r.2 m') fun pe post=>post->eh SP x pe K
  | none=>False)
 | .loop ks init b f, pe, K => ∃ F : mR ks (Prop × Nat), gz pe ks init F (fun r => r.1) /\
   jE ks pe F fun pe r=>r.1->eh SP b pe fun pe' o=>match o with
    | .again vs=>gz pe' ks vs F fun r'=>r'.1/\r'.2<r.2
    | o=>eh SP (f o) pe' K
def cu:List Kd->S->List AV×S
 | [],s=>([],s)
 | .i k::ks,s=>(match cu ks (aK s k.min k.max) with | (l,s')=>(.int k (.var (nI s))::l,s'))
 | .b::ks,s=>(match cu ks (kl s) with | (l,s')=>(.bx (.var s.nb)::l,s'))
 | .s::ks,s=>(match cu ks (li s) with | (l,s')=>(.sv s.ns::l,s'))
 | .r::ks,s=>(match cu ks (aY s) with | (l,s')=>(.whole s.nr::l,s'))
 | .v::ks,s=>(match cu ks (bu s) with | (l,s')=>(.opq s.nv::l,s'))
 | .sl::ks,s=>(match cu ks (aK (aK (bu s) 0 9223372036854775807) 0 9223372036854775807) with | (l,s')=>(.sl s.nv (.lit 0) (.var (nI s)) (.var (Nat.succ (nI s)))::l,s'))
def qm (s:S) (i:Nat) (lo hi:Int):S:={ s with know:={ s.know with rng:=mS s.know.rng i (lo,hi) } }
def GJ (a b:Int):Int:=bif lf a b then b else a
def GK (a b:Int):Int:=bif lf a b then a else b
def wa (s:S) (a b:IE) (t:Bool):S:=
 match a,b,t with
 | .var i,.lit n,true=>(match aA s.know.rng i with | some (lo,hi)=>qm s i lo (GK hi n) | none=>s)
 | .var i,.lit n,false=>(match aA s.know.rng i with | some (lo,hi)=>qm s i (GJ lo (n+1)) hi | none=>s)
 | .lit n,.var i,true=>(match aA s.know.rng i with | some (lo,hi)=>qm s i (GJ lo n) hi | none=>s)
 | .lit n,.var i,false=>(match aA s.know.rng i with | some (lo,hi)=>qm s i lo (GK hi (n-1)) | none=>s)
 | _,_,_=>s
def Bi (s:S) (a b:IE) (t:Bool):S:=wa { s with know:={ s.know with le:=(a,b,t)::s.know.le } } a b t
def v9 (s:S) (a b:IE) (t:Bool):S:=
 match a,b,t with
 | .var i,.lit n,true=>(match aA s.know.rng i with | some (lo,hi)=>qm s i n n | none=>s)
 | .lit n,.var i,true=>(match aA s.know.rng i with | some (lo,hi)=>qm s i n n | none=>s)
 | _,_,_=>s
def Bh (s:S) (a b:IE) (t:Bool):S:=v9 { s with know:={ s.know with eq:=(a,b,t)::s.know.eq } } a b t
def eQ (s:S):BE->Bool->S
 | .var i,t=>cK s (.bx (.var i)) (.bool t)
 | .le a b,t=>Bi s a b t
 | .eq a b,t=>Bh s a b t
 | .not c,t=>eQ s c (!t)
 | .and c d,true=>eQ (eQ s c true) d true
 | .and _ _,false=>s
def nE (s:S):BE->Option Bool
 | .var i=>(match iC s.memo (.bx (.var i)) with | some (.bool b)=>some b | _=>none)
 | .le a b=>bif a.eqb b then some true else CJ s.know a b
 | .eq a b=>H1 s.know a b
 | .not c=>(match nE s c with | some b=>some (!b) | none=>none)
 | .and c d=>(match nE s c,nE s d with
  | some true,some true=>some true
  | some false,some _=>some false
  | some _,some false=>some false
  | _,_=>none)
abbrev Lv:=List (Nat×LC)
def sX:Lv->Nat->Option LC
 | [],_=>none
 | (i,c)::l,j=>bif Nat.beq i j then some c else sX l j
inductive Jv where
 | code (lv:Lv) (rd:Option Nat) (c:Code) (a:A)
 | call (lv:Lv) (f:FuncId) (args:List AV)
 | yield (lv:Lv) (l:Nat) (args:List AV)
 /-- a loop that is unrolled -/
 | loop (lv:Lv) (rd:Option Nat) (b:Code) (a:A)
abbrev Ih:=Jv->S->T
inductive Gd where
 | yes
 | no
 | ask (d:Tmp) (c:BE) (want:Bool)
 | bad
def gi (all : List Oper) (a : A) (s : S) (o : Oper) : Gd :=
 match o.guard with
 | none => .yes
 | some (j, want) =>
  match aA all j with
  | some oj => (match oj.dst with
   | some d => (match a.tmps.get d with
    | some (.bool b)=>bif b==want then .yes else .no
    | some (.bx c)=>(match nE s c with
     | some b=>bif b==want then .yes else .no
     | none => .ask d c want)
    | some v=>bif fb v then .bad else .no
    | none => .bad)
   | none => .bad)
  | none => .bad
def setB (a:A) (d:Tmp) (b:Bool):A:={ a with tmps:=Tr.set 64 a.tmps d (.bool b) }
def qj (a:A) (o:Oper) (v:AV) (s:S):T:=match a.put o.dst v with | some a => .out (.code .normal a s) | none => .out (.err 50)
def yQ (s:S):AV->AV
 | .bx c=>(match nE s c with | some b => .bool b | none => .bx c)
 | v=>v
def pN (g:G) (o:Oper) (a:A) (v:AV) (s:S):T:=
 match qI g o.type v s with
 | some (p,v,s)=>mT p (qj a o (yQ s v) s)
 | none=>qj a o (yQ s v) s
def mc:List (Nat×FuncId×Sig)->FuncId->Option (Nat×Sig)
 | [],_=>none
 | (k,f,g)::l,x=>bif Nat.beq f x then some (k,g) else mc l x
def jm:List (Option Nat)->List AV->Option (List AV)
 | [],[]=>some []
 | none::g,v::vs=>(match jm g vs with | some l=>some (v::l) | none=>none)
 | some n::g,.agg l::vs=>bif Nat.beq (bF l) n then (match jm g vs with | some l'=>some (l++l') | none=>none) else none
 | _,_=>none
def gp:List (Option Nat)->List AV->Option (List AV)
 | [],[]=>some []
 | none::g,v::vs=>(match gp g vs with | some l=>some (v::l) | none=>none)
 | some n::g,vs=>(match gn n vs,gp g (jp vs n) with | some l,some l'=>some (.agg l::l') | _,_=>none)
 | _,_=>none
def sD (k:Kd) (v:AV) (s:S):kF:=
 bif fb v then
  match iC s.memo v with
  | some u=>some ([],u,s)
  | none=>
   match k with
   | .i k=>some ([.d (.openI k v)],.int k (.var (nI s)),cK (aK s k.min k.max) v (.int k (.var (nI s))))
   | .b=>some ([.d (.openB v)],.bx (.var s.nb),cK (kl s) v (.bx (.var s.nb)))
   | .s=>some ([.d (.openS v)],.sv s.ns,cK (li s) v (.sv s.ns))
   | .sl=>some ([.d (.openSl false v)],.sl s.nv (.lit 0) (.var (nI s)) (.var (Nat.succ (nI s))),cK (aK (aK (bu s) 0 9223372036854775807) 0 9223372036854775807) v (.sl s.nv (.lit 0) (.var (nI s)) (.var (Nat.succ (nI s)))))
   | _=>none
 else some ([],v,s)
def vQ (s:S) (k:Kd) (v:AV):List aX:=match k,v with | .i k,.int _ e=>pS s k e | _,_=>[]
def ko:List Kd->List AV->S->Option (List aX×List AV×S)
 | [],[],s=>some ([],[],s)
 | k :: ks, v :: vs, s => (match sD k v s with
  | some (p,u,s1)=>(match ko ks vs s1 with
   | some (q,us,s2)=>some (p++(vQ s1 k u++q),u::us,s2)
   | none=>none)
  | none=>none)
 | _,_,_=>none
def Jb:List AV->AV
 | [v]=>v
 | l => .tup l
def Fh (a:A) (o:Oper) (k:Nat) (sg:Sig) (vs:List AV) (s:S):T:=
 match ko sg.args vs s with
 | some (p, us, s1) => (match cu sg.res s1 with
  | (l,s2)=>(match gp sg.rgrp l with
   | some l'=>mT p (.spec k us (qj a o (Jb l') s2))
   | none => .out (.err 112)))
 | none => .out (.err 111)
def zD (g:G) (a:A) (s:S) (o:Oper) (k:Nat) (sg:Sig) (args:List AV):T:=
 match jm sg.grp args with
 | some ws=>(match qi g ws s with
  | (p0,vs,s9)=>mT p0 (match sH vs s9 with | (p,s0)=>mT p (Fh a o k sg vs s0)))
 | none => .out (.err 110)
def wI (s:S):List AV->List AV
 | []=>[]
 | .slice id _ _ _ _::l=>(match s.heap.get id with | some (.cells c _)=>c++wI s l | _=>wI s l)
 | _::l=>wI s l
def Eo:List AV->Bool
 | []=>false
 | .slice _ _ _ _ _::_=>true
 | _::l=>Eo l
def nf (g : G) : List AV -> S -> List aX × S
 | [],s=>([],s)
 | .slice id _ _ _ _ :: l, s => (match s.heap.get id with
  | some (.cells c e) => bif Eo c && Nat.blt id eY then
    (match qi g c s with
     | (p,us,s1)=>(match s1.heap.get id with
      | some (.cells c' e')=>bif AV.eqbL c' c&&Nat.beq e' e then (match nf g l { s1 with heap:=Tr.set 64 s1.heap id (.cells us e) } with | (q,s2)=>(p++q,s2)) else ([],s)
      | _=>([],s)))
   else nf g l s
  | _=>nf g l s)
 | _::l,s=>nf g l s
def Fg (g:G) (a:A) (s:S) (o:Oper) (k:Nat) (sg:Sig) (args:List AV):T:=
 match jm sg.grp args with
 | some ws=>(match sH (wI s ws) s with | (p,s0)=>mT p (match nf g ws s0 with | (q,s1)=>mT q (zD g a s1 o k sg args)))
 | none => .out (.err 110)
def setI (a:A) (d:Tmp) (k:IntKind) (n:Int):A:={ a with tmps:=Tr.set 64 a.tmps d (.int k (.lit n)) }
def FX (v:AV) (k:IntKind) (e:IE) (d:Tmp):Option (Tmp×IntKind×IE×Int×Nat):=
 match v with
 | .slice _ _ n _ _=>bif Nat.ble n 64 then some (d,k,e,0,n) else none
 | _=>none
def Is (s:S) (v:AV) (k:IntKind) (e:IE) (d:Tmp):Option (Tmp×IntKind×IE×Int×Nat):=
 match e.rng s.know with
 | some (lo,hi)=>bif lf hi (lo+64) then some (d,k,e,lo,(hi+1-lo).toNat) else FX v k e d
 | none=>FX v k e d
def Am (a:A) (s:S) (x:Operand) (d:Tmp):Option (Tmp×IntKind×IE×Int×Nat):=
 match ei a s x with
 | some (.sl _ _ _ _)=>none
 | some (.pt _ _)=>none
 | some v=>(match a.tmps.get d with
  | some (.int _ (.lit _))=>none
  | some (.int k e)=>bif Nat.blt d eY then Is s v k e d else none
  | _=>none)
 | none=>none
def FW (a:A) (s:S) (o:Oper):Option (Tmp×IntKind×IE×Int×Nat):=
 match o.op with
 | .indexAddr _ x (.tmp d)=>Am a s x d
 | .index _ x (.tmp d)=>Am a s x d
 | _=>none
def tQ (d:Tmp) (k:IntKind) (e:IE) (f:A->S->T) (a:A) (s:S):Nat->Int->T
 | 0,_ => .out (.err 120)
 | n+1,lo => .ite (.eq e (.lit lo)) (f (setI a d k lo) (eQ s (.eq e (.lit lo)) true)) (tQ d k e f a s n (lo+1))
def He (ih:Ih) (lv:Lv) (g:G) (a:A) (s:S) (o:Oper):T:=
 match tX g s o with
 | some (p,v,s)=>mT p (pN g o a v s)
 | none=>
 match I1 g a s o with
 | .val v s=>pN g o a v s
 | .enter f args => (match Jf g.trs f with
  | some (ins,e)=>(match zO g s ins e args with
   | some (p,v,s)=>mT p (qj a o v s)
   | none => .out (.err 130))
  | none=>(match mc g.specs f with
  | some (k,sg)=>Fg g a s o k sg args
  | none=>(ih (.call lv f args) s).bind fun r=>match r with | .val v s=>qj a o v s | .err n => .out (.err n) | _ => .out (.err 52)))
 | .yield l args=>(ih (.yield lv l args) s).bind fun r=>match r with | .val v s=>qj a o v s | .err n => .out (.err n) | _ => .out (.err 53)
 | .err n => (match Fm g a s o with
  | some (p,v,s,_)=>mT p (pN g o a v s)
  | none=>(match Fq g a s o with
   | some (p,v,s)=>mT p (pN g o a v s)
   | none => .out (.err n)))
def Eu (e:IE):List (AV×AV×Nat)->List BE
 | []=>[]
 | (.int _ e',_,_)::l => .eq e e'::Eu e l
 | _::l=>Eu e l
def Ir (a:A) (s:S) (m k:Operand):List BE:=
 match ei a s m,ei a s k with
 | some m,some (.int _ e)=>(match xf s m with | some es=>Eu e es | none=>[])
 | _,_=>[]
def Jz (a:A) (s:S) (o:Oper):List BE:=
 match o.op with
 | .lookup _ m k _=>Ir a s m k
 | .mapUpdate _ m k _=>Ir a s m k
 | .insert _ m k _=>Ir a s m k
 | _=>[]
def md (f:S->T):S->List BE->T
 | s,[]=>f s
 | s,c::l=>(match nE s c with
  | some true=>f s
  | some false=>md f s l
  | none => .ite c (f (eQ s c true)) (md f (eQ s c false) l))
def JL (ih:Ih) (lv:Lv) (g:G) (a:A) (s:S) (o:Oper):T:=
 match FW a s o with
 | some (d,k,e,lo,n)=>tQ d k e (fun a s=>He ih lv g a s o) a s n lo
 | none=>md (fun s=>He ih lv g a s o) s (Jz a s o)
def wK (ih:Ih) (lv:Lv) (g:G) (all:List Oper) (o:Oper) (a:A) (s:S):T:=
 match gi all a s o with
 | .yes=>JL ih lv g a s o
 | .no=>qj a o gx s
 | .ask d c want => bif Nat.blt d eY then .ite c
   (bif want then JL ih lv g (setB a d true) (eQ s c true) o else qj (setB a d true) o gx (eQ s c true))
   (bif want then qj (setB a d false) o gx (eQ s c false) else JL ih lv g (setB a d false) (eQ s c false) o) else .out (.err 57)
 | .bad => .out (.err 51)
def rB (ih:Ih) (lv:Lv) (g:G) (all:List Oper):List Oper->A->S->T
 | [],a,s => .out (.code .normal a s)
 | o::l,a,s=>(wK ih lv g all o a s).bind fun r=>match r with
  | .code .normal a s=>rB ih lv g all l a s
  | .err n => .out (.err n)
  | _ => .out (.err 54)
def pF (e:Edge):Bool:=match e.ground with | .textOnly _ | .gcOnly _=>false | _=>true
def nF (mask:Nat):List Edge->Bool
 | []=>true
 | e::es=>(!pF e||Nat.testBit mask e.on)&&nF mask es
def gq (mask:Nat):List (Nat×Oper)->List (Nat×Oper)
 | []=>[]
 | (i,o)::l=>bif !Nat.testBit mask i&&nF mask o.after.toList then (i,o)::gq mask l else gq mask l
def EM (d:Tmp):List Operand->Bool
 | []=>false
 | .tmp t::l=>Nat.beq t d||EM d l
 | _::l=>EM d l
def sM (all:List Oper) (d:Tmp) (o:Oper):Bool:=
 match o.guard with
 | none=>false
 | some (g,_)=>match aA all g with | some og=>(match og.dst with | some t=>Nat.beq t d | none=>false) | none=>false
def vS (all:List Oper) (d:Tmp) (o:Oper):Bool:=EM d o.op.operands.toList||sM all d o
def rR (all:List Oper) (x y:Oper):Bool:=
 (match x.dst with | some d => !vS all d y&&(match y.dst with | some e => !Nat.beq d e | none=>true) | none=>true) &&
 (match y.dst with | some d => !vS all d x | none=>true)
def cO (i:Nat):List Edge->Bool
 | []=>false
 | e::es=>(pF e&&Nat.beq e.on i)||cO i es
def mf (all:List Oper) (i:Nat) (o:Oper):List (Nat×Oper)->Bool
 | []=>true
 | (j,p)::l=>(Nat.beq i j||cO i p.after.toList||cO j o.after.toList||rR all o p)&&mf all i o l
def Bw:List Oper->Bool
 | []=>true
 | o::l=>(match o.op with | .select .. =>false | .defer _=>false | _=>true)&&Bw l
def B6 (all:List Oper) (idx:List (Nat×Oper)):List (Nat×Oper)->Bool
 | []=>true
 | (i,o)::l=>mf all i o idx&&B6 all idx l
def bE {α:Type}:Nat->List α->List (Nat×α)
 | _,[]=>[]
 | i,x::xs=>(i,x)::bE (Nat.succ i) xs
def zV (all:List Oper):Bool:=Bw all&&B6 all (bE 0 all) (bE 0 all)
inductive HC where
 | own (id off:Nat) (v:AV)
 | ext (a:Nat) (r:Option Nat) (off:IE)
abbrev eV:=List (Nat×HC)
def sR (i id:Nat):Nat->List AV->eV
 | _,[]=>[]
 | off,v::vs=>(i,.own id off v)::sR i id (Nat.succ off) vs
def vO (i:Nat):List HX->eV
 | []=>[]
 | (a,r,o)::l=>(i,.ext a r o)::vO i l
def EU (l:List cL) (a r:Nat):Bool:=match bB l a with | some o => !o.m&&Nat.beq o.r r | none=>false
def eC (s:S):eV->Bool
 | []=>true
 | (_,.own id off v)::h=>(match j9 s id off 1 with | some [u]=>AV.eqb u v | _=>false)&&eC s h
 | (_,.ext a r _)::h=>(match r with | none=>true | some r=>EU s.own a r)&&eC s h
def bD (es:List Edge):eV->eV
 | []=>[]
 | (i,c)::h=>bif cO i es then bD es h else (i,c)::bD es h
def Jh (all:List Oper):List Edge->List Edge
 | []=>[]
 | e::es=>bif pF e then (match aA all e.on with | some o=>o.after.toList++Jh all es | none=>Jh all es) else Jh all es
def JX (all:List Oper):Nat->List Edge->List Edge
 | 0,es=>es
 | f+1,es=>es++JX all f (Jh all es)
def fj (all:List Oper) (o:Oper):List Edge:=JX all 2 o.after.toList
def lL (g:G) (t:TypeId) (v:AV) (s:S):List aX×AV×S:=
 match qI g t v s with
 | some r=>r
 | none=>([],v,s)
def vY (g : G) (all : List Oper) (a : A) (s : S) (i : Nat) (o : Oper) : Option (List aX × AV × S × eV) :=
 match gi all a s o with
 | .no=>some ([],gx,s,[])
 | .yes =>
  (match BT g a s o with
  | some v=>(match lL g o.type v s with | (p,v,s)=>some (p,v,s,[]))
  | none =>
   match Fm g a s o with
   | some (p,v,s,hs)=>(match lL g o.type v s with | (q,v,s)=>some (p++q,v,s,vO i hs))
   | none =>
    match o.op with
    | .load t x => (match ei a s x, g.ty.get t with
     | some (.ptr id off), some ti =>
      (match j9 s id off (bif fa ti.desc then ti.size else 1) with
       | some l=>bif fa ti.desc then some ([],.agg l,s,sR i id off l)
        else (match l with | [v]=>(match lL g o.type v s with | (p,u,s)=>some (p,u,s,sR i id off [v])) | _=>none)
       | none=>none)
     | _,_=>none)
    | _=>none)
 | _=>none
def pK (g:G) (all:List Oper) (a:A) (s:S):List (Nat×Oper)->Option (Nat×Oper×List aX×AV×S×eV)
 | []=>none
 | (i,o)::l=>match vY g all a s i o with | some (p,v,s',h)=>some (i,o,p,v,s',h) | none=>pK g all a s l
def jU (all:List Oper) (a:A) (s:S):List (Nat×Oper)->Option (Tmp×IntKind×IE×Int×Nat)
 | []=>none
 | (_,o)::l=>match gi all a s o with
  | .yes=>(match FW a s o with | some r=>some r | none=>jU all a s l)
  | _=>jU all a s l
def Ii (s:S):List BE->Option BE
 | []=>none
 | c::l=>(match nE s c with
  | some true=>none
  | some false=>Ii s l
  | none=>some c)
def pJ (all:List Oper) (a:A) (s:S):List (Nat×Oper)->Option BE
 | []=>none
 | (_,o)::l=>match gi all a s o with
  | .yes=>(match Ii s (Jz a s o) with | some c=>some c | none=>pJ all a s l)
  | _=>pJ all a s l
def oD (all:List Oper) (a:A) (s:S):List (Nat×Oper)->Option (Tmp×BE)
 | []=>none
 | (_,o)::l=>match gi all a s o with | .ask d c _=>some (d,c) | _=>oD all a s l
abbrev Ij:=Jv->S->gA
def jg:T->gA
 | .out o=>o
 | _ => .err 55
inductive R where
 | ok (a:A) (s:S)
 | err (n:Nat)
def C1 (a:A) (o:Oper) (v:AV) (s:S):R:=match a.put o.dst v with | some a => .ok a s | none => .err 50
def Iy (ih:Ij) (lv:Lv) (g:G) (all:List Oper) (o:Oper) (a:A) (s:S):R:=
 match gi all a s o with
 | .no=>C1 a o gx s
 | .yes =>
  (match I1 g a s o with
  | .val v s=>C1 a o v s
  | .enter f args=>(match mc g.specs f with
   | some _ => .err 56
   | none=>(match ih (.call lv f args) s with | .val v s=>C1 a o v s | .err n => .err n | _ => .err 52))
  | .yield l args=>(match ih (.yield lv l args) s with | .val v s=>C1 a o v s | .err n => .err n | _ => .err 53)
  | .err n => .err n)
 | _ => .err 51
abbrev jD:=List (Nat×Nat)
def yZ:jD->Nat->Option Nat
 | [],_=>none
 | (i,n)::l,j=>bif Nat.beq i j then some n else yZ l j
def HI:LoopState->LoopState->Bool
 | .ready,.ready | .busy,.busy | .done,.done | .exhausted,.exhausted=>true
 | _,_=>false
def Ex.eqb:Ex->Ex->Bool
 | .normal,.normal | .ret,.ret=>true
 | .exit i,.exit j | .goto i,.goto j=>Nat.beq i j
 | _,_=>false
def ef.eqb:ef->ef->Bool
 | .cells l e,.cells l' e'=>AV.eqbL l l'&&Nat.beq e e'
 | .row l e,.row l' e'=>AV.eqbL l l'&&Nat.beq e e'
 | .ro l,.ro l'=>AV.eqbL l l'
 | .map l c,.map l' c'=>Nat.beq c c'&&mapEqb l l'
 | .defd,.defd=>true
 | .dead,.dead=>true
 | .loop st p t n d,.loop st' p' t' n' d'=>HI st st'&&p.eqb p'&&Tr.eqb AV.eqb t t'&&Nat.beq n n'&&Nat.beq d d'
 | _,_=>false
where mapEqb:List (AV×AV×Nat)->List (AV×AV×Nat)->Bool
 | [],[]=>true
 | (a,b,c)::l,(a',b',c')::l'=>AV.eqb a a'&&AV.eqb b b'&&Nat.beq c c'&&mapEqb l l'
 | _,_=>false
def nN:List Nat->List Nat->Bool
 | [],[]=>true
 | x::xs,y::ys=>Nat.beq x y&&nN xs ys
 | _,_=>false
def nR:List cL->List cL->Bool
 | [],[]=>true
 | x::xs,y::ys=>x.eqb y&&nR xs ys
 | _,_=>false
def v7 (a:A) (s:S) (a':A) (s':S):Bool:=
 Nat.beq a.n a'.n&&nN a.marks a'.marks&&Tr.eqb AV.eqb a.tmps a'.tmps&&Tr.eqb ef.eqb s.heap s'.heap&&nR s.own s'.own&&Nat.beq s.nv s'.nv&&Nat.beq s.nr s'.nr
inductive py where
 | ok (a:A) (s:S) (r:jD)
 | err (n:Nat)
def i6 (f:Nat->Oper->py) (a1:A) (s2:S):List (Nat×Oper)->Bool
 | []=>true
 | (j,oj)::l=>(match f j oj with | .ok a s _=>v7 a s a1 s2 | .err _=>false)&&i6 f a1 s2 l
def mN (s:S) (lo:Option jD) (j:Nat):S:=
 match lo with
 | some r=>(match yZ r j with | some n=>{ s with next:=n } | none=>s)
 | none=>s
def asVars (s0 s:S):S:={ s0 with heap:=s.heap,next:=s.next,own:=s.own,nv:=s.nv,nr:=s.nr }
def jV (ih:Ij) (lv:Lv) (g:G) (all:List Oper) (rec:Nat->A->S->eV->Option jD->py) (mask:Nat) (a:A) (s:S) (held:eV) (lo:Option jD) (j:Nat) (oj:Oper):py:=
 match Iy ih lv g all oj a (mN s lo j) with
 | .ok a s1=>bif eC s1 (bD (fj all oj) held) then rec (Nat.lor mask (Nat.shiftLeft 1 j)) a (asVars s s1) (bD (fj all oj) held) lo else .err 62
 | .err n => .err n
def pD (s:S) (lo:Option jD) (i:Nat) (r:jD):jD:=(i,match lo with | some l=>(yZ l i).getD s.next | none=>s.next)::r
def G0 (lo:Option jD) (r:jD):Option jD:=match lo with | some l=>some l | none=>some r
def dW (ih : Ij) (lv : Lv) (g : G) (all : List Oper) (idx : List (Nat × Oper)) : Nat -> Nat -> A -> S -> eV -> Option jD -> py
 | 0,mask,a,s,_,_=>(match gq mask idx with | [] => .ok a s [] | _ => .err 60)
 | fuel + 1, mask, a, s, held, lo =>
  match gq mask idx with
  | [] => .ok a s []
  | (i0, o0) :: rest =>
   match pK g all a s ((i0,o0)::rest) with
   | some (i,o,[],v,s',h)=>(match a.put o.dst v with
    | some a=>dW ih lv g all idx fuel (Nat.lor mask (Nat.shiftLeft 1 i)) a s (h++held) lo
    | none => .err 61)
   | some _ => .err 66
   | none =>
    match jV ih lv g all (dW ih lv g all idx fuel) mask a s held lo i0 o0 with
    | .err n => .err n
    | .ok a1 s1 r=>
     bif i6 (jV ih lv g all (dW ih lv g all idx fuel) mask a s held (G0 lo (pD s lo i0 r))) a1 s1 rest then .ok a1 s1 (pD s lo i0 r) else .err 63
def EO (g:G) (a:A) (s:S) (o:Oper):Option (IE×List AV×AV×S):=
 match pc g a s o with
 | some ([.d (.mk e zs)],v,s1)=>some (e,zs,v,s1)
 | _=>none
def IJ (g:G) (all:List Oper) (rec:Nat->A->S->eV->Option jD->py) (e:IE) (zs:List AV) (mask:Nat) (a:A) (s:S) (held:eV) (lo:Option jD) (j:Nat) (oj:Oper):py:=
 match gi all a s oj,EO g a s oj with
 | .yes, some (e', zs', v, s1) =>
  (match a.put oj.dst v with
   | some a1=>bif e'.eqb e&&AV.eqbL zs' zs&&eC s1 (bD (fj all oj) held) then rec (Nat.lor mask (Nat.shiftLeft 1 j)) a1 s1 (bD (fj all oj) held) lo else .err 67
   | none => .err 67)
 | _,_ => .err 67
def GB (ih:Ij) (lv:Lv) (g:G) (all:List Oper) (im:Nat) (e:IE) (zs:List AV) (rec rec2:Nat->A->S->eV->Option jD->py) (mask:Nat) (a:A) (s:S) (held:eV) (lo:Option jD) (j:Nat) (oj:Oper):py:=
 bif Nat.beq j im then IJ g all rec2 e zs mask a s held lo j oj else jV ih lv g all rec mask a s held lo j oj
def fF (ih : Ij) (lv : Lv) (g : G) (all : List Oper) (idx : List (Nat × Oper)) (im : Nat) (e : IE) (zs : List AV) : Nat -> Nat -> A -> S -> eV -> Option jD -> py
 | 0,_,_,_,_,_ => .err 60
 | fuel + 1, mask, a, s, held, lo =>
  match gq mask idx with
  | [] => .err 68
  | (i0, o0) :: rest =>
   match pK g all a s ((i0,o0)::rest) with
   | some (i,o,[],v,s',h)=>(match a.put o.dst v with
    | some a=>fF ih lv g all idx im e zs fuel (Nat.lor mask (Nat.shiftLeft 1 i)) a s (h++held) lo
    | none => .err 61)
   | some _ => .err 66
   | none =>
    match GB ih lv g all im e zs (fF ih lv g all idx im e zs fuel) (dW ih lv g all idx fuel) mask a s held lo i0 o0 with
    | .err n => .err n
    | .ok a1 s1 r=>
     bif i6 (GB ih lv g all im e zs (fF ih lv g all idx im e zs fuel) (dW ih lv g all idx fuel) mask a s held (G0 lo (pD s lo i0 r))) a1 s1 rest then .ok a1 s1 (pD s lo i0 r) else .err 63
def AQ (g:G) (a:A) (s:S):List (Nat×Oper)->Option (Nat×IE×List AV)
 | []=>none
 | (i,o)::l=>(match EO g a s o with | some (e,zs,_,_)=>some (i,e,zs) | none=>AQ g a s l)
def D.eqb:D->D->Bool
 | .openI k v,.openI k' v'=>de k k'&&AV.eqb v v'
 | .openB v,.openB v'=>AV.eqb v v'
 | .openS v,.openS v'=>AV.eqb v v'
 | .openV v,.openV v'=>AV.eqb v v'
 | .openSl w v,.openSl w' v'=>(w==w')&&AV.eqb v v'
 | .has a o n,.has a' o' n'=>Nat.beq a a'&&o.eqb o'&&Nat.beq n n'
 | .nn a,.nn a'=>Nat.beq a a'
 | .arith p k x y,.arith p' k' x' y'=>decide (p=p')&&de k k'&&x.eqb x'&&y.eqb y'
 | .wrap k e,.wrap k' e'=>de k k'&&e.eqb e'
 | .cut o c l n,.cut o' c' l' n'=>o.eqb o'&&c.eqb c'&&l.eqb l'&&Nat.beq n n'
 | .nat e,.nat e'=>e.eqb e'
 | .pick k c x y,.pick k' c' x' y'=>de k k'&&c.eqb c'&&x.eqb x'&&y.eqb y'
 | .mm m k x y,.mm m' k' x' y'=>(m==m')&&de k k'&&x.eqb x'&&y.eqb y'
 | .seq x y,.seq x' y'=>AV.eqb x x'&&AV.eqb y y'
 | .slen x,.slen x'=>AV.eqb x x'
 | .sidx x i,.sidx x' i'=>AV.eqb x x'&&i.eqb i'
 | .scat x y,.scat x' y'=>AV.eqb x x'&&AV.eqb y y'
 | .ssub x i j,.ssub x' i' j'=>AV.eqb x x'&&i.eqb i'&&j.eqb j'
 | .rhas r o n,.rhas r' o' n'=>Nat.beq r r'&&o.eqb o'&&Nat.beq n n'
 | .rset r o vs,.rset r' o' vs'=>Nat.beq r r'&&o.eqb o'&&AV.eqbL vs vs'
 | .mk n zs,.mk n' zs'=>n.eqb n'&&AV.eqbL zs zs'
 | .rapp r n k b vs,.rapp r' n' k' b' vs'=>Nat.beq r r'&&n.eqb n'&&Nat.beq k k'&&Nat.beq b b'&&AV.eqbL vs vs'
 | .frz a r,.frz a' r'=>Nat.beq a a'&&Nat.beq r r'
 | .pub vs,.pub vs'=>AV.eqbL vs vs'
 | .pubc vs,.pubc vs'=>AV.eqbL vs vs'
 | .mrow a o n k,.mrow a' o' n' k'=>Nat.beq a a'&&o.eqb o'&&n.eqb n'&&Nat.beq k k'
 | .grow x y n b,.grow x' y' n' b'=>Nat.beq x x'&&Nat.beq y y'&&n.eqb n'&&Nat.beq b b'
 | .growk x vs n b,.growk x' vs' n' b'=>Nat.beq x x'&&AV.eqbL vs vs'&&n.eqb n'&&Nat.beq b b'
 | .zn a e,.zn a' e'=>Nat.beq a a'&&e.eqb e'
 | .nul a,.nul a'=>Nat.beq a a'
 | .rtk r n k,.rtk r' n' k'=>Nat.beq r r'&&n.eqb n'&&Nat.beq k k'
 | .mget g r k zs,.mget g' r' k' zs'=>(g==g')&&Nat.beq r r'&&AV.eqb k k'&&AV.eqbL zs zs'
 | .mset r k v,.mset r' k' v'=>Nat.beq r r'&&AV.eqb k k'&&AV.eqb v v'
 | .mdel r k,.mdel r' k'=>Nat.beq r r'&&AV.eqb k k'
 | .mnew,.mnew=>true
 | .zrow n zs,.zrow n' zs'=>n.eqb n'&&AV.eqbL zs zs'
 | .rdrp r n k vs,.rdrp r' n' k' vs'=>Nat.beq r r'&&n.eqb n'&&Nat.beq k k'&&AV.eqbL vs vs'
 | .sbytes x,.sbytes x'=>AV.eqb x x'
 | .bstr vs,.bstr vs'=>AV.eqbL vs vs'
 | _,_=>false
def aX.eqb:aX->aX->Bool
 | .need c,.need c'=>c.eqb c'
 | .d x,.d y=>x.eqb y
 | _,_=>false
def qh:List aX->List aX->Bool
 | [],[]=>true
 | x::xs,y::ys=>x.eqb y&&qh xs ys
 | _,_=>false
def ql:List (Int×Int)->List (Int×Int)->Bool
 | [],[]=>true
 | x::xs,y::ys=>decide (x.1=y.1)&&decide (x.2=y.2)&&ql xs ys
 | _,_=>false
def nA:List (IE×IE×Bool)->List (IE×IE×Bool)->Bool
 | [],[]=>true
 | x::xs,y::ys=>x.1.eqb y.1&&x.2.1.eqb y.2.1&&(x.2.2==y.2.2)&&nA xs ys
 | _,_=>false
def mI:List (AV×AV)->List (AV×AV)->Bool
 | [],[]=>true
 | x::xs,y::ys=>AV.eqb x.1 y.1&&AV.eqb x.2 y.2&&mI xs ys
 | _,_=>false
def A.eqb (a a':A):Bool:=Nat.beq a.n a'.n&&nN a.marks a'.marks&&Tr.eqb AV.eqb a.tmps a'.tmps
def S.eqb (s s':S):Bool:=
 Tr.eqb ef.eqb s.heap s'.heap&&Nat.beq s.next s'.next&&ql s.know.rng s'.know.rng&&nA s.know.le s'.know.le&&nA s.know.eq s'.know.eq&&Nat.beq s.nb s'.nb&&Nat.beq s.ns s'.ns&&Nat.beq s.nv s'.nv&&Nat.beq s.nr s'.nr &&
  mI s.memo s'.memo&&nR s.own s'.own
def T.eqb:T->T->Bool
 | .out (.code .normal a s),.out (.code .normal a' s')=>a.eqb a'&&s.eqb s'
 | .out (.err n),.out (.err m)=>Nat.beq n m
 | .ite c x y,.ite c' x' y'=>c.eqb c'&&x.eqb x'&&y.eqb y'
 | .pre p x,.pre p' x'=>qh p p'&&x.eqb x'
 | .spec k l x,.spec k' l' x'=>Nat.beq k k'&&AV.eqbL l l'&&x.eqb x'
 | _,_=>false
def Je (nb:Option Nat) (j:Nat) (s:S):S:=match nb with | some n=>{ s with next:=Nat.add n (Nat.mul 4096 (Nat.succ j)) } | none=>s
def JD (n:Nat):gA->T
 | .code .normal a s => .out (.code .normal a { s with next:=n })
 | o => .out o
def xI (x:T) (f:Nat->Oper->T):List (Nat×Oper)->Bool
 | []=>true
 | (j,o)::l=>T.eqb x (f j o)&&xI x f l
def IK (ih:Ih) (lv:Lv) (g:G) (all:List Oper) (rec:Nat->A->S->eV->T) (nb:Nat) (mask:Nat) (a:A) (s:S) (held:eV) (j:Nat) (oj:Oper):T:=
 ((wK ih lv g all oj a (Je (some nb) j s)).bind fun r => (match r with
  | .code .normal a s=>bif eC s (bD (fj all oj) held) then rec (Nat.lor mask (Nat.shiftLeft 1 j)) a s (bD (fj all oj) held) else .out (.err 62)
  | .err n => .out (.err n)
  | _ => .out (.err 54))).bind (JD (Nat.add nb (Nat.mul 4096 (Nat.succ (Nat.succ (bF all))))))
def Bs (ih:Ih) (lv:Lv) (g:G) (all:List Oper) (rec:Nat->A->S->eV->T) (nb:Nat) (mask:Nat) (a:A) (s:S) (held:eV):List (Nat×Oper)->T
 | [] => .out (.err 63)
 | (i,o)::l=>bif xI (IK ih lv g all rec nb mask a s held i o) (IK ih lv g all rec nb mask a s held) l then IK ih lv g all rec nb mask a s held i o else .out (.err 63)
def dO (ih : Ih) (lv : Lv) (g : G) (all : List Oper) (idx : List (Nat × Oper)) : Nat -> Option Nat -> Nat -> Nat -> A -> S -> eV -> T
 | 0,_,_,_,_,_,_ => .out (.err 60)
 | fuel + 1, nb, left, mask, a, s, held =>
  match gq mask idx with
  | [] => .out (.code .normal a s)
  | rl =>
   match pK g all a s rl with
   | some (i,o,p,v,s,h)=>(match a.put o.dst v,left with
    | some a,left+1=>mT p (dO ih lv g all idx fuel nb left (Nat.lor mask (Nat.shiftLeft 1 i)) a s (h++held))
    | _,_ => .out (.err 61))
   | none =>
    match oD all a s rl with
    | some (d,c)=>bif Nat.blt d eY then .ite c (dO ih lv g all idx fuel nb left mask (setB a d true) (eQ s c true) held) (dO ih lv g all idx fuel nb left mask (setB a d false) (eQ s c false) held) else .out (.err 57)
    | none =>
     match jU all a s rl with
     | some (d,k,e,lo,n)=>tQ d k e (fun a s=>dO ih lv g all idx fuel nb left mask a s held) a s n lo
     | none=>
     match pJ all a s rl with
     | some c => .ite c (dO ih lv g all idx fuel nb left mask a (eQ s c true) held) (dO ih lv g all idx fuel nb left mask a (eQ s c false) held)
     | none=>
     match rl,left with
     | [(i,o)],left+1=>(wK ih lv g all o a (Je nb i s)).bind fun r=>(match r with
      | .code .normal a s=>bif eC s (bD (fj all o) held) then dO ih lv g all idx fuel nb left (Nat.lor mask (Nat.shiftLeft 1 i)) a s (bD (fj all o) held) else .out (.err 62)
      | .err n => .out (.err n)
      | _ => .out (.err 54))
     | rl, left => (match nb, left with
      | some n,left+1=>Bs ih lv g all (fun mask a s held=>dO ih lv g all idx fuel (some n) left mask a s held) n mask a s held rl
      | _, left => (match dW (fun c s => jg (ih c s)) lv g all idx left mask a s held none with
       | .ok a s _ => .out (.code .normal a s)
       | .err n => (match AQ g a s rl with
        | some (im,e,zs)=>(match fF (fun c s=>jg (ih c s)) lv g all idx im e zs left mask a s held none with
         | .ok a s _ => .pre [.d (.mk e zs)] (.out (.code .normal a s))
         | .err n => .out (.err n))
        | none=>(match left with
         | left+1=>Bs ih lv g all (fun mask a s9 held=>dO ih lv g all idx fuel (some s.next) left mask a s9 held) s.next mask a s held rl
         | 0 => .out (.err n)))))
def v6 (ih:Ih) (lv:Lv) (g:G) (all:List Oper) (a:A) (s:S):T:=
 bif zV all then dO ih lv g all (bE 0 all) (Nat.succ (Nat.mul 3 (bF all))) none (bF all) 0 a s [] else .out (.err 64)
def ej:Code->Option Nat
 | .region id _ _=>some id
 | .seq x y=>(match ej x with | some i=>some i | none=>ej y)
 | .cond _ x y=>(match ej x with | some i=>some i | none=>ej y)
 | .block _ b=>ej b
 | .loop b=>ej b
 | .scope b=>ej b
 | _=>none
def D0:List Oper->List Tmp
 | []=>[]
 | o::l=>match o.dst with | some d=>d::D0 l | none=>D0 l
def lI:Code->List Tmp
 | .region _ ops _=>D0 ops.toList
 | .seq x y=>lI x++lI y
 | .cond _ x y=>lI x++lI y
 | .block _ b=>lI b
 | .loop b=>lI b
 | .scope b=>lI b
 | _=>[]
def A9 (ow:List cL):List Nat->Bool
 | []=>true
 | a::l=>(match bB ow a with | some _=>true | none=>false)&&A9 ow l
def ER (ow:List cL):List pA->Nat->Nat->Option pA
 | [],_,_=>none
 | x::l,i,n=>bif Nat.beq i x.key.2&&Nat.beq n x.key.1&&A9 ow x.rows then some x else ER ow l i n
def IZ (ow:List cL) (l:List pA) (b:Code) (n:Nat):Option pA:=
 match ej b with
 | some i=>ER ow l i n
 | none=>none
def IR:AV->Option Kd
 | .int k _=>some (.i k)
 | .bool _ | .bx _=>some .b
 | .str _ | .sv _=>some .s
 | .sl _ _ _ _=>some .sl
 | _=>none
inductive Hv where
 | tmp (t:Tmp)
 | cell (id off:Nat)
 /-- a temporary that holds a slice of the run's own;a row of the run's own -/
 | own (t:Tmp) (e:TypeId)
 | row (a:Nat)
def Tr.del {α:Type}:Tr α->Nat->Tr α
 | .e,_ => .e
 | .n l v r,k=>bif Nat.beq k 0 then .n l none r else bif Nat.beq (Nat.mod k 2) 1 then .n (l.del (Nat.div k 2)) v r else .n l v (r.del (Nat.div (Nat.sub k 1) 2))
def Bz (t:Tmp):List (Tmp×Kd)->Option Kd
 | []=>none
 | (x,k)::l=>bif Nat.beq x t then some k else Bz t l
def pR (nt:List (Tmp×Kd)) (a:A):List Tmp->List Tmp->List (Hv×Kd)×A
 | [],_=>([],a)
 | t :: ts, seen =>
  bif kS seen t then pR nt a ts seen else
  match a.tmps.get t with
  | none=>pR nt a ts (t::seen)
  | some v=>(match (match Bz t nt with | some k=>some k | none=>IR v) with
   | some k=>(match pR nt a ts (t::seen) with | (l,a)=>((.tmp t,k)::l,a))
   | none=>pR nt { a with tmps:=Tr.del a.tmps t } ts (t::seen))
def yj (s:S) (id off:Nat):Option AV:=match s.heap.get id with | some (.cells l _)=>aA l off | _=>none
def io (s:S) (id off:Nat) (v:AV):S:=match s.heap.get id with | some (.cells l e)=>{ s with heap:=Tr.set 64 s.heap id (.cells (mS l off v) e) } | _=>s
def ET (a:A) (s:S) (t:Tmp) (e:TypeId):Option (Option cL):=
 match a.tmps.get t with
 | some .nils=>some none
 | some (.sl x off n c)=>(match bB s.own x with
  | some o=>bif !o.m&&dv off&&o.len.eqb n&&o.cap.eqb c&&Nat.beq o.e e then some (some o) else none
  | none=>none)
 | _=>none
def ww:Option cL->AV
 | none => .tup []
 | some o => .whole o.r
def fS (a:A) (s:S):List (Hv×Kd)->Option (List AV)
 | []=>some []
 | (.tmp t,_)::l=>(match a.tmps.get t,fS a s l with | some v,some vs=>some (v::vs) | _,_=>none)
 | (.cell id off,_)::l=>(match yj s id off,fS a s l with | some v,some vs=>some (v::vs) | _,_=>none)
 | (.own t e,_)::l=>(match ET a s t e,fS a s l with | some v,some vs=>some (ww v::vs) | _,_=>none)
 | (.row x,_)::l=>(match bB s.own x,fS a s l with | some o,some vs=>some (.whole o.r::vs) | _,_=>none)
def dL (a:A) (s:S):List (Hv×Kd)->List AV->A×S
 | (.tmp t,_)::l,v::vs=>dL { a with tmps:=Tr.set 64 a.tmps t v } s l vs
 | (.cell id off,_)::l,v::vs=>dL a (io s id off v) l vs
 | (.own _ _,_)::l,_::vs=>dL a s l vs
 | (.row _,_)::l,_::vs=>dL a s l vs
 | _,_=>(a,s)
def Tr.bare {α:Type}:Tr α->Bool
 | .e=>true
 | .n l v r=>(match v with | none=>true | some _=>false)&&l.bare&&r.bare
def Tr.le {α:Type} (p:α->α->Bool):Tr α->Tr α->Bool
 | .e,_=>true
 | .n l v r,.e=>(match v with | none=>true | some _=>false)&&Tr.bare l&&Tr.bare r
 | .n l v r,.n l' v' r'=>(match v,v' with | none,_=>true | some x,some y=>p x y | _,_=>false)&&Tr.le p l l'&&Tr.le p r r'
def ef.leb:ef->ef->Bool
 | .loop st p t n d,.loop st' p' t' n' d'=>HI st st'&&p.eqb p'&&Tr.le AV.eqb t t'&&Nat.beq n n'&&Nat.beq d d'
 | b,b'=>b.eqb b'
def JA {α:Type}:Tr α->List Nat->Tr α
 | t,[]=>t
 | t,k::ks=>JA (Tr.del t k) ks
def gh:Lv->Tr ef->Tr ef
 | [],hp=>hp
 | (l,lc)::lv,hp=>(match hp.get l with
  | some (.loop st pe t n d)=>bif Nat.blt l eY then gh lv (Tr.set 64 hp l (.loop st pe (JA t (lc.params.toList++(lI lc.assign++lI lc.body))) n d)) else gh lv hp
  | _=>gh lv hp)
def qW:List (Hv×Kd)->List Kd
 | []=>[]
 | (_,k)::l=>k::qW l
def lO (n:Nat):List (Hv×Kd)->Bool
 | []=>true
 | (.tmp t,k)::l=>Nat.blt t n&&Nat.blt t eY&&(match k with | .r=>false | _=>true)&&lO n l
 | (.cell id _,k)::l=>Nat.blt id eY&&(match k with | .r=>false | _=>true)&&lO n l
 | (.own _ _,k)::l=>(match k with | .r=>true | _=>false)&&lO n l
 | (.row _,k)::l=>(match k with | .r=>true | _=>false)&&lO n l
def lX (a:A):List (Hv×Kd)->List AV->Option (List cL)
 | (.own t e,_)::l,v::vs=>(match v,a.tmps.get t,lX a l vs with
  | .whole r,some (.sl x off n c),some ow=>bif dv off then some ({ a:=x,r:=r,e:=e,len:=n,cap:=c }::ow) else none
  | _,_,_=>none)
 | _::l,_::vs=>lX a l vs
 | _,_=>some []
def nP (a:A) (s:S):List (Hv×Kd)->Option (List (Option cL))
 | []=>some []
 | (.own t e,_)::l=>(match ET a s t e,nP a s l with | some o,some os=>some (o::os) | _,_=>none)
 | _::l=>nP a s l
def tI:List (Hv×Kd)->List AV->Nat->Option Nat
 | (.row x,_)::l,v::vs,y=>bif Nat.beq x y then (match v with | .whole r=>some r | _=>none) else tI l vs y
 | _::l,_::vs,y=>tI l vs y
 | _,_,_=>none
def vZ (hv:List (Hv×Kd)) (vs:List AV) (a r' r:Nat):Bool:=match tI hv vs a with | some _=>true | none=>Nat.beq r' r
def kO (hv:List (Hv×Kd)) (vs:List AV):List cL->List cL
 | []=>[]
 | o::l=>(match tI hv vs o.a with | some r=>{ o with r:=r } | none=>o)::kO hv vs l
def rp (hv:List (Hv×Kd)) (vs:List AV) (s:S):List cL->Option (List (Option cL))
 | []=>some []
 | o::l=>(match bB s.own o.a,rp hv vs s l with
  | some o',some os=>bif (o'.m==o.m)&&Nat.beq o'.e o.e&&o'.len.eqb o.len&&o'.cap.eqb o.cap&&vZ hv vs o.a o'.r o.r then some (some o'::os) else none
  | _,_=>none)
def tS (x:Nat):List (Option cL)->Bool
 | []=>true
 | none::l=>tS x l
 | some o::l => !Nat.beq o.a x&&tS x l
def qQ:List (Option cL)->Bool
 | []=>true
 | none::l=>qQ l
 | some o::l=>tS o.a l&&qQ l
def jt (hv:List (Hv×Kd)) (vs:List AV) (base:List cL) (a:A) (s:S):Bool:=
 match nP a s hv,rp hv vs s base with
 | some u,some v=>qQ (u++v)
 | _,_=>false
def qN:List cL->Bool
 | []=>true
 | o::l=>(match bB l o.a with | some _=>false | none=>true)&&qN l
def pn:List (Option cL)->List cL->List cL
 | [],ow=>ow
 | none::l,ow=>pn l ow
 | some o::l,ow=>pn l (bc ow o.a)
def vM (ah:A) (sh:S) (hv:List (Hv×Kd)) (vs:List AV) (a:A) (s:S):Bool:=
 match dL a s hv vs with
 | (a',s')=>Nat.beq ah.n a'.n&&nN ah.marks a'.marks&&Tr.le AV.eqb ah.tmps a'.tmps&&Tr.le ef.leb sh.heap s'.heap
def gZ (g : G) (a : A) : List (Tmp × TypeId) -> S -> List aX × S
 | [],s=>([],s)
 | (t, e) :: l, s => (match a.tmps.get t with
  | some (.sl x off n c) => (match bB s.own x, g.ty.get e with
   | some o, some te => bif !o.m && (dv off && (o.cap.eqb c && (Nat.beq o.e e && (!o.len.eqb n && !Nat.beq te.size 0)))) then
     (match gZ g a l { aY s with own:={ o with r:=s.nr,len:=n }::bc s.own x } with | (p,s')=>(.d (.rtk o.r n te.size)::p,s'))
    else gZ g a l s
   | _,_=>gZ g a l s)
  | _=>gZ g a l s)
def EG (ih : Ih) (lv : Lv) (rd : Option Nat) (b : Code) (a : A) (s : S) (nt : pA) : T :=
 match pR (nt.tmps++nt.otmps.map fun (t,_)=>(t,Kd.sl)) a (lI b) [] with
 | (hv0, a0) =>
  let hv:=hv0++((nt.cells.map fun (id,off,k)=>(Hv.cell id off,k))++((nt.otmps.map fun (t,e)=>(Hv.own t e,Kd.r))++nt.rows.map fun x=>(Hv.row x,Kd.r)))
  match cu (qW hv) s,fS a s hv,nP a s hv with
  | (vs, s0), some init, some us =>
   (match dL a0 s0 hv vs, pn us s.own with
    | (ah, sh0), base =>
     match lX ah hv vs with
     | none => .out (.err 105)
     | some nw=>
     let sh:S:={ sh0 with heap:=gh lv sh0.heap,own:=nw++kO hv vs base }
     bif lO a.n hv&&vM ah sh hv vs a s&&jt hv vs base a s&&qN sh.own then
      .loop (qW hv) init ((ih (.code lv rd b ah) sh).bind fun r=>match r with
       | .code .normal a' s'=>(match fS a' s' hv with
        | some vs'=>bif vM ah sh hv vs a' s'&&jt hv vs base a' s' then .out (.again vs') else .out (.err 101)
        | none => .out (.err 102))
       | .again _ => .out (.err 100)
       | r => .out r) (fun r => .out r)
     else .out (.err 103))
  | _,_,_ => .out (.err 104)
def nQ:Nat->Tr AV->List AV->Tr AV
 | _,t,[]=>t
 | i,t,v::vs=>nQ (Nat.succ i) (Tr.set 64 t i v) vs
def tG (g:G) (a:A) (s:S):List ResultVar->Option (List AV)
 | []=>some []
 | .tmp t::l=>match a.tmps.get t,tG g a s l with | some v,some vs=>some (v::vs) | _,_=>none
 | .cell x t::l=>match a.tmps.get x with
  | some (.ptr id off)=>(match Bl g s t id off,tG g a s l with | some v,some vs=>some (v::vs) | _,_=>none)
  | _=>none
def ga (s:S):List Nat->Option S
 | []=>some s
 | d::ds=>match s.heap.get d with
  | some .defd=>bif Nat.blt d eY then ga { s with heap:=Tr.set 64 s.heap d .dead } ds else none
  | _=>none
def kX:Tr AV->Nat->List Tmp->List AV->Option (Tr AV)
 | t,_,[],[]=>some t
 | t,n,p::ps,v::vs=>bif Nat.blt p n&&Nat.blt p eY then kX (Tr.set 64 t p v) n ps vs else none
 | _,_,_,_=>none
def H0 (ih:Ih) (lv:Lv) (rd:Option Nat) (o:Operand) (x y:Code) (a:A) (s:S):T:=
 match ei a s o with
 | some (.bool b)=>ih (.code lv rd (bif b then x else y) a) s
 | some (.bx c) => (match nE s c with
  | some b=>ih (.code lv rd (bif b then x else y) a) s
  | none=>(match o with
   | .tmp t=>bif Nat.blt t eY then .ite c (ih (.code lv rd x (setB a t true)) (eQ s c true)) (ih (.code lv rd y (setB a t false)) (eQ s c false)) else .out (.err 57)
   | _ => .ite c (ih (.code lv rd x a) (eQ s c true)) (ih (.code lv rd y a) (eQ s c false))))
 | _ => .out (.err 70)
def kI (ih : Ih) (lv : Lv) (rd : Option Nat) (l : Nat) (mark : List Nat) (a : A) (s : S) : T :=
 match s.heap.get l with
 | some (.loop st pe t n d) =>
  (match st with
   | .busy => .out (.err 73)
   | _ =>
    bif Nat.blt l eY then
     match i4 pe with
     | none => .out (.code .normal { a with marks:=mark++a.marks } { s with heap:=Tr.set 64 s.heap l (.loop .exhausted pe t n d) })
     | some c=>ih (.code lv rd c { a with marks:=mark++a.marks }) { s with heap:=Tr.set 64 s.heap l (.loop .exhausted pe t n d) }
    else .out (.err 74))
 | _ => .out (.err 75)
def yX (ih : Ih) (lv : Lv) (rd : Option Nat) (g : G) (f : Operand) (params : Array Tmp) (assign body : Code) (a : A) (s : S) : T :=
 match ei a s f with
 | some (.func (.func k) first captured) =>
  (match g.fn.get k with
   | none => .out (.err (1000+k))
   | some _ =>
    match (match rd with
     | none=>(match iD s .defd with | some (d,s)=>some (d,[d],s) | none=>none)
     | some l=>(match s.heap.get l with | some (.loop _ _ _ _ d)=>some (d,[],s) | _=>none)) with
    | none => .out (.err 71)
    | some (d, mark, s) =>
     match iD s (.loop .ready .normal a.tmps a.n d) with
     | none => .out (.err 72)
     | some (l, s) =>
      (ih (.call ((l, ⟨params, assign, body⟩) :: lv) k ((first ++ [.yield l]) ++ captured)) s).bind fun r => match r with
       | .val _ s=>kI ih lv rd l mark a s
       | .err n => .out (.err n)
       | _ => .out (.err 76))
 | _ => .out (.err 77)
def nK (g:G) (fi:FI) (e:Ex) (a:A) (s:S):gA:=
 match e with
 | .normal | .ret => (match ga s a.marks with
  | some s=>(match tG g a s fi.results with
   | some [v] => .val v s
   | some l => .val (.tup l) s
   | none => .err 80)
  | none => .err 81)
 | _ => .err 82
def endRound (l:Nat) (e:Ex) (s:S):gA:=
 match s.heap.get l with
 | some (.loop _ _ t n d) =>
  (match e with
   | .normal => .val (.bool true) { s with heap:=Tr.set 64 s.heap l (.loop .ready .normal t n d) }
   | e => .val (.bool false) { s with heap:=Tr.set 64 s.heap l (.loop .done e t n d) })
 | _ => .err 91
def z7 (ih : Ih) (lv : Lv) (l : Nat) (args : List AV) (s : S) : T :=
 match sX lv l,s.heap.get l with
 | some lc, some (.loop .ready _ t n _) =>
  (match kX t n lc.params.toList args with
   | none => .out (.err 90)
   | some t =>
    (ih (.code lv (some l) lc.assign { tmps:=t,n:=n,marks:=[] }) s).bind fun r=>match r with
    | .code .normal a s => (match s.heap.get l with
     | some (.loop .ready pe t n d) =>
      bif Nat.blt l eY then
       (ih (.code lv (some l) lc.body a) { s with heap:=Tr.set 64 s.heap l (.loop .busy pe t n d) }).bind fun r=>match r with
       | .code e _ s => .out (endRound l e s)
       | .err n => .out (.err n)
       | _ => .out (.err 92)
      else .out (.err 93)
     | _ => .out (.err 94))
    | .err n => .out (.err n)
    | _ => .out (.err 95))
 | _,_ => .out (.err 96)
def qC (g:G) (ih:Ih) (lv:Lv) (rd:Option Nat) (c:Code) (a:A) (s:S):T:=
 match c with
 | .skip => .out (.code .normal a s)
 | .label _ => .out (.code .normal a s)
 | .region _ ops draw=>bif draw then v6 ih lv g ops.toList a s else rB ih lv g ops.toList ops.toList a s
 | .seq x y=>(ih (.code lv rd x a) s).bind fun r=>match r with | .code .normal a s=>ih (.code lv rd y a) s | r => .out r
 | .cond c x y=>H0 ih lv rd c x y a s
 | .block id b=>(ih (.code lv rd b a) s).bind fun r=>match r with
  | .code (.exit i) a s=>bif Nat.beq i id then .out (.code .normal a s) else .out (.code (.exit i) a s)
  | r => .out r
 | .loop b=>(match IZ s.own g.loops b a.n with
  | some nt=>(match gZ g a nt.otmps s with | (p,s')=>mT p (EG ih lv rd b a s' nt))
  | none=>ih (.loop lv rd b a) s)
 | .exit id => .out (.code (.exit id) a s)
 | .ret => .out (.code .ret a s)
 | .rangeFunc f params assign body=>yX ih lv rd g f params assign body a s
 | _ => .out (.err 78)
def DP (g:G) (ih:Ih) (lv:Lv) (f:FuncId) (args:List AV) (s:S):T:=
 match g.fn.get f with
 | none => .out (.err (1000+f))
 | some fi =>
  bif Nat.ble (bF args) fi.ntmps&&Nat.ble fi.ntmps 100000 then
   (ih (.code lv none fi.code { tmps:=nQ 0 .e args,n:=fi.ntmps,marks:=[] }) s).bind fun r=>match r with
   | .code e a s => .out (nK g fi e a s)
   | .err n => .out (.err n)
   | _ => .out (.err 83)
  else .out (.err 84)
def step (g:G) (ih:Ih):Jv->S->T
 | .code lv rd c a,s=>qC g ih lv rd c a s
 | .call lv f args,s=>DP g ih lv f args s
 | .yield lv l args,s=>z7 ih lv l args s
 | .loop lv rd b a,s=>(ih (.code lv rd b a) s).bind fun r=>match r with | .code .normal a s=>ih (.loop lv rd b a) s | r => .out r
def ev (g:G):Nat->Jv->S->T
 | 0,_,_ => .out (.err 0)
 | n+1,c,s=>step g (ev g n) c s
end
section
open Go.RowKit
section
variable {P:Program} {g:G} {V:az} {s s':S} {B w:World}
theorem tl {x y:IE} {p q:Int} (hR:av P V s B w) (hx:x.val V.σ=some p) (hy:y.val V.σ=some q) {rest:List aX} {K:PE->Prop} (h:aj (dG s x y++rest) V.toPE K):p<=q/\aj rest V.toPE K:=by
 unfold dG at h
 split at h
 ·rename_i hl
  have:=i5 hR.know _ _ _ hl hx hy
  exact ⟨by simpa using this,h⟩
 ·simp only [List.cons_append,List.nil_append,aj,aX.sat] at h
  split at h
  ·obtain ⟨h1,h2⟩:=h
   have hx':x.val V.toPE.σ=some p:=hx
   have hy':y.val V.toPE.σ=some q:=hy
   simp only [BE.T,hx',hy',cond_true] at h1
   exact ⟨h1,h2⟩
  ·exact h.elim
theorem Hg (h:av P V s B w) {o:cL} (ho:o∈s.own) {p:Addr} (hp:aA V.τ o.a=some (gP o.m (some p))):p.block<w.heap.size:=by
 obtain ⟨q,l,n,c,m1,_,_,_,_,_,_,m8⟩:=h.own.ok o ho
 obtain ⟨p',rfl,hb⟩:=kj hp m1
 obtain ⟨_,_,_,_,_,ob,e6,_⟩:=m8 p' rfl
 have:=(Array.getElem?_eq_some_iff.1 e6).1
 omega
theorem av.leave (h:av P V s B w) {o:cL} (ho:o∈s.own) (hmf:o.m=false) {a b:Nat} (ha:o.a=a) (hp:aA V.τ o.a=some (.pointer (some ⟨b,0,none⟩))) {w':World}
  (hsz:w.heap.size<=w'.heap.size) (hos:w'.os=w.os) (htp:w'.tape=w.tape) (hou:w'.output=w.output) (hw:∀k,k<w.heap.size->k≠b->w'.heap[k]? = w.heap[k]?) :
  av P V { s with own:=bc s.own a } B w':=by
 obtain ⟨q,l,n,c,m1,m2,m3,m4,m5,m6,m7,m8⟩:=h.own.ok o ho
 rw [hmf] at m1
 rw [hp] at m1;cases m1
 obtain ⟨_,_,e3,e4,e5,ob,e6,_⟩:=m8 _ rfl
 simp only at e3 e4 e5 e6
 have lt:∀{k:Nat} {o:Obj},w.heap[k]? = some o->k<w.heap.size:=fun {k o} hk=>(Array.getElem?_eq_some_iff.1 hk).1
 refine ⟨h.know,h.lens,h.memo,fun b0 o0 hb => ?_,h.memB,?_,fun id bk hb => ?_,h.dom,h.domL,h.inj,h.glob,?_⟩
 ·obtain ⟨k1,k2⟩:=h.mem b0 o0 hb
  refine ⟨?_,k2⟩
  rw [hw b0 (lt k1) (fun e=>by subst e;rw [e4] at hb;cases hb)];exact k1
 ·exact h.below.trans ⟨hos,htp,hou,hsz,fun k hk=>hw k (by have:=h.below.size;omega) (by omega)⟩
 ·obtain ⟨p,k1,k2,k3,k4⟩:=h.blk id bk hb
  refine ⟨p,k1,?_,k3,k4⟩
  by_cases ho':ct bk=true
  ·rw [hw p.1 (h.low hb ho' k1) (e5 id bk p hb ho' k1)];exact k2
  ·cases bk with
   | dead=>trivial
   | ro l =>
    have hne:p.1≠b/\p.1<w.heap.size:=by
     rcases k4 rfl with h1 | ⟨o,h1⟩
     ·have:=h.below.size;omega
     ·exact ⟨(fun e=>by rw [e,e4] at h1;cases h1),lt (h.mem _ _ h1).1⟩
    rw [hw p.1 hne.2 hne.1];exact k2
   | _=>simp [ct] at ho'
 ·refine ⟨eN h.own.nd,fun o' ho' => ?_,fun o' ho' o2 ho2=>h.own.dj o' (am ho').1 o2 (am ho2).1⟩
  obtain ⟨q',l',n',c',j1,j2,j3,j4,j5,j6,j7,j8⟩:=h.own.ok o' (am ho').1
  refine ⟨q',l',n',c',j1,j2,j3,j4,j5,j6,j7,fun p hp' => ?_⟩
  obtain ⟨f1,f2,f3,f4,f5,ob',f6,f7⟩:=j8 p hp'
  refine ⟨f1,f2,f3,f4,f5,ob',?_,f7⟩
  have hne:p.block≠b:=by
   subst hp'
   have hp2:aA V.τ o.a=some (gP o.m (some ⟨b,0,none⟩)):=by rw [hmf];exact hp
   exact h.own.dj o' (am ho').1 o ho p ⟨b,0,none⟩ (by rw [ha];exact (am ho').2) j1 hp2
  rw [hw p.block (lt f6) hne];exact f6
theorem D6 (hR:av P V s B w) {o:cL} (ho:o∈s.own) (hmf:o.m=false) {a b:Nat} (ha:o.a=a) (hp:aA V.τ o.a=some (.pointer (some ⟨b,0,none⟩))) {w':World} {m c' b' size:Nat} {lx ly rest':List Value} {fz':Nat×Nat} {ie:TypeInfo} {tot:IE}
  (hie:P.info? o.e=some ie) (his:ie.size=size)
  (h3:w'.heap[b']? = some (.cells ((lx++ly)++rest').toArray o.e fz')) (h4:ui fz' ((lx++ly).length+rest'.length)) (h5:(lx++ly).length+rest'.length=c'*ie.size) (h6:m<=c') (h7:c'<=9223372036854775807) (h8:b'=b\/w.heap.size<=b')
  (hsz:w.heap.size<=w'.heap.size) (hos:w'.os=w.os) (htp:w'.tape=w.tape) (hou:w'.output=w.output) (hw:∀k,k<w.heap.size->k≠b->w'.heap[k]? = w.heap[k]?)
  (hlen:(lx++ly).length=m*size) (hone:∀x∈lx++ly,bK x=some x) (htot:tot.val V.σ=some (m:Int)) {K:PE->Prop} 
  (hK:∀(q:Option Addr) (c:Nat) l',l'=lx++ly->(m:Int)<=(c:Int)->c<=9223372036854775807->(q=none->(m:Int)=0)->K (aL (bm (be (aL (aL V.toPE lx) ly) (.pointer q)) c) l')) :
  ∃pe,dr V.toPE pe/\K pe/\av P (V.at pe) { aY (aY (aY (aK (bu s) 0 9223372036854775807))) with own:={ a:=s.nv,r:=Nat.succ (Nat.succ s.nr),e:=o.e,len:=tot,cap := .var (nI s) }::bc s.own a } B w'/\
   (AV.sl s.nv (.lit 0) tot (.var (nI s))).conc (V.at pe)=some (.slice (some ⟨b',0,none⟩) m c'):=by
 have hRl:=hR.leave ho hmf ha hp hsz hos htp hou hw
 obtain ⟨q,l,n,c,m1,m2,m3,m4,m5,m6,m7,m8⟩:=hR.own.ok o ho
 rw [hmf] at m1
 rw [hp] at m1;cases m1
 obtain ⟨_,_,e3,e4,e5,ob,e6,_⟩:=m8 _ rfl
 simp only at e3 e4 e5 e6
 have lt:∀{k:Nat} {o:Obj},w.heap[k]? = some o->k<w.heap.size:=fun {k o} hk=>(Array.getElem?_eq_some_iff.1 hk).1
 obtain ⟨r1,f1⟩:=fA hRl lx
 have u1:=kx V.toPE lx
 obtain ⟨r2,f2⟩:=fA r1 ly
 simp only [az.at_at,az.at_toPE] at r2 f2
 have u2:=u1.trans (kx (aL V.toPE lx) ly)
 obtain ⟨pe,hpe,hup,hpm,r3,q1,q2,q3⟩:=xw r2 (some ⟨b',0,none⟩) c' h7 (lx++ly)
 simp only [az.at_at,az.at_toPE] at r3
 have hup:=u2.trans hup
 have hK':=hK (some ⟨b',0,none⟩) c' _ rfl (by omega) h7 (fun h=>by cases h)
 have hpe':pe=aL (bm (be (aL (aL V.toPE lx) ly) (.pointer (some ⟨b',0,none⟩))) (c':Int)) (lx++ly):=hpe
 rw [<-hpe'] at hK'
 have lenV:aQ pe.σ tot=some m:=by
  have:=bN (IE.val_up hup.σ _ _ htot) (by omega)
  rwa [Int.toNat_natCast] at this
 have capV:aQ pe.σ (.var (nI s))=some c':=by
  have q2':(IE.var (nI s)).val pe.σ=some (c':Int):=q2
  have:=bN q2' (by omega);simpa using this
 have hno:V.mem b'=none:=by
  rcases h8 with rfl | h8
  ·exact e4
  ·cases hm:V.mem b' with
   | none=>rfl
   | some o0=>have:=lt (hR.mem _ _ hm).1;omega
 have hpm:pe.mem=V.mem:=hpm
 refine ⟨pe,hup,hK',?_,eS (V:=V.at pe) q1 lenV capV⟩
 refine r3.ownPut (q:=b') (own':=bc s.own a) (new:={ a:=s.nv,r:=Nat.succ (Nat.succ s.nr),e:=o.e,len:=tot,cap := .var (nI s) }) (fun o' h=>h) hRl.own.nd (fun o' h=>fe hR (am h).1) (fun o' h p hp' => ?_) ?_ (by show pe.mem _=none;rw [hpm];exact hno) ?_
  (fun k hk=>rfl) (Nat.le_refl _) rfl rfl rfl q1 q3 lenV capV ⟨⟨h6,h7⟩,fun _=>hone⟩ (fun _ i hi => ?_) ⟨_,h3,rest',fz',rfl,h4,fun i hi => ?_⟩
 ·obtain ⟨q',l',n',c2,k1,k2,k3,k4,k5,k6,k7,k8⟩:=hR.own.ok o' (am h).1
  have hq:=hup.τ _ _ k1
  rw [show pe.τ=(V.at pe).τ from rfl,hp'] at hq
  have hq2:=k1.trans hq.symm
  rcases h8 with rfl | h8
  ·exact hR.own.dj o' (am h).1 o ho p ⟨b',0,none⟩ (by rw [ha];exact (am h).2) hq2 (by rw [hmf];exact hp)
  ·have:=Hg hR (am h).1 hq2
   omega
 ·rcases h8 with rfl | h8
  ·exact e3
  ·have:=hR.below.size;omega
 ·intro id blk p hg hown hE
  rcases h8 with rfl | h8
  ·exact e5 id blk p hg hown hE
  ·have:=hR.low hg hown hE;omega
 ·rw [hie] at hi;cases hi;rw [hlen,his]
 ·rw [hie] at hi;cases hi;exact h5
theorem Gg (hG:cv P g) (hR:av P V s B w) {f:FuncId} {o:cL} (hE:FB P f false o.e) (ho1:o∈s.own) (hmf:o.m=false) {b:Nat} (ho2:o.a=b) {te:TI} (hte:g.ty.get o.e=some te) (hsz:0<te.size) (hb:0<te.bytes) {q:Option Addr} {n c:Nat}
  (m1':aA V.τ o.a=some (.pointer q)) (m3':aQ V.σ o.len=some n) (m4':aQ V.σ o.cap=some c) (k1:(1:Int)<=(n:Int)) {i0 j0 tot:IE} {z:Int} (hz:i0.val V.σ=some z) (hzj:j0.val V.σ=some (z+1)) (htot:tot.val V.σ=some ((n-1:Nat):Int))
  {K:PE->Prop} (hK:aj [.d (.rtk o.r i0 te.size),.d (.rdrp o.r j0 te.size []),.d (.grow s.nr (Nat.succ s.nr) tot te.bytes)] V.toPE K) {R:Ending->World->Prop}
  (hr:∀pe x w',dr V.toPE pe->K pe->av P (V.at pe) { aY (aY (aY (aK (bu s) 0 9223372036854775807))) with own:={ a:=s.nv,r:=Nat.succ (Nat.succ s.nr),e:=o.e,len:=tot,cap := .var (nI s) }::bc s.own b } B w'->(AV.sl s.nv (.lit 0) tot (.var (nI s))).conc (V.at pe)=some x->R (.returned x) w') :
  Calls P f #[.slice q n c,.int .i64 z,.int .i64 (z+1)] w R:=by
 obtain ⟨q',l,n',c',m1,m2,m3,m4,m5,m6,m7,m8⟩:=hR.own.ok o ho1
 rw [hmf] at m1
 rw [m1'] at m1;cases m1
 rw [m3'] at m3;cases m3
 rw [m4'] at m4;cases m4
 have m1:=m1'
 obtain ⟨ie,hie,his,hib,_⟩:=(hG.ty _ _ hte).info
 have hll:=m6 hmf ie hie
 rw [his] at hll
 have rtk:∀{rest:List aX} {pe:PE},dr V.toPE pe->aj (.d (.rtk o.r i0 te.size)::rest) pe K->(0<=z/\z.toNat<=n)/\aj rest (aL pe (l.take (z.toNat*te.size))) K:=fun {rest pe} hu h=>by
  have hz':=IE.val_up hu.σ _ _ hz
  simp only [aj,aX.sat,D.sat,hu.ρ _ _ m2,hz'] at h
  obtain ⟨⟨h0,h1⟩,h2⟩:=h
  refine ⟨⟨h0,?_⟩,h2 _ rfl⟩
  have h3:z.toNat*te.size<=n*te.size:=by
   have:((z.toNat*te.size:Nat):Int)<=((n*te.size:Nat):Int):=by rw [<-hll,Int.natCast_mul,Int.toNat_of_nonneg h0];exact h1
   omega
  exact Nat.le_of_mul_le_mul_right h3 hsz
 have hone:=m5.2 hmf
 have hcell:∀x∈l,x.oneCell'=true:=fun x hx=>(dC (hone x hx)).2.2
 have hq:q≠none:=fun e=>by have:=(m7 e).1;omega
 cases q with
 | none=>exact (hq rfl).elim
 | some q=>
 obtain ⟨e1,e2,e3,e4,e5,ob,e6,e7⟩:=m8 q rfl
 unfold fu at e7
 rw [hmf] at e7
 obtain ⟨rest,fz,rfl,e7,e8⟩:=e7
 obtain ⟨qb,qo,qs⟩:=q
 simp only at e1 e2 e3 e4 e5 e6
 subst e1;subst e2
 obtain ⟨⟨z0,hzn⟩,hK⟩:=rtk (dr.refl _) hK
 have u1:=kx V.toPE (l.take (z.toNat*te.size))
 have hrow:aA (aL V.toPE (l.take (z.toNat*te.size))).ρ s.nr=some (l.take (z.toNat*te.size)):=(fA hR _).2
 have hnil:concL (iN (aL V.toPE (l.take (z.toNat*te.size)))) []=some []:=rfl
 simp only [aj,aX.sat,D.sat,u1.ρ _ _ m2,IE.val_up u1.σ _ _ hzj,hnil] at hK
 obtain ⟨⟨_,hlt⟩,hK⟩:=hK
 have hzt:(z+1).toNat=z.toNat+1:=by omega
 have hlt':z.toNat+1<=n:=by
  have h3:(z.toNat+1)*te.size<=n*te.size:=by
   have:(((z.toNat+1)*te.size:Nat):Int)<=((n*te.size:Nat):Int):=by
    rw [<-hll,Int.natCast_mul,Int.natCast_add,Int.toNat_of_nonneg z0];exact hlt
   omega
  exact Nat.le_of_mul_le_mul_right h3 hsz
 rw [hzt] at hK
 have hK:=hK _ rfl
 have hrow2:=(kx (aL V.toPE (l.take (z.toNat*te.size))) ([]++l.drop ((z.toNat+1)*te.size))).ρ _ _ hrow
 have hrow3:aA (aL (aL V.toPE (l.take (z.toNat*te.size))) ([]++l.drop ((z.toNat+1)*te.size))).ρ (Nat.succ s.nr)=some ([]++l.drop ((z.toNat+1)*te.size)):=by
  have:=(fA (fA hR (l.take (z.toNat*te.size))).1 ([]++l.drop ((z.toNat+1)*te.size))).2
  simp only [az.at_at,az.at_toPE] at this
  exact this
 have u2:=u1.trans (kx (aL V.toPE (l.take (z.toNat*te.size))) ([]++l.drop ((z.toNat+1)*te.size)))
 simp only [hrow2,hrow3,IE.val_up u2.σ _ _ htot] at hK
 obtain ⟨_,hK⟩:=hK
 have hcall:=hE w qb n c z.toNat l rest [] fz ie (.int .i64 (z+1)) hie (by rw [his];exact hsz) (by rw [hib];exact hb) e6 e7 (by rw [e8 ie hie]) (by rw [hll,his]) (by omega) m5.1.1 m5.1.2 hcell (fun x hx=>by cases hx)
  (by rw [if_neg (by simp)];exact ⟨by omega,by congr 1;omega,rfl⟩)
 rw [show ((z.toNat:Nat):Int)=z from Int.toNat_of_nonneg z0] at hcall
 refine hcall.mono ?_
 rintro r w' ⟨b',c',l',rest',fz',rfl,rfl,h3,h4,h5,h6,h7,h8,h9,h10,h11,h12,h13⟩
 simp only [Bool.false_eq_true,if_false] at h3 h4 h5 h6 ⊢
 rw [his] at h3 h4 h5
 have hlen:(l.take (z.toNat*te.size)++([]++l.drop ((z.toNat+1)*te.size))).length=(n-1)*te.size:=by
  have hmul:=Nat.mul_le_mul_right te.size hlt'
  have e:n*te.size=(n-1)*te.size+te.size:=by rw [<-Nat.succ_mul];congr 1;omega
  rw [List.length_append,List.length_append,List.length_take,List.length_drop,hll]
  simp only [Nat.add_mul,Nat.one_mul,List.length_nil] at hmul ⊢
  omega
 obtain ⟨pe,k1,k2,k3,k4⟩:=D6 (K:=K) hR ho1 hmf ho2 m1 (m:=n-1) (tot:=tot) hie his h3 h4 (by rw [his];exact h5) h6 h7 h8 h9 h10 h11 h12 h13 hlen (mM (fun x hx=>hone x (List.mem_of_mem_take hx)) (mM (fun x hx=>by cases hx) (fun x hx=>hone x (List.mem_of_mem_drop hx)))) htot (fun q c l'=>hK q c l')
 exact hr pe _ w' k1 k2 k3 k4
theorem Fp (hG : cv P g) (hR : av P V s B w) {f : FuncId} {ins : Bool} {e : TypeId} (hE : FB P f ins e) {args : List AV} {xs : List Value} {p : List aX} {v : AV} (h : Fo g s ins e args = some (p, v, s')) (hx : concL V args = some xs)
  {K:PE->Prop} (hK:aj p V.toPE K) {R:Ending->World->Prop} (hr:∀pe x w',dr V.toPE pe->K pe->av P (V.at pe) s' B w'->v.conc (V.at pe)=some x->R (.returned x) w'):Calls P f xs.toArray w R:=by
 unfold Fo at h
 split at h
 ·rename_i b off n0 c0 i0 y
  obtain ⟨X1,xr,rfl,hX1,hxr⟩:=ag hx
  obtain ⟨X2,xr,rfl,hX2,hxr⟩:=ag hxr
  obtain ⟨X3,xr,rfl,hX3,hxr⟩:=ag hxr
  have:xr=[]:=by cases xr with | nil=>rfl | cons z zs=>cases hxr
  subst this
  obtain ⟨z,hz,rfl⟩:=aC hX2
  split at h
  ·rename_i o te ho hte
   obtain ⟨cc,hh⟩:=bn h
   clear h
   simp only [bt,Bool.and_eq_true,decide_eq_true_eq,Bool.not_eq_true',decide_eq_false_iff_not] at cc
   obtain ⟨⟨⟨⟨⟨⟨hmf,c2⟩,c3⟩,c4⟩,c5⟩,c7⟩,c8⟩:=cc
   have e1:=dB c2;subst e1
   have e2:=IE.eqb_eq _ _ c3;subst e2
   have e3:=IE.eqb_eq _ _ c4;subst e3
   have e4:o.e=e:=c5
   subst e4
   have hb:0<te.bytes:=Nat.pos_of_ne_zero c8
   have hsz:0<te.size:=Nat.pos_of_ne_zero c7
   obtain ⟨ho1,ho2⟩:=bd ho
   obtain ⟨q,l,n,c,m1,m2,m3,m4,m5,m6,m7,m8⟩:=hR.own.ok o ho1
   rw [hmf] at m1
   have m1b:aA V.τ b=some (.pointer q):=by rw [<-ho2];exact m1
   have hXc:=eS (V:=V) m1b m3 m4
   rw [hX1] at hXc;cases hXc
   obtain ⟨ie,hie,his,hib,_⟩:=(hG.ty _ _ hte).info
   have hll:=m6 hmf ie hie
   rw [his] at hll
   have hn:=ao m3
   have rtk:∀{rest:List aX} {pe:PE},dr V.toPE pe->aj (.d (.rtk o.r i0 te.size)::rest) pe K->(0<=z/\z.toNat<=n)/\aj rest (aL pe (l.take (z.toNat*te.size))) K:=fun {rest pe} hu h=>by
    have hz':=IE.val_up hu.σ _ _ hz
    simp only [aj,aX.sat,D.sat,hu.ρ _ _ m2,hz'] at h
    obtain ⟨⟨h0,h1⟩,h2⟩:=h
    refine ⟨⟨h0,?_⟩,h2 _ rfl⟩
    have h3:z.toNat*te.size<=n*te.size:=by
     have:((z.toNat*te.size:Nat):Int)<=((n*te.size:Nat):Int):=by rw [<-hll,Int.natCast_mul,Int.toNat_of_nonneg h0];exact h1
     omega
    exact Nat.le_of_mul_le_mul_right h3 hsz
   have hone:=m5.2 hmf
   have hcell:∀x∈l,x.oneCell'=true:=fun x hx=>(dC (hone x hx)).2.2
   split at hh
   ·rename_i id off2 c2 k2 _
    split at hh
    ·rename_i l0 e0 new hg hld
     obtain ⟨hal,hh⟩:=bn hh
     cases hh
     obtain ⟨pv,hpv,rfl⟩:=aT hX3
     obtain ⟨vs,v1,v2,v3⟩:=eI hR hld hpv
     obtain ⟨pb,hpb,⟨vs0,fv,b1,b2,b3⟩,_⟩:=hR.blk id _ hg
     rw [hpv] at hpb;cases hpb
     obtain ⟨k1,hK⟩:=tl hR (x := .lit 1) rfl hn hK
     have hq:q≠none:=fun e=>by have:=(m7 e).1;omega
     cases q with
     | none=>exact (hq rfl).elim
     | some q=>
     obtain ⟨e1,e2,e3,e4,e5,ob,e6,e7⟩:=m8 q rfl
     unfold fu at e7
     rw [hmf] at e7
     obtain ⟨rest,fz,rfl,e7,e8⟩:=e7
     obtain ⟨qb,qo,qs⟩:=q
     simp only at e1 e2 e3 e4 e5 e6
     subst e1;subst e2
     obtain ⟨⟨z0,hzn⟩,hK⟩:=rtk (dr.refl _) hK
     have u1:=kx V.toPE (l.take (z.toNat*te.size))
     have hrow:aA (aL V.toPE (l.take (z.toNat*te.size))).ρ s.nr=some (l.take (z.toNat*te.size)):=(fA hR _).2
     have hnoe:∀pe,dr V.toPE pe->∀xs',concL (iN pe) (jB s new)=some xs'->xs'=vs:=fun pe hu xs' h=>by
      have h1:=ku hR v1
      have h2:concL (V.at pe) (jB s new)=some xs':=aG (fE (V.at pe)) h
      have h3:=aG (aD hu) h1
      rw [h3] at h2;cases h2;rfl
     simp only [aj,aX.sat,D.sat,u1.ρ _ _ m2,IE.val_up u1.σ _ _ hz] at hK
     split at hK
     ·rename_i l1 z1 xs1 g1 g2 g3
      cases g1;cases g2
      have:=hnoe _ u1 _ g3
      subst this
      obtain ⟨_,hK⟩:=hK
      have hK:=hK _ rfl
      have hrow2:=(kx (aL V.toPE (l.take (z.toNat*te.size))) (xs1++l.drop (z.toNat*te.size))).ρ _ _ hrow
      have hrow3:aA (aL (aL V.toPE (l.take (z.toNat*te.size))) (xs1++l.drop (z.toNat*te.size))).ρ (Nat.succ s.nr)=some (xs1++l.drop (z.toNat*te.size)):=by
       have:=(fA (fA hR (l.take (z.toNat*te.size))).1 (xs1++l.drop (z.toNat*te.size))).2
       simp only [az.at_at,az.at_toPE] at this
       exact this
      have htot:(eA o.len (.lit 1)).val V.σ=some ((n+1:Nat):Int):=by
       rw [Int.natCast_add];exact dR hn rfl
      have u2:=u1.trans (kx (aL V.toPE (l.take (z.toNat*te.size))) (xs1++l.drop (z.toNat*te.size)))
      simp only [hrow2,hrow3,IE.val_up u2.σ _ _ htot] at hK
      obtain ⟨hlim,hK⟩:=hK
      have hm:2*(n+1)*ie.bytes<=281474976710656:=by rw [hib];exact kP (by simpa using hlim)
      have honev:=kc v1 hal
      have hcall:=hE w qb n c z.toNat l rest xs1 fz ie (.slice (some ⟨pv.1,off2,none⟩) 1 (eG c2 pv.2 k2)) hie (by rw [his];exact hsz) (by rw [hib];exact hb) e6 e7 (by rw [e8 ie hie]) (by rw [hll,his]) (by omega) m5.1.1 m5.1.2 hcell (fun x hx=>(dC (honev x hx)).2.2)
       (by
        rw [if_pos rfl]
        refine ⟨hm,hzn,by rw [v2,his],pv.1,off2,_,vs0.toArray,e0,fv,e5 id _ pv hg rfl hpv,rfl,b2,by simpa using b3,fun j v hj => ?_⟩
        have:=v3 j v hj
        simp only [World.cell?,b2] at this
        exact this)
      rw [show ((z.toNat:Nat):Int)=z from Int.toNat_of_nonneg z0] at hcall
      refine hcall.mono ?_
      rintro r w' ⟨b',c',l',rest',fz',rfl,rfl,h3,h4,h5,h6,h7,h8,h9,h10,h11,h12,h13⟩
      simp only [if_true] at h3 h4 h5 h6 ⊢
      rw [his] at h3 h4 h5
      have hlen:(l.take (z.toNat*te.size)++(xs1++l.drop (z.toNat*te.size))).length=(n+1)*te.size:=by
       have hmul:=Nat.mul_le_mul_right te.size hzn
       rw [List.length_append,List.length_append,List.length_take,List.length_drop,v2,hll,Nat.add_mul];omega
      obtain ⟨pe,k1,k2,k3,k4⟩:=D6 (K:=K) hR ho1 hmf ho2 m1 (m:=n+1) (tot:=eA o.len (.lit 1)) hie his h3 h4 (by rw [his];exact h5) h6 h7 h8 h9 h10 h11 h12 h13 hlen (mM (fun x hx=>hone x (List.mem_of_mem_take hx)) (mM honev (fun x hx=>hone x (List.mem_of_mem_drop hx)))) htot (fun q c l'=>hK q c l')
      exact hr pe _ w' k1 k2 k3 k4
     ·exact hK.elim
    ·cases hh
   ·rename_i j0 _
    cases hh
    obtain ⟨zj,hzj,rfl⟩:=aC hX3
    obtain ⟨rfl,hK⟩:=tj (pe:=V.toPE) hzj (dR hz (show (IE.lit 1).val V.toPE.σ=some 1 from rfl)) hK
    obtain ⟨k1,hK⟩:=tl hR (x := .lit 1) rfl hn hK
    have htot0:(eA o.len (.lit (-1))).val V.σ=some ((n-1:Nat):Int):=by
     have:=dR hn (show (IE.lit (-1)).val V.σ=some (-1) from rfl)
     rw [this];congr 1;omega
    obtain ⟨pe1,u1,hK1,r1,k2⟩:=vU hR htot0 _ (iF _ K _ _ hK)
    exact Gg hG r1 hE ho1 hmf ho2 hte hsz hb (u1.τ _ _ m1) (bP u1.σ m3) (bP u1.σ m4) k1 (IE.val_up u1.σ _ _ hz) (IE.val_up u1.σ _ _ hzj) k2 hK1 (fun pe x w' a1 a2 a3 a4=>hr pe x w' (u1.trans a1) a2 a3 a4)
   ·cases hh
  ·cases h
 ·cases h
theorem vA (hR:av P V s B w) {ins:Bool} {e:TypeId} {args:List AV} {xs:List Value} (hx:concL V args=some xs):∀t v,(t,v)∈rg g s ins e args->∃X,v.conc V=some X:=by
 intro t v h
 unfold rg at h
 split at h
 ·rename_i a1 a2 id off n0 c0 k0
  split at h
  ·split at h
   ·rename_i l hl
    obtain ⟨X1,xr,rfl,hX1,hxr⟩:=ag hx
    obtain ⟨X2,xr,rfl,hX2,hxr⟩:=ag hxr
    obtain ⟨X3,xr,rfl,hX3,hxr⟩:=ag hxr
    obtain ⟨p,hp,_⟩:=aT hX3
    obtain ⟨vs,e1,_⟩:=eI hR hl hp
    exact eE e1 t v h
   ·cases h
  ·cases h
 ·cases h
theorem Dl (hG:cv P g) (hR:av P V s B w) {f:FuncId} {ins:Bool} {e:TypeId} (hE:FB P f ins e) {args:List AV} {xs:List Value} {p:List aX} {v:AV} (h:zO g s ins e args=some (p,v,s')) (hx:concL V args=some xs)
  {K:PE->Prop} (hK:aj p V.toPE K) {R:Ending->World->Prop} (hr:∀pe x w',dr V.toPE pe->K pe->av P (V.at pe) s' B w'->v.conc (V.at pe)=some x->R (.returned x) w'):Calls P f xs.toArray w R:=by
 unfold zO at h
 rcases hf:gW g (rg g s ins e args) s with ⟨p1,s1⟩
 rw [hf] at h
 simp only at h
 split at h
 ·rename_i q v2 s2 h1
  simp only [Option.some.injEq,Prod.mk.injEq] at h
  obtain ⟨rfl,rfl,rfl⟩:=h
  have hy:=sE hG _ V s s1 p1 hR (vA hR hx) hf
  obtain ⟨pe1,u1,k1,r1,_⟩:=hy _ (iF q K p1 V.toPE hK)
  exact Fp (V:=V.at pe1) hG r1 hE h1 (aG (aD u1) hx) k1 (fun pe x w' a1 a2 a3 a4=>hr pe x w' (u1.trans a1) a2 a3 a4)
 ·cases h
end
end
end Go.Proofs.YtjabmipkllkfbaaGreatDoor.Vc
