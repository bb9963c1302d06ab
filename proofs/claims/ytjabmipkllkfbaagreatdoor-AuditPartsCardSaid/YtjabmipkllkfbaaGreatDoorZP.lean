/-
  Due times: what is known of an occurrence behind some events, in a map; outcomes that are not due, and that come too often: plain; audit.Dues of one job that is due at a fixed period: parts of its condition; Contracts, by their trees.
-/
import Derived.Test.YtjabmipkllkfbaaGreatDoorZN
import Derived.Test.YtjabmipkllkfbaaGreatDoorZO
import Derived.Test.YtjabmipkllkfbaaGreatDoorZF
set_option linter.unusedVariables false
set_option linter.unusedSimpArgs false
namespace Go.Proofs.YtjabmipkllkfbaaGreatDoor.Vc
section
open As
structure uh where
 b:Int
 e:Int
 u:Int
structure fM where
 j:Int
 d:Int
 l:uh
def uo (j d:Int):Value := .agg (List.toArray [.int .i64 j,.int .i64 d])
def sU (L:uh):Value := .agg (List.toArray [.int .i64 L.b,.int .i64 L.e,.int .i64 L.u])
def lm (e:fM):Value := .tuple #[uo e.j e.d,sU e.l]
def fM.is (e:fM) (j d:Int):Bool:=decide (j=e.j)&&decide (d=e.d)
theorem fM.is_iff {e:fM} {j d:Int}:e.is j d=true↔j=e.j/\d=e.d:=by simp [fM.is]
theorem Dc (j d:Int) (e:fM):dh (uo j d) (uo e.j e.d)=some (e.is j d):=by
 unfold uo dh fM.is
 simp only [jc,if_true]
 congr 1
 rw [Bool.eq_iff_iff]
 simp
def lQ:List fM->Int->Int->Option uh
 | [],_,_=>none
 | e::F,j,d=>if e.is j d=true then some e.l else lQ F j d
def un:List fM->Int->Int->uh->List fM
 | [],j,d,l=>[⟨j,d,l⟩]
 | e::F,j,d,l=>if e.is j d=true then ⟨j,d,l⟩::F else e::un F j d l
theorem Ey:∀(F:List fM) (j d:Int) (l:uh) (j' d':Int),lQ (un F j d l) j' d'=if j'=j/\d'=d then some l else lQ F j' d':=by
 intro F
 induction F with
 | nil=>
  intro j d l j' d'
  simp only [un,lQ,fM.is_iff]
 | cons e F ih =>
  intro j d l j' d'
  simp only [un]
  by_cases h:e.is j d=true
  ·rw [if_pos h]
   simp only [lQ,fM.is_iff]
   rw [fM.is_iff] at h
   obtain ⟨h1,h2⟩:=h
   by_cases g:j'=j/\d'=d
   ·rw [if_pos g,if_pos g]
   ·rw [if_neg g,if_neg g,if_neg (fun q=>g ⟨by omega,by omega⟩)]
  ·rw [if_neg h]
   simp only [lQ,ih,fM.is_iff]
   rw [fM.is_iff] at h
   by_cases g:j'=e.j/\d'=e.d
   ·rw [if_pos g,if_neg (fun q=>h ⟨by omega,by omega⟩),if_pos g]
   ·rw [if_neg g,if_neg g]
def qT:uh:=⟨0,0,0⟩
theorem Kg : ∀ (F : List fM) (j d : Int), ∃ f, bb (uo j d) (F.map lm) 0 = some f /\ (∃ r, oO true f [.int .i64 0, .int .i64 0, .int .i64 0] r /\ r = [.int .i64 ((lQ F j d).getD qT).b, .int .i64 ((lQ F j d).getD qT).e, .int .i64 ((lQ F j d).getD qT).u]) /\
  ∀l,kQ f (F.map lm) (uo j d) (sU l)=(un F j d l).map lm:=by
 have key : ∀ (F : List fM) (j d : Int) (i : Nat), ∃ f, bb (uo j d) (F.map lm) i = some f /\ (match lQ F j d with | some l => ∃ n, f = some (i + n, sU l) | none => f = none) /\
   ∀l,(match f with | some (n,_)=>(F.map lm).set (n-i) (.tuple #[uo j d,sU l]) | none=>F.map lm++[.tuple #[uo j d,sU l]])=(un F j d l).map lm:=by
  intro F
  induction F with
  | nil=>intro j d i;exact ⟨none,rfl,rfl,fun t=>rfl⟩
  | cons e F ih =>
   intro j d i
   have hs:=Dc j d e
   by_cases h:e.is j d=true
   ·refine ⟨some (i,sU e.l),?_,?_,fun t => ?_⟩
    ·simp only [List.map_cons,lm,bb,hs,h]
    ·simp only [lQ,h,if_true];exact ⟨0,rfl⟩
    ·simp only [un,h,if_true,Nat.sub_self];rfl
   ·have h':e.is j d=false:=by simpa using h
    obtain ⟨f,h1,h2,h3⟩:=ih j d (Nat.succ i)
    refine ⟨f,?_,?_,fun t => ?_⟩
    ·simp only [List.map_cons,lm,bb,hs,h'];exact h1
    ·simp only [lQ,h',Bool.false_eq_true,if_false]
     split at h2
     ·rename_i t ht
      obtain ⟨n,rfl⟩:=h2
      exact ⟨n+1,by congr 2;omega⟩
     ·exact h2
    ·have g:=h3 t
     simp only [un,h',Bool.false_eq_true,if_false,List.map_cons]
     rw [<-g]
     cases f with
     | none=>rfl
     | some f =>
      obtain ⟨n,v⟩:=f
      have hn:Nat.succ i<=n:=by
       split at h2
       ·obtain ⟨n',hn'⟩:=h2
        simp only [Option.some.injEq,Prod.mk.injEq] at hn'
        omega
       ·cases h2
      simp only
      rw [show n-i=(n-Nat.succ i)+1 by omega]
      rfl
 intro F j d
 obtain ⟨f,h1,h2,h3⟩:=key F j d 0
 refine ⟨f,h1,?_,fun t => ?_⟩
 ·split at h2
  ·rename_i l hl
   obtain ⟨n,rfl⟩:=h2
   refine ⟨[.int .i64 l.b,.int .i64 l.e,.int .i64 l.u],⟨rfl,fun x hx => ?_,rfl⟩,by rw [hl];rfl⟩
   simp only [List.mem_cons,List.not_mem_nil,or_false] at hx
   rcases hx with rfl | rfl | rfl<;>rfl
  ·rename_i hl
   subst h2
   refine ⟨[.int .i64 0,.int .i64 0,.int .i64 0],⟨rfl,fun x hx => ?_,rfl⟩,by rw [hl];rfl⟩
   simp only [List.mem_cons,List.not_mem_nil,or_false] at hx
   rcases hx with rfl | rfl | rfl<;>rfl
 ·rw [<-h3 t]
  cases f with
  | none=>rfl
  | some f=>obtain ⟨n,v⟩:=f;rfl
def nh (x:Ev):Prop:=x.kind<=5/\x.kind≠4
instance (x:Ev):Decidable (nh x):=by unfold nh;infer_instance
def ig (x:Ev) (L:uh):uh:=
 if x.kind=1 then ⟨L.b+1,L.e,L.u+1⟩ else if x.kind=5 then ⟨L.b+1,L.e+1,L.u⟩ else if x.kind=2 then ⟨L.b,L.e+1,L.u-1⟩ else if x.kind=3 then ⟨L.b,L.e,L.u-1⟩ else L
def gm (p:List Ev):List fM:=p.foldl (fun F x=>if nh x then un F x.job x.due (ig x ((lQ F x.job x.due).getD qT)) else F) []
def b9 (p:List Ev) (j d:Int):uh:=(lQ (gm p) j d).getD qT
theorem nL (p:List Ev) (x:Ev):gm (p++[x])=if nh x then un (gm p) x.job x.due (ig x (b9 p x.job x.due)) else gm p:=by unfold gm;rw [List.foldl_append];rfl
theorem w9 (p:List Ev) (x:Ev) (j d:Int):b9 (p++[x]) j d=if nh x/\j=x.job/\d=x.due then ig x (b9 p x.job x.due) else b9 p j d:=by
 unfold b9
 rw [nL]
 by_cases h:nh x
 ·rw [if_pos h,Ey]
  by_cases g:j=x.job/\d=x.due
  ·rw [if_pos g,if_pos ⟨h,g⟩];rfl
  ·rw [if_neg g,if_neg (fun q=>g q.2)]
 ·rw [if_neg h,if_neg (fun q=>h q.1)]
theorem xa:∀(n:Nat) (p:List Ev),p.length=n->∀j d,(0<=(b9 p j d).b/\(b9 p j d).b<=p.length)/\(0<=(b9 p j d).e/\(b9 p j d).e<=p.length)/\(-(p.length:Int)<=(b9 p j d).u/\(b9 p j d).u<=p.length):=by
 intro n
 induction n with
 | zero=>
  intro p hp j d
  have:p=[]:=List.length_eq_zero_iff.1 hp
  subst this
  simp [b9,gm,lQ,qT]
 | succ n ih =>
  intro p hp j d
  have hne:p≠[]:=fun h=>by rw [h] at hp;cases hp
  have hd:=List.dropLast_concat_getLast hne
  generalize p.getLast hne=x at hd
  generalize hq:p.dropLast=q at hd
  have hql:q.length=n:=by rw [<-hq,List.length_dropLast,hp];rfl
  rw [<-hd,w9,List.length_append,List.length_singleton]
  have h1:=ih q hql j d
  have h2:=ih q hql x.job x.due
  split
  ·unfold ig
   repeat' split
   all_goals first | omega | (simp only;omega)
  ·omega
def mW (p:List Ev) (x:Ev):Bool:=(decide (x.kind=1)||decide (x.kind=5)) &&
 (decide (0<(b9 p x.job x.due).e)||(decide (0<(b9 p x.job x.due).u)||(decide (0<(b9 p x.job x.due).b)&&(decide (x.kind=1)&&decide (x.attempt=1)))))
theorem ri {x:Ev} (h:evP x=0) (hk:x.kind=1\/x.kind=5):0<=x.due/\x.due<=253402300799:=by
 have ht:timeB x.due=true:=by
  cases hj:timeB x.due with
  | true=>rfl
  | false =>
   exfalso
   unfold evP at h
   have hu:(usesK x.kind).2.1=true:=by
    unfold usesK
    rcases hk with h | h
    ·rw [h];rfl
    ·rw [h];rfl
   by_cases h1:x.kind<1\/9<=x.kind
   ·rw [if_pos h1] at h;cases h
   ·rw [if_neg h1] at h
    dsimp only at h
    rw [if_pos (.inr ⟨hu,by rw [hj];simp⟩)] at h
    cases h
 simp only [timeB,Bool.and_eq_true,decide_eq_true_eq] at ht
 exact ht
end
section
open As
theorem su {s p c d:Int} (hp:1<=p) (hn:0<=kM s p c):gg s p c d=true↔∃k,0<=k/\k<kM s p c/\s+k*p=d:=by
 obtain ⟨b0,b1⟩:=ox (t:=d) (c:=c) (s:=s) hp hn
 unfold gg
 rw [decide_eq_true_eq]
 refine ⟨fun h=>⟨_,b0,h.1,h.2⟩,fun ⟨k,h0,h1,h2⟩ => ?_⟩
 have e1:=fx (s:=s) (c:=c) (t:=d) hp k h0
 have e2:gU s p c d=k:=by
  rcases Int.lt_trichotomy (gU s p c d) k with h | h | h
  ·exfalso
   have e3:=(fx (s:=s) (c:=c) (t:=d) hp (gU s p c d) b0)
   have h3:(gU s p c d)*p+p<=k*p:=by
    have:=Int.mul_le_mul_of_nonneg_right (show gU s p c d+1<=k by omega) (show 0<=p by omega)
    rw [Int.add_mul,Int.one_mul] at this
    exact this
   omega
  ·exact h
  ·omega
 rw [e2]
 exact ⟨h1,h2⟩
theorem BD {s p c t:Int} (hp:1<=p) (hn:0<=kM s p c) (h:gU s p c (t+1)<kM s p c):t<s+gU s p c (t+1)*p/\gg s p c (s+gU s p c (t+1)*p)=true/\∀d,t<d->d<s+gU s p c (t+1)*p->gg s p c d=false:=by
 obtain ⟨b0,b1⟩:=ox (t:=t+1) (c:=c) (s:=s) hp hn
 have e:=fx (s:=s) (c:=c) (t:=t+1) hp (gU s p c (t+1)) b0
 refine ⟨by omega,(su hp hn).2 ⟨_,b0,h,rfl⟩,fun d h1 h2 => ?_⟩
 cases hd:gg s p c d with
 | false=>rfl
 | true=>
  exfalso
  obtain ⟨k,k0,k1,k2⟩:=(su hp hn).1 hd
  have e1:=fx (s:=s) (c:=c) (t:=t+1) hp k k0
  have h3:(gU s p c (t+1))*p<=k*p:=Int.mul_le_mul_of_nonneg_right (by omega) (by omega)
  omega
theorem BC {s p c t:Int} (hp:1<=p) (hn:0<=kM s p c) (h:¬gU s p c (t+1)<kM s p c):∀d,t<d->gg s p c d=false:=fun d h1=>by
 cases hd:gg s p c d with
 | false=>rfl
 | true=>
  exfalso
  obtain ⟨k,k0,k1,k2⟩:=(su hp hn).1 hd
  have e1:=fx (s:=s) (c:=c) (t:=t+1) hp k k0
  omega
def J4:List BE:=[.eq (.var 7) (.lit 1),.le (.lit 0) (.var 9),.le (.var 9) (.lit 253402300799),.le (.lit 0) (.var 10),.le (.var 10) (.lit 253402300799),.le (.var 9) (.var 10),.le (.sub (.var 10) (.var 9)) (.lit 1000000),.le (.add (.var 9) (.lit 1)) (.var 10)]
structure rN (J:cr):Prop where
 k:J.k=2
 a:J.a=0
 b:J.b=0
 c:J.c=0
 d:J.d=0
 e:J.e=0
 f:J.f=0
 x:J.x=false
 y:J.y=false
 z:J.z=0
 skip:J.skip=[]
 s:0<=J.s/\J.s<=253402300799
 t:1<=J.t/\J.t<=68719476736
 u:0<=J.u/\J.u<=1000000
 splay:J.pol.splay=0
 dead:0<=J.pol.dead/\J.pol.dead<=1000000
theorem rN.num {J:cr} (h:rN J):1<=kM J.s J.t J.u:=(vH (t:=0) (⟨h.s.1,h.s.2,h.t.1,h.t.2,h.u.1,h.u.2,by omega,by omega⟩:Gq J.s J.t J.u 0)).2.2.1
def xY (J:cr) (a z:Int) (p:List Ev) (x:Ev):Bool:=(decide (x.kind=1)||decide (x.kind=5))&&(!gg J.s J.t J.u x.due||(decide (x.due<=a)||decide (z<x.due)))
def xh (J:cr) (z:Int) (l:List Ev) (d:Int):Prop:=gg J.s J.t J.u d=true/\d+J.pol.dead<z/\(b9 l 0 d).b=0
def qU (J:cr) (a z:Int) (l:List Ev):Prop:=∃d,a<d/\d<=z/\xh J z l d
def qV (J:cr) (a z:Int) (l:List Ev) (M:Bool):List Value:=(aV 5 (bZ (marks (xY J a z) l l.length) 0)++aV 6 (bZ (marks mW l l.length) 0))++(if M=true then [.int .i64 7,.int .i64 0] else [])
def yn (J:cr) (a z:Int) (l:List Ev) (M:Bool):Nat:=((bZ (marks (xY J a z) l l.length) 0).length+(bZ (marks mW l l.length) 0).length)+(if M=true then 1 else 0)
def rP (a b c d s t u:Int) (p:Option Addr) (n cc:Nat) (y z:Int) (p1:Option Addr) (n1 c1:Nat) (m:Mem):Prop:=((dJ m ln/\dJ m oH)/\n=1/\(0<=y/\y+1<=z/\z<=253402300799/\z-y<=1000000)/\n1<=1000)/\
 ∃J l,cM m p 1 [J]/\dx m p1 n1 l/\rN J/\gf a b c d t u [J]=0/\∃i:Int,(i,(0:Int))=iG 1 l
def cQ (a b c d s t u:Int) (p:Option Addr) (n cc:Nat) (y z:Int) (p1:Option Addr) (n1 c1:Nat) (m:Mem) (q:Option Addr) (n2 c2:Nat) (e:Int):Prop:=
 ∀J l,cM m p 1 [J]->dx m p1 n1 l->e=0/\∃M:Bool,(M=true↔qU J y z l)/\eg m q (qV J y z l M)/\n2=yn J y z l M
def Cq (n2 n4:Nat) (r0 r2:List Value) (p2:Option Addr) (m8:Mem) (Q:Mem->Option Addr->Nat->Nat->Prop):Prop:=
 (((0+(n2:Int))+(n4:Int))<=9223372036854775807/\((((0+(n2:Int))+(n4:Int))+0)<=9223372036854775807/\(((((0+(n2:Int))+(n4:Int))+0)-0)<=9223372036854775807/\((0<((((0+(n2:Int))+(n4:Int))+0)-0)->
 (((0:Int)<=0/\(0:Int)<=1000000)/\∀r4:List Value,r4=cP (0:Int).toNat [(Value.int IntKind.i64 0),(Value.int IntKind.i64 0)]->((0<=((((0+(n2:Int))+(n4:Int))+0)-0)/\((((0+(n2:Int))+(n4:Int))+0)-0)<=1000000)/\∀r5:List Value,r5=cP (((((0+(n2:Int))+(n4:Int))+0)-0)).toNat [(Value.int IntKind.i64 0),(Value.int IntKind.i64 0)]->((2*((((0+(n2:Int))+(n4:Int))+0)-0)*16<=281474976710656)/\∀(p6:Option Addr) (c6:Nat) (r6:List Value),r6=r4++r5->((((0+(n2:Int))+(n4:Int))+0)-0)<=(c6:Int)->c6<=9223372036854775807->(p6=none->((((0+(n2:Int))+(n4:Int))+0)-0)=0)->(∃n43_:Nat,(n43_:Int)=0/\n43_<=9223372036854775807/\((0<=(n43_:Int)/\(n43_:Int)*2<=((r6.length:Nat):Int))/\∀r7:List Value,r7=r6.take (((n43_:Int)).toNat*2)->((2*((n43_:Int)+(n2:Int))*16<=281474976710656)/\∀(p7:Option Addr) (c7:Nat) (r8:List Value),r8=r7++r0->((n43_:Int)+(n2:Int))<=(c7:Int)->c7<=9223372036854775807->(p7=none->((n43_:Int)+(n2:Int))=0)->((0<=((n43_:Int)+(n2:Int))/\((n43_:Int)+(n2:Int))*2<=((r8.length:Nat):Int))/\∀r9:List Value,r9=r8.take ((((n43_:Int)+(n2:Int))).toNat*2)->((2*(((n43_:Int)+(n2:Int))+(n4:Int))*16<=281474976710656)/\∀(p8:Option Addr) (c8:Nat) (r10:List Value),r10=r9++r2->(((n43_:Int)+(n2:Int))+(n4:Int))<=(c8:Int)->c8<=9223372036854775807->(p8=none->(((n43_:Int)+(n2:Int))+(n4:Int))=0)->(∀m9:Mem,ac m8 m9->bJ m9 p8 r10->(((Int.toNat (((n43_:Int)+(n2:Int))+(n4:Int)))<=9223372036854775807/\c8<=9223372036854775807)/\(K.i64 0)/\Q m9 (p8.map fun p=>p.add 0) (Int.toNat (((n43_:Int)+(n2:Int))+(n4:Int))) c8)))))))))))/\
 (((((0+(n2:Int))+(n4:Int))+0)-0)<=0->
 (∃r4:List Value,((r4.length:Nat):Int)=0*2/\(∀(j:Nat) (v:Value),r4[j]? = some v->ae m8 p2 (0+(j:Int))=some v)/\((2*(n2:Int)*16<=281474976710656)/\∀(p6:Option Addr) (c6:Nat) (r5:List Value),r5=r4++r0->(n2:Int)<=(c6:Int)->c6<=9223372036854775807->(p6=none->(n2:Int)=0)->((0<=(n2:Int)/\(n2:Int)*2<=((r5.length:Nat):Int))/\∀r6:List Value,r6=r5.take (((n2:Int)).toNat*2)->((2*((n2:Int)+(n4:Int))*16<=281474976710656)/\∀(p7:Option Addr) (c7:Nat) (r7:List Value),r7=r6++r2->((n2:Int)+(n4:Int))<=(c7:Int)->c7<=9223372036854775807->(p7=none->((n2:Int)+(n4:Int))=0)->(∀m9:Mem,ac m8 m9->bJ m9 p7 r7->(((Int.toNat ((n2:Int)+(n4:Int)))<=9223372036854775807/\c7<=9223372036854775807)/\(K.i64 0)/\Q m9 (p7.map fun p=>p.add 0) (Int.toNat ((n2:Int)+(n4:Int))) c7)))))))))))
def Cp (n2 n4:Nat) (r0 r2:List Value) (m8:Mem) (Q:Mem->Option Addr->Nat->Nat->Prop):Prop:=
 (((0+(n2:Int))+(n4:Int))<=9223372036854775807/\((((0+(n2:Int))+(n4:Int))+1)<=9223372036854775807/\(((((0+(n2:Int))+(n4:Int))+1)-0)<=9223372036854775807/\(((0:Int)<=0/\(0:Int)<=1000000)/\∀r5:List Value,r5=cP (0:Int).toNat [(Value.int IntKind.i64 0),(Value.int IntKind.i64 0)]->((0<=((((0+(n2:Int))+(n4:Int))+1)-0)/\((((0+(n2:Int))+(n4:Int))+1)-0)<=1000000)/\∀r6:List Value,r6=cP (((((0+(n2:Int))+(n4:Int))+1)-0)).toNat [(Value.int IntKind.i64 0),(Value.int IntKind.i64 0)]->((2*((((0+(n2:Int))+(n4:Int))+1)-0)*16<=281474976710656)/\∀(p6:Option Addr) (c6:Nat) (r7:List Value),r7=r5++r6->((((0+(n2:Int))+(n4:Int))+1)-0)<=(c6:Int)->c6<=9223372036854775807->(p6=none->((((0+(n2:Int))+(n4:Int))+1)-0)=0)->(∃n47_:Nat,(n47_:Int)=0/\n47_<=9223372036854775807/\((0<=(n47_:Int)/\(n47_:Int)*2<=((r7.length:Nat):Int))/\∀r8:List Value,r8=r7.take (((n47_:Int)).toNat*2)->((2*((n47_:Int)+(n2:Int))*16<=281474976710656)/\∀(p7:Option Addr) (c7:Nat) (r9:List Value),r9=r8++r0->((n47_:Int)+(n2:Int))<=(c7:Int)->c7<=9223372036854775807->(p7=none->((n47_:Int)+(n2:Int))=0)->((0<=((n47_:Int)+(n2:Int))/\((n47_:Int)+(n2:Int))*2<=((r9.length:Nat):Int))/\∀r10:List Value,r10=r9.take ((((n47_:Int)+(n2:Int))).toNat*2)->((2*(((n47_:Int)+(n2:Int))+(n4:Int))*16<=281474976710656)/\∀(p8:Option Addr) (c8:Nat) (r11:List Value),r11=r10++r2->(((n47_:Int)+(n2:Int))+(n4:Int))<=(c8:Int)->c8<=9223372036854775807->(p8=none->(((n47_:Int)+(n2:Int))+(n4:Int))=0)->((2*((((n47_:Int)+(n2:Int))+(n4:Int))+1)*16<=281474976710656)/\∀(p9:Addr) (c9:Nat) (r12:List Value),r12=r11++[(Value.int IntKind.i64 7),(Value.int IntKind.i64 0)]->(((n47_:Int)+(n2:Int))+(n4:Int))+1<=(c9:Int)->c9<=9223372036854775807->(∀m9:Mem,ac m8 m9->bJ m9 (some p9) r12->(((Int.toNat ((((n47_:Int)+(n2:Int))+(n4:Int))+1))<=9223372036854775807/\c9<=9223372036854775807)/\(K.i64 0)/\Q m9 ((some p9).map fun p=>p.add 0) (Int.toNat ((((n47_:Int)+(n2:Int))+(n4:Int))+1)) c9))))))))))))))
def CU (F4:Option Addr->Nat->Nat->Int->List Value->Prop×Nat) (p0 p1:Option Addr) (x9 x10:Int) (m3:Mem) (p2:Option Addr) (n2 c2:Nat) (x19:Int) (r0:List Value):Prop:=
 (∃x21:Int,ae m3 p1 ((0+(x19*8))+2)=some (Value.int IntKind.i64 x21)/\(K.i64 x21)/\(0<=x21/\(x21<1/\(p0≠none/\(cw m3 p0 ((0+(x21*30))+1) 14/\(∃x22:Int,ae m3 p1 ((0+(x19*8))+3)=some (Value.int IntKind.i64 x22)/\(K.i64 x22)/\(∃x23:Int,ae m3 p0 ((0+(x21*30))+1)=some (Value.int IntKind.i64 x23)/\(K.i64 x23)/\(∃x24:Int,ae m3 p0 (((0+(x21*30))+1)+1)=some (Value.int IntKind.u64 x24)/\(K.u64 x24)/\(∃x25:Int,ae m3 p0 (((0+(x21*30))+1)+2)=some (Value.int IntKind.u64 x25)/\(K.u64 x25)/\(∃x26:Int,ae m3 p0 (((0+(x21*30))+1)+3)=some (Value.int IntKind.u64 x26)/\(K.u64 x26)/\(∃x27:Int,ae m3 p0 (((0+(x21*30))+1)+4)=some (Value.int IntKind.u64 x27)/\(K.u64 x27)/\(∃x28:Int,ae m3 p0 (((0+(x21*30))+1)+5)=some (Value.int IntKind.u64 x28)/\(K.u64 x28)/\(∃x29:Int,ae m3 p0 (((0+(x21*30))+1)+6)=some (Value.int IntKind.u64 x29)/\(K.u64 x29)/\(∃b0:Bool,ae m3 p0 (((0+(x21*30))+1)+7)=some (Value.bool b0)/\(∃b1:Bool,ae m3 p0 (((0+(x21*30))+1)+8)=some (Value.bool b1)/\(∃x30:Int,ae m3 p0 (((0+(x21*30))+1)+9)=some (Value.int IntKind.i64 x30)/\(K.i64 x30)/\(∃x31:Int,ae m3 p0 (((0+(x21*30))+1)+10)=some (Value.int IntKind.i64 x31)/\(K.i64 x31)/\(∃x32:Int,ae m3 p0 (((0+(x21*30))+1)+11)=some (Value.int IntKind.i64 x32)/\(K.i64 x32)/\(∃x33:Int,ae m3 p0 (((0+(x21*30))+1)+12)=some (Value.int IntKind.i64 x33)/\(K.i64 x33)/\(∃(p3:Option Addr) (n3 c3:Nat),ae m3 p0 (((0+(x21*30))+1)+13)=some (Value.slice p3 n3 c3)/\(n3<=c3/\c3<=9223372036854775807)/\((n3<=9223372036854775807/\c3<=9223372036854775807)/\tC x23 x24 x25 x26 x27 x28 x29 b0 b1 x30 x31 x32 x33 (p3.map fun p=>p.add 0) n3 c3 x22 m3/\∀m5:Mem,ac m3 m5->∀b2:Bool,∀x36:Int,IntKind.i64.min<=x36->x36<=IntKind.i64.max->dD x23 x24 x25 x26 x27 x28 x29 b0 b1 x30 x31 x32 x33 (p3.map fun p=>p.add 0) n3 c3 x22 m5 b2 x36->
 ((x36≠0->
 ((2*((n2:Int)+1)*16<=281474976710656)/\∀(p4:Addr) (c4:Nat) (r1:List Value),r1=r0++[(Value.int IntKind.i64 5),(Value.int IntKind.i64 x19)]->(n2:Int)+1<=(c4:Int)->c4<=9223372036854775807->((x19+1)<=9223372036854775807/\(((Int.toNat ((n2:Int)+1))<=9223372036854775807/\c4<=9223372036854775807)/\(IntKind.i64.min<=(x19+1)/\(x19+1)<=IntKind.i64.max)/\((F4 ((some p4).map fun p=>p.add 0) (Int.toNat ((n2:Int)+1)) c4 (x19+1) r1).1/\(F4 ((some p4).map fun p=>p.add 0) (Int.toNat ((n2:Int)+1)) c4 (x19+1) r1).2<(F4 p2 n2 c2 x19 r0).2)))))/\
 (x36=0->
 ((b2=false->
 ((2*((n2:Int)+1)*16<=281474976710656)/\∀(p4:Addr) (c4:Nat) (r1:List Value),r1=r0++[(Value.int IntKind.i64 5),(Value.int IntKind.i64 x19)]->(n2:Int)+1<=(c4:Int)->c4<=9223372036854775807->((x19+1)<=9223372036854775807/\(((Int.toNat ((n2:Int)+1))<=9223372036854775807/\c4<=9223372036854775807)/\(IntKind.i64.min<=(x19+1)/\(x19+1)<=IntKind.i64.max)/\((F4 ((some p4).map fun p=>p.add 0) (Int.toNat ((n2:Int)+1)) c4 (x19+1) r1).1/\(F4 ((some p4).map fun p=>p.add 0) (Int.toNat ((n2:Int)+1)) c4 (x19+1) r1).2<(F4 p2 n2 c2 x19 r0).2)))))/\
 (b2=true->
 ((x22<=x9->
 ((2*((n2:Int)+1)*16<=281474976710656)/\∀(p4:Addr) (c4:Nat) (r1:List Value),r1=r0++[(Value.int IntKind.i64 5),(Value.int IntKind.i64 x19)]->(n2:Int)+1<=(c4:Int)->c4<=9223372036854775807->((x19+1)<=9223372036854775807/\(((Int.toNat ((n2:Int)+1))<=9223372036854775807/\c4<=9223372036854775807)/\(IntKind.i64.min<=(x19+1)/\(x19+1)<=IntKind.i64.max)/\((F4 ((some p4).map fun p=>p.add 0) (Int.toNat ((n2:Int)+1)) c4 (x19+1) r1).1/\(F4 ((some p4).map fun p=>p.add 0) (Int.toNat ((n2:Int)+1)) c4 (x19+1) r1).2<(F4 p2 n2 c2 x19 r0).2)))))/\
 (x9<x22->
 ((x21=0->
 ((x10<x22->
 ((2*((n2:Int)+1)*16<=281474976710656)/\∀(p4:Addr) (c4:Nat) (r1:List Value),r1=r0++[(Value.int IntKind.i64 5),(Value.int IntKind.i64 x19)]->(n2:Int)+1<=(c4:Int)->c4<=9223372036854775807->((x19+1)<=9223372036854775807/\(((Int.toNat ((n2:Int)+1))<=9223372036854775807/\c4<=9223372036854775807)/\(IntKind.i64.min<=(x19+1)/\(x19+1)<=IntKind.i64.max)/\((F4 ((some p4).map fun p=>p.add 0) (Int.toNat ((n2:Int)+1)) c4 (x19+1) r1).1/\(F4 ((some p4).map fun p=>p.add 0) (Int.toNat ((n2:Int)+1)) c4 (x19+1) r1).2<(F4 p2 n2 c2 x19 r0).2)))))/\
 (x22<=x10->
 ((x19+1)<=9223372036854775807/\((n2<=9223372036854775807/\c2<=9223372036854775807)/\(IntKind.i64.min<=(x19+1)/\(x19+1)<=IntKind.i64.max)/\((F4 (p2.map fun p=>p.add 0) n2 c2 (x19+1) r0).1/\(F4 (p2.map fun p=>p.add 0) n2 c2 (x19+1) r0).2<(F4 p2 n2 c2 x19 r0).2))))))/\
 (x21≠0->
 False /- err 120 -/)))))))))))))))))))))))))))))
def HN (F5:Option Addr->Nat->Nat->Int->List Value->List Value->Prop×Nat) (p1:Option Addr) (m3:Mem) (x22:Int) (p4:Option Addr) (n4 c4:Nat) (r2 r3:List Value):Prop:=
 (0<=x22/\(p1≠none/\(cw m3 p1 (0+(x22*8)) 8/\(∃x23:Int,ae m3 p1 (0+(x22*8))=some (Value.int IntKind.i64 x23)/\(K.i64 x23)/\((5<x23->
 ((x22+1)<=9223372036854775807/\((n4<=9223372036854775807/\c4<=9223372036854775807)/\(IntKind.i64.min<=(x22+1)/\(x22+1)<=IntKind.i64.max)/\((F5 (p4.map fun p=>p.add 0) n4 c4 (x22+1) r2 r3).1/\(F5 (p4.map fun p=>p.add 0) n4 c4 (x22+1) r2 r3).2<(F5 p4 n4 c4 x22 r2 r3).2))))/\
 (x23<=5->
 ((x23=4->
 ((x22+1)<=9223372036854775807/\((n4<=9223372036854775807/\c4<=9223372036854775807)/\(IntKind.i64.min<=(x22+1)/\(x22+1)<=IntKind.i64.max)/\((F5 (p4.map fun p=>p.add 0) n4 c4 (x22+1) r2 r3).1/\(F5 (p4.map fun p=>p.add 0) n4 c4 (x22+1) r2 r3).2<(F5 p4 n4 c4 x22 r2 r3).2))))/\
 (x23≠4->
 (∃x24:Int,ae m3 p1 ((0+(x22*8))+2)=some (Value.int IntKind.i64 x24)/\(K.i64 x24)/\(∃x25:Int,ae m3 p1 ((0+(x22*8))+3)=some (Value.int IntKind.i64 x25)/\(K.i64 x25)/\(∃f:Option (Nat×Value),bb (Value.agg (List.toArray [(Value.int IntKind.i64 x24),(Value.int IntKind.i64 x25)])) r3 0=some f/\∀b0:Bool,b0=rq f->∃r4:List Value,oO true f [(Value.int IntKind.i64 0),(Value.int IntKind.i64 0),(Value.int IntKind.i64 0)] r4/\((x23=1->
 (∃x26:Int,br r4 1=some (Value.int IntKind.i64 x26)/\(K.i64 x26)/\((0<x26->
 (∃x27:Int,br r4 0=some (Value.int IntKind.i64 x27)/\(K.i64 x27)/\((x27+1)<=9223372036854775807/\(∃x28:Int,br r4 2=some (Value.int IntKind.i64 x28)/\(K.i64 x28)/\((x28+1)<=9223372036854775807/\(∃f:Option (Nat×Value),bb (Value.agg (List.toArray [(Value.int IntKind.i64 x24),(Value.int IntKind.i64 x25)])) r3 0=some f/\∀r5:List Value,r5=kQ f r3 (Value.agg (List.toArray [(Value.int IntKind.i64 x24),(Value.int IntKind.i64 x25)])) (Value.agg (List.toArray [(Value.int IntKind.i64 (x27+1)),(Value.int IntKind.i64 x26),(Value.int IntKind.i64 (x28+1))]))->((2*((n4:Int)+1)*16<=281474976710656)/\∀(p5:Addr) (c5:Nat) (r6:List Value),r6=r2++[(Value.int IntKind.i64 6),(Value.int IntKind.i64 x22)]->(n4:Int)+1<=(c5:Int)->c5<=9223372036854775807->((x22+1)<=9223372036854775807/\(((Int.toNat ((n4:Int)+1))<=9223372036854775807/\c5<=9223372036854775807)/\(IntKind.i64.min<=(x22+1)/\(x22+1)<=IntKind.i64.max)/\((F5 ((some p5).map fun p=>p.add 0) (Int.toNat ((n4:Int)+1)) c5 (x22+1) r6 r5).1/\(F5 ((some p5).map fun p=>p.add 0) (Int.toNat ((n4:Int)+1)) c5 (x22+1) r6 r5).2<(F5 p4 n4 c4 x22 r2 r3).2))))))))))/\
 (x26<=0->
 (∃x27:Int,br r4 2=some (Value.int IntKind.i64 x27)/\(K.i64 x27)/\((0<x27->
 (∃x28:Int,br r4 0=some (Value.int IntKind.i64 x28)/\(K.i64 x28)/\((x28+1)<=9223372036854775807/\((x27+1)<=9223372036854775807/\(∃f:Option (Nat×Value),bb (Value.agg (List.toArray [(Value.int IntKind.i64 x24),(Value.int IntKind.i64 x25)])) r3 0=some f/\∀r5:List Value,r5=kQ f r3 (Value.agg (List.toArray [(Value.int IntKind.i64 x24),(Value.int IntKind.i64 x25)])) (Value.agg (List.toArray [(Value.int IntKind.i64 (x28+1)),(Value.int IntKind.i64 x26),(Value.int IntKind.i64 (x27+1))]))->((2*((n4:Int)+1)*16<=281474976710656)/\∀(p5:Addr) (c5:Nat) (r6:List Value),r6=r2++[(Value.int IntKind.i64 6),(Value.int IntKind.i64 x22)]->(n4:Int)+1<=(c5:Int)->c5<=9223372036854775807->((x22+1)<=9223372036854775807/\(((Int.toNat ((n4:Int)+1))<=9223372036854775807/\c5<=9223372036854775807)/\(IntKind.i64.min<=(x22+1)/\(x22+1)<=IntKind.i64.max)/\((F5 ((some p5).map fun p=>p.add 0) (Int.toNat ((n4:Int)+1)) c5 (x22+1) r6 r5).1/\(F5 ((some p5).map fun p=>p.add 0) (Int.toNat ((n4:Int)+1)) c5 (x22+1) r6 r5).2<(F5 p4 n4 c4 x22 r2 r3).2)))))))))/\
 (x27<=0->
 (∃x28:Int,br r4 0=some (Value.int IntKind.i64 x28)/\(K.i64 x28)/\((0<x28->
 (∃x29:Int,ae m3 p1 ((0+(x22*8))+4)=some (Value.int IntKind.i64 x29)/\(K.i64 x29)/\((x28+1)<=9223372036854775807/\(∃f:Option (Nat×Value),bb (Value.agg (List.toArray [(Value.int IntKind.i64 x24),(Value.int IntKind.i64 x25)])) r3 0=some f/\∀r5:List Value,r5=kQ f r3 (Value.agg (List.toArray [(Value.int IntKind.i64 x24),(Value.int IntKind.i64 x25)])) (Value.agg (List.toArray [(Value.int IntKind.i64 (x28+1)),(Value.int IntKind.i64 x26),(Value.int IntKind.i64 (x27+1))]))->((x29=1->
 ((2*((n4:Int)+1)*16<=281474976710656)/\∀(p5:Addr) (c5:Nat) (r6:List Value),r6=r2++[(Value.int IntKind.i64 6),(Value.int IntKind.i64 x22)]->(n4:Int)+1<=(c5:Int)->c5<=9223372036854775807->((x22+1)<=9223372036854775807/\(((Int.toNat ((n4:Int)+1))<=9223372036854775807/\c5<=9223372036854775807)/\(IntKind.i64.min<=(x22+1)/\(x22+1)<=IntKind.i64.max)/\((F5 ((some p5).map fun p=>p.add 0) (Int.toNat ((n4:Int)+1)) c5 (x22+1) r6 r5).1/\(F5 ((some p5).map fun p=>p.add 0) (Int.toNat ((n4:Int)+1)) c5 (x22+1) r6 r5).2<(F5 p4 n4 c4 x22 r2 r3).2)))))/\
 (x29≠1->
 ((x22+1)<=9223372036854775807/\((n4<=9223372036854775807/\c4<=9223372036854775807)/\(IntKind.i64.min<=(x22+1)/\(x22+1)<=IntKind.i64.max)/\((F5 (p4.map fun p=>p.add 0) n4 c4 (x22+1) r2 r5).1/\(F5 (p4.map fun p=>p.add 0) n4 c4 (x22+1) r2 r5).2<(F5 p4 n4 c4 x22 r2 r3).2)))))))))/\
 (x28<=0->
 (∃f:Option (Nat×Value),bb (Value.agg (List.toArray [(Value.int IntKind.i64 x24),(Value.int IntKind.i64 x25)])) r3 0=some f/\∀r5:List Value,r5=kQ f r3 (Value.agg (List.toArray [(Value.int IntKind.i64 x24),(Value.int IntKind.i64 x25)])) (Value.agg (List.toArray [(Value.int IntKind.i64 (x28+1)),(Value.int IntKind.i64 x26),(Value.int IntKind.i64 (x27+1))]))->((x22+1)<=9223372036854775807/\((n4<=9223372036854775807/\c4<=9223372036854775807)/\(IntKind.i64.min<=(x22+1)/\(x22+1)<=IntKind.i64.max)/\((F5 (p4.map fun p=>p.add 0) n4 c4 (x22+1) r2 r5).1/\(F5 (p4.map fun p=>p.add 0) n4 c4 (x22+1) r2 r5).2<(F5 p4 n4 c4 x22 r2 r3).2))))))))))))))/\
 (x23≠1->
 ((x23=5->
 (∃x26:Int,br r4 1=some (Value.int IntKind.i64 x26)/\(K.i64 x26)/\((0<x26->
 (∃x27:Int,br r4 0=some (Value.int IntKind.i64 x27)/\(K.i64 x27)/\((x27+1)<=9223372036854775807/\((x26+1)<=9223372036854775807/\(∃x28:Int,br r4 2=some (Value.int IntKind.i64 x28)/\(K.i64 x28)/\(∃f:Option (Nat×Value),bb (Value.agg (List.toArray [(Value.int IntKind.i64 x24),(Value.int IntKind.i64 x25)])) r3 0=some f/\∀r5:List Value,r5=kQ f r3 (Value.agg (List.toArray [(Value.int IntKind.i64 x24),(Value.int IntKind.i64 x25)])) (Value.agg (List.toArray [(Value.int IntKind.i64 (x27+1)),(Value.int IntKind.i64 (x26+1)),(Value.int IntKind.i64 x28)]))->((2*((n4:Int)+1)*16<=281474976710656)/\∀(p5:Addr) (c5:Nat) (r6:List Value),r6=r2++[(Value.int IntKind.i64 6),(Value.int IntKind.i64 x22)]->(n4:Int)+1<=(c5:Int)->c5<=9223372036854775807->((x22+1)<=9223372036854775807/\(((Int.toNat ((n4:Int)+1))<=9223372036854775807/\c5<=9223372036854775807)/\(IntKind.i64.min<=(x22+1)/\(x22+1)<=IntKind.i64.max)/\((F5 ((some p5).map fun p=>p.add 0) (Int.toNat ((n4:Int)+1)) c5 (x22+1) r6 r5).1/\(F5 ((some p5).map fun p=>p.add 0) (Int.toNat ((n4:Int)+1)) c5 (x22+1) r6 r5).2<(F5 p4 n4 c4 x22 r2 r3).2))))))))))/\
 (x26<=0->
 (∃x27:Int,br r4 2=some (Value.int IntKind.i64 x27)/\(K.i64 x27)/\((0<x27->
 (∃x28:Int,br r4 0=some (Value.int IntKind.i64 x28)/\(K.i64 x28)/\((x28+1)<=9223372036854775807/\(∃f:Option (Nat×Value),bb (Value.agg (List.toArray [(Value.int IntKind.i64 x24),(Value.int IntKind.i64 x25)])) r3 0=some f/\∀r5:List Value,r5=kQ f r3 (Value.agg (List.toArray [(Value.int IntKind.i64 x24),(Value.int IntKind.i64 x25)])) (Value.agg (List.toArray [(Value.int IntKind.i64 (x28+1)),(Value.int IntKind.i64 (x26+1)),(Value.int IntKind.i64 x27)]))->((2*((n4:Int)+1)*16<=281474976710656)/\∀(p5:Addr) (c5:Nat) (r6:List Value),r6=r2++[(Value.int IntKind.i64 6),(Value.int IntKind.i64 x22)]->(n4:Int)+1<=(c5:Int)->c5<=9223372036854775807->((x22+1)<=9223372036854775807/\(((Int.toNat ((n4:Int)+1))<=9223372036854775807/\c5<=9223372036854775807)/\(IntKind.i64.min<=(x22+1)/\(x22+1)<=IntKind.i64.max)/\((F5 ((some p5).map fun p=>p.add 0) (Int.toNat ((n4:Int)+1)) c5 (x22+1) r6 r5).1/\(F5 ((some p5).map fun p=>p.add 0) (Int.toNat ((n4:Int)+1)) c5 (x22+1) r6 r5).2<(F5 p4 n4 c4 x22 r2 r3).2))))))))/\
 (x27<=0->
 (∃x28:Int,br r4 0=some (Value.int IntKind.i64 x28)/\(K.i64 x28)/\((0<x28->
 ((x28+1)<=9223372036854775807/\(∃f:Option (Nat×Value),bb (Value.agg (List.toArray [(Value.int IntKind.i64 x24),(Value.int IntKind.i64 x25)])) r3 0=some f/\∀r5:List Value,r5=kQ f r3 (Value.agg (List.toArray [(Value.int IntKind.i64 x24),(Value.int IntKind.i64 x25)])) (Value.agg (List.toArray [(Value.int IntKind.i64 (x28+1)),(Value.int IntKind.i64 (x26+1)),(Value.int IntKind.i64 x27)]))->((x22+1)<=9223372036854775807/\((n4<=9223372036854775807/\c4<=9223372036854775807)/\(IntKind.i64.min<=(x22+1)/\(x22+1)<=IntKind.i64.max)/\((F5 (p4.map fun p=>p.add 0) n4 c4 (x22+1) r2 r5).1/\(F5 (p4.map fun p=>p.add 0) n4 c4 (x22+1) r2 r5).2<(F5 p4 n4 c4 x22 r2 r3).2))))))/\
 (x28<=0->
 (∃f:Option (Nat×Value),bb (Value.agg (List.toArray [(Value.int IntKind.i64 x24),(Value.int IntKind.i64 x25)])) r3 0=some f/\∀r5:List Value,r5=kQ f r3 (Value.agg (List.toArray [(Value.int IntKind.i64 x24),(Value.int IntKind.i64 x25)])) (Value.agg (List.toArray [(Value.int IntKind.i64 (x28+1)),(Value.int IntKind.i64 (x26+1)),(Value.int IntKind.i64 x27)]))->((x22+1)<=9223372036854775807/\((n4<=9223372036854775807/\c4<=9223372036854775807)/\(IntKind.i64.min<=(x22+1)/\(x22+1)<=IntKind.i64.max)/\((F5 (p4.map fun p=>p.add 0) n4 c4 (x22+1) r2 r5).1/\(F5 (p4.map fun p=>p.add 0) n4 c4 (x22+1) r2 r5).2<(F5 p4 n4 c4 x22 r2 r3).2))))))))))))))/\
 (x23≠5->
 ((x23=2->
 (∃x26:Int,br r4 1=some (Value.int IntKind.i64 x26)/\(K.i64 x26)/\((x26+1)<=9223372036854775807/\(∃x27:Int,br r4 2=some (Value.int IntKind.i64 x27)/\(K.i64 x27)/\((-9223372036854775808:Int)<=(x27-1)/\(∃x28:Int,br r4 0=some (Value.int IntKind.i64 x28)/\(K.i64 x28)/\(∃f:Option (Nat×Value),bb (Value.agg (List.toArray [(Value.int IntKind.i64 x24),(Value.int IntKind.i64 x25)])) r3 0=some f/\∀r5:List Value,r5=kQ f r3 (Value.agg (List.toArray [(Value.int IntKind.i64 x24),(Value.int IntKind.i64 x25)])) (Value.agg (List.toArray [(Value.int IntKind.i64 x28),(Value.int IntKind.i64 (x26+1)),(Value.int IntKind.i64 (x27-1))]))->((x22+1)<=9223372036854775807/\((n4<=9223372036854775807/\c4<=9223372036854775807)/\(IntKind.i64.min<=(x22+1)/\(x22+1)<=IntKind.i64.max)/\((F5 (p4.map fun p=>p.add 0) n4 c4 (x22+1) r2 r5).1/\(F5 (p4.map fun p=>p.add 0) n4 c4 (x22+1) r2 r5).2<(F5 p4 n4 c4 x22 r2 r3).2))))))))))/\
 (x23≠2->
 ((x23=3->
 (∃x26:Int,br r4 2=some (Value.int IntKind.i64 x26)/\(K.i64 x26)/\((-9223372036854775808:Int)<=(x26-1)/\(∃x27:Int,br r4 0=some (Value.int IntKind.i64 x27)/\(K.i64 x27)/\(∃x28:Int,br r4 1=some (Value.int IntKind.i64 x28)/\(K.i64 x28)/\(∃f:Option (Nat×Value),bb (Value.agg (List.toArray [(Value.int IntKind.i64 x24),(Value.int IntKind.i64 x25)])) r3 0=some f/\∀r5:List Value,r5=kQ f r3 (Value.agg (List.toArray [(Value.int IntKind.i64 x24),(Value.int IntKind.i64 x25)])) (Value.agg (List.toArray [(Value.int IntKind.i64 x27),(Value.int IntKind.i64 x28),(Value.int IntKind.i64 (x26-1))]))->((x22+1)<=9223372036854775807/\((n4<=9223372036854775807/\c4<=9223372036854775807)/\(IntKind.i64.min<=(x22+1)/\(x22+1)<=IntKind.i64.max)/\((F5 (p4.map fun p=>p.add 0) n4 c4 (x22+1) r2 r5).1/\(F5 (p4.map fun p=>p.add 0) n4 c4 (x22+1) r2 r5).2<(F5 p4 n4 c4 x22 r2 r3).2)))))))))/\
 (x23≠3->
 (∃x26:Int,br r4 0=some (Value.int IntKind.i64 x26)/\(K.i64 x26)/\(∃x27:Int,br r4 1=some (Value.int IntKind.i64 x27)/\(K.i64 x27)/\(∃x28:Int,br r4 2=some (Value.int IntKind.i64 x28)/\(K.i64 x28)/\(∃f:Option (Nat×Value),bb (Value.agg (List.toArray [(Value.int IntKind.i64 x24),(Value.int IntKind.i64 x25)])) r3 0=some f/\∀r5:List Value,r5=kQ f r3 (Value.agg (List.toArray [(Value.int IntKind.i64 x24),(Value.int IntKind.i64 x25)])) (Value.agg (List.toArray [(Value.int IntKind.i64 x26),(Value.int IntKind.i64 x27),(Value.int IntKind.i64 x28)]))->((x22+1)<=9223372036854775807/\((n4<=9223372036854775807/\c4<=9223372036854775807)/\(IntKind.i64.min<=(x22+1)/\(x22+1)<=IntKind.i64.max)/\((F5 (p4.map fun p=>p.add 0) n4 c4 (x22+1) r2 r5).1/\(F5 (p4.map fun p=>p.add 0) n4 c4 (x22+1) r2 r5).2<(F5 p4 n4 c4 x22 r2 r3).2))))))))))))))))))))))))))
def Bm (F7:Int->Prop×Nat) (p0:Option Addr) (x9 x10 x24 x26 x40:Int) (m8:Mem) (r3:List Value) (N:Prop):Prop:=
 (∀x43:Int,x43=(bif true then max (x40+x24) (x9+1) else min (x40+x24) (x9+1))->(K.i64 x43)/\(∃x44:Int,ae m8 p0 18=some (Value.int IntKind.i64 x44)/\(K.i64 x44)/\((-9223372036854775808:Int)<=(x43+x44)/\((x43+x44)<=9223372036854775807/\(((x43+x44)<x10->
 (∃f:Option (Nat×Value),bb (Value.agg (List.toArray [(Value.int IntKind.i64 0),(Value.int IntKind.i64 x40)])) r3 0=some f/\∀b3:Bool,b3=rq f->∃r4:List Value,oO true f [(Value.int IntKind.i64 0),(Value.int IntKind.i64 0),(Value.int IntKind.i64 0)] r4/\(∃x45:Int,br r4 0=some (Value.int IntKind.i64 x45)/\(K.i64 x45)/\((x45=0->
 N)/\
 (x45≠0->
 ((K.i64 x40)/\((F7 x40).1/\(F7 x40).2<(F7 x26).2)))))))/\
 (x10<=(x43+x44)->
 ((K.i64 x40)/\((F7 x40).1/\(F7 x40).2<(F7 x26).2))))))))
def wL (F7:Int->Prop×Nat) (p0:Option Addr) (x9 x10 x24 x26 x40:Int) (m8:Mem) (r3:List Value) (N:Prop):Prop:=
 (∀x42:Int,x42=(bif true then max x40 (x9+1) else min x40 (x9+1))->(K.i64 x42)/\((x42=x40->
 ((-9223372036854775808:Int)<=(x40+x24)/\((x40+x24)<=9223372036854775807/\((x10<(x40+x24)->
 ((K.i64 x40)/\((F7 x40).1/\(F7 x40).2<(F7 x26).2)))/\
 ((x40+x24)<=x10->
 (((x40+x24)<x10->
 (Bm F7 p0 x9 x10 x24 x26 x40 m8 r3 N))/\
 (x10<=(x40+x24)->
 (Bm F7 p0 x9 x10 x24 x26 x40 m8 r3 N))))))))/\
 (x42≠x40->
 (∃x43:Int,ae m8 p0 18=some (Value.int IntKind.i64 x43)/\(K.i64 x43)/\((-9223372036854775808:Int)<=(x42+x43)/\((x42+x43)<=9223372036854775807/\(((x42+x43)<x10->
 (∃f:Option (Nat×Value),bb (Value.agg (List.toArray [(Value.int IntKind.i64 0),(Value.int IntKind.i64 x40)])) r3 0=some f/\∀b3:Bool,b3=rq f->∃r4:List Value,oO true f [(Value.int IntKind.i64 0),(Value.int IntKind.i64 0),(Value.int IntKind.i64 0)] r4/\(∃x44:Int,br r4 0=some (Value.int IntKind.i64 x44)/\(K.i64 x44)/\((x44=0->
 N)/\
 (x44≠0->
 ((K.i64 x40)/\((F7 x40).1/\(F7 x40).2<(F7 x26).2)))))))/\
 (x10<=(x42+x43)->
 ((K.i64 x40)/\((F7 x40).1/\(F7 x40).2<(F7 x26).2))))))))))
theorem qr {r:List Value} {n:Nat} (h:r.length=n*2) {k:Nat} (hk:k=n*2):r.take k=r:=List.take_of_length_le (by omega)
theorem Gk {n2 n4:Nat} {r0 r2:List Value} {p2:Option Addr} {m8:Mem} {Q:Mem->Option Addr->Nat->Nat->Prop} (h0:r0.length=n2*2) (h2:r2.length=n4*2) (b2:n2<=1000) (b4:n4<=1000)
  (hQ:∀m9 q c,ac m8 m9->eg m9 q (r0++r2)->Q m9 q (n2+n4) c):Cq n2 n4 r0 r2 p2 m8 Q:=by
 have kz:K.i64 0:=⟨by decide,by decide⟩
 unfold Cq
 refine ⟨by omega,by omega,by omega,fun _=>⟨⟨by omega,by omega⟩,fun r4 hr4=>⟨⟨by omega,by omega⟩,fun r5 hr5=>⟨by omega,fun p6 c6 r6 hr6 _ _ _=>⟨0,rfl,by omega,⟨by omega,by omega⟩,fun r7 hr7=>⟨by omega,fun p7 c7 r8 hr8 _ _ _ => ?_⟩⟩⟩⟩⟩,fun _=>⟨[],rfl,fun j v h=>by simp at h,by omega,fun p6 c6 r5 hr5 _ _ _ => ?_⟩⟩
 ·have e7:r7=[]:=by rw [hr7];rfl
  have e8:r8=r0:=by rw [hr8,e7];rfl
  refine ⟨⟨by omega,by rw [e8,h0];omega⟩,fun r9 hr9=>⟨by omega,fun p8 c8 r10 hr10 _ hc8 hz m9 hm9 hrow=>⟨⟨by omega,hc8⟩,kz,?_⟩⟩⟩
  have e9:r9=r0:=by rw [hr9,e8];exact qr h0 (by omega)
  have en:Int.toNat (((((0:Nat):Int))+(n2:Int))+(n4:Int))=n2+n4:=by omega
  rw [ai,en]
  rw [hr10,e9] at hrow
  refine hQ m9 p8 c8 hm9 ⟨hrow,fun h => ?_⟩
  have:=hz h
  apply List.length_eq_zero_iff.1
  rw [List.length_append]
  omega
 ·have e5:r5=r0:=by rw [hr5];rfl
  refine ⟨⟨by omega,by rw [e5,h0];omega⟩,fun r6 hr6=>⟨by omega,fun p7 c7 r7 hr7 _ hc7 hz m9 hm9 hrow=>⟨⟨by omega,hc7⟩,kz,?_⟩⟩⟩
  have e6:r6=r0:=by rw [hr6,e5];exact qr h0 (by omega)
  have en:Int.toNat ((n2:Int)+(n4:Int))=n2+n4:=by omega
  rw [ai,en]
  rw [hr7,e6] at hrow
  refine hQ m9 p7 c7 hm9 ⟨hrow,fun h => ?_⟩
  have:=hz h
  apply List.length_eq_zero_iff.1
  rw [List.length_append]
  omega
theorem Gj {n2 n4:Nat} {r0 r2:List Value} {m8:Mem} {Q:Mem->Option Addr->Nat->Nat->Prop} (h0:r0.length=n2*2) (h2:r2.length=n4*2) (b2:n2<=1000) (b4:n4<=1000)
  (hQ:∀m9 q c,ac m8 m9->eg m9 q ((r0++r2)++[.int .i64 7,.int .i64 0])->Q m9 q (n2+n4+1) c):Cp n2 n4 r0 r2 m8 Q:=by
 have kz:K.i64 0:=⟨by decide,by decide⟩
 unfold Cp
 refine ⟨by omega,by omega,by omega,⟨by omega,by omega⟩,fun r5 hr5=>⟨⟨by omega,by omega⟩,fun r6 hr6=>⟨by omega,fun p6 c6 r7 hr7 _ _ _=>⟨0,rfl,by omega,⟨by omega,by omega⟩,fun r8 hr8=>⟨by omega,fun p7 c7 r9 hr9 _ _ _ => ?_⟩⟩⟩⟩⟩
 have e8:r8=[]:=by rw [hr8];rfl
 have e9:r9=r0:=by rw [hr9,e8];rfl
 refine ⟨⟨by omega,by rw [e9,h0];omega⟩,fun r10 hr10=>⟨by omega,fun p8 c8 r11 hr11 _ hc8 hz=>⟨by omega,fun p9 c9 r12 hr12 _ hc9 m9 hm9 hrow=>⟨⟨by omega,hc9⟩,kz,?_⟩⟩⟩⟩
 have e10:r10=r0:=by rw [hr10,e9];exact qr h0 (by omega)
 have en:Int.toNat (((((0:Nat):Int)+(n2:Int))+(n4:Int))+1)=n2+n4+1:=by omega
 rw [ai,en]
 rw [hr12,hr11,e10] at hrow
 exact hQ m9 (some p9) c9 hm9 ⟨hrow,fun h=>by cases h⟩
def pH (w:List Ev->Ev->Bool) (l:List Ev) (n1:Nat) (k:Int) (p:Option Addr) (n c:Nat) (y:Int) (r:List Value):Prop×Nat:=
 ((∃i:Nat,y=i/\i<=l.length/\r=aV k (bZ (marks w l i) 0)/\n=(bZ (marks w l i) 0).length/\(p=none->r=[])),((n1:Int)-y).toNat)
def sr (w:List Ev->Ev->Bool) (l:List Ev) (n1:Nat) (k:Int) (p:Option Addr) (n c:Nat) (y:Int) (r rl:List Value):Prop×Nat:=
 ((∃i:Nat,y=i/\i<=l.length/\r=aV k (bZ (marks w l i) 0)/\n=(bZ (marks w l i) 0).length/\rl=(gm (l.take i)).map lm/\(p=none->r=[])),((n1:Int)-y).toNat)
theorem AA {w:List Ev->Ev->Bool} {l:List Ev} {n1:Nat} {k:Int} {p:Option Addr} {n c i:Nat} {r:List Value} {x:Ev} (hx:l[i]? = some x) (hl:l.length=n1) (hb1:n1<=1000) (hb:w (l.take i) x=true) (hr:r=aV k (bZ (marks w l i) 0)) (hn:n=(bZ (marks w l i) 0).length) :
  ((2 * ((n : Int) + 1) * 16 <= 281474976710656) /\ ∀ (p4 : Addr) (c4 : Nat) (r1 : List Value), r1 = r ++ [(Value.int IntKind.i64 k), (Value.int IntKind.i64 (i : Int))] -> (n : Int) + 1 <= (c4 : Int) -> c4 <= 9223372036854775807 ->
   (((i:Int)+1)<=9223372036854775807/\(((Int.toNat ((n:Int)+1))<=9223372036854775807/\c4<=9223372036854775807)/\(IntKind.i64.min<=((i:Int)+1)/\((i:Int)+1)<=IntKind.i64.max)/\((pH w l n1 k ((some p4).map fun p=>p.add 0) (Int.toNat ((n:Int)+1)) c4 ((i:Int)+1) r1).1/\(pH w l n1 k ((some p4).map fun p=>p.add 0) (Int.toNat ((n:Int)+1)) c4 ((i:Int)+1) r1).2<(pH w l n1 k p n c (i:Int) r).2)))):=by
 have hil:=(List.getElem?_eq_some_iff.1 hx).1
 have hm:=bv w l i
 have b2:IntKind.i64.min = -9223372036854775808:=rfl
 have b3:IntKind.i64.max=9223372036854775807:=rfl
 have e:=mH (f:=w) hx hb
 refine ⟨by omega,fun p4 c4 r1 hr1 g1 g2=>⟨by omega,⟨by omega,g2⟩,⟨(by rw [b2];omega:IntKind.i64.min<=_),(by rw [b3];omega:_<=IntKind.i64.max)⟩,⟨i+1,by omega,by omega,?_,?_,fun h=>by cases h⟩,by simp only [pH];omega⟩⟩
 ·rw [hr1,e,mw,hr]
 ·rw [e,List.length_append,<-hn];simp
theorem wH {w:List Ev->Ev->Bool} {l:List Ev} {n1:Nat} {k:Int} {p:Option Addr} {n c i:Nat} {r:List Value} {x:Ev} (hx:l[i]? = some x) (hl:l.length=n1) (hb1:n1<=1000) (hb:w (l.take i) x=false) (hr:r=aV k (bZ (marks w l i) 0)) (hn:n=(bZ (marks w l i) 0).length) (hn':n<=9223372036854775807) (hc:c<=9223372036854775807) (hp:p=none->r=[]) :
  (((i:Int)+1)<=9223372036854775807/\((n<=9223372036854775807/\c<=9223372036854775807)/\(IntKind.i64.min<=((i:Int)+1)/\((i:Int)+1)<=IntKind.i64.max)/\((pH w l n1 k (p.map fun p=>p.add 0) n c ((i:Int)+1) r).1/\(pH w l n1 k (p.map fun p=>p.add 0) n c ((i:Int)+1) r).2<(pH w l n1 k p n c (i:Int) r).2))):=by
 have hil:=(List.getElem?_eq_some_iff.1 hx).1
 have b2:IntKind.i64.min = -9223372036854775808:=rfl
 have b3:IntKind.i64.max=9223372036854775807:=rfl
 have e:=kR (f:=w) hx hb
 exact ⟨by omega,⟨hn',hc⟩,⟨(by rw [b2];omega:IntKind.i64.min<=_),(by rw [b3];omega:_<=IntKind.i64.max)⟩,⟨i+1,by omega,by omega,by rw [e];exact hr,by rw [e];exact hn,fun h=>hp (by rw [ai] at h;exact h)⟩,by simp only [pH];omega⟩
theorem JB {w:List Ev->Ev->Bool} {l:List Ev} {n1:Nat} {k:Int} {p:Option Addr} {n c i:Nat} {r rl rl':List Value} {x:Ev} (hx:l[i]? = some x) (hl:l.length=n1) (hb1:n1<=1000) (hb:w (l.take i) x=true) (hr:r=aV k (bZ (marks w l i) 0)) (hn:n=(bZ (marks w l i) 0).length) (hrl:rl'=(gm (l.take (i+1))).map lm) :
  ((2 * ((n : Int) + 1) * 16 <= 281474976710656) /\ ∀ (p4 : Addr) (c4 : Nat) (r1 : List Value), r1 = r ++ [(Value.int IntKind.i64 k), (Value.int IntKind.i64 (i : Int))] -> (n : Int) + 1 <= (c4 : Int) -> c4 <= 9223372036854775807 ->
   (((i:Int)+1)<=9223372036854775807/\(((Int.toNat ((n:Int)+1))<=9223372036854775807/\c4<=9223372036854775807)/\(IntKind.i64.min<=((i:Int)+1)/\((i:Int)+1)<=IntKind.i64.max)/\((sr w l n1 k ((some p4).map fun p=>p.add 0) (Int.toNat ((n:Int)+1)) c4 ((i:Int)+1) r1 rl').1/\(sr w l n1 k ((some p4).map fun p=>p.add 0) (Int.toNat ((n:Int)+1)) c4 ((i:Int)+1) r1 rl').2<(sr w l n1 k p n c (i:Int) r rl).2)))):=by
 have hil:=(List.getElem?_eq_some_iff.1 hx).1
 have hm:=bv w l i
 have b2:IntKind.i64.min = -9223372036854775808:=rfl
 have b3:IntKind.i64.max=9223372036854775807:=rfl
 have e:=mH (f:=w) hx hb
 refine ⟨by omega,fun p4 c4 r1 hr1 g1 g2=>⟨by omega,⟨by omega,g2⟩,⟨(by rw [b2];omega:IntKind.i64.min<=_),(by rw [b3];omega:_<=IntKind.i64.max)⟩,⟨i+1,by omega,by omega,?_,?_,hrl,fun h=>by cases h⟩,by simp only [sr];omega⟩⟩
 ·rw [hr1,e,mw,hr]
 ·rw [e,List.length_append,<-hn];simp
theorem D5 {w:List Ev->Ev->Bool} {l:List Ev} {n1:Nat} {k:Int} {p:Option Addr} {n c i:Nat} {r rl rl':List Value} {x:Ev} (hx:l[i]? = some x) (hl:l.length=n1) (hb1:n1<=1000) (hb:w (l.take i) x=false) (hr:r=aV k (bZ (marks w l i) 0)) (hn:n=(bZ (marks w l i) 0).length) (hn':n<=9223372036854775807) (hc:c<=9223372036854775807) (hrl:rl'=(gm (l.take (i+1))).map lm) (hp:p=none->r=[]) :
  (((i:Int)+1)<=9223372036854775807/\((n<=9223372036854775807/\c<=9223372036854775807)/\(IntKind.i64.min<=((i:Int)+1)/\((i:Int)+1)<=IntKind.i64.max)/\((sr w l n1 k (p.map fun p=>p.add 0) n c ((i:Int)+1) r rl').1/\(sr w l n1 k (p.map fun p=>p.add 0) n c ((i:Int)+1) r rl').2<(sr w l n1 k p n c (i:Int) r rl).2))):=by
 have hil:=(List.getElem?_eq_some_iff.1 hx).1
 have b2:IntKind.i64.min = -9223372036854775808:=rfl
 have b3:IntKind.i64.max=9223372036854775807:=rfl
 have e:=kR (f:=w) hx hb
 exact ⟨by omega,⟨hn',hc⟩,⟨(by rw [b2];omega:IntKind.i64.min<=_),(by rw [b3];omega:_<=IntKind.i64.max)⟩,⟨i+1,by omega,by omega,by rw [e];exact hr,by rw [e];exact hn,hrl,fun h=>hp (by rw [ai] at h;exact h)⟩,by simp only [sr];omega⟩
def Cw (a z:Int) (ms:Int->Prop) (t:Int):Prop×Nat:=((a<=t/\t<=z/\∀d,a<d->d<=t->¬ms d),(z-t).toNat)
theorem EF {F7:Int->Prop×Nat} {p0:Option Addr} {a z t u dd:Int} {m8:Mem} {r3:List Value} {N:Prop} {l:List Ev} (hu:a<u) (hu0:0<=u) (hz:u<=253402300799) (hd:ae m8 p0 18=some (.int .i64 dd)) (hdd:0<=dd/\dd<=1000000) (hr:r3=(gm l).map lm) (hll:l.length<=1000)
  (hN:u+dd<z->(b9 l 0 u).b=0->N) (hC:¬(u+dd<z/\(b9 l 0 u).b=0)->((K.i64 u)/\((F7 u).1/\(F7 u).2<(F7 t).2))):Bm F7 p0 a z 0 t u m8 r3 N:=by
 have b2:IntKind.i64.min = -9223372036854775808:=rfl
 have b3:IntKind.i64.max=9223372036854775807:=rfl
 have dy:∀v:Int,-9223372036854775808<=v->v<=9223372036854775807->K.i64 v:=fun v h1 h2=>⟨(by rw [b2];omega:IntKind.i64.min<=_),(by rw [b3];omega:_<=IntKind.i64.max)⟩
 unfold Bm
 intro x43 hx43
 have e43:x43=u:=by
  have:x43=max (u+0) (a+1):=hx43
  omega
 subst e43
 refine ⟨dy _ (by omega) (by omega),dd,hd,dy _ (by omega) (by omega),by omega,by omega,fun hlt => ?_,fun hge=>hC (by omega)⟩
 obtain ⟨f,h1,⟨r,h2,h3⟩,_⟩:=Kg (gm l) 0 x43
 rw [<-hr] at h1
 have hb:=xa _ l rfl 0 x43
 have e0:((lQ (gm l) 0 x43).getD qT)=b9 l 0 x43:=rfl
 rw [e0] at h3
 refine ⟨f,h1,fun b3' _=>⟨r,h2,(b9 l 0 x43).b,by rw [h3];rfl,dy _ (by omega) (by omega),fun h=>hN hlt h,fun h=>hC (by omega)⟩⟩
theorem AC {F7:Int->Prop×Nat} {p0:Option Addr} {a z t u dd:Int} {m8:Mem} {r3:List Value} {N:Prop} {l:List Ev} (hu:a<u) (ha:0<=a) (huz:u<=z) (hz:z<=253402300799) (hd:ae m8 p0 18=some (.int .i64 dd)) (hdd:0<=dd/\dd<=1000000) (hr:r3=(gm l).map lm) (hll:l.length<=1000)
  (hN:u+dd<z->(b9 l 0 u).b=0->N) (hC:¬(u+dd<z/\(b9 l 0 u).b=0)->((K.i64 u)/\((F7 u).1/\(F7 u).2<(F7 t).2))):wL F7 p0 a z 0 t u m8 r3 N:=by
 have b2:IntKind.i64.min = -9223372036854775808:=rfl
 have b3:IntKind.i64.max=9223372036854775807:=rfl
 have lk:=EF (F7:=F7) (p0:=p0) (t:=t) (m8:=m8) (N:=N) hu (by omega) (by omega) hd hdd hr hll hN hC
 unfold wL
 intro x42 hx42
 have e42:x42=u:=by
  have:x42=max u (a+1):=hx42
  omega
 subst e42
 exact ⟨⟨(by rw [b2];omega:IntKind.i64.min<=_),(by rw [b3];omega:_<=IntKind.i64.max)⟩,fun _=>⟨by omega,by omega,fun h=>by omega,fun _=>⟨fun _=>lk,fun _=>lk⟩⟩,fun h=>absurd rfl h⟩
end
section
theorem tD {J:cr} (h:rN J) {n:Nat} (hn:n=0):ye J.k J.a J.b J.c J.d J.e J.f J.x J.y J.z J.s J.t J.u n:=⟨h.k,h.a,h.b,h.c,h.d,h.e,h.f,h.x,h.y,h.z,hn⟩
theorem uG {a b c d t u:Int} {L:List cr} (h:gf a b c d t u L=0):∀J∈L,ft J.name=true:=by
 unfold gf at h
 split at h
 ·rename_i h1;exact (h1 h).elim
 ·split at h
  ·cases h
  ·split at h
   ·cases h
   ·rename_i h3
    have ha:L.all (fun J=>ft J.name)=true:=by simpa using h3
    exact fun J hJ=>List.all_eq_true.1 ha J hJ
theorem ru {J:cr} {l:List As.Ev} {n1:Nat} {m3:Mem} {p0 p1 p2:Option Addr} {a z:Int} {n2 c2 i:Nat} {r0:List Value} {x:As.Ev} (hJs:cM m3 p0 1 [J]) (hev:rN J) (hx:l[i]? = some x) (hat:nX m3 p1 (0+(i:Int)*8) x) (hk:x.kind=1\/x.kind=5) (hj:x.job=0) (hdue:0<=x.due/\x.due<=253402300799)
  (hl:l.length=n1) (hb1:n1<=1000) (hr:r0=aV 5 (bZ (marks (xY J a z) l i) 0)) (hn:n2=(bZ (marks (xY J a z) l i) 0).length) (hn':n2<=9223372036854775807) (hc:c2<=9223372036854775807) (hp2:p2=none->r0=[]) :
  CU (pH (xY J a z) l n1 5) p0 p1 a z m3 p2 n2 c2 (i:Int) r0:=by
 obtain ⟨J',hJ',⟨hp0,hh⟩,hnm,hpl,hpo⟩:=hJs.at_ (i:=0) (by omega) (by omega)
 have eJ:J'=J:=by simpa using hJ'.symm
 subst eJ
 obtain ⟨a1,a2,a3,a4,a5,a6,a7,a8,a9,a10,a11,a12,a13,q,n,c,s1,s2,s3⟩:=hpl
 have hsn:n=0:=by rw [<-s3.1,hev.skip];rfl
 obtain ⟨q1,q2,q3,q4,q5,q6,q7,q8⟩:=hat
 rw [hj] at q3
 have hout:(decide (x.kind=1)||decide (x.kind=5))=true:=by rcases hk with h | h<;>rw [h]<;>rfl
 have hit:=fun h=>AA (p:=p2) (c:=c2) (k:=5) hx hl hb1 h hr hn
 have mis:=fun h=>wH (p:=p2) (c:=c2) (k:=5) hx hl hb1 h hr hn hn' hc hp2
 unfold CU
 refine ⟨0,q3.1,q3.2,by omega,by omega,hp0,(by have:=uO hh 1 14 (by omega);simpa using this),x.due,q4.1,q4.2,J'.k,aw a1.1 (by omega),a1.2,J'.a,aw a2.1 (by omega),a2.2,J'.b,aw a3.1 (by omega),a3.2,J'.c,aw a4.1 (by omega),a4.2,J'.d,aw a5.1 (by omega),a5.2,J'.e,aw a6.1 (by omega),a6.2,J'.f,aw a7.1 (by omega),a7.2,J'.x,aw a8 (by omega),J'.y,aw a9 (by omega),J'.z,aw a10.1 (by omega),a10.2,J'.s,aw a11.1 (by omega),a11.2,J'.t,aw a12.1 (by omega),a12.2,J'.u,aw a13.1 (by omega),a13.2,q,n,c,aw s1 (by omega),s2,⟨by omega,s2.2⟩,⟨tD hev hsn,hev.s.1,hev.s.2,hev.t.1,hev.t.2,hev.u.1,hev.u.2,hdue.1,hdue.2⟩,fun m5 _ b2' x36 _ _ hp => ?_⟩
 obtain ⟨rfl,hb⟩:=hp
 have hw:xY J' a z (l.take i) x=(!b2'||(decide (x.due<=a)||decide (z<x.due))):=by
  unfold xY
  rw [hout,<-hb]
  rfl
 refine ⟨fun h=>absurd rfl h,fun _=>⟨fun h=>hit ?_,fun h=>⟨fun h1=>hit ?_,fun h1=>⟨fun _=>⟨fun h2=>hit ?_,fun h2=>mis ?_⟩,fun h=>absurd rfl h⟩⟩⟩⟩
 ·rw [hw,h];rfl
 ·rw [hw,h,decide_eq_true h1];rfl
 ·rw [hw,h,decide_eq_true h2];simp
 ·rw [hw,h,decide_eq_false (by omega),decide_eq_false (by omega)];rfl
theorem B7 {l:List As.Ev} {n1 i:Nat} {m3:Mem} {p1 p4:Option Addr} {n4 c4:Nat} {r2 r3:List Value} {x:As.Ev} (hx:l[i]? = some x) (hp:p1≠none) (hat:nX m3 p1 (0+(i:Int)*8) x) (hhas:cw m3 p1 (0+(i:Int)*8) 8) (hln:l.length=n1) (hb1:n1<=1000)
  (hr2:r2=aV 6 (bZ (marks mW l i) 0)) (hn4e:n4=(bZ (marks mW l i) 0).length) (hn4:n4<=9223372036854775807) (hc4:c4<=9223372036854775807) (hr3:r3=(gm (l.take i)).map lm) (hp4:p4=none->r2=[]):HN (sr mW l n1 6) p1 m3 (i:Int) p4 n4 c4 r2 r3:=by
 have b2:IntKind.i64.min = -9223372036854775808:=rfl
 have b3:IntKind.i64.max=9223372036854775807:=rfl
 have dy:∀v:Int,-9223372036854775808<=v->v<=9223372036854775807->K.i64 v:=fun v h1 h2=>⟨(by rw [b2];omega:IntKind.i64.min<=_),(by rw [b3];omega:_<=IntKind.i64.max)⟩
 unfold HN
 have hil:=(List.getElem?_eq_some_iff.1 hx).1
 have htk:l.take (i+1)=l.take i++[x]:=by
  obtain ⟨hi2,e⟩:=List.getElem?_eq_some_iff.1 hx
  rw [<-e,List.take_append_getElem]
 have hskip:¬nh x->(gm (l.take (i+1))).map lm=(gm (l.take i)).map lm:=fun h=>by rw [htk,nL,if_neg h]
 have hno:x.kind≠1->x.kind≠5->mW (l.take i) x=false:=fun h1 h5=>by
  unfold mW
  rw [decide_eq_false h1,decide_eq_false h5];rfl
 obtain ⟨q1,q2,q3,q4,q5,q6,q7,q8⟩:=hat
 refine ⟨by omega,hp,hhas,x.kind,q1.1,q1.2,fun h5 => ?_,fun h5=>⟨fun h4 => ?_,fun h4 => ?_⟩⟩
 ·exact D5 hx hln hb1 (hno (by omega) (by omega)) hr2 hn4e hn4 hc4 (by rw [hskip (fun h=>by unfold nh at h;omega)];exact hr3) hp4
 ·exact D5 hx hln hb1 (hno (by omega) (by omega)) hr2 hn4e hn4 hc4 (by rw [hskip (fun h=>by unfold nh at h;omega)];exact hr3) hp4
 have hu:nh x:=⟨h5,h4⟩
 obtain ⟨f,hf,⟨r4,hh4,hr4⟩,hset⟩:=Kg (gm (l.take i)) x.job x.due
 rw [<-hr3] at hf hset
 have e0:((lQ (gm (l.take i)) x.job x.due).getD qT)=b9 (l.take i) x.job x.due:=rfl
 rw [e0] at hr4
 have hrng:=xa _ (l.take i) rfl x.job x.due
 have htl:(l.take i).length=i:=by rw [List.length_take];omega
 have hsn:∀L:uh,L=ig x (b9 (l.take i) x.job x.due)->∀r5:List Value,r5=kQ f r3 (uo x.job x.due) (sU L)->r5=(gm (l.take (i+1))).map lm:=fun L hL r5 h=>by
  rw [h,hset,htk,nL,if_pos hu,hL]
 have htw:mW (l.take i) x=((decide (x.kind=1)||decide (x.kind=5))&&(decide (0<(b9 (l.take i) x.job x.due).e)||(decide (0<(b9 (l.take i) x.job x.due).u)||(decide (0<(b9 (l.take i) x.job x.due).b)&&(decide (x.kind=1)&&decide (x.attempt=1)))))):=rfl
 have hS:ig x (b9 (l.take i) x.job x.due)=ig x (b9 (l.take i) x.job x.due):=rfl
 generalize b9 (l.take i) x.job x.due=LL at *
 obtain ⟨B,E,U⟩:=LL
 simp only at hrng
 have kB:K.i64 B:=dy _ (by omega) (by omega)
 have kE:K.i64 E:=dy _ (by omega) (by omega)
 have kU:K.i64 U:=dy _ (by omega) (by omega)
 have cB:br r4 0=some (.int .i64 B):=by rw [hr4];rfl
 have cE:br r4 1=some (.int .i64 E):=by rw [hr4];rfl
 have cU:br r4 2=some (.int .i64 U):=by rw [hr4];rfl
 have hit:=fun (rl':List Value) h1 h2=>JB (p:=p4) (c:=c4) (k:=6) (rl:=r3) (rl':=rl') hx hln hb1 h1 hr2 hn4e h2
 have mis:=fun (rl':List Value) h1 h2=>D5 (p:=p4) (c:=c4) (k:=6) (rl:=r3) (rl':=rl') hx hln hb1 h1 hr2 hn4e hn4 hc4 h2 hp4
 refine ⟨x.job,q3.1,q3.2,x.due,q4.1,q4.2,f,hf,fun b0 _=>⟨r4,hh4,fun k1 => ?_,fun k1=>⟨fun k5 => ?_,fun k5=>⟨fun k2 => ?_,fun k2=>⟨fun k3' => ?_,fun k3' => ?_⟩⟩⟩⟩⟩
 ·have hLS:ig x ⟨B,E,U⟩=⟨B+1,E,U+1⟩:=by unfold ig;rw [if_pos k1]
  refine ⟨E,cE,kE,fun g1 => ?_,fun g1=>⟨U,cU,kU,fun g2 => ?_,fun g2=>⟨B,cB,kB,fun g3 => ?_,fun g3 => ?_⟩⟩⟩
  ·exact ⟨B,cB,kB,by omega,U,cU,kU,by omega,f,hf,fun r5 h5'=>hit r5 (by rw [htw,k1,decide_eq_true g1];rfl) (hsn _ hLS.symm r5 h5')⟩
  ·exact ⟨B,cB,kB,by omega,by omega,f,hf,fun r5 h5'=>hit r5 (by rw [htw,k1,decide_eq_true g2];simp) (hsn _ hLS.symm r5 h5')⟩
  ·refine ⟨x.attempt,q5.1,q5.2,by omega,f,hf,fun r5 h5'=>⟨fun g4=>hit r5 (by rw [htw,k1,decide_eq_true g3,g4];simp) (hsn _ hLS.symm r5 h5'),fun g4=>mis r5 (by rw [htw,decide_eq_false (show ¬0<E by omega),decide_eq_false (show ¬0<U by omega),decide_eq_false g4];simp) (hsn _ hLS.symm r5 h5')⟩⟩
  ·exact ⟨f,hf,fun r5 h5'=>mis r5 (by rw [htw,decide_eq_false (show ¬0<E by omega),decide_eq_false (show ¬0<U by omega),decide_eq_false (show ¬0<B by omega)];simp) (hsn _ hLS.symm r5 h5')⟩
 ·have hLS:ig x ⟨B,E,U⟩=⟨B+1,E+1,U⟩:=by unfold ig;rw [if_neg k1,if_pos k5]
  refine ⟨E,cE,kE,fun g1 => ?_,fun g1=>⟨U,cU,kU,fun g2 => ?_,fun g2=>⟨B,cB,kB,fun g3 => ?_,fun g3 => ?_⟩⟩⟩
  ·exact ⟨B,cB,kB,by omega,by omega,U,cU,kU,f,hf,fun r5 h5'=>hit r5 (by rw [htw,k5,decide_eq_true g1];rfl) (hsn _ hLS.symm r5 h5')⟩
  ·exact ⟨B,cB,kB,by omega,f,hf,fun r5 h5'=>hit r5 (by rw [htw,k5,decide_eq_true g2];simp) (hsn _ hLS.symm r5 h5')⟩
  ·exact ⟨by omega,f,hf,fun r5 h5'=>mis r5 (by rw [htw,decide_eq_false (show ¬0<E by omega),decide_eq_false (show ¬0<U by omega),decide_eq_false k1];simp) (hsn _ hLS.symm r5 h5')⟩
  ·exact ⟨f,hf,fun r5 h5'=>mis r5 (by rw [htw,decide_eq_false (show ¬0<E by omega),decide_eq_false (show ¬0<U by omega),decide_eq_false k1];simp) (hsn _ hLS.symm r5 h5')⟩
 ·have hLS:ig x ⟨B,E,U⟩=⟨B,E+1,U-1⟩:=by unfold ig;rw [if_neg k1,if_neg k5,if_pos k2]
  exact ⟨E,cE,kE,by omega,U,cU,kU,by omega,B,cB,kB,f,hf,fun r5 h5'=>mis r5 (hno k1 k5) (hsn _ hLS.symm r5 h5')⟩
 ·have hLS:ig x ⟨B,E,U⟩=⟨B,E,U-1⟩:=by unfold ig;rw [if_neg k1,if_neg k5,if_neg k2,if_pos k3']
  exact ⟨U,cU,kU,by omega,B,cB,kB,E,cE,kE,f,hf,fun r5 h5'=>mis r5 (hno k1 k5) (hsn _ hLS.symm r5 h5')⟩
 ·have hLS:ig x ⟨B,E,U⟩=⟨B,E,U⟩:=by unfold ig;rw [if_neg k1,if_neg k5,if_neg k2,if_neg k3']
  exact ⟨B,cB,kB,E,cE,kE,U,cU,kU,f,hf,fun r5 h5'=>mis r5 (hno k1 k5) (hsn _ hLS.symm r5 h5')⟩
def DH:Sp:={ args:=[.i .i64,.i .i64,.i .i64,.i .i64,.i .u64,.i .i64,.i .i64,.sl,.i .i64,.i .i64,.sl],grp:=[some 8,none,none,none],res:=[.sl,.i .i64],rgrp:=[none,none],fn:=7,spec:=fun a0 a1 a2 a3 a4 a5 a6 a7 a8 a9 a10 a11 a12 a13 a14=>(rP a0 a1 a2 a3 a4 a5 a6 a7 a8 a9 a10 a11 a12 a13 a14,cQ a0 a1 a2 a3 a4 a5 a6 a7 a8 a9 a10 a11 a12 a13 a14) }
def Ag:Prop:=∀m:Mem,∀x0:Int,mi<=x0->x0<=ma->∀x1:Int,mi<=x1->x1<=ma->∀x2:Int,mi<=x2->x2<=ma->∀x3:Int,mi<=x3->x3<=ma->∀x4:Int,IntKind.u64.min<=x4->x4<=IntKind.u64.max->∀x5:Int,mi<=x5->x5<=ma->∀x6:Int,mi<=x6->x6<=ma->∀(p0:Option Addr) (n0 c0:Nat),n0<=9223372036854775807->c0<=9223372036854775807->∀x9:Int,mi<=x9->x9<=ma->∀x10:Int,mi<=x10->x10<=ma->∀(p1:Option Addr) (n1 c1:Nat),n1<=9223372036854775807->c1<=9223372036854775807->rP x0 x1 x2 x3 x4 x5 x6 p0 n0 c0 x9 x10 p1 n1 c1 m->
 ((n0:Int)=1/\(0<=x9/\(x9<=253402300799/\(0<=x10/\(x10<=253402300799/\(x9<=x10/\((x10-x9)<=1000000/\((x9+1)<=x10/\((1<=9223372036854775807/\c0<=9223372036854775807)/\fw x0 x1 x2 x3 x4 x5 x6 (p0.map fun p=>p.add 0) 1 c0 m/\∀m1:Mem,ac m m1->∀x13:Int,mi<=x13->x13<=ma->aH x0 x1 x2 x3 x4 x5 x6 (p0.map fun p=>p.add 0) 1 c0 m1 x13->
 ((x13≠0->
 ((K.i64 x13)/\cQ x0 x1 x2 x3 x4 x5 x6 p0 n0 c0 x9 x10 p1 n1 c1 m1 none 0 0 x13))/\
 (x13=0->
 ((1<=9223372036854775807/\c0<=9223372036854775807)/\fw x0 x1 x2 x3 x4 x5 x6 (p0.map fun p=>p.add 0) 1 c0 m1/\∀m2:Mem,ac m1 m2->∀x14:Int,mi<=x14->x14<=ma->aH x0 x1 x2 x3 x4 x5 x6 (p0.map fun p=>p.add 0) 1 c0 m2 x14->
 ((x14≠0->
 ((K.i64 x14)/\cQ x0 x1 x2 x3 x4 x5 x6 p0 n0 c0 x9 x10 p1 n1 c1 m2 none 0 0 x14))/\
 (x14=0->
 ((n1<=9223372036854775807/\c1<=9223372036854775807)/\gv (p1.map fun p=>p.add 0) n1 c1 1 m2/\∀m3:Mem,ac m2 m3->∀x15:Int,mi<=x15->x15<=ma->∀x16:Int,mi<=x16->x16<=ma->aI (p1.map fun p=>p.add 0) n1 c1 1 m3 x15 x16->
 ((x16≠0->
 ((K.i64 x16)/\cQ x0 x1 x2 x3 x4 x5 x6 p0 n0 c0 x9 x10 p1 n1 c1 m3 none 0 0 x16))/\
 (x16=0->
 (∃F4:Option Addr->Nat->Nat->Int->List Value->Prop×Nat,((K.i64 0)/\(F4 none 0 0 0 []).1)/\
 ∀(p2:Option Addr) (n2 c2:Nat),n2<=9223372036854775807->c2<=9223372036854775807->∀x19:Int,mi<=x19->x19<=ma->∀r0:List Value,(F4 p2 n2 c2 x19 r0).1->
 ((x19<(n1:Int)->
 (0<=x19/\(p1≠none/\(cw m3 p1 (0+(x19*8)) 8/\(∃x20:Int,ae m3 p1 (0+(x19*8))=some (vI x20)/\(K.i64 x20)/\((x20=1->
 (CU F4 p0 p1 x9 x10 m3 p2 n2 c2 x19 r0))/\
 (x20≠1->
 ((x20≠5->
 ((x19+1)<=9223372036854775807/\((n2<=9223372036854775807/\c2<=9223372036854775807)/\(mi<=(x19+1)/\(x19+1)<=ma)/\((F4 (p2.map fun p=>p.add 0) n2 c2 (x19+1) r0).1/\(F4 (p2.map fun p=>p.add 0) n2 c2 (x19+1) r0).2<(F4 p2 n2 c2 x19 r0).2))))/\
 (x20=5->
 (CU F4 p0 p1 x9 x10 m3 p2 n2 c2 x19 r0))))))))))/\
 ((n1:Int)<=x19->
 (∀k3:Nat,(∃F5:Option Addr->Nat->Nat->Int->List Value->List Value->Prop×Nat,((K.i64 0)/\(F5 none 0 0 0 [] []).1)/\
 ∀(p4:Option Addr) (n4 c4:Nat),n4<=9223372036854775807->c4<=9223372036854775807->∀x22:Int,mi<=x22->x22<=ma->∀r2:List Value,∀r3:List Value,(F5 p4 n4 c4 x22 r2 r3).1->
 ((x22<(n1:Int)->
 (HN F5 p1 m3 x22 p4 n4 c4 r2 r3))/\
 ((n1:Int)<=x22->
 (p0≠none/\(cw m3 p0 0 30/\(∃s0:List UInt8,ae m3 p0 0=some (Value.string ⟨List.toArray s0⟩)/\(∃x23:Int,ae m3 p0 17=some (vI x23)/\(K.i64 x23)/\(oJ s0 x4 x23 m3/\∀m6:Mem,ac m3 m6->∀x24:Int,mi<=x24->x24<=ma->∀x25:Int,mi<=x25->x25<=ma->jW s0 x4 x23 m6 x24 x25->
 (∃F7:Int->Prop×Nat,((K.i64 x9)/\(F7 x9).1)/\
 ∀x26:Int,mi<=x26->x26<=ma->(F7 x26).1->
 (∃x27:Int,ae m6 p0 1=some (vI x27)/\(K.i64 x27)/\(∃x28:Int,ae m6 p0 2=some (Value.int IntKind.u64 x28)/\(K.u64 x28)/\(∃x29:Int,ae m6 p0 3=some (Value.int IntKind.u64 x29)/\(K.u64 x29)/\(∃x30:Int,ae m6 p0 4=some (Value.int IntKind.u64 x30)/\(K.u64 x30)/\(∃x31:Int,ae m6 p0 5=some (Value.int IntKind.u64 x31)/\(K.u64 x31)/\(∃x32:Int,ae m6 p0 6=some (Value.int IntKind.u64 x32)/\(K.u64 x32)/\(∃x33:Int,ae m6 p0 7=some (Value.int IntKind.u64 x33)/\(K.u64 x33)/\(∃b0:Bool,ae m6 p0 8=some (Value.bool b0)/\(∃b1:Bool,ae m6 p0 9=some (Value.bool b1)/\(∃x34:Int,ae m6 p0 10=some (vI x34)/\(K.i64 x34)/\(∃x35:Int,ae m6 p0 11=some (vI x35)/\(K.i64 x35)/\(∃x36:Int,ae m6 p0 12=some (vI x36)/\(K.i64 x36)/\(∃x37:Int,ae m6 p0 13=some (vI x37)/\(K.i64 x37)/\(∃(p5:Option Addr) (n5 c5:Nat),ae m6 p0 14=some (Value.slice p5 n5 c5)/\(n5<=c5/\c5<=9223372036854775807)/\((n5<=9223372036854775807/\c5<=9223372036854775807)/\oS x27 x28 x29 x30 x31 x32 x33 b0 b1 x34 x35 x36 x37 (p5.map fun p=>p.add 0) n5 c5 x26 m6/\∀m8:Mem,ac m6 m8->∀x40:Int,mi<=x40->x40<=ma->∀b2:Bool,∀x41:Int,mi<=x41->x41<=ma->bV x27 x28 x29 x30 x31 x32 x33 b0 b1 x34 x35 x36 x37 (p5.map fun p=>p.add 0) n5 c5 x26 m8 x40 b2 x41->
 ((x41≠0->
 (Cq n2 n4 r0 r2 p2 m8 (fun m q n c=>cQ x0 x1 x2 x3 x4 x5 x6 p0 n0 c0 x9 x10 p1 n1 c1 m q n c 0)))/\
 (x41=0->
 ((b2=false->
 (Cq n2 n4 r0 r2 p2 m8 (fun m q n c=>cQ x0 x1 x2 x3 x4 x5 x6 p0 n0 c0 x9 x10 p1 n1 c1 m q n c 0)))/\
 (b2=true->
 ((x10<x40->
 (Cq n2 n4 r0 r2 p2 m8 (fun m q n c=>cQ x0 x1 x2 x3 x4 x5 x6 p0 n0 c0 x9 x10 p1 n1 c1 m q n c 0)))/\
 (x40<=x10->
 ((x40<x10->
 (wL F7 p0 x9 x10 x24 x26 x40 m8 r3 (Cp n2 n4 r0 r2 m8 (fun m q n c=>cQ x0 x1 x2 x3 x4 x5 x6 p0 n0 c0 x9 x10 p1 n1 c1 m q n c 0))))/\
 (x10<=x40->
 (wL F7 p0 x9 x10 x24 x26 x40 m8 r3 (Cp n2 n4 r0 r2 m8 (fun m q n c=>cQ x0 x1 x2 x3 x4 x5 x6 p0 n0 c0 x9 x10 p1 n1 c1 m q n c 0))))))))))))))))))))))))))))))))))))))))))))))))))))))))
set_option maxHeartbeats 4000000 in
theorem FN:Ag:=by
 intro m x0 _ _ x1 _ _ x2 _ _ x3 _ _ x4 _ _ x5 _ _ x6 _ _ p0 n0 c0 hn0 hc0 x9 h91 h92 x10 _ _ p1 n1 c1 hn1 hc1 hpre
 obtain ⟨⟨⟨hgs,hgm⟩,hone,⟨hy0,hyz,hz,hzy⟩,hb1⟩,J,l,hJ,hl,hev,hcf,ti,htr⟩:=hpre
 subst hone
 have b2:IntKind.i64.min = -9223372036854775808:=rfl
 have b3:IntKind.i64.max=9223372036854775807:=rfl
 have dy:∀v:Int,-9223372036854775808<=v->v<=9223372036854775807->K.i64 v:=fun v h1 h2=>⟨(by rw [b2];omega:IntKind.i64.min<=_),(by rw [b3];omega:_<=IntKind.i64.max)⟩
 have kz:K.i64 0:=dy 0 (by omega) (by omega)
 have hln:=hl.1
 obtain ⟨hjl,hevs⟩:=pj htr
 obtain ⟨_,_,hjob⟩:=sa hcf
 refine ⟨rfl,hy0,by omega,by omega,hz,by omega,hzy,hyz,⟨by omega,hc0⟩,⟨hgs,[J],by rw [ai];exact hJ⟩,fun m1 hm1 x13 _ _ hc1' => ?_⟩
 rw [ai] at hc1' ⊢
 have e13:x13=0:=(hc1' [J] (hJ.sub hm1)).trans hcf
 refine ⟨fun h=>absurd e13 h,fun _=>⟨⟨by omega,hc0⟩,⟨hgs.sub hm1,[J],hJ.sub hm1⟩,fun m2 hm2 x14 _ _ hc2' => ?_⟩⟩
 have e14:x14=0:=(hc2' [J] ((hJ.sub hm1).sub hm2)).trans hcf
 refine ⟨fun h=>absurd e14 h,fun _=>⟨⟨hn1,hc1⟩,⟨l,by rw [ai];exact (hl.sub hm1).sub hm2⟩,fun m3 hm3 x15 _ _ x16 _ _ ht => ?_⟩⟩
 rw [ai] at ht
 have hl3:=((hl.sub hm1).sub hm2).sub hm3
 have hJ3:=((hJ.sub hm1).sub hm2).sub hm3
 have hgm3:=((hgm.sub hm1).sub hm2).sub hm3
 have e16:x16=0:=by
  have:=(ht l hl3).trans htr.symm
  exact (Prod.mk.inj this).2
 refine ⟨fun h=>absurd e16 h,fun _ => ?_⟩
 refine ⟨pH (xY J x9 x10) l n1 5,⟨kz,0,rfl,by omega,rfl,rfl,fun _=>rfl⟩,?_⟩
 intro p2 n2 c2 hn2 hc2 x19 _ _ r0 hinv
 obtain ⟨i,rfl,hi,hr0,hn2e,hp2⟩:=hinv
 refine ⟨fun hlt => ?_,fun hge => ?_⟩
 ·obtain ⟨x,hx,hp,hat,hhas⟩:=hl3.at_ (i:=(i:Int)) (by omega) hlt
  rw [Int.toNat_natCast] at hx
  obtain ⟨hvP,hvj,_⟩:=fR (hevs i x hx)
  have hj:x.kind≠6->x.job=0:=fun h=>by
   have h1:=oA hvP h
   have h2:=hvj h
   omega
  refine ⟨by omega,hp,hhas,x.kind,hat.1.1,hat.1.2,fun hk => ?_,fun hk=>⟨fun hk5 => ?_,fun hk5 => ?_⟩⟩
  ·exact ru hJ3 hev hx hat (.inl hk) (hj (by omega)) (ri hvP (.inl hk)) hln hb1 hr0 hn2e hn2 hc2 hp2
  ·refine wH hx hln hb1 ?_ hr0 hn2e hn2 hc2 hp2
   unfold xY
   rw [decide_eq_false hk,decide_eq_false hk5];rfl
  ·exact ru hJ3 hev hx hat (.inr hk5) (hj (by omega)) (ri hvP (.inr hk5)) hln hb1 hr0 hn2e hn2 hc2 hp2
 have hii:i=l.length:=by omega
 subst hii
 intro k3
 refine ⟨sr mW l n1 6,⟨kz,0,rfl,by omega,rfl,rfl,rfl,fun _=>rfl⟩,?_⟩
 intro p4 n4 c4 hn4 hc4 x22 _ _ r2 r3 hinv
 obtain ⟨i,rfl,hi,hr2,hn4e,hr3,hp4⟩:=hinv
 refine ⟨fun hlt => ?_,fun hge => ?_⟩
 ·obtain ⟨x,hx,hp,hat,hhas⟩:=hl3.at_ (i:=(i:Int)) (by omega) hlt
  rw [Int.toNat_natCast] at hx
  exact B7 hx hp hat hhas hln hb1 hr2 hn4e hn4 hc4 hr3 hp4
 have hii:i=l.length:=by omega
 subst hii
 rw [List.take_length] at hr3
 obtain ⟨J',hJ',⟨hp0,hh⟩,hnm,hpl,hpo⟩:=hJ3.at_ (i:=0) (by omega) (by omega)
 have eJ:J'=J:=by simpa using hJ'.symm
 subst eJ
 have hsp:=hpo.2.2.1
 rw [hev.splay] at hsp
 refine ⟨hp0,(by simpa using hh),J'.name,aw hnm.1 (by omega),0,aw hsp.1 (by omega),hsp.2,⟨hgm3,rfl,uG hcf J' (List.mem_singleton.2 rfl)⟩,fun m6 hm6 x24 _ _ x25 _ _ hspl => ?_⟩
 obtain ⟨rfl,_⟩:=hspl
 have hJ6:=hJ3.sub hm6
 have hl6:=hl3.sub hm6
 have hnum:=hev.num
 have lW:r0.length=n2*2:=by rw [hr0,hn2e,cj];omega
 have lT:r2.length=n4*2:=by rw [hr2,hn4e,cj];omega
 have bW:=bv (xY J' x9 x10) l l.length
 have bT:=bv mW l l.length
 refine ⟨Cw x9 x10 (xh J' x10 l),⟨⟨h91,h92⟩,by omega,by omega,fun d h1 h2=>by omega⟩,?_⟩
 intro t _ _ hg
 obtain ⟨ht0,ht1,htn⟩:=hg
 obtain ⟨J2,hJ2,⟨hp02,hh2⟩,hnm2,hpl2,hpo2⟩:=hJ6.at_ (i:=0) (by omega) (by omega)
 have eJ:J2=J':=by simpa using hJ2.symm
 subst eJ
 obtain ⟨a1,a2,a3,a4,a5,a6,a7,a8,a9,a10,a11,a12,a13,q,n,c,s1,s2,s3⟩:=hpl2
 have hsn:n=0:=by rw [<-s3.1,hev.skip];rfl
 refine ⟨J2.k,aw a1.1 (by omega),a1.2,J2.a,aw a2.1 (by omega),a2.2,J2.b,aw a3.1 (by omega),a3.2,J2.c,aw a4.1 (by omega),a4.2,J2.d,aw a5.1 (by omega),a5.2,J2.e,aw a6.1 (by omega),a6.2,J2.f,aw a7.1 (by omega),a7.2,J2.x,aw a8 (by omega),J2.y,aw a9 (by omega),J2.z,aw a10.1 (by omega),a10.2,J2.s,aw a11.1 (by omega),a11.2,J2.t,aw a12.1 (by omega),a12.2,J2.u,aw a13.1 (by omega),a13.2,q,n,c,aw s1 (by omega),s2,⟨by omega,s2.2⟩,⟨tD hev hsn,hev.s.1,hev.s.2,hev.t.1,hev.t.2,hev.u.1,hev.u.2,by omega,by omega⟩,fun m8 hm8 u hu1 hu2 b2' x41 _ _ hp => ?_⟩
 obtain ⟨rfl,hnx⟩:=hp
 have hdead:=(hpo2.2.2.2.1.sub hm8)
 -- the ends
 have ps:∀(M:Bool),(M=true↔qU J2 x9 x10 l)->∀m9 q c,ac m8 m9->eg m9 q (qV J2 x9 x10 l M)->cQ x0 x1 x2 x3 x4 x5 x6 p0 1 c0 x9 x10 p1 n1 c1 m9 q (yn J2 x9 x10 l M) c 0:=by
  intro M hM m9 q c hm9 hrow Ja la hJa hla
  have hup:=(((((hm1.trans hm2).trans hm3).trans hm6).trans hm8).trans hm9)
  have e1:[J2]=[Ja]:=hJ.uniq hup hJa
  have e2:l=la:=hl.uniq hup hla
  cases e1
  subst e2
  exact ⟨rfl,M,hM,hrow,rfl⟩
 have endn:(¬qU J2 x9 x10 l)->Cq n2 n4 r0 r2 p2 m8 (fun m q n c=>cQ x0 x1 x2 x3 x4 x5 x6 p0 1 c0 x9 x10 p1 n1 c1 m q n c 0):=fun hno=>by
  refine Gk lW lT (by omega) (by omega) (fun m9 q c hm9 hrow => ?_)
  have h:=ps false ⟨(fun h=>by cases h),fun h=>absurd h hno⟩ m9 q c hm9 (by unfold qV;rw [if_neg (by simp),List.append_nil,<-hr0,<-hr2];exact hrow)
  have e:yn J2 x9 x10 l false=n2+n4:=by unfold yn;rw [if_neg (by simp),<-hn2e,<-hn4e,Nat.add_zero]
  rw [e] at h
  exact h
 have endm:qU J2 x9 x10 l->Cp n2 n4 r0 r2 m8 (fun m q n c=>cQ x0 x1 x2 x3 x4 x5 x6 p0 1 c0 x9 x10 p1 n1 c1 m q n c 0):=fun hyes=>by
  refine Gj lW lT (by omega) (by omega) (fun m9 q c hm9 hrow => ?_)
  have h:=ps true ⟨fun _=>hyes,fun _=>rfl⟩ m9 q c hm9 (by unfold qV;rw [if_pos rfl,<-hr0,<-hr2];exact hrow)
  have e:yn J2 x9 x10 l true=n2+n4+1:=by unfold yn;rw [if_pos rfl,<-hn2e,<-hn4e]
  rw [e] at h
  exact h
 have none_:∀v:Int,t<=v->v<=x10\/True->(∀d,t<d->d<=x10->gg J2.s J2.t J2.u d=false)->¬qU J2 x9 x10 l:=fun v _ _ h ⟨d,d1,d2,d3⟩=>by
  by_cases hd:d<=t
  ·exact htn d d1 hd d3
  ·have:=h d (by omega) d2
   rw [d3.1] at this;cases this
 refine ⟨fun h=>absurd rfl h,fun _=>⟨fun hb=>endn ?_,fun hb => ?_⟩⟩
 ·split at hnx
  ·rw [hnx.1] at hb;cases hb
  ·rename_i hlt
   exact none_ t (by omega) (.inr trivial) (fun d d1 _=>BC hev.t.1 (by omega) hlt d d1)
 ·split at hnx
  ·rename_i hlt
   obtain ⟨_,hue⟩:=hnx
   obtain ⟨g1,g2,g3⟩:=BD hev.t.1 (by omega) hlt
   rw [<-hue] at g1 g2 g3
   refine ⟨fun hgt=>endn (none_ t (by omega) (.inr trivial) (fun d d1 d2=>g3 d d1 (by omega))),fun hle => ?_⟩
   have main:wL (Cw x9 x10 (xh J2 x10 l)) p0 x9 x10 0 t u m8 r3 (Cp n2 n4 r0 r2 m8 (fun m q n c=>cQ x0 x1 x2 x3 x4 x5 x6 p0 1 c0 x9 x10 p1 n1 c1 m q n c 0)):=by
    refine AC (by omega) hy0 hle hz (aw hdead.1 (by omega)) hev.dead hr3 (by omega) (fun h1 h2=>endm ⟨u,by omega,hle,g2,h1,h2⟩) (fun hnm=>⟨⟨hu1,hu2⟩,⟨by omega,hle,fun d d1 d2 hms => ?_⟩,by simp only [Cw];omega⟩)
    by_cases hd:d<=t
    ·exact htn d d1 hd hms
    ·by_cases hdu:d=u
     ·subst hdu
      exact hnm ⟨hms.2.1,hms.2.2⟩
     ·have:=g3 d (by omega) (by omega)
      rw [hms.1] at this;cases this
   exact ⟨fun _=>main,fun _=>main⟩
  ·rw [hnx.1] at hb;cases hb
theorem FM:∀m,bG DH.args DH.spec fun r=>r.1 m->bg m []:=fun m _ _ _ _ _ _ _ _ _ _ _ _ _ _ _ _=>trivial
theorem FL:cI Tryz.prog DH:=
 rf [] J4 [] rfl (aZ [vv,wu,CX,CY,CA] ⟨kJ,⟨kZ,⟨BQ,⟨BS,⟨A7,trivial⟩⟩⟩⟩⟩ rfl) (ph _ [⟨(29,3),[],[],[(7,41)],[3]⟩,⟨(29,3),[],[],[(7,41)],[]⟩,⟨(40,1),[],[],[],[]⟩] [133]) 1000 DH _ rfl rfl FM (Eq.mp (show Ag=_ by kernel_rfl) FN)
end
end Go.Proofs.YtjabmipkllkfbaaGreatDoor.Vc
