/-
  The engine: what an operation on variables asks for and yields (definitions); Operations on variables are sound (1); Operations on variables are sound (2); Operations on variables are sound (3); Operations on variables are sound (4); Operations on variables are sound (5), joined; The engine is sound: keys that are structs of integers.
-/
import Derived.Test.YtjabmipkllkfbaaGreatDoorZB
import Derived.WideKeyRuns
set_option linter.unusedVariables false
set_option linter.unusedSimpArgs false
namespace Go.Proofs.YtjabmipkllkfbaaGreatDoor.Vc
section
inductive D where
 /-- a cell that holds an integer of the kind,a truth value,a string,a slice,any value -/
 | openI (k:IntKind) (v:AV)
 | openB (v:AV)
 | openS (v:AV)
 | openV (v:AV)
 | openSl (w:Bool) (v:AV)
 /-- so many cells lie there -/
 | has (a:Nat) (off:IE) (n:Nat)
 | nn (a:Nat)
 | arith (op:BinOp) (k:IntKind) (x y:IE)
 | wrap (k:IntKind) (e:IE)
 | cut (off cap lo:IE) (n:Nat)
 | nat (e:IE)
 | pick (k:IntKind) (c:BE) (x y:IE)
 | mm (mx:Bool) (k:IntKind) (x y:IE)
 | seq (x y:AV)
 | slen (x:AV)
 | sidx (x:AV) (i:IE)
 | scat (x y:AV)
 | ssub (x:AV) (lo hi:IE)
 /-- a row of the run's own:so many cells lie there;some are set;a new one;cells are appended;nobody writes it any more -/
 | rhas (r:Nat) (off:IE) (n:Nat)
 | rset (r:Nat) (off:IE) (vs:List AV)
 | mk (n:IE) (zs:List AV)
 | rapp (r:Nat) (n:IE) (k b:Nat) (vs:List AV)
 | frz (a r:Nat)
 /-- a row of the run's own,cell by cell:nobody writes it any more -/
 | pub (vs:List AV)
 | pubc (vs:List AV)
 /-- an entry of a map of the run's own:so many cells,if it is not there these;it is set,struck;how many there are -/
 | mget (g:Bool) (r:Nat) (k:AV) (zs:List AV)
 | mset (r:Nat) (k v:AV)
 | mdel (r:Nat) (k:AV)
 | mnew
 /-- the bytes of a text,in a row of the run's own;the text of some bytes -/
 | sbytes (x:AV)
 | bstr (vs:List AV)
 /-- the cells of a slice of the memory as a row;a row of the run's own that is a full row and further cells;none of them,or some -/
 | mrow (a:Nat) (off n:IE) (size:Nat)
 | grow (rx ry:Nat) (tot:IE) (b:Nat)
 | growk (rx:Nat) (vs:List AV) (tot:IE) (b:Nat)
 | zn (a:Nat) (e:IE)
 /-- whether a slice of the memory is nil -/
 | nul (a:Nat)
 /-- the first elements of a row of the run's own -/
 | rtk (r:Nat) (n:IE) (size:Nat)
 /-- zeros,in a row -/
 | zrow (n:IE) (zs:List AV)
 /-- some cells and the last elements of a row of the run's own -/
 | rdrp (r:Nat) (n:IE) (size:Nat) (vs:List AV)
inductive aX where
 | need (c:BE)
 | d (x:D)
def jd (pe:PE):AV->Option (List UInt8)
 | .str l=>some l
 | .sv i=>aA pe.ς i
 | _=>none
def CI (pe:PE):AV->Option Value
 | .cl a off=>nc pe a off
 | .rc r off=>tJ pe r off
 | .opq i=>lq pe i
 | _=>none
def fb:AV->Bool
 | .cl _ _ | .rc _ _ | .opq _=>true
 | _=>false
def JZ (m:Mem) (p:Addr) (n:Nat):Prop:=∀j,j<n->∃v,df m (p.add j)=some v/\bK v=some v
def cw (m:Mem) (p:Option Addr) (z:Int) (n:Nat):Prop:=∃q o,p=some q/\z=Int.ofNat o/\JZ m (q.add o) n
def aq (op:BinOp) (k:IntKind) (x y:Int):Int:=
 match op with
 | .mul=>k.wrap (x*y)
 | .quo=>k.wrap (x.tdiv y)
 | .rem=>x.tmod y
 | .and=>k.wrap (BitVec.ofInt k.bits x &&& BitVec.ofInt k.bits y).toNat
 | .or=>k.wrap (BitVec.ofInt k.bits x ||| BitVec.ofInt k.bits y).toNat
 | .xor=>k.wrap (BitVec.ofInt k.bits x ^^^ BitVec.ofInt k.bits y).toNat
 | .andNot=>k.wrap (BitVec.ofInt k.bits x &&& ~~~(BitVec.ofInt k.bits y)).toNat
 | .shl=>k.wrap (x*2 ^ (min y.toNat k.bits))
 | .shr=>x.fdiv (2 ^ (min y.toNat k.bits))
 | _=>0
def aJ (op:BinOp) (y:Int):Prop:=
 match op with
 | .mul | .and | .or | .xor | .andNot=>True
 | .quo | .rem=>y≠0
 | .shl | .shr=>0<=y
 | _=>False
def bm (pe:PE) (x:Int):PE:={ pe with σ:=pe.σ++[x] }
def nm (pe:PE) (x:Bool):PE:={ pe with β:=pe.β++[x] }
def iz (pe:PE) (x:List UInt8):PE:={ pe with ς:=pe.ς++[x] }
def be (pe:PE) (x:Value):PE:={ pe with τ:=pe.τ++[x] }
def aL (pe:PE) (x:List Value):PE:={ pe with ρ:=pe.ρ++[x] }
def iN (pe:PE):az:={ pe with E:=fun _=>none,L:=fun _=>none }
def ac (m m':Mem):Prop:=∀b o,m b=some o->m' b=some o
def bJ (m:Mem) (q:Option Addr) (l:List Value):Prop:=∀p,q=some p->∀j x,l[j]? = some x->df m (p.add j)=some x
def jc:List Value->List Value->Option Bool
 | [],[]=>some true
 | .int k a::xs,.int k' b::ys=>if k=k' then (match jc xs ys with | some r=>some ((a==b)&&r) | none=>none) else none
 | _,_=>none
def dh:Value->Value->Option Bool
 | .int k a,.int k' b=>if k=k' then some (a==b) else none
 | .string a,.string b=>some (a==b)
 | .agg a,.agg b=>jc a.toList b.toList
 | _,_=>none
def bb (k:Value):List Value->Nat->Option (Option (Nat×Value))
 | [],_=>some none
 | .tuple ⟨[k',v]⟩::es,i=>(match dh k k' with
  | some true=>some (some (i,v))
  | some false=>bb k es (Nat.succ i)
  | none=>none)
 | _::_,_=>none
def lS (g:Bool) (l:List Value):Value:=match g with | true => .agg l.toArray | false=>l.headD (.tuple #[])
def oO (g:Bool) (f:Option (Nat×Value)) (zs l:List Value):Prop:=l.length=zs.length/\(∀x∈l,bK x=some x)/\match f with | some (_,v)=>v=lS g l | none=>l=zs
def rq (f:Option (Nat×Value)):Bool:=match f with | some _=>true | none=>false
def kQ (f:Option (Nat×Value)) (l:List Value) (k v:Value):List Value:=match f with | some (i,_)=>l.set i (.tuple #[k,v]) | none=>l++[.tuple #[k,v]]
def yG (f:Option (Nat×Value)) (l:List Value):List Value:=match f with | some (i,_)=>l.eraseIdx i | none=>l
def D.sat (pe:PE) (K:PE->Prop):D->Prop
 | .openI k v=>∃x,CI pe v=some (.int k x)/\(k.min<=x/\x<=k.max)/\K (bm pe x)
 | .openB v=>∃x,CI pe v=some (.bool x)/\K (nm pe x)
 | .openS v=>∃x,CI pe v=some (.string ⟨List.toArray x⟩)/\K (iz pe x)
 | .openV v=>∃x,CI pe v=some x/\K (be pe x)
 | .openSl w v=>∃(p:Option Addr) (n c:Nat),CI pe v=some (.slice p n c)/\((match w with | true=>n<=9223372036854775807 | false=>n<=c)/\c<=9223372036854775807)/\K (bm (bm (be pe (.pointer p)) n) c)
 | .has a off n=>match aM pe.τ a,off.val pe.σ with
  | some p,some z=>cw pe.mem p z n/\K pe
  | _,_=>False
 | .nn a=>match aM pe.τ a with
  | some p=>p≠none/\K pe
  | none=>False
 | .arith op k x y=>match x.val pe.σ,y.val pe.σ with
  | some p,some q=>aJ op q/\∀z,z=aq op k p q->(k.min<=z/\z<=k.max)/\K (bm pe z)
  | _,_=>False
 | .wrap k e=>match e.val pe.σ with
  | some p=>∀z,z=k.wrap p->k.min<=z->z<=k.max->K (bm pe z)
  | none=>False
 | .cut off cap lo n=>match off.val pe.σ,cap.val pe.σ,lo.val pe.σ with
  | some o,some c,some l=>∃z:Nat,(z:Int)=(if c=l then o else o+l*n)/\z<=9223372036854775807/\K (bm pe z)
  | _,_,_=>False
 | .nat e=>match e.val pe.σ with
  | some p=>∃z:Nat,(z:Int)=p/\z<=9223372036854775807/\K (bm pe z)
  | none=>False
 | .pick k c x y=>match c.val pe.σ pe.β,x.val pe.σ,y.val pe.σ with
  | some b,some p,some q=>∀z,z=(bif b then p else q)->(k.min<=z/\z<=k.max)/\K (bm pe z)
  | _,_,_=>False
 | .mm mx k x y=>match x.val pe.σ,y.val pe.σ with
  | some p,some q=>∀z,z=(bif mx then max p q else min p q)->(k.min<=z/\z<=k.max)/\K (bm pe z)
  | _,_=>False
 | .seq x y=>match jd pe x,jd pe y with
  | some p,some q=>∀z,z=decide (p=q)->K (nm pe z)
  | _,_=>False
 | .nul a=>match aM pe.τ a with
  | some p=>∀z,z=decide (p=none)->K (nm pe z)
  | none=>False
 | .slen x=>match jd pe x with
  | some l=>∀z:Int,z=(l.length:Int)->0<=z/\z<=9223372036854775807/\K (bm pe z)
  | none=>False
 | .sidx x i=>match jd pe x,i.val pe.σ with
  | some l,some j=>(0<=j/\j<(l.length:Int))/\∀z:Int,z=((l.getD j.toNat 0).toNat:Int)->0<=z->z<=255->K (bm pe z)
  | _,_=>False
 | .scat x y=>match jd pe x,jd pe y with
  | some p,some q=>((p.length+q.length:Nat):Int)<=9223372036854775807/\∀z,z=p++q->K (iz pe z)
  | _,_=>False
 | .ssub x lo hi=>match jd pe x,lo.val pe.σ,hi.val pe.σ with
  | some l,some i,some j=>(0<=i/\i<=j/\j<=(l.length:Int))/\∀z,z=(l.drop i.toNat).take (j.toNat-i.toNat)->K (iz pe z)
  | _,_,_=>False
 | .rhas r off n=>match aA pe.ρ r,off.val pe.σ with
  | some l,some z=>(0<=z/\z+(n:Int)<=(l.length:Int))/\K pe
  | _,_=>False
 | .rset r off vs=>match aA pe.ρ r,off.val pe.σ,concL (iN pe) vs with
  | some l,some z,some xs=>(0<=z/\z+(xs.length:Int)<=(l.length:Int))/\∀l',l'=aE l z.toNat xs->K (aL pe l')
  | _,_,_=>False
 | .mk n zs=>match n.val pe.σ,concL (iN pe) zs with
  | some z,some xs=>(0<=z/\z<=1000000)/\∀(p:Addr) l',l'=cP z.toNat xs->K (aL (be pe (.pointer (some p))) l')
  | _,_=>False
 | .rapp r n k b vs=>match aA pe.ρ r,n.val pe.σ,concL (iN pe) vs with
  | some l,some z,some xs=>(2*(z+(k:Int))*(b:Int)<=281474976710656)/\∀(p:Addr) (c:Nat) l',l'=l++xs->z+(k:Int)<=(c:Int)->c<=9223372036854775807->K (aL (bm (be pe (.pointer (some p))) c) l')
  | _,_,_=>False
 | .frz a r=>match aA pe.τ a,aA pe.ρ r with
  | some (.pointer q),some l=>∀m',ac pe.mem m'->bJ m' q l->K { pe with mem:=m' }
  | _,_=>False
 | .pub vs=>match concL (iN pe) vs with
  | some xs=>∀(p:Addr) m',ac pe.mem m'->bJ m' (some p) xs->K (be { pe with mem:=m' } (.pointer (some p)))
  | none=>False
 | .pubc vs=>match concL (iN pe) vs with
  | some xs=>∀(p:Addr) (c:Nat) m',ac pe.mem m'->bJ m' (some p) xs->c<=9223372036854775807->K (bm (be { pe with mem:=m' } (.pointer (some p))) c)
  | none=>False
 | .mget g r k zs=>match aA pe.ρ r,k.conc (iN pe),concL (iN pe) zs with
  | some l,some x,some z=>∃f,bb x l 0=some f/\∀b,b=rq f->∃l',oO g f z l'/\K (aL (nm pe b) l')
  | _,_,_=>False
 | .mset r k v=>match aA pe.ρ r,k.conc (iN pe),v.conc (iN pe) with
  | some l,some x,some y=>∃f,bb x l 0=some f/\∀l',l'=kQ f l x y->K (aL pe l')
  | _,_,_=>False
 | .mdel r k=>match aA pe.ρ r,k.conc (iN pe) with
  | some l,some x=>∃f,bb x l 0=some f/\∀l',l'=yG f l->K (aL pe l')
  | _,_=>False
 | .mnew=>∀p:Nat,K (aL (be pe (.map (some p))) [])
 | .sbytes x=>match jd pe x with
  | some l=>(l.length:Int)<=9223372036854775807/\∀(p:Addr) (n c:Nat) l',n=l.length->n<=c->c<=9223372036854775807->l'=l.map (fun b=>Value.int .u8 (b.toNat:Int))->K (aL (bm (bm (be pe (.pointer (some p))) n) c) l')
  | none=>False
 | .mrow a off n size=>match aM pe.τ a,off.val pe.σ,n.val pe.σ with
  | some p,some o,some z=>∃l:List Value,(l.length:Int)=z*(size:Int)/\(∀(j:Nat) (v:Value),l[j]? = some v->ae pe.mem p (o+(j:Int))=some v)/\K (aL pe l)
  | _,_,_=>False
 | .grow rx ry tot b=>match aA pe.ρ rx,aA pe.ρ ry,tot.val pe.σ with
  | some lx,some ly,some z=>(2*z*(b:Int)<=281474976710656)/\∀(q:Option Addr) (c:Nat) l',l'=lx++ly->z<=(c:Int)->c<=9223372036854775807->(q=none->z=0)->K (aL (bm (be pe (.pointer q)) c) l')
  | _,_,_=>False
 | .growk rx vs tot b=>match aA pe.ρ rx,concL (iN pe) vs,tot.val pe.σ with
  | some lx,some ly,some z=>(2*z*(b:Int)<=281474976710656)/\∀(q:Option Addr) (c:Nat) l',l'=lx++ly->z<=(c:Int)->c<=9223372036854775807->(q=none->z=0)->K (aL (bm (be pe (.pointer q)) c) l')
  | _,_,_=>False
 | .zn a e=>match aM pe.τ a,e.val pe.σ with
  | some p,some z=>(z=0->p=none)/\K pe
  | _,_=>False
 | .rtk r n size=>match aA pe.ρ r,n.val pe.σ with
  | some l,some z=>(0<=z/\z*(size:Int)<=(l.length:Int))/\∀l',l'=l.take (z.toNat*size)->K (aL pe l')
  | _,_=>False
 | .zrow n zs=>match n.val pe.σ,concL (iN pe) zs with
  | some z,some xs=>(0<=z/\z<=1000000)/\∀l,l=cP z.toNat xs->K (aL pe l)
  | _,_=>False
 | .rdrp r n size vs=>match aA pe.ρ r,n.val pe.σ,concL (iN pe) vs with
  | some l,some z,some xs=>(0<=z/\z*(size:Int)<=(l.length:Int))/\∀l',l'=xs++l.drop (z.toNat*size)->K (aL pe l')
  | _,_,_=>False
 | .bstr vs=>match concL (iN pe) vs with
  | some xs=>∃ns:List Int,xs=ns.map (Value.int .u8)/\∀x,x=ns.map (fun n=>UInt8.ofNat n.toNat)->K (iz pe x)
  | none=>False
def BE.T (σ:List Int) (β:List Bool):BE->Bool->Prop
 | .var i,t=>match aA β i with | some b=>b=t | none=>False
 | .le a b,t=>match a.val σ,b.val σ with | some x,some y=>bif t then x<=y else y<x | _,_=>False
 | .eq a b,t=>match a.val σ,b.val σ with | some x,some y=>bif t then x=y else x≠y | _,_=>False
 | .not c,t=>c.T σ β (!t)
 | .and c d,t=>bif t then c.T σ β true/\d.T σ β true else (c.T σ β true->d.T σ β false)
def aX.sat (pe:PE) (K:PE->Prop):aX->Prop
 | .need c=>match c.val pe.σ pe.β with
  | some _=>c.T pe.σ pe.β true/\K pe
  | none=>False
 | .d x=>x.sat pe K
def aj:List aX->PE->(PE->Prop)->Prop
 | [],pe,K=>K pe
 | p::ps,pe,K=>p.sat pe fun pe=>aj ps pe K
def aK (s:S) (lo hi:Int):S:={ s with know:={ s.know with rng:=s.know.rng++[(lo,hi)] } }
def nI (s:S):Nat:=bF s.know.rng
def kl (s:S):S:={ s with nb:=Nat.succ s.nb }
def li (s:S):S:={ s with ns:=Nat.succ s.ns }
def bu (s:S):S:={ s with nv:=Nat.succ s.nv }
def aY (s:S):S:={ s with nr:=Nat.succ s.nr }
def cK (s:S) (c v:AV):S:={ s with memo:=(c,v)::s.memo }
def iC:List (AV×AV)->AV->Option AV
 | [],_=>none
 | (c,v)::l,x=>bif AV.eqb c x then some v else iC l x
abbrev kF:=Option (List aX×AV×S)
def qI (g : G) (t : TypeId) (v : AV) (s : S) : kF :=
 bif fb v then
  match iC s.memo v with
  | some u=>some ([],u,s)
  | none =>
   match g.ty.get t with
   | some ti=>(match ti.desc with
    | .int k=>some ([.d (.openI k v)],.int k (.var (nI s)),cK (aK s k.min k.max) v (.int k (.var (nI s))))
    | .bool=>some ([.d (.openB v)],.bx (.var s.nb),cK (kl s) v (.bx (.var s.nb)))
    | .string=>some ([.d (.openS v)],.sv s.ns,cK (li s) v (.sv s.ns))
    | .slice _=>some ([.d (.openSl g.slw v)],.sl s.nv (.lit 0) (.var (nI s)) (.var (Nat.succ (nI s))),cK (aK (aK (bu s) 0 9223372036854775807) 0 9223372036854775807) v (.sl s.nv (.lit 0) (.var (nI s)) (.var (Nat.succ (nI s)))))
    | _=>some ([],v,s))
   | none=>none
 else some ([],v,s)
def dG (s:S) (a b:IE):List aX:=match CJ s.know a b with | some true=>[] | _=>[.need (.le a b)]
def yN (s:S) (a b:IE):List aX:=match CJ s.know b a with | some false=>[] | _=>[.need (.not (.le b a))]
def pS (s:S) (k:IntKind) (e:IE):List aX:=dG s (.lit k.min) e++dG s e (.lit k.max)
def iQ (s:S) (op:BinOp) (k:IntKind) (x y:IE):kF:=some ([.d (.arith op k x y)],.int k (.var (nI s)),aK s k.min k.max)
def EP (a b:IE):IE:=match a,b with
 | .lit x,.lit y => .lit (x*y)
 | a,.lit y=>bif Er y 1 then a else .mul a (.lit y)
 | a,b => .mul a b
def H6 (s:S) (a b:IE):AV:=match CJ s.know a b with | some t => .bool t | none => .bx (.le a b)
def IA (s:S) (a b:IE):AV:=match H1 s.know a b with | some t => .bool t | none => .bx (.eq a b)
def qY:AV->AV
 | .bool b => .bool (!b)
 | .bx (.not c) => .bx c
 | .bx c => .bx (.not c)
 | v=>v
def eW:AV->AV->Option AV
 | .bool true,v=>some v
 | .bool false,_=>some (.bool false)
 | .bx c,.bool true=>some (.bx c)
 | .bx _,.bool false=>some (.bool false)
 | .bx c,.bx d=>some (.bx (.and c d))
 | _,_=>none
def wm (s:S) (op:BinOp) (k:IntKind) (x y:IE):kF:=
 match op with
 | .add=>bif k.signed then some (pS s k (eA x y),.int k (eA x y),s) else some ([.d (.wrap k (eA x y))],.int k (.var (nI s)),aK s k.min k.max)
 | .sub=>bif k.signed then some (pS s k (we x y),.int k (we x y),s) else some ([.d (.wrap k (we x y))],.int k (.var (nI s)),aK s k.min k.max)
 | .mul=>bif k.signed then some (pS s k (EP x y),.int k (EP x y),s) else iQ s op k x y
 | .quo | .rem | .and | .or | .xor | .andNot=>iQ s op k x y
 | .eql=>some ([],IA s x y,s)
 | .neq=>some ([],qY (IA s x y),s)
 | .leq=>some ([],H6 s x y,s)
 | .gtr=>some ([],qY (H6 s x y),s)
 | .geq=>some ([],H6 s y x,s)
 | .lss=>some ([],qY (H6 s y x),s)
 | _=>none
def iZ:AV->Bool
 | .str _ | .sv _=>true
 | _=>false
def zU (s:S) (op:BinOp) (x y:AV):kF:=
 match op with
 | .add=>some ([.d (.scat x y)],.sv s.ns,li s)
 | .eql=>some ([.d (.seq x y)],.bx (.var s.nb),kl s)
 | .neq=>some ([.d (.seq x y)],.bx (.not (.var s.nb)),kl s)
 | _=>none
def D8:AV->AV->Option AV
 | .bool a,.bool b=>some (.bool (a==b))
 | .bx c,.bool b=>some (bif b then .bx c else qY (.bx c))
 | .bool b,.bx c=>some (bif b then .bx c else qY (.bx c))
 | .bx c,.bx d=>some (.bx (.and (.not (.and c (.not d))) (.not (.and d (.not c)))))
 | _,_=>none
def B3 (g:G) (s:S) (op:BinOp) (t:TypeId) (x y:AV):kF:=
 match g.ty.get t,D8 x y with
 | some ti,some v=>(match ti.desc,op with
  | .bool,.eql=>some ([],v,s)
  | .bool,.neq=>some ([],qY v,s)
  | _,_=>none)
 | _,_=>none
def tT (rec : TypeId -> AV -> AV -> S -> kF) (g : G) (xs ys : List AV) : List Field -> S -> kF
 | [],s=>some ([],.bool true,s)
 | f :: fs, s =>
  bif f.name=="_" then none else
  match iw g f.type xs f.offset,iw g f.type ys f.offset with
  | some x, some y => (match rec f.type x y s with
   | some (p,b,s)=>(match tT rec g xs ys fs s with
    | some (q,c,s)=>(match eW b c with | some d=>some (p++q,d,s) | none=>none)
    | none=>none)
   | none=>none)
  | _,_=>none
def wj (s : S) : TypeDesc -> AV -> AV -> kF
 | .int _,.int k a,.int k' b=>bif de k k' then some ([],IA s a b,s) else none
 | .string, x, y => bif iZ x && iZ y then
   (match x, y with
    | .str a,.str b=>some ([],.bool (gS a b),s)
    | x,y=>some ([.d (.seq x y)],.bx (.var s.nb),kl s)) else none
 | .bool,x,y=>(match D8 x y with | some v=>some ([],v,s) | none=>none)
 | _,_,_=>none
def je (g : G) : Nat -> TypeId -> AV -> AV -> S -> kF
 | 0,_,_,_,_=>none
 | d + 1, t, x, y, s =>
  match g.ty.get t with
  | none=>none
  | some ti =>
   match ti.desc,x,y with
   | .struct fields,.agg xs,.agg ys=>bif kS g.eqs t then tT (je g d) g xs ys fields.toList s else none
   | _, x, y =>
    match qI g t x s with
    | some (p, x, s) => (match qI g t y s with
     | some (q,y,s)=>(match wj s ti.desc x y with
      | some (r,b,s)=>some (p++(q++r),b,s)
      | none=>none)
     | none=>none)
    | none=>none
def wq (g:G) (s:S) (t:TypeId) (a:Nat) (neg:Bool):kF:=
 match g.ty.get t with
 | some ti=>(match ti.desc with
  | .slice _=>some ([.d (.nul a)],.bx (bif neg then .not (.var s.nb) else .var s.nb),kl s)
  | _=>none)
 | none=>none
def zL (g:G) (s:S) (op:BinOp) (t:TypeId) (x y:AV):kF:=
 match op,x,y with
 | .shl,.int k a,.int _ b=>iQ s .shl k a b
 | .shr,.int k a,.int _ b=>iQ s .shr k a b
 | op,.int k a,.int k' b=>bif de k k' then wm s op k a b else none
 | .eql,.agg xs,.agg ys=>je g 100 t (.agg xs) (.agg ys) s
 | .neq,.agg xs,.agg ys=>(match je g 100 t (.agg xs) (.agg ys) s with | some (p,.bool b,s)=>some (p,.bool (!b),s) | some (p,.bx c,s)=>some (p,qY (.bx c),s) | _=>none)
 | .eql,.sl a _ _ _,.nils=>wq g s t a false
 | .neq,.sl a _ _ _,.nils=>wq g s t a true
 | op,x,y=>bif iZ x&&iZ y then zU s op x y else B3 g s op t x y
def mt (a:Nat) (off:IE):Nat->Nat->List AV
 | 0,_=>[]
 | n+1,i => .cl a (lh off i)::mt a off n (Nat.succ i)
def zR (g:G) (s:S) (t:TypeId) (x:AV):kF:=
 match g.ty.get t with
 | none=>none
 | some ti=>
  match ti.desc,x with
  | .slice _,.sl _ _ n _=>some ([],.int .i64 n,s)
  | .string,.sv i=>some ([.d (.slen (.sv i))],.int .i64 (.var (nI s)),aK s 0 9223372036854775807)
  | _,_=>none
def zM (g:G) (s:S) (t:TypeId) (x:AV):kF:=
 match g.ty.get t with
 | none=>none
 | some ti=>
  match ti.desc,x with
  | .slice _,.sl _ _ _ c=>some ([],.int .i64 c,s)
  | _,_=>none
def tW (mx : Bool) : AV -> List AV -> S -> kF
 | x,[],s=>some ([],x,s)
 | .int k a, .int k' b :: r, s =>
  bif de k k' then
   match CJ s.know a b with
   | some t=>tW mx (.int k (bif mx then (bif t then b else a) else (bif t then a else b))) r s
   | none=>
    match tW mx (.int k (.var (nI s))) r (aK s k.min k.max) with
    | some (p,v,s)=>some (.d (.mm mx k a b)::p,v,s)
    | none=>none
  else none
 | _,_,_=>none
def KD:AV->Option (IntKind×IE)
 | .int k e=>some (k,e)
 | _=>none
def iq (a:A) (s:S) (o:Option Operand) (dflt:IE):Option IE:=
 match o with
 | none=>some dflt
 | some x=>match ei a s x with | some (.int _ e)=>some e | _=>none
def dv:IE->Bool
 | .lit n=>Er n 0
 | _=>false
def tY (g : G) (a : A) (s : S) (t : TypeId) (x : AV) (lo hi : Option Operand) : kF :=
 match g.ty.get t with
 | none=>none
 | some ti =>
  match ti.desc,x with
  | .slice e, .sl b off len cap =>
   (match iq a s lo (.lit 0), iq a s hi len, g.ty.get e with
    | some i,some j,some te=>
     bif dv i then some (dG s (.lit 0) j++(dG s j cap++[.d (.nat j)]),.sl b off (.var (nI s)) cap,aK s 0 9223372036854775807)
     else some (dG s (.lit 0) i++(dG s i j++(dG s j cap++[.d (.cut off cap i te.size),.d (.nat (we j i)),.d (.nat (we cap i))])),.sl b (.var (nI s)) (.var (Nat.succ (nI s))) (.var (Nat.succ (Nat.succ (nI s)))),aK (aK (aK s 0 9223372036854775807) 0 9223372036854775807) 0 9223372036854775807)
    | _,_,_=>none)
  | .string, x => bif iZ x then
    (match iq a s lo (.lit 0), hi with
     | some i,some _=>(match iq a s hi (.lit 0) with
      | some j=>some ([.d (.ssub x i j)],.sv s.ns,li s)
      | none=>none)
     | some i,none=>some ([.d (.slen x),.d (.ssub x i (.var (nI s)))],.sv s.ns,li (aK s 0 9223372036854775807))
     | _,_=>none) else none
  | _,_=>none
def kY (g:G) (s:S) (t:TypeId) (x i:AV):kF:=
 match g.ty.get t,x,i with
 | some ti, .sl b off len _, .int _ e => (match ti.desc with
  | .slice et=>(match g.ty.get et with
   | some te=>some (dG s (.lit 0) e++(yN s e len++[.d (.nn b)]),.pt b (eA off (EP e (.lit (Int.ofNat te.size)))),s)
   | none=>none)
  | _=>none)
 | _,_,_=>none
def tV (s:S) (x i:AV):kF:=
 match i with
 | .int _ e=>bif iZ x then some ([.d (.sidx x e)],.int .u8 (.var (nI s)),aK s 0 255) else none
 | _=>none
abbrev HX:=Nat×Option Nat×IE
def u6 (r:Nat) (off:IE):Nat->Nat->List AV
 | 0,_=>[]
 | n+1,i => .rc r (lh off i)::u6 r off n (Nat.succ i)
def BV (a r:Nat) (off:IE):Nat->Nat->List HX
 | 0,_=>[]
 | n+1,i=>(a,some r,lh off i)::BV a r off n (Nat.succ i)
def wn (g:G) (s:S) (t:TypeId) (x:AV):Option (List aX×AV×S×List HX):=
 match g.ty.get t,x with
 | some ti, .pt b off =>
  match bB s.own b with
  | some o=>
   bif o.m then none else
   bif fa ti.desc then some ([.d (.rhas o.r off ti.size)],.agg (u6 o.r off ti.size 0),s,BV b o.r off ti.size 0)
   else some ([.d (.rhas o.r off 1)],.rc o.r off,s,[(b,some o.r,off)])
  | none=>
  bif fa ti.desc then some ([.d (.has b off ti.size)],.agg (mt b off ti.size 0),s,(mt b off ti.size 0).filterMap fun | .cl a o=>some (a,none,o) | _=>none)
  else some ([.d (.has b off 1)],.cl b off,s,[(b,none,off)])
 | _,_=>none
def lY:kF->Option (List aX×AV×S×List HX)
 | some (p,v,s)=>some (p,v,s,[])
 | none=>none
def B4 (g:G) (a:A) (s:S) (c:Call):kF:=
 match c.callee,c.argTypes.toList,Fz a s c.args.toList with
 | .builtin .len,t::_,some (x::_)=>zR g s t x
 | .builtin .cap,t::_,some (x::_)=>zM g s t x
 | .builtin .max,_,some (x::r)=>tW true x r s
 | .builtin .min,_,some (x::r)=>tW false x r s
 | _,_,_=>none
def Fm (g : G) (a : A) (s : S) (o : Oper) : Option (List aX × AV × S × List HX) :=
 match o.op with
 | .binOp op t x y _=>(match ei a s x,ei a s y with
  | some x,some y=>lY (zL g s op t x y)
  | _,_=>none)
 | .unOp .not _ x=>(match ei a s x with
  | some (.bx c)=>some ([],qY (.bx c),s,[])
  | _=>none)
 | .unOp .neg _ x=>(match ei a s x with
  | some (.int k e)=>lY (wm s .sub k (.lit 0) e)
  | _=>none)
 | .convert t u x => (match ei a s x, g.ty.get u, g.ty.get t with
  | some (.int _ e),some tu,some _=>(match tu.desc with
   | .int k=>some ([.d (.wrap k e)],.int k (.var (nI s)),aK s k.min k.max,[])
   | _=>none)
  | _,_,_=>none)
 | .pick c x y=>(match ei a s c,ei a s x,ei a s y with
  | some (.bx c),some (.int k p),some (.int k' q)=>bif de k k' then some ([.d (.pick k c p q)],.int k (.var (nI s)),aK s k.min k.max,[]) else none
  | _,_,_=>none)
 | .slice t x lo (some hi) (some mx) => (match ei a s x, iq a s lo (.lit 0), iq a s (some hi) (.lit 0), iq a s (some mx) (.lit 0), g.ty.get t with
  | some (.sl b off _ cap), some i, some (.lit h), some (.lit m), some ti => (match ti.desc with
   | .slice e=>(match g.ty.get e with
    | some _=>bif dv i&&lf 0 h&&lf h m&&lf m 9223372036854775807 then some (dG s (.lit m) cap,.sl b off (.lit h) (.lit m),s,[]) else none
    | none=>none)
   | _=>none)
  | _,_,_,_,_=>none)
 | .slice t x lo hi none=>(match ei a s x with
  | some x=>lY (tY g a s t x lo hi)
  | none=>none)
 | .indexAddr t x i=>(match ei a s x,ei a s i with
  | some x,some i=>lY (kY g s t x i)
  | _,_=>none)
 | .index t x i => (match ei a s x, ei a s i with
  | some x,some i=>(match g.ty.get t with
   | some ti=>(match ti.desc with | .string=>lY (tV s x i) | _=>none)
   | none=>none)
  | _,_=>none)
 | .load t x=>(match ei a s x with
  | some x=>wn g s t x
  | none=>none)
 | .call c=>lY (B4 g a s c)
 | _=>none
def HP (s:S) (v:AV):AV:=bif fb v then (match iC s.memo v with | some u=>u | none=>v) else v
def jB (s:S):List AV->List AV
 | []=>[]
 | v::l=>HP s v::jB s l
def mg (s:S):AV->AV
 | .agg l => .agg (jB s l)
 | v=>HP s v
def wG (rec:TypeId->Option (List TypeId)):List Field->Option (List TypeId)
 | []=>some []
 | f::fs=>(match rec f.type,wG rec fs with | some a,some b=>some (a++b) | _,_=>none)
def vw (g:G):Nat->TypeId->Option (List TypeId)
 | 0,_=>none
 | d + 1, t => (match g.ty.get t with
  | some ti=>(match ti.desc with
   | .struct fields=>wG (vw g d) fields.toList
   | .array n e=>(match vw g d e with | some l=>some (cP n l) | none=>none)
   | _=>some [t])
  | none=>none)
def Jn:List TypeId->List AV->List (TypeId×AV)
 | t::ts,v::vs=>(t,v)::Jn ts vs
 | _,_=>[]
def mj (g:G) (t:TypeId) (l:List AV):List (TypeId×AV):=match vw g 20 t with | some ts=>Jn ts l | none=>[]
def gW (g:G):List (TypeId×AV)->S->List aX×S
 | [],s=>([],s)
 | (t,v)::l,s=>(match qI g t v s with
  | some (p,_,s1)=>(match gW g l s1 with | (q,s2)=>(p++q,s2))
  | none=>gW g l s)
def Bu (g : G) (a : A) (s : S) (o : Oper) : List (TypeId × AV) :=
 match o.op with
 | .store t _ y=>(match ei a s y with | some y=>mj g t y.cells | none=>[])
 | .mapUpdate t _ k x=>(match g.ty.get t,ei a s k,ei a s x with | some ti,some k,some x=>(match ti.desc with | .map kt et=>mj g kt k.cells++mj g et x.cells | _=>[]) | _,_,_=>[])
 | .insert t _ k x=>(match g.ty.get t,ei a s k,ei a s x with | some ti,some k,some x=>(match ti.desc with | .map kt et=>mj g kt k.cells++mj g et x.cells | _=>[]) | _,_,_=>[])
 | .lookup t _ k _=>(match g.ty.get t,ei a s k with | some ti,some k=>(match ti.desc with | .map kt _=>mj g kt k.cells | _=>[]) | _,_=>[])
 | .call c => (match c.callee, c.argTypes.toList, Fz a s c.args.toList with
  | .builtin .delete,t::_,some [_,k]=>(match g.ty.get t with | some ti=>(match ti.desc with | .map kt _=>mj g kt k.cells | _=>[]) | none=>[])
  | .builtin .append, [t, _], some [.sl _ _ _ _, y] => (match g.ty.get t with
   | some ti => (match ti.desc with
    | .slice e=>(match g.ty.get e with
     | some te=>(match gt s te.size y with | some (1,l)=>mj g e l | _=>[])
     | none=>[])
    | _=>[])
   | none=>[])
  | _,_,_=>[])
 | _=>[]
def pg (g:G) (s:S) (t:TypeId) (x y:AV):kF:=
 match g.ty.get t,x with
 | some ti, .pt b off =>
  (match bB s.own b with
   | some o=>bif !o.m&&Nat.beq (bF y.cells) ti.size&&bQ y.cells then some ([.d (.rset o.r off (jB s y.cells))],gx,{ aY s with own:={ o with r:=s.nr }::bc s.own b }) else none
   | none=>none)
 | _,_=>none
def rL (g : G) (s : S) (t : TypeId) (l c : AV) : kF :=
 match g.ty.get t,l,c with
 | some ti, .int _ e, .int _ e' =>
  (match ti.desc with
   | .slice et => (match g.ty.get et with
    | some te => (match te.zero with
     | some z =>
      bif e.eqb e'&&Nat.beq (bF z.cells) te.size && !Nat.beq te.size 0&&Nat.ble te.bytes 1000000&&bQ z.cells then
       some ([.d (.mk e z.cells)],.sl s.nv (.lit 0) e e,{ aY (bu s) with own:={ a:=s.nv,r:=s.nr,e:=et,len:=e,cap:=e }::s.own })
      else none
     | none=>none)
    | none=>none)
   | _=>none)
 | _,_,_=>none
def fJ:TypeDesc->Bool
 | .int _=>false
 | _=>true
def wg (g : G) (s : S) (t u : TypeId) (x y : AV) : kF :=
 match g.ty.get t,g.ty.get u,x with
 | some ti, some tu, .sl b off n c =>
  (match ti.desc, bB s.own b with
   | .slice e, some o => (match g.ty.get e with
    | some te => (match gt s te.size y with
     | some (k, new) =>
      bif !o.m&&fJ tu.desc&&dv off&&o.len.eqb n&&o.cap.eqb c&&Nat.beq o.e e && !Nat.beq k 0 && !Nat.beq te.size 0 && !Nat.beq te.bytes 0&&bQ new&&z8 te then
       some ([.d (.rapp o.r n k te.bytes (jB s new))],.sl s.nv (.lit 0) (eA n (.lit (Int.ofNat k))) (.var (nI s)),
        { aY (aK (bu s) 0 9223372036854775807) with own:={ a:=s.nv,r:=s.nr,e:=e,len:=eA n (.lit (Int.ofNat k)),cap := .var (nI s) }::bc s.own b })
      else none
     | none=>none)
    | none=>none)
   | _,_=>none)
 | _,_,_=>none
def wp (g : G) (s : S) (t u : TypeId) (x y : AV) : kF :=
 match g.ty.get t,g.ty.get u,x,y with
 | some ti, some tu, .slice _ _ 0 (some 0) _, .sl b2 off2 n2 _ =>
  (match ti.desc with
   | .slice e => (match g.ty.get e with
    | some te =>
     bif fJ tu.desc && !Nat.beq te.size 0 && !Nat.beq te.bytes 0 && z8 te then
      (match bB s.own b2 with
       | some o =>
        bif !o.m&&dv off2&&o.len.eqb n2&&Nat.beq o.e e then
         some (dG s (.lit 1) n2++[.d (.mrow b2 off2 (.lit 0) te.size),.d (.grow s.nr o.r n2 te.bytes)],.sl s.nv (.lit 0) n2 (.var (nI s)),
          { aY (aY (aK (bu s) 0 9223372036854775807)) with own:={ a:=s.nv,r:=Nat.succ s.nr,e:=e,len:=n2,cap := .var (nI s) }::s.own })
        else none
       | none =>
        some (dG s (.lit 1) n2++[.d (.mrow b2 off2 (.lit 0) te.size),.d (.mrow b2 off2 n2 te.size),.d (.grow s.nr (Nat.succ s.nr) n2 te.bytes)],.sl s.nv (.lit 0) n2 (.var (nI s)),
         { aY (aY (aY (aK (bu s) 0 9223372036854775807))) with own:={ a:=s.nv,r:=Nat.succ (Nat.succ s.nr),e:=e,len:=n2,cap := .var (nI s) }::s.own }))
     else none
    | none=>none)
   | _=>none)
 | _,_,_,_=>none
def rH (g : G) (s : S) (t u : TypeId) (x y : AV) : kF :=
 match g.ty.get t,g.ty.get u,x,y with
 | some ti, some tu, .sl b off n c, .sl b2 off2 n2 _ =>
  (match ti.desc, bB s.own b with
   | .slice e, some o => (match g.ty.get e with
    | some te =>
     bif !o.m && fJ tu.desc && dv off && o.cap.eqb c && Nat.beq o.e e && !Nat.beq te.size 0 && !Nat.beq te.bytes 0 && z8 te then
      (match bB s.own b2 with
       | some o2 =>
        bif !o2.m&&dv off2&&o2.len.eqb n2&&Nat.beq o2.e e then
         some ([.d (.rtk o.r n te.size),.d (.grow s.nr o2.r (eA n n2) te.bytes)],.sl s.nv (.lit 0) (eA n n2) (.var (nI s)),
          { aY (aY (aK (bu s) 0 9223372036854775807)) with own:={ a:=s.nv,r:=Nat.succ s.nr,e:=e,len:=eA n n2,cap := .var (nI s) }::bc s.own b })
        else none
       | none =>
        some ([.d (.rtk o.r n te.size),.d (.mrow b2 off2 n2 te.size),.d (.grow s.nr (Nat.succ s.nr) (eA n n2) te.bytes)],.sl s.nv (.lit 0) (eA n n2) (.var (nI s)),
         { aY (aY (aY (aK (bu s) 0 9223372036854775807))) with own:={ a:=s.nv,r:=Nat.succ (Nat.succ s.nr),e:=e,len:=eA n n2,cap := .var (nI s) }::bc s.own b }))
     else none
    | none=>none)
   | _,_=>none)
 | _,_,_,_=>none
def rG (g : G) (s : S) (t u : TypeId) (x y : AV) : kF :=
 match g.ty.get t,g.ty.get u,x,y with
 | some ti, some tu, .nils, .sl b2 off2 n2 _ =>
  (match ti.desc with
   | .slice e => (match g.ty.get e with
    | some te =>
     bif fJ tu.desc && !Nat.beq te.size 0 && !Nat.beq te.bytes 0 && z8 te then
      (match bB s.own b2 with
       | some o =>
        bif !o.m&&dv off2&&o.len.eqb n2&&Nat.beq o.e e then
         some ([.d (.mrow b2 off2 (.lit 0) te.size),.d (.grow s.nr o.r n2 te.bytes)],.sl s.nv (.lit 0) n2 (.var (nI s)),
          { aY (aY (aK (bu s) 0 9223372036854775807)) with own:={ a:=s.nv,r:=Nat.succ s.nr,e:=e,len:=n2,cap := .var (nI s) }::s.own })
        else none
       | none =>
        some ([.d (.mrow b2 off2 (.lit 0) te.size),.d (.mrow b2 off2 n2 te.size),.d (.grow s.nr (Nat.succ s.nr) n2 te.bytes)],.sl s.nv (.lit 0) n2 (.var (nI s)),
         { aY (aY (aY (aK (bu s) 0 9223372036854775807))) with own:={ a:=s.nv,r:=Nat.succ (Nat.succ s.nr),e:=e,len:=n2,cap := .var (nI s) }::s.own }))
     else none
    | none=>none)
   | _=>none)
 | _,_,_,_=>none
def rI (g : G) (s : S) (t u : TypeId) (x y : AV) : kF :=
 match g.ty.get t,g.ty.get u,x,y with
 | some ti, some tu, .nils, .int .i64 e =>
  (match ti.desc with
   | .slice et => (match g.ty.get et with
    | some te => (match te.zero with
     | some z =>
      bif !fJ tu.desc&&Nat.beq (bF z.cells) te.size && !Nat.beq te.size 0 && !Nat.beq te.bytes 0&&Nat.ble te.bytes 1000000&&bQ z.cells&&z8 te then
       some ([.d (.zrow (.lit 0) z.cells),.d (.zrow e z.cells),.d (.grow s.nr (Nat.succ s.nr) e te.bytes)],.sl s.nv (.lit 0) e (.var (nI s)),
        { aY (aY (aY (aK (bu s) 0 9223372036854775807))) with own:={ a:=s.nv,r:=Nat.succ (Nat.succ s.nr),e:=et,len:=e,cap := .var (nI s) }::s.own })
      else none
     | none=>none)
    | none=>none)
   | _=>none)
 | _,_,_,_=>none
def rF (g : G) (s : S) (t u : TypeId) (x y : AV) : kF :=
 match g.ty.get t,g.ty.get u,x with
 | some ti, some tu, .sl b off n c =>
  (match ti.desc, bB s.own b with
   | .slice e, some o => (match g.ty.get e with
    | some te=>(match gt s te.size y with
     | some (k,new)=>bif !o.m&&fJ tu.desc&&dv off&&o.len.eqb n&&o.cap.eqb c&&Nat.beq k 0 then some ([],.sl b off n c,s) else none
     | none=>none)
    | none=>none)
   | _,_=>none)
 | _,_,_=>none
def lV (s:S) (a b:IE):List aX:=bif a.eqb b then [] else [.need (.eq a b)]
def rK (g : G) (s : S) (t u : TypeId) (x y : AV) : kF :=
 match g.ty.get t,g.ty.get u,x with
 | some ti, some tu, .sl b off n c =>
  (match ti.desc with
   | .slice e => (match g.ty.get e with
    | some te =>
     bif fJ tu.desc && !Nat.beq te.size 0 && !Nat.beq te.bytes 0 && z8 te && (dv n || (match bB s.own b with | none => true | some _ => false)) then
      match y with
      | .sl b2 off2 n2 _ =>
       let tot:=eA n n2
       (match bB s.own b2 with
        | some o =>
         bif !o.m&&dv off2&&o.len.eqb n2&&Nat.beq o.e e then
          some (lV s n c++[.d (.mrow b off n te.size),.d (.zn b n2),.d (.grow s.nr o.r tot te.bytes)],.sl s.nv (.lit 0) tot (.var (nI s)),
           { aY (aY (aK (bu s) 0 9223372036854775807)) with own:={ a:=s.nv,r:=Nat.succ s.nr,e:=e,len:=tot,cap := .var (nI s) }::s.own })
         else none
        | none =>
         some (lV s n c++[.d (.mrow b off n te.size),.d (.zn b n2),.d (.mrow b2 off2 n2 te.size),.d (.grow s.nr (Nat.succ s.nr) tot te.bytes)],.sl s.nv (.lit 0) tot (.var (nI s)),
          { aY (aY (aY (aK (bu s) 0 9223372036854775807))) with own:={ a:=s.nv,r:=Nat.succ (Nat.succ s.nr),e:=e,len:=tot,cap := .var (nI s) }::s.own }))
      | y => (match gt s te.size y with
       | some (k, new) =>
        bif !Nat.beq k 0&&bQ new then
         let tot:=eA n (.lit (Int.ofNat k))
         some (lV s n c++[.d (.mrow b off n te.size),.d (.growk s.nr (jB s new) tot te.bytes)],.sl s.nv (.lit 0) tot (.var (nI s)),
          { aY (aY (aK (bu s) 0 9223372036854775807)) with own:={ a:=s.nv,r:=Nat.succ s.nr,e:=e,len:=tot,cap := .var (nI s) }::s.own })
        else none
       | none=>none)
     else none
    | none=>none)
   | _=>none)
 | _,_,_=>none
def JG:TypeDesc->AV->Bool
 | .int _,.int _ _=>true
 | .string,.str _=>true
 | .string,.sv _=>true
 | _,_=>false
def gj:AV->Bool
 | .agg _=>true
 | _=>false
def oK (rec:TypeId->Option (List IntKind)) (g:G):List Field->Nat->Option (List IntKind)
 | [],_=>some []
 | f :: fs, o =>
  bif f.name=="_" then none else
  bif Nat.beq f.offset o then
   match rec f.type,g.ty.get f.type with
   | some l,some ti=>bif Nat.beq ti.size (bF l) then (match oK rec g fs (Nat.add o (bF l)) with | some r=>some (l++r) | none=>none) else none
   | _,_=>none
  else none
def iB (g:G):Nat->TypeId->Option (List IntKind)
 | 0,_=>none
 | d + 1, t =>
  match g.ty.get t with
  | some ti=>(match ti.desc with
   | .int k=>some [k]
   | .struct fields=>bif kS g.eqs t then oK (iB g d) g fields.toList 0 else none
   | _=>none)
  | none=>none
def Bd:List IntKind->List AV->Bool
 | [],[]=>true
 | k::ks,.int k' _::vs=>de k k'&&Bd ks vs
 | _,_=>false
def wZ (g:G) (kt:TypeId) (d:TypeDesc) (k:AV):Bool:=
 match d,k with
 | .struct _,.agg l=>db g 100 kt (.agg l)&&(match iB g 100 kt with | some ks=>Bd ks l | none=>false)
 | d,k=>JG d k
def wl (g : G) (s : S) (t : TypeId) (m k : AV) (ok : Bool) : kF :=
 match g.ty.get t,m with
 | some ti, .opq a =>
  (match ti.desc, bB s.own a with
   | .map kt et, some o => (match g.ty.get kt, g.ty.get et with
    | some tk, some te => (match te.zero with
     | some z =>
      bif o.m&&wZ g kt tk.desc (mg s k)&&Nat.beq (bF z.cells) te.size&&(gj z||Nat.beq te.size 1) then
       let v:AV:=bif gj z then .agg (u6 s.nr (.lit 0) te.size 0) else .rc s.nr (.lit 0)
       some ([.d (.mget (gj z) o.r (mg s k) z.cells)],(bif ok then .tup [v,.bx (.var s.nb)] else v),aY (kl s))
      else none
     | none=>none)
    | _,_=>none)
   | _,_=>none)
 | _,_=>none
def qq (g : G) (s : S) (t : TypeId) (m k v : AV) : kF :=
 match g.ty.get t,m with
 | some ti, .opq a =>
  (match ti.desc, bB s.own a with
   | .map kt _,some o=>(match g.ty.get kt with
    | some tk=>bif o.m&&wZ g kt tk.desc (mg s k) then some ([.d (.mset o.r (mg s k) (mg s v))],gx,{ aY s with own:={ o with r:=s.nr }::bc s.own a }) else none
    | none=>none)
   | _,_=>none)
 | _,_=>none
def wi (g : G) (s : S) (t : TypeId) (m k : AV) : kF :=
 match g.ty.get t,m with
 | some ti, .opq a =>
  (match ti.desc, bB s.own a with
   | .map kt _,some o=>(match g.ty.get kt with
    | some tk=>bif o.m&&wZ g kt tk.desc (mg s k) then some ([.d (.mdel o.r (mg s k))],.tup [],{ aY s with own:={ o with r:=s.nr }::bc s.own a }) else none
    | none=>none)
   | _,_=>none)
 | _,_=>none
def tX (g:G) (s:S) (o:Oper):kF:=
 match o.op with
 | .makeMap t none=>bif kS g.smaps t then some ([.d .mnew],.opq s.nv,{ aY (bu s) with own:={ a:=s.nv,r:=s.nr,e:=t,len := .lit 0,cap := .lit 0,m:=true }::s.own }) else none
 | _=>none
def rJ (g : G) (s : S) (t u : TypeId) (x : AV) : kF :=
 match g.ty.get t,g.ty.get u with
 | some ti, some tu =>
  (match tu.desc, x with
   | .slice e, .sv i => (match g.ty.get e with
    | some te=>(match te.desc with
     | .int .u8=>bif Nat.beq te.size 1 then some ([.d (.sbytes (.sv i))],.sl s.nv (.lit 0) (.var (nI s)) (.var (Nat.succ (nI s))),{ aY (aK (aK (bu s) 0 9223372036854775807) 0 9223372036854775807) with own:={ a:=s.nv,r:=s.nr,e:=e,len := .var (nI s),cap := .var (Nat.succ (nI s)) }::s.own }) else none
     | _=>none)
    | none=>none)
   | .string, .slice id off len _ _ => (match ti.desc with
    | .slice e=>(match g.ty.get e,j9 s id off len with
     | some te,some l=>(match te.desc with | .int .u8=>some ([.d (.bstr (jB s l))],.sv s.ns,li s) | _=>none)
     | _,_=>none)
    | _=>none)
   | _,_=>none)
 | _,_=>none
def pc (g:G) (a:A) (s:S) (o:Oper):kF:=
 match o.op with
 | .lookup t m k ok=>(match ei a s m,ei a s k with | some m,some k=>wl g s t m k ok | _,_=>none)
 | .mapUpdate t m k x=>(match ei a s m,ei a s k,ei a s x with | some m,some k,some x=>qq g s t m k x | _,_,_=>none)
 | .insert t m k x=>(match ei a s m,ei a s k,ei a s x with | some m,some k,some x=>qq g s t m k x | _,_,_=>none)
 | .store t x y=>(match ei a s x,ei a s y with | some x,some y=>pg g s t x y | _,_=>none)
 | .makeSlice t l c=>(match ei a s l,ei a s c with | some l,some c=>rL g s t l c | _,_=>none)
 | .convert t u x=>(match ei a s x with | some x=>rJ g s t u x | none=>none)
 | .call c=>(match c.callee,c.argTypes.toList,Fz a s c.args.toList with
  | .builtin .append,[t,u],some [x,y]=>(match wg g s t u x y with | some r=>some r | none=>match rK g s t u x y with | some r=>some r | none=>match wp g s t u x y with | some r=>some r | none=>match rH g s t u x y with | some r=>some r | none=>match rG g s t u x y with | some r=>some r | none=>match rI g s t u x y with | some r=>some r | none=>rF g s t u x y)
  | .builtin .delete,t::_,some [m,k]=>wi g s t m k
  | _,_,_=>none)
 | _=>none
def Fq (g:G) (a:A) (s:S) (o:Oper):kF:=
 match pc g a s o with
 | none=>none
 | some _ =>
  match gW g (Bu g a s o) s with
  | (p,s1)=>(match pc g a s1 o with
   | some (q,v,s2)=>some (p++q,v,s2)
   | none=>none)
def um:List AV->List cL->List aX×List cL
 | [],ow=>([],ow)
 | .sl a _ _ _::l,ow=>(match bB ow a with
  | some o=>bif o.m then um l ow else (match um l (bc ow a) with | (p,ow')=>(.d (.frz a o.r)::p,ow'))
  | none=>um l ow)
 | _::l,ow=>um l ow
def E8 (s:S) (off len c:Nat):AV := .sl s.nv (.lit (Int.ofNat off)) (.lit (Int.ofNat len)) (.lit (Int.ofNat c))
def E9 (s:S) (off len:Nat):AV := .sl s.nv (.lit (Int.ofNat off)) (.lit (Int.ofNat len)) (.var (nI s))
def Hy (g : G) (v : AV) (s : S) : List aX × AV × S :=
 match v with
 | .slice id off len (some c) k =>
  match iC s.memo (.slice id off len (some c) k) with
  | some u=>([],u,s)
  | none=>
   match s.heap.get id with
   | some (.cells l _)=>bif Nat.blt id eY then ([.d (.pub l)],E8 s off len c,cK (bu { s with heap:=Tr.set 64 s.heap id (.ro l) }) (.slice id off len (some c) k) (E8 s off len c)) else ([],v,s)
   | _=>([],v,s)
 | .slice id off len none k =>
  match iC s.memo (.slice id off len none k) with
  | some u=>([],u,s)
  | none =>
   match s.heap.get id with
   | some (.row l e)=>(match g.ty.get e with
    | some te=>bif Nat.blt id eY&&(Nat.blt 1 te.size&&Nat.beq k 0) then ([.d (.pubc l)],E9 s off len,cK (aK (bu { s with heap:=Tr.set 64 s.heap id (.ro l) }) 0 9223372036854775807) (.slice id off len none k) (E9 s off len)) else ([],v,s)
    | none=>([],v,s))
   | _=>([],v,s)
 | v=>([],v,s)
def qi (g:G):List AV->S->List aX×List AV×S
 | [],s=>([],[],s)
 | v :: l, s => match Hy g v s with
  | (p,u,s1)=>match qi g l s1 with
   | (q,us,s2)=>(p++q,u::us,s2)
def Fo (g : G) (s : S) (ins : Bool) (e : TypeId) (args : List AV) : kF :=
 match args with
 | [.sl b off n c, .int .i64 i, y] =>
  (match bB s.own b, g.ty.get e with
   | some o, some te =>
    bif !o.m && dv off && o.len.eqb n && o.cap.eqb c && Nat.beq o.e e && !Nat.beq te.size 0 && !Nat.beq te.bytes 0 then
     (match ins, y with
      | true, .slice id off2 1 c2 k2 =>
       (match s.heap.get id, j9 s id off2 te.size with
        | some (.cells _ _), some new =>
         bif bQ new then
          some (dG s (.lit 1) n++[.d (.rtk o.r i te.size),.d (.rdrp o.r i te.size (jB s new)),.d (.grow s.nr (Nat.succ s.nr) (eA n (.lit 1)) te.bytes)],.sl s.nv (.lit 0) (eA n (.lit 1)) (.var (nI s)),
           { aY (aY (aY (aK (bu s) 0 9223372036854775807))) with own:={ a:=s.nv,r:=Nat.succ (Nat.succ s.nr),e:=e,len:=eA n (.lit 1),cap := .var (nI s) }::bc s.own b })
         else none
        | _,_=>none)
      | false, .int .i64 j =>
       some (lV s j (eA i (.lit 1))++(dG s (.lit 1) n++([.d (.nat (eA n (.lit (-1))))]++[.d (.rtk o.r i te.size),.d (.rdrp o.r j te.size []),.d (.grow s.nr (Nat.succ s.nr) (.var (nI s)) te.bytes)])),.sl s.nv (.lit 0) (.var (nI s)) (.var (nI (aK s 0 9223372036854775807))),
        { aY (aY (aY (aK (bu (aK s 0 9223372036854775807)) 0 9223372036854775807))) with own:={ a:=s.nv,r:=Nat.succ (Nat.succ s.nr),e:=e,len := .var (nI s),cap := .var (nI (aK s 0 9223372036854775807)) }::bc s.own b })
      | _,_=>none)
    else none
   | _,_=>none)
 | _=>none
def rg (g:G) (s:S) (ins:Bool) (e:TypeId) (args:List AV):List (TypeId×AV):=
 match ins,args with
 | true,[_,_,.slice id off _ _ _]=>(match g.ty.get e with
  | some te=>(match j9 s id off te.size with | some l=>mj g e l | none=>[])
  | none=>[])
 | _,_=>[]
def zO (g:G) (s:S) (ins:Bool) (e:TypeId) (args:List AV):kF:=
 match gW g (rg g s ins e args) s with
 | (p,s1)=>(match Fo g s1 ins e args with
  | some (q,v,s2)=>some (p++q,v,s2)
  | none=>none)
def sH (l:List AV) (s:S):List aX×S:=match um l s.own with | (p,ow)=>(p,{ s with own:=ow })
end
section
open Go.RowKit
theorem BE.T_iff {σ:List Int} {β:List Bool}:∀(c:BE) (v t:Bool),c.val σ β=some v->(c.T σ β t↔v=t):=by
 intro c
 induction c with
 | var i=>intro v t h;simp only [BE.val] at h;simp only [BE.T,h]
 | le a b =>
  intro v t h;simp only [BE.val] at h
  split at h
  ·rename_i x y hx hy;cases h;simp only [BE.T,hx,hy]
   cases t<;>simp
  ·cases h
 | eq a b =>
  intro v t h;simp only [BE.val] at h
  split at h
  ·rename_i x y hx hy;cases h;simp only [BE.T,hx,hy]
   cases t<;>simp
  ·cases h
 | not c ih=>
  intro v t h;simp only [BE.val] at h
  split at h
  ·rename_i x hx;cases h;simp only [BE.T,ih x (!t) hx];cases x<;>cases t<;>simp
  ·cases h
 | and c d ih1 ih2 =>
  intro v t h;simp only [BE.val] at h
  split at h
  ·rename_i x y hx hy;cases h
   cases t
   ·simp only [BE.T,cond_false,ih1 x true hx,ih2 y false hy];cases x<;>cases y<;>simp
   ·simp only [BE.T,cond_true,ih1 x true hx,ih2 y true hy];cases x<;>cases y<;>simp
  ·cases h
def az.at (V:az) (pe:PE):az:={ V with toPE:=pe }
@[simp] theorem az.at_toPE (V:az) (pe:PE):(V.at pe).toPE=pe:=rfl
@[simp] theorem az.at_self (V:az):V.at V.toPE=V:=rfl
@[simp] theorem az.at_at (V:az) (pe pe':PE):(V.at pe).at pe'=V.at pe':=rfl
@[simp] theorem az.at_E (V:az) (pe:PE):(V.at pe).E=V.E:=rfl
@[simp] theorem az.at_L (V:az) (pe:PE):(V.at pe).L=V.L:=rfl
theorem aD {V:az} {pe:PE} (h:dr V.toPE pe):eU V (V.at pe):=⟨h,fun _ _ e=>e,fun _ _ e=>e⟩
theorem qR (pe:PE) (x:Int):dr pe (bm pe x):=⟨Up.app _ _,Up.refl _,Up.refl _,Up.refl _,Up.refl _,fun _ _ h=>h,rfl⟩
theorem HQ (pe:PE) (x:Bool):dr pe (nm pe x):=⟨Up.refl _,Up.app _ _,Up.refl _,Up.refl _,Up.refl _,fun _ _ h=>h,rfl⟩
theorem HR (pe:PE) (x:List UInt8):dr pe (iz pe x):=⟨Up.refl _,Up.refl _,Up.app _ _,Up.refl _,Up.refl _,fun _ _ h=>h,rfl⟩
theorem z5 (pe:PE) (x:Value):dr pe (be pe x):=⟨Up.refl _,Up.refl _,Up.refl _,Up.app _ _,Up.refl _,fun _ _ h=>h,rfl⟩
theorem kx (pe:PE) (x:List Value):dr pe (aL pe x):=⟨Up.refl _,Up.refl _,Up.refl _,Up.refl _,Up.app _ _,fun _ _ h=>h,rfl⟩
section
variable {P:Program} {g:G} {V:az} {s s':S} {B w:World} {a:A} {A:Act}
theorem av.pe {pe:PE} (h:av P V s B w) (k:dr V.toPE pe) (hm:pe.mem=V.mem) (hh:s'.heap=s.heap) (hk:cx s'.know pe.σ)
  (hl:pe.β.length=s'.nb/\pe.ς.length=s'.ns/\pe.τ.length=s'.nv/\pe.ρ.length=s'.nr)
  (hmemo:∀c v,(c,v)∈s'.memo->∃x,c.conc (V.at pe)=some x/\v.conc (V.at pe)=some x) (ho:s'.own=s.own):av P (V.at pe) s' B w:=by
 have hx:=aD (V:=V) k
 refine ⟨hk,hl,hmemo,fun b o hb => ?_,fun b o hb => ?_,h.below,fun id b hb => ?_,fun id p hp=>by rw [hh];exact h.dom id p hp,fun id c hc=>by rw [hh];exact h.domL id c hc,fun id id' b b' p p' hb hb' => ?_,h.glob,?_⟩
 ·have:V.mem b=some o:=by rw [<-hm];exact hb
  rw [hh];exact h.mem b o this
 ·have:V.mem b=some o:=by rw [<-hm];exact hb
  rcases h.memB b o this with h1 | h1
  ·exact .inl (by show pe.mem0 b=some o;rw [k.mem0];exact h1)
  ·exact .inr h1
 ·rw [hh] at hb
  obtain ⟨p,h1,h2,h3,h4⟩:=h.blk id b hb
  exact ⟨p,h1,fL hx h2,h3,fun e=>(h4 e).imp (fun k=>k) fun ⟨ob,k'⟩=>⟨ob,by show pe.mem p.1=some ob;rw [hm];exact k'⟩⟩
 ·rw [hh] at hb hb';exact h.inj id id' b b' p p' hb hb'
 ·rw [ho,hh]
  exact h.own.keep k (fun b o _ hb hmb ha=>⟨by show pe.mem b=none;rw [hm];exact hmb,hb,ha⟩)
theorem js {pe:PE} (h:av P V s B w) (k:dr V.toPE pe):∀c v,(c,v)∈s.memo->∃x,c.conc (V.at pe)=some x/\v.conc (V.at pe)=some x:=fun c v hm=>by
 obtain ⟨x,h1,h2⟩:=h.memo c v hm
 exact ⟨x,aF (aD k) _ _ h1,aF (aD k) _ _ h2⟩
theorem GO {K:ew} {σ σ':List Int} (h:cx K σ) (k:Up σ σ') {r:List (Int×Int)} (hlen:K.rng.length+r.length=σ'.length) (hr:∀i q,aA r i=some q->∃z,aA σ' (K.rng.length+i)=some z/\q.1<=z/\z<=q.2) :
  cx { K with rng:=K.rng++r } σ':=by
 refine ⟨by simp [hlen],fun i q hq => ?_,fun a b t hm => ?_,fun a b t hm => ?_⟩
 ·simp only [cJ] at hq
  rcases Nat.lt_or_ge i K.rng.length with hi | hi
  ·rw [List.getElem?_append_left hi,<-cJ] at hq
   obtain ⟨z,h1,h2⟩:=h.rng i q hq
   exact ⟨z,k _ _ h1,h2⟩
  ·rw [List.getElem?_append_right hi,<-cJ] at hq
   obtain ⟨z,h1,h2⟩:=hr _ q hq
   rw [show K.rng.length+(i-K.rng.length)=i by omega] at h1
   exact ⟨z,h1,h2⟩
 ·obtain ⟨x,y,h1,h2,h3⟩:=h.le a b t hm
  exact ⟨x,y,IE.val_up k _ _ h1,IE.val_up k _ _ h2,h3⟩
 ·obtain ⟨x,y,h1,h2,h3⟩:=h.eq a b t hm
  exact ⟨x,y,IE.val_up k _ _ h1,IE.val_up k _ _ h2,h3⟩
theorem iM {α:Type} (l:List α) (x:α):aA (l++[x]) l.length=some x:=by rw [cJ];simp
theorem jh (h:av P V s B w) {x lo hi:Int} (h1:lo<=x) (h2:x<=hi):av P (V.at (bm V.toPE x)) (aK s lo hi) B w/\(IE.var (nI s)).val (bm V.toPE x).σ=some x:=by
 have hn:nI s=V.σ.length:=by unfold nI;rw [aO];exact h.know.len
 have hv:(IE.var (nI s)).val (bm V.toPE x).σ=some x:=by
  show aA (V.σ++[x]) (nI s)=some x
  rw [hn];exact iM _ _
 refine ⟨h.pe (qR _ x) rfl rfl ?_ h.lens (fun c v hm=>js h (qR _ x) c v hm) rfl,hv⟩
 refine GO h.know (Up.app _ _) (by simp [bm,h.know.len]) (fun i q hq => ?_)
 cases i with
 | zero=>simp [aA] at hq;subst hq;exact ⟨x,by rw [Nat.add_zero,h.know.len];exact iM _ _,h1,h2⟩
 | succ i=>simp [aA] at hq
theorem C4 (h:av P V s B w) (x:Bool):av P (V.at (nm V.toPE x)) (kl s) B w/\(BE.var s.nb).val (nm V.toPE x).σ (nm V.toPE x).β=some x:=by
 obtain ⟨l1,l2,l3,l4⟩:=h.lens
 refine ⟨h.pe (HQ _ x) rfl rfl h.know ⟨by simp [nm,kl,l1],l2,l3,l4⟩ (fun c v hm=>js h (HQ _ x) c v hm) rfl,?_⟩
 show aA (V.β++[x]) s.nb=some x
 rw [<-l1];exact iM _ _
theorem C5 (h:av P V s B w) (x:List UInt8):av P (V.at (iz V.toPE x)) (li s) B w/\aA (iz V.toPE x).ς s.ns=some x:=by
 obtain ⟨l1,l2,l3,l4⟩:=h.lens
 refine ⟨h.pe (HR _ x) rfl rfl h.know ⟨l1,by simp [iz,li,l2],l3,l4⟩ (fun c v hm=>js h (HR _ x) c v hm) rfl,?_⟩
 show aA (V.ς++[x]) s.ns=some x
 rw [<-l2];exact iM _ _
theorem tE (h:av P V s B w) (x:Value):av P (V.at (be V.toPE x)) (bu s) B w/\aA (be V.toPE x).τ s.nv=some x:=by
 obtain ⟨l1,l2,l3,l4⟩:=h.lens
 refine ⟨h.pe (z5 _ x) rfl rfl h.know ⟨l1,l2,by simp [be,bu,l3],l4⟩ (fun c v hm=>js h (z5 _ x) c v hm) rfl,?_⟩
 show aA (V.τ++[x]) s.nv=some x
 rw [<-l3];exact iM _ _
theorem fA (h:av P V s B w) (x:List Value):av P (V.at (aL V.toPE x)) (aY s) B w/\aA (aL V.toPE x).ρ s.nr=some x:=by
 obtain ⟨l1,l2,l3,l4⟩:=h.lens
 refine ⟨h.pe (kx _ x) rfl rfl h.know ⟨l1,l2,l3,by simp [aL,aY,l4]⟩ (fun c v hm=>js h (kx _ x) c v hm) rfl,?_⟩
 show aA (V.ρ++[x]) s.nr=some x
 rw [<-l4];exact iM _ _
theorem kV (h:av P V s B w) {c v:AV} {x:Value} (h1:c.conc V=some x) (h2:v.conc V=some x):av P V (cK s c v) B w:=
 ⟨h.know, h.lens, fun c' v' hm => by
  cases hm with
  | head=>exact ⟨x,h1,h2⟩
  | tail _ hm=>exact h.memo c' v' hm,h.mem,h.memB,h.below,h.blk,h.dom,h.domL,h.inj,h.glob,h.own⟩
theorem fW:∀{l:List (AV×AV)} {x u:AV},iC l x=some u->(x,u)∈l:=by
 intro l
 induction l with
 | nil=>intro x u h;cases h
 | cons p l ih=>
  intro x u h
  obtain ⟨c,v⟩:=p
  simp only [iC] at h
  cases he:AV.eqb c x with
  | true=>rw [he] at h;cases h;rw [eqb_eq _ _ he];exact List.mem_cons_self ..
  | false=>rw [he] at h;exact List.mem_cons_of_mem _ (ih h)
theorem mE {v:AV} (h:fb v=true):CI V.toPE v=v.conc V:=by
 cases v<;>first | rfl | (simp [fb] at h)
theorem qp {v:AV} {l:List UInt8} (h:jd V.toPE v=some l):v.conc V=some (.string ⟨l.toArray⟩):=by
 cases v<;>simp [jd] at h
 ·subst h;rfl
 ·rename_i i;simp only [AV.conc];rw [h]
def ak (P:Program) (B w:World) (V:az) (s:S) (p:List aX) (s':S) (R:az->Prop):Prop:=
 ∀K:PE->Prop,aj p V.toPE K->∃pe,dr V.toPE pe/\K pe/\av P (V.at pe) s' B w/\R (V.at pe)
theorem ak.nil {R:az->Prop} (h:av P V s B w) (hR:R V):ak P B w V s [] s R:=fun K hK=>⟨V.toPE,dr.refl _,hK,h,hR⟩
theorem iF (q:List aX) (K:PE->Prop):∀(p:List aX) (pe:PE),aj (p++q) pe K->aj p pe (fun pe=>aj q pe K):=by
 intro p
 induction p with
 | nil=>intro pe h;exact h
 | cons x p ih =>
  intro pe h
  cases x with
  | need c=>
   simp only [List.cons_append,aj,aX.sat] at h ⊢
   split at h
   ·rename_i b hb;exact ⟨h.1,ih pe h.2⟩
   ·exact h
  | d d =>
   simp only [List.cons_append,aj,aX.sat] at h ⊢
   have mono:∀{K1 K2:PE->Prop} (d:D) (pe:PE),(∀pe,K1 pe->K2 pe)->d.sat pe K1->d.sat pe K2:=by
    intro K1 K2 d pe hk h
    cases d<;>simp only [D.sat] at h ⊢
    case openI=>obtain ⟨x,h1,h2,h3⟩:=h;exact ⟨x,h1,h2,hk _ h3⟩
    case openB=>obtain ⟨x,h1,h2⟩:=h;exact ⟨x,h1,hk _ h2⟩
    case openS=>obtain ⟨x,h1,h2⟩:=h;exact ⟨x,h1,hk _ h2⟩
    case openV=>obtain ⟨x,h1,h2⟩:=h;exact ⟨x,h1,hk _ h2⟩
    case openSl=>obtain ⟨p,n,c,h1,h2,h3⟩:=h;exact ⟨p,n,c,h1,h2,hk _ h3⟩
    case has=>split at h;exact ⟨h.1,hk _ h.2⟩;exact h
    case nn=>split at h;exact ⟨h.1,hk _ h.2⟩;exact h
    case arith=>split at h;exact ⟨h.1,fun z hz=>⟨(h.2 z hz).1,hk _ (h.2 z hz).2⟩⟩;exact h
    case wrap=>split at h;exact fun z h1 h2 h3=>hk _ (h z h1 h2 h3);exact h
    case cut=>split at h;(obtain ⟨z,h1,h2,h3⟩:=h;exact ⟨z,h1,h2,hk _ h3⟩);exact h
    case nat=>split at h;(obtain ⟨z,h1,h2,h3⟩:=h;exact ⟨z,h1,h2,hk _ h3⟩);exact h
    case pick=>split at h;exact fun z h1=>⟨(h z h1).1,hk _ (h z h1).2⟩;exact h
    case mm=>split at h;exact fun z h1=>⟨(h z h1).1,hk _ (h z h1).2⟩;exact h
    case seq=>split at h;exact fun z h1=>hk _ (h z h1);exact h
    case nul=>split at h;exact fun z h1=>hk _ (h z h1);exact h
    case slen=>split at h;exact fun z h1=>⟨(h z h1).1,(h z h1).2.1,hk _ (h z h1).2.2⟩;exact h
    case sidx=>split at h;exact ⟨h.1,fun z h1 h2 h3=>hk _ (h.2 z h1 h2 h3)⟩;exact h
    case scat=>split at h;exact ⟨h.1,fun z h1=>hk _ (h.2 z h1)⟩;exact h
    case ssub=>split at h;exact ⟨h.1,fun z h1=>hk _ (h.2 z h1)⟩;exact h
    case rhas=>split at h;exact ⟨h.1,hk _ h.2⟩;exact h
    case rset=>split at h;exact ⟨h.1,fun z h1=>hk _ (h.2 z h1)⟩;exact h
    case mk=>split at h;exact ⟨h.1,fun p z h1=>hk _ (h.2 p z h1)⟩;exact h
    case rapp=>split at h;exact ⟨h.1,fun p c z h1 h2 h3=>hk _ (h.2 p c z h1 h2 h3)⟩;exact h
    case frz=>split at h;exact fun m h1 h2=>hk _ (h m h1 h2);exact h
    case pub=>split at h;exact fun q m h1 h2=>hk _ (h q m h1 h2);exact h
    case pubc=>split at h;exact fun q c m h1 h2 h3=>hk _ (h q c m h1 h2 h3);exact h
    case mget=>split at h;(obtain ⟨f,h1,h2⟩:=h;exact ⟨f,h1,fun b hb=>(h2 b hb).elim fun l' hl=>⟨l',hl.1,hk _ hl.2⟩⟩);exact h
    case mset=>split at h;(obtain ⟨f,h1,h2⟩:=h;exact ⟨f,h1,fun l h3=>hk _ (h2 l h3)⟩);exact h
    case mdel=>split at h;(obtain ⟨f,h1,h2⟩:=h;exact ⟨f,h1,fun l h3=>hk _ (h2 l h3)⟩);exact h
    case mnew=>exact fun p=>hk _ (h p)
    case sbytes=>split at h;exact ⟨h.1,fun q n c l h1 h2 h3 h4=>hk _ (h.2 q n c l h1 h2 h3 h4)⟩;exact h
    case mrow=>split at h;(obtain ⟨l,h1,h2,h3⟩:=h;exact ⟨l,h1,h2,hk _ h3⟩);exact h
    case grow=>split at h;exact ⟨h.1,fun q c l h1 h2 h3 h4=>hk _ (h.2 q c l h1 h2 h3 h4)⟩;exact h
    case growk=>split at h;exact ⟨h.1,fun q c l h1 h2 h3 h4=>hk _ (h.2 q c l h1 h2 h3 h4)⟩;exact h
    case zn=>split at h;exact ⟨h.1,hk _ h.2⟩;exact h
    case rtk=>split at h;exact ⟨h.1,fun z h1=>hk _ (h.2 z h1)⟩;exact h
    case zrow=>split at h;exact ⟨h.1,fun z h1=>hk _ (h.2 z h1)⟩;exact h
    case rdrp=>split at h;exact ⟨h.1,fun z h1=>hk _ (h.2 z h1)⟩;exact h
    case bstr=>split at h;(obtain ⟨ns,h1,h2⟩:=h;exact ⟨ns,h1,fun x h3=>hk _ (h2 x h3)⟩);exact h
   exact mono d pe (fun pe h=>ih pe h) h
theorem ak.app {p q:List aX} {s1 s2:S} {R1 R2:az->Prop} (h:ak P B w V s p s1 R1)
  (k:∀pe,dr V.toPE pe->av P (V.at pe) s1 B w->R1 (V.at pe)->ak P B w (V.at pe) s1 q s2 R2):ak P B w V s (p++q) s2 R2:=by
 intro K hK
 obtain ⟨pe1,u1,k1,r1,r2⟩:=h _ (iF q K p _ hK)
 obtain ⟨pe2,u2,k2,r3,r4⟩:=k pe1 u1 r1 r2 K k1
 exact ⟨pe2,u1.trans u2,k2,r3,r4⟩
theorem ak.mono {p:List aX} {R R':az->Prop} (h:ak P B w V s p s' R) (k:∀pe,dr V.toPE pe->R (V.at pe)->R' (V.at pe)):ak P B w V s p s' R':=fun K hK=>by
 obtain ⟨pe,h1,h2,h3,h4⟩:=h K hK
 exact ⟨pe,h1,h2,h3,k pe h1 h4⟩
theorem ak.need (h:av P V s B w) (c:BE):ak P B w V s [.need c] s (fun V'=>c.val V'.σ V'.β=some true):=fun K hK=>by
 simp only [aj,aX.sat] at hK
 split at hK
 ·rename_i b hb
  have:=(BE.T_iff c b true hb).1 hK.1
  subst this
  exact ⟨V.toPE,dr.refl _,hK.2,h,hb⟩
 ·exact hK.elim
theorem fo (h:av P V s B w) {x y:IE} {p q:Int} (hx:x.val V.σ=some p) (hy:y.val V.σ=some q):ak P B w V s (dG s x y) s (fun _=>p<=q):=by
 unfold dG
 split
 ·rename_i hl
  have:=i5 h.know _ _ _ hl hx hy
  exact ak.nil h (by simpa using this)
 ·refine (ak.need h _).mono (fun pe hu hc => ?_)
  have h1:=IE.val_up hu.σ _ _ hx;have h2:=IE.val_up hu.σ _ _ hy
  simp only [BE.val,az.at_toPE,h1,h2] at hc
  simpa using hc
theorem CT (h:av P V s B w) {x y:IE} {p q:Int} (hx:x.val V.σ=some p) (hy:y.val V.σ=some q):ak P B w V s (yN s x y) s (fun _=>p<q):=by
 unfold yN
 split
 ·rename_i hl
  have:=i5 h.know _ _ _ hl hy hx
  refine ak.nil h ?_
  simp only [decide_eq_false_iff_not] at this;omega
 ·refine (ak.need h _).mono (fun pe hu hc => ?_)
  have h1:=IE.val_up hu.σ _ _ hx;have h2:=IE.val_up hu.σ _ _ hy
  simp only [BE.val,az.at_toPE,h1,h2,Option.some.injEq,Bool.not_eq_true',decide_eq_false_iff_not] at hc
  omega
theorem mC (h:av P V s B w) {e:IE} {z:Int} (k:IntKind) (he:e.val V.σ=some z):ak P B w V s (pS s k e) s (fun _=>k.min<=z/\z<=k.max):=by
 unfold pS
 refine (fo h (x := .lit k.min) rfl he).app (fun pe hu h1 r1 => ?_)
 refine (fo h1 (x:=e) (y := .lit k.max) (IE.val_up hu.σ _ _ he) rfl).mono (fun pe' hu' r2=>⟨r1,r2⟩)
theorem xt (h:av P V s B w) {v:AV} {X:Value} (hl:fb v=true) (hv:v.conc V=some X) (k:IntKind) :
  ak P B w V s [.d (.openI k v)] (cK (aK s k.min k.max) v (.int k (.var (nI s)))) (fun V'=>(AV.int k (.var (nI s))).conc V'=some X):=fun K hK=>by
 simp only [aj,aX.sat,D.sat,mE hl,hv,Option.some.injEq] at hK
 obtain ⟨x,rfl,h1,h2⟩:=hK
 obtain ⟨r1,r2⟩:=jh h h1.1 h1.2
 have hi:(AV.int k (.var (nI s))).conc (V.at (bm V.toPE x))=some (.int k x):=dc r2
 exact ⟨_,qR _ x,h2,kV r1 (aF (aD (qR _ x)) _ _ hv) hi,hi⟩
theorem xq (h:av P V s B w) {v:AV} {X:Value} (hl:fb v=true) (hv:v.conc V=some X) :
  ak P B w V s [.d (.openB v)] (cK (kl s) v (.bx (.var s.nb))) (fun V'=>(AV.bx (.var s.nb)).conc V'=some X):=fun K hK=>by
 simp only [aj,aX.sat,D.sat,mE hl,hv,Option.some.injEq] at hK
 obtain ⟨x,rfl,h2⟩:=hK
 obtain ⟨r1,r2⟩:=C4 h x
 have hi:(AV.bx (.var s.nb)).conc (V.at (nm V.toPE x))=some (.bool x):=eZ r2
 exact ⟨_,HQ _ x,h2,kV r1 (aF (aD (HQ _ x)) _ _ hv) hi,hi⟩
theorem xu (h:av P V s B w) {v:AV} {X:Value} (hl:fb v=true) (hv:v.conc V=some X) :
  ak P B w V s [.d (.openS v)] (cK (li s) v (.sv s.ns)) (fun V'=>(AV.sv s.ns).conc V'=some X):=fun K hK=>by
 simp only [aj,aX.sat,D.sat,mE hl,hv,Option.some.injEq] at hK
 obtain ⟨x,rfl,h2⟩:=hK
 obtain ⟨r1,r2⟩:=C5 h x
 have hi:(AV.sv s.ns).conc (V.at (iz V.toPE x))=some (.string ⟨x.toArray⟩):=by
  simp only [AV.conc];rw [show (V.at (iz V.toPE x)).ς=(iz V.toPE x).ς from rfl,r2]
 exact ⟨_,HR _ x,h2,kV r1 (aF (aD (HR _ x)) _ _ hv) hi,hi⟩
theorem uW {wk:Bool} (h:av P V s B w) {v:AV} {X:Value} (hl:fb v=true) (hv:v.conc V=some X) :
  ak P B w V s [.d (.openSl wk v)] (cK (aK (aK (bu s) 0 9223372036854775807) 0 9223372036854775807) v (.sl s.nv (.lit 0) (.var (nI s)) (.var (Nat.succ (nI s))))) (fun V'=>(AV.sl s.nv (.lit 0) (.var (nI s)) (.var (Nat.succ (nI s)))).conc V'=some X):=fun K hK=>by
 simp only [aj,aX.sat,D.sat,mE hl,hv,Option.some.injEq] at hK
 obtain ⟨q,n,c,rfl,⟨n1',n2⟩,h2⟩:=hK
 have n1:n<=9223372036854775807:=by cases wk<;>simp only at n1'<;>omega
 obtain ⟨r1,e1⟩:=tE h (.pointer q)
 obtain ⟨r2,e2⟩:=jh r1 (x:=(n:Int)) (lo:=0) (hi:=9223372036854775807) (by omega) (by omega)
 obtain ⟨r3,e3⟩:=jh r2 (x:=(c:Int)) (lo:=0) (hi:=9223372036854775807) (by omega) (by omega)
 simp only [az.at_at,az.at_toPE] at r2 r3 e2 e3
 have n0:nI (bu s)=nI s:=rfl
 have n1':nI (aK (bu s) 0 9223372036854775807)=Nat.succ (nI s):=by simp [nI,aK,bu,aO]
 rw [n0] at e2;rw [n1'] at e3
 have hu1:=z5 V.toPE (.pointer q)
 have hu2:=qR (be V.toPE (.pointer q)) (n:Int)
 have hu3:=qR (bm (be V.toPE (.pointer q)) (n:Int)) (c:Int)
 have hu:=(hu1.trans hu2).trans hu3
 have hi:(AV.sl s.nv (.lit 0) (.var (nI s)) (.var (Nat.succ (nI s)))).conc (V.at (bm (bm (be V.toPE (.pointer q)) n) c))=some (.slice q n c):=by
  have p1:aM (bm (bm (be V.toPE (.pointer q)) n) c).τ s.nv=some q:=by
   unfold aM
   rw [show (bm (bm (be V.toPE (.pointer q)) n) c).τ=(be V.toPE (.pointer q)).τ from rfl,e1]
  have p2:=bN (IE.val_up hu3.σ _ _ e2) (by omega)
  have p3:=bN e3 (by omega)
  have p4:aQ (bm (bm (be V.toPE (.pointer q)) n) c).σ (.lit 0)=some 0:=rfl
  simp only [AV.conc,qS,az.at_toPE,p1,p2,p3,p4,Int.toNat_natCast]
  congr 2
  cases q<;>simp [Addr.add]
 exact ⟨_,hu,h2,kV r3 (aF (aD hu) _ _ hv) hi,hi⟩
theorem lM (hG:cv P g) (h:av P V s B w) {t:TypeId} {v u:AV} {X:Value} {p:List aX} (hf:qI g t v s=some (p,u,s')) (hv:v.conc V=some X) :
  ak P B w V s p s' (fun V'=>u.conc V'=some X):=by
 unfold qI at hf
 cases hl:fb v with
 | false=>rw [hl] at hf;cases hf;exact ak.nil h hv
 | true =>
  rw [hl] at hf;simp only [cond_true] at hf
  split at hf
  ·rename_i u' hm;cases hf
   obtain ⟨x,h1,h2⟩:=h.memo _ _ (fW hm)
   rw [hv] at h1;cases h1
   exact ak.nil h h2
  ·split at hf
   ·split at hf
    ·cases hf;exact xt h hl hv _
    ·cases hf;exact xq h hl hv
    ·cases hf;exact xu h hl hv
    ·cases hf;exact uW h hl hv
    ·cases hf;exact ak.nil h hv
   ·cases hf
end
end
section
open Go.RowKit
section
variable {P:Program} {g:G} {V:az} {s s':S} {B w:World} {a:A} {A:Act}
theorem iE {v:AV} {b:Bool} (h:v.conc V=some (.bool b)) (hv:(∃c,v = .bool c)\/∃c,v = .bx c):(qY v).conc V=some (.bool !b):=by
 rcases hv with ⟨c,rfl⟩ | ⟨c,rfl⟩
 ·simp only [AV.conc] at h;cases h;rfl
 ·obtain ⟨z,hz,e⟩:=fm h
  cases e
  cases c with
  | not d =>
   simp only [BE.val] at hz
   split at hz
   ·rename_i x hx;cases hz
    show (AV.bx d).conc V=_
    rw [eZ hx];simp
   ·cases hz
  | _=>exact eZ (by simp only [BE.val] at hz ⊢;rw [hz])
theorem pV (h:av P V s B w) {x y:IE} {p q:Int} (hx:x.val V.σ=some p) (hy:y.val V.σ=some q):(H6 s x y).conc V=some (.bool (decide (p<=q)))/\((∃c,H6 s x y = .bool c)\/∃c,H6 s x y = .bx c):=by
 unfold H6
 split
 ·rename_i t ht
  rw [i5 h.know _ _ _ ht hx hy];exact ⟨rfl,.inl ⟨_,rfl⟩⟩
 ·exact ⟨eZ (by simp only [BE.val,hx,hy]),.inr ⟨_,rfl⟩⟩
theorem vB (h:av P V s B w) {x y:IE} {p q:Int} (hx:x.val V.σ=some p) (hy:y.val V.σ=some q):(IA s x y).conc V=some (.bool (decide (p=q)))/\((∃c,IA s x y = .bool c)\/∃c,IA s x y = .bx c):=by
 unfold IA
 split
 ·rename_i t ht
  rw [vC h.know _ _ _ ht hx hy];exact ⟨rfl,.inl ⟨_,rfl⟩⟩
 ·exact ⟨eZ (by simp only [BE.val,hx,hy]),.inr ⟨_,rfl⟩⟩
theorem xi {σ:List Int} {x y:IE} {p q:Int} (hx:x.val σ=some p) (hy:y.val σ=some q):(EP x y).val σ=some (p*q):=by
 unfold EP
 split
 ·simp only [IE.val,Option.some.injEq] at *;rw [hx,hy]
 ·rename_i a b _
  simp only [IE.val,Option.some.injEq] at hy;subst hy
  cases c:Er b 1 with
  | true=>rw [nJ] at c;simp at c;subst c;simp [hx]
  | false=>simp only [cond_false,IE.val,hx]
 ·simp only [IE.val,hx,hy]
theorem dg (h:av P V s B w) {op:BinOp} {k k':IntKind} {x y:IE} {p q:Int} (hx:x.val V.σ=some p) (hy:y.val V.σ=some q) (t:TypeId) {l:List aX} {v:AV} (hp:iQ s op k x y=some (l,v,s')) (hk:k'=k\/op = .shl\/op = .shr) :
  ak P B w V s l s' (fun V'=>∃R,v.conc V'=some R/\∀w,(binOp op t (.int k p) (.int k' q)).run P w = .ok R w):=by
 unfold iQ at hp;cases hp
 intro K hK
 simp only [aj,aX.sat,D.sat,hx,hy] at hK
 obtain ⟨h1,h2⟩:=hK
 obtain ⟨h3,h4⟩:=h2 _ rfl
 obtain ⟨r1,r2⟩:=jh h h3.1 h3.2
 refine ⟨_,qR _ _,h4,r1,_,dc r2,fun w => ?_⟩
 cases op<;>simp only [aJ] at h1<;>try (exact h1.elim)
 case shl=>simp [binOp,Op.shift,aq];intro h0;omega
 case shr=>simp [binOp,Op.shift,aq];intro h0;omega
 all_goals
  (have hk' : k' = k := by rcases hk with h | h | h <;> first | exact h | cases h
   subst hk'
   first
    | (simp [binOp,Op.intArith,aq];done)
    | (simp [binOp,Op.intDiv,aq,h1];done)
    | (simp [binOp,Op.intBits,aq];done))
theorem vj (h:av P V s B w) {op:BinOp} {k:IntKind} {x y:IE} {p q:Int} (hx:x.val V.σ=some p) (hy:y.val V.σ=some q) (t:TypeId) {l:List aX} {v:AV} (hs:wm s op k x y=some (l,v,s')) :
  ak P B w V s l s' (fun V'=>∃R,v.conc V'=some R/\∀w,(binOp op t (.int k p) (.int k q)).run P w = .ok R w):=by
 have wrapD:∀{e:IE} {z:Int},e.val V.σ=some z->(∀w,(binOp op t (.int k p) (.int k q)).run P w = .ok (.int k (k.wrap z)) w)->k.min<=k.wrap z/\k.wrap z<=k.max->
   ak P B w V s [.d (.wrap k e)] (aK s k.min k.max) (fun V'=>∃R,(AV.int k (.var (nI s))).conc V'=some R/\∀w,(binOp op t (.int k p) (.int k q)).run P w = .ok R w):=by
  intro e z he hr hb K hK
  simp only [aj,aX.sat,D.sat,he] at hK
  obtain ⟨r1,r2⟩:=jh h hb.1 hb.2
  exact ⟨_,qR _ _,hK _ rfl hb.1 hb.2,r1,_,dc r2,hr⟩
 have wr:∀z:Int,k.min<=k.wrap z/\k.wrap z<=k.max:=fun z=>by
  cases k<;>simp [IntKind.min,IntKind.max,IntKind.wrap,IntKind.signed,IntKind.bits]<;>(try split)<;>omega
 cases op<;>simp only [wm] at hs<;>try (cases hs;done)
 case add=>
  have e:=dR hx hy
  cases c:k.signed with
  | true=>
   rw [c] at hs;cases hs
   refine (mC h k e).mono (fun pe hu hr=>⟨.int k (p+q),dc (IE.val_up hu.σ _ _ e),fun w => ?_⟩)
   simp [binOp,Op.intArith,hD hr.1 hr.2]
  | false=>rw [c] at hs;cases hs;exact wrapD e (fun w=>by simp [binOp,Op.intArith]) (wr _)
 case sub=>
  have e:=o9 hx hy
  cases c:k.signed with
  | true=>
   rw [c] at hs;cases hs
   refine (mC h k e).mono (fun pe hu hr=>⟨.int k (p-q),dc (IE.val_up hu.σ _ _ e),fun w => ?_⟩)
   simp [binOp,Op.intArith,hD hr.1 hr.2]
  | false=>rw [c] at hs;cases hs;exact wrapD e (fun w=>by simp [binOp,Op.intArith]) (wr _)
 case mul=>
  have e:=xi hx hy
  cases c:k.signed with
  | true=>
   rw [c] at hs;cases hs
   refine (mC h k e).mono (fun pe hu hr=>⟨.int k (p*q),dc (IE.val_up hu.σ _ _ e),fun w => ?_⟩)
   simp [binOp,Op.intArith,hD hr.1 hr.2]
  | false=>rw [c] at hs;exact dg h hx hy t hs (.inl rfl)
 case quo=>exact dg h hx hy t hs (.inl rfl)
 case rem=>exact dg h hx hy t hs (.inl rfl)
 case and=>exact dg h hx hy t hs (.inl rfl)
 case or=>exact dg h hx hy t hs (.inl rfl)
 case xor=>exact dg h hx hy t hs (.inl rfl)
 case andNot=>exact dg h hx hy t hs (.inl rfl)
 case eql=>
  cases hs
  refine ak.nil h ⟨_,(vB h hx hy).1,fun w => ?_⟩
  by_cases hh:p=q<;>simp [binOp,Op.intCmp,hh]
 case neq=>
  cases hs
  refine ak.nil h ⟨_,iE (vB h hx hy).1 (vB h hx hy).2,fun w => ?_⟩
  by_cases hh:p=q<;>simp [binOp,Op.intCmp,hh]
 case leq=>
  cases hs
  exact ak.nil h ⟨_,(pV h hx hy).1,fun w=>by simp [binOp,Op.intCmp]⟩
 case gtr=>
  cases hs
  refine ak.nil h ⟨_,iE (pV h hx hy).1 (pV h hx hy).2,fun w => ?_⟩
  by_cases hh:p<=q<;>simp [binOp,Op.intCmp,hh]<;>omega
 case geq=>
  cases hs
  exact ak.nil h ⟨_,(pV h hy hx).1,fun w=>by simp [binOp,Op.intCmp]⟩
 case lss=>
  cases hs
  refine ak.nil h ⟨_,iE (pV h hy hx).1 (pV h hy hx).2,fun w => ?_⟩
  by_cases hh:q<=p<;>simp [binOp,Op.intCmp,hh]<;>omega
theorem jY {v:AV} {X:Value} (h:iZ v=true) (hv:v.conc V=some X):∃l,jd V.toPE v=some l/\X = .string ⟨l.toArray⟩:=by
 cases v<;>simp [iZ] at h
 ·simp only [AV.conc] at hv;cases hv;exact ⟨_,rfl,rfl⟩
 ·obtain ⟨l,h1,h2⟩:=mu hv;exact ⟨l,h1,h2⟩
theorem zq (h:av P V s B w) {x y:AV} {p q:List UInt8} (hx:jd V.toPE x=some p) (hy:jd V.toPE y=some q) :
  ak P B w V s [.d (.seq x y)] (kl s) (fun V'=>(AV.bx (.var s.nb)).conc V'=some (.bool (decide (p=q)))):=fun K hK=>by
 simp only [aj,aX.sat,D.sat,hx,hy] at hK
 obtain ⟨r1,r2⟩:=C4 h (decide (p=q))
 exact ⟨_,HQ _ _,hK _ rfl,r1,eZ r2⟩
theorem oY (w:World) (d:Nat) (t e:TypeId) (a:Option Addr) (n c n' c':Nat) (h:P.underlying t=some (.slice e)) :
  (Op.equalIn (d+1) t (.slice a n c) (.slice none n' c')).run P w = .ok a.isNone w:=by
 cases a<;>simp [Op.equalIn,run_underlying h]
theorem vk (hG:cv P g) (h:av P V s B w) {t:TypeId} {a:Nat} {off len cap:IE} {X:Value} {neg:Bool} {v:AV} {l:List aX} (hX:(AV.sl a off len cap).conc V=some X) (hs:wq g s t a neg=some (l,v,s')) :
  ak P B w V s l s' (fun V'=>∃(p:Option Addr) (e:TypeId) (q:Option Addr) (n c:Nat),v.conc V'=some (.bool (bif neg then !decide (p=none) else decide (p=none)))/\X = .slice q n c/\q.isNone=decide (p=none)/\P.underlying t=some (.slice e)):=by
 unfold wq at hs
 split at hs
 ·rename_i ti hti
  have hu:=(hG.ty _ _ hti).desc
  split at hs
  ·rename_i e hd
   rw [hd] at hu
   cases hs
   obtain ⟨p,o,n,c,q1,q2,q3,q4,rfl⟩:=bX hX
   intro K hK
   simp only [aj,aX.sat,D.sat,q1] at hK
   obtain ⟨r1,r2⟩:=C4 h (decide (p=none))
   refine ⟨_,HQ _ _,hK _ rfl,r1,p,e,_,n,c,?_,rfl,by cases p<;>simp,hu⟩
   cases neg
   ·exact eZ r2
   ·exact iE (v := .bx (.var s.nb)) (eZ r2) (.inr ⟨_,rfl⟩)
  ·cases hs
 ·cases hs
theorem Dr (h:av P V s B w) {op:BinOp} {x y v:AV} {p q:List UInt8} (hx:jd V.toPE x=some p) (hy:jd V.toPE y=some q) (t:TypeId) {l:List aX} (hs:zU s op x y=some (l,v,s')) :
  ak P B w V s l s' (fun V'=>∃R,v.conc V'=some R/\∀w,(binOp op t (.string ⟨p.toArray⟩) (.string ⟨q.toArray⟩)).run P w = .ok R w):=by
 have e1:=gb p
 have e2:=gb q
 have e3:(p==q)=decide (p=q):=by rw [Bool.eq_iff_iff];simp
 cases op<;>simp only [zU] at hs<;>try (cases hs;done)
 case add=>
  cases hs
  intro K hK
  simp only [aj,aX.sat,D.sat,hx,hy] at hK
  obtain ⟨r1,r2⟩:=C5 h (p++q)
  refine ⟨_,HR _ _,hK.2 _ rfl,r1,_,by simp only [AV.conc];rw [show (V.at (iz V.toPE (p++q))).ς=(iz V.toPE (p++q)).ς from rfl,r2],fun w => ?_⟩
  have hs:¬((((⟨p.toArray⟩:ByteArray).size+(⟨q.toArray⟩:ByteArray).size:Nat):Int) > IntKind.i64.max):=by
   have s1:(⟨p.toArray⟩:ByteArray).size=p.length:=by simp [ByteArray.size]
   have s2:(⟨q.toArray⟩:ByteArray).size=q.length:=by simp [ByteArray.size]
   rw [s1,s2,IntKind.max_i64];have:=hK.1;omega
  simp only [binOp,Op.stringOp,Sem.run_ite,if_neg hs,Sem.run_pure]
  congr 2
 case eql=>
  cases hs
  refine (zq h hx hy).mono (fun pe hu hr=>⟨_,hr,fun w => ?_⟩)
  simp only [binOp,Op.stringOp,e1,e2,Sem.run_pure,e3]
 case neq=>
  cases hs
  refine (zq h hx hy).mono (fun pe hu hr=>⟨_,iE (v := .bx (.var s.nb)) hr (.inr ⟨_,rfl⟩),fun w => ?_⟩)
  simp only [binOp,Op.stringOp,e1,e2,Sem.run_pure,e3]
theorem FV {u v d:AV} {b c:Bool} (h:eW u v=some d) (hu:u.conc V=some (.bool b)) (hv:v.conc V=some (.bool c)):d.conc V=some (.bool (b&&c)):=by
 unfold eW at h
 split at h
 ·cases h;simp only [AV.conc] at hu;cases hu;simpa using hv
 ·cases h;simp only [AV.conc] at hu;cases hu;rfl
 ·cases h;simp only [AV.conc] at hv;cases hv;simpa using hu
 ·cases h;simp only [AV.conc] at hv;cases hv;simp [AV.conc]
 ·cases h
  obtain ⟨z1,h1,e1⟩:=fm hu
  obtain ⟨z2,h2,e2⟩:=fm hv
  cases e1;cases e2
  exact eZ (by simp only [BE.val,h1,h2])
 ·cases h
theorem AE {x y v:AV} {X Y:Value} (h:D8 x y=some v) (hX:x.conc V=some X) (hY:y.conc V=some Y):∃a b,X = .bool a/\Y = .bool b/\v.conc V=some (.bool (a==b))/\((∃t,v = .bool t)\/∃c,v = .bx c):=by
 have nb:∀{c:BE} {z:Bool},c.val V.σ V.β=some z->(qY (.bx c)).conc V=some (.bool (!z))/\((∃t,qY (.bx c) = .bool t)\/∃d,qY (.bx c) = .bx d):=fun {c z} hz=>
  ⟨iE (eZ hz) (.inr ⟨_,rfl⟩),by cases c<;>exact .inr ⟨_,rfl⟩⟩
 unfold D8 at h
 split at h
 ·cases h
  simp only [AV.conc,Option.some.injEq] at hX hY
  exact ⟨_,_,hX.symm,hY.symm,rfl,.inl ⟨_,rfl⟩⟩
 ·rename_i c b
  obtain ⟨z,hz,ez⟩:=fm hX
  simp only [AV.conc,Option.some.injEq] at hY
  refine ⟨z,b,ez,hY.symm,?_⟩
  cases b<;>cases h
  ·have:=nb hz
   refine ⟨?_,this.2⟩
   cases z<;>exact this.1
  ·refine ⟨?_,.inr ⟨_,rfl⟩⟩
   rw [cond_true,eZ hz];cases z<;>rfl
 ·rename_i b c
  obtain ⟨z,hz,ez⟩:=fm hY
  simp only [AV.conc,Option.some.injEq] at hX
  refine ⟨b,z,hX.symm,ez,?_⟩
  cases b<;>cases h
  ·have:=nb hz
   refine ⟨?_,this.2⟩
   cases z<;>exact this.1
  ·refine ⟨?_,.inr ⟨_,rfl⟩⟩
   rw [cond_true,eZ hz];cases z<;>rfl
 ·rename_i c d
  obtain ⟨z,hz,ez⟩:=fm hX
  obtain ⟨u,hu,eu⟩:=fm hY
  cases h
  refine ⟨z,u,ez,eu,?_,.inr ⟨_,rfl⟩⟩
  refine eZ ?_
  simp only [BE.val,hz,hu]
  cases z<;>cases u<;>rfl
 ·cases h
theorem Dm (h:av P V s B w) {t:TypeId} {desc:TypeDesc} (hu:P.underlying t=some desc) {x y v:AV} {X Y:Value} (hX:x.conc V=some X) (hY:y.conc V=some Y) {l:List aX} (hs:wj s desc x y=some (l,v,s')) (d':Nat) :
  ak P B w V s l s' (fun V'=>∃b,v.conc V'=some (.bool b)/\∀w,(Op.equalIn (d'+1) t X Y).run P w = .ok b w):=by
 unfold wj at hs
 split at hs
 ·rename_i k0 k a k' b
  cases ck:de k k' with
  | false=>rw [ck] at hs;cases hs
  | true=>
   rw [ck] at hs;cases hs
   have:=cF ck;subst this
   obtain ⟨x1,hx1,rfl⟩:=aC hX
   obtain ⟨y1,hy1,rfl⟩:=aC hY
   refine ak.nil h ⟨_,(vB h hx1 hy1).1,fun w => ?_⟩
   rw [run_equalIn_int w d' t k k0 _ _ hu]
   congr 1
 ·cases c:(iZ x&&iZ y) with
  | false=>rw [c] at hs;cases hs
  | true =>
   rw [c] at hs;simp only [cond_true] at hs
   simp only [Bool.and_eq_true] at c
   obtain ⟨p,h1,rfl⟩:=jY c.1 hX
   obtain ⟨q,h2,rfl⟩:=jY c.2 hY
   have hr:∀w,(Op.equalIn (d'+1) t (.string ⟨p.toArray⟩) (.string ⟨q.toArray⟩)).run P w = .ok (decide (p=q)) w:=fun w=>by
    rw [run_equalIn_string w d' t _ _ hu,gb,gb]
    congr 1
    by_cases hh:p=q<;>simp [hh]
   split at hs
   ·rename_i a b
    cases hs
    simp only [jd,Option.some.injEq] at h1 h2
    subst h1;subst h2
    exact ak.nil h ⟨_,by rw [iW];rfl,hr⟩
   ·cases hs
    exact (zq h h1 h2).mono (fun pe hu hr'=>⟨_,hr',hr⟩)
 ·split at hs
  ·rename_i v' hv;cases hs
   obtain ⟨a,b,rfl,rfl,h1,_⟩:=AE hv hX hY
   exact ak.nil h ⟨_,h1,fun w=>run_equalIn_bool w d' t a b hu⟩
  ·cases hs
 ·cases hs
theorem vi (hG : cv P g) : ∀ (d : Nat) (t : TypeId) (x y v : AV) (V : az) (s s' : S) (X Y : Value) (l : List aX), av P V s B w -> je g d t x y s = some (l, v, s') -> x.conc V = some X -> y.conc V = some Y ->
  ∀d',d<=d'->ak P B w V s l s' (fun V'=>∃b,v.conc V'=some (.bool b)/\∀w,(Op.equalIn d' t X Y).run P w = .ok b w):=by
 intro d
 induction d with
 | zero=>intro t x y v V s s' X Y l _ h;simp [je] at h
 | succ d ih =>
  intro t x y v V s s' X Y l hR h hX hY d' hd
  obtain ⟨e,rfl⟩:∃e,d'=e+1:=⟨d'-1,by omega⟩
  simp only [je] at h
  split at h
  ·cases h
  ·rename_i ti hti
   have hu:=(hG.ty t ti hti).desc
   split at h
   ·rename_i fields xs ys hd1
    rw [hd1] at hu
    cases cm:kS g.eqs t with
    | false=>rw [cm] at h;cases h
    | true =>
     rw [cm] at h;simp only [cond_true] at h
     obtain ⟨us,rfl,hus⟩:=cg hX
     obtain ⟨vs,rfl,hvs⟩:=cg hY
     have hf:P.fieldsOf t=fields:=by simp [Program.fieldsOf,hu]
     have hst:∀w,(Op.equalIn (e+1) t (.agg us.toArray) (.agg vs.toArray)).run P w=(Op.eqFields e us.toArray vs.toArray fields.toList).run P w:=fun w=>by
      rw [run_equalIn_struct w e t _ _ (by rw [hf];exact hu) (hG.eqs t cm).1,hf]
     simp only [hst]
     have key : ∀ (fs : List Field) (V : az) (s s' : S) (l : List aX) (v : AV), av P V s B w -> concL V xs = some us -> concL V ys = some vs -> tT (je g d) g xs ys fs s = some (l, v, s') ->
       ak P B w V s l s' (fun V'=>∃b,v.conc V'=some (.bool b)/\∀w,(Op.eqFields e us.toArray vs.toArray fs).run P w = .ok b w):=by
      intro fs
      induction fs with
      | nil=>intro V s s' l v hR _ _ h;simp only [tT] at h;cases h;exact ak.nil hR ⟨true,rfl,fun w=>rfl⟩
      | cons f fs ihf =>
       intro V s s' l v hR hus hvs h
       simp only [tT] at h
       cases cn:(f.name=="_") with
       | true=>rw [cn] at h;cases h
       | false =>
        rw [cn] at h;simp only [cond_false] at h
        have hne:f.name≠"_" := by intro e;rw [e] at cn;simp at cn
        split at h
        ·rename_i a c ha hc
         obtain ⟨A',hA',rA⟩:=jb hG.ty ha hus
         obtain ⟨C',hC',rC⟩:=jb hG.ty hc hvs
         split at h
         ·rename_i p b1 s1 h1
          split at h
          ·rename_i q c1 s2 h2
           split at h
           ·rename_i dd hdd;cases h
            refine (ih f.type a c b1 V s s1 A' C' p hR h1 hA' hC' e (by omega)).app (fun pe hu r1 r2 => ?_)
            obtain ⟨b,hb,hrun⟩:=r2
            have hx:=aD hu
            refine (ihf (V.at pe) s1 _ q c1 r1 (aG hx hus) (aG hx hvs) h2).mono (fun pe' hu' r3 => ?_)
            obtain ⟨b',hb',hrun'⟩:=r3
            refine ⟨b&&b',FV hdd (aF (aD (V:=V.at pe) hu') _ _ hb) hb',fun w => ?_⟩
            simp only [Op.eqFields,if_pos hne,Sem.run_bind,rA,rC,Result.andThen_ok,hrun]
            cases b with
            | true=>simp only [Result.andThen_ok,Bool.not_true,Bool.false_eq_true,if_false,Bool.true_and];exact hrun' w
            | false=>simp
           ·cases h
          ·cases h
         ·cases h
        ·cases h
     exact key fields.toList V s s' l v hR hus hvs h
   ·split at h
    ·rename_i p x' s1 h1
     split at h
     ·rename_i q y' s2 h2
      split at h
      ·rename_i r b s3 h3;cases h
       refine (lM hG hR h1 hX).app (fun pe hu r1 hX1 => ?_)
       refine (lM hG r1 h2 (aF (aD hu) _ _ hY)).app (fun pe2 hu2 r2 hY2 => ?_)
       exact Dm r2 (hG.ty t ti hti).desc (aF (aD (V:=V.at pe) hu2) _ _ hX1) hY2 h3 e
      ·cases h
     ·cases h
    ·cases h
end
end
section
open Go.RowKit
def lw (V:az) (a:Nat) (r:Option Nat) (off:IE) (p:Addr) (x:Value):Prop:=
 ∃q o,aM V.τ a=some (some q)/\aQ V.σ off=some o/\p=q.add o/\(match r with | none=>df V.mem p=some x | some r=>∃l,aA V.ρ r=some l/\l[o]? = some x)
def ky (V:az):List HX->List (Addr×Value)->Prop
 | [],[]=>True
 | (a,r,off)::h,(p,x)::c=>lw V a r off p x/\ky V h c
 | _,_=>False
def Ju (c:List (Addr×Value)) (w:World):Prop:=∀p x,(p,x)∈c->w.cell? p=some x
section
variable {P:Program} {g:G} {V:az} {s s':S} {B w:World} {a:A} {A:Act}
theorem tg (h:av P V s B w) {p:Addr} {x:Value} (hm:df V.mem p=some x):w.cell? p=some x:=by
 unfold df at hm
 unfold World.cell?
 cases hb:V.mem p.block with
 | none=>rw [hb] at hm;cases hm
 | some o=>rw [(h.mem _ _ hb).1];rw [hb] at hm;exact hm
theorem bd:∀{l:List cL} {a:Nat} {o:cL},bB l a=some o->o∈l/\o.a=a:=by
 intro l
 induction l with
 | nil=>intro a o h;cases h
 | cons x l ih=>
  intro a o h
  simp only [bB] at h
  cases hb:Nat.beq x.a a with
  | true=>rw [hb] at h;cases h;exact ⟨List.mem_cons_self ..,by simpa using hb⟩
  | false=>rw [hb] at h;exact ⟨List.mem_cons_of_mem _ (ih h).1,(ih h).2⟩
theorem BH (h:av P V s B w) {a:Nat} {o:cL} (ho:bB s.own a=some o) (hm:o.m=false) {l:List Value} (hl:aA V.ρ o.r=some l):∀x∈l,bK x=some x:=by
 obtain ⟨q',l',n,c,m1,m2,_,_,m5,_⟩:=h.own.ok o (bd ho).1
 rw [hl] at m2;cases m2
 exact m5.2 hm
theorem tw (h:av P V s B w) {a:Nat} {o:cL} (ho:bB s.own a=some o) (hm:o.m=false) {off:IE} {p:Addr} {x:Value} (hh:lw V a (some o.r) off p x):w.cell? p=some x:=by
 obtain ⟨h1,h2⟩:=bd ho
 obtain ⟨q,j,k1,k2,rfl,l,k3,k4⟩:=hh
 obtain ⟨q',l',n,c,m1,m2,_,_,_,_,_,m3⟩:=h.own.ok o h1
 rw [h2,hm] at m1
 rw [k3] at m2;cases m2
 unfold aM at k1;rw [m1] at k1;cases k1
 obtain ⟨e1,e2,_,_,_,ob,e3,e4⟩:=m3 q rfl
 unfold fu at e4
 rw [hm] at e4
 obtain ⟨rest,fz,rfl,_⟩:=e4
 have hj:j<l.length:=(List.getElem?_eq_some_iff.1 k4).1
 obtain ⟨b,of,sp⟩:=q
 simp only at e1 e2 e3
 subst e1;subst e2
 rw [bY,Nat.zero_add]
 simp only [World.cell?,e3]
 simp [List.getElem?_append_left hj,k4]
def Jx (P:Program) (A:Act) (w:World) (o:Oper) (v:AV) (hs:List HX) (V':az):Prop:=
 ∃x c,v.conc V'=some x/\ky V' hs c/\Ju c w/\∀w',Ju c w'->(execOp A.eval o).run P w' = .ok (.value x) w'
theorem tU {d:Nat} {t:TypeId} {xs ys:List AV} {r:List aX×AV×S} (h:je g d t (.agg xs) (.agg ys) s=some r):kS g.eqs t=true:=by
 cases d with
 | zero=>simp [je] at h
 | succ d =>
  simp only [je] at h
  split at h
  ·cases h
  ·split at h
   ·cases cm:kS g.eqs t with
    | true=>rfl
    | false=>rename_i h1 h2;simp_all
   ·simp only [qI,fb,cond_false] at h
    split at h
    ·rename_i r b s3 h3
     unfold wj at h3
     split at h3
     ·simp_all
     ·simp [iZ] at h3
     ·simp [D8] at h3
     ·cases h3
    ·cases h
theorem Di (hG:cv P g) (hR:av P V s B w) {op:BinOp} {t:TypeId} {x y v:AV} {X Y:Value} {l:List aX} (xo yo:Operand) (h:zL g s op t x y=some (l,v,s')) (hX:x.conc V=some X) (hY:y.conc V=some Y) :
  ak P B w V s l s' (fun V'=>∃R,v.conc V'=some R/\∀w,(do eqGuard op t xo yo X Y;binOp op t X Y:Sem Value).run P w = .ok R w):=by
 have sh:∀{R:Value},(∀w,(binOp op t X Y).run P w = .ok R w)->(∀w,(eqGuard op t xo yo X Y).run P w = .ok () w)->∀w,(do eqGuard op t xo yo X Y;binOp op t X Y:Sem Value).run P w = .ok R w:=by
  intro R h1 h2 w
  simp only [Sem.run_bind,h2,Result.andThen_ok,h1]
 unfold zL at h
 split at h
 ·rename_i k a k' b
  obtain ⟨x1,hx1,rfl⟩:=aC hX
  obtain ⟨y1,hy1,rfl⟩:=aC hY
  refine (dg (P:=P) (k':=k') hR hx1 hy1 t h (.inr (.inl rfl))).mono (fun pe hu hr => ?_)
  obtain ⟨R,h1,h2⟩:=hr
  exact ⟨R,h1,sh h2 (fun w=>cD _ _ _ _ _ _ w (by simp) (by simp))⟩
 ·rename_i k a k' b
  obtain ⟨x1,hx1,rfl⟩:=aC hX
  obtain ⟨y1,hy1,rfl⟩:=aC hY
  refine (dg (P:=P) (k':=k') hR hx1 hy1 t h (.inr (.inr rfl))).mono (fun pe hu hr => ?_)
  obtain ⟨R,h1,h2⟩:=hr
  exact ⟨R,h1,sh h2 (fun w=>cD _ _ _ _ _ _ w (by simp) (by simp))⟩
 ·rename_i k a k' b _ _
  obtain ⟨x1,hx1,rfl⟩:=aC hX
  obtain ⟨y1,hy1,rfl⟩:=aC hY
  cases ck:de k k' with
  | false=>rw [ck] at h;cases h
  | true=>
   rw [ck] at h;simp only [cond_true] at h
   have:=cF ck;subst this
   refine (vj (P:=P) hR hx1 hy1 t h).mono (fun pe hu hr => ?_)
   obtain ⟨R,h1,h2⟩:=hr
   exact ⟨R,h1,sh h2 (fun w=>cD _ _ _ _ _ _ w (by simp) (by simp))⟩
 ·rename_i xs ys
  obtain ⟨us,rfl,hus⟩:=cg hX
  obtain ⟨vs,rfl,hvs⟩:=cg hY
  have hm:=tU h
  refine (vi hG 100 t (.agg xs) (.agg ys) v V s s' _ _ l hR h hX hY 10000 (by omega)).mono (fun pe hu hr => ?_)
  obtain ⟨b,h1,h2⟩:=hr
  exact ⟨_,h1,sh (fun w=>mq rfl rfl t w (h2 w)) (fun w=>gT hG _ t xo yo rfl (fun _ _ _ _=>hm) w)⟩
 ·rename_i xs ys
  obtain ⟨us,rfl,hus⟩:=cg hX
  obtain ⟨vs,rfl,hvs⟩:=cg hY
  have key:∀{p:List aX} {b0 b1:AV} {s1:S},je g 100 t (.agg xs) (.agg ys) s=some (p,b0,s1)->(∀V':az,∀b,b0.conc V'=some (.bool b)->b1.conc V'=some (.bool !b))->
    ak P B w V s p s1 (fun V'=>∃R,b1.conc V'=some R/\∀w,(do eqGuard .neq t xo yo (.agg us.toArray) (.agg vs.toArray);binOp .neq t (.agg us.toArray) (.agg vs.toArray):Sem Value).run P w = .ok R w):=by
   intro p b0 b1 s1 h0 hb
   have hm:=tU h0
   refine (vi hG 100 t (.agg xs) (.agg ys) b0 V s _ _ _ p hR h0 hX hY 10000 (by omega)).mono (fun pe hu hr => ?_)
   obtain ⟨b,h1,h2⟩:=hr
   exact ⟨_,hb _ _ h1,sh (fun w=>mr rfl rfl t w (h2 w)) (fun w=>gT hG _ t xo yo rfl (fun _ _ _ _=>hm) w)⟩
  split at h
  ·rename_i p b0 s1 h0;cases h
   exact key h0 (fun V' b hb=>by simp only [AV.conc] at hb;cases hb;rfl)
  ·rename_i p c s1 h0;cases h
   exact key h0 (fun V' b hb=>iE hb (.inr ⟨_,rfl⟩))
  ·cases h
 ·simp only [AV.conc] at hY;cases hY
  refine (vk hG hR hX h).mono (fun pe hu hr => ?_)
  obtain ⟨p,e,q,n,c,h1,rfl,h3,h4⟩:=hr
  exact ⟨_,h1,sh (fun w=>by rw [<-h3];exact mq rfl rfl t w (oY w 9999 t e q n c 0 0 h4)) (fun w=>cD _ _ _ _ _ _ w (by simp) (by simp))⟩
 ·simp only [AV.conc] at hY;cases hY
  refine (vk hG hR hX h).mono (fun pe hu hr => ?_)
  obtain ⟨p,e,q,n,c,h1,rfl,h3,h4⟩:=hr
  exact ⟨_,h1,sh (fun w=>by rw [<-h3];exact mr rfl rfl t w (oY w 9999 t e q n c 0 0 h4)) (fun w=>cD _ _ _ _ _ _ w (by simp) (by simp))⟩
 ·cases c:(iZ x&&iZ y) with
  | false =>
   rw [c] at h;simp only [cond_false] at h
   unfold B3 at h
   split at h
   ·rename_i ti v' ht hv
    obtain ⟨a,b,rfl,rfl,h1,hv'⟩:=AE hv hX hY
    split at h
    ·have hd:ti.desc = .bool:=by assumption
     cases h
     exact ak.nil hR ⟨_,h1,sh (fun w=>mq rfl rfl t w (run_equalIn_bool w 9999 t a b (by rw [(hG.ty t ti ht).desc,hd]))) (fun w=>cD _ _ _ _ _ _ w (by simp) (by simp))⟩
    ·have hd:ti.desc = .bool:=by assumption
     cases h
     exact ak.nil hR ⟨_,iE h1 hv',sh (fun w=>mr rfl rfl t w (run_equalIn_bool w 9999 t a b (by rw [(hG.ty t ti ht).desc,hd]))) (fun w=>cD _ _ _ _ _ _ w (by simp) (by simp))⟩
    ·cases h
   ·cases h
  | true=>
   rw [c] at h;simp only [cond_true] at h
   simp only [Bool.and_eq_true] at c
   obtain ⟨p,h1,rfl⟩:=jY c.1 hX
   obtain ⟨q,h2,rfl⟩:=jY c.2 hY
   refine (Dr (P:=P) hR h1 h2 t h).mono (fun pe hu hr => ?_)
   obtain ⟨R,h1,h2⟩:=hr
   exact ⟨R,h1,sh h2 (fun w=>cD _ _ _ _ _ _ w (by simp) (by simp))⟩
end
end
section
open Go.RowKit
section
variable {P:Program} {g:G} {V:az} {s s':S} {B w:World} {a:A} {A:Act}
theorem BX (h:av P V s B w) {x:AV} {l:List UInt8} (hx:jd V.toPE x=some l) :
  ak P B w V s [.d (.slen x)] (aK s 0 9223372036854775807) (fun V'=>(IE.var (nI s)).val V'.σ=some (l.length:Int)):=fun K hK=>by
 simp only [aj,aX.sat,D.sat,hx] at hK
 obtain ⟨h1,h2,h3⟩:=hK _ rfl
 obtain ⟨r1,r2⟩:=jh h h1 h2
 exact ⟨_,qR _ _,h3,r1,r2⟩
theorem Do (hG:cv P g) (hR:av P V s B w) {t:TypeId} (ts:List TypeId) (ty:TypeId) {x v:AV} {X:Value} (xr:List Value) {l:List aX} (h:zR g s t x=some (l,v,s')) (hX:x.conc V=some X) :
  ak P B w V s l s' (fun V'=>∃R,v.conc V'=some R/\∀w,(Builtin.len_ ⟨t::ts⟩ ty (X::xr).toArray).run P w = .ok R w):=by
 unfold zR at h
 split at h
 ·cases h
 ·rename_i ti hti
  have hu:=(hG.ty _ _ hti).desc
  split at h
  ·rename_i e _ _ _ _ hd;cases h
   rw [hd] at hu
   obtain ⟨p,o,n,c,h1,h2,h3,h4,rfl⟩:=bX hX
   exact ak.nil hR ⟨.int .i64 n,dc (ao h3),fun w=>by simp [Builtin.len_,run_underlying hu,goInt]⟩
  ·rename_i hd;cases h
   rw [hd] at hu
   obtain ⟨l,h1,rfl⟩:=mu hX
   refine (BX hR (x := .sv _) h1).mono (fun pe hu' hr=>⟨_,dc hr,fun w => ?_⟩)
   have hs:(⟨l.toArray⟩:ByteArray).size=l.length:=by simp [ByteArray.size]
   simp [Builtin.len_,run_underlying hu,hs,goInt]
  ·cases h
theorem Dj (hG:cv P g) (hR:av P V s B w) {t:TypeId} (ts:List TypeId) (ty:TypeId) {x v:AV} {X:Value} (xr:List Value) {l:List aX} (h:zM g s t x=some (l,v,s')) (hX:x.conc V=some X) :
  ak P B w V s l s' (fun V'=>∃R,v.conc V'=some R/\∀w,(Builtin.cap_ ⟨t::ts⟩ ty (X::xr).toArray).run P w = .ok R w):=by
 unfold zM at h
 split at h
 ·cases h
 ·rename_i ti hti
  have hu:=(hG.ty _ _ hti).desc
  split at h
  ·rename_i e _ _ _ _ hd;cases h
   rw [hd] at hu
   obtain ⟨p,o,n,c,h1,h2,h3,h4,rfl⟩:=bX hX
   exact ak.nil hR ⟨.int .i64 c,dc (ao h4),fun w=>by simp [Builtin.cap_,run_underlying hu,goInt]⟩
  ·cases h
theorem Kh (mx:Bool) (k k':IntKind) (x y:Int) (w:World):((if mx then Builtin.max2 else Builtin.min2) (.int k x) (.int k' y)).run P w = .ok (.int k (bif mx then max x y else min x y)) w:=by
 cases mx
 ·have:(if y<x then y else x)=min x y:=by split<;>omega
  simp [Builtin.min2,this]
 ·have:(if y > x then y else x)=max x y:=by split<;>omega
  simp [Builtin.max2,this]
theorem xP (mx:Bool):∀(r:List AV) (V:az) (s s':S) (x v:AV) (X:Value) (xs:List Value) (l:List aX),av P V s B w->tW mx x r s=some (l,v,s')->x.conc V=some X->concL V r=some xs->
  ak P B w V s l s' (fun V'=>∃R,v.conc V'=some R/\∀w,(xs.foldlM (if mx then Builtin.max2 else Builtin.min2) X).run P w = .ok R w):=by
 intro r
 induction r with
 | nil=>intro V s s' x v X xs l hR h hX hr;cases hr;simp [tW] at h;obtain ⟨rfl,rfl,rfl⟩:=h;exact ak.nil hR ⟨X,hX,fun w=>rfl⟩
 | cons y ys ih =>
  intro V s s' x v X xs l hR h hX hr
  obtain ⟨Y,r',rfl,hY,hr'⟩:=ag hr
  unfold tW at h
  split at h
  ·rename_i h0;cases h0
  ·rename_i s _ _ s0 k a k' b r0 e1;cases e1
   obtain ⟨x1,hx1,rfl⟩:=aC hX
   obtain ⟨y1,hy1,rfl⟩:=aC hY
   cases ck:de k k' with
   | false=>rw [ck] at h;cases h
   | true =>
    rw [ck] at h;simp only [cond_true] at h
    split at h
    ·rename_i t ht
     have l1:=i5 hR.know _ _ _ ht hx1 hy1
     have hv:(AV.int k (bif mx then (bif t then b else a) else (bif t then a else b))).conc V=some (.int k (bif mx then max x1 y1 else min x1 y1)):=by
      apply dc
      cases mx<;>cases t<;>simp at l1<;>simp only [cond_true,cond_false]<;>first
       | (rw [hx1];congr 1;omega)
       | (rw [hy1];congr 1;omega)
     refine (ih V s s' _ v _ r' l hR h hv hr').mono (fun pe hu hr => ?_)
     obtain ⟨R,h1,h2⟩:=hr
     exact ⟨R,h1,fun w=>by rw [List.foldlM_cons,Sem.run_bind,Kh];exact h2 w⟩
    ·split at h
     ·rename_i p v1 s1 h1;cases h
      have hm:ak P B w V s [.d (.mm mx k a b)] (aK s k.min k.max) (fun V'=>(IE.var (nI s)).val V'.σ=some (bif mx then max x1 y1 else min x1 y1)):=fun K hK=>by
       simp only [aj,aX.sat,D.sat,hx1,hy1] at hK
       obtain ⟨h1,h2⟩:=hK _ rfl
       obtain ⟨r1,r2⟩:=jh hR h1.1 h1.2
       exact ⟨_,qR _ _,h2,r1,r2⟩
      refine ak.app (p:=[.d (.mm mx k a b)]) hm (fun pe hu r1 r2 => ?_)
      refine (ih (V.at pe) _ s' _ v _ r' p r1 h1 (dc r2) (aG (aD hu) hr')).mono (fun pe' hu' hr => ?_)
      obtain ⟨R,h1,h2⟩:=hr
      exact ⟨R,h1,fun w=>by rw [List.foldlM_cons,Sem.run_bind,Kh];exact h2 w⟩
     ·cases h
  ·cases h
theorem fO (hA:aN V a A) (hg:jC V s) {o:Option Operand} {d e:IE} (h:iq a s o d=some e) {n:Nat} (hn:d.val V.σ=some (n:Int)) :
  ∃z,e.val V.σ=some z/\((o=none/\z=n)\/∃x k,o=some x/\A.eval x = .int k z):=by
 unfold iq at h
 split at h
 ·cases h;exact ⟨n,hn,.inl ⟨rfl,rfl⟩⟩
 ·rename_i x
  split at h
  ·rename_i k e' hv;cases h
   obtain ⟨z,hz,hk⟩:=aC (au hA hg hv)
   exact ⟨z,hz,.inr ⟨x,k,rfl,hk⟩⟩
  ·cases h
theorem jy {lo hi:Option Operand} {len cap:Nat} {i j:Int} (b:Bool) (h1:(lo=none/\i=0)\/∃x k,lo=some x/\A.eval x = .int k i) (h2:(hi=none/\j=len)\/∃x k,hi=some x/\A.eval x = .int k j) (h0:0<=i) (hij:i<=j) (hjc:j<=cap) (w:World) :
  (Instr.sliceBounds b len cap (lo.map A.eval) (hi.map A.eval) none).run P w = .ok (i.toNat,j.toNat,cap) w:=by
 obtain ⟨i,rfl⟩:=Int.eq_ofNat_of_zero_le h0
 obtain ⟨j,rfl⟩:=Int.eq_ofNat_of_zero_le (Int.le_trans h0 hij)
 have sb:∀{n m:Nat} {k:IntKind} (h:n<=m) (code:BoundsCode) (w:World),(Instr.sliceBound (.int k n) m code).run P w = .ok n w:=fun h c w=>gr h c w
 have hij':i<=j:=by omega
 have hjc':j<=cap:=by omega
 simp only [Int.toNat_natCast]
 rcases h2 with ⟨rfl,e2⟩ | ⟨x,k,rfl,hx⟩<;>rcases h1 with ⟨rfl,e1⟩ | ⟨y,k',rfl,hy⟩
 ·have e1':i=0:=by omega
  have e2':j=len:=by omega
  subst e1';subst e2'
  simp only [Instr.sliceBounds,Option.map_none,Sem.run_bind,Sem.run_pure,Result.andThen_ok]
 ·have e2':j=len:=by omega
  subst e2'
  simp only [Instr.sliceBounds,Option.map_none,Option.map_some,hy,Sem.run_bind,Sem.run_pure,Result.andThen_ok,sb hij']
 ·have e1':i=0:=by omega
  subst e1'
  simp only [Instr.sliceBounds,Option.map_none,Option.map_some,hx,Sem.run_bind,Sem.run_pure,Result.andThen_ok,sb hjc']
 ·simp only [Instr.sliceBounds,Option.map_some,hx,hy,Sem.run_bind,Sem.run_pure,Result.andThen_ok,sb hij',sb hjc']
theorem dB {e:IE} (h:dv e=true):e = .lit 0:=by
 cases e<;>simp [dv,nJ] at h;rw [h]
theorem BZ (h:av P V s B w) {x:AV} {l:List UInt8} {lo hi:IE} {i j:Int} (hx:jd V.toPE x=some l) (h1:lo.val V.σ=some i) (h2:hi.val V.σ=some j) :
  ak P B w V s [.d (.ssub x lo hi)] (li s) (fun V'=>(0<=i/\i<=j/\j<=(l.length:Int))/\(AV.sv s.ns).conc V'=some (.string ⟨((l.drop i.toNat).take (j.toNat-i.toNat)).toArray⟩)):=fun K hK=>by
 simp only [aj,aX.sat,D.sat,hx,h1,h2] at hK
 obtain ⟨r1,r2⟩:=C5 h ((l.drop i.toNat).take (j.toNat-i.toNat))
 refine ⟨_,HR _ _,hK.2 _ rfl,r1,hK.1,?_⟩
 simp only [AV.conc]
 rw [show (V.at (iz V.toPE ((l.drop i.toNat).take (j.toNat-i.toNat)))).ς=(iz V.toPE ((l.drop i.toNat).take (j.toNat-i.toNat))).ς from rfl,r2]
theorem vU (h:av P V s B w) {e:IE} {z:Int} (he:e.val V.σ=some z):ak P B w V s [.d (.nat e)] (aK s 0 9223372036854775807) (fun V'=>(IE.var (nI s)).val V'.σ=some z):=fun K hK=>by
 simp only [aj,aX.sat,D.sat,he] at hK
 obtain ⟨n,rfl,h2,h3⟩:=hK
 obtain ⟨r1,r2⟩:=jh h (x:=(n:Int)) (lo:=0) (hi:=9223372036854775807) (by omega) (by omega)
 exact ⟨_,qR _ _,h3,r1,r2⟩
theorem xF {lo:Option Operand} {hi mx:Operand} {len cap:Nat} {h m:Int} {kh km:IntKind} (h1:(lo=none/\(0:Int)=0)\/∃x k,lo=some x/\A.eval x = .int k 0) (h2:A.eval hi = .int kh h) (h3:A.eval mx = .int km m) (h0:0<=h) (hhm:h<=m) (hmc:m<=cap) (w:World) :
  (Instr.sliceBounds true len cap (lo.map A.eval) (some (A.eval hi)) (some (A.eval mx))).run P w = .ok (0,h.toNat,m.toNat) w:=by
 obtain ⟨h,rfl⟩:=Int.eq_ofNat_of_zero_le h0
 obtain ⟨m,rfl⟩:=Int.eq_ofNat_of_zero_le (Int.le_trans h0 hhm)
 have sb:∀{n m:Nat} {k:IntKind} (h:n<=m) (code:BoundsCode) (w:World),(Instr.sliceBound (.int k n) m code).run P w = .ok n w:=fun h c w=>gr h c w
 have e1:h<=m:=by omega
 have e2:m<=cap:=by omega
 simp only [Int.toNat_natCast]
 rcases h1 with ⟨rfl,_⟩ | ⟨y,k',rfl,hy⟩
 ·simp only [Instr.sliceBounds,Option.map_none,Sem.run_bind,h2,h3,sb e2,sb e1,Result.andThen_ok,Sem.run_pure]
 ·have z:(Instr.sliceBound (.int k' 0) h .slice3C).run P w = .ok 0 w:=sb (n:=0) (Nat.zero_le h) _ w
  simp only [Instr.sliceBounds,Option.map_some,Option.isSome_some,if_true,Sem.run_bind,h2,h3,hy,sb e2,sb e1,z,Result.andThen_ok,Sem.run_pure]
theorem wt (hG:cv P g) (hR:av P V s B w) (hA:aN V a A) {t:TypeId} {e:TypeId} {ti te:TI} {b:Nat} {off len cap:IE} {X:Value} {lo:Option Operand} {hi mx:Operand} {i:IE} {h m:Int} (hti:g.ty.get t=some ti) (hd:ti.desc = .slice e) (hte:g.ty.get e=some te)
  (h1:iq a s lo (.lit 0)=some i) (h2:iq a s (some hi) (.lit 0)=some (.lit h)) (h3:iq a s (some mx) (.lit 0)=some (.lit m)) (hc:(dv i&&lf 0 h&&lf h m&&lf m 9223372036854775807)=true) (hX:(AV.sl b off len cap).conc V=some X) :
  ak P B w V s (dG s (.lit m) cap) s (fun V'=>∃R,(AV.sl b off (.lit h) (.lit m)).conc V'=some R/\∀w,(Instr.sliceAt t X (lo.map A.eval) (some (A.eval hi)) (some (A.eval mx))).run P w = .ok R w):=by
 have hg:=hR.globOk
 have hu:=(hG.ty _ _ hti).desc
 rw [hd] at hu
 have hsz:=fun w=>aB (w:=w) (hG.ty _ _ hte)
 simp only [Bool.and_eq_true,jG,decide_eq_true_eq] at hc
 obtain ⟨⟨⟨c0,c1⟩,c2⟩,c3⟩:=hc
 have:=dB c0;subst this
 obtain ⟨p,o,n,c,q1,q2,q3,q4,rfl⟩:=bX hX
 obtain ⟨zi,e1,b1⟩:=fO hA hg h1 (n:=0) rfl
 obtain ⟨zh,e2,b2⟩:=fO hA hg h2 (n:=0) rfl
 obtain ⟨zm,e3,b3⟩:=fO hA hg h3 (n:=0) rfl
 simp only [IE.val,Option.some.injEq] at e1 e2 e3
 subst e1;subst e2;subst e3
 have ec:=ao q4
 refine (fo hR (x := .lit m) rfl ec).mono (fun pe hu1 k1 => ?_)
 obtain ⟨x2,k2,j2,hx2⟩:=b2.resolve_left (fun h=>by cases h.1)
 obtain ⟨x3,k3,j3,hx3⟩:=b3.resolve_left (fun h=>by cases h.1)
 cases j2;cases j3
 refine ⟨.slice (p.map fun p=>p.add o) h.toNat m.toNat,?_,fun w => ?_⟩
 ·have t1:aQ pe.σ (.lit h)=some h.toNat:=bN rfl c1
  have t2:aQ pe.σ (.lit m)=some m.toNat:=bN rfl (by omega)
  simp only [AV.conc,qS,az.at_toPE,az.at_at,fp hu1.τ q1,bP hu1.σ q2,t1,t2]
 ·simp only [Instr.sliceAt,Sem.run_bind,run_underlying hu,Result.andThen_ok,Instr.slice]
  rw [xF (by simpa using b1) hx2 hx3 c1 c2 k1 w]
  simp only [Result.andThen_ok,hsz,Sem.run_pure,Nat.sub_zero,Nat.zero_mul]
  congr 2
  split
  ·rfl
  ·cases p<;>simp [Addr.add]
theorem xQ (hG:cv P g) (hR:av P V s B w) (hA:aN V a A) {t:TypeId} {x v:AV} {X:Value} {lo hi:Option Operand} {l:List aX} (h:tY g a s t x lo hi=some (l,v,s')) (hX:x.conc V=some X) :
  ak P B w V s l s' (fun V'=>∃R,v.conc V'=some R/\∀w,(Instr.sliceAt t X (lo.map A.eval) (hi.map A.eval) none).run P w = .ok R w):=by
 have hg:=hR.globOk
 unfold tY at h
 split at h
 ·cases h
 ·rename_i ti hti
  have hu:=(hG.ty _ _ hti).desc
  split at h
  ·rename_i e b off len cap hd
   rw [hd] at hu
   obtain ⟨p,o,n,c,q1,q2,q3,q4,rfl⟩:=bX hX
   split at h
   ·rename_i i j te h1 h2 hte
    obtain ⟨zi,e1,b1⟩:=fO hA hg h1 (n:=0) rfl
    obtain ⟨zj,e2,b2⟩:=fO hA hg h2 (n:=n) (ao q3)
    have ec:=ao q4
    have eo:=ao q2
    have hsz:=fun w=>aB (w:=w) (hG.ty _ _ hte)
    cases c0:dv i with
    | true =>
     rw [c0] at h;simp only [cond_true] at h;cases h
     have:=dB c0;subst this
     simp only [IE.val,Option.some.injEq] at e1;subst e1
     refine (fo hR (x := .lit 0) rfl e2).app (fun pe hu1 r1 k1 => ?_)
     refine (fo r1 (IE.val_up hu1.σ _ _ e2) (IE.val_up hu1.σ _ _ ec)).app (fun pe2 hu2 r2 k2 => ?_)
     have hup:=hu1.trans hu2
     simp only [az.at_at] at r2
     refine (vU r2 (IE.val_up hup.σ _ _ e2)).mono (fun pe3 hu3 k3 => ?_)
     have hup3:=hup.trans hu3
     refine ⟨.slice (p.map fun p=>p.add o) zj.toNat c,?_,fun w => ?_⟩
     ·have t1:aQ pe3.σ (.var (nI s))=some zj.toNat:=bN k3 k1
      simp only [AV.conc,qS,az.at_toPE,az.at_at,fp hup3.τ q1,bP hup3.σ q2,bP hup3.σ q4,t1]
     ·simp only [Instr.sliceAt,Sem.run_bind,run_underlying hu,Result.andThen_ok,Instr.slice]
      rw [jy true (i:=0) (j:=zj) (by simpa using b1) b2 (by omega) k1 k2 w]
      simp only [Result.andThen_ok,hsz,Sem.run_pure,Int.toNat_zero,Nat.sub_zero,Nat.zero_mul]
      congr 2
      split
      ·rfl
      ·cases p<;>simp [Addr.add]
    | false =>
     rw [c0] at h;simp only [cond_false] at h;cases h
     refine (fo hR (x := .lit 0) rfl e1).app (fun pe hu1 r1 k1 => ?_)
     refine (fo r1 (IE.val_up hu1.σ _ _ e1) (IE.val_up hu1.σ _ _ e2)).app (fun pe2 hu2 r2 k2 => ?_)
     have hup:=hu1.trans hu2
     refine (fo r2 (IE.val_up hup.σ _ _ e2) (IE.val_up hup.σ _ _ ec)).app (fun pe3 hu3 r3 k3 => ?_)
     have hup3:=hup.trans hu3
     simp only [az.at_at] at r3
     have hcut:ak P B w (V.at pe3) s [.d (.cut off cap i te.size)] (aK s 0 9223372036854775807) (fun V'=>(IE.var (nI s)).val V'.σ=some (if (c:Int)=zi then (o:Int) else (o:Int)+zi*(te.size:Int))/\0<=(if (c:Int)=zi then (o:Int) else (o:Int)+zi*(te.size:Int))):=fun K hK=>by
      simp only [aj,aX.sat,D.sat,az.at_toPE,IE.val_up hup3.σ _ _ eo,IE.val_up hup3.σ _ _ ec,IE.val_up hup3.σ _ _ e1] at hK
      obtain ⟨z,z1,z2,z3⟩:=hK
      obtain ⟨t1,t2⟩:=jh r3 (x:=(z:Int)) (lo:=0) (hi:=9223372036854775807) (by omega) (by omega)
      exact ⟨_,qR _ _,z3,t1,by rw [<-z1];exact t2,by rw [<-z1];omega⟩
     refine ak.app (p:=[.d (.cut off cap i te.size)]) hcut (fun pe4 hu4 r4 k4 => ?_)
     obtain ⟨m1,m2⟩:=k4
     have hup4:=hup3.trans hu4
     simp only [az.at_at] at r4
     refine ak.app (p:=[.d (.nat (we j i))]) (vU r4 (o9 (IE.val_up hup4.σ _ _ e2) (IE.val_up hup4.σ _ _ e1))) (fun pe5 hu5 r5 k5 => ?_)
     have hup5:=hup4.trans hu5
     simp only [az.at_at] at r5
     refine (vU r5 (o9 (IE.val_up hup5.σ _ _ ec) (IE.val_up hup5.σ _ _ e1))).mono (fun pe6 hu6 k6 => ?_)
     have hup6:=hup5.trans hu6
     have n1':nI (aK s 0 9223372036854775807)=Nat.succ (nI s):=by simp [nI,aK,aO]
     have n2':nI (aK (aK s 0 9223372036854775807) 0 9223372036854775807)=Nat.succ (Nat.succ (nI s)):=by simp [nI,aK,aO]
     rw [n1'] at k5;rw [n2'] at k6
     obtain ⟨i',rfl⟩:=Int.eq_ofNat_of_zero_le k1
     obtain ⟨j',rfl⟩:=Int.eq_ofNat_of_zero_le (Int.le_trans k1 k2)
     have hij:i'<=j':=by omega
     have hjc:j'<=c:=by omega
     have hoff:(if (c:Int)=(i':Int) then (o:Int) else (o:Int)+(i':Int)*(te.size:Int))=((if c=i' then o else o+i'*te.size:Nat):Int):=by
      by_cases hc:c=i'
      ·simp [hc]
      ·have:¬((c:Int)=(i':Int)):=by omega
       simp [hc,this]
     refine ⟨.slice (p.map fun p=>p.add (if c=i' then o else o+i'*te.size)) (j'-i') (c-i'),?_,fun w => ?_⟩
     ·have t1:aQ pe6.σ (.var (nI s))=some (if c=i' then o else o+i'*te.size):=by
       have:=bN (IE.val_up (hu5.trans hu6).σ _ _ m1) m2
       rw [this,hoff,Int.toNat_natCast]
      have t2:aQ pe6.σ (.var (Nat.succ (nI s)))=some (j'-i'):=by
       have:=bN (IE.val_up hu6.σ _ _ k5) (by omega)
       rw [this];congr 1;omega
      have t3:aQ pe6.σ (.var (Nat.succ (Nat.succ (nI s))))=some (c-i'):=by
       have:=bN (σ:=pe6.σ) k6 (by omega)
       rw [this];congr 1;omega
      simp only [AV.conc,qS,az.at_toPE,az.at_at,fp hup6.τ q1,t1,t2,t3]
     ·simp only [Instr.sliceAt,Sem.run_bind,run_underlying hu,Result.andThen_ok,Instr.slice]
      rw [jy true (i:=i') (j:=j') (by simpa using b1) b2 (by omega) (by omega) (by omega) w]
      simp only [Result.andThen_ok,hsz,Sem.run_pure,Int.toNat_natCast]
      congr 2
      by_cases hc:c=i'
      ·simp [hc]
      ·rw [if_neg hc]
       cases p<;>simp [add_add,hc]
   ·cases h
  ·rename_i x _ _ hd
   rw [hd] at hu
   cases cs:iZ x with
   | false=>rw [cs] at h;cases h
   | true =>
    rw [cs] at h;simp only [cond_true] at h
    obtain ⟨bs,hbs,rfl⟩:=jY cs hX
    have hs:(⟨bs.toArray⟩:ByteArray).size=bs.length:=by simp [ByteArray.size]
    split at h
    ·rename_i i hh h1
     split at h
     ·rename_i j h2;cases h
      obtain ⟨zi,e1,b1⟩:=fO hA hg h1 (n:=0) rfl
      obtain ⟨zj,e2,b2⟩:=fO hA hg h2 (n:=0) rfl
      refine (BZ hR hbs e1 e2).mono (fun pe hu1 hr=>⟨_,hr.2,fun w => ?_⟩)
      simp only [Instr.sliceAt,Sem.run_bind,run_underlying hu,Result.andThen_ok,Instr.slice,Option.isSome_none,Bool.false_eq_true,if_false,Sem.run_pure,hs]
      rw [jy false (i:=zi) (j:=zj) (by simpa using b1) (.inr (by rcases b2 with ⟨e,_⟩ | b2;cases e;exact b2)) hr.1.1 hr.1.2.1 (by have:=hr.1.2.2;omega) w]
      simp only [Result.andThen_ok,Sem.run_pure]
      rw [kN]
     ·cases h
    ·rename_i i h1;cases h
     obtain ⟨zi,e1,b1⟩:=fO hA hg h1 (n:=0) rfl
     refine ak.app (p:=[.d (.slen x)]) (BX hR hbs) (fun pe hu1 r1 k1 => ?_)
     have hbs':jd pe x=some bs:=by
      cases x<;>simp only [jd] at hbs ⊢ <;> first | exact hbs | exact hu1.ς _ _ hbs | cases hbs
     refine (BZ r1 hbs' (IE.val_up hu1.σ _ _ e1) k1).mono (fun pe2 hu2 hr=>⟨_,hr.2,fun w => ?_⟩)
     simp only [Instr.sliceAt,Sem.run_bind,run_underlying hu,Result.andThen_ok,Instr.slice,Option.isSome_none,Bool.false_eq_true,if_false,Sem.run_pure,hs]
     rw [jy false (i:=zi) (j:=(bs.length:Int)) (by simpa using b1) (.inl ⟨rfl,rfl⟩) hr.1.1 hr.1.2.1 (by omega) w]
     simp only [Result.andThen_ok,Sem.run_pure]
     rw [kN]
    ·cases h
  ·cases h
end
end
section
open Go.RowKit
section
variable {P:Program} {g:G} {V:az} {s s':S} {B w:World} {a:A} {A:Act}
theorem JK (h:av P V s B w) {b:Nat} {p:Option Addr} (hp:aM V.τ b=some p):ak P B w V s [.d (.nn b)] s (fun _=>p≠none):=fun K hK=>by
 simp only [aj,aX.sat,D.sat,hp] at hK
 exact ⟨V.toPE,dr.refl _,hK.2,h,hK.1⟩
theorem q9 (hG:cv P g) (hR:av P V s B w) {t:TypeId} {x i v:AV} {X I:Value} {l:List aX} (h:kY g s t x i=some (l,v,s')) (hX:x.conc V=some X) (hI:i.conc V=some I) :
  ak P B w V s l s' (fun V'=>∃R,v.conc V'=some R/\∀w,(Instr.indexAt t X I).run P w = .ok R w):=by
 unfold kY at h
 split at h
 ·rename_i ti b off len cap k e hti
  have hu:=(hG.ty _ _ hti).desc
  obtain ⟨p,o,n,c,h1,h2,h3,h4,rfl⟩:=bX hX
  obtain ⟨z,hz,rfl⟩:=aC hI
  split at h
  ·rename_i et hd
   rw [hd] at hu
   split at h
   ·rename_i te hte;cases h
    refine (fo hR (x := .lit 0) rfl hz).app (fun pe hu1 r1 k1 => ?_)
    refine (CT r1 (IE.val_up hu1.σ _ _ hz) (IE.val_up hu1.σ _ _ (ao h3))).app (fun pe2 hu2 r2 k2 => ?_)
    have hup:=hu1.trans hu2
    refine (JK r2 (fp hup.τ h1)).mono (fun pe3 hu3 k3 => ?_)
    have hup3:=hup.trans hu3
    obtain ⟨q,rfl⟩:=Option.ne_none_iff_exists'.1 k3
    have hv:=dR (IE.val_up hup3.σ _ _ (ao h2)) (xi (IE.val_up hup3.σ _ _ hz) (show (IE.lit (Int.ofNat te.size)).val pe3.σ=some (te.size:Int) from rfl))
    obtain ⟨m,rfl⟩:=Int.eq_ofNat_of_zero_le k1
    refine ⟨.pointer (some (q.add (o+m*te.size))),?_,fun w => ?_⟩
    ·have hn:=bN hv (by have:(0:Int)<=(m:Int)*(te.size:Int):=Int.mul_nonneg (by omega) (by omega);omega)
     simp only [AV.conc,HV,az.at_toPE,az.at_at,fp hup3.τ h1,hn]
     congr 3
    ·have hb:(0:Int)<=(m:Int)/\(m:Int)<(n:Int):=⟨k1,k2⟩
     simp only [Instr.indexAt,asIntOf,Sem.run_bind,Sem.run_pure,Result.andThen_ok,run_underlying hu,Option.map_some,Sem.run_ite,if_pos hb,aB (hG.ty _ _ hte),Int.toNat_natCast,add_add]
   ·cases h
  ·cases h
 ·cases h
theorem xO (hG:cv P g) (hR:av P V s B w) {t:TypeId} (hu:P.underlying t=some .string) {x i v:AV} {X I:Value} {l:List aX} (h:tV s x i=some (l,v,s')) (hX:x.conc V=some X) (hI:i.conc V=some I) :
  ak P B w V s l s' (fun V'=>∃R,v.conc V'=some R/\∀w,(Instr.index t X I).run P w = .ok R w):=by
 unfold tV at h
 split at h
 ·rename_i k e
  cases cs:iZ x with
  | false=>rw [cs] at h;cases h
  | true =>
   rw [cs] at h;simp only [cond_true] at h;cases h
   obtain ⟨bs,hbs,rfl⟩:=jY cs hX
   obtain ⟨z,hz,rfl⟩:=aC hI
   intro K hK
   simp only [aj,aX.sat,D.sat,hbs,hz] at hK
   obtain ⟨⟨h1,h2⟩,h3⟩:=hK
   obtain ⟨n,rfl⟩:=Int.eq_ofNat_of_zero_le h1
   simp only [Int.toNat_natCast] at h3
   have b1:(0:Int)<=((bs.getD n 0).toNat:Int):=by omega
   have b2:((bs.getD n 0).toNat:Int)<=255:=by have:=(bs.getD n 0).toNat_lt;omega
   obtain ⟨r1,r2⟩:=jh hR b1 b2
   refine ⟨_,qR _ _,h3 _ rfl b1 b2,r1,_,dc r2,fun w => ?_⟩
   have hn:n<bs.length:=by omega
   have hs:n<(⟨bs.toArray⟩:ByteArray).size:=by simpa [ByteArray.size] using hn
   have hb2:(⟨bs.toArray⟩:ByteArray)[n]? = some (bs.getD n 0):=by
    rw [getElem?_pos (⟨bs.toArray⟩:ByteArray) n hs]
    congr 1
    simp [List.getElem?_eq_getElem hn]
    rfl
   simp only [Instr.index,asIntOf,Sem.run_bind,Sem.run_pure,Result.andThen_ok,run_underlying hu,if_pos h1,Int.toNat_natCast,hb2]
 ·cases h
theorem vx (hR:av P V s B w) {b:Nat} {off:IE} {q:Addr} {o:Nat} (hq:aM V.τ b=some (some q)) (ho:aQ V.σ off=some o):∀(n i:Nat),(∀j,j<n->∃v,df V.mem ((q.add o).add (i+j))=some v/\bK v=some v)->
  ∃vs:List Value,vs.length=n/\concL V (mt b off n i)=some vs/\(∀j x,vs[j]? = some x->df V.mem ((q.add o).add (i+j))=some x)/\
   ky V ((mt b off n i).filterMap fun | .cl a o=>some (a,none,o) | _=>none) ((List.range' i n).zip vs |>.map fun (j,x)=>((q.add o).add j,x)):=by
 intro n
 induction n with
 | zero=>intro i _;exact ⟨[],rfl,rfl,fun j x h=>by simp at h,trivial⟩
 | succ n ih =>
  intro i h
  obtain ⟨v,h1,h2⟩:=h 0 (by omega)
  rw [Nat.add_zero] at h1
  obtain ⟨vs,e1,e2,e3,e4⟩:=ih (i+1) (fun j hj=>by
   have:=h (j+1) (by omega)
   rwa [show i+(j+1)=i+1+j by omega] at this)
  have hp:=oU i ho
  refine ⟨v::vs,by simp [e1],ax ?_ e2,fun j x hx => ?_,?_⟩
  ·show nc V.toPE b (lh off i)=some v
   exact rY hq hp (by rw [<-add_add];exact h1) h2
  ·cases j with
   | zero=>simp at hx;subst hx;exact h1
   | succ j=>simp at hx;have:=e3 j x hx;rwa [show i+1+j=i+(j+1) by omega] at this
  ·simp only [mt,List.filterMap_cons,List.range'_succ,List.zip_cons_cons,List.map_cons]
   exact ⟨⟨q,o+i,hq,hp,by rw [add_add],h1⟩,e4⟩
theorem zb (hR:av P V s B w) {a:Nat} {ow:cL} (hw:bB s.own a=some ow) (hm:ow.m=false) {off:IE} {q:Addr} {o:Nat} {row:List Value} (hq:aM V.τ a=some (some q)) (hr:aA V.ρ ow.r=some row) (ho:aQ V.σ off=some o):∀(n i:Nat),o+i+n<=row.length->
  ∃vs:List Value,vs.length=n/\concL V (u6 ow.r off n i)=some vs/\(∀j x,vs[j]? = some x->w.cell? ((q.add o).add (i+j))=some x)/\
   ky V (BV a ow.r off n i) ((List.range' i n).zip vs |>.map fun (j,x)=>((q.add o).add j,x)):=by
 intro n
 induction n with
 | zero=>intro i _;exact ⟨[],rfl,rfl,fun j x h=>by simp at h,trivial⟩
 | succ n ih =>
  intro i h
  obtain ⟨v,h1⟩:∃v,row[o+i]? = some v:=⟨_,List.getElem?_eq_getElem (by omega)⟩
  have h2:=BH hR hw hm hr v (List.mem_of_getElem? h1)
  obtain ⟨vs,e1,e2,e3,e4⟩:=ih (i+1) (by omega)
  have hp:=oU i ho
  have hh:lw V a (some ow.r) (lh off i) ((q.add o).add i) v:=⟨q,o+i,hq,hp,by rw [add_add],row,hr,h1⟩
  refine ⟨v::vs,by simp [e1],ax ?_ e2,fun j x hx => ?_,?_⟩
  ·show tJ V.toPE ow.r (lh off i)=some v
   exact oX hr hp h1 h2
  ·cases j with
   | zero=>simp at hx;subst hx;exact tw hR hw hm hh
   | succ j=>simp at hx;have:=e3 j x hx;rwa [show i+1+j=i+(j+1) by omega] at this
  ·simp only [BV,List.range'_succ,List.zip_cons_cons,List.map_cons]
   exact ⟨hh,e4⟩
theorem zS (hG:cv P g) (hR:av P V s B w) {t:TypeId} {x v:AV} {X:Value} {l:List aX} {hs:List HX} (h:wn g s t x=some (l,v,s',hs)) (hX:x.conc V=some X) :
  ak P B w V s l s' (fun V'=>∃R c,v.conc V'=some R/\ky V' hs c/\Ju c w/\∀w',Ju c w'->(Instr.loadAt t X).run P w' = .ok R w'):=by
 unfold wn at h
 split at h
 ·rename_i ti b off hti
  have hT:=hG.ty _ _ hti
  obtain ⟨q,o,h1,h2,rfl⟩:=jf hX
  split at h
  ·rename_i ow how
   cases hm:ow.m with
   | true=>rw [hm] at h;cases h
   | false=>
   rw [hm] at h
   simp only [cond_false] at h
   obtain ⟨row,hrow⟩:∃row,aA V.ρ ow.r=some row:=by
    obtain ⟨_,l',_,_,_,m2,_⟩:=hR.own.ok ow (bd how).1
    exact ⟨l',m2⟩
   have fromL:∀{vs:List Value} {w':World},Ju ((List.range' 0 vs.length).zip vs |>.map fun (j,x)=>((q.add o).add j,x)) w'->∀j y,vs[j]? = some y->w'.cell? ((q.add o).add j)=some y:=by
    intro vs w' hw j y hy
    have hjl:j<vs.length:=(List.getElem?_eq_some_iff.1 hy).1
    refine hw _ y ?_
    simp only [List.mem_map]
    refine ⟨(j,y),?_,rfl⟩
    refine List.mem_of_getElem? (i:=j) ?_
    rw [List.getElem?_zip_eq_some]
    exact ⟨by rw [List.getElem?_range' (by omega)];simp,hy⟩
   cases c:fa ti.desc with
   | true =>
    rw [c] at h;simp only [cond_true] at h;cases h
    intro K hK
    simp only [aj,aX.sat,D.sat,hrow,ao h2] at hK
    obtain ⟨⟨_,hlen⟩,hK⟩:=hK
    obtain ⟨vs,e1,e2,e3,e4⟩:=zb hR how hm h1 hrow h2 ti.size 0 (by omega)
    refine ⟨V.toPE,dr.refl _,hK,hR,_,_,gd e2,e4,?_,fun w' hw => ?_⟩
    ·intro p x hm
     simp only [List.mem_map] at hm
     obtain ⟨⟨j,y⟩,hm1,hm2⟩:=hm
     cases hm2
     obtain ⟨i,hi⟩:=List.getElem?_of_mem hm1
     rw [List.getElem?_zip_eq_some] at hi
     obtain ⟨i1,i2⟩:=hi
     have hil:i<vs.length:=(List.getElem?_eq_some_iff.1 i2).1
     rw [List.getElem?_range' (by omega)] at i1
     have:=Option.some.inj i1
     have e:=e3 i _ i2
     rw [show 0+i=j by omega] at e;exact e
    ·have hcell:=fromL (vs:=vs) (w':=w') (by rw [e1];exact hw)
     simp only [Instr.loadAt,Instr.sureAddr,Sem.run_bind,Sem.run_pure,Result.andThen_ok,loadVar,dI hT,c,if_true,aB hT,<-e1]
     rw [run_loadCells_list w' (q.add o) vs hcell]
     rfl
   | false =>
    rw [c] at h;simp only [cond_false] at h;cases h
    intro K hK
    simp only [aj,aX.sat,D.sat,hrow,ao h2] at hK
    obtain ⟨⟨_,hlen⟩,hK⟩:=hK
    obtain ⟨y,y1⟩:∃v,row[o]? = some v:=⟨_,List.getElem?_eq_getElem (by omega)⟩
    have y2:=BH hR how hm hrow y (List.mem_of_getElem? y1)
    have hh:lw V b (some ow.r) off (q.add o) y:=⟨q,o,h1,h2,rfl,row,hrow,y1⟩
    have hc:=tw hR how hm hh
    refine ⟨V.toPE,dr.refl _,hK,hR,y,[(q.add o,y)],?_,⟨hh,trivial⟩,?_,fun w' hw => ?_⟩
    ·show tJ V.toPE ow.r off=some y
     exact oX hrow h2 y1 y2
    ·intro p x hm
     cases hm with
     | head=>exact hc
     | tail _ hm=>cases hm
    ·have:=hw _ y (List.mem_cons_self ..)
     simp only [Instr.loadAt,Instr.sureAddr,Sem.run_bind,Sem.run_pure,Result.andThen_ok,loadVar,dI hT,c,Bool.false_eq_true,if_false,run_load,this]
  ·cases c:fa ti.desc with
   | true =>
    rw [c] at h;simp only [cond_true] at h;cases h
    intro K hK
    simp only [aj,aX.sat,D.sat,h1,ao h2] at hK
    obtain ⟨⟨q',o',e1,e2,hn⟩,hK⟩:=hK
    cases e1
    have e3:o'=o:=by have:(o:Int)=(o':Int):=e2;omega
    rw [e3] at hn
    obtain ⟨vs,e1,e2,e3,e4⟩:=vx hR h1 h2 ti.size 0 (fun j hj=>by rw [Nat.zero_add];exact hn j hj)
    refine ⟨V.toPE,dr.refl _,hK,hR,_,_,gd e2,e4,?_,fun w' hw => ?_⟩
    ·intro p x hm
     simp only [List.mem_map] at hm
     obtain ⟨⟨j,y⟩,hm1,hm2⟩:=hm
     cases hm2
     obtain ⟨i,hi⟩:=List.getElem?_of_mem hm1
     rw [List.getElem?_zip_eq_some] at hi
     obtain ⟨i1,i2⟩:=hi
     have hil:i<vs.length:=(List.getElem?_eq_some_iff.1 i2).1
     rw [List.getElem?_range' (by omega)] at i1
     have:=Option.some.inj i1
     have e:=tg hR (e3 i _ i2)
     rw [show 0+i=j by omega] at e;exact e
    have hcell:∀j y,vs[j]? = some y->w'.cell? ((q.add o).add j)=some y:=by
     intro j y hy
     have hjl:j<vs.length:=(List.getElem?_eq_some_iff.1 hy).1
     refine hw _ y ?_
     simp only [List.mem_map]
     refine ⟨(j,y),?_,rfl⟩
     refine List.mem_of_getElem? (i:=j) ?_
     rw [List.getElem?_zip_eq_some]
     exact ⟨by rw [List.getElem?_range' (by omega)];simp,hy⟩
    simp only [Instr.loadAt,Instr.sureAddr,Sem.run_bind,Sem.run_pure,Result.andThen_ok,loadVar,dI hT,c,if_true,aB hT,<-e1]
    rw [run_loadCells_list w' (q.add o) vs hcell]
    rfl
   | false =>
    rw [c] at h;simp only [cond_false] at h;cases h
    intro K hK
    simp only [aj,aX.sat,D.sat,h1,ao h2] at hK
    obtain ⟨⟨q',o',e1,e2,hn⟩,hK⟩:=hK
    cases e1
    have e3:o'=o:=by have:(o:Int)=(o':Int):=e2;omega
    rw [e3] at hn
    obtain ⟨y,y1,y2⟩:=hn 0 (by omega)
    have hz:(q.add o).add 0=q.add o:=by simp [Addr.add]
    rw [hz] at y1
    refine ⟨V.toPE,dr.refl _,hK,hR,y,[(q.add o,y)],?_,⟨⟨q,o,h1,h2,rfl,y1⟩,trivial⟩,?_,fun w' hw => ?_⟩
    ·show nc V.toPE b off=some y
     exact rY h1 h2 y1 y2
    ·intro p x hm
     cases hm with
     | head=>exact tg hR y1
     | tail _ hm=>cases hm
    ·have:=hw _ y (List.mem_cons_self ..)
     simp only [Instr.loadAt,Instr.sureAddr,Sem.run_bind,Sem.run_pure,Result.andThen_ok,loadVar,dI hT,c,Bool.false_eq_true,if_false,run_load,this]
 ·cases h
theorem fX {r:kF} {p:List aX} {v:AV} {hs:List HX} (h:lY r=some (p,v,s',hs)):r=some (p,v,s')/\hs=[]:=by
 unfold lY at h
 split at h
 ·cases h;exact ⟨rfl,rfl⟩
 ·cases h
theorem B2 (hG:cv P g) (hR:av P V s B w) (hA:aN V a A) {o:Oper} {l:List aX} {v:AV} {hs:List HX} (h:Fm g a s o=some (l,v,s',hs)) :
  ak P B w V s l s' (Jx P A w o v hs):=by
 have hg:=hR.globOk
 have val:∀{m:Sem Value} {V':az},hs=[]->(∃R,v.conc V'=some R/\∀w,m.run P w = .ok R w)->execOp A.eval o=(do pure (Next.value (<-m)):Sem Next)->Jx P A w o v hs V':=by
  rintro m V' rfl ⟨R,h1,h2⟩ he
  exact ⟨R,[],h1,trivial,(fun p x h=>by cases h),fun w' _=>by rw [he];simp only [Sem.run_bind,h2,Result.andThen_ok,Sem.run_pure]⟩
 obtain ⟨dst,op,type,pos,after,guard⟩:=o
 unfold Fm at h
 simp only at h
 split at h
 ·-- binOp
  rename_i op t x y yt
  split at h
  ·rename_i x' y' hx hy
   obtain ⟨h',rfl⟩:=fX h;clear h
   exact (Di hG hR x y h' (au hA hg hx) (au hA hg hy)).mono (fun pe hu hr=>val rfl hr rfl)
  ·cases h
 ·-- not
  rename_i t x
  split at h
  ·rename_i c hx;cases h
   obtain ⟨z,hz,e⟩:=fm (au hA hg hx)
   refine ak.nil hR (val rfl ⟨_,iE (eZ hz) (.inr ⟨_,rfl⟩),fun w => ?_⟩ rfl)
   rw [e];rfl
  ·cases h
 ·-- neg
  rename_i t x
  split at h
  ·rename_i k e hx
   obtain ⟨h',rfl⟩:=fX h;clear h
   obtain ⟨z,hz,eX⟩:=aC (au hA hg hx)
   refine (vj (P:=P) hR (x := .lit 0) rfl hz 0 h').mono (fun pe hu hr => ?_)
   obtain ⟨R,h1,h2⟩:=hr
   refine val (m:=Op.unary .neg (A.eval x)) rfl ⟨R,h1,fun w => ?_⟩ rfl
   rw [eX]
   have:=h2 w
   simp only [binOp,ne_eq,not_true,if_false] at this
   exact this
  ·cases h
 ·-- convert
  rename_i t u x
  split at h
  ·rename_i k0 e tu ti hx hu' ht'
   obtain ⟨z,hz,hX⟩:=aC (au hA hg hx)
   have hu:=(hG.ty _ _ hu').desc
   have ht:=(hG.ty _ _ ht').desc
   split at h
   ·rename_i k hd;cases h
    rw [hd] at hu
    have wr:k.min<=k.wrap z/\k.wrap z<=k.max:=by
     cases k<;>simp [IntKind.min,IntKind.max,IntKind.wrap,IntKind.signed,IntKind.bits]<;>(try split)<;>omega
    intro K hK
    simp only [aj,aX.sat,D.sat,hz] at hK
    obtain ⟨r1,r2⟩:=jh hR wr.1 wr.2
    refine ⟨_,qR _ _,hK _ rfl wr.1 wr.2,r1,val rfl ⟨_,dc r2,fun w => ?_⟩ rfl⟩
    rw [hX]
    simp only [convert,Sem.run_bind,run_underlying ht,run_underlying hu,Result.andThen_ok]
    cases ti.desc<;>rfl
   ·cases h
  ·cases h
 ·-- pick
  rename_i c x y
  split at h
  ·rename_i cb k p k' q hc hx hy
   cases ck:de k k' with
   | false=>rw [ck] at h;cases h
   | true=>
    rw [ck] at h;simp only [cond_true] at h;cases h
    have:=cF ck;subst this
    obtain ⟨zc,hzc,ec⟩:=fm (au hA hg hc)
    obtain ⟨zx,hzx,ex⟩:=aC (au hA hg hx)
    obtain ⟨zy,hzy,ey⟩:=aC (au hA hg hy)
    intro K hK
    simp only [aj,aX.sat,D.sat,hzc,hzx,hzy] at hK
    obtain ⟨h1,h2⟩:=hK _ rfl
    obtain ⟨r1,r2⟩:=jh hR h1.1 h1.2
    refine ⟨_,qR _ _,h2,r1,_,[],dc r2,trivial,(fun p x h=>by cases h),fun w' _ => ?_⟩
    simp only [execOp,ec,ex,ey,asBool]
    cases zc<;>simp
  ·cases h
 ·-- slice, with a capacity
  rename_i t x lo hi mx
  split at h
  ·rename_i b off len cap i hh m ti hx h1 h2 h3 hti
   split at h
   ·rename_i e hd
    split at h
    ·rename_i te hte
     cases c:(dv i&&lf 0 hh&&lf hh m&&lf m 9223372036854775807) with
     | false=>rw [c] at h;cases h
     | true=>
      rw [c] at h;simp only [cond_true] at h;cases h
      exact (wt hG hR hA hti hd hte h1 h2 h3 c (au hA hg hx)).mono (fun pe hu hr=>val rfl hr rfl)
    ·cases h
   ·cases h
  ·cases h
 ·-- slice
  rename_i t x lo hi
  split at h
  ·rename_i x' hx
   obtain ⟨h',rfl⟩:=fX h;clear h
   exact (xQ hG hR hA h' (au hA hg hx)).mono (fun pe hu hr=>val rfl hr rfl)
  ·cases h
 ·-- indexAddr
  rename_i t x i
  split at h
  ·rename_i x' i' hx hi
   obtain ⟨h',rfl⟩:=fX h;clear h
   exact (q9 hG hR h' (au hA hg hx) (au hA hg hi)).mono (fun pe hu hr=>val rfl hr rfl)
  ·cases h
 ·-- index
  rename_i t x i
  split at h
  ·rename_i x' i' hx hi
   split at h
   ·rename_i ti hti
    have hu:=(hG.ty _ _ hti).desc
    split at h
    ·rename_i hd
     rw [hd] at hu
     obtain ⟨h',rfl⟩:=fX h;clear h
     exact (xO hG hR hu h' (au hA hg hx) (au hA hg hi)).mono (fun pe hu hr=>val rfl hr rfl)
    ·cases h
   ·cases h
  ·cases h
 ·-- load
  rename_i t x
  split at h
  ·rename_i x' hx
   refine (zS hG hR h (au hA hg hx)).mono (fun pe hu hr => ?_)
   obtain ⟨R,c,h1,h2,hat,h3⟩:=hr
   refine ⟨R,c,h1,h2,hat,fun w' hw => ?_⟩
   simp only [execOp,Sem.run_bind,h3 w' hw,Result.andThen_ok,Sem.run_pure]
  ·cases h
 ·-- a builtin
  rename_i c
  obtain ⟨callee,args,⟨argTypes⟩⟩:=c
  obtain ⟨h',rfl⟩:=fX h;clear h
  unfold B4 at h'
  simp only at h'
  have e:(args.map A.eval)=(args.toList.map A.eval).toArray:=by apply Array.ext';simp
  split at h'
  ·rename_i t ts x r has
   obtain ⟨X,xr,exs,hX,_⟩:=ag (iu hA hg has)
   refine (Do hG hR ts type xr h' hX).mono (fun pe hu hr=>val rfl hr ?_)
   simp only [execOp,resolve,pure_bind,invoke,e,exs]
   rfl
  ·rename_i t ts x r has
   obtain ⟨X,xr,exs,hX,_⟩:=ag (iu hA hg has)
   refine (Dj hG hR ts type xr h' hX).mono (fun pe hu hr=>val rfl hr ?_)
   simp only [execOp,resolve,pure_bind,invoke,e,exs]
   rfl
  ·rename_i x r has
   obtain ⟨X,xr,exs,hX,hr⟩:=ag (iu hA hg has)
   refine (xP (P:=P) true _ V s s' x v X xr l hR h' hX hr).mono (fun pe hu hr => ?_)
   obtain ⟨R,h1,h2⟩:=hr
   simp only [if_true] at h2
   refine ⟨R,[],h1,trivial,(fun p x h=>by cases h),fun w' _ => ?_⟩
   have e3:∀ats:Array TypeId,(Builtin.max_ ats type (X::xr).toArray).run P w' = .ok R w':=fun _=>h2 w'
   simp only [execOp,resolve,pure_bind,invoke,e,exs]
   show (do pure (Next.value (<-Builtin.max_ _ _ _)):Sem Next).run P w'=_
   simp only [Sem.run_bind,e3,Result.andThen_ok,Sem.run_pure]
  ·rename_i x r has
   obtain ⟨X,xr,exs,hX,hr⟩:=ag (iu hA hg has)
   refine (xP (P:=P) false _ V s s' x v X xr l hR h' hX hr).mono (fun pe hu hr => ?_)
   obtain ⟨R,h1,h2⟩:=hr
   simp only [Bool.false_eq_true,if_false] at h2
   refine ⟨R,[],h1,trivial,(fun p x h=>by cases h),fun w' _ => ?_⟩
   have e3:∀ats:Array TypeId,(Builtin.min_ ats type (X::xr).toArray).run P w' = .ok R w':=fun _=>h2 w'
   simp only [execOp,resolve,pure_bind,invoke,e,exs]
   show (do pure (Next.value (<-Builtin.min_ _ _ _)):Sem Next).run P w'=_
   simp only [Sem.run_bind,e3,Result.andThen_ok,Sem.run_pure]
  ·cases h'
 ·cases h
end
end
section
open Go.RowKit
theorem Bp {α:Type}:∀(l r:List α) (n:Nat),l.length=n->gn n (l++r)=some l:=by
 intro l
 induction l with
 | nil=>intro r n h;subst h;cases r<;>rfl
 | cons x l ih=>
  intro r n h
  subst h
  simp only [List.cons_append,List.length_cons,gn,ih r l.length rfl]
def fU:List IntKind->List Int->List AV
 | k::ks,z::zs => .int k (.lit z)::fU ks zs
 | _,_=>[]
def jn:List IntKind->List Int->List Value
 | k::ks,z::zs => .int k z::jn ks zs
 | _,_=>[]
theorem uR:∀(l r:List IntKind) (xs ys:List Int),l.length=xs.length->fU (l++r) (xs++ys)=fU l xs++fU r ys:=by
 intro l
 induction l with
 | nil=>intro r xs ys h;cases xs with | nil=>rfl | cons _ _=>cases h
 | cons k l ih =>
  intro r xs ys h
  cases xs with
  | nil=>cases h
  | cons x xs=>
   simp only [List.length_cons,Nat.succ.injEq] at h
   simp only [List.cons_append,fU,ih r xs ys h]
theorem uS:∀(l:List IntKind) (xs:List Int),l.length=xs.length->(fU l xs).length=l.length:=by
 intro l
 induction l with
 | nil=>intro xs h;cases xs<;>rfl
 | cons k l ih=>
  intro xs h
  cases xs with
  | nil=>cases h
  | cons x xs=>simp only [List.length_cons,Nat.succ.injEq] at h;simp only [fU,List.length_cons,ih xs h]
theorem sV (V:az):∀(l:List IntKind) (xs:List Int),concL V (fU l xs)=some (jn l xs):=by
 intro l
 induction l with
 | nil=>intro xs;exact cA V
 | cons k l ih=>
  intro xs
  cases xs with
  | nil=>exact cA V
  | cons x xs=>exact ax rfl (ih xs)
theorem w6 (k:IntKind):de k k=true:=by cases k<;>rfl
theorem vh {α:Type} {l:List α} {a b:Nat} (h:l.length=a+b):∃x y,l=x++y/\x.length=a/\y.length=b:=
 ⟨l.take a,l.drop a,(List.take_append_drop a l).symm,by rw [List.length_take];omega,by rw [List.length_drop];omega⟩
theorem ym {α:Type} [DecidableEq α] {a b c d:List α} (h:a.length=b.length):(decide (a=b)&&decide (c=d))=decide (a++c=b++d):=by
 rw [Bool.eq_iff_iff]
 simp only [Bool.and_eq_true,decide_eq_true_eq]
 constructor
 ·rintro ⟨rfl,rfl⟩;rfl
 ·intro e;exact List.append_inj e h
def DA (g:G) (K:ew) (d:Nat) (t:TypeId) (ks:List IntKind):Prop:=∀zs ws:List Int,zs.length=ks.length->ws.length=ks.length->
 ∃ti,g.ty.get t=some ti/\(fa ti.desc=true->vD g K d t (.agg (fU ks zs)) (.agg (fU ks ws))=some (decide (zs=ws)))/\
  (fa ti.desc=false->∃k z w,ks=[k]/\zs=[z]/\ws=[w]/\vD g K d t (.int k (.lit z)) (.int k (.lit w))=some (decide (zs=ws)))
theorem uk {g : G} {K : ew} {d : Nat} (ih : ∀ t ks, iB g d t = some ks -> DA g K d t ks) : ∀ (fs : List Field) (o : Nat) (r : List IntKind), oK (iB g d) g fs o = some r ->
  ∀(X Y:List AV) (xs ys:List Int),X.drop o=fU r xs->Y.drop o=fU r ys->xs.length=r.length->ys.length=r.length->eqFields (vD g K d) g X Y fs=some (decide (xs=ys)):=by
 intro fs
 induction fs with
 | nil=>
  intro o r h X Y xs ys _ _ hx hy
  cases h
  rw [List.length_eq_zero_iff.1 hx,List.length_eq_zero_iff.1 hy]
  rfl
 | cons f fs ihf =>
  intro o r h X Y xs ys hX hY hx hy
  simp only [oK] at h
  cases cn:(f.name=="_") with
  | true=>rw [cn] at h;cases h
  | false =>
   rw [cn] at h;simp only [cond_false] at h
   cases co:Nat.beq f.offset o with
   | false=>rw [co] at h;cases h
   | true =>
    rw [co] at h;simp only [cond_true] at h
    have hoff:f.offset=o:=by simpa [bt] using co
    split at h
    ·rename_i l ti hl hti
     cases cs:Nat.beq ti.size (bF l) with
     | false=>rw [cs] at h;cases h
     | true =>
      rw [cs] at h;simp only [cond_true] at h
      have hsz:ti.size=l.length:=by rw [aO] at cs;simpa [bt] using cs
      split at h
      ·rename_i r2 hr2
       cases h
       rw [aO] at hr2
       rw [List.length_append] at hx hy
       obtain ⟨x1,x2,rfl,hx1,hx2⟩:=vh hx
       obtain ⟨y1,y2,rfl,hy1,hy2⟩:=vh hy
       rw [uR _ _ _ _ hx1.symm] at hX
       rw [uR _ _ _ _ hy1.symm] at hY
       have lx:=uS l x1 hx1.symm
       have ly:=uS l y1 hy1.symm
       have dX:X.drop (Nat.add o l.length)=fU r2 x2:=by
        show X.drop (o+l.length)=_
        rw [<-List.drop_drop,hX,<-lx,List.drop_left]
       have dY:Y.drop (Nat.add o l.length)=fU r2 y2:=by
        show Y.drop (o+l.length)=_
        rw [<-List.drop_drop,hY,<-ly,List.drop_left]
       have hrest:=ihf (Nat.add o l.length) r2 hr2 X Y x2 y2 dX dY hx2 hy2
       obtain ⟨ti',hti',hagg,hone⟩:=ih f.type l hl x1 y1 hx1 hy1
       rw [hti] at hti';cases hti'
       have fin:∀a b,iw g f.type X f.offset=some a->iw g f.type Y f.offset=some b->vD g K d f.type a b=some (decide (x1=y1))->eqFields (vD g K d) g X Y (f::fs)=some (decide (x1++x2=y1++y2)):=fun a b ha hb he=>by
        simp only [eqFields,cn,cond_false,ha,hb,he]
        rw [<-ym (by omega:x1.length=y1.length)]
        cases hd:decide (x1=y1) with
        | true=>simp only [Bool.true_and];exact hrest
        | false=>simp only [Bool.false_and]
       cases ca:fa ti.desc with
       | true =>
        refine fin (.agg (fU l x1)) (.agg (fU l y1)) ?_ ?_ (hagg ca)
        ·simp only [iw,hti,ca,cond_true,ic,hoff,hX]
         rw [Bp _ _ _ (by rw [lx,hsz])]
        ·simp only [iw,hti,ca,cond_true,ic,hoff,hY]
         rw [Bp _ _ _ (by rw [ly,hsz])]
       | false =>
        obtain ⟨k,z,w,rfl,rfl,rfl,he⟩:=hone ca
        have gX:X[o]? = some (.int k (.lit z)):=by
         have:=congrArg (fun l=>l[0]?) hX
         simpa [fU] using this
        have gY:Y[o]? = some (.int k (.lit w)):=by
         have:=congrArg (fun l=>l[0]?) hY
         simpa [fU] using this
        refine fin (.int k (.lit z)) (.int k (.lit w)) ?_ ?_ he
        ·simp only [iw,hti,ca,cond_false,cJ,hoff,gX]
        ·simp only [iw,hti,ca,cond_false,cJ,hoff,gY]
      ·cases h
    ·cases h
theorem Cr {g:G} {K:ew}:∀(d:Nat) (t:TypeId) (ks:List IntKind),iB g d t=some ks->DA g K d t ks:=by
 intro d
 induction d with
 | zero=>intro t ks h;cases h
 | succ d ih =>
  intro t ks h zs ws hz hw
  simp only [iB] at h
  split at h
  ·rename_i ti hti
   refine ⟨ti,hti,?_⟩
   split at h
   ·rename_i k hd
    cases h
    refine ⟨(fun ha=>by rw [hd] at ha;cases ha),fun _ => ?_⟩
    match zs,ws,hz,hw with
    | [z],[w],_,_=>
     refine ⟨k,z,w,rfl,rfl,rfl,?_⟩
     simp only [vD,hti,hd,w6,cond_true,H1,nJ]
     congr 1
     rw [Bool.eq_iff_iff];simp
   ·rename_i fields hd
    cases cm:kS g.eqs t with
    | false=>rw [cm] at h;cases h
    | true=>
     rw [cm] at h;simp only [cond_true] at h
     refine ⟨fun _ => ?_,(fun ha=>by rw [hd] at ha;cases ha)⟩
     simp only [vD,hti,hd,cm,cond_true]
     exact uk ih fields.toList 0 ks h _ _ zs ws (by rw [List.drop_zero]) (by rw [List.drop_zero]) hz hw
   ·cases h
  ·cases h
theorem xH:∀(ks:List IntKind) (zs:List Int) (L:List Value) (c:Bool),ks.length=zs.length->jc (jn ks zs) L=some c->∃ws,ks.length=ws.length/\L=jn ks ws/\c=decide (zs=ws):=by
 intro ks
 induction ks with
 | nil =>
  intro zs L c h hs
  cases zs with
  | cons _ _=>cases h
  | nil=>
   cases L with
   | nil=>cases hs;exact ⟨[],rfl,rfl,by simp⟩
   | cons _ _=>cases hs
 | cons k ks ih =>
  intro zs L c h hs
  cases zs with
  | nil=>cases h
  | cons z zs =>
   simp only [List.length_cons,Nat.succ.injEq] at h
   cases L with
   | nil=>cases hs
   | cons v L =>
    cases v<;>try (cases hs;done)
    rename_i k' w
    simp only [jn,jc] at hs
    split at hs
    ·rename_i hk;subst hk
     split at hs
     ·rename_i r hr
      cases hs
      obtain ⟨ws,h1,h2,h3⟩:=ih zs L r h hr
      refine ⟨w::ws,by simp [h1],by rw [h2];rfl,?_⟩
      rw [h3,Bool.eq_iff_iff];simp
     ·cases hs
    ·cases hs
section
variable {P:Program} {g:G} {V:az}
def FE (P:Program) (g:G) (kt:TypeId) (d:TypeDesc) (K:Value):Prop:=
 (((∃kk z,K = .int kk z)/\∃k0,d = .int k0)\/((∃b,K = .string b)/\d = .string))\/
 ((∃fs,d = .struct fs)/\(∃ks zs,iB g 100 kt=some ks/\ks.length=zs.length/\K = .agg (jn ks zs).toArray)/\∀e,(∀w,(Instr.checkKey e 10000 kt K).run P w = .ok () w)/\Instr.sameBits 10000 K K=true)
theorem yC:∀(ks:List IntKind) (l:List AV) (vs:List Value),Bd ks l=true->concL V l=some vs->∃zs,ks.length=zs.length/\vs=jn ks zs:=by
 intro ks
 induction ks with
 | nil=>
  intro l vs h hc
  cases l with
  | nil=>cases hc;exact ⟨[],rfl,rfl⟩
  | cons _ _=>cases h
 | cons k ks ih =>
  intro l vs h hc
  cases l with
  | nil=>cases h
  | cons v l=>
   cases v<;>try (cases h;done)
   rename_i k' e
   simp only [Bd,Bool.and_eq_true] at h
   obtain ⟨X,xr,rfl,hX,hr⟩:=ag hc
   obtain ⟨z,_,rfl⟩:=aC hX
   have:=cF h.1;subst this
   obtain ⟨zs,h1,h2⟩:=ih l xr h.2 hr
   exact ⟨z::zs,by simp [h1],by rw [h2];rfl⟩
theorem pU (hG:cv P g) {kt:TypeId} {d:TypeDesc} {k:AV} {K:Value} (h:wZ g kt d k=true) (hK:k.conc V=some K):FE P g kt d K:=by
 unfold wZ at h
 split at h
 ·rename_i fs l
  rw [Bool.and_eq_true] at h
  refine .inr ⟨⟨fs,rfl⟩,?_,fun e=>jo hG e 100 kt _ K h.1 hK 10000 (by omega)⟩
  have h2:=h.2
  split at h2
  ·rename_i ks hks
   obtain ⟨vs,rfl,hvs⟩:=cg hK
   obtain ⟨zs,h3,h4⟩:=yC ks l vs h2 hvs
   exact ⟨ks,zs,hks,h3,by rw [h4]⟩
  ·cases h2
 ·refine .inl ?_
  cases k<;>cases d<;>simp [JG] at h
  ·obtain ⟨z,_,rfl⟩:=aC hK;exact .inl ⟨⟨_,z,rfl⟩,_,rfl⟩
  ·simp only [AV.conc] at hK;cases hK;exact .inr ⟨⟨_,rfl⟩,rfl⟩
  ·obtain ⟨l,_,rfl⟩:=mu hK;exact .inr ⟨⟨_,rfl⟩,rfl⟩
theorem l7 (hG:cv P g) {kt:TypeId} {ks:List IntKind} {zs:List Int} {K':Value} {c:Bool} {d:TypeDesc} (hd:P.underlying kt=some d) (hs:∃fs,d = .struct fs) (hk:iB g 100 kt=some ks) (hz:ks.length=zs.length)
  (h:dh (.agg (jn ks zs).toArray) K'=some c) (w:World):(Op.equal kt (.agg (jn ks zs).toArray) K').run P w = .ok c w/\(c=true->K' = .agg (jn ks zs).toArray):=by
 cases K'<;>try (cases h;done)
 rename_i b
 obtain ⟨b⟩:=b
 obtain ⟨ws,h1,h2,h3⟩:=xH ks zs b c hz (by simpa [dh] using h)
 subst h2
 obtain ⟨ti,hti,ha,_⟩:=Cr (K:=⟨[],[],[]⟩) 100 kt ks hk zs ws hz.symm h1.symm
 have hT:=(hG.ty _ _ hti).desc
 rw [hd] at hT
 obtain ⟨fs,rfl⟩:=hs
 have hag:fa ti.desc=true:=by
  injection hT with hT
  rw [<-hT];rfl
 have hc1:(AV.agg (fU ks zs)).conc ({ σ:=[],β:=[],ς:=[],τ:=[],ρ:=[],mem:=fun _=>none,mem0:=fun _=>none,E:=fun _=>none,L:=fun _=>none }:az)=some (.agg (jn ks zs).toArray):=gd (sV _ ks zs)
 have hc2:(AV.agg (fU ks ws)).conc ({ σ:=[],β:=[],ς:=[],τ:=[],ρ:=[],mem:=fun _=>none,mem0:=fun _=>none,E:=fun _=>none,L:=fun _=>none }:az)=some (.agg (jn ks ws).toArray):=gd (sV _ ks ws)
 have hko:cx (⟨[],[],[]⟩:ew) ([]:List Int):=by
  exact ⟨rfl,(fun i r h=>by simp [aA] at h),(fun a b t h=>by cases h),(fun a b t h=>by cases h)⟩
 refine ⟨?_,fun ht => ?_⟩
 ·rw [h3]
  exact vE hG hko 100 kt _ _ _ _ _ (ha hag) hc1 hc2 10000 (by omega) w
 ·rw [h3] at ht
  rw [of_decide_eq_true ht]
end
end
end Go.Proofs.YtjabmipkllkfbaaGreatDoor.Vc
