/-
  What the rows of this seat share: the laid tables; configurations and events as arguments; the world of the witness; Bytes, and pairs of bytes, as arguments.
-/
import Derived.Test.YtjabmipkllkfbaaGreatDoorZM
import Derived.Test.YtjabmipkllkfbaaGreatDoorZG
import Derived.Test.YtjabmipkllkfbaaGreatDoorCards
import Derived.Test.YtjabmipkllkfbaaGreatDoorTie
import Derived.WalkKit
import Derived.ProofKit
import Derived.OpenShut
import Derived.ChangeSame
import Derived.ChangeArms
import Derived.WideShapes
import Derived.Deep.DeepHandedRow
import Derived.Lib.LaidTab
import Derived.Lib.LaidU8
import Derived.Lib.SmallJoins
import Derived.Stop.LaidErr
import Derived.Lay
import Derived.LaidMore
set_option linter.unusedVariables false
set_option linter.unusedSimpArgs false
namespace Go.Proofs.YtjabmipkllkfbaaGreatDoor.VRow
section
open Go.ChangeShapes Go.WideShapes Go.ChangeAt Go.RowKit Vc
theorem own:ownKnob Tryz.prog.godebug=none:=by kernel_rfl
def laidL:List (String×DataW Unit):=Rows.auditMissingRow.laid
structure VTabs (w:World):Prop where
 sp:dJ (td w) ln
 mx:dJ (td w) oH
theorem xk:Tryz.prog.globalNamed "strings.asciiSpace" = some 1:=by kernel_rfl
theorem Fu:(Tryz.prog.globals[1]?).map (·.type)=some 307:=by kernel_rfl
theorem DU:Tryz.prog.cellsOf 307=256:=by kernel_rfl
theorem DV:Tryz.prog.cellsOf 5=1:=by kernel_rfl
def Kk:List Int:=Ig.map fun b=>Int.ofNat b.toNat
theorem HH:(Rows.laid_strings_asciiSpace:DataW Unit)=Lib.tabData .u8 Kk:=by kernel_rfl
theorem JR {W:World} (h:Lib.VarReads Tryz.prog W "strings.asciiSpace" Rows.laid_strings_asciiSpace):dJ (td W) ln:=by
 obtain ⟨g',t',cs,fuel,p,hg',ht',hvar,hd⟩:=h
 obtain rfl:=Option.some.inj (xk.symm.trans hg')
 obtain rfl:=Option.some.inj (Fu.symm.trans ht')
 rw [HH] at hd
 have hc:=Lib.cells_of_tab Tryz.underlying307 Tryz.underlying5 DV DU hd
 refine AY xk hvar ?_
 rw [z6,hc]
 simp [Kk]
theorem xj:Tryz.prog.globalNamed "wakeman/mix.steps" = some 0:=by kernel_rfl
theorem Ft:(Tryz.prog.globals[0]?).map (·.type)=some 278:=by kernel_rfl
theorem xT {fuel:Nat} {W:World} {t:TypeId} {k k':IntKind} {z:Int} {cs:List Value} {p:List MemPlace} (ht:Tryz.prog.underlying t=some (.int k'))
  (h:DataW.trod (fun _=>()) Tryz.prog W 0 (fun _=>true) false fuel t cs=some (.lit (.int k z),p)):cs=[.int k z]:=by
 obtain ⟨n,h1,h2,_⟩:=DataW.trod_int ht h
 cases h2;exact h1
set_option maxRecDepth 100000 in
theorem qu {fuel:Nat} {W:World} {a b:Int} {cs:List Value} {p:List MemPlace}
  (h:DataW.trod (fun _=>()) Tryz.prog W 0 (fun _=>true) false fuel 277 cs=some (.agg [.lit (.int .i64 a),.lit (.int .u64 b)],p)):cs=[.int .i64 a,.int .u64 b]:=by
 cases fuel with
 | zero=>simp [DataW.trod] at h
 | succ fuel =>
  have hct:Tryz.prog.cellsOf 277=2:=by kernel_rfl
  have hc0:Tryz.prog.cellsOf 3=1:=by kernel_rfl
  have hc1:Tryz.prog.cellsOf 22=1:=by kernel_rfl
  simp only [DataW.trod,Tryz.underlying277,hct] at h
  split at h
  ·rename_i hl
   obtain ⟨c0,c1,rfl⟩:∃c0 c1,cs=[c0,c1]:=by
    match cs,hl with
    | [c0,c1],_=>exact ⟨c0,c1,rfl⟩
   simp only [List.mapM_cons,List.mapM_nil,hc0,hc1,List.drop_zero,List.drop_succ_cons,List.take_succ_cons,List.take_zero,List.take_nil,List.drop_nil] at h
   obtain ⟨xs,hx,he⟩:=Option.map_eq_some_iff.1 h
   simp only [Option.bind_eq_bind,Option.bind_eq_some_iff,Option.pure_def,Option.some.injEq] at hx
   obtain ⟨y0,h0,r0,⟨y1,h1,r1,rfl,rfl⟩,rfl⟩:=hx
   simp at he
   obtain ⟨⟨e0,e1⟩,_⟩:=he
   have k0:=xT Tryz.underlying3 (h0.trans (by rw [<-e0]))
   have k1:=xT Tryz.underlying22 (h1.trans (by rw [<-e1]))
   cases k0;cases k1;rfl
  ·cases h
set_option maxRecDepth 100000 in
theorem zY {fuel:Nat} {W:World} {cs:List Value} {p:List MemPlace}
  (h:DataW.trod (fun _=>()) Tryz.prog W 0 (fun _=>true) false fuel 278 cs=some (Rows.laid_wakeman_mix_steps,p)) :
  cs=[.int .i64 30,.int .u64 13787848793156543929,.int .i64 27,.int .u64 10723151780598845931,.int .i64 31,.int .u64 1]:=by
 cases fuel with
 | zero=>simp [DataW.trod] at h
 | succ fuel =>
  have hct:Tryz.prog.cellsOf 278=6:=by kernel_rfl
  have hc0:Tryz.prog.cellsOf 277=2:=by kernel_rfl
  simp only [DataW.trod,Tryz.underlying278,hct,hc0] at h
  split at h
  ·rename_i hl
   obtain ⟨c0,c1,c2,c3,c4,c5,rfl⟩:∃c0 c1 c2 c3 c4 c5,cs=[c0,c1,c2,c3,c4,c5]:=by
    match cs,hl with
    | [c0,c1,c2,c3,c4,c5],_=>exact ⟨c0,c1,c2,c3,c4,c5,rfl⟩
   have hr:List.range 3=[0,1,2]:=by decide
   obtain ⟨xs,hx,he⟩:=Option.map_eq_some_iff.1 h
   rw [hr] at hx
   simp only [List.mapM_cons,List.mapM_nil,Option.bind_eq_bind,Option.bind_eq_some_iff,Option.pure_def,Option.some.injEq] at hx
   obtain ⟨y0,h0,r0,⟨y1,h1,r1,⟨y2,h2,r2,rfl,rfl⟩,rfl⟩,rfl⟩:=hx
   simp only [Rows.laid_wakeman_mix_steps,List.map_cons,List.map_nil,Prod.mk.injEq,DataW.agg.injEq,List.cons.injEq,and_true] at he
   obtain ⟨⟨e0,e1,e2⟩,_⟩:=he
   have k0:=qu (h0.trans (by rw [<-e0]))
   have k1:=qu (h1.trans (by rw [<-e1]))
   have k2:=qu (h2.trans (by rw [<-e2]))
   simp at k0 k1 k2
   obtain ⟨rfl,rfl⟩:=k0
   obtain ⟨rfl,rfl⟩:=k1
   obtain ⟨rfl,rfl⟩:=k2
   rfl
  ·cases h
theorem JJ {W:World} (h:Lib.VarReads Tryz.prog W "wakeman/mix.steps" Rows.laid_wakeman_mix_steps):dJ (td W) oH:=by
 obtain ⟨g',t',cs,fuel,p,hg',ht',hvar,hd⟩:=h
 obtain rfl:=Option.some.inj (xj.symm.trans hg')
 obtain rfl:=Option.some.inj (Ft.symm.trans ht')
 have hcs:=zY hd
 refine AY xj hvar ?_
 rw [hcs];rfl
theorem tabs_of {W:World} (hL:laidMetH Tryz.prog laidL W) (hS:W.ShapedOpen Tryz.prog):VTabs W:=by
 have hL':laidMet Tryz.prog laidL W:=hL
 exact ⟨JR (Lib.laidMet.reads hL' (by repeat' first | exact List.Mem.head _ | apply List.Mem.tail)),JJ (Lib.laidMet.reads hL' (by repeat' first | exact List.Mem.head _ | apply List.Mem.tail))⟩
theorem wit_shaped (os:Os) (args:Array Value):((World.laidAll Tryz.prog os laidL).forCall (fun _ _=>0) ⟨#[],args,[]⟩).Shaped Tryz.prog:=
 World.shaped_of_ZipB (by kernel_rfl) (by kernel_rfl)
theorem wit_laid (os:Os) (args:Array Value):laidMetH Tryz.prog laidL ((World.laidAll Tryz.prog os laidL).forCall (fun _ _=>0) ⟨#[],args,[]⟩).memory:=by
 rw [MakeChecks.laidMetH_plain _ _ _ (by kernel_rfl)]
 exact laidMet_laidAll _ (by kernel_rfl) (by kernel_rfl)
section
variable {H:Type} {enc:TypeId×Value->H} {w:World} {base:Nat} {sp:Nat->Bool} {held:Bool}
end
end
section
open Go.ChangeShapes Go.WideShapes Go.ChangeAt Go.RowKit Vc
section
variable {H:Type} {enc:TypeId×Value->H} {w:World} {base:Nat} {sp:Nat->Bool} {held:Bool}
theorem IU:CK Tryz.prog 3 5=some [.i .u8]:=by kernel_rfl
theorem GX:CK Tryz.prog 3 46=some [.sl 5]:=by kernel_rfl
set_option maxRecDepth 100000 in
theorem open_u8s {v:Value} {d:DataW H} {p:List MemPlace} (hv:Value.okWide Tryz.prog w .any base 46 v) (h:DataW.Trod enc Tryz.prog w 0 sp held 46 v d p) :
  ∃a n c,v = .slice a n c/\n<=c/\c<=maxLen/\∃l,nV (td w) a n l:=by
 obtain ⟨a,len,cap,rfl⟩:=Go.WideShapes.okWide_slice Tryz.underlying46 hv
 obtain ⟨fuel,hf⟩:=h
 obtain ⟨u,hu,hk⟩:=(EA _ _ _ GX _ _ _ hf).2 0 _ rfl
 simp [Value.cells] at hu
 subst hu
 obtain ⟨a',n',c',he,h1,h2,h3⟩:=hk.row
 cases he
 refine ⟨a,len,cap,rfl,h1,h2,?_⟩
 have g:=h3 3 _ IU
 obtain ⟨l,hl,hq⟩:=GY (Q:=fun i x=>nj (td w) a (i:Int) x) len (fun i hi=>by
  obtain ⟨u,hu,x,rfl,hw⟩:=g i hi 0 _ rfl
  have hk:IntKind.u8.min<=x/\x<=IntKind.u8.max:=by simpa [Lit.wf] using hw
  exact ⟨x,by simpa using hu,hk⟩)
 exact ⟨l,hl,hq⟩
end
end
end Go.Proofs.YtjabmipkllkfbaaGreatDoor.VRow
