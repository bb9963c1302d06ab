/-
  Contracts, by their trees.
-/
import Derived.Test.YtjabmipkllkfbaaGreatDoorYG
import Derived.Test.YtjabmipkllkfbaaGreatDoorYT
set_option linter.unusedVariables false
set_option linter.unusedSimpArgs false
namespace Go.Proofs.YtjabmipkllkfbaaGreatDoor.Vc
def wrk_pre (m : Mem) : Prop := Globs m glMx
def wrk_post (m : Mem) (b : Bool) : Prop := b = true
def wrk : Sp := { args := [], grp := [], res := [.b], rgrp := [none], fn := 11, spec := (wrk_pre , wrk_post ) }
def wrk_VC : Prop := ∀ m : Mem, wrk_pre  m →
 (wrk_post  m true)
set_option maxHeartbeats 4000000 in
theorem wrk_vc : wrk_VC := fun m h => rfl
theorem wrk_pg : ∀ m, forallF wrk.args wrk.spec fun r => r.1 m → GlobsAt m glMx := fun m h => h.h
theorem wrk_ok : SpOk Tryz.prog wrk :=
 con_okG glMx rfl (sps_of [] trivial rfl) (tab_ok _ []) 1000 wrk _ rfl rfl wrk_pg (Eq.mp (show wrk_VC = _ by kernel_rfl) wrk_vc)
end Go.Proofs.YtjabmipkllkfbaaGreatDoor.Vc
