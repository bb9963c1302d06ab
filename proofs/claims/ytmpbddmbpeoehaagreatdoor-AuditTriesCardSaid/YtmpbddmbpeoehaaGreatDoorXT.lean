/-
  The engine's tables of this program, and that they are its own.
-/
import Derived.Test.YtmpbddmbpeoehaaGreatDoorXF
import Derived.Test.YtmpbddmbpeoehaaGreatDoorProg
import Derived.KernelRfl
set_option linter.unusedVariables false
set_option linter.unusedSimpArgs false
namespace Go.Proofs.YtmpbddmbpeoehaaGreatDoor.Vc
def TI.of (i : TypeInfo) (d : TypeDesc) : TI := { desc := d, size := i.size, bytes := i.bytes, zero := match i.zero with | some v => lift v | none => none }
def FI.of (f : Func) : FI := { code := match f.body with | some c => c | none => .skip, ntmps := f.ntmps, results := f.results.toList }
theorem TI.ok {P : Program} {t : TypeId} {i : TypeInfo} {d : TypeDesc} (hu : P.underlying t = some d) (hi : ∀ w, (typeInfo t).run P w = .ok i w) : TyOk P t (TI.of i d) := by
  refine ⟨hu, i, ?_, rfl, rfl, fun z hz => ?_⟩
  · have := hi default
    simp only [typeInfo, Sem.run_bind, run_program, Result.andThen_ok] at this
    cases hc : P.info? t with
    | none => rw [hc] at this; cases this
    | some j => rw [hc] at this; injection this with e _; rw [e]
  · unfold TI.of at hz
    simp only at hz
    split at hz
    · rename_i v hv; exact ⟨v, hv, hz⟩
    · cases hz
theorem FI.ok {P : Program} {f : FuncId} {fn : Func} {c : Code} (hf : P.funcs[f]? = some fn) (hb : fn.body = some c) (hc : ∀ args w, (callFunc f args).run P w = .ok (.enter f args) w) : FnOk P f (FI.of fn) :=
  ⟨⟨fn, hf, by rw [hb]; simp only [FI.of, hb], rfl, rfl⟩, hc⟩
def Tr.All {α : Type} (p : Nat → α → Prop) : Tr α → (Nat → Nat) → Prop
  | .e, _ => True
  | .n l v r, f => (match v with | some x => p (f 0) x | none => True) ∧ Tr.All p l (fun j => f (2 * j + 1)) ∧ Tr.All p r (fun j => f (2 * j + 2))
theorem Tr.All_get {α : Type} {p : Nat → α → Prop} : ∀ (t : Tr α) (f : Nat → Nat) (k : Nat) (x : α), Tr.All p t f → t.get k = some x → p (f k) x := by
  intro t
  induction t with
  | e => intro f k x _ h; simp [Tr.get] at h
  | n l v r ihl ihr =>
    intro f k x h hg
    obtain ⟨h1, h2, h3⟩ := h
    by_cases hk : k = 0
    · subst hk
      simp [Tr.get] at hg; subst hg; exact h1
    · by_cases ho : k % 2 = 1
      · have e : (Tr.n l v r).get k = l.get (k / 2) := by
          have : Nat.mod k 2 = 1 := ho
          simp [Tr.get, hk, this]; rfl
        rw [e] at hg
        have := ihl _ _ _ h2 hg
        rwa [show 2 * (k / 2) + 1 = k by omega] at this
      · have e : (Tr.n l v r).get k = r.get ((k - 1) / 2) := by
          have : ¬ Nat.mod k 2 = 1 := ho
          simp [Tr.get, hk, this]; rfl
        rw [e] at hg
        have := ihr _ _ _ h3 hg
        rwa [show 2 * ((k - 1) / 2) + 2 = k by omega] at this
set_option maxRecDepth 100000 in
noncomputable def tyTab : Tr TI :=
  (.n (.n (.n (.n (.n (.n (.n (.n (.n .e (some (TI.of Tryz.t255 Tryz.t255.desc)) .e) (some (TI.of Tryz.t127 Tryz.t127.desc)) (.n .e (some (TI.of Tryz.t383 Tryz.t383.desc)) .e)) (some (TI.of Tryz.t63 Tryz.t63.desc)) 
  (.n (.n .e (some (TI.of Tryz.t319 Tryz.t319.desc)) .e) (some (TI.of Tryz.t191 Tryz.t191.desc)) .e)) (some (TI.of Tryz.t31 Tryz.t31.desc)) (.n (.n (.n .e (some (TI.of Tryz.t287 Tryz.t287.desc)) .e) (some 
  (TI.of Tryz.t159 Tryz.t158.desc)) (.n .e (some (TI.of Tryz.t415 Tryz.t415.desc)) .e)) (some (TI.of Tryz.t95 Tryz.t95.desc)) (.n (.n .e (some (TI.of Tryz.t351 Tryz.t351.desc)) .e) (some (TI.of Tryz.t223 
  Tryz.t223.desc)) .e))) (some (TI.of Tryz.t15 Tryz.t15.desc)) (.n (.n (.n (.n .e (some (TI.of Tryz.t271 Tryz.t271.desc)) .e) (some (TI.of Tryz.t143 Tryz.t143.desc)) (.n .e (some (TI.of Tryz.t399 Tryz.t399.desc)) 
  .e)) (some (TI.of Tryz.t79 Tryz.t79.desc)) (.n (.n .e (some (TI.of Tryz.t335 Tryz.t335.desc)) .e) (some (TI.of Tryz.t207 Tryz.t207.desc)) .e)) (some (TI.of Tryz.t47 Tryz.t47.desc)) (.n (.n (.n .e (some 
  (TI.of Tryz.t303 Tryz.t303.desc)) .e) (some (TI.of Tryz.t175 Tryz.t175.desc)) .e) (some (TI.of Tryz.t111 Tryz.t111.desc)) (.n (.n .e (some (TI.of Tryz.t367 Tryz.t367.desc)) .e) (some (TI.of Tryz.t239 Tryz.t239.desc)) 
  .e)))) (some (TI.of Tryz.t7 Tryz.t7.desc)) (.n (.n (.n (.n (.n .e (some (TI.of Tryz.t263 Tryz.t263.desc)) .e) (some (TI.of Tryz.t135 Tryz.t135.desc)) (.n .e (some (TI.of Tryz.t391 Tryz.t391.desc)) .e)) 
  (some (TI.of Tryz.t71 Tryz.t71.desc)) (.n (.n .e (some (TI.of Tryz.t327 Tryz.t327.desc)) .e) (some (TI.of Tryz.t199 Tryz.t3.desc)) .e)) (some (TI.of Tryz.t39 Tryz.t38.desc)) (.n (.n (.n .e (some (TI.of 
  Tryz.t295 Tryz.t295.desc)) .e) (some (TI.of Tryz.t167 Tryz.t166.desc)) .e) (some (TI.of Tryz.t103 Tryz.t103.desc)) (.n (.n .e (some (TI.of Tryz.t359 Tryz.t359.desc)) .e) (some (TI.of Tryz.t231 Tryz.t231.desc)) 
  .e))) (some (TI.of Tryz.t23 Tryz.t23.desc)) (.n (.n (.n (.n .e (some (TI.of Tryz.t279 Tryz.t279.desc)) .e) (some (TI.of Tryz.t151 Tryz.t151.desc)) (.n .e (some (TI.of Tryz.t407 Tryz.t406.desc)) .e)) (some 
  (TI.of Tryz.t87 Tryz.t87.desc)) (.n (.n .e (some (TI.of Tryz.t343 Tryz.t343.desc)) .e) (some (TI.of Tryz.t215 Tryz.t215.desc)) .e)) (some (TI.of Tryz.t55 Tryz.t54.desc)) (.n (.n (.n .e (some (TI.of Tryz.t311 
  Tryz.t311.desc)) .e) (some (TI.of Tryz.t183 Tryz.t183.desc)) .e) (some (TI.of Tryz.t119 Tryz.t119.desc)) (.n (.n .e (some (TI.of Tryz.t375 Tryz.t374.desc)) .e) (some (TI.of Tryz.t247 Tryz.t247.desc)) .e))))) 
  (some (TI.of Tryz.t3 Tryz.t3.desc)) (.n (.n (.n (.n (.n (.n .e (some (TI.of Tryz.t259 Tryz.t259.desc)) .e) (some (TI.of Tryz.t131 Tryz.t131.desc)) (.n .e (some (TI.of Tryz.t387 Tryz.t387.desc)) .e)) (some 
  (TI.of Tryz.t67 Tryz.t67.desc)) (.n (.n .e (some (TI.of Tryz.t323 Tryz.t323.desc)) .e) (some (TI.of Tryz.t195 Tryz.t194.desc)) .e)) (some (TI.of Tryz.t35 Tryz.t35.desc)) (.n (.n (.n .e (some (TI.of Tryz.t291 
  Tryz.t291.desc)) .e) (some (TI.of Tryz.t163 Tryz.t163.desc)) (.n .e (some (TI.of Tryz.t419 Tryz.t419.desc)) .e)) (some (TI.of Tryz.t99 Tryz.t99.desc)) (.n (.n .e (some (TI.of Tryz.t355 Tryz.t354.desc)) 
  .e) (some (TI.of Tryz.t227 Tryz.t227.desc)) .e))) (some (TI.of Tryz.t19 Tryz.t18.desc)) (.n (.n (.n (.n .e (some (TI.of Tryz.t275 Tryz.t275.desc)) .e) (some (TI.of Tryz.t147 Tryz.t147.desc)) (.n .e (some 
  (TI.of Tryz.t403 Tryz.t403.desc)) .e)) (some (TI.of Tryz.t83 Tryz.t83.desc)) (.n (.n .e (some (TI.of Tryz.t339 Tryz.t339.desc)) .e) (some (TI.of Tryz.t211 Tryz.t211.desc)) .e)) (some (TI.of Tryz.t51 Tryz.t51.desc)) 
  (.n (.n (.n .e (some (TI.of Tryz.t307 Tryz.t307.desc)) .e) (some (TI.of Tryz.t179 Tryz.t179.desc)) .e) (some (TI.of Tryz.t115 Tryz.t115.desc)) (.n (.n .e (some (TI.of Tryz.t371 Tryz.t371.desc)) .e) (some 
  (TI.of Tryz.t243 Tryz.t243.desc)) .e)))) (some (TI.of Tryz.t11 Tryz.t9.desc)) (.n (.n (.n (.n (.n .e (some (TI.of Tryz.t267 Tryz.t267.desc)) .e) (some (TI.of Tryz.t139 Tryz.t139.desc)) (.n .e (some (TI.of 
  Tryz.t395 Tryz.t394.desc)) .e)) (some (TI.of Tryz.t75 Tryz.t75.desc)) (.n (.n .e (some (TI.of Tryz.t331 Tryz.t331.desc)) .e) (some (TI.of Tryz.t203 Tryz.t203.desc)) .e)) (some (TI.of Tryz.t43 Tryz.t43.desc)) 
  (.n (.n (.n .e (some (TI.of Tryz.t299 Tryz.t299.desc)) .e) (some (TI.of Tryz.t171 Tryz.t170.desc)) .e) (some (TI.of Tryz.t107 Tryz.t107.desc)) (.n (.n .e (some (TI.of Tryz.t363 Tryz.t363.desc)) .e) (some 
  (TI.of Tryz.t235 Tryz.t235.desc)) .e))) (some (TI.of Tryz.t27 Tryz.t27.desc)) (.n (.n (.n (.n .e (some (TI.of Tryz.t283 Tryz.t283.desc)) .e) (some (TI.of Tryz.t155 Tryz.t154.desc)) (.n .e (some (TI.of 
  Tryz.t411 Tryz.t411.desc)) .e)) (some (TI.of Tryz.t91 Tryz.t90.desc)) (.n (.n .e (some (TI.of Tryz.t347 Tryz.t347.desc)) .e) (some (TI.of Tryz.t219 Tryz.t219.desc)) .e)) (some (TI.of Tryz.t59 Tryz.t59.desc)) 
  (.n (.n (.n .e (some (TI.of Tryz.t315 Tryz.t315.desc)) .e) (some (TI.of Tryz.t187 Tryz.t187.desc)) .e) (some (TI.of Tryz.t123 Tryz.t123.desc)) (.n (.n .e (some (TI.of Tryz.t379 Tryz.t379.desc)) .e) (some 
  (TI.of Tryz.t251 Tryz.t251.desc)) .e)))))) (some (TI.of Tryz.t1 Tryz.t1.desc)) (.n (.n (.n (.n (.n (.n (.n .e (some (TI.of Tryz.t257 Tryz.t257.desc)) .e) (some (TI.of Tryz.t129 Tryz.t129.desc)) (.n .e 
  (some (TI.of Tryz.t385 Tryz.t385.desc)) .e)) (some (TI.of Tryz.t65 Tryz.t65.desc)) (.n (.n .e (some (TI.of Tryz.t321 Tryz.t321.desc)) .e) (some (TI.of Tryz.t193 Tryz.t193.desc)) .e)) (some (TI.of Tryz.t33 
  Tryz.t33.desc)) (.n (.n (.n .e (some (TI.of Tryz.t289 Tryz.t289.desc)) .e) (some (TI.of Tryz.t161 Tryz.t161.desc)) (.n .e (some (TI.of Tryz.t417 Tryz.t417.desc)) .e)) (some (TI.of Tryz.t97 Tryz.t97.desc)) 
  (.n (.n .e (some (TI.of Tryz.t353 Tryz.t353.desc)) .e) (some (TI.of Tryz.t225 Tryz.t225.desc)) .e))) (some (TI.of Tryz.t17 Tryz.t17.desc)) (.n (.n (.n (.n .e (some (TI.of Tryz.t273 Tryz.t273.desc)) .e) 
  (some (TI.of Tryz.t145 Tryz.t145.desc)) (.n .e (some (TI.of Tryz.t401 Tryz.t401.desc)) .e)) (some (TI.of Tryz.t81 Tryz.t81.desc)) (.n (.n .e (some (TI.of Tryz.t337 Tryz.t337.desc)) .e) (some (TI.of Tryz.t209 
  Tryz.t209.desc)) .e)) (some (TI.of Tryz.t49 Tryz.t49.desc)) (.n (.n (.n .e (some (TI.of Tryz.t305 Tryz.t305.desc)) .e) (some (TI.of Tryz.t177 Tryz.t177.desc)) .e) (some (TI.of Tryz.t113 Tryz.t113.desc)) 
  (.n (.n .e (some (TI.of Tryz.t369 Tryz.t368.desc)) .e) (some (TI.of Tryz.t241 Tryz.t241.desc)) .e)))) (some (TI.of Tryz.t9 Tryz.t9.desc)) (.n (.n (.n (.n (.n .e (some (TI.of Tryz.t265 Tryz.t265.desc)) 
  .e) (some (TI.of Tryz.t137 Tryz.t137.desc)) (.n .e (some (TI.of Tryz.t393 Tryz.t393.desc)) .e)) (some (TI.of Tryz.t73 Tryz.t73.desc)) (.n (.n .e (some (TI.of Tryz.t329 Tryz.t329.desc)) .e) (some (TI.of 
  Tryz.t201 Tryz.t201.desc)) .e)) (some (TI.of Tryz.t41 Tryz.t40.desc)) (.n (.n (.n .e (some (TI.of Tryz.t297 Tryz.t297.desc)) .e) (some (TI.of Tryz.t169 Tryz.t169.desc)) .e) (some (TI.of Tryz.t105 Tryz.t105.desc)) 
  (.n (.n .e (some (TI.of Tryz.t361 Tryz.t360.desc)) .e) (some (TI.of Tryz.t233 Tryz.t233.desc)) .e))) (some (TI.of Tryz.t25 Tryz.t25.desc)) (.n (.n (.n (.n .e (some (TI.of Tryz.t281 Tryz.t281.desc)) .e) 
  (some (TI.of Tryz.t153 Tryz.t153.desc)) (.n .e (some (TI.of Tryz.t409 Tryz.t5.desc)) .e)) (some (TI.of Tryz.t89 Tryz.t89.desc)) (.n (.n .e (some (TI.of Tryz.t345 Tryz.t345.desc)) .e) (some (TI.of Tryz.t217 
  Tryz.t216.desc)) .e)) (some (TI.of Tryz.t57 Tryz.t56.desc)) (.n (.n (.n .e (some (TI.of Tryz.t313 Tryz.t313.desc)) .e) (some (TI.of Tryz.t185 Tryz.t185.desc)) .e) (some (TI.of Tryz.t121 Tryz.t121.desc)) 
  (.n (.n .e (some (TI.of Tryz.t377 Tryz.t377.desc)) .e) (some (TI.of Tryz.t249 Tryz.t249.desc)) .e))))) (some (TI.of Tryz.t5 Tryz.t5.desc)) (.n (.n (.n (.n (.n (.n .e (some (TI.of Tryz.t261 Tryz.t261.desc)) 
  .e) (some (TI.of Tryz.t133 Tryz.t133.desc)) (.n .e (some (TI.of Tryz.t389 Tryz.t389.desc)) .e)) (some (TI.of Tryz.t69 Tryz.t69.desc)) (.n (.n .e (some (TI.of Tryz.t325 Tryz.t325.desc)) .e) (some (TI.of 
  Tryz.t197 Tryz.t197.desc)) .e)) (some (TI.of Tryz.t37 Tryz.t37.desc)) (.n (.n (.n .e (some (TI.of Tryz.t293 Tryz.t293.desc)) .e) (some (TI.of Tryz.t165 Tryz.t165.desc)) (.n .e (some (TI.of Tryz.t421 Tryz.t421.desc)) 
  .e)) (some (TI.of Tryz.t101 Tryz.t100.desc)) (.n (.n .e (some (TI.of Tryz.t357 Tryz.t357.desc)) .e) (some (TI.of Tryz.t229 Tryz.t229.desc)) .e))) (some (TI.of Tryz.t21 Tryz.t21.desc)) (.n (.n (.n (.n .e 
  (some (TI.of Tryz.t277 Tryz.t277.desc)) .e) (some (TI.of Tryz.t149 Tryz.t149.desc)) (.n .e (some (TI.of Tryz.t405 Tryz.t405.desc)) .e)) (some (TI.of Tryz.t85 Tryz.t85.desc)) (.n (.n .e (some (TI.of Tryz.t341 
  Tryz.t341.desc)) .e) (some (TI.of Tryz.t213 Tryz.t213.desc)) .e)) (some (TI.of Tryz.t53 Tryz.t52.desc)) (.n (.n (.n .e (some (TI.of Tryz.t309 Tryz.t309.desc)) .e) (some (TI.of Tryz.t181 Tryz.t181.desc)) 
  .e) (some (TI.of Tryz.t117 Tryz.t117.desc)) (.n (.n .e (some (TI.of Tryz.t373 Tryz.t373.desc)) .e) (some (TI.of Tryz.t245 Tryz.t245.desc)) .e)))) (some (TI.of Tryz.t13 Tryz.t13.desc)) (.n (.n (.n (.n (.n 
  .e (some (TI.of Tryz.t269 Tryz.t269.desc)) .e) (some (TI.of Tryz.t141 Tryz.t141.desc)) (.n .e (some (TI.of Tryz.t397 Tryz.t397.desc)) .e)) (some (TI.of Tryz.t77 Tryz.t77.desc)) (.n (.n .e (some (TI.of 
  Tryz.t333 Tryz.t333.desc)) .e) (some (TI.of Tryz.t205 Tryz.t205.desc)) .e)) (some (TI.of Tryz.t45 Tryz.t45.desc)) (.n (.n (.n .e (some (TI.of Tryz.t301 Tryz.t301.desc)) .e) (some (TI.of Tryz.t173 Tryz.t173.desc)) 
  .e) (some (TI.of Tryz.t109 Tryz.t109.desc)) (.n (.n .e (some (TI.of Tryz.t365 Tryz.t365.desc)) .e) (some (TI.of Tryz.t237 Tryz.t237.desc)) .e))) (some (TI.of Tryz.t29 Tryz.t28.desc)) (.n (.n (.n (.n .e 
  (some (TI.of Tryz.t285 Tryz.t285.desc)) .e) (some (TI.of Tryz.t157 Tryz.t157.desc)) (.n .e (some (TI.of Tryz.t413 Tryz.t21.desc)) .e)) (some (TI.of Tryz.t93 Tryz.t93.desc)) (.n (.n .e (some (TI.of Tryz.t349 
  Tryz.t349.desc)) .e) (some (TI.of Tryz.t221 Tryz.t221.desc)) .e)) (some (TI.of Tryz.t61 Tryz.t61.desc)) (.n (.n (.n .e (some (TI.of Tryz.t317 Tryz.t317.desc)) .e) (some (TI.of Tryz.t189 Tryz.t189.desc)) 
  .e) (some (TI.of Tryz.t125 Tryz.t124.desc)) (.n (.n .e (some (TI.of Tryz.t381 Tryz.t381.desc)) .e) (some (TI.of Tryz.t253 Tryz.t253.desc)) .e))))))) (some (TI.of Tryz.t0 Tryz.t0.desc)) (.n (.n (.n (.n 
  (.n (.n (.n (.n .e (some (TI.of Tryz.t256 Tryz.t256.desc)) .e) (some (TI.of Tryz.t128 Tryz.t127.desc)) (.n .e (some (TI.of Tryz.t384 Tryz.t384.desc)) .e)) (some (TI.of Tryz.t64 Tryz.t64.desc)) (.n (.n 
  .e (some (TI.of Tryz.t320 Tryz.t320.desc)) .e) (some (TI.of Tryz.t192 Tryz.t192.desc)) .e)) (some (TI.of Tryz.t32 Tryz.t32.desc)) (.n (.n (.n .e (some (TI.of Tryz.t288 Tryz.t288.desc)) .e) (some (TI.of 
  Tryz.t160 Tryz.t160.desc)) (.n .e (some (TI.of Tryz.t416 Tryz.t415.desc)) .e)) (some (TI.of Tryz.t96 Tryz.t96.desc)) (.n (.n .e (some (TI.of Tryz.t352 Tryz.t352.desc)) .e) (some (TI.of Tryz.t224 Tryz.t224.desc)) 
  .e))) (some (TI.of Tryz.t16 Tryz.t16.desc)) (.n (.n (.n (.n .e (some (TI.of Tryz.t272 Tryz.t22.desc)) .e) (some (TI.of Tryz.t144 Tryz.t144.desc)) (.n .e (some (TI.of Tryz.t400 Tryz.t400.desc)) .e)) (some 
  (TI.of Tryz.t80 Tryz.t80.desc)) (.n (.n .e (some (TI.of Tryz.t336 Tryz.t336.desc)) .e) (some (TI.of Tryz.t208 Tryz.t208.desc)) .e)) (some (TI.of Tryz.t48 Tryz.t47.desc)) (.n (.n (.n .e (some (TI.of Tryz.t304 
  Tryz.t304.desc)) .e) (some (TI.of Tryz.t176 Tryz.t176.desc)) .e) (some (TI.of Tryz.t112 Tryz.t112.desc)) (.n (.n .e (some (TI.of Tryz.t368 Tryz.t368.desc)) .e) (some (TI.of Tryz.t240 Tryz.t22.desc)) .e)))) 
  (some (TI.of Tryz.t8 Tryz.t7.desc)) (.n (.n (.n (.n (.n .e (some (TI.of Tryz.t264 Tryz.t264.desc)) .e) (some (TI.of Tryz.t136 Tryz.t136.desc)) (.n .e (some (TI.of Tryz.t392 Tryz.t392.desc)) .e)) (some 
  (TI.of Tryz.t72 Tryz.t72.desc)) (.n (.n .e (some (TI.of Tryz.t328 Tryz.t328.desc)) .e) (some (TI.of Tryz.t200 Tryz.t200.desc)) .e)) (some (TI.of Tryz.t40 Tryz.t40.desc)) (.n (.n (.n .e (some (TI.of Tryz.t296 
  Tryz.t296.desc)) .e) (some (TI.of Tryz.t168 Tryz.t168.desc)) .e) (some (TI.of Tryz.t104 Tryz.t104.desc)) (.n (.n .e (some (TI.of Tryz.t360 Tryz.t360.desc)) .e) (some (TI.of Tryz.t232 Tryz.t232.desc)) .e))) 
  (some (TI.of Tryz.t24 Tryz.t23.desc)) (.n (.n (.n (.n .e (some (TI.of Tryz.t280 Tryz.t280.desc)) .e) (some (TI.of Tryz.t152 Tryz.t152.desc)) (.n .e (some (TI.of Tryz.t408 Tryz.t408.desc)) .e)) (some (TI.of 
  Tryz.t88 Tryz.t88.desc)) (.n (.n .e (some (TI.of Tryz.t344 Tryz.t344.desc)) .e) (some (TI.of Tryz.t216 Tryz.t216.desc)) .e)) (some (TI.of Tryz.t56 Tryz.t56.desc)) (.n (.n (.n .e (some (TI.of Tryz.t312 
  Tryz.t312.desc)) .e) (some (TI.of Tryz.t184 Tryz.t184.desc)) .e) (some (TI.of Tryz.t120 Tryz.t120.desc)) (.n (.n .e (some (TI.of Tryz.t376 Tryz.t376.desc)) .e) (some (TI.of Tryz.t248 Tryz.t248.desc)) .e))))) 
  (some (TI.of Tryz.t4 Tryz.t4.desc)) (.n (.n (.n (.n (.n (.n .e (some (TI.of Tryz.t260 Tryz.t260.desc)) .e) (some (TI.of Tryz.t132 Tryz.t132.desc)) (.n .e (some (TI.of Tryz.t388 Tryz.t388.desc)) .e)) (some 
  (TI.of Tryz.t68 Tryz.t68.desc)) (.n (.n .e (some (TI.of Tryz.t324 Tryz.t323.desc)) .e) (some (TI.of Tryz.t196 Tryz.t196.desc)) .e)) (some (TI.of Tryz.t36 Tryz.t36.desc)) (.n (.n (.n .e (some (TI.of Tryz.t292 
  Tryz.t292.desc)) .e) (some (TI.of Tryz.t164 Tryz.t164.desc)) (.n .e (some (TI.of Tryz.t420 Tryz.t419.desc)) .e)) (some (TI.of Tryz.t100 Tryz.t100.desc)) (.n (.n .e (some (TI.of Tryz.t356 Tryz.t356.desc)) 
  .e) (some (TI.of Tryz.t228 Tryz.t227.desc)) .e))) (some (TI.of Tryz.t20 Tryz.t20.desc)) (.n (.n (.n (.n .e (some (TI.of Tryz.t276 Tryz.t276.desc)) .e) (some (TI.of Tryz.t148 Tryz.t148.desc)) (.n .e (some 
  (TI.of Tryz.t404 Tryz.t403.desc)) .e)) (some (TI.of Tryz.t84 Tryz.t84.desc)) (.n (.n .e (some (TI.of Tryz.t340 Tryz.t340.desc)) .e) (some (TI.of Tryz.t212 Tryz.t212.desc)) .e)) (some (TI.of Tryz.t52 Tryz.t52.desc)) 
  (.n (.n (.n .e (some (TI.of Tryz.t308 Tryz.t308.desc)) .e) (some (TI.of Tryz.t180 Tryz.t180.desc)) .e) (some (TI.of Tryz.t116 Tryz.t116.desc)) (.n (.n .e (some (TI.of Tryz.t372 Tryz.t371.desc)) .e) (some 
  (TI.of Tryz.t244 Tryz.t244.desc)) .e)))) (some (TI.of Tryz.t12 Tryz.t12.desc)) (.n (.n (.n (.n (.n .e (some (TI.of Tryz.t268 Tryz.t268.desc)) .e) (some (TI.of Tryz.t140 Tryz.t140.desc)) (.n .e (some (TI.of 
  Tryz.t396 Tryz.t396.desc)) .e)) (some (TI.of Tryz.t76 Tryz.t76.desc)) (.n (.n .e (some (TI.of Tryz.t332 Tryz.t332.desc)) .e) (some (TI.of Tryz.t204 Tryz.t204.desc)) .e)) (some (TI.of Tryz.t44 Tryz.t43.desc)) 
  (.n (.n (.n .e (some (TI.of Tryz.t300 Tryz.t300.desc)) .e) (some (TI.of Tryz.t172 Tryz.t172.desc)) .e) (some (TI.of Tryz.t108 Tryz.t108.desc)) (.n (.n .e (some (TI.of Tryz.t364 Tryz.t364.desc)) .e) (some 
  (TI.of Tryz.t236 Tryz.t236.desc)) .e))) (some (TI.of Tryz.t28 Tryz.t28.desc)) (.n (.n (.n (.n .e (some (TI.of Tryz.t284 Tryz.t284.desc)) .e) (some (TI.of Tryz.t156 Tryz.t156.desc)) (.n .e (some (TI.of 
  Tryz.t412 Tryz.t412.desc)) .e)) (some (TI.of Tryz.t92 Tryz.t92.desc)) (.n (.n .e (some (TI.of Tryz.t348 Tryz.t348.desc)) .e) (some (TI.of Tryz.t220 Tryz.t220.desc)) .e)) (some (TI.of Tryz.t60 Tryz.t60.desc)) 
  (.n (.n (.n .e (some (TI.of Tryz.t316 Tryz.t316.desc)) .e) (some (TI.of Tryz.t188 Tryz.t188.desc)) .e) (some (TI.of Tryz.t124 Tryz.t124.desc)) (.n (.n .e (some (TI.of Tryz.t380 Tryz.t380.desc)) .e) (some 
  (TI.of Tryz.t252 Tryz.t252.desc)) .e)))))) (some (TI.of Tryz.t2 Tryz.t2.desc)) (.n (.n (.n (.n (.n (.n (.n .e (some (TI.of Tryz.t258 Tryz.t258.desc)) .e) (some (TI.of Tryz.t130 Tryz.t130.desc)) (.n .e 
  (some (TI.of Tryz.t386 Tryz.t386.desc)) .e)) (some (TI.of Tryz.t66 Tryz.t66.desc)) (.n (.n .e (some (TI.of Tryz.t322 Tryz.t322.desc)) .e) (some (TI.of Tryz.t194 Tryz.t194.desc)) .e)) (some (TI.of Tryz.t34 
  Tryz.t3.desc)) (.n (.n (.n .e (some (TI.of Tryz.t290 Tryz.t290.desc)) .e) (some (TI.of Tryz.t162 Tryz.t162.desc)) (.n .e (some (TI.of Tryz.t418 Tryz.t418.desc)) .e)) (some (TI.of Tryz.t98 Tryz.t98.desc)) 
  (.n (.n .e (some (TI.of Tryz.t354 Tryz.t354.desc)) .e) (some (TI.of Tryz.t226 Tryz.t226.desc)) .e))) (some (TI.of Tryz.t18 Tryz.t18.desc)) (.n (.n (.n (.n .e (some (TI.of Tryz.t274 Tryz.t274.desc)) .e) 
  (some (TI.of Tryz.t146 Tryz.t146.desc)) (.n .e (some (TI.of Tryz.t402 Tryz.t402.desc)) .e)) (some (TI.of Tryz.t82 Tryz.t82.desc)) (.n (.n .e (some (TI.of Tryz.t338 Tryz.t338.desc)) .e) (some (TI.of Tryz.t210 
  Tryz.t210.desc)) .e)) (some (TI.of Tryz.t50 Tryz.t49.desc)) (.n (.n (.n .e (some (TI.of Tryz.t306 Tryz.t306.desc)) .e) (some (TI.of Tryz.t178 Tryz.t178.desc)) .e) (some (TI.of Tryz.t114 Tryz.t114.desc)) 
  (.n (.n .e (some (TI.of Tryz.t370 Tryz.t370.desc)) .e) (some (TI.of Tryz.t242 Tryz.t242.desc)) .e)))) (some (TI.of Tryz.t10 Tryz.t9.desc)) (.n (.n (.n (.n (.n .e (some (TI.of Tryz.t266 Tryz.t266.desc)) 
  .e) (some (TI.of Tryz.t138 Tryz.t137.desc)) (.n .e (some (TI.of Tryz.t394 Tryz.t394.desc)) .e)) (some (TI.of Tryz.t74 Tryz.t74.desc)) (.n (.n .e (some (TI.of Tryz.t330 Tryz.t330.desc)) .e) (some (TI.of 
  Tryz.t202 Tryz.t202.desc)) .e)) (some (TI.of Tryz.t42 Tryz.t42.desc)) (.n (.n (.n .e (some (TI.of Tryz.t298 Tryz.t298.desc)) .e) (some (TI.of Tryz.t170 Tryz.t170.desc)) .e) (some (TI.of Tryz.t106 Tryz.t106.desc)) 
  (.n (.n .e (some (TI.of Tryz.t362 Tryz.t362.desc)) .e) (some (TI.of Tryz.t234 Tryz.t234.desc)) .e))) (some (TI.of Tryz.t26 Tryz.t25.desc)) (.n (.n (.n (.n .e (some (TI.of Tryz.t282 Tryz.t282.desc)) .e) 
  (some (TI.of Tryz.t154 Tryz.t154.desc)) (.n .e (some (TI.of Tryz.t410 Tryz.t5.desc)) .e)) (some (TI.of Tryz.t90 Tryz.t90.desc)) (.n (.n .e (some (TI.of Tryz.t346 Tryz.t346.desc)) .e) (some (TI.of Tryz.t218 
  Tryz.t218.desc)) .e)) (some (TI.of Tryz.t58 Tryz.t58.desc)) (.n (.n (.n .e (some (TI.of Tryz.t314 Tryz.t314.desc)) .e) (some (TI.of Tryz.t186 Tryz.t186.desc)) .e) (some (TI.of Tryz.t122 Tryz.t122.desc)) 
  (.n (.n .e (some (TI.of Tryz.t378 Tryz.t378.desc)) .e) (some (TI.of Tryz.t250 Tryz.t250.desc)) .e))))) (some (TI.of Tryz.t6 Tryz.t5.desc)) (.n (.n (.n (.n (.n (.n .e (some (TI.of Tryz.t262 Tryz.t262.desc)) 
  .e) (some (TI.of Tryz.t134 Tryz.t134.desc)) (.n .e (some (TI.of Tryz.t390 Tryz.t390.desc)) .e)) (some (TI.of Tryz.t70 Tryz.t70.desc)) (.n (.n .e (some (TI.of Tryz.t326 Tryz.t326.desc)) .e) (some (TI.of 
  Tryz.t198 Tryz.t198.desc)) .e)) (some (TI.of Tryz.t38 Tryz.t38.desc)) (.n (.n (.n .e (some (TI.of Tryz.t294 Tryz.t294.desc)) .e) (some (TI.of Tryz.t166 Tryz.t166.desc)) (.n .e (some (TI.of Tryz.t422 Tryz.t421.desc)) 
  .e)) (some (TI.of Tryz.t102 Tryz.t102.desc)) (.n (.n .e (some (TI.of Tryz.t358 Tryz.t357.desc)) .e) (some (TI.of Tryz.t230 Tryz.t230.desc)) .e))) (some (TI.of Tryz.t22 Tryz.t22.desc)) (.n (.n (.n (.n .e 
  (some (TI.of Tryz.t278 Tryz.t278.desc)) .e) (some (TI.of Tryz.t150 Tryz.t150.desc)) (.n .e (some (TI.of Tryz.t406 Tryz.t406.desc)) .e)) (some (TI.of Tryz.t86 Tryz.t86.desc)) (.n (.n .e (some (TI.of Tryz.t342 
  Tryz.t342.desc)) .e) (some (TI.of Tryz.t214 Tryz.t214.desc)) .e)) (some (TI.of Tryz.t54 Tryz.t54.desc)) (.n (.n (.n .e (some (TI.of Tryz.t310 Tryz.t309.desc)) .e) (some (TI.of Tryz.t182 Tryz.t182.desc)) 
  .e) (some (TI.of Tryz.t118 Tryz.t118.desc)) (.n (.n .e (some (TI.of Tryz.t374 Tryz.t374.desc)) .e) (some (TI.of Tryz.t246 Tryz.t246.desc)) .e)))) (some (TI.of Tryz.t14 Tryz.t13.desc)) (.n (.n (.n (.n (.n 
  .e (some (TI.of Tryz.t270 Tryz.t269.desc)) .e) (some (TI.of Tryz.t142 Tryz.t142.desc)) (.n .e (some (TI.of Tryz.t398 Tryz.t398.desc)) .e)) (some (TI.of Tryz.t78 Tryz.t77.desc)) (.n (.n .e (some (TI.of 
  Tryz.t334 Tryz.t334.desc)) .e) (some (TI.of Tryz.t206 Tryz.t206.desc)) .e)) (some (TI.of Tryz.t46 Tryz.t45.desc)) (.n (.n (.n .e (some (TI.of Tryz.t302 Tryz.t302.desc)) .e) (some (TI.of Tryz.t174 Tryz.t174.desc)) 
  .e) (some (TI.of Tryz.t110 Tryz.t110.desc)) (.n (.n .e (some (TI.of Tryz.t366 Tryz.t366.desc)) .e) (some (TI.of Tryz.t238 Tryz.t238.desc)) .e))) (some (TI.of Tryz.t30 Tryz.t30.desc)) (.n (.n (.n (.n .e 
  (some (TI.of Tryz.t286 Tryz.t286.desc)) .e) (some (TI.of Tryz.t158 Tryz.t158.desc)) (.n .e (some (TI.of Tryz.t414 Tryz.t21.desc)) .e)) (some (TI.of Tryz.t94 Tryz.t93.desc)) (.n (.n .e (some (TI.of Tryz.t350 
  Tryz.t349.desc)) .e) (some (TI.of Tryz.t222 Tryz.t222.desc)) .e)) (some (TI.of Tryz.t62 Tryz.t62.desc)) (.n (.n (.n .e (some (TI.of Tryz.t318 Tryz.t317.desc)) .e) (some (TI.of Tryz.t190 Tryz.t189.desc)) 
  .e) (some (TI.of Tryz.t126 Tryz.t126.desc)) (.n (.n .e (some (TI.of Tryz.t382 Tryz.t382.desc)) .e) (some (TI.of Tryz.t254 Tryz.t254.desc)) .e))))))))
set_option maxRecDepth 100000 in
noncomputable def fnTab : Tr FI :=
  (.n (.n (.n (.n (.n (.n (.n (.n (.n .e (some (FI.of Tryz.f255)) .e) (some (FI.of Tryz.f127)) .e) (some (FI.of Tryz.f63)) (.n (.n .e (some (FI.of Tryz.f319)) .e) (some (FI.of Tryz.f191)) .e)) (some (FI.of 
  Tryz.f31)) (.n (.n (.n .e (some (FI.of Tryz.f287)) .e) (some (FI.of Tryz.f159)) .e) (some (FI.of Tryz.f95)) (.n .e (some (FI.of Tryz.f223)) .e))) (some (FI.of Tryz.f15)) (.n (.n (.n (.n .e (some (FI.of 
  Tryz.f271)) .e) (some (FI.of Tryz.f143)) .e) (some (FI.of Tryz.f79)) (.n (.n .e (some (FI.of Tryz.f335)) .e) (some (FI.of Tryz.f207)) .e)) (some (FI.of Tryz.f47)) (.n (.n (.n .e (some (FI.of Tryz.f303)) 
  .e) (some (FI.of Tryz.f175)) .e) (some (FI.of Tryz.f111)) (.n .e (some (FI.of Tryz.f239)) .e)))) (some (FI.of Tryz.f7)) (.n (.n (.n (.n (.n .e (some (FI.of Tryz.f263)) .e) (some (FI.of Tryz.f135)) .e) 
  (some (FI.of Tryz.f71)) (.n (.n .e (some (FI.of Tryz.f327)) .e) (some (FI.of Tryz.f199)) .e)) (some (FI.of Tryz.f39)) (.n (.n (.n .e (some (FI.of Tryz.f295)) .e) (some (FI.of Tryz.f167)) .e) (some (FI.of 
  Tryz.f103)) (.n .e (some (FI.of Tryz.f231)) .e))) (some (FI.of Tryz.f23)) (.n (.n (.n (.n .e (some (FI.of Tryz.f279)) .e) (some (FI.of Tryz.f151)) .e) (some (FI.of Tryz.f87)) (.n (.n .e (some (FI.of Tryz.f343)) 
  .e) (some (FI.of Tryz.f215)) .e)) (some (FI.of Tryz.f55)) (.n (.n (.n .e (some (FI.of Tryz.f311)) .e) (some (FI.of Tryz.f183)) .e) (some (FI.of Tryz.f119)) (.n .e (some (FI.of Tryz.f247)) .e))))) (some 
  (FI.of Tryz.f3)) (.n (.n (.n (.n (.n (.n .e (some (FI.of Tryz.f259)) .e) (some (FI.of Tryz.f131)) .e) (some (FI.of Tryz.f67)) (.n (.n .e (some (FI.of Tryz.f323)) .e) (some (FI.of Tryz.f195)) .e)) (some 
  (FI.of Tryz.f35)) (.n (.n (.n .e (some (FI.of Tryz.f291)) .e) (some (FI.of Tryz.f163)) .e) (some (FI.of Tryz.f99)) (.n .e (some (FI.of Tryz.f227)) .e))) (some (FI.of Tryz.f19)) (.n (.n (.n (.n .e (some 
  (FI.of Tryz.f275)) .e) (some (FI.of Tryz.f147)) .e) (some (FI.of Tryz.f83)) (.n (.n .e (some (FI.of Tryz.f339)) .e) (some (FI.of Tryz.f211)) .e)) (some (FI.of Tryz.f51)) (.n (.n (.n .e (some (FI.of Tryz.f307)) 
  .e) (some (FI.of Tryz.f179)) .e) (some (FI.of Tryz.f115)) (.n .e (some (FI.of Tryz.f243)) .e)))) (some (FI.of Tryz.f11)) (.n (.n (.n (.n (.n .e (some (FI.of Tryz.f267)) .e) (some (FI.of Tryz.f139)) .e) 
  (some (FI.of Tryz.f75)) (.n (.n .e (some (FI.of Tryz.f331)) .e) (some (FI.of Tryz.f203)) .e)) (some (FI.of Tryz.f43)) (.n (.n (.n .e (some (FI.of Tryz.f299)) .e) (some (FI.of Tryz.f171)) .e) (some (FI.of 
  Tryz.f107)) (.n .e (some (FI.of Tryz.f235)) .e))) (some (FI.of Tryz.f27)) (.n (.n (.n (.n .e (some (FI.of Tryz.f283)) .e) (some (FI.of Tryz.f155)) .e) (some (FI.of Tryz.f91)) (.n .e (some (FI.of Tryz.f219)) 
  .e)) none (.n (.n (.n .e (some (FI.of Tryz.f315)) .e) (some (FI.of Tryz.f187)) .e) (some (FI.of Tryz.f123)) (.n .e (some (FI.of Tryz.f251)) .e)))))) none (.n (.n (.n (.n (.n (.n (.n .e (some (FI.of Tryz.f257)) 
  .e) (some (FI.of Tryz.f129)) .e) (some (FI.of Tryz.f65)) (.n (.n .e (some (FI.of Tryz.f321)) .e) (some (FI.of Tryz.f193)) .e)) (some (FI.of Tryz.f33)) (.n (.n (.n .e (some (FI.of Tryz.f289)) .e) (some 
  (FI.of Tryz.f161)) .e) (some (FI.of Tryz.f97)) (.n .e (some (FI.of Tryz.f225)) .e))) (some (FI.of Tryz.f17)) (.n (.n (.n (.n .e (some (FI.of Tryz.f273)) .e) (some (FI.of Tryz.f145)) .e) (some (FI.of Tryz.f81)) 
  (.n (.n .e (some (FI.of Tryz.f337)) .e) (some (FI.of Tryz.f209)) .e)) (some (FI.of Tryz.f49)) (.n (.n (.n .e (some (FI.of Tryz.f305)) .e) (some (FI.of Tryz.f177)) .e) (some (FI.of Tryz.f113)) (.n .e (some 
  (FI.of Tryz.f241)) .e)))) (some (FI.of Tryz.f9)) (.n (.n (.n (.n (.n .e (some (FI.of Tryz.f265)) .e) (some (FI.of Tryz.f137)) .e) (some (FI.of Tryz.f73)) (.n (.n .e (some (FI.of Tryz.f329)) .e) (some (FI.of 
  Tryz.f201)) .e)) (some (FI.of Tryz.f41)) (.n (.n (.n .e (some (FI.of Tryz.f297)) .e) (some (FI.of Tryz.f169)) .e) (some (FI.of Tryz.f105)) (.n .e (some (FI.of Tryz.f233)) .e))) (some (FI.of Tryz.f25)) 
  (.n (.n (.n (.n .e (some (FI.of Tryz.f281)) .e) (some (FI.of Tryz.f153)) .e) (some (FI.of Tryz.f89)) (.n (.n .e (some (FI.of Tryz.f345)) .e) (some (FI.of Tryz.f217)) .e)) (some (FI.of Tryz.f57)) (.n (.n 
  (.n .e (some (FI.of Tryz.f313)) .e) (some (FI.of Tryz.f185)) .e) (some (FI.of Tryz.f121)) (.n .e (some (FI.of Tryz.f249)) .e))))) (some (FI.of Tryz.f5)) (.n (.n (.n (.n (.n (.n .e (some (FI.of Tryz.f261)) 
  .e) (some (FI.of Tryz.f133)) .e) (some (FI.of Tryz.f69)) (.n (.n .e (some (FI.of Tryz.f325)) .e) (some (FI.of Tryz.f197)) .e)) (some (FI.of Tryz.f37)) (.n (.n (.n .e (some (FI.of Tryz.f293)) .e) (some 
  (FI.of Tryz.f165)) .e) (some (FI.of Tryz.f101)) (.n .e (some (FI.of Tryz.f229)) .e))) (some (FI.of Tryz.f21)) (.n (.n (.n (.n .e (some (FI.of Tryz.f277)) .e) (some (FI.of Tryz.f149)) .e) (some (FI.of Tryz.f85)) 
  (.n (.n .e (some (FI.of Tryz.f341)) .e) (some (FI.of Tryz.f213)) .e)) (some (FI.of Tryz.f53)) (.n (.n (.n .e (some (FI.of Tryz.f309)) .e) (some (FI.of Tryz.f181)) .e) (some (FI.of Tryz.f117)) (.n .e (some 
  (FI.of Tryz.f245)) .e)))) (some (FI.of Tryz.f13)) (.n (.n (.n (.n (.n .e (some (FI.of Tryz.f269)) .e) (some (FI.of Tryz.f141)) .e) (some (FI.of Tryz.f77)) (.n (.n .e (some (FI.of Tryz.f333)) .e) (some 
  (FI.of Tryz.f205)) .e)) (some (FI.of Tryz.f45)) (.n (.n (.n .e (some (FI.of Tryz.f301)) .e) (some (FI.of Tryz.f173)) .e) (some (FI.of Tryz.f109)) (.n .e (some (FI.of Tryz.f237)) .e))) (some (FI.of Tryz.f29)) 
  (.n (.n (.n (.n .e (some (FI.of Tryz.f285)) .e) (some (FI.of Tryz.f157)) .e) (some (FI.of Tryz.f93)) (.n .e (some (FI.of Tryz.f221)) .e)) (some (FI.of Tryz.f61)) (.n (.n (.n .e (some (FI.of Tryz.f317)) 
  .e) (some (FI.of Tryz.f189)) .e) (some (FI.of Tryz.f125)) (.n .e (some (FI.of Tryz.f253)) .e))))))) none (.n (.n (.n (.n (.n (.n (.n (.n .e (some (FI.of Tryz.f256)) .e) (some (FI.of Tryz.f128)) .e) (some 
  (FI.of Tryz.f64)) (.n (.n .e (some (FI.of Tryz.f320)) .e) (some (FI.of Tryz.f192)) .e)) (some (FI.of Tryz.f32)) (.n (.n (.n .e (some (FI.of Tryz.f288)) .e) (some (FI.of Tryz.f160)) .e) (some (FI.of Tryz.f96)) 
  (.n .e (some (FI.of Tryz.f224)) .e))) (some (FI.of Tryz.f16)) (.n (.n (.n (.n .e (some (FI.of Tryz.f272)) .e) (some (FI.of Tryz.f144)) .e) (some (FI.of Tryz.f80)) (.n (.n .e (some (FI.of Tryz.f336)) .e) 
  (some (FI.of Tryz.f208)) .e)) (some (FI.of Tryz.f48)) (.n (.n (.n .e (some (FI.of Tryz.f304)) .e) (some (FI.of Tryz.f176)) .e) (some (FI.of Tryz.f112)) (.n .e (some (FI.of Tryz.f240)) .e)))) (some (FI.of 
  Tryz.f8)) (.n (.n (.n (.n (.n .e (some (FI.of Tryz.f264)) .e) (some (FI.of Tryz.f136)) .e) (some (FI.of Tryz.f72)) (.n (.n .e (some (FI.of Tryz.f328)) .e) (some (FI.of Tryz.f200)) .e)) (some (FI.of Tryz.f40)) 
  (.n (.n (.n .e (some (FI.of Tryz.f296)) .e) (some (FI.of Tryz.f168)) .e) (some (FI.of Tryz.f104)) (.n .e (some (FI.of Tryz.f232)) .e))) (some (FI.of Tryz.f24)) (.n (.n (.n (.n .e (some (FI.of Tryz.f280)) 
  .e) (some (FI.of Tryz.f152)) .e) (some (FI.of Tryz.f88)) (.n (.n .e (some (FI.of Tryz.f344)) .e) (some (FI.of Tryz.f216)) .e)) (some (FI.of Tryz.f56)) (.n (.n (.n .e (some (FI.of Tryz.f312)) .e) (some 
  (FI.of Tryz.f184)) .e) (some (FI.of Tryz.f120)) (.n (.n .e (some (FI.of Tryz.f376)) .e) (some (FI.of Tryz.f248)) .e))))) (some (FI.of Tryz.f4)) (.n (.n (.n (.n (.n (.n .e (some (FI.of Tryz.f260)) .e) (some 
  (FI.of Tryz.f132)) .e) (some (FI.of Tryz.f68)) (.n (.n .e (some (FI.of Tryz.f324)) .e) (some (FI.of Tryz.f196)) .e)) (some (FI.of Tryz.f36)) (.n (.n (.n .e (some (FI.of Tryz.f292)) .e) (some (FI.of Tryz.f164)) 
  .e) (some (FI.of Tryz.f100)) (.n .e (some (FI.of Tryz.f228)) .e))) (some (FI.of Tryz.f20)) (.n (.n (.n (.n .e (some (FI.of Tryz.f276)) .e) (some (FI.of Tryz.f148)) .e) (some (FI.of Tryz.f84)) (.n .e (some 
  (FI.of Tryz.f212)) .e)) (some (FI.of Tryz.f52)) (.n (.n (.n .e (some (FI.of Tryz.f308)) .e) (some (FI.of Tryz.f180)) .e) (some (FI.of Tryz.f116)) (.n .e (some (FI.of Tryz.f244)) .e)))) (some (FI.of Tryz.f12)) 
  (.n (.n (.n (.n (.n .e (some (FI.of Tryz.f268)) .e) (some (FI.of Tryz.f140)) .e) (some (FI.of Tryz.f76)) (.n (.n .e (some (FI.of Tryz.f332)) .e) (some (FI.of Tryz.f204)) .e)) (some (FI.of Tryz.f44)) (.n 
  (.n (.n .e (some (FI.of Tryz.f300)) .e) (some (FI.of Tryz.f172)) .e) (some (FI.of Tryz.f108)) (.n .e (some (FI.of Tryz.f236)) .e))) (some (FI.of Tryz.f28)) (.n (.n (.n (.n .e (some (FI.of Tryz.f284)) .e) 
  (some (FI.of Tryz.f156)) .e) (some (FI.of Tryz.f92)) (.n .e (some (FI.of Tryz.f220)) .e)) (some (FI.of Tryz.f60)) (.n (.n (.n .e (some (FI.of Tryz.f316)) .e) (some (FI.of Tryz.f188)) .e) (some (FI.of Tryz.f124)) 
  (.n .e (some (FI.of Tryz.f252)) .e)))))) (some (FI.of Tryz.f2)) (.n (.n (.n (.n (.n (.n (.n .e (some (FI.of Tryz.f258)) .e) (some (FI.of Tryz.f130)) .e) (some (FI.of Tryz.f66)) (.n (.n .e (some (FI.of 
  Tryz.f322)) .e) (some (FI.of Tryz.f194)) .e)) (some (FI.of Tryz.f34)) (.n (.n (.n .e (some (FI.of Tryz.f290)) .e) (some (FI.of Tryz.f162)) .e) (some (FI.of Tryz.f98)) (.n .e (some (FI.of Tryz.f226)) .e))) 
  (some (FI.of Tryz.f18)) (.n (.n (.n (.n .e (some (FI.of Tryz.f274)) .e) (some (FI.of Tryz.f146)) .e) (some (FI.of Tryz.f82)) (.n (.n .e (some (FI.of Tryz.f338)) .e) (some (FI.of Tryz.f210)) .e)) (some 
  (FI.of Tryz.f50)) (.n (.n (.n .e (some (FI.of Tryz.f306)) .e) (some (FI.of Tryz.f178)) .e) (some (FI.of Tryz.f114)) (.n .e (some (FI.of Tryz.f242)) .e)))) (some (FI.of Tryz.f10)) (.n (.n (.n (.n (.n .e 
  (some (FI.of Tryz.f266)) .e) (some (FI.of Tryz.f138)) .e) (some (FI.of Tryz.f74)) (.n (.n .e (some (FI.of Tryz.f330)) .e) (some (FI.of Tryz.f202)) .e)) (some (FI.of Tryz.f42)) (.n (.n (.n .e (some (FI.of 
  Tryz.f298)) .e) (some (FI.of Tryz.f170)) .e) (some (FI.of Tryz.f106)) (.n .e (some (FI.of Tryz.f234)) .e))) (some (FI.of Tryz.f26)) (.n (.n (.n (.n .e (some (FI.of Tryz.f282)) .e) (some (FI.of Tryz.f154)) 
  .e) (some (FI.of Tryz.f90)) (.n .e (some (FI.of Tryz.f218)) .e)) (some (FI.of Tryz.f58)) (.n (.n (.n .e (some (FI.of Tryz.f314)) .e) (some (FI.of Tryz.f186)) .e) (some (FI.of Tryz.f122)) (.n .e (some (FI.of 
  Tryz.f250)) .e))))) (some (FI.of Tryz.f6)) (.n (.n (.n (.n (.n (.n .e (some (FI.of Tryz.f262)) .e) (some (FI.of Tryz.f134)) .e) (some (FI.of Tryz.f70)) (.n (.n .e (some (FI.of Tryz.f326)) .e) (some (FI.of 
  Tryz.f198)) .e)) (some (FI.of Tryz.f38)) (.n (.n (.n .e (some (FI.of Tryz.f294)) .e) (some (FI.of Tryz.f166)) .e) (some (FI.of Tryz.f102)) (.n .e (some (FI.of Tryz.f230)) .e))) (some (FI.of Tryz.f22)) 
  (.n (.n (.n (.n .e (some (FI.of Tryz.f278)) .e) (some (FI.of Tryz.f150)) .e) (some (FI.of Tryz.f86)) (.n (.n .e (some (FI.of Tryz.f342)) .e) (some (FI.of Tryz.f214)) .e)) (some (FI.of Tryz.f54)) (.n (.n 
  (.n .e (some (FI.of Tryz.f310)) .e) (some (FI.of Tryz.f182)) .e) (some (FI.of Tryz.f118)) (.n .e (some (FI.of Tryz.f246)) .e)))) (some (FI.of Tryz.f14)) (.n (.n (.n (.n (.n .e (some (FI.of Tryz.f270)) 
  .e) (some (FI.of Tryz.f142)) .e) (some (FI.of Tryz.f78)) (.n (.n .e (some (FI.of Tryz.f334)) .e) (some (FI.of Tryz.f206)) .e)) (some (FI.of Tryz.f46)) (.n (.n (.n .e (some (FI.of Tryz.f302)) .e) (some 
  (FI.of Tryz.f174)) .e) (some (FI.of Tryz.f110)) (.n .e (some (FI.of Tryz.f238)) .e))) (some (FI.of Tryz.f30)) (.n (.n (.n (.n .e (some (FI.of Tryz.f286)) .e) (some (FI.of Tryz.f158)) .e) (some (FI.of Tryz.f94)) 
  (.n .e (some (FI.of Tryz.f222)) .e)) (some (FI.of Tryz.f62)) (.n (.n (.n .e (some (FI.of Tryz.f318)) .e) (some (FI.of Tryz.f190)) .e) (some (FI.of Tryz.f126)) (.n .e (some (FI.of Tryz.f254)) .e))))))))
def eqTab : List TypeId := [7, 8, 23, 24, 25, 26, 28, 29, 38, 39, 40, 41, 43, 44, 45, 46, 47, 48, 49, 50, 52, 53, 54, 55, 56, 57, 77, 78, 90, 91, 93, 94, 100, 101, 124, 125, 127, 128, 137, 138, 154, 155, 158, 159, 170, 171, 194, 195, 216, 217, 227, 228, 269, 270, 309, 310, 317, 318, 323, 324, 349, 350, 357, 358, 368, 369, 371, 372, 374, 375, 394, 395, 419, 420, 421, 422]
theorem tyOk0 : TyOk Tryz.prog 0 (TI.of Tryz.t0 Tryz.t0.desc) := TI.ok Tryz.underlying0 Tryz.typeInfo0
theorem tyOk1 : TyOk Tryz.prog 1 (TI.of Tryz.t1 Tryz.t1.desc) := TI.ok Tryz.underlying1 Tryz.typeInfo1
theorem tyOk2 : TyOk Tryz.prog 2 (TI.of Tryz.t2 Tryz.t2.desc) := TI.ok Tryz.underlying2 Tryz.typeInfo2
theorem tyOk3 : TyOk Tryz.prog 3 (TI.of Tryz.t3 Tryz.t3.desc) := TI.ok Tryz.underlying3 Tryz.typeInfo3
theorem tyOk4 : TyOk Tryz.prog 4 (TI.of Tryz.t4 Tryz.t4.desc) := TI.ok Tryz.underlying4 Tryz.typeInfo4
theorem tyOk5 : TyOk Tryz.prog 5 (TI.of Tryz.t5 Tryz.t5.desc) := TI.ok Tryz.underlying5 Tryz.typeInfo5
theorem tyOk6 : TyOk Tryz.prog 6 (TI.of Tryz.t6 Tryz.t5.desc) := TI.ok Tryz.underlying6 Tryz.typeInfo6
theorem tyOk7 : TyOk Tryz.prog 7 (TI.of Tryz.t7 Tryz.t7.desc) := TI.ok Tryz.underlying7 Tryz.typeInfo7
theorem tyOk8 : TyOk Tryz.prog 8 (TI.of Tryz.t8 Tryz.t7.desc) := TI.ok Tryz.underlying8 Tryz.typeInfo8
theorem tyOk9 : TyOk Tryz.prog 9 (TI.of Tryz.t9 Tryz.t9.desc) := TI.ok Tryz.underlying9 Tryz.typeInfo9
theorem tyOk10 : TyOk Tryz.prog 10 (TI.of Tryz.t10 Tryz.t9.desc) := TI.ok Tryz.underlying10 Tryz.typeInfo10
theorem tyOk11 : TyOk Tryz.prog 11 (TI.of Tryz.t11 Tryz.t9.desc) := TI.ok Tryz.underlying11 Tryz.typeInfo11
theorem tyOk12 : TyOk Tryz.prog 12 (TI.of Tryz.t12 Tryz.t12.desc) := TI.ok Tryz.underlying12 Tryz.typeInfo12
theorem tyOk13 : TyOk Tryz.prog 13 (TI.of Tryz.t13 Tryz.t13.desc) := TI.ok Tryz.underlying13 Tryz.typeInfo13
theorem tyOk14 : TyOk Tryz.prog 14 (TI.of Tryz.t14 Tryz.t13.desc) := TI.ok Tryz.underlying14 Tryz.typeInfo14
theorem tyOk15 : TyOk Tryz.prog 15 (TI.of Tryz.t15 Tryz.t15.desc) := TI.ok Tryz.underlying15 Tryz.typeInfo15
theorem tyOk16 : TyOk Tryz.prog 16 (TI.of Tryz.t16 Tryz.t16.desc) := TI.ok Tryz.underlying16 Tryz.typeInfo16
theorem tyOk17 : TyOk Tryz.prog 17 (TI.of Tryz.t17 Tryz.t17.desc) := TI.ok Tryz.underlying17 Tryz.typeInfo17
theorem tyOk18 : TyOk Tryz.prog 18 (TI.of Tryz.t18 Tryz.t18.desc) := TI.ok Tryz.underlying18 Tryz.typeInfo18
theorem tyOk19 : TyOk Tryz.prog 19 (TI.of Tryz.t19 Tryz.t18.desc) := TI.ok Tryz.underlying19 Tryz.typeInfo19
theorem tyOk20 : TyOk Tryz.prog 20 (TI.of Tryz.t20 Tryz.t20.desc) := TI.ok Tryz.underlying20 Tryz.typeInfo20
theorem tyOk21 : TyOk Tryz.prog 21 (TI.of Tryz.t21 Tryz.t21.desc) := TI.ok Tryz.underlying21 Tryz.typeInfo21
theorem tyOk22 : TyOk Tryz.prog 22 (TI.of Tryz.t22 Tryz.t22.desc) := TI.ok Tryz.underlying22 Tryz.typeInfo22
theorem tyOk23 : TyOk Tryz.prog 23 (TI.of Tryz.t23 Tryz.t23.desc) := TI.ok Tryz.underlying23 Tryz.typeInfo23
theorem tyOk24 : TyOk Tryz.prog 24 (TI.of Tryz.t24 Tryz.t23.desc) := TI.ok Tryz.underlying24 Tryz.typeInfo24
theorem tyOk25 : TyOk Tryz.prog 25 (TI.of Tryz.t25 Tryz.t25.desc) := TI.ok Tryz.underlying25 Tryz.typeInfo25
theorem tyOk26 : TyOk Tryz.prog 26 (TI.of Tryz.t26 Tryz.t25.desc) := TI.ok Tryz.underlying26 Tryz.typeInfo26
theorem tyOk27 : TyOk Tryz.prog 27 (TI.of Tryz.t27 Tryz.t27.desc) := TI.ok Tryz.underlying27 Tryz.typeInfo27
theorem tyOk28 : TyOk Tryz.prog 28 (TI.of Tryz.t28 Tryz.t28.desc) := TI.ok Tryz.underlying28 Tryz.typeInfo28
theorem tyOk29 : TyOk Tryz.prog 29 (TI.of Tryz.t29 Tryz.t28.desc) := TI.ok Tryz.underlying29 Tryz.typeInfo29
theorem tyOk30 : TyOk Tryz.prog 30 (TI.of Tryz.t30 Tryz.t30.desc) := TI.ok Tryz.underlying30 Tryz.typeInfo30
theorem tyOk31 : TyOk Tryz.prog 31 (TI.of Tryz.t31 Tryz.t31.desc) := TI.ok Tryz.underlying31 Tryz.typeInfo31
theorem tyOk32 : TyOk Tryz.prog 32 (TI.of Tryz.t32 Tryz.t32.desc) := TI.ok Tryz.underlying32 Tryz.typeInfo32
theorem tyOk33 : TyOk Tryz.prog 33 (TI.of Tryz.t33 Tryz.t33.desc) := TI.ok Tryz.underlying33 Tryz.typeInfo33
theorem tyOk34 : TyOk Tryz.prog 34 (TI.of Tryz.t34 Tryz.t3.desc) := TI.ok Tryz.underlying34 Tryz.typeInfo34
theorem tyOk35 : TyOk Tryz.prog 35 (TI.of Tryz.t35 Tryz.t35.desc) := TI.ok Tryz.underlying35 Tryz.typeInfo35
theorem tyOk36 : TyOk Tryz.prog 36 (TI.of Tryz.t36 Tryz.t36.desc) := TI.ok Tryz.underlying36 Tryz.typeInfo36
theorem tyOk37 : TyOk Tryz.prog 37 (TI.of Tryz.t37 Tryz.t37.desc) := TI.ok Tryz.underlying37 Tryz.typeInfo37
theorem tyOk38 : TyOk Tryz.prog 38 (TI.of Tryz.t38 Tryz.t38.desc) := TI.ok Tryz.underlying38 Tryz.typeInfo38
theorem tyOk39 : TyOk Tryz.prog 39 (TI.of Tryz.t39 Tryz.t38.desc) := TI.ok Tryz.underlying39 Tryz.typeInfo39
theorem tyOk40 : TyOk Tryz.prog 40 (TI.of Tryz.t40 Tryz.t40.desc) := TI.ok Tryz.underlying40 Tryz.typeInfo40
theorem tyOk41 : TyOk Tryz.prog 41 (TI.of Tryz.t41 Tryz.t40.desc) := TI.ok Tryz.underlying41 Tryz.typeInfo41
theorem tyOk42 : TyOk Tryz.prog 42 (TI.of Tryz.t42 Tryz.t42.desc) := TI.ok Tryz.underlying42 Tryz.typeInfo42
theorem tyOk43 : TyOk Tryz.prog 43 (TI.of Tryz.t43 Tryz.t43.desc) := TI.ok Tryz.underlying43 Tryz.typeInfo43
theorem tyOk44 : TyOk Tryz.prog 44 (TI.of Tryz.t44 Tryz.t43.desc) := TI.ok Tryz.underlying44 Tryz.typeInfo44
theorem tyOk45 : TyOk Tryz.prog 45 (TI.of Tryz.t45 Tryz.t45.desc) := TI.ok Tryz.underlying45 Tryz.typeInfo45
theorem tyOk46 : TyOk Tryz.prog 46 (TI.of Tryz.t46 Tryz.t45.desc) := TI.ok Tryz.underlying46 Tryz.typeInfo46
theorem tyOk47 : TyOk Tryz.prog 47 (TI.of Tryz.t47 Tryz.t47.desc) := TI.ok Tryz.underlying47 Tryz.typeInfo47
theorem tyOk48 : TyOk Tryz.prog 48 (TI.of Tryz.t48 Tryz.t47.desc) := TI.ok Tryz.underlying48 Tryz.typeInfo48
theorem tyOk49 : TyOk Tryz.prog 49 (TI.of Tryz.t49 Tryz.t49.desc) := TI.ok Tryz.underlying49 Tryz.typeInfo49
theorem tyOk50 : TyOk Tryz.prog 50 (TI.of Tryz.t50 Tryz.t49.desc) := TI.ok Tryz.underlying50 Tryz.typeInfo50
theorem tyOk51 : TyOk Tryz.prog 51 (TI.of Tryz.t51 Tryz.t51.desc) := TI.ok Tryz.underlying51 Tryz.typeInfo51
theorem tyOk52 : TyOk Tryz.prog 52 (TI.of Tryz.t52 Tryz.t52.desc) := TI.ok Tryz.underlying52 Tryz.typeInfo52
theorem tyOk53 : TyOk Tryz.prog 53 (TI.of Tryz.t53 Tryz.t52.desc) := TI.ok Tryz.underlying53 Tryz.typeInfo53
theorem tyOk54 : TyOk Tryz.prog 54 (TI.of Tryz.t54 Tryz.t54.desc) := TI.ok Tryz.underlying54 Tryz.typeInfo54
theorem tyOk55 : TyOk Tryz.prog 55 (TI.of Tryz.t55 Tryz.t54.desc) := TI.ok Tryz.underlying55 Tryz.typeInfo55
theorem tyOk56 : TyOk Tryz.prog 56 (TI.of Tryz.t56 Tryz.t56.desc) := TI.ok Tryz.underlying56 Tryz.typeInfo56
theorem tyOk57 : TyOk Tryz.prog 57 (TI.of Tryz.t57 Tryz.t56.desc) := TI.ok Tryz.underlying57 Tryz.typeInfo57
theorem tyOk58 : TyOk Tryz.prog 58 (TI.of Tryz.t58 Tryz.t58.desc) := TI.ok Tryz.underlying58 Tryz.typeInfo58
theorem tyOk59 : TyOk Tryz.prog 59 (TI.of Tryz.t59 Tryz.t59.desc) := TI.ok Tryz.underlying59 Tryz.typeInfo59
theorem tyOk60 : TyOk Tryz.prog 60 (TI.of Tryz.t60 Tryz.t60.desc) := TI.ok Tryz.underlying60 Tryz.typeInfo60
theorem tyOk61 : TyOk Tryz.prog 61 (TI.of Tryz.t61 Tryz.t61.desc) := TI.ok Tryz.underlying61 Tryz.typeInfo61
theorem tyOk62 : TyOk Tryz.prog 62 (TI.of Tryz.t62 Tryz.t62.desc) := TI.ok Tryz.underlying62 Tryz.typeInfo62
theorem tyOk63 : TyOk Tryz.prog 63 (TI.of Tryz.t63 Tryz.t63.desc) := TI.ok Tryz.underlying63 Tryz.typeInfo63
theorem tyOk64 : TyOk Tryz.prog 64 (TI.of Tryz.t64 Tryz.t64.desc) := TI.ok Tryz.underlying64 Tryz.typeInfo64
theorem tyOk65 : TyOk Tryz.prog 65 (TI.of Tryz.t65 Tryz.t65.desc) := TI.ok Tryz.underlying65 Tryz.typeInfo65
theorem tyOk66 : TyOk Tryz.prog 66 (TI.of Tryz.t66 Tryz.t66.desc) := TI.ok Tryz.underlying66 Tryz.typeInfo66
theorem tyOk67 : TyOk Tryz.prog 67 (TI.of Tryz.t67 Tryz.t67.desc) := TI.ok Tryz.underlying67 Tryz.typeInfo67
theorem tyOk68 : TyOk Tryz.prog 68 (TI.of Tryz.t68 Tryz.t68.desc) := TI.ok Tryz.underlying68 Tryz.typeInfo68
theorem tyOk69 : TyOk Tryz.prog 69 (TI.of Tryz.t69 Tryz.t69.desc) := TI.ok Tryz.underlying69 Tryz.typeInfo69
theorem tyOk70 : TyOk Tryz.prog 70 (TI.of Tryz.t70 Tryz.t70.desc) := TI.ok Tryz.underlying70 Tryz.typeInfo70
theorem tyOk71 : TyOk Tryz.prog 71 (TI.of Tryz.t71 Tryz.t71.desc) := TI.ok Tryz.underlying71 Tryz.typeInfo71
theorem tyOk72 : TyOk Tryz.prog 72 (TI.of Tryz.t72 Tryz.t72.desc) := TI.ok Tryz.underlying72 Tryz.typeInfo72
theorem tyOk73 : TyOk Tryz.prog 73 (TI.of Tryz.t73 Tryz.t73.desc) := TI.ok Tryz.underlying73 Tryz.typeInfo73
theorem tyOk74 : TyOk Tryz.prog 74 (TI.of Tryz.t74 Tryz.t74.desc) := TI.ok Tryz.underlying74 Tryz.typeInfo74
theorem tyOk75 : TyOk Tryz.prog 75 (TI.of Tryz.t75 Tryz.t75.desc) := TI.ok Tryz.underlying75 Tryz.typeInfo75
theorem tyOk76 : TyOk Tryz.prog 76 (TI.of Tryz.t76 Tryz.t76.desc) := TI.ok Tryz.underlying76 Tryz.typeInfo76
theorem tyOk77 : TyOk Tryz.prog 77 (TI.of Tryz.t77 Tryz.t77.desc) := TI.ok Tryz.underlying77 Tryz.typeInfo77
theorem tyOk78 : TyOk Tryz.prog 78 (TI.of Tryz.t78 Tryz.t77.desc) := TI.ok Tryz.underlying78 Tryz.typeInfo78
theorem tyOk79 : TyOk Tryz.prog 79 (TI.of Tryz.t79 Tryz.t79.desc) := TI.ok Tryz.underlying79 Tryz.typeInfo79
theorem tyOk80 : TyOk Tryz.prog 80 (TI.of Tryz.t80 Tryz.t80.desc) := TI.ok Tryz.underlying80 Tryz.typeInfo80
theorem tyOk81 : TyOk Tryz.prog 81 (TI.of Tryz.t81 Tryz.t81.desc) := TI.ok Tryz.underlying81 Tryz.typeInfo81
theorem tyOk82 : TyOk Tryz.prog 82 (TI.of Tryz.t82 Tryz.t82.desc) := TI.ok Tryz.underlying82 Tryz.typeInfo82
theorem tyOk83 : TyOk Tryz.prog 83 (TI.of Tryz.t83 Tryz.t83.desc) := TI.ok Tryz.underlying83 Tryz.typeInfo83
theorem tyOk84 : TyOk Tryz.prog 84 (TI.of Tryz.t84 Tryz.t84.desc) := TI.ok Tryz.underlying84 Tryz.typeInfo84
theorem tyOk85 : TyOk Tryz.prog 85 (TI.of Tryz.t85 Tryz.t85.desc) := TI.ok Tryz.underlying85 Tryz.typeInfo85
theorem tyOk86 : TyOk Tryz.prog 86 (TI.of Tryz.t86 Tryz.t86.desc) := TI.ok Tryz.underlying86 Tryz.typeInfo86
theorem tyOk87 : TyOk Tryz.prog 87 (TI.of Tryz.t87 Tryz.t87.desc) := TI.ok Tryz.underlying87 Tryz.typeInfo87
theorem tyOk88 : TyOk Tryz.prog 88 (TI.of Tryz.t88 Tryz.t88.desc) := TI.ok Tryz.underlying88 Tryz.typeInfo88
theorem tyOk89 : TyOk Tryz.prog 89 (TI.of Tryz.t89 Tryz.t89.desc) := TI.ok Tryz.underlying89 Tryz.typeInfo89
theorem tyOk90 : TyOk Tryz.prog 90 (TI.of Tryz.t90 Tryz.t90.desc) := TI.ok Tryz.underlying90 Tryz.typeInfo90
theorem tyOk91 : TyOk Tryz.prog 91 (TI.of Tryz.t91 Tryz.t90.desc) := TI.ok Tryz.underlying91 Tryz.typeInfo91
theorem tyOk92 : TyOk Tryz.prog 92 (TI.of Tryz.t92 Tryz.t92.desc) := TI.ok Tryz.underlying92 Tryz.typeInfo92
theorem tyOk93 : TyOk Tryz.prog 93 (TI.of Tryz.t93 Tryz.t93.desc) := TI.ok Tryz.underlying93 Tryz.typeInfo93
theorem tyOk94 : TyOk Tryz.prog 94 (TI.of Tryz.t94 Tryz.t93.desc) := TI.ok Tryz.underlying94 Tryz.typeInfo94
theorem tyOk95 : TyOk Tryz.prog 95 (TI.of Tryz.t95 Tryz.t95.desc) := TI.ok Tryz.underlying95 Tryz.typeInfo95
theorem tyOk96 : TyOk Tryz.prog 96 (TI.of Tryz.t96 Tryz.t96.desc) := TI.ok Tryz.underlying96 Tryz.typeInfo96
theorem tyOk97 : TyOk Tryz.prog 97 (TI.of Tryz.t97 Tryz.t97.desc) := TI.ok Tryz.underlying97 Tryz.typeInfo97
theorem tyOk98 : TyOk Tryz.prog 98 (TI.of Tryz.t98 Tryz.t98.desc) := TI.ok Tryz.underlying98 Tryz.typeInfo98
theorem tyOk99 : TyOk Tryz.prog 99 (TI.of Tryz.t99 Tryz.t99.desc) := TI.ok Tryz.underlying99 Tryz.typeInfo99
theorem tyOk100 : TyOk Tryz.prog 100 (TI.of Tryz.t100 Tryz.t100.desc) := TI.ok Tryz.underlying100 Tryz.typeInfo100
theorem tyOk101 : TyOk Tryz.prog 101 (TI.of Tryz.t101 Tryz.t100.desc) := TI.ok Tryz.underlying101 Tryz.typeInfo101
theorem tyOk102 : TyOk Tryz.prog 102 (TI.of Tryz.t102 Tryz.t102.desc) := TI.ok Tryz.underlying102 Tryz.typeInfo102
theorem tyOk103 : TyOk Tryz.prog 103 (TI.of Tryz.t103 Tryz.t103.desc) := TI.ok Tryz.underlying103 Tryz.typeInfo103
theorem tyOk104 : TyOk Tryz.prog 104 (TI.of Tryz.t104 Tryz.t104.desc) := TI.ok Tryz.underlying104 Tryz.typeInfo104
theorem tyOk105 : TyOk Tryz.prog 105 (TI.of Tryz.t105 Tryz.t105.desc) := TI.ok Tryz.underlying105 Tryz.typeInfo105
theorem tyOk106 : TyOk Tryz.prog 106 (TI.of Tryz.t106 Tryz.t106.desc) := TI.ok Tryz.underlying106 Tryz.typeInfo106
theorem tyOk107 : TyOk Tryz.prog 107 (TI.of Tryz.t107 Tryz.t107.desc) := TI.ok Tryz.underlying107 Tryz.typeInfo107
theorem tyOk108 : TyOk Tryz.prog 108 (TI.of Tryz.t108 Tryz.t108.desc) := TI.ok Tryz.underlying108 Tryz.typeInfo108
theorem tyOk109 : TyOk Tryz.prog 109 (TI.of Tryz.t109 Tryz.t109.desc) := TI.ok Tryz.underlying109 Tryz.typeInfo109
theorem tyOk110 : TyOk Tryz.prog 110 (TI.of Tryz.t110 Tryz.t110.desc) := TI.ok Tryz.underlying110 Tryz.typeInfo110
theorem tyOk111 : TyOk Tryz.prog 111 (TI.of Tryz.t111 Tryz.t111.desc) := TI.ok Tryz.underlying111 Tryz.typeInfo111
theorem tyOk112 : TyOk Tryz.prog 112 (TI.of Tryz.t112 Tryz.t112.desc) := TI.ok Tryz.underlying112 Tryz.typeInfo112
theorem tyOk113 : TyOk Tryz.prog 113 (TI.of Tryz.t113 Tryz.t113.desc) := TI.ok Tryz.underlying113 Tryz.typeInfo113
theorem tyOk114 : TyOk Tryz.prog 114 (TI.of Tryz.t114 Tryz.t114.desc) := TI.ok Tryz.underlying114 Tryz.typeInfo114
theorem tyOk115 : TyOk Tryz.prog 115 (TI.of Tryz.t115 Tryz.t115.desc) := TI.ok Tryz.underlying115 Tryz.typeInfo115
theorem tyOk116 : TyOk Tryz.prog 116 (TI.of Tryz.t116 Tryz.t116.desc) := TI.ok Tryz.underlying116 Tryz.typeInfo116
theorem tyOk117 : TyOk Tryz.prog 117 (TI.of Tryz.t117 Tryz.t117.desc) := TI.ok Tryz.underlying117 Tryz.typeInfo117
theorem tyOk118 : TyOk Tryz.prog 118 (TI.of Tryz.t118 Tryz.t118.desc) := TI.ok Tryz.underlying118 Tryz.typeInfo118
theorem tyOk119 : TyOk Tryz.prog 119 (TI.of Tryz.t119 Tryz.t119.desc) := TI.ok Tryz.underlying119 Tryz.typeInfo119
theorem tyOk120 : TyOk Tryz.prog 120 (TI.of Tryz.t120 Tryz.t120.desc) := TI.ok Tryz.underlying120 Tryz.typeInfo120
theorem tyOk121 : TyOk Tryz.prog 121 (TI.of Tryz.t121 Tryz.t121.desc) := TI.ok Tryz.underlying121 Tryz.typeInfo121
theorem tyOk122 : TyOk Tryz.prog 122 (TI.of Tryz.t122 Tryz.t122.desc) := TI.ok Tryz.underlying122 Tryz.typeInfo122
theorem tyOk123 : TyOk Tryz.prog 123 (TI.of Tryz.t123 Tryz.t123.desc) := TI.ok Tryz.underlying123 Tryz.typeInfo123
theorem tyOk124 : TyOk Tryz.prog 124 (TI.of Tryz.t124 Tryz.t124.desc) := TI.ok Tryz.underlying124 Tryz.typeInfo124
theorem tyOk125 : TyOk Tryz.prog 125 (TI.of Tryz.t125 Tryz.t124.desc) := TI.ok Tryz.underlying125 Tryz.typeInfo125
theorem tyOk126 : TyOk Tryz.prog 126 (TI.of Tryz.t126 Tryz.t126.desc) := TI.ok Tryz.underlying126 Tryz.typeInfo126
theorem tyOk127 : TyOk Tryz.prog 127 (TI.of Tryz.t127 Tryz.t127.desc) := TI.ok Tryz.underlying127 Tryz.typeInfo127
theorem tyOk128 : TyOk Tryz.prog 128 (TI.of Tryz.t128 Tryz.t127.desc) := TI.ok Tryz.underlying128 Tryz.typeInfo128
theorem tyOk129 : TyOk Tryz.prog 129 (TI.of Tryz.t129 Tryz.t129.desc) := TI.ok Tryz.underlying129 Tryz.typeInfo129
theorem tyOk130 : TyOk Tryz.prog 130 (TI.of Tryz.t130 Tryz.t130.desc) := TI.ok Tryz.underlying130 Tryz.typeInfo130
theorem tyOk131 : TyOk Tryz.prog 131 (TI.of Tryz.t131 Tryz.t131.desc) := TI.ok Tryz.underlying131 Tryz.typeInfo131
theorem tyOk132 : TyOk Tryz.prog 132 (TI.of Tryz.t132 Tryz.t132.desc) := TI.ok Tryz.underlying132 Tryz.typeInfo132
theorem tyOk133 : TyOk Tryz.prog 133 (TI.of Tryz.t133 Tryz.t133.desc) := TI.ok Tryz.underlying133 Tryz.typeInfo133
theorem tyOk134 : TyOk Tryz.prog 134 (TI.of Tryz.t134 Tryz.t134.desc) := TI.ok Tryz.underlying134 Tryz.typeInfo134
theorem tyOk135 : TyOk Tryz.prog 135 (TI.of Tryz.t135 Tryz.t135.desc) := TI.ok Tryz.underlying135 Tryz.typeInfo135
theorem tyOk136 : TyOk Tryz.prog 136 (TI.of Tryz.t136 Tryz.t136.desc) := TI.ok Tryz.underlying136 Tryz.typeInfo136
theorem tyOk137 : TyOk Tryz.prog 137 (TI.of Tryz.t137 Tryz.t137.desc) := TI.ok Tryz.underlying137 Tryz.typeInfo137
theorem tyOk138 : TyOk Tryz.prog 138 (TI.of Tryz.t138 Tryz.t137.desc) := TI.ok Tryz.underlying138 Tryz.typeInfo138
theorem tyOk139 : TyOk Tryz.prog 139 (TI.of Tryz.t139 Tryz.t139.desc) := TI.ok Tryz.underlying139 Tryz.typeInfo139
theorem tyOk140 : TyOk Tryz.prog 140 (TI.of Tryz.t140 Tryz.t140.desc) := TI.ok Tryz.underlying140 Tryz.typeInfo140
theorem tyOk141 : TyOk Tryz.prog 141 (TI.of Tryz.t141 Tryz.t141.desc) := TI.ok Tryz.underlying141 Tryz.typeInfo141
theorem tyOk142 : TyOk Tryz.prog 142 (TI.of Tryz.t142 Tryz.t142.desc) := TI.ok Tryz.underlying142 Tryz.typeInfo142
theorem tyOk143 : TyOk Tryz.prog 143 (TI.of Tryz.t143 Tryz.t143.desc) := TI.ok Tryz.underlying143 Tryz.typeInfo143
theorem tyOk144 : TyOk Tryz.prog 144 (TI.of Tryz.t144 Tryz.t144.desc) := TI.ok Tryz.underlying144 Tryz.typeInfo144
theorem tyOk145 : TyOk Tryz.prog 145 (TI.of Tryz.t145 Tryz.t145.desc) := TI.ok Tryz.underlying145 Tryz.typeInfo145
theorem tyOk146 : TyOk Tryz.prog 146 (TI.of Tryz.t146 Tryz.t146.desc) := TI.ok Tryz.underlying146 Tryz.typeInfo146
theorem tyOk147 : TyOk Tryz.prog 147 (TI.of Tryz.t147 Tryz.t147.desc) := TI.ok Tryz.underlying147 Tryz.typeInfo147
theorem tyOk148 : TyOk Tryz.prog 148 (TI.of Tryz.t148 Tryz.t148.desc) := TI.ok Tryz.underlying148 Tryz.typeInfo148
theorem tyOk149 : TyOk Tryz.prog 149 (TI.of Tryz.t149 Tryz.t149.desc) := TI.ok Tryz.underlying149 Tryz.typeInfo149
theorem tyOk150 : TyOk Tryz.prog 150 (TI.of Tryz.t150 Tryz.t150.desc) := TI.ok Tryz.underlying150 Tryz.typeInfo150
theorem tyOk151 : TyOk Tryz.prog 151 (TI.of Tryz.t151 Tryz.t151.desc) := TI.ok Tryz.underlying151 Tryz.typeInfo151
theorem tyOk152 : TyOk Tryz.prog 152 (TI.of Tryz.t152 Tryz.t152.desc) := TI.ok Tryz.underlying152 Tryz.typeInfo152
theorem tyOk153 : TyOk Tryz.prog 153 (TI.of Tryz.t153 Tryz.t153.desc) := TI.ok Tryz.underlying153 Tryz.typeInfo153
theorem tyOk154 : TyOk Tryz.prog 154 (TI.of Tryz.t154 Tryz.t154.desc) := TI.ok Tryz.underlying154 Tryz.typeInfo154
theorem tyOk155 : TyOk Tryz.prog 155 (TI.of Tryz.t155 Tryz.t154.desc) := TI.ok Tryz.underlying155 Tryz.typeInfo155
theorem tyOk156 : TyOk Tryz.prog 156 (TI.of Tryz.t156 Tryz.t156.desc) := TI.ok Tryz.underlying156 Tryz.typeInfo156
theorem tyOk157 : TyOk Tryz.prog 157 (TI.of Tryz.t157 Tryz.t157.desc) := TI.ok Tryz.underlying157 Tryz.typeInfo157
theorem tyOk158 : TyOk Tryz.prog 158 (TI.of Tryz.t158 Tryz.t158.desc) := TI.ok Tryz.underlying158 Tryz.typeInfo158
theorem tyOk159 : TyOk Tryz.prog 159 (TI.of Tryz.t159 Tryz.t158.desc) := TI.ok Tryz.underlying159 Tryz.typeInfo159
theorem tyOk160 : TyOk Tryz.prog 160 (TI.of Tryz.t160 Tryz.t160.desc) := TI.ok Tryz.underlying160 Tryz.typeInfo160
theorem tyOk161 : TyOk Tryz.prog 161 (TI.of Tryz.t161 Tryz.t161.desc) := TI.ok Tryz.underlying161 Tryz.typeInfo161
theorem tyOk162 : TyOk Tryz.prog 162 (TI.of Tryz.t162 Tryz.t162.desc) := TI.ok Tryz.underlying162 Tryz.typeInfo162
theorem tyOk163 : TyOk Tryz.prog 163 (TI.of Tryz.t163 Tryz.t163.desc) := TI.ok Tryz.underlying163 Tryz.typeInfo163
theorem tyOk164 : TyOk Tryz.prog 164 (TI.of Tryz.t164 Tryz.t164.desc) := TI.ok Tryz.underlying164 Tryz.typeInfo164
theorem tyOk165 : TyOk Tryz.prog 165 (TI.of Tryz.t165 Tryz.t165.desc) := TI.ok Tryz.underlying165 Tryz.typeInfo165
theorem tyOk166 : TyOk Tryz.prog 166 (TI.of Tryz.t166 Tryz.t166.desc) := TI.ok Tryz.underlying166 Tryz.typeInfo166
theorem tyOk167 : TyOk Tryz.prog 167 (TI.of Tryz.t167 Tryz.t166.desc) := TI.ok Tryz.underlying167 Tryz.typeInfo167
theorem tyOk168 : TyOk Tryz.prog 168 (TI.of Tryz.t168 Tryz.t168.desc) := TI.ok Tryz.underlying168 Tryz.typeInfo168
theorem tyOk169 : TyOk Tryz.prog 169 (TI.of Tryz.t169 Tryz.t169.desc) := TI.ok Tryz.underlying169 Tryz.typeInfo169
theorem tyOk170 : TyOk Tryz.prog 170 (TI.of Tryz.t170 Tryz.t170.desc) := TI.ok Tryz.underlying170 Tryz.typeInfo170
theorem tyOk171 : TyOk Tryz.prog 171 (TI.of Tryz.t171 Tryz.t170.desc) := TI.ok Tryz.underlying171 Tryz.typeInfo171
theorem tyOk172 : TyOk Tryz.prog 172 (TI.of Tryz.t172 Tryz.t172.desc) := TI.ok Tryz.underlying172 Tryz.typeInfo172
theorem tyOk173 : TyOk Tryz.prog 173 (TI.of Tryz.t173 Tryz.t173.desc) := TI.ok Tryz.underlying173 Tryz.typeInfo173
theorem tyOk174 : TyOk Tryz.prog 174 (TI.of Tryz.t174 Tryz.t174.desc) := TI.ok Tryz.underlying174 Tryz.typeInfo174
theorem tyOk175 : TyOk Tryz.prog 175 (TI.of Tryz.t175 Tryz.t175.desc) := TI.ok Tryz.underlying175 Tryz.typeInfo175
theorem tyOk176 : TyOk Tryz.prog 176 (TI.of Tryz.t176 Tryz.t176.desc) := TI.ok Tryz.underlying176 Tryz.typeInfo176
theorem tyOk177 : TyOk Tryz.prog 177 (TI.of Tryz.t177 Tryz.t177.desc) := TI.ok Tryz.underlying177 Tryz.typeInfo177
theorem tyOk178 : TyOk Tryz.prog 178 (TI.of Tryz.t178 Tryz.t178.desc) := TI.ok Tryz.underlying178 Tryz.typeInfo178
theorem tyOk179 : TyOk Tryz.prog 179 (TI.of Tryz.t179 Tryz.t179.desc) := TI.ok Tryz.underlying179 Tryz.typeInfo179
theorem tyOk180 : TyOk Tryz.prog 180 (TI.of Tryz.t180 Tryz.t180.desc) := TI.ok Tryz.underlying180 Tryz.typeInfo180
theorem tyOk181 : TyOk Tryz.prog 181 (TI.of Tryz.t181 Tryz.t181.desc) := TI.ok Tryz.underlying181 Tryz.typeInfo181
theorem tyOk182 : TyOk Tryz.prog 182 (TI.of Tryz.t182 Tryz.t182.desc) := TI.ok Tryz.underlying182 Tryz.typeInfo182
theorem tyOk183 : TyOk Tryz.prog 183 (TI.of Tryz.t183 Tryz.t183.desc) := TI.ok Tryz.underlying183 Tryz.typeInfo183
theorem tyOk184 : TyOk Tryz.prog 184 (TI.of Tryz.t184 Tryz.t184.desc) := TI.ok Tryz.underlying184 Tryz.typeInfo184
theorem tyOk185 : TyOk Tryz.prog 185 (TI.of Tryz.t185 Tryz.t185.desc) := TI.ok Tryz.underlying185 Tryz.typeInfo185
theorem tyOk186 : TyOk Tryz.prog 186 (TI.of Tryz.t186 Tryz.t186.desc) := TI.ok Tryz.underlying186 Tryz.typeInfo186
theorem tyOk187 : TyOk Tryz.prog 187 (TI.of Tryz.t187 Tryz.t187.desc) := TI.ok Tryz.underlying187 Tryz.typeInfo187
theorem tyOk188 : TyOk Tryz.prog 188 (TI.of Tryz.t188 Tryz.t188.desc) := TI.ok Tryz.underlying188 Tryz.typeInfo188
theorem tyOk189 : TyOk Tryz.prog 189 (TI.of Tryz.t189 Tryz.t189.desc) := TI.ok Tryz.underlying189 Tryz.typeInfo189
theorem tyOk190 : TyOk Tryz.prog 190 (TI.of Tryz.t190 Tryz.t189.desc) := TI.ok Tryz.underlying190 Tryz.typeInfo190
theorem tyOk191 : TyOk Tryz.prog 191 (TI.of Tryz.t191 Tryz.t191.desc) := TI.ok Tryz.underlying191 Tryz.typeInfo191
theorem tyOk192 : TyOk Tryz.prog 192 (TI.of Tryz.t192 Tryz.t192.desc) := TI.ok Tryz.underlying192 Tryz.typeInfo192
theorem tyOk193 : TyOk Tryz.prog 193 (TI.of Tryz.t193 Tryz.t193.desc) := TI.ok Tryz.underlying193 Tryz.typeInfo193
theorem tyOk194 : TyOk Tryz.prog 194 (TI.of Tryz.t194 Tryz.t194.desc) := TI.ok Tryz.underlying194 Tryz.typeInfo194
theorem tyOk195 : TyOk Tryz.prog 195 (TI.of Tryz.t195 Tryz.t194.desc) := TI.ok Tryz.underlying195 Tryz.typeInfo195
theorem tyOk196 : TyOk Tryz.prog 196 (TI.of Tryz.t196 Tryz.t196.desc) := TI.ok Tryz.underlying196 Tryz.typeInfo196
theorem tyOk197 : TyOk Tryz.prog 197 (TI.of Tryz.t197 Tryz.t197.desc) := TI.ok Tryz.underlying197 Tryz.typeInfo197
theorem tyOk198 : TyOk Tryz.prog 198 (TI.of Tryz.t198 Tryz.t198.desc) := TI.ok Tryz.underlying198 Tryz.typeInfo198
theorem tyOk199 : TyOk Tryz.prog 199 (TI.of Tryz.t199 Tryz.t3.desc) := TI.ok Tryz.underlying199 Tryz.typeInfo199
theorem tyOk200 : TyOk Tryz.prog 200 (TI.of Tryz.t200 Tryz.t200.desc) := TI.ok Tryz.underlying200 Tryz.typeInfo200
theorem tyOk201 : TyOk Tryz.prog 201 (TI.of Tryz.t201 Tryz.t201.desc) := TI.ok Tryz.underlying201 Tryz.typeInfo201
theorem tyOk202 : TyOk Tryz.prog 202 (TI.of Tryz.t202 Tryz.t202.desc) := TI.ok Tryz.underlying202 Tryz.typeInfo202
theorem tyOk203 : TyOk Tryz.prog 203 (TI.of Tryz.t203 Tryz.t203.desc) := TI.ok Tryz.underlying203 Tryz.typeInfo203
theorem tyOk204 : TyOk Tryz.prog 204 (TI.of Tryz.t204 Tryz.t204.desc) := TI.ok Tryz.underlying204 Tryz.typeInfo204
theorem tyOk205 : TyOk Tryz.prog 205 (TI.of Tryz.t205 Tryz.t205.desc) := TI.ok Tryz.underlying205 Tryz.typeInfo205
theorem tyOk206 : TyOk Tryz.prog 206 (TI.of Tryz.t206 Tryz.t206.desc) := TI.ok Tryz.underlying206 Tryz.typeInfo206
theorem tyOk207 : TyOk Tryz.prog 207 (TI.of Tryz.t207 Tryz.t207.desc) := TI.ok Tryz.underlying207 Tryz.typeInfo207
theorem tyOk208 : TyOk Tryz.prog 208 (TI.of Tryz.t208 Tryz.t208.desc) := TI.ok Tryz.underlying208 Tryz.typeInfo208
theorem tyOk209 : TyOk Tryz.prog 209 (TI.of Tryz.t209 Tryz.t209.desc) := TI.ok Tryz.underlying209 Tryz.typeInfo209
theorem tyOk210 : TyOk Tryz.prog 210 (TI.of Tryz.t210 Tryz.t210.desc) := TI.ok Tryz.underlying210 Tryz.typeInfo210
theorem tyOk211 : TyOk Tryz.prog 211 (TI.of Tryz.t211 Tryz.t211.desc) := TI.ok Tryz.underlying211 Tryz.typeInfo211
theorem tyOk212 : TyOk Tryz.prog 212 (TI.of Tryz.t212 Tryz.t212.desc) := TI.ok Tryz.underlying212 Tryz.typeInfo212
theorem tyOk213 : TyOk Tryz.prog 213 (TI.of Tryz.t213 Tryz.t213.desc) := TI.ok Tryz.underlying213 Tryz.typeInfo213
theorem tyOk214 : TyOk Tryz.prog 214 (TI.of Tryz.t214 Tryz.t214.desc) := TI.ok Tryz.underlying214 Tryz.typeInfo214
theorem tyOk215 : TyOk Tryz.prog 215 (TI.of Tryz.t215 Tryz.t215.desc) := TI.ok Tryz.underlying215 Tryz.typeInfo215
theorem tyOk216 : TyOk Tryz.prog 216 (TI.of Tryz.t216 Tryz.t216.desc) := TI.ok Tryz.underlying216 Tryz.typeInfo216
theorem tyOk217 : TyOk Tryz.prog 217 (TI.of Tryz.t217 Tryz.t216.desc) := TI.ok Tryz.underlying217 Tryz.typeInfo217
theorem tyOk218 : TyOk Tryz.prog 218 (TI.of Tryz.t218 Tryz.t218.desc) := TI.ok Tryz.underlying218 Tryz.typeInfo218
theorem tyOk219 : TyOk Tryz.prog 219 (TI.of Tryz.t219 Tryz.t219.desc) := TI.ok Tryz.underlying219 Tryz.typeInfo219
theorem tyOk220 : TyOk Tryz.prog 220 (TI.of Tryz.t220 Tryz.t220.desc) := TI.ok Tryz.underlying220 Tryz.typeInfo220
theorem tyOk221 : TyOk Tryz.prog 221 (TI.of Tryz.t221 Tryz.t221.desc) := TI.ok Tryz.underlying221 Tryz.typeInfo221
theorem tyOk222 : TyOk Tryz.prog 222 (TI.of Tryz.t222 Tryz.t222.desc) := TI.ok Tryz.underlying222 Tryz.typeInfo222
theorem tyOk223 : TyOk Tryz.prog 223 (TI.of Tryz.t223 Tryz.t223.desc) := TI.ok Tryz.underlying223 Tryz.typeInfo223
theorem tyOk224 : TyOk Tryz.prog 224 (TI.of Tryz.t224 Tryz.t224.desc) := TI.ok Tryz.underlying224 Tryz.typeInfo224
theorem tyOk225 : TyOk Tryz.prog 225 (TI.of Tryz.t225 Tryz.t225.desc) := TI.ok Tryz.underlying225 Tryz.typeInfo225
theorem tyOk226 : TyOk Tryz.prog 226 (TI.of Tryz.t226 Tryz.t226.desc) := TI.ok Tryz.underlying226 Tryz.typeInfo226
theorem tyOk227 : TyOk Tryz.prog 227 (TI.of Tryz.t227 Tryz.t227.desc) := TI.ok Tryz.underlying227 Tryz.typeInfo227
theorem tyOk228 : TyOk Tryz.prog 228 (TI.of Tryz.t228 Tryz.t227.desc) := TI.ok Tryz.underlying228 Tryz.typeInfo228
theorem tyOk229 : TyOk Tryz.prog 229 (TI.of Tryz.t229 Tryz.t229.desc) := TI.ok Tryz.underlying229 Tryz.typeInfo229
theorem tyOk230 : TyOk Tryz.prog 230 (TI.of Tryz.t230 Tryz.t230.desc) := TI.ok Tryz.underlying230 Tryz.typeInfo230
theorem tyOk231 : TyOk Tryz.prog 231 (TI.of Tryz.t231 Tryz.t231.desc) := TI.ok Tryz.underlying231 Tryz.typeInfo231
theorem tyOk232 : TyOk Tryz.prog 232 (TI.of Tryz.t232 Tryz.t232.desc) := TI.ok Tryz.underlying232 Tryz.typeInfo232
theorem tyOk233 : TyOk Tryz.prog 233 (TI.of Tryz.t233 Tryz.t233.desc) := TI.ok Tryz.underlying233 Tryz.typeInfo233
theorem tyOk234 : TyOk Tryz.prog 234 (TI.of Tryz.t234 Tryz.t234.desc) := TI.ok Tryz.underlying234 Tryz.typeInfo234
theorem tyOk235 : TyOk Tryz.prog 235 (TI.of Tryz.t235 Tryz.t235.desc) := TI.ok Tryz.underlying235 Tryz.typeInfo235
theorem tyOk236 : TyOk Tryz.prog 236 (TI.of Tryz.t236 Tryz.t236.desc) := TI.ok Tryz.underlying236 Tryz.typeInfo236
theorem tyOk237 : TyOk Tryz.prog 237 (TI.of Tryz.t237 Tryz.t237.desc) := TI.ok Tryz.underlying237 Tryz.typeInfo237
theorem tyOk238 : TyOk Tryz.prog 238 (TI.of Tryz.t238 Tryz.t238.desc) := TI.ok Tryz.underlying238 Tryz.typeInfo238
theorem tyOk239 : TyOk Tryz.prog 239 (TI.of Tryz.t239 Tryz.t239.desc) := TI.ok Tryz.underlying239 Tryz.typeInfo239
theorem tyOk240 : TyOk Tryz.prog 240 (TI.of Tryz.t240 Tryz.t22.desc) := TI.ok Tryz.underlying240 Tryz.typeInfo240
theorem tyOk241 : TyOk Tryz.prog 241 (TI.of Tryz.t241 Tryz.t241.desc) := TI.ok Tryz.underlying241 Tryz.typeInfo241
theorem tyOk242 : TyOk Tryz.prog 242 (TI.of Tryz.t242 Tryz.t242.desc) := TI.ok Tryz.underlying242 Tryz.typeInfo242
theorem tyOk243 : TyOk Tryz.prog 243 (TI.of Tryz.t243 Tryz.t243.desc) := TI.ok Tryz.underlying243 Tryz.typeInfo243
theorem tyOk244 : TyOk Tryz.prog 244 (TI.of Tryz.t244 Tryz.t244.desc) := TI.ok Tryz.underlying244 Tryz.typeInfo244
theorem tyOk245 : TyOk Tryz.prog 245 (TI.of Tryz.t245 Tryz.t245.desc) := TI.ok Tryz.underlying245 Tryz.typeInfo245
theorem tyOk246 : TyOk Tryz.prog 246 (TI.of Tryz.t246 Tryz.t246.desc) := TI.ok Tryz.underlying246 Tryz.typeInfo246
theorem tyOk247 : TyOk Tryz.prog 247 (TI.of Tryz.t247 Tryz.t247.desc) := TI.ok Tryz.underlying247 Tryz.typeInfo247
theorem tyOk248 : TyOk Tryz.prog 248 (TI.of Tryz.t248 Tryz.t248.desc) := TI.ok Tryz.underlying248 Tryz.typeInfo248
theorem tyOk249 : TyOk Tryz.prog 249 (TI.of Tryz.t249 Tryz.t249.desc) := TI.ok Tryz.underlying249 Tryz.typeInfo249
theorem tyOk250 : TyOk Tryz.prog 250 (TI.of Tryz.t250 Tryz.t250.desc) := TI.ok Tryz.underlying250 Tryz.typeInfo250
theorem tyOk251 : TyOk Tryz.prog 251 (TI.of Tryz.t251 Tryz.t251.desc) := TI.ok Tryz.underlying251 Tryz.typeInfo251
theorem tyOk252 : TyOk Tryz.prog 252 (TI.of Tryz.t252 Tryz.t252.desc) := TI.ok Tryz.underlying252 Tryz.typeInfo252
theorem tyOk253 : TyOk Tryz.prog 253 (TI.of Tryz.t253 Tryz.t253.desc) := TI.ok Tryz.underlying253 Tryz.typeInfo253
theorem tyOk254 : TyOk Tryz.prog 254 (TI.of Tryz.t254 Tryz.t254.desc) := TI.ok Tryz.underlying254 Tryz.typeInfo254
theorem tyOk255 : TyOk Tryz.prog 255 (TI.of Tryz.t255 Tryz.t255.desc) := TI.ok Tryz.underlying255 Tryz.typeInfo255
theorem tyOk256 : TyOk Tryz.prog 256 (TI.of Tryz.t256 Tryz.t256.desc) := TI.ok Tryz.underlying256 Tryz.typeInfo256
theorem tyOk257 : TyOk Tryz.prog 257 (TI.of Tryz.t257 Tryz.t257.desc) := TI.ok Tryz.underlying257 Tryz.typeInfo257
theorem tyOk258 : TyOk Tryz.prog 258 (TI.of Tryz.t258 Tryz.t258.desc) := TI.ok Tryz.underlying258 Tryz.typeInfo258
theorem tyOk259 : TyOk Tryz.prog 259 (TI.of Tryz.t259 Tryz.t259.desc) := TI.ok Tryz.underlying259 Tryz.typeInfo259
theorem tyOk260 : TyOk Tryz.prog 260 (TI.of Tryz.t260 Tryz.t260.desc) := TI.ok Tryz.underlying260 Tryz.typeInfo260
theorem tyOk261 : TyOk Tryz.prog 261 (TI.of Tryz.t261 Tryz.t261.desc) := TI.ok Tryz.underlying261 Tryz.typeInfo261
theorem tyOk262 : TyOk Tryz.prog 262 (TI.of Tryz.t262 Tryz.t262.desc) := TI.ok Tryz.underlying262 Tryz.typeInfo262
theorem tyOk263 : TyOk Tryz.prog 263 (TI.of Tryz.t263 Tryz.t263.desc) := TI.ok Tryz.underlying263 Tryz.typeInfo263
theorem tyOk264 : TyOk Tryz.prog 264 (TI.of Tryz.t264 Tryz.t264.desc) := TI.ok Tryz.underlying264 Tryz.typeInfo264
theorem tyOk265 : TyOk Tryz.prog 265 (TI.of Tryz.t265 Tryz.t265.desc) := TI.ok Tryz.underlying265 Tryz.typeInfo265
theorem tyOk266 : TyOk Tryz.prog 266 (TI.of Tryz.t266 Tryz.t266.desc) := TI.ok Tryz.underlying266 Tryz.typeInfo266
theorem tyOk267 : TyOk Tryz.prog 267 (TI.of Tryz.t267 Tryz.t267.desc) := TI.ok Tryz.underlying267 Tryz.typeInfo267
theorem tyOk268 : TyOk Tryz.prog 268 (TI.of Tryz.t268 Tryz.t268.desc) := TI.ok Tryz.underlying268 Tryz.typeInfo268
theorem tyOk269 : TyOk Tryz.prog 269 (TI.of Tryz.t269 Tryz.t269.desc) := TI.ok Tryz.underlying269 Tryz.typeInfo269
theorem tyOk270 : TyOk Tryz.prog 270 (TI.of Tryz.t270 Tryz.t269.desc) := TI.ok Tryz.underlying270 Tryz.typeInfo270
theorem tyOk271 : TyOk Tryz.prog 271 (TI.of Tryz.t271 Tryz.t271.desc) := TI.ok Tryz.underlying271 Tryz.typeInfo271
theorem tyOk272 : TyOk Tryz.prog 272 (TI.of Tryz.t272 Tryz.t22.desc) := TI.ok Tryz.underlying272 Tryz.typeInfo272
theorem tyOk273 : TyOk Tryz.prog 273 (TI.of Tryz.t273 Tryz.t273.desc) := TI.ok Tryz.underlying273 Tryz.typeInfo273
theorem tyOk274 : TyOk Tryz.prog 274 (TI.of Tryz.t274 Tryz.t274.desc) := TI.ok Tryz.underlying274 Tryz.typeInfo274
theorem tyOk275 : TyOk Tryz.prog 275 (TI.of Tryz.t275 Tryz.t275.desc) := TI.ok Tryz.underlying275 Tryz.typeInfo275
theorem tyOk276 : TyOk Tryz.prog 276 (TI.of Tryz.t276 Tryz.t276.desc) := TI.ok Tryz.underlying276 Tryz.typeInfo276
theorem tyOk277 : TyOk Tryz.prog 277 (TI.of Tryz.t277 Tryz.t277.desc) := TI.ok Tryz.underlying277 Tryz.typeInfo277
theorem tyOk278 : TyOk Tryz.prog 278 (TI.of Tryz.t278 Tryz.t278.desc) := TI.ok Tryz.underlying278 Tryz.typeInfo278
theorem tyOk279 : TyOk Tryz.prog 279 (TI.of Tryz.t279 Tryz.t279.desc) := TI.ok Tryz.underlying279 Tryz.typeInfo279
theorem tyOk280 : TyOk Tryz.prog 280 (TI.of Tryz.t280 Tryz.t280.desc) := TI.ok Tryz.underlying280 Tryz.typeInfo280
theorem tyOk281 : TyOk Tryz.prog 281 (TI.of Tryz.t281 Tryz.t281.desc) := TI.ok Tryz.underlying281 Tryz.typeInfo281
theorem tyOk282 : TyOk Tryz.prog 282 (TI.of Tryz.t282 Tryz.t282.desc) := TI.ok Tryz.underlying282 Tryz.typeInfo282
theorem tyOk283 : TyOk Tryz.prog 283 (TI.of Tryz.t283 Tryz.t283.desc) := TI.ok Tryz.underlying283 Tryz.typeInfo283
theorem tyOk284 : TyOk Tryz.prog 284 (TI.of Tryz.t284 Tryz.t284.desc) := TI.ok Tryz.underlying284 Tryz.typeInfo284
theorem tyOk285 : TyOk Tryz.prog 285 (TI.of Tryz.t285 Tryz.t285.desc) := TI.ok Tryz.underlying285 Tryz.typeInfo285
theorem tyOk286 : TyOk Tryz.prog 286 (TI.of Tryz.t286 Tryz.t286.desc) := TI.ok Tryz.underlying286 Tryz.typeInfo286
theorem tyOk287 : TyOk Tryz.prog 287 (TI.of Tryz.t287 Tryz.t287.desc) := TI.ok Tryz.underlying287 Tryz.typeInfo287
theorem tyOk288 : TyOk Tryz.prog 288 (TI.of Tryz.t288 Tryz.t288.desc) := TI.ok Tryz.underlying288 Tryz.typeInfo288
theorem tyOk289 : TyOk Tryz.prog 289 (TI.of Tryz.t289 Tryz.t289.desc) := TI.ok Tryz.underlying289 Tryz.typeInfo289
theorem tyOk290 : TyOk Tryz.prog 290 (TI.of Tryz.t290 Tryz.t290.desc) := TI.ok Tryz.underlying290 Tryz.typeInfo290
theorem tyOk291 : TyOk Tryz.prog 291 (TI.of Tryz.t291 Tryz.t291.desc) := TI.ok Tryz.underlying291 Tryz.typeInfo291
theorem tyOk292 : TyOk Tryz.prog 292 (TI.of Tryz.t292 Tryz.t292.desc) := TI.ok Tryz.underlying292 Tryz.typeInfo292
theorem tyOk293 : TyOk Tryz.prog 293 (TI.of Tryz.t293 Tryz.t293.desc) := TI.ok Tryz.underlying293 Tryz.typeInfo293
theorem tyOk294 : TyOk Tryz.prog 294 (TI.of Tryz.t294 Tryz.t294.desc) := TI.ok Tryz.underlying294 Tryz.typeInfo294
theorem tyOk295 : TyOk Tryz.prog 295 (TI.of Tryz.t295 Tryz.t295.desc) := TI.ok Tryz.underlying295 Tryz.typeInfo295
theorem tyOk296 : TyOk Tryz.prog 296 (TI.of Tryz.t296 Tryz.t296.desc) := TI.ok Tryz.underlying296 Tryz.typeInfo296
theorem tyOk297 : TyOk Tryz.prog 297 (TI.of Tryz.t297 Tryz.t297.desc) := TI.ok Tryz.underlying297 Tryz.typeInfo297
theorem tyOk298 : TyOk Tryz.prog 298 (TI.of Tryz.t298 Tryz.t298.desc) := TI.ok Tryz.underlying298 Tryz.typeInfo298
theorem tyOk299 : TyOk Tryz.prog 299 (TI.of Tryz.t299 Tryz.t299.desc) := TI.ok Tryz.underlying299 Tryz.typeInfo299
theorem tyOk300 : TyOk Tryz.prog 300 (TI.of Tryz.t300 Tryz.t300.desc) := TI.ok Tryz.underlying300 Tryz.typeInfo300
theorem tyOk301 : TyOk Tryz.prog 301 (TI.of Tryz.t301 Tryz.t301.desc) := TI.ok Tryz.underlying301 Tryz.typeInfo301
theorem tyOk302 : TyOk Tryz.prog 302 (TI.of Tryz.t302 Tryz.t302.desc) := TI.ok Tryz.underlying302 Tryz.typeInfo302
theorem tyOk303 : TyOk Tryz.prog 303 (TI.of Tryz.t303 Tryz.t303.desc) := TI.ok Tryz.underlying303 Tryz.typeInfo303
theorem tyOk304 : TyOk Tryz.prog 304 (TI.of Tryz.t304 Tryz.t304.desc) := TI.ok Tryz.underlying304 Tryz.typeInfo304
theorem tyOk305 : TyOk Tryz.prog 305 (TI.of Tryz.t305 Tryz.t305.desc) := TI.ok Tryz.underlying305 Tryz.typeInfo305
theorem tyOk306 : TyOk Tryz.prog 306 (TI.of Tryz.t306 Tryz.t306.desc) := TI.ok Tryz.underlying306 Tryz.typeInfo306
theorem tyOk307 : TyOk Tryz.prog 307 (TI.of Tryz.t307 Tryz.t307.desc) := TI.ok Tryz.underlying307 Tryz.typeInfo307
theorem tyOk308 : TyOk Tryz.prog 308 (TI.of Tryz.t308 Tryz.t308.desc) := TI.ok Tryz.underlying308 Tryz.typeInfo308
theorem tyOk309 : TyOk Tryz.prog 309 (TI.of Tryz.t309 Tryz.t309.desc) := TI.ok Tryz.underlying309 Tryz.typeInfo309
theorem tyOk310 : TyOk Tryz.prog 310 (TI.of Tryz.t310 Tryz.t309.desc) := TI.ok Tryz.underlying310 Tryz.typeInfo310
theorem tyOk311 : TyOk Tryz.prog 311 (TI.of Tryz.t311 Tryz.t311.desc) := TI.ok Tryz.underlying311 Tryz.typeInfo311
theorem tyOk312 : TyOk Tryz.prog 312 (TI.of Tryz.t312 Tryz.t312.desc) := TI.ok Tryz.underlying312 Tryz.typeInfo312
theorem tyOk313 : TyOk Tryz.prog 313 (TI.of Tryz.t313 Tryz.t313.desc) := TI.ok Tryz.underlying313 Tryz.typeInfo313
theorem tyOk314 : TyOk Tryz.prog 314 (TI.of Tryz.t314 Tryz.t314.desc) := TI.ok Tryz.underlying314 Tryz.typeInfo314
theorem tyOk315 : TyOk Tryz.prog 315 (TI.of Tryz.t315 Tryz.t315.desc) := TI.ok Tryz.underlying315 Tryz.typeInfo315
theorem tyOk316 : TyOk Tryz.prog 316 (TI.of Tryz.t316 Tryz.t316.desc) := TI.ok Tryz.underlying316 Tryz.typeInfo316
theorem tyOk317 : TyOk Tryz.prog 317 (TI.of Tryz.t317 Tryz.t317.desc) := TI.ok Tryz.underlying317 Tryz.typeInfo317
theorem tyOk318 : TyOk Tryz.prog 318 (TI.of Tryz.t318 Tryz.t317.desc) := TI.ok Tryz.underlying318 Tryz.typeInfo318
theorem tyOk319 : TyOk Tryz.prog 319 (TI.of Tryz.t319 Tryz.t319.desc) := TI.ok Tryz.underlying319 Tryz.typeInfo319
theorem tyOk320 : TyOk Tryz.prog 320 (TI.of Tryz.t320 Tryz.t320.desc) := TI.ok Tryz.underlying320 Tryz.typeInfo320
theorem tyOk321 : TyOk Tryz.prog 321 (TI.of Tryz.t321 Tryz.t321.desc) := TI.ok Tryz.underlying321 Tryz.typeInfo321
theorem tyOk322 : TyOk Tryz.prog 322 (TI.of Tryz.t322 Tryz.t322.desc) := TI.ok Tryz.underlying322 Tryz.typeInfo322
theorem tyOk323 : TyOk Tryz.prog 323 (TI.of Tryz.t323 Tryz.t323.desc) := TI.ok Tryz.underlying323 Tryz.typeInfo323
theorem tyOk324 : TyOk Tryz.prog 324 (TI.of Tryz.t324 Tryz.t323.desc) := TI.ok Tryz.underlying324 Tryz.typeInfo324
theorem tyOk325 : TyOk Tryz.prog 325 (TI.of Tryz.t325 Tryz.t325.desc) := TI.ok Tryz.underlying325 Tryz.typeInfo325
theorem tyOk326 : TyOk Tryz.prog 326 (TI.of Tryz.t326 Tryz.t326.desc) := TI.ok Tryz.underlying326 Tryz.typeInfo326
theorem tyOk327 : TyOk Tryz.prog 327 (TI.of Tryz.t327 Tryz.t327.desc) := TI.ok Tryz.underlying327 Tryz.typeInfo327
theorem tyOk328 : TyOk Tryz.prog 328 (TI.of Tryz.t328 Tryz.t328.desc) := TI.ok Tryz.underlying328 Tryz.typeInfo328
theorem tyOk329 : TyOk Tryz.prog 329 (TI.of Tryz.t329 Tryz.t329.desc) := TI.ok Tryz.underlying329 Tryz.typeInfo329
theorem tyOk330 : TyOk Tryz.prog 330 (TI.of Tryz.t330 Tryz.t330.desc) := TI.ok Tryz.underlying330 Tryz.typeInfo330
theorem tyOk331 : TyOk Tryz.prog 331 (TI.of Tryz.t331 Tryz.t331.desc) := TI.ok Tryz.underlying331 Tryz.typeInfo331
theorem tyOk332 : TyOk Tryz.prog 332 (TI.of Tryz.t332 Tryz.t332.desc) := TI.ok Tryz.underlying332 Tryz.typeInfo332
theorem tyOk333 : TyOk Tryz.prog 333 (TI.of Tryz.t333 Tryz.t333.desc) := TI.ok Tryz.underlying333 Tryz.typeInfo333
theorem tyOk334 : TyOk Tryz.prog 334 (TI.of Tryz.t334 Tryz.t334.desc) := TI.ok Tryz.underlying334 Tryz.typeInfo334
theorem tyOk335 : TyOk Tryz.prog 335 (TI.of Tryz.t335 Tryz.t335.desc) := TI.ok Tryz.underlying335 Tryz.typeInfo335
theorem tyOk336 : TyOk Tryz.prog 336 (TI.of Tryz.t336 Tryz.t336.desc) := TI.ok Tryz.underlying336 Tryz.typeInfo336
theorem tyOk337 : TyOk Tryz.prog 337 (TI.of Tryz.t337 Tryz.t337.desc) := TI.ok Tryz.underlying337 Tryz.typeInfo337
theorem tyOk338 : TyOk Tryz.prog 338 (TI.of Tryz.t338 Tryz.t338.desc) := TI.ok Tryz.underlying338 Tryz.typeInfo338
theorem tyOk339 : TyOk Tryz.prog 339 (TI.of Tryz.t339 Tryz.t339.desc) := TI.ok Tryz.underlying339 Tryz.typeInfo339
theorem tyOk340 : TyOk Tryz.prog 340 (TI.of Tryz.t340 Tryz.t340.desc) := TI.ok Tryz.underlying340 Tryz.typeInfo340
theorem tyOk341 : TyOk Tryz.prog 341 (TI.of Tryz.t341 Tryz.t341.desc) := TI.ok Tryz.underlying341 Tryz.typeInfo341
theorem tyOk342 : TyOk Tryz.prog 342 (TI.of Tryz.t342 Tryz.t342.desc) := TI.ok Tryz.underlying342 Tryz.typeInfo342
theorem tyOk343 : TyOk Tryz.prog 343 (TI.of Tryz.t343 Tryz.t343.desc) := TI.ok Tryz.underlying343 Tryz.typeInfo343
theorem tyOk344 : TyOk Tryz.prog 344 (TI.of Tryz.t344 Tryz.t344.desc) := TI.ok Tryz.underlying344 Tryz.typeInfo344
theorem tyOk345 : TyOk Tryz.prog 345 (TI.of Tryz.t345 Tryz.t345.desc) := TI.ok Tryz.underlying345 Tryz.typeInfo345
theorem tyOk346 : TyOk Tryz.prog 346 (TI.of Tryz.t346 Tryz.t346.desc) := TI.ok Tryz.underlying346 Tryz.typeInfo346
theorem tyOk347 : TyOk Tryz.prog 347 (TI.of Tryz.t347 Tryz.t347.desc) := TI.ok Tryz.underlying347 Tryz.typeInfo347
theorem tyOk348 : TyOk Tryz.prog 348 (TI.of Tryz.t348 Tryz.t348.desc) := TI.ok Tryz.underlying348 Tryz.typeInfo348
theorem tyOk349 : TyOk Tryz.prog 349 (TI.of Tryz.t349 Tryz.t349.desc) := TI.ok Tryz.underlying349 Tryz.typeInfo349
theorem tyOk350 : TyOk Tryz.prog 350 (TI.of Tryz.t350 Tryz.t349.desc) := TI.ok Tryz.underlying350 Tryz.typeInfo350
theorem tyOk351 : TyOk Tryz.prog 351 (TI.of Tryz.t351 Tryz.t351.desc) := TI.ok Tryz.underlying351 Tryz.typeInfo351
theorem tyOk352 : TyOk Tryz.prog 352 (TI.of Tryz.t352 Tryz.t352.desc) := TI.ok Tryz.underlying352 Tryz.typeInfo352
theorem tyOk353 : TyOk Tryz.prog 353 (TI.of Tryz.t353 Tryz.t353.desc) := TI.ok Tryz.underlying353 Tryz.typeInfo353
theorem tyOk354 : TyOk Tryz.prog 354 (TI.of Tryz.t354 Tryz.t354.desc) := TI.ok Tryz.underlying354 Tryz.typeInfo354
theorem tyOk355 : TyOk Tryz.prog 355 (TI.of Tryz.t355 Tryz.t354.desc) := TI.ok Tryz.underlying355 Tryz.typeInfo355
theorem tyOk356 : TyOk Tryz.prog 356 (TI.of Tryz.t356 Tryz.t356.desc) := TI.ok Tryz.underlying356 Tryz.typeInfo356
theorem tyOk357 : TyOk Tryz.prog 357 (TI.of Tryz.t357 Tryz.t357.desc) := TI.ok Tryz.underlying357 Tryz.typeInfo357
theorem tyOk358 : TyOk Tryz.prog 358 (TI.of Tryz.t358 Tryz.t357.desc) := TI.ok Tryz.underlying358 Tryz.typeInfo358
theorem tyOk359 : TyOk Tryz.prog 359 (TI.of Tryz.t359 Tryz.t359.desc) := TI.ok Tryz.underlying359 Tryz.typeInfo359
theorem tyOk360 : TyOk Tryz.prog 360 (TI.of Tryz.t360 Tryz.t360.desc) := TI.ok Tryz.underlying360 Tryz.typeInfo360
theorem tyOk361 : TyOk Tryz.prog 361 (TI.of Tryz.t361 Tryz.t360.desc) := TI.ok Tryz.underlying361 Tryz.typeInfo361
theorem tyOk362 : TyOk Tryz.prog 362 (TI.of Tryz.t362 Tryz.t362.desc) := TI.ok Tryz.underlying362 Tryz.typeInfo362
theorem tyOk363 : TyOk Tryz.prog 363 (TI.of Tryz.t363 Tryz.t363.desc) := TI.ok Tryz.underlying363 Tryz.typeInfo363
theorem tyOk364 : TyOk Tryz.prog 364 (TI.of Tryz.t364 Tryz.t364.desc) := TI.ok Tryz.underlying364 Tryz.typeInfo364
theorem tyOk365 : TyOk Tryz.prog 365 (TI.of Tryz.t365 Tryz.t365.desc) := TI.ok Tryz.underlying365 Tryz.typeInfo365
theorem tyOk366 : TyOk Tryz.prog 366 (TI.of Tryz.t366 Tryz.t366.desc) := TI.ok Tryz.underlying366 Tryz.typeInfo366
theorem tyOk367 : TyOk Tryz.prog 367 (TI.of Tryz.t367 Tryz.t367.desc) := TI.ok Tryz.underlying367 Tryz.typeInfo367
theorem tyOk368 : TyOk Tryz.prog 368 (TI.of Tryz.t368 Tryz.t368.desc) := TI.ok Tryz.underlying368 Tryz.typeInfo368
theorem tyOk369 : TyOk Tryz.prog 369 (TI.of Tryz.t369 Tryz.t368.desc) := TI.ok Tryz.underlying369 Tryz.typeInfo369
theorem tyOk370 : TyOk Tryz.prog 370 (TI.of Tryz.t370 Tryz.t370.desc) := TI.ok Tryz.underlying370 Tryz.typeInfo370
theorem tyOk371 : TyOk Tryz.prog 371 (TI.of Tryz.t371 Tryz.t371.desc) := TI.ok Tryz.underlying371 Tryz.typeInfo371
theorem tyOk372 : TyOk Tryz.prog 372 (TI.of Tryz.t372 Tryz.t371.desc) := TI.ok Tryz.underlying372 Tryz.typeInfo372
theorem tyOk373 : TyOk Tryz.prog 373 (TI.of Tryz.t373 Tryz.t373.desc) := TI.ok Tryz.underlying373 Tryz.typeInfo373
theorem tyOk374 : TyOk Tryz.prog 374 (TI.of Tryz.t374 Tryz.t374.desc) := TI.ok Tryz.underlying374 Tryz.typeInfo374
theorem tyOk375 : TyOk Tryz.prog 375 (TI.of Tryz.t375 Tryz.t374.desc) := TI.ok Tryz.underlying375 Tryz.typeInfo375
theorem tyOk376 : TyOk Tryz.prog 376 (TI.of Tryz.t376 Tryz.t376.desc) := TI.ok Tryz.underlying376 Tryz.typeInfo376
theorem tyOk377 : TyOk Tryz.prog 377 (TI.of Tryz.t377 Tryz.t377.desc) := TI.ok Tryz.underlying377 Tryz.typeInfo377
theorem tyOk378 : TyOk Tryz.prog 378 (TI.of Tryz.t378 Tryz.t378.desc) := TI.ok Tryz.underlying378 Tryz.typeInfo378
theorem tyOk379 : TyOk Tryz.prog 379 (TI.of Tryz.t379 Tryz.t379.desc) := TI.ok Tryz.underlying379 Tryz.typeInfo379
theorem tyOk380 : TyOk Tryz.prog 380 (TI.of Tryz.t380 Tryz.t380.desc) := TI.ok Tryz.underlying380 Tryz.typeInfo380
theorem tyOk381 : TyOk Tryz.prog 381 (TI.of Tryz.t381 Tryz.t381.desc) := TI.ok Tryz.underlying381 Tryz.typeInfo381
theorem tyOk382 : TyOk Tryz.prog 382 (TI.of Tryz.t382 Tryz.t382.desc) := TI.ok Tryz.underlying382 Tryz.typeInfo382
theorem tyOk383 : TyOk Tryz.prog 383 (TI.of Tryz.t383 Tryz.t383.desc) := TI.ok Tryz.underlying383 Tryz.typeInfo383
theorem tyOk384 : TyOk Tryz.prog 384 (TI.of Tryz.t384 Tryz.t384.desc) := TI.ok Tryz.underlying384 Tryz.typeInfo384
theorem tyOk385 : TyOk Tryz.prog 385 (TI.of Tryz.t385 Tryz.t385.desc) := TI.ok Tryz.underlying385 Tryz.typeInfo385
theorem tyOk386 : TyOk Tryz.prog 386 (TI.of Tryz.t386 Tryz.t386.desc) := TI.ok Tryz.underlying386 Tryz.typeInfo386
theorem tyOk387 : TyOk Tryz.prog 387 (TI.of Tryz.t387 Tryz.t387.desc) := TI.ok Tryz.underlying387 Tryz.typeInfo387
theorem tyOk388 : TyOk Tryz.prog 388 (TI.of Tryz.t388 Tryz.t388.desc) := TI.ok Tryz.underlying388 Tryz.typeInfo388
theorem tyOk389 : TyOk Tryz.prog 389 (TI.of Tryz.t389 Tryz.t389.desc) := TI.ok Tryz.underlying389 Tryz.typeInfo389
theorem tyOk390 : TyOk Tryz.prog 390 (TI.of Tryz.t390 Tryz.t390.desc) := TI.ok Tryz.underlying390 Tryz.typeInfo390
theorem tyOk391 : TyOk Tryz.prog 391 (TI.of Tryz.t391 Tryz.t391.desc) := TI.ok Tryz.underlying391 Tryz.typeInfo391
theorem tyOk392 : TyOk Tryz.prog 392 (TI.of Tryz.t392 Tryz.t392.desc) := TI.ok Tryz.underlying392 Tryz.typeInfo392
theorem tyOk393 : TyOk Tryz.prog 393 (TI.of Tryz.t393 Tryz.t393.desc) := TI.ok Tryz.underlying393 Tryz.typeInfo393
theorem tyOk394 : TyOk Tryz.prog 394 (TI.of Tryz.t394 Tryz.t394.desc) := TI.ok Tryz.underlying394 Tryz.typeInfo394
theorem tyOk395 : TyOk Tryz.prog 395 (TI.of Tryz.t395 Tryz.t394.desc) := TI.ok Tryz.underlying395 Tryz.typeInfo395
theorem tyOk396 : TyOk Tryz.prog 396 (TI.of Tryz.t396 Tryz.t396.desc) := TI.ok Tryz.underlying396 Tryz.typeInfo396
theorem tyOk397 : TyOk Tryz.prog 397 (TI.of Tryz.t397 Tryz.t397.desc) := TI.ok Tryz.underlying397 Tryz.typeInfo397
theorem tyOk398 : TyOk Tryz.prog 398 (TI.of Tryz.t398 Tryz.t398.desc) := TI.ok Tryz.underlying398 Tryz.typeInfo398
theorem tyOk399 : TyOk Tryz.prog 399 (TI.of Tryz.t399 Tryz.t399.desc) := TI.ok Tryz.underlying399 Tryz.typeInfo399
theorem tyOk400 : TyOk Tryz.prog 400 (TI.of Tryz.t400 Tryz.t400.desc) := TI.ok Tryz.underlying400 Tryz.typeInfo400
theorem tyOk401 : TyOk Tryz.prog 401 (TI.of Tryz.t401 Tryz.t401.desc) := TI.ok Tryz.underlying401 Tryz.typeInfo401
theorem tyOk402 : TyOk Tryz.prog 402 (TI.of Tryz.t402 Tryz.t402.desc) := TI.ok Tryz.underlying402 Tryz.typeInfo402
theorem tyOk403 : TyOk Tryz.prog 403 (TI.of Tryz.t403 Tryz.t403.desc) := TI.ok Tryz.underlying403 Tryz.typeInfo403
theorem tyOk404 : TyOk Tryz.prog 404 (TI.of Tryz.t404 Tryz.t403.desc) := TI.ok Tryz.underlying404 Tryz.typeInfo404
theorem tyOk405 : TyOk Tryz.prog 405 (TI.of Tryz.t405 Tryz.t405.desc) := TI.ok Tryz.underlying405 Tryz.typeInfo405
theorem tyOk406 : TyOk Tryz.prog 406 (TI.of Tryz.t406 Tryz.t406.desc) := TI.ok Tryz.underlying406 Tryz.typeInfo406
theorem tyOk407 : TyOk Tryz.prog 407 (TI.of Tryz.t407 Tryz.t406.desc) := TI.ok Tryz.underlying407 Tryz.typeInfo407
theorem tyOk408 : TyOk Tryz.prog 408 (TI.of Tryz.t408 Tryz.t408.desc) := TI.ok Tryz.underlying408 Tryz.typeInfo408
theorem tyOk409 : TyOk Tryz.prog 409 (TI.of Tryz.t409 Tryz.t5.desc) := TI.ok Tryz.underlying409 Tryz.typeInfo409
theorem tyOk410 : TyOk Tryz.prog 410 (TI.of Tryz.t410 Tryz.t5.desc) := TI.ok Tryz.underlying410 Tryz.typeInfo410
theorem tyOk411 : TyOk Tryz.prog 411 (TI.of Tryz.t411 Tryz.t411.desc) := TI.ok Tryz.underlying411 Tryz.typeInfo411
theorem tyOk412 : TyOk Tryz.prog 412 (TI.of Tryz.t412 Tryz.t412.desc) := TI.ok Tryz.underlying412 Tryz.typeInfo412
theorem tyOk413 : TyOk Tryz.prog 413 (TI.of Tryz.t413 Tryz.t21.desc) := TI.ok Tryz.underlying413 Tryz.typeInfo413
theorem tyOk414 : TyOk Tryz.prog 414 (TI.of Tryz.t414 Tryz.t21.desc) := TI.ok Tryz.underlying414 Tryz.typeInfo414
theorem tyOk415 : TyOk Tryz.prog 415 (TI.of Tryz.t415 Tryz.t415.desc) := TI.ok Tryz.underlying415 Tryz.typeInfo415
theorem tyOk416 : TyOk Tryz.prog 416 (TI.of Tryz.t416 Tryz.t415.desc) := TI.ok Tryz.underlying416 Tryz.typeInfo416
theorem tyOk417 : TyOk Tryz.prog 417 (TI.of Tryz.t417 Tryz.t417.desc) := TI.ok Tryz.underlying417 Tryz.typeInfo417
theorem tyOk418 : TyOk Tryz.prog 418 (TI.of Tryz.t418 Tryz.t418.desc) := TI.ok Tryz.underlying418 Tryz.typeInfo418
theorem tyOk419 : TyOk Tryz.prog 419 (TI.of Tryz.t419 Tryz.t419.desc) := TI.ok Tryz.underlying419 Tryz.typeInfo419
theorem tyOk420 : TyOk Tryz.prog 420 (TI.of Tryz.t420 Tryz.t419.desc) := TI.ok Tryz.underlying420 Tryz.typeInfo420
theorem tyOk421 : TyOk Tryz.prog 421 (TI.of Tryz.t421 Tryz.t421.desc) := TI.ok Tryz.underlying421 Tryz.typeInfo421
theorem tyOk422 : TyOk Tryz.prog 422 (TI.of Tryz.t422 Tryz.t421.desc) := TI.ok Tryz.underlying422 Tryz.typeInfo422
theorem fnOk2 : FnOk Tryz.prog 2 (FI.of Tryz.f2) := FI.ok Tryz.func2 rfl Tryz.call2
theorem fnOk3 : FnOk Tryz.prog 3 (FI.of Tryz.f3) := FI.ok Tryz.func3 rfl Tryz.call3
theorem fnOk4 : FnOk Tryz.prog 4 (FI.of Tryz.f4) := FI.ok Tryz.func4 rfl Tryz.call4
theorem fnOk5 : FnOk Tryz.prog 5 (FI.of Tryz.f5) := FI.ok Tryz.func5 rfl Tryz.call5
theorem fnOk6 : FnOk Tryz.prog 6 (FI.of Tryz.f6) := FI.ok Tryz.func6 rfl Tryz.call6
theorem fnOk7 : FnOk Tryz.prog 7 (FI.of Tryz.f7) := FI.ok Tryz.func7 rfl Tryz.call7
theorem fnOk8 : FnOk Tryz.prog 8 (FI.of Tryz.f8) := FI.ok Tryz.func8 rfl Tryz.call8
theorem fnOk9 : FnOk Tryz.prog 9 (FI.of Tryz.f9) := FI.ok Tryz.func9 rfl Tryz.call9
theorem fnOk10 : FnOk Tryz.prog 10 (FI.of Tryz.f10) := FI.ok Tryz.func10 rfl Tryz.call10
theorem fnOk11 : FnOk Tryz.prog 11 (FI.of Tryz.f11) := FI.ok Tryz.func11 rfl Tryz.call11
theorem fnOk12 : FnOk Tryz.prog 12 (FI.of Tryz.f12) := FI.ok Tryz.func12 rfl Tryz.call12
theorem fnOk13 : FnOk Tryz.prog 13 (FI.of Tryz.f13) := FI.ok Tryz.func13 rfl Tryz.call13
theorem fnOk14 : FnOk Tryz.prog 14 (FI.of Tryz.f14) := FI.ok Tryz.func14 rfl Tryz.call14
theorem fnOk15 : FnOk Tryz.prog 15 (FI.of Tryz.f15) := FI.ok Tryz.func15 rfl Tryz.call15
theorem fnOk16 : FnOk Tryz.prog 16 (FI.of Tryz.f16) := FI.ok Tryz.func16 rfl Tryz.call16
theorem fnOk17 : FnOk Tryz.prog 17 (FI.of Tryz.f17) := FI.ok Tryz.func17 rfl Tryz.call17
theorem fnOk18 : FnOk Tryz.prog 18 (FI.of Tryz.f18) := FI.ok Tryz.func18 rfl Tryz.call18
theorem fnOk19 : FnOk Tryz.prog 19 (FI.of Tryz.f19) := FI.ok Tryz.func19 rfl Tryz.call19
theorem fnOk20 : FnOk Tryz.prog 20 (FI.of Tryz.f20) := FI.ok Tryz.func20 rfl Tryz.call20
theorem fnOk21 : FnOk Tryz.prog 21 (FI.of Tryz.f21) := FI.ok Tryz.func21 rfl Tryz.call21
theorem fnOk22 : FnOk Tryz.prog 22 (FI.of Tryz.f22) := FI.ok Tryz.func22 rfl Tryz.call22
theorem fnOk23 : FnOk Tryz.prog 23 (FI.of Tryz.f23) := FI.ok Tryz.func23 rfl Tryz.call23
theorem fnOk24 : FnOk Tryz.prog 24 (FI.of Tryz.f24) := FI.ok Tryz.func24 rfl Tryz.call24
theorem fnOk25 : FnOk Tryz.prog 25 (FI.of Tryz.f25) := FI.ok Tryz.func25 rfl Tryz.call25
theorem fnOk26 : FnOk Tryz.prog 26 (FI.of Tryz.f26) := FI.ok Tryz.func26 rfl Tryz.call26
theorem fnOk27 : FnOk Tryz.prog 27 (FI.of Tryz.f27) := FI.ok Tryz.func27 rfl Tryz.call27
theorem fnOk28 : FnOk Tryz.prog 28 (FI.of Tryz.f28) := FI.ok Tryz.func28 rfl Tryz.call28
theorem fnOk29 : FnOk Tryz.prog 29 (FI.of Tryz.f29) := FI.ok Tryz.func29 rfl Tryz.call29
theorem fnOk30 : FnOk Tryz.prog 30 (FI.of Tryz.f30) := FI.ok Tryz.func30 rfl Tryz.call30
theorem fnOk31 : FnOk Tryz.prog 31 (FI.of Tryz.f31) := FI.ok Tryz.func31 rfl Tryz.call31
theorem fnOk32 : FnOk Tryz.prog 32 (FI.of Tryz.f32) := FI.ok Tryz.func32 rfl Tryz.call32
theorem fnOk33 : FnOk Tryz.prog 33 (FI.of Tryz.f33) := FI.ok Tryz.func33 rfl Tryz.call33
theorem fnOk34 : FnOk Tryz.prog 34 (FI.of Tryz.f34) := FI.ok Tryz.func34 rfl Tryz.call34
theorem fnOk35 : FnOk Tryz.prog 35 (FI.of Tryz.f35) := FI.ok Tryz.func35 rfl Tryz.call35
theorem fnOk36 : FnOk Tryz.prog 36 (FI.of Tryz.f36) := FI.ok Tryz.func36 rfl Tryz.call36
theorem fnOk37 : FnOk Tryz.prog 37 (FI.of Tryz.f37) := FI.ok Tryz.func37 rfl Tryz.call37
theorem fnOk38 : FnOk Tryz.prog 38 (FI.of Tryz.f38) := FI.ok Tryz.func38 rfl Tryz.call38
theorem fnOk39 : FnOk Tryz.prog 39 (FI.of Tryz.f39) := FI.ok Tryz.func39 rfl Tryz.call39
theorem fnOk40 : FnOk Tryz.prog 40 (FI.of Tryz.f40) := FI.ok Tryz.func40 rfl Tryz.call40
theorem fnOk41 : FnOk Tryz.prog 41 (FI.of Tryz.f41) := FI.ok Tryz.func41 rfl Tryz.call41
theorem fnOk42 : FnOk Tryz.prog 42 (FI.of Tryz.f42) := FI.ok Tryz.func42 rfl Tryz.call42
theorem fnOk43 : FnOk Tryz.prog 43 (FI.of Tryz.f43) := FI.ok Tryz.func43 rfl Tryz.call43
theorem fnOk44 : FnOk Tryz.prog 44 (FI.of Tryz.f44) := FI.ok Tryz.func44 rfl Tryz.call44
theorem fnOk45 : FnOk Tryz.prog 45 (FI.of Tryz.f45) := FI.ok Tryz.func45 rfl Tryz.call45
theorem fnOk46 : FnOk Tryz.prog 46 (FI.of Tryz.f46) := FI.ok Tryz.func46 rfl Tryz.call46
theorem fnOk47 : FnOk Tryz.prog 47 (FI.of Tryz.f47) := FI.ok Tryz.func47 rfl Tryz.call47
theorem fnOk48 : FnOk Tryz.prog 48 (FI.of Tryz.f48) := FI.ok Tryz.func48 rfl Tryz.call48
theorem fnOk49 : FnOk Tryz.prog 49 (FI.of Tryz.f49) := FI.ok Tryz.func49 rfl Tryz.call49
theorem fnOk50 : FnOk Tryz.prog 50 (FI.of Tryz.f50) := FI.ok Tryz.func50 rfl Tryz.call50
theorem fnOk51 : FnOk Tryz.prog 51 (FI.of Tryz.f51) := FI.ok Tryz.func51 rfl Tryz.call51
theorem fnOk52 : FnOk Tryz.prog 52 (FI.of Tryz.f52) := FI.ok Tryz.func52 rfl Tryz.call52
theorem fnOk53 : FnOk Tryz.prog 53 (FI.of Tryz.f53) := FI.ok Tryz.func53 rfl Tryz.call53
theorem fnOk54 : FnOk Tryz.prog 54 (FI.of Tryz.f54) := FI.ok Tryz.func54 rfl Tryz.call54
theorem fnOk55 : FnOk Tryz.prog 55 (FI.of Tryz.f55) := FI.ok Tryz.func55 rfl Tryz.call55
theorem fnOk56 : FnOk Tryz.prog 56 (FI.of Tryz.f56) := FI.ok Tryz.func56 rfl Tryz.call56
theorem fnOk57 : FnOk Tryz.prog 57 (FI.of Tryz.f57) := FI.ok Tryz.func57 rfl Tryz.call57
theorem fnOk58 : FnOk Tryz.prog 58 (FI.of Tryz.f58) := FI.ok Tryz.func58 rfl Tryz.call58
theorem fnOk60 : FnOk Tryz.prog 60 (FI.of Tryz.f60) := FI.ok Tryz.func60 rfl Tryz.call60
theorem fnOk61 : FnOk Tryz.prog 61 (FI.of Tryz.f61) := FI.ok Tryz.func61 rfl Tryz.call61
theorem fnOk62 : FnOk Tryz.prog 62 (FI.of Tryz.f62) := FI.ok Tryz.func62 rfl Tryz.call62
theorem fnOk63 : FnOk Tryz.prog 63 (FI.of Tryz.f63) := FI.ok Tryz.func63 rfl Tryz.call63
theorem fnOk64 : FnOk Tryz.prog 64 (FI.of Tryz.f64) := FI.ok Tryz.func64 rfl Tryz.call64
theorem fnOk65 : FnOk Tryz.prog 65 (FI.of Tryz.f65) := FI.ok Tryz.func65 rfl Tryz.call65
theorem fnOk66 : FnOk Tryz.prog 66 (FI.of Tryz.f66) := FI.ok Tryz.func66 rfl Tryz.call66
theorem fnOk67 : FnOk Tryz.prog 67 (FI.of Tryz.f67) := FI.ok Tryz.func67 rfl Tryz.call67
theorem fnOk68 : FnOk Tryz.prog 68 (FI.of Tryz.f68) := FI.ok Tryz.func68 rfl Tryz.call68
theorem fnOk69 : FnOk Tryz.prog 69 (FI.of Tryz.f69) := FI.ok Tryz.func69 rfl Tryz.call69
theorem fnOk70 : FnOk Tryz.prog 70 (FI.of Tryz.f70) := FI.ok Tryz.func70 rfl Tryz.call70
theorem fnOk71 : FnOk Tryz.prog 71 (FI.of Tryz.f71) := FI.ok Tryz.func71 rfl Tryz.call71
theorem fnOk72 : FnOk Tryz.prog 72 (FI.of Tryz.f72) := FI.ok Tryz.func72 rfl Tryz.call72
theorem fnOk73 : FnOk Tryz.prog 73 (FI.of Tryz.f73) := FI.ok Tryz.func73 rfl Tryz.call73
theorem fnOk74 : FnOk Tryz.prog 74 (FI.of Tryz.f74) := FI.ok Tryz.func74 rfl Tryz.call74
theorem fnOk75 : FnOk Tryz.prog 75 (FI.of Tryz.f75) := FI.ok Tryz.func75 rfl Tryz.call75
theorem fnOk76 : FnOk Tryz.prog 76 (FI.of Tryz.f76) := FI.ok Tryz.func76 rfl Tryz.call76
theorem fnOk77 : FnOk Tryz.prog 77 (FI.of Tryz.f77) := FI.ok Tryz.func77 rfl Tryz.call77
theorem fnOk78 : FnOk Tryz.prog 78 (FI.of Tryz.f78) := FI.ok Tryz.func78 rfl Tryz.call78
theorem fnOk79 : FnOk Tryz.prog 79 (FI.of Tryz.f79) := FI.ok Tryz.func79 rfl Tryz.call79
theorem fnOk80 : FnOk Tryz.prog 80 (FI.of Tryz.f80) := FI.ok Tryz.func80 rfl Tryz.call80
theorem fnOk81 : FnOk Tryz.prog 81 (FI.of Tryz.f81) := FI.ok Tryz.func81 rfl Tryz.call81
theorem fnOk82 : FnOk Tryz.prog 82 (FI.of Tryz.f82) := FI.ok Tryz.func82 rfl Tryz.call82
theorem fnOk83 : FnOk Tryz.prog 83 (FI.of Tryz.f83) := FI.ok Tryz.func83 rfl Tryz.call83
theorem fnOk84 : FnOk Tryz.prog 84 (FI.of Tryz.f84) := FI.ok Tryz.func84 rfl Tryz.call84
theorem fnOk85 : FnOk Tryz.prog 85 (FI.of Tryz.f85) := FI.ok Tryz.func85 rfl Tryz.call85
theorem fnOk86 : FnOk Tryz.prog 86 (FI.of Tryz.f86) := FI.ok Tryz.func86 rfl Tryz.call86
theorem fnOk87 : FnOk Tryz.prog 87 (FI.of Tryz.f87) := FI.ok Tryz.func87 rfl Tryz.call87
theorem fnOk88 : FnOk Tryz.prog 88 (FI.of Tryz.f88) := FI.ok Tryz.func88 rfl Tryz.call88
theorem fnOk89 : FnOk Tryz.prog 89 (FI.of Tryz.f89) := FI.ok Tryz.func89 rfl Tryz.call89
theorem fnOk90 : FnOk Tryz.prog 90 (FI.of Tryz.f90) := FI.ok Tryz.func90 rfl Tryz.call90
theorem fnOk91 : FnOk Tryz.prog 91 (FI.of Tryz.f91) := FI.ok Tryz.func91 rfl Tryz.call91
theorem fnOk92 : FnOk Tryz.prog 92 (FI.of Tryz.f92) := FI.ok Tryz.func92 rfl Tryz.call92
theorem fnOk93 : FnOk Tryz.prog 93 (FI.of Tryz.f93) := FI.ok Tryz.func93 rfl Tryz.call93
theorem fnOk94 : FnOk Tryz.prog 94 (FI.of Tryz.f94) := FI.ok Tryz.func94 rfl Tryz.call94
theorem fnOk95 : FnOk Tryz.prog 95 (FI.of Tryz.f95) := FI.ok Tryz.func95 rfl Tryz.call95
theorem fnOk96 : FnOk Tryz.prog 96 (FI.of Tryz.f96) := FI.ok Tryz.func96 rfl Tryz.call96
theorem fnOk97 : FnOk Tryz.prog 97 (FI.of Tryz.f97) := FI.ok Tryz.func97 rfl Tryz.call97
theorem fnOk98 : FnOk Tryz.prog 98 (FI.of Tryz.f98) := FI.ok Tryz.func98 rfl Tryz.call98
theorem fnOk99 : FnOk Tryz.prog 99 (FI.of Tryz.f99) := FI.ok Tryz.func99 rfl Tryz.call99
theorem fnOk100 : FnOk Tryz.prog 100 (FI.of Tryz.f100) := FI.ok Tryz.func100 rfl Tryz.call100
theorem fnOk101 : FnOk Tryz.prog 101 (FI.of Tryz.f101) := FI.ok Tryz.func101 rfl Tryz.call101
theorem fnOk102 : FnOk Tryz.prog 102 (FI.of Tryz.f102) := FI.ok Tryz.func102 rfl Tryz.call102
theorem fnOk103 : FnOk Tryz.prog 103 (FI.of Tryz.f103) := FI.ok Tryz.func103 rfl Tryz.call103
theorem fnOk104 : FnOk Tryz.prog 104 (FI.of Tryz.f104) := FI.ok Tryz.func104 rfl Tryz.call104
theorem fnOk105 : FnOk Tryz.prog 105 (FI.of Tryz.f105) := FI.ok Tryz.func105 rfl Tryz.call105
theorem fnOk106 : FnOk Tryz.prog 106 (FI.of Tryz.f106) := FI.ok Tryz.func106 rfl Tryz.call106
theorem fnOk107 : FnOk Tryz.prog 107 (FI.of Tryz.f107) := FI.ok Tryz.func107 rfl Tryz.call107
theorem fnOk108 : FnOk Tryz.prog 108 (FI.of Tryz.f108) := FI.ok Tryz.func108 rfl Tryz.call108
theorem fnOk109 : FnOk Tryz.prog 109 (FI.of Tryz.f109) := FI.ok Tryz.func109 rfl Tryz.call109
theorem fnOk110 : FnOk Tryz.prog 110 (FI.of Tryz.f110) := FI.ok Tryz.func110 rfl Tryz.call110
theorem fnOk111 : FnOk Tryz.prog 111 (FI.of Tryz.f111) := FI.ok Tryz.func111 rfl Tryz.call111
theorem fnOk112 : FnOk Tryz.prog 112 (FI.of Tryz.f112) := FI.ok Tryz.func112 rfl Tryz.call112
theorem fnOk113 : FnOk Tryz.prog 113 (FI.of Tryz.f113) := FI.ok Tryz.func113 rfl Tryz.call113
theorem fnOk114 : FnOk Tryz.prog 114 (FI.of Tryz.f114) := FI.ok Tryz.func114 rfl Tryz.call114
theorem fnOk115 : FnOk Tryz.prog 115 (FI.of Tryz.f115) := FI.ok Tryz.func115 rfl Tryz.call115
theorem fnOk116 : FnOk Tryz.prog 116 (FI.of Tryz.f116) := FI.ok Tryz.func116 rfl Tryz.call116
theorem fnOk117 : FnOk Tryz.prog 117 (FI.of Tryz.f117) := FI.ok Tryz.func117 rfl Tryz.call117
theorem fnOk118 : FnOk Tryz.prog 118 (FI.of Tryz.f118) := FI.ok Tryz.func118 rfl Tryz.call118
theorem fnOk119 : FnOk Tryz.prog 119 (FI.of Tryz.f119) := FI.ok Tryz.func119 rfl Tryz.call119
theorem fnOk120 : FnOk Tryz.prog 120 (FI.of Tryz.f120) := FI.ok Tryz.func120 rfl Tryz.call120
theorem fnOk121 : FnOk Tryz.prog 121 (FI.of Tryz.f121) := FI.ok Tryz.func121 rfl Tryz.call121
theorem fnOk122 : FnOk Tryz.prog 122 (FI.of Tryz.f122) := FI.ok Tryz.func122 rfl Tryz.call122
theorem fnOk123 : FnOk Tryz.prog 123 (FI.of Tryz.f123) := FI.ok Tryz.func123 rfl Tryz.call123
theorem fnOk124 : FnOk Tryz.prog 124 (FI.of Tryz.f124) := FI.ok Tryz.func124 rfl Tryz.call124
theorem fnOk125 : FnOk Tryz.prog 125 (FI.of Tryz.f125) := FI.ok Tryz.func125 rfl Tryz.call125
theorem fnOk126 : FnOk Tryz.prog 126 (FI.of Tryz.f126) := FI.ok Tryz.func126 rfl Tryz.call126
theorem fnOk127 : FnOk Tryz.prog 127 (FI.of Tryz.f127) := FI.ok Tryz.func127 rfl Tryz.call127
theorem fnOk128 : FnOk Tryz.prog 128 (FI.of Tryz.f128) := FI.ok Tryz.func128 rfl Tryz.call128
theorem fnOk129 : FnOk Tryz.prog 129 (FI.of Tryz.f129) := FI.ok Tryz.func129 rfl Tryz.call129
theorem fnOk130 : FnOk Tryz.prog 130 (FI.of Tryz.f130) := FI.ok Tryz.func130 rfl Tryz.call130
theorem fnOk131 : FnOk Tryz.prog 131 (FI.of Tryz.f131) := FI.ok Tryz.func131 rfl Tryz.call131
theorem fnOk132 : FnOk Tryz.prog 132 (FI.of Tryz.f132) := FI.ok Tryz.func132 rfl Tryz.call132
theorem fnOk133 : FnOk Tryz.prog 133 (FI.of Tryz.f133) := FI.ok Tryz.func133 rfl Tryz.call133
theorem fnOk134 : FnOk Tryz.prog 134 (FI.of Tryz.f134) := FI.ok Tryz.func134 rfl Tryz.call134
theorem fnOk135 : FnOk Tryz.prog 135 (FI.of Tryz.f135) := FI.ok Tryz.func135 rfl Tryz.call135
theorem fnOk136 : FnOk Tryz.prog 136 (FI.of Tryz.f136) := FI.ok Tryz.func136 rfl Tryz.call136
theorem fnOk137 : FnOk Tryz.prog 137 (FI.of Tryz.f137) := FI.ok Tryz.func137 rfl Tryz.call137
theorem fnOk138 : FnOk Tryz.prog 138 (FI.of Tryz.f138) := FI.ok Tryz.func138 rfl Tryz.call138
theorem fnOk139 : FnOk Tryz.prog 139 (FI.of Tryz.f139) := FI.ok Tryz.func139 rfl Tryz.call139
theorem fnOk140 : FnOk Tryz.prog 140 (FI.of Tryz.f140) := FI.ok Tryz.func140 rfl Tryz.call140
theorem fnOk141 : FnOk Tryz.prog 141 (FI.of Tryz.f141) := FI.ok Tryz.func141 rfl Tryz.call141
theorem fnOk142 : FnOk Tryz.prog 142 (FI.of Tryz.f142) := FI.ok Tryz.func142 rfl Tryz.call142
theorem fnOk143 : FnOk Tryz.prog 143 (FI.of Tryz.f143) := FI.ok Tryz.func143 rfl Tryz.call143
theorem fnOk144 : FnOk Tryz.prog 144 (FI.of Tryz.f144) := FI.ok Tryz.func144 rfl Tryz.call144
theorem fnOk145 : FnOk Tryz.prog 145 (FI.of Tryz.f145) := FI.ok Tryz.func145 rfl Tryz.call145
theorem fnOk146 : FnOk Tryz.prog 146 (FI.of Tryz.f146) := FI.ok Tryz.func146 rfl Tryz.call146
theorem fnOk147 : FnOk Tryz.prog 147 (FI.of Tryz.f147) := FI.ok Tryz.func147 rfl Tryz.call147
theorem fnOk148 : FnOk Tryz.prog 148 (FI.of Tryz.f148) := FI.ok Tryz.func148 rfl Tryz.call148
theorem fnOk149 : FnOk Tryz.prog 149 (FI.of Tryz.f149) := FI.ok Tryz.func149 rfl Tryz.call149
theorem fnOk150 : FnOk Tryz.prog 150 (FI.of Tryz.f150) := FI.ok Tryz.func150 rfl Tryz.call150
theorem fnOk151 : FnOk Tryz.prog 151 (FI.of Tryz.f151) := FI.ok Tryz.func151 rfl Tryz.call151
theorem fnOk152 : FnOk Tryz.prog 152 (FI.of Tryz.f152) := FI.ok Tryz.func152 rfl Tryz.call152
theorem fnOk153 : FnOk Tryz.prog 153 (FI.of Tryz.f153) := FI.ok Tryz.func153 rfl Tryz.call153
theorem fnOk154 : FnOk Tryz.prog 154 (FI.of Tryz.f154) := FI.ok Tryz.func154 rfl Tryz.call154
theorem fnOk155 : FnOk Tryz.prog 155 (FI.of Tryz.f155) := FI.ok Tryz.func155 rfl Tryz.call155
theorem fnOk156 : FnOk Tryz.prog 156 (FI.of Tryz.f156) := FI.ok Tryz.func156 rfl Tryz.call156
theorem fnOk157 : FnOk Tryz.prog 157 (FI.of Tryz.f157) := FI.ok Tryz.func157 rfl Tryz.call157
theorem fnOk158 : FnOk Tryz.prog 158 (FI.of Tryz.f158) := FI.ok Tryz.func158 rfl Tryz.call158
theorem fnOk159 : FnOk Tryz.prog 159 (FI.of Tryz.f159) := FI.ok Tryz.func159 rfl Tryz.call159
theorem fnOk160 : FnOk Tryz.prog 160 (FI.of Tryz.f160) := FI.ok Tryz.func160 rfl Tryz.call160
theorem fnOk161 : FnOk Tryz.prog 161 (FI.of Tryz.f161) := FI.ok Tryz.func161 rfl Tryz.call161
theorem fnOk162 : FnOk Tryz.prog 162 (FI.of Tryz.f162) := FI.ok Tryz.func162 rfl Tryz.call162
theorem fnOk163 : FnOk Tryz.prog 163 (FI.of Tryz.f163) := FI.ok Tryz.func163 rfl Tryz.call163
theorem fnOk164 : FnOk Tryz.prog 164 (FI.of Tryz.f164) := FI.ok Tryz.func164 rfl Tryz.call164
theorem fnOk165 : FnOk Tryz.prog 165 (FI.of Tryz.f165) := FI.ok Tryz.func165 rfl Tryz.call165
theorem fnOk166 : FnOk Tryz.prog 166 (FI.of Tryz.f166) := FI.ok Tryz.func166 rfl Tryz.call166
theorem fnOk167 : FnOk Tryz.prog 167 (FI.of Tryz.f167) := FI.ok Tryz.func167 rfl Tryz.call167
theorem fnOk168 : FnOk Tryz.prog 168 (FI.of Tryz.f168) := FI.ok Tryz.func168 rfl Tryz.call168
theorem fnOk169 : FnOk Tryz.prog 169 (FI.of Tryz.f169) := FI.ok Tryz.func169 rfl Tryz.call169
theorem fnOk170 : FnOk Tryz.prog 170 (FI.of Tryz.f170) := FI.ok Tryz.func170 rfl Tryz.call170
theorem fnOk171 : FnOk Tryz.prog 171 (FI.of Tryz.f171) := FI.ok Tryz.func171 rfl Tryz.call171
theorem fnOk172 : FnOk Tryz.prog 172 (FI.of Tryz.f172) := FI.ok Tryz.func172 rfl Tryz.call172
theorem fnOk173 : FnOk Tryz.prog 173 (FI.of Tryz.f173) := FI.ok Tryz.func173 rfl Tryz.call173
theorem fnOk174 : FnOk Tryz.prog 174 (FI.of Tryz.f174) := FI.ok Tryz.func174 rfl Tryz.call174
theorem fnOk175 : FnOk Tryz.prog 175 (FI.of Tryz.f175) := FI.ok Tryz.func175 rfl Tryz.call175
theorem fnOk176 : FnOk Tryz.prog 176 (FI.of Tryz.f176) := FI.ok Tryz.func176 rfl Tryz.call176
theorem fnOk177 : FnOk Tryz.prog 177 (FI.of Tryz.f177) := FI.ok Tryz.func177 rfl Tryz.call177
theorem fnOk178 : FnOk Tryz.prog 178 (FI.of Tryz.f178) := FI.ok Tryz.func178 rfl Tryz.call178
theorem fnOk179 : FnOk Tryz.prog 179 (FI.of Tryz.f179) := FI.ok Tryz.func179 rfl Tryz.call179
theorem fnOk180 : FnOk Tryz.prog 180 (FI.of Tryz.f180) := FI.ok Tryz.func180 rfl Tryz.call180
theorem fnOk181 : FnOk Tryz.prog 181 (FI.of Tryz.f181) := FI.ok Tryz.func181 rfl Tryz.call181
theorem fnOk182 : FnOk Tryz.prog 182 (FI.of Tryz.f182) := FI.ok Tryz.func182 rfl Tryz.call182
theorem fnOk183 : FnOk Tryz.prog 183 (FI.of Tryz.f183) := FI.ok Tryz.func183 rfl Tryz.call183
theorem fnOk184 : FnOk Tryz.prog 184 (FI.of Tryz.f184) := FI.ok Tryz.func184 rfl Tryz.call184
theorem fnOk185 : FnOk Tryz.prog 185 (FI.of Tryz.f185) := FI.ok Tryz.func185 rfl Tryz.call185
theorem fnOk186 : FnOk Tryz.prog 186 (FI.of Tryz.f186) := FI.ok Tryz.func186 rfl Tryz.call186
theorem fnOk187 : FnOk Tryz.prog 187 (FI.of Tryz.f187) := FI.ok Tryz.func187 rfl Tryz.call187
theorem fnOk188 : FnOk Tryz.prog 188 (FI.of Tryz.f188) := FI.ok Tryz.func188 rfl Tryz.call188
theorem fnOk189 : FnOk Tryz.prog 189 (FI.of Tryz.f189) := FI.ok Tryz.func189 rfl Tryz.call189
theorem fnOk190 : FnOk Tryz.prog 190 (FI.of Tryz.f190) := FI.ok Tryz.func190 rfl Tryz.call190
theorem fnOk191 : FnOk Tryz.prog 191 (FI.of Tryz.f191) := FI.ok Tryz.func191 rfl Tryz.call191
theorem fnOk192 : FnOk Tryz.prog 192 (FI.of Tryz.f192) := FI.ok Tryz.func192 rfl Tryz.call192
theorem fnOk193 : FnOk Tryz.prog 193 (FI.of Tryz.f193) := FI.ok Tryz.func193 rfl Tryz.call193
theorem fnOk194 : FnOk Tryz.prog 194 (FI.of Tryz.f194) := FI.ok Tryz.func194 rfl Tryz.call194
theorem fnOk195 : FnOk Tryz.prog 195 (FI.of Tryz.f195) := FI.ok Tryz.func195 rfl Tryz.call195
theorem fnOk196 : FnOk Tryz.prog 196 (FI.of Tryz.f196) := FI.ok Tryz.func196 rfl Tryz.call196
theorem fnOk197 : FnOk Tryz.prog 197 (FI.of Tryz.f197) := FI.ok Tryz.func197 rfl Tryz.call197
theorem fnOk198 : FnOk Tryz.prog 198 (FI.of Tryz.f198) := FI.ok Tryz.func198 rfl Tryz.call198
theorem fnOk199 : FnOk Tryz.prog 199 (FI.of Tryz.f199) := FI.ok Tryz.func199 rfl Tryz.call199
theorem fnOk200 : FnOk Tryz.prog 200 (FI.of Tryz.f200) := FI.ok Tryz.func200 rfl Tryz.call200
theorem fnOk201 : FnOk Tryz.prog 201 (FI.of Tryz.f201) := FI.ok Tryz.func201 rfl Tryz.call201
theorem fnOk202 : FnOk Tryz.prog 202 (FI.of Tryz.f202) := FI.ok Tryz.func202 rfl Tryz.call202
theorem fnOk203 : FnOk Tryz.prog 203 (FI.of Tryz.f203) := FI.ok Tryz.func203 rfl Tryz.call203
theorem fnOk204 : FnOk Tryz.prog 204 (FI.of Tryz.f204) := FI.ok Tryz.func204 rfl Tryz.call204
theorem fnOk205 : FnOk Tryz.prog 205 (FI.of Tryz.f205) := FI.ok Tryz.func205 rfl Tryz.call205
theorem fnOk206 : FnOk Tryz.prog 206 (FI.of Tryz.f206) := FI.ok Tryz.func206 rfl Tryz.call206
theorem fnOk207 : FnOk Tryz.prog 207 (FI.of Tryz.f207) := FI.ok Tryz.func207 rfl Tryz.call207
theorem fnOk208 : FnOk Tryz.prog 208 (FI.of Tryz.f208) := FI.ok Tryz.func208 rfl Tryz.call208
theorem fnOk209 : FnOk Tryz.prog 209 (FI.of Tryz.f209) := FI.ok Tryz.func209 rfl Tryz.call209
theorem fnOk210 : FnOk Tryz.prog 210 (FI.of Tryz.f210) := FI.ok Tryz.func210 rfl Tryz.call210
theorem fnOk211 : FnOk Tryz.prog 211 (FI.of Tryz.f211) := FI.ok Tryz.func211 rfl Tryz.call211
theorem fnOk212 : FnOk Tryz.prog 212 (FI.of Tryz.f212) := FI.ok Tryz.func212 rfl Tryz.call212
theorem fnOk213 : FnOk Tryz.prog 213 (FI.of Tryz.f213) := FI.ok Tryz.func213 rfl Tryz.call213
theorem fnOk214 : FnOk Tryz.prog 214 (FI.of Tryz.f214) := FI.ok Tryz.func214 rfl Tryz.call214
theorem fnOk215 : FnOk Tryz.prog 215 (FI.of Tryz.f215) := FI.ok Tryz.func215 rfl Tryz.call215
theorem fnOk216 : FnOk Tryz.prog 216 (FI.of Tryz.f216) := FI.ok Tryz.func216 rfl Tryz.call216
theorem fnOk217 : FnOk Tryz.prog 217 (FI.of Tryz.f217) := FI.ok Tryz.func217 rfl Tryz.call217
theorem fnOk218 : FnOk Tryz.prog 218 (FI.of Tryz.f218) := FI.ok Tryz.func218 rfl Tryz.call218
theorem fnOk219 : FnOk Tryz.prog 219 (FI.of Tryz.f219) := FI.ok Tryz.func219 rfl Tryz.call219
theorem fnOk220 : FnOk Tryz.prog 220 (FI.of Tryz.f220) := FI.ok Tryz.func220 rfl Tryz.call220
theorem fnOk221 : FnOk Tryz.prog 221 (FI.of Tryz.f221) := FI.ok Tryz.func221 rfl Tryz.call221
theorem fnOk222 : FnOk Tryz.prog 222 (FI.of Tryz.f222) := FI.ok Tryz.func222 rfl Tryz.call222
theorem fnOk223 : FnOk Tryz.prog 223 (FI.of Tryz.f223) := FI.ok Tryz.func223 rfl Tryz.call223
theorem fnOk224 : FnOk Tryz.prog 224 (FI.of Tryz.f224) := FI.ok Tryz.func224 rfl Tryz.call224
theorem fnOk225 : FnOk Tryz.prog 225 (FI.of Tryz.f225) := FI.ok Tryz.func225 rfl Tryz.call225
theorem fnOk226 : FnOk Tryz.prog 226 (FI.of Tryz.f226) := FI.ok Tryz.func226 rfl Tryz.call226
theorem fnOk227 : FnOk Tryz.prog 227 (FI.of Tryz.f227) := FI.ok Tryz.func227 rfl Tryz.call227
theorem fnOk228 : FnOk Tryz.prog 228 (FI.of Tryz.f228) := FI.ok Tryz.func228 rfl Tryz.call228
theorem fnOk229 : FnOk Tryz.prog 229 (FI.of Tryz.f229) := FI.ok Tryz.func229 rfl Tryz.call229
theorem fnOk230 : FnOk Tryz.prog 230 (FI.of Tryz.f230) := FI.ok Tryz.func230 rfl Tryz.call230
theorem fnOk231 : FnOk Tryz.prog 231 (FI.of Tryz.f231) := FI.ok Tryz.func231 rfl Tryz.call231
theorem fnOk232 : FnOk Tryz.prog 232 (FI.of Tryz.f232) := FI.ok Tryz.func232 rfl Tryz.call232
theorem fnOk233 : FnOk Tryz.prog 233 (FI.of Tryz.f233) := FI.ok Tryz.func233 rfl Tryz.call233
theorem fnOk234 : FnOk Tryz.prog 234 (FI.of Tryz.f234) := FI.ok Tryz.func234 rfl Tryz.call234
theorem fnOk235 : FnOk Tryz.prog 235 (FI.of Tryz.f235) := FI.ok Tryz.func235 rfl Tryz.call235
theorem fnOk236 : FnOk Tryz.prog 236 (FI.of Tryz.f236) := FI.ok Tryz.func236 rfl Tryz.call236
theorem fnOk237 : FnOk Tryz.prog 237 (FI.of Tryz.f237) := FI.ok Tryz.func237 rfl Tryz.call237
theorem fnOk238 : FnOk Tryz.prog 238 (FI.of Tryz.f238) := FI.ok Tryz.func238 rfl Tryz.call238
theorem fnOk239 : FnOk Tryz.prog 239 (FI.of Tryz.f239) := FI.ok Tryz.func239 rfl Tryz.call239
theorem fnOk240 : FnOk Tryz.prog 240 (FI.of Tryz.f240) := FI.ok Tryz.func240 rfl Tryz.call240
theorem fnOk241 : FnOk Tryz.prog 241 (FI.of Tryz.f241) := FI.ok Tryz.func241 rfl Tryz.call241
theorem fnOk242 : FnOk Tryz.prog 242 (FI.of Tryz.f242) := FI.ok Tryz.func242 rfl Tryz.call242
theorem fnOk243 : FnOk Tryz.prog 243 (FI.of Tryz.f243) := FI.ok Tryz.func243 rfl Tryz.call243
theorem fnOk244 : FnOk Tryz.prog 244 (FI.of Tryz.f244) := FI.ok Tryz.func244 rfl Tryz.call244
theorem fnOk245 : FnOk Tryz.prog 245 (FI.of Tryz.f245) := FI.ok Tryz.func245 rfl Tryz.call245
theorem fnOk246 : FnOk Tryz.prog 246 (FI.of Tryz.f246) := FI.ok Tryz.func246 rfl Tryz.call246
theorem fnOk247 : FnOk Tryz.prog 247 (FI.of Tryz.f247) := FI.ok Tryz.func247 rfl Tryz.call247
theorem fnOk248 : FnOk Tryz.prog 248 (FI.of Tryz.f248) := FI.ok Tryz.func248 rfl Tryz.call248
theorem fnOk249 : FnOk Tryz.prog 249 (FI.of Tryz.f249) := FI.ok Tryz.func249 rfl Tryz.call249
theorem fnOk250 : FnOk Tryz.prog 250 (FI.of Tryz.f250) := FI.ok Tryz.func250 rfl Tryz.call250
theorem fnOk251 : FnOk Tryz.prog 251 (FI.of Tryz.f251) := FI.ok Tryz.func251 rfl Tryz.call251
theorem fnOk252 : FnOk Tryz.prog 252 (FI.of Tryz.f252) := FI.ok Tryz.func252 rfl Tryz.call252
theorem fnOk253 : FnOk Tryz.prog 253 (FI.of Tryz.f253) := FI.ok Tryz.func253 rfl Tryz.call253
theorem fnOk254 : FnOk Tryz.prog 254 (FI.of Tryz.f254) := FI.ok Tryz.func254 rfl Tryz.call254
theorem fnOk255 : FnOk Tryz.prog 255 (FI.of Tryz.f255) := FI.ok Tryz.func255 rfl Tryz.call255
theorem fnOk256 : FnOk Tryz.prog 256 (FI.of Tryz.f256) := FI.ok Tryz.func256 rfl Tryz.call256
theorem fnOk257 : FnOk Tryz.prog 257 (FI.of Tryz.f257) := FI.ok Tryz.func257 rfl Tryz.call257
theorem fnOk258 : FnOk Tryz.prog 258 (FI.of Tryz.f258) := FI.ok Tryz.func258 rfl Tryz.call258
theorem fnOk259 : FnOk Tryz.prog 259 (FI.of Tryz.f259) := FI.ok Tryz.func259 rfl Tryz.call259
theorem fnOk260 : FnOk Tryz.prog 260 (FI.of Tryz.f260) := FI.ok Tryz.func260 rfl Tryz.call260
theorem fnOk261 : FnOk Tryz.prog 261 (FI.of Tryz.f261) := FI.ok Tryz.func261 rfl Tryz.call261
theorem fnOk262 : FnOk Tryz.prog 262 (FI.of Tryz.f262) := FI.ok Tryz.func262 rfl Tryz.call262
theorem fnOk263 : FnOk Tryz.prog 263 (FI.of Tryz.f263) := FI.ok Tryz.func263 rfl Tryz.call263
theorem fnOk264 : FnOk Tryz.prog 264 (FI.of Tryz.f264) := FI.ok Tryz.func264 rfl Tryz.call264
theorem fnOk265 : FnOk Tryz.prog 265 (FI.of Tryz.f265) := FI.ok Tryz.func265 rfl Tryz.call265
theorem fnOk266 : FnOk Tryz.prog 266 (FI.of Tryz.f266) := FI.ok Tryz.func266 rfl Tryz.call266
theorem fnOk267 : FnOk Tryz.prog 267 (FI.of Tryz.f267) := FI.ok Tryz.func267 rfl Tryz.call267
theorem fnOk268 : FnOk Tryz.prog 268 (FI.of Tryz.f268) := FI.ok Tryz.func268 rfl Tryz.call268
theorem fnOk269 : FnOk Tryz.prog 269 (FI.of Tryz.f269) := FI.ok Tryz.func269 rfl Tryz.call269
theorem fnOk270 : FnOk Tryz.prog 270 (FI.of Tryz.f270) := FI.ok Tryz.func270 rfl Tryz.call270
theorem fnOk271 : FnOk Tryz.prog 271 (FI.of Tryz.f271) := FI.ok Tryz.func271 rfl Tryz.call271
theorem fnOk272 : FnOk Tryz.prog 272 (FI.of Tryz.f272) := FI.ok Tryz.func272 rfl Tryz.call272
theorem fnOk273 : FnOk Tryz.prog 273 (FI.of Tryz.f273) := FI.ok Tryz.func273 rfl Tryz.call273
theorem fnOk274 : FnOk Tryz.prog 274 (FI.of Tryz.f274) := FI.ok Tryz.func274 rfl Tryz.call274
theorem fnOk275 : FnOk Tryz.prog 275 (FI.of Tryz.f275) := FI.ok Tryz.func275 rfl Tryz.call275
theorem fnOk276 : FnOk Tryz.prog 276 (FI.of Tryz.f276) := FI.ok Tryz.func276 rfl Tryz.call276
theorem fnOk277 : FnOk Tryz.prog 277 (FI.of Tryz.f277) := FI.ok Tryz.func277 rfl Tryz.call277
theorem fnOk278 : FnOk Tryz.prog 278 (FI.of Tryz.f278) := FI.ok Tryz.func278 rfl Tryz.call278
theorem fnOk279 : FnOk Tryz.prog 279 (FI.of Tryz.f279) := FI.ok Tryz.func279 rfl Tryz.call279
theorem fnOk280 : FnOk Tryz.prog 280 (FI.of Tryz.f280) := FI.ok Tryz.func280 rfl Tryz.call280
theorem fnOk281 : FnOk Tryz.prog 281 (FI.of Tryz.f281) := FI.ok Tryz.func281 rfl Tryz.call281
theorem fnOk282 : FnOk Tryz.prog 282 (FI.of Tryz.f282) := FI.ok Tryz.func282 rfl Tryz.call282
theorem fnOk283 : FnOk Tryz.prog 283 (FI.of Tryz.f283) := FI.ok Tryz.func283 rfl Tryz.call283
theorem fnOk284 : FnOk Tryz.prog 284 (FI.of Tryz.f284) := FI.ok Tryz.func284 rfl Tryz.call284
theorem fnOk285 : FnOk Tryz.prog 285 (FI.of Tryz.f285) := FI.ok Tryz.func285 rfl Tryz.call285
theorem fnOk286 : FnOk Tryz.prog 286 (FI.of Tryz.f286) := FI.ok Tryz.func286 rfl Tryz.call286
theorem fnOk287 : FnOk Tryz.prog 287 (FI.of Tryz.f287) := FI.ok Tryz.func287 rfl Tryz.call287
theorem fnOk288 : FnOk Tryz.prog 288 (FI.of Tryz.f288) := FI.ok Tryz.func288 rfl Tryz.call288
theorem fnOk289 : FnOk Tryz.prog 289 (FI.of Tryz.f289) := FI.ok Tryz.func289 rfl Tryz.call289
theorem fnOk290 : FnOk Tryz.prog 290 (FI.of Tryz.f290) := FI.ok Tryz.func290 rfl Tryz.call290
theorem fnOk291 : FnOk Tryz.prog 291 (FI.of Tryz.f291) := FI.ok Tryz.func291 rfl Tryz.call291
theorem fnOk292 : FnOk Tryz.prog 292 (FI.of Tryz.f292) := FI.ok Tryz.func292 rfl Tryz.call292
theorem fnOk293 : FnOk Tryz.prog 293 (FI.of Tryz.f293) := FI.ok Tryz.func293 rfl Tryz.call293
theorem fnOk294 : FnOk Tryz.prog 294 (FI.of Tryz.f294) := FI.ok Tryz.func294 rfl Tryz.call294
theorem fnOk295 : FnOk Tryz.prog 295 (FI.of Tryz.f295) := FI.ok Tryz.func295 rfl Tryz.call295
theorem fnOk296 : FnOk Tryz.prog 296 (FI.of Tryz.f296) := FI.ok Tryz.func296 rfl Tryz.call296
theorem fnOk297 : FnOk Tryz.prog 297 (FI.of Tryz.f297) := FI.ok Tryz.func297 rfl Tryz.call297
theorem fnOk298 : FnOk Tryz.prog 298 (FI.of Tryz.f298) := FI.ok Tryz.func298 rfl Tryz.call298
theorem fnOk299 : FnOk Tryz.prog 299 (FI.of Tryz.f299) := FI.ok Tryz.func299 rfl Tryz.call299
theorem fnOk300 : FnOk Tryz.prog 300 (FI.of Tryz.f300) := FI.ok Tryz.func300 rfl Tryz.call300
theorem fnOk301 : FnOk Tryz.prog 301 (FI.of Tryz.f301) := FI.ok Tryz.func301 rfl Tryz.call301
theorem fnOk302 : FnOk Tryz.prog 302 (FI.of Tryz.f302) := FI.ok Tryz.func302 rfl Tryz.call302
theorem fnOk303 : FnOk Tryz.prog 303 (FI.of Tryz.f303) := FI.ok Tryz.func303 rfl Tryz.call303
theorem fnOk304 : FnOk Tryz.prog 304 (FI.of Tryz.f304) := FI.ok Tryz.func304 rfl Tryz.call304
theorem fnOk305 : FnOk Tryz.prog 305 (FI.of Tryz.f305) := FI.ok Tryz.func305 rfl Tryz.call305
theorem fnOk306 : FnOk Tryz.prog 306 (FI.of Tryz.f306) := FI.ok Tryz.func306 rfl Tryz.call306
theorem fnOk307 : FnOk Tryz.prog 307 (FI.of Tryz.f307) := FI.ok Tryz.func307 rfl Tryz.call307
theorem fnOk308 : FnOk Tryz.prog 308 (FI.of Tryz.f308) := FI.ok Tryz.func308 rfl Tryz.call308
theorem fnOk309 : FnOk Tryz.prog 309 (FI.of Tryz.f309) := FI.ok Tryz.func309 rfl Tryz.call309
theorem fnOk310 : FnOk Tryz.prog 310 (FI.of Tryz.f310) := FI.ok Tryz.func310 rfl Tryz.call310
theorem fnOk311 : FnOk Tryz.prog 311 (FI.of Tryz.f311) := FI.ok Tryz.func311 rfl Tryz.call311
theorem fnOk312 : FnOk Tryz.prog 312 (FI.of Tryz.f312) := FI.ok Tryz.func312 rfl Tryz.call312
theorem fnOk313 : FnOk Tryz.prog 313 (FI.of Tryz.f313) := FI.ok Tryz.func313 rfl Tryz.call313
theorem fnOk314 : FnOk Tryz.prog 314 (FI.of Tryz.f314) := FI.ok Tryz.func314 rfl Tryz.call314
theorem fnOk315 : FnOk Tryz.prog 315 (FI.of Tryz.f315) := FI.ok Tryz.func315 rfl Tryz.call315
theorem fnOk316 : FnOk Tryz.prog 316 (FI.of Tryz.f316) := FI.ok Tryz.func316 rfl Tryz.call316
theorem fnOk317 : FnOk Tryz.prog 317 (FI.of Tryz.f317) := FI.ok Tryz.func317 rfl Tryz.call317
theorem fnOk318 : FnOk Tryz.prog 318 (FI.of Tryz.f318) := FI.ok Tryz.func318 rfl Tryz.call318
theorem fnOk319 : FnOk Tryz.prog 319 (FI.of Tryz.f319) := FI.ok Tryz.func319 rfl Tryz.call319
theorem fnOk320 : FnOk Tryz.prog 320 (FI.of Tryz.f320) := FI.ok Tryz.func320 rfl Tryz.call320
theorem fnOk321 : FnOk Tryz.prog 321 (FI.of Tryz.f321) := FI.ok Tryz.func321 rfl Tryz.call321
theorem fnOk322 : FnOk Tryz.prog 322 (FI.of Tryz.f322) := FI.ok Tryz.func322 rfl Tryz.call322
theorem fnOk323 : FnOk Tryz.prog 323 (FI.of Tryz.f323) := FI.ok Tryz.func323 rfl Tryz.call323
theorem fnOk324 : FnOk Tryz.prog 324 (FI.of Tryz.f324) := FI.ok Tryz.func324 rfl Tryz.call324
theorem fnOk325 : FnOk Tryz.prog 325 (FI.of Tryz.f325) := FI.ok Tryz.func325 rfl Tryz.call325
theorem fnOk326 : FnOk Tryz.prog 326 (FI.of Tryz.f326) := FI.ok Tryz.func326 rfl Tryz.call326
theorem fnOk327 : FnOk Tryz.prog 327 (FI.of Tryz.f327) := FI.ok Tryz.func327 rfl Tryz.call327
theorem fnOk328 : FnOk Tryz.prog 328 (FI.of Tryz.f328) := FI.ok Tryz.func328 rfl Tryz.call328
theorem fnOk329 : FnOk Tryz.prog 329 (FI.of Tryz.f329) := FI.ok Tryz.func329 rfl Tryz.call329
theorem fnOk330 : FnOk Tryz.prog 330 (FI.of Tryz.f330) := FI.ok Tryz.func330 rfl Tryz.call330
theorem fnOk331 : FnOk Tryz.prog 331 (FI.of Tryz.f331) := FI.ok Tryz.func331 rfl Tryz.call331
theorem fnOk332 : FnOk Tryz.prog 332 (FI.of Tryz.f332) := FI.ok Tryz.func332 rfl Tryz.call332
theorem fnOk333 : FnOk Tryz.prog 333 (FI.of Tryz.f333) := FI.ok Tryz.func333 rfl Tryz.call333
theorem fnOk334 : FnOk Tryz.prog 334 (FI.of Tryz.f334) := FI.ok Tryz.func334 rfl Tryz.call334
theorem fnOk335 : FnOk Tryz.prog 335 (FI.of Tryz.f335) := FI.ok Tryz.func335 rfl Tryz.call335
theorem fnOk336 : FnOk Tryz.prog 336 (FI.of Tryz.f336) := FI.ok Tryz.func336 rfl Tryz.call336
theorem fnOk337 : FnOk Tryz.prog 337 (FI.of Tryz.f337) := FI.ok Tryz.func337 rfl Tryz.call337
theorem fnOk338 : FnOk Tryz.prog 338 (FI.of Tryz.f338) := FI.ok Tryz.func338 rfl Tryz.call338
theorem fnOk339 : FnOk Tryz.prog 339 (FI.of Tryz.f339) := FI.ok Tryz.func339 rfl Tryz.call339
theorem fnOk341 : FnOk Tryz.prog 341 (FI.of Tryz.f341) := FI.ok Tryz.func341 rfl Tryz.call341
theorem fnOk342 : FnOk Tryz.prog 342 (FI.of Tryz.f342) := FI.ok Tryz.func342 rfl Tryz.call342
theorem fnOk343 : FnOk Tryz.prog 343 (FI.of Tryz.f343) := FI.ok Tryz.func343 rfl Tryz.call343
theorem fnOk344 : FnOk Tryz.prog 344 (FI.of Tryz.f344) := FI.ok Tryz.func344 rfl Tryz.call344
theorem fnOk345 : FnOk Tryz.prog 345 (FI.of Tryz.f345) := FI.ok Tryz.func345 rfl Tryz.call345
theorem fnOk376 : FnOk Tryz.prog 376 (FI.of Tryz.f376) := FI.ok Tryz.func376 rfl Tryz.call376
set_option maxRecDepth 100000 in
theorem tyAll : Tr.All (TyOk Tryz.prog) tyTab (fun j => j) :=
  ⟨tyOk0, ⟨tyOk1, ⟨tyOk3, ⟨tyOk7, ⟨tyOk15, ⟨tyOk31, ⟨tyOk63, ⟨tyOk127, ⟨tyOk255, trivial, trivial⟩, ⟨tyOk383, trivial, trivial⟩⟩, ⟨tyOk191, ⟨tyOk319, trivial, trivial⟩, trivial⟩⟩, ⟨tyOk95, ⟨tyOk159, ⟨tyOk287, 
  trivial, trivial⟩, ⟨tyOk415, trivial, trivial⟩⟩, ⟨tyOk223, ⟨tyOk351, trivial, trivial⟩, trivial⟩⟩⟩, ⟨tyOk47, ⟨tyOk79, ⟨tyOk143, ⟨tyOk271, trivial, trivial⟩, ⟨tyOk399, trivial, trivial⟩⟩, ⟨tyOk207, ⟨tyOk335, 
  trivial, trivial⟩, trivial⟩⟩, ⟨tyOk111, ⟨tyOk175, ⟨tyOk303, trivial, trivial⟩, trivial⟩, ⟨tyOk239, ⟨tyOk367, trivial, trivial⟩, trivial⟩⟩⟩⟩, ⟨tyOk23, ⟨tyOk39, ⟨tyOk71, ⟨tyOk135, ⟨tyOk263, trivial, trivial⟩, 
  ⟨tyOk391, trivial, trivial⟩⟩, ⟨tyOk199, ⟨tyOk327, trivial, trivial⟩, trivial⟩⟩, ⟨tyOk103, ⟨tyOk167, ⟨tyOk295, trivial, trivial⟩, trivial⟩, ⟨tyOk231, ⟨tyOk359, trivial, trivial⟩, trivial⟩⟩⟩, ⟨tyOk55, ⟨tyOk87, 
  ⟨tyOk151, ⟨tyOk279, trivial, trivial⟩, ⟨tyOk407, trivial, trivial⟩⟩, ⟨tyOk215, ⟨tyOk343, trivial, trivial⟩, trivial⟩⟩, ⟨tyOk119, ⟨tyOk183, ⟨tyOk311, trivial, trivial⟩, trivial⟩, ⟨tyOk247, ⟨tyOk375, trivial, 
  trivial⟩, trivial⟩⟩⟩⟩⟩, ⟨tyOk11, ⟨tyOk19, ⟨tyOk35, ⟨tyOk67, ⟨tyOk131, ⟨tyOk259, trivial, trivial⟩, ⟨tyOk387, trivial, trivial⟩⟩, ⟨tyOk195, ⟨tyOk323, trivial, trivial⟩, trivial⟩⟩, ⟨tyOk99, ⟨tyOk163, ⟨tyOk291, 
  trivial, trivial⟩, ⟨tyOk419, trivial, trivial⟩⟩, ⟨tyOk227, ⟨tyOk355, trivial, trivial⟩, trivial⟩⟩⟩, ⟨tyOk51, ⟨tyOk83, ⟨tyOk147, ⟨tyOk275, trivial, trivial⟩, ⟨tyOk403, trivial, trivial⟩⟩, ⟨tyOk211, ⟨tyOk339, 
  trivial, trivial⟩, trivial⟩⟩, ⟨tyOk115, ⟨tyOk179, ⟨tyOk307, trivial, trivial⟩, trivial⟩, ⟨tyOk243, ⟨tyOk371, trivial, trivial⟩, trivial⟩⟩⟩⟩, ⟨tyOk27, ⟨tyOk43, ⟨tyOk75, ⟨tyOk139, ⟨tyOk267, trivial, trivial⟩, 
  ⟨tyOk395, trivial, trivial⟩⟩, ⟨tyOk203, ⟨tyOk331, trivial, trivial⟩, trivial⟩⟩, ⟨tyOk107, ⟨tyOk171, ⟨tyOk299, trivial, trivial⟩, trivial⟩, ⟨tyOk235, ⟨tyOk363, trivial, trivial⟩, trivial⟩⟩⟩, ⟨tyOk59, ⟨tyOk91, 
  ⟨tyOk155, ⟨tyOk283, trivial, trivial⟩, ⟨tyOk411, trivial, trivial⟩⟩, ⟨tyOk219, ⟨tyOk347, trivial, trivial⟩, trivial⟩⟩, ⟨tyOk123, ⟨tyOk187, ⟨tyOk315, trivial, trivial⟩, trivial⟩, ⟨tyOk251, ⟨tyOk379, trivial, 
  trivial⟩, trivial⟩⟩⟩⟩⟩⟩, ⟨tyOk5, ⟨tyOk9, ⟨tyOk17, ⟨tyOk33, ⟨tyOk65, ⟨tyOk129, ⟨tyOk257, trivial, trivial⟩, ⟨tyOk385, trivial, trivial⟩⟩, ⟨tyOk193, ⟨tyOk321, trivial, trivial⟩, trivial⟩⟩, ⟨tyOk97, ⟨tyOk161, 
  ⟨tyOk289, trivial, trivial⟩, ⟨tyOk417, trivial, trivial⟩⟩, ⟨tyOk225, ⟨tyOk353, trivial, trivial⟩, trivial⟩⟩⟩, ⟨tyOk49, ⟨tyOk81, ⟨tyOk145, ⟨tyOk273, trivial, trivial⟩, ⟨tyOk401, trivial, trivial⟩⟩, ⟨tyOk209, 
  ⟨tyOk337, trivial, trivial⟩, trivial⟩⟩, ⟨tyOk113, ⟨tyOk177, ⟨tyOk305, trivial, trivial⟩, trivial⟩, ⟨tyOk241, ⟨tyOk369, trivial, trivial⟩, trivial⟩⟩⟩⟩, ⟨tyOk25, ⟨tyOk41, ⟨tyOk73, ⟨tyOk137, ⟨tyOk265, trivial, 
  trivial⟩, ⟨tyOk393, trivial, trivial⟩⟩, ⟨tyOk201, ⟨tyOk329, trivial, trivial⟩, trivial⟩⟩, ⟨tyOk105, ⟨tyOk169, ⟨tyOk297, trivial, trivial⟩, trivial⟩, ⟨tyOk233, ⟨tyOk361, trivial, trivial⟩, trivial⟩⟩⟩, ⟨tyOk57, 
  ⟨tyOk89, ⟨tyOk153, ⟨tyOk281, trivial, trivial⟩, ⟨tyOk409, trivial, trivial⟩⟩, ⟨tyOk217, ⟨tyOk345, trivial, trivial⟩, trivial⟩⟩, ⟨tyOk121, ⟨tyOk185, ⟨tyOk313, trivial, trivial⟩, trivial⟩, ⟨tyOk249, ⟨tyOk377, 
  trivial, trivial⟩, trivial⟩⟩⟩⟩⟩, ⟨tyOk13, ⟨tyOk21, ⟨tyOk37, ⟨tyOk69, ⟨tyOk133, ⟨tyOk261, trivial, trivial⟩, ⟨tyOk389, trivial, trivial⟩⟩, ⟨tyOk197, ⟨tyOk325, trivial, trivial⟩, trivial⟩⟩, ⟨tyOk101, ⟨tyOk165, 
  ⟨tyOk293, trivial, trivial⟩, ⟨tyOk421, trivial, trivial⟩⟩, ⟨tyOk229, ⟨tyOk357, trivial, trivial⟩, trivial⟩⟩⟩, ⟨tyOk53, ⟨tyOk85, ⟨tyOk149, ⟨tyOk277, trivial, trivial⟩, ⟨tyOk405, trivial, trivial⟩⟩, ⟨tyOk213, 
  ⟨tyOk341, trivial, trivial⟩, trivial⟩⟩, ⟨tyOk117, ⟨tyOk181, ⟨tyOk309, trivial, trivial⟩, trivial⟩, ⟨tyOk245, ⟨tyOk373, trivial, trivial⟩, trivial⟩⟩⟩⟩, ⟨tyOk29, ⟨tyOk45, ⟨tyOk77, ⟨tyOk141, ⟨tyOk269, trivial, 
  trivial⟩, ⟨tyOk397, trivial, trivial⟩⟩, ⟨tyOk205, ⟨tyOk333, trivial, trivial⟩, trivial⟩⟩, ⟨tyOk109, ⟨tyOk173, ⟨tyOk301, trivial, trivial⟩, trivial⟩, ⟨tyOk237, ⟨tyOk365, trivial, trivial⟩, trivial⟩⟩⟩, ⟨tyOk61, 
  ⟨tyOk93, ⟨tyOk157, ⟨tyOk285, trivial, trivial⟩, ⟨tyOk413, trivial, trivial⟩⟩, ⟨tyOk221, ⟨tyOk349, trivial, trivial⟩, trivial⟩⟩, ⟨tyOk125, ⟨tyOk189, ⟨tyOk317, trivial, trivial⟩, trivial⟩, ⟨tyOk253, ⟨tyOk381, 
  trivial, trivial⟩, trivial⟩⟩⟩⟩⟩⟩⟩, ⟨tyOk2, ⟨tyOk4, ⟨tyOk8, ⟨tyOk16, ⟨tyOk32, ⟨tyOk64, ⟨tyOk128, ⟨tyOk256, trivial, trivial⟩, ⟨tyOk384, trivial, trivial⟩⟩, ⟨tyOk192, ⟨tyOk320, trivial, trivial⟩, trivial⟩⟩, 
  ⟨tyOk96, ⟨tyOk160, ⟨tyOk288, trivial, trivial⟩, ⟨tyOk416, trivial, trivial⟩⟩, ⟨tyOk224, ⟨tyOk352, trivial, trivial⟩, trivial⟩⟩⟩, ⟨tyOk48, ⟨tyOk80, ⟨tyOk144, ⟨tyOk272, trivial, trivial⟩, ⟨tyOk400, trivial, 
  trivial⟩⟩, ⟨tyOk208, ⟨tyOk336, trivial, trivial⟩, trivial⟩⟩, ⟨tyOk112, ⟨tyOk176, ⟨tyOk304, trivial, trivial⟩, trivial⟩, ⟨tyOk240, ⟨tyOk368, trivial, trivial⟩, trivial⟩⟩⟩⟩, ⟨tyOk24, ⟨tyOk40, ⟨tyOk72, ⟨tyOk136, 
  ⟨tyOk264, trivial, trivial⟩, ⟨tyOk392, trivial, trivial⟩⟩, ⟨tyOk200, ⟨tyOk328, trivial, trivial⟩, trivial⟩⟩, ⟨tyOk104, ⟨tyOk168, ⟨tyOk296, trivial, trivial⟩, trivial⟩, ⟨tyOk232, ⟨tyOk360, trivial, trivial⟩, 
  trivial⟩⟩⟩, ⟨tyOk56, ⟨tyOk88, ⟨tyOk152, ⟨tyOk280, trivial, trivial⟩, ⟨tyOk408, trivial, trivial⟩⟩, ⟨tyOk216, ⟨tyOk344, trivial, trivial⟩, trivial⟩⟩, ⟨tyOk120, ⟨tyOk184, ⟨tyOk312, trivial, trivial⟩, trivial⟩, 
  ⟨tyOk248, ⟨tyOk376, trivial, trivial⟩, trivial⟩⟩⟩⟩⟩, ⟨tyOk12, ⟨tyOk20, ⟨tyOk36, ⟨tyOk68, ⟨tyOk132, ⟨tyOk260, trivial, trivial⟩, ⟨tyOk388, trivial, trivial⟩⟩, ⟨tyOk196, ⟨tyOk324, trivial, trivial⟩, trivial⟩⟩, 
  ⟨tyOk100, ⟨tyOk164, ⟨tyOk292, trivial, trivial⟩, ⟨tyOk420, trivial, trivial⟩⟩, ⟨tyOk228, ⟨tyOk356, trivial, trivial⟩, trivial⟩⟩⟩, ⟨tyOk52, ⟨tyOk84, ⟨tyOk148, ⟨tyOk276, trivial, trivial⟩, ⟨tyOk404, trivial, 
  trivial⟩⟩, ⟨tyOk212, ⟨tyOk340, trivial, trivial⟩, trivial⟩⟩, ⟨tyOk116, ⟨tyOk180, ⟨tyOk308, trivial, trivial⟩, trivial⟩, ⟨tyOk244, ⟨tyOk372, trivial, trivial⟩, trivial⟩⟩⟩⟩, ⟨tyOk28, ⟨tyOk44, ⟨tyOk76, ⟨tyOk140, 
  ⟨tyOk268, trivial, trivial⟩, ⟨tyOk396, trivial, trivial⟩⟩, ⟨tyOk204, ⟨tyOk332, trivial, trivial⟩, trivial⟩⟩, ⟨tyOk108, ⟨tyOk172, ⟨tyOk300, trivial, trivial⟩, trivial⟩, ⟨tyOk236, ⟨tyOk364, trivial, trivial⟩, 
  trivial⟩⟩⟩, ⟨tyOk60, ⟨tyOk92, ⟨tyOk156, ⟨tyOk284, trivial, trivial⟩, ⟨tyOk412, trivial, trivial⟩⟩, ⟨tyOk220, ⟨tyOk348, trivial, trivial⟩, trivial⟩⟩, ⟨tyOk124, ⟨tyOk188, ⟨tyOk316, trivial, trivial⟩, trivial⟩, 
  ⟨tyOk252, ⟨tyOk380, trivial, trivial⟩, trivial⟩⟩⟩⟩⟩⟩, ⟨tyOk6, ⟨tyOk10, ⟨tyOk18, ⟨tyOk34, ⟨tyOk66, ⟨tyOk130, ⟨tyOk258, trivial, trivial⟩, ⟨tyOk386, trivial, trivial⟩⟩, ⟨tyOk194, ⟨tyOk322, trivial, trivial⟩, 
  trivial⟩⟩, ⟨tyOk98, ⟨tyOk162, ⟨tyOk290, trivial, trivial⟩, ⟨tyOk418, trivial, trivial⟩⟩, ⟨tyOk226, ⟨tyOk354, trivial, trivial⟩, trivial⟩⟩⟩, ⟨tyOk50, ⟨tyOk82, ⟨tyOk146, ⟨tyOk274, trivial, trivial⟩, ⟨tyOk402, 
  trivial, trivial⟩⟩, ⟨tyOk210, ⟨tyOk338, trivial, trivial⟩, trivial⟩⟩, ⟨tyOk114, ⟨tyOk178, ⟨tyOk306, trivial, trivial⟩, trivial⟩, ⟨tyOk242, ⟨tyOk370, trivial, trivial⟩, trivial⟩⟩⟩⟩, ⟨tyOk26, ⟨tyOk42, ⟨tyOk74, 
  ⟨tyOk138, ⟨tyOk266, trivial, trivial⟩, ⟨tyOk394, trivial, trivial⟩⟩, ⟨tyOk202, ⟨tyOk330, trivial, trivial⟩, trivial⟩⟩, ⟨tyOk106, ⟨tyOk170, ⟨tyOk298, trivial, trivial⟩, trivial⟩, ⟨tyOk234, ⟨tyOk362, trivial, 
  trivial⟩, trivial⟩⟩⟩, ⟨tyOk58, ⟨tyOk90, ⟨tyOk154, ⟨tyOk282, trivial, trivial⟩, ⟨tyOk410, trivial, trivial⟩⟩, ⟨tyOk218, ⟨tyOk346, trivial, trivial⟩, trivial⟩⟩, ⟨tyOk122, ⟨tyOk186, ⟨tyOk314, trivial, trivial⟩, 
  trivial⟩, ⟨tyOk250, ⟨tyOk378, trivial, trivial⟩, trivial⟩⟩⟩⟩⟩, ⟨tyOk14, ⟨tyOk22, ⟨tyOk38, ⟨tyOk70, ⟨tyOk134, ⟨tyOk262, trivial, trivial⟩, ⟨tyOk390, trivial, trivial⟩⟩, ⟨tyOk198, ⟨tyOk326, trivial, trivial⟩, 
  trivial⟩⟩, ⟨tyOk102, ⟨tyOk166, ⟨tyOk294, trivial, trivial⟩, ⟨tyOk422, trivial, trivial⟩⟩, ⟨tyOk230, ⟨tyOk358, trivial, trivial⟩, trivial⟩⟩⟩, ⟨tyOk54, ⟨tyOk86, ⟨tyOk150, ⟨tyOk278, trivial, trivial⟩, ⟨tyOk406, 
  trivial, trivial⟩⟩, ⟨tyOk214, ⟨tyOk342, trivial, trivial⟩, trivial⟩⟩, ⟨tyOk118, ⟨tyOk182, ⟨tyOk310, trivial, trivial⟩, trivial⟩, ⟨tyOk246, ⟨tyOk374, trivial, trivial⟩, trivial⟩⟩⟩⟩, ⟨tyOk30, ⟨tyOk46, ⟨tyOk78, 
  ⟨tyOk142, ⟨tyOk270, trivial, trivial⟩, ⟨tyOk398, trivial, trivial⟩⟩, ⟨tyOk206, ⟨tyOk334, trivial, trivial⟩, trivial⟩⟩, ⟨tyOk110, ⟨tyOk174, ⟨tyOk302, trivial, trivial⟩, trivial⟩, ⟨tyOk238, ⟨tyOk366, trivial, 
  trivial⟩, trivial⟩⟩⟩, ⟨tyOk62, ⟨tyOk94, ⟨tyOk158, ⟨tyOk286, trivial, trivial⟩, ⟨tyOk414, trivial, trivial⟩⟩, ⟨tyOk222, ⟨tyOk350, trivial, trivial⟩, trivial⟩⟩, ⟨tyOk126, ⟨tyOk190, ⟨tyOk318, trivial, trivial⟩, 
  trivial⟩, ⟨tyOk254, ⟨tyOk382, trivial, trivial⟩, trivial⟩⟩⟩⟩⟩⟩⟩⟩
set_option maxRecDepth 100000 in
theorem fnAll : Tr.All (FnOk Tryz.prog) fnTab (fun j => j) :=
  ⟨trivial, ⟨trivial, ⟨fnOk3, ⟨fnOk7, ⟨fnOk15, ⟨fnOk31, ⟨fnOk63, ⟨fnOk127, ⟨fnOk255, trivial, trivial⟩, trivial⟩, ⟨fnOk191, ⟨fnOk319, trivial, trivial⟩, trivial⟩⟩, ⟨fnOk95, ⟨fnOk159, ⟨fnOk287, trivial, trivial⟩, 
  trivial⟩, ⟨fnOk223, trivial, trivial⟩⟩⟩, ⟨fnOk47, ⟨fnOk79, ⟨fnOk143, ⟨fnOk271, trivial, trivial⟩, trivial⟩, ⟨fnOk207, ⟨fnOk335, trivial, trivial⟩, trivial⟩⟩, ⟨fnOk111, ⟨fnOk175, ⟨fnOk303, trivial, trivial⟩, 
  trivial⟩, ⟨fnOk239, trivial, trivial⟩⟩⟩⟩, ⟨fnOk23, ⟨fnOk39, ⟨fnOk71, ⟨fnOk135, ⟨fnOk263, trivial, trivial⟩, trivial⟩, ⟨fnOk199, ⟨fnOk327, trivial, trivial⟩, trivial⟩⟩, ⟨fnOk103, ⟨fnOk167, ⟨fnOk295, trivial, 
  trivial⟩, trivial⟩, ⟨fnOk231, trivial, trivial⟩⟩⟩, ⟨fnOk55, ⟨fnOk87, ⟨fnOk151, ⟨fnOk279, trivial, trivial⟩, trivial⟩, ⟨fnOk215, ⟨fnOk343, trivial, trivial⟩, trivial⟩⟩, ⟨fnOk119, ⟨fnOk183, ⟨fnOk311, trivial, 
  trivial⟩, trivial⟩, ⟨fnOk247, trivial, trivial⟩⟩⟩⟩⟩, ⟨fnOk11, ⟨fnOk19, ⟨fnOk35, ⟨fnOk67, ⟨fnOk131, ⟨fnOk259, trivial, trivial⟩, trivial⟩, ⟨fnOk195, ⟨fnOk323, trivial, trivial⟩, trivial⟩⟩, ⟨fnOk99, ⟨fnOk163, 
  ⟨fnOk291, trivial, trivial⟩, trivial⟩, ⟨fnOk227, trivial, trivial⟩⟩⟩, ⟨fnOk51, ⟨fnOk83, ⟨fnOk147, ⟨fnOk275, trivial, trivial⟩, trivial⟩, ⟨fnOk211, ⟨fnOk339, trivial, trivial⟩, trivial⟩⟩, ⟨fnOk115, ⟨fnOk179, 
  ⟨fnOk307, trivial, trivial⟩, trivial⟩, ⟨fnOk243, trivial, trivial⟩⟩⟩⟩, ⟨fnOk27, ⟨fnOk43, ⟨fnOk75, ⟨fnOk139, ⟨fnOk267, trivial, trivial⟩, trivial⟩, ⟨fnOk203, ⟨fnOk331, trivial, trivial⟩, trivial⟩⟩, ⟨fnOk107, 
  ⟨fnOk171, ⟨fnOk299, trivial, trivial⟩, trivial⟩, ⟨fnOk235, trivial, trivial⟩⟩⟩, ⟨trivial, ⟨fnOk91, ⟨fnOk155, ⟨fnOk283, trivial, trivial⟩, trivial⟩, ⟨fnOk219, trivial, trivial⟩⟩, ⟨fnOk123, ⟨fnOk187, ⟨fnOk315, 
  trivial, trivial⟩, trivial⟩, ⟨fnOk251, trivial, trivial⟩⟩⟩⟩⟩⟩, ⟨fnOk5, ⟨fnOk9, ⟨fnOk17, ⟨fnOk33, ⟨fnOk65, ⟨fnOk129, ⟨fnOk257, trivial, trivial⟩, trivial⟩, ⟨fnOk193, ⟨fnOk321, trivial, trivial⟩, trivial⟩⟩, 
  ⟨fnOk97, ⟨fnOk161, ⟨fnOk289, trivial, trivial⟩, trivial⟩, ⟨fnOk225, trivial, trivial⟩⟩⟩, ⟨fnOk49, ⟨fnOk81, ⟨fnOk145, ⟨fnOk273, trivial, trivial⟩, trivial⟩, ⟨fnOk209, ⟨fnOk337, trivial, trivial⟩, trivial⟩⟩, 
  ⟨fnOk113, ⟨fnOk177, ⟨fnOk305, trivial, trivial⟩, trivial⟩, ⟨fnOk241, trivial, trivial⟩⟩⟩⟩, ⟨fnOk25, ⟨fnOk41, ⟨fnOk73, ⟨fnOk137, ⟨fnOk265, trivial, trivial⟩, trivial⟩, ⟨fnOk201, ⟨fnOk329, trivial, trivial⟩, 
  trivial⟩⟩, ⟨fnOk105, ⟨fnOk169, ⟨fnOk297, trivial, trivial⟩, trivial⟩, ⟨fnOk233, trivial, trivial⟩⟩⟩, ⟨fnOk57, ⟨fnOk89, ⟨fnOk153, ⟨fnOk281, trivial, trivial⟩, trivial⟩, ⟨fnOk217, ⟨fnOk345, trivial, trivial⟩, 
  trivial⟩⟩, ⟨fnOk121, ⟨fnOk185, ⟨fnOk313, trivial, trivial⟩, trivial⟩, ⟨fnOk249, trivial, trivial⟩⟩⟩⟩⟩, ⟨fnOk13, ⟨fnOk21, ⟨fnOk37, ⟨fnOk69, ⟨fnOk133, ⟨fnOk261, trivial, trivial⟩, trivial⟩, ⟨fnOk197, ⟨fnOk325, 
  trivial, trivial⟩, trivial⟩⟩, ⟨fnOk101, ⟨fnOk165, ⟨fnOk293, trivial, trivial⟩, trivial⟩, ⟨fnOk229, trivial, trivial⟩⟩⟩, ⟨fnOk53, ⟨fnOk85, ⟨fnOk149, ⟨fnOk277, trivial, trivial⟩, trivial⟩, ⟨fnOk213, ⟨fnOk341, 
  trivial, trivial⟩, trivial⟩⟩, ⟨fnOk117, ⟨fnOk181, ⟨fnOk309, trivial, trivial⟩, trivial⟩, ⟨fnOk245, trivial, trivial⟩⟩⟩⟩, ⟨fnOk29, ⟨fnOk45, ⟨fnOk77, ⟨fnOk141, ⟨fnOk269, trivial, trivial⟩, trivial⟩, ⟨fnOk205, 
  ⟨fnOk333, trivial, trivial⟩, trivial⟩⟩, ⟨fnOk109, ⟨fnOk173, ⟨fnOk301, trivial, trivial⟩, trivial⟩, ⟨fnOk237, trivial, trivial⟩⟩⟩, ⟨fnOk61, ⟨fnOk93, ⟨fnOk157, ⟨fnOk285, trivial, trivial⟩, trivial⟩, ⟨fnOk221, 
  trivial, trivial⟩⟩, ⟨fnOk125, ⟨fnOk189, ⟨fnOk317, trivial, trivial⟩, trivial⟩, ⟨fnOk253, trivial, trivial⟩⟩⟩⟩⟩⟩⟩, ⟨fnOk2, ⟨fnOk4, ⟨fnOk8, ⟨fnOk16, ⟨fnOk32, ⟨fnOk64, ⟨fnOk128, ⟨fnOk256, trivial, trivial⟩, 
  trivial⟩, ⟨fnOk192, ⟨fnOk320, trivial, trivial⟩, trivial⟩⟩, ⟨fnOk96, ⟨fnOk160, ⟨fnOk288, trivial, trivial⟩, trivial⟩, ⟨fnOk224, trivial, trivial⟩⟩⟩, ⟨fnOk48, ⟨fnOk80, ⟨fnOk144, ⟨fnOk272, trivial, trivial⟩, 
  trivial⟩, ⟨fnOk208, ⟨fnOk336, trivial, trivial⟩, trivial⟩⟩, ⟨fnOk112, ⟨fnOk176, ⟨fnOk304, trivial, trivial⟩, trivial⟩, ⟨fnOk240, trivial, trivial⟩⟩⟩⟩, ⟨fnOk24, ⟨fnOk40, ⟨fnOk72, ⟨fnOk136, ⟨fnOk264, trivial, 
  trivial⟩, trivial⟩, ⟨fnOk200, ⟨fnOk328, trivial, trivial⟩, trivial⟩⟩, ⟨fnOk104, ⟨fnOk168, ⟨fnOk296, trivial, trivial⟩, trivial⟩, ⟨fnOk232, trivial, trivial⟩⟩⟩, ⟨fnOk56, ⟨fnOk88, ⟨fnOk152, ⟨fnOk280, trivial, 
  trivial⟩, trivial⟩, ⟨fnOk216, ⟨fnOk344, trivial, trivial⟩, trivial⟩⟩, ⟨fnOk120, ⟨fnOk184, ⟨fnOk312, trivial, trivial⟩, trivial⟩, ⟨fnOk248, ⟨fnOk376, trivial, trivial⟩, trivial⟩⟩⟩⟩⟩, ⟨fnOk12, ⟨fnOk20, ⟨fnOk36, 
  ⟨fnOk68, ⟨fnOk132, ⟨fnOk260, trivial, trivial⟩, trivial⟩, ⟨fnOk196, ⟨fnOk324, trivial, trivial⟩, trivial⟩⟩, ⟨fnOk100, ⟨fnOk164, ⟨fnOk292, trivial, trivial⟩, trivial⟩, ⟨fnOk228, trivial, trivial⟩⟩⟩, ⟨fnOk52, 
  ⟨fnOk84, ⟨fnOk148, ⟨fnOk276, trivial, trivial⟩, trivial⟩, ⟨fnOk212, trivial, trivial⟩⟩, ⟨fnOk116, ⟨fnOk180, ⟨fnOk308, trivial, trivial⟩, trivial⟩, ⟨fnOk244, trivial, trivial⟩⟩⟩⟩, ⟨fnOk28, ⟨fnOk44, ⟨fnOk76, 
  ⟨fnOk140, ⟨fnOk268, trivial, trivial⟩, trivial⟩, ⟨fnOk204, ⟨fnOk332, trivial, trivial⟩, trivial⟩⟩, ⟨fnOk108, ⟨fnOk172, ⟨fnOk300, trivial, trivial⟩, trivial⟩, ⟨fnOk236, trivial, trivial⟩⟩⟩, ⟨fnOk60, ⟨fnOk92, 
  ⟨fnOk156, ⟨fnOk284, trivial, trivial⟩, trivial⟩, ⟨fnOk220, trivial, trivial⟩⟩, ⟨fnOk124, ⟨fnOk188, ⟨fnOk316, trivial, trivial⟩, trivial⟩, ⟨fnOk252, trivial, trivial⟩⟩⟩⟩⟩⟩, ⟨fnOk6, ⟨fnOk10, ⟨fnOk18, ⟨fnOk34, 
  ⟨fnOk66, ⟨fnOk130, ⟨fnOk258, trivial, trivial⟩, trivial⟩, ⟨fnOk194, ⟨fnOk322, trivial, trivial⟩, trivial⟩⟩, ⟨fnOk98, ⟨fnOk162, ⟨fnOk290, trivial, trivial⟩, trivial⟩, ⟨fnOk226, trivial, trivial⟩⟩⟩, ⟨fnOk50, 
  ⟨fnOk82, ⟨fnOk146, ⟨fnOk274, trivial, trivial⟩, trivial⟩, ⟨fnOk210, ⟨fnOk338, trivial, trivial⟩, trivial⟩⟩, ⟨fnOk114, ⟨fnOk178, ⟨fnOk306, trivial, trivial⟩, trivial⟩, ⟨fnOk242, trivial, trivial⟩⟩⟩⟩, ⟨fnOk26, 
  ⟨fnOk42, ⟨fnOk74, ⟨fnOk138, ⟨fnOk266, trivial, trivial⟩, trivial⟩, ⟨fnOk202, ⟨fnOk330, trivial, trivial⟩, trivial⟩⟩, ⟨fnOk106, ⟨fnOk170, ⟨fnOk298, trivial, trivial⟩, trivial⟩, ⟨fnOk234, trivial, trivial⟩⟩⟩, 
  ⟨fnOk58, ⟨fnOk90, ⟨fnOk154, ⟨fnOk282, trivial, trivial⟩, trivial⟩, ⟨fnOk218, trivial, trivial⟩⟩, ⟨fnOk122, ⟨fnOk186, ⟨fnOk314, trivial, trivial⟩, trivial⟩, ⟨fnOk250, trivial, trivial⟩⟩⟩⟩⟩, ⟨fnOk14, ⟨fnOk22, 
  ⟨fnOk38, ⟨fnOk70, ⟨fnOk134, ⟨fnOk262, trivial, trivial⟩, trivial⟩, ⟨fnOk198, ⟨fnOk326, trivial, trivial⟩, trivial⟩⟩, ⟨fnOk102, ⟨fnOk166, ⟨fnOk294, trivial, trivial⟩, trivial⟩, ⟨fnOk230, trivial, trivial⟩⟩⟩, 
  ⟨fnOk54, ⟨fnOk86, ⟨fnOk150, ⟨fnOk278, trivial, trivial⟩, trivial⟩, ⟨fnOk214, ⟨fnOk342, trivial, trivial⟩, trivial⟩⟩, ⟨fnOk118, ⟨fnOk182, ⟨fnOk310, trivial, trivial⟩, trivial⟩, ⟨fnOk246, trivial, trivial⟩⟩⟩⟩, 
  ⟨fnOk30, ⟨fnOk46, ⟨fnOk78, ⟨fnOk142, ⟨fnOk270, trivial, trivial⟩, trivial⟩, ⟨fnOk206, ⟨fnOk334, trivial, trivial⟩, trivial⟩⟩, ⟨fnOk110, ⟨fnOk174, ⟨fnOk302, trivial, trivial⟩, trivial⟩, ⟨fnOk238, trivial, 
  trivial⟩⟩⟩, ⟨fnOk62, ⟨fnOk94, ⟨fnOk158, ⟨fnOk286, trivial, trivial⟩, trivial⟩, ⟨fnOk222, trivial, trivial⟩⟩, ⟨fnOk126, ⟨fnOk190, ⟨fnOk318, trivial, trivial⟩, trivial⟩, ⟨fnOk254, trivial, trivial⟩⟩⟩⟩⟩⟩⟩⟩
def LAll (p : Nat → Prop) : List Nat → Prop
  | [] => True
  | x :: l => p x ∧ LAll p l
theorem LAll_mem {p : Nat → Prop} : ∀ {l : List Nat} {t : Nat}, LAll p l → memN l t = true → p t := by
  intro l
  induction l with
  | nil => intro t _ h; simp [memN] at h
  | cons x l ih =>
    intro t h hm
    simp only [memN, nbeq, Bool.or_eq_true, decide_eq_true_eq] at hm
    rcases hm with rfl | hm
    · exact h.1
    · exact ih h.2 hm
theorem eqAll : LAll (fun t => Tryz.prog.stoodInHeld t = false ∧ Tryz.prog.eqGuardType Tryz.prog.depth t = false) eqTab :=
  ⟨⟨Tryz.stoodInHeld7, Tryz.eqGuardType7⟩, ⟨Tryz.stoodInHeld8, Tryz.eqGuardType8⟩, ⟨Tryz.stoodInHeld23, Tryz.eqGuardType23⟩, ⟨Tryz.stoodInHeld24, Tryz.eqGuardType24⟩, ⟨Tryz.stoodInHeld25, Tryz.eqGuardType25⟩, ⟨Tryz.stoodInHeld26, Tryz.eqGuardType26⟩, ⟨Tryz.stoodInHeld28, Tryz.eqGuardType28⟩, ⟨Tryz.stoodInHeld29, Tryz.eqGuardType29⟩, ⟨Tryz.stoodInHeld38, Tryz.eqGuardType38⟩, ⟨Tryz.stoodInHeld39, Tryz.eqGuardType39⟩, ⟨Tryz.stoodInHeld40, Tryz.eqGuardType40⟩, ⟨Tryz.stoodInHeld41, Tryz.eqGuardType41⟩, ⟨Tryz.stoodInHeld43, Tryz.eqGuardType43⟩, ⟨Tryz.stoodInHeld44, Tryz.eqGuardType44⟩, ⟨Tryz.stoodInHeld45, Tryz.eqGuardType45⟩, ⟨Tryz.stoodInHeld46, Tryz.eqGuardType46⟩, ⟨Tryz.stoodInHeld47, Tryz.eqGuardType47⟩, ⟨Tryz.stoodInHeld48, Tryz.eqGuardType48⟩, ⟨Tryz.stoodInHeld49, Tryz.eqGuardType49⟩, ⟨Tryz.stoodInHeld50, Tryz.eqGuardType50⟩, ⟨Tryz.stoodInHeld52, Tryz.eqGuardType52⟩, ⟨Tryz.stoodInHeld53, Tryz.eqGuardType53⟩, ⟨Tryz.stoodInHeld54, Tryz.eqGuardType54⟩, ⟨Tryz.stoodInHeld55, Tryz.eqGuardType55⟩, ⟨Tryz.stoodInHeld56, Tryz.eqGuardType56⟩, ⟨Tryz.stoodInHeld57, Tryz.eqGuardType57⟩, ⟨Tryz.stoodInHeld77, Tryz.eqGuardType77⟩, ⟨Tryz.stoodInHeld78, Tryz.eqGuardType78⟩, ⟨Tryz.stoodInHeld90, Tryz.eqGuardType90⟩, ⟨Tryz.stoodInHeld91, Tryz.eqGuardType91⟩, ⟨Tryz.stoodInHeld93, Tryz.eqGuardType93⟩, ⟨Tryz.stoodInHeld94, Tryz.eqGuardType94⟩, ⟨Tryz.stoodInHeld100, Tryz.eqGuardType100⟩, ⟨Tryz.stoodInHeld101, Tryz.eqGuardType101⟩, ⟨Tryz.stoodInHeld124, Tryz.eqGuardType124⟩, ⟨Tryz.stoodInHeld125, Tryz.eqGuardType125⟩, ⟨Tryz.stoodInHeld127, Tryz.eqGuardType127⟩, ⟨Tryz.stoodInHeld128, Tryz.eqGuardType128⟩, ⟨Tryz.stoodInHeld137, Tryz.eqGuardType137⟩, ⟨Tryz.stoodInHeld138, Tryz.eqGuardType138⟩, ⟨Tryz.stoodInHeld154, Tryz.eqGuardType154⟩, ⟨Tryz.stoodInHeld155, Tryz.eqGuardType155⟩, ⟨Tryz.stoodInHeld158, Tryz.eqGuardType158⟩, ⟨Tryz.stoodInHeld159, Tryz.eqGuardType159⟩, ⟨Tryz.stoodInHeld170, Tryz.eqGuardType170⟩, ⟨Tryz.stoodInHeld171, Tryz.eqGuardType171⟩, ⟨Tryz.stoodInHeld194, Tryz.eqGuardType194⟩, ⟨Tryz.stoodInHeld195, Tryz.eqGuardType195⟩, ⟨Tryz.stoodInHeld216, Tryz.eqGuardType216⟩, ⟨Tryz.stoodInHeld217, Tryz.eqGuardType217⟩, ⟨Tryz.stoodInHeld227, Tryz.eqGuardType227⟩, ⟨Tryz.stoodInHeld228, Tryz.eqGuardType228⟩, ⟨Tryz.stoodInHeld269, Tryz.eqGuardType269⟩, ⟨Tryz.stoodInHeld270, Tryz.eqGuardType270⟩, ⟨Tryz.stoodInHeld309, Tryz.eqGuardType309⟩, ⟨Tryz.stoodInHeld310, Tryz.eqGuardType310⟩, ⟨Tryz.stoodInHeld317, Tryz.eqGuardType317⟩, ⟨Tryz.stoodInHeld318, Tryz.eqGuardType318⟩, ⟨Tryz.stoodInHeld323, Tryz.eqGuardType323⟩, ⟨Tryz.stoodInHeld324, Tryz.eqGuardType324⟩, ⟨Tryz.stoodInHeld349, Tryz.eqGuardType349⟩, ⟨Tryz.stoodInHeld350, Tryz.eqGuardType350⟩, ⟨Tryz.stoodInHeld357, Tryz.eqGuardType357⟩, ⟨Tryz.stoodInHeld358, Tryz.eqGuardType358⟩, ⟨Tryz.stoodInHeld368, Tryz.eqGuardType368⟩, ⟨Tryz.stoodInHeld369, Tryz.eqGuardType369⟩, ⟨Tryz.stoodInHeld371, Tryz.eqGuardType371⟩, ⟨Tryz.stoodInHeld372, Tryz.eqGuardType372⟩, ⟨Tryz.stoodInHeld374, Tryz.eqGuardType374⟩, ⟨Tryz.stoodInHeld375, Tryz.eqGuardType375⟩, ⟨Tryz.stoodInHeld394, Tryz.eqGuardType394⟩, ⟨Tryz.stoodInHeld395, Tryz.eqGuardType395⟩, ⟨Tryz.stoodInHeld419, Tryz.eqGuardType419⟩, ⟨Tryz.stoodInHeld420, Tryz.eqGuardType420⟩, ⟨Tryz.stoodInHeld421, Tryz.eqGuardType421⟩, ⟨Tryz.stoodInHeld422, Tryz.eqGuardType422⟩, trivial⟩
noncomputable def tabK (sp : List (Nat × FuncId × Sig)) (lp : List Note) : G := { ty := tyTab, fn := fnTab, specs := sp, loops := lp, eqs := eqTab }
theorem tab_ok (sp : List (Nat × FuncId × Sig)) (lp : List Note) : GOk Tryz.prog (tabK sp lp) :=
  ⟨fun t ti h => Tr.All_get _ _ t ti tyAll h, fun f fi h => Tr.All_get _ _ f fi fnAll h, fun t h => LAll_mem eqAll h, by kernel_rfl⟩
noncomputable def tabM (sp : List (Nat × FuncId × Sig)) (lp : List Note) (sm : List TypeId) : G := { ty := tyTab, fn := fnTab, specs := sp, loops := lp, eqs := eqTab, smaps := sm }
theorem tab_okM (sp : List (Nat × FuncId × Sig)) (lp : List Note) (sm : List TypeId) : GOk Tryz.prog (tabM sp lp sm) :=
  ⟨fun t ti h => Tr.All_get _ _ t ti tyAll h, fun f fi h => Tr.All_get _ _ f fi fnAll h, fun t h => LAll_mem eqAll h, by kernel_rfl⟩
end Go.Proofs.YtmpbddmbpeoehaaGreatDoor.Vc
