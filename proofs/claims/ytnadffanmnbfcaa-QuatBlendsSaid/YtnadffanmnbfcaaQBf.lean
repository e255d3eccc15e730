/- The plain function of QuatBlends, printed by a turned copy of the kit's print. No condition. -/
import Derived.Test.YtnadffanmnbfcaaPAllx0
import Derived.Test.YtnadffanmnbfcaaPAllx1
import Derived.Test.YtnadffanmnbfcaaPAllx2
import Derived.Test.YtnadffanmnbfcaaPAllx8
import Derived.Test.YtnadffanmnbfcaaPAllx12
import Derived.Test.YtnadffanmnbfcaaPAllx13
import Derived.Test.YtnadffanmnbfcaaPAllx14
namespace Go.Proofs.Ytnadffanmnbfcaa.P
open Go.RowKit Go.Proofs.YtnadffanmnbfcaaW.PrintWords Go.Proofs.YtnadffanmnbfcaaW.PrintLast Go.Proofs.YtnadffanmnbfcaaW.PrintMore
attribute [local go_sem] max2_int min2_int max_two min_two max_three min_three max_four min_four   -- for this text's walks alone
attribute [local go_sem] slc46 bld46
set_option linter.unusedVariables false
set_option linter.unusedSimpArgs false

attribute [local go_sem high] eqA39
/-! ### tourkeep1_QuatBlends: function 10 -/
def tourkeep1_QuatBlends.f (k : Nat) (a0_0 : Int) (a0_1 : Int) (a0_2 : Int) (a0_3 : Int) (a1_0 : Int) (a1_1 : Int) (a1_2 : Int) (a1_3 : Int) (a2 : Int) : Option (Bool) := (tourkeep1_quatBegun.f k).bind fun t262 => (if t262 = true then ((tourkeep1_turner.f k a0_0 a0_1 a0_2 a0_3).bind fun bt263 => ((tourkeep1_turner.f k a1_0 a1_1 a1_2 a1_3).bind fun bt267 => ((quat_Blend.f k bt263.1 bt263.2.1 bt263.2.2.1 bt263.2.2.2 bt267.1 bt267.2.1 bt267.2.2.1 bt267.2.2.2 a2).bind fun bt273 => ((quat_Blend.f k bt263.1 bt263.2.1 bt263.2.2.1 bt263.2.2.2 bt267.1 bt267.2.1 bt267.2.2.1 bt267.2.2.2 65536).bind fun bt278 => ((quat_Blend.f k bt263.1 bt263.2.1 bt263.2.2.1 bt263.2.2.2 bt263.1 bt263.2.1 bt263.2.2.1 bt263.2.2.2 a2).bind fun bt283 => ((quat_Unit.f k bt263.1 bt263.2.1 bt263.2.2.1 bt263.2.2.2).bind fun bt287 => ((quat_Blend.f k bt263.1 bt263.2.1 bt263.2.2.1 bt263.2.2.2 bt267.1 bt267.2.1 bt267.2.2.1 bt267.2.2.2 0).bind fun bt293 => ((quat_Unit.f k bt263.1 bt263.2.1 bt263.2.2.1 bt263.2.2.2).bind fun bt297 => (if (bt293.1 == bt297.1 && (bt293.2.1 == bt297.2.1 && (bt293.2.2.1 == bt297.2.2.1 && (bt293.2.2.2 == bt297.2.2.2)))) = true then ((quat_Unit.f k bt267.1 bt267.2.1 bt267.2.2.1 bt267.2.2.2).bind fun bt301 => (if (bt278.1 == bt301.1 && (bt278.2.1 == bt301.2.1 && (bt278.2.2.1 == bt301.2.2.1 && (bt278.2.2.2 == bt301.2.2.2)))) = true then ((tourkeep1_square.f bt273.1 bt273.2.1 bt273.2.2.1 bt273.2.2.2).bind fun t305 => ((tourkeep1_near.f t305 65536 8).bind fun t306 => (if t306 = true then ((tourkeep1_near.f bt283.1 bt287.1 4).bind fun t307 => (if t307 = true then ((tourkeep1_near.f bt283.2.1 bt287.2.1 4).bind fun t308 => (if t308 = true then ((tourkeep1_near.f bt283.2.2.1 bt287.2.2.1 4).bind fun t309 => (if t309 = true then ((tourkeep1_near.f bt283.2.2.2 bt287.2.2.2 4).bind fun t310 => (some t310)) else (none))) else (none))) else (none))) else (none)))) else ((quat_Unit.f k (wrap64 (-bt267.1)) (wrap64 (-bt267.2.1)) (wrap64 (-bt267.2.2.1)) (wrap64 (-bt267.2.2.2))).bind fun bt311 => (if (bt278.1 == bt311.1 && (bt278.2.1 == bt311.2.1 && (bt278.2.2.1 == bt311.2.2.1 && (bt278.2.2.2 == bt311.2.2.2)))) = true then ((tourkeep1_square.f bt273.1 bt273.2.1 bt273.2.2.1 bt273.2.2.2).bind fun t315 => ((tourkeep1_near.f t315 65536 8).bind fun t316 => (if t316 = true then ((tourkeep1_near.f bt283.1 bt287.1 4).bind fun t317 => (if t317 = true then ((tourkeep1_near.f bt283.2.1 bt287.2.1 4).bind fun t318 => (if t318 = true then ((tourkeep1_near.f bt283.2.2.1 bt287.2.2.1 4).bind fun t319 => (if t319 = true then ((tourkeep1_near.f bt283.2.2.2 bt287.2.2.2 4).bind fun t320 => (some t320)) else (none))) else (none))) else (none))) else (none)))) else (none))))) else (none)))))))))) else (none))
theorem tourkeep1_QuatBlends.mono : ∀ a0 a1 a2 a3 a4 a5 a6 a7 a8 k, LeO (tourkeep1_QuatBlends.f k a0 a1 a2 a3 a4 a5 a6 a7 a8) (tourkeep1_QuatBlends.f (k + 1) a0 a1 a2 a3 a4 a5 a6 a7 a8) := by
 intro a0 a1 a2 a3 a4 a5 a6 a7 a8 k
 unfold tourkeep1_QuatBlends.f
 repeat' first
   | (with_reducible exact quat_Blend.mono _ _ _ _ _ _ _ _ _ _)
   | (with_reducible exact quat_Unit.mono _ _ _ _ _)
   | (with_reducible exact tourkeep1_quatBegun.mono _)
   | (with_reducible exact tourkeep1_turner.mono _ _ _ _ _)
   | (with_reducible exact LeO.refl _)
   | (with_reducible exact LeO.none _)
   | (with_reducible refine LeO.ite ?_ ?_)
   | (with_reducible refine LeO.bind ?_ (fun _ => ?_))
   | exact quat_Blend.mono _ _ _ _ _ _ _ _ _ _
   | exact quat_Unit.mono _ _ _ _ _
   | exact tourkeep1_quatBegun.mono _
   | exact tourkeep1_turner.mono _ _ _ _ _
   | exact LeO.none _
   | refine LeO.ite ?_ ?_
   | refine LeO.bind ?_ (fun _ => ?_)
def tourkeep1_QuatBlends.Pure : Prop := ∀ (a0_0 : Int) (a0_1 : Int) (a0_2 : Int) (a0_3 : Int) (a1_0 : Int) (a1_1 : Int) (a1_2 : Int) (a1_3 : Int) (a2 : Int), (Lit.int .i64 a0_0).wf = true → (Lit.int .i64 a0_1).wf = true → (Lit.int .i64 a0_2).wf = true → (Lit.int .i64 a0_3).wf = true → (Lit.int .i64 a1_0).wf = true → (Lit.int .i64 a1_1).wf = true → (Lit.int .i64 a1_2).wf = true → (Lit.int .i64 a1_3).wf = true → (Lit.int .i64 a2).wf = true → ∃ k, tourkeep1_QuatBlends.f k a0_0 a0_1 a0_2 a0_3 a1_0 a1_1 a1_2 a1_3 a2 = some true

end Go.Proofs.Ytnadffanmnbfcaa.P
