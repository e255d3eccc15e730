/- The printed function quat.Turn out of its parts. Conditions: the parts' answers. -/
import Derived.Test.YtnadffanmnbfcaaPAllx17
import Derived.Test.YtnadffanmnbfcaaQQuat
namespace Go.Proofs.Ytnadffanmnbfcaa.QQuat
open Go Go.RowKit Go.Proofs.Ytnadffanmnbfcaa.P Go.Proofs.Ytnadffanmnbfcaa.QDiv Go.Proofs.Ytnadffanmnbfcaa.QFix Go.Proofs.Ytnadffanmnbfcaa.QRoot Go.Proofs.Ytnadffanmnbfcaa.QVec Go.Proofs.Ytnadffanmnbfcaa.QTrig Go.Proofs.Ytnadffanmnbfcaa.QCirc Go.Proofs.YtnadffanmnbfcaaW.PrintWords Go.Proofs.YtnadffanmnbfcaaW.PrintLast Go.Proofs.YtnadffanmnbfcaaW.PrintMore

theorem turn_parts (k : Nat) (a0 a1 a2 a3 b0 b1 b2 W X Y Z p q r t e u v z : Int) (h1 : quat_Mul.f k a0 a1 a2 a3 0 b0 b1 b2 = some (W, X, Y, Z)) (h2 : quat_Back.f a0 a1 a2 a3 = some (p, q, r, t)) (h3 : quat_Mul.f k W X Y Z p q r t = some (e, u, v, z)) :
    quat_Turn.f k a0 a1 a2 a3 b0 b1 b2 = some (u, v, z) := by
  unfold quat_Turn.f
  rw [h1, Option.bind_some, h2, Option.bind_some, h3, Option.bind_some]


end Go.Proofs.Ytnadffanmnbfcaa.QQuat
