import Derived.Test.YteibeahceppedaaGreatDoorW14
set_option linter.unusedVariables false
set_option linter.unusedSimpArgs false
set_option linter.unusedVariables false
set_option linter.unusedSimpArgs false
set_option maxHeartbeats 8000000
set_option maxRecDepth 100000
namespace Go.Proofs.T
open Go.OM
section
attribute [local irreducible] Hg O St.wps aO iB Lv Ct Lp VL Option.bind aY sAt fD bK bW mkI fE gO bF aJ ite Dr
instance e10_:Ent E 10:=aX Tryz.func10
instance c10_ (p1:GProgram) (k2:Int) {r0:Bool}:Con E 10 (lB p1 k2=some r0) [.val (GProgram.enc false p1),.val (vi k2)] [vb r0] []:=by
 refine fW Tryz.func10 fun C q=>?_
 unfold lB
 repeat' first | refine And.intro ?_ ?_ | refine Prod.forall.2 ?_ | (intro _;try dsimp only) | refine fS ?_ | exact Z | refine cK 2 [4] [] (fun v=>[(4,.t (vb v))]) (fun _=>[]) ?_ | refine S ?_
end
end Go.Proofs.T
