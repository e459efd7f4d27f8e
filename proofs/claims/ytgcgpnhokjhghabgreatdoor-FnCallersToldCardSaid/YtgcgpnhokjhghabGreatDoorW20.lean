import Derived.Test.YtgcgpnhokjhghabGreatDoorW1
import Derived.Test.YtgcgpnhokjhghabGreatDoorW17
set_option linter.unusedVariables false
set_option linter.unusedSimpArgs false
set_option linter.unusedVariables false
set_option linter.unusedSimpArgs false
set_option maxHeartbeats 8000000
set_option maxRecDepth 100000
namespace Go.Proofs.T
open Go.OM
section
attribute [local irreducible] Hg O St.wps aO iB Lv Ct Lp VL Option.bind aP sAt eK bN bO mkI eS fO bF aI ite Dr
instance e38_:Ent E 38:=aY Tryz.func38
instance c38_ (p1:GProgram) (a0:Int) {r0:List Int}:Con E 38 (rI p1 a0=some r0) [.val (GProgram.enc false p1),.val (vi a0)] [.sl true 1 (List.map vi r0)] []:=by
 refine eZ Tryz.func38 fun C q=>?_;unfold rI;repeat' first | refine And.intro ?_ ?_ | refine Prod.forall.2 ?_ | (intro _;try dsimp only) | refine eY ?_ | exact Z | refine cR 8 [5,6,7,8,9,44] [] (fun v=>[(44,.t (vb v))]) (fun _=>[]) ?_ | refine cG 9001 [5,6,7,8,9,65] [] (fun v=>[(65,.t (vb v))]) (fun _=>[]) ?_ | refine cG 12001 [5,6,7,8,9,89] [] (fun v=>[(89,.t (vb v))]) (fun _=>[]) ?_ | refine cG 12005 [5,6,7,8,9] [] (fun v=>[(8,.t (vi v))]) (fun _=>[]) ?_ | refine bG 8026 [5,6,7,8,9] [] (fun v=>[(5,.t (.sl true 1 (List.map vi v.1))),(8,.t (vi v.2.1)),(9,.t (vi v.2.2))]) (fun _=>[]) (by unfold dA;rfl) ?_ | refine cG 8028 [5] [] (fun v=>[(5,.t (.sl true 1 (List.map vi v)))]) (fun _=>[]) ?_ | refine S ?_
instance e65_:Ent E 65:=aY Tryz.func65
instance c65_ (p1:GProgram) (a0:Int) {r0:List GVar}:Con E 65 (rK p1 a0=some r0) [.val (GProgram.enc false p1),.val (vi a0)] [.sl true 3 (List.map GVar.enc r0)] []:=by
 refine eZ Tryz.func65 fun C q=>?_;unfold rK;repeat' first | refine And.intro ?_ ?_ | refine Prod.forall.2 ?_ | (intro _;try dsimp only) | refine eY ?_ | exact Z | refine bG 6010 [2,5,6,7] [2,6] (fun v=>[(5,.t (.sl true 3 (List.map GVar.enc v.1))),(7,.t (vi v.2))]) (fun _=>[]) (by unfold mL;rfl) ?_ | refine cG 5014 [2,5,6] [2,6] (fun v=>[(5,.t (.sl true 3 (List.map GVar.enc v)))]) (fun _=>[]) ?_ | refine bG 11014 [2,5,8,9] [2] (fun v=>[(5,.t (.sl true 3 (List.map GVar.enc v.1))),(9,.t (vi v.2))]) (fun _=>[]) (by unfold mK;rfl) ?_ | refine cG 10018 [5] [] (fun v=>[(5,.t (.sl true 3 (List.map GVar.enc v)))]) (fun _=>[]) ?_ | refine S ?_
end
end Go.Proofs.T
