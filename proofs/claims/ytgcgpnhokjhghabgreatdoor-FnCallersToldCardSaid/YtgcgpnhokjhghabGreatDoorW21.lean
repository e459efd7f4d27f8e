import Derived.Test.YtgcgpnhokjhghabGreatDoorW17
import Derived.Test.YtgcgpnhokjhghabGreatDoorW2
import Derived.Test.YtgcgpnhokjhghabGreatDoorW3
import Derived.Test.YtgcgpnhokjhghabGreatDoorW7
set_option linter.unusedVariables false
set_option linter.unusedSimpArgs false
set_option linter.unusedVariables false
set_option linter.unusedSimpArgs false
set_option maxHeartbeats 8000000
set_option maxRecDepth 100000
namespace Go.Proofs.T
open Go.OM
section
attribute [local irreducible] Hg O St.wps aO iB Lv Ct Lp VL Option.bind aP sAt eK bN bO mkI eS fO bF aI ite Dr
instance e35_:Ent E 35:=aY Tryz.func35
instance c35_ (p1:GProgram) (a0:Int) {r0:List Int}:Con E 35 (qI p1 a0=some r0) [.val (GProgram.enc false p1),.val (vi a0)] [.sl true 1 (List.map vi r0)] []:=by
 refine eZ Tryz.func35 fun C q=>?_;unfold qI;repeat' first | refine And.intro ?_ ?_ | refine Prod.forall.2 ?_ | (intro _;try dsimp only) | refine eY ?_ | exact Z | refine bG 6016 [2,5,12,13,14,20,21,22] [2] (fun v=>[(5,.t (.sl true 1 (List.map vi v.1))),(22,.t (vi v.2))]) (fun _=>[]) (by unfold lJ;rfl) ?_ | refine cG 4023 [2,5,12,13,14] [2] (fun v=>[(5,.t (.sl true 1 (List.map vi v)))]) (fun _=>[]) ?_ | refine bG 3031 [2,5,12,13,14] [2] (fun v=>[(5,.t (.sl true 1 (List.map vi v.1))),(14,.t (vi v.2))]) (fun _=>[]) (by unfold iY;rfl) ?_ | refine cG 2035 [5] [] (fun v=>[(5,.t (.sl true 1 (List.map vi v)))]) (fun _=>[]) ?_ | refine S ?_
instance e83_:Ent E 83:=aY Tryz.func83
instance c83_ (p1:GProgram) (a0:Int) {r0:List GVar}:Con E 83 (rV p1 a0=some r0) [.val (GProgram.enc false p1),.val (vi a0)] [.sl true 3 (List.map GVar.enc r0)] []:=by
 refine eZ Tryz.func83 fun C q=>?_;unfold rV;repeat' first | refine And.intro ?_ ?_ | refine Prod.forall.2 ?_ | (intro _;try dsimp only) | refine eY ?_ | exact Z | refine bG 5012 [1,2,5,23,24,25] [2] (fun v=>[(5,.t (.sl true 3 (List.map GVar.enc v.1))),(25,.t (vi v.2))]) (fun _=>[]) (by unfold mX;rfl) ?_ | refine cG 4016 [1,2,5] [2] (fun v=>[(5,.t (.sl true 3 (List.map GVar.enc v)))]) (fun _=>[]) ?_ | refine bG 10018 [2,5,45,46,47] [2] (fun v=>[(5,.t (.sl true 3 (List.map GVar.enc v.1))),(47,.t (vi v.2))]) (fun _=>[]) (by unfold mW;rfl) ?_ | refine cG 9022 [5] [] (fun v=>[(5,.t (.sl true 3 (List.map GVar.enc v)))]) (fun _=>[]) ?_ | refine S ?_
end
end Go.Proofs.T
