import Derived.Test.YtgcgpnhokjhghabGreatDoorW0
import Derived.Test.YtgcgpnhokjhghabGreatDoorW12
import Derived.Test.YtgcgpnhokjhghabGreatDoorW14
import Derived.Test.YtgcgpnhokjhghabGreatDoorW15
import Derived.Test.YtgcgpnhokjhghabGreatDoorW2
import Derived.Test.YtgcgpnhokjhghabGreatDoorW3
import Derived.Test.YtgcgpnhokjhghabGreatDoorW7
import Derived.Test.YtgcgpnhokjhghabGreatDoorW9
set_option linter.unusedVariables false
set_option linter.unusedSimpArgs false
set_option linter.unusedVariables false
set_option linter.unusedSimpArgs false
set_option maxHeartbeats 8000000
set_option maxRecDepth 100000
namespace Go.Proofs.T
open Go.OM
section
attribute [local irreducible] Hg O St.wps aO iB Lv Ct Lp VL Option.bind aP sAt eK bN bO mkI eS fO bF aI ite Dr
instance e60_:Ent E 60:=aY Tryz.func60
instance c60_ (p1:GProgram) (k2:Int) {r0:List Int}:Con E 60 (rD p1 k2=some r0) [.val (GProgram.enc false p1),.val (vi k2)] [.sl true 1 (List.map vi r0)] []:=by
 refine eZ Tryz.func60 fun C q=>?_;unfold rD;repeat' first | refine And.intro ?_ ?_ | refine Prod.forall.2 ?_ | (intro _;try dsimp only) | refine eY ?_ | exact Z | refine S ?_
instance e27_:Ent E 27:=aY Tryz.func27
instance c27_ (p1:GProgram) {r0:Bool}:Con E 27 (kB p1=some r0) [.val (GProgram.enc false p1)] [vb r0] []:=by
 refine eZ Tryz.func27 fun C q=>?_;unfold kB;repeat' first | refine And.intro ?_ ?_ | refine Prod.forall.2 ?_ | (intro _;try dsimp only) | refine eY ?_ | exact Z | refine cR 2 [1,3,35] [1] (fun v=>[(35,.t (vb v))]) (fun _=>[]) ?_ | refine bG 9012 [1,4,39,40,41,46,47,48] [1] (fun v=>[(4,.t (.sl true 1 (List.map vi v.1))),(48,.t (vi v.2))]) (fun _=>[]) (by unfold jB;rfl) ?_ | refine cG 7019 [1,4,39,40,41] [1] (fun v=>[(4,.t (.sl true 1 (List.map vi v)))]) (fun _=>[]) ?_ | refine bG 6027 [1,4,39,40,41] [1] (fun v=>[(4,.t (.sl true 1 (List.map vi v.1))),(41,.t (vi v.2))]) (fun _=>[]) (by unfold jC;rfl) ?_ | refine cG 5031 [1,4] [1] (fun v=>[(4,.t (.sl true 1 (List.map vi v)))]) (fun _=>[]) ?_ | refine cR 17 [1,4,10,61,62,63,79] [1,10] (fun v=>[(79,.t (vb v))]) (fun _=>[]) ?_ | refine bG 20026 [1,4,61,62,63,84,85,86] [1] (fun v=>[(4,.t (.sl true 1 (List.map vi v.1))),(86,.t (vi v.2))]) (fun _=>[]) (by unfold bK;rfl) ?_ | refine eW 16041 [1,4,61,62,63] [1] (fun v=>[(4,.t (.sl true 1 (List.map vi v)))]) (fun _=>[]) ?_ | refine bG 15049 [1,4,61,62,63] [1] (fun v=>[(4,.t (.sl true 1 (List.map vi v.1))),(63,.t (vi v.2))]) (fun _=>[]) (by unfold fX;rfl) ?_ | refine eW 14053 [4] [] (fun v=>[(4,.t (.sl true 1 (List.map vi v)))]) (fun _=>[]) ?_ | refine cR 31 [4,102,103,104,113] [] (fun v=>[(113,.t (vb v))]) (fun _=>[]) ?_ | refine bG 29018 [4,102,103,104] [] (fun v=>[(104,.t (vi v))]) (fun _=>[]) (by unfold jA;rfl) ?_ | refine eW 28022 [] [] (fun _=>[]) (fun _=>[]) ?_ | refine S ?_
instance e151_:Ent E 151:=aY Tryz.func151
instance c151_ (r1:Gl05Read) (a0:Int) (a1:ByteArray) {r0:Int} {q0:Gl05Read}:Con E 151 (cB r1 a0 a1=some (r0,q0)) [.ptr [.sl true 3 (List.map GSign.enc r1.list),vi r1.at_,vb r1.bad,vi r1.deep,.sl true 4 (List.map (GNode.enc true) r1.nodes)],.val (vi a0),.val (vs a1)] [vi r0] [[.sl true 3 (List.map GSign.enc q0.list),vi q0.at_,vb q0.bad,vi q0.deep,.sl true 4 (List.map (GNode.enc true) q0.nodes)]]:=by
 refine eZ Tryz.func151 fun C q=>?_;unfold cB;repeat' first | refine And.intro ?_ ?_ | refine Prod.forall.2 ?_ | (intro _;try dsimp only) | refine eY ?_ | exact Z | refine S ?_
instance e61_:Ent E 61:=aY Tryz.func61
instance c61_ (p1:GProgram) (k2:Int) {r0:List Int}:Con E 61 (pG p1 k2=some r0) [.val (GProgram.enc false p1),.val (vi k2)] [.sl true 1 (List.map vi r0)] []:=by
 refine eZ Tryz.func61 fun C q=>?_;unfold pG;repeat' first | refine And.intro ?_ ?_ | refine Prod.forall.2 ?_ | (intro _;try dsimp only) | refine eY ?_ | exact Z | refine bG 7014 [5,6,7] [] (fun v=>[(5,.t (.sl true 1 (List.map vi v.1))),(7,.t (vi v.2))]) (fun _=>[]) (by unfold nY;rfl) ?_ | refine cG 6018 [5] [] (fun v=>[(5,.t (.sl true 1 (List.map vi v)))]) (fun _=>[]) ?_ | refine S ?_
end
end Go.Proofs.T
