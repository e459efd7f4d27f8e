import Derived.Test.YtgcgpnhokjhghaaGreatDoorW0
import Derived.Test.YtgcgpnhokjhghaaGreatDoorW1
import Derived.Test.YtgcgpnhokjhghaaGreatDoorW4
import Derived.Test.YtgcgpnhokjhghaaGreatDoorW5
import Derived.Test.YtgcgpnhokjhghaaGreatDoorW6
import Derived.Test.YtgcgpnhokjhghaaGreatDoorW8
import Derived.Test.YtgcgpnhokjhghaaGreatDoorW9
set_option linter.unusedVariables false
set_option linter.unusedSimpArgs false
set_option linter.unusedVariables false
set_option linter.unusedSimpArgs false
set_option maxHeartbeats 8000000
set_option maxRecDepth 100000
namespace Go.Proofs.T
open Go.OM
section
attribute [local irreducible] Hg O St.wps aQ iB Lv Ct Lp VL Option.bind bD sAt gB bC cE mkI gK iZ bO aJ ite Dr
instance e24_:Ent E 24:=aZ Tryz.func24
instance c24_ (p1:GProgram) {r0:Bool}:Con E 24 (jW p1=some r0) [.val (GProgram.enc false p1)] [vb r0] []:=by
 refine iA Tryz.func24 fun C q=>?_
 unfold jW
 repeat' first | refine And.intro ?_ ?_ | refine Prod.forall.2 ?_ | (intro _;try dsimp only) | refine gW ?_ | exact Z | refine dL 2 [1,3,35] [1] (fun v=>[(35,.t (vb v))]) (fun _=>[]) ?_ | refine dG 9012 [1,4,39,40,41,46,47,48] [1] (fun v=>[(4,.t (.sl true 1 (List.map vi v.1))),(48,.t (vi v.2))]) (fun _=>[]) (by unfold gF;rfl) ?_ | refine eJ 7019 [1,4,39,40,41] [1] (fun v=>[(4,.t (.sl true 1 (List.map vi v)))]) (fun _=>[]) ?_ | refine dG 6027 [1,4,39,40,41] [1] (fun v=>[(4,.t (.sl true 1 (List.map vi v.1))),(41,.t (vi v.2))]) (fun _=>[]) (by unfold gG;rfl) ?_ | refine eJ 5031 [1,4] [1] (fun v=>[(4,.t (.sl true 1 (List.map vi v)))]) (fun _=>[]) ?_ | refine dL 17 [1,4,10,61,62,63,79] [1,10] (fun v=>[(79,.t (vb v))]) (fun _=>[]) ?_ | refine dG 20026 [1,4,61,62,63,84,85,86] [1] (fun v=>[(4,.t (.sl true 1 (List.map vi v.1))),(86,.t (vi v.2))]) (fun _=>[]) (by unfold aY;rfl) ?_ | refine jZ 16041 [1,4,61,62,63] [1] (fun v=>[(4,.t (.sl true 1 (List.map vi v)))]) (fun _=>[]) ?_ | refine dG 15049 [1,4,61,62,63] [1] (fun v=>[(4,.t (.sl true 1 (List.map vi v.1))),(63,.t (vi v.2))]) (fun _=>[]) (by unfold eI;rfl) ?_ | refine jZ 14053 [4] [] (fun v=>[(4,.t (.sl true 1 (List.map vi v)))]) (fun _=>[]) ?_ | refine dL 31 [4,102,103,104,113] [] (fun v=>[(113,.t (vb v))]) (fun _=>[]) ?_ | refine dG 29018 [4,102,103,104] [] (fun v=>[(104,.t (vi v))]) (fun _=>[]) (by unfold gE;rfl) ?_ | refine jZ 28022 [] [] (fun _=>[]) (fun _=>[]) ?_ | refine S ?_
instance e133_:Ent E 133:=aZ Tryz.func133
instance c133_ (r1:Gl05Read) (a0:Int) (a1:ByteArray) {r0:Int} {q0:Gl05Read}:Con E 133 (bQ r1 a0 a1=some (r0,q0)) [.ptr [.sl true 3 (List.map GSign.enc r1.list),vi r1.at_,vb r1.bad,vi r1.deep,.sl true 4 (List.map (GNode.enc true) r1.nodes)],.val (vi a0),.val (vs a1)] [vi r0] [[.sl true 3 (List.map GSign.enc q0.list),vi q0.at_,vb q0.bad,vi q0.deep,.sl true 4 (List.map (GNode.enc true) q0.nodes)]]:=by
 refine iA Tryz.func133 fun C q=>?_
 unfold bQ
 repeat' first | refine And.intro ?_ ?_ | refine Prod.forall.2 ?_ | (intro _;try dsimp only) | refine gW ?_ | exact Z | refine S ?_
instance e39_:Ent E 39:=aZ Tryz.func39
instance c39_ (p1:GProgram) (k2:Int) {r0:List Int}:Con E 39 (pW p1 k2=some r0) [.val (GProgram.enc false p1),.val (vi k2)] [.sl true 1 (List.map vi r0)] []:=by
 refine iA Tryz.func39 fun C q=>?_
 unfold pW
 repeat' first | refine And.intro ?_ ?_ | refine Prod.forall.2 ?_ | (intro _;try dsimp only) | refine gW ?_ | exact Z | refine S ?_
end
end Go.Proofs.T
