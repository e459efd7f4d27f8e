import Derived.Test.YteibeahceppedaaGreatDoorW0
import Derived.Test.YteibeahceppedaaGreatDoorW1
import Derived.Test.YteibeahceppedaaGreatDoorW11
import Derived.Test.YteibeahceppedaaGreatDoorW12
import Derived.Test.YteibeahceppedaaGreatDoorW2
import Derived.Test.YteibeahceppedaaGreatDoorW5
import Derived.Test.YteibeahceppedaaGreatDoorW6
import Derived.Test.YteibeahceppedaaGreatDoorW8
import Derived.Test.YteibeahceppedaaGreatDoorW9
set_option linter.unusedVariables false
set_option linter.unusedSimpArgs false
set_option linter.unusedVariables false
set_option linter.unusedSimpArgs false
set_option maxHeartbeats 8000000
set_option maxRecDepth 100000
namespace Go.Proofs.T
open Go.OM
section
attribute [local irreducible] Hg O St.wps aO iB Lv Ct Lp VL Option.bind aY sAt fD bK bW mkI fE gO bF aJ ite Dr
instance e6_:Ent E 6:=aX Tryz.func6
instance c6_ (p1:GProgram) (k2:Int) {r0:Int} {r1:Bool}:Con E 6 (eN p1 k2=some (r0,r1)) [.val (GProgram.enc false p1),.val (vi k2)] [vi r0,vb r1] []:=by
 refine fW Tryz.func6 fun C q=>?_
 unfold eN
 repeat' first | refine And.intro ?_ ?_ | refine Prod.forall.2 ?_ | (intro _;try dsimp only) | refine fS ?_ | exact Z | refine S ?_
instance e7_:Ent E 7:=aX Tryz.func7
instance c7_ (p1:GProgram) (k2:Int) {r0:Int} {r1:Bool}:Con E 7 (kR p1 k2=some (r0,r1)) [.val (GProgram.enc false p1),.val (vi k2)] [vi r0,vb r1] []:=by
 refine fW Tryz.func7 fun C q=>?_
 unfold kR
 repeat' first | refine And.intro ?_ ?_ | refine Prod.forall.2 ?_ | (intro _;try dsimp only) | refine fS ?_ | exact Z | refine S ?_
instance e24_:Ent E 24:=aX Tryz.func24
instance c24_ (p1:GProgram) {r0:Bool}:Con E 24 (iJ p1=some r0) [.val (GProgram.enc false p1)] [vb r0] []:=by
 refine fW Tryz.func24 fun C q=>?_
 unfold iJ
 repeat' first | refine And.intro ?_ ?_ | refine Prod.forall.2 ?_ | (intro _;try dsimp only) | refine fS ?_ | exact Z | refine cK 2 [1,3,35] [1] (fun v=>[(35,.t (vb v))]) (fun _=>[]) ?_ | refine cH 9012 [1,4,39,40,41,46,47,48] [1] (fun v=>[(4,.t (.sl true 1 (List.map vi v.1))),(48,.t (vi v.2))]) (fun _=>[]) (by unfold gK;rfl) ?_ | refine dP 7019 [1,4,39,40,41] [1] (fun v=>[(4,.t (.sl true 1 (List.map vi v)))]) (fun _=>[]) ?_ | refine cH 6027 [1,4,39,40,41] [1] (fun v=>[(4,.t (.sl true 1 (List.map vi v.1))),(41,.t (vi v.2))]) (fun _=>[]) (by unfold gL;rfl) ?_ | refine dP 5031 [1,4] [1] (fun v=>[(4,.t (.sl true 1 (List.map vi v)))]) (fun _=>[]) ?_ | refine cK 17 [1,4,10,61,62,63,79] [1,10] (fun v=>[(79,.t (vb v))]) (fun _=>[]) ?_ | refine cH 20026 [1,4,61,62,63,84,85,86] [1] (fun v=>[(4,.t (.sl true 1 (List.map vi v.1))),(86,.t (vi v.2))]) (fun _=>[]) (by unfold bD;rfl) ?_ | refine iF 16041 [1,4,61,62,63] [1] (fun v=>[(4,.t (.sl true 1 (List.map vi v)))]) (fun _=>[]) ?_ | refine cH 15049 [1,4,61,62,63] [1] (fun v=>[(4,.t (.sl true 1 (List.map vi v.1))),(63,.t (vi v.2))]) (fun _=>[]) (by unfold eU;rfl) ?_ | refine iF 14053 [4] [] (fun v=>[(4,.t (.sl true 1 (List.map vi v)))]) (fun _=>[]) ?_ | refine cK 31 [4,102,103,104,113] [] (fun v=>[(113,.t (vb v))]) (fun _=>[]) ?_ | refine cH 29018 [4,102,103,104] [] (fun v=>[(104,.t (vi v))]) (fun _=>[]) (by unfold gJ;rfl) ?_ | refine iF 28022 [] [] (fun _=>[]) (fun _=>[]) ?_ | refine S ?_
instance e106_:Ent E 106:=aX Tryz.func106
instance c106_ (r1:Gl05Read) (a0:Int) (a1:ByteArray) {r0:Int} {q0:Gl05Read}:Con E 106 (bQ r1 a0 a1=some (r0,q0)) [.ptr [.sl true 3 (List.map GSign.enc r1.list),vi r1.at_,vb r1.bad,vi r1.deep,.sl true 4 (List.map (GNode.enc true) r1.nodes)],.val (vi a0),.val (vs a1)] [vi r0] [[.sl true 3 (List.map GSign.enc q0.list),vi q0.at_,vb q0.bad,vi q0.deep,.sl true 4 (List.map (GNode.enc true) q0.nodes)]]:=by
 refine fW Tryz.func106 fun C q=>?_
 unfold bQ
 repeat' first | refine And.intro ?_ ?_ | refine Prod.forall.2 ?_ | (intro _;try dsimp only) | refine fS ?_ | exact Z | refine S ?_
instance e12_:Ent E 12:=aX Tryz.func12
instance c12_ (p1:GProgram) {r0:Int}:Con E 12 (mR p1=some r0) [.val (GProgram.enc false p1)] [vi r0] []:=by
 refine fW Tryz.func12 fun C q=>?_
 unfold mR
 repeat' first | refine And.intro ?_ ?_ | refine Prod.forall.2 ?_ | (intro _;try dsimp only) | refine fS ?_ | exact Z | refine S ?_
instance e15_:Ent E 15:=aX Tryz.func15
instance c15_ (p1:GProgram) {r0:GProgram}:Con E 15 (nT p1=some r0) [.val (GProgram.enc false p1)] [GProgram.enc true r0] []:=by
 refine fW Tryz.func15 fun C q=>?_
 unfold nT
 repeat' first | refine And.intro ?_ ?_ | refine Prod.forall.2 ?_ | (intro _;try dsimp only) | refine fS ?_ | exact Z | refine cH 6012 [1,2,3,4,5] [1,2,3] (fun v=>[(5,.t (vi v.1))]) (fun v=>[(3,[.sl true 4 (List.map (GNode.enc true) v.2.Nodes),.sl true 5 (List.map (GFn.enc true) v.2.Fns)])]) (by unfold jZ;rfl) ?_ | refine dP 5016 [1,2,3] [1,2,3] (fun _=>[]) (fun v=>[(3,[.sl true 4 (List.map (GNode.enc true) v.Nodes),.sl true 5 (List.map (GFn.enc true) v.Fns)])]) ?_ | refine S ?_
end
end Go.Proofs.T
