import Derived.Test.YtgcgpnhokjhghabGreatDoorW0
import Derived.Test.YtgcgpnhokjhghabGreatDoorW1
import Derived.Test.YtgcgpnhokjhghabGreatDoorW2
import Derived.Test.YtgcgpnhokjhghabGreatDoorW3
set_option linter.unusedVariables false
set_option linter.unusedSimpArgs false
set_option linter.unusedVariables false
set_option linter.unusedSimpArgs false
set_option maxHeartbeats 8000000
set_option maxRecDepth 100000
namespace Go.Proofs.T
open Go.OM
section
attribute [local irreducible] Hg O St.wps aO iB Lv Ct Lp VL Option.bind aP sAt eK bN bO mkI eS fO bF aI ite Dr
instance e32_:Ent E 32:=aY Tryz.func32
instance c32_ (p1:GProgram) {r0:GProgram}:Con E 32 (jH p1=some r0) [.val (GProgram.enc false p1)] [GProgram.enc true r0] []:=by
 refine eZ Tryz.func32 fun C q=>?_;unfold jH;repeat' first | refine And.intro ?_ ?_ | refine Prod.forall.2 ?_ | (intro _;try dsimp only) | refine eY ?_ | exact Z | refine bG 3014 [1,2,3,4] [1,2,3] (fun v=>[(4,.t (vi v.1))]) (fun v=>[(3,[.sl true 4 (List.map (GNode.enc true) v.2.Nodes),.sl true 5 (List.map (GFn.enc true) v.2.Fns)])]) (by unfold kO;rfl) ?_ | refine cG 2018 [2,3] [2,3] (fun _=>[]) (fun v=>[(3,[.sl true 4 (List.map (GNode.enc true) v.Nodes),.sl true 5 (List.map (GFn.enc true) v.Fns)])]) ?_ | refine S ?_
instance e101_:Ent E 101:=aY Tryz.func101
instance c101_ (s1:ByteArray) {r0:Bool}:Con E 101 (kX s1=some r0) [.val (vs s1)] [vb r0] []:=by
 refine eZ Tryz.func101 fun C q=>?_;unfold kX;repeat' first | refine And.intro ?_ ?_ | refine Prod.forall.2 ?_ | (intro _;try dsimp only) | refine eY ?_ | exact Z | refine bG 3016 [0,3,4] [] (fun v=>[(4,.t (vi v))]) (fun _=>[]) (by unfold iS;rfl) ?_ | refine eW 2020 [] [] (fun _=>[]) (fun _=>[]) ?_ | refine S ?_
instance e77_:Ent E 77:=aY Tryz.func77
instance c77_ (a0:Int) {r0:Bool}:Con E 77 (jL a0=some r0) [.val (vi a0)] [vb r0] []:=by
 refine eZ Tryz.func77 fun C q=>?_;unfold jL;repeat' first | refine And.intro ?_ ?_ | refine Prod.forall.2 ?_ | (intro _;try dsimp only) | refine eY ?_ | exact Z | refine S ?_
instance e133_:Ent E 133:=aY Tryz.func133
instance c133_ (a0:Int) {r0:Bool}:Con E 133 (iQ a0=some r0) [.val (vi a0)] [vb r0] []:=by
 refine eZ Tryz.func133 fun C q=>?_;unfold iQ;repeat' first | refine And.intro ?_ ?_ | refine Prod.forall.2 ?_ | (intro _;try dsimp only) | refine eY ?_ | exact Z | refine S ?_
instance e114_:Ent E 114:=aY Tryz.func114
instance c114_ (t1:ByteArray) (a0:Int) {r0:ByteArray}:Con E 114 (kQ t1 a0=some r0) [.val (vs t1),.val (vi a0)] [vs r0] []:=by
 refine eZ Tryz.func114 fun C q=>?_;unfold kQ;repeat' first | refine And.intro ?_ ?_ | refine Prod.forall.2 ?_ | (intro _;try dsimp only) | refine eY ?_ | exact Z | refine cG 6001 [0,1,5,6,38] [] (fun v=>[(38,.t (vb v))]) (fun _=>[]) ?_ | refine bG 3018 [0,1,5,6] [] (fun v=>[(6,.t (vi v))]) (fun _=>[]) (by unfold kP;rfl) ?_ | refine eW 2022 [] [] (fun _=>[]) (fun _=>[]) ?_ | refine S ?_
instance e59_:Ent E 59:=aY Tryz.func59
instance c59_ (p1:GProgram) (a0:Int) {r0:List Int}:Con E 59 (uC p1 a0=some r0) [.val (GProgram.enc false p1),.val (vi a0)] [.sl true 1 (List.map vi r0)] []:=by
 refine eZ Tryz.func59 fun C q=>?_;unfold uC;repeat' first | refine And.intro ?_ ?_ | refine Prod.forall.2 ?_ | (intro _;try dsimp only) | refine eY ?_ | exact Z | refine S ?_
instance e78_:Ent E 78:=aY Tryz.func78
instance c78_ (a0:List GNode) (k2:Int) {r0:List Int}:Con E 78 (uA a0 k2=some r0) [.val (.sl false 4 (List.map (GNode.enc false) a0)),.val (vi k2)] [.sl true 1 (List.map vi r0)] []:=by
 refine eZ Tryz.func78 fun C q=>?_;unfold uA;repeat' first | refine And.intro ?_ ?_ | refine Prod.forall.2 ?_ | (intro _;try dsimp only) | refine eY ?_ | exact Z | refine bG 6016 [0,5,6,24,25,26] [] (fun v=>[(5,.t (.sl true 1 (List.map vi v.1))),(26,.t (vi v.2))]) (fun _=>[]) (by unfold oG;rfl) ?_ | refine cG 5021 [0,5,6] [] (fun v=>[(5,.t (.sl true 1 (List.map vi v)))]) (fun _=>[]) ?_ | refine bG 3029 [0,5,6] [] (fun v=>[(5,.t (.sl true 1 (List.map vi v.1))),(6,.t (vi v.2))]) (fun _=>[]) (by unfold oH;rfl) ?_ | refine cG 2033 [5] [] (fun v=>[(5,.t (.sl true 1 (List.map vi v)))]) (fun _=>[]) ?_ | refine S ?_
instance e44_:Ent E 44:=aY Tryz.func44
instance c44_ (a1:List GNode) (b2:List GNode) {r0:Bool}:Con E 44 (mR a1 b2=some r0) [.val (.sl false 4 (List.map (GNode.enc false) a1)),.val (.sl false 4 (List.map (GNode.enc false) b2))] [vb r0] []:=by
 refine eZ Tryz.func44 fun C q=>?_;unfold mR;repeat' first | refine And.intro ?_ ?_ | refine Prod.forall.2 ?_ | (intro _;try dsimp only) | refine eY ?_ | exact Z | refine cG 6001 [0,1,5,67] [] (fun v=>[(67,.t (vb v))]) (fun _=>[]) ?_ | refine bG 4016 [0,1,5] [] (fun v=>[(5,.t (vi v))]) (fun _=>[]) (by unfold fV;rfl) ?_ | refine eW 3020 [] [] (fun _=>[]) (fun _=>[]) ?_ | refine S ?_
instance e85_:Ent E 85:=aY Tryz.func85
instance c85_ (a0:Int) {r0:Bool}:Con E 85 (wI a0=some r0) [.val (vi a0)] [vb r0] []:=by
 refine eZ Tryz.func85 fun C q=>?_;unfold wI;repeat' first | refine And.intro ?_ ?_ | refine Prod.forall.2 ?_ | (intro _;try dsimp only) | refine eY ?_ | exact Z | refine cR 1 [2] [] (fun v=>[(2,.t (vb v))]) (fun _=>[]) ?_ | refine S ?_
end
end Go.Proofs.T
