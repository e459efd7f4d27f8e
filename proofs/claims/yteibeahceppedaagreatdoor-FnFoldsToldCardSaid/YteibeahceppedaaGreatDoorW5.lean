import Derived.Test.YteibeahceppedaaGreatDoorW0
import Derived.Test.YteibeahceppedaaGreatDoorW1
import Derived.Test.YteibeahceppedaaGreatDoorW2
set_option linter.unusedVariables false
set_option linter.unusedSimpArgs false
set_option linter.unusedVariables false
set_option linter.unusedSimpArgs false
set_option maxHeartbeats 8000000
set_option maxRecDepth 100000
namespace Go.Proofs.T
open Go.OM
section
attribute [local irreducible] Hg O St.wps aO iB Lv Ct Lp VL Option.bind aY sAt fD bK bW mkI fE gO bF aJ ite Dr
instance e77_:Ent E 77:=aX Tryz.func77
instance c77_ (s1:ByteArray) {r0:Bool}:Con E 77 (jF s1=some r0) [.val (vs s1)] [vb r0] []:=by
 refine fW Tryz.func77 fun C q=>?_
 unfold jF
 repeat' first | refine And.intro ?_ ?_ | refine Prod.forall.2 ?_ | (intro _;try dsimp only) | refine fS ?_ | exact Z | refine cH 3016 [0,3,4] [] (fun v=>[(4,.t (vi v))]) (fun _=>[]) (by unfold gG;rfl) ?_ | refine iF 2020 [] [] (fun _=>[]) (fun _=>[]) ?_ | refine S ?_
instance e80_:Ent E 80:=aX Tryz.func80
instance c80_ (a0:Int) {r0:Bool}:Con E 80 (gE a0=some r0) [.val (vi a0)] [vb r0] []:=by
 refine fW Tryz.func80 fun C q=>?_
 unfold gE
 repeat' first | refine And.intro ?_ ?_ | refine Prod.forall.2 ?_ | (intro _;try dsimp only) | refine fS ?_ | exact Z | refine S ?_
instance e82_:Ent E 82:=aX Tryz.func82
instance c82_ (t1:ByteArray) (a0:Int) {r0:ByteArray}:Con E 82 (jA t1 a0=some r0) [.val (vs t1),.val (vi a0)] [vs r0] []:=by
 refine fW Tryz.func82 fun C q=>?_
 unfold jA
 repeat' first | refine And.intro ?_ ?_ | refine Prod.forall.2 ?_ | (intro _;try dsimp only) | refine fS ?_ | exact Z | refine dP 6001 [0,1,5,6,38] [] (fun v=>[(38,.t (vb v))]) (fun _=>[]) ?_ | refine cH 3018 [0,1,5,6] [] (fun v=>[(6,.t (vi v))]) (fun _=>[]) (by unfold iZ;rfl) ?_ | refine iF 2022 [] [] (fun _=>[]) (fun _=>[]) ?_ | refine S ?_
instance e83_:Ent E 83:=aX Tryz.func83
instance c83_ (r1:Gl05Read) (a0:Int) (a1:ByteArray) {r0:Bool} {q0:Gl05Read}:Con E 83 (aE r1 a0 a1=some (r0,q0)) [.ptr [.sl true 3 (List.map GSign.enc r1.list),vi r1.at_,vb r1.bad,vi r1.deep,.sl true 4 (List.map (GNode.enc true) r1.nodes)],.val (vi a0),.val (vs a1)] [vb r0] [[.sl true 3 (List.map GSign.enc q0.list),vi q0.at_,vb q0.bad,vi q0.deep,.sl true 4 (List.map (GNode.enc true) q0.nodes)]]:=by
 refine fW Tryz.func83 fun C q=>?_
 unfold aE
 repeat' first | refine And.intro ?_ ?_ | refine Prod.forall.2 ?_ | (intro _;try dsimp only) | refine fS ?_ | exact Z | refine S ?_
instance e75_:Ent E 75:=aX Tryz.func75
instance c75_ (s1:ByteArray) {r0:Bool}:Con E 75 (mZ s1=some r0) [.val (vs s1)] [vb r0] []:=by
 refine fW Tryz.func75 fun C q=>?_
 unfold mZ
 repeat' first | refine And.intro ?_ ?_ | refine Prod.forall.2 ?_ | (intro _;try dsimp only) | refine fS ?_ | exact Z | refine S ?_
instance e79_:Ent E 79:=aX Tryz.func79
instance c79_ (a0:Int) {r0:Bool}:Con E 79 (oC a0=some r0) [.val (vi a0)] [vb r0] []:=by
 refine fW Tryz.func79 fun C q=>?_
 unfold oC
 repeat' first | refine And.intro ?_ ?_ | refine Prod.forall.2 ?_ | (intro _;try dsimp only) | refine fS ?_ | exact Z | refine S ?_
instance e27_:Ent E 27:=aX Tryz.func27
instance c27_ (p1:GProgram) {r0:List Int}:Con E 27 (iT p1=some r0) [.val (GProgram.enc false p1)] [.sl true 1 (List.map vi r0)] []:=by
 refine fW Tryz.func27 fun C q=>?_
 unfold iT
 repeat' first | refine And.intro ?_ ?_ | refine Prod.forall.2 ?_ | (intro _;try dsimp only) | refine fS ?_ | exact Z | refine cK 7 [1,3,4,5,7] [1] (fun v=>[(7,.t (vb v))]) (fun _=>[]) ?_ | refine cK 8 [1,3,4,5,7,46] [1] (fun v=>[(46,.t (vb v))]) (fun _=>[]) ?_ | refine dP 8005 [1,3,4,5,7] [1] (fun v=>[(4,.t (.sl true 1 (List.map vi v)))]) (fun _=>[]) ?_ | refine cH 11010 [1,3,4,5,7,8] [1] (fun v=>[(3,.t (.sl true 1 (List.map vb v.1))),(8,.t (vi v.2))]) (fun _=>[]) (by unfold cR;rfl) ?_ | refine dP 6025 [1,3,4,5] [1] (fun v=>[(3,.t (.sl true 1 (List.map vb v.1))),(4,.t (.sl true 1 (List.map vi v.2)))]) (fun _=>[]) ?_ | refine cH 4033 [1,3,4,5] [1] (fun v=>[(3,.t (.sl true 1 (List.map vb v.1))),(4,.t (.sl true 1 (List.map vi v.2.1))),(5,.t (vi v.2.2))]) (fun _=>[]) (by unfold eC;rfl) ?_ | refine dP 3037 [4] [] (fun v=>[(4,.t (.sl true 1 (List.map vi v)))]) (fun _=>[]) ?_ | refine S ?_
instance e46_:Ent E 46:=aX Tryz.func46
instance c46_ (l1:List GNode) {r0:List GNode}:Con E 46 (kF l1=some r0) [.val (.sl false 4 (List.map (GNode.enc false) l1))] [.sl true 4 (List.map (GNode.enc true) r0)] []:=by
 refine fW Tryz.func46 fun C q=>?_
 unfold kF
 repeat' first | refine And.intro ?_ ?_ | refine Prod.forall.2 ?_ | (intro _;try dsimp only) | refine fS ?_ | exact Z | refine cH 3014 [3,6,7,8] [] (fun v=>[(3,.t (.sl true 4 (List.map (GNode.enc true) v.1))),(8,.t (vi v.2))]) (fun _=>[]) (by unfold gI;rfl) ?_ | refine dP 2018 [3] [] (fun v=>[(3,.t (.sl true 4 (List.map (GNode.enc true) v)))]) (fun _=>[]) ?_ | refine S ?_
end
end Go.Proofs.T
