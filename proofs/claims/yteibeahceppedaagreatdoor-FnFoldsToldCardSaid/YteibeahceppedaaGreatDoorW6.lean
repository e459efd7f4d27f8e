import Derived.Test.YteibeahceppedaaGreatDoorW1
import Derived.Test.YteibeahceppedaaGreatDoorW2
set_option linter.unusedVariables false
set_option linter.unusedSimpArgs false
set_option linter.unusedVariables false
set_option linter.unusedSimpArgs false
set_option maxHeartbeats 8000000
set_option maxRecDepth 100000
namespace Go.Proofs.T
open Go.OM
section
attribute [local irreducible] Hg O St.wps aO iB Lv Ct Lp VL Option.bind aY sAt fD bK bW mkI fE gO bF aJ ite Dr
instance e33_:Ent E 33:=aX Tryz.func33
instance c33_ (c1:Gl01Cur) (n2:Int) {r0:Int} {q0:Gl01Cur}:Con E 33 (bP c1 n2=some (r0,q0)) [.ptr [.sl false 1 (List.map (vk .u8) c1.b),vi c1.i,vi c1.h],.val (vi n2)] [vi r0] [[.sl false 1 (List.map (vk .u8) q0.b),vi q0.i,vi q0.h]]:=by
 refine fW Tryz.func33 fun C q=>?_
 unfold bP
 repeat' first | refine And.intro ?_ ?_ | refine Prod.forall.2 ?_ | (intro _;try dsimp only) | refine fS ?_ | exact Z | refine S ?_
instance e31_:Ent E 31:=aX Tryz.func31
instance c31_ (p1:GProgram) {r0:GProgram}:Con E 31 (gQ p1=some r0) [.val (GProgram.enc false p1)] [GProgram.enc true r0] []:=by
 refine fW Tryz.func31 fun C q=>?_
 unfold gQ
 repeat' first | refine And.intro ?_ ?_ | refine Prod.forall.2 ?_ | (intro _;try dsimp only) | refine fS ?_ | exact Z | refine cH 3014 [1,2,3,4] [1,2,3] (fun v=>[(4,.t (vi v.1))]) (fun v=>[(3,[.sl true 4 (List.map (GNode.enc true) v.2.Nodes),.sl true 5 (List.map (GFn.enc true) v.2.Fns)])]) (by unfold iY;rfl) ?_ | refine dP 2018 [2,3] [2,3] (fun _=>[]) (fun v=>[(3,[.sl true 4 (List.map (GNode.enc true) v.Nodes),.sl true 5 (List.map (GFn.enc true) v.Fns)])]) ?_ | refine S ?_
instance e61_:Ent E 61:=aX Tryz.func61
instance c61_ (a0:Int) {r0:Bool}:Con E 61 (gR a0=some r0) [.val (vi a0)] [vb r0] []:=by
 refine fW Tryz.func61 fun C q=>?_
 unfold gR
 repeat' first | refine And.intro ?_ ?_ | refine Prod.forall.2 ?_ | (intro _;try dsimp only) | refine fS ?_ | exact Z | refine S ?_
instance e103_:Ent E 103:=aX Tryz.func103
instance c103_ (n1:Int) {r0:ByteArray}:Con E 103 (jI n1=some r0) [.val (vi n1)] [vs r0] []:=by
 refine fW Tryz.func103 fun C q=>?_
 unfold jI
 repeat' first | refine And.intro ?_ ?_ | refine Prod.forall.2 ?_ | (intro _;try dsimp only) | refine fS ?_ | exact Z | refine dP 7005 [0,3,4,5] [] (fun v=>[(5,.t (vi v))]) (fun _=>[]) ?_ | refine cH 5018 [0,3,4] [] (fun v=>[(0,.t (vi v.1)),(4,.t (vs v.2))]) (fun _=>[]) (by unfold jH;rfl) ?_ | refine dP 5020 [3,4] [] (fun v=>[(4,.t (vs v))]) (fun _=>[]) ?_ | refine S ?_
instance e58_:Ent E 58:=aX Tryz.func58
instance c58_ (a0:Int) {r0:Bool}:Con E 58 (kT a0=some r0) [.val (vi a0)] [vb r0] []:=by
 refine fW Tryz.func58 fun C q=>?_
 unfold kT
 repeat' first | refine And.intro ?_ ?_ | refine Prod.forall.2 ?_ | (intro _;try dsimp only) | refine fS ?_ | exact Z | refine S ?_
instance e66_:Ent E 66:=aX Tryz.func66
instance c66_ (a0:Int) {r0:Bool}:Con E 66 (mX a0=some r0) [.val (vi a0)] [vb r0] []:=by
 refine fW Tryz.func66 fun C q=>?_
 unfold mX
 repeat' first | refine And.intro ?_ ?_ | refine Prod.forall.2 ?_ | (intro _;try dsimp only) | refine fS ?_ | exact Z | refine cK 1 [2] [] (fun v=>[(2,.t (vb v))]) (fun _=>[]) ?_ | refine S ?_
abbrev K18 (f:GProgram→Int→Option (Int × Bool)):Prop:=∀ (a0:GProgram) (a1:Int) (r0:Int) (r1:Bool),Con E 18 (f a0 a1=some (r0,r1)) [.val (GProgram.enc false a0),.val (vi a1)] [vi r0,vb r1] []
instance e18_:Ent E 18:=aX Tryz.func18
theorem wM (a0:GProgram→Int→Option (Int × Bool)) (a1:K18 a0):K18 (kG a0):=by
 intro p1 k2 r0 r1
 refine fW Tryz.func18 fun C q=>?_
 unfold kG
 repeat' first | refine And.intro ?_ ?_ | refine Prod.forall.2 ?_ | (intro _;try dsimp only) | refine fS ?_ | exact Z | refine cK 8 [6,7,9,48] [6] (fun v=>[(48,.t (vb v))]) (fun _=>[]) ?_ | refine S ?_
theorem oF:∀ n:Nat,K18 (iE n)
 | 0=>(fun _ _ _ _=>Con.mk fun h=>nomatch h)
 | n + 1=>wM _ (oF n)
instance c18_:K18 oX:=(oF bV)
instance e28_:Ent E 28:=aX Tryz.func28
instance c28_ (a1:List GNode) (b2:List GNode) {r0:Bool}:Con E 28 (kB a1 b2=some r0) [.val (.sl false 4 (List.map (GNode.enc false) a1)),.val (.sl false 4 (List.map (GNode.enc false) b2))] [vb r0] []:=by
 refine fW Tryz.func28 fun C q=>?_
 unfold kB
 repeat' first | refine And.intro ?_ ?_ | refine Prod.forall.2 ?_ | (intro _;try dsimp only) | refine fS ?_ | exact Z | refine dP 6001 [0,1,5,67] [] (fun v=>[(67,.t (vb v))]) (fun _=>[]) ?_ | refine cH 4016 [0,1,5] [] (fun v=>[(5,.t (vi v))]) (fun _=>[]) (by unfold eS;rfl) ?_ | refine iF 3020 [] [] (fun _=>[]) (fun _=>[]) ?_ | refine S ?_
end
end Go.Proofs.T
