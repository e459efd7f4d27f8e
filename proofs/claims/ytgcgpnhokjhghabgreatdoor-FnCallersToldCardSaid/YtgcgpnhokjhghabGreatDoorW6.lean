import Derived.Test.YtgcgpnhokjhghabGreatDoorW0
import Derived.Test.YtgcgpnhokjhghabGreatDoorW1
import Derived.Test.YtgcgpnhokjhghabGreatDoorW2
import Derived.Test.YtgcgpnhokjhghabGreatDoorW3
set_option linter.unusedVariables false
set_option linter.unusedSimpArgs false
set_option linter.unusedVariables false
set_option linter.unusedSimpArgs false
set_option maxHeartbeats 8000000
set_option maxRecDepth 100000
namespace Go.Proofs.T
open Go.OM
section
attribute [local irreducible] Hg O St.wps aO iB Lv Ct Lp VL Option.bind aP sAt eK bN bO mkI eS fO bF aI ite Dr
instance e34_:Ent E 34:=aY Tryz.func34
instance c34_ (c1:Gl01Cur) (n2:Int) {r0:Int} {q0:Gl01Cur}:Con E 34 (bX c1 n2=some (r0,q0)) [.ptr [.sl false 1 (List.map (vk .u8) c1.b),vi c1.i,vi c1.h],.val (vi n2)] [vi r0] [[.sl false 1 (List.map (vk .u8) q0.b),vi q0.i,vi q0.h]]:=by
 refine eZ Tryz.func34 fun C q=>?_;unfold bX;repeat' first | refine And.intro ?_ ?_ | refine Prod.forall.2 ?_ | (intro _;try dsimp only) | refine eY ?_ | exact Z | refine S ?_
instance e115_:Ent E 115:=aY Tryz.func115
instance c115_ (r1:Gl05Read) (a0:Int) (a1:ByteArray) {r0:Bool} {q0:Gl05Read}:Con E 115 (aF r1 a0 a1=some (r0,q0)) [.ptr [.sl true 3 (List.map GSign.enc r1.list),vi r1.at_,vb r1.bad,vi r1.deep,.sl true 4 (List.map (GNode.enc true) r1.nodes)],.val (vi a0),.val (vs a1)] [vb r0] [[.sl true 3 (List.map GSign.enc q0.list),vi q0.at_,vb q0.bad,vi q0.deep,.sl true 4 (List.map (GNode.enc true) q0.nodes)]]:=by
 refine eZ Tryz.func115 fun C q=>?_;unfold aF;repeat' first | refine And.intro ?_ ?_ | refine Prod.forall.2 ?_ | (intro _;try dsimp only) | refine eY ?_ | exact Z | refine S ?_
instance e145_:Ent E 145:=aY Tryz.func145
instance c145_ (n1:Int) {r0:ByteArray}:Con E 145 (kZ n1=some r0) [.val (vi n1)] [vs r0] []:=by
 refine eZ Tryz.func145 fun C q=>?_;unfold kZ;repeat' first | refine And.intro ?_ ?_ | refine Prod.forall.2 ?_ | (intro _;try dsimp only) | refine eY ?_ | exact Z | refine cG 7005 [0,3,4,5] [] (fun v=>[(5,.t (vi v))]) (fun _=>[]) ?_ | refine bG 5018 [0,3,4] [] (fun v=>[(0,.t (vi v.1)),(4,.t (vs v.2))]) (fun _=>[]) (by unfold kY;rfl) ?_ | refine cG 5020 [3,4] [] (fun v=>[(4,.t (vs v))]) (fun _=>[]) ?_ | refine S ?_
instance e96_:Ent E 96:=aY Tryz.func96
instance c96_ (s1:ByteArray) {r0:Bool}:Con E 96 (qK s1=some r0) [.val (vs s1)] [vb r0] []:=by
 refine eZ Tryz.func96 fun C q=>?_;unfold qK;repeat' first | refine And.intro ?_ ?_ | refine Prod.forall.2 ?_ | (intro _;try dsimp only) | refine eY ?_ | exact Z | refine S ?_
instance e73_:Ent E 73:=aY Tryz.func73
instance c73_ (a0:Int) {r0:Bool}:Con E 73 (nO a0=some r0) [.val (vi a0)] [vb r0] []:=by
 refine eZ Tryz.func73 fun C q=>?_;unfold nO;repeat' first | refine And.intro ?_ ?_ | refine Prod.forall.2 ?_ | (intro _;try dsimp only) | refine eY ?_ | exact Z | refine S ?_
instance e148_:Ent E 148:=aY Tryz.func148
instance c148_ (a0:Int) {r0:Bool}:Con E 148 (rT a0=some r0) [.val (vi a0)] [vb r0] []:=by
 refine eZ Tryz.func148 fun C q=>?_;unfold rT;repeat' first | refine And.intro ?_ ?_ | refine Prod.forall.2 ?_ | (intro _;try dsimp only) | refine eY ?_ | exact Z | refine S ?_
instance e131_:Ent E 131:=aY Tryz.func131
instance c131_ (a0:Int) {r0:Bool}:Con E 131 (qG a0=some r0) [.val (vi a0)] [vb r0] []:=by
 refine eZ Tryz.func131 fun C q=>?_;unfold qG;repeat' first | refine And.intro ?_ ?_ | refine Prod.forall.2 ?_ | (intro _;try dsimp only) | refine eY ?_ | exact Z | refine cR 1 [2] [] (fun v=>[(2,.t (vb v))]) (fun _=>[]) ?_ | refine S ?_
instance e51_:Ent E 51:=aY Tryz.func51
instance c51_ (l1:List GNode) {r0:List GNode}:Con E 51 (mV l1=some r0) [.val (.sl false 4 (List.map (GNode.enc false) l1))] [.sl true 4 (List.map (GNode.enc true) r0)] []:=by
 refine eZ Tryz.func51 fun C q=>?_;unfold mV;repeat' first | refine And.intro ?_ ?_ | refine Prod.forall.2 ?_ | (intro _;try dsimp only) | refine eY ?_ | exact Z | refine bG 3014 [3,6,7,8] [] (fun v=>[(3,.t (.sl true 4 (List.map (GNode.enc true) v.1))),(8,.t (vi v.2))]) (fun _=>[]) (by unfold iZ;rfl) ?_ | refine cG 2018 [3] [] (fun v=>[(3,.t (.sl true 4 (List.map (GNode.enc true) v)))]) (fun _=>[]) ?_ | refine S ?_
abbrev K68 (f:Gl07Seen→Int→Option (Gl07Seen)):Prop:=∀ (a0:Gl07Seen) (a1:Int) (q0:Gl07Seen),Con E 68 (f a0 a1=some q0) [.ptr [.sl false 4 (List.map (GNode.enc false) a0.p.Nodes),.sl false 5 (List.map (GFn.enc false) a0.p.Fns),vi a0.fn,.sl false 1 (List.map vs a0.there),vb a0.bad],.val (vi a1)] [] [[.sl false 4 (List.map (GNode.enc false) q0.p.Nodes),.sl false 5 (List.map (GFn.enc false) q0.p.Fns),vi q0.fn,.sl false 1 (List.map vs q0.there),vb q0.bad]]
instance e68_:Ent E 68:=aY Tryz.func68
theorem uR (a0:Gl07Seen→Int→Option (Gl07Seen)) (a1:K68 a0):K68 (fI a0):=by
 intro s1 k2 q0;refine eZ Tryz.func68 fun C q=>?_;unfold fI;repeat' first | refine And.intro ?_ ?_ | refine Prod.forall.2 ?_ | (intro _;try dsimp only) | refine eY ?_ | exact Z | refine bG 2010 [0,4,5] [4,98] (fun v=>[(5,.t (vi v.1))]) (fun v=>[(98,[.sl false 4 (List.map (GNode.enc false) v.2.p.Nodes),.sl false 5 (List.map (GFn.enc false) v.2.p.Fns),vi v.2.fn,.sl false 1 (List.map vs v.2.there),vb v.2.bad])]) (by unfold dJ;rfl) ?_ | refine cG 1014 [0,4] [4,98] (fun _=>[]) (fun v=>[(98,[.sl false 4 (List.map (GNode.enc false) v.p.Nodes),.sl false 5 (List.map (GFn.enc false) v.p.Fns),vi v.fn,.sl false 1 (List.map vs v.there),vb v.bad])]) ?_ | refine cG 6017 [0,4,30,31] [4,98] (fun v=>[(31,.t (vb v))]) (fun _=>[]) ?_ | refine S ?_
theorem mH:∀ n:Nat,K68 (cL n)
 | 0=>(fun _ _ _=>Con.mk fun h=>nomatch h)
 | n + 1=>uR _ (mH n)
instance c68_:K68 gQ:=(mH bL)
end
end Go.Proofs.T
