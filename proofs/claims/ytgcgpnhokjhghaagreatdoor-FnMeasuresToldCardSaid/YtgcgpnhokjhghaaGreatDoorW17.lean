import Derived.Test.YtgcgpnhokjhghaaGreatDoorW0
import Derived.Test.YtgcgpnhokjhghaaGreatDoorW12
import Derived.Test.YtgcgpnhokjhghaaGreatDoorW13
import Derived.Test.YtgcgpnhokjhghaaGreatDoorW2
import Derived.Test.YtgcgpnhokjhghaaGreatDoorW3
import Derived.Test.YtgcgpnhokjhghaaGreatDoorW4
import Derived.Test.YtgcgpnhokjhghaaGreatDoorW5
import Derived.Test.YtgcgpnhokjhghaaGreatDoorW6
import Derived.Test.YtgcgpnhokjhghaaGreatDoorW9
set_option linter.unusedVariables false
set_option linter.unusedSimpArgs false
set_option linter.unusedVariables false
set_option linter.unusedSimpArgs false
set_option maxHeartbeats 8000000
set_option maxRecDepth 100000
namespace Go.Proofs.T
open Go.OM
section
attribute [local irreducible] Hg O St.wps aQ iB Lv Ct Lp VL Option.bind bD sAt gB bC cE mkI gK iZ bO aJ ite Dr
abbrev K89 (f:Gl05Read→Option ((List Int) × Gl05Read)):Prop:=∀ (a0:Gl05Read) (r0:List Int) (q0:Gl05Read),Con E 89 (f a0=some (r0,q0)) [.ptr [.sl true 3 (List.map GSign.enc a0.list),vi a0.at_,vb a0.bad,vi a0.deep,.sl true 4 (List.map (GNode.enc true) a0.nodes)]] [.sl true 1 (List.map vi r0)] [[.sl true 3 (List.map GSign.enc q0.list),vi q0.at_,vb q0.bad,vi q0.deep,.sl true 4 (List.map (GNode.enc true) q0.nodes)]]
instance e89_:Ent E 89:=aZ Tryz.func89
abbrev K118 (f:Gl05Read→Option (Int × Gl05Read)):Prop:=∀ (a0:Gl05Read) (r0:Int) (q0:Gl05Read),Con E 118 (f a0=some (r0,q0)) [.ptr [.sl true 3 (List.map GSign.enc a0.list),vi a0.at_,vb a0.bad,vi a0.deep,.sl true 4 (List.map (GNode.enc true) a0.nodes)]] [vi r0] [[.sl true 3 (List.map GSign.enc q0.list),vi q0.at_,vb q0.bad,vi q0.deep,.sl true 4 (List.map (GNode.enc true) q0.nodes)]]
instance e118_:Ent E 118:=aZ Tryz.func118
abbrev K134 (f:Gl05Read→Option (Int × Gl05Read)):Prop:=∀ (a0:Gl05Read) (r0:Int) (q0:Gl05Read),Con E 134 (f a0=some (r0,q0)) [.ptr [.sl true 3 (List.map GSign.enc a0.list),vi a0.at_,vb a0.bad,vi a0.deep,.sl true 4 (List.map (GNode.enc true) a0.nodes)]] [vi r0] [[.sl true 3 (List.map GSign.enc q0.list),vi q0.at_,vb q0.bad,vi q0.deep,.sl true 4 (List.map (GNode.enc true) q0.nodes)]]
instance e134_:Ent E 134:=aZ Tryz.func134
theorem qK (a0:Gl05Read→Option ((List Int) × Gl05Read)) (a5:K89 a0) (a2:Gl05Read→Option (Int × Gl05Read)) (a3:K118 a2) (a1:Gl05Read→Option (Int × Gl05Read)) (a4:K134 a1):K89 (cG a0 a2 a1):=by
 intro r1 r0 q0
 refine iA Tryz.func89 fun C q=>?_
 unfold cG
 repeat' first | refine And.intro ?_ ?_ | refine Prod.forall.2 ?_ | (intro _;try dsimp only) | refine gW ?_ | exact Z | refine dL 2 [0,3,20] [28] (fun v=>[(20,.t (vb v.1))]) (fun v=>[(28,[.sl true 3 (List.map GSign.enc v.2.list),vi v.2.at_,vb v.2.bad,vi v.2.deep,.sl true 4 (List.map (GNode.enc true) v.2.nodes)])]) ?_ | refine dG 2010 [0,3] [28] (fun v=>[(3,.t (.sl true 1 (List.map vi v.1)))]) (fun v=>[(28,[.sl true 3 (List.map GSign.enc v.2.list),vi v.2.at_,vb v.2.bad,vi v.2.deep,.sl true 4 (List.map (GNode.enc true) v.2.nodes)])]) (by unfold dO;rfl) ?_ | refine eJ 2012 [0,3] [28] (fun v=>[(3,.t (.sl true 1 (List.map vi v.1)))]) (fun v=>[(28,[.sl true 3 (List.map GSign.enc v.2.list),vi v.2.at_,vb v.2.bad,vi v.2.deep,.sl true 4 (List.map (GNode.enc true) v.2.nodes)])]) ?_ | refine S ?_
theorem qY (a0:Gl05Read→Option ((List Int) × Gl05Read)) (a5:K89 a0) (a2:Gl05Read→Option (Int × Gl05Read)) (a3:K118 a2) (a1:Gl05Read→Option (Int × Gl05Read)) (a4:K134 a1):K118 (cP a0 a2 a1):=by
 intro r1 r0 q0
 refine iA Tryz.func118 fun C q=>?_
 unfold cP
 repeat' first | refine And.intro ?_ ?_ | refine Prod.forall.2 ?_ | (intro _;try dsimp only) | refine gW ?_ | exact Z | refine eJ 12005 [0,5,6] [83] (fun _=>[]) (fun v=>[(83,[.sl true 3 (List.map GSign.enc v.list),vi v.at_,vb v.bad,vi v.deep,.sl true 4 (List.map (GNode.enc true) v.nodes)])]) ?_ | refine S ?_
theorem qL (a0:Gl05Read→Option ((List Int) × Gl05Read)) (a5:K89 a0) (a2:Gl05Read→Option (Int × Gl05Read)) (a3:K118 a2) (a1:Gl05Read→Option (Int × Gl05Read)) (a4:K134 a1):K134 (cH a0 a2 a1):=by
 intro r1 r0 q0
 refine iA Tryz.func134 fun C q=>?_
 unfold cH
 repeat' first | refine And.intro ?_ ?_ | refine Prod.forall.2 ?_ | (intro _;try dsimp only) | refine gW ?_ | exact Z | refine eJ 2005 [0] [38] (fun _=>[]) (fun v=>[(38,[.sl true 3 (List.map GSign.enc v.list),vi v.at_,vb v.bad,vi v.deep,.sl true 4 (List.map (GNode.enc true) v.nodes)])]) ?_ | refine S ?_
theorem aU:∀ n:Nat,K89 (aC n).1∧K118 (aC n).2.1∧K134 (aC n).2.2
 | 0=>⟨(fun _ _ _=>Con.mk fun h=>nomatch h),(fun _ _ _=>Con.mk fun h=>nomatch h),(fun _ _ _=>Con.mk fun h=>nomatch h)⟩
 | n + 1=>⟨qK _ (aU n).1 _ (aU n).2.1 _ (aU n).2.2,qY _ (aU n).1 _ (aU n).2.1 _ (aU n).2.2,qL _ (aU n).1 _ (aU n).2.1 _ (aU n).2.2⟩
instance c89_:K89 iG:=(aU eX).1
instance c118_:K118 vO:=(aU eX).2.1
instance c134_:K134 uF:=(aU eX).2.2
instance e23_:Ent E 23:=aZ Tryz.func23
instance c23_ (p1:GProgram) (a0:Int) {r0:List Int}:Con E 23 (nR p1 a0=some r0) [.val (GProgram.enc false p1),.val (vi a0)] [.sl true 1 (List.map vi r0)] []:=by
 refine iA Tryz.func23 fun C q=>?_
 unfold nR
 repeat' first | refine And.intro ?_ ?_ | refine Prod.forall.2 ?_ | (intro _;try dsimp only) | refine gW ?_ | exact Z | refine dL 8 [5,6,7,8,9,44] [] (fun v=>[(44,.t (vb v))]) (fun _=>[]) ?_ | refine eJ 9001 [5,6,7,8,9,65] [] (fun v=>[(65,.t (vb v))]) (fun _=>[]) ?_ | refine eJ 12001 [5,6,7,8,9,89] [] (fun v=>[(89,.t (vb v))]) (fun _=>[]) ?_ | refine eJ 12005 [5,6,7,8,9] [] (fun v=>[(8,.t (vi v))]) (fun _=>[]) ?_ | refine dG 8026 [5,6,7,8,9] [] (fun v=>[(5,.t (.sl true 1 (List.map vi v.1))),(8,.t (vi v.2.1)),(9,.t (vi v.2.2))]) (fun _=>[]) (by unfold cK;rfl) ?_ | refine eJ 8028 [5] [] (fun v=>[(5,.t (.sl true 1 (List.map vi v)))]) (fun _=>[]) ?_ | refine S ?_
end
end Go.Proofs.T
