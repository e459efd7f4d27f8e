import Derived.Test.YteibeahceppedaaGreatDoorW0
import Derived.Test.YteibeahceppedaaGreatDoorW1
import Derived.Test.YteibeahceppedaaGreatDoorW12
import Derived.Test.YteibeahceppedaaGreatDoorW14
import Derived.Test.YteibeahceppedaaGreatDoorW5
import Derived.Test.YteibeahceppedaaGreatDoorW8
import Derived.Test.YteibeahceppedaaGreatDoorW9
set_option linter.unusedVariables false
set_option linter.unusedSimpArgs false
set_option linter.unusedVariables false
set_option linter.unusedSimpArgs false
set_option maxHeartbeats 8000000
set_option maxRecDepth 100000
namespace Go.Proofs.T
open Go.OM
section
attribute [local irreducible] Hg O St.wps aO iB Lv Ct Lp VL Option.bind aY sAt fD bK bW mkI fE gO bF aJ ite Dr
abbrev K87 (f:Gl05Read→Option ((List Int) × Gl05Read)):Prop:=∀ (a0:Gl05Read) (r0:List Int) (q0:Gl05Read),Con E 87 (f a0=some (r0,q0)) [.ptr [.sl true 3 (List.map GSign.enc a0.list),vi a0.at_,vb a0.bad,vi a0.deep,.sl true 4 (List.map (GNode.enc true) a0.nodes)]] [.sl true 1 (List.map vi r0)] [[.sl true 3 (List.map GSign.enc q0.list),vi q0.at_,vb q0.bad,vi q0.deep,.sl true 4 (List.map (GNode.enc true) q0.nodes)]]
instance e87_:Ent E 87:=aX Tryz.func87
abbrev K100 (f:Gl05Read→Option (Int × Gl05Read)):Prop:=∀ (a0:Gl05Read) (r0:Int) (q0:Gl05Read),Con E 100 (f a0=some (r0,q0)) [.ptr [.sl true 3 (List.map GSign.enc a0.list),vi a0.at_,vb a0.bad,vi a0.deep,.sl true 4 (List.map (GNode.enc true) a0.nodes)]] [vi r0] [[.sl true 3 (List.map GSign.enc q0.list),vi q0.at_,vb q0.bad,vi q0.deep,.sl true 4 (List.map (GNode.enc true) q0.nodes)]]
instance e100_:Ent E 100:=aX Tryz.func100
abbrev K107 (f:Gl05Read→Option (Int × Gl05Read)):Prop:=∀ (a0:Gl05Read) (r0:Int) (q0:Gl05Read),Con E 107 (f a0=some (r0,q0)) [.ptr [.sl true 3 (List.map GSign.enc a0.list),vi a0.at_,vb a0.bad,vi a0.deep,.sl true 4 (List.map (GNode.enc true) a0.nodes)]] [vi r0] [[.sl true 3 (List.map GSign.enc q0.list),vi q0.at_,vb q0.bad,vi q0.deep,.sl true 4 (List.map (GNode.enc true) q0.nodes)]]
instance e107_:Ent E 107:=aX Tryz.func107
theorem qT (a0:Gl05Read→Option ((List Int) × Gl05Read)) (a5:K87 a0) (a2:Gl05Read→Option (Int × Gl05Read)) (a3:K100 a2) (a1:Gl05Read→Option (Int × Gl05Read)) (a4:K107 a1):K87 (cM a0 a2 a1):=by
 intro r1 r0 q0
 refine fW Tryz.func87 fun C q=>?_
 unfold cM
 repeat' first | refine And.intro ?_ ?_ | refine Prod.forall.2 ?_ | (intro _;try dsimp only) | refine fS ?_ | exact Z | refine cK 2 [0,3,20] [28] (fun v=>[(20,.t (vb v.1))]) (fun v=>[(28,[.sl true 3 (List.map GSign.enc v.2.list),vi v.2.at_,vb v.2.bad,vi v.2.deep,.sl true 4 (List.map (GNode.enc true) v.2.nodes)])]) ?_ | refine cH 2010 [0,3] [28] (fun v=>[(3,.t (.sl true 1 (List.map vi v.1)))]) (fun v=>[(28,[.sl true 3 (List.map GSign.enc v.2.list),vi v.2.at_,vb v.2.bad,vi v.2.deep,.sl true 4 (List.map (GNode.enc true) v.2.nodes)])]) (by unfold eD;rfl) ?_ | refine dP 2012 [0,3] [28] (fun v=>[(3,.t (.sl true 1 (List.map vi v.1)))]) (fun v=>[(28,[.sl true 3 (List.map GSign.enc v.2.list),vi v.2.at_,vb v.2.bad,vi v.2.deep,.sl true 4 (List.map (GNode.enc true) v.2.nodes)])]) ?_ | refine S ?_
theorem rF (a0:Gl05Read→Option ((List Int) × Gl05Read)) (a5:K87 a0) (a2:Gl05Read→Option (Int × Gl05Read)) (a3:K100 a2) (a1:Gl05Read→Option (Int × Gl05Read)) (a4:K107 a1):K100 (cX a0 a2 a1):=by
 intro r1 r0 q0
 refine fW Tryz.func100 fun C q=>?_
 unfold cX
 repeat' first | refine And.intro ?_ ?_ | refine Prod.forall.2 ?_ | (intro _;try dsimp only) | refine fS ?_ | exact Z | refine dP 12005 [0,5,6] [83] (fun _=>[]) (fun v=>[(83,[.sl true 3 (List.map GSign.enc v.list),vi v.at_,vb v.bad,vi v.deep,.sl true 4 (List.map (GNode.enc true) v.nodes)])]) ?_ | refine S ?_
theorem qU (a0:Gl05Read→Option ((List Int) × Gl05Read)) (a5:K87 a0) (a2:Gl05Read→Option (Int × Gl05Read)) (a3:K100 a2) (a1:Gl05Read→Option (Int × Gl05Read)) (a4:K107 a1):K107 (cN a0 a2 a1):=by
 intro r1 r0 q0
 refine fW Tryz.func107 fun C q=>?_
 unfold cN
 repeat' first | refine And.intro ?_ ?_ | refine Prod.forall.2 ?_ | (intro _;try dsimp only) | refine fS ?_ | exact Z | refine dP 2005 [0] [38] (fun _=>[]) (fun v=>[(38,[.sl true 3 (List.map GSign.enc v.list),vi v.at_,vb v.bad,vi v.deep,.sl true 4 (List.map (GNode.enc true) v.nodes)])]) ?_ | refine S ?_
theorem aV:∀ n:Nat,K87 (aC n).1∧K100 (aC n).2.1∧K107 (aC n).2.2
 | 0=>⟨(fun _ _ _=>Con.mk fun h=>nomatch h),(fun _ _ _=>Con.mk fun h=>nomatch h),(fun _ _ _=>Con.mk fun h=>nomatch h)⟩
 | n + 1=>⟨qT _ (aV n).1 _ (aV n).2.1 _ (aV n).2.2,rF _ (aV n).1 _ (aV n).2.1 _ (aV n).2.2,qU _ (aV n).1 _ (aV n).2.1 _ (aV n).2.2⟩
instance c87_:K87 iQ:=(aV bV).1
instance c100_:K100 vT:=(aV bV).2.1
instance c107_:K107 uH:=(aV bV).2.2
end
end Go.Proofs.T
