import Derived.Test.YtgcgpnhokjhghabGreatDoorW0
import Derived.Test.YtgcgpnhokjhghabGreatDoorW12
import Derived.Test.YtgcgpnhokjhghabGreatDoorW15
import Derived.Test.YtgcgpnhokjhghabGreatDoorW17
import Derived.Test.YtgcgpnhokjhghabGreatDoorW2
import Derived.Test.YtgcgpnhokjhghabGreatDoorW6
import Derived.Test.YtgcgpnhokjhghabGreatDoorW9
set_option linter.unusedVariables false
set_option linter.unusedSimpArgs false
set_option linter.unusedVariables false
set_option linter.unusedSimpArgs false
set_option maxHeartbeats 8000000
set_option maxRecDepth 100000
namespace Go.Proofs.T
open Go.OM
section
attribute [local irreducible] Hg O St.wps aO iB Lv Ct Lp VL Option.bind aP sAt eK bN bO mkI eS fO bF aI ite Dr
abbrev K119 (f:Gl05Read→Option ((List Int) × Gl05Read)):Prop:=∀ (a0:Gl05Read) (r0:List Int) (q0:Gl05Read),Con E 119 (f a0=some (r0,q0)) [.ptr [.sl true 3 (List.map GSign.enc a0.list),vi a0.at_,vb a0.bad,vi a0.deep,.sl true 4 (List.map (GNode.enc true) a0.nodes)]] [.sl true 1 (List.map vi r0)] [[.sl true 3 (List.map GSign.enc q0.list),vi q0.at_,vb q0.bad,vi q0.deep,.sl true 4 (List.map (GNode.enc true) q0.nodes)]]
instance e119_:Ent E 119:=aY Tryz.func119
abbrev K143 (f:Gl05Read→Option (Int × Gl05Read)):Prop:=∀ (a0:Gl05Read) (r0:Int) (q0:Gl05Read),Con E 143 (f a0=some (r0,q0)) [.ptr [.sl true 3 (List.map GSign.enc a0.list),vi a0.at_,vb a0.bad,vi a0.deep,.sl true 4 (List.map (GNode.enc true) a0.nodes)]] [vi r0] [[.sl true 3 (List.map GSign.enc q0.list),vi q0.at_,vb q0.bad,vi q0.deep,.sl true 4 (List.map (GNode.enc true) q0.nodes)]]
instance e143_:Ent E 143:=aY Tryz.func143
abbrev K152 (f:Gl05Read→Option (Int × Gl05Read)):Prop:=∀ (a0:Gl05Read) (r0:Int) (q0:Gl05Read),Con E 152 (f a0=some (r0,q0)) [.ptr [.sl true 3 (List.map GSign.enc a0.list),vi a0.at_,vb a0.bad,vi a0.deep,.sl true 4 (List.map (GNode.enc true) a0.nodes)]] [vi r0] [[.sl true 3 (List.map GSign.enc q0.list),vi q0.at_,vb q0.bad,vi q0.deep,.sl true 4 (List.map (GNode.enc true) q0.nodes)]]
instance e152_:Ent E 152:=aY Tryz.func152
theorem uU (a0:Gl05Read→Option ((List Int) × Gl05Read)) (a3:K119 a0) (a2:Gl05Read→Option (Int × Gl05Read)) (a4:K143 a2) (a1:Gl05Read→Option (Int × Gl05Read)) (a5:K152 a1):K119 (cW a0 a2 a1):=by
 intro r1 r0 q0;refine eZ Tryz.func119 fun C q=>?_;unfold cW;repeat' first | refine And.intro ?_ ?_ | refine Prod.forall.2 ?_ | (intro _;try dsimp only) | refine eY ?_ | exact Z | refine cR 2 [0,3,20] [28] (fun v=>[(20,.t (vb v.1))]) (fun v=>[(28,[.sl true 3 (List.map GSign.enc v.2.list),vi v.2.at_,vb v.2.bad,vi v.2.deep,.sl true 4 (List.map (GNode.enc true) v.2.nodes)])]) ?_ | refine bG 2010 [0,3] [28] (fun v=>[(3,.t (.sl true 1 (List.map vi v.1)))]) (fun v=>[(28,[.sl true 3 (List.map GSign.enc v.2.list),vi v.2.at_,vb v.2.bad,vi v.2.deep,.sl true 4 (List.map (GNode.enc true) v.2.nodes)])]) (by unfold eU;rfl) ?_ | refine cG 2012 [0,3] [28] (fun v=>[(3,.t (.sl true 1 (List.map vi v.1)))]) (fun v=>[(28,[.sl true 3 (List.map GSign.enc v.2.list),vi v.2.at_,vb v.2.bad,vi v.2.deep,.sl true 4 (List.map (GNode.enc true) v.2.nodes)])]) ?_ | refine S ?_
theorem vL (a0:Gl05Read→Option ((List Int) × Gl05Read)) (a3:K119 a0) (a2:Gl05Read→Option (Int × Gl05Read)) (a4:K143 a2) (a1:Gl05Read→Option (Int × Gl05Read)) (a5:K152 a1):K143 (dG a0 a2 a1):=by
 intro r1 r0 q0;refine eZ Tryz.func143 fun C q=>?_;unfold dG;repeat' first | refine And.intro ?_ ?_ | refine Prod.forall.2 ?_ | (intro _;try dsimp only) | refine eY ?_ | exact Z | refine cG 12005 [0,5,6] [83] (fun _=>[]) (fun v=>[(83,[.sl true 3 (List.map GSign.enc v.list),vi v.at_,vb v.bad,vi v.deep,.sl true 4 (List.map (GNode.enc true) v.nodes)])]) ?_ | refine S ?_
theorem uV (a0:Gl05Read→Option ((List Int) × Gl05Read)) (a3:K119 a0) (a2:Gl05Read→Option (Int × Gl05Read)) (a4:K143 a2) (a1:Gl05Read→Option (Int × Gl05Read)) (a5:K152 a1):K152 (cX a0 a2 a1):=by
 intro r1 r0 q0;refine eZ Tryz.func152 fun C q=>?_;unfold cX;repeat' first | refine And.intro ?_ ?_ | refine Prod.forall.2 ?_ | (intro _;try dsimp only) | refine eY ?_ | exact Z | refine cG 2005 [0] [38] (fun _=>[]) (fun v=>[(38,[.sl true 3 (List.map GSign.enc v.list),vi v.at_,vb v.bad,vi v.deep,.sl true 4 (List.map (GNode.enc true) v.nodes)])]) ?_ | refine S ?_
theorem bB:∀ n:Nat,K119 (aD n).1∧K143 (aD n).2.1∧K152 (aD n).2.2
 | 0=>⟨(fun _ _ _=>Con.mk fun h=>nomatch h),(fun _ _ _=>Con.mk fun h=>nomatch h),(fun _ _ _=>Con.mk fun h=>nomatch h)⟩
 | n + 1=>⟨uU _ (bB n).1 _ (bB n).2.1 _ (bB n).2.2,vL _ (bB n).1 _ (bB n).2.1 _ (bB n).2.2,uV _ (bB n).1 _ (bB n).2.1 _ (bB n).2.2⟩
instance c119_:K119 kH:=(bB bL).1
instance c143_:K143 aB1:=(bB bL).2.1
instance c152_:K152 zJ:=(bB bL).2.2
end
end Go.Proofs.T
