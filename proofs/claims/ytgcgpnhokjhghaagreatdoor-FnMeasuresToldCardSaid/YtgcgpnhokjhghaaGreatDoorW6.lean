import Derived.Test.YtgcgpnhokjhghaaGreatDoorW0
import Derived.Test.YtgcgpnhokjhghaaGreatDoorW2
import Derived.Test.YtgcgpnhokjhghaaGreatDoorW3
import Derived.Test.YtgcgpnhokjhghaaGreatDoorW4
import Derived.Test.YtgcgpnhokjhghaaGreatDoorW5
set_option linter.unusedVariables false
set_option linter.unusedSimpArgs false
set_option linter.unusedVariables false
set_option linter.unusedSimpArgs false
set_option maxHeartbeats 8000000
set_option maxRecDepth 100000
namespace Go.Proofs.T
open Go.OM
section
attribute [local irreducible] Hg O St.wps aQ iB Lv Ct Lp VL Option.bind bD sAt gB bC cE mkI gK iZ bO aJ ite Dr
instance e64_:Ent E 64:=aZ Tryz.func64
instance c64_ (a0:List GNode) (k2:Int) {r0:Bool}:Con E 64 (nT a0 k2=some r0) [.val (.sl false 4 (List.map (GNode.enc false) a0)),.val (vi k2)] [vb r0] []:=by
 refine iA Tryz.func64 fun C q=>?_
 unfold nT
 repeat' first | refine And.intro ?_ ?_ | refine Prod.forall.2 ?_ | (intro _;try dsimp only) | refine gW ?_ | exact Z | refine dL 1 [0,1,24] [] (fun v=>[(24,.t (vb v))]) (fun _=>[]) ?_ | refine dL 5 [0,1,5,57] [5] (fun v=>[(57,.t (vb v))]) (fun _=>[]) ?_ | refine eJ 7001 [0,1,5,75] [5] (fun v=>[(75,.t (vb v))]) (fun _=>[]) ?_ | refine eJ 12001 [0,1,5,8,107] [5] (fun v=>[(107,.t (vb v))]) (fun _=>[]) ?_ | refine dG 15016 [0,1,5,8,9] [5] (fun v=>[(9,.t (vi v))]) (fun _=>[]) (by unfold jS;rfl) ?_ | refine jZ 12029 [0,1,5,8] [5] (fun _=>[]) (fun _=>[]) ?_ | refine dG 10037 [0,1,5,8] [5] (fun v=>[(8,.t (vi v))]) (fun _=>[]) (by unfold jT;rfl) ?_ | refine jZ 9041 [] [] (fun _=>[]) (fun _=>[]) ?_ | refine S ?_
instance e51_:Ent E 51:=aZ Tryz.func51
instance c51_ (p1:GProgram) (i2:Int) {r0:Bool}:Con E 51 (pL p1 i2=some r0) [.val (GProgram.enc false p1),.val (vi i2)] [vb r0] []:=by
 refine iA Tryz.func51 fun C q=>?_
 unfold pL
 repeat' first | refine And.intro ?_ ?_ | refine Prod.forall.2 ?_ | (intro _;try dsimp only) | refine gW ?_ | exact Z | refine dL 2 [2,5,35] [2,5] (fun v=>[(35,.t (vb v))]) (fun _=>[]) ?_ | refine dL 7 [2,5,6,60] [2,5] (fun v=>[(60,.t (vb v))]) (fun _=>[]) ?_ | refine dG 5016 [2,5,6] [2,5] (fun v=>[(6,.t (vi v))]) (fun _=>[]) (by unfold kP;rfl) ?_ | refine jZ 4020 [2,5] [2,5] (fun _=>[]) (fun _=>[]) ?_ | refine dL 9 [2,5,78] [2,5] (fun v=>[(78,.t (vb v))]) (fun _=>[]) ?_ | refine dL 13 [4] [] (fun v=>[(4,.t (vb v))]) (fun _=>[]) ?_ | refine S ?_
instance e86_:Ent E 86:=aZ Tryz.func86
instance c86_ (r1:Gl05Read) {r0:ByteArray} {q0:Gl05Read}:Con E 86 (aX r1=some (r0,q0)) [.ptr [.sl true 3 (List.map GSign.enc r1.list),vi r1.at_,vb r1.bad,vi r1.deep,.sl true 4 (List.map (GNode.enc true) r1.nodes)]] [vs r0] [[.sl true 3 (List.map GSign.enc q0.list),vi q0.at_,vb q0.bad,vi q0.deep,.sl true 4 (List.map (GNode.enc true) q0.nodes)]]:=by
 refine iA Tryz.func86 fun C q=>?_
 unfold aX
 repeat' first | refine And.intro ?_ ?_ | refine Prod.forall.2 ?_ | (intro _;try dsimp only) | refine gW ?_ | exact Z | refine eJ 1001 [0,47] [71] (fun v=>[(47,.t (vb v))]) (fun _=>[]) ?_ | refine S ?_
instance e88_:Ent E 88:=aZ Tryz.func88
instance c88_ (r1:Gl05Read) {r0:Int} {q0:Gl05Read}:Con E 88 (cT r1=some (r0,q0)) [.ptr [.sl true 3 (List.map GSign.enc r1.list),vi r1.at_,vb r1.bad,vi r1.deep,.sl true 4 (List.map (GNode.enc true) r1.nodes)]] [vi r0] [[.sl true 3 (List.map GSign.enc q0.list),vi q0.at_,vb q0.bad,vi q0.deep,.sl true 4 (List.map (GNode.enc true) q0.nodes)]]:=by
 refine iA Tryz.func88 fun C q=>?_
 unfold cT
 repeat' first | refine And.intro ?_ ?_ | refine Prod.forall.2 ?_ | (intro _;try dsimp only) | refine gW ?_ | exact Z | refine eJ 7005 [0,3] [19] (fun v=>[(3,.t (vi v.1))]) (fun v=>[(19,[.sl true 3 (List.map GSign.enc v.2.list),vi v.2.at_,vb v.2.bad,vi v.2.deep,.sl true 4 (List.map (GNode.enc true) v.2.nodes)])]) ?_ | refine S ?_
instance e48_:Ent E 48:=aZ Tryz.func48
instance c48_ (a0:List GNode) (k2:Int) {r0:Bool}:Con E 48 (nW a0 k2=some r0) [.val (.sl false 4 (List.map (GNode.enc false) a0)),.val (vi k2)] [vb r0] []:=by
 refine iA Tryz.func48 fun C q=>?_
 unfold nW
 repeat' first | refine And.intro ?_ ?_ | refine Prod.forall.2 ?_ | (intro _;try dsimp only) | refine gW ?_ | exact Z | refine dL 5 [0,1,5,38] [5] (fun v=>[(38,.t (vb v))]) (fun _=>[]) ?_ | refine eJ 10001 [0,1,5,40,41,42,71] [5] (fun v=>[(71,.t (vb v))]) (fun _=>[]) ?_ | refine dG 8018 [0,1,5,40,41,42] [5] (fun v=>[(42,.t (vi v))]) (fun _=>[]) (by unfold jX;rfl) ?_ | refine jZ 7022 [5] [5] (fun _=>[]) (fun _=>[]) ?_ | refine dL 13 [5,91] [5] (fun v=>[(91,.t (vb v))]) (fun _=>[]) ?_ | refine S ?_
instance e46_:Ent E 46:=aZ Tryz.func46
instance c46_ (p1:GProgram) (f2:GFn) {r0:Bool}:Con E 46 (rU p1 f2=some r0) [.val (GProgram.enc false p1),.val (GFn.enc false f2)] [vb r0] []:=by
 refine iA Tryz.func46 fun C q=>?_
 unfold rU
 repeat' first | refine And.intro ?_ ?_ | refine Prod.forall.2 ?_ | (intro _;try dsimp only) | refine gW ?_ | exact Z | refine dL 1 [2,3,31] [2,3] (fun v=>[(31,.t (vb v))]) (fun _=>[]) ?_ | refine dL 6 [2,3,33,34,35,48] [2,3] (fun v=>[(48,.t (vb v))]) (fun _=>[]) ?_ | refine dG 4018 [2,3,33,34,35] [2,3] (fun v=>[(35,.t (vi v))]) (fun _=>[]) (by unfold mR;rfl) ?_ | refine jZ 3022 [2,3] [2,3] (fun _=>[]) (fun _=>[]) ?_ | refine dL 9 [2,3,67] [2,3] (fun v=>[(67,.t (vb v))]) (fun _=>[]) ?_ | refine dL 13 [4] [] (fun v=>[(4,.t (vb v))]) (fun _=>[]) ?_ | refine S ?_
instance e16_:Ent E 16:=aZ Tryz.func16
instance c16_ (m1:GMeasure) {r0:ByteArray}:Con E 16 (eY m1=some r0) [.val (GMeasure.enc m1)] [vs r0] []:=by
 refine iA Tryz.func16 fun C q=>?_
 unfold eY
 repeat' first | refine And.intro ?_ ?_ | refine Prod.forall.2 ?_ | (intro _;try dsimp only) | refine gW ?_ | exact Z | refine S ?_
end
theorem res120:Tryz.f120.results.toList=[.tmp 2]:=rfl
theorem aLc:cN E.P 120:=eO Tryz.func120 (by simp [Tryz.f120]) rfl
theorem lL (hb ho:Nat) (m1:Gl05Made) (m2:Gl01Cur) {r0:ByteArray} {q1:Gl01Cur} (h:dI m1 m2=some (r0,q1)):OkH E 120 1 [adr hb ho] [.ptr [.v (adr hb ho),.sl false 1 (List.map vs m1.ints),.sl false 1 (List.map vs m1.boxes),vi m1.n,vs m1.text,vb m1.wild],.ptr [.sl false 1 (List.map (vk .u8) m2.b),vi m2.i,vi m2.h]] [vs r0] [[.v (adr hb ho),.sl false 1 (List.map vs m1.ints),.sl false 1 (List.map vs m1.boxes),vi m1.n,vs m1.text,vb m1.wild],[.sl false 1 (List.map (vk .u8) q1.b),vi q1.i,vi q1.h]]:=by
 refine gL (fn:=Tryz.f120) (vis:=[.ptr [.v (adr hb ho),.sl false 1 (List.map vs m1.ints),.sl false 1 (List.map vs m1.boxes),vi m1.n,vs m1.text,vb m1.wild]]) [0] [9,10] Tryz.func120 rfl (by simp [Tryz.f120]) rfl rfl rfl rfl fun C hN hP hPK hPKi=>?_
 have y:∀ l,tI [] l=true→lO C.pin l=true:=pO (by rw [hP];rfl)
 have q:C.N=9:=hN
 clear hN
 unfold dI at h
 iterate 9 first|refine V_q q ?_|apply aP|refine O.zT y ?_
 refine oE 6 10 hPK fun K u=>?_;simp [q];apply u
 refine aDw 7 fun K u=>?_;simp [q];apply u
 obtain ⟨⟨r3,q4⟩,a0,h⟩:=bS h
 try dsimp only at h
 refine lK fun KW hKW=>?_
 refine dW [((.ptr 3),.tmp 6),(.take,.tmp 7)] q (Ent.ok (E:=E) (f:=97)) (Con.ok a0) ?_
 refine wN (hKW _ ?_);clear hKW
 refine V_q q ?_
 apply aP
 cases h
 refine O.ret ?_
 simp [aQ,iB,res120]
end Go.Proofs.T
