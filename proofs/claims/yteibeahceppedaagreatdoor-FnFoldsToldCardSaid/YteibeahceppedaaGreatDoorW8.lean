import Derived.Test.YteibeahceppedaaGreatDoorW0
import Derived.Test.YteibeahceppedaaGreatDoorW1
import Derived.Test.YteibeahceppedaaGreatDoorW2
import Derived.Test.YteibeahceppedaaGreatDoorW3
import Derived.Test.YteibeahceppedaaGreatDoorW4
import Derived.Test.YteibeahceppedaaGreatDoorW5
import Derived.Test.YteibeahceppedaaGreatDoorW6
set_option linter.unusedVariables false
set_option linter.unusedSimpArgs false
set_option linter.unusedVariables false
set_option linter.unusedSimpArgs false
set_option maxHeartbeats 8000000
set_option maxRecDepth 100000
namespace Go.Proofs.T
open Go.OM
section
attribute [local irreducible] Hg O St.wps aO iB Lv Ct Lp VL Option.bind aY sAt fD bK bW mkI fE gO bF aJ ite Dr
instance e38_:Ent E 38:=aX Tryz.func38
instance c38_ (c1:Gl01Cur) (n2:Int) {r0:Bool} {q0:Gl01Cur}:Con E 38 (eM c1 n2=some (r0,q0)) [.ptr [.sl false 1 (List.map (vk .u8) c1.b),vi c1.i,vi c1.h],.val (vi n2)] [vb r0] [[.sl false 1 (List.map (vk .u8) q0.b),vi q0.i,vi q0.h]]:=by
 refine fW Tryz.func38 fun C q=>?_
 unfold eM
 repeat' first | refine And.intro ?_ ?_ | refine Prod.forall.2 ?_ | (intro _;try dsimp only) | refine fS ?_ | exact Z | refine S ?_
instance e71_:Ent E 71:=aX Tryz.func71
instance c71_ (t1:ByteArray) {r0:List GSign} {r1:Bool}:Con E 71 (jE t1=some (r0,r1)) [.val (vs t1)] [.sl true 3 (List.map GSign.enc r0),vb r1] []:=by
 refine fW Tryz.func71 fun C q=>?_
 unfold jE
 repeat' first | refine And.intro ?_ ?_ | refine Prod.forall.2 ?_ | (intro _;try dsimp only) | refine fS ?_ | exact Z | refine cK 7 [0,4,5,6,29] [] (fun v=>[(29,.t (vb v))]) (fun _=>[]) ?_ | refine cK 11 [0,4,5,6,7,52] [] (fun v=>[(52,.t (vb v))]) (fun _=>[]) ?_ | refine cH 11008 [0,4,5,6,7] [] (fun v=>[(7,.t (vi v))]) (fun _=>[]) (by unfold jC;rfl) ?_ | refine dP 11010 [0,4,5,6,7] [] (fun v=>[(7,.t (vi v))]) (fun _=>[]) ?_ | refine iF 10028 [0,4,5,6,7] [] (fun v=>[(5,.t (.sl true 3 (List.map GSign.enc v.1))),(6,.t (vi v.2.1)),(7,.t (vi v.2.2))]) (fun _=>[]) ?_ | refine cK 19 [0,4,5,6,7,8,88] [] (fun v=>[(88,.t (vb v))]) (fun _=>[]) ?_ | refine cH 19010 [0,4,5,6,7,8] [] (fun v=>[(7,.t (vi v.1)),(8,.t (vi v.2))]) (fun _=>[]) (by unfold jB;rfl) ?_ | refine dP 19012 [0,4,5,6,7,8] [] (fun v=>[(7,.t (vi v.1)),(8,.t (vi v.2))]) (fun _=>[]) ?_ | refine cK 22 [0,4,5,7,8,106] [] (fun v=>[(106,.t (vb v))]) (fun _=>[]) ?_ | refine iF 17032 [0,4,5,6] [] (fun v=>[(5,.t (.sl true 3 (List.map GSign.enc v.1))),(6,.t (vi v.2))]) (fun _=>[]) ?_ | refine cH 6092 [0,4,5,6] [] (fun v=>[(5,.t (.sl true 3 (List.map GSign.enc v.1))),(6,.t (vi v.2))]) (fun _=>[]) (by unfold jD;rfl) ?_ | refine iF 6094 [5] [] (fun v=>[(5,.t (.sl true 3 (List.map GSign.enc v)))]) (fun _=>[]) ?_ | refine S ?_
instance e85_:Ent E 85:=aX Tryz.func85
instance c85_ (r1:Gl05Read) (a0:ByteArray) {q0:Gl05Read}:Con E 85 (aR r1 a0=some q0) [.ptr [.sl true 3 (List.map GSign.enc r1.list),vi r1.at_,vb r1.bad,vi r1.deep,.sl true 4 (List.map (GNode.enc true) r1.nodes)],.val (vs a0)] [] [[.sl true 3 (List.map GSign.enc q0.list),vi q0.at_,vb q0.bad,vi q0.deep,.sl true 4 (List.map (GNode.enc true) q0.nodes)]]:=by
 refine fW Tryz.func85 fun C q=>?_
 unfold aR
 repeat' first | refine And.intro ?_ ?_ | refine Prod.forall.2 ?_ | (intro _;try dsimp only) | refine fS ?_ | exact Z | refine S ?_
instance e57_:Ent E 57:=aX Tryz.func57
instance c57_ (s1:ByteArray) {r0:Bool}:Con E 57 (kN s1=some r0) [.val (vs s1)] [vb r0] []:=by
 refine fW Tryz.func57 fun C q=>?_
 unfold kN
 repeat' first | refine And.intro ?_ ?_ | refine Prod.forall.2 ?_ | (intro _;try dsimp only) | refine fS ?_ | exact Z | refine cK 1 [0,13] [] (fun v=>[(13,.t (vb v))]) (fun _=>[]) ?_ | refine cK 6 [0,3,31] [] (fun v=>[(31,.t (vb v))]) (fun _=>[]) ?_ | refine cH 4016 [0,3] [] (fun v=>[(3,.t (vi v))]) (fun _=>[]) (by unfold kI;rfl) ?_ | refine iF 3020 [0] [] (fun _=>[]) (fun _=>[]) ?_ | refine S ?_
instance e65_:Ent E 65:=aX Tryz.func65
instance c65_ (a0:Int) (i2:Int) (a1:Int) {r0:Bool}:Con E 65 (mW a0 i2 a1=some r0) [.val (vi a0),.val (vi i2),.val (vi a1)] [vb r0] []:=by
 refine fW Tryz.func65 fun C q=>?_
 unfold mW
 repeat' first | refine And.intro ?_ ?_ | refine Prod.forall.2 ?_ | (intro _;try dsimp only) | refine fS ?_ | exact Z | refine cK 3 [0,2,12] [] (fun v=>[(12,.t (vb v))]) (fun _=>[]) ?_ | refine S ?_
instance e30_:Ent E 30:=aX Tryz.func30
instance c30_ (p1:GProgram) {r0:GProgram} {r1:Bool}:Con E 30 (oG p1=some (r0,r1)) [.val (GProgram.enc false p1)] [GProgram.enc true r0,vb r1] []:=by
 refine fW Tryz.func30 fun C q=>?_
 unfold oG
 repeat' first | refine And.intro ?_ ?_ | refine Prod.forall.2 ?_ | (intro _;try dsimp only) | refine fS ?_ | exact Z | refine dP 8005 [2,4,5,7,12,13,14] [2,4,5,7] (fun _=>[]) (fun v=>[(4,[.sl false 4 (List.map (GNode.enc false) v.1.from_),.sl true 4 (List.map (GNode.enc true) v.1.to_),vb v.1.bad]),(7,[vs v.2.Name,.sl true 2 (List.map GParam.enc v.2.Params),vi v.2.Res,vi v.2.Body,vi v.2.Ret])]) ?_ | refine cH 4022 [2,4,5,12,13,14] [2,4,5] (fun v=>[(14,.t (vi v.1))]) (fun v=>[(4,[.sl false 4 (List.map (GNode.enc false) v.2.1.from_),.sl true 4 (List.map (GNode.enc true) v.2.1.to_),vb v.2.1.bad]),(5,[.sl true 4 (List.map (GNode.enc true) v.2.2.Nodes),.sl true 5 (List.map (GFn.enc true) v.2.2.Fns)])]) (by unfold cU;rfl) ?_ | refine dP 3026 [2,4,5] [2,4,5] (fun _=>[]) (fun v=>[(4,[.sl false 4 (List.map (GNode.enc false) v.1.from_),.sl true 4 (List.map (GNode.enc true) v.1.to_),vb v.1.bad]),(5,[.sl true 4 (List.map (GNode.enc true) v.2.Nodes),.sl true 5 (List.map (GFn.enc true) v.2.Fns)])]) ?_ | refine S ?_
instance e32_:Ent E 32:=aX Tryz.func32
instance c32_ (p1:GProgram) {r0:GProgram} {r1:Bool}:Con E 32 (nR p1=some (r0,r1)) [.val (GProgram.enc false p1)] [GProgram.enc true r0,vb r1] []:=by
 refine fW Tryz.func32 fun C q=>?_
 unfold nR
 repeat' first | refine And.intro ?_ ?_ | refine Prod.forall.2 ?_ | (intro _;try dsimp only) | refine fS ?_ | exact Z | refine dP 9005 [1,2,4,5,6,7] [1,2,5,7,11] (fun _=>[]) (fun v=>[(7,[vs v.1.Name,.sl true 2 (List.map GParam.enc v.1.Params),vi v.1.Res,vi v.1.Body,vi v.1.Ret]),(11,[.sl false 4 (List.map (GNode.enc false) v.2.from_),.sl true 4 (List.map (GNode.enc true) v.2.to_),vb v.2.bad])]) ?_ | refine cH 4022 [1,2,4,5,6] [1,2,5,11] (fun v=>[(6,.t (vi v.1))]) (fun v=>[(5,[.sl true 4 (List.map (GNode.enc true) v.2.1.Nodes),.sl true 5 (List.map (GFn.enc true) v.2.1.Fns)]),(11,[.sl false 4 (List.map (GNode.enc false) v.2.2.from_),.sl true 4 (List.map (GNode.enc true) v.2.2.to_),vb v.2.2.bad])]) (by unfold cT;rfl) ?_ | refine dP 3026 [2,4,5] [2,5,11] (fun _=>[]) (fun v=>[(5,[.sl true 4 (List.map (GNode.enc true) v.1.Nodes),.sl true 5 (List.map (GFn.enc true) v.1.Fns)]),(11,[.sl false 4 (List.map (GNode.enc false) v.2.from_),.sl true 4 (List.map (GNode.enc true) v.2.to_),vb v.2.bad])]) ?_ | refine cK 12 [2,4,5,60] [2,5,11] (fun v=>[(60,.t (vb v))]) (fun _=>[]) ?_ | refine S ?_
end
theorem res95:Tryz.f95.results.toList=[.tmp 4]:=rfl
theorem aK2:eG E.P 95:=eO Tryz.func95 (by simp [Tryz.f95]) rfl
theorem fZ (hb ho:Nat) (m1:Gl05Made) (a0:List ByteArray) (m3:Gl01Cur) {r0:ByteArray} {q2:Gl01Cur} (h:dC m1 a0 m3=some (r0,q2)):OkH E 95 2 [adr hb ho] [.ptr [.v (adr hb ho),.sl false 1 (List.map vs m1.ints),.sl false 1 (List.map vs m1.boxes),vi m1.n,vs m1.text,vb m1.wild],.val (.sl false 1 (List.map vs a0)),.ptr [.sl false 1 (List.map (vk .u8) m3.b),vi m3.i,vi m3.h]] [vs r0] [[.v (adr hb ho),.sl false 1 (List.map vs m1.ints),.sl false 1 (List.map vs m1.boxes),vi m1.n,vs m1.text,vb m1.wild],[.sl false 1 (List.map (vk .u8) q2.b),vi q2.i,vi q2.h]]:=by
 refine gU (fn:=Tryz.f95) (vis:=[.ptr [.v (adr hb ho),.sl false 1 (List.map vs m1.ints),.sl false 1 (List.map vs m1.boxes),vi m1.n,vs m1.text,vb m1.wild],.val (.sl false 1 (List.map vs a0))]) [0,1] [15,17] Tryz.func95 rfl (by simp [Tryz.f95]) rfl rfl rfl rfl fun C hN hP hPK hPKi=>?_
 have y:∀ l,tU [] l=true→lO C.pin l=true:=pO (by rw [hP];rfl)
 have q:C.N=15:=hN
 clear hN
 unfold dC at h
 iterate 11 first|refine V_q q ?_|apply aM|refine O.zT y ?_
 refine oO 9 17 hPK fun K u=>?_;simp [q];apply u
 obtain ⟨⟨r4,q5⟩,a5,h⟩:=bS h
 try dsimp only at h
 refine jW fun KW hKW=>?_
 refine hE [((.ptr 3),.tmp 9),(.take,.tmp 11)] q (Ent.ok (E:=E) (f:=33)) (Con.ok a5) ?_
 refine wN (hKW _ ?_);clear hKW
 obtain ⟨e7,a6,h⟩:=bS h
 obtain ⟨a1,a2,a3,a4⟩:=gS a6
 iterate 3 (refine V_q q ?_ rfl (by simp [a1,a2,a3,a4];rfl))
 apply aM
 cases h
 refine O.ret ?_
 simp [aO,iB,res95]
end Go.Proofs.T
