import Derived.Test.YtgcgpnhokjhghabGreatDoorW0
import Derived.Test.YtgcgpnhokjhghabGreatDoorW1
import Derived.Test.YtgcgpnhokjhghabGreatDoorW2
import Derived.Test.YtgcgpnhokjhghabGreatDoorW4
import Derived.Test.YtgcgpnhokjhghabGreatDoorW5
import Derived.Test.YtgcgpnhokjhghabGreatDoorW6
import Derived.Test.YtgcgpnhokjhghabGreatDoorW7
set_option linter.unusedVariables false
set_option linter.unusedSimpArgs false
set_option linter.unusedVariables false
set_option linter.unusedSimpArgs false
set_option maxHeartbeats 8000000
set_option maxRecDepth 100000
namespace Go.Proofs.T
open Go.OM
section
attribute [local irreducible] Hg O St.wps aO iB Lv Ct Lp VL Option.bind aP sAt eK bN bO mkI eS fO bF aI ite Dr
instance e76_:Ent E 76:=aY Tryz.func76
instance c76_ (s1:ByteArray) {r0:Bool}:Con E 76 (iK s1=some r0) [.val (vs s1)] [vb r0] []:=by
 refine eZ Tryz.func76 fun C q=>?_;unfold iK;repeat' first | refine And.intro ?_ ?_ | refine Prod.forall.2 ?_ | (intro _;try dsimp only) | refine eY ?_ | exact Z | refine cR 1 [0,17] [] (fun v=>[(17,.t (vb v))]) (fun _=>[]) ?_ | refine cR 6 [0,3,35] [] (fun v=>[(35,.t (vb v))]) (fun _=>[]) ?_ | refine bG 4016 [0,3] [] (fun v=>[(3,.t (vi v))]) (fun _=>[]) (by unfold jY;rfl) ?_ | refine eW 3020 [] [] (fun _=>[]) (fun _=>[]) ?_ | refine S ?_
instance e99_:Ent E 99:=aY Tryz.func99
instance c99_ (a0:Int) (a2:Int) (a1:Int) {r0:Bool}:Con E 99 (pV a0 a2 a1=some r0) [.val (vi a0),.val (vi a2),.val (vi a1)] [vb r0] []:=by
 refine eZ Tryz.func99 fun C q=>?_;unfold pV;repeat' first | refine And.intro ?_ ?_ | refine Prod.forall.2 ?_ | (intro _;try dsimp only) | refine eY ?_ | exact Z | refine cG 4005 [1,2,7,12] [] (fun v=>[(12,.t (vb v))]) (fun _=>[]) ?_ | refine S ?_
instance e127_:Ent E 127:=aY Tryz.func127
instance c127_ (c1:Gl01Cur) (a0:List ByteArray) {r0:ByteArray} {q0:Gl01Cur}:Con E 127 (kR c1 a0=some (r0,q0)) [.ptr [.sl false 1 (List.map (vk .u8) c1.b),vi c1.i,vi c1.h],.val (.sl false 1 (List.map vs a0))] [vs r0] [[.sl false 1 (List.map (vk .u8) q0.b),vi q0.i,vi q0.h]]:=by
 refine eZ Tryz.func127 fun C q=>?_;unfold kR;repeat' first | refine And.intro ?_ ?_ | refine Prod.forall.2 ?_ | (intro _;try dsimp only) | refine eY ?_ | exact Z | refine S ?_
instance e30_:Ent E 30:=aY Tryz.func30
instance c30_ (p1:GProgram) {r0:GProgram} {r1:Bool}:Con E 30 (rW p1=some (r0,r1)) [.val (GProgram.enc false p1)] [GProgram.enc true r0,vb r1] []:=by
 refine eZ Tryz.func30 fun C q=>?_;unfold rW;repeat' first | refine And.intro ?_ ?_ | refine Prod.forall.2 ?_ | (intro _;try dsimp only) | refine eY ?_ | exact Z | refine cG 8005 [2,4,5,7,12,13,14] [2,4,5,7] (fun _=>[]) (fun v=>[(4,[.sl false 4 (List.map (GNode.enc false) v.1.from_),.sl true 4 (List.map (GNode.enc true) v.1.to_),vb v.1.bad]),(7,[vs v.2.Name,.sl true 2 (List.map GParam.enc v.2.Params),vi v.2.Res,vi v.2.Body,vi v.2.Ret])]) ?_ | refine bG 4022 [2,4,5,12,13,14] [2,4,5] (fun v=>[(14,.t (vi v.1))]) (fun v=>[(4,[.sl false 4 (List.map (GNode.enc false) v.2.1.from_),.sl true 4 (List.map (GNode.enc true) v.2.1.to_),vb v.2.1.bad]),(5,[.sl true 4 (List.map (GNode.enc true) v.2.2.Nodes),.sl true 5 (List.map (GFn.enc true) v.2.2.Fns)])]) (by unfold dD;rfl) ?_ | refine cG 3026 [2,4,5] [2,4,5] (fun _=>[]) (fun v=>[(4,[.sl false 4 (List.map (GNode.enc false) v.1.from_),.sl true 4 (List.map (GNode.enc true) v.1.to_),vb v.1.bad]),(5,[.sl true 4 (List.map (GNode.enc true) v.2.Nodes),.sl true 5 (List.map (GFn.enc true) v.2.Fns)])]) ?_ | refine S ?_
instance e33_:Ent E 33:=aY Tryz.func33
instance c33_ (p1:GProgram) {r0:GProgram} {r1:Bool}:Con E 33 (rL p1=some (r0,r1)) [.val (GProgram.enc false p1)] [GProgram.enc true r0,vb r1] []:=by
 refine eZ Tryz.func33 fun C q=>?_;unfold rL;repeat' first | refine And.intro ?_ ?_ | refine Prod.forall.2 ?_ | (intro _;try dsimp only) | refine eY ?_ | exact Z | refine cG 9005 [1,2,4,5,6,7] [1,2,5,7,11] (fun _=>[]) (fun v=>[(7,[vs v.1.Name,.sl true 2 (List.map GParam.enc v.1.Params),vi v.1.Res,vi v.1.Body,vi v.1.Ret]),(11,[.sl false 4 (List.map (GNode.enc false) v.2.from_),.sl true 4 (List.map (GNode.enc true) v.2.to_),vb v.2.bad])]) ?_ | refine bG 4022 [1,2,4,5,6] [1,2,5,11] (fun v=>[(6,.t (vi v.1))]) (fun v=>[(5,[.sl true 4 (List.map (GNode.enc true) v.2.1.Nodes),.sl true 5 (List.map (GFn.enc true) v.2.1.Fns)]),(11,[.sl false 4 (List.map (GNode.enc false) v.2.2.from_),.sl true 4 (List.map (GNode.enc true) v.2.2.to_),vb v.2.2.bad])]) (by unfold dC;rfl) ?_ | refine cG 3026 [2,4,5] [2,5,11] (fun _=>[]) (fun v=>[(5,[.sl true 4 (List.map (GNode.enc true) v.1.Nodes),.sl true 5 (List.map (GFn.enc true) v.1.Fns)]),(11,[.sl false 4 (List.map (GNode.enc false) v.2.from_),.sl true 4 (List.map (GNode.enc true) v.2.to_),vb v.2.bad])]) ?_ | refine cR 12 [2,4,5,60] [2,5,11] (fun v=>[(60,.t (vb v))]) (fun _=>[]) ?_ | refine S ?_
end
theorem res125:Tryz.f125.results.toList=[.tmp 4]:=rfl
theorem aL7:dR E.P 125:=eO Tryz.func125 (by simp [Tryz.f125]) rfl
theorem iN (hb ho:Nat) (m1:Gl05Made) (a0:List ByteArray) (m3:Gl01Cur) {r0:ByteArray} {q2:Gl01Cur} (h:dN m1 a0 m3=some (r0,q2)):OkH E 125 2 [adr hb ho] [.ptr [.v (adr hb ho),.sl false 1 (List.map vs m1.ints),.sl false 1 (List.map vs m1.boxes),vi m1.n,vs m1.text,vb m1.wild],.val (.sl false 1 (List.map vs a0)),.ptr [.sl false 1 (List.map (vk .u8) m3.b),vi m3.i,vi m3.h]] [vs r0] [[.v (adr hb ho),.sl false 1 (List.map vs m1.ints),.sl false 1 (List.map vs m1.boxes),vi m1.n,vs m1.text,vb m1.wild],[.sl false 1 (List.map (vk .u8) q2.b),vi q2.i,vi q2.h]]:=by
 refine jM (fn:=Tryz.f125) (vis:=[.ptr [.v (adr hb ho),.sl false 1 (List.map vs m1.ints),.sl false 1 (List.map vs m1.boxes),vi m1.n,vs m1.text,vb m1.wild],.val (.sl false 1 (List.map vs a0))]) [0,1] [15,17] Tryz.func125 rfl (by simp [Tryz.f125]) rfl rfl rfl rfl fun C hN hP hPK hPKi=>?_
 have y:∀ l,yK [] l=true→oX C.pin l=true:=pO (by rw [hP];rfl)
 have q:C.N=15:=hN;clear hN;unfold dN at h
 iterate 11 first|refine V_q q ?_|apply aT|refine O.zT y ?_
 refine sE 9 17 hPK fun K u=>?_;simp [q];apply u;obtain ⟨⟨r4,q5⟩,a5,h⟩:=bS h;try dsimp only at h
 refine nQ fun KW hKW=>?_;refine fP [((.ptr 3),.tmp 9),(.take,.tmp 11)] q (Ent.ok (E:=E) (f:=34)) (Con.ok a5) ?_;refine wN (hKW _ ?_);clear hKW;obtain ⟨e7,a6,h⟩:=bS h;obtain ⟨a1,a2,a3,a4⟩:=gS a6
 iterate 3 (refine V_q q ?_ rfl (by simp [a1,a2,a3,a4];rfl))
 apply aT;cases h;refine O.ret ?_;simp [aO,iB,res125]
end Go.Proofs.T
