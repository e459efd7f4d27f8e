import Derived.Test.YteibeahceppedaaGreatDoorW0
import Derived.Test.YteibeahceppedaaGreatDoorW1
import Derived.Test.YteibeahceppedaaGreatDoorW2
import Derived.Test.YteibeahceppedaaGreatDoorW5
import Derived.Test.YteibeahceppedaaGreatDoorW6
import Derived.Test.YteibeahceppedaaGreatDoorW7
import Derived.Test.YteibeahceppedaaGreatDoorW8
set_option linter.unusedVariables false
set_option linter.unusedSimpArgs false
set_option linter.unusedVariables false
set_option linter.unusedSimpArgs false
set_option maxHeartbeats 8000000
set_option maxRecDepth 100000
namespace Go.Proofs.T
open Go.OM
section
attribute [local irreducible] Hg O St.wps aO iB Lv Ct Lp VL Option.bind aY sAt fD bK bW mkI fE gO bF aJ ite Dr
instance e53_:Ent E 53:=aX Tryz.func53
instance c53_ (a0:List GNode) (k2:Int) {r0:Bool}:Con E 53 (nS a0 k2=some r0) [.val (.sl false 4 (List.map (GNode.enc false) a0)),.val (vi k2)] [vb r0] []:=by
 refine fW Tryz.func53 fun C q=>?_
 unfold nS
 repeat' first | refine And.intro ?_ ?_ | refine Prod.forall.2 ?_ | (intro _;try dsimp only) | refine fS ?_ | exact Z | refine cK 1 [0,1,24] [] (fun v=>[(24,.t (vb v))]) (fun _=>[]) ?_ | refine cK 5 [0,1,5,57] [5] (fun v=>[(57,.t (vb v))]) (fun _=>[]) ?_ | refine dP 7001 [0,1,5,75] [5] (fun v=>[(75,.t (vb v))]) (fun _=>[]) ?_ | refine dP 12001 [0,1,5,8,107] [5] (fun v=>[(107,.t (vb v))]) (fun _=>[]) ?_ | refine cH 15016 [0,1,5,8,9] [5] (fun v=>[(9,.t (vi v))]) (fun _=>[]) (by unfold jX;rfl) ?_ | refine iF 12029 [0,1,5,8] [5] (fun _=>[]) (fun _=>[]) ?_ | refine cH 10037 [0,1,5,8] [5] (fun v=>[(8,.t (vi v))]) (fun _=>[]) (by unfold jY;rfl) ?_ | refine iF 9041 [] [] (fun _=>[]) (fun _=>[]) ?_ | refine S ?_
instance e44_:Ent E 44:=aX Tryz.func44
instance c44_ (p1:GProgram) (i2:Int) {r0:Bool}:Con E 44 (pV p1 i2=some r0) [.val (GProgram.enc false p1),.val (vi i2)] [vb r0] []:=by
 refine fW Tryz.func44 fun C q=>?_
 unfold pV
 repeat' first | refine And.intro ?_ ?_ | refine Prod.forall.2 ?_ | (intro _;try dsimp only) | refine fS ?_ | exact Z | refine cK 2 [2,5,35] [2,5] (fun v=>[(35,.t (vb v))]) (fun _=>[]) ?_ | refine cK 7 [2,5,6,60] [2,5] (fun v=>[(60,.t (vb v))]) (fun _=>[]) ?_ | refine cH 5016 [2,5,6] [2,5] (fun v=>[(6,.t (vi v))]) (fun _=>[]) (by unfold kZ;rfl) ?_ | refine iF 4020 [2,5] [2,5] (fun _=>[]) (fun _=>[]) ?_ | refine cK 9 [2,5,78] [2,5] (fun v=>[(78,.t (vb v))]) (fun _=>[]) ?_ | refine cK 13 [4] [] (fun v=>[(4,.t (vb v))]) (fun _=>[]) ?_ | refine S ?_
instance e84_:Ent E 84:=aX Tryz.func84
instance c84_ (r1:Gl05Read) {r0:ByteArray} {q0:Gl05Read}:Con E 84 (bC r1=some (r0,q0)) [.ptr [.sl true 3 (List.map GSign.enc r1.list),vi r1.at_,vb r1.bad,vi r1.deep,.sl true 4 (List.map (GNode.enc true) r1.nodes)]] [vs r0] [[.sl true 3 (List.map GSign.enc q0.list),vi q0.at_,vb q0.bad,vi q0.deep,.sl true 4 (List.map (GNode.enc true) q0.nodes)]]:=by
 refine fW Tryz.func84 fun C q=>?_
 unfold bC
 repeat' first | refine And.intro ?_ ?_ | refine Prod.forall.2 ?_ | (intro _;try dsimp only) | refine fS ?_ | exact Z | refine dP 1001 [0,47] [71] (fun v=>[(47,.t (vb v))]) (fun _=>[]) ?_ | refine S ?_
instance e86_:Ent E 86:=aX Tryz.func86
instance c86_ (r1:Gl05Read) {r0:Int} {q0:Gl05Read}:Con E 86 (dA r1=some (r0,q0)) [.ptr [.sl true 3 (List.map GSign.enc r1.list),vi r1.at_,vb r1.bad,vi r1.deep,.sl true 4 (List.map (GNode.enc true) r1.nodes)]] [vi r0] [[.sl true 3 (List.map GSign.enc q0.list),vi q0.at_,vb q0.bad,vi q0.deep,.sl true 4 (List.map (GNode.enc true) q0.nodes)]]:=by
 refine fW Tryz.func86 fun C q=>?_
 unfold dA
 repeat' first | refine And.intro ?_ ?_ | refine Prod.forall.2 ?_ | (intro _;try dsimp only) | refine fS ?_ | exact Z | refine dP 7005 [0,3] [19] (fun v=>[(3,.t (vi v.1))]) (fun v=>[(19,[.sl true 3 (List.map GSign.enc v.2.list),vi v.2.at_,vb v.2.bad,vi v.2.deep,.sl true 4 (List.map (GNode.enc true) v.2.nodes)])]) ?_ | refine S ?_
instance e52_:Ent E 52:=aX Tryz.func52
instance c52_ (a0:List GNode) (k2:Int) {r0:Bool}:Con E 52 (oH a0 k2=some r0) [.val (.sl false 4 (List.map (GNode.enc false) a0)),.val (vi k2)] [vb r0] []:=by
 refine fW Tryz.func52 fun C q=>?_
 unfold oH
 repeat' first | refine And.intro ?_ ?_ | refine Prod.forall.2 ?_ | (intro _;try dsimp only) | refine fS ?_ | exact Z | refine cK 5 [0,1,5,38] [5] (fun v=>[(38,.t (vb v))]) (fun _=>[]) ?_ | refine dP 10001 [0,1,5,40,41,42,71] [5] (fun v=>[(71,.t (vb v))]) (fun _=>[]) ?_ | refine cH 8018 [0,1,5,40,41,42] [5] (fun v=>[(42,.t (vi v))]) (fun _=>[]) (by unfold kH;rfl) ?_ | refine iF 7022 [5] [5] (fun _=>[]) (fun _=>[]) ?_ | refine cK 13 [5,91] [5] (fun v=>[(91,.t (vb v))]) (fun _=>[]) ?_ | refine S ?_
instance e41_:Ent E 41:=aX Tryz.func41
instance c41_ (p1:GProgram) (f2:GFn) {r0:Bool}:Con E 41 (rX p1 f2=some r0) [.val (GProgram.enc false p1),.val (GFn.enc false f2)] [vb r0] []:=by
 refine fW Tryz.func41 fun C q=>?_
 unfold rX
 repeat' first | refine And.intro ?_ ?_ | refine Prod.forall.2 ?_ | (intro _;try dsimp only) | refine fS ?_ | exact Z | refine cK 1 [2,3,31] [2,3] (fun v=>[(31,.t (vb v))]) (fun _=>[]) ?_ | refine cK 6 [2,3,33,34,35,48] [2,3] (fun v=>[(48,.t (vb v))]) (fun _=>[]) ?_ | refine cH 4018 [2,3,33,34,35] [2,3] (fun v=>[(35,.t (vi v))]) (fun _=>[]) (by unfold mY;rfl) ?_ | refine iF 3022 [2,3] [2,3] (fun _=>[]) (fun _=>[]) ?_ | refine cK 9 [2,3,67] [2,3] (fun v=>[(67,.t (vb v))]) (fun _=>[]) ?_ | refine cK 13 [4] [] (fun v=>[(4,.t (vb v))]) (fun _=>[]) ?_ | refine S ?_
end
theorem res104:Tryz.f104.results.toList=[.tmp 2]:=rfl
theorem aKm:eG E.P 104:=eO Tryz.func104 (by simp [Tryz.f104]) rfl
theorem lQ (hb ho:Nat) (m1:Gl05Made) (m2:Gl01Cur) {r0:ByteArray} {q1:Gl01Cur} (h:dU m1 m2=some (r0,q1)):OkH E 104 1 [adr hb ho] [.ptr [.v (adr hb ho),.sl false 1 (List.map vs m1.ints),.sl false 1 (List.map vs m1.boxes),vi m1.n,vs m1.text,vb m1.wild],.ptr [.sl false 1 (List.map (vk .u8) m2.b),vi m2.i,vi m2.h]] [vs r0] [[.v (adr hb ho),.sl false 1 (List.map vs m1.ints),.sl false 1 (List.map vs m1.boxes),vi m1.n,vs m1.text,vb m1.wild],[.sl false 1 (List.map (vk .u8) q1.b),vi q1.i,vi q1.h]]:=by
 refine gU (fn:=Tryz.f104) (vis:=[.ptr [.v (adr hb ho),.sl false 1 (List.map vs m1.ints),.sl false 1 (List.map vs m1.boxes),vi m1.n,vs m1.text,vb m1.wild]]) [0] [9,10] Tryz.func104 rfl (by simp [Tryz.f104]) rfl rfl rfl rfl fun C hN hP hPK hPKi=>?_
 have y:∀ l,tU [] l=true→lO C.pin l=true:=pO (by rw [hP];rfl)
 have q:C.N=9:=hN
 clear hN
 unfold dU at h
 iterate 9 first|refine V_q q ?_|apply aM|refine O.zT y ?_
 refine oO 6 10 hPK fun K u=>?_;simp [q];apply u
 refine vM 7 fun K u=>?_;simp [q];apply u
 obtain ⟨⟨r3,q4⟩,a0,h⟩:=bS h
 try dsimp only at h
 refine jW fun KW hKW=>?_
 refine hE [((.ptr 3),.tmp 6),(.take,.tmp 7)] q (Ent.ok (E:=E) (f:=55)) (Con.ok a0) ?_
 refine wN (hKW _ ?_);clear hKW
 refine V_q q ?_
 apply aM
 cases h
 refine O.ret ?_
 simp [aO,iB,res104]
end Go.Proofs.T
