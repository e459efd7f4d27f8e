import Derived.Test.YtgcgpnhokjhghabGreatDoorW1
import Derived.Test.YtgcgpnhokjhghabGreatDoorW10
import Derived.Test.YtgcgpnhokjhghabGreatDoorW11
import Derived.Test.YtgcgpnhokjhghabGreatDoorW2
import Derived.Test.YtgcgpnhokjhghabGreatDoorW3
import Derived.Test.YtgcgpnhokjhghabGreatDoorW6
import Derived.Test.YtgcgpnhokjhghabGreatDoorW7
import Derived.Test.YtgcgpnhokjhghabGreatDoorW9
set_option linter.unusedVariables false
set_option linter.unusedSimpArgs false
set_option linter.unusedVariables false
set_option linter.unusedSimpArgs false
set_option maxHeartbeats 8000000
set_option maxRecDepth 100000
namespace Go.Proofs.T
open Go.OM
section
attribute [local irreducible] Hg O St.wps aO iB Lv Ct Lp VL Option.bind aP sAt eK bN bO mkI eS fO bF aI ite Dr
instance e75_:Ent E 75:=aY Tryz.func75
instance c75_ (a0:List GNode) (k2:Int) {r0:Bool}:Con E 75 (rM a0 k2=some r0) [.val (.sl false 4 (List.map (GNode.enc false) a0)),.val (vi k2)] [vb r0] []:=by
 refine eZ Tryz.func75 fun C q=>?_;unfold rM;repeat' first | refine And.intro ?_ ?_ | refine Prod.forall.2 ?_ | (intro _;try dsimp only) | refine eY ?_ | exact Z | refine cR 1 [0,1,24] [] (fun v=>[(24,.t (vb v))]) (fun _=>[]) ?_ | refine cR 5 [0,1,5,57] [5] (fun v=>[(57,.t (vb v))]) (fun _=>[]) ?_ | refine cG 7001 [0,1,5,75] [5] (fun v=>[(75,.t (vb v))]) (fun _=>[]) ?_ | refine cG 12001 [0,1,5,8,107] [5] (fun v=>[(107,.t (vb v))]) (fun _=>[]) ?_ | refine bG 15016 [0,1,5,8,9] [5] (fun v=>[(9,.t (vi v))]) (fun _=>[]) (by unfold mM;rfl) ?_ | refine eW 12029 [0,1,5,8] [5] (fun _=>[]) (fun _=>[]) ?_ | refine bG 10037 [0,1,5,8] [5] (fun v=>[(8,.t (vi v))]) (fun _=>[]) (by unfold mN;rfl) ?_ | refine eW 9041 [] [] (fun _=>[]) (fun _=>[]) ?_ | refine S ?_
instance e55_:Ent E 55:=aY Tryz.func55
instance c55_ (p1:GProgram) (i2:Int) {r0:Bool}:Con E 55 (tR p1 i2=some r0) [.val (GProgram.enc false p1),.val (vi i2)] [vb r0] []:=by
 refine eZ Tryz.func55 fun C q=>?_;unfold tR;repeat' first | refine And.intro ?_ ?_ | refine Prod.forall.2 ?_ | (intro _;try dsimp only) | refine eY ?_ | exact Z | refine cR 2 [2,5,35] [2,5] (fun v=>[(35,.t (vb v))]) (fun _=>[]) ?_ | refine cR 7 [2,5,6,60] [2,5] (fun v=>[(60,.t (vb v))]) (fun _=>[]) ?_ | refine bG 5016 [2,5,6] [2,5] (fun v=>[(6,.t (vi v))]) (fun _=>[]) (by unfold nW;rfl) ?_ | refine eW 4020 [2,5] [2,5] (fun _=>[]) (fun _=>[]) ?_ | refine cR 9 [2,5,78] [2,5] (fun v=>[(78,.t (vb v))]) (fun _=>[]) ?_ | refine cR 13 [4] [] (fun v=>[(4,.t (vb v))]) (fun _=>[]) ?_ | refine S ?_
instance e116_:Ent E 116:=aY Tryz.func116
instance c116_ (r1:Gl05Read) {r0:ByteArray} {q0:Gl05Read}:Con E 116 (bJ r1=some (r0,q0)) [.ptr [.sl true 3 (List.map GSign.enc r1.list),vi r1.at_,vb r1.bad,vi r1.deep,.sl true 4 (List.map (GNode.enc true) r1.nodes)]] [vs r0] [[.sl true 3 (List.map GSign.enc q0.list),vi q0.at_,vb q0.bad,vi q0.deep,.sl true 4 (List.map (GNode.enc true) q0.nodes)]]:=by
 refine eZ Tryz.func116 fun C q=>?_;unfold bJ;repeat' first | refine And.intro ?_ ?_ | refine Prod.forall.2 ?_ | (intro _;try dsimp only) | refine eY ?_ | exact Z | refine cG 1001 [0,47] [71] (fun v=>[(47,.t (vb v))]) (fun _=>[]) ?_ | refine S ?_
instance e118_:Ent E 118:=aY Tryz.func118
instance c118_ (r1:Gl05Read) {r0:Int} {q0:Gl05Read}:Con E 118 (dL r1=some (r0,q0)) [.ptr [.sl true 3 (List.map GSign.enc r1.list),vi r1.at_,vb r1.bad,vi r1.deep,.sl true 4 (List.map (GNode.enc true) r1.nodes)]] [vi r0] [[.sl true 3 (List.map GSign.enc q0.list),vi q0.at_,vb q0.bad,vi q0.deep,.sl true 4 (List.map (GNode.enc true) q0.nodes)]]:=by
 refine eZ Tryz.func118 fun C q=>?_;unfold dL;repeat' first | refine And.intro ?_ ?_ | refine Prod.forall.2 ?_ | (intro _;try dsimp only) | refine eY ?_ | exact Z | refine cG 7005 [0,3] [19] (fun v=>[(3,.t (vi v.1))]) (fun v=>[(19,[.sl true 3 (List.map GSign.enc v.2.list),vi v.2.at_,vb v.2.bad,vi v.2.deep,.sl true 4 (List.map (GNode.enc true) v.2.nodes)])]) ?_ | refine S ?_
instance e93_:Ent E 93:=aY Tryz.func93
instance c93_ (a0:List GNode) (k2:Int) {r0:Bool}:Con E 93 (rX a0 k2=some r0) [.val (.sl false 4 (List.map (GNode.enc false) a0)),.val (vi k2)] [vb r0] []:=by
 refine eZ Tryz.func93 fun C q=>?_;unfold rX;repeat' first | refine And.intro ?_ ?_ | refine Prod.forall.2 ?_ | (intro _;try dsimp only) | refine eY ?_ | exact Z | refine cR 5 [0,1,5,38] [5] (fun v=>[(38,.t (vb v))]) (fun _=>[]) ?_ | refine cG 10001 [0,1,5,40,41,42,71] [5] (fun v=>[(71,.t (vb v))]) (fun _=>[]) ?_ | refine bG 8018 [0,1,5,40,41,42] [5] (fun v=>[(42,.t (vi v))]) (fun _=>[]) (by unfold mY;rfl) ?_ | refine eW 7022 [5] [5] (fun _=>[]) (fun _=>[]) ?_ | refine cR 13 [5,91] [5] (fun v=>[(91,.t (vb v))]) (fun _=>[]) ?_ | refine S ?_
instance e50_:Ent E 50:=aY Tryz.func50
instance c50_ (p1:GProgram) (f2:GFn) {r0:Bool}:Con E 50 (wM p1 f2=some r0) [.val (GProgram.enc false p1),.val (GFn.enc false f2)] [vb r0] []:=by
 refine eZ Tryz.func50 fun C q=>?_;unfold wM;repeat' first | refine And.intro ?_ ?_ | refine Prod.forall.2 ?_ | (intro _;try dsimp only) | refine eY ?_ | exact Z | refine cR 1 [2,3,31] [2,3] (fun v=>[(31,.t (vb v))]) (fun _=>[]) ?_ | refine cR 6 [2,3,33,34,35,48] [2,3] (fun v=>[(48,.t (vb v))]) (fun _=>[]) ?_ | refine bG 4018 [2,3,33,34,35] [2,3] (fun v=>[(35,.t (vi v))]) (fun _=>[]) (by unfold qH;rfl) ?_ | refine eW 3022 [2,3] [2,3] (fun _=>[]) (fun _=>[]) ?_ | refine cR 9 [2,3,67] [2,3] (fun v=>[(67,.t (vb v))]) (fun _=>[]) ?_ | refine cR 13 [4] [] (fun v=>[(4,.t (vb v))]) (fun _=>[]) ?_ | refine S ?_
end
theorem res146:Tryz.f146.results.toList=[.tmp 2]:=rfl
theorem aQr:dR E.P 146:=eO Tryz.func146 (by simp [Tryz.f146]) rfl
theorem oZ (hb ho:Nat) (m1:Gl05Made) (m2:Gl01Cur) {r0:ByteArray} {q1:Gl01Cur} (h:eM m1 m2=some (r0,q1)):OkH E 146 1 [adr hb ho] [.ptr [.v (adr hb ho),.sl false 1 (List.map vs m1.ints),.sl false 1 (List.map vs m1.boxes),vi m1.n,vs m1.text,vb m1.wild],.ptr [.sl false 1 (List.map (vk .u8) m2.b),vi m2.i,vi m2.h]] [vs r0] [[.v (adr hb ho),.sl false 1 (List.map vs m1.ints),.sl false 1 (List.map vs m1.boxes),vi m1.n,vs m1.text,vb m1.wild],[.sl false 1 (List.map (vk .u8) q1.b),vi q1.i,vi q1.h]]:=by
 refine jM (fn:=Tryz.f146) (vis:=[.ptr [.v (adr hb ho),.sl false 1 (List.map vs m1.ints),.sl false 1 (List.map vs m1.boxes),vi m1.n,vs m1.text,vb m1.wild]]) [0] [9,10] Tryz.func146 rfl (by simp [Tryz.f146]) rfl rfl rfl rfl fun C hN hP hPK hPKi=>?_
 have y:∀ l,yK [] l=true→oX C.pin l=true:=pO (by rw [hP];rfl)
 have q:C.N=9:=hN;clear hN;unfold eM at h
 iterate 9 first|refine V_q q ?_|apply aT|refine O.zT y ?_
 refine sE 6 10 hPK fun K u=>?_;simp [q];apply u;refine aJ0 7 fun K u=>?_;simp [q];apply u;obtain ⟨⟨r3,q4⟩,a0,h⟩:=bS h;try dsimp only at h
 refine nQ fun KW hKW=>?_;refine fP [((.ptr 3),.tmp 6),(.take,.tmp 7)] q (Ent.ok (E:=E) (f:=127)) (Con.ok a0) ?_;refine wN (hKW _ ?_);clear hKW;refine V_q q ?_;apply aT;cases h;refine O.ret ?_;simp [aO,iB,res146]
end Go.Proofs.T
