import Derived.Test.YtgcgpnhokjhghabGreatDoorW0
import Derived.Test.YtgcgpnhokjhghabGreatDoorW1
import Derived.Test.YtgcgpnhokjhghabGreatDoorW2
import Derived.Test.YtgcgpnhokjhghabGreatDoorW3
import Derived.Test.YtgcgpnhokjhghabGreatDoorW6
import Derived.Test.YtgcgpnhokjhghabGreatDoorW7
set_option linter.unusedVariables false
set_option linter.unusedSimpArgs false
set_option linter.unusedVariables false
set_option linter.unusedSimpArgs false
set_option maxHeartbeats 8000000
set_option maxRecDepth 100000
namespace Go.Proofs.T
open Go.OM
section
attribute [local irreducible] Hg O St.wps aO iB Lv Ct Lp VL Option.bind aP sAt eK bN bO mkI eS fO bF aI ite Dr
instance e89_:Ent E 89:=aY Tryz.func89
instance c89_ (t1:ByteArray) {r0:List GSign} {r1:Bool}:Con E 89 (kV t1=some (r0,r1)) [.val (vs t1)] [.sl true 3 (List.map GSign.enc r0),vb r1] []:=by
 refine eZ Tryz.func89 fun C q=>?_;unfold kV;repeat' first | refine And.intro ?_ ?_ | refine Prod.forall.2 ?_ | (intro _;try dsimp only) | refine eY ?_ | exact Z | refine cR 7 [0,4,5,6,29] [] (fun v=>[(29,.t (vb v))]) (fun _=>[]) ?_ | refine cR 11 [0,4,5,6,7,52] [] (fun v=>[(52,.t (vb v))]) (fun _=>[]) ?_ | refine bG 11008 [0,4,5,6,7] [] (fun v=>[(7,.t (vi v))]) (fun _=>[]) (by unfold kT;rfl) ?_ | refine cG 11010 [0,4,5,6,7] [] (fun v=>[(7,.t (vi v))]) (fun _=>[]) ?_ | refine eW 10028 [0,4,5,6,7] [] (fun v=>[(5,.t (.sl true 3 (List.map GSign.enc v.1))),(6,.t (vi v.2.1)),(7,.t (vi v.2.2))]) (fun _=>[]) ?_ | refine cR 19 [0,4,5,6,7,8,88] [] (fun v=>[(88,.t (vb v))]) (fun _=>[]) ?_ | refine bG 19010 [0,4,5,6,7,8] [] (fun v=>[(7,.t (vi v.1)),(8,.t (vi v.2))]) (fun _=>[]) (by unfold kS;rfl) ?_ | refine cG 19012 [0,4,5,6,7,8] [] (fun v=>[(7,.t (vi v.1)),(8,.t (vi v.2))]) (fun _=>[]) ?_ | refine cR 22 [0,4,5,7,8,106] [] (fun v=>[(106,.t (vb v))]) (fun _=>[]) ?_ | refine eW 17032 [0,4,5,6] [] (fun v=>[(5,.t (.sl true 3 (List.map GSign.enc v.1))),(6,.t (vi v.2))]) (fun _=>[]) ?_ | refine bG 6092 [0,4,5,6] [] (fun v=>[(5,.t (.sl true 3 (List.map GSign.enc v.1))),(6,.t (vi v.2))]) (fun _=>[]) (by unfold kU;rfl) ?_ | refine eW 6094 [5] [] (fun v=>[(5,.t (.sl true 3 (List.map GSign.enc v)))]) (fun _=>[]) ?_ | refine S ?_
instance e91_:Ent E 91:=aY Tryz.func91
instance c91_ (c1:Gl01Cur) (n2:Int) {r0:Bool} {q0:Gl01Cur}:Con E 91 (gV c1 n2=some (r0,q0)) [.ptr [.sl false 1 (List.map (vk .u8) c1.b),vi c1.i,vi c1.h],.val (vi n2)] [vb r0] [[.sl false 1 (List.map (vk .u8) q0.b),vi q0.i,vi q0.h]]:=by
 refine eZ Tryz.func91 fun C q=>?_;unfold gV;repeat' first | refine And.intro ?_ ?_ | refine Prod.forall.2 ?_ | (intro _;try dsimp only) | refine eY ?_ | exact Z | refine S ?_
instance e72_:Ent E 72:=aY Tryz.func72
instance c72_ (s1:ByteArray) {r0:Bool}:Con E 72 (nI s1=some r0) [.val (vs s1)] [vb r0] []:=by
 refine eZ Tryz.func72 fun C q=>?_;unfold nI;repeat' first | refine And.intro ?_ ?_ | refine Prod.forall.2 ?_ | (intro _;try dsimp only) | refine eY ?_ | exact Z | refine cR 1 [0,13] [] (fun v=>[(13,.t (vb v))]) (fun _=>[]) ?_ | refine cR 6 [0,3,31] [] (fun v=>[(31,.t (vb v))]) (fun _=>[]) ?_ | refine bG 4016 [0,3] [] (fun v=>[(3,.t (vi v))]) (fun _=>[]) (by unfold mZ;rfl) ?_ | refine eW 3020 [0] [] (fun _=>[]) (fun _=>[]) ?_ | refine S ?_
abbrev K64 (f:GProgram→Int→Int→(List ByteArray)→Option (Bool)):Prop:=∀ (a0:GProgram) (a1:Int) (a2:Int) (a3:List ByteArray) (r0:Bool),Con E 64 (f a0 a1 a2 a3=some r0) [.val (GProgram.enc false a0),.val (vi a1),.val (vi a2),.val (.sl false 1 (List.map vs a3))] [vb r0] []
instance e64_:Ent E 64:=aY Tryz.func64
theorem aEo (a0:GProgram→Int→Int→(List ByteArray)→Option (Bool)) (a2:K64 a0):K64 (rS a0):=by
 intro p1 a3 k3 a1 r0;refine eZ Tryz.func64 fun C q=>?_;unfold rS;repeat' first | refine And.intro ?_ ?_ | refine Prod.forall.2 ?_ | (intro _;try dsimp only) | refine eY ?_ | exact Z | refine cR 2 [1,3,4,9,28] [4,9] (fun v=>[(28,.t (vb v))]) (fun _=>[]) ?_ | refine cG 6001 [1,3,4,9,53] [4,9] (fun v=>[(53,.t (vb v))]) (fun _=>[]) ?_ | refine eW 4013 [1,3,4,9] [4,9] (fun _=>[]) (fun _=>[]) ?_ | refine cR 14 [1,4,9,11,13,57,58,59,80] [4,9] (fun v=>[(80,.t (vb v))]) (fun _=>[]) ?_ | refine bG 10024 [1,4,9,11,57,58,59] [4,9] (fun v=>[(11,.t (.sl true 1 (List.map vs v.1))),(59,.t (vi v.2))]) (fun _=>[]) (by unfold nN;rfl) ?_ | refine eW 9028 [] [] (fun _=>[]) (fun _=>[]) ?_ | refine S ?_
theorem vH:∀ n:Nat,K64 (jN n)
 | 0=>(fun _ _ _ _ _=>Con.mk fun h=>nomatch h)
 | n + 1=>aEo _ (vH n)
instance c64_:K64 wJ:=(vH bL)
end
theorem res123:Tryz.f123.results.toList=[.tmp 4]:=rfl
theorem aE5:dR E.P 123:=eO Tryz.func123 (by simp [Tryz.f123]) rfl
theorem cP (hb ho:Nat) (m1:Gl05Made) (s2:ByteArray) (m3:Gl01Cur) {r0:ByteArray} {q0:Gl05Made} {q2:Gl01Cur} (h:cC m1 s2 m3=some (r0,q0,q2)):OkH E 123 2 [adr hb ho] [.ptr [.v (adr hb ho),.sl false 1 (List.map vs m1.ints),.sl false 1 (List.map vs m1.boxes),vi m1.n,vs m1.text,vb m1.wild],.val (vs s2),.ptr [.sl false 1 (List.map (vk .u8) m3.b),vi m3.i,vi m3.h]] [vs r0] [[.v (adr hb ho),.sl false 1 (List.map vs q0.ints),.sl false 1 (List.map vs q0.boxes),vi q0.n,vs q0.text,vb q0.wild],[.sl false 1 (List.map (vk .u8) q2.b),vi q2.i,vi q2.h]]:=by
 refine jM (fn:=Tryz.f123) (vis:=[.ptr [.v (adr hb ho),.sl false 1 (List.map vs m1.ints),.sl false 1 (List.map vs m1.boxes),vi m1.n,vs m1.text,vb m1.wild],.val (vs s2)]) [0,1] [20,22] Tryz.func123 rfl (by simp [Tryz.f123]) rfl rfl rfl rfl fun C hN hP hPK hPKi=>?_
 have y:∀ l,yK [] l=true→oX C.pin l=true:=pO (by rw [hP];rfl)
 have q:C.N=20:=hN;clear hN;unfold cC at h
 iterate 20 first|refine V_q q ?_|apply aT|refine O.zT y ?_
 obtain ⟨r4,a2,h⟩:=bS h;refine nQ fun KW hKW=>?_;refine fP [(.take,.tmp 17)] q (Ent.ok (E:=E) (f:=145)) (Con.ok a2) ?_;refine wN (hKW _ ?_);clear hKW;obtain ⟨t6,a3,h⟩:=bS h;obtain ⟨a0,a1⟩:=aC a3;refine V_q q ?_ rfl (by simp [a0,a1];rfl)
 refine V_q q ?_;apply aT;cases h;refine O.ret ?_;simp [aO,iB,res123]
end Go.Proofs.T
