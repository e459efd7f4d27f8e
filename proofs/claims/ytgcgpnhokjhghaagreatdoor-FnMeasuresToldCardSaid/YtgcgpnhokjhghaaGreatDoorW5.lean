import Derived.Test.YtgcgpnhokjhghaaGreatDoorW0
import Derived.Test.YtgcgpnhokjhghaaGreatDoorW1
import Derived.Test.YtgcgpnhokjhghaaGreatDoorW2
import Derived.Test.YtgcgpnhokjhghaaGreatDoorW3
import Derived.Test.YtgcgpnhokjhghaaGreatDoorW4
set_option linter.unusedVariables false
set_option linter.unusedSimpArgs false
set_option linter.unusedVariables false
set_option linter.unusedSimpArgs false
set_option maxHeartbeats 8000000
set_option maxRecDepth 100000
namespace Go.Proofs.T
open Go.OM
section
attribute [local irreducible] Hg O St.wps aQ iB Lv Ct Lp VL Option.bind bD sAt gB bC cE mkI gK iZ bO aJ ite Dr
instance e65_:Ent E 65:=aZ Tryz.func65
instance c65_ (s1:ByteArray) {r0:Bool}:Con E 65 (fP s1=some r0) [.val (vs s1)] [vb r0] []:=by
 refine iA Tryz.func65 fun C q=>?_
 unfold fP
 repeat' first | refine And.intro ?_ ?_ | refine Prod.forall.2 ?_ | (intro _;try dsimp only) | refine gW ?_ | exact Z | refine dL 1 [0,17] [] (fun v=>[(17,.t (vb v))]) (fun _=>[]) ?_ | refine dL 6 [0,3,35] [] (fun v=>[(35,.t (vb v))]) (fun _=>[]) ?_ | refine dG 4016 [0,3] [] (fun v=>[(3,.t (vi v))]) (fun _=>[]) (by unfold gZ;rfl) ?_ | refine jZ 3020 [] [] (fun _=>[]) (fun _=>[]) ?_ | refine S ?_
instance e79_:Ent E 79:=aZ Tryz.func79
instance c79_ (a0:Int) (a2:Int) (a1:Int) {r0:Bool}:Con E 79 (mJ a0 a2 a1=some r0) [.val (vi a0),.val (vi a2),.val (vi a1)] [vb r0] []:=by
 refine iA Tryz.func79 fun C q=>?_
 unfold mJ
 repeat' first | refine And.intro ?_ ?_ | refine Prod.forall.2 ?_ | (intro _;try dsimp only) | refine gW ?_ | exact Z | refine eJ 4005 [1,2,7,12] [] (fun v=>[(12,.t (vb v))]) (fun _=>[]) ?_ | refine S ?_
instance e69_:Ent E 69:=aZ Tryz.func69
instance c69_ (t1:ByteArray) {r0:List GSign} {r1:Bool}:Con E 69 (iW t1=some (r0,r1)) [.val (vs t1)] [.sl true 3 (List.map GSign.enc r0),vb r1] []:=by
 refine iA Tryz.func69 fun C q=>?_
 unfold iW
 repeat' first | refine And.intro ?_ ?_ | refine Prod.forall.2 ?_ | (intro _;try dsimp only) | refine gW ?_ | exact Z | refine dL 7 [0,4,5,6,29] [] (fun v=>[(29,.t (vb v))]) (fun _=>[]) ?_ | refine dL 11 [0,4,5,6,7,52] [] (fun v=>[(52,.t (vb v))]) (fun _=>[]) ?_ | refine dG 11008 [0,4,5,6,7] [] (fun v=>[(7,.t (vi v))]) (fun _=>[]) (by unfold iU;rfl) ?_ | refine eJ 11010 [0,4,5,6,7] [] (fun v=>[(7,.t (vi v))]) (fun _=>[]) ?_ | refine jZ 10028 [0,4,5,6,7] [] (fun v=>[(5,.t (.sl true 3 (List.map GSign.enc v.1))),(6,.t (vi v.2.1)),(7,.t (vi v.2.2))]) (fun _=>[]) ?_ | refine dL 19 [0,4,5,6,7,8,88] [] (fun v=>[(88,.t (vb v))]) (fun _=>[]) ?_ | refine dG 19010 [0,4,5,6,7,8] [] (fun v=>[(7,.t (vi v.1)),(8,.t (vi v.2))]) (fun _=>[]) (by unfold iT;rfl) ?_ | refine eJ 19012 [0,4,5,6,7,8] [] (fun v=>[(7,.t (vi v.1)),(8,.t (vi v.2))]) (fun _=>[]) ?_ | refine dL 22 [0,4,5,7,8,106] [] (fun v=>[(106,.t (vb v))]) (fun _=>[]) ?_ | refine jZ 17032 [0,4,5,6] [] (fun v=>[(5,.t (.sl true 3 (List.map GSign.enc v.1))),(6,.t (vi v.2))]) (fun _=>[]) ?_ | refine dG 6092 [0,4,5,6] [] (fun v=>[(5,.t (.sl true 3 (List.map GSign.enc v.1))),(6,.t (vi v.2))]) (fun _=>[]) (by unfold iV;rfl) ?_ | refine jZ 6094 [5] [] (fun v=>[(5,.t (.sl true 3 (List.map GSign.enc v)))]) (fun _=>[]) ?_ | refine S ?_
instance e87_:Ent E 87:=aZ Tryz.func87
instance c87_ (r1:Gl05Read) (a0:ByteArray) {q0:Gl05Read}:Con E 87 (aO r1 a0=some q0) [.ptr [.sl true 3 (List.map GSign.enc r1.list),vi r1.at_,vb r1.bad,vi r1.deep,.sl true 4 (List.map (GNode.enc true) r1.nodes)],.val (vs a0)] [] [[.sl true 3 (List.map GSign.enc q0.list),vi q0.at_,vb q0.bad,vi q0.deep,.sl true 4 (List.map (GNode.enc true) q0.nodes)]]:=by
 refine iA Tryz.func87 fun C q=>?_
 unfold aO
 repeat' first | refine And.intro ?_ ?_ | refine Prod.forall.2 ?_ | (intro _;try dsimp only) | refine gW ?_ | exact Z | refine S ?_
instance e21_:Ent E 21:=aZ Tryz.func21
instance c21_ (c1:Gl01Cur) (n2:Int) {r0:Bool} {q0:Gl01Cur}:Con E 21 (eF c1 n2=some (r0,q0)) [.ptr [.sl false 1 (List.map (vk .u8) c1.b),vi c1.i,vi c1.h],.val (vi n2)] [vb r0] [[.sl false 1 (List.map (vk .u8) q0.b),vi q0.i,vi q0.h]]:=by
 refine iA Tryz.func21 fun C q=>?_
 unfold eF
 repeat' first | refine And.intro ?_ ?_ | refine Prod.forall.2 ?_ | (intro _;try dsimp only) | refine gW ?_ | exact Z | refine S ?_
instance e97_:Ent E 97:=aZ Tryz.func97
instance c97_ (c1:Gl01Cur) (a0:List ByteArray) {r0:ByteArray} {q0:Gl01Cur}:Con E 97 (iR c1 a0=some (r0,q0)) [.ptr [.sl false 1 (List.map (vk .u8) c1.b),vi c1.i,vi c1.h],.val (.sl false 1 (List.map vs a0))] [vs r0] [[.sl false 1 (List.map (vk .u8) q0.b),vi q0.i,vi q0.h]]:=by
 refine iA Tryz.func97 fun C q=>?_
 unfold iR
 repeat' first | refine And.intro ?_ ?_ | refine Prod.forall.2 ?_ | (intro _;try dsimp only) | refine gW ?_ | exact Z | refine S ?_
instance e60_:Ent E 60:=aZ Tryz.func60
instance c60_ (s1:ByteArray) {r0:Bool}:Con E 60 (kH s1=some r0) [.val (vs s1)] [vb r0] []:=by
 refine iA Tryz.func60 fun C q=>?_
 unfold kH
 repeat' first | refine And.intro ?_ ?_ | refine Prod.forall.2 ?_ | (intro _;try dsimp only) | refine gW ?_ | exact Z | refine dL 1 [0,13] [] (fun v=>[(13,.t (vb v))]) (fun _=>[]) ?_ | refine dL 6 [0,3,31] [] (fun v=>[(31,.t (vb v))]) (fun _=>[]) ?_ | refine dG 4016 [0,3] [] (fun v=>[(3,.t (vi v))]) (fun _=>[]) (by unfold jY;rfl) ?_ | refine jZ 3020 [0] [] (fun _=>[]) (fun _=>[]) ?_ | refine S ?_
instance e62_:Ent E 62:=aZ Tryz.func62
instance c62_ (a0:Int) (i2:Int) (a1:Int) {r0:Bool}:Con E 62 (mP a0 i2 a1=some r0) [.val (vi a0),.val (vi i2),.val (vi a1)] [vb r0] []:=by
 refine iA Tryz.func62 fun C q=>?_
 unfold mP
 repeat' first | refine And.intro ?_ ?_ | refine Prod.forall.2 ?_ | (intro _;try dsimp only) | refine gW ?_ | exact Z | refine dL 3 [0,2,12] [] (fun v=>[(12,.t (vb v))]) (fun _=>[]) ?_ | refine S ?_
instance e34_:Ent E 34:=aZ Tryz.func34
instance c34_ (n1:Int) {r0:ByteArray}:Con E 34 (dA n1=some r0) [.val (vi n1)] [vs r0] []:=by
 refine iA Tryz.func34 fun C q=>?_
 unfold dA
 repeat' first | refine And.intro ?_ ?_ | refine Prod.forall.2 ?_ | (intro _;try dsimp only) | refine gW ?_ | exact Z | refine S ?_
end
theorem res95:Tryz.f95.results.toList=[.tmp 4]:=rfl
theorem aKn:cN E.P 95:=eO Tryz.func95 (by simp [Tryz.f95]) rfl
theorem fT (hb ho:Nat) (m1:Gl05Made) (a0:List ByteArray) (m3:Gl01Cur) {r0:ByteArray} {q2:Gl01Cur} (h:cV m1 a0 m3=some (r0,q2)):OkH E 95 2 [adr hb ho] [.ptr [.v (adr hb ho),.sl false 1 (List.map vs m1.ints),.sl false 1 (List.map vs m1.boxes),vi m1.n,vs m1.text,vb m1.wild],.val (.sl false 1 (List.map vs a0)),.ptr [.sl false 1 (List.map (vk .u8) m3.b),vi m3.i,vi m3.h]] [vs r0] [[.v (adr hb ho),.sl false 1 (List.map vs m1.ints),.sl false 1 (List.map vs m1.boxes),vi m1.n,vs m1.text,vb m1.wild],[.sl false 1 (List.map (vk .u8) q2.b),vi q2.i,vi q2.h]]:=by
 refine gL (fn:=Tryz.f95) (vis:=[.ptr [.v (adr hb ho),.sl false 1 (List.map vs m1.ints),.sl false 1 (List.map vs m1.boxes),vi m1.n,vs m1.text,vb m1.wild],.val (.sl false 1 (List.map vs a0))]) [0,1] [15,17] Tryz.func95 rfl (by simp [Tryz.f95]) rfl rfl rfl rfl fun C hN hP hPK hPKi=>?_
 have y:∀ l,tI [] l=true→lO C.pin l=true:=pO (by rw [hP];rfl)
 have q:C.N=15:=hN
 clear hN
 unfold cV at h
 iterate 11 first|refine V_q q ?_|apply aP|refine O.zT y ?_
 refine oE 9 17 hPK fun K u=>?_;simp [q];apply u
 obtain ⟨⟨r4,q5⟩,a5,h⟩:=bS h
 try dsimp only at h
 refine lK fun KW hKW=>?_
 refine dW [((.ptr 3),.tmp 9),(.take,.tmp 11)] q (Ent.ok (E:=E) (f:=18)) (Con.ok a5) ?_
 refine wN (hKW _ ?_);clear hKW
 obtain ⟨e7,a6,h⟩:=bS h
 obtain ⟨a1,a2,a3,a4⟩:=gS a6
 iterate 3 (refine V_q q ?_ rfl (by simp [a1,a2,a3,a4];rfl))
 apply aP
 cases h
 refine O.ret ?_
 simp [aQ,iB,res95]
theorem res93:Tryz.f93.results.toList=[.tmp 4]:=rfl
theorem aEs:cN E.P 93:=eO Tryz.func93 (by simp [Tryz.f93]) rfl
theorem bY (hb ho:Nat) (m1:Gl05Made) (s2:ByteArray) (m3:Gl01Cur) {r0:ByteArray} {q0:Gl05Made} {q2:Gl01Cur} (h:bR m1 s2 m3=some (r0,q0,q2)):OkH E 93 2 [adr hb ho] [.ptr [.v (adr hb ho),.sl false 1 (List.map vs m1.ints),.sl false 1 (List.map vs m1.boxes),vi m1.n,vs m1.text,vb m1.wild],.val (vs s2),.ptr [.sl false 1 (List.map (vk .u8) m3.b),vi m3.i,vi m3.h]] [vs r0] [[.v (adr hb ho),.sl false 1 (List.map vs q0.ints),.sl false 1 (List.map vs q0.boxes),vi q0.n,vs q0.text,vb q0.wild],[.sl false 1 (List.map (vk .u8) q2.b),vi q2.i,vi q2.h]]:=by
 refine gL (fn:=Tryz.f93) (vis:=[.ptr [.v (adr hb ho),.sl false 1 (List.map vs m1.ints),.sl false 1 (List.map vs m1.boxes),vi m1.n,vs m1.text,vb m1.wild],.val (vs s2)]) [0,1] [20,22] Tryz.func93 rfl (by simp [Tryz.f93]) rfl rfl rfl rfl fun C hN hP hPK hPKi=>?_
 have y:∀ l,tI [] l=true→lO C.pin l=true:=pO (by rw [hP];rfl)
 have q:C.N=20:=hN
 clear hN
 unfold bR at h
 iterate 20 first|refine V_q q ?_|apply aP|refine O.zT y ?_
 obtain ⟨r4,a2,h⟩:=bS h
 refine lK fun KW hKW=>?_
 refine dW [(.take,.tmp 17)] q (Ent.ok (E:=E) (f:=53)) (Con.ok a2) ?_
 refine wN (hKW _ ?_);clear hKW
 obtain ⟨t6,a3,h⟩:=bS h
 obtain ⟨a0,a1⟩:=aB a3
 refine V_q q ?_ rfl (by simp [a0,a1];rfl)
 refine V_q q ?_
 apply aP
 cases h
 refine O.ret ?_
 simp [aQ,iB,res93]
theorem res15:Tryz.f15.results.toList=[.tmp 2]:=rfl
theorem ent15:cN E.P 15:=eO Tryz.func15 (by simp [Tryz.f15]) rfl
instance c15_ (m1:GMeasure) {r0:ByteArray}:Con E 15 (fC m1=some r0) [.val (GMeasure.enc m1)] [vs r0] []:=Con.mk fun h=>by
 refine oB Tryz.func15 rfl (by simp [Tryz.f15]) fun C (q:C.N=49) hP=>?_
 have y:=uM hP
 unfold fC at h
 iterate 7 first|refine aI q ?_|apply wN|refine O.zS y ?_
 refine O.seq ?_
 obtain ⟨r3,d2,h⟩:=bS h
 obtain ⟨r5,d3,h⟩:=bS h
 obtain ⟨t7,d4,h⟩:=bS h
 obtain ⟨b2,b3⟩:=aB d4
 obtain ⟨r8,d5,h⟩:=bS h
 obtain ⟨d6,b8,h⟩:=bS h
 obtain ⟨a0,a1⟩:=aB b8
 obtain ⟨d7,b9,h⟩:=bS h
 obtain ⟨d8,c0,h⟩:=bS h
 obtain ⟨a2,a3⟩:=aB c0
 obtain ⟨d9,c1,h⟩:=bS h
 obtain ⟨e0,c2,h⟩:=bS h
 obtain ⟨a4,a5⟩:=aB c2
 obtain ⟨e1,c3,h⟩:=bS h
 obtain ⟨e2,c4,h⟩:=bS h
 obtain ⟨a6,a7⟩:=aB c4
 obtain ⟨e3,c5,h⟩:=bS h
 obtain ⟨e4,c6,h⟩:=bS h
 obtain ⟨a8,a9⟩:=aB c6
 obtain ⟨e5,c7,h⟩:=bS h
 obtain ⟨e6,c8,h⟩:=bS h
 obtain ⟨b0,b1⟩:=aB c8
 obtain ⟨e7,c9,h⟩:=bS h
 refine O.dT rfl (y _ rfl) (en 4 [.t (.v (.func (.func 32) #[] #[])),rf 1 0,.t (vi m1.Fns),.t (vs r3),.t (.v (.func (.func 32) #[] #[])),rf 1 1,.t (vi m1.Nodes),.t (vs r5),.t (vs t7),.t (.v (.func (.func 32) #[] #[])),rf 1 2,.t (vi m1.Steps),.t (vs r8),.t (vs d6),.t (.v (.func (.func 32) #[] #[])),rf 1 3,.t (vi m1.Values),.t (vs d7),.t (vs d8),.t (.v (.func (.func 32) #[] #[])),rf 1 4,.t (vi m1.Blocks),.t (vs d9),.t (vs e0),.t (.v (.func (.func 32) #[] #[])),rf 1 5,.t (vi m1.Lets),.t (vs e1),.t (vs e2),.t (.v (.func (.func 32) #[] #[])),rf 1 6,.t (vi m1.News),.t (vs e3),.t (vs e4),.t (.v (.func (.func 32) #[] #[])),rf 1 7,.t (vi m1.Lends),.t (vs e5),.t (vs e6),.t (.v (.func (.func 32) #[] #[])),rf 1 8,.t (vi m1.Deep),.t (vs e7)]) [[],[],[1],[0,1,2],[],[],[5],rg 0 7,rg 0 8,[],[],[10],rg 0 8++[9,10,11],rg 0 13,[],[],[15],rg 0 8++rg 9 4++[14,15,16],rg 0 18,[],[],[20],rg 0 8++rg 9 4++rg 14 4++[19,20,21],rg 0 23,[],[],[25],rg 0 8++rg 9 4++rg 14 4++rg 19 4++[24,25,26],rg 0 28,[],[],[30],rg 0 8++rg 9 4++rg 14 4++rg 19 4++rg 24 4++[29,30,31],rg 0 33,[],[],[35],rg 0 8++rg 9 4++rg 14 4++rg 19 4++rg 24 4++rg 29 4++[34,35,36],rg 0 38,[],[],[40],rg 0 8++rg 9 4++rg 14 4++rg 19 4++rg 24 4++rg 29 4++rg 34 4++[39,40,41],rg 0 43,rg 0 44,rg 0 45] (by simp) (by simp) (by simp [look]) rfl rfl rfl ?_ fun K u=>?_
 ·refine ⟨?_,?_,?_,?_,?_,?_,?_,?_,?_,?_,?_,?_,?_,?_,?_,?_,?_,?_,?_,?_,?_,?_,?_,?_,?_,?_,?_,?_,?_,?_,?_,?_,?_,?_,?_,?_,?_,?_,?_,?_,?_,?_,?_,trivial⟩
  all_goals (intro τ hbx hb hd hf K u;try simp [bM] at hd;simp [bM] at hf;first | (refine wC rfl fun K' w=>?_;simp [q,hbx,hb,hd,hf,b2,b3,a0,a1,a2,a3,a4,a5,a6,a7,a8,a9,b0,b1];exact w _ (wN (u _ (by simp [bM,hbx,b2,b3,a0,a1,a2,a3,a4,a5,a6,a7,a8,a9,b0,b1])))) | (refine wL [(.take,.const (.string (⟨#[102,110,115]⟩:ByteArray))),(.take,.tmp 6)] rfl rfl (Ent.ok (E:=E) (f:=32)) (Con.ok d2) fun K' w=>?_;simp [q,hbx,hb,hd,hf,b2,b3,a0,a1,a2,a3,a4,a5,a6,a7,a8,a9,b0,b1];exact w _ (wN (u _ (by simp [bM,hbx,b2,b3,a0,a1,a2,a3,a4,a5,a6,a7,a8,a9,b0,b1])))) | (refine wL [(.take,.const (.string (⟨#[32,110,111,100,101,115]⟩:ByteArray))),(.take,.tmp 10)] rfl rfl (Ent.ok (E:=E) (f:=32)) (Con.ok d3) fun K' w=>?_;simp [q,hbx,hb,hd,hf,b2,b3,a0,a1,a2,a3,a4,a5,a6,a7,a8,a9,b0,b1];exact w _ (wN (u _ (by simp [bM,hbx,b2,b3,a0,a1,a2,a3,a4,a5,a6,a7,a8,a9,b0,b1])))) | (refine wL [(.take,.const (.string (⟨#[32,115,116,101,112,115]⟩:ByteArray))),(.take,.tmp 15)] rfl rfl (Ent.ok (E:=E) (f:=32)) (Con.ok d5) fun K' w=>?_;simp [q,hbx,hb,hd,hf,b2,b3,a0,a1,a2,a3,a4,a5,a6,a7,a8,a9,b0,b1];exact w _ (wN (u _ (by simp [bM,hbx,b2,b3,a0,a1,a2,a3,a4,a5,a6,a7,a8,a9,b0,b1])))) | (refine wL [(.take,.const (.string (⟨#[32,118,97,108,117,101,115]⟩:ByteArray))),(.take,.tmp 20)] rfl rfl (Ent.ok (E:=E) (f:=32)) (Con.ok b9) fun K' w=>?_;simp [q,hbx,hb,hd,hf,b2,b3,a0,a1,a2,a3,a4,a5,a6,a7,a8,a9,b0,b1];exact w _ (wN (u _ (by simp [bM,hbx,b2,b3,a0,a1,a2,a3,a4,a5,a6,a7,a8,a9,b0,b1])))) | (refine wL [(.take,.const (.string (⟨#[32,98,108,111,99,107,115]⟩:ByteArray))),(.take,.tmp 25)] rfl rfl (Ent.ok (E:=E) (f:=32)) (Con.ok c1) fun K' w=>?_;simp [q,hbx,hb,hd,hf,b2,b3,a0,a1,a2,a3,a4,a5,a6,a7,a8,a9,b0,b1];exact w _ (wN (u _ (by simp [bM,hbx,b2,b3,a0,a1,a2,a3,a4,a5,a6,a7,a8,a9,b0,b1])))) | (refine wL [(.take,.const (.string (⟨#[32,108,101,116,115]⟩:ByteArray))),(.take,.tmp 30)] rfl rfl (Ent.ok (E:=E) (f:=32)) (Con.ok c3) fun K' w=>?_;simp [q,hbx,hb,hd,hf,b2,b3,a0,a1,a2,a3,a4,a5,a6,a7,a8,a9,b0,b1];exact w _ (wN (u _ (by simp [bM,hbx,b2,b3,a0,a1,a2,a3,a4,a5,a6,a7,a8,a9,b0,b1])))) | (refine wL [(.take,.const (.string (⟨#[32,110,101,119,115]⟩:ByteArray))),(.take,.tmp 35)] rfl rfl (Ent.ok (E:=E) (f:=32)) (Con.ok c5) fun K' w=>?_;simp [q,hbx,hb,hd,hf,b2,b3,a0,a1,a2,a3,a4,a5,a6,a7,a8,a9,b0,b1];exact w _ (wN (u _ (by simp [bM,hbx,b2,b3,a0,a1,a2,a3,a4,a5,a6,a7,a8,a9,b0,b1])))) | (refine wL [(.take,.const (.string (⟨#[32,108,101,110,100,115]⟩:ByteArray))),(.take,.tmp 40)] rfl rfl (Ent.ok (E:=E) (f:=32)) (Con.ok c7) fun K' w=>?_;simp [q,hbx,hb,hd,hf,b2,b3,a0,a1,a2,a3,a4,a5,a6,a7,a8,a9,b0,b1];exact w _ (wN (u _ (by simp [bM,hbx,b2,b3,a0,a1,a2,a3,a4,a5,a6,a7,a8,a9,b0,b1])))) | (refine wL [(.take,.const (.string (⟨#[32,100,101,101,112]⟩:ByteArray))),(.take,.tmp 45)] rfl rfl (Ent.ok (E:=E) (f:=32)) (Con.ok c9) fun K' w=>?_;simp [q,hbx,hb,hd,hf,b2,b3,a0,a1,a2,a3,a4,a5,a6,a7,a8,a9,b0,b1];exact w _ (wN (u _ (by simp [bM,hbx,b2,b3,a0,a1,a2,a3,a4,a5,a6,a7,a8,a9,b0,b1])))))
 obtain ⟨e8,d0,h⟩:=bS h
 obtain ⟨b4,b5⟩:=aB d0
 refine aI q ?_ rfl (by simp [b2,b3,a0,a1,a2,a3,a4,a5,a6,a7,a8,a9,b0,b1,b4,b5];rfl)
 obtain ⟨e9,d1,h⟩:=bS h
 obtain ⟨b6,b7⟩:=aB d1
 iterate 2 (refine aI q ?_ rfl (by simp [b2,b3,a0,a1,a2,a3,a4,a5,a6,a7,a8,a9,b0,b1,b4,b5,b6,b7];rfl))
 apply wN;apply u
 cases h
 refine O.ret ?_
 simp [aQ,iB,res15]
instance e15_:Ent E 15:=⟨ent15⟩
end Go.Proofs.T
