import Derived.Test.YtgcgpnhokjhghabGreatDoorW0
import Derived.Test.YtgcgpnhokjhghabGreatDoorW11
import Derived.Test.YtgcgpnhokjhghabGreatDoorW12
import Derived.Test.YtgcgpnhokjhghabGreatDoorW3
import Derived.Test.YtgcgpnhokjhghabGreatDoorW6
set_option linter.unusedVariables false
set_option linter.unusedSimpArgs false
set_option linter.unusedVariables false
set_option linter.unusedSimpArgs false
set_option maxHeartbeats 8000000
set_option maxRecDepth 100000
namespace Go.Proofs.T
open Go.OM
section
attribute [local irreducible] Hg O St.wps aO iB Lv Ct Lp VL Option.bind aP sAt eK bN bO mkI eS fO bF aI ite Dr
instance e53_:Ent E 53:=aY Tryz.func53
instance c53_ (a0:List GNode) (k2:Int) {r0:List Int}:Con E 53 (lR a0 k2=some r0) [.val (.sl false 4 (List.map (GNode.enc false) a0)),.val (vi k2)] [.sl true 1 (List.map vi r0)] []:=by
 refine eZ Tryz.func53 fun C q=>?_;unfold lR;repeat' first | refine And.intro ?_ ?_ | refine Prod.forall.2 ?_ | (intro _;try dsimp only) | refine eY ?_ | exact Z | refine cR 3 [0,1,5,6,18] [] (fun v=>[(18,.t (vb v))]) (fun _=>[]) ?_ | refine cR 6 [0,1,5,6,7,36] [] (fun v=>[(36,.t (vb v))]) (fun _=>[]) ?_ | refine cG 6005 [0,1,5,6,7] [] (fun v=>[(7,.t (vi v))]) (fun _=>[]) ?_ | refine cR 9 [0,1,5,6,7,8,48] [] (fun v=>[(48,.t (vb v))]) (fun _=>[]) ?_ | refine bG 9014 [0,1,5,6,7,8] [] (fun v=>[(7,.t (vi v.1)),(8,.t (vi v.2))]) (fun _=>[]) (by unfold eG;rfl) ?_ | refine cG 8018 [0,1,5,6,7] [] (fun v=>[(7,.t (vi v))]) (fun _=>[]) ?_ | refine cG 13005 [0,1,5,6,7] [] (fun v=>[(7,.t (vi v))]) (fun _=>[]) ?_ | refine cG 5035 [0,1,5,6] [] (fun v=>[(5,.t (.sl true 1 (List.map vi v)))]) (fun _=>[]) ?_ | refine bG 3043 [0,1,5,6] [] (fun v=>[(5,.t (.sl true 1 (List.map vi v.1))),(6,.t (vi v.2))]) (fun _=>[]) (by unfold jT;rfl) ?_ | refine cG 2047 [5] [] (fun v=>[(5,.t (.sl true 1 (List.map vi v)))]) (fun _=>[]) ?_ | refine S ?_
instance e71_:Ent E 71:=aY Tryz.func71
instance c71_ (a0:List GNode) (k2:Int) {r0:List Int} {r1:Bool}:Con E 71 (rU a0 k2=some (r0,r1)) [.val (.sl false 4 (List.map (GNode.enc false) a0)),.val (vi k2)] [.sl true 1 (List.map vi r0),vb r1] []:=by
 refine eZ Tryz.func71 fun C q=>?_;unfold rU;repeat' first | refine And.intro ?_ ?_ | refine Prod.forall.2 ?_ | (intro _;try dsimp only) | refine eY ?_ | exact Z | refine bG 11012 [0,1,6,7,8,30,31,32] [] (fun v=>[(8,.t (vi v.1)),(32,.t (vi v.2))]) (fun _=>[]) (by unfold kA;rfl) ?_ | refine cG 10016 [0,1,6,7,8] [] (fun v=>[(8,.t (vi v))]) (fun _=>[]) ?_ | refine eW 7037 [0,1,6,7] [] (fun v=>[(6,.t (.sl true 1 (List.map vi v)))]) (fun _=>[]) ?_ | refine bG 5045 [0,1,6,7] [] (fun v=>[(6,.t (.sl true 1 (List.map vi v.1))),(7,.t (vi v.2))]) (fun _=>[]) (by unfold mU;rfl) ?_ | refine eW 4049 [6] [] (fun v=>[(6,.t (.sl true 1 (List.map vi v)))]) (fun _=>[]) ?_ | refine S ?_
instance e156_:Ent E 156:=aY Tryz.func156
instance c156_ (r1:Gl05Read) {r0:Int} {q0:Gl05Read}:Con E 156 (eL r1=some (r0,q0)) [.ptr [.sl true 3 (List.map GSign.enc r1.list),vi r1.at_,vb r1.bad,vi r1.deep,.sl true 4 (List.map (GNode.enc true) r1.nodes)]] [vi r0] [[.sl true 3 (List.map GSign.enc q0.list),vi q0.at_,vb q0.bad,vi q0.deep,.sl true 4 (List.map (GNode.enc true) q0.nodes)]]:=by
 refine eZ Tryz.func156 fun C q=>?_;unfold eL;repeat' first | refine And.intro ?_ ?_ | refine Prod.forall.2 ?_ | (intro _;try dsimp only) | refine eY ?_ | exact Z | refine S ?_
end
theorem aNn:Tryz.f124.results.toList=[.tmp 2]:=rfl
theorem qP:dR E.P 124:=eO Tryz.func124 (by simp [Tryz.f124]) rfl
theorem aV (hb ho:Nat) (m1:Gl05Made) (m2:Gl01Cur) {r0:ByteArray} {q1:Gl01Cur} (h:aR m1 m2=some (r0,q1)):OkH E 124 1 [adr hb ho] [.ptr [.v (adr hb ho),.sl false 1 (List.map vs m1.ints),.sl false 1 (List.map vs m1.boxes),vi m1.n,vs m1.text,vb m1.wild],.ptr [.sl false 1 (List.map (vk .u8) m2.b),vi m2.i,vi m2.h]] [vs r0] [[.v (adr hb ho),.sl false 1 (List.map vs m1.ints),.sl false 1 (List.map vs m1.boxes),vi m1.n,vs m1.text,vb m1.wild],[.sl false 1 (List.map (vk .u8) q1.b),vi q1.i,vi q1.h]]:=by
 refine jM (fn:=Tryz.f124) (vis:=[.ptr [.v (adr hb ho),.sl false 1 (List.map vs m1.ints),.sl false 1 (List.map vs m1.boxes),vi m1.n,vs m1.text,vb m1.wild]]) [0] [46,47] Tryz.func124 rfl (by simp [Tryz.f124]) rfl rfl rfl rfl fun C hN hP hPK hPKi=>?_
 have y:∀ l,yK [] l=true→oX C.pin l=true:=pO (by rw [hP];rfl)
 have q:C.N=46:=hN;clear hN;unfold aR at h
 iterate 8 first|refine V_q q ?_|apply aT|refine O.zT y ?_
 refine sE 7 47 hPK fun K u=>?_;simp [q];apply u;obtain ⟨⟨r3,q4⟩,b8,h⟩:=bS h;try dsimp only at h
 refine nQ fun KW hKW=>?_;refine fP [((.ptr 3),.tmp 7),(.take,.const (.int .i64 5))] q (Ent.ok (E:=E) (f:=34)) (Con.ok b8) ?_;refine wN (hKW _ ?_);clear hKW;refine V_q q ?_;apply aT;refine O.seq ?_;refine O.block ?_;obtain ⟨b9,a8,h⟩:=bS h;refine O.seqRCV rfl (y _ rfl) [0,3,9] [46,47] (fun _:Unit=>⟨[(0,.ref (.box 46) 0 []),(3,.t (vi r3)),(9,.t (vb b9))],[(46,[.v (adr hb ho),.sl false 1 (List.map vs m1.ints),.sl false 1 (List.map vs m1.boxes),vi m1.n,vs m1.text,vb m1.wild]),(47,[.sl false 1 (List.map (vk .u8) q4.b),vi q4.i,vi q4.h])]⟩) (fun _=>True) (fun _ _=>?_) fun K7 b7=>?_;rotate_left
 ·refine V_q q ?_
  iterate 2 refine V_q q ?_
  rcases mD a8 with ⟨b2,a8⟩ | ⟨a5,a8⟩
  ·have a6:=b2;try simp at a6
   iterate 8 (refine V_q q ?_ rfl (by simp [b2,a6];rfl))
   refine aT ?_;cases a8;exact b7 _ () [] trivial (by simp [q,b2,a6])
  have a1:=a5;try simp at a1
  refine nQ fun KW hKW=>?_;refine wO fun K u=>?_;simp [q,a5,a1];apply u;refine wN (hKW _ ?_);clear hKW;refine nQ fun KW hKW=>?_;refine wO fun K u=>?_;simp [q,a5,a1];apply u;refine wN (hKW _ ?_);clear hKW;refine nQ fun KW hKW=>?_;refine wO fun K u=>?_;simp [q,a5,a1];apply u;refine wN (hKW _ ?_);clear hKW;refine nQ fun KW hKW=>?_;refine wO fun K u=>?_;simp [q,a5,a1];apply u;refine wN (hKW _ ?_);clear hKW;refine nQ fun KW hKW=>?_;refine wO fun K u=>?_;simp [q,a5,a1];apply u;refine wN (hKW _ ?_);clear hKW;refine nQ fun KW hKW=>?_;refine wO fun K u=>?_;simp [q,a5,a1];apply u;refine wN (hKW _ ?_);clear hKW
  iterate 2 (refine V_q q ?_ rfl (by simp [a5,a1];rfl))
  refine aT ?_;cases a8;exact b7 _ () [] trivial (by simp [q,a5,a1])
 refine O.cI h (fun c0 h=>?_) fun c1 h=>?_
 ·refine O.zT y ?_
  iterate 5 refine V_q q ?_
  obtain ⟨⟨c5,c6⟩,b3,h⟩:=bS h;try dsimp only at h
  refine dE [((.ptr 6),.tmp 20),(.take,.tmp 24)] 25 47 rfl rfl rfl (by simp [gE]) aL7 hPK (.inl rfl) (iN _ _ _ _ _ b3) fun K u=>?_;simp [q];apply u
  refine V_q q ?_;apply aT;cases h;refine O.ret ?_;simp [aO,iB,aNn]
 obtain ⟨c2,a3,h⟩:=bS h;refine O.seqRCV rfl (y _ rfl) [0,26] [46,47] (fun _:Unit=>⟨[(0,.ref (.box 46) 0 []),(26,.t (vb c2))],[(46,[.v (adr hb ho),.sl false 1 (List.map vs m1.ints),.sl false 1 (List.map vs m1.boxes),vi m1.n,vs m1.text,vb m1.wild]),(47,[.sl false 1 (List.map (vk .u8) q4.b),vi q4.i,vi q4.h])]⟩) (fun _=>True) (fun _ _=>?_) fun c7 a9=>?_;rotate_left
 ·refine V_q q ?_
  iterate 2 refine V_q q ?_
  rcases mD a3 with ⟨a7,a3⟩ | ⟨a2,a3⟩
  ·have a4:=a7;try simp at a4
   iterate 8 (refine V_q q ?_ rfl (by simp [a7,a4];rfl))
   refine aT ?_;cases a3;exact a9 _ () [] trivial (by simp [q,a7,a4])
  have a0:=a2;try simp at a0
  refine nQ fun KW hKW=>?_;refine wO fun K u=>?_;simp [q,a2,a0];apply u;refine wN (hKW _ ?_);clear hKW;refine nQ fun KW hKW=>?_;refine wO fun K u=>?_;simp [q,a2,a0];apply u;refine wN (hKW _ ?_);clear hKW;refine nQ fun KW hKW=>?_;refine wO fun K u=>?_;simp [q,a2,a0];apply u;refine wN (hKW _ ?_);clear hKW;refine nQ fun KW hKW=>?_;refine wO fun K u=>?_;simp [q,a2,a0];apply u;refine wN (hKW _ ?_);clear hKW;refine nQ fun KW hKW=>?_;refine wO fun K u=>?_;simp [q,a2,a0];apply u;refine wN (hKW _ ?_);clear hKW;refine nQ fun KW hKW=>?_;refine wO fun K u=>?_;simp [q,a2,a0];apply u;refine wN (hKW _ ?_);clear hKW
  iterate 2 (refine V_q q ?_ rfl (by simp [a2,a0];rfl))
  refine aT ?_;cases a3;exact a9 _ () [] trivial (by simp [q,a2,a0])
 refine O.cI h (fun c3 h=>?_) fun c4 h=>?_
 ·refine O.zT y ?_
  iterate 5 refine V_q q ?_
  obtain ⟨⟨c8,c9⟩,b4,h⟩:=bS h;try dsimp only at h
  refine dE [((.ptr 6),.tmp 37),(.take,.tmp 41)] 42 47 rfl rfl rfl (by simp [gE]) aL7 hPK (.inl rfl) (iN _ _ _ _ _ b4) fun K u=>?_;simp [q];apply u
  obtain ⟨d0,b5,h⟩:=bS h;obtain ⟨b0,b1⟩:=aC b5;refine V_q q ?_ rfl (by simp [b0,b1];rfl)
  refine V_q q ?_;apply aT;cases h;refine O.ret ?_;simp [aO,iB,aNn]
 refine O.skip ?_;refine O.zT y ?_;refine V_q q ?_;obtain ⟨⟨d1,d2⟩,b6,h⟩:=bS h;try dsimp only at h
 refine dE [((.ptr 6),.tmp 44)] 45 47 rfl rfl rfl (by simp [gE]) aQr hPK (.inl rfl) (oZ _ _ _ _ b6) fun K u=>?_;simp [q];apply u
 refine V_q q ?_;apply aT;cases h;refine O.ret ?_;simp [aO,iB,aNn]
end Go.Proofs.T
