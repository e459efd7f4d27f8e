import Derived.Test.YteimlhpimngjfaaDoorW1
import Derived.Test.YteimlhpimngjfaaDoorW10
import Derived.Test.YteimlhpimngjfaaDoorW13
import Derived.Test.YteimlhpimngjfaaDoorW14
import Derived.Test.YteimlhpimngjfaaDoorW8
import Derived.Test.YteimlhpimngjfaaDoorW9
set_option linter.unusedVariables false
set_option linter.unusedSimpArgs false
set_option linter.unusedVariables false
set_option linter.unusedSimpArgs false
set_option maxHeartbeats 8000000
set_option maxRecDepth 100000
namespace Go.Proofs.T
open Go.OM
theorem res17 : Tryd.f17.results.toList = [.tmp 4] := rfl
theorem ent17 : Enters E.P 17 := eO Tryd.func17 (by simp [Tryd.f17]) rfl
instance c17_ (c1 : GCode) (i2 : Int) {r0 : List Bool} : Con E 17 (spec_InForce c1 i2 = some r0) [.val (GCode.enc false c1), .val (vi i2)] [.sl true 1 (List.map vb r0)] [] := Con.mk fun h => by
 refine oB Tryd.func17 rfl (by simp [Tryd.f17]) fun C (q : C.N = 37) hP => ?_
 have y := pinB0 hP
 unfold spec_InForce at h
 refine SWp.zS y ?_
 iterate 2 refine wps_q q ?_
 apply wN
 refine SWp.seq ?_
 obtain ⟨c3, a9, h⟩ := bS h
 refine SWp.seqRC rfl (y _ rfl) [1, 2, 17] [2] (fun _ : Unit => ⟨[(1, .t (vi i2)), (2, .ref (.box 2) 0 []), (17, .t (vb c3))], [(2, [vs c1.Name, vi c1.Params, .sl false 1 (List.map vi c1.Locals), .sl false 7 (List.map (GIns.enc false) c1.Words)])]⟩) (fun _ => True) (fun _ _ => ?_) fun K4 c2 => ?_
 rotate_left
 ·refine wps_q q ?_
  obtain ⟨r5, c4, a9⟩ := bS a9
  refine wps_c [(.take, .tmp 6)] q (Ent.ok (E := E) (f := 24)) (Con.ok c4) ?_
  iterate 2 refine wps_q q ?_
  rcases ite_or a9 with ⟨b2, a9⟩ | ⟨b1, a9⟩
  ·have b0 := b2
   try simp at b0
   iterate 7 (refine wO fun K w => ?_; simp [q, b2, b0]; apply w)
   refine wps_q q ?_ rfl (by simp [b2, b0]; rfl)
   refine wN ?_
   cases a9
   exact c2 _ () [] trivial (by simp [q, b2, b0])
  have a8 := b1
  try simp at a8
  iterate 5 (refine wps_q q ?_ rfl (by simp [b1, a8]; rfl))
  obtain ⟨r9, b3, a9⟩ := bS a9
  refine wps_c [(.take, .tmp 10), (.take, .const (.int .i64 0)), (.take, .tmp 14)] q (Ent.ok (E := E) (f := 49)) (Con.ok b3) ?_ rfl rfl (by simp [b1, a8]; rfl)
  iterate 2 (refine wps_q q ?_ rfl (by simp [b1, a8]; rfl))
  refine wN ?_
  cases a9
  exact c2 _ () [] trivial (by simp [q, b1, a8])
 refine SWp.cI h (fun c5 h => ?_) fun c6 h => ?_
 ·refine SWp.zS y ?_
  iterate 2 refine wps_q q ?_
  apply wN
  cases h
  refine SWp.ret ?_
  simp [thenS, iB, res17]
 refine SWp.skip ?_
 refine SWp.zS y ?_
 refine wps_q q ?_
 obtain ⟨c7, b4, h⟩ := bS h
 refine wps_c [(.take, .tmp 19)] q (Ent.ok (E := E) (f := 26)) (Con.ok b4) ?_
 refine wps_q q ?_
 apply wN
 refine SWp.seq ?_
 obtain ⟨c8, b5, h⟩ := bS h
 obtain ⟨c9, b6, h⟩ := bS h
 obtain ⟨d1, b7, h⟩ := bS h
 obtain ⟨a0, a1, a2, a3⟩ := gS b7
 obtain ⟨d0, b8, h⟩ := bS h
 obtain ⟨d2, b9, h⟩ := bS h
 obtain ⟨a4, a5, a6, a7⟩ := gS b9
 refine SWp.dT rfl (y _ rfl) (en 21 [.t (GCode.enc false c1), .al (.slot 5) 0 [] none, .t (GCode.enc false c1), .t (.sl true 1 (List.map vb c8)), .t (.sl true 1 (List.map (eSl true 1 (eSl true 1 vb)) c9)), .t (vi i2), .ref (.slot 25) 0 [(i2.toNat, 0)], .al (.slot 25) 0 [(i2.toNat, 0)] none, .t (GCode.enc false c1), .t (.sl true 1 (List.map (eSl true 1 vb) d0)), .t (vi i2), .ref (.slot 30) 0 [(i2.toNat, 0)], .al (.slot 30) 0 [(i2.toNat, 0)] none, .al (.slot 5) 0 [] none, .t (vi (c7.length : Int))]) [[], [], [], [2], rg 0 4, [], rg 0 6, rg 0 7, [], rg 0 5++[8], [], rg 0 5++[8, 9, 10], rg 0 5++rg 8 4, [], [13], rg 0 15, rg 0 16] (by simp) (by simp) (by simp [look]) rfl rfl rfl ?_ fun K u => ?_
 ·refine ⟨?_, ?_, ?_, ?_, ?_, ?_, ?_, ?_, ?_, ?_, ?_, ?_, ?_, ?_, ?_, trivial⟩
  all_goals (intro τ hbx hb hd hf K u; try simp [vsAt] at hd; simp [vsAt] at hf; first | (refine wC rfl fun K' v => ?_; simp [q, hbx, hb, hd, hf, a0, a1, a2, a3, a4, a5, a6, a7]; exact v _ (wN (u _ (by simp [vsAt, hbx, a0, a1, a2, a3, a4, a5, a6, a7])))) | (refine wL [(.take, .tmp 23)] rfl rfl (Ent.ok (E := E) (f := 27)) (Con.ok b5) fun K' v => ?_; simp [q, hbx, hb, hd, hf, a0, a1, a2, a3, a4, a5, a6, a7]; exact v _ (wN (u _ (by simp [vsAt, hbx, a0, a1, a2, a3, a4, a5, a6, a7])))) | (refine wL [(.take, .tmp 21), (.bor, .tmp 22), (.bor, .tmp 24)] rfl rfl ent25 (Con.ok b6) fun K' v => ?_; simp [q, hbx, hb, hd, hf, a0, a1, a2, a3, a4, a5, a6, a7]; exact v _ (wN (u _ (by simp [vsAt, hbx, a0, a1, a2, a3, a4, a5, a6, a7])))) | (refine wL [(.take, .tmp 29)] rfl rfl (Ent.ok (E := E) (f := 43)) (Con.ok b8) fun K' v => ?_; simp [q, hbx, hb, hd, hf, a0, a1, a2, a3, a4, a5, a6, a7]; exact v _ (wN (u _ (by simp [vsAt, hbx, a0, a1, a2, a3, a4, a5, a6, a7])))))
 obtain ⟨d3, c0, h⟩ := bS h
 refine wps_c [(.bor, .tmp 28), (.bor, .tmp 33), (.take, .tmp 35)] q (Ent.ok (E := E) (f := 44)) (Con.ok c0) ?_ rfl rfl (by simp [a0, a1, a2, a3, a4, a5, a6, a7]; rfl)
 refine wps_q q ?_ rfl (by simp [a0, a1, a2, a3, a4, a5, a6, a7]; rfl)
 apply wN; apply u
 cases h
 refine SWp.ret ?_
 simp [thenS, iB, res17]
instance e17_ : Ent E 17 := ⟨ent17⟩
end Go.Proofs.T
