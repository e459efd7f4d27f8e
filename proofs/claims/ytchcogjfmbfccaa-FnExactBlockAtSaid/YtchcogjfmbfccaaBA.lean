import Derived.Test.YtchcogjfmbfccaaTenv
set_option linter.unusedVariables false
set_option linter.unusedSimpArgs false
namespace Go.OM
/-- What is filled from the left, by what is at hand; z stands behind. -/
def fillTo {α : Type} (f : α → T) (z : T) (l : List α) (k : Nat) : List T := (l.take k).map f ++ List.replicate (l.length - k) z
theorem fillTo_len {α : Type} (f : α → T) (z : T) (l : List α) (k : Nat) (hk : k ≤ l.length) : (fillTo f z l k).length = l.length := by
  simp [fillTo]; omega
theorem fillTo_zero {α : Type} (f : α → T) (z : T) (l : List α) : fillTo f z l 0 = List.replicate l.length z := by simp [fillTo]
theorem fillTo_full {α : Type} (f : α → T) (z : T) (l : List α) : fillTo f z l l.length = l.map f := by simp [fillTo]
theorem fillTo_get {α : Type} (f : α → T) (z : T) (l : List α) (k : Nat) (hk : k < l.length) : (fillTo f z l k)[k]? = some z := by
  unfold fillTo
  have : ((l.take k).map f).length = k := by simp; omega
  rw [List.getElem?_append_right (by omega), this, Nat.sub_self, List.getElem?_replicate]
  simp; omega
theorem fillTo_set {α : Type} (f : α → T) (z : T) (l : List α) (k : Nat) (hk : k < l.length) : (fillTo f z l k).set k (f l[k]) = fillTo f z l (k + 1) := by
  unfold fillTo
  have h1 : ((l.take k).map f).length = k := by simp; omega
  rw [List.set_append_right _ _ (by omega), h1, Nat.sub_self]
  have h2 : l.length - k = (l.length - (k + 1)) + 1 := by omega
  rw [h2, List.replicate_succ, List.set_cons_zero, List.map_take, List.map_take, List.take_add_one, List.getElem?_map, List.getElem?_eq_getElem hk]
  simp
theorem fillTo_at {α : Type} (f : α → T) (z : T) (l : List α) (k : Nat) (hk : k < l.length) (h : k < (fillTo f z l k).length) : (fillTo f z l k)[k] = z := by
  have := fillTo_get f z l k hk
  rw [List.getElem?_eq_getElem h] at this
  injection this
end Go.OM
namespace Go.Proofs.T
open Go.OM
abbrev vi (n : Int) : T := .v (.int .i64 n)
@[simp] theorem own_ints (l : List Int) : T.hasOwnL (l.map vi) = false := hasOwnL_map vi (fun _ => rfl) l
theorem eq_of_all {α : Type} {l m : List α} (hlen : l.length = m.length) (h : ∀ j, j < l.length → l[j]? = m[j]?) : l = m := by
  apply List.ext_getElem?
  intro j
  by_cases hj : j < l.length
  · exact h j hj
  · rw [List.getElem?_eq_none (by omega), List.getElem?_eq_none (by omega)]
theorem laws_eqIntS (l m : List Int) (hl : l.length < 2 ^ 62) (hm : m.length < 2 ^ 62) : Ok E.P 36 [.val (.sl false 1 (l.map vi)), .val (.sl false 1 (m.map vi))] [.v (.bool (decide (l = m)))] [] := by
  refine ok_of_body (fn := Try.f36) Try.func36 rfl (by simp [Try.f36]) fun C hN => ?_
  have hN' : C.N = 26 := hN
  clear hN
  by_cases hlen : l.length = m.length
  case neg =>
    have hne : ¬ (l = m) := fun e => hlen (by rw [e])
    have hlen' : ¬ ((l.length : Int) = m.length) := by omega
    repeat (first
      | (refine SWp.seqR rfl fun K hK => ?_)
      | (refine SWp.reg rfl fun K hK => ?_)
      | (refine wps_cons rfl fun K hK => ?_; simp [hN', hlen, hlen']; refine hK _ ?_; clear hK)
      | (refine wps_nil (hK _ ?_); clear hK)
      | (refine SWp.seq ?_)
      | (refine SWp.condK fun K1 K2 hK1 hK2 => ?_; simp [hN', hlen, hlen']; first | (refine hK1 ?_; clear hK1 hK2) | (refine hK2 ?_; clear hK1 hK2) | (refine ⟨fun hc => hK1 ?_, fun hc => hK2 ?_⟩ <;> clear hK1 hK2))
      | (refine SWp.skip ?_; show SWp E C _ _ _)
      | (refine SWp.exit ?_; show SWp E C _ _ _)
      | (refine SWp.ret ?_; simp [thenS, Try.f36, hne]))
  case pos =>
    repeat (first
      | (refine SWp.seqR rfl fun K hK => ?_)
      | (refine SWp.reg rfl fun K hK => ?_)
      | (refine wps_cons rfl fun K hK => ?_; simp [hN', hlen]; refine hK _ ?_; clear hK)
      | (refine wps_nil (hK _ ?_); clear hK)
      | (refine SWp.seq ?_)
      | (refine SWp.condK fun K1 K2 hK1 hK2 => ?_; simp [hN', hlen]; first | (refine hK1 ?_; clear hK1 hK2) | (refine hK2 ?_; clear hK1 hK2) | (refine ⟨fun hc => hK1 ?_, fun hc => hK2 ?_⟩ <;> clear hK1 hK2))
      | (refine SWp.skip ?_; show SWp E C _ _ _)
      | (refine SWp.exit ?_; show SWp E C _ _ _)
      | (refine SWp.block ?_))

    refine SWp.loopK [0, 1, 4, 5] [] (fun k : Nat => ⟨[(0, .t (.sl false 1 (l.map vi))), (1, .t (.sl false 1 (m.map vi))), (4, .t (.v (.bool false))), (5, .t (vi k))], []⟩) (fun k => l.length - k) (fun k => k ≤ l.length ∧ ∀ j, j < k → l[j]? = m[j]?) 0 ⟨by omega, by simp⟩ (by simp [hN']) (by simp) fun k hk => ?_
    by_cases hlt : k < l.length
    · have hlt2 : k < m.length := by omega
      have w1 : IntKind.wrap .i64 ((k : Int) + 1) = ((k + 1 : Nat) : Int) := by rw [wrap64 (by omega) (by omega)]; omega
      repeat (first
        | (refine SWp.seqR rfl fun K hK => ?_)
        | (refine SWp.reg rfl fun K hK => ?_)
        | (refine wps_cons rfl fun K hK => ?_; simp [hN', hlt, hlt2, hlen, w1]; refine hK _ ?_; clear hK)
        | (refine wps_nil (hK _ ?_); clear hK)
        | (refine SWp.seq ?_)
        | (refine SWp.condK fun K1 K2 hK1 hK2 => ?_; simp [hN', hlt, hlt2, hlen, w1]; first | (refine hK1 ?_; clear hK1 hK2) | (refine hK2 ?_; clear hK1 hK2) | (refine ⟨fun hc => hK1 ?_, fun hc => hK2 ?_⟩ <;> clear hK1 hK2))
        | (refine SWp.skip ?_; show SWp E C _ _ _)
        | (refine SWp.exit ?_; show SWp E C _ _ _)
        | (refine SWp.block ?_))
      refine SWp.drawL rfl [17, 18, 19, 20, 21, 22, 23, 24, 25] (fun D => ⟨[(0, .t (.sl false 1 (l.map vi))), (1, .t (.sl false 1 (m.map vi))), (4, .t (.v (.bool false))), (5, .t (vi k)), (11, .t (vi k)), (12, .t (.sl false 1 (l.map vi))), (13, .t (vi m.length)), (14, .t (.v (.bool true))),
        (17, if D 0 = true then .t (.sl false 1 (l.map vi)) else .u), (18, if D 1 = true then .t (vi k) else .u), (19, if D 2 = true then .rop [vi l[k]] 0 else .u), (20, if D 3 = true then .t (vi l[k]) else .u), (21, if D 4 = true then .t (.sl false 1 (m.map vi)) else .u), (22, if D 5 = true then .t (vi k) else .u), (23, if D 6 = true then .rop [vi m[k]] 0 else .u), (24, if D 7 = true then .t (vi m[k]) else .u), (25, if D 8 = true then .t (.v (.bool (l[k] != m[k]))) else .u)], []⟩) ?_ rfl (fun K hK D hD => ?_) ?_
      · simp
      · have d0 := hD 0 (by simp); have d1 := hD 1 (by simp); have d2 := hD 2 (by simp); have d3 := hD 3 (by simp); have d4 := hD 4 (by simp); have d5 := hD 5 (by simp); have d6 := hD 6 (by simp); have d7 := hD 7 (by simp); have d8 := hD 8 (by simp)
        simp only [d0, d1, d2, d3, d4, d5, d6, d7, d8, if_true]
        refine hK _ ?_
        show SWp E C _ _ _
        by_cases he : l[k] = m[k]
        · have hs : ∀ j, j < k + 1 → l[j]? = m[j]? := by
            intro j hj
            by_cases ej : j = k
            · subst ej; rw [List.getElem?_eq_getElem hlt, List.getElem?_eq_getElem hlt2, he]
            · exact hk.2 j (by omega)
          repeat (first
            | (refine SWp.seqR rfl fun K hK => ?_)
            | (refine SWp.reg rfl fun K hK => ?_)
            | (refine wps_cons rfl fun K hK => ?_; simp [hN', hlt, hlt2, hlen, w1, he]; refine hK _ ?_; clear hK)
            | (refine wps_nil (hK _ ?_); clear hK)
            | (refine SWp.seq ?_)
            | (refine SWp.condK fun K1 K2 hK1 hK2 => ?_; simp [hN', hlt, hlt2, hlen, w1, he]; first | (refine hK1 ?_; clear hK1 hK2) | (refine hK2 ?_; clear hK1 hK2) | (refine ⟨fun hc => hK1 ?_, fun hc => hK2 ?_⟩ <;> clear hK1 hK2))
            | (refine SWp.skip ?_; show SWp E C _ _ _)
            | (refine SWp.exit ?_; show SWp E C _ _ _)
            | (refine SWp.block ?_))
          exact ⟨k + 1, ⟨by omega, hs⟩, by simp [hN'], by simp, by omega⟩
        · have hne : ¬ (l = m) := fun e => he (by subst e; rfl)
          repeat (first
            | (refine SWp.seqR rfl fun K hK => ?_)
            | (refine SWp.reg rfl fun K hK => ?_)
            | (refine wps_cons rfl fun K hK => ?_; simp [hN', hlt, hlt2, hlen, w1, he]; refine hK _ ?_; clear hK)
            | (refine wps_nil (hK _ ?_); clear hK)
            | (refine SWp.seq ?_)
            | (refine SWp.condK fun K1 K2 hK1 hK2 => ?_; simp [hN', hlt, hlt2, hlen, w1, he]; first | (refine hK1 ?_; clear hK1 hK2) | (refine hK2 ?_; clear hK1 hK2) | (refine ⟨fun hc => hK1 ?_, fun hc => hK2 ?_⟩ <;> clear hK1 hK2))
            | (refine SWp.skip ?_; show SWp E C _ _ _)
            | (refine SWp.exit ?_; show SWp E C _ _ _)
            | (refine SWp.block ?_)
            | (refine SWp.ret ?_; simp [thenS, Try.f36, inBlockS, hne]))
      · refine ⟨?_, ?_, ?_, ?_, ?_, ?_, ?_, ?_, ?_, trivial⟩
        all_goals
          intro D hD hdep K hK
          simp [depsIn, Region.binds] at hdep
          refine wps_cons rfl fun K' hK' => ?_
          simp [hN', hD, hdep, hlt, hlt2, hlen]
          refine hK' _ (wps_nil ?_)
          simpa [upd1, hD, hdep] using hK
    · have hke : k = l.length := by omega
      have heq : l = m := eq_of_all hlen (by rw [← hke]; exact hk.2)
      subst hke
      repeat (first
        | (refine SWp.seqR rfl fun K hK => ?_)
        | (refine SWp.reg rfl fun K hK => ?_)
        | (refine wps_cons rfl fun K hK => ?_; simp [hN', hlen]; refine hK _ ?_; clear hK)
        | (refine wps_nil (hK _ ?_); clear hK)
        | (refine SWp.seq ?_)
        | (refine SWp.condK fun K1 K2 hK1 hK2 => ?_; simp [hN', hlen]; first | (refine hK1 ?_; clear hK1 hK2) | (refine hK2 ?_; clear hK1 hK2) | (refine ⟨fun hc => hK1 ?_, fun hc => hK2 ?_⟩ <;> clear hK1 hK2))
        | (refine SWp.skip ?_; show SWp E C _ _ _)
        | (refine SWp.exit ?_; show SWp E C _ _ _)
        | (refine SWp.ret ?_; simp [thenS, Try.f36, inBlockS, heq]))
structure Block where
  frm : Int
  to : Int
  next : List Int
  deriving DecidableEq
def Block.cells (o : Bool) (b : Block) : List T := [vi b.frm, vi b.to, .sl o 1 (b.next.map vi)]
def Block.enc (o : Bool) (b : Block) : T := .agg (b.cells o)
@[simp] theorem Block.enc_cells (o : Bool) (b : Block) : (b.enc o).cells = b.cells o := rfl
@[simp] theorem Block.own (b : Block) : (b.enc false).hasOwn = false := by simp [Block.enc, Block.cells]
@[simp] theorem own_blocks (l : List Block) : T.hasOwnL (l.map (Block.enc false)) = false := hasOwnL_map _ (fun b => by simp) l
theorem Block.eq_iff (a b : Block) : a = b ↔ a.frm = b.frm ∧ a.to = b.to ∧ a.next = b.next := by
  cases a; cases b; simp
theorem laws_eqBlock (a b : Block) (ha : a.next.length < 2 ^ 62) (hb : b.next.length < 2 ^ 62) : Ok E.P 28 [.val (a.enc false), .val (b.enc false)] [.v (.bool (decide (a = b)))] [] := by
  refine ok_of_body (fn := Try.f28) Try.func28 rfl (by simp [Try.f28]) fun C hN => ?_
  have hN' : C.N = 21 := hN
  clear hN
  by_cases h1 : a.frm = b.frm
  case neg =>
    have hne : ¬ (a = b) := fun e => h1 (by rw [e])
    repeat (first
      | (refine SWp.seqR rfl fun K hK => ?_)
      | (refine SWp.reg rfl fun K hK => ?_)
      | (refine wps_cons rfl fun K hK => ?_; simp [hN', h1, Block.enc, Block.cells]; refine hK _ ?_; clear hK)
      | (refine wps_nil (hK _ ?_); clear hK)
      | (refine SWp.seq ?_)
      | (refine SWp.condK fun K1 K2 hK1 hK2 => ?_; simp [hN', h1, Block.enc, Block.cells]; first | (refine hK1 ?_; clear hK1 hK2) | (refine hK2 ?_; clear hK1 hK2) | (refine ⟨fun hc => hK1 ?_, fun hc => hK2 ?_⟩ <;> clear hK1 hK2))
      | (refine SWp.skip ?_; show SWp E C _ _ _)
      | (refine SWp.exit ?_; show SWp E C _ _ _)
      | (refine SWp.ret ?_; simp [thenS, Try.f28, hne]))
  case pos =>
    by_cases h2 : a.to = b.to
    case neg =>
      have hne : ¬ (a = b) := fun e => h2 (by rw [e])
      repeat (first
        | (refine SWp.seqR rfl fun K hK => ?_)
        | (refine SWp.reg rfl fun K hK => ?_)
        | (refine wps_cons rfl fun K hK => ?_; simp [hN', h1, h2, Block.enc, Block.cells]; refine hK _ ?_; clear hK)
        | (refine wps_nil (hK _ ?_); clear hK)
        | (refine SWp.seq ?_)
        | (refine SWp.condK fun K1 K2 hK1 hK2 => ?_; simp [hN', h1, h2, Block.enc, Block.cells]; first | (refine hK1 ?_; clear hK1 hK2) | (refine hK2 ?_; clear hK1 hK2) | (refine ⟨fun hc => hK1 ?_, fun hc => hK2 ?_⟩ <;> clear hK1 hK2))
        | (refine SWp.skip ?_; show SWp E C _ _ _)
        | (refine SWp.exit ?_; show SWp E C _ _ _)
        | (refine SWp.ret ?_; simp [thenS, Try.f28, hne]))
    case pos =>
      by_cases h3 : a.next = b.next
      case neg =>
        have hne : ¬ (a = b) := fun e => h3 (by rw [e])
        repeat (first
          | (refine SWp.seqR rfl fun K hK => ?_)
          | (refine SWp.reg rfl fun K hK => ?_)
          | (refine wps_cons rfl fun K hK => ?_; simp [hN', h1, h2, h3, Block.enc, Block.cells]; refine hK _ ?_; clear hK)
          | (refine wps_call [(.take, .tmp 16), (.take, .tmp 18)] rfl rfl (enters_of Try.func36 (by simp [Try.f36]) rfl) (laws_eqIntS a.next b.next ha hb) fun K hK => ?_; simp [hN', h1, h2, h3, Block.enc, Block.cells]; refine hK _ ?_; clear hK)
          | (refine wps_nil (hK _ ?_); clear hK)
          | (refine SWp.seq ?_)
          | (refine SWp.condK fun K1 K2 hK1 hK2 => ?_; simp [hN', h1, h2, h3, Block.enc, Block.cells]; first | (refine hK1 ?_; clear hK1 hK2) | (refine hK2 ?_; clear hK1 hK2) | (refine ⟨fun hc => hK1 ?_, fun hc => hK2 ?_⟩ <;> clear hK1 hK2))
          | (refine SWp.skip ?_; show SWp E C _ _ _)
          | (refine SWp.exit ?_; show SWp E C _ _ _)
          | (refine SWp.ret ?_; simp [thenS, Try.f28, hne]))
      case pos =>
        have heq : a = b := (Block.eq_iff a b).2 ⟨h1, h2, h3⟩
        repeat (first
          | (refine SWp.seqR rfl fun K hK => ?_)
          | (refine SWp.reg rfl fun K hK => ?_)
          | (refine wps_cons rfl fun K hK => ?_; simp [hN', h1, h2, h3, Block.enc, Block.cells]; refine hK _ ?_; clear hK)
          | (refine wps_call [(.take, .tmp 16), (.take, .tmp 18)] rfl rfl (enters_of Try.func36 (by simp [Try.f36]) rfl) (laws_eqIntS a.next b.next ha hb) fun K hK => ?_; simp [hN', h1, h2, h3, Block.enc, Block.cells]; refine hK _ ?_; clear hK)
          | (refine wps_nil (hK _ ?_); clear hK)
          | (refine SWp.seq ?_)
          | (refine SWp.condK fun K1 K2 hK1 hK2 => ?_; simp [hN', h1, h2, h3, Block.enc, Block.cells]; first | (refine hK1 ?_; clear hK1 hK2) | (refine hK2 ?_; clear hK1 hK2) | (refine ⟨fun hc => hK1 ?_, fun hc => hK2 ?_⟩ <;> clear hK1 hK2))
          | (refine SWp.skip ?_; show SWp E C _ _ _)
          | (refine SWp.exit ?_; show SWp E C _ _ _)
          | (refine SWp.ret ?_; simp [thenS, Try.f28, heq]))
@[simp] theorem Block.cells_len (o : Bool) (b : Block) : (b.cells o).length = 3 := rfl
theorem Block.cells_take (o : Bool) (b : Block) : (b.cells o).take 3 = b.cells o := rfl
theorem Block.agg_enc (o : Bool) (b : Block) : T.agg (b.cells o) = b.enc o := rfl
theorem Block.cells_own (b : Block) : T.hasOwnL (b.cells false) = false := by simp [Block.cells]
theorem laws_eqBlockS (l m : List Block) (hl : l.length < 2 ^ 62) (hm : m.length < 2 ^ 62) (hlb : ∀ b ∈ l, b.next.length < 2 ^ 62) (hmb : ∀ b ∈ m, b.next.length < 2 ^ 62) : Ok E.P 11 [.val (.sl false 3 (l.map (Block.enc false))), .val (.sl false 3 (m.map (Block.enc false)))] [.v (.bool (decide (l = m)))] [] := by
  refine ok_of_body (fn := Try.f11) Try.func11 rfl (by simp [Try.f11]) fun C hN => ?_
  have hN' : C.N = 27 := hN
  clear hN
  by_cases hlen : l.length = m.length
  case neg =>
    have hne : ¬ (l = m) := fun e => hlen (by rw [e])
    have hlen' : ¬ ((l.length : Int) = m.length) := by omega
    repeat (first
      | (refine SWp.seqR rfl fun K hK => ?_)
      | (refine SWp.reg rfl fun K hK => ?_)
      | (refine wps_cons rfl fun K hK => ?_; simp [hN', hlen, hlen']; refine hK _ ?_; clear hK)
      | (refine wps_nil (hK _ ?_); clear hK)
      | (refine SWp.seq ?_)
      | (refine SWp.condK fun K1 K2 hK1 hK2 => ?_; simp [hN', hlen, hlen']; first | (refine hK1 ?_; clear hK1 hK2) | (refine hK2 ?_; clear hK1 hK2) | (refine ⟨fun hc => hK1 ?_, fun hc => hK2 ?_⟩ <;> clear hK1 hK2))
      | (refine SWp.skip ?_; show SWp E C _ _ _)
      | (refine SWp.exit ?_; show SWp E C _ _ _)
      | (refine SWp.ret ?_; simp [thenS, Try.f11, hne]))
  case pos =>
    repeat (first
      | (refine SWp.seqR rfl fun K hK => ?_)
      | (refine SWp.reg rfl fun K hK => ?_)
      | (refine wps_cons rfl fun K hK => ?_; simp [hN', hlen]; refine hK _ ?_; clear hK)
      | (refine wps_nil (hK _ ?_); clear hK)
      | (refine SWp.seq ?_)
      | (refine SWp.condK fun K1 K2 hK1 hK2 => ?_; simp [hN', hlen]; first | (refine hK1 ?_; clear hK1 hK2) | (refine hK2 ?_; clear hK1 hK2) | (refine ⟨fun hc => hK1 ?_, fun hc => hK2 ?_⟩ <;> clear hK1 hK2))
      | (refine SWp.skip ?_; show SWp E C _ _ _)
      | (refine SWp.exit ?_; show SWp E C _ _ _)
      | (refine SWp.block ?_))

    refine SWp.loopK [0, 1, 4, 5] [] (fun k : Nat => ⟨[(0, .t (.sl false 3 (l.map (Block.enc false)))), (1, .t (.sl false 3 (m.map (Block.enc false)))), (4, .t (.v (.bool false))), (5, .t (vi k))], []⟩) (fun k => l.length - k) (fun k => k ≤ l.length ∧ ∀ j, j < k → l[j]? = m[j]?) 0 ⟨by omega, by simp⟩ (by simp [hN']) (by simp) fun k hk => ?_
    by_cases hlt : k < l.length
    · have hlt2 : k < m.length := by omega
      have w1 : IntKind.wrap .i64 ((k : Int) + 1) = ((k + 1 : Nat) : Int) := by rw [wrap64 (by omega) (by omega)]; omega
      repeat (first
        | (refine SWp.seqR rfl fun K hK => ?_)
        | (refine SWp.reg rfl fun K hK => ?_)
        | (refine wps_cons rfl fun K hK => ?_; simp [hN', hlt, hlt2, hlen, w1]; refine hK _ ?_; clear hK)
        | (refine wps_nil (hK _ ?_); clear hK)
        | (refine SWp.seq ?_)
        | (refine SWp.condK fun K1 K2 hK1 hK2 => ?_; simp [hN', hlt, hlt2, hlen, w1]; first | (refine hK1 ?_; clear hK1 hK2) | (refine hK2 ?_; clear hK1 hK2) | (refine ⟨fun hc => hK1 ?_, fun hc => hK2 ?_⟩ <;> clear hK1 hK2))
        | (refine SWp.skip ?_; show SWp E C _ _ _)
        | (refine SWp.exit ?_; show SWp E C _ _ _)
        | (refine SWp.block ?_))
      refine SWp.drawL rfl [17, 18, 19, 20, 21, 22, 23, 24, 25, 26] (fun D => ⟨[(0, .t (.sl false 3 (l.map (Block.enc false)))), (1, .t (.sl false 3 (m.map (Block.enc false)))), (4, .t (.v (.bool false))), (5, .t (vi k)), (11, .t (vi k)), (12, .t (.sl false 3 (l.map (Block.enc false)))), (13, .t (vi m.length)), (14, .t (.v (.bool true))),
        (17, if D 0 = true then .t (.sl false 3 (l.map (Block.enc false))) else .u), (18, if D 1 = true then .t (vi k) else .u), (19, if D 2 = true then .rop (l[k].cells false) 0 else .u), (20, if D 3 = true then .t (l[k].enc false) else .u), (21, if D 4 = true then .t (.sl false 3 (m.map (Block.enc false))) else .u), (22, if D 5 = true then .t (vi k) else .u), (23, if D 6 = true then .rop (m[k].cells false) 0 else .u), (24, if D 7 = true then .t (m[k].enc false) else .u), (25, if D 8 = true then .t (.v (.bool (decide (l[k] = m[k])))) else .u), (26, if D 9 = true then .t (.v (.bool (!decide (l[k] = m[k])))) else .u)], []⟩) ?_ rfl (fun K hK D hD => ?_) ?_
      · simp
      · have d0 := hD 0 (by simp); have d1 := hD 1 (by simp); have d2 := hD 2 (by simp); have d3 := hD 3 (by simp); have d4 := hD 4 (by simp); have d5 := hD 5 (by simp); have d6 := hD 6 (by simp); have d7 := hD 7 (by simp); have d8 := hD 8 (by simp); have d9 := hD 9 (by simp)
        simp only [d0, d1, d2, d3, d4, d5, d6, d7, d8, d9, if_true]
        refine hK _ ?_
        show SWp E C _ _ _
        by_cases he : l[k] = m[k]
        · have hs : ∀ j, j < k + 1 → l[j]? = m[j]? := by
            intro j hj
            by_cases ej : j = k
            · subst ej; rw [List.getElem?_eq_getElem hlt, List.getElem?_eq_getElem hlt2, he]
            · exact hk.2 j (by omega)
          repeat (first
            | (refine SWp.seqR rfl fun K hK => ?_)
            | (refine SWp.reg rfl fun K hK => ?_)
            | (refine wps_cons rfl fun K hK => ?_; simp [hN', hlt, hlt2, hlen, w1, he]; refine hK _ ?_; clear hK)
            | (refine wps_nil (hK _ ?_); clear hK)
            | (refine SWp.seq ?_)
            | (refine SWp.condK fun K1 K2 hK1 hK2 => ?_; simp [hN', hlt, hlt2, hlen, w1, he]; first | (refine hK1 ?_; clear hK1 hK2) | (refine hK2 ?_; clear hK1 hK2) | (refine ⟨fun hc => hK1 ?_, fun hc => hK2 ?_⟩ <;> clear hK1 hK2))
            | (refine SWp.skip ?_; show SWp E C _ _ _)
            | (refine SWp.exit ?_; show SWp E C _ _ _)
            | (refine SWp.block ?_))
          exact ⟨k + 1, ⟨by omega, hs⟩, by simp [hN'], by simp, by omega⟩
        · have hne : ¬ (l = m) := fun e => he (by subst e; rfl)
          repeat (first
            | (refine SWp.seqR rfl fun K hK => ?_)
            | (refine SWp.reg rfl fun K hK => ?_)
            | (refine wps_cons rfl fun K hK => ?_; simp [hN', hlt, hlt2, hlen, w1, he]; refine hK _ ?_; clear hK)
            | (refine wps_nil (hK _ ?_); clear hK)
            | (refine SWp.seq ?_)
            | (refine SWp.condK fun K1 K2 hK1 hK2 => ?_; simp [hN', hlt, hlt2, hlen, w1, he]; first | (refine hK1 ?_; clear hK1 hK2) | (refine hK2 ?_; clear hK1 hK2) | (refine ⟨fun hc => hK1 ?_, fun hc => hK2 ?_⟩ <;> clear hK1 hK2))
            | (refine SWp.skip ?_; show SWp E C _ _ _)
            | (refine SWp.exit ?_; show SWp E C _ _ _)
            | (refine SWp.block ?_)
            | (refine SWp.ret ?_; simp [thenS, Try.f11, inBlockS, hne]))
      · refine ⟨?_, ?_, ?_, ?_, ?_, ?_, ?_, ?_, ?_, ?_, trivial⟩
        all_goals
          intro D hD hdep K hK
          simp [depsIn, Region.binds] at hdep
        case refine_9 =>
          refine wps_call [(.take, .tmp 20), (.take, .tmp 24)] rfl rfl (enters_of Try.func28 (by simp [Try.f28]) rfl) (laws_eqBlock l[k] m[k] (hlb _ (List.getElem_mem hlt)) (hmb _ (List.getElem_mem hlt2))) fun K' hK' => ?_
          simp [hN', hD, hdep, hlt, hlt2, hlen]
          refine hK' _ (wps_nil ?_)
          simpa [upd1, hD, hdep] using hK
        all_goals
          refine wps_cons rfl fun K' hK' => ?_
          simp [hN', hD, hdep, hlt, hlt2, hlen, Block.cells_take, Block.agg_enc]
          refine hK' _ (wps_nil ?_)
          simpa [upd1, hD, hdep] using hK
    · have hke : k = l.length := by omega
      have heq : l = m := eq_of_all hlen (by rw [← hke]; exact hk.2)
      subst hke
      repeat (first
        | (refine SWp.seqR rfl fun K hK => ?_)
        | (refine SWp.reg rfl fun K hK => ?_)
        | (refine wps_cons rfl fun K hK => ?_; simp [hN', hlen]; refine hK _ ?_; clear hK)
        | (refine wps_nil (hK _ ?_); clear hK)
        | (refine SWp.seq ?_)
        | (refine SWp.condK fun K1 K2 hK1 hK2 => ?_; simp [hN', hlen]; first | (refine hK1 ?_; clear hK1 hK2) | (refine hK2 ?_; clear hK1 hK2) | (refine ⟨fun hc => hK1 ?_, fun hc => hK2 ?_⟩ <;> clear hK1 hK2))
        | (refine SWp.skip ?_; show SWp E C _ _ _)
        | (refine SWp.exit ?_; show SWp E C _ _ _)
        | (refine SWp.ret ?_; simp [thenS, Try.f11, inBlockS, heq]))
def szInts (l : List Int) (n : Int) : Int := if n - l.length < 0 then -1 else n - l.length
theorem laws_szIntS (l : List Int) (n : Int) (hl : l.length ≤ maxLen) (h0 : 0 ≤ n) (h1 : n ≤ 1048576) : Ok E.P 29 [.val (.sl false 1 (l.map vi)), .val (vi n)] [vi (szInts l n)] [] := by
  refine ok_of_body (fn := Try.f29) Try.func29 rfl (by simp [Try.f29]) fun C hN => ?_
  have hN' : C.N = 12 := hN
  clear hN
  have hl' : l.length ≤ 9223372036854775807 := hl
  have hw : IntKind.wrap .i64 (n - l.length) = n - l.length := by rw [wrap64 (by omega) (by omega)]
  repeat (first
      | (refine SWp.seqR rfl fun K hK => ?_)
      | (refine wps_cons rfl fun K hK => ?_; simp [hN', hw]; refine hK _ ?_; clear hK)
      | (refine wps_nil (hK _ ?_); clear hK)
      | (refine SWp.seq ?_)
      | (refine SWp.condK fun K1 K2 hK1 hK2 => ?_; simp; first | (refine hK1 ?_; clear hK1 hK2) | (refine hK2 ?_; clear hK1 hK2) | (refine ⟨fun hc => hK1 ?_, fun hc => hK2 ?_⟩ <;> clear hK1 hK2))
      | (refine SWp.skip ?_; show SWp E C _ _ _)
      | (refine SWp.ret ?_; simp [thenS, Try.f29, szInts]; omega))
def szBlock (b : Block) (n : Int) : Int := szInts b.next n
theorem szInts_le (l : List Int) (n : Int) (h0 : 0 ≤ n) (h1 : n ≤ 1048576) : -1 ≤ szInts l n ∧ szInts l n ≤ 1048576 := by
  unfold szInts; split <;> omega
theorem laws_szBlock (b : Block) (n : Int) (hl : b.next.length ≤ maxLen) (h0 : 0 ≤ n) (h1 : n ≤ 1048576) : Ok E.P 26 [.val (b.enc false), .val (vi n)] [vi (szBlock b n)] [] := by
  refine ok_of_body (fn := Try.f26) Try.func26 rfl (by simp [Try.f26]) fun C hN => ?_
  have hN' : C.N = 12 := hN
  clear hN
  have hsz := szInts_le b.next n h0 h1
  repeat (first
    | (refine SWp.seqR rfl fun K hK => ?_)
    | (refine SWp.reg rfl fun K hK => ?_)
    | (refine wps_cons rfl fun K hK => ?_; simp [hN', Block.cells, Block.enc]; refine hK _ ?_; clear hK)
    | (refine wps_call [(.take, .tmp 6), (.take, .tmp 7)] rfl rfl (enters_of Try.func29 (by simp [Try.f29]) rfl) (laws_szIntS b.next n hl h0 h1) fun K hK => ?_; simp [hN', Block.cells, Block.enc]; refine hK _ ?_; clear hK)
    | (refine wps_nil (hK _ ?_); clear hK)
    | (refine SWp.seq ?_)
    | (refine SWp.condK fun K1 K2 hK1 hK2 => ?_; simp [hN', Block.cells, Block.enc]; first | (refine hK1 ?_; clear hK1 hK2) | (refine hK2 ?_; clear hK1 hK2) | (refine ⟨fun hc => hK1 ?_, fun hc => hK2 ?_⟩ <;> clear hK1 hK2))
    | (refine SWp.skip ?_; show SWp E C _ _ _)
    | (refine SWp.exit ?_; show SWp E C _ _ _)
    | (refine SWp.ret ?_; simp [thenS, Try.f26, szBlock] <;> omega))

def szGo {α : Type} (f : α → Int → Int) : List α → Int → Int
  | [], n => n
  | x :: xs, n => if f x n < 0 then -1 else szGo f xs (f x n)
def szBlocks (l : List Block) (n : Int) : Int := if n - l.length < 0 then -1 else szGo szBlock l (n - l.length)
theorem laws_szBlockS (l : List Block) (n : Int) (hl : l.length ≤ maxLen) (hb : ∀ b ∈ l, b.next.length ≤ maxLen) (h0 : 0 ≤ n) (h1 : n ≤ 1048576) : Ok E.P 7 [.val (.sl false 3 (l.map (Block.enc false))), .val (vi n)] [vi (szBlocks l n)] [] := by
  refine ok_of_body (fn := Try.f7) Try.func7 rfl (by simp [Try.f7]) fun C hN => ?_
  have hN' : C.N = 27 := hN
  clear hN
  have hl' : l.length ≤ 9223372036854775807 := hl
  have hw : IntKind.wrap .i64 (n - l.length) = n - l.length := by rw [wrap64 (by omega) (by omega)]
  repeat (first
    | (refine SWp.seqR rfl fun K hK => ?_)
    | (refine SWp.reg rfl fun K hK => ?_)
    | (refine wps_cons rfl fun K hK => ?_; simp [hN', hw]; refine hK _ ?_; clear hK)
    | (refine wps_nil (hK _ ?_); clear hK)
    | (refine SWp.seq ?_)
    | (refine SWp.condK fun K1 K2 hK1 hK2 => ?_; simp [hN', hw]; first | (refine hK1 ?_; clear hK1 hK2) | (refine hK2 ?_; clear hK1 hK2) | (refine ⟨fun hc => hK1 ?_, fun hc => hK2 ?_⟩ <;> clear hK1 hK2))
    | (refine SWp.skip ?_; show SWp E C _ _ _)
    | (refine SWp.exit ?_; show SWp E C _ _ _)
    | (refine SWp.block ?_)
    | (refine SWp.ret ?_; simp [thenS, Try.f7, szBlocks]; omega))

  refine SWp.loopK [0, 1, 4, 5] [] (fun g : Nat × Int => ⟨[(0, .t (.sl false 3 (l.map (Block.enc false)))), (1, .t (vi g.2)), (4, .t (vi 0)), (5, .t (vi g.1))], []⟩) (fun g => l.length - g.1) (fun g => g.1 ≤ l.length ∧ 0 ≤ g.2 ∧ g.2 ≤ 1048576 ∧ szGo szBlock (l.drop g.1) g.2 = szBlocks l n) (0, n - l.length) ⟨by simp, by simp; omega, by simp; omega, by simp [szBlocks]; omega⟩ (by simp [hN']) (by simp) fun g hg => ?_
  obtain ⟨k, m⟩ := g
  obtain ⟨g1, g2, g3, g4⟩ := hg
  simp only at g1 g2 g3 g4
  by_cases hk : k < l.length
  · have hd : l.drop k = l[k] :: l.drop (k + 1) := List.drop_eq_getElem_cons hk
    rw [hd] at g4
    simp only [szGo] at g4
    have hle := szInts_le l[k].next m g2 g3
    have w1 : IntKind.wrap .i64 ((k : Int) + 1) = ((k + 1 : Nat) : Int) := by rw [wrap64 (by omega) (by omega)]; omega
    repeat (first
      | (refine SWp.seqR rfl fun K hK => ?_)
      | (refine SWp.reg rfl fun K hK => ?_)
      | (refine wps_cons rfl fun K hK => ?_; simp [hN', hk, w1, Block.enc, Block.cells]; refine hK _ ?_; clear hK)
      | (refine wps_call [(.take, .tmp 21), (.take, .tmp 22)] rfl rfl (enters_of Try.func26 (by simp [Try.f26]) rfl) (laws_szBlock l[k] m (hb _ (List.getElem_mem hk)) g2 g3) fun K hK => ?_; simp [hN', hk, w1, Block.enc, Block.cells]; refine hK _ ?_; clear hK)
      | (refine wps_nil (hK _ ?_); clear hK)
      | (refine SWp.seq ?_)
      | (refine SWp.condK fun K1 K2 hK1 hK2 => ?_; simp [hN', hk, w1, Block.enc, Block.cells]; first | (refine hK1 ?_; clear hK1 hK2) | (refine hK2 ?_; clear hK1 hK2) | (refine ⟨fun hc => hK1 ?_, fun hc => hK2 ?_⟩ <;> clear hK1 hK2))
      | (refine SWp.skip ?_; show SWp E C _ _ _)
      | (refine SWp.exit ?_; show SWp E C _ _ _)
      | (refine SWp.block ?_)
      | (refine SWp.ret ?_; simp [thenS, Try.f7, inBlockS]; simp_all))
    have hnn : ¬ (szBlock l[k] m < 0) := by omega
    rw [if_neg hnn] at g4
    exact ⟨(k + 1, szBlock l[k] m), ⟨by simp; omega, by simp; omega, by simp only [szBlock]; omega, g4⟩, by simp [hN'], by simp, by simp; omega⟩
  · have hke : k = l.length := by omega
    subst hke
    simp only [List.drop_length, szGo] at g4
    repeat (first
      | (refine SWp.seqR rfl fun K hK => ?_)
      | (refine SWp.reg rfl fun K hK => ?_)
      | (refine wps_cons rfl fun K hK => ?_; simp [hN']; refine hK _ ?_; clear hK)
      | (refine wps_nil (hK _ ?_); clear hK)
      | (refine SWp.seq ?_)
      | (refine SWp.condK fun K1 K2 hK1 hK2 => ?_; simp [hN']; first | (refine hK1 ?_; clear hK1 hK2) | (refine hK2 ?_; clear hK1 hK2) | (refine ⟨fun hc => hK1 ?_, fun hc => hK2 ?_⟩ <;> clear hK1 hK2))
      | (refine SWp.skip ?_; show SWp E C _ _ _)
      | (refine SWp.exit ?_; show SWp E C _ _ _)
      | (refine SWp.ret ?_; simp [thenS, Try.f7, inBlockS, g4]))

theorem laws_toIntS (l : List Int) (hl : l.length ≤ 1048576) : Ok E.P 33 [.val (.sl false 1 (l.map vi))] [.sl true 1 (l.map vi)] [] := by
  refine ok_of_body (fn := Try.f33) Try.func33 rfl (by simp [Try.f33]) fun C hN => ?_
  have hN' : C.N = 22 := hN
  clear hN
  have hb1 : 8 * (l.length : Int) ≤ 140737488355328 := by omega
  have hb2 : (l.length : Int) ≤ 140737488355328 := by omega
  repeat (first
    | (refine SWp.seqR rfl fun K hK => ?_)
    | (refine SWp.reg rfl fun K hK => ?_)
    | (refine wps_cons rfl fun K hK => ?_; simp [hN', hb1, hb2]; refine hK _ ?_; clear hK)
    | (refine wps_nil (hK _ ?_); clear hK)
    | (refine SWp.seq ?_)
    | (refine SWp.condK fun K1 K2 hK1 hK2 => ?_; simp [hN', hb1, hb2]; first | (refine hK1 ?_; clear hK1 hK2) | (refine hK2 ?_; clear hK1 hK2) | (refine ⟨fun hc => hK1 ?_, fun hc => hK2 ?_⟩ <;> clear hK1 hK2))
    | (refine SWp.skip ?_; show SWp E C _ _ _)
    | (refine SWp.exit ?_; show SWp E C _ _ _)
    | (refine SWp.block ?_))

  refine SWp.loopK [0, 2, 3, 4] [] (fun k : Nat => ⟨[(0, .t (.sl false 1 (l.map vi))), (2, .t (.sl true 1 [])), (3, .t (.sl true 1 (fillTo vi (vi 0) l k))), (4, .t (vi k))], []⟩) (fun k => l.length - k) (fun k => k ≤ l.length) 0 (by omega) (by simp [hN']) (by simp [fillTo_zero]) fun k hk => ?_
  by_cases hlt : k < l.length
  · have w1 : IntKind.wrap .i64 ((k : Int) + 1) = ((k + 1 : Nat) : Int) := by rw [wrap64 (by omega) (by omega)]; omega
    have f1 := fillTo_len vi (vi 0) l k hk
    have f2 := fillTo_get vi (vi 0) l k hlt
    have f4 := fillTo_at vi (vi 0) l k hlt
    have f3 := fillTo_set vi (vi 0) l k hlt
    repeat (first
      | (refine SWp.seqR rfl fun K hK => ?_)
      | (refine SWp.reg rfl fun K hK => ?_)
      | (refine wps_cons rfl fun K hK => ?_; simp [hN', hlt, w1, f1, f2, f3, f4]; refine hK _ ?_; clear hK)
      | (refine wps_nil (hK _ ?_); clear hK)
      | (refine SWp.seq ?_)
      | (refine SWp.condK fun K1 K2 hK1 hK2 => ?_; simp [hN', hlt, w1, f1, f2, f3, f4]; first | (refine hK1 ?_; clear hK1 hK2) | (refine hK2 ?_; clear hK1 hK2) | (refine ⟨fun hc => hK1 ?_, fun hc => hK2 ?_⟩ <;> clear hK1 hK2))
      | (refine SWp.skip ?_; show SWp E C _ _ _)
      | (refine SWp.exit ?_; show SWp E C _ _ _)
      | (refine SWp.block ?_))
    exact ⟨k + 1, by omega, by simp [hN'], by simp, by omega⟩
  · have hke : k = l.length := by omega
    subst hke
    repeat (first
      | (refine SWp.seqR rfl fun K hK => ?_)
      | (refine SWp.reg rfl fun K hK => ?_)
      | (refine wps_cons rfl fun K hK => ?_; simp [hN', fillTo_full]; refine hK _ ?_; clear hK)
      | (refine wps_nil (hK _ ?_); clear hK)
      | (refine SWp.seq ?_)
      | (refine SWp.condK fun K1 K2 hK1 hK2 => ?_; simp [hN', fillTo_full]; first | (refine hK1 ?_; clear hK1 hK2) | (refine hK2 ?_; clear hK1 hK2) | (refine ⟨fun hc => hK1 ?_, fun hc => hK2 ?_⟩ <;> clear hK1 hK2))
      | (refine SWp.skip ?_; show SWp E C _ _ _)
      | (refine SWp.exit ?_; show SWp E C _ _ _)
      | (refine SWp.ret ?_; simp [thenS, Try.f33, inBlockS]))
@[simp] theorem Block.ownT (b : Block) : (b.enc true).hasOwn = true := by simp [Block.enc, Block.cells]
theorem laws_toBlock (b : Block) (hl : b.next.length ≤ 1048576) : Ok E.P 27 [.val (b.enc false)] [b.enc true] [] := by
  refine ok_of_body (fn := Try.f27) Try.func27 rfl (by simp [Try.f27]) fun C hN => ?_
  have hN' : C.N = 15 := hN
  clear hN
  repeat (first
    | (refine SWp.seqR rfl fun K hK => ?_)
    | (refine SWp.reg rfl fun K hK => ?_)
    | (refine wps_cons rfl fun K hK => ?_; simp [hN', Block.cells, Block.enc]; refine hK _ ?_; clear hK)
    | (refine wps_call [(.take, .tmp 11)] rfl rfl (enters_of Try.func33 (by simp [Try.f33]) rfl) (laws_toIntS b.next hl) fun K hK => ?_; simp [hN', Block.cells, Block.enc]; refine hK _ ?_; clear hK)
    | (refine wps_nil (hK _ ?_); clear hK)
    | (refine SWp.seq ?_)
    | (refine SWp.condK fun K1 K2 hK1 hK2 => ?_; simp [hN', Block.cells, Block.enc]; first | (refine hK1 ?_; clear hK1 hK2) | (refine hK2 ?_; clear hK1 hK2) | (refine ⟨fun hc => hK1 ?_, fun hc => hK2 ?_⟩ <;> clear hK1 hK2))
    | (refine SWp.skip ?_; show SWp E C _ _ _)
    | (refine SWp.exit ?_; show SWp E C _ _ _)
    | (refine SWp.ret ?_; simp [thenS, Try.f27, Block.cells, Block.enc]))

abbrev zBlock : T := .agg [vi 0, vi 0, .sl true 1 []]
theorem laws_toBlockS (l : List Block) (hl : l.length ≤ 1048576) (hb : ∀ b ∈ l, b.next.length ≤ 1048576) : Ok E.P 9 [.val (.sl false 3 (l.map (Block.enc false)))] [.sl true 3 (l.map (Block.enc true))] [] := by
  refine ok_of_body (fn := Try.f9) Try.func9 rfl (by simp [Try.f9]) fun C hN => ?_
  have hN' : C.N = 23 := hN
  clear hN
  have hb1 : 40 * (l.length : Int) ≤ 140737488355328 := by omega
  have hb2 : (l.length : Int) ≤ 140737488355328 := by omega
  repeat (first
    | (refine SWp.seqR rfl fun K hK => ?_)
    | (refine SWp.reg rfl fun K hK => ?_)
    | (refine wps_cons rfl fun K hK => ?_; simp [hN', hb1, hb2]; refine hK _ ?_; clear hK)
    | (refine wps_nil (hK _ ?_); clear hK)
    | (refine SWp.seq ?_)
    | (refine SWp.condK fun K1 K2 hK1 hK2 => ?_; simp [hN', hb1, hb2]; first | (refine hK1 ?_; clear hK1 hK2) | (refine hK2 ?_; clear hK1 hK2) | (refine ⟨fun hc => hK1 ?_, fun hc => hK2 ?_⟩ <;> clear hK1 hK2))
    | (refine SWp.skip ?_; show SWp E C _ _ _)
    | (refine SWp.exit ?_; show SWp E C _ _ _)
    | (refine SWp.block ?_))

  refine SWp.loopK [0, 2, 3, 4] [] (fun k : Nat => ⟨[(0, .t (.sl false 3 (l.map (Block.enc false)))), (2, .t (.sl true 3 [])), (3, .t (.sl true 3 (fillTo (Block.enc true) zBlock l k))), (4, .t (vi k))], []⟩) (fun k => l.length - k) (fun k => k ≤ l.length) 0 (by omega) (by simp [hN']) (by simp [fillTo_zero]) fun k hk => ?_
  by_cases hlt : k < l.length
  · have w1 : IntKind.wrap .i64 ((k : Int) + 1) = ((k + 1 : Nat) : Int) := by rw [wrap64 (by omega) (by omega)]; omega
    have f1 := fillTo_len (Block.enc true) zBlock l k hk
    have f2 := fillTo_get (Block.enc true) zBlock l k hlt
    have f4 := fillTo_at (Block.enc true) zBlock l k hlt
    have f3 := fillTo_set (Block.enc true) zBlock l k hlt
    have f5 : ∀ b : Block, T.agg [vi b.frm, vi b.to, .sl true 1 (b.next.map vi)] = b.enc true := fun _ => rfl
    have f6 : ∀ b : Block, T.agg [vi b.frm, vi b.to, .sl false 1 (b.next.map vi)] = b.enc false := fun _ => rfl
    repeat (first
      | (refine SWp.seqR rfl fun K hK => ?_)
      | (refine SWp.reg rfl fun K hK => ?_)
      | (refine wps_cons rfl fun K hK => ?_; simp [hN', hlt, w1, f1, f2, f3, f4, Block.cells, f5, f6]; refine hK _ ?_; clear hK)
      | (refine wps_call [(.take, .tmp 19)] rfl rfl (enters_of Try.func27 (by simp [Try.f27]) rfl) (laws_toBlock l[k] (hb _ (List.getElem_mem hlt))) fun K hK => ?_; simp [hN', hlt, w1, f1, f2, f3, f4, Block.cells, f5, f6]; refine hK _ ?_; clear hK)
      | (refine wps_nil (hK _ ?_); clear hK)
      | (refine SWp.seq ?_)
      | (refine SWp.condK fun K1 K2 hK1 hK2 => ?_; simp [hN', hlt, w1, f1, f2, f3, f4, Block.cells, f5, f6]; first | (refine hK1 ?_; clear hK1 hK2) | (refine hK2 ?_; clear hK1 hK2) | (refine ⟨fun hc => hK1 ?_, fun hc => hK2 ?_⟩ <;> clear hK1 hK2))
      | (refine SWp.skip ?_; show SWp E C _ _ _)
      | (refine SWp.exit ?_; show SWp E C _ _ _)
      | (refine SWp.block ?_))
    exact ⟨k + 1, by omega, by simp [hN'], by simp, by omega⟩
  · have hke : k = l.length := by omega
    subst hke
    repeat (first
      | (refine SWp.seqR rfl fun K hK => ?_)
      | (refine SWp.reg rfl fun K hK => ?_)
      | (refine wps_cons rfl fun K hK => ?_; simp [hN', fillTo_full]; refine hK _ ?_; clear hK)
      | (refine wps_nil (hK _ ?_); clear hK)
      | (refine SWp.seq ?_)
      | (refine SWp.condK fun K1 K2 hK1 hK2 => ?_; simp [hN', fillTo_full]; first | (refine hK1 ?_; clear hK1 hK2) | (refine hK2 ?_; clear hK1 hK2) | (refine ⟨fun hc => hK1 ?_, fun hc => hK2 ?_⟩ <;> clear hK1 hK2))
      | (refine SWp.skip ?_; show SWp E C _ _ _)
      | (refine SWp.exit ?_; show SWp E C _ _ _)
      | (refine SWp.ret ?_; simp [thenS, Try.f9, inBlockS]))
def blockHit (i : Int) (b : Block) : Bool := decide (b.frm ≤ i) && decide (i < b.to)
def blockAt (l : List Block) (i : Int) : Int := match l.findIdx? (blockHit i) with
  | some k => k
  | none => -1
theorem findIdx_some {α : Type} {p : α → Bool} {l : List α} {k : Nat} (hk : k < l.length) (h : ∀ j, j < k → ∀ b, l[j]? = some b → p b = false) (hp : p l[k] = true) : l.findIdx? p = some k := by
  rw [List.findIdx?_eq_some_iff_getElem]
  refine ⟨hk, hp, fun j hj => ?_⟩
  rw [h j hj _ (List.getElem?_eq_getElem (by omega))]
  simp
theorem findIdx_none {α : Type} {p : α → Bool} {l : List α} (h : ∀ j, j < l.length → ∀ b, l[j]? = some b → p b = false) : l.findIdx? p = none := by
  rw [List.findIdx?_eq_none_iff]
  intro x hx
  obtain ⟨j, hj, rfl⟩ := List.mem_iff_getElem.1 hx
  exact h j hj _ (List.getElem?_eq_getElem hj)
theorem below_succ {α : Type} {p : α → Bool} {l : List α} {k : Nat} (hk : k < l.length) (h : ∀ j, j < k → ∀ b, l[j]? = some b → p b = false) (hp : p l[k] = false) : ∀ j, j < k + 1 → ∀ b, l[j]? = some b → p b = false := by
  intro j hj b hb
  by_cases e : j = k
  · subst e
    rw [List.getElem?_eq_getElem hk] at hb
    injection hb with hb
    rw [← hb]; exact hp
  · exact h j (by omega) b hb
theorem impl_BlockAt (l : List Block) (i : Int) (hl : l.length < 2 ^ 62) : Ok E.P 10 [.val (.sl false 3 (l.map (Block.enc false))), .val (vi i)] [vi (blockAt l i)] [] := by
  refine ok_of_body (fn := Try.f10) Try.func10 rfl (by simp [Try.f10]) fun C hN => ?_
  have hN' : C.N = 26 := hN
  clear hN
  repeat (first
    | (refine SWp.seqR rfl fun K hK => ?_)
    | (refine SWp.reg rfl fun K hK => ?_)
    | (refine wps_cons rfl fun K hK => ?_; simp [hN']; refine hK _ ?_; clear hK)
    | (refine wps_nil (hK _ ?_); clear hK)
    | (refine SWp.seq ?_)
    | (refine SWp.condK fun K1 K2 hK1 hK2 => ?_; simp [hN']; first | (refine hK1 ?_; clear hK1 hK2) | (refine hK2 ?_; clear hK1 hK2) | (refine ⟨fun hc => hK1 ?_, fun hc => hK2 ?_⟩ <;> clear hK1 hK2))
    | (refine SWp.skip ?_; show SWp E C _ _ _)
    | (refine SWp.exit ?_; show SWp E C _ _ _)
    | (refine SWp.block ?_))

  refine SWp.loopK [0, 1, 4, 7, 8, 9] [] (fun k : Nat => ⟨[(0, .t (.sl false 3 (l.map (Block.enc false)))), (1, .t (vi i)), (4, .t (vi 0)), (7, .t (.sl false 3 (l.map (Block.enc false)))), (8, .t (vi l.length)), (9, .t (vi k))], []⟩) (fun k => l.length - k) (fun k => k ≤ l.length ∧ ∀ j, j < k → ∀ b, l[j]? = some b → blockHit i b = false) 0 ⟨by omega, by simp⟩ (by simp [hN']) (by simp) fun k hk => ?_
  by_cases hlt : k < l.length
  · have w1 : IntKind.wrap .i64 ((k : Int) + 1) = ((k + 1 : Nat) : Int) := by rw [wrap64 (by omega) (by omega)]; omega
    by_cases h1 : l[k].frm ≤ i
    · by_cases h2 : i < l[k].to
      · have hr : blockAt l i = k := by rw [blockAt, findIdx_some hlt hk.2 (by simp [blockHit, h1, h2])]
        repeat (first
          | (refine SWp.seqR rfl fun K hK => ?_)
          | (refine SWp.reg rfl fun K hK => ?_)
          | (refine wps_cons rfl fun K hK => ?_; simp [hN', hlt, w1, h1, h2, Block.enc, Block.cells]; refine hK _ ?_; clear hK)
          | (refine wps_nil (hK _ ?_); clear hK)
          | (refine SWp.seq ?_)
          | (refine SWp.condK fun K1 K2 hK1 hK2 => ?_; simp [hN', hlt, w1, h1, h2, Block.enc, Block.cells]; first | (refine hK1 ?_; clear hK1 hK2) | (refine hK2 ?_; clear hK1 hK2) | (refine ⟨fun hc => hK1 ?_, fun hc => hK2 ?_⟩ <;> clear hK1 hK2))
          | (refine SWp.skip ?_; show SWp E C _ _ _)
          | (refine SWp.exit ?_; show SWp E C _ _ _)
          | (refine SWp.block ?_)
          | (refine SWp.ret ?_; simp [thenS, Try.f10, inBlockS, hr]))
      · have hs := below_succ hlt hk.2 (by simp [blockHit, h2])
        repeat (first
          | (refine SWp.seqR rfl fun K hK => ?_)
          | (refine SWp.reg rfl fun K hK => ?_)
          | (refine wps_cons rfl fun K hK => ?_; simp [hN', hlt, w1, h1, h2, Block.enc, Block.cells]; refine hK _ ?_; clear hK)
          | (refine wps_nil (hK _ ?_); clear hK)
          | (refine SWp.seq ?_)
          | (refine SWp.condK fun K1 K2 hK1 hK2 => ?_; simp [hN', hlt, w1, h1, h2, Block.enc, Block.cells]; first | (refine hK1 ?_; clear hK1 hK2) | (refine hK2 ?_; clear hK1 hK2) | (refine ⟨fun hc => hK1 ?_, fun hc => hK2 ?_⟩ <;> clear hK1 hK2))
          | (refine SWp.skip ?_; show SWp E C _ _ _)
          | (refine SWp.exit ?_; show SWp E C _ _ _)
          | (refine SWp.block ?_))
        exact ⟨k + 1, ⟨by omega, hs⟩, by simp [hN'], by simp, by omega⟩
    · have hs := below_succ hlt hk.2 (by simp [blockHit, h1])
      repeat (first
        | (refine SWp.seqR rfl fun K hK => ?_)
        | (refine SWp.reg rfl fun K hK => ?_)
        | (refine wps_cons rfl fun K hK => ?_; simp [hN', hlt, w1, h1, Block.enc, Block.cells]; refine hK _ ?_; clear hK)
        | (refine wps_nil (hK _ ?_); clear hK)
        | (refine SWp.seq ?_)
        | (refine SWp.condK fun K1 K2 hK1 hK2 => ?_; simp [hN', hlt, w1, h1, Block.enc, Block.cells]; first | (refine hK1 ?_; clear hK1 hK2) | (refine hK2 ?_; clear hK1 hK2) | (refine ⟨fun hc => hK1 ?_, fun hc => hK2 ?_⟩ <;> clear hK1 hK2))
        | (refine SWp.skip ?_; show SWp E C _ _ _)
        | (refine SWp.exit ?_; show SWp E C _ _ _)
        | (refine SWp.block ?_))
      exact ⟨k + 1, ⟨by omega, hs⟩, by simp [hN'], by simp, by omega⟩
  · have hke : k = l.length := by omega
    subst hke
    have hr : blockAt l i = -1 := by rw [blockAt, findIdx_none hk.2]
    repeat (first
      | (refine SWp.seqR rfl fun K hK => ?_)
      | (refine SWp.reg rfl fun K hK => ?_)
      | (refine wps_cons rfl fun K hK => ?_; simp [hN']; refine hK _ ?_; clear hK)
      | (refine wps_nil (hK _ ?_); clear hK)
      | (refine SWp.seq ?_)
      | (refine SWp.condK fun K1 K2 hK1 hK2 => ?_; simp [hN']; first | (refine hK1 ?_; clear hK1 hK2) | (refine hK2 ?_; clear hK1 hK2) | (refine ⟨fun hc => hK1 ?_, fun hc => hK2 ?_⟩ <;> clear hK1 hK2))
      | (refine SWp.skip ?_; show SWp E C _ _ _)
      | (refine SWp.exit ?_; show SWp E C _ _ _)
      | (refine SWp.ret ?_; simp [thenS, Try.f10, inBlockS, hr]))
theorem spec_BlockAt (l : List Block) (i : Int) (hl : l.length < 2 ^ 62) : Ok E.P 8 [.val (.sl false 3 (l.map (Block.enc false))), .val (vi i)] [vi (blockAt l i)] [] := by
  refine ok_of_body (fn := Try.f8) Try.func8 rfl (by simp [Try.f8]) fun C hN => ?_
  have hN' : C.N = 29 := hN
  clear hN
  refine SWp.seqR rfl fun K hK => ?_
  iterate 1 (refine wps_cons rfl fun K hK => ?_; simp [hN']; refine hK _ ?_; clear hK)
  refine wps_nil (hK _ ?_); clear hK
  refine SWp.seq (SWp.seqR rfl fun K hK => ?_)
  iterate 1 (refine wps_cons rfl fun K hK => ?_; simp [hN']; refine hK _ ?_; clear hK)
  refine wps_nil (hK _ ?_); clear hK
  refine SWp.block (SWp.loopK [0, 1, 4, 5] [] (fun k : Nat => ⟨[(0, .t (.sl false 3 (l.map (Block.enc false)))), (1, .t (vi i)), (4, .t (vi 0)), (5, .t (vi k))], []⟩) (fun k => l.length - k) (fun k => k ≤ l.length ∧ ∀ j, j < k → ∀ b, l[j]? = some b → blockHit i b = false) 0 ⟨by omega, by simp⟩ (by simp) (by simp) fun k hk => ?_)
  refine SWp.seq (SWp.seqR rfl fun K hK => ?_)
  iterate 4 (refine wps_cons rfl fun K hK => ?_; simp [hN']; refine hK _ ?_; clear hK)
  refine wps_nil (hK _ ?_); clear hK
  refine (SWp.condB (b := decide ((k : Int) < l.length)) (by simp) (fun hlt => ?_) fun hge => ?_)
  · refine SWp.skip (SWp.seq (SWp.block (SWp.seqR rfl fun K hK => ?_)))
    have hlt' : k < l.length := by simpa using hlt
    iterate 8 (refine wps_cons rfl fun K hK => ?_; simp [hN', hlt', Block.cells]; refine hK _ ?_; clear hK)
    by_cases h1 : l[k].frm ≤ i
    · iterate 8 (refine wps_cons rfl fun K hK => ?_; simp [hN', hlt', h1, Block.enc, Block.cells]; refine hK _ ?_; clear hK)
      refine wps_nil (hK _ ?_); clear hK
      refine SWp.condB (b := decide (i < l[k].to)) (by simp) (fun h2 => ?_) fun h2 => ?_
      · simp at h2
        refine SWp.seqR rfl fun K hK => ?_
        iterate 2 (refine wps_cons rfl fun K hK => ?_; simp [hN', hlt', h1, Block.enc, Block.cells]; refine hK _ ?_; clear hK)
        refine wps_nil (hK _ ?_); clear hK
        refine SWp.ret ?_
        simp [thenS, inBlockS, Try.f8]
        exact (by rw [blockAt, findIdx_some hlt' hk.2 (by simp [blockHit, h1, h2])])
      · refine SWp.skip ?_
        show SWp E C _ _ _
        simp at h2
        refine SWp.reg rfl fun K hK => ?_
        have w1 : IntKind.wrap .i64 ((k : Int) + 1) = ((k + 1 : Nat) : Int) := by rw [wrap64 (by omega) (by omega)]; omega
        iterate 3 (refine wps_cons rfl fun K hK => ?_; simp [hN', hlt', h1, w1]; refine hK _ ?_; clear hK)
        refine wps_nil (hK _ ?_); clear hK
        refine ⟨k + 1, ⟨by omega, ?_⟩, by simp, by simp, by omega⟩
        exact below_succ hlt' hk.2 (by simp [blockHit, h2])
    · have h1' : ¬ (l[k].frm ≤ i) := h1
      iterate 8 (refine wps_cons rfl fun K hK => ?_; simp [hN', hlt', h1, Block.enc, Block.cells]; refine hK _ ?_; clear hK)
      refine wps_nil (hK _ ?_); clear hK
      refine SWp.condF (by simp) (SWp.skip ?_)
      show SWp E C _ _ _
      refine SWp.reg rfl fun K hK => ?_
      have w1 : IntKind.wrap .i64 ((k : Int) + 1) = ((k + 1 : Nat) : Int) := by rw [wrap64 (by omega) (by omega)]; omega
      iterate 3 (refine wps_cons rfl fun K hK => ?_; simp [hN', hlt', w1]; refine hK _ ?_; clear hK)
      refine wps_nil (hK _ ?_); clear hK
      exact ⟨k + 1, ⟨by omega, below_succ hlt' hk.2 (by simp [blockHit, h1'])⟩, by simp, by simp, by omega⟩
  · simp at hge
    refine SWp.exit ?_
    show SWp E C _ _ _
    refine SWp.seqR rfl fun K hK => ?_
    iterate 1 (refine wps_cons rfl fun K hK => ?_; simp [hN']; refine hK _ ?_; clear hK)
    refine wps_nil (hK _ ?_); clear hK
    refine SWp.ret ?_
    simp [Try.f8]
    have e : k = l.length := by omega
    subst e
    rw [blockAt, findIdx_none hk.2]
end Go.Proofs.T
