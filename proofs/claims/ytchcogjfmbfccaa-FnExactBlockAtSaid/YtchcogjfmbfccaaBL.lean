import Derived.Test.YtchcogjfmbfccaaBA
set_option linter.unusedVariables false
set_option linter.unusedSimpArgs false
namespace Go.Proofs.T
open Go.OM
theorem szGo_bound (l : List Block) : ∀ n : Int, 0 ≤ n → 0 ≤ szGo szBlock l n → ∀ b ∈ l, (b.next.length : Int) ≤ n := by
  induction l with
  | nil => intro n _ _ b hb; simp at hb
  | cons x l ih =>
    intro n hn h b hb
    simp only [szGo] at h
    split at h
    · omega
    · rename_i hx
      have hx1 : szBlock x n = n - x.next.length := by
        unfold szBlock szInts at hx ⊢
        split at hx
        · omega
        · rename_i hh; rw [if_neg hh]
      rcases List.mem_cons.1 hb with rfl | hb
      · rw [hx1] at hx; omega
      · have := ih _ (by omega) h b hb
        rw [hx1] at this
        omega
theorem szBlocks_bound (l : List Block) (h : ¬ (szBlocks l 1048576 < 0)) : l.length ≤ 1048576 ∧ ∀ b ∈ l, b.next.length ≤ 1048576 := by
  unfold szBlocks at h
  split at h
  · omega
  · rename_i hh
    refine ⟨by omega, fun b hb => ?_⟩
    have := szGo_bound l (1048576 - l.length) (by omega) (by omega) b hb
    omega
@[simp] theorem own_blocksT (l : List Block) : (T.sl true 3 (l.map (Block.enc true))).hasOwn = true := by simp
@[simp] theorem ro_block (b : Block) : (b.enc true).ro = b.enc false := by
  simp [Block.enc, Block.cells, T.roL_map]
@[simp] theorem ro_blocks (l : List Block) : T.roL (l.map (Block.enc true)) = l.map (Block.enc false) := roL_map' _ _ (fun b => by simp) l
theorem law (l : List Block) (i : Int) (hl : l.length ≤ maxLen) (hb : ∀ b ∈ l, b.next.length ≤ maxLen) : Ok E.P 3 [.val (.sl false 3 (l.map (Block.enc false))), .val (vi i)] [.v (.bool true)] [] := by
  refine ok_of_body (fn := Try.f3) Try.func3 rfl (by simp [Try.f3]) fun C hN => ?_
  have hN' : C.N = 31 := hN
  clear hN
  by_cases hneg : szBlocks l 1048576 < 0
  · skip
    repeat (first
      | (refine SWp.seqR rfl fun K hK => ?_)
      | (refine SWp.reg rfl fun K hK => ?_)
      | (refine wps_cons rfl fun K hK => ?_; simp [hN', hneg]; refine hK _ ?_; clear hK)
      | (refine wps_call [(.take, .tmp 9), (.take, .tmp 10)] rfl rfl (enters_of Try.func7 (by simp [Try.f7]) rfl) (laws_szBlockS l 1048576 hl hb (by omega) (by omega)) fun K hK => ?_; simp [hN', hneg]; refine hK _ ?_; clear hK)
      | (refine wps_nil (hK _ ?_); clear hK)
      | (refine SWp.seq ?_)
      | (refine SWp.condK fun K1 K2 hK1 hK2 => ?_; simp [hN', hneg]; first | (refine hK1 ?_; clear hK1 hK2) | (refine hK2 ?_; clear hK1 hK2) | (refine ⟨fun hc => hK1 ?_, fun hc => hK2 ?_⟩ <;> clear hK1 hK2))
      | (refine SWp.skip ?_; show SWp E C _ _ _)
      | (refine SWp.exit ?_; show SWp E C _ _ _)
      | (refine SWp.ret ?_; simp [thenS, Try.f3]))
  · obtain ⟨h1, h2⟩ := szBlocks_bound l hneg
    repeat (first
      | (refine SWp.seqR rfl fun K hK => ?_)
      | (refine SWp.reg rfl fun K hK => ?_)
      | (refine wps_cons rfl fun K hK => ?_; simp [hN', hneg]; refine hK _ ?_; clear hK)
      | (refine wps_call [(.take, .tmp 9), (.take, .tmp 10)] rfl rfl (enters_of Try.func7 (by simp [Try.f7]) rfl) (laws_szBlockS l 1048576 hl hb (by omega) (by omega)) fun K hK => ?_; simp [hN', hneg]; refine hK _ ?_; clear hK)
      | (refine wps_call [(.take, .tmp 14)] rfl rfl (enters_of Try.func9 (by simp [Try.f9]) rfl) (laws_toBlockS l h1 h2) fun K hK => ?_; simp [hN', hneg]; refine hK _ ?_; clear hK)
      | (refine wps_call [(.bor, .tmp 15), (.take, .tmp 16)] rfl rfl (enters_of Try.func8 (by simp [Try.f8]) rfl) (spec_BlockAt l i (by omega)) fun K hK => ?_; simp [hN', hneg]; refine hK _ ?_; clear hK)
      | (refine wps_call [(.take, .tmp 18)] rfl rfl (enters_of Try.func9 (by simp [Try.f9]) rfl) (laws_toBlockS l h1 h2) fun K hK => ?_; simp [hN', hneg]; refine hK _ ?_; clear hK)
      | (refine wps_call [(.bor, .tmp 20), (.take, .tmp 21)] rfl rfl (enters_of Try.func10 (by simp [Try.f10]) rfl) (impl_BlockAt l i (by omega)) fun K hK => ?_; simp [hN', hneg]; refine hK _ ?_; clear hK)
      | (refine wps_call [(.take, .tmp 27)] rfl rfl (enters_of Try.func9 (by simp [Try.f9]) rfl) (laws_toBlockS l h1 h2) fun K hK => ?_; simp [hN', hneg]; refine hK _ ?_; clear hK)
      | (refine wps_call [(.bor, .tmp 26), (.bor, .tmp 28)] rfl rfl (enters_of Try.func11 (by simp [Try.f11]) rfl) (laws_eqBlockS l l (by omega) (by omega) (fun b hb => by have := h2 b hb; omega) (fun b hb => by have := h2 b hb; omega)) fun K hK => ?_; simp [hN', hneg]; refine hK _ ?_; clear hK)
      | (refine wps_nil (hK _ ?_); clear hK)
      | (refine SWp.seq ?_)
      | (refine SWp.condK fun K1 K2 hK1 hK2 => ?_; simp [hN', hneg]; first | (refine hK1 ?_; clear hK1 hK2) | (refine hK2 ?_; clear hK1 hK2) | (refine ⟨fun hc => hK1 ?_, fun hc => hK2 ?_⟩ <;> clear hK1 hK2))
      | (refine SWp.skip ?_; show SWp E C _ _ _)
      | (refine SWp.exit ?_; show SWp E C _ _ _)
      | (refine SWp.ret ?_; simp [thenS, Try.f3]))
end Go.Proofs.T
