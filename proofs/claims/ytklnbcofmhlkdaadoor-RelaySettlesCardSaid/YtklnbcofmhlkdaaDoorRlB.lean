/- The walks of relay's small methods on a state. · relay.remove -/
import Derived.Test.YtklnbcofmhlkdaaDoorRlA
set_option linter.unusedVariables false
set_option linter.unusedSimpArgs false
namespace Go.Proofs.YtklnbcofmhlkdaaDoor
open Go.RowKit Rl

theorem info55 : (Tryd.prog.info? 55).map (·.size) = some 4 := by kernel_rfl
theorem info46 : (Tryd.prog.info? 46).map (·.size) = some 3 := by kernel_rfl
theorem info3 : (Tryd.prog.info? 3).map (·.size) = some 1 := by kernel_rfl

/-- A block is a state's. -/
def St (w : World) (b : Nat) (s : S) : Prop := w.heap[b]? = some (.cells s.arr 58 (0, 0)) ∧ Ok s

theorem send_arr {s : S} (h : Ok s) (hr : s.room) (k f t : Int) :
    (splice (encW s.cen (s.fl ++ [⟨k, f, t, (s.getC f).turn⟩]) s.fl.length).toArray.toList 37 (Value.int .i64 (s.fl.length + 1)).cells.toList).toArray = (s.send k f t).arr := by
  have h6 : (s.fl ++ [(⟨k, f, t, (s.getC f).turn⟩ : Msg)]).length ≤ 6 := by unfold S.room at hr; simp; omega
  have e := encW_many (k := s.fl.length) h.n4 h6 (s.fl.length + 1)
  simp only [Value.cells, S.arr, S.enc, S.send, List.length_append, List.length_singleton]
  rw [e]; rfl

set_option maxHeartbeats 400000 in
theorem room_any (b : Nat) (s : S) (w : World) (h : St w b s) :
    Calls Tryd.prog 46 #[.pointer (some ⟨b, 0, none⟩)] w fun e w' => e = .returned (.bool (decide (s.room))) ∧ w = w' := by
  have hm : w.cell? ⟨b, 37, none⟩ = some (.int .i64 s.fl.length) := by rw [cell_blk h.1, arr_many h.2]
  clear h
  go_enter Tryd.func46, Tryd.ntmps46
  go_wp2
  go_ret
  exact ⟨ret_bool (decide_eq_decide.2 (by unfold S.room; omega)), rfl⟩

set_option maxRecDepth 100000 in
set_option maxHeartbeats 400000 in
theorem send_any (b : Nat) (k f t : Int) (s : S) (w : World) (h : St w b s) (hf : s.isC f) (hr : s.room) (ht : s.isC t) :
    Calls Tryd.prog 52 #[.pointer (some ⟨b, 0, none⟩), .int .i64 k, .int .i64 f, .int .i64 t] w fun e w' => e = .returned (.tuple #[]) ∧ St w' b (s.send k f t) ∧ Fr [b] w w' := by
  have hok' := h.2.send k f t hf ht hr
  have H := Lib.hid h
  have hm : w.cell? ⟨b, 37, none⟩ = some (.int .i64 s.fl.length) := by rw [cell_blk h.1, arr_many h.2]
  have htu : w.cell? ⟨b, 1 + f.toNat * 3 + 2, none⟩ = some (.int .i64 (s.getC f).turn) := by rw [cell_blk h.1, arr_cen h.2 f hf 2 (by omega)]; rfl
  have f0 : 0 ≤ f := hf.1
  have f4 : f < 4 := by have := hf.2; have := h.2.n4; omega
  have m6 : (s.fl.length : Int) < 6 := by unfold S.room at hr; omega
  clear h
  go_enter Tryd.func52, Tryd.ntmps52
  go_wp2
  go_still_tail 19, (by kernel_rfl)
  refine wpList_st rfl 55 (.tmp 26) (.tmp 23) rfl b (13 + s.fl.length * 4) (.agg #[I k, I f, I t, I (s.getC f).turn]) (by simp [Act.eval]) rfl 58 s.arr H.out.1 info55 (by rw [arr_size H.out.2]; simp [Value.cells]; omega) (by simp [Value.cells, Value.oneCell']) (encW s.cen (s.fl ++ [⟨k, f, t, (s.getC f).turn⟩]) s.fl.length).toArray ?_ ?_
  · rw [← encW_putM H.out.2.n4 (by omega)]; rfl
  intro w1 hF hB
  have h6 : (s.fl ++ [(⟨k, f, t, (s.getC f).turn⟩ : Msg)]).length ≤ 6 := by simp; omega
  have hl : (encW s.cen (s.fl ++ [⟨k, f, t, (s.getC f).turn⟩]) s.fl.length).toArray.size = 38 := by simp [encW_len H.out.2.n4 h6]
  have hm1 : w1.cell? ⟨b, 37, none⟩ = some (.int .i64 s.fl.length) := by
    rw [cell_blk hB, List.getElem?_toArray, encW_get37 H.out.2.n4 h6]
  have HF := Lib.hid hF
  have HB := Lib.hid hB
  have HL := Lib.hid hl
  clear hF hB htu hm hl
  go_wp2_with (refine wpList_st rfl 3 (.tmp 33) (.tmp 31) rfl b 37 (.int .i64 (s.fl.length + 1)) (by simp [Act.eval]) (by simp [Act.eval]) 58 _ HB.out info3 (by rw [HL.out]; simp [Value.cells]) (by simp [Value.cells, Value.oneCell']) (s.send k f t).arr (send_arr H.out.2 hr k f t) ?_; intro w2 hF2 hB2)
  go_end0
  exact ⟨rfl, ⟨hB2, hok'⟩, (HF.out).undrew.trans hF2⟩

end Go.Proofs.YtklnbcofmhlkdaaDoor
namespace Go.Proofs.YtklnbcofmhlkdaaDoor
open Go.RowKit Rl

theorem under29 : Tryd.prog.underlying 29 = some (.slice 55) := Tryd.underlying29
theorem slice56 (b : Nat) (x : Int) (h0 : 0 ≤ x) (h6 : x < 6) : ∃ sa : Addr, (x < 5 → sa = ⟨b, 13 + (x.toNat + 1) * 4, none⟩) ∧
    (∀ w, (Instr.sliceAt 56 (.pointer (some ⟨b, 13, none⟩)) (some (.int .i64 x)) none none).run Tryd.prog w = .ok (.slice (some ⟨b, 13 + x.toNat * 4, none⟩) (6 - x.toNat) (6 - x.toNat)) w) ∧
    ∀ w, (Instr.sliceAt 56 (.pointer (some ⟨b, 13, none⟩)) (some (.int .i64 (x + 1))) none none).run Tryd.prog w = .ok (.slice (some sa) (5 - x.toNat) (5 - x.toNat)) w := by
  obtain ⟨n, rfl⟩ := Int.eq_ofNat_of_zero_le h0
  have hn : n < 6 := by omega
  match n, hn with
  | 0, _ => exact ⟨_, fun _ => rfl, fun w => by kernel_rfl, fun w => by kernel_rfl⟩
  | 1, _ => exact ⟨_, fun _ => rfl, fun w => by kernel_rfl, fun w => by kernel_rfl⟩
  | 2, _ => exact ⟨_, fun _ => rfl, fun w => by kernel_rfl, fun w => by kernel_rfl⟩
  | 3, _ => exact ⟨_, fun _ => rfl, fun w => by kernel_rfl, fun w => by kernel_rfl⟩
  | 4, _ => exact ⟨_, fun _ => rfl, fun w => by kernel_rfl, fun w => by kernel_rfl⟩
  | 5, _ => exact ⟨⟨b, 13, none⟩, fun h => by omega, fun w => by kernel_rfl, fun w => by kernel_rfl⟩

theorem remove_arr {s : S} (h : Ok s) (x : Int) (hx : 0 ≤ x ∧ x < s.fl.length) (k : Nat) (hk : s.fl.length = k + 1) : (s.drop x).arr = (encR s.cen ((shift (padM s.fl) x.toNat).set k m0) k).toArray := by
  have e := shift_pad s.fl h.f6 x.toNat (by omega)
  rw [show s.fl.length - 1 = k from by omega] at e
  have hl : (s.fl.eraseIdx x.toNat).length = k := by rw [List.length_eraseIdx_of_lt (by omega)]; omega
  rw [e]
  simp [S.arr, S.enc, S.drop, hl]
set_option maxRecDepth 100000 in
set_option maxHeartbeats 400000 in
theorem remove_any (b : Nat) (x : Int) (s : S) (w : World) (h : St w b s) (hx : 0 ≤ x ∧ x < s.fl.length) :
    Calls Tryd.prog 45 #[.pointer (some ⟨b, 0, none⟩), .int .i64 x] w fun e w' => e = .returned (.agg (encM (s.msg x)).toArray) ∧ St w' b (s.drop x) ∧ Fr [b] w w' := by
  have hok' := h.2.drop x
  have H := Lib.hid h
  have h0 : 0 ≤ x := hx.1
  have h6 : x < 6 := by have := hx.2; have := h.2.f6; omega
  have hl6 : s.fl.length ≤ 6 := h.2.f6
  have hb := blk_lt h.1
  clear h
  go_enter Tryd.func45, Tryd.ntmps45
  go_wp2_with (refine wpList_ldm rfl 55 (.tmp 10) rfl b (13 + x.toNat * 4) (by first | rfl | simp [Act.eval]) 58 s.arr (alloc_at H.out.1 _) [I (s.msg x).kind, I (s.msg x).frm, I (s.msg x).to, I (s.msg x).turn] (fun j hj => arr_msg H.out.2 x hx j hj) _ Tryd.underlying55 rfl info55 ?_)
  refine wp_forget (fun W => Fr [] w W ∧ W.heap[b]? = some (.cells s.arr 58 (0, 0)) ∧ W.heap[w.heap.size]? = some (.cells #[I 0, I 0, I 0, I 0] 55 (0, 0)) ∧ W.heap[w.heap.size + 1]? = some (.cells #[I (s.msg x).kind, I (s.msg x).frm, I (s.msg x).to, I (s.msg x).turn] 55 (0, 0)))
    ⟨((Fr.refl _ _).alloc _).alloc _, alloc_at (alloc_at H.out.1 _) _, alloc_at (alloc_new _ _) _, heap_alloc2_new _ _ _⟩ ?_
  rintro W ⟨hF, hB, hR, hM⟩
  have HF := Lib.hid hF
  have HB := Lib.hid hB
  have HR := Lib.hid hR
  have HM := Lib.hid hM
  clear hF hB hR hM
  obtain ⟨sa, hsa, hrun0, hrun⟩ := slice56 b x h0 h6
  have HS := Lib.hid hsa
  clear hsa
  have hw : IntKind.i64.wrap (x + 1) = x + 1 := IntWalk.i64_in _ (by omega)
  go_still_tail 11, (by kernel_rfl)
  clear hrun hrun0 hw
  have h6M := padM_len H.out.2.f6
  have HM6 := Lib.hid h6M
  clear h6M
  refine wpList_copy_w rfl (.tmp 16) (.tmp 22) 29 29 rfl 55 under29 4 info55 b (13 + x.toNat * 4) (6 - x.toNat) (6 - x.toNat) sa (5 - x.toNat) (5 - x.toNat) rfl rfl 58 s.arr HB.out (((padM s.fl).drop (x.toNat + 1)).flatMap encM) ?_ ?_ ?_ ?_ (encR s.cen (shift (padM s.fl) x.toNat) s.fl.length).toArray ?_ ?_
  · rw [flat_len encM_len, List.length_drop, HM6.out]; simp only [Nat.min_def]; split <;> omega
  · intro j v hj
    by_cases h5 : x < 5
    · rw [HS.out h5, Addr.add_mid]
      exact (cell_blk HB.out _).trans (arr_tail H.out.2 _ _ _ hj)
    · rw [List.drop_eq_nil_of_le (by rw [HM6.out]; omega)] at hj
      simp at hj
  · rw [flat_len encM_len, List.length_drop, HM6.out, arr_size H.out.2]; omega
  · intro v hv
    obtain ⟨n, rfl⟩ := one_encM _ v hv
    rfl
  · rw [← encR_shift H.out.2.n4 HM6.out _ (by omega)]; rfl
  intro w1 hF1 hB1
  have hsl := shift_len HM6.out x.toNat (by omega)
  have HSL := Lib.hid hsl
  have hm1 : w1.cell? ⟨b, 37, none⟩ = some (.int .i64 s.fl.length) := by
    rw [cell_blk hB1, List.getElem?_toArray, encR_get37 H.out.2.n4 hsl]
  have HF1 := Lib.hid hF1
  have HB1 := Lib.hid hB1
  clear hF1 hB1 hsl
  obtain ⟨k, hk⟩ : ∃ k : Nat, s.fl.length = k + 1 := ⟨s.fl.length - 1, by omega⟩
  have k6 : (k : Int) < 6 := by omega
  have HK := Lib.hid hk
  have hk2 : (s.fl.length : Int) - 1 = k := by omega
  have HK2 := Lib.hid hk2
  clear hk hk2
  go_wp2_with (refine wpList_st rfl 3 (.tmp 30) (.tmp 28) rfl b 37 (.int .i64 k) (by first | rfl | simp [Act.eval]) (by simp [Act.eval, HK2.out]) 58 _ HB1.out info3 (by simp [encR_len H.out.2.n4 HSL.out, Value.cells]) (by simp [Value.cells, Value.oneCell']) (encR s.cen (shift (padM s.fl) x.toNat) k).toArray (by rw [← encR_many H.out.2.n4 HSL.out k]; rfl) ?_; intro w2 hF2 hB2)
  have hm2 : w2.cell? ⟨b, 37, none⟩ = some (.int .i64 k) := by
    rw [cell_blk hB2, List.getElem?_toArray, encR_get37 H.out.2.n4 HSL.out]
  have HF2 := Lib.hid hF2
  have HB2 := Lib.hid hB2
  clear hF2 hB2 hm1
  go_still_tail 9, (by kernel_rfl)
  refine wpList_st rfl 55 (.tmp 39) (.tmp 36) rfl b (13 + k * 4) (.agg #[I 0, I 0, I 0, I 0]) (by first | rfl | simp [Act.eval]) (by first | rfl | simp [Act.eval]) 58 _ HB2.out info55 (by simp [encR_len H.out.2.n4 HSL.out, Value.cells]; omega) (by simp [Value.cells, Value.oneCell']) (s.drop x).arr ?_ ?_
  · rw [remove_arr H.out.2 x hx k HK.out]
    have e := encR_putM (k := k) H.out.2.n4 k (by rw [HSL.out]; omega) m0 (M := shift (padM s.fl) x.toNat)
    rw [← e]; rfl
  intro w3 hF3 hB3
  have FF : Fr [b] w w3 := (HF.out.of_nil.trans HF1.out.undrew).trans (HF2.out.trans hF3.undrew)
  have hR3 : w3.heap[w.heap.size]? = some (.cells #[I 0, I 0, I 0, I 0] 55 (0, 0)) :=
    (HF1.out.undrew.trans (HF2.out.trans hF3.undrew)).at_ HR.out (by simp; omega)
  have hM3 : w3.heap[w.heap.size + 1]? = some (.cells #[I (s.msg x).kind, I (s.msg x).frm, I (s.msg x).to, I (s.msg x).turn] 55 (0, 0)) :=
    (HF1.out.undrew.trans (HF2.out.trans hF3.undrew)).at_ HM.out (by simp; omega)
  have HX := Lib.hid (show St w3 b (s.drop x) from ⟨hB3, hok'⟩)
  have HFF := Lib.hid FF
  clear FF hF3 hB3 hm2 HF1 HF2 HB HB1 HB2
  have HR3 := Lib.hid hR3
  have HM3 := Lib.hid hM3
  clear hR3 hM3
  go_wp2_with (first
    | (refine wpList_ldm rfl 55 (.tmp 5) rfl (w.heap.size + 1) 0 (by first | rfl | simp [Act.eval]) 55 _ HM3.out [I (s.msg x).kind, I (s.msg x).frm, I (s.msg x).to, I (s.msg x).turn] (fun j hj => by simp) _ Tryd.underlying55 rfl info55 ?_)
    | (refine wpList_st rfl 55 (.tmp 4) (.tmp 40) rfl w.heap.size 0 (.agg #[I (s.msg x).kind, I (s.msg x).frm, I (s.msg x).to, I (s.msg x).turn]) (by first | rfl | simp [Act.eval]) (by first | rfl | simp [Act.eval]) 55 _ HR3.out info55 (by simp [Value.cells]) (by simp [Value.cells, Value.oneCell']) #[I (s.msg x).kind, I (s.msg x).frm, I (s.msg x).to, I (s.msg x).turn] rfl ?_; intro w4 hF4 hB4))
  refine bodyPost_ret (v := .agg #[I (s.msg x).kind, I (s.msg x).frm, I (s.msg x).to, I (s.msg x).turn]) (results_cell_row rfl _ _ w.heap.size 55 _ (0, 0) _ rfl hB4 Tryd.underlying55 rfl info55) rfl ⟨rfl, ⟨(hF4.at_ HX.out.1 (by simp; omega)), hok'⟩, HFF.out.new hF4 (by simp)⟩

end Go.Proofs.YtklnbcofmhlkdaaDoor
