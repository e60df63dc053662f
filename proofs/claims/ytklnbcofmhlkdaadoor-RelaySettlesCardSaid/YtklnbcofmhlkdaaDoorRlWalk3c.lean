/- relay.handle: one theorem a case. Printed by gen_handle.py -/
import Derived.Test.YtklnbcofmhlkdaaDoorRlB
set_option linter.unusedVariables false
set_option linter.unusedSimpArgs false
namespace Go.Proofs.YtklnbcofmhlkdaaDoor
open Go.RowKit Rl

set_option maxRecDepth 100000 in
set_option maxHeartbeats 1000000 in
theorem handle_2_2_1t0 (b : Nat) (xw xt mo mt : Int) (s : S) (w : World) (h : St w b s) (hx : s.getC mo = ⟨2, xw, xt⟩) (hr : s.room) (hf : s.isC xw) (hto : s.isC mo) (hu : 0 ≤ mt ∧ mt ≤ 9) (ht : (xt == mt) = false) :
    Calls Tryd.prog 44 #[.pointer (some ⟨b, 0, none⟩), .agg #[.int .i64 2, .int .i64 xw, .int .i64 mo, .int .i64 mt]] w fun e w' => e = .returned (.tuple #[]) ∧ St w' b (s) ∧ Fr [b] w w' := by
  have H := Lib.hid h
  have hb := blk_lt h.1
  have h0 : 0 ≤ mo := hto.1
  have h4 : mo < 4 := by have := hto.2; have := h.2.n4; omega
  have c0 : w.cell? ⟨b, 1 + mo.toNat * 3, none⟩ = some (I 2) := by rw [cell_blk h.1, show I 2 = I (s.getC mo).is from by rw [hx]]; exact arr_cen h.2 mo hto 0 (by omega)
  have c1 : w.cell? ⟨b, 1 + mo.toNat * 3 + 1, none⟩ = some (I xw) := by rw [cell_blk h.1, show I xw = I (s.getC mo).wth from by rw [hx]]; exact arr_cen h.2 mo hto 1 (by omega)
  have c2 : w.cell? ⟨b, 1 + mo.toNat * 3 + 2, none⟩ = some (I xt) := by rw [cell_blk h.1, show I xt = I (s.getC mo).turn from by rw [hx]]; exact arr_cen h.2 mo hto 2 (by omega)
  have HX := Lib.hid hx
  clear h hx
  go_enter Tryd.func44, Tryd.ntmps44
  go_wp2
  go_quiet (fail)
  go_wp2
  go_quiet (fail)
  go_wp2
  refine wp_forget (fun W => Fr [] w W ∧ W.heap[b]? = some (.cells s.arr 58 (0, 0)) ∧ W.heap[w.heap.size]? = some (.cells #[I 2, I xw, I mo, I mt] 55 (0, 0))) ⟨(((Fr.refl [] w).alloc _).drewN _).drewN _, alloc_at H.out.1 _, alloc_new _ _⟩ ?_
  rintro W ⟨hF, hB, hX⟩
  have d0 : W.cell? ⟨b, 1 + mo.toNat * 3, none⟩ = some (I 2) := by rw [cell_blk hB, ← cell_blk H.out.1]; exact c0
  have d2 : W.cell? ⟨b, 1 + mo.toNat * 3 + 2, none⟩ = some (I xt) := by rw [cell_blk hB, ← cell_blk H.out.1]; exact c2
  have e0 : W.cell? ⟨w.heap.size, 0, none⟩ = some (I 2) := by rw [cell_blk hX]; rfl
  have e1 : W.cell? ⟨w.heap.size, 1, none⟩ = some (I xw) := by rw [cell_blk hX]; rfl
  have e2 : W.cell? ⟨w.heap.size, 2, none⟩ = some (I mo) := by rw [cell_blk hX]; rfl
  have e3 : W.cell? ⟨w.heap.size, 3, none⟩ = some (I mt) := by rw [cell_blk hX]; rfl
  have HF := Lib.hid hF
  have HB := Lib.hid hB
  have HBX := Lib.hid hX
  have hnb : w.heap.size ∉ [b] := by have := blk_lt H.out.1; simp; omega
  clear hF hB hX c0 c1 c2
  go_quiet (fail)
  go_wp2
  go_end0
  exact ⟨rfl, ⟨HB.out, H.out.2⟩, ((HF.out.of_nil).drewN _)⟩

set_option maxRecDepth 100000 in
set_option maxHeartbeats 1000000 in
theorem handle_2_2_0 (b : Nat) (xw xt mf mo mt : Int) (s : S) (w : World) (h : St w b s) (hx : s.getC mo = ⟨2, xw, xt⟩) (hr : s.room) (hf : s.isC mf) (hto : s.isC mo) (hu : 0 ≤ mt ∧ mt ≤ 9) (hw : (xw == mf) = false) :
    Calls Tryd.prog 44 #[.pointer (some ⟨b, 0, none⟩), .agg #[.int .i64 2, .int .i64 mf, .int .i64 mo, .int .i64 mt]] w fun e w' => e = .returned (.tuple #[]) ∧ St w' b (s) ∧ Fr [b] w w' := by
  have H := Lib.hid h
  have hb := blk_lt h.1
  have h0 : 0 ≤ mo := hto.1
  have h4 : mo < 4 := by have := hto.2; have := h.2.n4; omega
  have c0 : w.cell? ⟨b, 1 + mo.toNat * 3, none⟩ = some (I 2) := by rw [cell_blk h.1, show I 2 = I (s.getC mo).is from by rw [hx]]; exact arr_cen h.2 mo hto 0 (by omega)
  have c1 : w.cell? ⟨b, 1 + mo.toNat * 3 + 1, none⟩ = some (I xw) := by rw [cell_blk h.1, show I xw = I (s.getC mo).wth from by rw [hx]]; exact arr_cen h.2 mo hto 1 (by omega)
  have c2 : w.cell? ⟨b, 1 + mo.toNat * 3 + 2, none⟩ = some (I xt) := by rw [cell_blk h.1, show I xt = I (s.getC mo).turn from by rw [hx]]; exact arr_cen h.2 mo hto 2 (by omega)
  have HX := Lib.hid hx
  clear h hx
  go_enter Tryd.func44, Tryd.ntmps44
  go_wp2
  go_quiet (fail)
  go_wp2
  go_quiet (fail)
  go_wp2
  refine wp_forget (fun W => Fr [] w W ∧ W.heap[b]? = some (.cells s.arr 58 (0, 0)) ∧ W.heap[w.heap.size]? = some (.cells #[I 2, I mf, I mo, I mt] 55 (0, 0))) ⟨(((Fr.refl [] w).alloc _).drewN _).drewN _, alloc_at H.out.1 _, alloc_new _ _⟩ ?_
  rintro W ⟨hF, hB, hX⟩
  have d0 : W.cell? ⟨b, 1 + mo.toNat * 3, none⟩ = some (I 2) := by rw [cell_blk hB, ← cell_blk H.out.1]; exact c0
  have d2 : W.cell? ⟨b, 1 + mo.toNat * 3 + 2, none⟩ = some (I xt) := by rw [cell_blk hB, ← cell_blk H.out.1]; exact c2
  have e0 : W.cell? ⟨w.heap.size, 0, none⟩ = some (I 2) := by rw [cell_blk hX]; rfl
  have e1 : W.cell? ⟨w.heap.size, 1, none⟩ = some (I mf) := by rw [cell_blk hX]; rfl
  have e2 : W.cell? ⟨w.heap.size, 2, none⟩ = some (I mo) := by rw [cell_blk hX]; rfl
  have e3 : W.cell? ⟨w.heap.size, 3, none⟩ = some (I mt) := by rw [cell_blk hX]; rfl
  have HF := Lib.hid hF
  have HB := Lib.hid hB
  have HBX := Lib.hid hX
  have hnb : w.heap.size ∉ [b] := by have := blk_lt H.out.1; simp; omega
  clear hF hB hX c0 c1 c2
  go_quiet (fail)
  go_wp2
  go_end0
  exact ⟨rfl, ⟨HB.out, H.out.2⟩, ((HF.out.of_nil).drewN _)⟩

set_option maxRecDepth 100000 in
set_option maxHeartbeats 1000000 in
theorem handle_2_4_1t1 (b : Nat) (xw xt mo : Int) (s : S) (w : World) (h : St w b s) (hx : s.getC mo = ⟨4, xw, xt⟩) (hr : s.room) (hf : s.isC xw) (hto : s.isC mo) (hu : 0 ≤ xt ∧ xt ≤ 9) :
    Calls Tryd.prog 44 #[.pointer (some ⟨b, 0, none⟩), .agg #[.int .i64 2, .int .i64 xw, .int .i64 mo, .int .i64 xt]] w fun e w' => e = .returned (.tuple #[]) ∧ St w' b ((s.setC mo ⟨4, xw, xt⟩).send 3 mo xw) ∧ Fr [b] w w' := by
  have H := Lib.hid h
  have hb := blk_lt h.1
  have h0 : 0 ≤ mo := hto.1
  have h4 : mo < 4 := by have := hto.2; have := h.2.n4; omega
  have c0 : w.cell? ⟨b, 1 + mo.toNat * 3, none⟩ = some (I 4) := by rw [cell_blk h.1, show I 4 = I (s.getC mo).is from by rw [hx]]; exact arr_cen h.2 mo hto 0 (by omega)
  have c1 : w.cell? ⟨b, 1 + mo.toNat * 3 + 1, none⟩ = some (I xw) := by rw [cell_blk h.1, show I xw = I (s.getC mo).wth from by rw [hx]]; exact arr_cen h.2 mo hto 1 (by omega)
  have c2 : w.cell? ⟨b, 1 + mo.toNat * 3 + 2, none⟩ = some (I xt) := by rw [cell_blk h.1, show I xt = I (s.getC mo).turn from by rw [hx]]; exact arr_cen h.2 mo hto 2 (by omega)
  have HX := Lib.hid hx
  clear h hx
  go_enter Tryd.func44, Tryd.ntmps44
  go_wp2
  go_quiet (fail)
  go_wp2
  go_quiet (fail)
  go_wp2
  refine wp_forget (fun W => Fr [] w W ∧ W.heap[b]? = some (.cells s.arr 58 (0, 0)) ∧ W.heap[w.heap.size]? = some (.cells #[I 2, I xw, I mo, I xt] 55 (0, 0))) ⟨(((Fr.refl [] w).alloc _).drewN _).drewN _, alloc_at H.out.1 _, alloc_new _ _⟩ ?_
  rintro W ⟨hF, hB, hX⟩
  have d0 : W.cell? ⟨b, 1 + mo.toNat * 3, none⟩ = some (I 4) := by rw [cell_blk hB, ← cell_blk H.out.1]; exact c0
  have d2 : W.cell? ⟨b, 1 + mo.toNat * 3 + 2, none⟩ = some (I xt) := by rw [cell_blk hB, ← cell_blk H.out.1]; exact c2
  have e0 : W.cell? ⟨w.heap.size, 0, none⟩ = some (I 2) := by rw [cell_blk hX]; rfl
  have e1 : W.cell? ⟨w.heap.size, 1, none⟩ = some (I xw) := by rw [cell_blk hX]; rfl
  have e2 : W.cell? ⟨w.heap.size, 2, none⟩ = some (I mo) := by rw [cell_blk hX]; rfl
  have e3 : W.cell? ⟨w.heap.size, 3, none⟩ = some (I xt) := by rw [cell_blk hX]; rfl
  have HF := Lib.hid hF
  have HB := Lib.hid hB
  have HBX := Lib.hid hX
  have hnb : w.heap.size ∉ [b] := by have := blk_lt H.out.1; simp; omega
  clear hF hB hX c0 c1 c2
  go_quiet (fail)
  go_wp2_with (refine wpList_st rfl 3 (.tmp 111) (.const (.int .i64 4)) rfl b (1 + mo.toNat * 3) (I 4) (by first | rfl | simp [Act.eval]) (by first | rfl | simp [Act.eval]) 58 s.arr HB.out info3 (by rw [arr_size H.out.2]; simp [Value.cells]; omega) (by simp [Value.cells, Value.oneCell']) (s.setC mo ⟨4, xw, xt⟩).arr ((setC_is s H.out.2 mo hto 4).trans (by rw [HX.out])) ?_; intro w1 hF1 hB1; have hok1 : Ok (s.setC mo ⟨4, xw, xt⟩) := H.out.2.setC mo ⟨4, xw, xt⟩ (by have := H.out.2.getC hto; rw [HX.out] at this; exact this); have hFX : Fr [b] W w1 := hF1.undrewN; have f1 : w1.cell? ⟨w.heap.size, 1, none⟩ = some (I xw) := (cell_blk (hFX.at_ HBX.out hnb) 1).trans rfl; have f2 : w1.cell? ⟨w.heap.size, 2, none⟩ = some (I mo) := (cell_blk (hFX.at_ HBX.out hnb) 2).trans rfl; have HS1 : Hid (St w1 b (s.setC mo ⟨4, xw, xt⟩)) := ⟨hB1, hok1⟩; have HF1 := Lib.hid hFX; clear hF1 hFX hB1 hok1 e0 e1 e2 e3 d0 d2)
  refine (send_any b 3 mo xw (s.setC mo ⟨4, xw, xt⟩) _ HS1.out ((isC_setC _ _ _ _).2 hto) hr ((isC_setC _ _ _ _).2 hf)).mono ?_
  rintro e w2 ⟨rfl, hS2, hF2⟩
  have HS2 := Lib.hid hS2
  have HF2 := Lib.hid hF2
  clear hS2 hF2
  go_wp2
  go_end0
  exact ⟨rfl, HS2.out, (HF.out.of_nil.trans HF1.out).trans HF2.out⟩

set_option maxRecDepth 100000 in
set_option maxHeartbeats 1000000 in
theorem handle_2_4_1t0 (b : Nat) (xw xt mo mt : Int) (s : S) (w : World) (h : St w b s) (hx : s.getC mo = ⟨4, xw, xt⟩) (hr : s.room) (hf : s.isC xw) (hto : s.isC mo) (hu : 0 ≤ mt ∧ mt ≤ 9) (ht : (xt == mt) = false) :
    Calls Tryd.prog 44 #[.pointer (some ⟨b, 0, none⟩), .agg #[.int .i64 2, .int .i64 xw, .int .i64 mo, .int .i64 mt]] w fun e w' => e = .returned (.tuple #[]) ∧ St w' b (s) ∧ Fr [b] w w' := by
  have H := Lib.hid h
  have hb := blk_lt h.1
  have h0 : 0 ≤ mo := hto.1
  have h4 : mo < 4 := by have := hto.2; have := h.2.n4; omega
  have c0 : w.cell? ⟨b, 1 + mo.toNat * 3, none⟩ = some (I 4) := by rw [cell_blk h.1, show I 4 = I (s.getC mo).is from by rw [hx]]; exact arr_cen h.2 mo hto 0 (by omega)
  have c1 : w.cell? ⟨b, 1 + mo.toNat * 3 + 1, none⟩ = some (I xw) := by rw [cell_blk h.1, show I xw = I (s.getC mo).wth from by rw [hx]]; exact arr_cen h.2 mo hto 1 (by omega)
  have c2 : w.cell? ⟨b, 1 + mo.toNat * 3 + 2, none⟩ = some (I xt) := by rw [cell_blk h.1, show I xt = I (s.getC mo).turn from by rw [hx]]; exact arr_cen h.2 mo hto 2 (by omega)
  have HX := Lib.hid hx
  clear h hx
  go_enter Tryd.func44, Tryd.ntmps44
  go_wp2
  go_quiet (fail)
  go_wp2
  go_quiet (fail)
  go_wp2
  refine wp_forget (fun W => Fr [] w W ∧ W.heap[b]? = some (.cells s.arr 58 (0, 0)) ∧ W.heap[w.heap.size]? = some (.cells #[I 2, I xw, I mo, I mt] 55 (0, 0))) ⟨(((Fr.refl [] w).alloc _).drewN _).drewN _, alloc_at H.out.1 _, alloc_new _ _⟩ ?_
  rintro W ⟨hF, hB, hX⟩
  have d0 : W.cell? ⟨b, 1 + mo.toNat * 3, none⟩ = some (I 4) := by rw [cell_blk hB, ← cell_blk H.out.1]; exact c0
  have d2 : W.cell? ⟨b, 1 + mo.toNat * 3 + 2, none⟩ = some (I xt) := by rw [cell_blk hB, ← cell_blk H.out.1]; exact c2
  have e0 : W.cell? ⟨w.heap.size, 0, none⟩ = some (I 2) := by rw [cell_blk hX]; rfl
  have e1 : W.cell? ⟨w.heap.size, 1, none⟩ = some (I xw) := by rw [cell_blk hX]; rfl
  have e2 : W.cell? ⟨w.heap.size, 2, none⟩ = some (I mo) := by rw [cell_blk hX]; rfl
  have e3 : W.cell? ⟨w.heap.size, 3, none⟩ = some (I mt) := by rw [cell_blk hX]; rfl
  have HF := Lib.hid hF
  have HB := Lib.hid hB
  have HBX := Lib.hid hX
  have hnb : w.heap.size ∉ [b] := by have := blk_lt H.out.1; simp; omega
  clear hF hB hX c0 c1 c2
  go_quiet (fail)
  go_wp2
  go_end0
  exact ⟨rfl, ⟨HB.out, H.out.2⟩, ((HF.out.of_nil).drewN _)⟩

set_option maxRecDepth 100000 in
set_option maxHeartbeats 1000000 in
theorem handle_2_4_0 (b : Nat) (xw xt mf mo mt : Int) (s : S) (w : World) (h : St w b s) (hx : s.getC mo = ⟨4, xw, xt⟩) (hr : s.room) (hf : s.isC mf) (hto : s.isC mo) (hu : 0 ≤ mt ∧ mt ≤ 9) (hw : (xw == mf) = false) :
    Calls Tryd.prog 44 #[.pointer (some ⟨b, 0, none⟩), .agg #[.int .i64 2, .int .i64 mf, .int .i64 mo, .int .i64 mt]] w fun e w' => e = .returned (.tuple #[]) ∧ St w' b (s) ∧ Fr [b] w w' := by
  have H := Lib.hid h
  have hb := blk_lt h.1
  have h0 : 0 ≤ mo := hto.1
  have h4 : mo < 4 := by have := hto.2; have := h.2.n4; omega
  have c0 : w.cell? ⟨b, 1 + mo.toNat * 3, none⟩ = some (I 4) := by rw [cell_blk h.1, show I 4 = I (s.getC mo).is from by rw [hx]]; exact arr_cen h.2 mo hto 0 (by omega)
  have c1 : w.cell? ⟨b, 1 + mo.toNat * 3 + 1, none⟩ = some (I xw) := by rw [cell_blk h.1, show I xw = I (s.getC mo).wth from by rw [hx]]; exact arr_cen h.2 mo hto 1 (by omega)
  have c2 : w.cell? ⟨b, 1 + mo.toNat * 3 + 2, none⟩ = some (I xt) := by rw [cell_blk h.1, show I xt = I (s.getC mo).turn from by rw [hx]]; exact arr_cen h.2 mo hto 2 (by omega)
  have HX := Lib.hid hx
  clear h hx
  go_enter Tryd.func44, Tryd.ntmps44
  go_wp2
  go_quiet (fail)
  go_wp2
  go_quiet (fail)
  go_wp2
  refine wp_forget (fun W => Fr [] w W ∧ W.heap[b]? = some (.cells s.arr 58 (0, 0)) ∧ W.heap[w.heap.size]? = some (.cells #[I 2, I mf, I mo, I mt] 55 (0, 0))) ⟨(((Fr.refl [] w).alloc _).drewN _).drewN _, alloc_at H.out.1 _, alloc_new _ _⟩ ?_
  rintro W ⟨hF, hB, hX⟩
  have d0 : W.cell? ⟨b, 1 + mo.toNat * 3, none⟩ = some (I 4) := by rw [cell_blk hB, ← cell_blk H.out.1]; exact c0
  have d2 : W.cell? ⟨b, 1 + mo.toNat * 3 + 2, none⟩ = some (I xt) := by rw [cell_blk hB, ← cell_blk H.out.1]; exact c2
  have e0 : W.cell? ⟨w.heap.size, 0, none⟩ = some (I 2) := by rw [cell_blk hX]; rfl
  have e1 : W.cell? ⟨w.heap.size, 1, none⟩ = some (I mf) := by rw [cell_blk hX]; rfl
  have e2 : W.cell? ⟨w.heap.size, 2, none⟩ = some (I mo) := by rw [cell_blk hX]; rfl
  have e3 : W.cell? ⟨w.heap.size, 3, none⟩ = some (I mt) := by rw [cell_blk hX]; rfl
  have HF := Lib.hid hF
  have HB := Lib.hid hB
  have HBX := Lib.hid hX
  have hnb : w.heap.size ∉ [b] := by have := blk_lt H.out.1; simp; omega
  clear hF hB hX c0 c1 c2
  go_quiet (fail)
  go_wp2
  go_end0
  exact ⟨rfl, ⟨HB.out, H.out.2⟩, ((HF.out.of_nil).drewN _)⟩

set_option maxRecDepth 100000 in
set_option maxHeartbeats 1000000 in
theorem handle_2_n24_1 (b : Nat) (xi xw xt mo mt : Int) (s : S) (w : World) (h : St w b s) (hx : s.getC mo = ⟨xi, xw, xt⟩) (hr : s.room) (hf : s.isC xw) (hto : s.isC mo) (hu : 0 ≤ mt ∧ mt ≤ 9) (i2 : (xi == 2) = false) (i4 : (xi == 4) = false) :
    Calls Tryd.prog 44 #[.pointer (some ⟨b, 0, none⟩), .agg #[.int .i64 2, .int .i64 xw, .int .i64 mo, .int .i64 mt]] w fun e w' => e = .returned (.tuple #[]) ∧ St w' b (s) ∧ Fr [b] w w' := by
  have H := Lib.hid h
  have hb := blk_lt h.1
  have h0 : 0 ≤ mo := hto.1
  have h4 : mo < 4 := by have := hto.2; have := h.2.n4; omega
  have c0 : w.cell? ⟨b, 1 + mo.toNat * 3, none⟩ = some (I xi) := by rw [cell_blk h.1, show I xi = I (s.getC mo).is from by rw [hx]]; exact arr_cen h.2 mo hto 0 (by omega)
  have c1 : w.cell? ⟨b, 1 + mo.toNat * 3 + 1, none⟩ = some (I xw) := by rw [cell_blk h.1, show I xw = I (s.getC mo).wth from by rw [hx]]; exact arr_cen h.2 mo hto 1 (by omega)
  have c2 : w.cell? ⟨b, 1 + mo.toNat * 3 + 2, none⟩ = some (I xt) := by rw [cell_blk h.1, show I xt = I (s.getC mo).turn from by rw [hx]]; exact arr_cen h.2 mo hto 2 (by omega)
  have HX := Lib.hid hx
  clear h hx
  go_enter Tryd.func44, Tryd.ntmps44
  go_wp2
  go_quiet (fail)
  go_wp2
  go_quiet (fail)
  go_wp2
  refine wp_forget (fun W => Fr [] w W ∧ W.heap[b]? = some (.cells s.arr 58 (0, 0)) ∧ W.heap[w.heap.size]? = some (.cells #[I 2, I xw, I mo, I mt] 55 (0, 0))) ⟨(((Fr.refl [] w).alloc _).drewN _).drewN _, alloc_at H.out.1 _, alloc_new _ _⟩ ?_
  rintro W ⟨hF, hB, hX⟩
  have d0 : W.cell? ⟨b, 1 + mo.toNat * 3, none⟩ = some (I xi) := by rw [cell_blk hB, ← cell_blk H.out.1]; exact c0
  have d2 : W.cell? ⟨b, 1 + mo.toNat * 3 + 2, none⟩ = some (I xt) := by rw [cell_blk hB, ← cell_blk H.out.1]; exact c2
  have e0 : W.cell? ⟨w.heap.size, 0, none⟩ = some (I 2) := by rw [cell_blk hX]; rfl
  have e1 : W.cell? ⟨w.heap.size, 1, none⟩ = some (I xw) := by rw [cell_blk hX]; rfl
  have e2 : W.cell? ⟨w.heap.size, 2, none⟩ = some (I mo) := by rw [cell_blk hX]; rfl
  have e3 : W.cell? ⟨w.heap.size, 3, none⟩ = some (I mt) := by rw [cell_blk hX]; rfl
  have HF := Lib.hid hF
  have HB := Lib.hid hB
  have HBX := Lib.hid hX
  have hnb : w.heap.size ∉ [b] := by have := blk_lt H.out.1; simp; omega
  clear hF hB hX c0 c1 c2
  go_quiet (fail)
  go_wp2
  go_end0
  exact ⟨rfl, ⟨HB.out, H.out.2⟩, ((HF.out.of_nil).drewN _)⟩

set_option maxRecDepth 100000 in
set_option maxHeartbeats 1000000 in
theorem handle_2_n24_0 (b : Nat) (xi xw xt mf mo mt : Int) (s : S) (w : World) (h : St w b s) (hx : s.getC mo = ⟨xi, xw, xt⟩) (hr : s.room) (hf : s.isC mf) (hto : s.isC mo) (hu : 0 ≤ mt ∧ mt ≤ 9) (i2 : (xi == 2) = false) (i4 : (xi == 4) = false) (hw : (xw == mf) = false) :
    Calls Tryd.prog 44 #[.pointer (some ⟨b, 0, none⟩), .agg #[.int .i64 2, .int .i64 mf, .int .i64 mo, .int .i64 mt]] w fun e w' => e = .returned (.tuple #[]) ∧ St w' b (s) ∧ Fr [b] w w' := by
  have H := Lib.hid h
  have hb := blk_lt h.1
  have h0 : 0 ≤ mo := hto.1
  have h4 : mo < 4 := by have := hto.2; have := h.2.n4; omega
  have c0 : w.cell? ⟨b, 1 + mo.toNat * 3, none⟩ = some (I xi) := by rw [cell_blk h.1, show I xi = I (s.getC mo).is from by rw [hx]]; exact arr_cen h.2 mo hto 0 (by omega)
  have c1 : w.cell? ⟨b, 1 + mo.toNat * 3 + 1, none⟩ = some (I xw) := by rw [cell_blk h.1, show I xw = I (s.getC mo).wth from by rw [hx]]; exact arr_cen h.2 mo hto 1 (by omega)
  have c2 : w.cell? ⟨b, 1 + mo.toNat * 3 + 2, none⟩ = some (I xt) := by rw [cell_blk h.1, show I xt = I (s.getC mo).turn from by rw [hx]]; exact arr_cen h.2 mo hto 2 (by omega)
  have HX := Lib.hid hx
  clear h hx
  go_enter Tryd.func44, Tryd.ntmps44
  go_wp2
  go_quiet (fail)
  go_wp2
  go_quiet (fail)
  go_wp2
  refine wp_forget (fun W => Fr [] w W ∧ W.heap[b]? = some (.cells s.arr 58 (0, 0)) ∧ W.heap[w.heap.size]? = some (.cells #[I 2, I mf, I mo, I mt] 55 (0, 0))) ⟨(((Fr.refl [] w).alloc _).drewN _).drewN _, alloc_at H.out.1 _, alloc_new _ _⟩ ?_
  rintro W ⟨hF, hB, hX⟩
  have d0 : W.cell? ⟨b, 1 + mo.toNat * 3, none⟩ = some (I xi) := by rw [cell_blk hB, ← cell_blk H.out.1]; exact c0
  have d2 : W.cell? ⟨b, 1 + mo.toNat * 3 + 2, none⟩ = some (I xt) := by rw [cell_blk hB, ← cell_blk H.out.1]; exact c2
  have e0 : W.cell? ⟨w.heap.size, 0, none⟩ = some (I 2) := by rw [cell_blk hX]; rfl
  have e1 : W.cell? ⟨w.heap.size, 1, none⟩ = some (I mf) := by rw [cell_blk hX]; rfl
  have e2 : W.cell? ⟨w.heap.size, 2, none⟩ = some (I mo) := by rw [cell_blk hX]; rfl
  have e3 : W.cell? ⟨w.heap.size, 3, none⟩ = some (I mt) := by rw [cell_blk hX]; rfl
  have HF := Lib.hid hF
  have HB := Lib.hid hB
  have HBX := Lib.hid hX
  have hnb : w.heap.size ∉ [b] := by have := blk_lt H.out.1; simp; omega
  clear hF hB hX c0 c1 c2
  go_quiet (fail)
  go_wp2
  go_end0
  exact ⟨rfl, ⟨HB.out, H.out.2⟩, ((HF.out.of_nil).drewN _)⟩

end Go.Proofs.YtklnbcofmhlkdaaDoor
