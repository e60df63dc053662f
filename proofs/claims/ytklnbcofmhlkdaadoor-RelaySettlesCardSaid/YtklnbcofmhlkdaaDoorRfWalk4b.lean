/- cobleref10.handle: one theorem a case. Printed by gen_rhandle.py -/
import Derived.Test.YtklnbcofmhlkdaaDoorRfB
import Derived.Deep.Cut
set_option linter.unusedVariables false
set_option linter.unusedSimpArgs false
namespace Go.Proofs.YtklnbcofmhlkdaaDoor
open Go.RowKit Rl

set_option maxRecDepth 100000 in
set_option maxHeartbeats 2000000 in
theorem rhandle_1_4_0l0 (cv fv : Value) (base : Nat) (xw xt mf mo mt : Int) (s : S) (w : World) (h : OwnS w base cv fv s) (hb : base ≤ w.heap.size) (hok : Ok s) (hx : s.getC mo = ⟨4, xw, xt⟩) (hr : s.room) (hf : s.isC mf) (hto : s.isC mo) (hu : 0 ≤ mt ∧ mt ≤ 9) (hw : (xw == mf) = false) (hl : decide (xt < mt) = false) :
    Calls Tryd.prog 27 #[.agg #[cv, fv], .agg #[.int .i64 1, .int .i64 mf, .int .i64 mo, .int .i64 mt]] w (RPost base cv fv (s) w) := by
  have hne : s.cen ≠ [] := fun e => by have := hok.n2; rw [e] at this; simp at this
  obtain ⟨g, cc, rfl, hgb, hgl, hcell⟩ := h.cen.cons hne
  obtain ⟨fa, cf, rfl⟩ := h.fl.shape
  have hmt : mo.toNat < s.cen.length := by unfold S.isC at hto; omega
  have hci : s.cen[mo.toNat]? = some ⟨4, xw, xt⟩ := by rw [← hx]; simp [S.getC, List.getD, hmt]
  have h0 : 0 ≤ mo := hto.1
  have hn : mo < s.cen.length := hto.2
  have HB0 : Hid (∀ x ∈ Value.blkOf (.slice fa s.fl.length cf), x < w.heap.size) := fun x hx => (h.fl.blk x hx).2
  have HDJ : Hid (g ∉ Value.blkOf (.slice fa s.fl.length cf)) := h.dj g (by simp [Value.blkOf])
  have H := Lib.hid h
  have HX := Lib.hid hx
  have HCI := Lib.hid hci
  have HOK := Lib.hid hok
  have HGN : Hid (g ≠ w.heap.size ∧ g ≠ w.heap.size + 1 ∧ g ≠ w.heap.size + 2) := ⟨by omega, by omega, by omega⟩
  clear h hx hci hcell hok
  go_enter Tryd.func27, Tryd.ntmps27
  go_upto_region 2 with (refine wpList_ldR rfl 46 (.tmp 11) rfl encC 3 encC_len g 0 s.cen.length cc s.cen (H.out.cen.rd.fr0 (by exact (((Fr.refl [] w).alloc _).alloc _).alloc _)) mo.toNat ⟨4, xw, xt⟩ HCI.out (mo.toNat * 3) (by first | rfl | simp [Act.eval]) (by omega) [I 4, I xw, I xt] rfl _ Tryd.underlying46 rfl info46 ?_)
  go_upto_region 15 with (fail)
  go_wp2_with (refine wpList_st rfl 31 (.tmp 4) (.tmp 142) rfl (w.heap.size + 2) 0 (.agg #[.slice (some ⟨g, 0, none⟩) s.cen.length cc, .slice fa s.fl.length cf]) (by first | rfl | simp [Act.eval]) (by first | rfl | simp [Act.eval]) 31 _ (alloc_at (alloc_newn (by simp) _) _) info31 (by simp [Value.cells]) (by simp [Value.cells, Value.oneCell']) #[.slice (some ⟨g, 0, none⟩) s.cen.length cc, .slice fa s.fl.length cf] rfl ?_; intro w9 hF9 hB9; have HF9 := Lib.hid hF9; have HB9 := Lib.hid hB9; clear hF9 hB9)
  refine bodyPost_ret (v := .agg #[.slice (some ⟨g, 0, none⟩) s.cen.length cc, .slice fa s.fl.length cf]) (results_cell_row rfl _ _ (w.heap.size + 2) 31 _ (0, 0) _ rfl HB9.out Tryd.underlying31 rfl info31) rfl ⟨.slice fa s.fl.length cf, rfl, ⟨?_, ?_, ?_⟩, ?_⟩
  · exact ((H.out.cen.fr (((((Fr.refl [] w).alloc _).alloc _).alloc _).alloc _) (by simp)).fr HF9.out (by rw [blkOf_slice]; have := HGN.out.2.2; simpa using this))
  · exact ((H.out.fl.fr (((((Fr.refl [] w).alloc _).alloc _).alloc _).alloc _) (by simp)).fr HF9.out (fun x hx hm => (by have := HB0.out x hx; rw [List.mem_singleton] at hm; omega)))
  · exact H.out.dj
  · exact ((((((Fr.refl [] w).alloc _).alloc _).alloc _).alloc _).of_nil).new HF9.out (by simp)

set_option maxRecDepth 100000 in
set_option maxHeartbeats 2000000 in
theorem rhandle_1_3_1t1 (cv fv : Value) (base : Nat) (xw xt mo : Int) (s : S) (w : World) (h : OwnS w base cv fv s) (hb : base ≤ w.heap.size) (hok : Ok s) (hx : s.getC mo = ⟨3, xw, xt⟩) (hr : s.room) (hf : s.isC xw) (hto : s.isC mo) (hu : 0 ≤ xt ∧ xt ≤ 9) :
    Calls Tryd.prog 27 #[.agg #[cv, fv], .agg #[.int .i64 1, .int .i64 xw, .int .i64 mo, .int .i64 xt]] w (RPost base cv fv (s.send 2 mo xw) w) := by
  have hne : s.cen ≠ [] := fun e => by have := hok.n2; rw [e] at this; simp at this
  obtain ⟨g, cc, rfl, hgb, hgl, hcell⟩ := h.cen.cons hne
  obtain ⟨fa, cf, rfl⟩ := h.fl.shape
  have hmt : mo.toNat < s.cen.length := by unfold S.isC at hto; omega
  have hci : s.cen[mo.toNat]? = some ⟨3, xw, xt⟩ := by rw [← hx]; simp [S.getC, List.getD, hmt]
  have h0 : 0 ≤ mo := hto.1
  have hn : mo < s.cen.length := hto.2
  have HB0 : Hid (∀ x ∈ Value.blkOf (.slice fa s.fl.length cf), x < w.heap.size) := fun x hx => (h.fl.blk x hx).2
  have HDJ : Hid (g ∉ Value.blkOf (.slice fa s.fl.length cf)) := h.dj g (by simp [Value.blkOf])
  have H := Lib.hid h
  have HX := Lib.hid hx
  have HCI := Lib.hid hci
  have HOK := Lib.hid hok
  have HGN : Hid (g ≠ w.heap.size ∧ g ≠ w.heap.size + 1 ∧ g ≠ w.heap.size + 2) := ⟨by omega, by omega, by omega⟩
  clear h hx hci hcell hok
  go_enter Tryd.func27, Tryd.ntmps27
  go_upto_region 2 with (refine wpList_ldR rfl 46 (.tmp 11) rfl encC 3 encC_len g 0 s.cen.length cc s.cen (H.out.cen.rd.fr0 (by exact (((Fr.refl [] w).alloc _).alloc _).alloc _)) mo.toNat ⟨3, xw, xt⟩ HCI.out (mo.toNat * 3) (by first | rfl | simp [Act.eval]) (by omega) [I 3, I xw, I xt] rfl _ Tryd.underlying46 rfl info46 ?_)
  go_upto_region 7 with (fail)
  go_wp2_with (first
    | (go_at_call 25; refine (rsend_any (.slice (some ⟨g, 0, none⟩) s.cen.length cc) (.slice fa s.fl.length cf) base 2 mo xw s _ (by exact ⟨H.out.cen.fr (((((Fr.refl [] w).alloc _).alloc _).alloc _).alloc _) (by simp), H.out.fl.fr (((((Fr.refl [] w).alloc _).alloc _).alloc _).alloc _) (by simp), H.out.dj⟩) (by simp; omega) HOK.out hto hr).mono ?_; rintro e w2 ⟨fv', rfl, hS2, hF2⟩; obtain ⟨p2, m2, n2, rfl, HN2⟩ := hS2.fl.shape'; have HBR2 : Hid (w2.heap[w.heap.size + 2]? = some (.cells #[.slice none 0 0, .slice none 0 0] 31 (0, 0))) := hF2.at_ (alloc_at (alloc_newn (by simp) _) _) (fun hm => (by have := HB0.out _ hm; omega)); have HS2 := Lib.hid hS2; have HF2 := Lib.hid hF2; clear hS2 hF2)
    | (refine wpList_st rfl 31 (.tmp 4) (.tmp 79) rfl (w.heap.size + 2) 0 (.agg #[.slice (some ⟨g, 0, none⟩) s.cen.length cc, .slice p2 m2 n2]) (by first | rfl | simp [Act.eval]) (by first | rfl | simp [Act.eval]) 31 _ HBR2.out info31 (by simp [Value.cells]) (by simp [Value.cells, Value.oneCell']) #[.slice (some ⟨g, 0, none⟩) s.cen.length cc, .slice p2 m2 n2] rfl ?_; intro w9 hF9 hB9; have HF9 := Lib.hid hF9; have HB9 := Lib.hid hB9; clear hF9 hB9))
  refine bodyPost_ret (v := .agg #[.slice (some ⟨g, 0, none⟩) s.cen.length cc, .slice p2 m2 n2]) (results_cell_row rfl _ _ (w.heap.size + 2) 31 _ (0, 0) _ rfl HB9.out Tryd.underlying31 rfl info31) rfl ⟨.slice p2 m2 n2, rfl, ⟨?_, ?_, ?_⟩, ?_⟩
  · exact HS2.out.cen.fr HF9.out (by rw [blkOf_slice]; have := HGN.out.2.2; simpa using this)
  · refine HS2.out.fl.fr HF9.out (fun x hx hm => ?_)
    rw [List.mem_singleton] at hm
    subst hm
    exact rfl_absurd_blk HS2.out.fl hx HBR2.out
  · exact HS2.out.dj
  · exact (((((((Fr.refl [] w).alloc _).alloc _).alloc _).alloc _).of_nil).trans (HF2.out.mono (fun x hx => List.mem_append_right _ hx))).new HF9.out (by simp)

set_option maxRecDepth 100000 in
set_option maxHeartbeats 2000000 in
theorem rhandle_1_3_1t0 (cv fv : Value) (base : Nat) (xw xt mo mt : Int) (s : S) (w : World) (h : OwnS w base cv fv s) (hb : base ≤ w.heap.size) (hok : Ok s) (hx : s.getC mo = ⟨3, xw, xt⟩) (hr : s.room) (hf : s.isC xw) (hto : s.isC mo) (hu : 0 ≤ mt ∧ mt ≤ 9) (ht : (xt == mt) = false) :
    Calls Tryd.prog 27 #[.agg #[cv, fv], .agg #[.int .i64 1, .int .i64 xw, .int .i64 mo, .int .i64 mt]] w (RPost base cv fv (s) w) := by
  have hne : s.cen ≠ [] := fun e => by have := hok.n2; rw [e] at this; simp at this
  obtain ⟨g, cc, rfl, hgb, hgl, hcell⟩ := h.cen.cons hne
  obtain ⟨fa, cf, rfl⟩ := h.fl.shape
  have hmt : mo.toNat < s.cen.length := by unfold S.isC at hto; omega
  have hci : s.cen[mo.toNat]? = some ⟨3, xw, xt⟩ := by rw [← hx]; simp [S.getC, List.getD, hmt]
  have h0 : 0 ≤ mo := hto.1
  have hn : mo < s.cen.length := hto.2
  have HB0 : Hid (∀ x ∈ Value.blkOf (.slice fa s.fl.length cf), x < w.heap.size) := fun x hx => (h.fl.blk x hx).2
  have HDJ : Hid (g ∉ Value.blkOf (.slice fa s.fl.length cf)) := h.dj g (by simp [Value.blkOf])
  have H := Lib.hid h
  have HX := Lib.hid hx
  have HCI := Lib.hid hci
  have HOK := Lib.hid hok
  have HGN : Hid (g ≠ w.heap.size ∧ g ≠ w.heap.size + 1 ∧ g ≠ w.heap.size + 2) := ⟨by omega, by omega, by omega⟩
  clear h hx hci hcell hok
  go_enter Tryd.func27, Tryd.ntmps27
  go_upto_region 2 with (refine wpList_ldR rfl 46 (.tmp 11) rfl encC 3 encC_len g 0 s.cen.length cc s.cen (H.out.cen.rd.fr0 (by exact (((Fr.refl [] w).alloc _).alloc _).alloc _)) mo.toNat ⟨3, xw, xt⟩ HCI.out (mo.toNat * 3) (by first | rfl | simp [Act.eval]) (by omega) [I 3, I xw, I xt] rfl _ Tryd.underlying46 rfl info46 ?_)
  go_upto_region 15 with (fail)
  go_wp2_with (refine wpList_st rfl 31 (.tmp 4) (.tmp 142) rfl (w.heap.size + 2) 0 (.agg #[.slice (some ⟨g, 0, none⟩) s.cen.length cc, .slice fa s.fl.length cf]) (by first | rfl | simp [Act.eval]) (by first | rfl | simp [Act.eval]) 31 _ (alloc_at (alloc_newn (by simp) _) _) info31 (by simp [Value.cells]) (by simp [Value.cells, Value.oneCell']) #[.slice (some ⟨g, 0, none⟩) s.cen.length cc, .slice fa s.fl.length cf] rfl ?_; intro w9 hF9 hB9; have HF9 := Lib.hid hF9; have HB9 := Lib.hid hB9; clear hF9 hB9)
  refine bodyPost_ret (v := .agg #[.slice (some ⟨g, 0, none⟩) s.cen.length cc, .slice fa s.fl.length cf]) (results_cell_row rfl _ _ (w.heap.size + 2) 31 _ (0, 0) _ rfl HB9.out Tryd.underlying31 rfl info31) rfl ⟨.slice fa s.fl.length cf, rfl, ⟨?_, ?_, ?_⟩, ?_⟩
  · exact ((H.out.cen.fr (((((Fr.refl [] w).alloc _).alloc _).alloc _).alloc _) (by simp)).fr HF9.out (by rw [blkOf_slice]; have := HGN.out.2.2; simpa using this))
  · exact ((H.out.fl.fr (((((Fr.refl [] w).alloc _).alloc _).alloc _).alloc _) (by simp)).fr HF9.out (fun x hx hm => (by have := HB0.out x hx; rw [List.mem_singleton] at hm; omega)))
  · exact H.out.dj
  · exact ((((((Fr.refl [] w).alloc _).alloc _).alloc _).alloc _).of_nil).new HF9.out (by simp)

set_option maxRecDepth 100000 in
set_option maxHeartbeats 2000000 in
theorem rhandle_1_3_0 (cv fv : Value) (base : Nat) (xw xt mf mo mt : Int) (s : S) (w : World) (h : OwnS w base cv fv s) (hb : base ≤ w.heap.size) (hok : Ok s) (hx : s.getC mo = ⟨3, xw, xt⟩) (hr : s.room) (hf : s.isC mf) (hto : s.isC mo) (hu : 0 ≤ mt ∧ mt ≤ 9) (hw : (xw == mf) = false) :
    Calls Tryd.prog 27 #[.agg #[cv, fv], .agg #[.int .i64 1, .int .i64 mf, .int .i64 mo, .int .i64 mt]] w (RPost base cv fv (s) w) := by
  have hne : s.cen ≠ [] := fun e => by have := hok.n2; rw [e] at this; simp at this
  obtain ⟨g, cc, rfl, hgb, hgl, hcell⟩ := h.cen.cons hne
  obtain ⟨fa, cf, rfl⟩ := h.fl.shape
  have hmt : mo.toNat < s.cen.length := by unfold S.isC at hto; omega
  have hci : s.cen[mo.toNat]? = some ⟨3, xw, xt⟩ := by rw [← hx]; simp [S.getC, List.getD, hmt]
  have h0 : 0 ≤ mo := hto.1
  have hn : mo < s.cen.length := hto.2
  have HB0 : Hid (∀ x ∈ Value.blkOf (.slice fa s.fl.length cf), x < w.heap.size) := fun x hx => (h.fl.blk x hx).2
  have HDJ : Hid (g ∉ Value.blkOf (.slice fa s.fl.length cf)) := h.dj g (by simp [Value.blkOf])
  have H := Lib.hid h
  have HX := Lib.hid hx
  have HCI := Lib.hid hci
  have HOK := Lib.hid hok
  have HGN : Hid (g ≠ w.heap.size ∧ g ≠ w.heap.size + 1 ∧ g ≠ w.heap.size + 2) := ⟨by omega, by omega, by omega⟩
  clear h hx hci hcell hok
  go_enter Tryd.func27, Tryd.ntmps27
  go_upto_region 2 with (refine wpList_ldR rfl 46 (.tmp 11) rfl encC 3 encC_len g 0 s.cen.length cc s.cen (H.out.cen.rd.fr0 (by exact (((Fr.refl [] w).alloc _).alloc _).alloc _)) mo.toNat ⟨3, xw, xt⟩ HCI.out (mo.toNat * 3) (by first | rfl | simp [Act.eval]) (by omega) [I 3, I xw, I xt] rfl _ Tryd.underlying46 rfl info46 ?_)
  go_upto_region 15 with (fail)
  go_wp2_with (refine wpList_st rfl 31 (.tmp 4) (.tmp 142) rfl (w.heap.size + 2) 0 (.agg #[.slice (some ⟨g, 0, none⟩) s.cen.length cc, .slice fa s.fl.length cf]) (by first | rfl | simp [Act.eval]) (by first | rfl | simp [Act.eval]) 31 _ (alloc_at (alloc_newn (by simp) _) _) info31 (by simp [Value.cells]) (by simp [Value.cells, Value.oneCell']) #[.slice (some ⟨g, 0, none⟩) s.cen.length cc, .slice fa s.fl.length cf] rfl ?_; intro w9 hF9 hB9; have HF9 := Lib.hid hF9; have HB9 := Lib.hid hB9; clear hF9 hB9)
  refine bodyPost_ret (v := .agg #[.slice (some ⟨g, 0, none⟩) s.cen.length cc, .slice fa s.fl.length cf]) (results_cell_row rfl _ _ (w.heap.size + 2) 31 _ (0, 0) _ rfl HB9.out Tryd.underlying31 rfl info31) rfl ⟨.slice fa s.fl.length cf, rfl, ⟨?_, ?_, ?_⟩, ?_⟩
  · exact ((H.out.cen.fr (((((Fr.refl [] w).alloc _).alloc _).alloc _).alloc _) (by simp)).fr HF9.out (by rw [blkOf_slice]; have := HGN.out.2.2; simpa using this))
  · exact ((H.out.fl.fr (((((Fr.refl [] w).alloc _).alloc _).alloc _).alloc _) (by simp)).fr HF9.out (fun x hx hm => (by have := HB0.out x hx; rw [List.mem_singleton] at hm; omega)))
  · exact H.out.dj
  · exact ((((((Fr.refl [] w).alloc _).alloc _).alloc _).alloc _).of_nil).new HF9.out (by simp)

set_option maxRecDepth 100000 in
set_option maxHeartbeats 2000000 in
theorem rhandle_1_n043_1 (cv fv : Value) (base : Nat) (xi xw xt mo mt : Int) (s : S) (w : World) (h : OwnS w base cv fv s) (hb : base ≤ w.heap.size) (hok : Ok s) (hx : s.getC mo = ⟨xi, xw, xt⟩) (hr : s.room) (hf : s.isC xw) (hto : s.isC mo) (hu : 0 ≤ mt ∧ mt ≤ 9) (i0 : (xi == 0) = false) (i4 : (xi == 4) = false) (i3 : (xi == 3) = false) :
    Calls Tryd.prog 27 #[.agg #[cv, fv], .agg #[.int .i64 1, .int .i64 xw, .int .i64 mo, .int .i64 mt]] w (RPost base cv fv (s) w) := by
  have hne : s.cen ≠ [] := fun e => by have := hok.n2; rw [e] at this; simp at this
  obtain ⟨g, cc, rfl, hgb, hgl, hcell⟩ := h.cen.cons hne
  obtain ⟨fa, cf, rfl⟩ := h.fl.shape
  have hmt : mo.toNat < s.cen.length := by unfold S.isC at hto; omega
  have hci : s.cen[mo.toNat]? = some ⟨xi, xw, xt⟩ := by rw [← hx]; simp [S.getC, List.getD, hmt]
  have h0 : 0 ≤ mo := hto.1
  have hn : mo < s.cen.length := hto.2
  have HB0 : Hid (∀ x ∈ Value.blkOf (.slice fa s.fl.length cf), x < w.heap.size) := fun x hx => (h.fl.blk x hx).2
  have HDJ : Hid (g ∉ Value.blkOf (.slice fa s.fl.length cf)) := h.dj g (by simp [Value.blkOf])
  have H := Lib.hid h
  have HX := Lib.hid hx
  have HCI := Lib.hid hci
  have HOK := Lib.hid hok
  have HGN : Hid (g ≠ w.heap.size ∧ g ≠ w.heap.size + 1 ∧ g ≠ w.heap.size + 2) := ⟨by omega, by omega, by omega⟩
  clear h hx hci hcell hok
  go_enter Tryd.func27, Tryd.ntmps27
  go_upto_region 2 with (refine wpList_ldR rfl 46 (.tmp 11) rfl encC 3 encC_len g 0 s.cen.length cc s.cen (H.out.cen.rd.fr0 (by exact (((Fr.refl [] w).alloc _).alloc _).alloc _)) mo.toNat ⟨xi, xw, xt⟩ HCI.out (mo.toNat * 3) (by first | rfl | simp [Act.eval]) (by omega) [I xi, I xw, I xt] rfl _ Tryd.underlying46 rfl info46 ?_)
  go_upto_region 15 with (fail)
  go_wp2_with (refine wpList_st rfl 31 (.tmp 4) (.tmp 142) rfl (w.heap.size + 2) 0 (.agg #[.slice (some ⟨g, 0, none⟩) s.cen.length cc, .slice fa s.fl.length cf]) (by first | rfl | simp [Act.eval]) (by first | rfl | simp [Act.eval]) 31 _ (alloc_at (alloc_newn (by simp) _) _) info31 (by simp [Value.cells]) (by simp [Value.cells, Value.oneCell']) #[.slice (some ⟨g, 0, none⟩) s.cen.length cc, .slice fa s.fl.length cf] rfl ?_; intro w9 hF9 hB9; have HF9 := Lib.hid hF9; have HB9 := Lib.hid hB9; clear hF9 hB9)
  refine bodyPost_ret (v := .agg #[.slice (some ⟨g, 0, none⟩) s.cen.length cc, .slice fa s.fl.length cf]) (results_cell_row rfl _ _ (w.heap.size + 2) 31 _ (0, 0) _ rfl HB9.out Tryd.underlying31 rfl info31) rfl ⟨.slice fa s.fl.length cf, rfl, ⟨?_, ?_, ?_⟩, ?_⟩
  · exact ((H.out.cen.fr (((((Fr.refl [] w).alloc _).alloc _).alloc _).alloc _) (by simp)).fr HF9.out (by rw [blkOf_slice]; have := HGN.out.2.2; simpa using this))
  · exact ((H.out.fl.fr (((((Fr.refl [] w).alloc _).alloc _).alloc _).alloc _) (by simp)).fr HF9.out (fun x hx hm => (by have := HB0.out x hx; rw [List.mem_singleton] at hm; omega)))
  · exact H.out.dj
  · exact ((((((Fr.refl [] w).alloc _).alloc _).alloc _).alloc _).of_nil).new HF9.out (by simp)

set_option maxRecDepth 100000 in
set_option maxHeartbeats 2000000 in
theorem rhandle_1_n043_0 (cv fv : Value) (base : Nat) (xi xw xt mf mo mt : Int) (s : S) (w : World) (h : OwnS w base cv fv s) (hb : base ≤ w.heap.size) (hok : Ok s) (hx : s.getC mo = ⟨xi, xw, xt⟩) (hr : s.room) (hf : s.isC mf) (hto : s.isC mo) (hu : 0 ≤ mt ∧ mt ≤ 9) (i0 : (xi == 0) = false) (i4 : (xi == 4) = false) (i3 : (xi == 3) = false) (hw : (xw == mf) = false) :
    Calls Tryd.prog 27 #[.agg #[cv, fv], .agg #[.int .i64 1, .int .i64 mf, .int .i64 mo, .int .i64 mt]] w (RPost base cv fv (s) w) := by
  have hne : s.cen ≠ [] := fun e => by have := hok.n2; rw [e] at this; simp at this
  obtain ⟨g, cc, rfl, hgb, hgl, hcell⟩ := h.cen.cons hne
  obtain ⟨fa, cf, rfl⟩ := h.fl.shape
  have hmt : mo.toNat < s.cen.length := by unfold S.isC at hto; omega
  have hci : s.cen[mo.toNat]? = some ⟨xi, xw, xt⟩ := by rw [← hx]; simp [S.getC, List.getD, hmt]
  have h0 : 0 ≤ mo := hto.1
  have hn : mo < s.cen.length := hto.2
  have HB0 : Hid (∀ x ∈ Value.blkOf (.slice fa s.fl.length cf), x < w.heap.size) := fun x hx => (h.fl.blk x hx).2
  have HDJ : Hid (g ∉ Value.blkOf (.slice fa s.fl.length cf)) := h.dj g (by simp [Value.blkOf])
  have H := Lib.hid h
  have HX := Lib.hid hx
  have HCI := Lib.hid hci
  have HOK := Lib.hid hok
  have HGN : Hid (g ≠ w.heap.size ∧ g ≠ w.heap.size + 1 ∧ g ≠ w.heap.size + 2) := ⟨by omega, by omega, by omega⟩
  clear h hx hci hcell hok
  go_enter Tryd.func27, Tryd.ntmps27
  go_upto_region 2 with (refine wpList_ldR rfl 46 (.tmp 11) rfl encC 3 encC_len g 0 s.cen.length cc s.cen (H.out.cen.rd.fr0 (by exact (((Fr.refl [] w).alloc _).alloc _).alloc _)) mo.toNat ⟨xi, xw, xt⟩ HCI.out (mo.toNat * 3) (by first | rfl | simp [Act.eval]) (by omega) [I xi, I xw, I xt] rfl _ Tryd.underlying46 rfl info46 ?_)
  go_upto_region 15 with (fail)
  go_wp2_with (refine wpList_st rfl 31 (.tmp 4) (.tmp 142) rfl (w.heap.size + 2) 0 (.agg #[.slice (some ⟨g, 0, none⟩) s.cen.length cc, .slice fa s.fl.length cf]) (by first | rfl | simp [Act.eval]) (by first | rfl | simp [Act.eval]) 31 _ (alloc_at (alloc_newn (by simp) _) _) info31 (by simp [Value.cells]) (by simp [Value.cells, Value.oneCell']) #[.slice (some ⟨g, 0, none⟩) s.cen.length cc, .slice fa s.fl.length cf] rfl ?_; intro w9 hF9 hB9; have HF9 := Lib.hid hF9; have HB9 := Lib.hid hB9; clear hF9 hB9)
  refine bodyPost_ret (v := .agg #[.slice (some ⟨g, 0, none⟩) s.cen.length cc, .slice fa s.fl.length cf]) (results_cell_row rfl _ _ (w.heap.size + 2) 31 _ (0, 0) _ rfl HB9.out Tryd.underlying31 rfl info31) rfl ⟨.slice fa s.fl.length cf, rfl, ⟨?_, ?_, ?_⟩, ?_⟩
  · exact ((H.out.cen.fr (((((Fr.refl [] w).alloc _).alloc _).alloc _).alloc _) (by simp)).fr HF9.out (by rw [blkOf_slice]; have := HGN.out.2.2; simpa using this))
  · exact ((H.out.fl.fr (((((Fr.refl [] w).alloc _).alloc _).alloc _).alloc _) (by simp)).fr HF9.out (fun x hx hm => (by have := HB0.out x hx; rw [List.mem_singleton] at hm; omega)))
  · exact H.out.dj
  · exact ((((((Fr.refl [] w).alloc _).alloc _).alloc _).alloc _).of_nil).new HF9.out (by simp)

set_option maxRecDepth 100000 in
set_option maxHeartbeats 2000000 in
theorem rhandle_2_2_1t1 (cv fv : Value) (base : Nat) (xw xt mo : Int) (s : S) (w : World) (h : OwnS w base cv fv s) (hb : base ≤ w.heap.size) (hok : Ok s) (hx : s.getC mo = ⟨2, xw, xt⟩) (hr : s.room) (hf : s.isC xw) (hto : s.isC mo) (hu : 0 ≤ xt ∧ xt ≤ 9) :
    Calls Tryd.prog 27 #[.agg #[cv, fv], .agg #[.int .i64 2, .int .i64 xw, .int .i64 mo, .int .i64 xt]] w (RPost base cv fv ((s.setC mo ⟨4, xw, xt⟩).send 3 mo xw) w) := by
  have hne : s.cen ≠ [] := fun e => by have := hok.n2; rw [e] at this; simp at this
  obtain ⟨g, cc, rfl, hgb, hgl, hcell⟩ := h.cen.cons hne
  obtain ⟨fa, cf, rfl⟩ := h.fl.shape
  have hmt : mo.toNat < s.cen.length := by unfold S.isC at hto; omega
  have hci : s.cen[mo.toNat]? = some ⟨2, xw, xt⟩ := by rw [← hx]; simp [S.getC, List.getD, hmt]
  have h0 : 0 ≤ mo := hto.1
  have hn : mo < s.cen.length := hto.2
  have HB0 : Hid (∀ x ∈ Value.blkOf (.slice fa s.fl.length cf), x < w.heap.size) := fun x hx => (h.fl.blk x hx).2
  have HDJ : Hid (g ∉ Value.blkOf (.slice fa s.fl.length cf)) := h.dj g (by simp [Value.blkOf])
  have H := Lib.hid h
  have HX := Lib.hid hx
  have HCI := Lib.hid hci
  have HOK := Lib.hid hok
  have HGN : Hid (g ≠ w.heap.size ∧ g ≠ w.heap.size + 1 ∧ g ≠ w.heap.size + 2) := ⟨by omega, by omega, by omega⟩
  clear h hx hci hcell hok
  go_enter Tryd.func27, Tryd.ntmps27
  go_upto_region 2 with (refine wpList_ldR rfl 46 (.tmp 11) rfl encC 3 encC_len g 0 s.cen.length cc s.cen (H.out.cen.rd.fr0 (by exact (((Fr.refl [] w).alloc _).alloc _).alloc _)) mo.toNat ⟨2, xw, xt⟩ HCI.out (mo.toNat * 3) (by first | rfl | simp [Act.eval]) (by omega) [I 2, I xw, I xt] rfl _ Tryd.underlying46 rfl info46 ?_)
  go_upto_region 9 with (fail)
  go_wp2_with (first
    | (refine wpList_stO rfl 3 (.tmp 97) (.const (.int .i64 4)) rfl g (mo.toNat * 3) (I 4) (by first | rfl | simp [Act.eval]) (by first | rfl | simp [Act.eval]) base 46 3 encC s.cen.length cc s.cen (H.out.cen.fr (by exact ((((Fr.refl [] w).alloc _).alloc _).alloc _).alloc _) (by simp)) info3 (by rw [flat_len encC_len]; simp [Value.cells]; omega) (by simp [Value.cells, Value.oneCell']) (s.cen.set mo.toNat ⟨4, xw, xt⟩) (by simp) (set_splice1 encC_len s.cen mo.toNat 0 (by omega) (by omega) (I 4) _ ⟨4, xw, xt⟩ HCI.out rfl) ?_; intro w1 hF1 hO1; have HBXw1 : Hid (w1.heap[w.heap.size]? = some (.cells #[.slice (some ⟨g, 0, none⟩) s.cen.length cc, .slice fa s.fl.length cf] 31 (0, 0))) := hF1.at_ (alloc_at (alloc_at (alloc_at (alloc_new w _) _) _) _) (by have := HGN.out; simp; omega); have HBMw1 : Hid (w1.heap[w.heap.size + 1]? = some (.cells #[I 2, I xw, I mo, I xt] 55 (0, 0))) := hF1.at_ (alloc_at (alloc_at (heap_alloc2_new w _ _) _) _) (by have := HGN.out; simp; omega); have HBRw1 : Hid (w1.heap[w.heap.size + 2]? = some (.cells #[.slice none 0 0, .slice none 0 0] 31 (0, 0))) := hF1.at_ (alloc_at (alloc_newn (by simp) _) _) (by have := HGN.out; simp; omega); have f0 : w1.cell? ⟨w.heap.size, 0, none⟩ = some (.slice (some ⟨g, 0, none⟩) s.cen.length cc) := (cell_blk HBXw1.out 0).trans rfl; have f1 : w1.cell? ⟨w.heap.size, 1, none⟩ = some (.slice fa s.fl.length cf) := (cell_blk HBXw1.out 1).trans rfl; have f2 : w1.cell? ⟨w.heap.size + 1, 1, none⟩ = some (I xw) := (cell_blk HBMw1.out 1).trans rfl; have f3 : w1.cell? ⟨w.heap.size + 1, 2, none⟩ = some (I mo) := (cell_blk HBMw1.out 2).trans rfl; have HO1 := Lib.hid hO1; have HF1 := Lib.hid hF1; clear hO1 hF1)
    | (go_at_call 25; refine (rsend_any (.slice (some ⟨g, 0, none⟩) s.cen.length cc) (.slice fa s.fl.length cf) base 3 mo xw (s.setC mo ⟨4, xw, xt⟩) _ (by exact ⟨HO1.out, (H.out.fl.fr (((((Fr.refl [] w).alloc _).alloc _).alloc _).alloc _) (by simp)).fr HF1.out (fun x hx hm => (by rw [List.mem_singleton] at hm; subst hm; exact HDJ.out hx)), H.out.dj⟩) (by have := HF1.out.size; simp at this; omega) (HOK.out.setC mo ⟨4, xw, xt⟩ (by have := HOK.out.getC hto; rw [HX.out] at this; exact this)) ((isC_setC _ _ _ _).2 hto) hr).mono ?_; rintro e w2 ⟨fv', rfl, hS2, hF2⟩; obtain ⟨p2, m2, n2, rfl, HN2⟩ := hS2.fl.shape'; have HFB := Lib.hid (hS2.fl.blk); have HBR2 : Hid (w2.heap[w.heap.size + 2]? = some (.cells #[.slice none 0 0, .slice none 0 0] 31 (0, 0))) := hF2.at_ HBRw1.out (fun hm => (by have := HB0.out _ hm; omega)); have HS2 := Lib.hid hS2; have HF2 := Lib.hid hF2; clear hS2 hF2)
    | (refine wpList_st rfl 31 (.tmp 4) (.tmp 103) rfl (w.heap.size + 2) 0 (.agg #[.slice (some ⟨g, 0, none⟩) s.cen.length cc, .slice p2 m2 n2]) (by first | rfl | simp [Act.eval]) (by first | rfl | simp [Act.eval]) 31 _ HBR2.out info31 (by simp [Value.cells]) (by simp [Value.cells, Value.oneCell']) #[.slice (some ⟨g, 0, none⟩) s.cen.length cc, .slice p2 m2 n2] rfl ?_; intro w9 hF9 hB9; have HF9 := Lib.hid hF9; have HB9 := Lib.hid hB9; clear hF9 hB9))
  refine bodyPost_ret (v := .agg #[.slice (some ⟨g, 0, none⟩) s.cen.length cc, .slice p2 m2 n2]) (results_cell_row rfl _ _ (w.heap.size + 2) 31 _ (0, 0) _ rfl HB9.out Tryd.underlying31 rfl info31) rfl ⟨.slice p2 m2 n2, rfl, ⟨?_, ?_, ?_⟩, ?_⟩
  · exact HS2.out.cen.fr HF9.out (by rw [blkOf_slice]; have := HGN.out.2.2; simpa using this)
  · refine HS2.out.fl.fr HF9.out (fun x hx hm => ?_)
    rw [List.mem_singleton] at hm
    subst hm
    exact rfl_absurd_blk HS2.out.fl hx HBR2.out
  · exact HS2.out.dj
  · exact ((((((((Fr.refl [] w).alloc _).alloc _).alloc _).alloc _).of_nil).trans (HF1.out.mono (by simp [blkOf_slice]))).trans (HF2.out.mono (fun x hx => List.mem_append_right _ hx))).new HF9.out (by simp)

end Go.Proofs.YtklnbcofmhlkdaaDoor
