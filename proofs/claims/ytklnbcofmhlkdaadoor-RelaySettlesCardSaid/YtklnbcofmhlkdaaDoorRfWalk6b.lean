/- cobleref10.Apply: what is not possible. Printed by gen_rapply.py -/
import Derived.Test.YtklnbcofmhlkdaaDoorRfB
import Derived.Deep.Cut
set_option linter.unusedVariables false
set_option linter.unusedSimpArgs false
namespace Go.Proofs.YtklnbcofmhlkdaaDoor
open Go.RowKit Rl

set_option maxRecDepth 100000 in
set_option maxHeartbeats 2000000 in
theorem rapply_2_out (cv fv : Value) (x : Int) (s : S) (w : World) (h : RdS w cv fv s) (hx : ¬ (0 ≤ x ∧ x < s.fl.length)) :
    Calls Tryd.prog 10 #[.agg #[cv, fv], .agg #[.int .i64 2, .int .i64 x, .int .i64 0]] w (ApPost cv fv (none) w) := by
  obtain ⟨ca, cc, rfl⟩ := h.cen.shape
  obtain ⟨fa, cf, rfl⟩ := h.fl.shape
  have hne : s.cen ≠ [] := fun e => by have := h.ok.n2; rw [e] at this; simp at this
  have n4 := h.ok.n4
  have f6 := h.ok.f6
  have H := Lib.hid h
  clear h
  by_cases x0 : 0 ≤ x
  · have xn : (s.fl.length : Int) ≤ x := by omega
    have xd : decide (x < (s.fl.length : Int)) = false := by simpa using xn
    clear hx
    go_enter Tryd.func10, Tryd.ntmps10
    go_wp2_with fail
    refine (copy_any _ _ s _ (H.out.cen.fr0 (by exact (((Fr.refl [] w).alloc _).alloc _).alloc _)) (H.out.fl.fr0 (by exact (((Fr.refl [] w).alloc _).alloc _).alloc _)) H.out.ok.n4 H.out.ok.f6).mono ?_
    rintro e w1 ⟨cv', fv', rfl, hO1, hO2, hdj, hF⟩
    obtain ⟨g, cc', rfl, hgb, hgl, hcell⟩ := hO1.cons hne
    obtain ⟨fa', cf', rfl⟩ := hO2.shape
    have hz := hF.size
    simp only [World.size_alloc] at hz hgb
    have hBC := hF.at_ (alloc_at (alloc_at (alloc_new w _) _) _) (by simp)
    have hBE := hF.at_ (alloc_at (heap_alloc2_new w _ _) _) (by simp)
    have hBR := hF.at_ (alloc_newn (n := w.heap.size + 2) (by simp) _) (by simp)
    have c0 : w1.cell? ⟨w.heap.size, 0, none⟩ = some (.slice ca s.cen.length cc) := (cell_blk hBC 0).trans rfl
    have c1 : w1.cell? ⟨w.heap.size, 1, none⟩ = some (.slice fa s.fl.length cf) := (cell_blk hBC 1).trans rfl
    have e0 : w1.cell? ⟨w.heap.size + 1, 0, none⟩ = some (I (2)) := (cell_blk hBE 0).trans rfl
    have e1 : w1.cell? ⟨w.heap.size + 1, 1, none⟩ = some (I (x)) := (cell_blk hBE 1).trans rfl
    have e2 : w1.cell? ⟨w.heap.size + 1, 2, none⟩ = some (I (0)) := (cell_blk hBE 2).trans rfl
    have HF1 : Hid (Fr [] w w1) := ((((Fr.refl [] w).alloc _).alloc _).alloc _).trans hF
    have HO : Hid (OwnS w1 w.heap.size (.slice (some ⟨g, 0, none⟩) s.cen.length cc') (.slice fa' s.fl.length cf') s) := ⟨hO1.mono (by simp; omega), hO2.mono (by simp; omega), hdj⟩
    have HBR := Lib.hid hBR
    have HCELL := Lib.hid hcell
    have HDJ : Hid (g ∉ Value.blkOf (.slice fa' s.fl.length cf')) := hdj g (by simp [Value.blkOf])
    have HFL : Hid (∀ z ∈ Value.blkOf (.slice fa' s.fl.length cf'), w.heap.size + 3 ≤ z ∧ z < w1.heap.size) := fun z hz' => (by have := hO2.blk z hz'; simp at this; omega)
    have hlt2 : w.heap.size + 2 < w1.heap.size := by omega
    have hlt1 : w.heap.size + 1 < w1.heap.size := by omega
    have hlt0 : w.heap.size < w1.heap.size := by omega
    clear hO1 hO2 hdj hF hBC hBE hBR hcell
    go_upto_region 14 with fail
    go_wp2_with (first
      | (refine wpList_st rfl 31 (.tmp 4) (.tmp 123) rfl (w.heap.size + 2) 0 (.agg #[.slice ca s.cen.length cc, .slice fa s.fl.length cf]) (by first | rfl | simp [Act.eval]) (by first | rfl | simp [Act.eval]) 31 _ (alloc_at HBR.out _) info31 (by simp [Value.cells]) (by simp [Value.cells, Value.oneCell']) #[.slice ca s.cen.length cc, .slice fa s.fl.length cf] rfl ?_; intro w9 hF9 hB9; have HF9 := Lib.hid hF9; have HB9 := Lib.hid hB9; clear hF9 hB9))
    exact bodyPost_ret (v := .tuple #[.agg #[.slice ca s.cen.length cc, .slice fa s.fl.length cf], .bool false]) (results_cell2 rfl _ _ (w.heap.size + 2) 31 _ (0, 0) _ rfl HB9.out Tryd.underlying31 rfl info31 (.bool false) rfl) rfl ⟨(HF1.out.alloc _).new HF9.out (by simp), rfl⟩
  · have hx0 : decide (0 ≤ x) = false := by simpa using x0
    clear hx
    go_enter Tryd.func10, Tryd.ntmps10
    go_wp2_with fail
    refine (copy_any _ _ s _ (H.out.cen.fr0 (by exact (((Fr.refl [] w).alloc _).alloc _).alloc _)) (H.out.fl.fr0 (by exact (((Fr.refl [] w).alloc _).alloc _).alloc _)) H.out.ok.n4 H.out.ok.f6).mono ?_
    rintro e w1 ⟨cv', fv', rfl, hO1, hO2, hdj, hF⟩
    obtain ⟨g, cc', rfl, hgb, hgl, hcell⟩ := hO1.cons hne
    obtain ⟨fa', cf', rfl⟩ := hO2.shape
    have hz := hF.size
    simp only [World.size_alloc] at hz hgb
    have hBC := hF.at_ (alloc_at (alloc_at (alloc_new w _) _) _) (by simp)
    have hBE := hF.at_ (alloc_at (heap_alloc2_new w _ _) _) (by simp)
    have hBR := hF.at_ (alloc_newn (n := w.heap.size + 2) (by simp) _) (by simp)
    have c0 : w1.cell? ⟨w.heap.size, 0, none⟩ = some (.slice ca s.cen.length cc) := (cell_blk hBC 0).trans rfl
    have c1 : w1.cell? ⟨w.heap.size, 1, none⟩ = some (.slice fa s.fl.length cf) := (cell_blk hBC 1).trans rfl
    have e0 : w1.cell? ⟨w.heap.size + 1, 0, none⟩ = some (I (2)) := (cell_blk hBE 0).trans rfl
    have e1 : w1.cell? ⟨w.heap.size + 1, 1, none⟩ = some (I (x)) := (cell_blk hBE 1).trans rfl
    have e2 : w1.cell? ⟨w.heap.size + 1, 2, none⟩ = some (I (0)) := (cell_blk hBE 2).trans rfl
    have HF1 : Hid (Fr [] w w1) := ((((Fr.refl [] w).alloc _).alloc _).alloc _).trans hF
    have HO : Hid (OwnS w1 w.heap.size (.slice (some ⟨g, 0, none⟩) s.cen.length cc') (.slice fa' s.fl.length cf') s) := ⟨hO1.mono (by simp; omega), hO2.mono (by simp; omega), hdj⟩
    have HBR := Lib.hid hBR
    have HCELL := Lib.hid hcell
    have HDJ : Hid (g ∉ Value.blkOf (.slice fa' s.fl.length cf')) := hdj g (by simp [Value.blkOf])
    have HFL : Hid (∀ z ∈ Value.blkOf (.slice fa' s.fl.length cf'), w.heap.size + 3 ≤ z ∧ z < w1.heap.size) := fun z hz' => (by have := hO2.blk z hz'; simp at this; omega)
    have hlt2 : w.heap.size + 2 < w1.heap.size := by omega
    have hlt1 : w.heap.size + 1 < w1.heap.size := by omega
    have hlt0 : w.heap.size < w1.heap.size := by omega
    clear hO1 hO2 hdj hF hBC hBE hBR hcell
    go_upto_region 14 with fail
    go_wp2_with (first
      | (refine wpList_st rfl 31 (.tmp 4) (.tmp 123) rfl (w.heap.size + 2) 0 (.agg #[.slice ca s.cen.length cc, .slice fa s.fl.length cf]) (by first | rfl | simp [Act.eval]) (by first | rfl | simp [Act.eval]) 31 _ (alloc_at HBR.out _) info31 (by simp [Value.cells]) (by simp [Value.cells, Value.oneCell']) #[.slice ca s.cen.length cc, .slice fa s.fl.length cf] rfl ?_; intro w9 hF9 hB9; have HF9 := Lib.hid hF9; have HB9 := Lib.hid hB9; clear hF9 hB9))
    exact bodyPost_ret (v := .tuple #[.agg #[.slice ca s.cen.length cc, .slice fa s.fl.length cf], .bool false]) (results_cell2 rfl _ _ (w.heap.size + 2) 31 _ (0, 0) _ rfl HB9.out Tryd.underlying31 rfl info31 (.bool false) rfl) rfl ⟨(HF1.out.alloc _).new HF9.out (by simp), rfl⟩

set_option maxRecDepth 100000 in
set_option maxHeartbeats 2000000 in
theorem rapply_3_out (cv fv : Value) (x : Int) (s : S) (w : World) (h : RdS w cv fv s) (hx : ¬ (0 ≤ x ∧ x < s.fl.length)) :
    Calls Tryd.prog 10 #[.agg #[cv, fv], .agg #[.int .i64 3, .int .i64 x, .int .i64 0]] w (ApPost cv fv (none) w) := by
  obtain ⟨ca, cc, rfl⟩ := h.cen.shape
  obtain ⟨fa, cf, rfl⟩ := h.fl.shape
  have hne : s.cen ≠ [] := fun e => by have := h.ok.n2; rw [e] at this; simp at this
  have n4 := h.ok.n4
  have f6 := h.ok.f6
  have H := Lib.hid h
  clear h
  by_cases x0 : 0 ≤ x
  · have xn : (s.fl.length : Int) ≤ x := by omega
    have xd : decide (x < (s.fl.length : Int)) = false := by simpa using xn
    clear hx
    go_enter Tryd.func10, Tryd.ntmps10
    go_wp2_with fail
    refine (copy_any _ _ s _ (H.out.cen.fr0 (by exact (((Fr.refl [] w).alloc _).alloc _).alloc _)) (H.out.fl.fr0 (by exact (((Fr.refl [] w).alloc _).alloc _).alloc _)) H.out.ok.n4 H.out.ok.f6).mono ?_
    rintro e w1 ⟨cv', fv', rfl, hO1, hO2, hdj, hF⟩
    obtain ⟨g, cc', rfl, hgb, hgl, hcell⟩ := hO1.cons hne
    obtain ⟨fa', cf', rfl⟩ := hO2.shape
    have hz := hF.size
    simp only [World.size_alloc] at hz hgb
    have hBC := hF.at_ (alloc_at (alloc_at (alloc_new w _) _) _) (by simp)
    have hBE := hF.at_ (alloc_at (heap_alloc2_new w _ _) _) (by simp)
    have hBR := hF.at_ (alloc_newn (n := w.heap.size + 2) (by simp) _) (by simp)
    have c0 : w1.cell? ⟨w.heap.size, 0, none⟩ = some (.slice ca s.cen.length cc) := (cell_blk hBC 0).trans rfl
    have c1 : w1.cell? ⟨w.heap.size, 1, none⟩ = some (.slice fa s.fl.length cf) := (cell_blk hBC 1).trans rfl
    have e0 : w1.cell? ⟨w.heap.size + 1, 0, none⟩ = some (I (3)) := (cell_blk hBE 0).trans rfl
    have e1 : w1.cell? ⟨w.heap.size + 1, 1, none⟩ = some (I (x)) := (cell_blk hBE 1).trans rfl
    have e2 : w1.cell? ⟨w.heap.size + 1, 2, none⟩ = some (I (0)) := (cell_blk hBE 2).trans rfl
    have HF1 : Hid (Fr [] w w1) := ((((Fr.refl [] w).alloc _).alloc _).alloc _).trans hF
    have HO : Hid (OwnS w1 w.heap.size (.slice (some ⟨g, 0, none⟩) s.cen.length cc') (.slice fa' s.fl.length cf') s) := ⟨hO1.mono (by simp; omega), hO2.mono (by simp; omega), hdj⟩
    have HBR := Lib.hid hBR
    have HCELL := Lib.hid hcell
    have HDJ : Hid (g ∉ Value.blkOf (.slice fa' s.fl.length cf')) := hdj g (by simp [Value.blkOf])
    have HFL : Hid (∀ z ∈ Value.blkOf (.slice fa' s.fl.length cf'), w.heap.size + 3 ≤ z ∧ z < w1.heap.size) := fun z hz' => (by have := hO2.blk z hz'; simp at this; omega)
    have hlt2 : w.heap.size + 2 < w1.heap.size := by omega
    have hlt1 : w.heap.size + 1 < w1.heap.size := by omega
    have hlt0 : w.heap.size < w1.heap.size := by omega
    clear hO1 hO2 hdj hF hBC hBE hBR hcell
    go_upto_region 20 with fail
    go_wp2_with (first
      | (refine wpList_st rfl 31 (.tmp 4) (.tmp 143) rfl (w.heap.size + 2) 0 (.agg #[.slice ca s.cen.length cc, .slice fa s.fl.length cf]) (by first | rfl | simp [Act.eval]) (by first | rfl | simp [Act.eval]) 31 _ (alloc_at HBR.out _) info31 (by simp [Value.cells]) (by simp [Value.cells, Value.oneCell']) #[.slice ca s.cen.length cc, .slice fa s.fl.length cf] rfl ?_; intro w9 hF9 hB9; have HF9 := Lib.hid hF9; have HB9 := Lib.hid hB9; clear hF9 hB9))
    exact bodyPost_ret (v := .tuple #[.agg #[.slice ca s.cen.length cc, .slice fa s.fl.length cf], .bool false]) (results_cell2 rfl _ _ (w.heap.size + 2) 31 _ (0, 0) _ rfl HB9.out Tryd.underlying31 rfl info31 (.bool false) rfl) rfl ⟨(HF1.out.alloc _).new HF9.out (by simp), rfl⟩
  · have hx0 : decide (0 ≤ x) = false := by simpa using x0
    clear hx
    go_enter Tryd.func10, Tryd.ntmps10
    go_wp2_with fail
    refine (copy_any _ _ s _ (H.out.cen.fr0 (by exact (((Fr.refl [] w).alloc _).alloc _).alloc _)) (H.out.fl.fr0 (by exact (((Fr.refl [] w).alloc _).alloc _).alloc _)) H.out.ok.n4 H.out.ok.f6).mono ?_
    rintro e w1 ⟨cv', fv', rfl, hO1, hO2, hdj, hF⟩
    obtain ⟨g, cc', rfl, hgb, hgl, hcell⟩ := hO1.cons hne
    obtain ⟨fa', cf', rfl⟩ := hO2.shape
    have hz := hF.size
    simp only [World.size_alloc] at hz hgb
    have hBC := hF.at_ (alloc_at (alloc_at (alloc_new w _) _) _) (by simp)
    have hBE := hF.at_ (alloc_at (heap_alloc2_new w _ _) _) (by simp)
    have hBR := hF.at_ (alloc_newn (n := w.heap.size + 2) (by simp) _) (by simp)
    have c0 : w1.cell? ⟨w.heap.size, 0, none⟩ = some (.slice ca s.cen.length cc) := (cell_blk hBC 0).trans rfl
    have c1 : w1.cell? ⟨w.heap.size, 1, none⟩ = some (.slice fa s.fl.length cf) := (cell_blk hBC 1).trans rfl
    have e0 : w1.cell? ⟨w.heap.size + 1, 0, none⟩ = some (I (3)) := (cell_blk hBE 0).trans rfl
    have e1 : w1.cell? ⟨w.heap.size + 1, 1, none⟩ = some (I (x)) := (cell_blk hBE 1).trans rfl
    have e2 : w1.cell? ⟨w.heap.size + 1, 2, none⟩ = some (I (0)) := (cell_blk hBE 2).trans rfl
    have HF1 : Hid (Fr [] w w1) := ((((Fr.refl [] w).alloc _).alloc _).alloc _).trans hF
    have HO : Hid (OwnS w1 w.heap.size (.slice (some ⟨g, 0, none⟩) s.cen.length cc') (.slice fa' s.fl.length cf') s) := ⟨hO1.mono (by simp; omega), hO2.mono (by simp; omega), hdj⟩
    have HBR := Lib.hid hBR
    have HCELL := Lib.hid hcell
    have HDJ : Hid (g ∉ Value.blkOf (.slice fa' s.fl.length cf')) := hdj g (by simp [Value.blkOf])
    have HFL : Hid (∀ z ∈ Value.blkOf (.slice fa' s.fl.length cf'), w.heap.size + 3 ≤ z ∧ z < w1.heap.size) := fun z hz' => (by have := hO2.blk z hz'; simp at this; omega)
    have hlt2 : w.heap.size + 2 < w1.heap.size := by omega
    have hlt1 : w.heap.size + 1 < w1.heap.size := by omega
    have hlt0 : w.heap.size < w1.heap.size := by omega
    clear hO1 hO2 hdj hF hBC hBE hBR hcell
    go_upto_region 20 with fail
    go_wp2_with (first
      | (refine wpList_st rfl 31 (.tmp 4) (.tmp 143) rfl (w.heap.size + 2) 0 (.agg #[.slice ca s.cen.length cc, .slice fa s.fl.length cf]) (by first | rfl | simp [Act.eval]) (by first | rfl | simp [Act.eval]) 31 _ (alloc_at HBR.out _) info31 (by simp [Value.cells]) (by simp [Value.cells, Value.oneCell']) #[.slice ca s.cen.length cc, .slice fa s.fl.length cf] rfl ?_; intro w9 hF9 hB9; have HF9 := Lib.hid hF9; have HB9 := Lib.hid hB9; clear hF9 hB9))
    exact bodyPost_ret (v := .tuple #[.agg #[.slice ca s.cen.length cc, .slice fa s.fl.length cf], .bool false]) (results_cell2 rfl _ _ (w.heap.size + 2) 31 _ (0, 0) _ rfl HB9.out Tryd.underlying31 rfl info31 (.bool false) rfl) rfl ⟨(HF1.out.alloc _).new HF9.out (by simp), rfl⟩

set_option maxRecDepth 100000 in
set_option maxHeartbeats 2000000 in
theorem rapply_4_out (cv fv : Value) (x : Int) (s : S) (w : World) (h : RdS w cv fv s) (hx : ¬ (0 ≤ x ∧ x < s.fl.length)) :
    Calls Tryd.prog 10 #[.agg #[cv, fv], .agg #[.int .i64 4, .int .i64 x, .int .i64 0]] w (ApPost cv fv (none) w) := by
  obtain ⟨ca, cc, rfl⟩ := h.cen.shape
  obtain ⟨fa, cf, rfl⟩ := h.fl.shape
  have hne : s.cen ≠ [] := fun e => by have := h.ok.n2; rw [e] at this; simp at this
  have n4 := h.ok.n4
  have f6 := h.ok.f6
  have H := Lib.hid h
  clear h
  by_cases x0 : 0 ≤ x
  · have xn : (s.fl.length : Int) ≤ x := by omega
    have xd : decide (x < (s.fl.length : Int)) = false := by simpa using xn
    clear hx
    go_enter Tryd.func10, Tryd.ntmps10
    go_wp2_with fail
    refine (copy_any _ _ s _ (H.out.cen.fr0 (by exact (((Fr.refl [] w).alloc _).alloc _).alloc _)) (H.out.fl.fr0 (by exact (((Fr.refl [] w).alloc _).alloc _).alloc _)) H.out.ok.n4 H.out.ok.f6).mono ?_
    rintro e w1 ⟨cv', fv', rfl, hO1, hO2, hdj, hF⟩
    obtain ⟨g, cc', rfl, hgb, hgl, hcell⟩ := hO1.cons hne
    obtain ⟨fa', cf', rfl⟩ := hO2.shape
    have hz := hF.size
    simp only [World.size_alloc] at hz hgb
    have hBC := hF.at_ (alloc_at (alloc_at (alloc_new w _) _) _) (by simp)
    have hBE := hF.at_ (alloc_at (heap_alloc2_new w _ _) _) (by simp)
    have hBR := hF.at_ (alloc_newn (n := w.heap.size + 2) (by simp) _) (by simp)
    have c0 : w1.cell? ⟨w.heap.size, 0, none⟩ = some (.slice ca s.cen.length cc) := (cell_blk hBC 0).trans rfl
    have c1 : w1.cell? ⟨w.heap.size, 1, none⟩ = some (.slice fa s.fl.length cf) := (cell_blk hBC 1).trans rfl
    have e0 : w1.cell? ⟨w.heap.size + 1, 0, none⟩ = some (I (4)) := (cell_blk hBE 0).trans rfl
    have e1 : w1.cell? ⟨w.heap.size + 1, 1, none⟩ = some (I (x)) := (cell_blk hBE 1).trans rfl
    have e2 : w1.cell? ⟨w.heap.size + 1, 2, none⟩ = some (I (0)) := (cell_blk hBE 2).trans rfl
    have HF1 : Hid (Fr [] w w1) := ((((Fr.refl [] w).alloc _).alloc _).alloc _).trans hF
    have HO : Hid (OwnS w1 w.heap.size (.slice (some ⟨g, 0, none⟩) s.cen.length cc') (.slice fa' s.fl.length cf') s) := ⟨hO1.mono (by simp; omega), hO2.mono (by simp; omega), hdj⟩
    have HBR := Lib.hid hBR
    have HCELL := Lib.hid hcell
    have HDJ : Hid (g ∉ Value.blkOf (.slice fa' s.fl.length cf')) := hdj g (by simp [Value.blkOf])
    have HFL : Hid (∀ z ∈ Value.blkOf (.slice fa' s.fl.length cf'), w.heap.size + 3 ≤ z ∧ z < w1.heap.size) := fun z hz' => (by have := hO2.blk z hz'; simp at this; omega)
    have hlt2 : w.heap.size + 2 < w1.heap.size := by omega
    have hlt1 : w.heap.size + 1 < w1.heap.size := by omega
    have hlt0 : w.heap.size < w1.heap.size := by omega
    clear hO1 hO2 hdj hF hBC hBE hBR hcell
    go_upto_region 25 with fail
    go_wp2_with (first
      | (refine wpList_st rfl 31 (.tmp 4) (.tmp 161) rfl (w.heap.size + 2) 0 (.agg #[.slice ca s.cen.length cc, .slice fa s.fl.length cf]) (by first | rfl | simp [Act.eval]) (by first | rfl | simp [Act.eval]) 31 _ (alloc_at HBR.out _) info31 (by simp [Value.cells]) (by simp [Value.cells, Value.oneCell']) #[.slice ca s.cen.length cc, .slice fa s.fl.length cf] rfl ?_; intro w9 hF9 hB9; have HF9 := Lib.hid hF9; have HB9 := Lib.hid hB9; clear hF9 hB9))
    exact bodyPost_ret (v := .tuple #[.agg #[.slice ca s.cen.length cc, .slice fa s.fl.length cf], .bool false]) (results_cell2 rfl _ _ (w.heap.size + 2) 31 _ (0, 0) _ rfl HB9.out Tryd.underlying31 rfl info31 (.bool false) rfl) rfl ⟨(HF1.out.alloc _).new HF9.out (by simp), rfl⟩
  · have hx0 : decide (0 ≤ x) = false := by simpa using x0
    clear hx
    go_enter Tryd.func10, Tryd.ntmps10
    go_wp2_with fail
    refine (copy_any _ _ s _ (H.out.cen.fr0 (by exact (((Fr.refl [] w).alloc _).alloc _).alloc _)) (H.out.fl.fr0 (by exact (((Fr.refl [] w).alloc _).alloc _).alloc _)) H.out.ok.n4 H.out.ok.f6).mono ?_
    rintro e w1 ⟨cv', fv', rfl, hO1, hO2, hdj, hF⟩
    obtain ⟨g, cc', rfl, hgb, hgl, hcell⟩ := hO1.cons hne
    obtain ⟨fa', cf', rfl⟩ := hO2.shape
    have hz := hF.size
    simp only [World.size_alloc] at hz hgb
    have hBC := hF.at_ (alloc_at (alloc_at (alloc_new w _) _) _) (by simp)
    have hBE := hF.at_ (alloc_at (heap_alloc2_new w _ _) _) (by simp)
    have hBR := hF.at_ (alloc_newn (n := w.heap.size + 2) (by simp) _) (by simp)
    have c0 : w1.cell? ⟨w.heap.size, 0, none⟩ = some (.slice ca s.cen.length cc) := (cell_blk hBC 0).trans rfl
    have c1 : w1.cell? ⟨w.heap.size, 1, none⟩ = some (.slice fa s.fl.length cf) := (cell_blk hBC 1).trans rfl
    have e0 : w1.cell? ⟨w.heap.size + 1, 0, none⟩ = some (I (4)) := (cell_blk hBE 0).trans rfl
    have e1 : w1.cell? ⟨w.heap.size + 1, 1, none⟩ = some (I (x)) := (cell_blk hBE 1).trans rfl
    have e2 : w1.cell? ⟨w.heap.size + 1, 2, none⟩ = some (I (0)) := (cell_blk hBE 2).trans rfl
    have HF1 : Hid (Fr [] w w1) := ((((Fr.refl [] w).alloc _).alloc _).alloc _).trans hF
    have HO : Hid (OwnS w1 w.heap.size (.slice (some ⟨g, 0, none⟩) s.cen.length cc') (.slice fa' s.fl.length cf') s) := ⟨hO1.mono (by simp; omega), hO2.mono (by simp; omega), hdj⟩
    have HBR := Lib.hid hBR
    have HCELL := Lib.hid hcell
    have HDJ : Hid (g ∉ Value.blkOf (.slice fa' s.fl.length cf')) := hdj g (by simp [Value.blkOf])
    have HFL : Hid (∀ z ∈ Value.blkOf (.slice fa' s.fl.length cf'), w.heap.size + 3 ≤ z ∧ z < w1.heap.size) := fun z hz' => (by have := hO2.blk z hz'; simp at this; omega)
    have hlt2 : w.heap.size + 2 < w1.heap.size := by omega
    have hlt1 : w.heap.size + 1 < w1.heap.size := by omega
    have hlt0 : w.heap.size < w1.heap.size := by omega
    clear hO1 hO2 hdj hF hBC hBE hBR hcell
    go_upto_region 25 with fail
    go_wp2_with (first
      | (refine wpList_st rfl 31 (.tmp 4) (.tmp 161) rfl (w.heap.size + 2) 0 (.agg #[.slice ca s.cen.length cc, .slice fa s.fl.length cf]) (by first | rfl | simp [Act.eval]) (by first | rfl | simp [Act.eval]) 31 _ (alloc_at HBR.out _) info31 (by simp [Value.cells]) (by simp [Value.cells, Value.oneCell']) #[.slice ca s.cen.length cc, .slice fa s.fl.length cf] rfl ?_; intro w9 hF9 hB9; have HF9 := Lib.hid hF9; have HB9 := Lib.hid hB9; clear hF9 hB9))
    exact bodyPost_ret (v := .tuple #[.agg #[.slice ca s.cen.length cc, .slice fa s.fl.length cf], .bool false]) (results_cell2 rfl _ _ (w.heap.size + 2) 31 _ (0, 0) _ rfl HB9.out Tryd.underlying31 rfl info31 (.bool false) rfl) rfl ⟨(HF1.out.alloc _).new HF9.out (by simp), rfl⟩

set_option maxRecDepth 100000 in
set_option maxHeartbeats 2000000 in
theorem rapply_4_full (cv fv : Value) (x : Int) (s : S) (w : World) (h : RdS w cv fv s) (hx : 0 ≤ x) (hxn : x < s.fl.length) (hr : 6 ≤ (s.fl.length : Int)) :
    Calls Tryd.prog 10 #[.agg #[cv, fv], .agg #[.int .i64 4, .int .i64 x, .int .i64 0]] w (ApPost cv fv (none) w) := by
  obtain ⟨ca, cc, rfl⟩ := h.cen.shape
  obtain ⟨fa, cf, rfl⟩ := h.fl.shape
  have hne : s.cen ≠ [] := fun e => by have := h.ok.n2; rw [e] at this; simp at this
  have n4 := h.ok.n4
  have f6 := h.ok.f6
  have H := Lib.hid h
  clear h
  go_enter Tryd.func10, Tryd.ntmps10
  go_wp2_with fail
  refine (copy_any _ _ s _ (H.out.cen.fr0 (by exact (((Fr.refl [] w).alloc _).alloc _).alloc _)) (H.out.fl.fr0 (by exact (((Fr.refl [] w).alloc _).alloc _).alloc _)) H.out.ok.n4 H.out.ok.f6).mono ?_
  rintro e w1 ⟨cv', fv', rfl, hO1, hO2, hdj, hF⟩
  obtain ⟨g, cc', rfl, hgb, hgl, hcell⟩ := hO1.cons hne
  obtain ⟨fa', cf', rfl⟩ := hO2.shape
  have hz := hF.size
  simp only [World.size_alloc] at hz hgb
  have hBC := hF.at_ (alloc_at (alloc_at (alloc_new w _) _) _) (by simp)
  have hBE := hF.at_ (alloc_at (heap_alloc2_new w _ _) _) (by simp)
  have hBR := hF.at_ (alloc_newn (n := w.heap.size + 2) (by simp) _) (by simp)
  have c0 : w1.cell? ⟨w.heap.size, 0, none⟩ = some (.slice ca s.cen.length cc) := (cell_blk hBC 0).trans rfl
  have c1 : w1.cell? ⟨w.heap.size, 1, none⟩ = some (.slice fa s.fl.length cf) := (cell_blk hBC 1).trans rfl
  have e0 : w1.cell? ⟨w.heap.size + 1, 0, none⟩ = some (I (4)) := (cell_blk hBE 0).trans rfl
  have e1 : w1.cell? ⟨w.heap.size + 1, 1, none⟩ = some (I (x)) := (cell_blk hBE 1).trans rfl
  have e2 : w1.cell? ⟨w.heap.size + 1, 2, none⟩ = some (I (0)) := (cell_blk hBE 2).trans rfl
  have HF1 : Hid (Fr [] w w1) := ((((Fr.refl [] w).alloc _).alloc _).alloc _).trans hF
  have HO : Hid (OwnS w1 w.heap.size (.slice (some ⟨g, 0, none⟩) s.cen.length cc') (.slice fa' s.fl.length cf') s) := ⟨hO1.mono (by simp; omega), hO2.mono (by simp; omega), hdj⟩
  have HBR := Lib.hid hBR
  have HCELL := Lib.hid hcell
  have HDJ : Hid (g ∉ Value.blkOf (.slice fa' s.fl.length cf')) := hdj g (by simp [Value.blkOf])
  have HFL : Hid (∀ z ∈ Value.blkOf (.slice fa' s.fl.length cf'), w.heap.size + 3 ≤ z ∧ z < w1.heap.size) := fun z hz' => (by have := hO2.blk z hz'; simp at this; omega)
  have hlt2 : w.heap.size + 2 < w1.heap.size := by omega
  have hlt1 : w.heap.size + 1 < w1.heap.size := by omega
  have hlt0 : w.heap.size < w1.heap.size := by omega
  clear hO1 hO2 hdj hF hBC hBE hBR hcell
  go_upto_region 25 with fail
  go_wp2_with (first
    | (refine wpList_st rfl 31 (.tmp 4) (.tmp 161) rfl (w.heap.size + 2) 0 (.agg #[.slice ca s.cen.length cc, .slice fa s.fl.length cf]) (by first | rfl | simp [Act.eval]) (by first | rfl | simp [Act.eval]) 31 _ (alloc_at HBR.out _) info31 (by simp [Value.cells]) (by simp [Value.cells, Value.oneCell']) #[.slice ca s.cen.length cc, .slice fa s.fl.length cf] rfl ?_; intro w9 hF9 hB9; have HF9 := Lib.hid hF9; have HB9 := Lib.hid hB9; clear hF9 hB9))
  exact bodyPost_ret (v := .tuple #[.agg #[.slice ca s.cen.length cc, .slice fa s.fl.length cf], .bool false]) (results_cell2 rfl _ _ (w.heap.size + 2) 31 _ (0, 0) _ rfl HB9.out Tryd.underlying31 rfl info31 (.bool false) rfl) rfl ⟨(HF1.out.alloc _).new HF9.out (by simp), rfl⟩

set_option maxRecDepth 100000 in
set_option maxHeartbeats 2000000 in
theorem rapply_5_out (cv fv : Value) (x : Int) (s : S) (w : World) (h : RdS w cv fv s) (hx : ¬ s.isC x) :
    Calls Tryd.prog 10 #[.agg #[cv, fv], .agg #[.int .i64 5, .int .i64 x, .int .i64 0]] w (ApPost cv fv (none) w) := by
  obtain ⟨ca, cc, rfl⟩ := h.cen.shape
  obtain ⟨fa, cf, rfl⟩ := h.fl.shape
  have hne : s.cen ≠ [] := fun e => by have := h.ok.n2; rw [e] at this; simp at this
  have n4 := h.ok.n4
  have f6 := h.ok.f6
  have H := Lib.hid h
  clear h
  by_cases x0 : 0 ≤ x
  · have xn : (s.cen.length : Int) ≤ x := by unfold S.isC at hx; omega
    have xd : decide (x < (s.cen.length : Int)) = false := by simpa using xn
    clear hx
    go_enter Tryd.func10, Tryd.ntmps10
    go_wp2_with fail
    refine (copy_any _ _ s _ (H.out.cen.fr0 (by exact (((Fr.refl [] w).alloc _).alloc _).alloc _)) (H.out.fl.fr0 (by exact (((Fr.refl [] w).alloc _).alloc _).alloc _)) H.out.ok.n4 H.out.ok.f6).mono ?_
    rintro e w1 ⟨cv', fv', rfl, hO1, hO2, hdj, hF⟩
    obtain ⟨g, cc', rfl, hgb, hgl, hcell⟩ := hO1.cons hne
    obtain ⟨fa', cf', rfl⟩ := hO2.shape
    have hz := hF.size
    simp only [World.size_alloc] at hz hgb
    have hBC := hF.at_ (alloc_at (alloc_at (alloc_new w _) _) _) (by simp)
    have hBE := hF.at_ (alloc_at (heap_alloc2_new w _ _) _) (by simp)
    have hBR := hF.at_ (alloc_newn (n := w.heap.size + 2) (by simp) _) (by simp)
    have c0 : w1.cell? ⟨w.heap.size, 0, none⟩ = some (.slice ca s.cen.length cc) := (cell_blk hBC 0).trans rfl
    have c1 : w1.cell? ⟨w.heap.size, 1, none⟩ = some (.slice fa s.fl.length cf) := (cell_blk hBC 1).trans rfl
    have e0 : w1.cell? ⟨w.heap.size + 1, 0, none⟩ = some (I (5)) := (cell_blk hBE 0).trans rfl
    have e1 : w1.cell? ⟨w.heap.size + 1, 1, none⟩ = some (I (x)) := (cell_blk hBE 1).trans rfl
    have e2 : w1.cell? ⟨w.heap.size + 1, 2, none⟩ = some (I (0)) := (cell_blk hBE 2).trans rfl
    have HF1 : Hid (Fr [] w w1) := ((((Fr.refl [] w).alloc _).alloc _).alloc _).trans hF
    have HO : Hid (OwnS w1 w.heap.size (.slice (some ⟨g, 0, none⟩) s.cen.length cc') (.slice fa' s.fl.length cf') s) := ⟨hO1.mono (by simp; omega), hO2.mono (by simp; omega), hdj⟩
    have HBR := Lib.hid hBR
    have HCELL := Lib.hid hcell
    have HDJ : Hid (g ∉ Value.blkOf (.slice fa' s.fl.length cf')) := hdj g (by simp [Value.blkOf])
    have HFL : Hid (∀ z ∈ Value.blkOf (.slice fa' s.fl.length cf'), w.heap.size + 3 ≤ z ∧ z < w1.heap.size) := fun z hz' => (by have := hO2.blk z hz'; simp at this; omega)
    have hlt2 : w.heap.size + 2 < w1.heap.size := by omega
    have hlt1 : w.heap.size + 1 < w1.heap.size := by omega
    have hlt0 : w.heap.size < w1.heap.size := by omega
    clear hO1 hO2 hdj hF hBC hBE hBR hcell
    go_upto_region 30 with fail
    go_wp2_with (first
      | (refine wpList_st rfl 31 (.tmp 4) (.tmp 184) rfl (w.heap.size + 2) 0 (.agg #[.slice ca s.cen.length cc, .slice fa s.fl.length cf]) (by first | rfl | simp [Act.eval]) (by first | rfl | simp [Act.eval]) 31 _ (alloc_at HBR.out _) info31 (by simp [Value.cells]) (by simp [Value.cells, Value.oneCell']) #[.slice ca s.cen.length cc, .slice fa s.fl.length cf] rfl ?_; intro w9 hF9 hB9; have HF9 := Lib.hid hF9; have HB9 := Lib.hid hB9; clear hF9 hB9))
    exact bodyPost_ret (v := .tuple #[.agg #[.slice ca s.cen.length cc, .slice fa s.fl.length cf], .bool false]) (results_cell2 rfl _ _ (w.heap.size + 2) 31 _ (0, 0) _ rfl HB9.out Tryd.underlying31 rfl info31 (.bool false) rfl) rfl ⟨(HF1.out.alloc _).new HF9.out (by simp), rfl⟩
  · have hx0 : decide (0 ≤ x) = false := by simpa using x0
    clear hx
    go_enter Tryd.func10, Tryd.ntmps10
    go_wp2_with fail
    refine (copy_any _ _ s _ (H.out.cen.fr0 (by exact (((Fr.refl [] w).alloc _).alloc _).alloc _)) (H.out.fl.fr0 (by exact (((Fr.refl [] w).alloc _).alloc _).alloc _)) H.out.ok.n4 H.out.ok.f6).mono ?_
    rintro e w1 ⟨cv', fv', rfl, hO1, hO2, hdj, hF⟩
    obtain ⟨g, cc', rfl, hgb, hgl, hcell⟩ := hO1.cons hne
    obtain ⟨fa', cf', rfl⟩ := hO2.shape
    have hz := hF.size
    simp only [World.size_alloc] at hz hgb
    have hBC := hF.at_ (alloc_at (alloc_at (alloc_new w _) _) _) (by simp)
    have hBE := hF.at_ (alloc_at (heap_alloc2_new w _ _) _) (by simp)
    have hBR := hF.at_ (alloc_newn (n := w.heap.size + 2) (by simp) _) (by simp)
    have c0 : w1.cell? ⟨w.heap.size, 0, none⟩ = some (.slice ca s.cen.length cc) := (cell_blk hBC 0).trans rfl
    have c1 : w1.cell? ⟨w.heap.size, 1, none⟩ = some (.slice fa s.fl.length cf) := (cell_blk hBC 1).trans rfl
    have e0 : w1.cell? ⟨w.heap.size + 1, 0, none⟩ = some (I (5)) := (cell_blk hBE 0).trans rfl
    have e1 : w1.cell? ⟨w.heap.size + 1, 1, none⟩ = some (I (x)) := (cell_blk hBE 1).trans rfl
    have e2 : w1.cell? ⟨w.heap.size + 1, 2, none⟩ = some (I (0)) := (cell_blk hBE 2).trans rfl
    have HF1 : Hid (Fr [] w w1) := ((((Fr.refl [] w).alloc _).alloc _).alloc _).trans hF
    have HO : Hid (OwnS w1 w.heap.size (.slice (some ⟨g, 0, none⟩) s.cen.length cc') (.slice fa' s.fl.length cf') s) := ⟨hO1.mono (by simp; omega), hO2.mono (by simp; omega), hdj⟩
    have HBR := Lib.hid hBR
    have HCELL := Lib.hid hcell
    have HDJ : Hid (g ∉ Value.blkOf (.slice fa' s.fl.length cf')) := hdj g (by simp [Value.blkOf])
    have HFL : Hid (∀ z ∈ Value.blkOf (.slice fa' s.fl.length cf'), w.heap.size + 3 ≤ z ∧ z < w1.heap.size) := fun z hz' => (by have := hO2.blk z hz'; simp at this; omega)
    have hlt2 : w.heap.size + 2 < w1.heap.size := by omega
    have hlt1 : w.heap.size + 1 < w1.heap.size := by omega
    have hlt0 : w.heap.size < w1.heap.size := by omega
    clear hO1 hO2 hdj hF hBC hBE hBR hcell
    go_upto_region 30 with fail
    go_wp2_with (first
      | (refine wpList_st rfl 31 (.tmp 4) (.tmp 184) rfl (w.heap.size + 2) 0 (.agg #[.slice ca s.cen.length cc, .slice fa s.fl.length cf]) (by first | rfl | simp [Act.eval]) (by first | rfl | simp [Act.eval]) 31 _ (alloc_at HBR.out _) info31 (by simp [Value.cells]) (by simp [Value.cells, Value.oneCell']) #[.slice ca s.cen.length cc, .slice fa s.fl.length cf] rfl ?_; intro w9 hF9 hB9; have HF9 := Lib.hid hF9; have HB9 := Lib.hid hB9; clear hF9 hB9))
    exact bodyPost_ret (v := .tuple #[.agg #[.slice ca s.cen.length cc, .slice fa s.fl.length cf], .bool false]) (results_cell2 rfl _ _ (w.heap.size + 2) 31 _ (0, 0) _ rfl HB9.out Tryd.underlying31 rfl info31 (.bool false) rfl) rfl ⟨(HF1.out.alloc _).new HF9.out (by simp), rfl⟩

set_option maxRecDepth 100000 in
set_option maxHeartbeats 2000000 in
theorem rapply_5_full (cv fv : Value) (x : Int) (s : S) (w : World) (h : RdS w cv fv s) (hx : 0 ≤ x) (hxn : x < s.cen.length) (hr : 6 ≤ (s.fl.length : Int)) :
    Calls Tryd.prog 10 #[.agg #[cv, fv], .agg #[.int .i64 5, .int .i64 x, .int .i64 0]] w (ApPost cv fv (none) w) := by
  obtain ⟨ca, cc, rfl⟩ := h.cen.shape
  obtain ⟨fa, cf, rfl⟩ := h.fl.shape
  have hne : s.cen ≠ [] := fun e => by have := h.ok.n2; rw [e] at this; simp at this
  have n4 := h.ok.n4
  have f6 := h.ok.f6
  have H := Lib.hid h
  clear h
  go_enter Tryd.func10, Tryd.ntmps10
  go_wp2_with fail
  refine (copy_any _ _ s _ (H.out.cen.fr0 (by exact (((Fr.refl [] w).alloc _).alloc _).alloc _)) (H.out.fl.fr0 (by exact (((Fr.refl [] w).alloc _).alloc _).alloc _)) H.out.ok.n4 H.out.ok.f6).mono ?_
  rintro e w1 ⟨cv', fv', rfl, hO1, hO2, hdj, hF⟩
  obtain ⟨g, cc', rfl, hgb, hgl, hcell⟩ := hO1.cons hne
  obtain ⟨fa', cf', rfl⟩ := hO2.shape
  have hz := hF.size
  simp only [World.size_alloc] at hz hgb
  have hBC := hF.at_ (alloc_at (alloc_at (alloc_new w _) _) _) (by simp)
  have hBE := hF.at_ (alloc_at (heap_alloc2_new w _ _) _) (by simp)
  have hBR := hF.at_ (alloc_newn (n := w.heap.size + 2) (by simp) _) (by simp)
  have c0 : w1.cell? ⟨w.heap.size, 0, none⟩ = some (.slice ca s.cen.length cc) := (cell_blk hBC 0).trans rfl
  have c1 : w1.cell? ⟨w.heap.size, 1, none⟩ = some (.slice fa s.fl.length cf) := (cell_blk hBC 1).trans rfl
  have e0 : w1.cell? ⟨w.heap.size + 1, 0, none⟩ = some (I (5)) := (cell_blk hBE 0).trans rfl
  have e1 : w1.cell? ⟨w.heap.size + 1, 1, none⟩ = some (I (x)) := (cell_blk hBE 1).trans rfl
  have e2 : w1.cell? ⟨w.heap.size + 1, 2, none⟩ = some (I (0)) := (cell_blk hBE 2).trans rfl
  have HF1 : Hid (Fr [] w w1) := ((((Fr.refl [] w).alloc _).alloc _).alloc _).trans hF
  have HO : Hid (OwnS w1 w.heap.size (.slice (some ⟨g, 0, none⟩) s.cen.length cc') (.slice fa' s.fl.length cf') s) := ⟨hO1.mono (by simp; omega), hO2.mono (by simp; omega), hdj⟩
  have HBR := Lib.hid hBR
  have HCELL := Lib.hid hcell
  have HDJ : Hid (g ∉ Value.blkOf (.slice fa' s.fl.length cf')) := hdj g (by simp [Value.blkOf])
  have HFL : Hid (∀ z ∈ Value.blkOf (.slice fa' s.fl.length cf'), w.heap.size + 3 ≤ z ∧ z < w1.heap.size) := fun z hz' => (by have := hO2.blk z hz'; simp at this; omega)
  have hlt2 : w.heap.size + 2 < w1.heap.size := by omega
  have hlt1 : w.heap.size + 1 < w1.heap.size := by omega
  have hlt0 : w.heap.size < w1.heap.size := by omega
  clear hO1 hO2 hdj hF hBC hBE hBR hcell
  go_upto_region 30 with fail
  go_wp2_with (first
    | (refine wpList_st rfl 31 (.tmp 4) (.tmp 184) rfl (w.heap.size + 2) 0 (.agg #[.slice ca s.cen.length cc, .slice fa s.fl.length cf]) (by first | rfl | simp [Act.eval]) (by first | rfl | simp [Act.eval]) 31 _ (alloc_at HBR.out _) info31 (by simp [Value.cells]) (by simp [Value.cells, Value.oneCell']) #[.slice ca s.cen.length cc, .slice fa s.fl.length cf] rfl ?_; intro w9 hF9 hB9; have HF9 := Lib.hid hF9; have HB9 := Lib.hid hB9; clear hF9 hB9))
  exact bodyPost_ret (v := .tuple #[.agg #[.slice ca s.cen.length cc, .slice fa s.fl.length cf], .bool false]) (results_cell2 rfl _ _ (w.heap.size + 2) 31 _ (0, 0) _ rfl HB9.out Tryd.underlying31 rfl info31 (.bool false) rfl) rfl ⟨(HF1.out.alloc _).new HF9.out (by simp), rfl⟩

set_option maxRecDepth 100000 in
set_option maxHeartbeats 2000000 in
theorem rapply_n (cv fv : Value) (k x : Int) (s : S) (w : World) (h : RdS w cv fv s) (k1 : (k == 1) = false) (k2 : (k == 2) = false) (k3 : (k == 3) = false) (k4 : (k == 4) = false) (k5 : (k == 5) = false) :
    Calls Tryd.prog 10 #[.agg #[cv, fv], .agg #[.int .i64 k, .int .i64 x, .int .i64 0]] w (ApPost cv fv (none) w) := by
  obtain ⟨ca, cc, rfl⟩ := h.cen.shape
  obtain ⟨fa, cf, rfl⟩ := h.fl.shape
  have hne : s.cen ≠ [] := fun e => by have := h.ok.n2; rw [e] at this; simp at this
  have n4 := h.ok.n4
  have f6 := h.ok.f6
  have H := Lib.hid h
  clear h
  have n1 : ¬ k = 1 := by simpa using k1
  have n2 : ¬ k = 2 := by simpa using k2
  have n3 : ¬ k = 3 := by simpa using k3
  have n4 : ¬ k = 4 := by simpa using k4
  have n5 : ¬ k = 5 := by simpa using k5
  by_cases x0 : 0 ≤ x
  · go_enter Tryd.func10, Tryd.ntmps10
    go_wp2_with fail
    refine (copy_any _ _ s _ (H.out.cen.fr0 (by exact (((Fr.refl [] w).alloc _).alloc _).alloc _)) (H.out.fl.fr0 (by exact (((Fr.refl [] w).alloc _).alloc _).alloc _)) H.out.ok.n4 H.out.ok.f6).mono ?_
    rintro e w1 ⟨cv', fv', rfl, hO1, hO2, hdj, hF⟩
    obtain ⟨g, cc', rfl, hgb, hgl, hcell⟩ := hO1.cons hne
    obtain ⟨fa', cf', rfl⟩ := hO2.shape
    have hz := hF.size
    simp only [World.size_alloc] at hz hgb
    have hBC := hF.at_ (alloc_at (alloc_at (alloc_new w _) _) _) (by simp)
    have hBE := hF.at_ (alloc_at (heap_alloc2_new w _ _) _) (by simp)
    have hBR := hF.at_ (alloc_newn (n := w.heap.size + 2) (by simp) _) (by simp)
    have c0 : w1.cell? ⟨w.heap.size, 0, none⟩ = some (.slice ca s.cen.length cc) := (cell_blk hBC 0).trans rfl
    have c1 : w1.cell? ⟨w.heap.size, 1, none⟩ = some (.slice fa s.fl.length cf) := (cell_blk hBC 1).trans rfl
    have e0 : w1.cell? ⟨w.heap.size + 1, 0, none⟩ = some (I (k)) := (cell_blk hBE 0).trans rfl
    have e1 : w1.cell? ⟨w.heap.size + 1, 1, none⟩ = some (I (x)) := (cell_blk hBE 1).trans rfl
    have e2 : w1.cell? ⟨w.heap.size + 1, 2, none⟩ = some (I (0)) := (cell_blk hBE 2).trans rfl
    have HF1 : Hid (Fr [] w w1) := ((((Fr.refl [] w).alloc _).alloc _).alloc _).trans hF
    have HO : Hid (OwnS w1 w.heap.size (.slice (some ⟨g, 0, none⟩) s.cen.length cc') (.slice fa' s.fl.length cf') s) := ⟨hO1.mono (by simp; omega), hO2.mono (by simp; omega), hdj⟩
    have HBR := Lib.hid hBR
    have HCELL := Lib.hid hcell
    have HDJ : Hid (g ∉ Value.blkOf (.slice fa' s.fl.length cf')) := hdj g (by simp [Value.blkOf])
    have HFL : Hid (∀ z ∈ Value.blkOf (.slice fa' s.fl.length cf'), w.heap.size + 3 ≤ z ∧ z < w1.heap.size) := fun z hz' => (by have := hO2.blk z hz'; simp at this; omega)
    have hlt2 : w.heap.size + 2 < w1.heap.size := by omega
    have hlt1 : w.heap.size + 1 < w1.heap.size := by omega
    have hlt0 : w.heap.size < w1.heap.size := by omega
    clear hO1 hO2 hdj hF hBC hBE hBR hcell
    go_upto_region 28 with fail
    go_wp2_with (first
      | (refine wpList_st rfl 31 (.tmp 4) (.tmp 209) rfl (w.heap.size + 2) 0 (.agg #[.slice ca s.cen.length cc, .slice fa s.fl.length cf]) (by first | rfl | simp [Act.eval]) (by first | rfl | simp [Act.eval]) 31 _ (alloc_at HBR.out _) info31 (by simp [Value.cells]) (by simp [Value.cells, Value.oneCell']) #[.slice ca s.cen.length cc, .slice fa s.fl.length cf] rfl ?_; intro w9 hF9 hB9; have HF9 := Lib.hid hF9; have HB9 := Lib.hid hB9; clear hF9 hB9))
    exact bodyPost_ret (v := .tuple #[.agg #[.slice ca s.cen.length cc, .slice fa s.fl.length cf], .bool false]) (results_cell2 rfl _ _ (w.heap.size + 2) 31 _ (0, 0) _ rfl HB9.out Tryd.underlying31 rfl info31 (.bool false) rfl) rfl ⟨(HF1.out.alloc _).new HF9.out (by simp), rfl⟩
  · have hx0 : decide (0 ≤ x) = false := by simpa using x0
    go_enter Tryd.func10, Tryd.ntmps10
    go_wp2_with fail
    refine (copy_any _ _ s _ (H.out.cen.fr0 (by exact (((Fr.refl [] w).alloc _).alloc _).alloc _)) (H.out.fl.fr0 (by exact (((Fr.refl [] w).alloc _).alloc _).alloc _)) H.out.ok.n4 H.out.ok.f6).mono ?_
    rintro e w1 ⟨cv', fv', rfl, hO1, hO2, hdj, hF⟩
    obtain ⟨g, cc', rfl, hgb, hgl, hcell⟩ := hO1.cons hne
    obtain ⟨fa', cf', rfl⟩ := hO2.shape
    have hz := hF.size
    simp only [World.size_alloc] at hz hgb
    have hBC := hF.at_ (alloc_at (alloc_at (alloc_new w _) _) _) (by simp)
    have hBE := hF.at_ (alloc_at (heap_alloc2_new w _ _) _) (by simp)
    have hBR := hF.at_ (alloc_newn (n := w.heap.size + 2) (by simp) _) (by simp)
    have c0 : w1.cell? ⟨w.heap.size, 0, none⟩ = some (.slice ca s.cen.length cc) := (cell_blk hBC 0).trans rfl
    have c1 : w1.cell? ⟨w.heap.size, 1, none⟩ = some (.slice fa s.fl.length cf) := (cell_blk hBC 1).trans rfl
    have e0 : w1.cell? ⟨w.heap.size + 1, 0, none⟩ = some (I (k)) := (cell_blk hBE 0).trans rfl
    have e1 : w1.cell? ⟨w.heap.size + 1, 1, none⟩ = some (I (x)) := (cell_blk hBE 1).trans rfl
    have e2 : w1.cell? ⟨w.heap.size + 1, 2, none⟩ = some (I (0)) := (cell_blk hBE 2).trans rfl
    have HF1 : Hid (Fr [] w w1) := ((((Fr.refl [] w).alloc _).alloc _).alloc _).trans hF
    have HO : Hid (OwnS w1 w.heap.size (.slice (some ⟨g, 0, none⟩) s.cen.length cc') (.slice fa' s.fl.length cf') s) := ⟨hO1.mono (by simp; omega), hO2.mono (by simp; omega), hdj⟩
    have HBR := Lib.hid hBR
    have HCELL := Lib.hid hcell
    have HDJ : Hid (g ∉ Value.blkOf (.slice fa' s.fl.length cf')) := hdj g (by simp [Value.blkOf])
    have HFL : Hid (∀ z ∈ Value.blkOf (.slice fa' s.fl.length cf'), w.heap.size + 3 ≤ z ∧ z < w1.heap.size) := fun z hz' => (by have := hO2.blk z hz'; simp at this; omega)
    have hlt2 : w.heap.size + 2 < w1.heap.size := by omega
    have hlt1 : w.heap.size + 1 < w1.heap.size := by omega
    have hlt0 : w.heap.size < w1.heap.size := by omega
    clear hO1 hO2 hdj hF hBC hBE hBR hcell
    go_upto_region 28 with fail
    go_wp2_with (first
      | (refine wpList_st rfl 31 (.tmp 4) (.tmp 209) rfl (w.heap.size + 2) 0 (.agg #[.slice ca s.cen.length cc, .slice fa s.fl.length cf]) (by first | rfl | simp [Act.eval]) (by first | rfl | simp [Act.eval]) 31 _ (alloc_at HBR.out _) info31 (by simp [Value.cells]) (by simp [Value.cells, Value.oneCell']) #[.slice ca s.cen.length cc, .slice fa s.fl.length cf] rfl ?_; intro w9 hF9 hB9; have HF9 := Lib.hid hF9; have HB9 := Lib.hid hB9; clear hF9 hB9))
    exact bodyPost_ret (v := .tuple #[.agg #[.slice ca s.cen.length cc, .slice fa s.fl.length cf], .bool false]) (results_cell2 rfl _ _ (w.heap.size + 2) 31 _ (0, 0) _ rfl HB9.out Tryd.underlying31 rfl info31 (.bool false) rfl) rfl ⟨(HF1.out.alloc _).new HF9.out (by simp), rfl⟩

end Go.Proofs.YtklnbcofmhlkdaaDoor
