/- cobleref10.Apply: what is possible. Printed by gen_rapply3.py -/
import Derived.Test.YtklnbcofmhlkdaaDoorRfB
set_option linter.unusedVariables false
set_option linter.unusedSimpArgs false
namespace Go.Proofs.YtklnbcofmhlkdaaDoor
open Go.RowKit Rl

set_option maxRecDepth 100000 in
set_option maxHeartbeats 2000000 in
theorem rapply_5_two (cv fv : Value) (x : Int) (s : S) (w : World) (h : RdS w cv fv s) (hx : s.isC x) (hr : s.room) (hi : (s.getC x).is = 2) :
    Calls Tryd.prog 10 #[.agg #[cv, fv], .agg #[.int .i64 5, .int .i64 x, .int .i64 0]] w (ApPost cv fv (some (s.send 1 x (s.getC x).wth)) w) := by
  obtain ⟨ca, cc, rfl⟩ := h.cen.shape
  obtain ⟨fa, cf, rfl⟩ := h.fl.shape
  have hne : s.cen ≠ [] := fun e => by have := h.ok.n2; rw [e] at this; simp at this
  have n4 := h.ok.n4
  have f6 := h.ok.f6
  have H := Lib.hid h
  clear h
  have x0 : 0 ≤ x := hx.1
  have xn : x < s.cen.length := hx.2
  have hr6 : (s.fl.length : Int) < 6 := by unfold S.room at hr; omega
  go_enter Tryd.func10, Tryd.ntmps10
  go_wp2_with fail
  refine (copy_any _ _ s _ (H.out.cen.fr0 (by exact (((Fr.refl [] w).alloc _).alloc _).alloc _)) (H.out.fl.fr0 (by exact (((Fr.refl [] w).alloc _).alloc _).alloc _)) H.out.ok.n4 H.out.ok.f6).mono ?_
  rintro e w1 ⟨cv', fv', rfl, hO1, hO2, hdj, hF⟩
  obtain ⟨g, cc', rfl, hgb, hgl, hcell⟩ := hO1.cons hne
  obtain ⟨fa', cf', rfl⟩ := hO2.shape
  have hz := hF.size
  simp only [World.size_alloc] at hz hgb
  have hBC := hF.at_ (alloc_at (alloc_at (alloc_new w _) _) _) (by simp)
  have hBE := hF.at_ (alloc_at (heap_alloc2_new w _ _) _) (by simp)
  have hBR := hF.at_ (alloc_newn (n := w.heap.size + 2) (by simp) _) (by simp)
  have c0 : w1.cell? ⟨w.heap.size, 0, none⟩ = some (.slice ca s.cen.length cc) := (cell_blk hBC 0).trans rfl
  have c1 : w1.cell? ⟨w.heap.size, 1, none⟩ = some (.slice fa s.fl.length cf) := (cell_blk hBC 1).trans rfl
  have e0 : w1.cell? ⟨w.heap.size + 1, 0, none⟩ = some (I (5)) := (cell_blk hBE 0).trans rfl
  have e1 : w1.cell? ⟨w.heap.size + 1, 1, none⟩ = some (I (x)) := (cell_blk hBE 1).trans rfl
  have e2 : w1.cell? ⟨w.heap.size + 1, 2, none⟩ = some (I (0)) := (cell_blk hBE 2).trans rfl
  have HF1 : Hid (Fr [] w w1) := ((((Fr.refl [] w).alloc _).alloc _).alloc _).trans hF
  have HO : Hid (OwnS w1 w.heap.size (.slice (some ⟨g, 0, none⟩) s.cen.length cc') (.slice fa' s.fl.length cf') s) := ⟨hO1.mono (by simp; omega), hO2.mono (by simp; omega), hdj⟩
  have HBR := Lib.hid hBR
  have HCELL := Lib.hid hcell
  have HDJ : Hid (g ∉ Value.blkOf (.slice fa' s.fl.length cf')) := hdj g (by simp [Value.blkOf])
  have HFL : Hid (∀ z ∈ Value.blkOf (.slice fa' s.fl.length cf'), w.heap.size + 3 ≤ z ∧ z < w1.heap.size) := fun z hz' => (by have := hO2.blk z hz'; simp at this; omega)
  have hlt2 : w.heap.size + 2 < w1.heap.size := by omega
  have hlt1 : w.heap.size + 1 < w1.heap.size := by omega
  have hlt0 : w.heap.size < w1.heap.size := by omega
  clear hO1 hO2 hdj hF hBC hBE hBR hcell
  have hxt : x.toNat < s.cen.length := by omega
  have HCX : Hid (s.cen[x.toNat]? = some (s.getC x)) := by show _ = _; simp [S.getC, List.getD, hxt]
  have HCS : Hid (encC (s.getC x) = [I (2), I (s.getC x).wth, I (s.getC x).turn]) := by show _ = _; simp [encC, hi]
  have HXC := Lib.hid hx
  have HRR := Lib.hid hr
  clear hx hr hi
  go_wp2_with (first
    | (refine wpList_ldR rfl 46 (.tmp 189) rfl encC 3 encC_len g 0 s.cen.length cc' s.cen (HO.out.cen.rd.fr0 (by exact (Fr.refl [] w1).alloc _)) x.toNat (s.getC x) HCX.out (x.toNat * 3) (by first | rfl | simp [Act.eval]) (by omega) [I (2), I (s.getC x).wth, I (s.getC x).turn] HCS.out _ Tryd.underlying46 rfl info46 ?_)
    | (go_at_call 25; refine (rsend_any (.slice (some ⟨g, 0, none⟩) s.cen.length cc') (.slice fa' s.fl.length cf') w.heap.size 1 x (s.getC x).wth s _ (by exact ⟨HO.out.cen.fr (((Fr.refl [] w1).alloc _).alloc _) (by simp), HO.out.fl.fr (((Fr.refl [] w1).alloc _).alloc _) (by simp), HO.out.dj⟩) (by simp; omega) H.out.ok HXC.out HRR.out).mono ?_; rintro e w2 ⟨fv', rfl, hS2, hF2⟩; obtain ⟨p2, m2, n2, rfl, HN2⟩ := hS2.fl.shape'; have HBR2 : Hid (w2.heap[w.heap.size + 2]? = some (.cells #[.slice none 0 0, .slice none 0 0] 31 (0, 0))) := hF2.at_ (alloc_at (alloc_at HBR.out _) _) (fun hm => (by have := HFL.out _ hm; omega)); have HS2 := Lib.hid hS2; have HF2 := Lib.hid hF2; clear hS2 hF2)
    | (refine wpList_st rfl 31 (.tmp 4) (.tmp 199) rfl (w.heap.size + 2) 0 (.agg #[.slice (some ⟨g, 0, none⟩) s.cen.length cc', .slice p2 m2 n2]) (by first | rfl | simp [Act.eval]) (by first | rfl | simp [Act.eval]) 31 _ (HBR2.out) info31 (by simp [Value.cells]) (by simp [Value.cells, Value.oneCell']) #[.slice (some ⟨g, 0, none⟩) s.cen.length cc', .slice p2 m2 n2] rfl ?_; intro w9 hF9 hB9; have HF9 := Lib.hid hF9; have HB9 := Lib.hid hB9; clear hF9 hB9))
  refine bodyPost_ret (v := .tuple #[.agg #[.slice (some ⟨g, 0, none⟩) s.cen.length cc', .slice p2 m2 n2], .bool true]) (results_cell2 rfl _ _ (w.heap.size + 2) 31 _ (0, 0) _ rfl HB9.out Tryd.underlying31 rfl info31 (.bool true) rfl) rfl ⟨(((HF1.out.alloc _).alloc _).new HF2.out (fun z hz => (by have := HFL.out z hz; omega))).new HF9.out (by simp), _, _, rfl, ⟨?_, ?_, H.out.ok.send _ _ _ HXC.out (H.out.ok.getC HXC.out).1 HRR.out⟩, (fun z hz => hz.elim (fun hz => (by rw [blkOf_slice, List.mem_singleton] at hz; omega)) (fun hz => (by first | exact (HS4.out.fl.blk z hz).1 | exact (HS2.out.fl.blk z hz).1 | (have := HBL.out z hz; simp at this; omega) | (have := HBA.out z hz; omega))))⟩
  · exact HS2.out.cen.rd.fr HF9.out (by rw [blkOf_slice]; simp; omega)
  · refine HS2.out.fl.rd.fr HF9.out (fun z hz hm => ?_)
    rw [List.mem_singleton] at hm
    subst hm
    exact rfl_absurd_blk HS2.out.fl hz HBR2.out

set_option maxRecDepth 100000 in
set_option maxHeartbeats 2000000 in
theorem rapply_5_three (cv fv : Value) (x : Int) (s : S) (w : World) (h : RdS w cv fv s) (hx : s.isC x) (hr : s.room) (hi : (s.getC x).is = 3) :
    Calls Tryd.prog 10 #[.agg #[cv, fv], .agg #[.int .i64 5, .int .i64 x, .int .i64 0]] w (ApPost cv fv (some (s.send 2 x (s.getC x).wth)) w) := by
  obtain ⟨ca, cc, rfl⟩ := h.cen.shape
  obtain ⟨fa, cf, rfl⟩ := h.fl.shape
  have hne : s.cen ≠ [] := fun e => by have := h.ok.n2; rw [e] at this; simp at this
  have n4 := h.ok.n4
  have f6 := h.ok.f6
  have H := Lib.hid h
  clear h
  have x0 : 0 ≤ x := hx.1
  have xn : x < s.cen.length := hx.2
  have hr6 : (s.fl.length : Int) < 6 := by unfold S.room at hr; omega
  go_enter Tryd.func10, Tryd.ntmps10
  go_wp2_with fail
  refine (copy_any _ _ s _ (H.out.cen.fr0 (by exact (((Fr.refl [] w).alloc _).alloc _).alloc _)) (H.out.fl.fr0 (by exact (((Fr.refl [] w).alloc _).alloc _).alloc _)) H.out.ok.n4 H.out.ok.f6).mono ?_
  rintro e w1 ⟨cv', fv', rfl, hO1, hO2, hdj, hF⟩
  obtain ⟨g, cc', rfl, hgb, hgl, hcell⟩ := hO1.cons hne
  obtain ⟨fa', cf', rfl⟩ := hO2.shape
  have hz := hF.size
  simp only [World.size_alloc] at hz hgb
  have hBC := hF.at_ (alloc_at (alloc_at (alloc_new w _) _) _) (by simp)
  have hBE := hF.at_ (alloc_at (heap_alloc2_new w _ _) _) (by simp)
  have hBR := hF.at_ (alloc_newn (n := w.heap.size + 2) (by simp) _) (by simp)
  have c0 : w1.cell? ⟨w.heap.size, 0, none⟩ = some (.slice ca s.cen.length cc) := (cell_blk hBC 0).trans rfl
  have c1 : w1.cell? ⟨w.heap.size, 1, none⟩ = some (.slice fa s.fl.length cf) := (cell_blk hBC 1).trans rfl
  have e0 : w1.cell? ⟨w.heap.size + 1, 0, none⟩ = some (I (5)) := (cell_blk hBE 0).trans rfl
  have e1 : w1.cell? ⟨w.heap.size + 1, 1, none⟩ = some (I (x)) := (cell_blk hBE 1).trans rfl
  have e2 : w1.cell? ⟨w.heap.size + 1, 2, none⟩ = some (I (0)) := (cell_blk hBE 2).trans rfl
  have HF1 : Hid (Fr [] w w1) := ((((Fr.refl [] w).alloc _).alloc _).alloc _).trans hF
  have HO : Hid (OwnS w1 w.heap.size (.slice (some ⟨g, 0, none⟩) s.cen.length cc') (.slice fa' s.fl.length cf') s) := ⟨hO1.mono (by simp; omega), hO2.mono (by simp; omega), hdj⟩
  have HBR := Lib.hid hBR
  have HCELL := Lib.hid hcell
  have HDJ : Hid (g ∉ Value.blkOf (.slice fa' s.fl.length cf')) := hdj g (by simp [Value.blkOf])
  have HFL : Hid (∀ z ∈ Value.blkOf (.slice fa' s.fl.length cf'), w.heap.size + 3 ≤ z ∧ z < w1.heap.size) := fun z hz' => (by have := hO2.blk z hz'; simp at this; omega)
  have hlt2 : w.heap.size + 2 < w1.heap.size := by omega
  have hlt1 : w.heap.size + 1 < w1.heap.size := by omega
  have hlt0 : w.heap.size < w1.heap.size := by omega
  clear hO1 hO2 hdj hF hBC hBE hBR hcell
  have hxt : x.toNat < s.cen.length := by omega
  have HCX : Hid (s.cen[x.toNat]? = some (s.getC x)) := by show _ = _; simp [S.getC, List.getD, hxt]
  have HCS : Hid (encC (s.getC x) = [I (3), I (s.getC x).wth, I (s.getC x).turn]) := by show _ = _; simp [encC, hi]
  have HXC := Lib.hid hx
  have HRR := Lib.hid hr
  clear hx hr hi
  go_wp2_with (first
    | (refine wpList_ldR rfl 46 (.tmp 189) rfl encC 3 encC_len g 0 s.cen.length cc' s.cen (HO.out.cen.rd.fr0 (by exact (Fr.refl [] w1).alloc _)) x.toNat (s.getC x) HCX.out (x.toNat * 3) (by first | rfl | simp [Act.eval]) (by omega) [I (3), I (s.getC x).wth, I (s.getC x).turn] HCS.out _ Tryd.underlying46 rfl info46 ?_)
    | (go_at_call 25; refine (rsend_any (.slice (some ⟨g, 0, none⟩) s.cen.length cc') (.slice fa' s.fl.length cf') w.heap.size 2 x (s.getC x).wth s _ (by exact ⟨HO.out.cen.fr (((Fr.refl [] w1).alloc _).alloc _) (by simp), HO.out.fl.fr (((Fr.refl [] w1).alloc _).alloc _) (by simp), HO.out.dj⟩) (by simp; omega) H.out.ok HXC.out HRR.out).mono ?_; rintro e w2 ⟨fv', rfl, hS2, hF2⟩; obtain ⟨p2, m2, n2, rfl, HN2⟩ := hS2.fl.shape'; have HBR2 : Hid (w2.heap[w.heap.size + 2]? = some (.cells #[.slice none 0 0, .slice none 0 0] 31 (0, 0))) := hF2.at_ (alloc_at (alloc_at HBR.out _) _) (fun hm => (by have := HFL.out _ hm; omega)); have HS2 := Lib.hid hS2; have HF2 := Lib.hid hF2; clear hS2 hF2)
    | (refine wpList_st rfl 31 (.tmp 4) (.tmp 208) rfl (w.heap.size + 2) 0 (.agg #[.slice (some ⟨g, 0, none⟩) s.cen.length cc', .slice p2 m2 n2]) (by first | rfl | simp [Act.eval]) (by first | rfl | simp [Act.eval]) 31 _ (HBR2.out) info31 (by simp [Value.cells]) (by simp [Value.cells, Value.oneCell']) #[.slice (some ⟨g, 0, none⟩) s.cen.length cc', .slice p2 m2 n2] rfl ?_; intro w9 hF9 hB9; have HF9 := Lib.hid hF9; have HB9 := Lib.hid hB9; clear hF9 hB9))
  refine bodyPost_ret (v := .tuple #[.agg #[.slice (some ⟨g, 0, none⟩) s.cen.length cc', .slice p2 m2 n2], .bool true]) (results_cell2 rfl _ _ (w.heap.size + 2) 31 _ (0, 0) _ rfl HB9.out Tryd.underlying31 rfl info31 (.bool true) rfl) rfl ⟨(((HF1.out.alloc _).alloc _).new HF2.out (fun z hz => (by have := HFL.out z hz; omega))).new HF9.out (by simp), _, _, rfl, ⟨?_, ?_, H.out.ok.send _ _ _ HXC.out (H.out.ok.getC HXC.out).1 HRR.out⟩, (fun z hz => hz.elim (fun hz => (by rw [blkOf_slice, List.mem_singleton] at hz; omega)) (fun hz => (by first | exact (HS4.out.fl.blk z hz).1 | exact (HS2.out.fl.blk z hz).1 | (have := HBL.out z hz; simp at this; omega) | (have := HBA.out z hz; omega))))⟩
  · exact HS2.out.cen.rd.fr HF9.out (by rw [blkOf_slice]; simp; omega)
  · refine HS2.out.fl.rd.fr HF9.out (fun z hz hm => ?_)
    rw [List.mem_singleton] at hm
    subst hm
    exact rfl_absurd_blk HS2.out.fl hz HBR2.out

set_option maxRecDepth 100000 in
set_option maxHeartbeats 2000000 in
theorem rapply_5_none (cv fv : Value) (x : Int) (s : S) (w : World) (h : RdS w cv fv s) (hx : s.isC x) (hr : s.room) (i2 : ((s.getC x).is == 2) = false) (i3 : ((s.getC x).is == 3) = false) :
    Calls Tryd.prog 10 #[.agg #[cv, fv], .agg #[.int .i64 5, .int .i64 x, .int .i64 0]] w (ApPost cv fv (none) w) := by
  obtain ⟨ca, cc, rfl⟩ := h.cen.shape
  obtain ⟨fa, cf, rfl⟩ := h.fl.shape
  have hne : s.cen ≠ [] := fun e => by have := h.ok.n2; rw [e] at this; simp at this
  have n4 := h.ok.n4
  have f6 := h.ok.f6
  have H := Lib.hid h
  clear h
  have x0 : 0 ≤ x := hx.1
  have xn : x < s.cen.length := hx.2
  have hr6 : (s.fl.length : Int) < 6 := by unfold S.room at hr; omega
  go_enter Tryd.func10, Tryd.ntmps10
  go_wp2_with fail
  refine (copy_any _ _ s _ (H.out.cen.fr0 (by exact (((Fr.refl [] w).alloc _).alloc _).alloc _)) (H.out.fl.fr0 (by exact (((Fr.refl [] w).alloc _).alloc _).alloc _)) H.out.ok.n4 H.out.ok.f6).mono ?_
  rintro e w1 ⟨cv', fv', rfl, hO1, hO2, hdj, hF⟩
  obtain ⟨g, cc', rfl, hgb, hgl, hcell⟩ := hO1.cons hne
  obtain ⟨fa', cf', rfl⟩ := hO2.shape
  have hz := hF.size
  simp only [World.size_alloc] at hz hgb
  have hBC := hF.at_ (alloc_at (alloc_at (alloc_new w _) _) _) (by simp)
  have hBE := hF.at_ (alloc_at (heap_alloc2_new w _ _) _) (by simp)
  have hBR := hF.at_ (alloc_newn (n := w.heap.size + 2) (by simp) _) (by simp)
  have c0 : w1.cell? ⟨w.heap.size, 0, none⟩ = some (.slice ca s.cen.length cc) := (cell_blk hBC 0).trans rfl
  have c1 : w1.cell? ⟨w.heap.size, 1, none⟩ = some (.slice fa s.fl.length cf) := (cell_blk hBC 1).trans rfl
  have e0 : w1.cell? ⟨w.heap.size + 1, 0, none⟩ = some (I (5)) := (cell_blk hBE 0).trans rfl
  have e1 : w1.cell? ⟨w.heap.size + 1, 1, none⟩ = some (I (x)) := (cell_blk hBE 1).trans rfl
  have e2 : w1.cell? ⟨w.heap.size + 1, 2, none⟩ = some (I (0)) := (cell_blk hBE 2).trans rfl
  have HF1 : Hid (Fr [] w w1) := ((((Fr.refl [] w).alloc _).alloc _).alloc _).trans hF
  have HO : Hid (OwnS w1 w.heap.size (.slice (some ⟨g, 0, none⟩) s.cen.length cc') (.slice fa' s.fl.length cf') s) := ⟨hO1.mono (by simp; omega), hO2.mono (by simp; omega), hdj⟩
  have HBR := Lib.hid hBR
  have HCELL := Lib.hid hcell
  have HDJ : Hid (g ∉ Value.blkOf (.slice fa' s.fl.length cf')) := hdj g (by simp [Value.blkOf])
  have HFL : Hid (∀ z ∈ Value.blkOf (.slice fa' s.fl.length cf'), w.heap.size + 3 ≤ z ∧ z < w1.heap.size) := fun z hz' => (by have := hO2.blk z hz'; simp at this; omega)
  have hlt2 : w.heap.size + 2 < w1.heap.size := by omega
  have hlt1 : w.heap.size + 1 < w1.heap.size := by omega
  have hlt0 : w.heap.size < w1.heap.size := by omega
  clear hO1 hO2 hdj hF hBC hBE hBR hcell
  have hxt : x.toNat < s.cen.length := by omega
  have HCX : Hid (s.cen[x.toNat]? = some (s.getC x)) := by show _ = _; simp [S.getC, List.getD, hxt]
  have HCS : Hid (encC (s.getC x) = [I ((s.getC x).is), I (s.getC x).wth, I (s.getC x).turn]) := by show _ = _; simp [encC]
  have HXC := Lib.hid hx
  have HRR := Lib.hid hr
  clear hx hr
  go_wp2_with (first
    | (refine wpList_ldR rfl 46 (.tmp 189) rfl encC 3 encC_len g 0 s.cen.length cc' s.cen (HO.out.cen.rd.fr0 (by exact (Fr.refl [] w1).alloc _)) x.toNat (s.getC x) HCX.out (x.toNat * 3) (by first | rfl | simp [Act.eval]) (by omega) [I ((s.getC x).is), I (s.getC x).wth, I (s.getC x).turn] HCS.out _ Tryd.underlying46 rfl info46 ?_)
    | (refine wpList_st rfl 31 (.tmp 4) (.tmp 209) rfl (w.heap.size + 2) 0 (.agg #[.slice ca s.cen.length cc, .slice fa s.fl.length cf]) (by first | rfl | simp [Act.eval]) (by first | rfl | simp [Act.eval]) 31 _ (alloc_at (alloc_at HBR.out _) _) info31 (by simp [Value.cells]) (by simp [Value.cells, Value.oneCell']) #[.slice ca s.cen.length cc, .slice fa s.fl.length cf] rfl ?_; intro w9 hF9 hB9; have HF9 := Lib.hid hF9; have HB9 := Lib.hid hB9; clear hF9 hB9))
  exact bodyPost_ret (v := .tuple #[.agg #[.slice ca s.cen.length cc, .slice fa s.fl.length cf], .bool false]) (results_cell2 rfl _ _ (w.heap.size + 2) 31 _ (0, 0) _ rfl HB9.out Tryd.underlying31 rfl info31 (.bool false) rfl) rfl ⟨((HF1.out.alloc _).alloc _).new HF9.out (by simp), rfl⟩

set_option maxRecDepth 100000 in
set_option maxHeartbeats 2000000 in
theorem rapply_1_yes (cv fv : Value) (x y : Int) (s : S) (w : World) (h : RdS w cv fv s) (hx : s.isC x) (hy : s.isC y) (xy : (y == x) = false) (hr : s.room) (hi : (s.getC x).is = 1) (ht : (s.getC x).turn < 9) :
    Calls Tryd.prog 10 #[.agg #[cv, fv], .agg #[.int .i64 1, .int .i64 x, .int .i64 y]] w (ApPost cv fv (some ((s.setC x ⟨2, y, (s.getC x).turn + 1⟩).send 1 x y)) w) := by
  obtain ⟨ca, cc, rfl⟩ := h.cen.shape
  obtain ⟨fa, cf, rfl⟩ := h.fl.shape
  have hne : s.cen ≠ [] := fun e => by have := h.ok.n2; rw [e] at this; simp at this
  have n4 := h.ok.n4
  have f6 := h.ok.f6
  have H := Lib.hid h
  clear h
  have x0 : 0 ≤ x := hx.1
  have xn : x < s.cen.length := hx.2
  have y0 : 0 ≤ y := hy.1
  have yn : y < s.cen.length := hy.2
  have hr6 : (s.fl.length : Int) < 6 := by unfold S.room at hr; omega
  have t0 : 0 ≤ (s.getC x).turn := (H.out.ok.getC hx).2.1
  go_enter Tryd.func10, Tryd.ntmps10
  go_wp2_with fail
  refine (copy_any _ _ s _ (H.out.cen.fr0 (by exact (((Fr.refl [] w).alloc _).alloc _).alloc _)) (H.out.fl.fr0 (by exact (((Fr.refl [] w).alloc _).alloc _).alloc _)) H.out.ok.n4 H.out.ok.f6).mono ?_
  rintro e w1 ⟨cv', fv', rfl, hO1, hO2, hdj, hF⟩
  obtain ⟨g, cc', rfl, hgb, hgl, hcell⟩ := hO1.cons hne
  obtain ⟨fa', cf', rfl⟩ := hO2.shape
  have hz := hF.size
  simp only [World.size_alloc] at hz hgb
  have hBC := hF.at_ (alloc_at (alloc_at (alloc_new w _) _) _) (by simp)
  have hBE := hF.at_ (alloc_at (heap_alloc2_new w _ _) _) (by simp)
  have hBR := hF.at_ (alloc_newn (n := w.heap.size + 2) (by simp) _) (by simp)
  have c0 : w1.cell? ⟨w.heap.size, 0, none⟩ = some (.slice ca s.cen.length cc) := (cell_blk hBC 0).trans rfl
  have c1 : w1.cell? ⟨w.heap.size, 1, none⟩ = some (.slice fa s.fl.length cf) := (cell_blk hBC 1).trans rfl
  have e0 : w1.cell? ⟨w.heap.size + 1, 0, none⟩ = some (I (1)) := (cell_blk hBE 0).trans rfl
  have e1 : w1.cell? ⟨w.heap.size + 1, 1, none⟩ = some (I (x)) := (cell_blk hBE 1).trans rfl
  have e2 : w1.cell? ⟨w.heap.size + 1, 2, none⟩ = some (I (y)) := (cell_blk hBE 2).trans rfl
  have HF1 : Hid (Fr [] w w1) := ((((Fr.refl [] w).alloc _).alloc _).alloc _).trans hF
  have HO : Hid (OwnS w1 w.heap.size (.slice (some ⟨g, 0, none⟩) s.cen.length cc') (.slice fa' s.fl.length cf') s) := ⟨hO1.mono (by simp; omega), hO2.mono (by simp; omega), hdj⟩
  have HBR := Lib.hid hBR
  have HCELL := Lib.hid hcell
  have HDJ : Hid (g ∉ Value.blkOf (.slice fa' s.fl.length cf')) := hdj g (by simp [Value.blkOf])
  have HFL : Hid (∀ z ∈ Value.blkOf (.slice fa' s.fl.length cf'), w.heap.size + 3 ≤ z ∧ z < w1.heap.size) := fun z hz' => (by have := hO2.blk z hz'; simp at this; omega)
  have hlt2 : w.heap.size + 2 < w1.heap.size := by omega
  have hlt1 : w.heap.size + 1 < w1.heap.size := by omega
  have hlt0 : w.heap.size < w1.heap.size := by omega
  clear hO1 hO2 hdj hF hBC hBE hBR hcell
  have hxt : (x).toNat < s.cen.length := by omega
  have ci : w1.cell? ⟨g, (x).toNat * 3, none⟩ = some (I (s.getC x).is) := HCELL.out _ _ ((flat_at encC_len s.cen (x).toNat 0 (s.getC x) (by simp [S.getC, List.getD, hxt]) (by omega)).trans rfl)
  have ct : w1.cell? ⟨g, (x).toNat * 3 + 2, none⟩ = some (I (s.getC x).turn) := HCELL.out _ _ ((flat_at encC_len s.cen (x).toNat 2 (s.getC x) (by simp [S.getC, List.getD, hxt]) (by omega)).trans rfl)
  have ci1 : w1.cell? ⟨g, x.toNat * 3, none⟩ = some (I 1) := by rw [ci, hi]
  clear ci hi
  have HXC : Hid (s.isC x ∧ s.isC y) := ⟨hx, hy⟩
  have HRR := Lib.hid hr
  have HOK : Hid (Ok (s.setC x ⟨2, y, (s.getC x).turn + 1⟩)) := H.out.ok.setC x ⟨2, y, (s.getC x).turn + 1⟩ ⟨hy, by simp; omega, by simp; omega⟩
  clear hx hy hr
  go_wp2
  have hw : IntKind.i64.wrap ((s.getC x).turn + 1) = (s.getC x).turn + 1 := IntWalk.i64_in _ (by omega)
  refine wp_forget (fun W => Fr [] w1 W ∧ W.heap[w1.heap.size]? = some (.cells #[.slice (some ⟨g, 0, none⟩) s.cen.length cc', .slice fa' s.fl.length cf'] 31 (0, 0))) ⟨(Fr.refl _ _).alloc _, alloc_new _ _⟩ ?_
  rintro W ⟨hFW, hBW⟩
  have u0 : W.cell? ⟨w1.heap.size, 0, none⟩ = some (.slice (some ⟨g, 0, none⟩) s.cen.length cc') := (cell_blk hBW 0).trans rfl
  have u1 : W.cell? ⟨w.heap.size + 1, 1, none⟩ = some (I x) := (World.cell?_of_block (a := ⟨w.heap.size + 1, 1, none⟩) (hFW.block (w.heap.size + 1) (by omega) (by simp))).trans e1
  have u2 : W.cell? ⟨w.heap.size + 1, 2, none⟩ = some (I y) := (World.cell?_of_block (a := ⟨w.heap.size + 1, 2, none⟩) (hFW.block (w.heap.size + 1) (by omega) (by simp))).trans e2
  have ut : W.cell? ⟨g, x.toNat * 3 + 2, none⟩ = some (I (s.getC x).turn) := (World.cell?_of_block (a := ⟨g, x.toNat * 3 + 2, none⟩) (hFW.block g hgl (by simp))).trans ct
  have HFW := Lib.hid hFW
  have HBW := Lib.hid hBW
  clear hFW hBW
  go_still_tail 16, (by kernel_rfl)
  clear hw
  refine wpList_stO rfl 46 (.tmp 112) (.tmp 111) rfl g (x.toNat * 3) (.agg #[I 2, I y, I ((s.getC x).turn + 1)]) (by first | rfl | simp [Act.eval]) (by first | rfl | simp [Act.eval]) w.heap.size 46 3 encC s.cen.length cc' s.cen (HO.out.cen.fr (by exact HFW.out.drew) (by simp)) info46 (by rw [flat_len encC_len]; simp [Value.cells]; omega) (by simp [Value.cells, Value.oneCell']) (s.cen.set x.toNat ⟨2, y, (s.getC x).turn + 1⟩) (by simp) (set_splice encC_len s.cen x.toNat (by omega) ⟨2, y, (s.getC x).turn + 1⟩) ?_
  intro w2 hF2 hO2
  have HB62 : Hid (w2.heap[w1.heap.size]? = some (.cells #[.slice (some ⟨g, 0, none⟩) s.cen.length cc', .slice fa' s.fl.length cf'] 31 (0, 0))) := hF2.at_ HBW.out (by simp; omega)
  have HBR2 : Hid (w2.heap[w.heap.size + 2]? = some (.cells #[.slice none 0 0, .slice none 0 0] 31 (0, 0))) := hF2.at_ (HFW.out.at_ HBR.out (by simp)) (by simp; omega)
  have F12 : Hid (Fr [g] w1 w2) := HFW.out.of_nil.trans hF2.undrew
  have k0 : w2.cell? ⟨w1.heap.size, 0, none⟩ = some (.slice (some ⟨g, 0, none⟩) s.cen.length cc') := (cell_blk HB62.out 0).trans rfl
  have k1 : w2.cell? ⟨w1.heap.size, 1, none⟩ = some (.slice fa' s.fl.length cf') := (cell_blk HB62.out 1).trans rfl
  have l1 : w2.cell? ⟨w.heap.size + 1, 1, none⟩ = some (I x) := (World.cell?_of_block (a := ⟨w.heap.size + 1, 1, none⟩) (F12.out.block (w.heap.size + 1) (by omega) (by simp; omega))).trans e1
  have l2 : w2.cell? ⟨w.heap.size + 1, 2, none⟩ = some (I y) := (World.cell?_of_block (a := ⟨w.heap.size + 1, 2, none⟩) (F12.out.block (w.heap.size + 1) (by omega) (by simp; omega))).trans e2
  have HO2 := Lib.hid hO2
  have HF2 := Lib.hid hF2
  clear hO2 hF2 ct ci1 e0 e1 e2 c0 c1 u0 u1 u2 ut
  go_wp2_with (first
    | (go_at_call 25; refine (rsend_any (.slice (some ⟨g, 0, none⟩) s.cen.length cc') (.slice fa' s.fl.length cf') w.heap.size 1 x y (s.setC x ⟨2, y, (s.getC x).turn + 1⟩) _ (by exact ⟨HO2.out, HO.out.fl.fr F12.out (fun z hz hm => (by rw [List.mem_singleton] at hm; subst hm; exact HDJ.out hz)), HO.out.dj⟩) (by have := F12.out.size; omega) HOK.out ((isC_setC _ _ _ _).2 HXC.out.1) HRR.out).mono ?_; rintro e w4 ⟨fv', rfl, hS4, hF4⟩; obtain ⟨p4, m4, n4, rfl, HN4⟩ := hS4.fl.shape'; have HBR4 : Hid (w4.heap[w.heap.size + 2]? = some (.cells #[.slice none 0 0, .slice none 0 0] 31 (0, 0))) := hF4.at_ HBR2.out (fun hm => (by have := HFL.out _ hm; omega)); have HS4 := Lib.hid hS4; have HF4 := Lib.hid hF4; clear hS4 hF4)
    | (refine wpList_st rfl 31 (.tmp 4) (.tmp 118) rfl (w.heap.size + 2) 0 (.agg #[.slice (some ⟨g, 0, none⟩) s.cen.length cc', .slice p4 m4 n4]) (by first | rfl | simp [Act.eval]) (by first | rfl | simp [Act.eval]) 31 _ (HBR4.out) info31 (by simp [Value.cells]) (by simp [Value.cells, Value.oneCell']) #[.slice (some ⟨g, 0, none⟩) s.cen.length cc', .slice p4 m4 n4] rfl ?_; intro w9 hF9 hB9; have HF9 := Lib.hid hF9; have HB9 := Lib.hid hB9; clear hF9 hB9))
  refine bodyPost_ret (v := .tuple #[.agg #[.slice (some ⟨g, 0, none⟩) s.cen.length cc', .slice p4 m4 n4], .bool true]) (results_cell2 rfl _ _ (w.heap.size + 2) 31 _ (0, 0) _ rfl HB9.out Tryd.underlying31 rfl info31 (.bool true) rfl) rfl ⟨((HF1.out.new F12.out (by simp; omega)).new HF4.out (fun z hz => (by have := HFL.out z hz; omega))).new HF9.out (by simp), _, _, rfl, ⟨?_, ?_, HOK.out.send _ _ _ ((isC_setC _ _ _ _).2 HXC.out.1) ((isC_setC _ _ _ _).2 HXC.out.2) HRR.out⟩, (fun z hz => hz.elim (fun hz => (by rw [blkOf_slice, List.mem_singleton] at hz; omega)) (fun hz => (by first | exact (HS4.out.fl.blk z hz).1 | exact (HS2.out.fl.blk z hz).1 | (have := HBL.out z hz; simp at this; omega) | (have := HBA.out z hz; omega))))⟩
  · exact HS4.out.cen.rd.fr HF9.out (by rw [blkOf_slice]; simp; omega)
  · refine HS4.out.fl.rd.fr HF9.out (fun z hz hm => ?_)
    rw [List.mem_singleton] at hm
    subst hm
    exact rfl_absurd_blk HS4.out.fl hz HBR4.out

set_option maxRecDepth 100000 in
set_option maxHeartbeats 2000000 in
theorem rapply_4_yes (cv fv : Value) (n : Nat) (s : S) (w : World) (h : RdS w cv fv s) (hxn : n < s.fl.length) (hr : s.room) :
    Calls Tryd.prog 10 #[.agg #[cv, fv], .agg #[.int .i64 4, .int .i64 ((n : Nat) : Int), .int .i64 0]] w (ApPost cv fv (some ({ s with fl := s.fl ++ [s.msg n] } : S)) w) := by
  obtain ⟨ca, cc, rfl⟩ := h.cen.shape
  obtain ⟨fa, cf, rfl⟩ := h.fl.shape
  have hne : s.cen ≠ [] := fun e => by have := h.ok.n2; rw [e] at this; simp at this
  have n4 := h.ok.n4
  have f6 := h.ok.f6
  have H := Lib.hid h
  clear h
  go_enter Tryd.func10, Tryd.ntmps10
  go_wp2_with fail
  refine (copy_any _ _ s _ (H.out.cen.fr0 (by exact (((Fr.refl [] w).alloc _).alloc _).alloc _)) (H.out.fl.fr0 (by exact (((Fr.refl [] w).alloc _).alloc _).alloc _)) H.out.ok.n4 H.out.ok.f6).mono ?_
  rintro e w1 ⟨cv', fv', rfl, hO1, hO2, hdj, hF⟩
  obtain ⟨g, cc', rfl, hgb, hgl, hcell⟩ := hO1.cons hne
  obtain ⟨fa', cf', rfl⟩ := hO2.shape
  have hz := hF.size
  simp only [World.size_alloc] at hz hgb
  have hBC := hF.at_ (alloc_at (alloc_at (alloc_new w _) _) _) (by simp)
  have hBE := hF.at_ (alloc_at (heap_alloc2_new w _ _) _) (by simp)
  have hBR := hF.at_ (alloc_newn (n := w.heap.size + 2) (by simp) _) (by simp)
  have c0 : w1.cell? ⟨w.heap.size, 0, none⟩ = some (.slice ca s.cen.length cc) := (cell_blk hBC 0).trans rfl
  have c1 : w1.cell? ⟨w.heap.size, 1, none⟩ = some (.slice fa s.fl.length cf) := (cell_blk hBC 1).trans rfl
  have e0 : w1.cell? ⟨w.heap.size + 1, 0, none⟩ = some (I (4)) := (cell_blk hBE 0).trans rfl
  have e1 : w1.cell? ⟨w.heap.size + 1, 1, none⟩ = some (I (n)) := (cell_blk hBE 1).trans rfl
  have e2 : w1.cell? ⟨w.heap.size + 1, 2, none⟩ = some (I (0)) := (cell_blk hBE 2).trans rfl
  have HF1 : Hid (Fr [] w w1) := ((((Fr.refl [] w).alloc _).alloc _).alloc _).trans hF
  have HO : Hid (OwnS w1 w.heap.size (.slice (some ⟨g, 0, none⟩) s.cen.length cc') (.slice fa' s.fl.length cf') s) := ⟨hO1.mono (by simp; omega), hO2.mono (by simp; omega), hdj⟩
  have HBR := Lib.hid hBR
  have HCELL := Lib.hid hcell
  have HDJ : Hid (g ∉ Value.blkOf (.slice fa' s.fl.length cf')) := hdj g (by simp [Value.blkOf])
  have HFL : Hid (∀ z ∈ Value.blkOf (.slice fa' s.fl.length cf'), w.heap.size + 3 ≤ z ∧ z < w1.heap.size) := fun z hz' => (by have := hO2.blk z hz'; simp at this; omega)
  have hlt2 : w.heap.size + 2 < w1.heap.size := by omega
  have hlt1 : w.heap.size + 1 < w1.heap.size := by omega
  have hlt0 : w.heap.size < w1.heap.size := by omega
  clear hO1 hO2 hdj hF hBC hBE hBR hcell
  have hxi : (n : Int) < s.fl.length := by omega
  have hr6 : (s.fl.length : Int) < 6 := by unfold S.room at hr; omega
  have hmsg : s.fl[n]? = some (s.msg n) := by simp [S.msg, List.getD, hxn]
  have HOK : Hid (Ok ({ s with fl := s.fl ++ [s.msg n] } : S)) := Ok.app (s := s) (e := ⟨4, n, 0⟩) H.out.ok (by simp [S.app, hxn, hr])
  obtain ⟨gf, hgf, hfc, hgfl, HFC⟩ : ∃ gf, fa' = some ⟨gf, 0, none⟩ ∧ w.heap.size + 3 ≤ gf ∧ gf < w1.heap.size ∧ Hid (∀ j u, (s.fl.flatMap encM)[j]? = some u → w1.cell? ⟨gf, j, none⟩ = some u) := by
    obtain ⟨g2, c2, h2, hb2, hl2, hc2⟩ := HO.out.fl.cons (fun e => by rw [e] at hxn; simp at hxn)
    simp only [Value.slice.injEq] at h2
    refine ⟨g2, h2.1, ?_, hl2, hc2⟩
    exact (HFL.out g2 (by rw [h2.1]; simp [Value.blkOf])).1
  subst hgf
  have g0 : w1.cell? ⟨gf, n * 4, none⟩ = some (I (s.msg n).kind) := HFC.out _ _ ((flat_at encM_len s.fl n 0 (s.msg n) hmsg (by omega)).trans rfl)
  have g1 : w1.cell? ⟨gf, n * 4 + 1, none⟩ = some (I (s.msg n).frm) := HFC.out _ _ ((flat_at encM_len s.fl n 1 (s.msg n) hmsg (by omega)).trans rfl)
  have g2 : w1.cell? ⟨gf, n * 4 + 2, none⟩ = some (I (s.msg n).to) := HFC.out _ _ ((flat_at encM_len s.fl n 2 (s.msg n) hmsg (by omega)).trans rfl)
  have g3 : w1.cell? ⟨gf, n * 4 + 3, none⟩ = some (I (s.msg n).turn) := HFC.out _ _ ((flat_at encM_len s.fl n 3 (s.msg n) hmsg (by omega)).trans rfl)
  clear hmsg
  go_wp2
  go_region_law (first
    | (refine step_apd rfl (.tmp 163) (.tmp 170) 29 rfl w.heap.size 55 _ 4 32 encM Tryd.underlying29 info55z rfl (by decide) encM_len oneM (.slice (some ⟨gf, 0, none⟩) s.fl.length cf') s.fl rfl (HO.out.fl.fr (by exact (((Fr.refl [] w1).alloc _).alloc _).drew) (by simp)) (.slice (some ⟨_, 0, none⟩) 1 1) [s.msg n] rfl ((Rd.of_blk (cap := 1) (f := encM) (l := [s.msg n]) (heap_alloc2_new w1 _ (.cells #[I (s.msg n).kind, I (s.msg n).frm, I (s.msg n).to, I (s.msg n).turn] 55)) rfl (by simp) (by simp [maxLen])).fr0 ((Fr.refl [] _).drew)) (by decide) (by simp; omega) (by simp; omega) ?_; intro v3 w3 hA; have BA := hA.blk; simp only [blkOf_slice, List.mem_singleton] at BA; (try simp only [World.size_alloc] at BA); (try simp only [World.size_drew] at BA); (try simp only [World.size_alloc] at BA); have hFA : Fr [gf] w1 w3 := ((((Fr.refl _ w1).alloc _).alloc _).drew.trans hA.fr); have HB63 : Hid (w3.heap[w1.heap.size]? = some (.cells #[.slice (some ⟨g, 0, none⟩) s.cen.length cc', .slice (some ⟨gf, 0, none⟩) s.fl.length cf'] 31 (0, 0))) := hA.fr.at_ (alloc_at (alloc_new w1 _) _) (by simp [blkOf_slice]; omega); have HBR3 : Hid (w3.heap[w.heap.size + 2]? = some (.cells #[.slice none 0 0, .slice none 0 0] 31 (0, 0))) := hFA.at_ HBR.out (by simp; omega); have y1 : w3.cell? ⟨w1.heap.size, 1, none⟩ = some (.slice (some ⟨gf, 0, none⟩) s.fl.length cf') := (cell_blk HB63.out 1).trans rfl; have q1 : w3.frozen? ⟨w1.heap.size, 1, none⟩ = false := frozen_blk HB63.out 1; have HFA := Lib.hid hFA; have HOA := Lib.hid hA.own; have HBA := Lib.hid BA; have HAB := Lib.hid (hA.own.blk); obtain ⟨p3, m3, n3, rfl, HN3⟩ := hA.own.shape'; clear hA BA hFA))
  all_goals
    refine then_forget (fun W2 => Fr [w1.heap.size] w3 W2 ∧ W2.heap[w1.heap.size]? = some (.cells #[.slice (some ⟨g, 0, none⟩) s.cen.length cc', .slice p3 m3 n3] 31 (0, 0))) ⟨(Fr.refl _ _).setCell _ _ (by simp), heap_setCell_same _ w1.heap.size 1 _ 31 (.slice p3 m3 n3) HB63.out⟩ ?_
    rintro W2 ⟨hF2, hX2⟩
    have HBR5 : Hid (W2.heap[w.heap.size + 2]? = some (.cells #[.slice none 0 0, .slice none 0 0] 31 (0, 0))) := hF2.at_ HBR3.out (by simp; omega)
    have z0 : W2.cell? ⟨w1.heap.size, 0, none⟩ = some (.slice (some ⟨g, 0, none⟩) s.cen.length cc') := by rw [cell_blk hX2]; rfl
    have z1 : W2.cell? ⟨w1.heap.size, 1, none⟩ = some (.slice p3 m3 n3) := by rw [cell_blk hX2]; rfl
    have HF2 := Lib.hid hF2
    clear hF2 hX2 y1 q1 g0 g1 g2 g3 e0 e1 e2 c0 c1
    go_wp2_with (first
      | (refine wpList_st rfl 31 (.tmp 4) (.tmp 173) rfl (w.heap.size + 2) 0 (.agg #[.slice (some ⟨g, 0, none⟩) s.cen.length cc', .slice p3 m3 n3]) (by first | rfl | simp [Act.eval]) (by first | rfl | simp [Act.eval]) 31 _ (HBR5.out) info31 (by simp [Value.cells]) (by simp [Value.cells, Value.oneCell']) #[.slice (some ⟨g, 0, none⟩) s.cen.length cc', .slice p3 m3 n3] rfl ?_; intro w9 hF9 hB9; have HF9 := Lib.hid hF9; have HB9 := Lib.hid hB9; clear hF9 hB9))
    refine bodyPost_ret (v := .tuple #[.agg #[.slice (some ⟨g, 0, none⟩) s.cen.length cc', .slice p3 m3 n3], .bool true]) (results_cell2 rfl _ _ (w.heap.size + 2) 31 _ (0, 0) _ rfl HB9.out Tryd.underlying31 rfl info31 (.bool true) rfl) rfl ⟨((HF1.out.new HFA.out (by simp; omega)).new HF2.out (by simp; omega)).new HF9.out (by simp), _, _, rfl, ⟨?_, ?_, HOK.out⟩, (fun z hz => hz.elim (fun hz => (by rw [blkOf_slice, List.mem_singleton] at hz; omega)) (fun hz => (by first | exact (HS4.out.fl.blk z hz).1 | exact (HS2.out.fl.blk z hz).1 | (have := HBL.out z hz; simp at this; omega) | (have := HBA.out z hz; omega))))⟩
    · have hg : g ≠ gf := fun e => HDJ.out (by rw [e]; simp [Value.blkOf])
      exact ((HO.out.cen.rd.fr HFA.out (by rw [blkOf_slice]; simpa using hg)).fr HF2.out (by rw [blkOf_slice]; simp; omega)).fr HF9.out (by rw [blkOf_slice]; simp; omega)
    · refine (HOA.out.rd.fr HF2.out (fun z hz hm => ?_)).fr HF9.out (fun z hz hm => ?_)
      · have := HBA.out z hz; rw [List.mem_singleton] at hm; omega
      · have := HBA.out z hz; rw [List.mem_singleton] at hm; omega

end Go.Proofs.YtklnbcofmhlkdaaDoor
