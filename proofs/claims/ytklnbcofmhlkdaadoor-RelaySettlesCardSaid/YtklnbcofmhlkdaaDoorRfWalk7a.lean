/- cobleref10.Apply: what is possible. Printed by gen_rapply2.py -/
import Derived.Test.YtklnbcofmhlkdaaDoorRfB
import Derived.Test.YtklnbcofmhlkdaaDoorRfWalk4
set_option linter.unusedVariables false
set_option linter.unusedSimpArgs false
namespace Go.Proofs.YtklnbcofmhlkdaaDoor
open Go.RowKit Rl

theorem info29 : (Tryd.prog.info? 29).map (·.size) = some 1 := by kernel_rfl

set_option maxRecDepth 100000 in
set_option maxHeartbeats 2000000 in
theorem rapply_3_yes (cv fv : Value) (n : Nat) (s : S) (w : World) (h : RdS w cv fv s) (hxn : n < s.fl.length) :
    Calls Tryd.prog 10 #[.agg #[cv, fv], .agg #[.int .i64 3, .int .i64 ((n : Nat) : Int), .int .i64 0]] w (ApPost cv fv (some (s.drop n)) w) := by
  obtain ⟨ca, cc, rfl⟩ := h.cen.shape
  obtain ⟨fa, cf, rfl⟩ := h.fl.shape
  have hne : s.cen ≠ [] := fun e => by have := h.ok.n2; rw [e] at this; simp at this
  have n4 := h.ok.n4
  have f6 := h.ok.f6
  have H := Lib.hid h
  clear h
  go_enter Tryd.func10, Tryd.ntmps10
  go_wp2_with fail
  refine (copy_any _ _ s _ (H.out.cen.fr0 (by exact (((Fr.refl [] w).alloc _).alloc _).alloc _)) (H.out.fl.fr0 (by exact (((Fr.refl [] w).alloc _).alloc _).alloc _)) H.out.ok.n4 H.out.ok.f6).mono ?_
  rintro e w1 ⟨cv', fv', rfl, hO1, hO2, hdj, hF⟩
  obtain ⟨g, cc', rfl, hgb, hgl, hcell⟩ := hO1.cons hne
  obtain ⟨fa', cf', rfl⟩ := hO2.shape
  have hz := hF.size
  simp only [World.size_alloc] at hz hgb
  have hBC := hF.at_ (alloc_at (alloc_at (alloc_new w _) _) _) (by simp)
  have hBE := hF.at_ (alloc_at (heap_alloc2_new w _ _) _) (by simp)
  have hBR := hF.at_ (alloc_newn (n := w.heap.size + 2) (by simp) _) (by simp)
  have c0 : w1.cell? ⟨w.heap.size, 0, none⟩ = some (.slice ca s.cen.length cc) := (cell_blk hBC 0).trans rfl
  have c1 : w1.cell? ⟨w.heap.size, 1, none⟩ = some (.slice fa s.fl.length cf) := (cell_blk hBC 1).trans rfl
  have e0 : w1.cell? ⟨w.heap.size + 1, 0, none⟩ = some (I (3)) := (cell_blk hBE 0).trans rfl
  have e1 : w1.cell? ⟨w.heap.size + 1, 1, none⟩ = some (I (n)) := (cell_blk hBE 1).trans rfl
  have e2 : w1.cell? ⟨w.heap.size + 1, 2, none⟩ = some (I (0)) := (cell_blk hBE 2).trans rfl
  have HF1 : Hid (Fr [] w w1) := ((((Fr.refl [] w).alloc _).alloc _).alloc _).trans hF
  have HO : Hid (OwnS w1 w.heap.size (.slice (some ⟨g, 0, none⟩) s.cen.length cc') (.slice fa' s.fl.length cf') s) := ⟨hO1.mono (by simp; omega), hO2.mono (by simp; omega), hdj⟩
  have HBR := Lib.hid hBR
  have HCELL := Lib.hid hcell
  have HDJ : Hid (g ∉ Value.blkOf (.slice fa' s.fl.length cf')) := hdj g (by simp [Value.blkOf])
  have HFL : Hid (∀ z ∈ Value.blkOf (.slice fa' s.fl.length cf'), w.heap.size + 3 ≤ z ∧ z < w1.heap.size) := fun z hz' => (by have := hO2.blk z hz'; simp at this; omega)
  have hlt2 : w.heap.size + 2 < w1.heap.size := by omega
  have hlt1 : w.heap.size + 1 < w1.heap.size := by omega
  have hlt0 : w.heap.size < w1.heap.size := by omega
  clear hO1 hO2 hdj hF hBC hBE hBR hcell
  have hxi : (n : Int) < s.fl.length := by omega
  go_wp2_with (first
    | (go_at_call 26; refine (without_any (.slice fa' s.fl.length cf') s.fl n _ (by exact (HO.out.fl.rd.fr0 ((Fr.refl [] w1).alloc _))) (by omega) (by omega)).mono ?_; rintro e w2 ⟨fv2, rfl, hO2, hF2⟩; obtain ⟨p2, m2, n2, rfl, HN2⟩ := hO2.shape'; have HB62 : Hid (w2.heap[w1.heap.size]? = some (.cells #[.slice (some ⟨g, 0, none⟩) s.cen.length cc', .slice fa' s.fl.length cf'] 31 (0, 0))) := hF2.at_ (alloc_new w1 _) (by simp); have HBL := Lib.hid hO2.blk; have HO2 := Lib.hid hO2; have HF2 := Lib.hid hF2; clear hO2 hF2)
    | (refine wpList_st rfl 29 (.tmp 149) (.tmp 148) rfl w1.heap.size 1 (.slice p2 m2 n2) (by first | rfl | simp [Act.eval]) (by first | rfl | simp [Act.eval]) 31 _ HB62.out info29 (by simp [Value.cells]) (by simp [Value.cells, Value.oneCell']) #[.slice (some ⟨g, 0, none⟩) s.cen.length cc', .slice p2 m2 n2] rfl ?_; intro w3 hF3 hB3; have k0 : w3.cell? ⟨w1.heap.size, 0, none⟩ = some (.slice (some ⟨g, 0, none⟩) s.cen.length cc') := (cell_blk hB3 0).trans rfl; have k1 : w3.cell? ⟨w1.heap.size, 1, none⟩ = some (.slice p2 m2 n2) := (cell_blk hB3 1).trans rfl; have HBR3 : Hid (w3.heap[w.heap.size + 2]? = some (.cells #[.slice none 0 0, .slice none 0 0] 31 (0, 0))) := hF3.at_ (HF2.out.at_ (alloc_at HBR.out _) (by simp)) (by simp; omega); have HF3 := Lib.hid hF3; have HB3 := Lib.hid hB3; clear hF3 hB3)
    | (refine wpList_st rfl 31 (.tmp 4) (.tmp 150) rfl (w.heap.size + 2) 0 (.agg #[.slice (some ⟨g, 0, none⟩) s.cen.length cc', .slice p2 m2 n2]) (by first | rfl | simp [Act.eval]) (by first | rfl | simp [Act.eval]) 31 _ (HBR3.out) info31 (by simp [Value.cells]) (by simp [Value.cells, Value.oneCell']) #[.slice (some ⟨g, 0, none⟩) s.cen.length cc', .slice p2 m2 n2] rfl ?_; intro w9 hF9 hB9; have HF9 := Lib.hid hF9; have HB9 := Lib.hid hB9; clear hF9 hB9))
  have F13 : Fr [w1.heap.size] w1 w3 := (((Fr.refl _ w1).alloc _).trans HF2.out.of_nil).trans HF3.out
  refine bodyPost_ret (v := .tuple #[.agg #[.slice (some ⟨g, 0, none⟩) s.cen.length cc', .slice p2 m2 n2], .bool true]) (results_cell2 rfl _ _ (w.heap.size + 2) 31 _ (0, 0) _ rfl HB9.out Tryd.underlying31 rfl info31 (.bool true) rfl) rfl ⟨(HF1.out.new F13 (by simp; omega)).new HF9.out (by simp), _, _, rfl, ⟨?_, ?_, H.out.ok.drop n⟩, (fun z hz => hz.elim (fun hz => (by rw [blkOf_slice, List.mem_singleton] at hz; omega)) (fun hz => (by first | exact (HS4.out.fl.blk z hz).1 | exact (HS2.out.fl.blk z hz).1 | (have := HBL.out z hz; simp at this; omega) | (have := HBA.out z hz; omega))))⟩
  · exact (HO.out.cen.rd.fr F13 (by rw [blkOf_slice]; simp; omega)).fr HF9.out (by rw [blkOf_slice]; simp; omega)
  · have e1 : (s.drop n).fl = s.fl.eraseIdx n := rfl
    rw [e1]
    refine (HO2.out.rd.fr HF3.out (fun z hz hm => ?_)).fr HF9.out (fun z hz hm => ?_)
    · have := HBL.out z hz; simp at this hm; omega
    · have := HBL.out z hz; simp at this hm; omega

set_option maxRecDepth 100000 in
set_option maxHeartbeats 2000000 in
theorem rapply_2_yes (cv fv : Value) (n : Nat) (s : S) (w : World) (h : RdS w cv fv s) (hxn : n < s.fl.length) :
    Calls Tryd.prog 10 #[.agg #[cv, fv], .agg #[.int .i64 2, .int .i64 ((n : Nat) : Int), .int .i64 0]] w (ApPost cv fv (some ((s.drop n).hdl (s.msg n))) w) := by
  obtain ⟨ca, cc, rfl⟩ := h.cen.shape
  obtain ⟨fa, cf, rfl⟩ := h.fl.shape
  have hne : s.cen ≠ [] := fun e => by have := h.ok.n2; rw [e] at this; simp at this
  have n4 := h.ok.n4
  have f6 := h.ok.f6
  have H := Lib.hid h
  clear h
  go_enter Tryd.func10, Tryd.ntmps10
  go_wp2_with fail
  refine (copy_any _ _ s _ (H.out.cen.fr0 (by exact (((Fr.refl [] w).alloc _).alloc _).alloc _)) (H.out.fl.fr0 (by exact (((Fr.refl [] w).alloc _).alloc _).alloc _)) H.out.ok.n4 H.out.ok.f6).mono ?_
  rintro e w1 ⟨cv', fv', rfl, hO1, hO2, hdj, hF⟩
  obtain ⟨g, cc', rfl, hgb, hgl, hcell⟩ := hO1.cons hne
  obtain ⟨fa', cf', rfl⟩ := hO2.shape
  have hz := hF.size
  simp only [World.size_alloc] at hz hgb
  have hBC := hF.at_ (alloc_at (alloc_at (alloc_new w _) _) _) (by simp)
  have hBE := hF.at_ (alloc_at (heap_alloc2_new w _ _) _) (by simp)
  have hBR := hF.at_ (alloc_newn (n := w.heap.size + 2) (by simp) _) (by simp)
  have c0 : w1.cell? ⟨w.heap.size, 0, none⟩ = some (.slice ca s.cen.length cc) := (cell_blk hBC 0).trans rfl
  have c1 : w1.cell? ⟨w.heap.size, 1, none⟩ = some (.slice fa s.fl.length cf) := (cell_blk hBC 1).trans rfl
  have e0 : w1.cell? ⟨w.heap.size + 1, 0, none⟩ = some (I (2)) := (cell_blk hBE 0).trans rfl
  have e1 : w1.cell? ⟨w.heap.size + 1, 1, none⟩ = some (I (n)) := (cell_blk hBE 1).trans rfl
  have e2 : w1.cell? ⟨w.heap.size + 1, 2, none⟩ = some (I (0)) := (cell_blk hBE 2).trans rfl
  have HF1 : Hid (Fr [] w w1) := ((((Fr.refl [] w).alloc _).alloc _).alloc _).trans hF
  have HO : Hid (OwnS w1 w.heap.size (.slice (some ⟨g, 0, none⟩) s.cen.length cc') (.slice fa' s.fl.length cf') s) := ⟨hO1.mono (by simp; omega), hO2.mono (by simp; omega), hdj⟩
  have HBR := Lib.hid hBR
  have HCELL := Lib.hid hcell
  have HDJ : Hid (g ∉ Value.blkOf (.slice fa' s.fl.length cf')) := hdj g (by simp [Value.blkOf])
  have HFL : Hid (∀ z ∈ Value.blkOf (.slice fa' s.fl.length cf'), w.heap.size + 3 ≤ z ∧ z < w1.heap.size) := fun z hz' => (by have := hO2.blk z hz'; simp at this; omega)
  have hlt2 : w.heap.size + 2 < w1.heap.size := by omega
  have hlt1 : w.heap.size + 1 < w1.heap.size := by omega
  have hlt0 : w.heap.size < w1.heap.size := by omega
  clear hO1 hO2 hdj hF hBC hBE hBR hcell
  have hxi : (n : Int) < s.fl.length := by omega
  have hmsg : s.fl[n]? = some (s.msg n) := by simp [S.msg, List.getD, hxn]
  have HMS := Lib.hid hmsg
  have HMM : Hid ((s.drop n).isC (s.msg n).frm ∧ (s.drop n).isC (s.msg n).to ∧ 0 ≤ (s.msg n).turn ∧ (s.msg n).turn ≤ 9) := H.out.ok.msg _ (msg_mem (by omega))
  obtain ⟨gf, hgf⟩ : ∃ gf, fa' = some ⟨gf, 0, none⟩ := by
    obtain ⟨g2, c2, h2, _⟩ := HO.out.fl.cons (fun e => by rw [e] at hxn; simp at hxn)
    simp only [Value.slice.injEq] at h2
    exact ⟨g2, h2.1⟩
  subst hgf
  clear hmsg
  go_wp2_with (first
    | (refine wpList_ldR rfl 55 (.tmp 128) rfl encM 4 encM_len gf 0 s.fl.length cf' s.fl (HO.out.fl.rd.fr0 (by exact (Fr.refl [] w1).alloc _)) n (s.msg n) HMS.out (n * 4) (by first | rfl | simp [Act.eval]) (by omega) [I (s.msg n).kind, I (s.msg n).frm, I (s.msg n).to, I (s.msg n).turn] rfl _ Tryd.underlying55 rfl info55 ?_)
    | (go_at_call 26; refine (without_any (.slice (some ⟨gf, 0, none⟩) s.fl.length cf') s.fl n _ (by exact (HO.out.fl.rd.fr0 (((Fr.refl [] w1).alloc _).alloc _))) (by omega) (by omega)).mono ?_; rintro e w2 ⟨fv2, rfl, hO2, hF2⟩; obtain ⟨p2, m2, n2, rfl, HN2⟩ := hO2.shape'; have HB62 : Hid (w2.heap[w1.heap.size]? = some (.cells #[.slice (some ⟨g, 0, none⟩) s.cen.length cc', .slice (some ⟨gf, 0, none⟩) s.fl.length cf'] 31 (0, 0))) := hF2.at_ (alloc_at (alloc_new w1 _) _) (by simp); have HBL := Lib.hid hO2.blk; have HO2 := Lib.hid hO2; have HF2 := Lib.hid hF2; clear hO2 hF2)
    | (refine wpList_st rfl 29 (.tmp 135) (.tmp 134) rfl w1.heap.size 1 (.slice p2 m2 n2) (by first | rfl | simp [Act.eval]) (by first | rfl | simp [Act.eval]) 31 _ HB62.out info29 (by simp [Value.cells]) (by simp [Value.cells, Value.oneCell']) #[.slice (some ⟨g, 0, none⟩) s.cen.length cc', .slice p2 m2 n2] rfl ?_; intro w3 hF3 hB3; have k0 : w3.cell? ⟨w1.heap.size, 0, none⟩ = some (.slice (some ⟨g, 0, none⟩) s.cen.length cc') := (cell_blk hB3 0).trans rfl; have k1 : w3.cell? ⟨w1.heap.size, 1, none⟩ = some (.slice p2 m2 n2) := (cell_blk hB3 1).trans rfl; have HM3 : Hid (w3.heap[w1.heap.size + 1]? = some (.cells #[I (s.msg n).kind, I (s.msg n).frm, I (s.msg n).to, I (s.msg n).turn] 55 (0, 0))) := hF3.at_ (HF2.out.at_ (heap_alloc2_new w1 _ _) (by simp)) (by simp); have l0 : w3.cell? ⟨w1.heap.size + 1, 0, none⟩ = some (I (s.msg n).kind) := (cell_blk HM3.out 0).trans rfl; have l1 : w3.cell? ⟨w1.heap.size + 1, 1, none⟩ = some (I (s.msg n).frm) := (cell_blk HM3.out 1).trans rfl; have l2 : w3.cell? ⟨w1.heap.size + 1, 2, none⟩ = some (I (s.msg n).to) := (cell_blk HM3.out 2).trans rfl; have l3 : w3.cell? ⟨w1.heap.size + 1, 3, none⟩ = some (I (s.msg n).turn) := (cell_blk HM3.out 3).trans rfl; have HBR3 : Hid (w3.heap[w.heap.size + 2]? = some (.cells #[.slice none 0 0, .slice none 0 0] 31 (0, 0))) := hF3.at_ (HF2.out.at_ (alloc_at (alloc_at HBR.out _) _) (by simp)) (by simp; omega); have HS3 : Hid (OwnS w3 w.heap.size (.slice (some ⟨g, 0, none⟩) s.cen.length cc') (.slice p2 m2 n2) (s.drop n)) := ⟨((HO.out.cen.fr (((Fr.refl [] w1).alloc _).alloc _) (by simp)).fr HF2.out (by simp)).fr hF3 (by rw [blkOf_slice]; simp; omega), (HO2.out.mono (by simp; omega)).fr hF3 (fun z hz hm => (by have := HBL.out z hz; simp at this hm; omega)), fun z hz h2 => (by rw [blkOf_slice, List.mem_singleton] at hz; have := HBL.out z h2; simp at this; omega)⟩; have HSZ3 : Hid (w1.heap.size + 2 ≤ w3.heap.size) := (by have h1 := HF2.out.size; have h2 := hF3.size; simp at h1; show _ ≤ _; omega); have HF3 := Lib.hid hF3; have HB3 := Lib.hid hB3; clear hF3 hB3)
    | (go_at_call 27; refine (rhandle_any (.slice (some ⟨g, 0, none⟩) s.cen.length cc') (.slice p2 m2 n2) w.heap.size (s.msg n) (s.drop n) _ (by exact HS3.out) (by have := HSZ3.out; omega) (H.out.ok.drop n) (drop_room H.out.ok (by omega)) HMM.out.1 HMM.out.2.1 HMM.out.2.2).mono ?_; rintro e w4 ⟨fv4, rfl, hS4, hF4⟩; obtain ⟨p4, m4, n4, rfl, HN4⟩ := hS4.fl.shape'; have HBR4 : Hid (w4.heap[w.heap.size + 2]? = some (.cells #[.slice none 0 0, .slice none 0 0] 31 (0, 0))) := hF4.at_ HBR3.out (fun hm => (by rw [List.mem_append] at hm; rcases hm with hm | hm; rw [blkOf_slice, List.mem_singleton] at hm; omega; have := HBL.out _ hm; simp at this; omega)); have HS4 := Lib.hid hS4; have HF4 := Lib.hid hF4; clear hS4 hF4)
    | (refine wpList_st rfl 31 (.tmp 4) (.tmp 138) rfl (w.heap.size + 2) 0 (.agg #[.slice (some ⟨g, 0, none⟩) s.cen.length cc', .slice p4 m4 n4]) (by first | rfl | simp [Act.eval]) (by first | rfl | simp [Act.eval]) 31 _ (HBR4.out) info31 (by simp [Value.cells]) (by simp [Value.cells, Value.oneCell']) #[.slice (some ⟨g, 0, none⟩) s.cen.length cc', .slice p4 m4 n4] rfl ?_; intro w9 hF9 hB9; have HF9 := Lib.hid hF9; have HB9 := Lib.hid hB9; clear hF9 hB9))
  have F13 : Fr [w1.heap.size] w1 w3 := ((((Fr.refl _ w1).alloc _).alloc _).trans HF2.out.of_nil).trans HF3.out
  have F14 : Fr [] w w4 := (HF1.out.new F13 (by simp; omega)).new HF4.out (fun z hz => by
    rw [List.mem_append] at hz
    rcases hz with hz | hz
    · rw [blkOf_slice, List.mem_singleton] at hz; right; omega
    · have := HBL.out z hz; simp at this; right; omega)
  refine bodyPost_ret (v := .tuple #[.agg #[.slice (some ⟨g, 0, none⟩) s.cen.length cc', .slice p4 m4 n4], .bool true]) (results_cell2 rfl _ _ (w.heap.size + 2) 31 _ (0, 0) _ rfl HB9.out Tryd.underlying31 rfl info31 (.bool true) rfl) rfl ⟨F14.new HF9.out (by simp), _, _, rfl, ⟨?_, ?_, (H.out.ok.drop n).hdl _ HMM.out.1 HMM.out.2.1 HMM.out.2.2 (drop_room H.out.ok (by omega))⟩, (fun z hz => hz.elim (fun hz => (by rw [blkOf_slice, List.mem_singleton] at hz; omega)) (fun hz => (by first | exact (HS4.out.fl.blk z hz).1 | exact (HS2.out.fl.blk z hz).1 | (have := HBL.out z hz; simp at this; omega) | (have := HBA.out z hz; omega))))⟩
  · exact HS4.out.cen.rd.fr HF9.out (by rw [blkOf_slice]; simp; omega)
  · refine HS4.out.fl.rd.fr HF9.out (fun z hz hm => ?_)
    rw [List.mem_singleton] at hm
    subst hm
    exact rfl_absurd_blk HS4.out.fl hz HBR4.out

end Go.Proofs.YtklnbcofmhlkdaaDoor
