/- cobleref10: Apply · cobleref10: Settled, Check, initial · cobleref10: Check, initial · cobleref10: initial. Printed by gen_init.py -/
import Derived.Test.YtklnbcofmhlkdaaDoorRfWalk6a
import Derived.Test.YtklnbcofmhlkdaaDoorRfWalk6b
import Derived.Test.YtklnbcofmhlkdaaDoorRfWalk7a
import Derived.Test.YtklnbcofmhlkdaaDoorRfWalk7b
import Derived.Test.YtklnbcofmhlkdaaDoorRfB
import Derived.Test.YtklnbcofmhlkdaaDoorRlD
set_option linter.unusedVariables false
set_option linter.unusedSimpArgs false
namespace Go.Proofs.YtklnbcofmhlkdaaDoor
open Go.RowKit Rl

theorem rapply_any (cv fv : Value) (e : Ev) (s : S) (w : World) (h : RdS w cv fv s) :
    Calls Tryd.prog 10 #[.agg #[cv, fv], .agg (encE e).toArray] w (ApPost cv fv (s.app e) w) := by
  obtain ⟨k, x, y⟩ := e
  show Calls Tryd.prog 10 #[.agg #[cv, fv], .agg #[.int .i64 k, .int .i64 x, .int .i64 y]] w _
  by_cases k1 : k = 1
  · subst k1
    have e1 : s.app ⟨1, x, y⟩ = s.offer x y := by simp [S.app]
    rw [e1]
    unfold S.offer
    by_cases hx : s.isC x
    · by_cases hi : (s.getC x).is = 1
      · by_cases ht : (s.getC x).turn < 9
        · by_cases hy : s.isC y
          · by_cases xy : y = x
            · subst xy
              rw [if_neg (by simp)]
              exact rapply_1_same cv fv y s w h hx.1 hx.2 hi ht
            · by_cases hr : s.room
              · rw [if_pos ⟨hx, hy, fun e => xy e.symm, hr, hi, ht⟩]
                exact rapply_1_yes cv fv x y s w h hx hy (by simpa using xy) hr hi ht
              · rw [if_neg (fun hc => hr hc.2.2.2.1)]
                exact rapply_1_full cv fv x y s w h hx.1 hx.2 hi ht hy.1 hy.2 (by simpa using xy) (by unfold S.room at hr; omega)
          · rw [if_neg (fun hc => hy hc.2.1)]
            by_cases y0 : y < 0
            · exact rapply_1_yneg cv fv x y s w h hx.1 hx.2 hi ht y0
            · exact rapply_1_yn cv fv x y s w h hx.1 hx.2 hi ht (by omega) (by unfold S.isC at hy; omega)
        · rw [if_neg (fun hc => ht hc.2.2.2.2.2)]
          exact rapply_1_turn cv fv x y s w h hx.1 hx.2 hi (by omega)
      · rw [if_neg (fun hc => hi hc.2.2.2.2.1)]
        exact rapply_1_is cv fv x y s w h hx.1 hx.2 (by simpa using hi)
    · rw [if_neg (fun hc => hx hc.1)]
      exact rapply_1_out cv fv x y s w h hx
  by_cases hy : ¬ y = 0
  · have e1 : s.app ⟨k, x, y⟩ = none := by simp [S.app, k1, hy]
    rw [e1]
    exact rapply_b cv fv k x y s w h (by simpa using k1) (by simpa using hy)
  have hy := Decidable.not_not.1 hy
  subst hy
  by_cases k5 : k = 5
  · subst k5
    have e1 : s.app ⟨5, x, 0⟩ = s.again x := by simp [S.app]
    rw [e1]
    unfold S.again
    by_cases hx : s.isC x
    · by_cases hr : s.room
      · rw [if_pos ⟨hx, hr⟩]
        by_cases i2 : (s.getC x).is = 2
        · rw [if_pos i2]; exact rapply_5_two cv fv x s w h hx hr i2
        rw [if_neg i2]
        by_cases i3 : (s.getC x).is = 3
        · rw [if_pos i3]; exact rapply_5_three cv fv x s w h hx hr i3
        rw [if_neg i3]
        exact rapply_5_none cv fv x s w h hx hr (by simpa using i2) (by simpa using i3)
      · rw [if_neg (fun hc => hr hc.2)]
        exact rapply_5_full cv fv x s w h hx.1 hx.2 (by unfold S.room at hr; omega)
    · rw [if_neg (fun hc => hx hc.1)]
      exact rapply_5_out cv fv x s w h hx
  by_cases hx : ¬ (0 ≤ x ∧ x < s.fl.length)
  · have e1 : s.app ⟨k, x, 0⟩ = none := by simp only [S.app]; rw [if_neg k1, if_neg (by simp), if_neg k5, if_pos hx]
    rw [e1]
    by_cases k2 : k = 2
    · subst k2; exact rapply_2_out cv fv x s w h hx
    by_cases k3 : k = 3
    · subst k3; exact rapply_3_out cv fv x s w h hx
    by_cases k4 : k = 4
    · subst k4; exact rapply_4_out cv fv x s w h hx
    exact rapply_n cv fv k x s w h (by simpa using k1) (by simpa using k2) (by simpa using k3) (by simpa using k4) (by simpa using k5)
  have hx := Decidable.not_not.1 hx
  have e0 : s.app ⟨k, x, 0⟩ = if k = 2 then some ((s.drop x).hdl (s.msg x)) else if k = 3 then some (s.drop x) else if k = 4 then (if s.room then some { s with fl := s.fl ++ [s.msg x] } else none) else none := by
    simp only [S.app]; rw [if_neg k1, if_neg (by simp), if_neg k5, if_neg (by simpa using hx)]
  rw [e0]
  obtain ⟨n, rfl⟩ := Int.eq_ofNat_of_zero_le hx.1
  have hn : n < s.fl.length := by omega
  by_cases k2 : k = 2
  · subst k2; rw [if_pos rfl]
    exact rapply_2_yes cv fv n s w h hn
  by_cases k3 : k = 3
  · subst k3; rw [if_neg (by decide), if_pos rfl]
    exact rapply_3_yes cv fv n s w h hn
  by_cases k4 : k = 4
  · subst k4; rw [if_neg (by decide), if_neg (by decide), if_pos rfl]
    by_cases hr : s.room
    · rw [if_pos hr]; exact rapply_4_yes cv fv n s w h hn hr
    · rw [if_neg hr]; exact rapply_4_full cv fv n s w h hx.1 hx.2 (by unfold S.room at hr; omega)
  rw [if_neg k2, if_neg k3, if_neg k4]
  exact rapply_n cv fv k n s w h (by simpa using k1) (by simpa using k2) (by simpa using k3) (by simpa using k4) (by simpa using k5)
end Go.Proofs.YtklnbcofmhlkdaaDoor
namespace Go.Proofs.YtklnbcofmhlkdaaDoor
open Go.RowKit Rl

theorem Rd.cons {α : Type} {w : World} {f : α → List Value} {v : Value} {l : List α} (h : Rd w f v l) (hl : l ≠ []) : ∃ g off cap, v = .slice (some ⟨g, off, none⟩) l.length cap := by
  rcases h with ⟨_, h⟩ | ⟨g, off, cap, h, _⟩
  · exact absurd h hl
  · exact ⟨g, off, cap, h⟩

set_option maxRecDepth 100000 in
set_option maxHeartbeats 1000000 in
theorem rsettled_any (cv fv : Value) (s : S) (w : World) (h : RdS w cv fv s) :
    Calls Tryd.prog 11 #[.agg #[cv, fv]] w fun e w' => e = .returned (.bool s.settled) ∧ Fr [] w w' := by
  have hne : s.cen ≠ [] := fun e => by have := h.ok.n2; rw [e] at this; simp at this
  obtain ⟨g, off, cap, rfl⟩ := h.cen.cons hne
  obtain ⟨fa, cf, rfl⟩ := h.fl.shape
  have n4 : (s.cen.length : Int) ≤ 4 := by have := h.ok.n4; omega
  have H := Lib.hid h
  clear h
  go_enter Tryd.func11, Tryd.ntmps11
  go_wp2_with fail
  go_loopw [3] (fun i wr => ∃ k : Nat, k ≤ s.cen.length ∧ i = .int .i64 k ∧ Fr [] w wr ∧ wr.heap[w.heap.size]? = some (.cells #[.slice (some ⟨g, off, none⟩) s.cen.length cap, .slice fa s.fl.length cf] 31 (0, 0)) ∧ (s.cen.take k).all (fun c => !bad c) = true) (fun i _ => s.cen.length - (intOf i).toNat)
  case atStart => exact ⟨0, by omega, rfl, (Fr.refl _ _).alloc _, alloc_new _ _, rfl⟩
  case round =>
    obtain ⟨k, hk, rfl, hF, hB, hall⟩ := hrel
    have x0 : wr.cell? ⟨w.heap.size, 0, none⟩ = some (.slice (some ⟨g, off, none⟩) s.cen.length cap) := (cell_blk hB 0).trans rfl
    have HF := Lib.hid hF
    have HB := Lib.hid hB
    have HA := Lib.hid hall
    have HR := Lib.hid (H.out.cen.fr0 hF)
    clear hF hall hB
    by_cases hlt : k < s.cen.length
    · obtain ⟨c, hc⟩ : ∃ c, s.cen[k]? = some c := ⟨s.cen[k], by simp [hlt]⟩
      have hts : (s.cen.take (k + 1)).all (fun c => !bad c) = !bad c := by
        rw [List.take_add_one, hc]; simp [HA.out]
      have ci : wr.cell? ⟨g, off + k * 3, none⟩ = some (I c.is) := HR.out.cells.2.2.2.2 _ _ ((flat_at encC_len s.cen k 0 c hc (by omega)).trans rfl)
      have hall2 : c ∈ s.cen := List.mem_of_getElem? hc
      have HC := Lib.hid hc
      have HT := Lib.hid hts
      clear hc hts
      by_cases h2 : c.is = 2
      · have g2 : (c.is == 2) = true := by simpa using h2
        go_wp2
        go_ret
        refine ⟨ret_bool ?_, HF.out⟩
        symm; unfold S.settled; rw [List.all_eq_false]; exact ⟨c, hall2, by simp [bad, h2]⟩
      · have g2 : (c.is == 2) = false := by simpa using h2
        by_cases h3 : c.is = 3
        · have g3 : (c.is == 3) = true := by simpa using h3
          go_wp2
          go_ret
          refine ⟨ret_bool ?_, HF.out⟩
          symm; unfold S.settled; rw [List.all_eq_false]; exact ⟨c, hall2, by simp [bad, h3]⟩
        · have g3 : (c.is == 3) = false := by simpa using h3
          have hb : bad c = false := by simp [bad, g2, g3]
          go_wp2
          go_roundw
          case rel => exact ⟨k + 1, by omega, by go_num, HF.out, HB.out, by rw [HT.out, hb]; rfl⟩
          case measure => simp [intOf]; omega
    · go_wp2
      go_ret
      refine ⟨ret_bool ?_, HF.out⟩
      have := HA.out
      rw [List.take_of_length_le (by omega)] at this
      rw [S.settled, this]
end Go.Proofs.YtklnbcofmhlkdaaDoor
namespace Go.Proofs.YtklnbcofmhlkdaaDoor
open Go.RowKit Rl

def errC (n first : Int) (len : Nat) : Int := if n < 2 ∨ 4 < n ∨ first < 0 ∨ n ≤ first then 100 else if 200 < len then 101 else 0

set_option maxRecDepth 100000 in
set_option maxHeartbeats 1000000 in
theorem check_any (n first : Int) (ad : Option Addr) (len cap : Nat) (w : World) :
    Calls Tryd.prog 12 #[.int .i64 n, .int .i64 first, .slice ad len cap] w fun e w' => e = .returned (.int .i64 (errC n first len)) ∧ Fr [] w w' := by
  by_cases c1 : n < 2
  · have e : errC n first len = 100 := by simp [errC, c1]
    rw [e]
    go_enter Tryd.func12, Tryd.ntmps12
    go_wp2
    go_ret
    exact ⟨rfl, Fr.refl _ _⟩
  by_cases c2 : 4 < n
  · have e : errC n first len = 100 := by simp [errC, c2]
    rw [e]
    go_enter Tryd.func12, Tryd.ntmps12
    go_wp2
    go_ret
    exact ⟨rfl, Fr.refl _ _⟩
  by_cases c3 : first < 0
  · have e : errC n first len = 100 := by simp [errC, c3]
    rw [e]
    go_enter Tryd.func12, Tryd.ntmps12
    go_wp2
    go_ret
    exact ⟨rfl, Fr.refl _ _⟩
  by_cases c4 : n ≤ first
  · have e : errC n first len = 100 := by simp [errC, c4]
    rw [e]
    go_enter Tryd.func12, Tryd.ntmps12
    go_wp2
    go_ret
    exact ⟨rfl, Fr.refl _ _⟩
  by_cases c5 : 200 < len
  · have e : errC n first len = 101 := by simp [errC, c1, c2, c3, c4, c5]
    rw [e]
    have c6 : (200 : Int) < len := by omega
    go_enter Tryd.func12, Tryd.ntmps12
    go_wp2
    go_ret
    exact ⟨rfl, Fr.refl _ _⟩
  · have e : errC n first len = 0 := by simp [errC, c1, c2, c3, c4, c5]
    rw [e]
    have c6 : ¬ (200 : Int) < len := by omega
    go_enter Tryd.func12, Tryd.ntmps12
    go_wp2
    go_ret
    exact ⟨rfl, Fr.refl _ _⟩
end Go.Proofs.YtklnbcofmhlkdaaDoor
namespace Go.Proofs.YtklnbcofmhlkdaaDoor
open Go.RowKit Rl

def InPost (s : S) (w : World) (e : Ending) (w' : World) : Prop := ∃ cv fv, e = .returned (.agg #[cv, fv]) ∧ RdS w' cv fv s ∧ Fr [] w w'

set_option maxRecDepth 100000 in
theorem initial_20 (w : World) : Calls Tryd.prog 23 #[.int .i64 2, .int .i64 0] w (InPost (Rl.start 2 0) w) := by
  have hmk : ∀ w, (Instr.makeSlice 28 (.int .i64 2) (.int .i64 2)).run Tryd.prog w = .ok (.slice (some ⟨w.heap.size, 0, none⟩) 2 2) (w.alloc (.cells #[I 0, I 0, I 0, I 0, I 0, I 0] 46)) := fun _ => by kernel_rfl
  go_enter Tryd.func23, Tryd.ntmps23
  go_wp2
  exact bodyPost_ret (v := .agg #[.slice (some ⟨w.heap.size + 1, 0, none⟩) 2 2, .slice none 0 0]) (results_cell_row rfl _ _ w.heap.size 31 _ (0, 0) _ rfl (alloc_at (alloc_at (alloc_new w _) _) _) Tryd.underlying31 rfl info31) rfl
    ⟨_, _, rfl, ⟨Rd.of_blk (l := (Rl.start 2 0).cen) (C := #[I 1, I 0, I 0, I 0, I 0, I 0]) (alloc_at (heap_alloc2_new w _ _) _) rfl (Nat.le_refl _) (by show 2 ≤ maxLen; simp [maxLen]), Rd.nil _ _, start_ok 2 0 (by decide) (by decide)⟩, (((Fr.refl [] w).alloc _).alloc _).alloc _⟩
set_option maxRecDepth 100000 in
theorem initial_21 (w : World) : Calls Tryd.prog 23 #[.int .i64 2, .int .i64 1] w (InPost (Rl.start 2 1) w) := by
  have hmk : ∀ w, (Instr.makeSlice 28 (.int .i64 2) (.int .i64 2)).run Tryd.prog w = .ok (.slice (some ⟨w.heap.size, 0, none⟩) 2 2) (w.alloc (.cells #[I 0, I 0, I 0, I 0, I 0, I 0] 46)) := fun _ => by kernel_rfl
  go_enter Tryd.func23, Tryd.ntmps23
  go_wp2
  exact bodyPost_ret (v := .agg #[.slice (some ⟨w.heap.size + 1, 0, none⟩) 2 2, .slice none 0 0]) (results_cell_row rfl _ _ w.heap.size 31 _ (0, 0) _ rfl (alloc_at (alloc_at (alloc_new w _) _) _) Tryd.underlying31 rfl info31) rfl
    ⟨_, _, rfl, ⟨Rd.of_blk (l := (Rl.start 2 1).cen) (C := #[I 0, I 0, I 0, I 1, I 0, I 0]) (alloc_at (heap_alloc2_new w _ _) _) rfl (Nat.le_refl _) (by show 2 ≤ maxLen; simp [maxLen]), Rd.nil _ _, start_ok 2 1 (by decide) (by decide)⟩, (((Fr.refl [] w).alloc _).alloc _).alloc _⟩
set_option maxRecDepth 100000 in
theorem initial_30 (w : World) : Calls Tryd.prog 23 #[.int .i64 3, .int .i64 0] w (InPost (Rl.start 3 0) w) := by
  have hmk : ∀ w, (Instr.makeSlice 28 (.int .i64 3) (.int .i64 3)).run Tryd.prog w = .ok (.slice (some ⟨w.heap.size, 0, none⟩) 3 3) (w.alloc (.cells #[I 0, I 0, I 0, I 0, I 0, I 0, I 0, I 0, I 0] 46)) := fun _ => by kernel_rfl
  go_enter Tryd.func23, Tryd.ntmps23
  go_wp2
  exact bodyPost_ret (v := .agg #[.slice (some ⟨w.heap.size + 1, 0, none⟩) 3 3, .slice none 0 0]) (results_cell_row rfl _ _ w.heap.size 31 _ (0, 0) _ rfl (alloc_at (alloc_at (alloc_new w _) _) _) Tryd.underlying31 rfl info31) rfl
    ⟨_, _, rfl, ⟨Rd.of_blk (l := (Rl.start 3 0).cen) (C := #[I 1, I 0, I 0, I 0, I 0, I 0, I 0, I 0, I 0]) (alloc_at (heap_alloc2_new w _ _) _) rfl (Nat.le_refl _) (by show 3 ≤ maxLen; simp [maxLen]), Rd.nil _ _, start_ok 3 0 (by decide) (by decide)⟩, (((Fr.refl [] w).alloc _).alloc _).alloc _⟩
set_option maxRecDepth 100000 in
theorem initial_31 (w : World) : Calls Tryd.prog 23 #[.int .i64 3, .int .i64 1] w (InPost (Rl.start 3 1) w) := by
  have hmk : ∀ w, (Instr.makeSlice 28 (.int .i64 3) (.int .i64 3)).run Tryd.prog w = .ok (.slice (some ⟨w.heap.size, 0, none⟩) 3 3) (w.alloc (.cells #[I 0, I 0, I 0, I 0, I 0, I 0, I 0, I 0, I 0] 46)) := fun _ => by kernel_rfl
  go_enter Tryd.func23, Tryd.ntmps23
  go_wp2
  exact bodyPost_ret (v := .agg #[.slice (some ⟨w.heap.size + 1, 0, none⟩) 3 3, .slice none 0 0]) (results_cell_row rfl _ _ w.heap.size 31 _ (0, 0) _ rfl (alloc_at (alloc_at (alloc_new w _) _) _) Tryd.underlying31 rfl info31) rfl
    ⟨_, _, rfl, ⟨Rd.of_blk (l := (Rl.start 3 1).cen) (C := #[I 0, I 0, I 0, I 1, I 0, I 0, I 0, I 0, I 0]) (alloc_at (heap_alloc2_new w _ _) _) rfl (Nat.le_refl _) (by show 3 ≤ maxLen; simp [maxLen]), Rd.nil _ _, start_ok 3 1 (by decide) (by decide)⟩, (((Fr.refl [] w).alloc _).alloc _).alloc _⟩
set_option maxRecDepth 100000 in
theorem initial_32 (w : World) : Calls Tryd.prog 23 #[.int .i64 3, .int .i64 2] w (InPost (Rl.start 3 2) w) := by
  have hmk : ∀ w, (Instr.makeSlice 28 (.int .i64 3) (.int .i64 3)).run Tryd.prog w = .ok (.slice (some ⟨w.heap.size, 0, none⟩) 3 3) (w.alloc (.cells #[I 0, I 0, I 0, I 0, I 0, I 0, I 0, I 0, I 0] 46)) := fun _ => by kernel_rfl
  go_enter Tryd.func23, Tryd.ntmps23
  go_wp2
  exact bodyPost_ret (v := .agg #[.slice (some ⟨w.heap.size + 1, 0, none⟩) 3 3, .slice none 0 0]) (results_cell_row rfl _ _ w.heap.size 31 _ (0, 0) _ rfl (alloc_at (alloc_at (alloc_new w _) _) _) Tryd.underlying31 rfl info31) rfl
    ⟨_, _, rfl, ⟨Rd.of_blk (l := (Rl.start 3 2).cen) (C := #[I 0, I 0, I 0, I 0, I 0, I 0, I 1, I 0, I 0]) (alloc_at (heap_alloc2_new w _ _) _) rfl (Nat.le_refl _) (by show 3 ≤ maxLen; simp [maxLen]), Rd.nil _ _, start_ok 3 2 (by decide) (by decide)⟩, (((Fr.refl [] w).alloc _).alloc _).alloc _⟩
set_option maxRecDepth 100000 in
theorem initial_40 (w : World) : Calls Tryd.prog 23 #[.int .i64 4, .int .i64 0] w (InPost (Rl.start 4 0) w) := by
  have hmk : ∀ w, (Instr.makeSlice 28 (.int .i64 4) (.int .i64 4)).run Tryd.prog w = .ok (.slice (some ⟨w.heap.size, 0, none⟩) 4 4) (w.alloc (.cells #[I 0, I 0, I 0, I 0, I 0, I 0, I 0, I 0, I 0, I 0, I 0, I 0] 46)) := fun _ => by kernel_rfl
  go_enter Tryd.func23, Tryd.ntmps23
  go_wp2
  exact bodyPost_ret (v := .agg #[.slice (some ⟨w.heap.size + 1, 0, none⟩) 4 4, .slice none 0 0]) (results_cell_row rfl _ _ w.heap.size 31 _ (0, 0) _ rfl (alloc_at (alloc_at (alloc_new w _) _) _) Tryd.underlying31 rfl info31) rfl
    ⟨_, _, rfl, ⟨Rd.of_blk (l := (Rl.start 4 0).cen) (C := #[I 1, I 0, I 0, I 0, I 0, I 0, I 0, I 0, I 0, I 0, I 0, I 0]) (alloc_at (heap_alloc2_new w _ _) _) rfl (Nat.le_refl _) (by show 4 ≤ maxLen; simp [maxLen]), Rd.nil _ _, start_ok 4 0 (by decide) (by decide)⟩, (((Fr.refl [] w).alloc _).alloc _).alloc _⟩
set_option maxRecDepth 100000 in
theorem initial_41 (w : World) : Calls Tryd.prog 23 #[.int .i64 4, .int .i64 1] w (InPost (Rl.start 4 1) w) := by
  have hmk : ∀ w, (Instr.makeSlice 28 (.int .i64 4) (.int .i64 4)).run Tryd.prog w = .ok (.slice (some ⟨w.heap.size, 0, none⟩) 4 4) (w.alloc (.cells #[I 0, I 0, I 0, I 0, I 0, I 0, I 0, I 0, I 0, I 0, I 0, I 0] 46)) := fun _ => by kernel_rfl
  go_enter Tryd.func23, Tryd.ntmps23
  go_wp2
  exact bodyPost_ret (v := .agg #[.slice (some ⟨w.heap.size + 1, 0, none⟩) 4 4, .slice none 0 0]) (results_cell_row rfl _ _ w.heap.size 31 _ (0, 0) _ rfl (alloc_at (alloc_at (alloc_new w _) _) _) Tryd.underlying31 rfl info31) rfl
    ⟨_, _, rfl, ⟨Rd.of_blk (l := (Rl.start 4 1).cen) (C := #[I 0, I 0, I 0, I 1, I 0, I 0, I 0, I 0, I 0, I 0, I 0, I 0]) (alloc_at (heap_alloc2_new w _ _) _) rfl (Nat.le_refl _) (by show 4 ≤ maxLen; simp [maxLen]), Rd.nil _ _, start_ok 4 1 (by decide) (by decide)⟩, (((Fr.refl [] w).alloc _).alloc _).alloc _⟩
set_option maxRecDepth 100000 in
theorem initial_42 (w : World) : Calls Tryd.prog 23 #[.int .i64 4, .int .i64 2] w (InPost (Rl.start 4 2) w) := by
  have hmk : ∀ w, (Instr.makeSlice 28 (.int .i64 4) (.int .i64 4)).run Tryd.prog w = .ok (.slice (some ⟨w.heap.size, 0, none⟩) 4 4) (w.alloc (.cells #[I 0, I 0, I 0, I 0, I 0, I 0, I 0, I 0, I 0, I 0, I 0, I 0] 46)) := fun _ => by kernel_rfl
  go_enter Tryd.func23, Tryd.ntmps23
  go_wp2
  exact bodyPost_ret (v := .agg #[.slice (some ⟨w.heap.size + 1, 0, none⟩) 4 4, .slice none 0 0]) (results_cell_row rfl _ _ w.heap.size 31 _ (0, 0) _ rfl (alloc_at (alloc_at (alloc_new w _) _) _) Tryd.underlying31 rfl info31) rfl
    ⟨_, _, rfl, ⟨Rd.of_blk (l := (Rl.start 4 2).cen) (C := #[I 0, I 0, I 0, I 0, I 0, I 0, I 1, I 0, I 0, I 0, I 0, I 0]) (alloc_at (heap_alloc2_new w _ _) _) rfl (Nat.le_refl _) (by show 4 ≤ maxLen; simp [maxLen]), Rd.nil _ _, start_ok 4 2 (by decide) (by decide)⟩, (((Fr.refl [] w).alloc _).alloc _).alloc _⟩
set_option maxRecDepth 100000 in
theorem initial_43 (w : World) : Calls Tryd.prog 23 #[.int .i64 4, .int .i64 3] w (InPost (Rl.start 4 3) w) := by
  have hmk : ∀ w, (Instr.makeSlice 28 (.int .i64 4) (.int .i64 4)).run Tryd.prog w = .ok (.slice (some ⟨w.heap.size, 0, none⟩) 4 4) (w.alloc (.cells #[I 0, I 0, I 0, I 0, I 0, I 0, I 0, I 0, I 0, I 0, I 0, I 0] 46)) := fun _ => by kernel_rfl
  go_enter Tryd.func23, Tryd.ntmps23
  go_wp2
  exact bodyPost_ret (v := .agg #[.slice (some ⟨w.heap.size + 1, 0, none⟩) 4 4, .slice none 0 0]) (results_cell_row rfl _ _ w.heap.size 31 _ (0, 0) _ rfl (alloc_at (alloc_at (alloc_new w _) _) _) Tryd.underlying31 rfl info31) rfl
    ⟨_, _, rfl, ⟨Rd.of_blk (l := (Rl.start 4 3).cen) (C := #[I 0, I 0, I 0, I 0, I 0, I 0, I 0, I 0, I 0, I 1, I 0, I 0]) (alloc_at (heap_alloc2_new w _ _) _) rfl (Nat.le_refl _) (by show 4 ≤ maxLen; simp [maxLen]), Rd.nil _ _, start_ok 4 3 (by decide) (by decide)⟩, (((Fr.refl [] w).alloc _).alloc _).alloc _⟩

theorem initial_any (n : Nat) (first : Int) (w : World) (h2 : 2 ≤ n) (h4 : n ≤ 4) (hf : 0 ≤ first ∧ first < n) : Calls Tryd.prog 23 #[.int .i64 n, .int .i64 first] w (InPost (Rl.start n first) w) := by
  obtain ⟨f, rfl⟩ := Int.eq_ofNat_of_zero_le hf.1
  have hfn : f < n := by omega
  clear hf
  match n, f, h2, h4, hfn with
  | 2, 0, _, _, _ => exact initial_20 w
  | 2, 1, _, _, _ => exact initial_21 w
  | 3, 0, _, _, _ => exact initial_30 w
  | 3, 1, _, _, _ => exact initial_31 w
  | 3, 2, _, _, _ => exact initial_32 w
  | 4, 0, _, _, _ => exact initial_40 w
  | 4, 1, _, _, _ => exact initial_41 w
  | 4, 2, _, _, _ => exact initial_42 w
  | 4, 3, _, _, _ => exact initial_43 w
  | 2, f + 2, _, _, h => omega
  | 3, f + 3, _, _, h => omega
  | 4, f + 4, _, _, h => omega
end Go.Proofs.YtklnbcofmhlkdaaDoor
