/- relay: word, apart, slices.Contains and ContainsFunc at strings · relay: slices.IndexFunc and ContainsFunc at one word, with the two closures of words.go · relay: vocabulary, heard, Identify and Decode at the example · relay: Identify and Decode at the example · law10: Far, sameInts and Example · relay: Responsible at the example · law10: works -/
import Derived.Test.YtklnbcofmhlkdaaDoorRlSe9
import Derived.Test.YtklnbcofmhlkdaaDoorShelf
import Derived.Lib.OthersKept
import Derived.Test.YtklnbcofmhlkdaaDoorRlA
set_option linter.unusedVariables false
set_option linter.unusedSimpArgs false
namespace Go.Proofs.YtklnbcofmhlkdaaDoor
open Go.RowKit Go.Lib Rl Go.Shelf

def abc : ByteArray := ⟨#[97, 98, 99, 100, 101, 102, 103, 104, 105, 106, 107, 108, 109, 110, 111, 112, 113, 114, 115, 116, 117, 118, 119, 120, 121, 122]⟩
def isLow (s : ByteArray) : Prop := Lib.trimS s.data.toList abc.data.toList = []
set_option maxRecDepth 100000 in
set_option maxHeartbeats 1000000 in
theorem word_yes (s : ByteArray) (h1 : 1 ≤ s.size) (h2 : s.size ≤ 12) (h : isLow s) (w : World) : Calls Tryd.prog 48 #[.string s] w fun e w' => e = .returned (.bool true) ∧ Fr [] w w' := by
  have H : ∀ W, Calls Tryd.prog 53 #[.string s, .string abc] W fun e w' => e = .returned (.string ⟨#[]⟩) ∧ Fr [] W w' := fun W => by
    have hcon := Any.strings_Trim_laid lays160 (by kernel_rfl) s abc W (by omega) (by decide) (ascii_of_all (by decide))
    refine hcon.mono ?_
    rintro e w' ⟨rfl, hB⟩
    unfold isLow at h
    rw [h]
    exact ⟨rfl, Fr.of_below hB⟩
  have HH := Lib.hid H
  clear H h
  unfold abc at HH
  go_enter Tryd.func48, Tryd.ntmps48
  go_wp2_with (go_at_call 53; refine (HH.out _).mono ?_; rintro e w1 ⟨rfl, hF⟩; have HF := Lib.hid hF; clear hF)
  go_ret
  exact ⟨rfl, HF.out⟩
set_option maxRecDepth 100000 in
set_option maxHeartbeats 1000000 in
theorem index_none (a : Option Addr) (cap : Nat) (x : ByteArray) (w : World) : Calls Tryd.prog 54 #[.slice a 0 cap, .string x] w fun e w' => e = .returned (.int .i64 (-1)) ∧ w = w' := by
  go_enter Tryd.func54, Tryd.ntmps54
  go_wp2
  refine wp_loop_rounds 1 ?_
  rw [rounds_succ]
  go_wp2
  go_ret
  exact ⟨rfl, rfl⟩
set_option maxRecDepth 100000 in
set_option maxHeartbeats 1000000 in
theorem index_one (g off cap : Nat) (x y : ByteArray) (w : World) (hc : w.cell? ⟨g, off, none⟩ = some (.string y)) (hne : (x.toList == y.toList) = false) : Calls Tryd.prog 54 #[.slice (some ⟨g, off, none⟩) 1 cap, .string x] w fun e w' => e = .returned (.int .i64 (-1)) ∧ w = w' := by
  go_enter Tryd.func54, Tryd.ntmps54
  go_wp2
  refine wp_loop_rounds 2 ?_
  rw [rounds_succ]
  go_wp2
  rw [rounds_succ]
  go_wp2
  go_ret
  exact ⟨rfl, rfl⟩
set_option maxRecDepth 100000 in
set_option maxHeartbeats 1000000 in
theorem contains_none (a : Option Addr) (cap : Nat) (x : ByteArray) (w : World) : Calls Tryd.prog 49 #[.slice a 0 cap, .string x] w fun e w' => e = .returned (.bool false) ∧ w = w' := by
  go_enter Tryd.func49, Tryd.ntmps49
  go_wp2_with (go_at_call 54; refine (index_none a cap x _).mono ?_; rintro e w1 ⟨rfl, rfl⟩)
  go_ret
  exact ⟨rfl, rfl⟩
set_option maxRecDepth 100000 in
set_option maxHeartbeats 1000000 in
theorem contains_one (g off cap : Nat) (x y : ByteArray) (w : World) (hc : w.cell? ⟨g, off, none⟩ = some (.string y)) (hne : (x.toList == y.toList) = false) : Calls Tryd.prog 49 #[.slice (some ⟨g, off, none⟩) 1 cap, .string x] w fun e w' => e = .returned (.bool false) ∧ w = w' := by
  have HC := Lib.hid hc
  have HN := Lib.hid hne
  clear hc hne
  go_enter Tryd.func49, Tryd.ntmps49
  go_wp2_with (go_at_call 54; refine (index_one g off cap x y _ HC.out HN.out).mono ?_; rintro e w1 ⟨rfl, rfl⟩)
  go_ret
  exact ⟨rfl, rfl⟩
def south : ByteArray := ⟨#[115, 111, 117, 116, 104]⟩
def mouth : ByteArray := ⟨#[109, 111, 117, 116, 104]⟩
def mouxh : ByteArray := ⟨#[109, 111, 117, 120, 104]⟩
theorem iterFr {w wr : World} (h : Fr [] w wr) (s : ByteArray) (p : Nat) : Fr [] w (wr.iterAt w.heap.size s p) :=
  h.new (l' := [w.heap.size]) ⟨rfl, rfl, rfl, by simp [World.iterAt], fun k _ hk => by
    simp only [World.iterAt]
    rw [Array.getElem?_setIfInBounds_ne (by simpa using fun e => hk (by simp [e]))]⟩ (by simp)
set_option maxRecDepth 100000 in
set_option maxHeartbeats 2000000 in
theorem apart_one (w : World) : Calls Tryd.prog 41 #[.string ⟨#[109, 111, 117, 116, 104]⟩, .string ⟨#[109, 111, 117, 120, 104]⟩] w fun e w' => e = .returned (.int .i64 1) ∧ Fr [] w w' := by
  go_enter Tryd.func41, Tryd.ntmps41
  go_wp2
  go_loopw [5] (fun v wr => ∃ k : Nat, k ≤ 5 ∧ v = .int .i64 ([0, 0, 0, 0, 1, 1].getD k 0) ∧ wr.heap[w.heap.size]? = some (.stringIter ⟨#[109, 111, 117, 116, 104]⟩ k) ∧ Fr [] w wr) (fun _ wr => match wr.heap[w.heap.size]? with | some (.stringIter _ p) => 5 - p | _ => 0)
  case atStart => exact ⟨0, by omega, rfl, alloc_new w _, (Fr.refl [] w).alloc _⟩
  case round =>
    obtain ⟨k, hk, rfl, hI, hF⟩ := hrel
    have HF := Lib.hid hF
    have HI := Lib.hid hI
    rcases (by omega : k = 0 ∨ k = 1 ∨ k = 2 ∨ k = 3 ∨ k = 4 ∨ k = 5) with rfl | rfl | rfl | rfl | rfl | rfl
    · have hn := run_next_ascii_at (P := Tryd.prog) wr w.heap.size ⟨#[109, 111, 117, 116, 104]⟩ 0 0 hI (by decide) (by decide)
      clear hI hF
      simp only [List.getD_cons_zero, List.getD_cons_succ]
      go_wp2
      go_quiet (fail)
      go_wp2
      go_roundw
      case rel => exact ⟨1, by omega, rfl, iterAt_heap _ _ _ _ _ HI.out, (iterFr HF.out _ _).drewN _⟩
      case measure => rw [show ∀ (x : World) (n : Nat), (x.drewN n).heap = x.heap from fun _ _ => rfl, iterAt_heap _ _ _ _ _ HI.out, HI.out]; decide
    · have hn := run_next_ascii_at (P := Tryd.prog) wr w.heap.size ⟨#[109, 111, 117, 116, 104]⟩ 1 0 hI (by decide) (by decide)
      clear hI hF
      simp only [List.getD_cons_zero, List.getD_cons_succ]
      go_wp2
      go_quiet (fail)
      go_wp2
      go_roundw
      case rel => exact ⟨2, by omega, rfl, iterAt_heap _ _ _ _ _ HI.out, (iterFr HF.out _ _).drewN _⟩
      case measure => rw [show ∀ (x : World) (n : Nat), (x.drewN n).heap = x.heap from fun _ _ => rfl, iterAt_heap _ _ _ _ _ HI.out, HI.out]; decide
    · have hn := run_next_ascii_at (P := Tryd.prog) wr w.heap.size ⟨#[109, 111, 117, 116, 104]⟩ 2 0 hI (by decide) (by decide)
      clear hI hF
      simp only [List.getD_cons_zero, List.getD_cons_succ]
      go_wp2
      go_quiet (fail)
      go_wp2
      go_roundw
      case rel => exact ⟨3, by omega, rfl, iterAt_heap _ _ _ _ _ HI.out, (iterFr HF.out _ _).drewN _⟩
      case measure => rw [show ∀ (x : World) (n : Nat), (x.drewN n).heap = x.heap from fun _ _ => rfl, iterAt_heap _ _ _ _ _ HI.out, HI.out]; decide
    · have hn := run_next_ascii_at (P := Tryd.prog) wr w.heap.size ⟨#[109, 111, 117, 116, 104]⟩ 3 0 hI (by decide) (by decide)
      clear hI hF
      simp only [List.getD_cons_zero, List.getD_cons_succ]
      go_wp2
      go_quiet (fail)
      go_wp2
      go_roundw
      case rel => exact ⟨4, by omega, rfl, iterAt_heap _ _ _ _ _ HI.out, (iterFr HF.out _ _).drewN _⟩
      case measure => rw [show ∀ (x : World) (n : Nat), (x.drewN n).heap = x.heap from fun _ _ => rfl, iterAt_heap _ _ _ _ _ HI.out, HI.out]; decide
    · have hn := run_next_ascii_at (P := Tryd.prog) wr w.heap.size ⟨#[109, 111, 117, 116, 104]⟩ 4 0 hI (by decide) (by decide)
      clear hI hF
      simp only [List.getD_cons_zero, List.getD_cons_succ]
      go_wp2
      go_quiet (fail)
      go_wp2
      go_roundw
      case rel => exact ⟨5, by omega, rfl, iterAt_heap _ _ _ _ _ HI.out, (iterFr HF.out _ _).drewN _⟩
      case measure => rw [show ∀ (x : World) (n : Nat), (x.drewN n).heap = x.heap from fun _ _ => rfl, iterAt_heap _ _ _ _ _ HI.out, HI.out]; decide
    · have hn := run_next_end_at (P := Tryd.prog) wr w.heap.size ⟨#[109, 111, 117, 116, 104]⟩ 5 0 hI (by decide)
      clear hI hF
      simp only [List.getD_cons_zero, List.getD_cons_succ]
      go_wp2
      go_ret
      exact ⟨rfl, HF.out⟩
set_option maxRecDepth 100000 in
set_option maxHeartbeats 2000000 in
theorem apart_two (w : World) : Calls Tryd.prog 41 #[.string ⟨#[115, 111, 117, 116, 104]⟩, .string ⟨#[109, 111, 117, 120, 104]⟩] w fun e w' => e = .returned (.int .i64 2) ∧ Fr [] w w' := by
  go_enter Tryd.func41, Tryd.ntmps41
  go_wp2
  go_loopw [5] (fun v wr => ∃ k : Nat, k ≤ 5 ∧ v = .int .i64 ([0, 1, 1, 1, 2, 2].getD k 0) ∧ wr.heap[w.heap.size]? = some (.stringIter ⟨#[115, 111, 117, 116, 104]⟩ k) ∧ Fr [] w wr) (fun _ wr => match wr.heap[w.heap.size]? with | some (.stringIter _ p) => 5 - p | _ => 0)
  case atStart => exact ⟨0, by omega, rfl, alloc_new w _, (Fr.refl [] w).alloc _⟩
  case round =>
    obtain ⟨k, hk, rfl, hI, hF⟩ := hrel
    have HF := Lib.hid hF
    have HI := Lib.hid hI
    rcases (by omega : k = 0 ∨ k = 1 ∨ k = 2 ∨ k = 3 ∨ k = 4 ∨ k = 5) with rfl | rfl | rfl | rfl | rfl | rfl
    · have hn := run_next_ascii_at (P := Tryd.prog) wr w.heap.size ⟨#[115, 111, 117, 116, 104]⟩ 0 0 hI (by decide) (by decide)
      clear hI hF
      simp only [List.getD_cons_zero, List.getD_cons_succ]
      go_wp2
      go_quiet (fail)
      go_wp2
      go_roundw
      case rel => exact ⟨1, by omega, rfl, iterAt_heap _ _ _ _ _ HI.out, (iterFr HF.out _ _).drewN _⟩
      case measure => rw [show ∀ (x : World) (n : Nat), (x.drewN n).heap = x.heap from fun _ _ => rfl, iterAt_heap _ _ _ _ _ HI.out, HI.out]; decide
    · have hn := run_next_ascii_at (P := Tryd.prog) wr w.heap.size ⟨#[115, 111, 117, 116, 104]⟩ 1 0 hI (by decide) (by decide)
      clear hI hF
      simp only [List.getD_cons_zero, List.getD_cons_succ]
      go_wp2
      go_quiet (fail)
      go_wp2
      go_roundw
      case rel => exact ⟨2, by omega, rfl, iterAt_heap _ _ _ _ _ HI.out, (iterFr HF.out _ _).drewN _⟩
      case measure => rw [show ∀ (x : World) (n : Nat), (x.drewN n).heap = x.heap from fun _ _ => rfl, iterAt_heap _ _ _ _ _ HI.out, HI.out]; decide
    · have hn := run_next_ascii_at (P := Tryd.prog) wr w.heap.size ⟨#[115, 111, 117, 116, 104]⟩ 2 0 hI (by decide) (by decide)
      clear hI hF
      simp only [List.getD_cons_zero, List.getD_cons_succ]
      go_wp2
      go_quiet (fail)
      go_wp2
      go_roundw
      case rel => exact ⟨3, by omega, rfl, iterAt_heap _ _ _ _ _ HI.out, (iterFr HF.out _ _).drewN _⟩
      case measure => rw [show ∀ (x : World) (n : Nat), (x.drewN n).heap = x.heap from fun _ _ => rfl, iterAt_heap _ _ _ _ _ HI.out, HI.out]; decide
    · have hn := run_next_ascii_at (P := Tryd.prog) wr w.heap.size ⟨#[115, 111, 117, 116, 104]⟩ 3 0 hI (by decide) (by decide)
      clear hI hF
      simp only [List.getD_cons_zero, List.getD_cons_succ]
      go_wp2
      go_quiet (fail)
      go_wp2
      go_roundw
      case rel => exact ⟨4, by omega, rfl, iterAt_heap _ _ _ _ _ HI.out, (iterFr HF.out _ _).drewN _⟩
      case measure => rw [show ∀ (x : World) (n : Nat), (x.drewN n).heap = x.heap from fun _ _ => rfl, iterAt_heap _ _ _ _ _ HI.out, HI.out]; decide
    · have hn := run_next_ascii_at (P := Tryd.prog) wr w.heap.size ⟨#[115, 111, 117, 116, 104]⟩ 4 0 hI (by decide) (by decide)
      clear hI hF
      simp only [List.getD_cons_zero, List.getD_cons_succ]
      go_wp2
      go_quiet (fail)
      go_wp2
      go_roundw
      case rel => exact ⟨5, by omega, rfl, iterAt_heap _ _ _ _ _ HI.out, (iterFr HF.out _ _).drewN _⟩
      case measure => rw [show ∀ (x : World) (n : Nat), (x.drewN n).heap = x.heap from fun _ _ => rfl, iterAt_heap _ _ _ _ _ HI.out, HI.out]; decide
    · have hn := run_next_end_at (P := Tryd.prog) wr w.heap.size ⟨#[115, 111, 117, 116, 104]⟩ 5 0 hI (by decide)
      clear hI hF
      simp only [List.getD_cons_zero, List.getD_cons_succ]
      go_wp2
      go_ret
      exact ⟨rfl, HF.out⟩
end Go.Proofs.YtklnbcofmhlkdaaDoor
namespace Go.Proofs.YtklnbcofmhlkdaaDoor
open Go.RowKit Go.Lib Rl Go.Shelf
theorem low_mouxh : isLow ⟨#[109, 111, 117, 120, 104]⟩ := by unfold isLow; decide
theorem low_mouth : isLow ⟨#[109, 111, 117, 116, 104]⟩ := by unfold isLow; decide
theorem low_south : isLow ⟨#[115, 111, 117, 116, 104]⟩ := by unfold isLow; decide
theorem cell_fr {w w' : World} {b o : Nat} {v : Value} (h : w.cell? ⟨b, o, none⟩ = some v) (hF : Fr [] w w') : w'.cell? ⟨b, o, none⟩ = some v := by
  unfold World.cell? at h ⊢
  cases hb : w.heap[b]? with
  | none => simp [hb] at h
  | some x => simpa [hF.at_ hb (by simp), hb] using h

set_option maxRecDepth 100000 in
set_option maxHeartbeats 1000000 in
theorem indexf40 (b : Bool) (g cap : Nat) (p1 p2 : Nat) (y : ByteArray) (w : World) (hc : w.cell? ⟨g, 0, none⟩ = some (.string y))
    (H : ∀ W, Fr [] w W → Calls Tryd.prog 40 #[.string y, .pointer (some ⟨p1, 0, none⟩), .pointer (some ⟨p2, 0, none⟩)] W fun e w' => e = .returned (.bool b) ∧ Fr [] W w') :
    Calls Tryd.prog 51 #[.slice (some ⟨g, 0, none⟩) 1 cap, .func (.func 40) #[] #[.pointer (some ⟨p1, 0, none⟩), .pointer (some ⟨p2, 0, none⟩)]] w fun e w' => e = .returned (.int .i64 (if b then 0 else -1)) ∧ Fr [] w w' := by
  have HH := Lib.hid H
  clear H
  cases b
  · go_enter Tryd.func51, Tryd.ntmps51
    go_wp2
    refine wp_loop_rounds 2 ?_
    rw [rounds_succ]
    go_wp2_with (go_at_call 40; refine (HH.out _ (Fr.refl [] _)).mono ?_; rintro e w1 ⟨rfl, hF⟩; have HF := Lib.hid hF; clear hF)
    rw [rounds_succ]
    go_wp2
    go_ret
    exact ⟨rfl, HF.out⟩
  · go_enter Tryd.func51, Tryd.ntmps51
    go_wp2
    refine wp_loop_rounds 2 ?_
    rw [rounds_succ]
    go_wp2_with (go_at_call 40; refine (HH.out _ (Fr.refl [] _)).mono ?_; rintro e w1 ⟨rfl, hF⟩; have HF := Lib.hid hF; clear hF)
    go_ret
    exact ⟨rfl, HF.out⟩
set_option maxRecDepth 100000 in
set_option maxHeartbeats 1000000 in
theorem containsf40 (b : Bool) (g cap : Nat) (p1 p2 : Nat) (y : ByteArray) (w : World) (hc : w.cell? ⟨g, 0, none⟩ = some (.string y))
    (H : ∀ W, Fr [] w W → Calls Tryd.prog 40 #[.string y, .pointer (some ⟨p1, 0, none⟩), .pointer (some ⟨p2, 0, none⟩)] W fun e w' => e = .returned (.bool b) ∧ Fr [] W w') :
    Calls Tryd.prog 39 #[.slice (some ⟨g, 0, none⟩) 1 cap, .func (.func 40) #[] #[.pointer (some ⟨p1, 0, none⟩), .pointer (some ⟨p2, 0, none⟩)]] w fun e w' => e = .returned (.bool b) ∧ Fr [] w w' := by
  have HC := Lib.hid (indexf40 b g cap p1 p2 y w hc H)
  clear hc H
  cases b
  · go_enter Tryd.func39, Tryd.ntmps39
    go_wp2_with (go_at_call 51; refine HC.out.mono ?_; rintro e w1 ⟨rfl, hF⟩; have HF := Lib.hid hF; clear hF)
    go_ret
    exact ⟨rfl, HF.out⟩
  · go_enter Tryd.func39, Tryd.ntmps39
    go_wp2_with (go_at_call 51; refine HC.out.mono ?_; rintro e w1 ⟨rfl, hF⟩; have HF := Lib.hid hF; clear hF)
    go_ret
    exact ⟨rfl, HF.out⟩

set_option maxRecDepth 100000 in
set_option maxHeartbeats 1000000 in
theorem indexf50 (b : Bool) (g cap : Nat) (p1 : Nat) (y : ByteArray) (w : World) (hc : w.cell? ⟨g, 0, none⟩ = some (.string y))
    (H : ∀ W, Fr [] w W → Calls Tryd.prog 50 #[.string y, .pointer (some ⟨p1, 0, none⟩)] W fun e w' => e = .returned (.bool b) ∧ Fr [] W w') :
    Calls Tryd.prog 51 #[.slice (some ⟨g, 0, none⟩) 1 cap, .func (.func 50) #[] #[.pointer (some ⟨p1, 0, none⟩)]] w fun e w' => e = .returned (.int .i64 (if b then 0 else -1)) ∧ Fr [] w w' := by
  have HH := Lib.hid H
  clear H
  cases b
  · go_enter Tryd.func51, Tryd.ntmps51
    go_wp2
    refine wp_loop_rounds 2 ?_
    rw [rounds_succ]
    go_wp2_with (go_at_call 50; refine (HH.out _ (Fr.refl [] _)).mono ?_; rintro e w1 ⟨rfl, hF⟩; have HF := Lib.hid hF; clear hF)
    rw [rounds_succ]
    go_wp2
    go_ret
    exact ⟨rfl, HF.out⟩
  · go_enter Tryd.func51, Tryd.ntmps51
    go_wp2
    refine wp_loop_rounds 2 ?_
    rw [rounds_succ]
    go_wp2_with (go_at_call 50; refine (HH.out _ (Fr.refl [] _)).mono ?_; rintro e w1 ⟨rfl, hF⟩; have HF := Lib.hid hF; clear hF)
    go_ret
    exact ⟨rfl, HF.out⟩
set_option maxRecDepth 100000 in
set_option maxHeartbeats 1000000 in
theorem containsf50 (b : Bool) (g cap : Nat) (p1 : Nat) (y : ByteArray) (w : World) (hc : w.cell? ⟨g, 0, none⟩ = some (.string y))
    (H : ∀ W, Fr [] w W → Calls Tryd.prog 50 #[.string y, .pointer (some ⟨p1, 0, none⟩)] W fun e w' => e = .returned (.bool b) ∧ Fr [] W w') :
    Calls Tryd.prog 39 #[.slice (some ⟨g, 0, none⟩) 1 cap, .func (.func 50) #[] #[.pointer (some ⟨p1, 0, none⟩)]] w fun e w' => e = .returned (.bool b) ∧ Fr [] w w' := by
  have HC := Lib.hid (indexf50 b g cap p1 y w hc H)
  clear hc H
  cases b
  · go_enter Tryd.func39, Tryd.ntmps39
    go_wp2_with (go_at_call 51; refine HC.out.mono ?_; rintro e w1 ⟨rfl, hF⟩; have HF := Lib.hid hF; clear hF)
    go_ret
    exact ⟨rfl, HF.out⟩
  · go_enter Tryd.func39, Tryd.ntmps39
    go_wp2_with (go_at_call 51; refine HC.out.mono ?_; rintro e w1 ⟨rfl, hF⟩; have HF := Lib.hid hF; clear hF)
    go_ret
    exact ⟨rfl, HF.out⟩

set_option maxRecDepth 100000 in
set_option maxHeartbeats 2000000 in
theorem closure50 (p1 : Nat) (w : World) (hc : w.cell? ⟨p1, 0, none⟩ = some (.int .i64 5)) :
    Calls Tryd.prog 50 #[.string ⟨#[109, 111, 117, 120, 104]⟩, .pointer (some ⟨p1, 0, none⟩)] w fun e w' => e = .returned (.bool false) ∧ Fr [] w w' := by
  have HC := Lib.hid hc
  clear hc
  go_enter Tryd.func50, Tryd.ntmps50
  go_wp2_with (go_at_call 48; refine (word_yes ⟨#[109, 111, 117, 120, 104]⟩ (by decide) (by decide) low_mouxh _).mono ?_; rintro e w1 ⟨rfl, hF⟩; have hc : w1.cell? ⟨p1, 0, none⟩ = some (.int .i64 5) := cell_fr HC.out hF; have HF := Lib.hid hF; clear hF)
  go_ret
  exact ⟨rfl, HF.out⟩

set_option maxRecDepth 100000 in
set_option maxHeartbeats 2000000 in
theorem closure40_mouth (p1 p2 : Nat) (w : World) (x1 : w.cell? ⟨p1, 0, none⟩ = some (.string ⟨#[109, 111, 117, 116, 104]⟩)) (x2 : w.cell? ⟨p2, 1, none⟩ = some (.int .i64 1)) :
    Calls Tryd.prog 40 #[.string ⟨#[109, 111, 117, 120, 104]⟩, .pointer (some ⟨p1, 0, none⟩), .pointer (some ⟨p2, 0, none⟩)] w fun e w' => e = .returned (.bool false) ∧ Fr [] w w' := by
  have e1 : ∀ W, Fr [] w W → W.cell? ⟨p1, 0, none⟩ = some (.string ⟨#[109, 111, 117, 116, 104]⟩) := fun W hF => cell_fr x1 hF
  have e2 : ∀ W, Fr [] w W → W.cell? ⟨p2, 1, none⟩ = some (.int .i64 1) := fun W hF => cell_fr x2 hF
  have E1 := Lib.hid e1
  have E2 := Lib.hid e2
  clear e1 e2
  go_enter Tryd.func40, Tryd.ntmps40
  go_wp2
  go_region_with (first
    | (go_at_call 41; refine (apart_one _).mono ?_; rintro e w1 ⟨rfl, hF⟩; have HF : Hid (Fr [] w w1) := ((Fr.refl [] w).drew).trans hF; have y1 := E1.out w1 HF.out; have y2 := E2.out w1 HF.out; clear hF)
    | fail)
  all_goals go_wp2
  all_goals go_ret
  all_goals exact ⟨rfl, HF.out⟩
set_option maxRecDepth 100000 in
set_option maxHeartbeats 2000000 in
theorem closure40_south (p1 p2 : Nat) (w : World) (x1 : w.cell? ⟨p1, 0, none⟩ = some (.string ⟨#[115, 111, 117, 116, 104]⟩)) (x2 : w.cell? ⟨p2, 1, none⟩ = some (.int .i64 1)) :
    Calls Tryd.prog 40 #[.string ⟨#[109, 111, 117, 120, 104]⟩, .pointer (some ⟨p1, 0, none⟩), .pointer (some ⟨p2, 0, none⟩)] w fun e w' => e = .returned (.bool true) ∧ Fr [] w w' := by
  have e1 : ∀ W, Fr [] w W → W.cell? ⟨p1, 0, none⟩ = some (.string ⟨#[115, 111, 117, 116, 104]⟩) := fun W hF => cell_fr x1 hF
  have e2 : ∀ W, Fr [] w W → W.cell? ⟨p2, 1, none⟩ = some (.int .i64 1) := fun W hF => cell_fr x2 hF
  have E1 := Lib.hid e1
  have E2 := Lib.hid e2
  clear e1 e2
  go_enter Tryd.func40, Tryd.ntmps40
  go_wp2
  go_region_with (first
    | (go_at_call 41; refine (apart_two _).mono ?_; rintro e w1 ⟨rfl, hF⟩; have HF : Hid (Fr [] w w1) := ((Fr.refl [] w).drew).trans hF; have y1 := E1.out w1 HF.out; have y2 := E2.out w1 HF.out; clear hF)
    | fail)
  all_goals go_wp2
  all_goals go_ret
  all_goals exact ⟨rfl, HF.out⟩
end Go.Proofs.YtklnbcofmhlkdaaDoor
namespace Go.Proofs.YtklnbcofmhlkdaaDoor
open Go.RowKit Go.Lib Rl Go.Shelf
theorem ne_ms : ((⟨#[109, 111, 117, 116, 104]⟩ : ByteArray).toList == (⟨#[115, 111, 117, 116, 104]⟩ : ByteArray).toList) = false := by
  first | kernel_rfl | decide +kernel
set_option maxRecDepth 100000 in
set_option maxHeartbeats 4000000 in
theorem vocab_ex (g : Nat) (w : World) (x1 : w.cell? ⟨g, 1, none⟩ = some (.string ⟨#[115, 111, 117, 116, 104]⟩)) (x2 : w.cell? ⟨g, 2, none⟩ = some (.string ⟨#[109, 111, 117, 116, 104]⟩)) :
    Calls Tryd.prog 37 #[.slice (some ⟨g, 1, none⟩) 2 2] w fun e w' => e = .returned (.bool true) ∧ Fr [] w w' := by
  have e1 : ∀ W, Fr [] w W → W.cell? ⟨g, 1, none⟩ = some (.string ⟨#[115, 111, 117, 116, 104]⟩) := fun W hF => cell_fr x1 hF
  have e2 : ∀ W, Fr [] w W → W.cell? ⟨g, 2, none⟩ = some (.string ⟨#[109, 111, 117, 116, 104]⟩) := fun W hF => cell_fr x2 hF
  have E1 := Lib.hid e1
  have E2 := Lib.hid e2
  clear e1 e2
  go_enter Tryd.func37, Tryd.ntmps37
  go_wp2
  refine wp_loop_rounds 3 ?_
  rw [rounds_succ]
  go_wp2_with (first
    | (go_at_call 48; refine (word_yes ⟨#[115, 111, 117, 116, 104]⟩ (by decide) (by decide) low_south _).mono ?_; rintro e w1 ⟨rfl, hF⟩; have HF := Lib.hid hF; have y1 := E1.out w1 HF.out; have y2 := E2.out w1 HF.out; clear hF)
    | (go_at_call 49; refine (contains_none _ _ ⟨#[115, 111, 117, 116, 104]⟩ _).mono ?_; rintro e w2 ⟨rfl, rfl⟩))
  rw [rounds_succ]
  go_wp2_with (first
    | (go_at_call 48; refine (word_yes ⟨#[109, 111, 117, 116, 104]⟩ (by decide) (by decide) low_mouth _).mono ?_; rintro e w3 ⟨rfl, hF⟩; have HF3 : Hid (Fr [] w w3) := HF.out.trans hF; have y3 := E1.out w3 HF3.out; have y4 := E2.out w3 HF3.out; clear hF)
    | (go_at_call 49; refine (contains_one _ _ _ ⟨#[109, 111, 117, 116, 104]⟩  ⟨#[115, 111, 117, 116, 104]⟩ _ y3 ne_ms).mono ?_; rintro e w4 ⟨rfl, rfl⟩))
  rw [rounds_succ]
  go_wp2
  go_ret
  exact ⟨rfl, HF3.out⟩
set_option maxRecDepth 100000 in
set_option maxHeartbeats 4000000 in
theorem heard_ex (g g2 : Nat) (w : World) (x1 : w.cell? ⟨g, 1, none⟩ = some (.string ⟨#[115, 111, 117, 116, 104]⟩)) (x3 : w.cell? ⟨g2, 0, none⟩ = some (.string ⟨#[109, 111, 117, 120, 104]⟩)) :
    Calls Tryd.prog 38 #[.slice (some ⟨g, 1, none⟩) 2 2, .agg #[.slice (some ⟨g2, 0, none⟩) 1 1, .int .i64 1]] w fun e w' => e = .returned (.bool true) ∧ Fr [] w w' := by
  have e1 : ∀ W, Fr [] w W → W.cell? ⟨g, 1, none⟩ = some (.string ⟨#[115, 111, 117, 116, 104]⟩) := fun W hF => cell_fr x1 hF
  have e3 : ∀ W, Fr [] w W → W.cell? ⟨g2, 0, none⟩ = some (.string ⟨#[109, 111, 117, 120, 104]⟩) := fun W hF => cell_fr x3 hF
  have E1 := Lib.hid e1
  have E3 := Lib.hid e3
  clear e1 e3
  have A1 : Fr [] w (w.alloc (.cells #[.slice (some ⟨g2, 0, none⟩) 1 1, .int .i64 1] 76)) := (Fr.refl [] w).alloc _
  have y1 := E1.out _ A1
  have y3 := E3.out _ A1
  have A2 : Fr [] w ((w.alloc (.cells #[.slice (some ⟨g2, 0, none⟩) 1 1, .int .i64 1] 76)).alloc (.cells #[.int .i64 5] 3)) := A1.alloc _
  have z1 := E1.out _ A2
  have z3 := E3.out _ A2
  have zl : ((w.alloc (.cells #[.slice (some ⟨g2, 0, none⟩) 1 1, .int .i64 1] 76)).alloc (.cells #[.int .i64 5] 3)).cell? ⟨w.heap.size + 1, 0, none⟩ = some (.int .i64 5) := by
    rw [cell_blk (b := w.heap.size + 1) (by have := alloc_new (w.alloc (.cells #[.slice (some ⟨g2, 0, none⟩) 1 1, .int .i64 1] 76)) (.cells #[.int .i64 5] 3); simpa using this)]; rfl
  go_enter Tryd.func38, Tryd.ntmps38
  go_wp2_with (first
    | (go_at_call 39; refine (containsf50 false g2 1 (w.heap.size + 1) ⟨#[109, 111, 117, 120, 104]⟩ _ z3 (fun W hF => closure50 _ W (cell_fr zl hF))).mono ?_; rintro e w1 ⟨rfl, hF⟩; have HF := Lib.hid (A2.trans hF); clear hF)
    | fail)
  go_ret
  exact ⟨rfl, HF.out⟩
end Go.Proofs.YtklnbcofmhlkdaaDoor
namespace Go.Proofs.YtklnbcofmhlkdaaDoor
open Go.RowKit Go.Lib Rl Go.Shelf
def IdPost (w : World) (e : Ending) (w' : World) : Prop :=
  ∃ g off cap, e = .returned (.tuple #[.slice (some ⟨g, off, none⟩) 1 cap, .int .i64 0]) ∧ w'.cell? ⟨g, off, none⟩ = some (.int .i64 1) ∧ Fr [] w w'
def encI1 (x : Int) : List Value := [.int .i64 x]
theorem info3y : (Tryd.prog.info? 3).map (fun i => (i.zero, i.size, i.bytes)) = some (some (.int .i64 0), 1, 8) := by kernel_rfl
set_option maxRecDepth 100000 in
set_option maxHeartbeats 8000000 in
theorem ident_ex (g g2 : Nat) (w : World) (x1 : w.cell? ⟨g, 1, none⟩ = some (.string ⟨#[115, 111, 117, 116, 104]⟩)) (x2 : w.cell? ⟨g, 2, none⟩ = some (.string ⟨#[109, 111, 117, 116, 104]⟩)) (x3 : w.cell? ⟨g2, 0, none⟩ = some (.string ⟨#[109, 111, 117, 120, 104]⟩)) :
    Calls Tryd.prog 29 #[.slice (some ⟨g, 1, none⟩) 2 2, .agg #[.slice (some ⟨g2, 0, none⟩) 1 1, .int .i64 1]] w (IdPost w) := by
  have E1 : Hid (∀ W, Fr [] w W → W.cell? ⟨g, 1, none⟩ = some (.string ⟨#[115, 111, 117, 116, 104]⟩)) := fun W hF => cell_fr x1 hF
  have E2 : Hid (∀ W, Fr [] w W → W.cell? ⟨g, 2, none⟩ = some (.string ⟨#[109, 111, 117, 116, 104]⟩)) := fun W hF => cell_fr x2 hF
  have E3 : Hid (∀ W, Fr [] w W → W.cell? ⟨g2, 0, none⟩ = some (.string ⟨#[109, 111, 117, 120, 104]⟩)) := fun W hF => cell_fr x3 hF
  clear x1 x2 x3
  have A1 : Hid (Fr [] w (w.alloc (.cells #[.slice (some ⟨g2, 0, none⟩) 1 1, .int .i64 1] 76))) := (Fr.refl [] w).alloc _
  have BB : Hid (∀ W, Fr [] (w.alloc (.cells #[.slice (some ⟨g2, 0, none⟩) 1 1, .int .i64 1] 76)) W → W.heap[w.heap.size]? = some (.cells #[.slice (some ⟨g2, 0, none⟩) 1 1, .int .i64 1] 76 (0, 0))) := fun W hF => hF.at_ (alloc_new w _) (by simp)
  go_enter Tryd.func29, Tryd.ntmps29
  go_wp2_with (first
    | (go_at_call 37; refine (vocab_ex g _ (E1.out _ A1.out) (E2.out _ A1.out)).mono ?_; rintro e w1 ⟨rfl, hF⟩; have F1 : Hid (Fr [] (w.alloc (.cells #[.slice (some ⟨g2, 0, none⟩) 1 1, .int .i64 1] 76)) w1) := hF; have yw10 : (w1).cell? ⟨w.heap.size, 0, none⟩ = some (.slice (some ⟨g2, 0, none⟩) 1 1) := (cell_blk (BB.out _ F1.out) 0).trans rfl; have yw11 : (w1).cell? ⟨w.heap.size, 1, none⟩ = some (.int .i64 1) := (cell_blk (BB.out _ F1.out) 1).trans rfl; have yw1s := E1.out _ (A1.out.trans F1.out); have yw1m := E2.out _ (A1.out.trans F1.out); have yw1x := E3.out _ (A1.out.trans F1.out); clear hF)
    | (go_at_call 38; refine (heard_ex g g2 _ yw1s yw1x).mono ?_; rintro e w2 ⟨rfl, hF⟩; have F2 : Hid (Fr [] (w.alloc (.cells #[.slice (some ⟨g2, 0, none⟩) 1 1, .int .i64 1] 76)) w2) := F1.out.trans hF; have yw20 : (w2).cell? ⟨w.heap.size, 0, none⟩ = some (.slice (some ⟨g2, 0, none⟩) 1 1) := (cell_blk (BB.out _ F2.out) 0).trans rfl; have yw21 : (w2).cell? ⟨w.heap.size, 1, none⟩ = some (.int .i64 1) := (cell_blk (BB.out _ F2.out) 1).trans rfl; have yw2s := E1.out _ (A1.out.trans F2.out); have yw2m := E2.out _ (A1.out.trans F2.out); have yw2x := E3.out _ (A1.out.trans F2.out); have F2a : Hid (Fr [] (w.alloc (.cells #[.slice (some ⟨g2, 0, none⟩) 1 1, .int .i64 1] 76)) (w2.alloc (.cells #[.string ⟨#[115, 111, 117, 116, 104]⟩] 9))) := F2.out.alloc _; have yq0 : (w2.alloc (.cells #[.string ⟨#[115, 111, 117, 116, 104]⟩] 9)).cell? ⟨w.heap.size, 0, none⟩ = some (.slice (some ⟨g2, 0, none⟩) 1 1) := (cell_blk (BB.out _ F2a.out) 0).trans rfl; have yq1 : (w2.alloc (.cells #[.string ⟨#[115, 111, 117, 116, 104]⟩] 9)).cell? ⟨w.heap.size, 1, none⟩ = some (.int .i64 1) := (cell_blk (BB.out _ F2a.out) 1).trans rfl; have yqs := E1.out _ (A1.out.trans F2a.out); have yqm := E2.out _ (A1.out.trans F2a.out); have yqx := E3.out _ (A1.out.trans F2a.out); clear hF))
  refine wp_loop_rounds 3 ?_
  rw [rounds_succ]
  go_wp2_with (go_at_call 39; refine (containsf40 true g2 1 w2.heap.size w.heap.size ⟨#[109, 111, 117, 120, 104]⟩ _ yqx (fun W hF => closure40_south _ _ W (cell_fr ((cell_blk (alloc_new w2 _) 0).trans rfl) hF) (cell_fr yq1 hF))).mono ?_; rintro e w3 ⟨rfl, hF⟩; have F3 : Hid (Fr [] (w.alloc (.cells #[.slice (some ⟨g2, 0, none⟩) 1 1, .int .i64 1] 76)) w3) := F2a.out.trans hF; have yw30 : (w3).cell? ⟨w.heap.size, 0, none⟩ = some (.slice (some ⟨g2, 0, none⟩) 1 1) := (cell_blk (BB.out _ F3.out) 0).trans rfl; have yw31 : (w3).cell? ⟨w.heap.size, 1, none⟩ = some (.int .i64 1) := (cell_blk (BB.out _ F3.out) 1).trans rfl; have yw3s := E1.out _ (A1.out.trans F3.out); have yw3m := E2.out _ (A1.out.trans F3.out); have yw3x := E3.out _ (A1.out.trans F3.out); have F3a : Hid (Fr [] (w.alloc (.cells #[.slice (some ⟨g2, 0, none⟩) 1 1, .int .i64 1] 76)) (w3.alloc (.cells #[.string ⟨#[109, 111, 117, 116, 104]⟩] 9))) := F3.out.alloc _; have yr0 : (w3.alloc (.cells #[.string ⟨#[109, 111, 117, 116, 104]⟩] 9)).cell? ⟨w.heap.size, 0, none⟩ = some (.slice (some ⟨g2, 0, none⟩) 1 1) := (cell_blk (BB.out _ F3a.out) 0).trans rfl; have yr1 : (w3.alloc (.cells #[.string ⟨#[109, 111, 117, 116, 104]⟩] 9)).cell? ⟨w.heap.size, 1, none⟩ = some (.int .i64 1) := (cell_blk (BB.out _ F3a.out) 1).trans rfl; have yrs := E1.out _ (A1.out.trans F3a.out); have yrm := E2.out _ (A1.out.trans F3a.out); have yrx := E3.out _ (A1.out.trans F3a.out); clear hF)
  rw [rounds_succ]
  go_wp2_with (first
    | (go_at_call 39; refine (containsf40 false g2 1 w3.heap.size w.heap.size ⟨#[109, 111, 117, 120, 104]⟩ _ yrx (fun W hF => closure40_mouth _ _ W (cell_fr ((cell_blk (alloc_new w3 _) 0).trans rfl) hF) (cell_fr yr1 hF))).mono ?_; rintro e w4 ⟨rfl, hF⟩; have F4 : Hid (Fr [] (w.alloc (.cells #[.slice (some ⟨g2, 0, none⟩) 1 1, .int .i64 1] 76)) w4) := F3a.out.trans hF; clear hF)
    | (refine wpList_apd rfl (.tmp 28) (.tmp 30) 42 rfl w4.heap.size 3 (.int .i64 0) 1 8 encI1 Tryd.underlying42 info3y rfl (by decide) (fun _ => rfl) (by simp [encI1, Value.oneCell']) _ [] rfl (Own.nil _ _ _ _ _) (.slice (some ⟨w4.heap.size, 0, none⟩) 1 1) [1] rfl (Rd.of_blk (l := [1]) (alloc_new w4 _) rfl (by simp) (by simp [maxLen])) (by decide) (by simp) (by simp) ?_; intro v' w5 hA5; have HO5 := Lib.hid hA5.own; have F5 : Hid (Fr [] w w5) := A1.out.trans ((F4.out.alloc _).trans (show Fr [] _ w5 from hA5.fr)); clear hA5))
  rw [rounds_succ]
  go_wp2
  go_ret2
  rcases HO5.out.rd with ⟨_, h⟩ | ⟨g5, off, cap, rfl, h1, h2, h3, h4⟩
  · cases h
  · exact ⟨g5, off, cap, rfl, h4 0 _ rfl, F5.out⟩
set_option maxRecDepth 100000 in
set_option maxHeartbeats 8000000 in
theorem decode_ex (g : Nat) (w : World) (x1 : w.cell? ⟨g, 1, none⟩ = some (.string ⟨#[115, 111, 117, 116, 104]⟩)) (x2 : w.cell? ⟨g, 2, none⟩ = some (.string ⟨#[109, 111, 117, 116, 104]⟩)) :
    Calls Tryd.prog 16 #[.slice (some ⟨g, 1, none⟩) 2 2, .string ⟨#[109, 111, 117, 120, 104]⟩, .int .i64 1] w fun e w' => e = .returned (.tuple #[.int .i64 1, .int .i64 0]) ∧ Fr [] w w' := by
  have E1 : Hid (Fr [] w (w.alloc (.cells #[.string ⟨#[109, 111, 117, 120, 104]⟩] 9))) := (Fr.refl [] w).alloc _
  have C1 := Lib.hid (cell_fr x1 E1.out)
  have C2 := Lib.hid (cell_fr x2 E1.out)
  clear x1 x2
  go_enter Tryd.func16, Tryd.ntmps16
  go_wp2_with (go_at_call 29; refine (ident_ex g w.heap.size _ C1.out C2.out ((cell_blk (alloc_new w _) 0).trans rfl)).mono ?_; rintro e w1 ⟨g5, off, cap, rfl, hc, hF⟩; have F1 : Hid (Fr [] w w1) := E1.out.trans hF; clear hF)
  go_ret2
  exact ⟨rfl, F1.out⟩
end Go.Proofs.YtklnbcofmhlkdaaDoor
namespace Go.Proofs.YtklnbcofmhlkdaaDoor
open Go.RowKit
theorem alloc_new1 (w : World) (x y : Obj) : ((w.alloc x).alloc y).heap[w.heap.size + 1]? = some y := by
  have := alloc_new (w.alloc x) y
  simpa using this
set_option maxRecDepth 100000 in
set_option maxHeartbeats 1000000 in
theorem far_yes (a : Option Addr) (n : Nat) (cap : Nat) (w : World) (h : (60 < n ∧ n ≤ 200) ∨ 300 < n) :
    Calls Tryd.prog 5 #[.slice a n cap] w fun e w' => e = .returned (.bool true) ∧ w' = w := by
  rcases h with ⟨h1, h2⟩ | h1
  · have d1 : decide ((60 : Int) < n) = true := decide_eq_true (by omega)
    have d2 : decide ((n : Int) ≤ 200) = true := decide_eq_true (by omega)
    go_enter Tryd.func5, Tryd.ntmps5
    go_wp2
    go_ret
    exact ⟨rfl, rfl⟩
  · have d1 : decide ((60 : Int) < n) = true := decide_eq_true (by omega)
    have d2 : decide ((n : Int) ≤ 200) = false := decide_eq_false (by omega)
    have d3 : decide ((300 : Int) < n) = true := decide_eq_true (by omega)
    go_enter Tryd.func5, Tryd.ntmps5
    go_wp2
    go_ret
    exact ⟨rfl, rfl⟩
set_option maxRecDepth 100000 in
set_option maxHeartbeats 1000000 in
theorem far_no (a : Option Addr) (n : Nat) (cap : Nat) (w : World) (h : ¬ ((60 < n ∧ n ≤ 200) ∨ 300 < n)) :
    Calls Tryd.prog 5 #[.slice a n cap] w fun e w' => e = .returned (.bool false) ∧ w' = w := by
  by_cases h0 : n ≤ 60
  · have d1 : decide ((60 : Int) < n) = false := decide_eq_false (by omega)
    have d3 : decide ((300 : Int) < n) = false := decide_eq_false (by omega)
    go_enter Tryd.func5, Tryd.ntmps5
    go_wp2
    go_ret
    exact ⟨rfl, rfl⟩
  · have d1 : decide ((60 : Int) < n) = true := decide_eq_true (by omega)
    have d2 : decide ((n : Int) ≤ 200) = false := decide_eq_false (by omega)
    have d3 : decide ((300 : Int) < n) = false := decide_eq_false (by omega)
    go_enter Tryd.func5, Tryd.ntmps5
    go_wp2
    go_ret
    exact ⟨rfl, rfl⟩
set_option maxRecDepth 100000 in
set_option maxHeartbeats 1000000 in
theorem same_one (a b ao bo ca cb : Nat) (w : World) (h1 : w.cell? ⟨a, ao, none⟩ = some (.int .i64 1)) (h2 : w.cell? ⟨b, bo, none⟩ = some (.int .i64 1)) :
    Calls Tryd.prog 17 #[.slice (some ⟨a, ao, none⟩) 1 ca, .slice (some ⟨b, bo, none⟩) 1 cb] w fun e w' => e = .returned (.bool true) ∧ Fr [] w w' := by
  go_enter Tryd.func17, Tryd.ntmps17
  go_wp2
  refine wp_loop_rounds 2 ?_
  rw [rounds_succ]
  go_wp2
  go_quiet (fail)
  go_wp2
  rw [rounds_succ]
  go_wp2
  go_ret
  exact ⟨rfl, (Fr.refl [] w).drewN _⟩
set_option maxRecDepth 100000 in
set_option maxHeartbeats 1000000 in
theorem example_any (w : World) :
    Calls Tryd.prog 15 #[] w fun e w' => ∃ b b2, e = .returned (.tuple #[.slice (some ⟨b, 0, none⟩) 3 3, .slice (some ⟨b2, 0, none⟩) 3 3]) ∧
      w'.heap[b]? = some (.cells #[.int .i64 1, .int .i64 0, .int .i64 1, .int .i64 2, .int .i64 0, .int .i64 0, .int .i64 2, .int .i64 0, .int .i64 0] 38 (0, 0)) ∧
      w'.heap[b2]? = some (.cells #[.string ⟨#[110, 111, 114, 116, 104]⟩, .string ⟨#[115, 111, 117, 116, 104]⟩, .string ⟨#[109, 111, 117, 116, 104]⟩] 9 (0, 0)) ∧ Fr [] w w' := by
  go_enter Tryd.func15, Tryd.ntmps15
  go_wp2
  go_ret2
  exact ⟨_, _, rfl, alloc_at (alloc_new w _) _, alloc_new1 w _ _, ((Fr.refl [] w).alloc _).alloc _⟩
end Go.Proofs.YtklnbcofmhlkdaaDoor
namespace Go.Proofs.YtklnbcofmhlkdaaDoor
open Go.RowKit Rl
def exL : List Ev := [⟨1, 0, 1⟩, ⟨2, 0, 0⟩, ⟨2, 0, 0⟩]
def exArr : Array Value := #[I 3, I 4, I 1, I 1, I 3, I 0, I 1, I 0, I 0, I 0, I 0, I 0, I 0, I 3, I 0, I 1, I 1, I 0, I 0, I 0, I 0, I 0, I 0, I 0, I 0, I 0, I 0, I 0, I 0, I 0, I 0, I 0, I 0, I 0, I 0, I 0, I 0, I 1]
theorem ex_arr : ((Rl.start 3 0).runs exL).arr = exArr := by kernel_rfl
theorem ex_cell (w : World) (a b c d e : Obj) (Z : Array Value) : ((((((w.alloc a).alloc b).alloc c).alloc (.cells (#[.int .i64 1] ++ Z) 3)).alloc d).alloc e).drew.cell? ⟨w.heap.size + 1 + 1 + 1, 0, none⟩ = some (.int .i64 1) := by
  have h := alloc_new (((w.alloc a).alloc b).alloc c) (.cells (#[.int .i64 1] ++ Z) 3)
  have e1 : (((w.alloc a).alloc b).alloc c).heap.size = w.heap.size + 1 + 1 + 1 := by simp
  rw [e1] at h
  have h2 := cell_blk (alloc_at (alloc_at h d) e) 0
  exact h2.trans (by rw [Array.getElem?_append_left (by decide)]; rfl)
theorem whole38 (C D : Array Value) (hC : C.size = 38) (hD : D.size = 38) : (splice C.toList 0 (Value.agg D).cells.toList).toArray = D := by
  have e : C.toList.drop D.size = [] := List.drop_eq_nil_of_le (by simp; omega)
  simp [splice, Value.cells, e]
set_option maxRecDepth 100000 in
set_option maxHeartbeats 8000000 in
theorem resp_ex (b : Nat) (w : World) (hb : w.heap[b]? = some (.cells #[.int .i64 1, .int .i64 0, .int .i64 1, .int .i64 2, .int .i64 0, .int .i64 0, .int .i64 2, .int .i64 0, .int .i64 0] 38 (0, 0))) :
    Calls Tryd.prog 14 #[.int .i64 3, .int .i64 0, .slice (some ⟨b, 0, none⟩) 3 3] w fun e w' => ∃ g off cap, e = .returned (.tuple #[.slice (some ⟨g, off, none⟩) 1 cap, .int .i64 0]) ∧ w'.cell? ⟨g, off, none⟩ = some (.int .i64 1) ∧ Fr [] w w' := by
  have HR : Hid (∀ W, Fr [] w W → Calls Tryd.prog 18 #[.int .i64 3, .int .i64 0, .slice (some ⟨b, 0, none⟩) 3 3] W fun e w' => ∃ v, e = .returned (.tuple #[.agg exArr, v, .int .i64 0]) ∧ Fr [] W w') := fun W hF => by
    have h := run_good 3 0 (some ⟨b, 0, none⟩) 3 exL W (Rd.of_blk (l := exL) (hF.at_ hb (by simp)) rfl (by decide) (by decide)) (by decide) (by decide) (by decide) (by decide)
    rw [ex_arr] at h
    exact h
  clear hb
  obtain ⟨C, hC⟩ : ∃ C, C = exArr := ⟨_, rfl⟩
  rw [← hC] at HR
  have HZ : Hid (C.size = 38) := by rw [hC]; rfl
  have HO : Hid (∀ u ∈ C.toList, u.oneCell' = true) := by show ∀ u ∈ C.toList, u.oneCell' = true; rw [hC]; simp [exArr, Value.oneCell']
  have HX : Hid (∀ j, j < 12 → C[1 + j]? = ([.int .i64 4, .int .i64 1, .int .i64 1, .int .i64 3, .int .i64 0, .int .i64 1, .int .i64 0, .int .i64 0, .int .i64 0, .int .i64 0, .int .i64 0, .int .i64 0] : List Value)[j]?) := by
    rw [hC]
    intro j hj
    rcases (by omega : j = 0 ∨ j = 1 ∨ j = 2 ∨ j = 3 ∨ j = 4 ∨ j = 5 ∨ j = 6 ∨ j = 7 ∨ j = 8 ∨ j = 9 ∨ j = 10 ∨ j = 11) with rfl | rfl | rfl | rfl | rfl | rfl | rfl | rfl | rfl | rfl | rfl | rfl <;> rfl
  clear hC
  have i0 : ∀ w : World, (Instr.index 53 (.agg #[.int .i64 4, .int .i64 1, .int .i64 1, .int .i64 3, .int .i64 0, .int .i64 1, .int .i64 0, .int .i64 0, .int .i64 0, .int .i64 0, .int .i64 0, .int .i64 0]) (.int .i64 0)).run Tryd.prog w = .ok (.agg #[.int .i64 4, .int .i64 1, .int .i64 1]) w := fun _ => by kernel_rfl
  have i1 : ∀ w : World, (Instr.index 53 (.agg #[.int .i64 4, .int .i64 1, .int .i64 1, .int .i64 3, .int .i64 0, .int .i64 1, .int .i64 0, .int .i64 0, .int .i64 0, .int .i64 0, .int .i64 0, .int .i64 0]) (.int .i64 1)).run Tryd.prog w = .ok (.agg #[.int .i64 3, .int .i64 0, .int .i64 1]) w := fun _ => by kernel_rfl
  have i2 : ∀ w : World, (Instr.index 53 (.agg #[.int .i64 4, .int .i64 1, .int .i64 1, .int .i64 3, .int .i64 0, .int .i64 1, .int .i64 0, .int .i64 0, .int .i64 0, .int .i64 0, .int .i64 0, .int .i64 0]) (.int .i64 2)).run Tryd.prog w = .ok (.agg #[.int .i64 0, .int .i64 0, .int .i64 0]) w := fun _ => by kernel_rfl
  have i3 : ∀ w : World, (Instr.index 53 (.agg #[.int .i64 4, .int .i64 1, .int .i64 1, .int .i64 3, .int .i64 0, .int .i64 1, .int .i64 0, .int .i64 0, .int .i64 0, .int .i64 0, .int .i64 0, .int .i64 0]) (.int .i64 3)).run Tryd.prog w = .ok (.agg #[.int .i64 0, .int .i64 0, .int .i64 0]) w := fun _ => by kernel_rfl
  go_enter Tryd.func14, Tryd.ntmps14
  go_wp2_with (first
    | (go_at_call 18; refine (HR.out _ (Fr.refl [] w)).mono ?_; rintro e w1 ⟨v, rfl, hF⟩; have F1 : Hid (Fr [] w w1) := hF; clear hF)
    | (refine wpList_st rfl 58 (.tmp 8) (.tmp 19) rfl w1.heap.size 0 (.agg C) (by first | rfl | simp [Act.eval]) (by first | rfl | simp [Act.eval]) 58 _ (alloc_new _ _) (by simp only [Value.cells]; rw [HZ.out]; exact info58) (by simp only [Value.cells]; rw [HZ.out]; exact Nat.le_refl 38) (by simpa only [Value.cells] using HO.out) C (whole38 _ _ rfl HZ.out) ?_; intro w2 hF2 hB2; have HB2 := Lib.hid hB2; have F2 : Hid (Fr [] w w2) := (F1.out.alloc _).new hF2 (by have := F1.out.size; simp; omega); clear hF2 hB2)
    | (refine wpList_ldm rfl 53 (.tmp 22) rfl w1.heap.size 1 (by first | rfl | simp [Act.eval]) 58 C HB2.out [.int .i64 4, .int .i64 1, .int .i64 1, .int .i64 3, .int .i64 0, .int .i64 1, .int .i64 0, .int .i64 0, .int .i64 0, .int .i64 0, .int .i64 0, .int .i64 0] (fun j hj => HX.out j hj) _ Tryd.underlying53 rfl (by kernel_rfl) ?_))
  refine wp_loop_rounds 5 ?_
  rw [rounds_succ]
  go_wp2
  rw [rounds_succ]
  go_wp2
  rw [rounds_succ]
  go_wp2
  rw [rounds_succ]
  go_wp2
  rw [rounds_succ]
  go_wp2
  go_ret2
  exact ⟨_, _, _, rfl, ex_cell w2 _ _ _ _ _ _, ((((((F2.out.alloc _).alloc _).alloc _).alloc _).alloc _).alloc _).drew⟩
end Go.Proofs.YtklnbcofmhlkdaaDoor
namespace Go.Proofs.YtklnbcofmhlkdaaDoor
open Go.RowKit Rl
set_option maxRecDepth 100000 in
set_option maxHeartbeats 4000000 in
theorem works_any (w : World) : Calls Tryd.prog 6 #[] w fun e w' => e = .returned (.bool true) ∧ Fr [] w w' := by
  go_enter Tryd.func6, Tryd.ntmps6
  go_wp2_with (first
    | (go_at_call 15; refine (example_any _).mono ?_; rintro e w1 ⟨b, b2, rfl, hb, hb2, hF⟩; have F1 := Lib.hid hF; have HB := Lib.hid hb; have HB2 := Lib.hid hb2; clear hF hb hb2)
    | (go_at_call 14; refine (resp_ex b _ HB.out).mono ?_; rintro e w2 ⟨g3, o3, c3, rfl, hc, hF⟩; have F2 : Hid (Fr [] w w2) := F1.out.trans hF; have HC3 := Lib.hid hc; have HB3 := Lib.hid (hF.at_ HB2.out (by simp)); clear hF hc)
    | (go_at_call 16; refine (decode_ex b2 _ ((cell_blk HB3.out 1).trans rfl) ((cell_blk HB3.out 2).trans rfl)).mono ?_; rintro e w3 ⟨rfl, hF⟩; have F3 : Hid (Fr [] w w3) := F2.out.trans hF; have HC4 := Lib.hid (cell_fr HC3.out hF); clear hF)
    | (go_at_call 17; refine (same_one g3 w3.heap.size o3 0 c3 1 _ (cell_fr HC4.out ((Fr.refl [] w3).alloc _)) ((cell_blk (alloc_new w3 _) 0).trans rfl)).mono ?_; rintro e w4 ⟨rfl, hF⟩; have F4 : Hid (Fr [] w w4) := (F3.out.alloc _).trans hF; clear hF))
  go_ret
  exact ⟨rfl, F4.out⟩
end Go.Proofs.YtklnbcofmhlkdaaDoor
