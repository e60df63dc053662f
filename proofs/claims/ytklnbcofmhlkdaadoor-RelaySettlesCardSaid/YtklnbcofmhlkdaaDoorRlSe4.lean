/- relay: slices.Clone at events; next -/
import Derived.Test.YtklnbcofmhlkdaaDoorRlSe2
import Derived.Test.YtklnbcofmhlkdaaDoorRlSe3
import Derived.Test.YtklnbcofmhlkdaaDoorRlGood
import Derived.Test.YtklnbcofmhlkdaaDoorRfWalk13
set_option linter.unusedVariables false
set_option linter.unusedSimpArgs false
namespace Go.Proofs.YtklnbcofmhlkdaaDoor
open Go.RowKit Rl

set_option maxRecDepth 100000 in
set_option maxHeartbeats 1000000 in
theorem clone_any (v : Value) (l : List Ev) (w : World) (h : Rd w encE v l) (hl : l.length ≤ 1000) :
    Calls Tryd.prog 21 #[v] w fun e w' => ∃ v', e = .returned v' ∧ Own w' w.heap.size 38 3 encE v' l ∧ Fr [] w w' := by
  have q22 : ∀ (w : World) (a : Option Addr) (n c n' c' : Nat), (binOp .eql 22 (.slice a n c) (.slice none n' c')).run Tryd.prog w = .ok (.bool a.isNone) w := fun w a n c n' c' => Lib.run_eql_slice_nil w _ _ a n c n' c' Tryd.underlying22
  rcases h with ⟨rfl, rfl⟩ | ⟨g, off, cap, rfl, h1, h2, h3, h4⟩
  · go_enter Tryd.func21, Tryd.ntmps21
    go_wp2
    go_ret
    exact ⟨_, rfl, Own.nil _ _ _ _ _, Fr.refl _ _⟩
  · have H : Hid (Rd w encE (.slice (some ⟨g, off, none⟩) l.length cap) l) := .inr ⟨g, off, cap, rfl, h1, h2, h3, h4⟩
    have HL := Lib.hid hl
    clear h1 h2 h3 h4 hl
    go_enter Tryd.func21, Tryd.ntmps21
    go_wp2_with (refine wpList_apd rfl (.tmp 5) (.tmp 6) 22 rfl w.heap.size 38 _ 3 24 encE Tryd.underlying22 info38z rfl (by decide) encE_len oneE (.slice (some ⟨w.heap.size, 0, none⟩) 0 0) [] rfl (Own.empty (Nat.le_refl _) (alloc_new w _)) (.slice (some ⟨g, off, none⟩) l.length cap) l rfl (H.out.fr0 ((Fr.refl [] w).alloc _)) (by decide) (by have := HL.out; simp; omega) (by simp) ?_; intro v' w' hA; have HA := Lib.hid hA; clear hA)
    go_ret
    exact ⟨v', rfl, by simpa using HA.out.own, ((Fr.refl [] w).alloc _).new HA.out.fr (by simp [blkOf_slice])⟩

set_option maxRecDepth 100000 in
set_option maxHeartbeats 1000000 in
theorem next_any (s : S) (w : World) :
    Calls Tryd.prog 20 #[.agg s.arr] w fun e w' => e = .returned (.func (.func 34) #[] #[.pointer (some ⟨w.heap.size, 0, none⟩)]) ∧ w' = w.alloc (.cells s.arr 58) := by
  go_enter Tryd.func20, Tryd.ntmps20
  go_wp2
  go_ret
  exact ⟨rfl, rfl⟩
end Go.Proofs.YtklnbcofmhlkdaaDoor
