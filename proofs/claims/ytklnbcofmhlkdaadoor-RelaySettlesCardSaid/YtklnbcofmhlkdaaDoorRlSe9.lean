/- relay.Settle's errors; relay.Responsible; Example, sameInts, Far -/
import Derived.Test.YtklnbcofmhlkdaaDoorRlD
import Derived.Test.YtklnbcofmhlkdaaDoorRfWalk14
set_option linter.unusedVariables false
set_option linter.unusedSimpArgs false
namespace Go.Proofs.YtklnbcofmhlkdaaDoor
open Go.RowKit Rl

set_option maxRecDepth 100000 in
set_option maxHeartbeats 1000000 in
theorem settle_bad_of (n first : Int) (ad : Option Addr) (len cap : Nat) (w : World) (c : Int) (h0 : c ≠ 0) (h : ∀ W, Calls Tryd.prog 18 #[.int .i64 n, .int .i64 first, .slice ad len cap] W (RunBad W c)) :
    Calls Tryd.prog 7 #[.int .i64 n, .int .i64 first, .slice ad len cap] w fun e w' => e = .returned (.tuple #[.slice none 0 0, .int .i64 c]) ∧ Fr [] w w' := by
  have gc : (c != 0) = true := by simpa using h0
  have H := Lib.hid h
  clear h h0
  go_enter Tryd.func7, Tryd.ntmps7
  go_wp2_with (first
    | (go_at_call 18; refine (H.out _).mono ?_; rintro e w1 ⟨rfl, hF1⟩; have HF1 := Lib.hid hF1; clear hF1)
    | (refine wpList_st rfl 58 (.tmp 8) (.tmp 23) rfl w1.heap.size 0 (.agg zeros38) (by first | rfl | simp [Act.eval]) (by first | rfl | simp [Act.eval]) 58 _ (alloc_new _ _) info58 (by simp [zeros38, Value.cells]) (by simp [zeros38, Value.cells, Value.oneCell']) zeros38 (whole_splice _ _ rfl rfl) ?_; intro w2 hF2 hB2; have HF2 : Hid (Fr [] w w2) := (HF1.out.alloc _).new hF2 (by have := HF1.out.size; simp; omega); clear hF2 hB2))
  go_ret2
  exact ⟨rfl, HF2.out⟩
theorem settle_bad (n first : Int) (ad : Option Addr) (len cap : Nat) (w : World) (c : Int) (hc : errC n first len = c) (h0 : c ≠ 0) :
    Calls Tryd.prog 7 #[.int .i64 n, .int .i64 first, .slice ad len cap] w fun e w' => e = .returned (.tuple #[.slice none 0 0, .int .i64 c]) ∧ Fr [] w w' := by
  refine settle_bad_of n first ad len cap w c h0 fun W => ?_
  unfold errC at hc
  split at hc
  · rename_i h
    subst hc
    exact run_bad1 n first ad len cap W h
  · rename_i h
    split at hc
    · rename_i h2
      subst hc
      obtain ⟨m, rfl⟩ : ∃ m : Nat, n = m := ⟨n.toNat, by omega⟩
      exact run_bad2 m first ad len cap W (by omega) (by omega) (by omega) h2
    · exact absurd hc.symm h0

/-- which centres are responsible -/
def resp (c : Ctr) : Bool := c.is == 1 || c.is == 2 || c.is == 3
def respL (l : List Ctr) (k : Nat) : List Int := ((List.range k).filter fun i => resp (l.getD i c0)).map fun (i : Nat) => (i : Int)
theorem respL_succ (l : List Ctr) (k : Nat) : respL l (k + 1) = respL l k ++ if resp (l.getD k c0) then [(k : Int)] else [] := by
  unfold respL
  rw [List.range_succ, List.filter_append, List.map_append]
  congr 1
  by_cases h : resp (l.getD k c0) = true
  · rw [if_pos h, List.filter_cons, if_pos h]; rfl
  · rw [if_neg h, List.filter_cons, if_neg h]; rfl
theorem respL_len (l : List Ctr) (k : Nat) : (respL l k).length ≤ k := by
  unfold respL
  rw [List.length_map]
  exact Nat.le_trans (List.length_filter_le _ _) (by simp)
def encI (n : Int) : List Value := [I n]
theorem info3z : (Tryd.prog.info? 3).map (fun i => (i.zero, i.size, i.bytes)) = some (some (I 0), 1, 8) := by kernel_rfl

end Go.Proofs.YtklnbcofmhlkdaaDoor
