/- cobleref10: Settle, and the errors of Run -/
import Derived.Test.YtklnbcofmhlkdaaDoorRfWalk13
set_option linter.unusedVariables false
set_option linter.unusedSimpArgs false
namespace Go.Proofs.YtklnbcofmhlkdaaDoor
open Go.RowKit Rl

def RBad (w : World) (c : Int) (e : Ending) (w' : World) : Prop := e = .returned (.tuple #[.agg #[.slice none 0 0, .slice none 0 0], .slice none 0 0, .int .i64 c]) ∧ Fr [] w w'
set_option maxRecDepth 100000 in
set_option maxHeartbeats 1000000 in
theorem rrun_bad (n first : Int) (ad : Option Addr) (len cap : Nat) (c : Int) (hc : errC n first len = c) (h0 : c ≠ 0) (w : World) :
    Calls Tryd.prog 9 #[.int .i64 n, .int .i64 first, .slice ad len cap] w (RBad w c) := by
  have gc : (c != 0) = true := by simpa using h0
  have HC := Lib.hid hc
  clear hc h0
  go_enter Tryd.func9, Tryd.ntmps9
  go_wp2_with (first
    | (go_at_call 12; refine (check_any n first _ len cap _).mono ?_; rintro e w1 ⟨he, hF1⟩; rw [HC.out] at he; subst he; have HB1 := Lib.hid (hF1.at_ (alloc_new w _) (by simp)); have HF1 : Hid (Fr [] w w1) := ((Fr.refl [] w).alloc _).trans hF1; clear hF1)
    | (refine wpList_st rfl 31 (.tmp 6) (.tmp 21) rfl w.heap.size 0 (.agg #[.slice none 0 0, .slice none 0 0]) (by first | rfl | simp [Act.eval]) (by first | rfl | simp [Act.eval]) 31 _ HB1.out info31 (by simp [Value.cells]) (by simp [Value.cells, Value.oneCell']) #[.slice none 0 0, .slice none 0 0] rfl ?_; intro w2 hF2 hB2; have HF2 := Lib.hid hF2; have HB2 := Lib.hid hB2; clear hF2 hB2))
  exact bodyPost_ret (results_cell3 rfl _ _ w.heap.size 31 _ (0, 0) _ rfl HB2.out Tryd.underlying31 rfl info31 _ _ rfl rfl) rfl ⟨rfl, HF1.out.new HF2.out (by simp)⟩

set_option maxRecDepth 100000 in
set_option maxHeartbeats 1000000 in
theorem rsettle_bad (n first : Int) (ad : Option Addr) (len cap : Nat) (c : Int) (hc : errC n first len = c) (h0 : c ≠ 0) (w : World) :
    Calls Tryd.prog 8 #[.int .i64 n, .int .i64 first, .slice ad len cap] w fun e w' => e = .returned (.tuple #[.slice none 0 0, .int .i64 c]) ∧ Fr [] w w' := by
  have gc : (c != 0) = true := by simpa using h0
  have HC := Lib.hid hc
  have H0 := Lib.hid h0
  clear hc h0
  go_enter Tryd.func8, Tryd.ntmps8
  go_wp2_with (go_at_call 9; refine (rrun_bad n first _ len cap c HC.out H0.out _).mono ?_; rintro e w1 ⟨rfl, hF1⟩; have HF1 := Lib.hid hF1; clear hF1)
  go_ret2
  exact ⟨rfl, HF1.out.alloc _⟩

def SettlePost (s : S) (w : World) (e : Ending) (w' : World) : Prop :=
  ∃ v l, e = .returned (.tuple #[v, .int .i64 0]) ∧ Rd w' encE v l ∧ Leads s l ∧ (∀ l', Leads s l' → l.length ≤ l'.length) ∧ Fr [] w w'

set_option maxRecDepth 100000 in
set_option maxHeartbeats 1000000 in
theorem rsettle_good (n : Nat) (first : Int) (pa : Option Addr) (cap : Nat) (l : List Ev) (w : World) (h : Rd w encE (.slice pa l.length cap) l) (h2 : 2 ≤ n) (h4 : n ≤ 4) (hf : 0 ≤ first ∧ first < n) (hl : l.length ≤ 200)
    (l0 : List Ev) (hl0 : l0.length ≤ 100) (hg0 : Leads ((Rl.start n first).runs l) l0) :
    Calls Tryd.prog 8 #[.int .i64 n, .int .i64 first, .slice pa l.length cap] w (SettlePost ((Rl.start n first).runs l) w) := by
  have H := Lib.hid h
  have HA : Hid (2 ≤ n ∧ n ≤ 4 ∧ (0 ≤ first ∧ first < n) ∧ l.length ≤ 200) := ⟨h2, h4, hf, hl⟩
  have HL0 := Lib.hid hl0
  have HG0 := Lib.hid hg0
  clear h h2 h4 hf hl hl0 hg0
  go_enter Tryd.func8, Tryd.ntmps8
  go_wp2_with (go_at_call 9; refine (rrun_good n first pa cap l _ (by exact H.out) HA.out.1 HA.out.2.1 HA.out.2.2.1 HA.out.2.2.2).mono ?_; rintro e w1 ⟨cv, fv, v, rfl, hS1, hF1⟩; obtain ⟨p3, n3, c3, p4, n4, c4, rfl, rfl⟩ := hS1.shp; have HS1 := Lib.hid hS1; have HF1 := Lib.hid hF1; clear hF1 hS1)
  have HC : Hid ((w1.alloc (.cells #[.slice p3 n3 c3, .slice p4 n4 c4] 31)).heap[w1.heap.size]? = some (.cells #[.slice p3 n3 c3, .slice p4 n4 c4] 31 (0, 0))) := alloc_new w1 _
  go_loopw [11] (fun i wr => ∃ k : Nat, k ≤ l0.length ∧ i = .int .i64 k ∧ Fr [] (w1.alloc (.cells #[.slice p3 n3 c3, .slice p4 n4 c4] 31)) wr ∧ ∀ l', Leads ((Rl.start n first).runs l) l' → k ≤ l'.length) (fun i _ => l0.length - (intOf i).toNat)
  case atStart => exact ⟨0, by omega, rfl, Fr.refl _ _, fun _ _ => by omega⟩
  case round =>
    obtain ⟨k, hk, rfl, hF, hN⟩ := hrel
    have hC := hF.at_ HC.out (by simp)
    have x0 : wr.cell? ⟨w1.heap.size, 0, none⟩ = some (.slice p3 n3 c3) := (cell_blk hC 0).trans rfl
    have x1 : wr.cell? ⟨w1.heap.size, 1, none⟩ = some (.slice p4 n4 c4) := (cell_blk hC 1).trans rfl
    have HF := Lib.hid hF
    have HN := Lib.hid hN
    have HK : Hid (k ≤ 101) := by show k ≤ 101; have := HL0.out; omega
    have hk100 : (k : Int) ≤ 100 := by have := HL0.out; omega
    clear hF hN hC
    by_cases hg : ∃ l' : List Ev, l'.length = k ∧ Leads ((Rl.start n first).runs l) l'
    · have HG := Lib.hid hg
      clear hg
      go_wp2_with (go_at_call 22; refine (reach_any k _ _ ((Rl.start n first).runs l) _ _ HK.out rfl (by exact HS1.out.fr0 (((Fr.refl [] w1).alloc _).trans HF.out))).mono ?_; rintro e w4 hp; obtain ⟨hF4, v4, l4, rfl, hR4, hl4, hg4⟩ := hp.yes HG.out; have HR4 := Lib.hid hR4; have HL4 := Lib.hid hl4; have HG4 := Lib.hid hg4; have HF4 := Lib.hid hF4; clear hF4 hR4 hl4 hg4 hp)
      go_ret2
      exact ⟨v4, l4, rfl, HR4.out, HG4.out, fun l' hl' => by rw [HL4.out]; exact HN.out l' hl', (HF1.out.trans (((Fr.refl [] w1).alloc _).trans HF.out)).trans HF4.out⟩
    · have HG := Lib.hid hg
      have HK2 : Hid (k < l0.length) := by
        show k < l0.length
        rcases Nat.lt_or_ge k l0.length with h | h
        · exact h
        · exact absurd ⟨l0, by omega, HG0.out⟩ hg
      clear hg
      go_wp2_with (go_at_call 22; refine (reach_any k _ _ ((Rl.start n first).runs l) _ _ HK.out rfl (by exact HS1.out.fr0 (((Fr.refl [] w1).alloc _).trans HF.out))).mono ?_; rintro e w4 hp; obtain ⟨hF4, rfl⟩ := hp.no HG.out; have HF4 := Lib.hid hF4; clear hF4 hp)
      go_roundw
      case rel =>
        refine ⟨k + 1, by have := HK2.out; omega, by go_num, HF.out.trans HF4.out, fun l' hl' => ?_⟩
        have h1 := HN.out l' hl'
        rcases Nat.lt_or_ge k l'.length with h | h
        · exact h
        · exact absurd ⟨l', by omega, hl'⟩ HG.out
      case measure => simp [intOf]; have := HK2.out; omega
end Go.Proofs.YtklnbcofmhlkdaaDoor
