/- relay.run · relay.run's errors · relay.settled, and what it calls of slices -/
import Derived.Test.YtklnbcofmhlkdaaDoorRlC
import Derived.Test.YtklnbcofmhlkdaaDoorRlA
import Derived.Test.YtklnbcofmhlkdaaDoorRlB
set_option linter.unusedVariables false
set_option linter.unusedSimpArgs false
namespace Go.Proofs.YtklnbcofmhlkdaaDoor
open Go.RowKit Rl

theorem Rd.addr {α : Type} {w : World} {f : α → List Value} {pa : Option Addr} {n c : Nat} {l : List α} (h : Rd w f (.slice pa n c) l) (hl : l ≠ []) : ∃ g off, pa = some ⟨g, off, none⟩ := by
  rcases h with ⟨_, h⟩ | ⟨g, off, _, h, _⟩
  · exact absurd h hl
  · simp only [Value.slice.injEq] at h
    exact ⟨g, off, h.1⟩
theorem info38 : (Tryd.prog.info? 38).map (·.size) = some 3 := by kernel_rfl
theorem info4 : (Tryd.prog.info? 4).map (fun i => (i.zero, i.size, i.bytes)) = some (some (.bool false), 1, 1) := by kernel_rfl

/-- The states behind the events. -/
def Rl.S.runs (s : S) (l : List Ev) : S := l.foldl (fun s e => (s.app e).getD s) s
theorem runs_ok {s : S} (h : Ok s) (l : List Ev) : Ok (s.runs l) := by
  induction l generalizing s with
  | nil => exact h
  | cons e l ih =>
    refine ih (s := (s.app e).getD s) ?_
    cases he : s.app e with
    | none => exact h
    | some s' => exact h.app he
theorem runs_snoc (s : S) (l : List Ev) (e : Ev) : s.runs (l ++ [e]) = ((s.runs l).app e).getD (s.runs l) := by simp [S.runs, List.foldl_append]
def encB (b : Bool) : List Value := [.bool b]
def errOf (n first : Int) (l : List Ev) : Int := if n < 2 ∨ 4 < n ∨ first < 0 ∨ n ≤ first then 100 else if 200 < l.length then 101 else 0

set_option maxRecDepth 100000 in
set_option maxHeartbeats 1000000 in
theorem run_good (n : Nat) (first : Int) (pa0 : Option Addr) (cap : Nat) (l : List Ev) (w : World) (h : Rd w encE (.slice pa0 l.length cap) l) (h2 : 2 ≤ n) (h4 : n ≤ 4) (hf : 0 ≤ first ∧ first < n) (hl : l.length ≤ 200) :
    Calls Tryd.prog 18 #[.int .i64 n, .int .i64 first, .slice pa0 l.length cap] w fun e w' => ∃ v, e = .returned (.tuple #[.agg ((Rl.start n first).runs l).arr, v, .int .i64 0]) ∧ Fr [] w w' := by
  have H := Lib.hid h
  have f0 : 0 ≤ first := hf.1
  have fn : first < n := hf.2
  have n2 : (2 : Int) ≤ n := by omega
  have n4 : (n : Int) ≤ 4 := by omega
  have hl' : (l.length : Int) ≤ 200 := by omega
  have HOK := Lib.hid (start_ok n first h2 h4)
  have HB : Hid (2 ≤ n ∧ n ≤ 4 ∧ 0 ≤ first ∧ first < n) := ⟨h2, h4, hf⟩
  clear h h2 h4 hf
  go_enter Tryd.func18, Tryd.ntmps18
  go_wp2_with fail
  refine (begin_any n first _ HB.out.1 HB.out.2.1 HB.out.2.2).mono ?_
  rintro e w1 ⟨rfl, hF1⟩
  have hR1 := hF1.at_ (alloc_new w _) (by simp)
  have hF0 : Fr [] w w1 := ((Fr.refl [] w).alloc _).trans hF1
  have HR1 := Lib.hid hR1
  have HF1 := Lib.hid hF0
  have HSZ : Hid ((Rl.start n first).arr.size = 38) := arr_size HOK.out
  clear hF1 hR1 hF0
  go_wp2_with (first
    | (refine wpList_st rfl 58 (.tmp 9) (.tmp 35) rfl w1.heap.size 0 (.agg (Rl.start n first).arr) (by first | rfl | simp [Act.eval]) (by first | rfl | simp [Act.eval]) 58 _ (alloc_new _ _) (by simp only [Value.cells]; rw [HSZ.out]; exact info58) (by simp only [Value.cells]; rw [HSZ.out]; simp) (one_arr _) (Rl.start n first).arr (whole_splice _ _ HSZ.out rfl) ?_; intro w2 hF2 hB2; have HB2 := Lib.hid hB2; have HR2 := Lib.hid (hF2.at_ (alloc_at HR1.out _) (by have := blk_lt HR1.out; simp; omega)); have HF2 : Hid (Fr [] w w2) := (HF1.out.alloc _).new hF2 (by have := HF1.out.size; simp; omega); clear hF2 hB2))
  have HFF : Hid (Fr [] w w2 ∧ w.heap.size < w1.heap.size) := ⟨HF2.out, by have := blk_lt HR1.out; exact this⟩
  go_loopw [10, 38] (fun v i wr => ∃ k : Nat, k ≤ l.length ∧ i = .int .i64 k ∧ St wr w1.heap.size ((Rl.start n first).runs (l.take k)) ∧ (∃ bl : List Bool, bl.length = k ∧ Own wr (w1.heap.size + 1) 4 1 encB v bl) ∧ Fr [] w wr ∧ w1.heap.size + 1 ≤ wr.heap.size ∧ ∃ Z : Array Value, Z.size = 38 ∧ wr.heap[w.heap.size]? = some (.cells Z 58 (0, 0))) (fun _ i _ => l.length - (intOf i).toNat)
  case atStart => exact ⟨0, by omega, rfl, ⟨HB2.out, HOK.out⟩, ⟨[], rfl, Own.nil _ _ _ _ _⟩, HF2.out, blk_lt HB2.out, _, by simp, HR2.out⟩
  case round =>
    obtain ⟨k, hk, rfl, hS, ⟨bl, hbl, hown⟩, hF, hsz, Z, hZ, hR⟩ := hrel
    have HS := Lib.hid hS
    have HBL := Lib.hid hbl
    have HO := Lib.hid hown
    have HF := Lib.hid hF
    have HZ := Lib.hid hZ
    have HR := Lib.hid hR
    clear hS hbl hown hF hZ hR
    by_cases hlt : k < l.length
    · obtain ⟨g, off, rfl⟩ : ∃ g off, pa0 = some ⟨g, off, none⟩ := H.out.addr (by intro e; rw [e] at hlt; simp at hlt)
      obtain ⟨ev, hc⟩ : ∃ c, l[k]? = some c := ⟨l[k], by simp [hlt]⟩
      have HT : Hid ((Rl.start n first).runs (l.take (k + 1)) = ((((Rl.start n first).runs (l.take k)).app ev).getD ((Rl.start n first).runs (l.take k)))) := by
        show _ = _; rw [List.take_add_one, hc]; exact runs_snoc _ _ _
      have HC := Lib.hid hc
      clear hc
      go_wp2_with (first
        | (refine wpList_ldR rfl 38 (.tmp 40) rfl encE 3 encE_len g off l.length cap l (H.out.fr0 HF.out) k ev HC.out (off + k * 3) (by first | rfl | simp [Act.eval]) rfl [I ev.kind, I ev.a, I ev.b] rfl _ Tryd.underlying38 rfl info38 ?_)
        | (go_at_call 31; refine (apply_any w1.heap.size ev ((Rl.start n first).runs (l.take k)) _ (by exact ⟨alloc_at HS.out.1 _, HS.out.2⟩)).mono ?_; rintro e w3 ⟨rfl, hS3, hF3⟩; have HS3 := Lib.hid hS3; have HF3 := Lib.hid hF3; clear hS3 hF3; generalize Option.isSome _ = bv)
        | (refine wpList_apd rfl (.tmp 42) (.tmp 45) 32 rfl (w1.heap.size + 1) 4 (.bool false) 1 1 encB Tryd.underlying32 info4 rfl (by decide) (fun _ => rfl) (by simp [encB, Value.oneCell']) _ bl rfl ((HO.out.fr (((Fr.refl [w1.heap.size] _).alloc _).trans HF3.out) (by intro x hx; have := HO.out.blk x hx; simp; omega)).fr ((Fr.refl [] _).alloc _) (by simp)) (.slice (some ⟨w3.heap.size, 0, none⟩) 1 1) [bv] rfl (Rd.of_blk (l := [bv]) (alloc_new w3 _) rfl (by simp) (by simp [maxLen])) (by decide) (by simp [HBL.out]; omega) (by have := blk_lt HS3.out.1; simp; omega) ?_; intro v' w4 hA4; have HO4 := Lib.hid hA4.own; have HF4 := Lib.hid hA4.fr; clear hA4))
      have hb9 : w1.heap.size < wr.heap.size := blk_lt HS.out.1
      have F3 : Fr [w1.heap.size] wr w3 := ((Fr.refl _ _).alloc _).trans HF3.out
      have F4 : Fr (w1.heap.size :: Value.blkOf u10) wr w4 := ((F3.mono (by simp)).alloc _).trans (HF4.out.mono (fun x hx => List.mem_cons_of_mem _ hx))
      have hvb : ∀ x ∈ Value.blkOf u10, w1.heap.size + 1 ≤ x := fun x hx => (HO.out.blk x hx).1
      go_roundw
      case rel =>
        refine ⟨k + 1, by omega, by go_num, ?_, ⟨bl ++ [bv], by simp [HBL.out], HO4.out⟩, HF.out.new F4 ?_, Nat.le_trans hsz F4.size, Z, HZ.out, F4.at_ HR.out ?_⟩
        · rw [HT.out]
          exact ⟨HF4.out.at_ (alloc_at HS3.out.1 _) (fun hm => by have := hvb _ hm; omega), HS3.out.2⟩
        · intro x hx
          have := HFF.out.2
          simp only [List.mem_cons] at hx
          rcases hx with rfl | hx
          · right; omega
          · right; have := hvb x hx; omega
        · intro hm
          have := HFF.out.2
          simp only [List.mem_cons] at hm
          rcases hm with h | h
          · omega
          · have := hvb _ h; omega
      case measure => simp [intOf]; omega
    · have hk' : k = l.length := by omega
      have HK := Lib.hid hk'
      clear hk'
      have HS38 : Hid (((Rl.start n first).runs (l.take k)).arr.size = 38) := arr_size HS.out.2
      go_wp2_with (first
        | (refine wpList_ldS rfl (.tmp 9) rfl w1.heap.size (by first | rfl | simp [Act.eval]) ((Rl.start n first).runs (l.take k)) HS38.out 58 HS.out.1 ?_)
        | (refine wpList_st rfl 58 (.tmp 6) (.tmp 48) rfl w.heap.size 0 (.agg ((Rl.start n first).runs (l.take k)).arr) (by first | rfl | simp [Act.eval]) (by first | rfl | simp [Act.eval]) 58 Z HR.out (by simp only [Value.cells]; rw [HS38.out]; exact info58) (by simp only [Value.cells]; rw [HS38.out, HZ.out]; simp) (one_arr _) ((Rl.start n first).runs (l.take k)).arr (whole_splice _ _ HS38.out HZ.out) ?_; intro w5 hF5 hB5; have HF5 := Lib.hid hF5; have HB5 := Lib.hid hB5; clear hF5 hB5))
      refine bodyPost_ret (v := .tuple #[.agg ((Rl.start n first).runs (l.take k)).arr, u10, .int .i64 0]) (results_cell3 rfl _ _ w.heap.size 58 _ (0, 0) _ rfl HB5.out Tryd.underlying58 rfl (by rw [HS38.out]; exact info58) u10 (.int .i64 0) rfl rfl) rfl ⟨u10, ?_, HF.out.new HF5.out (by simp)⟩
      rw [HK.out, List.take_length]
end Go.Proofs.YtklnbcofmhlkdaaDoor
namespace Go.Proofs.YtklnbcofmhlkdaaDoor
open Go.RowKit Rl

def zeros38 : Array Value := #[I 0, I 0, I 0, I 0, I 0, I 0, I 0, I 0, I 0, I 0, I 0, I 0, I 0, I 0, I 0, I 0, I 0, I 0, I 0, I 0, I 0, I 0, I 0, I 0, I 0, I 0, I 0, I 0, I 0, I 0, I 0, I 0, I 0, I 0, I 0, I 0, I 0, I 0]
def RunBad (w : World) (c : Int) (e : Ending) (w' : World) : Prop := e = .returned (.tuple #[.agg zeros38, .slice none 0 0, .int .i64 c]) ∧ Fr [] w w'

set_option maxRecDepth 100000 in
set_option maxHeartbeats 1000000 in
theorem run_bad1 (n first : Int) (ad : Option Addr) (len cap : Nat) (w : World) (h : n < 2 ∨ 4 < n ∨ first < 0 ∨ n ≤ first) :
    Calls Tryd.prog 18 #[.int .i64 n, .int .i64 first, .slice ad len cap] w (RunBad w 100) := by
  have key : ∀ w2, Fr [w.heap.size] (w.alloc (.cells zeros38 58)) w2 → w2.heap[w.heap.size]? = some (.cells zeros38 58 (0, 0)) → Fr [] w w2 := fun w2 hf _ => ((Fr.refl [] w).alloc _).new hf (by simp)
  have KEY := Lib.hid key
  clear key
  by_cases c1 : n < 2
  · clear h
    go_enter Tryd.func18, Tryd.ntmps18
    go_wp2_with (refine wpList_st rfl 58 (.tmp 6) (.tmp 28) rfl w.heap.size 0 (.agg zeros38) (by first | rfl | simp [Act.eval]) (by first | rfl | simp [Act.eval]) 58 zeros38 (alloc_new _ _) info58 (by simp [zeros38, Value.cells]) (by simp [zeros38, Value.cells, Value.oneCell']) zeros38 (whole_splice _ _ rfl rfl) ?_; intro w2 hF2 hB2; have HF2 := Lib.hid hF2; have HB2 := Lib.hid hB2; clear hF2 hB2)
    exact bodyPost_ret (results_cell3 rfl _ _ w.heap.size 58 _ (0, 0) _ rfl HB2.out Tryd.underlying58 rfl info58 _ _ rfl rfl) rfl ⟨rfl, KEY.out _ HF2.out HB2.out⟩
  by_cases c2 : 4 < n
  · clear h
    go_enter Tryd.func18, Tryd.ntmps18
    go_wp2_with (refine wpList_st rfl 58 (.tmp 6) (.tmp 28) rfl w.heap.size 0 (.agg zeros38) (by first | rfl | simp [Act.eval]) (by first | rfl | simp [Act.eval]) 58 zeros38 (alloc_new _ _) info58 (by simp [zeros38, Value.cells]) (by simp [zeros38, Value.cells, Value.oneCell']) zeros38 (whole_splice _ _ rfl rfl) ?_; intro w2 hF2 hB2; have HF2 := Lib.hid hF2; have HB2 := Lib.hid hB2; clear hF2 hB2)
    exact bodyPost_ret (results_cell3 rfl _ _ w.heap.size 58 _ (0, 0) _ rfl HB2.out Tryd.underlying58 rfl info58 _ _ rfl rfl) rfl ⟨rfl, KEY.out _ HF2.out HB2.out⟩
  by_cases c3 : first < 0
  · clear h
    go_enter Tryd.func18, Tryd.ntmps18
    go_wp2_with (refine wpList_st rfl 58 (.tmp 6) (.tmp 28) rfl w.heap.size 0 (.agg zeros38) (by first | rfl | simp [Act.eval]) (by first | rfl | simp [Act.eval]) 58 zeros38 (alloc_new _ _) info58 (by simp [zeros38, Value.cells]) (by simp [zeros38, Value.cells, Value.oneCell']) zeros38 (whole_splice _ _ rfl rfl) ?_; intro w2 hF2 hB2; have HF2 := Lib.hid hF2; have HB2 := Lib.hid hB2; clear hF2 hB2)
    exact bodyPost_ret (results_cell3 rfl _ _ w.heap.size 58 _ (0, 0) _ rfl HB2.out Tryd.underlying58 rfl info58 _ _ rfl rfl) rfl ⟨rfl, KEY.out _ HF2.out HB2.out⟩
  have c4 : n ≤ first := by omega
  clear h
  go_enter Tryd.func18, Tryd.ntmps18
  go_wp2_with (refine wpList_st rfl 58 (.tmp 6) (.tmp 28) rfl w.heap.size 0 (.agg zeros38) (by first | rfl | simp [Act.eval]) (by first | rfl | simp [Act.eval]) 58 zeros38 (alloc_new _ _) info58 (by simp [zeros38, Value.cells]) (by simp [zeros38, Value.cells, Value.oneCell']) zeros38 (whole_splice _ _ rfl rfl) ?_; intro w2 hF2 hB2; have HF2 := Lib.hid hF2; have HB2 := Lib.hid hB2; clear hF2 hB2)
  exact bodyPost_ret (results_cell3 rfl _ _ w.heap.size 58 _ (0, 0) _ rfl HB2.out Tryd.underlying58 rfl info58 _ _ rfl rfl) rfl ⟨rfl, KEY.out _ HF2.out HB2.out⟩

set_option maxRecDepth 100000 in
set_option maxHeartbeats 1000000 in
theorem run_bad2 (n : Nat) (first : Int) (ad : Option Addr) (len cap : Nat) (w : World) (h2 : 2 ≤ n) (h4 : n ≤ 4) (hf : 0 ≤ first ∧ first < n) (hl : 200 < len) :
    Calls Tryd.prog 18 #[.int .i64 n, .int .i64 first, .slice ad len cap] w (RunBad w 101) := by
  have key : ∀ w2, Fr [w.heap.size] (w.alloc (.cells zeros38 58)) w2 → w2.heap[w.heap.size]? = some (.cells zeros38 58 (0, 0)) → Fr [] w w2 := fun w2 hf _ => ((Fr.refl [] w).alloc _).new hf (by simp)
  have KEY := Lib.hid key
  have f0 : 0 ≤ first := hf.1
  have fn : first < n := hf.2
  have n2 : (2 : Int) ≤ n := by omega
  have n4 : (n : Int) ≤ 4 := by omega
  have hl' : (200 : Int) < len := by omega
  clear key h2 h4 hf
  go_enter Tryd.func18, Tryd.ntmps18
  go_wp2_with (refine wpList_st rfl 58 (.tmp 6) (.tmp 32) rfl w.heap.size 0 (.agg zeros38) (by first | rfl | simp [Act.eval]) (by first | rfl | simp [Act.eval]) 58 zeros38 (alloc_new _ _) info58 (by simp [zeros38, Value.cells]) (by simp [zeros38, Value.cells, Value.oneCell']) zeros38 (whole_splice _ _ rfl rfl) ?_; intro w2 hF2 hB2; have HF2 := Lib.hid hF2; have HB2 := Lib.hid hB2; clear hF2 hB2)
  exact bodyPost_ret (results_cell3 rfl _ _ w.heap.size 58 _ (0, 0) _ rfl HB2.out Tryd.underlying58 rfl info58 _ _ rfl rfl) rfl ⟨rfl, KEY.out _ HF2.out HB2.out⟩
end Go.Proofs.YtklnbcofmhlkdaaDoor
namespace Go.Proofs.YtklnbcofmhlkdaaDoor
open Go.RowKit Rl

set_option maxHeartbeats 400000 in
theorem bad_any (c : Ctr) (w : World) :
    Calls Tryd.prog 33 #[.agg #[.int .i64 c.is, .int .i64 c.wth, .int .i64 c.turn]] w fun e w' => e = .returned (.bool (bad c)) ∧ Fr [] w w' := by
  obtain ⟨ci, cw, ct⟩ := c
  simp only [bad]
  by_cases h2 : ci = 2
  · subst h2
    go_enter Tryd.func33, Tryd.ntmps33
    go_wp2
    go_ret
    exact ⟨rfl, (Fr.refl _ _).alloc _⟩
  · have j2 : (ci == 2) = false := by simpa using h2
    go_enter Tryd.func33, Tryd.ntmps33
    go_wp2
    go_ret
    exact ⟨ret_bool (by simp [j2]), (Fr.refl _ _).alloc _⟩

set_option maxRecDepth 100000 in
set_option maxHeartbeats 1000000 in
theorem indexBad_any (g off cap : Nat) (l : List Ctr) (w : World) (h : Rd w encC (.slice (some ⟨g, off, none⟩) l.length cap) l) (hl : l.length ≤ 1000) :
    Calls Tryd.prog 47 #[.slice (some ⟨g, off, none⟩) l.length cap, .func (.func 33) #[] #[]] w fun e w' => ∃ r : Int, e = .returned (.int .i64 r) ∧ decide (0 ≤ r) = !l.all (fun c => !bad c) ∧ Fr [] w w' := by
  have H := Lib.hid h
  clear h
  go_enter Tryd.func47, Tryd.ntmps47
  go_wp2
  go_loopw [8] (fun i wr => ∃ k : Nat, k ≤ l.length ∧ i = .int .i64 k ∧ Fr [] w wr ∧ (l.take k).all (fun c => !bad c) = true) (fun i _ => l.length - (intOf i).toNat)
  case atStart => exact ⟨0, by omega, rfl, Fr.refl _ _, rfl⟩
  case round =>
    obtain ⟨k, hk, rfl, hF, hall⟩ := hrel
    have HF := Lib.hid hF
    have HA := Lib.hid hall
    clear hF hall
    by_cases hlt : k < l.length
    · obtain ⟨c, hc⟩ : ∃ c, l[k]? = some c := ⟨l[k], by simp [hlt]⟩
      have hts : (l.take (k + 1)).all (fun c => !bad c) = !bad c := by
        rw [List.take_add_one, hc]; simp [HA.out]
      have HC := Lib.hid hc
      have HT := Lib.hid hts
      clear hc hts
      by_cases hb : bad c = true
      · have HB := Lib.hid hb
        clear hb
        go_wp2_with (first
          | (refine wpList_ldR rfl 46 (.tmp 14) rfl encC 3 encC_len g off l.length cap l (H.out.fr0 HF.out) k c HC.out (off + k * 3) (by first | rfl | simp [Act.eval]) rfl [I c.is, I c.wth, I c.turn] rfl _ Tryd.underlying46 rfl info46 ?_)
          | (go_at_call 33; refine (bad_any c _).mono ?_; rintro e w2 ⟨he, hF2⟩; rw [HB.out] at he; subst he; have HF2 := Lib.hid hF2; clear hF2))
        go_ret
        refine ⟨k, rfl, ?_, HF.out.trans HF2.out⟩
        have : l.all (fun c => !bad c) = false := by
          rw [List.all_eq_false]
          exact ⟨c, List.mem_of_getElem? HC.out, by simp [HB.out]⟩
        rw [this]; simp
      · have hb' : bad c = false := by simpa using hb
        have HB := Lib.hid hb'
        clear hb hb'
        go_wp2_with (first
          | (refine wpList_ldR rfl 46 (.tmp 14) rfl encC 3 encC_len g off l.length cap l (H.out.fr0 HF.out) k c HC.out (off + k * 3) (by first | rfl | simp [Act.eval]) rfl [I c.is, I c.wth, I c.turn] rfl _ Tryd.underlying46 rfl info46 ?_)
          | (go_at_call 33; refine (bad_any c _).mono ?_; rintro e w2 ⟨he, hF2⟩; rw [HB.out] at he; subst he; have HF2 := Lib.hid hF2; clear hF2))
        go_roundw
        case rel => exact ⟨k + 1, by omega, by go_num, HF.out.trans HF2.out, by rw [HT.out, HB.out]; rfl⟩
        case measure => simp [intOf]; omega
    · go_wp2
      go_ret
      refine ⟨-1, rfl, ?_, HF.out⟩
      have := HA.out
      rw [List.take_of_length_le (by omega)] at this
      rw [this]; rfl

set_option maxRecDepth 100000 in
set_option maxHeartbeats 1000000 in
theorem hasBad_any (g off cap : Nat) (l : List Ctr) (w : World) (h : Rd w encC (.slice (some ⟨g, off, none⟩) l.length cap) l) (hl : l.length ≤ 1000) :
    Calls Tryd.prog 32 #[.slice (some ⟨g, off, none⟩) l.length cap, .func (.func 33) #[] #[]] w fun e w' => e = .returned (.bool (!l.all (fun c => !bad c))) ∧ Fr [] w w' := by
  go_enter Tryd.func32, Tryd.ntmps32
  go_wp2_with fail
  refine (indexBad_any g off cap l w h hl).mono ?_
  rintro e w1 ⟨r, rfl, hr, hF⟩
  have HR := Lib.hid hr
  have HF := Lib.hid hF
  clear hr hF
  go_wp2
  go_ret
  exact ⟨ret_bool HR.out, HF.out⟩

set_option maxRecDepth 100000 in
set_option maxHeartbeats 1000000 in
theorem settled_any (b : Nat) (s : S) (w : World) (h : St w b s) :
    Calls Tryd.prog 19 #[.pointer (some ⟨b, 0, none⟩)] w fun e w' => e = .returned (.bool s.settled) ∧ Fr [] w w' := by
  have hp : (padC s.cen).length = 4 := padC_len h.2.n4
  have HRd : Hid (Rd w encC (.slice (some ⟨b, 1, none⟩) 4 4) (padC s.cen)) := .inr ⟨b, 1, 4, by rw [hp], by rw [hp]; omega, by simp [maxLen], blk_lt h.1, fun j u hj => by rw [cell_blk h.1]; exact arr_cens h.2 j u hj⟩
  have HP := Lib.hid hp
  clear hp h
  go_enter Tryd.func19, Tryd.ntmps19
  go_wp2_with fail
  have hc := hasBad_any b 1 4 (padC s.cen) w (by rw [HP.out]; exact HRd.out) (by rw [HP.out]; omega)
  rw [HP.out] at hc
  refine hc.mono ?_
  rintro e w1 ⟨rfl, hF⟩
  have HF := Lib.hid hF
  clear hF hc
  go_wp2
  go_ret
  exact ⟨ret_bool (by simp [settled_pad]), HF.out⟩

end Go.Proofs.YtklnbcofmhlkdaaDoor
