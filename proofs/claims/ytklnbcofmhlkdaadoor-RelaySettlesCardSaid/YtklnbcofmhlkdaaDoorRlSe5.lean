/- relay.next's iterator -/
import Derived.Test.YtklnbcofmhlkdaaDoorRlSe4
import Derived.Deep.Cut
import Derived.Test.YtklnbcofmhlkdaaDoorRlSe5b
set_option linter.unusedVariables false
set_option linter.unusedSimpArgs false
namespace Go.Proofs.YtklnbcofmhlkdaaDoor
open Go.RowKit Rl
attribute [local go_sem] Oper.semAt_some

theorem tried_kd (k a : Nat) : (tried k a).kind = if k = 0 then 2 else 5 := rfl
/-- a state behind s, with the event that leads to it -/
abbrev Nx (s : S) := { p : Ev × S // (p.1.kind = 2 ∨ p.1.kind = 5) ∧ s.app p.1 = some p.2 }
def encN {s : S} (x : Nx s) : Array Value := #[.agg (encE x.1.1).toArray, .agg x.1.2.arr]
/-- what the tried event leads to has come -/
def Cov (s : S) (pre : List (Nx s)) (k a : Nat) : Prop := ∀ s', s.app (tried k a) = some s' → ∃ x ∈ pre, x.1.2 = s'
def CovAll (s : S) (pre : List (Nx s)) : Prop := ∀ k, k < 2 → ∀ a, a < s.wide → Cov s pre k a
theorem Cov.mono {s : S} {pre : List (Nx s)} {k a : Nat} (h : Cov s pre k a) (x : Nx s) : Cov s (pre ++ [x]) k a := fun s' hs' => by
  obtain ⟨y, hy, e⟩ := h s' hs'
  exact ⟨y, by simp [hy], e⟩
/-- what a round must keep for the iterator: its numbers, and the state's box -/
def Keeps (B : Nat) (W W' : World) : Prop := ∀ b C E, (E = 3 ∨ b = B) → W.heap[b]? = some (.cells C E (0, 0)) → W'.heap[b]? = some (.cells C E (0, 0))
set_option maxRecDepth 100000 in
set_option maxHeartbeats 2000000 in
theorem next_stops (s : S) (hs : Wf s) (B : Nat) (n : Nat) (w : World) (hB : w.heap[B]? = some (.cells s.arr 58 (0, 0))) :
    SeqStopsK Fence.wide n Tryd.prog 34 #[.pointer (some ⟨B, 0, none⟩)] (encN (s := s)) (Keeps B) (CovAll s) (fun _ => True) 12 w := fun l J Jx W hW hJ hJx hY h0 => by
  refine callsIn_wide.2 ?_
  have hBW : W.heap[B]? = some (.cells s.arr 58 (0, 0)) := (hW.block B (blk_lt hB)).trans hB
  have HS := Lib.hid hs
  have HJ := Lib.hid hJ
  have HY := Lib.hid hY
  have H0 := Lib.hid h0
  have HB := Lib.hid hBW
  have hw6 := wide_le hs.ok
  have H38 : Hid (s.arr.size = 38) := arr_size hs.ok
  have hmx : Hid ((if s.fl.length < s.cen.length then (s.cen.length : Int) else (s.fl.length : Int)) = (s.wide : Int)) := by show _ = _; unfold S.wide; split <;> omega
  clear hs hJ hY h0 hBW hB hW hJx
  show Calls Tryd.prog 34 #[.func (.yield l) #[] #[], .pointer (some ⟨B, 0, none⟩)] W _
  go_enter Tryd.func34, Tryd.ntmps34
  go_wp2_with fail
  refine wp_forget (fun W1 => Fr [] W W1 ∧ W1.heap[W.heap.size]? = some (.cells #[.int .i64 2, .int .i64 5] 3 (0, 0))) ⟨(Fr.refl _ _).alloc _, alloc_new _ _⟩ ?_
  rintro W1 ⟨hF, hX⟩
  have H1 : Hid (J [] W1) := HJ.out _ _ _ none H0.out (grownBy_fr hF _) (fun r h => by simp at h)
  have HB1 := Lib.hid (hF.at_ HB.out (by simp))
  have HX1 := Lib.hid hX
  have HWF : Hid (W.heap.size ≤ W1.heap.size) := hF.size
  clear hF hX H0 HB
  go_loopw [10] (fun i wr => ∃ k : Nat, k ≤ 2 ∧ i = .int .i64 k ∧ (∃ pre, J pre wr ∧ pre.length ≤ k * 6 ∧ ∀ k', k' < k → ∀ a, a < s.wide → Cov s pre k' a) ∧ wr.heap[B]? = some (.cells s.arr 58 (0, 0)) ∧ wr.heap[W.heap.size]? = some (.cells #[.int .i64 2, .int .i64 5] 3 (0, 0)) ∧ W.heap.size ≤ wr.heap.size) (fun i _ => 2 - (intOf i).toNat)
  case atStart => exact ⟨0, by omega, rfl, ⟨[], H1.out, by simp, fun k' h => absurd h (by omega)⟩, HB1.out, HX1.out, HWF.out⟩
  case round =>
    obtain ⟨k, hk, rfl, ⟨pre, hJp, hpl, hcov⟩, hB, hX, hsz⟩ := hrel
    have HJP := Lib.hid hJp
    have HPL := Lib.hid hpl
    have HCV := Lib.hid hcov
    clear hJp hpl hcov
    by_cases hk2 : k < 2
    · obtain ⟨kd, hkd⟩ : ∃ kd : Int, kd = if k = 0 then 2 else 5 := ⟨_, rfl⟩
      have hck : wr.cell? ⟨W.heap.size, k, none⟩ = some (.int .i64 kd) := by
        rw [cell_blk hX, hkd]
        rcases (by omega : k = 0 ∨ k = 1) with rfl | rfl <;> rfl
      have hn : wr.cell? ⟨B, 0, none⟩ = some (I s.cen.length) := by rw [cell_blk hB]; exact arr_n s
      have hm : wr.cell? ⟨B, 37, none⟩ = some (I s.fl.length) := by rw [cell_blk hB]; exact arr_many HS.out.ok
      have hmx' := hmx.out
      have HKD := Lib.hid hkd
      have HB := Lib.hid hB
      have HX := Lib.hid hX
      clear hkd hB hX
      have gk2 : decide ((k : Int) < 2) = true := by rw [decide_eq_true_iff]; omega
      go_wp2_with fail
      obtain ⟨wo, hwo⟩ : ∃ wo : World, wo = wr := ⟨_, rfl⟩
      rw [← hwo] at HJP HB HX hsz ⊢
      clear hwo hck hn hm hmx' gk2
      go_loopw [19] (fun i wr => ∃ a : Nat, a ≤ s.wide ∧ i = .int .i64 a ∧ (∃ pre, J pre wr ∧ pre.length ≤ k * 6 + a ∧ (∀ k', k' < k → ∀ a, a < s.wide → Cov s pre k' a) ∧ ∀ a', a' < a → Cov s pre k a') ∧ wr.heap[B]? = some (.cells s.arr 58 (0, 0)) ∧ wr.heap[W.heap.size]? = some (.cells #[.int .i64 2, .int .i64 5] 3 (0, 0)) ∧ W.heap.size ≤ wr.heap.size) (fun i _ => s.wide - (intOf i).toNat)
      case atStart => exact ⟨0, by omega, rfl, ⟨pre, HJP.out, HPL.out, HCV.out, fun a' h => absurd h (by omega)⟩, HB.out, HX.out, hsz⟩
      case round =>
        obtain ⟨a, ha, rfl, ⟨pre2, hJp, hpl, hcov, hcov2⟩, hB, hX, hsz2⟩ := hrel
        have HJ2 := Lib.hid hJp
        have HP2 := Lib.hid hpl
        have HC2 := Lib.hid hcov
        have HD2 := Lib.hid hcov2
        have HB2 := Lib.hid hB
        have HX2 := Lib.hid hX
        clear hJp hpl hcov hcov2 hB hX
        by_cases hlt : a < s.wide
        · have ha6 : (a : Int) < 6 := by omega
          go_wp2_with fail
          refine wpIn_wide.1 (reg6 (n := 0) (by kernel_rfl) (by kernel_rfl) s kd a B (by rfl) (by rfl) (by rfl) (by rfl) (by rfl) H38.out HB2.out rfl rfl rfl rfl rfl rfl rfl rfl rfl rfl rfl rfl rfl rfl rfl rfl rfl rfl rfl rfl rfl rfl rfl rfl ⟨{ on := 0, ground := Ground.data }, by simp, rfl, rfl⟩ ⟨{ on := 1, ground := Ground.data }, by simp, rfl, rfl⟩ ⟨{ on := 4, ground := Ground.data }, by simp, rfl, rfl⟩ ⟨{ on := 2, ground := Ground.data }, by simp, rfl, rfl⟩ ⟨{ on := 5, ground := Ground.data }, by simp, rfl, rfl⟩ ⟨{ on := 3, ground := Ground.data }, by simp, rfl, rfl⟩ ?_)
          rintro W' b6 b7 hF hb6 hb7 hh6 hh7
          rename_i K7 hK7
          simp only [setS, List.foldl_cons, List.foldl_nil, List.setIfInBounds_toArray, List.set_cons_succ, List.set_cons_zero]
          refine hK7 _ _ ?_
          clear hK7
          have c60 : W'.cell? ⟨b6, 0, none⟩ = some (I kd) := (cell_blk hh6 0).trans rfl
          have c61 : W'.cell? ⟨b6, 1, none⟩ = some (I a) := (cell_blk hh6 1).trans rfl
          have c62 : W'.cell? ⟨b6, 2, none⟩ = some (I 0) := (cell_blk hh6 2).trans rfl
          have HF7 := Lib.hid hF
          have HH6 := Lib.hid hh6
          have HH7 := Lib.hid hh7
          have HBB : Hid (wr.heap.size ≤ b6 ∧ wr.heap.size ≤ b7) := ⟨hb6, hb7⟩
          have HEV : Hid ((⟨kd, a, 0⟩ : Ev) = tried k a) := by show _ = _; rw [HKD.out]; rfl
          have hb67 : b6 ≠ b7 := fun e => by rw [e, hh7] at hh6; simp at hh6
          have HB67 := Lib.hid hb67
          clear hF hh6 hh7 hb6 hb7 hb67
          cases hap : s.app (tried k a) with
          | none =>
            have HAP := Lib.hid hap
            clear hap
            go_wp2_with (first
              | (go_at_call 31; refine (apply_any b7 ⟨kd, a, 0⟩ s _ (by exact ⟨HH7.out, HS.out.ok⟩)).mono ?_; rintro e w3 hp; rw [HEV.out, HAP.out] at hp; obtain ⟨rfl, hS3, hF3⟩ := hp; have HF3 := Lib.hid hF3; clear hF3 hS3; simp only [Option.isSome]))
            have hF3 : Fr [] wr w3 := HF7.out.new HF3.out (by simpa using HBB.out.2)
            go_roundw
            case rel =>
              refine ⟨a + 1, by omega, by go_num, ⟨pre2, HJ.out _ _ _ none HJ2.out (grownBy_fr hF3 _) (fun r h => by simp at h), by have := HP2.out; omega, HC2.out, fun a' ha' => ?_⟩, hF3.at_ HB2.out (by simp), hF3.at_ HX2.out (by simp), Nat.le_trans hsz2 hF3.size⟩
              by_cases e : a' = a
              · subst e; intro s' hs'; rw [HAP.out] at hs'; exact absurd hs' (by simp)
              · exact HD2.out a' (by omega)
            case measure => simp [intOf]; omega
          | some s' =>
            have HAP := Lib.hid hap
            clear hap
            have hlen2 : pre2.length < 12 := by have := HP2.out; omega
            have HLEN := Lib.hid hlen2
            have HEN : Hid (encN (⟨(tried k a, s'), tried_kind k a, HAP.out⟩ : Nx s) = #[.agg #[I kd, I a, I 0], .agg s'.arr]) := by show _ = _; unfold encN; simp only; rw [← HEV.out]; rfl
            clear hlen2
            refine (wpIn_wide (n := n)).1 ?_
            gi_wp2_with (first
              | (refine ⟨trivial, (fun h => absurd h (by decide)), ?_⟩; gi_at_call 31; refine (callsIn_wide.2 (apply_any b7 ⟨kd, a, 0⟩ s _ (by exact ⟨HH7.out, HS.out.ok⟩))).mono ?_; rintro e w3 hp; rw [HEV.out, HAP.out] at hp; obtain ⟨rfl, hS3, hF3⟩ := hp; simp only [Option.getD_some] at hS3; have hE3 := hF3.at_ HH6.out (by simpa using HB67.out); have d60 : w3.cell? ⟨b6, 0, none⟩ = some (I kd) := (cell_blk hE3 0).trans rfl; have d61 : w3.cell? ⟨b6, 1, none⟩ = some (I a) := (cell_blk hE3 1).trans rfl; have d62 : w3.cell? ⟨b6, 2, none⟩ = some (I 0) := (cell_blk hE3 2).trans rfl; have HF3 : Hid (Fr [] wr w3) := HF7.out.new hF3 (by simpa using HBB.out.2); have HS3 := Lib.hid hS3; obtain ⟨fn, tmps, assign, body, hy, hR⟩ := HY.out pre2 ⟨(tried k a, s'), tried_kind k a, HAP.out⟩ w3 (HJ.out _ _ _ none HJ2.out (grownBy_fr HF3.out _) (fun r h => by simp at h)) HLEN.out; rw [HEN.out] at hy; have HR := Lib.hid hR; have hld : (Instr.loadAt 58 (.pointer (some ⟨b7, 0, none⟩))).run Tryd.prog w3 = .ok (.agg s'.arr) w3 := run_load_blk w3 b7 58 s'.arr 58 (0, 0) _ hS3.1 Tryd.underlying58 rfl (by rw [arr_size hS3.2]; exact info58); clear hF3 hS3 hE3 hR; simp only [Option.isSome])
              | (refine oper_load 58 (.tmp 7) rfl (.agg s'.arr) hld ?_))
            refine ⟨fun h => absurd h (by decide), ?_⟩
            refine HR.out.mono ?_
            rintro e W3 (⟨rfl, hJ3, hk3⟩ | ⟨rfl, hx3⟩)
            · have HJ3 := Lib.hid hJ3
              have HK3 := Lib.hid hk3
              clear hJ3 hk3 hy hld
              gi_wp2_with fail
              go_wp2_with fail
              have hX3 := HK3.out _ _ 3 (.inl rfl) (HF3.out.at_ HX2.out (by simp))
              have hB3 := HK3.out _ _ 58 (.inr rfl) (HF3.out.at_ HB2.out (by simp))
              go_roundw
              case rel =>
                refine ⟨a + 1, by omega, by go_num, ⟨_, HJ3.out, by have := HP2.out; simp; omega, fun k' hk' a' ha' => (HC2.out k' hk' a' ha').mono _, fun a' ha' => ?_⟩, hB3, hX3, Nat.le_of_lt (blk_lt hX3)⟩
                by_cases e : a' = a
                · subst e; intro s2 hs2; rw [HAP.out] at hs2; cases hs2; exact ⟨_, List.mem_append_right _ (List.mem_singleton_self _), rfl⟩
                · exact (HD2.out a' (by omega)).mono _
              case measure => simp [intOf]; omega
            · gi_wp2_with fail
              exact bodyPost_ret (results_none rfl _ _ _) rfl ⟨⟨_, rfl⟩, .inr ⟨_, trivial, hx3⟩⟩
        · go_wp2_with fail
          go_roundw
          case rel =>
            refine ⟨k + 1, by omega, by go_num, ⟨pre2, HJ2.out, by have := HP2.out; omega, fun k' hk' a' ha' => ?_⟩, HB2.out, HX2.out, hsz2⟩
            by_cases e : k' = k
            · subst e; exact HD2.out a' (by omega)
            · exact HC2.out k' (by omega) a' ha'
          case measure => simp [intOf]; omega
    · clear hB hX
      go_wp2_with fail
      go_end0
      exact ⟨⟨_, rfl⟩, .inl ⟨pre, fun k' hk' => HCV.out k' (by omega), HJP.out⟩⟩
end Go.Proofs.YtklnbcofmhlkdaaDoor
