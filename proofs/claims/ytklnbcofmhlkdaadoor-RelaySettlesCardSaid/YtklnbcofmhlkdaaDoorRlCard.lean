/- law10: RelaySettles is true, at every argument that reads as events · law10: RelaySettles is true where the call settles · law10: an argument of events, opened · law10: RelaySettles: the statement and its card -/
import Derived.Test.YtklnbcofmhlkdaaDoorRlWd
import Derived.Test.YtklnbcofmhlkdaaDoorRlSe8
import Derived.Test.YtklnbcofmhlkdaaDoorProto2
import Derived.Deep.RegionWith
import Derived.Deep.Cut
import Derived.WalkKit
import Derived.ProofKit
import Derived.OpenShut
import Derived.Carry
import Derived.Deep.Slices
import Derived.Deep.Fields
import Derived.ChangeSame
import Derived.Test.YtklnbcofmhlkdaaDoorCards
import Derived.Test.YtklnbcofmhlkdaaDoorTie
import Derived.Lay
import Derived.LaidOnce
import Derived.SevenTiedAt
import Derived.Deep.DeepHandedRow
set_option linter.unusedVariables false
set_option linter.unusedSimpArgs false
namespace Go.Proofs.YtklnbcofmhlkdaaDoor
open Go.RowKit Go.Lib Rl
theorem leads_at {s : S} {l : List Ev} (h : Leads s l) (k : Nat) (e : Ev) (he : l[k]? = some e) : (e.kind = 2 ∨ e.kind = 5) ∧ (s.runs (l.take k)).app e = some (s.runs (l.take (k + 1))) := by
  induction l generalizing s k with
  | nil => simp at he
  | cons x l ih =>
    obtain ⟨hk, s', hs', hl⟩ := h
    have hx : ∀ m : List Ev, s.runs (x :: m) = s'.runs m := fun m => by
      show (((s.app x).getD s).runs m) = _
      rw [hs']; rfl
    cases k with
    | zero =>
      simp only [List.getElem?_cons_zero, Option.some.injEq] at he
      subst he
      refine ⟨hk, ?_⟩
      rw [List.take_succ_cons, hx]
      simpa [S.runs] using hs'
    | succ k =>
      rw [List.take_succ_cons, List.take_succ_cons, hx, hx]
      exact ih hl k he
theorem leads_end {s : S} {l : List Ev} (h : Leads s l) : (s.runs l).settled = true := by
  induction l generalizing s with
  | nil => exact h
  | cons x l ih =>
    obtain ⟨hk, s', hs', hl⟩ := h
    have hx : s.runs (x :: l) = s'.runs l := by
      show (((s.app x).getD s).runs l) = _
      rw [hs']; rfl
    rw [hx]; exact ih hl
theorem runs_inv {s : S} (h : Inv s) (l : List Ev) : Inv (s.runs l) := by
  induction l generalizing s with
  | nil => exact h
  | cons e l ih =>
    refine ih (s := (s.app e).getD s) ?_
    cases he : s.app e with
    | none => exact h
    | some s' => exact h.app he
set_option maxRecDepth 100000 in
set_option maxHeartbeats 4000000 in
theorem law_far (n first : Int) (pa : Option Addr) (len cap : Nat) (w : World) (h : (60 < len ∧ len ≤ 200) ∨ 300 < len) :
    Calls Tryd.prog 3 #[.int .i64 n, .int .i64 first, .slice pa len cap] w fun e w' => e = .returned (.bool true) ∧ Fr [] w w' := by
  have H := Lib.hid h
  clear h
  go_enter Tryd.func3, Tryd.ntmps3
  go_wp2_with (first
    | (go_at_call 5; refine (far_yes pa len cap _ H.out).mono ?_; rintro e w1 ⟨rfl, rfl⟩)
    | (go_at_call 6; refine (works_any _).mono ?_; rintro e w2 ⟨rfl, hF⟩; have F := Lib.hid hF; clear hF))
  go_ret
  exact ⟨rfl, F.out⟩
set_option maxRecDepth 100000 in
set_option maxHeartbeats 8000000 in
theorem law_bad (n first : Int) (pa : Option Addr) (cap : Nat) (l : List Ev) (w : World) (h : Rd w encE (.slice pa l.length cap) l) (hf : ¬ ((60 < l.length ∧ l.length ≤ 200) ∨ 300 < l.length)) (c : Int) (hc : errC n first l.length = c) (h0 : c ≠ 0) :
    Calls Tryd.prog 3 #[.int .i64 n, .int .i64 first, .slice pa l.length cap] w fun e w' => e = .returned (.bool true) ∧ Fr [] w w' := by
  have gc : (c != 0) = true := by simpa using h0
  have H := Lib.hid h
  have HN := Lib.hid hf
  have HL : Hid (l.length ≤ 300) := by show l.length ≤ 300; omega
  have HC := Lib.hid hc
  have H0 := Lib.hid h0
  clear h hf hc h0
  go_enter Tryd.func3, Tryd.ntmps3
  go_wp2_with (first
    | (go_at_call 5; refine (far_no pa l.length cap _ HN.out).mono ?_; rintro e w1 ⟨rfl, rfl⟩)
    | (refine wpList_apd rfl (.tmp 23) (.tmp 24) 22 rfl w1.heap.size 38 _ 3 24 encE Tryd.underlying22 info38z rfl (by decide) encE_len oneE (.slice (some ⟨w1.heap.size, 0, none⟩) 0 0) [] rfl (Own.empty (Nat.le_refl _) (alloc_new w1 _)) (.slice pa l.length cap) l rfl (H.out.fr0 ((Fr.refl [] w1).alloc _)) (by decide) (by have := HL.out; simp; omega) (by simp) ?_; intro v2 w2 hA; obtain ⟨p2, c2, rfl⟩ := hA.own.rd.shape; have F2 : Hid (Fr [] w1 w2) := ((Fr.refl [] w1).alloc _).new hA.fr (by simp [Value.blkOf]); clear hA)
    | (go_at_call 7; refine (settle_bad n first _ _ _ _ c (by simpa using HC.out) H0.out).mono ?_; rintro e w3 ⟨rfl, hF⟩; have F3 : Hid (Fr [] w1 w3) := F2.out.trans hF; clear hF)
    | (go_at_call 8; refine (rsettle_bad n first _ _ _ c HC.out H0.out _).mono ?_; rintro e w4 ⟨rfl, hF⟩; have F4 : Hid (Fr [] w1 w4) := F3.out.trans hF; clear hF)
    | (go_at_call 9; refine (rrun_bad n first _ _ _ c HC.out H0.out _).mono ?_; rintro e w5 ⟨rfl, hF⟩; have F5 : Hid (Fr [] w1 w5) := F4.out.trans hF; clear hF))
  refine wp_loop_rounds 1 ?_
  rw [rounds_succ]
  go_wp2_with (go_at_call 6; refine (works_any _).mono ?_; rintro e w6 ⟨rfl, hF⟩; have F6 : Hid (Fr [] w1 w6) := (F5.out.alloc _).trans hF; clear hF)
  go_ret
  exact ⟨rfl, F6.out⟩
end Go.Proofs.YtklnbcofmhlkdaaDoor
namespace Go.Proofs.YtklnbcofmhlkdaaDoor
open Go.RowKit Rl
set_option maxRecDepth 100000 in
set_option maxHeartbeats 16000000 in
theorem law_good (n : Nat) (first : Int) (pa : Option Addr) (cap : Nat) (l : List Ev) (w : World) (h : Rd w encE (.slice pa l.length cap) l) (hl : l.length ≤ 60) (h2 : 2 ≤ n) (h4 : n ≤ 4) (hf : 0 ≤ first ∧ first < n) :
    Calls Tryd.prog 3 #[.int .i64 n, .int .i64 first, .slice pa l.length cap] w fun e w' => e = .returned (.bool true) ∧ Fr [] w w' := by
  have H := Lib.hid h
  have HN : Hid (¬ ((60 < l.length ∧ l.length ≤ 200) ∨ 300 < l.length)) := by show ¬ _; omega
  have HL : Hid (l.length ≤ 60) := hl
  have HA : Hid (2 ≤ n ∧ n ≤ 4 ∧ (0 ≤ first ∧ first < n)) := ⟨h2, h4, hf⟩
  obtain ⟨l0, hl0, hg0⟩ := leads_any (runs_inv (start_inv n first h2 h4 hf) l)
  have HG0 := Lib.hid hg0
  have HL0 : Hid (l0.length ≤ 7) := hl0
  clear h hl h2 h4 hf hl0 hg0
  go_enter Tryd.func3, Tryd.ntmps3
  go_wp2_with (first
    | (go_at_call 5; refine (far_no pa l.length cap _ HN.out).mono ?_; rintro e w1 ⟨rfl, rfl⟩)
    | (refine wpList_apd rfl (.tmp 23) (.tmp 24) 22 rfl w1.heap.size 38 _ 3 24 encE Tryd.underlying22 info38z rfl (by decide) encE_len oneE (.slice (some ⟨w1.heap.size, 0, none⟩) 0 0) [] rfl (Own.empty (Nat.le_refl _) (alloc_new w1 _)) (.slice pa l.length cap) l rfl (H.out.fr0 ((Fr.refl [] w1).alloc _)) (by decide) (by have := HL.out; simp; omega) (by simp) ?_; intro v2 w2 hA; have hr2 := hA.own.rd; obtain ⟨p2, c2, rfl⟩ := hr2.shape; have HR2 : Hid (Rd w2 encE (.slice p2 l.length c2) l) := hr2; have F2 : Hid (Fr [] w1 w2) := ((Fr.refl [] w1).alloc _).new hA.fr (by simp [Value.blkOf]); clear hA hr2)
    | (go_at_call 7; refine (settle_good n first p2 c2 l _ HR2.out HA.out.1 HA.out.2.1 HA.out.2.2 (by have := HL.out; omega) l0 HL0.out HG0.out).mono ?_; rintro e w3 ⟨v3, l3, rfl, hr3, hg3, hm3, hF⟩; obtain ⟨p3, c3, rfl⟩ := hr3.shape; have HR3 := Lib.hid hr3; have HG3 := Lib.hid hg3; have HM3 := Lib.hid hm3; have F3 : Hid (Fr [] w1 w3) := F2.out.trans hF; clear hF hr3 hg3 hm3)
    | (go_at_call 8; refine (rsettle_good n first pa cap l _ (H.out.fr0 F3.out) HA.out.1 HA.out.2.1 HA.out.2.2 (by have := HL.out; omega) l0 (by have := HL0.out; omega) HG0.out).mono ?_; rintro e w4 ⟨v4, l4, rfl, hr4, hg4, hm4, hF⟩; obtain ⟨p4, c4, rfl⟩ := hr4.shape; have hlen : l4.length = l3.length := Nat.le_antisymm (hm4 _ HG3.out) (HM3.out _ hg4); rw [hlen]; have F4 : Hid (Fr [] w1 w4) := F3.out.trans hF; have HR5 := Lib.hid (HR3.out.fr0 hF); clear hF hr4 hg4 hm4 hlen)
    | (go_at_call 9; refine (rrun_good n first pa cap l _ (H.out.fr0 F4.out) HA.out.1 HA.out.2.1 HA.out.2.2 (by have := HL.out; omega)).mono ?_; rintro e w5 ⟨cv, fv, v5, rfl, hS, hF⟩; obtain ⟨pa5, na5, ca5, pb5, nb5, cb5, rfl, rfl⟩ := hS.shp; have HS5 := Lib.hid hS; have F5 : Hid (Fr [] w1 w5) := F4.out.trans hF; have HR6 := Lib.hid (HR5.out.fr0 hF); clear hF hS))
  have HSE := Lib.hid (leads_end HG3.out)
  have hl3 : l3.length ≤ 7 := Nat.le_trans (HM3.out _ HG0.out) HL0.out
  have hl3' : (l3.length : Int) ≤ 7 := by omega
  go_loopw [14] (fun i wr => ∃ k : Nat, k ≤ l3.length ∧ i = .int .i64 k ∧ (∃ pa na ca pb nb cb, wr.heap[w5.heap.size]? = some (.cells #[.slice pa na ca, .slice pb nb cb] 31 (0, 0)) ∧ RdS wr (.slice pa na ca) (.slice pb nb cb) (((Rl.start n first).runs l).runs (l3.take k))) ∧ Fr [] w5 wr) (fun i _ => l3.length - (intOf i).toNat)
  case atStart => exact ⟨0, by omega, rfl, ⟨_, _, _, _, _, _, alloc_new w5 _, HS5.out.fr0 ((Fr.refl [] w5).alloc _)⟩, (Fr.refl [] w5).alloc _⟩
  case round =>
    obtain ⟨k, hk, rfl, ⟨pa', na', ca', pb', nb', cb', hC, hS⟩, hF⟩ := hrel
    have x0 : wr.cell? ⟨w5.heap.size, 0, none⟩ = some (.slice pa' na' ca') := (cell_blk hC 0).trans rfl
    have x1 : wr.cell? ⟨w5.heap.size, 1, none⟩ = some (.slice pb' nb' cb') := (cell_blk hC 1).trans rfl
    have HC := Lib.hid hC
    have HS := Lib.hid hS
    have HF := Lib.hid hF
    have hlt5 : w5.heap.size < wr.heap.size := blk_lt hC
    clear hC hS hF
    by_cases hlt : k < l3.length
    · obtain ⟨g, off, rfl⟩ : ∃ g off, p3 = some ⟨g, off, none⟩ := HR6.out.addr (by intro e; rw [e] at hlt; simp at hlt)
      obtain ⟨ev, hc⟩ : ∃ c, l3[k]? = some c := ⟨l3[k], by simp [hlt]⟩
      obtain ⟨hkd, happ⟩ := leads_at HG3.out k ev hc
      have HT := Lib.hid happ
      have hr := (HR6.out.fr0 HF.out).cells.2.2.2.2
      have e0 : wr.cell? ⟨g, off + k * 3, none⟩ = some (I ev.kind) := hr _ _ ((flat_at encE_len l3 k 0 ev hc (by omega)).trans rfl)
      have e1 : wr.cell? ⟨g, off + k * 3 + 1, none⟩ = some (I ev.a) := hr _ _ ((flat_at encE_len l3 k 1 ev hc (by omega)).trans rfl)
      have e2 : wr.cell? ⟨g, off + k * 3 + 2, none⟩ = some (I ev.b) := hr _ _ ((flat_at encE_len l3 k 2 ev hc (by omega)).trans rfl)
      have E0 := Lib.hid e0
      have hkl : (k : Int) < l3.length := by omega
      have hlg : g < wr.heap.size := (HR6.out.fr0 HF.out).cells.2.2.2.1
      have HKD := Lib.hid hkd
      clear hc hr happ hkd
      go_upto_region 11 with fail
      go_cut [15, 16] from 60 to 68 (fun p b wx => ∃ b15 p3 n3 c3 p4 n4 c4, p = .pointer (some ⟨b15, 0, none⟩) ∧ b = .bool true ∧ wr.heap.size ≤ b15 ∧ wx.heap[b15]? = some (.cells #[.slice p3 n3 c3, .slice p4 n4 c4] 31 (0, 0)) ∧ RdS wx (.slice p3 n3 c3) (.slice p4 n4 c4) (((Rl.start n first).runs l).runs (l3.take (k + 1))) ∧ Fr [] wr wx)
      case first =>
        go_region_with (first
          | (go_at_call 10; refine (rapply_get _ _ ev (((Rl.start n first).runs l).runs (l3.take k)) _ (by exact HS.out.fr0 ((Fr.refl [] wr).alloc (.cells #[.slice none 0 0, .slice none 0 0] 31)).drew)).mono ?_; rintro e w6 ⟨cv, fv, rfl, hS3, hF3, hN3⟩; obtain ⟨p6, n6, c6, p7, n7, c7, rfl, rfl⟩ := hS3.shp; rw [HT.out] at hS3; rw [HT.out]; simp only [Option.isSome_some]; clear hN3; have HF3 : Hid (Fr [] (wr.alloc (.cells #[.slice none 0 0, .slice none 0 0] 31)) w6) := ((Fr.refl [] _).drew).trans hF3; have HB3 := Lib.hid (HF3.out.at_ (alloc_new wr _) (by simp)); have y0 : w6.cell? ⟨wr.heap.size, 0, none⟩ = some (.slice none 0 0) := (cell_blk HB3.out 0).trans rfl; have y1 : w6.cell? ⟨wr.heap.size, 1, none⟩ = some (.slice none 0 0) := (cell_blk HB3.out 1).trans rfl; have q0 : w6.frozen? ⟨wr.heap.size, 0, none⟩ = false := frozen_blk HB3.out 0; have q1 : w6.frozen? ⟨wr.heap.size, 1, none⟩ = false := frozen_blk HB3.out 1; have HS3 : Hid (RdS w6 (.slice p6 n6 c6) (.slice p7 n7 c7) (((Rl.start n first).runs l).runs (l3.take (k + 1)))) := hS3; clear hS3 hF3)
          | (go_at_call 10; refine (rapply_get _ _ ev (((Rl.start n first).runs l).runs (l3.take k)) _ (by exact HS.out.fr0 ((Fr.refl [] wr).drew))).mono ?_; rintro e w6 ⟨cv, fv, rfl, hS3, hF3, hN3⟩; obtain ⟨p6, n6, c6, p7, n7, c7, rfl, rfl⟩ := hS3.shp; rw [HT.out] at hS3; rw [HT.out]; simp only [Option.isSome_some]; clear hN3; have HF3 : Hid (Fr [] wr w6) := ((Fr.refl [] wr).drew).trans hF3; have HS3 : Hid (RdS w6 (.slice p6 n6 c6) (.slice p7 n7 c7) (((Rl.start n first).runs l).runs (l3.take (k + 1)))) := hS3; clear hS3 hF3))
        all_goals (go_wp2_with fail)
        all_goals go_meet
        all_goals (first
          | exact ⟨wr.heap.size, p6, n6, c6, p7, n7, c7, rfl, rfl, Nat.le_refl _, heap_setCell_same _ wr.heap.size 1 _ 31 (.slice p7 n7 c7) (heap_setCell_same w6 wr.heap.size 0 _ 31 (.slice p6 n6 c6) HB3.out), HS3.out.off HB3.out (((Fr.refl [wr.heap.size] w6).setCell _ _ (by simp)).setCell _ _ (by simp)), ((((Fr.refl [] wr).alloc _).trans HF3.out).setCell _ _ (Or.inr (Nat.le_refl _))).setCell _ _ (Or.inr (Nat.le_refl _))⟩
          | exact ⟨w6.heap.size, p6, n6, c6, p7, n7, c7, rfl, rfl, HF3.out.size, alloc_new w6 _, HS3.out.fr0 ((Fr.refl [] w6).alloc _), HF3.out.alloc _⟩
          | skip)
      case rest =>
        obtain ⟨b15, p6, n6, c6, p7, n7, c7, rfl, rfl, hb15, hX, hS3, hF3⟩ := hcut
        have y0 : wc.cell? ⟨b15, 0, none⟩ = some (.slice p6 n6 c6) := (cell_blk hX 0).trans rfl
        have y1 : wc.cell? ⟨b15, 1, none⟩ = some (.slice p7 n7 c7) := (cell_blk hX 1).trans rfl
        have HCx := Lib.hid (hF3.at_ HC.out (by simp))
        have HS3 := Lib.hid hS3
        have HF3 := Lib.hid hF3
        have e0' := cell_fr E0.out hF3
        have hlx : wr.heap.size ≤ wc.heap.size := hF3.size
        clear hX hS3 hF3 x0 x1 e0 e1 e2
        rcases HKD.out with hkd | hkd
        · rw [hkd] at e0'
          go_wp2_with (refine wpList_st rfl 31 (.tmp 11) (.tmp 87) rfl w5.heap.size 0 (.agg #[.slice p6 n6 c6, .slice p7 n7 c7]) (by first | rfl | simp [Act.eval]) (by first | rfl | simp [Act.eval]) 31 _ HCx.out info31 (by simp [Value.cells]) (by simp [Value.cells, Value.oneCell']) #[.slice p6 n6 c6, .slice p7 n7 c7] rfl ?_; intro w8 hF8 hB8; have HF8 := Lib.hid hF8; have HB8 := Lib.hid hB8; have HS8 := Lib.hid (HS3.out.off HCx.out hF8); clear hF8 hB8)
          go_roundw
          case rel => exact ⟨k + 1, by omega, by go_num, ⟨p6, n6, c6, p7, n7, c7, HB8.out, HS8.out⟩, (HF.out.trans HF3.out).new HF8.out (by simp)⟩
          case measure => simp [intOf]; omega
        · rw [hkd] at e0'
          go_wp2_with (refine wpList_st rfl 31 (.tmp 11) (.tmp 87) rfl w5.heap.size 0 (.agg #[.slice p6 n6 c6, .slice p7 n7 c7]) (by first | rfl | simp [Act.eval]) (by first | rfl | simp [Act.eval]) 31 _ HCx.out info31 (by simp [Value.cells]) (by simp [Value.cells, Value.oneCell']) #[.slice p6 n6 c6, .slice p7 n7 c7] rfl ?_; intro w8 hF8 hB8; have HF8 := Lib.hid hF8; have HB8 := Lib.hid hB8; have HS8 := Lib.hid (HS3.out.off HCx.out hF8); clear hF8 hB8)
          go_roundw
          case rel => exact ⟨k + 1, by omega, by go_num, ⟨p6, n6, c6, p7, n7, c7, HB8.out, HS8.out⟩, (HF.out.trans HF3.out).new HF8.out (by simp)⟩
          case measure => simp [intOf]; omega
    · have hk' : k = l3.length := by omega
      have HK := Lib.hid hk'
      go_wp2_with (first
        | (go_at_call 11; refine (rsettled_any _ _ (((Rl.start n first).runs l).runs (l3.take k)) _ HS.out).mono ?_; rintro e w8 ⟨he, hF⟩; rw [HK.out, List.take_length, HSE.out] at he; subst he; have F8 : Hid (Fr [] w1 w8) := (F5.out.trans HF.out).trans hF; clear hF)
        | (go_at_call 6; refine (works_any _).mono ?_; rintro e w9 ⟨rfl, hF⟩; have F9 : Hid (Fr [] w1 w9) := F8.out.trans hF; clear hF))
      go_ret
      exact ⟨rfl, F9.out⟩
end Go.Proofs.YtklnbcofmhlkdaaDoor
namespace Go.Proofs.YtklnbcofmhlkdaaDoor
open Go.ChangeShapes Go.WideShapes Go.ChangeAt Go.RowKit Go.Deep Rl
theorem list_of {α : Type} (p : Nat → α → Prop) : ∀ n : Nat, (∀ i, i < n → ∃ x, p i x) → ∃ l : List α, l.length = n ∧ ∀ i x, l[i]? = some x → p i x
  | 0, _ => ⟨[], rfl, fun i x h => by simp at h⟩
  | n + 1, h => by
    obtain ⟨l, hl, hp⟩ := list_of p n (fun i hi => h i (by omega))
    obtain ⟨x, hx⟩ := h n (by omega)
    refine ⟨l ++ [x], by simp [hl], fun i y hi => ?_⟩
    by_cases hc : i < n
    · rw [List.getElem?_append_left (by omega)] at hi
      exact hp i y hi
    · have hlt := (List.getElem?_eq_some_iff.1 hi).1
      obtain rfl : i = n := by simp at hlt; omega
      rw [List.getElem?_append_right (by omega), hl, Nat.sub_self] at hi
      obtain rfl : x = y := by simpa using hi
      exact hx
theorem cells38 : Tryd.prog.cellsOf 38 = 3 := by kernel_rfl
theorem cells3' : Tryd.prog.cellsOf 3 = 1 := by kernel_rfl
set_option maxRecDepth 100000 in
theorem ev_cells {H : Type} {enc : TypeId × Value → H} {W : World} {fuel : Nat} {cs : List Value} {y : DataW H × List MemPlace}
    (h : DataW.trod enc Tryd.prog W 0 (fun _ => true) true fuel 38 cs = some y) (hl : cs.length = 3) : ∃ e : Ev, cs = encE e := by
  obtain ⟨ys, n', hn', hy, hlen, hyl, hf⟩ := DataW.trod_struct Tryd.underlying38 h
  match cs, hl with
  | [c0, c1, c2], _ =>
    have f0 : DataW.trod enc Tryd.prog W 0 (fun _ => true) true n' 3 (List.take (Tryd.prog.cellsOf 3) (List.drop 0 [c0, c1, c2])) = ys[0]? := hf 0 _ rfl
    have f1 : DataW.trod enc Tryd.prog W 0 (fun _ => true) true n' 3 (List.take (Tryd.prog.cellsOf 3) (List.drop 1 [c0, c1, c2])) = ys[1]? := hf 1 _ rfl
    have f2 : DataW.trod enc Tryd.prog W 0 (fun _ => true) true n' 3 (List.take (Tryd.prog.cellsOf 3) (List.drop 2 [c0, c1, c2])) = ys[2]? := hf 2 _ rfl
    have k3 : (Tryd.prog.cellsOf 3) = 1 := cells3'
    rw [k3] at f0 f1 f2
    have hys0 : ys[0]? = some (ys[0]'(by rw [hyl]; decide)) := List.getElem?_eq_getElem _
    have hys1 : ys[1]? = some (ys[1]'(by rw [hyl]; decide)) := List.getElem?_eq_getElem _
    have hys2 : ys[2]? = some (ys[2]'(by rw [hyl]; decide)) := List.getElem?_eq_getElem _
    obtain ⟨z0, h0, _⟩ := DataW.trod_int Tryd.underlying3 (f0.trans hys0)
    obtain ⟨z1, h1, _⟩ := DataW.trod_int Tryd.underlying3 (f1.trans hys1)
    obtain ⟨z2, h2, _⟩ := DataW.trod_int Tryd.underlying3 (f2.trans hys2)
    refine ⟨⟨z0, z1, z2⟩, ?_⟩
    have g0 : c0 = .int .i64 z0 := (List.cons.inj (show [c0] = [_] from h0)).1
    have g1 : c1 = .int .i64 z1 := (List.cons.inj (show [c1] = [_] from h1)).1
    have g2 : c2 = .int .i64 z2 := (List.cons.inj (show [c2] = [_] from h2)).1
    rw [g0, g1, g2]
    rfl
set_option maxRecDepth 100000 in
theorem rd_arg {H : Type} {enc : TypeId × Value → H} {W : World} {base : Nat} {pa : Option Addr} {len cap : Nat} {d : DataW H} {ps : List MemPlace}
    (hval : Value.okWide Tryd.prog W .any base 22 (.slice pa len cap)) (h : DataW.Trod enc Tryd.prog W 0 (fun _ => true) true 22 (.slice pa len cap) d ps) :
    ∃ l : List Ev, l.length = len ∧ Rd W encE (.slice pa l.length cap) l := by
  obtain ⟨fuel, hf⟩ := h
  rcases open_slice Tryd.underlying22 hf with ⟨hcs, _⟩ | ⟨a, len', cap', m, n, D, Pl, hcs, hb, hl, hm, hmm, hx, hi⟩
  · simp [Value.cells] at hcs
    obtain ⟨rfl, rfl, rfl⟩ := hcs
    exact ⟨[], rfl, Rd.nil _ _⟩
  · simp [Value.cells] at hcs
    obtain ⟨rfl, rfl, rfl⟩ := hcs
    have hok : W.has Tryd.prog .any base a 38 cap := by
      unfold Value.okWide at hval
      rw [Tryd.underlying22] at hval
      simp only [Cell.okWide, Cell.ok, Tryd.underlying22] at hval
      exact hval.2.2
    obtain ⟨_, hsp, row, cells, hsh, _⟩ := hok
    obtain ⟨b, off, spot⟩ := a
    simp only at hsp
    subst hsp
    have hlt : b < W.heap.size := by
      unfold World.shape? at hsh
      cases hb' : W.heap[b]? with
      | none => simp [hb'] at hsh
      | some x => exact blk_lt hb'
    have hm' : len ≤ m := by rw [hmm]; simpa using hl
    obtain ⟨l, hll, hp⟩ := list_of (fun i (e : Ev) => ∀ j u, (encE e)[j]? = some u → W.cell? ⟨b, off + (i * 3 + j), none⟩ = some u) len (fun i hi' => by
      obtain ⟨cs', hc, ht'⟩ := hi i (by omega)
      rw [cells38] at hc
      obtain ⟨_, hcl, hat⟩ := World.cells?_some hc
      obtain ⟨e, he⟩ := ev_cells ht' hcl
      refine ⟨e, fun j u hu => ?_⟩
      have hj : j < 3 := by have := (List.getElem?_eq_some_iff.1 hu).1; simpa [encE] using this
      have hcell := hat j hj
      rw [he] at hcell
      rw [hu] at hcell
      rw [add_plain, add_plain, Nat.add_assoc] at hcell
      exact hcell)
    refine ⟨l, hll, .inr ⟨b, off, cap, rfl, by omega, hm, hlt, fun j u hj => ?_⟩⟩
    have hj3 : j % 3 < 3 := Nat.mod_lt _ (by decide)
    have ej : j / 3 * 3 + j % 3 = j := by omega
    rw [← ej, flat_get encE_len l _ _ hj3] at hj
    cases hx' : l[j / 3]? with
    | none => simp [hx'] at hj
    | some e =>
      rw [hx'] at hj
      have := hp _ e hx' _ u hj
      rwa [ej] at this
end Go.Proofs.YtklnbcofmhlkdaaDoor
namespace Go.Proofs.YtklnbcofmhlkdaaDoor
open Go.ChangeShapes Go.WideShapes Go.ChangeAt Go.RowKit Rl
theorem own : ownKnob Tryd.prog.godebug = none := by kernel_rfl
theorem laidOutC : laidOutB Tryd.prog = true := by kernel_rfl
theorem law_all (n first : Int) (pa : Option Addr) (cap : Nat) (l : List Ev) (w : World) (h : Rd w encE (.slice pa l.length cap) l) :
    Calls Tryd.prog 3 #[.int .i64 n, .int .i64 first, .slice pa l.length cap] w fun e w' => e = .returned (.bool true) ∧ Fr [] w w' := by
  by_cases hf : (60 < l.length ∧ l.length ≤ 200) ∨ 300 < l.length
  · exact law_far n first pa l.length cap w hf
  · by_cases hc : errC n first l.length = 0
    · have h1 : ¬ (n < 2 ∨ 4 < n ∨ first < 0 ∨ n ≤ first) := fun h1 => by unfold errC at hc; rw [if_pos h1] at hc; cases hc
      have h2 : ¬ 200 < l.length := fun h2 => by unfold errC at hc; rw [if_neg h1, if_pos h2] at hc; cases hc
      obtain ⟨m, rfl⟩ : ∃ m : Nat, n = m := ⟨n.toNat, by omega⟩
      exact law_good m first pa cap l w h (by omega) (by omega) (by omega) (by omega)
    · exact law_bad n first pa cap l w h hf _ rfl hc
set_option maxRecDepth 100000 in
theorem lifted (os : Os) (started : os.Started) (H : Type) (enc : TypeId × Value → H) :
    ReturnsInHanded {} Tryd.checked os 3 .any (fun w args => (Rows.relaySettlesSpec.pre enc Tryd.prog Tryd.f3 [] false w args ∧ laidMetH Tryd.prog Rows.relaySettlesRow.laid w) ∧ sizedMet enc Tryd.prog Tryd.f3 (OpenSpec.ofChange Rows.relaySettlesSpec) false w args)
      (Rows.relaySettlesSpec.post enc Tryd.prog Tryd.f3 false true false false) := by
  refine returnsInHanded_of_change_and (C := Tryd.checked) (X := fun w _ => laidMetH Tryd.prog Rows.relaySettlesRow.laid w) (fun _ _ _ hh h => h.of_heap hh) own started (by kernel_rfl) Tryd.func3
    (ChangeSpec.witness_shaped (enc := enc) (C := Tryd.checked) (os := os) (X := fun w _ => laidMetH Tryd.prog Rows.relaySettlesRow.laid w) false (World.laidAll Tryd.prog os Rows.relaySettlesRow.laid) #[.int .i64 0, .int .i64 0, .slice none 0 0] 8 (World.laidAll_os _ _ _)
      (World.shaped_of_ZipB (by kernel_rfl) (by kernel_rfl)) (by kernel_rfl) (by kernel_rfl) (by kernel_rfl)
      (by rw [MakeChecks.laidMetH_plain _ _ _ (by kernel_rfl)]; exact laidMet_laidAll _ (by kernel_rfl) (by kernel_rfl))) ?_
  intro W base args ds gs before hval0 hW _ _ _ _
  have hval : ∀ (j : Nat) t v, Tryd.f3.params[j]? = some t → args[j]? = some v → Value.okWide Tryd.prog W .any base t v := hval0
  have hW' := hW
  obtain ⟨p, q, hA0, hV, rfl, _, _⟩ := hW
  have hA : DataW.TrodAll enc Tryd.prog W 0 (fun _ => true) true Tryd.f3.params.toList args.toList ds p := hA0
  rw [Tryd.params3] at hA hval
  obtain ⟨v0, vs0, d0, ds0, p0, q0, hargs, rfl, rfl, h0, r0⟩ := trodAll_cons hA
  obtain ⟨v1, vs1, d1, ds1, p1, q1, rfl, rfl, rfl, h1, r1⟩ := trodAll_cons r0
  obtain ⟨v2, vs2, d2, ds2, p2, q2, rfl, rfl, rfl, h2, r2⟩ := trodAll_cons r1
  obtain ⟨rfl, rfl, rfl⟩ := trodAll_nil r2
  obtain rfl : args = #[v0, v1, v2] := by cases args; simp_all
  obtain ⟨rfl, rfl⟩ := trodVars_none hV
  obtain ⟨n, rfl, rfl, rfl, wn⟩ := open_int Tryd.underlying3 (hval 0 3 v0 rfl rfl) h0
  obtain ⟨first, rfl, rfl, rfl, wf⟩ := open_int Tryd.underlying3 (hval 1 3 v1 rfl rfl) h1
  obtain ⟨a0, len, cap, rfl⟩ := okWide_slice Tryd.underlying22 (hval 2 22 v2 rfl rfl)
  obtain ⟨l, rfl, hR⟩ := rd_arg (hval 2 22 _ rfl rfl) h2
  clear hA0
  simp only [List.append_nil, List.nil_append] at hW'
  have hlt : ∀ x ∈ p2, x.block < W.heap.size := fun x hx => by simpa using hW'.lt x hx
  refine (law_all n first a0 cap l W hR).mono fun e W' ⟨he, hF⟩ => ?_
  subst he
  have bel := hF.below
  have hb : DataW.TrodAll enc Tryd.prog W' 0 (fun b => decide (b < W.heap.size)) true [3, 3, 22] [.int .i64 n, .int .i64 first, .slice a0 l.length cap] [.lit (.int .i64 n), .lit (.int .i64 first), d2] p2 := by
    have hx := trodAll_cons_mk (shut_int (enc := enc) (w := W') (base := 0) (spare := fun b => decide (b < W.heap.size)) (held := true) Tryd.underlying3 wn) (trodAll_cons_mk (shut_int Tryd.underlying3 wf) (trodAll_mk1 (Below.trod laidOutC (by kernel_rfl) (of_decide_eq_true (by kernel_rfl)) h2 bel hlt)))
    simpa using hx
  exact ⟨_, rfl, _, _, _, [], p2, [], hW', trodAll_mk1 (shut_bool Tryd.underlying4 _), hb, rfl, bel.frame _, fun h => by cases h⟩
theorem relaySettles_said : Rows.RelaySettlesSaid :=
  OpenClaim.holds_of_wide 3 Tryd.f3 rfl rfl rfl rfl rfl rfl rfl ⟨rfl, rfl, rfl, rfl, rfl⟩ rfl rfl rfl rfl rfl (by kernel_rfl) Tryd.func3 (by kernel_rfl)
    (of_decide_eq_true (by kernel_rfl)) (by unfold Func.isWrapper; first | (rw [if_pos (by decide +kernel)]; kernel_rfl) | (rw [if_neg (by decide +kernel)]; exact ⟨rfl, rfl⟩))
    (fun os started H enc _ => lifted os started H enc)
theorem plain (f : FuncId) (fn : Func) (hf : Tryd.pinned.checked.prog.funcNamed "coble/coblelaw10.RelaySettles" = some f) (hfn : Tryd.pinned.checked.prog.funcs[f]? = some fn) :
    false = Tryd.pinned.checked.prog.looks [] ∧ ∀ (j : Nat) t, fn.params[j]? = some t → Tryd.pinned.checked.prog.wantsStandIn t = false := by
  obtain rfl : f = 3 := Option.some.inj ((show Tryd.prog.funcNamed "coble/coblelaw10.RelaySettles" = some 3 by kernel_rfl).symm.trans hf) |>.symm
  obtain rfl : fn = Tryd.f3 := (Option.some.inj (Tryd.func3.symm.trans hfn)).symm
  refine ⟨by kernel_rfl, fun j t ht => ?_⟩
  rw [Tryd.params3] at ht
  have hm : t ∈ [3, 3, 22] := by simpa using Array.mem_of_getElem? ht
  simp only [List.mem_cons, List.mem_nil_iff, or_false] at hm
  rcases hm with rfl | rfl | rfl
  · exact (show Tryd.prog.wantsStandIn 3 = false by kernel_rfl)
  · exact (show Tryd.prog.wantsStandIn 3 = false by kernel_rfl)
  · exact (show Tryd.prog.wantsStandIn 22 = false by kernel_rfl)
/-- The card. -/
theorem relaySettles_card : Rows.RelaySettlesCardSaid :=
  Claim7.holds_tied_plain_at .later [] _ _ _ _ relaySettles_said (fun _ h => by cases h) (by kernel_rfl) (fun _ h => by cases h) relaySettles_row_tie rfl ⟨rfl, rfl⟩ (by kernel_rfl) rfl plain (by kernel_rfl)
end Go.Proofs.YtklnbcofmhlkdaaDoor
