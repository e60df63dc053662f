/- cobleref10: Run -/
import Derived.Test.YtklnbcofmhlkdaaDoorRfC
import Derived.Deep.RegionWith
import Derived.Deep.Cut
import Derived.Deep.CutRange
set_option linter.unusedVariables false
set_option linter.unusedSimpArgs false
namespace Go.Proofs.YtklnbcofmhlkdaaDoor
open Go.RowKit Rl

theorem rapply_get (cv fv : Value) (e : Ev) (s : S) (w : World) (h : RdS w cv fv s) :
    Calls Tryd.prog 10 #[.agg #[cv, fv], .agg #[.int .i64 e.kind, .int .i64 e.a, .int .i64 e.b]] w fun x w' =>
      ∃ cv' fv', x = .returned (.tuple #[.agg #[cv', fv'], .bool (s.app e).isSome]) ∧ RdS w' cv' fv' ((s.app e).getD s) ∧ Fr [] w w' ∧ ∀ z, z ∈ Value.blkOf cv' ∨ z ∈ Value.blkOf fv' → (z ∈ Value.blkOf cv ∨ z ∈ Value.blkOf fv) ∨ w.heap.size ≤ z := by
  refine (rapply_any cv fv e s w h).mono ?_
  intro x w' hp
  unfold ApPost at hp
  obtain ⟨hF, hp⟩ := hp
  cases he : s.app e with
  | none => rw [he] at hp; exact ⟨cv, fv, hp, h.fr0 hF, hF, fun z hz => .inl hz⟩
  | some s' =>
    rw [he] at hp
    obtain ⟨cv', fv', h1, h2, h3⟩ := hp
    exact ⟨cv', fv', h1, h2, hF, fun z hz => .inr (h3 z hz)⟩

theorem RdS.shp {w : World} {cv fv : Value} {s : S} (h : RdS w cv fv s) : ∃ pa na ca pb nb cb, cv = .slice pa na ca ∧ fv = .slice pb nb cb := by
  obtain ⟨ca, cc, h1⟩ := h.cen.shape
  obtain ⟨fa, cf, h2⟩ := h.fl.shape
  exact ⟨_, _, _, _, _, _, h1, h2⟩

/-- a block that holds nothing of what a slice reads may change -/
theorem Rd.off {α : Type} {w w' : World} {f : α → List Value} {v : Value} {l : List α} {b : Nat} {C : Array Value} {E : TypeId} {fz : Nat × Nat} (h : Rd w f v l) (hb : w.heap[b]? = some (.cells C E fz)) (hC : ∀ u ∈ C, ∀ x ∈ l, u ∉ f x) (hF : Fr [b] w w') : Rd w' f v l := by
  rcases h with h | ⟨g, off, cap, rfl, h1, h2, h3, h4⟩
  · exact .inl h
  by_cases hg : g = b
  · subst hg
    refine .inr ⟨g, off, cap, rfl, h1, h2, Nat.lt_of_lt_of_le h3 hF.size, fun j u hj => ?_⟩
    have hc := h4 j u hj
    rw [cell_blk hb] at hc
    obtain ⟨x, hx, hu⟩ := List.mem_flatMap.1 (List.mem_of_getElem? hj)
    exact absurd hu (hC u (Array.mem_of_getElem? hc) x hx)
  · exact Rd.fr (.inr ⟨g, off, cap, rfl, h1, h2, h3, h4⟩) hF (by simpa [blkOf_slice] using hg)
theorem RdS.fr {w w' : World} {cv fv : Value} {s : S} {l : List Nat} (h : RdS w cv fv s) (hf : Fr l w w') (hs : ∀ g, g ∈ Value.blkOf cv ∨ g ∈ Value.blkOf fv → g ∉ l) : RdS w' cv fv s :=
  ⟨h.cen.fr hf fun g hg => hs g (.inl hg), h.fl.fr hf fun g hg => hs g (.inr hg), h.ok⟩
theorem RdS.lt {w : World} {cv fv : Value} {s : S} (h : RdS w cv fv s) : ∀ g, g ∈ Value.blkOf cv ∨ g ∈ Value.blkOf fv → g < w.heap.size := fun g hg => hg.elim (h.cen.lt g) (h.fl.lt g)
theorem RdS.off {w w' : World} {cv fv : Value} {s : S} {b : Nat} {p q : Option Addr} {n1 c1 n2 c2 : Nat} {E : TypeId} {fz : Nat × Nat} (h : RdS w cv fv s) (hb : w.heap[b]? = some (.cells #[.slice p n1 c1, .slice q n2 c2] E fz)) (hF : Fr [b] w w') : RdS w' cv fv s :=
  ⟨h.cen.off hb (by simp [encC]) hF, h.fl.off hb (by simp [encM]) hF, h.ok⟩

set_option maxRecDepth 100000 in
set_option maxHeartbeats 1000000 in
theorem rrun_good (n : Nat) (first : Int) (pa0 : Option Addr) (cap : Nat) (l : List Ev) (w : World) (h : Rd w encE (.slice pa0 l.length cap) l) (h2 : 2 ≤ n) (h4 : n ≤ 4) (hf : 0 ≤ first ∧ first < n) (hl : l.length ≤ 200) :
    Calls Tryd.prog 9 #[.int .i64 n, .int .i64 first, .slice pa0 l.length cap] w fun e w' => ∃ cv fv v, e = .returned (.tuple #[.agg #[cv, fv], v, .int .i64 0]) ∧ RdS w' cv fv ((Rl.start n first).runs l) ∧ Fr [] w w' := by
  have H := Lib.hid h
  have hl' : (l.length : Int) ≤ 200 := by omega
  have HE : Hid (errC n first l.length = 0) := by
    show _ = _; unfold errC; rw [if_neg (by omega), if_neg (by omega)]
  have HB : Hid (2 ≤ n ∧ n ≤ 4 ∧ 0 ≤ first ∧ first < n) := ⟨h2, h4, hf⟩
  clear h h2 h4 hf
  go_enter Tryd.func9, Tryd.ntmps9
  go_wp2_with (first
    | (go_at_call 12; refine (check_any n first _ l.length cap _).mono ?_; rintro e w1 ⟨he, hF1⟩; rw [HE.out] at he; subst he; have HF1 := Lib.hid hF1; clear hF1)
    | (go_at_call 23; refine (initial_any n first _ HB.out.1 HB.out.2.1 HB.out.2.2).mono ?_; rintro e w2 ⟨cv, fv, rfl, hS, hF2⟩; obtain ⟨pa, na, ca, pb, nb, cb, rfl, rfl⟩ := hS.shp; have HS2 := Lib.hid hS; have HF2 := Lib.hid hF2; clear hF2 hS))
  have HZ : Hid (Fr [] w w2 ∧ w2.heap[w.heap.size]? = some (.cells #[.slice none 0 0, .slice none 0 0] 31 (0, 0)) ∧ w.heap.size < w2.heap.size) := by
    have hb := HF2.out.at_ (HF1.out.at_ (alloc_new w _) (by simp)) (by simp)
    exact ⟨(((Fr.refl [] w).alloc _).trans HF1.out).trans HF2.out, hb, blk_lt hb⟩
  go_loopw [11, 12] (fun v i wr => ∃ k : Nat, k ≤ l.length ∧ i = .int .i64 k ∧ (∃ pa na ca pb nb cb, wr.heap[w2.heap.size]? = some (.cells #[.slice pa na ca, .slice pb nb cb] 31 (0, 0)) ∧ RdS wr (.slice pa na ca) (.slice pb nb cb) ((Rl.start n first).runs (l.take k)) ∧ ∀ z ∈ Value.blkOf v, ¬ (z ∈ Value.blkOf (.slice pa na ca) ∨ z ∈ Value.blkOf (.slice pb nb cb))) ∧ (∃ bl : List Bool, bl.length = k ∧ Own wr (w2.heap.size + 1) 4 1 encB v bl) ∧ Fr [] w wr ∧ wr.heap[w.heap.size]? = some (.cells #[.slice none 0 0, .slice none 0 0] 31 (0, 0))) (fun _ i _ => l.length - (intOf i).toNat)
  case atStart => exact ⟨0, by omega, rfl, ⟨_, _, _, _, _, _, alloc_new w2 _, HS2.out.fr0 ((Fr.refl [] w2).alloc _), by simp [Value.blkOf]⟩, ⟨[], rfl, Own.nil _ _ _ _ _⟩, HZ.out.1.alloc _, alloc_at HZ.out.2.1 _⟩
  case round =>
    obtain ⟨k, hk, rfl, ⟨pa', na', ca', pb', nb', cb', hC, hS, hD⟩, ⟨bl, hbl, hown⟩, hF, hR⟩ := hrel
    have x0 : wr.cell? ⟨w2.heap.size, 0, none⟩ = some (.slice pa' na' ca') := (cell_blk hC 0).trans rfl
    have x1 : wr.cell? ⟨w2.heap.size, 1, none⟩ = some (.slice pb' nb' cb') := (cell_blk hC 1).trans rfl
    have HC := Lib.hid hC
    have HS := Lib.hid hS
    have HD := Lib.hid hD
    have HBL := Lib.hid hbl
    have HO := Lib.hid hown
    have HF := Lib.hid hF
    have HR := Lib.hid hR
    have hlt2 : w2.heap.size < wr.heap.size := blk_lt hC
    clear hC hS hD hbl hown hF hR
    by_cases hlt : k < l.length
    · obtain ⟨g, off, rfl⟩ : ∃ g off, pa0 = some ⟨g, off, none⟩ := H.out.addr (by intro e; rw [e] at hlt; simp at hlt)
      obtain ⟨ev, hc⟩ : ∃ c, l[k]? = some c := ⟨l[k], by simp [hlt]⟩
      have HT : Hid ((Rl.start n first).runs (l.take (k + 1)) = ((((Rl.start n first).runs (l.take k)).app ev).getD ((Rl.start n first).runs (l.take k)))) := by
        show _ = _; rw [List.take_add_one, hc]; exact runs_snoc _ _ _
      have hr := (H.out.fr0 HF.out).cells.2.2.2.2
      have e0 : wr.cell? ⟨g, off + k * 3, none⟩ = some (I ev.kind) := hr _ _ ((flat_at encE_len l k 0 ev hc (by omega)).trans rfl)
      have e1 : wr.cell? ⟨g, off + k * 3 + 1, none⟩ = some (I ev.a) := hr _ _ ((flat_at encE_len l k 1 ev hc (by omega)).trans rfl)
      have e2 : wr.cell? ⟨g, off + k * 3 + 2, none⟩ = some (I ev.b) := hr _ _ ((flat_at encE_len l k 2 ev hc (by omega)).trans rfl)
      have hkl : (k : Int) < l.length := by omega
      have hlg : g < wr.heap.size := (H.out.fr0 HF.out).cells.2.2.2.1
      clear hc hr
      go_upto_region 9 with fail
      go_cut [13, 14] from 26 to 45 (fun p b wx => ∃ b13 p3 n3 c3 p4 n4 c4 bv, p = .pointer (some ⟨b13, 0, none⟩) ∧ b = .bool bv ∧ wr.heap.size ≤ b13 ∧ wx.heap[b13]? = some (.cells #[.slice p3 n3 c3, .slice p4 n4 c4] 31 (0, 0)) ∧ RdS wx (.slice p3 n3 c3) (.slice p4 n4 c4) ((((Rl.start n first).runs (l.take k)).app ev).getD ((Rl.start n first).runs (l.take k))) ∧ Fr [] wr wx ∧ ∀ z, z ∈ Value.blkOf (.slice p3 n3 c3) ∨ z ∈ Value.blkOf (.slice p4 n4 c4) → (z ∈ Value.blkOf (.slice pa' na' ca') ∨ z ∈ Value.blkOf (.slice pb' nb' cb')) ∨ wr.heap.size ≤ z)
      case first =>
        go_region_with (first
          | (go_at_call 10; refine (rapply_get _ _ ev ((Rl.start n first).runs (l.take k)) _ (by exact HS.out.fr0 ((Fr.refl [] wr).alloc (.cells #[.slice none 0 0, .slice none 0 0] 31)).drew)).mono ?_; rintro e w3 ⟨cv, fv, rfl, hS3, hF3, hN3⟩; obtain ⟨p3, n3, c3, p4, n4, c4, rfl, rfl⟩ := hS3.shp; have HN3 : Hid (∀ z, z ∈ Value.blkOf (.slice p3 n3 c3) ∨ z ∈ Value.blkOf (.slice p4 n4 c4) → (z ∈ Value.blkOf (.slice pa' na' ca') ∨ z ∈ Value.blkOf (.slice pb' nb' cb')) ∨ wr.heap.size ≤ z) := fun z hz => (hN3 z hz).imp id (fun h => (by simp at h; omega)); clear hN3; have HF3 : Hid (Fr [] (wr.alloc (.cells #[.slice none 0 0, .slice none 0 0] 31)) w3) := ((Fr.refl [] _).drew).trans hF3; have HB3 := Lib.hid (HF3.out.at_ (alloc_new wr _) (by simp)); have y0 : w3.cell? ⟨wr.heap.size, 0, none⟩ = some (.slice none 0 0) := (cell_blk HB3.out 0).trans rfl; have y1 : w3.cell? ⟨wr.heap.size, 1, none⟩ = some (.slice none 0 0) := (cell_blk HB3.out 1).trans rfl; have q0 : w3.frozen? ⟨wr.heap.size, 0, none⟩ = false := frozen_blk HB3.out 0; have q1 : w3.frozen? ⟨wr.heap.size, 1, none⟩ = false := frozen_blk HB3.out 1; have HS3 := Lib.hid hS3; generalize Option.isSome _ = bv; clear hS3 hF3)
          | (go_at_call 10; refine (rapply_get _ _ ev ((Rl.start n first).runs (l.take k)) _ (by exact HS.out.fr0 ((Fr.refl [] wr).drew))).mono ?_; rintro e w3 ⟨cv, fv, rfl, hS3, hF3, hN3⟩; obtain ⟨p3, n3, c3, p4, n4, c4, rfl, rfl⟩ := hS3.shp; have HN3 : Hid (∀ z, z ∈ Value.blkOf (.slice p3 n3 c3) ∨ z ∈ Value.blkOf (.slice p4 n4 c4) → (z ∈ Value.blkOf (.slice pa' na' ca') ∨ z ∈ Value.blkOf (.slice pb' nb' cb')) ∨ wr.heap.size ≤ z) := fun z hz => (hN3 z hz).imp id (fun h => (by simp at h; omega)); clear hN3; have HF3 : Hid (Fr [] wr w3) := ((Fr.refl [] wr).drew).trans hF3; have HS3 := Lib.hid hS3; generalize Option.isSome _ = bv; clear hS3 hF3))
        all_goals (go_wp2_with fail)
        all_goals go_meet
        all_goals (first
          | exact ⟨wr.heap.size, p3, n3, c3, p4, n4, c4, bv, rfl, rfl, Nat.le_refl _, heap_setCell_same _ wr.heap.size 1 _ 31 (.slice p4 n4 c4) (heap_setCell_same w3 wr.heap.size 0 _ 31 (.slice p3 n3 c3) HB3.out), HS3.out.off HB3.out (((Fr.refl [wr.heap.size] w3).setCell _ _ (by simp)).setCell _ _ (by simp)), ((((Fr.refl [] wr).alloc _).trans HF3.out).setCell _ _ (Or.inr (Nat.le_refl _))).setCell _ _ (Or.inr (Nat.le_refl _)), HN3.out⟩
          | exact ⟨w3.heap.size, p3, n3, c3, p4, n4, c4, bv, rfl, rfl, HF3.out.size, alloc_new w3 _, HS3.out.fr0 ((Fr.refl [] w3).alloc _), HF3.out.alloc _, HN3.out⟩
          | skip)
      case rest =>
        obtain ⟨b13, p3, n3, c3, p4, n4, c4, bv, rfl, rfl, hb13, hX, hS3, hF3, hN3⟩ := hcut
        have y0 : wc.cell? ⟨b13, 0, none⟩ = some (.slice p3 n3 c3) := (cell_blk hX 0).trans rfl
        have y1 : wc.cell? ⟨b13, 1, none⟩ = some (.slice p4 n4 c4) := (cell_blk hX 1).trans rfl
        have HCx := Lib.hid (hF3.at_ HC.out (by simp))
        have HS3 := Lib.hid hS3
        have HF3 := Lib.hid hF3
        have HN3 := Lib.hid hN3
        have HL3 := Lib.hid hS3.lt
        have hlx : wr.heap.size ≤ wc.heap.size := hF3.size
        clear hX hS3 hF3 hN3 x0 x1 e0 e1 e2
        go_wp2_with (first
          | (refine wpList_st rfl 31 (.tmp 10) (.tmp 41) rfl w2.heap.size 0 (.agg #[.slice p3 n3 c3, .slice p4 n4 c4]) (by first | rfl | simp [Act.eval]) (by first | rfl | simp [Act.eval]) 31 _ HCx.out info31 (by simp [Value.cells]) (by simp [Value.cells, Value.oneCell']) #[.slice p3 n3 c3, .slice p4 n4 c4] rfl ?_; intro w4 hF4 hB4; have HF4 := Lib.hid hF4; have HB4 := Lib.hid hB4; have hl4 : wc.heap.size ≤ w4.heap.size := hF4.size; have HS4 := Lib.hid (HS3.out.off HCx.out hF4); clear hF4 hB4)
          | (refine wpList_apd rfl (.tmp 42) (.tmp 44) 32 rfl (w2.heap.size + 1) 4 (.bool false) 1 1 encB Tryd.underlying32 info4 rfl (by decide) (fun _ => rfl) (by simp [encB, Value.oneCell']) _ bl rfl ((HO.out.fr (((HF3.out.of_nil (l := [w2.heap.size]))).trans HF4.out) (by intro x hx; have := HO.out.blk x hx; simp; omega)).fr ((Fr.refl [] _).alloc _) (by simp)) (.slice (some ⟨w4.heap.size, 0, none⟩) 1 1) [bv] rfl (Rd.of_blk (l := [bv]) (alloc_new w4 _) rfl (by simp) (by simp [maxLen])) (by decide) (by simp [HBL.out]; omega) (by simp; omega) ?_; intro v' w5 hA5; have HO5 := Lib.hid hA5.own; have HF5 := Lib.hid hA5.fr; have HK5 := Lib.hid hA5.blk; clear hA5))
        have HU : Hid (∀ z ∈ Value.blkOf u11, w2.heap.size + 1 ≤ z ∧ z < wr.heap.size) := fun z hz => HO.out.blk z hz
        have F4 : Fr [w2.heap.size] wr w4 := (HF3.out.of_nil).trans HF4.out
        have F5 : Fr (w2.heap.size :: Value.blkOf u11) wr w5 := ((F4.mono (by simp)).alloc _).trans (HF5.out.mono (fun x hx => List.mem_cons_of_mem _ hx))
        have hD5 : ∀ g, g ∈ Value.blkOf (.slice p3 n3 c3) ∨ g ∈ Value.blkOf (.slice p4 n4 c4) → g ∉ Value.blkOf u11 := fun g hg hm => by
          rcases HN3.out g hg with h | h
          · exact HD.out g hm h
          · have := (HU.out g hm).2; omega
        go_roundw
        case rel =>
          refine ⟨k + 1, by omega, by go_num, ⟨p3, n3, c3, p4, n4, c4, ?_, ?_, ?_⟩, ⟨bl ++ [bv], by simp [HBL.out], HO5.out⟩, HF.out.new F5 ?_, F5.at_ HR.out ?_⟩
          · exact HF5.out.at_ (alloc_at HB4.out _) (fun hm => by have := (HU.out _ hm).1; omega)
          · rw [HT.out]; exact (HS4.out.fr0 ((Fr.refl [] w4).alloc _)).fr HF5.out hD5
          · intro z hz hm
            rcases HK5.out z hz with h | h
            · exact hD5 z hm h
            · have := HL3.out z hm; simp at h; omega
          · intro x hx
            have := HZ.out.2.2
            simp only [List.mem_cons] at hx
            rcases hx with rfl | hx
            · right; omega
            · right; have := (HU.out x hx).1; omega
          · intro hm
            have := HZ.out.2.2
            simp only [List.mem_cons] at hm
            rcases hm with h | h
            · omega
            · have := (HU.out _ h).1; omega
        case measure => simp [intOf]; omega
    · have hk' : k = l.length := by omega
      have HK := Lib.hid hk'
      have hz0 : wr.heap.size > 0 := by omega
      go_wp2_with (first
        | (refine wpList_st rfl 31 (.tmp 6) (.tmp 46) rfl w.heap.size 0 (.agg #[.slice pa' na' ca', .slice pb' nb' cb']) (by first | rfl | simp [Act.eval]) (by first | rfl | simp [Act.eval]) 31 _ HR.out info31 (by simp [Value.cells]) (by simp [Value.cells, Value.oneCell']) #[.slice pa' na' ca', .slice pb' nb' cb'] rfl ?_; intro w5 hF5 hB5; have HF5 := Lib.hid hF5; have HB5 := Lib.hid hB5; clear hF5 hB5))
      refine bodyPost_ret (v := .tuple #[.agg #[.slice pa' na' ca', .slice pb' nb' cb'], u11, .int .i64 0]) (results_cell3 rfl _ _ w.heap.size 31 _ (0, 0) _ rfl HB5.out Tryd.underlying31 rfl info31 u11 (.int .i64 0) rfl rfl) rfl ⟨_, _, u11, rfl, ?_, HF.out.new HF5.out (by simp)⟩
      have := HS.out.off HR.out HF5.out
      rw [HK.out, List.take_length] at this
      exact this
end Go.Proofs.YtklnbcofmhlkdaaDoor
