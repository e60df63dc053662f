/- cobleref10: Copy · cobleref10: without, send · cobleref10: send -/
import Derived.Test.YtklnbcofmhlkdaaDoorRlA
set_option linter.unusedVariables false
set_option linter.unusedSimpArgs false
namespace Go.Proofs.YtklnbcofmhlkdaaDoor
open Go.RowKit Rl

theorem info46z : (Tryd.prog.info? 46).map (fun i => (i.zero, i.size, i.bytes)) = some (some (.agg #[I 0, I 0, I 0]), 3, 24) := by kernel_rfl
theorem info31 : (Tryd.prog.info? 31).map (·.size) = some 2 := by kernel_rfl
theorem info55z : (Tryd.prog.info? 55).map (fun i => (i.zero, i.size, i.bytes)) = some (some (.agg #[I 0, I 0, I 0, I 0]), 4, 32) := by kernel_rfl
theorem oneC (c : Ctr) : ∀ u ∈ encC c, u.oneCell' = true := by simp [encC, Value.oneCell']
theorem oneM (c : Msg) : ∀ u ∈ encM c, u.oneCell' = true := by simp [encM, Value.oneCell']
/-- a made slice without elements -/
theorem Own.empty {α : Type} {w : World} {base g : Nat} {E : TypeId} {k : Nat} {f : α → List Value} (hb : base ≤ g) (h : w.heap[g]? = some (.cells #[] E (0, 0))) : Own w base E k f (.slice (some ⟨g, 0, none⟩) 0 0) ([] : List α) :=
  ⟨by simp, .inr ⟨g, 0, #[], rfl, hb, h, Nat.le_refl _, by simp [maxLen], by simp, by simp⟩⟩

set_option maxRecDepth 100000 in
set_option maxHeartbeats 2000000 in
theorem copy_any (cv fv : Value) (s : S) (w : World) (hc : Rd w encC cv s.cen) (hm : Rd w encM fv s.fl) (h4 : s.cen.length ≤ 4) (h6 : s.fl.length ≤ 6) :
    Calls Tryd.prog 24 #[.agg #[cv, fv]] w fun e w' => ∃ cv fv, e = .returned (.agg #[cv, fv]) ∧ Own w' w.heap.size 46 3 encC cv s.cen ∧ Own w' w.heap.size 55 4 encM fv s.fl ∧ (∀ x ∈ Value.blkOf cv, x ∉ Value.blkOf fv) ∧ Fr [] w w' := by
  obtain ⟨ca, cc, rfl⟩ := hc.shape
  obtain ⟨fa, cf, rfl⟩ := hm.shape
  have HC := Lib.hid hc
  have HM := Lib.hid hm
  clear hc hm
  go_enter Tryd.func24, Tryd.ntmps24
  go_wp2
  refine wp_forget (fun W => Fr [] w W ∧ W.heap[w.heap.size]? = some (.cells #[.slice ca s.cen.length cc, .slice fa s.fl.length cf] 31 (0, 0)) ∧ W.heap[w.heap.size + 1]? = some (.cells #[.slice none 0 0, .slice none 0 0] 31 (0, 0)))
    ⟨((Fr.refl _ _).alloc _).alloc _, alloc_at (alloc_new _ _) _, heap_alloc2_new _ _ _⟩ ?_
  rintro W ⟨hF, hX, hR⟩
  have x0 : W.cell? ⟨w.heap.size, 0, none⟩ = some (.slice ca s.cen.length cc) := by rw [cell_blk hX]; rfl
  have x1 : W.cell? ⟨w.heap.size, 1, none⟩ = some (.slice fa s.fl.length cf) := by rw [cell_blk hX]; rfl
  have HF := Lib.hid hF
  have HX := Lib.hid hX
  have HR := Lib.hid hR
  have hlt : w.heap.size + 1 < W.heap.size := blk_lt hR
  clear hF hX hR
  have hlt0 : w.heap.size < W.heap.size := by omega
  go_region_held3 (fun w' => w'.cell? ⟨w.heap.size, 0, none⟩ = some (.slice ca s.cen.length cc) ∧ w'.cell? ⟨w.heap.size, 1, none⟩ = some (.slice fa s.fl.length cf)) (first | exact ⟨by assumption, by assumption⟩ | go_keep) (first
    | (refine step_apd rfl (.tmp 3) (.tmp 5) 28 rfl w.heap.size 46 _ 3 24 encC Tryd.underlying28 info46z rfl (by decide) encC_len oneC (.slice (some ⟨_, 0, none⟩) 0 0) [] rfl (Own.empty (by first | omega | (simp; omega)) (by first | exact alloc_new W _ | exact alloc_new (W.alloc _) _ | exact heap_alloc2_new W _ _ | exact alloc_at (alloc_new W _) _)) (.slice ca s.cen.length cc) s.cen rfl (HC.out.fr0 (by first | exact (HF.out.alloc _).drew | exact ((HF.out.alloc _).alloc _).drew)) (by decide) (by first | omega | (simp; done) | (simp; omega)) (by first | omega | (simp; omega)) ?_; intro cv w1 hA1; have BA1 := hA1.blk; simp only [blkOf_slice, List.mem_singleton] at BA1; (try simp only [World.size_alloc] at BA1); (try simp only [World.size_drew] at BA1); (try simp only [World.size_alloc] at BA1); have z1 := hA1.fr.size; simp only [World.size_alloc, World.size_drew] at z1; have w10 : w1.cell? ⟨w.heap.size, 0, none⟩ = some (.slice ca s.cen.length cc) := (World.cell?_of_block (a := ⟨w.heap.size, 0, none⟩) (hA1.fr.block w.heap.size (by first | omega | (simp; done) | (simp; omega)) (by simp [Value.blkOf, Act.eval]; omega))).trans (by simp [*]); have w11 : w1.cell? ⟨w.heap.size, 1, none⟩ = some (.slice fa s.fl.length cf) := (World.cell?_of_block (a := ⟨w.heap.size, 1, none⟩) (hA1.fr.block w.heap.size (by first | omega | (simp; done) | (simp; omega)) (by simp [Value.blkOf, Act.eval]; omega))).trans (by simp [*]); have HR1 : Hid (w1.heap[w.heap.size + 1]? = some (.cells #[.slice none 0 0, .slice none 0 0] 31 (0, 0))) := hA1.fr.at_ (by first | exact alloc_at HR.out _ | exact alloc_at (alloc_at HR.out _) _) (by simp [Value.blkOf, Act.eval]; omega); have HF1 : Hid (Fr [] w w1) := Fr.new (l' := Value.blkOf _) (by first | exact (HF.out.alloc _).drew | exact ((HF.out.alloc _).alloc _).drew) hA1.fr (by simp [Value.blkOf, Act.eval]; omega); have HO1 := Lib.hid hA1.own; have HBA1 := Lib.hid BA1; have HAF1 := Lib.hid hA1.fr; obtain ⟨p1, n1, rfl⟩ := hA1.own.shape; clear hA1 BA1)
    | (refine step_apd rfl (.tmp 7) (.tmp 9) 29 rfl w.heap.size 55 _ 4 32 encM Tryd.underlying29 info55z rfl (by decide) encM_len oneM (.slice (some ⟨_, 0, none⟩) 0 0) [] rfl (Own.empty (by first | omega | (simp; omega)) (by first | exact alloc_new w1 _ | (refine HAF1.out.at_ ?_ ?_; (first | exact alloc_new W _ | exact alloc_new (W.alloc _) _ | exact heap_alloc2_new W _ _ | exact alloc_at (alloc_new W _) _); simp [Value.blkOf, Act.eval]))) (.slice fa s.fl.length cf) s.fl (by rfl) (HM.out.fr0 (by first | exact HF1.out | exact HF1.out.alloc _ | exact HF1.out.drew)) (by decide) (by first | omega | (simp; done) | (simp; omega)) (by have := HF1.out.size; first | omega | (simp; done) | (simp; omega)) ?_; intro fv w2 hA2; have BA2 := hA2.blk; simp only [blkOf_slice, List.mem_singleton] at BA2; (try simp only [World.size_alloc] at BA2); have F2 := hA2.fr; simp only [blkOf_slice] at F2; have z2 := hA2.fr.size; (try simp only [World.size_alloc] at z2); have z1 := HAF1.out.size; (try simp only [World.size_alloc, World.size_drew] at z1); have hd1 : ∀ x ∈ Value.blkOf (.slice p1 s.cen.length n1), x < w1.heap.size := fun x hx => (HO1.out.blk x hx).2; have w20 : w2.cell? ⟨w.heap.size, 0, none⟩ = some (.slice ca s.cen.length cc) := (World.cell?_of_block (a := ⟨w.heap.size, 0, none⟩) (F2.block w.heap.size (by first | omega | (simp; done) | (simp; omega)) (by first | omega | (simp; done) | (simp; omega)))).trans (by simp [*]); have w21 : w2.cell? ⟨w.heap.size, 1, none⟩ = some (.slice fa s.fl.length cf) := (World.cell?_of_block (a := ⟨w.heap.size, 1, none⟩) (F2.block w.heap.size (by first | omega | (simp; done) | (simp; omega)) (by first | omega | (simp; done) | (simp; omega)))).trans (by simp [*]); have HO12 : Hid (Own w2 w.heap.size 46 3 encC (.slice p1 s.cen.length n1) s.cen) := HO1.out.fr (by first | exact F2 | exact ((Fr.refl [_] w1).alloc _).trans F2) (fun x hx hm => by have h1 := HBA1.out x hx; have h3 := hd1 x hx; rw [List.mem_singleton] at hm; omega); have HDJ : Hid (∀ x ∈ Value.blkOf (.slice p1 s.cen.length n1), x ∉ Value.blkOf fv) := fun x hx h2 => (by have h1 := HBA1.out x hx; have h4 := BA2 x h2; have h3 := hd1 x hx; omega); have HF2 : Hid (Fr [] w w2) := (by first | exact HF1.out.new F2 (by first | omega | (simp; done) | (simp; omega)) | exact (HF1.out.alloc _).new F2 (by have := HF1.out.size; first | omega | (simp; done) | (simp; omega))); have HR2 : Hid (w2.heap[w.heap.size + 1]? = some (.cells #[.slice none 0 0, .slice none 0 0] 31 (0, 0))) := F2.at_ (by first | exact HR1.out | exact alloc_at HR1.out _) (by first | omega | (simp; done) | (simp; omega)); have r0 : w2.cell? ⟨w.heap.size + 1, 0, none⟩ = some (.slice none 0 0) := (cell_blk HR2.out 0).trans rfl; have r1 : w2.cell? ⟨w.heap.size + 1, 1, none⟩ = some (.slice none 0 0) := (cell_blk HR2.out 1).trans rfl; have q0 : w2.frozen? ⟨w.heap.size + 1, 0, none⟩ = false := frozen_blk HR2.out 0; have q1 : w2.frozen? ⟨w.heap.size + 1, 1, none⟩ = false := frozen_blk HR2.out 1; have HO2 := Lib.hid hA2.own; have HBA2 := Lib.hid BA2; obtain ⟨p2, n2, rfl⟩ := hA2.own.shape; clear hA2 BA2 F2 hd1))
  all_goals
    have F3 : Fr [w.heap.size + 1] w2 ((w2.setCell ⟨w.heap.size + 1, 0, none⟩ (.slice p1 s.cen.length n1)).setCell ⟨w.heap.size + 1, 1, none⟩ (.slice p2 s.fl.length n2)) := ((Fr.refl _ _).setCell _ _ (by simp)).setCell _ _ (by simp)
    have HF3 := Lib.hid F3
    clear F3
    have hB : ((w2.setCell ⟨w.heap.size + 1, 0, none⟩ (.slice p1 s.cen.length n1)).setCell ⟨w.heap.size + 1, 1, none⟩ (.slice p2 s.fl.length n2)).heap[w.heap.size + 1]? = some (.cells #[.slice p1 s.cen.length n1, .slice p2 s.fl.length n2] 31 (0, 0)) :=
      heap_setCell_same _ (w.heap.size + 1) 1 _ 31 (.slice p2 s.fl.length n2) (heap_setCell_same w2 (w.heap.size + 1) 0 _ 31 (.slice p1 s.cen.length n1) HR2.out)
    have HB := Lib.hid hB
    have HX1 : Hid (∀ x ∈ Value.blkOf (.slice p1 s.cen.length n1), x ∉ [w.heap.size + 1]) := fun x hx hm => (by have := HBA1.out x hx; rw [List.mem_singleton] at hm; omega)
    have HX2 : Hid (∀ x ∈ Value.blkOf (.slice p2 s.fl.length n2), x ∉ [w.heap.size + 1]) := fun x hx hm => (by have := HBA2.out x hx; have := HF1.out.size; rw [List.mem_singleton] at hm; omega)
    clear hB
    go_wp2
    exact bodyPost_ret (v := .agg #[.slice p1 s.cen.length n1, .slice p2 s.fl.length n2]) (results_cell_row rfl _ _ (w.heap.size + 1) 31 _ (0, 0) _ rfl HB.out Tryd.underlying31 rfl info31) rfl ⟨_, _, rfl, HO12.out.fr HF3.out HX1.out, HO2.out.fr HF3.out HX2.out, HDJ.out, HF2.out.new HF3.out (by simp)⟩
end Go.Proofs.YtklnbcofmhlkdaaDoor
namespace Go.Proofs.YtklnbcofmhlkdaaDoor
open Go.RowKit Rl

theorem info55s : (Tryd.prog.info? 55).map (·.size) = some 4 := by kernel_rfl

set_option maxRecDepth 100000 in
set_option maxHeartbeats 1000000 in
theorem without_any (fv : Value) (l : List Msg) (x : Nat) (w : World) (hm : Rd w encM fv l) (hx : x < l.length) (hl : l.length ≤ 1000) :
    Calls Tryd.prog 26 #[fv, .int .i64 x] w fun e w' => ∃ v, e = .returned v ∧ Own w' w.heap.size 55 4 encM v (l.eraseIdx x) ∧ Fr [] w w' := by
  obtain ⟨fa, cf, rfl⟩ := hm.shape
  obtain ⟨ph, ch, hh, rh, _⟩ := slice_head Tryd.underlying29 info55s encM_len hm x (by omega)
  obtain ⟨pt, ct, ht, rt, _⟩ := slice_tail Tryd.underlying29 info55s encM_len hm (x + 1) (by omega)
  have hh' := hh
  have ht' := ht
  unfold Slices at hh ht
  have hw : IntKind.i64.wrap (x + 1) = (x : Int) + 1 := IntWalk.i64_in _ (by omega)
  rw [show ((x + 1 : Nat) : Int) = (x : Int) + 1 from by omega] at ht
  have RH := Lib.hid rh
  have RT := Lib.hid rt
  have HM := Lib.hid hm
  clear rh rt hm hh' ht'
  go_enter Tryd.func26, Tryd.ntmps26
  go_wp2
  go_region_held3 (fun _ => True) (trivial) (first
    | (refine step_apd rfl (.tmp 5) (.tmp 8) 29 rfl w.heap.size 55 _ 4 32 encM Tryd.underlying29 info55z rfl (by decide) encM_len oneM (.slice (some ⟨_, 0, none⟩) 0 0) [] rfl (Own.empty (by first | omega | (simp; done)) (by exact alloc_new w _)) (.slice ph x ch) (l.take x) rfl (RH.out.fr0 (by exact ((Fr.refl [] w).alloc _).drew)) (by decide) (by simp; omega) (by simp) ?_; intro v1 w1 hA1; obtain ⟨p1, m1, n1, rfl, HN1⟩ := hA1.own.shape'; have HA1 := Lib.hid hA1; clear hA1)
    | (refine step_apd rfl (.tmp 9) (.tmp 13) 29 rfl w.heap.size 55 _ 4 32 encM Tryd.underlying29 info55z rfl (by decide) encM_len oneM _ (l.take x) rfl HA1.out.own (.slice pt (l.length - (x + 1)) ct) (l.drop (x + 1)) rfl (RT.out.fr (((Fr.refl _ w).alloc _).drew.trans HA1.out.fr) (fun y hy hm => (by have := RT.out.lt y hy; rw [blkOf_slice, List.mem_singleton] at hm; omega))) (by decide) (by simp; omega) (by have := HA1.out.fr.size; simp at this; omega) ?_; intro v2 w2 hA2; obtain ⟨p2, m2, n2, rfl, HN2⟩ := hA2.own.shape'; have HA2 := Lib.hid hA2; clear hA2))
  go_wp2
  go_ret
  refine ⟨_, rfl, ?_, ?_⟩
  · rw [List.eraseIdx_eq_take_drop_succ]
    exact HA2.out.own
  · exact (((Fr.refl [] w).alloc _).drew.new HA1.out.fr (by simp [blkOf_slice])).new HA2.out.fr (fun y hy => (by have := HA1.out.own.blk y hy; omega))
end Go.Proofs.YtklnbcofmhlkdaaDoor
namespace Go.Proofs.YtklnbcofmhlkdaaDoor
open Go.RowKit Rl

/-- A call that the call itself made. -/
structure OwnS (w : World) (base : Nat) (cv fv : Value) (s : S) : Prop where
  cen : Own w base 46 3 encC cv s.cen
  fl : Own w base 55 4 encM fv s.fl
  dj : ∀ x ∈ Value.blkOf cv, x ∉ Value.blkOf fv
theorem Own.cons {α : Type} {w : World} {base : Nat} {E : TypeId} {k : Nat} {f : α → List Value} {v : Value} {l : List α} (h : Own w base E k f v l) (hl : l ≠ []) : ∃ g cap, v = .slice (some ⟨g, 0, none⟩) l.length cap ∧ base ≤ g ∧ g < w.heap.size ∧ ∀ j u, (l.flatMap f)[j]? = some u → w.cell? ⟨g, j, none⟩ = some u := by
  rcases h.rd with ⟨_, h0⟩ | ⟨g, off, cap, h0, _, _, h3, h4⟩
  · exact absurd h0 hl
  · rcases h.2 with ⟨rfl, hn⟩ | ⟨g', cap', cur, h1, hb, _⟩
    · exact absurd (List.eq_nil_of_length_eq_zero hn) hl
    · rw [h1] at h0
      simp only [Value.slice.injEq, Option.some.injEq, Addr.mk.injEq, and_true] at h0
      obtain ⟨⟨rfl, rfl⟩, _, rfl⟩ := h0
      exact ⟨g', cap', h1, hb, h3, fun j u hj => by simpa using h4 j u hj⟩

set_option maxRecDepth 100000 in
set_option maxHeartbeats 1000000 in
theorem rsend_any (cv fv : Value) (base : Nat) (k f t : Int) (s : S) (w : World) (h : OwnS w base cv fv s) (hb : base ≤ w.heap.size) (hok : Ok s) (hf : s.isC f) (hr : s.room) :
    Calls Tryd.prog 25 #[.agg #[cv, fv], .int .i64 k, .int .i64 f, .int .i64 t] w fun e w' => ∃ fv', e = .returned (.agg #[cv, fv']) ∧ OwnS w' base cv fv' (s.send k f t) ∧ Fr (Value.blkOf fv) w w' := by
  have hne : s.cen ≠ [] := fun e => by have := hok.n2; rw [e] at this; simp at this
  obtain ⟨g, cc, rfl, hgb, hgl, hcell⟩ := h.cen.cons hne
  obtain ⟨fa, cf, rfl⟩ := h.fl.shape
  have hft : f.toNat < s.cen.length := by unfold S.isC at hf; omega
  have ht : w.cell? ⟨g, f.toNat * 3 + 2, none⟩ = some (I (s.getC f).turn) := by
    refine hcell _ _ ((flat_at encC_len s.cen f.toNat 2 (s.getC f) (by simp [S.getC, List.getD, hft]) (by omega)).trans rfl)
  have hgf : g ∉ Value.blkOf (.slice fa s.fl.length cf) := h.dj g (by simp [Value.blkOf])
  have f0 : 0 ≤ f := hf.1
  have fn : f < s.cen.length := hf.2
  have h6 : s.fl.length < 6 := hr
  have H := Lib.hid h
  have HG := Lib.hid hgf
  clear h hcell hgf
  go_enter Tryd.func25, Tryd.ntmps25
  go_wp2
  refine wp_forget (fun W => Fr [] w W ∧ W.heap[w.heap.size]? = some (.cells #[.slice (some ⟨g, 0, none⟩) s.cen.length cc, .slice fa s.fl.length cf] 31 (0, 0)) ∧ W.heap[w.heap.size + 1]? = some (.cells #[.slice none 0 0, .slice none 0 0] 31 (0, 0)))
    ⟨((Fr.refl _ _).alloc _).alloc _, alloc_at (alloc_new _ _) _, heap_alloc2_new _ _ _⟩ ?_
  rintro W ⟨hF, hX, hR⟩
  have x0 : W.cell? ⟨w.heap.size, 0, none⟩ = some (.slice (some ⟨g, 0, none⟩) s.cen.length cc) := by rw [cell_blk hX]; rfl
  have x1 : W.cell? ⟨w.heap.size, 1, none⟩ = some (.slice fa s.fl.length cf) := by rw [cell_blk hX]; rfl
  have xt : W.cell? ⟨g, f.toNat * 3 + 2, none⟩ = some (I (s.getC f).turn) := (World.cell?_of_block (a := ⟨g, f.toNat * 3 + 2, none⟩) (hF.block g hgl (by simp))).trans ht
  have hlt : w.heap.size + 1 < W.heap.size := blk_lt hR
  have hlt0 : w.heap.size < W.heap.size := by omega
  have hgW : g < W.heap.size := by omega
  have HF := Lib.hid hF
  have HX := Lib.hid hX
  have HR := Lib.hid hR
  clear hF hX hR ht
  go_region_law (first
    | (refine step_apd rfl (.tmp 10) (.tmp 21) 29 rfl base 55 _ 4 32 encM Tryd.underlying29 info55z rfl (by decide) encM_len oneM (.slice fa s.fl.length cf) s.fl rfl (H.out.fl.fr (by exact ((HF.out.alloc _).drew)) (by simp)) (.slice (some ⟨_, 0, none⟩) 1 1) [⟨k, f, t, (s.getC f).turn⟩] rfl ((Rd.of_blk (cap := 1) (f := encM) (l := [⟨k, f, t, (s.getC f).turn⟩]) (alloc_new W (.cells #[I k, I f, I t, I (s.getC f).turn] 55)) rfl (by simp) (by simp [maxLen])).fr0 ((Fr.refl [] _).drew)) (by decide) (by simp; omega) (by simp; omega) ?_; intro v1 w1 hA1; have BA1 := hA1.blk; simp only [World.size_alloc, World.size_drew] at BA1; have HB0 : Hid (∀ x ∈ Value.blkOf (.slice fa s.fl.length cf), x < w.heap.size) := (fun x hx => (H.out.fl.blk x hx).2); have HBX : Hid (w1.heap[w.heap.size]? = some (.cells #[.slice (some ⟨g, 0, none⟩) s.cen.length cc, .slice fa s.fl.length cf] 31 (0, 0))) := hA1.fr.at_ (alloc_at HX.out _) (fun hm => (by have := HB0.out _ hm; omega)); have HBR : Hid (w1.heap[w.heap.size + 1]? = some (.cells #[.slice none 0 0, .slice none 0 0] 31 (0, 0))) := hA1.fr.at_ (alloc_at HR.out _) (fun hm => (by have := HB0.out _ hm; omega)); have y1 : w1.cell? ⟨w.heap.size, 1, none⟩ = some (.slice fa s.fl.length cf) := (cell_blk HBX.out 1).trans rfl; have q1 : w1.frozen? ⟨w.heap.size, 1, none⟩ = false := frozen_blk HBX.out 1; have HF1 : Hid (Fr (Value.blkOf (.slice fa s.fl.length cf)) w w1) := (((HF.out.alloc _).drew).of_nil.trans hA1.fr); have HO1 := Lib.hid hA1.own; have HBA1 := Lib.hid BA1; obtain ⟨p1, m1, n1, rfl, HN1⟩ := hA1.own.shape'; clear hA1 BA1))
  all_goals
    refine then_forget (fun W2 => Fr [w.heap.size] w1 W2 ∧ W2.heap[w.heap.size]? = some (.cells #[.slice (some ⟨g, 0, none⟩) s.cen.length cc, .slice p1 m1 n1] 31 (0, 0))) ⟨(Fr.refl _ _).setCell _ _ (by simp), heap_setCell_same _ w.heap.size 1 _ 31 (.slice p1 m1 n1) HBX.out⟩ ?_
    rintro W2 ⟨hF2, hX2⟩
    have hR2 := hF2.at_ HBR.out (by simp)
    have z0 : W2.cell? ⟨w.heap.size, 0, none⟩ = some (.slice (some ⟨g, 0, none⟩) s.cen.length cc) := by rw [cell_blk hX2]; rfl
    have z1 : W2.cell? ⟨w.heap.size, 1, none⟩ = some (.slice p1 m1 n1) := by rw [cell_blk hX2]; rfl
    have HF2 := Lib.hid hF2
    have HX2 := Lib.hid hX2
    have HR2 := Lib.hid hR2
    clear hF2 hX2 hR2 y1 q1 x0 x1 xt
    go_wp2_with (refine wpList_st rfl 31 (.tmp 8) (.tmp 24) rfl (w.heap.size + 1) 0 (.agg #[.slice (some ⟨g, 0, none⟩) s.cen.length cc, .slice p1 m1 n1]) (by first | rfl | simp [Act.eval]) (by first | rfl | simp [Act.eval]) 31 _ HR2.out info31 (by simp [Value.cells]) (by simp [Value.cells, Value.oneCell']) #[.slice (some ⟨g, 0, none⟩) s.cen.length cc, .slice p1 m1 n1] rfl ?_; intro w4 hF4 hB4)
    refine bodyPost_ret (v := .agg #[.slice (some ⟨g, 0, none⟩) s.cen.length cc, .slice p1 m1 n1]) (results_cell_row rfl _ _ (w.heap.size + 1) 31 _ (0, 0) _ rfl hB4 Tryd.underlying31 rfl info31) rfl ⟨.slice p1 m1 n1, rfl, ⟨?_, ?_, ?_⟩, ?_⟩
    · have g1 : g ≠ w.heap.size := by omega
      have g2 : g ≠ w.heap.size + 1 := by omega
      exact ((H.out.cen.fr HF1.out (by rw [blkOf_slice]; simpa using HG.out)).fr HF2.out (by rw [blkOf_slice]; simpa using g1)).fr hF4 (by rw [blkOf_slice]; simpa using g2)
    · have hb1 : ∀ x ∈ Value.blkOf (.slice p1 m1 n1), x ≠ w.heap.size ∧ x ≠ w.heap.size + 1 := fun x hx => by
        rcases HBA1.out x hx with h1 | h1
        · have := HB0.out x h1; omega
        · omega
      exact (HO1.out.fr HF2.out (fun x hx => by simpa using (hb1 x hx).1)).fr hF4 (fun x hx => by simpa using (hb1 x hx).2)
    · intro x hx h2
      rw [blkOf_slice, List.mem_singleton] at hx
      subst hx
      rcases HBA1.out _ h2 with h1 | h1
      · exact HG.out h1
      · omega
    · exact (HF1.out.new HF2.out (by simp)).new hF4 (by simp)
end Go.Proofs.YtklnbcofmhlkdaaDoor
