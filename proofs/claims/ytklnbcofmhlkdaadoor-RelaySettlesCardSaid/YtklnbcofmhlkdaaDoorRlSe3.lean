/- A slice that begins in the midst of its block: it is cut at its head, and appended to. No program in sight. -/
import Derived.Test.YtklnbcofmhlkdaaDoorRlSe1
set_option linter.unusedVariables false
set_option linter.unusedSimpArgs false
namespace Go.Proofs.YtklnbcofmhlkdaaDoor
open Go.RowKit

/-- A slice into a block of the call's own, from base on: behind it lies what its capacity says. -/
def Tail {α : Type} (w : World) (base : Nat) (E : TypeId) (k : Nat) (f : α → List Value) (v : Value) (l : List α) : Prop :=
  ∃ g off cap cur, v = .slice (some ⟨g, off, none⟩) l.length cap ∧ base ≤ g ∧ w.heap[g]? = some (.cells cur E (0, 0)) ∧ l.length ≤ cap ∧ cap ≤ maxLen ∧ off + cap * k ≤ cur.size ∧ ∀ j u, (l.flatMap f)[j]? = some u → cur[off + j]? = some u
section
variable {α : Type} {w w' : World} {base : Nat} {E : TypeId} {k : Nat} {f : α → List Value} {v : Value} {l : List α}
theorem Tail.fr {S : List Nat} (h : Tail w base E k f v l) (hf : Fr S w w') (hs : ∀ g ∈ Value.blkOf v, g ∉ S) : Tail w' base E k f v l := by
  obtain ⟨g, off, cap, cur, rfl, h1, h2, h3, h4, h5, h6⟩ := h
  exact ⟨g, off, cap, cur, rfl, h1, hf.at_ h2 (hs g (by simp [blkOf_slice])), h3, h4, h5, h6⟩
theorem Tail.blk (h : Tail w base E k f v l) : ∀ g ∈ Value.blkOf v, base ≤ g ∧ g < w.heap.size := by
  obtain ⟨g, off, cap, cur, rfl, h1, h2, h3, h4, h5, h6⟩ := h
  intro x hx
  rw [blkOf_slice, List.mem_singleton] at hx
  subst hx
  exact ⟨h1, blk_lt h2⟩
theorem Tail.mono {base' : Nat} (h : Tail w base E k f v l) (hb : base' ≤ base) : Tail w base' E k f v l := by
  obtain ⟨g, off, cap, cur, h0, h1, h2⟩ := h
  exact ⟨g, off, cap, cur, h0, Nat.le_trans hb h1, h2⟩
theorem Tail.rd (h : Tail w base E k f v l) : Rd w f v l := by
  obtain ⟨g, off, cap, cur, rfl, h1, h2, h3, h4, h5, h6⟩ := h
  exact .inr ⟨g, off, cap, rfl, h3, h4, blk_lt h2, fun j u hj => by rw [cell_blk h2]; exact h6 j u hj⟩
theorem Tail.shape (h : Tail w base E k f v l) : ∃ g off n cap, v = .slice (some ⟨g, off, none⟩) n cap ∧ Hid (n = l.length) := by
  obtain ⟨g, off, cap, cur, rfl, _⟩ := h
  exact ⟨g, off, _, cap, rfl, rfl⟩
theorem Tail.one {g : Nat} {C : Array Value} {x : α} (hf : (f x).length = k) (hb : base ≤ g) (h : w.heap[g]? = some (.cells C E (0, 0))) (hC : C.toList = f x) : Tail w base E k f (.slice (some ⟨g, 0, none⟩) 1 1) [x] := by
  refine ⟨g, 0, 1, C, rfl, hb, h, Nat.le_refl _, by simp [maxLen], by rw [← Array.length_toList, hC, hf]; simp, fun j u hj => ?_⟩
  simp only [List.flatMap_cons, List.flatMap_nil, List.append_nil, ← hC] at hj
  rw [Nat.zero_add]; simpa using hj
theorem Tail.pop {P : Program} {t : TypeId} {x : α} (hf : ∀ y, (f y).length = k) (hu : P.underlying t = some (.slice E)) (hk : (P.info? E).map (·.size) = some k) (h : Tail w base E k f v (x :: l)) :
    ∃ v', (∀ W : World, (Instr.sliceAt t v (some (.int .i64 1)) none none).run P W = .ok v' W) ∧ Tail w base E k f v' l ∧ ∀ z, z ∈ Value.blkOf v' ↔ z ∈ Value.blkOf v := by
  obtain ⟨g, off, cap, cur, rfl, h1, h2, h3, h4, h5, h6⟩ := h
  have hel : P.elem t = E := by simp [Program.elem, hu]
  have hu' : P.underlying t = some (.slice (P.elem t)) := by rw [hel]; exact hu
  have hrun : ∀ W : World, (Instr.sliceAt t (.slice (some ⟨g, off, none⟩) (x :: l).length cap) (some (.int .i64 1)) none none).run P W = .ok (sliced (some ⟨g, off, none⟩) 1 (x :: l).length cap k) W := fun W => by
    rw [run_sliceAt_slice (P := P) (w := W) t _ _ _ _ hu', run_slice_l (P := P) (w := W) t _ (x :: l).length cap hu' .i64 1 (by omega) (by simp; omega), hel, run_sizeOf hk]
    simp [Result.andThen]
  refine ⟨_, hrun, ?_, ?_⟩
  · by_cases hc : cap = 1
    · subst hc
      have hl : l = [] := by
        simp only [List.length_cons] at h3
        exact List.eq_nil_of_length_eq_zero (by omega)
      subst hl
      exact ⟨g, off, 0, cur, by simp [sliced], h1, h2, by simp, by simp [maxLen], by omega, by simp⟩
    · have e1 : sliced (some ⟨g, off, none⟩) 1 (x :: l).length cap k = .slice (some ⟨g, off + k, none⟩) l.length (cap - 1) := by
        simp [sliced, hc, Addr.add_mid]
      rw [e1]
      simp only [List.length_cons] at h3
      refine ⟨g, off + k, cap - 1, cur, rfl, h1, h2, by omega, by omega, ?_, fun j u hj => ?_⟩
      · have : (cap - 1) * k + k = cap * k := by rw [← Nat.succ_mul]; congr 1; omega
        omega
      · rw [Nat.add_assoc]
        refine h6 (k + j) u ?_
        rw [List.flatMap_cons, List.getElem?_append_right (by rw [hf]; omega), hf, Nat.add_sub_cancel_left]
        exact hj
  · intro z
    simp only [sliced]
    split <;> simp [Value.blkOf, Addr.add_mid]
theorem run_tail_app {P : Program} (t ty : TypeId) (z : Value) (bytes : Nat) (ht : P.underlying t = some (.slice E)) (hi : (P.info? E).map (fun i => (i.zero, i.size, i.bytes)) = some (some z, k, bytes))
    (hzs : z.cells.size = k) (hf : ∀ y, (f y).length = k) (h1 : ∀ y, ∀ u ∈ f y, u.oneCell' = true)
    (h : Tail w base E k f v l) (g2 off2 cap2 : Nat) (l2 : List α) (hR : Rd w f (.slice (some ⟨g2, off2, none⟩) l2.length cap2) l2)
    (h63 : l.length + l2.length ≤ maxLen) (hbytes : (l.length + l2.length) * bytes ≤ 140737488355328) (hbase : base ≤ w.heap.size) :
    ∃ v' w', (Builtin.append_ #[t, t] ty #[v, .slice (some ⟨g2, off2, none⟩) l2.length cap2]).run P w = .ok v' w' ∧ Tail w' base E k f v' (l ++ l2) ∧ Fr (Value.blkOf v) w w' ∧ ∀ x ∈ Value.blkOf v', x ∈ Value.blkOf v ∨ x = w.heap.size := by
  obtain ⟨i, hi0, hi1, hi2, hi3⟩ := info_parts hi
  obtain ⟨g, off, cap, cur, rfl, hb, hg, hn, hm, hsz, hcell⟩ := h
  have hnews := hR.cells.2.2.2.2
  have hln : (l2.flatMap f).length = l2.length * k := flat_len hf l2
  have hll : (l.flatMap f).length = l.length * k := flat_len hf l
  have hone : ∀ u ∈ l2.flatMap f, u.oneCell' = true := fun u hu => by obtain ⟨y, _, hy⟩ := List.mem_flatMap.1 hu; exact h1 y u hy
  have hld := run_loadCells_list (P := P) w ⟨g2, off2, none⟩ (l2.flatMap f) (fun j u hj => by rw [Addr.add_mid]; exact hnews j u hj)
  by_cases hroom : l.length + l2.length ≤ cap
  · have hfit : off + l.length * k + (l2.flatMap f).length ≤ cur.size := by
      rw [hln, Nat.add_assoc, ← Nat.add_mul]
      have := Nat.mul_le_mul_right k hroom
      omega
    have hst := run_storeCells_at P g (off + l.length * k) E (l2.flatMap f) 0 cur w hg (by simpa using hfit) hone
    simp only [Nat.add_zero] at hst
    have hrun : (Builtin.append_ #[t, t] ty #[.slice (some ⟨g, off, none⟩) l.length cap, .slice (some ⟨g2, off2, none⟩) l2.length cap2]).run P w =
        .ok (.slice (some ⟨g, off, none⟩) (l.length + l2.length) cap) (w.setRow g (cur.toList.take (off + l.length * k) ++ l2.flatMap f ++ cur.toList.drop (off + l.length * k + (l2.flatMap f).length)).toArray) := by
      rw [hln] at hld
      simp [Builtin.append_, run_underlying ht, sizeOf, typeInfo, hi0, hi2, Builtin.lenOf, Builtin.firstCells, hroom, hld, Addr.add_mid, hst]
    refine ⟨_, _, hrun, ⟨g, off, cap, _, by simp, hb, setRow_heap w g cur _ E _ hg, by simpa using hroom, hm, ?_, fun j u hj => ?_⟩, by rw [blkOf_slice]; exact Fr.setRow w g _, fun x hx => .inl hx⟩
    · simp only [List.size_toArray, List.length_append, List.length_take, List.length_drop, Array.length_toList]
      omega
    · rw [List.flatMap_append] at hj
      simp only [List.getElem?_toArray]
      by_cases hj1 : j < (l.flatMap f).length
      · rw [List.getElem?_append_left hj1] at hj
        rw [List.append_assoc, List.getElem?_append_left (by simp; omega), List.getElem?_take_of_lt (by rw [hll] at hj1; omega)]
        simpa using hcell j u hj
      · rw [List.getElem?_append_right (by omega)] at hj
        have hj2 := (List.getElem?_eq_some_iff.1 hj).1
        have htk : (cur.toList.take (off + l.length * k)).length = off + l.length * k := by rw [List.length_take, Array.length_toList]; exact Nat.min_eq_left (Nat.le_trans (Nat.le_add_right _ _) hfit)
        have e : off + j - (off + l.length * k) = j - (l.flatMap f).length := by rw [hll]; exact Nat.add_sub_add_left _ _ _
        have hle : (cur.toList.take (off + l.length * k)).length ≤ off + j := by rw [htk]; rw [hll] at hj1; exact Nat.add_le_add_left (Nat.not_lt.1 hj1) _
        rw [List.append_assoc, List.getElem?_append_right hle, htk, e, List.getElem?_append_left hj2]
        exact hj
  · have holds : ∀ j u, (l.flatMap f)[j]? = some u → w.cell? ((⟨g, off, none⟩ : Addr).add j) = some u := fun j u hj => by rw [Addr.add_mid, cell_blk hg]; exact hcell j u hj
    have hr := run_append_grow (P := P) w t ty E i z ht hi0 hi1 ⟨g, off, none⟩ l.length cap (l.flatMap f) (by rw [hi2]; exact hll) holds ⟨g2, off2, none⟩ l2.length cap2 (l2.flatMap f) (by rw [hi2]; exact hln)
      (fun j u hj => by rw [Addr.add_mid]; exact hnews j u hj) (by omega) (by simp only [maxLen] at h63; omega) (growslice_fits (by omega) (by rw [hi3]; exact hbytes))
    have hge := grownCap_ge w (l.length + l2.length) cap E
    have hcm : grownCap w (l.length + l2.length) cap E ≤ maxLen := grownCap_le_maxLen w _ cap E h63
    refine ⟨_, _, hr, ⟨w.heap.size, 0, _, _, by simp, hbase, alloc_new w.drew _, by simpa using hge, hcm, ?_, fun j u hj => ?_⟩, ?_, fun x hx => .inr (by simpa [blkOf_slice] using hx)⟩
    · simp only [Array.size_append, List.size_toArray, size_zeroCells, hzs, hll, hln, ← Nat.add_mul, Nat.zero_add]
      exact Nat.le_of_eq (by congr 1; omega)
    · rw [List.flatMap_append] at hj
      have hj2 := (List.getElem?_eq_some_iff.1 hj).1
      rw [Nat.zero_add, Array.getElem?_append_left (by simpa using hj2)]
      simpa using hj
    · exact ((Fr.refl _ w).drew).alloc _
end
end Go.Proofs.YtklnbcofmhlkdaaDoor
