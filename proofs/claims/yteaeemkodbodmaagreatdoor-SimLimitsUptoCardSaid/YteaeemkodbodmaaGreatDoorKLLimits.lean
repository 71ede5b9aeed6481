/- law32: SimLimits. -/
import Derived.Test.YteaeemkodbodmaaGreatDoorDX
set_option linter.unusedSimpArgs false
set_option linter.unusedVariables false
set_option linter.unnecessarySimpa false
namespace Go.Proofs.YteaeemkodbodmaaGreatDoor
open Go.RowKit
attribute [local go_sem ↓] Go.wp_at_zero Go.wp_at_succ

/-- 'make([][]api.Signal, n)' -/
theorem makeN (W : World) (n : Nat) (hn : n ≤ 5000) : (Instr.makeSlice 36 (.int .i64 n) (.int .i64 n)).run Tryz.prog W = .ok (.slice (some ⟨W.heap.size, 0, none⟩) n n) (W.alloc (.cells (Array.replicate n (.slice none 0 0)) 47)) :=
  by
  have h := mk_row (P := Tryz.prog) (z := .slice none 0 0) (bytes := 24) Tryz.underlying36 (e := 47) (by kernel_rfl) rfl (by decide) n (by omega) W
  rwa [List.toArray_replicate] at h
theorem rowsR {W : World} {b n : Nat} (hn : n ≤ 5000) (h : W.heap[b]? = some (.cells (Array.replicate n (.slice none 0 0)) 47 (0, 0))) : SigRows W (List.replicate n []) (some ⟨b, 0, none⟩) n := by
  have hl : SigsIn W [] none 0 := ⟨by simp, by simp, Or.inl rfl⟩
  refine ⟨by simp, by simp; omega, Or.inr ⟨b, 0, rfl, fun i hi => ⟨[], ?_, none, 0, ?_, hl⟩⟩⟩
  · simp only [List.length_replicate] at hi
    simp [List.getElem?_replicate, hi]
  · simp only [List.length_replicate] at hi
    rw [cell_of_blk h]
    simp [hi]
/-- the run of the counter over n empty lists, seen by the error and the number of rows -/
theorem run_cntN {a : Option Addr} {w W5 W : World} {b n : Nat} (hn : n ≤ 5000) (hD : DesIn W5 cntD ⟨none, 0, none, 0, a, 1, none, 0⟩) (hb : Below w.heap.size w W5) (hG : Glob w) (h5 : Below W5.heap.size W5 W) (hr : W.heap[b]? = some (.cells (Array.replicate n (.slice none 0 0)) 47 (0, 0))) :
    Calls Tryz.prog 17 #[.agg #[.string ⟨#[100]⟩, .slice none 0 0, .slice none 0 0, .slice a 1 1, .slice none 0 0], .slice (some ⟨b, 0, none⟩) n n] W fun e w' => (∃ aN lN cN aR cR, e = .returned (.tuple #[.agg #[.slice aN lN cN, .slice aR (if 4096 < n then 0 else n) cR], .int .i64 (if 4096 < n then 2 else 0)])) ∧ Below W.heap.size W w' ∧ Below w.heap.size w w' := by
  have hb3 := hb.trans (h5.mono hb.size)
  have hI := rowsR hn hr
  have hl : (List.replicate n ([] : Sigs)).length = n := by simp
  have h0 := Run_any cntD ⟨none, 0, none, 0, a, 1, none, 0⟩ (List.replicate n []) (some ⟨b, 0, none⟩) n W (hD.below h5) cnt_small hI (hG.below hb3)
  rw [hl] at h0
  refine h0.mono fun e w' h => ?_
  obtain ⟨⟨_, h1, aN, cN, aR, cR, h2, _, _⟩ | ⟨h1, _⟩ | ⟨_, h1, h2⟩, h3⟩ := h
  · rw [hl] at h1 h2
    rw [if_neg (by omega), if_neg (by omega)]
    exact ⟨⟨aN, _, cN, aR, cR, h2⟩, h3, hb3.trans (h3.mono hb3.size)⟩
  · exact absurd cnt_err h1
  · rw [hl] at h1
    rw [if_pos h1, if_pos h1]
    exact ⟨⟨none, 0, 0, none, 0, h2⟩, h3, hb3.trans (h3.mono hb3.size)⟩
set_option maxRecDepth 100000 in
set_option maxHeartbeats 8000000 in
theorem SimLimits_any (k : Nat) (w : World) (hG : Glob w) (hk : k ≤ 255) :
    Calls Tryz.prog 5 #[.int .u8 k] w fun e w' => e = .returned (.bool true) ∧ Below w.heap.size w w' := by
  have HC : Hid (∀ W, Below w.heap.size w W → Calls Tryz.prog 20 #[] W fun e w' => (∃ a, e = .returned (.agg #[.string ⟨#[100]⟩, .slice none 0 0, .slice none 0 0, .slice a 1 1, .slice none 0 0]) ∧ DesIn w' cntD ⟨none, 0, none, 0, a, 1, none, 0⟩) ∧ Below w.heap.size w w' ∧ Below W.heap.size W w') := fun W hW => (counter_any W).mono fun e w' h => by
    obtain ⟨⟨a, h1, h2⟩, h3⟩ := h
    exact ⟨⟨a, h1, h2⟩, hW.trans (h3.mono hW.size), h3⟩
  have HG := Lib.hid hG
  have HAw := Lib.hid (fun W (hW : Below w.heap.size w W) => awake32_any W (hG.below hW))
  have hB : Below w.heap.size w w := Below.refl _ _
  clear hG
  go_enter Tryz.func5, Tryz.ntmps5
  go_upto_region 2 with fail
  obtain ⟨n, hn⟩ : ∃ n : Nat, (4094 + (k : Int) % 5) = (n : Int) := ⟨4094 + k % 5, by omega⟩
  have hn1 : n ≤ 5000 := by omega
  rw [hn]
  clear hn
  have hmk : ∀ W, (Instr.makeSlice 36 (.int .i64 n) (.int .i64 n)).run Tryz.prog W = .ok (.slice (some ⟨W.heap.size, 0, none⟩) n n) (W.alloc (.cells (Array.replicate n (.slice none 0 0)) 47)) := fun W => makeN W n hn1
  have hcase : ∃ (m : Nat) (er : Int) (bb : Bool), decide ((4096 : Int) < (n : Int)) = bb ∧ (if 4096 < n then 0 else n) = m ∧ (if 4096 < n then (2 : Int) else 0) = er ∧ ((bb = true ∧ m = 0 ∧ er = 2) ∨ (bb = false ∧ m = n ∧ er = 0)) := by
    by_cases h : 4096 < n
    · exact ⟨0, 2, true, by simp; omega, if_pos h, if_pos h, Or.inl ⟨rfl, rfl, rfl⟩⟩
    · exact ⟨n, 0, false, by simp; omega, if_neg h, if_neg h, Or.inr ⟨rfl, rfl, rfl⟩⟩
  obtain ⟨m, er, bb, hd, hm, her, hor⟩ := hcase
  have HRun0 := fun a W5 W b hD hb h5 hr => run_cntN (a := a) (w := w) (W5 := W5) (W := W) (b := b) hn1 hD hb HG.out h5 hr
  rw [hm, her] at HRun0
  have HRun := Lib.hid HRun0
  clear HRun0 hm her
  rcases hor with ⟨rfl, rfl, rfl⟩ | ⟨rfl, rfl, rfl⟩
  all_goals
    go_region_held3 (fun w' => Below w.heap.size w w')
      ((first | assumption | exact (by repeat (first | assumption | exact Below.refl _ _ | refine Below.drew ?_ | refine below_drewN ?_ _ | refine Below.alloc ?_ (by first | omega | (simp only [World.size_alloc, World.size_setCell, World.size_drew, World.heap_drewN] <;> omega) | (simp <;> omega)) _ | refine Below.setCell ?_ (by first | omega | (simp only [World.size_alloc, World.size_setCell, World.size_drew, World.heap_drewN] <;> omega) | (simp <;> omega)) _))))
      (first | (go_at_call 20; (with_reducible refine (HC.out _ ?hin).mono ?_); (case hin => (first | assumption | exact (by repeat (first | assumption | exact Below.refl _ _ | refine Below.drew ?_ | refine below_drewN ?_ _ | refine Below.alloc ?_ (by first | omega | (simp only [World.size_alloc, World.size_setCell, World.size_drew, World.heap_drewN] <;> omega) | (simp <;> omega)) _ | refine Below.setCell ?_ (by first | omega | (simp only [World.size_alloc, World.size_setCell, World.size_drew, World.heap_drewN] <;> omega) | (simp <;> omega)) _)))); rintro r w5 ⟨⟨a5, rfl, hD5⟩, hb5, hc5⟩; (have HD5 := Lib.hid hD5); (have HB5 := Lib.hid hb5); (have HC5 := Lib.hid hc5); (have hz5 := hb5.size); clear hD5 hc5) | (go_at_call 17; (with_reducible refine (HRun.out _ _ _ _ HD5.out HB5.out ?h5 ?hr).mono ?_); (case h5 => (exact (by repeat (first | assumption | exact Below.refl _ _ | refine Below.drew ?_ | refine below_drewN ?_ _ | refine Below.alloc ?_ (by first | omega | (simp only [World.size_alloc, World.size_setCell, World.size_drew, World.heap_drewN] <;> omega) | (simp <;> omega)) _ | refine Below.setCell ?_ (by first | omega | (simp only [World.size_alloc, World.size_setCell, World.size_drew, World.heap_drewN] <;> omega) | (simp <;> omega)) _)))); (case hr => (iterate 5 (first | done | assumption | (with_reducible refine hh_new ?_; first | rfl | (simp only [World.size_alloc, World.size_drew]; done) | omega | (simp only [World.size_alloc, World.size_drew]; omega)) | with_reducible refine hh_old ?_ | with_reducible refine hh_drew ?_ | with_reducible refine hh_below HC5.out ?_))); rintro r w6 ⟨⟨aN, lN, cN, aR, cR, rfl⟩, hb6, hb6w⟩; (have hz6 := hb6.size); (try simp only [World.size_alloc] at hz6); (try (refine cutp (p := w6.heap[w.heap.size]? = some zWave) ?pr (fun h6 => ?_); (case pr => (unfold zWave; with_reducible refine hh_below hb6 ?_; (iterate 5 (first | done | assumption | (with_reducible refine hh_new ?_; first | rfl | (simp only [World.size_alloc, World.size_drew]; done) | omega | (simp only [World.size_alloc, World.size_drew]; omega)) | with_reducible refine hh_old ?_ | with_reducible refine hh_drew ?_ | with_reducible refine hh_below HC5.out ?_)))); (have HX6 := Lib.hid h6); (obtain ⟨g0, g1, q0, q1⟩ := wave_cells h6); clear h6)); (try (refine cutp (p := w6.heap[w.heap.size + 1]? = some zWave) ?pr (fun h6 => ?_); (case pr => (unfold zWave; with_reducible refine hh_below hb6 ?_; (iterate 5 (first | done | assumption | (with_reducible refine hh_new ?_; first | rfl | (simp only [World.size_alloc, World.size_drew]; done) | omega | (simp only [World.size_alloc, World.size_drew]; omega)) | with_reducible refine hh_old ?_ | with_reducible refine hh_drew ?_ | with_reducible refine hh_below HC5.out ?_)))); (have HX6 := Lib.hid h6); (obtain ⟨g0, g1, q0, q1⟩ := wave_cells h6); clear h6)); (try (refine cutp (p := w6.heap[w5.heap.size]? = some zWave) ?pr (fun h6 => ?_); (case pr => (unfold zWave; with_reducible refine hh_below hb6 ?_; (iterate 5 (first | done | assumption | (with_reducible refine hh_new ?_; first | rfl | (simp only [World.size_alloc, World.size_drew]; done) | omega | (simp only [World.size_alloc, World.size_drew]; omega)) | with_reducible refine hh_old ?_ | with_reducible refine hh_drew ?_ | with_reducible refine hh_below HC5.out ?_)))); (have HX6 := Lib.hid h6); (obtain ⟨g0, g1, q0, q1⟩ := wave_cells h6); clear h6)); (try (refine cutp (p := w6.heap[w5.heap.size + 1]? = some zWave) ?pr (fun h6 => ?_); (case pr => (unfold zWave; with_reducible refine hh_below hb6 ?_; (iterate 5 (first | done | assumption | (with_reducible refine hh_new ?_; first | rfl | (simp only [World.size_alloc, World.size_drew]; done) | omega | (simp only [World.size_alloc, World.size_drew]; omega)) | with_reducible refine hh_old ?_ | with_reducible refine hh_drew ?_ | with_reducible refine hh_below HC5.out ?_)))); (have HX6 := Lib.hid h6); (obtain ⟨g0, g1, q0, q1⟩ := wave_cells h6); clear h6)); (have HB6 := Lib.hid hb6w); clear hb6))
    all_goals
      first
      | (refine wave_gen (w := w) (Q := fun W => Exit.then _ _ Exit.normal _ W) HX6.out (l := []) (by simp) ⟨Nat.zero_le _, by simp, Or.inl rfl⟩ HB6.out (by omega) ?_)
      | (refine wave_gen2 (w := w) (Q := fun W => Exit.then _ _ Exit.normal _ W) (X := w6) (l := []) ⟨Nat.zero_le _, by simp, Or.inl rfl⟩ HB6.out ?_)
    all_goals
      clear hB hmk
      intro W7 hc7 _ hB7 hz7 hbl7
      (try clear HX6 g0 g1 q0 q1)
      (try clear HB6 hb6w hz6 hz5)
      go_wp2_with fail
      (refine (HAw.out W7 (hB7.out)).mono ?_; rintro e wz ⟨rfl, hbz⟩; have HBz : Hid (Below w.heap.size w wz) := (hB7.out).trans (hbz.mono (hB7.out).size); clear hbz; go_wp2_with fail; go_ret; exact ⟨rfl, HBz.out⟩)
end Go.Proofs.YteaeemkodbodmaaGreatDoor
