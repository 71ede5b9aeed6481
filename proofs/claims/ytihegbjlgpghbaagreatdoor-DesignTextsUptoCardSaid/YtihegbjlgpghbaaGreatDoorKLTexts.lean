/- law31: DesignTexts. -/
import Derived.Test.YtihegbjlgpghbaaGreatDoorEP
import Derived.Test.YtihegbjlgpghbaaGreatDoorER
import Derived.Test.YtihegbjlgpghbaaGreatDoorES
set_option linter.unusedSimpArgs false
set_option linter.unusedVariables false
set_option linter.unnecessarySimpa false
namespace Go.Proofs.YtihegbjlgpghbaaGreatDoor
open Go.RowKit
attribute [local go_sem ↓] Go.wp_at_zero Go.wp_at_succ

theorem ten_cells {p : Nat} {W2 wr : World} {t : TypeId} {a0 a1 a2 a3 a4 c0 c1 c2 c3 c4 : Value} (h : Below (p + 2) W2 wr) (h1 : W2.heap[p]? = some (.cells #[a0, a1, a2, a3, a4] t (0, 0))) (h2 : W2.heap[p + 1]? = some (.cells #[c0, c1, c2, c3, c4] t (0, 0))) :
    wr.cell? ⟨p, 0, none⟩ = some a0 ∧ wr.cell? ⟨p, 1, none⟩ = some a1 ∧ wr.cell? ⟨p, 2, none⟩ = some a2 ∧ wr.cell? ⟨p, 3, none⟩ = some a3 ∧ wr.cell? ⟨p, 4, none⟩ = some a4 ∧ wr.cell? ⟨p + 1, 0, none⟩ = some c0 ∧ wr.cell? ⟨p + 1, 1, none⟩ = some c1 ∧ wr.cell? ⟨p + 1, 2, none⟩ = some c2 ∧ wr.cell? ⟨p + 1, 3, none⟩ = some c3 ∧ wr.cell? ⟨p + 1, 4, none⟩ = some c4 := by
  have e1 := (h.block p (by omega)).trans h1
  have e2 := (h.block (p + 1) (by omega)).trans h2
  refine ⟨?_, ?_, ?_, ?_, ?_, ?_, ?_, ?_, ?_, ?_⟩ <;> simp [World.cell?, e1, e2]
theorem lift_two {P : Program} {f : FuncId} {args : Array Value} {w V W : World} {B : Nat} {Q : Ending → World → Prop} (hb : Below w.heap.size w V) (hz : V.heap.size = B) (hB : w.heap.size ≤ B) (hW : Below B V W) (h : Below w.heap.size w W → Calls P f args W fun e w' => Q e w' ∧ Below W.heap.size W w') :
    Calls P f args W fun e w' => Q e w' ∧ Below w.heap.size w w' ∧ Below B V w' :=
  have hwW : Below w.heap.size w W := hb.trans (hW.mono hB)
  (h hwW).mono fun _ _ h => ⟨h.1, hwW.trans (h.2.mono hwW.size), hW.trans (h.2.mono (by have := hW.size; omega))⟩
theorem texts_eq {a b : DesD} (h : a.err = 0) : ((prT b).toList == (prT a).toList) = pB (a = b) := by
  rw [ByteArray.toList_eq, ByteArray.toList_eq]
  by_cases he : a = b
  · subst he
    rw [pB_true rfl]
    simp
  · rw [pB_false he]
    exact beq_eq_false_iff_ne.2 fun e => he ((prT_eq h).1 e)
set_option maxRecDepth 100000 in
set_option maxHeartbeats 16000000 in
theorem DesignTexts_any (a : DesD) (x : DesA) (b : DesD) (y : DesA) (w : World) (hEa : DesIn w a x) (hsa : DesSmall a) (hEb : DesIn w b y) (hsb : DesSmall b) (hG : Glob w) (hT : Lib.TabIs Tryz.prog w "internal/strconv.uint64pow10" .u64 Lib.pow10Tab) :
    Calls Tryz.prog 9 #[desVal a x, desVal b y] w fun e w' => e = .returned (.bool true) ∧ Below w.heap.size w w' := by
  have hTW : ∀ W, Below w.heap.size w W → Lib.TabIs Tryz.prog W "internal/strconv.uint64pow10" .u64 Lib.pow10Tab := fun W hW => Go.Joins.tab_stays (g := 1) (by kernel_rfl) hT hW (Nat.le_refl _)
  have HSa0 := Lib.hid (fun W (hW : Below w.heap.size w W) => Small_ex a x W (hEa.below hW) hsa)
  have HSb0 := Lib.hid (fun W (hW : Below w.heap.size w W) => Small_ex b y W (hEb.below hW) hsb)
  have HPa0 := Lib.hid (fun W (hW : Below w.heap.size w W) => Print_any a x W (hEa.below hW) hsa (hG.below hW) (hTW W hW))
  have HPb0 := Lib.hid (fun W (hW : Below w.heap.size w W) => Print_any b y W (hEb.below hW) hsb (hG.below hW) (hTW W hW))
  have HVa0 := Lib.hid (fun W (hW : Below w.heap.size w W) => ValidD_any a x W (hEa.below hW) hsa (hG.below hW))
  have HEq0 := Lib.hid (fun W (hW : Below w.heap.size w W) => same31_any a b x y W (hEa.below hW) (hEb.below hW))
  have HAw0 := Lib.hid (fun W (hW : Below w.heap.size w W) => awake31_any W (hG.below hW))
  unfold BoolIs at HSa0 HSb0 HEq0
  unfold SPost at HPa0 HPb0
  have HD : Hid ((a.err = 0 ∧ ((prT a).toList == []) = false ∧ ((prT b).toList == (prT a).toList) = pB (a = b)) ∨ (prT a = .empty ∧ (a.err != 0) = true)) := by
    by_cases he : a.err = 0
    · refine Or.inl ⟨he, beq_eq_false_iff_ne.2 ?_, texts_eq he⟩
      rw [ByteArray.toList_eq]
      exact prT_some he
    · exact Or.inr ⟨prT_bad he, by simpa using he⟩
  generalize prT a = pa at HPa0 HD
  generalize prT b = pb at HPb0 HD
  generalize a.err = ea at HVa0 HD
  generalize pB (a = b) = cc at HEq0 HD
  generalize smallS a = sa at HSa0
  generalize smallS b = sb at HSb0
  clear hEa hEb hsa hsb hG hT hTW
  obtain ⟨nm, ins, wires, regs, outs⟩ := a
  obtain ⟨nm2, ins2, wires2, regs2, outs2⟩ := b
  obtain ⟨ai, ci, aw, cw, ar, cr, ao, co⟩ := x
  obtain ⟨bi, di, bw, dw, br, dr, bo, dO⟩ := y
  simp only [desVal, desVals] at HSa0 HSb0 HPa0 HPb0 HVa0 HEq0 ⊢
  generalize hV2 : (w.alloc (.cells #[.string nm, .slice ai ins.length ci, .slice aw wires.length cw, .slice ar regs.length cr, .slice ao outs.length co] 27)).alloc (.cells #[.string nm2, .slice bi ins2.length di, .slice bw wires2.length dw, .slice br regs2.length dr, .slice bo outs2.length dO] 27) = V2
  have HEV : Hid ((w.alloc (.cells #[.string nm, .slice ai ins.length ci, .slice aw wires.length cw, .slice ar regs.length cr, .slice ao outs.length co] 27)).alloc (.cells #[.string nm2, .slice bi ins2.length di, .slice bw wires2.length dw, .slice br regs2.length dr, .slice bo outs2.length dO] 27) = V2) := hV2
  have hz2 : V2.heap.size = w.heap.size + 2 := by rw [← hV2]; simp
  have hB2 : Below w.heap.size w V2 := by rw [← hV2]; exact (by repeat (first | assumption | exact Below.refl _ _ | refine Below.drew ?_ | refine below_drewN ?_ _ | refine Below.alloc ?_ (by first | omega | (simp only [World.size_alloc, World.size_setCell, World.size_drew, World.heap_drewN] <;> omega) | (simp <;> omega)) _ | refine Below.setCell ?_ (by first | omega | (simp only [World.size_alloc, World.size_setCell, World.size_drew, World.heap_drewN] <;> omega) | (simp <;> omega)) _))
  have HK1 : Hid (V2.heap[w.heap.size]? = some (.cells #[.string nm, .slice ai ins.length ci, .slice aw wires.length cw, .slice ar regs.length cr, .slice ao outs.length co] 27 (0, 0))) := by
    show _ = _
    rw [← hV2]
    exact (Below.heap_alloc _ _ _ (by simp)).trans (heap_alloc_new' w _)
  have HK2 : Hid (V2.heap[w.heap.size + 1]? = some (.cells #[.string nm2, .slice bi ins2.length di, .slice bw wires2.length dw, .slice br regs2.length dr, .slice bo outs2.length dO] 27 (0, 0))) := by
    show _ = _
    rw [← hV2]
    have h := heap_alloc_new' (w.alloc (.cells #[.string nm, .slice ai ins.length ci, .slice aw wires.length cw, .slice ar regs.length cr, .slice ao outs.length co] 27)) (.cells #[.string nm2, .slice bi ins2.length di, .slice bw wires2.length dw, .slice br regs2.length dr, .slice bo outs2.length dO] 27)
    simp only [World.size_alloc] at h
    exact h
  have HC : Hid (∀ W, Below (w.heap.size + 2) V2 W → W.cell? ⟨w.heap.size, 0, none⟩ = some (.string nm) ∧ W.cell? ⟨w.heap.size, 1, none⟩ = some (.slice ai ins.length ci) ∧ W.cell? ⟨w.heap.size, 2, none⟩ = some (.slice aw wires.length cw) ∧ W.cell? ⟨w.heap.size, 3, none⟩ = some (.slice ar regs.length cr) ∧ W.cell? ⟨w.heap.size, 4, none⟩ = some (.slice ao outs.length co) ∧ W.cell? ⟨w.heap.size + 1, 0, none⟩ = some (.string nm2) ∧ W.cell? ⟨w.heap.size + 1, 1, none⟩ = some (.slice bi ins2.length di) ∧ W.cell? ⟨w.heap.size + 1, 2, none⟩ = some (.slice bw wires2.length dw) ∧ W.cell? ⟨w.heap.size + 1, 3, none⟩ = some (.slice br regs2.length dr) ∧ W.cell? ⟨w.heap.size + 1, 4, none⟩ = some (.slice bo outs2.length dO)) := fun W h => ten_cells h HK1.out HK2.out
  have HSa := Lib.hid (fun W (hW : Below (w.heap.size + 2) V2 W) => lift_two hB2 hz2 (by omega) hW (HSa0.out W))
  have HSb := Lib.hid (fun W (hW : Below (w.heap.size + 2) V2 W) => lift_two hB2 hz2 (by omega) hW (HSb0.out W))
  have HPa := Lib.hid (fun W (hW : Below (w.heap.size + 2) V2 W) => lift_two hB2 hz2 (by omega) hW (HPa0.out W))
  have HPb := Lib.hid (fun W (hW : Below (w.heap.size + 2) V2 W) => lift_two hB2 hz2 (by omega) hW (HPb0.out W))
  have HVa := Lib.hid (fun W (hW : Below (w.heap.size + 2) V2 W) => lift_two hB2 hz2 (by omega) hW (HVa0.out W))
  have HEq := Lib.hid (fun W (hW : Below (w.heap.size + 2) V2 W) => lift_two hB2 hz2 (by omega) hW (HEq0.out W))
  have HAw := Lib.hid (fun W (hW : Below (w.heap.size + 2) V2 W) => lift_two hB2 hz2 (by omega) hW (HAw0.out W))
  have HB0 : Hid (Below (w.heap.size + 2) V2 V2) := Below.refl _ _
  clear HSa0 HSb0 HPa0 HPb0 HVa0 HEq0 HAw0 HK1 HK2 hB2 hz2 hV2
  go_enter Tryz.func9, Tryz.ntmps9
  go_wp2_with fail
  rw [HEV.out]
  clear HEV
  refine (HSa.out _ HB0.out).mono ?_
  rintro e w1 ⟨rfl, hw1, hb1⟩
  obtain ⟨x0, x1, x2, x3, x4, y0, y1, y2, y3, y4⟩ := HC.out _ hb1
  have HB1 := Lib.hid hb1
  clear hw1 hb1 HB0
  cases sa
  · go_wp2_with fail
    refine (HAw.out _ HB1.out).mono ?_
    rintro e w2 ⟨rfl, hw2, _⟩
    have HW2 := Lib.hid hw2
    clear hw2 x0 x1 x2 x3 x4 y0 y1 y2 y3 y4
    go_wp2_with fail
    go_ret
    exact ⟨rfl, HW2.out⟩
  · go_wp2_with fail
    refine (HSb.out _ HB1.out).mono ?_
    rintro e w2 ⟨rfl, hw2, hb2⟩
    clear x0 x1 x2 x3 x4 y0 y1 y2 y3 y4
    obtain ⟨x0, x1, x2, x3, x4, y0, y1, y2, y3, y4⟩ := HC.out _ hb2
    have HB2 := Lib.hid hb2
    clear hw2 hb2 HB1
    cases sb
    · go_wp2_with fail
      refine (HAw.out _ HB2.out).mono ?_
      rintro e w3 ⟨rfl, hw3, _⟩
      have HW3 := Lib.hid hw3
      clear hw3 x0 x1 x2 x3 x4 y0 y1 y2 y3 y4
      go_wp2_with fail
      go_ret
      exact ⟨rfl, HW3.out⟩
    · go_wp2_with fail
      refine (HPa.out _ HB2.out).mono ?_
      rintro e w3 ⟨rfl, hw3, hb3⟩
      clear x0 x1 x2 x3 x4 y0 y1 y2 y3 y4
      obtain ⟨x0, x1, x2, x3, x4, y0, y1, y2, y3, y4⟩ := HC.out _ hb3
      have HB3 := Lib.hid hb3
      clear hw3 hb3 HB2
      rcases HD.out with ⟨rfl, hp, hq⟩ | ⟨rfl, hv⟩
      · clear HD HVa
        have hcc : (cc == cc) = true := by simp
        have hb3 := HB3.out
        go_wp2_with fail
        go_region_held3 (fun w' => Below (w.heap.size + 2) V2 w' ∧ w'.cell? ⟨w.heap.size, 0, none⟩ = some (.string nm) ∧ w'.cell? ⟨w.heap.size, 1, none⟩ = some (.slice ai ins.length ci) ∧ w'.cell? ⟨w.heap.size, 2, none⟩ = some (.slice aw wires.length cw) ∧ w'.cell? ⟨w.heap.size, 3, none⟩ = some (.slice ar regs.length cr) ∧ w'.cell? ⟨w.heap.size, 4, none⟩ = some (.slice ao outs.length co) ∧ w'.cell? ⟨w.heap.size + 1, 0, none⟩ = some (.string nm2) ∧ w'.cell? ⟨w.heap.size + 1, 1, none⟩ = some (.slice bi ins2.length di) ∧ w'.cell? ⟨w.heap.size + 1, 2, none⟩ = some (.slice bw wires2.length dw) ∧ w'.cell? ⟨w.heap.size + 1, 3, none⟩ = some (.slice br regs2.length dr) ∧ w'.cell? ⟨w.heap.size + 1, 4, none⟩ = some (.slice bo outs2.length dO)) ((refine (fun h => ⟨h, HC.out _ h⟩) ?_; first | assumption | exact Below.drew (by assumption) | exact (by repeat (first | assumption | exact Below.refl _ _ | refine Below.drew ?_ | refine below_drewN ?_ _ | refine Below.alloc ?_ (by first | omega | (simp only [World.size_alloc, World.size_setCell, World.size_drew, World.heap_drewN] <;> omega) | (simp <;> omega)) _ | refine Below.setCell ?_ (by first | omega | (simp only [World.size_alloc, World.size_setCell, World.size_drew, World.heap_drewN] <;> omega) | (simp <;> omega)) _))))
          (first
            | (go_at_call 31; (with_reducible refine (HPb.out _ (by first | assumption | exact And.left (by assumption))).mono ?_); rintro e w4 ⟨rfl, _, hb4⟩)
            | (go_at_call 37; (with_reducible refine (HEq.out _ (by first | assumption | exact And.left (by assumption))).mono ?_); rintro e w5 ⟨rfl, _, hb5⟩)
            | (go_at_call 19; (with_reducible refine (HAw.out _ (by first | assumption | exact And.left (by assumption))).mono ?_); rintro e w9 ⟨rfl, hw9, hb9⟩))
        all_goals
          have HW9 := Lib.hid (by assumption : Below w.heap.size w w9)
          go_wp2_with fail
          go_ret
          exact ⟨rfl, HW9.out⟩
      · clear HD
        go_wp2_with fail
        refine (HVa.out _ HB3.out).mono ?_
        rintro e w4 ⟨rfl, hw4, hb4⟩
        have HB4 := Lib.hid hb4
        clear hw4 hb4 x0 x1 x2 x3 x4 y0 y1 y2 y3 y4
        go_wp2_with fail
        refine (HAw.out _ HB4.out).mono ?_
        rintro e w5 ⟨rfl, hw5, _⟩
        have HW5 := Lib.hid hw5
        clear hw5
        go_wp2_with fail
        go_ret
        exact ⟨rfl, HW5.out⟩
end Go.Proofs.YtihegbjlgpghbaaGreatDoor
