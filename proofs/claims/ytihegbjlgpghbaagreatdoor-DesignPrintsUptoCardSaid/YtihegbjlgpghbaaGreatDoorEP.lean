/- law31: DesignPrints. -/
import Derived.Test.YtihegbjlgpghbaaGreatDoorEJ
import Derived.Test.YtihegbjlgpghbaaGreatDoorEO
import Derived.Test.YtihegbjlgpghbaaGreatDoorEK
import Derived.Lib.LaidTab
set_option linter.unusedSimpArgs false
set_option linter.unusedVariables false
set_option linter.unnecessarySimpa false
namespace Go.Proofs.YtihegbjlgpghbaaGreatDoor
open Go.RowKit
attribute [local go_sem ↓] Go.wp_at_zero Go.wp_at_succ

set_option maxRecDepth 100000 in
set_option maxHeartbeats 16000000 in
theorem DesignPrints_any (d : DesD) (x : DesA) (w : World) (hE : DesIn w d x) (hs : DesSmall d) (hG : Glob w) (hT : Lib.TabIs Tryz.prog w "internal/strconv.uint64pow10" .u64 Lib.pow10Tab) :
    Calls Tryz.prog 6 #[desVal d x] w fun e w' => e = .returned (.bool true) ∧ Below w.heap.size w w' := by
  have hTW : ∀ W, Below w.heap.size w W → Lib.TabIs Tryz.prog W "internal/strconv.uint64pow10" .u64 Lib.pow10Tab := fun W hW => Go.Joins.tab_stays (g := 1) (by kernel_rfl) hT hW (Nat.le_refl _)
  have HSm0 := Lib.hid (fun W (hW : Below w.heap.size w W) => Small_ex d x W (hE.below hW) hs)
  have HP0 := Lib.hid (fun W (hW : Below w.heap.size w W) => Print_any d x W (hE.below hW) hs (hG.below hW) (hTW W hW))
  have HR0 := Lib.hid (fun W (hW : Below w.heap.size w W) => rPrint_any d x W (hE.below hW) hs)
  have HAw := Lib.hid (fun W (hW : Below w.heap.size w W) => awake31_any W (hG.below hW))
  unfold BoolIs at HSm0
  unfold SPost at HP0 HR0
  generalize prT d = ps at HP0 HR0
  generalize smallS d = sb at HSm0
  clear hE hs hG hT hTW
  obtain ⟨nm, ins, wires, regs, outs⟩ := d
  obtain ⟨ai, ci, aw, cw, ar, cr, ao, co⟩ := x
  simp only [desVal, desVals] at HSm0 HP0 HR0 ⊢
  have HSm := Lib.hid (fun W (hW : Below (w.heap.size + 1) (w.alloc (.cells #[.string nm, .slice ai ins.length ci, .slice aw wires.length cw, .slice ar regs.length cr, .slice ao outs.length co] 27)) W) => lift_up hW (HSm0.out W (boxW _ hW)))
  have HP := Lib.hid (fun W (hW : Below (w.heap.size + 1) (w.alloc (.cells #[.string nm, .slice ai ins.length ci, .slice aw wires.length cw, .slice ar regs.length cr, .slice ao outs.length co] 27)) W) => lift_up hW (HP0.out W (boxW _ hW)))
  have HR := Lib.hid (fun W (hW : Below (w.heap.size + 1) (w.alloc (.cells #[.string nm, .slice ai ins.length ci, .slice aw wires.length cw, .slice ar regs.length cr, .slice ao outs.length co] 27)) W) => lift_up hW (HR0.out W (boxW _ hW)))
  have HA := Lib.hid (fun W (hW : Below (w.heap.size + 1) (w.alloc (.cells #[.string nm, .slice ai ins.length ci, .slice aw wires.length cw, .slice ar regs.length cr, .slice ao outs.length co] 27)) W) => lift_up hW (HAw.out W (boxW _ hW)))
  clear HSm0 HP0 HR0 HAw
  have hee : (ps.toList == ps.toList) = true := by simp
  have HALL : Hid (∀ w', Below (w.heap.size + 1) (w.alloc (.cells #[.string nm, .slice ai ins.length ci, .slice aw wires.length cw, .slice ar regs.length cr, .slice ao outs.length co] 27)) w' → w'.cell? ⟨w.heap.size, 0, none⟩ = some (.string nm) ∧ w'.cell? ⟨w.heap.size, 1, none⟩ = some (.slice ai ins.length ci) ∧ w'.cell? ⟨w.heap.size, 2, none⟩ = some (.slice aw wires.length cw) ∧ w'.cell? ⟨w.heap.size, 3, none⟩ = some (.slice ar regs.length cr) ∧ w'.cell? ⟨w.heap.size, 4, none⟩ = some (.slice ao outs.length co)) := fun w' h => by
    have b0 := box_cell h 0
    have b1 := box_cell h 1
    have b2 := box_cell h 2
    have b3 := box_cell h 3
    have b4 := box_cell h 4
    simp at b0 b1 b2 b3 b4
    exact ⟨b0, b1, b2, b3, b4⟩
  have HB0 : Hid (Below (w.heap.size + 1) (w.alloc (.cells #[.string nm, .slice ai ins.length ci, .slice aw wires.length cw, .slice ar regs.length cr, .slice ao outs.length co] 27)) (w.alloc (.cells #[.string nm, .slice ai ins.length ci, .slice aw wires.length cw, .slice ar regs.length cr, .slice ao outs.length co] 27))) := Below.refl _ _
  cases sb
  · go_enter Tryz.func6, Tryz.ntmps6
    have hb1 := HB0.out
    go_wp2_with fail
    obtain ⟨b0, b1, b2, b3, b4⟩ := HALL.out _ hb1
    go_region_with
      (first
        | (go_at_call 18; (with_reducible refine (HSm.out _ (by first | assumption | exact Below.drew (by assumption))).mono ?_); rintro e w2 ⟨rfl, _, hb2⟩)
        | (go_at_call 19; (with_reducible refine (HA.out _ (by first | assumption | exact Below.drew (by assumption))).mono ?_); rintro e w9 ⟨rfl, _, hb9⟩))
    all_goals
      have HB9 := Lib.hid (by assumption : Below (w.heap.size + 1) (w.alloc (.cells #[.string nm, .slice ai ins.length ci, .slice aw wires.length cw, .slice ar regs.length cr, .slice ao outs.length co] 27)) w9)
      go_wp2_with fail
      go_ret
      exact ⟨rfl, boxW _ HB9.out⟩
  · go_enter Tryz.func6, Tryz.ntmps6
    have hb1 := HB0.out
    go_wp2_with fail
    obtain ⟨b0, b1, b2, b3, b4⟩ := HALL.out _ hb1
    go_region_held3 (fun w' => Below (w.heap.size + 1) (w.alloc (.cells #[.string nm, .slice ai ins.length ci, .slice aw wires.length cw, .slice ar regs.length cr, .slice ao outs.length co] 27)) w' ∧ w'.cell? ⟨w.heap.size, 0, none⟩ = some (.string nm) ∧ w'.cell? ⟨w.heap.size, 1, none⟩ = some (.slice ai ins.length ci) ∧ w'.cell? ⟨w.heap.size, 2, none⟩ = some (.slice aw wires.length cw) ∧ w'.cell? ⟨w.heap.size, 3, none⟩ = some (.slice ar regs.length cr) ∧ w'.cell? ⟨w.heap.size, 4, none⟩ = some (.slice ao outs.length co)) ((refine (fun h => ⟨h, HALL.out _ h⟩) ?_; first | assumption | exact (by repeat (first | assumption | exact Below.refl _ _ | refine Below.drew ?_ | refine below_drewN ?_ _ | refine Below.alloc ?_ (by first | omega | (simp only [World.size_alloc, World.size_setCell, World.size_drew, World.heap_drewN] <;> omega) | (simp <;> omega)) _ | refine Below.setCell ?_ (by first | omega | (simp only [World.size_alloc, World.size_setCell, World.size_drew, World.heap_drewN] <;> omega) | (simp <;> omega)) _))))
      (first
        | (go_at_call 18; (with_reducible refine (HSm.out _ (by first | assumption | exact And.left (by assumption))).mono ?_); rintro e w2 ⟨rfl, _, hb2⟩)
        | (go_at_call 31; (with_reducible refine (HP.out _ (by first | assumption | exact And.left (by assumption))).mono ?_); rintro e w3 ⟨rfl, _, hb3⟩)
        | (go_at_call 32; (with_reducible refine (HR.out _ (by first | assumption | exact And.left (by assumption))).mono ?_); rintro e w4 ⟨rfl, _, hb4⟩)
        | (go_at_call 19; (with_reducible refine (HA.out _ (by first | assumption | exact And.left (by assumption))).mono ?_); rintro e w9 ⟨rfl, _, hb9⟩))
    all_goals
      have HB9 := Lib.hid (by assumption : Below (w.heap.size + 1) (w.alloc (.cells #[.string nm, .slice ai ins.length ci, .slice aw wires.length cw, .slice ar regs.length cr, .slice ao outs.length co] 27)) w9)
      go_wp2_with fail
      go_ret
      exact ⟨rfl, boxW _ HB9.out⟩
end Go.Proofs.YtihegbjlgpghbaaGreatDoor

/- The table of powers, out of the laid row. -/
namespace Go.Proofs.YtihegbjlgpghbaaGreatDoor
open Go.ChangeShapes Go.WideShapes Go.ChangeAt Go.RowKit

theorem pow_tab : (Rows.laid_internal_strconv_uint64pow10 : DataW Unit) = Lib.tabData .u64 Lib.pow10Tab := rfl
theorem tab_laid {W : World} (hL : laidMetH Tryz.prog [("math/bits.deBruijn32tab", Rows.laid_math_bits_deBruijn32tab), ("math/bits.deBruijn64tab", Rows.laid_math_bits_deBruijn64tab), ("internal/strconv.uint64pow10", Rows.laid_internal_strconv_uint64pow10), ("testbench/lexer.keywords", Rows.laid_testbench_lexer_keywords)] W) : Lib.TabIs Tryz.prog W "internal/strconv.uint64pow10" .u64 Lib.pow10Tab := by
  have hL' : laidMet Tryz.prog [("math/bits.deBruijn32tab", Rows.laid_math_bits_deBruijn32tab), ("math/bits.deBruijn64tab", Rows.laid_math_bits_deBruijn64tab), ("internal/strconv.uint64pow10", Rows.laid_internal_strconv_uint64pow10), ("testbench/lexer.keywords", Rows.laid_testbench_lexer_keywords)] W := hL
  obtain ⟨ps, hv, _⟩ := hL'
  obtain ⟨_, _, _, _, _, _, _, _, _, _, hv, _⟩ := hv
  obtain ⟨_, _, _, _, _, _, _, _, _, _, hv, _⟩ := hv
  obtain ⟨g', t', cs, fuel, p, q, hg', ht', hvar, hd, _, _⟩ := hv
  obtain rfl := Option.some.inj ((show Tryz.prog.globalNamed "internal/strconv.uint64pow10" = some 1 by kernel_rfl).symm.trans hg')
  have hty : (Tryz.prog.globals[1]?).map (·.type) = some 236 := by kernel_rfl
  obtain rfl := Option.some.inj (hty.symm.trans ht')
  unfold Lib.TabIs
  rw [pow_tab] at hd
  rw [hvar, ← Lib.cells_of_tab Tryz.underlying236 Tryz.underlying173 (by kernel_rfl) (by kernel_rfl) hd]
end Go.Proofs.YtihegbjlgpghbaaGreatDoor
