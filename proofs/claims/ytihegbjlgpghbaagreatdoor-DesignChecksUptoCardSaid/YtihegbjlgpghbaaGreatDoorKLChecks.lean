/- law31: DesignChecks. -/
import Derived.Test.YtihegbjlgpghbaaGreatDoorEJ
set_option linter.unusedSimpArgs false
set_option linter.unusedVariables false
set_option linter.unnecessarySimpa false
namespace Go.Proofs.YtihegbjlgpghbaaGreatDoor
open Go.RowKit
attribute [local go_sem ↓] Go.wp_at_zero Go.wp_at_succ

set_option maxRecDepth 100000 in
set_option maxHeartbeats 16000000 in
theorem DesignChecks_any (d : DesD) (x : DesA) (s : ByteArray) (w : World) (hE : DesIn w d x) (hs : DesSmall d) (hG : Glob w) :
    Calls Tryz.prog 4 #[desVal d x, .string s] w fun e w' => e = .returned (.bool true) ∧ Below w.heap.size w w' := by
  have hl := hs.len
  have hnl : d.names.length ≤ 1073741824 := by simp [DesD.names]; omega
  have HSm0 := Lib.hid (fun W (hW : Below w.heap.size w W) => Small_any d x W (hE.below hW) hs)
  have HV0 := Lib.hid (fun W (hW : Below w.heap.size w W) => ValidD_any d x W (hE.below hW) hs (hG.below hW))
  have HR0 := Lib.hid (fun W (hW : Below w.heap.size w W) => rValidD_any d x W (hE.below hW) hs)
  have HN0 := Lib.hid (fun W (hW : Below w.heap.size w W) => Names31_any d x W (hE.below hW) hnl)
  have HM0 := Lib.hid (fun W (hW : Below w.heap.size w W) => rNames31_any d x W (hE.below hW) hnl)
  have HW0 := Lib.hid (fun W (hW : Below w.heap.size w W) => PWidth_any d x s W (hE.below hW) hs)
  have HX0 := Lib.hid (fun W (hW : Below w.heap.size w W) => RWidth_any d x s W (hE.below hW) hs)
  have HAw := Lib.hid (fun W (hW : Below w.heap.size w W) => awake31_any W (hG.below hW))
  have HT := Lib.hid (fun a b ca cb W hA hB => texts31_any d.names a b ca cb W hA hB)
  unfold BoolRet at HSm0
  generalize d.err = er at HV0 HR0
  generalize widS d s = ws at HW0 HX0
  generalize d.names = N at HN0 HM0 HT
  clear hE hs hG hl hnl
  obtain ⟨nm, ins, wires, regs, outs⟩ := d
  obtain ⟨ai, ci, aw, cw, ar, cr, ao, co⟩ := x
  simp only [desVal, desVals] at HSm0 HV0 HR0 HN0 HM0 HW0 HX0 ⊢
  have HSm := Lib.hid (HSm0.out (w.alloc (.cells #[.string nm, .slice ai ins.length ci, .slice aw wires.length cw, .slice ar regs.length cr, .slice ao outs.length co] 27)) ((Below.refl _ _).alloc (Nat.le_refl _) _))
  clear HSm0
  have HV := Lib.hid (fun W (hW : Below (w.heap.size + 1) (w.alloc (.cells #[.string nm, .slice ai ins.length ci, .slice aw wires.length cw, .slice ar regs.length cr, .slice ao outs.length co] 27)) W) => lift_up hW (HV0.out W (boxW _ hW)))
  have HR := Lib.hid (fun W (hW : Below (w.heap.size + 1) (w.alloc (.cells #[.string nm, .slice ai ins.length ci, .slice aw wires.length cw, .slice ar regs.length cr, .slice ao outs.length co] 27)) W) => lift_up hW (HR0.out W (boxW _ hW)))
  have HN := Lib.hid (fun W (hW : Below (w.heap.size + 1) (w.alloc (.cells #[.string nm, .slice ai ins.length ci, .slice aw wires.length cw, .slice ar regs.length cr, .slice ao outs.length co] 27)) W) => lift_up hW (HN0.out W (boxW _ hW)))
  have HM := Lib.hid (fun W (hW : Below (w.heap.size + 1) (w.alloc (.cells #[.string nm, .slice ai ins.length ci, .slice aw wires.length cw, .slice ar regs.length cr, .slice ao outs.length co] 27)) W) => lift_up hW (HM0.out W (boxW _ hW)))
  have HW := Lib.hid (fun W (hW : Below (w.heap.size + 1) (w.alloc (.cells #[.string nm, .slice ai ins.length ci, .slice aw wires.length cw, .slice ar regs.length cr, .slice ao outs.length co] 27)) W) => lift_up hW (HW0.out W (boxW _ hW)))
  have HX := Lib.hid (fun W (hW : Below (w.heap.size + 1) (w.alloc (.cells #[.string nm, .slice ai ins.length ci, .slice aw wires.length cw, .slice ar regs.length cr, .slice ao outs.length co] 27)) W) => lift_up hW (HX0.out W (boxW _ hW)))
  have HT := Lib.hid (fun a b ca cb W hA hB (hW : Below (w.heap.size + 1) (w.alloc (.cells #[.string nm, .slice ai ins.length ci, .slice aw wires.length cw, .slice ar regs.length cr, .slice ao outs.length co] 27)) W) => lift_up hW ((HT.out a b ca cb W hA hB).mono (R' := fun e w' => e = .returned (.bool true) ∧ Below W.heap.size W w') fun _ _ h => h))
  have HA := Lib.hid (fun W (hW : Below (w.heap.size + 1) (w.alloc (.cells #[.string nm, .slice ai ins.length ci, .slice aw wires.length cw, .slice ar regs.length cr, .slice ao outs.length co] 27)) W) => lift_up hW (HAw.out W (boxW _ hW)))
  clear HV0 HR0 HN0 HM0 HW0 HX0
  have hee : (er == er) = true := by simp
  have hww : (ws == ws) = true := by simp
  have HALL : Hid (∀ w', Below (w.heap.size + 1) (w.alloc (.cells #[.string nm, .slice ai ins.length ci, .slice aw wires.length cw, .slice ar regs.length cr, .slice ao outs.length co] 27)) w' → w'.cell? ⟨w.heap.size, 0, none⟩ = some (.string nm) ∧ w'.cell? ⟨w.heap.size, 1, none⟩ = some (.slice ai ins.length ci) ∧ w'.cell? ⟨w.heap.size, 2, none⟩ = some (.slice aw wires.length cw) ∧ w'.cell? ⟨w.heap.size, 3, none⟩ = some (.slice ar regs.length cr) ∧ w'.cell? ⟨w.heap.size, 4, none⟩ = some (.slice ao outs.length co)) := fun w' h => by
    have b0 := box_cell h 0
    have b1 := box_cell h 1
    have b2 := box_cell h 2
    have b3 := box_cell h 3
    have b4 := box_cell h 4
    simp at b0 b1 b2 b3 b4
    exact ⟨b0, b1, b2, b3, b4⟩
  go_enter Tryz.func4, Tryz.ntmps4
  go_wp2_with fail
  refine HSm.out.mono ?_
  rintro e w1 ⟨⟨b, rfl⟩, hb1⟩
  simp only [World.size_alloc] at hb1
  clear HSm
  cases b
  · have HB1 := Lib.hid hb1
    clear hb1
    go_wp2_with fail
    (refine (HAw.out w1 (boxW _ HB1.out)).mono ?_; rintro e wz ⟨rfl, hbz⟩; have HBz : Hid (Below w.heap.size w wz) := (boxW _ HB1.out).trans (hbz.mono (boxW _ HB1.out).size); clear hbz; go_wp2_with fail; go_ret; exact ⟨rfl, HBz.out⟩)
  · clear HAw
    obtain ⟨b0, b1, b2, b3, b4⟩ := HALL.out _ hb1
    go_wp2_with fail
    go_region_held3 (fun w' => Below (w.heap.size + 1) (w.alloc (.cells #[.string nm, .slice ai ins.length ci, .slice aw wires.length cw, .slice ar regs.length cr, .slice ao outs.length co] 27)) w' ∧ w'.cell? ⟨w.heap.size, 0, none⟩ = some (.string nm) ∧ w'.cell? ⟨w.heap.size, 1, none⟩ = some (.slice ai ins.length ci) ∧ w'.cell? ⟨w.heap.size, 2, none⟩ = some (.slice aw wires.length cw) ∧ w'.cell? ⟨w.heap.size, 3, none⟩ = some (.slice ar regs.length cr) ∧ w'.cell? ⟨w.heap.size, 4, none⟩ = some (.slice ao outs.length co)) ((refine (fun h => ⟨h, HALL.out _ h⟩) ?_; first | assumption | exact (by repeat (first | assumption | exact Below.refl _ _ | refine Below.drew ?_ | refine below_drewN ?_ _ | refine Below.alloc ?_ (by first | omega | (simp only [World.size_alloc, World.size_setCell, World.size_drew, World.heap_drewN] <;> omega) | (simp <;> omega)) _ | refine Below.setCell ?_ (by first | omega | (simp only [World.size_alloc, World.size_setCell, World.size_drew, World.heap_drewN] <;> omega) | (simp <;> omega)) _))))
      (first
        | (go_at_call 20; (with_reducible refine (HV.out _ (by first | assumption | exact And.left (by assumption))).mono ?_); rintro e w2 ⟨rfl, _, hb2⟩)
        | (go_at_call 21; (with_reducible refine (HR.out _ (by first | assumption | exact And.left (by assumption))).mono ?_); rintro e w3 ⟨rfl, _, hb3⟩)
        | (go_at_call 23; (with_reducible refine (HN.out _ (by first | assumption | exact And.left (by assumption))).mono ?_); rintro e w4 ⟨⟨a4, c4, rfl, hS4⟩, _, hb4⟩; have HS4 := Lib.hid hS4; clear hS4)
        | (go_at_call 24; (with_reducible refine (HM.out _ (by first | assumption | exact And.left (by assumption))).mono ?_); rintro e w5 ⟨⟨a5, c5, rfl, hS5⟩, hc5, hb5⟩; have HS5 := Lib.hid hS5; have HS4 := Lib.hid (HS4.out.keep (keeps_of_below hc5)); clear hS5 hc5)
        | (go_at_call 22; (with_reducible refine (HT.out _ _ _ _ _ HS4.out HS5.out (by first | assumption | exact And.left (by assumption))).mono ?_); rintro e w6 ⟨rfl, _, hb6⟩)
        | (go_at_call 25; (with_reducible refine (HW.out _ (by first | assumption | exact And.left (by assumption))).mono ?_); rintro e w7 ⟨rfl, _, hb7⟩)
        | (go_at_call 26; (with_reducible refine (HX.out _ (by first | assumption | exact And.left (by assumption))).mono ?_); rintro e w8 ⟨rfl, _, hb8⟩)
        | (go_at_call 19; (with_reducible refine (HA.out _ (by first | assumption | exact And.left (by assumption))).mono ?_); rintro e w9 ⟨rfl, _, hb9⟩))
    all_goals
      have HB9 := Lib.hid (by assumption : Below (w.heap.size + 1) (w.alloc (.cells #[.string nm, .slice ai ins.length ci, .slice aw wires.length cw, .slice ar regs.length cr, .slice ao outs.length co] 27)) w9)
      go_wp2_with fail
      go_ret
      exact ⟨rfl, boxW _ HB9.out⟩
end Go.Proofs.YtihegbjlgpghbaaGreatDoor
