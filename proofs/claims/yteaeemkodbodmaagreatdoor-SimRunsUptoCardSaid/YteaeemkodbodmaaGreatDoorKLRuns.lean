/- law32: SimRuns. -/
import Derived.Test.YteaeemkodbodmaaGreatDoorDX
import Derived.Test.YteaeemkodbodmaaGreatDoorDU
set_option linter.unusedSimpArgs false
set_option linter.unusedVariables false
set_option linter.unnecessarySimpa false
namespace Go.Proofs.YteaeemkodbodmaaGreatDoor
open Go.RowKit
attribute [local go_sem ↓] Go.wp_at_zero Go.wp_at_succ

set_option maxRecDepth 100000 in
set_option maxHeartbeats 8000000 in
theorem SimRuns_any (d : DesD) (x : DesA) (rows : List Sigs) (aI : Option Addr) (cI : Nat) (w : World) (hE : DesIn w d x) (hs : DesSmall d) (hI : SigRows w rows aI cI) (hG : Glob w) :
    Calls Tryz.prog 4 #[desVal d x, .slice aI rows.length cI] w fun e w' => e = .returned (.bool true) ∧ Below w.heap.size w w' := by
  have HFw0 := Lib.hid (fun W (hW : Below w.heap.size w W) => Few32_any d x W (hE.below hW))
  have HBr0 := Lib.hid (fun W (hW : Below w.heap.size w W) => Brief_any rows aI cI W (hI.keep (keeps_of_below hW)))
  unfold FewPost at HFw0 HBr0
  have HA0 := Lib.hid (fun W (hW : Below w.heap.size w W) => (Run_any d x rows aI cI W (hE.below hW) hs (hI.keep (keeps_of_below hW)) (hG.below hW)).mono fun _ _ h => h.out)
  have HR0 := Lib.hid (fun W (hW : Below w.heap.size w W) => (rRun_any d x rows aI cI W (hE.below hW) hs (hI.keep (keeps_of_below hW)) (hG.below hW)).mono fun _ _ h => h.out)
  have HAw := Lib.hid (fun W (hW : Below w.heap.size w W) => awake32_any W (hG.below hW))
  have HIn := Lib.hid (fun W a1 c1 r1 d1 a2 c2 r2 d2 h1 g1 h2 g2 => same_eq (rNames d rows.length) (rRows d rows) a1 c1 r1 d1 a2 c2 r2 d2 W h1 g1 h2 g2)
  generalize rNames d rows.length = N at HA0 HR0 HIn
  generalize rRows d rows = R at HA0 HR0 HIn
  generalize rErr d rows.length = er at HA0 HR0
  generalize FewD d = Fd at HFw0
  generalize BriefD rows = Bd at HBr0
  clear hE hs hG hI
  simp only [desVal, desVals] at HFw0 HA0 HR0 ⊢
  have HFw := Lib.hid (HFw0.out (w.alloc (.cells #[.string d.name, .slice x.ai d.inputs.length x.ci, .slice x.aw d.wires.length x.cw, .slice x.ar d.regs.length x.cr, .slice x.ao d.outputs.length x.co] 27)) ((Below.refl _ _).alloc (Nat.le_refl _) _))
  clear HFw0
  have hee : (er == er) = true := by simp
  go_enter Tryz.func4, Tryz.ntmps4
  go_wp2_with fail
  refine HFw.out.mono ?_
  rintro e w1 ⟨⟨b, rfl, hbf⟩, hb1⟩
  simp only [World.size_alloc] at hb1
  have HB1 := Lib.hid hb1
  have hz1 := hb1.size
  simp only [World.size_alloc] at hz1
  clear hb1 hbf
  cases b
  · go_wp2_with fail
    refine (HAw.out w1 (boxW _ HB1.out)).mono ?_
    rintro e w2 ⟨rfl, hb2⟩
    have HB2 : Hid (Below w.heap.size w w2) := (boxW _ HB1.out).trans (hb2.mono (boxW _ HB1.out).size)
    clear hb2
    go_wp2_with fail
    go_ret
    exact ⟨rfl, HB2.out⟩
  · go_wp2_with fail
    refine (HBr0.out w1 (boxW _ HB1.out)).mono ?_
    rintro e w2 ⟨⟨b, rfl, hbf⟩, hb2⟩
    have HB2 := Lib.hid (HB1.out.trans (hb2.mono hz1))
    have hz2 := HB2.out.size
    simp only [World.size_alloc] at hz2
    clear hb2 hbf
    cases b
    · go_wp2_with fail
      refine (HAw.out w2 (boxW _ HB2.out)).mono ?_
      rintro e w3 ⟨rfl, hb3⟩
      have HB3 : Hid (Below w.heap.size w w3) := (boxW _ HB2.out).trans (hb3.mono (boxW _ HB2.out).size)
      clear hb3
      go_wp2_with fail
      go_ret
      exact ⟨rfl, HB3.out⟩
    · ((try clear b0 b1 b2 b3 b4); have b0 := box_cell HB2.out 0; have b1 := box_cell HB2.out 1; have b2 := box_cell HB2.out 2; have b3 := box_cell HB2.out 3; have b4 := box_cell HB2.out 4; (try simp at b0 b1 b2 b3 b4))
      go_wp2_with fail
      refine (HA0.out w2 (boxW _ HB2.out)).mono ?_
      rintro e w3 ⟨aN1, cN1, aR1, cR1, rfl, hN1, hR1, hb3⟩
      have HB3 := Lib.hid (HB2.out.trans (hb3.mono hz2))
      have hz3 := HB3.out.size
      simp only [World.size_alloc] at hz3
      have HN1 := Lib.hid hN1
      have HR1 := Lib.hid hR1
      clear hb3 hN1 hR1
      ((try clear b0 b1 b2 b3 b4); have b0 := fun o => box_cell (Below.alloc HB3.out hz3 o) 0; have b1 := fun o => box_cell (Below.alloc HB3.out hz3 o) 1; have b2 := fun o => box_cell (Below.alloc HB3.out hz3 o) 2; have b3 := fun o => box_cell (Below.alloc HB3.out hz3 o) 3; have b4 := fun o => box_cell (Below.alloc HB3.out hz3 o) 4; (try simp at b0 b1 b2 b3 b4))
      go_wp2_with fail
      refine (HR0.out _ ((boxW _ HB3.out).alloc (boxW _ HB3.out).size _)).mono ?_
      rintro e w4 ⟨aN2, cN2, aR2, cR2, rfl, hN2, hR2, hb4⟩
      have HB4 := Lib.hid ((HB3.out.alloc hz3 _).trans (hb4.mono (by simp; omega)))
      have hw1 := hh_below hb4 (hh_new rfl)
      have c0 := cell_of_blk hw1 0
      have c1 := cell_of_blk hw1 1
      simp at c0 c1
      have HK4 : Hid (Below w3.heap.size w3 w4) := ((Below.refl _ _).alloc (Nat.le_refl _) _).trans (hb4.mono (by simp))
      have hz4 := HK4.out.size
      have hlt3 : w3.heap.size < w4.heap.size := lt_of_block hw1
      have HN1 := Lib.hid (HN1.out.keep (keeps_of_below HK4.out))
      have HR1 := Lib.hid (HR1.out.keep (keeps_of_below HK4.out))
      have HN2 := Lib.hid hN2
      have HR2 := Lib.hid hR2
      clear hb4 hw1 hN2 hR2 b0 b1 b2 b3 b4
      have HSm : Hid (∀ W, Below w4.heap.size w4 W → Calls Tryz.prog 19 #[.agg #[.slice aN1 N.length cN1, .slice aR1 R.length cR1], .agg #[.slice aN2 N.length cN2, .slice aR2 R.length cR2]] W fun e w' => e = .returned (.bool true) ∧ Below W.heap.size W w') := fun W hW => HIn.out W _ _ _ _ _ _ _ _ (HN1.out.keep (keeps_of_below hW)) (HR1.out.keep (keeps_of_below hW)) (HN2.out.keep (keeps_of_below hW)) (HR2.out.keep (keeps_of_below hW))
      have d0 : ∀ o, (w4.alloc o).cell? ⟨w3.heap.size, 0, none⟩ = some (.slice aN1 N.length cN1) := fun o => (keeps_of_below ((Below.refl _ _).alloc (Nat.le_refl _) _)) _ _ c0
      have d1 : ∀ o, (w4.alloc o).cell? ⟨w3.heap.size, 1, none⟩ = some (.slice aR1 R.length cR1) := fun o => (keeps_of_below ((Below.refl _ _).alloc (Nat.le_refl _) _)) _ _ c1
      clear c0 c1
      go_wp2_with fail
      refine (HSm.out _ ((Below.refl _ _).alloc (Nat.le_refl _) _)).mono ?_
      rintro e w5 ⟨rfl, hb5⟩
      have HB5 : Hid (Below w.heap.size w w5) := ((boxW _ HB4.out).alloc (boxW _ HB4.out).size _).trans (hb5.mono (by have := (boxW _ HB4.out).size; simp; omega))
      clear hb5
      go_wp2_with fail
      (refine (HAw.out w5 (HB5.out)).mono ?_; rintro e wz ⟨rfl, hbz⟩; have HBz : Hid (Below w.heap.size w wz) := (HB5.out).trans (hbz.mono (HB5.out).size); clear hbz; go_wp2_with fail; go_ret; exact ⟨rfl, HBz.out⟩)
end Go.Proofs.YteaeemkodbodmaaGreatDoor
