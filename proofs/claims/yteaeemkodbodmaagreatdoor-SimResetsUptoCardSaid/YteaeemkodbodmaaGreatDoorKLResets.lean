/- law32: SimResets. -/
import Derived.Test.YteaeemkodbodmaaGreatDoorDX
set_option linter.unusedSimpArgs false
set_option linter.unusedVariables false
set_option linter.unnecessarySimpa false
namespace Go.Proofs.YteaeemkodbodmaaGreatDoor
open Go.RowKit
attribute [local go_sem ↓] Go.wp_at_zero Go.wp_at_succ

set_option maxRecDepth 100000 in
set_option maxHeartbeats 8000000 in
theorem SimResets_any (d : DesD) (x : DesA) (w : World) (hE : DesIn w d x) (hs : DesSmall d) (hG : Glob w) :
    Calls Tryz.prog 3 #[desVal d x] w fun e w' => e = .returned (.bool true) ∧ Below w.heap.size w w' := by
  have HFw0 := Lib.hid (fun W (hW : Below w.heap.size w W) => Few32_any d x W (hE.below hW))
  unfold FewPost at HFw0
  have HA0 := Lib.hid (fun W (hW : Below w.heap.size w W) => (Reset_any d x W (hE.below hW) hs (hG.below hW)).mono fun _ _ h => h.out)
  have HR0 := Lib.hid (fun W (hW : Below w.heap.size w W) => (rReset_any d x W (hE.below hW) hs (hG.below hW)).mono fun _ _ h => h.out)
  have HAw := Lib.hid (fun W (hW : Below w.heap.size w W) => awake32_any W (hG.below hW))
  have HIn := Lib.hid (fun W aa ca ab cb (hA : IntsIn W (resetL d) aa ca) (hB : IntsIn W (resetL d) ab cb) => sameInts_eq (resetL d) aa ca ab cb W hA hB)
  have HSt : Hid (d.err = 0 → ∀ W, Below w.heap.size w W → ∀ a c, IntsIn W (resetL d) a c → Calls Tryz.prog 15 #[desVal d x, .slice a (resetL d).length c] W fun e w' => e = .returned (.bool true) ∧ Below W.heap.size W w') := fun h0 W hW a c hA => (State_any d x (resetL d) a c W (hE.below hW) hA).mono fun e w' h => by
    have hr : resetL d = d.inits := if_pos h0
    have h1 : d.stateB (resetL d) = true := by rw [hr]; exact inits_state (desOk_of_err h0)
    rw [h1] at h
    exact h
  generalize resetL d = L at HA0 HR0 HIn HSt
  generalize FewD d = Fd at HFw0
  generalize d.err = er at HA0 HR0 HSt
  clear hE hs hG
  simp only [desVal, desVals] at HFw0 HA0 HR0 HSt ⊢
  have HFw := Lib.hid (HFw0.out (w.alloc (.cells #[.string d.name, .slice x.ai d.inputs.length x.ci, .slice x.aw d.wires.length x.cw, .slice x.ar d.regs.length x.cr, .slice x.ao d.outputs.length x.co] 27)) ((Below.refl _ _).alloc (Nat.le_refl _) _))
  clear HFw0
  have hee : (er == er) = true := by simp
  by_cases he : er = 0
  all_goals
    first | (subst he; have HSt2 := Lib.hid (HSt.out rfl)) | (have hne : (er != 0) = true := by simpa using he)
    (try clear HSt)
    (try clear he)
    go_enter Tryz.func3, Tryz.ntmps3
    go_wp2_with fail
    refine HFw.out.mono ?_
    rintro e w1 ⟨⟨b, rfl, hbf⟩, hb1⟩
    simp only [World.size_alloc] at hb1
    have HB1 := Lib.hid hb1
    have hz1 := hb1.size
    simp only [World.size_alloc] at hz1
    clear hb1 hbf
    cases b
    · go_wp2_with fail
      refine (HAw.out w1 (boxW _ HB1.out)).mono ?_
      rintro e w2 ⟨rfl, hb2⟩
      have HB2 : Hid (Below w.heap.size w w2) := (boxW _ HB1.out).trans (hb2.mono (boxW _ HB1.out).size)
      clear hb2
      go_wp2_with fail
      go_ret
      exact ⟨rfl, HB2.out⟩
    · ((try clear b0 b1 b2 b3 b4); have b0 := box_cell HB1.out 0; have b1 := box_cell HB1.out 1; have b2 := box_cell HB1.out 2; have b3 := box_cell HB1.out 3; have b4 := box_cell HB1.out 4; (try simp at b0 b1 b2 b3 b4))
      go_wp2_with fail
      refine (HA0.out w1 (boxW _ HB1.out)).mono ?_
      rintro e w2 ⟨a1, c1, rfl, hI1, hb2⟩
      have HB2 := Lib.hid (HB1.out.trans (hb2.mono hz1))
      have HI1 := Lib.hid hI1
      have hz2 := HB2.out.size
      simp only [World.size_alloc] at hz2
      clear hb2 hI1
      ((try clear b0 b1 b2 b3 b4); have b0 := box_cell HB2.out 0; have b1 := box_cell HB2.out 1; have b2 := box_cell HB2.out 2; have b3 := box_cell HB2.out 3; have b4 := box_cell HB2.out 4; (try simp at b0 b1 b2 b3 b4))
      go_wp2_with fail
      refine (HR0.out w2 (boxW _ HB2.out)).mono ?_
      rintro e w3 ⟨a2, c2, rfl, hI2, hb3⟩
      have HB3 := Lib.hid (HB2.out.trans (hb3.mono hz2))
      have HI1 := Lib.hid (HI1.out.keep (keeps_of_below hb3))
      have HIc := Lib.hid (HIn.out w3 _ _ _ _ HI1.out hI2)
      have hz3 := HB3.out.size
      simp only [World.size_alloc] at hz3
      clear hb3 hI2
      ((try clear b0 b1 b2 b3 b4); have b0 := box_cell HB3.out 0; have b1 := box_cell HB3.out 1; have b2 := box_cell HB3.out 2; have b3 := box_cell HB3.out 3; have b4 := box_cell HB3.out 4; (try simp at b0 b1 b2 b3 b4))
      go_wp2_with fail
      refine HIc.out.mono ?_
      rintro e w4 ⟨rfl, hb4⟩
      have HB4 := Lib.hid (HB3.out.trans (hb4.mono hz3))
      have HI1 := Lib.hid (HI1.out.keep (keeps_of_below hb4))
      have hz4 := HB4.out.size
      simp only [World.size_alloc] at hz4
      clear hb4
      ((try clear b0 b1 b2 b3 b4); have b0 := box_cell HB4.out 0; have b1 := box_cell HB4.out 1; have b2 := box_cell HB4.out 2; have b3 := box_cell HB4.out 3; have b4 := box_cell HB4.out 4; (try simp at b0 b1 b2 b3 b4))
      go_wp2_with fail
      (try (refine (HSt2.out w4 (boxW _ HB4.out) _ _ HI1.out).mono ?_
            rintro e w5 ⟨rfl, hb5⟩
            have HB5 : Hid (Below w.heap.size w w5) := (boxW _ HB4.out).trans (hb5.mono (boxW _ HB4.out).size)
            clear hb5
            go_wp2_with fail))
      first
      | (refine (HAw.out _ HB5.out).mono ?_
         rintro e w6 ⟨rfl, hb6⟩
         have HB6 : Hid (Below w.heap.size w w6) := HB5.out.trans (hb6.mono HB5.out.size)
         clear hb6
         go_wp2_with fail
         go_ret
         exact ⟨rfl, HB6.out⟩)
      | (refine (HAw.out _ (boxW _ HB4.out)).mono ?_
         rintro e w6 ⟨rfl, hb6⟩
         have HB6 : Hid (Below w.heap.size w w6) := (boxW _ HB4.out).trans (hb6.mono (boxW _ HB4.out).size)
         clear hb6
         go_wp2_with fail
         go_ret
         exact ⟨rfl, HB6.out⟩)
end Go.Proofs.YteaeemkodbodmaaGreatDoor
