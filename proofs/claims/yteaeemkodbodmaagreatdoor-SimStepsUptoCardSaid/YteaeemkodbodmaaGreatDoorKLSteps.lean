/- law32: SimSteps. -/
import Derived.Test.YteaeemkodbodmaaGreatDoorDX
set_option linter.unusedSimpArgs false
set_option linter.unusedVariables false
set_option linter.unnecessarySimpa false
namespace Go.Proofs.YteaeemkodbodmaaGreatDoor
open Go.RowKit
attribute [local go_sem ↓] Go.wp_at_zero Go.wp_at_succ

set_option maxRecDepth 100000 in
set_option maxHeartbeats 8000000 in
theorem SimSteps_any (d : DesD) (x : DesA) (l : List Int) (al : Option Addr) (cl : Nat) (inp : Sigs) (aI : Option Addr) (cI : Nat) (w : World) (hE : DesIn w d x) (hs : DesSmall d) (hL : IntsIn w l al cl) (hI : SigsIn w inp aI cI) (hG : Glob w) :
    Calls Tryz.prog 9 #[desVal d x, .slice al l.length cl, .slice aI inp.length cI] w fun e w' => e = .returned (.bool true) ∧ Below w.heap.size w w' := by
  have HFw0 := Lib.hid (fun W (hW : Below w.heap.size w W) => Few32_any d x W (hE.below hW))
  unfold FewPost at HFw0
  have HA0 := Lib.hid (fun W (hW : Below w.heap.size w W) => (Settle_any d x l al cl inp aI cI W (hE.below hW) hs (hL.keep (keeps_of_below hW)) (hI.keep (keeps_of_below hW)) (hG.below hW)).mono fun _ _ h => h.out)
  have HR0 := Lib.hid (fun W (hW : Below w.heap.size w W) => (rSettle_any d x l al cl inp aI cI W (hE.below hW) hs (hL.keep (keeps_of_below hW)) (hI.keep (keeps_of_below hW))).mono fun _ _ h => h.out)
  have HA1 := Lib.hid (fun W (hW : Below w.heap.size w W) => (Step_any d x l al cl inp aI cI W (hE.below hW) hs (hL.keep (keeps_of_below hW)) (hI.keep (keeps_of_below hW)) (hG.below hW)).mono fun _ _ h => h.out)
  have HR1 := Lib.hid (fun W (hW : Below w.heap.size w W) => (rStep_any d x l al cl inp aI cI W (hE.below hW) hs (hL.keep (keeps_of_below hW)) (hI.keep (keeps_of_below hW))).mono fun _ _ h => h.out)
  have HAw := Lib.hid (fun W (hW : Below w.heap.size w W) => awake32_any W (hG.below hW))
  have HIn := Lib.hid (fun W aa ca ab cb (hA : IntsIn W (sNext d l inp) aa ca) (hB : IntsIn W (sNext d l inp) ab cb) => sameInts_eq (sNext d l inp) aa ca ab cb W hA hB)
  have HSg := Lib.hid (fun W aa ca ab cb (hA : SigsIn W (sSig d l inp) aa ca) (hB : SigsIn W (sSig d l inp) ab cb) => sameSigs_eq (sSig d l inp) aa ca ab cb W hA hB)
  have hll := hL.2.1
  have hli := hI.2.1
  generalize sNext d l inp = N at HA1 HR1 HIn
  generalize sSig d l inp = S at HA0 HR0 HA1 HR1 HSg
  generalize sErr d l = er at HA0 HR0 HA1 HR1
  generalize FewD d = Fd at HFw0
  clear hE hs hG hL hI
  simp only [desVal, desVals] at HFw0 HA0 HR0 HA1 HR1 ⊢
  have HFw := Lib.hid (HFw0.out (w.alloc (.cells #[.string d.name, .slice x.ai d.inputs.length x.ci, .slice x.aw d.wires.length x.cw, .slice x.ar d.regs.length x.cr, .slice x.ao d.outputs.length x.co] 27)) ((Below.refl _ _).alloc (Nat.le_refl _) _))
  clear HFw0
  have hee : (er == er) = true := by simp
  rcases Nat.lt_or_ge 20 l.length with q1 | q1
  · have d1 : decide ((20 : Int) < (l.length : Int)) = true := by simp; omega
    go_enter Tryz.func9, Tryz.ntmps9
    go_wp2_with fail
    refine HFw.out.mono ?_
    rintro e w1 ⟨⟨b, rfl, _⟩, hb1⟩
    simp only [World.size_alloc] at hb1
    have HB1 := Lib.hid hb1
    clear hb1
    cases b
    all_goals
      go_wp2_with fail
      (refine (HAw.out w1 (boxW _ HB1.out)).mono ?_; rintro e wz ⟨rfl, hbz⟩; have HBz : Hid (Below w.heap.size w wz) := (boxW _ HB1.out).trans (hbz.mono (boxW _ HB1.out).size); clear hbz; go_wp2_with fail; go_ret; exact ⟨rfl, HBz.out⟩)
  · have d1 : decide ((20 : Int) < (l.length : Int)) = false := by simp; omega
    rcases Nat.lt_or_ge 30 inp.length with q2 | q2
    · have d2 : decide ((30 : Int) < (inp.length : Int)) = true := by simp; omega
      go_enter Tryz.func9, Tryz.ntmps9
      go_wp2_with fail
      refine HFw.out.mono ?_
      rintro e w1 ⟨⟨b, rfl, _⟩, hb1⟩
      simp only [World.size_alloc] at hb1
      have HB1 := Lib.hid hb1
      clear hb1
      cases b
      all_goals
        go_wp2_with fail
        (refine (HAw.out w1 (boxW _ HB1.out)).mono ?_; rintro e wz ⟨rfl, hbz⟩; have HBz : Hid (Below w.heap.size w wz) := (boxW _ HB1.out).trans (hbz.mono (boxW _ HB1.out).size); clear hbz; go_wp2_with fail; go_ret; exact ⟨rfl, HBz.out⟩)
    · have d2 : decide ((30 : Int) < (inp.length : Int)) = false := by simp; omega
      go_enter Tryz.func9, Tryz.ntmps9
      go_wp2_with fail
      refine HFw.out.mono ?_
      rintro e w1 ⟨⟨b, rfl, _⟩, hb1⟩
      simp only [World.size_alloc] at hb1
      have HB1 := Lib.hid hb1
      have hz1 := hb1.size
      simp only [World.size_alloc] at hz1
      clear hb1
      cases b
      · go_wp2_with fail
        (refine (HAw.out w1 (boxW _ HB1.out)).mono ?_; rintro e wz ⟨rfl, hbz⟩; have HBz : Hid (Below w.heap.size w wz) := (boxW _ HB1.out).trans (hbz.mono (boxW _ HB1.out).size); clear hbz; go_wp2_with fail; go_ret; exact ⟨rfl, HBz.out⟩)
      · ((try clear b0 b1 b2 b3 b4); have b0 := box_cell HB1.out 0; have b1 := box_cell HB1.out 1; have b2 := box_cell HB1.out 2; have b3 := box_cell HB1.out 3; have b4 := box_cell HB1.out 4; (try simp at b0 b1 b2 b3 b4))
        go_wp2_with fail
        refine (HA0.out w1 (boxW _ HB1.out)).mono ?_
        rintro e w2 ⟨a1, c1, rfl, hS1, hb2⟩
        have HB2 := Lib.hid (HB1.out.trans (hb2.mono hz1))
        have hz2 := HB2.out.size
        simp only [World.size_alloc] at hz2
        have HS1 := Lib.hid hS1
        clear hS1
        clear hb2
        ((try clear b0 b1 b2 b3 b4); have b0 := box_cell HB2.out 0; have b1 := box_cell HB2.out 1; have b2 := box_cell HB2.out 2; have b3 := box_cell HB2.out 3; have b4 := box_cell HB2.out 4; (try simp at b0 b1 b2 b3 b4))
        go_wp2_with fail
        refine (HR0.out w2 (boxW _ HB2.out)).mono ?_
        rintro e w3 ⟨a2, c2, rfl, hS2, hb3⟩
        have HB3 := Lib.hid (HB2.out.trans (hb3.mono hz2))
        have hz3 := HB3.out.size
        simp only [World.size_alloc] at hz3
        have HS1 := Lib.hid (HS1.out.keep (keeps_of_below hb3))
        have HS2 := Lib.hid hS2
        clear hS2
        clear hb3
        ((try clear b0 b1 b2 b3 b4); have b0 := box_cell HB3.out 0; have b1 := box_cell HB3.out 1; have b2 := box_cell HB3.out 2; have b3 := box_cell HB3.out 3; have b4 := box_cell HB3.out 4; (try simp at b0 b1 b2 b3 b4))
        go_wp2_with fail
        refine (HA1.out w3 (boxW _ HB3.out)).mono ?_
        rintro e w4 ⟨an1, cn1, a3, c3, rfl, hN1, hS3, hb4⟩
        have HB4 := Lib.hid (HB3.out.trans (hb4.mono hz3))
        have hz4 := HB4.out.size
        simp only [World.size_alloc] at hz4
        have HS1 := Lib.hid (HS1.out.keep (keeps_of_below hb4))
        have HS2 := Lib.hid (HS2.out.keep (keeps_of_below hb4))
        have HN1 := Lib.hid hN1
        have HS3 := Lib.hid hS3
        clear hN1 hS3
        clear hb4
        ((try clear b0 b1 b2 b3 b4); have b0 := box_cell HB4.out 0; have b1 := box_cell HB4.out 1; have b2 := box_cell HB4.out 2; have b3 := box_cell HB4.out 3; have b4 := box_cell HB4.out 4; (try simp at b0 b1 b2 b3 b4))
        go_wp2_with fail
        refine (HR1.out w4 (boxW _ HB4.out)).mono ?_
        rintro e w5 ⟨an2, cn2, a4, c4, rfl, hN2, hS4, hb5⟩
        have HB5 := Lib.hid (HB4.out.trans (hb5.mono hz4))
        have hz5 := HB5.out.size
        simp only [World.size_alloc] at hz5
        have HS1 := Lib.hid (HS1.out.keep (keeps_of_below hb5))
        have HS2 := Lib.hid (HS2.out.keep (keeps_of_below hb5))
        have HS3 := Lib.hid (HS3.out.keep (keeps_of_below hb5))
        have HN1 := Lib.hid (HN1.out.keep (keeps_of_below hb5))
        have HC1 := Lib.hid (fun W (hW : Below w5.heap.size w5 W) => HSg.out W _ _ _ _ (HS1.out.keep (keeps_of_below hW)) (HS2.out.keep (keeps_of_below hW)))
        have HC2 := Lib.hid (fun W (hW : Below w5.heap.size w5 W) => HIn.out W _ _ _ _ (HN1.out.keep (keeps_of_below hW)) (hN2.keep (keeps_of_below hW)))
        have HC3 := Lib.hid (fun W (hW : Below w5.heap.size w5 W) => HSg.out W _ _ _ _ (HS3.out.keep (keeps_of_below hW)) (hS4.keep (keeps_of_below hW)))
        have HC4 := Lib.hid (fun W (hW : Below w5.heap.size w5 W) => HSg.out W _ _ _ _ (HS3.out.keep (keeps_of_below hW)) (HS1.out.keep (keeps_of_below hW)))
        clear hN2 hS4
        clear hb5
        ((try clear b0 b1 b2 b3 b4); have b0 := box_cell HB5.out 0; have b1 := box_cell HB5.out 1; have b2 := box_cell HB5.out 2; have b3 := box_cell HB5.out 3; have b4 := box_cell HB5.out 4; (try simp at b0 b1 b2 b3 b4))
        go_wp2_with fail
        refine (HC1.out w5 (Below.refl _ _)).mono ?_
        rintro e w6 ⟨rfl, hb6⟩
        have HK6 : Hid (Below w5.heap.size w5 w6) := hb6
        clear hb6
        go_wp2_with fail
        refine (HC2.out w6 HK6.out).mono ?_
        rintro e w7 ⟨rfl, hb7⟩
        have HK7 : Hid (Below w5.heap.size w5 w7) := HK6.out.trans (hb7.mono HK6.out.size)
        clear hb7
        go_wp2_with fail
        refine (HC3.out w7 HK7.out).mono ?_
        rintro e w8 ⟨rfl, hb8⟩
        have HK8 : Hid (Below w5.heap.size w5 w8) := HK7.out.trans (hb8.mono HK7.out.size)
        clear hb8
        go_wp2_with fail
        refine (HC4.out w8 HK8.out).mono ?_
        rintro e w9 ⟨rfl, hb9⟩
        have HK9 : Hid (Below w5.heap.size w5 w9) := HK8.out.trans (hb9.mono HK8.out.size)
        clear hb9
        go_wp2_with fail
        have HBf : Hid (Below w.heap.size w w9) := (boxW _ HB5.out).trans (HK9.out.mono (boxW _ HB5.out).size)
        (refine (HAw.out w9 (HBf.out)).mono ?_; rintro e wz ⟨rfl, hbz⟩; have HBz : Hid (Below w.heap.size w wz) := (HBf.out).trans (hbz.mono (HBf.out).size); clear hbz; go_wp2_with fail; go_ret; exact ⟨rfl, HBz.out⟩)
end Go.Proofs.YteaeemkodbodmaaGreatDoor
