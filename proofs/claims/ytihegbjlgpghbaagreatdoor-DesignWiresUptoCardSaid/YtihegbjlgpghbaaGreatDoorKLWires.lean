/- law31: DesignWires. -/
import Derived.Test.YtihegbjlgpghbaaGreatDoorEJ
set_option linter.unusedSimpArgs false
set_option linter.unusedVariables false
set_option linter.unnecessarySimpa false
namespace Go.Proofs.YtihegbjlgpghbaaGreatDoor
open Go.RowKit
attribute [local go_sem ↓] Go.wp_at_zero Go.wp_at_succ

set_option maxRecDepth 100000 in
set_option maxHeartbeats 8000000 in
theorem DesignWires_any (d : DesD) (x : DesA) (s : ByteArray) (w : World) (hE : DesIn w d x) (hs : DesSmall d) (hG : Glob w) :
    Calls Tryz.prog 5 #[desVal d x, .string s] w fun e w' => e = .returned (.bool true) ∧ Below w.heap.size w w' := by
  have HSm0 := Lib.hid (fun W (hW : Below w.heap.size w W) => Small_any d x W (hE.below hW) hs)
  have HA0 := Lib.hid (fun W (hW : Below w.heap.size w W) => (OrderV_any d x W (hE.below hW) hs (hG.below hW)).mono fun _ _ h => order_out h)
  have HB0 := Lib.hid (fun W (hW : Below w.heap.size w W) => (rOrderV_any d x W (hE.below hW) hs).mono fun _ _ h => order_out h)
  have HC0 := Lib.hid (fun W (hW : Below w.heap.size w W) => (dCone_any d x s W (hE.below hW) hs (hG.below hW)).mono fun _ _ h => cone_out h)
  have HK0 := Lib.hid (fun W (hW : Below w.heap.size w W) => (rConeP_any d x s W (hE.below hW) hs).mono fun _ _ h => cone_out h)
  have HAw := Lib.hid (fun W (hW : Below w.heap.size w W) => awake31_any W (hG.below hW))
  have HU : Hid (∀ C ce C2 ce2, ConeR d s C ce → ConeR d s C2 ce2 → C2 = C ∧ ce2 = ce) := fun C ce C2 ce2 h1 h2 => h1.unique h2
  unfold BoolRet at HSm0
  generalize ConeR d s = CR at HC0 HK0 HU
  generalize ordL d = L at HA0 HB0
  generalize d.err = er at HA0 HB0
  clear hE hs hG
  simp only [desVal, desVals] at HSm0 HA0 HB0 HC0 HK0 ⊢
  have HSm := Lib.hid (HSm0.out (w.alloc (.cells #[.string d.name, .slice x.ai d.inputs.length x.ci, .slice x.aw d.wires.length x.cw, .slice x.ar d.regs.length x.cr, .slice x.ao d.outputs.length x.co] 27)) ((Below.refl _ _).alloc (Nat.le_refl _) _))
  clear HSm0
  go_enter Tryz.func5, Tryz.ntmps5
  go_wp2_with fail
  refine HSm.out.mono ?_
  rintro e w1 ⟨⟨b, rfl⟩, hb1⟩
  simp only [World.size_alloc] at hb1
  have HB1 := Lib.hid hb1
  have hz1 := hb1.size
  simp only [World.size_alloc] at hz1
  clear hb1
  cases b
  · go_wp2_with fail
    (refine (HAw.out w1 (boxW _ HB1.out)).mono ?_; rintro e wz ⟨rfl, hbz⟩; have HBz : Hid (Below w.heap.size w wz) := (boxW _ HB1.out).trans (hbz.mono (boxW _ HB1.out).size); clear hbz; go_wp2_with fail; go_ret; exact ⟨rfl, HBz.out⟩)
  · ((try clear b0 b1 b2 b3 b4); have b0 := box_cell HB1.out 0; have b1 := box_cell HB1.out 1; have b2 := box_cell HB1.out 2; have b3 := box_cell HB1.out 3; have b4 := box_cell HB1.out 4; (try simp at b0 b1 b2 b3 b4))
    go_wp2_with fail
    refine (HA0.out w1 (boxW _ HB1.out)).mono ?_
    rintro e w2 ⟨⟨a1, c1, rfl, hI1⟩, hb2⟩
    have HB2 := Lib.hid (HB1.out.trans (hb2.mono hz1))
    have HI1 := Lib.hid hI1
    have hz2 := HB2.out.size
    simp only [World.size_alloc] at hz2
    clear hb2 hI1
    ((try clear b0 b1 b2 b3 b4); have b0 := box_cell HB2.out 0; have b1 := box_cell HB2.out 1; have b2 := box_cell HB2.out 2; have b3 := box_cell HB2.out 3; have b4 := box_cell HB2.out 4; (try simp at b0 b1 b2 b3 b4))
    go_wp2_with fail
    refine (HB0.out w2 (boxW _ HB2.out)).mono ?_
    rintro e w3 ⟨⟨a2, c2, rfl, hI2⟩, hb3⟩
    have HB3 := Lib.hid (HB2.out.trans (hb3.mono hz2))
    have HI1 := Lib.hid (HI1.out.keep (keeps_of_below hb3))
    have HI2 := Lib.hid hI2
    have hz3 := HB3.out.size
    simp only [World.size_alloc] at hz3
    have hll := hI2.2.1
    clear hb3 hI2 b0 b1 b2 b3 b4 HA0 HB0
    go_wp2_with fail
    go_loopw [9] (fun i wr => ∃ k : Nat, i = .int .i64 k ∧ k ≤ L.length ∧ Hid (Below w3.heap.size w3 wr)) (fun i _ => L.length - (intOf i).toNat)
    case atStart => exact ⟨0, rfl, Nat.zero_le _, Below.refl _ _⟩
    case round =>
      obtain ⟨k, rfl, hk, HBr⟩ := hrel
      by_cases hlt : k < L.length
      · obtain ⟨p1, o1, ha1⟩ := (SliceIn.addr HI1.out).resolve_left (by omega)
        obtain ⟨p2, o2, ha2⟩ := (SliceIn.addr HI2.out).resolve_left (by omega)
        subst ha1 ha2
        have u0 := (keeps_of_below HBr.out) _ _ (intsIn_get HI1.out rfl hlt)
        have u1 := (keeps_of_below HBr.out) _ _ (intsIn_get HI2.out rfl hlt)
        have hc1 := HI1.out.1
        have hc2 := HI2.out.1
        generalize (L[k]'hlt) = v at u0 u1
        go_wp2_with fail
        go_region
        all_goals
          go_wp2_with fail
          go_roundw
          case rel => exact ⟨k + 1, by go_num, by omega, Below.drew HBr.out⟩
          case measure => (simp [intOf]; try omega)
      · obtain rfl : k = L.length := by omega
        have HB3 := Lib.hid (HB3.out.trans (HBr.out.mono hz3))
        have hz3 := HB3.out.size
        simp only [World.size_alloc] at hz3
        rename World => wl
        ((try clear b0 b1 b2 b3 b4); have b0 := box_cell HB3.out 0; have b1 := box_cell HB3.out 1; have b2 := box_cell HB3.out 2; have b3 := box_cell HB3.out 3; have b4 := box_cell HB3.out 4; (try simp at b0 b1 b2 b3 b4))
        go_wp2_with fail
        refine (HC0.out wl (boxW _ HB3.out)).mono ?_
        rintro e w4 ⟨⟨C, ce, a4, c4, rfl, hS4, hR4⟩, hb4⟩
        have HB4 := Lib.hid (HB3.out.trans (hb4.mono hz3))
        have HS4 := Lib.hid hS4
        have hz4 := HB4.out.size
        simp only [World.size_alloc] at hz4
        have HU4 := Lib.hid (fun C2 ce2 => HU.out C ce C2 ce2 hR4)
        clear hb4 hS4 hR4 HU
        ((try clear b0 b1 b2 b3 b4); have b0 := box_cell HB4.out 0; have b1 := box_cell HB4.out 1; have b2 := box_cell HB4.out 2; have b3 := box_cell HB4.out 3; have b4 := box_cell HB4.out 4; (try simp at b0 b1 b2 b3 b4))
        go_wp2_with fail
        refine (HK0.out w4 (boxW _ HB4.out)).mono ?_
        rintro e w5 ⟨⟨C2, ce2, a5, c5, rfl, hS5, hR5⟩, hb5⟩
        obtain ⟨hC, hce⟩ := HU4.out C2 ce2 hR5
        subst hC hce
        have HB5 := Lib.hid (HB4.out.trans (hb5.mono hz4))
        have HT := Lib.hid (texts31_any C2 a4 a5 c4 c5 w5 (HS4.out.keep (keeps_of_below hb5)) hS5)
        clear hb5 hS5 hR5 b0 b1 b2 b3 b4 HU4
        have hee : (ce2 == ce2) = true := by simp
        go_wp2_with fail
        refine HT.out.mono ?_
        rintro e w6 ⟨rfl, hb6⟩
        have HB6 := Lib.hid ((boxW _ HB5.out).trans (hb6.mono (boxW _ HB5.out).size))
        clear hb6
        go_wp2_with fail
        (refine (HAw.out w6 (HB6.out)).mono ?_; rintro e wz ⟨rfl, hbz⟩; have HBz : Hid (Below w.heap.size w wz) := (HB6.out).trans (hbz.mono (HB6.out).size); clear hbz; go_wp2_with fail; go_ret; exact ⟨rfl, HBz.out⟩)
end Go.Proofs.YtihegbjlgpghbaaGreatDoor
