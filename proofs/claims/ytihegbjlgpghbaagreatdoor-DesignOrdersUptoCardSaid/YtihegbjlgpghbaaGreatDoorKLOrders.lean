/- law31: DesignOrders. -/
import Derived.Test.YtihegbjlgpghbaaGreatDoorEJ
set_option linter.unusedSimpArgs false
set_option linter.unusedVariables false
set_option linter.unnecessarySimpa false
namespace Go.Proofs.YtihegbjlgpghbaaGreatDoor
open Go.RowKit
attribute [local go_sem ↓] Go.wp_at_zero Go.wp_at_succ

set_option maxRecDepth 100000 in
set_option maxHeartbeats 8000000 in
theorem DesignOrders_any (d : DesD) (x : DesA) (w : World) (hE : DesIn w d x) (hs : DesSmall d) (hG : Glob w) :
    Calls Tryz.prog 7 #[desVal d x] w fun e w' => e = .returned (.bool true) ∧ Below w.heap.size w w' := by
  have HSm0 := Lib.hid (fun W (hW : Below w.heap.size w W) => Small_any d x W (hE.below hW) hs)
  have HA0 := Lib.hid (fun W (hW : Below w.heap.size w W) => (OrderV_any d x W (hE.below hW) hs (hG.below hW)).mono fun _ _ h => order_out h)
  have HV0 := Lib.hid (fun W (hW : Below w.heap.size w W) => ValidD_any d x W (hE.below hW) hs (hG.below hW))
  have HF0 := Lib.hid (fun i bd out W (hW : Below w.heap.size w W) (hi : i < d.wires.length) (hD : DoneRow W bd d.wires.length out) => free_any d x i bd out W (hE.below hW) hs hi hD)
  have HAw := Lib.hid (fun W (hW : Below w.heap.size w W) => awake31_any W (hG.below hW))
  have hn : d.wires.length ≤ 1048576 := hs.len.2.1
  have hwc := hE.wires.1
  have HOz : Hid (¬ d.err = 0 → (ordL d) = []) := fun h => by unfold ordL; rw [if_neg h]
  have HOr : Hid (d.err = 0 → ∃ O : List Nat, ordL d = natI O ∧ O.length = d.wires.length ∧ ∀ i (hi : i < O.length), (O[i]'hi) < d.wires.length ∧ (O.take i).contains (O[i]'hi) = false ∧ readyB d.needs (O.take i) (O[i]'hi) = true ∧ ∀ j, j < (O[i]'hi) → (O.take i).contains j = true ∨ readyB d.needs (O.take i) j = false) := fun h =>
    ⟨d.order, by unfold ordL; rw [if_pos h], (desOk_of_err h).order, fun i hi => by obtain ⟨h1, h2, h3, h4⟩ := ord_at h hi; exact ⟨h1, h2, h3, h4⟩⟩
  unfold BoolRet at HSm0
  generalize ordL d = L at HA0 HOz HOr
  generalize d.err = er at HA0 HV0 HOz HOr
  clear hE hs hG
  simp only [desVal, desVals] at HSm0 HA0 HV0 HF0 ⊢
  have HSm := Lib.hid (HSm0.out (w.alloc (.cells #[.string d.name, .slice x.ai d.inputs.length x.ci, .slice x.aw d.wires.length x.cw, .slice x.ar d.regs.length x.cr, .slice x.ao d.outputs.length x.co] 27)) ((Below.refl _ _).alloc (Nat.le_refl _) _))
  clear HSm0
  go_enter Tryz.func7, Tryz.ntmps7
  go_wp2_with fail
  refine HSm.out.mono ?_
  rintro e w1 ⟨⟨b, rfl⟩, hb1⟩
  simp only [World.size_alloc] at hb1
  have HB1 := Lib.hid hb1
  have hz1 := hb1.size
  simp only [World.size_alloc] at hz1
  clear hb1
  cases b
  · go_wp2_with fail
    (refine (HAw.out w1 (boxW _ HB1.out)).mono ?_; rintro e wz ⟨rfl, hbz⟩; have HBz : Hid (Below w.heap.size w wz) := (boxW _ HB1.out).trans (hbz.mono (boxW _ HB1.out).size); clear hbz; go_wp2_with fail; go_ret; exact ⟨rfl, HBz.out⟩)
  · ((try clear b0 b1 b2 b3 b4); have b0 := box_cell HB1.out 0; have b1 := box_cell HB1.out 1; have b2 := box_cell HB1.out 2; have b3 := box_cell HB1.out 3; have b4 := box_cell HB1.out 4; (try simp at b0 b1 b2 b3 b4))
    go_wp2_with fail
    refine (HA0.out w1 (boxW _ HB1.out)).mono ?_
    rintro e w2 ⟨⟨a1, c1, rfl, hI1⟩, hb2⟩
    have HB2 := Lib.hid (HB1.out.trans (hb2.mono hz1))
    have HI1 := Lib.hid hI1
    have hz2 := HB2.out.size
    simp only [World.size_alloc] at hz2
    clear hb2 hI1
    ((try clear b0 b1 b2 b3 b4); have b0 := box_cell HB2.out 0; have b1 := box_cell HB2.out 1; have b2 := box_cell HB2.out 2; have b3 := box_cell HB2.out 3; have b4 := box_cell HB2.out 4; (try simp at b0 b1 b2 b3 b4))
    by_cases he : er = 0
    rotate_left
    · have hL := HOz.out he
      subst hL
      have hne : (er != 0) = true := by simpa using he
      have hee : (er == er) = true := by simp
      clear HOr HOz he
      go_wp2_with fail
      refine (HV0.out w2 (boxW _ HB2.out)).mono ?_
      rintro e w3 ⟨rfl, hb3⟩
      have HB3 := Lib.hid (HB2.out.trans (hb3.mono hz2))
      clear hb3
      go_wp2_with fail
      (refine (HAw.out w3 (boxW _ HB3.out)).mono ?_; rintro e wz ⟨rfl, hbz⟩; have HBz : Hid (Below w.heap.size w wz) := (boxW _ HB3.out).trans (hbz.mono (boxW _ HB3.out).size); clear hbz; go_wp2_with fail; go_ret; exact ⟨rfl, HBz.out⟩)
    · obtain ⟨O, hL, hOl, hO⟩ := HOr.out he
      subst hL
      subst he
      have HO := Lib.hid hO
      clear HOr HOz hO
      rw [natI_len] at *
      generalize hnn : d.wires.length = n at *
      clear hnn
      have hmk := mk_bools n (by omega)
      have HFr := Lib.hid (frow_new w2 4 n (.bool false))
      have HBm : Hid (Below w2.heap.size w2 (w2.alloc (.cells (Array.replicate n (Value.bool false)) 4))) := (Below.refl _ _).alloc (Nat.le_refl _) _
      rw [show (List.replicate n (Value.bool false)).toArray = Array.replicate n (Value.bool false) by simp] at HFr
      go_wp2_with fail
      generalize hwm : (World.alloc w2 _) = wm at HFr HBm ⊢
      clear hwm hmk
      go_loopw [6] (fun i wr => ∃ k : Nat, i = .int .i64 k ∧ k ≤ n ∧ Hid (DoneRow wr w2.heap.size n (O.take k)) ∧ Hid (Below w2.heap.size w2 wr)) (fun i _ => n - (intOf i).toNat)
      case atStart => exact ⟨0, rfl, Nat.zero_le _, HFr, HBm⟩
      case round =>
        obtain ⟨k, rfl, hk, HDr, HBr⟩ := hrel
        have HBx := Lib.hid (HB2.out.trans (HBr.out.mono hz2))
        have hzr := HBr.out.size
        by_cases hlt : k < n
        · obtain ⟨p1, o1, ha1⟩ := (SliceIn.addr HI1.out).resolve_left (by rw [natI_len]; omega)
          subst ha1
          have u0 := (keeps_of_below HBr.out) _ _ (intsIn_get HI1.out rfl (show k < (natI O).length by rw [natI_len]; omega))
          have hc1 := HI1.out.1
          rw [natI_len] at hc1
          obtain ⟨g1, g2, g3, g4⟩ := HO.out k (by omega)
          have hcell : (natI O)[k]'(by rw [natI_len]; omega) = (((O[k]'(by omega)) : Nat) : Int) := by simp [natI]
          rw [hcell] at u0
          have hTk : Hid (O.take (k + 1) = O.take k ++ [O[k]'(by omega)]) := List.take_succ_eq_append_getElem (by omega)
          generalize hq : (O[k]'(by omega)) = q at u0 g1 g2 g3 g4 hTk
          clear hq hcell
          have HG4 := Lib.hid g4
          have hd := HDr.out.cell g1
          rw [g2] at hd
          have HFq := Lib.hid (HF0.out q w2.heap.size (O.take k) wr (boxW _ HBx.out) g1 HDr.out)
          rw [g3] at HFq
          have HFj := Lib.hid (fun j W (hj : j < n) (hW : Below wr.heap.size wr W) => HF0.out j w2.heap.size (O.take k) W ((boxW _ HBx.out).trans (hW.mono (boxW _ HBx.out).size)) hj (HDr.out.keep hW))
          generalize hOk : O.take k = Ok at HDr HFj HG4 hTk
          clear hOk g4 g3 g2
          have qn1 : decide ((q : Int) < 0) = false := decide_eq_false (by omega)
          have qn2 : decide ((n : Int) ≤ (q : Int)) = false := decide_eq_false (by omega)
          have qn3 : (q : Int) < (n : Int) := by omega
          have qn4 : decide (n ≤ q) = false := decide_eq_false (by omega)
          ((try clear b0 b1 b2 b3 b4); have b0 := box_cell HBx.out 0; have b1 := box_cell HBx.out 1; have b2 := box_cell HBx.out 2; have b3 := box_cell HBx.out 3; have b4 := box_cell HBx.out 4; (try simp at b0 b1 b2 b3 b4))
          have HBxk := Lib.hid HBx.out
          go_wp2_with fail
          refine HFq.out.mono ?_
          rintro e w4 ⟨rfl, hb4⟩
          have HB4 := Lib.hid hb4
          clear hb4 hd HFq
          go_wp2_with fail
          go_loopw [8] (fun j wz => ∃ m : Nat, j = .int .i64 m ∧ m ≤ q ∧ Hid (Below wr.heap.size wr wz)) (fun j _ => q - (intOf j).toNat)
          case atStart => exact ⟨0, rfl, Nat.zero_le _, HB4⟩
          case round =>
            rename World => wz
            obtain ⟨m, rfl, hm, HBz⟩ := hrel
            have HBxz := Lib.hid (HBxk.out.trans (HBz.out.mono (by have := HBxk.out.size; simp at this; omega)))
            have HDz := Lib.hid (HDr.out.keep HBz.out)
            by_cases hlm : m < q
            · ((try clear b0 b1 b2 b3 b4); have b0 := box_cell HBxz.out 0; have b1 := box_cell HBxz.out 1; have b2 := box_cell HBxz.out 2; have b3 := box_cell HBxz.out 3; have b4 := box_cell HBxz.out 4; (try simp at b0 b1 b2 b3 b4))
              have d0 := HDz.out.cell (show m < n by omega)
              have hmn : (m : Int) < (n : Int) := by omega
              cases hc : Ok.contains m
              · rw [hc] at d0
                have hr : readyB d.needs Ok m = false := by
                  rcases HG4.out m hlm with h | h
                  · rw [hc] at h; simp at h
                  · exact h
                have HFm := Lib.hid (HFj.out m wz (by omega) HBz.out)
                rw [hr] at HFm
                clear hr hc
                go_wp2_with fail
                refine HFm.out.mono ?_
                rintro e wy ⟨rfl, hby⟩
                have HBy := Lib.hid (HBz.out.trans (hby.mono HBz.out.size))
                clear hby d0 b0 b1 b2 b3 b4
                go_wp2_with fail
                go_roundw
                case rel => exact ⟨m + 1, by go_num, by omega, HBy⟩
                case measure => (simp [intOf]; try omega)
              · rw [hc] at d0
                clear hc
                go_wp2_with fail
                go_roundw
                case rel => exact ⟨m + 1, by go_num, by omega, HBz⟩
                case measure => (simp [intOf]; try omega)
            · obtain rfl : m = q := by omega
              have d1 := HDz.out.cell g1
              have f1 := HDz.out.free m
              have hzz := HDz.out.lt
              have HD2 : Hid (DoneRow (wz.setCell ⟨w2.heap.size, m, none⟩ (.bool true)) w2.heap.size n (O.take (k + 1))) := by
                show DoneRow _ _ _ _
                rw [hTk.out]
                exact DoneRow.set (show DoneRow _ _ _ _ from HDz.out) g1
              have HB2z : Hid (Below w2.heap.size w2 (wz.setCell ⟨w2.heap.size, m, none⟩ (.bool true))) := (HBr.out.trans (HBz.out.mono HBr.out.size)).setCell (Nat.le_refl _) _
              go_wp2_with fail
              go_roundw
              case rel => exact ⟨k + 1, by go_num, by omega, HD2, HB2z⟩
              case measure => (simp [intOf]; try omega)
        · obtain rfl : k = n := by omega
          rename World => we
          have hzx := HBx.out.size
          simp only [World.size_alloc] at hzx
          ((try clear b0 b1 b2 b3 b4); have b0 := box_cell HBx.out 0; have b1 := box_cell HBx.out 1; have b2 := box_cell HBx.out 2; have b3 := box_cell HBx.out 3; have b4 := box_cell HBx.out 4; (try simp at b0 b1 b2 b3 b4))
          go_wp2_with fail
          refine (HV0.out we (boxW _ HBx.out)).mono ?_
          rintro e w5 ⟨rfl, hb5⟩
          have HB5 := Lib.hid (HBx.out.trans (hb5.mono hzx))
          clear hb5
          go_wp2_with fail
          (refine (HAw.out w5 (boxW _ HB5.out)).mono ?_; rintro e wz ⟨rfl, hbz⟩; have HBz : Hid (Below w.heap.size w wz) := (boxW _ HB5.out).trans (hbz.mono (boxW _ HB5.out).size); clear hbz; go_wp2_with fail; go_ret; exact ⟨rfl, HBz.out⟩)
end Go.Proofs.YtihegbjlgpghbaaGreatDoor
