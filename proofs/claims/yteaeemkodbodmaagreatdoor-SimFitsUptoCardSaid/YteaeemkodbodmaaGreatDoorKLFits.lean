/- law32: SimFits. -/
import Derived.Test.YteaeemkodbodmaaGreatDoorDX
import Derived.Test.YteaeemkodbodmaaGreatDoorDZ
import Derived.Test.YteaeemkodbodmaaGreatDoorKWidth
set_option linter.unusedSimpArgs false
set_option linter.unusedVariables false
set_option linter.unnecessarySimpa false
namespace Go.Proofs.YteaeemkodbodmaaGreatDoor
open Go.RowKit
attribute [local go_sem ↓] Go.wp_at_zero Go.wp_at_succ

theorem fits_true {d : DesD} {S : Sigs} (h : FitsAll d.widths S) {i : Nat} (hi : i < S.length) (hi' : i < d.widths.length) : fitsB (S[i]'hi).2 (d.widths[i]'hi') = true := decide_eq_true (h.2 i hi hi')
theorem sigs_get {w : World} {l : Sigs} {a : Option Addr} {cap : Nat} (h : SigsIn w l a cap) {b off : Nat} (ha : a = some ⟨b, off, none⟩) {i : Nat} (hi : i < l.length) : w.cell? ⟨b, off + i * 2, none⟩ = some (.string (l[i]'hi).1) ∧ w.cell? ⟨b, off + i * 2 + 1, none⟩ = some (.int .i64 (l[i]'hi).2) := by
  rcases h.2.2 with h | ⟨b', off', ha', hq⟩
  · omega
  · rw [ha] at ha'
    simp only [Option.some.injEq, Addr.mk.injEq, and_true] at ha'
    obtain ⟨rfl, rfl⟩ := ha'
    obtain ⟨e', he', hp⟩ := hq i hi
    rw [List.getElem?_eq_getElem hi] at he'
    obtain rfl := Option.some.inj he'
    exact hp
set_option maxRecDepth 100000 in
set_option maxHeartbeats 8000000 in
theorem SimFits_any (d : DesD) (x : DesA) (l : List Int) (al : Option Addr) (cl : Nat) (inp : Sigs) (aI : Option Addr) (cI : Nat) (w : World) (hE : DesIn w d x) (hs : DesSmall d) (hL : IntsIn w l al cl) (hI : SigsIn w inp aI cI) (hG : Glob w) :
    Calls Tryz.prog 8 #[desVal d x, .slice al l.length cl, .slice aI inp.length cI] w fun e w' => e = .returned (.bool true) ∧ Below w.heap.size w w' := by
  have HFw0 := Lib.hid (fun W (hW : Below w.heap.size w W) => Few32_any d x W (hE.below hW))
  unfold FewPost at HFw0
  have HA1 := Lib.hid (fun W (hW : Below w.heap.size w W) => (Step_any d x l al cl inp aI cI W (hE.below hW) hs (hL.keep (keeps_of_below hW)) (hI.keep (keeps_of_below hW)) (hG.below hW)).mono fun _ _ h => h.out)
  have HAw := Lib.hid (fun W (hW : Below w.heap.size w W) => awake32_any W (hG.below hW))
  have HEr : Hid (¬ sErr d l = 0 → sNext d l inp = [] ∧ sSig d l inp = []) := fun h => ⟨if_neg h, if_neg h⟩
  have HWi : Hid (sErr d l = 0 → ∀ i (hi : i < (sSig d l inp).length), ∃ wd : Int, fitsB ((sSig d l inp)[i]'hi).2 wd = true ∧ ∀ W, Below w.heap.size w W → Calls Tryz.prog 28 #[desVal d x, .string ((sSig d l inp)[i]'hi).1] W fun e w' => e = .returned (.int .i64 wd) ∧ Below W.heap.size W w') := fun h i hi => by
    obtain ⟨he, hb⟩ := sErr_zero.1 h
    have hd := desOk_of_err he
    have hsig : sSig d l inp = settleS d l inp := if_pos h
    have hf : FitsAll d.widths (sSig d l inp) := by rw [hsig]; exact settle_fits inp hd hb
    have hi' : i < d.widths.length := by rw [← hf.1]; exact hi
    have hnm : (sSig d l inp).map (·.1) = d.names := by rw [hsig]; exact settle_names inp (state_len hb)
    have hin : i < d.names.length := by rw [← hnm, List.length_map]; exact hi
    have hne : ((sSig d l inp)[i]'hi).1 = d.names[i]'hin := by simp only [← hnm, List.getElem_map]
    refine ⟨d.widths[i]'hi', fits_true hf hi hi', fun W hW => Width_any d x _ i hi' W (hE.below hW) hs ?_⟩
    rw [hne]
    exact idxT_at hd.names hin
  have HSt : Hid (sErr d l = 0 → ∀ W, Below w.heap.size w W → ∀ a c, IntsIn W (sNext d l inp) a c → Calls Tryz.prog 15 #[desVal d x, .slice a (sNext d l inp).length c] W fun e w' => e = .returned (.bool true) ∧ Below W.heap.size W w') := fun h W hW a c hA => (State_any d x (sNext d l inp) a c W (hE.below hW) hA).mono fun e w' h1 => by
    obtain ⟨he, hb⟩ := sErr_zero.1 h
    have hn : sNext d l inp = nextS d (settleS d l inp) := if_pos h
    have h2 : d.stateB (sNext d l inp) = true := by rw [hn]; exact step_state (desOk_of_err he) _
    rw [h2] at h1
    exact h1
  have hll := hL.2.1
  have hli := hI.2.1
  generalize sNext d l inp = N at HA1 HEr HSt
  generalize sSig d l inp = S at HA1 HEr HWi
  generalize sErr d l = er at HA1 HEr HWi HSt
  generalize FewD d = Fd at HFw0
  clear hE hs hG hL hI
  simp only [desVal, desVals] at HFw0 HA1 HWi HSt ⊢
  have HFw := Lib.hid (HFw0.out (w.alloc (.cells #[.string d.name, .slice x.ai d.inputs.length x.ci, .slice x.aw d.wires.length x.cw, .slice x.ar d.regs.length x.cr, .slice x.ao d.outputs.length x.co] 27)) ((Below.refl _ _).alloc (Nat.le_refl _) _))
  clear HFw0
  rcases Nat.lt_or_ge 20 l.length with q1 | q1
  · have d1 : decide ((20 : Int) < (l.length : Int)) = true := by simp; omega
    go_enter Tryz.func8, Tryz.ntmps8
    go_wp2_with fail
    refine HFw.out.mono ?_
    rintro e w1 ⟨⟨b, rfl, _⟩, hb1⟩
    simp only [World.size_alloc] at hb1
    have HB1 := Lib.hid hb1
    clear hb1
    cases b
    all_goals
      go_wp2_with fail
      (refine (HAw.out w1 (boxW _ HB1.out)).mono ?_; rintro e wz ⟨rfl, hbz⟩; have HBz : Hid (Below w.heap.size w wz) := (boxW _ HB1.out).trans (hbz.mono (boxW _ HB1.out).size); clear hbz; go_wp2_with fail; go_ret; exact ⟨rfl, HBz.out⟩)
  · have d1 : decide ((20 : Int) < (l.length : Int)) = false := by simp; omega
    rcases Nat.lt_or_ge 30 inp.length with q2 | q2
    · have d2 : decide ((30 : Int) < (inp.length : Int)) = true := by simp; omega
      go_enter Tryz.func8, Tryz.ntmps8
      go_wp2_with fail
      refine HFw.out.mono ?_
      rintro e w1 ⟨⟨b, rfl, _⟩, hb1⟩
      simp only [World.size_alloc] at hb1
      have HB1 := Lib.hid hb1
      clear hb1
      cases b
      all_goals
        go_wp2_with fail
        (refine (HAw.out w1 (boxW _ HB1.out)).mono ?_; rintro e wz ⟨rfl, hbz⟩; have HBz : Hid (Below w.heap.size w wz) := (boxW _ HB1.out).trans (hbz.mono (boxW _ HB1.out).size); clear hbz; go_wp2_with fail; go_ret; exact ⟨rfl, HBz.out⟩)
    · have d2 : decide ((30 : Int) < (inp.length : Int)) = false := by simp; omega
      go_enter Tryz.func8, Tryz.ntmps8
      go_wp2_with fail
      refine HFw.out.mono ?_
      rintro e w1 ⟨⟨b, rfl, _⟩, hb1⟩
      simp only [World.size_alloc] at hb1
      have HB1 := Lib.hid hb1
      have hz1 := hb1.size
      simp only [World.size_alloc] at hz1
      clear hb1
      cases b
      · go_wp2_with fail
        (refine (HAw.out w1 (boxW _ HB1.out)).mono ?_; rintro e wz ⟨rfl, hbz⟩; have HBz : Hid (Below w.heap.size w wz) := (boxW _ HB1.out).trans (hbz.mono (boxW _ HB1.out).size); clear hbz; go_wp2_with fail; go_ret; exact ⟨rfl, HBz.out⟩)
      · ((try clear b0 b1 b2 b3 b4); have b0 := box_cell HB1.out 0; have b1 := box_cell HB1.out 1; have b2 := box_cell HB1.out 2; have b3 := box_cell HB1.out 3; have b4 := box_cell HB1.out 4; (try simp at b0 b1 b2 b3 b4))
        go_wp2_with fail
        refine (HA1.out w1 (boxW _ HB1.out)).mono ?_
        rintro e w2 ⟨a1, c1, a2, c2, rfl, hN2, hS2, hb2⟩
        have HB2 := Lib.hid (HB1.out.trans (hb2.mono hz1))
        have hz2 := HB2.out.size
        simp only [World.size_alloc] at hz2
        have hsl := hS2.2.1
        have HS2 := Lib.hid hS2
        have HN2 := Lib.hid hN2
        have HSA := Lib.hid (SliceIn.addr hS2)
        clear hb2 hS2 hN2
        by_cases he : er = 0
        · subst he
          have HWi2 := Lib.hid (HWi.out rfl)
          have HSt2 := Lib.hid (HSt.out rfl)
          clear HWi HSt HEr HA1
          go_wp2_with fail
          go_loopw [10] (fun i wr => ∃ k : Nat, i = .int .i64 k ∧ k ≤ S.length ∧ Hid (Below (w.heap.size + 1) (w.alloc (.cells #[.string d.name, .slice x.ai d.inputs.length x.ci, .slice x.aw d.wires.length x.cw, .slice x.ar d.regs.length x.cr, .slice x.ao d.outputs.length x.co] 27)) wr) ∧ Hid (Below w2.heap.size w2 wr)) (fun i _ => S.length - (intOf i).toNat)
          case atStart => exact ⟨0, rfl, Nat.zero_le _, HB2, Below.refl _ _⟩
          case round =>
            obtain ⟨k, rfl, hk, HBr, HBw2⟩ := hrel
            have hzr := HBr.out.size
            simp only [World.size_alloc] at hzr
            by_cases hlt : k < S.length
            · obtain ⟨b, off, ha⟩ := HSA.out.resolve_left (by omega)
              subst ha
              obtain ⟨c0, c1'⟩ := sigs_get (HS2.out.keep (keeps_of_below HBw2.out)) rfl hlt
              obtain ⟨wd, hfit, hW0⟩ := HWi2.out k hlt
              have HWi3 := Lib.hid (fun W (hW : Below wr.heap.size wr W) => (hW0 W ((boxW _ HBr.out).trans (hW.mono (boxW _ HBr.out).size))).mono fun e w' h => (⟨h.1, hW.trans (h.2.mono hW.size)⟩ : _ ∧ _))
              have HFi := Lib.hid (fun W => rFits_any (S[k]'hlt).2 wd W)
              rw [hfit] at HFi
              clear hW0 hfit
              generalize (S[k]'hlt).1 = nm at c0 HWi3
              generalize (S[k]'hlt).2 = v at c1' HFi
              ((try clear b0 b1 b2 b3 b4); have b0 := box_cell HBr.out 0; have b1 := box_cell HBr.out 1; have b2 := box_cell HBr.out 2; have b3 := box_cell HBr.out 3; have b4 := box_cell HBr.out 4; (try simp at b0 b1 b2 b3 b4))
              have e0 : ∀ g : Grow wr.heap.size wr, g.w'.cell? ⟨w.heap.size, 0, none⟩ = some (.string d.name) := Grow.old b0 (Nat.le_refl _)
              have e1 : ∀ g : Grow wr.heap.size wr, g.w'.cell? ⟨w.heap.size, 1, none⟩ = some (.slice x.ai d.inputs.length x.ci) := Grow.old b1 (Nat.le_refl _)
              have e2 : ∀ g : Grow wr.heap.size wr, g.w'.cell? ⟨w.heap.size, 2, none⟩ = some (.slice x.aw d.wires.length x.cw) := Grow.old b2 (Nat.le_refl _)
              have e3 : ∀ g : Grow wr.heap.size wr, g.w'.cell? ⟨w.heap.size, 3, none⟩ = some (.slice x.ar d.regs.length x.cr) := Grow.old b3 (Nat.le_refl _)
              have e4 : ∀ g : Grow wr.heap.size wr, g.w'.cell? ⟨w.heap.size, 4, none⟩ = some (.slice x.ao d.outputs.length x.co) := Grow.old b4 (Nat.le_refl _)
              have e5 : ∀ g : Grow wr.heap.size wr, g.w'.cell? ⟨b, off + k * 2, none⟩ = some (.string nm) := Grow.old c0 (Nat.le_refl _)
              have e6 : ∀ g : Grow wr.heap.size wr, g.w'.cell? ⟨b, off + k * 2 + 1, none⟩ = some (.int .i64 v) := Grow.old c1' (Nat.le_refl _)
              clear b0 b1 b2 b3 b4 c0 c1'
              go_wp2_with fail
              (refine wp_region_grow (B := wr.heap.size) (w0 := wr) (by kernel_rfl) (by kernel_rfl) (by repeat (first | assumption | exact Below.refl _ _ | refine Below.drew ?_ | refine below_drewN ?_ _ | refine Below.alloc ?_ (by first | omega | (simp only [World.size_alloc, World.size_setCell, World.size_drew, World.heap_drewN] <;> omega) | (simp <;> omega)) _ | refine Below.setCell ?_ (by first | omega | (simp only [World.size_alloc, World.size_setCell, World.size_drew, World.heap_drewN] <;> omega) | (simp <;> omega)) _)) ?_; (repeat (go_big_quiet_step ((first | (go_at_call 28; (with_reducible exact grow_call (HWi3.out _ (Grow.h _)))) | (go_at_call 27; (with_reducible exact grow_callS _ (HFi.out _))))))); refine wpQuiet_nil ?_; intro wg hCg; have hbg := grow_out hCg; clear hCg)
              go_wp2_with fail
              go_roundw
              case rel => exact ⟨k + 1, by go_num, by omega, HBr.out.trans (hbg.mono hzr), HBw2.out.trans (hbg.mono HBw2.out.size)⟩
              case measure => (simp [intOf]; try omega)
            · obtain rfl : k = S.length := by omega
              ((try clear b0 b1 b2 b3 b4); have b0 := box_cell HBr.out 0; have b1 := box_cell HBr.out 1; have b2 := box_cell HBr.out 2; have b3 := box_cell HBr.out 3; have b4 := box_cell HBr.out 4; (try simp at b0 b1 b2 b3 b4))
              go_wp2_with fail
              refine (HSt2.out wr (boxW _ HBr.out) _ _ (HN2.out.keep (keeps_of_below HBw2.out))).mono ?_
              rintro e w3 ⟨rfl, hb3⟩
              have HB3 : Hid (Below w.heap.size w w3) := (boxW _ HBr.out).trans (hb3.mono (boxW _ HBr.out).size)
              clear hb3
              go_wp2_with fail
              (refine (HAw.out w3 (HB3.out)).mono ?_; rintro e wz ⟨rfl, hbz⟩; have HBz : Hid (Below w.heap.size w wz) := (HB3.out).trans (hbz.mono (HB3.out).size); clear hbz; go_wp2_with fail; go_ret; exact ⟨rfl, HBz.out⟩)
        · obtain ⟨hn0, hs0⟩ := HEr.out he
          subst hn0 hs0
          have hne : (er != 0) = true := by simpa using he
          clear he HWi HSt HEr HA1 HSA HS2 HN2
          simp only [List.length_nil]
          go_wp2_with fail
          (refine (HAw.out w2 (boxW _ HB2.out)).mono ?_; rintro e wz ⟨rfl, hbz⟩; have HBz : Hid (Below w.heap.size w wz) := (boxW _ HB2.out).trans (hbz.mono (boxW _ HB2.out).size); clear hbz; go_wp2_with fail; go_ret; exact ⟨rfl, HBz.out⟩)
end Go.Proofs.YteaeemkodbodmaaGreatDoor
