/- law: SearchNext. -/
import Derived.Test.YtgdphjgedhadoaaGreatDoorKT
import Derived.Test.YtgdphjgedhadoaaGreatDoorKU
set_option linter.unusedSimpArgs false
set_option linter.unusedVariables false
set_option linter.unnecessarySimpa false
namespace Go.Proofs.YtgdphjgedhadoaaGreatDoor
open Go.RowKit
attribute [local go_sem ↓] Go.wp_at_zero Go.wp_at_succ

set_option maxRecDepth 100000 in
set_option maxHeartbeats 8000000 in
theorem SearchNext_any (p : ProbD) (x : ProbA) (l : List Ex) (al : Option Addr) (cl : Nat) (A : List Int) (aa : Option Addr) (ca : Nat) (steps : Int) (w : World) (hE : ProbIn w p x) (hL : ExsIn w l al cl) (hI : IntsIn w A aa ca) (hG : Glob w) :
    Calls Tryz.prog 4 #[probVal p x, .slice al l.length cl, .agg #[.slice aa A.length ca, .int .i64 steps]] w fun e w' => e = .returned (.bool true) ∧ Below w.heap.size w w' := by
  have HFw0 := Lib.hid (fun W (hW : Below w.heap.size w W) => few_any p x l al cl W (hE.keep (keeps_of_below hW)) (hL.keep (keeps_of_below hW)))
  have HF0 := Lib.hid (fun (hf : FewOk p l) W (hW : Below w.heap.size w W) => Next_any p x l al cl A aa ca steps W (hE.keep (keeps_of_below hW)) hf.small (hL.keep (keeps_of_below hW)) hf.exsSmall (hG.below hW) (hI.keep (keeps_of_below hW)))
  have HR0 := Lib.hid (fun (hf : FewOk p l) W (hW : Below w.heap.size w W) => r18Next_any p x l al cl A aa ca steps W (hE.keep (keeps_of_below hW)) hf.small (hL.keep (keeps_of_below hW)) hf.exsSmall (hI.keep (keeps_of_below hW)))
  have HS0 := Lib.hid (fun (hf : FewOk p l) W (hW : Below w.heap.size w W) => Satisfied_any p x l al cl A aa ca W (hE.keep (keeps_of_below hW)) hf.small (hL.keep (keeps_of_below hW)) hf.exsSmall (hG.below hW) (hI.keep (keeps_of_below hW)))
  have HT0 := Lib.hid (fun (hf : FewOk p l) W (hW : Below w.heap.size w W) => r18Satisfied_any p x l al cl A aa ca W (hE.keep (keeps_of_below hW)) hf.small (hL.keep (keeps_of_below hW)) hf.exsSmall (hI.keep (keeps_of_below hW)))
  have HAw := Lib.hid (fun W (hW : Below w.heap.size w W) => awake_any W (hG.below hW))
  obtain ⟨A', err, hO⟩ := FirstRet.out p l steps (Asg p.vars A) (numN p.vars A + 1) 12
  have HO := Lib.hid hO
  have HIn := Lib.hid (fun W aa ca ab cb (hA : IntsIn W A' aa ca) (hB : IntsIn W A' ab cb) => ints_any A' aa ca A' ab cb W hA hB)
  simp only [decide_true] at HIn
  clear hE hL hG hO hI
  generalize satN p l A = q at HS0 HT0
  simp only [probVal_eq] at HFw0 HF0 HR0 HS0 HT0 ⊢
  obtain ⟨vs, hard, soft, ds, gs⟩ := p
  obtain ⟨av, cv, ah, ch, ao, co, ad, cd, ag, cg⟩ := x
  simp only at HFw0 HF0 HR0 HS0 HT0 ⊢
  have hPB : Below w.heap.size w ((w.alloc (.cells #[.slice av vs.length cv, .slice ah hard.length ch, .slice ao soft.length co, .slice ad ds.length cd, .slice ag gs.length cg] 27)).alloc (.cells #[.slice aa A.length ca, .int .i64 steps] 37)) := ((Below.refl _ _).alloc (Nat.le_refl _) _).alloc (by simp) _
  have HFw := Lib.hid (HFw0.out _ hPB)
  clear hPB HFw0
  go_enter Tryz.func4, Tryz.ntmps4
  go_wp2_with fail
  refine HFw.out.mono ?_
  rintro e w1 ⟨⟨b, rfl, hbf⟩, hb1⟩
  simp only [World.size_alloc] at hb1
  have HB1 := Lib.hid hb1
  have hz1 := hb1.size
  simp only [World.size_alloc] at hz1
  clear hb1
  cases b
  · clear hbf
    go_wp2_with fail
    refine (HAw.out w1 (below_two HB1.out)).mono ?_
    rintro e w2 ⟨rfl, hb2⟩
    have HB2 : Hid (Below w.heap.size w w2) := (below_two HB1.out).trans (hb2.mono (below_two HB1.out).size)
    clear hb2
    go_wp2_with fail
    go_ret
    exact ⟨rfl, HB2.out⟩
  · have HFo := Lib.hid (hbf rfl)
    clear hbf
    have b0 := two_cell HB1.out 0
    have b1 := two_cell HB1.out 1
    have b2 := two_cell HB1.out 2
    have b3 := two_cell HB1.out 3
    have b4 := two_cell HB1.out 4
    have d0 := two_cell' HB1.out 0
    have d1 := two_cell' HB1.out 1
    (try simp at b0 b1 b2 b3 b4 d0 d1)
    go_wp2_with fail
    refine (HF0.out HFo.out w1 (below_two HB1.out)).mono ?_
    rintro e w2 ⟨hr, hb2⟩
    obtain ⟨a1, c1, rfl, hI1⟩ := HO.out _ _ hr
    have HB2 := Lib.hid (HB1.out.trans (hb2.mono hz1))
    have HI1 := Lib.hid hI1
    have hz2 := HB2.out.size
    simp only [World.size_alloc] at hz2
    clear hr hb2 hI1 b0 b1 b2 b3 b4 d0 d1
    have b0 := two_cell HB2.out 0
    have b1 := two_cell HB2.out 1
    have b2 := two_cell HB2.out 2
    have b3 := two_cell HB2.out 3
    have b4 := two_cell HB2.out 4
    have d0 := two_cell' HB2.out 0
    have d1 := two_cell' HB2.out 1
    (try simp at b0 b1 b2 b3 b4 d0 d1)
    go_wp2_with fail
    refine (HR0.out HFo.out w2 (below_two HB2.out)).mono ?_
    rintro e w3 ⟨hr, hb3⟩
    obtain ⟨a2, c2, rfl, hI2⟩ := HO.out _ _ hr
    have HB3 := Lib.hid (HB2.out.trans (hb3.mono hz2))
    have HI3 := Lib.hid (HI1.out.keep (keeps_of_below hb3))
    have HI2 := Lib.hid hI2
    clear hr hb3 hI2 b0 b1 b2 b3 b4 d0 d1 HI1
    have HBw := Lib.hid (below_two HB3.out)
    have b0' := two_cell HB3.out 0
    have b1' := two_cell HB3.out 1
    have b2' := two_cell HB3.out 2
    have b3' := two_cell HB3.out 3
    have b4' := two_cell HB3.out 4
    have d0' := two_cell' HB3.out 0
    (try simp at b0' b1' b2' b3' b4' d0')
    have b0 : ∀ g : Grow w3.heap.size w3, g.w'.cell? ⟨w.heap.size, 0, none⟩ = _ := Grow.old b0' (Nat.le_refl _)
    have b1 : ∀ g : Grow w3.heap.size w3, g.w'.cell? ⟨w.heap.size, 1, none⟩ = _ := Grow.old b1' (Nat.le_refl _)
    have b2 : ∀ g : Grow w3.heap.size w3, g.w'.cell? ⟨w.heap.size, 2, none⟩ = _ := Grow.old b2' (Nat.le_refl _)
    have b3 : ∀ g : Grow w3.heap.size w3, g.w'.cell? ⟨w.heap.size, 3, none⟩ = _ := Grow.old b3' (Nat.le_refl _)
    have b4 : ∀ g : Grow w3.heap.size w3, g.w'.cell? ⟨w.heap.size, 4, none⟩ = _ := Grow.old b4' (Nat.le_refl _)
    have d0 : ∀ g : Grow w3.heap.size w3, g.w'.cell? ⟨w.heap.size + 1, 0, none⟩ = _ := Grow.old d0' (Nat.le_refl _)
    clear b0' b1' b2' b3' b4' d0'
    have hee : (err == err) = true := by simp
    have hqq : (q == q) = true := by simp
    have HI := Lib.hid (fun W (hW : Below w3.heap.size w3 W) => (HIn.out W _ _ _ _ (HI3.out.keep (keeps_of_below hW)) (HI2.out.keep (keeps_of_below hW))).mono fun e w' h => (⟨h.1, hW.trans (h.2.mono hW.size)⟩ : _ ∧ Below w3.heap.size w3 w'))
    have HS := Lib.hid (fun W (hW : Below w3.heap.size w3 W) => (HS0.out HFo.out W (HBw.out.trans (hW.mono HBw.out.size))).mono fun e w' h => (⟨h.1, hW.trans (h.2.mono hW.size)⟩ : _ ∧ Below w3.heap.size w3 w'))
    have HT := Lib.hid (fun W (hW : Below w3.heap.size w3 W) => (HT0.out HFo.out W (HBw.out.trans (hW.mono HBw.out.size))).mono fun e w' h => (⟨h.1, hW.trans (h.2.mono hW.size)⟩ : _ ∧ Below w3.heap.size w3 w'))
    have HA := Lib.hid (fun W (hW : Below w3.heap.size w3 W) => (HAw.out W (HBw.out.trans (hW.mono HBw.out.size))).mono fun e w' h => (⟨h.1, hW.trans (h.2.mono hW.size)⟩ : _ ∧ Below w3.heap.size w3 w'))
    go_wp2_with fail
    (refine wp_region_grow (B := w3.heap.size) (w0 := w3) (by kernel_rfl) (by kernel_rfl) (by repeat (first | assumption | exact Below.refl _ _ | refine Below.drew ?_ | refine below_drewN ?_ _ | refine Below.alloc ?_ (by first | omega | (simp only [World.size_alloc, World.size_setCell, World.size_drew, World.heap_drewN] <;> omega) | (simp <;> omega)) _ | refine Below.setCell ?_ (by first | omega | (simp only [World.size_alloc, World.size_setCell, World.size_drew, World.heap_drewN] <;> omega) | (simp <;> omega)) _)) ?_; (repeat (go_big_quiet_step (first | (go_at_call 17; (with_reducible exact grow_call (HI.out _ (Grow.h _)))) | (go_at_call 20; (with_reducible exact grow_call (HS.out _ (Grow.h _)))) | (go_at_call 21; (with_reducible exact grow_call (HT.out _ (Grow.h _)))) | (go_at_call 14; (with_reducible exact grow_call (HA.out _ (Grow.h _))))))); refine wpQuiet_nil ?_; intro wg hCg; have hbg := grow_out hCg; clear hCg)
    go_wp2_with fail
    go_ret
    exact ⟨rfl, HBw.out.trans (Below.mono (by assumption) HBw.out.size)⟩
end Go.Proofs.YtgdphjgedhadoaaGreatDoor
