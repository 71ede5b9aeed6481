/- law22: SoftRules. -/
import Derived.Test.YtgdphjgedhadoaaGreatDoorSH
import Derived.Test.YtgdphjgedhadoaaGreatDoorSK
import Derived.Test.YtgdphjgedhadoaaGreatDoorSL
import Derived.Test.YtgdphjgedhadoaaGreatDoorSI
import Derived.Test.YtgdphjgedhadoaaGreatDoorSE
set_option linter.unusedSimpArgs false
set_option linter.unusedVariables false
set_option linter.unnecessarySimpa false
namespace Go.Proofs.YtgdphjgedhadoaaGreatDoor
open Go.RowKit
attribute [local go_sem ↓] Go.wp_at_zero Go.wp_at_succ

set_option maxRecDepth 100000 in
set_option maxHeartbeats 8000000 in
theorem SoftRules_any (p : ProbD) (x : ProbA) (w : World) (hE : ProbIn w p x) (hs : ProbSmall p) (hd : p.dists.length ≤ 1048576) (hG : Glob w) :
    Calls Tryz.prog 11 #[probVal p x] w fun e w' => e = .returned (.bool true) ∧ Below w.heap.size w w' := by
  have HSm0 := Lib.hid (fun W (hW : Below w.heap.size w W) => small_any p x W (hE.keep (keeps_of_below hW)) hs)
  have HF0 := Lib.hid (fun (h : SmallOk p) W (hW : Below w.heap.size w W) => Rules_any p x W (hE.keep (keeps_of_below hW)) hs (hG.below hW) h.bits hd (by have := h.hard; omega) (by have := h.soft; omega) (fun hp => supp_rok hp))
  have HR0 := Lib.hid (fun (h : SmallOk p) W (hW : Below w.heap.size w W) => r22Rules_any p x W (hE.keep (keeps_of_below hW)) hs hd (by have := h.hard; omega) (by have := h.soft; omega) (fun hp => supp_rok hp))
  have HAw := Lib.hid (fun W (hW : Below w.heap.size w W) => awake22_any W (hG.below hW))
  have HO : Hid (∀ w0 e w', RulRet p w0 e w' → ∃ a cap, e = .returned (.tuple #[.slice a (rulesL p).length cap, .int .i64 (keptErr p)]) ∧ ExsIn w' (rulesL p) a cap ∧ Below w0.heap.size w0 w') := fun _ _ _ h => h
  have HIn := Lib.hid (fun W aa ca ab cb (hA : ExsIn W (rulesL p) aa ca) (hB : ExsIn W (rulesL p) ab cb) => r22Same_any (rulesL p) aa ca ab cb W hA hB)
  generalize RulRet p = KR at HF0 HR0 HO
  generalize rulesL p = L at HO HIn
  generalize keptErr p = err at HO
  clear hE hs hG hd
  simp only [probVal_eq] at HSm0 HF0 HR0 ⊢
  obtain ⟨vs, hard, soft, ds, gs⟩ := p
  obtain ⟨av, cv, ah, ch, ao, co, ad, cd, ag, cg⟩ := x
  simp only at HSm0 HF0 HR0 ⊢
  have HSm := Lib.hid (HSm0.out (w.alloc (.cells #[.slice av vs.length cv, .slice ah hard.length ch, .slice ao soft.length co, .slice ad ds.length cd, .slice ag gs.length cg] 27)) ((Below.refl _ _).alloc (Nat.le_refl _) _))
  clear HSm0
  go_enter Tryz.func11, Tryz.ntmps11
  go_wp2_with fail
  refine HSm.out.mono ?_
  rintro e w1 ⟨⟨b, rfl, hbf⟩, hb1⟩
  simp only [World.size_alloc] at hb1
  have HB1 := Lib.hid hb1
  have hz1 := hb1.size
  simp only [World.size_alloc] at hz1
  clear hb1
  cases b
  · clear hbf
    go_wp2_with fail
    refine (HAw.out w1 (boxW _ HB1.out)).mono ?_
    rintro e w2 ⟨rfl, hb2⟩
    have HB2 : Hid (Below w.heap.size w w2) := (boxW _ HB1.out).trans (hb2.mono (boxW _ HB1.out).size)
    clear hb2
    go_wp2_with fail
    go_ret
    exact ⟨rfl, HB2.out⟩
  · have HFo := Lib.hid (hbf rfl)
    clear hbf
    ((try clear b0 b1 b2 b3 b4); have b0 := box_cell HB1.out 0; have b1 := box_cell HB1.out 1; have b2 := box_cell HB1.out 2; have b3 := box_cell HB1.out 3; have b4 := box_cell HB1.out 4; (try simp at b0 b1 b2 b3 b4))
    go_wp2_with fail
    refine (HF0.out HFo.out w1 (boxW _ HB1.out)).mono ?_
    rintro e w2 hr
    obtain ⟨a1, c1, rfl, hI1, hb2⟩ := HO.out _ _ _ hr
    have HB2 := Lib.hid (HB1.out.trans (hb2.mono hz1))
    have HI1 := Lib.hid hI1
    have hz2 := HB2.out.size
    simp only [World.size_alloc] at hz2
    clear hr hb2 hI1
    ((try clear b0 b1 b2 b3 b4); have b0 := box_cell HB2.out 0; have b1 := box_cell HB2.out 1; have b2 := box_cell HB2.out 2; have b3 := box_cell HB2.out 3; have b4 := box_cell HB2.out 4; (try simp at b0 b1 b2 b3 b4))
    go_wp2_with fail
    refine (HR0.out HFo.out w2 (boxW _ HB2.out)).mono ?_
    rintro e w3 hr
    obtain ⟨a2, c2, rfl, hI2, hb3⟩ := HO.out _ _ _ hr
    have HB3 := Lib.hid (HB2.out.trans (hb3.mono hz2))
    have HIc := Lib.hid (HIn.out w3 _ _ _ _ (HI1.out.keep (keeps_of_below hb3)) hI2)
    clear hr hb3 hI2 b0 b1 b2 b3 b4
    have hee : (err == err) = true := by simp
    go_wp2_with fail
    refine HIc.out.mono ?_
    rintro e w4 ⟨rfl, hb4⟩
    have HB4 : Hid (Below w.heap.size w w4) := (boxW _ HB3.out).trans (hb4.mono (boxW _ HB3.out).size)
    clear hb4
    go_wp2_with fail
    refine (HAw.out w4 HB4.out).mono ?_
    rintro e w5 ⟨rfl, hb5⟩
    have HB5 : Hid (Below w.heap.size w w5) := HB4.out.trans (hb5.mono HB4.out.size)
    clear hb5
    go_wp2_with fail
    go_ret
    exact ⟨rfl, HB5.out⟩
end Go.Proofs.YtgdphjgedhadoaaGreatDoor
