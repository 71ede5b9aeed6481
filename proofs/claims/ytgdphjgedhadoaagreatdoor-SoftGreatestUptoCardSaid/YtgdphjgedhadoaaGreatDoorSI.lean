/- law22: small. -/
import Derived.Test.YtgdphjgedhadoaaGreatDoorSC
set_option linter.unusedSimpArgs false
set_option linter.unusedVariables false
set_option linter.unnecessarySimpa false
namespace Go.Proofs.YtgdphjgedhadoaaGreatDoor
open Go.RowKit
attribute [local go_sem ↓] Go.wp_at_zero Go.wp_at_succ

/-- what small tells -/
structure SmallOk (p : ProbD) : Prop where
  bits : ProbOk p → bitsTo p.vars p.vars.length ≤ 10
  hard : p.hard.length ≤ 6
  soft : p.soft.length ≤ 6
set_option maxRecDepth 100000 in
set_option maxHeartbeats 4000000 in
theorem small_any (p : ProbD) (x : ProbA) (w : World) (hE : ProbIn w p x) (hs : ProbSmall p) :
    Calls Tryz.prog 30 #[probVal p x] w fun e w' => (∃ b : Bool, e = .returned (.bool b) ∧ (b = true → SmallOk p)) ∧ Below w.heap.size w w' := by
  have HB0 := Lib.hid (fun W (hW : Below w.heap.size w W) => r14Bits_any p x W (hE.keep (keeps_of_below hW)) hs)
  have HOk : Hid (∀ n : Int, (ProbOk p → n = bitsTo p.vars p.vars.length) → n ≤ 10 → p.hard.length ≤ 6 → p.soft.length ≤ 6 → SmallOk p) := fun n h1 h2 h3 h4 => ⟨fun hp => by rw [← h1 hp]; exact h2, h3, h4⟩
  clear hE hs
  simp only [probVal_eq] at HB0 ⊢
  obtain ⟨vs, hard, soft, ds, gs⟩ := p
  obtain ⟨av, cv, ah, ch, ao, co, ad, cd, ag, cg⟩ := x
  simp only at HB0 HOk ⊢
  have HB := Lib.hid (HB0.out (w.alloc (.cells #[.slice av vs.length cv, .slice ah hard.length ch, .slice ao soft.length co, .slice ad ds.length cd, .slice ag gs.length cg] 27)) ((Below.refl _ _).alloc (Nat.le_refl _) _))
  clear HB0
  go_enter Tryz.func30, Tryz.ntmps30
  go_wp2_with fail
  refine HB.out.mono ?_
  rintro e w1 ⟨n, rfl, h1, _, hb1⟩
  simp only [World.size_alloc] at hb1
  have HB1 := Lib.hid hb1
  have H1 := Lib.hid h1
  ((try clear b0 b1 b2 b3 b4); have b0 := box_cell HB1.out 0; have b1 := box_cell HB1.out 1; have b2 := box_cell HB1.out 2; have b3 := box_cell HB1.out 3; have b4 := box_cell HB1.out 4; (try simp at b0 b1 b2 b3 b4))
  clear hb1 h1
  by_cases hn : n ≤ 10
  · have d1 : decide (n ≤ 10) = true := by simpa using hn
    by_cases hh : hard.length ≤ 6
    · have d2 : decide ((hard.length : Int) ≤ 6) = true := by simp; omega
      by_cases hso : soft.length ≤ 6
      · have d3 : decide ((soft.length : Int) ≤ 6) = true := by simp; omega
        have HF := Lib.hid (HOk.out n H1.out hn hh hso)
        clear hn hh hso
        go_wp2_with fail
        go_ret
        exact ⟨⟨true, rfl, fun _ => HF.out⟩, boxW _ HB1.out⟩
      · have d3 : decide ((soft.length : Int) ≤ 6) = false := by simp; omega
        clear hn hh hso
        go_wp2_with fail
        go_ret
        exact ⟨⟨false, rfl, fun h => by simp at h⟩, boxW _ HB1.out⟩
    · have d2 : decide ((hard.length : Int) ≤ 6) = false := by simp; omega
      clear hn hh
      go_wp2_with fail
      go_ret
      exact ⟨⟨false, rfl, fun h => by simp at h⟩, boxW _ HB1.out⟩
  · have d1 : decide (n ≤ 10) = false := by simpa using hn
    clear hn
    go_wp2_with fail
    go_ret
    exact ⟨⟨false, rfl, fun h => by simp at h⟩, boxW _ HB1.out⟩
end Go.Proofs.YtgdphjgedhadoaaGreatDoor
