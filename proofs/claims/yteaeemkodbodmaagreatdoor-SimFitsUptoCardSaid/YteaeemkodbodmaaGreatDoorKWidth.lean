/- ref31.Width. -/
import Derived.Test.YteaeemkodbodmaaGreatDoorDJ
import Derived.Test.YteaeemkodbodmaaGreatDoorDE
set_option linter.unusedSimpArgs false
set_option linter.unusedVariables false
set_option linter.unnecessarySimpa false
namespace Go.Proofs.YteaeemkodbodmaaGreatDoor
open Go.RowKit
attribute [local go_sem ↓] Go.wp_at_zero Go.wp_at_succ

set_option maxRecDepth 100000 in
set_option maxHeartbeats 8000000 in
theorem Width_any (d : DesD) (x : DesA) (s : ByteArray) (i : Nat) (hi : i < d.widths.length) (w : World) (hE : DesIn w d x) (hs : DesSmall d) (hx : idxT d.names s = some i) :
    Calls Tryz.prog 28 #[desVal d x, .string s] w fun e w' => e = .returned (.int .i64 (d.widths[i]'hi)) ∧ Below w.heap.size w w' := by
  have hl := hs.len
  have HN := Lib.hid (fun W (hW : Below w.heap.size w W) => rNames31_any d x W (hE.below hW) (by simp [DesD.names]; omega))
  have hwl : d.widths.length ≤ 1073741824 := by simp [DesD.widths]; omega
  have HWd := Lib.hid (fun W (hW : Below w.heap.size w W) => rwidths31_any d x W (hE.below hW) hwl)
  have HIx : Hid (∀ W a c, StrsIn W d.names a c → Calls Tryz.prog 44 #[.slice a d.names.length c, .string s] W fun e w' => e = .returned (.int .i64 (i : Int)) ∧ W = w') := fun W a c h => (index_any d.names a c s W h).mono fun e w' h => ⟨by rw [h.1]; unfold idxI; rw [hx], h.2⟩
  have HV : Hid (∀ W a c, IntsIn W d.widths a c → ∃ b off, a = some ⟨b, off, none⟩ ∧ W.cell? ⟨b, off + i, none⟩ = some (.int .i64 (d.widths[i]'hi))) := fun W a c h => by
    obtain ⟨b, off, ha⟩ := (SliceIn.addr h).resolve_left (by omega)
    exact ⟨b, off, ha, intsIn_get h ha hi⟩
  have hlen : ((i : Int) < (d.widths.length : Int)) := by omega
  generalize (d.widths[i]'hi) = v at HV ⊢
  have hd0 : decide ((i : Int) < 0) = false := decide_eq_false (by omega)
  clear hE hs hl hx
  simp only [desVal, desVals] at HN HWd ⊢
  have hbA : Below w.heap.size w (w.alloc (.cells #[.string d.name, .slice x.ai d.inputs.length x.ci, .slice x.aw d.wires.length x.cw, .slice x.ar d.regs.length x.cr, .slice x.ao d.outputs.length x.co] 27)) := (by repeat (first | assumption | exact Below.refl _ _ | refine Below.drew ?_ | refine below_drewN ?_ _ | refine Below.alloc ?_ (by first | omega | (simp only [World.size_alloc, World.size_setCell, World.size_drew, World.heap_drewN] <;> omega) | (simp <;> omega)) _ | refine Below.setCell ?_ (by first | omega | (simp only [World.size_alloc, World.size_setCell, World.size_drew, World.heap_drewN] <;> omega) | (simp <;> omega)) _))
  have HB0 : Hid (Below (w.heap.size + 1) (w.alloc (.cells #[.string d.name, .slice x.ai d.inputs.length x.ci, .slice x.aw d.wires.length x.cw, .slice x.ar d.regs.length x.cr, .slice x.ao d.outputs.length x.co] 27)) (w.alloc (.cells #[.string d.name, .slice x.ai d.inputs.length x.ci, .slice x.aw d.wires.length x.cw, .slice x.ar d.regs.length x.cr, .slice x.ao d.outputs.length x.co] 27))) := Below.refl _ _
  have HN0 := Lib.hid (HN.out _ hbA)
  generalize hml : d.names.length = nl at HN0 HIx
  generalize hmw : d.widths.length = wl at HWd hlen hwl
  clear HN hbA hml hmw
  go_enter Tryz.func28, Tryz.ntmps28
  go_wp2_with fail
  refine HN0.out.mono ?_
  rintro e w1 ⟨⟨a1, c1, rfl, hS1⟩, hb1⟩
  have HB1 := Lib.hid (HB0.out.trans (hb1.mono (by simp)))
  have HIx1 := Lib.hid (HIx.out w1 a1 c1 hS1)
  have hz1 := HB1.out.size
  simp only [World.size_alloc] at hz1
  clear hb1 hS1
  go_wp2_with fail
  refine HIx1.out.mono ?_
  rintro e w2 ⟨rfl, rfl⟩
  ((try clear b0 b1 b2 b3 b4); have b0 := box_cell HB1.out 0; have b1 := box_cell HB1.out 1; have b2 := box_cell HB1.out 2; have b3 := box_cell HB1.out 3; have b4 := box_cell HB1.out 4; (try simp at b0 b1 b2 b3 b4))
  go_wp2_with fail
  refine (HWd.out w1 (boxW _ HB1.out)).mono ?_
  rintro e w3 ⟨⟨a3, c3, rfl, hI3⟩, hb3⟩
  obtain ⟨b, off, rfl, hc⟩ := HV.out _ _ _ hI3
  have HB3 : Hid (Below w.heap.size w w3) := (boxW _ HB1.out).trans (hb3.mono (boxW _ HB1.out).size)
  clear hb3 hI3
  go_wp2_with fail
  go_ret
  exact ⟨rfl, HB3.out⟩
end Go.Proofs.YteaeemkodbodmaaGreatDoor
