/- design.Print: the walk. -/
import Derived.Test.YtihegbjlgpghbaaGreatDoorED
import Derived.Test.YtihegbjlgpghbaaGreatDoorEB
import Derived.Test.YtihegbjlgpghbaaGreatDoorEA
set_option linter.unusedSimpArgs false
set_option linter.unusedVariables false
set_option linter.unnecessarySimpa false
namespace Go.Proofs.YtihegbjlgpghbaaGreatDoor
open Go.RowKit
attribute [local go_sem ↓] Go.wp_at_zero Go.wp_at_succ

theorem outErr_mem {inner : List ByteArray} : ∀ {outs seen : List ByteArray}, outErr inner seen outs = 0 → ∀ s ∈ outs, (idxT inner s).isSome = true := by
  intro outs
  induction outs with
  | nil => intro _ _ s hs; simp at hs
  | cons x l ih =>
    intro seen h s hs
    unfold outErr at h
    split at h
    · simp at h
    · rename_i h1
      split at h
      · simp at h
      · rcases List.mem_cons.1 hs with rfl | hs
        · cases hx : idxT inner s with
          | none => rw [hx] at h1; simp at h1
          | some k => rfl
        · exact ih h s hs
theorem outs_size {d : DesD} (he : d.err = 0) (hs : DesSmall d) {s : ByteArray} (h : s ∈ d.outputs) : s.size ≤ 1099511627776 := by
  have h0 : outErr d.inner [] d.outputs = 0 := firstErr_zero.1 he _ (by simp)
  obtain ⟨k, hk'⟩ := Option.isSome_iff_exists.1 (outErr_mem h0 s h)
  obtain ⟨hk, h2, _⟩ := idxT_some hk'
  have h3 : s ∈ d.inner := by rw [← bytes_inj h2]; exact List.getElem_mem hk
  have h4 : s ∈ d.names := by
    unfold DesD.inner at h3
    unfold DesD.names
    rcases List.mem_append.1 h3 with h5 | h5
    · exact List.mem_append_left _ (List.mem_append_right _ h5)
    · exact List.mem_append_right _ h5
  have := hs.names s h4
  omega
set_option maxRecDepth 100000 in
set_option maxHeartbeats 16000000 in
theorem Print_of (d : DesD) (x : DesA) (w : World) (hE : DesIn w d x) (hs : DesSmall d) (hG : Glob w) (he : d.err = 0) (fx : Ex → ByteArray)
    (hfx : ∀ e ∈ d.exprs, PrintC w.heap.size w e (fx e) ∧ (fx e).size ≤ 1099511627776) (hfm : ∀ n, n ∈ d.widths ∨ n ∈ d.regs.map (·.init) → FmtC w.heap.size w n ∧ (fmtS n).size ≤ 100) (hT : (printL fx d).length ≤ 70368744177664) :
    Calls Tryz.prog 31 #[desVal d x] w (SPost (printS fx d) w) := by
  have hl := hs.len
  obtain ⟨ht2, ht3, ht4, ht5⟩ := cells_all fx d
  obtain ⟨C1, L1, HC1, hL1⟩ : ∃ C L, Part d.inputs.length C L (cellsL (linA1 d)) (cellsL (linA2 d)) ∧ ∀ k (hk : k < d.inputs.length), L k = inLine (d.inputs[k]'hk) := ⟨_, _, part_of (linA1 d) d.inputs inLine .empty (Nat.le_trans ht2 hT), fun k hk => by simp only [dif_pos hk]⟩
  obtain ⟨C2, L2, HC2, hL2⟩ : ∃ C L, Part d.wires.length C L (cellsL (linA2 d)) (cellsL (linA3 fx d)) ∧ ∀ k (hk : k < d.wires.length), L k = wireLine fx (d.wires[k]'hk) := ⟨_, _, part_of (linA2 d) d.wires (wireLine fx) .empty (Nat.le_trans ht3 hT), fun k hk => by simp only [dif_pos hk]⟩
  obtain ⟨C3, L3, HC3, hL3⟩ : ∃ C L, Part d.regs.length C L (cellsL (linA3 fx d)) (cellsL (linA4 fx d)) ∧ ∀ k (hk : k < d.regs.length), L k = regLine fx (d.regs[k]'hk) := ⟨_, _, part_of (linA3 fx d) d.regs (regLine fx) .empty (Nat.le_trans ht4 hT), fun k hk => by simp only [dif_pos hk]⟩
  obtain ⟨C4, L4, HC4, hL4⟩ : ∃ C L, Part d.outputs.length C L (cellsL (linA4 fx d)) (cellsL (linA5 fx d)) ∧ ∀ k (hk : k < d.outputs.length), L k = outLine (d.outputs[k]'hk) := ⟨_, _, part_of (linA4 fx d) d.outputs outLine .empty (Nat.le_trans ht5 hT), fun k hk => by simp only [dif_pos hk]⟩
  have HV0 : Hid (∀ W, Below w.heap.size w W → Calls Tryz.prog 20 #[desVal d x] W fun e w' => e = .returned (.int .i64 0) ∧ Below W.heap.size W w') := fun W hW => (ValidD_any d x W (hE.below hW) hs (hG.below hW)).mono fun e w' h => by rw [he] at h; exact h
  have HEnd : Hid (∀ b W, PrAt (w.heap.size + 1) b (.pointer (some ⟨b, 0, none⟩)) (cellsL (linA5 fx d) ++ Lib.strCells endS) W → w.heap.size + 1 ≤ W.heap.size → Below w.heap.size w W → Calls Tryz.prog 79 #[.pointer (some ⟨b, 0, none⟩)] W (SPost (printS fx d) w)) := fun b W h1 h2 h3 => by
    have h4 : cellsL (linA5 fx d) ++ Lib.strCells endS = Lib.byteCells (printL fx d) := by
      have : cellsL (linA5 fx d) ++ Lib.strCells endS = cellsL (linA6 fx d) := by unfold cellsL linA6; rw [List.flatMap_append]; simp
      rw [this]
      exact cellsL_bytes _
    rw [h4] at h1
    refine (pr_string (w.heap.size + 1) b (printL fx d) W (Or.inr h1) ?_).mono fun e w' h => ⟨h.1, h3.trans (h.2.mono (by omega))⟩
    unfold printL linA6
    rw [List.flatMap_append]
    intro e
    have := congrArg List.length e
    simp [endS] at this
  have HPo : Hid (∀ w', Below w.heap.size w w' → SPost (printS fx d) w (.returned (.string (printS fx d))) w') := fun w' h => ⟨rfl, h⟩
  have HPI := Lib.hid hE.ins
  have HPA := Lib.hid hE.ins.addr
  have HPW := Lib.hid hE.wires
  have HPWA := Lib.hid hE.wires.addr
  have HPR := Lib.hid hE.regs
  have HPRA := Lib.hid hE.regs.addr
  have HPO := Lib.hid hE.outs
  have HPOA := Lib.hid hE.outs.addr
  have hci := hE.ins.1
  have hcw := hE.wires.1
  have hcr := hE.regs.1
  have hco := hE.outs.1
  have hnm := hs.nm
  have HNi : Hid (∀ k (hk : k < d.inputs.length), (d.inputs[k]'hk).name.size ≤ 1099511627776 ∧ FmtC w.heap.size w (d.inputs[k]'hk).width ∧ (fmtS (d.inputs[k]'hk).width).size ≤ 100) := fun k hk => by
    have h1 := hs.names (d.inputs[k]'hk).name (by unfold DesD.names; exact List.mem_append_left _ (List.mem_append_left _ (List.mem_map.2 ⟨_, List.getElem_mem hk, rfl⟩)))
    exact ⟨by omega, hfm _ (Or.inl (by unfold DesD.widths; exact List.mem_append_left _ (List.mem_append_left _ (List.mem_map.2 ⟨_, List.getElem_mem hk, rfl⟩))))⟩
  have HNw : Hid (∀ k (hk : k < d.wires.length), (d.wires[k]'hk).name.size ≤ 1099511627776 ∧ (FmtC w.heap.size w (d.wires[k]'hk).width ∧ (fmtS (d.wires[k]'hk).width).size ≤ 100) ∧ PrintC w.heap.size w (d.wires[k]'hk).expr (fx (d.wires[k]'hk).expr) ∧ (fx (d.wires[k]'hk).expr).size ≤ 1099511627776) := fun k hk => by
    have h1 := hs.names (d.wires[k]'hk).name (by unfold DesD.names; exact List.mem_append_left _ (List.mem_append_right _ (List.mem_map.2 ⟨_, List.getElem_mem hk, rfl⟩)))
    exact ⟨by omega, hfm _ (Or.inl (by unfold DesD.widths; exact List.mem_append_left _ (List.mem_append_right _ (List.mem_map.2 ⟨_, List.getElem_mem hk, rfl⟩)))), hfx _ (wire_expr hk)⟩
  have HNr : Hid (∀ k (hk : k < d.regs.length), (d.regs[k]'hk).name.size ≤ 1099511627776 ∧ (FmtC w.heap.size w (d.regs[k]'hk).width ∧ (fmtS (d.regs[k]'hk).width).size ≤ 100) ∧ (FmtC w.heap.size w (d.regs[k]'hk).init ∧ (fmtS (d.regs[k]'hk).init).size ≤ 100) ∧ PrintC w.heap.size w (d.regs[k]'hk).next (fx (d.regs[k]'hk).next) ∧ (fx (d.regs[k]'hk).next).size ≤ 1099511627776) := fun k hk => by
    have h1 := hs.names (d.regs[k]'hk).name (by unfold DesD.names; exact List.mem_append_right _ (List.mem_map.2 ⟨_, List.getElem_mem hk, rfl⟩))
    exact ⟨by omega, hfm _ (Or.inl (by unfold DesD.widths; exact List.mem_append_right _ (List.mem_map.2 ⟨_, List.getElem_mem hk, rfl⟩))), hfm _ (Or.inr (List.mem_map.2 ⟨_, List.getElem_mem hk, rfl⟩)), hfx _ (reg_expr hk)⟩
  have HNo : Hid (∀ k (hk : k < d.outputs.length), (d.outputs[k]'hk).size ≤ 1099511627776) := fun k hk => outs_size he hs (List.getElem_mem hk)
  unfold SPost at HEnd
  generalize SPost (printS fx d) w = Po at HPo ⊢
  have HH : Hid (∀ W b, IsPr (w.heap.size + 1) b [] W → w.heap.size + 1 ≤ W.heap.size → Calls Tryz.prog 75 #[.pointer (some ⟨b, 0, none⟩), .string (hdrS d.name)] W fun e w' => e = .returned (.tuple #[.int .i64 (hdrS d.name).size, .nilIface]) ∧ (PrAt (w.heap.size + 1) b (.pointer (some ⟨b, 0, none⟩)) (C1 0) w' ∧ Below (w.heap.size + 1) W w' ∧ PrFr b W w')) := fun W b h1 h2 => by
    have := pr_write (w.heap.size + 1) b [] (hdrS d.name) W h1 (by unfold hdrS; simp only [ByteArray.size_append, List.length_nil]; show 0 + (7 + d.name.size + 3) ≤ _; omega) h2
    have h3 : [] ++ Lib.strCells (hdrS d.name) = C1 0 := by rw [HC1.zero]; simp [cellsL, linA1]
    rw [h3] at this
    exact this
  have e2 : C2 0 = C1 d.inputs.length := by rw [HC2.zero, HC1.all]
  have e3 : C3 0 = C2 d.wires.length := by rw [HC3.zero, HC2.all]
  have e4 : C4 0 = C3 d.regs.length := by rw [HC4.zero, HC3.all]
  rw [← HC4.all] at HEnd
  have HS1 := Lib.hid (fun k (hk : k < d.inputs.length) => HC1.step k hk)
  have HS2 := Lib.hid (fun k (hk : k < d.wires.length) => HC2.step k hk)
  have HS3 := Lib.hid (fun k (hk : k < d.regs.length) => HC3.step k hk)
  have HS4 := Lib.hid (fun k (hk : k < d.outputs.length) => HC4.step k hk)
  have HZ1 := Lib.hid HC1.len
  have HZ2 := Lib.hid HC2.len
  have HZ3 := Lib.hid HC3.len
  have HZ4 := Lib.hid HC4.len
  have HL1 := Lib.hid hL1
  have HL2 := Lib.hid hL2
  have HL3 := Lib.hid hL3
  have HL4 := Lib.hid hL4
  clear HC1 HC2 HC3 HC4 hL1 hL2 hL3 hL4 ht2 ht3 ht4 ht5 hT hfm hfx he hG hs
  generalize printS fx d = RES at HEnd HPo
  simp only [desVal, desVals] at HV0 ⊢
  have hbA : Below w.heap.size w (w.alloc (.cells #[.string d.name, .slice x.ai d.inputs.length x.ci, .slice x.aw d.wires.length x.cw, .slice x.ar d.regs.length x.cr, .slice x.ao d.outputs.length x.co] 27)) := (by repeat (first | assumption | exact Below.refl _ _ | refine Below.drew ?_ | refine below_drewN ?_ _ | refine Below.alloc ?_ (by first | omega | (simp only [World.size_alloc, World.size_setCell, World.size_drew, World.heap_drewN] <;> omega) | (simp <;> omega)) _ | refine Below.setCell ?_ (by first | omega | (simp only [World.size_alloc, World.size_setCell, World.size_drew, World.heap_drewN] <;> omega) | (simp <;> omega)) _))
  have HB0 : Hid (Below (w.heap.size + 1) (w.alloc (.cells #[.string d.name, .slice x.ai d.inputs.length x.ci, .slice x.aw d.wires.length x.cw, .slice x.ar d.regs.length x.cr, .slice x.ao d.outputs.length x.co] 27)) (w.alloc (.cells #[.string d.name, .slice x.ai d.inputs.length x.ci, .slice x.aw d.wires.length x.cw, .slice x.ar d.regs.length x.cr, .slice x.ao d.outputs.length x.co] 27))) := Below.refl _ _
  have HV1 := Lib.hid (HV0.out _ hbA)
  clear HV0 hbA hE
  obtain ⟨ai, ci, aw, cw, ar, cr, ao, co⟩ := x
  simp only at *
  unfold hdrS at HH
  generalize hDB : (w.alloc (.cells #[.string d.name, .slice ai d.inputs.length ci, .slice aw d.wires.length cw, .slice ar d.regs.length cr, .slice ao d.outputs.length co] 27)) = DB at HB0 HV1
  have HDB := Lib.hid hDB
  clear hDB
  have HBox : Hid (∀ W, Below (w.heap.size + 1) DB W → (W.cell? ⟨w.heap.size, 0, none⟩ = some (.string d.name) ∧ W.cell? ⟨w.heap.size, 1, none⟩ = some (.slice ai d.inputs.length ci) ∧ W.cell? ⟨w.heap.size, 2, none⟩ = some (.slice aw d.wires.length cw) ∧ W.cell? ⟨w.heap.size, 3, none⟩ = some (.slice ar d.regs.length cr) ∧ W.cell? ⟨w.heap.size, 4, none⟩ = some (.slice ao d.outputs.length co)) ∧ Below w.heap.size w W ∧ w.heap.size + 1 ≤ W.heap.size) := fun W hW => by
    have hDB := HDB.out
    subst hDB
    have b0 := box_cell hW 0
    have b1 := box_cell hW 1
    have b2 := box_cell hW 2
    have b3 := box_cell hW 3
    have b4 := box_cell hW 4
    simp at b0 b1 b2 b3 b4
    refine ⟨⟨b0, b1, b2, b3, b4⟩, boxW _ hW, ?_⟩
    have := hW.size
    simpa using this
  go_enter Tryz.func31, Tryz.ntmps31
  go_wp2_with fail
  rw [HDB.out]
  refine HV1.out.mono ?_
  rintro e w1 ⟨rfl, hb1⟩
  have HB1 := Lib.hid (HB0.out.trans (hb1.mono (by rw [← HDB.out]; simp)))
  obtain ⟨⟨b0, b1, b2, b3, b4⟩, hbw1, hz1⟩ := HBox.out w1 HB1.out
  clear hb1 HV1 HDB HB0
  have HB2 := Lib.hid (HB1.out.alloc hz1 (.cells #[.pointer none, .slice none 0 0] 104))
  obtain ⟨⟨a0, a1, a2, a3, a4⟩, _, _⟩ := HBox.out _ HB2.out
  have HHd := Lib.hid (HH.out (w1.alloc (.cells #[.pointer none, .slice none 0 0] 104)) w1.heap.size (Or.inl ⟨hz1, _, heap_alloc_at _ _ _ rfl, World.ownsRow_nil _ _ _ _, by simp [Value.ownBlock]⟩) (by simp; omega))
  have q1 : ¬ 9223372036854775807 < 7 + d.name.size := by omega
  have q2 : ¬ 9223372036854775807 < 7 + d.name.size + 3 := by omega
  go_wp2_with fail
  refine HHd.out.mono ?_
  rintro e w2 ⟨rfl, hp2, hb2, _⟩
  have HP2 := Lib.hid hp2
  have HB3 := Lib.hid (HB2.out.trans hb2)
  obtain ⟨⟨b0, b1, b2, b3, b4⟩, hbw2, hz2⟩ := HBox.out w2 HB3.out
  clear hp2 hb2 HHd HB2 HB1 HH hbw1 a0 a1 a2 a3 a4
  generalize hbb : w1.heap.size = bb at *
  clear hbb
  go_wp2_with fail
  go_loopw [24] (fun i wr => ∃ k : Nat, i = .int .i64 k ∧ k ≤ d.inputs.length ∧ Hid (PrAt (w.heap.size + 1) bb (.pointer (some ⟨bb, 0, none⟩)) (C1 k) wr) ∧ Hid (Below (w.heap.size + 1) DB wr)) (fun i _ => d.inputs.length - (intOf i).toNat)
  case atStart => exact ⟨0, rfl, Nat.zero_le _, HP2, HB3⟩
  case round =>
    obtain ⟨k, rfl, hk, HP, HB⟩ := hrel
    obtain ⟨⟨b0, b1, b2, b3, b4⟩, hbw, hzr⟩ := HBox.out wr HB.out
    by_cases hlt : k < d.inputs.length
    · obtain ⟨b, off, ha⟩ := HPA.out.resolve_left (by omega)
      subst ha
      obtain ⟨c0, c1⟩ := (HPI.out.keep (keeps_of_below hbw)).get rfl hlt
      obtain ⟨hn1, hf1, hf2⟩ := HNi.out k hlt
      have hX : Below wr.heap.size wr (wr.alloc (.cells #[.string (d.inputs[k]'hlt).name, .int .i64 (d.inputs[k]'hlt).width] 91)) := (Below.refl _ _).alloc (Nat.le_refl _) _
      have HLn := line_any (w.heap.size + 1) bb (C1 k) kIn (d.inputs[k]'hlt).name ⟨#[]⟩ (d.inputs[k]'hlt).width _ (IsPr.below (Or.inr HP.out) hX) (by simp; omega) (by decide) hn1 (by decide) (HZ1.out k hk) hf2 (fun W hW => hf1 W (hbw.trans ((hX.trans (hW.mono (by simp))).mono hbw.size)))
      have hst := HS1.out k hlt
      rw [HL1.out k hlt] at hst
      unfold LinePost at HLn
      unfold inLine at hst
      rw [hst] at HLn
      have HLn := Lib.hid HLn
      have HBx := Lib.hid (HB.out.trans (hX.mono hzr))
      unfold kIn at HLn
      generalize (d.inputs[k]'hlt) = pt at c0 c1 HLn HBx
      clear hX hf1 hf2 hn1 hst hbw
      go_wp2_with fail
      refine HLn.out.mono ?_
      rintro e w4 ⟨rfl, hp4, hb4, _⟩
      have HP4 := Lib.hid hp4
      have HB4 := Lib.hid (HBx.out.trans hb4)
      clear hp4 hb4
      go_wp2_with fail
      go_roundw
      case rel => exact ⟨k + 1, by go_num, by omega, HP4, HB4⟩
      case measure => (simp [intOf]; try omega)
    · obtain rfl : k = d.inputs.length := by omega
      rw [← e2] at HP
      have HP1 := HP
      have HB1 := HB
      clear HP HB HP2 HB3 HNi HS1 HZ1 HL1 hbw hbw2 hz2 hzr
      rename World => wa
      go_wp2_with fail
      go_loopw [37] (fun i wr => ∃ k : Nat, i = .int .i64 k ∧ k ≤ d.wires.length ∧ Hid (PrAt (w.heap.size + 1) bb (.pointer (some ⟨bb, 0, none⟩)) (C2 k) wr) ∧ Hid (Below (w.heap.size + 1) DB wr)) (fun i _ => d.wires.length - (intOf i).toNat)
      case atStart => exact ⟨0, rfl, Nat.zero_le _, HP1, HB1⟩
      case round =>
        obtain ⟨k, rfl, hk, HP, HB⟩ := hrel
        obtain ⟨⟨b0, b1, b2, b3, b4⟩, hbw, hzr⟩ := HBox.out wr HB.out
        by_cases hlt : k < d.wires.length
        · obtain ⟨b, off, ha⟩ := HPWA.out.resolve_left (by omega)
          subst ha
          obtain ⟨ae, ce, c0, c1, c2, c3, c4, c5, hXe⟩ := (HPW.out.keep (keeps_of_below hbw)).get rfl hlt
          obtain ⟨hn1, ⟨hf1, hf2⟩, hp1, hp2⟩ := HNw.out k hlt
          have hX : Below wr.heap.size wr (wr.alloc (.cells #[.string (d.wires[k]'hlt).name, .int .i64 (d.wires[k]'hlt).width, .int .i64 (d.wires[k]'hlt).expr.op, .int .i64 (d.wires[k]'hlt).expr.n, .string (d.wires[k]'hlt).expr.name, .slice ae (d.wires[k]'hlt).expr.args.length ce] 57)) := (Below.refl _ _).alloc (Nat.le_refl _) _
          have hst := HS2.out k hlt
          rw [HL2.out k hlt] at hst
          unfold wireLine at hst
          have HXc0 : ∀ W : World, W.heap[wr.heap.size]? = some (.cells #[.string (d.wires[k]'hlt).name, .int .i64 (d.wires[k]'hlt).width, .int .i64 (d.wires[k]'hlt).expr.op, .int .i64 (d.wires[k]'hlt).expr.n, .string (d.wires[k]'hlt).expr.name, .slice ae (d.wires[k]'hlt).expr.args.length ce] 57 (0, 0)) → W.cell? ⟨wr.heap.size, 0, none⟩ = some (.string (d.wires[k]'hlt).name) ∧ W.cell? ⟨wr.heap.size, 1, none⟩ = some (.int .i64 (d.wires[k]'hlt).width) ∧ W.cell? ⟨wr.heap.size, 2, none⟩ = some (.int .i64 (d.wires[k]'hlt).expr.op) ∧ W.cell? ⟨wr.heap.size, 3, none⟩ = some (.int .i64 (d.wires[k]'hlt).expr.n) ∧ W.cell? ⟨wr.heap.size, 4, none⟩ = some (.string (d.wires[k]'hlt).expr.name) ∧ W.cell? ⟨wr.heap.size, 5, none⟩ = some (.slice ae (d.wires[k]'hlt).expr.args.length ce) := fun W h => by
            have q0 := cell_of_blk h 0
            have q1 := cell_of_blk h 1
            have q2 := cell_of_blk h 2
            have q3 := cell_of_blk h 3
            have q4 := cell_of_blk h 4
            have q5 := cell_of_blk h 5
            simp at q0 q1 q2 q3 q4 q5
            exact ⟨q0, q1, q2, q3, q4, q5⟩
          have hblk : ∀ W : World, Below (wr.alloc (.cells #[.string (d.wires[k]'hlt).name, .int .i64 (d.wires[k]'hlt).width, .int .i64 (d.wires[k]'hlt).expr.op, .int .i64 (d.wires[k]'hlt).expr.n, .string (d.wires[k]'hlt).expr.name, .slice ae (d.wires[k]'hlt).expr.args.length ce] 57)).heap.size (wr.alloc (.cells #[.string (d.wires[k]'hlt).name, .int .i64 (d.wires[k]'hlt).width, .int .i64 (d.wires[k]'hlt).expr.op, .int .i64 (d.wires[k]'hlt).expr.n, .string (d.wires[k]'hlt).expr.name, .slice ae (d.wires[k]'hlt).expr.args.length ce] 57)) W → W.heap[wr.heap.size]? = some (.cells #[.string (d.wires[k]'hlt).name, .int .i64 (d.wires[k]'hlt).width, .int .i64 (d.wires[k]'hlt).expr.op, .int .i64 (d.wires[k]'hlt).expr.n, .string (d.wires[k]'hlt).expr.name, .slice ae (d.wires[k]'hlt).expr.args.length ce] 57 (0, 0)) := fun W hW => (hW.block _ (by simp)).trans (heap_alloc_at _ _ _ rfl)
          have hbb : bb < wr.heap.size := by obtain ⟨_, v, h1, _⟩ := HP.out; exact lt_of_block h1
          have HLn : Hid (∀ W, Below (wr.alloc (.cells #[.string (d.wires[k]'hlt).name, .int .i64 (d.wires[k]'hlt).width, .int .i64 (d.wires[k]'hlt).expr.op, .int .i64 (d.wires[k]'hlt).expr.n, .string (d.wires[k]'hlt).expr.name, .slice ae (d.wires[k]'hlt).expr.args.length ce] 57)).heap.size (wr.alloc (.cells #[.string (d.wires[k]'hlt).name, .int .i64 (d.wires[k]'hlt).width, .int .i64 (d.wires[k]'hlt).expr.op, .int .i64 (d.wires[k]'hlt).expr.n, .string (d.wires[k]'hlt).expr.name, .slice ae (d.wires[k]'hlt).expr.args.length ce] 57)) W → Calls Tryz.prog 76 #[.pointer (some ⟨bb, 0, none⟩), .string kWire, .string (d.wires[k]'hlt).name, .int .i64 (d.wires[k]'hlt).width, .string (eqS (fx (d.wires[k]'hlt).expr))] W fun e w' => e = .returned (.tuple #[]) ∧ PrAt (w.heap.size + 1) bb (.pointer (some ⟨bb, 0, none⟩)) (C2 (k + 1)) w' ∧ Below (w.heap.size + 1) DB w' ∧ (w'.cell? ⟨wr.heap.size, 0, none⟩ = some (.string (d.wires[k]'hlt).name) ∧ w'.cell? ⟨wr.heap.size, 1, none⟩ = some (.int .i64 (d.wires[k]'hlt).width) ∧ w'.cell? ⟨wr.heap.size, 2, none⟩ = some (.int .i64 (d.wires[k]'hlt).expr.op) ∧ w'.cell? ⟨wr.heap.size, 3, none⟩ = some (.int .i64 (d.wires[k]'hlt).expr.n) ∧ w'.cell? ⟨wr.heap.size, 4, none⟩ = some (.string (d.wires[k]'hlt).expr.name) ∧ w'.cell? ⟨wr.heap.size, 5, none⟩ = some (.slice ae (d.wires[k]'hlt).expr.args.length ce))) := fun W hW => by
            have hwW : Below wr.heap.size wr W := hX.trans (hW.mono (by simp))
            refine (line_any (w.heap.size + 1) bb (C2 k) kWire (d.wires[k]'hlt).name (eqS (fx (d.wires[k]'hlt).expr)) (d.wires[k]'hlt).width W (IsPr.below (Or.inr HP.out) hwW) (Nat.le_trans hzr hwW.size) (by decide) hn1 (by unfold eqS; simp only [ByteArray.size_append]; show 3 + (fx (d.wires[k]'hlt).expr).size ≤ _; omega) (HZ2.out k hk) hf2 (fun W' hW' => hf1 W' (hbw.trans ((hwW.trans (hW'.mono hwW.size)).mono hbw.size)))).mono fun e w' h => ⟨h.1, by rw [← hst]; exact h.2.1, (HB.out.trans (hwW.mono hzr)).trans h.2.2.1, HXc0 w' (h.2.2.2 _ _ _ _ (hblk W hW) (by decide) (by omega))⟩
          have HPr : Hid (∀ W, Below (wr.alloc (.cells #[.string (d.wires[k]'hlt).name, .int .i64 (d.wires[k]'hlt).width, .int .i64 (d.wires[k]'hlt).expr.op, .int .i64 (d.wires[k]'hlt).expr.n, .string (d.wires[k]'hlt).expr.name, .slice ae (d.wires[k]'hlt).expr.args.length ce] 57)).heap.size (wr.alloc (.cells #[.string (d.wires[k]'hlt).name, .int .i64 (d.wires[k]'hlt).width, .int .i64 (d.wires[k]'hlt).expr.op, .int .i64 (d.wires[k]'hlt).expr.n, .string (d.wires[k]'hlt).expr.name, .slice ae (d.wires[k]'hlt).expr.args.length ce] 57)) W → Calls Tryz.prog 77 #[.agg #[.int .i64 (d.wires[k]'hlt).expr.op, .int .i64 (d.wires[k]'hlt).expr.n, .string (d.wires[k]'hlt).expr.name, .slice ae (d.wires[k]'hlt).expr.args.length ce]] W fun e w' => e = .returned (.string (fx (d.wires[k]'hlt).expr)) ∧ Below (wr.alloc (.cells #[.string (d.wires[k]'hlt).name, .int .i64 (d.wires[k]'hlt).width, .int .i64 (d.wires[k]'hlt).expr.op, .int .i64 (d.wires[k]'hlt).expr.n, .string (d.wires[k]'hlt).expr.name, .slice ae (d.wires[k]'hlt).expr.args.length ce] 57)).heap.size (wr.alloc (.cells #[.string (d.wires[k]'hlt).name, .int .i64 (d.wires[k]'hlt).width, .int .i64 (d.wires[k]'hlt).expr.op, .int .i64 (d.wires[k]'hlt).expr.n, .string (d.wires[k]'hlt).expr.name, .slice ae (d.wires[k]'hlt).expr.args.length ce] 57)) w') := fun W hW => by
            have hwW : Below wr.heap.size wr W := hX.trans (hW.mono (by simp))
            exact (hp1 ae ce W (hbw.trans (hwW.mono hbw.size)) (Nat.le_trans (Nat.le_trans (by omega) hzr) hwW.size) (hXe.keep (keeps_of_below hwW))).mono fun e w' h => ⟨h.1, hW.trans (h.2.mono hW.size)⟩
          have HBx := Lib.hid (HB.out.trans (hX.mono hzr))
          have HSB : Hid (∀ W : World, Below (wr.alloc (.cells #[.string (d.wires[k]'hlt).name, .int .i64 (d.wires[k]'hlt).width, .int .i64 (d.wires[k]'hlt).expr.op, .int .i64 (d.wires[k]'hlt).expr.n, .string (d.wires[k]'hlt).expr.name, .slice ae (d.wires[k]'hlt).expr.args.length ce] 57)).heap.size (wr.alloc (.cells #[.string (d.wires[k]'hlt).name, .int .i64 (d.wires[k]'hlt).width, .int .i64 (d.wires[k]'hlt).expr.op, .int .i64 (d.wires[k]'hlt).expr.n, .string (d.wires[k]'hlt).expr.name, .slice ae (d.wires[k]'hlt).expr.args.length ce] 57)) W → Below (w.heap.size + 1) DB W ∧ W.cell? ⟨wr.heap.size, 0, none⟩ = some (.string (d.wires[k]'hlt).name) ∧ W.cell? ⟨wr.heap.size, 1, none⟩ = some (.int .i64 (d.wires[k]'hlt).width) ∧ W.cell? ⟨wr.heap.size, 2, none⟩ = some (.int .i64 (d.wires[k]'hlt).expr.op) ∧ W.cell? ⟨wr.heap.size, 3, none⟩ = some (.int .i64 (d.wires[k]'hlt).expr.n) ∧ W.cell? ⟨wr.heap.size, 4, none⟩ = some (.string (d.wires[k]'hlt).expr.name) ∧ W.cell? ⟨wr.heap.size, 5, none⟩ = some (.slice ae (d.wires[k]'hlt).expr.args.length ce)) := fun W hW => ⟨HBx.out.trans (hW.mono (by simp; omega)), HXc0 W (hblk W hW)⟩
          have htz := hp2
          unfold kWire eqS at HLn
          clear HXc0 hblk hX hXe hf1 hf2 hn1 hst hbw hp1 hp2
          generalize fx (d.wires[k]'hlt).expr = tx at HLn HPr htz
          generalize (d.wires[k]'hlt) = wi at c0 c1 c2 c3 c4 c5 HLn HPr HBx HSB
          obtain ⟨wnm, wwd, ⟨eop, en, enm, eargs⟩⟩ := wi
          simp only [Ex.op_mk, Ex.n_mk, Ex.name_mk, Ex.args_mk] at c0 c1 c2 c3 c4 c5 HLn HPr HBx HSB
          generalize eargs.length = ek at c5 HLn HPr HBx HSB
          have q3 : ¬ 9223372036854775807 < 3 + tx.size := by omega
          go_wp2_with fail
          go_region_held3 (fun w' => Below (w.heap.size + 1) DB w' ∧ w'.cell? ⟨wr.heap.size, 0, none⟩ = some (.string wnm) ∧ w'.cell? ⟨wr.heap.size, 1, none⟩ = some (.int .i64 wwd) ∧ w'.cell? ⟨wr.heap.size, 2, none⟩ = some (.int .i64 eop) ∧ w'.cell? ⟨wr.heap.size, 3, none⟩ = some (.int .i64 en) ∧ w'.cell? ⟨wr.heap.size, 4, none⟩ = some (.string enm) ∧ w'.cell? ⟨wr.heap.size, 5, none⟩ = some (.slice ae ek ce))
            ((first | (with_reducible exact ⟨by assumption, by assumption⟩) | (with_reducible exact HSB.out _ (by assumption)) | (exact HSB.out _ (Below.drew (Below.refl _ _)))))
            (first
              | (go_at_call 77; (with_reducible refine (HPr.out _ ?hin).mono ?_); (case hin => (exact Below.drew (Below.refl _ _))); rintro r w5 ⟨rfl, hb5⟩)
              | (go_at_call 76; (with_reducible refine (HLn.out _ ?hin).mono ?_); (case hin => (exact hb5)); rintro r w6 ⟨rfl, hp6, hb6, hc6⟩; (have HP6 := Lib.hid hp6); (have HB6 := Lib.hid hb6); clear hp6))
          all_goals
            (try clear hb6 hc6)
            (try clear hb5)
            go_wp2_with fail
            go_roundw
            case rel => exact ⟨k + 1, by go_num, by omega, HP6, HB6⟩
            case measure => (simp [intOf]; try omega)
        · obtain rfl : k = d.wires.length := by omega
          rw [← e3] at HP
          have HP1 := HP
          have HB1 := HB
          clear HP HB HNw HS2 HZ2 HL2 hbw hzr
          rename World => wb
          go_wp2_with fail
          go_loopw [54] (fun i wr => ∃ k : Nat, i = .int .i64 k ∧ k ≤ d.regs.length ∧ Hid (PrAt (w.heap.size + 1) bb (.pointer (some ⟨bb, 0, none⟩)) (C3 k) wr) ∧ Hid (Below (w.heap.size + 1) DB wr)) (fun i _ => d.regs.length - (intOf i).toNat)
          case atStart => exact ⟨0, rfl, Nat.zero_le _, HP1, HB1⟩
          case round =>
            obtain ⟨k, rfl, hk, HP, HB⟩ := hrel
            obtain ⟨⟨b0, b1, b2, b3, b4⟩, hbw, hzr⟩ := HBox.out wr HB.out
            by_cases hlt : k < d.regs.length
            · obtain ⟨b, off, ha⟩ := HPRA.out.resolve_left (by omega)
              subst ha
              obtain ⟨ae, ce, c0, c1, c2, c3, c4, c5, c6, hXe⟩ := (HPR.out.keep (keeps_of_below hbw)).get rfl hlt
              obtain ⟨hn1, ⟨hf1, hf2⟩, ⟨hi1, hi2⟩, hp1, hp2⟩ := HNr.out k hlt
              have hX : Below wr.heap.size wr (wr.alloc (.cells #[.string (d.regs[k]'hlt).name, .int .i64 (d.regs[k]'hlt).width, .int .i64 (d.regs[k]'hlt).init, .int .i64 (d.regs[k]'hlt).next.op, .int .i64 (d.regs[k]'hlt).next.n, .string (d.regs[k]'hlt).next.name, .slice ae (d.regs[k]'hlt).next.args.length ce] 62)) := (Below.refl _ _).alloc (Nat.le_refl _) _
              have hst := HS3.out k hlt
              rw [HL3.out k hlt] at hst
              unfold regLine at hst
              have HXc0 : ∀ W : World, W.heap[wr.heap.size]? = some (.cells #[.string (d.regs[k]'hlt).name, .int .i64 (d.regs[k]'hlt).width, .int .i64 (d.regs[k]'hlt).init, .int .i64 (d.regs[k]'hlt).next.op, .int .i64 (d.regs[k]'hlt).next.n, .string (d.regs[k]'hlt).next.name, .slice ae (d.regs[k]'hlt).next.args.length ce] 62 (0, 0)) → W.cell? ⟨wr.heap.size, 0, none⟩ = some (.string (d.regs[k]'hlt).name) ∧ W.cell? ⟨wr.heap.size, 1, none⟩ = some (.int .i64 (d.regs[k]'hlt).width) ∧ W.cell? ⟨wr.heap.size, 2, none⟩ = some (.int .i64 (d.regs[k]'hlt).init) ∧ W.cell? ⟨wr.heap.size, 3, none⟩ = some (.int .i64 (d.regs[k]'hlt).next.op) ∧ W.cell? ⟨wr.heap.size, 4, none⟩ = some (.int .i64 (d.regs[k]'hlt).next.n) ∧ W.cell? ⟨wr.heap.size, 5, none⟩ = some (.string (d.regs[k]'hlt).next.name) ∧ W.cell? ⟨wr.heap.size, 6, none⟩ = some (.slice ae (d.regs[k]'hlt).next.args.length ce) := fun W h => by
                have q0 := cell_of_blk h 0
                have q1 := cell_of_blk h 1
                have q2 := cell_of_blk h 2
                have q3 := cell_of_blk h 3
                have q4 := cell_of_blk h 4
                have q5 := cell_of_blk h 5
                have q6 := cell_of_blk h 6
                simp at q0 q1 q2 q3 q4 q5 q6
                exact ⟨q0, q1, q2, q3, q4, q5, q6⟩
              have hblk : ∀ W : World, Below (wr.alloc (.cells #[.string (d.regs[k]'hlt).name, .int .i64 (d.regs[k]'hlt).width, .int .i64 (d.regs[k]'hlt).init, .int .i64 (d.regs[k]'hlt).next.op, .int .i64 (d.regs[k]'hlt).next.n, .string (d.regs[k]'hlt).next.name, .slice ae (d.regs[k]'hlt).next.args.length ce] 62)).heap.size (wr.alloc (.cells #[.string (d.regs[k]'hlt).name, .int .i64 (d.regs[k]'hlt).width, .int .i64 (d.regs[k]'hlt).init, .int .i64 (d.regs[k]'hlt).next.op, .int .i64 (d.regs[k]'hlt).next.n, .string (d.regs[k]'hlt).next.name, .slice ae (d.regs[k]'hlt).next.args.length ce] 62)) W → W.heap[wr.heap.size]? = some (.cells #[.string (d.regs[k]'hlt).name, .int .i64 (d.regs[k]'hlt).width, .int .i64 (d.regs[k]'hlt).init, .int .i64 (d.regs[k]'hlt).next.op, .int .i64 (d.regs[k]'hlt).next.n, .string (d.regs[k]'hlt).next.name, .slice ae (d.regs[k]'hlt).next.args.length ce] 62 (0, 0)) := fun W hW => (hW.block _ (by simp)).trans (heap_alloc_at _ _ _ rfl)
              have hbb : bb < wr.heap.size := by obtain ⟨_, v, h1, _⟩ := HP.out; exact lt_of_block h1
              have hths : (thenS (fmtS (d.regs[k]'hlt).init) (fx (d.regs[k]'hlt).next)).size ≤ 2199023255552 := by
                unfold thenS
                simp only [ByteArray.size_append]
                show 3 + (fmtS (d.regs[k]'hlt).init).size + 6 + (fx (d.regs[k]'hlt).next).size ≤ _
                omega
              have HLn : Hid (∀ W, Below (wr.alloc (.cells #[.string (d.regs[k]'hlt).name, .int .i64 (d.regs[k]'hlt).width, .int .i64 (d.regs[k]'hlt).init, .int .i64 (d.regs[k]'hlt).next.op, .int .i64 (d.regs[k]'hlt).next.n, .string (d.regs[k]'hlt).next.name, .slice ae (d.regs[k]'hlt).next.args.length ce] 62)).heap.size (wr.alloc (.cells #[.string (d.regs[k]'hlt).name, .int .i64 (d.regs[k]'hlt).width, .int .i64 (d.regs[k]'hlt).init, .int .i64 (d.regs[k]'hlt).next.op, .int .i64 (d.regs[k]'hlt).next.n, .string (d.regs[k]'hlt).next.name, .slice ae (d.regs[k]'hlt).next.args.length ce] 62)) W → Calls Tryz.prog 76 #[.pointer (some ⟨bb, 0, none⟩), .string kReg, .string (d.regs[k]'hlt).name, .int .i64 (d.regs[k]'hlt).width, .string (thenS (fmtS (d.regs[k]'hlt).init) (fx (d.regs[k]'hlt).next))] W fun e w' => e = .returned (.tuple #[]) ∧ PrAt (w.heap.size + 1) bb (.pointer (some ⟨bb, 0, none⟩)) (C3 (k + 1)) w' ∧ Below (w.heap.size + 1) DB w' ∧ (w'.cell? ⟨wr.heap.size, 0, none⟩ = some (.string (d.regs[k]'hlt).name) ∧ w'.cell? ⟨wr.heap.size, 1, none⟩ = some (.int .i64 (d.regs[k]'hlt).width) ∧ w'.cell? ⟨wr.heap.size, 2, none⟩ = some (.int .i64 (d.regs[k]'hlt).init) ∧ w'.cell? ⟨wr.heap.size, 3, none⟩ = some (.int .i64 (d.regs[k]'hlt).next.op) ∧ w'.cell? ⟨wr.heap.size, 4, none⟩ = some (.int .i64 (d.regs[k]'hlt).next.n) ∧ w'.cell? ⟨wr.heap.size, 5, none⟩ = some (.string (d.regs[k]'hlt).next.name) ∧ w'.cell? ⟨wr.heap.size, 6, none⟩ = some (.slice ae (d.regs[k]'hlt).next.args.length ce))) := fun W hW => by
                have hwW : Below wr.heap.size wr W := hX.trans (hW.mono (by simp))
                refine (line_any (w.heap.size + 1) bb (C3 k) kReg (d.regs[k]'hlt).name (thenS (fmtS (d.regs[k]'hlt).init) (fx (d.regs[k]'hlt).next)) (d.regs[k]'hlt).width W (IsPr.below (Or.inr HP.out) hwW) (Nat.le_trans hzr hwW.size) (by decide) hn1 hths (HZ3.out k hk) hf2 (fun W' hW' => hf1 W' (hbw.trans ((hwW.trans (hW'.mono hwW.size)).mono hbw.size)))).mono fun e w' h => ⟨h.1, by rw [← hst]; exact h.2.1, (HB.out.trans (hwW.mono hzr)).trans h.2.2.1, HXc0 w' (h.2.2.2 _ _ _ _ (hblk W hW) (by decide) (by omega))⟩
              have HPr : Hid (∀ W, Below (wr.alloc (.cells #[.string (d.regs[k]'hlt).name, .int .i64 (d.regs[k]'hlt).width, .int .i64 (d.regs[k]'hlt).init, .int .i64 (d.regs[k]'hlt).next.op, .int .i64 (d.regs[k]'hlt).next.n, .string (d.regs[k]'hlt).next.name, .slice ae (d.regs[k]'hlt).next.args.length ce] 62)).heap.size (wr.alloc (.cells #[.string (d.regs[k]'hlt).name, .int .i64 (d.regs[k]'hlt).width, .int .i64 (d.regs[k]'hlt).init, .int .i64 (d.regs[k]'hlt).next.op, .int .i64 (d.regs[k]'hlt).next.n, .string (d.regs[k]'hlt).next.name, .slice ae (d.regs[k]'hlt).next.args.length ce] 62)) W → Calls Tryz.prog 77 #[.agg #[.int .i64 (d.regs[k]'hlt).next.op, .int .i64 (d.regs[k]'hlt).next.n, .string (d.regs[k]'hlt).next.name, .slice ae (d.regs[k]'hlt).next.args.length ce]] W fun e w' => e = .returned (.string (fx (d.regs[k]'hlt).next)) ∧ Below (wr.alloc (.cells #[.string (d.regs[k]'hlt).name, .int .i64 (d.regs[k]'hlt).width, .int .i64 (d.regs[k]'hlt).init, .int .i64 (d.regs[k]'hlt).next.op, .int .i64 (d.regs[k]'hlt).next.n, .string (d.regs[k]'hlt).next.name, .slice ae (d.regs[k]'hlt).next.args.length ce] 62)).heap.size (wr.alloc (.cells #[.string (d.regs[k]'hlt).name, .int .i64 (d.regs[k]'hlt).width, .int .i64 (d.regs[k]'hlt).init, .int .i64 (d.regs[k]'hlt).next.op, .int .i64 (d.regs[k]'hlt).next.n, .string (d.regs[k]'hlt).next.name, .slice ae (d.regs[k]'hlt).next.args.length ce] 62)) w') := fun W hW => by
                have hwW : Below wr.heap.size wr W := hX.trans (hW.mono (by simp))
                exact (hp1 ae ce W (hbw.trans (hwW.mono hbw.size)) (Nat.le_trans (Nat.le_trans (by omega) hzr) hwW.size) (hXe.keep (keeps_of_below hwW))).mono fun e w' h => ⟨h.1, hW.trans (h.2.mono hW.size)⟩
              have HFm : Hid (∀ W, Below (wr.alloc (.cells #[.string (d.regs[k]'hlt).name, .int .i64 (d.regs[k]'hlt).width, .int .i64 (d.regs[k]'hlt).init, .int .i64 (d.regs[k]'hlt).next.op, .int .i64 (d.regs[k]'hlt).next.n, .string (d.regs[k]'hlt).next.name, .slice ae (d.regs[k]'hlt).next.args.length ce] 62)).heap.size (wr.alloc (.cells #[.string (d.regs[k]'hlt).name, .int .i64 (d.regs[k]'hlt).width, .int .i64 (d.regs[k]'hlt).init, .int .i64 (d.regs[k]'hlt).next.op, .int .i64 (d.regs[k]'hlt).next.n, .string (d.regs[k]'hlt).next.name, .slice ae (d.regs[k]'hlt).next.args.length ce] 62)) W → Calls Tryz.prog 78 #[.int .i64 (d.regs[k]'hlt).init] W fun e w' => e = .returned (.string (fmtS (d.regs[k]'hlt).init)) ∧ Below (wr.alloc (.cells #[.string (d.regs[k]'hlt).name, .int .i64 (d.regs[k]'hlt).width, .int .i64 (d.regs[k]'hlt).init, .int .i64 (d.regs[k]'hlt).next.op, .int .i64 (d.regs[k]'hlt).next.n, .string (d.regs[k]'hlt).next.name, .slice ae (d.regs[k]'hlt).next.args.length ce] 62)).heap.size (wr.alloc (.cells #[.string (d.regs[k]'hlt).name, .int .i64 (d.regs[k]'hlt).width, .int .i64 (d.regs[k]'hlt).init, .int .i64 (d.regs[k]'hlt).next.op, .int .i64 (d.regs[k]'hlt).next.n, .string (d.regs[k]'hlt).next.name, .slice ae (d.regs[k]'hlt).next.args.length ce] 62)) w') := fun W hW => by
                have hwW : Below wr.heap.size wr W := hX.trans (hW.mono (by simp))
                exact (hi1 W (hbw.trans (hwW.mono hbw.size))).mono fun e w' h => ⟨h.1, hW.trans (h.2.mono hW.size)⟩
              have HBx := Lib.hid (HB.out.trans (hX.mono hzr))
              have HSB : Hid (∀ W : World, Below (wr.alloc (.cells #[.string (d.regs[k]'hlt).name, .int .i64 (d.regs[k]'hlt).width, .int .i64 (d.regs[k]'hlt).init, .int .i64 (d.regs[k]'hlt).next.op, .int .i64 (d.regs[k]'hlt).next.n, .string (d.regs[k]'hlt).next.name, .slice ae (d.regs[k]'hlt).next.args.length ce] 62)).heap.size (wr.alloc (.cells #[.string (d.regs[k]'hlt).name, .int .i64 (d.regs[k]'hlt).width, .int .i64 (d.regs[k]'hlt).init, .int .i64 (d.regs[k]'hlt).next.op, .int .i64 (d.regs[k]'hlt).next.n, .string (d.regs[k]'hlt).next.name, .slice ae (d.regs[k]'hlt).next.args.length ce] 62)) W → Below (w.heap.size + 1) DB W ∧ W.cell? ⟨wr.heap.size, 0, none⟩ = some (.string (d.regs[k]'hlt).name) ∧ W.cell? ⟨wr.heap.size, 1, none⟩ = some (.int .i64 (d.regs[k]'hlt).width) ∧ W.cell? ⟨wr.heap.size, 2, none⟩ = some (.int .i64 (d.regs[k]'hlt).init) ∧ W.cell? ⟨wr.heap.size, 3, none⟩ = some (.int .i64 (d.regs[k]'hlt).next.op) ∧ W.cell? ⟨wr.heap.size, 4, none⟩ = some (.int .i64 (d.regs[k]'hlt).next.n) ∧ W.cell? ⟨wr.heap.size, 5, none⟩ = some (.string (d.regs[k]'hlt).next.name) ∧ W.cell? ⟨wr.heap.size, 6, none⟩ = some (.slice ae (d.regs[k]'hlt).next.args.length ce)) := fun W hW => ⟨HBx.out.trans (hW.mono (by simp; omega)), HXc0 W (hblk W hW)⟩
              have htz := hp2
              have hfz := hi2
              unfold kReg thenS at HLn
              clear HXc0 hblk hX hXe hf1 hf2 hn1 hst hbw hp1 hp2 hi1 hi2 hths
              generalize fx (d.regs[k]'hlt).next = tx at HLn HPr htz
              generalize fmtS (d.regs[k]'hlt).init = fi at HLn HFm hfz
              generalize (d.regs[k]'hlt) = wi at c0 c1 c2 c3 c4 c5 c6 HLn HPr HFm HBx HSB
              obtain ⟨wnm, wwd, wit, ⟨eop, en, enm, eargs⟩⟩ := wi
              simp only [Ex.op_mk, Ex.n_mk, Ex.name_mk, Ex.args_mk] at c0 c1 c2 c3 c4 c5 c6 HLn HPr HFm HBx HSB
              generalize eargs.length = ek at c6 HLn HPr HFm HBx HSB
              have q3 : ¬ 9223372036854775807 < 3 + fi.size := by omega
              have q4 : ¬ 9223372036854775807 < 3 + fi.size + 6 := by omega
              have q5 : ¬ 9223372036854775807 < 3 + fi.size + 6 + tx.size := by omega
              go_wp2_with fail
              go_region_held3 (fun w' => Below (w.heap.size + 1) DB w' ∧ w'.cell? ⟨wr.heap.size, 0, none⟩ = some (.string wnm) ∧ w'.cell? ⟨wr.heap.size, 1, none⟩ = some (.int .i64 wwd) ∧ w'.cell? ⟨wr.heap.size, 2, none⟩ = some (.int .i64 wit) ∧ w'.cell? ⟨wr.heap.size, 3, none⟩ = some (.int .i64 eop) ∧ w'.cell? ⟨wr.heap.size, 4, none⟩ = some (.int .i64 en) ∧ w'.cell? ⟨wr.heap.size, 5, none⟩ = some (.string enm) ∧ w'.cell? ⟨wr.heap.size, 6, none⟩ = some (.slice ae ek ce))
                ((first | (with_reducible exact ⟨by assumption, by assumption⟩) | (with_reducible exact HSB.out _ (by assumption)) | (exact HSB.out _ (Below.drew (Below.refl _ _)))))
                (first
                  | (go_at_call 78; (with_reducible refine (HFm.out _ ?hin).mono ?_); (case hin => (exact Below.drew (Below.refl _ _))); rintro r w4 ⟨rfl, hb4⟩)
                  | (go_at_call 77; (with_reducible refine (HPr.out _ ?hin).mono ?_); (case hin => (exact hb4)); rintro r w5 ⟨rfl, hb5⟩; clear hb4)
                  | (go_at_call 76; (with_reducible refine (HLn.out _ ?hin).mono ?_); (case hin => (exact hb5)); rintro r w6 ⟨rfl, hp6, hb6, hc6⟩; (have HP6 := Lib.hid hp6); (have HB6 := Lib.hid hb6); clear hp6))
              all_goals
                (try clear hb6 hc6)
                (try clear hb5)
                go_wp2_with fail
                go_roundw
                case rel => exact ⟨k + 1, by go_num, by omega, HP6, HB6⟩
                case measure => (simp [intOf]; try omega)
            · obtain rfl : k = d.regs.length := by omega
              rw [← e4] at HP
              have HP1 := HP
              have HB1 := HB
              clear HP HB HNr HS3 HZ3 HL3 hbw hzr
              rename World => wc
              go_wp2_with fail
              go_loopw [76] (fun i wr => ∃ k : Nat, i = .int .i64 k ∧ k ≤ d.outputs.length ∧ Hid (PrAt (w.heap.size + 1) bb (.pointer (some ⟨bb, 0, none⟩)) (C4 k) wr) ∧ Hid (Below (w.heap.size + 1) DB wr)) (fun i _ => d.outputs.length - (intOf i).toNat)
              case atStart => exact ⟨0, rfl, Nat.zero_le _, HP1, HB1⟩
              case round =>
                obtain ⟨k, rfl, hk, HP, HB⟩ := hrel
                obtain ⟨⟨b0, b1, b2, b3, b4⟩, hbw, hzr⟩ := HBox.out wr HB.out
                by_cases hlt : k < d.outputs.length
                · obtain ⟨b, off, ha⟩ := HPOA.out.resolve_left (by omega)
                  subst ha
                  have c0 := (HPO.out.keep (keeps_of_below hbw)).get rfl hlt
                  have hn1 := HNo.out k hlt
                  have hst := HS4.out k hlt
                  rw [HL4.out k hlt] at hst
                  have hz4 := HZ4.out k hk
                  have HW4 := pr_write (w.heap.size + 1) bb (C4 k) (outLine (d.outputs[k]'hlt)) wr (Or.inr HP.out) (by unfold outLine; simp only [ByteArray.size_append]; show (C4 k).length + (11 + (d.outputs[k]'hlt).size + 2) ≤ _; omega) hzr
                  rw [hst] at HW4
                  unfold outLine at HW4
                  have HW4 := Lib.hid HW4
                  generalize (d.outputs[k]'hlt) = s at c0 HW4 hn1
                  have q3 : ¬ 9223372036854775807 < 11 + s.size := by omega
                  have q4 : ¬ 9223372036854775807 < 11 + s.size + 2 := by omega
                  clear hst hz4 hbw
                  go_wp2_with fail
                  refine HW4.out.mono ?_
                  rintro e w4 ⟨rfl, hp4, hb4, _⟩
                  have HP4 := Lib.hid hp4
                  have HB4 := Lib.hid (HB.out.trans hb4)
                  clear hp4 hb4
                  go_wp2_with fail
                  go_roundw
                  case rel => exact ⟨k + 1, by go_num, by omega, HP4, HB4⟩
                  case measure => (simp [intOf]; try omega)
                · obtain rfl : k = d.outputs.length := by omega
                  have hz4 := HZ4.out _ hk
                  have HW4 := Lib.hid (pr_write (w.heap.size + 1) bb (C4 d.outputs.length) endS wr (Or.inr HP.out) (by show (C4 d.outputs.length).length + 2 ≤ _; omega) hzr)
                  unfold endS at HW4
                  rename World => we
                  go_wp2_with fail
                  refine HW4.out.mono ?_
                  rintro e w5 ⟨rfl, hp5, hb5, _⟩
                  have HB5 := Lib.hid (HB.out.trans hb5)
                  obtain ⟨_, hbw5, hz5⟩ := HBox.out w5 HB5.out
                  have HS5 := Lib.hid (HEnd.out bb w5 hp5 hz5 hbw5)
                  clear hp5 hb5 hbw5
                  go_wp2_with fail
                  refine HS5.out.mono ?_
                  rintro e w6 ⟨rfl, hb6⟩
                  have HPe := Lib.hid (HPo.out w6 hb6)
                  clear hb6
                  go_wp2_with fail
                  first | exact HPe.out | (go_ret; exact HPe.out)
end Go.Proofs.YtihegbjlgpghbaaGreatDoor

/- law31: the text of the sample. -/
namespace Go.Proofs.YtihegbjlgpghbaaGreatDoor
open Go.RowKit

def smpFx (e : Ex) : ByteArray := if e.op = 7 then ⟨#[121, 32, 43, 32, 49]⟩ else if e.op = 10 then ⟨#[97, 32, 38, 32, 114]⟩ else ⟨#[120]⟩
def smpB : ByteArray := ⟨#[100, 101, 115, 105, 103, 110, 32, 100, 32, 123, 10, 32, 32, 32, 32, 105, 110, 112, 117, 116, 32, 97, 32, 58, 32, 52, 59, 10, 32, 32, 32, 32, 119, 105, 114, 101, 32, 120, 32, 58, 32, 52, 32, 61, 32, 121, 32, 43, 32, 49, 59, 10, 32, 32, 32, 32, 119, 105, 114, 101, 32, 121, 32, 58, 32, 52, 32, 61, 32, 97, 32, 38, 32, 114, 59, 10, 32, 32, 32, 32, 114, 101, 103, 32, 114, 32, 58, 32, 52, 32, 61, 32, 50, 32, 116, 104, 101, 110, 32, 120, 59, 10, 32, 32, 32, 32, 111, 117, 116, 112, 117, 116, 32, 120, 59, 10, 125, 10]⟩
theorem smp_printL : printL smpFx smpD = smpB.data.toList := by kernel_rfl
theorem smp_print : printS smpFx smpD = smpB := by unfold printS; rw [smp_printL, Array.toArray_toList]
theorem text_v {B : Nat} {w0 : World} (c : UInt8) (h : Lib.indexByte [c] 91 < 0) : TextC B w0 (vE c) ⟨#[c]⟩ := text_var 0 ⟨#[c]⟩ [] h
theorem fmt_one : fmtS 1 = ⟨#[49]⟩ := by kernel_rfl
theorem text_xE {B : Nat} {w0 : World} : TextC B w0 xE ⟨#[121, 32, 43, 32, 49]⟩ := by
  have h1 : AtC B w0 (vE 121) (lftL 11) ⟨#[121]⟩ := at_of (text_v 121 (by decide)) (by decide) _
  have h2 : AtC B w0 (kE 1) (rgtL 11) ⟨#[49]⟩ := at_of (by have := text_const (B := B) (w0 := w0) 1 .empty [] (fmt_small B w0 1 (by omega)); rw [fmt_one] at this; exact this) (by decide) _
  exact text_bin 7 0 .empty (m := ⟨#[43]⟩) (o := 7) (l := 11) rfl h1 h2 (by decide) (by decide)
theorem text_yE {B : Nat} {w0 : World} : TextC B w0 yE ⟨#[97, 32, 38, 32, 114]⟩ := by
  have h1 : AtC B w0 (vE 97) (lftL 7) ⟨#[97]⟩ := at_of (text_v 97 (by decide)) (by decide) _
  have h2 : AtC B w0 (vE 114) (rgtL 7) ⟨#[114]⟩ := at_of (text_v 114 (by decide)) (by decide) _
  exact text_bin 10 0 .empty (m := ⟨#[38]⟩) (o := 10) (l := 7) rfl h1 h2 (by decide) (by decide)
theorem smp_small : DesSmall smpD := by
  refine ⟨by decide, fun s hs => ?_, fun e he => ?_, by decide⟩
  · rw [smp_names] at hs
    simp only [smpN, List.mem_cons, List.not_mem_nil, or_false] at hs
    rcases hs with rfl | rfl | rfl | rfl <;> decide
  · have he' : e ∈ [xE, yE, vE 120] := he
    simp only [List.mem_cons, List.not_mem_nil, or_false] at he'
    rcases he' with rfl | rfl | rfl
    · rw [nodes_xE]; decide
    · rw [nodes_yE]; decide
    · rw [nodes_vE]; decide
theorem bad_small : DesSmall badD := by
  refine ⟨by decide, fun s hs => ?_, fun e he => ?_, by decide⟩
  · rw [bad_names] at hs
    simp only [smpN, List.mem_cons, List.not_mem_nil, or_false] at hs
    rcases hs with rfl | rfl | rfl | rfl <;> decide
  · have he' : e ∈ [xE, vE 120, vE 120] := he
    simp only [List.mem_cons, List.not_mem_nil, or_false] at he'
    rcases he' with rfl | rfl | rfl
    · rw [nodes_xE]; decide
    · rw [nodes_vE]; decide
    · rw [nodes_vE]; decide
theorem Print_smp (x : DesA) (w : World) (hE : DesIn w smpD x) (hG : Glob w) : Calls Tryz.prog 31 #[desVal smpD x] w (SPost smpB w) := by
  have hGb : ∀ W, Below w.heap.size w W → Glob W := fun W hW => hG.below hW
  have h := Print_of smpD x w hE smp_small hG smp_err smpFx (fun e he => ?_) (fun n hn => ?_) (by rw [smp_printL]; decide)
  · rw [smp_print] at h; exact h
  · have he' : e ∈ [xE, yE, vE 120] := he
    simp only [List.mem_cons, List.not_mem_nil, or_false] at he'
    rcases he' with rfl | rfl | rfl
    · exact ⟨print_of text_xE valid_xE (by rw [nodes_xE]; decide) hGb, by decide⟩
    · exact ⟨print_of text_yE valid_yE (by rw [nodes_yE]; decide) hGb, by decide⟩
    · exact ⟨print_of (text_v 120 (by decide)) valid_v120 (by rw [nodes_vE]; decide) hGb, by decide⟩
  · have hn' : n ∈ [(4 : Int), 4, 4, 4] ∨ n ∈ [(2 : Int)] := hn
    simp only [List.mem_cons, List.not_mem_nil, or_false] at hn'
    have hn2 : n = 4 ∨ n = 2 := by omega
    rcases hn2 with rfl | rfl
    · exact ⟨fmt_small _ _ 4 (by omega), by decide +kernel⟩
    · exact ⟨fmt_small _ _ 2 (by omega), by decide +kernel⟩
end Go.Proofs.YtihegbjlgpghbaaGreatDoor
