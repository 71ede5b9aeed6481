/- ref31.Print: head; ref09.Print. -/
import Derived.Test.YtihegbjlgpghbaaGreatDoorEN
import Derived.Test.YtihegbjlgpghbaaGreatDoorEE
import Derived.Test.YtihegbjlgpghbaaGreatDoorDM
import Derived.Test.YtihegbjlgpghbaaGreatDoorEJ
set_option linter.unusedSimpArgs false
set_option linter.unusedVariables false
set_option linter.unnecessarySimpa false
namespace Go.Proofs.YtihegbjlgpghbaaGreatDoor
open Go.RowKit
attribute [local go_sem ↓] Go.wp_at_zero Go.wp_at_succ

def RPrintC (B : Nat) (w0 : World) (e : Ex) (s : ByteArray) : Prop := ∀ a c W, Below B w0 W → B ≤ W.heap.size → ExIn W e a c → Calls Tryz.prog 81 #[.agg #[.int .i64 e.op, .int .i64 e.n, .string e.name, .slice a e.args.length c]] W (SPost s W)
set_option maxRecDepth 100000 in
set_option maxHeartbeats 4000000 in
theorem rprint_of {B : Nat} {w0 : World} {e : Ex} {s : ByteArray} (h : PlC B w0 e s) (hv : validS e = 0) (hn : e.nodes.length ≤ 1048576) : RPrintC B w0 e s := by
  intro a c w hw hz hX
  obtain ⟨op, n, nm, args⟩ := e
  simp only [Ex.op_mk, Ex.n_mk, Ex.name_mk, Ex.args_mk]
  have hb0 : Below w.heap.size w (w.alloc (.cells #[.int .i64 op, .int .i64 n, .string nm, .slice a args.length c] 55)) := (Below.refl _ _).alloc (Nat.le_refl _) _
  have HVa := Lib.hid (rValid_any op n nm args a c _ (hX.keep (keeps_of_below hb0)) (by omega))
  rw [hv] at HVa
  have HT := Lib.hid (fun W (hW : Below w.heap.size w W) => h a c W (hw.trans (hW.mono hz)) (Nat.le_trans hz hW.size) (hX.keep (keeps_of_below hW)))
  have HBx : Hid (Below (w.heap.size + 1) (w.alloc (.cells #[.int .i64 op, .int .i64 n, .string nm, .slice a args.length c] 55)) (w.alloc (.cells #[.int .i64 op, .int .i64 n, .string nm, .slice a args.length c] 55))) := Below.refl _ _
  have HP : Hid (∀ w', Below w.heap.size w w' → SPost s w (.returned (.string s)) w') := fun w' h => ⟨rfl, h⟩
  simp only [Ex.op_mk, Ex.n_mk, Ex.name_mk, Ex.args_mk] at HT
  unfold SPost at HT
  generalize SPost s w = Po at HP ⊢
  clear h hX hb0 hv hn
  generalize args.length = k at *
  go_enter Tryz.func81, Tryz.ntmps81
  go_wp2_with fail
  refine HVa.out.mono ?_
  rintro e w1 ⟨rfl, hb1⟩
  have HB1 := Lib.hid (HBx.out.trans (hb1.mono (by simp)))
  have HBw := Lib.hid (boxW _ HB1.out)
  have b0 := box_cell HB1.out 0
  have b1 := box_cell HB1.out 1
  have b2 := box_cell HB1.out 2
  have b3 := box_cell HB1.out 3
  simp at b0 b1 b2 b3
  clear hb1
  go_wp2_with fail
  refine (HT.out w1 HBw.out).mono ?_
  rintro e w2 ⟨rfl, hb2⟩
  have HPf := Lib.hid (HP.out w2 (HBw.out.trans (hb2.mono HBw.out.size)))
  clear hb2
  go_wp2_with fail
  first | exact HPf.out | (go_ret; exact HPf.out)
def headS (word name f : ByteArray) : ByteArray := ((((⟨#[32, 32, 32, 32]⟩ ++ word) ++ ⟨#[32]⟩) ++ name) ++ ⟨#[32, 58, 32]⟩) ++ f
theorem headS_size (word name f : ByteArray) : (headS word name f).size = word.size + name.size + f.size + 8 := by
  unfold headS
  simp only [ByteArray.size_append]
  show 4 + word.size + 1 + name.size + 3 + f.size = _
  omega
set_option maxRecDepth 100000 in
set_option maxHeartbeats 4000000 in
theorem head_any (word name : ByteArray) (n : Nat) (hn : n ≤ 65535) (hw : word.size ≤ 8) (hz : name.size ≤ 1099511627776) (w : World) : Calls Tryz.prog 80 #[.string word, .string name, .int .i64 n] w fun e w' => e = .returned (.string (headS word name (fmtS n))) ∧ Below w.heap.size w w' := by
  have HF := Lib.hid (fun W => rFmt_any n hn W)
  have hfz := fmt_size (n := (n : Int)) (by omega) (by omega)
  unfold SPost at HF
  generalize hPo : (fun e w' => e = Ending.returned (Value.string (headS word name (fmtS n))) ∧ Below w.heap.size w w') = Po
  have HP : Hid (∀ w', Below w.heap.size w w' → Po (.returned (.string (headS word name (fmtS n)))) w') := fun w' h => by rw [← hPo]; exact ⟨rfl, h⟩
  clear hPo
  unfold headS at HP
  generalize fmtS n = f at HF HP hfz
  have q1 : ¬ 9223372036854775807 < 4 + word.size := by omega
  have q2 : ¬ 9223372036854775807 < 4 + word.size + 1 := by omega
  have q3 : ¬ 9223372036854775807 < 4 + word.size + 1 + name.size := by omega
  have q4 : ¬ 9223372036854775807 < 4 + word.size + 1 + name.size + 3 := by omega
  have q5 : ¬ 9223372036854775807 < 4 + word.size + 1 + name.size + 3 + f.size := by omega
  go_enter Tryz.func80, Tryz.ntmps80
  go_wp2_with fail
  refine (HF.out _).mono ?_
  rintro e w1 ⟨rfl, hb1⟩
  have HPe := Lib.hid (HP.out w1 hb1)
  clear hb1
  go_wp2_with fail
  first | exact HPe.out | (go_ret; exact HPe.out)
/-- all lines in one text -/
def catS (l : List ByteArray) : ByteArray := ⟨(l.flatMap (·.data.toList)).toArray⟩
theorem catS_size (l : List ByteArray) : (catS l).size = (cellsL l).length := by rw [cellsL_len]; unfold catS; simp only [ByteArray.size]; simp
theorem catS_snoc (l : List ByteArray) (x : ByteArray) : catS (l ++ [x]) = catS l ++ x := by
  refine ByteArray.ext (Array.toList_inj.1 ?_)
  unfold catS
  rw [ByteArray.data_append]
  simp
structure PartS (n : Nat) (A : Nat → ByteArray) (line : Nat → ByteArray) (first last : ByteArray) : Prop where
  zero : A 0 = first
  all : A n = last
  step : ∀ k, k < n → A k ++ line k = A (k + 1)
  len : ∀ k, k ≤ n → (A k).size ≤ 70368744177664
theorem partS_of {α : Type} (A : List ByteArray) (l : List α) (f : α → ByteArray) (dflt : ByteArray) (h : (cellsL (A ++ l.map f)).length ≤ 70368744177664) : PartS l.length (fun k => catS (A ++ (l.take k).map f)) (fun k => if hk : k < l.length then f (l[k]'hk) else dflt) (catS A) (catS (A ++ l.map f)) := by
  refine ⟨by simp, by simp, fun k hk => ?_, fun k _ => by rw [catS_size]; exact Nat.le_trans (cells_part A l f k) h⟩
  simp only [dif_pos hk]
  rw [List.take_succ_eq_append_getElem hk, List.map_append, ← List.append_assoc, List.map_cons, List.map_nil, catS_snoc]
theorem in_eq (p : PortD) : headS kIn p.name (fmtS p.width) ++ ⟨#[59, 10]⟩ = inLine p := by
  unfold inLine lineS
  rw [show (⟨#[]⟩ : ByteArray) = ByteArray.empty from rfl, ByteArray.append_empty]
  rfl
theorem wire_eq (nm f t : ByteArray) : ((headS kWire nm f ++ ⟨#[32, 61, 32]⟩) ++ t) ++ ⟨#[59, 10]⟩ = lineS kWire nm f (eqS t) := by
  unfold lineS eqS headS
  simp only [ByteArray.append_assoc]
theorem reg_eq (nm f fi t : ByteArray) : ((((headS kReg nm f ++ ⟨#[32, 61, 32]⟩) ++ fi) ++ ⟨#[32, 116, 104, 101, 110, 32]⟩) ++ t) ++ ⟨#[59, 10]⟩ = lineS kReg nm f (thenS fi t) := by
  unfold lineS thenS headS
  simp only [ByteArray.append_assoc]
set_option maxRecDepth 100000 in
set_option maxHeartbeats 16000000 in
theorem rPrint_of (d : DesD) (x : DesA) (w : World) (hE : DesIn w d x) (hs : DesSmall d) (he : d.err = 0) (fx : Ex → ByteArray)
    (hfx : ∀ e ∈ d.exprs, RPrintC w.heap.size w e (fx e) ∧ (fx e).size ≤ 1099511627776) (hfm : ∀ n, n ∈ d.widths ∨ n ∈ d.regs.map (·.init) → ∃ k : Nat, n = k ∧ k ≤ 65535) (hT : (printL fx d).length ≤ 70368744177664) :
    Calls Tryz.prog 32 #[desVal d x] w (SPost (printS fx d) w) := by
  have hl := hs.len
  obtain ⟨ht2, ht3, ht4, ht5⟩ := cells_all fx d
  obtain ⟨C1, L1, HC1, hL1⟩ : ∃ C L, PartS d.inputs.length C L (catS (linA1 d)) (catS (linA2 d)) ∧ ∀ k (hk : k < d.inputs.length), L k = inLine (d.inputs[k]'hk) := ⟨_, _, partS_of (linA1 d) d.inputs inLine .empty (Nat.le_trans ht2 hT), fun k hk => by simp only [dif_pos hk]⟩
  obtain ⟨C2, L2, HC2, hL2⟩ : ∃ C L, PartS d.wires.length C L (catS (linA2 d)) (catS (linA3 fx d)) ∧ ∀ k (hk : k < d.wires.length), L k = wireLine fx (d.wires[k]'hk) := ⟨_, _, partS_of (linA2 d) d.wires (wireLine fx) .empty (Nat.le_trans ht3 hT), fun k hk => by simp only [dif_pos hk]⟩
  obtain ⟨C3, L3, HC3, hL3⟩ : ∃ C L, PartS d.regs.length C L (catS (linA3 fx d)) (catS (linA4 fx d)) ∧ ∀ k (hk : k < d.regs.length), L k = regLine fx (d.regs[k]'hk) := ⟨_, _, partS_of (linA3 fx d) d.regs (regLine fx) .empty (Nat.le_trans ht4 hT), fun k hk => by simp only [dif_pos hk]⟩
  obtain ⟨C4, L4, HC4, hL4⟩ : ∃ C L, PartS d.outputs.length C L (catS (linA4 fx d)) (catS (linA5 fx d)) ∧ ∀ k (hk : k < d.outputs.length), L k = outLine (d.outputs[k]'hk) := ⟨_, _, partS_of (linA4 fx d) d.outputs outLine .empty (Nat.le_trans ht5 hT), fun k hk => by simp only [dif_pos hk]⟩
  have hres : printS fx d = catS (linA5 fx d) ++ ⟨#[125, 10]⟩ := by rw [show (⟨#[125, 10]⟩ : ByteArray) = endS from rfl, ← catS_snoc]; rfl
  have hhd : catS (linA1 d) = hdrS d.name := by unfold catS linA1; simp
  have HV0 : Hid (∀ W, Below w.heap.size w W → Calls Tryz.prog 21 #[desVal d x] W fun e w' => e = .returned (.int .i64 0) ∧ Below W.heap.size W w') := fun W hW => (rValidD_any d x W (hE.below hW) hs).mono fun e w' h => by rw [he] at h; exact h
  have HPo : Hid (∀ w', Below w.heap.size w w' → SPost (printS fx d) w (.returned (.string (C4 d.outputs.length ++ ⟨#[125, 10]⟩))) w') := fun w' h => ⟨by rw [hres, HC4.all], h⟩
  have HPI := Lib.hid hE.ins
  have HPA := Lib.hid hE.ins.addr
  have HPW := Lib.hid hE.wires
  have HPWA := Lib.hid hE.wires.addr
  have HPR := Lib.hid hE.regs
  have HPRA := Lib.hid hE.regs.addr
  have HPO := Lib.hid hE.outs
  have HPOA := Lib.hid hE.outs.addr
  have hci := hE.ins.1
  have hcw := hE.wires.1
  have hcr := hE.regs.1
  have hco := hE.outs.1
  have hnm := hs.nm
  have hnz : ∀ s ∈ d.names, s.size ≤ 1073741824 := hs.names
  have HNi : Hid (∀ k (hk : k < d.inputs.length), (d.inputs[k]'hk).name.size ≤ 1099511627776 ∧ ∃ m : Nat, (d.inputs[k]'hk).width = m ∧ m ≤ 65535) := fun k hk => by
    have h1 := hnz (d.inputs[k]'hk).name (by unfold DesD.names; exact List.mem_append_left _ (List.mem_append_left _ (List.mem_map.2 ⟨_, List.getElem_mem hk, rfl⟩)))
    exact ⟨by omega, hfm _ (Or.inl (by unfold DesD.widths; exact List.mem_append_left _ (List.mem_append_left _ (List.mem_map.2 ⟨_, List.getElem_mem hk, rfl⟩))))⟩
  have HNw : Hid (∀ k (hk : k < d.wires.length), (d.wires[k]'hk).name.size ≤ 1099511627776 ∧ (∃ m : Nat, (d.wires[k]'hk).width = m ∧ m ≤ 65535) ∧ RPrintC w.heap.size w (d.wires[k]'hk).expr (fx (d.wires[k]'hk).expr) ∧ (fx (d.wires[k]'hk).expr).size ≤ 1099511627776) := fun k hk => by
    have h1 := hnz (d.wires[k]'hk).name (by unfold DesD.names; exact List.mem_append_left _ (List.mem_append_right _ (List.mem_map.2 ⟨_, List.getElem_mem hk, rfl⟩)))
    exact ⟨by omega, hfm _ (Or.inl (by unfold DesD.widths; exact List.mem_append_left _ (List.mem_append_right _ (List.mem_map.2 ⟨_, List.getElem_mem hk, rfl⟩)))), hfx _ (wire_expr hk)⟩
  have HNr : Hid (∀ k (hk : k < d.regs.length), (d.regs[k]'hk).name.size ≤ 1099511627776 ∧ (∃ m : Nat, (d.regs[k]'hk).width = m ∧ m ≤ 65535) ∧ (∃ m : Nat, (d.regs[k]'hk).init = m ∧ m ≤ 65535) ∧ RPrintC w.heap.size w (d.regs[k]'hk).next (fx (d.regs[k]'hk).next) ∧ (fx (d.regs[k]'hk).next).size ≤ 1099511627776) := fun k hk => by
    have h1 := hnz (d.regs[k]'hk).name (by unfold DesD.names; exact List.mem_append_right _ (List.mem_map.2 ⟨_, List.getElem_mem hk, rfl⟩))
    exact ⟨by omega, hfm _ (Or.inl (by unfold DesD.widths; exact List.mem_append_right _ (List.mem_map.2 ⟨_, List.getElem_mem hk, rfl⟩))), hfm _ (Or.inr (List.mem_map.2 ⟨_, List.getElem_mem hk, rfl⟩)), hfx _ (reg_expr hk)⟩
  have HNo : Hid (∀ k (hk : k < d.outputs.length), (d.outputs[k]'hk).size ≤ 1099511627776) := fun k hk => outs_size he hs (List.getElem_mem hk)
  generalize SPost (printS fx d) w = Po at HPo ⊢
  have e1 : C1 0 = hdrS d.name := by rw [HC1.zero, hhd]
  have e2 : C2 0 = C1 d.inputs.length := by rw [HC2.zero, HC1.all]
  have e3 : C3 0 = C2 d.wires.length := by rw [HC3.zero, HC2.all]
  have e4 : C4 0 = C3 d.regs.length := by rw [HC4.zero, HC3.all]
  unfold hdrS at e1
  have E1 := Lib.hid e1
  have E2 := Lib.hid e2
  have E3 := Lib.hid e3
  have E4 := Lib.hid e4
  have HS1 := Lib.hid (fun k (hk : k < d.inputs.length) => HC1.step k hk)
  have HS2 := Lib.hid (fun k (hk : k < d.wires.length) => HC2.step k hk)
  have HS3 := Lib.hid (fun k (hk : k < d.regs.length) => HC3.step k hk)
  have HS4 := Lib.hid (fun k (hk : k < d.outputs.length) => HC4.step k hk)
  have HZ1 := Lib.hid HC1.len
  have HZ2 := Lib.hid HC2.len
  have HZ3 := Lib.hid HC3.len
  have HZ4 := Lib.hid HC4.len
  have HL1 := Lib.hid hL1
  have HL2 := Lib.hid hL2
  have HL3 := Lib.hid hL3
  have HL4 := Lib.hid hL4
  clear HC1 HC2 HC3 HC4 hL1 hL2 hL3 hL4 ht2 ht3 ht4 ht5 hT hfm hfx he hs hres hhd e1 e2 e3 e4 hnz
  simp only [desVal, desVals] at HV0 ⊢
  have hbA : Below w.heap.size w (w.alloc (.cells #[.string d.name, .slice x.ai d.inputs.length x.ci, .slice x.aw d.wires.length x.cw, .slice x.ar d.regs.length x.cr, .slice x.ao d.outputs.length x.co] 27)) := (by repeat (first | assumption | exact Below.refl _ _ | refine Below.drew ?_ | refine below_drewN ?_ _ | refine Below.alloc ?_ (by first | omega | (simp only [World.size_alloc, World.size_setCell, World.size_drew, World.heap_drewN] <;> omega) | (simp <;> omega)) _ | refine Below.setCell ?_ (by first | omega | (simp only [World.size_alloc, World.size_setCell, World.size_drew, World.heap_drewN] <;> omega) | (simp <;> omega)) _))
  have HB0 : Hid (Below (w.heap.size + 1) (w.alloc (.cells #[.string d.name, .slice x.ai d.inputs.length x.ci, .slice x.aw d.wires.length x.cw, .slice x.ar d.regs.length x.cr, .slice x.ao d.outputs.length x.co] 27)) (w.alloc (.cells #[.string d.name, .slice x.ai d.inputs.length x.ci, .slice x.aw d.wires.length x.cw, .slice x.ar d.regs.length x.cr, .slice x.ao d.outputs.length x.co] 27))) := Below.refl _ _
  have HV1 := Lib.hid (HV0.out _ hbA)
  clear HV0 hbA hE
  obtain ⟨ai, ci, aw, cw, ar, cr, ao, co⟩ := x
  simp only at *
  have q1 : ¬ 9223372036854775807 < 7 + d.name.size := by omega
  have q2 : ¬ 9223372036854775807 < 7 + d.name.size + 3 := by omega
  go_enter Tryz.func32, Tryz.ntmps32
  go_wp2_with fail
  refine HV1.out.mono ?_
  rintro e w1 ⟨rfl, hb1⟩
  have HB1 := Lib.hid (HB0.out.trans (hb1.mono (by simp)))
  clear hb1 HB0 HV1
  ((try clear b0 b1 b2 b3 b4); have b0 := box_cell HB1.out 0; have b1 := box_cell HB1.out 1; have b2 := box_cell HB1.out 2; have b3 := box_cell HB1.out 3; have b4 := box_cell HB1.out 4; (try simp at b0 b1 b2 b3 b4))
  go_wp2_with fail
  rw [← E1.out]
  clear b0 b1 b2 b3 b4 q1 q2
  go_loopw [4, 3] (fun i v wr => ∃ k : Nat, i = .int .i64 k ∧ v = .string (C1 k) ∧ k ≤ d.inputs.length ∧ Hid (Below (w.heap.size + 1) (w.alloc (.cells #[.string d.name, .slice ai d.inputs.length ci, .slice aw d.wires.length cw, .slice ar d.regs.length cr, .slice ao d.outputs.length co] 27)) wr)) (fun i _ _ => d.inputs.length - (intOf i).toNat)
  case atStart => exact ⟨0, rfl, rfl, Nat.zero_le _, HB1⟩
  case round =>
    obtain ⟨k, rfl, rfl, hk, HB⟩ := hrel
    have hbw := boxW _ HB.out
    have hzr := HB.out.size
    simp only [World.size_alloc] at hzr
    ((try clear b0 b1 b2 b3 b4); have b0 := box_cell HB.out 0; have b1 := box_cell HB.out 1; have b2 := box_cell HB.out 2; have b3 := box_cell HB.out 3; have b4 := box_cell HB.out 4; (try simp at b0 b1 b2 b3 b4))
    by_cases hlt : k < d.inputs.length
    · obtain ⟨b, off, ha⟩ := HPA.out.resolve_left (by omega)
      subst ha
      obtain ⟨c0, c1⟩ := (HPI.out.keep (keeps_of_below hbw)).get rfl hlt
      obtain ⟨hn1, m, hm, hm2⟩ := HNi.out k hlt
      have hst := HS1.out k hlt
      rw [HL1.out k hlt, ← in_eq, hm] at hst
      rw [hm] at c1
      have hz := HZ1.out k hk
      have hhs := headS_size kIn (d.inputs[k]'hlt).name (fmtS m)
      have hfz := fmt_size (n := (m : Int)) (by omega) (by omega)
      have hkz : kIn.size ≤ 8 := by decide
      have HHd : Hid (∀ g : Grow wr.heap.size wr, Calls Tryz.prog 80 #[.string kIn, .string (d.inputs[k]'hlt).name, .int .i64 m] g.w' fun e w'' => e = .returned (.string (headS kIn (d.inputs[k]'hlt).name (fmtS m))) ∧ ∃ g : Grow wr.heap.size wr, w'' = g.w') := fun g => grow_callB (Nat.le_refl _) g (head_any kIn _ m hm2 hkz hn1 g.w')
      unfold kIn at HHd
      have hhz : (headS kIn (d.inputs[k]'hlt).name (fmtS m)).size ≤ 1099511627900 := by omega
      unfold kIn at hst hhz
      generalize headS ⟨#[105, 110, 112, 117, 116]⟩ (d.inputs[k]'hlt).name (fmtS m) = hd at HHd hst hhz
      have HSt := Lib.hid hst
      generalize (d.inputs[k]'hlt).name = nm at c0 HHd
      generalize hC : C1 k = S at HSt hz
      clear hC hst hhs hfz hkz hm hn1
      have q1 : ¬ 9223372036854775807 < hd.size + 2 := by omega
      have q2 : ¬ 9223372036854775807 < S.size + (hd.size + 2) := by omega
      have e0 := fun g : Grow wr.heap.size wr => Grow.old b0 (Nat.le_refl _) g
      have e1 := fun g : Grow wr.heap.size wr => Grow.old b1 (Nat.le_refl _) g
      have e2 := fun g : Grow wr.heap.size wr => Grow.old b2 (Nat.le_refl _) g
      have e3 := fun g : Grow wr.heap.size wr => Grow.old b3 (Nat.le_refl _) g
      have e4 := fun g : Grow wr.heap.size wr => Grow.old b4 (Nat.le_refl _) g
      have gc0 : ∀ g : Grow wr.heap.size wr, g.w'.cell? ⟨b, off + k * 2, none⟩ = some (.string nm) := Grow.old c0 (Nat.le_refl _)
      have gc1 : ∀ g : Grow wr.heap.size wr, g.w'.cell? ⟨b, off + k * 2 + 1, none⟩ = some (.int .i64 m) := Grow.old c1 (Nat.le_refl _)
      go_wp2_with fail
      (refine wp_region_grow (B := wr.heap.size) (w0 := wr) (by kernel_rfl) (by kernel_rfl) (by repeat (first | assumption | exact Below.refl _ _ | refine Below.drew ?_ | refine below_drewN ?_ _ | refine Below.alloc ?_ (by first | omega | (simp only [World.size_alloc, World.size_setCell, World.size_drew, World.heap_drewN] <;> omega) | (simp <;> omega)) _ | refine Below.setCell ?_ (by first | omega | (simp only [World.size_alloc, World.size_setCell, World.size_drew, World.heap_drewN] <;> omega) | (simp <;> omega)) _)) ?_; (repeat (go_big_quiet_step ((with_reducible exact HHd.out _)))); refine wpQuiet_nil ?_; intro wg hCg; have hbg := grow_out hCg; clear hCg)
      clear e0 e1 e2 e3 e4 gc0 gc1 c0 c1
      have HBg := Lib.hid (HB.out.trans (hbg.mono hzr))
      go_wp2_with fail
      rw [HSt.out]
      go_roundw
      case rel => exact ⟨k + 1, by go_num, rfl, by omega, HBg⟩
      case measure => (simp [intOf]; try omega)
    · obtain rfl : k = d.inputs.length := by omega
      have HB1 := HB
      rw [← E2.out]
      clear HB hbw hzr HNi HS1 HZ1 HL1
      rename World => wa
      go_wp2_with fail
      clear b0 b1 b2 b3 b4
      go_loopw [5, 3] (fun i v wr => ∃ k : Nat, i = .int .i64 k ∧ v = .string (C2 k) ∧ k ≤ d.wires.length ∧ Hid (Below (w.heap.size + 1) (w.alloc (.cells #[.string d.name, .slice ai d.inputs.length ci, .slice aw d.wires.length cw, .slice ar d.regs.length cr, .slice ao d.outputs.length co] 27)) wr)) (fun i _ _ => d.wires.length - (intOf i).toNat)
      case atStart => exact ⟨0, rfl, rfl, Nat.zero_le _, HB1⟩
      case round =>
        obtain ⟨k, rfl, rfl, hk, HB⟩ := hrel
        have hbw := boxW _ HB.out
        have hzr := HB.out.size
        simp only [World.size_alloc] at hzr
        ((try clear b0 b1 b2 b3 b4); have b0 := box_cell HB.out 0; have b1 := box_cell HB.out 1; have b2 := box_cell HB.out 2; have b3 := box_cell HB.out 3; have b4 := box_cell HB.out 4; (try simp at b0 b1 b2 b3 b4))
        by_cases hlt : k < d.wires.length
        · obtain ⟨b, off, ha⟩ := HPWA.out.resolve_left (by omega)
          subst ha
          obtain ⟨ae, ce, c0, c1, c2, c3, c4, c5, hXe⟩ := HPW.out.get rfl hlt
          have HBW := hbw
          have kk := keeps_of_below hbw
          have c0 := kk _ _ c0
          have c1 := kk _ _ c1
          have c2 := kk _ _ c2
          have c3 := kk _ _ c3
          have c4 := kk _ _ c4
          have c5 := kk _ _ c5
          obtain ⟨hn1, ⟨m, hm, hm2⟩, hp1, hp2⟩ := HNw.out k hlt
          have hst := HS2.out k hlt
          rw [HL2.out k hlt] at hst
          unfold wireLine at hst
          rw [← wire_eq, hm] at hst
          rw [hm] at c1
          have hz := HZ2.out k hk
          have hhs := headS_size kWire (d.wires[k]'hlt).name (fmtS m)
          have hfz := fmt_size (n := (m : Int)) (by omega) (by omega)
          have hkz : kWire.size ≤ 8 := by decide
          have HHd : Hid (∀ g : Grow wr.heap.size wr, Calls Tryz.prog 80 #[.string kWire, .string (d.wires[k]'hlt).name, .int .i64 m] g.w' fun e w'' => e = .returned (.string (headS kWire (d.wires[k]'hlt).name (fmtS m))) ∧ ∃ g : Grow wr.heap.size wr, w'' = g.w') := fun g => grow_callB (Nat.le_refl _) g (head_any kWire _ m hm2 hkz hn1 g.w')
          unfold kWire at HHd
          have hhz : (headS kWire (d.wires[k]'hlt).name (fmtS m)).size ≤ 1099511627900 := by omega
          unfold kWire at hst hhz
          generalize headS ⟨#[119, 105, 114, 101]⟩ (d.wires[k]'hlt).name (fmtS m) = hd at HHd hst hhz
          have HPr : Hid (∀ g : Grow wr.heap.size wr, Calls Tryz.prog 81 #[.agg #[.int .i64 (d.wires[k]'hlt).expr.op, .int .i64 (d.wires[k]'hlt).expr.n, .string (d.wires[k]'hlt).expr.name, .slice ae (d.wires[k]'hlt).expr.args.length ce]] g.w' fun e w'' => e = .returned (.string (fx (d.wires[k]'hlt).expr)) ∧ ∃ g : Grow wr.heap.size wr, w'' = g.w') := fun g =>
            have hg : Below w.heap.size w g.w' := HBW.trans (g.h.mono HBW.size)
            grow_callB (Nat.le_refl _) g (hp1 ae ce g.w' hg hg.size (hXe.keep (keeps_of_below hg)))
          have HSt := Lib.hid hst
          have htz := hp2
          clear hst hhs hfz hkz hn1 hp1 hp2 hXe kk
          generalize fx (d.wires[k]'hlt).expr = tx at HPr HSt htz
          generalize hS2 : C2 (k + 1) = S2 at HSt
          have HS2k := Lib.hid hS2
          clear hS2
          generalize hC : C2 k = S at HSt hz
          clear hC
          generalize (d.wires[k]'hlt) = wi at c0 c1 c2 c3 c4 c5 HHd HPr hm
          obtain ⟨wnm, wwd, ⟨eop, en, enm, eargs⟩⟩ := wi
          simp only [Ex.op_mk, Ex.n_mk, Ex.name_mk, Ex.args_mk] at c0 c1 c2 c3 c4 c5 HHd HPr
          generalize eargs.length = ek at c5 HPr
          clear hm
          have q1 : ¬ 9223372036854775807 < hd.size + 3 := by omega
          have q2 : ¬ 9223372036854775807 < hd.size + 3 + tx.size := by omega
          have q3 : ¬ 9223372036854775807 < hd.size + 3 + tx.size + 2 := by omega
          have q4 : ¬ 9223372036854775807 < S.size + (hd.size + 3 + tx.size + 2) := by omega
          have e0 := fun g : Grow wr.heap.size wr => Grow.old b0 (Nat.le_refl _) g
          have e1 := fun g : Grow wr.heap.size wr => Grow.old b1 (Nat.le_refl _) g
          have e2 := fun g : Grow wr.heap.size wr => Grow.old b2 (Nat.le_refl _) g
          have e3 := fun g : Grow wr.heap.size wr => Grow.old b3 (Nat.le_refl _) g
          have e4 := fun g : Grow wr.heap.size wr => Grow.old b4 (Nat.le_refl _) g
          have gc0 := fun g : Grow wr.heap.size wr => Grow.old c0 (Nat.le_refl _) g
          have gc1 := fun g : Grow wr.heap.size wr => Grow.old c1 (Nat.le_refl _) g
          have gc2 := fun g : Grow wr.heap.size wr => Grow.old c2 (Nat.le_refl _) g
          have gc3 := fun g : Grow wr.heap.size wr => Grow.old c3 (Nat.le_refl _) g
          have gc4 := fun g : Grow wr.heap.size wr => Grow.old c4 (Nat.le_refl _) g
          have gc5 := fun g : Grow wr.heap.size wr => Grow.old c5 (Nat.le_refl _) g
          go_wp2_with fail
          (refine wp_region_grow (B := wr.heap.size) (w0 := wr) (by kernel_rfl) (by kernel_rfl) (by repeat (first | assumption | exact Below.refl _ _ | refine Below.drew ?_ | refine below_drewN ?_ _ | refine Below.alloc ?_ (by first | omega | (simp only [World.size_alloc, World.size_setCell, World.size_drew, World.heap_drewN] <;> omega) | (simp <;> omega)) _ | refine Below.setCell ?_ (by first | omega | (simp only [World.size_alloc, World.size_setCell, World.size_drew, World.heap_drewN] <;> omega) | (simp <;> omega)) _)) ?_; (repeat (go_big_quiet_step ((first | (with_reducible exact HHd.out _) | (with_reducible exact HPr.out _))))); refine wpQuiet_nil ?_; intro wg hCg; have hbg := grow_out hCg; clear hCg)
          clear e0 e1 e2 e3 e4 gc0 gc1 gc2 gc3 gc4 gc5 c0 c1 c2 c3 c4 c5
          have HBg := Lib.hid (HB.out.trans (hbg.mono hzr))
          go_wp2_with fail
          rw [HSt.out]
          go_roundw
          case rel => exact ⟨k + 1, by go_num, (by rw [HS2k.out]), by omega, HBg⟩
          case measure => (simp [intOf]; try omega)
        · obtain rfl : k = d.wires.length := by omega
          have HB1 := HB
          rw [← E3.out]
          clear HB hbw hzr HNw HS2 HZ2 HL2
          rename World => wb
          go_wp2_with fail
          clear b0 b1 b2 b3 b4
          go_loopw [6, 3] (fun i v wr => ∃ k : Nat, i = .int .i64 k ∧ v = .string (C3 k) ∧ k ≤ d.regs.length ∧ Hid (Below (w.heap.size + 1) (w.alloc (.cells #[.string d.name, .slice ai d.inputs.length ci, .slice aw d.wires.length cw, .slice ar d.regs.length cr, .slice ao d.outputs.length co] 27)) wr)) (fun i _ _ => d.regs.length - (intOf i).toNat)
          case atStart => exact ⟨0, rfl, rfl, Nat.zero_le _, HB1⟩
          case round =>
            obtain ⟨k, rfl, rfl, hk, HB⟩ := hrel
            have hbw := boxW _ HB.out
            have hzr := HB.out.size
            simp only [World.size_alloc] at hzr
            ((try clear b0 b1 b2 b3 b4); have b0 := box_cell HB.out 0; have b1 := box_cell HB.out 1; have b2 := box_cell HB.out 2; have b3 := box_cell HB.out 3; have b4 := box_cell HB.out 4; (try simp at b0 b1 b2 b3 b4))
            by_cases hlt : k < d.regs.length
            · obtain ⟨b, off, ha⟩ := HPRA.out.resolve_left (by omega)
              subst ha
              obtain ⟨ae, ce, c0, c1, c2, c3, c4, c5, c6, hXe⟩ := HPR.out.get rfl hlt
              have kk := keeps_of_below hbw
              have c0 := kk _ _ c0
              have c1 := kk _ _ c1
              have c2 := kk _ _ c2
              have c3 := kk _ _ c3
              have c4 := kk _ _ c4
              have c5 := kk _ _ c5
              have c6 := kk _ _ c6
              obtain ⟨hn1, ⟨m, hm, hm2⟩, ⟨mi, hmi, hmi2⟩, hp1, hp2⟩ := HNr.out k hlt
              have hst := HS3.out k hlt
              rw [HL3.out k hlt] at hst
              unfold regLine at hst
              rw [← reg_eq, hm, hmi] at hst
              rw [hm] at c1
              rw [hmi] at c2
              have hz := HZ3.out k hk
              have hhs := headS_size kReg (d.regs[k]'hlt).name (fmtS m)
              have hfz := fmt_size (n := (m : Int)) (by omega) (by omega)
              have hfi := fmt_size (n := (mi : Int)) (by omega) (by omega)
              have hkz : kReg.size ≤ 8 := by decide
              have HHd : Hid (∀ (X : World) (g : Grow X.heap.size X), Calls Tryz.prog 80 #[.string kReg, .string (d.regs[k]'hlt).name, .int .i64 m] g.w' fun e w'' => e = .returned (.string (headS kReg (d.regs[k]'hlt).name (fmtS m))) ∧ ∃ g : Grow X.heap.size X, w'' = g.w') := fun X g => grow_callB (Nat.le_refl _) g (head_any kReg _ m hm2 hkz hn1 g.w')
              have HFm : Hid (∀ (X : World) (g : Grow X.heap.size X), Calls Tryz.prog 82 #[.int .i64 mi] g.w' fun e w'' => e = .returned (.string (fmtS mi)) ∧ ∃ g : Grow X.heap.size X, w'' = g.w') := fun X g => grow_callB (Nat.le_refl _) g (rFmt_any mi hmi2 g.w')
              have HPr : Hid (∀ (X : World), Below w.heap.size w X → ∀ (g : Grow X.heap.size X), Calls Tryz.prog 81 #[.agg #[.int .i64 (d.regs[k]'hlt).next.op, .int .i64 (d.regs[k]'hlt).next.n, .string (d.regs[k]'hlt).next.name, .slice ae (d.regs[k]'hlt).next.args.length ce]] g.w' fun e w'' => e = .returned (.string (fx (d.regs[k]'hlt).next)) ∧ ∃ g : Grow X.heap.size X, w'' = g.w') := fun X hX g =>
                have hg : Below w.heap.size w g.w' := hX.trans (g.h.mono hX.size)
                grow_callB (Nat.le_refl _) g (hp1 ae ce g.w' hg hg.size (hXe.keep (keeps_of_below hg)))
              unfold kReg at HHd
              have hhz : (headS kReg (d.regs[k]'hlt).name (fmtS m)).size ≤ 1099511627900 := by omega
              unfold kReg at hst hhz
              generalize headS ⟨#[114, 101, 103]⟩ (d.regs[k]'hlt).name (fmtS m) = hd at HHd hst hhz
              generalize fmtS mi = fi at HFm hst hfi
              have HSt := Lib.hid hst
              have htz := hp2
              clear hst hhs hfz hkz hn1 hp1 hp2 hXe kk
              generalize fx (d.regs[k]'hlt).next = tx at HPr HSt htz
              generalize hS2 : C3 (k + 1) = S2 at HSt
              have HS2k := Lib.hid hS2
              clear hS2
              generalize hC : C3 k = S at HSt hz
              clear hC
              generalize (d.regs[k]'hlt) = wi at c0 c1 c2 c3 c4 c5 c6 HHd HPr hm hmi
              obtain ⟨wnm, wwd, wit, ⟨eop, en, enm, eargs⟩⟩ := wi
              simp only [Ex.op_mk, Ex.n_mk, Ex.name_mk, Ex.args_mk] at c0 c1 c2 c3 c4 c5 c6 HHd HPr
              generalize eargs.length = ek at c6 HPr
              clear hm hmi
              have q1 : ¬ 9223372036854775807 < hd.size + 3 := by omega
              have q2 : ¬ 9223372036854775807 < hd.size + 3 + fi.size := by omega
              have q3 : ¬ 9223372036854775807 < hd.size + 3 + fi.size + 6 := by omega
              have q4 : ¬ 9223372036854775807 < hd.size + 3 + fi.size + 6 + tx.size := by omega
              have q5 : ¬ 9223372036854775807 < hd.size + 3 + fi.size + 6 + tx.size + 2 := by omega
              have q6 : ¬ 9223372036854775807 < S.size + (hd.size + 3 + fi.size + 6 + tx.size + 2) := by omega
              have hBX := HB.out.alloc (by omega) (.cells #[.string wnm, .int .i64 m, .int .i64 mi, .int .i64 eop, .int .i64 en, .string enm, .slice ae ek ce] 62)
              have hxb : (wr.alloc (.cells #[.string wnm, .int .i64 m, .int .i64 mi, .int .i64 eop, .int .i64 en, .string enm, .slice ae ek ce] 62)).heap[wr.heap.size]? = some (.cells #[.string wnm, .int .i64 m, .int .i64 mi, .int .i64 eop, .int .i64 en, .string enm, .slice ae ek ce] 62 (0, 0)) := heap_alloc_at _ _ _ rfl
              have HBX := Lib.hid hBX
              have HXb := Lib.hid hxb
              clear hBX hxb
              go_wp2_with fail
              generalize (wr.alloc (.cells #[.string wnm, .int .i64 m, .int .i64 mi, .int .i64 eop, .int .i64 en, .string enm, .slice ae ek ce] 62)) = X at HBX HXb ⊢
              have HHx := Lib.hid (HHd.out X)
              have HFx := Lib.hid (HFm.out X)
              have HPx := Lib.hid (HPr.out X (boxW _ HBX.out))
              have k0 := cell_of_blk HXb.out 0
              have k1 := cell_of_blk HXb.out 1
              have k2 := cell_of_blk HXb.out 2
              have k3 := cell_of_blk HXb.out 3
              have k4 := cell_of_blk HXb.out 4
              have k5 := cell_of_blk HXb.out 5
              have k6 := cell_of_blk HXb.out 6
              simp at k0 k1 k2 k3 k4 k5 k6
              have gk0 := fun g : Grow X.heap.size X => Grow.old k0 (Nat.le_refl _) g
              have gk1 := fun g : Grow X.heap.size X => Grow.old k1 (Nat.le_refl _) g
              have gk2 := fun g : Grow X.heap.size X => Grow.old k2 (Nat.le_refl _) g
              have gk3 := fun g : Grow X.heap.size X => Grow.old k3 (Nat.le_refl _) g
              have gk4 := fun g : Grow X.heap.size X => Grow.old k4 (Nat.le_refl _) g
              have gk5 := fun g : Grow X.heap.size X => Grow.old k5 (Nat.le_refl _) g
              have gk6 := fun g : Grow X.heap.size X => Grow.old k6 (Nat.le_refl _) g
              clear b0 b1 b2 b3 b4 c0 c1 c2 c3 c4 c5 c6 HHd HFm HPr
              go_wp2_with fail
              (refine wp_region_grow (B := X.heap.size) (w0 := X) (by kernel_rfl) (by kernel_rfl) (by repeat (first | assumption | exact Below.refl _ _ | refine Below.drew ?_ | refine below_drewN ?_ _ | refine Below.alloc ?_ (by first | omega | (simp only [World.size_alloc, World.size_setCell, World.size_drew, World.heap_drewN] <;> omega) | (simp <;> omega)) _ | refine Below.setCell ?_ (by first | omega | (simp only [World.size_alloc, World.size_setCell, World.size_drew, World.heap_drewN] <;> omega) | (simp <;> omega)) _)) ?_; (repeat (go_big_quiet_step ((first | (with_reducible exact HHx.out _) | (with_reducible exact HFx.out _) | (with_reducible exact HPx.out _))))); refine wpQuiet_nil ?_; intro wg hCg; have hbg := grow_out hCg; clear hCg)
              clear gk0 gk1 gk2 gk3 gk4 gk5 gk6 k0 k1 k2 k3 k4 k5 k6
              have HBg := Lib.hid (HBX.out.trans (hbg.mono (by have := HBX.out.size; simp at this; omega)))
              go_wp2_with fail
              rw [HSt.out]
              go_roundw
              case rel => exact ⟨k + 1, by go_num, (by rw [HS2k.out]), by omega, HBg⟩
              case measure => (simp [intOf]; try omega)
            · obtain rfl : k = d.regs.length := by omega
              have HB1 := HB
              rw [← E4.out]
              clear HB hbw hzr HNr HS3 HZ3 HL3
              rename World => wc
              go_wp2_with fail
              clear b0 b1 b2 b3 b4
              go_loopw [8, 3] (fun i v wr => ∃ k : Nat, i = .int .i64 k ∧ v = .string (C4 k) ∧ k ≤ d.outputs.length ∧ Hid (Below (w.heap.size + 1) (w.alloc (.cells #[.string d.name, .slice ai d.inputs.length ci, .slice aw d.wires.length cw, .slice ar d.regs.length cr, .slice ao d.outputs.length co] 27)) wr)) (fun i _ _ => d.outputs.length - (intOf i).toNat)
              case atStart => exact ⟨0, rfl, rfl, Nat.zero_le _, HB1⟩
              case round =>
                obtain ⟨k, rfl, rfl, hk, HB⟩ := hrel
                have hbw := boxW _ HB.out
                have hzr := HB.out.size
                simp only [World.size_alloc] at hzr
                ((try clear b0 b1 b2 b3 b4); have b0 := box_cell HB.out 0; have b1 := box_cell HB.out 1; have b2 := box_cell HB.out 2; have b3 := box_cell HB.out 3; have b4 := box_cell HB.out 4; (try simp at b0 b1 b2 b3 b4))
                by_cases hlt : k < d.outputs.length
                · obtain ⟨b, off, ha⟩ := HPOA.out.resolve_left (by omega)
                  subst ha
                  have c0 := (HPO.out.keep (keeps_of_below hbw)).get rfl hlt
                  have hn1 := HNo.out k hlt
                  have hst := HS4.out k hlt
                  rw [HL4.out k hlt] at hst
                  unfold outLine at hst
                  have hz := HZ4.out k hk
                  have HSt := Lib.hid hst
                  clear hst
                  generalize (d.outputs[k]'hlt) = s at c0 HSt hn1
                  generalize hS2 : C4 (k + 1) = S2 at HSt
                  have HS2k := Lib.hid hS2
                  clear hS2
                  generalize hC : C4 k = S at HSt hz
                  clear hC
                  have q1 : ¬ 9223372036854775807 < 11 + s.size := by omega
                  have q2 : ¬ 9223372036854775807 < 11 + s.size + 2 := by omega
                  have q3 : ¬ 9223372036854775807 < S.size + (11 + s.size + 2) := by omega
                  go_wp2_with fail
                  rw [HSt.out]
                  go_roundw
                  case rel => exact ⟨k + 1, by go_num, (by rw [HS2k.out]), by omega, HB⟩
                  case measure => (simp [intOf]; try omega)
                · obtain rfl : k = d.outputs.length := by omega
                  have hz := HZ4.out _ hk
                  have HPe := Lib.hid (HPo.out wr hbw)
                  have q3 : ¬ 9223372036854775807 < (C4 d.outputs.length).size + 2 := by omega
                  generalize C4 d.outputs.length = S at HPe hz q3
                  go_wp2_with fail
                  first | exact HPe.out | (go_ret; exact HPe.out)
end Go.Proofs.YtihegbjlgpghbaaGreatDoor

/- law31: short and Small, exactly. -/
namespace Go.Proofs.YtihegbjlgpghbaaGreatDoor
open Go.RowKit
attribute [local go_sem ↓] Go.wp_at_zero Go.wp_at_succ

def shortS : Nat → Ex → Bool
  | 0, _ => false
  | l + 1, e => decide (e.args.length ≤ 40) && e.args.all (shortS l)
theorem shortS_succ (l : Nat) (e : Ex) : shortS (l + 1) e = (decide (e.args.length ≤ 40) && e.args.all (shortS l)) := rfl
noncomputable def smallS (d : DesD) : Bool := decide (d.inputs.length + d.wires.length + d.regs.length ≤ 60) && decide (d.outputs.length ≤ 60) && d.exprs.all fun e => shortS 12 e && decide (e.nodes.length ≤ 40)
theorem alle_false {α : Type} {p : α → Bool} {l : List α} {j : Nat} (h : j < l.length) (hp : p (l[j]'h) = false) : l.all p = false := by
  rw [List.all_eq_false]
  exact ⟨_, List.getElem_mem h, by simp [hp]⟩
theorem alle_true {α : Type} {p : α → Bool} {l : List α} (h : ∀ k (hk : k < l.length), p (l[k]'hk) = true) : l.all p = true := by
  rw [List.all_eq_true]
  intro x hx
  obtain ⟨k, hk, rfl⟩ := List.getElem_of_mem hx
  exact h k hk
theorem alle_next {α : Type} {p : α → Bool} {l : List α} {j : Nat} (h : j < l.length) (hp : p (l[j]'h) = true) (ih : ∀ k (hk : k < l.length), k < j → p (l[k]'hk) = true) : ∀ k (hk : k < l.length), k < j + 1 → p (l[k]'hk) = true := by
  intro k hk h1
  rcases Nat.lt_or_ge k j with q | q
  · exact ih k hk q
  · obtain rfl : k = j := by omega
    exact hp
def BoolIs (b : Bool) (w : World) (r : Ending) (w' : World) : Prop := r = .returned (.bool b) ∧ Below w.heap.size w w'
set_option maxRecDepth 100000 in
set_option maxHeartbeats 4000000 in
theorem short_ex : ∀ (lv : Nat), lv ≤ 1000 → ∀ (op nn : Int) (s : ByteArray) (args : List Ex) (a : Option Addr) (cap : Nat) (w : World), ExIn w (.mk op nn s args) a cap →
    Calls Tryz.prog 52 #[.agg #[.int .i64 op, .int .i64 nn, .string s, .slice a args.length cap], .int .i64 lv] w (BoolIs (shortS lv (.mk op nn s args)) w) := by
  intro lv
  induction lv with
  | zero =>
    intro _ op nn s args a cap w hE
    have hlen := hE.2.2.1
    simp only [Ex.args_mk] at hlen
    have HP : Hid (∀ b w', b = shortS 0 (.mk op nn s args) → Below w.heap.size w w' → BoolIs (shortS 0 (.mk op nn s args)) w (.returned (.bool b)) w') := fun b w' e h => ⟨by rw [e], h⟩
    generalize BoolIs (shortS 0 (.mk op nn s args)) w = Po at HP ⊢
    have hB : Below w.heap.size w (w.alloc (.cells #[.int .i64 op, .int .i64 nn, .string s, .slice a args.length cap] 55)) := (Below.refl _ _).alloc (Nat.le_refl _) _
    have HB := Lib.hid (HP.out false _ rfl hB)
    clear hE hB HP
    go_enter Tryz.func52, Tryz.ntmps52
    go_wp2_with fail
    first | exact HB.out | (go_ret; exact HB.out)
  | succ lv ih =>
    intro hlv op nn s args a cap w hE
    have hlen := hE.2.2.1
    simp only [Ex.args_mk] at hlen
    have HI := Lib.hid (ih (by omega))
    have HE := Lib.hid hE.2
    have HA := Lib.hid (SliceIn.addr hE.2)
    simp only [Ex.args_mk] at HE HA
    have HP : Hid (∀ b w', b = (decide (args.length ≤ 40) && args.all (shortS lv)) → Below w.heap.size w w' → BoolIs (shortS (lv + 1) (.mk op nn s args)) w (.returned (.bool b)) w') := fun b w' e h => ⟨by rw [e, shortS_succ, Ex.args_mk], h⟩
    unfold BoolIs at HI
    generalize BoolIs (shortS (lv + 1) (.mk op nn s args)) w = Po at HP ⊢
    generalize shortS lv = F at HP HI
    clear ih hE
    obtain ⟨L, hL⟩ : ∃ L : Int, L = ((lv + 1 : Nat) : Int) := ⟨_, rfl⟩
    rw [← hL]
    have hL1 : (lv : Int) = L - 1 := by omega
    have hL2 : 0 < L := by omega
    have hL3 : L ≤ 1000 := by omega
    rw [hL1] at HI
    clear hL hL1 hlv
    have d0 : (L == 0) = false := beq_eq_false_iff_ne.2 (by omega)
    have hB : Below w.heap.size w (w.alloc (.cells #[.int .i64 op, .int .i64 nn, .string s, .slice a args.length cap] 55)) := (Below.refl _ _).alloc (Nat.le_refl _) _
    have HB0 : Hid (Below (w.heap.size + 1) (w.alloc (.cells #[.int .i64 op, .int .i64 nn, .string s, .slice a args.length cap] 55)) (w.alloc (.cells #[.int .i64 op, .int .i64 nn, .string s, .slice a args.length cap] 55))) := Below.refl _ _
    rcases Nat.lt_or_ge 40 args.length with q | q
    · have HPB := Lib.hid (HP.out false _ (by rw [decide_eq_false (Nat.not_le.2 q)]; rfl) hB)
      clear hB
      have d1 : decide ((40 : Int) < (args.length : Int)) = true := by simp; omega
      go_enter Tryz.func52, Tryz.ntmps52
      go_wp2_with fail
      first | exact HPB.out | (go_ret; exact HPB.out)
    · have d1 : decide ((40 : Int) < (args.length : Int)) = false := by simp; omega
      have HPb : Hid (∀ b w', b = args.all F → Below w.heap.size w w' → Po (.returned (.bool b)) w') := fun b w' e h => HP.out b w' (by rw [decide_eq_true q, e]; rfl) h
      clear hB HP
      go_enter Tryz.func52, Tryz.ntmps52
      go_wp2_with fail
      go_loopw [4, 5] (fun r i wr => ∃ j : Nat, r = .bool false ∧ i = .int .i64 j ∧ j ≤ args.length ∧ Hid (∀ k (hk : k < args.length), k < j → F (args[k]'hk) = true) ∧ Hid (Below (w.heap.size + 1) (w.alloc (.cells #[.int .i64 op, .int .i64 nn, .string s, .slice a args.length cap] 55)) wr)) (fun _ i _ => args.length - (intOf i).toNat)
      case atStart => exact ⟨0, rfl, rfl, Nat.zero_le _, fun k _ h => absurd h (Nat.not_lt_zero _), HB0⟩
      case round =>
        obtain ⟨j, rfl, rfl, hj, HA0, HB⟩ := hrel
        have HBw := Lib.hid (boxW _ HB.out)
        have hzr := HB.out.size
        simp only [World.size_alloc] at hzr
        have b3 := box_cell HB.out 3
        (try simp at b3)
        by_cases hlt : j < args.length
        · obtain ⟨b, off, ha⟩ := HA.out.resolve_left (by omega)
          subst ha
          obtain ⟨a', cap', g0, g1, g2, g3, hX⟩ := (HE.out.keep (keeps_of_below HBw.out)).get rfl hlt
          have HX := Lib.hid hX
          have HF := Lib.hid (fun h => alle_false (p := F) hlt h)
          have HN := Lib.hid (fun h => alle_next (p := F) hlt h HA0.out)
          clear HA0
          generalize (args[j]'hlt) = e at g0 g1 g2 g3 HX HF HN
          obtain ⟨op', n', s', args'⟩ := e
          simp only [Ex.op_mk, Ex.n_mk, Ex.name_mk, Ex.args_mk] at g0 g1 g2 g3
          have HC := Lib.hid (HI.out op' n' s' args' a' cap' wr HX.out)
          generalize F (.mk op' n' s' args') = bb at HC HF HN
          clear hX HX
          go_wp2_with fail
          refine HC.out.mono ?_
          rintro r w2 ⟨rfl, hb2⟩
          have HB2 := Lib.hid (HB.out.trans (hb2.mono hzr))
          clear hb2 g0 g1 g2 g3 b3
          cases bb
          · have HPf := Lib.hid (HPb.out false _ (HF.out rfl).symm (boxW _ HB2.out))
            go_wp2_with fail
            first | exact HPf.out | (go_ret; exact HPf.out)
          · have HN1 := Lib.hid (HN.out rfl)
            clear HF HN
            go_wp2_with fail
            go_roundw
            case rel => exact ⟨j + 1, rfl, by go_num, by omega, HN1, HB2⟩
            case measure => (simp [intOf]; try omega)
        · obtain rfl : j = args.length := by omega
          have HPt := Lib.hid (HPb.out true _ (alle_true fun k hk => HA0.out k hk hk).symm HBw.out)
          go_wp2_with fail
          first | exact HPt.out | (go_ret; exact HPt.out)
set_option maxRecDepth 100000 in
set_option maxHeartbeats 8000000 in
theorem Small_ex (d : DesD) (x : DesA) (w : World) (hE : DesIn w d x) (hs : DesSmall d) :
    Calls Tryz.prog 18 #[desVal d x] w (BoolIs (smallS d) w) := by
  have hl := hs.len
  have hel : d.exprs.length ≤ 1073741824 := by rw [exprs_len]; omega
  have HX0 := Lib.hid (fun W (hW : Below w.heap.size w W) => Exprs_any d x W (hE.below hW) hel)
  have HSh : Hid (∀ e ∈ d.exprs, ∀ a cap W, ExIn W e a cap → Calls Tryz.prog 52 #[.agg #[.int .i64 e.op, .int .i64 e.n, .string e.name, .slice a e.args.length cap], .int .i64 12] W (BoolIs (shortS 12 e) W)) := fun e _ a cap W h => by
    obtain ⟨op, n, s, args⟩ := e
    exact short_ex 12 (by omega) op n s args a cap W h
  have HSz : Hid (∀ e ∈ d.exprs, ∀ a cap W, ExIn W e a cap → Calls Tryz.prog 53 #[.agg #[.int .i64 e.op, .int .i64 e.n, .string e.name, .slice a e.args.length cap]] W fun r w' => r = .returned (.int .i64 (e.nodes.length : Nat)) ∧ Below W.heap.size W w') := fun e he a cap W h => by
    have hn := hs.exprs e he
    obtain ⟨op, n, s, args⟩ := e
    exact Size_any op n s args a cap W h (by omega)
  have HMem : Hid (∀ k (hk : k < d.exprs.length), (d.exprs[k]'hk) ∈ d.exprs) := fun k hk => List.getElem_mem hk
  have HP : Hid (∀ b w', b = (decide (d.inputs.length + d.wires.length + d.regs.length ≤ 60) && decide (d.outputs.length ≤ 60) && d.exprs.all fun e => shortS 12 e && decide (e.nodes.length ≤ 40)) → Below w.heap.size w w' → BoolIs (smallS d) w (.returned (.bool b)) w') := fun b w' e h => ⟨by rw [e]; rfl, h⟩
  unfold BoolIs at HSh
  generalize BoolIs (smallS d) w = Po at HP ⊢
  generalize shortS 12 = F at HP HSh
  clear hE hs
  simp only [desVal, desVals] at HX0 ⊢
  have hbA : Below w.heap.size w (w.alloc (.cells #[.string d.name, .slice x.ai d.inputs.length x.ci, .slice x.aw d.wires.length x.cw, .slice x.ar d.regs.length x.cr, .slice x.ao d.outputs.length x.co] 27)) := (by repeat (first | assumption | exact Below.refl _ _ | refine Below.drew ?_ | refine below_drewN ?_ _ | refine Below.alloc ?_ (by first | omega | (simp only [World.size_alloc, World.size_setCell, World.size_drew, World.heap_drewN] <;> omega) | (simp <;> omega)) _ | refine Below.setCell ?_ (by first | omega | (simp only [World.size_alloc, World.size_setCell, World.size_drew, World.heap_drewN] <;> omega) | (simp <;> omega)) _))
  have HB0 : Hid (Below (w.heap.size + 1) (w.alloc (.cells #[.string d.name, .slice x.ai d.inputs.length x.ci, .slice x.aw d.wires.length x.cw, .slice x.ar d.regs.length x.cr, .slice x.ao d.outputs.length x.co] 27)) (w.alloc (.cells #[.string d.name, .slice x.ai d.inputs.length x.ci, .slice x.aw d.wires.length x.cw, .slice x.ar d.regs.length x.cr, .slice x.ao d.outputs.length x.co] 27))) := Below.refl _ _
  have HX1 := Lib.hid (HX0.out _ hbA)
  have HbA := Lib.hid hbA
  clear hbA
  generalize hEx : d.exprs = EX at HX1 HSh HSz HMem hel HP
  clear HX0 hEx
  obtain ⟨h1, h2, h3, h4⟩ := hl
  rcases Nat.lt_or_ge 60 (d.inputs.length + d.wires.length + d.regs.length) with q | q
  · have HPA := Lib.hid (HP.out false _ (by rw [decide_eq_false (Nat.not_le.2 q)]; rfl) HbA.out)
    clear HP
    have d1 : decide ((60 : Int) < (d.inputs.length : Int) + (d.wires.length : Int) + (d.regs.length : Int)) = true := by simp; omega
    go_enter Tryz.func18, Tryz.ntmps18
    go_wp2_with fail
    first | exact HPA.out | (go_ret; exact HPA.out)
  have d1 : decide ((60 : Int) < (d.inputs.length : Int) + (d.wires.length : Int) + (d.regs.length : Int)) = false := by simp; omega
  rcases Nat.lt_or_ge 60 d.outputs.length with q2 | q2
  · have HPA := Lib.hid (HP.out false _ (by rw [decide_eq_false (p := d.outputs.length ≤ 60) (Nat.not_le.2 q2), Bool.and_false]; rfl) HbA.out)
    clear HP
    have d2 : decide ((60 : Int) < (d.outputs.length : Int)) = true := by simp; omega
    go_enter Tryz.func18, Tryz.ntmps18
    go_wp2_with fail
    first | exact HPA.out | (go_ret; exact HPA.out)
  have d2 : decide ((60 : Int) < (d.outputs.length : Int)) = false := by simp; omega
  have HPb : Hid (∀ b w', b = (EX.all fun e => F e && decide (e.nodes.length ≤ 40)) → Below w.heap.size w w' → Po (.returned (.bool b)) w') := fun b w' e h => HP.out b w' (by
    have h1 : decide (d.inputs.length + d.wires.length + d.regs.length ≤ 60) = true := by simp; omega
    have h2 : decide (d.outputs.length ≤ 60) = true := by simp; omega
    rw [h1, h2, e]; rfl) h
  clear HP HbA
  go_enter Tryz.func18, Tryz.ntmps18
  go_wp2_with fail
  refine HX1.out.mono ?_
  rintro e w1 hx
  obtain ⟨⟨ae, ce, rfl, hS⟩, hb1⟩ := hx
  have HB1 := Lib.hid (HB0.out.trans (hb1.mono (by simp)))
  have HS := Lib.hid hS
  have HSA := Lib.hid (SliceIn.addr hS)
  have hlE := hS.2.1
  have hcE := hS.1
  clear hb1 hS
  go_wp2_with fail
  go_loopw [2, 4] (fun r i wr => ∃ j : Nat, r = .bool false ∧ i = .int .i64 j ∧ j ≤ EX.length ∧ Hid (∀ k (hk : k < EX.length), k < j → (fun e : Ex => F e && decide (e.nodes.length ≤ 40)) (EX[k]'hk) = true) ∧ Hid (Below (w.heap.size + 1) (w.alloc (.cells #[.string d.name, .slice x.ai d.inputs.length x.ci, .slice x.aw d.wires.length x.cw, .slice x.ar d.regs.length x.cr, .slice x.ao d.outputs.length x.co] 27)) wr) ∧ Hid (ExsIn wr EX ae ce)) (fun _ i _ => EX.length - (intOf i).toNat)
  case atStart => exact ⟨0, rfl, rfl, Nat.zero_le _, fun k _ h => absurd h (Nat.not_lt_zero _), HB1, HS⟩
  case round =>
    obtain ⟨j, rfl, rfl, hj, HA0, HB, HSj⟩ := hrel
    have HBw := Lib.hid (boxW _ HB.out)
    by_cases hlt : j < EX.length
    · obtain ⟨b, off, ha⟩ := HSA.out.resolve_left (by omega)
      subst ha
      obtain ⟨a', cap', g0, g1, g2, g3, hX⟩ := HSj.out.get rfl hlt
      have HX := Lib.hid hX
      have HC1 := Lib.hid (HSh.out _ (HMem.out j hlt) a' cap' wr hX)
      have HC2 := Lib.hid (fun W (hW : Below wr.heap.size wr W) => HSz.out _ (HMem.out j hlt) a' cap' W (hX.keep (keeps_of_below hW)))
      have HF := Lib.hid (fun h => alle_false (l := EX) (p := fun e : Ex => F e && decide (e.nodes.length ≤ 40)) hlt h)
      have HN := Lib.hid (fun h => alle_next (l := EX) (p := fun e : Ex => F e && decide (e.nodes.length ≤ 40)) hlt h HA0.out)
      clear HA0
      generalize (EX[j]'hlt) = e at g0 g1 g2 g3 HX HC1 HC2 HF HN
      obtain ⟨op', n', s', args'⟩ := e
      simp only [Ex.op_mk, Ex.n_mk, Ex.name_mk, Ex.args_mk] at g0 g1 g2 g3 HC1 HC2
      clear hX
      have HF0 : Hid (F (.mk op' n' s' args') = false → (EX.all fun e => F e && decide (e.nodes.length ≤ 40)) = false) := fun h => HF.out (by simp [h])
      have HF1 : Hid (decide ((Ex.mk op' n' s' args').nodes.length ≤ 40) = false → (EX.all fun e => F e && decide (e.nodes.length ≤ 40)) = false) := fun h => HF.out (by simp only [h, Bool.and_false])
      have HN1 : Hid (F (.mk op' n' s' args') = true → decide ((Ex.mk op' n' s' args').nodes.length ≤ 40) = true → ∀ k (hk : k < EX.length), k < j + 1 → (fun e : Ex => F e && decide (e.nodes.length ≤ 40)) (EX[k]'hk) = true) := fun h h' => HN.out (by simp only [h, h', Bool.and_true])
      clear HF HN
      generalize F (.mk op' n' s' args') = bb at HC1 HF0 HN1
      go_wp2_with fail
      refine HC1.out.mono ?_
      rintro r w2 ⟨rfl, hb2⟩
      have hzr : w.heap.size + 1 ≤ wr.heap.size := by
        have := HB.out.size
        simpa using this
      have HB2 := Lib.hid (HB.out.trans (hb2.mono hzr))
      have HC3 := Lib.hid (HC2.out _ hb2)
      have k0 := keeps_of_below hb2 _ _ g0
      have k1 := keeps_of_below hb2 _ _ g1
      have k2 := keeps_of_below hb2 _ _ g2
      have k3 := keeps_of_below hb2 _ _ g3
      have HS2 := Lib.hid (HSj.out.keep (keeps_of_below hb2))
      clear HC2 HB hb2 HSh HSz HSj
      cases bb
      · have HPf := Lib.hid (HPb.out false _ (HF0.out rfl).symm (boxW _ HB2.out))
        clear HF0 HF1 HN1
        go_wp2_with fail
        first | exact HPf.out | (go_ret; exact HPf.out)
      · go_wp2_with fail
        refine HC3.out.mono ?_
        rintro r w3 ⟨rfl, hb3⟩
        have hz2 : w.heap.size + 1 ≤ w2.heap.size := by
          have := HB2.out.size
          simpa using this
        have HB3 := Lib.hid (HB2.out.trans (hb3.mono hz2))
        have HS3 := Lib.hid (HS2.out.keep (keeps_of_below hb3))
        clear hb3 k0 k1 k2 k3 g0 g1 g2 g3
        generalize (Ex.mk op' n' s' args').nodes.length = nn at HF1 HN1 ⊢
        rcases Nat.lt_or_ge 40 nn with q3 | q3
        · have HPf3 := Lib.hid (HPb.out false _ (HF1.out (by simp; omega)).symm (boxW _ HB3.out))
          clear HF0 HF1 HN1
          have d3 : decide ((40 : Int) < (nn : Int)) = true := by simp; omega
          go_wp2_with fail
          first | exact HPf3.out | (go_ret; exact HPf3.out)
        · have HN2 := Lib.hid (HN1.out (by first | rfl | trivial) (by simp; omega))
          clear HF0 HF1 HN1
          have d3 : decide ((40 : Int) < (nn : Int)) = false := by simp; omega
          go_wp2_with fail
          go_roundw
          case rel => exact ⟨j + 1, rfl, by go_num, by omega, HN2, HB3, HS3⟩
          case measure => (simp [intOf]; try omega)
    · obtain rfl : j = EX.length := by omega
      have HPt := Lib.hid (HPb.out true _ (alle_true (l := EX) (p := fun e : Ex => F e && decide (e.nodes.length ≤ 40)) fun k hk => HA0.out k hk hk).symm HBw.out)
      go_wp2_with fail
      first | exact HPt.out | (go_ret; exact HPt.out)
end Go.Proofs.YtihegbjlgpghbaaGreatDoor

/- Both printers of a design. -/
namespace Go.Proofs.YtihegbjlgpghbaaGreatDoor
open Go.RowKit
attribute [local go_sem ↓] Go.wp_at_zero Go.wp_at_succ

theorem indexByte_no {l : List UInt8} {c : UInt8} (h : c ∉ l) : Lib.indexByte l c < 0 := by
  induction l with
  | nil => simp [Lib.indexByte]
  | cons x l ih =>
    simp only [List.mem_cons, not_or] at h
    have h1 := ih h.2
    have h2 := Lib.indexByte_ge l c
    have h3 : Lib.indexByte l c = -1 := by omega
    unfold Lib.indexByte
    rw [if_neg (fun e => h.1 (by simpa using e : x = c).symm)]
    simp [h3]
theorem name_found {N : List ByteArray} {s : ByteArray} (h : (idxT N s).isSome = true) : s ∈ N := by
  obtain ⟨k, hk⟩ := Option.isSome_iff_exists.1 h
  obtain ⟨h1, h2, _⟩ := idxT_some hk
  have : N[k]'h1 = s := ByteArray.ext (Array.toList_inj.1 (by rw [← ByteArray.toList_eq, ← ByteArray.toList_eq]; exact h2))
  rw [← this]
  exact List.getElem_mem h1
theorem names_ok {d : DesD} (h : d.err = 0) : nameB d.name.data.toList = true ∧ ∀ s ∈ d.names, nameB s.data.toList = true := by
  unfold DesD.err at h
  rw [firstErr_zero] at h
  have hs := h d.sigErr (by simp)
  unfold DesD.sigErr at hs
  split at hs
  · simp at hs
  · rename_i h1
    simp only [not_or, Bool.not_eq_false] at h1
    exact ⟨h1.1, fun s hs' => List.all_eq_true.1 h1.2 s hs'⟩
theorem outErr_in {inner : List ByteArray} {l : List ByteArray} : ∀ {seen : List ByteArray}, outErr inner seen l = 0 → ∀ s ∈ l, s ∈ inner := by
  induction l with
  | nil => intro seen _ s hs; simp at hs
  | cons x l ih =>
    intro seen h s hs
    unfold outErr at h
    by_cases h1 : (idxT inner x).isSome = false
    · rw [if_pos h1] at h; simp at h
    · rw [if_neg h1] at h
      by_cases h2 : (idxT seen x).isSome = true
      · rw [if_pos h2] at h; simp at h
      · rw [if_neg h2] at h
        rcases List.mem_cons.1 hs with rfl | hs
        · exact name_found (by cases hq : (idxT inner s).isSome with
            | true => rfl
            | false => exact absurd hq h1)
        · exact ih h s hs
theorem outs_ok {d : DesD} (h : d.err = 0) : ∀ s ∈ d.outputs, nameB s.data.toList = true := by
  have hn := (names_ok h).2
  unfold DesD.err at h
  rw [firstErr_zero] at h
  have ho := h (outErr d.inner [] d.outputs) (by simp)
  intro s hs
  refine hn s ?_
  have := outErr_in ho s hs
  unfold DesD.inner at this
  unfold DesD.names
  simp only [List.mem_append] at this ⊢
  rcases this with h | h
  · exact Or.inl (Or.inr h)
  · exact Or.inr h
theorem name16 {s : ByteArray} (h : nameB s.data.toList = true) : s.size ≤ 16 := by
  unfold nameB at h
  simp only [Bool.and_eq_true, decide_eq_true_eq] at h
  have := h.1.2
  rw [Array.length_toList] at this
  exact this
theorem valid_400 {e : Ex} (h : validS e = 0) : e.nodes.length ≤ 400 := by
  unfold validS at h
  split at h
  · simp at h
  · rename_i h1
    rcases Nat.lt_or_ge 400 e.nodes.length with q | q
    · exact absurd ⟨h, Or.inr q⟩ h1
    · exact q
theorem tx_ok {d : DesD} (h : d.err = 0) : ∀ e ∈ d.exprs, TxOk e ∧ validS e = 0 ∧ e.nodes.length ≤ 400 := by
  have hn := (names_ok h).2
  intro e he
  obtain ⟨h1, h2, h3⟩ := (desOk_of_err h).exprs e he
  refine ⟨fun x hx => ?_, h1, valid_400 h1⟩
  have hx0 := valid_ok h1 x hx
  obtain ⟨h4, h5⟩ := h2 x hx
  refine ⟨hx0, h4, h5, ?_, fun h6 => ?_⟩
  · by_cases h6 : x.op = 2
    · have := name16 (hn _ (name_found (h3 _ (names2_mem hx h6))))
      omega
    · unfold nodeS at hx0
      split at hx0
      · simp at hx0
      · split at hx0
        · simp at hx0
        · split at hx0
          · simp at hx0
          · rename_i _ _ h7
            simp only [not_or, not_and, Bool.not_eq_false] at h7
            have h8 : x.name.data.toList = [] := by
              by_cases h9 : x.name.data.toList = []
              · exact h9
              · exact absurd h9 (by simpa using h7.1 ⟨h6, h4, h5⟩)
            have : x.name.size = 0 := by
              have := congrArg List.length h8
              rw [Array.length_toList] at this
              exact this
            omega
  · exact indexByte_no (nameB_no91 (hn _ (name_found (h3 _ (names2_mem hx h6)))))
theorem flat_le {l : List ByteArray} {M : Nat} (h : ∀ s ∈ l, s.size ≤ M) : (cellsL l).length ≤ l.length * M := by
  rw [cellsL_len]
  induction l with
  | nil => simp
  | cons x l ih =>
    have h1 := h x (by simp)
    have h2 := ih fun s hs => h s (by simp [hs])
    have h3 : x.data.toList.length = x.size := Array.length_toList
    rw [List.flatMap_cons, List.length_append, List.length_cons, Nat.add_mul, h3]
    omega
theorem cellsL_app (X Y : List ByteArray) : (cellsL (X ++ Y)).length = (cellsL X).length + (cellsL Y).length := by
  unfold cellsL
  rw [List.flatMap_append, List.length_append]
theorem widths_ok {d : DesD} (h : d.err = 0) : ∀ n, n ∈ d.widths ∨ n ∈ d.regs.map (·.init) → 0 ≤ n ∧ n ≤ 65535 := by
  have hd := desOk_of_err h
  rintro n (hn | hn)
  · have := hd.widths n hn; omega
  · obtain ⟨r, hr, rfl⟩ := List.mem_map.1 hn
    have h1 := hd.inits r hr
    have h2 := hd.widths r.width (by unfold DesD.widths; simp only [List.mem_append, List.mem_map]; exact Or.inr ⟨r, hr, rfl⟩)
    have h3 : (2 : Int) ^ r.width.toNat ≤ 2 ^ 16 := by
      have : (2 : Nat) ^ r.width.toNat ≤ 2 ^ 16 := Nat.pow_le_pow_right (by decide) (by omega)
      exact_mod_cast this
    have h4 : (2 : Int) ^ 16 = 65536 := by decide
    omega
theorem print_len {d : DesD} (hs : DesSmall d) (h : d.err = 0) : (printL textS d).length ≤ 70368744177664 := by
  have hd := desOk_of_err h
  obtain ⟨hnm, hns⟩ := names_ok h
  have hl := hd.len
  have hw := widths_ok h
  have hx := tx_ok h
  have hn0 := name16 hnm
  have hlen : d.names.length = d.inputs.length + d.wires.length + d.regs.length := by simp [DesD.names]; omega
  have hL : (printL textS d).length = (cellsL (linA6 textS d)).length := (cellsL_len _).symm
  have h1 : (cellsL (d.inputs.map inLine)).length ≤ d.inputs.length * 52 := by
    refine Nat.le_trans (flat_le (M := 52) fun s hs => ?_) (by simp)
    obtain ⟨p, hp, rfl⟩ := List.mem_map.1 hs
    have h1 := name16 (hns p.name (by unfold DesD.names; simp only [List.mem_append, List.mem_map]; exact Or.inl (Or.inl ⟨p, hp, rfl⟩)))
    have h2 := hw p.width (Or.inl (by unfold DesD.widths; simp only [List.mem_append, List.mem_map]; exact Or.inl (Or.inl ⟨p, hp, rfl⟩)))
    have h3 := fmt_size h2.1 h2.2
    unfold inLine
    rw [lineS_size]
    show 5 + _ + _ + 0 + 10 ≤ 52
    omega
  have h2 : (cellsL (d.wires.map (wireLine textS))).length ≤ d.wires.length * 430000000000 := by
    refine Nat.le_trans (flat_le (M := 430000000000) fun s hs => ?_) (by simp)
    obtain ⟨p, hp, rfl⟩ := List.mem_map.1 hs
    have h1 := name16 (hns p.name (by unfold DesD.names; simp only [List.mem_append, List.mem_map]; exact Or.inl (Or.inr ⟨p, hp, rfl⟩)))
    have h2 := hw p.width (Or.inl (by unfold DesD.widths; simp only [List.mem_append, List.mem_map]; exact Or.inl (Or.inr ⟨p, hp, rfl⟩)))
    have h3 := fmt_size h2.1 h2.2
    have h4 := hx p.expr (by unfold DesD.exprs; simp only [List.mem_append, List.mem_map]; exact Or.inl ⟨p, hp, rfl⟩)
    have h5 := text_size p.expr h4.1
    unfold wireLine eqS
    rw [lineS_size, ByteArray.size_append]
    show 4 + _ + _ + (3 + _) + 10 ≤ _
    omega
  have h3 : (cellsL (d.regs.map (regLine textS))).length ≤ d.regs.length * 430000000000 := by
    refine Nat.le_trans (flat_le (M := 430000000000) fun s hs => ?_) (by simp)
    obtain ⟨p, hp, rfl⟩ := List.mem_map.1 hs
    have h1 := name16 (hns p.name (by unfold DesD.names; simp only [List.mem_append, List.mem_map]; exact Or.inr ⟨p, hp, rfl⟩))
    have h2 := hw p.width (Or.inl (by unfold DesD.widths; simp only [List.mem_append, List.mem_map]; exact Or.inr ⟨p, hp, rfl⟩))
    have h6 := hw p.init (Or.inr (List.mem_map.2 ⟨p, hp, rfl⟩))
    have h3 := fmt_size h2.1 h2.2
    have h7 := fmt_size h6.1 h6.2
    have h4 := hx p.next (by unfold DesD.exprs; simp only [List.mem_append, List.mem_map]; exact Or.inr ⟨p, hp, rfl⟩)
    have h5 := text_size p.next h4.1
    unfold regLine thenS
    rw [lineS_size, ByteArray.size_append, ByteArray.size_append, ByteArray.size_append]
    show 3 + _ + _ + (3 + _ + 6 + _) + 10 ≤ _
    omega
  have h4 : (cellsL (d.outputs.map outLine)).length ≤ d.outputs.length * 29 := by
    refine Nat.le_trans (flat_le (M := 29) fun s hs => ?_) (by simp)
    obtain ⟨p, hp, rfl⟩ := List.mem_map.1 hs
    have h1 := name16 (outs_ok h p hp)
    unfold outLine
    rw [ByteArray.size_append, ByteArray.size_append]
    show 11 + _ + 2 ≤ 29
    omega
  have h5 : (cellsL (linA1 d)).length ≤ 26 := by
    refine Nat.le_trans (flat_le (M := 26) fun s hs => ?_) (by simp [linA1])
    obtain rfl : s = hdrS d.name := by simpa [linA1] using hs
    unfold hdrS
    rw [ByteArray.size_append, ByteArray.size_append]
    show 7 + _ + 3 ≤ 26
    omega
  have h6 : (cellsL [endS]).length = 2 := rfl
  have ho := hs.len.2.2.2
  rw [hL]
  unfold linA6 linA5 linA4 linA3 linA2
  rw [cellsL_app, cellsL_app, cellsL_app, cellsL_app, cellsL_app]
  omega
noncomputable def prT (d : DesD) : ByteArray := open Classical in if d.err = 0 then printS textS d else .empty
theorem Print_good (d : DesD) (x : DesA) (w : World) (hE : DesIn w d x) (hs : DesSmall d) (hG : Glob w) (hT : Lib.TabIs Tryz.prog w "internal/strconv.uint64pow10" .u64 Lib.pow10Tab) (he : d.err = 0) :
    Calls Tryz.prog 31 #[desVal d x] w (SPost (printS textS d) w) := by
  have hx := tx_ok he
  refine Print_of d x w hE hs hG he textS (fun e h => ?_) (fun n hn => ?_) (print_len hs he)
  · obtain ⟨h1, h2, h3⟩ := hx e h
    have := text_size e h1
    exact ⟨print_of (text_all (fun n a b => fmt_any w hT n a b) e h1 h3) h2 (by omega) fun W hW => hG.below hW, by omega⟩
  · have h1 := widths_ok he n hn
    exact ⟨fmt_any w hT n h1.1 h1.2, by have := fmt_size h1.1 h1.2; omega⟩
theorem rPrint_good (d : DesD) (x : DesA) (w : World) (hE : DesIn w d x) (hs : DesSmall d) (he : d.err = 0) :
    Calls Tryz.prog 32 #[desVal d x] w (SPost (printS textS d) w) := by
  have hx := tx_ok he
  refine rPrint_of d x w hE hs he textS (fun e h => ?_) (fun n hn => ?_) (print_len hs he)
  · obtain ⟨h1, h2, h3⟩ := hx e h
    have := text_size e h1
    exact ⟨rprint_of (plain_all e h1 h3) h2 (by omega), by omega⟩
  · have h1 := widths_ok he n hn
    exact ⟨n.toNat, by omega, by omega⟩
set_option maxHeartbeats 1000000 in
theorem Print_any (d : DesD) (x : DesA) (w : World) (hE : DesIn w d x) (hs : DesSmall d) (hG : Glob w) (hT : Lib.TabIs Tryz.prog w "internal/strconv.uint64pow10" .u64 Lib.pow10Tab) :
    Calls Tryz.prog 31 #[desVal d x] w (SPost (prT d) w) := by
  by_cases he : d.err = 0
  · have := Print_good d x w hE hs hG hT he
    unfold prT
    rw [if_pos he]
    exact this
  · have HV0 : Hid (∀ W, Below w.heap.size w W → Calls Tryz.prog 20 #[desVal d x] W fun e w' => e = .returned (.int .i64 d.err) ∧ Below W.heap.size W w') := fun W hW => ValidD_any d x W (hE.below hW) hs (hG.below hW)
    have h0 : (d.err == 0) = false := beq_eq_false_iff_ne.2 he
    have HPo : Hid (∀ w', Below w.heap.size w w' → SPost (prT d) w (.returned (.string .empty)) w') := fun w' h => ⟨by unfold prT; rw [if_neg he], h⟩
    generalize SPost (prT d) w = Po at HPo ⊢
    generalize d.err = er at HV0 h0
    clear hE hs hG hT he
    obtain ⟨nm, ins, wires, regs, outs⟩ := d
    obtain ⟨ai, ci, aw, cw, ar, cr, ao, co⟩ := x
    simp only [desVal, desVals] at HV0 ⊢
    have HV := Lib.hid (HV0.out (w.alloc (.cells #[.string nm, .slice ai ins.length ci, .slice aw wires.length cw, .slice ar regs.length cr, .slice ao outs.length co] 27)) ((Below.refl _ _).alloc (Nat.le_refl _) _))
    have HB : Hid (Below (w.heap.size + 1) (w.alloc (.cells #[.string nm, .slice ai ins.length ci, .slice aw wires.length cw, .slice ar regs.length cr, .slice ao outs.length co] 27)) (w.alloc (.cells #[.string nm, .slice ai ins.length ci, .slice aw wires.length cw, .slice ar regs.length cr, .slice ao outs.length co] 27))) := Below.refl _ _
    clear HV0
    go_enter Tryz.func31, Tryz.ntmps31
    go_wp2_with fail
    refine HV.out.mono ?_
    rintro e w1 ⟨rfl, hb1⟩
    simp only [World.size_alloc] at hb1
    have HPe := Lib.hid (HPo.out w1 (boxW _ hb1))
    clear hb1
    go_wp2_with fail
    first | exact HPe.out | (go_ret; exact HPe.out)
set_option maxHeartbeats 1000000 in
theorem rPrint_any (d : DesD) (x : DesA) (w : World) (hE : DesIn w d x) (hs : DesSmall d) :
    Calls Tryz.prog 32 #[desVal d x] w (SPost (prT d) w) := by
  by_cases he : d.err = 0
  · have := rPrint_good d x w hE hs he
    unfold prT
    rw [if_pos he]
    exact this
  · have HV0 : Hid (∀ W, Below w.heap.size w W → Calls Tryz.prog 21 #[desVal d x] W fun e w' => e = .returned (.int .i64 d.err) ∧ Below W.heap.size W w') := fun W hW => rValidD_any d x W (hE.below hW) hs
    have h0 : (d.err == 0) = false := beq_eq_false_iff_ne.2 he
    have HPo : Hid (∀ w', Below w.heap.size w w' → SPost (prT d) w (.returned (.string .empty)) w') := fun w' h => ⟨by unfold prT; rw [if_neg he], h⟩
    generalize SPost (prT d) w = Po at HPo ⊢
    generalize d.err = er at HV0 h0
    clear hE hs he
    obtain ⟨nm, ins, wires, regs, outs⟩ := d
    obtain ⟨ai, ci, aw, cw, ar, cr, ao, co⟩ := x
    simp only [desVal, desVals] at HV0 ⊢
    have HV := Lib.hid (HV0.out (w.alloc (.cells #[.string nm, .slice ai ins.length ci, .slice aw wires.length cw, .slice ar regs.length cr, .slice ao outs.length co] 27)) ((Below.refl _ _).alloc (Nat.le_refl _) _))
    clear HV0
    go_enter Tryz.func32, Tryz.ntmps32
    go_wp2_with fail
    refine HV.out.mono ?_
    rintro e w1 ⟨rfl, hb1⟩
    simp only [World.size_alloc] at hb1
    have HPe := Lib.hid (HPo.out w1 (boxW _ hb1))
    clear hb1
    go_wp2_with fail
    first | exact HPe.out | (go_ret; exact HPe.out)
end Go.Proofs.YtihegbjlgpghbaaGreatDoor
