/- law: count, Few. -/
import Derived.Test.YteaeemkodbodmaaGreatDoorDC
import Derived.Test.YteaeemkodbodmaaGreatDoorDU
set_option linter.unusedSimpArgs false
set_option linter.unusedVariables false
set_option linter.unnecessarySimpa false
namespace Go.Proofs.YteaeemkodbodmaaGreatDoor
open Go.RowKit

noncomputable def preN (l : List Ex) (k : Nat) : Nat := 1 + (((l.take k).map Ex.nodes).flatten).length
theorem preN_succ (l : List Ex) {k : Nat} (h : k < l.length) : preN l (k + 1) = preN l k + (l[k]'h).nodes.length := by
  unfold preN
  rw [List.take_succ_eq_append_getElem h]
  simp only [List.map_append, List.map_cons, List.map_nil, List.flatten_append, List.length_append, List.flatten_cons, List.flatten_nil, List.append_nil]
  omega
theorem preN_all (e : Ex) : preN e.args e.args.length = e.nodes.length := by
  unfold preN
  rw [Ex.nodes_eq e, List.take_of_length_le (Nat.le_refl _)]
  simp only [List.length_cons]
  omega
def CountRet (e : Ex) (n : Int) (r : Ending) : Prop := ∃ c : Int, r = .returned (.int .i64 c) ∧ 1 ≤ c ∧ c ≤ n + 1 ∧ (c ≤ n → c = e.nodes.length)
set_option maxRecDepth 100000 in
set_option maxHeartbeats 4000000 in
theorem count_any (e : Ex) : ∀ (n : Int) (a : Option Addr) (cap : Nat) (w : World), ExIn w e a cap → 0 ≤ n → n ≤ 1000 →
    Calls Tryz.prog 53 #[.agg #[.int .i64 e.op, .int .i64 e.n, .string e.name, .slice a e.args.length cap], .int .i64 n] w fun r w' => CountRet e n r ∧ Below w.heap.size w w' := by
  induction e using Ex.ind with
  | _ e ih =>
    intro n a cap w hE h0 h1
    have HE := Lib.hid hE.2
    have HA := Lib.hid hE.2.addr
    have hlen := hE.2.2.1
    have HI := Lib.hid ih
    have HAll := Lib.hid (preN_all e)
    have HSu := Lib.hid (fun k (h : k < e.args.length) => preN_succ e.args h)
    have HMem : Hid (∀ k (h : k < e.args.length), (e.args[k]'h) ∈ e.args) := fun k h => List.getElem_mem h
    clear ih hE
    unfold CountRet
    generalize e.nodes.length = N at HAll ⊢
    obtain ⟨op, nn, s, args⟩ := e
    simp only [Ex.op_mk, Ex.n_mk, Ex.name_mk, Ex.args_mk] at HE HA hlen HI HAll HSu HMem ⊢
    go_enter Tryz.func53, Tryz.ntmps53
    go_wp2_with fail
    go_loopw [6, 5] (fun i k wr => ∃ (j : Nat) (c : Int), i = .int .i64 j ∧ k = .int .i64 c ∧ j ≤ args.length ∧ 1 ≤ c ∧ c ≤ n + 1 ∧ Hid (c ≤ n → c = preN args j) ∧ Hid (Below (w.heap.size + 1) (w.alloc (.cells #[.int .i64 op, .int .i64 nn, .string s, .slice a args.length cap] 53)) wr)) (fun i _ _ => args.length - (intOf i).toNat)
    case atStart => exact ⟨0, 1, rfl, rfl, Nat.zero_le _, by omega, by omega, fun _ => by simp [preN], Below.refl _ _⟩
    case round =>
      obtain ⟨j, c, rfl, rfl, hj, hc1, hc2, HP, HB⟩ := hrel
      have HBw := Lib.hid (boxW _ HB.out)
      have hzr := HB.out.size
      simp only [World.size_alloc] at hzr
      have hzl : w.heap.size < wr.heap.size := by omega
      have b0 := box_cell HB.out 3
      (try simp at b0)
      by_cases hlt : j < args.length
      · by_cases hcn : c ≤ n
        · have hd : decide (c ≤ n) = true := decide_eq_true hcn
          obtain ⟨b, off, ha⟩ := HA.out.resolve_left (by omega)
          subst ha
          obtain ⟨a', cap', g0, g1, g2, g3, hX⟩ := HE.out.get rfl hlt
          have kk := keeps_of_below HBw.out
          have HC := Lib.hid (HI.out _ (HMem.out j hlt) (n - c) a' cap' wr (hX.keep kk) (by omega) (by omega))
          have HPs := Lib.hid (HSu.out j hlt)
          have HP' := Lib.hid (HP.out hcn)
          generalize (args[j]'hlt) = e at g0 g1 g2 g3 hX HC HPs
          obtain ⟨op', n', s', args'⟩ := e
          unfold CountRet at HC
          generalize (Ex.mk op' n' s' args').nodes.length = M at HC HPs
          simp only [Ex.op_mk, Ex.n_mk, Ex.name_mk, Ex.args_mk] at g0 g1 g2 g3 HC
          have c0 := kk _ _ g0
          have c1 := kk _ _ g1
          have c2 := kk _ _ g2
          have c3 := kk _ _ g3
          clear g0 g1 g2 g3 hX kk
          go_wp2_with fail
          refine HC.out.mono ?_
          rintro r w2 ⟨⟨d, rfl, hd1, hd2, hd3⟩, hb2⟩
          have HD := Lib.hid hd3
          have HB2 : Hid (Below (w.heap.size + 1) (w.alloc (.cells #[.int .i64 op, .int .i64 nn, .string s, .slice (some ⟨b, off, none⟩) args.length cap] 53)) w2) := HB.out.trans (hb2.mono (by simpa using hzr))
          clear hb2 c0 c1 c2 c3 b0 hd3 hd
          go_wp2_with fail
          go_roundw
          case rel => exact ⟨j + 1, c + d, by go_num, rfl, by omega, by omega, by omega, (fun h => by rw [HD.out (by omega), HP'.out, HPs.out]; omega), HB2.out⟩
          case measure => simp [intOf]; omega
        · have hd : decide (c ≤ n) = false := decide_eq_false hcn
          go_wp2_with fail
          go_ret
          exact ⟨⟨c, rfl, hc1, hc2, fun h => absurd h (by omega)⟩, HBw.out⟩
      · obtain rfl : j = args.length := by omega
        go_wp2_with fail
        go_ret
        exact ⟨⟨c, rfl, hc1, hc2, fun h => by rw [HP.out h, HAll.out]⟩, HBw.out⟩
theorem Few_any (e : Ex) (n : Int) (a : Option Addr) (cap : Nat) (w : World) (hE : ExIn w e a cap) (h0 : 0 ≤ n) (h1 : n ≤ 1000) :
    Calls Tryz.prog 32 #[.agg #[.int .i64 e.op, .int .i64 e.n, .string e.name, .slice a e.args.length cap], .int .i64 n] w fun r w' => (∃ b : Bool, r = .returned (.bool b) ∧ (b = true → (e.nodes.length : Int) ≤ n)) ∧ Below w.heap.size w w' := by
  have hB : Below w.heap.size w (w.alloc (.cells #[.int .i64 e.op, .int .i64 e.n, .string e.name, .slice a e.args.length cap] 53)) := (Below.refl _ _).alloc (Nat.le_refl _) _
  have HC := Lib.hid (count_any e n a cap _ (hE.keep (keeps_of_below hB)) h0 h1)
  have HB := Lib.hid hB
  clear hE hB
  unfold CountRet at HC
  generalize e.nodes.length = N at HC ⊢
  obtain ⟨op, nn, s, args⟩ := e
  simp only [Ex.op_mk, Ex.n_mk, Ex.name_mk, Ex.args_mk] at HC HB ⊢
  go_enter Tryz.func32, Tryz.ntmps32
  go_wp2_with fail
  refine HC.out.mono ?_
  rintro r w2 ⟨⟨d, rfl, hd1, hd2, hd3⟩, hb2⟩
  have HD := Lib.hid hd3
  have HB2 : Hid (Below w.heap.size w w2) := HB.out.trans (hb2.mono (by simp))
  clear hb2 hd3
  go_wp2_with fail
  go_ret
  exact ⟨⟨_, rfl, fun h => by have h' := of_decide_eq_true h; rw [← HD.out h']; exact h'⟩, HB2.out⟩
end Go.Proofs.YteaeemkodbodmaaGreatDoor

/- law32: Few, Brief. -/
namespace Go.Proofs.YteaeemkodbodmaaGreatDoor
open Go.RowKit
attribute [local go_sem ↓] Go.wp_at_zero Go.wp_at_succ

def FewPost (w : World) (d : Prop) (r : Ending) (w' : World) : Prop := (∃ b : Bool, r = .returned (.bool b) ∧ (b = true → d)) ∧ Below w.heap.size w w'
structure FewD (d : DesD) : Prop where
  ins : d.inputs.length ≤ 12
  wires : d.wires.length ≤ 12
  regs : d.regs.length ≤ 12
  outs : d.outputs.length ≤ 12
  exprs : ∀ e ∈ d.exprs, e.nodes.length ≤ 40
set_option maxRecDepth 100000 in
set_option maxHeartbeats 8000000 in
theorem Few32_any (d : DesD) (x : DesA) (w : World) (hE : DesIn w d x) :
    Calls Tryz.prog 10 #[desVal d x] w (FewPost w (FewD d)) := by
  have HW := Lib.hid hE.wires
  have HWA := Lib.hid hE.wires.addr
  have HR := Lib.hid hE.regs
  have HRA := Lib.hid hE.regs.addr
  have hl0 := hE.ins.2.1
  have hl1 := hE.wires.2.1
  have hl2 := hE.regs.2.1
  have hl3 := hE.outs.2.1
  have HF : Hid (d.inputs.length ≤ 12 → d.wires.length ≤ 12 → d.regs.length ≤ 12 → d.outputs.length ≤ 12 → (∀ j (hj : j < d.wires.length), (d.wires[j]'hj).expr.nodes.length ≤ 40) → (∀ j (hj : j < d.regs.length), (d.regs[j]'hj).next.nodes.length ≤ 40) → FewD d) := fun h1 h2 h3 h4 h5 h6 => ⟨h1, h2, h3, h4, fun e he => by
    unfold DesD.exprs at he
    rcases List.mem_append.1 he with he | he
    · obtain ⟨v, hv, rfl⟩ := List.mem_map.1 he
      obtain ⟨j, hj, rfl⟩ := List.getElem_of_mem hv
      exact h5 j hj
    · obtain ⟨v, hv, rfl⟩ := List.mem_map.1 he
      obtain ⟨j, hj, rfl⟩ := List.getElem_of_mem hv
      exact h6 j hj⟩
  have HPf : Hid (∀ w', Below w.heap.size w w' → FewPost w (FewD d) (.returned (.bool false)) w') := fun w' h => ⟨⟨false, rfl, fun h => by simp at h⟩, h⟩
  have HPt : Hid (∀ w', FewD d → Below w.heap.size w w' → FewPost w (FewD d) (.returned (.bool true)) w') := fun w' hF h => ⟨⟨true, rfl, fun _ => hF⟩, h⟩
  generalize FewPost w (FewD d) = Po at HPf HPt ⊢
  generalize FewD d = Fd at HF HPt
  clear hE
  obtain ⟨nm, ins, wires, regs, outs⟩ := d
  obtain ⟨ai, ci, aw, cw, ar, cr, ao, co⟩ := x
  simp only [desVal, desVals] at HW HWA HR HRA hl0 hl1 hl2 hl3 HF ⊢
  have HB0 : Hid (Below (w.heap.size + 1) (w.alloc (.cells #[.string nm, .slice ai ins.length ci, .slice aw wires.length cw, .slice ar regs.length cr, .slice ao outs.length co] 27)) (w.alloc (.cells #[.string nm, .slice ai ins.length ci, .slice aw wires.length cw, .slice ar regs.length cr, .slice ao outs.length co] 27))) := Below.refl _ _
  have HPB := Lib.hid (boxW _ HB0.out)
  by_cases q0 : 12 < ins.length
  · have d0 : decide ((12 : Int) < (ins.length : Int)) = true := by simp; omega
    go_enter Tryz.func10, Tryz.ntmps10
    go_wp2_with fail
    first | exact HPf.out _ HPB.out | (go_ret; exact HPf.out _ HPB.out)
  have d0 : decide ((12 : Int) < (ins.length : Int)) = false := by simp; omega
  by_cases q1 : 12 < wires.length
  · have d1 : decide ((12 : Int) < (wires.length : Int)) = true := by simp; omega
    go_enter Tryz.func10, Tryz.ntmps10
    go_wp2_with fail
    first | exact HPf.out _ HPB.out | (go_ret; exact HPf.out _ HPB.out)
  have d1 : decide ((12 : Int) < (wires.length : Int)) = false := by simp; omega
  by_cases q2 : 12 < regs.length
  · have d2 : decide ((12 : Int) < (regs.length : Int)) = true := by simp; omega
    go_enter Tryz.func10, Tryz.ntmps10
    go_wp2_with fail
    first | exact HPf.out _ HPB.out | (go_ret; exact HPf.out _ HPB.out)
  have d2 : decide ((12 : Int) < (regs.length : Int)) = false := by simp; omega
  by_cases q3 : 12 < outs.length
  · have d3 : decide ((12 : Int) < (outs.length : Int)) = true := by simp; omega
    go_enter Tryz.func10, Tryz.ntmps10
    go_wp2_with fail
    first | exact HPf.out _ HPB.out | (go_ret; exact HPf.out _ HPB.out)
  have d3 : decide ((12 : Int) < (outs.length : Int)) = false := by simp; omega
  go_enter Tryz.func10, Tryz.ntmps10
  go_wp2_with fail
  go_loopw [3] (fun i wr => ∃ k : Nat, i = .int .i64 k ∧ k ≤ wires.length ∧ Hid (∀ j (hj : j < wires.length), j < k → (wires[j]'hj).expr.nodes.length ≤ 40) ∧ Hid (Below (w.heap.size + 1) (w.alloc (.cells #[.string nm, .slice ai ins.length ci, .slice aw wires.length cw, .slice ar regs.length cr, .slice ao outs.length co] 27)) wr)) (fun i _ => wires.length - (intOf i).toNat)
  case atStart => exact ⟨0, rfl, Nat.zero_le _, fun _ _ h => absurd h (by omega), HB0⟩
  case round =>
    rename World => wr
    obtain ⟨k, rfl, hk, HQw, HB⟩ := hrel
    have HBw := Lib.hid (boxW _ HB.out)
    have hzr := HB.out.size
    simp only [World.size_alloc] at hzr
    ((try clear b0 b1 b2 b3 b4); have b0 := box_cell HB.out 0; have b1 := box_cell HB.out 1; have b2 := box_cell HB.out 2; have b3 := box_cell HB.out 3; have b4 := box_cell HB.out 4; (try simp at b0 b1 b2 b3 b4))
    by_cases hlt : k < wires.length
    · obtain ⟨b, off, ha⟩ := HWA.out.resolve_left (by omega)
      obtain ⟨ae, ce, _, _, c2, c3, c4, c5, hX⟩ := (HW.out.keep (keeps_of_below HBw.out)).get ha hlt
      have HC := Lib.hid (Few_any (wires[k]'hlt).expr 40 ae ce wr hX (by omega) (by omega))
      have HNx : Hid (((wires[k]'hlt).expr.nodes.length : Int) ≤ 40 → ∀ j (hj : j < wires.length), j < k + 1 → (wires[j]'hj).expr.nodes.length ≤ 40) := fun h j hj hjk => by
        by_cases e : j = k
        · subst e; omega
        · exact HQw.out j hj (by omega)
      generalize (wires[k]'hlt).expr = e at c2 c3 c4 c5 hX HC HNx
      rw [ha] at b2
      clear ha hX
      go_wp2_with fail
      refine HC.out.mono ?_
      rintro r w4 ⟨⟨bb, rfl, hbb⟩, hb4⟩
      have HBB := Lib.hid hbb
      have HB4 := Lib.hid (HB.out.trans (hb4.mono (by simpa using hzr)))
      clear hb4 hbb c2 c3 c4 c5 b0 b1 b2 b3 b4
      cases bb
      · go_wp2_with fail
        first | exact HPf.out _ (boxW _ HB4.out) | (go_ret; exact HPf.out _ (boxW _ HB4.out))
      · go_wp2_with fail
        go_roundw
        case rel => exact ⟨k + 1, by go_num, by omega, HNx.out (HBB.out (by trivial)), HB4.out⟩
        case measure => simp [intOf]; omega
    obtain rfl : k = wires.length := by omega
    have HBq := Lib.hid HB.out
    go_wp2_with fail
    go_loopw [4] (fun i wr => ∃ k : Nat, i = .int .i64 k ∧ k ≤ regs.length ∧ Hid (∀ j (hj : j < regs.length), j < k → (regs[j]'hj).next.nodes.length ≤ 40) ∧ Hid (Below (w.heap.size + 1) (w.alloc (.cells #[.string nm, .slice ai ins.length ci, .slice aw wires.length cw, .slice ar regs.length cr, .slice ao outs.length co] 27)) wr)) (fun i _ => regs.length - (intOf i).toNat)
    case atStart => exact ⟨0, rfl, Nat.zero_le _, fun _ _ h => absurd h (by omega), HBq⟩
    case round =>
      rename World => wr
      obtain ⟨k, rfl, hk, HQr, HB⟩ := hrel
      have HBw := Lib.hid (boxW _ HB.out)
      have hzr := HB.out.size
      simp only [World.size_alloc] at hzr
      ((try clear b0 b1 b2 b3 b4); have b0 := box_cell HB.out 0; have b1 := box_cell HB.out 1; have b2 := box_cell HB.out 2; have b3 := box_cell HB.out 3; have b4 := box_cell HB.out 4; (try simp at b0 b1 b2 b3 b4))
      by_cases hlt : k < regs.length
      · obtain ⟨b, off, ha⟩ := HRA.out.resolve_left (by omega)
        obtain ⟨ae, ce, _, _, _, c3, c4, c5, c6, hX⟩ := (HR.out.keep (keeps_of_below HBw.out)).get ha hlt
        have HC := Lib.hid (Few_any (regs[k]'hlt).next 40 ae ce wr hX (by omega) (by omega))
        have HNx : Hid (((regs[k]'hlt).next.nodes.length : Int) ≤ 40 → ∀ j (hj : j < regs.length), j < k + 1 → (regs[j]'hj).next.nodes.length ≤ 40) := fun h j hj hjk => by
          by_cases e : j = k
          · subst e; omega
          · exact HQr.out j hj (by omega)
        generalize (regs[k]'hlt).next = e at c3 c4 c5 c6 hX HC HNx
        rw [ha] at b3
        clear ha hX
        go_wp2_with fail
        refine HC.out.mono ?_
        rintro r w4 ⟨⟨bb, rfl, hbb⟩, hb4⟩
        have HBB := Lib.hid hbb
        have HB4 := Lib.hid (HB.out.trans (hb4.mono (by simpa using hzr)))
        clear hb4 hbb c3 c4 c5 c6 b0 b1 b2 b3 b4
        cases bb
        · go_wp2_with fail
          first | exact HPf.out _ (boxW _ HB4.out) | (go_ret; exact HPf.out _ (boxW _ HB4.out))
        · go_wp2_with fail
          go_roundw
          case rel => exact ⟨k + 1, by go_num, by omega, HNx.out (HBB.out (by trivial)), HB4.out⟩
          case measure => simp [intOf]; omega
      obtain rfl : k = regs.length := by omega
      go_wp2_with fail
      first | exact HPt.out _ (HF.out (by omega) (by omega) (by omega) (by omega) (fun j hj => HQw.out j hj hj) (fun j hj => HQr.out j hj hj)) HBw.out | (go_ret; exact HPt.out _ (HF.out (by omega) (by omega) (by omega) (by omega) (fun j hj => HQw.out j hj hj) (fun j hj => HQr.out j hj hj)) HBw.out)
end Go.Proofs.YteaeemkodbodmaaGreatDoor

/- law32: Brief. -/
namespace Go.Proofs.YteaeemkodbodmaaGreatDoor
open Go.RowKit
attribute [local go_sem ↓] Go.wp_at_zero Go.wp_at_succ

def BriefD (R : List Sigs) : Prop := R.length ≤ 30 ∧ ∀ j (hj : j < R.length), (R[j]'hj).length ≤ 30
set_option maxRecDepth 100000 in
set_option maxHeartbeats 8000000 in
theorem Brief_any (R : List Sigs) (a : Option Addr) (cap : Nat) (w : World) (hI : SigRows w R a cap) :
    Calls Tryz.prog 16 #[.slice a R.length cap] w (FewPost w (BriefD R)) := by
  have HI := Lib.hid hI
  have HA := Lib.hid hI.addr
  have hl := hI.2.1
  have HPf : Hid (FewPost w (BriefD R) (.returned (.bool false)) w) := ⟨⟨false, rfl, fun h => by simp at h⟩, Below.refl _ _⟩
  have HPt : Hid (BriefD R → FewPost w (BriefD R) (.returned (.bool true)) w) := fun hF => ⟨⟨true, rfl, fun _ => hF⟩, Below.refl _ _⟩
  have HF : Hid (R.length ≤ 30 → (∀ j (hj : j < R.length), (R[j]'hj).length ≤ 30) → BriefD R) := fun h1 h2 => ⟨h1, h2⟩
  generalize FewPost w (BriefD R) = Po at HPf HPt ⊢
  generalize BriefD R = Fd at HPt HF
  clear hI
  go_enter Tryz.func16, Tryz.ntmps16
  go_wp2_with fail
  go_loop [3] (fun i => ∃ k : Nat, i = .int .i64 k ∧ k ≤ R.length ∧ k ≤ 31 ∧ Hid (∀ j (hj : j < R.length), j < k → (R[j]'hj).length ≤ 30)) (fun i => R.length - (intOf i).toNat)
  case atStart => exact ⟨0, rfl, Nat.zero_le _, Nat.zero_le _, fun _ _ h => absurd h (by omega)⟩
  case round =>
    obtain ⟨k, rfl, hk, h31, HQ⟩ := hrel
    by_cases hlt : k < R.length
    · have d1 : decide ((k : Int) < (R.length : Int)) = true := by simp; omega
      by_cases h30 : k < 31
      · have d2 : decide ((k : Int) < 31) = true := by simp; omega
        obtain ⟨b, off, ha⟩ := HA.out.resolve_left (by omega)
        subst ha
        obtain ⟨a', c', c0, hS⟩ := HI.out.get rfl hlt
        have hsl := hS.2.1
        have HNx : Hid ((R[k]'hlt).length ≤ 30 → ∀ j (hj : j < R.length), j < k + 1 → (R[j]'hj).length ≤ 30) := fun h j hj hjk => by
          by_cases e : j = k
          · subst e; omega
          · exact HQ.out j hj (by omega)
        generalize (R[k]'hlt) = L at c0 hS HNx hsl
        have hkl : (k : Int) < R.length := by omega
        clear hS
        by_cases hL : 30 < L.length
        · have d3 : decide ((30 : Int) < (L.length : Int)) = true := by simp; omega
          go_wp2_with fail
          first | exact HPf.out | (go_ret; exact HPf.out)
        · have d3 : decide ((30 : Int) < (L.length : Int)) = false := by simp; omega
          have HN2 := Lib.hid (HNx.out (by omega))
          go_wp2_with fail
          go_round
          case rel => exact ⟨k + 1, by go_num, by omega, by omega, HN2⟩
          case measure => (simp [intOf]; try omega)
      · have d2 : decide ((k : Int) < 31) = false := by simp; omega
        have d3 : decide ((R.length : Int) ≤ 30) = false := by simp; omega
        go_wp2_with fail
        first | exact HPf.out | (go_ret; exact HPf.out)
    · obtain rfl : k = R.length := by omega
      have d1 : decide ((R.length : Int) < (R.length : Int)) = false := by simp
      by_cases h30 : R.length ≤ 30
      · have d3 : decide ((R.length : Int) ≤ 30) = true := by simp; omega
        have HT := Lib.hid (HPt.out (HF.out h30 (fun j hj => HQ.out j hj hj)))
        go_wp2_with fail
        first | exact HT.out | (go_ret; exact HT.out)
      · have d3 : decide ((R.length : Int) ≤ 30) = false := by simp; omega
        go_wp2_with fail
        first | exact HPf.out | (go_ret; exact HPf.out)
end Go.Proofs.YteaeemkodbodmaaGreatDoor
