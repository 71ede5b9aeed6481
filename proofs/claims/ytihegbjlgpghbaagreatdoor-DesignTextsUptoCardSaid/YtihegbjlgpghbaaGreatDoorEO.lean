/- ref31.Print: head; ref09.Print. -/
import Derived.Test.YtihegbjlgpghbaaGreatDoorEN
import Derived.Test.YtihegbjlgpghbaaGreatDoorEE
import Derived.Test.YtihegbjlgpghbaaGreatDoorDM
import Derived.Test.YtihegbjlgpghbaaGreatDoorEJ
set_option linter.unusedSimpArgs false
set_option linter.unusedVariables false
set_option linter.unnecessarySimpa false
namespace Go.Proofs.YtihegbjlgpghbaaGreatDoor
open Go.RowKit
attribute [local go_sem ↓] Go.wp_at_zero Go.wp_at_succ

end Go.Proofs.YtihegbjlgpghbaaGreatDoor

/- law31: short and Small, exactly. -/
namespace Go.Proofs.YtihegbjlgpghbaaGreatDoor
open Go.RowKit
attribute [local go_sem ↓] Go.wp_at_zero Go.wp_at_succ

def shortS : Nat → Ex → Bool
  | 0, _ => false
  | l + 1, e => decide (e.args.length ≤ 40) && e.args.all (shortS l)
theorem shortS_succ (l : Nat) (e : Ex) : shortS (l + 1) e = (decide (e.args.length ≤ 40) && e.args.all (shortS l)) := rfl
noncomputable def smallS (d : DesD) : Bool := decide (d.inputs.length + d.wires.length + d.regs.length ≤ 60) && decide (d.outputs.length ≤ 60) && d.exprs.all fun e => shortS 12 e && decide (e.nodes.length ≤ 40)
theorem alle_false {α : Type} {p : α → Bool} {l : List α} {j : Nat} (h : j < l.length) (hp : p (l[j]'h) = false) : l.all p = false := by
  rw [List.all_eq_false]
  exact ⟨_, List.getElem_mem h, by simp [hp]⟩
theorem alle_true {α : Type} {p : α → Bool} {l : List α} (h : ∀ k (hk : k < l.length), p (l[k]'hk) = true) : l.all p = true := by
  rw [List.all_eq_true]
  intro x hx
  obtain ⟨k, hk, rfl⟩ := List.getElem_of_mem hx
  exact h k hk
theorem alle_next {α : Type} {p : α → Bool} {l : List α} {j : Nat} (h : j < l.length) (hp : p (l[j]'h) = true) (ih : ∀ k (hk : k < l.length), k < j → p (l[k]'hk) = true) : ∀ k (hk : k < l.length), k < j + 1 → p (l[k]'hk) = true := by
  intro k hk h1
  rcases Nat.lt_or_ge k j with q | q
  · exact ih k hk q
  · obtain rfl : k = j := by omega
    exact hp
def BoolIs (b : Bool) (w : World) (r : Ending) (w' : World) : Prop := r = .returned (.bool b) ∧ Below w.heap.size w w'
set_option maxRecDepth 100000 in
set_option maxHeartbeats 4000000 in
theorem short_ex : ∀ (lv : Nat), lv ≤ 1000 → ∀ (op nn : Int) (s : ByteArray) (args : List Ex) (a : Option Addr) (cap : Nat) (w : World), ExIn w (.mk op nn s args) a cap →
    Calls Tryz.prog 52 #[.agg #[.int .i64 op, .int .i64 nn, .string s, .slice a args.length cap], .int .i64 lv] w (BoolIs (shortS lv (.mk op nn s args)) w) := by
  intro lv
  induction lv with
  | zero =>
    intro _ op nn s args a cap w hE
    have hlen := hE.2.2.1
    simp only [Ex.args_mk] at hlen
    have HP : Hid (∀ b w', b = shortS 0 (.mk op nn s args) → Below w.heap.size w w' → BoolIs (shortS 0 (.mk op nn s args)) w (.returned (.bool b)) w') := fun b w' e h => ⟨by rw [e], h⟩
    generalize BoolIs (shortS 0 (.mk op nn s args)) w = Po at HP ⊢
    have hB : Below w.heap.size w (w.alloc (.cells #[.int .i64 op, .int .i64 nn, .string s, .slice a args.length cap] 55)) := (Below.refl _ _).alloc (Nat.le_refl _) _
    have HB := Lib.hid (HP.out false _ rfl hB)
    clear hE hB HP
    go_enter Tryz.func52, Tryz.ntmps52
    go_wp2_with fail
    first | exact HB.out | (go_ret; exact HB.out)
  | succ lv ih =>
    intro hlv op nn s args a cap w hE
    have hlen := hE.2.2.1
    simp only [Ex.args_mk] at hlen
    have HI := Lib.hid (ih (by omega))
    have HE := Lib.hid hE.2
    have HA := Lib.hid (SliceIn.addr hE.2)
    simp only [Ex.args_mk] at HE HA
    have HP : Hid (∀ b w', b = (decide (args.length ≤ 40) && args.all (shortS lv)) → Below w.heap.size w w' → BoolIs (shortS (lv + 1) (.mk op nn s args)) w (.returned (.bool b)) w') := fun b w' e h => ⟨by rw [e, shortS_succ, Ex.args_mk], h⟩
    unfold BoolIs at HI
    generalize BoolIs (shortS (lv + 1) (.mk op nn s args)) w = Po at HP ⊢
    generalize shortS lv = F at HP HI
    clear ih hE
    obtain ⟨L, hL⟩ : ∃ L : Int, L = ((lv + 1 : Nat) : Int) := ⟨_, rfl⟩
    rw [← hL]
    have hL1 : (lv : Int) = L - 1 := by omega
    have hL2 : 0 < L := by omega
    have hL3 : L ≤ 1000 := by omega
    rw [hL1] at HI
    clear hL hL1 hlv
    have d0 : (L == 0) = false := beq_eq_false_iff_ne.2 (by omega)
    have hB : Below w.heap.size w (w.alloc (.cells #[.int .i64 op, .int .i64 nn, .string s, .slice a args.length cap] 55)) := (Below.refl _ _).alloc (Nat.le_refl _) _
    have HB0 : Hid (Below (w.heap.size + 1) (w.alloc (.cells #[.int .i64 op, .int .i64 nn, .string s, .slice a args.length cap] 55)) (w.alloc (.cells #[.int .i64 op, .int .i64 nn, .string s, .slice a args.length cap] 55))) := Below.refl _ _
    rcases Nat.lt_or_ge 40 args.length with q | q
    · have HPB := Lib.hid (HP.out false _ (by rw [decide_eq_false (Nat.not_le.2 q)]; rfl) hB)
      clear hB
      have d1 : decide ((40 : Int) < (args.length : Int)) = true := by simp; omega
      go_enter Tryz.func52, Tryz.ntmps52
      go_wp2_with fail
      first | exact HPB.out | (go_ret; exact HPB.out)
    · have d1 : decide ((40 : Int) < (args.length : Int)) = false := by simp; omega
      have HPb : Hid (∀ b w', b = args.all F → Below w.heap.size w w' → Po (.returned (.bool b)) w') := fun b w' e h => HP.out b w' (by rw [decide_eq_true q, e]; rfl) h
      clear hB HP
      go_enter Tryz.func52, Tryz.ntmps52
      go_wp2_with fail
      go_loopw [4, 5] (fun r i wr => ∃ j : Nat, r = .bool false ∧ i = .int .i64 j ∧ j ≤ args.length ∧ Hid (∀ k (hk : k < args.length), k < j → F (args[k]'hk) = true) ∧ Hid (Below (w.heap.size + 1) (w.alloc (.cells #[.int .i64 op, .int .i64 nn, .string s, .slice a args.length cap] 55)) wr)) (fun _ i _ => args.length - (intOf i).toNat)
      case atStart => exact ⟨0, rfl, rfl, Nat.zero_le _, fun k _ h => absurd h (Nat.not_lt_zero _), HB0⟩
      case round =>
        obtain ⟨j, rfl, rfl, hj, HA0, HB⟩ := hrel
        have HBw := Lib.hid (boxW _ HB.out)
        have hzr := HB.out.size
        simp only [World.size_alloc] at hzr
        have b3 := box_cell HB.out 3
        (try simp at b3)
        by_cases hlt : j < args.length
        · obtain ⟨b, off, ha⟩ := HA.out.resolve_left (by omega)
          subst ha
          obtain ⟨a', cap', g0, g1, g2, g3, hX⟩ := (HE.out.keep (keeps_of_below HBw.out)).get rfl hlt
          have HX := Lib.hid hX
          have HF := Lib.hid (fun h => alle_false (p := F) hlt h)
          have HN := Lib.hid (fun h => alle_next (p := F) hlt h HA0.out)
          clear HA0
          generalize (args[j]'hlt) = e at g0 g1 g2 g3 HX HF HN
          obtain ⟨op', n', s', args'⟩ := e
          simp only [Ex.op_mk, Ex.n_mk, Ex.name_mk, Ex.args_mk] at g0 g1 g2 g3
          have HC := Lib.hid (HI.out op' n' s' args' a' cap' wr HX.out)
          generalize F (.mk op' n' s' args') = bb at HC HF HN
          clear hX HX
          go_wp2_with fail
          refine HC.out.mono ?_
          rintro r w2 ⟨rfl, hb2⟩
          have HB2 := Lib.hid (HB.out.trans (hb2.mono hzr))
          clear hb2 g0 g1 g2 g3 b3
          cases bb
          · have HPf := Lib.hid (HPb.out false _ (HF.out rfl).symm (boxW _ HB2.out))
            go_wp2_with fail
            first | exact HPf.out | (go_ret; exact HPf.out)
          · have HN1 := Lib.hid (HN.out rfl)
            clear HF HN
            go_wp2_with fail
            go_roundw
            case rel => exact ⟨j + 1, rfl, by go_num, by omega, HN1, HB2⟩
            case measure => (simp [intOf]; try omega)
        · obtain rfl : j = args.length := by omega
          have HPt := Lib.hid (HPb.out true _ (alle_true fun k hk => HA0.out k hk hk).symm HBw.out)
          go_wp2_with fail
          first | exact HPt.out | (go_ret; exact HPt.out)
set_option maxRecDepth 100000 in
set_option maxHeartbeats 8000000 in
theorem Small_ex (d : DesD) (x : DesA) (w : World) (hE : DesIn w d x) (hs : DesSmall d) :
    Calls Tryz.prog 18 #[desVal d x] w (BoolIs (smallS d) w) := by
  have hl := hs.len
  have hel : d.exprs.length ≤ 1073741824 := by rw [exprs_len]; omega
  have HX0 := Lib.hid (fun W (hW : Below w.heap.size w W) => Exprs_any d x W (hE.below hW) hel)
  have HSh : Hid (∀ e ∈ d.exprs, ∀ a cap W, ExIn W e a cap → Calls Tryz.prog 52 #[.agg #[.int .i64 e.op, .int .i64 e.n, .string e.name, .slice a e.args.length cap], .int .i64 12] W (BoolIs (shortS 12 e) W)) := fun e _ a cap W h => by
    obtain ⟨op, n, s, args⟩ := e
    exact short_ex 12 (by omega) op n s args a cap W h
  have HSz : Hid (∀ e ∈ d.exprs, ∀ a cap W, ExIn W e a cap → Calls Tryz.prog 53 #[.agg #[.int .i64 e.op, .int .i64 e.n, .string e.name, .slice a e.args.length cap]] W fun r w' => r = .returned (.int .i64 (e.nodes.length : Nat)) ∧ Below W.heap.size W w') := fun e he a cap W h => by
    have hn := hs.exprs e he
    obtain ⟨op, n, s, args⟩ := e
    exact Size_any op n s args a cap W h (by omega)
  have HMem : Hid (∀ k (hk : k < d.exprs.length), (d.exprs[k]'hk) ∈ d.exprs) := fun k hk => List.getElem_mem hk
  have HP : Hid (∀ b w', b = (decide (d.inputs.length + d.wires.length + d.regs.length ≤ 60) && decide (d.outputs.length ≤ 60) && d.exprs.all fun e => shortS 12 e && decide (e.nodes.length ≤ 40)) → Below w.heap.size w w' → BoolIs (smallS d) w (.returned (.bool b)) w') := fun b w' e h => ⟨by rw [e]; rfl, h⟩
  unfold BoolIs at HSh
  generalize BoolIs (smallS d) w = Po at HP ⊢
  generalize shortS 12 = F at HP HSh
  clear hE hs
  simp only [desVal, desVals] at HX0 ⊢
  have hbA : Below w.heap.size w (w.alloc (.cells #[.string d.name, .slice x.ai d.inputs.length x.ci, .slice x.aw d.wires.length x.cw, .slice x.ar d.regs.length x.cr, .slice x.ao d.outputs.length x.co] 27)) := (by repeat (first | assumption | exact Below.refl _ _ | refine Below.drew ?_ | refine below_drewN ?_ _ | refine Below.alloc ?_ (by first | omega | (simp only [World.size_alloc, World.size_setCell, World.size_drew, World.heap_drewN] <;> omega) | (simp <;> omega)) _ | refine Below.setCell ?_ (by first | omega | (simp only [World.size_alloc, World.size_setCell, World.size_drew, World.heap_drewN] <;> omega) | (simp <;> omega)) _))
  have HB0 : Hid (Below (w.heap.size + 1) (w.alloc (.cells #[.string d.name, .slice x.ai d.inputs.length x.ci, .slice x.aw d.wires.length x.cw, .slice x.ar d.regs.length x.cr, .slice x.ao d.outputs.length x.co] 27)) (w.alloc (.cells #[.string d.name, .slice x.ai d.inputs.length x.ci, .slice x.aw d.wires.length x.cw, .slice x.ar d.regs.length x.cr, .slice x.ao d.outputs.length x.co] 27))) := Below.refl _ _
  have HX1 := Lib.hid (HX0.out _ hbA)
  have HbA := Lib.hid hbA
  clear hbA
  generalize hEx : d.exprs = EX at HX1 HSh HSz HMem hel HP
  clear HX0 hEx
  obtain ⟨h1, h2, h3, h4⟩ := hl
  rcases Nat.lt_or_ge 60 (d.inputs.length + d.wires.length + d.regs.length) with q | q
  · have HPA := Lib.hid (HP.out false _ (by rw [decide_eq_false (Nat.not_le.2 q)]; rfl) HbA.out)
    clear HP
    have d1 : decide ((60 : Int) < (d.inputs.length : Int) + (d.wires.length : Int) + (d.regs.length : Int)) = true := by simp; omega
    go_enter Tryz.func18, Tryz.ntmps18
    go_wp2_with fail
    first | exact HPA.out | (go_ret; exact HPA.out)
  have d1 : decide ((60 : Int) < (d.inputs.length : Int) + (d.wires.length : Int) + (d.regs.length : Int)) = false := by simp; omega
  rcases Nat.lt_or_ge 60 d.outputs.length with q2 | q2
  · have HPA := Lib.hid (HP.out false _ (by rw [decide_eq_false (p := d.outputs.length ≤ 60) (Nat.not_le.2 q2), Bool.and_false]; rfl) HbA.out)
    clear HP
    have d2 : decide ((60 : Int) < (d.outputs.length : Int)) = true := by simp; omega
    go_enter Tryz.func18, Tryz.ntmps18
    go_wp2_with fail
    first | exact HPA.out | (go_ret; exact HPA.out)
  have d2 : decide ((60 : Int) < (d.outputs.length : Int)) = false := by simp; omega
  have HPb : Hid (∀ b w', b = (EX.all fun e => F e && decide (e.nodes.length ≤ 40)) → Below w.heap.size w w' → Po (.returned (.bool b)) w') := fun b w' e h => HP.out b w' (by
    have h1 : decide (d.inputs.length + d.wires.length + d.regs.length ≤ 60) = true := by simp; omega
    have h2 : decide (d.outputs.length ≤ 60) = true := by simp; omega
    rw [h1, h2, e]; rfl) h
  clear HP HbA
  go_enter Tryz.func18, Tryz.ntmps18
  go_wp2_with fail
  refine HX1.out.mono ?_
  rintro e w1 hx
  obtain ⟨⟨ae, ce, rfl, hS⟩, hb1⟩ := hx
  have HB1 := Lib.hid (HB0.out.trans (hb1.mono (by simp)))
  have HS := Lib.hid hS
  have HSA := Lib.hid (SliceIn.addr hS)
  have hlE := hS.2.1
  have hcE := hS.1
  clear hb1 hS
  go_wp2_with fail
  go_loopw [2, 4] (fun r i wr => ∃ j : Nat, r = .bool false ∧ i = .int .i64 j ∧ j ≤ EX.length ∧ Hid (∀ k (hk : k < EX.length), k < j → (fun e : Ex => F e && decide (e.nodes.length ≤ 40)) (EX[k]'hk) = true) ∧ Hid (Below (w.heap.size + 1) (w.alloc (.cells #[.string d.name, .slice x.ai d.inputs.length x.ci, .slice x.aw d.wires.length x.cw, .slice x.ar d.regs.length x.cr, .slice x.ao d.outputs.length x.co] 27)) wr) ∧ Hid (ExsIn wr EX ae ce)) (fun _ i _ => EX.length - (intOf i).toNat)
  case atStart => exact ⟨0, rfl, rfl, Nat.zero_le _, fun k _ h => absurd h (Nat.not_lt_zero _), HB1, HS⟩
  case round =>
    obtain ⟨j, rfl, rfl, hj, HA0, HB, HSj⟩ := hrel
    have HBw := Lib.hid (boxW _ HB.out)
    by_cases hlt : j < EX.length
    · obtain ⟨b, off, ha⟩ := HSA.out.resolve_left (by omega)
      subst ha
      obtain ⟨a', cap', g0, g1, g2, g3, hX⟩ := HSj.out.get rfl hlt
      have HX := Lib.hid hX
      have HC1 := Lib.hid (HSh.out _ (HMem.out j hlt) a' cap' wr hX)
      have HC2 := Lib.hid (fun W (hW : Below wr.heap.size wr W) => HSz.out _ (HMem.out j hlt) a' cap' W (hX.keep (keeps_of_below hW)))
      have HF := Lib.hid (fun h => alle_false (l := EX) (p := fun e : Ex => F e && decide (e.nodes.length ≤ 40)) hlt h)
      have HN := Lib.hid (fun h => alle_next (l := EX) (p := fun e : Ex => F e && decide (e.nodes.length ≤ 40)) hlt h HA0.out)
      clear HA0
      generalize (EX[j]'hlt) = e at g0 g1 g2 g3 HX HC1 HC2 HF HN
      obtain ⟨op', n', s', args'⟩ := e
      simp only [Ex.op_mk, Ex.n_mk, Ex.name_mk, Ex.args_mk] at g0 g1 g2 g3 HC1 HC2
      clear hX
      have HF0 : Hid (F (.mk op' n' s' args') = false → (EX.all fun e => F e && decide (e.nodes.length ≤ 40)) = false) := fun h => HF.out (by simp [h])
      have HF1 : Hid (decide ((Ex.mk op' n' s' args').nodes.length ≤ 40) = false → (EX.all fun e => F e && decide (e.nodes.length ≤ 40)) = false) := fun h => HF.out (by simp only [h, Bool.and_false])
      have HN1 : Hid (F (.mk op' n' s' args') = true → decide ((Ex.mk op' n' s' args').nodes.length ≤ 40) = true → ∀ k (hk : k < EX.length), k < j + 1 → (fun e : Ex => F e && decide (e.nodes.length ≤ 40)) (EX[k]'hk) = true) := fun h h' => HN.out (by simp only [h, h', Bool.and_true])
      clear HF HN
      generalize F (.mk op' n' s' args') = bb at HC1 HF0 HN1
      go_wp2_with fail
      refine HC1.out.mono ?_
      rintro r w2 ⟨rfl, hb2⟩
      have hzr : w.heap.size + 1 ≤ wr.heap.size := by
        have := HB.out.size
        simpa using this
      have HB2 := Lib.hid (HB.out.trans (hb2.mono hzr))
      have HC3 := Lib.hid (HC2.out _ hb2)
      have k0 := keeps_of_below hb2 _ _ g0
      have k1 := keeps_of_below hb2 _ _ g1
      have k2 := keeps_of_below hb2 _ _ g2
      have k3 := keeps_of_below hb2 _ _ g3
      have HS2 := Lib.hid (HSj.out.keep (keeps_of_below hb2))
      clear HC2 HB hb2 HSh HSz HSj
      cases bb
      · have HPf := Lib.hid (HPb.out false _ (HF0.out rfl).symm (boxW _ HB2.out))
        clear HF0 HF1 HN1
        go_wp2_with fail
        first | exact HPf.out | (go_ret; exact HPf.out)
      · go_wp2_with fail
        refine HC3.out.mono ?_
        rintro r w3 ⟨rfl, hb3⟩
        have hz2 : w.heap.size + 1 ≤ w2.heap.size := by
          have := HB2.out.size
          simpa using this
        have HB3 := Lib.hid (HB2.out.trans (hb3.mono hz2))
        have HS3 := Lib.hid (HS2.out.keep (keeps_of_below hb3))
        clear hb3 k0 k1 k2 k3 g0 g1 g2 g3
        generalize (Ex.mk op' n' s' args').nodes.length = nn at HF1 HN1 ⊢
        rcases Nat.lt_or_ge 40 nn with q3 | q3
        · have HPf3 := Lib.hid (HPb.out false _ (HF1.out (by simp; omega)).symm (boxW _ HB3.out))
          clear HF0 HF1 HN1
          have d3 : decide ((40 : Int) < (nn : Int)) = true := by simp; omega
          go_wp2_with fail
          first | exact HPf3.out | (go_ret; exact HPf3.out)
        · have HN2 := Lib.hid (HN1.out (by first | rfl | trivial) (by simp; omega))
          clear HF0 HF1 HN1
          have d3 : decide ((40 : Int) < (nn : Int)) = false := by simp; omega
          go_wp2_with fail
          go_roundw
          case rel => exact ⟨j + 1, rfl, by go_num, by omega, HN2, HB3, HS3⟩
          case measure => (simp [intOf]; try omega)
    · obtain rfl : j = EX.length := by omega
      have HPt := Lib.hid (HPb.out true _ (alle_true (l := EX) (p := fun e : Ex => F e && decide (e.nodes.length ≤ 40)) fun k hk => HA0.out k hk hk).symm HBw.out)
      go_wp2_with fail
      first | exact HPt.out | (go_ret; exact HPt.out)
end Go.Proofs.YtihegbjlgpghbaaGreatDoor

/- Both printers of a design. -/
namespace Go.Proofs.YtihegbjlgpghbaaGreatDoor
open Go.RowKit
attribute [local go_sem ↓] Go.wp_at_zero Go.wp_at_succ

theorem indexByte_no {l : List UInt8} {c : UInt8} (h : c ∉ l) : Lib.indexByte l c < 0 := by
  induction l with
  | nil => simp [Lib.indexByte]
  | cons x l ih =>
    simp only [List.mem_cons, not_or] at h
    have h1 := ih h.2
    have h2 := Lib.indexByte_ge l c
    have h3 : Lib.indexByte l c = -1 := by omega
    unfold Lib.indexByte
    rw [if_neg (fun e => h.1 (by simpa using e : x = c).symm)]
    simp [h3]
theorem name_found {N : List ByteArray} {s : ByteArray} (h : (idxT N s).isSome = true) : s ∈ N := by
  obtain ⟨k, hk⟩ := Option.isSome_iff_exists.1 h
  obtain ⟨h1, h2, _⟩ := idxT_some hk
  have : N[k]'h1 = s := ByteArray.ext (Array.toList_inj.1 (by rw [← ByteArray.toList_eq, ← ByteArray.toList_eq]; exact h2))
  rw [← this]
  exact List.getElem_mem h1
theorem names_ok {d : DesD} (h : d.err = 0) : nameB d.name.data.toList = true ∧ ∀ s ∈ d.names, nameB s.data.toList = true := by
  unfold DesD.err at h
  rw [firstErr_zero] at h
  have hs := h d.sigErr (by simp)
  unfold DesD.sigErr at hs
  split at hs
  · simp at hs
  · rename_i h1
    simp only [not_or, Bool.not_eq_false] at h1
    exact ⟨h1.1, fun s hs' => List.all_eq_true.1 h1.2 s hs'⟩
theorem outErr_in {inner : List ByteArray} {l : List ByteArray} : ∀ {seen : List ByteArray}, outErr inner seen l = 0 → ∀ s ∈ l, s ∈ inner := by
  induction l with
  | nil => intro seen _ s hs; simp at hs
  | cons x l ih =>
    intro seen h s hs
    unfold outErr at h
    by_cases h1 : (idxT inner x).isSome = false
    · rw [if_pos h1] at h; simp at h
    · rw [if_neg h1] at h
      by_cases h2 : (idxT seen x).isSome = true
      · rw [if_pos h2] at h; simp at h
      · rw [if_neg h2] at h
        rcases List.mem_cons.1 hs with rfl | hs
        · exact name_found (by cases hq : (idxT inner s).isSome with
            | true => rfl
            | false => exact absurd hq h1)
        · exact ih h s hs
theorem outs_ok {d : DesD} (h : d.err = 0) : ∀ s ∈ d.outputs, nameB s.data.toList = true := by
  have hn := (names_ok h).2
  unfold DesD.err at h
  rw [firstErr_zero] at h
  have ho := h (outErr d.inner [] d.outputs) (by simp)
  intro s hs
  refine hn s ?_
  have := outErr_in ho s hs
  unfold DesD.inner at this
  unfold DesD.names
  simp only [List.mem_append] at this ⊢
  rcases this with h | h
  · exact Or.inl (Or.inr h)
  · exact Or.inr h
theorem name16 {s : ByteArray} (h : nameB s.data.toList = true) : s.size ≤ 16 := by
  unfold nameB at h
  simp only [Bool.and_eq_true, decide_eq_true_eq] at h
  have := h.1.2
  rw [Array.length_toList] at this
  exact this
theorem valid_400 {e : Ex} (h : validS e = 0) : e.nodes.length ≤ 400 := by
  unfold validS at h
  split at h
  · simp at h
  · rename_i h1
    rcases Nat.lt_or_ge 400 e.nodes.length with q | q
    · exact absurd ⟨h, Or.inr q⟩ h1
    · exact q
theorem tx_ok {d : DesD} (h : d.err = 0) : ∀ e ∈ d.exprs, TxOk e ∧ validS e = 0 ∧ e.nodes.length ≤ 400 := by
  have hn := (names_ok h).2
  intro e he
  obtain ⟨h1, h2, h3⟩ := (desOk_of_err h).exprs e he
  refine ⟨fun x hx => ?_, h1, valid_400 h1⟩
  have hx0 := valid_ok h1 x hx
  obtain ⟨h4, h5⟩ := h2 x hx
  refine ⟨hx0, h4, h5, ?_, fun h6 => ?_⟩
  · by_cases h6 : x.op = 2
    · have := name16 (hn _ (name_found (h3 _ (names2_mem hx h6))))
      omega
    · unfold nodeS at hx0
      split at hx0
      · simp at hx0
      · split at hx0
        · simp at hx0
        · split at hx0
          · simp at hx0
          · rename_i _ _ h7
            simp only [not_or, not_and, Bool.not_eq_false] at h7
            have h8 : x.name.data.toList = [] := by
              by_cases h9 : x.name.data.toList = []
              · exact h9
              · exact absurd h9 (by simpa using h7.1 ⟨h6, h4, h5⟩)
            have : x.name.size = 0 := by
              have := congrArg List.length h8
              rw [Array.length_toList] at this
              exact this
            omega
  · exact indexByte_no (nameB_no91 (hn _ (name_found (h3 _ (names2_mem hx h6)))))
theorem flat_le {l : List ByteArray} {M : Nat} (h : ∀ s ∈ l, s.size ≤ M) : (cellsL l).length ≤ l.length * M := by
  rw [cellsL_len]
  induction l with
  | nil => simp
  | cons x l ih =>
    have h1 := h x (by simp)
    have h2 := ih fun s hs => h s (by simp [hs])
    have h3 : x.data.toList.length = x.size := Array.length_toList
    rw [List.flatMap_cons, List.length_append, List.length_cons, Nat.add_mul, h3]
    omega
theorem cellsL_app (X Y : List ByteArray) : (cellsL (X ++ Y)).length = (cellsL X).length + (cellsL Y).length := by
  unfold cellsL
  rw [List.flatMap_append, List.length_append]
theorem widths_ok {d : DesD} (h : d.err = 0) : ∀ n, n ∈ d.widths ∨ n ∈ d.regs.map (·.init) → 0 ≤ n ∧ n ≤ 65535 := by
  have hd := desOk_of_err h
  rintro n (hn | hn)
  · have := hd.widths n hn; omega
  · obtain ⟨r, hr, rfl⟩ := List.mem_map.1 hn
    have h1 := hd.inits r hr
    have h2 := hd.widths r.width (by unfold DesD.widths; simp only [List.mem_append, List.mem_map]; exact Or.inr ⟨r, hr, rfl⟩)
    have h3 : (2 : Int) ^ r.width.toNat ≤ 2 ^ 16 := by
      have : (2 : Nat) ^ r.width.toNat ≤ 2 ^ 16 := Nat.pow_le_pow_right (by decide) (by omega)
      exact_mod_cast this
    have h4 : (2 : Int) ^ 16 = 65536 := by decide
    omega
theorem print_len {d : DesD} (hs : DesSmall d) (h : d.err = 0) : (printL textS d).length ≤ 70368744177664 := by
  have hd := desOk_of_err h
  obtain ⟨hnm, hns⟩ := names_ok h
  have hl := hd.len
  have hw := widths_ok h
  have hx := tx_ok h
  have hn0 := name16 hnm
  have hlen : d.names.length = d.inputs.length + d.wires.length + d.regs.length := by simp [DesD.names]; omega
  have hL : (printL textS d).length = (cellsL (linA6 textS d)).length := (cellsL_len _).symm
  have h1 : (cellsL (d.inputs.map inLine)).length ≤ d.inputs.length * 52 := by
    refine Nat.le_trans (flat_le (M := 52) fun s hs => ?_) (by simp)
    obtain ⟨p, hp, rfl⟩ := List.mem_map.1 hs
    have h1 := name16 (hns p.name (by unfold DesD.names; simp only [List.mem_append, List.mem_map]; exact Or.inl (Or.inl ⟨p, hp, rfl⟩)))
    have h2 := hw p.width (Or.inl (by unfold DesD.widths; simp only [List.mem_append, List.mem_map]; exact Or.inl (Or.inl ⟨p, hp, rfl⟩)))
    have h3 := fmt_size h2.1 h2.2
    unfold inLine
    rw [lineS_size]
    show 5 + _ + _ + 0 + 10 ≤ 52
    omega
  have h2 : (cellsL (d.wires.map (wireLine textS))).length ≤ d.wires.length * 430000000000 := by
    refine Nat.le_trans (flat_le (M := 430000000000) fun s hs => ?_) (by simp)
    obtain ⟨p, hp, rfl⟩ := List.mem_map.1 hs
    have h1 := name16 (hns p.name (by unfold DesD.names; simp only [List.mem_append, List.mem_map]; exact Or.inl (Or.inr ⟨p, hp, rfl⟩)))
    have h2 := hw p.width (Or.inl (by unfold DesD.widths; simp only [List.mem_append, List.mem_map]; exact Or.inl (Or.inr ⟨p, hp, rfl⟩)))
    have h3 := fmt_size h2.1 h2.2
    have h4 := hx p.expr (by unfold DesD.exprs; simp only [List.mem_append, List.mem_map]; exact Or.inl ⟨p, hp, rfl⟩)
    have h5 := text_size p.expr h4.1
    unfold wireLine eqS
    rw [lineS_size, ByteArray.size_append]
    show 4 + _ + _ + (3 + _) + 10 ≤ _
    omega
  have h3 : (cellsL (d.regs.map (regLine textS))).length ≤ d.regs.length * 430000000000 := by
    refine Nat.le_trans (flat_le (M := 430000000000) fun s hs => ?_) (by simp)
    obtain ⟨p, hp, rfl⟩ := List.mem_map.1 hs
    have h1 := name16 (hns p.name (by unfold DesD.names; simp only [List.mem_append, List.mem_map]; exact Or.inr ⟨p, hp, rfl⟩))
    have h2 := hw p.width (Or.inl (by unfold DesD.widths; simp only [List.mem_append, List.mem_map]; exact Or.inr ⟨p, hp, rfl⟩))
    have h6 := hw p.init (Or.inr (List.mem_map.2 ⟨p, hp, rfl⟩))
    have h3 := fmt_size h2.1 h2.2
    have h7 := fmt_size h6.1 h6.2
    have h4 := hx p.next (by unfold DesD.exprs; simp only [List.mem_append, List.mem_map]; exact Or.inr ⟨p, hp, rfl⟩)
    have h5 := text_size p.next h4.1
    unfold regLine thenS
    rw [lineS_size, ByteArray.size_append, ByteArray.size_append, ByteArray.size_append]
    show 3 + _ + _ + (3 + _ + 6 + _) + 10 ≤ _
    omega
  have h4 : (cellsL (d.outputs.map outLine)).length ≤ d.outputs.length * 29 := by
    refine Nat.le_trans (flat_le (M := 29) fun s hs => ?_) (by simp)
    obtain ⟨p, hp, rfl⟩ := List.mem_map.1 hs
    have h1 := name16 (outs_ok h p hp)
    unfold outLine
    rw [ByteArray.size_append, ByteArray.size_append]
    show 11 + _ + 2 ≤ 29
    omega
  have h5 : (cellsL (linA1 d)).length ≤ 26 := by
    refine Nat.le_trans (flat_le (M := 26) fun s hs => ?_) (by simp [linA1])
    obtain rfl : s = hdrS d.name := by simpa [linA1] using hs
    unfold hdrS
    rw [ByteArray.size_append, ByteArray.size_append]
    show 7 + _ + 3 ≤ 26
    omega
  have h6 : (cellsL [endS]).length = 2 := rfl
  have ho := hs.len.2.2.2
  rw [hL]
  unfold linA6 linA5 linA4 linA3 linA2
  rw [cellsL_app, cellsL_app, cellsL_app, cellsL_app, cellsL_app]
  omega
noncomputable def prT (d : DesD) : ByteArray := open Classical in if d.err = 0 then printS textS d else .empty
theorem Print_good (d : DesD) (x : DesA) (w : World) (hE : DesIn w d x) (hs : DesSmall d) (hG : Glob w) (hT : Lib.TabIs Tryz.prog w "internal/strconv.uint64pow10" .u64 Lib.pow10Tab) (he : d.err = 0) :
    Calls Tryz.prog 31 #[desVal d x] w (SPost (printS textS d) w) := by
  have hx := tx_ok he
  refine Print_of d x w hE hs hG he textS (fun e h => ?_) (fun n hn => ?_) (print_len hs he)
  · obtain ⟨h1, h2, h3⟩ := hx e h
    have := text_size e h1
    exact ⟨print_of (text_all (fun n a b => fmt_any w hT n a b) e h1 h3) h2 (by omega) fun W hW => hG.below hW, by omega⟩
  · have h1 := widths_ok he n hn
    exact ⟨fmt_any w hT n h1.1 h1.2, by have := fmt_size h1.1 h1.2; omega⟩
set_option maxHeartbeats 1000000 in
theorem Print_any (d : DesD) (x : DesA) (w : World) (hE : DesIn w d x) (hs : DesSmall d) (hG : Glob w) (hT : Lib.TabIs Tryz.prog w "internal/strconv.uint64pow10" .u64 Lib.pow10Tab) :
    Calls Tryz.prog 31 #[desVal d x] w (SPost (prT d) w) := by
  by_cases he : d.err = 0
  · have := Print_good d x w hE hs hG hT he
    unfold prT
    rw [if_pos he]
    exact this
  · have HV0 : Hid (∀ W, Below w.heap.size w W → Calls Tryz.prog 20 #[desVal d x] W fun e w' => e = .returned (.int .i64 d.err) ∧ Below W.heap.size W w') := fun W hW => ValidD_any d x W (hE.below hW) hs (hG.below hW)
    have h0 : (d.err == 0) = false := beq_eq_false_iff_ne.2 he
    have HPo : Hid (∀ w', Below w.heap.size w w' → SPost (prT d) w (.returned (.string .empty)) w') := fun w' h => ⟨by unfold prT; rw [if_neg he], h⟩
    generalize SPost (prT d) w = Po at HPo ⊢
    generalize d.err = er at HV0 h0
    clear hE hs hG hT he
    obtain ⟨nm, ins, wires, regs, outs⟩ := d
    obtain ⟨ai, ci, aw, cw, ar, cr, ao, co⟩ := x
    simp only [desVal, desVals] at HV0 ⊢
    have HV := Lib.hid (HV0.out (w.alloc (.cells #[.string nm, .slice ai ins.length ci, .slice aw wires.length cw, .slice ar regs.length cr, .slice ao outs.length co] 27)) ((Below.refl _ _).alloc (Nat.le_refl _) _))
    have HB : Hid (Below (w.heap.size + 1) (w.alloc (.cells #[.string nm, .slice ai ins.length ci, .slice aw wires.length cw, .slice ar regs.length cr, .slice ao outs.length co] 27)) (w.alloc (.cells #[.string nm, .slice ai ins.length ci, .slice aw wires.length cw, .slice ar regs.length cr, .slice ao outs.length co] 27))) := Below.refl _ _
    clear HV0
    go_enter Tryz.func31, Tryz.ntmps31
    go_wp2_with fail
    refine HV.out.mono ?_
    rintro e w1 ⟨rfl, hb1⟩
    simp only [World.size_alloc] at hb1
    have HPe := Lib.hid (HPo.out w1 (boxW _ hb1))
    clear hb1
    go_wp2_with fail
    first | exact HPe.out | (go_ret; exact HPe.out)
end Go.Proofs.YtihegbjlgpghbaaGreatDoor
