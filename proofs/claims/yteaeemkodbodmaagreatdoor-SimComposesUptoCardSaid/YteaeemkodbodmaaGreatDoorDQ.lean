/- ref32: State, Reset. -/
import Derived.Test.YteaeemkodbodmaaGreatDoorDP
set_option linter.unusedSimpArgs false
set_option linter.unusedVariables false
set_option linter.unnecessarySimpa false
namespace Go.Proofs.YteaeemkodbodmaaGreatDoor
open Go.RowKit
attribute [local go_sem ↓] Go.wp_at_zero Go.wp_at_succ

set_option maxRecDepth 100000 in
set_option maxHeartbeats 8000000 in
theorem State_any (d : DesD) (x : DesA) (l : List Int) (al : Option Addr) (cl : Nat) (w : World) (hE : DesIn w d x) (hI : IntsIn w l al cl) :
    Calls Tryz.prog 15 #[desVal d x, .slice al l.length cl] w fun e w' => e = .returned (.bool (d.stateB l)) ∧ Below w.heap.size w w' := by
  have HR := Lib.hid hE.regs
  have HRA := Lib.hid hE.regs.addr
  have hrl := hE.regs.2.1
  have HI := Lib.hid hI
  have HIA := Lib.hid hI.addr
  have hll := hI.2.1
  have HY : Hid (l.length = d.regs.length → (∀ i (h : i < d.regs.length) (h' : i < l.length), fitsB (l[i]'h') (d.regs[i]'h).width = true) → d.stateB l = true) := stateB_yes
  have HL : Hid (¬ l.length = d.regs.length → d.stateB l = false) := stateB_len
  have HNo : Hid (∀ i (h : i < d.regs.length) (h' : i < l.length), fitsB (l[i]'h') (d.regs[i]'h).width = false → d.stateB l = false) := fun i h h' => stateB_no h h'
  generalize d.stateB l = r at HY HL HNo ⊢
  clear hE hI
  obtain ⟨nm, ins, wires, regs, outs⟩ := d
  obtain ⟨ai, ci, aw, cw, ar, cr, ao, co⟩ := x
  simp only [desVal, desVals] at HR HRA HY HL HNo hrl ⊢
  have HB0 : Hid (Below (w.heap.size + 1) (w.alloc (.cells #[.string nm, .slice ai ins.length ci, .slice aw wires.length cw, .slice ar regs.length cr, .slice ao outs.length co] 27)) (w.alloc (.cells #[.string nm, .slice ai ins.length ci, .slice aw wires.length cw, .slice ar regs.length cr, .slice ao outs.length co] 27))) := Below.refl _ _
  by_cases hl : l.length = regs.length
  · have HY2 := Lib.hid (HY.out hl)
    have Hl := Lib.hid hl
    have hlb : ((l.length : Int) != (regs.length : Int)) = false := by simp; omega
    clear HY HL hl
    go_enter Tryz.func15, Tryz.ntmps15
    go_wp2_with fail
    go_loopw [5] (fun i wr => ∃ k : Nat, i = .int .i64 k ∧ k ≤ regs.length ∧ Hid (∀ i (h : i < regs.length) (h' : i < l.length), i < k → fitsB (l[i]'h') (regs[i]'h).width = true) ∧ Hid (Below (w.heap.size + 1) (w.alloc (.cells #[.string nm, .slice ai ins.length ci, .slice aw wires.length cw, .slice ar regs.length cr, .slice ao outs.length co] 27)) wr)) (fun i _ => regs.length - (intOf i).toNat)
    case atStart => exact ⟨0, rfl, Nat.zero_le _, fun _ _ _ h => absurd h (by omega), HB0⟩
    case round =>
      obtain ⟨k, rfl, hk, HF, HB⟩ := hrel
      have HBw := Lib.hid (boxW _ HB.out)
      have hzr := HB.out.size
      simp only [World.size_alloc] at hzr
      (try clear b0 b1 b2 b3 b4)
      by_cases hlt : k < regs.length
      · have hltl : k < l.length := by have := Hl.out; omega
        obtain ⟨b, off, ha⟩ := HRA.out.resolve_left (by omega)
        subst ha
        obtain ⟨bl, ol, hal⟩ := HIA.out.resolve_left (by omega)
        subst hal
        obtain ⟨ae, ce, c0, c1, c2, c3, c4, c5, c6, _⟩ := (HR.out.keep (keeps_of_below HBw.out)).get rfl hlt
        have i0 := intsIn_get (HI.out.keep (keeps_of_below HBw.out)) rfl hltl
        have HNx : Hid (fitsB (l[k]'hltl) (regs[k]'hlt).width = true → ∀ i (h : i < regs.length) (h' : i < l.length), i < k + 1 → fitsB (l[i]'h') (regs[i]'h).width = true) := fun h j hj hj' hjk => by
          by_cases e : j = k
          · subst e; exact h
          · exact HF.out j hj hj' (by omega)
        have HNk := Lib.hid (HNo.out k hlt hltl)
        have HC := Lib.hid (rFits_any (l[k]'hltl) (regs[k]'hlt).width)
        generalize fitsB (l[k]'hltl) (regs[k]'hlt).width = fb at HNx HNk HC
        generalize (regs[k]'hlt) = e at c0 c1 c2 c3 c4 c5 c6 HC
        generalize (l[k]'hltl) = z at i0 HC
        have hkl : (k : Int) < l.length := by omega
        have hkr : (k : Int) < regs.length := by omega
        cases fb
        · have HRe := Lib.hid (HNk.out rfl)
          clear HNx HNk
          ((try clear b0 b1 b2 b3 b4); have b0 := box_cell HB.out 0; have b1 := box_cell HB.out 1; have b2 := box_cell HB.out 2; have b3 := box_cell HB.out 3; have b4 := box_cell HB.out 4; (try simp at b0 b1 b2 b3 b4))
          go_wp2_with fail
          go_quiet ((go_at_call 27; exact Calls.quiet_of_same ((HC.out _).mono fun e w' h => ⟨h.1, h.2.symm⟩)))
          go_wp2_with fail
          go_ret
          exact ⟨by rw [HRe.out]; rfl, by exact below_drewN (boxW _ HB.out) _⟩
        · have HNx2 := Lib.hid (HNx.out rfl)
          clear HNx HNk
          ((try clear b0 b1 b2 b3 b4); have b0 := box_cell HB.out 0; have b1 := box_cell HB.out 1; have b2 := box_cell HB.out 2; have b3 := box_cell HB.out 3; have b4 := box_cell HB.out 4; (try simp at b0 b1 b2 b3 b4))
          go_wp2_with fail
          go_quiet ((go_at_call 27; exact Calls.quiet_of_same ((HC.out _).mono fun e w' h => ⟨h.1, h.2.symm⟩)))
          go_wp2_with fail
          go_roundw
          case rel => exact ⟨k + 1, by go_num, by omega, HNx2, below_drewN HB.out _⟩
          case measure => (simp [intOf]; try omega)
      · obtain rfl : k = regs.length := by omega
        ((try clear b0 b1 b2 b3 b4); have b0 := box_cell HB.out 0; have b1 := box_cell HB.out 1; have b2 := box_cell HB.out 2; have b3 := box_cell HB.out 3; have b4 := box_cell HB.out 4; (try simp at b0 b1 b2 b3 b4))
        have HRe := Lib.hid (HY2.out (fun i h h' => HF.out i h h' h))
        have hnl : ¬ ((regs.length : Int) < (l.length : Int)) := by have := Hl.out; omega
        go_wp2_with fail
        go_ret
        exact ⟨by rw [HRe.out]; rfl, HBw.out⟩
  · have HRe := Lib.hid (HL.out hl)
    have hlb : ((l.length : Int) != (regs.length : Int)) = true := by simp; omega
    clear HY HNo hl
    go_enter Tryz.func15, Tryz.ntmps15
    go_wp2_with fail
    go_ret
    exact ⟨by rw [HRe.out]; rfl, boxW _ HB0.out⟩
set_option maxRecDepth 100000 in
set_option maxHeartbeats 8000000 in
theorem rReset_any (d : DesD) (x : DesA) (w : World) (hE : DesIn w d x) (hs : DesSmall d) (hG : Glob w) :
    Calls Tryz.prog 13 #[desVal d x] w (ResetPost w d) := by
  have HV0 := Lib.hid (fun W (hW : Below w.heap.size w W) => rValidD_any d x W (hE.below hW) hs)
  have HR := Lib.hid hE.regs
  have HRA := Lib.hid hE.regs.addr
  have hrl := hE.regs.2.1
  have HP1 : Hid (∀ a cap w', d.err = 0 → IntsIn w' d.inits a cap → Below w.heap.size w w' → ResetPost w d (.returned (.tuple #[.slice a d.inits.length cap, .int .i64 0])) w') := fun a cap w' h1 h2 h3 => ⟨Or.inl ⟨h1, a, cap, rfl, h2⟩, h3⟩
  have HP0 : Hid (∀ w', ¬ d.err = 0 → Below w.heap.size w w' → ResetPost w d (.returned (.tuple #[.slice none 0 0, .int .i64 d.err])) w') := fun w' h1 h2 => ⟨Or.inr ⟨h1, rfl⟩, h2⟩
  generalize ResetPost w d = Po at HP1 HP0 ⊢
  generalize d.err = err at HV0 HP1 HP0
  have HS := Lib.hid (inits_take d)
  have hil : d.inits.length = d.regs.length := by simp [DesD.inits]
  have HIl := Lib.hid hil
  have HM : Hid ((d.inits.map (Value.int .i64)).take d.regs.length = d.inits.map (Value.int .i64)) := List.take_of_length_le (by rw [List.length_map, hil]; omega)
  generalize hM : d.inits.map (Value.int .i64) = M at HS HM
  have HMe := Lib.hid hM
  clear hM hil
  generalize d.inits = IN at HP1 HIl HMe
  clear hE hs hG
  obtain ⟨nm, ins, wires, regs, outs⟩ := d
  obtain ⟨ai, ci, aw, cw, ar, cr, ao, co⟩ := x
  simp only [desVal, desVals] at HV0 HR HRA HS HIl HM hrl ⊢
  have HV1 := Lib.hid (HV0.out (w.alloc (.cells #[.string nm, .slice ai ins.length ci, .slice aw wires.length cw, .slice ar regs.length cr, .slice ao outs.length co] 27)) ((Below.refl _ _).alloc (Nat.le_refl _) _))
  clear HV0
  go_enter Tryz.func13, Tryz.ntmps13
  go_wp2_with fail
  refine HV1.out.mono ?_
  rintro e w1 ⟨rfl, hb1⟩
  simp only [World.size_alloc] at hb1
  have HB1 := Lib.hid hb1
  have HBw := Lib.hid (boxW _ hb1)
  clear hb1 HV1
  by_cases he : err = 0
  · have HPe := Lib.hid (fun a cap w' => HP1.out a cap w' he)
    subst he
    clear HP1 HP0
    ((try clear b0 b1 b2 b3 b4); have b0 := box_cell HB1.out 0; have b1 := box_cell HB1.out 1; have b2 := box_cell HB1.out 2; have b3 := box_cell HB1.out 3; have b4 := box_cell HB1.out 4; (try simp at b0 b1 b2 b3 b4))
    go_wp2_with fail
    go_loopw [6, 5] (fun i v wr => ∃ k : Nat, i = .int .i64 k ∧ k ≤ regs.length ∧ Hid (wr.ownsRow (w.heap.size + 1) 3 1 v k (M.take k)) ∧ Hid (Below (w.heap.size + 1) (w.alloc (.cells #[.string nm, .slice ai ins.length ci, .slice aw wires.length cw, .slice ar regs.length cr, .slice ao outs.length co] 27)) wr)) (fun i _ _ => regs.length - (intOf i).toNat)
    case atStart => exact ⟨0, rfl, Nat.zero_le _, World.ownsRow_nil _ _ _ _, HB1⟩
    case round =>
      obtain ⟨k, rfl, hk, HO, HB⟩ := hrel
      have HBw := Lib.hid (boxW _ HB.out)
      have hzr := HB.out.size
      simp only [World.size_alloc] at hzr
      clear b0 b1 b2 b3 b4
      ((try clear b0 b1 b2 b3 b4); have b0 := box_cell HB.out 0; have b1 := box_cell HB.out 1; have b2 := box_cell HB.out 2; have b3 := box_cell HB.out 3; have b4 := box_cell HB.out 4; (try simp at b0 b1 b2 b3 b4))
      by_cases hlt : k < regs.length
      · obtain ⟨b, off, ha⟩ := HRA.out.resolve_left (by omega)
        subst ha
        obtain ⟨ae, ce, c0, c1, c2, c3, c4, c5, c6, _⟩ := (HR.out.keep (keeps_of_below HBw.out)).get rfl hlt
        have HSk := Lib.hid (HS.out k hlt)
        generalize (regs[k]'hlt) = e at c0 c1 c2 c3 c4 c5 c6 HSk
        have hkn : k ≤ 1073741824 := by omega
        obtain ⟨va, vc, hv, _⟩ := slice_of_own HO.out hkn
        subst hv
        go_wp2_with (at_builtin; go_must (refine own_app elemI _ rfl (.tmp 19) (.tmp 26) rfl (w.heap.size + 1) (.slice va k vc) k (M.take k) rfl HO.out [.int .i64 e.init] rfl (by simp [Value.oneCell']) _ 1 rfl (by first | rfl | simp) hkn (by first | omega | (simp only [World.size_alloc, World.size_setCell, World.size_drew, World.heap_drewN] <;> omega) | (simp <;> omega)) ?_))
        intro v' w3 ho hg
        have HO1 := Lib.hid ho
        have HB3 : Hid (Below (w.heap.size + 1) (w.alloc (.cells #[.string nm, .slice ai ins.length ci, .slice aw wires.length cw, .slice (some ⟨b, off, none⟩) regs.length cr, .slice ao outs.length co] 27)) w3) := Below.grown (by repeat (first | exact HB.out | refine Below.alloc ?_ (by first | omega | (simp only [World.size_alloc, World.size_setCell, World.size_drew, World.heap_drewN] <;> omega) | (simp <;> omega)) _)) hg (by first | omega | (simp only [World.size_alloc, World.size_setCell, World.size_drew, World.heap_drewN] <;> omega) | (simp <;> omega)) (fun j hj => (HO.out.lt j hj).1)
        clear ho hg c0 c1 c2 c3 c4 c5 c6
        go_wp2_with fail
        go_roundw
        case rel => exact ⟨k + 1, by go_num, by omega, (by show World.ownsRow _ _ _ _ _ _ _; rw [HSk.out]; exact HO1.out), HB3⟩
        case measure => (simp [intOf]; try omega)
      · obtain rfl : k = regs.length := by omega
        have ho := HO.out
        rw [HM.out, ← HMe.out, ← HIl.out] at ho
        obtain ⟨a', cap', rfl, hs⟩ := ints_of_own ho (by rw [HIl.out]; exact hrl)
        have HPf := Lib.hid (HPe.out a' cap' wr hs HBw.out)
        clear ho hs
        rw [HIl.out] at HPf ⊢
        go_wp2_with fail
        exact HPf.out
  · have HPe := Lib.hid (HP0.out w1 he HBw.out)
    have hne : (err != (0 : Int)) = true := by simpa using he
    clear HP1 HP0 he
    go_wp2_with fail
    exact HPe.out
end Go.Proofs.YteaeemkodbodmaaGreatDoor

/- ref32: Value, input, SameInts, SameSignals. -/
namespace Go.Proofs.YteaeemkodbodmaaGreatDoor
open Go.RowKit
attribute [local go_sem ↓] Go.wp_at_zero Go.wp_at_succ

theorem valS_at {l : Sigs} {s : ByteArray} {k : Nat} (hk : k < l.length) (h1 : ∀ j (hj : j < l.length), j < k → ((l[j]'hj).1.toList == s.toList) = false) (h2 : ((l[k]'hk).1.toList == s.toList) = true) : valS l s = some (l[k]'hk).2 := by
  induction l generalizing k with
  | nil => simp at hk
  | cons y l ih =>
    unfold valS
    cases k with
    | zero => rw [if_pos (by simpa using h2)]; rfl
    | succ k =>
      have h0 := h1 0 (by simp) (by omega)
      rw [if_neg (by simpa using h0)]
      exact ih (k := k) (by simpa using hk) (fun j hj hjk => h1 (j + 1) (by simpa using hj) (by omega)) (by simpa using h2)
theorem valS_no {l : Sigs} {s : ByteArray} (h1 : ∀ j (hj : j < l.length), ((l[j]'hj).1.toList == s.toList) = false) : valS l s = none := valS_none.2 fun x hx he => by
  obtain ⟨i, hi, rfl⟩ := List.getElem_of_mem hx
  have := h1 i hi
  simp [he] at this
set_option maxHeartbeats 2000000 in
theorem rVal32_any (l : Sigs) (a : Option Addr) (cap : Nat) (s : ByteArray) (w : World) (hE : SigsIn w l a cap) :
    Calls Tryz.prog 24 #[.slice a l.length cap, .string s] w fun e w' => e = .returned (.int .i64 ((valS l s).getD 0)) ∧ w = w' := by
  have hlen := hE.2.1
  have HA := Lib.hid hE.addr
  have HE := Lib.hid hE
  clear hE
  go_enter Tryz.func24, Tryz.ntmps24
  go_wp2_with fail
  go_loop [5] (fun i => ∃ k : Nat, i = .int .i64 k ∧ k ≤ l.length ∧ Hid (∀ j (hj : j < l.length), j < k → ((l[j]'hj).1.toList == s.toList) = false)) (fun i => l.length - (intOf i).toNat)
  case atStart => exact ⟨0, rfl, Nat.zero_le _, fun _ _ h => absurd h (by omega)⟩
  case round =>
    obtain ⟨k, rfl, hk, HF⟩ := hrel
    by_cases hlt : k < l.length
    · obtain ⟨b, off, ha⟩ := HA.out.resolve_left (by omega)
      subst ha
      obtain ⟨c0, c1⟩ := HE.out.get rfl hlt
      cases heq : ((l[k]'hlt).1.toList == s.toList)
      · have HS : Hid (∀ j (hj : j < l.length), j < k + 1 → ((l[j]'hj).1.toList == s.toList) = false) := fun j hj hjk => by
          by_cases e : j = k
          · subst e; exact heq
          · exact HF.out j hj (by omega)
        go_wp2_with fail
        go_round
        case rel => exact ⟨k + 1, by go_num, by omega, HS⟩
        case measure => (simp [intOf]; try omega)
      · have HI : Hid ((valS l s).getD 0 = (l[k]'hlt).2) := by show _ = _; rw [valS_at hlt HF.out heq]; rfl
        go_wp2_with fail
        go_ret
        exact ⟨by rw [HI.out]; rfl, rfl⟩
    · obtain rfl : k = l.length := by omega
      have HI : Hid ((valS l s).getD 0 = 0) := by show _ = _; rw [valS_no (fun j hj => HF.out j hj hj)]; rfl
      go_wp2_with fail
      go_ret
      exact ⟨by rw [HI.out]; rfl, rfl⟩
set_option maxRecDepth 100000 in
set_option maxHeartbeats 4000000 in
theorem rInput_any (p : PortD) (l : Sigs) (a : Option Addr) (cap : Nat) (w : World) (hS : SigsIn w l a cap) (h1 : 1 ≤ p.width) (h16 : p.width ≤ 16) :
    Calls Tryz.prog 70 #[.agg #[.string p.name, .int .i64 p.width], .slice a l.length cap] w fun e w' => e = .returned (.int .i64 (inputV p l)) ∧ Below w.heap.size w w' := by
  have hlen := hS.2.1
  have HA := Lib.hid hS.addr
  have HI0 : Hid (valS l p.name = none → inputV p l = 0) := fun h => by unfold inputV; rw [h]
  have HI1 : Hid (∀ v, valS l p.name = some v → inputV p l = cutW v p.width) := fun v h => by unfold inputV; rw [h]
  generalize inputV p l = r at HI0 HI1 ⊢
  obtain ⟨nm, wd⟩ := p
  simp only at h1 h16 HI0 HI1 ⊢
  obtain ⟨q, rfl⟩ := Int.eq_ofNat_of_zero_le (show 0 ≤ wd by omega)
  have hq : q ≤ 16 := by omega
  have HCu := Lib.hid (fun z W => rCut_any z q hq W)
  have hb0 : Below w.heap.size w (w.alloc (.cells #[.string nm, .int .i64 q] 62)) := (Below.refl _ _).alloc (Nat.le_refl _) _
  have HE := Lib.hid (hS.keep (keeps_of_below hb0))
  have HB0 : Hid (Below (w.heap.size + 1) (w.alloc (.cells #[.string nm, .int .i64 q] 62)) (w.alloc (.cells #[.string nm, .int .i64 q] 62))) := Below.refl _ _
  clear hb0 hS
  go_enter Tryz.func70, Tryz.ntmps70
  go_wp2_with fail
  go_loopw [5] (fun i wr => ∃ k : Nat, i = .int .i64 k ∧ k ≤ l.length ∧ Hid (∀ j (hj : j < l.length), j < k → ((l[j]'hj).1.toList == nm.toList) = false) ∧ Hid (Below (w.heap.size + 1) (w.alloc (.cells #[.string nm, .int .i64 q] 62)) wr)) (fun i _ => l.length - (intOf i).toNat)
  case atStart => exact ⟨0, rfl, Nat.zero_le _, fun _ _ h => absurd h (by omega), HB0⟩
  case round =>
    obtain ⟨k, rfl, hk, HF, HB⟩ := hrel
    by_cases hlt : k < l.length
    · obtain ⟨b, off, ha⟩ := HA.out.resolve_left (by omega)
      subst ha
      obtain ⟨c0, c1⟩ := (HE.out.keep (keeps_of_below (show Below (w.alloc (.cells #[.string nm, .int .i64 q] 62)).heap.size _ wr from by simpa using HB.out))).get rfl hlt
      have b0 := box_cell HB.out 0
      have b1 := box_cell HB.out 1
      simp at b0 b1
      have hkl : (k : Int) < l.length := by omega
      cases heq : ((l[k]'hlt).1.toList == nm.toList)
      · have HS : Hid (∀ j (hj : j < l.length), j < k + 1 → ((l[j]'hj).1.toList == nm.toList) = false) := fun j hj hjk => by
          by_cases e : j = k
          · subst e; exact heq
          · exact HF.out j hj (by omega)
        go_wp2_with fail
        go_quiet (fail)
        go_wp2_with fail
        go_roundw
        case rel => exact ⟨k + 1, by go_num, by omega, HS, below_drewN HB.out _⟩
        case measure => (simp [intOf]; try omega)
      · have HI : Hid (r = cutW (l[k]'hlt).2 q) := HI1.out _ (valS_at hlt HF.out heq)
        generalize (l[k]'hlt).2 = z at c1 HI
        have HCz := Lib.hid (HCu.out z)
        go_wp2_with fail
        go_quiet (fail)
        go_wp2_with fail
        go_quiet ((go_at_call 51; go_must (exact (HCz.out _).mono fun e w' h => ⟨h.1, _, h.2.symm⟩)))
        go_wp2_with fail
        go_ret
        exact ⟨by rw [HI.out]; rfl, by exact below_drewN (below_drewN (boxW _ HB.out) _) _⟩
    · obtain rfl : k = l.length := by omega
      have HI : Hid (r = 0) := HI0.out (valS_no (fun j hj => HF.out j hj hj))
      go_wp2_with fail
      go_ret
      exact ⟨by rw [HI.out]; rfl, boxW _ HB.out⟩
set_option maxRecDepth 100000 in
set_option maxHeartbeats 4000000 in
theorem sameInts_eq (l : List Int) (a1 : Option Addr) (c1 : Nat) (a2 : Option Addr) (c2 : Nat) (w : World) (h1 : IntsIn w l a1 c1) (h2 : IntsIn w l a2 c2) :
    Calls Tryz.prog 14 #[.slice a1 l.length c1, .slice a2 l.length c2] w fun e w' => e = .returned (.bool true) ∧ Below w.heap.size w w' := by
  have hlen := h1.2.1
  have HA := Lib.hid h1.addr
  have HE := Lib.hid h1
  have HA2 := Lib.hid h2.addr
  have HE2 := Lib.hid h2
  have HB0 : Hid (Below w.heap.size w w) := Below.refl _ _
  clear h1 h2
  go_enter Tryz.func14, Tryz.ntmps14
  go_wp2_with fail
  go_loopw [5] (fun i wr => ∃ k : Nat, i = .int .i64 k ∧ k ≤ l.length ∧ Hid (Below w.heap.size w wr)) (fun i _ => l.length - (intOf i).toNat)
  case atStart => exact ⟨0, rfl, Nat.zero_le _, HB0⟩
  case round =>
    obtain ⟨k, rfl, hk, HB⟩ := hrel
    by_cases hlt : k < l.length
    · obtain ⟨b, off, ha⟩ := HA.out.resolve_left (by omega)
      subst ha
      obtain ⟨b2, off2, ha2⟩ := HA2.out.resolve_left (by omega)
      subst ha2
      have c0 := intsIn_get (HE.out.keep (keeps_of_below HB.out)) rfl hlt
      have c2 := intsIn_get (HE2.out.keep (keeps_of_below HB.out)) rfl hlt
      generalize (l[k]'hlt) = z at c0 c2
      have hkl : (k : Int) < l.length := by omega
      go_wp2_with fail
      go_quiet (fail)
      go_wp2_with fail
      go_roundw
      case rel => exact ⟨k + 1, by go_num, by omega, below_drewN HB.out _⟩
      case measure => (simp [intOf]; try omega)
    · obtain rfl : k = l.length := by omega
      go_wp2_with fail
      go_ret
      exact ⟨rfl, HB.out⟩
set_option maxRecDepth 100000 in
set_option maxHeartbeats 4000000 in
theorem sameSigs_eq (l : Sigs) (a1 : Option Addr) (c1 : Nat) (a2 : Option Addr) (c2 : Nat) (w : World) (h1 : SigsIn w l a1 c1) (h2 : SigsIn w l a2 c2) :
    Calls Tryz.prog 31 #[.slice a1 l.length c1, .slice a2 l.length c2] w fun e w' => e = .returned (.bool true) ∧ Below w.heap.size w w' := by
  have hlen := h1.2.1
  have HA := Lib.hid h1.addr
  have HE := Lib.hid h1
  have HA2 := Lib.hid h2.addr
  have HE2 := Lib.hid h2
  have HB0 : Hid (Below w.heap.size w w) := Below.refl _ _
  clear h1 h2
  go_enter Tryz.func31, Tryz.ntmps31
  go_wp2_with fail
  go_loopw [5] (fun i wr => ∃ k : Nat, i = .int .i64 k ∧ k ≤ l.length ∧ Hid (Below w.heap.size w wr)) (fun i _ => l.length - (intOf i).toNat)
  case atStart => exact ⟨0, rfl, Nat.zero_le _, HB0⟩
  case round =>
    obtain ⟨k, rfl, hk, HB⟩ := hrel
    by_cases hlt : k < l.length
    · obtain ⟨b, off, ha⟩ := HA.out.resolve_left (by omega)
      subst ha
      obtain ⟨b2, off2, ha2⟩ := HA2.out.resolve_left (by omega)
      subst ha2
      obtain ⟨c0, c1⟩ := (HE.out.keep (keeps_of_below HB.out)).get rfl hlt
      obtain ⟨c2, c3⟩ := (HE2.out.keep (keeps_of_below HB.out)).get rfl hlt
      generalize (l[k]'hlt).1 = s at c0 c2
      generalize (l[k]'hlt).2 = z at c1 c3
      have hkl : (k : Int) < l.length := by omega
      go_wp2_with fail
      go_quiet (fail)
      go_wp2_with fail
      go_roundw
      case rel => exact ⟨k + 1, by go_num, by omega, below_drewN HB.out _⟩
      case measure => (simp [intOf]; try omega)
    · obtain rfl : k = l.length := by omega
      go_wp2_with fail
      go_ret
      exact ⟨rfl, HB.out⟩
end Go.Proofs.YteaeemkodbodmaaGreatDoor

/- ref31.Order, its list fresh. -/
namespace Go.Proofs.YteaeemkodbodmaaGreatDoor
open Go.RowKit
attribute [local go_sem ↓] Go.wp_at_zero Go.wp_at_succ

def OrderFPost (w : World) (d : DesD) (e : Ending) (w' : World) : Prop :=
  ((d.err = 0 ∧ ∃ a cap, e = .returned (.tuple #[.slice a d.order.length cap, .int .i64 0]) ∧ IntsIn w' (natI d.order) a cap ∧ ∀ p, a = some p → w.heap.size ≤ p.block) ∨ (¬ d.err = 0 ∧ e = .returned (.tuple #[.slice none 0 0, .int .i64 d.err]))) ∧ Below w.heap.size w w'
set_option maxRecDepth 100000 in
set_option maxHeartbeats 8000000 in
theorem rOrderF_any (d : DesD) (x : DesA) (w : World) (hE : DesIn w d x) (hs : DesSmall d) :
    Calls Tryz.prog 71 #[desVal d x] w (OrderFPost w d) := by
  have HV0 := Lib.hid (fun W (hW : Below w.heap.size w W) => rValidD_any d x W (hE.below hW) hs)
  have HO0 := Lib.hid (fun W (hW : Below w.heap.size w W) => rorder_fresh d x W (hE.below hW) hs)
  have HP1 : Hid (∀ a cap w', d.err = 0 → IntsIn w' (natI d.order) a cap → (∀ p, a = some p → w.heap.size ≤ p.block) → Below w.heap.size w w' → OrderFPost w d (.returned (.tuple #[.slice a d.order.length cap, .int .i64 0])) w') := fun a cap w' h1 h2 hf h3 => ⟨Or.inl ⟨h1, a, cap, rfl, h2, hf⟩, h3⟩
  have HP0 : Hid (∀ w', ¬ d.err = 0 → Below w.heap.size w w' → OrderFPost w d (.returned (.tuple #[.slice none 0 0, .int .i64 d.err])) w') := fun w' h1 h2 => ⟨Or.inr ⟨h1, rfl⟩, h2⟩
  generalize OrderFPost w d = Po at HP1 HP0 ⊢
  generalize d.err = err at HV0 HP1 HP0
  generalize d.order = OD at HO0 HP1
  clear hE hs
  obtain ⟨nm, ins, wires, regs, outs⟩ := d
  obtain ⟨ai, ci, aw, cw, ar, cr, ao, co⟩ := x
  simp only [desVal, desVals] at HV0 HO0 ⊢
  have HV1 := Lib.hid (HV0.out (w.alloc (.cells #[.string nm, .slice ai ins.length ci, .slice aw wires.length cw, .slice ar regs.length cr, .slice ao outs.length co] 27)) ((Below.refl _ _).alloc (Nat.le_refl _) _))
  clear HV0
  go_enter Tryz.func71, Tryz.ntmps71
  go_wp2_with fail
  refine HV1.out.mono ?_
  rintro e w1 ⟨rfl, hb1⟩
  simp only [World.size_alloc] at hb1
  have HB1 := Lib.hid hb1
  have HBw := Lib.hid (boxW _ hb1)
  clear hb1 HV1
  by_cases he : err = 0
  · have HO1 := Lib.hid (HO0.out w1 HBw.out)
    have HPe := Lib.hid (fun a cap w' => HP1.out a cap w' he)
    subst he
    clear HO0 HP1 HP0
    ((try clear b0 b1 b2 b3 b4); have b0 := box_cell HB1.out 0; have b1 := box_cell HB1.out 1; have b2 := box_cell HB1.out 2; have b3 := box_cell HB1.out 3; have b4 := box_cell HB1.out 4; (try simp at b0 b1 b2 b3 b4))
    go_wp2_with fail
    refine HO1.out.mono ?_
    rintro e w2 ⟨⟨a, cap, rfl, hI, hfr⟩, hb2⟩
    have HPf := Lib.hid (HPe.out a cap w2 hI (fun p hp => Nat.le_trans HBw.out.size (hfr p hp)) (HBw.out.trans (hb2.mono HBw.out.size)))
    clear hI hb2 hfr
    go_wp2_with fail
    exact HPf.out
  · have HPe := Lib.hid (HP0.out w1 he HBw.out)
    have hne : (err != (0 : Int)) = true := by simpa using he
    clear HO0 HP1 HP0 he
    go_wp2_with fail
    exact HPe.out
end Go.Proofs.YteaeemkodbodmaaGreatDoor
