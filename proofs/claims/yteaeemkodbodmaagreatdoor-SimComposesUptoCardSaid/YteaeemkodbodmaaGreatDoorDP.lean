/- sim: step (the registers' next values). -/
import Derived.Test.YteaeemkodbodmaaGreatDoorDO
set_option linter.unusedSimpArgs false
set_option linter.unusedVariables false
set_option linter.unnecessarySimpa false
namespace Go.Proofs.YteaeemkodbodmaaGreatDoor
open Go.RowKit
attribute [local go_sem ↓] Go.wp_at_zero Go.wp_at_succ

theorem nextS_len (d : DesD) (env : Sigs) : (nextS d env).length = d.regs.length := by simp [nextS]
theorem nextS_take (d : DesD) (env : Sigs) (k : Nat) (h : k < d.regs.length) : ((nextS d env).map (Value.int .i64)).take (k + 1) = ((nextS d env).map (Value.int .i64)).take k ++ [.int .i64 (cutW (evalS env (d.regs[k]'h).next).1 (d.regs[k]'h).width)] := by
  refine take_at ?_
  unfold nextS
  simp [h]
set_option maxRecDepth 100000 in
set_option maxHeartbeats 8000000 in
theorem step_any (d : DesD) (x : DesA) (OD : List Nat) (aO : Option Addr) (cO : Nat) (env : Sigs) (aI : Option Addr) (cI : Nat) (w : World)
    (hE : DesIn w d x) (hs : DesSmall d) (hok : DesOk d) (hn : env.map (·.1) = d.names) (hI : SigsIn w env aI cI) (hG : Glob w) :
    Calls Tryz.prog 37 #[machVal d x OD.length aO cO, .slice aI env.length cI] w fun e w' => (∃ a cap, e = .returned (.tuple #[.slice a (nextS d env).length cap, .int .i64 0]) ∧ IntsIn w' (nextS d env) a cap) ∧ Below w.heap.size w w' := by
  have HR := Lib.hid hE.regs
  have HRA := Lib.hid hE.regs.addr
  have hrl := hE.regs.2.1
  have HEv : Hid (∀ k (hk : k < d.regs.length) ae ce W, Below w.heap.size w W → ExIn W (d.regs[k]'hk).next ae ce → Calls Tryz.prog 60 #[.agg #[.int .i64 (d.regs[k]'hk).next.op, .int .i64 (d.regs[k]'hk).next.n, .string (d.regs[k]'hk).next.name, .slice ae (d.regs[k]'hk).next.args.length ce], .slice aI env.length cI] W fun e w' => e = .returned (.tuple #[.int .i64 (evalS env (d.regs[k]'hk).next).1, .int .i64 0]) ∧ Below W.heap.size W w') := fun k hk ae ce W hW hX => by
    have h1 := hs.exprs _ (reg_expr hk)
    have h2 := eval_ok hok hn (reg_expr hk)
    generalize (d.regs[k]'hk).next = e at h1 h2 hX
    obtain ⟨op, n, s, args⟩ := e
    have := eval_any env aI cI op n s args ae ce W (hG.below hW) (hI.keep (keeps_of_below hW)) hX (by omega)
    rw [h2] at this
    exact this
  have HCu : Hid (∀ k (hk : k < d.regs.length) z W, Calls Tryz.prog 61 #[.int .i64 z, .int .i64 (d.regs[k]'hk).width] W fun e w' => e = .returned (.int .i64 (cutW z (d.regs[k]'hk).width)) ∧ W = w') := fun k hk z W => by
    obtain ⟨h1, h2⟩ := reg_width hok (List.getElem_mem hk)
    generalize (d.regs[k]'hk).width = wd at h1 h2
    obtain ⟨q, rfl⟩ := Int.eq_ofNat_of_zero_le (show 0 ≤ wd by omega)
    exact cut_any z q (by omega) W
  have HS := Lib.hid (nextS_take d env)
  have HNl := Lib.hid (nextS_len d env)
  have hlI := hI.2.1
  simp only [machVal, machVals]
  generalize nextS d env = NX at HS HNl ⊢
  have HM : Hid ((NX.map (Value.int .i64)).take d.regs.length = NX.map (Value.int .i64)) := List.take_of_length_le (by rw [List.length_map, HNl.out]; omega)
  generalize hM : NX.map (Value.int .i64) = M at HS HM
  have HMe := Lib.hid hM
  clear hM hE hs hok hn hI hG
  obtain ⟨nm, ins, wires, regs, outs⟩ := d
  obtain ⟨ai, ci, aw, cw, ar, cr, ao, co⟩ := x
  simp only at HR HRA hrl HEv HCu HS HNl HM ⊢
  have HB0 : Hid (Below (w.heap.size + 1) (w.alloc (.cells #[.string nm, .slice ai ins.length ci, .slice aw wires.length cw, .slice ar regs.length cr, .slice ao outs.length co, .slice aO OD.length cO] 78)) (w.alloc (.cells #[.string nm, .slice ai ins.length ci, .slice aw wires.length cw, .slice ar regs.length cr, .slice ao outs.length co, .slice aO OD.length cO] 78))) := Below.refl _ _
  go_enter Tryz.func37, Tryz.ntmps37
  go_wp2_with fail
  go_loopw [15, 6, 8, 9, 10] (fun i v _ _ _ wr => ∃ k : Nat, i = .int .i64 k ∧ k ≤ regs.length ∧ Hid (wr.ownsRow (w.heap.size + 1) 3 1 v k (M.take k)) ∧ Hid (Below (w.heap.size + 1) (w.alloc (.cells #[.string nm, .slice ai ins.length ci, .slice aw wires.length cw, .slice ar regs.length cr, .slice ao outs.length co, .slice aO OD.length cO] 78)) wr)) (fun i _ _ _ _ _ => regs.length - (intOf i).toNat)
  case atStart => exact ⟨0, rfl, Nat.zero_le _, World.ownsRow_nil _ _ _ _, HB0⟩
  case round =>
    obtain ⟨k, rfl, hk, HO, HB⟩ := hrel
    have HBw := Lib.hid (boxW _ HB.out)
    have hzr := HB.out.size
    simp only [World.size_alloc] at hzr
    by_cases hlt : k < regs.length
    · obtain ⟨b, off, ha⟩ := HRA.out.resolve_left (by omega)
      subst ha
      obtain ⟨ae, ce, c0, c1, c2, c3, c4, c5, c6, hX⟩ := (HR.out.keep (keeps_of_below HBw.out)).get rfl hlt
      have HSk := Lib.hid (HS.out k hlt)
      have HEk := Lib.hid (HEv.out k hlt ae ce)
      have HCk := Lib.hid (HCu.out k hlt)
      generalize (regs[k]'hlt) = e at c0 c1 c2 c3 c4 c5 c6 hX HSk HEk HCk
      generalize (evalS env e.next).1 = z at HSk HEk
      generalize hcv : cutW z e.width = cv at HSk
      have HCz := Lib.hid (HCk.out z)
      rw [hcv] at HCz
      clear hcv
      have hkn : k ≤ 1073741824 := by omega
      have hbA : Below wr.heap.size wr (wr.alloc (.cells #[.string e.name, .int .i64 e.width, .int .i64 e.init, .int .i64 e.next.op, .int .i64 e.next.n, .string e.next.name, .slice ae e.next.args.length ce] 60)) := (Below.refl _ _).alloc (Nat.le_refl _) _
      have HbA := Lib.hid hbA
      have HE1 := Lib.hid (HEk.out _ (HBw.out.trans (hbA.mono HBw.out.size)) (hX.keep (keeps_of_below hbA)))
      have hx1 : (wr.alloc (.cells #[.string e.name, .int .i64 e.width, .int .i64 e.init, .int .i64 e.next.op, .int .i64 e.next.n, .string e.next.name, .slice ae e.next.args.length ce] 60)).heap[wr.heap.size]? = some (.cells #[.string e.name, .int .i64 e.width, .int .i64 e.init, .int .i64 e.next.op, .int .i64 e.next.n, .string e.next.name, .slice ae e.next.args.length ce] 60 (0, 0)) := heap_alloc_at _ _ _ rfl
      have HX1 := Lib.hid hx1
      have HOA := Lib.hid (HO.out.alloc (.cells #[.string e.name, .int .i64 e.width, .int .i64 e.init, .int .i64 e.next.op, .int .i64 e.next.n, .string e.next.name, .slice ae e.next.args.length ce] 60))
      obtain ⟨va, vc, hv, _⟩ := slice_of_own HO.out hkn
      subst hv
      clear hbA hX hx1
      go_wp2_with fail
      refine HE1.out.mono ?_
      rintro r w5 ⟨rfl, hb5⟩
      have HB5 : Hid (Below (w.heap.size + 1) (w.alloc (.cells #[.string nm, .slice ai ins.length ci, .slice aw wires.length cw, .slice (some ⟨b, off, none⟩) regs.length cr, .slice ao outs.length co, .slice aO OD.length cO] 78)) w5) := HB.out.trans ((HbA.out.trans (hb5.mono HbA.out.size)).mono hzr)
      have HO5 := Lib.hid (ownsRow_below HOA.out hb5)
      have h5 := (hb5.block wr.heap.size (by simp)).trans HX1.out
      have p1 : w5.cell? ⟨wr.heap.size, 1, none⟩ = some (.int .i64 e.width) := by simp [World.cell?, h5]
      have hz5 := HB5.out.size
      simp only [World.size_alloc] at hz5
      clear hb5 h5 c0 c1 c2 c3 c4 c5 c6
      go_wp2_with (first | (at_builtin; go_must (refine own_app elemI _ rfl (.tmp 29) (.tmp 34) rfl (w.heap.size + 1) (.slice va k vc) k (M.take k) rfl HO5.out [.int .i64 cv] rfl (by simp [Value.oneCell']) _ 1 rfl (by first | rfl | simp) hkn (by first | omega | (simp only [World.size_alloc, World.size_setCell, World.size_drew, World.heap_drewN] <;> omega) | (simp <;> omega)) ?_)) | (go_at_call 61; (with_reducible refine (HCz.out _).mono ?_); rintro r w' ⟨rfl, rfl⟩))
      intro v' w3 ho hg
      have HO1 := Lib.hid ho
      have HB3 : Hid (Below (w.heap.size + 1) (w.alloc (.cells #[.string nm, .slice ai ins.length ci, .slice aw wires.length cw, .slice (some ⟨b, off, none⟩) regs.length cr, .slice ao outs.length co, .slice aO OD.length cO] 78)) w3) := Below.grown (by repeat (first | exact HB5.out | refine Below.alloc ?_ (by first | omega | (simp only [World.size_alloc, World.size_setCell, World.size_drew, World.heap_drewN] <;> omega) | (simp <;> omega)) _)) hg (by first | omega | (simp only [World.size_alloc, World.size_setCell, World.size_drew, World.heap_drewN] <;> omega) | (simp <;> omega)) (fun j hj => (HO5.out.lt j hj).1)
      clear ho hg p1
      go_wp2_with fail
      go_roundw
      case rel => exact ⟨k + 1, by go_num, by omega, (by show World.ownsRow _ _ _ _ _ _ _; rw [HSk.out]; exact HO1.out), HB3⟩
      case measure => (simp [intOf]; try omega)
    · obtain rfl : k = regs.length := by omega
      have ho := HO.out
      rw [HM.out, ← HMe.out, ← HNl.out] at ho
      obtain ⟨a', cap', hv, hs⟩ := ints_of_own ho (by rw [HNl.out]; exact hrl)
      rw [HNl.out] at hv
      subst hv
      have HF := Lib.hid hs
      clear ho hs
      go_wp2_with fail
      go_ret2
      rw [HNl.out]
      exact ⟨⟨_, _, rfl, HF.out⟩, HBw.out⟩
end Go.Proofs.YteaeemkodbodmaaGreatDoor

/- sim: Settle, Step. -/
namespace Go.Proofs.YteaeemkodbodmaaGreatDoor
open Go.RowKit
attribute [local go_sem ↓] Go.wp_at_zero Go.wp_at_succ

def SettlePost (w : World) (d : DesD) (l : List Int) (inp : Sigs) (e : Ending) (w' : World) : Prop :=
  ((d.err = 0 ∧ d.stateB l = true ∧ ∃ a cap, e = .returned (.tuple #[.slice a (settleS d l inp).length cap, .int .i64 0]) ∧ SigsIn w' (settleS d l inp) a cap) ∨
   (¬ d.err = 0 ∧ e = .returned (.tuple #[.slice none 0 0, .int .i64 d.err])) ∨
   (d.err = 0 ∧ d.stateB l = false ∧ e = .returned (.tuple #[.slice none 0 0, .int .i64 1]))) ∧ Below w.heap.size w w'
def StepPost (w : World) (d : DesD) (l : List Int) (inp : Sigs) (e : Ending) (w' : World) : Prop :=
  ((d.err = 0 ∧ d.stateB l = true ∧ ∃ a1 c1 a2 c2, e = .returned (.tuple #[.slice a1 (nextS d (settleS d l inp)).length c1, .slice a2 (settleS d l inp).length c2, .int .i64 0]) ∧ IntsIn w' (nextS d (settleS d l inp)) a1 c1 ∧ SigsIn w' (settleS d l inp) a2 c2) ∨
   (¬ d.err = 0 ∧ e = .returned (.tuple #[.slice none 0 0, .slice none 0 0, .int .i64 d.err])) ∨
   (d.err = 0 ∧ d.stateB l = false ∧ e = .returned (.tuple #[.slice none 0 0, .slice none 0 0, .int .i64 1]))) ∧ Below w.heap.size w w'
theorem state_len {d : DesD} {l : List Int} (h : d.stateB l = true) : l.length = d.regs.length := (stateB_iff.1 h).1
/-- the six cells of a machine's block -/
theorem mach_cells {w' : World} {b : Nat} {m0 m1 m2 m3 m4 m5 : Value} {t : TypeId} (h : w'.heap[b]? = some (.cells #[m0, m1, m2, m3, m4, m5] t (0, 0))) :
    w'.cell? ⟨b, 0, none⟩ = some m0 ∧ w'.cell? ⟨b, 1, none⟩ = some m1 ∧ w'.cell? ⟨b, 2, none⟩ = some m2 ∧ w'.cell? ⟨b, 3, none⟩ = some m3 ∧ w'.cell? ⟨b, 4, none⟩ = some m4 ∧ w'.cell? ⟨b, 5, none⟩ = some m5 := by
  have c0 := cell_of_blk h 0
  have c1 := cell_of_blk h 1
  have c2 := cell_of_blk h 2
  have c3 := cell_of_blk h 3
  have c4 := cell_of_blk h 4
  have c5 := cell_of_blk h 5
  simp at c0 c1 c2 c3 c4 c5
  exact ⟨c0, c1, c2, c3, c4, c5⟩
set_option maxRecDepth 100000 in
set_option maxHeartbeats 8000000 in
theorem Settle_any (d : DesD) (x : DesA) (l : List Int) (al : Option Addr) (cl : Nat) (inp : Sigs) (aI : Option Addr) (cI : Nat) (w : World)
    (hE : DesIn w d x) (hs : DesSmall d) (hL : IntsIn w l al cl) (hI : SigsIn w inp aI cI) (hG : Glob w) :
    Calls Tryz.prog 25 #[desVal d x, .slice al l.length cl, .slice aI inp.length cI] w (SettlePost w d l inp) := by
  have HBu := Lib.hid (fun W (hW : Below w.heap.size w W) => build_any d x W (hE.below hW) hs (hG.below hW))
  have HSt := Lib.hid (fun W (hW : Below w.heap.size w W) => state_any d x l al cl W (hE.below hW) (hL.keep (keeps_of_below hW)))
  have HSe := Lib.hid (fun (he : d.err = 0) (hb : d.stateB l = true) aO cO W (hW : Below w.heap.size w W) (hO : IntsIn W (natI d.order) aO cO) => settle_any d x aO cO l al cl inp aI cI W (hE.below hW) hs (desOk_of_err he) hO (state_len hb) (hL.keep (keeps_of_below hW)) (hI.keep (keeps_of_below hW)) (hG.below hW))
  unfold BuildPost at HBu
  have HP1 : Hid (∀ a cap w', d.err = 0 → d.stateB l = true → SigsIn w' (settleS d l inp) a cap → Below w.heap.size w w' → SettlePost w d l inp (.returned (.tuple #[.slice a (settleS d l inp).length cap, .int .i64 0])) w') := fun a cap w' h1 h2 h3 h4 => ⟨Or.inl ⟨h1, h2, a, cap, rfl, h3⟩, h4⟩
  have HP2 : Hid (∀ w', ¬ d.err = 0 → Below w.heap.size w w' → SettlePost w d l inp (.returned (.tuple #[.slice none 0 0, .int .i64 d.err])) w') := fun w' h1 h2 => ⟨Or.inr (Or.inl ⟨h1, rfl⟩), h2⟩
  have HP3 : Hid (∀ w', d.err = 0 → d.stateB l = false → Below w.heap.size w w' → SettlePost w d l inp (.returned (.tuple #[.slice none 0 0, .int .i64 1])) w') := fun w' h1 h2 h3 => ⟨Or.inr (Or.inr ⟨h1, h2, rfl⟩), h3⟩
  generalize SettlePost w d l inp = Po at HP1 HP2 HP3 ⊢
  generalize d.err = err at HBu HSe HP1 HP2 HP3
  generalize d.stateB l = sb at HSt HSe HP1 HP3
  generalize settleS d l inp = SE at HSe HP1
  generalize d.order = OD at HBu HSe
  clear hE hs hL hI hG
  obtain ⟨nm, ins, wires, regs, outs⟩ := d
  obtain ⟨ai, ci, aw, cw, ar, cr, ao, co⟩ := x
  simp only [desVal, desVals, machVal, machVals] at HBu HSt HSe HP1 HP2 HP3 ⊢
  have hbA : Below w.heap.size w (w.alloc (.cells #[.string nm, .slice ai ins.length ci, .slice aw wires.length cw, .slice ar regs.length cr, .slice ao outs.length co] 27)) := (by repeat (first | assumption | exact Below.refl _ _ | refine Below.drew ?_ | refine below_drewN ?_ _ | refine Below.alloc ?_ (by first | omega | (simp only [World.size_alloc, World.size_setCell, World.size_drew, World.heap_drewN] <;> omega) | (simp <;> omega)) _ | refine Below.setCell ?_ (by first | omega | (simp only [World.size_alloc, World.size_setCell, World.size_drew, World.heap_drewN] <;> omega) | (simp <;> omega)) _))
  have HB1 := Lib.hid (HBu.out _ hbA)
  clear hbA HBu
  go_enter Tryz.func25, Tryz.ntmps25
  go_wp2_with fail
  refine HB1.out.mono ?_
  rintro e w2 ⟨h, hb2⟩
  simp only [World.size_alloc] at hb2
  have HB2 := Lib.hid hb2
  have HBw := Lib.hid (boxW _ hb2)
  have hz2 := hb2.size
  simp only [World.size_alloc] at hz2
  clear hb2 HB1
  rcases h with ⟨he, a, cap, rfl, hI⟩ | ⟨he, rfl⟩
  · have HBa : Hid (Below (w.heap.size + 1) (w.alloc (.cells #[.string nm, .slice ai ins.length ci, .slice aw wires.length cw, .slice ar regs.length cr, .slice ao outs.length co] 27)) (w2.alloc (.cells #[.string nm, .slice ai ins.length ci, .slice aw wires.length cw, .slice ar regs.length cr, .slice ao outs.length co, .slice a OD.length cap] 78))) := HB2.out.alloc hz2 _
    ((try clear b0 b1 b2 b3 b4); have b0 := box_cell HBa.out 0; have b1 := box_cell HBa.out 1; have b2 := box_cell HBa.out 2; have b3 := box_cell HBa.out 3; have b4 := box_cell HBa.out 4; (try simp at b0 b1 b2 b3 b4))
    have HIa := Lib.hid (hI.keep (keeps_of_below ((Below.refl w2.heap.size w2).alloc (Nat.le_refl _) (.cells #[.string nm, .slice ai ins.length ci, .slice aw wires.length cw, .slice ar regs.length cr, .slice ao outs.length co, .slice a OD.length cap] 78))))
    have HS1 := Lib.hid (HSt.out _ (boxW _ HBa.out))
    have HX : Hid ((w2.alloc (.cells #[.string nm, .slice ai ins.length ci, .slice aw wires.length cw, .slice ar regs.length cr, .slice ao outs.length co, .slice a OD.length cap] 78)).heap[w2.heap.size]? = some (.cells #[.string nm, .slice ai ins.length ci, .slice aw wires.length cw, .slice ar regs.length cr, .slice ao outs.length co, .slice a OD.length cap] 78 (0, 0))) := heap_alloc_at _ _ _ rfl
    subst he
    clear hI
    go_wp2_with fail
    refine HS1.out.mono ?_
    rintro e w3 ⟨rfl, hb3⟩
    have HI3 := Lib.hid (HIa.out.keep (keeps_of_below hb3))
    obtain ⟨m0, m1, m2, m3, m4, m5⟩ := mach_cells ((hb3.block _ (lt_of_block HX.out)).trans HX.out)
    have HB3 := Lib.hid (HBa.out.trans (hb3.mono (by simp only [World.size_alloc]; omega)))
    have HB3w := Lib.hid (boxW _ HB3.out)
    clear hb3 b0 b1 b2 b3 b4
    cases sb
    · have HF := Lib.hid (HP3.out w3 trivial rfl HB3w.out)
      go_wp2_with fail
      exact HF.out
    · have HE1 := Lib.hid (HSe.out trivial rfl a cap w3 HB3w.out HI3.out)
      go_wp2_with fail
      refine HE1.out.mono ?_
      rintro e w4 ⟨⟨a4, c4, rfl, hS4⟩, hb4⟩
      have HF := Lib.hid (HP1.out a4 c4 w4 trivial (by first | rfl | trivial) hS4 (HB3w.out.trans (hb4.mono HB3w.out.size)))
      clear hS4 hb4 m0 m1 m2 m3 m4 m5
      go_wp2_with fail
      exact HF.out
  · have HF := Lib.hid (HP2.out (w2.alloc (.cells #[.string nm, .slice ai ins.length ci, .slice aw wires.length cw, .slice ar regs.length cr, .slice ao outs.length co, .slice none 0 0] 78)) he (HBw.out.alloc (by omega) _))
    have hne : (err != (0 : Int)) = true := by simpa using he
    clear he
    go_wp2_with fail
    exact HF.out
set_option maxRecDepth 100000 in
set_option maxHeartbeats 8000000 in
theorem Step_any (d : DesD) (x : DesA) (l : List Int) (al : Option Addr) (cl : Nat) (inp : Sigs) (aI : Option Addr) (cI : Nat) (w : World)
    (hE : DesIn w d x) (hs : DesSmall d) (hL : IntsIn w l al cl) (hI : SigsIn w inp aI cI) (hG : Glob w) :
    Calls Tryz.prog 26 #[desVal d x, .slice al l.length cl, .slice aI inp.length cI] w (StepPost w d l inp) := by
  have HBu := Lib.hid (fun W (hW : Below w.heap.size w W) => build_any d x W (hE.below hW) hs (hG.below hW))
  have HSt := Lib.hid (fun W (hW : Below w.heap.size w W) => state_any d x l al cl W (hE.below hW) (hL.keep (keeps_of_below hW)))
  have HSe := Lib.hid (fun (he : d.err = 0) (hb : d.stateB l = true) aO cO W (hW : Below w.heap.size w W) (hO : IntsIn W (natI d.order) aO cO) => settle_any d x aO cO l al cl inp aI cI W (hE.below hW) hs (desOk_of_err he) hO (state_len hb) (hL.keep (keeps_of_below hW)) (hI.keep (keeps_of_below hW)) (hG.below hW))
  unfold BuildPost at HBu
  have HP1 : Hid (∀ a1 c1 a cap w', d.err = 0 → d.stateB l = true → IntsIn w' (nextS d (settleS d l inp)) a1 c1 → SigsIn w' (settleS d l inp) a cap → Below w.heap.size w w' → StepPost w d l inp (.returned (.tuple #[.slice a1 (nextS d (settleS d l inp)).length c1, .slice a (settleS d l inp).length cap, .int .i64 0])) w') := fun a1 c1 a cap w' h1 h2 h0 h3 h4 => ⟨Or.inl ⟨h1, h2, a1, c1, a, cap, rfl, h0, h3⟩, h4⟩
  have HNx := Lib.hid (fun (he : d.err = 0) (hb : d.stateB l = true) (OD : List Nat) aO cO a cap W (hW : Below w.heap.size w W) (hS : SigsIn W (settleS d l inp) a cap) => step_any d x OD aO cO (settleS d l inp) a cap W (hE.below hW) hs (desOk_of_err he) (settle_names inp (state_len hb)) hS (hG.below hW))
  have HP2 : Hid (∀ w', ¬ d.err = 0 → Below w.heap.size w w' → StepPost w d l inp (.returned (.tuple #[.slice none 0 0, .slice none 0 0, .int .i64 d.err])) w') := fun w' h1 h2 => ⟨Or.inr (Or.inl ⟨h1, rfl⟩), h2⟩
  have HP3 : Hid (∀ w', d.err = 0 → d.stateB l = false → Below w.heap.size w w' → StepPost w d l inp (.returned (.tuple #[.slice none 0 0, .slice none 0 0, .int .i64 1])) w') := fun w' h1 h2 h3 => ⟨Or.inr (Or.inr ⟨h1, h2, rfl⟩), h3⟩
  generalize StepPost w d l inp = Po at HP1 HP2 HP3 ⊢
  generalize d.err = err at HBu HSe HNx HP1 HP2 HP3
  generalize d.stateB l = sb at HSt HSe HNx HP1 HP3
  generalize nextS d (settleS d l inp) = NX at HNx HP1
  generalize settleS d l inp = SE at HSe HNx HP1
  generalize d.order = OD at HBu HSe
  clear hE hs hL hI hG
  obtain ⟨nm, ins, wires, regs, outs⟩ := d
  obtain ⟨ai, ci, aw, cw, ar, cr, ao, co⟩ := x
  simp only [desVal, desVals, machVal, machVals] at HBu HSt HSe HNx HP1 HP2 HP3 ⊢
  have hbA : Below w.heap.size w (w.alloc (.cells #[.string nm, .slice ai ins.length ci, .slice aw wires.length cw, .slice ar regs.length cr, .slice ao outs.length co] 27)) := (by repeat (first | assumption | exact Below.refl _ _ | refine Below.drew ?_ | refine below_drewN ?_ _ | refine Below.alloc ?_ (by first | omega | (simp only [World.size_alloc, World.size_setCell, World.size_drew, World.heap_drewN] <;> omega) | (simp <;> omega)) _ | refine Below.setCell ?_ (by first | omega | (simp only [World.size_alloc, World.size_setCell, World.size_drew, World.heap_drewN] <;> omega) | (simp <;> omega)) _))
  have HB1 := Lib.hid (HBu.out _ hbA)
  clear hbA HBu
  go_enter Tryz.func26, Tryz.ntmps26
  go_wp2_with fail
  refine HB1.out.mono ?_
  rintro e w2 ⟨h, hb2⟩
  simp only [World.size_alloc] at hb2
  have HB2 := Lib.hid hb2
  have HBw := Lib.hid (boxW _ hb2)
  have hz2 := hb2.size
  simp only [World.size_alloc] at hz2
  clear hb2 HB1
  rcases h with ⟨he, a, cap, rfl, hI⟩ | ⟨he, rfl⟩
  · have HBa : Hid (Below (w.heap.size + 1) (w.alloc (.cells #[.string nm, .slice ai ins.length ci, .slice aw wires.length cw, .slice ar regs.length cr, .slice ao outs.length co] 27)) (w2.alloc (.cells #[.string nm, .slice ai ins.length ci, .slice aw wires.length cw, .slice ar regs.length cr, .slice ao outs.length co, .slice a OD.length cap] 78))) := HB2.out.alloc hz2 _
    ((try clear b0 b1 b2 b3 b4); have b0 := box_cell HBa.out 0; have b1 := box_cell HBa.out 1; have b2 := box_cell HBa.out 2; have b3 := box_cell HBa.out 3; have b4 := box_cell HBa.out 4; (try simp at b0 b1 b2 b3 b4))
    have HIa := Lib.hid (hI.keep (keeps_of_below ((Below.refl w2.heap.size w2).alloc (Nat.le_refl _) (.cells #[.string nm, .slice ai ins.length ci, .slice aw wires.length cw, .slice ar regs.length cr, .slice ao outs.length co, .slice a OD.length cap] 78))))
    have HS1 := Lib.hid (HSt.out _ (boxW _ HBa.out))
    have HX : Hid ((w2.alloc (.cells #[.string nm, .slice ai ins.length ci, .slice aw wires.length cw, .slice ar regs.length cr, .slice ao outs.length co, .slice a OD.length cap] 78)).heap[w2.heap.size]? = some (.cells #[.string nm, .slice ai ins.length ci, .slice aw wires.length cw, .slice ar regs.length cr, .slice ao outs.length co, .slice a OD.length cap] 78 (0, 0))) := heap_alloc_at _ _ _ rfl
    subst he
    clear hI
    go_wp2_with fail
    refine HS1.out.mono ?_
    rintro e w3 ⟨rfl, hb3⟩
    have HI3 := Lib.hid (HIa.out.keep (keeps_of_below hb3))
    have hX3 := (hb3.block _ (lt_of_block HX.out)).trans HX.out
    obtain ⟨m0, m1, m2, m3, m4, m5⟩ := mach_cells hX3
    have HB3 := Lib.hid (HBa.out.trans (hb3.mono (by simp only [World.size_alloc]; omega)))
    have HB3w := Lib.hid (boxW _ HB3.out)
    clear hb3 b0 b1 b2 b3 b4
    cases sb
    · have HF := Lib.hid (HP3.out w3 trivial rfl HB3w.out)
      go_wp2_with fail
      ((try simp only [Exit.inBlock, Exit.then]); refine bodyPost_ret (results_tmp3 rfl _ _ _) rfl ?_; exact HF.out)
    · have HE1 := Lib.hid (HSe.out trivial rfl a cap w3 HB3w.out HI3.out)
      go_wp2_with fail
      refine HE1.out.mono ?_
      rintro e w4 ⟨⟨a4, c4, rfl, hS4⟩, hb4⟩
      clear m0 m1 m2 m3 m4 m5
      have HB4w := Lib.hid (HB3w.out.trans (hb4.mono HB3w.out.size))
      have HX3 := Lib.hid (hX3)
      obtain ⟨m0, m1, m2, m3, m4, m5⟩ := mach_cells ((hb4.block _ (lt_of_block HX3.out)).trans HX3.out)
      have HN1 := Lib.hid (HNx.out trivial (by first | rfl | trivial) OD a cap a4 c4 w4 HB4w.out hS4)
      have HS4 := Lib.hid hS4
      clear hS4 hb4
      go_wp2_with fail
      refine HN1.out.mono ?_
      rintro e w5 ⟨⟨a5, c5, rfl, hI5⟩, hb5⟩
      have HF := Lib.hid (HP1.out a5 c5 a4 c4 w5 trivial (by first | rfl | trivial) hI5 (HS4.out.keep (keeps_of_below hb5)) (HB4w.out.trans (hb5.mono HB4w.out.size)))
      clear hI5 hb5 m0 m1 m2 m3 m4 m5
      go_wp2_with fail
      ((try simp only [Exit.inBlock, Exit.then]); refine bodyPost_ret (results_tmp3 rfl _ _ _) rfl ?_; exact HF.out)
  · have HF := Lib.hid (HP2.out (w2.alloc (.cells #[.string nm, .slice ai ins.length ci, .slice aw wires.length cw, .slice ar regs.length cr, .slice ao outs.length co, .slice none 0 0] 78)) he (HBw.out.alloc (by omega) _))
    have hne : (err != (0 : Int)) = true := by simpa using he
    clear he
    go_wp2_with fail
    ((try simp only [Exit.inBlock, Exit.then]); refine bodyPost_ret (results_tmp3 rfl _ _ _) rfl ?_; exact HF.out)
end Go.Proofs.YteaeemkodbodmaaGreatDoor
