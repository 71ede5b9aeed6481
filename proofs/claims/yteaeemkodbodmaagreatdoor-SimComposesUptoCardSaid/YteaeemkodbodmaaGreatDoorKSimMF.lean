/- sim: Run: the rows lie in memory that the call has made. -/
import Derived.Test.YteaeemkodbodmaaGreatDoorDT
set_option linter.unusedSimpArgs false
set_option linter.unusedVariables false
set_option linter.unnecessarySimpa false
namespace Go.Proofs.YteaeemkodbodmaaGreatDoor
open Go.RowKit
attribute [local go_sem ↓] Go.wp_at_zero Go.wp_at_succ

def RunPostF (w : World) (d : DesD) (rows : List Sigs) (e : Ending) (w' : World) : Prop := RunPost w d rows e w' ∧ ∀ aN lN cN aR lR cR er, e = .returned (.tuple #[.agg #[.slice aN lN cN, .slice aR lR cR], er]) → ∀ p : Addr, aR = some p → w.heap.size ≤ p.block
theorem fresh_of {w : World} {a1 a2 : Option Addr} {n1 n2 c1 c2 : Nat} {er : Value} (h : ∀ p : Addr, a2 = some p → w.heap.size ≤ p.block) : ∀ aN lN cN aR lR cR er', (Ending.returned (.tuple #[.agg #[.slice a1 n1 c1, .slice a2 n2 c2], er])) = .returned (.tuple #[.agg #[.slice aN lN cN, .slice aR lR cR], er']) → ∀ p : Addr, aR = some p → w.heap.size ≤ p.block := by
  intro aN lN cN aR lR cR er' he p hp
  simp only [Ending.returned.injEq, Value.tuple.injEq, Array.mk.injEq, List.cons.injEq, Value.agg.injEq, Value.slice.injEq, and_true] at he
  exact h p (by rw [he.1.2.1]; exact hp)
set_option maxRecDepth 100000 in
set_option maxHeartbeats 16000000 in
theorem Run_fresh (d : DesD) (x : DesA) (rows : List Sigs) (aI : Option Addr) (cI : Nat) (w : World)
    (hE : DesIn w d x) (hs : DesSmall d) (hI : SigRows w rows aI cI) (hG : Glob w) :
    Calls Tryz.prog 17 #[desVal d x, .slice aI rows.length cI] w (RunPostF w d rows) := by
  have HBu := Lib.hid (fun W (hW : Below w.heap.size w W) => build_any d x W (hE.below hW) hs (hG.below hW))
  unfold BuildPost at HBu
  have HRe : Hid (d.err = 0 → ∀ W, Below w.heap.size w W → Calls Tryz.prog 12 #[desVal d x] W fun e w' => (∃ a cap, e = .returned (.tuple #[.slice a d.regs.length cap, .int .i64 0]) ∧ IntsIn w' (stN d rows 0) a cap) ∧ Below W.heap.size W w') := fun he W hW => (Reset_any d x W (hE.below hW) hs (hG.below hW)).mono fun e w' h => by
    obtain ⟨⟨_, a, cap, h1, h2⟩ | ⟨h1, _⟩, h3⟩ := h
    · have hil : d.inits.length = d.regs.length := by simp [DesD.inits]
      rw [hil] at h1
      exact ⟨⟨a, cap, h1, h2⟩, h3⟩
    · exact absurd he h1
  have HNm := Lib.hid (fun W (hW : Below w.heap.size w W) hl => Names31_any d x W (hE.below hW) hl)
  have HSe : Hid (d.err = 0 → ∀ t inp al cl a c aO cO W, Below w.heap.size w W → IntsIn W (natI d.order) aO cO → IntsIn W (stN d rows t) al cl → SigsIn W inp a c → Calls Tryz.prog 36 #[machVal d x d.order.length aO cO, .slice al d.regs.length cl, .slice a inp.length c] W fun e w' => (∃ a cap, e = .returned (.tuple #[.slice a d.names.length cap, .int .i64 0]) ∧ SigsIn w' (settleS d (stN d rows t) inp) a cap ∧ ∀ p, a = some p → W.heap.size ≤ p.block) ∧ Below W.heap.size W w') := fun he t inp al cl a c aO cO W hW hO hL hS => by
    have h1 := settle_fresh d x aO cO (stN d rows t) al cl inp a c W (hE.below hW) hs (desOk_of_err he) hO (stN_len rows t) hL hS (hG.below hW)
    rw [settle_len inp (stN_len rows t), stN_len] at h1
    exact h1
  have HSt : Hid (d.err = 0 → ∀ t inp a c aO cO W, Below w.heap.size w W → SigsIn W (settleS d (stN d rows t) inp) a c → Calls Tryz.prog 37 #[machVal d x d.order.length aO cO, .slice a d.names.length c] W fun e w' => (∃ a cap, e = .returned (.tuple #[.slice a d.regs.length cap, .int .i64 0]) ∧ IntsIn w' (nextS d (settleS d (stN d rows t) inp)) a cap) ∧ Below W.heap.size W w') := fun he t inp a c aO cO W hW hS => by
    have h1 := step_any d x d.order aO cO (settleS d (stN d rows t) inp) a c W (hE.below hW) hs (desOk_of_err he) (settle_names inp (stN_len rows t)) hS (hG.below hW)
    rw [settle_len inp (stN_len rows t), nextS_len] at h1
    exact h1
  have HP1 : Hid (∀ aN cN aR cR w', d.err = 0 → rows.length ≤ 4096 → StrsIn w' d.names aN cN → RowsD w' (rowsN d rows) aR cR → Below w.heap.size w w' → (∀ p : Addr, aR = some p → w.heap.size ≤ p.block) → RunPostF w d rows (.returned (.tuple #[.agg #[.slice aN d.names.length cN, .slice aR rows.length cR], .int .i64 0])) w') := fun aN cN aR cR w' h1 h2 h3 h4 h5 h6 => ⟨⟨Or.inl ⟨h1, h2, aN, cN, aR, cR, rfl, h3, h4⟩, h5⟩, fresh_of h6⟩
  have HP2 : Hid (∀ w', ¬ d.err = 0 → Below w.heap.size w w' → RunPostF w d rows (.returned (.tuple #[.agg #[.slice none 0 0, .slice none 0 0], .int .i64 d.err])) w') := fun w' h1 h2 => ⟨⟨Or.inr (Or.inl ⟨h1, rfl⟩), h2⟩, fresh_of (fun p hp => by cases hp)⟩
  have HP3 : Hid (∀ w', d.err = 0 → 4096 < rows.length → Below w.heap.size w w' → RunPostF w d rows (.returned (.tuple #[.agg #[.slice none 0 0, .slice none 0 0], .int .i64 2])) w') := fun w' h1 h2 h3 => ⟨⟨Or.inr (Or.inr ⟨h1, h2, rfl⟩), h3⟩, fresh_of (fun p hp => by cases hp)⟩
  have hN48 : d.err = 0 → d.names.length ≤ 48 := fun h => (desOk_of_err h).len
  have HIn := Lib.hid hI
  have HIA := Lib.hid hI.addr
  have hil := hI.2.1
  generalize RunPostF w d rows = Po at HP1 HP2 HP3 ⊢
  simp only [desVal, desVals, machVal, machVals] at HBu HRe HNm HSe HSt ⊢
  have hbA : Below w.heap.size w ((w.alloc (.cells #[.string d.name, .slice x.ai d.inputs.length x.ci, .slice x.aw d.wires.length x.cw, .slice x.ar d.regs.length x.cr, .slice x.ao d.outputs.length x.co] 27)).alloc (.cells #[.slice none 0 0, .slice none 0 0] 40)) := (by repeat (first | assumption | exact Below.refl _ _ | refine Below.drew ?_ | refine below_drewN ?_ _ | refine Below.alloc ?_ (by first | omega | (simp only [World.size_alloc, World.size_setCell, World.size_drew, World.heap_drewN] <;> omega) | (simp <;> omega)) _ | refine Below.setCell ?_ (by first | omega | (simp only [World.size_alloc, World.size_setCell, World.size_drew, World.heap_drewN] <;> omega) | (simp <;> omega)) _))
  have hx0 : ((w.alloc (.cells #[.string d.name, .slice x.ai d.inputs.length x.ci, .slice x.aw d.wires.length x.cw, .slice x.ar d.regs.length x.cr, .slice x.ao d.outputs.length x.co] 27)).alloc (.cells #[.slice none 0 0, .slice none 0 0] 40)).heap[w.heap.size]? = some (.cells #[.string d.name, .slice x.ai d.inputs.length x.ci, .slice x.aw d.wires.length x.cw, .slice x.ar d.regs.length x.cr, .slice x.ao d.outputs.length x.co] 27 (0, 0)) := by rw [Below.heap_alloc _ _ _ (by simp)]; exact heap_alloc_at _ _ _ rfl
  have hx1 : ((w.alloc (.cells #[.string d.name, .slice x.ai d.inputs.length x.ci, .slice x.aw d.wires.length x.cw, .slice x.ar d.regs.length x.cr, .slice x.ao d.outputs.length x.co] 27)).alloc (.cells #[.slice none 0 0, .slice none 0 0] 40)).heap[w.heap.size + 1]? = some (.cells #[.slice none 0 0, .slice none 0 0] 40 (0, 0)) := heap_alloc_at _ _ _ (by simp)
  have HX := Lib.hid (⟨hx0, hx1⟩ : _ ∧ _)
  have HBA := Lib.hid hbA
  have HB1 := Lib.hid (HBu.out _ hbA)
  clear hbA HBu hE hs hI hG hx0 hx1
  go_enter Tryz.func17, Tryz.ntmps17
  go_wp2_with fail
  refine HB1.out.mono ?_
  rintro e w2 ⟨h, hb2⟩
  have HBw2 := Lib.hid (HBA.out.trans (hb2.mono HBA.out.size))
  have HX20 : Hid (w2.heap[w.heap.size]? = some (.cells #[.string d.name, .slice x.ai d.inputs.length x.ci, .slice x.aw d.wires.length x.cw, .slice x.ar d.regs.length x.cr, .slice x.ao d.outputs.length x.co] 27 (0, 0))) := (hb2.block _ (lt_of_block HX.out.1)).trans HX.out.1
  have HX21 : Hid (w2.heap[w.heap.size + 1]? = some (.cells #[.slice none 0 0, .slice none 0 0] 40 (0, 0))) := (hb2.block _ (lt_of_block HX.out.2)).trans HX.out.2
  have hz2 : w.heap.size + 2 ≤ w2.heap.size := by have := hb2.size; simpa using this
  clear hb2 HB1 HX HBA
  rcases h with ⟨he, aO, cO, rfl, hO⟩ | ⟨he, rfl⟩
  rotate_left
  · have hne : (d.err != (0 : Int)) = true := by simpa using he
    have h3 : Hid ((w2.alloc (.cells #[.string d.name, .slice x.ai d.inputs.length x.ci, .slice x.aw d.wires.length x.cw, .slice x.ar d.regs.length x.cr, .slice x.ao d.outputs.length x.co, .slice none 0 0] 78)).heap[w.heap.size + 1]? = some (.cells #[.slice none 0 0, .slice none 0 0] 40 (0, 0))) := by show _ = _; rw [Below.heap_alloc _ _ _ (by omega)]; exact HX21.out
    have r0 := cell_of_blk h3.out 0
    have r1 := cell_of_blk h3.out 1
    simp at r0 r1
    have f0 : (w2.alloc (.cells #[.string d.name, .slice x.ai d.inputs.length x.ci, .slice x.aw d.wires.length x.cw, .slice x.ar d.regs.length x.cr, .slice x.ao d.outputs.length x.co, .slice none 0 0] 78)).frozen? ⟨w.heap.size + 1, 0, none⟩ = false := by simp [World.frozen?, h3.out]
    have f1 : (w2.alloc (.cells #[.string d.name, .slice x.ai d.inputs.length x.ci, .slice x.aw d.wires.length x.cw, .slice x.ar d.regs.length x.cr, .slice x.ao d.outputs.length x.co, .slice none 0 0] 78)).frozen? ⟨w.heap.size + 1, 1, none⟩ = false := by simp [World.frozen?, h3.out]
    have HB3 : Hid (Below w.heap.size w (w2.alloc (.cells #[.string d.name, .slice x.ai d.inputs.length x.ci, .slice x.aw d.wires.length x.cw, .slice x.ar d.regs.length x.cr, .slice x.ao d.outputs.length x.co, .slice none 0 0] 78))) := HBw2.out.alloc (by omega) _
    have HPe := Lib.hid (fun W h => HP2.out W he h)
    clear he
    go_wp2_with fail
    refine bodyPost_ret (v := .tuple #[.agg #[.slice none 0 0, .slice none 0 0], .int .i64 d.err]) (wave_res _ _ (w.heap.size + 1) _ _ _ (set2 h3.out) rfl rfl) rfl ?_
    exact HPe.out _ ((HB3.out.setCell (by simp) _).setCell (by simp) _)
  have hN48 := hN48 he
  have HRe := Lib.hid (HRe.out he)
  have HSe := Lib.hid (HSe.out he)
  have HSt := Lib.hid (HSt.out he)
  have HP1 := Lib.hid (fun aN cN aR cR w' => HP1.out aN cN aR cR w' he)
  have HP3 := Lib.hid (fun w' => HP3.out w' he)
  have h30 : Hid ((w2.alloc (.cells #[.string d.name, .slice x.ai d.inputs.length x.ci, .slice x.aw d.wires.length x.cw, .slice x.ar d.regs.length x.cr, .slice x.ao d.outputs.length x.co, .slice aO d.order.length cO] 78)).heap[w.heap.size]? = some (.cells #[.string d.name, .slice x.ai d.inputs.length x.ci, .slice x.aw d.wires.length x.cw, .slice x.ar d.regs.length x.cr, .slice x.ao d.outputs.length x.co] 27 (0, 0))) := by show _ = _; rw [Below.heap_alloc _ _ _ (by omega)]; exact HX20.out
  have h31 : Hid ((w2.alloc (.cells #[.string d.name, .slice x.ai d.inputs.length x.ci, .slice x.aw d.wires.length x.cw, .slice x.ar d.regs.length x.cr, .slice x.ao d.outputs.length x.co, .slice aO d.order.length cO] 78)).heap[w.heap.size + 1]? = some (.cells #[.slice none 0 0, .slice none 0 0] 40 (0, 0))) := by show _ = _; rw [Below.heap_alloc _ _ _ (by omega)]; exact HX21.out
  have h32 : Hid ((w2.alloc (.cells #[.string d.name, .slice x.ai d.inputs.length x.ci, .slice x.aw d.wires.length x.cw, .slice x.ar d.regs.length x.cr, .slice x.ao d.outputs.length x.co, .slice aO d.order.length cO] 78)).heap[w2.heap.size]? = some (.cells #[.string d.name, .slice x.ai d.inputs.length x.ci, .slice x.aw d.wires.length x.cw, .slice x.ar d.regs.length x.cr, .slice x.ao d.outputs.length x.co, .slice aO d.order.length cO] 78 (0, 0))) := heap_alloc_at _ _ _ rfl
  have HB3 : Hid (Below w.heap.size w (w2.alloc (.cells #[.string d.name, .slice x.ai d.inputs.length x.ci, .slice x.aw d.wires.length x.cw, .slice x.ar d.regs.length x.cr, .slice x.ao d.outputs.length x.co, .slice aO d.order.length cO] 78))) := HBw2.out.alloc (by omega) _
  have HOr := Lib.hid (hO.keep (keeps_of_below ((Below.refl w2.heap.size w2).alloc (Nat.le_refl _) (.cells #[.string d.name, .slice x.ai d.inputs.length x.ci, .slice x.aw d.wires.length x.cw, .slice x.ar d.regs.length x.cr, .slice x.ao d.outputs.length x.co, .slice aO d.order.length cO] 78))))
  have hz3 : (w2.alloc (.cells #[.string d.name, .slice x.ai d.inputs.length x.ci, .slice x.aw d.wires.length x.cw, .slice x.ar d.regs.length x.cr, .slice x.ao d.outputs.length x.co, .slice aO d.order.length cO] 78)).heap.size = w2.heap.size + 1 := by simp
  have HZ3 := Lib.hid hz3
  clear he HP2 hO HX20 HX21 hz3
  by_cases hm : 4096 < rows.length
  · have hgt : (4096 : Int) < rows.length := by omega
    have r0 := cell_of_blk h31.out 0
    have r1 := cell_of_blk h31.out 1
    simp at r0 r1
    have f0 : (w2.alloc (.cells #[.string d.name, .slice x.ai d.inputs.length x.ci, .slice x.aw d.wires.length x.cw, .slice x.ar d.regs.length x.cr, .slice x.ao d.outputs.length x.co, .slice aO d.order.length cO] 78)).frozen? ⟨w.heap.size + 1, 0, none⟩ = false := by simp [World.frozen?, h31.out]
    have f1 : (w2.alloc (.cells #[.string d.name, .slice x.ai d.inputs.length x.ci, .slice x.aw d.wires.length x.cw, .slice x.ar d.regs.length x.cr, .slice x.ao d.outputs.length x.co, .slice aO d.order.length cO] 78)).frozen? ⟨w.heap.size + 1, 1, none⟩ = false := by simp [World.frozen?, h31.out]
    have HPe := Lib.hid (fun W h => HP3.out W hm h)
    clear hm
    go_wp2_with fail
    refine bodyPost_ret (v := .tuple #[.agg #[.slice none 0 0, .slice none 0 0], .int .i64 2]) (wave_res _ _ (w.heap.size + 1) _ _ _ (set2 h31.out) rfl rfl) rfl ?_
    exact HPe.out _ ((HB3.out.setCell (by simp) _).setCell (by simp) _)
  · have hgt : ¬ (4096 : Int) < rows.length := by omega
    have hm' : rows.length ≤ 4096 := by omega
    have HN1 := Lib.hid (HNm.out _ HB3.out (by omega))
    have b0 := cell_of_blk h30.out 0
    have b1 := cell_of_blk h30.out 1
    have b2 := cell_of_blk h30.out 2
    have b3 := cell_of_blk h30.out 3
    have b4 := cell_of_blk h30.out 4
    simp at b0 b1 b2 b3 b4
    clear hm
    go_wp2_with fail
    refine HN1.out.mono ?_
    rintro e w8 ⟨⟨aN, cN, rfl, hN⟩, hb8⟩
    clear b0 b1 b2 b3 b4
    have HB8w := Lib.hid (HB3.out.trans (hb8.mono HB3.out.size))
    have h80 : Hid (w8.heap[w.heap.size]? = some (.cells #[.string d.name, .slice x.ai d.inputs.length x.ci, .slice x.aw d.wires.length x.cw, .slice x.ar d.regs.length x.cr, .slice x.ao d.outputs.length x.co] 27 (0, 0))) := (hb8.block _ (lt_of_block h30.out)).trans h30.out
    have h81 : Hid (w8.heap[w.heap.size + 1]? = some (.cells #[.slice none 0 0, .slice none 0 0] 40 (0, 0))) := (hb8.block _ (lt_of_block h31.out)).trans h31.out
    have h82 : Hid (w8.heap[w2.heap.size]? = some (.cells #[.string d.name, .slice x.ai d.inputs.length x.ci, .slice x.aw d.wires.length x.cw, .slice x.ar d.regs.length x.cr, .slice x.ao d.outputs.length x.co, .slice aO d.order.length cO] 78 (0, 0))) := (hb8.block _ (lt_of_block h32.out)).trans h32.out
    have HO8 := Lib.hid (HOr.out.keep (keeps_of_below hb8))
    have HN8 := Lib.hid hN
    have hz8 : w2.heap.size + 1 ≤ w8.heap.size := by have := hb8.size; rw [HZ3.out] at this; exact this
    clear hb8 hN
    have h90 : Hid ((w8.alloc (.cells #[.slice aN d.names.length cN, .slice none 0 0] 40)).heap[w.heap.size]? = some (.cells #[.string d.name, .slice x.ai d.inputs.length x.ci, .slice x.aw d.wires.length x.cw, .slice x.ar d.regs.length x.cr, .slice x.ao d.outputs.length x.co] 27 (0, 0))) := by show _ = _; rw [Below.heap_alloc _ _ _ (by omega)]; exact h80.out
    have b0 := cell_of_blk h90.out 0
    have b1 := cell_of_blk h90.out 1
    have b2 := cell_of_blk h90.out 2
    have b3 := cell_of_blk h90.out 3
    have b4 := cell_of_blk h90.out 4
    simp at b0 b1 b2 b3 b4
    have HB9a : Hid (Below w8.heap.size w8 (w8.alloc (.cells #[.slice aN d.names.length cN, .slice none 0 0] 40))) := (Below.refl _ _).alloc (Nat.le_refl _) _
    have hv9 : Hid ((w8.alloc (.cells #[.slice aN d.names.length cN, .slice none 0 0] 40)).heap[w8.heap.size]? = some (.cells #[.slice aN d.names.length cN, .slice none 0 0] 40 (0, 0))) := heap_alloc_at _ _ _ rfl
    have HR1 := Lib.hid (HRe.out _ (HB8w.out.trans (HB9a.out.mono HB8w.out.size)))
    go_wp2_with fail
    refine HR1.out.mono ?_
    rintro e w9 ⟨⟨a9, c9, rfl, hI9⟩, hb9⟩
    clear b0 b1 b2 b3 b4
    have HB9 := Lib.hid (HB9a.out.trans (hb9.mono (by simp)))
    have HV9 : Hid (w9.heap[w8.heap.size]? = some (.cells #[.slice aN d.names.length cN, .slice none 0 0] 40 (0, 0))) := (hb9.block _ (lt_of_block hv9.out)).trans hv9.out
    have HI9 := Lib.hid hI9
    have e0 := cell_of_blk HV9.out 0
    have e1 := cell_of_blk HV9.out 1
    simp at e0 e1
    have hz9 : w8.heap.size < w9.heap.size := lt_of_block HV9.out
    obtain ⟨N, hN⟩ : ∃ N, N = rows.length * d.names.length := ⟨_, rfl⟩
    have hNb : N ≤ 4096 * 48 := by rw [hN]; exact Nat.mul_le_mul hm' hN48
    have hmul : IntKind.i64.wrap ((d.names.length : Int) * (rows.length : Int)) = (N : Int) := by
      rw [IntKind.wrap_i64, hN, Int.natCast_mul, Int.mul_comm]
      have : (rows.length : Int) * (d.names.length : Int) = (N : Int) := by rw [hN, Int.natCast_mul]
      omega
    have HN := Lib.hid hN
    clear hN hb9 hI9 hv9
    have HSR : Hid ((settleS d (stN d rows 0) (rows.getD 0 [])) = (settleS d (stN d rows 0) (rows.getD 0 []))) := rfl
    go_wp2_with (at_make; go_must (refine make_blk elemI rfl (.tmp 47) (.tmp 47) rfl N _ rfl rfl rfl (by omega) ?_))
    intro cur hcur
    obtain ⟨bV, hbV⟩ : ∃ bV, bV = w9.heap.size := ⟨_, rfl⟩
    have hFl : (rowsF d rows d.names.length).length = N := by rw [rowsF_len, HN.out]
    have HVa : Hid (ValsAt (w9.alloc (.cells cur.toArray 3)) bV (rowsF d rows d.names.length) (0 * d.names.length)) := ⟨cur, by rw [hbV]; exact heap_alloc_at _ _ _ rfl, by rw [hFl]; simpa using hcur, fun j hj => by omega⟩
    have HBa : Hid (Below w8.heap.size w8 (w9.alloc (.cells cur.toArray 3))) := HB9.out.alloc (by omega) _
    have HIa := Lib.hid (HI9.out.keep (keeps_of_below ((Below.refl w9.heap.size w9).alloc (Nat.le_refl _) (.cells cur.toArray 3))))
    have HWa : Hid ((w9.alloc (.cells cur.toArray 3)).heap[w8.heap.size]? = some (.cells #[.slice aN d.names.length cN, .slice none 0 0] 40 (0, 0))) := by show _ = _; rw [Below.heap_alloc _ _ _ hz9]; exact HV9.out
    have hsa : bV + 1 ≤ (w9.alloc (.cells cur.toArray 3)).heap.size := by simp [hbV]
    rw [← hbV]
    have hbv8 : w8.heap.size < bV := by omega
    clear e0 e1 hcur hbV HB9 HV9 HI9 hz9 HSR hmul
    generalize w9.alloc (.cells cur.toArray 3) = wb at HVa HBa HIa HWa hsa
    go_wp2_with fail
    go_loopw [51, 9, 13, 14, 15, 16, 17, 18, 19] (fun i st _ _ _ _ _ _ _ wr => ∃ k : Nat, i = .int .i64 k ∧ k ≤ rows.length ∧ Hid (∃ a c, st = .slice a d.regs.length c ∧ IntsIn wr (stN d rows k) a c) ∧ Hid (∃ v, wr.heap[w8.heap.size]? = some (.cells #[.slice aN d.names.length cN, v] 40 (0, 0)) ∧ wr.ownsRow (bV + 1) 30 1 v k ((rowVs bV d.names.length rows.length).take k)) ∧ Hid (ValsAt wr bV (rowsF d rows d.names.length) (k * d.names.length)) ∧ Hid (Below w8.heap.size w8 wr) ∧ bV + 1 ≤ wr.heap.size) (fun i _ _ _ _ _ _ _ _ _ => rows.length - (intOf i).toNat)
    case atStart => exact ⟨0, rfl, Nat.zero_le _, ⟨a9, c9, rfl, HIa.out⟩, ⟨_, HWa.out, World.ownsRow_nil _ _ _ _⟩, HVa, HBa, hsa⟩
    case round =>
      obtain ⟨k, rfl, hk, HSta, HWv, HV, HB, hsr⟩ := hrel
      obtain ⟨aS, cs, rfl, hIs⟩ := HSta.out
      obtain ⟨v, hW, hO⟩ := HWv.out
      have HIs := Lib.hid hIs
      have HW := Lib.hid hW
      have HO := Lib.hid hO
      have HBw := Lib.hid (HB8w.out.trans (HB.out.mono HB8w.out.size))
      clear HSta HWv hIs hW hO
      have hkn : k ≤ 1073741824 := by omega
      obtain ⟨va, vc, hv, _⟩ := slice_of_own HO.out hkn
      subst hv
      by_cases hlt : k < rows.length
      · obtain ⟨b, off, ha⟩ := HIA.out.resolve_left (by omega)
        subst ha
        obtain ⟨ai, ci, c0, hSi⟩ := (HIn.out.keep (keeps_of_below HBw.out)).get rfl hlt
        have hgd : rows.getD k [] = rows[k]'hlt := by simp [hlt]
        have hrow : rowN d rows k = (settleS d (stN d rows k) (rows[k]'hlt)).map (·.2) := by unfold rowN; rw [hgd]
        have hnx : stN d rows (k + 1) = nextS d (settleS d (stN d rows k) (rows[k]'hlt)) := by show nextS _ _ = _; rw [hgd]
        have hsl : (settleS d (stN d rows k) (rows[k]'hlt)).length = d.names.length := settle_len _ (stN_len rows k)
        have HS1 := Lib.hid (HSe.out k (rows[k]'hlt) aS cs ai ci aO cO wr HBw.out (HO8.out.keep (keeps_of_below HB.out)) HIs.out hSi)
        have HT1 := Lib.hid (fun a c W hW hS => HSt.out k (rows[k]'hlt) a c aO cO W hW hS)
        have h86 : Hid (wr.heap[w2.heap.size]? = some (.cells #[.string d.name, .slice x.ai d.inputs.length x.ci, .slice x.aw d.wires.length x.cw, .slice x.ar d.regs.length x.cr, .slice x.ao d.outputs.length x.co, .slice aO d.order.length cO] 78 (0, 0))) := (HB.out.block _ (by omega)).trans h82.out
        obtain ⟨m0, m1, m2, m3, m4, m5⟩ := mach_cells h86.out
        generalize (rows[k]'hlt) = inp at c0 hrow hnx hsl HS1 HT1
        have Hrow := Lib.hid hrow
        have Hnx := Lib.hid hnx
        have Hsl := Lib.hid hsl
        clear hgd hSi hrow hnx hsl
        generalize settleS d (stN d rows k) inp = SE at HS1 HT1 Hrow Hnx Hsl
        have hkl : (k : Int) < rows.length := by omega
        go_wp2_with fail
        refine HS1.out.mono ?_
        rintro e w5 ⟨⟨a5, c5, rfl, hS5, hF5⟩, hb5⟩
        have HS5 := Lib.hid hS5
        have HF5 := Lib.hid hF5
        have HA5 := Lib.hid hS5.addr
        have HB5 := Lib.hid (HB.out.trans (hb5.mono HB.out.size))
        have HV5 := Lib.hid (HV.out.keep hb5)
        have HW5 : Hid (w5.heap[w8.heap.size]? = some (.cells #[.slice aN d.names.length cN, .slice va k vc] 40 (0, 0))) := (hb5.block _ (lt_of_block HW.out)).trans HW.out
        have HO5 := Lib.hid (ownsRow_below HO.out hb5)
        have h56 : Hid (w5.heap[w2.heap.size]? = some (.cells #[.string d.name, .slice x.ai d.inputs.length x.ci, .slice x.aw d.wires.length x.cw, .slice x.ar d.regs.length x.cr, .slice x.ao d.outputs.length x.co, .slice aO d.order.length cO] 78 (0, 0))) := (hb5.block _ (lt_of_block h86.out)).trans h86.out
        have hs5 : bV + 1 ≤ w5.heap.size := by have := hb5.size; omega
        obtain ⟨p, hp⟩ : ∃ p, p = k * d.names.length := ⟨_, rfl⟩
        obtain ⟨q, hq⟩ : ∃ q, q = (k + 1) * d.names.length := ⟨_, rfl⟩
        have hpq : q = p + d.names.length := by rw [hp, hq, Nat.add_mul, Nat.one_mul]
        have hqN : q ≤ N := by rw [hq, HN.out]; exact Nat.mul_le_mul (by omega) (Nat.le_refl _)
        have hm1 : IntKind.i64.wrap ((k : Int) * (d.names.length : Int)) = (p : Int) := by
          rw [IntKind.wrap_i64, show (k : Int) * (d.names.length : Int) = (p : Int) by rw [hp, Int.natCast_mul]]
          omega
        have hm2 : IntKind.i64.wrap (((k : Int) + 1) * (d.names.length : Int)) = (q : Int) := by
          rw [IntKind.wrap_i64, show ((k : Int) + 1) * (d.names.length : Int) = (q : Int) by rw [hq, Int.natCast_mul]; simp]
          omega
        have hslr := slice_row bV N d.names.length k p q hp hq hqN
        have HFz : Hid (∀ j (hj : j < SE.length), (rowsF d rows d.names.length)[p + j]? = some (SE[j]'hj).2) := fun j hj => by
          rw [hp, rowsF_at hlt (by rw [← Hsl.out]; exact hj), Hrow.out]
          simp [hj]
        rw [← hp] at HV5
        have Hp := Lib.hid hp
        have Hq := Lib.hid hq
        have Hpq := Lib.hid hpq
        clear hS5 hF5 hb5 c0 m0 m1 m2 m3 m4 m5 hp hq hpq
        have HG0 : Hid (w5.grownBy w5 (some bV)) := grow_refl _ _
        go_wp2_with fail
        go_loopw [82, 18, 19] (fun i _ _ wi => ∃ j : Nat, i = .int .i64 j ∧ j ≤ d.names.length ∧ Hid (ValsAt wi bV (rowsF d rows d.names.length) (p + j)) ∧ Hid (w5.grownBy wi (some bV))) (fun i _ _ _ => d.names.length - (intOf i).toNat)
        case atStart => exact ⟨0, rfl, Nat.zero_le _, HV5, HG0⟩
        case round =>
          rename World => wi
          obtain ⟨j, rfl, hj, HVi, HGi⟩ := hrel
          have hsi := HGi.out.size
          by_cases hjl : j < d.names.length
          · have hjS : j < SE.length := by rw [Hsl.out]; exact hjl
            obtain ⟨bs, os, ha5⟩ := HA5.out.resolve_left (by omega)
            subst ha5
            obtain ⟨s0, s1⟩ := (HS5.out.grown HF5.out (show bV < wr.heap.size by omega) HGi.out).get rfl hjS
            have HFj := Lib.hid (HFz.out j hjS)
            generalize (SE[j]'hjS) = e at s0 s1 HFj
            have hpN : p + j < N := by have := Hpq.out; omega
            obtain ⟨u, hu⟩ := HVi.out.cell (j := p + j) (by rw [hFl]; exact hpN)
            have hbA : Below wi.heap.size wi (wi.alloc (.cells #[.string e.1, .int .i64 e.2] 65)) := (Below.refl _ _).alloc (Nat.le_refl _) _
            have hu1 := keeps_of_below hbA _ _ hu
            have hfz := (HVi.out.keep hbA).free (p + j)
            have hjn : (j : Int) < d.names.length := by omega
            have hVn := Lib.hid ((HVi.out.set HFj.out).keep ((Below.refl _ _).alloc (Nat.le_refl _) (.cells #[.string e.1, .int .i64 e.2] 65)))
            have hGn : Hid (w5.grownBy ((wi.setCell ⟨bV, p + j, none⟩ (.int .i64 e.2)).alloc (.cells #[.string e.1, .int .i64 e.2] 65)) (some bV)) := grow_alloc (grow_set HGi.out)
            have hbVi := HVi.out.lt
            have hnw : bV ≠ wi.heap.size := by omega
            have hnw2 : wi.heap.size ≠ bV := by omega
            clear hbA hu
            go_wp2_with fail
            go_roundw
            case rel => exact ⟨j + 1, by go_num, by omega, hVn, hGn⟩
            case measure => (simp [intOf]; try omega)
          · obtain rfl : j = d.names.length := by omega
            have hWi : Hid (wi.heap[w8.heap.size]? = some (.cells #[.slice aN d.names.length cN, .slice va k vc] 40 (0, 0))) := (HGi.out.block _ (lt_of_block HW5.out) (fun e => by have := Option.some.inj e; omega)).trans HW5.out
            have HOi := Lib.hid (HO5.out.kept HGi.out (Or.inr (fun e => by have := (HO5.out.lt _ e).1; omega)))
            have h6i : Hid (wi.heap[w2.heap.size]? = some (.cells #[.string d.name, .slice x.ai d.inputs.length x.ci, .slice x.aw d.wires.length x.cw, .slice x.ar d.regs.length x.cr, .slice x.ao d.outputs.length x.co, .slice aO d.order.length cO] 78 (0, 0))) := (HGi.out.block _ (lt_of_block h56.out) (fun e => by have := Option.some.inj e; omega)).trans h56.out
            have HBi : Hid (Below w8.heap.size w8 wi) := Below.grown HB5.out HGi.out (by omega) (fun j hj => by have := Option.some.inj hj; omega)
            have HSi := Lib.hid (HS5.out.grown HF5.out (show bV < wr.heap.size by omega) HGi.out)
            have e0 := cell_of_blk hWi.out 0
            have e1 := cell_of_blk hWi.out 1
            simp at e0 e1
            have hwi : bV + 1 ≤ wi.heap.size := by omega
            go_wp2_with (at_builtin; go_must (refine own_app elemRw _ rfl (.tmp 94) (.tmp 96) rfl (bV + 1) (.slice va k vc) k ((rowVs bV d.names.length rows.length).take k) rfl HOi.out [.slice (some ⟨bV, p, none⟩) d.names.length d.names.length] rfl (by simp [Value.oneCell']) _ 1 rfl (by first | rfl | simp) hkn (by omega) ?_))
            intro v' w7 ho hg
            obtain ⟨av, cv, hv7, _⟩ := slice_of_own ho (by omega)
            subst hv7
            have hal : ∀ c, c < wi.heap.size → (wi.alloc (.cells #[.slice (some ⟨bV, p, none⟩) d.names.length d.names.length] 30)).heap[c]? = wi.heap[c]? := fun c hc => Below.heap_alloc _ _ _ hc
            have hoW : (Value.slice va k vc).ownBlock ≠ some w8.heap.size := fun h => (ownsRow_ne HOi.out hWi.out (by decide)) h.symm
            have h7W : w7.heap[w8.heap.size]? = some (.cells #[.slice aN d.names.length cN, .slice va k vc] 40 (0, 0)) := (hg.block _ (by rw [World.size_alloc]; omega) (fun e => hoW e.symm)).trans ((hal _ (by omega)).trans hWi.out)
            have h76 : w7.heap[w2.heap.size]? = some (.cells #[.string d.name, .slice x.ai d.inputs.length x.ci, .slice x.aw d.wires.length x.cw, .slice x.ar d.regs.length x.cr, .slice x.ao d.outputs.length x.co, .slice aO d.order.length cO] 78 (0, 0)) := (hg.block _ (by rw [World.size_alloc]; omega) (fun e => by have := (HOi.out.lt _ e.symm).1; omega)).trans ((hal _ (by omega)).trans h6i.out)
            have h7V : w7.heap[bV]? = wi.heap[bV]? := (hg.block _ (by rw [World.size_alloc]; omega) (fun e => by have := (HOi.out.lt _ e.symm).1; omega)).trans (hal _ (by omega))
            have g1 := cell_of_blk h7W 1
            simp at g1
            have gf : w7.frozen? ⟨w8.heap.size, 1, none⟩ = false := by simp [World.frozen?, h7W]
            have HW7 : Hid ((w7.setCell ⟨w8.heap.size, 1, none⟩ (.slice av (k + 1) cv)).heap[w8.heap.size]? = some (.cells #[.slice aN d.names.length cN, .slice av (k + 1) cv] 40 (0, 0))) := by show _ = _; rw [heap_setCell_same _ _ 1 _ _ _ h7W]; rfl
            have HO7 : Hid ((w7.setCell ⟨w8.heap.size, 1, none⟩ (.slice av (k + 1) cv)).ownsRow (bV + 1) 30 1 (.slice av (k + 1) cv) (k + 1) ((rowVs bV d.names.length rows.length).take (k + 1))) := by
              have := ownsRow_store ho h7W (by decide) 1 (.slice av (k + 1) cv)
              show World.ownsRow _ _ _ _ _ _ _
              rw [rowVs_take hlt, ← Hp.out]
              exact this
            have HV7 : Hid (ValsAt (w7.setCell ⟨w8.heap.size, 1, none⟩ (.slice av (k + 1) cv)) bV (rowsF d rows d.names.length) ((k + 1) * d.names.length)) := by
              have h1 := HVi.out
              rw [← Hpq.out, Hq.out] at h1
              exact h1.eq ((heap_setCell_other _ _ _ _ (show bV ≠ w8.heap.size by omega)).trans h7V)
            have H67 : Hid ((w7.setCell ⟨w8.heap.size, 1, none⟩ (.slice av (k + 1) cv)).heap[w2.heap.size]? = some (.cells #[.string d.name, .slice x.ai d.inputs.length x.ci, .slice x.aw d.wires.length x.cw, .slice x.ar d.regs.length x.cr, .slice x.ao d.outputs.length x.co, .slice aO d.order.length cO] 78 (0, 0))) := (heap_setCell_other _ _ _ _ (show w2.heap.size ≠ w8.heap.size by omega)).trans h76
            have HB7 : Hid (Below w8.heap.size w8 (w7.setCell ⟨w8.heap.size, 1, none⟩ (.slice av (k + 1) cv))) := (Below.grown (HBi.out.alloc (by omega) _) hg (by rw [World.size_alloc]; omega) (fun j hj => by have := (HOi.out.lt _ hj).1; omega)).setCell (Nat.le_refl _) _
            have HS7 : Hid (SigsIn (w7.setCell ⟨w8.heap.size, 1, none⟩ (.slice av (k + 1) cv)) SE a5 c5) := HSi.out.heap (fun p hp hps => by
              have h1 := HF5.out p hp
              exact (heap_setCell_other _ _ _ _ (show p.block ≠ w8.heap.size by omega)).trans ((hg.block _ (by rw [World.size_alloc]; omega) (fun e => by have := (HO.out.lt _ e.symm).2; omega)).trans (hal _ hps)))
            have HT7 := Lib.hid (HT1.out a5 c5 _ (HB8w.out.trans (HB7.out.mono HB8w.out.size)) HS7.out)
            obtain ⟨m0, m1, m2, m3, m4, m5⟩ := mach_cells H67.out
            have hs7 : bV + 1 ≤ (w7.setCell ⟨w8.heap.size, 1, none⟩ (.slice av (k + 1) cv)).heap.size := by have := hg.size; rw [World.size_alloc] at this; rw [World.size_setCell]; omega
            clear e0 e1 ho hg hal hoW h7W h76 h7V
            go_wp2_with fail
            refine HT7.out.mono ?_
            rintro e w10 ⟨⟨a10, c10, rfl, hI10⟩, hb10⟩
            have HI10 : Hid (∃ a c, Value.slice a10 d.regs.length c10 = .slice a d.regs.length c ∧ IntsIn w10 (stN d rows (k + 1)) a c) := ⟨a10, c10, rfl, by rw [Hnx.out]; exact hI10⟩
            have HW10 : Hid (∃ v, w10.heap[w8.heap.size]? = some (.cells #[.slice aN d.names.length cN, v] 40 (0, 0)) ∧ w10.ownsRow (bV + 1) 30 1 v (k + 1) ((rowVs bV d.names.length rows.length).take (k + 1))) := ⟨_, (hb10.block _ (lt_of_block HW7.out)).trans HW7.out, ownsRow_below HO7.out hb10⟩
            have HV10 := Lib.hid (HV7.out.keep hb10)
            have HB10 := Lib.hid (HB7.out.trans (hb10.mono HB7.out.size))
            have hs10 : bV + 1 ≤ w10.heap.size := by have := hb10.size; omega
            clear m0 m1 m2 m3 m4 m5 g1 gf hI10 hb10
            go_wp2_with fail
            go_roundw
            case rel => exact ⟨k + 1, by go_num, by omega, HI10, HW10, HV10, HB10, hs10⟩
            case measure => (simp [intOf]; try omega)
      · obtain rfl : k = rows.length := by omega
        have e0 := cell_of_blk HW.out 0
        have e1 := cell_of_blk HW.out 1
        simp at e0 e1
        have hR : Hid (wr.heap[w.heap.size + 1]? = some (.cells #[.slice none 0 0, .slice none 0 0] 40 (0, 0))) := (HB.out.block _ (by omega)).trans h81.out
        have r0 := cell_of_blk hR.out 0
        have r1 := cell_of_blk hR.out 1
        simp at r0 r1
        have f0 : wr.frozen? ⟨w.heap.size + 1, 0, none⟩ = false := by simp [World.frozen?, hR.out]
        have f1 : wr.frozen? ⟨w.heap.size + 1, 1, none⟩ = false := by simp [World.frozen?, hR.out]
        have hne1 : w8.heap.size ≠ w.heap.size + 1 := by omega
        go_wp2_with fail
        refine bodyPost_ret (v := .tuple #[.agg #[.slice aN d.names.length cN, .slice va rows.length vc], .int .i64 0]) (wave_res _ _ (w.heap.size + 1) _ _ _ (set2 hR.out) rfl rfl) rfl ?_
        have hR1 : (wr.setCell ⟨w.heap.size + 1, 0, none⟩ (.slice aN d.names.length cN)).heap[w.heap.size + 1]? = some (.cells #[.slice aN d.names.length cN, .slice none 0 0] 40 (0, 0)) := by rw [heap_setCell_same _ _ 0 _ _ _ hR.out]; rfl
        have hO2 := ownsRow_store (ownsRow_store HO.out hR.out (by decide) 0 (.slice aN d.names.length cN)) hR1 (by decide) 1 (.slice va rows.length vc)
        have hV2 : ValsAt ((wr.setCell ⟨w.heap.size + 1, 0, none⟩ (.slice aN d.names.length cN)).setCell ⟨w.heap.size + 1, 1, none⟩ (.slice va rows.length vc)) bV (rowsF d rows d.names.length) (rows.length * d.names.length) := HV.out.eq ((heap_setCell_other _ _ _ _ (show bV ≠ w.heap.size + 1 by omega)).trans (heap_setCell_other _ _ _ _ (show bV ≠ w.heap.size + 1 by omega)))
        rw [List.take_of_length_le (by simp [rowVs])] at hO2
        obtain ⟨aR, cR, hv, hRD⟩ := rows_of_own hO2 rfl (by omega) hV2 rfl (by omega) (Nat.le_refl _)
        simp only [Value.slice.injEq, true_and] at hv
        obtain ⟨rfl, rfl⟩ := hv
        refine HP1.out aN cN va vc _ hm' ?_ hRD (((HBw.out.setCell (show w.heap.size ≤ w.heap.size + 1 by omega) _)).setCell (show w.heap.size ≤ w.heap.size + 1 by omega) _) (fun p hp => by
          have h1 := (hO2.lt p.block (by rw [hp]; rfl)).1
          omega)
        refine (HN8.out.keep (keeps_of_below HB.out)).mono fun i b o hi ⟨n, h1, h2⟩ => ⟨n, h1, ?_⟩
        have hbn : b ≠ w.heap.size + 1 := fun e => by
          subst e
          rw [cell_of_blk hR.out] at h2
          rcases o with _ | _ | o <;> simp at h2
        rw [World.cell?_setCell_other _ _ _ _ (fun e => hbn (congrArg Addr.block e).symm), World.cell?_setCell_other _ _ _ _ (fun e => hbn (congrArg Addr.block e).symm)]
        exact h2
end Go.Proofs.YteaeemkodbodmaaGreatDoor
