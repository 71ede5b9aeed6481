/- law32: SimComposes. -/
import Derived.Test.YteaeemkodbodmaaGreatDoorDX
import Derived.Test.YteaeemkodbodmaaGreatDoorDZ
import Derived.Test.YteaeemkodbodmaaGreatDoorKSimMF
set_option linter.unusedSimpArgs false
set_option linter.unusedVariables false
set_option linter.unnecessarySimpa false
namespace Go.Proofs.YteaeemkodbodmaaGreatDoor
open Go.RowKit
attribute [local go_sem ↓] Go.wp_at_zero Go.wp_at_succ

/-- 'rows[:k]' -/
theorem slice_to {w : World} {rows : List Sigs} {a : Option Addr} {cap : Nat} (h : SigRows w rows a cap) (k : Nat) (hk : k ≤ rows.length) :
    ∃ a2, (∀ W : World, (Instr.sliceAt 36 (.slice a rows.length cap) none (some (.int .i64 k)) none).run Tryz.prog W = .ok (.slice a2 k cap) W) ∧ SigRows w (rows.take k) a2 cap := by
  have hc := h.1
  have hrun : ∀ W : World, (Instr.sliceAt 36 (.slice a rows.length cap) none (some (.int .i64 k)) none).run Tryz.prog W = .ok (sliced a 0 k cap 1) W := fun W => by
    have ht : Tryz.prog.underlying 36 = some (.slice (Tryz.prog.elem 36)) := by kernel_rfl
    rw [run_sliceAt_slice (h := ht), run_slice_h (ht := ht) (h0 := by omega) (h2 := by omega)]
    have hs : (Go.sizeOf (Tryz.prog.elem 36)).run Tryz.prog W = .ok 1 W := by kernel_rfl
    rw [hs]
    simp [Result.andThen]
  refine ⟨if cap = 0 then a else a.map (·.add (0 * 1)), fun W => ?_, ?_⟩
  · rw [hrun W]
    simp [sliced]
  · have hl : (rows.take k).length = k := by rw [List.length_take]; omega
    refine ⟨by omega, by have := h.2.1; omega, ?_⟩
    rw [hl]
    by_cases h0 : k = 0
    · exact Or.inl h0
    · obtain ⟨b, off, ha⟩ := (SliceIn.addr h).resolve_left (by omega)
      have h2 := (h.2.2.resolve_left (by omega))
      obtain ⟨b', off', ha', hq⟩ := h2
      subst ha'
      refine Or.inr ⟨b', off', ?_, fun i hi => ?_⟩
      · rw [if_neg (by omega)]
        simp [Addr.add]
      · obtain ⟨v, hv, hQ⟩ := hq i (by omega)
        exact ⟨v, by rw [List.getElem?_take_of_lt hi]; exact hv, hQ⟩
theorem rows_zeroF {w : World} {b k : Nat} (u : Value) (h : w.cell? ⟨b, k, none⟩ = some (.slice none 0 0)) {l : List (List Int)} {a : Option Addr} {c : Nat} (hF : ∀ p : Addr, a = some p → p.block ≠ b) (hI : RowsD w l a c) : RowsD (w.setCell ⟨b, k, none⟩ u) l a c := by
  refine ⟨hI.1, hI.2.1, hI.2.2.imp id ?_⟩
  rintro ⟨b', o', ha, hq⟩
  refine ⟨b', o', ha, fun i hi => ?_⟩
  obtain ⟨v, hv, a', c', h1, h2⟩ := hq i hi
  have hne := hF _ ha
  refine ⟨v, hv, a', c', ?_, ints_zero u h h2⟩
  rw [World.cell?_setCell_other _ _ _ _ (by intro e; exact hne (congrArg Addr.block e).symm)]
  exact h1
theorem wave_genF {X w : World} {b : Nat} (hX : X.heap[b]? = some zWave) {l : List (List Int)} {aR : Option Addr} {cR : Nat} (hF : ∀ p : Addr, aR = some p → p.block ≠ b) (hI : RowsD X l aR cR) (hB : Below w.heap.size w X) (hb : w.heap.size ≤ b) {u : Value} {m : Nat} {Q : World → Prop}
    (k : ∀ W, W.cell? ⟨b, 1, none⟩ = some (.slice aR m cR) → Hid (RowsD W l aR cR) → Hid (Below w.heap.size w W) → w.heap.size ≤ W.heap.size → b < W.heap.size → Q W) : Q ((X.setCell ⟨b, 0, none⟩ u).setCell ⟨b, 1, none⟩ (.slice aR m cR)) := by
  obtain ⟨h1, _⟩ := wave_tail hX (l := []) (by simp) (aR := aR) (cR := cR) ⟨Nat.zero_le _, by simp, Or.inl rfl⟩ u m
  have c0 : X.cell? ⟨b, 0, none⟩ = some (.slice none 0 0) := by simp [World.cell?, hX, zWave]
  have c1 : X.cell? ⟨b, 1, none⟩ = some (.slice none 0 0) := by simp [World.cell?, hX, zWave]
  have c1' : (X.setCell ⟨b, 0, none⟩ u).cell? ⟨b, 1, none⟩ = some (.slice none 0 0) := by
    rw [World.cell?_setCell_other _ _ _ _ (by intro e; injection e; omega)]; exact c1
  have h3 : Below w.heap.size w ((X.setCell ⟨b, 0, none⟩ u).setCell ⟨b, 1, none⟩ (.slice aR m cR)) := (hB.setCell hb _).setCell hb _
  exact k _ h1 (rows_zeroF _ c1' hF (rows_zeroF _ c0 hF hI)) h3 h3.size (by rw [World.size_setCell, World.size_setCell]; exact lt_of_block hX)
theorem sigs_at {w : World} {l : Sigs} {a : Option Addr} {cap : Nat} (h : SigsIn w l a cap) {b off : Nat} (ha : a = some ⟨b, off, none⟩) {i : Nat} (hi : i < l.length) : w.cell? ⟨b, off + i * 2, none⟩ = some (.string (l[i]'hi).1) ∧ w.cell? ⟨b, off + i * 2 + 1, none⟩ = some (.int .i64 (l[i]'hi).2) := by
  rcases h.2.2 with h | ⟨b', off', ha', hq⟩
  · omega
  · rw [ha] at ha'
    simp only [Option.some.injEq, Addr.mk.injEq, and_true] at ha'
    obtain ⟨rfl, rfl⟩ := ha'
    obtain ⟨e', he', hp⟩ := hq i hi
    rw [List.getElem?_eq_getElem hi] at he'
    obtain rfl := Option.some.inj he'
    exact hp
/-- the signals of cycle t -/
noncomputable def sgN (d : DesD) (rows : List Sigs) (t : Nat) : Sigs := settleS d (stN d rows t) (rows.getD t [])
theorem sgN_len {d : DesD} (rows : List Sigs) (t : Nat) : (sgN d rows t).length = d.names.length := settle_len _ (stN_len rows t)
theorem rowN_eq (d : DesD) (rows : List Sigs) (t : Nat) : rowN d rows t = (sgN d rows t).map (·.2) := rfl
theorem rowsN_get {d : DesD} {rows : List Sigs} {t : Nat} (h : t < (rowsN d rows).length) : (rowsN d rows)[t]'h = rowN d rows t := by simp [rowsN]
theorem rowsN_take {d : DesD} {rows : List Sigs} {k t : Nat} (h : t < (rowsN d (rows.take k)).length) (hk : k ≤ rows.length) : (rowsN d (rows.take k))[t]'h = rowN d rows t := by
  have hl : (rowsN d (rows.take k)).length = k := by simp [rowsN]; omega
  rw [rowsN_get]
  exact rowN_take2 d rows k t (by omega)
set_option maxRecDepth 100000 in
set_option maxHeartbeats 16000000 in
theorem SimComposes_any (d : DesD) (x : DesA) (rows : List Sigs) (aI : Option Addr) (cI : Nat) (at_ : Nat) (w : World) (hE : DesIn w d x) (hs : DesSmall d) (hI : SigRows w rows aI cI) (hG : Glob w) (hat : at_ ≤ 255) :
    Calls Tryz.prog 7 #[desVal d x, .slice aI rows.length cI, .int .u8 at_] w fun e w' => e = .returned (.bool true) ∧ Below w.heap.size w w' := by
  have HFw0 := Lib.hid (fun W (hW : Below w.heap.size w W) => Few32_any d x W (hE.below hW))
  have HBr0 := Lib.hid (fun W (hW : Below w.heap.size w W) => Brief_any rows aI cI W (hI.keep (keeps_of_below hW)))
  unfold FewPost at HFw0 HBr0
  have HA0 := Lib.hid (fun W (hW : Below w.heap.size w W) => (Run_any d x rows aI cI W (hE.below hW) hs (hI.keep (keeps_of_below hW)) (hG.below hW)).mono fun _ _ h => h.out)
  have HAw := Lib.hid (fun W (hW : Below w.heap.size w W) => awake32_any W (hG.below hW))
  have HEr : Hid (¬ rErr d rows.length = 0 → (rRows d rows).length = 0) := fun h => by rw [show rRows d rows = [] from if_neg h]; rfl
  have HE := Lib.hid hE
  have HSm := Lib.hid hs
  have HG := Lib.hid hG
  have HI := Lib.hid hI
  have hnl := hI.2.1
  generalize FewD d = Fd at HFw0
  clear hE hs hG hI
  simp only [desVal, desVals] at HFw0 HA0 ⊢
  have HFw := Lib.hid (HFw0.out (w.alloc (.cells #[.string d.name, .slice x.ai d.inputs.length x.ci, .slice x.aw d.wires.length x.cw, .slice x.ar d.regs.length x.cr, .slice x.ao d.outputs.length x.co] 27)) ((Below.refl _ _).alloc (Nat.le_refl _) _))
  clear HFw0
  go_enter Tryz.func7, Tryz.ntmps7
  go_wp2_with fail
  refine HFw.out.mono ?_
  rintro e w1 ⟨⟨b, rfl, _⟩, hb1⟩
  simp only [World.size_alloc] at hb1
  have HB1 := Lib.hid hb1
  have hz1 := hb1.size
  simp only [World.size_alloc] at hz1
  clear hb1
  cases b
  · go_wp2_with fail
    (refine (HAw.out w1 (boxW _ HB1.out)).mono ?_; rintro e wz ⟨rfl, hbz⟩; have HBz : Hid (Below w.heap.size w wz) := (boxW _ HB1.out).trans (hbz.mono (boxW _ HB1.out).size); clear hbz; go_wp2_with fail; go_ret; exact ⟨rfl, HBz.out⟩)
  go_wp2_with fail
  refine (HBr0.out w1 (boxW _ HB1.out)).mono ?_
  rintro e w2 ⟨⟨b, rfl, hbf⟩, hb2⟩
  have HB2 := Lib.hid (HB1.out.trans (hb2.mono hz1))
  have hz2 := HB2.out.size
  simp only [World.size_alloc] at hz2
  clear hb2
  cases b
  · clear hbf
    go_wp2_with fail
    (refine (HAw.out w2 (boxW _ HB2.out)).mono ?_; rintro e wz ⟨rfl, hbz⟩; have HBz : Hid (Below w.heap.size w wz) := (boxW _ HB2.out).trans (hbz.mono (boxW _ HB2.out).size); clear hbz; go_wp2_with fail; go_ret; exact ⟨rfl, HBz.out⟩)
  have hn30 : rows.length ≤ 30 := (hbf rfl).1
  clear hbf
  ((try clear b0 b1 b2 b3 b4); have b0 := box_cell HB2.out 0; have b1 := box_cell HB2.out 1; have b2 := box_cell HB2.out 2; have b3 := box_cell HB2.out 3; have b4 := box_cell HB2.out 4; (try simp at b0 b1 b2 b3 b4))
  go_wp2_with fail
  refine (HA0.out w2 (boxW _ HB2.out)).mono ?_
  rintro e w3 ⟨aN1, cN1, aR1, cR1, rfl, _, hR1, hb3⟩
  have HB3 := Lib.hid (HB2.out.trans (hb3.mono hz2))
  have hz3 := HB3.out.size
  simp only [World.size_alloc] at hz3
  have HR1 := Lib.hid hR1
  clear hb3 hR1
  by_cases he : rErr d rows.length = 0
  rotate_left
  · have hr0 := HEr.out he
    have hne : (rErr d rows.length != 0) = true := by simpa using he
    ((try clear b0 b1 b2 b3 b4); have b0 := fun o => box_cell (Below.alloc HB3.out hz3 o) 0; have b1 := fun o => box_cell (Below.alloc HB3.out hz3 o) 1; have b2 := fun o => box_cell (Below.alloc HB3.out hz3 o) 2; have b3 := fun o => box_cell (Below.alloc HB3.out hz3 o) 3; have b4 := fun o => box_cell (Below.alloc HB3.out hz3 o) 4; (try simp at b0 b1 b2 b3 b4))
    rw [hr0]
    generalize rErr d rows.length = er at hne
    clear he hr0 HR1 HEr HA0
    go_wp2_with fail
    (refine (HAw.out _ (((boxW _ HB3.out).alloc (boxW _ HB3.out).size _))).mono ?_; rintro e wz ⟨rfl, hbz⟩; have HBz : Hid (Below w.heap.size w wz) := (((boxW _ HB3.out).alloc (boxW _ HB3.out).size _)).trans (hbz.mono (((boxW _ HB3.out).alloc (boxW _ HB3.out).size _)).size); clear hbz; go_wp2_with fail; go_ret; exact ⟨rfl, HBz.out⟩)
  obtain ⟨hd0, _⟩ := rErr_zero.1 he
  have hrr : rRows d rows = rowsN d rows := if_pos he
  rw [hrr] at HR1 ⊢
  rw [rowsN_len, he]
  have hrn : (rNames d rows.length).length = d.names.length := by rw [show rNames d rows.length = d.names from if_pos he]
  rw [hrn]
  clear he hrr hrn HEr HA0 b0 b1 b2 b3 b4
  obtain ⟨k, hk, hq⟩ : ∃ k : Nat, k ≤ rows.length ∧ ((at_ : Int) % ((rows.length : Int) + 1)) = (k : Int) := ⟨at_ % (rows.length + 1), by have := Nat.mod_lt at_ (show 0 < rows.length + 1 by omega); omega, by rw [Int.natCast_emod, Int.natCast_add]; rfl⟩
  have hn0 : ¬ ((rows.length : Int) + 1) = 0 := by omega
  obtain ⟨a2, hsl, hI2⟩ := slice_to HI.out k hk
  have HI2 := Lib.hid hI2
  have hkl : (rows.take k).length = k := by rw [List.length_take]; omega
  have HT1 : Hid (∀ W0 W, Below w.heap.size w W0 → Below W0.heap.size W0 W → Calls Tryz.prog 17 #[desVal d x, .slice a2 k cI] W fun e w' => (∃ aN cN aR cR, e = .returned (.tuple #[.agg #[.slice aN d.names.length cN, .slice aR k cR], .int .i64 0]) ∧ RowsD w' (rowsN d (rows.take k)) aR cR ∧ ∀ p : Addr, aR = some p → W.heap.size ≤ p.block) ∧ Below W.heap.size W w' ∧ Below W0.heap.size W0 w') := fun W0 W hW0 hW => by
    have hWw := hW0.trans (hW.mono hW0.size)
    have h0 := Run_fresh d x (rows.take k) a2 cI W (HE.out.below hWw) HSm.out (HI2.out.keep (keeps_of_below hWw)) (HG.out.below hWw)
    rw [hkl] at h0
    refine h0.mono fun e w' h => ?_
    obtain ⟨⟨⟨_, h1, aN, cN, aR, cR, h2, _, h4⟩ | ⟨h1, _⟩ | ⟨_, h1, _⟩, h3⟩, hF⟩ := h
    · rw [hkl] at h2
      exact ⟨⟨aN, cN, aR, cR, h2, h4, hF aN _ cN aR _ cR _ h2⟩, h3, hW.trans (h3.mono hW.size)⟩
    · exact absurd hd0 h1
    · rw [hkl] at h1; omega
  have HRs : Hid (∀ W, Below w.heap.size w W → Calls Tryz.prog 12 #[desVal d x] W fun e w' => (∃ a c, e = .returned (.tuple #[.slice a d.regs.length c, .int .i64 0]) ∧ IntsIn w' (stN d rows 0) a c) ∧ Below W.heap.size W w') := fun W hW => (Reset_any d x W (HE.out.below hW) HSm.out (HG.out.below hW)).mono fun e w' h => by
    obtain ⟨⟨_, a, c, h1, h2⟩ | ⟨h1, _⟩, h3⟩ := h
    · exact ⟨⟨a, c, by rw [h1]; simp [DesD.inits], h2⟩, h3⟩
    · exact absurd hd0 h1
  have HSp : Hid (∀ t, ∀ inp al cl a c W, Below w.heap.size w W → IntsIn W (stN d rows t) al cl → SigsIn W inp a c → inp = rows.getD t [] → Calls Tryz.prog 26 #[desVal d x, .slice al d.regs.length cl, .slice a inp.length c] W fun e w' => (∃ a1 c1 a2 c2, e = .returned (.tuple #[.slice a1 d.regs.length c1, .slice a2 (sgN d rows t).length c2, .int .i64 0]) ∧ IntsIn w' (stN d rows (t + 1)) a1 c1 ∧ SigsIn w' (sgN d rows t) a2 c2) ∧ Below W.heap.size W w') := fun t inp al cl a c W hW hL hS hinp => by
    have h0 := Step_any d x (stN d rows t) al cl inp a c W (HE.out.below hW) HSm.out hL hS (HG.out.below hW)
    rw [stN_len] at h0
    refine h0.mono fun e w' h => ?_
    obtain ⟨⟨_, _, a1, c1, a2, c2, h1, h2, h4⟩ | ⟨h1, _⟩ | ⟨_, h1, _⟩, h3⟩ := h
    · subst hinp
      exact ⟨⟨a1, c1, a2, c2, by rw [h1]; simp [nextS, sgN], h2, h4⟩, h3⟩
    · exact absurd hd0 h1
    · rw [stN_state (desOk_of_err hd0)] at h1; simp at h1
  simp only [desVal, desVals] at HT1 HRs HSp
  have HB4 := Lib.hid (HB3.out.alloc hz3 (.cells #[.slice aN1 d.names.length cN1, .slice aR1 rows.length cR1] 40))
  have HR4 := Lib.hid (HR1.out.keep (keeps_of_below ((Below.refl w3.heap.size w3).alloc (Nat.le_refl _) (.cells #[.slice aN1 d.names.length cN1, .slice aR1 rows.length cR1] 40))))
  have hw7 : (w3.alloc (.cells #[.slice aN1 d.names.length cN1, .slice aR1 rows.length cR1] 40)).heap[w3.heap.size]? = some (.cells #[.slice aN1 d.names.length cN1, .slice aR1 rows.length cR1] 40 (0, 0)) := hh_new rfl
  ((try clear b0 b1 b2 b3 b4); have b0 := fun o => box_cell (Below.alloc HB3.out hz3 o) 0; have b1 := fun o => box_cell (Below.alloc HB3.out hz3 o) 1; have b2 := fun o => box_cell (Below.alloc HB3.out hz3 o) 2; have b3 := fun o => box_cell (Below.alloc HB3.out hz3 o) 3; have b4 := fun o => box_cell (Below.alloc HB3.out hz3 o) 4; (try simp at b0 b1 b2 b3 b4))
  go_upto_region 7 with fail
  rw [hq]
  generalize w3.alloc (.cells #[.slice aN1 d.names.length cN1, .slice aR1 rows.length cR1] 40) = W4 at HB4 HR4 hw7 ⊢
  have c7 := cell_of_blk hw7 1
  simp at c7
  have hb7 := lt_of_block hw7
  have hz4 := HB4.out.size
  simp only [World.size_alloc] at hz4
  clear b0 b1 b2 b3 b4 hw7 hq hn0 HR1 hd0 hat hI2
  have HALL : Hid (∀ w', Below W4.heap.size W4 w' → w'.cell? ⟨w.heap.size, 0, none⟩ = some (.string d.name) ∧ w'.cell? ⟨w.heap.size, 1, none⟩ = some (.slice x.ai d.inputs.length x.ci) ∧ w'.cell? ⟨w.heap.size, 2, none⟩ = some (.slice x.aw d.wires.length x.cw) ∧ w'.cell? ⟨w.heap.size, 3, none⟩ = some (.slice x.ar d.regs.length x.cr) ∧ w'.cell? ⟨w.heap.size, 4, none⟩ = some (.slice x.ao d.outputs.length x.co)) := fun w' h => by
    have hb := HB4.out.trans (h.mono hz4)
    have b0 := box_cell hb 0
    have b1 := box_cell hb 1
    have b2 := box_cell hb 2
    have b3 := box_cell hb 3
    have b4 := box_cell hb 4
    simp at b0 b1 b2 b3 b4
    exact ⟨b0, b1, b2, b3, b4⟩
  have HT5 := Lib.hid (fun W => HT1.out W4 W (boxW _ HB4.out))
  have hB4 : Below W4.heap.size W4 W4 := Below.refl _ _
  go_region_held3 (fun w' => Below W4.heap.size W4 w' ∧ w'.cell? ⟨w.heap.size, 0, none⟩ = some (.string d.name) ∧ w'.cell? ⟨w.heap.size, 1, none⟩ = some (.slice x.ai d.inputs.length x.ci) ∧ w'.cell? ⟨w.heap.size, 2, none⟩ = some (.slice x.aw d.wires.length x.cw) ∧ w'.cell? ⟨w.heap.size, 3, none⟩ = some (.slice x.ar d.regs.length x.cr) ∧ w'.cell? ⟨w.heap.size, 4, none⟩ = some (.slice x.ao d.outputs.length x.co))
    (((refine (fun h => ⟨h, HALL.out _ h⟩) ?_; first | assumption | exact (by repeat (first | assumption | exact Below.refl _ _ | refine Below.drew ?_ | refine below_drewN ?_ _ | refine Below.alloc ?_ (by first | omega | (simp only [World.size_alloc, World.size_setCell, World.size_drew, World.heap_drewN] <;> omega) | (simp <;> omega)) _ | refine Below.setCell ?_ (by first | omega | (simp only [World.size_alloc, World.size_setCell, World.size_drew, World.heap_drewN] <;> omega) | (simp <;> omega)) _)))))
    ((go_at_call 17; (with_reducible refine (HT5.out _ ?hin).mono ?_); (case hin => (first | assumption | exact And.left (by assumption))); rintro r w6 ⟨⟨aN, cN, aR, cR, rfl, hR6, hF6⟩, hb6, hb6w⟩; (have HR6 := Lib.hid hR6); (have HF6 := Lib.hid hF6); (have hz6 := hb6.size); (have hz6w := hb6w.size); (try simp only [World.size_alloc, World.size_drew] at hz6); (try (refine cutp (p := w6.heap[W4.heap.size]? = some zWave) ?pr (fun h6 => ?_); (case pr => (unfold zWave; with_reducible refine hh_below hb6 ?_; (iterate 5 (first | done | assumption | (with_reducible refine hh_new ?_; first | rfl | (simp only [World.size_alloc, World.size_drew]; done) | omega) | with_reducible refine hh_old ?_ | with_reducible refine hh_drew ?_)))); (have HX6 := Lib.hid h6); (obtain ⟨g0, g1, q0, q1⟩ := wave_cells h6); clear h6)); (have HB6 := Lib.hid hb6w); clear hR6 hb6 hF6))
  all_goals
    first
    | (refine wave_genF (w := W4) (Q := fun W => Exit.then _ _ Exit.normal _ W) HX6.out (l := rowsN d (rows.take k)) (fun p hp => by have := HF6.out p hp; simp only [World.size_drew, World.size_alloc] at this; omega) HR6.out HB6.out (by omega) ?_)
    | (refine wave_gen2 (w := W4) (Q := fun W => Exit.then _ _ Exit.normal _ W) (X := w6) HR6.out HB6.out ?_)
  all_goals
    intro W7 hc10 hR7 hK7 hz7 hb10
    have HB7 := Lib.hid (HB4.out.trans (hK7.out.mono hz4))
    have hc7 := (keeps_of_below hK7.out) _ _ c7
    have HR17 := Lib.hid (HR4.out.keep (keeps_of_below hK7.out))
    have hzw7 := HB7.out.size
    simp only [World.size_alloc] at hzw7
    (try clear HX6 g0 g1 q0 q1)
    clear hB4 c7 HR4 HALL HT5 HF6 HR6 HB6 hK7
    ((try clear b0 b1 b2 b3 b4); have b0 := box_cell HB7.out 0; have b1 := box_cell HB7.out 1; have b2 := box_cell HB7.out 2; have b3 := box_cell HB7.out 3; have b4 := box_cell HB7.out 4; (try simp at b0 b1 b2 b3 b4))
    go_wp2_with fail
    refine (HRs.out W7 (boxW _ HB7.out)).mono ?_
    rintro e w8 ⟨⟨aS, cS, rfl, hS8⟩, hb8⟩
    have HB8 := Lib.hid (HB7.out.trans (hb8.mono hzw7))
    have hz8 := HB8.out.size
    simp only [World.size_alloc] at hz8
    have e7 := (keeps_of_below hb8) _ _ hc7
    have e10 := (keeps_of_below hb8) _ _ hc10
    have HR18 := Lib.hid (HR17.out.keep (keeps_of_below hb8))
    have HR28 := Lib.hid (hR7.out.keep (keeps_of_below hb8))
    have HS8 := Lib.hid hS8
    clear hS8 hb8 hc7 hc10 hR7 HR17 b0 b1 b2 b3 b4
    go_wp2_with fail
    go_loopw [14, 12] (fun i v wr => ∃ (t : Nat) (a : Option Addr) (c : Nat), i = .int .i64 t ∧ v = .slice a d.regs.length c ∧ t ≤ rows.length ∧ Hid (IntsIn wr (stN d rows t) a c) ∧ Hid (Below w8.heap.size w8 wr)) (fun i _ _ => rows.length - (intOf i).toNat)
    case atStart => exact ⟨0, aS, cS, rfl, rfl, Nat.zero_le _, HS8, Below.refl _ _⟩
    case round =>
      obtain ⟨t, a, c, rfl, rfl, ht, HL, HBr⟩ := hrel
      have HBx := Lib.hid (HB8.out.trans (HBr.out.mono hz8))
      have hzx := HBx.out.size
      simp only [World.size_alloc] at hzx
      by_cases hlt : t < rows.length
      · obtain ⟨bI, oI, haI⟩ := (SliceIn.addr HI.out).resolve_left (by omega)
        subst haI
        obtain ⟨aT, cT, i0, hST⟩ := (HI.out.keep (keeps_of_below (boxW _ HBx.out))).get rfl hlt
        obtain ⟨bR, oR, haR⟩ := (SliceIn.addr HR18.out).resolve_left (by rw [rowsN_len]; omega)
        have hlt2 : t < (rowsN d rows).length := by rw [rowsN_len]; exact hlt
        obtain ⟨aW, cW, r0, hIW⟩ := (HR18.out.keep (keeps_of_below HBr.out)).get haR hlt2
        rw [rowsN_get, rowN_eq] at r0 hIW
        subst haR
        have HSt := Lib.hid (fun W (hW : Below wr.heap.size wr W) => (HSp.out t (rows[t]'hlt) a c aT cT W ((boxW _ HBx.out).trans (hW.mono (boxW _ HBx.out).size)) (HL.out.keep (keeps_of_below hW)) (hST.keep (keeps_of_below hW)) (by simp [List.getD_eq_getElem?_getD, hlt])).mono fun e w' h => (⟨h.1, h.2, hW.trans (h.2.mono hW.size)⟩ : _ ∧ Below W.heap.size W w' ∧ Below wr.heap.size wr w'))
        have HALL : Hid (∀ w', Below wr.heap.size wr w' → w'.cell? ⟨w.heap.size, 0, none⟩ = some (.string d.name) ∧ w'.cell? ⟨w.heap.size, 1, none⟩ = some (.slice x.ai d.inputs.length x.ci) ∧ w'.cell? ⟨w.heap.size, 2, none⟩ = some (.slice x.aw d.wires.length x.cw) ∧ w'.cell? ⟨w.heap.size, 3, none⟩ = some (.slice x.ar d.regs.length x.cr) ∧ w'.cell? ⟨w.heap.size, 4, none⟩ = some (.slice x.ao d.outputs.length x.co) ∧ w'.cell? ⟨bI, oI + t, none⟩ = some (.slice aT (rows[t]'hlt).length cT)) := fun w' h => by
          have hb := HBx.out.trans (h.mono hzx)
          have b0 := box_cell hb 0
          have b1 := box_cell hb 1
          have b2 := box_cell hb 2
          have b3 := box_cell hb 3
          have b4 := box_cell hb 4
          simp at b0 b1 b2 b3 b4
          exact ⟨b0, b1, b2, b3, b4, (keeps_of_below h) _ _ i0⟩
        have hBw : Below wr.heap.size wr wr := Below.refl _ _
        have hIW' := Lib.hid hIW
        have hlti : (t : Int) < (rows.length : Int) := by omega
        clear hST hIW
        generalize (rows[t]'hlt).length = rl at HSt HALL i0
        go_wp2_with fail
        go_region_held3 (fun w' => Below wr.heap.size wr w' ∧ w'.cell? ⟨w.heap.size, 0, none⟩ = some (.string d.name) ∧ w'.cell? ⟨w.heap.size, 1, none⟩ = some (.slice x.ai d.inputs.length x.ci) ∧ w'.cell? ⟨w.heap.size, 2, none⟩ = some (.slice x.aw d.wires.length x.cw) ∧ w'.cell? ⟨w.heap.size, 3, none⟩ = some (.slice x.ar d.regs.length x.cr) ∧ w'.cell? ⟨w.heap.size, 4, none⟩ = some (.slice x.ao d.outputs.length x.co) ∧ w'.cell? ⟨bI, oI + t, none⟩ = some (.slice aT rl cT))
          (((refine (fun h => ⟨h, HALL.out _ h⟩) ?_; first | assumption | exact (by repeat (first | assumption | exact Below.refl _ _ | refine Below.drew ?_ | refine below_drewN ?_ _ | refine Below.alloc ?_ (by first | omega | (simp only [World.size_alloc, World.size_setCell, World.size_drew, World.heap_drewN] <;> omega) | (simp <;> omega)) _ | refine Below.setCell ?_ (by first | omega | (simp only [World.size_alloc, World.size_setCell, World.size_drew, World.heap_drewN] <;> omega) | (simp <;> omega)) _)))))
          ((go_at_call 26; (with_reducible refine (HSt.out _ ?hin).mono ?_); (case hin => (first | assumption | exact And.left (by assumption))); rintro r w9 ⟨⟨a1, c1, a2, c2, rfl, hN9, hS9⟩, hb9, hb9w⟩; (have HN9 := Lib.hid hN9); (have HS9 := Lib.hid hS9); (have HB9 := Lib.hid hb9w); clear hN9 hS9 hb9))
        have HBr9 : Hid (Below w8.heap.size w8 w9) := HBr.out.trans (HB9.out.mono HBr.out.size)
        have E7 := (keeps_of_below HBr9.out) _ _ e7
        have E8 := (keeps_of_below HB9.out) _ _ r0
        have HW9 := Lib.hid (hIW'.out.keep (keeps_of_below HB9.out))
        rw [List.length_map] at E8
        have hsb : (sgN d rows t).length ≤ 1073741824 := HS9.out.2.1
        have hss : (((sgN d rows t).length : Int) != ((sgN d rows t).length : Int)) = false := by simp
        clear hBw HALL HSt i0 r0
        by_cases htk : t < k
        · have d0 : decide ((t : Int) < (k : Int)) = true := by simp; exact htk
          have htk2 : t < (rowsN d (rows.take k)).length := by rw [rowsN_len, hkl]; exact htk
          obtain ⟨bR2, oR2, haR2⟩ := (SliceIn.addr HR28.out).resolve_left (by omega)
          obtain ⟨aP, cP, p0, hIP⟩ := (HR28.out.keep (keeps_of_below HBr9.out)).get haR2 htk2
          rw [rowsN_take htk2 hk, rowN_eq] at p0 hIP
          rw [List.length_map] at p0
          have E10 := (keeps_of_below HBr9.out) _ _ e10
          subst haR2
          have HP9 := Lib.hid hIP
          have E11 := p0
          have hkci := HR28.out.1
          rw [rowsN_len, hkl] at hkci
          have hrci := HR18.out.1
          rw [rowsN_len] at hrci
          have htki : (t : Int) < (k : Int) := by omega
          clear hIP p0
          go_wp2_with fail
          go_loopw [18] (fun j wq => ∃ m : Nat, j = .int .i64 m ∧ m ≤ (sgN d rows t).length ∧ Hid (Below w9.heap.size w9 wq)) (fun j _ => (sgN d rows t).length - (intOf j).toNat)
          case atStart => exact ⟨0, rfl, Nat.zero_le _, Below.refl _ _⟩
          case round =>
            obtain ⟨m, rfl, hm, HBq⟩ := hrel
            have f7 := (keeps_of_below HBq.out) _ _ E7
            have f8 := (keeps_of_below HBq.out) _ _ E8
            have f10 := (keeps_of_below HBq.out) _ _ E10
            have f11 := (keeps_of_below HBq.out) _ _ E11
            by_cases hm2 : m < (sgN d rows t).length
            · obtain ⟨bG, oG, haG⟩ := (SliceIn.addr HS9.out).resolve_left (by omega)
              obtain ⟨_, v0⟩ := sigs_at (HS9.out.keep (keeps_of_below HBq.out)) haG hm2
              subst haG
              obtain ⟨bW, oW, haW⟩ := (SliceIn.addr HW9.out).resolve_left (by rw [List.length_map]; omega)
              have v1 := intsIn_get (HW9.out.keep (keeps_of_below HBq.out)) haW (show m < (List.map (·.2) (sgN d rows t)).length by rw [List.length_map]; exact hm2)
              subst haW
              obtain ⟨bP, oP, haP⟩ := (SliceIn.addr HP9.out).resolve_left (by rw [List.length_map]; omega)
              have v2 := intsIn_get (HP9.out.keep (keeps_of_below HBq.out)) haP (show m < (List.map (·.2) (sgN d rows t)).length by rw [List.length_map]; exact hm2)
              subst haP
              simp only [List.getElem_map] at v1 v2
              have hmi : (m : Int) < ((sgN d rows t).length : Int) := by omega
              generalize ((sgN d rows t)[m]'hm2).2 = v at v0 v1 v2
              have hvv : (v != v) = false := by simp
              go_wp2_with fail
              go_quiet (fail)
              go_wp2_with fail
              go_roundw
              case rel => exact ⟨m + 1, by go_num, by omega, below_drewN HBq.out _⟩
              case measure => (simp [intOf]; try omega)
            · obtain rfl : m = (sgN d rows t).length := by omega
              have HN10 := Lib.hid (HN9.out.keep (keeps_of_below HBq.out))
              have HB10 : Hid (Below w8.heap.size w8 wr) := HBr9.out.trans (HBq.out.mono HBr9.out.size)
              go_wp2_with fail
              go_roundw
              case rel => exact ⟨t + 1, a1, c1, by go_num, rfl, by omega, HN10, HB10⟩
              case measure => (simp [intOf]; try omega)
        · have d0 : decide ((t : Int) < (k : Int)) = false := by simp; omega
          have hrci := HR18.out.1
          rw [rowsN_len] at hrci
          go_wp2_with fail
          go_loopw [18] (fun j wq => ∃ m : Nat, j = .int .i64 m ∧ m ≤ (sgN d rows t).length ∧ Hid (Below w9.heap.size w9 wq)) (fun j _ => (sgN d rows t).length - (intOf j).toNat)
          case atStart => exact ⟨0, rfl, Nat.zero_le _, Below.refl _ _⟩
          case round =>
            obtain ⟨m, rfl, hm, HBq⟩ := hrel
            have f7 := (keeps_of_below HBq.out) _ _ E7
            have f8 := (keeps_of_below HBq.out) _ _ E8
            by_cases hm2 : m < (sgN d rows t).length
            · obtain ⟨bG, oG, haG⟩ := (SliceIn.addr HS9.out).resolve_left (by omega)
              obtain ⟨_, v0⟩ := sigs_at (HS9.out.keep (keeps_of_below HBq.out)) haG hm2
              subst haG
              obtain ⟨bW, oW, haW⟩ := (SliceIn.addr HW9.out).resolve_left (by rw [List.length_map]; omega)
              have v1 := intsIn_get (HW9.out.keep (keeps_of_below HBq.out)) haW (show m < (List.map (·.2) (sgN d rows t)).length by rw [List.length_map]; exact hm2)
              subst haW
              simp only [List.getElem_map] at v1
              have hmi : (m : Int) < ((sgN d rows t).length : Int) := by omega
              generalize ((sgN d rows t)[m]'hm2).2 = v at v0 v1
              have hvv : (v != v) = false := by simp
              go_wp2_with fail
              go_quiet (fail)
              go_wp2_with fail
              go_roundw
              case rel => exact ⟨m + 1, by go_num, by omega, below_drewN HBq.out _⟩
              case measure => (simp [intOf]; try omega)
            · obtain rfl : m = (sgN d rows t).length := by omega
              have HN10 := Lib.hid (HN9.out.keep (keeps_of_below HBq.out))
              have HB10 : Hid (Below w8.heap.size w8 wr) := HBr9.out.trans (HBq.out.mono HBr9.out.size)
              go_wp2_with fail
              go_roundw
              case rel => exact ⟨t + 1, a1, c1, by go_num, rfl, by omega, HN10, HB10⟩
              case measure => (simp [intOf]; try omega)
      · obtain rfl : t = rows.length := by omega
        go_wp2_with fail
        (refine (HAw.out wr (boxW _ HBx.out)).mono ?_; rintro e wz ⟨rfl, hbz⟩; have HBz : Hid (Below w.heap.size w wz) := (boxW _ HBx.out).trans (hbz.mono (boxW _ HBx.out).size); clear hbz; go_wp2_with fail; go_ret; exact ⟨rfl, HBz.out⟩)
end Go.Proofs.YteaeemkodbodmaaGreatDoor
