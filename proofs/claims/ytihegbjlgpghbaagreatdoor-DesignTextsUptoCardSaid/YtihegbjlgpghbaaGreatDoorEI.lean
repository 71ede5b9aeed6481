/- design.Cone. -/
import Derived.Test.YtihegbjlgpghbaaGreatDoorEG
import Derived.Test.YtihegbjlgpghbaaGreatDoorEH
import Derived.Test.YtihegbjlgpghbaaGreatDoorDJ
import Derived.Test.YtihegbjlgpghbaaGreatDoorDE
import Derived.Test.YtihegbjlgpghbaaGreatDoorEA
import Derived.Test.YtihegbjlgpghbaaGreatDoorEB
import Derived.Test.YtihegbjlgpghbaaGreatDoorEE
set_option linter.unusedSimpArgs false
set_option linter.unusedVariables false
set_option linter.unnecessarySimpa false
namespace Go.Proofs.YtihegbjlgpghbaaGreatDoor
open Go.RowKit
attribute [local go_sem ↓] Go.wp_at_zero Go.wp_at_succ

/-- the map of the first wires -/
def WirK (d : DesD) (B : Nat) (w0 : World) (k : Nat) (F : Lit → Option Value) : Prop :=
  (∀ s : ByteArray, (∀ q (hq : q < d.wires.length), q < k → (d.wires[q]'hq).name ≠ s) → F (.string s.data.toList) = none) ∧
  ∀ q (hq : q < d.wires.length), q < k → ∃ a c, F (.string (d.wires[q]'hq).name.data.toList) = some (.agg #[.int .i64 (d.wires[q]'hq).expr.op, .int .i64 (d.wires[q]'hq).expr.n, .string (d.wires[q]'hq).expr.name, .slice a (d.wires[q]'hq).expr.args.length c]) ∧ ∀ W, Below B w0 W → ExIn W (d.wires[q]'hq).expr a c
theorem WirK.nil (d : DesD) (B : Nat) (w0 : World) : WirK d B w0 0 (fun _ => none) := ⟨fun _ _ => rfl, fun q _ h => absurd h (by omega)⟩
theorem lit_inj {s t : ByteArray} (h : Lit.string s.data.toList = Lit.string t.data.toList) : s = t := by
  injection h with h
  exact ByteArray.ext (Array.ext' h)
theorem WirK.put {d : DesD} {B : Nat} {w0 : World} {k : Nat} {F : Lit → Option Value} (h : WirK d B w0 k F) (hk : k < d.wires.length) (hd : ∀ q (hq : q < d.wires.length), q < k → (d.wires[q]'hq).name ≠ (d.wires[k]'hk).name) {a : Option Addr} {c : Nat}
    (hX : ∀ W, Below B w0 W → ExIn W (d.wires[k]'hk).expr a c) :
    WirK d B w0 (k + 1) (putL F (.string (d.wires[k]'hk).name.data.toList) (some (.agg #[.int .i64 (d.wires[k]'hk).expr.op, .int .i64 (d.wires[k]'hk).expr.n, .string (d.wires[k]'hk).expr.name, .slice a (d.wires[k]'hk).expr.args.length c]))) := by
  refine ⟨fun s hs => ?_, fun q hq hqk => ?_⟩
  · rw [putL_other _ (fun e => hs k hk (by omega) (lit_inj e).symm)]
    exact h.1 s fun q hq hqk => hs q hq (by omega)
  · by_cases e : q = k
    · subst e
      exact ⟨a, c, putL_same _ _ _, hX⟩
    · obtain ⟨a', c', h1, h2⟩ := h.2 q hq (by omega)
      refine ⟨a', c', ?_, h2⟩
      rw [putL_other _ (fun e => hd q hq (by omega) (lit_inj e))]
      exact h1
theorem WirK.done {d : DesD} {B : Nat} {w0 : World} {F : Lit → Option Value} (h : WirK d B w0 d.wires.length F) {W : World} (hW : Below B w0 W) : WirF d W F := by
  intro s
  refine ⟨fun hn => h.1 s fun q hq _ e => ?_, fun q hq he => ?_⟩
  · have := (idxT_none.1 hn) _ (List.mem_map.2 ⟨_, List.getElem_mem hq, rfl⟩)
    rw [e] at this
    exact this rfl
  · obtain ⟨hk, h1, _⟩ := idxT_some he
    obtain ⟨a, c, h2, h3⟩ := h.2 q hq hq
    refine ⟨a, c, ?_, h3 W hW⟩
    have : (d.wires[q]'hq).name = s := bytes_inj (by simpa using h1)
    rw [this] at h2
    exact h2
theorem wires_ne {d : DesD} (hd : DesOk d) {q k : Nat} (hq : q < d.wires.length) (hk : k < d.wires.length) (h : q < k) : (d.wires[q]'hq).name ≠ (d.wires[k]'hk).name := by
  have hdw : dupT (d.wires.map (·.name)) = false := by
    have := hd.names
    unfold DesD.names at this
    exact (dupT_append (dupT_append this).1).2
  intro e
  have := dupT_false.1 hdw q k (by simpa using hq) (by simpa using hk) (by simp [e])
  omega
/-- the list that is answered is new -/
def ConeFPost (w : World) (d : DesD) (nm : ByteArray) (e : Ending) (w' : World) : Prop := ConePost w d nm e w' ∧ ∀ p n c v, e = .returned (.tuple #[.slice (some p) n c, v]) → w.heap.size ≤ p.block
set_option maxRecDepth 100000 in
set_option maxHeartbeats 16000000 in
theorem dConeOk_any (d : DesD) (x : DesA) (nm : ByteArray) (w : World) (hE : DesIn w d x) (hs : DesSmall d) (hG : Glob w) (he : d.err = 0) (hn : (idxT d.names nm).isSome = true) :
    Calls Tryz.prog 29 #[desVal d x, .string nm] w (ConeFPost w d nm) := by
  have hd := desOk_of_err he
  have hl := hs.len
  have HV0 : Hid (∀ W, Below w.heap.size w W → Calls Tryz.prog 20 #[desVal d x] W fun e w' => e = .returned (.int .i64 0) ∧ Below W.heap.size W w') := fun W hW => (ValidD_any d x W (hE.below hW) hs (hG.below hW)).mono fun e w' h => by rw [he] at h; exact h
  have HN0 := Lib.hid (fun W (hW : Below w.heap.size w W) => Names31_any d x W (hE.below hW) (by simp [DesD.names]; omega))
  have HCo : Hid (∀ W a c, StrsIn W d.names a c → Calls Tryz.prog 69 #[.slice a d.names.length c, .string nm] W fun e w' => e = .returned (.bool true) ∧ W = w') := fun W a c h => (Contains_strs d.names a c nm W h).mono fun e w' h => ⟨by rw [h.1, hn], h.2⟩
  have HP : Hid (∀ C a c w', StrsIn w' C a c → ConeE d nm C → Below w.heap.size w w' → (∀ p, a = some p → w.heap.size ≤ p.block) → ConeFPost w d nm (.returned (.tuple #[.slice a C.length c, .int .i64 0])) w') := fun C a c w' h1 h2 h3 h4 => ⟨⟨Or.inl ⟨he, hn, C, a, c, rfl, h1, h2⟩, h3⟩, fun p n c v e => by simp at e; exact h4 p e.1.1⟩
  have HWi := Lib.hid hE.wires
  have HWA := Lib.hid hE.wires.addr
  have hwc := hE.wires.1
  have hwn : d.wires.length ≤ 48 := by
    have := hd.len
    simp [DesD.names] at this
    omega
  have HNe : Hid (∀ q k (hq : q < d.wires.length) (hk : k < d.wires.length), q < k → (d.wires[q]'hq).name ≠ (d.wires[k]'hk).name) := fun q k hq hk h => wires_ne hd hq hk h
  have HSz : Hid (∀ k (hk : k < d.wires.length), (d.wires[k]'hk).name.size ≤ 1073741824) := fun k hk => hs.names _ (by unfold DesD.names; exact List.mem_append_left _ (List.mem_append_right _ (List.mem_map.2 ⟨_, List.getElem_mem hk, rfl⟩)))
  have HVi : Hid (∀ (w0 : World) (bs bw bo bv ms mw nW B : Nat) (WF : Lit → Option Value), (∀ W, Below B w0 W → WirF d W WF) → ∀ (v : Value) (W : World), VisW d bs bw bo bv ms mw nW B WF w0 v [] [] W → Calls Tryz.prog 70 #[.string nm, .pointer (some ⟨bs, 0, none⟩), .pointer (some ⟨bw, 0, none⟩), .pointer (some ⟨bo, 0, none⟩), .pointer (some ⟨bv, 0, none⟩)] W (VisPost d nm bs bw bo bv ms mw nW B WF w0 v [] W)) := fun w0 bs bw bo bv ms mw nW B WF hWF v W hW =>
    visit_any d w0 bs bw bo bv ms mw nW B WF hd (fun s h => by
      obtain ⟨k, hk, _, h2⟩ := idxT_get h
      rw [← bytes_inj h2]
      exact hs.names _ (List.getElem_mem hk)) (fun e h => hs.exprs e h) hWF 48 [] [] nm v W rfl (VisInv.nil d) hW hn
  have HDn : Hid (∀ S O, VisInv d S O → VisRel d [nm] [] S → ConeE d nm (sortB O) ∧ O.length ≤ 48) := fun S O h1 h2 => ⟨⟨sortB_asc h1.odup, fun s => (sortB_mem O s).trans (vis_done h1 h2 s)⟩, Nat.le_trans h1.olen (Nat.le_trans h1.len hd.len)⟩
  generalize ConeFPost w d nm = Po at HP ⊢
  clear hd hs hG he hn hl
  simp only [desVal, desVals] at HV0 HN0 ⊢
  generalize x.aw = aw at *
  have hbA : Below w.heap.size w (w.alloc (.cells #[.string d.name, .slice x.ai d.inputs.length x.ci, .slice aw d.wires.length x.cw, .slice x.ar d.regs.length x.cr, .slice x.ao d.outputs.length x.co] 27)) := (by repeat (first | assumption | exact Below.refl _ _ | refine Below.drew ?_ | refine below_drewN ?_ _ | refine Below.alloc ?_ (by first | omega | (simp only [World.size_alloc, World.size_setCell, World.size_drew, World.heap_drewN] <;> omega) | (simp <;> omega)) _ | refine Below.setCell ?_ (by first | omega | (simp only [World.size_alloc, World.size_setCell, World.size_drew, World.heap_drewN] <;> omega) | (simp <;> omega)) _))
  have HB0 : Hid (Below (w.heap.size + 1) (w.alloc (.cells #[.string d.name, .slice x.ai d.inputs.length x.ci, .slice aw d.wires.length x.cw, .slice x.ar d.regs.length x.cr, .slice x.ao d.outputs.length x.co] 27)) (w.alloc (.cells #[.string d.name, .slice x.ai d.inputs.length x.ci, .slice aw d.wires.length x.cw, .slice x.ar d.regs.length x.cr, .slice x.ao d.outputs.length x.co] 27))) := Below.refl _ _
  have HV1 := Lib.hid (HV0.out _ hbA)
  clear HV0 hbA hE
  go_enter Tryz.func29, Tryz.ntmps29
  go_wp2_with fail
  refine HV1.out.mono ?_
  rintro e w1 ⟨rfl, hb1⟩
  have HB1 := Lib.hid (HB0.out.trans (hb1.mono (by simp)))
  have hz1 := HB1.out.size
  simp only [World.size_alloc] at hz1
  ((try clear b0 b1 b2 b3 b4); have b0 := box_cell HB1.out 0; have b1 := box_cell HB1.out 1; have b2 := box_cell HB1.out 2; have b3 := box_cell HB1.out 3; have b4 := box_cell HB1.out 4; (try simp at b0 b1 b2 b3 b4))
  clear hb1
  go_wp2_with fail
  refine (HN0.out w1 (boxW _ HB1.out)).mono ?_
  rintro e w2 ⟨⟨a2, c2, rfl, hS2⟩, hb2⟩
  have HB2 := Lib.hid (HB1.out.trans (hb2.mono hz1))
  have HC2 := Lib.hid (HCo.out w2 a2 c2 hS2)
  have hz2 : w.heap.size + 1 ≤ w2.heap.size := Nat.le_trans hz1 hb2.size
  clear hb2 hS2
  go_wp2_with fail
  refine HC2.out.mono ?_
  rintro e w2' ⟨rfl, rfl⟩
  clear HC2 HCo HN0 HV1
  ((try clear b0 b1 b2 b3 b4); have b0 := box_cell HB2.out 0; have b1 := box_cell HB2.out 1; have b2 := box_cell HB2.out 2; have b3 := box_cell HB2.out 3; have b4 := box_cell HB2.out 4; (try simp at b0 b1 b2 b3 b4))
  go_wp2_with fail
  rw [run_makeMap]
  have HM0 := Lib.hid (MapV.made w2 Tryz.prog 9)
  have HBm : Hid (Below (w.heap.size + 1) (w.alloc (.cells #[.string d.name, .slice x.ai d.inputs.length x.ci, .slice aw d.wires.length x.cw, .slice x.ar d.regs.length x.cr, .slice x.ao d.outputs.length x.co] 27)) (w2.alloc (.map #[] 0))) := HB2.out.alloc hz2 _
  have hzm : (w2.alloc (.map #[] 0)).heap.size = w2.heap.size + 1 := by simp
  generalize w2.alloc (.map #[] 0) = wm at HM0 HBm hzm ⊢
  have HBc : Hid (Below (w.heap.size + 1) (w.alloc (.cells #[.string d.name, .slice x.ai d.inputs.length x.ci, .slice aw d.wires.length x.cw, .slice x.ar d.regs.length x.cr, .slice x.ao d.outputs.length x.co] 27)) (wm.alloc (.cells #[.map (some w2.heap.size)] 93))) := HBm.out.alloc (by omega) _
  have HMc := Lib.hid (HM0.out.alloc (.cells #[.map (some w2.heap.size)] 93))
  have HWc : Hid ((wm.alloc (.cells #[.map (some w2.heap.size)] 93)).heap[w2.heap.size + 1]? = some (.cells #[.map (some w2.heap.size)] 93 (0, 0))) := hx_new (by omega)
  ((try clear b0 b1 b2 b3 b4); have b0 := box_cell HBc.out 0; have b1 := box_cell HBc.out 1; have b2 := box_cell HBc.out 2; have b3 := box_cell HBc.out 3; have b4 := box_cell HBc.out 4; (try simp at b0 b1 b2 b3 b4))
  go_wp2_with fail
  go_loopw [27] (fun i wr => ∃ k : Nat, i = .int .i64 k ∧ k ≤ d.wires.length ∧ Hid (∃ m F, m ≤ k ∧ MapV wr Tryz.prog 9 w2.heap.size m F ∧ WirK d (w.heap.size + 1) (w.alloc (.cells #[.string d.name, .slice x.ai d.inputs.length x.ci, .slice aw d.wires.length x.cw, .slice x.ar d.regs.length x.cr, .slice x.ao d.outputs.length x.co] 27)) k F) ∧ Hid (wr.heap[w2.heap.size + 1]? = some (.cells #[.map (some w2.heap.size)] 93 (0, 0))) ∧ Hid (Below (w.heap.size + 1) (w.alloc (.cells #[.string d.name, .slice x.ai d.inputs.length x.ci, .slice aw d.wires.length x.cw, .slice x.ar d.regs.length x.cr, .slice x.ao d.outputs.length x.co] 27)) wr)) (fun i _ => d.wires.length - (intOf i).toNat)
  case atStart => exact ⟨0, rfl, Nat.zero_le _, ⟨0, _, Nat.le_refl _, HMc.out, WirK.nil _ _ _⟩, HWc, HBc⟩
  case round =>
    obtain ⟨k, rfl, hk, HM, HWk, HB⟩ := hrel
    have hzr := lt_of_block HWk.out
    have HBw := Lib.hid (boxW _ HB.out)
    obtain ⟨m, F, hmk, hM, hF⟩ := HM.out
    by_cases hlt : k < d.wires.length
    · obtain ⟨b, off, ha⟩ := HWA.out.resolve_left (by omega)
      have HX0 := Lib.hid (fun W (hW : Below (w.heap.size + 1) (w.alloc (.cells #[.string d.name, .slice x.ai d.inputs.length x.ci, .slice aw d.wires.length x.cw, .slice x.ar d.regs.length x.cr, .slice x.ao d.outputs.length x.co] 27)) W) => (HWi.out.keep (keeps_of_below (boxW _ hW))).get ha hlt)
      have hX1 : ∃ ae ce, wr.cell? ⟨b, off + k * 6, none⟩ = some (.string (d.wires[k]'hlt).name) ∧ wr.cell? ⟨b, off + k * 6 + 1, none⟩ = some (.int .i64 (d.wires[k]'hlt).width) ∧ wr.cell? ⟨b, off + k * 6 + 2, none⟩ = some (.int .i64 (d.wires[k]'hlt).expr.op) ∧ wr.cell? ⟨b, off + k * 6 + 3, none⟩ = some (.int .i64 (d.wires[k]'hlt).expr.n) ∧
          wr.cell? ⟨b, off + k * 6 + 4, none⟩ = some (.string (d.wires[k]'hlt).expr.name) ∧ wr.cell? ⟨b, off + k * 6 + 5, none⟩ = some (.slice ae (d.wires[k]'hlt).expr.args.length ce) ∧ ∀ W, Below (w.heap.size + 1) (w.alloc (.cells #[.string d.name, .slice x.ai d.inputs.length x.ci, .slice aw d.wires.length x.cw, .slice x.ar d.regs.length x.cr, .slice x.ao d.outputs.length x.co] 27)) W → ExIn W (d.wires[k]'hlt).expr ae ce := by
        obtain ⟨ae, ce, c0, c1, c2, c3, c4, c5, hX⟩ := (HWi.out).get ha hlt
        have hK := keeps_of_below HBw.out
        exact ⟨ae, ce, hK _ _ c0, hK _ _ c1, hK _ _ c2, hK _ _ c3, hK _ _ c4, hK _ _ c5, fun W hW => hX.keep (keeps_of_below (boxW _ hW))⟩
      obtain ⟨ae, ce, c0, c1, c2, c3, c4, c5, hX⟩ := hX1
      clear HX0
      have hF1 := hF.put hlt (fun q hq h => HNe.out q k hq hlt h) hX
      have HF1 := Lib.hid hF1
      have HMk := Lib.hid (hM.alloc (.cells #[.string (d.wires[k]'hlt).name, .int .i64 (d.wires[k]'hlt).width, .int .i64 (d.wires[k]'hlt).expr.op, .int .i64 (d.wires[k]'hlt).expr.n, .string (d.wires[k]'hlt).expr.name, .slice ae (d.wires[k]'hlt).expr.args.length ce] 57))
      have HBk := Lib.hid (HB.out.alloc (by omega) (.cells #[.string (d.wires[k]'hlt).name, .int .i64 (d.wires[k]'hlt).width, .int .i64 (d.wires[k]'hlt).expr.op, .int .i64 (d.wires[k]'hlt).expr.n, .string (d.wires[k]'hlt).expr.name, .slice ae (d.wires[k]'hlt).expr.args.length ce] 57))
      have HWk2 : Hid ((wr.alloc (.cells #[.string (d.wires[k]'hlt).name, .int .i64 (d.wires[k]'hlt).width, .int .i64 (d.wires[k]'hlt).expr.op, .int .i64 (d.wires[k]'hlt).expr.n, .string (d.wires[k]'hlt).expr.name, .slice ae (d.wires[k]'hlt).expr.args.length ce] 57)).heap[w2.heap.size + 1]? = some (.cells #[.map (some w2.heap.size)] 93 (0, 0))) := hx_old HWk.out
      have hsz := HSz.out k hlt
      have c7 := cell_of_blk HWk2.out 0
      simp at c7
      have hm9 : m < 1000000000 := by omega
      have HMI : Hid (∀ w7, MapV w7 Tryz.prog 9 w2.heap.size (m + 1) (putL F (.string (d.wires[k]'hlt).name.data.toList) (some (.agg #[.int .i64 (d.wires[k]'hlt).expr.op, .int .i64 (d.wires[k]'hlt).expr.n, .string (d.wires[k]'hlt).expr.name, .slice ae (d.wires[k]'hlt).expr.args.length ce]))) → (wr.alloc (.cells #[.string (d.wires[k]'hlt).name, .int .i64 (d.wires[k]'hlt).width, .int .i64 (d.wires[k]'hlt).expr.op, .int .i64 (d.wires[k]'hlt).expr.n, .string (d.wires[k]'hlt).expr.name, .slice ae (d.wires[k]'hlt).expr.args.length ce] 57)).grownBy w7 (some w2.heap.size) → (∃ m F, m ≤ k + 1 ∧ MapV w7 Tryz.prog 9 w2.heap.size m F ∧ WirK d (w.heap.size + 1) (w.alloc (.cells #[.string d.name, .slice x.ai d.inputs.length x.ci, .slice aw d.wires.length x.cw, .slice x.ar d.regs.length x.cr, .slice x.ao d.outputs.length x.co] 27)) (k + 1) F) ∧ w7.heap[w2.heap.size + 1]? = some (.cells #[.map (some w2.heap.size)] 93 (0, 0)) ∧ Below (w.heap.size + 1) (w.alloc (.cells #[.string d.name, .slice x.ai d.inputs.length x.ci, .slice aw d.wires.length x.cw, .slice x.ar d.regs.length x.cr, .slice x.ao d.outputs.length x.co] 27)) w7) := fun w7 h1 h2 =>
        ⟨⟨m + 1, _, by omega, h1, HF1.out⟩, (h2.block _ (lt_of_block HWk2.out) (fun e => by have := Option.some.inj e; omega)).trans HWk2.out, Below.grown HBk.out h2 (by simp; omega) (fun j hj => by rw [← Option.some.inj hj]; exact hz2)⟩
      have HFn : Hid (F (.string (d.wires[k]'hlt).name.data.toList) = none) := hF.1 _ (fun q hq h => HNe.out q k hq hlt h)
      subst ha
      generalize (d.wires[k]'hlt) = wi at c0 c1 c2 c3 c4 c5 HMk hsz HMI HFn c7
      clear hM hX hF hF1 HF1 HM HBk HWk2 b0 b1 b2 b3 b4
      go_wp2_with (at_mapUpdate; go_must (refine wp_mapV_new _ rfl _ _ _ 93 55 rfl keyed_str (by kernel_rfl) rfl HMk.out hm9 _ _ _ rfl rfl (key_str hsz) trivial HFn.out ?_); intro w7 hM7 hg7; have HI7 := HMI.out w7 hM7 hg7; clear hM7 hg7; obtain ⟨HI1, HI2, HI3⟩ := HI7; have HI1 := Lib.hid HI1; have HI2 := Lib.hid HI2; have HI3 := Lib.hid HI3)
      go_roundw
      case rel => exact ⟨k + 1, by go_num, by omega, HI1, HI2, HI3⟩
      case measure => (simp [intOf]; try omega)
    · obtain rfl : k = d.wires.length := by omega
      have HF := Lib.hid (fun W (hW : Below (w.heap.size + 1) (w.alloc (.cells #[.string d.name, .slice x.ai d.inputs.length x.ci, .slice aw d.wires.length x.cw, .slice x.ar d.regs.length x.cr, .slice x.ao d.outputs.length x.co] 27)) W) => hF.done hW)
      have HMw := Lib.hid hM
      rename World => wa
      clear hM hF HM HM0 HBm HMc HWc HBc HNe HSz HWi b0 b1 b2 b3 b4
      go_wp2_with fail
      rw [run_makeMap]
      have HS0 := Lib.hid (MapV.made wa Tryz.prog 9)
      have HMs := Lib.hid (HMw.out.alloc (.map #[] 0))
      have hzs : (wa.alloc (.map #[] 0)).heap.size = wa.heap.size + 1 := by simp
      have HBs : Hid (Below (w.heap.size + 1) (w.alloc (.cells #[.string d.name, .slice x.ai d.inputs.length x.ci, .slice aw d.wires.length x.cw, .slice x.ar d.regs.length x.cr, .slice x.ao d.outputs.length x.co] 27)) (wa.alloc (.map #[] 0))) := HB.out.alloc (by omega) _
      have HWs : Hid ((wa.alloc (.map #[] 0)).heap[w2.heap.size + 1]? = some (.cells #[.map (some w2.heap.size)] 93 (0, 0))) := hx_old HWk.out
      generalize wa.alloc (.map #[] 0) = ws at HS0 HMs hzs HBs HWs ⊢
      clear HMw HWk HB HBw
      go_wp2_with fail
      have hVW : VisW d (wa.heap.size + 1) (w2.heap.size + 1) (wa.heap.size + 1 + 1) (wa.heap.size + 1 + 1 + 1) wa.heap.size w2.heap.size m (w.heap.size + 1) F (w.alloc (.cells #[.string d.name, .slice x.ai d.inputs.length x.ci, .slice aw d.wires.length x.cw, .slice x.ar d.regs.length x.cr, .slice x.ao d.outputs.length x.co] 27)) (.slice none 0 0) [] []
          (((ws.alloc (.cells #[.map (some wa.heap.size)] 94)).alloc (.cells #[.slice none 0 0] 25)).alloc (.cells #[visF (wa.heap.size + 1) (w2.heap.size + 1) (wa.heap.size + 1 + 1) (wa.heap.size + 1 + 1 + 1)] 95)) :=
        ⟨hx_old (hx_old (hx_new (by omega))), hx_old (hx_old (hx_old HWs.out)), hx_new (by simp; omega), ⟨hx_old (hx_new (by simp; omega)), World.ownsRow_nil _ _ _ _⟩, ⟨0, Nat.le_refl _, (((HS0.out.alloc _).alloc _).alloc _).congr setF_nil⟩, ((HMs.out.alloc _).alloc _).alloc _,
          ((HBs.out.alloc (by omega) _).alloc (by simp; omega) _).alloc (by simp; omega) _, ⟨by omega, by omega, by omega⟩⟩
      refine (HVi.out _ _ _ _ _ _ _ _ _ _ HF.out _ _ hVW).mono ?_
      rintro e w3 ⟨rfl, S, O, v', hI, hR, hW3, _, _⟩
      obtain ⟨hCE, hO⟩ := HDn.out S O hI hR
      have c3 := cell_of_blk hW3.ho.1 0
      simp at c3
      have HSo := Lib.hid (sortS_any w3 (w.heap.size + 1) v' O hW3.ho.2 (by omega))
      have HKb : Hid (∀ w4, w3.grownBy w4 v'.ownBlock → w4.cell? ⟨wa.heap.size + 1 + 1, 0, none⟩ = some v' ∧ Below w.heap.size w w4) := fun w4 hg => by
        refine ⟨?_, ?_⟩
        · have h1 := (hg.block _ (lt_of_block hW3.ho.1) (ownsRow_ne hW3.ho.2 hW3.ho.1 (by decide))).trans hW3.ho.1
          have h2 := cell_of_blk h1 0
          simpa using h2
        · exact boxW _ (Below.grown hW3.bel hg (Nat.le_of_lt hW3.B_lt) (fun j hj => (hW3.ho.2.lt j hj).1))
      have HCE := Lib.hid hCE
      have hlS := sortB_len O
      clear hI hR hW3 hVW hCE HVi HDn HS0 HMs HBs HWs HF
      go_wp2_with fail
      refine HSo.out.mono ?_
      rintro e w4 ⟨rfl, hrow, hg4⟩
      obtain ⟨c4, hb4⟩ := HKb.out w4 hg4
      obtain ⟨a, cap, rfl, hSt⟩ := strs_of_own hrow (by omega)
      have HPf := Lib.hid (HP.out _ a cap w4 hSt HCE.out hb4 (fun p hp => by subst hp; have := (hrow.lt _ rfl).1; omega))
      rw [hlS] at HPf
      clear hrow hg4 hSt hb4 HKb HSo
      go_wp2_with fail
      first | exact HPf.out | (go_ret; exact HPf.out) | (go_ret2; exact HPf.out)
set_option maxRecDepth 100000 in
set_option maxHeartbeats 8000000 in
theorem dConeF_any (d : DesD) (x : DesA) (nm : ByteArray) (w : World) (hE : DesIn w d x) (hs : DesSmall d) (hG : Glob w) :
    Calls Tryz.prog 29 #[desVal d x, .string nm] w (ConeFPost w d nm) := by
  by_cases he : d.err = 0
  · cases hn : (idxT d.names nm).isSome
    · have hl := hs.len
      have HV0 : Hid (∀ W, Below w.heap.size w W → Calls Tryz.prog 20 #[desVal d x] W fun e w' => e = .returned (.int .i64 0) ∧ Below W.heap.size W w') := fun W hW => (ValidD_any d x W (hE.below hW) hs (hG.below hW)).mono fun e w' h => by rw [he] at h; exact h
      have HN0 := Lib.hid (fun W (hW : Below w.heap.size w W) => Names31_any d x W (hE.below hW) (by simp [DesD.names]; omega))
      have HIx : Hid (∀ W a c, StrsIn W d.names a c → Calls Tryz.prog 69 #[.slice a d.names.length c, .string nm] W fun e w' => e = .returned (.bool false) ∧ W = w') := fun W a c h => (Contains_strs d.names a c nm W h).mono fun e w' h => ⟨by rw [h.1, hn], h.2⟩
      have HP : Hid (∀ w', Below w.heap.size w w' → ConeFPost w d nm (.returned (.tuple #[.slice none 0 0, .int .i64 7])) w') := fun w' h => ⟨⟨Or.inr (Or.inr ⟨he, hn, rfl⟩), h⟩, fun p n c v e => by simp at e⟩
      generalize ConeFPost w d nm = Po at HP ⊢
      clear hE hs he hn hl hG
      simp only [desVal, desVals] at HV0 HN0 ⊢
      have hbA : Below w.heap.size w (w.alloc (.cells #[.string d.name, .slice x.ai d.inputs.length x.ci, .slice x.aw d.wires.length x.cw, .slice x.ar d.regs.length x.cr, .slice x.ao d.outputs.length x.co] 27)) := (by repeat (first | assumption | exact Below.refl _ _ | refine Below.drew ?_ | refine below_drewN ?_ _ | refine Below.alloc ?_ (by first | omega | (simp only [World.size_alloc, World.size_setCell, World.size_drew, World.heap_drewN] <;> omega) | (simp <;> omega)) _ | refine Below.setCell ?_ (by first | omega | (simp only [World.size_alloc, World.size_setCell, World.size_drew, World.heap_drewN] <;> omega) | (simp <;> omega)) _))
      have HB0 : Hid (Below (w.heap.size + 1) (w.alloc (.cells #[.string d.name, .slice x.ai d.inputs.length x.ci, .slice x.aw d.wires.length x.cw, .slice x.ar d.regs.length x.cr, .slice x.ao d.outputs.length x.co] 27)) (w.alloc (.cells #[.string d.name, .slice x.ai d.inputs.length x.ci, .slice x.aw d.wires.length x.cw, .slice x.ar d.regs.length x.cr, .slice x.ao d.outputs.length x.co] 27))) := Below.refl _ _
      have HV1 := Lib.hid (HV0.out _ hbA)
      clear HV0 hbA
      go_enter Tryz.func29, Tryz.ntmps29
      go_wp2_with fail
      refine HV1.out.mono ?_
      rintro e w1 ⟨rfl, hb1⟩
      have HB1 := Lib.hid (HB0.out.trans (hb1.mono (by simp)))
      have hz1 := HB1.out.size
      simp only [World.size_alloc] at hz1
      ((try clear b0 b1 b2 b3 b4); have b0 := box_cell HB1.out 0; have b1 := box_cell HB1.out 1; have b2 := box_cell HB1.out 2; have b3 := box_cell HB1.out 3; have b4 := box_cell HB1.out 4; (try simp at b0 b1 b2 b3 b4))
      clear hb1
      go_wp2_with fail
      refine (HN0.out w1 (boxW _ HB1.out)).mono ?_
      rintro e w2 ⟨⟨a2, c2, rfl, hS2⟩, hb2⟩
      have HB2 := Lib.hid (HB1.out.trans (hb2.mono hz1))
      have HIx2 := Lib.hid (HIx.out w2 a2 c2 hS2)
      have HPe := Lib.hid (HP.out w2 (boxW _ HB2.out))
      clear hb2 hS2
      go_wp2_with fail
      refine HIx2.out.mono ?_
      rintro e w2' ⟨rfl, rfl⟩
      go_wp2_with fail
      first | exact HPe.out | (go_ret2; exact HPe.out)
    · exact dConeOk_any d x nm w hE hs hG he hn
  · have HV0 : Hid (∀ W, Below w.heap.size w W → Calls Tryz.prog 20 #[desVal d x] W fun e w' => e = .returned (.int .i64 d.err) ∧ Below W.heap.size W w') := fun W hW => ValidD_any d x W (hE.below hW) hs (hG.below hW)
    have HP : Hid (∀ w', Below w.heap.size w w' → ConeFPost w d nm (.returned (.tuple #[.slice none 0 0, .int .i64 d.err])) w') := fun w' h => ⟨⟨Or.inr (Or.inl ⟨he, rfl⟩), h⟩, fun p n c v e => by simp at e⟩
    have hne : (d.err != 0) = true := by simpa using he
    generalize ConeFPost w d nm = Po at HP ⊢
    generalize d.err = er at HV0 HP hne
    clear hE hs he hG
    simp only [desVal, desVals] at HV0 ⊢
    have hbA : Below w.heap.size w (w.alloc (.cells #[.string d.name, .slice x.ai d.inputs.length x.ci, .slice x.aw d.wires.length x.cw, .slice x.ar d.regs.length x.cr, .slice x.ao d.outputs.length x.co] 27)) := (by repeat (first | assumption | exact Below.refl _ _ | refine Below.drew ?_ | refine below_drewN ?_ _ | refine Below.alloc ?_ (by first | omega | (simp only [World.size_alloc, World.size_setCell, World.size_drew, World.heap_drewN] <;> omega) | (simp <;> omega)) _ | refine Below.setCell ?_ (by first | omega | (simp only [World.size_alloc, World.size_setCell, World.size_drew, World.heap_drewN] <;> omega) | (simp <;> omega)) _))
    have HV1 := Lib.hid (HV0.out _ hbA)
    have HA := Lib.hid hbA
    clear HV0 hbA
    go_enter Tryz.func29, Tryz.ntmps29
    go_wp2_with fail
    refine HV1.out.mono ?_
    rintro e w1 ⟨rfl, hb1⟩
    have HPe := Lib.hid (HP.out w1 (HA.out.trans (hb1.mono HA.out.size)))
    clear hb1
    go_wp2_with fail
    first | exact HPe.out | (go_ret2; exact HPe.out)
theorem dCone_any (d : DesD) (x : DesA) (nm : ByteArray) (w : World) (hE : DesIn w d x) (hs : DesSmall d) (hG : Glob w) :
    Calls Tryz.prog 29 #[desVal d x, .string nm] w (ConePost w d nm) := (dConeF_any d x nm w hE hs hG).mono fun _ _ h => h.1
end Go.Proofs.YtihegbjlgpghbaaGreatDoor

/- design.Width and ref31.Width for any name; law31: texts. -/
namespace Go.Proofs.YtihegbjlgpghbaaGreatDoor
open Go.RowKit
attribute [local go_sem ↓] Go.wp_at_zero Go.wp_at_succ

theorem bytes_toList {x s : ByteArray} : x.toList = s.toList ↔ x = s := by
  constructor
  · intro h
    have h2 := (toList_eq_iff x s).1 (by simpa using h)
    exact ByteArray.ext (Array.ext' h2)
  · intro h; rw [h]
theorem idxFromS_idx (s : ByteArray) : ∀ (l : List ByteArray) (i : Nat), Lib.idxFromS l s i = match idxT l s with
    | some k => ((i + k : Nat) : Int)
    | none => -1 := by
  intro l
  induction l with
  | nil => intro i; rfl
  | cons z l ih =>
    intro i
    by_cases h : z = s
    · have h2 : z.toList = s.toList := bytes_toList.2 h
      simp [Lib.idxFromS, idxT, h, h2]
    · have h2 : ¬ z.toList = s.toList := fun e => h (bytes_toList.1 e)
      simp only [Lib.idxFromS, idxT, if_neg h, if_neg h2, ih]
      cases idxT l s with
      | none => rfl
      | some k => show ((i + 1 + k : Nat) : Int) = ((i + (k + 1) : Nat) : Int); congr 1; omega
theorem idxOfS_idx (l : List ByteArray) (s : ByteArray) : Lib.idxOfS l s = idxI l s := by
  unfold Lib.idxOfS idxI
  rw [idxFromS_idx]
  cases idxT l s with
  | none => rfl
  | some k => simp
theorem Index_strs (l : List ByteArray) (a : Option Addr) (cap : Nat) (s : ByteArray) (w : World) (hE : StrsIn w l a cap) :
    Calls Tryz.prog 65 #[.slice a l.length cap, .string s] w fun e w' => e = .returned (.int .i64 (idxI l s)) ∧ w = w' := by
  rw [← idxOfS_idx]
  by_cases h0 : l = []
  · subst h0
    exact (Tryz.slices_Index_string_empty a cap s w).mono fun e w' h => ⟨h.1, h.2.symm⟩
  · obtain ⟨b, off, rfl⟩ := (SliceIn.addr hE).resolve_left (by simpa using h0)
    have := Tryz.slices_Index_string b off l.length cap l s w (Nat.le_refl _) (by have := hE.2.1; omega) (fun j hj => by
      rw [hE.get rfl hj]; simp [hj])
    rw [List.take_of_length_le (Nat.le_refl _)] at this
    exact this.mono fun e w' h => ⟨h.1, h.2.symm⟩
noncomputable def widS (d : DesD) (s : ByteArray) : Int := match idxT d.names s with
  | some i => d.widths.getD i 0
  | none => 0
theorem names_widths (d : DesD) : d.names.length = d.widths.length := by simp [DesD.names, DesD.widths]
set_option maxRecDepth 100000 in
set_option maxHeartbeats 8000000 in
theorem PWidth_any (d : DesD) (x : DesA) (s : ByteArray) (w : World) (hE : DesIn w d x) (hs : DesSmall d) :
    Calls Tryz.prog 25 #[desVal d x, .string s] w fun e w' => e = .returned (.int .i64 (widS d s)) ∧ Below w.heap.size w w' := by
  have hl := hs.len
  have HN := Lib.hid (fun W (hW : Below w.heap.size w W) => Names31_any d x W (hE.below hW) (by simp [DesD.names]; omega))
  have hwl : d.widths.length ≤ 1073741824 := by simp [DesD.widths]; omega
  have HWd := Lib.hid (fun W (hW : Below w.heap.size w W) => widths31_any d x W (hE.below hW) hwl)
  have HIx : Hid (∀ W a c, StrsIn W d.names a c → Calls Tryz.prog 65 #[.slice a d.names.length c, .string s] W fun e w' => e = .returned (.int .i64 (idxI d.names s)) ∧ W = w') := fun W a c h => Index_strs d.names a c s W h
  have hcase : (idxI d.names s = -1 ∧ widS d s = 0) ∨ ∃ i : Nat, ∃ hi : i < d.widths.length, idxI d.names s = (i : Int) ∧ widS d s = d.widths[i]'hi := by
    unfold idxI widS
    cases h : idxT d.names s with
    | none => exact Or.inl ⟨rfl, rfl⟩
    | some i =>
      obtain ⟨h1, _⟩ := idxT_some h
      have h2 : i < d.widths.length := by rw [← names_widths]; exact h1
      exact Or.inr ⟨i, h2, rfl, by simp [List.getD_eq_getElem?_getD, h2]⟩
  simp only [desVal, desVals] at HN HWd ⊢
  have hbA : Below w.heap.size w (w.alloc (.cells #[.string d.name, .slice x.ai d.inputs.length x.ci, .slice x.aw d.wires.length x.cw, .slice x.ar d.regs.length x.cr, .slice x.ao d.outputs.length x.co] 27)) := (by repeat (first | assumption | exact Below.refl _ _ | refine Below.drew ?_ | refine below_drewN ?_ _ | refine Below.alloc ?_ (by first | omega | (simp only [World.size_alloc, World.size_setCell, World.size_drew, World.heap_drewN] <;> omega) | (simp <;> omega)) _ | refine Below.setCell ?_ (by first | omega | (simp only [World.size_alloc, World.size_setCell, World.size_drew, World.heap_drewN] <;> omega) | (simp <;> omega)) _))
  have HB0 : Hid (Below (w.heap.size + 1) (w.alloc (.cells #[.string d.name, .slice x.ai d.inputs.length x.ci, .slice x.aw d.wires.length x.cw, .slice x.ar d.regs.length x.cr, .slice x.ao d.outputs.length x.co] 27)) (w.alloc (.cells #[.string d.name, .slice x.ai d.inputs.length x.ci, .slice x.aw d.wires.length x.cw, .slice x.ar d.regs.length x.cr, .slice x.ao d.outputs.length x.co] 27))) := Below.refl _ _
  have HN0 := Lib.hid (HN.out _ hbA)
  clear hE hs HN hbA hl
  rcases hcase with ⟨h1, h2⟩ | ⟨i, hi, h1, h2⟩
  · rw [h1] at HIx
    rw [h2]
    clear h1 h2 HWd
    generalize d.names = N at HN0 HIx
    go_enter Tryz.func25, Tryz.ntmps25
    go_wp2_with fail
    refine HN0.out.mono ?_
    rintro e w1 ⟨⟨a1, c1, rfl, hS1⟩, hb1⟩
    have HB1 := Lib.hid (HB0.out.trans (hb1.mono (by simp)))
    have HIx1 := Lib.hid (HIx.out w1 a1 c1 hS1)
    clear hb1 hS1
    go_wp2_with fail
    refine HIx1.out.mono ?_
    rintro e w2 ⟨rfl, rfl⟩
    go_wp2_with fail
    go_ret
    exact ⟨rfl, boxW _ HB1.out⟩
  · have HV : Hid (∀ W a c, IntsIn W d.widths a c → ∃ b off, a = some ⟨b, off, none⟩ ∧ W.cell? ⟨b, off + i, none⟩ = some (.int .i64 (d.widths[i]'hi))) := fun W a c h => by
      obtain ⟨b, off, ha⟩ := (SliceIn.addr h).resolve_left (by omega)
      exact ⟨b, off, ha, intsIn_get h ha hi⟩
    have hlen : ((i : Int) < (d.widths.length : Int)) := by omega
    rw [h1] at HIx
    rw [h2]
    generalize (d.widths[i]'hi) = v at HV ⊢
    have hd0 : decide ((i : Int) < 0) = false := decide_eq_false (by omega)
    generalize hml : d.names.length = nl at HN0 HIx
    generalize hmw : d.widths.length = wl at HWd hlen hwl
    clear hml hmw h1 h2
    go_enter Tryz.func25, Tryz.ntmps25
    go_wp2_with fail
    refine HN0.out.mono ?_
    rintro e w1 ⟨⟨a1, c1, rfl, hS1⟩, hb1⟩
    have HB1 := Lib.hid (HB0.out.trans (hb1.mono (by simp)))
    have HIx1 := Lib.hid (HIx.out w1 a1 c1 hS1)
    have hz1 := HB1.out.size
    simp only [World.size_alloc] at hz1
    clear hb1 hS1
    go_wp2_with fail
    refine HIx1.out.mono ?_
    rintro e w2 ⟨rfl, rfl⟩
    ((try clear b0 b1 b2 b3 b4); have b0 := box_cell HB1.out 0; have b1 := box_cell HB1.out 1; have b2 := box_cell HB1.out 2; have b3 := box_cell HB1.out 3; have b4 := box_cell HB1.out 4; (try simp at b0 b1 b2 b3 b4))
    go_wp2_with fail
    refine (HWd.out w1 (boxW _ HB1.out)).mono ?_
    rintro e w3 ⟨⟨a3, c3, rfl, hI3⟩, hb3⟩
    obtain ⟨b, off, rfl, hc⟩ := HV.out _ _ _ hI3
    have HB3 : Hid (Below w.heap.size w w3) := (boxW _ HB1.out).trans (hb3.mono (boxW _ HB1.out).size)
    clear hb3 hI3
    go_wp2_with fail
    go_ret
    exact ⟨rfl, HB3.out⟩
set_option maxRecDepth 100000 in
set_option maxHeartbeats 8000000 in
theorem RWidth_any (d : DesD) (x : DesA) (s : ByteArray) (w : World) (hE : DesIn w d x) (hs : DesSmall d) :
    Calls Tryz.prog 26 #[desVal d x, .string s] w fun e w' => e = .returned (.int .i64 (widS d s)) ∧ Below w.heap.size w w' := by
  have hl := hs.len
  have HN := Lib.hid (fun W (hW : Below w.heap.size w W) => rNames31_any d x W (hE.below hW) (by simp [DesD.names]; omega))
  have hwl : d.widths.length ≤ 1073741824 := by simp [DesD.widths]; omega
  have HWd := Lib.hid (fun W (hW : Below w.heap.size w W) => rwidths31_any d x W (hE.below hW) hwl)
  have HIx : Hid (∀ W a c, StrsIn W d.names a c → Calls Tryz.prog 67 #[.slice a d.names.length c, .string s] W fun e w' => e = .returned (.int .i64 (idxI d.names s)) ∧ W = w') := fun W a c h => index_any d.names a c s W h
  have hcase : (idxI d.names s = -1 ∧ widS d s = 0) ∨ ∃ i : Nat, ∃ hi : i < d.widths.length, idxI d.names s = (i : Int) ∧ widS d s = d.widths[i]'hi := by
    unfold idxI widS
    cases h : idxT d.names s with
    | none => exact Or.inl ⟨rfl, rfl⟩
    | some i =>
      obtain ⟨h1, _⟩ := idxT_some h
      have h2 : i < d.widths.length := by rw [← names_widths]; exact h1
      exact Or.inr ⟨i, h2, rfl, by simp [List.getD_eq_getElem?_getD, h2]⟩
  simp only [desVal, desVals] at HN HWd ⊢
  have hbA : Below w.heap.size w (w.alloc (.cells #[.string d.name, .slice x.ai d.inputs.length x.ci, .slice x.aw d.wires.length x.cw, .slice x.ar d.regs.length x.cr, .slice x.ao d.outputs.length x.co] 27)) := (by repeat (first | assumption | exact Below.refl _ _ | refine Below.drew ?_ | refine below_drewN ?_ _ | refine Below.alloc ?_ (by first | omega | (simp only [World.size_alloc, World.size_setCell, World.size_drew, World.heap_drewN] <;> omega) | (simp <;> omega)) _ | refine Below.setCell ?_ (by first | omega | (simp only [World.size_alloc, World.size_setCell, World.size_drew, World.heap_drewN] <;> omega) | (simp <;> omega)) _))
  have HB0 : Hid (Below (w.heap.size + 1) (w.alloc (.cells #[.string d.name, .slice x.ai d.inputs.length x.ci, .slice x.aw d.wires.length x.cw, .slice x.ar d.regs.length x.cr, .slice x.ao d.outputs.length x.co] 27)) (w.alloc (.cells #[.string d.name, .slice x.ai d.inputs.length x.ci, .slice x.aw d.wires.length x.cw, .slice x.ar d.regs.length x.cr, .slice x.ao d.outputs.length x.co] 27))) := Below.refl _ _
  have HN0 := Lib.hid (HN.out _ hbA)
  clear hE hs HN hbA hl
  rcases hcase with ⟨h1, h2⟩ | ⟨i, hi, h1, h2⟩
  · rw [h1] at HIx
    rw [h2]
    clear h1 h2 HWd
    generalize d.names = N at HN0 HIx
    go_enter Tryz.func26, Tryz.ntmps26
    go_wp2_with fail
    refine HN0.out.mono ?_
    rintro e w1 ⟨⟨a1, c1, rfl, hS1⟩, hb1⟩
    have HB1 := Lib.hid (HB0.out.trans (hb1.mono (by simp)))
    have HIx1 := Lib.hid (HIx.out w1 a1 c1 hS1)
    clear hb1 hS1
    go_wp2_with fail
    refine HIx1.out.mono ?_
    rintro e w2 ⟨rfl, rfl⟩
    go_wp2_with fail
    go_ret
    exact ⟨rfl, boxW _ HB1.out⟩
  · have HV : Hid (∀ W a c, IntsIn W d.widths a c → ∃ b off, a = some ⟨b, off, none⟩ ∧ W.cell? ⟨b, off + i, none⟩ = some (.int .i64 (d.widths[i]'hi))) := fun W a c h => by
      obtain ⟨b, off, ha⟩ := (SliceIn.addr h).resolve_left (by omega)
      exact ⟨b, off, ha, intsIn_get h ha hi⟩
    have hlen : ((i : Int) < (d.widths.length : Int)) := by omega
    rw [h1] at HIx
    rw [h2]
    generalize (d.widths[i]'hi) = v at HV ⊢
    have hd0 : decide ((i : Int) < 0) = false := decide_eq_false (by omega)
    generalize hml : d.names.length = nl at HN0 HIx
    generalize hmw : d.widths.length = wl at HWd hlen hwl
    clear hml hmw h1 h2
    go_enter Tryz.func26, Tryz.ntmps26
    go_wp2_with fail
    refine HN0.out.mono ?_
    rintro e w1 ⟨⟨a1, c1, rfl, hS1⟩, hb1⟩
    have HB1 := Lib.hid (HB0.out.trans (hb1.mono (by simp)))
    have HIx1 := Lib.hid (HIx.out w1 a1 c1 hS1)
    have hz1 := HB1.out.size
    simp only [World.size_alloc] at hz1
    clear hb1 hS1
    go_wp2_with fail
    refine HIx1.out.mono ?_
    rintro e w2 ⟨rfl, rfl⟩
    ((try clear b0 b1 b2 b3 b4); have b0 := box_cell HB1.out 0; have b1 := box_cell HB1.out 1; have b2 := box_cell HB1.out 2; have b3 := box_cell HB1.out 3; have b4 := box_cell HB1.out 4; (try simp at b0 b1 b2 b3 b4))
    go_wp2_with fail
    refine (HWd.out w1 (boxW _ HB1.out)).mono ?_
    rintro e w3 ⟨⟨a3, c3, rfl, hI3⟩, hb3⟩
    obtain ⟨b, off, rfl, hc⟩ := HV.out _ _ _ hI3
    have HB3 : Hid (Below w.heap.size w w3) := (boxW _ HB1.out).trans (hb3.mono (boxW _ HB1.out).size)
    clear hb3 hI3
    go_wp2_with fail
    go_ret
    exact ⟨rfl, HB3.out⟩
end Go.Proofs.YtihegbjlgpghbaaGreatDoor

/- law31: awake. -/
namespace Go.Proofs.YtihegbjlgpghbaaGreatDoor
open Go.RowKit
attribute [local go_sem ↓] Go.wp_at_zero Go.wp_at_succ

theorem ord_smp (x : DesA) (W : World) (hE : DesIn W smpD x) (hG : Glob W) : Calls Tryz.prog 27 #[desVal smpD x] W fun e w' => (∃ a c, e = .returned (.tuple #[.slice a 2 c, .int .i64 0]) ∧ IntsIn w' [1, 0] a c) ∧ Below W.heap.size W w' := by
  refine (OrderV_any smpD x W hE smp_small hG).mono fun e w' h => ?_
  obtain ⟨⟨_, a, c, h1, h2⟩ | ⟨h1, _⟩, h3⟩ := h
  · rw [smp_order] at h1 h2
    exact ⟨⟨a, c, h1, h2⟩, h3⟩
  · exact absurd smp_err h1
theorem cone_smp (x : DesA) (W : World) (hE : DesIn W smpD x) (hG : Glob W) : Calls Tryz.prog 29 #[desVal smpD x, .string ⟨#[120]⟩] W fun e w' => (∃ a c, e = .returned (.tuple #[.slice a 2 c, .int .i64 0]) ∧ StrsIn w' [⟨#[97]⟩, ⟨#[114]⟩] a c) ∧ Below W.heap.size W w' := by
  refine (dCone_any smpD x _ W hE smp_small hG).mono fun e w' h => ?_
  obtain ⟨⟨_, _, C, a, c, h1, h2, h4⟩ | ⟨h1, _⟩ | ⟨_, h1, _⟩, h3⟩ := h
  · have := h4.unique smp_cone
    subst this
    exact ⟨⟨a, c, h1, h2⟩, h3⟩
  · exact absurd smp_err h1
  · exfalso
    have : (idxT smpD.names (⟨#[120]⟩ : ByteArray)).isSome = true := in_smpN (by simp [smpN])
    rw [this] at h1
    simp at h1
theorem val_bad (x : DesA) (W : World) (hE : DesIn W badD x) (hG : Glob W) : Calls Tryz.prog 20 #[desVal badD x] W fun e w' => e = .returned (.int .i64 10) ∧ Below W.heap.size W w' :=
  (ValidD_any badD x W hE bad_small hG).mono fun e w' h => by rw [bad_err] at h; exact h
theorem smp_wid : widS smpD ⟨#[114]⟩ = 4 := by
  have : idxT smpD.names (⟨#[114]⟩ : ByteArray) = some 3 := by
    rw [smp_names]
    simp [idxT, smpN, ByteArray.toList_eq]
  unfold widS
  rw [this]
  rfl
theorem wid_smp (x : DesA) (W : World) (hE : DesIn W smpD x) : Calls Tryz.prog 25 #[desVal smpD x, .string ⟨#[114]⟩] W fun e w' => e = .returned (.int .i64 4) ∧ Below W.heap.size W w' :=
  (PWidth_any smpD x _ W hE smp_small).mono fun e w' h => by rw [smp_wid] at h; exact h
theorem set4 {W : World} {bw : Nat} {y : Nat} {n1 n2 : Value} {v0 v1 v2 v3 v4 v5 v6 v7 v8 v9 : Value} (h : W.heap[bw]? = some (.cells #[v0, v1, v2, v3, v4, v5, n1, n2, v6, v7, v8, v9] 57 (0, 0))) (u0 u1 u2 u3 : Value) :
    ((((W.setCell ⟨bw, 8, none⟩ u0).setCell ⟨bw, 9, none⟩ u1).setCell ⟨bw, 10, none⟩ u2).setCell ⟨bw, 11, none⟩ u3).heap[bw]? = some (.cells #[v0, v1, v2, v3, v4, v5, n1, n2, u0, u1, u2, u3] 57 (0, 0)) := by
  have h0 := heap_setCell_same _ bw 8 _ _ u0 h
  have h1 := heap_setCell_same _ bw 9 _ _ u1 h0
  have h2 := heap_setCell_same _ bw 10 _ _ u2 h1
  have h3 := heap_setCell_same _ bw 11 _ _ u3 h2
  rw [h3]
  rfl
theorem keep4 {W : World} {bw k : Nat} {o : Obj} {u0 u1 u2 u3 : Value} (h : W.heap[k]? = some o) (hk : k ≠ bw) :
    ((((W.setCell ⟨bw, 8, none⟩ u0).setCell ⟨bw, 9, none⟩ u1).setCell ⟨bw, 10, none⟩ u2).setCell ⟨bw, 11, none⟩ u3).heap[k]? = some o := by
  rw [Below.heap_setCell _ _ _ _ hk, Below.heap_setCell _ _ _ _ hk, Below.heap_setCell _ _ _ _ hk, Below.heap_setCell _ _ _ _ hk]
  exact h
theorem SmpB.bad {W : World} {bi bw br bo k1 k2 : Nat} (h : SmpB W bi bw br bo k1 k2) : BadB ((((W.setCell ⟨bw, 8, none⟩ (.int .i64 2)).setCell ⟨bw, 9, none⟩ (.int .i64 0)).setCell ⟨bw, 10, none⟩ (.string ⟨#[120]⟩)).setCell ⟨bw, 11, none⟩ (.slice none 0 0)) bi bw br bo k1 := by
  refine ⟨keep4 h.hi ?_, set4 (y := 0) h.hw _ _ _ _, keep4 h.hr ?_, keep4 h.ho ?_, keep4 h.h1 ?_⟩
  · rintro rfl; have := h.hi.symm.trans h.hw; simp at this
  · rintro rfl; have := h.hr.symm.trans h.hw; simp at this
  · rintro rfl; have := h.ho.symm.trans h.hw; simp at this
  · rintro rfl; have := h.h1.symm.trans h.hw; simp at this
theorem SmpB.keep {W W' : World} {bi bw br bo k1 k2 : Nat} (h : SmpB W bi bw br bo k1 k2) (hb : Below W.heap.size W W') : SmpB W' bi bw br bo k1 k2 :=
  ⟨hx_below hb h.hi, hx_below hb h.hw, hx_below hb h.hr, hx_below hb h.ho, hx_below hb h.h1, hx_below hb h.h2⟩
theorem BadB.keep {W W' : World} {bi bw br bo k1 : Nat} (h : BadB W bi bw br bo k1) (hb : Below W.heap.size W W') : BadB W' bi bw br bo k1 :=
  ⟨hx_below hb h.hi, hx_below hb h.hw, hx_below hb h.hr, hx_below hb h.ho, hx_below hb h.h1⟩
/-- grown out of w5, but for the block h, with a block at its end -/
structure MidC (w w5 : World) (h : Nat) (o : Obj) (W : World) : Prop where
  old : ∀ k, k < w5.heap.size → k ≠ h → W.heap[k]? = w5.heap[k]?
  box : W.heap[w5.heap.size]? = some o
  bel : Below w.heap.size w W
  size : w5.heap.size < W.heap.size
theorem MidC.drew {w w5 : World} {h : Nat} {o : Obj} {W : World} (m : MidC w w5 h o W) : MidC w w5 h o W.drew := ⟨m.old, m.box, Below.drew m.bel, m.size⟩
theorem MidC.alloc {w w5 : World} {h : Nat} {o : Obj} {W : World} (m : MidC w w5 h o W) (o' : Obj) : MidC w w5 h o (W.alloc o') :=
  ⟨fun k hk hn => by rw [Below.heap_alloc _ _ _ (Nat.lt_trans hk m.size)]; exact m.old k hk hn, by rw [Below.heap_alloc _ _ _ m.size]; exact m.box, m.bel.alloc m.bel.size _, by rw [World.size_alloc]; have := m.size; omega⟩
theorem MidC.base {w w5 : World} {h : Nat} {cs : Array Value} {t : TypeId} {V : World} (hv : V.heap.size = w5.heap.size) (ho : ∀ k, k < w5.heap.size → k ≠ h → V.heap[k]? = w5.heap[k]?) (hb : Below w.heap.size w V) : MidC w w5 h (.cells cs t (0, 0)) (V.alloc (.cells cs t)) :=
  ⟨fun k hk hn => by rw [Below.heap_alloc _ _ _ (by omega)]; exact ho k hk hn, heap_alloc_at _ _ _ hv.symm, hb.alloc hb.size _, by rw [World.size_alloc]; omega⟩
theorem mid_gen {w w5 : World} {h bi bw br bo k1 : Nat} {o : Obj} {Z : World} {Q : World → Prop} (h1 : MidC w w5 h o Z) (h2 : BadB Z bi bw br bo k1) (k : ∀ W, MidC w w5 h o W → BadB W bi bw br bo k1 → Q W) : Q Z := k Z h1 h2
set_option maxRecDepth 100000 in
set_option maxHeartbeats 16000000 in
theorem awake31_any (w : World) (hG : Glob w) :
    Calls Tryz.prog 19 #[] w fun e w' => e = .returned (.bool true) ∧ Below w.heap.size w w' := by
  have HS : Hid (∀ W, Below w.heap.size w W → Calls Tryz.prog 54 #[] W fun e w' => (∃ bi bw br bo k1 k2, e = .returned (.agg #[.string ⟨#[100]⟩, .slice (some ⟨bi, 0, none⟩) 1 1, .slice (some ⟨bw, 0, none⟩) 2 2, .slice (some ⟨br, 0, none⟩) 1 1, .slice (some ⟨bo, 0, none⟩) 1 1]) ∧ Hid (SmpB w' bi bw br bo k1 k2) ∧ W.heap.size ≤ bw) ∧ Below w.heap.size w w' ∧ Below W.heap.size W w') := fun W hW => (sample_any W).mono fun e w' h => by
    obtain ⟨bi, bw, br, bo, k1, k2, h1, h2, h3, h4⟩ := h
    exact ⟨⟨bi, bw, br, bo, k1, k2, h1, h2, h3⟩, hW.trans (h4.mono hW.size), h4⟩
  have HG : Hid (∀ W, Below w.heap.size w W → Glob W) := fun W hW => hG.below hW
  have HN := Lib.hid name_any
  have hB : Below w.heap.size w w := Below.refl _ _
  clear hG
  go_enter Tryz.func19, Tryz.ntmps19
  go_wp2_with fail
  refine (HS.out w hB).mono ?_
  rintro e w1 ⟨⟨bi, bw, br, bo, k1, k2, rfl, hs1, _⟩, hb1, _⟩
  have HO := Lib.hid (ord_smp _ w1 (smp_in hs1.out) (HG.out w1 hb1))
  have HB1 := Lib.hid hb1
  clear hs1 hb1 hB
  simp only [desVal, desVals, smpA] at HO
  go_wp2_with fail
  refine HO.out.mono ?_
  rintro e w2 ⟨⟨ao, co, rfl, hI⟩, hb2⟩
  have HB2 : Hid (Below w.heap.size w w2) := HB1.out.trans (hb2.mono HB1.out.size)
  have HI := Lib.hid hI
  clear hI hb2 HO
  go_wp2_with fail
  refine (HS.out w2 HB2.out).mono ?_
  rintro e w3 ⟨⟨bi3, bw3, br3, bo3, k13, k23, rfl, hs3, _⟩, hb3, hc3⟩
  have HC := Lib.hid (cone_smp _ w3 (smp_in hs3.out) (HG.out w3 hb3))
  have HB3 := Lib.hid hb3
  have HI3 := Lib.hid (HI.out.keep (keeps_of_below hc3))
  clear hs3 hb3 hc3 HI
  simp only [desVal, desVals, smpA] at HC
  go_wp2_with fail
  refine HC.out.mono ?_
  rintro e w4 ⟨⟨ac, cc, rfl, hS⟩, hb4⟩
  have HB4 : Hid (Below w.heap.size w w4) := HB3.out.trans (hb4.mono HB3.out.size)
  have HI4 := Lib.hid (HI3.out.keep (keeps_of_below hb4))
  have HS4 := Lib.hid hS
  clear hS hb4 HC HI3
  go_wp2_with fail
  refine (HS.out w4 HB4.out).mono ?_
  rintro e w5 ⟨⟨bi5, bw5, br5, bo5, k15, k25, rfl, hs5, hw5⟩, hb5, hc5⟩
  have HB5 := Lib.hid hb5
  have HB45 := Lib.hid hc5
  have HD5 := Lib.hid hs5.out
  clear hb5 hc5 hs5 HB1 HB2 HB3
  have hbk := HD5.out.hw
  have hww : bw5 < w5.heap.size := lt_of_block hbk
  have q8 := cell_of_blk hbk 8
  have q9 := cell_of_blk hbk 9
  have q10 := cell_of_blk hbk 10
  have q11 := cell_of_blk hbk 11
  simp at q8 q9 q10 q11
  have f8 : w5.frozen? ⟨bw5, 8, none⟩ = false := by simp [World.frozen?, hbk]
  have f9 : w5.frozen? ⟨bw5, 9, none⟩ = false := by simp [World.frozen?, hbk]
  have f10 : w5.frozen? ⟨bw5, 10, none⟩ = false := by simp [World.frozen?, hbk]
  have f11 : w5.frozen? ⟨bw5, 11, none⟩ = false := by simp [World.frozen?, hbk]
  clear hbk
  go_wp2_with fail
  have hM1 : MidC w4 w5 bw5 (.cells #[.string ⟨#[100]⟩, .slice (some ⟨bi5, 0, none⟩) 1 1, .slice (some ⟨bw5, 0, none⟩) 2 2, .slice (some ⟨br5, 0, none⟩) 1 1, .slice (some ⟨bo5, 0, none⟩) 1 1] 27 (0, 0)) (w5.alloc (.cells #[.string ⟨#[100]⟩, .slice (some ⟨bi5, 0, none⟩) 1 1, .slice (some ⟨bw5, 0, none⟩) 2 2, .slice (some ⟨br5, 0, none⟩) 1 1, .slice (some ⟨bo5, 0, none⟩) 1 1] 27)) := MidC.base rfl (fun _ _ _ => rfl) HB45.out
  have hM2 : MidC w4 w5 bw5 (.cells #[.string ⟨#[100]⟩, .slice (some ⟨bi5, 0, none⟩) 1 1, .slice (some ⟨bw5, 0, none⟩) 2 2, .slice (some ⟨br5, 0, none⟩) 1 1, .slice (some ⟨bo5, 0, none⟩) 1 1] 27 (0, 0)) (((((w5.setCell ⟨bw5, 8, none⟩ (.int .i64 2)).setCell ⟨bw5, 9, none⟩ (.int .i64 0)).setCell ⟨bw5, 10, none⟩ (.string ⟨#[120]⟩)).setCell ⟨bw5, 11, none⟩ (.slice none 0 0)).alloc (.cells #[.string ⟨#[100]⟩, .slice (some ⟨bi5, 0, none⟩) 1 1, .slice (some ⟨bw5, 0, none⟩) 2 2, .slice (some ⟨br5, 0, none⟩) 1 1, .slice (some ⟨bo5, 0, none⟩) 1 1] 27)) := MidC.base (by simp only [World.size_setCell]) (fun k hk hn => by rw [Below.heap_setCell _ _ _ _ hn, Below.heap_setCell _ _ _ _ hn, Below.heap_setCell _ _ _ _ hn, Below.heap_setCell _ _ _ _ hn]) ((((HB45.out.setCell hw5 _).setCell hw5 _).setCell hw5 _).setCell hw5 _)
  have HALL : Hid (∀ w', MidC w4 w5 bw5 (.cells #[.string ⟨#[100]⟩, .slice (some ⟨bi5, 0, none⟩) 1 1, .slice (some ⟨bw5, 0, none⟩) 2 2, .slice (some ⟨br5, 0, none⟩) 1 1, .slice (some ⟨bo5, 0, none⟩) 1 1] 27 (0, 0)) w' → w'.cell? ⟨w5.heap.size, 2, none⟩ = some (.slice (some ⟨bw5, 0, none⟩) 2 2)) := fun w' h => by
    have := cell_of_blk h.box 2
    simpa using this
  go_region_held3 (fun w' => MidC w4 w5 bw5 (.cells #[.string ⟨#[100]⟩, .slice (some ⟨bi5, 0, none⟩) 1 1, .slice (some ⟨bw5, 0, none⟩) 2 2, .slice (some ⟨br5, 0, none⟩) 1 1, .slice (some ⟨bo5, 0, none⟩) 1 1] 27 (0, 0)) w' ∧ w'.cell? ⟨w5.heap.size, 2, none⟩ = some (.slice (some ⟨bw5, 0, none⟩) 2 2))
    ((refine (fun h => ⟨h, HALL.out _ h⟩) ?_; (iterate 6 (first | done | with_reducible exact hM1 | with_reducible exact hM2 | with_reducible refine MidC.drew ?_ | with_reducible refine MidC.alloc ?_ _))))
    ((go_at_call 55; (with_reducible refine (HN.out _ _).mono ?_); rintro e w6 ⟨rfl, rfl⟩))
  refine mid_gen (Q := fun W => Exit.then _ _ Exit.normal _ W) (And.left (by assumption)) (BadB.keep (SmpB.bad HD5.out) (by repeat (first | assumption | exact Below.refl _ _ | refine Below.drew ?_ | refine below_drewN ?_ _ | refine Below.alloc ?_ (by first | omega | (simp only [World.size_alloc, World.size_setCell, World.size_drew, World.heap_drewN] <;> omega) | (simp <;> omega)) _ | refine Below.setCell ?_ (by first | omega | (simp only [World.size_alloc, World.size_setCell, World.size_drew, World.heap_drewN] <;> omega) | (simp <;> omega)) _))) ?_
  intro Z hmid hbad
  have HBZ : Hid (Below w.heap.size w Z) := HB4.out.trans (hmid.bel.mono HB4.out.size)
  have z0 := cell_of_blk hmid.box 0
  have z1 := cell_of_blk hmid.box 1
  have z2 := cell_of_blk hmid.box 2
  have z3 := cell_of_blk hmid.box 3
  have z4 := cell_of_blk hmid.box 4
  simp at z0 z1 z2 z3 z4
  have hIZ := HI4.out.keep (keeps_of_below hmid.bel)
  have hSZ := HS4.out.keep (keeps_of_below hmid.bel)
  obtain ⟨p1, o1, ha1⟩ := (SliceIn.addr hIZ).resolve_left (by decide)
  obtain ⟨p2, o2, ha2⟩ := (SliceIn.addr hSZ).resolve_left (by decide)
  have i0 := intsIn_get hIZ ha1 (i := 0) (by decide)
  have s0 := hSZ.get ha2 (i := 0) (by decide)
  have s1 := hSZ.get ha2 (i := 1) (by decide)
  have hcI := hIZ.1
  have hcS := hSZ.1
  subst ha1 ha2
  simp at i0 s0 s1 hcI hcS
  have HV := Lib.hid (val_bad _ Z (bad_in hbad) (HG.out Z HBZ.out))
  simp only [desVal, desVals, smpA] at HV
  clear hmid hbad hM1 hM2 HALL HD5 HB45 HB5 HI4 HS4 hIZ hSZ q8 q9 q10 q11 f8 f9 f10 f11
  go_wp2_with fail
  refine HV.out.mono ?_
  rintro e w6 ⟨rfl, hb6⟩
  have HB6 : Hid (Below w.heap.size w w6) := HBZ.out.trans (hb6.mono HBZ.out.size)
  clear hb6
  go_wp2_with fail
  refine (HS.out w6 HB6.out).mono ?_
  rintro e w7 ⟨⟨bi7, bw7, br7, bo7, k17, k27, rfl, hs7, _⟩, hb7, _⟩
  have HW := Lib.hid (wid_smp _ w7 (smp_in hs7.out))
  have HB7 := Lib.hid hb7
  clear hs7 hb7
  simp only [desVal, desVals, smpA] at HW
  go_wp2_with fail
  refine HW.out.mono ?_
  rintro e w8 ⟨rfl, hb8⟩
  have HB8 : Hid (Below w.heap.size w w8) := HB7.out.trans (hb8.mono HB7.out.size)
  clear hb8
  go_wp2_with fail
  refine (HS.out w8 HB8.out).mono ?_
  rintro e w9 ⟨⟨bi9, bw9, br9, bo9, k19, k29, rfl, hs9, _⟩, hb9, _⟩
  have HP := Lib.hid (Print_smp _ w9 (smp_in hs9.out) (HG.out w9 hb9))
  have HB9 := Lib.hid hb9
  clear hs9 hb9
  simp only [desVal, desVals, smpA] at HP
  unfold SPost at HP
  go_wp2_with fail
  refine HP.out.mono ?_
  rintro e w10 ⟨rfl, hb10⟩
  have HB10 : Hid (Below w.heap.size w w10) := HB9.out.trans (hb10.mono HB9.out.size)
  clear hb10
  go_wp2_with fail
  go_ret
  refine ⟨?_, HB10.out⟩
  rw [ByteArray.toList_eq]
  rfl
end Go.Proofs.YtihegbjlgpghbaaGreatDoor
