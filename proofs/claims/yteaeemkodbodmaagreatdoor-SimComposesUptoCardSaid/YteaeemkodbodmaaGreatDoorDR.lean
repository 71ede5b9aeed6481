/- ref32: signals. -/
import Derived.Test.YteaeemkodbodmaaGreatDoorDQ
set_option linter.unusedSimpArgs false
set_option linter.unusedVariables false
set_option linter.unnecessarySimpa false
namespace Go.Proofs.YteaeemkodbodmaaGreatDoor
open Go.RowKit
attribute [local go_sem ↓] Go.wp_at_zero Go.wp_at_succ

theorem baseS_len {d : DesD} {st : List Int} (inp : Sigs) (h : st.length = d.regs.length) : (baseS d st inp).length = d.inputs.length + d.regs.length := by simp [baseS, DesD.ins, DesD.sts, h]
theorem baseS_in {d : DesD} (st : List Int) (inp : Sigs) {k : Nat} (hk : k < d.inputs.length) : (baseS d st inp).take (k + 1) = (baseS d st inp).take k ++ [((d.inputs[k]'hk).name, inputV (d.inputs[k]'hk) inp)] := by
  refine take_at ?_
  unfold baseS DesD.ins
  rw [List.getElem?_append_left (by simpa using hk)]
  simp [hk]
theorem baseS_reg {d : DesD} {st : List Int} (inp : Sigs) {k : Nat} (hk : k < d.regs.length) (hs : k < st.length) : (baseS d st inp).take (d.inputs.length + k + 1) = (baseS d st inp).take (d.inputs.length + k) ++ [((d.regs[k]'hk).name, st[k]'hs)] := by
  refine take_at ?_
  unfold baseS DesD.ins DesD.sts
  rw [List.getElem?_append_right (by simp)]
  simp [List.getElem?_zipWith, hk, hs]
/-- the list after k wires, in the reference's way -/
noncomputable def refK (d : DesD) (st : List Int) (inp : Sigs) (k : Nat) : Sigs := refE (wireN d) (wireV d) (baseS d st inp) (d.order.take k)
theorem refK_all (d : DesD) (st : List Int) (inp : Sigs) : refK d st inp d.order.length = refS d st inp := by unfold refK refS; rw [List.take_of_length_le (Nat.le_refl _)]
theorem refK_succ {d : DesD} (st : List Int) (inp : Sigs) {k : Nat} (hk : k < d.order.length) (hw : d.order[k]'hk < d.wires.length) : refK d st inp (k + 1) = refK d st inp k ++ [((d.wires[d.order[k]'hk]'hw).name, cutW (evalS (refK d st inp k) (d.wires[d.order[k]'hk]'hw).expr).1 (d.wires[d.order[k]'hk]'hw).width)] := by
  unfold refK
  rw [refE_succ hk, wireN_at hw, wireV_at hw]
theorem refK_len {d : DesD} {st : List Int} (inp : Sigs) (h : st.length = d.regs.length) : ∀ k, k ≤ d.order.length → (refK d st inp k).length = d.inputs.length + d.regs.length + k := by
  intro k
  induction k with
  | zero => intro _; exact baseS_len inp h
  | succ k ih => intro hk; rw [refK_succ st inp (show k < d.order.length by omega) (order_lt d _ (List.getElem_mem _)), List.length_append, ih (by omega)]; rfl
def OrdAt (w : World) (l : List Int) (a : Option Addr) : Prop := ∀ b o, a = some ⟨b, o, none⟩ → ∀ i (h : i < l.length), w.cell? ⟨b, o + i, none⟩ = some (.int .i64 (l[i]'h))
theorem OrdAt.of {w : World} {l : List Int} {a : Option Addr} {cap : Nat} (h : IntsIn w l a cap) : OrdAt w l a := fun b o ha i hi => intsIn_get h ha hi
theorem OrdAt.keep {w w' : World} {l : List Int} {a : Option Addr} (h : OrdAt w l a) (hb : Below w.heap.size w w') : OrdAt w' l a := fun b o ha i hi => keeps_of_below hb _ _ (h b o ha i hi)
theorem OrdAt.grown {w w' : World} {l : List Int} {a : Option Addr} {row : Option Nat} (h : OrdAt w l a) (hg : w.grownBy w' row) (hne : ∀ p : Addr, a = some p → p.block < w.heap.size → row ≠ some p.block) : OrdAt w' l a := fun b o ha i hi => by
  have h1 := h b o ha i hi
  have h2 := World.block_lt_of_cell? _ _ h1
  have h3 := hg.block b h2 (fun e => hne _ ha h2 e.symm)
  rw [← h1]
  simp [World.cell?, h3]
set_option maxRecDepth 100000 in
set_option maxHeartbeats 16000000 in
theorem rSignals_any (d : DesD) (x : DesA) (l : List Int) (al : Option Addr) (cl : Nat) (inp : Sigs) (aI : Option Addr) (cI : Nat) (w : World)
    (hE : DesIn w d x) (hs : DesSmall d) (he : d.err = 0) (hl : l.length = d.regs.length) (hL : IntsIn w l al cl) (hI : SigsIn w inp aI cI) :
    Calls Tryz.prog 50 #[desVal d x, .slice al l.length cl, .slice aI inp.length cI] w fun e w' => (∃ a cap, e = .returned (.slice a (refS d l inp).length cap) ∧ SigsIn w' (refS d l inp) a cap) ∧ Below w.heap.size w w' := by
  have hok := desOk_of_err he
  have h48 : d.inputs.length + d.wires.length + d.regs.length ≤ 48 := by have := hok.len; simp [DesD.names] at this; omega
  have HP := Lib.hid hE.ins
  have HPA := Lib.hid hE.ins.addr
  have HW := Lib.hid hE.wires
  have HWA := Lib.hid hE.wires.addr
  have HR := Lib.hid hE.regs
  have HRA := Lib.hid hE.regs.addr
  have HL := Lib.hid hL
  have HLA := Lib.hid hL.addr
  have HIn0 := Lib.hid (fun k (hk : k < d.inputs.length) W (hW : Below w.heap.size w W) => rInput_any (d.inputs[k]'hk) inp aI cI W (hI.keep (keeps_of_below hW)) (input_width hok (List.getElem_mem hk)).1 (input_width hok (List.getElem_mem hk)).2)
  have HEv0 : Hid (∀ k (hk : k < d.wires.length) env a cap ae ce W, SigsIn W env a cap → ExIn W (d.wires[k]'hk).expr ae ce → Calls Tryz.prog 52 #[.agg #[.int .i64 (d.wires[k]'hk).expr.op, .int .i64 (d.wires[k]'hk).expr.n, .string (d.wires[k]'hk).expr.name, .slice ae (d.wires[k]'hk).expr.args.length ce], .slice a env.length cap] W fun e w' => e = .returned (.int .i64 (evalS env (d.wires[k]'hk).expr).1) ∧ Below W.heap.size W w') := fun k hk env a cap ae ce W hS hX => by
    have h1 := hs.exprs _ (wire_expr hk)
    generalize (d.wires[k]'hk).expr = e at h1 hX
    obtain ⟨op, n, s, args⟩ := e
    exact rValue_any env a cap op n s args ae ce W hS hX (by omega)
  have HCu : Hid (∀ k (hk : k < d.wires.length) z W, Calls Tryz.prog 51 #[.int .i64 z, .int .i64 (d.wires[k]'hk).width] W fun e w' => e = .returned (.int .i64 (cutW z (d.wires[k]'hk).width)) ∧ W = w') := fun k hk z W => by
    obtain ⟨h1, h2⟩ := wire_width hok (List.getElem_mem hk)
    generalize (d.wires[k]'hk).width = wd at h1 h2
    obtain ⟨q, rfl⟩ := Int.eq_ofNat_of_zero_le (show 0 ≤ wd by omega)
    exact rCut_any z q (by omega) W
  have HOr0 : Hid (∀ W, Below w.heap.size w W → Calls Tryz.prog 71 #[desVal d x] W fun e w' => (∃ a cap, e = .returned (.tuple #[.slice a d.order.length cap, .int .i64 0]) ∧ IntsIn w' (natI d.order) a cap ∧ ∀ p, a = some p → W.heap.size ≤ p.block) ∧ Below W.heap.size W w') := fun W hW => (rOrderF_any d x W (hE.below hW) hs).mono fun e w' h => ⟨(h.1.resolve_right (fun h => h.1 he)).2, h.2⟩
  have HS1 : Hid (∀ k (hk : k < d.inputs.length), (baseS d l inp).take (k + 1) = (baseS d l inp).take k ++ [((d.inputs[k]'hk).name, inputV (d.inputs[k]'hk) inp)]) := fun k hk => baseS_in l inp hk
  have HS2 : Hid (∀ k (hk : k < d.regs.length) (hk' : k < l.length), (baseS d l inp).take (d.inputs.length + k + 1) = (baseS d l inp).take (d.inputs.length + k) ++ [((d.regs[k]'hk).name, l[k]'hk')]) := fun k hk hk' => baseS_reg inp hk hk'
  have HBl := Lib.hid (baseS_len inp hl)
  have HK0 : Hid (refK d l inp 0 = baseS d l inp) := rfl
  have HKE : Hid (refK d l inp d.order.length = refS d l inp) := refK_all d l inp
  have HKl := Lib.hid (refK_len inp hl)
  have HKs : Hid (∀ k (hk : k < d.order.length) (hw : d.order[k]'hk < d.wires.length), refK d l inp (k + 1) = refK d l inp k ++ [((d.wires[d.order[k]'hk]'hw).name, cutW (evalS (refK d l inp k) (d.wires[d.order[k]'hk]'hw).expr).1 (d.wires[d.order[k]'hk]'hw).width)]) := fun k hk hw => refK_succ l inp hk hw
  have HOl : Hid (∀ k (hk : k < d.order.length), d.order[k]'hk < d.wires.length) := fun k hk => order_lt d _ (List.getElem_mem hk)
  have hol : d.order.length ≤ 48 := by have := order_len d; omega
  generalize baseS d l inp = BS at HS1 HS2 HBl HK0
  generalize refS d l inp = SE at HKE ⊢
  generalize refK d l inp = RK at HK0 HKE HKl HKs
  generalize d.order = OD at HOr0 HKE HKl HKs HOl hol
  have hlI := hI.2.1
  clear hE hs hok hL hI he
  obtain ⟨nm, ins, wires, regs, outs⟩ := d
  obtain ⟨ai, ci, aw, cw, ar, cr, ao, co⟩ := x
  simp only [desVal, desVals] at h48 hl HP HPA HW HWA HR HRA HIn0 HEv0 HCu HOr0 HS1 HS2 HBl HKl HKs HOl ⊢
  have HB0 : Hid (Below (w.heap.size + 1) (w.alloc (.cells #[.string nm, .slice ai ins.length ci, .slice aw wires.length cw, .slice ar regs.length cr, .slice ao outs.length co] 27)) (w.alloc (.cells #[.string nm, .slice ai ins.length ci, .slice aw wires.length cw, .slice ar regs.length cr, .slice ao outs.length co] 27))) := Below.refl _ _
  have Hl := Lib.hid hl
  have h24 : regs.length ≤ 48 := by omega
  have h25 : ins.length ≤ 48 := by omega
  have h26 : wires.length ≤ 48 := by omega
  clear hl
  have b1 : (w.alloc (.cells #[.string nm, .slice ai ins.length ci, .slice aw wires.length cw, .slice ar regs.length cr, .slice ao outs.length co] 27)).cell? ⟨w.heap.size, 1, none⟩ = some (.slice ai ins.length ci) := by simp
  go_enter Tryz.func50, Tryz.ntmps50
  go_wp2_with fail
  clear b1
  go_loopw [8, 7] (fun i v wr => ∃ k : Nat, i = .int .i64 k ∧ k ≤ ins.length ∧ Hid (wr.ownsRow (w.heap.size + 1) 65 2 v k (sigCells (BS.take k))) ∧ Hid (Below (w.heap.size + 1) (w.alloc (.cells #[.string nm, .slice ai ins.length ci, .slice aw wires.length cw, .slice ar regs.length cr, .slice ao outs.length co] 27)) wr)) (fun i _ _ => ins.length - (intOf i).toNat)
  case atStart => exact ⟨0, rfl, Nat.zero_le _, World.ownsRow_nil _ _ _ _, HB0⟩
  case round =>
    obtain ⟨k, rfl, hk, HO, HB⟩ := hrel
    have HBw := Lib.hid (boxW _ HB.out)
    have hzr := HB.out.size
    simp only [World.size_alloc] at hzr
    have hkn : k ≤ 1073741824 := by omega
    obtain ⟨va, vc, hv, _⟩ := slice_of_own HO.out hkn
    subst hv
    by_cases hlt : k < ins.length
    · obtain ⟨b, off, ha⟩ := HPA.out.resolve_left (by omega)
      have HALLk : Hid (∀ w', Below (w.heap.size + 1) (w.alloc (.cells #[.string nm, .slice ai ins.length ci, .slice aw wires.length cw, .slice ar regs.length cr, .slice ao outs.length co] 27)) w' → w'.cell? ⟨w.heap.size, 1, none⟩ = some (.slice (some ⟨b, off, none⟩) ins.length ci) ∧ w'.cell? ⟨b, off + k * 2, none⟩ = some (.string (ins[k]'hlt).name) ∧ w'.cell? ⟨b, off + k * 2 + 1, none⟩ = some (.int .i64 (ins[k]'hlt).width)) := fun w' h => by
        have b1 := box_cell h 1
        simp at b1
        rw [ha] at b1
        exact ⟨b1, (HP.out.keep (keeps_of_below (boxW _ h))).get ha hlt⟩
      have HIk := Lib.hid (fun W (hW : Below wr.heap.size wr W) => (HIn0.out k hlt W (HBw.out.trans (hW.mono HBw.out.size))).mono (R' := fun e w' => e = .returned (.int .i64 (inputV (ins[k]'hlt) inp)) ∧ Below wr.heap.size wr w' ∧ Below (w.heap.size + 1) (w.alloc (.cells #[.string nm, .slice ai ins.length ci, .slice aw wires.length cw, .slice ar regs.length cr, .slice ao outs.length co] 27)) w') (fun e w' h => ⟨h.1, hW.trans (h.2.mono hW.size), HB.out.trans ((hW.trans (h.2.mono hW.size)).mono hzr)⟩))
      have HSk := Lib.hid (HS1.out k hlt)
      have HOk : Hid (∀ W, Below wr.heap.size wr W → W.ownsRow (w.heap.size + 1) 65 2 (.slice va k vc) k (sigCells (BS.take k))) := fun W hW => ownsRow_below HO.out hW
      generalize inputV (ins[k]'hlt) inp = iv at HIk HSk
      generalize (ins[k]'hlt) = e at HALLk HIk HSk
      clear ha
      have hkl : (k : Int) < ins.length := by omega
      obtain ⟨b1, c0, c1⟩ := HALLk.out _ HB.out
      have hB := HB.out
      go_wp2_with fail
      go_region_held3 (fun w' => Below (w.heap.size + 1) (w.alloc (.cells #[.string nm, .slice ai ins.length ci, .slice aw wires.length cw, .slice ar regs.length cr, .slice ao outs.length co] 27)) w' ∧ w'.cell? ⟨w.heap.size, 1, none⟩ = some (.slice (some ⟨b, off, none⟩) ins.length ci) ∧ w'.cell? ⟨b, off + k * 2, none⟩ = some (.string e.name) ∧ w'.cell? ⟨b, off + k * 2 + 1, none⟩ = some (.int .i64 e.width))
        ((refine (fun h => ⟨h, HALLk.out _ h⟩) ?_; first | assumption | exact Below.grown (by first | assumption | exact (by repeat (first | assumption | exact Below.refl _ _ | refine Below.drew ?_ | refine below_drewN ?_ _ | refine Below.alloc ?_ (by first | omega | (simp only [World.size_alloc, World.size_setCell, World.size_drew, World.heap_drewN] <;> omega) | (simp <;> omega)) _ | refine Below.setCell ?_ (by first | omega | (simp only [World.size_alloc, World.size_setCell, World.size_drew, World.heap_drewN] <;> omega) | (simp <;> omega)) _))) hgrow (by first | omega | (simp only [World.size_alloc, World.size_setCell, World.size_drew, World.heap_drewN] <;> omega) | (simp <;> omega)) (fun j hj => (HO.out.lt j hj).1) | exact (by repeat (first | assumption | exact Below.refl _ _ | refine Below.drew ?_ | refine below_drewN ?_ _ | refine Below.alloc ?_ (by first | omega | (simp only [World.size_alloc, World.size_setCell, World.size_drew, World.heap_drewN] <;> omega) | (simp <;> omega)) _ | refine Below.setCell ?_ (by first | omega | (simp only [World.size_alloc, World.size_setCell, World.size_drew, World.heap_drewN] <;> omega) | (simp <;> omega)) _))))
        (first | (go_at_call 70; (with_reducible refine (HIk.out _ (by first | assumption | exact (by repeat (first | assumption | exact Below.refl _ _ | refine Below.drew ?_ | refine below_drewN ?_ _ | refine Below.alloc ?_ (by first | omega | (simp only [World.size_alloc, World.size_setCell, World.size_drew, World.heap_drewN] <;> omega) | (simp <;> omega)) _ | refine Below.setCell ?_ (by first | omega | (simp only [World.size_alloc, World.size_setCell, World.size_drew, World.heap_drewN] <;> omega) | (simp <;> omega)) _)))).mono ?_); rintro r wn ⟨rfl, hbn, hbx⟩; (have hzn := hbn.size)) | (refine own_step elemG (by rfl) _ _ (by rfl) (w.heap.size + 1) (.slice va k vc) k (sigCells (BS.take k)) (by rfl) (HOk.out _ (by exact (by repeat (first | assumption | exact Below.refl _ _ | refine Below.drew ?_ | refine below_drewN ?_ _ | refine Below.alloc ?_ (by first | omega | (simp only [World.size_alloc, World.size_setCell, World.size_drew, World.heap_drewN] <;> omega) | (simp <;> omega)) _ | refine Below.setCell ?_ (by first | omega | (simp only [World.size_alloc, World.size_setCell, World.size_drew, World.heap_drewN] <;> omega) | (simp <;> omega)) _)))) [.string e.name, .int .i64 iv] (by rfl) (by simp [Value.oneCell']) _ 1 (by rfl) (heap_alloc_new' _ _) hkn (by first | omega | (simp only [World.size_alloc, World.size_setCell, World.size_drew, World.heap_drewN] <;> omega) | (simp <;> omega)) _ rfl ?_; intro g gcap wg hownG hgrow hatG hltG))
      all_goals
        have HXg := Lib.hid hownG
        have HBg : Hid (Below (w.heap.size + 1) (w.alloc (.cells #[.string nm, .slice ai ins.length ci, .slice aw wires.length cw, .slice ar regs.length cr, .slice ao outs.length co] 27)) wg) := by
          first
            | assumption
            | exact (by assumption : Below (w.heap.size + 1) _ wg ∧ _ ∧ _).1
            | exact Below.grown (by first | assumption | exact (by repeat (first | assumption | exact Below.refl _ _ | refine Below.drew ?_ | refine below_drewN ?_ _ | refine Below.alloc ?_ (by first | omega | (simp only [World.size_alloc, World.size_setCell, World.size_drew, World.heap_drewN] <;> omega) | (simp <;> omega)) _ | refine Below.setCell ?_ (by first | omega | (simp only [World.size_alloc, World.size_setCell, World.size_drew, World.heap_drewN] <;> omega) | (simp <;> omega)) _))) hgrow (by first | omega | (simp only [World.size_alloc, World.size_setCell, World.size_drew, World.heap_drewN] <;> omega) | (simp <;> omega)) (fun j hj => (HO.out.lt j hj).1)
        clear hownG hgrow b1 c0 c1 hB
        go_wp2_with fail
        go_roundw
        case rel => exact ⟨k + 1, by go_num, by omega, (by show World.ownsRow _ _ _ _ _ _ _; rw [HSk.out, sigCells_snoc]; exact HXg.out), HBg⟩
        case measure => (simp [intOf]; try omega)
    · obtain rfl : k = ins.length := by omega
      ((try clear b0 b1 b2 b3 b4); have b0 := box_cell HB.out 0; have b1 := box_cell HB.out 1; have b2 := box_cell HB.out 2; have b3 := box_cell HB.out 3; have b4 := box_cell HB.out 4; (try simp at b0 b1 b2 b3 b4))
      have HO0 : Hid (wr.ownsRow (w.heap.size + 1) 65 2 (.slice va ins.length vc) (ins.length + 0) (sigCells (BS.take (ins.length + 0)))) := HO.out
      go_wp2_with fail
      go_loopw [9, 7] (fun i v wr => ∃ k : Nat, i = .int .i64 k ∧ k ≤ regs.length ∧ Hid (wr.ownsRow (w.heap.size + 1) 65 2 v (ins.length + k) (sigCells (BS.take (ins.length + k)))) ∧ Hid (Below (w.heap.size + 1) (w.alloc (.cells #[.string nm, .slice ai ins.length ci, .slice aw wires.length cw, .slice ar regs.length cr, .slice ao outs.length co] 27)) wr)) (fun i _ _ => regs.length - (intOf i).toNat)
      case atStart => exact ⟨0, rfl, Nat.zero_le _, HO0, HB⟩
      case round =>
        rename World => wr
        obtain ⟨k, rfl, hk, HO, HB⟩ := hrel
        clear b0 b1 b2 b3 b4 HO0
        have HBw := Lib.hid (boxW _ HB.out)
        have hzr := HB.out.size
        simp only [World.size_alloc] at hzr
        have hkn : ins.length + k ≤ 1073741824 := by omega
        obtain ⟨va, vc, hv, _⟩ := slice_of_own HO.out hkn
        subst hv
        by_cases hlt : k < regs.length
        · have hltl : k < l.length := by have := Hl.out; omega
          obtain ⟨b, off, ha⟩ := HRA.out.resolve_left (by omega)
          obtain ⟨bl, ol, hal⟩ := HLA.out.resolve_left (by omega)
          subst hal
          have HALLk : Hid (∀ w', Below (w.heap.size + 1) (w.alloc (.cells #[.string nm, .slice ai ins.length ci, .slice aw wires.length cw, .slice ar regs.length cr, .slice ao outs.length co] 27)) w' → w'.cell? ⟨w.heap.size, 3, none⟩ = some (.slice (some ⟨b, off, none⟩) regs.length cr) ∧ w'.cell? ⟨b, off + k * 7, none⟩ = some (.string (regs[k]'hlt).name) ∧ w'.cell? ⟨bl, ol + k, none⟩ = some (.int .i64 (l[k]'hltl))) := fun w' h => by
            have b3 := box_cell h 3
            simp at b3
            rw [ha] at b3
            obtain ⟨_, _, g0, _⟩ := (HR.out.keep (keeps_of_below (boxW _ h))).get ha hlt
            exact ⟨b3, g0, intsIn_get (HL.out.keep (keeps_of_below (boxW _ h))) rfl hltl⟩
          have HSk := Lib.hid (HS2.out k hlt hltl)
          have HOk : Hid (∀ W, Below wr.heap.size wr W → W.ownsRow (w.heap.size + 1) 65 2 (.slice va (ins.length + k) vc) (ins.length + k) (sigCells (BS.take (ins.length + k)))) := fun W hW => ownsRow_below HO.out hW
          generalize (regs[k]'hlt) = e at HALLk HSk
          generalize (l[k]'hltl) = z at HALLk HSk
          clear ha
          have hkl : (k : Int) < regs.length := by omega
          have hkl2 : (k : Int) < l.length := by omega
          obtain ⟨b3, c0, c1⟩ := HALLk.out _ HB.out
          have hB := HB.out
          go_wp2_with fail
          go_region_held3 (fun w' => Below (w.heap.size + 1) (w.alloc (.cells #[.string nm, .slice ai ins.length ci, .slice aw wires.length cw, .slice ar regs.length cr, .slice ao outs.length co] 27)) w' ∧ w'.cell? ⟨w.heap.size, 3, none⟩ = some (.slice (some ⟨b, off, none⟩) regs.length cr) ∧ w'.cell? ⟨b, off + k * 7, none⟩ = some (.string e.name) ∧ w'.cell? ⟨bl, ol + k, none⟩ = some (.int .i64 z))
            ((refine (fun h => ⟨h, HALLk.out _ h⟩) ?_; first | assumption | exact Below.grown (by first | assumption | exact (by repeat (first | assumption | exact Below.refl _ _ | refine Below.drew ?_ | refine below_drewN ?_ _ | refine Below.alloc ?_ (by first | omega | (simp only [World.size_alloc, World.size_setCell, World.size_drew, World.heap_drewN] <;> omega) | (simp <;> omega)) _ | refine Below.setCell ?_ (by first | omega | (simp only [World.size_alloc, World.size_setCell, World.size_drew, World.heap_drewN] <;> omega) | (simp <;> omega)) _))) hgrow (by first | omega | (simp only [World.size_alloc, World.size_setCell, World.size_drew, World.heap_drewN] <;> omega) | (simp <;> omega)) (fun j hj => (HO.out.lt j hj).1) | exact (by repeat (first | assumption | exact Below.refl _ _ | refine Below.drew ?_ | refine below_drewN ?_ _ | refine Below.alloc ?_ (by first | omega | (simp only [World.size_alloc, World.size_setCell, World.size_drew, World.heap_drewN] <;> omega) | (simp <;> omega)) _ | refine Below.setCell ?_ (by first | omega | (simp only [World.size_alloc, World.size_setCell, World.size_drew, World.heap_drewN] <;> omega) | (simp <;> omega)) _))))
            ((refine own_step elemG (by rfl) _ _ (by rfl) (w.heap.size + 1) (.slice va (ins.length + k) vc) (ins.length + k) (sigCells (BS.take (ins.length + k))) (by rfl) (HOk.out _ (by exact (by repeat (first | assumption | exact Below.refl _ _ | refine Below.drew ?_ | refine below_drewN ?_ _ | refine Below.alloc ?_ (by first | omega | (simp only [World.size_alloc, World.size_setCell, World.size_drew, World.heap_drewN] <;> omega) | (simp <;> omega)) _ | refine Below.setCell ?_ (by first | omega | (simp only [World.size_alloc, World.size_setCell, World.size_drew, World.heap_drewN] <;> omega) | (simp <;> omega)) _)))) [.string e.name, .int .i64 z] (by rfl) (by simp [Value.oneCell']) _ 1 (by rfl) (heap_alloc_new' _ _) hkn (by first | omega | (simp only [World.size_alloc, World.size_setCell, World.size_drew, World.heap_drewN] <;> omega) | (simp <;> omega)) _ rfl ?_; intro g gcap wg hownG hgrow hatG hltG))
          all_goals
            have HXg := Lib.hid hownG
            have HBg : Hid (Below (w.heap.size + 1) (w.alloc (.cells #[.string nm, .slice ai ins.length ci, .slice aw wires.length cw, .slice ar regs.length cr, .slice ao outs.length co] 27)) wg) := by
              first
                | assumption
                | exact (by assumption : Below (w.heap.size + 1) _ wg ∧ _ ∧ _).1
                | exact Below.grown (by first | assumption | exact (by repeat (first | assumption | exact Below.refl _ _ | refine Below.drew ?_ | refine below_drewN ?_ _ | refine Below.alloc ?_ (by first | omega | (simp only [World.size_alloc, World.size_setCell, World.size_drew, World.heap_drewN] <;> omega) | (simp <;> omega)) _ | refine Below.setCell ?_ (by first | omega | (simp only [World.size_alloc, World.size_setCell, World.size_drew, World.heap_drewN] <;> omega) | (simp <;> omega)) _))) hgrow (by first | omega | (simp only [World.size_alloc, World.size_setCell, World.size_drew, World.heap_drewN] <;> omega) | (simp <;> omega)) (fun j hj => (HO.out.lt j hj).1)
            clear hownG hgrow b3 c0 c1 hB
            go_wp2_with fail
            go_roundw
            case rel => exact ⟨k + 1, by go_num, by omega, (by show World.ownsRow _ _ _ _ _ (ins.length + k + 1) (sigCells (BS.take (ins.length + k + 1))); rw [HSk.out, sigCells_snoc]; exact HXg.out), HBg⟩
            case measure => (simp [intOf]; try omega)
        · obtain rfl : k = regs.length := by omega
          have HX0 : Hid (BS.take (ins.length + regs.length) = RK 0) := by
            show _ = _
            rw [HK0.out]
            exact List.take_of_length_le (by rw [HBl.out]; omega)
          ((try clear b0 b1 b2 b3 b4); have b0 := box_cell HB.out 0; have b1 := box_cell HB.out 1; have b2 := box_cell HB.out 2; have b3 := box_cell HB.out 3; have b4 := box_cell HB.out 4; (try simp at b0 b1 b2 b3 b4))
          have HOr := Lib.hid (HOr0.out _ HBw.out)
          go_wp2_with fail
          refine HOr.out.mono ?_
          rintro r w6 ⟨⟨aO, cO, rfl, hIO, hFr⟩, hb6⟩
          have HFr := Lib.hid hFr
          obtain ⟨n5, hn5⟩ : ∃ n5, n5 = wr.heap.size := ⟨_, rfl⟩
          rw [← hn5] at HFr
          have hn56 : n5 ≤ w6.heap.size := by rw [hn5]; exact hb6.size
          have HOb0 : Hid (∀ j, (Value.slice va (ins.length + regs.length) vc).ownBlock = some j → j < n5 ∨ w6.heap.size ≤ j) := fun j hj => Or.inl (by rw [hn5]; exact (HO.out.lt j hj).2)
          have HB6 := Lib.hid (HB.out.trans (hb6.mono (by omega)))
          have HB6w := Lib.hid (boxW _ HB6.out)
          have HI6 := Lib.hid (OrdAt.of hIO)
          have HIA := Lib.hid hIO.addr
          have HO6 : Hid (w6.ownsRow (w.heap.size + 1) 65 2 (.slice va (ins.length + regs.length) vc) (ins.length + regs.length + 0) (sigCells (RK 0))) := by
            show World.ownsRow _ _ _ _ _ _ _
            rw [← HX0.out]
            exact ownsRow_below HO.out hb6
          have hz6 := HB6.out.size
          simp only [World.size_alloc] at hz6
          clear hIO hFr hb6 hn5 b0 b1 b2 b3 b4
          go_wp2_with fail
          go_loopw [12, 7, 13] (fun i v _ wr => ∃ k : Nat, i = .int .i64 k ∧ k ≤ OD.length ∧ Hid (wr.ownsRow (w.heap.size + 1) 65 2 v (ins.length + regs.length + k) (sigCells (RK k))) ∧ Hid (Below (w.heap.size + 1) (w.alloc (.cells #[.string nm, .slice ai ins.length ci, .slice aw wires.length cw, .slice ar regs.length cr, .slice ao outs.length co] 27)) wr) ∧ Hid (OrdAt wr (natI OD) aO) ∧ Hid (∀ j, v.ownBlock = some j → j < n5 ∨ w6.heap.size ≤ j) ∧ w6.heap.size ≤ wr.heap.size) (fun i _ _ _ => OD.length - (intOf i).toNat)
          case atStart => exact ⟨0, rfl, Nat.zero_le _, HO6, HB6, HI6, HOb0, Nat.le_refl _⟩
          case round =>
            rename World => wr
            obtain ⟨k, rfl, hk, HO, HB, HA6, HOb, hs6⟩ := hrel
            have HBw := Lib.hid (boxW _ HB.out)
            have hzr := HB.out.size
            simp only [World.size_alloc] at hzr
            have hkn : ins.length + regs.length + k ≤ 1073741824 := by omega
            obtain ⟨va, vc, hv, _⟩ := slice_of_own HO.out hkn
            subst hv
            by_cases hlt : k < OD.length
            · have hkO : k < (natI OD).length := by rw [natI_len]; exact hlt
              obtain ⟨bO, oO, haO⟩ := HIA.out.resolve_left (by rw [natI_len]; omega)
              have HOl6 : Hid (∀ p : Addr, (some ⟨bO, oO, none⟩ : Option Addr) = some p → p.block < w6.heap.size) := fun p hp => by
                have h1 := World.block_lt_of_cell? _ _ (HI6.out bO oO haO k hkO)
                rw [← Option.some.inj hp]
                exact h1
              subst haO
              have hiw := HOl.out k hlt
              obtain ⟨b, off, ha⟩ := HWA.out.resolve_left (by omega)
              obtain ⟨ae, ce, c0, c1, c2, c3, c4, c5, hX⟩ := (HW.out.keep (keeps_of_below HBw.out)).get ha hiw
              have HALLk : Hid (∀ w', Below wr.heap.size wr w' → w'.cell? ⟨w.heap.size, 2, none⟩ = some (.slice (some ⟨b, off, none⟩) wires.length cw) ∧ w'.cell? ⟨bO, oO + k, none⟩ = some (.int .i64 (OD[k]'hlt : Nat)) ∧ w'.cell? ⟨b, off + (OD[k]'hlt) * 6, none⟩ = some (.string (wires[OD[k]'hlt]'hiw).name) ∧ w'.cell? ⟨b, off + (OD[k]'hlt) * 6 + 1, none⟩ = some (.int .i64 (wires[OD[k]'hlt]'hiw).width) ∧ w'.cell? ⟨b, off + (OD[k]'hlt) * 6 + 2, none⟩ = some (.int .i64 (wires[OD[k]'hlt]'hiw).expr.op) ∧ w'.cell? ⟨b, off + (OD[k]'hlt) * 6 + 3, none⟩ = some (.int .i64 (wires[OD[k]'hlt]'hiw).expr.n) ∧ w'.cell? ⟨b, off + (OD[k]'hlt) * 6 + 4, none⟩ = some (.string (wires[OD[k]'hlt]'hiw).expr.name) ∧ w'.cell? ⟨b, off + (OD[k]'hlt) * 6 + 5, none⟩ = some (.slice ae (wires[OD[k]'hlt]'hiw).expr.args.length ce)) := fun w' h => by
                have kk := keeps_of_below h
                have b2 := box_cell HB.out 2
                simp at b2
                rw [ha] at b2
                have o0 := HA6.out _ _ rfl k hkO
                have hoo : (natI OD)[k]'hkO = ((OD[k]'hlt : Nat) : Int) := by simp [natI]
                rw [hoo] at o0
                exact ⟨kk _ _ b2, kk _ _ o0, kk _ _ c0, kk _ _ c1, kk _ _ c2, kk _ _ c3, kk _ _ c4, kk _ _ c5⟩
              have HSk := Lib.hid (HKs.out k hlt hiw)
              have hRl := HKl.out k (by omega)
              have HOk : Hid (∀ W, Below wr.heap.size wr W → W.ownsRow (w.heap.size + 1) 65 2 (.slice va (ins.length + regs.length + k) vc) (ins.length + regs.length + k) (sigCells (RK k))) := fun W hW => ownsRow_below HO.out hW
              have HXk : Hid (∀ W, Below wr.heap.size wr W → ExIn W (wires[OD[k]'hlt]'hiw).expr ae ce) := fun W hW => hX.keep (keeps_of_below hW)
              have hEv : ∀ W, Below wr.heap.size wr W → Calls Tryz.prog 52 #[.agg #[.int .i64 (wires[OD[k]'hlt]'hiw).expr.op, .int .i64 (wires[OD[k]'hlt]'hiw).expr.n, .string (wires[OD[k]'hlt]'hiw).expr.name, .slice ae (wires[OD[k]'hlt]'hiw).expr.args.length ce], .slice va (ins.length + regs.length + k) vc] W fun e w' => e = .returned (.int .i64 (evalS (RK k) (wires[OD[k]'hlt]'hiw).expr).1) ∧ Below W.heap.size W w' := fun W hW => by
                obtain ⟨a', c', hv, hs⟩ := sigs_of_own (l := RK k) (by rw [hRl]; exact HOk.out W hW) (by omega)
                have := HEv0.out _ hiw (RK k) a' c' ae ce W hs (HXk.out W hW)
                rw [← hv] at this
                exact this
              have HEv := Lib.hid hEv
              have HCk := Lib.hid (fun z W => HCu.out (OD[k]'hlt) hiw z W)
              clear c0 c1 c2 c3 c4 c5 hX hEv HXk
              generalize (wires[OD[k]'hlt]'hiw) = e at HALLk HSk HEv HCk
              generalize (evalS (RK k) e.expr).1 = z at HSk HEv
              generalize (OD[k]'hlt) = q at HALLk hiw
              generalize hcv : cutW z e.width = cv at HSk
              have HCz := Lib.hid (HCk.out z)
              rw [hcv] at HCz
              clear hcv
              have hkl : (k : Int) < OD.length := by omega
              have hqw : (q : Int) < wires.length := by omega
              clear ha
              obtain ⟨b2, o0, c0, c1, c2, c3, c4, c5⟩ := HALLk.out _ (Below.refl _ _)
              have hB : Below wr.heap.size wr wr := Below.refl _ _
              go_wp2_with fail
              go_region_held3 (fun w' => Below wr.heap.size wr w' ∧ w'.cell? ⟨w.heap.size, 2, none⟩ = some (.slice (some ⟨b, off, none⟩) wires.length cw) ∧ w'.cell? ⟨bO, oO + k, none⟩ = some (.int .i64 q) ∧ w'.cell? ⟨b, off + q * 6, none⟩ = some (.string e.name) ∧ w'.cell? ⟨b, off + q * 6 + 1, none⟩ = some (.int .i64 e.width) ∧ w'.cell? ⟨b, off + q * 6 + 2, none⟩ = some (.int .i64 e.expr.op) ∧ w'.cell? ⟨b, off + q * 6 + 3, none⟩ = some (.int .i64 e.expr.n) ∧ w'.cell? ⟨b, off + q * 6 + 4, none⟩ = some (.string e.expr.name) ∧ w'.cell? ⟨b, off + q * 6 + 5, none⟩ = some (.slice ae e.expr.args.length ce))
                ((refine (fun h => ⟨h, HALLk.out _ h⟩) ?_; first | assumption | exact (by repeat (first | assumption | exact Below.refl _ _ | refine Below.drew ?_ | refine below_drewN ?_ _ | refine Below.alloc ?_ (by first | omega | (simp only [World.size_alloc, World.size_setCell, World.size_drew, World.heap_drewN] <;> omega) | (simp <;> omega)) _ | refine Below.setCell ?_ (by first | omega | (simp only [World.size_alloc, World.size_setCell, World.size_drew, World.heap_drewN] <;> omega) | (simp <;> omega)) _))))
                (fail)
              generalize hwp : World.alloc wr _ = wp
              have HX1 : Hid (wp.heap[wr.heap.size]? = some (.cells #[.string e.name, .int .i64 e.width, .int .i64 e.expr.op, .int .i64 e.expr.n, .string e.expr.name, .slice ae e.expr.args.length ce] 55 (0, 0))) := by show _ = _; rw [← hwp]; exact heap_alloc_at _ _ _ rfl
              have hBp : Below wr.heap.size wr wp := by rw [← hwp]; exact (Below.refl _ _).alloc (Nat.le_refl _) _
              have hzp : wp.heap.size = wr.heap.size + 1 := by rw [← hwp]; simp
              have HALLp : Hid (∀ w', Below (wr.heap.size + 1) wp w' → w'.cell? ⟨wr.heap.size, 0, none⟩ = some (.string e.name) ∧ w'.cell? ⟨wr.heap.size, 1, none⟩ = some (.int .i64 e.width) ∧ w'.cell? ⟨wr.heap.size, 2, none⟩ = some (.int .i64 e.expr.op) ∧ w'.cell? ⟨wr.heap.size, 3, none⟩ = some (.int .i64 e.expr.n) ∧ w'.cell? ⟨wr.heap.size, 4, none⟩ = some (.string e.expr.name) ∧ w'.cell? ⟨wr.heap.size, 5, none⟩ = some (.slice ae e.expr.args.length ce)) := fun w' h => mach_cells ((h.block _ (by omega)).trans HX1.out)
              have HBp := Lib.hid hBp
              have hb1p : Below (wr.heap.size + 1) wp wp := Below.refl _ _
              have HVa := Lib.hid (fun W (hW : Below (wr.heap.size + 1) wp W) => (HEv.out W (HBp.out.trans (hW.mono (by omega)))).mono (R' := fun e w' => e = .returned (.int .i64 z) ∧ wr.heap.size + 1 ≤ w'.heap.size ∧ Below (wr.heap.size + 1) wp w') (fun e w' h => ⟨h.1, by have h1 := h.2.size; have h2 := hW.size; omega, hW.trans (h.2.mono (by have := hW.size; omega))⟩))
              have HOp : Hid (∀ W, Below (wr.heap.size + 1) wp W → W.ownsRow (w.heap.size + 1) 65 2 (.slice va (ins.length + regs.length + k) vc) (ins.length + regs.length + k) (sigCells (RK k))) := fun W hW => HOk.out W (HBp.out.trans (hW.mono (by omega)))
              have HSp : Hid (∀ w', Below (wr.heap.size + 1) wp w' → Below (w.heap.size + 1) (w.alloc (.cells #[.string nm, .slice ai ins.length ci, .slice aw wires.length cw, .slice ar regs.length cr, .slice ao outs.length co] 27)) w' ∧ w'.cell? ⟨wr.heap.size, 0, none⟩ = some (.string e.name) ∧ w'.cell? ⟨wr.heap.size, 1, none⟩ = some (.int .i64 e.width) ∧ w'.cell? ⟨wr.heap.size, 2, none⟩ = some (.int .i64 e.expr.op) ∧ w'.cell? ⟨wr.heap.size, 3, none⟩ = some (.int .i64 e.expr.n) ∧ w'.cell? ⟨wr.heap.size, 4, none⟩ = some (.string e.expr.name) ∧ w'.cell? ⟨wr.heap.size, 5, none⟩ = some (.slice ae e.expr.args.length ce)) := fun w' h => ⟨HB.out.trans ((HBp.out.trans (h.mono (by omega))).mono hzr), HALLp.out _ h⟩
              have HSg : Hid (∀ W w', Below (wr.heap.size + 1) wp W → W.grownBy w' (Value.slice va (ins.length + regs.length + k) vc).ownBlock → Below (w.heap.size + 1) (w.alloc (.cells #[.string nm, .slice ai ins.length ci, .slice aw wires.length cw, .slice ar regs.length cr, .slice ao outs.length co] 27)) w' ∧ w'.cell? ⟨wr.heap.size, 0, none⟩ = some (.string e.name) ∧ w'.cell? ⟨wr.heap.size, 1, none⟩ = some (.int .i64 e.width) ∧ w'.cell? ⟨wr.heap.size, 2, none⟩ = some (.int .i64 e.expr.op) ∧ w'.cell? ⟨wr.heap.size, 3, none⟩ = some (.int .i64 e.expr.n) ∧ w'.cell? ⟨wr.heap.size, 4, none⟩ = some (.string e.expr.name) ∧ w'.cell? ⟨wr.heap.size, 5, none⟩ = some (.slice ae e.expr.args.length ce)) := fun W w' h hg => by
                obtain ⟨hs, q0, q1, q2, q3, q4, q5⟩ := HSp.out _ h
                exact ⟨Below.grown hs hg (by have := hs.size; simp only [World.size_alloc] at this; omega) (fun j hj => (HO.out.lt j hj).1), own_far HO.out hg q0 (Or.inr (Nat.le_refl _)), own_far HO.out hg q1 (Or.inr (Nat.le_refl _)), own_far HO.out hg q2 (Or.inr (Nat.le_refl _)), own_far HO.out hg q3 (Or.inr (Nat.le_refl _)), own_far HO.out hg q4 (Or.inr (Nat.le_refl _)), own_far HO.out hg q5 (Or.inr (Nat.le_refl _))⟩
              obtain ⟨hB0, p0, p1, p2, p3, p4, p5⟩ := HSp.out _ hb1p
              clear hwp hB hBp b2 o0 c0 c1 c2 c3 c4 c5
              go_wp2_with fail
              go_region_held3 (fun w' => Below (w.heap.size + 1) (w.alloc (.cells #[.string nm, .slice ai ins.length ci, .slice aw wires.length cw, .slice ar regs.length cr, .slice ao outs.length co] 27)) w' ∧ w'.cell? ⟨wr.heap.size, 0, none⟩ = some (.string e.name) ∧ w'.cell? ⟨wr.heap.size, 1, none⟩ = some (.int .i64 e.width) ∧ w'.cell? ⟨wr.heap.size, 2, none⟩ = some (.int .i64 e.expr.op) ∧ w'.cell? ⟨wr.heap.size, 3, none⟩ = some (.int .i64 e.expr.n) ∧ w'.cell? ⟨wr.heap.size, 4, none⟩ = some (.string e.expr.name) ∧ w'.cell? ⟨wr.heap.size, 5, none⟩ = some (.slice ae e.expr.args.length ce))
                ((first | exact HSp.out _ (by assumption) | exact HSg.out _ _ (by first | assumption | exact (by repeat (first | assumption | exact Below.refl _ _ | refine Below.drew ?_ | refine below_drewN ?_ _ | refine Below.alloc ?_ (by first | omega | (simp only [World.size_alloc, World.size_setCell, World.size_drew, World.heap_drewN] <;> omega) | (simp <;> omega)) _ | refine Below.setCell ?_ (by first | omega | (simp only [World.size_alloc, World.size_setCell, World.size_drew, World.heap_drewN] <;> omega) | (simp <;> omega)) _))) hgrow | exact HSp.out _ (by exact (by repeat (first | assumption | exact Below.refl _ _ | refine Below.drew ?_ | refine below_drewN ?_ _ | refine Below.alloc ?_ (by first | omega | (simp only [World.size_alloc, World.size_setCell, World.size_drew, World.heap_drewN] <;> omega) | (simp <;> omega)) _ | refine Below.setCell ?_ (by first | omega | (simp only [World.size_alloc, World.size_setCell, World.size_drew, World.heap_drewN] <;> omega) | (simp <;> omega)) _)))))
                (first | (go_at_call 52; (with_reducible refine (HVa.out _ (by first | assumption | exact (by repeat (first | assumption | exact Below.refl _ _ | refine Below.drew ?_ | refine below_drewN ?_ _ | refine Below.alloc ?_ (by first | omega | (simp only [World.size_alloc, World.size_setCell, World.size_drew, World.heap_drewN] <;> omega) | (simp <;> omega)) _ | refine Below.setCell ?_ (by first | omega | (simp only [World.size_alloc, World.size_setCell, World.size_drew, World.heap_drewN] <;> omega) | (simp <;> omega)) _)))).mono ?_); rintro r wn ⟨rfl, hzn, hbn⟩) | (go_at_call 51; (with_reducible refine (HCz.out _).mono ?_); rintro r wn2 ⟨rfl, rfl⟩) | (refine own_step elemG (by rfl) _ _ (by rfl) (w.heap.size + 1) (.slice va (ins.length + regs.length + k) vc) (ins.length + regs.length + k) (sigCells (RK k)) (by rfl) (HOp.out _ (by exact (by repeat (first | assumption | exact Below.refl _ _ | refine Below.drew ?_ | refine below_drewN ?_ _ | refine Below.alloc ?_ (by first | omega | (simp only [World.size_alloc, World.size_setCell, World.size_drew, World.heap_drewN] <;> omega) | (simp <;> omega)) _ | refine Below.setCell ?_ (by first | omega | (simp only [World.size_alloc, World.size_setCell, World.size_drew, World.heap_drewN] <;> omega) | (simp <;> omega)) _)))) [.string e.name, .int .i64 cv] (by rfl) (by simp [Value.oneCell']) _ 1 (by rfl) (heap_alloc_new' _ _) hkn (by first | omega | (simp only [World.size_alloc, World.size_setCell, World.size_drew, World.heap_drewN] <;> omega) | (simp <;> omega)) _ rfl ?_; intro g gcap wg hownG hgrow hatG hltG))
              all_goals
                have HXg := Lib.hid hownG
                have HBg : Hid (Below (w.heap.size + 1) (w.alloc (.cells #[.string nm, .slice ai ins.length ci, .slice aw wires.length cw, .slice ar regs.length cr, .slice ao outs.length co] 27)) wg) := by
                  first
                    | exact (by assumption : Below (w.heap.size + 1) _ wg ∧ _ ∧ _).1
                    | exact (HSg.out _ _ (by first | assumption | exact (by repeat (first | assumption | exact Below.refl _ _ | refine Below.drew ?_ | refine below_drewN ?_ _ | refine Below.alloc ?_ (by first | omega | (simp only [World.size_alloc, World.size_setCell, World.size_drew, World.heap_drewN] <;> omega) | (simp <;> omega)) _ | refine Below.setCell ?_ (by first | omega | (simp only [World.size_alloc, World.size_setCell, World.size_drew, World.heap_drewN] <;> omega) | (simp <;> omega)) _))) hgrow).1
                have HAg : Hid (OrdAt wg (natI OD) (some ⟨bO, oO, none⟩)) := (HA6.out.keep (HBp.out.trans (Below.mono (show Below (wr.heap.size + 1) wp _ by first | assumption | exact (by repeat (first | assumption | exact Below.refl _ _ | refine Below.drew ?_ | refine below_drewN ?_ _ | refine Below.alloc ?_ (by first | omega | (simp only [World.size_alloc, World.size_setCell, World.size_drew, World.heap_drewN] <;> omega) | (simp <;> omega)) _ | refine Below.setCell ?_ (by first | omega | (simp only [World.size_alloc, World.size_setCell, World.size_drew, World.heap_drewN] <;> omega) | (simp <;> omega)) _))) (by omega)))).grown hgrow (fun p hp _ e => by
                  have h1 := HFr.out p hp
                  have h2 := HOl6.out p hp
                  rcases HOb.out _ e with h3 | h3 <;> omega)
                have HObg : Hid (∀ j, (Value.slice (some ⟨g, 0, none⟩) (ins.length + regs.length + k + 1) gcap).ownBlock = some j → j < n5 ∨ w6.heap.size ≤ j) := fun j hj => by
                  have hj' : g = j := by simpa [Value.ownBlock] using hj
                  subst hj'
                  rcases hatG with h | h
                  · exact HOb.out _ h
                  · exact Or.inr (by rw [h]; (try simp only [World.size_alloc]); omega)
                have hsg : w6.heap.size ≤ wg.heap.size := by have h1 := hgrow.size; simp only [World.size_alloc] at h1; omega
                clear hownG hgrow hB0 p0 p1 p2 p3 p4 p5
                go_wp2_with fail
                go_roundw
                case rel => exact ⟨k + 1, by go_num, by omega, (by show World.ownsRow _ _ _ _ _ (ins.length + regs.length + k + 1) (sigCells (RK (k + 1))); rw [HSk.out, sigCells_snoc]; exact HXg.out), HBg, HAg, HObg, hsg⟩
                case measure => (simp [intOf]; try omega)
            · obtain rfl : k = OD.length := by omega
              have ho := HO.out
              rw [HKE.out, ← HKl.out _ (Nat.le_refl _), HKE.out] at ho
              obtain ⟨a', cap', hv, hs⟩ := sigs_of_own ho (by rw [← HKE.out, HKl.out _ (Nat.le_refl _)]; omega)
              rw [← HKE.out, HKl.out _ (Nat.le_refl _)] at hv
              simp only [Value.slice.injEq, true_and] at hv
              obtain ⟨rfl, rfl⟩ := hv
              have HF := Lib.hid hs
              clear ho hs
              go_wp2_with fail
              go_ret
              refine ⟨⟨va, vc, ?_, HF.out⟩, HBw.out⟩
              rw [← HKE.out, HKl.out _ (Nat.le_refl _)]
              rfl
end Go.Proofs.YteaeemkodbodmaaGreatDoor

/- ref32: Settle. -/
namespace Go.Proofs.YteaeemkodbodmaaGreatDoor
open Go.RowKit
attribute [local go_sem ↓] Go.wp_at_zero Go.wp_at_succ

/-- the signals in the order of the names -/
def namedS (names : List ByteArray) (env : Sigs) : Sigs := names.map fun s => (s, (valS env s).getD 0)
theorem namedS_take (names : List ByteArray) (env : Sigs) (k : Nat) (h : k < names.length) : (namedS names env).take (k + 1) = (namedS names env).take k ++ [(names[k]'h, (valS env (names[k]'h)).getD 0)] := by
  refine take_at ?_
  unfold namedS
  simp [h]
theorem namedS_settle {d : DesD} {l : List Int} (inp : Sigs) (he : d.err = 0) (h : l.length = d.regs.length) : namedS d.names (refS d l inp) = settleS d l inp := settle_ref inp (desOk_of_err he) h
set_option maxRecDepth 100000 in
set_option maxHeartbeats 16000000 in
theorem rSettle_any (d : DesD) (x : DesA) (l : List Int) (al : Option Addr) (cl : Nat) (inp : Sigs) (aI : Option Addr) (cI : Nat) (w : World)
    (hE : DesIn w d x) (hs : DesSmall d) (hL : IntsIn w l al cl) (hI : SigsIn w inp aI cI) :
    Calls Tryz.prog 29 #[desVal d x, .slice al l.length cl, .slice aI inp.length cI] w (SettlePost w d l inp) := by
  have HV := Lib.hid (fun W (hW : Below w.heap.size w W) => rValidD_any d x W (hE.below hW) hs)
  have HSt := Lib.hid (fun W (hW : Below w.heap.size w W) => State_any d x l al cl W (hE.below hW) (hL.keep (keeps_of_below hW)))
  have HSg := Lib.hid (fun (he : d.err = 0) (hb : d.stateB l = true) W (hW : Below w.heap.size w W) => rSignals_any d x l al cl inp aI cI W (hE.below hW) hs he (state_len hb) (hL.keep (keeps_of_below hW)) (hI.keep (keeps_of_below hW)))
  have HNm := Lib.hid (fun W (hW : Below w.heap.size w W) => rNames31_any d x W (hE.below hW))
  have HP1 : Hid (∀ a cap w', d.err = 0 → d.stateB l = true → SigsIn w' (settleS d l inp) a cap → Below w.heap.size w w' → SettlePost w d l inp (.returned (.tuple #[.slice a (settleS d l inp).length cap, .int .i64 0])) w') := fun a cap w' h1 h2 h3 h4 => ⟨Or.inl ⟨h1, h2, a, cap, rfl, h3⟩, h4⟩
  have HP2 : Hid (∀ w', ¬ d.err = 0 → Below w.heap.size w w' → SettlePost w d l inp (.returned (.tuple #[.slice none 0 0, .int .i64 d.err])) w') := fun w' h1 h2 => ⟨Or.inr (Or.inl ⟨h1, rfl⟩), h2⟩
  have HP3 : Hid (∀ w', d.err = 0 → d.stateB l = false → Below w.heap.size w w' → SettlePost w d l inp (.returned (.tuple #[.slice none 0 0, .int .i64 1])) w') := fun w' h1 h2 h3 => ⟨Or.inr (Or.inr ⟨h1, h2, rfl⟩), h3⟩
  have HEq : Hid (d.err = 0 → d.stateB l = true → namedS d.names (refS d l inp) = settleS d l inp) := fun h1 h2 => namedS_settle inp h1 (state_len h2)
  have hN48 : d.err = 0 → d.names.length ≤ 48 := fun h => (desOk_of_err h).len
  have HTk := Lib.hid (namedS_take d.names (refS d l inp))
  have hNl : (namedS d.names (refS d l inp)).length = d.names.length := by simp [namedS]
  have HNl := Lib.hid hNl
  clear hNl
  generalize SettlePost w d l inp = Po at HP1 HP2 HP3 ⊢
  generalize d.err = err at HV HSg HP1 HP2 HP3 HEq hN48
  generalize d.stateB l = sb at HSt HSg HP1 HP3 HEq
  generalize settleS d l inp = SE at HP1 HEq
  generalize refS d l inp = RS at HSg HEq HTk HNl
  generalize namedS d.names RS = NS at HEq HTk HNl
  generalize d.names = NA at HNm hN48 HTk HNl
  clear hE hs hL hI
  obtain ⟨nm, ins, wires, regs, outs⟩ := d
  obtain ⟨ai, ci, aw, cw, ar, cr, ao, co⟩ := x
  simp only [desVal, desVals] at HV HSt HSg HNm ⊢
  have hbA : Below w.heap.size w (w.alloc (.cells #[.string nm, .slice ai ins.length ci, .slice aw wires.length cw, .slice ar regs.length cr, .slice ao outs.length co] 27)) := (by repeat (first | assumption | exact Below.refl _ _ | refine Below.drew ?_ | refine below_drewN ?_ _ | refine Below.alloc ?_ (by first | omega | (simp only [World.size_alloc, World.size_setCell, World.size_drew, World.heap_drewN] <;> omega) | (simp <;> omega)) _ | refine Below.setCell ?_ (by first | omega | (simp only [World.size_alloc, World.size_setCell, World.size_drew, World.heap_drewN] <;> omega) | (simp <;> omega)) _))
  have HV1 := Lib.hid (HV.out _ hbA)
  clear hbA HV
  go_enter Tryz.func29, Tryz.ntmps29
  go_wp2_with fail
  refine HV1.out.mono ?_
  rintro e w1 ⟨rfl, hb1⟩
  simp only [World.size_alloc] at hb1
  have HB1 := Lib.hid hb1
  have HBw1 := Lib.hid (boxW _ hb1)
  clear hb1 HV1
  by_cases he : err = 0
  rotate_left
  · have HF := Lib.hid (HP2.out w1 he HBw1.out)
    have hne : (err != (0 : Int)) = true := by simpa using he
    clear he hN48
    go_wp2_with fail
    exact HF.out
  subst he
  have hN48 := hN48 rfl
  have HS1 := Lib.hid (HSt.out w1 HBw1.out)
  ((try clear b0 b1 b2 b3 b4); have b0 := box_cell HB1.out 0; have b1 := box_cell HB1.out 1; have b2 := box_cell HB1.out 2; have b3 := box_cell HB1.out 3; have b4 := box_cell HB1.out 4; (try simp at b0 b1 b2 b3 b4))
  go_wp2_with fail
  refine HS1.out.mono ?_
  rintro e w2 ⟨rfl, hb2⟩
  have HB2 := Lib.hid (HB1.out.trans (hb2.mono (by have := HB1.out.size; simpa using this)))
  have HBw2 := Lib.hid (boxW _ HB2.out)
  clear hb2 b0 b1 b2 b3 b4
  cases sb
  · have HF := Lib.hid (HP3.out w2 (by first | rfl | trivial) (by first | rfl | trivial) HBw2.out)
    go_wp2_with fail
    exact HF.out
  have HG1 := Lib.hid (HSg.out (by first | rfl | trivial) (by first | rfl | trivial) w2 HBw2.out)
  ((try clear b0 b1 b2 b3 b4); have b0 := box_cell HB2.out 0; have b1 := box_cell HB2.out 1; have b2 := box_cell HB2.out 2; have b3 := box_cell HB2.out 3; have b4 := box_cell HB2.out 4; (try simp at b0 b1 b2 b3 b4))
  go_wp2_with fail
  refine HG1.out.mono ?_
  rintro e w3 ⟨⟨a3, c3, rfl, hS3⟩, hb3⟩
  have HB3 := Lib.hid (HB2.out.trans (hb3.mono (by have := HB2.out.size; simpa using this)))
  have HBw3 := Lib.hid (boxW _ HB3.out)
  have HS3 := Lib.hid hS3
  have HN1 := Lib.hid (HNm.out w3 HBw3.out (by omega))
  clear hS3 hb3
  ((try clear b0 b1 b2 b3 b4); have b0 := box_cell HB3.out 0; have b1 := box_cell HB3.out 1; have b2 := box_cell HB3.out 2; have b3 := box_cell HB3.out 3; have b4 := box_cell HB3.out 4; (try simp at b0 b1 b2 b3 b4))
  go_wp2_with fail
  refine HN1.out.mono ?_
  rintro e w4 ⟨⟨a4, c4, rfl, hN4⟩, hb4⟩
  have HB4w := Lib.hid (HBw3.out.trans (hb4.mono HBw3.out.size))
  have HS4 := Lib.hid (HS3.out.keep (keeps_of_below hb4))
  have HN4 := Lib.hid hN4
  have HNA := Lib.hid hN4.addr
  have HB40 : Hid (Below w4.heap.size w4 w4) := Below.refl _ _
  clear hN4 hb4 b0 b1 b2 b3 b4
  go_wp2_with fail
  go_loopw [12, 11] (fun i v wr => ∃ k : Nat, i = .int .i64 k ∧ k ≤ NA.length ∧ Hid (wr.ownsRow w4.heap.size 65 2 v k (sigCells (NS.take k))) ∧ Hid (Below w4.heap.size w4 wr)) (fun i _ _ => NA.length - (intOf i).toNat)
  case atStart => exact ⟨0, rfl, Nat.zero_le _, World.ownsRow_nil _ _ _ _, HB40⟩
  case round =>
    obtain ⟨k, rfl, hk, HO, HB⟩ := hrel
    have hzr := HB.out.size
    have hkn : k ≤ 1073741824 := by omega
    obtain ⟨va, vc, hv, _⟩ := slice_of_own HO.out hkn
    subst hv
    by_cases hlt : k < NA.length
    · obtain ⟨b, off, ha⟩ := HNA.out.resolve_left (by omega)
      subst ha
      have HALLk : Hid (∀ w', Below w4.heap.size w4 w' → w'.cell? ⟨b, off + k, none⟩ = some (.string (NA[k]'hlt))) := fun w' h => (HN4.out.keep (keeps_of_below h)).get rfl hlt
      have HSk := Lib.hid (HTk.out k hlt)
      have HVk := Lib.hid (fun W (hW : Below w4.heap.size w4 W) => rVal32_any RS a3 c3 (NA[k]'hlt) W (HS4.out.keep (keeps_of_below hW)))
      have HOk : Hid (∀ W, Below wr.heap.size wr W → W.ownsRow w4.heap.size 65 2 (.slice va k vc) k (sigCells (NS.take k))) := fun W hW => ownsRow_below HO.out hW
      generalize (valS RS (NA[k]'hlt)).getD 0 = z at HSk HVk
      generalize (NA[k]'hlt) = s at HALLk HSk HVk
      have hkl : (k : Int) < NA.length := by omega
      have c0 := HALLk.out _ HB.out
      have hB := HB.out
      go_wp2_with fail
      go_region_held3 (fun w' => Below w4.heap.size w4 w' ∧ w'.cell? ⟨b, off + k, none⟩ = some (.string s))
        ((refine (fun h => ⟨h, HALLk.out _ h⟩) ?_; first | assumption | exact Below.grown (by first | assumption | exact (by repeat (first | assumption | exact Below.refl _ _ | refine Below.drew ?_ | refine below_drewN ?_ _ | refine Below.alloc ?_ (by first | omega | (simp only [World.size_alloc, World.size_setCell, World.size_drew, World.heap_drewN] <;> omega) | (simp <;> omega)) _ | refine Below.setCell ?_ (by first | omega | (simp only [World.size_alloc, World.size_setCell, World.size_drew, World.heap_drewN] <;> omega) | (simp <;> omega)) _))) hgrow (by first | omega | (simp only [World.size_alloc, World.size_setCell, World.size_drew, World.heap_drewN] <;> omega) | (simp <;> omega)) (fun j hj => (HO.out.lt j hj).1) | exact (by repeat (first | assumption | exact Below.refl _ _ | refine Below.drew ?_ | refine below_drewN ?_ _ | refine Below.alloc ?_ (by first | omega | (simp only [World.size_alloc, World.size_setCell, World.size_drew, World.heap_drewN] <;> omega) | (simp <;> omega)) _ | refine Below.setCell ?_ (by first | omega | (simp only [World.size_alloc, World.size_setCell, World.size_drew, World.heap_drewN] <;> omega) | (simp <;> omega)) _))))
        (first | (go_at_call 24; (with_reducible refine (HVk.out _ (by first | assumption | exact (by repeat (first | assumption | exact Below.refl _ _ | refine Below.drew ?_ | refine below_drewN ?_ _ | refine Below.alloc ?_ (by first | omega | (simp only [World.size_alloc, World.size_setCell, World.size_drew, World.heap_drewN] <;> omega) | (simp <;> omega)) _ | refine Below.setCell ?_ (by first | omega | (simp only [World.size_alloc, World.size_setCell, World.size_drew, World.heap_drewN] <;> omega) | (simp <;> omega)) _)))).mono ?_); rintro r wn ⟨rfl, rfl⟩) | (refine own_step elemG (by rfl) _ _ (by rfl) w4.heap.size (.slice va k vc) k (sigCells (NS.take k)) (by rfl) (HOk.out _ (by exact (by repeat (first | assumption | exact Below.refl _ _ | refine Below.drew ?_ | refine below_drewN ?_ _ | refine Below.alloc ?_ (by first | omega | (simp only [World.size_alloc, World.size_setCell, World.size_drew, World.heap_drewN] <;> omega) | (simp <;> omega)) _ | refine Below.setCell ?_ (by first | omega | (simp only [World.size_alloc, World.size_setCell, World.size_drew, World.heap_drewN] <;> omega) | (simp <;> omega)) _)))) [.string s, .int .i64 z] (by rfl) (by simp [Value.oneCell']) _ 1 (by rfl) (heap_alloc_new' _ _) hkn (by first | omega | (simp only [World.size_alloc, World.size_setCell, World.size_drew, World.heap_drewN] <;> omega) | (simp <;> omega)) _ rfl ?_; intro g gcap wg hownG hgrow hatG hltG))
      all_goals
        have HXg := Lib.hid hownG
        have HBg : Hid (Below w4.heap.size w4 wg) := by
          first
            | assumption
            | exact (by assumption : Below w4.heap.size _ wg ∧ _).1
            | exact Below.grown (by first | assumption | exact (by repeat (first | assumption | exact Below.refl _ _ | refine Below.drew ?_ | refine below_drewN ?_ _ | refine Below.alloc ?_ (by first | omega | (simp only [World.size_alloc, World.size_setCell, World.size_drew, World.heap_drewN] <;> omega) | (simp <;> omega)) _ | refine Below.setCell ?_ (by first | omega | (simp only [World.size_alloc, World.size_setCell, World.size_drew, World.heap_drewN] <;> omega) | (simp <;> omega)) _))) hgrow (by first | omega | (simp only [World.size_alloc, World.size_setCell, World.size_drew, World.heap_drewN] <;> omega) | (simp <;> omega)) (fun j hj => (HO.out.lt j hj).1)
        clear hownG hgrow c0 hB
        go_wp2_with fail
        go_roundw
        case rel => exact ⟨k + 1, by go_num, by omega, (by show World.ownsRow _ _ _ _ _ _ _; rw [HSk.out, sigCells_snoc]; exact HXg.out), HBg⟩
        case measure => (simp [intOf]; try omega)
    · obtain rfl : k = NA.length := by omega
      have ho := HO.out
      rw [List.take_of_length_le (by rw [HNl.out]; omega), ← HNl.out] at ho
      obtain ⟨a', cap', hv, hs⟩ := sigs_of_own ho (by rw [HNl.out]; omega)
      rw [HNl.out] at hv
      simp only [Value.slice.injEq, true_and] at hv
      obtain ⟨rfl, rfl⟩ := hv
      have HF := Lib.hid (HP1.out va vc wr (by first | rfl | trivial) (by first | rfl | trivial) (by rw [← HEq.out (by first | rfl | trivial) (by first | rfl | trivial)]; exact hs) (HB4w.out.trans (HB.out.mono HB4w.out.size)))
      rw [← HEq.out (by first | rfl | trivial) (by first | rfl | trivial), HNl.out] at HF
      clear ho hs
      go_wp2_with fail
      exact HF.out
end Go.Proofs.YteaeemkodbodmaaGreatDoor
