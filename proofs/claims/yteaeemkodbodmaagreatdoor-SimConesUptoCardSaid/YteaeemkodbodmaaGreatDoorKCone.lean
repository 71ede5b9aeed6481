/- ref31.Cone: the signals that a signal depends on. -/
import Derived.Test.YteaeemkodbodmaaGreatDoorKBelow
import Derived.Test.YteaeemkodbodmaaGreatDoorDM
set_option linter.unusedSimpArgs false
set_option linter.unusedVariables false
set_option linter.unnecessarySimpa false
namespace Go.Proofs.YteaeemkodbodmaaGreatDoor
open Go.RowKit
attribute [local go_sem ↓] Go.wp_at_zero Go.wp_at_succ

def lenV : Value → Nat
  | .slice _ n _ => n
  | _ => 0
theorem ownsRow_lit (w : World) (nm : ByteArray) : (w.alloc (.cells #[.string nm] 9)).ownsRow w.heap.size 9 1 (.slice (some ⟨w.heap.size, 0, none⟩) 1 1) 1 [.string nm] :=
  ⟨rfl, Or.inr ⟨w.heap.size, 1, #[.string nm], rfl, Nat.le_refl _, heap_alloc_at _ _ _ rfl, Nat.le_refl _, by unfold maxLen; omega, rfl, rfl⟩⟩
theorem names_ne {d : DesD} (h : d.err = 0) {s : ByteArray} (hs : (idxT d.names s).isSome = true) : s.toList ≠ [] := by
  obtain ⟨k, hk, _, he⟩ := idxT_get hs
  rw [← he]
  have h0 : d.nmErr = 0 := by
    rw [err_ref] at h
    unfold errC at h
    split at h
    · rename_i h1; exact absurd h h1
    · rename_i h1; simpa using h1
  have h1 : (d.names.all fun s => nameB s.data.toList) = true := by
    cases hb : d.names.all fun s => nameB s.data.toList with
    | true => rfl
    | false => rw [nmErr_names hb] at h0; simp at h0
  have h2 := List.all_eq_true.1 h1 _ (List.getElem_mem hk)
  rw [ByteArray.toList_eq]
  intro hn
  rw [hn] at h2
  simp [nameB, wordB] at h2
set_option maxRecDepth 100000 in
set_option maxHeartbeats 16000000 in
theorem Cone_any (d : DesD) (x : DesA) (nm : ByteArray) (w : World) (hE : DesIn w d x) (hs : DesSmall d) (he : d.err = 0) (hn : (idxT d.names nm).isSome = true) :
    Calls Tryz.prog 22 #[desVal d x, .string nm] w fun e w' => (∃ C a c, e = .returned (.tuple #[.slice a C.length c, .int .i64 0]) ∧ StrsIn w' C a c ∧ ConeD d nm C) ∧ Below w.heap.size w w' := by
  have hd := desOk_of_err he
  have hl := hs.len
  have HV0 : Hid (∀ W, Below w.heap.size w W → Calls Tryz.prog 21 #[desVal d x] W fun e w' => e = .returned (.int .i64 0) ∧ Below W.heap.size W w') := fun W hW => (rValidD_any d x W (hE.below hW) hs).mono fun e w' h => by rw [he] at h; exact h
  have HN0 := Lib.hid (fun W (hW : Below w.heap.size w W) => rNames31_any d x W (hE.below hW) (by simp [DesD.names]; omega))
  have HIx : Hid (∀ W a c, StrsIn W d.names a c → Calls Tryz.prog 44 #[.slice a d.names.length c, .string nm] W fun e w' => (∃ q : Nat, e = .returned (.int .i64 (q : Int))) ∧ W = w') := fun W a c h => (index_any d.names a c nm W h).mono fun e w' h => by
    obtain ⟨k, _, hk, _⟩ := idxT_get hn
    exact ⟨⟨k, by rw [h.1]; unfold idxI; rw [hk]⟩, h.2⟩
  have HBl : Hid (∀ W, Below w.heap.size w W → Calls Tryz.prog 45 #[desVal d x, .slice (some ⟨W.heap.size, 0, none⟩) 1 1] (W.alloc (.cells #[.string nm] 9)) fun e w' => (∃ R a c, e = .returned (.slice a R.length c) ∧ StrsIn w' R a c ∧ BelInv d nm R R.length ∧ R.length ≤ 48) ∧ Below W.heap.size W w') := fun W hW => (below_any d x nm W.heap.size 1 W.heap.size _ (fun W' hW' => hE.below (hW.trans ((Below.refl _ _ : Below W.heap.size W W).alloc (Nat.le_refl _) _ |>.trans (hW'.mono (by simp)) |>.mono hW.size))) hs he hn (ownsRow_lit W nm) (by simp)).mono fun e w' h => ⟨h.1, ((Below.refl _ _ : Below W.heap.size W W).alloc (Nat.le_refl _) _).trans (h.2.mono (by simp))⟩
  have HWi0 := Lib.hid (fun s W (hW : Below w.heap.size w W) => wire_any d x s W (hE.below hW))
  have HWv : Hid (∀ s, (d.wireIdx s = none ∧ d.wireI s = -1) ∨ ∃ k : Nat, ¬ d.wireIdx s = none ∧ d.wireI s = (k : Int)) := fun s => by
    unfold DesD.wireI
    cases h : d.wireIdx s with
    | none => exact Or.inl ⟨rfl, rfl⟩
    | some k => exact Or.inr ⟨k, by simp, rfl⟩
  have HNe : Hid (∀ R k, BelInv d nm R k → ∀ s ∈ R, s.toList ≠ []) := fun R k h s hs' => names_ne he (h.sub s hs')
  have HDn : Hid (∀ R O, BelInv d nm R R.length → (∀ j (hj : j < R.length), ¬ Cand d O (R[j]'hj)) → ConeD d nm O) := fun R O h hb => cone_done hd h hb
  clear hE hs he hn hd hl
  simp only [desVal, desVals] at HV0 HN0 HBl HWi0 ⊢
  have hbA : Below w.heap.size w (w.alloc (.cells #[.string d.name, .slice x.ai d.inputs.length x.ci, .slice x.aw d.wires.length x.cw, .slice x.ar d.regs.length x.cr, .slice x.ao d.outputs.length x.co] 27)) := (by repeat (first | assumption | exact Below.refl _ _ | refine Below.drew ?_ | refine below_drewN ?_ _ | refine Below.alloc ?_ (by first | omega | (simp only [World.size_alloc, World.size_setCell, World.size_drew, World.heap_drewN] <;> omega) | (simp <;> omega)) _ | refine Below.setCell ?_ (by first | omega | (simp only [World.size_alloc, World.size_setCell, World.size_drew, World.heap_drewN] <;> omega) | (simp <;> omega)) _))
  have HB0 : Hid (Below (w.heap.size + 1) (w.alloc (.cells #[.string d.name, .slice x.ai d.inputs.length x.ci, .slice x.aw d.wires.length x.cw, .slice x.ar d.regs.length x.cr, .slice x.ao d.outputs.length x.co] 27)) (w.alloc (.cells #[.string d.name, .slice x.ai d.inputs.length x.ci, .slice x.aw d.wires.length x.cw, .slice x.ar d.regs.length x.cr, .slice x.ao d.outputs.length x.co] 27))) := Below.refl _ _
  have HV1 := Lib.hid (HV0.out _ hbA)
  clear HV0 hbA
  go_enter Tryz.func22, Tryz.ntmps22
  go_wp2_with fail
  refine HV1.out.mono ?_
  rintro e w1 ⟨rfl, hb1⟩
  have HB1 := Lib.hid (HB0.out.trans (hb1.mono (by simp)))
  have hz1 := HB1.out.size
  simp only [World.size_alloc] at hz1
  ((try clear b0 b1 b2 b3 b4); have b0 := box_cell HB1.out 0; have b1 := box_cell HB1.out 1; have b2 := box_cell HB1.out 2; have b3 := box_cell HB1.out 3; have b4 := box_cell HB1.out 4; (try simp at b0 b1 b2 b3 b4))
  clear hb1
  go_wp2_with fail
  refine (HN0.out w1 (boxW _ HB1.out)).mono ?_
  rintro e w2 ⟨⟨a2, c2, rfl, hS2⟩, hb2⟩
  have HB2 := Lib.hid (HB1.out.trans (hb2.mono hz1))
  have hz2 := HB2.out.size
  simp only [World.size_alloc] at hz2
  have HIx2 := Lib.hid (HIx.out w2 a2 c2 hS2)
  clear hb2 hS2
  go_wp2_with fail
  refine HIx2.out.mono ?_
  rintro e w2' ⟨⟨q, rfl⟩, rfl⟩
  have hd0 : decide ((q : Int) < 0) = false := decide_eq_false (by omega)
  ((try clear b0 b1 b2 b3 b4); have b0 := box_cell HB2.out 0; have b1 := box_cell HB2.out 1; have b2 := box_cell HB2.out 2; have b3 := box_cell HB2.out 3; have b4 := box_cell HB2.out 4; (try simp at b0 b1 b2 b3 b4))
  have HBl2 := Lib.hid (HBl.out w2 (boxW _ HB2.out))
  go_wp2_with fail
  refine HBl2.out.mono ?_
  rintro e w3 ⟨⟨R, aR, cR, rfl, hS3, hI3, h48⟩, hb3⟩
  have HB3 := Lib.hid (HB2.out.trans (hb3.mono hz2))
  have hz3 := HB3.out.size
  simp only [World.size_alloc] at hz3
  have HS := Lib.hid hS3
  have HSA := Lib.hid (SliceIn.addr hS3)
  have hsc := hS3.1
  have HI := Lib.hid hI3
  clear hb3 hS3 hI3 HBl2 HBl HIx HIx2 HN0 HV1 b0 b1 b2 b3 b4
  have HO0 : Hid (OutInv R []) := ⟨fun s hs => by simp at hs, rfl⟩
  go_wp2_with fail
  go_loopw [8] (fun v wr => ∃ (O : List ByteArray) (ao : Option Addr) (co : Nat), v = .slice ao O.length co ∧ O.length ≤ 48 ∧ Hid (OutInv R O) ∧ Hid (wr.ownsRow (w3.heap.size) 9 1 (.slice ao O.length co) O.length (O.map Value.string)) ∧ Hid (Below w3.heap.size w3 wr)) (fun v _ => 49 - lenV v)
  case atStart => exact ⟨[], none, 0, rfl, by simp, HO0, World.ownsRow_nil _ _ _ _, Below.refl _ _⟩
  case round =>
    obtain ⟨O, ao, co, rfl, hO48, HO, HOw, HBr⟩ := hrel
    have HBw := Lib.hid (HB3.out.trans (HBr.out.mono hz3))
    have hOn : O.length ≤ 1073741824 := by omega
    have HOs : Hid (StrsIn wr O ao co) := by
      obtain ⟨a', c', hv, hs⟩ := strs_of_own HOw.out hOn
      injection hv with e1 e2 e3
      subst e1 e3
      exact hs
    have hoc := HOs.out.1
    have HB9 : Hid (BestAt d R O 0 ⟨#[]⟩) := Or.inl ⟨by rw [ByteArray.toList_eq], fun j _ hj => absurd hj (by omega)⟩
    rename World => wo
    go_wp2_with fail
    go_loopw [10, 9] (fun i v wq => ∃ (k : Nat) (b : ByteArray), i = .int .i64 k ∧ v = .string b ∧ k ≤ R.length ∧ Hid (BestAt d R O k b) ∧ Hid (Below wo.heap.size wo wq)) (fun i _ _ => R.length - (intOf i).toNat)
    case atStart => exact ⟨0, _, rfl, rfl, Nat.zero_le _, HB9, Below.refl _ _⟩
    case round =>
      obtain ⟨k, b, rfl, rfl, hk, HBe, HBq⟩ := hrel
      have HBt : Hid (Below w3.heap.size w3 wr) := HBr.out.trans (HBq.out.mono HBr.out.size)
      have HBx := Lib.hid (HB3.out.trans (HBt.out.mono hz3))
      have hzr := HBx.out.size
      simp only [World.size_alloc] at hzr
      by_cases hlt : k < R.length
      · obtain ⟨bR, oR, haR⟩ := HSA.out.resolve_left (by omega)
        subst haR
        have c0 := (HS.out.keep (keeps_of_below HBt.out)).get rfl hlt
        have hv := HWv.out (R[k]'hlt)
        have HWi := Lib.hid (fun W (hW : Below wr.heap.size wr W) => (HWi0.out (R[k]'hlt) W ((boxW _ HBx.out).trans (hW.mono (boxW _ HBx.out).size))).mono fun e w' h => (⟨h.1, hW.trans (h.2.mono hW.size)⟩ : _ ∧ Below wr.heap.size wr w'))
        have HIx := Lib.hid (fun W (hW : Below wr.heap.size wr W) => index_any O ao co (R[k]'hlt) W (HOs.out.keep (keeps_of_below (HBq.out.trans (hW.mono HBq.out.size)))))
        have HNo : Hid (¬ Cand d O (R[k]'hlt) → BestAt d R O (k + 1) b) := fun h => best_no HBe.out hlt h
        have HKe : Hid (b.toList ≠ [] → BestAt d R O (k + 1) b) := fun h => best_keep HBe.out h
        have HNw : Hid (Cand d O (R[k]'hlt) → BestAt d R O (k + 1) (R[k]'hlt)) := fun h => best_new hlt h (HNe.out _ _ HI.out _ (List.getElem_mem hlt))
        ((try clear b0 b1 b2 b3 b4); have b0 := box_cell HBx.out 0; have b1 := box_cell HBx.out 1; have b2 := box_cell HBx.out 2; have b3 := box_cell HBx.out 3; have b4 := box_cell HBx.out 4; (try simp at b0 b1 b2 b3 b4))
        have e0 : ∀ g : Grow wr.heap.size wr, g.w'.cell? ⟨w.heap.size, 0, none⟩ = some (.string d.name) := Grow.old b0 (Nat.le_refl _)
        have e1 : ∀ g : Grow wr.heap.size wr, g.w'.cell? ⟨w.heap.size, 1, none⟩ = some (.slice x.ai d.inputs.length x.ci) := Grow.old b1 (Nat.le_refl _)
        have e2 : ∀ g : Grow wr.heap.size wr, g.w'.cell? ⟨w.heap.size, 2, none⟩ = some (.slice x.aw d.wires.length x.cw) := Grow.old b2 (Nat.le_refl _)
        have e3 : ∀ g : Grow wr.heap.size wr, g.w'.cell? ⟨w.heap.size, 3, none⟩ = some (.slice x.ar d.regs.length x.cr) := Grow.old b3 (Nat.le_refl _)
        have e4 : ∀ g : Grow wr.heap.size wr, g.w'.cell? ⟨w.heap.size, 4, none⟩ = some (.slice x.ao d.outputs.length x.co) := Grow.old b4 (Nat.le_refl _)
        have e5 : ∀ g : Grow wr.heap.size wr, g.w'.cell? ⟨bR, oR + k, none⟩ = some (.string (R[k]'hlt)) := Grow.old c0 (Nat.le_refl _)
        clear b0 b1 b2 b3 b4 HBe
        rcases hv with ⟨hw, hv⟩ | ⟨q2, hw, hv⟩
        · rw [hv] at HWi
          cases hx : idxT O (R[k]'hlt) with
          | some t =>
            have HB5 := Lib.hid (HNo.out (fun h => by have := h.2; rw [hx] at this; simp at this))
            have e : idxI O (R[k]'hlt) = (t : Int) := by unfold idxI; rw [hx]
            rw [e] at HIx
            have hd1 : decide ((t : Int) < 0) = false := decide_eq_false (by omega)
            clear hx e HNo HKe HNw hw hv c0
            generalize (R[k]'hlt) = s at e5 HWi HIx
            go_wp2_with fail
            (refine wp_region_grow (B := wr.heap.size) (w0 := wr) (by kernel_rfl) (by kernel_rfl) (by repeat (first | assumption | exact Below.refl _ _ | refine Below.drew ?_ | refine below_drewN ?_ _ | refine Below.alloc ?_ (by first | omega | (simp only [World.size_alloc, World.size_setCell, World.size_drew, World.heap_drewN] <;> omega) | (simp <;> omega)) _ | refine Below.setCell ?_ (by first | omega | (simp only [World.size_alloc, World.size_setCell, World.size_drew, World.heap_drewN] <;> omega) | (simp <;> omega)) _)) ?_; (repeat (go_big_quiet_step ((first | (go_at_call 46; (with_reducible exact grow_call (HWi.out _ (Grow.h _)))) | (go_at_call 44; (with_reducible exact grow_callS _ (HIx.out _ (Grow.h _)))))))); refine wpQuiet_nil ?_; intro wg hCg; have hbg := grow_out hCg; clear hCg)
            go_wp2_with fail
            go_roundw
            case rel => exact ⟨k + 1, b, by go_num, rfl, by omega, HB5, HBq.out.trans (hbg.mono HBq.out.size)⟩
            case measure => (simp [intOf]; try omega)
          | none =>
            have HCa : Hid (Cand d O (R[k]'hlt)) := ⟨hw, hx⟩
            have HB6 := Lib.hid (HNw.out HCa.out)
            have e : idxI O (R[k]'hlt) = -1 := by unfold idxI; rw [hx]
            rw [e] at HIx
            clear hx e HNo HNw hw hv
            by_cases hbe : b.toList = []
            · generalize (R[k]'hlt) = s at e5 HWi HIx HB6 c0
              clear HKe
              have hbe2 : (b.toList == ([] : List UInt8)) = true := by rw [hbe]; rfl
              go_wp2_with fail
              (refine wp_region_grow (B := wr.heap.size) (w0 := wr) (by kernel_rfl) (by kernel_rfl) (by repeat (first | assumption | exact Below.refl _ _ | refine Below.drew ?_ | refine below_drewN ?_ _ | refine Below.alloc ?_ (by first | omega | (simp only [World.size_alloc, World.size_setCell, World.size_drew, World.heap_drewN] <;> omega) | (simp <;> omega)) _ | refine Below.setCell ?_ (by first | omega | (simp only [World.size_alloc, World.size_setCell, World.size_drew, World.heap_drewN] <;> omega) | (simp <;> omega)) _)) ?_; (repeat (go_big_quiet_step ((first | (go_at_call 46; (with_reducible exact grow_call (HWi.out _ (Grow.h _)))) | (go_at_call 44; (with_reducible exact grow_callS _ (HIx.out _ (Grow.h _)))))))); refine wpQuiet_nil ?_; intro wg hCg; have hbg := grow_out hCg; clear hCg)
              have c1 := (keeps_of_below hbg) _ _ c0
              go_wp2_with fail
              go_roundw
              case rel => exact ⟨k + 1, s, by go_num, rfl, by omega, HB6, HBq.out.trans (hbg.mono HBq.out.size)⟩
              case measure => (simp [intOf]; try omega)
            · have HB5 := Lib.hid (HKe.out hbe)
              generalize (R[k]'hlt) = s at e5 HWi HIx HB6 c0
              have hbe2 : (b.toList == ([] : List UInt8)) = false := by simpa using hbe
              clear HKe hbe
              go_wp2_with fail
              (refine wp_region_grow (B := wr.heap.size) (w0 := wr) (by kernel_rfl) (by kernel_rfl) (by repeat (first | assumption | exact Below.refl _ _ | refine Below.drew ?_ | refine below_drewN ?_ _ | refine Below.alloc ?_ (by first | omega | (simp only [World.size_alloc, World.size_setCell, World.size_drew, World.heap_drewN] <;> omega) | (simp <;> omega)) _ | refine Below.setCell ?_ (by first | omega | (simp only [World.size_alloc, World.size_setCell, World.size_drew, World.heap_drewN] <;> omega) | (simp <;> omega)) _)) ?_; (repeat (go_big_quiet_step ((first | (go_at_call 46; (with_reducible exact grow_call (HWi.out _ (Grow.h _)))) | (go_at_call 44; (with_reducible exact grow_callS _ (HIx.out _ (Grow.h _)))))))); refine wpQuiet_nil ?_; intro wg hCg; have hbg := grow_out hCg; clear hCg)
              have c1 := (keeps_of_below hbg) _ _ c0
              go_wp2_with fail
              all_goals go_roundw
              all_goals
                first
                | exact ⟨k + 1, s, by go_num, rfl, by omega, HB6, HBq.out.trans (hbg.mono HBq.out.size)⟩
                | exact ⟨k + 1, b, by go_num, rfl, by omega, HB5, HBq.out.trans (hbg.mono HBq.out.size)⟩
                | (simp [intOf]; done)
                | (simp [intOf]; omega)
        · have HB5 := Lib.hid (HNo.out (fun h => hw h.1))
          rw [hv] at HWi
          have hd1 : decide ((q2 : Int) < 0) = false := decide_eq_false (by omega)
          clear HNo HKe HNw hw hv c0 HIx
          generalize (R[k]'hlt) = s at e5 HWi
          go_wp2_with fail
          (refine wp_region_grow (B := wr.heap.size) (w0 := wr) (by kernel_rfl) (by kernel_rfl) (by repeat (first | assumption | exact Below.refl _ _ | refine Below.drew ?_ | refine below_drewN ?_ _ | refine Below.alloc ?_ (by first | omega | (simp only [World.size_alloc, World.size_setCell, World.size_drew, World.heap_drewN] <;> omega) | (simp <;> omega)) _ | refine Below.setCell ?_ (by first | omega | (simp only [World.size_alloc, World.size_setCell, World.size_drew, World.heap_drewN] <;> omega) | (simp <;> omega)) _)) ?_; (repeat (go_big_quiet_step ((go_at_call 46; (with_reducible exact grow_call (HWi.out _ (Grow.h _))))))); refine wpQuiet_nil ?_; intro wg hCg; have hbg := grow_out hCg; clear hCg)
          go_wp2_with fail
          go_roundw
          case rel => exact ⟨k + 1, b, by go_num, rfl, by omega, HB5, HBq.out.trans (hbg.mono HBq.out.size)⟩
          case measure => (simp [intOf]; try omega)
      · obtain rfl : k = R.length := by omega
        rcases HBe.out with ⟨hb0, hno⟩ | ⟨hb0, j, hj, hjk, hbj, hca⟩
        · have HCo := Lib.hid (HDn.out R O HI.out (fun j hj => hno j hj hj))
          have hbe : (b.toList == ([] : List UInt8)) = true := by rw [hb0]; rfl
          go_wp2_with fail
          go_ret2
          exact ⟨⟨O, ao, co, rfl, HOs.out.keep (keeps_of_below HBq.out), HCo.out⟩, boxW _ HBx.out⟩
        · have hbm : b ∈ R := by rw [hbj]; exact List.getElem_mem hj
          have HO5 := Lib.hid (HO.out.push hbm hca.2)
          have h49 : (O ++ [b]).length ≤ R.length := HO5.out.len
          rw [List.length_append, List.length_singleton] at h49
          have hbe : (b.toList == ([] : List UInt8)) = false := by simpa using hb0
          have HOw2 := Lib.hid (ownsRow_below HOw.out HBq.out)
          have hzt := HBt.out.size
          clear hb0 hbj hca hj hjk j HBe
          go_wp2_with (at_builtin; go_must (refine own_appx elemS _ rfl (.tmp 66) (.tmp 68) rfl w3.heap.size (.slice ao O.length co) O.length (O.map Value.string) rfl HOw2.out [.string b] 1 _ 1 rfl (by simp [Value.oneCell']) rfl (by first | rfl | simp) (by omega) (by omega) (by first | omega | (simp only [World.size_alloc, World.size_setCell, World.size_drew, World.heap_drewN] <;> omega) | (simp <;> omega)) ?_))
          intro g' cap' w5 ho hg hat
          have HOw5 : Hid (w5.ownsRow w3.heap.size 9 1 (.slice (some ⟨g', 0, none⟩) (O ++ [b]).length cap') (O ++ [b]).length ((O ++ [b]).map Value.string)) := by
            show World.ownsRow _ _ _ _ _ _ _
            simpa using ho
          have HB5 : Hid (Below w3.heap.size w3 w5) := Below.grown (HBt.out.alloc HBt.out.size _) hg (by have := HBt.out.size; simp; omega) (fun j hj => (HOw2.out.lt j hj).1)
          clear ho hg hat
          go_wp2_with fail
          go_roundw
          case rel => exact ⟨O ++ [b], some ⟨g', 0, none⟩, cap', by simp, by simp; omega, HO5, HOw5, HB5⟩
          case measure => (simp [lenV]; try omega)
end Go.Proofs.YteaeemkodbodmaaGreatDoor
