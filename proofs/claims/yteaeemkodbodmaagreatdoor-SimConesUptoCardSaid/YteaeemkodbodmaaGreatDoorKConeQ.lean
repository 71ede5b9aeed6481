/- The second state and the second inputs of SimCones, plain. -/
import Derived.Test.YteaeemkodbodmaaGreatDoorKConeP
import Derived.Test.YteaeemkodbodmaaGreatDoorDX
set_option linter.unusedSimpArgs false
set_option linter.unusedVariables false
set_option linter.unnecessarySimpa false
namespace Go.Proofs.YteaeemkodbodmaaGreatDoor

def pickI (C : List ByteArray) (ix iy : Sigs) (s : ByteArray) : Sigs := if (idxT C s).isSome = true then ix else iy
def pickR (C : List ByteArray) (sx sy : List Int) (i : Nat) (s : ByteArray) : Int := if (idxT C s).isSome = true then sx.getD i 0 else sy.getD i 0
def newSt (d : DesD) (C : List ByteArray) (sx sy : List Int) : List Int := (List.range d.regs.length).map fun i => pickR C sx sy i ((d.regs[i]?.map (·.name)).getD ⟨#[]⟩)
def newIn (d : DesD) (C : List ByteArray) (ix iy : Sigs) : Sigs := newIns d fun i => pickI C ix iy ((d.inputs[i]?.map (·.name)).getD ⟨#[]⟩)
theorem newSt_len (d : DesD) (C : List ByteArray) (sx sy : List Int) : (newSt d C sx sy).length = d.regs.length := by simp [newSt]
theorem newSt_at {d : DesD} {C : List ByteArray} {sx sy : List Int} {k : Nat} (hk : k < d.regs.length) : (newSt d C sx sy)[k]? = some (pickR C sx sy k (d.regs[k]'hk).name) := by
  unfold newSt
  rw [List.getElem?_map, List.getElem?_range hk]
  simp [hk]
theorem newIn_len (d : DesD) (C : List ByteArray) (ix iy : Sigs) : (newIn d C ix iy).length = d.inputs.length := by simp [newIn, newIns]
theorem newIn_at {d : DesD} {C : List ByteArray} {ix iy : Sigs} {k : Nat} (hk : k < d.inputs.length) : (newIn d C ix iy)[k]? = some ((d.inputs[k]'hk).name, (valS (pickI C ix iy (d.inputs[k]'hk).name) (d.inputs[k]'hk).name).getD 0) := by
  unfold newIn
  rw [newIns_at hk]
  simp [hk]
theorem newSt_state {d : DesD} {C : List ByteArray} {sx sy : List Int} (hx : d.stateB sx = true) (hy : d.stateB sy = true) : d.stateB (newSt d C sx sy) = true := by
  obtain ⟨lx, gx⟩ := stateB_iff.1 hx
  obtain ⟨ly, gy⟩ := stateB_iff.1 hy
  refine stateB_iff.2 ⟨newSt_len d C sx sy, fun i h h' => ?_⟩
  have h1 := newSt_at (C := C) (sx := sx) (sy := sy) h
  rw [List.getElem?_eq_getElem h'] at h1
  rw [Option.some.inj h1]
  have e1 := gx i h (by omega)
  have e2 := gy i h (by omega)
  unfold pickR
  split
  · rw [List.getD_eq_getElem?_getD, List.getElem?_eq_getElem (by omega : i < sx.length)]
    exact e1
  · rw [List.getD_eq_getElem?_getD, List.getElem?_eq_getElem (by omega : i < sy.length)]
    exact e2
/-- an input's name, and a register's, is no wire's -/
theorem input_noWire {d : DesD} (hd : DesOk d) {i : Nat} (hi : i < d.inputs.length) : d.wireIdx (d.inputs[i]'hi).name = none := by
  refine idxT_none.2 fun s hs he => ?_
  obtain ⟨v, hv, rfl⟩ := List.mem_map.1 hs
  obtain ⟨j, hj, rfl⟩ := List.getElem_of_mem hv
  have h1 : d.names[d.inputs.length + j]? = some (d.wires[j]'hj).name := by
    unfold DesD.names
    rw [List.append_assoc, List.getElem?_append_right (by simp), List.getElem?_append_left (by simp; omega)]
    simp [hj]
  have h2 : d.names[i]? = some (d.inputs[i]'hi).name := by
    unfold DesD.names
    rw [List.append_assoc, List.getElem?_append_left (by simp; omega)]
    simp [hi]
  have := dup_get hd.names h1 h2 he
  omega
theorem reg_noWire {d : DesD} (hd : DesOk d) {i : Nat} (hi : i < d.regs.length) : d.wireIdx (d.regs[i]'hi).name = none := by
  refine idxT_none.2 fun s hs he => ?_
  obtain ⟨v, hv, rfl⟩ := List.mem_map.1 hs
  obtain ⟨j, hj, rfl⟩ := List.getElem_of_mem hv
  have h1 : d.names[d.inputs.length + j]? = some (d.wires[j]'hj).name := by
    unfold DesD.names
    rw [List.append_assoc, List.getElem?_append_right (by simp), List.getElem?_append_left (by simp; omega)]
    simp [hj]
  have h2 : d.names[d.inputs.length + (d.wires.length + i)]? = some (d.regs[i]'hi).name := by
    unfold DesD.names
    rw [List.append_assoc, List.getElem?_append_right (by simp), List.getElem?_append_right (by simp)]
    simp [hi]
  have := dup_get hd.names h1 h2 he
  omega
theorem cone_final {d : DesD} (hd : DesOk d) {nm : ByteArray} {C : List ByteArray} (hC : ConeD d nm C) {sx sy : List Int} (hx : d.stateB sx = true) (hy : d.stateB sy = true) (ix iy : Sigs) :
    valS (settleS d sx ix) nm = valS (settleS d (newSt d C sx sy) (newIn d C ix iy)) nm := by
  obtain ⟨R, hR, hm, hc⟩ := hC
  refine cone_keep hd hR (state_len hx) (newSt_len d C sx sy) ix _ (fun p hp hI => ?_) (fun i h a b hI => ?_) nm hm
  · obtain ⟨i, hi, rfl⟩ := List.getElem_of_mem hp
    have h1 := inR_iff.1 (hc _ hI (input_noWire hd hi))
    refine newIns_input hd hi ?_
    simp only [List.getElem?_eq_getElem hi, Option.map_some, Option.getD_some]
    exact if_pos h1
  · have h1 := inR_iff.1 (hc _ hI (reg_noWire hd h))
    have h2 := newSt_at (C := C) (sx := sx) (sy := sy) h
    rw [List.getElem?_eq_getElem b] at h2
    rw [Option.some.inj h2]
    unfold pickR
    rw [if_pos h1, List.getD_eq_getElem?_getD, List.getElem?_eq_getElem a]
    rfl
end Go.Proofs.YteaeemkodbodmaaGreatDoor
