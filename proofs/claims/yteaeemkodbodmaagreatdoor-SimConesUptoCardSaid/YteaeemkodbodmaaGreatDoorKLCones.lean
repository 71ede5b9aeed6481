/- law32: has, SimCones. -/
import Derived.Test.YteaeemkodbodmaaGreatDoorKConeQ
import Derived.Test.YteaeemkodbodmaaGreatDoorKCone
import Derived.Test.YteaeemkodbodmaaGreatDoorDX
set_option linter.unusedSimpArgs false
set_option linter.unusedVariables false
set_option linter.unnecessarySimpa false
namespace Go.Proofs.YteaeemkodbodmaaGreatDoor
open Go.RowKit
attribute [local go_sem ↓] Go.wp_at_zero Go.wp_at_succ

theorem has_any (l : List ByteArray) (a : Option Addr) (cap : Nat) (s : ByteArray) (w : World) (hE : StrsIn w l a cap) :
    Calls Tryz.prog 23 #[.slice a l.length cap, .string s] w fun e w' => e = .returned (.bool (idxT l s).isSome) ∧ w = w' := by
  have hlen := hE.2.1
  have HA := Lib.hid (SliceIn.addr hE)
  have HE := Lib.hid hE
  clear hE
  go_enter Tryz.func23, Tryz.ntmps23
  go_wp2_with fail
  go_loop [5] (fun i => ∃ k : Nat, i = .int .i64 k ∧ k ≤ l.length ∧ Hid (∀ j (hj : j < l.length), j < k → ((l[j]'hj).toList == s.toList) = false)) (fun i => l.length - (intOf i).toNat)
  case atStart => exact ⟨0, rfl, Nat.zero_le _, fun _ _ h => absurd h (by omega)⟩
  case round =>
    obtain ⟨k, rfl, hk, HF⟩ := hrel
    by_cases hlt : k < l.length
    · obtain ⟨b, off, ha⟩ := HA.out.resolve_left (by omega)
      subst ha
      have c0 := HE.out.get rfl hlt
      cases heq : ((l[k]'hlt).toList == s.toList)
      · have HS : Hid (∀ j (hj : j < l.length), j < k + 1 → ((l[j]'hj).toList == s.toList) = false) := fun j hj hjk => by
          by_cases e : j = k
          · subst e; exact heq
          · exact HF.out j hj (by omega)
        go_wp2_with fail
        go_round
        case rel => exact ⟨k + 1, by go_num, by omega, HS⟩
        case measure => (simp [intOf]; try omega)
      · have HI : Hid ((idxT l s).isSome = true) := by show _ = _; rw [idxI_at hlt HF.out heq]; rfl
        go_wp2_with fail
        go_ret
        exact ⟨by rw [HI.out]; rfl, rfl⟩
    · obtain rfl : k = l.length := by omega
      have HI : Hid ((idxT l s).isSome = false) := by show _ = _; rw [idxT_not (fun j hj => HF.out j hj hj)]; rfl
      go_wp2_with fail
      go_ret
      exact ⟨by rw [HI.out]; rfl, rfl⟩
theorem c3_cells {w wr : World} {d0 d1 d2 d3 d4 x0 x1 x2 y0 y1 y2 : Value} (hb : Below (w.heap.size + 3) (((w.alloc (.cells #[d0, d1, d2, d3, d4] 27)).alloc (.cells #[x0, x1, x2] 49)).alloc (.cells #[y0, y1, y2] 49)) wr) :
    wr.cell? ⟨w.heap.size, 0, none⟩ = some d0 ∧ wr.cell? ⟨w.heap.size, 1, none⟩ = some d1 ∧ wr.cell? ⟨w.heap.size, 2, none⟩ = some d2 ∧ wr.cell? ⟨w.heap.size, 3, none⟩ = some d3 ∧ wr.cell? ⟨w.heap.size, 4, none⟩ = some d4 ∧
    wr.cell? ⟨w.heap.size + 1, 0, none⟩ = some x0 ∧ wr.cell? ⟨w.heap.size + 1, 1, none⟩ = some x1 ∧ wr.cell? ⟨w.heap.size + 1, 2, none⟩ = some x2 ∧
    wr.cell? ⟨w.heap.size + 2, 0, none⟩ = some y0 ∧ wr.cell? ⟨w.heap.size + 2, 1, none⟩ = some y1 ∧ wr.cell? ⟨w.heap.size + 2, 2, none⟩ = some y2 := by
  have h0 := (hb.block w.heap.size (by omega)).trans (hh_old (hh_old (hh_new rfl)))
  have h1 := (hb.block (w.heap.size + 1) (by omega)).trans (hh_old (hh_new (by simp)))
  have h2 := (hb.block (w.heap.size + 2) (by omega)).trans (hh_new (by simp))
  refine ⟨?_, ?_, ?_, ?_, ?_, ?_, ?_, ?_, ?_, ?_, ?_⟩
  all_goals first | exact cell_of_blk h0 _ | exact cell_of_blk h1 _ | exact cell_of_blk h2 _
theorem c3W {w wr : World} {o1 o2 o3 : Obj} (hb : Below (w.heap.size + 3) (((w.alloc o1).alloc o2).alloc o3) wr) : Below w.heap.size w wr :=
  ((((Below.refl _ _).alloc (Nat.le_refl _) _).alloc (by simp) _).alloc (by simp; omega) _).trans (hb.mono (by omega))
theorem newSt_take {d : DesD} {C : List ByteArray} {sx sy : List Int} {k : Nat} (hk : k < d.regs.length) : ((newSt d C sx sy).map (Value.int .i64)).take (k + 1) = ((newSt d C sx sy).map (Value.int .i64)).take k ++ [.int .i64 (pickR C sx sy k (d.regs[k]'hk).name)] := by
  refine take_at ?_
  rw [List.getElem?_map, newSt_at hk]
  rfl
theorem newIn_take {d : DesD} {C : List ByteArray} {ix iy : Sigs} {k : Nat} (hk : k < d.inputs.length) : (newIn d C ix iy).take (k + 1) = (newIn d C ix iy).take k ++ [((d.inputs[k]'hk).name, (valS (pickI C ix iy (d.inputs[k]'hk).name) (d.inputs[k]'hk).name).getD 0)] := take_at (newIn_at hk)
set_option maxRecDepth 100000 in
set_option maxHeartbeats 16000000 in
theorem SimCones_any (d : DesD) (x : DesA) (sx : List Int) (ax : Option Addr) (cx : Nat) (ix : Sigs) (bx : Option Addr) (ex : Nat) (nx : Int) (sy : List Int) (ay : Option Addr) (cy : Nat) (iy : Sigs) (bY : Option Addr) (ey : Nat) (ny : Int) (w : World)
    (hE : DesIn w d x) (hs : DesSmall d) (hSx : IntsIn w sx ax cx) (hIx : SigsIn w ix bx ex) (_hnx : (Lit.int .i64 nx).wf = true) (hSy : IntsIn w sy ay cy) (hIy : SigsIn w iy bY ey) (_hny : (Lit.int .i64 ny).wf = true) (hG : Glob w) :
    Calls Tryz.prog 6 #[desVal d x, .agg #[.slice ax sx.length cx, .slice bx ix.length ex, .int .i64 nx], .agg #[.slice ay sy.length cy, .slice bY iy.length ey, .int .i64 ny]] w fun e w' => e = .returned (.bool true) ∧ Below w.heap.size w w' := by
  have HFw0 := Lib.hid (fun W (hW : Below w.heap.size w W) => Few32_any d x W (hE.below hW))
  unfold FewPost at HFw0
  have HS1 : Hid (d.err = 0 → d.stateB sx = true → ∀ W, Below w.heap.size w W → Calls Tryz.prog 25 #[desVal d x, .slice ax sx.length cx, .slice bx ix.length ex] W fun e w' => (∃ a cap, e = .returned (.tuple #[.slice a (settleS d sx ix).length cap, .int .i64 0]) ∧ SigsIn w' (settleS d sx ix) a cap) ∧ Below W.heap.size W w') := fun he hb W hW => (Settle_any d x sx ax cx ix bx ex W (hE.below hW) hs (hSx.keep (keeps_of_below hW)) (hIx.keep (keeps_of_below hW)) (hG.below hW)).mono fun e w' h => by
    obtain ⟨⟨_, _, a, cap, h1, h2⟩ | ⟨h1, _⟩ | ⟨_, h1, _⟩, h3⟩ := h
    · exact ⟨⟨a, cap, h1, h2⟩, h3⟩
    · exact absurd he h1
    · rw [hb] at h1; simp at h1
  have HS2 : Hid (d.err = 0 → ∀ st inp, d.stateB st = true → ∀ aS cS aI cI W, Below w.heap.size w W → IntsIn W st aS cS → SigsIn W inp aI cI → Calls Tryz.prog 25 #[desVal d x, .slice aS st.length cS, .slice aI inp.length cI] W fun e w' => (∃ a cap, e = .returned (.tuple #[.slice a (settleS d st inp).length cap, .int .i64 0]) ∧ SigsIn w' (settleS d st inp) a cap) ∧ Below W.heap.size W w') := fun he st inp hb aS cS aI cI W hW hI hJ => (Settle_any d x st aS cS inp aI cI W (hE.below hW) hs hI hJ (hG.below hW)).mono fun e w' h => by
    obtain ⟨⟨_, _, a, cap, h1, h2⟩ | ⟨h1, _⟩ | ⟨_, h1, _⟩, h3⟩ := h
    · exact ⟨⟨a, cap, h1, h2⟩, h3⟩
    · exact absurd he h1
    · rw [hb] at h1; simp at h1
  have HAw := Lib.hid (fun W (hW : Below w.heap.size w W) => awake32_any W (hG.below hW))
  have HV0 := Lib.hid (fun W (hW : Below w.heap.size w W) => rValidD_any d x W (hE.below hW) hs)
  have HX0 := Lib.hid (fun W (hW : Below w.heap.size w W) => State_any d x sx ax cx W (hE.below hW) (hSx.keep (keeps_of_below hW)))
  have HY0 := Lib.hid (fun W (hW : Below w.heap.size w W) => State_any d x sy ay cy W (hE.below hW) (hSy.keep (keeps_of_below hW)))
  have hwl := hE.wires.2.1
  have hwc := hE.wires.1
  have hxl := hSx.2.1
  have hyl := hSy.2.1
  have hil := hIx.2.1
  have hjl := hIy.2.1
  have HE := Lib.hid hE
  have HSm := Lib.hid hs
  have HG := Lib.hid hG
  have HSx := Lib.hid hSx
  have HSy := Lib.hid hSy
  have HIx := Lib.hid hIx
  have HIy := Lib.hid hIy
  generalize FewD d = Fd at HFw0
  clear hE hs hG hSx hSy hIx hIy _hnx _hny
  simp only [desVal, desVals] at HFw0 HV0 HX0 HY0 HS1 HS2 ⊢
  obtain ⟨ai, ci, aw, cw, ar, cr, ao, co⟩ := x
  simp only at HFw0 HV0 HX0 HY0 HS1 HS2 hwl hwc ⊢
  have HFw := Lib.hid (HFw0.out (((w.alloc (.cells #[.string d.name, .slice ai d.inputs.length ci, .slice aw d.wires.length cw, .slice ar d.regs.length cr, .slice ao d.outputs.length co] 27)).alloc (.cells #[.slice ax sx.length cx, .slice bx ix.length ex, .int .i64 nx] 49)).alloc (.cells #[.slice ay sy.length cy, .slice bY iy.length ey, .int .i64 ny] 49)) (c3W (Below.refl _ _)))
  clear HFw0
  go_enter Tryz.func6, Tryz.ntmps6
  go_wp2_with fail
  refine HFw.out.mono ?_
  rintro e w1 ⟨⟨b, rfl, _⟩, hb1⟩
  simp only [World.size_alloc] at hb1
  have HB1 := Lib.hid hb1
  have hz1 := hb1.size
  simp only [World.size_alloc] at hz1
  clear hb1 HFw
  cases b
  · go_wp2_with fail
    (refine (HAw.out w1 (c3W HB1.out)).mono ?_; rintro e wz ⟨rfl, hbz⟩; have HBz : Hid (Below w.heap.size w wz) := (c3W HB1.out).trans (hbz.mono (c3W HB1.out).size); clear hbz; go_wp2_with fail; go_ret; exact ⟨rfl, HBz.out⟩)
  ((try clear b0 b1 b2 b3 b4 x0 x1 x2 y0 y1 y2); obtain ⟨b0, b1, b2, b3, b4, x0, x1, x2, y0, y1, y2⟩ := c3_cells HB1.out)
  by_cases q1 : d.wires.length = 0
  · have d1 : ((d.wires.length : Int) == 0) = true := by simp [q1]
    go_wp2_with fail
    (refine (HAw.out w1 (c3W HB1.out)).mono ?_; rintro e wz ⟨rfl, hbz⟩; have HBz : Hid (Below w.heap.size w wz) := (c3W HB1.out).trans (hbz.mono (c3W HB1.out).size); clear hbz; go_wp2_with fail; go_ret; exact ⟨rfl, HBz.out⟩)
  have d1 : ((d.wires.length : Int) == 0) = false := beq_eq_false_iff_ne.2 (by omega)
  rcases Int.lt_or_le nx 0 with q2 | q2
  · have d2 : decide (nx < 0) = true := decide_eq_true q2
    go_wp2_with fail
    (refine (HAw.out w1 (c3W HB1.out)).mono ?_; rintro e wz ⟨rfl, hbz⟩; have HBz : Hid (Below w.heap.size w wz) := (c3W HB1.out).trans (hbz.mono (c3W HB1.out).size); clear hbz; go_wp2_with fail; go_ret; exact ⟨rfl, HBz.out⟩)
  obtain ⟨n, rfl⟩ := Int.eq_ofNat_of_zero_le q2
  have d2 : decide ((n : Int) < 0) = false := decide_eq_false (by omega)
  rcases Nat.lt_or_ge 30 ix.length with q3 | q3
  · have d3 : decide ((30 : Int) < (ix.length : Int)) = true := by simp; omega
    go_wp2_with fail
    (refine (HAw.out w1 (c3W HB1.out)).mono ?_; rintro e wz ⟨rfl, hbz⟩; have HBz : Hid (Below w.heap.size w wz) := (c3W HB1.out).trans (hbz.mono (c3W HB1.out).size); clear hbz; go_wp2_with fail; go_ret; exact ⟨rfl, HBz.out⟩)
  have d3 : decide ((30 : Int) < (ix.length : Int)) = false := by simp; omega
  rcases Nat.lt_or_ge 30 iy.length with q4 | q4
  · have d4 : decide ((30 : Int) < (iy.length : Int)) = true := by simp; omega
    go_wp2_with fail
    (refine (HAw.out w1 (c3W HB1.out)).mono ?_; rintro e wz ⟨rfl, hbz⟩; have HBz : Hid (Below w.heap.size w wz) := (c3W HB1.out).trans (hbz.mono (c3W HB1.out).size); clear hbz; go_wp2_with fail; go_ret; exact ⟨rfl, HBz.out⟩)
  have d4 : decide ((30 : Int) < (iy.length : Int)) = false := by simp; omega
  go_wp2_with fail
  refine (HV0.out w1 (c3W HB1.out)).mono ?_
  rintro e w2 ⟨rfl, hb2⟩
  have HB2 := Lib.hid (HB1.out.trans (hb2.mono hz1))
  have hz2 := HB2.out.size
  simp only [World.size_alloc] at hz2
  clear hb2
  ((try clear b0 b1 b2 b3 b4 x0 x1 x2 y0 y1 y2); obtain ⟨b0, b1, b2, b3, b4, x0, x1, x2, y0, y1, y2⟩ := c3_cells HB2.out)
  by_cases q5 : d.err = 0
  rotate_left
  · have d5 : (d.err != 0) = true := by simpa using q5
    go_wp2_with fail
    (refine (HAw.out w2 (c3W HB2.out)).mono ?_; rintro e wz ⟨rfl, hbz⟩; have HBz : Hid (Below w.heap.size w wz) := (c3W HB2.out).trans (hbz.mono (c3W HB2.out).size); clear hbz; go_wp2_with fail; go_ret; exact ⟨rfl, HBz.out⟩)
  have d5 : (d.err != 0) = false := by simpa using q5
  go_wp2_with fail
  refine (HX0.out w2 (c3W HB2.out)).mono ?_
  rintro e w3 ⟨rfl, hb3⟩
  have HB3 := Lib.hid (HB2.out.trans (hb3.mono hz2))
  have hz3 := HB3.out.size
  simp only [World.size_alloc] at hz3
  clear hb3
  ((try clear b0 b1 b2 b3 b4 x0 x1 x2 y0 y1 y2); obtain ⟨b0, b1, b2, b3, b4, x0, x1, x2, y0, y1, y2⟩ := c3_cells HB3.out)
  cases q6 : d.stateB sx
  · go_wp2_with fail
    (refine (HAw.out w3 (c3W HB3.out)).mono ?_; rintro e wz ⟨rfl, hbz⟩; have HBz : Hid (Below w.heap.size w wz) := (c3W HB3.out).trans (hbz.mono (c3W HB3.out).size); clear hbz; go_wp2_with fail; go_ret; exact ⟨rfl, HBz.out⟩)
  go_wp2_with fail
  refine (HY0.out w3 (c3W HB3.out)).mono ?_
  rintro e w4 ⟨rfl, hb4⟩
  have HB4 := Lib.hid (HB3.out.trans (hb4.mono hz3))
  have hz4 := HB4.out.size
  simp only [World.size_alloc] at hz4
  clear hb4
  ((try clear b0 b1 b2 b3 b4 x0 x1 x2 y0 y1 y2); obtain ⟨b0, b1, b2, b3, b4, x0, x1, x2, y0, y1, y2⟩ := c3_cells HB4.out)
  cases q7 : d.stateB sy
  · go_wp2_with fail
    (refine (HAw.out w4 (c3W HB4.out)).mono ?_; rintro e wz ⟨rfl, hbz⟩; have HBz : Hid (Below w.heap.size w wz) := (c3W HB4.out).trans (hbz.mono (c3W HB4.out).size); clear hbz; go_wp2_with fail; go_ret; exact ⟨rfl, HBz.out⟩)
  -- the wire
  obtain ⟨q, hql, hq⟩ : ∃ q : Nat, q < d.wires.length ∧ (n : Int) % (d.wires.length : Int) = (q : Int) := ⟨n % d.wires.length, Nat.mod_lt _ (by omega), by omega⟩
  have hd := desOk_of_err q5
  have hmem : (idxT d.names (d.wires[q]'hql).name).isSome = true := idxT_mem (x := (d.wires[q]'hql).name) (by unfold DesD.names; exact List.mem_append_left _ (List.mem_append_right _ (List.mem_map.2 ⟨_, List.getElem_mem hql, rfl⟩))) rfl
  have HCo := Lib.hid (fun W (hW : Below w.heap.size w W) => Cone_any d ⟨ai, ci, aw, cw, ar, cr, ao, co⟩ (d.wires[q]'hql).name W (HE.out.below hW) HSm.out q5 hmem)
  have HFin : Hid (∀ C, ConeD d (d.wires[q]'hql).name C → valS (settleS d (newSt d C sx sy) (newIn d C ix iy)) (d.wires[q]'hql).name = valS (settleS d sx ix) (d.wires[q]'hql).name) := fun C hC => (cone_final hd hC q6 q7 ix iy).symm
  have HNs : Hid (∀ C, d.stateB (newSt d C sx sy) = true) := fun C => newSt_state q6 q7
  have HT1 := Lib.hid (HS1.out q5 q6)
  have HT2 := Lib.hid (HS2.out q5)
  have hxr := Nat.le_of_eq (state_len q6).symm
  have hyr := Nat.le_of_eq (state_len q7).symm
  obtain ⟨bw, ow, haw⟩ := (SliceIn.addr HE.out.wires).resolve_left (by omega)
  simp only at haw
  subst haw
  obtain ⟨ae, ce, g0, _⟩ := (HE.out.wires.keep (keeps_of_below (c3W HB4.out))).get rfl hql
  have hLz : ¬ (d.wires.length : Int) = 0 := by omega
  have hLn : ¬ d.wires.length = 0 := q1
  have hqi : (q : Int) < (d.wires.length : Int) := by omega
  clear HV0 HX0 HY0 HS1 HS2 q5 q6 q7 hmem hd d1 d2 d3 d4 d5
  simp only [desVal, desVals] at HCo
  generalize (d.wires[q]'hql).name = nm at g0 HCo HFin
  go_wp2_with fail
  go_quiet (fail)
  clear g0
  go_wp2_with fail
  refine (HCo.out _ (below_drewN (c3W HB4.out) _)).mono ?_
  rintro e w5 ⟨⟨C, aC, cC, rfl, hSC, hCD⟩, hb5⟩
  have HB5 := Lib.hid ((below_drewN HB4.out _).trans (hb5.mono (by simp only [World.heap_drewN]; exact hz4)))
  have hz5 := HB5.out.size
  simp only [World.size_alloc] at hz5
  have HHas : Hid (∀ W, Below w5.heap.size w5 W → ∀ s, Calls Tryz.prog 23 #[.slice aC C.length cC, .string s] W fun e w' => e = .returned (.bool (idxT C s).isSome) ∧ W = w') := fun W hW s => has_any C aC cC s W (hSC.keep (keeps_of_below hW))
  have HFi := Lib.hid (HFin.out C hCD)
  have HNt := Lib.hid (HNs.out C)
  have HTk : Hid (∀ k (hk : k < d.regs.length), ((newSt d C sx sy).map (Value.int .i64)).take (k + 1) = ((newSt d C sx sy).map (Value.int .i64)).take k ++ [.int .i64 (pickR C sx sy k (d.regs[k]'hk).name)]) := fun k hk => newSt_take hk
  have HJk : Hid (∀ k (hk : k < d.inputs.length), (newIn d C ix iy).take (k + 1) = (newIn d C ix iy).take k ++ [((d.inputs[k]'hk).name, (valS (pickI C ix iy (d.inputs[k]'hk).name) (d.inputs[k]'hk).name).getD 0)]) := fun k hk => newIn_take hk
  have HNl := Lib.hid (newSt_len d C sx sy)
  have HJl := Lib.hid (newIn_len d C ix iy)
  generalize newSt d C sx sy = NS at HFi HNt HTk HNl
  generalize newIn d C ix iy = NJ at HFi HJk HJl
  have HT3 := Lib.hid (fun aS cS aI cI W => HT2.out NS NJ HNt.out aS cS aI cI W)
  have HT4 := HT3.out
  simp only [HNl.out, HJl.out] at HT4
  have HT3 := Lib.hid HT4
  clear HT4
  have hrl := HE.out.regs.2.1
  have hpl := HE.out.ins.2.1
  generalize hS1g : settleS d sx ix = S1 at HFi HT1
  generalize hS2g : settleS d NS NJ = S2 at HFi HT3
  clear hS1g hS2g HT2 HFin HNs HCo HNt hSC hCD hb5
  go_wp2_with fail
  go_loopw [11, 10] (fun i v wr => ∃ (k : Nat) (a : Option Addr) (c : Nat), i = .int .i64 k ∧ v = .slice a k c ∧ k ≤ d.regs.length ∧ Hid (wr.ownsRow w5.heap.size 3 1 (.slice a k c) k ((NS.map (Value.int .i64)).take k)) ∧ Hid (Below w5.heap.size w5 wr)) (fun i _ _ => d.regs.length - (intOf i).toNat)
  case atStart => exact ⟨0, none, 0, rfl, rfl, Nat.zero_le _, World.ownsRow_nil _ _ _ _, Below.refl _ _⟩
  case round =>
    obtain ⟨k, a, c, rfl, rfl, hk, HO, HBr⟩ := hrel
    have HBx := Lib.hid (HB5.out.trans (HBr.out.mono hz5))
    have hzr := HBr.out.size
    by_cases hlt : k < d.regs.length
    · obtain ⟨br, orr, har⟩ := (SliceIn.addr HE.out.regs).resolve_left (by omega)
      simp only at har
      subst har
      obtain ⟨ae, ce, c0, _⟩ := (HE.out.regs.keep (keeps_of_below (c3W HBx.out))).get rfl hlt
      obtain ⟨bsx, osx, hasx⟩ := (SliceIn.addr HSx.out).resolve_left (by omega)
      subst hasx
      obtain ⟨bsy, osy, hasy⟩ := (SliceIn.addr HSy.out).resolve_left (by omega)
      subst hasy
      have u0 := intsIn_get (HSx.out.keep (keeps_of_below (c3W HBx.out))) rfl (show k < sx.length by omega)
      have u1 := intsIn_get (HSy.out.keep (keeps_of_below (c3W HBx.out))) rfl (show k < sy.length by omega)
      have HTk1 := Lib.hid (HTk.out k hlt)
      have hpx : pickR C sx sy k (d.regs[k]'hlt).name = if (idxT C (d.regs[k]'hlt).name).isSome = true then sx[k]'(by omega) else sy[k]'(by omega) := by
        unfold pickR
        rw [List.getD_eq_getElem?_getD, List.getD_eq_getElem?_getD, List.getElem?_eq_getElem (show k < sx.length by omega), List.getElem?_eq_getElem (show k < sy.length by omega)]
        rfl
      have HPx := Lib.hid hpx
      have HH := Lib.hid (HHas.out wr HBr.out (d.regs[k]'hlt).name)
      ((try clear b0 b1 b2 b3 b4 x0 x1 x2 y0 y1 y2); obtain ⟨b0, b1, b2, b3, b4, x0, x1, x2, y0, y1, y2⟩ := c3_cells HBx.out)
      clear hpx
      generalize (d.regs[k]'hlt).name = s at c0 HTk1 HPx HH
      generalize (sx[k]'(by omega)) = vx at u0 HPx
      generalize (sy[k]'(by omega)) = vy at u1 HPx
      cases hin : (idxT C s).isSome
      · rw [hin] at HH HPx
        simp only [if_true, Bool.false_eq_true, if_false] at HPx
        rw [HPx.out] at HTk1
        clear hin HPx
        go_wp2_with fail
        refine HH.out.mono ?_
        rintro e w6 ⟨rfl, rfl⟩
        go_wp2_with (at_builtin; go_must (refine own_appx elemI _ rfl (.tmp 108) (.tmp 114) rfl w5.heap.size (.slice a k c) k ((NS.map (Value.int .i64)).take k) rfl HO.out [.int .i64 vy] 1 _ 1 rfl (by simp [Value.oneCell']) rfl (by first | rfl | simp) (by omega) (by omega) (by first | omega | (simp only [World.size_alloc, World.size_setCell, World.size_drew, World.heap_drewN] <;> omega) | (simp <;> omega)) ?_))
        intro g' cap' w7 ho hg hat
        rw [← HTk1.out] at ho
        have HO7 := Lib.hid ho
        have HB7 : Hid (Below w5.heap.size w5 w7) := Below.grown (HBr.out.alloc HBr.out.size _) hg (by simp; omega) (fun j hj => (HO.out.lt j hj).1)
        clear ho hg hat b0 b1 b2 b3 b4 x0 x1 x2 y0 y1 y2 c0 u0 u1
        go_wp2_with fail
        go_roundw
        case rel => exact ⟨k + 1, some ⟨g', 0, none⟩, cap', by go_num, rfl, by omega, HO7, HB7⟩
        case measure => (simp [intOf]; try omega)
      · rw [hin] at HH HPx
        simp only [if_true, Bool.false_eq_true, if_false] at HPx
        rw [HPx.out] at HTk1
        clear hin HPx
        go_wp2_with fail
        refine HH.out.mono ?_
        rintro e w6 ⟨rfl, rfl⟩
        go_wp2_with (at_builtin; go_must (refine own_appx elemI _ rfl (.tmp 100) (.tmp 106) rfl w5.heap.size (.slice a k c) k ((NS.map (Value.int .i64)).take k) rfl HO.out [.int .i64 vx] 1 _ 1 rfl (by simp [Value.oneCell']) rfl (by first | rfl | simp) (by omega) (by omega) (by first | omega | (simp only [World.size_alloc, World.size_setCell, World.size_drew, World.heap_drewN] <;> omega) | (simp <;> omega)) ?_))
        intro g' cap' w7 ho hg hat
        rw [← HTk1.out] at ho
        have HO7 := Lib.hid ho
        have HB7 : Hid (Below w5.heap.size w5 w7) := Below.grown (HBr.out.alloc HBr.out.size _) hg (by simp; omega) (fun j hj => (HO.out.lt j hj).1)
        clear ho hg hat b0 b1 b2 b3 b4 x0 x1 x2 y0 y1 y2 c0 u0 u1
        go_wp2_with fail
        go_roundw
        case rel => exact ⟨k + 1, some ⟨g', 0, none⟩, cap', by go_num, rfl, by omega, HO7, HB7⟩
        case measure => (simp [intOf]; try omega)
    · obtain rfl : k = d.regs.length := by omega
      have ho := HO.out
      rw [List.take_of_length_le (by rw [List.length_map, HNl.out]; omega), ← HNl.out] at ho
      obtain ⟨aS, cS, hvS, hIS⟩ := ints_of_own ho (by rw [HNl.out]; exact hrl)
      injection hvS with e1 e2 e3
      subst e1 e3
      have HIS := Lib.hid hIS
      have hz6 := HBx.out.size
      simp only [World.size_alloc] at hz6
      clear ho hIS
      rename World => wl
      ((try clear b0 b1 b2 b3 b4 x0 x1 x2 y0 y1 y2); obtain ⟨b0, b1, b2, b3, b4, x0, x1, x2, y0, y1, y2⟩ := c3_cells HBx.out)
      go_wp2_with fail
      clear b0 b1 b2 b3 b4 x0 x1 x2 y0 y1 y2
      go_loopw [13, 12] (fun i v wr => ∃ (k : Nat) (a2 : Option Addr) (c2 : Nat), i = .int .i64 k ∧ v = .slice a2 k c2 ∧ k ≤ d.inputs.length ∧ Hid (wr.ownsRow wl.heap.size 65 2 (.slice a2 k c2) k (sigCells (NJ.take k))) ∧ Hid (Below wl.heap.size wl wr)) (fun i _ _ => d.inputs.length - (intOf i).toNat)
      case atStart => exact ⟨0, none, 0, rfl, rfl, Nat.zero_le _, World.ownsRow_nil _ _ _ _, Below.refl _ _⟩
      case round =>
        obtain ⟨k, a2, c2, rfl, rfl, hk, HO2, HBr2⟩ := hrel
        have HBy := Lib.hid (HBx.out.trans (HBr2.out.mono hz6))
        have hzy := HBr2.out.size
        by_cases hlt : k < d.inputs.length
        · obtain ⟨bp, op, hap⟩ := (SliceIn.addr HE.out.ins).resolve_left (by omega)
          simp only at hap
          subst hap
          obtain ⟨c0, _⟩ := (HE.out.ins.keep (keeps_of_below (c3W HBy.out))).get rfl hlt
          have HJk1 := Lib.hid (HJk.out k hlt)
          have HH := Lib.hid (HHas.out wr (HBr.out.trans (HBr2.out.mono HBr.out.size)) (d.inputs[k]'hlt).name)
          have HVx := Lib.hid (rVal32_any ix bx ex (d.inputs[k]'hlt).name wr (HIx.out.keep (keeps_of_below (c3W HBy.out))))
          have HVy := Lib.hid (rVal32_any iy bY ey (d.inputs[k]'hlt).name wr (HIy.out.keep (keeps_of_below (c3W HBy.out))))
          ((try clear b0 b1 b2 b3 b4 x0 x1 x2 y0 y1 y2); obtain ⟨b0, b1, b2, b3, b4, x0, x1, x2, y0, y1, y2⟩ := c3_cells HBy.out)
          generalize (d.inputs[k]'hlt).name = s at c0 HJk1 HH HVx HVy
          cases hin : (idxT C s).isSome
          · have hpk : pickI C ix iy s = iy := by unfold pickI; rw [hin]; rfl
            rw [hpk] at HJk1
            rw [hin] at HH
            generalize (valS iy s).getD 0 = v at HVy HJk1
            clear hin hpk HVx
            go_wp2_with fail
            refine HH.out.mono ?_
            rintro e w6 ⟨rfl, rfl⟩
            go_wp2_with fail
            refine HVy.out.mono ?_
            rintro e w6 ⟨rfl, rfl⟩
            go_wp2_with (at_builtin; go_must (refine own_appx elemG _ rfl (.tmp 136) (.tmp 142) rfl wl.heap.size (.slice a2 k c2) k (sigCells (NJ.take k)) rfl HO2.out [.string s, .int .i64 v] 1 _ 1 rfl (by simp [Value.oneCell']) rfl (by first | rfl | simp) (by omega) (by omega) (by first | omega | (simp only [World.size_alloc, World.size_setCell, World.size_drew, World.heap_drewN] <;> omega) | (simp <;> omega)) ?_))
            intro g' cap' w7 ho hg hat
            have HO7 : Hid (w7.ownsRow wl.heap.size 65 2 (.slice (some ⟨g', 0, none⟩) (k + 1) cap') (k + 1) (sigCells (NJ.take (k + 1)))) := by
              show World.ownsRow _ _ _ _ _ _ _
              rw [HJk1.out, sigCells_snoc]
              exact ho
            have HB7 : Hid (Below wl.heap.size wl w7) := Below.grown (HBr2.out.alloc HBr2.out.size _) hg (by simp; omega) (fun j hj => (HO2.out.lt j hj).1)
            clear ho hg hat b0 b1 b2 b3 b4 x0 x1 x2 y0 y1 y2 c0
            go_wp2_with fail
            go_roundw
            case rel => exact ⟨k + 1, some ⟨g', 0, none⟩, cap', by go_num, rfl, by omega, HO7, HB7⟩
            case measure => (simp [intOf]; try omega)
          · have hpk : pickI C ix iy s = ix := by unfold pickI; rw [hin]; rfl
            rw [hpk] at HJk1
            rw [hin] at HH
            generalize (valS ix s).getD 0 = v at HVx HJk1
            clear hin hpk HVy
            go_wp2_with fail
            refine HH.out.mono ?_
            rintro e w6 ⟨rfl, rfl⟩
            go_wp2_with fail
            refine HVx.out.mono ?_
            rintro e w6 ⟨rfl, rfl⟩
            go_wp2_with (at_builtin; go_must (refine own_appx elemG _ rfl (.tmp 136) (.tmp 142) rfl wl.heap.size (.slice a2 k c2) k (sigCells (NJ.take k)) rfl HO2.out [.string s, .int .i64 v] 1 _ 1 rfl (by simp [Value.oneCell']) rfl (by first | rfl | simp) (by omega) (by omega) (by first | omega | (simp only [World.size_alloc, World.size_setCell, World.size_drew, World.heap_drewN] <;> omega) | (simp <;> omega)) ?_))
            intro g' cap' w7 ho hg hat
            have HO7 : Hid (w7.ownsRow wl.heap.size 65 2 (.slice (some ⟨g', 0, none⟩) (k + 1) cap') (k + 1) (sigCells (NJ.take (k + 1)))) := by
              show World.ownsRow _ _ _ _ _ _ _
              rw [HJk1.out, sigCells_snoc]
              exact ho
            have HB7 : Hid (Below wl.heap.size wl w7) := Below.grown (HBr2.out.alloc HBr2.out.size _) hg (by simp; omega) (fun j hj => (HO2.out.lt j hj).1)
            clear ho hg hat b0 b1 b2 b3 b4 x0 x1 x2 y0 y1 y2 c0
            go_wp2_with fail
            go_roundw
            case rel => exact ⟨k + 1, some ⟨g', 0, none⟩, cap', by go_num, rfl, by omega, HO7, HB7⟩
            case measure => (simp [intOf]; try omega)
        · obtain rfl : k = d.inputs.length := by omega
          have ho := HO2.out
          rw [List.take_of_length_le (by rw [HJl.out]; omega), ← HJl.out] at ho
          obtain ⟨aJ, cJ, hvJ, hIJ⟩ := sigs_of_own ho (by rw [HJl.out]; exact hpl)
          injection hvJ with e1 e2 e3
          subst e1 e3
          have HIJ := Lib.hid hIJ
          have HIS2 := Lib.hid (HIS.out.keep (keeps_of_below HBr2.out))
          have hz7 := HBy.out.size
          simp only [World.size_alloc] at hz7
          clear ho hIJ
          ((try clear b0 b1 b2 b3 b4 x0 x1 x2 y0 y1 y2); obtain ⟨b0, b1, b2, b3, b4, x0, x1, x2, y0, y1, y2⟩ := c3_cells HBy.out)
          go_wp2_with fail
          refine (HT1.out wr (c3W HBy.out)).mono ?_
          rintro e w8 ⟨⟨a8, c8, rfl, hS8⟩, hb8⟩
          have HB8 := Lib.hid (HBy.out.trans (hb8.mono hz7))
          have hz8 := HB8.out.size
          simp only [World.size_alloc] at hz8
          have HT5 := Lib.hid (HT3.out _ _ _ _ w8 (c3W HB8.out) (HIS2.out.keep (keeps_of_below hb8)) (HIJ.out.keep (keeps_of_below hb8)))
          have HS8 := Lib.hid hS8
          clear hb8 hS8
          ((try clear b0 b1 b2 b3 b4 x0 x1 x2 y0 y1 y2); obtain ⟨b0, b1, b2, b3, b4, x0, x1, x2, y0, y1, y2⟩ := c3_cells HB8.out)
          go_wp2_with fail
          refine HT5.out.mono ?_
          rintro e w9 ⟨⟨a9, c9, rfl, hS9⟩, hb9⟩
          have HB9 := Lib.hid (HB8.out.trans (hb9.mono hz8))
          have HV8 := Lib.hid (rVal32_any S1 a8 c8 nm w9 (HS8.out.keep (keeps_of_below hb9)))
          have HV9 := Lib.hid (rVal32_any S2 a9 c9 nm w9 hS9)
          rw [HFi.out] at HV9
          generalize (valS S1 nm).getD 0 = v at HV8 HV9
          have hvv : (v == v) = true := by simp
          clear hb9 hS9
          go_wp2_with fail
          refine HV8.out.mono ?_
          rintro e w10 ⟨rfl, rfl⟩
          go_wp2_with fail
          refine HV9.out.mono ?_
          rintro e w10 ⟨rfl, rfl⟩
          go_wp2_with fail
          (refine (HAw.out w9 (c3W HB9.out)).mono ?_; rintro e wz ⟨rfl, hbz⟩; have HBz : Hid (Below w.heap.size w wz) := (c3W HB9.out).trans (hbz.mono (c3W HB9.out).size); clear hbz; go_wp2_with fail; go_ret; exact ⟨rfl, HBz.out⟩)
end Go.Proofs.YteaeemkodbodmaaGreatDoor
