/- law31: DesignCones. -/
import Derived.Test.YtihegbjlgpghbaaGreatDoorEJ
set_option linter.unusedSimpArgs false
set_option linter.unusedVariables false
set_option linter.unnecessarySimpa false
namespace Go.Proofs.YtihegbjlgpghbaaGreatDoor
open Go.RowKit
attribute [local go_sem ↓] Go.wp_at_zero Go.wp_at_succ

theorem seeP_len {d : DesD} {nm : ByteArray} {k : Nat} (hk : k < d.wires.length) (hw : d.wireIdx nm = some k) {C P S : List ByteArray} (h : ConeE d nm C) {m j : Nat} (hm : m < (namesS [2] (d.wires[k]'hk).expr).length) (hP : ConeE d ((namesS [2] (d.wires[k]'hk).expr)[m]'hm) P)
    (hS : SeeP d (namesS [2] (d.wires[k]'hk).expr) m P j S) : S.length ≤ C.length := by
  refine dup_len (fun s hs => idxT_mem (x := s) ?_ rfl) hS.dup
  rcases (hS.out s).1 hs with ⟨u, h1, h2, h3⟩ | h1
  · exact (h.2 s).2 ⟨reach_from hk hw (List.mem_of_mem_take h1) h2, h3⟩
  · exact cone_sub hk hw h (List.getElem_mem hm) hP (List.mem_of_mem_take h1)
theorem strs_blk {w w' : World} {l : List ByteArray} {a : Option Addr} {c b off : Nat} (h : StrsIn w l a c) (ha : a = some ⟨b, off, none⟩) (hb : w'.heap[b]? = w.heap[b]?) : StrsIn w' l a c := by
  refine ⟨h.1, h.2.1, ?_⟩
  rcases h.2.2 with h0 | ⟨b', off', ha', hq⟩
  · exact Or.inl h0
  · refine Or.inr ⟨b', off', ha', fun i hi => ?_⟩
    obtain ⟨v, hv, hc⟩ := hq i hi
    rw [ha] at ha'
    simp only [Option.some.injEq, Addr.mk.injEq, and_true] at ha'
    obtain ⟨rfl, rfl⟩ := ha'
    refine ⟨v, hv, ?_⟩
    simp only [World.cell?, hb] at hc ⊢
    exact hc
set_option maxRecDepth 100000 in
set_option maxHeartbeats 16000000 in
theorem DesignCones_any (d : DesD) (x : DesA) (nm : ByteArray) (w : World) (hE : DesIn w d x) (hs : DesSmall d) (hG : Glob w) :
    Calls Tryz.prog 8 #[desVal d x, .string nm] w fun e w' => e = .returned (.bool true) ∧ Below w.heap.size w w' := by
  have HSm0 := Lib.hid (fun W (hW : Below w.heap.size w W) => Small_any d x W (hE.below hW) hs)
  have HC0 := Lib.hid (fun nm W (hW : Below w.heap.size w W) => (dConeF_any d x nm W (hE.below hW) hs (hG.below hW)).mono (R' := fun e w' => (∃ C ce a c, e = .returned (.tuple #[.slice a C.length c, .int .i64 ce]) ∧ StrsIn w' C a c ∧ ConeR d nm C ce ∧ ∀ p, a = some p → W.heap.size ≤ p.block) ∧ Below W.heap.size W w') fun _ _ h => by
    obtain ⟨⟨C, ce, a, c, h1, h2, h3⟩, h4⟩ := cone_out h.1
    exact ⟨⟨C, ce, a, c, h1, h2, h3, fun p hp => by subst hp; exact h.2 _ _ _ _ h1⟩, h4⟩)
  have HW0 := Lib.hid (fun W (hW : Below w.heap.size w W) => lwire_any d x nm W (hE.below hW))
  have HAw := Lib.hid (fun W (hW : Below w.heap.size w W) => awake31_any W (hG.below hW))
  have HAsc : Hid (∀ C, ConeE d nm C → ∀ i (hi : i + 1 < C.length), Op.bytesLess (C[i + 1]'hi).toList (C[i]'(by omega)).toList = false ∧ ¬ (C[i + 1]'hi).toList = (C[i]'(by omega)).toList ∧ Op.bytesLess (C[i]'(by omega)).toList (C[i + 1]'hi).toList = true) := fun C h i hi => by
    have := List.pairwise_iff_getElem.1 h.1 i (i + 1) (by omega) hi (by omega)
    rw [bytesLess_dec, bytesLess_dec]
    exact ⟨by simpa using b_lt_asymm this, fun e => by rw [e] at this; exact absurd this (List.lt_irrefl _), by simpa using this⟩
  have hn : d.wires.length ≤ 1048576 := hs.len.2.1
  have hwc := hE.wires.1
  have HWv : (d.wireIdx nm = none ∧ d.wireI nm = -1) ∨ ∃ k, ∃ hk : k < d.wires.length, d.wireIdx nm = some k ∧ d.wireI nm = (k : Int) := by
    unfold DesD.wireI
    cases h : d.wireIdx nm with
    | none => exact Or.inl ⟨rfl, rfl⟩
    | some k => exact Or.inr ⟨k, wireIdx_lt h, rfl, rfl⟩
  have HE := Lib.hid hE
  have HSz := Lib.hid hs
  unfold BoolRet at HSm0
  generalize hwi : d.wireI nm = wi at HWv HW0
  clear hwi hE hs hG
  simp only [desVal, desVals] at HSm0 HC0 HW0 ⊢
  have HSm := Lib.hid (HSm0.out (w.alloc (.cells #[.string d.name, .slice x.ai d.inputs.length x.ci, .slice x.aw d.wires.length x.cw, .slice x.ar d.regs.length x.cr, .slice x.ao d.outputs.length x.co] 27)) ((Below.refl _ _).alloc (Nat.le_refl _) _))
  clear HSm0
  go_enter Tryz.func8, Tryz.ntmps8
  go_wp2_with fail
  refine HSm.out.mono ?_
  rintro e w1 ⟨⟨b, rfl⟩, hb1⟩
  simp only [World.size_alloc] at hb1
  have HB1 := Lib.hid hb1
  have hz1 := hb1.size
  simp only [World.size_alloc] at hz1
  clear hb1
  cases b
  · go_wp2_with fail
    (refine (HAw.out w1 (boxW _ HB1.out)).mono ?_; rintro e wz ⟨rfl, hbz⟩; have HBz : Hid (Below w.heap.size w wz) := (boxW _ HB1.out).trans (hbz.mono (boxW _ HB1.out).size); clear hbz; go_wp2_with fail; go_ret; exact ⟨rfl, HBz.out⟩)
  · ((try clear b0 b1 b2 b3 b4); have b0 := box_cell HB1.out 0; have b1 := box_cell HB1.out 1; have b2 := box_cell HB1.out 2; have b3 := box_cell HB1.out 3; have b4 := box_cell HB1.out 4; (try simp at b0 b1 b2 b3 b4))
    go_wp2_with fail
    refine (HC0.out nm w1 (boxW _ HB1.out)).mono ?_
    rintro e w2 ⟨⟨C, ce, aC, cC, rfl, hS2, hR2, _⟩, hb2⟩
    have HB2 := Lib.hid (HB1.out.trans (hb2.mono hz1))
    have HS2 := Lib.hid hS2
    have hz2 := HB2.out.size
    simp only [World.size_alloc] at hz2
    clear hb2 hS2
    by_cases hce : ce = 0
    rotate_left
    · have hC : C = [] := by
        rcases hR2 with ⟨_, _, _, h⟩ | ⟨_, h, _⟩ | ⟨_, _, h, _⟩
        · exact absurd h hce
        · exact h
        · exact h
      subst hC
      have hne : (ce != 0) = true := by simpa using hce
      clear hR2 hce
      go_wp2_with fail
      (refine (HAw.out w2 (boxW _ HB2.out)).mono ?_; rintro e wz ⟨rfl, hbz⟩; have HBz : Hid (Below w.heap.size w wz) := (boxW _ HB2.out).trans (hbz.mono (boxW _ HB2.out).size); clear hbz; go_wp2_with fail; go_ret; exact ⟨rfl, HBz.out⟩)
    subst hce
    have hE2 : d.err = 0 ∧ ConeE d nm C := by
      rcases hR2 with ⟨h1, _, h2, _⟩ | ⟨h1, _, h2⟩ | ⟨_, _, _, h⟩
      · exact ⟨h1, h2⟩
      · exact absurd h2.symm h1
      · simp at h
    have HE2 := Lib.hid hE2
    have HA2 := Lib.hid (HAsc.out C hE2.2)
    have hCl := HS2.out.2.1
    clear hR2 hE2 HAsc
    go_wp2_with fail
    go_loopw [7] (fun i wr => ∃ k : Nat, i = .int .i64 k ∧ k ≤ C.length ∧ Hid (Below w2.heap.size w2 wr)) (fun i _ => C.length - (intOf i).toNat)
    case atStart => exact ⟨0, rfl, Nat.zero_le _, Below.refl _ _⟩
    case round =>
      obtain ⟨k, rfl, hk, HBr⟩ := hrel
      by_cases hlt : k + 1 < C.length
      · obtain ⟨p1, o1, ha1⟩ := (SliceIn.addr HS2.out).resolve_left (by omega)
        subst ha1
        have u0 := (keeps_of_below HBr.out) _ _ (HS2.out.get rfl (show k < C.length by omega))
        have u1 := (keeps_of_below HBr.out) _ _ (HS2.out.get rfl hlt)
        obtain ⟨q1, q2, q3⟩ := HA2.out k hlt
        have hc1 := HS2.out.1
        generalize (C[k]'(by omega)) = s0 at u0 q1 q2 q3
        generalize (C[k + 1]'hlt) = s1 at u1 q1 q2 q3
        go_wp2_with fail
        go_region
        all_goals
          go_wp2_with fail
          go_roundw
          case rel => exact ⟨k + 1, by go_num, by omega, Below.drew HBr.out⟩
          case measure => (simp [intOf]; try omega)
      · have hd8 : decide ((k : Int) + 1 < (C.length : Int)) = false := decide_eq_false (by omega)
        have HB2 := Lib.hid (HB2.out.trans (HBr.out.mono hz2))
        have HS2 := Lib.hid (HS2.out.keep (keeps_of_below HBr.out))
        have hz2 := HB2.out.size
        simp only [World.size_alloc] at hz2
        rename World => wl
        ((try clear b0 b1 b2 b3 b4); have b0 := box_cell HB2.out 0; have b1 := box_cell HB2.out 1; have b2 := box_cell HB2.out 2; have b3 := box_cell HB2.out 3; have b4 := box_cell HB2.out 4; (try simp at b0 b1 b2 b3 b4))
        go_wp2_with fail
        refine (HW0.out wl (boxW _ HB2.out)).mono ?_
        rintro e w3 ⟨rfl, hb3⟩
        have HB3 := Lib.hid (HB2.out.trans (hb3.mono hz2))
        have HS3 := Lib.hid (HS2.out.keep (keeps_of_below hb3))
        have hz3 := HB3.out.size
        simp only [World.size_alloc] at hz3
        clear hb3 HS2 HA2
        rcases HWv with ⟨hw, rfl⟩ | ⟨q, hq, hw, rfl⟩
        · have hC1 := cone_leaf hw HE2.out.2
          subst hC1
          obtain ⟨p1, o1, ha1⟩ := (SliceIn.addr HS3.out).resolve_left (by simp)
          subst ha1
          have u0 := HS3.out.get rfl (show 0 < [nm].length by simp)
          have hc1 := HS3.out.1
          simp at u0 hc1
          simp only [List.length_singleton] at *
          go_wp2_with fail
          (refine (HAw.out w3 (boxW _ HB3.out)).mono ?_; rintro e wz ⟨rfl, hbz⟩; have HBz : Hid (Below w.heap.size w wz) := (boxW _ HB3.out).trans (hbz.mono (boxW _ HB3.out).size); clear hbz; go_wp2_with fail; go_ret; exact ⟨rfl, HBz.out⟩)
        · have HKn : Hid (∀ m (hm : m < (namesS [2] (d.wires[q]'hq).expr).length), (idxT d.names ((namesS [2] (d.wires[q]'hq).expr)[m]'hm)).isSome = true) := fun m hm => ((desOk_of_err HE2.out.1).exprs _ (wire_expr hq)).2.2 _ (List.getElem_mem hm)
          have HSub : Hid (∀ m (hm : m < (namesS [2] (d.wires[q]'hq).expr).length) P, ConeE d ((namesS [2] (d.wires[q]'hq).expr)[m]'hm) P → ∀ s ∈ P, (idxT C s).isSome = true) := fun m hm P hP s hs => idxT_mem (cone_sub hq hw HE2.out.2 (List.getElem_mem hm) hP hs) rfl
          have HLen : Hid (∀ m (hm : m < (namesS [2] (d.wires[q]'hq).expr).length) P j S, ConeE d ((namesS [2] (d.wires[q]'hq).expr)[m]'hm) P → SeeP d (namesS [2] (d.wires[q]'hq).expr) m P j S → S.length ≤ C.length) := fun m hm P j S hP hS => seeP_len hq hw HE2.out.2 hm hP hS
          have HEnd : Hid (∀ S, SeeC d (namesS [2] (d.wires[q]'hq).expr) (namesS [2] (d.wires[q]'hq).expr).length S → S.length = C.length) := fun S hS => seen_len hq hw HE2.out.2 hS
          obtain ⟨bw, ow, haw⟩ := (SliceIn.addr HE.out.wires).resolve_left (by omega)
          obtain ⟨ae, ce, g0, g1, c2, c3, c4, c5, hXe⟩ := (HE.out.wires.keep (keeps_of_below (boxW _ HB3.out))).get haw hq
          have HNa : Hid (Calls Tryz.prog 35 #[.agg #[.int .i64 (d.wires[q]'hq).expr.op, .int .i64 (d.wires[q]'hq).expr.n, .string (d.wires[q]'hq).expr.name, .slice ae (d.wires[q]'hq).expr.args.length ce]] w3 fun r w' => (∃ a' cap', r = .returned (.slice a' (namesS [2] (d.wires[q]'hq).expr).length cap') ∧ StrsIn w' (namesS [2] (d.wires[q]'hq).expr) a' cap') ∧ Below w3.heap.size w3 w') := by
            have h1 := HSz.out.exprs _ (wire_expr hq)
            generalize (d.wires[q]'hq).expr = e at h1 hXe
            obtain ⟨op, n, s, args⟩ := e
            exact rNames_any op n s args ae ce w3 hXe (by omega)
          generalize namesS [2] (d.wires[q]'hq).expr = U at HKn HSub HLen HEnd HNa
          generalize (d.wires[q]'hq).expr = ex at c2 c3 c4 c5 HNa
          obtain ⟨eop, en, enm, eargs⟩ := ex
          simp only [Ex.op_mk, Ex.n_mk, Ex.name_mk, Ex.args_mk] at c2 c3 c4 c5 HNa
          generalize eargs.length = ek at c5 HNa
          have hqi : (q : Int) < (d.wires.length : Int) := by omega
          have HawH := Lib.hid haw
          clear g0 g1 hXe
          ((try clear b0 b1 b2 b3 b4); have b0 := box_cell HB3.out 0; have b1 := box_cell HB3.out 1; have b2 := box_cell HB3.out 2; have b3 := box_cell HB3.out 3; have b4 := box_cell HB3.out 4; (try simp at b0 b1 b2 b3 b4))
          rw [haw] at b2
          clear haw
          go_wp2_with fail
          refine HNa.out.mono ?_
          rintro e w5 ⟨⟨aU, cU, rfl, hSU⟩, hb5⟩
          have HB5 := Lib.hid (HB3.out.trans (hb5.mono hz3))
          have HS5 := Lib.hid (HS3.out.keep (keeps_of_below hb5))
          have HU := Lib.hid hSU
          have hUl := hSU.2.1
          have hz5 := HB5.out.size
          simp only [World.size_alloc] at hz5
          clear hb5 hSU HNa c2 c3 c4 c5 b0 b1 b2 b3 b4 HS3
          go_wp2_with fail
          go_loopw [12, 11, 9] (fun i v nn wr => ∃ (m : Nat) (a : Option Addr) (c : Nat) (S : List ByteArray), i = .int .i64 m ∧ v = .slice a S.length c ∧ nn = .int .i64 S.length ∧ m ≤ U.length ∧ Hid (SeeC d U m S) ∧ Hid (wr.ownsRow w5.heap.size 9 1 (.slice a S.length c) S.length (S.map Value.string)) ∧ Hid (Below w5.heap.size w5 wr)) (fun i _ _ _ => U.length - (intOf i).toNat)
          case atStart => exact ⟨0, none, 0, [], rfl, rfl, rfl, Nat.zero_le _, SeeC.nil d U, World.ownsRow_nil _ _ _ _, Below.refl _ _⟩
          case round =>
            rename World => wq
            obtain ⟨m, a, c, S, rfl, rfl, rfl, hm, HSe, HOw, HBq⟩ := hrel
            have HBx := Lib.hid (HB5.out.trans (HBq.out.mono hz5))
            by_cases hltm : m < U.length
            · obtain ⟨p1, o1, ha1⟩ := (SliceIn.addr HU.out).resolve_left (by omega)
              subst ha1
              have u0 := (keeps_of_below HBq.out) _ _ (HU.out.get rfl hltm)
              have hcU := HU.out.1
              have HKu := Lib.hid (HKn.out m hltm)
              have HSb := Lib.hid (HSub.out m hltm)
              have HLn := Lib.hid (HLen.out m hltm)
              have HDn : Hid (∀ P S, ConeE d (U[m]'hltm) P → SeeP d U m P P.length S → SeeC d U (m + 1) S) := fun P S hP h => h.done hltm hP
              generalize (U[m]'hltm) = u at u0 HKu HSb HLn HDn
              have HCu := Lib.hid (fun W (hW : Below wq.heap.size wq W) => (HC0.out u W ((boxW _ HBx.out).trans (hW.mono (boxW _ HBx.out).size))).mono (R' := fun e w' => (∃ P a c, e = .returned (.tuple #[.slice a P.length c, .int .i64 0]) ∧ StrsIn w' P a c ∧ ConeE d u P ∧ ∀ p, a = some p → W.heap.size ≤ p.block) ∧ Below W.heap.size W w') fun e w' h => by
                obtain ⟨⟨P, pe, a, c, h1, h2, h3, hf⟩, h4⟩ := h
                rcases h3 with ⟨_, _, h5, h6⟩ | ⟨h5, _⟩ | ⟨_, h5, _⟩
                · subst h6; exact ⟨⟨P, a, c, h1, h2, h5, hf⟩, h4⟩
                · exact absurd HE2.out.1 h5
                · rw [HKu.out] at h5; simp at h5)
              ((try clear b0 b1 b2 b3 b4); have b0 := box_cell HBx.out 0; have b1 := box_cell HBx.out 1; have b2 := box_cell HBx.out 2; have b3 := box_cell HBx.out 3; have b4 := box_cell HBx.out 4; (try simp at b0 b1 b2 b3 b4))
              rw [HawH.out] at b2 HCu
              have HALL : Hid (∀ w', Below wq.heap.size wq w' → w'.cell? ⟨w.heap.size, 0, none⟩ = some (.string d.name) ∧ w'.cell? ⟨w.heap.size, 1, none⟩ = some (.slice x.ai d.inputs.length x.ci) ∧ w'.cell? ⟨w.heap.size, 2, none⟩ = some (.slice (some ⟨bw, ow, none⟩) d.wires.length x.cw) ∧ w'.cell? ⟨w.heap.size, 3, none⟩ = some (.slice x.ar d.regs.length x.cr) ∧ w'.cell? ⟨w.heap.size, 4, none⟩ = some (.slice x.ao d.outputs.length x.co) ∧ w'.cell? ⟨p1, o1 + m, none⟩ = some (.string u)) := fun w' h => by
                have kk := keeps_of_below h
                exact ⟨kk _ _ b0, kk _ _ b1, kk _ _ b2, kk _ _ b3, kk _ _ b4, kk _ _ u0⟩
              go_wp2_with fail
              go_region_held3 (fun w' => Below wq.heap.size wq w' ∧ w'.cell? ⟨w.heap.size, 0, none⟩ = some (.string d.name) ∧ w'.cell? ⟨w.heap.size, 1, none⟩ = some (.slice x.ai d.inputs.length x.ci) ∧ w'.cell? ⟨w.heap.size, 2, none⟩ = some (.slice (some ⟨bw, ow, none⟩) d.wires.length x.cw) ∧ w'.cell? ⟨w.heap.size, 3, none⟩ = some (.slice x.ar d.regs.length x.cr) ∧ w'.cell? ⟨w.heap.size, 4, none⟩ = some (.slice x.ao d.outputs.length x.co) ∧ w'.cell? ⟨p1, o1 + m, none⟩ = some (.string u))
                ((refine (fun h => ⟨h, HALL.out _ h⟩) ?_; first | assumption | (exact Below.drew (Below.refl _ _))))
                ((go_at_call 29; (with_reducible refine (HCu.out _ (by first | assumption | exact And.left (by assumption))).mono ?_); rintro e w6 ⟨⟨P, aP, cP, rfl, hSP, hPE, hfr⟩, hcb⟩; (have hfr : ∀ p, aP = some p → wq.heap.size ≤ p.block := hfr); (have HFr := Lib.hid hfr); clear hfr; (have hb6 : Below wq.heap.size wq w6 := (Below.drew (Below.refl _ _)).trans hcb); (have HSP := Lib.hid hSP); (have HPE := Lib.hid hPE); clear hSP hPE hcb))
              have HB6 := Lib.hid (by assumption : Below wq.heap.size wq w6)
              clear b0 b1 b2 b3 b4 u0 HALL
              have HOw6 := Lib.hid (ownsRow_below HOw.out HB6.out)
              have HB56 := Lib.hid (HBq.out.trans (HB6.out.mono HBq.out.size))
              have hPl := HSP.out.2.1
              have HSP0 : Hid (SeeP d U m P 0 S) := HSe.out.start P
              have HSbP := Lib.hid (HSb.out P HPE.out)
              have HLnP := Lib.hid (fun j S h => HLn.out P j S HPE.out h)
              have HDnP := Lib.hid (fun S h => HDn.out P S HPE.out h)
              have HSC6 := Lib.hid (HS5.out.keep (keeps_of_below HB56.out))
              clear HSe HSb HLn HDn HPE HCu HKu
              go_wp2_with fail
              go_loopw [15, 11, 9] (fun i v nn wr => ∃ (j : Nat) (a : Option Addr) (c : Nat) (S : List ByteArray), i = .int .i64 j ∧ v = .slice a S.length c ∧ nn = .int .i64 S.length ∧ j ≤ P.length ∧ Hid (SeeP d U m P j S) ∧ Hid (wr.ownsRow w5.heap.size 9 1 (.slice a S.length c) S.length (S.map Value.string)) ∧ Hid (Below w5.heap.size w5 wr) ∧ Hid (StrsIn wr P aP cP ∧ w6.heap.size ≤ wr.heap.size ∧ ∀ g, (Value.slice a S.length c).ownBlock = some g → g < wq.heap.size ∨ w6.heap.size ≤ g)) (fun i _ _ _ => P.length - (intOf i).toNat)
              case atStart => exact ⟨0, a, c, S, rfl, rfl, rfl, Nat.zero_le _, HSP0, HOw6, HB56, HSP.out, Nat.le_refl _, fun g hg => Or.inl (HOw.out.lt g hg).2⟩
              case round =>
                rename World => wz
                obtain ⟨j, a, c, S, rfl, rfl, rfl, hj, HSe, HOz, HBz, HSz2⟩ := hrel
                have HBxz := Lib.hid (HB5.out.trans (HBz.out.mono hz5))
                have HSCz := Lib.hid (HS5.out.keep (keeps_of_below HBz.out))
                by_cases hlj : j < P.length
                · have hSl : S.length ≤ C.length := HLnP.out j S HSe.out
                  obtain ⟨pP, oP, haP⟩ := (SliceIn.addr HSz2.out.1).resolve_left (by omega)
                  have uP := HSz2.out.1.get haP hlj
                  have hcP := HSz2.out.1.1
                  have hin := HSbP.out _ (List.getElem_mem hlj)
                  have HOld : Hid ((idxT S (P[j]'hlj)).isSome = true → SeeP d U m P (j + 1) S) := fun h => HSe.out.old hlj h
                  have HNew : Hid ((idxT S (P[j]'hlj)).isSome = false → SeeP d U m P (j + 1) (S ++ [P[j]'hlj]) ∧ S.length + 1 ≤ C.length) := fun h => by
                    have h1 := HSe.out.new hlj h
                    exact ⟨h1, by have := HLnP.out (j + 1) _ h1; simpa using this⟩
                  have HH1 := Lib.hid (has31_any C aC cC (P[j]'hlj) wz HSCz.out)
                  rw [hin] at HH1
                  have HH2 : Hid (Calls Tryz.prog 36 #[.slice a S.length c, .string (P[j]'hlj)] wz fun e w' => e = .returned (.bool (idxT S (P[j]'hlj)).isSome) ∧ wz = w') := by
                    obtain ⟨a2, c2, hv2, hS2⟩ := strs_of_own HOz.out (by omega)
                    injection hv2 with e1 e2 e3
                    subst e1 e3
                    exact has31_any S a c (P[j]'hlj) wz hS2
                  generalize (P[j]'hlj) = s at uP HOld HNew HH1 HH2
                  have HaP := Lib.hid haP
                  rw [haP]
                  clear hin haP
                  cases hs2 : (idxT S s).isSome
                  · obtain ⟨hnw, hnl⟩ := HNew.out hs2
                    have HNw := Lib.hid hnw
                    rw [hs2] at HH2
                    clear hs2 hnw HOld HNew
                    go_wp2_with fail
                    refine HH1.out.mono ?_
                    rintro e wy ⟨rfl, rfl⟩
                    go_wp2_with fail
                    refine HH2.out.mono ?_
                    rintro e wy ⟨rfl, rfl⟩
                    have hgz := HSz2.out
                    go_wp2_with (at_builtin; go_must (refine own_appx elemS _ rfl (.tmp 113) (.tmp 118) rfl w5.heap.size (.slice a S.length c) S.length (S.map Value.string) rfl HOz.out [.string s] 1 _ 1 rfl (by simp [Value.oneCell']) rfl (by first | rfl | simp) (by omega) (by omega) (by have := HBz.out.size; omega) ?_))
                    intro g' cap' w7 ho hg hat
                    have hpP : wq.heap.size ≤ pP ∧ pP < w6.heap.size := ⟨HFr.out _ HaP.out, by
                      have := HSP.out.get HaP.out (show 0 < P.length by omega)
                      have := World.block_lt_of_cell? _ _ this
                      simpa using this⟩
                    have hbP : w7.heap[pP]? = wz.heap[pP]? := by
                      rw [hg.block pP (by rw [World.size_alloc]; omega) (fun e => by rcases hgz.2.2 pP e.symm with h | h <;> omega)]
                      exact Below.heap_alloc _ _ _ (by omega)
                    have hwzs : wz.heap.size ≤ w7.heap.size := by have := hg.size; simp at this; omega
                    have HO7 : Hid (w7.ownsRow w5.heap.size 9 1 (.slice (some ⟨g', 0, none⟩) (S ++ [s]).length cap') (S ++ [s]).length ((S ++ [s]).map Value.string)) := by
                      show World.ownsRow _ _ _ _ _ _ _
                      rw [List.length_append, List.map_append]
                      exact ho
                    have HB7 : Hid (Below w5.heap.size w5 w7) := Below.grown (HBz.out.alloc HBz.out.size _) hg (by have := HBz.out.size; simp; omega) (fun j hj => (HOz.out.lt j hj).1)
                    have HP7 : Hid (StrsIn w7 P aP cP ∧ w6.heap.size ≤ w7.heap.size ∧ ∀ g, (Value.slice (some ⟨g', 0, none⟩) (S ++ [s]).length cap').ownBlock = some g → g < wq.heap.size ∨ w6.heap.size ≤ g) := by
                      refine ⟨strs_blk hgz.1 HaP.out hbP, by omega, fun g hg2 => ?_⟩
                      have hgg : g' = g := by simpa [Value.ownBlock] using hg2
                      subst hgg
                      rcases hat with h | h
                      · exact hgz.2.2 _ h
                      · exact Or.inr (by omega)
                    clear ho hg hat hgz hbP hpP uP
                    go_wp2_with fail
                    rw [← HaP.out]
                    go_roundw
                    case rel => exact ⟨j + 1, some ⟨g', 0, none⟩, cap', S ++ [s], by go_num, by simp, by simp, by omega, HNw, HO7, HB7, HP7⟩
                    case measure => (simp [intOf]; try omega)
                  · have HOl := Lib.hid (HOld.out hs2)
                    rw [hs2] at HH2
                    clear hs2 HOld HNew
                    go_wp2_with fail
                    refine HH1.out.mono ?_
                    rintro e wy ⟨rfl, rfl⟩
                    go_wp2_with fail
                    refine HH2.out.mono ?_
                    rintro e wy ⟨rfl, rfl⟩
                    go_wp2_with fail
                    rw [← HaP.out]
                    go_roundw
                    case rel => exact ⟨j + 1, a, c, S, by go_num, rfl, rfl, by omega, HOl, HOz, HBz, HSz2⟩
                    case measure => (simp [intOf]; try omega)
                · obtain rfl : j = P.length := by omega
                  have HSd : Hid (SeeC d U (m + 1) S) := HDnP.out S HSe.out
                  go_wp2_with fail
                  go_roundw
                  case rel => exact ⟨m + 1, a, c, S, by go_num, rfl, rfl, by omega, HSd, HOz, HBz⟩
                  case measure => (simp [intOf]; try omega)
            · obtain rfl : m = U.length := by omega
              have hSC := HEnd.out S HSe.out
              rename World => we
              have hSeq : ((S.length : Int) == (C.length : Int)) = true := by rw [hSC]; simp
              go_wp2_with fail
              (refine (HAw.out we (boxW _ HBx.out)).mono ?_; rintro e wz ⟨rfl, hbz⟩; have HBz : Hid (Below w.heap.size w wz) := (boxW _ HBx.out).trans (hbz.mono (boxW _ HBx.out).size); clear hbz; go_wp2_with fail; go_ret; exact ⟨rfl, HBz.out⟩)
end Go.Proofs.YtihegbjlgpghbaaGreatDoor
