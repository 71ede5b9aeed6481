/- The reference of search: known, right, common, all. -/
import Derived.Test.YtgdphjgedhadoaaGreatDoorKN
set_option linter.unusedSimpArgs false
set_option linter.unusedVariables false
set_option linter.unnecessarySimpa false
namespace Go.Proofs.YtgdphjgedhadoaaGreatDoor
open Go.RowKit

set_option maxHeartbeats 2000000 in
theorem r18known_any (p : ProbD) (x : ProbA) (s : ByteArray) (w : World) (hE : ProbIn w p x) :
    Calls Tryz.prog 114 #[probVal p x, .string s] w fun e w' => e = .returned (.bool (decide (0 ≤ findV p.vars s 0))) ∧ Below w.heap.size w w' := by
  have HE := Lib.hid hE.vars
  have HA := Lib.hid hE.vars.addr
  have hlen := hE.vars.2.1
  rw [probVal_eq]
  obtain ⟨vs, hard, soft, ds, gs⟩ := p
  obtain ⟨av, cv, ah, ch, ao, co, ad, cd, ag, cg⟩ := x
  simp only at HE HA hlen ⊢
  clear hE
  go_enter Tryz.func114, Tryz.ntmps114
  go_wp2_with fail
  go_loopw [5] (fun i wr => ∃ k : Nat, i = .int .i64 k ∧ k ≤ vs.length ∧ (∀ j (hj : j < vs.length), j < k → ((vs[j]'hj).name.toList == s.toList) = false) ∧ Below (w.heap.size + 1) (w.alloc (.cells #[.slice av vs.length cv, .slice ah hard.length ch, .slice ao soft.length co, .slice ad ds.length cd, .slice ag gs.length cg] 27)) wr) (fun i _ => vs.length - (intOf i).toNat)
  case atStart => exact ⟨0, rfl, Nat.zero_le _, fun _ _ h => absurd h (by omega), Below.refl _ _⟩
  case round =>
    obtain ⟨k, rfl, hk, hall, hB⟩ := hrel
    have b0 := box_cell hB 0
    (try simp at b0)
    have HAl := Lib.hid hall
    have HB := Lib.hid hB
    have HBw := Lib.hid (boxW _ hB)
    clear hall hB
    by_cases hlt : k < vs.length
    · obtain ⟨b, off, ha⟩ := HA.out.resolve_left (by omega)
      subst ha
      obtain ⟨c0, _⟩ := HE.out.get rfl hlt
      have c0 := (keeps_of_below HBw.out) _ _ c0
      cases he : ((vs[k]'hlt).name.toList == s.toList)
      · go_wp2_with fail
        go_roundw
        case rel => exact ⟨k + 1, by go_num, by omega, fun j hj hjk => by
          by_cases e : j = k
          · subst e; exact he
          · exact HAl.out j hj (by omega), HB.out⟩
        case measure => simp [intOf]; omega
      · have HY : Hid (decide (0 ≤ findV vs s 0) = true) := by
          show _ = _
          rw [findV_at s vs k 0 hlt (fun j hj => HAl.out j (by omega) hj) he]
          first | (simp; done) | (simp; omega)
        go_wp2_with fail
        go_ret
        exact ⟨by rw [HY.out]; rfl, HBw.out⟩
    · obtain rfl : k = vs.length := by omega
      have HN : Hid (decide (0 ≤ findV vs s 0) = false) := by
        show _ = _
        rw [findV_none s vs 0 (fun j hj => HAl.out j hj hj)]; rfl
      go_wp2_with fail
      go_ret
      exact ⟨by rw [HN.out]; rfl, HBw.out⟩
theorem exprOk_iff (l : List VarD) (e : Ex) : ExprOk l e ↔ validS e = 0 ∧ (namesS [3, 24] e).length = 0 ∧ ∀ i (h : i < (namesS [2] e).length), 0 ≤ findV l ((namesS [2] e)[i]'h) 0 := by
  have h1 := arr_names e
  have h2 := for_names l e
  constructor
  · intro h
    refine ⟨h.valid, ?_, fun i hi => ?_⟩
    · rw [h.arr] at h1
      cases hn : namesS [3, 24] e with
      | nil => rfl
      | cons => rw [hn] at h1; simp at h1
    · rw [h.names, List.any_eq_false] at h2
      have := h2 _ (List.getElem_mem hi)
      simpa using this
  · rintro ⟨a, b, c⟩
    refine ⟨a, ?_, ?_⟩
    · rw [List.eq_nil_of_length_eq_zero b] at h1
      cases ha : e.nodes.any arrN
      · rfl
      · rw [ha] at h1; simp at h1
    · rw [← h2, List.any_eq_false]
      intro s hs
      obtain ⟨i, hi, rfl⟩ := List.getElem_of_mem hs
      simpa using c i hi
/-- a callee met in a world that has grown out of W0: what lies below B reads as in W0 -/
theorem frB {P : Program} {f : FuncId} {args : Array Value} {w : World} {Q : Ending → World → Prop} {B : Nat} {W0 : World} (h : Calls P f args w fun e w' => Q e w' ∧ Below w.heap.size w w') (hW : Below B W0 w) (hB : B ≤ W0.heap.size) :
    Calls P f args w fun e w' => Q e w' ∧ (∀ b o, b < B → w'.cell? ⟨b, o, none⟩ = W0.cell? ⟨b, o, none⟩) ∧ Below B W0 w' :=
  h.mono fun _ _ ⟨hq, hb⟩ => ⟨hq, fun b o hlt => ((hW.trans (hb.mono (Nat.le_trans hB hW.size))).cell (p := ⟨b, o, none⟩) hlt), hW.trans (hb.mono (Nat.le_trans hB hW.size))⟩
theorem below_two {w W : World} {o o' : Obj} (h : Below (w.heap.size + 2) ((w.alloc o).alloc o') W) : Below w.heap.size w W :=
  (((Below.refl _ _).alloc (Nat.le_refl _) _).alloc (by simp) _).trans (h.mono (by omega))
set_option maxRecDepth 100000 in
set_option maxHeartbeats 8000000 in
theorem r18right_any (p : ProbD) (x : ProbA) (op n : Int) (s : ByteArray) (args : List Ex) (a : Option Addr) (cap : Nat) (w : World) (hE : ProbIn w p x) (hX : ExIn w (.mk op n s args) a cap) (hn : (Ex.mk op n s args).nodes.length ≤ 1000000000) :
    Calls Tryz.prog 82 #[probVal p x, .agg #[.int .i64 op, .int .i64 n, .string s, .slice a args.length cap]] w fun e w' => e = .returned (.bool (pB (ExprOk p.vars (.mk op n s args)))) ∧ Below w.heap.size w w' := by
  have HOk := Lib.hid (exprOk_iff p.vars (.mk op n s args))
  have HP := Lib.hid hE
  have HX := Lib.hid hX
  have HK0 := Lib.hid (fun (t : ByteArray) W (hW : Below w.heap.size w W) => r18known_any p x t W (HP.out.keep (keeps_of_below hW)))
  clear hE hX
  simp only [probVal_eq] at HK0 ⊢
  obtain ⟨vs, hard, soft, ds, gs⟩ := p
  obtain ⟨av, cv, ah, ch, ao, co, ad, cd, ag, cg⟩ := x
  simp only at HK0 HOk ⊢
  have HVa := Lib.hid (fun W (hW : Below (w.heap.size + 2) ((w.alloc (.cells #[.slice av vs.length cv, .slice ah hard.length ch, .slice ao soft.length co, .slice ad ds.length cd, .slice ag gs.length cg] 27)).alloc (.cells #[.int .i64 op, .int .i64 n, .string s, .slice a args.length cap] 57)) W) => frB (Q := fun e _ => e = _) (rValid_any op n s args a cap W (HX.out.keep (keeps_of_below (below_two hW))) hn) hW (by simp))
  have HAa := Lib.hid (fun W (hW : Below (w.heap.size + 2) ((w.alloc (.cells #[.slice av vs.length cv, .slice ah hard.length ch, .slice ao soft.length co, .slice ad ds.length cd, .slice ag gs.length cg] 27)).alloc (.cells #[.int .i64 op, .int .i64 n, .string s, .slice a args.length cap] 57)) W) => frB (Q := StrsRet (namesS [3, 24] (.mk op n s args))) (rArrays_any op n s args a cap W (HX.out.keep (keeps_of_below (below_two hW))) hn) hW (by simp))
  have HNa := Lib.hid (fun W (hW : Below (w.heap.size + 2) ((w.alloc (.cells #[.slice av vs.length cv, .slice ah hard.length ch, .slice ao soft.length co, .slice ad ds.length cd, .slice ag gs.length cg] 27)).alloc (.cells #[.int .i64 op, .int .i64 n, .string s, .slice a args.length cap] 57)) W) => frB (Q := StrsRet (namesS [2] (.mk op n s args))) (rNames_any op n s args a cap W (HX.out.keep (keeps_of_below (below_two hW))) hn) hW (by simp))
  have HB0 : Hid (Below (w.heap.size + 2) ((w.alloc (.cells #[.slice av vs.length cv, .slice ah hard.length ch, .slice ao soft.length co, .slice ad ds.length cd, .slice ag gs.length cg] 27)).alloc (.cells #[.int .i64 op, .int .i64 n, .string s, .slice a args.length cap] 57)) ((w.alloc (.cells #[.slice av vs.length cv, .slice ah hard.length ch, .slice ao soft.length co, .slice ad ds.length cd, .slice ag gs.length cg] 27)).alloc (.cells #[.int .i64 op, .int .i64 n, .string s, .slice a args.length cap] 57))) := Below.refl _ _
  clear hn
  generalize namesS [3, 24] (Ex.mk op n s args) = A3 at HAa HOk
  generalize namesS [2] (Ex.mk op n s args) = N2 at HNa HOk
  by_cases hv : validS (Ex.mk op n s args) = 0
  · rw [hv] at HVa
    by_cases ha : A3.length = 0
    · obtain rfl : A3 = [] := List.eq_nil_of_length_eq_zero ha
      have HOk' : Hid (ExprOk vs (.mk op n s args) ↔ ∀ i (h : i < N2.length), 0 ≤ findV vs (N2[i]'h) 0) := by
        show _ ↔ _; rw [HOk.out]; simp [hv]
      clear hv ha HOk
      go_enter Tryz.func82, Tryz.ntmps82
      go_wp2_with fail
      refine (HVa.out _ HB0.out).mono ?_
      rintro e w1 ⟨rfl, hc1, hb1⟩
      have hzl : w.heap.size < w1.heap.size := (by have := hb1.size; simp at this; omega)
      go_wp2_with fail
      refine (HAa.out _ hb1).mono ?_
      rintro e w2 ⟨⟨aa, ca, rfl, _⟩, hc2, hb2⟩
      have hzl2 : w.heap.size < w2.heap.size := (by have := hb2.size; simp at this; omega)
      clear hc1 hb1 hzl
      go_wp2_with fail
      refine (HNa.out _ hb2).mono ?_
      rintro e w1 ⟨⟨an, cn, rfl, hst⟩, hc1, hb1⟩
      have HX0 := Lib.hid (⟨hb1, hst⟩ : _ ∧ _)
      clear hc1 hb1 hst hc2 hb2 hzl2
      go_wp2_with fail
      obtain ⟨hb1, hst⟩ := HX0.out
      have HSt := Lib.hid hst
      have HAN := Lib.hid hst.addr
      have hln := hst.2.1
      have Hb1 := Lib.hid hb1
      clear hst hb1 HX0
      go_loopw [6] (fun i wr => ∃ k : Nat, i = .int .i64 k ∧ k ≤ N2.length ∧ (∀ j (hj : j < N2.length), j < k → 0 ≤ findV vs (N2[j]'hj) 0) ∧ Below w1.heap.size w1 wr) (fun i _ => N2.length - (intOf i).toNat)
      case atStart => exact ⟨0, rfl, Nat.zero_le _, fun _ _ h => absurd h (by omega), Below.refl _ _⟩
      case round =>
        obtain ⟨k, rfl, hk, hall, hB⟩ := hrel
        have HAl := Lib.hid hall
        have HBr : Hid (Below (w.heap.size + 2) ((w.alloc (.cells #[.slice av vs.length cv, .slice ah hard.length ch, .slice ao soft.length co, .slice ad ds.length cd, .slice ag gs.length cg] 27)).alloc (.cells #[.int .i64 op, .int .i64 n, .string s, .slice a args.length cap] 57)) wr) := Hb1.out.trans (hB.mono (by have := Hb1.out.size; simpa using this))
        have HB := Lib.hid hB
        clear hall hB
        by_cases hlt : k < N2.length
        · obtain ⟨b, off, ha⟩ := HAN.out.resolve_left (by omega)
          subst ha
          have c0 := HSt.out.get rfl hlt
          have cgr : ∀ g : Grow wr.heap.size wr, g.w'.cell? ⟨b, off + k, none⟩ = some (.string (N2[k]'hlt)) := Grow.old ((keeps_of_below HB.out) _ _ c0) (Nat.le_refl _)
          have bg : ∀ j, j < 5 → ∀ g : Grow wr.heap.size wr, g.w'.cell? ⟨w.heap.size, j, none⟩ = (#[Value.slice av vs.length cv, .slice ah hard.length ch, .slice ao soft.length co, .slice ad ds.length cd, .slice ag gs.length cg] : Array Value)[j]? := fun j hj g => by
            have h1 : wr.cell? ⟨w.heap.size, j, none⟩ = (#[Value.slice av vs.length cv, .slice ah hard.length ch, .slice ao soft.length co, .slice ad ds.length cd, .slice ag gs.length cg] : Array Value)[j]? := (HBr.out.cell (p := ⟨w.heap.size, j, none⟩) (by simp)).trans (by simp)
            rw [← h1]
            exact g.h.cell (by have := HBr.out.size; simp at this; simp; omega)
          have b0 := bg 0 (by decide)
          have b1 := bg 1 (by decide)
          have b2 := bg 2 (by decide)
          have b3 := bg 3 (by decide)
          have b4 := bg 4 (by decide)
          (try simp at b0 b1 b2 b3 b4)
          have HK := Lib.hid (fun W (hW : Below wr.heap.size wr W) => (HK0.out (N2[k]'hlt) W (below_two (HBr.out.trans (hW.mono (by have := HBr.out.size; simpa using this))))).mono fun e w' h => (⟨h.1, hW.trans (h.2.mono hW.size)⟩ : _ ∧ Below wr.heap.size wr w'))
          clear c0 bg
          by_cases hf : 0 ≤ findV vs (N2[k]'hlt) 0
          · rw [decide_eq_true hf] at HK
            go_wp2_with fail
            (refine wp_region_grow (B := wr.heap.size) (w0 := wr) (by kernel_rfl) (by kernel_rfl) (by repeat (first | assumption | exact Below.refl _ _ | refine Below.drew ?_ | refine below_drewN ?_ _ | refine Below.alloc ?_ (by first | omega | (simp only [World.size_alloc, World.size_setCell, World.size_drew, World.heap_drewN] <;> omega) | (simp <;> omega)) _ | refine Below.setCell ?_ (by first | omega | (simp only [World.size_alloc, World.size_setCell, World.size_drew, World.heap_drewN] <;> omega) | (simp <;> omega)) _)) ?_; (repeat (go_big_quiet_step ((go_at_call 114; with_reducible exact grow_call (HK.out _ (Grow.h _)))))); refine wpQuiet_nil ?_; intro wg hCg; have hbg := grow_out hCg; clear hCg)
            go_wp2_with fail
            go_roundw
            case rel => exact ⟨k + 1, by go_num, by omega, fun j hj hjk => by
              by_cases e : j = k
              · subst e; exact hf
              · exact HAl.out j hj (by omega), HB.out.trans ((by assumption : Below wr.heap.size wr _).mono HB.out.size)⟩
            case measure => simp [intOf]; omega
          · rw [decide_eq_false hf] at HK
            have HNo : Hid (pB (ExprOk vs (.mk op n s args)) = false) := pB_false (fun h => hf (HOk'.out.1 h k hlt))
            go_wp2_with fail
            (refine wp_region_grow (B := wr.heap.size) (w0 := wr) (by kernel_rfl) (by kernel_rfl) (by repeat (first | assumption | exact Below.refl _ _ | refine Below.drew ?_ | refine below_drewN ?_ _ | refine Below.alloc ?_ (by first | omega | (simp only [World.size_alloc, World.size_setCell, World.size_drew, World.heap_drewN] <;> omega) | (simp <;> omega)) _ | refine Below.setCell ?_ (by first | omega | (simp only [World.size_alloc, World.size_setCell, World.size_drew, World.heap_drewN] <;> omega) | (simp <;> omega)) _)) ?_; (repeat (go_big_quiet_step ((go_at_call 114; with_reducible exact grow_call (HK.out _ (Grow.h _)))))); refine wpQuiet_nil ?_; intro wg hCg; have hbg := grow_out hCg; clear hCg)
            go_wp2_with fail
            go_ret
            exact ⟨by rw [HNo.out]; rfl, (below_two HBr.out).trans ((by assumption : Below wr.heap.size wr _).mono (below_two HBr.out).size)⟩
        · obtain rfl : k = N2.length := by omega
          have HY : Hid (pB (ExprOk vs (.mk op n s args)) = true) := pB_true (HOk'.out.2 (fun i h => HAl.out i h h))
          go_wp2_with fail
          go_ret
          exact ⟨by rw [HY.out]; rfl, below_two HBr.out⟩
    · have HNo : Hid (pB (ExprOk vs (.mk op n s args)) = false) := pB_false (fun h => ha (HOk.out.1 h).2.1)
      have ha' : 1 ≤ A3.length := by omega
      clear hv ha HOk
      go_enter Tryz.func82, Tryz.ntmps82
      go_wp2_with (first | (go_at_call 76; (with_reducible refine (HVa.out _ (by first | assumption | exact HB0.out)).mono ?_); rintro e w1 ⟨rfl, hc1, hb1⟩; have hzl : w.heap.size < w1.heap.size := (by have := hb1.size; simp at this; omega)) | (go_at_call 109; (with_reducible refine (HAa.out _ (by assumption)).mono ?_); rintro e w1 ⟨⟨aa, ca, rfl, _⟩, hc1, hb1⟩; have hzl : w.heap.size < w1.heap.size := (by have := hb1.size; simp at this; omega)) | (go_at_call 108; (with_reducible refine (HNa.out _ (by assumption)).mono ?_); rintro e w1 ⟨⟨an, cn, rfl, hst⟩, hc1, hb1⟩; have HX1 := Lib.hid (⟨hb1, hst⟩ : _ ∧ _); clear hb1 hst))
      go_ret
      exact ⟨by rw [HNo.out]; rfl, below_two (by assumption)⟩
  · have HNo : Hid (pB (ExprOk vs (.mk op n s args)) = false) := pB_false (fun h => hv h.valid)
    have hv' : (validS (Ex.mk op n s args) != 0) = true := by simpa using hv
    generalize validS (Ex.mk op n s args) = vv at HVa hv hv'
    clear hv HOk
    go_enter Tryz.func82, Tryz.ntmps82
    go_wp2_with (first | (go_at_call 76; (with_reducible refine (HVa.out _ (by first | assumption | exact HB0.out)).mono ?_); rintro e w1 ⟨rfl, hc1, hb1⟩; have hzl : w.heap.size < w1.heap.size := (by have := hb1.size; simp at this; omega)) | (go_at_call 109; (with_reducible refine (HAa.out _ (by assumption)).mono ?_); rintro e w1 ⟨⟨aa, ca, rfl, _⟩, hc1, hb1⟩; have hzl : w.heap.size < w1.heap.size := (by have := hb1.size; simp at this; omega)) | (go_at_call 108; (with_reducible refine (HNa.out _ (by assumption)).mono ?_); rintro e w1 ⟨⟨an, cn, rfl, hst⟩, hc1, hb1⟩; have HX1 := Lib.hid (⟨hb1, hst⟩ : _ ∧ _); clear hb1 hst))
    go_ret
    exact ⟨by rw [HNo.out]; rfl, below_two (by assumption)⟩
end Go.Proofs.YtgdphjgedhadoaaGreatDoor

/- The reference of search: common, all. -/
namespace Go.Proofs.YtgdphjgedhadoaaGreatDoor
open Go.RowKit

theorem box_grow {w wr : World} {c : Array Value} {t : TypeId} (h : Below (w.heap.size + 1) (w.alloc (.cells c t)) wr) (j : Nat) (g : Grow wr.heap.size wr) : g.w'.cell? ⟨w.heap.size, j, none⟩ = c[j]? := by
  rw [← box_cell h j]
  exact g.h.cell (by have := h.size; simp at this; simp; omega)
structure ComOk (p : ProbD) (l : List Ex) (steps : Int) : Prop where
  prob : ProbOk p
  lo : 0 ≤ steps
  hi : steps ≤ 262144
  exprs : ∀ i (h : i < l.length), ExprOk p.vars (l[i]'h)
noncomputable def errOf (P : Prop) : Int := if pB P = true then 0 else 1
theorem errOf_yes {P : Prop} (h : P) : errOf P = 0 := by unfold errOf; rw [pB_true h]; rfl
theorem errOf_no {P : Prop} (h : ¬ P) : errOf P = 1 := by unfold errOf; rw [pB_false h]; rfl
set_option maxRecDepth 100000 in
set_option maxHeartbeats 4000000 in
theorem r18common_any (p : ProbD) (x : ProbA) (l : List Ex) (al : Option Addr) (cl : Nat) (steps : Int) (w : World) (hE : ProbIn w p x) (hs : ProbSmall p) (hL : ExsIn w l al cl) (hsl : ExsSmall l) :
    Calls Tryz.prog 47 #[probVal p x, .slice al l.length cl, .int .i64 steps] w fun e w' => e = .returned (.int .i64 (errOf (ComOk p l steps))) ∧ Below w.heap.size w w' := by
  have hlen := hL.2.1
  have HV0 := Lib.hid (fun W (hW : Below w.heap.size w W) => r14Valid_any p x W (hE.keep (keeps_of_below hW)) hs)
  have HRt := Lib.hid (fun op n s args a cap W (hW : Below w.heap.size w W) (hX : ExIn W (.mk op n s args) a cap) (hn : (Ex.mk op n s args).nodes.length ≤ 1000000000) => r18right_any p x op n s args a cap W (hE.keep (keeps_of_below hW)) hX hn)
  have HL := Lib.hid hL
  have HA := Lib.hid hL.addr
  have HSl := Lib.hid hsl
  clear hE hs hL hsl
  have HCO : Hid (∀ (h1 : ProbOk p) (h2 : 0 ≤ steps) (h3 : steps ≤ 262144), (∀ i (h : i < l.length), ExprOk p.vars (l[i]'h)) → ComOk p l steps) := fun h1 h2 h3 h4 => ⟨h1, h2, h3, h4⟩
  by_cases hp : ProbOk p
  · have hnl : ¬ ProbOk p → False := fun h => h hp
    have HV1 := Lib.hid (fun W hW => errT (HV0.out W hW) hp)
    have HCO' := Lib.hid (HCO.out hp)
    simp only [probVal_eq] at HV1 HRt ⊢
    obtain ⟨vs, hard, soft, ds, gs⟩ := p
    obtain ⟨av, cv, ah, ch, ao, co, ad, cd, ag, cg⟩ := x
    simp only at HV1 HRt HCO' ⊢
    have HV := Lib.hid (HV1.out (w.alloc (.cells #[.slice av vs.length cv, .slice ah hard.length ch, .slice ao soft.length co, .slice ad ds.length cd, .slice ag gs.length cg] 27)) ((Below.refl _ _).alloc (Nat.le_refl _) _))
    by_cases hst : 0 ≤ steps ∧ steps ≤ 262144
    · obtain ⟨h2, h3⟩ := hst
      have HCO2 := Lib.hid (HCO'.out h2 h3)
      clear HCO HCO' HV0 HV1 hp hnl
      go_enter Tryz.func47, Tryz.ntmps47
      go_wp2_with fail
      refine HV.out.mono ?_
      rintro e w1 ⟨rfl, hb1⟩
      simp only [World.size_alloc] at hb1
      have Hb1 := Lib.hid hb1
      clear hb1
      go_wp2_with fail
      go_loopw [7] (fun i wr => ∃ k : Nat, i = .int .i64 k ∧ k ≤ l.length ∧ (∀ j (hj : j < l.length), j < k → ExprOk vs (l[j]'hj)) ∧ Below (w.heap.size + 1) (w.alloc (.cells #[.slice av vs.length cv, .slice ah hard.length ch, .slice ao soft.length co, .slice ad ds.length cd, .slice ag gs.length cg] 27)) wr) (fun i _ => l.length - (intOf i).toNat)
      case atStart => exact ⟨0, rfl, Nat.zero_le _, fun _ _ h => absurd h (by omega), Hb1.out⟩
      case round =>
        obtain ⟨k, rfl, hk, hall, hB⟩ := hrel
        have HAl := Lib.hid hall
        have HB := Lib.hid hB
        have HBw := Lib.hid (boxW _ hB)
        have hzr := hB.size
        simp only [World.size_alloc] at hzr
        clear hall hB
        by_cases hlt : k < l.length
        · obtain ⟨b, off, ha⟩ := HA.out.resolve_left (by omega)
          subst ha
          obtain ⟨a', cap', g0, g1, g2, g3, hX⟩ := HL.out.get rfl hlt
          have hn := HSl.out _ (List.getElem_mem hlt)
          have HNx : Hid (ExprOk vs (l[k]'hlt) → ∀ j (hj : j < l.length), j < k + 1 → ExprOk vs (l[j]'hj)) := fun hv j hj hjk => by
            by_cases e : j = k
            · subst e; exact hv
            · exact HAl.out j hj (by omega)
          have HNo : Hid (¬ ExprOk vs (l[k]'hlt) → errOf (ComOk ⟨vs, hard, soft, ds, gs⟩ l steps) = 1) := fun h => errOf_no (fun h' => h (h'.exprs k hlt))
          generalize (l[k]'hlt) = e at g0 g1 g2 g3 hX hn HNx HNo
          obtain ⟨op, n, s, args⟩ := e
          simp only [Ex.op_mk, Ex.n_mk, Ex.name_mk, Ex.args_mk] at g0 g1 g2 g3
          have kk := keeps_of_below HBw.out
          have c0 : ∀ g : Grow wr.heap.size wr, g.w'.cell? ⟨b, off + k * 4, none⟩ = _ := Grow.old (kk _ _ g0) (Nat.le_refl _)
          have c1 : ∀ g : Grow wr.heap.size wr, g.w'.cell? ⟨b, off + k * 4 + 1, none⟩ = _ := Grow.old (kk _ _ g1) (Nat.le_refl _)
          have c2 : ∀ g : Grow wr.heap.size wr, g.w'.cell? ⟨b, off + k * 4 + 2, none⟩ = _ := Grow.old (kk _ _ g2) (Nat.le_refl _)
          have c3 : ∀ g : Grow wr.heap.size wr, g.w'.cell? ⟨b, off + k * 4 + 3, none⟩ = _ := Grow.old (kk _ _ g3) (Nat.le_refl _)
          have b0 := box_grow HB.out 0
          have b1 := box_grow HB.out 1
          have b2 := box_grow HB.out 2
          have b3 := box_grow HB.out 3
          have b4 := box_grow HB.out 4
          (try simp at b0 b1 b2 b3 b4)
          have HC := Lib.hid (fun W (hW : Below wr.heap.size wr W) => (HRt.out op n s args a' cap' W (HBw.out.trans (hW.mono HBw.out.size)) ((hX.keep kk).keep (keeps_of_below hW)) hn).mono fun e w' h => (⟨h.1, hW.trans (h.2.mono hW.size)⟩ : _ ∧ Below wr.heap.size wr w'))
          clear g0 g1 g2 g3 hX hn kk
          by_cases hv : ExprOk vs (Ex.mk op n s args)
          · have HNx' := Lib.hid (HNx.out hv)
            rw [pB_true hv] at HC
            clear hv HNx HNo
            go_wp2_with fail
            (refine wp_region_grow (B := wr.heap.size) (w0 := wr) (by kernel_rfl) (by kernel_rfl) (by repeat (first | assumption | exact Below.refl _ _ | refine Below.drew ?_ | refine below_drewN ?_ _ | refine Below.alloc ?_ (by first | omega | (simp only [World.size_alloc, World.size_setCell, World.size_drew, World.heap_drewN] <;> omega) | (simp <;> omega)) _ | refine Below.setCell ?_ (by first | omega | (simp only [World.size_alloc, World.size_setCell, World.size_drew, World.heap_drewN] <;> omega) | (simp <;> omega)) _)) ?_; (repeat (go_big_quiet_step ((go_at_call 82; with_reducible exact grow_call (HC.out _ (Grow.h _)))))); refine wpQuiet_nil ?_; intro wg hCg; have hbg := grow_out hCg; clear hCg)
            go_wp2_with fail
            go_roundw
            case rel => exact ⟨k + 1, by go_num, by omega, HNx'.out, HB.out.trans ((by assumption : Below wr.heap.size wr _).mono (by simpa using hzr))⟩
            case measure => simp [intOf]; omega
          · have HNo' := Lib.hid (HNo.out hv)
            rw [pB_false hv] at HC
            clear hv HNx HNo
            go_wp2_with fail
            (refine wp_region_grow (B := wr.heap.size) (w0 := wr) (by kernel_rfl) (by kernel_rfl) (by repeat (first | assumption | exact Below.refl _ _ | refine Below.drew ?_ | refine below_drewN ?_ _ | refine Below.alloc ?_ (by first | omega | (simp only [World.size_alloc, World.size_setCell, World.size_drew, World.heap_drewN] <;> omega) | (simp <;> omega)) _ | refine Below.setCell ?_ (by first | omega | (simp only [World.size_alloc, World.size_setCell, World.size_drew, World.heap_drewN] <;> omega) | (simp <;> omega)) _)) ?_; (repeat (go_big_quiet_step ((go_at_call 82; with_reducible exact grow_call (HC.out _ (Grow.h _)))))); refine wpQuiet_nil ?_; intro wg hCg; have hbg := grow_out hCg; clear hCg)
            go_wp2_with fail
            go_ret
            exact ⟨by rw [HNo'.out]; rfl, HBw.out.trans ((by assumption : Below wr.heap.size wr _).mono HBw.out.size)⟩
        · obtain rfl : k = l.length := by omega
          have HY : Hid (errOf (ComOk ⟨vs, hard, soft, ds, gs⟩ l steps) = 0) := errOf_yes (HCO2.out (fun i h => HAl.out i h h))
          go_wp2_with fail
          go_ret
          exact ⟨by rw [HY.out]; rfl, HBw.out⟩
    · have HNo : Hid (errOf (ComOk ⟨vs, hard, soft, ds, gs⟩ l steps) = 1) := errOf_no (fun h => hst ⟨h.lo, h.hi⟩)
      clear HCO HCO' HV0 HV1 hp hnl
      by_cases hneg : steps < 0
      · have hd : decide (steps < 0) = true := decide_eq_true hneg
        go_enter Tryz.func47, Tryz.ntmps47
        go_wp2_with fail
        refine HV.out.mono ?_
        rintro e w1 ⟨rfl, hb1⟩
        simp only [World.size_alloc] at hb1
        have Hb1 := Lib.hid hb1
        clear hb1
        go_wp2_with fail
        go_ret
        exact ⟨by rw [HNo.out]; rfl, boxW _ Hb1.out⟩
      · have hd0 : decide (steps < 0) = false := decide_eq_false hneg
        have hd : decide (262144 < steps) = true := by simp; omega
        clear hst
        go_enter Tryz.func47, Tryz.ntmps47
        go_wp2_with fail
        refine HV.out.mono ?_
        rintro e w1 ⟨rfl, hb1⟩
        simp only [World.size_alloc] at hb1
        have Hb1 := Lib.hid hb1
        clear hb1
        go_wp2_with fail
        go_ret
        exact ⟨by rw [HNo.out]; rfl, boxW _ Hb1.out⟩
  · have HNo : Hid (errOf (ComOk p l steps) = 1) := errOf_no (fun h => hp h.prob)
    have HV1 := Lib.hid (fun W hW => errF (HV0.out W hW) hp)
    simp only [probVal_eq] at HV1 ⊢
    obtain ⟨vs, hard, soft, ds, gs⟩ := p
    obtain ⟨av, cv, ah, ch, ao, co, ad, cd, ag, cg⟩ := x
    simp only at HV1 ⊢
    have HV := Lib.hid (HV1.out (w.alloc (.cells #[.slice av vs.length cv, .slice ah hard.length ch, .slice ao soft.length co, .slice ad ds.length cd, .slice ag gs.length cg] 27)) ((Below.refl _ _).alloc (Nat.le_refl _) _))
    clear HCO HV0 HV1 hp
    go_enter Tryz.func47, Tryz.ntmps47
    go_wp2_with fail
    refine HV.out.mono ?_
    rintro e w1 ⟨⟨n, rfl, hn⟩, hb1⟩
    simp only [World.size_alloc] at hb1
    have Hb1 := Lib.hid hb1
    clear hb1
    go_wp2_with fail
    go_ret
    exact ⟨by rw [HNo.out]; rfl, boxW _ Hb1.out⟩

/-! ### all -/
/-- do all expressions hold? -/
noncomputable def allS (vs : List VarD) (l : List Ex) (A : List Int) : Bool := l.all fun e => (evalS (envS vs A) e).1 != 0
set_option maxRecDepth 100000 in
set_option maxHeartbeats 4000000 in
theorem r18all_any (p : ProbD) (x : ProbA) (l : List Ex) (al : Option Addr) (cl : Nat) (A : List Int) (aa : Option Addr) (ca : Nat) (w : World) (hE : ProbIn w p x) (hL : ExsIn w l al cl) (hsl : ExsSmall l) (hI : IntsIn w A aa ca) :
    Calls Tryz.prog 61 #[probVal p x, .slice al l.length cl, .slice aa A.length ca] w fun e w' => e = .returned (.bool (allS p.vars l A)) ∧ Below w.heap.size w w' := by
  have hlen := hL.2.1
  have hlv : (envS p.vars A).length ≤ 1073741824 := by
    by_cases h : A.length = p.vars.length
    · rw [envS_len h]; exact hE.vars.2.1
    · unfold envS; rw [if_neg h]; simp
  have HEv := Lib.hid (r14Env_any p x A aa ca _ (hE.keep (keeps_of_below ((Below.refl _ _).alloc (Nat.le_refl _) (.cells (probVals p x) 27)))) (hI.keep (keeps_of_below ((Below.refl _ _).alloc (Nat.le_refl _) (.cells (probVals p x) 27)))))
  have HL := Lib.hid hL
  have HA := Lib.hid hL.addr
  have HSl := Lib.hid hsl
  clear hE hL hsl hI
  simp only [probVal_eq, probVals] at HEv ⊢
  obtain ⟨vs, hard, soft, ds, gs⟩ := p
  obtain ⟨av, cv, ah, ch, ao, co, ad, cd, ag, cg⟩ := x
  simp only at HEv hlv ⊢
  go_enter Tryz.func61, Tryz.ntmps61
  go_wp2_with fail
  refine HEv.out.mono ?_
  rintro e w1 ⟨v, rfl, hown, hb1⟩
  obtain ⟨ae, ce, rfl, hSg⟩ := sigs_of_own hown hlv
  have HSg := Lib.hid hSg
  have Hb1 : Hid (Below w.heap.size w w1) := ((Below.refl _ _).alloc (Nat.le_refl _) _).trans (hb1.mono (by simp))
  clear hown hb1 hSg
  go_wp2_with fail
  go_loopw [8] (fun i wr => ∃ k : Nat, i = .int .i64 k ∧ k ≤ l.length ∧ (∀ j (hj : j < l.length), j < k → ((evalS (envS vs A) (l[j]'hj)).1 != 0) = true) ∧ Below w1.heap.size w1 wr) (fun i _ => l.length - (intOf i).toNat)
  case atStart => exact ⟨0, rfl, Nat.zero_le _, fun _ _ h => absurd h (by omega), Below.refl _ _⟩
  case round =>
    obtain ⟨k, rfl, hk, hall, hB⟩ := hrel
    have HAl := Lib.hid hall
    have HB := Lib.hid hB
    have HBw : Hid (Below w.heap.size w wr) := Hb1.out.trans (hB.mono Hb1.out.size)
    clear hall hB
    by_cases hlt : k < l.length
    · obtain ⟨b, off, ha⟩ := HA.out.resolve_left (by omega)
      subst ha
      obtain ⟨a', cap', g0, g1, g2, g3, hX⟩ := HL.out.get rfl hlt
      have hn := HSl.out _ (List.getElem_mem hlt)
      have HNx : Hid (((evalS (envS vs A) (l[k]'hlt)).1 != 0) = true → ∀ j (hj : j < l.length), j < k + 1 → ((evalS (envS vs A) (l[j]'hj)).1 != 0) = true) := fun hv j hj hjk => by
        by_cases e : j = k
        · subst e; exact hv
        · exact HAl.out j hj (by omega)
      have HNo : Hid (((evalS (envS vs A) (l[k]'hlt)).1 != 0) = false → allS vs l A = false) := fun h => by
        unfold allS
        rw [List.all_eq_false]
        exact ⟨_, List.getElem_mem hlt, by rw [h]; simp⟩
      generalize (l[k]'hlt) = e at g0 g1 g2 g3 hX hn HNx HNo
      obtain ⟨op, n, s, args⟩ := e
      simp only [Ex.op_mk, Ex.n_mk, Ex.name_mk, Ex.args_mk] at g0 g1 g2 g3
      have kk := keeps_of_below HBw.out
      have c0 := kk _ _ g0
      have c1 := kk _ _ g1
      have c2 := kk _ _ g2
      have c3 := kk _ _ g3
      have HC := Lib.hid ((rValue_any (envS vs A) ae ce op n s args a' cap' wr (HSg.out.keep (keeps_of_below HB.out)) (hX.keep kk) hn).mono fun e w' h => (⟨h.1, HB.out.trans (h.2.mono HB.out.size)⟩ : _ ∧ Below w1.heap.size w1 w'))
      generalize (evalS (envS vs A) (Ex.mk op n s args)).1 = z at HC HNx HNo
      clear g0 g1 g2 g3 hX hn kk
      by_cases hz : z = 0
      · have HNo' := Lib.hid (HNo.out (by rw [hz]; rfl))
        subst hz
        go_wp2_with fail
        refine HC.out.mono ?_
        rintro e w2 ⟨rfl, hb2⟩
        have HB2 := Lib.hid hb2
        clear hb2 c0 c1 c2 c3
        go_wp2_with fail
        go_ret
        exact ⟨by rw [HNo'.out]; rfl, Hb1.out.trans (HB2.out.mono Hb1.out.size)⟩
      · have hz' : (z == 0) = false := by simpa using hz
        have HNx' := Lib.hid (HNx.out (by simpa using hz))
        clear hz
        go_wp2_with fail
        refine HC.out.mono ?_
        rintro e w2 ⟨rfl, hb2⟩
        have HB2 := Lib.hid hb2
        clear hb2 c0 c1 c2 c3
        go_wp2_with fail
        go_roundw
        case rel => exact ⟨k + 1, by go_num, by omega, HNx'.out, HB2.out⟩
        case measure => simp [intOf]; omega
    · obtain rfl : k = l.length := by omega
      have HY : Hid (allS vs l A = true) := by
        show _ = _
        unfold allS
        rw [List.all_eq_true]
        intro e he
        obtain ⟨j, hj, rfl⟩ := List.getElem_of_mem he
        exact HAl.out j hj hj
      go_wp2_with fail
      go_ret
      exact ⟨by rw [HY.out]; rfl, HBw.out⟩
end Go.Proofs.YtgdphjgedhadoaaGreatDoor

/- The reference of search: from. -/
namespace Go.Proofs.YtgdphjgedhadoaaGreatDoor
open Go.RowKit

theorem scanN_over {H : Nat → Bool} {T s k : Nat} (h : T ≤ k) : (scanN H T s k).1 = none ∧ (scanN H T s k).2.1 = k := by
  cases s with
  | zero => exact ⟨rfl, rfl⟩
  | succ s => unfold scanN; rw [if_pos h]; exact ⟨rfl, rfl⟩
theorem scanN_zero {H : Nat → Bool} {T k : Nat} : scanN H T 0 k = (none, k, 0) := rfl
theorem scanN_hit {H : Nat → Bool} {T s k : Nat} (h : k < T) (hh : H k = true) : scanN H T (s + 1) k = (some k, k + 1, s) := by
  show (if T ≤ k then _ else if H k = true then _ else _) = _
  rw [if_neg (by omega), if_pos hh]
theorem scanN_miss {H : Nat → Bool} {T s k : Nat} (h : k < T) (hh : H k = false) : scanN H T (s + 1) k = scanN H T s (k + 1) := by
  show (if T ≤ k then _ else if H k = true then _ else _) = _
  rw [if_neg (by omega), if_neg (by rw [hh]; simp)]
/-- what a search returns -/
def ScanRet (vs : List VarD) (T : Nat) (r : Option Nat × Nat × Nat) (un : Int) (e : Ending) (w' : World) : Prop :=
  (∃ k a cap, r.1 = some k ∧ e = .returned (.tuple #[.slice a vs.length cap, .int .i64 0]) ∧ IntsIn w' (nthN vs k) a cap) ∨
  (r.1 = none ∧ T ≤ r.2.1 ∧ e = .returned (.tuple #[.slice none 0 0, .int .i64 un])) ∨ (r.1 = none ∧ r.2.1 < T ∧ e = .returned (.tuple #[.slice none 0 0, .int .i64 18]))
noncomputable def hitN (vs : List VarD) (l : List Ex) (k : Nat) : Bool := allS vs l (nthN vs k)
set_option maxRecDepth 100000 in
set_option maxHeartbeats 4000000 in
theorem r18from_any (p : ProbD) (x : ProbA) (l : List Ex) (al : Option Addr) (cl : Nat) (first steps : Nat) (w : World) (hE : ProbIn w p x) (hV : VarsOk p.vars) (hL : ExsIn w l al cl) (hsl : ExsSmall l) (hf : first ≤ 2000000) (hst : steps ≤ 262144) :
    Calls Tryz.prog 48 #[probVal p x, .slice al l.length cl, .int .i64 first, .int .i64 steps] w fun e w' => ScanRet p.vars (totN p.vars) (scanN (hitN p.vars l) (totN p.vars) steps first) 11 e w' ∧ Below w.heap.size w w' := by
  have HT0 := Lib.hid (fun W (hW : Below w.heap.size w W) => Total_any p x W (hE.keep (keeps_of_below hW)) hV)
  have HN0 := Lib.hid (fun k (hk : k ≤ 4611686018427387904) W (hW : Below w.heap.size w W) => Nth_any p x k W (hE.keep (keeps_of_below hW)) hV hk)
  have HA0 := Lib.hid (fun A aa ca W (hW : Below w.heap.size w W) (hI : IntsIn W A aa ca) => r18all_any p x l al cl A aa ca W (hE.keep (keeps_of_below hW)) (hL.keep (keeps_of_below hW)) hsl hI)
  have htot := hV.tot
  have hlenV := hE.vars.2.1
  clear hE hL hsl hV
  simp only [probVal_eq] at HT0 HN0 HA0 ⊢
  obtain ⟨vs, hard, soft, ds, gs⟩ := p
  obtain ⟨av, cv, ah, ch, ao, co, ad, cd, ag, cg⟩ := x
  simp only at HT0 HN0 HA0 htot hlenV ⊢
  have HT := Lib.hid (HT0.out (w.alloc (.cells #[.slice av vs.length cv, .slice ah hard.length ch, .slice ao soft.length co, .slice ad ds.length cd, .slice ag gs.length cg] 27)) ((Below.refl _ _).alloc (Nat.le_refl _) _))
  have HR0 : Hid (∀ k, hitN vs l k = allS vs l (nthN vs k)) := fun _ => rfl
  have HNL := Lib.hid (nthN_len vs)
  clear HT0
  generalize totN vs = T at HT htot ⊢
  generalize hitN vs l = H at HR0 ⊢
  go_enter Tryz.func48, Tryz.ntmps48
  go_wp2_with fail
  refine HT.out.mono ?_
  rintro e w1 ⟨rfl, hb1⟩
  simp only [World.size_alloc] at hb1
  have Hb1 := Lib.hid hb1
  clear hb1
  go_wp2_with fail
  go_loopw [11, 12] (fun i _ wr => ∃ j : Nat, i = .int .i64 ((first + j : Nat) : Int) ∧ j ≤ steps ∧ (first + j ≤ T ∨ j = 0) ∧ Hid (scanN H T steps first = scanN H T (steps - j) (first + j)) ∧ Below (w.heap.size + 1) (w.alloc (.cells #[.slice av vs.length cv, .slice ah hard.length ch, .slice ao soft.length co, .slice ad ds.length cd, .slice ag gs.length cg] 27)) wr) (fun i _ _ => T - (intOf i).toNat)
  case atStart => exact ⟨0, rfl, Nat.zero_le _, Or.inr rfl, rfl, Hb1.out⟩
  case round =>
    obtain ⟨j, rfl, hj, hjT, HS, hB⟩ := hrel
    have HB := Lib.hid hB
    have HBw := Lib.hid (boxW _ hB)
    have hzr := hB.size
    simp only [World.size_alloc] at hzr
    have b0 := box_cell hB 0
    have b1 := box_cell hB 1
    have b2 := box_cell hB 2
    have b3 := box_cell hB 3
    have b4 := box_cell hB 4
    (try simp at b0 b1 b2 b3 b4)
    clear hB
    by_cases hlt : first + j < T
    · by_cases hs : j < steps
      · obtain ⟨s', hs'⟩ : ∃ s', steps - j = s' + 1 := ⟨steps - j - 1, by omega⟩
        have HNc := Lib.hid (HN0.out (first + j) (by omega) wr HBw.out)
        clear hjT
        cases hh : H (first + j)
        · have HS' : Hid (scanN H T steps first = scanN H T (steps - (j + 1)) (first + (j + 1))) := by
            show _ = _
            rw [HS.out, hs', scanN_miss hlt hh, show steps - (j + 1) = s' from by omega, Nat.add_assoc]
          have Hh : Hid (allS vs l (nthN vs (first + j)) = false) := by show _ = _; rw [← HR0.out]; exact hh
          clear hh hs' HS
          go_wp2_with fail
          refine HNc.out.mono ?_
          rintro e w2 ⟨b, cap, rfl, hI, hb2⟩
          have HAc := Lib.hid (HA0.out _ _ _ w2 (HBw.out.trans (hb2.mono HBw.out.size)) hI)
          rw [Hh.out] at HAc
          have kk := keeps_of_below hb2
          have b0 := kk _ _ b0
          have b1 := kk _ _ b1
          have b2 := kk _ _ b2
          have b3 := kk _ _ b3
          have b4 := kk _ _ b4
          have H2 : Hid (Below (w.heap.size + 1) (w.alloc (.cells #[.slice av vs.length cv, .slice ah hard.length ch, .slice ao soft.length co, .slice ad ds.length cd, .slice ag gs.length cg] 27)) w2) := HB.out.trans (hb2.mono (by simpa using hzr))
          have hz2 := H2.out.size
          simp only [World.size_alloc] at hz2
          clear hI hb2 kk
          go_wp2_with fail
          refine HAc.out.mono ?_
          rintro e w3 ⟨rfl, hb3⟩
          have H3 : Hid (Below (w.heap.size + 1) (w.alloc (.cells #[.slice av vs.length cv, .slice ah hard.length ch, .slice ao soft.length co, .slice ad ds.length cd, .slice ag gs.length cg] 27)) w3) := H2.out.trans (hb3.mono (by simpa using hz2))
          clear hb3
          go_wp2_with fail
          go_roundw
          case rel => exact ⟨j + 1, by go_num, by omega, Or.inl (by omega), HS'.out, H3.out⟩
          case measure => simp [intOf]; omega
        · have HS' : Hid (scanN H T steps first = (some (first + j), first + j + 1, s')) := by
            show _ = _
            rw [HS.out, hs', scanN_hit hlt hh]
          have Hh : Hid (allS vs l (nthN vs (first + j)) = true) := by show _ = _; rw [← HR0.out]; exact hh
          clear hh hs' HS
          go_wp2_with fail
          refine HNc.out.mono ?_
          rintro e w2 ⟨b, cap, rfl, hI, hb2⟩
          have HI := Lib.hid hI
          have HAc := Lib.hid (HA0.out _ _ _ w2 (HBw.out.trans (hb2.mono HBw.out.size)) hI)
          rw [Hh.out] at HAc
          have kk := keeps_of_below hb2
          have b0 := kk _ _ b0
          have b1 := kk _ _ b1
          have b2 := kk _ _ b2
          have b3 := kk _ _ b3
          have b4 := kk _ _ b4
          have H2 : Hid (Below (w.heap.size + 1) (w.alloc (.cells #[.slice av vs.length cv, .slice ah hard.length ch, .slice ao soft.length co, .slice ad ds.length cd, .slice ag gs.length cg] 27)) w2) := HB.out.trans (hb2.mono (by simpa using hzr))
          have hz2 := H2.out.size
          simp only [World.size_alloc] at hz2
          clear hI hb2 kk
          go_wp2_with fail
          refine HAc.out.mono ?_
          rintro e w3 ⟨rfl, hb3⟩
          have H3 : Hid (Below (w.heap.size + 1) (w.alloc (.cells #[.slice av vs.length cv, .slice ah hard.length ch, .slice ao soft.length co, .slice ad ds.length cd, .slice ag gs.length cg] 27)) w3 ∧ IntsIn w3 (nthN vs (first + j)) (some ⟨b, 0, none⟩) cap) := ⟨H2.out.trans (hb3.mono (by simpa using hz2)), HI.out.keep (keeps_of_below hb3)⟩
          clear hb3
          go_wp2_with fail
          go_ret2
          refine ⟨?_, boxW _ H3.out.1⟩
          rw [HS'.out]
          exact Or.inl ⟨first + j, _, _, rfl, by rw [HNL.out]; rfl, H3.out.2⟩
      · obtain rfl : j = steps := by omega
        have HS' : Hid (scanN H T j first = (none, first + j, 0)) := by show _ = _; rw [HS.out, Nat.sub_self, scanN_zero]
        clear HS hjT
        go_wp2_with fail
        go_ret2
        refine ⟨?_, HBw.out⟩
        rw [HS'.out]
        exact Or.inr (Or.inr ⟨rfl, hlt, rfl⟩)
    · have HS' := Lib.hid (@scanN_over H T (steps - j) (first + j) (by omega))
      rw [← HS.out] at HS'
      have hge : T ≤ first + j := by omega
      clear HS hjT
      go_wp2_with fail
      go_ret2
      exact ⟨Or.inr (Or.inl ⟨HS'.out.1, by rw [HS'.out.2]; exact hge, rfl⟩), HBw.out⟩
end Go.Proofs.YtgdphjgedhadoaaGreatDoor

/- The reference of search: First, Number, Next. -/
namespace Go.Proofs.YtgdphjgedhadoaaGreatDoor
open Go.RowKit

/-- what First and Next return -/
def FirstRet (p : ProbD) (l : List Ex) (steps : Int) (C : Prop) (first : Nat) (un : Int) (e : Ending) (w' : World) : Prop :=
  ((ComOk p l steps ∧ C) ∧ ScanRet p.vars (totN p.vars) (scanN (hitN p.vars l) (totN p.vars) steps.toNat first) un e w') ∨ (¬ (ComOk p l steps ∧ C) ∧ e = .returned (.tuple #[.slice none 0 0, .int .i64 1]))
set_option maxRecDepth 100000 in
set_option maxHeartbeats 4000000 in
theorem r18First_any (p : ProbD) (x : ProbA) (l : List Ex) (al : Option Addr) (cl : Nat) (steps : Int) (w : World) (hE : ProbIn w p x) (hs : ProbSmall p) (hL : ExsIn w l al cl) (hsl : ExsSmall l) :
    Calls Tryz.prog 16 #[probVal p x, .slice al l.length cl, .int .i64 steps] w fun e w' => FirstRet p l steps True 0 11 e w' ∧ Below w.heap.size w w' := by
  have HC0 := Lib.hid (fun W (hW : Below w.heap.size w W) => r18common_any p x l al cl steps W (hE.keep (keeps_of_below hW)) hs (hL.keep (keeps_of_below hW)) hsl)
  have HF0 := Lib.hid (fun (hV : VarsOk p.vars) (st : Nat) (hst : st ≤ 262144) W (hW : Below w.heap.size w W) => r18from_any p x l al cl 0 st W (hE.keep (keeps_of_below hW)) hV (hL.keep (keeps_of_below hW)) hsl (by omega) hst)
  clear hE hs hL hsl
  by_cases hc : ComOk p l steps
  · obtain ⟨st, rfl⟩ := Int.eq_ofNat_of_zero_le hc.lo
    have hst : st ≤ 262144 := by have := hc.hi; omega
    have HFc := Lib.hid (fun W hW => HF0.out hc.prob.vars st hst W hW)
    have HOk := Lib.hid hc
    rw [errOf_yes hc] at HC0
    clear hc HF0
    simp only [probVal_eq] at HC0 HFc ⊢
    obtain ⟨vs, hard, soft, ds, gs⟩ := p
    obtain ⟨av, cv, ah, ch, ao, co, ad, cd, ag, cg⟩ := x
    simp only at HC0 HFc HOk ⊢
    have HC := Lib.hid (HC0.out (w.alloc (.cells #[.slice av vs.length cv, .slice ah hard.length ch, .slice ao soft.length co, .slice ad ds.length cd, .slice ag gs.length cg] 27)) ((Below.refl _ _).alloc (Nat.le_refl _) _))
    clear HC0
    go_enter Tryz.func16, Tryz.ntmps16
    go_wp2_with fail
    refine HC.out.mono ?_
    rintro e w1 ⟨rfl, hb1⟩
    simp only [World.size_alloc] at hb1
    have b0 := box_cell hb1 0
    have b1 := box_cell hb1 1
    have b2 := box_cell hb1 2
    have b3 := box_cell hb1 3
    have b4 := box_cell hb1 4
    (try simp at b0 b1 b2 b3 b4)
    have HB := Lib.hid (boxW _ hb1)
    have HF := Lib.hid (HFc.out w1 HB.out)
    clear hb1
    go_wp2_with fail
    refine HF.out.mono ?_
    rintro e w2 ⟨hS, hb2⟩
    have HB2 := Lib.hid (HB.out.trans (hb2.mono HB.out.size))
    clear hb2
    rcases hS with ⟨k, a, cap, h1, rfl, hI⟩ | ⟨h1, h2, rfl⟩ | ⟨h1, h2, rfl⟩
    · have HS := Lib.hid (⟨h1, hI⟩ : _ ∧ _)
      clear h1 hI b0 b1 b2 b3 b4
      go_wp2_with fail
      go_ret2
      exact ⟨Or.inl ⟨⟨HOk.out, trivial⟩, Or.inl ⟨k, a, cap, HS.out.1, rfl, HS.out.2⟩⟩, HB2.out⟩
    · have HS := Lib.hid (⟨h1, h2⟩ : _ ∧ _)
      clear h1 h2 b0 b1 b2 b3 b4
      go_wp2_with fail
      go_ret2
      exact ⟨Or.inl ⟨⟨HOk.out, trivial⟩, Or.inr (Or.inl ⟨HS.out.1, HS.out.2, rfl⟩)⟩, HB2.out⟩
    · have HS := Lib.hid (⟨h1, h2⟩ : _ ∧ _)
      clear h1 h2 b0 b1 b2 b3 b4
      go_wp2_with fail
      go_ret2
      exact ⟨Or.inl ⟨⟨HOk.out, trivial⟩, Or.inr (Or.inr ⟨HS.out.1, HS.out.2, rfl⟩)⟩, HB2.out⟩
  · have HNo := Lib.hid hc
    rw [errOf_no hc] at HC0
    clear hc HF0
    simp only [probVal_eq] at HC0 ⊢
    obtain ⟨vs, hard, soft, ds, gs⟩ := p
    obtain ⟨av, cv, ah, ch, ao, co, ad, cd, ag, cg⟩ := x
    simp only at HC0 HNo ⊢
    have HC := Lib.hid (HC0.out (w.alloc (.cells #[.slice av vs.length cv, .slice ah hard.length ch, .slice ao soft.length co, .slice ad ds.length cd, .slice ag gs.length cg] 27)) ((Below.refl _ _).alloc (Nat.le_refl _) _))
    clear HC0
    go_enter Tryz.func16, Tryz.ntmps16
    go_wp2_with fail
    refine HC.out.mono ?_
    rintro e w1 ⟨rfl, hb1⟩
    simp only [World.size_alloc] at hb1
    have HB := Lib.hid (boxW _ hb1)
    clear hb1
    go_wp2_with fail
    go_ret2
    exact ⟨Or.inr ⟨fun h => HNo.out h.1, rfl⟩, HB.out⟩

/-! ### Number -/
theorem horn_lt {l : List VarD} {a : List Int} (h : a.length = l.length) : ∀ i, i ≤ l.length → (∀ j (hj : j < l.length), j < i → AsgAt (l[j]'hj) (a.getD j 0)) → hornN l a i < totN (l.take i) := by
  intro i
  induction i with
  | zero => intro _ _; simp [hornN, totN]
  | succ i ih =>
    intro hi hall
    have h1 := ih (by omega) (fun j hj hji => hall j hj (by omega))
    have h2 := hall i (by omega) (by omega)
    rw [List.getD_eq_getElem?_getD, List.getElem?_eq_getElem (show i < a.length by omega)] at h2
    simp only [Option.getD_some] at h2
    rw [hornN_succ (show i < l.length by omega) (show i < a.length by omega), totN_take_succ l i (by omega)]
    have hd : (if (l[i]'(by omega)).mode = 0 then 0 else (a[i]'(by omega)).toNat) < valN (l[i]'(by omega)) := by
      obtain ⟨_, q0, q1⟩ := h2
      split
      · exact valN_pos _
      · rename_i hm
        have hvw : valN (l[i]'(by omega)) = 2 ^ (l[i]'(by omega)).width.toNat := by unfold valN; rw [if_neg hm]
        have : (((a[i]'(by omega)).toNat : Nat) : Int) < ((valN (l[i]'(by omega)) : Nat) : Int) := by rw [hvw]; simp; omega
        omega
    generalize (if (l[i]'(by omega)).mode = 0 then 0 else (a[i]'(by omega)).toNat) = d at hd
    calc hornN l a i * valN (l[i]'(by omega)) + d < hornN l a i * valN (l[i]'(by omega)) + valN (l[i]'(by omega)) := by omega
      _ = (hornN l a i + 1) * valN (l[i]'(by omega)) := by rw [Nat.add_mul, Nat.one_mul]
      _ ≤ _ := Nat.mul_le_mul_right _ h1
end Go.Proofs.YtgdphjgedhadoaaGreatDoor

/- plain: scans; lists of ints. -/
namespace Go.Proofs.YtgdphjgedhadoaaGreatDoor
open Go.RowKit

theorem scan_some {H : Nat → Bool} {T : Nat} : ∀ (s k j : Nat), (scanN H T s k).1 = some j → k ≤ j ∧ j < T ∧ H j = true ∧ ∀ i, k ≤ i → i < j → H i = false := by
  intro s
  induction s with
  | zero => intro k j hj; rw [scanN_zero] at hj; simp at hj
  | succ s ih =>
    intro k j hj
    by_cases hT : T ≤ k
    · rw [(scanN_over hT).1] at hj; simp at hj
    · cases hh : H k
      · rw [scanN_miss (by omega) hh] at hj
        obtain ⟨h1, h2, h3, h4⟩ := ih (k + 1) j hj
        refine ⟨by omega, h2, h3, fun i h5 h6 => ?_⟩
        by_cases e : i = k
        · rw [e]; exact hh
        · exact h4 i (by omega) h6
      · rw [scanN_hit (by omega) hh] at hj
        obtain rfl := Option.some.inj hj
        exact ⟨Nat.le_refl _, by omega, hh, fun i h5 h6 => by omega⟩
theorem scan_none {H : Nat → Bool} {T : Nat} : ∀ (s k : Nat), (scanN H T s k).1 = none → T ≤ (scanN H T s k).2.1 → ∀ i, k ≤ i → i < T → H i = false := by
  intro s
  induction s with
  | zero => intro k _ h i h1 h2; rw [scanN_zero] at h; simp only at h; omega
  | succ s ih =>
    intro k hn hT i h1 h2
    by_cases hk : T ≤ k
    · omega
    · cases hh : H k
      · rw [scanN_miss (by omega) hh] at hn hT
        by_cases e : i = k
        · rw [e]; exact hh
        · exact ih (k + 1) hn hT i (by omega) h2
      · rw [scanN_hit (by omega) hh] at hn; simp at hn
theorem scan_room {H : Nat → Bool} {T : Nat} : ∀ (s k : Nat), T ≤ k + s → (scanN H T s k).1 = none → T ≤ (scanN H T s k).2.1 := by
  intro s
  induction s with
  | zero => intro k h _; rw [scanN_zero]; simpa using h
  | succ s ih =>
    intro k h hn
    by_cases hk : T ≤ k
    · rw [(scanN_over hk).2]; exact hk
    · cases hh : H k
      · rw [scanN_miss (by omega) hh] at hn ⊢
        exact ih (k + 1) (by omega) hn
      · rw [scanN_hit (by omega) hh] at hn; simp at hn
theorem eq_of_all {A B : List Int} (hl : A.length = B.length) (h : ∀ j (hj : j < A.length), A[j]'hj = B[j]'(by omega)) : A = B :=
  List.ext_getElem hl (fun j h1 _ => h j h1)
theorem getD_at {A : List Int} {k : Nat} (h : k < A.length) : A.getD k 0 = A[k]'h := by rw [List.getD_eq_getElem?_getD, List.getElem?_eq_getElem h]; rfl
end Go.Proofs.YtgdphjgedhadoaaGreatDoor
