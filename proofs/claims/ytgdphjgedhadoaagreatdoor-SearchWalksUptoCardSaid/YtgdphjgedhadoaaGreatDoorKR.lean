/- elab: Holds. -/
import Derived.Test.YtgdphjgedhadoaaGreatDoorKL
import Derived.Test.YtgdphjgedhadoaaGreatDoorKO
import Derived.Test.YtgdphjgedhadoaaGreatDoorKP
import Derived.Deep.RegionHeld3
import Derived.Deep.DrawnRows
import Derived.Test.YtgdphjgedhadoaaGreatDoorKN
set_option linter.unusedSimpArgs false
set_option linter.unusedVariables false
set_option linter.unnecessarySimpa false
namespace Go.Proofs.YtgdphjgedhadoaaGreatDoor
open Go.RowKit
attribute [local go_sem ↓] Go.wp_at_zero Go.wp_at_succ

noncomputable def holdsV (vs : List VarD) (A : List Int) (e : Ex) : Bool := ((evalS (envS vs A) e).2 == 0) && ((evalS (envS vs A) e).1 != 0)
/-- two boxes at the head of a call -/
theorem two_cell {w W : World} {c c' : Array Value} {t t' : TypeId} (h : Below (w.heap.size + 2) ((w.alloc (.cells c t)).alloc (.cells c' t')) W) (j : Nat) : W.cell? ⟨w.heap.size, j, none⟩ = c[j]? :=
  (h.cell (p := ⟨w.heap.size, j, none⟩) (by simp)).trans (by simp)
theorem two_cell' {w W : World} {c c' : Array Value} {t t' : TypeId} (h : Below (w.heap.size + 2) ((w.alloc (.cells c t)).alloc (.cells c' t')) W) (j : Nat) : W.cell? ⟨w.heap.size + 1, j, none⟩ = c'[j]? :=
  (h.cell (p := ⟨w.heap.size + 1, j, none⟩) (by simp)).trans (by simp)
set_option maxRecDepth 100000 in
set_option maxHeartbeats 8000000 in
theorem Holds_any (p : ProbD) (x : ProbA) (A : List Int) (aa : Option Addr) (ca : Nat) (op n : Int) (s : ByteArray) (args : List Ex) (a : Option Addr) (cap : Nat) (w : World) (hE : ProbIn w p x) (hs : ProbSmall p) (hG : Glob w) (hI : IntsIn w A aa ca) (hX : ExIn w (.mk op n s args) a cap) (hn : (Ex.mk op n s args).nodes.length ≤ 1000000000) :
    Calls Tryz.prog 54 #[probVal p x, .slice aa A.length ca, .agg #[.int .i64 op, .int .i64 n, .string s, .slice a args.length cap]] w fun e w' => e = .returned (.bool (pB (ProbOk p ∧ Asg p.vars A) && holdsV p.vars A (.mk op n s args))) ∧ Below w.heap.size w w' := by
  have HV0 := Lib.hid (fun W (hW : Below w.heap.size w W) => Valid_any p x W (hE.keep (keeps_of_below hW)) hs (hG.below hW))
  have HA0 := Lib.hid (fun (hV : VarsOk p.vars) W (hW : Below w.heap.size w W) => assigns_any p x A aa ca W (hE.keep (keeps_of_below hW)) hV (hI.keep (keeps_of_below hW)))
  have HE0 := Lib.hid (fun W (hW : Below w.heap.size w W) => Env_any p x A aa ca W (hE.keep (keeps_of_below hW)) (hI.keep (keeps_of_below hW)))
  have HX0 := Lib.hid (fun env ae ce W (hW : Below w.heap.size w W) (hS : SigsIn W env ae ce) => eval_any env ae ce op n s args a cap W (hG.below hW) hS (hX.keep (keeps_of_below hW)) (by omega))
  have hvl := hE.vars.2.1
  clear hE hs hG hI hX hn
  have hB2 : Below w.heap.size w ((w.alloc (.cells (probVals p x) 27)).alloc (.cells #[.int .i64 op, .int .i64 n, .string s, .slice a args.length cap] 57)) := ((Below.refl _ _).alloc (Nat.le_refl _) _).alloc (by simp) _
  have HV1 := Lib.hid (HV0.out _ hB2)
  clear HV0
  by_cases hp : ProbOk p
  · have HV := Lib.hid (errT HV1.out hp)
    have HAc := Lib.hid (HA0.out hp.vars)
    have HP := Lib.hid hp
    clear HV1 HA0 hp
    simp only [probVal_eq, probVals] at HV HAc HE0 ⊢
    obtain ⟨vs, hard, soft, ds, gs⟩ := p
    obtain ⟨av, cv, ah, ch, ao, co, ad, cd, ag, cg⟩ := x
    simp only at HV HAc HE0 HP hvl hB2 ⊢
    clear hB2
    by_cases hA : Asg vs A
    · have HR : Hid (pB (ProbOk ⟨vs, hard, soft, ds, gs⟩ ∧ Asg vs A) = true) := pB_true ⟨HP.out, hA⟩
      have HA := Lib.hid hA
      rw [pB_true hA] at HAc
      clear hA
      go_enter Tryz.func54, Tryz.ntmps54
      go_wp2_with fail
      refine HV.out.mono ?_
      rintro e w1 ⟨rfl, hb1⟩
      simp only [World.size_alloc] at hb1
      have b0 := two_cell hb1 0
      have b1 := two_cell hb1 1
      have b2 := two_cell hb1 2
      have b3 := two_cell hb1 3
      have b4 := two_cell hb1 4
      (try simp at b0 b1 b2 b3 b4)
      have Hb1 := Lib.hid hb1
      have HC := Lib.hid (HAc.out w1 (below_two hb1))
      clear hb1
      go_wp2_with fail
      refine HC.out.mono ?_
      rintro e w2 ⟨rfl, hb2⟩
      have Hb2 := Lib.hid (Hb1.out.trans (hb2.mono (by have := Hb1.out.size; simpa using this)))
      clear b0 b1 b2 b3 b4 hb2
      have b0 := two_cell Hb2.out 0
      have b1 := two_cell Hb2.out 1
      have b2 := two_cell Hb2.out 2
      have b3 := two_cell Hb2.out 3
      have b4 := two_cell Hb2.out 4
      have d0 := two_cell' Hb2.out 0
      have d1 := two_cell' Hb2.out 1
      have d2 := two_cell' Hb2.out 2
      have d3 := two_cell' Hb2.out 3
      (try simp at b0 b1 b2 b3 b4 d0 d1 d2 d3)
      have HBw := Lib.hid (below_two Hb2.out)
      have HEn := Lib.hid (fun W (hW : Below w2.heap.size w2 W) => (HE0.out W (HBw.out.trans (hW.mono HBw.out.size))).mono (R' := fun e w' => ∃ ae ce, e = .returned (.slice ae (envS vs A).length ce) ∧ SigsIn w' (envS vs A) ae ce ∧ Below w2.heap.size w2 w') (fun e w' ⟨v, h1, h2, h3⟩ => by
        obtain ⟨ae, ce, hv, hS⟩ := sigs_of_own h2 (by rw [envS_len HA.out.len]; exact hvl)
        subst hv
        exact ⟨ae, ce, h1, hS, hW.trans (h3.mono hW.size)⟩))
      have HEv := Lib.hid (fun ae ce W (hW : Below w2.heap.size w2 W) (hS : Hid (SigsIn W (envS vs A) ae ce)) => (HX0.out (envS vs A) ae ce W (HBw.out.trans (hW.mono HBw.out.size)) hS.out).mono fun e w' h => (⟨h.1, hW.trans (h.2.mono hW.size)⟩ : _ ∧ Below w2.heap.size w2 w'))
      have HZ : Hid (holdsV vs A (.mk op n s args) = (((evalS (envS vs A) (Ex.mk op n s args)).2 == 0) && ((evalS (envS vs A) (Ex.mk op n s args)).1 != 0))) := rfl
      generalize (evalS (envS vs A) (Ex.mk op n s args)).1 = z at HEv HZ
      generalize (evalS (envS vs A) (Ex.mk op n s args)).2 = z2 at HEv HZ
      generalize envS vs A = EE at HEn HEv
      have hsz : w.heap.size + 1 < w2.heap.size := by have := Hb2.out.size; simp at this; omega
      go_wp2_with fail
      go_region_held3 (fun w' => Below w2.heap.size w2 w' ∧ w'.cell? ⟨w.heap.size, 0, none⟩ = some (.slice av vs.length cv) ∧ w'.cell? ⟨w.heap.size, 1, none⟩ = some (.slice ah hard.length ch) ∧ w'.cell? ⟨w.heap.size, 2, none⟩ = some (.slice ao soft.length co) ∧ w'.cell? ⟨w.heap.size, 3, none⟩ = some (.slice ad ds.length cd) ∧ w'.cell? ⟨w.heap.size, 4, none⟩ = some (.slice ag gs.length cg) ∧ w'.cell? ⟨w.heap.size + 1, 0, none⟩ = some (.int .i64 op) ∧ w'.cell? ⟨w.heap.size + 1, 1, none⟩ = some (.int .i64 n) ∧ w'.cell? ⟨w.heap.size + 1, 2, none⟩ = some (.string s) ∧ w'.cell? ⟨w.heap.size + 1, 3, none⟩ = some (.slice a args.length cap))
        (refine ⟨?_, ?_, ?_, ?_, ?_, ?_, ?_, ?_, ?_, ?_⟩ <;> first | assumption | exact keeps_of_below (by assumption) _ _ (by assumption) | go_keep | exact (by repeat (first | assumption | exact Below.refl _ _ | refine Below.drew ?_ | refine below_drewN ?_ _ | refine Below.alloc ?_ (by first | omega | (simp only [World.size_alloc, World.size_setCell, World.size_drew, World.heap_drewN] <;> omega) | (simp <;> omega)) _ | refine Below.setCell ?_ (by first | omega | (simp only [World.size_alloc, World.size_setCell, World.size_drew, World.heap_drewN] <;> omega) | (simp <;> omega)) _)))
        (first | (go_at_call 80; (with_reducible refine (HEn.out _ (by first | assumption | exact And.left (by assumption))).mono ?_); rintro e w3 ⟨ae, ce, rfl, hS, hb3⟩; have HS := Lib.hid hS; clear hS) | (go_at_call 81; (with_reducible refine (HEv.out _ _ _ (by first | assumption | exact And.left (by assumption)) (by assumption)).mono ?_); rintro e w4 ⟨rfl, hb4⟩))
      have HB4 : Hid (Below w.heap.size w w4) := HBw.out.trans ((by assumption : Below w2.heap.size w2 w4).mono HBw.out.size)
      cases hz2 : (z2 == 0)
      · have HQ : Hid (holdsV vs A (.mk op n s args) = false) := by show _ = _; rw [HZ.out, hz2]; rfl
        go_wp2_with fail
        go_ret
        exact ⟨by rw [HR.out, HQ.out]; rfl, HB4.out⟩
      · have HQ : Hid (holdsV vs A (.mk op n s args) = (z != 0)) := by show _ = _; rw [HZ.out, hz2]; rfl
        go_wp2_with fail
        go_ret
        exact ⟨by rw [HR.out, HQ.out]; rfl, HB4.out⟩
    · have HR : Hid (pB (ProbOk ⟨vs, hard, soft, ds, gs⟩ ∧ Asg vs A) = false) := pB_false (fun h => hA h.2)
      rw [pB_false hA] at HAc
      clear hA
      go_enter Tryz.func54, Tryz.ntmps54
      go_wp2_with fail
      refine HV.out.mono ?_
      rintro e w1 ⟨rfl, hb1⟩
      simp only [World.size_alloc] at hb1
      have b0 := two_cell hb1 0
      have b1 := two_cell hb1 1
      have b2 := two_cell hb1 2
      have b3 := two_cell hb1 3
      have b4 := two_cell hb1 4
      (try simp at b0 b1 b2 b3 b4)
      have Hb1 := Lib.hid (below_two hb1)
      have HC := Lib.hid (HAc.out w1 (below_two hb1))
      clear hb1
      go_wp2_with fail
      refine HC.out.mono ?_
      rintro e w2 ⟨rfl, hb2⟩
      have Hb2 := Lib.hid (Hb1.out.trans (hb2.mono Hb1.out.size))
      clear b0 b1 b2 b3 b4 hb2
      go_wp2_with fail
      go_ret
      exact ⟨by rw [HR.out]; rfl, Hb2.out⟩
  · have HR : Hid (pB (ProbOk p ∧ Asg p.vars A) = false) := pB_false (fun h => hp h.1)
    have HV := Lib.hid (errF HV1.out hp)
    clear HV1 HA0 HE0 HX0 hp hB2
    simp only [probVal_eq, probVals] at HV HR ⊢
    obtain ⟨vs, hard, soft, ds, gs⟩ := p
    obtain ⟨av, cv, ah, ch, ao, co, ad, cd, ag, cg⟩ := x
    simp only at HV HR hvl ⊢
    go_enter Tryz.func54, Tryz.ntmps54
    go_wp2_with fail
    refine HV.out.mono ?_
    rintro e w1 ⟨⟨en, rfl, hen⟩, hb1⟩
    simp only [World.size_alloc] at hb1
    have Hb1 := Lib.hid (below_two hb1)
    clear hb1
    go_wp2_with fail
    go_ret
    exact ⟨by rw [HR.out]; rfl, Hb1.out⟩
end Go.Proofs.YtgdphjgedhadoaaGreatDoor

/- search: Satisfied. -/
namespace Go.Proofs.YtgdphjgedhadoaaGreatDoor
open Go.RowKit

noncomputable def cntS (vs : List VarD) (A : List Int) (l : List Ex) (k : Nat) : Nat := (l.take k).countP (holdsV vs A)
theorem cntS_succ (vs : List VarD) (A : List Int) (l : List Ex) {k : Nat} (h : k < l.length) : cntS vs A l (k + 1) = cntS vs A l k + (if holdsV vs A (l[k]'h) = true then 1 else 0) := by
  unfold cntS
  rw [List.take_succ_eq_append_getElem h, List.countP_append]
  simp [List.countP_cons]
theorem cntS_le (vs : List VarD) (A : List Int) (l : List Ex) (k : Nat) : cntS vs A l k ≤ k := by
  unfold cntS
  exact Nat.le_trans List.countP_le_length (by simp; omega)
noncomputable def satN (p : ProbD) (l : List Ex) (A : List Int) : Int := if pB (ProbOk p ∧ Asg p.vars A) = true then (cntS p.vars A l l.length : Nat) else -1
set_option maxRecDepth 100000 in
set_option maxHeartbeats 8000000 in
theorem Satisfied_any (p : ProbD) (x : ProbA) (l : List Ex) (al : Option Addr) (cl : Nat) (A : List Int) (aa : Option Addr) (ca : Nat) (w : World) (hE : ProbIn w p x) (hs : ProbSmall p) (hL : ExsIn w l al cl) (hsl : ExsSmall l) (hG : Glob w) (hI : IntsIn w A aa ca) :
    Calls Tryz.prog 20 #[probVal p x, .slice al l.length cl, .slice aa A.length ca] w fun e w' => e = .returned (.int .i64 (satN p l A)) ∧ Below w.heap.size w w' := by
  have hlen := hL.2.1
  have HV0 := Lib.hid (fun W (hW : Below w.heap.size w W) => Valid_any p x W (hE.keep (keeps_of_below hW)) hs (hG.below hW))
  have HA0 := Lib.hid (fun (hV : VarsOk p.vars) W (hW : Below w.heap.size w W) => isAssignment_any p x A aa ca W (hE.keep (keeps_of_below hW)) hV (hI.keep (keeps_of_below hW)))
  have HH0 := Lib.hid (fun op n s args a cap W (hW : Below w.heap.size w W) (hX : ExIn W (.mk op n s args) a cap) (hn : (Ex.mk op n s args).nodes.length ≤ 1000000000) => Holds_any p x A aa ca op n s args a cap W (hE.keep (keeps_of_below hW)) hs (hG.below hW) (hI.keep (keeps_of_below hW)) hX hn)
  have HL := Lib.hid hL
  have HAd := Lib.hid hL.addr
  have HSl := Lib.hid hsl
  clear hE hs hL hsl hG hI
  have hPB : Below w.heap.size w (w.alloc (.cells (probVals p x) 27)) := (Below.refl _ _).alloc (Nat.le_refl _) _
  have HV1 := Lib.hid (HV0.out _ hPB)
  clear HV0
  by_cases hp : ProbOk p
  · have HV := Lib.hid (errT HV1.out hp)
    have HAc := Lib.hid (HA0.out hp.vars)
    clear HV1 HA0
    by_cases hA : Asg p.vars A
    · have hR : pB (ProbOk p ∧ Asg p.vars A) = true := pB_true ⟨hp, hA⟩
      have HR : Hid (satN p l A = (cntS p.vars A l l.length : Nat)) := by show _ = _; unfold satN; rw [if_pos hR]
      rw [pB_true hA] at HAc
      rw [hR] at HH0
      clear hA hp hR
      simp only [probVal_eq, probVals, Bool.true_and] at HV HAc HH0 ⊢
      obtain ⟨vs, hard, soft, ds, gs⟩ := p
      obtain ⟨av, cv, ah, ch, ao, co, ad, cd, ag, cg⟩ := x
      simp only at HV HAc HH0 HR hPB ⊢
      clear hPB
      go_enter Tryz.func20, Tryz.ntmps20
      go_wp2_with fail
      refine HV.out.mono ?_
      rintro e w1 ⟨rfl, hb1⟩
      simp only [World.size_alloc] at hb1
      have b0 := box_cell hb1 0
      have b1 := box_cell hb1 1
      have b2 := box_cell hb1 2
      have b3 := box_cell hb1 3
      have b4 := box_cell hb1 4
      (try simp at b0 b1 b2 b3 b4)
      have Hb1 := Lib.hid hb1
      have HC := Lib.hid (HAc.out w1 (boxW _ hb1))
      clear hb1
      go_wp2_with fail
      refine HC.out.mono ?_
      rintro e w2 ⟨rfl, hb2⟩
      have Hb2 := Lib.hid (Hb1.out.trans (hb2.mono (by have := Hb1.out.size; simpa using this)))
      clear b0 b1 b2 b3 b4 hb2
      go_wp2_with fail
      go_loopw [21, 7, 9] (fun i c _ wr => ∃ k : Nat, i = .int .i64 k ∧ c = .int .i64 (cntS vs A l k : Nat) ∧ k ≤ l.length ∧ Below (w.heap.size + 1) (w.alloc (.cells #[.slice av vs.length cv, .slice ah hard.length ch, .slice ao soft.length co, .slice ad ds.length cd, .slice ag gs.length cg] 27)) wr) (fun i _ _ _ => l.length - (intOf i).toNat)
      case atStart => exact ⟨0, rfl, by simp [cntS], Nat.zero_le _, Hb2.out⟩
      case round =>
        obtain ⟨k, rfl, rfl, hk, hB⟩ := hrel
        have HB := Lib.hid hB
        have HBw := Lib.hid (boxW _ hB)
        have hzr := hB.size
        simp only [World.size_alloc] at hzr
        clear hB
        have hzl : w.heap.size < wr.heap.size := by omega
        have b0 := box_cell HB.out 0
        have b1 := box_cell HB.out 1
        have b2 := box_cell HB.out 2
        have b3 := box_cell HB.out 3
        have b4 := box_cell HB.out 4
        (try simp at b0 b1 b2 b3 b4)
        by_cases hlt : k < l.length
        · obtain ⟨b, off, ha⟩ := HAd.out.resolve_left (by omega)
          subst ha
          obtain ⟨a', cap', g0, g1, g2, g3, hX⟩ := HL.out.get rfl hlt
          have hn := HSl.out _ (List.getElem_mem hlt)
          have hcs := cntS_succ vs A l hlt
          have hcl := cntS_le vs A l k
          generalize (l[k]'hlt) = e at g0 g1 g2 g3 hX hn hcs
          obtain ⟨op, n, s, args⟩ := e
          simp only [Ex.op_mk, Ex.n_mk, Ex.name_mk, Ex.args_mk] at g0 g1 g2 g3
          have kk := keeps_of_below HBw.out
          have c0 := kk _ _ g0
          have c1 := kk _ _ g1
          have c2 := kk _ _ g2
          have c3 := kk _ _ g3
          have HC := Lib.hid (fun W (hW : Below wr.heap.size wr W) => (HH0.out op n s args a' cap' W (HBw.out.trans (hW.mono HBw.out.size)) ((hX.keep kk).keep (keeps_of_below hW)) hn).mono fun e w' h => (⟨h.1, hW.trans (h.2.mono hW.size)⟩ : _ ∧ Below wr.heap.size wr w'))
          have HCS := Lib.hid hcs
          clear g0 g1 g2 g3 hX hn kk hcs
          generalize cntS vs A l k = c at *
          cases hh : holdsV vs A (Ex.mk op n s args)
          · rw [hh] at HC HCS
            have HC1 : Hid (cntS vs A l (k + 1) = c) := by show _ = _; rw [HCS.out]; simp
            go_wp2_with fail
            refine (HC.out _ ?hb).mono ?_
            case hb => exact (by repeat (first | assumption | exact Below.refl _ _ | refine Below.drew ?_ | refine below_drewN ?_ _ | refine Below.alloc ?_ (by first | omega | (simp only [World.size_alloc, World.size_setCell, World.size_drew, World.heap_drewN] <;> omega) | (simp <;> omega)) _ | refine Below.setCell ?_ (by first | omega | (simp only [World.size_alloc, World.size_setCell, World.size_drew, World.heap_drewN] <;> omega) | (simp <;> omega)) _))
            rintro e w4 ⟨rfl, hb4⟩
            clear c0 c1 c2 c3 b0 b1 b2 b3 b4
            go_wp2_with fail
            go_roundw
            case rel => exact ⟨k + 1, by go_num, by rw [HC1.out], by omega, HB.out.trans (hb4.mono (by simpa using hzr))⟩
            case measure => simp [intOf]; omega
          · rw [hh] at HC HCS
            have HC1 : Hid (cntS vs A l (k + 1) = c + 1) := by show _ = _; rw [HCS.out]; simp
            go_wp2_with fail
            refine (HC.out _ ?hb).mono ?_
            case hb => exact (by repeat (first | assumption | exact Below.refl _ _ | refine Below.drew ?_ | refine below_drewN ?_ _ | refine Below.alloc ?_ (by first | omega | (simp only [World.size_alloc, World.size_setCell, World.size_drew, World.heap_drewN] <;> omega) | (simp <;> omega)) _ | refine Below.setCell ?_ (by first | omega | (simp only [World.size_alloc, World.size_setCell, World.size_drew, World.heap_drewN] <;> omega) | (simp <;> omega)) _))
            rintro e w4 ⟨rfl, hb4⟩
            clear c0 c1 c2 c3 b0 b1 b2 b3 b4
            go_wp2_with fail
            go_roundw
            case rel => exact ⟨k + 1, by go_num, by rw [HC1.out]; go_num, by omega, HB.out.trans (hb4.mono (by simpa using hzr))⟩
            case measure => simp [intOf]; omega
        · obtain rfl : k = l.length := by omega
          go_wp2_with fail
          go_ret
          exact ⟨by rw [HR.out]; rfl, HBw.out⟩
    · have hR : pB (ProbOk p ∧ Asg p.vars A) = false := pB_false (fun h => hA h.2)
      have HR : Hid (satN p l A = -1) := by show _ = _; unfold satN; rw [if_neg (by rw [hR]; simp)]
      rw [pB_false hA] at HAc
      clear hA hp hR HH0
      simp only [probVal_eq, probVals] at HV HAc ⊢
      obtain ⟨vs, hard, soft, ds, gs⟩ := p
      obtain ⟨av, cv, ah, ch, ao, co, ad, cd, ag, cg⟩ := x
      simp only at HV HAc HR hPB ⊢
      clear hPB
      go_enter Tryz.func20, Tryz.ntmps20
      go_wp2_with fail
      refine HV.out.mono ?_
      rintro e w1 ⟨rfl, hb1⟩
      simp only [World.size_alloc] at hb1
      have b0 := box_cell hb1 0
      have b1 := box_cell hb1 1
      have b2 := box_cell hb1 2
      have b3 := box_cell hb1 3
      have b4 := box_cell hb1 4
      (try simp at b0 b1 b2 b3 b4)
      have Hb1 := Lib.hid (boxW _ hb1)
      have HC := Lib.hid (HAc.out w1 (boxW _ hb1))
      clear hb1
      go_wp2_with fail
      refine HC.out.mono ?_
      rintro e w2 ⟨rfl, hb2⟩
      have Hb2 := Lib.hid (Hb1.out.trans (hb2.mono Hb1.out.size))
      clear b0 b1 b2 b3 b4 hb2
      go_wp2_with fail
      go_ret
      exact ⟨by rw [HR.out]; rfl, Hb2.out⟩
  · have hR : pB (ProbOk p ∧ Asg p.vars A) = false := pB_false (fun h => hp h.1)
    have HR : Hid (satN p l A = -1) := by show _ = _; unfold satN; rw [if_neg (by rw [hR]; simp)]
    have HV := Lib.hid (errF HV1.out hp)
    clear HV1 HA0 HH0 hp hR hPB
    simp only [probVal_eq, probVals] at HV ⊢
    obtain ⟨vs, hard, soft, ds, gs⟩ := p
    obtain ⟨av, cv, ah, ch, ao, co, ad, cd, ag, cg⟩ := x
    simp only at HV HR ⊢
    go_enter Tryz.func20, Tryz.ntmps20
    go_wp2_with fail
    refine HV.out.mono ?_
    rintro e w1 ⟨⟨en, rfl, hen⟩, hb1⟩
    simp only [World.size_alloc] at hb1
    have Hb1 := Lib.hid (boxW _ hb1)
    clear hb1
    go_wp2_with fail
    go_ret
    exact ⟨by rw [HR.out]; rfl, Hb1.out⟩
end Go.Proofs.YtgdphjgedhadoaaGreatDoor
