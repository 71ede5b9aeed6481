/- ref22: Satisfies, First, Next, possible; ref14: SameInts. -/
import Derived.Test.YtgdphjgedhadoaaGreatDoorSD
import Derived.BigQuiet
import Derived.Deep.LoopGhost
import Derived.Test.YtgdphjgedhadoaaGreatDoorKT
import Derived.Test.YtgdphjgedhadoaaGreatDoorKO
set_option linter.unusedSimpArgs false
set_option linter.unusedVariables false
set_option linter.unnecessarySimpa false
namespace Go.Proofs.YtgdphjgedhadoaaGreatDoor
open Go.RowKit
attribute [local go_sem ↓] Go.wp_at_zero Go.wp_at_succ

set_option maxRecDepth 100000 in
set_option maxHeartbeats 4000000 in
theorem Satisfies_any (p : ProbD) (x : ProbA) (l : List Ex) (al : Option Addr) (cl : Nat) (A : List Int) (aa : Option Addr) (ca : Nat) (w : World) (hE : ProbIn w p x) (hL : ExsIn w l al cl) (hsl : ExsSmall l) (hI : IntsIn w A aa ca) :
    Calls Tryz.prog 71 #[probVal p x, .slice aa A.length ca, .slice al l.length cl] w fun e w' => e = .returned (.bool (allS p.vars l A)) ∧ Below w.heap.size w w' := by
  have hlen := hL.2.1
  have hlv : (envS p.vars A).length ≤ 1073741824 := by
    by_cases h : A.length = p.vars.length
    · rw [envS_len h]; exact hE.vars.2.1
    · unfold envS; rw [if_neg h]; simp
  have HEv := Lib.hid (r14Env_any p x A aa ca _ (hE.keep (keeps_of_below ((Below.refl _ _).alloc (Nat.le_refl _) (.cells (probVals p x) 27)))) (hI.keep (keeps_of_below ((Below.refl _ _).alloc (Nat.le_refl _) (.cells (probVals p x) 27)))))
  have HL := Lib.hid hL
  have HA := Lib.hid hL.addr
  have HSl := Lib.hid hsl
  clear hE hL hsl hI
  simp only [probVal_eq, probVals] at HEv ⊢
  obtain ⟨vs, hard, soft, ds, gs⟩ := p
  obtain ⟨av, cv, ah, ch, ao, co, ad, cd, ag, cg⟩ := x
  simp only at HEv hlv ⊢
  go_enter Tryz.func71, Tryz.ntmps71
  go_wp2_with fail
  refine HEv.out.mono ?_
  rintro e w1 ⟨v, rfl, hown, hb1⟩
  obtain ⟨ae, ce, rfl, hSg⟩ := sigs_of_own hown hlv
  have HSg := Lib.hid hSg
  have Hb1 : Hid (Below w.heap.size w w1) := ((Below.refl _ _).alloc (Nat.le_refl _) _).trans (hb1.mono (by simp))
  clear hown hb1 hSg
  go_wp2_with fail
  go_loopw [8] (fun i wr => ∃ k : Nat, i = .int .i64 k ∧ k ≤ l.length ∧ (∀ j (hj : j < l.length), j < k → ((evalS (envS vs A) (l[j]'hj)).1 != 0) = true) ∧ Below w1.heap.size w1 wr) (fun i _ => l.length - (intOf i).toNat)
  case atStart => exact ⟨0, rfl, Nat.zero_le _, fun _ _ h => absurd h (by omega), Below.refl _ _⟩
  case round =>
    obtain ⟨k, rfl, hk, hall, hB⟩ := hrel
    have HAl := Lib.hid hall
    have HB := Lib.hid hB
    have HBw : Hid (Below w.heap.size w wr) := Hb1.out.trans (hB.mono Hb1.out.size)
    clear hall hB
    by_cases hlt : k < l.length
    · obtain ⟨b, off, ha⟩ := HA.out.resolve_left (by omega)
      subst ha
      obtain ⟨a', cap', g0, g1, g2, g3, hX⟩ := HL.out.get rfl hlt
      have hn := HSl.out _ (List.getElem_mem hlt)
      have HNx : Hid (((evalS (envS vs A) (l[k]'hlt)).1 != 0) = true → ∀ j (hj : j < l.length), j < k + 1 → ((evalS (envS vs A) (l[j]'hj)).1 != 0) = true) := fun hv j hj hjk => by
        by_cases e : j = k
        · subst e; exact hv
        · exact HAl.out j hj (by omega)
      have HNo : Hid (((evalS (envS vs A) (l[k]'hlt)).1 != 0) = false → allS vs l A = false) := fun h => by
        unfold allS
        rw [List.all_eq_false]
        exact ⟨_, List.getElem_mem hlt, by rw [h]; simp⟩
      generalize (l[k]'hlt) = e at g0 g1 g2 g3 hX hn HNx HNo
      obtain ⟨op, n, s, args⟩ := e
      simp only [Ex.op_mk, Ex.n_mk, Ex.name_mk, Ex.args_mk] at g0 g1 g2 g3
      have kk := keeps_of_below HBw.out
      have c0 := kk _ _ g0
      have c1 := kk _ _ g1
      have c2 := kk _ _ g2
      have c3 := kk _ _ g3
      have HC := Lib.hid ((rValue_any (envS vs A) ae ce op n s args a' cap' wr (HSg.out.keep (keeps_of_below HB.out)) (hX.keep kk) hn).mono fun e w' h => (⟨h.1, HB.out.trans (h.2.mono HB.out.size)⟩ : _ ∧ Below w1.heap.size w1 w'))
      generalize (evalS (envS vs A) (Ex.mk op n s args)).1 = z at HC HNx HNo
      clear g0 g1 g2 g3 hX hn kk
      by_cases hz : z = 0
      · have HNo' := Lib.hid (HNo.out (by rw [hz]; rfl))
        subst hz
        go_wp2_with fail
        refine HC.out.mono ?_
        rintro e w2 ⟨rfl, hb2⟩
        have HB2 := Lib.hid hb2
        clear hb2 c0 c1 c2 c3
        go_wp2_with fail
        go_ret
        exact ⟨by rw [HNo'.out]; rfl, Hb1.out.trans (HB2.out.mono Hb1.out.size)⟩
      · have hz' : (z == 0) = false := by simpa using hz
        have HNx' := Lib.hid (HNx.out (by simpa using hz))
        clear hz
        go_wp2_with fail
        refine HC.out.mono ?_
        rintro e w2 ⟨rfl, hb2⟩
        have HB2 := Lib.hid hb2
        clear hb2 c0 c1 c2 c3
        go_wp2_with fail
        go_roundw
        case rel => exact ⟨k + 1, by go_num, by omega, HNx'.out, HB2.out⟩
        case measure => simp [intOf]; omega
    · obtain rfl : k = l.length := by omega
      have HY : Hid (allS vs l A = true) := by
        show _ = _
        unfold allS
        rw [List.all_eq_true]
        intro e he
        obtain ⟨j, hj, rfl⟩ := List.getElem_of_mem he
        exact HAl.out j hj hj
      go_wp2_with fail
      go_ret
      exact ⟨by rw [HY.out]; rfl, HBw.out⟩
theorem row_lt {w : World} {g cap n : Nat} {e : TypeId} {size : Nat} {xs : List Value} (h : w.ownsRow g e size (.slice (some ⟨g, 0, none⟩) n cap) n xs) : g < w.heap.size := (h.lt g rfl).2
set_option maxRecDepth 100000 in
set_option maxHeartbeats 8000000 in
theorem r22Next_any (p : ProbD) (x : ProbA) (A : List Int) (g cap : Nat) (w0 w : World) (hE : ProbIn w0 p x) (hV : VarsOk p.vars) (hA : Asg p.vars A) (hg : w0.heap.size ≤ g) (hown : w.ownsRow g 3 1 (.slice (some ⟨g, 0, none⟩) A.length cap) A.length (A.map (Value.int .i64))) (hold : Below w0.heap.size w0 w) :
    Calls Tryz.prog 70 #[probVal p x, .slice (some ⟨g, 0, none⟩) A.length cap] w fun e w' => e = .returned (.bool (!(advN p.vars A).2)) ∧ w'.ownsRow g 3 1 (.slice (some ⟨g, 0, none⟩) A.length cap) A.length ((advN p.vars A).1.map (Value.int .i64)) ∧ Below w0.heap.size w0 w' := by
  have hlA := hA.len
  have hlen := hE.vars.2.1
  have hgl := row_lt hown
  have HA := Lib.hid hE.vars.addr
  have HE := Lib.hid hE.vars
  have HV := Lib.hid hV
  have HAs := Lib.hid hA
  have HOld := Lib.hid hold
  have HO := Lib.hid hown
  have HLA := Lib.hid hlA
  have hz0 := hold.size
  clear hE hV hA hold hown
  simp only [probVal_eq]
  obtain ⟨vs, hard, soft, ds, gs⟩ := p
  obtain ⟨av, cv, ah, ch, ao, co, ad, cd, ag, cg⟩ := x
  simp only at HA HE HV HAs hlen HLA ⊢
  have hA30 : A.length ≤ 1073741824 := by have := HLA.out; omega
  have hlw : IntKind.i64.wrap ((A.length : Int) - 1) = (A.length : Int) - 1 := by rw [IntKind.wrap_i64]; omega
  clear hlA
  go_enter Tryz.func70, Tryz.ntmps70
  go_wp2_with fail
  go_loopw [5] (fun i wr => ∃ c : Nat, i = .int .i64 ((c : Int) - 1) ∧ c ≤ A.length ∧ Hid ((advN (vs.drop c) (A.drop c)).2 = true) ∧ wr.ownsRow g 3 1 (.slice (some ⟨g, 0, none⟩) A.length cap) A.length ((advTo vs A c).map (Value.int .i64)) ∧ Hid (wr.heap[w.heap.size]? = some (.cells #[.slice av vs.length cv, .slice ah hard.length ch, .slice ao soft.length co, .slice ad ds.length cd, .slice ag gs.length cg] 27 (0, 0))) ∧ Below w0.heap.size w0 wr) (fun i _ => (intOf i + 1).toNat)
  case atStart => exact ⟨A.length, by go_num, Nat.le_refl _, by show _ = _; rw [List.drop_of_length_le (by have := HLA.out; omega)]; rfl, by have h := advTo_all HLA.out; rw [← HLA.out] at h; rw [h]; exact HO.out.alloc _, heap_alloc_new' _ _, HOld.out.alloc (by omega) _⟩
  case round =>
    obtain ⟨c, hi, hc, HC, hown, HK, hB⟩ := hrel
    have hgr := row_lt hown
    have HOr := Lib.hid hown
    have HB := Lib.hid hB
    have hKl := lt_of_block HK.out
    have b0 : wr.cell? ⟨w.heap.size, 0, none⟩ = some (.slice av vs.length cv) := by simp [World.cell?, HK.out]
    have hgw : g ≠ w.heap.size := by omega
    have hwg : w.heap.size ≠ g := by omega
    cases c with
    | succ d =>
      obtain rfl := hi.trans (show Value.int .i64 (((d + 1 : Nat) : Int) - 1) = .int .i64 (d : Int) by congr 1; omega)
      clear hi
      have hdA : d < A.length := by omega
      have hdv : d < vs.length := by have := HLA.out; omega
      obtain ⟨b, off, ha⟩ := HA.out.resolve_left (by omega)
      subst ha
      obtain ⟨_, c1, c2, _, _⟩ := HE.out.get rfl hdv
      have hbB := World.block_lt_of_cell? _ _ c1
      simp only at hbB
      have c1 := keeps_of_below hB _ _ c1
      have c2 := keeps_of_below hB _ _ c2
      have hlT := advTo_len HLA.out (d + 1) (by omega)
      have hspl : advTo vs A (d + 1) = A.take d ++ A[d]'hdA :: (advN (vs.drop (d + 1)) (A.drop (d + 1))).1 := keep_split hdA
      have e0 : wr.cell? ⟨g, d, none⟩ = some (.int .i64 (A[d]'hdA)) := by
        rw [hown.cellAt d (by omega), hspl, List.getElem?_map, List.getElem?_append_right (by simp; omega)]
        simp [show d - min d A.length = 0 from by omega]
      have q0 := hown.frozenAt d
      have HSto := Lib.hid (fun (u : Int) => (hown.stored d (.int .i64 u)).1)
      have hgb : g ≠ b := by omega
      have hbg : b ≠ g := by omega
      have HP := Lib.hid (adv_parts HLA.out hdv)
      rw [HC.out, if_pos rfl] at HP
      have hw := width_of_ok (HV.out.ok d hdv)
      obtain ⟨hm1, hx0, hx1⟩ := HAs.out.at' d hdv
      obtain ⟨pw, hpw, hwp, p1, p2⟩ := pow_pack (vs[d]'hdv).width hw.2
      rw [hpw] at hx1 HP
      have HSt := Lib.hid (fun (u : Int) => @set_split A (advN (vs.drop (d + 1)) (A.drop (d + 1))).1 d hdA u)
      have HStop := Lib.hid (adv_stop HLA.out d (by omega))
      have HTo : Hid (advTo vs A d = A.take d ++ (advN (vs.drop d) (A.drop d)).1) := rfl
      have HTo1 : Hid (advTo vs A (d + 1) = A.take (d + 1) ++ (advN (vs.drop (d + 1)) (A.drop (d + 1))).1) := rfl
      have Hspl := Lib.hid hspl
      have hw0 : 0 ≤ (vs[d]'hdv).width := by omega
      have hw8 := hw.2
      have HSet : Hid (∀ u : Int, (wr.setCell ⟨g, d, none⟩ (.int .i64 u)).ownsRow g 3 1 (.slice (some ⟨g, 0, none⟩) A.length cap) A.length (((advTo vs A (d + 1)).set d u).map (Value.int .i64))) := fun u => by
        rw [List.map_set]; exact HSto.out u
      have HKs : Hid (∀ u : Value, (wr.setCell ⟨g, d, none⟩ u).heap[w.heap.size]? = some (.cells #[.slice (some ⟨b, off, none⟩) vs.length cv, .slice ah hard.length ch, .slice ao soft.length co, .slice ad ds.length cd, .slice ag gs.length cg] 27 (0, 0))) := fun u => (Below.heap_setCell wr ⟨g, d, none⟩ u w.heap.size hwg).trans HK.out
      have HBs : Hid (∀ u : Value, Below w0.heap.size w0 (wr.setCell ⟨g, d, none⟩ u)) := fun u => HB.out.setCell hg u
      generalize (vs[d]'hdv).width = width at *
      generalize (vs[d]'hdv).mode = mode at *
      generalize A[d]'hdA = z at *
      clear hlT hB hown hspl hpw hm1 hw HSto
      by_cases hm : mode = 0
      · have HC' : Hid ((advN (vs.drop d) (A.drop d)).2 = true ∧ advTo vs A d = advTo vs A (d + 1)) := by
          rw [if_pos hm] at HP
          exact ⟨by rw [HP.out], by rw [HTo.out, HP.out, Hspl.out]⟩
        subst hm
        clear HC
        go_wp2_with fail
        go_roundw
        case rel => exact ⟨d, by go_num, by omega, HC'.out.1, by rw [HC'.out.2]; exact HOr.out, HK.out, HB.out⟩
        case measure => simp [intOf] <;> omega
      · rw [if_neg hm] at HP
        have hm' := op_ne hm
        clear hm
        by_cases hlt : z + 1 < pw
        · have hd : decide (z + 1 < pw) = true := decide_eq_true hlt
          rw [if_pos hlt] at HP
          have HY : Hid ((advN vs A).2 = false ∧ (advTo vs A (d + 1)).set d (z + 1) = (advN vs A).1) := by
            have h1 := HStop.out (by rw [HP.out])
            refine ⟨by rw [h1], ?_⟩
            rw [h1, HP.out, HTo1.out, HSt.out]
          clear hlt
          go_wp2_with fail
          go_quiet (fail)
          go_wp2_with fail
          go_ret
          refine ⟨by rw [HY.out.1]; rfl, ?_, below_drewN (HBs.out _) _⟩
          rw [← HY.out.2]
          exact ownsRow_below (HSet.out (z + 1)) (below_drewN (Below.refl _ _) _)
        · have hd : decide (z + 1 < pw) = false := decide_eq_false hlt
          rw [if_neg hlt] at HP
          have HC' : Hid ((advN (vs.drop d) (A.drop d)).2 = true ∧ advTo vs A d = (advTo vs A (d + 1)).set d 0) := by
            refine ⟨by rw [HP.out], ?_⟩
            rw [HTo.out, HP.out, HTo1.out, HSt.out]
          clear hlt HC
          go_wp2_with fail
          go_quiet (fail)
          go_wp2_with fail
          go_roundw
          case rel => exact ⟨d, by go_num, by omega, HC'.out.1, by
            have h1 := ownsRow_below (HSet.out (z + 1)) (below_drewN (Below.refl _ _) nq)
            have h2 := (h1.stored d (.int .i64 0)).1
            rw [← List.map_set, List.set_set, ← HC'.out.2] at h2
            exact h2, (Below.heap_setCell _ ⟨g, d, none⟩ _ w.heap.size hwg).trans (((below_drewN (Below.refl _ _) nq : Below (wr.setCell ⟨g, d, none⟩ (.int .i64 (z + 1))).heap.size (wr.setCell ⟨g, d, none⟩ (.int .i64 (z + 1))) _).block w.heap.size (by simp only [World.size_setCell]; omega)).trans (HKs.out _)), (below_drewN (HBs.out _) _).setCell hg _⟩
          case measure => simp [intOf] <;> omega
    | zero =>
      subst hi
      have HAdv : Hid ((advN vs A).2 = true ∧ advTo vs A 0 = (advN vs A).1) := ⟨by have := HC.out; simpa using this, by unfold advTo; simp⟩
      clear hB hown
      go_wp2_with fail
      go_ret
      refine ⟨by rw [HAdv.out.1]; rfl, ?_, HB.out⟩
      rw [← HAdv.out.2]
      exact HOr.out
theorem fill_set {α : Type} {V cur : List α} {k : Nat} (h : k < V.length) (hc : cur.length = V.length) : (V.take k ++ cur.drop k).set k (V[k]'h) = V.take (k + 1) ++ cur.drop (k + 1) := by
  rw [List.set_append_right _ _ (by simp; omega), List.drop_eq_getElem_cons (show k < cur.length by omega), List.length_take, show k - min k V.length = 0 from by omega, List.set_cons_zero, List.take_succ_eq_append_getElem h, List.append_assoc]
  rfl
/-- the values of the variables are the first assignment -/
theorem vals_nth {vs : List VarD} (h : VarsOk vs) : vs.map (fun v => v.value) = nthN vs 0 := by
  apply List.ext_getElem
  · simp [nthN_len]
  · intro i h1 h2
    have hi : i < vs.length := by simpa using h1
    rw [List.getElem_map, nthN_get vs 0 i hi, Nat.zero_div]
    have hok := h.ok i hi
    unfold varOkB varNumsB at hok
    simp only [Bool.and_eq_true, Bool.or_eq_true, decide_eq_true_eq, beq_iff_eq] at hok
    unfold digN
    by_cases hm : (vs[i]'hi).mode = 0
    · rw [if_pos hm]
    · rw [if_neg hm, Nat.zero_mod]
      rcases hok.2.2 with h3 | h3
      · exact absurd h3 hm
      · rw [h3]; rfl
set_option maxRecDepth 100000 in
set_option maxHeartbeats 8000000 in
theorem r22First_any (p : ProbD) (x : ProbA) (w : World) (hE : ProbIn w p x) (hV : VarsOk p.vars) :
    Calls Tryz.prog 69 #[probVal p x] w fun e w' => ∃ g, w.heap.size ≤ g ∧ e = .returned (.slice (some ⟨g, 0, none⟩) p.vars.length p.vars.length) ∧ w'.ownsRow g 3 1 (.slice (some ⟨g, 0, none⟩) p.vars.length p.vars.length) p.vars.length ((nthN p.vars 0).map (Value.int .i64)) ∧ Below w.heap.size w w' := by
  have hlen := hE.vars.2.1
  have HAV := Lib.hid hE.vars.addr
  have HVs := Lib.hid hE.vars
  have HN := Lib.hid (vals_nth hV)
  clear hE hV
  simp only [probVal_eq]
  obtain ⟨vs, hard, soft, ds, gs⟩ := p
  obtain ⟨av, cv, ah, ch, ao, co, ad, cd, ag, cg⟩ := x
  simp only at HAV HVs HN hlen ⊢
  go_enter Tryz.func69, Tryz.ntmps69
  go_wp2_with (at_make; go_must (refine make_blk elemI rfl (.tmp 7) (.tmp 7) rfl vs.length _ rfl rfl (by simp) (by omega) ?_))
  intro cur hcur
  have hcur : cur.length = vs.length := by simpa using hcur
  try simp only [World.size_alloc] at *
  have HoA : Hid (((w.alloc (.cells #[.slice av vs.length cv, .slice ah hard.length ch, .slice ao soft.length co, .slice ad ds.length cd, .slice ag gs.length cg] 27)).alloc (.cells cur.toArray 3)).ownsRow (w.heap.size + 1) 3 1 (.slice (some ⟨w.heap.size + 1, 0, none⟩) vs.length vs.length) vs.length cur) := ⟨by omega, Or.inr ⟨w.heap.size + 1, vs.length, _, rfl, Nat.le_refl _, (by have h := heap_alloc_new' (w.alloc (.cells #[.slice av vs.length cv, .slice ah hard.length ch, .slice ao soft.length co, .slice ad ds.length cd, .slice ag gs.length cg] 27)) (.cells cur.toArray 3); simp only [World.size_alloc] at h; exact h), Nat.le_refl _, by unfold maxLen; omega, by simp [hcur], by simp only []; exact List.take_of_length_le (by omega)⟩⟩
  have HBA : Hid (Below (w.heap.size + 1) (w.alloc (.cells #[.slice av vs.length cv, .slice ah hard.length ch, .slice ao soft.length co, .slice ad ds.length cd, .slice ag gs.length cg] 27)) ((w.alloc (.cells #[.slice av vs.length cv, .slice ah hard.length ch, .slice ao soft.length co, .slice ad ds.length cd, .slice ag gs.length cg] 27)).alloc (.cells cur.toArray 3))) := (Below.refl _ _).alloc (by simp) _
  generalize (w.alloc (.cells #[.slice av vs.length cv, .slice ah hard.length ch, .slice ao soft.length co, .slice ad ds.length cd, .slice ag gs.length cg] 27)).alloc (.cells cur.toArray 3) = wA at HoA HBA ⊢
  go_wp2_with fail
  go_loopw [4] (fun i wr => ∃ k : Nat, i = .int .i64 k ∧ k ≤ vs.length ∧ wr.ownsRow (w.heap.size + 1) 3 1 (.slice (some ⟨w.heap.size + 1, 0, none⟩) vs.length vs.length) vs.length (((vs.map fun v => v.value).map (Value.int .i64)).take k ++ cur.drop k) ∧ Below (w.heap.size + 1) (w.alloc (.cells #[.slice av vs.length cv, .slice ah hard.length ch, .slice ao soft.length co, .slice ad ds.length cd, .slice ag gs.length cg] 27)) wr) (fun i _ => vs.length - (intOf i).toNat)
  case atStart => exact ⟨0, rfl, Nat.zero_le _, by simpa using HoA.out, HBA.out⟩
  case round =>
    obtain ⟨k, rfl, hk, hown, hB⟩ := hrel
    have HB := Lib.hid hB
    have HBw := Lib.hid (boxW _ hB)
    have HO := Lib.hid hown
    ((try clear b0 b1 b2 b3 b4); have b0 := box_cell HB.out 0; have b1 := box_cell HB.out 1; have b2 := box_cell HB.out 2; have b3 := box_cell HB.out 3; have b4 := box_cell HB.out 4; (try simp at b0 b1 b2 b3 b4))
    by_cases hlt : k < vs.length
    · obtain ⟨b, off, ha⟩ := HAV.out.resolve_left (by omega)
      subst ha
      obtain ⟨_, _, _, c3, _⟩ := HVs.out.get rfl hlt
      have c3 := keeps_of_below HBw.out _ _ c3
      have hvl : k < ((vs.map fun v => v.value).map (Value.int .i64)).length := by simpa using hlt
      have HF := Lib.hid (fill_set (cur := cur) hvl (by simp; omega))
      have hge : ((vs.map fun v => v.value).map (Value.int .i64))[k]'hvl = .int .i64 (vs[k]'hlt).value := by simp
      rw [hge] at HF
      have hxl : (((vs.map fun v => v.value).map (Value.int .i64)).take k ++ cur.drop k).length = vs.length := by simp; omega
      have hcz := hown.cellAt k (by omega)
      rw [List.getElem?_eq_getElem (by omega)] at hcz
      have hfz := hown.frozenAt k
      have HSt := Lib.hid (hown.stored k (.int .i64 (vs[k]'hlt).value)).1
      rw [HF.out] at HSt
      generalize (vs[k]'hlt).value = u at c3 HSt
      generalize (((vs.map fun v => v.value).map (Value.int .i64)).take k ++ cur.drop k)[k]'(by omega) = old at hcz
      clear hown hB hge HF hxl
      go_wp2_with fail
      go_roundw
      case rel => exact ⟨k + 1, by go_num, by omega, HSt.out, HB.out.setCell (p := ⟨w.heap.size + 1, k, none⟩) (Nat.le_refl _) _⟩
      case measure => (simp [intOf]; try omega)
    · obtain rfl : k = vs.length := by omega
      rw [List.take_of_length_le (by simp), List.drop_of_length_le (by omega), List.append_nil, HN.out] at hown
      have HO2 := Lib.hid hown
      clear hown hB
      go_wp2_with fail
      go_ret
      exact ⟨w.heap.size + 1, Nat.le_succ _, rfl, HO2.out, HBw.out⟩
end Go.Proofs.YtgdphjgedhadoaaGreatDoor

/- ref22: possible; ref14: SameInts. -/
namespace Go.Proofs.YtgdphjgedhadoaaGreatDoor
open Go.RowKit
attribute [local go_sem ↓] Go.wp_at_zero Go.wp_at_succ

theorem ints_row {w : World} {g cap : Nat} {A : List Int} (h : w.ownsRow g 3 1 (.slice (some ⟨g, 0, none⟩) A.length cap) A.length (A.map (Value.int .i64))) (hn : A.length ≤ 1073741824) : IntsIn w A (some ⟨g, 0, none⟩) cap := by
  obtain ⟨a, c, hv, hI⟩ := ints_of_own h hn
  injection hv with e1 e2 e3
  subst e1 e3
  exact hI
set_option maxRecDepth 100000 in
set_option maxHeartbeats 8000000 in
theorem possible_any (p : ProbD) (x : ProbA) (l : List Ex) (al : Option Addr) (cl : Nat) (w : World) (hE : ProbIn w p x) (hV : VarsOk p.vars) (hL : ExsIn w l al cl) (hsl : ExsSmall l) :
    Calls Tryz.prog 68 #[probVal p x, .slice al l.length cl] w fun e w' => e = .returned (.bool (solvB p.vars l)) ∧ Below w.heap.size w w' := by
  have hlen := hE.vars.2.1
  have HF0 := Lib.hid (fun W (hW : Below w.heap.size w W) => r22First_any p x W (hE.keep (keeps_of_below hW)) hV)
  have HS0 := Lib.hid (fun A aa ca W (hW : Below w.heap.size w W) (hI : IntsIn W A aa ca) => Satisfies_any p x l al cl A aa ca W (hE.keep (keeps_of_below hW)) (hL.keep (keeps_of_below hW)) hsl hI)
  have HN0 := Lib.hid (fun k g cap W0 W (h0 : Below w.heap.size w W0) (hg : W0.heap.size ≤ g) (hown : W.ownsRow g 3 1 (.slice (some ⟨g, 0, none⟩) (nthN p.vars k).length cap) (nthN p.vars k).length ((nthN p.vars k).map (Value.int .i64))) (hW : Below W0.heap.size W0 W) => r22Next_any p x (nthN p.vars k) g cap W0 W (hE.keep (keeps_of_below h0)) hV (asg_nth hV.ok k) hg hown hW)
  have HT := totN_pos p.vars
  have HY : Hid (∀ k, k < totN p.vars → allS p.vars l (nthN p.vars k) = true → solvB p.vars l = true) := fun k h1 h2 => pB_true ⟨k, h1, h2⟩
  have HNo : Hid ((∀ k, k < totN p.vars → allS p.vars l (nthN p.vars k) = false) → solvB p.vars l = false) := fun h => pB_false (fun ⟨k, h1, h2⟩ => by
    have h3 := h k h1
    unfold hitN at h2
    rw [h3] at h2; simp at h2)
  generalize solvB p.vars l = R at HY HNo ⊢
  clear hE hV hL hsl
  simp only [probVal_eq] at HF0 HS0 HN0 ⊢
  obtain ⟨vs, hard, soft, ds, gs⟩ := p
  obtain ⟨av, cv, ah, ch, ao, co, ad, cd, ag, cg⟩ := x
  simp only at HF0 HS0 HN0 HT HY HNo hlen ⊢
  have HF := Lib.hid (HF0.out (w.alloc (.cells #[.slice av vs.length cv, .slice ah hard.length ch, .slice ao soft.length co, .slice ad ds.length cd, .slice ag gs.length cg] 27)) ((Below.refl _ _).alloc (Nat.le_refl _) _))
  clear HF0
  go_enter Tryz.func68, Tryz.ntmps68
  go_wp2_with fail
  refine HF.out.mono ?_
  rintro e w1 ⟨g, hg, rfl, hown, hb1⟩
  simp only [World.size_alloc] at hg hb1
  have HB1 := Lib.hid hb1
  have HO1 := Lib.hid hown
  clear hown hb1
  go_wp2_with fail
  go_loopg [15] (totN vs) (fun gk _ wr => ∃ q : Nat, q + gk = totN vs ∧ q < totN vs ∧ Hid (∀ j, j < q → allS vs l (nthN vs j) = false) ∧ wr.ownsRow g 3 1 (.slice (some ⟨g, 0, none⟩) vs.length vs.length) vs.length ((nthN vs q).map (Value.int .i64)) ∧ Below (w.heap.size + 1) (w.alloc (.cells #[.slice av vs.length cv, .slice ah hard.length ch, .slice ao soft.length co, .slice ad ds.length cd, .slice ag gs.length cg] 27)) wr)
  case atStart => exact ⟨0, by omega, HT, (fun j hj => by omega), HO1.out, HB1.out⟩
  case round =>
    obtain ⟨q, hqg, hq, HQ, hown, hB⟩ := hrel
    have HB := Lib.hid hB
    have HBw := Lib.hid (boxW _ hB)
    have HO := Lib.hid hown
    have hgr := row_lt hown
    have hzr := hB.size
    simp only [World.size_alloc] at hzr
    ((try clear b0 b1 b2 b3 b4); have b0 := box_cell HB.out 0; have b1 := box_cell HB.out 1; have b2 := box_cell HB.out 2; have b3 := box_cell HB.out 3; have b4 := box_cell HB.out 4; (try simp at b0 b1 b2 b3 b4))
    have hnl : (nthN vs q).length = vs.length := nthN_len vs q
    have hI : IntsIn wr (nthN vs q) (some ⟨g, 0, none⟩) vs.length := ints_row (by rw [hnl]; exact hown) (by omega)
    have HS := Lib.hid (HS0.out (nthN vs q) (some ⟨g, 0, none⟩) vs.length wr HBw.out hI)
    rw [hnl] at HS
    clear hown hB hI
    cases hs : allS vs l (nthN vs q)
    · rw [hs] at HS
      have HQ1 : Hid (∀ j, j < q + 1 → allS vs l (nthN vs j) = false) := fun j hj => by
        by_cases e : j = q
        · rw [e]; exact hs
        · exact HQ.out j (by omega)
      clear hs
      go_wp2_with fail
      refine HS.out.mono ?_
      rintro e w2 ⟨rfl, hb2⟩
      have HO2 := Lib.hid (ownsRow_below HO.out hb2)
      have HB2 := Lib.hid (HB.out.trans (hb2.mono (by omega)))
      have HN2 := Lib.hid (HN0.out q g vs.length (w.alloc (.cells #[.slice av vs.length cv, .slice ah hard.length ch, .slice ao soft.length co, .slice ad ds.length cd, .slice ag gs.length cg] 27)) w2 ((Below.refl _ _).alloc (Nat.le_refl _) _) (by simpa using hg) (by rw [hnl]; exact HO2.out) (by simpa using HB2.out))
      rw [hnl, advN_nth] at HN2
      simp only at HN2
      ((try clear b0 b1 b2 b3 b4); have b0 := box_cell HB2.out 0; have b1 := box_cell HB2.out 1; have b2 := box_cell HB2.out 2; have b3 := box_cell HB2.out 3; have b4 := box_cell HB2.out 4; (try simp at b0 b1 b2 b3 b4))
      clear hb2
      by_cases hl : q + 1 < totN vs
      · rw [show decide ((q + 1) % totN vs = 0) = false from by rw [Nat.mod_eq_of_lt hl]; simp] at HN2
        simp only [Bool.not_false] at HN2
        go_wp2_with fail
        refine HN2.out.mono ?_
        rintro e w3 ⟨rfl, ho3, hb3⟩
        have HO3 := Lib.hid ho3
        have HB3 := Lib.hid hb3
        simp only [World.size_alloc] at HB3
        clear ho3 hb3
        go_wp2_with fail
        go_roundg (totN vs - (q + 1))
        case measure => omega
        case rel => exact ⟨q + 1, by omega, hl, HQ1.out, HO3.out, HB3.out⟩
      · have he : q + 1 = totN vs := by omega
        rw [show decide ((q + 1) % totN vs = 0) = true from by rw [he, Nat.mod_self]; rfl] at HN2
        simp only [Bool.not_true] at HN2
        have HR := Lib.hid (HNo.out (fun k hk => HQ1.out k (by omega)))
        go_wp2_with fail
        refine HN2.out.mono ?_
        rintro e w3 ⟨rfl, ho3, hb3⟩
        have HB3 := Lib.hid hb3
        simp only [World.size_alloc] at HB3
        clear ho3 hb3
        go_wp2_with fail
        go_ret
        exact ⟨by rw [HR.out]; rfl, boxW _ HB3.out⟩
    · rw [hs] at HS
      have HR := Lib.hid (HY.out q hq hs)
      clear hs
      go_wp2_with fail
      refine HS.out.mono ?_
      rintro e w2 ⟨rfl, hb2⟩
      have HB2 := Lib.hid (HBw.out.trans (hb2.mono HBw.out.size))
      clear hb2
      go_wp2_with fail
      go_ret
      exact ⟨by rw [HR.out]; rfl, HB2.out⟩
end Go.Proofs.YtgdphjgedhadoaaGreatDoor

/- the expressions of the supports are valid: plain. -/
namespace Go.Proofs.YtgdphjgedhadoaaGreatDoor
open Go.RowKit

/-- a node that is in order -/
def NodeOk (vs : List VarD) (x : Ex) : Prop := nodeS x = 0 ∧ arrN x = false ∧ forN vs x = false
def AllOk (vs : List VarD) (e : Ex) : Prop := ∀ x, x ∈ e.nodes → NodeOk vs x
theorem AllOk.node {vs : List VarD} {e : Ex} (h : NodeOk vs e) (ha : ∀ x, x ∈ e.args → AllOk vs x) : AllOk vs e := fun y hy => by
  rw [Ex.nodes_eq] at hy
  rcases List.mem_cons.1 hy with rfl | hy
  · exact h
  · obtain ⟨l, hl, hyl⟩ := List.mem_flatten.1 hy
    obtain ⟨a, ha', rfl⟩ := List.mem_map.1 hl
    exact ha a ha' y hyl
theorem firstE_all : ∀ l : List Ex, (∀ x, x ∈ l → nodeS x = 0) → firstE l = 0 := by
  intro l
  induction l with
  | nil => intro _; rfl
  | cons e l ih =>
    intro h
    unfold firstE
    rw [h e List.mem_cons_self]
    simpa using ih (fun x hx => h x (List.mem_cons_of_mem _ hx))
theorem AllOk.ok {vs : List VarD} {e : Ex} (h : AllOk vs e) (hd : e.depth ≤ 24) (hn : e.nodes.length ≤ 400) : ExprOk vs e := by
  refine ⟨?_, ?_, ?_⟩
  · unfold validS
    rw [firstE_all _ (fun x hx => (h x hx).1), if_neg (fun h' => by omega)]
  · rw [List.any_eq_false]
    intro x hx
    rw [(h x hx).2.1]; simp
  · rw [List.any_eq_false]
    intro x hx
    rw [(h x hx).2.2]; simp
end Go.Proofs.YtgdphjgedhadoaaGreatDoor

/- ref14: SameInts; ref22: number. -/
namespace Go.Proofs.YtgdphjgedhadoaaGreatDoor
open Go.RowKit
attribute [local go_sem ↓] Go.wp_at_zero Go.wp_at_succ
set_option maxRecDepth 100000 in
set_option maxHeartbeats 4000000 in
theorem SameInts_any (A : List Int) (aa : Option Addr) (ca : Nat) (B : List Int) (ab : Option Addr) (cb : Nat) (w : World) (hA : IntsIn w A aa ca) (hB : IntsIn w B ab cb) :
    Calls Tryz.prog 34 #[.slice aa A.length ca, .slice ab B.length cb] w fun e w' => e = .returned (.bool (decide (A = B))) ∧ Below w.heap.size w w' := by
  have HA := Lib.hid hA
  have HB := Lib.hid hB
  have HAA := Lib.hid hA.addr
  have HAB := Lib.hid hB.addr
  have hla := hA.2.1
  have hlb := hB.2.1
  clear hA hB
  by_cases hl : A.length = B.length
  · have Hl := Lib.hid hl
    have hd : ((A.length : Int) != (B.length : Int)) = false := by simp; omega
    clear hl
    go_enter Tryz.func34, Tryz.ntmps34
    go_wp2_with fail
    go_loopw [5] (fun i wr => ∃ k : Nat, i = .int .i64 k ∧ k ≤ A.length ∧ Hid (∀ j (hj : j < A.length), j < k → A[j]'hj = B[j]'(by have := Hl.out; omega)) ∧ Hid (Below w.heap.size w wr)) (fun i _ => A.length - (intOf i).toNat)
    case atStart => exact ⟨0, rfl, Nat.zero_le _, fun _ _ h => absurd h (by omega), Below.refl _ _⟩
    case round =>
      obtain ⟨k, rfl, hk, HAl, HW⟩ := hrel
      by_cases hlt : k < A.length
      · have hltb : k < B.length := by have := Hl.out; omega
        obtain ⟨ba, oa, ha⟩ := HAA.out.resolve_left (by omega)
        obtain ⟨bb, ob, hb⟩ := HAB.out.resolve_left (by omega)
        subst ha
        subst hb
        have c0 := keeps_of_below HW.out _ _ (HA.out.get rfl hlt)
        have c1 := keeps_of_below HW.out _ _ (HB.out.get rfl hltb)
        rw [getD_at hlt] at c0
        rw [getD_at hltb] at c1
        by_cases he : A[k]'hlt = B[k]'hltb
        · have HNx : Hid (∀ j (hj : j < A.length), j < k + 1 → A[j]'hj = B[j]'(by have := Hl.out; omega)) := fun j hj hjk => by
            by_cases e : j = k
            · subst e; exact he
            · exact HAl.out j hj (by omega)
          generalize A[k]'hlt = x at c0 he
          generalize B[k]'hltb = y at c1 he
          have hne : (x != y) = false := by simp [he]
          clear he
          go_wp2_with fail
          go_quiet (fail)
          go_wp2_with fail
          go_roundw
          case rel => exact ⟨k + 1, by go_num, by omega, HNx.out, below_drewN HW.out _⟩
          case measure => simp [intOf]; omega
        · have HNo : Hid (decide (A = B) = false) := decide_eq_false (fun h => he (by subst h; rfl))
          generalize A[k]'hlt = x at c0 he
          generalize B[k]'hltb = y at c1 he
          have hne : (x != y) = true := by simpa using he
          clear he
          go_wp2_with fail
          go_quiet (fail)
          go_wp2_with fail
          go_ret
          exact ⟨by rw [HNo.out]; rfl, below_drewN HW.out _⟩
      · obtain rfl : k = A.length := by omega
        have HY : Hid (decide (A = B) = true) := decide_eq_true (eq_of_all Hl.out (fun j hj => HAl.out j hj hj))
        go_wp2_with fail
        go_ret
        exact ⟨by rw [HY.out]; rfl, HW.out⟩
  · have HNo : Hid (decide (A = B) = false) := decide_eq_false (fun h => hl (by rw [h]))
    have hd : ((A.length : Int) != (B.length : Int)) = true := by simp; omega
    clear hl
    go_enter Tryz.func34, Tryz.ntmps34
    go_wp2_with fail
    go_ret
    exact ⟨by rw [HNo.out]; rfl, Below.refl _ _⟩
set_option maxHeartbeats 1000000 in
theorem r22num_any (n : Int) (w : World) : Calls Tryz.prog 138 #[.int .i64 n] w fun e w' => e = .returned (.agg #[.int .i64 1, .int .i64 n, .string ⟨#[]⟩, .slice none 0 0]) ∧ Below w.heap.size w w' := r22number_any n w
end Go.Proofs.YtgdphjgedhadoaaGreatDoor
