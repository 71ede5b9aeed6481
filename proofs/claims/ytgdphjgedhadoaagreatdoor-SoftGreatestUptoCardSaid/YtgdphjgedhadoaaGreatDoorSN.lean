/- ref22: Next, and what it leaves. -/
import Derived.Test.YtgdphjgedhadoaaGreatDoorSE
import Derived.Test.YtgdphjgedhadoaaGreatDoorSH
import Derived.Test.YtgdphjgedhadoaaGreatDoorSM
import Derived.Test.YtgdphjgedhadoaaGreatDoorSD
import Derived.Test.YtgdphjgedhadoaaGreatDoorSI
set_option linter.unusedSimpArgs false
set_option linter.unusedVariables false
set_option linter.unnecessarySimpa false
namespace Go.Proofs.YtgdphjgedhadoaaGreatDoor
open Go.RowKit
attribute [local go_sem ↓] Go.wp_at_zero Go.wp_at_succ

/-- all blocks but g are as they were -/
def KeptG (g : Nat) (w w' : World) : Prop := w.heap.size ≤ w'.heap.size ∧ ∀ k, k < w.heap.size → k ≠ g → w'.heap[k]? = w.heap[k]?
theorem KeptG.alloc (g : Nat) (w : World) (o : Obj) : KeptG g w (w.alloc o) := ⟨by simp, fun k hk _ => Below.heap_alloc _ _ _ hk⟩
theorem KeptG.below {g : Nat} {w a b : World} (h : KeptG g w a) (hb : Below a.heap.size a b) : KeptG g w b := ⟨Nat.le_trans h.1 hb.size, fun k hk hn => (hb.block k (Nat.lt_of_lt_of_le hk h.1)).trans (h.2 k hk hn)⟩
theorem KeptG.set {g : Nat} {w a : World} (h : KeptG g w a) (o : Nat) (u : Value) : KeptG g w (a.setCell ⟨g, o, none⟩ u) := ⟨by simp only [World.size_setCell]; exact h.1, fun k hk hn => (Below.heap_setCell a ⟨g, o, none⟩ u k hn).trans (h.2 k hk hn)⟩
set_option maxRecDepth 100000 in
set_option maxHeartbeats 8000000 in
theorem r22Next_kept (p : ProbD) (x : ProbA) (A : List Int) (g cap : Nat) (w0 w : World) (hE : ProbIn w0 p x) (hV : VarsOk p.vars) (hA : Asg p.vars A) (hg : w0.heap.size ≤ g) (hown : w.ownsRow g 3 1 (.slice (some ⟨g, 0, none⟩) A.length cap) A.length (A.map (Value.int .i64))) (hold : Below w0.heap.size w0 w) :
    Calls Tryz.prog 70 #[probVal p x, .slice (some ⟨g, 0, none⟩) A.length cap] w fun e w' => e = .returned (.bool (!(advN p.vars A).2)) ∧ w'.ownsRow g 3 1 (.slice (some ⟨g, 0, none⟩) A.length cap) A.length ((advN p.vars A).1.map (Value.int .i64)) ∧ Below w0.heap.size w0 w' ∧ KeptG g w w' := by
  have hlA := hA.len
  have hlen := hE.vars.2.1
  have hgl := row_lt hown
  have HA := Lib.hid hE.vars.addr
  have HE := Lib.hid hE.vars
  have HV := Lib.hid hV
  have HAs := Lib.hid hA
  have HOld := Lib.hid hold
  have HO := Lib.hid hown
  have HLA := Lib.hid hlA
  have hz0 := hold.size
  clear hE hV hA hold hown
  simp only [probVal_eq]
  obtain ⟨vs, hard, soft, ds, gs⟩ := p
  obtain ⟨av, cv, ah, ch, ao, co, ad, cd, ag, cg⟩ := x
  simp only at HA HE HV HAs hlen HLA ⊢
  have hA30 : A.length ≤ 1073741824 := by have := HLA.out; omega
  have hlw : IntKind.i64.wrap ((A.length : Int) - 1) = (A.length : Int) - 1 := by rw [IntKind.wrap_i64]; omega
  clear hlA
  go_enter Tryz.func70, Tryz.ntmps70
  go_wp2_with fail
  go_loopw [5] (fun i wr => ∃ c : Nat, i = .int .i64 ((c : Int) - 1) ∧ c ≤ A.length ∧ Hid ((advN (vs.drop c) (A.drop c)).2 = true) ∧ wr.ownsRow g 3 1 (.slice (some ⟨g, 0, none⟩) A.length cap) A.length ((advTo vs A c).map (Value.int .i64)) ∧ Hid (wr.heap[w.heap.size]? = some (.cells #[.slice av vs.length cv, .slice ah hard.length ch, .slice ao soft.length co, .slice ad ds.length cd, .slice ag gs.length cg] 27 (0, 0))) ∧ Below w0.heap.size w0 wr ∧ KeptG g w wr) (fun i _ => (intOf i + 1).toNat)
  case atStart => exact ⟨A.length, by go_num, Nat.le_refl _, by show _ = _; rw [List.drop_of_length_le (by have := HLA.out; omega)]; rfl, by have h := advTo_all HLA.out; rw [← HLA.out] at h; rw [h]; exact HO.out.alloc _, heap_alloc_new' _ _, HOld.out.alloc (by omega) _, KeptG.alloc g w _⟩
  case round =>
    obtain ⟨c, hi, hc, HC, hown, HK, hB, hKG⟩ := hrel
    have HKG := Lib.hid hKG
    clear hKG
    have hgr := row_lt hown
    have HOr := Lib.hid hown
    have HB := Lib.hid hB
    have hKl := lt_of_block HK.out
    have b0 : wr.cell? ⟨w.heap.size, 0, none⟩ = some (.slice av vs.length cv) := by simp [World.cell?, HK.out]
    have hgw : g ≠ w.heap.size := by omega
    have hwg : w.heap.size ≠ g := by omega
    cases c with
    | succ d =>
      obtain rfl := hi.trans (show Value.int .i64 (((d + 1 : Nat) : Int) - 1) = .int .i64 (d : Int) by congr 1; omega)
      clear hi
      have hdA : d < A.length := by omega
      have hdv : d < vs.length := by have := HLA.out; omega
      obtain ⟨b, off, ha⟩ := HA.out.resolve_left (by omega)
      subst ha
      obtain ⟨_, c1, c2, _, _⟩ := HE.out.get rfl hdv
      have hbB := World.block_lt_of_cell? _ _ c1
      simp only at hbB
      have c1 := keeps_of_below hB _ _ c1
      have c2 := keeps_of_below hB _ _ c2
      have hlT := advTo_len HLA.out (d + 1) (by omega)
      have hspl : advTo vs A (d + 1) = A.take d ++ A[d]'hdA :: (advN (vs.drop (d + 1)) (A.drop (d + 1))).1 := keep_split hdA
      have e0 : wr.cell? ⟨g, d, none⟩ = some (.int .i64 (A[d]'hdA)) := by
        rw [hown.cellAt d (by omega), hspl, List.getElem?_map, List.getElem?_append_right (by simp; omega)]
        simp [show d - min d A.length = 0 from by omega]
      have q0 := hown.frozenAt d
      have HSto := Lib.hid (fun (u : Int) => (hown.stored d (.int .i64 u)).1)
      have hgb : g ≠ b := by omega
      have hbg : b ≠ g := by omega
      have HP := Lib.hid (adv_parts HLA.out hdv)
      rw [HC.out, if_pos rfl] at HP
      have hw := width_of_ok (HV.out.ok d hdv)
      obtain ⟨hm1, hx0, hx1⟩ := HAs.out.at' d hdv
      obtain ⟨pw, hpw, hwp, p1, p2⟩ := pow_pack (vs[d]'hdv).width hw.2
      rw [hpw] at hx1 HP
      have HSt := Lib.hid (fun (u : Int) => @set_split A (advN (vs.drop (d + 1)) (A.drop (d + 1))).1 d hdA u)
      have HStop := Lib.hid (adv_stop HLA.out d (by omega))
      have HTo : Hid (advTo vs A d = A.take d ++ (advN (vs.drop d) (A.drop d)).1) := rfl
      have HTo1 : Hid (advTo vs A (d + 1) = A.take (d + 1) ++ (advN (vs.drop (d + 1)) (A.drop (d + 1))).1) := rfl
      have Hspl := Lib.hid hspl
      have hw0 : 0 ≤ (vs[d]'hdv).width := by omega
      have hw8 := hw.2
      have HSet : Hid (∀ u : Int, (wr.setCell ⟨g, d, none⟩ (.int .i64 u)).ownsRow g 3 1 (.slice (some ⟨g, 0, none⟩) A.length cap) A.length (((advTo vs A (d + 1)).set d u).map (Value.int .i64))) := fun u => by
        rw [List.map_set]; exact HSto.out u
      have HKs : Hid (∀ u : Value, (wr.setCell ⟨g, d, none⟩ u).heap[w.heap.size]? = some (.cells #[.slice (some ⟨b, off, none⟩) vs.length cv, .slice ah hard.length ch, .slice ao soft.length co, .slice ad ds.length cd, .slice ag gs.length cg] 27 (0, 0))) := fun u => (Below.heap_setCell wr ⟨g, d, none⟩ u w.heap.size hwg).trans HK.out
      have HBs : Hid (∀ u : Value, Below w0.heap.size w0 (wr.setCell ⟨g, d, none⟩ u)) := fun u => HB.out.setCell hg u
      have HKGs : Hid (∀ u : Value, KeptG g w (wr.setCell ⟨g, d, none⟩ u)) := fun u => HKG.out.set d u
      generalize (vs[d]'hdv).width = width at *
      generalize (vs[d]'hdv).mode = mode at *
      generalize A[d]'hdA = z at *
      clear hlT hB hown hspl hpw hm1 hw HSto
      by_cases hm : mode = 0
      · have HC' : Hid ((advN (vs.drop d) (A.drop d)).2 = true ∧ advTo vs A d = advTo vs A (d + 1)) := by
          rw [if_pos hm] at HP
          exact ⟨by rw [HP.out], by rw [HTo.out, HP.out, Hspl.out]⟩
        subst hm
        clear HC
        go_wp2_with fail
        go_roundw
        case rel => exact ⟨d, by go_num, by omega, HC'.out.1, by rw [HC'.out.2]; exact HOr.out, HK.out, HB.out, HKG.out⟩
        case measure => simp [intOf] <;> omega
      · rw [if_neg hm] at HP
        have hm' := op_ne hm
        clear hm
        by_cases hlt : z + 1 < pw
        · have hd : decide (z + 1 < pw) = true := decide_eq_true hlt
          rw [if_pos hlt] at HP
          have HY : Hid ((advN vs A).2 = false ∧ (advTo vs A (d + 1)).set d (z + 1) = (advN vs A).1) := by
            have h1 := HStop.out (by rw [HP.out])
            refine ⟨by rw [h1], ?_⟩
            rw [h1, HP.out, HTo1.out, HSt.out]
          clear hlt
          go_wp2_with fail
          go_quiet (fail)
          go_wp2_with fail
          go_ret
          refine ⟨by rw [HY.out.1]; rfl, ?_, below_drewN (HBs.out _) _, (HKGs.out _).below (below_drewN (Below.refl _ _) _)⟩
          rw [← HY.out.2]
          exact ownsRow_below (HSet.out (z + 1)) (below_drewN (Below.refl _ _) _)
        · have hd : decide (z + 1 < pw) = false := decide_eq_false hlt
          rw [if_neg hlt] at HP
          have HC' : Hid ((advN (vs.drop d) (A.drop d)).2 = true ∧ advTo vs A d = (advTo vs A (d + 1)).set d 0) := by
            refine ⟨by rw [HP.out], ?_⟩
            rw [HTo.out, HP.out, HTo1.out, HSt.out]
          clear hlt HC
          go_wp2_with fail
          go_quiet (fail)
          go_wp2_with fail
          go_roundw
          case rel => exact ⟨d, by go_num, by omega, HC'.out.1, by
            have h1 := ownsRow_below (HSet.out (z + 1)) (below_drewN (Below.refl _ _) nq)
            have h2 := (h1.stored d (.int .i64 0)).1
            rw [← List.map_set, List.set_set, ← HC'.out.2] at h2
            exact h2, (Below.heap_setCell _ ⟨g, d, none⟩ _ w.heap.size hwg).trans (((below_drewN (Below.refl _ _) nq : Below (wr.setCell ⟨g, d, none⟩ (.int .i64 (z + 1))).heap.size (wr.setCell ⟨g, d, none⟩ (.int .i64 (z + 1))) _).block w.heap.size (by simp only [World.size_setCell]; omega)).trans (HKs.out _)), (below_drewN (HBs.out _) _).setCell hg _, ((HKGs.out _).below (below_drewN (Below.refl _ _) nq)).set _ _⟩
          case measure => simp [intOf] <;> omega
    | zero =>
      subst hi
      have HAdv : Hid ((advN vs A).2 = true ∧ advTo vs A 0 = (advN vs A).1) := ⟨by have := HC.out; simpa using this, by unfold advTo; simp⟩
      clear hB hown
      go_wp2_with fail
      go_ret
      refine ⟨by rw [HAdv.out.1]; rfl, ?_, HB.out, HKG.out⟩
      rw [← HAdv.out.2]
      exact HOr.out
end Go.Proofs.YtgdphjgedhadoaaGreatDoor

/- law22: agrees. -/
namespace Go.Proofs.YtgdphjgedhadoaaGreatDoor
open Go.RowKit
attribute [local go_sem ↓] Go.wp_at_zero Go.wp_at_succ

theorem setsTo_succ (p : ProbD) (m : Nat) : setsTo p (m + 1) = setsTo p m ++ (if agB p m = true then [ascS p.vars p.soft m p.soft.length] else []) := by
  unfold setsTo
  rw [List.range_succ, List.filter_append, List.map_append]
  congr 1
  cases h : agB p m <;> simp [h]
theorem setsTo_len (p : ProbD) (m : Nat) : (setsTo p m).length ≤ m := by
  unfold setsTo
  rw [List.length_map]
  have := List.length_filter_le (agB p) (List.range m)
  rw [List.length_range] at this
  exact this
def pozTo (p : ProbD) (A : List Int) (j : Nat) : Bool := (p.dists.take j).all fun d => posW d.weights (A.getD d.var.toNat 0)
theorem pozTo_succ {p : ProbD} {A : List Int} {j : Nat} (h : j < p.dists.length) : pozTo p A (j + 1) = (pozTo p A j && posW (p.dists[j]'h).weights (A.getD (p.dists[j]'h).var.toNat 0)) := by
  unfold pozTo
  rw [List.take_succ_eq_append_getElem h, List.all_append]
  simp
theorem own_kept {w w' : World} {B : Nat} {e : TypeId} {size : Nat} {v : Value} {n : Nat} {xs : List Value} (h : w.ownsRow B e size v n xs) (hk : ∀ k, v.ownBlock = some k → w'.heap[k]? = w.heap[k]?) : w'.ownsRow B e size v n xs := by
  refine ⟨h.1, ?_⟩
  rcases h.2 with h0 | ⟨g, cap, cur, h1, h2, h3, h4⟩
  · exact Or.inl h0
  · exact Or.inr ⟨g, cap, cur, h1, h2, by rw [hk g (by rw [h1]; rfl)]; exact h3, h4⟩
theorem intsN_append (a b : List Nat) : intsN (a ++ b) = intsN a ++ intsN b := by unfold intsN; rw [List.map_append]
theorem or_bit {s j : Nat} (hj : j < 6) (hs : s < 2 ^ j) : bits .or .i64 (s : Int) (wrap64 (2 ^ j)) = ((s + 2 ^ j : Nat) : Int) := by
  have hc : j = 0 ∨ j = 1 ∨ j = 2 ∨ j = 3 ∨ j = 4 ∨ j = 5 := by omega
  have h32 : 2 ^ j ≤ 32 := by rcases hc with rfl | rfl | rfl | rfl | rfl | rfl <;> decide
  have h2 : (2 : Int) ^ j = ((2 ^ j : Nat) : Int) := by simp
  have hw : wrap64 ((2 : Int) ^ j) = ((2 ^ j : Nat) : Int) := by rw [h2]; exact IntWalk.wrap64_in _ (by omega)
  rw [hw, i64_or _ _ (by omega) (by omega) (by omega) (by omega)]
  unfold orW
  rw [Int.toNat_natCast, Int.toNat_natCast, Nat.or_comm]
  have := Nat.two_pow_add_eq_or_of_lt hs 1
  rw [Nat.mul_one] at this
  rw [← this, Nat.add_comm]
def AgRet (p : ProbD) (w : World) (e : Ending) (w' : World) : Prop := ∃ a c, e = .returned (.slice a (setsTo p (totN p.vars)).length c) ∧ IntsIn w' (intsN (setsTo p (totN p.vars))) a c ∧ Below w.heap.size w w'
set_option maxRecDepth 100000 in
set_option maxHeartbeats 32000000 in
theorem agrees_any (p : ProbD) (x : ProbA) (w : World) (hE : ProbIn w p x) (hs : ProbSmall p) (hp : ProbOk p) (h6 : p.soft.length ≤ 6) (hT : totN p.vars ≤ 1048576) :
    Calls Tryz.prog 35 #[probVal p x] w fun e w' => AgRet p w e w' := by
  have hV := hp.vars
  have hlen := hE.vars.2.1
  have HF0 := Lib.hid (fun W (hW : Below w.heap.size w W) => r22First_any p x W (hE.keep (keeps_of_below hW)) hV)
  have HSh := Lib.hid (fun A aa ca W (hW : Below w.heap.size w W) (hI : IntsIn W A aa ca) => Satisfies_any p x p.hard x.ah x.ch A aa ca W (hE.keep (keeps_of_below hW)) (hE.keep (keeps_of_below hW)).hard hs.hard hI)
  have HSo := Lib.hid (fun e (he : e ∈ p.soft) al cl A aa ca W (hW : Below w.heap.size w W) (hL : ExsIn W [e] al cl) (hI : IntsIn W A aa ca) => Satisfies_any p x [e] al cl A aa ca W (hE.keep (keeps_of_below hW)) hL (fun e' he' => by rw [List.mem_singleton.1 he']; exact hs.soft e he) hI)
  have HN0 := Lib.hid (fun k g cap W0 W (h0 : Below w.heap.size w W0) (hg : W0.heap.size ≤ g) (hown : W.ownsRow g 3 1 (.slice (some ⟨g, 0, none⟩) (nthN p.vars k).length cap) (nthN p.vars k).length ((nthN p.vars k).map (Value.int .i64))) (hW : Below W0.heap.size W0 W) => r22Next_kept p x (nthN p.vars k) g cap W0 W (hE.keep (keeps_of_below h0)) hV (asg_nth hV.ok k) hg hown hW)
  have HT := totN_pos p.vars
  have HAg : Hid (∀ k, agB p k = (allS p.vars p.hard (nthN p.vars k) && pozTo p (nthN p.vars k) p.dists.length)) := fun k => by unfold agB posA pozTo; rw [List.take_length]
  have HPs := Lib.hid (fun A j (h : j < p.dists.length) => pozTo_succ (A := A) h)
  have HP0 : Hid (∀ A, pozTo p A 0 = true) := fun A => rfl
  have HSs := Lib.hid (fun m => setsTo_succ p m)
  have HSl := Lib.hid (fun m => setsTo_len p m)
  have HDv := Lib.hid (fun i (h : i < p.dists.length) => (hp.dists i h).var)
  have HSI := Lib.hid hE.soft
  have HDI := Lib.hid hE.dists
  have HS0 : Hid (setsTo p 0 = []) := rfl
  generalize agB p = AG at HAg HSs
  clear hE hs hp hV
  simp only [probVal_eq] at HF0 HSh HSo HN0 ⊢
  generalize pozTo p = PT at *
  obtain ⟨vs, hard, soft, ds, gs⟩ := p
  obtain ⟨av, cv, ah, ch, ao, co, ad, cd, ag, cg⟩ := x
  simp only at HF0 HSh HSo HN0 HT hT HAg HPs HDv HSI HDI HSs h6 hlen ⊢
  have HF := Lib.hid (HF0.out (w.alloc (.cells #[.slice av vs.length cv, .slice ah hard.length ch, .slice ao soft.length co, .slice ad ds.length cd, .slice ag gs.length cg] 27)) ((Below.refl _ _).alloc (Nat.le_refl _) _))
  clear HF0
  go_enter Tryz.func35, Tryz.ntmps35
  go_wp2_with fail
  refine HF.out.mono ?_
  rintro e w1 ⟨g, hg, rfl, hown, hb1⟩
  simp only [World.size_alloc] at hg hb1
  have HB1 := Lib.hid hb1
  have HO1 := Lib.hid hown
  have hgl := row_lt hown
  have hz1 := hb1.size
  simp only [World.size_alloc] at hz1
  clear hown hb1
  go_wp2_with fail
  go_loopg [3, 5, 6, 8, 9, 10, 11] (totN vs) (fun gk v more _ _ _ _ _ wr => ∃ q : Nat, q + gk = totN vs ∧ more = .bool (decide (q < totN vs)) ∧ wr.ownsRow w1.heap.size 3 1 v (setsTo ⟨vs, hard, soft, ds, gs⟩ q).length ((intsN (setsTo ⟨vs, hard, soft, ds, gs⟩ q)).map (Value.int .i64)) ∧ (q < totN vs → wr.ownsRow g 3 1 (.slice (some ⟨g, 0, none⟩) vs.length vs.length) vs.length ((nthN vs q).map (Value.int .i64))) ∧ Below (w.heap.size + 1) (w.alloc (.cells #[.slice av vs.length cv, .slice ah hard.length ch, .slice ao soft.length co, .slice ad ds.length cd, .slice ag gs.length cg] 27)) wr ∧ w1.heap.size ≤ wr.heap.size)
  case atStart => exact ⟨0, by omega, by rw [decide_eq_true HT], World.ownsRow_nil _ _ _ _, fun _ => HO1.out, HB1.out, Nat.le_refl _⟩
  case round =>
    obtain ⟨q, hqg, rfl, hout, hown, hB, hz⟩ := hrel
    have HB := Lib.hid hB
    have HBw := Lib.hid (boxW _ hB)
    have HOut := Lib.hid hout
    have hsl := HSl.out q
    by_cases hq : q < totN vs
    · have HO := Lib.hid (hown hq)
      rw [decide_eq_true hq]
      ((try clear b0 b1 b2 b3 b4); have b0 := box_cell HB.out 0; have b1 := box_cell HB.out 1; have b2 := box_cell HB.out 2; have b3 := box_cell HB.out 3; have b4 := box_cell HB.out 4; (try simp at b0 b1 b2 b3 b4))
      have hnl : (nthN vs q).length = vs.length := nthN_len vs q
      have hI : IntsIn wr (nthN vs q) (some ⟨g, 0, none⟩) vs.length := ints_row (by rw [hnl]; exact HO.out) (by omega)
      have HI := Lib.hid hI
      have HS := Lib.hid (HSh.out (nthN vs q) (some ⟨g, 0, none⟩) vs.length wr HBw.out hI)
      rw [hnl] at HS
      generalize hok0 : allS vs hard (nthN vs q) = ok0 at HS
      have HOk0 := Lib.hid hok0
      clear hown hB hI hok0 hout
      go_wp2_with fail
      refine HS.out.mono ?_
      rintro e w2 ⟨rfl, hb2⟩
      have HB2 := Lib.hid (HB.out.trans (hb2.mono (by have := HB.out.size; simpa using this)))
      have Hb2 := Lib.hid hb2
      ((try clear b0 b1 b2 b3 b4); have b0 := box_cell HB2.out 0; have b1 := box_cell HB2.out 1; have b2 := box_cell HB2.out 2; have b3 := box_cell HB2.out 3; have b4 := box_cell HB2.out 4; (try simp at b0 b1 b2 b3 b4))
      have hz2 := hb2.size
      clear hb2
      go_wp2_with fail
      have HO2 := Lib.hid (ownsRow_below HO.out Hb2.out)
      have HOut2 := Lib.hid (ownsRow_below HOut.out Hb2.out)
      have HI2 := Lib.hid (HI.out.keep (keeps_of_below Hb2.out))
      have hlw2 : w.heap.size < w2.heap.size := by have := HB2.out.size; simp at this; omega
      have hgw2 : g < w2.heap.size := by omega
      have HDec : Hid ((!(decide ((q + 1) % totN vs = 0))) = decide (q + 1 < totN vs)) := by
        show _ = _
        by_cases h : q + 1 < totN vs
        · rw [Nat.mod_eq_of_lt h]; simp [h]
        · rw [show q + 1 = totN vs from by omega, Nat.mod_self]; simp
      clear HB HOut HO HI HS
      obtain ⟨wo, rfl⟩ : ∃ wo : World, wo = wr := ⟨_, rfl⟩
      go_loopw [26, 6, 8] (fun i o _ wd => ∃ j : Nat, i = .int .i64 j ∧ j ≤ ds.length ∧ o = .bool (ok0 && PT (nthN vs q) j) ∧ Below w2.heap.size w2 wd) (fun i _ _ _ => ds.length - (intOf i).toNat)
      case atStart => exact ⟨0, rfl, Nat.zero_le _, by rw [HP0.out, Bool.and_true], Below.refl _ _⟩
      case round =>
        obtain ⟨j, rfl, hj, rfl, hBd⟩ := hrel
        have HBd := Lib.hid hBd
        have HBwd := Lib.hid ((boxW _ HB2.out).trans (hBd.mono (boxW _ HB2.out).size))
        have hzd := hBd.size
        clear hBd
        by_cases hlt : j < ds.length
        · obtain ⟨db, dof, hda⟩ := HDI.out.addr.resolve_left (by omega)
          obtain ⟨hv0, hvx, hvs, _⟩ := HDv.out j hlt
          have HPx := Lib.hid (HPs.out (nthN vs q) j hlt)
          subst hda
          obtain ⟨aw, cw, g0, g1, hW⟩ := HDI.out.get rfl hlt
          have kk := keeps_of_below HBwd.out
          have c0 := kk _ _ g0
          have c1 := kk _ _ g1
          have HW := Lib.hid (hW.keep kk)
          generalize (ds[j]'hlt) = d at c0 c1 HW HPx hv0 hvs
          obtain ⟨var, ws⟩ := d
          simp only at c0 c1 HW HPx hv0 hvs
          obtain ⟨iv, rfl⟩ := Int.eq_ofNat_of_zero_le hv0
          have hiv : iv < vs.length := by have := (List.getElem?_eq_some_iff.1 hvs).1; simpa using this
          have hivl : iv < (nthN vs q).length := by rw [hnl]; exact hiv
          have ca : wr.cell? ⟨g, iv, none⟩ = some (.int .i64 ((nthN vs q)[iv]'hivl)) := by
            have h := keeps_of_below HBd.out _ _ (HI2.out.get rfl hivl)
            rw [Nat.zero_add, getD_at hivl] at h
            exact h
          have HPx2 : Hid (PT (nthN vs q) (j + 1) = (PT (nthN vs q) j && posW ws ((nthN vs q)[iv]'hivl))) := by
            show _ = _
            rw [HPx.out, Int.toNat_natCast, getD_at hivl]
          generalize (nthN vs q)[iv]'hivl = xv at ca HPx2
          have hng : (0 : Int) ≤ (iv : Int) := by omega
          have hkw : IntKind.i64.wrap ((j : Int) + 1) = (j : Int) + 1 := by rw [IntKind.wrap_i64]; have := HDI.out.2.1; omega
          clear g0 g1 hW kk HPx hvs
          go_wp2_with fail
          generalize hWA : wr.alloc (.cells #[.int .i64 (iv : Int), .slice aw ws.length cw] 93) = WA
          have hzA : WA.heap.size = wr.heap.size + 1 := by rw [← hWA]; simp
          have HBA : Hid (Below wr.heap.size wr WA) := by show Below _ _ _; rw [← hWA]; exact (by repeat (first | assumption | exact Below.refl _ _ | refine Below.drew ?_ | refine below_drewN ?_ _ | refine Below.alloc ?_ (by first | omega | (simp only [World.size_alloc, World.size_setCell, World.size_drew, World.heap_drewN] <;> omega) | (simp <;> omega)) _ | refine Below.setCell ?_ (by first | omega | (simp only [World.size_alloc, World.size_setCell, World.size_drew, World.heap_drewN] <;> omega) | (simp <;> omega)) _))
          have HkA : WA.heap[wr.heap.size]? = some (.cells #[.int .i64 (iv : Int), .slice aw ws.length cw] 93 (0, 0)) := by rw [← hWA]; exact heap_alloc_new' _ _
          clear hWA
          have x0 : WA.cell? ⟨wr.heap.size, 0, none⟩ = some (.int .i64 (iv : Int)) := by simp [World.cell?, HkA]
          have x1 : WA.cell? ⟨wr.heap.size, 1, none⟩ = some (.slice aw ws.length cw) := by simp [World.cell?, HkA]
          have d0 : ∀ gg : Grow WA.heap.size WA, gg.w'.cell? _ = _ := Grow.old x0 (Nat.le_refl _)
          have d1 : ∀ gg : Grow WA.heap.size WA, gg.w'.cell? _ = _ := Grow.old x1 (Nat.le_refl _)
          have d2 : ∀ gg : Grow WA.heap.size WA, gg.w'.cell? _ = _ := Grow.old (keeps_of_below HBA.out _ _ ca) (Nat.le_refl _)
          have HPo := Lib.hid (fun W (hW : Below WA.heap.size WA W) => Positive_any ws aw cw xv W ((HW.out.keep (keeps_of_below HBA.out)).keep (keeps_of_below hW)))
          cases hcur : (ok0 && PT (nthN vs q) j)
          · have HNx : Hid ((ok0 && PT (nthN vs q) (j + 1)) = false) := by show _ = _; rw [HPx2.out, ← Bool.and_assoc, hcur]; rfl
            clear hcur
            (refine wp_region_grow (B := WA.heap.size) (w0 := WA) (by kernel_rfl) (by kernel_rfl) (by repeat (first | assumption | exact Below.refl _ _ | refine Below.drew ?_ | refine below_drewN ?_ _ | refine Below.alloc ?_ (by first | omega | (simp only [World.size_alloc, World.size_setCell, World.size_drew, World.heap_drewN] <;> omega) | (simp <;> omega)) _ | refine Below.setCell ?_ (by first | omega | (simp only [World.size_alloc, World.size_setCell, World.size_drew, World.heap_drewN] <;> omega) | (simp <;> omega)) _)) ?_; (repeat (go_big_quiet_step (fail))); refine wpQuiet_nil ?_; intro wg hCg; have hbg := grow_out hCg; clear hCg)
            go_wp2_with fail
            go_roundw
            case rel => exact ⟨j + 1, by go_num, by omega, by rw [HNx.out], HBd.out.trans ((HBA.out.trans ((by assumption : Below WA.heap.size WA _).mono HBA.out.size)).mono hzd)⟩
            case measure => (simp [intOf]; try omega)
          · have HNx : Hid ((ok0 && PT (nthN vs q) (j + 1)) = posW ws xv) := by show _ = _; rw [HPx2.out, ← Bool.and_assoc, hcur]; rfl
            clear hcur
            (refine wp_region_grow (B := WA.heap.size) (w0 := WA) (by kernel_rfl) (by kernel_rfl) (by repeat (first | assumption | exact Below.refl _ _ | refine Below.drew ?_ | refine below_drewN ?_ _ | refine Below.alloc ?_ (by first | omega | (simp only [World.size_alloc, World.size_setCell, World.size_drew, World.heap_drewN] <;> omega) | (simp <;> omega)) _ | refine Below.setCell ?_ (by first | omega | (simp only [World.size_alloc, World.size_setCell, World.size_drew, World.heap_drewN] <;> omega) | (simp <;> omega)) _)) ?_; (repeat (go_big_quiet_step ((go_at_call 72; with_reducible exact grow_callS _ (HPo.out _ (Grow.h _)))))); refine wpQuiet_nil ?_; intro wg hCg; have hbg := grow_out hCg; clear hCg)
            go_wp2_with fail
            go_roundw
            case rel => exact ⟨j + 1, by go_num, by omega, by rw [HNx.out], HBd.out.trans ((HBA.out.trans ((by assumption : Below WA.heap.size WA _).mono HBA.out.size)).mono hzd)⟩
            case measure => (simp [intOf]; try omega)
        · rename World => w3
          obtain rfl : j = ds.length := by omega
          have hag : (ok0 && PT (nthN vs q) ds.length) = AG q := by rw [HAg.out q, HOk0.out]
          rw [hag]
          have HB3 := Lib.hid (HB2.out.trans (HBd.out.mono (by omega)))
          have HO3 := Lib.hid (ownsRow_below HO2.out HBd.out)
          have HOut3 := Lib.hid (ownsRow_below HOut2.out HBd.out)
          have HI3 := Lib.hid (HI2.out.keep (keeps_of_below HBd.out))
          have HSq := Lib.hid (HSs.out q)
          clear hag HOk0
          cases hAG : AG q
          · have HSn : Hid (setsTo ⟨vs, hard, soft, ds, gs⟩ (q + 1) = setsTo ⟨vs, hard, soft, ds, gs⟩ q) := by show _ = _; rw [HSq.out, hAG]; simp
            have HAN := HO3
            have HBN := HB3
            have HOutN := HOut3
            rw [← HSn.out] at HOutN
            clear hAG
            have HN2 := Lib.hid (HN0.out q g vs.length (w.alloc (.cells #[.slice av vs.length cv, .slice ah hard.length ch, .slice ao soft.length co, .slice ad ds.length cd, .slice ag gs.length cg] 27)) w3 ((Below.refl _ _).alloc (Nat.le_refl _) _) (by simpa using hg) (by rw [hnl]; exact HAN.out) (by simpa using HBN.out))
            rw [hnl, advN_nth] at HN2
            simp only at HN2
            rw [HDec.out] at HN2
            ((try clear b0 b1 b2 b3 b4); have b0 := box_cell HBN.out 0; have b1 := box_cell HBN.out 1; have b2 := box_cell HBN.out 2; have b3 := box_cell HBN.out 3; have b4 := box_cell HBN.out 4; (try simp at b0 b1 b2 b3 b4))
            go_wp2_with fail
            refine HN2.out.mono ?_
            rintro e wx ⟨rfl, hox, hbx, hkx⟩
            simp only [World.size_alloc] at hbx
            have HOx := Lib.hid hox
            have HBx := Lib.hid hbx
            have HOutx := Lib.hid (own_kept HOutN.out (fun k hk => hkx.2 k (HOutN.out.lt k hk).2 (by have := (HOutN.out.lt k hk).1; omega)))
            have hzx := hkx.1
            clear hox hbx hkx
            go_wp2_with fail
            go_roundg (totN vs - (q + 1))
            case measure => omega
            case rel => exact ⟨q + 1, by omega, rfl, HOutx.out, fun _ => HOx.out, HBx.out, by omega⟩
          · have HSn : Hid (setsTo ⟨vs, hard, soft, ds, gs⟩ (q + 1) = setsTo ⟨vs, hard, soft, ds, gs⟩ q ++ [ascS vs soft q soft.length]) := by show _ = _; rw [HSq.out, hAG]; simp
            clear hAG
            ((try clear b0 b1 b2 b3 b4); have b0 := box_cell HB3.out 0; have b1 := box_cell HB3.out 1; have b2 := box_cell HB3.out 2; have b3 := box_cell HB3.out 3; have b4 := box_cell HB3.out 4; (try simp at b0 b1 b2 b3 b4))
            go_wp2_with fail
            have hz3 : w2.heap.size ≤ w3.heap.size := HBd.out.size
            go_loopw [47, 9, 10, 11] (fun i st _ _ wd => ∃ j : Nat, i = .int .i64 j ∧ j ≤ soft.length ∧ st = .int .i64 (ascS vs soft q j : Nat) ∧ Below w3.heap.size w3 wd) (fun i _ _ _ _ => soft.length - (intOf i).toNat)
            case atStart => exact ⟨0, rfl, Nat.zero_le _, rfl, Below.refl _ _⟩
            case round =>
              obtain ⟨j, rfl, hj, rfl, hBe⟩ := hrel
              have HBe := Lib.hid hBe
              have HBpe := Lib.hid (HB3.out.trans (hBe.mono (by omega)))
              have HBwe := Lib.hid (boxW _ HBpe.out)
              have hze := hBe.size
              clear hBe
              by_cases hlt2 : j < soft.length
              · ((try clear b0 b1 b2 b3 b4); have b0 := box_cell HBpe.out 0; have b1 := box_cell HBpe.out 1; have b2 := box_cell HBpe.out 2; have b3 := box_cell HBpe.out 3; have b4 := box_cell HBpe.out 4; (try simp at b0 b1 b2 b3 b4))
                obtain ⟨sb, so, hsb⟩ := HSI.out.addr.resolve_left (by omega)
                subst hsb
                obtain ⟨ea, ec, g0, g1, g2, g3, hX⟩ := HSI.out.get rfl hlt2
                have kk := keeps_of_below HBwe.out
                have c0 := kk _ _ g0
                have c1 := kk _ _ g1
                have c2 := kk _ _ g2
                have c3 := kk _ _ g3
                have HX := Lib.hid (hX.keep kk)
                have HSc := Lib.hid (HSo.out _ (List.getElem_mem hlt2))
                have hsat : satB vs soft j q = allS vs [soft[j]'hlt2] (nthN vs q) := by unfold satB; rw [List.getElem?_eq_getElem hlt2]
                have HSat := Lib.hid hsat
                generalize (soft[j]'hlt2) = e at c0 c1 c2 c3 HX HSc HSat
                have hBE : Below wr.heap.size wr ((wr.alloc (.cells #[.int .i64 e.op, .int .i64 e.n, .string e.name, .slice ea e.args.length ec] 57)).alloc (.cells #[.int .i64 e.op, .int .i64 e.n, .string e.name, .slice ea e.args.length ec] 57)) := ((Below.refl _ _).alloc (Nat.le_refl _) _).alloc (by simp) _
                have hkE : ((wr.alloc (.cells #[.int .i64 e.op, .int .i64 e.n, .string e.name, .slice ea e.args.length ec] 57)).alloc (.cells #[.int .i64 e.op, .int .i64 e.n, .string e.name, .slice ea e.args.length ec] 57)).heap[wr.heap.size + 1]? = some (.cells #[.int .i64 e.op, .int .i64 e.n, .string e.name, .slice ea e.args.length ec] 57 (0, 0)) := heap_alloc_at _ _ _ (by simp)
                have HC := Lib.hid (HSc.out (some ⟨wr.heap.size + 1, 0, none⟩) 1 (nthN vs q) (some ⟨g, 0, none⟩) vs.length ((wr.alloc (.cells #[.int .i64 e.op, .int .i64 e.n, .string e.name, .slice ea e.args.length ec] 57)).alloc (.cells #[.int .i64 e.op, .int .i64 e.n, .string e.name, .slice ea e.args.length ec] 57)) (HBwe.out.trans (hBE.mono HBwe.out.size)) (exs_blk (by exact hkE) (row1 (HX.out.keep (keeps_of_below hBE))) (by simp)) ((HI3.out.keep (keeps_of_below HBe.out)).keep (keeps_of_below hBE)))
                rw [hnl, ← HSat.out] at HC
                simp only [List.length_cons, List.length_nil, Nat.zero_add] at HC
                have hwl : w.heap.size < wr.heap.size := by omega
                have a0 : ∀ o, (wr.alloc o).cell? ⟨w.heap.size, 0, none⟩ = _ := fun o => (World.cell?_alloc_lt _ _ _ hwl).trans b0
                have a1 : ∀ o, (wr.alloc o).cell? ⟨w.heap.size, 1, none⟩ = _ := fun o => (World.cell?_alloc_lt _ _ _ hwl).trans b1
                have a2 : ∀ o, (wr.alloc o).cell? ⟨w.heap.size, 2, none⟩ = _ := fun o => (World.cell?_alloc_lt _ _ _ hwl).trans b2
                have a3 : ∀ o, (wr.alloc o).cell? ⟨w.heap.size, 3, none⟩ = _ := fun o => (World.cell?_alloc_lt _ _ _ hwl).trans b3
                have a4 : ∀ o, (wr.alloc o).cell? ⟨w.heap.size, 4, none⟩ = _ := fun o => (World.cell?_alloc_lt _ _ _ hwl).trans b4
                have hj6 : j < 6 := by omega
                have hkw : IntKind.i64.wrap ((j : Int) + 1) = (j : Int) + 1 := by rw [IntKind.wrap_i64]; omega
                have hal := asc_lt vs soft q j
                have HAs : Hid (ascS vs soft q (j + 1) = ascS vs soft q j + if satB vs soft j q = true then 2 ^ j else 0) := rfl
                generalize ascS vs soft q j = s0 at hal HAs
                clear g0 g1 g2 g3 hX kk hsat hkE
                have HBE := Lib.hid hBE
                clear hBE
                cases hsb2 : satB vs soft j q
                · rw [hsb2] at HC HAs
                  clear hsb2
                  go_wp2_with (go_at_call 71; (with_reducible refine HC.out.mono ?_); rintro r w5 ⟨rfl, hb5⟩)
                  go_roundw
                  case rel => exact ⟨j + 1, by go_num, by omega, (show _ = _ by rw [HAs.out]; simp), HBe.out.trans ((HBE.out.trans (hb5.mono HBE.out.size)).mono hze)⟩
                  case measure => (simp [intOf]; try omega)
                · rw [hsb2] at HC HAs
                  clear hsb2
                  go_wp2_with (go_at_call 71; (with_reducible refine HC.out.mono ?_); rintro r w5 ⟨rfl, hb5⟩)
                  have hor := or_bit hj6 hal
                  go_roundw
                  case rel => exact ⟨j + 1, by go_num, by omega, (show _ = _ by rw [HAs.out, hor]; simp), HBe.out.trans ((HBE.out.trans (hb5.mono HBE.out.size)).mono hze)⟩
                  case measure => (simp [intOf]; try omega)
              · rename World => w4
                obtain rfl : j = soft.length := by omega
                have HO4 := Lib.hid (ownsRow_below HO3.out HBe.out)
                have HOut4 := Lib.hid (ownsRow_below HOut3.out HBe.out)
                obtain ⟨va, vc, rfl, _⟩ := slice_of_own HOut4.out (by omega)
                have hvl : (intsN (setsTo ⟨vs, hard, soft, ds, gs⟩ q)).length = (setsTo ⟨vs, hard, soft, ds, gs⟩ q).length := intsN_len _
                go_wp2_with (at_builtin; go_must (refine own_appx elemI _ rfl (.tmp 62) (.tmp 64) rfl w1.heap.size _ (setsTo ⟨vs, hard, soft, ds, gs⟩ q).length _ rfl HOut4.out [.int .i64 (ascS vs soft q soft.length : Nat)] 1 _ _ rfl (by simp [Value.oneCell']) rfl rfl (by omega) (by omega) (by omega) ?_))
                intro gx capx w5 ho5 hg5 hat5
                have hgx : g ≠ gx := by
                  rcases hat5 with h | h
                  · have := (HOut4.out.lt gx h).1; omega
                  · omega
                have HAN : Hid (w5.ownsRow g 3 1 (.slice (some ⟨g, 0, none⟩) vs.length vs.length) vs.length ((nthN vs q).map (Value.int .i64))) := own_kept HO4.out (fun k hk => by
                  have hk' : g = k := by simpa [Value.ownBlock] using hk
                  subst hk'
                  refine (hg5.block g (by simp; omega) (fun h => ?_)).trans (Below.heap_alloc _ _ _ (by omega))
                  have := (HOut4.out.lt g h.symm).1
                  omega)
                have HBN := Lib.hid (Below.grown (B := w.heap.size + 1) (HBpe.out.alloc (by omega) _) hg5 (by simp; omega) (fun k hk => by have := (HOut4.out.lt k hk).1; omega))
                have HOutN : Hid (w5.ownsRow w1.heap.size 3 1 (.slice (some ⟨gx, 0, none⟩) ((setsTo ⟨vs, hard, soft, ds, gs⟩ q).length + 1) capx) (setsTo ⟨vs, hard, soft, ds, gs⟩ (q + 1)).length ((intsN (setsTo ⟨vs, hard, soft, ds, gs⟩ (q + 1))).map (Value.int .i64))) := by
                  show World.ownsRow _ _ _ _ _ _ _
                  rw [HSn.out, List.length_append, intsN_append, List.map_append]
                  exact ho5
                have hz5 := hg5.size
                simp only [World.size_alloc] at hz5
                clear ho5 hg5 hat5
                have HN2 := Lib.hid (HN0.out q g vs.length (w.alloc (.cells #[.slice av vs.length cv, .slice ah hard.length ch, .slice ao soft.length co, .slice ad ds.length cd, .slice ag gs.length cg] 27)) w5 ((Below.refl _ _).alloc (Nat.le_refl _) _) (by simpa using hg) (by rw [hnl]; exact HAN.out) (by simpa using HBN.out))
                rw [hnl, advN_nth] at HN2
                simp only at HN2
                rw [HDec.out] at HN2
                ((try clear b0 b1 b2 b3 b4); have b0 := box_cell HBN.out 0; have b1 := box_cell HBN.out 1; have b2 := box_cell HBN.out 2; have b3 := box_cell HBN.out 3; have b4 := box_cell HBN.out 4; (try simp at b0 b1 b2 b3 b4))
                go_wp2_with fail
                refine HN2.out.mono ?_
                rintro e wx ⟨rfl, hox, hbx, hkx⟩
                simp only [World.size_alloc] at hbx
                have HOx := Lib.hid hox
                have HBx := Lib.hid hbx
                have HOutx := Lib.hid (own_kept HOutN.out (fun k hk => hkx.2 k (HOutN.out.lt k hk).2 (by have := (HOutN.out.lt k hk).1; omega)))
                have hzx := hkx.1
                clear hox hbx hkx
                go_wp2_with fail
                go_roundg (totN vs - (q + 1))
                case measure => omega
                case rel => exact ⟨q + 1, by omega, rfl, HOutx.out, fun _ => HOx.out, HBx.out, by omega⟩
    · rw [decide_eq_false hq]
      obtain rfl : q = totN vs := by omega
      clear hown hB
      go_wp2_with fail
      go_ret
      obtain ⟨fa, fc, hfv, hfI⟩ := ints_of_own (l := intsN (setsTo ⟨vs, hard, soft, ds, gs⟩ (totN vs))) (by rw [intsN_len]; exact HOut.out) (by rw [intsN_len]; omega)
      exact ⟨fa, fc, by rw [hfv, intsN_len]; rfl, hfI, HBw.out⟩
end Go.Proofs.YtgdphjgedhadoaaGreatDoor

/- law22: SoftGreatest. -/
namespace Go.Proofs.YtgdphjgedhadoaaGreatDoor
open Go.RowKit
attribute [local go_sem ↓] Go.wp_at_zero Go.wp_at_succ

theorem sumP_take {L : List Nat} (hL : L.Pairwise (· < ·)) : ∀ k (h : k < L.length), sumP (L.take k) < 2 ^ (L[k]'h) := by
  intro k
  induction k with
  | zero => intro h; exact Nat.pow_pos (by omega)
  | succ k ih =>
    intro h
    have h1 := ih (by omega)
    have h2 : L[k]'(by omega) < L[k + 1]'h := List.pairwise_iff_getElem.1 hL k (k + 1) (by omega) h (by omega)
    have h3 : sumP (L.take (k + 1)) = sumP (L.take k) + 2 ^ (L[k]'(by omega)) := by
      rw [List.take_succ_eq_append_getElem (by omega), sumP_append, sumP_one]
    have h4 : 2 ^ (L[k]'(by omega) + 1) ≤ 2 ^ (L[k + 1]'h) := Nat.pow_le_pow_right (by omega) h2
    rw [Nat.pow_succ] at h4
    omega
set_option maxRecDepth 100000 in
set_option maxHeartbeats 16000000 in
theorem SoftGreatest_any (p : ProbD) (x : ProbA) (w : World) (hE : ProbIn w p x) (hs : ProbSmall p) (hd : p.dists.length ≤ 1048576) (hG : Glob w) :
    Calls Tryz.prog 9 #[probVal p x] w fun r w' => r = .returned (.bool true) ∧ Below w.heap.size w w' := by
  have HSm0 := Lib.hid (fun W (hW : Below w.heap.size w W) => small_any p x W (hE.keep (keeps_of_below hW)) hs)
  have HV0 := Lib.hid (fun W (hW : Below w.heap.size w W) => r14Valid_any p x W (hE.keep (keeps_of_below hW)) hs)
  have HAw := Lib.hid (fun W (hW : Below w.heap.size w W) => awake22_any W (hG.below hW))
  have HK0 := Lib.hid (fun (h : SmallOk p) W (hW : Below w.heap.size w W) => Kept_any p x W (hE.keep (keeps_of_below hW)) hs (hG.below hW) h.bits hd (by have := h.hard; omega) (by have := h.soft; omega) (fun hp => supp_rok hp))
  have HA0 := Lib.hid (fun (h : SmallOk p) (hp : ProbOk p) W (hW : Below w.heap.size w W) => agrees_any p x W (hE.keep (keeps_of_below hW)) hs hp h.soft hp.vars.tot)
  have HKR : Hid (∀ w0 r w', KeptRet p w0 r w' → ∃ a cap, r = .returned (.tuple #[.slice a (keptI p).length cap, .int .i64 (keptErr p)]) ∧ IntsIn w' (keptI p) a cap ∧ Below w0.heap.size w0 w') := fun _ _ _ h => h
  have HAR : Hid (∀ w0 r w', AgRet p w0 r w' → ∃ a c, r = .returned (.slice a (setsTo p (totN p.vars)).length c) ∧ IntsIn w' (intsN (setsTo p (totN p.vars))) a c ∧ Below w0.heap.size w0 w') := fun _ _ _ h => h
  have HGp := Lib.hid (fun (hp : ProbOk p) => great_plain hp)
  have h6 : ∀ h : SmallOk p, p.soft.length ≤ 6 := fun h => h.soft
  clear hE hs hG hd
  generalize setsTo p (totN p.vars) = SL at HAR HGp
  generalize keptI p = LI at HKR HGp
  generalize keptErr p = err at HKR HGp
  generalize KeptRet p = KR at HK0 HKR
  generalize AgRet p = AR at HA0 HAR
  simp only [probVal_eq] at HSm0 HV0 HK0 HA0 ⊢
  obtain ⟨vs, hard, soft, ds, gs⟩ := p
  obtain ⟨av, cv, ah, ch, ao, co, ad, cd, ag, cg⟩ := x
  simp only at HSm0 HV0 HK0 HA0 HGp h6 ⊢
  have HSm := Lib.hid (HSm0.out (w.alloc (.cells #[.slice av vs.length cv, .slice ah hard.length ch, .slice ao soft.length co, .slice ad ds.length cd, .slice ag gs.length cg] 27)) ((Below.refl _ _).alloc (Nat.le_refl _) _))
  clear HSm0
  go_enter Tryz.func9, Tryz.ntmps9
  go_wp2_with fail
  refine HSm.out.mono ?_
  rintro r w1 ⟨⟨b, rfl, hbf⟩, hb1⟩
  simp only [World.size_alloc] at hb1
  have HB1 := Lib.hid hb1
  have hz1 := hb1.size
  simp only [World.size_alloc] at hz1
  ((try clear b0 b1 b2 b3 b4); have b0 := box_cell HB1.out 0; have b1 := box_cell HB1.out 1; have b2 := box_cell HB1.out 2; have b3 := box_cell HB1.out 3; have b4 := box_cell HB1.out 4; (try simp at b0 b1 b2 b3 b4))
  clear hb1
  cases b
  · clear hbf
    go_wp2_with fail
    refine (HAw.out w1 (boxW _ HB1.out)).mono ?_
    rintro r wz ⟨rfl, hbz⟩
    have HBz : Hid (Below w.heap.size w wz) := (boxW _ HB1.out).trans (hbz.mono (boxW _ HB1.out).size)
    clear hbz
    go_wp2_with fail
    go_ret
    exact ⟨rfl, HBz.out⟩
  · have HFo := Lib.hid (hbf rfl)
    clear hbf
    have hs6 := h6 HFo.out
    by_cases hp : ProbOk ⟨vs, hard, soft, ds, gs⟩
    · have HVp := Lib.hid (errT (HV0.out w1 (boxW _ HB1.out)) hp)
      have HK := Lib.hid (HK0.out HFo.out)
      have HA := Lib.hid (HA0.out HFo.out hp)
      have HG2 := Lib.hid (HGp.out hp)
      clear hp HV0 HK0 HA0 HGp
      go_wp2_with fail
      refine HVp.out.mono ?_
      rintro r w2 ⟨rfl, hb2⟩
      have HB2 := Lib.hid (HB1.out.trans (hb2.mono hz1))
      have hz2 := HB2.out.size
      simp only [World.size_alloc] at hz2
      ((try clear b0 b1 b2 b3 b4); have b0 := box_cell HB2.out 0; have b1 := box_cell HB2.out 1; have b2 := box_cell HB2.out 2; have b3 := box_cell HB2.out 3; have b4 := box_cell HB2.out 4; (try simp at b0 b1 b2 b3 b4))
      clear hb2
      go_wp2_with fail
      refine (HK.out w2 (boxW _ HB2.out)).mono ?_
      rintro r w3 hr
      obtain ⟨la, lc, rfl, hIL, hb3⟩ := HKR.out _ _ _ hr
      have HIL := Lib.hid hIL
      have HB3 := Lib.hid (HB2.out.trans (hb3.mono hz2))
      have hz3 := HB3.out.size
      simp only [World.size_alloc] at hz3
      ((try clear b0 b1 b2 b3 b4); have b0 := box_cell HB3.out 0; have b1 := box_cell HB3.out 1; have b2 := box_cell HB3.out 2; have b3 := box_cell HB3.out 3; have b4 := box_cell HB3.out 4; (try simp at b0 b1 b2 b3 b4))
      clear hb3 hr hIL
      go_wp2_with fail
      refine (HA.out w3 (boxW _ HB3.out)).mono ?_
      rintro r w4 hr
      obtain ⟨sa, sc, rfl, hIS, hb4⟩ := HAR.out _ _ _ hr
      have HIS := Lib.hid hIS
      have HIL4 := Lib.hid (HIL.out.keep (keeps_of_below hb4))
      have HB4 := Lib.hid (HB3.out.trans (hb4.mono hz3))
      have hz4 := HB4.out.size
      simp only [World.size_alloc] at hz4
      clear hb4 hr hIS HIL HKR HAR HK HA
      by_cases hSL : SL = []
      · obtain ⟨rfl, rfl⟩ := HG2.out.1 hSL
        subst hSL
        ((try clear b0 b1 b2 b3 b4); have b0 := box_cell HB4.out 0; have b1 := box_cell HB4.out 1; have b2 := box_cell HB4.out 2; have b3 := box_cell HB4.out 3; have b4 := box_cell HB4.out 4; (try simp at b0 b1 b2 b3 b4))
        go_wp2_with fail
        refine (HAw.out w4 (boxW _ HB4.out)).mono ?_
        rintro r wz ⟨rfl, hbz⟩
        have HBz : Hid (Below w.heap.size w wz) := (boxW _ HB4.out).trans (hbz.mono (boxW _ HB4.out).size)
        clear hbz
        go_wp2_with fail
        go_ret
        exact ⟨rfl, HBz.out⟩
      · obtain ⟨rfl, L, rfl, hPw, hLt, hMax⟩ := HG2.out.2 hSL
        have hsl : 0 < SL.length := List.length_pos_iff.2 hSL
        have HPw := Lib.hid hPw
        have HLt := Lib.hid hLt
        have HMax := Lib.hid hMax
        have hsl0 : ((SL.length : Int) == 0) = false := by simp; omega
        have hil : (intsN L).length = L.length := intsN_len L
        have his : (intsN SL).length = SL.length := intsN_len SL
        rw [hil]
        have hll := HIL4.out.2.1
        have hss := HIS.out.2.1
        clear hSL hPw hLt hMax HG2
        go_wp2_with fail
        go_loopw [43, 6, 8] (fun i b _ wr => ∃ (k m : Nat), i = .int .i64 k ∧ k ≤ SL.length ∧ b = .int .i64 (m : Int) ∧ Hid (m = (SL.take k).foldl max 0) ∧ Below w4.heap.size w4 wr) (fun i _ _ _ => SL.length - (intOf i).toNat)
        case atStart => exact ⟨0, 0, rfl, Nat.zero_le _, rfl, rfl, Below.refl _ _⟩
        case round =>
          obtain ⟨k, m, rfl, hk, rfl, Hm, hB⟩ := hrel
          have HB := Lib.hid hB
          have hzr := hB.size
          clear hB
          by_cases hlt : k < SL.length
          · obtain ⟨sb, so, hsb⟩ := HIS.out.addr.resolve_left (by omega)
            subst hsb
            have hlti : k < (intsN SL).length := by rw [his]; exact hlt
            have c0 := keeps_of_below HB.out _ _ (HIS.out.get rfl hlti)
            rw [getD_at hlti, intsN_get hlt hlti] at c0
            have HNx : Hid (max m (SL[k]'hlt) = (SL.take (k + 1)).foldl max 0) := by
              show _ = _
              rw [List.take_succ_eq_append_getElem hlt, List.foldl_append, ← Hm.out]
              rfl
            generalize SL[k]'hlt = y at c0 HNx
            have hkw : IntKind.i64.wrap ((k : Int) + 1) = (k : Int) + 1 := by rw [IntKind.wrap_i64]; omega
            go_wp2_with fail
            go_roundw
            case rel => exact ⟨k + 1, max m y, by go_num, by omega, (show Value.int .i64 _ = Value.int .i64 _ by congr 1; omega), HNx.out, HB.out⟩
            case measure => (simp [intOf]; try omega)
          · rename World => w5
            obtain rfl : k = SL.length := by omega
            have hmL : m = sumP L := by rw [Hm.out, List.take_of_length_le (Nat.le_refl _)]; exact HMax.out
            subst hmL
            have HBp5 := Lib.hid (HB4.out.trans (HB.out.mono (by omega)))
            have HIL5 := Lib.hid (HIL4.out.keep (keeps_of_below HB.out))
            clear Hm
            go_wp2_with fail
            go_loopw [53, 9, 10, 11] (fun i b _ _ wr => ∃ (k : Nat), i = .int .i64 k ∧ k ≤ L.length ∧ b = .int .i64 (sumP (L.take k) : Nat) ∧ Below w5.heap.size w5 wr) (fun i _ _ _ _ => L.length - (intOf i).toNat)
            case atStart => exact ⟨0, rfl, Nat.zero_le _, rfl, Below.refl _ _⟩
            case round =>
              obtain ⟨k, rfl, hk2, rfl, hB6⟩ := hrel
              have HB6 := Lib.hid hB6
              have HBp6 := Lib.hid (HBp5.out.trans (hB6.mono (by omega)))
              have hz6 := hB6.size
              clear hB6
              by_cases hlt2 : k < L.length
              · ((try clear b0 b1 b2 b3 b4); have b0 := box_cell HBp6.out 0; have b1 := box_cell HBp6.out 1; have b2 := box_cell HBp6.out 2; have b3 := box_cell HBp6.out 3; have b4 := box_cell HBp6.out 4; (try simp at b0 b1 b2 b3 b4))
                obtain ⟨lb, lo, hlb⟩ := HIL5.out.addr.resolve_left (by omega)
                subst hlb
                have hlti : k < (intsN L).length := by rw [hil]; exact hlt2
                have c0 := keeps_of_below HB6.out _ _ (HIL5.out.get rfl hlti)
                rw [getD_at hlti, intsN_get hlt2 hlti] at c0
                have hx6 := HLt.out _ (List.getElem_mem hlt2)
                have hsx := sumP_take HPw.out k hlt2
                have HNx : Hid (sumP (L.take (k + 1)) = sumP (L.take k) + 2 ^ (L[k]'hlt2)) := by
                  show _ = _
                  rw [List.take_succ_eq_append_getElem hlt2, sumP_append, sumP_one]
                have HPr : Hid (∀ j (hj : j < L.length), j + 1 = k → wr.cell? ⟨lb, lo + j, none⟩ = some (.int .i64 ((L[j]'hj : Nat) : Int)) ∧ L[j]'hj < L[k]'hlt2) := fun j hj hjk => by
                  have hji : j < (intsN L).length := by rw [hil]; exact hj
                  have h := keeps_of_below HB6.out _ _ (HIL5.out.get rfl hji)
                  rw [getD_at hji, intsN_get hj hji] at h
                  exact ⟨h, List.pairwise_iff_getElem.1 HPw.out j k hj hlt2 (by omega)⟩
                generalize L[k]'hlt2 = y at c0 hx6 hsx HNx HPr
                generalize sumP (L.take k) = s0 at hsx HNx
                have hkw : IntKind.i64.wrap ((k : Int) + 1) = (k : Int) + 1 := by rw [IntKind.wrap_i64]; omega
                have hy6 : y < 6 := by omega
                have hor := or_bit hy6 hsx
                have hd1 : decide ((y : Int) < 0) = false := by simp
                have hd2 : decide ((soft.length : Int) ≤ (y : Int)) = false := by simp; omega
                cases k with
                | zero =>
                  rw [Nat.add_zero] at c0
                  go_wp2_with fail
                  go_roundw
                  case rel => exact ⟨0 + 1, by go_num, by omega, (show _ = _ by rw [HNx.out]; simp), HB6.out⟩
                  case measure => (simp [intOf]; try omega)
                | succ j =>
                  obtain ⟨c1, hlt3⟩ := HPr.out j (by omega) rfl
                  generalize L[j]'(by omega) = z at c1 hlt3
                  have hd3 : decide ((y : Int) ≤ (z : Int)) = false := by simp; omega
                  have hjw : IntKind.i64.wrap (((j + 1 : Nat) : Int) - 1) = (j : Int) := by rw [IntKind.wrap_i64]; omega
                  have hj0 : (0 : Int) ≤ (j : Int) := by omega
                  go_wp2_with fail
                  go_roundw
                  case rel => exact ⟨j + 1 + 1, by go_num, by omega, (show _ = _ by rw [HNx.out]; simp), HB6.out⟩
                  case measure => (simp [intOf]; try omega)
              · obtain rfl : k = L.length := by omega
                rw [List.take_of_length_le (Nat.le_refl _)]
                have hee : (((sumP L : Nat) : Int) == ((sumP L : Nat) : Int)) = true := by simp
                go_wp2_with fail
                refine (HAw.out wr (boxW _ HBp6.out)).mono ?_
                rintro r wz ⟨rfl, hbz⟩
                have HBz : Hid (Below w.heap.size w wz) := (boxW _ HBp6.out).trans (hbz.mono (boxW _ HBp6.out).size)
                clear hbz
                go_wp2_with fail
                go_ret
                exact ⟨rfl, HBz.out⟩
    · have HVp := Lib.hid (errF (HV0.out w1 (boxW _ HB1.out)) hp)
      clear hp
      go_wp2_with fail
      refine HVp.out.mono ?_
      rintro r w3 ⟨⟨n, rfl, hn⟩, hb3⟩
      have HB3 : Hid (Below w.heap.size w w3) := (boxW _ HB1.out).trans (hb3.mono (boxW _ HB1.out).size)
      clear hb3
      go_wp2_with fail
      refine (HAw.out w3 (HB3.out)).mono ?_
      rintro r wz ⟨rfl, hbz⟩
      have HBz : Hid (Below w.heap.size w wz) := (HB3.out).trans (hbz.mono (HB3.out).size)
      clear hbz
      go_wp2_with fail
      go_ret
      exact ⟨rfl, HBz.out⟩
end Go.Proofs.YtgdphjgedhadoaaGreatDoor
