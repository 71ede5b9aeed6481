/- law: SearchWalks. -/
import Derived.Test.YtgdphjgedhadoaaGreatDoorKLeast
import Derived.Test.YtgdphjgedhadoaaGreatDoorKW
import Derived.IntWalk
set_option linter.unusedSimpArgs false
set_option linter.unusedVariables false
set_option linter.unnecessarySimpa false
namespace Go.Proofs.YtgdphjgedhadoaaGreatDoor
open Go.RowKit
attribute [local go_sem ↓] Go.wp_at_zero Go.wp_at_succ

/-! ### plain: all hits, in order -/
def hitsL (H : Nat → Bool) (T : Nat) : List Nat := (List.range' 0 T).filter H
theorem hitsL_mem {H : Nat → Bool} {T j : Nat} : j ∈ hitsL H T ↔ j < T ∧ H j = true := by
  unfold hitsL
  rw [List.mem_filter, List.mem_range'_1]
  constructor <;> rintro ⟨h, h'⟩ <;> exact ⟨by omega, h'⟩
theorem hitsL_lt {H : Nat → Bool} {T : Nat} {i j : Nat} (hj : j < (hitsL H T).length) (hij : i < j) : (hitsL H T)[i]'(by omega) < (hitsL H T)[j]'hj := by
  have h : (hitsL H T).Pairwise (· < ·) := List.Pairwise.filter H (List.pairwise_lt_range')
  exact List.pairwise_iff_getElem.1 h i j (by omega) hj hij
theorem hitsL_le {H : Nat → Bool} {T : Nat} {i j : Nat} (hi : i < (hitsL H T).length) (hj : j < (hitsL H T).length) (h : (hitsL H T)[i]'hi < (hitsL H T)[j]'hj) : i < j := by
  rcases Nat.lt_trichotomy i j with h1 | h1 | h1
  · exact h1
  · subst h1; omega
  · have := hitsL_lt hi h1; omega
/-- the first hit from a number on, as the element of the list -/
theorem hitsL_next {H : Nat → Bool} {T i first j : Nat} (hlow : ∀ m (h : m < (hitsL H T).length), (hitsL H T)[m]'h < first ↔ m < i) (h1 : first ≤ j) (h2 : j < T) (h3 : H j = true) (h4 : ∀ m, first ≤ m → m < j → H m = false) : ∃ h : i < (hitsL H T).length, (hitsL H T)[i]'h = j := by
  obtain ⟨m, hm, rfl⟩ := List.getElem_of_mem (hitsL_mem.2 ⟨h2, h3⟩)
  have hmi : ¬ m < i := fun h => by have := (hlow m hm).2 h; omega
  refine ⟨by omega, ?_⟩
  by_cases e : m = i
  · subst e; rfl
  · exfalso
    have hlt := hitsL_lt hm (show i < m by omega)
    have hi : i < (hitsL H T).length := by omega
    have hge : ¬ (hitsL H T)[i]'hi < first := fun h => by have := (hlow i hi).1 h; omega
    have hH := (hitsL_mem.1 (List.getElem_mem hi)).2
    have := h4 _ (Nat.le_of_not_lt hge) hlt
    rw [hH] at this
    simp at this
theorem hitsL_end {H : Nat → Bool} {T i first : Nat} (hi : i ≤ (hitsL H T).length) (hlow : ∀ m (h : m < (hitsL H T).length), (hitsL H T)[m]'h < first ↔ m < i) (h4 : ∀ m, first ≤ m → m < T → H m = false) : i = (hitsL H T).length := by
  by_cases e : i < (hitsL H T).length
  · exfalso
    have hge : ¬ (hitsL H T)[i]'e < first := fun h => by have := (hlow i e).1 h; omega
    obtain ⟨hT, hH⟩ := hitsL_mem.1 (List.getElem_mem e)
    have := h4 _ (Nat.le_of_not_lt hge) hT
    rw [hH] at this
    simp at this
  · omega
theorem num_nth {l : List VarD} (hok : ∀ i (h : i < l.length), varOkB (l[i]'h) = true) {k : Nat} (hk : k < totN l) : numN l (nthN l k) = k := by
  obtain ⟨h1, h2⟩ := nth_num (asg_nth hok k)
  have e1 := lessL_nth l (numN l (nthN l k)) k h2 hk
  have e2 := lessL_nth l k (numN l (nthN l k)) hk h2
  rw [h1, lessL_self] at e1 e2
  have d1 : ¬ numN l (nthN l k) < k := by simpa using e1.symm
  have d2 : ¬ k < numN l (nthN l k) := by simpa using e2.symm
  omega
/-- what is known of the assignment and the error when the loop stands at i -/
def AtHit (vs : List VarD) (ks : List Nat) (i : Nat) (w : World) (a : Option Addr) (n c : Nat) (f : Int) : Prop :=
  (∃ h : i < ks.length, f = 0 ∧ n = vs.length ∧ IntsIn w (nthN vs (ks[i]'h)) a c) ∨ (i = ks.length ∧ f = if ks.length = 0 then 11 else 12)
theorem atHit_first {vs : List VarD} {H : Nat → Bool} {T : Nat} {e : Ending} {w' : World} (h : FirstCase vs H T 0 11 e w') : ∃ a n c f, e = .returned (.tuple #[.slice a n c, .int .i64 f]) ∧ AtHit vs (hitsL H T) 0 w' a n c f := by
  rcases h with ⟨j, a, cap, h1, h2, _, h3, h4, h5⟩ | ⟨h1, h2⟩
  · obtain ⟨hi, hj⟩ := hitsL_next (i := 0) (first := 0) (fun m hm => by omega) (Nat.zero_le _) h3 h4 h5
    exact ⟨a, _, cap, 0, h1, Or.inl ⟨hi, rfl, rfl, by rw [hj]; exact h2⟩⟩
  · have hz := hitsL_end (i := 0) (first := 0) (Nat.zero_le _) (fun m hm => by omega) h2
    exact ⟨none, 0, 0, 11, h1, Or.inr ⟨hz, by rw [if_pos hz.symm]⟩⟩
theorem atHit_next {vs : List VarD} {H : Nat → Bool} {T : Nat} {e : Ending} {w' : World} {i : Nat} (hi : i < (hitsL H T).length) (h : FirstCase vs H T ((hitsL H T)[i]'hi + 1) 12 e w') : ∃ a n c f, e = .returned (.tuple #[.slice a n c, .int .i64 f]) ∧ AtHit vs (hitsL H T) (i + 1) w' a n c f := by
  have hlow : ∀ m (h : m < (hitsL H T).length), (hitsL H T)[m]'h < (hitsL H T)[i]'hi + 1 ↔ m < i + 1 := fun m hm => by
    constructor
    · intro h
      by_cases e : m < i + 1
      · exact e
      · have := hitsL_lt hm (show i < m by omega); omega
    · intro h
      by_cases e : m = i
      · subst e; omega
      · have := hitsL_lt hi (show m < i by omega); omega
  rcases h with ⟨j, a, cap, h1, h2, h0, h3, h4, h5⟩ | ⟨h1, h2⟩
  · obtain ⟨hi', hj⟩ := hitsL_next hlow h0 h3 h4 h5
    exact ⟨a, _, cap, 0, h1, Or.inl ⟨hi', rfl, rfl, by rw [hj]; exact h2⟩⟩
  · have hz := hitsL_end hi hlow h2
    exact ⟨none, 0, 0, 12, h1, Or.inr ⟨hz, by rw [if_neg (by omega)]⟩⟩
theorem AllRet.case {p : ProbD} {l : List Ex} {e : Ending} {w' : World} (h : AllRet p l 2000 262144 e w') (hT : ProbOk p → totN p.vars ≤ 1024) :
    (ComOk p l 262144 ∧ ∃ a cap, e = .returned (.tuple #[.slice a (hitsL (hitN p.vars l) (totN p.vars)).length cap, .int .i64 0]) ∧ RowsIn w' ((hitsL (hitN p.vars l) (totN p.vars)).map (nthN p.vars)) a cap) ∨ e = .returned (.tuple #[.slice none 0 0, .int .i64 1]) := by
  rcases h with ⟨⟨hc, _⟩, h⟩ | ⟨_, h⟩
  · have ht := hT hc.prob
    have hall : allN (hitN p.vars l) (totN p.vars) (262144 : Int).toNat (2000 : Int).toNat (totN p.vars) [] = some (hitsL (hitN p.vars l) (totN p.vars)) := by
      rw [show (262144 : Int).toNat = 262144 from rfl, show (2000 : Int).toNat = 2000 from rfl]
      rw [allN_all (by omega) (totN p.vars) 0 [] (by omega) (by simp; omega)]
      rfl
    rcases h with ⟨ks, a, cap, h1, h2, h3⟩ | ⟨h1, _⟩
    · rw [hall] at h1
      obtain rfl := Option.some.inj h1
      exact Or.inl ⟨hc, a, cap, h2, h3⟩
    · rw [hall] at h1; simp at h1
  · exact Or.inr h

set_option maxRecDepth 100000 in
set_option maxHeartbeats 8000000 in
theorem SearchWalks_any (p : ProbD) (x : ProbA) (l : List Ex) (al : Option Addr) (cl : Nat) (w : World) (hE : ProbIn w p x) (hL : ExsIn w l al cl) (hG : Glob w) :
    Calls Tryz.prog 7 #[probVal p x, .slice al l.length cl] w fun e w' => e = .returned (.bool true) ∧ Below w.heap.size w w' := by
  have HFw0 := Lib.hid (fun W (hW : Below w.heap.size w W) => few_any p x l al cl W (hE.keep (keeps_of_below hW)) (hL.keep (keeps_of_below hW)))
  have HA0 := Lib.hid (fun (hf : FewOk p l) W (hW : Below w.heap.size w W) => (All_any p x l al cl 2000 262144 W (hE.keep (keeps_of_below hW)) hf.small (hL.keep (keeps_of_below hW)) hf.exsSmall (hG.below hW)).mono fun e w' h => (⟨h.1.case hf.tot, h.2⟩ : _ ∧ Below W.heap.size W w'))
  have HF0 := Lib.hid (fun (hf : FewOk p l) (hc : ComOk p l 262144) W (hW : Below w.heap.size w W) => (First_any p x l al cl 262144 W (hE.keep (keeps_of_below hW)) hf.small (hL.keep (keeps_of_below hW)) hf.exsSmall (hG.below hW)).mono (R' := fun e w' => (∃ a n c f, e = .returned (.tuple #[.slice a n c, .int .i64 f]) ∧ AtHit p.vars (hitsL (hitN p.vars l) (totN p.vars)) 0 w' a n c f) ∧ Below W.heap.size W w') fun e w' h => ⟨(h.1.case (by have := hf.tot hc.prob; omega)).elim atHit_first (fun h => absurd ⟨hc, trivial⟩ h.1), h.2⟩)
  have HN0 := Lib.hid (fun (hf : FewOk p l) (hc : ComOk p l 262144) i (hi : i < (hitsL (hitN p.vars l) (totN p.vars)).length) aa ca W (hW : Below w.heap.size w W) (hI : IntsIn W (nthN p.vars ((hitsL (hitN p.vars l) (totN p.vars))[i]'hi)) aa ca) => (Next_any p x l al cl _ aa ca 262144 W (hE.keep (keeps_of_below hW)) hf.small (hL.keep (keeps_of_below hW)) hf.exsSmall (hG.below hW) hI).mono (R' := fun e w' => (∃ a n c f, e = .returned (.tuple #[.slice a n c, .int .i64 f]) ∧ AtHit p.vars (hitsL (hitN p.vars l) (totN p.vars)) (i + 1) w' a n c f) ∧ Below W.heap.size W w') fun e w' h => ⟨(h.1.case (by have := hf.tot hc.prob; omega)).elim (fun h => atHit_next hi (by rw [num_nth hc.prob.vars.ok (hitsL_mem.1 (List.getElem_mem hi)).1] at h; exact h)) (fun h => absurd ⟨hc, asg_nth hc.prob.vars.ok _⟩ h.1), h.2⟩)
  have HIn := Lib.hid (fun A W aa ca ab cb (hA : IntsIn W A aa ca) (hB : IntsIn W A ab cb) => ints_any A aa ca A ab cb W hA hB)
  have HLs := Lib.hid (fun A aa ca B ab cb W (hA : IntsIn W A aa ca) (hB : IntsIn W B ab cb) => less_any A aa ca B ab cb W hA hB)
  have HAw := Lib.hid (fun W (hW : Below w.heap.size w W) => awake_any W (hG.below hW))
  have HNl := Lib.hid (nthN_len p.vars)
  have HLn : Hid (∀ i j (hj : j < (hitsL (hitN p.vars l) (totN p.vars)).length) (hi : i < (hitsL (hitN p.vars l) (totN p.vars)).length), i < j → lessL (nthN p.vars ((hitsL (hitN p.vars l) (totN p.vars))[i]'hi)) (nthN p.vars ((hitsL (hitN p.vars l) (totN p.vars))[j]'hj)) = true) := fun i j hj hi hij => (lessL_nth p.vars _ _ (hitsL_mem.1 (List.getElem_mem hi)).1 (hitsL_mem.1 (List.getElem_mem hj)).1).trans (decide_eq_true (hitsL_lt hj hij))
  simp only [decide_true] at HIn
  clear hE hL hG
  generalize hitsL (hitN p.vars l) (totN p.vars) = ks at HA0 HF0 HN0 HLn
  simp only [probVal_eq] at HFw0 HA0 HF0 HN0 ⊢
  obtain ⟨vs, hard, soft, ds, gs⟩ := p
  obtain ⟨av, cv, ah, ch, ao, co, ad, cd, ag, cg⟩ := x
  simp only at HFw0 HA0 HF0 HN0 HNl HLn ⊢
  have hPB : Below w.heap.size w (w.alloc (.cells #[.slice av vs.length cv, .slice ah hard.length ch, .slice ao soft.length co, .slice ad ds.length cd, .slice ag gs.length cg] 27)) := (Below.refl _ _).alloc (Nat.le_refl _) _
  have HFw := Lib.hid (HFw0.out _ hPB)
  clear hPB HFw0
  go_enter Tryz.func7, Tryz.ntmps7
  go_wp2_with fail
  refine HFw.out.mono ?_
  rintro e w1 ⟨⟨b, rfl, hbf⟩, hb1⟩
  simp only [World.size_alloc] at hb1
  have HB1 := Lib.hid hb1
  have hz1 := hb1.size
  simp only [World.size_alloc] at hz1
  clear hb1
  cases b
  · clear hbf
    go_wp2_with fail
    refine (HAw.out w1 (boxW _ HB1.out)).mono ?_
    rintro e w2 ⟨rfl, hb2⟩
    have HB2 : Hid (Below w.heap.size w w2) := (boxW _ HB1.out).trans (hb2.mono (boxW _ HB1.out).size)
    clear hb2
    go_wp2_with fail
    go_ret
    exact ⟨rfl, HB2.out⟩
  · have HFo := Lib.hid (hbf rfl)
    clear hbf
    ((try clear b0 b1 b2 b3 b4); have b0 := box_cell HB1.out 0; have b1 := box_cell HB1.out 1; have b2 := box_cell HB1.out 2; have b3 := box_cell HB1.out 3; have b4 := box_cell HB1.out 4; (try simp at b0 b1 b2 b3 b4))
    go_wp2_with fail
    refine (HA0.out HFo.out w1 (boxW _ HB1.out)).mono ?_
    rintro e w2 ⟨hr, hb2⟩
    have HB2 := Lib.hid (HB1.out.trans (hb2.mono hz1))
    clear hb2
    ((try clear b0 b1 b2 b3 b4); have b0 := box_cell HB2.out 0; have b1 := box_cell HB2.out 1; have b2 := box_cell HB2.out 2; have b3 := box_cell HB2.out 3; have b4 := box_cell HB2.out 4; (try simp at b0 b1 b2 b3 b4))
    rcases hr with ⟨hc, ra, rc, rfl, hR⟩ | rfl
    · have HC := Lib.hid hc
      have HR := Lib.hid hR
      have HRa := Lib.hid hR.addr
      have hkl := hR.2.1
      rw [List.length_map] at hkl
      clear hc hR
      go_wp2_with fail
      refine (HF0.out HFo.out HC.out w2 (boxW _ HB2.out)).mono ?_
      rintro e w3 ⟨⟨a3, n3, c3, f3, rfl, hat⟩, hb3⟩
      have HB3 := Lib.hid (HB2.out.trans (hb3.mono (by have := HB2.out.size; simpa using this)))
      have HAt := Lib.hid hat
      have HR3 := Lib.hid (HR.out.keep (keeps_of_below hb3))
      clear hb3 hat b0 b1 b2 b3 b4 HR
      go_wp2_with fail
      go_loopw [7, 8, 9] (fun a f i wr => ∃ (k : Nat) (aa : Option Addr) (n c : Nat) (ff : Int), i = .int .i64 k ∧ k ≤ ks.length ∧ a = .slice aa n c ∧ f = .int .i64 ff ∧ Hid (AtHit vs ks k wr aa n c ff) ∧ Hid (Below w3.heap.size w3 wr)) (fun _ _ i _ => ks.length - (intOf i).toNat)
      case atStart => exact ⟨0, a3, n3, c3, f3, rfl, Nat.zero_le _, rfl, rfl, HAt.out, Below.refl _ _⟩
      case round =>
        obtain ⟨k, aa, n, c, ff, rfl, hk, rfl, rfl, HA, HB⟩ := hrel
        have HBw := Lib.hid (HB3.out.trans (HB.out.mono (by have := HB3.out.size; simpa using this)))
        by_cases hlt : k < ks.length
        · obtain ⟨hf0, hn0, hI⟩ : ff = 0 ∧ n = vs.length ∧ IntsIn wr (nthN vs (ks[k]'hlt)) aa c := by
            rcases HA.out with ⟨_, h1, h2, h3⟩ | ⟨h1, _⟩
            · exact ⟨h1, h2, h3⟩
            · omega
          subst hf0
          subst hn0
          have HI := Lib.hid hI
          obtain ⟨p1, o1, ha1⟩ := HRa.out.resolve_left (by rw [List.length_map]; omega)
          subst ha1
          obtain ⟨r1, q1, g1, hR1⟩ := HR3.out.get rfl (show k < (ks.map (nthN vs)).length by rw [List.length_map]; exact hlt)
          rw [List.getElem_map] at g1 hR1
          rw [HNl.out] at g1
          have g1' := keeps_of_below HB.out _ _ g1
          have HIc := Lib.hid (fun W (hW : Below wr.heap.size wr W) => (HIn.out _ W aa c r1 q1 (HI.out.keep (keeps_of_below hW)) (hR1.keep (keeps_of_below (HB.out.trans (hW.mono HB.out.size))))).mono fun e w' h => (⟨h.1, hW.trans (h.2.mono hW.size)⟩ : _ ∧ Below wr.heap.size wr w'))
          simp only [HNl.out] at HIc
          have e1 : ∀ g : Grow wr.heap.size wr, g.w'.cell? ⟨p1, o1 + k, none⟩ = _ := Grow.old g1' (Nat.le_refl _)
          have HRk := Lib.hid hR1
          have HNx := Lib.hid (HN0.out HFo.out HC.out k hlt aa c)
          simp only [HNl.out] at HNx
          clear hI g1 g1' hR1
          by_cases hk0 : k = 0
          · have hd1 : decide ((0 : Int) < (k : Int)) = false := by simp; omega
            have hd2 : ¬ 0 < k := by omega
            clear hk0
            go_wp2_with fail
            (refine wp_region_grow (B := wr.heap.size) (w0 := wr) (by kernel_rfl) (by kernel_rfl) (by repeat (first | assumption | exact Below.refl _ _ | refine Below.drew ?_ | refine below_drewN ?_ _ | refine Below.alloc ?_ (by first | omega | (simp only [World.size_alloc, World.size_setCell, World.size_drew, World.heap_drewN] <;> omega) | (simp <;> omega)) _ | refine Below.setCell ?_ (by first | omega | (simp only [World.size_alloc, World.size_setCell, World.size_drew, World.heap_drewN] <;> omega) | (simp <;> omega)) _)) ?_; (repeat (go_big_quiet_step (first | (go_at_call 17; (with_reducible exact grow_call (HIc.out _ (Grow.h _))))))); refine wpQuiet_nil ?_; intro wg hCg; have hbg := grow_out hCg; clear hCg)
            have HBg := Lib.hid (by assumption : Below wr.heap.size wr wg)
            have HBx := Lib.hid (HBw.out.trans (HBg.out.mono (by have := HBw.out.size; simpa using this)))
            ((try clear b0 b1 b2 b3 b4); have b0 := box_cell HBx.out 0; have b1 := box_cell HBx.out 1; have b2 := box_cell HBx.out 2; have b3 := box_cell HBx.out 3; have b4 := box_cell HBx.out 4; (try simp at b0 b1 b2 b3 b4))
            go_wp2_with fail
            refine (HNx.out wg (boxW _ HBx.out) (HI.out.keep (keeps_of_below HBg.out))).mono ?_
            rintro e w5 ⟨⟨a5, n5, c5, f5, rfl, hat⟩, hb5⟩
            have HA5 := Lib.hid hat
            have HB5 := Lib.hid (HB.out.trans ((HBg.out.mono HB.out.size).trans (hb5.mono (Nat.le_trans HB.out.size HBg.out.size))))
            clear hat hb5
            go_wp2_with fail
            go_roundw
            case rel => exact ⟨k + 1, a5, n5, c5, f5, by go_num, by omega, rfl, rfl, HA5.out, HB5.out⟩
            case measure => simp [intOf]; omega
          · obtain ⟨k', rfl⟩ : ∃ k', k = k' + 1 := ⟨k - 1, by omega⟩
            obtain ⟨r2, q2, g2, hR2⟩ := HR3.out.get rfl (show k' < (ks.map (nthN vs)).length by rw [List.length_map]; omega)
            rw [List.getElem_map] at g2 hR2
            rw [HNl.out] at g2
            have g2' := keeps_of_below HB.out _ _ g2
            have e2 : ∀ g : Grow wr.heap.size wr, g.w'.cell? ⟨p1, o1 + k', none⟩ = _ := Grow.old g2' (Nat.le_refl _)
            have HLc := Lib.hid (fun W (hW : Below wr.heap.size wr W) => (HLs.out _ r2 q2 _ r1 q1 W (hR2.keep (keeps_of_below (HB.out.trans (hW.mono HB.out.size)))) (HRk.out.keep (keeps_of_below (HB.out.trans (hW.mono HB.out.size))))).mono fun e w' h => (⟨h.1, hW.trans (h.2.mono hW.size)⟩ : _ ∧ Below wr.heap.size wr w'))
            simp only [HNl.out] at HLc
            rw [HLn.out k' (k' + 1) hlt (by omega) (by omega)] at HLc
            have hw1 : IntKind.i64.wrap (((k' + 1 : Nat) : Int) - 1) = (k' : Int) := by rw [IntKind.wrap_i64]; omega
            have hw2 : IntKind.i64.wrap (k' : Int) = (k' : Int) := by rw [IntKind.wrap_i64]; omega
            have hlt' : k' < ks.length := by omega
            clear g2 g2' hR2 hk0
            go_wp2_with fail
            (refine wp_region_grow (B := wr.heap.size) (w0 := wr) (by kernel_rfl) (by kernel_rfl) (by repeat (first | assumption | exact Below.refl _ _ | refine Below.drew ?_ | refine below_drewN ?_ _ | refine Below.alloc ?_ (by first | omega | (simp only [World.size_alloc, World.size_setCell, World.size_drew, World.heap_drewN] <;> omega) | (simp <;> omega)) _ | refine Below.setCell ?_ (by first | omega | (simp only [World.size_alloc, World.size_setCell, World.size_drew, World.heap_drewN] <;> omega) | (simp <;> omega)) _)) ?_; (repeat (go_big_quiet_step (first | (go_at_call 17; (with_reducible exact grow_call (HIc.out _ (Grow.h _)))) | (go_at_call 27; (with_reducible exact grow_call (HLc.out _ (Grow.h _))))))); refine wpQuiet_nil ?_; intro wg hCg; have hbg := grow_out hCg; clear hCg)
            have HBg := Lib.hid (by assumption : Below wr.heap.size wr wg)
            have HBx := Lib.hid (HBw.out.trans (HBg.out.mono (by have := HBw.out.size; simpa using this)))
            ((try clear b0 b1 b2 b3 b4); have b0 := box_cell HBx.out 0; have b1 := box_cell HBx.out 1; have b2 := box_cell HBx.out 2; have b3 := box_cell HBx.out 3; have b4 := box_cell HBx.out 4; (try simp at b0 b1 b2 b3 b4))
            clear hw1 hw2
            go_wp2_with fail
            refine (HNx.out wg (boxW _ HBx.out) (HI.out.keep (keeps_of_below HBg.out))).mono ?_
            rintro e w5 ⟨⟨a5, n5, c5, f5, rfl, hat⟩, hb5⟩
            have HA5 := Lib.hid hat
            have HB5 := Lib.hid (HB.out.trans ((HBg.out.mono HB.out.size).trans (hb5.mono (Nat.le_trans HB.out.size HBg.out.size))))
            clear hat hb5
            go_wp2_with fail
            go_roundw
            case rel => exact ⟨k' + 1 + 1, a5, n5, c5, f5, by go_num, by omega, rfl, rfl, HA5.out, HB5.out⟩
            case measure => simp [intOf]; omega
        · obtain rfl : k = ks.length := by omega
          have hff : ff = if ks.length = 0 then 11 else 12 := by
            rcases HA.out with ⟨h, _⟩ | ⟨_, h⟩
            · omega
            · exact h
          have HAx := Lib.hid (HAw.out wr (boxW _ HBw.out))
          by_cases hz : ks.length = 0
          · rw [if_pos hz] at hff
            subst hff
            rw [hz]
            clear hlt hk
            go_wp2_with fail
            refine HAx.out.mono ?_
            rintro e w5 ⟨rfl, hb5⟩
            have HB5 : Hid (Below w.heap.size w w5) := (boxW _ HBw.out).trans (hb5.mono (boxW _ HBw.out).size)
            clear hb5
            go_wp2_with fail
            go_ret
            exact ⟨rfl, HB5.out⟩
          · rw [if_neg hz] at hff
            subst hff
            clear hlt hk hz
            go_wp2_with fail
            refine HAx.out.mono ?_
            rintro e w5 ⟨rfl, hb5⟩
            have HB5 : Hid (Below w.heap.size w w5) := (boxW _ HBw.out).trans (hb5.mono (boxW _ HBw.out).size)
            clear hb5
            go_wp2_with fail
            go_ret
            exact ⟨rfl, HB5.out⟩
    · go_wp2_with fail
      refine (HAw.out w2 (boxW _ HB2.out)).mono ?_
      rintro e w3 ⟨rfl, hb3⟩
      have HB3 : Hid (Below w.heap.size w w3) := (boxW _ HB2.out).trans (hb3.mono (boxW _ HB2.out).size)
      clear hb3
      go_wp2_with fail
      go_ret
      exact ⟨rfl, HB3.out⟩
end Go.Proofs.YtgdphjgedhadoaaGreatDoor
