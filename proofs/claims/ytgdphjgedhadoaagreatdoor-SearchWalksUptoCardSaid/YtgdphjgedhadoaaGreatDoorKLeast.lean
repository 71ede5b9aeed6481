/- law: SearchLeast. -/
import Derived.Test.YtgdphjgedhadoaaGreatDoorKT
import Derived.Test.YtgdphjgedhadoaaGreatDoorKU
import Derived.Deep.RegionHeld3
import Derived.Deep.DrawnRows
set_option linter.unusedSimpArgs false
set_option linter.unusedVariables false
set_option linter.unnecessarySimpa false
namespace Go.Proofs.YtgdphjgedhadoaaGreatDoor
open Go.RowKit
attribute [local go_sem ↓] Go.wp_at_zero Go.wp_at_succ

/-! ### plain -/
theorem evalS_err (env : List (ByteArray × Int)) (e : Ex) : (evalS env e).2 ≠ 0 → (evalS env e).1 = 0 := by
  unfold evalS
  split
  · intro _; rfl
  · split
    · intro _; rfl
    · intro h; exact absurd rfl h
theorem holdsV_eq (vs : List VarD) (A : List Int) (e : Ex) : holdsV vs A e = ((evalS (envS vs A) e).1 != 0) := by
  unfold holdsV
  by_cases h : (evalS (envS vs A) e).2 = 0
  · rw [h]; simp
  · rw [evalS_err _ _ h]; simp
theorem asg_pB {p : ProbD} (hp : ProbOk p) (k : Nat) : pB (ProbOk p ∧ Asg p.vars (nthN p.vars k)) = true := pB_true ⟨hp, asg_nth hp.vars.ok k⟩
theorem hitsB_hit {p : ProbD} {l : List Ex} (hp : ProbOk p) (k : Nat) : hitsB p l (nthN p.vars k) = hitN p.vars l k := by
  unfold hitsB hitN allS
  rw [asg_pB hp]
  simp only [Bool.true_and, holdsV_eq]
theorem sat_hit {p : ProbD} {l : List Ex} (hp : ProbOk p) {k : Nat} (h : hitN p.vars l k = true) : satN p l (nthN p.vars k) = (l.length : Int) := by
  unfold satN
  rw [if_pos (asg_pB hp k)]
  unfold cntS
  rw [List.take_of_length_le (Nat.le_refl _), List.countP_eq_length.2]
  intro e he
  rw [holdsV_eq]
  unfold hitN allS at h
  exact List.all_eq_true.1 h e he
theorem scan_some {H : Nat → Bool} {T : Nat} : ∀ (s k j : Nat), (scanN H T s k).1 = some j → k ≤ j ∧ j < T ∧ H j = true ∧ ∀ i, k ≤ i → i < j → H i = false := by
  intro s
  induction s with
  | zero => intro k j hj; rw [scanN_zero] at hj; simp at hj
  | succ s ih =>
    intro k j hj
    by_cases hT : T ≤ k
    · rw [(scanN_over hT).1] at hj; simp at hj
    · cases hh : H k
      · rw [scanN_miss (by omega) hh] at hj
        obtain ⟨h1, h2, h3, h4⟩ := ih (k + 1) j hj
        refine ⟨by omega, h2, h3, fun i h5 h6 => ?_⟩
        by_cases e : i = k
        · rw [e]; exact hh
        · exact h4 i (by omega) h6
      · rw [scanN_hit (by omega) hh] at hj
        obtain rfl := Option.some.inj hj
        exact ⟨Nat.le_refl _, by omega, hh, fun i h5 h6 => by omega⟩
theorem scan_none {H : Nat → Bool} {T : Nat} : ∀ (s k : Nat), (scanN H T s k).1 = none → T ≤ (scanN H T s k).2.1 → ∀ i, k ≤ i → i < T → H i = false := by
  intro s
  induction s with
  | zero => intro k _ h i h1 h2; rw [scanN_zero] at h; simp only at h; omega
  | succ s ih =>
    intro k hn hT i h1 h2
    by_cases hk : T ≤ k
    · omega
    · cases hh : H k
      · rw [scanN_miss (by omega) hh] at hn hT
        by_cases e : i = k
        · rw [e]; exact hh
        · exact ih (k + 1) hn hT i (by omega) h2
      · rw [scanN_hit (by omega) hh] at hn; simp at hn
theorem scan_room {H : Nat → Bool} {T : Nat} : ∀ (s k : Nat), T ≤ k + s → (scanN H T s k).1 = none → T ≤ (scanN H T s k).2.1 := by
  intro s
  induction s with
  | zero => intro k h _; rw [scanN_zero]; simpa using h
  | succ s ih =>
    intro k h hn
    by_cases hk : T ≤ k
    · rw [(scanN_over hk).2]; exact hk
    · cases hh : H k
      · rw [scanN_miss (by omega) hh] at hn ⊢
        exact ih (k + 1) (by omega) hn
      · rw [scanN_hit (by omega) hh] at hn; simp at hn
/-- what First and Next answer where there are steps enough -/
def FirstCase (vs : List VarD) (H : Nat → Bool) (T first : Nat) (un : Int) (e : Ending) (w' : World) : Prop :=
  (∃ j a cap, e = .returned (.tuple #[.slice a vs.length cap, .int .i64 0]) ∧ IntsIn w' (nthN vs j) a cap ∧ first ≤ j ∧ j < T ∧ H j = true ∧ ∀ i, first ≤ i → i < j → H i = false) ∨
  (e = .returned (.tuple #[.slice none 0 0, .int .i64 un]) ∧ ∀ i, first ≤ i → i < T → H i = false)
theorem FirstRet.case {p : ProbD} {l : List Ex} {C : Prop} {first : Nat} {un : Int} {e : Ending} {w' : World} (h : FirstRet p l 262144 C first un e w') (hT : totN p.vars ≤ 262144) : FirstCase p.vars (hitN p.vars l) (totN p.vars) first un e w' ∨ (¬ (ComOk p l 262144 ∧ C) ∧ e = .returned (.tuple #[.slice none 0 0, .int .i64 1])) := by
  rcases h with ⟨_, h⟩ | h
  · refine Or.inl ?_
    rw [show (262144 : Int).toNat = 262144 from rfl] at h
    rcases h with ⟨j, a, cap, h1, h2, h3⟩ | ⟨h1, h2, h3⟩ | ⟨h1, h2, _⟩
    · obtain ⟨q1, q2, q3, q4⟩ := scan_some _ _ _ h1
      exact Or.inl ⟨j, a, cap, h2, h3, q1, q2, q3, q4⟩
    · exact Or.inr ⟨h3, scan_none _ _ h1 h2⟩
    · have := scan_room 262144 first (by omega) h1
      omega
  · exact Or.inr h

set_option maxRecDepth 100000 in
set_option maxHeartbeats 8000000 in
theorem SearchLeast_any (p : ProbD) (x : ProbA) (l : List Ex) (al : Option Addr) (cl : Nat) (k : Nat) (w : World) (hE : ProbIn w p x) (hL : ExsIn w l al cl) (hG : Glob w) (hk : k ≤ 65535) :
    Calls Tryz.prog 5 #[probVal p x, .slice al l.length cl, .int .u16 k] w fun e w' => e = .returned (.bool true) ∧ Below w.heap.size w w' := by
  have HFw0 := Lib.hid (fun W (hW : Below w.heap.size w W) => few_any p x l al cl W (hE.keep (keeps_of_below hW)) (hL.keep (keeps_of_below hW)))
  have HV0 := Lib.hid (fun (hf : FewOk p l) W (hW : Below w.heap.size w W) => r14Valid_any p x W (hE.keep (keeps_of_below hW)) hf.small)
  have HF0 := Lib.hid (fun (hf : FewOk p l) (hp : ProbOk p) W (hW : Below w.heap.size w W) => (First_any p x l al cl 262144 W (hE.keep (keeps_of_below hW)) hf.small (hL.keep (keeps_of_below hW)) hf.exsSmall (hG.below hW)).mono fun e w' h => (⟨h.1.case (by have := hf.tot hp; omega), h.2⟩ : _ ∧ Below W.heap.size W w'))
  have HT0 := Lib.hid (fun (hp : ProbOk p) W (hW : Below w.heap.size w W) => Total_any p x W (hE.keep (keeps_of_below hW)) hp.vars)
  have HN0 := Lib.hid (fun (hp : ProbOk p) k (hk : k ≤ 4611686018427387904) W (hW : Below w.heap.size w W) => (Nth_any p x k W (hE.keep (keeps_of_below hW)) hp.vars hk).mono (R' := fun e w' => ∃ a cap, e = .returned (.slice a p.vars.length cap) ∧ IntsIn w' (nthN p.vars k) a cap ∧ Below W.heap.size W w') fun e w' ⟨b, cap, h1, h2, h3⟩ => ⟨_, cap, by rw [h1, nthN_len], h2, h3⟩)
  have HH0 := Lib.hid (fun (hf : FewOk p l) A aa ca W (hW : Below w.heap.size w W) (hI : IntsIn W A aa ca) => hits_any p x l al cl A aa ca W (hE.keep (keeps_of_below hW)) hf.small (hL.keep (keeps_of_below hW)) hf.exsSmall hI)
  have HA0 := Lib.hid (fun (hf : FewOk p l) A aa ca W (hW : Below w.heap.size w W) (hI : IntsIn W A aa ca) => rAssigns_any p x A aa ca W (hE.keep (keeps_of_below hW)) hf.small hI)
  have HS0 := Lib.hid (fun (hf : FewOk p l) A aa ca W (hW : Below w.heap.size w W) (hI : IntsIn W A aa ca) => Satisfied_any p x l al cl A aa ca W (hE.keep (keeps_of_below hW)) hf.small (hL.keep (keeps_of_below hW)) hf.exsSmall (hG.below hW) hI)
  have HLs := Lib.hid (fun A aa ca B ab cb W (hA : IntsIn W A aa ca) (hB : IntsIn W B ab cb) => less_any A aa ca B ab cb W hA hB)
  have HAw := Lib.hid (fun W (hW : Below w.heap.size w W) => awake_any W (hG.below hW))
  have hll := hL.2.1
  have HPl : Hid (ProbOk p → (∀ k, hitsB p l (nthN p.vars k) = hitN p.vars l k) ∧ (∀ k, pB (ProbOk p ∧ Asg p.vars (nthN p.vars k)) = true) ∧ (∀ k, hitN p.vars l k = true → satN p l (nthN p.vars k) = (l.length : Int)) ∧ (FewOk p l → totN p.vars ≤ 1024)) := fun hp => ⟨hitsB_hit hp, asg_pB hp, fun k h => sat_hit hp h, fun hf => hf.tot hp⟩
  have HNl := Lib.hid (nthN_len p.vars)
  have HLN := Lib.hid (lessL_nth p.vars)
  have HTp := totN_pos p.vars
  clear hE hL hG
  simp only [probVal_eq] at HFw0 HV0 HF0 HT0 HN0 HH0 HA0 HS0 ⊢
  obtain ⟨vs, hard, soft, ds, gs⟩ := p
  obtain ⟨av, cv, ah, ch, ao, co, ad, cd, ag, cg⟩ := x
  simp only at HFw0 HV0 HF0 HT0 HN0 HH0 HA0 HS0 HPl HNl HLN HTp ⊢
  have hPB : Below w.heap.size w (w.alloc (.cells #[.slice av vs.length cv, .slice ah hard.length ch, .slice ao soft.length co, .slice ad ds.length cd, .slice ag gs.length cg] 27)) := (Below.refl _ _).alloc (Nat.le_refl _) _
  have HFw := Lib.hid (HFw0.out _ hPB)
  clear hPB HFw0
  have hk0 : (0 : Int) ≤ (k : Int) := by omega
  have hk1 : (k : Int) ≤ 65535 := by omega
  go_enter Tryz.func5, Tryz.ntmps5
  go_wp2_with fail
  refine HFw.out.mono ?_
  rintro e w1 ⟨⟨b, rfl, hbf⟩, hb1⟩
  simp only [World.size_alloc] at hb1
  have HB1 := Lib.hid hb1
  have hz1 := hb1.size
  simp only [World.size_alloc] at hz1
  clear hb1
  cases b
  · clear hbf
    go_wp2_with fail
    refine (HAw.out w1 (boxW _ HB1.out)).mono ?_
    rintro e w2 ⟨rfl, hb2⟩
    have HB2 : Hid (Below w.heap.size w w2) := (boxW _ HB1.out).trans (hb2.mono (boxW _ HB1.out).size)
    clear hb2
    go_wp2_with fail
    go_ret
    exact ⟨rfl, HB2.out⟩
  · have HFo := Lib.hid (hbf rfl)
    clear hbf
    ((try clear b0 b1 b2 b3 b4); have b0 := box_cell HB1.out 0; have b1 := box_cell HB1.out 1; have b2 := box_cell HB1.out 2; have b3 := box_cell HB1.out 3; have b4 := box_cell HB1.out 4; (try simp at b0 b1 b2 b3 b4))
    by_cases hp : ProbOk ⟨vs, hard, soft, ds, gs⟩
    · have HV := Lib.hid (errT (HV0.out HFo.out w1 (boxW _ HB1.out)) hp)
      have HF := Lib.hid (HF0.out HFo.out hp)
      have HT := Lib.hid (HT0.out hp)
      have HN := Lib.hid (HN0.out hp)
      obtain ⟨hP1, hP2, hP3, hP4⟩ := HPl.out hp
      have HP1 := Lib.hid hP1
      have HP2 := Lib.hid hP2
      have HP3 := Lib.hid hP3
      have hTl := hP4 HFo.out
      clear hP1 hP2 hP3 hP4 HPl HV0 HF0 HT0 HN0 hp
      generalize totN vs = T at HF HT HTp hTl HLN
      go_wp2_with fail
      refine HV.out.mono ?_
      rintro e w2 ⟨rfl, hb2⟩
      have HB2 := Lib.hid (HB1.out.trans (hb2.mono hz1))
      clear hb2
      ((try clear b0 b1 b2 b3 b4); have b0 := box_cell HB2.out 0; have b1 := box_cell HB2.out 1; have b2 := box_cell HB2.out 2; have b3 := box_cell HB2.out 3; have b4 := box_cell HB2.out 4; (try simp at b0 b1 b2 b3 b4))
      go_wp2_with fail
      refine (HF.out w2 (boxW _ HB2.out)).mono ?_
      rintro e w3 ⟨hr, hb3⟩
      have HB3 := Lib.hid (HB2.out.trans (hb3.mono (by have := HB2.out.size; simpa using this)))
      have HBw := Lib.hid (boxW _ HB3.out)
      clear hb3
      ((try clear b0 b1 b2 b3 b4); have b0 := box_cell HB3.out 0; have b1 := box_cell HB3.out 1; have b2 := box_cell HB3.out 2; have b3 := box_cell HB3.out 3; have b4 := box_cell HB3.out 4; (try simp at b0 b1 b2 b3 b4))
      have hT1 : (1 : Int) ≤ (T : Int) := by omega
      have hT2 : (T : Int) ≤ 1024 := by omega
      have hT0 : (((T : Nat) : Int) == 0) = false := by simp; omega
      have hTne : ¬ T = 0 := by omega
      have hrem : ((k : Int)).tmod ((T : Nat) : Int) = ((k % T : Nat) : Int) := rfl
      have hremE : ((k : Int)) % ((T : Nat) : Int) = ((k % T : Nat) : Int) := rfl
      have hkT : k % T < T := Nat.mod_lt _ HTp
      have HNk := Lib.hid (HN.out (k % T) (by omega))
      have HLk := Lib.hid (fun j hj => HLN.out (k % T) j hkT hj)
      have HTk := Lib.hid hkT
      generalize k % T = q at hrem hremE HNk HLk HTk hkT
      have hcon : IntKind.i64.wrap (k : Int) = (k : Int) := by rw [IntKind.wrap_i64]; omega
      have HTc := Lib.hid (fun W (hW : Below w3.heap.size w3 W) => (HT.out W (HBw.out.trans (hW.mono HBw.out.size))).mono fun e w' h => (⟨h.1, hW.trans (h.2.mono hW.size)⟩ : _ ∧ Below w3.heap.size w3 w'))
      have HNc := Lib.hid (fun W (hW : Below w3.heap.size w3 W) => (HNk.out W (HBw.out.trans (hW.mono HBw.out.size))).mono (R' := fun e w' => ∃ a cap, e = .returned (.slice a vs.length cap) ∧ IntsIn w' (nthN vs q) a cap ∧ Below w3.heap.size w3 w') fun e w' ⟨a, cap, h1, h2, h3⟩ => ⟨a, cap, h1, h2, hW.trans (h3.mono hW.size)⟩)
      have HR := Lib.hid hr
      clear hr HT HN HNk hkT
      have hr := HR.out
      rcases hr with (⟨j, a, cap, rfl, hI, _, hj, hH, hmin⟩ | ⟨rfl, hall⟩) | ⟨_, rfl⟩
      · have HI := Lib.hid hI
        have HMin := Lib.hid hmin
        have HHj := Lib.hid hH
        clear hI hmin hH
        go_wp2_with fail
        go_region_held3 (fun w' => Below w3.heap.size w3 w' ∧ w'.cell? ⟨w.heap.size, 0, none⟩ = some (.slice av vs.length cv) ∧ w'.cell? ⟨w.heap.size, 1, none⟩ = some (.slice ah hard.length ch) ∧ w'.cell? ⟨w.heap.size, 2, none⟩ = some (.slice ao soft.length co) ∧ w'.cell? ⟨w.heap.size, 3, none⟩ = some (.slice ad ds.length cd) ∧ w'.cell? ⟨w.heap.size, 4, none⟩ = some (.slice ag gs.length cg))
          (refine ⟨?_, ?_, ?_, ?_, ?_, ?_⟩ <;> first | assumption | exact keeps_of_below (by assumption) _ _ (by assumption) | go_keep | exact (by repeat (first | assumption | exact Below.refl _ _ | refine Below.drew ?_ | refine below_drewN ?_ _ | refine Below.alloc ?_ (by first | omega | (simp only [World.size_alloc, World.size_setCell, World.size_drew, World.heap_drewN] <;> omega) | (simp <;> omega)) _ | refine Below.setCell ?_ (by first | omega | (simp only [World.size_alloc, World.size_setCell, World.size_drew, World.heap_drewN] <;> omega) | (simp <;> omega)) _)))
          (first | (go_at_call 24; (with_reducible refine (HTc.out _ (by first | assumption | exact And.left (by assumption))).mono ?_); rintro e w4 ⟨rfl, hb4⟩) | (go_at_call 23; (with_reducible refine (HNc.out _ (by first | assumption | exact And.left (by assumption))).mono ?_); rintro e w5 ⟨nb, nc, rfl, hI5, hb5⟩; have HI5 := Lib.hid hI5; clear hI5))
        have HB5w := Lib.hid (by assumption : Below w3.heap.size w3 w5)
        have HB5 := Lib.hid (HB3.out.trans (HB5w.out.mono (by have := HB3.out.size; simpa using this)))
        clear HTc HNc HR
        ((try clear b0 b1 b2 b3 b4); have b0 := box_cell HB5.out 0; have b1 := box_cell HB5.out 1; have b2 := box_cell HB5.out 2; have b3 := box_cell HB5.out 3; have b4 := box_cell HB5.out 4; (try simp at b0 b1 b2 b3 b4))
        have HAI := Lib.hid (HI.out.keep (keeps_of_below HB5w.out))
        have HAs := Lib.hid (HA0.out HFo.out (nthN vs j) a cap w5 (boxW _ HB5.out) HAI.out)
        rw [HP2.out] at HAs
        simp only [HNl.out] at HAs
        go_wp2_with fail
        refine HAs.out.mono ?_
        rintro e w6 ⟨rfl, hb6⟩
        have HB6 := Lib.hid (HB5.out.trans (hb6.mono (by have := HB5.out.size; simpa using this)))
        have HAI6 := Lib.hid (HAI.out.keep (keeps_of_below hb6))
        have HQI6 := Lib.hid (HI5.out.keep (keeps_of_below hb6))
        clear hb6 HAs
        ((try clear b0 b1 b2 b3 b4); have b0 := box_cell HB6.out 0; have b1 := box_cell HB6.out 1; have b2 := box_cell HB6.out 2; have b3 := box_cell HB6.out 3; have b4 := box_cell HB6.out 4; (try simp at b0 b1 b2 b3 b4))
        have HHt := Lib.hid (HH0.out HFo.out (nthN vs j) a cap w6 (boxW _ HB6.out) HAI6.out)
        rw [HP1.out, HHj.out] at HHt
        simp only [HNl.out] at HHt
        go_wp2_with fail
        refine HHt.out.mono ?_
        rintro e w7 ⟨rfl, hb7⟩
        have HB7 := Lib.hid (HB6.out.trans (hb7.mono (by have := HB6.out.size; simpa using this)))
        have HAI7 := Lib.hid (HAI6.out.keep (keeps_of_below hb7))
        have HQI7 := Lib.hid (HQI6.out.keep (keeps_of_below hb7))
        clear hb7 HHt
        ((try clear b0 b1 b2 b3 b4); have b0 := box_cell HB7.out 0; have b1 := box_cell HB7.out 1; have b2 := box_cell HB7.out 2; have b3 := box_cell HB7.out 3; have b4 := box_cell HB7.out 4; (try simp at b0 b1 b2 b3 b4))
        have HLc := Lib.hid (HLs.out _ _ _ _ _ _ w7 HQI7.out HAI7.out)
        rw [HLk.out j hj] at HLc
        simp only [HNl.out] at HLc
        by_cases hqj : q < j
        · have HQf := Lib.hid (HMin.out q (Nat.zero_le _) hqj)
          have hqd : decide (q < j) = true := by simpa using hqj
          rw [hqd] at HLc
          clear hqd hqj
          go_wp2_with fail
          refine HLc.out.mono ?_
          rintro e w8 ⟨rfl, hb8⟩
          have HB8 := Lib.hid (HB7.out.trans (hb8.mono (by have := HB7.out.size; simpa using this)))
          have HAI8 := Lib.hid (HAI7.out.keep (keeps_of_below hb8))
          have HQI8 := Lib.hid (HQI7.out.keep (keeps_of_below hb8))
          clear hb8 HLc
          ((try clear b0 b1 b2 b3 b4); have b0 := box_cell HB8.out 0; have b1 := box_cell HB8.out 1; have b2 := box_cell HB8.out 2; have b3 := box_cell HB8.out 3; have b4 := box_cell HB8.out 4; (try simp at b0 b1 b2 b3 b4))
          have HHq := Lib.hid (HH0.out HFo.out (nthN vs q) nb nc w8 (boxW _ HB8.out) HQI8.out)
          rw [HP1.out, HQf.out] at HHq
          simp only [HNl.out] at HHq
          go_wp2_with fail
          refine HHq.out.mono ?_
          rintro e w9 ⟨rfl, hb9⟩
          have HB9 := Lib.hid (HB8.out.trans (hb9.mono (by have := HB8.out.size; simpa using this)))
          have HAI9 := Lib.hid (HAI8.out.keep (keeps_of_below hb9))
          clear hb9 HHq
          ((try clear b0 b1 b2 b3 b4); have b0 := box_cell HB9.out 0; have b1 := box_cell HB9.out 1; have b2 := box_cell HB9.out 2; have b3 := box_cell HB9.out 3; have b4 := box_cell HB9.out 4; (try simp at b0 b1 b2 b3 b4))
          have HSc := Lib.hid (HS0.out HFo.out (nthN vs j) a cap w9 (boxW _ HB9.out) HAI9.out)
          rw [HP3.out j HHj.out] at HSc
          simp only [HNl.out] at HSc
          have hle : ((l.length : Int) == (l.length : Int)) = true := by simp
          go_wp2_with fail
          refine HSc.out.mono ?_
          rintro e w10 ⟨rfl, hb10⟩
          have HB10 : Hid (Below w.heap.size w w10) := (boxW _ HB9.out).trans (hb10.mono (boxW _ HB9.out).size)
          clear hb10
          go_wp2_with fail
          refine (HAw.out w10 HB10.out).mono ?_
          rintro e w11 ⟨rfl, hb11⟩
          have HB11 : Hid (Below w.heap.size w w11) := HB10.out.trans (hb11.mono HB10.out.size)
          clear hb11
          go_wp2_with fail
          go_ret
          exact ⟨rfl, HB11.out⟩
        · have hqd : decide (q < j) = false := by simpa using hqj
          rw [hqd] at HLc
          clear hqd hqj
          go_wp2_with fail
          refine HLc.out.mono ?_
          rintro e w9 ⟨rfl, hb9⟩
          have HB9 := Lib.hid (HB7.out.trans (hb9.mono (by have := HB7.out.size; simpa using this)))
          have HAI9 := Lib.hid (HAI7.out.keep (keeps_of_below hb9))
          clear hb9 HLc
          ((try clear b0 b1 b2 b3 b4); have b0 := box_cell HB9.out 0; have b1 := box_cell HB9.out 1; have b2 := box_cell HB9.out 2; have b3 := box_cell HB9.out 3; have b4 := box_cell HB9.out 4; (try simp at b0 b1 b2 b3 b4))
          have HSc := Lib.hid (HS0.out HFo.out (nthN vs j) a cap w9 (boxW _ HB9.out) HAI9.out)
          rw [HP3.out j HHj.out] at HSc
          simp only [HNl.out] at HSc
          have hle : ((l.length : Int) == (l.length : Int)) = true := by simp
          go_wp2_with fail
          refine HSc.out.mono ?_
          rintro e w10 ⟨rfl, hb10⟩
          have HB10 : Hid (Below w.heap.size w w10) := (boxW _ HB9.out).trans (hb10.mono (boxW _ HB9.out).size)
          clear hb10
          go_wp2_with fail
          refine (HAw.out w10 HB10.out).mono ?_
          rintro e w11 ⟨rfl, hb11⟩
          have HB11 : Hid (Below w.heap.size w w11) := HB10.out.trans (hb11.mono HB10.out.size)
          clear hb11
          go_wp2_with fail
          go_ret
          exact ⟨rfl, HB11.out⟩
      · have HAll := Lib.hid (hall q (Nat.zero_le _) HTk.out)
        clear hall
        go_wp2_with fail
        go_region_held3 (fun w' => Below w3.heap.size w3 w' ∧ w'.cell? ⟨w.heap.size, 0, none⟩ = some (.slice av vs.length cv) ∧ w'.cell? ⟨w.heap.size, 1, none⟩ = some (.slice ah hard.length ch) ∧ w'.cell? ⟨w.heap.size, 2, none⟩ = some (.slice ao soft.length co) ∧ w'.cell? ⟨w.heap.size, 3, none⟩ = some (.slice ad ds.length cd) ∧ w'.cell? ⟨w.heap.size, 4, none⟩ = some (.slice ag gs.length cg))
          (refine ⟨?_, ?_, ?_, ?_, ?_, ?_⟩ <;> first | assumption | exact keeps_of_below (by assumption) _ _ (by assumption) | go_keep | exact (by repeat (first | assumption | exact Below.refl _ _ | refine Below.drew ?_ | refine below_drewN ?_ _ | refine Below.alloc ?_ (by first | omega | (simp only [World.size_alloc, World.size_setCell, World.size_drew, World.heap_drewN] <;> omega) | (simp <;> omega)) _ | refine Below.setCell ?_ (by first | omega | (simp only [World.size_alloc, World.size_setCell, World.size_drew, World.heap_drewN] <;> omega) | (simp <;> omega)) _)))
          (first | (go_at_call 24; (with_reducible refine (HTc.out _ (by first | assumption | exact And.left (by assumption))).mono ?_); rintro e w4 ⟨rfl, hb4⟩) | (go_at_call 23; (with_reducible refine (HNc.out _ (by first | assumption | exact And.left (by assumption))).mono ?_); rintro e w5 ⟨nb, nc, rfl, hI5, hb5⟩; have HI5 := Lib.hid hI5; clear hI5))
        have HB5w := Lib.hid (by assumption : Below w3.heap.size w3 w5)
        have HB5 := Lib.hid (HB3.out.trans (HB5w.out.mono (by have := HB3.out.size; simpa using this)))
        clear HTc HNc HR
        ((try clear b0 b1 b2 b3 b4); have b0 := box_cell HB5.out 0; have b1 := box_cell HB5.out 1; have b2 := box_cell HB5.out 2; have b3 := box_cell HB5.out 3; have b4 := box_cell HB5.out 4; (try simp at b0 b1 b2 b3 b4))
        have HHt := Lib.hid (HH0.out HFo.out (nthN vs q) nb nc w5 (boxW _ HB5.out) HI5.out)
        rw [HP1.out, HAll.out] at HHt
        simp only [HNl.out] at HHt
        go_wp2_with fail
        refine HHt.out.mono ?_
        rintro e w6 ⟨rfl, hb6⟩
        have HB6 : Hid (Below w.heap.size w w6) := (boxW _ HB5.out).trans (hb6.mono (boxW _ HB5.out).size)
        clear hb6
        go_wp2_with fail
        refine (HAw.out w6 HB6.out).mono ?_
        rintro e w7 ⟨rfl, hb7⟩
        have HB7 : Hid (Below w.heap.size w w7) := HB6.out.trans (hb7.mono HB6.out.size)
        clear hb7
        go_wp2_with fail
        go_ret
        exact ⟨rfl, HB7.out⟩
      · go_wp2_with fail
        go_region_held3 (fun w' => Below w3.heap.size w3 w' ∧ w'.cell? ⟨w.heap.size, 0, none⟩ = some (.slice av vs.length cv) ∧ w'.cell? ⟨w.heap.size, 1, none⟩ = some (.slice ah hard.length ch) ∧ w'.cell? ⟨w.heap.size, 2, none⟩ = some (.slice ao soft.length co) ∧ w'.cell? ⟨w.heap.size, 3, none⟩ = some (.slice ad ds.length cd) ∧ w'.cell? ⟨w.heap.size, 4, none⟩ = some (.slice ag gs.length cg))
          (refine ⟨?_, ?_, ?_, ?_, ?_, ?_⟩ <;> first | assumption | exact keeps_of_below (by assumption) _ _ (by assumption) | go_keep | exact (by repeat (first | assumption | exact Below.refl _ _ | refine Below.drew ?_ | refine below_drewN ?_ _ | refine Below.alloc ?_ (by first | omega | (simp only [World.size_alloc, World.size_setCell, World.size_drew, World.heap_drewN] <;> omega) | (simp <;> omega)) _ | refine Below.setCell ?_ (by first | omega | (simp only [World.size_alloc, World.size_setCell, World.size_drew, World.heap_drewN] <;> omega) | (simp <;> omega)) _)))
          (first | (go_at_call 24; (with_reducible refine (HTc.out _ (by first | assumption | exact And.left (by assumption))).mono ?_); rintro e w4 ⟨rfl, hb4⟩) | (go_at_call 23; (with_reducible refine (HNc.out _ (by first | assumption | exact And.left (by assumption))).mono ?_); rintro e w5 ⟨nb, nc, rfl, hI5, hb5⟩; have HI5 := Lib.hid hI5; clear hI5))
        have HB5w := Lib.hid (by assumption : Below w3.heap.size w3 w5)
        have HB5 := Lib.hid (HB3.out.trans (HB5w.out.mono (by have := HB3.out.size; simpa using this)))
        clear HTc HNc HR
        ((try clear b0 b1 b2 b3 b4); have b0 := box_cell HB5.out 0; have b1 := box_cell HB5.out 1; have b2 := box_cell HB5.out 2; have b3 := box_cell HB5.out 3; have b4 := box_cell HB5.out 4; (try simp at b0 b1 b2 b3 b4))
        go_wp2_with fail
        refine (HAw.out w5 (boxW _ HB5.out)).mono ?_
        rintro e w7 ⟨rfl, hb7⟩
        have HB7 : Hid (Below w.heap.size w w7) := (boxW _ HB5.out).trans (hb7.mono (boxW _ HB5.out).size)
        clear hb7
        go_wp2_with fail
        go_ret
        exact ⟨rfl, HB7.out⟩
    · have HV := Lib.hid (errF (HV0.out HFo.out w1 (boxW _ HB1.out)) hp)
      clear hp
      go_wp2_with fail
      refine HV.out.mono ?_
      rintro e w2 ⟨⟨en, rfl, hen⟩, hb2⟩
      have HB2 : Hid (Below w.heap.size w w2) := (boxW _ HB1.out).trans (hb2.mono (boxW _ HB1.out).size)
      clear hb2
      go_wp2_with fail
      refine (HAw.out w2 HB2.out).mono ?_
      rintro e w7 ⟨rfl, hb7⟩
      have HB7 : Hid (Below w.heap.size w w7) := HB2.out.trans (hb7.mono HB2.out.size)
      clear hb7
      go_wp2_with fail
      go_ret
      exact ⟨rfl, HB7.out⟩
end Go.Proofs.YtgdphjgedhadoaaGreatDoor
