/- ref18: All. -/
import Derived.Test.YtgdphjgedhadoaaGreatDoorKU
import Derived.Test.YtgdphjgedhadoaaGreatDoorKQ
import Derived.Test.YtgdphjgedhadoaaGreatDoorKT
set_option linter.unusedSimpArgs false
set_option linter.unusedVariables false
set_option linter.unnecessarySimpa false
namespace Go.Proofs.YtgdphjgedhadoaaGreatDoor
open Go.RowKit

theorem elemRw : Elem Tryz.prog 25 30 1 := Elem.of Tryz.underlying25 (by kernel_rfl) (z := .slice none 0 0) (bytes := 24) rfl (by decide) (by decide)
/-- rows of ints of the call's own, as values -/
def RowsAt (w : World) (B : Nat) (xs : List Value) (ls : List (List Int)) : Prop := xs.length = ls.length ∧ ∀ i (h : i < ls.length), ∃ u, xs[i]? = some u ∧ w.ownsRow B 3 1 u (ls[i]'h).length ((ls[i]'h).map (Value.int .i64))
theorem rowsAt_nil (w : World) (B : Nat) : RowsAt w B [] [] := ⟨rfl, fun i h => absurd h (by simp)⟩
theorem RowsAt.imp {w w' : World} {B : Nat} {xs : List Value} {ls : List (List Int)} (h : RowsAt w B xs ls) (hk : ∀ u n ys, w.ownsRow B 3 1 u n ys → w'.ownsRow B 3 1 u n ys) : RowsAt w' B xs ls :=
  ⟨h.1, fun i hi => by obtain ⟨u, h1, h2⟩ := h.2 i hi; exact ⟨u, h1, hk _ _ _ h2⟩⟩
theorem RowsAt.snoc {w : World} {B : Nat} {xs : List Value} {ls : List (List Int)} (h : RowsAt w B xs ls) {u : Value} {l : List Int} (hu : w.ownsRow B 3 1 u l.length (l.map (Value.int .i64))) : RowsAt w B (xs ++ [u]) (ls ++ [l]) := by
  refine ⟨by simp [h.1], fun i hi => ?_⟩
  by_cases e : i < ls.length
  · obtain ⟨v, h1, h2⟩ := h.2 i e
    refine ⟨v, by rw [List.getElem?_append_left (by rw [h.1]; exact e)]; exact h1, ?_⟩
    rw [List.getElem_append_left e]
    exact h2
  · have hi' : i = ls.length := by simp at hi; omega
    subst hi'
    refine ⟨u, by rw [← h.1]; simp, ?_⟩
    simpa using hu
/-- as rows that lie in memory -/
theorem RowsAt.rows {w : World} {B : Nat} {v : Value} {xs : List Value} {ls : List (List Int)} (h : RowsAt w B xs ls) (ho : w.ownsRow B 30 1 v ls.length xs) (hn : ls.length ≤ 1073741824) (hl : ∀ i (hi : i < ls.length), (ls[i]'hi).length ≤ 1073741824) : ∃ a cap, v = .slice a ls.length cap ∧ RowsIn w ls a cap := by
  obtain ⟨a, cap, hv, hS⟩ := slice_of_own ho hn
  refine ⟨a, cap, hv, hS.mono fun i b o hi hq => ?_⟩
  obtain ⟨u, h1, h2⟩ := h.2 i hi
  obtain ⟨a', cap', hu, hI⟩ := ints_of_own h2 (hl i hi)
  refine ⟨ls[i], List.getElem?_eq_getElem hi, a', cap', ?_, hI⟩
  have := hq 0 (by omega)
  rw [Nat.add_zero, Nat.mul_one, Nat.add_zero, h1, hu] at this
  exact this
/-- behind an append to another row, of another type -/
theorem ownsRow_kept_type {w w' : World} {B B' : Nat} {e e' : TypeId} {z z' : Nat} {u v : Value} {n m : Nat} {ys xs : List Value} (h : w.ownsRow B e z u n ys) (ho : w.ownsRow B' e' z' v m xs) (hne : e ≠ e') (hg : w.grownBy w' v.ownBlock) : w'.ownsRow B e z u n ys := by
  refine h.kept hg ?_
  cases hu : u.ownBlock with
  | none => exact Or.inl rfl
  | some k =>
    refine Or.inr (fun e1 => ?_)
    obtain ⟨c1, h1, _⟩ := ownsRow_type h hu
    obtain ⟨c2, h2, _⟩ := ownsRow_type ho e1.symm
    rw [h1] at h2
    simp only [Option.some.injEq, Obj.cells.injEq] at h2
    exact hne h2.2.1
/-- what All returns -/
def AllRet (p : ProbD) (l : List Ex) (most steps : Int) (e : Ending) (w' : World) : Prop :=
  ((ComOk p l steps ∧ 0 ≤ most) ∧ ((∃ ks a cap, allN (hitN p.vars l) (totN p.vars) steps.toNat most.toNat (totN p.vars) [] = some ks ∧ e = .returned (.tuple #[.slice a ks.length cap, .int .i64 0]) ∧ RowsIn w' (ks.map (nthN p.vars)) a cap) ∨ (allN (hitN p.vars l) (totN p.vars) steps.toNat most.toNat (totN p.vars) [] = none ∧ e = .returned (.tuple #[.slice none 0 0, .int .i64 18])))) ∨
  (¬ (ComOk p l steps ∧ 0 ≤ most) ∧ e = .returned (.tuple #[.slice none 0 0, .int .i64 1]))
/-- the state of the loop: the hits that were found, as rows -/
structure Found (w : World) (B : Nat) (vs : List VarD) (v : Value) (acc : List Nat) (xs : List Value) : Prop where
  own : w.ownsRow B 30 1 v acc.length xs
  rows : RowsAt w B xs (acc.map (nthN vs))
theorem Found.below {w w' : World} {B : Nat} {vs : List VarD} {v : Value} {acc : List Nat} {xs : List Value} (h : Found w B vs v acc xs) (hb : Below w.heap.size w w') : Found w' B vs v acc xs :=
  ⟨ownsRow_below h.own hb, h.rows.imp fun _ _ _ ho => ownsRow_below ho hb⟩
theorem Found.out {w : World} {B : Nat} {vs : List VarD} {v : Value} {acc : List Nat} {xs : List Value} (h : Found w B vs v acc xs) (hn : acc.length ≤ 1073741824) (hv : vs.length ≤ 1073741824) : ∃ a cap, v = .slice a acc.length cap ∧ RowsIn w (acc.map (nthN vs)) a cap := by
  have ho := h.own
  obtain ⟨a, cap, hv', hR⟩ := h.rows.rows (v := v) (by rw [List.length_map]; exact ho) (by simpa using hn) (fun i hi => by rw [List.getElem_map, nthN_len]; exact hv)
  exact ⟨a, cap, by rw [hv', List.length_map], hR⟩
theorem Found.snoc {w w' : World} {B : Nat} {vs : List VarD} {v v' u : Value} {acc : List Nat} {xs : List Value} {k : Nat} (h : Found w B vs v acc xs) (hu : w.ownsRow B 3 1 u vs.length ((nthN vs k).map (Value.int .i64))) (ho : w'.ownsRow B 30 1 v' (acc.length + 1) (xs ++ [u])) (hg : (w.alloc (.cells #[u] 30)).grownBy w' v.ownBlock) : Found w' B vs v' (acc ++ [k]) (xs ++ [u]) := by
  have hk : ∀ u n ys, w.ownsRow B 3 1 u n ys → w'.ownsRow B 3 1 u n ys := fun u n ys h1 => ownsRow_kept_type (h1.alloc _) (h.own.alloc _) (by decide) hg
  refine ⟨by rw [List.length_append]; exact ho, ?_⟩
  rw [List.map_append]
  exact (h.rows.imp hk).snoc (by rw [nthN_len]; exact hk _ _ _ hu)
set_option maxRecDepth 100000 in
set_option maxHeartbeats 8000000 in
theorem r18All_any (p : ProbD) (x : ProbA) (l : List Ex) (al : Option Addr) (cl : Nat) (most steps : Int) (w : World) (hE : ProbIn w p x) (hs : ProbSmall p) (hL : ExsIn w l al cl) (hsl : ExsSmall l) :
    Calls Tryz.prog 29 #[probVal p x, .slice al l.length cl, .int .i64 most, .int .i64 steps] w fun e w' => AllRet p l most steps e w' ∧ Below w.heap.size w w' := by
  have HC0 := Lib.hid (fun W (hW : Below w.heap.size w W) => r18common_any p x l al cl steps W (hE.keep (keeps_of_below hW)) hs (hL.keep (keeps_of_below hW)) hsl)
  have HT0 := Lib.hid (fun (hV : VarsOk p.vars) W (hW : Below w.heap.size w W) => Total_any p x W (hE.keep (keeps_of_below hW)) hV)
  have HN0 := Lib.hid (fun (hV : VarsOk p.vars) k (hk : k ≤ 4611686018427387904) W (hW : Below w.heap.size w W) => Nth_own p x k W (hE.keep (keeps_of_below hW)) hV hk)
  have HA0 := Lib.hid (fun A aa ca W (hW : Below w.heap.size w W) (hI : IntsIn W A aa ca) => r18all_any p x l al cl A aa ca W (hE.keep (keeps_of_below hW)) (hL.keep (keeps_of_below hW)) hsl hI)
  have hlenV := hE.vars.2.1
  clear hE hs hL hsl
  by_cases hc : ComOk p l steps
  · obtain ⟨st, rfl⟩ := Int.eq_ofNat_of_zero_le hc.lo
    have hst : st ≤ 262144 := by have := hc.hi; omega
    have HOk := Lib.hid hc
    have htot := hc.prob.vars.tot
    have HTc := Lib.hid (HT0.out hc.prob.vars)
    have HNc := Lib.hid (HN0.out hc.prob.vars)
    rw [errOf_yes hc] at HC0
    clear hc HT0 HN0
    simp only [probVal_eq] at HC0 HTc HNc HA0 ⊢
    obtain ⟨vs, hard, soft, ds, gs⟩ := p
    obtain ⟨av, cv, ah, ch, ao, co, ad, cd, ag, cg⟩ := x
    simp only at HC0 HTc HNc HA0 HOk htot hlenV ⊢
    have HC := Lib.hid (HC0.out (w.alloc (.cells #[.slice av vs.length cv, .slice ah hard.length ch, .slice ao soft.length co, .slice ad ds.length cd, .slice ag gs.length cg] 27)) ((Below.refl _ _).alloc (Nat.le_refl _) _))
    clear HC0
    by_cases hm : 0 ≤ most
    · obtain ⟨m, rfl⟩ := Int.eq_ofNat_of_zero_le hm
      have HR0 : Hid (∀ k, hitN vs l k = allS vs l (nthN vs k)) := fun _ => rfl
      have HNL := Lib.hid (nthN_len vs)
      have HRes : Hid (∀ e w', ((∃ ks a cap, allN (hitN vs l) (totN vs) st m (totN vs) [] = some ks ∧ e = .returned (.tuple #[.slice a ks.length cap, .int .i64 0]) ∧ RowsIn w' (ks.map (nthN vs)) a cap) ∨ (allN (hitN vs l) (totN vs) st m (totN vs) [] = none ∧ e = .returned (.tuple #[.slice none 0 0, .int .i64 18]))) → AllRet ⟨vs, hard, soft, ds, gs⟩ l (m : Int) (st : Int) e w') := fun e w' h => Or.inl ⟨⟨HOk.out, by omega⟩, h⟩
      generalize AllRet ⟨vs, hard, soft, ds, gs⟩ l (m : Int) (st : Int) = R at HRes ⊢
      generalize totN vs = T at HTc htot HRes
      generalize hitN vs l = H at HR0 HRes
      have hmm : ¬ ((m : Int) < 0) := by omega
      clear hm HOk
      go_enter Tryz.func29, Tryz.ntmps29
      go_wp2_with fail
      refine HC.out.mono ?_
      rintro e w1 ⟨rfl, hb1⟩
      simp only [World.size_alloc] at hb1
      have b0 := box_cell hb1 0
      have b1 := box_cell hb1 1
      have b2 := box_cell hb1 2
      have b3 := box_cell hb1 3
      have b4 := box_cell hb1 4
      (try simp at b0 b1 b2 b3 b4)
      have Hb1 := Lib.hid hb1
      have HT := Lib.hid (HTc.out w1 (boxW _ hb1))
      clear hb1 HC HTc
      go_wp2_with fail
      refine HT.out.mono ?_
      rintro e w2 ⟨rfl, hb2⟩
      have Hb2 := Lib.hid (Hb1.out.trans (hb2.mono (by have := Hb1.out.size; simpa using this)))
      clear hb2 b0 b1 b2 b3 b4
      go_wp2_with fail
      go_loopw [11, 13, 14] (fun v i _ wr => ∃ (k : Nat) (acc : List Nat) (xs : List Value), i = .int .i64 k ∧ k ≤ T ∧ acc.length ≤ k ∧ Hid (allN H T st m T [] = allN H T st m (T - k) acc) ∧ Found wr (w.heap.size + 1) vs v acc xs ∧ Below (w.heap.size + 1) (w.alloc (.cells #[.slice av vs.length cv, .slice ah hard.length ch, .slice ao soft.length co, .slice ad ds.length cd, .slice ag gs.length cg] 27)) wr) (fun _ i _ _ => T - (intOf i).toNat)
      case atStart => exact ⟨0, [], [], rfl, Nat.zero_le _, Nat.le_refl _, rfl, ⟨World.ownsRow_nil _ _ _ _, rowsAt_nil _ _⟩, Hb2.out⟩
      case round =>
        obtain ⟨k, acc, xs, rfl, hk, hacc, HS, hF, hB⟩ := hrel
        have HB := Lib.hid hB
        have HBw := Lib.hid (boxW _ hB)
        have HF := Lib.hid hF
        have hzr := hB.size
        simp only [World.size_alloc] at hzr
        have b0 := box_cell hB 0
        have b1 := box_cell hB 1
        have b2 := box_cell hB 2
        have b3 := box_cell hB 3
        have b4 := box_cell hB 4
        (try simp at b0 b1 b2 b3 b4)
        obtain ⟨va, vc, hv, hRw⟩ := hF.out (by omega) hlenV
        subst hv
        have HRw := Lib.hid hRw
        clear hB hF hRw
        by_cases hlt : k < T
        · by_cases ham : acc.length < m
          · by_cases hs : k < st
            · have HSt := Lib.hid (HS.out.trans (allN_step hlt ham hs))
              have HNn := Lib.hid (HNc.out k (by omega) wr HBw.out)
              clear HS HRw
              cases hh : H k
              · rw [hh, if_neg (by simp)] at HSt
                have Hh : Hid (allS vs l (nthN vs k) = false) := by show _ = _; rw [← HR0.out]; exact hh
                clear hh
                go_wp2_with fail
                refine HNn.out.mono ?_
                rintro e w3 ⟨b, rfl, ho, hb3⟩
                obtain ⟨a3, c3, hv3, hI⟩ := ints_of_own ho (by rw [HNL.out]; exact hlenV)
                injection hv3 with e1 e2 e3
                subst e1 e3
                have HAc := Lib.hid (HA0.out _ _ _ w3 (HBw.out.trans (hb3.mono HBw.out.size)) hI)
                rw [Hh.out] at HAc
                have kk := keeps_of_below hb3
                have b0 := kk _ _ b0
                have b1 := kk _ _ b1
                have b2 := kk _ _ b2
                have b3 := kk _ _ b3
                have b4 := kk _ _ b4
                have H3 := Lib.hid (HB.out.trans (hb3.mono (by simpa using hzr)))
                have HF3 := Lib.hid (HF.out.below hb3)
                clear ho hI hb3 kk e2
                go_wp2_with fail
                refine HAc.out.mono ?_
                rintro e w4 ⟨rfl, hb4⟩
                have H4 := Lib.hid (H3.out.trans (hb4.mono (by have := H3.out.size; simpa using this)))
                have HF4 := Lib.hid (HF3.out.below hb4)
                clear hb4
                go_wp2_with fail
                go_roundw
                case rel => exact ⟨k + 1, acc, xs, by go_num, by omega, by omega, HSt.out, HF4.out, H4.out⟩
                case measure => simp [intOf]; omega
              · rw [hh, if_pos rfl] at HSt
                have Hh : Hid (allS vs l (nthN vs k) = true) := by show _ = _; rw [← HR0.out]; exact hh
                clear hh
                go_wp2_with fail
                refine HNn.out.mono ?_
                rintro e w3 ⟨b, rfl, ho, hb3⟩
                obtain ⟨a3, c3, hv3, hI⟩ := ints_of_own ho (by rw [HNL.out]; exact hlenV)
                injection hv3 with e1 e2 e3
                subst e1 e3
                have HAc := Lib.hid (HA0.out _ _ _ w3 (HBw.out.trans (hb3.mono HBw.out.size)) hI)
                rw [Hh.out] at HAc
                have kk := keeps_of_below hb3
                have b0 := kk _ _ b0
                have b1 := kk _ _ b1
                have b2 := kk _ _ b2
                have b3 := kk _ _ b3
                have b4 := kk _ _ b4
                have H3 := Lib.hid (HB.out.trans (hb3.mono (by simpa using hzr)))
                have HF3 := Lib.hid (HF.out.below hb3)
                have HO3 := Lib.hid (own_base ho (show w.heap.size + 1 ≤ wr.heap.size by omega))
                clear ho hI hb3 kk e2
                go_wp2_with fail
                refine HAc.out.mono ?_
                rintro e w4 ⟨rfl, hb4⟩
                have H4 := Lib.hid (H3.out.trans (hb4.mono (by have := H3.out.size; simpa using this)))
                have HF4 := Lib.hid (HF3.out.below hb4)
                have HO4 := Lib.hid (ownsRow_below HO3.out hb4)
                have HO4' := HO4
                rw [HNL.out] at HO4'
                have hz4 := H4.out.size
                simp only [World.size_alloc] at hz4
                have HOw := Lib.hid HF4.out.own
                clear hb4 b0 b1 b2 b3 b4
                go_wp2_with (at_builtin; go_must (refine own_app elemRw _ rfl (.tmp 47) (.tmp 49) rfl (w.heap.size + 1) _ acc.length xs rfl HOw.out [.slice (some ⟨b, 0, none⟩) (nthN vs k).length (nthN vs k).length] rfl (by simp [Value.oneCell']) _ 1 rfl (by simp) (by omega) (by omega) ?_))
                intro v' w5 ho5 hg5
                have H5 := Lib.hid (Below.grown (H4.out.alloc (by omega) _) hg5 (by simp; omega) (fun q hq => (HOw.out.lt q hq).1))
                have HF5 := Lib.hid (HF4.out.snoc (by rw [HNL.out] at HO4 ⊢; exact HO4.out) ho5 hg5)
                clear ho5 hg5
                go_wp2_with fail
                go_roundw
                case rel => exact ⟨k + 1, acc ++ [k], _, by go_num, by omega, by simp; omega, HSt.out, HF5.out, H5.out⟩
                case measure => simp [intOf]; omega
            · have HSt := Lib.hid (HS.out.trans (allN_none hlt ham (by omega)))
              go_wp2_with fail
              go_ret2
              exact ⟨HRes.out _ _ (Or.inr ⟨HSt.out, rfl⟩), HBw.out⟩
          · have HSt := Lib.hid (HS.out.trans (allN_full (by omega)))
            go_wp2_with fail
            go_ret2
            exact ⟨HRes.out _ _ (Or.inl ⟨acc, va, vc, HSt.out, rfl, HRw.out⟩), HBw.out⟩
        · have HSt := Lib.hid (HS.out.trans (allN_end (by omega)))
          go_wp2_with fail
          go_ret2
          exact ⟨HRes.out _ _ (Or.inl ⟨acc, va, vc, HSt.out, rfl, HRw.out⟩), HBw.out⟩
    · have HNo : Hid (¬ (ComOk ⟨vs, hard, soft, ds, gs⟩ l (st : Int) ∧ 0 ≤ most)) := fun h => hm h.2
      have hmm : most < 0 := by omega
      clear hm
      go_enter Tryz.func29, Tryz.ntmps29
      go_wp2_with fail
      refine HC.out.mono ?_
      rintro e w1 ⟨rfl, hb1⟩
      simp only [World.size_alloc] at hb1
      have HB := Lib.hid (boxW _ hb1)
      clear hb1
      go_wp2_with fail
      go_ret2
      exact ⟨Or.inr ⟨HNo.out, rfl⟩, HB.out⟩
  · have HNo : Hid (¬ (ComOk p l steps ∧ 0 ≤ most)) := fun h => hc h.1
    rw [errOf_no hc] at HC0
    clear hc HT0 HN0 HA0
    simp only [probVal_eq] at HC0 ⊢
    obtain ⟨vs, hard, soft, ds, gs⟩ := p
    obtain ⟨av, cv, ah, ch, ao, co, ad, cd, ag, cg⟩ := x
    simp only at HC0 HNo ⊢
    have HC := Lib.hid (HC0.out (w.alloc (.cells #[.slice av vs.length cv, .slice ah hard.length ch, .slice ao soft.length co, .slice ad ds.length cd, .slice ag gs.length cg] 27)) ((Below.refl _ _).alloc (Nat.le_refl _) _))
    clear HC0
    go_enter Tryz.func29, Tryz.ntmps29
    go_wp2_with fail
    refine HC.out.mono ?_
    rintro e w1 ⟨rfl, hb1⟩
    simp only [World.size_alloc] at hb1
    have HB := Lib.hid (boxW _ hb1)
    clear hb1
    go_wp2_with fail
    go_ret2
    exact ⟨Or.inr ⟨HNo.out, rfl⟩, HB.out⟩
end Go.Proofs.YtgdphjgedhadoaaGreatDoor

/- search: All. -/
namespace Go.Proofs.YtgdphjgedhadoaaGreatDoor
open Go.RowKit

def lenOf : Value → Nat
  | .slice _ n _ => n
  | _ => 0
theorem Found.two {w w' : World} {B bf B1 : Nat} {vF : Value} {vs : List VarD} {v : Value} {acc : List Nat} {xs : List Value} (h : Found w B1 vs v acc xs) (ht : Two B bf vF w w') (hbf : bf < B1) (hvb : ∀ k, vF.ownBlock = some k → k < B1) : Found w' B1 vs v acc xs := by
  have hk : ∀ {e : TypeId} {u : Value} {n : Nat} {ys : List Value}, w.ownsRow B1 e 1 u n ys → w'.ownsRow B1 e 1 u n ys := fun {e u n ys} ho =>
    ht.own ho (fun he => by have := (ho.lt _ he).1; omega) (fun g hg he => by have h1 := (ho.lt _ hg).1; have h2 := hvb g he.symm; omega)
  exact ⟨hk h.own, h.rows.imp fun _ _ _ ho => hk ho⟩
theorem Fin.grown {w w' : World} {B bf B1 : Nat} {vF v : Value} {pv : Array Value} {lv : Value} {A : List Int} {over : Bool} {steps : Int} {m : Nat} {xs : List Value} (h : Fin w B bf vF pv lv A over steps) (ho : w.ownsRow B1 30 1 v m xs) (o : Obj) (hg : (w.alloc o).grownBy w' v.ownBlock) : Fin w' B bf vF pv lv A over steps := by
  have hlt := lt_of_block h.blk
  refine ⟨h.hB, ?_, ownsRow_kept_type (h.own.alloc _) (ho.alloc _) (by decide) hg⟩
  rw [hg.block bf (by simp; omega) (ownsRow_ne ho h.blk (by decide)), Below.heap_alloc _ _ _ hlt]
  exact h.blk
set_option maxRecDepth 100000 in
set_option maxHeartbeats 8000000 in
theorem All_any (p : ProbD) (x : ProbA) (l : List Ex) (al : Option Addr) (cl : Nat) (most steps : Int) (w : World) (hE : ProbIn w p x) (hs : ProbSmall p) (hL : ExsIn w l al cl) (hsl : ExsSmall l) (hG : Glob w) :
    Calls Tryz.prog 28 #[probVal p x, .slice al l.length cl, .int .i64 most, .int .i64 steps] w fun e w' => AllRet p l most steps e w' ∧ Below w.heap.size w w' := by
  have HB0 := Lib.hid (fun W (hW : Below w.heap.size w W) => begin_any p x l al cl steps W (hE.keep (keeps_of_below hW)) hs (hL.keep (keeps_of_below hW)) hsl (hG.below hW))
  have HH0 := Lib.hid (fun W0 (hW : Below w.heap.size w W0) (hc : ComOk p l steps) bf v k s W (hb : Below W0.heap.size W0 W) (hF : Fin W W0.heap.size bf v (probVals p x) (.slice al l.length cl) (nthN p.vars k) (decide (totN p.vars ≤ k)) (s : Nat)) (hk : k ≤ totN p.vars) (hs : s ≤ 262144) => (hit_any W0.heap.size bf v p x l al cl k s W0 W rfl (hG.below hW) (hE.keep (keeps_of_below hW)) hc.prob.vars (hL.keep (keeps_of_below hW)) hsl hb hF hk hs).mono fun e w' h => (⟨h.1, h.2.1, h.2.2, hb.trans (h.2.2.below hF.hB hb.size (fun k hk => (hF.own.lt k hk).1))⟩ : _ ∧ _ ∧ _ ∧ Below W0.heap.size W0 w'))
  have hlenV := hE.vars.2.1
  clear hE hs hL hsl hG
  simp only [probVal_eq] at HB0 ⊢
  obtain ⟨vs, hard, soft, ds, gs⟩ := p
  obtain ⟨av, cv, ah, ch, ao, co, ad, cd, ag, cg⟩ := x
  simp only at HB0 HH0 hlenV ⊢
  have hPB : Below w.heap.size w (w.alloc (.cells #[.slice av vs.length cv, .slice ah hard.length ch, .slice ao soft.length co, .slice ad ds.length cd, .slice ag gs.length cg] 27)) := (Below.refl _ _).alloc (Nat.le_refl _) _
  have HB := Lib.hid (HB0.out (w.alloc (.cells #[.slice av vs.length cv, .slice ah hard.length ch, .slice ao soft.length co, .slice ad ds.length cd, .slice ag gs.length cg] 27)) hPB)
  have HH := Lib.hid (HH0.out (w.alloc (.cells #[.slice av vs.length cv, .slice ah hard.length ch, .slice ao soft.length co, .slice ad ds.length cd, .slice ag gs.length cg] 27)) hPB)
  have HPs : Hid (((w.alloc (.cells #[.slice av vs.length cv, .slice ah hard.length ch, .slice ao soft.length co, .slice ad ds.length cd, .slice ag gs.length cg] 27))).heap.size = w.heap.size + 1) := by show _ = _; simp
  clear HB0 HH0
  by_cases hm : 0 ≤ most
  · obtain ⟨m, rfl⟩ := Int.eq_ofNat_of_zero_le hm
    have hmm : ¬ ((m : Int) < 0) := by omega
    clear hm
    go_enter Tryz.func28, Tryz.ntmps28
    go_wp2_with fail
    refine HB.out.mono ?_
    rintro e w1 ⟨hr, hb1⟩
    have Hb1 := Lib.hid hb1
    have HBw : Hid (Below w.heap.size w w1) := hPB.trans (hb1.mono hPB.size)
    clear hb1
    rcases hr with ⟨hok, bf, vF, rfl, hF⟩ | ⟨hno, rfl⟩
    · obtain ⟨st, rfl⟩ := Int.eq_ofNat_of_zero_le hok.lo
      have hst : st ≤ 262144 := by have := hok.hi; omega
      have htot := hok.prob.vars.tot
      have hpos := totN_pos vs
      have HOk := Lib.hid hok
      have HHc := Lib.hid (HH.out hok bf vF)
      have hbf := lt_of_block hF.blk
      have HVb := Lib.hid (fun k hk => (hF.own.lt k hk).2)
      have HNe := Lib.hid hF.ne
      have HF0 : Hid (Fin w1 ((w.alloc (.cells #[.slice av vs.length cv, .slice ah hard.length ch, .slice ao soft.length co, .slice ad ds.length cd, .slice ag gs.length cg] 27))).heap.size bf vF (probVals ⟨vs, hard, soft, ds, gs⟩ ⟨av, cv, ah, ch, ao, co, ad, cd, ag, cg⟩) (.slice al l.length cl) (nthN vs 0) (decide (totN vs ≤ 0)) (st : Nat)) := by
        have h0 : decide (totN vs ≤ 0) = false := by simp; omega
        show Fin _ _ _ _ _ _ _ _ _
        rw [h0]; exact hF
      have HRes : Hid (∀ e w', ((∃ ks a cap, allN (hitN vs l) (totN vs) st m (totN vs) [] = some ks ∧ e = .returned (.tuple #[.slice a ks.length cap, .int .i64 0]) ∧ RowsIn w' (ks.map (nthN vs)) a cap) ∨ (allN (hitN vs l) (totN vs) st m (totN vs) [] = none ∧ e = .returned (.tuple #[.slice none 0 0, .int .i64 18]))) → AllRet ⟨vs, hard, soft, ds, gs⟩ l (m : Int) (st : Int) e w') := fun e w' h => Or.inl ⟨⟨HOk.out, by omega⟩, h⟩
      clear hok hF HH HB HOk
      generalize totN vs = T at *
      generalize hitN vs l = H at *
      go_wp2_with fail
      go_loopw [12, 13, 14] (fun v _ _ wr => ∃ (k s : Nat) (acc : List Nat) (xs : List Value), Hid (k + s = st) ∧ k ≤ T ∧ acc.length ≤ k ∧ Hid (allN H T st m T [] = allN H T st m (T - k) acc) ∧ Found wr w1.heap.size vs v acc xs ∧ Hid (Fin wr ((w.alloc (.cells #[.slice av vs.length cv, .slice ah hard.length ch, .slice ao soft.length co, .slice ad ds.length cd, .slice ag gs.length cg] 27))).heap.size bf vF (probVals ⟨vs, hard, soft, ds, gs⟩ ⟨av, cv, ah, ch, ao, co, ad, cd, ag, cg⟩) (.slice al l.length cl) (nthN vs k) (decide (T ≤ k)) (s : Nat)) ∧ Hid (Below ((w.alloc (.cells #[.slice av vs.length cv, .slice ah hard.length ch, .slice ao soft.length co, .slice ad ds.length cd, .slice ag gs.length cg] 27))).heap.size (w.alloc (.cells #[.slice av vs.length cv, .slice ah hard.length ch, .slice ao soft.length co, .slice ad ds.length cd, .slice ag gs.length cg] 27)) wr) ∧ w1.heap.size ≤ wr.heap.size) (fun v _ _ _ => m - lenOf v)
      case atStart => exact ⟨0, st, [], [], Nat.zero_add _, Nat.zero_le _, Nat.le_refl _, rfl, ⟨World.ownsRow_nil _ _ _ _, rowsAt_nil _ _⟩, HF0.out, Hb1.out, Nat.le_refl _⟩
      case round =>
        obtain ⟨k, s, acc, xs, Hks, hk, hacc, HS, hFo, HF, HB, hzw⟩ := hrel
        have HBr : Hid (Below w.heap.size w wr) := hPB.trans (HB.out.mono hPB.size)
        have HFo := Lib.hid hFo
        obtain ⟨va, vc, hv, hRw⟩ := hFo.out (by omega) hlenV
        subst hv
        have HRw := Lib.hid hRw
        clear hFo hRw
        by_cases ham : acc.length < m
        · have HC := Lib.hid (HHc.out k s wr HB.out HF.out hk (by have := Hks.out; omega))
          have Hhit := Lib.hid (allN_hit (H := H) (T := T) (S := st) ham s k Hks.out hk)
          have Hmiss := Lib.hid (allN_miss (H := H) (T := T) (S := st) ham s k Hks.out hk)
          generalize scanN H T s k = r at *
          obtain ⟨r1, r2, r3⟩ := r
          (try simp only at HC Hhit Hmiss)
          go_wp2_with fail
          refine HC.out.mono ?_
          rintro e w2 ⟨hr, hF2, ht2, hb2⟩
          have HB2 := Lib.hid hb2
          have HF2 := Lib.hid hF2
          have HFo2 := Lib.hid (HFo.out.two ht2 (Nat.lt_of_lt_of_le hbf (Nat.le_refl _)) HVb.out)
          have hz2 := ht2.size
          clear hb2 hF2 ht2 HC
          rcases hr with ⟨j, u, h1, rfl, ho⟩ | ⟨h1, rfl⟩
          · (try simp only at h1)
            obtain ⟨q1, q2, q3, q4, q5, q6⟩ := Hhit.out j h1
            (try simp only at q1 q2)
            subst q1
            have HS2 := Lib.hid (HS.out.trans q6)
            obtain ⟨ua, uc, hu, _⟩ := slice_of_own ho hlenV
            subst hu
            have HO2 := Lib.hid (own_base ho hzw)
            have HQ2 : Hid (j + 1 + r3 = st) := q2
            clear ho q2 q5 q6 Hhit Hmiss h1 HRw
            have HOw := Lib.hid HFo2.out.own
            go_wp2_with (at_builtin; go_must (refine own_app elemRw _ rfl (.tmp 49) (.tmp 51) rfl w1.heap.size _ acc.length xs rfl HOw.out [.slice ua vs.length uc] rfl (by simp [Value.oneCell']) _ 1 rfl (by simp) (by omega) (by omega) ?_))
            intro v' w5 ho5 hg5
            have H5 := Lib.hid (Below.grown (HB2.out.alloc HB2.out.size _) hg5 (by have := HB2.out.size; simp at this ⊢; omega) (fun q hq => by have h1 := (HOw.out.lt q hq).1; have h2 := Hb1.out.size; omega))
            have HFo5 := Lib.hid (HFo2.out.snoc HO2.out ho5 hg5)
            have HF5 := Lib.hid (HF2.out.grown HOw.out _ hg5)
            have hz5 := hg5.size
            simp only [World.size_alloc] at hz5
            obtain ⟨a5, c5, hv5, _⟩ := slice_of_own ho5 (by omega)
            subst hv5
            clear ho5 hg5
            go_wp2_with fail
            go_roundw
            case rel => exact ⟨j + 1, r3, acc ++ [j], _, HQ2.out, by omega, by simp; omega, HS2.out, HFo5.out, HF5.out, H5.out, by omega⟩
            case measure => simp [lenOf]; omega
          · (try simp only at h1)
            have hq := Hmiss.out h1
            (try simp only at hq)
            have f7 := HF2.out.cell 7
            simp [probVals] at f7
            have HR2 : Hid (RowsIn w2 (acc.map (nthN vs)) va vc) := by
              obtain ⟨a9, c9, hv9, hR9⟩ := HFo2.out.out (by omega) hlenV
              injection hv9 with e1 e2 e3
              subst e1 e3
              exact hR9
            clear Hhit Hmiss h1 HRw
            by_cases hov : T ≤ r2
            · rw [if_pos hov] at hq
              have HS2 := Lib.hid (HS.out.trans hq)
              have hov' : decide (T ≤ r2) = true := by simpa using hov
              rw [hov'] at f7
              clear hov hov' hq
              go_wp2_with fail
              go_ret2
              exact ⟨HRes.out _ _ (Or.inl ⟨acc, va, vc, HS2.out, rfl, HR2.out⟩), hPB.trans (HB2.out.mono hPB.size)⟩
            · rw [if_neg hov] at hq
              have HS2 := Lib.hid (HS.out.trans hq)
              have hov' : decide (T ≤ r2) = false := by simpa using hov
              rw [hov'] at f7
              clear hov hov' hq
              go_wp2_with fail
              go_ret2
              exact ⟨HRes.out _ _ (Or.inr ⟨HS2.out, rfl⟩), hPB.trans (HB2.out.mono hPB.size)⟩
        · have HSt := Lib.hid (HS.out.trans (allN_full (by omega)))
          go_wp2_with fail
          go_ret2
          exact ⟨HRes.out _ _ (Or.inl ⟨acc, va, vc, HSt.out, rfl, HRw.out⟩), HBr.out⟩
    · have HNo : Hid (¬ (ComOk ⟨vs, hard, soft, ds, gs⟩ l steps ∧ 0 ≤ (m : Int))) := fun h => hno h.1
      clear hno HH
      go_wp2_with fail
      (try rw [Exit.noGoto_ret])
      go_ret2
      exact ⟨Or.inr ⟨HNo.out, rfl⟩, HBw.out⟩
  · have HNo : Hid (¬ (ComOk ⟨vs, hard, soft, ds, gs⟩ l steps ∧ 0 ≤ most)) := fun h => hm h.2
    have hmm : most < 0 := by omega
    clear hm HH
    go_enter Tryz.func28, Tryz.ntmps28
    go_wp2_with fail
    refine HB.out.mono ?_
    rintro e w1 ⟨hr, hb1⟩
    have HBw : Hid (Below w.heap.size w w1) := hPB.trans (hb1.mono hPB.size)
    clear hb1
    rcases hr with ⟨hok, bf, vF, rfl, hF⟩ | ⟨hno, rfl⟩
    · clear hok hF
      go_wp2_with fail
      (try rw [Exit.noGoto_ret])
      go_ret2
      exact ⟨Or.inr ⟨HNo.out, rfl⟩, HBw.out⟩
    · clear hno
      go_wp2_with fail
      (try rw [Exit.noGoto_ret])
      go_ret2
      exact ⟨Or.inr ⟨HNo.out, rfl⟩, HBw.out⟩
end Go.Proofs.YtgdphjgedhadoaaGreatDoor

/- law: SearchAll. -/
namespace Go.Proofs.YtgdphjgedhadoaaGreatDoor
open Go.RowKit
attribute [local go_sem ↓] Go.wp_at_zero Go.wp_at_succ

/-- what All answers is told by the problem alone -/
theorem AllRet.out (p : ProbD) (l : List Ex) (most steps : Int) : ∃ (L : List (List Int)) (err : Int), ∀ e w', AllRet p l most steps e w' → ∃ a cap, e = .returned (.tuple #[.slice a L.length cap, .int .i64 err]) ∧ RowsIn w' L a cap := by
  have hnil : ∀ w' : World, RowsIn w' [] none 0 := fun w' => ⟨by simp, by simp, Or.inl rfl⟩
  by_cases hc : ComOk p l steps ∧ 0 ≤ most
  · cases hr : allN (hitN p.vars l) (totN p.vars) steps.toNat most.toNat (totN p.vars) [] with
    | some ks =>
      refine ⟨ks.map (nthN p.vars), 0, fun e w' h => ?_⟩
      rcases h with ⟨_, ⟨ks', a, cap, h1, h2, h3⟩ | ⟨h1, _⟩⟩ | ⟨h, _⟩
      · rw [hr] at h1
        obtain rfl := Option.some.inj h1
        exact ⟨a, cap, by rw [h2, List.length_map], h3⟩
      · rw [hr] at h1; simp at h1
      · exact absurd hc h
    | none =>
      refine ⟨[], 18, fun e w' h => ?_⟩
      rcases h with ⟨_, ⟨ks', a, cap, h1, h2, h3⟩ | ⟨_, h1⟩⟩ | ⟨h, _⟩
      · rw [hr] at h1; simp at h1
      · exact ⟨none, 0, h1, hnil _⟩
      · exact absurd hc h
  · refine ⟨[], 1, fun e w' h => ?_⟩
    rcases h with ⟨h, _⟩ | ⟨_, h⟩
    · exact absurd h hc
    · exact ⟨none, 0, h, hnil _⟩
set_option maxRecDepth 100000 in
set_option maxHeartbeats 8000000 in
theorem SearchAll_any (p : ProbD) (x : ProbA) (l : List Ex) (al : Option Addr) (cl : Nat) (most steps : Int) (w : World) (hE : ProbIn w p x) (hL : ExsIn w l al cl) (hG : Glob w) :
    Calls Tryz.prog 6 #[probVal p x, .slice al l.length cl, .agg #[.int .i64 most, .int .i64 steps]] w fun e w' => e = .returned (.bool true) ∧ Below w.heap.size w w' := by
  have HFw0 := Lib.hid (fun W (hW : Below w.heap.size w W) => few_any p x l al cl W (hE.keep (keeps_of_below hW)) (hL.keep (keeps_of_below hW)))
  have HF0 := Lib.hid (fun (hf : FewOk p l) W (hW : Below w.heap.size w W) => All_any p x l al cl most steps W (hE.keep (keeps_of_below hW)) hf.small (hL.keep (keeps_of_below hW)) hf.exsSmall (hG.below hW))
  have HR0 := Lib.hid (fun (hf : FewOk p l) W (hW : Below w.heap.size w W) => r18All_any p x l al cl most steps W (hE.keep (keeps_of_below hW)) hf.small (hL.keep (keeps_of_below hW)) hf.exsSmall)
  have HAw := Lib.hid (fun W (hW : Below w.heap.size w W) => awake_any W (hG.below hW))
  obtain ⟨L, err, hO⟩ := AllRet.out p l most steps
  have HO := Lib.hid hO
  have HIn := Lib.hid (fun A W aa ca ab cb (hA : IntsIn W A aa ca) (hB : IntsIn W A ab cb) => ints_any A aa ca A ab cb W hA hB)
  simp only [decide_true] at HIn
  clear hE hL hG hO
  simp only [probVal_eq] at HFw0 HF0 HR0 ⊢
  obtain ⟨vs, hard, soft, ds, gs⟩ := p
  obtain ⟨av, cv, ah, ch, ao, co, ad, cd, ag, cg⟩ := x
  simp only at HFw0 HF0 HR0 ⊢
  have hPB : Below w.heap.size w ((w.alloc (.cells #[.slice av vs.length cv, .slice ah hard.length ch, .slice ao soft.length co, .slice ad ds.length cd, .slice ag gs.length cg] 27)).alloc (.cells #[.int .i64 most, .int .i64 steps] 49)) := ((Below.refl _ _).alloc (Nat.le_refl _) _).alloc (by simp) _
  have HFw := Lib.hid (HFw0.out _ hPB)
  clear hPB HFw0
  go_enter Tryz.func6, Tryz.ntmps6
  go_wp2_with fail
  refine HFw.out.mono ?_
  rintro e w1 ⟨⟨b, rfl, hbf⟩, hb1⟩
  simp only [World.size_alloc] at hb1
  have HB1 := Lib.hid hb1
  have hz1 := hb1.size
  simp only [World.size_alloc] at hz1
  clear hb1
  cases b
  · clear hbf
    go_wp2_with fail
    refine (HAw.out w1 (below_two HB1.out)).mono ?_
    rintro e w2 ⟨rfl, hb2⟩
    have HB2 : Hid (Below w.heap.size w w2) := (below_two HB1.out).trans (hb2.mono (below_two HB1.out).size)
    clear hb2
    go_wp2_with fail
    go_ret
    exact ⟨rfl, HB2.out⟩
  · have HFo := Lib.hid (hbf rfl)
    clear hbf
    have b0 := two_cell HB1.out 0
    have b1 := two_cell HB1.out 1
    have b2 := two_cell HB1.out 2
    have b3 := two_cell HB1.out 3
    have b4 := two_cell HB1.out 4
    have d0 := two_cell' HB1.out 0
    have d1 := two_cell' HB1.out 1
    (try simp at b0 b1 b2 b3 b4 d0 d1)
    go_wp2_with fail
    refine (HF0.out HFo.out w1 (below_two HB1.out)).mono ?_
    rintro e w2 ⟨hr, hb2⟩
    obtain ⟨a1, c1, rfl, hI1⟩ := HO.out _ _ hr
    have HB2 := Lib.hid (HB1.out.trans (hb2.mono hz1))
    have HI1 := Lib.hid hI1
    have hz2 := HB2.out.size
    simp only [World.size_alloc] at hz2
    clear hr hb2 hI1 b0 b1 b2 b3 b4 d0 d1
    have b0 := two_cell HB2.out 0
    have b1 := two_cell HB2.out 1
    have b2 := two_cell HB2.out 2
    have b3 := two_cell HB2.out 3
    have b4 := two_cell HB2.out 4
    have d0 := two_cell' HB2.out 0
    have d1 := two_cell' HB2.out 1
    (try simp at b0 b1 b2 b3 b4 d0 d1)
    go_wp2_with fail
    refine (HR0.out HFo.out w2 (below_two HB2.out)).mono ?_
    rintro e w3 ⟨hr, hb3⟩
    obtain ⟨a2, c2, rfl, hI2⟩ := HO.out _ _ hr
    have HB3 := Lib.hid (HB2.out.trans (hb3.mono hz2))
    have HI3 := Lib.hid (HI1.out.keep (keeps_of_below hb3))
    have HI2 := Lib.hid hI2
    have hlL := hI2.2.1
    have HAd3 := Lib.hid HI3.out.addr
    have HAd2 := Lib.hid HI2.out.addr
    clear hr hb3 hI2 b0 b1 b2 b3 b4 d0 d1 HI1
    have HBw := Lib.hid (below_two HB3.out)
    have hee : (err != err) = false := by simp
    have hll : ((L.length : Int) != (L.length : Int)) = false := by simp
    go_wp2_with fail
    go_loopw [11] (fun i wr => ∃ k : Nat, i = .int .i64 k ∧ k ≤ L.length ∧ Below w3.heap.size w3 wr) (fun i _ => L.length - (intOf i).toNat)
    case atStart => exact ⟨0, rfl, Nat.zero_le _, Below.refl _ _⟩
    case round =>
      obtain ⟨k, rfl, hk, hB⟩ := hrel
      have HB := Lib.hid hB
      clear hB
      by_cases hlt : k < L.length
      · obtain ⟨p1, o1, ha1⟩ := HAd3.out.resolve_left (by omega)
        obtain ⟨p2, o2, ha2⟩ := HAd2.out.resolve_left (by omega)
        subst ha1
        subst ha2
        obtain ⟨ra, rc, g1, hR1⟩ := HI3.out.get rfl hlt
        obtain ⟨sa, sc, g2, hR2⟩ := HI2.out.get rfl hlt
        have HI := Lib.hid (fun W (hW : Below wr.heap.size wr W) => (HIn.out (L[k]'hlt) W ra rc sa sc (hR1.keep (keeps_of_below (HB.out.trans (hW.mono HB.out.size)))) (hR2.keep (keeps_of_below (HB.out.trans (hW.mono HB.out.size))))).mono fun e w' h => (⟨h.1, hW.trans (h.2.mono hW.size)⟩ : _ ∧ Below wr.heap.size wr w'))
        have g1' := keeps_of_below HB.out _ _ g1
        have g2' := keeps_of_below HB.out _ _ g2
        have e1 : ∀ g : Grow wr.heap.size wr, g.w'.cell? ⟨p1, o1 + k, none⟩ = _ := Grow.old g1' (Nat.le_refl _)
        have e2 : ∀ g : Grow wr.heap.size wr, g.w'.cell? ⟨p2, o2 + k, none⟩ = _ := Grow.old g2' (Nat.le_refl _)
        generalize (L[k]'hlt).length = q at HI e1 e2
        clear g1 g2 g1' g2' hR1 hR2
        go_wp2_with fail
        (refine wp_region_grow (B := wr.heap.size) (w0 := wr) (by kernel_rfl) (by kernel_rfl) (by repeat (first | assumption | exact Below.refl _ _ | refine Below.drew ?_ | refine below_drewN ?_ _ | refine Below.alloc ?_ (by first | omega | (simp only [World.size_alloc, World.size_setCell, World.size_drew, World.heap_drewN] <;> omega) | (simp <;> omega)) _ | refine Below.setCell ?_ (by first | omega | (simp only [World.size_alloc, World.size_setCell, World.size_drew, World.heap_drewN] <;> omega) | (simp <;> omega)) _)) ?_; (repeat (go_big_quiet_step ((go_at_call 17; (with_reducible exact grow_call (HI.out _ (Grow.h _))))))); refine wpQuiet_nil ?_; intro wg hCg; have hbg := grow_out hCg; clear hCg)
        have HB' := Lib.hid (HB.out.trans (Below.mono (by assumption) HB.out.size))
        go_wp2_with fail
        go_roundw
        case rel => exact ⟨k + 1, by go_num, by omega, HB'.out⟩
        case measure => simp [intOf]; omega
      · obtain rfl : k = L.length := by omega
        go_wp2_with fail
        refine (HAw.out wr (HBw.out.trans (HB.out.mono HBw.out.size))).mono ?_
        rintro e w5 ⟨rfl, hb5⟩
        have HB5 : Hid (Below w.heap.size w w5) := HBw.out.trans ((HB.out.mono HBw.out.size).trans (hb5.mono (by have h1 := HBw.out.size; have h2 := HB.out.size; omega)))
        clear hb5
        go_wp2_with fail
        go_ret
        exact ⟨rfl, HB5.out⟩
end Go.Proofs.YtgdphjgedhadoaaGreatDoor
