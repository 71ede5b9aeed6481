/- law22: SoftOrder, the plain law: a further soft constraint of the lowest priority. -/
import Derived.Test.YtgdphjgedhadoaaGreatDoorSD
import Derived.Test.YtgdphjgedhadoaaGreatDoorSH
import Derived.Test.YtgdphjgedhadoaaGreatDoorSG
import Derived.Test.YtgdphjgedhadoaaGreatDoorSI
import Derived.Test.YtgdphjgedhadoaaGreatDoorSE
import Derived.Deep.CutRange
import Derived.BigQuiet
set_option linter.unusedSimpArgs false
set_option linter.unusedVariables false
set_option linter.unnecessarySimpa false
namespace Go.Proofs.YtgdphjgedhadoaaGreatDoor
open Go.RowKit

def addS (p : ProbD) (e : Ex) : ProbD := ⟨p.vars, p.hard, e :: p.soft, p.dists, p.groups⟩
theorem keepS_shift {S : List Ex → Bool} {soft base : List Ex} {e : Ex} : ∀ k, k ≤ soft.length → keepS S (e :: soft) base k = ((keepS S soft base k).1, (keepS S soft base k).2.map (· + 1)) := by
  intro k
  induction k with
  | zero => intro _; rfl
  | succ k ih =>
    intro hk
    have ih' := ih (by omega)
    obtain ⟨i, hi⟩ : ∃ i, i + k + 1 = soft.length := ⟨soft.length - 1 - k, by omega⟩
    have hil : i < soft.length := by omega
    have hel : i + 1 < (e :: soft).length := by simp; omega
    have hee : (e :: soft)[i + 1]'hel = soft[i]'hil := rfl
    cases hS : S ((keepS S soft base k).1 ++ [soft[i]'hil])
    · rw [keepS_no (soft := e :: soft) (i := i + 1) hel (by simp; omega) (by rw [ih', hee]; exact hS), keepS_no hil (by omega) hS, ih']
    · rw [keepS_yes (soft := e :: soft) (i := i + 1) hel (by simp; omega) (by rw [ih', hee]; exact hS), keepS_yes hil (by omega) hS, ih', hee]
      simp
theorem keepS_top {S : List Ex → Bool} {soft base : List Ex} {e : Ex} : (keepS S (e :: soft) base (e :: soft).length).2.reverse = (if S ((keepS S soft base soft.length).1 ++ [e]) = true then [0] else []) ++ ((keepS S soft base soft.length).2.reverse).map (· + 1) := by
  have hs := keepS_shift (S := S) (base := base) (e := e) soft.length (Nat.le_refl _)
  have h0 : 0 < (e :: soft).length := by simp
  cases hS : S ((keepS S soft base soft.length).1 ++ [e])
  · rw [List.length_cons, keepS_no (soft := e :: soft) (i := 0) h0 (by simp) (by rw [hs]; exact hS), hs]
    simp [List.map_reverse]
  · rw [List.length_cons, keepS_yes (soft := e :: soft) (i := 0) h0 (by simp) (by rw [hs]; exact hS), hs]
    simp [List.map_reverse]
theorem keepS_sat {S : List Ex → Bool} {soft base : List Ex} (hb : S base = true) : ∀ k, S (keepS S soft base k).1 = true := by
  intro k
  induction k with
  | zero => exact hb
  | succ k ih =>
    rw [keepS]
    split
    · split
      · assumption
      · exact ih
    · exact ih
theorem keepS_base {S : List Ex → Bool} {soft base : List Ex} {e : Ex} (h : e ∈ base) : ∀ k, e ∈ (keepS S soft base k).1 := by
  intro k
  induction k with
  | zero => exact h
  | succ k ih =>
    rw [keepS]
    split
    · split
      · exact List.mem_append_left _ ih
      · exact ih
    · exact ih
theorem keepS_lt {S : List Ex → Bool} {soft base : List Ex} : ∀ k n, n ∈ (keepS S soft base k).2 → n < soft.length := by
  intro k
  induction k with
  | zero => intro n h; simp [keepS] at h
  | succ k ih =>
    intro n h
    rw [keepS] at h
    split at h
    · rename_i e0 h0
      split at h
      · rcases List.mem_append.1 h with h | h
        · exact ih n h
        · rw [List.mem_singleton.1 h]
          exact (List.getElem?_eq_some_iff.1 h0).1
      · exact ih n h
    · exact ih n h
theorem hit_mem {vs : List VarD} {l : List Ex} {e : Ex} (h : e ∈ l) (k : Nat) : hitN vs (l ++ [e]) k = hitN vs l k := by
  unfold hitN allS
  rw [List.all_append, List.all_cons, List.all_nil, Bool.and_true]
  cases hl : l.all fun e => (evalS (envS vs (nthN vs k)) e).1 != 0
  · rfl
  · rw [Bool.true_and]
    exact List.all_eq_true.1 hl e h
theorem solv_mem {vs : List VarD} {l : List Ex} {e : Ex} (h : e ∈ l) : solvB vs (l ++ [e]) = solvB vs l := by
  unfold solvB
  exact pB_congr ⟨fun ⟨k, h1, h2⟩ => ⟨k, h1, by rw [← hit_mem h]; exact h2⟩, fun ⟨k, h1, h2⟩ => ⟨k, h1, by rw [hit_mem h]; exact h2⟩⟩
theorem order_plain {p : ProbD} {e : Ex} (hp : ProbOk p) (hq : ProbOk (addS p e)) : keptErr (addS p e) = keptErr p ∧ ∃ first : Bool, keptI (addS p e) = (if first = true then [0] else []) ++ (keptI p).map (· + 1) ∧ (∀ n, n ∈ keptI p → 0 ≤ n ∧ n ≤ p.soft.length) ∧ (keptErr p = 0 → ∀ h, h ∈ p.hard → h = e → first = true) := by
  have hb : (addS p e).hard ++ suppsE (addS p e) = p.hard ++ suppsE p := rfl
  have hv : (addS p e).vars = p.vars := rfl
  have hsf : (addS p e).soft = e :: p.soft := rfl
  cases hB : solvB p.vars (p.hard ++ suppsE p)
  · have h1 : keptI p = [] := by unfold keptI; rw [if_neg (fun h => by rw [hB] at h; simp at h)]
    have h2 : keptI (addS p e) = [] := by unfold keptI; rw [if_neg (fun h => by rw [hb, hv, hB] at h; simp at h)]
    have h3 : keptErr p = 11 := by unfold keptErr; rw [if_pos (pB_true hp), if_neg (by rw [hB]; simp)]
    have h4 : keptErr (addS p e) = 11 := by unfold keptErr; rw [if_pos (pB_true hq), if_neg (by rw [hb, hv, hB]; simp)]
    exact ⟨by rw [h3, h4], false, by rw [h1, h2]; rfl, by rw [h1]; intro n hn; simp at hn, fun h => by rw [h3] at h; simp at h⟩
  · have h1 : keptI p = intsN (keptN p) := by unfold keptI; rw [if_pos ⟨pB_true hp, hB⟩]
    have h2 : keptI (addS p e) = intsN (keptN (addS p e)) := by unfold keptI; rw [if_pos ⟨pB_true hq, by rw [hb, hv]; exact hB⟩]
    have h3 : keptErr p = 0 := by unfold keptErr; rw [if_pos (pB_true hp), if_pos hB]
    have h4 : keptErr (addS p e) = 0 := by unfold keptErr; rw [if_pos (pB_true hq), if_pos (by rw [hb, hv]; exact hB)]
    have h5 : keptN (addS p e) = (if solvB p.vars ((keepS (solvB p.vars) p.soft (p.hard ++ suppsE p) p.soft.length).1 ++ [e]) = true then [0] else []) ++ (keptN p).map (· + 1) := keepS_top
    refine ⟨by rw [h3, h4], solvB p.vars ((keepS (solvB p.vars) p.soft (p.hard ++ suppsE p) p.soft.length).1 ++ [e]), ?_, ?_, ?_⟩
    · rw [h1, h2, h5]
      unfold intsN
      rw [List.map_append, List.map_map, List.map_map]
      congr 1
      split <;> rfl
    · rw [h1]
      intro n hn
      unfold intsN at hn
      obtain ⟨m, hm, rfl⟩ := List.mem_map.1 hn
      have := keepS_lt _ m (List.mem_reverse.1 hm)
      omega
    · rintro _ h hh rfl
      rw [solv_mem (keepS_base (List.mem_append_left _ hh) _)]
      exact keepS_sat hB _
end Go.Proofs.YtgdphjgedhadoaaGreatDoor

/- law22: SoftOrder. -/
namespace Go.Proofs.YtgdphjgedhadoaaGreatDoor
open Go.RowKit
attribute [local go_sem ↓] Go.wp_at_zero Go.wp_at_succ

theorem ownsRow_put {w : World} {base : Nat} {t : TypeId} {size : Nat} {v : Value} {n : Nat} {xs : List Value} (h : w.ownsRow base t size v n xs) {b : Nat} (hb : ∀ g, v.ownBlock = some g → g ≠ b) (o : Nat) (u : Value) : (w.setCell ⟨b, o, none⟩ u).ownsRow base t size v n xs := by
  refine ⟨h.1, ?_⟩
  rcases h.2 with h0 | ⟨g, cap, cur, h1, h2, h3, h4⟩
  · exact Or.inl h0
  · refine Or.inr ⟨g, cap, cur, h1, h2, ?_, h4⟩
    have hg : g ≠ b := hb g (by rw [h1]; rfl)
    rw [Below.heap_setCell w ⟨b, o, none⟩ u g hg]
    exact h3
set_option maxRecDepth 100000 in
set_option maxHeartbeats 32000000 in
theorem SoftOrder_any (p : ProbD) (x : ProbA) (e : Ex) (ea : Option Addr) (ec : Nat) (w : World) (hE : ProbIn w p x) (hs : ProbSmall p) (hd : p.dists.length ≤ 1048576) (hX : ExIn w e ea ec) (hn : e.nodes.length ≤ 1048576) (hG : Glob w) :
    Calls Tryz.prog 10 #[probVal p x, .agg #[.int .i64 e.op, .int .i64 e.n, .string e.name, .slice ea e.args.length ec]] w fun r w' => r = .returned (.bool true) ∧ Below w.heap.size w w' := by
  have HSm0 := Lib.hid (fun W (hW : Below w.heap.size w W) => small_any p x W (hE.keep (keeps_of_below hW)) hs)
  have HV0 := Lib.hid (fun W (hW : Below w.heap.size w W) => r14Valid_any p x W (hE.keep (keeps_of_below hW)) hs)
  have HAw := Lib.hid (fun W (hW : Below w.heap.size w W) => awake22_any W (hG.below hW))
  have HE := Lib.hid hE
  have HX := Lib.hid hX
  have HGl := Lib.hid hG
  have HPS := Lib.hid hs
  have HPl := Lib.hid (fun (hp : ProbOk p) (hq : ProbOk (addS p e)) => order_plain hp hq)
  have HK0 := Lib.hid (fun (h : SmallOk p) W (hW : Below w.heap.size w W) => Kept_any p x W (hE.keep (keeps_of_below hW)) hs (hG.below hW) h.bits hd (by have := h.hard; omega) (by have := h.soft; omega) (fun hp => supp_rok hp))
  have HQS : Hid (SmallOk p → ProbSmall (addS p e)) := fun h => ⟨hs.hard, fun e' he' => by
    rcases List.mem_cons.1 he' with rfl | he'
    · omega
    · exact hs.soft e' he', by
    have h1 := h.hard
    have h2 := h.soft
    rw [List.length_append]
    show p.hard.length + (e :: p.soft).length ≤ _
    rw [List.length_cons]
    omega⟩
  have HVq := Lib.hid (fun (h : SmallOk p) xq W (hQ : ProbIn W (addS p e) xq) => r14Valid_any (addS p e) xq W hQ (HQS.out h))
  have HKq := Lib.hid (fun (h : SmallOk p) (hp : ProbOk p) xq W (hW : Below w.heap.size w W) (hQ : ProbIn W (addS p e) xq) => Kept_any (addS p e) xq W hQ (HQS.out h) (hG.below hW) (fun _ => h.bits hp) hd (by have := h.hard; show p.hard.length ≤ 1000; omega) (by have := h.soft; show (e :: p.soft).length ≤ 1000; rw [List.length_cons]; omega) (fun hq => supp_rok hq))
  have HKR : Hid (∀ p' w0 r w', KeptRet p' w0 r w' → ∃ a cap, r = .returned (.tuple #[.slice a (keptI p').length cap, .int .i64 (keptErr p')]) ∧ IntsIn w' (keptI p') a cap ∧ Below w0.heap.size w0 w') := fun _ _ _ _ h => h
  have HSa := Lib.hid (fun (h : Ex) a c W (hW : Below w.heap.size w W) (hH : ExIn W h a c) => r08Same_any h e a c ea ec W hH (hX.keep (keeps_of_below hW)))
  have HXr := Lib.hid (fun W (hW : Below w.heap.size w W) => row1 (hX.keep (keeps_of_below hW)))
  have HQI := Lib.hid (fun W (hW : Below w.heap.size w W) aq cq (hI : ExsIn W (e :: p.soft) aq cq) => (⟨(hE.keep (keeps_of_below hW)).vars, (hE.keep (keeps_of_below hW)).hard, hI, (hE.keep (keeps_of_below hW)).dists, (hE.keep (keeps_of_below hW)).groups⟩ : ProbIn W (addS p e) ⟨x.av, x.cv, x.ah, x.ch, aq, cq, x.ad, x.cd, x.ag, x.cg⟩))
  have HSI := Lib.hid hE.soft
  have HHI := Lib.hid hE.hard
  have hsl := hE.soft.2.1
  have hPS : ∀ h : SmallOk p, p.hard.length ≤ 6 ∧ p.soft.length ≤ 6 := fun h => ⟨h.hard, h.soft⟩
  clear hE hs hX hn hG hd HE HX HGl HPS
  obtain ⟨op, en, es, exs⟩ := e
  simp only [Ex.op_mk, Ex.n_mk, Ex.name_mk, Ex.args_mk] at HXr ⊢
  simp only [exVal, Ex.op_mk, Ex.n_mk, Ex.name_mk, Ex.args_mk] at HSa
  have HDef : Hid (∀ xq, probVal (addS p (.mk op en es exs)) xq = .agg #[.slice xq.av p.vars.length xq.cv, .slice xq.ah p.hard.length xq.ch, .slice xq.ao (p.soft.length + 1) xq.co, .slice xq.ad p.dists.length xq.cd, .slice xq.ag p.groups.length xq.cg]) := fun _ => rfl
  generalize hel : exs.length = el at HXr HSa ⊢
  generalize hee : Ex.mk op en es exs = e at *
  clear hee hel
  generalize addS p e = q at *
  simp only [probVal_eq] at HSm0 HV0 HK0 ⊢
  obtain ⟨vs, hard, soft, ds, gs⟩ := p
  obtain ⟨av, cv, ah, ch, ao, co, ad, cd, ag, cg⟩ := x
  simp only at HSm0 HV0 HK0 HPl HSI HHI HQI HDef hsl hPS ⊢
  go_enter Tryz.func10, Tryz.ntmps10
  go_wp2_with fail
  generalize hW2 : (w.alloc (.cells #[.slice av vs.length cv, .slice ah hard.length ch, .slice ao soft.length co, .slice ad ds.length cd, .slice ag gs.length cg] 27)).alloc (.cells #[.int .i64 op, .int .i64 en, .string es, .slice ea el ec] 57) = W2
  have hz2 : W2.heap.size = w.heap.size + 2 := by rw [← hW2]; simp
  have HB2 : Hid (Below w.heap.size w W2) := by show Below _ _ _; rw [← hW2]; exact (by repeat (first | assumption | exact Below.refl _ _ | refine Below.drew ?_ | refine below_drewN ?_ _ | refine Below.alloc ?_ (by first | omega | (simp only [World.size_alloc, World.size_setCell, World.size_drew, World.heap_drewN] <;> omega) | (simp <;> omega)) _ | refine Below.setCell ?_ (by first | omega | (simp only [World.size_alloc, World.size_setCell, World.size_drew, World.heap_drewN] <;> omega) | (simp <;> omega)) _))
  have HP2 : W2.heap[w.heap.size]? = some (.cells #[.slice av vs.length cv, .slice ah hard.length ch, .slice ao soft.length co, .slice ad ds.length cd, .slice ag gs.length cg] 27 (0, 0)) := by rw [← hW2]; exact (Below.heap_alloc _ _ _ (by simp)).trans (heap_alloc_new' _ _)
  have HE2 : W2.heap[w.heap.size + 1]? = some (.cells #[.int .i64 op, .int .i64 en, .string es, .slice ea el ec] 57 (0, 0)) := by rw [← hW2]; exact heap_alloc_at _ _ _ (by simp)
  have HA2 : Hid (∀ W, Below W2.heap.size W2 W → W.cell? ⟨w.heap.size, 0, none⟩ = some (.slice av vs.length cv) ∧ W.cell? ⟨w.heap.size, 1, none⟩ = some (.slice ah hard.length ch) ∧ W.cell? ⟨w.heap.size, 2, none⟩ = some (.slice ao soft.length co) ∧ W.cell? ⟨w.heap.size, 3, none⟩ = some (.slice ad ds.length cd) ∧ W.cell? ⟨w.heap.size, 4, none⟩ = some (.slice ag gs.length cg) ∧ W.cell? ⟨w.heap.size + 1, 0, none⟩ = some (.int .i64 op) ∧ W.cell? ⟨w.heap.size + 1, 1, none⟩ = some (.int .i64 en) ∧ W.cell? ⟨w.heap.size + 1, 2, none⟩ = some (.string es) ∧ W.cell? ⟨w.heap.size + 1, 3, none⟩ = some (.slice ea el ec)) := fun W hW => by
    have h1 := (hW.block _ (by omega)).trans HP2
    have h2 := (hW.block _ (by omega)).trans HE2
    refine ⟨?_, ?_, ?_, ?_, ?_, ?_, ?_, ?_, ?_⟩ <;> simp [World.cell?, h1, h2]
  clear hW2 HP2 HE2
  refine (HSm0.out W2 HB2.out).mono ?_
  rintro r w1 ⟨⟨b, rfl, hbf⟩, hb1⟩
  have Hb1 := Lib.hid hb1
  have HB1 := Lib.hid (HB2.out.trans (hb1.mono (by omega)))
  have hz1 := hb1.size
  obtain ⟨b0, b1, b2, b3, b4, e0, e1, e2, e3⟩ := HA2.out w1 hb1
  clear hb1
  cases b
  · clear hbf
    go_wp2_with fail
    refine (HAw.out w1 (HB1.out)).mono ?_
    rintro r wz ⟨rfl, hbz⟩
    have HBz : Hid (Below w.heap.size w wz) := (HB1.out).trans (hbz.mono (HB1.out).size)
    clear hbz
    go_wp2_with fail
    go_ret
    exact ⟨rfl, HBz.out⟩
  · have HFo := Lib.hid (hbf rfl)
    clear hbf
    have hsm := hPS HFo.out
    by_cases hp : ProbOk ⟨vs, hard, soft, ds, gs⟩
    · have HVp := Lib.hid (errT (HV0.out w1 HB1.out) hp)
      have HKp := Lib.hid (HKq.out HFo.out hp)
      have HPl := Lib.hid (HPl.out hp)
      clear hp HV0 HKq
      go_wp2_with fail
      refine HVp.out.mono ?_
      rintro r w3 ⟨rfl, hb3⟩
      have Hb3 := Lib.hid (Hb1.out.trans (hb3.mono hz1))
      have HB3 := Lib.hid (HB1.out.trans (hb3.mono HB1.out.size))
      have hz3 := Hb3.out.size
      clear b0 b1 b2 b3 b4 e0 e1 e2 e3
      obtain ⟨b0, b1, b2, b3, b4, e0, e1, e2, e3⟩ := HA2.out w3 Hb3.out
      clear hb3
      obtain ⟨ys, hyl, hyr, hy1, hyc⟩ := (HSI.out.keep (keeps_of_below HB3.out)).rowOn
      have HYr := Lib.hid hyr
      have HY1 := Lib.hid hy1
      have HYc := Lib.hid (fun W (hW : Below w3.heap.size w3 W) => (show soft.length = 0 ∨ ∃ b off, ao = some ⟨b, off, none⟩ ∧ ∀ j u, ys[j]? = some u → W.cell? ⟨b, off + j, none⟩ = some u from by
        rcases hyc with h | ⟨b, off, h1, h2⟩
        · exact Or.inl h
        · exact Or.inr ⟨b, off, h1, fun j u hu => keeps_of_below hW _ _ (h2 j u hu)⟩))
      clear hyr hy1 hyc
      have HOl : Hid (((w3.alloc (.cells #[.slice av vs.length cv, .slice ah hard.length ch, .slice ao soft.length co, .slice ad ds.length cd, .slice ag gs.length cg] 27)).alloc (.cells #[.int .i64 op, .int .i64 en, .string es, .slice ea el ec] 57)).ownsRow (w3.heap.size + 1) 57 4 (.slice (some ⟨w3.heap.size + 1, 0, none⟩) 1 1) 1 [.int .i64 op, .int .i64 en, .string es, .slice ea el ec]) := by
        have h := World.ownsRow_lit (base := w3.heap.size + 1) (e := 57) (size := 4) (w3.alloc (.cells #[.slice av vs.length cv, .slice ah hard.length ch, .slice ao soft.length co, .slice ad ds.length cd, .slice ag gs.length cg] 27)) #[.int .i64 op, .int .i64 en, .string es, .slice ea el ec] 1 (by simp) (by unfold maxLen; omega) rfl
        simp only [World.size_alloc] at h
        exact h
      have hlt3 : w.heap.size + 2 ≤ w3.heap.size := by omega
      have a0 : ∀ o, (w3.alloc o).cell? ⟨w.heap.size + 1, 0, none⟩ = _ := fun o => (World.cell?_alloc_lt _ _ _ (by show w.heap.size + 1 < _; omega)).trans e0
      have a1 : ∀ o, (w3.alloc o).cell? ⟨w.heap.size + 1, 1, none⟩ = _ := fun o => (World.cell?_alloc_lt _ _ _ (by show w.heap.size + 1 < _; omega)).trans e1
      have a2 : ∀ o, (w3.alloc o).cell? ⟨w.heap.size + 1, 2, none⟩ = _ := fun o => (World.cell?_alloc_lt _ _ _ (by show w.heap.size + 1 < _; omega)).trans e2
      have a3 : ∀ o, (w3.alloc o).cell? ⟨w.heap.size + 1, 3, none⟩ = _ := fun o => (World.cell?_alloc_lt _ _ _ (by show w.heap.size + 1 < _; omega)).trans e3
      have a4 : ∀ o o', ((w3.alloc o).alloc o').cell? ⟨w.heap.size, 2, none⟩ = _ := fun o o' => (World.cell?_alloc_lt _ _ _ (by simp only [World.size_alloc]; omega)).trans ((World.cell?_alloc_lt _ _ _ (by show w.heap.size < _; omega)).trans b2)
      go_wp2_with (at_builtin; go_must (refine own_gen elemEx _ rfl (.tmp 25) (.tmp 27) rfl (w3.heap.size + 1) _ 1 [.int .i64 op, .int .i64 en, .string es, .slice ea el ec] rfl HOl.out ys soft.length ao co hyl HY1.out (HYc.out _ (by repeat (first | assumption | exact Below.refl _ _ | refine Below.drew ?_ | refine below_drewN ?_ _ | refine Below.alloc ?_ (by first | omega | (simp only [World.size_alloc, World.size_setCell, World.size_drew, World.heap_drewN] <;> omega) | (simp <;> omega)) _ | refine Below.setCell ?_ (by first | omega | (simp only [World.size_alloc, World.size_setCell, World.size_drew, World.heap_drewN] <;> omega) | (simp <;> omega)) _))) rfl (by omega) (by simp) ?_))
      intro v6 w6 ho6 hg6
      have hb6 : Below (w3.heap.size + 1) (w3.alloc (.cells #[.slice av vs.length cv, .slice ah hard.length ch, .slice ao soft.length co, .slice ad ds.length cd, .slice ag gs.length cg] 27)) w6 := Below.grown (B := w3.heap.size + 1) ((Below.refl _ _).alloc (by simp) _) hg6 (by simp) (fun q hq => by simp [Value.ownBlock] at hq; omega)
      rw [Nat.add_comm 1 soft.length] at ho6
      obtain ⟨aq, cq, rfl, hqs⟩ := slice_of_own ho6 (by omega)
      have hQ6 : w6.heap[w3.heap.size]? = some (.cells #[.slice av vs.length cv, .slice ah hard.length ch, .slice ao soft.length co, .slice ad ds.length cd, .slice ag gs.length cg] 27 (0, 0)) := (hb6.block _ (by omega)).trans (heap_alloc_new' _ _)
      have f2 : w6.frozen? ⟨w3.heap.size, 2, none⟩ = false := by simp [World.frozen?, hQ6]
      have q0 : w6.cell? ⟨w3.heap.size, 0, none⟩ = some (.slice av vs.length cv) := by simp [World.cell?, hQ6]
      have q1 : w6.cell? ⟨w3.heap.size, 1, none⟩ = some (.slice ah hard.length ch) := by simp [World.cell?, hQ6]
      have q2 : w6.cell? ⟨w3.heap.size, 2, none⟩ = some (.slice ao soft.length co) := by simp [World.cell?, hQ6]
      have q3 : w6.cell? ⟨w3.heap.size, 3, none⟩ = some (.slice ad ds.length cd) := by simp [World.cell?, hQ6]
      have q4 : w6.cell? ⟨w3.heap.size, 4, none⟩ = some (.slice ag gs.length cg) := by simp [World.cell?, hQ6]
      have HO6 := Lib.hid ho6
      have HQ6 := Lib.hid hQ6
      have HB6 := Lib.hid hb6
      have hz6 := hb6.size
      simp only [World.size_alloc] at hz6
      clear ho6 hg6 hqs hQ6 hb6 a0 a1 a2 a3 a4
      go_wp2_with fail
      generalize hW7 : w6.setCell ⟨w3.heap.size, 2, none⟩ (.slice aq (soft.length + 1) cq) = W7
      have HQ7 : W7.heap[w3.heap.size]? = some (.cells #[.slice av vs.length cv, .slice ah hard.length ch, .slice aq (soft.length + 1) cq, .slice ad ds.length cd, .slice ag gs.length cg] 27 (0, 0)) := by
        rw [← hW7]
        have h := heap_setCell_same _ _ 2 _ _ (.slice aq (soft.length + 1) cq) HQ6.out
        simpa using h
      have hz7 : W7.heap.size = w6.heap.size := by rw [← hW7]; simp
      have HB7 : Hid (Below w3.heap.size w3 W7) := by
        show Below _ _ _
        rw [← hW7]
        exact (((Below.refl w3.heap.size w3).alloc (Nat.le_refl _) _).trans (HB6.out.mono (by omega))).setCell (Nat.le_refl _) _
      have HO7 : Hid (W7.ownsRow (w3.heap.size + 1) 57 4 (.slice aq (soft.length + 1) cq) (soft.length + 1) ([.int .i64 op, .int .i64 en, .string es, .slice ea el ec] ++ ys)) := by
        show World.ownsRow _ _ _ _ _ _ _
        rw [← hW7]
        exact ownsRow_put HO6.out (fun g hg => by have := (HO6.out.lt g hg).1; omega) 2 _
      clear hW7 q0 q1 q2 q3 q4 f2
      have HBw7 := Lib.hid (HB3.out.trans (HB7.out.mono HB3.out.size))
      have HI7 : Hid (ExsIn W7 (e :: soft) aq cq) := exs_eq (l := e :: soft) HO7.out ((HXr.out W7 HBw7.out).append (HYr.out W7 (agree_below HB7.out))) (by rw [List.length_cons]; omega)
      have HPQ := Lib.hid (HQI.out W7 HBw7.out aq cq HI7.out)
      have Hb7 : Hid (Below W2.heap.size W2 W7) := Hb3.out.trans (HB7.out.mono (by omega))
      have HA7 : Hid (∀ W, Below W7.heap.size W7 W → (W.cell? ⟨w.heap.size, 0, none⟩ = some (.slice av vs.length cv) ∧ W.cell? ⟨w.heap.size, 1, none⟩ = some (.slice ah hard.length ch) ∧ W.cell? ⟨w.heap.size, 2, none⟩ = some (.slice ao soft.length co) ∧ W.cell? ⟨w.heap.size, 3, none⟩ = some (.slice ad ds.length cd) ∧ W.cell? ⟨w.heap.size, 4, none⟩ = some (.slice ag gs.length cg) ∧ W.cell? ⟨w.heap.size + 1, 0, none⟩ = some (.int .i64 op) ∧ W.cell? ⟨w.heap.size + 1, 1, none⟩ = some (.int .i64 en) ∧ W.cell? ⟨w.heap.size + 1, 2, none⟩ = some (.string es) ∧ W.cell? ⟨w.heap.size + 1, 3, none⟩ = some (.slice ea el ec)) ∧ W.cell? ⟨w3.heap.size, 0, none⟩ = some (.slice av vs.length cv) ∧ W.cell? ⟨w3.heap.size, 1, none⟩ = some (.slice ah hard.length ch) ∧ W.cell? ⟨w3.heap.size, 2, none⟩ = some (.slice aq (soft.length + 1) cq) ∧ W.cell? ⟨w3.heap.size, 3, none⟩ = some (.slice ad ds.length cd) ∧ W.cell? ⟨w3.heap.size, 4, none⟩ = some (.slice ag gs.length cg)) := fun W hW => by
        refine ⟨HA2.out W (Hb7.out.trans (hW.mono Hb7.out.size)), ?_⟩
        have h1 := (hW.block _ (by omega)).trans HQ7
        refine ⟨?_, ?_, ?_, ?_, ?_⟩ <;> simp [World.cell?, h1]
      have HVq7 := HVq.out HFo.out ⟨av, cv, ah, ch, aq, cq, ad, cd, ag, cg⟩ W7 HPQ.out
      rw [HDef.out] at HVq7
      simp only at HVq7
      have HVq7 := Lib.hid HVq7
      clear HQ7 HO6 HQ6 HB6 HYr HY1 HYc HO7 HOl hyl b0 b1 b2 b3 b4 e0 e1 e2 e3 HVq HXr
      by_cases hq : ProbOk q
      · have HVq8 := Lib.hid (errT HVq7.out hq)
        obtain ⟨herr, first, hLB, hpos, hfst⟩ := HPl.out hq
        have Hpos := Lib.hid hpos
        have Hfst := Lib.hid hfst
        have HLB := Lib.hid hLB
        have HKp8 := Lib.hid (fun W hW => (HK0.out HFo.out W hW).mono (HKR.out ⟨vs, hard, soft, ds, gs⟩ W))
        have HKq8 := Lib.hid (fun W hW hQ => (HKp.out ⟨av, cv, ah, ch, aq, cq, ad, cd, ag, cg⟩ W hW hQ).mono (HKR.out q W))
        rw [HDef.out] at HKq8
        rw [herr] at HKq8
        simp only at HKq8
        clear hpos hfst hLB herr HK0 HKp HKR HPl HVq7 hq
        generalize keptI q = LB at HLB HKq8
        generalize keptI ⟨vs, hard, soft, ds, gs⟩ = LA at HLB HKp8 Hpos
        generalize keptErr ⟨vs, hard, soft, ds, gs⟩ = err at HKp8 HKq8 Hfst
        refine HVq8.out.mono ?_
        rintro r w8 ⟨rfl, hb8⟩
        have Hb8 := Lib.hid hb8
        obtain ⟨⟨b0, b1, b2, b3, b4, e0, e1, e2, e3⟩, q0, q1, q2, q3, q4⟩ := HA7.out w8 hb8
        have HBw8 := Lib.hid (HBw7.out.trans (hb8.mono HBw7.out.size))
        have hz8 := hb8.size
        clear hb8
        go_wp2_with fail
        refine (HKp8.out w8 HBw8.out).mono ?_
        rintro r w9 ⟨aa, ca, rfl, hIA, hb9⟩
        have HIA := Lib.hid hIA
        have Hb9 := Lib.hid (Hb8.out.trans (hb9.mono hz8))
        have HBw9 := Lib.hid (HBw8.out.trans (hb9.mono HBw8.out.size))
        clear b0 b1 b2 b3 b4 e0 e1 e2 e3 q0 q1 q2 q3 q4
        obtain ⟨⟨b0, b1, b2, b3, b4, e0, e1, e2, e3⟩, q0, q1, q2, q3, q4⟩ := HA7.out w9 Hb9.out
        have hz9 := Hb9.out.size
        clear hb9 hIA
        go_wp2_with fail
        refine (HKq8.out w9 HBw9.out (HPQ.out.keep (keeps_of_below Hb9.out))).mono ?_
        rintro r w10 ⟨ab, cb, rfl, hIB, hb10⟩
        have HIB := Lib.hid hIB
        have HIA := Lib.hid (HIA.out.keep (keeps_of_below hb10))
        have Hb10 := Lib.hid (Hb9.out.trans (hb10.mono hz9))
        have HBw10 := Lib.hid (HBw9.out.trans (hb10.mono HBw9.out.size))
        clear b0 b1 b2 b3 b4 e0 e1 e2 e3 q0 q1 q2 q3 q4
        obtain ⟨⟨b0, b1, b2, b3, b4, e0, e1, e2, e3⟩, q0, q1, q2, q3, q4⟩ := HA7.out w10 Hb10.out
        have hz10 := Hb10.out.size
        clear hb10 hIB
        have hee : (err != err) = false := by simp
        have hla := HIA.out.2.1
        have hlb := HIB.out.2.1
        go_upto_region 11 with fail
        obtain ⟨nl, hnl⟩ : ∃ nl, LB.length = nl := ⟨_, rfl⟩
        rw [hnl]
        rw [hnl] at hlb
        have Hnl := Lib.hid hnl
        clear hnl
        go_cut [10] from 14 (fun f wx => f = .bool first ∧ wx = w10)
        case first =>
          cases first
          · rcases LA with _ | ⟨n0, LA⟩
            · have hl0 : LB.length = 0 := by rw [HLB.out]; simp
              obtain rfl : nl = 0 := by rw [← Hnl.out]; exact hl0
              clear hl0
              go_wp2_with fail
              go_meet
              case rel => exact ⟨rfl, rfl⟩
            · have hl0 : 0 < LB.length := by rw [HLB.out]; simp
              obtain ⟨nl, rfl⟩ : ∃ k, nl = k + 1 := ⟨nl - 1, by have := Hnl.out; omega⟩
              obtain ⟨bb, bo, hbb⟩ := HIB.out.addr.resolve_left (by omega)
              subst hbb
              have c0 := HIB.out.get rfl hl0
              have hv : LB.getD 0 0 = n0 + 1 := by rw [HLB.out]; rfl
              rw [hv, Nat.add_zero] at c0
              have hne : (n0 + 1 == (0 : Int)) = false := by have := (Hpos.out n0 (by simp)).1; simp; omega
              clear hv
              go_wp2_with fail
              go_meet
              case rel => exact ⟨rfl, rfl⟩
          · have hl0 : 0 < LB.length := by rw [HLB.out]; simp
            obtain ⟨nl, rfl⟩ : ∃ k, nl = k + 1 := ⟨nl - 1, by have := Hnl.out; omega⟩
            obtain ⟨bb, bo, hbb⟩ := HIB.out.addr.resolve_left (by omega)
            subst hbb
            have c0 := HIB.out.get rfl hl0
            have hv : LB.getD 0 0 = 0 := by rw [HLB.out]; rfl
            rw [hv, Nat.add_zero] at c0
            clear hv
            go_wp2_with fail
            go_meet
            case rel => exact ⟨rfl, rfl⟩
        case rest =>
          obtain ⟨rfl, hwc⟩ := hcut
          subst hwc
          rename World => w10
          go_upto_if 56 with fail
          go_cut [8] from 14 (fun b wx => ∃ ab' cb', b = .slice ab' LA.length cb' ∧ Hid (IntsIn wx (LA.map (· + 1)) ab' cb') ∧ wx = w10)
          case first =>
            cases first
            · have hl1 : LB = LA.map (· + 1) := HLB.out
              have Hl1 := Lib.hid hl1
              clear hl1
              go_wp2_with fail
              go_meet
              case rel => exact ⟨ab, cb, by rw [← Hnl.out, Hl1.out, List.length_map], by rw [← Hl1.out]; exact HIB.out, rfl⟩
            · have hl1 : LB.length = LA.length + 1 := by rw [HLB.out]; simp
              obtain rfl : nl = LA.length + 1 := by rw [← Hnl.out]; exact hl1
              obtain ⟨bb, bo, hbb⟩ := HIB.out.addr.resolve_left (by omega)
              subst hbb
              have hcb := HIB.out.1
              have hIn : ∀ c', Hid (LA.length ≤ c' → IntsIn w10 (LA.map (· + 1)) (some ⟨bb, bo + 1, none⟩) c') := fun c' hc' => by
                refine ⟨by rw [List.length_map]; exact hc', by rw [List.length_map]; omega, Or.inr ⟨bb, bo + 1, rfl, fun k hk => ?_⟩⟩
                rw [List.length_map] at hk
                have hg := HIB.out.get rfl (show k + 1 < LB.length by omega)
                have hv : LB.getD (k + 1) 0 = (LA.map (· + 1)).getD k 0 := by rw [HLB.out]; rfl
                rw [hv, getD_at (by rw [List.length_map]; exact hk)] at hg
                exact ⟨_, List.getElem?_eq_getElem (by rw [List.length_map]; exact hk), by rw [show bo + 1 + k * 1 = bo + (k + 1) from by omega]; exact hg⟩
              rw [hl1] at hcb
              clear hl1
              by_cases hc1 : cb = 1
              · subst hc1
                have Hl2 : Hid (LA.length = 0) := by show _ = _; omega
                go_wp2_with fail
                go_meet
                case rel => exact ⟨some ⟨bb, bo, none⟩, 0, by rw [Hl2.out], ⟨by rw [List.length_map, Hl2.out]; omega, by rw [List.length_map, Hl2.out]; omega, Or.inl (by rw [List.length_map, Hl2.out])⟩, rfl⟩
              · go_wp2_with fail
                go_meet
                case rel => exact ⟨some ⟨bb, bo + 1, none⟩, cb - 1, rfl, (hIn (cb - 1)).out (by omega), rfl⟩
          case rest =>
            obtain ⟨ab', cb', rfl, HIC, hwc⟩ := hcut
            subst hwc
            rename World => w10
            have hll : ((LA.length : Int) != (LA.length : Int)) = false := by simp
            clear q0 q1 q2 q3 q4 b0 b1 b2 b3 b4 e0 e1 e2 e3 HPQ HIB HLB Hnl HKp8 HKq8 HSm0 HQI hlb
            go_wp2_with fail
            go_loopw [66, 11] (fun i _ wr => ∃ k : Nat, i = .int .i64 k ∧ k ≤ LA.length ∧ Below w10.heap.size w10 wr) (fun i _ _ => LA.length - (intOf i).toNat)
            case atStart => exact ⟨0, rfl, Nat.zero_le _, Below.refl _ _⟩
            case round =>
              obtain ⟨k, rfl, hk, hB⟩ := hrel
              have HB := Lib.hid hB
              have HBw := Lib.hid (HBw10.out.trans (hB.mono HBw10.out.size))
              have hzr := hB.size
              clear hB
              by_cases hlt : k < LA.length
              · obtain ⟨ba, oa, ha⟩ := HIA.out.addr.resolve_left (by omega)
                obtain ⟨bb, ob, hb⟩ := HIC.out.addr.resolve_left (by rw [List.length_map]; omega)
                subst ha
                subst hb
                have hltm : k < (LA.map (· + 1)).length := by rw [List.length_map]; exact hlt
                have c0 := keeps_of_below HB.out _ _ (HIA.out.get rfl hlt)
                have c1 := keeps_of_below HB.out _ _ (HIC.out.get rfl hltm)
                rw [getD_at hlt] at c0
                rw [getD_at hltm, List.getElem_map] at c1
                have hb6 := Hpos.out _ (List.getElem_mem hlt)
                generalize LA[k]'hlt = n0 at c0 c1 hb6
                have hw0 : IntKind.i64.wrap (n0 + 1) = n0 + 1 := by rw [IntKind.wrap_i64]; omega
                have hne : (n0 + 1 != n0 + 1) = false := by simp
                have hkw : IntKind.i64.wrap ((k : Int) + 1) = (k : Int) + 1 := by rw [IntKind.wrap_i64]; omega
                clear hb6
                go_wp2_with fail
                go_quiet (fail)
                go_wp2_with fail
                go_roundw
                case rel => exact ⟨k + 1, by go_num, by omega, below_drewN HB.out _⟩
                case measure => (simp [intOf]; try omega)
              · rename World => w11
                obtain rfl : k = LA.length := by omega
                have Hb11 := Lib.hid (Hb10.out.trans (HB.out.mono hz10))
                obtain ⟨⟨b0, b1, b2, b3, b4, e0, e1, e2, e3⟩, q0, q1, q2, q3, q4⟩ := HA7.out w11 Hb11.out
                clear b0 b2 b3 b4 e0 e1 e2 e3 q0 q1 q2 q3 q4
                go_wp2_with fail
                go_loopw [83, 13] (fun i _ wr => ∃ k : Nat, i = .int .i64 k ∧ k ≤ hard.length ∧ Below w11.heap.size w11 wr) (fun i _ _ => hard.length - (intOf i).toNat)
                case atStart => exact ⟨0, rfl, Nat.zero_le _, Below.refl _ _⟩
                case round =>
                  obtain ⟨k, rfl, hk2, hB2⟩ := hrel
                  have HBx := Lib.hid hB2
                  have HBwx := Lib.hid (HBw.out.trans (hB2.mono HBw.out.size))
                  have Hbx := Lib.hid (Hb11.out.trans (hB2.mono Hb11.out.size))
                  have hzx := Hbx.out.size
                  have hzy := Hb7.out.size
                  clear hB2
                  obtain ⟨⟨b0, b1, b2, b3, b4, e0, e1, e2, e3⟩, q0, q1, q2, q3, q4⟩ := HA7.out wr Hbx.out
                  clear b0 b2 b3 b4 q0 q1 q2 q3 q4
                  by_cases hlt2 : k < hard.length
                  · obtain ⟨hb, ho, hba⟩ := HHI.out.addr.resolve_left (by omega)
                    subst hba
                    obtain ⟨a9, c9, g0, g1, g2, g3, hX9⟩ := HHI.out.get rfl hlt2
                    have kk := keeps_of_below HBwx.out
                    have c0 := kk _ _ g0
                    have c1 := kk _ _ g1
                    have c2 := kk _ _ g2
                    have c3 := kk _ _ g3
                    have HF := Lib.hid (fun h0 he => Hfst.out h0 (hard[k]'hlt2) (List.getElem_mem hlt2) he)
                    have HX9 := Lib.hid (hX9.keep kk)
                    generalize (hard[k]'hlt2) = h9 at c0 c1 c2 c3 HF HX9
                    have hBA : Below w.heap.size w (wr.alloc (.cells #[.int .i64 h9.op, .int .i64 h9.n, .string h9.name, .slice a9 h9.args.length c9] 57)) := HBwx.out.alloc HBwx.out.size _
                    have HC := Lib.hid (HSa.out h9 a9 c9 (wr.alloc (.cells #[.int .i64 h9.op, .int .i64 h9.n, .string h9.name, .slice a9 h9.args.length c9] 57)) hBA (HX9.out.keep (keeps_of_below ((Below.refl _ _).alloc (Nat.le_refl _) _))))
                    have a0 : ∀ o, (wr.alloc o).cell? ⟨w.heap.size + 1, 0, none⟩ = _ := fun o => (World.cell?_alloc_lt _ _ _ (by show w.heap.size + 1 < _; omega)).trans e0
                    have a1 : ∀ o, (wr.alloc o).cell? ⟨w.heap.size + 1, 1, none⟩ = _ := fun o => (World.cell?_alloc_lt _ _ _ (by show w.heap.size + 1 < _; omega)).trans e1
                    have a2 : ∀ o, (wr.alloc o).cell? ⟨w.heap.size + 1, 2, none⟩ = _ := fun o => (World.cell?_alloc_lt _ _ _ (by show w.heap.size + 1 < _; omega)).trans e2
                    have a3 : ∀ o, (wr.alloc o).cell? ⟨w.heap.size + 1, 3, none⟩ = _ := fun o => (World.cell?_alloc_lt _ _ _ (by show w.heap.size + 1 < _; omega)).trans e3
                    have hkw : IntKind.i64.wrap ((k : Int) + 1) = (k : Int) + 1 := by rw [IntKind.wrap_i64]; have := HHI.out.2.1; omega
                    have hHl := HHI.out.2.1
                    clear g0 g1 g2 g3 hX9 kk hBA
                    by_cases he : h9 = e
                    · rw [pB_true he] at HC
                      by_cases herr : err = 0
                      · obtain rfl : first = true := HF.out herr he
                        have hde : (err == (0 : Int)) = true := by simp [herr]
                        clear he herr
                        go_wp2_with (go_at_call 36; (with_reducible refine HC.out.mono ?_); rintro r w12 ⟨rfl, hb12⟩)
                        go_roundw
                        case rel => exact ⟨k + 1, by go_num, by omega, HBx.out.trans (((Below.refl _ _).alloc (Nat.le_refl _) _ |>.trans (hb12.mono (by simp))).mono HBx.out.size)⟩
                        case measure => (simp [intOf]; try omega)
                      · have hde : (err == (0 : Int)) = false := by simpa using herr
                        clear he herr
                        go_wp2_with (go_at_call 36; (with_reducible refine HC.out.mono ?_); rintro r w12 ⟨rfl, hb12⟩)
                        go_roundw
                        case rel => exact ⟨k + 1, by go_num, by omega, HBx.out.trans (((Below.refl _ _).alloc (Nat.le_refl _) _ |>.trans (hb12.mono (by simp))).mono HBx.out.size)⟩
                        case measure => (simp [intOf]; try omega)
                    · rw [pB_false he] at HC
                      clear he
                      go_wp2_with (go_at_call 36; (with_reducible refine HC.out.mono ?_); rintro r w12 ⟨rfl, hb12⟩)
                      go_roundw
                      case rel => exact ⟨k + 1, by go_num, by omega, HBx.out.trans (((Below.refl _ _).alloc (Nat.le_refl _) _ |>.trans (hb12.mono (by simp))).mono HBx.out.size)⟩
                      case measure => (simp [intOf]; try omega)
                  · obtain rfl : k = hard.length := by omega
                    go_wp2_with fail
                    refine (HAw.out wr (HBwx.out)).mono ?_
                    rintro r wz ⟨rfl, hbz⟩
                    have HBz : Hid (Below w.heap.size w wz) := (HBwx.out).trans (hbz.mono (HBwx.out).size)
                    clear hbz
                    go_wp2_with fail
                    go_ret
                    exact ⟨rfl, HBz.out⟩
      · have HVq8 := Lib.hid (errF HVq7.out hq)
        clear hq HVq7
        refine HVq8.out.mono ?_
        rintro r w8 ⟨⟨n, rfl, hn⟩, hb8⟩
        have HB8 := Lib.hid (HBw7.out.trans (hb8.mono HBw7.out.size))
        clear hb8
        go_wp2_with fail
        refine (HAw.out w8 (HB8.out)).mono ?_
        rintro r wz ⟨rfl, hbz⟩
        have HBz : Hid (Below w.heap.size w wz) := (HB8.out).trans (hbz.mono (HB8.out).size)
        clear hbz
        go_wp2_with fail
        go_ret
        exact ⟨rfl, HBz.out⟩
    · have HVp := Lib.hid (errF (HV0.out w1 HB1.out) hp)
      clear hp
      go_wp2_with fail
      refine HVp.out.mono ?_
      rintro r w3 ⟨⟨n, rfl, hn⟩, hb3⟩
      have HB3 := Lib.hid (HB1.out.trans (hb3.mono HB1.out.size))
      clear hb3
      go_wp2_with fail
      refine (HAw.out w3 (HB3.out)).mono ?_
      rintro r wz ⟨rfl, hbz⟩
      have HBz : Hid (Below w.heap.size w wz) := (HB3.out).trans (hbz.mono (HB3.out).size)
      clear hbz
      go_wp2_with fail
      go_ret
      exact ⟨rfl, HBz.out⟩
end Go.Proofs.YtgdphjgedhadoaaGreatDoor
