/- ref08: Same. -/
import Derived.Test.YtgdphjgedhadoaaGreatDoorSE
import Derived.Test.YtgdphjgedhadoaaGreatDoorSD
import Derived.Test.YtgdphjgedhadoaaGreatDoorKT
import Derived.Laws.ResultCell
import Derived.Deep.RegionHeld3
set_option linter.unusedSimpArgs false
set_option linter.unusedVariables false
set_option linter.unnecessarySimpa false
namespace Go.Proofs.YtgdphjgedhadoaaGreatDoor
open Go.RowKit
attribute [local go_sem ↓] Go.wp_at_zero Go.wp_at_succ

theorem ex_eq {op n : Int} {s : ByteArray} {args : List Ex} {op' n' : Int} {s' : ByteArray} {args' : List Ex} : (Ex.mk op n s args = Ex.mk op' n' s' args') ↔ op = op' ∧ n = n' ∧ s = s' ∧ args = args' := by
  constructor
  · intro h; injection h with h1 h2 h3 h4; exact ⟨h1, h2, h3, h4⟩
  · rintro ⟨rfl, rfl, rfl, rfl⟩; rfl
theorem toList_ne {s s' : ByteArray} (h : ¬ s = s') : (s.toList != s'.toList) = true := by
  cases he : (s.toList == s'.toList)
  · simp [bne, he]
  · have h1 := (toList_eq_iff _ _).1 he
    exact absurd (by cases s; cases s'; simpa [Array.toList_inj] using h1) h
set_option maxRecDepth 100000 in
set_option maxHeartbeats 8000000 in
theorem r08Same_any (x : Ex) : ∀ (y : Ex) (ax : Option Addr) (cx : Nat) (ay : Option Addr) (cy : Nat) (w : World), ExIn w x ax cx → ExIn w y ay cy →
    Calls Tryz.prog 36 #[exVal x ax cx, exVal y ay cy] w fun e w' => e = .returned (.bool (pB (x = y))) ∧ Below w.heap.size w w' := by
  induction x using Ex.ind with
  | h x ih =>
    intro y ax cx ay cy w hX hY
    obtain ⟨op, n, s, args⟩ := x
    obtain ⟨op', n', s', args'⟩ := y
    have HX := Lib.hid hX.2
    have HY := Lib.hid hY.2
    have HAX := Lib.hid hX.2.addr
    have HAY := Lib.hid hY.2.addr
    have hlx := hX.2.2.1
    have hly := hY.2.2.1
    simp only [Ex.args_mk] at HX HY HAX HAY hlx hly ih
    have HIH := Lib.hid ih
    clear hX hY ih
    simp only [exVal, Ex.op_mk, Ex.n_mk, Ex.name_mk, Ex.args_mk]
    by_cases h1 : op = op' ∧ n = n' ∧ s = s' ∧ args.length = args'.length
    · obtain ⟨rfl, rfl, rfl, hl⟩ := h1
      have Hl := Lib.hid hl
      have hd1 : (op != op) = false := by simp
      have hd2 : (n != n) = false := by simp
      have hd3 : (s.toList != s.toList) = false := by simp
      have hd4 : ((args.length : Int) != (args'.length : Int)) = false := by simp; omega
      clear hl
      go_enter Tryz.func36, Tryz.ntmps36
      go_wp2_with fail
      generalize hW2 : (w.alloc (.cells #[.int .i64 op, .int .i64 n, .string s, .slice ax args.length cx] 57)).alloc (.cells #[.int .i64 op, .int .i64 n, .string s, .slice ay args'.length cy] 57) = W2
      have hz2 : W2.heap.size = w.heap.size + 2 := by rw [← hW2]; simp
      have HB2 : Hid (Below w.heap.size w W2) := by show Below _ _ _; rw [← hW2]; exact (by repeat (first | assumption | exact Below.refl _ _ | refine Below.drew ?_ | refine below_drewN ?_ _ | refine Below.alloc ?_ (by first | omega | (simp only [World.size_alloc, World.size_setCell, World.size_drew, World.heap_drewN] <;> omega) | (simp <;> omega)) _ | refine Below.setCell ?_ (by first | omega | (simp only [World.size_alloc, World.size_setCell, World.size_drew, World.heap_drewN] <;> omega) | (simp <;> omega)) _))
      have HK1 : Hid (W2.heap[w.heap.size]? = some (.cells #[.int .i64 op, .int .i64 n, .string s, .slice ax args.length cx] 57 (0, 0))) := by
        show _ = _; rw [← hW2]
        exact (Below.heap_alloc _ _ _ (by simp)).trans (heap_alloc_new' w _)
      have HK2 : Hid (W2.heap[w.heap.size + 1]? = some (.cells #[.int .i64 op, .int .i64 n, .string s, .slice ay args'.length cy] 57 (0, 0))) := by
        show _ = _; rw [← hW2]
        have h := heap_alloc_new' (w.alloc (.cells #[.int .i64 op, .int .i64 n, .string s, .slice ax args.length cx] 57)) (.cells #[.int .i64 op, .int .i64 n, .string s, .slice ay args'.length cy] 57)
        simp only [World.size_alloc] at h
        exact h
      clear hW2
      go_loopw [5] (fun i wr => ∃ k : Nat, i = .int .i64 k ∧ k ≤ args.length ∧ Hid (∀ j (hj : j < args.length), j < k → args[j]'hj = args'[j]'(by have := Hl.out; omega)) ∧ Below (w.heap.size + 2) W2 wr) (fun i _ => args.length - (intOf i).toNat)
      case atStart => exact ⟨0, rfl, Nat.zero_le _, fun _ _ h => absurd h (by omega), Below.refl _ _⟩
      case round =>
        obtain ⟨k, rfl, hk, HAl, hB⟩ := hrel
        have hzr := hB.size
        have HBw : Hid (Below w.heap.size w wr) := HB2.out.trans (hB.mono (by omega))
        have hk1 := (hB.block w.heap.size (by omega)).trans HK1.out
        have hk2 := (hB.block (w.heap.size + 1) (by omega)).trans HK2.out
        have x3 : wr.cell? ⟨w.heap.size, 3, none⟩ = some (.slice ax args.length cx) := by simp [World.cell?, hk1]
        have y3 : wr.cell? ⟨w.heap.size + 1, 3, none⟩ = some (.slice ay args'.length cy) := by simp [World.cell?, hk2]
        have HB := Lib.hid hB
        clear hk1 hk2 hB
        by_cases hlt : k < args.length
        · have hltb : k < args'.length := by have := Hl.out; omega
          obtain ⟨ba, oa, ha⟩ := HAX.out.resolve_left (by omega)
          obtain ⟨bb, ob, hb⟩ := HAY.out.resolve_left (by omega)
          subst ha
          subst hb
          obtain ⟨a1, k1, g0, g1, g2, g3, hP⟩ := HX.out.get rfl hlt
          obtain ⟨a2, k2, q0, q1, q2, q3, hQ⟩ := HY.out.get rfl hltb
          have kk := keeps_of_below HBw.out
          have c0 : ∀ g : Grow wr.heap.size wr, g.w'.cell? _ = _ := Grow.old (kk _ _ g0) (Nat.le_refl _)
          have c1 : ∀ g : Grow wr.heap.size wr, g.w'.cell? _ = _ := Grow.old (kk _ _ g1) (Nat.le_refl _)
          have c2 : ∀ g : Grow wr.heap.size wr, g.w'.cell? _ = _ := Grow.old (kk _ _ g2) (Nat.le_refl _)
          have c3 : ∀ g : Grow wr.heap.size wr, g.w'.cell? _ = _ := Grow.old (kk _ _ g3) (Nat.le_refl _)
          have d0 : ∀ g : Grow wr.heap.size wr, g.w'.cell? _ = _ := Grow.old (kk _ _ q0) (Nat.le_refl _)
          have d1 : ∀ g : Grow wr.heap.size wr, g.w'.cell? _ = _ := Grow.old (kk _ _ q1) (Nat.le_refl _)
          have d2 : ∀ g : Grow wr.heap.size wr, g.w'.cell? _ = _ := Grow.old (kk _ _ q2) (Nat.le_refl _)
          have d3 : ∀ g : Grow wr.heap.size wr, g.w'.cell? _ = _ := Grow.old (kk _ _ q3) (Nat.le_refl _)
          have X3 : ∀ g : Grow wr.heap.size wr, g.w'.cell? _ = _ := Grow.old x3 (Nat.le_refl _)
          have Y3 : ∀ g : Grow wr.heap.size wr, g.w'.cell? _ = _ := Grow.old y3 (Nat.le_refl _)
          have HC := Lib.hid (fun W (hW : Below wr.heap.size wr W) => (HIH.out _ (List.getElem_mem hlt) _ a1 k1 a2 k2 W ((hP.keep kk).keep (keeps_of_below hW)) ((hQ.keep kk).keep (keeps_of_below hW))).mono fun e w' h => (⟨h.1, hW.trans (h.2.mono hW.size)⟩ : _ ∧ Below wr.heap.size wr w'))
          simp only [exVal] at HC
          have HNx : Hid (args[k]'hlt = args'[k]'hltb → ∀ j (hj : j < args.length), j < k + 1 → args[j]'hj = args'[j]'(by have := Hl.out; omega)) := fun he j hj hjk => by
            by_cases e : j = k
            · subst e; exact he
            · exact HAl.out j hj (by omega)
          have HNo : Hid (¬ (args[k]'hlt = args'[k]'hltb) → pB (Ex.mk op n s args = Ex.mk op n s args') = false) := fun he => pB_false (fun h => he (by have h2 := (ex_eq.1 h).2.2.2; subst h2; rfl))
          generalize args[k]'hlt = u at c0 c1 c2 c3 HC HNx HNo
          generalize args'[k]'hltb = v at d0 d1 d2 d3 HC HNx HNo
          clear g0 g1 g2 g3 q0 q1 q2 q3 kk hP hQ
          by_cases he : u = v
          · have HNx' := Lib.hid (HNx.out he)
            rw [pB_true he] at HC
            clear he HNx HNo
            go_wp2_with fail
            (refine wp_region_grow (B := wr.heap.size) (w0 := wr) (by kernel_rfl) (by kernel_rfl) (by repeat (first | assumption | exact Below.refl _ _ | refine Below.drew ?_ | refine below_drewN ?_ _ | refine Below.alloc ?_ (by first | omega | (simp only [World.size_alloc, World.size_setCell, World.size_drew, World.heap_drewN] <;> omega) | (simp <;> omega)) _ | refine Below.setCell ?_ (by first | omega | (simp only [World.size_alloc, World.size_setCell, World.size_drew, World.heap_drewN] <;> omega) | (simp <;> omega)) _)) ?_; (repeat (go_big_quiet_step ((go_at_call 36; with_reducible exact grow_call (HC.out _ (Grow.h _)))))); refine wpQuiet_nil ?_; intro wg hCg; have hbg := grow_out hCg; clear hCg)
            go_wp2_with fail
            go_roundw
            case rel => exact ⟨k + 1, by go_num, by omega, HNx'.out, HB.out.trans ((by assumption : Below wr.heap.size wr _).mono (by omega))⟩
            case measure => simp [intOf]; omega
          · have HNo' := Lib.hid (HNo.out he)
            rw [pB_false he] at HC
            clear he HNx HNo
            go_wp2_with fail
            (refine wp_region_grow (B := wr.heap.size) (w0 := wr) (by kernel_rfl) (by kernel_rfl) (by repeat (first | assumption | exact Below.refl _ _ | refine Below.drew ?_ | refine below_drewN ?_ _ | refine Below.alloc ?_ (by first | omega | (simp only [World.size_alloc, World.size_setCell, World.size_drew, World.heap_drewN] <;> omega) | (simp <;> omega)) _ | refine Below.setCell ?_ (by first | omega | (simp only [World.size_alloc, World.size_setCell, World.size_drew, World.heap_drewN] <;> omega) | (simp <;> omega)) _)) ?_; (repeat (go_big_quiet_step ((go_at_call 36; with_reducible exact grow_call (HC.out _ (Grow.h _)))))); refine wpQuiet_nil ?_; intro wg hCg; have hbg := grow_out hCg; clear hCg)
            go_wp2_with fail
            go_ret
            exact ⟨by rw [HNo'.out]; rfl, HBw.out.trans ((by assumption : Below wr.heap.size wr _).mono HBw.out.size)⟩
        · obtain rfl : k = args.length := by omega
          have HYes : Hid (pB (Ex.mk op n s args = Ex.mk op n s args') = true) := pB_true (ex_eq.2 ⟨rfl, rfl, rfl, List.ext_getElem Hl.out (fun j hj _ => HAl.out j hj hj)⟩)
          go_wp2_with fail
          go_ret
          exact ⟨by rw [HYes.out]; rfl, HBw.out⟩
    · have HNo : Hid (pB (Ex.mk op n s args = Ex.mk op' n' s' args') = false) := pB_false (fun h => h1 (by have h2 := ex_eq.1 h; exact ⟨h2.1, h2.2.1, h2.2.2.1, by rw [h2.2.2.2]⟩))
      have hcase : (op != op') = true ∨ (op != op') = false ∧ ((n != n') = true ∨ (n != n') = false ∧ ((¬ s.toList = s'.toList) ∨ s = s' ∧ ((args.length : Int) != (args'.length : Int)) = true)) := by
        by_cases e1 : op = op'
        · by_cases e2 : n = n'
          · by_cases e3 : s = s'
            · refine Or.inr ⟨by simp [e1], Or.inr ⟨by simp [e2], Or.inr ⟨e3, ?_⟩⟩⟩
              have : args.length ≠ args'.length := fun e4 => h1 ⟨e1, e2, e3, e4⟩
              simp; omega
            · refine Or.inr ⟨by simp [e1], Or.inr ⟨by simp [e2], Or.inl ?_⟩⟩
              exact fun h => by have := toList_ne e3; rw [h] at this; simp at this
          · exact Or.inr ⟨by simp [e1], Or.inl (by simpa using e2)⟩
        · exact Or.inl (by simpa using e1)
      clear h1
      rcases hcase with hd | ⟨hd, hd2 | ⟨hd2, hd3 | ⟨rfl, hd4⟩⟩⟩
      all_goals
        go_enter Tryz.func36, Tryz.ntmps36
        go_wp2_with fail
        go_ret
        exact ⟨by rw [HNo.out]; rfl, (by repeat (first | assumption | exact Below.refl _ _ | refine Below.drew ?_ | refine below_drewN ?_ _ | refine Below.alloc ?_ (by first | omega | (simp only [World.size_alloc, World.size_setCell, World.size_drew, World.heap_drewN] <;> omega) | (simp <;> omega)) _ | refine Below.setCell ?_ (by first | omega | (simp only [World.size_alloc, World.size_setCell, World.size_drew, World.heap_drewN] <;> omega) | (simp <;> omega)) _))⟩
end Go.Proofs.YtgdphjgedhadoaaGreatDoor

/- law22's awake: plain facts of its problems. -/
namespace Go.Proofs.YtgdphjgedhadoaaGreatDoor
open Go.RowKit

def vA : List VarD := [⟨⟨#[97]⟩, 4, 1, 0⟩]
def eV : Ex := .mk 2 0 ⟨#[97]⟩ []
def eC (n : Int) : Ex := .mk 1 n ⟨#[]⟩ []
def cm (op n : Int) : Ex := .mk op 0 ⟨#[]⟩ [eV, eC n]
def pA : ProbD := ⟨vA, [cm 17 4], [cm 15 5, cm 15 2, cm 15 1], [], [[0]]⟩
def dA : DistD := ⟨0, [⟨0, 0, 1, true⟩, ⟨2, 3, 4, false⟩, ⟨9, 9, 0, true⟩]⟩
def qA : ProbD := ⟨vA, [], [cm 15 5, cm 15 2, cm 15 1], [dA], [[0]]⟩
theorem vA_ok : VarsOk vA := by
  refine ⟨by decide, ?_, ?_, ?_, by decide⟩
  · intro i h
    rcases i with _ | i
    · show varOkB ⟨⟨#[97]⟩, 4, 1, 0⟩ = true
      decide
    · have : i + 1 < 1 := h
      omega
  · rintro i hi ⟨_, j, hj, he⟩
    have : i < 1 := hi
    omega
  · rintro ⟨v, hv, A, n, h1, h2, h3, _⟩
    rw [toList_eq_iff] at h3
    have h4 := congrArg List.length h3
    have h5 : v.name.data.toList.length = 1 := by
      simp [vA] at hv
      rcases hv with rfl
      rfl
    rw [h5] at h4
    simp [elName] at h4
theorem nodes_cm (op n : Int) : (cm op n).nodes = [cm op n, eV, eC n] := by
  rw [Ex.nodes_eq]
  simp [cm, Ex.args_mk, nodes_leaf, eV, eC]
def CmOk (q : Int × Int) : Prop := (q.1 = 15 ∨ q.1 = 17) ∧ firstE [cm q.1 q.2, eV, eC q.2] = 0
theorem cm_valid {op n : Int} (h : firstE [cm op n, eV, eC n] = 0) : validS (cm op n) = 0 := by
  unfold validS
  rw [nodes_cm, h, if_neg]
  rintro ⟨_, h | h⟩
  · rw [Ex.depth_eq] at h
    simp [cm, eV, eC, Ex.args_mk, Ex.depth_eq] at h
  · simp at h
theorem cm_expr {op n : Int} (h : CmOk (op, n)) : ExprOk vA (cm op n) := by
  obtain ⟨ho, hf⟩ := h
  simp only at ho hf
  refine ⟨cm_valid hf, ?_, ?_⟩
  · rw [nodes_cm]
    rcases ho with rfl | rfl <;> simp [arrN, cm, eV, eC, Ex.op_mk]
  · rw [nodes_cm]
    rcases ho with rfl | rfl <;> simp [forN, cm, eV, eC, vA, findV, Ex.op_mk, Ex.name_mk, ByteArray.toList_eq]
theorem cm1 : CmOk (17, 4) := ⟨Or.inr rfl, by decide⟩
theorem cm2 : CmOk (15, 5) := ⟨Or.inl rfl, by decide⟩
theorem cm3 : CmOk (15, 2) := ⟨Or.inl rfl, by decide⟩
theorem cm4 : CmOk (15, 1) := ⟨Or.inl rfl, by decide⟩
theorem soft_ok (i : Nat) (h : i < [cm 15 5, cm 15 2, cm 15 1].length) : ExprOk vA ([cm 15 5, cm 15 2, cm 15 1][i]'h) := by
  rcases i with _ | _ | _ | i
  · exact cm_expr cm2
  · exact cm_expr cm3
  · exact cm_expr cm4
  · have : i + 1 + 1 + 1 < 3 := h
    omega
theorem groups_ok : GroupsOk vA [[0]] := by
  refine ⟨?_, ?_, ?_⟩
  · intro g hg; simp at hg; subst hg; simp
  · intro g hg v hv
    simp at hg; subst hg
    simp at hv
    subst hv
    decide
  · intro i h
    rcases i with _ | i
    · rfl
    · have : i + 1 < 1 := h
      omega
theorem pA_ok : ProbOk pA := by
  refine ⟨vA_ok, ?_, soft_ok, fun i h => absurd h (by simp [pA]), groups_ok⟩
  intro i h
  rcases i with _ | i
  · exact cm_expr cm1
  · have : i + 1 < 1 := h
    omega
theorem qA_ok : ProbOk qA := by
  refine ⟨vA_ok, fun i h => absurd h (by simp [qA]), soft_ok, ?_, groups_ok⟩
  intro i h
  rcases i with _ | i
  · show DistOk vA [dA] 0 dA
    exact ⟨⟨by decide, _, rfl, by decide⟩, fun j _ h => absurd h (by omega), by decide, by decide⟩
  · have : i + 1 < 1 := h
    omega
theorem val_cm {op n : Int} (ho : op = 15 ∨ op = 17) (env : List (ByteArray × Int)) : valueS env (cm op n) = operateS op [(findS env ⟨#[97]⟩).getD 0, n] := by
  rw [valueS_eq]
  rcases ho with rfl | rfl <;> simp [cm, eV, eC, valueS_eq, Ex.op_mk, Ex.n_mk, Ex.name_mk, Ex.args_mk]
theorem names_cm {op n : Int} (ho : op = 15 ∨ op = 17) : namesS [2] (cm op n) = [⟨#[97]⟩] ∧ namesS [3, 24] (cm op n) = [] := by
  have h1 : Lib.idxOfS [] (⟨#[97]⟩ : ByteArray) = -1 := by rfl
  unfold namesS
  rw [nodes_cm]
  rcases ho with rfl | rfl <;> simp [addName, cm, eV, eC, Lib.containsS, Ex.op_mk, Ex.name_mk, h1]
theorem find_A (a : Int) : findS [(⟨#[97]⟩, a)] ⟨#[97]⟩ = some (wrapW a) := by simp [findS]
theorem eval_cm {op n : Int} (h : CmOk (op, n)) (a : Int) : evalS [(⟨#[97]⟩, a)] (cm op n) = (operateS op [wrapW a, n], 0) := by
  unfold evalS
  rw [cm_valid h.2, if_neg (by simp), if_neg, val_cm h.1, find_A]
  · rfl
  · unfold knownS
    rw [(names_cm h.1).1, (names_cm h.1).2]
    simp [find_A]
theorem tot_vA : totN vA = 16 := by decide
theorem nth_vA (k : Nat) : nthN vA k = [((k % 16 : Nat) : Int)] := by
  show [digN _ (k / 1)] = _
  rw [Nat.div_one]
  rfl
/-- a comparison holds for a value -/
def cmB (a : Int) (q : Int × Int) : Bool := operateS q.1 [wrapW a, q.2] != 0
theorem hit_vA {L : List (Int × Int)} (hL : ∀ q, q ∈ L → CmOk q) (k : Nat) : hitN vA (L.map fun q => cm q.1 q.2) k = L.all (cmB ((k % 16 : Nat) : Int)) := by
  unfold hitN allS
  rw [nth_vA, List.all_map]
  have he : envS vA [((k % 16 : Nat) : Int)] = [(⟨#[97]⟩, ((k % 16 : Nat) : Int))] := rfl
  rw [he]
  induction L with
  | nil => rfl
  | cons q L ih =>
    rw [List.all_cons, List.all_cons, ih fun q' h => hL q' (by simp [h])]
    congr 1
    show ((evalS _ (cm q.1 q.2)).1 != 0) = _
    rw [eval_cm (hL q (by simp))]
    rfl
theorem solv_yes {L : List (Int × Int)} (hL : ∀ q, q ∈ L → CmOk q) (k : _root_.Fin 16) (h : L.all (cmB ((k.val % 16 : Nat) : Int)) = true) : solvB vA (L.map fun q => cm q.1 q.2) = true :=
  pB_true ⟨k.val, by rw [tot_vA]; exact k.isLt, by rw [hit_vA hL]; exact h⟩
theorem solv_no {L : List (Int × Int)} (hL : ∀ q, q ∈ L → CmOk q) (h : ∀ k : _root_.Fin 16, L.all (cmB ((k.val % 16 : Nat) : Int)) = false) : solvB vA (L.map fun q => cm q.1 q.2) = false :=
  pB_false (by
    rintro ⟨k, hk, h1⟩
    rw [tot_vA] at hk
    rw [hit_vA hL, h ⟨k, hk⟩] at h1
    simp at h1)
theorem s0 : solvB vA [cm 17 4] = true := solv_yes (L := [(17, 4)]) (by intro q h; simp at h; subst h; exact cm1) 1 (by decide)
theorem s1 : solvB vA [cm 17 4, cm 15 1] = true := solv_yes (L := [(17, 4), (15, 1)]) (by intro q h; simp at h; rcases h with rfl | rfl; exact cm1; exact cm4) 1 (by decide)
theorem s2 : solvB vA [cm 17 4, cm 15 1, cm 15 2] = false := solv_no (L := [(17, 4), (15, 1), (15, 2)]) (by intro q h; simp at h; rcases h with rfl | rfl | rfl; exact cm1; exact cm4; exact cm3) (by decide)
theorem s3 : solvB vA [cm 17 4, cm 15 1, cm 15 5] = false := solv_no (L := [(17, 4), (15, 1), (15, 5)]) (by intro q h; simp at h; rcases h with rfl | rfl | rfl; exact cm1; exact cm4; exact cm2) (by decide)
theorem keep_pA : keepS (solvB vA) pA.soft [cm 17 4] 3 = ([cm 17 4, cm 15 1], [2]) := by
  have h1 : keepS (solvB vA) pA.soft [cm 17 4] 1 = ([cm 17 4, cm 15 1], [2]) := keepS_yes (S := solvB vA) (soft := pA.soft) (base := [cm 17 4]) (k := 0) (i := 2) (by decide) (by decide) s1
  have h2 : keepS (solvB vA) pA.soft [cm 17 4] 2 = ([cm 17 4, cm 15 1], [2]) := (keepS_no (S := solvB vA) (soft := pA.soft) (base := [cm 17 4]) (k := 1) (i := 1) (by decide) (by decide) (by rw [h1]; exact s2)).trans h1
  exact (keepS_no (S := solvB vA) (soft := pA.soft) (base := [cm 17 4]) (k := 2) (i := 0) (by decide) (by decide) (by rw [h2]; exact s3)).trans h2
theorem keptI_pA : keptI pA = [2] := by
  have h : keptN pA = [2] := by
    unfold keptN
    show ((keepS (solvB vA) pA.soft [cm 17 4] 3).2).reverse = _
    rw [keep_pA]
    rfl
  unfold keptI
  rw [if_pos ⟨pB_true pA_ok, s0⟩, h]
  rfl
theorem keptErr_pA : keptErr pA = 0 := by
  unfold keptErr
  rw [if_pos (pB_true pA_ok), if_pos (show solvB pA.vars (pA.hard ++ suppsE pA) = true from s0)]
theorem supps_qA : suppsE qA = [iE ⟨#[97]⟩ [0, 0, 2, 3]] := by
  have hb : boundsN (suppP dA) 16 = [0, 0, 2, 3] := by decide
  show [unE ⟨#[97]⟩ (boundsN (suppP dA) 16)] = _
  rw [hb]
  rfl
theorem bits_pA : bitsTo vA vA.length ≤ 10 := by decide
theorem nodes3 (op n : Int) : (cm op n).nodes.length ≤ 1000000000 := by rw [nodes_cm]; simp
theorem pA_small : ProbSmall pA := by
  refine ⟨?_, ?_, by simp [pA]⟩
  · intro e he; simp [pA] at he; subst he; exact nodes3 _ _
  · intro e he; simp [pA] at he; rcases he with rfl | rfl | rfl <;> exact nodes3 _ _
theorem qA_small : ProbSmall qA := by
  refine ⟨?_, ?_, by simp [qA]⟩
  · intro e he; simp [qA] at he
  · intro e he; simp [qA] at he; rcases he with rfl | rfl | rfl <;> exact nodes3 _ _
end Go.Proofs.YtgdphjgedhadoaaGreatDoor

/- law22: compare, n. -/
namespace Go.Proofs.YtgdphjgedhadoaaGreatDoor
open Go.RowKit
attribute [local go_sem ↓] Go.wp_at_zero Go.wp_at_succ

set_option maxHeartbeats 1000000 in
theorem law22n_any (n : Int) (w : World) : Calls Tryz.prog 64 #[.int .i64 n] w fun e w' => e = .returned (.agg #[.int .i64 1, .int .i64 n, .string ⟨#[]⟩, .slice none 0 0]) ∧ Below w.heap.size w w' := by
  go_enter Tryz.func64, Tryz.ntmps64
  go_wp2_with fail
  have hk : (w.alloc (.cells #[.int .i64 1, .int .i64 n, .string ⟨#[]⟩, .slice none 0 0] 57)).heap[w.heap.size]? = some (.cells #[.int .i64 1, .int .i64 n, .string ⟨#[]⟩, .slice none 0 0] 57 (0, 0)) := heap_alloc_new' _ _
  have HB : Below w.heap.size w (w.alloc (.cells #[.int .i64 1, .int .i64 n, .string ⟨#[]⟩, .slice none 0 0] 57)) := (by repeat (first | assumption | exact Below.refl _ _ | refine Below.drew ?_ | refine below_drewN ?_ _ | refine Below.alloc ?_ (by first | omega | (simp only [World.size_alloc, World.size_setCell, World.size_drew, World.heap_drewN] <;> omega) | (simp <;> omega)) _ | refine Below.setCell ?_ (by first | omega | (simp only [World.size_alloc, World.size_setCell, World.size_drew, World.heap_drewN] <;> omega) | (simp <;> omega)) _))
  generalize w.alloc (.cells #[.int .i64 1, .int .i64 n, .string ⟨#[]⟩, .slice none 0 0] 57) = WA at hk HB ⊢
  refine bodyPost_ret (v := .agg #[.int .i64 1, .int .i64 n, .string ⟨#[]⟩, .slice none 0 0]) (by simp [results, Tryz.results64, World.cell?, hk, go_sem]) rfl ?_
  exact ⟨rfl, HB⟩
set_option maxHeartbeats 1000000 in
theorem compare_any (op n : Int) (w : World) : Calls Tryz.prog 62 #[.int .i64 op, .int .i64 n] w fun e w' => ∃ a c, e = .returned (.agg #[.int .i64 op, .int .i64 0, .string ⟨#[]⟩, .slice a 2 c]) ∧ ExOn (w.heap.size ≤ ·) w' (cm op n) a c ∧ Below w.heap.size w w' := by
  go_enter Tryz.func62, Tryz.ntmps62
  go_wp2_with fail
  have hk : ((w.alloc (.cells #[.int .i64 op, .int .i64 0, .string ⟨#[]⟩, .slice (some ⟨w.heap.size + 1, 0, none⟩) 2 2] 57)).alloc (.cells #[.int .i64 2, .int .i64 0, .string ⟨#[97]⟩, .slice none 0 0, .int .i64 1, .int .i64 n, .string ⟨#[]⟩, .slice none 0 0] 57)).heap[w.heap.size]? = some (.cells #[.int .i64 op, .int .i64 0, .string ⟨#[]⟩, .slice (some ⟨w.heap.size + 1, 0, none⟩) 2 2] 57 (0, 0)) := (Below.heap_alloc _ _ _ (by simp)).trans (heap_alloc_new' _ _)
  have h := exOn_pair (S := (w.heap.size ≤ ·)) (w := w.alloc (.cells #[.int .i64 op, .int .i64 0, .string ⟨#[]⟩, .slice (some ⟨w.heap.size + 1, 0, none⟩) 2 2] 57)) (e := eV) (x := eC n) (exOn_leaf _ _ 2 0 ⟨#[97]⟩ (by decide)) (exOn_leaf _ _ 1 n ⟨#[]⟩ (by decide)) (by simp)
  simp only [World.size_alloc] at h
  have h : ExOn (w.heap.size ≤ ·) ((w.alloc (.cells #[.int .i64 op, .int .i64 0, .string ⟨#[]⟩, .slice (some ⟨w.heap.size + 1, 0, none⟩) 2 2] 57)).alloc (.cells #[.int .i64 2, .int .i64 0, .string ⟨#[97]⟩, .slice none 0 0, .int .i64 1, .int .i64 n, .string ⟨#[]⟩, .slice none 0 0] 57)) (eE eV (eC n)) (some ⟨w.heap.size + 1, 0, none⟩) 2 := h
  have HB : Below w.heap.size w ((w.alloc (.cells #[.int .i64 op, .int .i64 0, .string ⟨#[]⟩, .slice (some ⟨w.heap.size + 1, 0, none⟩) 2 2] 57)).alloc (.cells #[.int .i64 2, .int .i64 0, .string ⟨#[97]⟩, .slice none 0 0, .int .i64 1, .int .i64 n, .string ⟨#[]⟩, .slice none 0 0] 57)) := (by repeat (first | assumption | exact Below.refl _ _ | refine Below.drew ?_ | refine below_drewN ?_ _ | refine Below.alloc ?_ (by first | omega | (simp only [World.size_alloc, World.size_setCell, World.size_drew, World.heap_drewN] <;> omega) | (simp <;> omega)) _ | refine Below.setCell ?_ (by first | omega | (simp only [World.size_alloc, World.size_setCell, World.size_drew, World.heap_drewN] <;> omega) | (simp <;> omega)) _))
  generalize ((w.alloc (.cells #[.int .i64 op, .int .i64 0, .string ⟨#[]⟩, .slice (some ⟨w.heap.size + 1, 0, none⟩) 2 2] 57)).alloc (.cells #[.int .i64 2, .int .i64 0, .string ⟨#[97]⟩, .slice none 0 0, .int .i64 1, .int .i64 n, .string ⟨#[]⟩, .slice none 0 0] 57)) = WA at hk h HB ⊢
  refine bodyPost_ret (v := .agg #[.int .i64 op, .int .i64 0, .string ⟨#[]⟩, .slice (some ⟨w.heap.size + 1, 0, none⟩) 2 2]) (by simp [results, Tryz.results62, World.cell?, hk, go_sem]) rfl ?_
  exact ⟨some ⟨w.heap.size + 1, 0, none⟩, 2, rfl, fun w' hw => ⟨(show (⟨#[]⟩ : ByteArray).size ≤ 1073741824 by decide), (h w' hw).2⟩, HB⟩
end Go.Proofs.YtgdphjgedhadoaaGreatDoor

/- law22: awake. -/
namespace Go.Proofs.YtgdphjgedhadoaaGreatDoor
open Go.RowKit
attribute [local go_sem ↓] Go.wp_at_zero Go.wp_at_succ

theorem heap_alloc_drew (w : World) (o : Obj) : (w.alloc o).drew.heap[w.heap.size]? = some o := heap_alloc_new' w o
theorem exs_blk {W : World} {b : Nat} {l : List Ex} {xs : List Value} (hb : W.heap[b]? = some (.cells xs.toArray 57 (0, 0))) (hr : ExRow W l xs) (hn : l.length ≤ 1000) : ExsIn W l (some ⟨b, 0, none⟩) l.length := by
  have ho : W.ownsRow 0 57 4 (.slice (some ⟨b, 0, none⟩) l.length l.length) l.length xs := ⟨hr.1, Or.inr ⟨b, l.length, _, rfl, Nat.zero_le _, hb, Nat.le_refl _, by unfold maxLen; omega, by simpa using hr.1, by simp only []; exact List.take_of_length_le (by have := hr.1; omega)⟩⟩
  obtain ⟨a, c, hv, hE⟩ := exs_of_own ho hr (by omega)
  injection hv with e1 e2 e3
  subst e1 e3
  exact hE
theorem row1 {W : World} {e : Ex} {a : Option Addr} {c : Nat} (h : ExIn W e a c) : ExRow W [e] [.int .i64 e.op, .int .i64 e.n, .string e.name, .slice a e.args.length c] := by
  refine ⟨rfl, fun i hi => ?_⟩
  have hi' : i = 0 := by simp at hi; exact hi
  subst hi'
  exact ⟨a, c, rfl, rfl, rfl, rfl, h⟩
theorem ints1 {W : World} {b : Nat} {n : Int} (h : W.heap[b]? = some (.cells #[.int .i64 n] 3 (0, 0))) : IntsIn W [n] (some ⟨b, 0, none⟩) 1 := by
  refine ⟨by simp, by simp, Or.inr ⟨b, 0, rfl, fun i hi => ?_⟩⟩
  have hc := cell_of_blk h
  rcases i with _ | i
  · exact ⟨_, rfl, by rw [hc]; rfl⟩
  · simp at hi
theorem exIn_row {W : World} {e : Ex} {a : Option Addr} {c : Nat} (h : ExRow W [e] [.int .i64 e.op, .int .i64 e.n, .string e.name, .slice a e.args.length c]) : ExIn W e a c := by
  obtain ⟨a', c', _, _, _, h3, hX⟩ := h.2 0 (by simp)
  have h3' : Value.slice a e.args.length c = Value.slice a' e.args.length c' := Option.some.inj h3
  injection h3' with e1 _ e3
  subst e1 e3
  exact hX
theorem five_in {W : World} {b : Nat} (h : W.heap[b]? = some (.cells #[.int .i64 2, .int .i64 0, .string ⟨#[97]⟩, .slice none 0 0, .int .i64 1, .int .i64 0, .string ⟨#[]⟩, .slice none 0 0, .int .i64 1, .int .i64 0, .string ⟨#[]⟩, .slice none 0 0, .int .i64 1, .int .i64 2, .string ⟨#[]⟩, .slice none 0 0, .int .i64 1, .int .i64 3, .string ⟨#[]⟩, .slice none 0 0] 57 (0, 0))) : ExIn W (iE ⟨#[97]⟩ [0, 0, 2, 3]) (some ⟨b, 0, none⟩) 5 := by
  refine ⟨(show (⟨#[]⟩ : ByteArray).size ≤ 1073741824 by decide), ?_⟩
  have hr := (exRow_leaf W 2 0 ⟨#[97]⟩ (by decide)).append ((exRow_leaf W 1 0 ⟨#[]⟩ (by decide)).append ((exRow_leaf W 1 0 ⟨#[]⟩ (by decide)).append ((exRow_leaf W 1 2 ⟨#[]⟩ (by decide)).append (exRow_leaf W 1 3 ⟨#[]⟩ (by decide)))))
  exact exs_blk (W := W) (b := b) (by exact h) hr (by decide)
def xA (bv bh bs bg : Nat) (ad : Option Addr) (cd : Nat) : ProbA := ⟨some ⟨bv, 0, none⟩, 1, some ⟨bh, 0, none⟩, 1, some ⟨bs, 0, none⟩, 3, ad, cd, some ⟨bg, 0, none⟩, 1⟩
def xQ (bv bs bg bd : Nat) : ProbA := ⟨some ⟨bv, 0, none⟩, 1, none, 0, some ⟨bs, 0, none⟩, 3, some ⟨bd, 0, none⟩, 1, some ⟨bg, 0, none⟩, 1⟩
/-- the blocks that both problems share -/
structure ABlk (W : World) (bv bs bi bg : Nat) (s1 s2 s3 : Option Addr) (k1 k2 k3 : Nat) : Prop where
  hv : W.heap[bv]? = some (.cells #[.string ⟨#[97]⟩, .int .i64 4, .int .i64 1, .int .i64 0] 87 (0, 0))
  hs : W.heap[bs]? = some (.cells #[.int .i64 15, .int .i64 0, .string ⟨#[]⟩, .slice s1 2 k1, .int .i64 15, .int .i64 0, .string ⟨#[]⟩, .slice s2 2 k2, .int .i64 15, .int .i64 0, .string ⟨#[]⟩, .slice s3 2 k3] 57 (0, 0))
  hi : W.heap[bi]? = some (.cells #[.int .i64 0] 3 (0, 0))
  hg : W.heap[bg]? = some (.cells #[.slice (some ⟨bi, 0, none⟩) 1 1] 30 (0, 0))
  x1 : ExIn W (cm 15 5) s1 k1
  x2 : ExIn W (cm 15 2) s2 k2
  x3 : ExIn W (cm 15 1) s3 k3
theorem ABlk.below {W W' : World} {bv bs bi bg : Nat} {s1 s2 s3 : Option Addr} {k1 k2 k3 : Nat} (h : ABlk W bv bs bi bg s1 s2 s3 k1 k2 k3) (hb : Below W.heap.size W W') : ABlk W' bv bs bi bg s1 s2 s3 k1 k2 k3 :=
  ⟨(hb.block _ (lt_of_block h.hv)).trans h.hv, (hb.block _ (lt_of_block h.hs)).trans h.hs, (hb.block _ (lt_of_block h.hi)).trans h.hi, (hb.block _ (lt_of_block h.hg)).trans h.hg, h.x1.keep (keeps_of_below hb), h.x2.keep (keeps_of_below hb), h.x3.keep (keeps_of_below hb)⟩
theorem ABlk.vars {W : World} {bv bs bi bg : Nat} {s1 s2 s3 : Option Addr} {k1 k2 k3 : Nat} (h : ABlk W bv bs bi bg s1 s2 s3 k1 k2 k3) : VarsIn W vA (some ⟨bv, 0, none⟩) 1 := by
  refine ⟨by simp [vA], by simp [vA], Or.inr ⟨bv, 0, rfl, fun i hi => ?_⟩⟩
  have hc := cell_of_blk h.hv
  rcases i with _ | i
  · exact ⟨_, rfl, by rw [hc]; rfl, by rw [hc]; rfl, by rw [hc]; rfl, by rw [hc]; rfl, by decide⟩
  · simp [vA] at hi
theorem ABlk.soft {W : World} {bv bs bi bg : Nat} {s1 s2 s3 : Option Addr} {k1 k2 k3 : Nat} (h : ABlk W bv bs bi bg s1 s2 s3 k1 k2 k3) : ExsIn W [cm 15 5, cm 15 2, cm 15 1] (some ⟨bs, 0, none⟩) 3 := by
  have hr := (row1 h.x1).append ((row1 h.x2).append (row1 h.x3))
  exact exs_blk (W := W) (b := bs) (by exact h.hs) hr (by decide)
theorem ABlk.groups {W : World} {bv bs bi bg : Nat} {s1 s2 s3 : Option Addr} {k1 k2 k3 : Nat} (h : ABlk W bv bs bi bg s1 s2 s3 k1 k2 k3) : RowsIn W [[0]] (some ⟨bg, 0, none⟩) 1 := by
  refine ⟨by simp, by simp, Or.inr ⟨bg, 0, rfl, fun i hi => ?_⟩⟩
  have hc := cell_of_blk h.hg
  have hd := cell_of_blk h.hi
  rcases i with _ | i
  · refine ⟨_, rfl, _, _, by rw [hc]; rfl, ⟨by simp, by simp, Or.inr ⟨bi, 0, rfl, fun i hi => ?_⟩⟩⟩
    rcases i with _ | i
    · exact ⟨_, rfl, by rw [hd]; rfl⟩
    · simp at hi
  · simp at hi
theorem ABlk.probA {W : World} {bv bs bi bg bh : Nat} {s1 s2 s3 s0 : Option Addr} {k1 k2 k3 k0 : Nat} (h : ABlk W bv bs bi bg s1 s2 s3 k1 k2 k3) (hh : W.heap[bh]? = some (.cells #[.int .i64 17, .int .i64 0, .string ⟨#[]⟩, .slice s0 2 k0] 57 (0, 0))) (x0 : ExIn W (cm 17 4) s0 k0) : ProbIn W pA (xA bv bh bs bg none 0) :=
  ⟨h.vars, exs_blk (l := [cm 17 4]) (xs := [.int .i64 17, .int .i64 0, .string ⟨#[]⟩, .slice s0 2 k0]) hh (row1 x0) (by simp), h.soft, ⟨by simp [pA], by simp [pA], Or.inl rfl⟩, h.groups⟩
theorem ABlk.probQ {W : World} {bv bs bi bg bw bd : Nat} {s1 s2 s3 : Option Addr} {k1 k2 k3 : Nat} (h : ABlk W bv bs bi bg s1 s2 s3 k1 k2 k3)
    (hw : W.heap[bw]? = some (.cells #[.int .i64 0, .int .i64 0, .int .i64 1, .bool true, .int .i64 2, .int .i64 3, .int .i64 4, .bool false, .int .i64 9, .int .i64 9, .int .i64 0, .bool true] 90 (0, 0)))
    (hd : W.heap[bd]? = some (.cells #[.int .i64 0, .slice (some ⟨bw, 0, none⟩) 3 3] 93 (0, 0))) : ProbIn W qA (xQ bv bs bg bd) := by
  refine ⟨h.vars, ⟨by simp [qA], by simp [qA], Or.inl rfl⟩, h.soft, ?_, h.groups⟩
  refine ⟨by simp [qA, xQ], by simp [qA], Or.inr ⟨bd, 0, rfl, fun i hi => ?_⟩⟩
  have c := cell_of_blk hd
  have cw := cell_of_blk hw
  rcases i with _ | i
  · refine ⟨_, rfl, some ⟨bw, 0, none⟩, 3, by rw [c]; rfl, by rw [c]; rfl, ⟨by decide, by decide, Or.inr ⟨bw, 0, rfl, fun i hi => ?_⟩⟩⟩
    rcases i with _ | _ | _ | i
    · exact ⟨_, rfl, by rw [cw]; rfl, by rw [cw]; rfl, by rw [cw]; rfl, by rw [cw]; rfl⟩
    · exact ⟨_, rfl, by rw [cw]; rfl, by rw [cw]; rfl, by rw [cw]; rfl, by rw [cw]; rfl⟩
    · exact ⟨_, rfl, by rw [cw]; rfl, by rw [cw]; rfl, by rw [cw]; rfl, by rw [cw]; rfl⟩
    · have : i + 1 + 1 + 1 < 3 := hi
      omega
  · simp [qA] at hi
set_option maxRecDepth 100000 in
set_option maxHeartbeats 16000000 in
theorem awake22_any (w : World) (hG : Glob w) :
    Calls Tryz.prog 31 #[] w fun e w' => e = .returned (.bool true) ∧ Below w.heap.size w w' := by
  have HG := Lib.hid hG
  have HCm := Lib.hid (fun op n W => compare_any op n W)
  clear hG
  go_enter Tryz.func31, Tryz.ntmps31
  go_wp2_with fail
  generalize hW1 : w.alloc (.cells #[.string ⟨#[97]⟩, .int .i64 4, .int .i64 1, .int .i64 0] 87) = W1
  have HV1 : Hid (W1.heap[w.heap.size]? = some (.cells #[.string ⟨#[97]⟩, .int .i64 4, .int .i64 1, .int .i64 0] 87 (0, 0))) := by show _ = _; rw [← hW1]; exact heap_alloc_new' _ _
  have HB1 : Hid (Below w.heap.size w W1) := by show Below _ _ _; rw [← hW1]; exact (by repeat (first | assumption | exact Below.refl _ _ | refine Below.drew ?_ | refine below_drewN ?_ _ | refine Below.alloc ?_ (by first | omega | (simp only [World.size_alloc, World.size_setCell, World.size_drew, World.heap_drewN] <;> omega) | (simp <;> omega)) _ | refine Below.setCell ?_ (by first | omega | (simp only [World.size_alloc, World.size_setCell, World.size_drew, World.heap_drewN] <;> omega) | (simp <;> omega)) _))
  have hz1 : W1.heap.size = w.heap.size + 1 := by rw [← hW1]; simp
  clear hW1
  refine (HCm.out 17 4 W1).mono ?_
  rintro e w1 ⟨s0, k0, rfl, hx, hb⟩
  have HX0 := Lib.hid hx.here
  have HV2 := Lib.hid ((hb.block _ (by omega)).trans HV1.out)
  have HB2 := Lib.hid (HB1.out.trans (hb.mono (by omega)))
  have hz2 := hb.size
  clear hx hb
  go_wp2_with fail
  generalize hW2 : w1.alloc (.cells #[.int .i64 17, .int .i64 0, .string ⟨#[]⟩, .slice s0 2 k0] 57) = W2
  have hz3 : W2.heap.size = w1.heap.size + 1 := by rw [← hW2]; simp
  have Hh2 : Hid (W2.heap[w1.heap.size]? = some (.cells #[.int .i64 17, .int .i64 0, .string ⟨#[]⟩, .slice s0 2 k0] 57 (0, 0))) := by show _ = _; rw [← hW2]; exact heap_alloc_new' _ _
  have Hb2 : Hid (Below w1.heap.size w1 W2) := by show Below _ _ _; rw [← hW2]; exact (by repeat (first | assumption | exact Below.refl _ _ | refine Below.drew ?_ | refine below_drewN ?_ _ | refine Below.alloc ?_ (by first | omega | (simp only [World.size_alloc, World.size_setCell, World.size_drew, World.heap_drewN] <;> omega) | (simp <;> omega)) _ | refine Below.setCell ?_ (by first | omega | (simp only [World.size_alloc, World.size_setCell, World.size_drew, World.heap_drewN] <;> omega) | (simp <;> omega)) _))
  have HV3 := Lib.hid ((Hb2.out.block _ (by omega)).trans HV2.out)
  have HB3 := Lib.hid (HB2.out.trans (Hb2.out.mono (by omega)))
  have HX3 := Lib.hid (HX0.out.keep (keeps_of_below Hb2.out))
  clear hW2
  refine (HCm.out 15 5 W2).mono ?_
  rintro e w2 ⟨s1, k1, rfl, hx, hb⟩
  have HX1 := Lib.hid hx.here
  have hz4 := hb.size
  have HV4 := Lib.hid ((hb.block _ (by omega)).trans HV3.out)
  have Hh4 := Lib.hid ((hb.block _ (by omega)).trans Hh2.out)
  have HB4 := Lib.hid (HB3.out.trans (hb.mono (by omega)))
  have HX4 := Lib.hid (HX3.out.keep (keeps_of_below hb))
  clear hx hb HV1 HB1 HX0 HV2 HB2 Hh2 Hb2 HV3 HB3 HX3
  go_wp2_with fail
  refine (HCm.out 15 2 w2).mono ?_
  rintro e w3 ⟨s2, k2, rfl, hx, hb⟩
  have HX2 := Lib.hid hx.here
  have hz5 := hb.size
  have HV5 := Lib.hid ((hb.block _ (by omega)).trans HV4.out)
  have Hh5 := Lib.hid ((hb.block _ (by omega)).trans Hh4.out)
  have HB5 := Lib.hid (HB4.out.trans (hb.mono (by omega)))
  have HX5 := Lib.hid (HX4.out.keep (keeps_of_below hb))
  have HX1' := Lib.hid (HX1.out.keep (keeps_of_below hb))
  clear hx hb HV4 Hh4 HB4 HX4 HX1
  go_wp2_with fail
  refine (HCm.out 15 1 w3).mono ?_
  rintro e w4 ⟨s3, k3, rfl, hx, hb⟩
  have HX6 := Lib.hid hx.here
  have hz6 := hb.size
  have HV6 := Lib.hid ((hb.block _ (by omega)).trans HV5.out)
  have Hh6 := Lib.hid ((hb.block _ (by omega)).trans Hh5.out)
  have HB6 := Lib.hid (HB5.out.trans (hb.mono (by omega)))
  have HX7 := Lib.hid (HX5.out.keep (keeps_of_below hb))
  have HX8 := Lib.hid (HX1'.out.keep (keeps_of_below hb))
  have HX9 := Lib.hid (HX2.out.keep (keeps_of_below hb))
  clear hx hb HV5 Hh5 HB5 HX5 HX1' HX2
  go_wp2_with fail
  generalize hW5 : (((w4.alloc (.cells #[.int .i64 15, .int .i64 0, .string ⟨#[]⟩, .slice s1 2 k1, .int .i64 15, .int .i64 0, .string ⟨#[]⟩, .slice s2 2 k2, .int .i64 15, .int .i64 0, .string ⟨#[]⟩, .slice s3 2 k3] 57)).alloc (.cells #[.int .i64 0] 3)).alloc (.cells #[.slice (some ⟨w4.heap.size + 1, 0, none⟩) 1 1] 30)).alloc (.cells #[.slice (some ⟨w.heap.size, 0, none⟩) 1 1, .slice (some ⟨w1.heap.size, 0, none⟩) 1 1, .slice (some ⟨w4.heap.size, 0, none⟩) 3 3, .slice none 0 0, .slice (some ⟨w4.heap.size + 1 + 1, 0, none⟩) 1 1] 27) = W5
  have hz7 : W5.heap.size = w4.heap.size + 4 := by rw [← hW5]; simp
  have Hb5 : Hid (Below w4.heap.size w4 W5) := by show Below _ _ _; rw [← hW5]; exact (by repeat (first | assumption | exact Below.refl _ _ | refine Below.drew ?_ | refine below_drewN ?_ _ | refine Below.alloc ?_ (by first | omega | (simp only [World.size_alloc, World.size_setCell, World.size_drew, World.heap_drewN] <;> omega) | (simp <;> omega)) _ | refine Below.setCell ?_ (by first | omega | (simp only [World.size_alloc, World.size_setCell, World.size_drew, World.heap_drewN] <;> omega) | (simp <;> omega)) _))
  have HA5 : Hid (ABlk W5 w.heap.size w4.heap.size (w4.heap.size + 1) (w4.heap.size + 1 + 1) s1 s2 s3 k1 k2 k3) := by
    refine ⟨(Hb5.out.block _ (by omega)).trans HV6.out, ?_, ?_, ?_, HX8.out.keep (keeps_of_below Hb5.out), HX9.out.keep (keeps_of_below Hb5.out), HX6.out.keep (keeps_of_below Hb5.out)⟩
    all_goals rw [← hW5]
    all_goals (repeat (first | exact heap_alloc_at _ _ _ (by simp) | rw [Below.heap_alloc _ _ _ (by simp only [World.size_alloc]; omega)]))
  have HP5 : Hid (W5.heap[w4.heap.size + 1 + 1 + 1]? = some (.cells #[.slice (some ⟨w.heap.size, 0, none⟩) 1 1, .slice (some ⟨w1.heap.size, 0, none⟩) 1 1, .slice (some ⟨w4.heap.size, 0, none⟩) 3 3, .slice none 0 0, .slice (some ⟨w4.heap.size + 1 + 1, 0, none⟩) 1 1] 27 (0, 0))) := by
    show _ = _; rw [← hW5]
    exact heap_alloc_at _ _ _ (by simp)
  clear hW5
  have HKp := Lib.hid ((Kept_any pA (xA w.heap.size w1.heap.size w4.heap.size (w4.heap.size + 1 + 1) none 0) W5 (HA5.out.probA ((Hb5.out.block _ (by omega)).trans Hh6.out) (HX7.out.keep (keeps_of_below Hb5.out))) pA_small (HG.out.below (HB6.out.trans (Hb5.out.mono HB6.out.size))) (fun _ => bits_pA) (by simp [pA]) (by simp [pA]) (by simp [pA]) (fun _ e he => by simp [suppsE, pA] at he)).mono (R' := fun e w' => ∃ a c, e = .returned (.tuple #[.slice a 1 c, .int .i64 0]) ∧ IntsIn w' [2] a c ∧ Below W5.heap.size W5 w') (fun e w' ⟨a, c, h1, h2, h3⟩ => by
    rw [keptI_pA] at h1 h2
    rw [keptErr_pA] at h1
    exact ⟨a, c, h1, h2, h3⟩))
  simp only [show probVal pA (xA w.heap.size w1.heap.size w4.heap.size (w4.heap.size + 1 + 1) none 0) = .agg #[.slice (some ⟨w.heap.size, 0, none⟩) 1 1, .slice (some ⟨w1.heap.size, 0, none⟩) 1 1, .slice (some ⟨w4.heap.size, 0, none⟩) 3 3, .slice none 0 0, .slice (some ⟨w4.heap.size + 1 + 1, 0, none⟩) 1 1] from rfl] at HKp
  refine HKp.out.mono ?_
  rintro e w6 ⟨a6, c6, rfl, hI, hb⟩
  have HI6 := Lib.hid hI
  have HA6 := Lib.hid (HA5.out.below hb)
  have HB7 := Lib.hid (HB6.out.trans ((Hb5.out.mono HB6.out.size).trans (hb.mono (by have := HB6.out.size; omega))))
  have hp := (hb.block _ (by omega)).trans HP5.out
  have p0 : w6.cell? ⟨w4.heap.size + 1 + 1 + 1, 0, none⟩ = some (.slice (some ⟨w.heap.size, 0, none⟩) 1 1) := by simp [World.cell?, hp]
  have p1 : w6.cell? ⟨w4.heap.size + 1 + 1 + 1, 1, none⟩ = some (.slice (some ⟨w1.heap.size, 0, none⟩) 1 1) := by simp [World.cell?, hp]
  have p2 : w6.cell? ⟨w4.heap.size + 1 + 1 + 1, 2, none⟩ = some (.slice (some ⟨w4.heap.size, 0, none⟩) 3 3) := by simp [World.cell?, hp]
  have p3 : w6.cell? ⟨w4.heap.size + 1 + 1 + 1, 3, none⟩ = some (.slice none 0 0) := by simp [World.cell?, hp]
  have p4 : w6.cell? ⟨w4.heap.size + 1 + 1 + 1, 4, none⟩ = some (.slice (some ⟨w4.heap.size + 1 + 1, 0, none⟩) 1 1) := by simp [World.cell?, hp]
  have hz8 := hb.size
  clear hp hb hI HKp HP5 HA5 Hb5 HX6 HX7 HX8 HX9 HV6 Hh6
  go_wp2_with fail
  generalize hW7 : ((w6.alloc (.cells #[.slice (some ⟨w.heap.size, 0, none⟩) 1 1, .slice none 0 0, .slice (some ⟨w4.heap.size, 0, none⟩) 3 3, .slice (some ⟨w6.heap.size + 1 + 1, 0, none⟩) 1 1, .slice (some ⟨w4.heap.size + 1 + 1, 0, none⟩) 1 1] 27)).alloc (.cells #[.int .i64 0, .int .i64 0, .int .i64 1, .bool true, .int .i64 2, .int .i64 3, .int .i64 4, .bool false, .int .i64 9, .int .i64 9, .int .i64 0, .bool true] 90)).alloc (.cells #[.int .i64 0, .slice (some ⟨w6.heap.size + 1, 0, none⟩) 3 3] 93) = W7
  have hz9 : W7.heap.size = w6.heap.size + 3 := by rw [← hW7]; simp
  have Hb7 : Hid (Below w6.heap.size w6 W7) := by show Below _ _ _; rw [← hW7]; exact (by repeat (first | assumption | exact Below.refl _ _ | refine Below.drew ?_ | refine below_drewN ?_ _ | refine Below.alloc ?_ (by first | omega | (simp only [World.size_alloc, World.size_setCell, World.size_drew, World.heap_drewN] <;> omega) | (simp <;> omega)) _ | refine Below.setCell ?_ (by first | omega | (simp only [World.size_alloc, World.size_setCell, World.size_drew, World.heap_drewN] <;> omega) | (simp <;> omega)) _))
  have hw7 : W7.heap[w6.heap.size + 1]? = some (.cells #[.int .i64 0, .int .i64 0, .int .i64 1, .bool true, .int .i64 2, .int .i64 3, .int .i64 4, .bool false, .int .i64 9, .int .i64 9, .int .i64 0, .bool true] 90 (0, 0)) := by
    rw [← hW7]
    refine (Below.heap_alloc _ _ _ (by simp)).trans ?_
    exact heap_alloc_at _ _ _ (by simp)
  have hd7 : W7.heap[w6.heap.size + 1 + 1]? = some (.cells #[.int .i64 0, .slice (some ⟨w6.heap.size + 1, 0, none⟩) 3 3] 93 (0, 0)) := by
    rw [← hW7]
    exact heap_alloc_at _ _ _ (by simp)
  clear hW7
  have HQ7 := Lib.hid ((HA6.out.below Hb7.out).probQ hw7 hd7)
  have HB8 := Lib.hid (HB7.out.trans (Hb7.out.mono HB7.out.size))
  have HSp := Lib.hid ((Support_any qA (xQ w.heap.size w4.heap.size (w4.heap.size + 1 + 1) (w6.heap.size + 1 + 1)) W7 HQ7.out qA_small (HG.out.below HB8.out)).mono (R' := fun e w' => ∃ a c, e = .returned (.slice a 1 c) ∧ ExsIn w' [iE ⟨#[97]⟩ [0, 0, 2, 3]] a c ∧ Below W7.heap.size W7 w') (fun e w' ⟨l, a, c, h1, h2, h3, _, h4⟩ => by
    obtain rfl := (h3 qA_ok).trans supps_qA
    exact ⟨a, c, h1, h2 w' (fun _ _ _ hc => hc), h4⟩))
  simp only [show probVal qA (xQ w.heap.size w4.heap.size (w4.heap.size + 1 + 1) (w6.heap.size + 1 + 1)) = .agg #[.slice (some ⟨w.heap.size, 0, none⟩) 1 1, .slice none 0 0, .slice (some ⟨w4.heap.size, 0, none⟩) 3 3, .slice (some ⟨w6.heap.size + 1 + 1, 0, none⟩) 1 1, .slice (some ⟨w4.heap.size + 1 + 1, 0, none⟩) 1 1] from rfl] at HSp
  refine HSp.out.mono ?_
  rintro e w8 ⟨a8, c8, rfl, hE8, hb⟩
  have HB9 := Lib.hid (HB8.out.trans (hb.mono HB8.out.size))
  have HI8 := Lib.hid ((HI6.out.keep (keeps_of_below Hb7.out)).keep (keeps_of_below hb))
  obtain ⟨b8, o8, ha8⟩ := hE8.addr.resolve_left (by simp)
  subst ha8
  obtain ⟨ea, ec, q0, q1, q2, q3, hX⟩ := hE8.elt (i := 0) (by simp)
  have c0 : w8.cell? ⟨b8, o8, none⟩ = some (.int .i64 23) := q0
  have c1 : w8.cell? ⟨b8, o8 + 1, none⟩ = some (.int .i64 0) := q1
  have c2 : w8.cell? ⟨b8, o8 + 2, none⟩ = some (.string ⟨#[]⟩) := q2
  have c3 : w8.cell? ⟨b8, o8 + 3, none⟩ = some (.slice ea 5 ec) := q3
  have HS4 := Lib.hid (fun W (hW : Below w8.heap.size w8 W) => (⟨keeps_of_below hW _ _ c0, keeps_of_below hW _ _ c1, keeps_of_below hW _ _ c2, keeps_of_below hW _ _ c3⟩ : _ ∧ _ ∧ _ ∧ _))
  have HSI := Lib.hid (fun W (hW : Below w8.heap.size w8 W) (hk : W.heap[w8.heap.size]? = some (.cells #[.int .i64 2] 3 (0, 0))) => (SameInts_any [2] a6 c6 [2] (some ⟨w8.heap.size, 0, none⟩) 1 W (HI8.out.keep (keeps_of_below hW)) (ints1 hk)).mono fun e w' h => (⟨h.1, hW.trans (h.2.mono hW.size)⟩ : _ ∧ Below w8.heap.size w8 w'))
  have HN := Lib.hid (fun k W (hW : Below w8.heap.size w8 W) => (law22n_any k W).mono fun e w' h => (⟨h.1, hW.trans (h.2.mono hW.size)⟩ : _ ∧ Below w8.heap.size w8 w'))
  have HSm := Lib.hid (fun W b (hW : Below w8.heap.size w8 W) (hk : W.heap[b]? = some (.cells #[.int .i64 2, .int .i64 0, .string ⟨#[97]⟩, .slice none 0 0, .int .i64 1, .int .i64 0, .string ⟨#[]⟩, .slice none 0 0, .int .i64 1, .int .i64 0, .string ⟨#[]⟩, .slice none 0 0, .int .i64 1, .int .i64 2, .string ⟨#[]⟩, .slice none 0 0, .int .i64 1, .int .i64 3, .string ⟨#[]⟩, .slice none 0 0] 57 (0, 0))) => (r08Same_any (iE ⟨#[97]⟩ [0, 0, 2, 3]) (iE ⟨#[97]⟩ [0, 0, 2, 3]) ea ec (some ⟨b, 0, none⟩) 5 W (exIn_row (hX W (keeps_of_below hW))) (five_in hk)).mono fun e w' h => (⟨h.1, hW.trans (h.2.mono hW.size)⟩ : _ ∧ Below w8.heap.size w8 w'))
  simp only [decide_true, pB_true, List.length_cons, List.length_nil, Nat.zero_add, exVal, iE_args, Nat.reduceAdd, show (iE ⟨#[97]⟩ [0, 0, 2, 3]).op = 23 from rfl, show (iE ⟨#[97]⟩ [0, 0, 2, 3]).n = 0 from rfl, show (iE ⟨#[97]⟩ [0, 0, 2, 3]).name = ⟨#[]⟩ from rfl, List.map_cons, List.map_nil] at HSI HSm
  have hz10 := hb.size
  clear hX q0 q1 q2 q3 hE8 hb hw7 hd7 HSp HQ7 HA6 HB7 HB8 Hb7 HI6 p0 p1 p2 p3 p4
  have hB0 : Below w8.heap.size w8 w8 := Below.refl _ _
  go_wp2_with fail
  go_region_held3 (fun w' => Below w8.heap.size w8 w' ∧ w'.cell? ⟨b8, o8, none⟩ = some (.int .i64 23) ∧ w'.cell? ⟨b8, o8 + 1, none⟩ = some (.int .i64 0) ∧ w'.cell? ⟨b8, o8 + 2, none⟩ = some (.string ⟨#[]⟩) ∧ w'.cell? ⟨b8, o8 + 3, none⟩ = some (.slice ea 5 ec))
    ((refine (fun h => ⟨h, HS4.out _ h⟩) ?_; first | assumption | exact (by repeat (first | assumption | exact Below.refl _ _ | refine Below.drew ?_ | refine below_drewN ?_ _ | refine Below.alloc ?_ (by first | omega | (simp only [World.size_alloc, World.size_setCell, World.size_drew, World.heap_drewN] <;> omega) | (simp <;> omega)) _ | refine Below.setCell ?_ (by first | omega | (simp only [World.size_alloc, World.size_setCell, World.size_drew, World.heap_drewN] <;> omega) | (simp <;> omega)) _))))
    (first
      | (go_at_call 34; (with_reducible refine (HSI.out _ (And.left (by assumption)) (by first | exact heap_alloc_new' _ _ | exact heap_alloc_drew _ _)).mono ?_); rintro e w9 ⟨rfl, hb9⟩)
      | (go_at_call 64; (with_reducible refine (HN.out _ _ (by first | assumption | exact And.left (by assumption))).mono ?_); rintro e w9 ⟨rfl, hb9⟩; have hz9 := hb9.size)
      | (go_at_call 36; (with_reducible refine (HSm.out _ _ (And.left (by assumption)) (by first | exact heap_alloc_new' _ _ | exact heap_alloc_drew _ _)).mono ?_); rintro e w10 ⟨rfl, hb10⟩))
  all_goals
    go_wp2_with fail
    go_ret
    exact ⟨rfl, HB9.out.trans (hb10.mono HB9.out.size)⟩
end Go.Proofs.YtgdphjgedhadoaaGreatDoor
