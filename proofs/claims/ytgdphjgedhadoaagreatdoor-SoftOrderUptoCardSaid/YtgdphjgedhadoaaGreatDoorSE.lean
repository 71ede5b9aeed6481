/- the expressions of the supports are valid: plain. -/
import Derived.Test.YtgdphjgedhadoaaGreatDoorSD
import Derived.Test.YtgdphjgedhadoaaGreatDoorKT
import Derived.Test.YtgdphjgedhadoaaGreatDoorKO
import Derived.BigQuiet
set_option linter.unusedSimpArgs false
set_option linter.unusedVariables false
set_option linter.unnecessarySimpa false
namespace Go.Proofs.YtgdphjgedhadoaaGreatDoor
open Go.RowKit

theorem bounds_len (P : Nat → Bool) : ∀ k, (boundsN P (k + 1)).length ≤ k + 2 ∧ (P k = false → (boundsN P (k + 1)).length ≤ k + 1) := by
  intro k
  induction k with
  | zero =>
    cases h : P 0
    · refine ⟨?_, fun _ => ?_⟩ <;> simp [boundsN, boundsTo, stepB, h]
    · refine ⟨?_, fun h' => ?_⟩
      · simp [boundsN, boundsTo, stepB, h]
      · simp at h'
  | succ k ih =>
    cases h : P (k + 1)
    · rw [(bounds_last P (k + 1)).2.2 h]
      exact ⟨by have := ih.1; omega, fun _ => ih.1⟩
    · rw [bounds_step P (k + 1) h]
      refine ⟨?_, fun h' => by simp at h'⟩
      unfold flatStep
      split
      · rw [List.length_append, List.length_dropLast]
        have := ih.1
        simp; omega
      · rename_i hl
        have hk : P k = false := by
          cases hk : P k
          · rfl
          · exact absurd (by rw [(bounds_last P k).2.1 hk]; rfl) hl
        have := ih.2 hk
        simp; omega
/-- a node that is in order -/
def NodeOk (vs : List VarD) (x : Ex) : Prop := nodeS x = 0 ∧ arrN x = false ∧ forN vs x = false
def AllOk (vs : List VarD) (e : Ex) : Prop := ∀ x, x ∈ e.nodes → NodeOk vs x
theorem AllOk.node {vs : List VarD} {e : Ex} (h : NodeOk vs e) (ha : ∀ x, x ∈ e.args → AllOk vs x) : AllOk vs e := fun y hy => by
  rw [Ex.nodes_eq] at hy
  rcases List.mem_cons.1 hy with rfl | hy
  · exact h
  · obtain ⟨l, hl, hyl⟩ := List.mem_flatten.1 hy
    obtain ⟨a, ha', rfl⟩ := List.mem_map.1 hl
    exact ha a ha' y hyl
theorem firstE_all : ∀ l : List Ex, (∀ x, x ∈ l → nodeS x = 0) → firstE l = 0 := by
  intro l
  induction l with
  | nil => intro _; rfl
  | cons e l ih =>
    intro h
    unfold firstE
    rw [h e List.mem_cons_self]
    simpa using ih (fun x hx => h x (List.mem_cons_of_mem _ hx))
theorem nodeS_ok {e : Ex} (h1 : 1 ≤ e.op ∧ e.op ≤ 25) (h2 : e.op = 1 → 0 ≤ e.n ∧ e.n ≤ 65535) (h2' : e.op ≠ 1 → e.n = 0) (h3 : e.op = 2 ∨ e.name.data.toList = []) (h4 : operandsB e.op e.args.length = true) (h5 : e.op = 2 → varB e.name.data.toList = true) (h6 : ¬ (e.op = 3 ∨ e.op = 24)) : nodeS e = 0 := by
  unfold nodeS
  rw [if_neg (by omega), if_neg (fun h => ?_), if_neg (fun h => ?_), if_neg (fun h => ?_)]
  · rcases h with ⟨h, h'⟩ | ⟨h, _⟩
    · rw [h5 h] at h'; simp at h'
    · exact h6 h
  · rcases h with ⟨h, h'⟩ | h
    · rcases h3 with h3 | h3
      · exact h (Or.inl h3)
      · exact h' h3
    · rw [h4] at h; simp at h
  · rcases h with ⟨h, h'⟩ | ⟨h, h'⟩
    · have := h2 h; omega
    · exact h' (h2' h)
theorem AllOk.ok {vs : List VarD} {e : Ex} (h : AllOk vs e) (hd : e.depth ≤ 24) (hn : e.nodes.length ≤ 400) : ExprOk vs e := by
  refine ⟨?_, ?_, ?_⟩
  · unfold validS
    rw [firstE_all _ (fun x hx => (h x hx).1), if_neg (fun h' => by omega)]
  · rw [List.any_eq_false]
    intro x hx
    rw [(h x hx).2.1]; simp
  · rw [List.any_eq_false]
    intro x hx
    rw [(h x hx).2.2]; simp
theorem cE_ok (vs : List VarD) {n : Nat} (h : n ≤ 65535) : AllOk vs (cE n) := by
  refine AllOk.node ⟨nodeS_ok ?_ ?_ ?_ ?_ ?_ ?_ ?_, rfl, rfl⟩ (fun x hx => by simp [cE, Ex.args_mk] at hx)
  · show (1 : Int) ≤ 1 ∧ (1 : Int) ≤ 25; decide
  · intro _; show (0 : Int) ≤ (n : Int) ∧ (n : Int) ≤ 65535; omega
  · intro h'; exact absurd rfl h'
  · exact Or.inr rfl
  · rfl
  · intro h'; exact absurd (show (1 : Int) = 2 from h') (by decide)
  · show ¬ ((1 : Int) = 3 ∨ (1 : Int) = 24); decide
theorem vE_ok {vs : List VarD} {s : ByteArray} (h : varB s.data.toList = true) (hf : ¬ findV vs s 0 < 0) : AllOk vs (vE s) := by
  refine AllOk.node ⟨nodeS_ok ?_ ?_ ?_ ?_ ?_ ?_ ?_, rfl, ?_⟩ (fun x hx => by simp [vE, Ex.args_mk] at hx)
  · show (1 : Int) ≤ 2 ∧ (2 : Int) ≤ 25; decide
  · intro h'; exact absurd (show (2 : Int) = 1 from h') (by decide)
  · intro _; rfl
  · exact Or.inl rfl
  · rfl
  · intro _; exact h
  · show ¬ ((2 : Int) = 3 ∨ (2 : Int) = 24); decide
  · show ((2 : Int) == 2 && decide (findV vs s 0 < 0)) = false
    rw [decide_eq_false hf]; rfl
theorem iE_ok {vs : List VarD} {s : ByteArray} {bs : List Nat} (h : varB s.data.toList = true) (hf : ¬ findV vs s 0 < 0) (hb : ∀ n, n ∈ bs → n ≤ 65535) (he : bs.length % 2 = 0) (h32 : bs.length ≤ 32) (h0 : bs ≠ []) : AllOk vs (iE s bs) := by
  have hl : 0 < bs.length := List.length_pos_iff.2 h0
  refine AllOk.node ⟨nodeS_ok ?_ ?_ ?_ ?_ ?_ ?_ ?_, rfl, rfl⟩ (fun x hx => ?_)
  · show (1 : Int) ≤ 23 ∧ (23 : Int) ≤ 25; decide
  · intro h'; exact absurd (show (23 : Int) = 1 from h') (by decide)
  · intro _; rfl
  · exact Or.inr rfl
  · rw [iE_len, show (iE s bs).op = 23 from rfl]
    unfold operandsB
    rw [if_pos rfl]
    exact decide_eq_true (by omega)
  · intro h'; exact absurd (show (23 : Int) = 2 from h') (by decide)
  · show ¬ ((23 : Int) = 3 ∨ (23 : Int) = 24); decide
  · rw [iE_args] at hx
    rcases List.mem_cons.1 hx with rfl | hx
    · exact vE_ok h hf
    · obtain ⟨n, hn, rfl⟩ := List.mem_map.1 hx
      exact cE_ok vs (hb n hn)
theorem eE_ok {vs : List VarD} {a b : Ex} (ha : AllOk vs a) (hb : AllOk vs b) : AllOk vs (eE a b) := by
  refine AllOk.node ⟨nodeS_ok ?_ ?_ ?_ ?_ ?_ ?_ ?_, rfl, rfl⟩ (fun x hx => ?_)
  · show (1 : Int) ≤ 20 ∧ (20 : Int) ≤ 25; decide
  · intro h'; exact absurd (show (20 : Int) = 1 from h') (by decide)
  · intro _; rfl
  · exact Or.inr rfl
  · show operandsB 20 2 = true; decide
  · intro h'; exact absurd (show (20 : Int) = 2 from h') (by decide)
  · show ¬ ((20 : Int) = 3 ∨ (20 : Int) = 24); decide
  · simp [eE, Ex.args_mk] at hx
    rcases hx with rfl | rfl
    · exact ha
    · exact hb
theorem chE_ok {vs : List VarD} {s : ByteArray} {bs : List Nat} (h : varB s.data.toList = true) (hf : ¬ findV vs s 0 < 0) (hb : ∀ n, n ∈ bs → n ≤ 65535) (he : bs.length % 2 = 0) : ∀ c, 32 * (c - 1) < bs.length ∨ c = 0 → AllOk vs (chE s bs c) := by
  have hpart : ∀ c, 32 * c < bs.length → AllOk vs (iE s ((bs.drop (32 * c)).take 32)) := fun c hc => by
    refine iE_ok h hf (fun n hn => hb n (List.mem_of_mem_drop (List.mem_of_mem_take hn))) ?_ ?_ ?_
    · rw [List.length_take, List.length_drop]; omega
    · rw [List.length_take]; omega
    · intro h0
      have := congrArg List.length h0
      rw [List.length_take, List.length_drop] at this
      simp at this; omega
  intro c
  induction c with
  | zero => intro _; exact cE_ok vs (n := 0) (by decide)
  | succ c ih =>
    intro hc
    have hc' : 32 * c < bs.length := by omega
    by_cases h0 : c = 0
    · subst h0
      have := hpart 0 (by omega)
      simpa [chE_one] using this
    · rw [chE_succ s bs c (by omega)]
      exact eE_ok (ih (by omega)) (hpart c hc')
theorem size_iE (s : ByteArray) (bs : List Nat) : (iE s bs).nodes.length = bs.length + 2 ∧ (iE s bs).depth = 2 := by
  have hc : ∀ n : Nat, (cE n).nodes.length = 1 := fun n => by unfold cE; rw [nodes_leaf]; rfl
  constructor
  · rw [Ex.nodes_eq, iE_args]
    simp only [List.map_cons, List.flatten_cons, List.length_cons, List.length_append, List.map_map]
    have h1 : (vE s).nodes.length = 1 := by unfold vE; rw [nodes_leaf]; rfl
    have h2 : ∀ l : List Nat, (l.map (Ex.nodes ∘ fun (n : Nat) => cE (n : Int))).flatten.length = l.length := by
      intro l
      induction l with
      | nil => rfl
      | cons n l ih => simp only [List.map_cons, List.flatten_cons, List.length_append, List.length_cons, ih, Function.comp, hc]; omega
    rw [h1, h2]; omega
  · rw [Ex.depth_eq, iE_args]
    have hd : ∀ (op n : Int) (s : ByteArray), (Ex.mk op n s []).depth = 1 := fun op n s => by rw [Ex.depth_eq]; simp [Ex.args_mk]
    have h2 : ∀ l : List Nat, ((l.map fun (n : Nat) => cE (n : Int)).map Ex.depth).foldl max 1 = 1 := by
      intro l
      induction l with
      | nil => rfl
      | cons n l ih =>
        simp only [List.map_cons, List.foldl_cons]
        rw [show (cE (n : Int)).depth = 1 from hd _ _ _]
        exact ih
    simp only [List.map_cons, List.foldl_cons]
    rw [show (vE s).depth = 1 from hd _ _ _]
    rw [show max 0 1 = 1 from rfl, h2]
theorem size_eE (a b : Ex) : (eE a b).nodes.length = 1 + a.nodes.length + b.nodes.length ∧ (eE a b).depth = max a.depth b.depth + 1 := by
  constructor
  · rw [Ex.nodes_eq]
    simp [eE, Ex.args_mk]; omega
  · rw [Ex.depth_eq]
    simp [eE, Ex.args_mk]
theorem size_chE (s : ByteArray) (bs : List Nat) : ∀ c, (chE s bs (c + 1)).nodes.length ≤ (bs.take (32 * (c + 1))).length + 3 * (c + 1) ∧ (chE s bs (c + 1)).depth ≤ c + 2 := by
  intro c
  induction c with
  | zero =>
    rw [chE_one]
    obtain ⟨h1, h2⟩ := size_iE s (bs.take 32)
    rw [h1, h2]
    exact ⟨by simp only [Nat.zero_add, Nat.mul_one]; omega, Nat.le_refl _⟩
  | succ c ih =>
    rw [chE_succ s bs (c + 1) (by omega)]
    obtain ⟨h1, h2⟩ := size_iE s ((bs.drop (32 * (c + 1))).take 32)
    obtain ⟨h3, h4⟩ := size_eE (chE s bs (c + 1)) (iE s ((bs.drop (32 * (c + 1))).take 32))
    rw [h3, h4, h1, h2]
    simp only [List.length_take, List.length_drop] at *
    omega
theorem unE_ok {vs : List VarD} {s : ByteArray} {bs : List Nat} (h : varB s.data.toList = true) (hf : ¬ findV vs s 0 < 0) (hb : ∀ n, n ∈ bs → n ≤ 65535) (he : bs.length % 2 = 0) (hl : bs.length ≤ 257) : ExprOk vs (unE s bs) ∧ (unE s bs).nodes.length ≤ 1000000000 := by
  unfold unE
  have hok := chE_ok h hf hb he ((bs.length + 31) / 32) (by omega)
  cases hc : (bs.length + 31) / 32 with
  | zero =>
    rw [hc] at hok
    have h1 : (chE s bs 0).nodes.length = 1 := by show (cE 0).nodes.length = 1; unfold cE; rw [nodes_leaf]; rfl
    have h2 : (chE s bs 0).depth = 1 := by show (cE 0).depth = 1; unfold cE; rw [Ex.depth_eq]; simp [Ex.args_mk]
    exact ⟨hok.ok (by rw [h2]; decide) (by rw [h1]; decide), by rw [h1]; decide⟩
  | succ c =>
    rw [hc] at hok
    obtain ⟨h1, h2⟩ := size_chE s bs c
    have h3 : (bs.take (32 * (c + 1))).length ≤ bs.length := by rw [List.length_take]; omega
    exact ⟨hok.ok (by omega) (by omega), by omega⟩
theorem supp_rok {p : ProbD} (hp : ProbOk p) : Rok p (suppsE p) := fun e he => by
  unfold suppsE at he
  obtain ⟨d, hd, rfl⟩ := List.mem_map.1 he
  obtain ⟨i, hi, rfl⟩ := List.getElem_of_mem hd
  obtain ⟨h0, v, hv, hm⟩ := (hp.dists i hi).var
  unfold suppE
  rw [hv]
  simp only []
  obtain ⟨hlt, hve⟩ := List.getElem?_eq_some_iff.1 hv
  have hok := hp.vars.ok _ hlt
  rw [hve] at hok
  have hw := width_of_ok hok
  have h256 : 2 ^ v.width.toNat ≤ 256 := by
    calc 2 ^ v.width.toNat ≤ 2 ^ 8 := Nat.pow_le_pow_right (by decide) (by omega)
      _ = 256 := by decide
  have hpos : 0 < 2 ^ v.width.toNat := Nat.pow_pos (by decide)
  refine unE_ok (varB_of_ok hok) ?_ ?_ (bounds_even _ _) ?_
  · intro hf
    rcases findV_cases p.vars v.name with ⟨_, h2⟩ | ⟨k, hk, h1, _, _⟩
    · have := h2 _ hlt
      rw [hve] at this
      simp at this
    · rw [h1] at hf; omega
  · intro n hn
    have hall : ∀ N j, ∀ m, m ∈ boundsTo (suppP (p.dists[i]'hi)) N j → m < j := by
      intro N j
      induction j with
      | zero => intro m hm; simp [boundsTo] at hm
      | succ j ih =>
        intro m hm
        rw [boundsTo_succ, List.mem_append] at hm
        rcases hm with hm | hm
        · have := ih m hm; omega
        · unfold stepB at hm
          split at hm
          · rw [List.mem_append] at hm
            rcases hm with hm | hm <;> split at hm <;> simp at hm <;> omega
          · simp at hm
    have := hall _ _ n hn
    omega
  · obtain ⟨k, hk⟩ : ∃ k, 2 ^ v.width.toNat = k + 1 := ⟨2 ^ v.width.toNat - 1, by omega⟩
    rw [hk]
    have := (bounds_len (suppP (p.dists[i]'hi)) k).1
    omega
end Go.Proofs.YtgdphjgedhadoaaGreatDoor

/- ref14: SameInts; ref22: number. -/
namespace Go.Proofs.YtgdphjgedhadoaaGreatDoor
open Go.RowKit
attribute [local go_sem ↓] Go.wp_at_zero Go.wp_at_succ
set_option maxRecDepth 100000 in
set_option maxHeartbeats 4000000 in
theorem SameInts_any (A : List Int) (aa : Option Addr) (ca : Nat) (B : List Int) (ab : Option Addr) (cb : Nat) (w : World) (hA : IntsIn w A aa ca) (hB : IntsIn w B ab cb) :
    Calls Tryz.prog 34 #[.slice aa A.length ca, .slice ab B.length cb] w fun e w' => e = .returned (.bool (decide (A = B))) ∧ Below w.heap.size w w' := by
  have HA := Lib.hid hA
  have HB := Lib.hid hB
  have HAA := Lib.hid hA.addr
  have HAB := Lib.hid hB.addr
  have hla := hA.2.1
  have hlb := hB.2.1
  clear hA hB
  by_cases hl : A.length = B.length
  · have Hl := Lib.hid hl
    have hd : ((A.length : Int) != (B.length : Int)) = false := by simp; omega
    clear hl
    go_enter Tryz.func34, Tryz.ntmps34
    go_wp2_with fail
    go_loopw [5] (fun i wr => ∃ k : Nat, i = .int .i64 k ∧ k ≤ A.length ∧ Hid (∀ j (hj : j < A.length), j < k → A[j]'hj = B[j]'(by have := Hl.out; omega)) ∧ Hid (Below w.heap.size w wr)) (fun i _ => A.length - (intOf i).toNat)
    case atStart => exact ⟨0, rfl, Nat.zero_le _, fun _ _ h => absurd h (by omega), Below.refl _ _⟩
    case round =>
      obtain ⟨k, rfl, hk, HAl, HW⟩ := hrel
      by_cases hlt : k < A.length
      · have hltb : k < B.length := by have := Hl.out; omega
        obtain ⟨ba, oa, ha⟩ := HAA.out.resolve_left (by omega)
        obtain ⟨bb, ob, hb⟩ := HAB.out.resolve_left (by omega)
        subst ha
        subst hb
        have c0 := keeps_of_below HW.out _ _ (HA.out.get rfl hlt)
        have c1 := keeps_of_below HW.out _ _ (HB.out.get rfl hltb)
        rw [getD_at hlt] at c0
        rw [getD_at hltb] at c1
        by_cases he : A[k]'hlt = B[k]'hltb
        · have HNx : Hid (∀ j (hj : j < A.length), j < k + 1 → A[j]'hj = B[j]'(by have := Hl.out; omega)) := fun j hj hjk => by
            by_cases e : j = k
            · subst e; exact he
            · exact HAl.out j hj (by omega)
          generalize A[k]'hlt = x at c0 he
          generalize B[k]'hltb = y at c1 he
          have hne : (x != y) = false := by simp [he]
          clear he
          go_wp2_with fail
          go_quiet (fail)
          go_wp2_with fail
          go_roundw
          case rel => exact ⟨k + 1, by go_num, by omega, HNx.out, below_drewN HW.out _⟩
          case measure => simp [intOf]; omega
        · have HNo : Hid (decide (A = B) = false) := decide_eq_false (fun h => he (by subst h; rfl))
          generalize A[k]'hlt = x at c0 he
          generalize B[k]'hltb = y at c1 he
          have hne : (x != y) = true := by simpa using he
          clear he
          go_wp2_with fail
          go_quiet (fail)
          go_wp2_with fail
          go_ret
          exact ⟨by rw [HNo.out]; rfl, below_drewN HW.out _⟩
      · obtain rfl : k = A.length := by omega
        have HY : Hid (decide (A = B) = true) := decide_eq_true (eq_of_all Hl.out (fun j hj => HAl.out j hj hj))
        go_wp2_with fail
        go_ret
        exact ⟨by rw [HY.out]; rfl, HW.out⟩
  · have HNo : Hid (decide (A = B) = false) := decide_eq_false (fun h => hl (by rw [h]))
    have hd : ((A.length : Int) != (B.length : Int)) = true := by simp; omega
    clear hl
    go_enter Tryz.func34, Tryz.ntmps34
    go_wp2_with fail
    go_ret
    exact ⟨by rw [HNo.out]; rfl, Below.refl _ _⟩
set_option maxHeartbeats 1000000 in
theorem r22num_any (n : Int) (w : World) : Calls Tryz.prog 138 #[.int .i64 n] w fun e w' => e = .returned (.agg #[.int .i64 1, .int .i64 n, .string ⟨#[]⟩, .slice none 0 0]) ∧ Below w.heap.size w w' := r22number_any n w
end Go.Proofs.YtgdphjgedhadoaaGreatDoor
