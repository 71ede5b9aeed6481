/- law22: SoftGreatest, plain: what the supports mean. -/
import Derived.Test.YtgdphjgedhadoaaGreatDoorSE
import Derived.Test.YtgdphjgedhadoaaGreatDoorKF
import Derived.Test.YtgdphjgedhadoaaGreatDoorSJ
set_option linter.unusedSimpArgs false
set_option linter.unusedVariables false
set_option linter.unnecessarySimpa false
namespace Go.Proofs.YtgdphjgedhadoaaGreatDoor
open Go.RowKit

/-- a number lies in one of the pairs -/
def inP : List Nat → Nat → Bool
  | a :: b :: r, x => (decide (a ≤ x) && decide (x ≤ b)) || inP r x
  | _, _ => false
theorem inP_append : ∀ (a b : List Nat) (x : Nat), a.length % 2 = 0 → inP (a ++ b) x = (inP a x || inP b x)
  | [], b, x, _ => rfl
  | [_], _, _, h => by simp at h
  | c :: d :: r, b, x, h => by
    have ih := inP_append r b x (by simp at h; omega)
    show (_ || inP (r ++ b) x) = ((_ || inP r x) || inP b x)
    rw [ih, Bool.or_assoc]
theorem inP_inside : ∀ (bs : List Nat) (x : Nat), insideL (x : Int) (bs.map fun (n : Nat) => (n : Int)) = if inP bs x = true then 1 else 0
  | [], x => rfl
  | [_], x => rfl
  | a :: b :: r, x => by
    have ih := inP_inside r x
    show (if (a : Int) ≤ (x : Int) ∧ (x : Int) ≤ (b : Int) then 1 else insideL (x : Int) (r.map fun (n : Nat) => (n : Int))) = _
    rw [ih]
    by_cases h : a ≤ x ∧ x ≤ b
    · rw [if_pos (by omega)]
      have : inP (a :: b :: r) x = true := by
        show (_ || inP r x) = true
        simp [h.1, h.2]
      rw [this]; rfl
    · rw [if_neg (by omega)]
      have : inP (a :: b :: r) x = inP r x := by
        show (_ || inP r x) = inP r x
        have h2 : (decide (a ≤ x) && decide (x ≤ b)) = false := by simp; omega
        rw [h2, Bool.false_or]
      rw [this]
/-- pairs whose last one is a range -/
def GoodF (F : List Nat) : Prop := F = [] ∨ ∃ G lo hi, F = G ++ [lo, hi] ∧ G.length % 2 = 0 ∧ lo ≤ hi
theorem inP_step {F : List Nat} (hF : GoodF F) (n x : Nat) : GoodF (flatStep F n) ∧ inP (flatStep F n) x = (inP F x || decide (x = n)) := by
  have one : ∀ a b : Nat, inP [a, b] x = (decide (a ≤ x) && decide (x ≤ b)) := fun a b => by show ((_ && _) || false) = _; rw [Bool.or_false]
  have hnn : (decide (n ≤ x) && decide (x ≤ n)) = decide (x = n) := by
    by_cases h : x = n
    · subst h; simp
    · have : ¬ (n ≤ x ∧ x ≤ n) := by omega
      simp [h]; omega
  rcases hF with rfl | ⟨G, lo, hi, rfl, hG, hlh⟩
  · have e : flatStep [] n = [n, n] := rfl
    rw [e]
    exact ⟨Or.inr ⟨[], n, n, rfl, rfl, Nat.le_refl _⟩, by rw [one, hnn]; rfl⟩
  · have hlast : (G ++ [lo, hi]).getLast? = some hi := by simp
    have hdrop : (G ++ [lo, hi]).dropLast = G ++ [lo] := by
      rw [show G ++ [lo, hi] = (G ++ [lo]) ++ [hi] from by simp]
      exact List.dropLast_concat
    unfold flatStep
    rw [hlast]
    simp only [Option.map_some, Option.some.injEq]
    by_cases h : hi + 1 = n
    · rw [if_pos h, hdrop, show G ++ [lo] ++ [n] = G ++ [lo, n] from by simp]
      refine ⟨Or.inr ⟨G, lo, n, rfl, hG, by omega⟩, ?_⟩
      rw [inP_append _ _ _ hG, inP_append _ _ _ hG, one, one, Bool.or_assoc]
      congr 1
      by_cases h1 : lo ≤ x
      · by_cases h2 : x ≤ hi
        · simp [h1, h2]; omega
        · by_cases h3 : x = n
          · simp [h3]; omega
          · have : ¬ x ≤ n := by omega
            simp [h2, h3, this]
      · have : ¬ x = n := by omega
        simp [h1, this]
    · rw [if_neg h]
      refine ⟨Or.inr ⟨G ++ [lo, hi], n, n, rfl, by simp; omega, Nat.le_refl _⟩, ?_⟩
      rw [inP_append _ _ _ (by simp; omega), one, hnn]
theorem inP_flat (l : List Nat) (x : Nat) : ∀ F, GoodF F → inP (l.foldl flatStep F) x = (inP F x || l.contains x) := by
  induction l with
  | nil => intro F _; simp
  | cons n l ih =>
    intro F hF
    obtain ⟨h1, h2⟩ := inP_step hF n x
    rw [List.foldl_cons, ih _ h1, h2, List.contains_cons, Bool.or_assoc]
    congr 1
theorem inP_bounds (P : Nat → Bool) (N x : Nat) (hx : x < N) : inP (boundsN P N) x = P x := by
  rw [← flat_bounds, inP_flat _ _ _ (Or.inl rfl)]
  show (false || _) = _
  rw [Bool.false_or]
  cases hp : P x
  · rw [Bool.eq_false_iff]
    intro h
    have := (List.mem_filter.1 (List.contains_iff_mem.1 h)).2
    rw [hp] at this
    simp at this
  · exact List.contains_iff_mem.2 (List.mem_filter.2 ⟨List.mem_range.2 hx, hp⟩)
/-! ### the values -/
theorem val_iE {env : List (ByteArray × Int)} {s : ByteArray} {x : Nat} (hf : (findS env s).getD 0 = (x : Int)) (bs : List Nat) : valueS env (iE s bs) = if inP bs x = true then 1 else 0 := by
  have hc : ∀ n : Int, valueS env (cE n) = n := fun n => by rw [valueS_eq]; rfl
  have hv : valueS env (vE s) = (x : Int) := by rw [valueS_eq]; exact hf
  rw [valueS_eq, iE_args, List.map_cons, List.map_map, hv]
  show operateS 23 ((x : Int) :: bs.map (valueS env ∘ fun (n : Nat) => cE (n : Int))) = _
  have e : (valueS env ∘ fun (n : Nat) => cE (n : Int)) = fun (n : Nat) => (n : Int) := by funext n; exact hc _
  rw [e]
  exact inP_inside bs x
theorem val_eE (env : List (ByteArray × Int)) (a b : Ex) : valueS env (eE a b) = truthS (valueS env a != 0 || valueS env b != 0) := by
  rw [valueS_eq]
  rfl
theorem val_chE {env : List (ByteArray × Int)} {s : ByteArray} {x : Nat} (hf : (findS env s).getD 0 = (x : Int)) {bs : List Nat} (he : bs.length % 2 = 0) : ∀ c, (valueS env (chE s bs c) != 0) = inP (bs.take (32 * c)) x := by
  intro c
  induction c with
  | zero => show (valueS env (cE 0) != 0) = _; rw [valueS_eq]; rfl
  | succ c ih =>
    by_cases h0 : c = 0
    · subst h0
      rw [chE_one, val_iE hf]
      cases inP (bs.take (32 * (0 + 1))) x <;> rfl
    · rw [chE_succ s bs c (by omega), val_eE, ih, val_iE hf]
      have h1 : bs.take (32 * (c + 1)) = bs.take (32 * c) ++ (bs.drop (32 * c)).take 32 := by rw [show 32 * (c + 1) = 32 * c + 32 from by omega, List.take_add]
      rw [h1, inP_append _ _ _ (by rw [List.length_take]; omega)]
      cases inP (bs.take (32 * c)) x <;> cases inP ((bs.drop (32 * c)).take 32) x <;> rfl
theorem val_unE {env : List (ByteArray × Int)} {s : ByteArray} {x : Nat} (hf : (findS env s).getD 0 = (x : Int)) {bs : List Nat} (he : bs.length % 2 = 0) : (valueS env (unE s bs) != 0) = inP bs x := by
  unfold unE
  rw [val_chE hf he, List.take_of_length_le (by omega)]
/-! ### what is known -/
theorem find_some {l : List (ByteArray × Int)} {s : ByteArray} : ∀ (k : Nat) (hk : k < l.length), ((l[k]'hk).1.toList == s.toList) = true → (findS l s).isSome = true := by
  induction l with
  | nil => intro k hk; simp at hk
  | cons y l ih =>
    intro k hk h
    unfold findS
    split
    · rfl
    · rename_i hn
      cases k with
      | zero => exact absurd h hn
      | succ k => exact ih k (by simp at hk; omega) h
theorem env_get {vs : List VarD} {A : List Int} (hl : A.length = vs.length) {i : Nat} (hi : i < vs.length) : ∃ h : i < (envS vs A).length, (envS vs A)[i]'h = ((vs[i]'hi).name, A[i]'(by omega)) := by
  have he : envS vs A = (vs.zip A).map fun x => (x.1.name, x.2) := by unfold envS; rw [if_pos hl]
  have h : i < (envS vs A).length := by rw [he]; simp; omega
  refine ⟨h, ?_⟩
  simp only [he, List.getElem_map, List.getElem_zip]
theorem known_ok {vs : List VarD} {A : List Int} (hl : A.length = vs.length) {e : Ex} (h : ExprOk vs e) : knownS (envS vs A) e = true := by
  rw [known_eq]
  refine List.all_eq_true.2 fun x hx => ?_
  have h1 := List.any_eq_false.1 h.arr x hx
  have h2 := List.any_eq_false.1 h.names x hx
  unfold knownN
  by_cases ho : x.op = 2
  · rw [if_pos ho]
    have hf : ¬ findV vs x.name 0 < 0 := fun h9 => h2 (by unfold forN; simp [ho, h9])
    rcases findV_cases vs x.name with ⟨h3, _⟩ | ⟨k, hk, _, h4, _⟩
    · rw [h3] at hf; exact absurd (by decide) hf
    · obtain ⟨hk', he⟩ := env_get hl hk
      exact find_some k hk' (by rw [he]; exact h4)
  · rw [if_neg ho, if_neg (fun h9 => h1 (by unfold arrN; rcases h9 with h9 | h9 <;> simp [h9]))]
theorem eval_ok {vs : List VarD} {A : List Int} (hl : A.length = vs.length) {e : Ex} (h : ExprOk vs e) : (evalS (envS vs A) e).1 = valueS (envS vs A) e := by
  unfold evalS
  rw [h.valid, if_neg (by simp), if_neg (by rw [known_ok hl h]; simp)]
theorem find_var {vs : List VarD} (hV : VarsOk vs) {A : List Int} (hl : A.length = vs.length) {i : Nat} (hi : i < vs.length) : findS (envS vs A) (vs[i]'hi).name = some (wrapW (A[i]'(by omega))) := by
  obtain ⟨h, he⟩ := env_get hl hi
  rw [findS_at (vs[i]'hi).name (envS vs A) i h (fun j hj => ?_) (by rw [he]; simp), he]
  obtain ⟨h', he'⟩ := env_get hl (show j < vs.length by omega)
  rw [he']
  cases hc : ((vs[j]'(by omega)).name.toList == (vs[i]'hi).name.toList)
  · rfl
  · exact absurd ⟨hi, j, hj, hc⟩ (hV.dup i hi)
/-- the distributions give the numbers of an assignment positive weight -/
def posA (p : ProbD) (A : List Int) : Bool := p.dists.all fun d => posW d.weights (A.getD d.var.toNat 0)
theorem supp_hit {p : ProbD} (hp : ProbOk p) (k : Nat) : allS p.vars (suppsE p) (nthN p.vars k) = posA p (nthN p.vars k) := by
  have hl := nthN_len p.vars k
  have hA := asg_nth hp.vars.ok k
  unfold allS posA suppsE
  rw [List.all_map]
  apply Bool.eq_iff_iff.2
  rw [List.all_eq_true, List.all_eq_true]
  have hd : ∀ d, d ∈ p.dists → ((evalS (envS p.vars (nthN p.vars k)) (suppE p.vars d)).1 != 0) = posW d.weights ((nthN p.vars k).getD d.var.toNat 0) := fun d hd => by
    obtain ⟨i, hi, rfl⟩ := List.getElem_of_mem hd
    obtain ⟨h0, v, hv, hm⟩ := (hp.dists i hi).var
    have hr := (supp_rok hp (suppE p.vars (p.dists[i]'hi)) (List.mem_map.2 ⟨_, List.getElem_mem hi, rfl⟩)).1
    rw [eval_ok hl hr]
    obtain ⟨hlt, hve⟩ := List.getElem?_eq_some_iff.1 hv
    have hx := hA.at' _ hlt
    have hok := hp.vars.ok _ hlt
    rw [hve] at hx hok
    obtain ⟨n1, n2, _⟩ := nums_of_ok hok
    obtain ⟨_, hx0, hx1⟩ := hx
    have hfv := find_var hp.vars hl hlt
    rw [hve] at hfv
    have hgd : (nthN p.vars k).getD (p.dists[i]'hi).var.toNat 0 = (nthN p.vars k)[(p.dists[i]'hi).var.toNat]'(by rw [hl]; exact hlt) := by
      rw [List.getD_eq_getElem?_getD, List.getElem?_eq_getElem (by rw [hl]; exact hlt)]; rfl
    rw [hgd]
    generalize (nthN p.vars k)[(p.dists[i]'hi).var.toNat]'(by rw [hl]; exact hlt) = X at hx0 hx1 hfv
    obtain ⟨x, rfl⟩ := Int.eq_ofNat_of_zero_le hx0
    have h8 := (pow8 n2).2
    have hN : ((2 : Int) ^ v.width.toNat) = ((2 ^ v.width.toNat : Nat) : Int) := by simp
    have hxN : x < 2 ^ v.width.toNat := by omega
    have hw : (findS (envS p.vars (nthN p.vars k)) v.name).getD 0 = (x : Int) := by
      rw [hfv]
      show wrapW (x : Int) = (x : Int)
      unfold wrapW
      omega
    have hs : suppE p.vars (p.dists[i]'hi) = unE v.name (boundsN (suppP (p.dists[i]'hi)) (2 ^ v.width.toNat)) := by unfold suppE; rw [hv]
    rw [hs, val_unE hw (bounds_even _ _), inP_bounds _ _ _ hxN]
    rfl
  exact ⟨fun h d hdm => by rw [← hd d hdm]; exact h d hdm, fun h d hdm => by show ((evalS _ _).1 != 0) = true; rw [hd d hdm]; exact h d hdm⟩
end Go.Proofs.YtgdphjgedhadoaaGreatDoor

/- law22: SoftGreatest, plain: the kept set is the greatest one. -/
namespace Go.Proofs.YtgdphjgedhadoaaGreatDoor
open Go.RowKit

/-- constraint i holds for assignment k -/
noncomputable def satB (vs : List VarD) (soft : List Ex) (i k : Nat) : Bool := match soft[i]? with
  | some e => allS vs [e] (nthN vs k)
  | none => false
/-- the constraints below m that hold, as bits -/
noncomputable def ascS (vs : List VarD) (soft : List Ex) (k : Nat) : Nat → Nat
  | 0 => 0
  | m + 1 => ascS vs soft k m + if satB vs soft m k = true then 2 ^ m else 0
/-- .. those of the t last ones -/
noncomputable def hiS (vs : List VarD) (soft : List Ex) (k : Nat) : Nat → Nat
  | 0 => 0
  | t + 1 => hiS vs soft k t + if satB vs soft (soft.length - 1 - t) k = true then 2 ^ (soft.length - 1 - t) else 0
def sumP (l : List Nat) : Nat := (l.map fun i => 2 ^ i).sum
theorem sumP_append (a b : List Nat) : sumP (a ++ b) = sumP a + sumP b := by unfold sumP; rw [List.map_append, List.sum_append]
theorem sumP_one (i : Nat) : sumP [i] = 2 ^ i := by simp [sumP]
theorem sumP_reverse (l : List Nat) : sumP l.reverse = sumP l := by
  induction l with
  | nil => rfl
  | cons c l ih => rw [List.reverse_cons, sumP_append, ih, sumP_one, show c :: l = [c] ++ l from rfl, sumP_append, sumP_one, Nat.add_comm]
theorem asc_lt (vs : List VarD) (soft : List Ex) (k : Nat) : ∀ m, ascS vs soft k m < 2 ^ m := by
  intro m
  induction m with
  | zero => exact Nat.one_pos
  | succ m ih =>
    rw [ascS, Nat.pow_succ]
    split <;> omega
theorem asc_hi (vs : List VarD) (soft : List Ex) (k : Nat) : ∀ t, t ≤ soft.length → ascS vs soft k soft.length = ascS vs soft k (soft.length - t) + hiS vs soft k t := by
  intro t
  induction t with
  | zero => intro _; rfl
  | succ t ih =>
    intro ht
    rw [ih (by omega), hiS]
    obtain ⟨i, hi⟩ : ∃ i, soft.length - t = i + 1 := ⟨soft.length - t - 1, by omega⟩
    rw [hi, show soft.length - (t + 1) = i from by omega, show soft.length - 1 - t = i from by omega, ascS]
    omega
theorem mult_gap {D h V : Nat} (h1 : 2 * D ∣ h) (h2 : 2 * D ∣ V) (hle : h ≤ V) (hne : h ≠ V) : h + 2 * D ≤ V := by
  obtain ⟨u, rfl⟩ := h1
  obtain ⟨v, rfl⟩ := h2
  have huv : u < v := by
    rcases Nat.lt_or_ge u v with h | h
    · exact h
    · exact absurd (Nat.le_antisymm hle (Nat.mul_le_mul_left _ h)) hne
  have := Nat.mul_le_mul_left (2 * D) (show u + 1 ≤ v from huv)
  rw [Nat.mul_succ] at this
  exact this
theorem hit_snoc (vs : List VarD) (R : List Ex) (e : Ex) (k : Nat) : hitN vs (R ++ [e]) k = (hitN vs R k && allS vs [e] (nthN vs k)) := by
  unfold hitN allS
  rw [List.all_append]
structure Greedy (vs : List VarD) (soft base : List Ex) (t : Nat) : Prop where
  le : ∀ k, k < totN vs → hitN vs base k = true → hiS vs soft k t ≤ sumP (keepS (solvB vs) soft base t).2
  eq : ∀ k, k < totN vs → hitN vs base k = true → (hitN vs (keepS (solvB vs) soft base t).1 k = true ↔ hiS vs soft k t = sumP (keepS (solvB vs) soft base t).2)
  dv : 2 ^ (soft.length - t) ∣ sumP (keepS (solvB vs) soft base t).2
  dh : ∀ k, 2 ^ (soft.length - t) ∣ hiS vs soft k t
  ex : ∃ k, k < totN vs ∧ hitN vs base k = true ∧ hitN vs (keepS (solvB vs) soft base t).1 k = true
theorem hit_base {vs : List VarD} {S : List Ex → Bool} {soft base : List Ex} {t k : Nat} (h : hitN vs (keepS S soft base t).1 k = true) : hitN vs base k = true := by
  unfold hitN allS at h ⊢
  exact List.all_eq_true.2 fun e he => List.all_eq_true.1 h e (keepS_base he t)
theorem greedy {vs : List VarD} {soft base : List Ex} (hb : solvB vs base = true) : ∀ t, t ≤ soft.length → Greedy vs soft base t := by
  intro t
  induction t with
  | zero =>
    intro _
    obtain ⟨k, h1, h2⟩ := pB_iff.1 hb
    exact ⟨fun _ _ _ => Nat.le_refl _, fun k _ h => ⟨fun _ => rfl, fun _ => h⟩, Nat.dvd_zero _, fun _ => Nat.dvd_zero _, k, h1, h2, h2⟩
  | succ t ih =>
    intro ht
    have g := ih (by omega)
    obtain ⟨i, hi⟩ : ∃ i, i + t + 1 = soft.length := ⟨soft.length - 1 - t, by omega⟩
    have hil : i < soft.length := by omega
    have e1 : soft.length - 1 - t = i := by omega
    have e2 : soft.length - t = i + 1 := by omega
    have e3 : soft.length - (t + 1) = i := by omega
    have hs : ∀ k, satB vs soft i k = allS vs [soft[i]'hil] (nthN vs k) := fun k => by unfold satB; rw [List.getElem?_eq_getElem hil]
    have hh : ∀ k, hiS vs soft k (t + 1) = hiS vs soft k t + if satB vs soft i k = true then 2 ^ i else 0 := fun k => by rw [hiS, e1]
    have hD : 0 < 2 ^ i := Nat.pow_pos (by omega)
    have hdv := g.dv
    have hdh := g.dh
    rw [e2, Nat.pow_succ, Nat.mul_comm] at hdv
    have hdh' : ∀ k, 2 * 2 ^ i ∣ hiS vs soft k t := fun k => by have := hdh k; rw [e2, Nat.pow_succ, Nat.mul_comm] at this; exact this
    have hd1 : 2 ^ i ∣ 2 * 2 ^ i := Nat.dvd_mul_left _ _
    have hdh1 : ∀ k, 2 ^ i ∣ hiS vs soft k (t + 1) := fun k => by
      rw [hh]
      split
      · exact Nat.dvd_add (Nat.dvd_trans hd1 (hdh' k)) (Nat.dvd_refl _)
      · exact Nat.dvd_trans hd1 (hdh' k)
    cases hS : solvB vs ((keepS (solvB vs) soft base t).1 ++ [soft[i]'hil])
    · have hk := keepS_no (S := solvB vs) (soft := soft) (base := base) hil hi hS
      have hno : ∀ k, k < totN vs → hitN vs base k = true → hiS vs soft k t = sumP (keepS (solvB vs) soft base t).2 → satB vs soft i k = false := fun k h1 h2 h3 => by
        cases hc : satB vs soft i k
        · rfl
        · have h4 := (g.eq k h1 h2).2 h3
          have h5 : solvB vs ((keepS (solvB vs) soft base t).1 ++ [soft[i]'hil]) = true := pB_true ⟨k, h1, by rw [hit_snoc, h4, ← hs, hc]; rfl⟩
          rw [hS] at h5; simp at h5
      have hlt : ∀ k, k < totN vs → hitN vs base k = true → hiS vs soft k t ≠ sumP (keepS (solvB vs) soft base t).2 → hiS vs soft k (t + 1) < sumP (keepS (solvB vs) soft base t).2 := fun k h1 h2 h3 => by
        have := mult_gap (hdh' k) hdv (g.le k h1 h2) h3
        rw [hh]
        split <;> omega
      have heq : ∀ k, k < totN vs → hitN vs base k = true → hiS vs soft k t = sumP (keepS (solvB vs) soft base t).2 → hiS vs soft k (t + 1) = sumP (keepS (solvB vs) soft base t).2 := fun k h1 h2 h3 => by
        rw [hh, hno k h1 h2 h3, h3]; rfl
      refine ⟨?_, ?_, ?_, ?_, ?_⟩
      · intro k h1 h2
        rw [hk]
        by_cases h3 : hiS vs soft k t = sumP (keepS (solvB vs) soft base t).2
        · exact Nat.le_of_eq (heq k h1 h2 h3)
        · exact Nat.le_of_lt (hlt k h1 h2 h3)
      · intro k h1 h2
        rw [hk, g.eq k h1 h2]
        by_cases h3 : hiS vs soft k t = sumP (keepS (solvB vs) soft base t).2
        · exact ⟨fun _ => heq k h1 h2 h3, fun _ => h3⟩
        · exact ⟨fun h => absurd h h3, fun h => absurd h (Nat.ne_of_lt (hlt k h1 h2 h3))⟩
      · rw [hk, e3]
        exact Nat.dvd_trans hd1 hdv
      · intro k
        rw [e3]
        exact hdh1 k
      · rw [hk]
        exact g.ex
    · have hk := keepS_yes (S := solvB vs) (soft := soft) (base := base) hil hi hS
      have hV : sumP (keepS (solvB vs) soft base (t + 1)).2 = sumP (keepS (solvB vs) soft base t).2 + 2 ^ i := by rw [hk, sumP_append, sumP_one]
      refine ⟨?_, ?_, ?_, ?_, ?_⟩
      · intro k h1 h2
        have := g.le k h1 h2
        rw [hV, hh]
        split <;> omega
      · intro k h1 h2
        have hle := g.le k h1 h2
        have hq := g.eq k h1 h2
        rw [hV, hh, hk]
        simp only []
        rw [hit_snoc, Bool.and_eq_true, hq, ← hs]
        cases hc : satB vs soft i k
        · constructor
          · rintro ⟨_, h⟩; simp at h
          · intro h; simp at h; omega
        · constructor
          · rintro ⟨h, _⟩; simp [h]
          · intro h; simp at h; exact ⟨h, rfl⟩
      · rw [hV, e3]
        exact Nat.dvd_add (Nat.dvd_trans hd1 hdv) (Nat.dvd_refl _)
      · intro k
        rw [e3]
        exact hdh1 k
      · obtain ⟨k, h1, h2⟩ := pB_iff.1 hS
        rw [hk]
        refine ⟨k, h1, ?_, h2⟩
        rw [hit_snoc, Bool.and_eq_true] at h2
        exact hit_base h2.1
/-- the sets that agrees lists -/
noncomputable def agB (p : ProbD) (k : Nat) : Bool := allS p.vars p.hard (nthN p.vars k) && posA p (nthN p.vars k)
noncomputable def setsTo (p : ProbD) (m : Nat) : List Nat := ((List.range m).filter (agB p)).map fun k => ascS p.vars p.soft k p.soft.length
theorem agB_hit {p : ProbD} (hp : ProbOk p) (k : Nat) : agB p k = hitN p.vars (p.hard ++ suppsE p) k := by
  unfold agB hitN
  rw [← supp_hit hp k]
  unfold allS
  rw [List.all_append]
theorem max_fold (V : Nat) : ∀ (l : List Nat) (b : Nat), b ≤ V → (∀ x, x ∈ l → x ≤ V) → (b = V ∨ V ∈ l) → l.foldl max b = V := by
  intro l
  induction l with
  | nil => intro b _ _ h; rcases h with h | h; exact h; simp at h
  | cons c l ih =>
    intro b hb hl h
    have hc := hl c (by simp)
    rw [List.foldl_cons]
    refine ih _ (Nat.max_le.2 ⟨hb, hc⟩) (fun x hx => hl x (by simp [hx])) ?_
    rcases h with h | h
    · left; omega
    · rcases List.mem_cons.1 h with h | h
      · left; omega
      · exact Or.inr h
theorem keepS_desc {S : List Ex → Bool} {soft base : List Ex} : ∀ t, t ≤ soft.length → (keepS S soft base t).2.Pairwise (· > ·) ∧ ∀ n, n ∈ (keepS S soft base t).2 → soft.length - t ≤ n := by
  intro t
  induction t with
  | zero => intro _; exact ⟨List.Pairwise.nil, fun n h => by simp [keepS] at h⟩
  | succ t ih =>
    intro ht
    obtain ⟨h1, h2⟩ := ih (by omega)
    rw [keepS]
    split
    · split
      · refine ⟨List.pairwise_append.2 ⟨h1, List.pairwise_singleton _ _, fun a ha b hb => ?_⟩, fun n hn => ?_⟩
        · obtain rfl := List.mem_singleton.1 hb
          have := h2 a ha
          show _ < a
          omega
        · rcases List.mem_append.1 hn with hn | hn
          · have := h2 n hn; omega
          · obtain rfl := List.mem_singleton.1 hn
            omega
      · exact ⟨h1, fun n hn => by have := h2 n hn; omega⟩
    · exact ⟨h1, fun n hn => by have := h2 n hn; omega⟩
theorem great_plain {p : ProbD} (hp : ProbOk p) : (setsTo p (totN p.vars) = [] → keptErr p = 11 ∧ keptI p = []) ∧
    (setsTo p (totN p.vars) ≠ [] → keptErr p = 0 ∧ ∃ L : List Nat, keptI p = intsN L ∧ L.Pairwise (· < ·) ∧ (∀ n, n ∈ L → n < p.soft.length) ∧ (setsTo p (totN p.vars)).foldl max 0 = sumP L) := by
  have hmem : ∀ x, x ∈ setsTo p (totN p.vars) ↔ ∃ k, k < totN p.vars ∧ hitN p.vars (p.hard ++ suppsE p) k = true ∧ ascS p.vars p.soft k p.soft.length = x := fun x => by
    unfold setsTo
    rw [List.mem_map]
    constructor
    · rintro ⟨k, hk, rfl⟩
      obtain ⟨h1, h2⟩ := List.mem_filter.1 hk
      exact ⟨k, List.mem_range.1 h1, by rw [← agB_hit hp]; exact h2, rfl⟩
    · rintro ⟨k, h1, h2, rfl⟩
      exact ⟨k, List.mem_filter.2 ⟨List.mem_range.2 h1, by rw [agB_hit hp]; exact h2⟩, rfl⟩
  cases hB : solvB p.vars (p.hard ++ suppsE p)
  · have he : setsTo p (totN p.vars) = [] := by
      rw [List.eq_nil_iff_forall_not_mem]
      intro x hx
      obtain ⟨k, h1, h2, _⟩ := (hmem x).1 hx
      have : solvB p.vars (p.hard ++ suppsE p) = true := pB_true ⟨k, h1, h2⟩
      rw [hB] at this; simp at this
    refine ⟨fun _ => ⟨?_, ?_⟩, fun h => absurd he h⟩
    · unfold keptErr; rw [if_pos (pB_true hp), if_neg (by rw [hB]; simp)]
    · unfold keptI; rw [if_neg (fun h => by rw [hB] at h; simp at h)]
  · have g := greedy (soft := p.soft) hB p.soft.length (Nat.le_refl _)
    obtain ⟨k0, h1, h2, h3⟩ := g.ex
    have hasc : ∀ k, ascS p.vars p.soft k p.soft.length = hiS p.vars p.soft k p.soft.length := fun k => by
      have := asc_hi p.vars p.soft k p.soft.length (Nat.le_refl _)
      rw [Nat.sub_self] at this
      rw [this]
      show 0 + _ = _
      omega
    have hV : sumP (keptN p) = sumP (keepS (solvB p.vars) p.soft (p.hard ++ suppsE p) p.soft.length).2 := sumP_reverse _
    have hin : sumP (keptN p) ∈ setsTo p (totN p.vars) := (hmem _).2 ⟨k0, h1, h2, by rw [hasc, hV]; exact (g.eq k0 h1 h2).1 h3⟩
    refine ⟨fun h => by rw [h] at hin; simp at hin, fun _ => ⟨?_, keptN p, ?_, ?_, ?_, ?_⟩⟩
    · unfold keptErr; rw [if_pos (pB_true hp), if_pos hB]
    · unfold keptI; rw [if_pos ⟨pB_true hp, hB⟩]
    · unfold keptN
      exact List.pairwise_reverse.2 (keepS_desc p.soft.length (Nat.le_refl _)).1
    · intro n hn
      exact keepS_lt _ n (List.mem_reverse.1 hn)
    · refine max_fold _ _ _ (Nat.zero_le _) (fun x hx => ?_) (Or.inr hin)
      obtain ⟨k, h1, h2, rfl⟩ := (hmem x).1 hx
      rw [hasc, hV]
      exact g.le k h1 h2
end Go.Proofs.YtgdphjgedhadoaaGreatDoor
