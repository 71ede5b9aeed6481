/- All hits, in order; comparing assignments: plain. -/
import Derived.Test.YtgdphjgedhadoaaGreatDoorKO
import Derived.Test.YtgdphjgedhadoaaGreatDoorKN
import Derived.Test.YtgdphjgedhadoaaGreatDoorKR
set_option linter.unusedSimpArgs false
set_option linter.unusedVariables false
set_option linter.unnecessarySimpa false
namespace Go.Proofs.YtgdphjgedhadoaaGreatDoor
open Go.RowKit

/-- the first hits: d assignments are left, acc is what was found -/
def allN (H : Nat → Bool) (T S m : Nat) : Nat → List Nat → Option (List Nat)
  | 0, acc => some acc
  | d + 1, acc => if m ≤ acc.length then some acc else if S ≤ T - (d + 1) then none else allN H T S m d (if H (T - (d + 1)) = true then acc ++ [T - (d + 1)] else acc)
theorem allN_end {H : Nat → Bool} {T S m k : Nat} {acc : List Nat} (h : T ≤ k) : allN H T S m (T - k) acc = some acc := by
  rw [show T - k = 0 from by omega]; rfl
theorem allN_full {H : Nat → Bool} {T S m d : Nat} {acc : List Nat} (h : m ≤ acc.length) : allN H T S m d acc = some acc := by
  cases d with
  | zero => rfl
  | succ d => unfold allN; rw [if_pos h]
theorem allN_none {H : Nat → Bool} {T S m k : Nat} {acc : List Nat} (hk : k < T) (h : acc.length < m) (hs : S ≤ k) : allN H T S m (T - k) acc = none := by
  rw [show T - k = (T - (k + 1)) + 1 from by omega]
  unfold allN
  rw [if_neg (by omega), if_pos (by omega)]
theorem allN_step {H : Nat → Bool} {T S m k : Nat} {acc : List Nat} (hk : k < T) (h : acc.length < m) (hs : k < S) : allN H T S m (T - k) acc = allN H T S m (T - (k + 1)) (if H k = true then acc ++ [k] else acc) := by
  rw [show T - k = (T - (k + 1)) + 1 from by omega]
  show (if m ≤ acc.length then some acc else if S ≤ T - (T - (k + 1) + 1) then none else _) = _
  have e : T - (T - (k + 1) + 1) = k := by omega
  rw [if_neg (by omega), e, if_neg (by omega)]
theorem allN_hit {H : Nat → Bool} {T S m : Nat} {acc : List Nat} (h : acc.length < m) : ∀ (s k : Nat), k + s = S → k ≤ T → ∀ j, (scanN H T s k).1 = some j →
    (scanN H T s k).2.1 = j + 1 ∧ (scanN H T s k).2.1 + (scanN H T s k).2.2 = S ∧ j < T ∧ k ≤ j ∧ H j = true ∧ allN H T S m (T - k) acc = allN H T S m (T - (j + 1)) (acc ++ [j]) := by
  intro s
  induction s with
  | zero => intro k _ _ j hj; rw [scanN_zero] at hj; simp at hj
  | succ s ih =>
    intro k hks hkT j hj
    by_cases hT : T ≤ k
    · rw [(scanN_over hT).1] at hj; simp at hj
    · cases hh : H k
      · rw [scanN_miss (by omega) hh] at hj ⊢
        obtain ⟨h1, h2, h3, h4, h5, h6⟩ := ih (k + 1) (by omega) (by omega) j hj
        refine ⟨h1, h2, h3, by omega, h5, ?_⟩
        rw [allN_step (by omega) h (by omega), if_neg (by rw [hh]; simp), h6]
      · rw [scanN_hit (by omega) hh] at hj ⊢
        obtain rfl := Option.some.inj hj
        refine ⟨rfl, by simp; omega, by omega, Nat.le_refl _, hh, ?_⟩
        rw [allN_step (by omega) h (by omega), if_pos hh]
theorem allN_miss {H : Nat → Bool} {T S m : Nat} {acc : List Nat} (h : acc.length < m) : ∀ (s k : Nat), k + s = S → k ≤ T → (scanN H T s k).1 = none →
    allN H T S m (T - k) acc = if T ≤ (scanN H T s k).2.1 then some acc else none := by
  intro s
  induction s with
  | zero =>
    intro k hks hkT _
    rw [scanN_zero]
    by_cases hT : T ≤ k
    · rw [if_pos hT, allN_end hT]
    · rw [if_neg hT, allN_none (by omega) h (by omega)]
  | succ s ih =>
    intro k hks hkT hn
    by_cases hT : T ≤ k
    · rw [(scanN_over hT).2, if_pos hT, allN_end hT]
    · cases hh : H k
      · rw [scanN_miss (by omega) hh] at hn ⊢
        rw [allN_step (by omega) h (by omega), if_neg (by rw [hh]; simp)]
        exact ih (k + 1) (by omega) (by omega) hn
      · rw [scanN_hit (by omega) hh] at hn; simp at hn
/-- all that is found lies within the assignments -/
theorem allN_lt {H : Nat → Bool} {T S m : Nat} : ∀ (d : Nat) (acc out : List Nat), d ≤ T → (∀ j, j ∈ acc → j < T) → allN H T S m d acc = some out → ∀ j, j ∈ out → j < T := by
  intro d
  induction d with
  | zero => intro acc out _ h he; obtain rfl := Option.some.inj he; exact h
  | succ d ih =>
    intro acc out hd h he
    unfold allN at he
    split at he
    · obtain rfl := Option.some.inj he; exact h
    · split at he
      · simp at he
      · refine ih _ out (by omega) ?_ he
        intro j hj
        split at hj
        · rcases List.mem_append.1 hj with hj | hj
          · exact h j hj
          · simp at hj; omega
        · exact h j hj
theorem allN_len {H : Nat → Bool} {T S m : Nat} : ∀ (d : Nat) (acc out : List Nat), allN H T S m d acc = some out → out.length ≤ acc.length + d := by
  intro d
  induction d with
  | zero => intro acc out he; obtain rfl := Option.some.inj he; omega
  | succ d ih =>
    intro acc out he
    unfold allN at he
    split at he
    · obtain rfl := Option.some.inj he; omega
    · split at he
      · simp at he
      · have := ih _ out he
        split at this
        · simp at this; omega
        · omega
/-- with room and steps enough: every hit, in order -/
theorem allN_all {H : Nat → Bool} {T S m : Nat} (hS : T ≤ S) : ∀ (d k : Nat) (acc : List Nat), d + k = T → acc.length + d < m → allN H T S m d acc = some (acc ++ (List.range' k d).filter H) := by
  intro d
  induction d with
  | zero => intro k acc _ _; simp [allN]
  | succ d ih =>
    intro k acc hk hm
    have e : T - (d + 1) = k := by omega
    unfold allN
    rw [if_neg (by omega), e, if_neg (by omega)]
    cases hh : H k
    · rw [if_neg (by simp), ih (k + 1) acc (by omega) (by omega), List.range'_succ, List.filter_cons, if_neg (by rw [hh]; simp)]
    · rw [if_pos rfl, ih (k + 1) (acc ++ [k]) (by omega) (by simp; omega), List.range'_succ, List.filter_cons, if_pos hh]
      simp

/-! ### comparing -/
/-- does a list come before another one? -/
def lessL : List Int → List Int → Bool
  | x :: a, y :: b => if x = y then lessL a b else decide (x < y)
  | _, _ => false
theorem lessL_self : ∀ a, lessL a a = false := by
  intro a
  induction a with
  | nil => rfl
  | cons x a ih => unfold lessL; rw [if_pos rfl, ih]
theorem digN_lt {v : VarD} {i j : Nat} (hi : i < valN v) (hj : j < valN v) : (digN v i = digN v j ↔ i = j ∨ v.mode = 0) ∧ (digN v i < digN v j → i < j) ∧ (v.mode ≠ 0 → i < j → digN v i < digN v j) ∧ (v.mode = 0 → i = j) := by
  have hd : v.mode = 0 → i = j := fun h => by
    have hv1 : valN v = 1 := by unfold valN; rw [if_pos h]
    omega
  unfold digN
  by_cases h0 : v.mode = 0
  · simp only [if_pos h0]
    exact ⟨⟨fun _ => Or.inr h0, fun _ => trivial⟩, fun h => by omega, fun h => absurd h0 h, hd⟩
  · simp only [if_neg h0, Nat.mod_eq_of_lt hi, Nat.mod_eq_of_lt hj]
    exact ⟨⟨fun h => Or.inl (by omega), fun h => by rcases h with h | h; omega; exact absurd h h0⟩, fun h => by omega, fun _ h => by omega, hd⟩
/-- assignments come in the order of their numbers -/
theorem lessL_nth (l : List VarD) : ∀ i j, i < totN l → j < totN l → lessL (nthN l i) (nthN l j) = decide (i < j) := by
  induction l with
  | nil => intro i j hi hj; simp [totN] at hi hj; subst hi hj; rfl
  | cons v l ih =>
    intro i j hi hj
    have hT := totN_pos l
    rw [totN_cons] at hi hj
    have hi' : i / totN l < valN v := Nat.div_lt_of_lt_mul (by rw [Nat.mul_comm]; exact hi)
    have hj' : j / totN l < valN v := Nat.div_lt_of_lt_mul (by rw [Nat.mul_comm]; exact hj)
    obtain ⟨d1, d2, d3, d4⟩ := digN_lt hi' hj'
    have e1 := Nat.div_add_mod i (totN l)
    have e2 := Nat.div_add_mod j (totN l)
    have m1 := Nat.mod_lt i hT
    have m2 := Nat.mod_lt j hT
    unfold nthN lessL
    by_cases hq : i / totN l = j / totN l
    · rw [if_pos (d1.2 (Or.inl hq))]
      have hn1 : nthN l i = nthN l (i % totN l) := by
        conv => lhs; rw [← e1, Nat.mul_comm]
        exact nth_high l _ _
      have hn2 : nthN l j = nthN l (j % totN l) := by
        conv => lhs; rw [← e2, Nat.mul_comm]
        exact nth_high l _ _
      rw [hn1, hn2, ih _ _ m1 m2]
      rw [hq] at e1
      generalize totN l * (j / totN l) = z at e1 e2
      simp only [decide_eq_decide]
      omega
    · have hm0 : v.mode ≠ 0 := fun h => hq (d4 h)
      rw [if_neg (fun h => by rcases d1.1 h with h | h; exact hq h; exact hm0 h)]
      have hlt : ∀ x y : Nat, x / totN l < y / totN l → x < y := fun x y h => by
        have := Nat.div_le_div_right (c := totN l) (a := y) (b := x)
        omega
      rcases Nat.lt_or_gt_of_ne hq with h | h
      · rw [decide_eq_true (d3 hm0 h), decide_eq_true (hlt _ _ h)]
      · have h1 : ¬ digN v (i / totN l) < digN v (j / totN l) := fun h' => by have := d2 h'; omega
        have h2 : ¬ i < j := by have := hlt _ _ h; omega
        rw [decide_eq_false h1, decide_eq_false h2]
end Go.Proofs.YtgdphjgedhadoaaGreatDoor

/- The reference of search: Number, Next. -/
namespace Go.Proofs.YtgdphjgedhadoaaGreatDoor
open Go.RowKit

theorem num_bad {v : VarD} {x : Int} (hv : varOkB v = true) (h : ¬ AsgAt v x) :
    (v.mode = 0 ∧ (x != v.value) = true) ∨ ((v.mode == 0) = false ∧ decide (x < 0) = true) ∨ ((v.mode == 0) = false ∧ decide (x < 0) = false ∧ decide (((valN v : Nat) : Int) ≤ x) = true) := by
  obtain ⟨h1, h2, h3, h4, h5, h6⟩ := nums_of_ok hv
  simp only [decide_eq_true_eq, decide_eq_false_iff_not, bne_iff_ne, ne_eq, beq_eq_false_iff_ne]
  by_cases hm : v.mode = 0
  · by_cases hx : x = v.value
    · exact absurd ⟨fun _ => hx, by omega, by omega⟩ h
    · exact Or.inl ⟨hm, hx⟩
  · have hvw : ((valN v : Nat) : Int) = 2 ^ v.width.toNat := by unfold valN; rw [if_neg hm]; simp
    rw [hvw]
    by_cases h0 : x < 0
    · exact Or.inr (Or.inl ⟨hm, h0⟩)
    · refine Or.inr (Or.inr ⟨hm, h0, ?_⟩)
      by_cases hx : (2 : Int) ^ v.width.toNat ≤ x
      · exact hx
      · exact absurd ⟨fun h' => absurd h' hm, by omega, by omega⟩ h
theorem num_good {v : VarD} {x : Int} (h : AsgAt v x) :
    (v.mode = 0 ∧ x = v.value ∧ valN v = 1) ∨ ((v.mode == 0) = false ∧ decide (x < 0) = false ∧ decide (((valN v : Nat) : Int) ≤ x) = false ∧ 0 ≤ x) := by
  obtain ⟨h1, h2, h3⟩ := h
  simp only [decide_eq_false_iff_not, beq_eq_false_iff_ne, ne_eq]
  by_cases hm : v.mode = 0
  · exact Or.inl ⟨hm, h1 hm, by unfold valN; rw [if_pos hm]⟩
  · have hvw : ((valN v : Nat) : Int) = 2 ^ v.width.toNat := by unfold valN; rw [if_neg hm]; simp
    rw [hvw]
    exact Or.inr ⟨hm, by omega, by omega, h2⟩
def NumRet (vs : List VarD) (A : List Int) (e : Ending) : Prop :=
  (Asg vs A ∧ e = .returned (.tuple #[.int .i64 ((numN vs A : Nat) : Int), .bool true])) ∨ (¬ Asg vs A ∧ e = .returned (.tuple #[.int .i64 0, .bool false]))
set_option maxRecDepth 100000 in
set_option maxHeartbeats 8000000 in
theorem Number_any (p : ProbD) (x : ProbA) (A : List Int) (aa : Option Addr) (ca : Nat) (w : World) (hE : ProbIn w p x) (hV : VarsOk p.vars) (hI : IntsIn w A aa ca) :
    Calls Tryz.prog 52 #[probVal p x, .slice aa A.length ca] w fun e w' => NumRet p.vars A e ∧ Below w.heap.size w w' := by
  have HE := Lib.hid hE.vars
  have HAV := Lib.hid hE.vars.addr
  have HI := Lib.hid hI
  have HAI := Lib.hid hI.addr
  have hlen := hE.vars.2.1
  have hlenA := hI.2.1
  have HV := Lib.hid hV
  rw [probVal_eq]
  obtain ⟨vs, hard, soft, ds, gs⟩ := p
  obtain ⟨av, cv, ah, ch, ao, co, ad, cd, ag, cg⟩ := x
  simp only at HE HAV hlen HV ⊢
  clear hE hI hV
  have HB0 : Hid (Below (w.heap.size + 1) (w.alloc (.cells #[.slice av vs.length cv, .slice ah hard.length ch, .slice ao soft.length co, .slice ad ds.length cd, .slice ag gs.length cg] 27)) (w.alloc (.cells #[.slice av vs.length cv, .slice ah hard.length ch, .slice ao soft.length co, .slice ad ds.length cd, .slice ag gs.length cg] 27))) := Below.refl _ _
  have HBw0 : Hid (Below w.heap.size w (w.alloc (.cells #[.slice av vs.length cv, .slice ah hard.length ch, .slice ao soft.length co, .slice ad ds.length cd, .slice ag gs.length cg] 27))) := (Below.refl _ _).alloc (Nat.le_refl _) _
  by_cases hl : A.length = vs.length
  · have Hl := Lib.hid hl
    have hlb : ((A.length : Int) != (vs.length : Int)) = false := by simp; omega
    clear hl
    go_enter Tryz.func52, Tryz.ntmps52
    go_wp2_with fail
    go_loopw [6, 7, 8] (fun kk i _ wr => ∃ k : Nat, i = .int .i64 k ∧ k ≤ vs.length ∧ kk = .int .i64 ((hornN vs A k : Nat) : Int) ∧ (∀ j (hj : j < vs.length), j < k → AsgAt (vs[j]'hj) (A.getD j 0)) ∧ Below (w.heap.size + 1) (w.alloc (.cells #[.slice av vs.length cv, .slice ah hard.length ch, .slice ao soft.length co, .slice ad ds.length cd, .slice ag gs.length cg] 27)) wr) (fun _ i _ _ => vs.length - (intOf i).toNat)
    case atStart => exact ⟨0, rfl, Nat.zero_le _, rfl, fun _ _ h => absurd h (by omega), HB0.out⟩
    case round =>
      obtain ⟨k, rfl, hk, rfl, hall, hB⟩ := hrel
      have b0 := box_cell hB 0
      (try simp at b0)
      have HAl := Lib.hid hall
      have HB := Lib.hid hB
      have HBw : Hid (Below w.heap.size w wr) := boxW _ hB
      have hzr := hB.size
      simp only [World.size_alloc] at hzr
      clear hall
      by_cases hlt : k < vs.length
      · have hkA : k < A.length := by have := Hl.out; omega
        have hltA : ((k : Int) < (A.length : Int)) := by omega
        have hok := HV.out.ok k hlt
        have HCW := Lib.hid (fun W (hW : Below (w.heap.size + 1) (w.alloc (.cells #[.slice av vs.length cv, .slice ah hard.length ch, .slice ao soft.length co, .slice ad ds.length cd, .slice ag gs.length cg] 27)) W) => (values_any (vs[k]'hlt) W hok).mono fun e w' h => (⟨h.1, bcell h.2, h.2.size, hW.trans (h.2.mono (by have := hW.size; simpa using this))⟩ : _ ∧ _ ∧ _ ∧ Below (w.heap.size + 1) (w.alloc (.cells #[.slice av vs.length cv, .slice ah hard.length ch, .slice ao soft.length co, .slice ad ds.length cd, .slice ag gs.length cg] 27)) w'))
        obtain ⟨b, off, ha⟩ := HAV.out.resolve_left (by omega)
        subst ha
        obtain ⟨bi, oi, hai⟩ := HAI.out.resolve_left (by omega)
        subst hai
        obtain ⟨c0, c1, c2, c3, _⟩ := HE.out.get rfl hlt
        have i0 := intsIn_get HI.out rfl hkA
        have hbl : b < wr.heap.size := Nat.lt_of_lt_of_le (World.block_lt_of_cell? _ _ c2) HBw.out.size
        have hzl0 : w.heap.size < wr.heap.size := by omega
        have kk := keeps_of_below HBw.out
        have c0 := kk _ _ c0
        have c1 := kk _ _ c1
        have c2 := kk _ _ c2
        have c3 := kk _ _ c3
        have i0 := kk _ _ i0
        have HG : Hid (A.getD k 0 = A[k]'hkA) := by show _ = _; rw [List.getD_eq_getElem?_getD, List.getElem?_eq_getElem hkA]; rfl
        have HNx : Hid (AsgAt (vs[k]'hlt) (A[k]'hkA) → ∀ j (hj : j < vs.length), j < k + 1 → AsgAt (vs[j]'hj) (A.getD j 0)) := fun hv j hj hjk => by
          by_cases e : j = k
          · subst e; rw [HG.out]; exact hv
          · exact HAl.out j hj (by omega)
        have HNo : Hid (¬ AsgAt (vs[k]'hlt) (A[k]'hkA) → ¬ Asg vs A) := fun h h' => h (h'.at' k hlt)
        have HS := Lib.hid (hornN_succ hlt hkA)
        have HHt : Hid (AsgAt (vs[k]'hlt) (A[k]'hkA) → hornN vs A (k + 1) ≤ 1048576) := fun hv => by
          have h1 := horn_lt Hl.out (k + 1) (by omega) (HNx.out hv)
          have h2 := totN_take_le vs (k + 1)
          have h3 := HV.out.tot
          omega
        simp only [varVal] at HCW
        generalize A[k]'hkA = z at i0 HG HNx HNo HS HHt
        have Hbad := Lib.hid (@num_bad (vs[k]'hlt) z hok)
        have Hgood := Lib.hid (@num_good (vs[k]'hlt) z)
        have hvp := valN_pos (vs[k]'hlt)
        generalize (vs[k]'hlt) = v at *
        generalize valN v = n at *
        obtain ⟨nm, width, mode, value⟩ := v
        simp only at c0 c1 c2 c3 HCW Hbad Hgood HS
        clear hok kk hB
        by_cases hv : AsgAt ⟨nm, width, mode, value⟩ z
        · have HNx' := Lib.hid (HNx.out hv)
          have hways := Hgood.out hv
          have hht := HHt.out hv
          have HM := HS
          generalize hh1 : hornN vs A (k + 1) = h1 at hht HM HS
          have Hh1 := Lib.hid hh1
          clear hh1
          generalize hornN vs A k = h0 at *
          clear Hgood Hbad HNx HNo HG HHt hv HS
          rcases hways with ⟨rfl, rfl, rfl⟩ | ⟨d1, d2, d3, d4⟩
          · have HM' : Hid (h1 = h0) := by have := HM.out; show _ = _; rw [if_pos rfl] at this; omega
            have hh0 : h0 ≤ 1048576 := by have := HM'.out; omega
            clear HM hht
            go_wp2_with fail
            refine (HCW.out _ HB.out).mono ?_
            rintro e w1 ⟨rfl, ⟨hc1, hf1⟩, hz1, hb1⟩
            have HB1 := Lib.hid hb1
            clear hb1
            go_wp2_with fail
            refine (HCW.out _ HB1.out).mono ?_
            rintro e w2 ⟨rfl, _, _, hb2⟩
            have HB2 := Lib.hid hb2
            clear hb2
            go_wp2_with fail
            go_roundw
            case rel => exact ⟨k + 1, by go_num, by omega, by rw [Hh1.out, HM'.out]; try go_num, HNx'.out, HB2.out⟩
            case measure => simp [intOf]; omega
          · have hm : mode ≠ 0 := by simpa using d1
            have HM' : Hid (((h1 : Nat) : Int) = ((h0 * n : Nat) : Int) + z) := by have := HM.out; show _ = _; rw [if_neg hm] at this; omega
            have hMb : ((h0 * n : Nat) : Int) + z ≤ 1048576 := by rw [← HM'.out]; omega
            have hmul : ((h0 : Nat) : Int) * ((n : Nat) : Int) = ((h0 * n : Nat) : Int) := by simp
            generalize h0 * n = M at hMb hmul HM'
            have hwr : IntKind.i64.wrap (((h0 : Nat) : Int) * ((n : Nat) : Int)) = (M : Int) := by rw [hmul, IntKind.wrap_i64]; omega
            have hM0 : M ≤ 1048576 := by omega
            have hz0 : z ≤ 1048576 := by omega
            clear HM hht hm hmul hMb
            go_wp2_with fail
            refine (HCW.out _ HB.out).mono ?_
            rintro e w1 ⟨rfl, ⟨hc1, hf1⟩, hz1, hb1⟩
            have HB1 := Lib.hid hb1
            clear hb1
            go_wp2_with fail
            refine (HCW.out _ HB1.out).mono ?_
            rintro e w2 ⟨rfl, _, _, hb2⟩
            have HB2 := Lib.hid hb2
            clear hb2
            go_wp2_with fail
            go_roundw
            case rel => exact ⟨k + 1, by go_num, by omega, by rw [Hh1.out, HM'.out], HNx'.out, HB2.out⟩
            case measure => simp [intOf]; omega
        · have HNo' := Lib.hid (HNo.out hv)
          have hways := Hbad.out hv
          clear Hgood Hbad HNx HNo HG HHt hv HS
          rcases hways with ⟨rfl, d2⟩ | ⟨d1, d2⟩ | ⟨d1, d2, d3⟩
          · go_wp2_with fail
            go_ret2
            exact ⟨Or.inr ⟨HNo'.out, rfl⟩, HBw.out⟩
          · go_wp2_with fail
            go_ret2
            exact ⟨Or.inr ⟨HNo'.out, rfl⟩, HBw.out⟩
          · go_wp2_with fail
            refine (HCW.out _ HB.out).mono ?_
            rintro e w1 ⟨rfl, _, _, hb1⟩
            have HB1 := Lib.hid (boxW _ hb1)
            clear hb1
            go_wp2_with fail
            go_ret2
            exact ⟨Or.inr ⟨HNo'.out, rfl⟩, HB1.out⟩
      · obtain rfl : k = vs.length := by omega
        have hltA : ¬ vs.length < A.length := by have := Hl.out; omega
        have HY : Hid (Asg vs A) := ⟨Hl.out, fun i hi => by
          have := HAl.out i hi hi
          rwa [List.getD_eq_getElem?_getD, List.getElem?_eq_getElem (show i < A.length by have := Hl.out; omega)] at this⟩
        have HH := Lib.hid (horn_all vs A Hl.out)
        clear hB
        go_wp2_with fail
        go_ret2
        exact ⟨Or.inl ⟨HY.out, by rw [HH.out]; rfl⟩, HBw.out⟩
  · have hlb : ((A.length : Int) != (vs.length : Int)) = true := by simp; omega
    have HN : Hid (¬ Asg vs A) := fun h => hl h.len
    clear hl
    go_enter Tryz.func52, Tryz.ntmps52
    go_wp2_with fail
    go_ret2
    exact ⟨Or.inr ⟨HN.out, rfl⟩, HBw0.out⟩

set_option maxRecDepth 100000 in
set_option maxHeartbeats 4000000 in
theorem r18Next_any (p : ProbD) (x : ProbA) (l : List Ex) (al : Option Addr) (cl : Nat) (A : List Int) (aa : Option Addr) (ca : Nat) (steps : Int) (w : World) (hE : ProbIn w p x) (hs : ProbSmall p) (hL : ExsIn w l al cl) (hsl : ExsSmall l) (hI : IntsIn w A aa ca) :
    Calls Tryz.prog 19 #[probVal p x, .slice al l.length cl, .slice aa A.length ca, .int .i64 steps] w fun e w' => FirstRet p l steps (Asg p.vars A) (numN p.vars A + 1) 12 e w' ∧ Below w.heap.size w w' := by
  have HC0 := Lib.hid (fun W (hW : Below w.heap.size w W) => r18common_any p x l al cl steps W (hE.keep (keeps_of_below hW)) hs (hL.keep (keeps_of_below hW)) hsl)
  have HN0 := Lib.hid (fun (hV : VarsOk p.vars) W (hW : Below w.heap.size w W) => Number_any p x A aa ca W (hE.keep (keeps_of_below hW)) hV (hI.keep (keeps_of_below hW)))
  have HF0 := Lib.hid (fun (hV : VarsOk p.vars) (k st : Nat) (hk : k ≤ 1048576) (hst : st ≤ 262144) W (hW : Below w.heap.size w W) => r18from_any p x l al cl (k + 1) st W (hE.keep (keeps_of_below hW)) hV (hL.keep (keeps_of_below hW)) hsl (by omega) hst)
  clear hE hs hL hsl hI
  by_cases hc : ComOk p l steps
  · obtain ⟨st, rfl⟩ := Int.eq_ofNat_of_zero_le hc.lo
    have hst : st ≤ 262144 := by have := hc.hi; omega
    have HFc := Lib.hid (fun k hk W hW => HF0.out hc.prob.vars k st hk hst W hW)
    have HNc := Lib.hid (HN0.out hc.prob.vars)
    have HNL : Hid (Asg p.vars A → numN p.vars A ≤ 1048576) := fun hA => by have := (nth_num hA).2; have := hc.prob.vars.tot; omega
    have HOk := Lib.hid hc
    rw [errOf_yes hc] at HC0
    clear hc HF0 HN0
    simp only [probVal_eq] at HC0 HFc HNc ⊢
    obtain ⟨vs, hard, soft, ds, gs⟩ := p
    obtain ⟨av, cv, ah, ch, ao, co, ad, cd, ag, cg⟩ := x
    simp only at HC0 HFc HNc HOk HNL ⊢
    have HC := Lib.hid (HC0.out (w.alloc (.cells #[.slice av vs.length cv, .slice ah hard.length ch, .slice ao soft.length co, .slice ad ds.length cd, .slice ag gs.length cg] 27)) ((Below.refl _ _).alloc (Nat.le_refl _) _))
    clear HC0
    go_enter Tryz.func19, Tryz.ntmps19
    go_wp2_with fail
    refine HC.out.mono ?_
    rintro e w1 ⟨rfl, hb1⟩
    simp only [World.size_alloc] at hb1
    have b0 := box_cell hb1 0
    have b1 := box_cell hb1 1
    have b2 := box_cell hb1 2
    have b3 := box_cell hb1 3
    have b4 := box_cell hb1 4
    (try simp at b0 b1 b2 b3 b4)
    have HB := Lib.hid (boxW _ hb1)
    have HB1 := Lib.hid hb1
    have HN := Lib.hid (HNc.out w1 HB.out)
    have hz1 := hb1.size
    simp only [World.size_alloc] at hz1
    clear hb1
    go_wp2_with fail
    refine HN.out.mono ?_
    rintro e w2 ⟨hR, hb2⟩
    have HB2 := Lib.hid (HB1.out.trans (hb2.mono hz1))
    clear hb2 b0 b1 b2 b3 b4
    rcases hR with ⟨hA, rfl⟩ | ⟨hA, rfl⟩
    · have b0 := box_cell HB2.out 0
      have b1 := box_cell HB2.out 1
      have b2 := box_cell HB2.out 2
      have b3 := box_cell HB2.out 3
      have b4 := box_cell HB2.out 4
      (try simp at b0 b1 b2 b3 b4)
      have hnl := HNL.out hA
      have HA := Lib.hid hA
      have HF := Lib.hid (HFc.out (numN vs A) hnl w2 (boxW _ HB2.out))
      generalize hK : numN vs A = K at hnl HF
      have HK := Lib.hid hK
      clear hK
      simp only [Int.natCast_add, Int.natCast_one] at HF
      clear hA
      go_wp2_with fail
      refine HF.out.mono ?_
      rintro e w3 ⟨hS, hb3⟩
      have HB3 : Hid (Below w.heap.size w w3) := (boxW _ HB2.out).trans (hb3.mono (boxW _ HB2.out).size)
      clear hb3
      rcases hS with ⟨k, a, cap, h1, rfl, hI⟩ | ⟨h1, h2, rfl⟩ | ⟨h1, h2, rfl⟩
      · have HS := Lib.hid (⟨h1, hI⟩ : _ ∧ _)
        clear h1 hI b0 b1 b2 b3 b4
        go_wp2_with fail
        go_ret2
        obtain rfl := HK.out
        exact ⟨Or.inl ⟨⟨HOk.out, HA.out⟩, Or.inl ⟨k, a, cap, HS.out.1, rfl, HS.out.2⟩⟩, HB3.out⟩
      · have HS := Lib.hid (⟨h1, h2⟩ : _ ∧ _)
        clear h1 h2 b0 b1 b2 b3 b4
        go_wp2_with fail
        go_ret2
        obtain rfl := HK.out
        exact ⟨Or.inl ⟨⟨HOk.out, HA.out⟩, Or.inr (Or.inl ⟨HS.out.1, HS.out.2, rfl⟩)⟩, HB3.out⟩
      · have HS := Lib.hid (⟨h1, h2⟩ : _ ∧ _)
        clear h1 h2 b0 b1 b2 b3 b4
        go_wp2_with fail
        go_ret2
        obtain rfl := HK.out
        exact ⟨Or.inl ⟨⟨HOk.out, HA.out⟩, Or.inr (Or.inr ⟨HS.out.1, HS.out.2, rfl⟩)⟩, HB3.out⟩
    · have HA := Lib.hid hA
      clear hA
      go_wp2_with fail
      go_ret2
      exact ⟨Or.inr ⟨fun h => HA.out h.2, rfl⟩, boxW _ HB2.out⟩
  · have HNo := Lib.hid hc
    rw [errOf_no hc] at HC0
    clear hc HF0 HN0
    simp only [probVal_eq] at HC0 ⊢
    obtain ⟨vs, hard, soft, ds, gs⟩ := p
    obtain ⟨av, cv, ah, ch, ao, co, ad, cd, ag, cg⟩ := x
    simp only at HC0 HNo ⊢
    have HC := Lib.hid (HC0.out (w.alloc (.cells #[.slice av vs.length cv, .slice ah hard.length ch, .slice ao soft.length co, .slice ad ds.length cd, .slice ag gs.length cg] 27)) ((Below.refl _ _).alloc (Nat.le_refl _) _))
    clear HC0
    go_enter Tryz.func19, Tryz.ntmps19
    go_wp2_with fail
    refine HC.out.mono ?_
    rintro e w1 ⟨rfl, hb1⟩
    simp only [World.size_alloc] at hb1
    have HB := Lib.hid (boxW _ hb1)
    clear hb1
    go_wp2_with fail
    go_ret2
    exact ⟨Or.inr ⟨fun h => HNo.out h.1, rfl⟩, HB.out⟩
end Go.Proofs.YtgdphjgedhadoaaGreatDoor

/- The reference's Assigns, Holds; ref18 Satisfied; law18 hits, less. -/
namespace Go.Proofs.YtgdphjgedhadoaaGreatDoor
open Go.RowKit
attribute [local go_sem ↓] Go.wp_at_zero Go.wp_at_succ

set_option maxRecDepth 100000 in
set_option maxHeartbeats 8000000 in
theorem rAssigns_any (p : ProbD) (x : ProbA) (A : List Int) (aa : Option Addr) (ca : Nat) (w : World) (hE : ProbIn w p x) (hs : ProbSmall p) (hI : IntsIn w A aa ca) :
    Calls Tryz.prog 26 #[probVal p x, .slice aa A.length ca] w fun e w' => e = .returned (.bool (pB (ProbOk p ∧ Asg p.vars A))) ∧ Below w.heap.size w w' := by
  have HV0 := Lib.hid (fun W (hW : Below w.heap.size w W) => r14Valid_any p x W (hE.keep (keeps_of_below hW)) hs)
  have HE := Lib.hid hE.vars
  have HAV := Lib.hid hE.vars.addr
  have HI := Lib.hid hI
  have HAI := Lib.hid hI.addr
  have hlen := hE.vars.2.1
  have hlenA := hI.2.1
  have hPB : Below w.heap.size w (w.alloc (.cells (probVals p x) 27)) := (Below.refl _ _).alloc (Nat.le_refl _) _
  have HV1 := Lib.hid (HV0.out _ hPB)
  clear HV0 hPB hE hs hI
  rw [probVal_eq]
  simp only [probVal_eq, probVals] at HV1
  by_cases hp : ProbOk p
  · have HV := Lib.hid hp.vars
    have HVc := Lib.hid (errT HV1.out hp)
    have HPR : Hid (pB (ProbOk p ∧ Asg p.vars A) = pB (Asg p.vars A)) := pB_congr ⟨fun h => h.2, fun h => ⟨hp, h⟩⟩
    clear hp HV1
    obtain ⟨vs, hard, soft, ds, gs⟩ := p
    obtain ⟨av, cv, ah, ch, ao, co, ad, cd, ag, cg⟩ := x
    simp only at HE HAV hlen HV HVc HPR ⊢
    by_cases hl : A.length = vs.length
    · have Hl := Lib.hid hl
      have hlb : ((A.length : Int) != (vs.length : Int)) = false := by simp; omega
      clear hl
      go_enter Tryz.func26, Tryz.ntmps26
      go_wp2_with fail
      refine HVc.out.mono ?_
      rintro e w1 ⟨rfl, hb1⟩
      simp only [World.size_alloc] at hb1
      have b0 := box_cell hb1 0
      (try simp at b0)
      have Hb1 := Lib.hid hb1
      clear hb1
      go_wp2_with fail
      clear b0
      go_loopw [5, 6] (fun i _ wr => ∃ k : Nat, i = .int .i64 k ∧ k ≤ vs.length ∧ (∀ j (hj : j < vs.length), j < k → AsgAt (vs[j]'hj) (A.getD j 0)) ∧ Below (w.heap.size + 1) (w.alloc (.cells #[.slice av vs.length cv, .slice ah hard.length ch, .slice ao soft.length co, .slice ad ds.length cd, .slice ag gs.length cg] 27)) wr) (fun i _ _ => vs.length - (intOf i).toNat)
      case atStart => exact ⟨0, rfl, Nat.zero_le _, fun _ _ h => absurd h (by omega), Hb1.out⟩
      case round =>
        obtain ⟨k, rfl, hk, hall, hB⟩ := hrel
        have b0 := box_cell hB 0
        (try simp at b0)
        have HAl := Lib.hid hall
        have HB := Lib.hid hB
        have HBw : Hid (Below w.heap.size w wr) := boxW _ hB
        have hzr := hB.size
        simp only [World.size_alloc] at hzr
        clear hall
        by_cases hlt : k < vs.length
        · have hltA : ((k : Int) < (A.length : Int)) := by have := Hl.out; omega
          obtain ⟨b, off, ha⟩ := HAV.out.resolve_left (by omega)
          subst ha
          obtain ⟨bi, oi, hai⟩ := HAI.out.resolve_left (by have := Hl.out; omega)
          subst hai
          have hkA : k < A.length := by have := Hl.out; omega
          obtain ⟨c0, c1, c2, c3, _⟩ := HE.out.get rfl hlt
          have i0 := intsIn_get HI.out rfl hkA
          have hil := World.block_lt_of_cell? _ _ i0
          simp only at hil
          have kk := keeps_of_below HBw.out
          have c0 := kk _ _ c0
          have c1 := kk _ _ c1
          have c2 := kk _ _ c2
          have c3 := kk _ _ c3
          have i0 := kk _ _ i0
          have i0A : ∀ o, (wr.alloc o).cell? ⟨bi, oi + k, none⟩ = _ := fun o => (World.cell?_alloc_lt _ _ _ (by have := HBw.out.size; simp only; omega)).trans i0
          have hin : bi ≠ wr.heap.size := by have := HBw.out.size; omega
          have hw := width_of_ok (HV.out.ok k hlt)
          have HG : Hid (A.getD k 0 = A[k]'hkA) := by show _ = _; rw [List.getD_eq_getElem?_getD, List.getElem?_eq_getElem hkA]; rfl
          have HNx : Hid (AsgAt (vs[k]'hlt) (A[k]'hkA) → ∀ j (hj : j < vs.length), j < k + 1 → AsgAt (vs[j]'hj) (A.getD j 0)) := fun hv j hj hjk => by
            by_cases e : j = k
            · subst e; rw [HG.out]; exact hv
            · exact HAl.out j hj (by omega)
          have HNo : Hid (¬ AsgAt (vs[k]'hlt) (A[k]'hkA) → pB (Asg vs A) = false) := fun h => pB_false (fun h' => h (h'.at' k hlt))
          generalize A[k]'hkA = z at i0 i0A HG HNx HNo
          generalize (vs[k]'hlt) = v at c0 c1 c2 c3 hw HNx HNo
          obtain ⟨pw, hpw, hwp, p1, p2⟩ := pow_pack v.width hw.2
          have hbad := @asg_bad2 v z pw hpw
          have hgood := @asg_good v z pw hpw
          obtain ⟨nm, width, mode, value⟩ := v
          simp only at c0 c1 c2 c3 hw hbad hgood hwp
          obtain ⟨hw1, hw8⟩ := hw
          have h0w : 0 ≤ width := by omega
          clear hpw hB kk
          by_cases hv : AsgAt ⟨nm, width, mode, value⟩ z
          · have HNx' := Lib.hid (HNx.out hv)
            have hways := hgood hv
            clear hgood hbad HNx HNo hv HG
            rcases hways with ⟨d1, d2, rfl, rfl⟩ | ⟨d1, d2, d3⟩
            · go_wp2_with fail
              go_quiet (fail)
              go_wp2_with fail
              go_roundw
              case rel => exact ⟨k + 1, by go_num, by omega, HNx'.out, below_drewN (HB.out.alloc (by omega) _) _⟩
              case measure => simp [intOf]; omega
            · go_wp2_with fail
              go_quiet (fail)
              go_wp2_with fail
              go_roundw
              case rel => exact ⟨k + 1, by go_num, by omega, HNx'.out, below_drewN (HB.out.alloc (by omega) _) _⟩
              case measure => simp [intOf]; omega
          · have HNo' := Lib.hid (HNo.out hv)
            have hways := hbad hv
            clear hgood hbad HNx HNo hv HG
            rcases hways with ⟨rfl, d2⟩ | ⟨d1, d2⟩ | ⟨rfl, rfl, d3⟩ | ⟨d1, d2, d3⟩ | ⟨rfl, rfl, d3, d4⟩
            all_goals
              have hzw := HBw.out.size
              go_wp2_with fail
              go_quiet (fail)
              go_wp2_with fail
              go_ret
              exact ⟨by rw [HPR.out, HNo'.out]; rfl, below_drewN (HBw.out.alloc (by omega) _) _⟩
        · obtain rfl : k = vs.length := by omega
          have hkA : ¬ vs.length < A.length := by have := Hl.out; omega
          have HY : Hid (pB (Asg vs A) = true) := pB_true ⟨Hl.out, fun i hi => by
            have := HAl.out i hi hi
            rwa [List.getD_eq_getElem?_getD, List.getElem?_eq_getElem (show i < A.length by have := Hl.out; omega)] at this⟩
          clear hB
          go_wp2_with fail
          go_ret
          exact ⟨by rw [HPR.out, HY.out]; rfl, HBw.out⟩
    · have hlb : ((A.length : Int) != (vs.length : Int)) = true := by simp; omega
      have HN : Hid (pB (Asg vs A) = false) := pB_false (fun h => hl h.len)
      clear hl
      go_enter Tryz.func26, Tryz.ntmps26
      go_wp2_with fail
      refine HVc.out.mono ?_
      rintro e w1 ⟨rfl, hb1⟩
      simp only [World.size_alloc] at hb1
      have b0 := box_cell hb1 0
      (try simp at b0)
      have Hb1 := Lib.hid (boxW _ hb1)
      clear hb1
      go_wp2_with fail
      go_ret
      exact ⟨by rw [HPR.out, HN.out]; rfl, Hb1.out⟩
  · have HR : Hid (pB (ProbOk p ∧ Asg p.vars A) = false) := pB_false (fun h => hp h.1)
    have HVc := Lib.hid (errF HV1.out hp)
    clear HV1 hp
    obtain ⟨vs, hard, soft, ds, gs⟩ := p
    obtain ⟨av, cv, ah, ch, ao, co, ad, cd, ag, cg⟩ := x
    simp only at HVc HR ⊢
    go_enter Tryz.func26, Tryz.ntmps26
    go_wp2_with fail
    refine HVc.out.mono ?_
    rintro e w1 ⟨⟨en, rfl, hen⟩, hb1⟩
    simp only [World.size_alloc] at hb1
    have Hb1 := Lib.hid (boxW _ hb1)
    clear hb1
    go_wp2_with fail
    go_ret
    exact ⟨by rw [HR.out]; rfl, Hb1.out⟩

set_option maxRecDepth 100000 in
set_option maxHeartbeats 8000000 in
theorem rHolds_any (p : ProbD) (x : ProbA) (A : List Int) (aa : Option Addr) (ca : Nat) (op n : Int) (s : ByteArray) (args : List Ex) (a : Option Addr) (cap : Nat) (w : World) (hE : ProbIn w p x) (hs : ProbSmall p) (hI : IntsIn w A aa ca) (hX : ExIn w (.mk op n s args) a cap) (hn : (Ex.mk op n s args).nodes.length ≤ 1000000000) :
    Calls Tryz.prog 55 #[probVal p x, .slice aa A.length ca, .agg #[.int .i64 op, .int .i64 n, .string s, .slice a args.length cap]] w fun e w' => e = .returned (.bool (pB (ProbOk p ∧ Asg p.vars A) && holdsV p.vars A (.mk op n s args))) ∧ Below w.heap.size w w' := by
  have HA0 := Lib.hid (fun W (hW : Below w.heap.size w W) => rAssigns_any p x A aa ca W (hE.keep (keeps_of_below hW)) hs (hI.keep (keeps_of_below hW)))
  have HE0 := Lib.hid (fun W (hW : Below w.heap.size w W) => r14Env_any p x A aa ca W (hE.keep (keeps_of_below hW)) (hI.keep (keeps_of_below hW)))
  have HX0 := Lib.hid (fun env ae ce W (hW : Below w.heap.size w W) (hS : SigsIn W env ae ce) => rEval_any env ae ce op n s args a cap W hS (hX.keep (keeps_of_below hW)) hn)
  have hvl := hE.vars.2.1
  clear hE hs hI hX hn
  have hB2 : Below w.heap.size w ((w.alloc (.cells (probVals p x) 27)).alloc (.cells #[.int .i64 op, .int .i64 n, .string s, .slice a args.length cap] 57)) := ((Below.refl _ _).alloc (Nat.le_refl _) _).alloc (by simp) _
  have HA1 := Lib.hid (HA0.out _ hB2)
  clear HA0
  by_cases hA : ProbOk p ∧ Asg p.vars A
  · have HR : Hid (pB (ProbOk p ∧ Asg p.vars A) = true) := pB_true hA
    have HA := Lib.hid hA.2
    rw [HR.out] at HA1
    clear hA
    simp only [probVal_eq, probVals] at HA1 HE0 ⊢
    obtain ⟨vs, hard, soft, ds, gs⟩ := p
    obtain ⟨av, cv, ah, ch, ao, co, ad, cd, ag, cg⟩ := x
    simp only at HA1 HE0 HR HA hvl hB2 ⊢
    clear hB2
    go_enter Tryz.func55, Tryz.ntmps55
    go_wp2_with fail
    refine HA1.out.mono ?_
    rintro e w2 ⟨rfl, hb1⟩
    simp only [World.size_alloc] at hb1
    have Hb2 := Lib.hid hb1
    clear hb1
    have b0 := two_cell Hb2.out 0
    have b1 := two_cell Hb2.out 1
    have b2 := two_cell Hb2.out 2
    have b3 := two_cell Hb2.out 3
    have b4 := two_cell Hb2.out 4
    have d0 := two_cell' Hb2.out 0
    have d1 := two_cell' Hb2.out 1
    have d2 := two_cell' Hb2.out 2
    have d3 := two_cell' Hb2.out 3
    (try simp at b0 b1 b2 b3 b4 d0 d1 d2 d3)
    have HBw := Lib.hid (below_two Hb2.out)
    have HEn := Lib.hid (fun W (hW : Below w2.heap.size w2 W) => (HE0.out W (HBw.out.trans (hW.mono HBw.out.size))).mono (R' := fun e w' => ∃ ae ce, e = .returned (.slice ae (envS vs A).length ce) ∧ SigsIn w' (envS vs A) ae ce ∧ Below w2.heap.size w2 w') (fun e w' ⟨v, h1, h2, h3⟩ => by
      obtain ⟨ae, ce, hv, hS⟩ := sigs_of_own h2 (by rw [envS_len HA.out.len]; exact hvl)
      subst hv
      exact ⟨ae, ce, h1, hS, hW.trans (h3.mono hW.size)⟩))
    have HEv := Lib.hid (fun ae ce W (hW : Below w2.heap.size w2 W) (hS : Hid (SigsIn W (envS vs A) ae ce)) => (HX0.out (envS vs A) ae ce W (HBw.out.trans (hW.mono HBw.out.size)) hS.out).mono fun e w' h => (⟨h.1, hW.trans (h.2.mono hW.size)⟩ : _ ∧ Below w2.heap.size w2 w'))
    have HZ : Hid (holdsV vs A (.mk op n s args) = (((evalS (envS vs A) (Ex.mk op n s args)).2 == 0) && ((evalS (envS vs A) (Ex.mk op n s args)).1 != 0))) := rfl
    generalize (evalS (envS vs A) (Ex.mk op n s args)).1 = z at HEv HZ
    generalize (evalS (envS vs A) (Ex.mk op n s args)).2 = z2 at HEv HZ
    generalize envS vs A = EE at HEn HEv
    have hsz : w.heap.size + 1 < w2.heap.size := by have := Hb2.out.size; simp at this; omega
    go_wp2_with fail
    go_region_held3 (fun w' => Below w2.heap.size w2 w' ∧ w'.cell? ⟨w.heap.size, 0, none⟩ = some (.slice av vs.length cv) ∧ w'.cell? ⟨w.heap.size, 1, none⟩ = some (.slice ah hard.length ch) ∧ w'.cell? ⟨w.heap.size, 2, none⟩ = some (.slice ao soft.length co) ∧ w'.cell? ⟨w.heap.size, 3, none⟩ = some (.slice ad ds.length cd) ∧ w'.cell? ⟨w.heap.size, 4, none⟩ = some (.slice ag gs.length cg) ∧ w'.cell? ⟨w.heap.size + 1, 0, none⟩ = some (.int .i64 op) ∧ w'.cell? ⟨w.heap.size + 1, 1, none⟩ = some (.int .i64 n) ∧ w'.cell? ⟨w.heap.size + 1, 2, none⟩ = some (.string s) ∧ w'.cell? ⟨w.heap.size + 1, 3, none⟩ = some (.slice a args.length cap))
      (refine ⟨?_, ?_, ?_, ?_, ?_, ?_, ?_, ?_, ?_, ?_⟩ <;> first | assumption | exact keeps_of_below (by assumption) _ _ (by assumption) | go_keep | exact (by repeat (first | assumption | exact Below.refl _ _ | refine Below.drew ?_ | refine below_drewN ?_ _ | refine Below.alloc ?_ (by first | omega | (simp only [World.size_alloc, World.size_setCell, World.size_drew, World.heap_drewN] <;> omega) | (simp <;> omega)) _ | refine Below.setCell ?_ (by first | omega | (simp only [World.size_alloc, World.size_setCell, World.size_drew, World.heap_drewN] <;> omega) | (simp <;> omega)) _)))
      (first | (go_at_call 94; (with_reducible refine (HEn.out _ (by first | assumption | exact And.left (by assumption))).mono ?_); rintro e w3 ⟨ae, ce, rfl, hS, hb3⟩; have HS := Lib.hid hS; clear hS) | (go_at_call 93; (with_reducible refine (HEv.out _ _ _ (by first | assumption | exact And.left (by assumption)) (by assumption)).mono ?_); rintro e w4 ⟨rfl, hb4⟩))
    have HB4 : Hid (Below w.heap.size w w4) := HBw.out.trans ((by assumption : Below w2.heap.size w2 w4).mono HBw.out.size)
    cases hz2 : (z2 == 0)
    · have HQ : Hid (holdsV vs A (.mk op n s args) = false) := by show _ = _; rw [HZ.out, hz2]; rfl
      go_wp2_with fail
      go_ret
      exact ⟨by rw [HR.out, HQ.out]; rfl, HB4.out⟩
    · have HQ : Hid (holdsV vs A (.mk op n s args) = (z != 0)) := by show _ = _; rw [HZ.out, hz2]; rfl
      go_wp2_with fail
      go_ret
      exact ⟨by rw [HR.out, HQ.out]; rfl, HB4.out⟩
  · have HR : Hid (pB (ProbOk p ∧ Asg p.vars A) = false) := pB_false hA
    rw [HR.out] at HA1
    clear hA HE0 HX0 hB2
    simp only [probVal_eq, probVals] at HA1 ⊢
    obtain ⟨vs, hard, soft, ds, gs⟩ := p
    obtain ⟨av, cv, ah, ch, ao, co, ad, cd, ag, cg⟩ := x
    simp only at HA1 HR hvl ⊢
    go_enter Tryz.func55, Tryz.ntmps55
    go_wp2_with fail
    refine HA1.out.mono ?_
    rintro e w1 ⟨rfl, hb1⟩
    simp only [World.size_alloc] at hb1
    have Hb1 := Lib.hid (below_two hb1)
    clear hb1
    go_wp2_with fail
    go_ret
    exact ⟨by rw [HR.out]; rfl, Hb1.out⟩
end Go.Proofs.YtgdphjgedhadoaaGreatDoor

/- ref18 Satisfied; law18 hits, less. -/
namespace Go.Proofs.YtgdphjgedhadoaaGreatDoor
open Go.RowKit
attribute [local go_sem ↓] Go.wp_at_zero Go.wp_at_succ

set_option maxRecDepth 100000 in
set_option maxHeartbeats 8000000 in
theorem r18Satisfied_any (p : ProbD) (x : ProbA) (l : List Ex) (al : Option Addr) (cl : Nat) (A : List Int) (aa : Option Addr) (ca : Nat) (w : World) (hE : ProbIn w p x) (hs : ProbSmall p) (hL : ExsIn w l al cl) (hsl : ExsSmall l) (hI : IntsIn w A aa ca) :
    Calls Tryz.prog 21 #[probVal p x, .slice al l.length cl, .slice aa A.length ca] w fun e w' => e = .returned (.int .i64 (satN p l A)) ∧ Below w.heap.size w w' := by
  have hlen := hL.2.1
  have HV0 := Lib.hid (fun W (hW : Below w.heap.size w W) => r14Valid_any p x W (hE.keep (keeps_of_below hW)) hs)
  have HA0 := Lib.hid (fun (hV : VarsOk p.vars) W (hW : Below w.heap.size w W) => Number_any p x A aa ca W (hE.keep (keeps_of_below hW)) hV (hI.keep (keeps_of_below hW)))
  have HH0 := Lib.hid (fun op n s args a cap W (hW : Below w.heap.size w W) (hX : ExIn W (.mk op n s args) a cap) (hn : (Ex.mk op n s args).nodes.length ≤ 1000000000) => rHolds_any p x A aa ca op n s args a cap W (hE.keep (keeps_of_below hW)) hs (hI.keep (keeps_of_below hW)) hX hn)
  have HL := Lib.hid hL
  have HAd := Lib.hid hL.addr
  have HSl := Lib.hid hsl
  clear hE hs hL hsl hI
  have hPB : Below w.heap.size w (w.alloc (.cells (probVals p x) 27)) := (Below.refl _ _).alloc (Nat.le_refl _) _
  have HV1 := Lib.hid (HV0.out _ hPB)
  clear HV0
  by_cases hp : ProbOk p
  · have HV := Lib.hid (errT HV1.out hp)
    have HAc := Lib.hid (HA0.out hp.vars)
    have HP := Lib.hid hp
    clear HV1 HA0 hp
    simp only [probVal_eq, probVals] at HV HAc HH0 ⊢
    obtain ⟨vs, hard, soft, ds, gs⟩ := p
    obtain ⟨av, cv, ah, ch, ao, co, ad, cd, ag, cg⟩ := x
    simp only at HV HAc HH0 HP hPB ⊢
    clear hPB
    go_enter Tryz.func21, Tryz.ntmps21
    go_wp2_with fail
    refine HV.out.mono ?_
    rintro e w1 ⟨rfl, hb1⟩
    simp only [World.size_alloc] at hb1
    have b0 := box_cell hb1 0
    have b1 := box_cell hb1 1
    have b2 := box_cell hb1 2
    have b3 := box_cell hb1 3
    have b4 := box_cell hb1 4
    (try simp at b0 b1 b2 b3 b4)
    have Hb1 := Lib.hid hb1
    have HC := Lib.hid (HAc.out w1 (boxW _ hb1))
    clear hb1
    go_wp2_with fail
    refine HC.out.mono ?_
    rintro e w2 ⟨hR, hb2⟩
    have Hb2 := Lib.hid (Hb1.out.trans (hb2.mono (by have := Hb1.out.size; simpa using this)))
    clear b0 b1 b2 b3 b4 hb2
    rcases hR with ⟨hA, rfl⟩ | ⟨hA, rfl⟩
    · have hR : pB (ProbOk ⟨vs, hard, soft, ds, gs⟩ ∧ Asg vs A) = true := pB_true ⟨HP.out, hA⟩
      have HR : Hid (satN ⟨vs, hard, soft, ds, gs⟩ l A = (cntS vs A l l.length : Nat)) := by show _ = _; unfold satN; rw [if_pos hR]
      rw [hR] at HH0
      simp only [Bool.true_and] at HH0
      clear hA hR
      go_wp2_with fail
      go_loopw [9, 10] (fun c i wr => ∃ k : Nat, i = .int .i64 k ∧ c = .int .i64 (cntS vs A l k : Nat) ∧ k ≤ l.length ∧ Below (w.heap.size + 1) (w.alloc (.cells #[.slice av vs.length cv, .slice ah hard.length ch, .slice ao soft.length co, .slice ad ds.length cd, .slice ag gs.length cg] 27)) wr) (fun _ i _ => l.length - (intOf i).toNat)
      case atStart => exact ⟨0, rfl, by simp [cntS], Nat.zero_le _, Hb2.out⟩
      case round =>
        obtain ⟨k, rfl, rfl, hk, hB⟩ := hrel
        have HB := Lib.hid hB
        have HBw := Lib.hid (boxW _ hB)
        have hzr := hB.size
        simp only [World.size_alloc] at hzr
        clear hB
        have hzl : w.heap.size < wr.heap.size := by omega
        have b0 := box_cell HB.out 0
        have b1 := box_cell HB.out 1
        have b2 := box_cell HB.out 2
        have b3 := box_cell HB.out 3
        have b4 := box_cell HB.out 4
        (try simp at b0 b1 b2 b3 b4)
        by_cases hlt : k < l.length
        · obtain ⟨b, off, ha⟩ := HAd.out.resolve_left (by omega)
          subst ha
          obtain ⟨a', cap', g0, g1, g2, g3, hX⟩ := HL.out.get rfl hlt
          have hn := HSl.out _ (List.getElem_mem hlt)
          have hcs := cntS_succ vs A l hlt
          have hcl := cntS_le vs A l k
          generalize (l[k]'hlt) = e at g0 g1 g2 g3 hX hn hcs
          obtain ⟨op, n, s, args⟩ := e
          simp only [Ex.op_mk, Ex.n_mk, Ex.name_mk, Ex.args_mk] at g0 g1 g2 g3
          have kk := keeps_of_below HBw.out
          have c0 := kk _ _ g0
          have c1 := kk _ _ g1
          have c2 := kk _ _ g2
          have c3 := kk _ _ g3
          have HC := Lib.hid (fun W (hW : Below wr.heap.size wr W) => (HH0.out op n s args a' cap' W (HBw.out.trans (hW.mono HBw.out.size)) ((hX.keep kk).keep (keeps_of_below hW)) hn).mono fun e w' h => (⟨h.1, hW.trans (h.2.mono hW.size)⟩ : _ ∧ Below wr.heap.size wr w'))
          have HCS := Lib.hid hcs
          clear g0 g1 g2 g3 hX hn kk hcs
          generalize cntS vs A l k = c at *
          cases hh : holdsV vs A (Ex.mk op n s args)
          · rw [hh] at HC HCS
            have HC1 : Hid (cntS vs A l (k + 1) = c) := by show _ = _; rw [HCS.out]; simp
            clear hh
            go_wp2_with fail
            go_region_held3 (fun w' => Below wr.heap.size wr w' ∧ w'.cell? ⟨w.heap.size, 0, none⟩ = some (.slice av vs.length cv) ∧ w'.cell? ⟨w.heap.size, 1, none⟩ = some (.slice ah hard.length ch) ∧ w'.cell? ⟨w.heap.size, 2, none⟩ = some (.slice ao soft.length co) ∧ w'.cell? ⟨w.heap.size, 3, none⟩ = some (.slice ad ds.length cd) ∧ w'.cell? ⟨w.heap.size, 4, none⟩ = some (.slice ag gs.length cg) ∧ w'.cell? ⟨b, off + k * 4, none⟩ = some (.int .i64 op) ∧ w'.cell? ⟨b, off + k * 4 + 1, none⟩ = some (.int .i64 n) ∧ w'.cell? ⟨b, off + k * 4 + 2, none⟩ = some (.string s) ∧ w'.cell? ⟨b, off + k * 4 + 3, none⟩ = some (.slice a' args.length cap'))
              (refine ⟨?_, ?_, ?_, ?_, ?_, ?_, ?_, ?_, ?_, ?_⟩ <;> first | assumption | exact keeps_of_below (by assumption) _ _ (by assumption) | go_keep | exact (by repeat (first | assumption | exact Below.refl _ _ | refine Below.drew ?_ | refine below_drewN ?_ _ | refine Below.alloc ?_ (by first | omega | (simp only [World.size_alloc, World.size_setCell, World.size_drew, World.heap_drewN] <;> omega) | (simp <;> omega)) _ | refine Below.setCell ?_ (by first | omega | (simp only [World.size_alloc, World.size_setCell, World.size_drew, World.heap_drewN] <;> omega) | (simp <;> omega)) _)))
              ((go_at_call 55; (with_reducible refine (HC.out _ (by first | assumption | exact And.left (by assumption))).mono ?_); rintro e w4 ⟨rfl, hb4⟩))
            have HB4 : Hid (Below wr.heap.size wr w4) := (by assumption : Below wr.heap.size wr w4)
            go_wp2_with fail
            go_roundw
            case rel => exact ⟨k + 1, by go_num, by rw [HC1.out], by omega, HB.out.trans (HB4.out.mono (by simpa using hzr))⟩
            case measure => simp [intOf]; omega
          · rw [hh] at HC HCS
            have HC1 : Hid (cntS vs A l (k + 1) = c + 1) := by show _ = _; rw [HCS.out]; simp
            clear hh
            go_wp2_with fail
            go_region_held3 (fun w' => Below wr.heap.size wr w' ∧ w'.cell? ⟨w.heap.size, 0, none⟩ = some (.slice av vs.length cv) ∧ w'.cell? ⟨w.heap.size, 1, none⟩ = some (.slice ah hard.length ch) ∧ w'.cell? ⟨w.heap.size, 2, none⟩ = some (.slice ao soft.length co) ∧ w'.cell? ⟨w.heap.size, 3, none⟩ = some (.slice ad ds.length cd) ∧ w'.cell? ⟨w.heap.size, 4, none⟩ = some (.slice ag gs.length cg) ∧ w'.cell? ⟨b, off + k * 4, none⟩ = some (.int .i64 op) ∧ w'.cell? ⟨b, off + k * 4 + 1, none⟩ = some (.int .i64 n) ∧ w'.cell? ⟨b, off + k * 4 + 2, none⟩ = some (.string s) ∧ w'.cell? ⟨b, off + k * 4 + 3, none⟩ = some (.slice a' args.length cap'))
              (refine ⟨?_, ?_, ?_, ?_, ?_, ?_, ?_, ?_, ?_, ?_⟩ <;> first | assumption | exact keeps_of_below (by assumption) _ _ (by assumption) | go_keep | exact (by repeat (first | assumption | exact Below.refl _ _ | refine Below.drew ?_ | refine below_drewN ?_ _ | refine Below.alloc ?_ (by first | omega | (simp only [World.size_alloc, World.size_setCell, World.size_drew, World.heap_drewN] <;> omega) | (simp <;> omega)) _ | refine Below.setCell ?_ (by first | omega | (simp only [World.size_alloc, World.size_setCell, World.size_drew, World.heap_drewN] <;> omega) | (simp <;> omega)) _)))
              ((go_at_call 55; (with_reducible refine (HC.out _ (by first | assumption | exact And.left (by assumption))).mono ?_); rintro e w4 ⟨rfl, hb4⟩))
            have HB4 : Hid (Below wr.heap.size wr w4) := (by assumption : Below wr.heap.size wr w4)
            go_wp2_with fail
            go_roundw
            case rel => exact ⟨k + 1, by go_num, by rw [HC1.out]; go_num, by omega, HB.out.trans (HB4.out.mono (by simpa using hzr))⟩
            case measure => simp [intOf]; omega
        · obtain rfl : k = l.length := by omega
          go_wp2_with fail
          go_ret
          exact ⟨by rw [HR.out]; rfl, HBw.out⟩
    · have hR : pB (ProbOk ⟨vs, hard, soft, ds, gs⟩ ∧ Asg vs A) = false := pB_false (fun h => hA h.2)
      have HR : Hid (satN ⟨vs, hard, soft, ds, gs⟩ l A = -1) := by show _ = _; unfold satN; rw [if_neg (by rw [hR]; simp)]
      clear hA hR HH0
      go_wp2_with fail
      go_ret
      exact ⟨by rw [HR.out]; rfl, boxW _ Hb2.out⟩
  · have hR : pB (ProbOk p ∧ Asg p.vars A) = false := pB_false (fun h => hp h.1)
    have HR : Hid (satN p l A = -1) := by show _ = _; unfold satN; rw [if_neg (by rw [hR]; simp)]
    have HV := Lib.hid (errF HV1.out hp)
    clear HV1 HA0 HH0 hp hR hPB
    simp only [probVal_eq, probVals] at HV ⊢
    obtain ⟨vs, hard, soft, ds, gs⟩ := p
    obtain ⟨av, cv, ah, ch, ao, co, ad, cd, ag, cg⟩ := x
    simp only at HV HR ⊢
    go_enter Tryz.func21, Tryz.ntmps21
    go_wp2_with fail
    refine HV.out.mono ?_
    rintro e w1 ⟨⟨en, rfl, hen⟩, hb1⟩
    simp only [World.size_alloc] at hb1
    have Hb1 := Lib.hid (boxW _ hb1)
    clear hb1
    go_wp2_with fail
    go_ret
    exact ⟨by rw [HR.out]; rfl, Hb1.out⟩

/-! ### hits -/
noncomputable def hitsB (p : ProbD) (l : List Ex) (A : List Int) : Bool := l.all fun e => pB (ProbOk p ∧ Asg p.vars A) && holdsV p.vars A e
set_option maxRecDepth 100000 in
set_option maxHeartbeats 8000000 in
theorem hits_any (p : ProbD) (x : ProbA) (l : List Ex) (al : Option Addr) (cl : Nat) (A : List Int) (aa : Option Addr) (ca : Nat) (w : World) (hE : ProbIn w p x) (hs : ProbSmall p) (hL : ExsIn w l al cl) (hsl : ExsSmall l) (hI : IntsIn w A aa ca) :
    Calls Tryz.prog 25 #[probVal p x, .slice al l.length cl, .slice aa A.length ca] w fun e w' => e = .returned (.bool (hitsB p l A)) ∧ Below w.heap.size w w' := by
  have hlen := hL.2.1
  have HH0 := Lib.hid (fun op n s args a cap W (hW : Below w.heap.size w W) (hX : ExIn W (.mk op n s args) a cap) (hn : (Ex.mk op n s args).nodes.length ≤ 1000000000) => rHolds_any p x A aa ca op n s args a cap W (hE.keep (keeps_of_below hW)) hs (hI.keep (keeps_of_below hW)) hX hn)
  have HL := Lib.hid hL
  have HAd := Lib.hid hL.addr
  have HSl := Lib.hid hsl
  clear hE hs hL hsl hI
  simp only [probVal_eq, probVals] at HH0 ⊢
  have HD : Hid (hitsB p l A = l.all fun e => pB (ProbOk p ∧ Asg p.vars A) && holdsV p.vars A e) := rfl
  generalize pB (ProbOk p ∧ Asg p.vars A) = q at HH0 HD
  obtain ⟨vs, hard, soft, ds, gs⟩ := p
  obtain ⟨av, cv, ah, ch, ao, co, ad, cd, ag, cg⟩ := x
  simp only at HH0 HD ⊢
  have HB0 : Hid (Below (w.heap.size + 1) (w.alloc (.cells #[.slice av vs.length cv, .slice ah hard.length ch, .slice ao soft.length co, .slice ad ds.length cd, .slice ag gs.length cg] 27)) (w.alloc (.cells #[.slice av vs.length cv, .slice ah hard.length ch, .slice ao soft.length co, .slice ad ds.length cd, .slice ag gs.length cg] 27))) := Below.refl _ _
  go_enter Tryz.func25, Tryz.ntmps25
  go_wp2_with fail
  go_loopw [7] (fun i wr => ∃ k : Nat, i = .int .i64 k ∧ k ≤ l.length ∧ (∀ j (hj : j < l.length), j < k → (q && holdsV vs A (l[j]'hj)) = true) ∧ Below (w.heap.size + 1) (w.alloc (.cells #[.slice av vs.length cv, .slice ah hard.length ch, .slice ao soft.length co, .slice ad ds.length cd, .slice ag gs.length cg] 27)) wr) (fun i _ => l.length - (intOf i).toNat)
  case atStart => exact ⟨0, rfl, Nat.zero_le _, fun _ _ h => absurd h (by omega), HB0.out⟩
  case round =>
    obtain ⟨k, rfl, hk, hall, hB⟩ := hrel
    have HAl := Lib.hid hall
    have HB := Lib.hid hB
    have HBw := Lib.hid (boxW _ hB)
    have hzr := hB.size
    simp only [World.size_alloc] at hzr
    clear hB hall
    have hzl : w.heap.size < wr.heap.size := by omega
    have b0 := box_cell HB.out 0
    have b1 := box_cell HB.out 1
    have b2 := box_cell HB.out 2
    have b3 := box_cell HB.out 3
    have b4 := box_cell HB.out 4
    (try simp at b0 b1 b2 b3 b4)
    by_cases hlt : k < l.length
    · obtain ⟨b, off, ha⟩ := HAd.out.resolve_left (by omega)
      subst ha
      obtain ⟨a', cap', g0, g1, g2, g3, hX⟩ := HL.out.get rfl hlt
      have hn := HSl.out _ (List.getElem_mem hlt)
      have HNx : Hid ((q && holdsV vs A (l[k]'hlt)) = true → ∀ j (hj : j < l.length), j < k + 1 → (q && holdsV vs A (l[j]'hj)) = true) := fun hv j hj hjk => by
        by_cases e : j = k
        · subst e; exact hv
        · exact HAl.out j hj (by omega)
      have HNo : Hid ((q && holdsV vs A (l[k]'hlt)) = false → hitsB ⟨vs, hard, soft, ds, gs⟩ l A = false) := fun h => by
        rw [HD.out, List.all_eq_false]
        exact ⟨_, List.getElem_mem hlt, by rw [h]; simp⟩
      generalize (l[k]'hlt) = e at g0 g1 g2 g3 hX hn HNx HNo
      obtain ⟨op, n, s, args⟩ := e
      simp only [Ex.op_mk, Ex.n_mk, Ex.name_mk, Ex.args_mk] at g0 g1 g2 g3
      have kk := keeps_of_below HBw.out
      have c0 := kk _ _ g0
      have c1 := kk _ _ g1
      have c2 := kk _ _ g2
      have c3 := kk _ _ g3
      have HC := Lib.hid (fun W (hW : Below wr.heap.size wr W) => (HH0.out op n s args a' cap' W (HBw.out.trans (hW.mono HBw.out.size)) ((hX.keep kk).keep (keeps_of_below hW)) hn).mono fun e w' h => (⟨h.1, hW.trans (h.2.mono hW.size)⟩ : _ ∧ Below wr.heap.size wr w'))
      generalize (q && holdsV vs A (Ex.mk op n s args)) = z at HC HNx HNo
      clear g0 g1 g2 g3 hX hn kk
      cases z
      · have HNo' := Lib.hid (HNo.out rfl)
        clear HNo HNx
        go_wp2_with fail
        go_region_held3 (fun w' => Below wr.heap.size wr w' ∧ w'.cell? ⟨w.heap.size, 0, none⟩ = some (.slice av vs.length cv) ∧ w'.cell? ⟨w.heap.size, 1, none⟩ = some (.slice ah hard.length ch) ∧ w'.cell? ⟨w.heap.size, 2, none⟩ = some (.slice ao soft.length co) ∧ w'.cell? ⟨w.heap.size, 3, none⟩ = some (.slice ad ds.length cd) ∧ w'.cell? ⟨w.heap.size, 4, none⟩ = some (.slice ag gs.length cg) ∧ w'.cell? ⟨b, off + k * 4, none⟩ = some (.int .i64 op) ∧ w'.cell? ⟨b, off + k * 4 + 1, none⟩ = some (.int .i64 n) ∧ w'.cell? ⟨b, off + k * 4 + 2, none⟩ = some (.string s) ∧ w'.cell? ⟨b, off + k * 4 + 3, none⟩ = some (.slice a' args.length cap'))
          (refine ⟨?_, ?_, ?_, ?_, ?_, ?_, ?_, ?_, ?_, ?_⟩ <;> first | assumption | exact keeps_of_below (by assumption) _ _ (by assumption) | go_keep | exact (by repeat (first | assumption | exact Below.refl _ _ | refine Below.drew ?_ | refine below_drewN ?_ _ | refine Below.alloc ?_ (by first | omega | (simp only [World.size_alloc, World.size_setCell, World.size_drew, World.heap_drewN] <;> omega) | (simp <;> omega)) _ | refine Below.setCell ?_ (by first | omega | (simp only [World.size_alloc, World.size_setCell, World.size_drew, World.heap_drewN] <;> omega) | (simp <;> omega)) _)))
          ((go_at_call 55; (with_reducible refine (HC.out _ (by first | assumption | exact And.left (by assumption))).mono ?_); rintro e w4 ⟨rfl, hb4⟩))
        have HB4 : Hid (Below wr.heap.size wr w4) := (by assumption : Below wr.heap.size wr w4)
        go_wp2_with fail
        go_ret
        exact ⟨by rw [HNo'.out]; rfl, HBw.out.trans (HB4.out.mono HBw.out.size)⟩
      · have HNx' := Lib.hid (HNx.out rfl)
        clear HNo HNx
        go_wp2_with fail
        go_region_held3 (fun w' => Below wr.heap.size wr w' ∧ w'.cell? ⟨w.heap.size, 0, none⟩ = some (.slice av vs.length cv) ∧ w'.cell? ⟨w.heap.size, 1, none⟩ = some (.slice ah hard.length ch) ∧ w'.cell? ⟨w.heap.size, 2, none⟩ = some (.slice ao soft.length co) ∧ w'.cell? ⟨w.heap.size, 3, none⟩ = some (.slice ad ds.length cd) ∧ w'.cell? ⟨w.heap.size, 4, none⟩ = some (.slice ag gs.length cg) ∧ w'.cell? ⟨b, off + k * 4, none⟩ = some (.int .i64 op) ∧ w'.cell? ⟨b, off + k * 4 + 1, none⟩ = some (.int .i64 n) ∧ w'.cell? ⟨b, off + k * 4 + 2, none⟩ = some (.string s) ∧ w'.cell? ⟨b, off + k * 4 + 3, none⟩ = some (.slice a' args.length cap'))
          (refine ⟨?_, ?_, ?_, ?_, ?_, ?_, ?_, ?_, ?_, ?_⟩ <;> first | assumption | exact keeps_of_below (by assumption) _ _ (by assumption) | go_keep | exact (by repeat (first | assumption | exact Below.refl _ _ | refine Below.drew ?_ | refine below_drewN ?_ _ | refine Below.alloc ?_ (by first | omega | (simp only [World.size_alloc, World.size_setCell, World.size_drew, World.heap_drewN] <;> omega) | (simp <;> omega)) _ | refine Below.setCell ?_ (by first | omega | (simp only [World.size_alloc, World.size_setCell, World.size_drew, World.heap_drewN] <;> omega) | (simp <;> omega)) _)))
          ((go_at_call 55; (with_reducible refine (HC.out _ (by first | assumption | exact And.left (by assumption))).mono ?_); rintro e w4 ⟨rfl, hb4⟩))
        have HB4 : Hid (Below wr.heap.size wr w4) := (by assumption : Below wr.heap.size wr w4)
        go_wp2_with fail
        go_roundw
        case rel => exact ⟨k + 1, by go_num, by omega, HNx'.out, HB.out.trans (HB4.out.mono (by simpa using hzr))⟩
        case measure => simp [intOf]; omega
    · obtain rfl : k = l.length := by omega
      have HY : Hid (hitsB ⟨vs, hard, soft, ds, gs⟩ l A = true) := by
        show _ = _
        rw [HD.out, List.all_eq_true]
        intro e he
        obtain ⟨j, hj, rfl⟩ := List.getElem_of_mem he
        exact HAl.out j hj hj
      go_wp2_with fail
      go_ret
      exact ⟨by rw [HY.out]; rfl, HBw.out⟩

/-! ### less -/
theorem lessL_drop {A B : List Int} {k : Nat} (h : k < A.length) (hx : k < B.length) : lessL (A.drop k) (B.drop k) = if (A[k]'h) = (B[k]'hx) then lessL (A.drop (k + 1)) (B.drop (k + 1)) else decide ((A[k]'h) < (B[k]'hx)) := by
  rw [List.drop_eq_getElem_cons h, List.drop_eq_getElem_cons hx]
  rfl
theorem lessL_short {A B : List Int} {k : Nat} (h : A.length ≤ k ∨ B.length ≤ k) : lessL (A.drop k) (B.drop k) = false := by
  rcases h with h | h
  · rw [List.drop_of_length_le h]; cases B.drop k <;> rfl
  · rw [List.drop_of_length_le h]; cases A.drop k <;> rfl
set_option maxHeartbeats 4000000 in
theorem less_any (A : List Int) (aa : Option Addr) (ca : Nat) (B : List Int) (ab : Option Addr) (cb : Nat) (w : World) (hA : IntsIn w A aa ca) (hB : IntsIn w B ab cb) :
    Calls Tryz.prog 27 #[.slice aa A.length ca, .slice ab B.length cb] w fun e w' => e = .returned (.bool (lessL A B)) ∧ Below w.heap.size w w' := by
  have HA := Lib.hid hA
  have HAa := Lib.hid hA.addr
  have HB := Lib.hid hB
  have HBa := Lib.hid hB.addr
  have hlA := hA.2.1
  have hlB := hB.2.1
  clear hA hB
  go_enter Tryz.func27, Tryz.ntmps27
  go_wp2_with fail
  go_loopw [5] (fun i wr => ∃ k : Nat, i = .int .i64 k ∧ k ≤ A.length ∧ k ≤ B.length ∧ Hid (lessL A B = lessL (A.drop k) (B.drop k)) ∧ ∃ n, wr = w.drewN n) (fun i _ => A.length - (intOf i).toNat)
  case atStart => exact ⟨0, rfl, Nat.zero_le _, Nat.zero_le _, rfl, 0, rfl⟩
  case round =>
    obtain ⟨k, rfl, hkA, hkB, HS, n, rfl⟩ := hrel
    by_cases h1 : k < A.length
    · by_cases h2 : k < B.length
      · obtain ⟨b, off, ha⟩ := HAa.out.resolve_left (by omega)
        subst ha
        obtain ⟨b', off', hb⟩ := HBa.out.resolve_left (by omega)
        subst hb
        have i0 := intsIn_get HA.out rfl h1
        have j0 := intsIn_get HB.out rfl h2
        have HD := Lib.hid (HS.out.trans (lessL_drop h1 h2))
        generalize A[k]'h1 = u at i0 HD
        generalize B[k]'h2 = v at j0 HD
        by_cases e : u = v
        · subst e
          have HD' := Lib.hid (HD.out.trans (if_pos rfl))
          have hne : (u != u) = false := by simp
          clear HD
          go_wp2_with fail
          go_quiet (fail)
          go_wp2_with fail
          go_roundw
          case rel => exact ⟨k + 1, by go_num, by omega, by omega, HD'.out, _, rfl⟩
          case measure => simp [intOf]; omega
        · have HD' := Lib.hid (HD.out.trans (if_neg e))
          have hne : (u != v) = true := by simpa using e
          clear HD e
          go_wp2_with fail
          go_quiet (fail)
          go_wp2_with fail
          go_quiet (fail)
          go_wp2_with fail
          go_ret
          exact ⟨by rw [HD'.out]; rfl, by simp only [World.drewN_drewN]; exact below_drewN (Below.refl _ _) _⟩
      · have HD := Lib.hid (HS.out.trans (lessL_short (Or.inr (by omega))))
        go_wp2_with fail
        go_ret
        exact ⟨by rw [HD.out]; rfl, below_drewN (Below.refl _ _) _⟩
    · have HD := Lib.hid (HS.out.trans (lessL_short (Or.inl (by omega))))
      go_wp2_with fail
      go_ret
      exact ⟨by rw [HD.out]; rfl, below_drewN (Below.refl _ _) _⟩
end Go.Proofs.YtgdphjgedhadoaaGreatDoor
