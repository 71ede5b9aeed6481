/- Assignments, in order: plain. -/
import Derived.Test.YtgdphjgedhadoaaGreatDoorKL
set_option linter.unusedSimpArgs false
set_option linter.unusedVariables false
set_option linter.unnecessarySimpa false
namespace Go.Proofs.YtgdphjgedhadoaaGreatDoor
open Go.RowKit

def valN (v : VarD) : Nat := if v.mode = 0 then 1 else 2 ^ v.width.toNat
def totN : List VarD → Nat
  | [] => 1
  | v :: l => valN v * totN l
def digN (v : VarD) (k : Nat) : Int := if v.mode = 0 then v.value else ((k % valN v : Nat) : Int)
def nthN : List VarD → Nat → List Int
  | [], _ => []
  | v :: l, k => digN v (k / totN l) :: nthN l k
theorem valN_pos (v : VarD) : 0 < valN v := by
  unfold valN; split
  · omega
  · exact Nat.pow_pos (by omega)
theorem totN_pos (l : List VarD) : 0 < totN l := by
  induction l with
  | nil => exact Nat.one_pos
  | cons v l ih => exact Nat.mul_pos (valN_pos v) ih
theorem totN_append (l l' : List VarD) : totN (l ++ l') = totN l * totN l' := by
  induction l with
  | nil => simp [totN]
  | cons v l ih => simp only [List.cons_append, totN, ih, Nat.mul_assoc]
theorem totN_one (v : VarD) : totN [v] = valN v := by simp [totN]
theorem totN_take_succ (l : List VarD) (k : Nat) (h : k < l.length) : totN (l.take (k + 1)) = totN (l.take k) * valN (l[k]'h) := by
  rw [List.take_succ_eq_append_getElem h, totN_append, totN_one]
theorem totN_take_le (l : List VarD) (k : Nat) : totN (l.take k) ≤ totN l := by
  conv => rhs; rw [← List.take_append_drop k l, totN_append]
  exact Nat.le_mul_of_pos_right _ (totN_pos _)
theorem totN_drop_eq (l : List VarD) (k : Nat) (h : k < l.length) : totN (l.drop k) = valN (l[k]'h) * totN (l.drop (k + 1)) := by
  rw [List.drop_eq_getElem_cons h]; rfl
theorem nthN_len (l : List VarD) (k : Nat) : (nthN l k).length = l.length := by
  induction l with
  | nil => rfl
  | cons v l ih => simp [nthN, ih]
theorem nthN_get (l : List VarD) (k : Nat) : ∀ i (h : i < l.length), (nthN l k)[i]'(by rw [nthN_len]; exact h) = digN (l[i]'h) (k / totN (l.drop (i + 1))) := by
  induction l with
  | nil => intro i h; simp at h
  | cons v l ih =>
    intro i h
    cases i with
    | zero => simp [nthN]
    | succ i =>
      have := ih i (by simpa using h)
      simpa [nthN] using this
/-- one step in the order of assignments; true: it was the last one -/
def advN : List VarD → List Int → List Int × Bool
  | v :: l, x :: a => if (advN l a).2 = true then (if v.mode = 0 then (x :: (advN l a).1, true) else if x + 1 < 2 ^ v.width.toNat then ((x + 1) :: (advN l a).1, false) else (0 :: (advN l a).1, true)) else (x :: (advN l a).1, false)
  | _, _ => ([], true)
theorem succ_div {k T : Nat} (hT : 0 < T) : ((k + 1) % T = 0 → (k + 1) / T = k / T + 1) ∧ ((k + 1) % T ≠ 0 → (k + 1) / T = k / T) := by
  constructor
  · intro h
    rw [Nat.succ_div, if_pos (Nat.dvd_of_mod_eq_zero h)]
  · intro h
    rw [Nat.succ_div, if_neg (fun hd => h (Nat.mod_eq_zero_of_dvd hd))]; rfl
theorem mod_mul_zero {m n T : Nat} (hT : 0 < T) (hn : 0 < n) : m % (n * T) = 0 ↔ m % T = 0 ∧ (m / T) % n = 0 := by
  constructor
  · intro h
    have hd := Nat.dvd_of_mod_eq_zero h
    obtain ⟨c, rfl⟩ := hd
    refine ⟨?_, ?_⟩
    · rw [show n * T * c = T * (n * c) from by rw [Nat.mul_comm n T, Nat.mul_assoc]]; exact Nat.mul_mod_right _ _
    · rw [show n * T * c = T * (n * c) from by rw [Nat.mul_comm n T, Nat.mul_assoc], Nat.mul_div_cancel_left _ hT]; exact Nat.mul_mod_right _ _
  · rintro ⟨h1, h2⟩
    obtain ⟨c, rfl⟩ := Nat.dvd_of_mod_eq_zero h1
    rw [Nat.mul_div_cancel_left _ hT] at h2
    obtain ⟨d, rfl⟩ := Nat.dvd_of_mod_eq_zero h2
    rw [show T * (n * d) = (n * T) * d from by rw [Nat.mul_comm n T, Nat.mul_assoc]]; exact Nat.mul_mod_right _ _
theorem advN_nth (l : List VarD) (k : Nat) : advN l (nthN l k) = (nthN l (k + 1), decide ((k + 1) % totN l = 0)) := by
  induction l with
  | nil => simp [advN, nthN, totN, Nat.mod_one]
  | cons v l ih =>
    have hT := totN_pos l
    have hn := valN_pos v
    obtain ⟨hd1, hd2⟩ := @succ_div k (totN l) hT
    have hm := @mod_mul_zero (k + 1) (valN v) (totN l) hT hn
    unfold nthN advN
    rw [ih]
    simp only
    by_cases hc : (k + 1) % totN l = 0
    · rw [decide_eq_true hc, if_pos rfl, hd1 hc]
      rw [hd1 hc] at hm
      by_cases h0 : v.mode = 0
      · have hv1 : valN v = 1 := by unfold valN; rw [if_pos h0]
        have hz : (k + 1) % totN (v :: l) = 0 := by
          show (k + 1) % (valN v * totN l) = 0
          exact hm.2 ⟨hc, by rw [hv1, Nat.mod_one]⟩
        rw [if_pos h0, decide_eq_true hz]
        simp [digN, h0]
      · have hvw : valN v = 2 ^ v.width.toNat := by unfold valN; rw [if_neg h0]
        rw [if_neg h0]
        have hlt := Nat.mod_lt (k / totN l) hn
        have hdig : ∀ m, digN v m = ((m % valN v : Nat) : Int) := fun m => by unfold digN; rw [if_neg h0]
        rw [hdig, hdig]
        have hpow : (2 : Int) ^ v.width.toNat = ((valN v : Nat) : Int) := by rw [hvw]; simp
        rw [hpow]
        by_cases hx : k / totN l % valN v + 1 < valN v
        · rw [if_pos (by omega)]
          have hmod : (k / totN l + 1) % valN v = k / totN l % valN v + 1 := by
            rw [Nat.add_mod, Nat.mod_eq_of_lt (show 1 < valN v from by omega), Nat.mod_eq_of_lt hx]
          have hz : ¬ (k + 1) % totN (v :: l) = 0 := by
            show ¬ (k + 1) % (valN v * totN l) = 0
            intro h
            have := (hm.1 h).2
            omega
          rw [decide_eq_false hz, hmod]
          simp
        · rw [if_neg (by omega)]
          have hmod : (k / totN l + 1) % valN v = 0 := by
            have h1 : k / totN l % valN v + 1 = valN v := by omega
            rw [Nat.add_mod]
            by_cases h2 : valN v = 1
            · rw [h2, Nat.mod_one]
            · rw [Nat.mod_eq_of_lt (show 1 < valN v from by omega), h1, Nat.mod_self]
          have hz : (k + 1) % totN (v :: l) = 0 := by
            show (k + 1) % (valN v * totN l) = 0
            exact hm.2 ⟨hc, hmod⟩
          rw [decide_eq_true hz, hmod]
          simp
    · rw [decide_eq_false hc, if_neg (by simp), hd2 hc]
      have hz : ¬ (k + 1) % totN (v :: l) = 0 := by
        show ¬ (k + 1) % (valN v * totN l) = 0
        intro h
        exact hc (hm.1 h).1
      rw [decide_eq_false hz]

/-! ### which lists are assignments, and their numbers -/
def AsgAt (v : VarD) (x : Int) : Prop := (v.mode = 0 → x = v.value) ∧ 0 ≤ x ∧ x < 2 ^ v.width.toNat
structure Asg (l : List VarD) (a : List Int) : Prop where
  len : a.length = l.length
  at' : ∀ i (h : i < l.length), AsgAt (l[i]'h) (a[i]'(by omega))
def numN : List VarD → List Int → Nat
  | v :: l, x :: a => (if v.mode = 0 then 0 else x.toNat) * totN l + numN l a
  | _, _ => 0
theorem numN_cons (v : VarD) (l : List VarD) (x : Int) (a : List Int) : numN (v :: l) (x :: a) = (if v.mode = 0 then 0 else x.toNat) * totN l + numN l a := rfl
theorem totN_cons (v : VarD) (l : List VarD) : totN (v :: l) = valN v * totN l := rfl
theorem Asg.tail {v : VarD} {l : List VarD} {x : Int} {a : List Int} (h : Asg (v :: l) (x :: a)) : Asg l a :=
  ⟨by have := h.len; simpa using this, fun i hi => by have := h.at' (i + 1) (by simpa using hi); simpa using this⟩
theorem Asg.head {v : VarD} {l : List VarD} {x : Int} {a : List Int} (h : Asg (v :: l) (x :: a)) : AsgAt v x := by
  have := h.at' 0 (by simp); simpa using this
theorem nth_high (l : List VarD) (k m : Nat) : nthN l (m * totN l + k) = nthN l k := by
  induction l generalizing m k with
  | nil => rfl
  | cons v l ih =>
    have hT := totN_pos l
    have hn := valN_pos v
    unfold nthN
    have e1 : m * totN (v :: l) + k = (m * valN v) * totN l + k := by show m * (valN v * totN l) + k = _; rw [Nat.mul_assoc]
    rw [e1, ih]
    congr 1
    rw [Nat.mul_comm (m * valN v), Nat.mul_add_div hT]
    unfold digN
    rw [Nat.mul_comm m, Nat.mul_add_mod]
theorem nth_num {l : List VarD} : ∀ {a : List Int}, Asg l a → nthN l (numN l a) = a ∧ numN l a < totN l := by
  induction l with
  | nil =>
    intro a h
    have := h.len
    have : a = [] := List.eq_nil_of_length_eq_zero (by simpa using this)
    subst this
    exact ⟨rfl, by simp [numN, totN]⟩
  | cons v l ih =>
    intro a h
    cases a with
    | nil => have := h.len; simp at this
    | cons x a =>
      obtain ⟨h1, h2⟩ := ih h.tail
      obtain ⟨hm, h0, hx⟩ := h.head
      have hT := totN_pos l
      unfold numN nthN
      rw [nth_high, h1]
      have hdiv : ∀ d, (d * totN l + numN l a) / totN l = d := fun d => by
        rw [Nat.mul_comm d, Nat.mul_add_div hT, Nat.div_eq_of_lt h2, Nat.add_zero]
      rw [hdiv]
      by_cases hm0 : v.mode = 0
      · rw [if_pos hm0]
        refine ⟨?_, ?_⟩
        · unfold digN; rw [if_pos hm0, hm hm0]
        · show 0 * totN l + numN l a < valN v * totN l
          unfold valN; rw [if_pos hm0]; omega
      · rw [if_neg hm0]
        have hvw : valN v = 2 ^ v.width.toNat := by unfold valN; rw [if_neg hm0]
        have hxn : x.toNat < valN v := by
          have : ((x.toNat : Nat) : Int) < ((valN v : Nat) : Int) := by rw [hvw]; simp; omega
          omega
        refine ⟨?_, ?_⟩
        · unfold digN; rw [if_neg hm0, Nat.mod_eq_of_lt hxn]
          rw [Int.toNat_of_nonneg h0]
        · show x.toNat * totN l + numN l a < valN v * totN l
          calc x.toNat * totN l + numN l a < x.toNat * totN l + totN l := by omega
            _ = (x.toNat + 1) * totN l := by rw [Nat.add_mul, Nat.one_mul]
            _ ≤ valN v * totN l := Nat.mul_le_mul_right _ hxn
theorem asg_nth {l : List VarD} (hok : ∀ i (h : i < l.length), varOkB (l[i]'h) = true) (k : Nat) : Asg l (nthN l k) := by
  refine ⟨nthN_len l k, fun i hi => ?_⟩
  rw [nthN_get l k i hi]
  have hv := hok i hi
  generalize (l[i]'hi) = v at hv
  generalize k / totN (l.drop (i + 1)) = m
  unfold varOkB varNumsB at hv
  simp only [Bool.and_eq_true, decide_eq_true_eq] at hv
  unfold digN
  by_cases h0 : v.mode = 0
  · rw [if_pos h0]; exact ⟨fun _ => rfl, by omega, by omega⟩
  · rw [if_neg h0]
    have hvw : valN v = 2 ^ v.width.toNat := by unfold valN; rw [if_neg h0]
    have hlt := Nat.mod_lt m (valN_pos v)
    refine ⟨fun h => absurd h h0, by omega, ?_⟩
    have hp : (2 : Int) ^ v.width.toNat = ((valN v : Nat) : Int) := by rw [hvw]; simp
    rw [hp]; omega
/-- Horner's way -/
def hornN (l : List VarD) (a : List Int) : Nat → Nat
  | 0 => 0
  | i + 1 => hornN l a i * (match l[i]? with | some v => valN v | none => 1) + (match l[i]?, a[i]? with | some v, some x => (if v.mode = 0 then 0 else x.toNat) | _, _ => 0)
theorem hornN_succ {l : List VarD} {a : List Int} {i : Nat} (h : i < l.length) (hx : i < a.length) : hornN l a (i + 1) = hornN l a i * valN (l[i]'h) + (if (l[i]'h).mode = 0 then 0 else (a[i]'hx).toNat) := by
  have : hornN l a (i + 1) = hornN l a i * (match l[i]? with | some v => valN v | none => 1) + (match l[i]?, a[i]? with | some v, some x => (if v.mode = 0 then 0 else x.toNat) | _, _ => 0) := rfl
  rw [this, List.getElem?_eq_getElem h, List.getElem?_eq_getElem hx]
theorem horn_num : ∀ (l : List VarD) (a : List Int) (k : Nat), a.length = l.length → ∀ i, i ≤ l.length → hornN l a i * totN (l.drop i) + numN (l.drop i) (a.drop i) = numN l a := by
  intro l a _ hlen i
  induction i with
  | zero => intro _; simp [hornN]
  | succ i ih =>
    intro hi
    have := ih (by omega)
    rw [List.drop_eq_getElem_cons (show i < l.length by omega), List.drop_eq_getElem_cons (show i < a.length by omega)] at this
    rw [totN_cons, numN_cons] at this
    rw [← this]
    rw [hornN_succ (show i < l.length by omega) (show i < a.length by omega)]
    rw [Nat.add_mul, Nat.mul_assoc]
    omega
theorem horn_all (l : List VarD) (a : List Int) (h : a.length = l.length) : hornN l a l.length = numN l a := by
  have := horn_num l a 0 h l.length (Nat.le_refl _)
  rw [List.drop_length] at this
  rw [← this]; simp [totN, numN]

/-! ### the bound -/
theorem tot_bits (l : List VarD) (hok : ∀ v, v ∈ l → varOkB v = true) : totN l ≤ 2 ^ ((l.map widthR).sum).toNat ∧ 0 ≤ (l.map widthR).sum := by
  induction l with
  | nil => simp [totN]
  | cons v l ih =>
    obtain ⟨h1, h2⟩ := ih (fun v hv => hok v (List.mem_cons_of_mem _ hv))
    have hw := width_of_ok (hok v List.mem_cons_self)
    simp only [List.map_cons, List.sum_cons]
    have e1 : valN v = if v.mode = 0 then 1 else 2 ^ v.width.toNat := rfl
    have e2 : widthR v = if v.mode = 0 then 0 else v.width := rfl
    rw [totN_cons, e1, e2]
    by_cases h0 : v.mode = 0
    · rw [if_pos h0, if_pos h0]
      simp only [Nat.one_mul, Int.zero_add]
      exact ⟨h1, h2⟩
    · rw [if_neg h0, if_neg h0]
      refine ⟨?_, by omega⟩
      rw [show (v.width + (l.map widthR).sum).toNat = v.width.toNat + ((l.map widthR).sum).toNat from by omega, Nat.pow_add]
      exact Nat.mul_le_mul_left _ h1
theorem VarsOk.tot {l : List VarD} (h : VarsOk l) : totN l ≤ 1048576 := by
  obtain ⟨h1, h2⟩ := tot_bits l (fun v hv => by obtain ⟨i, hi, rfl⟩ := List.getElem_of_mem hv; exact h.ok i hi)
  have hb := h.bits
  unfold bitsTo at hb
  rw [List.take_of_length_le (Nat.le_refl _)] at hb
  calc totN l ≤ _ := h1
    _ ≤ 2 ^ 20 := Nat.pow_le_pow_right (by decide) (by omega)
    _ = _ := by decide

/-! ### looking for a hit -/
/-- from number k on, within s steps: the hit, and the number and the steps behind it -/
def scanN (H : Nat → Bool) (T : Nat) : Nat → Nat → Option Nat × Nat × Nat
  | 0, k => (none, k, 0)
  | s + 1, k => if T ≤ k then (none, k, s + 1) else if H k = true then (some k, k + 1, s) else scanN H T s (k + 1)
end Go.Proofs.YtgdphjgedhadoaaGreatDoor

/- The reference of search: values, Total, Nth. -/
namespace Go.Proofs.YtgdphjgedhadoaaGreatDoor
open Go.RowKit

theorem box_cell {w wr : World} {c : Array Value} {t : TypeId} (h : Below (w.heap.size + 1) (w.alloc (.cells c t)) wr) (j : Nat) : wr.cell? ⟨w.heap.size, j, none⟩ = c[j]? :=
  (h.cell (p := ⟨w.heap.size, j, none⟩) (by simp)).trans (by simp)
theorem nums_of_ok {v : VarD} (h : varOkB v = true) : 1 ≤ v.width ∧ v.width ≤ 8 ∧ 0 ≤ v.mode ∧ v.mode ≤ 2 ∧ 0 ≤ v.value ∧ v.value < 2 ^ v.width.toNat := by
  unfold varOkB varNumsB at h
  simp only [Bool.and_eq_true, decide_eq_true_eq] at h
  omega
theorem pow_step (k : Nat) : (2 : Int) ^ (k + 1) = 2 * 2 ^ k := by rw [Int.pow_succ, Int.mul_comm]
theorem pow_small {k : Nat} (h : k ≤ 8) : (1 : Int) ≤ 2 ^ k ∧ (2 : Int) ^ k ≤ 256 := by
  have := @pow8 (k : Int) (by omega)
  simpa using this
set_option maxHeartbeats 1000000 in
theorem values_any (v : VarD) (w : World) (hv : varOkB v = true) :
    Calls Tryz.prog 60 #[varVal v] w fun e w' => e = .returned (.int .i64 (valN v : Nat)) ∧ Below w.heap.size w w' := by
  obtain ⟨h1, h2, h3, h4, h5, h6⟩ := nums_of_ok hv
  obtain ⟨name, width, mode, value⟩ := v
  simp only at h1 h2 h3 h4 h5 h6
  clear hv h6
  unfold varVal
  by_cases hm : mode = 0
  · have HV : Hid (valN ⟨name, width, mode, value⟩ = 1) := by show _ = _; unfold valN; simp only [hm, if_true]
    subst hm
    have hd : decide ((0 : Int) < width) = true := by simp; omega
    go_enter Tryz.func60, Tryz.ntmps60
    go_wp2_with fail
    go_loopw [3, 4] (fun n i wr => i = .int .i64 0 ∧ n = .int .i64 1 ∧ Below (w.heap.size + 1) (w.alloc (.cells #[.string name, .int .i64 width, .int .i64 0, .int .i64 value] 87)) wr) (fun _ _ _ => 0)
    case atStart => exact ⟨rfl, rfl, Below.refl _ _⟩
    case round =>
      obtain ⟨rfl, rfl, hB⟩ := hrel
      have b1 := box_cell hB 1
      have b2 := box_cell hB 2
      (try simp at b1 b2)
      have HB := Lib.hid (boxW _ hB)
      clear hB
      go_wp2_with fail
      go_ret
      exact ⟨by rw [HV.out]; rfl, HB.out⟩
  · have HV : Hid (((valN ⟨name, width, mode, value⟩ : Nat) : Int) = 2 ^ width.toNat) := by show _ = _; unfold valN; simp only [hm, if_false]; simp
    have hm' : (mode != 0) = true := by simpa using hm
    clear hm
    obtain ⟨W, rfl⟩ := Int.eq_ofNat_of_zero_le (show 0 ≤ width by omega)
    simp only [Int.toNat_natCast] at HV
    go_enter Tryz.func60, Tryz.ntmps60
    go_wp2_with fail
    go_loopw [3, 4] (fun n i wr => ∃ (k : Nat) (q : Int), i = .int .i64 k ∧ k ≤ W ∧ n = .int .i64 q ∧ Hid (q = 2 ^ k) ∧ 1 ≤ q ∧ q ≤ 256 ∧ Below (w.heap.size + 1) (w.alloc (.cells #[.string name, .int .i64 (W : Int), .int .i64 mode, .int .i64 value] 87)) wr) (fun _ i _ => W - (intOf i).toNat)
    case atStart => exact ⟨0, 1, rfl, Nat.zero_le _, rfl, rfl, by decide, by decide, Below.refl _ _⟩
    case round =>
      obtain ⟨k, q, rfl, hk, rfl, hq, q1, q2, hB⟩ := hrel
      have b1 := box_cell hB 1
      have b2 := box_cell hB 2
      (try simp at b1 b2)
      have HB := Lib.hid hB
      have HBw := Lib.hid (boxW _ hB)
      clear hB
      by_cases hlt : k < W
      · have hn : Hid (2 * q = 2 ^ (k + 1)) := by show _ = _; rw [hq.out, pow_step]
        have hs := pow_small (show k + 1 ≤ 8 by omega)
        rw [← hn.out] at hs
        have hd : decide ((k : Int) < (W : Int)) = true := by simp; omega
        go_wp2_with fail
        go_roundw
        case rel => exact ⟨k + 1, 2 * q, by go_num, by omega, rfl, hn, by omega, by omega, HB.out⟩
        case measure => simp [intOf]; omega
      · obtain rfl : k = W := by omega
        have hd : decide ((k : Int) < (k : Int)) = false := by simp
        go_wp2_with fail
        go_ret
        exact ⟨by rw [HV.out, ← hq.out]; rfl, HBw.out⟩
set_option maxRecDepth 100000 in
set_option maxHeartbeats 2000000 in
theorem Total_any (p : ProbD) (x : ProbA) (w : World) (hE : ProbIn w p x) (hV : VarsOk p.vars) :
    Calls Tryz.prog 24 #[probVal p x] w fun e w' => e = .returned (.int .i64 (totN p.vars : Nat)) ∧ Below w.heap.size w w' := by
  have HE := Lib.hid hE.vars
  have HA := Lib.hid hE.vars.addr
  have hlen := hE.vars.2.1
  have HV := Lib.hid hV
  have hT := hV.tot
  rw [probVal_eq]
  obtain ⟨vs, hard, soft, ds, gs⟩ := p
  obtain ⟨av, cv, ah, ch, ao, co, ad, cd, ag, cg⟩ := x
  simp only at HE HA hlen HV hT ⊢
  clear hE hV
  go_enter Tryz.func24, Tryz.ntmps24
  go_wp2_with fail
  go_loopw [3, 4] (fun n i wr => ∃ (k : Nat), i = .int .i64 k ∧ k ≤ vs.length ∧ n = .int .i64 (totN (vs.take k) : Nat) ∧ Below (w.heap.size + 1) (w.alloc (.cells #[.slice av vs.length cv, .slice ah hard.length ch, .slice ao soft.length co, .slice ad ds.length cd, .slice ag gs.length cg] 27)) wr) (fun _ i _ => vs.length - (intOf i).toNat)
  case atStart => exact ⟨0, rfl, Nat.zero_le _, rfl, Below.refl _ _⟩
  case round =>
    obtain ⟨k, rfl, hk, rfl, hB⟩ := hrel
    have b0 := box_cell hB 0
    (try simp at b0)
    have HB := Lib.hid hB
    have HBw := Lib.hid (boxW _ hB)
    have hzr := hB.size
    simp only [World.size_alloc] at hzr
    by_cases hlt : k < vs.length
    · obtain ⟨b, off, ha⟩ := HA.out.resolve_left (by omega)
      subst ha
      obtain ⟨c0, c1, c2, c3, hsz⟩ := HE.out.get rfl hlt
      have kk := keeps_of_below HBw.out
      have c0 := kk _ _ c0
      have c1 := kk _ _ c1
      have c2 := kk _ _ c2
      have c3 := kk _ _ c3
      have hs := totN_take_succ vs k hlt
      have hle := totN_take_le vs (k + 1)
      have hpos := totN_pos (vs.take k)
      have hvp := valN_pos (vs[k]'hlt)
      have hle1 := totN_take_le vs k
      have hvl : valN (vs[k]'hlt) ≤ 1048576 := by
        calc valN (vs[k]'hlt) ≤ totN (vs.take k) * valN (vs[k]'hlt) := Nat.le_mul_of_pos_left _ hpos
          _ ≤ _ := by rw [← hs]; omega
      have HC := Lib.hid ((values_any (vs[k]'hlt) wr (HV.out.ok k hlt)).mono fun e w' h => (⟨h.1, HB.out.trans (h.2.mono (by simpa using hzr))⟩ : _ ∧ Below (w.heap.size + 1) _ w'))
      simp only [varVal] at HC
      have hmul : ((totN (vs.take k) : Nat) : Int) * ((valN (vs[k]'hlt) : Nat) : Int) = ((totN (vs.take (k + 1)) : Nat) : Int) := by rw [hs]; simp
      have Hmul := Lib.hid hmul
      have hwr : IntKind.i64.wrap (((totN (vs.take k) : Nat) : Int) * ((valN (vs[k]'hlt) : Nat) : Int)) = ((totN (vs.take (k + 1)) : Nat) : Int) := by rw [hmul, IntKind.wrap_i64]; omega
      have HTk : Hid (totN (vs.take (k + 1)) = totN (vs.take (k + 1))) := rfl
      generalize totN (vs.take k) = t0 at *
      generalize valN (vs[k]'hlt) = v0 at *
      clear hs hmul kk hB
      go_wp2_with (go_at_call 60; (with_reducible refine HC.out.mono ?_); rintro e w1 ⟨rfl, hb1⟩; have HB1 := Lib.hid hb1; clear hb1)
      go_roundw
      case rel => exact ⟨k + 1, by go_num, by omega, by first | rfl | rw [Hmul.out] | (congr 1; exact Hmul.out), (by assumption : Hid (Below (w.heap.size + 1) _ _)).out⟩
      case measure => simp [intOf]; omega
    · obtain rfl : k = vs.length := by omega
      clear hB
      go_wp2_with fail
      go_ret
      exact ⟨by rw [List.take_of_length_le (Nat.le_refl _)]; rfl, HBw.out⟩

/-! ### Nth -/
def NthPost (w : World) (l : List Int) (e : Ending) (w' : World) : Prop := ∃ b cap, e = .returned (.slice (some ⟨b, 0, none⟩) l.length cap) ∧ IntsIn w' l (some ⟨b, 0, none⟩) cap ∧ Below w.heap.size w w'
def NthOwn (w : World) (l : List Int) (e : Ending) (w' : World) : Prop := ∃ b, e = .returned (.slice (some ⟨b, 0, none⟩) l.length l.length) ∧ w'.ownsRow w.heap.size 3 1 (.slice (some ⟨b, 0, none⟩) l.length l.length) l.length (l.map (Value.int .i64)) ∧ Below w.heap.size w w'
theorem own_of_frow {w : World} {B b : Nat} {l : List Int} {f : Nat → Value} (h : FRow w b 3 l.length f) (hf : ∀ i (hi : i < l.length), f i = .int .i64 (l[i]'hi)) (hl : l.length ≤ 1073741824) (hB : B ≤ b) : w.ownsRow B 3 1 (.slice (some ⟨b, 0, none⟩) l.length l.length) l.length (l.map (Value.int .i64)) := by
  refine ⟨by simp, Or.inr ⟨b, l.length, _, rfl, hB, h, Nat.le_refl _, by unfold maxLen; omega, by simp, ?_⟩⟩
  rw [Nat.mul_one, List.take_of_length_le (by simp)]
  apply List.ext_getElem
  · simp
  · intro i h1 h2
    simp at h1
    simpa using hf i h1
theorem ints_of_frow {w : World} {b : Nat} {l : List Int} {f : Nat → Value} (h : FRow w b 3 l.length f) (hf : ∀ i (hi : i < l.length), f i = .int .i64 (l[i]'hi)) (hl : l.length ≤ 1073741824) : IntsIn w l (some ⟨b, 0, none⟩) l.length := by
  refine ⟨Nat.le_refl _, hl, Or.inr ⟨b, 0, rfl, fun i hi => ⟨l[i], List.getElem?_eq_getElem hi, ?_⟩⟩⟩
  rw [Nat.mul_one, Nat.zero_add, FRow.cell h hi, hf i hi]
/-- the row of Nth when the elements from c on are laid -/
def NthRow (w : World) (b : Nat) (vs : List VarD) (k c : Nat) : Prop := FRow w b 3 vs.length (fun j => if c ≤ j then .int .i64 ((nthN vs k).getD j 0) else .int .i64 0)
theorem NthRow.cell0 {w : World} {b : Nat} {vs : List VarD} {k d : Nat} (h : NthRow w b vs k (d + 1)) (hd : d < vs.length) : w.cell? ⟨b, d, none⟩ = some (.int .i64 0) := by
  have h' := FRow.cell h hd
  rw [h', if_neg (by omega)]
theorem nthRow_step {w : World} {b : Nat} {vs : List VarD} {k d : Nat} (h : FRow w b 3 vs.length (fun j => if j = d then .int .i64 (digN (vs.getD d ⟨.empty, 0, 0, 0⟩) (k / totN (vs.drop (d + 1)))) else (fun j => if d + 1 ≤ j then Value.int .i64 ((nthN vs k).getD j 0) else .int .i64 0) j)) (hd : d < vs.length) : NthRow w b vs k d := by
  refine FRow.congr h fun j hj => ?_
  by_cases e : j = d
  · subst e
    rw [if_pos rfl, if_pos (Nat.le_refl _)]
    congr 1
    rw [List.getD_eq_getElem?_getD, List.getD_eq_getElem?_getD, List.getElem?_eq_getElem hd, List.getElem?_eq_getElem (show j < (nthN vs k).length by rw [nthN_len]; exact hd)]
    simp only [Option.getD_some]
    rw [nthN_get vs k j hd]
  · rw [if_neg e]
    show (if d + 1 ≤ j then Value.int .i64 ((nthN vs k).getD j 0) else .int .i64 0) = _
    by_cases h1 : d + 1 ≤ j
    · rw [if_pos h1, if_pos (by omega)]
    · rw [if_neg h1, if_neg (by omega)]
set_option maxRecDepth 100000 in
set_option maxHeartbeats 4000000 in
theorem Nth_own (p : ProbD) (x : ProbA) (k : Nat) (w : World) (hE : ProbIn w p x) (hV : VarsOk p.vars) (hk : k ≤ 4611686018427387904) :
    Calls Tryz.prog 23 #[probVal p x, .int .i64 k] w fun e w' => NthOwn w (nthN p.vars k) e w' := by
  have HE := Lib.hid hE.vars
  have HA := Lib.hid hE.vars.addr
  have hlen := hE.vars.2.1
  have HV := Lib.hid hV
  have hmk := mk_ints p.vars.length hlen
  rw [probVal_eq]
  obtain ⟨vs, hard, soft, ds, gs⟩ := p
  obtain ⟨av, cv, ah, ch, ao, co, ad, cd, ag, cg⟩ := x
  simp only at HE HA hlen HV hmk ⊢
  clear hE hV
  have HR0 : Hid (NthRow ((w.alloc (.cells #[.slice av vs.length cv, .slice ah hard.length ch, .slice ao soft.length co, .slice ad ds.length cd, .slice ag gs.length cg] 27)).alloc (.cells (List.replicate vs.length (Value.int .i64 0)).toArray 3)) (w.heap.size + 1) vs k vs.length) := by
    have h := frow_new (w.alloc (.cells #[.slice av vs.length cv, .slice ah hard.length ch, .slice ao soft.length co, .slice ad ds.length cd, .slice ag gs.length cg] 27)) 3 vs.length (.int .i64 0)
    rw [World.size_alloc] at h
    exact FRow.congr h (fun i hi => by rw [if_neg (by omega)])
  have HB0 : Hid (Below (w.heap.size + 1) (w.alloc (.cells #[.slice av vs.length cv, .slice ah hard.length ch, .slice ao soft.length co, .slice ad ds.length cd, .slice ag gs.length cg] 27)) ((w.alloc (.cells #[.slice av vs.length cv, .slice ah hard.length ch, .slice ao soft.length co, .slice ad ds.length cd, .slice ag gs.length cg] 27)).alloc (.cells (List.replicate vs.length (Value.int .i64 0)).toArray 3))) := (Below.refl _ _).alloc (by simp) _
  go_enter Tryz.func23, Tryz.ntmps23
  go_wp2_with fail
  clear hmk
  go_loopw [6, 1, 7] (fun i kk _ wr => ∃ c : Nat, i = .int .i64 ((c : Int) - 1) ∧ c ≤ vs.length ∧ kk = .int .i64 (k / totN (vs.drop c) : Nat) ∧ NthRow wr (w.heap.size + 1) vs k c ∧ Below (w.heap.size + 1) (w.alloc (.cells #[.slice av vs.length cv, .slice ah hard.length ch, .slice ao soft.length co, .slice ad ds.length cd, .slice ag gs.length cg] 27)) wr) (fun i _ _ _ => (intOf i + 1).toNat)
  case atStart => exact ⟨vs.length, by go_num, Nat.le_refl _, by rw [List.drop_length]; simp [totN], HR0.out, HB0.out⟩
  case round =>
    obtain ⟨c, hi, hc, rfl, hrow, hB⟩ := hrel
    have b0 := box_cell hB 0
    (try simp at b0)
    have HB := Lib.hid hB
    have HBw := Lib.hid (boxW _ hB)
    have hzr := hB.size
    have hlr := hrow.lt
    simp only [World.size_alloc] at hzr
    cases c with
    | succ d =>
      obtain rfl := hi.trans (show Value.int .i64 (((d + 1 : Nat) : Int) - 1) = .int .i64 (d : Int) by congr 1; omega)
      clear hi
      have hlt : d < vs.length := by omega
      obtain ⟨b, off, ha⟩ := HA.out.resolve_left (by omega)
      subst ha
      obtain ⟨c0, c1, c2, c3, hsz⟩ := HE.out.get rfl hlt
      have kk := keeps_of_below HBw.out
      have hzl0 : w.heap.size < wr.heap.size := by omega
      have f0 := FRow.free hrow d
      have e0 := NthRow.cell0 hrow hlt
      have hbl : b < wr.heap.size := Nat.lt_of_lt_of_le (World.block_lt_of_cell? _ _ c2) HBw.out.size
      have hbne : b ≠ w.heap.size + 1 := by have := World.block_lt_of_cell? _ _ c2; simp only at this; omega
      have c0 := kk _ _ c0
      have c1 := kk _ _ c1
      have c2 := kk _ _ c2
      have c3 := kk _ _ c3
      have HC := Lib.hid ((values_any (vs[d]'hlt) wr (HV.out.ok d hlt)).mono fun e w' h => (⟨h.1, bcell h.2, h.2.size, HB.out.trans (h.2.mono (by simpa using hzr)), FRow.keep hrow h.2⟩ : _ ∧ _ ∧ _ ∧ Below (w.heap.size + 1) _ w' ∧ NthRow w' (w.heap.size + 1) vs k (d + 1)))
      simp only [varVal] at HC
      have Hdr : Hid (k / totN (vs.drop d) = k / totN (vs.drop (d + 1)) / valN (vs[d]'hlt)) := by
        show _ = _
        rw [totN_drop_eq vs d hlt, Nat.mul_comm, Nat.div_div_eq_div_mul]
      have Hdg : Hid (digN (vs.getD d ⟨.empty, 0, 0, 0⟩) (k / totN (vs.drop (d + 1))) = if (vs[d]'hlt).mode = 0 then (vs[d]'hlt).value else ((k / totN (vs.drop (d + 1)) : Nat) : Int) % ((valN (vs[d]'hlt) : Nat) : Int)) := by
        show _ = _
        rw [List.getD_eq_getElem?_getD, List.getElem?_eq_getElem hlt, Option.getD_some]
        unfold digN
        rw [Int.natCast_emod]
      have hvp := valN_pos (vs[d]'hlt)
      have hvl : valN (vs[d]'hlt) ≤ 1048576 := by
        have h1 := totN_take_le vs (d + 1)
        have h2 := HV.out.tot
        rw [totN_take_succ vs d hlt] at h1
        have h3 := totN_pos (vs.take d)
        calc valN (vs[d]'hlt) ≤ totN (vs.take d) * valN (vs[d]'hlt) := Nat.le_mul_of_pos_left _ h3
          _ ≤ _ := by omega
      have hkl : k / totN (vs.drop (d + 1)) ≤ 4611686018427387904 := Nat.le_trans (Nat.div_le_self _ _) hk
      have hvI : (1 : Int) ≤ ((valN (vs[d]'hlt) : Nat) : Int) := by omega
      have hv0 : (((valN (vs[d]'hlt) : Nat) : Int) == 0) = false := by simp; omega
      have Hdq : Hid (((k / totN (vs.drop (d + 1)) / valN (vs[d]'hlt) : Nat) : Int) = wrap64 (((k / totN (vs.drop (d + 1)) : Nat) : Int) / ((valN (vs[d]'hlt) : Nat) : Int))) := by
        show _ = _
        have := Nat.div_le_self (k / totN (vs.drop (d + 1))) (valN (vs[d]'hlt))
        have h2 := hkl
        rw [← Int.natCast_ediv]
        generalize k / totN (vs.drop (d + 1)) / valN (vs[d]'hlt) = z at this ⊢
        unfold wrap64; omega
      have HSt := Lib.hid (fun W => @nthRow_step W (w.heap.size + 1) vs k d)
      generalize k / totN (vs.drop (d + 1)) = q at *
      generalize valN (vs[d]'hlt) = n at *
      generalize (vs[d]'hlt).mode = mode at *
      generalize (vs[d]'hlt).value = value at *
      clear hrow hB kk
      by_cases hm : mode = 0
      · rw [if_pos hm] at Hdg
        rw [Hdg.out] at HSt
        subst hm
        go_wp2_with (go_at_call 60; (with_reducible refine HC.out.mono ?_); rintro e w1 ⟨rfl, ⟨hc1, hf1⟩, hz1, hb1, hr1⟩; have hzl : w.heap.size + 1 < w1.heap.size := (by omega); have HX := Lib.hid (⟨hb1, hr1⟩ : _ ∧ _); clear hb1 hr1)
        go_roundw
        case rel => exact ⟨d, by go_num, by omega, by rw [Hdr.out, Hdq.out], HSt.out _ (FRow.congr (FRow.set (FRow.set HX.out.2 hlt _) hlt _) (fun j _ => by by_cases e : j = d <;> simp [e])) hlt, (HX.out.1.setCell (by simp) _).setCell (by simp) _⟩
        case measure => simp [intOf] <;> omega
      · rw [if_neg hm] at Hdg
        rw [Hdg.out] at HSt
        have hm' := op_ne hm
        clear hm
        go_wp2_with (go_at_call 60; (with_reducible refine HC.out.mono ?_); rintro e w1 ⟨rfl, ⟨hc1, hf1⟩, hz1, hb1, hr1⟩; have hzl : w.heap.size + 1 < w1.heap.size := (by omega); have HX := Lib.hid (⟨hb1, hr1⟩ : _ ∧ _); clear hb1 hr1)
        go_roundw
        case rel => exact ⟨d, by go_num, by omega, by rw [Hdr.out, Hdq.out], HSt.out _ (FRow.set HX.out.2 hlt _) hlt, HX.out.1.setCell (by simp) _⟩
        case measure => simp [intOf] <;> omega
    | zero =>
      subst hi
      have HR : Hid (wr.ownsRow w.heap.size 3 1 (.slice (some ⟨w.heap.size + 1, 0, none⟩) (nthN vs k).length (nthN vs k).length) (nthN vs k).length ((nthN vs k).map (Value.int .i64))) := own_of_frow (f := fun j => if 0 ≤ j then .int .i64 ((nthN vs k).getD j 0) else .int .i64 0) (by rw [nthN_len]; exact hrow) (fun i hi => by rw [if_pos (Nat.zero_le _), List.getD_eq_getElem?_getD, List.getElem?_eq_getElem hi]; rfl) (by rw [nthN_len]; exact hlen) (Nat.le_succ _)
      have HL := Lib.hid (nthN_len vs k)
      clear hrow hB
      go_wp2_with fail
      go_ret
      refine ⟨w.heap.size + 1, by rw [HL.out]; rfl, HR.out, HBw.out⟩
theorem Nth_any (p : ProbD) (x : ProbA) (k : Nat) (w : World) (hE : ProbIn w p x) (hV : VarsOk p.vars) (hk : k ≤ 4611686018427387904) :
    Calls Tryz.prog 23 #[probVal p x, .int .i64 k] w fun e w' => NthPost w (nthN p.vars k) e w' :=
  (Nth_own p x k w hE hV hk).mono fun e w' ⟨b, h1, h2, h3⟩ => by
    obtain ⟨a, cap, hv, hI⟩ := ints_of_own h2 (by rw [nthN_len]; exact hE.vars.2.1)
    injection hv with e1 e2 e3
    subst e1 e3
    exact ⟨b, _, h1, hI, h3⟩
end Go.Proofs.YtgdphjgedhadoaaGreatDoor
