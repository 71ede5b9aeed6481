/- soft: assignments, solvable. -/
import Derived.Test.YtgdphjgedhadoaaGreatDoorSC
import Derived.Test.YtgdphjgedhadoaaGreatDoorKO
import Derived.Test.YtgdphjgedhadoaaGreatDoorKQ
import Derived.Deep.RegionLawGrows
set_option linter.unusedSimpArgs false
set_option linter.unusedVariables false
set_option linter.unnecessarySimpa false
namespace Go.Proofs.YtgdphjgedhadoaaGreatDoor
open Go.RowKit
attribute [local go_sem ↓] Go.wp_at_zero Go.wp_at_succ

theorem tot_pow (l : List VarD) (hok : ∀ v, v ∈ l → varOkB v = true) : totN l = 2 ^ ((l.map widthR).sum).toNat ∧ 0 ≤ (l.map widthR).sum := by
  induction l with
  | nil => simp [totN]
  | cons v l ih =>
    obtain ⟨h1, h2⟩ := ih (fun v hv => hok v (List.mem_cons_of_mem _ hv))
    have hw := width_of_ok (hok v List.mem_cons_self)
    simp only [List.map_cons, List.sum_cons]
    have e1 : valN v = if v.mode = 0 then 1 else 2 ^ v.width.toNat := rfl
    have e2 : widthR v = if v.mode = 0 then 0 else v.width := rfl
    rw [totN_cons, e1, e2, h1]
    by_cases h0 : v.mode = 0
    · rw [if_pos h0, if_pos h0]
      simp only [Nat.one_mul, Int.zero_add]
      exact ⟨trivial, h2⟩
    · rw [if_neg h0, if_neg h0]
      refine ⟨?_, by omega⟩
      rw [show (v.width + (l.map widthR).sum).toNat = v.width.toNat + ((l.map widthR).sum).toNat from by omega, Nat.pow_add]
theorem VarsOk.tot_eq {l : List VarD} (h : VarsOk l) : totN l = 2 ^ (bitsTo l l.length).toNat ∧ 0 ≤ bitsTo l l.length := by
  obtain ⟨h1, h2⟩ := tot_pow l (fun v hv => by obtain ⟨i, hi, rfl⟩ := List.getElem_of_mem hv; exact h.ok i hi)
  unfold bitsTo
  rw [List.take_of_length_le (Nat.le_refl _)]
  exact ⟨h1, h2⟩
/-- some assignment satisfies the expressions -/
noncomputable def solvB (vs : List VarD) (l : List Ex) : Bool := pB (∃ k, k < totN vs ∧ hitN vs l k = true)
set_option maxRecDepth 100000 in
set_option maxHeartbeats 4000000 in
theorem assignments_any (p : ProbD) (x : ProbA) (w : World) (hE : ProbIn w p x) (hs : ProbSmall p) (hG : Glob w) (hp : ProbOk p) (hT : bitsTo p.vars p.vars.length ≤ 10) :
    Calls Tryz.prog 101 #[probVal p x] w fun e w' => e = .returned (.int .i64 (totN p.vars)) ∧ Below w.heap.size w w' := by
  obtain ⟨ht, h0⟩ := hp.vars.tot_eq
  have HB0 := Lib.hid (fun W (hW : Below w.heap.size w W) => (Bits_any p x W (hE.keep (keeps_of_below hW)) hs (hG.below hW)).mono (R' := fun e w' => e = .returned (.int .i64 (bitsTo p.vars p.vars.length)) ∧ Below W.heap.size W w') (fun e w' ⟨n, h1, h2, _, h4⟩ => ⟨by rw [h1, h2 hp], h4⟩))
  generalize bitsTo p.vars p.vars.length = n at hT ht h0 HB0
  generalize totN p.vars = T at ht ⊢
  have hTI : (2 : Int) ^ n.toNat = (T : Int) := by rw [ht]; simp
  have h1024 : T ≤ 1024 := by
    rw [ht]
    calc 2 ^ n.toNat ≤ 2 ^ 10 := Nat.pow_le_pow_right (by decide) (by omega)
      _ = 1024 := by decide
  have hTw : IntKind.i64.wrap (2 ^ n.toNat) = (T : Int) := by rw [hTI, IntKind.wrap_i64]; omega
  clear hE hs hG hp ht hTI
  simp only [probVal_eq] at HB0 ⊢
  obtain ⟨vs, hard, soft, ds, gs⟩ := p
  obtain ⟨av, cv, ah, ch, ao, co, ad, cd, ag, cg⟩ := x
  simp only at HB0 ⊢
  have HB := Lib.hid (HB0.out (w.alloc (.cells #[.slice av vs.length cv, .slice ah hard.length ch, .slice ao soft.length co, .slice ad ds.length cd, .slice ag gs.length cg] 27)) ((Below.refl _ _).alloc (Nat.le_refl _) _))
  clear HB0
  go_enter Tryz.func101, Tryz.ntmps101
  go_wp2_with fail
  refine HB.out.mono ?_
  rintro e w1 ⟨rfl, hb1⟩
  have HB1 := Lib.hid (boxW _ (by simpa using hb1))
  clear hb1
  go_wp2_with fail
  go_ret
  exact ⟨rfl, HB1.out⟩
/-- First within as many steps as there are assignments -/
theorem first_solv {p : ProbD} {l : List Ex} {e : Ending} {w' : World} (hc : ComOk p l (totN p.vars)) (h : FirstRet p l (totN p.vars) True 0 11 e w') : ∃ a n cap, e = .returned (.tuple #[.slice a n cap, .int .i64 (if solvB p.vars l = true then 0 else 11)]) := by
  rcases h with ⟨_, h⟩ | ⟨h, _⟩
  · rw [Int.toNat_natCast] at h
    rcases h with ⟨j, a, cap, h1, h2, h3⟩ | ⟨h1, h2, h3⟩ | ⟨h1, h2, _⟩
    · obtain ⟨q1, q2, q3, q4⟩ := scan_some _ _ _ h1
      have : solvB p.vars l = true := pB_true ⟨j, q2, q3⟩
      rw [this]
      exact ⟨a, _, cap, h2⟩
    · have : solvB p.vars l = false := pB_false fun ⟨j, h4, h5⟩ => by
        have := scan_none _ _ h1 h2 j (Nat.zero_le _) h4
        rw [this] at h5; simp at h5
      rw [this]
      exact ⟨none, 0, 0, h3⟩
    · have := scan_room (H := hitN p.vars l) (T := totN p.vars) (totN p.vars) 0 (by omega) h1
      omega
  · exact absurd ⟨hc, trivial⟩ h
set_option maxRecDepth 100000 in
set_option maxHeartbeats 4000000 in
theorem solvable_any (p : ProbD) (x : ProbA) (l : List Ex) (al : Option Addr) (cl : Nat) (w : World) (hE : ProbIn w p x) (hs : ProbSmall p) (hL : ExsIn w l al cl) (hsl : ExsSmall l) (hG : Glob w) (hp : ProbOk p) (hx : ∀ i (h : i < l.length), ExprOk p.vars (l[i]'h)) (hT : bitsTo p.vars p.vars.length ≤ 10) :
    Calls Tryz.prog 66 #[probVal p x, .slice al l.length cl] w fun e w' => e = .returned (.bool (solvB p.vars l)) ∧ Below w.heap.size w w' := by
  have h1024 : totN p.vars ≤ 1024 := by
    rw [hp.vars.tot_eq.1]
    calc 2 ^ (bitsTo p.vars p.vars.length).toNat ≤ 2 ^ 10 := Nat.pow_le_pow_right (by decide) (by omega)
      _ = 1024 := by decide
  have HA0 := Lib.hid (fun W (hW : Below w.heap.size w W) => assignments_any p x W (hE.keep (keeps_of_below hW)) hs (hG.below hW) hp hT)
  have HF0 := Lib.hid (fun W (hW : Below w.heap.size w W) => (First_any p x l al cl (totN p.vars) W (hE.keep (keeps_of_below hW)) hs (hL.keep (keeps_of_below hW)) hsl (hG.below hW)).mono (R' := fun e w' => (∃ a n cap, e = .returned (.tuple #[.slice a n cap, .int .i64 (if solvB p.vars l = true then 0 else 11)])) ∧ Below W.heap.size W w') (fun e w' ⟨h1, h2⟩ => ⟨first_solv ⟨hp, by omega, by omega, hx⟩ h1, h2⟩))
  clear hE hs hL hsl hG hp hx hT
  generalize totN p.vars = T at h1024 HA0 HF0
  have hmin : min (T : Int) 262144 = (T : Int) := by omega
  simp only [probVal_eq] at HA0 HF0 ⊢
  obtain ⟨vs, hard, soft, ds, gs⟩ := p
  obtain ⟨av, cv, ah, ch, ao, co, ad, cd, ag, cg⟩ := x
  simp only at HA0 HF0 ⊢
  have hbx : Below (w.heap.size + 1) (w.alloc (.cells #[.slice av vs.length cv, .slice ah hard.length ch, .slice ao soft.length co, .slice ad ds.length cd, .slice ag gs.length cg] 27)) (w.alloc (.cells #[.slice av vs.length cv, .slice ah hard.length ch, .slice ao soft.length co, .slice ad ds.length cd, .slice ag gs.length cg] 27)) := Below.refl _ _
  have HA := Lib.hid (fun W (hW : Below (w.heap.size + 1) (w.alloc (.cells #[.slice av vs.length cv, .slice ah hard.length ch, .slice ao soft.length co, .slice ad ds.length cd, .slice ag gs.length cg] 27)) W) => (HA0.out W (boxW _ hW)).mono (R' := fun e w' => e = .returned (.int .i64 T) ∧ Below (w.heap.size + 1) (w.alloc (.cells #[.slice av vs.length cv, .slice ah hard.length ch, .slice ao soft.length co, .slice ad ds.length cd, .slice ag gs.length cg] 27)) w') (fun e w' ⟨h1, h2⟩ => ⟨h1, hW.trans (h2.mono (by simpa using hW.size))⟩))
  generalize solvB vs l = sb at HF0 ⊢
  obtain ⟨er, her⟩ : ∃ er : Int, (if sb = true then (0 : Int) else 11) = er := ⟨_, rfl⟩
  rw [her] at HF0
  have hne18 : decide (er = 18) = false := by cases sb <;> simp at her <;> subst her <;> rfl
  have hne18' : (er != 18) = true := by cases sb <;> simp at her <;> subst her <;> rfl
  have hsb : (er == 0) = sb := by cases sb <;> simp at her <;> subst her <;> rfl
  clear her
  have HF := Lib.hid (fun W (hW : Below (w.heap.size + 1) (w.alloc (.cells #[.slice av vs.length cv, .slice ah hard.length ch, .slice ao soft.length co, .slice ad ds.length cd, .slice ag gs.length cg] 27)) W) => (HF0.out W (boxW _ hW)).mono (R' := fun e w' => (∃ a n cap, e = .returned (.tuple #[.slice a n cap, .int .i64 er])) ∧ Hid (Below (w.heap.size + 1) (w.alloc (.cells #[.slice av vs.length cv, .slice ah hard.length ch, .slice ao soft.length co, .slice ad ds.length cd, .slice ag gs.length cg] 27)) w')) (fun e w' ⟨h1, h2⟩ => ⟨h1, hW.trans (h2.mono (by simpa using hW.size))⟩))
  clear HA0 HF0
  go_enter Tryz.func66, Tryz.ntmps66
  go_wp2_with fail
  go_region_with (first | (go_at_call 101; (with_reducible refine (HA.out _ (by first | assumption | exact (by repeat (first | assumption | exact Below.refl _ _ | refine Below.drew ?_ | refine below_drewN ?_ _ | refine Below.alloc ?_ (by first | omega | (simp only [World.size_alloc, World.size_setCell, World.size_drew, World.heap_drewN] <;> omega) | (simp <;> omega)) _ | refine Below.setCell ?_ (by first | omega | (simp only [World.size_alloc, World.size_setCell, World.size_drew, World.heap_drewN] <;> omega) | (simp <;> omega)) _)))).mono ?_); rintro e9 w1 ⟨rfl, hb1⟩; have hbh1 := Lib.hid hb1; ((try clear b0 b1 b2 b3 b4); have b0 := box_cell hbh1.out 0; have b1 := box_cell hbh1.out 1; have b2 := box_cell hbh1.out 2; have b3 := box_cell hbh1.out 3; have b4 := box_cell hbh1.out 4; (try simp at b0 b1 b2 b3 b4))) | (go_at_call 15; (with_reducible refine (HF.out _ (by first | assumption | exact (by repeat (first | assumption | exact Below.refl _ _ | refine Below.drew ?_ | refine below_drewN ?_ _ | refine Below.alloc ?_ (by first | omega | (simp only [World.size_alloc, World.size_setCell, World.size_drew, World.heap_drewN] <;> omega) | (simp <;> omega)) _ | refine Below.setCell ?_ (by first | omega | (simp only [World.size_alloc, World.size_setCell, World.size_drew, World.heap_drewN] <;> omega) | (simp <;> omega)) _)))).mono ?_); rintro e9 w2 ⟨⟨fa, fn, fc, rfl⟩, hb2⟩))
  all_goals
    have HB2 := Lib.hid (boxW _ hb2.out)
    go_wp2_with fail
    go_ret
    exact ⟨rfl, HB2.out⟩
end Go.Proofs.YtgdphjgedhadoaaGreatDoor

/- soft: Kept. -/
namespace Go.Proofs.YtgdphjgedhadoaaGreatDoor
open Go.RowKit
attribute [local go_sem ↓] Go.wp_at_zero Go.wp_at_succ

/-! ### plain -/
/-- from the last soft constraint on, k of them: the rules, and the indices that are kept, descending -/
def keepS (S : List Ex → Bool) (soft base : List Ex) : Nat → List Ex × List Nat
  | 0 => (base, [])
  | k + 1 => match soft[soft.length - 1 - k]? with
    | some e => if S ((keepS S soft base k).1 ++ [e]) = true then ((keepS S soft base k).1 ++ [e], (keepS S soft base k).2 ++ [soft.length - 1 - k]) else keepS S soft base k
    | none => keepS S soft base k
theorem keepS_yes {S : List Ex → Bool} {soft base : List Ex} {k i : Nat} (hi : i < soft.length) (hk : i + k + 1 = soft.length) (h : S ((keepS S soft base k).1 ++ [soft[i]'hi]) = true) : keepS S soft base (k + 1) = ((keepS S soft base k).1 ++ [soft[i]'hi], (keepS S soft base k).2 ++ [i]) := by
  have e : soft.length - 1 - k = i := by omega
  have e2 : soft[soft.length - 1 - k]? = some (soft[i]'hi) := by rw [e, List.getElem?_eq_getElem hi]
  rw [keepS, e2]
  simp only []
  rw [if_pos h, e]
theorem keepS_no {S : List Ex → Bool} {soft base : List Ex} {k i : Nat} (hi : i < soft.length) (hk : i + k + 1 = soft.length) (h : S ((keepS S soft base k).1 ++ [soft[i]'hi]) = false) : keepS S soft base (k + 1) = keepS S soft base k := by
  have e : soft.length - 1 - k = i := by omega
  have e2 : soft[soft.length - 1 - k]? = some (soft[i]'hi) := by rw [e, List.getElem?_eq_getElem hi]
  rw [keepS, e2]
  simp only []
  rw [if_neg (by rw [h]; simp)]
theorem keepS_len (S : List Ex → Bool) (soft base : List Ex) : ∀ k, (keepS S soft base k).1.length ≤ base.length + k ∧ (keepS S soft base k).2.length ≤ k := by
  intro k
  induction k with
  | zero => simp [keepS]
  | succ k ih =>
    rw [keepS]
    split
    · split
      · simp; omega
      · omega
    · omega
theorem keepS_mem (S : List Ex → Bool) (soft base : List Ex) : ∀ k, ∀ e, e ∈ (keepS S soft base k).1 → e ∈ base ∨ e ∈ soft := by
  intro k
  induction k with
  | zero => intro e h; exact Or.inl h
  | succ k ih =>
    rw [keepS]
    split
    · rename_i e0 h0
      split
      · intro e h
        rcases List.mem_append.1 h with h | h
        · exact ih e h
        · obtain rfl := List.mem_singleton.1 h
          exact Or.inr (List.mem_of_getElem? h0)
      · exact ih
    · exact ih
/-- the indices that are kept, ascending -/
noncomputable def keptN (p : ProbD) : List Nat := (keepS (solvB p.vars) p.soft (p.hard ++ suppsE p) p.soft.length).2.reverse
def intsN (l : List Nat) : List Int := l.map fun (n : Nat) => (n : Int)
theorem intsN_len (l : List Nat) : (intsN l).length = l.length := by unfold intsN; rw [List.length_map]
theorem intsN_get {l : List Nat} {t : Nat} (h : t < l.length) (h' : t < (intsN l).length) : (intsN l)[t]'h' = ((l[t]'h : Nat) : Int) := by simp [intsN]
/-- what Kept returns -/
noncomputable def keptI (p : ProbD) : List Int := if pB (ProbOk p) = true ∧ solvB p.vars (p.hard ++ suppsE p) = true then intsN (keptN p) else []
noncomputable def keptErr (p : ProbD) : Int := if pB (ProbOk p) = true then (if solvB p.vars (p.hard ++ suppsE p) = true then 0 else 11) else 1
def KeptRet (p : ProbD) (w : World) (e : Ending) (w' : World) : Prop := ∃ a cap, e = .returned (.tuple #[.slice a (keptI p).length cap, .int .i64 (keptErr p)]) ∧ IntsIn w' (keptI p) a cap ∧ Below w.heap.size w w'
theorem rev_set {cur : List Value} {L : List Nat} {m t : Nat} (hc : cur.length = m) (hL : L.length = m) (ht : t < m) : (cur.take (m - t) ++ (L.take t).reverse.map natV).set (m - 1 - t) (natV (L[t]'(by omega))) = cur.take (m - (t + 1)) ++ (L.take (t + 1)).reverse.map natV := by
  have h1 : cur.take (m - t) = cur.take (m - 1 - t) ++ [cur[m - 1 - t]'(by omega)] := by
    rw [show m - t = (m - 1 - t) + 1 from by omega, List.take_succ_eq_append_getElem (by omega)]
  have h2 : (cur.take (m - 1 - t)).length = m - 1 - t := by simp; omega
  have h3 : (L.take (t + 1)).reverse = L[t]'(by omega) :: (L.take t).reverse := by rw [List.take_succ_eq_append_getElem (by omega), List.reverse_append]; rfl
  rw [h1, List.append_assoc, List.set_append_right _ _ (by omega), h2, Nat.sub_self, h3, show m - (t + 1) = m - 1 - t from by omega]
  rfl
/-- expressions that lie in some blocks -/
def ExsOff (S : Nat → Prop) (w : World) (l : List Ex) (a : Option Addr) (cap : Nat) : Prop := ∃ xs, xs.length = l.length * 4 ∧ ExRowOn S w l xs ∧ l.length ≤ cap ∧ l.length ≤ 1073741824 ∧ (l.length = 0 ∨ ∃ b off, a = some ⟨b, off, none⟩ ∧ S b ∧ ∀ j u, xs[j]? = some u → w.cell? ⟨b, off + j, none⟩ = some u)
theorem ExsOff.keep {S : Nat → Prop} {w w' : World} {l : List Ex} {a : Option Addr} {cap : Nat} (h : ExsOff S w l a cap) (hk : Agree S w w') : ExsOff S w' l a cap := by
  obtain ⟨xs, h1, h2, h3, h4, h5⟩ := h
  refine ⟨xs, h1, h2.keep hk, h3, h4, h5.imp id ?_⟩
  rintro ⟨b, off, h6, h7, h8⟩
  exact ⟨b, off, h6, h7, fun j u hu => hk ⟨b, off + j, none⟩ _ h7 (h8 j u hu)⟩
theorem ExsOff.narrow {S S' : Nat → Prop} {w : World} {l : List Ex} {a : Option Addr} {cap : Nat} (h : ExsOff S w l a cap) (hS : ∀ k, S k → k < w.heap.size → S' k) : ExsOff S' w l a cap := by
  obtain ⟨xs, h1, h2, h3, h4, h5⟩ := h
  refine ⟨xs, h1, h2.narrow hS, h3, h4, ?_⟩
  rcases h5 with h5 | ⟨b, off, h6, h7, h8⟩
  · exact Or.inl h5
  · by_cases h0 : l.length = 0
    · exact Or.inl h0
    · have h9 := h8 0 (xs[0]'(by omega)) (List.getElem?_eq_getElem (by omega))
      exact Or.inr ⟨b, off, h6, hS b h7 (World.block_lt_of_cell? _ _ h9), h8⟩
theorem ExsOff.ins {S : Nat → Prop} {w : World} {l : List Ex} {a : Option Addr} {cap : Nat} (h : ExsOff S w l a cap) : ExsIn w l a cap := by
  obtain ⟨xs, h1, h2, h3, h4, h5⟩ := h
  have hr := h2 w (fun _ _ _ hc => hc)
  refine ⟨h3, h4, ?_⟩
  rcases h5 with h5 | ⟨b, off, h6, h7, h8⟩
  · exact Or.inl h5
  · refine Or.inr ⟨b, off, h6, fun i hi => ?_⟩
    obtain ⟨a2, c2, q0, q1, q2, q3, q4⟩ := hr.2 i hi
    refine ⟨l[i], List.getElem?_eq_getElem hi, ?_⟩
    rw [ExAt_iff]
    exact ⟨a2, c2, by have := h8 _ _ q0; simpa using this, by have := h8 _ _ q1; simpa [Nat.add_assoc] using this, by have := h8 _ _ q2; simpa [Nat.add_assoc] using this, by have := h8 _ _ q3; simpa [Nat.add_assoc] using this, q4⟩
theorem ExsIn.off {w : World} {l : List Ex} {a : Option Addr} {cap : Nat} (h : ExsIn w l a cap) : ExsOff (· < w.heap.size) w l a cap := by
  obtain ⟨xs, h1, h2, _, h4⟩ := h.rowOn
  refine ⟨xs, h1, h2, h.1, h.2.1, ?_⟩
  rcases h4 with h5 | ⟨b, off, h6, h8⟩
  · exact Or.inl h5
  · by_cases h0 : l.length = 0
    · exact Or.inl h0
    · have h9 := h8 0 (xs[0]'(by omega)) (List.getElem?_eq_getElem (by omega))
      exact Or.inr ⟨b, off, h6, World.block_lt_of_cell? _ _ h9, h8⟩
theorem ExsOff.own {S : Nat → Prop} {w : World} {base : Nat} {l : List Ex} {xs : List Value} {v : Value} (h : w.ownsRow base 57 4 v l.length xs) (hr : ExRowOn S w l xs) (hS : ∀ g, v.ownBlock = some g → S g) (hn : l.length ≤ 1073741824) : ∃ a c, v = .slice a l.length c ∧ ExsOff S w l a c := by
  obtain ⟨a, c, hv, hs⟩ := slice_of_own h hn
  subst hv
  refine ⟨a, c, rfl, xs, h.1, hr, hs.1, hn, ?_⟩
  rcases hs.2.2 with h0 | ⟨b, off, ha, hq⟩
  · exact Or.inl h0
  · subst ha
    refine Or.inr ⟨b, off, rfl, hS b rfl, fun j u hu => ?_⟩
    have hj : j < xs.length := (List.getElem?_eq_some_iff.1 hu).1
    have h1 := hq (j / 4) (by have := h.1; omega) (j % 4) (by omega)
    rw [show off + j / 4 * 4 + j % 4 = off + j from by omega, show j / 4 * 4 + j % 4 = j from by omega] at h1
    exact h1.trans hu
/-- append without room, in a drawn region -/
theorem step_grow {P : Program} {w : World} {ops : Array Oper} {o : Oper} {a : Act} {K : Act → World → Prop} {Q : Exit → Act → World → Prop} {E : Prop} {t e : TypeId} {size : Nat} (he : Elem P t e size) (hgd : o.guard = none) (s x : Operand)
    (ho : o.op = .call { callee := .builtin .append, args := #[s, x], argTypes := #[t, t] })
    (ao : Option Addr) (n cap : Nat) (olds : List Value) (hs : a.eval s = .slice ao n cap) (hcap : cap = n) (hnone : n = 0 ∨ ∃ b off, ao = some ⟨b, off, none⟩ ∧ ∀ j u, olds[j]? = some u → w.cell? ⟨b, off + j, none⟩ = some u) (hlo : olds.length = n * size)
    (news : List Value) (m : Nat) (hl : news.length = m * size) (h1 : ∀ u ∈ news, u.oneCell' = true) (k c : Nat) (hx : a.eval x = .slice (some ⟨k, 0, none⟩) m c) (hk : w.heap[k]? = some (.cells news.toArray e (0, 0))) (hm : 0 < m) (hn : n + m ≤ 1073741824)
    (h : ∀ v' w', w'.ownsRow w.heap.size e size v' (n + m) (olds ++ news) → w.grownBy w' none → K (a.put o.dst v') w') :
    if Region.wanted o (yielded ops a.tmps) = true then Oper.wp P o a w K Q else E := by
  subst hcap
  obtain ⟨ht, i, z, bytes, hi, hz, hsz, hby, hzs, h0, hb⟩ := he
  refine step_append_grows hgd s x t ho e i z size bytes ht hi hz hsz hby hzs h0 ao cap cap olds hs ?_ hlo ?_ ⟨k, 0, none⟩ m c news hx hl ?_ h1 (by omega) (by unfold maxLen; omega) ?_ h
  · intro h9
    rcases hnone with h8 | ⟨b, off, h8, _⟩
    · exact ⟨h8, h8⟩
    · rw [h8] at h9; simp at h9
  · intro b hb9 j u hj
    rcases hnone with h8 | ⟨b', off, h8, h7⟩
    · have : olds = [] := List.eq_nil_of_length_eq_zero (by rw [hlo, h8]; simp)
      rw [this] at hj; simp at hj
    · rw [h8] at hb9
      obtain rfl := Option.some.inj hb9
      have := h7 j u hj
      unfold Addr.add
      split <;> simp_all
  · have := World.news_of_block hk
    simpa using this
  · calc (cap + m) * bytes ≤ 1073741824 * 1024 := Nat.mul_le_mul hn hb
      _ ≤ _ := by decide
end Go.Proofs.YtgdphjgedhadoaaGreatDoor

/- soft: Kept, the walk. -/
namespace Go.Proofs.YtgdphjgedhadoaaGreatDoor
open Go.RowKit
attribute [local go_sem ↓] Go.wp_at_zero Go.wp_at_succ

/-- expressions that solvable takes -/
def Rok (p : ProbD) (l : List Ex) : Prop := ∀ e, e ∈ l → ExprOk p.vars e ∧ e.nodes.length ≤ 1000000000
theorem keepS_rok {p : ProbD} {S : List Ex → Bool} {base : List Ex} (hb : Rok p base) (hs : Rok p p.soft) (k : Nat) : Rok p (keepS S p.soft base k).1 := fun e he => by
  rcases keepS_mem S p.soft base k e he with h | h
  · exact hb e h
  · exact hs e h
theorem Rok.snoc {p : ProbD} {l : List Ex} {e : Ex} (h : Rok p l) (he : ExprOk p.vars e ∧ e.nodes.length ≤ 1000000000) : Rok p (l ++ [e]) := fun e' h' => by
  rcases List.mem_append.1 h' with h1 | h1
  · exact h e' h1
  · rw [List.mem_singleton.1 h1]; exact he
theorem ExsIn.elt {w : World} {l : List Ex} {b off cap : Nat} (h : ExsIn w l (some ⟨b, off, none⟩) cap) {i : Nat} (hi : i < l.length) :
    ∃ a c, w.cell? ⟨b, off + i * 4, none⟩ = some (.int .i64 (l[i]'hi).op) ∧ w.cell? ⟨b, off + i * 4 + 1, none⟩ = some (.int .i64 (l[i]'hi).n) ∧ w.cell? ⟨b, off + i * 4 + 2, none⟩ = some (.string (l[i]'hi).name) ∧ w.cell? ⟨b, off + i * 4 + 3, none⟩ = some (.slice a (l[i]'hi).args.length c) ∧
      ∀ w', (∀ p v, w.cell? p = some v → w'.cell? p = some v) → ExRow w' [l[i]'hi] [.int .i64 (l[i]'hi).op, .int .i64 (l[i]'hi).n, .string (l[i]'hi).name, .slice a (l[i]'hi).args.length c] := by
  obtain ⟨a, c, g0, g1, g2, g3, hX⟩ := h.get rfl hi
  refine ⟨a, c, g0, g1, g2, g3, fun w' hk => ⟨rfl, fun j hj => ?_⟩⟩
  have hj' : j = 0 := by simp at hj; exact hj
  subst hj'
  exact ⟨a, c, rfl, rfl, rfl, rfl, hX.keep hk⟩
set_option maxRecDepth 100000 in
set_option maxHeartbeats 16000000 in
theorem Kept_any (p : ProbD) (x : ProbA) (w : World) (hE : ProbIn w p x) (hs : ProbSmall p) (hG : Glob w) (hT : ProbOk p → bitsTo p.vars p.vars.length ≤ 10) (hd : p.dists.length ≤ 1048576) (hh : p.hard.length ≤ 1000) (hso : p.soft.length ≤ 1000) (hsu : ProbOk p → Rok p (suppsE p)) :
    Calls Tryz.prog 32 #[probVal p x] w fun e w' => KeptRet p w e w' := by
  have HV0 := Lib.hid (fun W (hW : Below w.heap.size w W) => Valid_any p x W (hE.keep (keeps_of_below hW)) hs (hG.below hW))
  by_cases hp : ProbOk p
  · have HV1 := Lib.hid (fun W hW => errT (HV0.out W hW) hp)
    have HN0 := Lib.hid (fun W (hW : Below w.heap.size w W) => (needed_any p x W (hE.keep (keeps_of_below hW)) hs (hG.below hW) hp hd hh).mono (R' := fun e w' => ∃ a cap, e = .returned (.slice a (p.hard ++ suppsE p).length cap) ∧ ExsIn w' (p.hard ++ suppsE p) a cap ∧ Below W.heap.size W w') (fun e w' ⟨a, cap, h1, h2, h3⟩ => by
      obtain ⟨a', cap', hv, hI⟩ := h2.ins (by rw [List.length_append]; unfold suppsE; rw [List.length_map]; omega)
      injection hv with e1 e2 e3
      subst e1 e3
      exact ⟨a, cap, h1, hI, h3⟩))
    have HS0 := Lib.hid (fun l al cl W (hW : Below w.heap.size w W) (hL : ExsIn W l al cl) (hr : Rok p l) => solvable_any p x l al cl W (hE.keep (keeps_of_below hW)) hs hL (fun e he => (hr e he).2) (hG.below hW) hp (fun i h => (hr _ (List.getElem_mem h)).1) (hT hp))
    have HHr : Rok p p.hard := fun e he => ⟨by obtain ⟨i, hi, rfl⟩ := List.getElem_of_mem he; exact hp.hard i hi, hs.hard e he⟩
    have HSr : Rok p p.soft := fun e he => ⟨by obtain ⟨i, hi, rfl⟩ := List.getElem_of_mem he; exact hp.soft i hi, hs.soft e he⟩
    have HBr : Rok p (p.hard ++ suppsE p) := fun e he => by
      rcases List.mem_append.1 he with h | h
      · exact HHr e h
      · exact hsu hp e h
    have HKr := Lib.hid (fun k => keepS_rok (S := solvB p.vars) HBr HSr k)
    have HRn : Hid (solvB p.vars (p.hard ++ suppsE p) = false → ∀ w', Below w.heap.size w w' → KeptRet p w (.returned (.tuple #[.slice none 0 0, .int .i64 11])) w') := fun h w' hb => by
      have h1 : keptI p = [] := by unfold keptI; rw [if_neg (fun h2 => by rw [h] at h2; simp at h2)]
      have h2 : keptErr p = 11 := by unfold keptErr; rw [if_pos (pB_true hp), if_neg (by rw [h]; simp)]
      exact ⟨none, 0, by rw [h1, h2]; rfl, by rw [h1]; exact ⟨Nat.zero_le _, by decide, Or.inl rfl⟩, hb⟩
    have HRy : Hid (solvB p.vars (p.hard ++ suppsE p) = true → ∀ w' a cap, IntsIn w' (intsN (keptN p)) a cap → Below w.heap.size w w' → KeptRet p w (.returned (.tuple #[.slice a (keptN p).length cap, .int .i64 0])) w') := fun h w' a cap hI hb => by
      have h1 : keptI p = intsN (keptN p) := by unfold keptI; rw [if_pos ⟨pB_true hp, h⟩]
      have h2 : keptErr p = 0 := by unfold keptErr; rw [if_pos (pB_true hp), if_pos h]
      exact ⟨a, cap, by rw [h1, h2]; unfold intsN; rw [List.length_map], by rw [h1]; exact hI, hb⟩
    have HBl : Hid ((p.hard ++ suppsE p).length ≤ 1049576) := by show _ ≤ _; rw [List.length_append]; unfold suppsE; rw [List.length_map]; omega
    have HKN : Hid (keptN p = (keepS (solvB p.vars) p.soft (p.hard ++ suppsE p) p.soft.length).2.reverse) := rfl
    have HRx : Hid (Rok p (p.hard ++ suppsE p)) := HBr
    have HSx : Hid (∀ i (h : i < p.soft.length), ExprOk p.vars (p.soft[i]'h) ∧ (p.soft[i]'h).nodes.length ≤ 1000000000) := fun i h => HSr _ (List.getElem_mem h)
    have HSI := Lib.hid hE.soft
    generalize keptN p = KN at HKN HRy
    generalize p.hard ++ suppsE p = base at HN0 HKr HRn HRy HBl HKN HRx
    have HSf : Hid (∀ vs, vs = p.vars → solvB vs base = solvB vs base) := fun _ _ => rfl
    clear hE hs hG hp hT hd hsu HV0 HHr HSr HBr HSf
    simp only [probVal_eq] at HV1 HN0 HS0 ⊢
    generalize hSv : solvB p.vars = S at HS0 HKr HRn HRy HKN
    have HPr : Hid (∀ l e, Rok p l → ExprOk p.vars e ∧ e.nodes.length ≤ 1000000000 → Rok p (l ++ [e])) := fun l e h h' => h.snoc h'
    generalize hRk : Rok p = RK at HS0 HKr HRx HPr
    clear hSv hRk
    obtain ⟨vs, hard, soft, ds, gs⟩ := p
    obtain ⟨av, cv, ah, ch, ao, co, ad, cd, ag, cg⟩ := x
    simp only at HV1 HN0 HS0 HKr HKN HSx HSI HPr HRn HRy hh hso ⊢
    have HV := Lib.hid (HV1.out (w.alloc (.cells #[.slice av vs.length cv, .slice ah hard.length ch, .slice ao soft.length co, .slice ad ds.length cd, .slice ag gs.length cg] 27)) ((Below.refl _ _).alloc (Nat.le_refl _) _))
    clear HV1
    go_enter Tryz.func32, Tryz.ntmps32
    go_wp2_with fail
    refine HV.out.mono ?_
    rintro e w1 ⟨rfl, hb1⟩
    simp only [World.size_alloc] at hb1
    have HB1 := Lib.hid hb1
    have hz1 := hb1.size
    simp only [World.size_alloc] at hz1
    ((try clear b0 b1 b2 b3 b4); have b0 := box_cell HB1.out 0; have b1 := box_cell HB1.out 1; have b2 := box_cell HB1.out 2; have b3 := box_cell HB1.out 3; have b4 := box_cell HB1.out 4; (try simp at b0 b1 b2 b3 b4))
    have HN := Lib.hid (HN0.out w1 (boxW _ hb1))
    clear hb1 HN0
    go_wp2_with fail
    refine HN.out.mono ?_
    rintro e w2 ⟨ra, rc, rfl, hrI, hb2⟩
    have HB2 := Lib.hid (HB1.out.trans (hb2.mono (by omega)))
    have hz2 := HB2.out.size
    simp only [World.size_alloc] at hz2
    have HrI := Lib.hid hrI
    ((try clear b0 b1 b2 b3 b4); have b0 := box_cell HB2.out 0; have b1 := box_cell HB2.out 1; have b2 := box_cell HB2.out 2; have b3 := box_cell HB2.out 3; have b4 := box_cell HB2.out 4; (try simp at b0 b1 b2 b3 b4))
    have HS := Lib.hid (HS0.out base ra rc w2 (boxW _ HB2.out) hrI HRx.out)
    clear hb2 hrI
    go_wp2_with fail
    refine HS.out.mono ?_
    rintro e w3 ⟨rfl, hb3⟩
    have HB3 := Lib.hid (HB2.out.trans (hb3.mono (by omega)))
    have hz3 := HB3.out.size
    simp only [World.size_alloc] at hz3
    ((try clear b0 b1 b2 b3 b4); have b0 := box_cell HB3.out 0; have b1 := box_cell HB3.out 1; have b2 := box_cell HB3.out 2; have b3 := box_cell HB3.out 3; have b4 := box_cell HB3.out 4; (try simp at b0 b1 b2 b3 b4))
    have HrI3 := Lib.hid (HrI.out.keep (keeps_of_below hb3))
    clear hb3
    cases hsb : S base
    · have HF := Lib.hid (HRn.out hsb w3 (boxW _ HB3.out))
      clear HRn HRy
      go_wp2_with fail
      (try rw [Exit.noGoto_ret])
      go_ret2
      exact HF.out
    · have HF := Lib.hid (HRy.out hsb)
      clear HRn HRy hsb
      have hsw : IntKind.i64.wrap ((soft.length : Int) - 1) = (soft.length : Int) - 1 := by rw [IntKind.wrap_i64]; omega
      go_wp2_with fail
      go_loopw [4, 5, 6, 7] (fun r l i _ wr => ∃ (k : Nat) (iv : Int) (la : Option Addr) (lc : Nat) (rl : List Ex), i = .int .i64 iv ∧ iv + k + 1 = soft.length ∧ k ≤ soft.length ∧ r = .slice la rl.length lc ∧ Hid (rl = (keepS S soft base k).1) ∧ ExsOff (fun b => l.ownBlock ≠ some b) wr rl la lc ∧ wr.ownsRow (w.heap.size + 1) 3 1 l (keepS S soft base k).2.length ((keepS S soft base k).2.map natV) ∧ Below (w.heap.size + 1) (w.alloc (.cells #[.slice av vs.length cv, .slice ah hard.length ch, .slice ao soft.length co, .slice ad ds.length cd, .slice ag gs.length cg] 27)) wr) (fun _ _ i _ _ => (intOf i + 1).toNat)
      case atStart => exact ⟨0, _, ra, rc, base, rfl, by omega, Nat.zero_le _, rfl, rfl, HrI3.out.off.narrow (fun b _ _ h => by simp [Value.ownBlock] at h), World.ownsRow_nil _ _ _ _, HB3.out⟩
      case round =>
        obtain ⟨k, iv, la, lc, rl, rfl, hiv, hk, rfl, Hrl, hrI, hown, hB⟩ := hrel
        have HB := Lib.hid hB
        have HBw := Lib.hid (boxW _ hB)
        have HO := Lib.hid hown
        have HI := Lib.hid hrI
        have HLn := keepS_len S soft base k
        have hrlen : rl.length ≤ base.length + k := by rw [Hrl.out]; exact HLn.1
        have hbl := HBl.out
        have hzr := hB.size
        simp only [World.size_alloc] at hzr
        clear hB hown hrI
        ((try clear b0 b1 b2 b3 b4); have b0 := box_cell HB.out 0; have b1 := box_cell HB.out 1; have b2 := box_cell HB.out 2; have b3 := box_cell HB.out 3; have b4 := box_cell HB.out 4; (try simp at b0 b1 b2 b3 b4))
        by_cases hlt : k < soft.length
        · obtain ⟨j, rfl⟩ : ∃ j : Nat, iv = (j : Int) := ⟨iv.toNat, by omega⟩
          have hj : j < soft.length := by omega
          have hj0 : (0 : Int) ≤ (j : Int) := by omega
          obtain ⟨sb, so, hso2⟩ := HSI.out.addr.resolve_left (by omega)
          subst hso2
          obtain ⟨ea, ec, g0, g1, g2, g3, hX⟩ := HSI.out.elt hj
          have kk := keeps_of_below HBw.out
          have c0 := kk _ _ g0
          have c1 := kk _ _ g1
          have c2 := kk _ _ g2
          have c3 := kk _ _ g3
          have HRk := Lib.hid (HPr.out rl _ (by rw [Hrl.out]; exact HKr.out k) (HSx.out j hj))
          have HY := Lib.hid (fun h => keepS_yes (S := S) (base := base) (k := k) hj (by omega) h)
          have HNo := Lib.hid (fun h => keepS_no (S := S) (base := base) (k := k) hj (by omega) h)
          rw [← Hrl.out] at HY HNo
          generalize (soft[j]'hj) = e at c0 c1 c2 c3 hX HRk HY HNo
          obtain ⟨xs, hxl, hxr, hxcap, hxn, hxc⟩ := HI.out
          have hcap := hxn
          have Hxc : Hid (rl.length = 0 ∨ ∃ b off, la = some ⟨b, off, none⟩ ∧ ∀ j u, xs[j]? = some u → wr.cell? ⟨b, off + j, none⟩ = some u) := hxc.imp id (fun ⟨b, off, h1, _, h2⟩ => ⟨b, off, h1, h2⟩)
          have HEx : Hid (∀ W, Below wr.heap.size wr W → ExRowOn (fun b => u5.ownBlock ≠ some b) W (rl ++ [e]) (xs ++ [.int .i64 e.op, .int .i64 e.n, .string e.name, .slice ea e.args.length ec])) := fun W hW => (hxr.keep (agree_below hW)).append (fun w' hw' => hX w' (fun p v h => hw' p v (fun h9 => by
            have h8 := (HO.out.lt _ h9).1
            have h7 := World.block_lt_of_cell? _ _ h
            omega) (keeps_of_below hW _ _ (kk _ _ h))))
          have hrl : rl.length = 0 ∨ ∃ b off, la = some ⟨b, off, none⟩ := hxc.imp id (fun ⟨b, off, h1, _⟩ => ⟨b, off, h1⟩)
          clear g0 g1 g2 g3 hX kk hxr hxc
          go_wp2_with fail
          have Hxc' := Lib.hid (fun W (hW : Below wr.heap.size wr W) => (show rl.length = 0 ∨ ∃ b off, la = some ⟨b, off, none⟩ ∧ ∀ j u, xs[j]? = some u → W.cell? ⟨b, off + j, none⟩ = some u from by
            rcases Hxc.out with h | ⟨b, off, h1, h2⟩
            · exact Or.inl h
            · exact Or.inr ⟨b, off, h1, fun j u hu => keeps_of_below hW _ _ (h2 j u hu)⟩))
          have hxl' : xs.length = rl.length * 4 := hxl
          have hlcl : rl.length ≤ lc := hxcap
          go_region_law (refine step_grow elemEx (by rfl) (.tmp 33) (.tmp 39) (by rfl) la rl.length rl.length xs (by simp [Act.eval, Act.put]) rfl (Hxc'.out _ (by repeat (first | assumption | exact Below.refl _ _ | refine Below.drew ?_ | refine below_drewN ?_ _ | refine Below.alloc ?_ (by first | omega | (simp only [World.size_alloc, World.size_setCell, World.size_drew, World.heap_drewN] <;> omega) | (simp <;> omega)) _ | refine Below.setCell ?_ (by first | omega | (simp only [World.size_alloc, World.size_setCell, World.size_drew, World.heap_drewN] <;> omega) | (simp <;> omega)) _))) hxl' [.int .i64 e.op, .int .i64 e.n, .string e.name, .slice ea e.args.length ec] 1 (by rfl) (by simp [Value.oneCell']) _ 1 (by simp [Act.eval, Act.put]) (heap_alloc_new' _ _) (by omega) (by omega) ?_; intro v' w4 hown4 hg4)
          have hb4 : Below wr.heap.size wr w4 := Below.grown (B := wr.heap.size) (by first | exact (Below.refl _ _).alloc (Nat.le_refl _) _ | exact (by repeat (first | assumption | exact Below.refl _ _ | refine Below.drew ?_ | refine below_drewN ?_ _ | refine Below.alloc ?_ (by first | omega | (simp only [World.size_alloc, World.size_setCell, World.size_drew, World.heap_drewN] <;> omega) | (simp <;> omega)) _ | refine Below.setCell ?_ (by first | omega | (simp only [World.size_alloc, World.size_setCell, World.size_drew, World.heap_drewN] <;> omega) | (simp <;> omega)) _))) hg4 (by simp) (fun q hq => by cases hq)
          have hu5 : ∀ q, u5.ownBlock = some q → q < wr.heap.size := fun q hq => (HO.out.lt q hq).2
          have hbase4 := hown4.lt
          obtain ⟨ma, mc, rfl, hmI⟩ := ExsOff.own (l := rl ++ [e]) (by rw [List.length_append]; exact hown4) (HEx.out w4 hb4) (fun g hg h9 => by
            have h8 := (hbase4 g hg).1
            have h7 := hu5 g h9
            (try simp only [World.size_alloc, World.size_drew] at h8)
            omega) (by rw [List.length_append]; simp; omega)
          have HM4 := Lib.hid hmI
          have HB4 := Lib.hid (HB.out.trans (hb4.mono (by omega)))
          have HO4 := Lib.hid (ownsRow_below HO.out hb4)
          have HI4 := Lib.hid (HI.out.keep (agree_below hb4))
          have hz4 := HB4.out.size
          simp only [World.size_alloc] at hz4
          ((try clear b0 b1 b2 b3 b4); have b0 := box_cell HB4.out 0; have b1 := box_cell HB4.out 1; have b2 := box_cell HB4.out 2; have b3 := box_cell HB4.out 3; have b4 := box_cell HB4.out 4; (try simp at b0 b1 b2 b3 b4))
          have HS4 := Lib.hid (HS0.out (rl ++ [e]) ma mc w4 (boxW _ HB4.out) hmI.ins HRk.out)
          have hne : (rl ++ [e]).length = rl.length + 1 := by simp
          rw [hne] at HS4
          clear hown4 hg4 hb4 hmI HEx Hxc Hxc' hbase4
          cases hse : S (rl ++ [e])
          · rw [hse] at HS4
            have HNx := Lib.hid (HNo.out hse)
            clear hse HY HNo HRk
            go_wp2_with (go_at_call 66; (with_reducible refine HS4.out.mono ?_); rintro e5 w5 ⟨rfl, hb5⟩)
            go_roundw
            case rel => exact ⟨k + 1, (j : Int) - 1, la, lc, rl, by go_num, by omega, by omega, rfl, by rw [HNx.out]; exact Hrl.out, HI4.out.keep (agree_below hb5), by rw [HNx.out]; exact ownsRow_below HO4.out hb5, HB4.out.trans (hb5.mono (by omega))⟩
            case measure => (simp [intOf]; try omega)
          · rw [hse] at HS4
            have HNx := Lib.hid (HY.out hse)
            clear hse HY HNo HRk
            go_wp2_with (first | (go_at_call 66; (with_reducible refine HS4.out.mono ?_); rintro e5 w5 ⟨rfl, hb5⟩; have HO5 := Lib.hid (ownsRow_below HO4.out hb5); have HB5 := Lib.hid (HB4.out.trans (hb5.mono (by omega))); have hz5 := HB5.out.size; simp only [World.size_alloc] at hz5; have HM5 := Lib.hid (HM4.out.keep (agree_below hb5)); clear hb5) | (at_builtin; go_must (refine own_appx elemI _ rfl (.tmp 45) (.tmp 47) rfl (w.heap.size + 1) _ (keepS S soft base k).2.length _ rfl HO5.out [.int .i64 (j : Int)] 1 _ _ rfl (by simp [Value.oneCell']) rfl rfl (by omega) (by omega) (by omega) ?_)))
            intro g gcap w6 hown6 hg6 hat
            have HO6 := Lib.hid hown6
            have HB6 := Lib.hid (Below.grown (B := w.heap.size + 1) (HB5.out.alloc (by omega) _) hg6 (by simp; omega) (fun q hq => (HO5.out.lt q hq).1))
            have HM6 : Hid (ExsOff (fun b => (Value.slice (some ⟨g, 0, none⟩) ((keepS S soft base k).2.length + 1) gcap).ownBlock ≠ some b) w6 (rl ++ [e]) ma mc) := by
              refine (((HM5.out.narrow (S' := fun b => u5.ownBlock ≠ some b ∧ b < w5.heap.size) (fun b h1 h2 => ⟨h1, h2⟩)).keep (w' := w6) (fun p u hp hc => ?_)).narrow (fun b h1 _ h9 => ?_))
              · have h3 : (w5.alloc (.cells [Value.int .i64 (j : Int)].toArray 3)).cell? p = some u := (World.cell?_alloc_lt _ _ _ hp.2).trans hc
                rw [World.cell?_of_block (hg6.block p.block (by simp; have := hp.2; omega) (fun h9 => hp.1 h9.symm))]
                exact h3
              · have h4 : g = b := by simpa [Value.ownBlock] using h9
                subst h4
                rcases hat with h5 | h5
                · exact h1.1 h5
                · have := h1.2; omega
            clear hown6 hg6 hat
            go_wp2_with fail
            go_roundw
            case rel => exact ⟨k + 1, (j : Int) - 1, ma, mc, rl ++ [e], by go_num, by omega, by omega, by rw [hne], (show _ = _ by rw [HNx.out]), HM6.out, by rw [HNx.out]; simp only [List.length_append, List.map_append]; exact HO6.out, HB6.out⟩
            case measure => (simp [intOf]; try omega)
        · rename World => w7
          obtain rfl : k = soft.length := by omega
          obtain rfl : iv = -1 := by omega
          have HKe := Lib.hid HKN.out
          generalize (keepS S soft base soft.length).2 = L at HO HKe HLn
          have hcst : L.map natV = (intsN L).map (Value.int .i64) := by unfold intsN; rw [List.map_map]; rfl
          have hLl : (intsN L).length = L.length := by unfold intsN; rw [List.length_map]
          have hO := HO.out
          rw [hcst, ← hLl] at hO
          obtain ⟨va, vc, rfl, hvI⟩ := ints_of_own hO (by rw [hLl]; omega)
          rw [hLl]
          have HvI := Lib.hid hvI
          have hL16 := HLn.2
          clear hO hvI hcst HLn HI Hrl hrlen HKr HRx HPr HSx
          have hmw : IntKind.i64.wrap ((L.length : Int) - 1) = (L.length : Int) - 1 := by rw [IntKind.wrap_i64]; omega
          go_wp2_with (at_make; go_must (refine make_blk elemI rfl (.tmp 50) (.tmp 50) rfl L.length _ rfl rfl (by simp) (by omega) ?_))
          intro cur hcur
          have hcur : cur.length = L.length := by simpa using hcur
          have HoA : Hid ((w7.alloc (.cells cur.toArray 3)).ownsRow w7.heap.size 3 1 (.slice (some ⟨w7.heap.size, 0, none⟩) L.length L.length) L.length cur) := ⟨by omega, Or.inr ⟨w7.heap.size, L.length, _, rfl, Nat.le_refl _, heap_alloc_new' _ _, Nat.le_refl _, by unfold maxLen; omega, by simp [hcur], by simp only []; exact List.take_of_length_le (by omega)⟩⟩
          have HBA : Hid (Below w7.heap.size w7 (w7.alloc (.cells cur.toArray 3))) := (Below.refl _ _).alloc (Nat.le_refl _) _
          generalize w7.alloc (.cells cur.toArray 3) = wA at HoA HBA ⊢
          go_wp2_with fail
          go_loopw [54, 9, 10] (fun i _ _ wq => ∃ t : Nat, i = .int .i64 t ∧ t ≤ L.length ∧ wq.ownsRow w7.heap.size 3 1 (.slice (some ⟨w7.heap.size, 0, none⟩) L.length L.length) L.length (cur.take (L.length - t) ++ (L.take t).reverse.map natV) ∧ Below w7.heap.size w7 wq) (fun i _ _ _ => L.length - (intOf i).toNat)
          case atStart => exact ⟨0, rfl, Nat.zero_le _, by rw [Nat.sub_zero, List.take_of_length_le (by omega)]; simpa using HoA.out, HBA.out⟩
          case round =>
            obtain ⟨t, rfl, ht, hown, hB⟩ := hrel
            have Hq := Lib.hid hB
            by_cases htl : t < L.length
            · obtain ⟨vb, vo, hva⟩ := HvI.out.addr.resolve_left (by rw [hLl]; omega)
              subst hva
              have hlt9 : t < (intsN L).length := by rw [hLl]; exact htl
              have c0 := (keeps_of_below hB) _ _ (intsIn_get HvI.out rfl hlt9)
              have e0 : (intsN L)[t]'hlt9 = ((L[t]'htl : Nat) : Int) := intsN_get htl hlt9
              rw [e0] at c0
              have HSet := Lib.hid (rev_set (cur := cur) (L := L) (m := L.length) hcur rfl htl)
              generalize L[t]'htl = u at c0 HSet
              obtain ⟨d, hd⟩ : ∃ d : Nat, d + t + 1 = L.length := ⟨L.length - 1 - t, by omega⟩
              rw [show L.length - 1 - t = d from by omega] at HSet
              have hxd : d < (cur.take (L.length - t) ++ (L.take t).reverse.map natV).length := by simp; omega
              have hcz := hown.cellAt d (by omega)
              rw [List.getElem?_eq_getElem hxd] at hcz
              have hfz := hown.frozenAt d
              have HSt := Lib.hid (hown.stored d (.int .i64 u)).1
              rw [show (Value.int .i64 (u : Int)) = natV u from rfl, HSet.out] at HSt
              have hw2 : IntKind.i64.wrap ((L.length : Int) - 1 - (t : Int)) = (d : Int) := by rw [IntKind.wrap_i64]; omega
              have hd0 : (0 : Int) ≤ (d : Int) := by omega
              have hdl : (d : Int) < (L.length : Int) := by omega
              generalize (cur.take (L.length - t) ++ (L.take t).reverse.map natV)[d]'hxd = old at hcz
              clear hown hB HSet hxd e0
              go_wp2_with fail
              go_roundw
              case rel => exact ⟨t + 1, by go_num, by omega, HSt.out, Below.setCell (p := ⟨w7.heap.size, d, none⟩) Hq.out (Nat.le_refl _) _⟩
              case measure => (simp [intOf]; try omega)
            · obtain rfl : t = L.length := by omega
              have hKL : KN = L.reverse := HKe.out
              have HFn : Hid (KeptRet { vars := vs, hard := hard, soft := soft, dists := ds, groups := gs } w (Ending.returned (Value.tuple #[.slice (some ⟨w7.heap.size, 0, none⟩) L.length L.length, .int .i64 0])) wr) := by
                have hrl : L.reverse.length = L.length := List.length_reverse
                rw [Nat.sub_self, List.take_zero, List.nil_append, List.take_of_length_le (Nat.le_refl _), show L.reverse.map natV = (intsN L.reverse).map (Value.int .i64) from by unfold intsN; rw [List.map_map]; rfl] at hown
                have hl2 : (intsN L.reverse).length = L.length := by rw [intsN_len, hrl]
                rw [← hl2] at hown
                obtain ⟨oa, oc, hov, hoI⟩ := ints_of_own hown (by rw [hl2]; omega)
                injection hov with e1 e2 e3
                subst e1 e3
                have h := HF.out wr _ _ (by rw [hKL]; exact hoI) (HBw.out.trans (hB.mono HBw.out.size))
                rw [hKL, hrl, hl2] at h
                exact h
              clear hown hB
              go_wp2_with fail
              (try rw [Exit.noGoto_ret])
              go_ret2
              exact HFn.out
  · have HV1 := Lib.hid (fun W hW => errF (HV0.out W hW) hp)
    have HRn : Hid (∀ w', Below w.heap.size w w' → KeptRet p w (.returned (.tuple #[.slice none 0 0, .int .i64 1])) w') := fun w' hb => by
      have h1 : keptI p = [] := by unfold keptI; rw [if_neg (fun h2 => by rw [pB_false hp] at h2; simp at h2)]
      have h2 : keptErr p = 1 := by unfold keptErr; rw [if_neg (by rw [pB_false hp]; simp)]
      exact ⟨none, 0, by rw [h1, h2]; rfl, by rw [h1]; exact ⟨Nat.zero_le _, by decide, Or.inl rfl⟩, hb⟩
    simp only [probVal_eq] at HV1 ⊢
    clear HV0 hsu hT hE hs hp
    obtain ⟨vs, hard, soft, ds, gs⟩ := p
    obtain ⟨av, cv, ah, ch, ao, co, ad, cd, ag, cg⟩ := x
    simp only at HV1 HRn ⊢
    have HV := Lib.hid (HV1.out (w.alloc (.cells #[.slice av vs.length cv, .slice ah hard.length ch, .slice ao soft.length co, .slice ad ds.length cd, .slice ag gs.length cg] 27)) ((Below.refl _ _).alloc (Nat.le_refl _) _))
    clear HV1
    go_enter Tryz.func32, Tryz.ntmps32
    go_wp2_with fail
    refine HV.out.mono ?_
    rintro e w1 ⟨⟨n, rfl, hn⟩, hb1⟩
    have HF := Lib.hid (HRn.out w1 (boxW _ (by simpa using hb1)))
    clear hb1 HRn
    go_wp2_with fail
    (try rw [Exit.noGoto_ret])
    go_ret2
    exact HF.out
end Go.Proofs.YtgdphjgedhadoaaGreatDoor
