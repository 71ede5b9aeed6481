/- The texts of expressions, read again: a plain reader, its rules. -/
import Derived.Test.YtihegbjlgpghbaaGreatDoorEM
import Derived.Test.YtihegbjlgpghbaaGreatDoorEO
set_option linter.unusedSimpArgs false
set_option linter.unusedVariables false
set_option linter.unnecessarySimpa false
namespace Go.Proofs.YtihegbjlgpghbaaGreatDoor

def bx (s : ByteArray) : List UInt8 := s.data.toList
theorem bx_app (a b : ByteArray) : bx (a ++ b) = bx a ++ bx b := by unfold bx; rw [ByteArray.data_append, Array.toList_append]
theorem bx_mk (l : List UInt8) : bx ⟨l.toArray⟩ = l := rfl
theorem bx_inj {a b : ByteArray} (h : bx a = bx b) : a = b := ByteArray.ext (Array.toList_inj.1 h)
def wordOf (s : List UInt8) : List UInt8 := s.takeWhile (fun c => c != 32)
def afterW (s : List UInt8) : List UInt8 := s.dropWhile (fun c => c != 32)
def opW (w : List UInt8) : Option (Int × Int) := (opsL.find? fun p => bx p.1 == w).map (·.2)
def kIns : List UInt8 := [105, 110, 115, 105, 100, 101]
def lvlW (w : List UInt8) : Option Int := if w = [63] then some 1 else if w = kIns then some 9 else (opW w).map (·.2)
def headL : List UInt8 → Option Int
  | [] => none
  | c :: s => if c = 32 then lvlW (wordOf s) else none
def numV (l : List UInt8) : Nat := l.foldl (fun a c => a * 10 + (c.toNat - 48)) 0
def kOnes : List UInt8 := [111, 110, 101, 115]
mutual
def un : Nat → List UInt8 → Option (Ex × List UInt8)
  | 0, _ => none
  | f + 1, s =>
    if s.head? = some 40 then
      match ex f 1 (s.drop 1) with
      | none => none
      | some p => if p.2.head? = some 41 then some (p.1, p.2.drop 1) else none
    else if s.head? = some 33 then (un f (s.drop 1)).map fun p => (.mk 4 0 .empty [p.1], p.2)
    else if s.head? = some 126 then (un f (s.drop 1)).map fun p => (.mk 5 0 .empty [p.1], p.2)
    else if s.head? = some 45 then (un f (s.drop 1)).map fun p => (.mk 6 0 .empty [p.1], p.2)
    else if (s.head?.map fun c => digB c.toNat) = some true then some (.mk 1 (numV (s.takeWhile innerB)) .empty [], s.dropWhile innerB)
    else if (s.dropWhile innerB).head? = some 40 then
      match ex f 1 ((s.dropWhile innerB).drop 1) with
      | none => none
      | some p => if p.2.head? = some 41 then some (.mk 25 0 .empty [p.1], p.2.drop 1) else none
    else some (.mk 2 0 ⟨(s.takeWhile innerB).toArray⟩ [], s.dropWhile innerB)
def ex : Nat → Int → List UInt8 → Option (Ex × List UInt8)
  | 0, _, _ => none
  | f + 1, L, s =>
    match un f s with
    | none => none
    | some p => loopE f L p.1 p.2
def loopE : Nat → Int → Ex → List UInt8 → Option (Ex × List UInt8)
  | 0, _, _, _ => none
  | f + 1, L, e, s =>
    match headL s with
    | none => some (e, s)
    | some l =>
      if l < L then some (e, s)
      else if wordOf (s.drop 1) = [63] then
        match ex f 1 ((afterW (s.drop 1)).drop 1) with
        | none => none
        | some p =>
          if p.2.take 3 = [32, 58, 32] then
            match ex f 1 (p.2.drop 3) with
            | none => none
            | some q => loopE f L (.mk 22 0 .empty [e, p.1, q.1]) q.2
          else none
      else if wordOf (s.drop 1) = kIns then
        match items f ((afterW (s.drop 1)).drop 3) with
        | none => none
        | some p => loopE f L (.mk 23 0 .empty (e :: p.1)) p.2
      else
        match opW (wordOf (s.drop 1)) with
        | none => none
        | some o =>
          match ex f (rgtL o.2) ((afterW (s.drop 1)).drop 1) with
          | none => none
          | some p => loopE f L (.mk o.1 0 .empty [e, p.1]) p.2
def items : Nat → List UInt8 → Option (List Ex × List UInt8)
  | 0, _ => none
  | f + 1, s =>
    match ex f 1 s with
    | none => none
    | some p =>
      if p.2.take 4 = [32, 46, 46, 32] then
        match ex f 1 (p.2.drop 4) with
        | none => none
        | some q =>
          if q.2.take 2 = [44, 32] then (items f (q.2.drop 2)).map fun r => (p.1 :: q.1 :: r.1, r.2)
          else if q.2.take 2 = [32, 125] then some ([p.1, q.1], q.2.drop 2)
          else none
      else none
end
/-- from some fuel on -/
def EvU (s : List UInt8) (z : Ex × List UInt8) : Prop := ∃ F, ∀ f, F ≤ f → un f s = some z
def EvE (L : Int) (s : List UInt8) (z : Ex × List UInt8) : Prop := ∃ F, ∀ f, F ≤ f → ex f L s = some z
def EvL (L : Int) (e : Ex) (s : List UInt8) (z : Ex × List UInt8) : Prop := ∃ F, ∀ f, F ≤ f → loopE f L e s = some z
def EvI (s : List UInt8) (z : List Ex × List UInt8) : Prop := ∃ F, ∀ f, F ≤ f → items f s = some z
theorem EvE.det {L : Int} {s : List UInt8} {z z' : Ex × List UInt8} (h : EvE L s z) (h' : EvE L s z') : z = z' := by
  obtain ⟨F, h⟩ := h
  obtain ⟨F', h'⟩ := h'
  exact Option.some.inj ((h (F + F') (by omega)).symm.trans (h' (F + F') (by omega)))
theorem succ_of {f F : Nat} (h : F + 1 ≤ f) : ∃ g, f = g + 1 ∧ F ≤ g := ⟨f - 1, by omega, by omega⟩
theorem EvE.mk {L : Int} {s t : List UInt8} {e : Ex} {z : Ex × List UInt8} (h : EvU s (e, t)) (h' : EvL L e t z) : EvE L s z := by
  obtain ⟨F, h⟩ := h
  obtain ⟨F', h'⟩ := h'
  refine ⟨F + F' + 1, fun f hf => ?_⟩
  obtain ⟨g, rfl, hg⟩ := succ_of hf
  rw [ex, h g (by omega)]
  exact h' g (by omega)
theorem EvL.stop {L : Int} {e : Ex} {s : List UInt8} (h : ∀ l, headL s = some l → l < L) : EvL L e s (e, s) := by
  refine ⟨1, fun f hf => ?_⟩
  obtain ⟨g, rfl, hg⟩ := succ_of (F := 0) hf
  rw [loopE]
  cases hl : headL s with
  | none => rfl
  | some l => simp only [if_pos (h l hl)]
theorem word_app {w t : List UInt8} (h : (32 : UInt8) ∉ w) : wordOf (w ++ 32 :: t) = w ∧ afterW (w ++ 32 :: t) = 32 :: t := by
  induction w with
  | nil => exact ⟨rfl, rfl⟩
  | cons c w ih =>
    simp only [List.mem_cons, not_or] at h
    have hc : (c != 32) = true := by simpa [bne_iff_ne] using fun e : c = 32 => h.1 e.symm
    obtain ⟨h1, h2⟩ := ih h.2
    unfold wordOf at h1 ⊢
    unfold afterW at h2 ⊢
    rw [List.cons_append, List.takeWhile_cons, List.dropWhile_cons, if_pos hc, if_pos hc, h1, h2]
    exact ⟨rfl, rfl⟩
theorem head_app {w t : List UInt8} (h : (32 : UInt8) ∉ w) : headL (32 :: (w ++ 32 :: t)) = lvlW w := by
  show (if (32 : UInt8) = 32 then lvlW (wordOf (w ++ 32 :: t)) else none) = lvlW w
  rw [if_pos rfl, (word_app h).1]
theorem EvL.bin {L : Int} {e y : Ex} {w t v : List UInt8} {o l : Int} {z : Ex × List UInt8} (hw : (32 : UInt8) ∉ w) (h1 : w ≠ [63]) (h2 : w ≠ kIns) (ho : opW w = some (o, l)) (hL : L ≤ l) (h : EvE (rgtL l) t (y, v)) (h' : EvL L (.mk o 0 .empty [e, y]) v z) :
    EvL L e (32 :: (w ++ 32 :: t)) z := by
  obtain ⟨F, h⟩ := h
  obtain ⟨F', h'⟩ := h'
  refine ⟨F + F' + 1, fun f hf => ?_⟩
  obtain ⟨g, rfl, hg⟩ := succ_of hf
  have hh : headL (32 :: (w ++ 32 :: t)) = some l := by
    rw [head_app hw]
    unfold lvlW
    rw [if_neg h1, if_neg h2, ho]
    rfl
  rw [loopE, hh]
  simp only [List.drop_succ_cons, List.drop_zero, (word_app hw).1, (word_app hw).2, if_neg h1, if_neg h2, ho, if_neg (Int.not_lt.2 hL), h g (by omega)]
  exact h' g (by omega)
theorem EvL.ite {L : Int} {e a b : Ex} {t u v : List UInt8} {z : Ex × List UInt8} (hL : L ≤ 1) (h : EvE 1 t (a, 32 :: 58 :: 32 :: u)) (h2 : EvE 1 u (b, v)) (h' : EvL L (.mk 22 0 .empty [e, a, b]) v z) :
    EvL L e (32 :: 63 :: 32 :: t) z := by
  obtain ⟨F, h⟩ := h
  obtain ⟨F2, h2⟩ := h2
  obtain ⟨F', h'⟩ := h'
  refine ⟨F + F2 + F' + 1, fun f hf => ?_⟩
  obtain ⟨g, rfl, hg⟩ := succ_of hf
  have hw : (32 : UInt8) ∉ ([63] : List UInt8) := by decide
  have hh : headL (32 :: 63 :: 32 :: t) = some 1 := head_app hw
  have e1 : wordOf (63 :: 32 :: t) = [63] := (word_app hw).1
  have e2 : afterW (63 :: 32 :: t) = 32 :: t := (word_app hw).2
  rw [loopE, hh]
  simp only [List.drop_succ_cons, List.drop_zero, e1, e2, if_neg (Int.not_lt.2 hL), if_true, h g (by omega), List.take_succ_cons, List.take_zero, h2 g (by omega)]
  exact h' g (by omega)
theorem EvL.ins {L : Int} {e : Ex} {xs : List Ex} {t v : List UInt8} {z : Ex × List UInt8} (hL : L ≤ 9) (h : EvI t (xs, v)) (h' : EvL L (.mk 23 0 .empty (e :: xs)) v z) :
    EvL L e (32 :: (kIns ++ 32 :: 123 :: 32 :: t)) z := by
  obtain ⟨F, h⟩ := h
  obtain ⟨F', h'⟩ := h'
  refine ⟨F + F' + 1, fun f hf => ?_⟩
  obtain ⟨g, rfl, hg⟩ := succ_of hf
  have hw : (32 : UInt8) ∉ kIns := by decide
  have hn : ¬ kIns = [63] := by decide
  have hh : headL (32 :: (kIns ++ 32 :: 123 :: 32 :: t)) = some 9 := head_app hw
  rw [loopE, hh]
  simp only [List.drop_succ_cons, List.drop_zero, (word_app hw).1, (word_app hw).2, if_neg (Int.not_lt.2 hL), if_neg hn, if_true, h g (by omega)]
  exact h' g (by omega)
theorem EvI.one {s u v : List UInt8} {a b : Ex} (h : EvE 1 s (a, 32 :: 46 :: 46 :: 32 :: u)) (h2 : EvE 1 u (b, 32 :: 125 :: v)) : EvI s ([a, b], v) := by
  obtain ⟨F, h⟩ := h
  obtain ⟨F2, h2⟩ := h2
  refine ⟨F + F2 + 1, fun f hf => ?_⟩
  obtain ⟨g, rfl, hg⟩ := succ_of hf
  have hn : ¬ ([32, 125] : List UInt8) = [44, 32] := by decide
  rw [items, h g (by omega)]
  simp only [List.drop_succ_cons, List.drop_zero, List.take_succ_cons, List.take_zero, if_true, h2 g (by omega), if_neg hn]
theorem EvI.more {s u v w : List UInt8} {a b : Ex} {xs : List Ex} (h : EvE 1 s (a, 32 :: 46 :: 46 :: 32 :: u)) (h2 : EvE 1 u (b, 44 :: 32 :: v)) (h3 : EvI v (xs, w)) : EvI s (a :: b :: xs, w) := by
  obtain ⟨F, h⟩ := h
  obtain ⟨F2, h2⟩ := h2
  obtain ⟨F3, h3⟩ := h3
  refine ⟨F + F2 + F3 + 1, fun f hf => ?_⟩
  obtain ⟨g, rfl, hg⟩ := succ_of hf
  rw [items, h g (by omega)]
  simp only [List.drop_succ_cons, List.drop_zero, List.take_succ_cons, List.take_zero, if_true, h2 g (by omega), h3 g (by omega), Option.map_some]
theorem EvU.par {s u : List UInt8} {e : Ex} (h : EvE 1 s (e, 41 :: u)) : EvU (40 :: s) (e, u) := by
  obtain ⟨F, h⟩ := h
  refine ⟨F + 1, fun f hf => ?_⟩
  obtain ⟨g, rfl, hg⟩ := succ_of hf
  rw [un]
  simp only [List.head?_cons, if_true, List.drop_succ_cons, List.drop_zero, h g (by omega)]
theorem EvU.pre4 {s u : List UInt8} {e : Ex} (h : EvU s (e, u)) : EvU (33 :: s) (.mk 4 0 .empty [e], u) := by
  obtain ⟨F, h⟩ := h
  refine ⟨F + 1, fun f hf => ?_⟩
  obtain ⟨g, rfl, hg⟩ := succ_of hf
  have n1 : ¬ some (33 : UInt8) = some 40 := by decide
  rw [un]
  simp only [List.head?_cons, if_true, if_neg n1, List.drop_succ_cons, List.drop_zero, h g (by omega), Option.map_some]
theorem EvU.pre5 {s u : List UInt8} {e : Ex} (h : EvU s (e, u)) : EvU (126 :: s) (.mk 5 0 .empty [e], u) := by
  obtain ⟨F, h⟩ := h
  refine ⟨F + 1, fun f hf => ?_⟩
  obtain ⟨g, rfl, hg⟩ := succ_of hf
  have n1 : ¬ some (126 : UInt8) = some 40 := by decide
  have n2 : ¬ some (126 : UInt8) = some 33 := by decide
  rw [un]
  simp only [List.head?_cons, if_true, if_neg n1, if_neg n2, List.drop_succ_cons, List.drop_zero, h g (by omega), Option.map_some]
theorem EvU.pre6 {s u : List UInt8} {e : Ex} (h : EvU s (e, u)) : EvU (45 :: s) (.mk 6 0 .empty [e], u) := by
  obtain ⟨F, h⟩ := h
  refine ⟨F + 1, fun f hf => ?_⟩
  obtain ⟨g, rfl, hg⟩ := succ_of hf
  have n1 : ¬ some (45 : UInt8) = some 40 := by decide
  have n2 : ¬ some (45 : UInt8) = some 33 := by decide
  have n3 : ¬ some (45 : UInt8) = some 126 := by decide
  rw [un]
  simp only [List.head?_cons, if_true, if_neg n1, if_neg n2, if_neg n3, List.drop_succ_cons, List.drop_zero, h g (by omega), Option.map_some]
/-- what does not go on a name -/
def Nc (r : List UInt8) : Prop := ∀ c, r.head? = some c → innerB c = false ∧ c ≠ 40
theorem span_app {l r : List UInt8} (hl : l.all innerB = true) (hr : Nc r) : (l ++ r).takeWhile innerB = l ∧ (l ++ r).dropWhile innerB = r := by
  induction l with
  | nil =>
    cases r with
    | nil => exact ⟨rfl, rfl⟩
    | cons c r =>
      have := (hr c rfl).1
      simp [List.takeWhile_cons, List.dropWhile_cons, this]
  | cons c l ih =>
    rw [List.all_cons, Bool.and_eq_true] at hl
    obtain ⟨h1, h2⟩ := ih hl.2
    rw [List.cons_append, List.takeWhile_cons, List.dropWhile_cons, if_pos hl.1, if_pos hl.1, h1, h2]
    exact ⟨rfl, rfl⟩
theorem EvU.con {l r : List UInt8} {c : UInt8} (hd : digB c.toNat = true) (hl : (c :: l).all innerB = true) (hr : Nc r) : EvU (c :: l ++ r) (.mk 1 (numV (c :: l)) .empty [], r) := by
  refine ⟨1, fun f hf => ?_⟩
  obtain ⟨g, rfl, hg⟩ := succ_of (F := 0) hf
  have hne : ∀ x : UInt8, digB x.toNat = false → ¬ some c = some x := fun x hx e => by
    rw [Option.some.inj e, hx] at hd; simp at hd
  rw [un, (span_app hl hr).1, (span_app hl hr).2]
  simp only [List.cons_append, List.head?_cons, if_neg (hne 40 (by decide)), if_neg (hne 33 (by decide)), if_neg (hne 126 (by decide)), if_neg (hne 45 (by decide)), Option.map_some, hd, if_true]
theorem low_ne {c : UInt8} (h : lowB c.toNat = true) : (∀ x : UInt8, lowB x.toNat = false → ¬ some c = some x) ∧ ¬ (some (digB c.toNat) = some true) := by
  refine ⟨fun x hx e => by rw [Option.some.inj e, hx] at h; simp at h, fun e => ?_⟩
  have := Option.some.inj e
  unfold lowB at h
  unfold digB at this
  simp only [Bool.and_eq_true, decide_eq_true_eq] at h this
  omega
theorem EvU.var {l r : List UInt8} {c : UInt8} (hd : lowB c.toNat = true) (hl : (c :: l).all innerB = true) (hr : Nc r) : EvU (c :: l ++ r) (.mk 2 0 ⟨(c :: l).toArray⟩ [], r) := by
  refine ⟨1, fun f hf => ?_⟩
  obtain ⟨g, rfl, hg⟩ := succ_of (F := 0) hf
  obtain ⟨hne, hnd⟩ := low_ne hd
  have h40 : ¬ r.head? = some 40 := fun h => (hr _ h).2 rfl
  rw [un, (span_app hl hr).1, (span_app hl hr).2]
  simp only [List.cons_append, List.head?_cons, if_neg (hne 40 (by decide)), if_neg (hne 33 (by decide)), if_neg (hne 126 (by decide)), if_neg (hne 45 (by decide)), Option.map_some, if_neg hnd, if_neg h40]
theorem EvU.ones {s u : List UInt8} {e : Ex} (h : EvE 1 s (e, 41 :: u)) : EvU (111 :: 110 :: 101 :: 115 :: 40 :: s) (.mk 25 0 .empty [e], u) := by
  obtain ⟨F, h⟩ := h
  refine ⟨F + 1, fun f hf => ?_⟩
  obtain ⟨g, rfl, hg⟩ := succ_of hf
  have n1 : ¬ some (111 : UInt8) = some 40 := by decide
  have n2 : ¬ some (111 : UInt8) = some 33 := by decide
  have n3 : ¬ some (111 : UInt8) = some 126 := by decide
  have n4 : ¬ some (111 : UInt8) = some 45 := by decide
  have n5 : ¬ some (digB (111 : UInt8).toNat) = some true := by decide
  have i1 : innerB 111 = true := by decide
  have i2 : innerB 110 = true := by decide
  have i3 : innerB 101 = true := by decide
  have i4 : innerB 115 = true := by decide
  have i5 : ¬ innerB 40 = true := by decide
  have hdw : (111 :: 110 :: 101 :: 115 :: 40 :: s).dropWhile innerB = 40 :: s := by
    rw [List.dropWhile_cons, if_pos i1, List.dropWhile_cons, if_pos i2, List.dropWhile_cons, if_pos i3, List.dropWhile_cons, if_pos i4, List.dropWhile_cons, if_neg i5]
  rw [un, hdw]
  simp only [List.head?_cons, if_neg n1, if_neg n2, if_neg n3, if_neg n4, Option.map_some, if_neg n5, if_true, List.drop_succ_cons, List.drop_zero, h g (by omega)]
end Go.Proofs.YtihegbjlgpghbaaGreatDoor

/- The texts of expressions, read again: the expression comes back. -/
namespace Go.Proofs.YtihegbjlgpghbaaGreatDoor

/-! ### the numbers -/
theorem num_snoc (l : List UInt8) (c : UInt8) : numV (l ++ [c]) = numV l * 10 + (c.toNat - 48) := by unfold numV; rw [List.foldl_append]; rfl
theorem dig_byte {d : Nat} (h : d < 10) : (UInt8.ofNat (48 + d)).toNat = 48 + d := by
  rw [UInt8.toNat_ofNat']
  omega
theorem dig_ok {d : Nat} (h : d < 10) : digB (UInt8.ofNat (48 + d)).toNat = true ∧ innerB (UInt8.ofNat (48 + d)) = true := by
  have h1 : digB (UInt8.ofNat (48 + d)).toNat = true := by rw [dig_byte h]; unfold digB; simp; omega
  refine ⟨h1, ?_⟩
  unfold innerB follB
  rw [h1]
  simp
theorem dec_ok (u : Nat) : numV (Lib.decDigits u) = u ∧ (Lib.decDigits u).all innerB = true ∧ ∃ c l, Lib.decDigits u = c :: l ∧ digB c.toNat = true := by
  induction u using Nat.strongRecOn with
  | _ u ih =>
    rw [Lib.decDigits]
    by_cases h : u < 10
    · rw [dif_pos h]
      obtain ⟨h1, h2⟩ := dig_ok h
      refine ⟨?_, by rw [List.all_cons, h2]; rfl, _, _, rfl, h1⟩
      show 0 * 10 + ((UInt8.ofNat (48 + u)).toNat - 48) = u
      rw [dig_byte h]
      omega
    · rw [dif_neg h]
      obtain ⟨a1, a2, c, l, a3, a4⟩ := ih (u / 10) (by omega)
      have hm : u % 10 < 10 := by omega
      obtain ⟨h1, h2⟩ := dig_ok hm
      refine ⟨?_, by rw [List.all_append, a2, List.all_cons, h2]; rfl, c, l ++ [UInt8.ofNat (48 + u % 10)], by rw [a3]; rfl, a4⟩
      rw [num_snoc, a1, dig_byte hm]
      omega
theorem fmt_read {n : Int} (h : 0 ≤ n) : (numV (bx (fmtS n)) : Int) = n ∧ (bx (fmtS n)).all innerB = true ∧ ∃ c l, bx (fmtS n) = c :: l ∧ digB c.toNat = true := by
  have he : bx (fmtS n) = Lib.decDigits n.toNat := by
    unfold fmtS Lib.itoa
    rw [if_neg (by omega)]
    rfl
  rw [he]
  obtain ⟨h1, h2, h3⟩ := dec_ok n.toNat
  exact ⟨by rw [h1]; omega, h2, h3⟩
/-! ### the operators -/
theorem op_facts {op : Int} {m : ByteArray} {o l : Int} (h : binS op = some (m, o, l)) : o = op ∧ 2 ≤ l ∧ l ≤ 12 ∧ (32 : UInt8) ∉ bx m ∧ bx m ≠ [63] ∧ bx m ≠ kIns ∧ opW (bx m) = some (op, l) ∧ levS op = l := by
  have h1 : levS op = l := by unfold levS; rw [h]
  have h2 := List.find?_some h
  simp only [beq_iff_eq] at h2
  have h3 := List.mem_of_find?_eq_some h
  simp only [opsL, List.mem_cons, Prod.mk.injEq, List.not_mem_nil, or_false] at h3
  subst h2
  rcases h3 with h3 | h3 | h3 | h3 | h3 | h3 | h3 | h3 | h3 | h3 | h3 | h3 | h3 | h3 | h3 <;> (obtain ⟨rfl, rfl, rfl⟩ := h3; exact ⟨rfl, by decide, by decide, by decide, by decide, by decide, rfl, h1⟩)
theorem lvlW_le {w : List UInt8} {l : Int} (h : lvlW w = some l) : 1 ≤ l ∧ l ≤ 12 := by
  unfold lvlW at h
  split at h
  · have := Option.some.inj h; omega
  · split at h
    · have := Option.some.inj h; omega
    · unfold opW at h
      rw [Option.map_map, Option.map_eq_some_iff] at h
      obtain ⟨p, hp, rfl⟩ := h
      have h3 := List.mem_of_find?_eq_some hp
      simp only [opsL, List.mem_cons, List.not_mem_nil, or_false] at h3
      rcases h3 with rfl | rfl | rfl | rfl | rfl | rfl | rfl | rfl | rfl | rfl | rfl | rfl | rfl | rfl | rfl <;> decide
theorem headL_le {s : List UInt8} {l : Int} (h : headL s = some l) : 1 ≤ l ∧ l ≤ 12 := by
  cases s with
  | nil => simp [headL] at h
  | cons c s =>
    simp only [headL] at h
    split at h
    · exact lvlW_le h
    · simp at h
theorem opW_none {c : UInt8} {w : List UInt8} (h : c = 46 ∨ c = 58 ∨ c = 125) : lvlW (c :: w) = none := by
  unfold lvlW opW opsL kIns
  rcases h with rfl | rfl | rfl <;> simp [bx]
theorem head_no {c : UInt8} {s : List UInt8} (h : c ≠ 32) : headL (c :: s) = none := by
  show (if c = 32 then lvlW (wordOf s) else none) = none
  rw [if_neg h]
theorem head_no2 {c : UInt8} {s : List UInt8} (h : c = 46 ∨ c = 58 ∨ c = 125) : headL (32 :: c :: s) = none := by
  show (if (32 : UInt8) = 32 then lvlW (wordOf (c :: s)) else none) = none
  have hc : (c != 32) = true := by rcases h with rfl | rfl | rfl <;> decide
  rw [if_pos rfl]
  unfold wordOf
  rw [List.takeWhile_cons, if_pos hc]
  exact opW_none h
/-- from which level on nothing may follow -/
def rqS (op : Int) : Int := if op = 22 then 1 else match binS op with
  | some p => rgtL p.2.2
  | none => 100
theorem rq_bin {op : Int} {m : ByteArray} {o l : Int} (h : binS op = some (m, o, l)) : rqS op = rgtL l := by
  unfold rqS
  have h3 := List.mem_of_find?_eq_some h
  have h2 := List.find?_some h
  simp only [beq_iff_eq] at h2
  simp only [opsL, List.mem_cons, Prod.mk.injEq, List.not_mem_nil, or_false] at h3
  rw [if_neg (by omega), h]
theorem rq_some (op : Int) : (op = 22 ∧ rqS op = 1 ∧ levS op = 1) ∨ (∃ m o l, binS op = some (m, o, l) ∧ rqS op = rgtL l ∧ levS op = l ∧ 2 ≤ l ∧ l ≤ 12) ∨ rqS op = 100 := by
  by_cases h0 : op = 22
  · subst h0; exact Or.inl ⟨rfl, rfl, rfl⟩
  · cases h : binS op with
    | none => right; right; unfold rqS; rw [if_neg h0, h]
    | some p =>
      obtain ⟨m, o, l⟩ := p
      have := op_facts h
      exact Or.inr (Or.inl ⟨m, o, l, rfl, rq_bin h, this.2.2.2.2.2.2.2, this.2.1, this.2.2.1⟩)
theorem rq_left {op l : Int} (h1 : 2 ≤ l) (h2 : l ≤ 12) (h : lftL l ≤ levS op) : l < rqS op := by
  unfold lftL at h
  rcases rq_some op with ⟨_, b, c⟩ | ⟨m, o, k, a, b, c, d, e⟩ | b
  · split at h <;> omega
  · rw [b]; unfold rgtL; split at h <;> split <;> omega
  · omega
theorem rq_right {op l : Int} (h1 : 2 ≤ l) (h2 : l ≤ 12) (h : rgtL l ≤ levS op) : rgtL l ≤ rqS op := by
  unfold rgtL at *
  rcases rq_some op with ⟨_, b, c⟩ | ⟨m, o, k, a, b, c, d, e⟩ | b
  · split at h <;> omega
  · rw [b]; unfold rgtL; split at h <;> split <;> split <;> omega
  · split <;> omega
theorem rq_two {op : Int} (h : 2 ≤ levS op) : 1 < rqS op := by
  rcases rq_some op with ⟨_, b, c⟩ | ⟨m, o, k, a, b, c, d, e⟩ | b
  · omega
  · rw [b]; unfold rgtL; split <;> omega
  · omega
theorem rq_one (op : Int) : 1 ≤ rqS op := by
  rcases rq_some op with ⟨_, b, c⟩ | ⟨m, o, k, a, b, c, d, e⟩ | b
  · omega
  · rw [b]; unfold rgtL; split <;> omega
  · omega
theorem rq_nine {op : Int} (h : 9 ≤ levS op) : 9 < rqS op := by
  rcases rq_some op with ⟨_, b, c⟩ | ⟨m, o, k, a, b, c, d, e⟩ | b
  · omega
  · rw [b]; unfold rgtL; split <;> omega
  · omega
/-! ### the claims -/
def Stp (q : Int) (r : List UInt8) : Prop := ∀ l, headL r = some l → l < q
theorem Stp.none {q : Int} {r : List UInt8} (h : headL r = none) : Stp q r := fun l hl => by rw [h] at hl; simp at hl
def RdU (e : Ex) : Prop := 13 ≤ levS e.op → ∀ r, Nc r → EvU (bx (textS e) ++ r) (e, r)
def RdE (e : Ex) : Prop := ∀ L r, L ≤ levS e.op → Nc r → Stp (rqS e.op) r → ∀ z, EvL L e r z → EvE L (bx (textS e) ++ r) z
theorem nc32 (s : List UInt8) : Nc (32 :: s) := fun c h => by obtain rfl := Option.some.inj h; decide
theorem nc41 (s : List UInt8) : Nc (41 :: s) := fun c h => by obtain rfl := Option.some.inj h; decide
theorem levS_ge1 (op : Int) : 1 ≤ levS op := by
  unfold levS
  cases h : binS op with
  | none => simp only; split <;> (try split) <;> (try split) <;> omega
  | some p =>
    obtain ⟨m, o, l⟩ := p
    have := op_facts h
    simp only
    omega
/-- read to its end -/
theorem RdE.all {e : Ex} (h : RdE e) {r : List UInt8} (hn : Nc r) (hs : Stp 1 r) : EvE 1 (bx (textS e) ++ r) (e, r) :=
  h 1 r (levS_ge1 _) hn (fun l hl => by have := hs l hl; have := rq_one e.op; omega) _ (EvL.stop hs)
theorem RdE.par {e : Ex} (h : RdE e) (r : List UInt8) : EvU (40 :: (bx (textS e) ++ 41 :: r)) (e, r) :=
  EvU.par (h.all (nc41 r) (.none (head_no (by decide))))
theorem bx_par {need op : Int} {s : ByteArray} (h : levS op < need) : bx (parS need op s) = 40 :: (bx s ++ [41]) := by
  unfold parS
  rw [if_pos h, bx_app, bx_app]
  rfl
theorem RdE.at {e : Ex} (h : RdE e) {need L : Int} {r : List UInt8} (hL : L ≤ need) (hn : Nc r) (hs : need ≤ levS e.op → Stp (rqS e.op) r) {z : Ex × List UInt8} (hz : EvL L e r z) : EvE L (bx (parS need e.op (textS e)) ++ r) z := by
  rcases Int.lt_or_le (levS e.op) need with q | q
  · rw [bx_par q]
    have : 40 :: (bx (textS e) ++ [41]) ++ r = 40 :: (bx (textS e) ++ 41 :: r) := by simp
    rw [this]
    exact EvE.mk (h.par r) hz
  · have : parS need e.op (textS e) = textS e := by unfold parS; rw [if_neg (by omega)]
    rw [this]
    exact h L r (by omega) hn (hs q) z hz
theorem RdU.at {e : Ex} (hu : RdU e) (h : RdE e) {r : List UInt8} (hn : Nc r) : EvU (bx (parS 13 e.op (textS e)) ++ r) (e, r) := by
  rcases Int.lt_or_le (levS e.op) 13 with q | q
  · rw [bx_par q]
    have : 40 :: (bx (textS e) ++ [41]) ++ r = 40 :: (bx (textS e) ++ 41 :: r) := by simp
    rw [this]
    exact h.par r
  · have : parS 13 e.op (textS e) = textS e := by unfold parS; rw [if_neg (by omega)]
    rw [this]
    exact hu q r hn
/-! ### the pairs -/
noncomputable def pairsB : List Ex → List (List UInt8)
  | a :: b :: t => (bx (textS a) ++ (32 :: 46 :: 46 :: 32 :: bx (textS b))) :: pairsB t
  | _ => []
theorem pairsB_nil : pairsB [] = [] := by simp [pairsB]
theorem pairs_eq (K : Nat) : ∀ ys : List Ex, ys.length = 2 * K → ((List.range K).map fun j => bx (pairT ((ys.map textS).getD (2 * j) .empty) ((ys.map textS).getD (2 * j + 1) .empty))) = pairsB ys := by
  induction K with
  | zero =>
    intro ys h
    have : ys = [] := List.length_eq_zero_iff.1 (by omega)
    subst this
    rfl
  | succ K ih =>
    intro ys h
    match ys, h with
    | a :: b :: t, h =>
      have ht : t.length = 2 * K := by simp at h; omega
      rw [List.range_succ_eq_map, List.map_cons, List.map_map, pairsB, ← ih t ht]
      congr 1
      · show bx (pairT (textS a) (textS b)) = _
        unfold pairT
        rw [bx_app, bx_app]
        show (bx (textS a) ++ [32, 46, 46, 32]) ++ bx (textS b) = _
        simp
theorem join_read {ys : List Ex} {r : List UInt8} (h : ∀ y ∈ ys, RdE y) : ∀ K, ys.length = 2 * (K + 1) → EvI (Lib.join (pairsB ys) [44, 32] ++ 32 :: 125 :: r) (ys, r) := by
  intro K
  induction K generalizing ys with
  | zero =>
    intro hl
    match ys, hl with
    | [a, b], _ =>
      rw [pairsB, pairsB_nil, Lib.join_one]
      refine EvI.one (u := bx (textS b) ++ 32 :: 125 :: r) ?_ ((h b (by simp)).all (nc32 _) (.none (head_no2 (by simp))))
      have := (h a (by simp)).all (r := 32 :: 46 :: 46 :: 32 :: (bx (textS b) ++ 32 :: 125 :: r)) (nc32 _) (.none (head_no2 (by simp)))
      simpa using this
  | succ K ih =>
    intro hl
    match ys, hl with
    | a :: b :: c :: t, hl =>
      have hl2 : (c :: t).length = 2 * (K + 1) := by simp at hl ⊢; omega
      have hi := ih (ys := c :: t) (fun y hy => h y (List.mem_cons_of_mem _ (List.mem_cons_of_mem _ hy))) hl2
      match t, hl2, hi with
      | d :: t, hl2, hi =>
        rw [pairsB, Lib.join_cons, pairsB]
        rw [pairsB, Lib.join_cons] at hi
        refine EvI.more (u := bx (textS b) ++ 44 :: 32 :: (Lib.join (pairsB (c :: d :: t)) [44, 32] ++ 32 :: 125 :: r)) ?_ ((h b (by simp)).all ?_ (.none (head_no (by decide)))) (by rw [pairsB, Lib.join_cons]; exact hi)
        · have := (h a (by simp)).all (r := 32 :: 46 :: 46 :: 32 :: (bx (textS b) ++ 44 :: 32 :: (Lib.join (pairsB (c :: d :: t)) [44, 32] ++ 32 :: 125 :: r))) (nc32 _) (.none (head_no2 (by simp)))
          rw [pairsB, Lib.join_cons] at this
          simpa [Lib.joinTail, pairsB, Lib.join_cons] using this
        · intro x hx
          obtain rfl := Option.some.inj hx
          decide
end Go.Proofs.YtihegbjlgpghbaaGreatDoor

/- The texts of expressions, read again: the claim; two valid expressions with one text are one. -/
namespace Go.Proofs.YtihegbjlgpghbaaGreatDoor

/-- what the reader asks of a node -/
def NodRd (x : Ex) : Prop := NodOk x ∧ (x.op = 2 → wordB (bx x.name) = true)
def TxRd (e : Ex) : Prop := ∀ x ∈ e.nodes, NodRd x
theorem TxRd.arg {e x : Ex} (h : TxRd e) (hx : x ∈ e.args) : TxRd x := fun y hy => h y (by rw [Ex.nodes_eq]; exact List.mem_cons_of_mem _ (List.mem_flatten.2 ⟨_, List.mem_map.2 ⟨x, hx, rfl⟩, hy⟩))
theorem bx_nil {s : ByteArray} (h : s.data.toList = []) : s = .empty := bx_inj (by unfold bx; rw [h]; rfl)
/-- the fields that the text does not show -/
theorem NodOk.canon {x : Ex} (h : NodOk x) : (x.op ≠ 1 → x.n = 0) ∧ (x.op ≠ 2 → x.name = .empty) ∧ (x.op = 1 ∨ x.op = 2 → x.args = []) := by
  have hn := h.node
  obtain ⟨h0, h3, h24, _, _⟩ := h
  unfold nodeS at h0
  split at h0
  · simp at h0
  · split at h0
    · simp at h0
    · rename_i h2
      split at h0
      · simp at h0
      · rename_i h4
        refine ⟨fun e => ?_, fun e => ?_, fun e => ?_⟩
        · by_cases hz : x.n = 0
          · exact hz
          · exact absurd (Or.inr ⟨e, hz⟩) h2
        · by_cases hz : x.name.data.toList = []
          · exact bx_nil hz
          · exact absurd (Or.inl ⟨by omega, hz⟩) h4
        · have hl : x.args.length = 0 := by
            have h5 := hn.2.2.2
            rcases e with e | e
            · rw [e] at h5
              unfold operandsB at h5
              rw [if_neg (by decide), show arityS 1 = 0 from rfl] at h5
              have := of_decide_eq_true h5
              omega
            · rw [e] at h5
              unfold operandsB at h5
              rw [if_neg (by decide), show arityS 2 = 0 from rfl] at h5
              have := of_decide_eq_true h5
              omega
          exact List.length_eq_zero_iff.1 hl
theorem word_split {l : List UInt8} (h : wordB l = true) : ∃ c t, l = c :: t ∧ lowB c.toNat = true ∧ l.all innerB = true := by
  unfold wordB at h
  rw [Bool.and_eq_true] at h
  cases l with
  | nil => simp at h
  | cons c t => exact ⟨c, t, rfl, h.2, h.1⟩
theorem unit_E {e : Ex} (hu : RdU e) (h : 13 ≤ levS e.op) : RdE e := fun _ r _ hn _ _ hz => EvE.mk (hu h r hn) hz
theorem not_U {e : Ex} (h : levS e.op < 13) : RdU e := fun h' => absurd h' (by omega)
theorem read_all (e : Ex) : TxRd e → RdU e ∧ RdE e := by
  induction e using Ex.ind with
  | _ e ih =>
    intro hok
    have hnd := hok e (self_node e)
    have hcn := hnd.1.canon
    have hw := hnd.2
    have hA : ∀ x ∈ e.args, RdU x ∧ RdE x := fun x hx => ih x hx (hok.arg hx)
    have hsh := hnd.1.shape
    clear ih hok hnd
    cases hsh with
    | con n nm args h0 h1 =>
      obtain rfl : nm = .empty := hcn.2.1 (by simp [Ex.op_mk])
      obtain rfl : args = [] := hcn.2.2 (Or.inl rfl)
      have hu : RdU (.mk 1 n .empty []) := fun _ r hr => by
        obtain ⟨a1, a2, c, l, a3, a4⟩ := fmt_read h0
        rw [tS_con]
        rw [a3] at a1 a2 ⊢
        have := EvU.con (r := r) a4 a2 hr
        rw [a1] at this
        exact this
      exact ⟨hu, unit_E hu (show 13 ≤ levS 1 by decide)⟩
    | var n nm args h =>
      obtain rfl : n = 0 := hcn.1 (by simp [Ex.op_mk])
      obtain rfl : args = [] := hcn.2.2 (Or.inr rfl)
      have hu : RdU (.mk 2 0 nm []) := fun _ r hr => by
        obtain ⟨c, t, a1, a2, a3⟩ := word_split (hw rfl)
        rw [tS_var]
        simp only [Ex.name_mk] at a1 a3
        have h1 : (⟨(c :: t).toArray⟩ : ByteArray) = nm := bx_inj (by rw [bx_mk, a1])
        rw [a1] at a3 ⊢
        have := EvU.var (r := r) a2 a3 hr
        rw [h1] at this
        exact this
      exact ⟨hu, unit_E hu (show 13 ≤ levS 2 by decide)⟩
    | pre op n nm x h =>
      obtain rfl : n = 0 := hcn.1 (by simp only [Ex.op_mk]; omega)
      obtain rfl : nm = .empty := hcn.2.1 (by simp only [Ex.op_mk]; omega)
      obtain ⟨hux, hex⟩ := hA x (by simp [Ex.args_mk])
      have hlev : 13 ≤ levS op := by rcases h with rfl | rfl | rfl <;> decide
      have hu : RdU (.mk op 0 .empty [x]) := fun _ r hr => by
        have h1 := hux.at hex hr
        rw [tS_pre op 0 .empty x h, bx_app]
        rcases h with rfl | rfl | rfl
        · exact EvU.pre4 h1
        · exact EvU.pre5 h1
        · exact EvU.pre6 h1
      exact ⟨hu, unit_E hu hlev⟩
    | bin op n nm x y m o l h =>
      obtain ⟨ho, h2, h12, hm32, hm63, hmI, hop, hlev⟩ := op_facts h
      have h1 : op ≠ 1 ∧ op ≠ 2 := by
        constructor
        · rintro rfl; have h' : binS 1 = none := rfl; rw [h'] at h; simp at h
        · rintro rfl; have h' : binS 2 = none := rfl; rw [h'] at h; simp at h
      obtain rfl : n = 0 := hcn.1 h1.1
      obtain rfl : nm = .empty := hcn.2.1 h1.2
      obtain ⟨_, hex⟩ := hA x (by simp [Ex.args_mk])
      obtain ⟨_, hey⟩ := hA y (by simp [Ex.args_mk])
      refine ⟨not_U (by rw [Ex.op_mk, hlev]; omega), fun L r hL hr hs z hz => ?_⟩
      rw [Ex.op_mk, hlev] at hL
      rw [Ex.op_mk, rq_bin h] at hs
      have hy : EvE (rgtL l) (bx (parS (rgtL l) y.op (textS y)) ++ r) (y, r) :=
        hey.at (Int.le_refl _) hr (fun q k hk => by have := hs k hk; have := rq_right h2 h12 q; omega) (EvL.stop hs)
      have hx := EvL.bin (e := x) hm32 hm63 hmI hop hL hy hz
      rw [tS_bin op 0 .empty x y h]
      unfold binT
      simp only [bx_app]
      have := hex.at (need := lftL l) (L := L) (by unfold lftL; split <;> omega) (nc32 _) (fun q k hk => by
        rw [head_app hm32] at hk
        have hk' : lvlW (bx m) = some l := by unfold lvlW; rw [if_neg hm63, if_neg hmI, hop]; rfl
        rw [hk'] at hk
        obtain rfl := Option.some.inj hk
        exact rq_left h2 h12 q) hx
      have hb : bx ⟨#[32]⟩ = [32] := rfl
      rw [hb]
      simpa using this
    | ite n nm x y z' =>
      obtain rfl : n = 0 := hcn.1 (by simp [Ex.op_mk])
      obtain rfl : nm = .empty := hcn.2.1 (by simp [Ex.op_mk])
      obtain ⟨_, hex⟩ := hA x (by simp [Ex.args_mk])
      obtain ⟨_, hey⟩ := hA y (by simp [Ex.args_mk])
      obtain ⟨_, hez⟩ := hA z' (by simp [Ex.args_mk])
      refine ⟨not_U (show levS 22 < 13 by decide), fun L r hL hr hs z hz => ?_⟩
      have hL1 : L ≤ 1 := hL
      have hs1 : Stp 1 r := hs
      have h3 : EvE 1 (bx (parS 1 z'.op (textS z')) ++ r) (z', r) := hez.at (Int.le_refl _) hr (fun q k hk => by have := hs1 k hk; have := rq_one z'.op; omega) (EvL.stop hs1)
      have h2 : EvE 1 (bx (parS 1 y.op (textS y)) ++ 32 :: 58 :: 32 :: (bx (parS 1 z'.op (textS z')) ++ r)) (y, 32 :: 58 :: 32 :: (bx (parS 1 z'.op (textS z')) ++ r)) :=
        hey.at (Int.le_refl _) (nc32 _) (fun q => .none (head_no2 (by simp))) (EvL.stop (Stp.none (head_no2 (by simp))))
      have h1 := EvL.ite (e := x) hL1 h2 h3 hz
      have := hex.at (need := 2) (L := L) (by omega) (nc32 _) (fun q k hk => by
        have hk' : headL (32 :: 63 :: 32 :: (bx (parS 1 y.op (textS y)) ++ 32 :: 58 :: 32 :: (bx (parS 1 z'.op (textS z')) ++ r))) = some 1 := head_app (w := [63]) (by decide)
        rw [hk'] at hk
        obtain rfl := Option.some.inj hk
        exact rq_two q) h1
      rw [tS_if]
      unfold ifT
      simp only [bx_app]
      have hb1 : bx ⟨#[32, 63, 32]⟩ = [32, 63, 32] := rfl
      have hb2 : bx ⟨#[32, 58, 32]⟩ = [32, 58, 32] := rfl
      rw [hb1, hb2]
      simpa using this
    | ins n nm args K h h1 h2 =>
      obtain rfl : n = 0 := hcn.1 (by simp [Ex.op_mk])
      obtain rfl : nm = .empty := hcn.2.1 (by simp [Ex.op_mk])
      match args, h with
      | [], h => exact absurd h (by simp; omega)
      | x :: ys, h =>
        have hyl : ys.length = 2 * K := by simp at h; omega
        obtain ⟨_, hex⟩ := hA x (by simp [Ex.args_mk])
        have hys : ∀ y ∈ ys, RdE y := fun y hy => (hA y (by simp [Ex.args_mk, hy])).2
        refine ⟨not_U (show levS 23 < 13 by decide), fun L r hL hr hs z hz => ?_⟩
        have hL9 : L ≤ 9 := hL
        obtain ⟨k, rfl⟩ : ∃ k, K = k + 1 := ⟨K - 1, by omega⟩
        have hi := join_read (r := r) hys k hyl
        have h3 := EvL.ins (e := x) hL9 hi hz
        have := hex.at (need := 9) (L := L) hL9 (nc32 _) (fun q l hk => by
          rw [head_app (w := kIns) (by decide)] at hk
          have hk' : lvlW kIns = some 9 := rfl
          rw [hk'] at hk
          obtain rfl := Option.some.inj hk
          exact rq_nine q) h3
        rw [tS_in 0 .empty (x :: ys) (k + 1) h]
        have hp : (pairL (fun i => ((x :: ys).map textS).getD i .empty) (k + 1)).map (·.data.toList) = pairsB ys := by
          rw [← pairs_eq (k + 1) ys hyl]
          unfold pairL
          rw [List.map_map]
          refine List.map_congr_left fun j _ => ?_
          have e1 : ((x :: ys).map textS).getD (1 + 2 * j) .empty = (ys.map textS).getD (2 * j) .empty := by rw [Nat.add_comm]; rfl
          have e2 : ((x :: ys).map textS).getD (1 + 2 * j + 1) .empty = (ys.map textS).getD (2 * j + 1) .empty := by rw [show 1 + 2 * j + 1 = (2 * j + 1) + 1 by omega]; rfl
          show bx (pairT (((x :: ys).map textS).getD (1 + 2 * j) .empty) (((x :: ys).map textS).getD (1 + 2 * j + 1) .empty)) = _
          rw [e1, e2]
        have h0 : argT (.mk 23 0 .empty (x :: ys)) ((x :: ys).map textS) 0 9 = parS 9 x.op (textS x) := rfl
        unfold inT joinT
        rw [hp, h0]
        have hb1 : bx ⟨#[32, 105, 110, 115, 105, 100, 101, 32, 123, 32]⟩ = 32 :: (kIns ++ [32, 123, 32]) := rfl
        have hb2 : bx ⟨#[32, 125]⟩ = [32, 125] := rfl
        have hb3 : bx ⟨(Lib.join (pairsB ys) [44, 32]).toArray⟩ = Lib.join (pairsB ys) [44, 32] := rfl
        rw [bx_app, bx_app, bx_app, hb1, hb2, hb3]
        simpa using this
    | ones n nm x =>
      obtain rfl : n = 0 := hcn.1 (by simp [Ex.op_mk])
      obtain rfl : nm = .empty := hcn.2.1 (by simp [Ex.op_mk])
      obtain ⟨_, hex⟩ := hA x (by simp [Ex.args_mk])
      have hu : RdU (.mk 25 0 .empty [x]) := fun _ r hr => by
        have h1 : EvE 1 (bx (textS x) ++ 41 :: r) (x, 41 :: r) := hex.all (nc41 r) (.none (head_no (by decide)))
        have := EvU.ones h1
        rw [tS_ones]
        unfold onesT
        simp only [bx_app]
        have hb1 : bx ⟨#[111, 110, 101, 115, 40]⟩ = [111, 110, 101, 115, 40] := rfl
        have hb2 : bx ⟨#[41]⟩ = [41] := rfl
        rw [hb1, hb2]
        simpa using this
      exact ⟨hu, unit_E hu (show 13 ≤ levS 25 by decide)⟩
theorem text_inj {e e' : Ex} (h : TxRd e) (h' : TxRd e') {r r' : List UInt8} (he : bx (textS e) ++ 59 :: r = bx (textS e') ++ 59 :: r') : e = e' ∧ r = r' := by
  have hn : ∀ s : List UInt8, Nc (59 :: s) := fun s c h => by obtain rfl := Option.some.inj h; decide
  have h1 := (read_all e h).2.all (hn r) (.none (head_no (by decide)))
  have h2 := (read_all e' h').2.all (hn r') (.none (head_no (by decide)))
  rw [he] at h1
  have h3 := h1.det h2
  simp only [Prod.mk.injEq, List.cons.injEq, true_and] at h3
  exact h3
theorem tx_rd {d : DesD} (h : d.err = 0) : ∀ e ∈ d.exprs, TxRd e := by
  have hn := (names_ok h).2
  intro e he x hx
  obtain ⟨_, _, h3⟩ := (desOk_of_err h).exprs e he
  refine ⟨(tx_ok h e he).1 x hx, fun h6 => ?_⟩
  have := hn _ (name_found (h3 _ (names2_mem hx h6)))
  unfold nameB at this
  simp only [Bool.and_eq_true] at this
  exact this.1.1
end Go.Proofs.YtihegbjlgpghbaaGreatDoor
