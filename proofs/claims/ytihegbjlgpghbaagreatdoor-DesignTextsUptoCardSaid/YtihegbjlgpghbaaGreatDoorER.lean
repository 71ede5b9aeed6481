/- Two valid designs with one text are one. -/
import Derived.Test.YtihegbjlgpghbaaGreatDoorEQ
import Derived.Test.YtihegbjlgpghbaaGreatDoorEO
set_option linter.unusedSimpArgs false
set_option linter.unusedVariables false
set_option linter.unnecessarySimpa false
namespace Go.Proofs.YtihegbjlgpghbaaGreatDoor

theorem span_inj {l l' r r' : List UInt8} (h1 : l.all innerB = true) (h2 : l'.all innerB = true) (h3 : Nc r) (h4 : Nc r') (h : l ++ r = l' ++ r') : l = l' ∧ r = r' := by
  have a := span_app h1 h3
  have b := span_app h2 h4
  rw [h] at a
  exact ⟨a.1.symm.trans b.1, a.2.symm.trans b.2⟩
theorem nc59 (s : List UInt8) : Nc (59 :: s) := fun c h => by obtain rfl := Option.some.inj h; decide
theorem name_inner {s : ByteArray} (h : nameB s.data.toList = true) : (bx s).all innerB = true := by
  unfold nameB wordB at h
  simp only [Bool.and_eq_true] at h
  exact h.1.1.1
theorem fmt_inj {n m : Int} (h0 : 0 ≤ n) (h1 : 0 ≤ m) (h : bx (fmtS n) = bx (fmtS m)) : n = m := by
  have a := (fmt_read h0).1
  have b := (fmt_read h1).1
  rw [h] at a
  omega
/-! ### lines -/
theorem lines_inj {α : Type} (g : α → List UInt8) (k : UInt8) (ok : α → Prop) (h4 : ∀ a X, (g a ++ X)[4]? = some k) (hg : ∀ a a', ok a → ok a' → ∀ X X', g a ++ X = g a' ++ X' → a = a' ∧ X = X') :
    ∀ (l l' : List α) (R R' : List UInt8), (∀ a ∈ l, ok a) → (∀ a ∈ l', ok a) → R[4]? ≠ some k → R'[4]? ≠ some k → l.flatMap g ++ R = l'.flatMap g ++ R' → l = l' ∧ R = R' := by
  intro l
  induction l with
  | nil =>
    intro l' R R' _ _ hR _ h
    cases l' with
    | nil => exact ⟨rfl, h⟩
    | cons a l' =>
      exfalso
      have h' : R = g a ++ (l'.flatMap g ++ R') := by simpa [List.flatMap_cons] using h
      exact hR (by rw [h']; exact h4 _ _)
  | cons a l ih =>
    intro l' R R' hl hl' hR hR' h
    cases l' with
    | nil =>
      exfalso
      have h' : g a ++ (l.flatMap g ++ R) = R' := by simpa [List.flatMap_cons] using h
      exact hR' (by rw [← h']; exact h4 _ _)
    | cons a' l' =>
      have h' : g a ++ (l.flatMap g ++ R) = g a' ++ (l'.flatMap g ++ R') := by simpa [List.flatMap_cons] using h
      obtain ⟨rfl, h2⟩ := hg a a' (hl a (by simp)) (hl' a' (by simp)) _ _ h'
      obtain ⟨rfl, h3⟩ := ih l' R R' (fun x hx => hl x (by simp [hx])) (fun x hx => hl' x (by simp [hx])) hR hR' h2
      exact ⟨rfl, h3⟩
theorem four_ne {α : Type} (g : α → List UInt8) (k k0 : UInt8) (hk : k ≠ k0) (h4 : ∀ a X, (g a ++ X)[4]? = some k) (l : List α) (R : List UInt8) (hR : R[4]? ≠ some k0) : (l.flatMap g ++ R)[4]? ≠ some k0 := by
  cases l with
  | nil => exact hR
  | cons a l =>
    have : (a :: l).flatMap g ++ R = g a ++ (l.flatMap g ++ R) := by simp [List.flatMap_cons]
    rw [this, h4]
    exact fun e => hk (Option.some.inj e)
theorem bx_line (kind name f rest : ByteArray) (X : List UInt8) : bx (lineS kind name f rest) ++ X = 32 :: 32 :: 32 :: 32 :: (bx kind ++ 32 :: (bx name ++ 32 :: 58 :: 32 :: (bx f ++ (bx rest ++ 59 :: 10 :: X)))) := by
  unfold lineS
  rw [bx_app, bx_app, bx_app, bx_app, bx_app, bx_app, bx_app]
  have h1 : bx ⟨#[32, 32, 32, 32]⟩ = [32, 32, 32, 32] := rfl
  have h2 : bx ⟨#[32]⟩ = [32] := rfl
  have h3 : bx ⟨#[32, 58, 32]⟩ = [32, 58, 32] := rfl
  have h4 : bx ⟨#[59, 10]⟩ = [59, 10] := rfl
  rw [h1, h2, h3, h4]
  simp
theorem line_inj {kind n n' f f' t t' : ByteArray} {X X' : List UInt8} (h1 : (bx n).all innerB = true) (h2 : (bx n').all innerB = true) (h3 : (bx f).all innerB = true) (h4 : (bx f').all innerB = true) (h5 : Nc (bx t ++ 59 :: 10 :: X)) (h6 : Nc (bx t' ++ 59 :: 10 :: X'))
    (h : bx (lineS kind n f t) ++ X = bx (lineS kind n' f' t') ++ X') : n = n' ∧ bx f = bx f' ∧ bx t ++ 59 :: 10 :: X = bx t' ++ 59 :: 10 :: X' := by
  rw [bx_line, bx_line] at h
  simp only [List.cons.injEq, true_and, List.append_cancel_left_eq] at h
  obtain ⟨a, b⟩ := span_inj h1 h2 (nc32 _) (nc32 _) h
  simp only [List.cons.injEq, true_and] at b
  obtain ⟨c, e⟩ := span_inj h3 h4 h5 h6 b
  exact ⟨bx_inj a, c, e⟩
def gIn (p : PortD) : List UInt8 := bx (inLine p)
noncomputable def gWire (p : WireD) : List UInt8 := bx (wireLine textS p)
noncomputable def gReg (p : RegD) : List UInt8 := bx (regLine textS p)
def gOut (s : ByteArray) : List UInt8 := bx (outLine s)
theorem gIn4 (p : PortD) (X : List UInt8) : (gIn p ++ X)[4]? = some 105 := by unfold gIn inLine; rw [bx_line]; rfl
theorem gWire4 (p : WireD) (X : List UInt8) : (gWire p ++ X)[4]? = some 119 := by unfold gWire wireLine; rw [bx_line]; rfl
theorem gReg4 (p : RegD) (X : List UInt8) : (gReg p ++ X)[4]? = some 114 := by unfold gReg regLine; rw [bx_line]; rfl
theorem bx_out (s : ByteArray) (X : List UInt8) : gOut s ++ X = [32, 32, 32, 32, 111, 117, 116, 112, 117, 116, 32] ++ (bx s ++ 59 :: 10 :: X) := by
  unfold gOut outLine
  rw [bx_app, bx_app]
  have h1 : bx ⟨#[32, 32, 32, 32, 111, 117, 116, 112, 117, 116, 32]⟩ = [32, 32, 32, 32, 111, 117, 116, 112, 117, 116, 32] := rfl
  have h2 : bx ⟨#[59, 10]⟩ = [59, 10] := rfl
  rw [h1, h2]
  simp
theorem gOut4 (s : ByteArray) (X : List UInt8) : (gOut s ++ X)[4]? = some 111 := by rw [bx_out]; rfl
structure OkIn (p : PortD) : Prop where
  nm : (bx p.name).all innerB = true
  w : 0 ≤ p.width
structure OkWire (p : WireD) : Prop where
  nm : (bx p.name).all innerB = true
  w : 0 ≤ p.width
  e : TxRd p.expr
structure OkReg (p : RegD) : Prop where
  nm : (bx p.name).all innerB = true
  w : 0 ≤ p.width
  i : 0 ≤ p.init
  e : TxRd p.next
theorem gIn_inj (p p' : PortD) (h : OkIn p) (h' : OkIn p') (X X' : List UInt8) (he : gIn p ++ X = gIn p' ++ X') : p = p' ∧ X = X' := by
  unfold gIn inLine at he
  obtain ⟨a, b, c⟩ := line_inj (t := ⟨#[]⟩) (t' := ⟨#[]⟩) h.nm h'.nm (fmt_read h.w).2.1 (fmt_read h'.w).2.1 (nc59 (10 :: X)) (nc59 (10 :: X')) he
  have := fmt_inj h.w h'.w b
  obtain ⟨n, w⟩ := p
  obtain ⟨n', w'⟩ := p'
  simp only at a this
  subst a this
  have hz : bx (⟨#[]⟩ : ByteArray) = [] := rfl
  rw [hz] at c
  simpa using c
theorem bx_eq (t : ByteArray) : bx (eqS t) = 32 :: 61 :: 32 :: bx t := by unfold eqS; rw [bx_app]; rfl
theorem bx_then (f t : ByteArray) : bx (thenS f t) = 32 :: 61 :: 32 :: (bx f ++ 32 :: 116 :: 104 :: 101 :: 110 :: 32 :: bx t) := by
  unfold thenS
  rw [bx_app, bx_app, bx_app]
  have h1 : bx ⟨#[32, 61, 32]⟩ = [32, 61, 32] := rfl
  have h2 : bx ⟨#[32, 116, 104, 101, 110, 32]⟩ = [32, 116, 104, 101, 110, 32] := rfl
  rw [h1, h2]
  simp
theorem gWire_inj (p p' : WireD) (h : OkWire p) (h' : OkWire p') (X X' : List UInt8) (he : gWire p ++ X = gWire p' ++ X') : p = p' ∧ X = X' := by
  unfold gWire wireLine at he
  obtain ⟨a, b, c⟩ := line_inj h.nm h'.nm (fmt_read h.w).2.1 (fmt_read h'.w).2.1 (by rw [bx_eq]; exact nc32 _) (by rw [bx_eq]; exact nc32 _) he
  have hw := fmt_inj h.w h'.w b
  rw [bx_eq, bx_eq] at c
  simp only [List.cons_append, List.cons.injEq, true_and] at c
  obtain ⟨e1, e2⟩ := text_inj h.e h'.e c
  obtain ⟨n, w, e⟩ := p
  obtain ⟨n', w', e'⟩ := p'
  simp only at a hw e1
  subst a hw e1
  simpa using e2
theorem gReg_inj (p p' : RegD) (h : OkReg p) (h' : OkReg p') (X X' : List UInt8) (he : gReg p ++ X = gReg p' ++ X') : p = p' ∧ X = X' := by
  unfold gReg regLine at he
  obtain ⟨a, b, c⟩ := line_inj h.nm h'.nm (fmt_read h.w).2.1 (fmt_read h'.w).2.1 (by rw [bx_then]; exact nc32 _) (by rw [bx_then]; exact nc32 _) he
  have hw := fmt_inj h.w h'.w b
  rw [bx_then, bx_then] at c
  simp only [List.cons_append, List.cons.injEq, true_and, List.append_assoc] at c
  obtain ⟨c1, c2⟩ := span_inj (fmt_read h.i).2.1 (fmt_read h'.i).2.1 (nc32 _) (nc32 _) c
  have hi := fmt_inj h.i h'.i c1
  simp only [List.cons.injEq, true_and] at c2
  obtain ⟨e1, e2⟩ := text_inj h.e h'.e c2
  obtain ⟨n, w, i, e⟩ := p
  obtain ⟨n', w', i', e'⟩ := p'
  simp only at a hw hi e1
  subst a hw hi e1
  simpa using e2
theorem gOut_inj (s s' : ByteArray) (h : (bx s).all innerB = true) (h' : (bx s').all innerB = true) (X X' : List UInt8) (he : gOut s ++ X = gOut s' ++ X') : s = s' ∧ X = X' := by
  rw [bx_out, bx_out, List.append_cancel_left_eq] at he
  obtain ⟨a, b⟩ := span_inj h h' (nc59 _) (nc59 _) he
  simp only [List.cons.injEq, true_and] at b
  exact ⟨bx_inj a, b⟩
theorem print_eq (d : DesD) : printL textS d = [100, 101, 115, 105, 103, 110, 32] ++ (bx d.name ++ 32 :: 123 :: 10 :: (d.inputs.flatMap gIn ++ (d.wires.flatMap gWire ++ (d.regs.flatMap gReg ++ (d.outputs.flatMap gOut ++ [125, 10]))))) := by
  unfold printL linA6 linA5 linA4 linA3 linA2 linA1
  simp only [List.flatMap_append, List.flatMap_map, List.flatMap_cons, List.flatMap_nil, List.append_nil]
  have hh : (hdrS d.name).data.toList = [100, 101, 115, 105, 103, 110, 32] ++ (bx d.name ++ [32, 123, 10]) := by
    show bx (hdrS d.name) = _
    unfold hdrS
    rw [bx_app, bx_app]
    have h1 : bx ⟨#[100, 101, 115, 105, 103, 110, 32]⟩ = [100, 101, 115, 105, 103, 110, 32] := rfl
    have h2 : bx ⟨#[32, 123, 10]⟩ = [32, 123, 10] := rfl
    rw [h1, h2]
    simp
  rw [hh]
  have he : endS.data.toList = [125, 10] := rfl
  rw [he]
  unfold gIn gWire gReg gOut bx
  simp
theorem des_ok {d : DesD} (h : d.err = 0) : (bx d.name).all innerB = true ∧ (∀ p ∈ d.inputs, OkIn p) ∧ (∀ p ∈ d.wires, OkWire p) ∧ (∀ p ∈ d.regs, OkReg p) ∧ (∀ s ∈ d.outputs, (bx s).all innerB = true) := by
  obtain ⟨hnm, hns⟩ := names_ok h
  have hw := widths_ok h
  have hx := tx_rd h
  have ho := outs_ok h
  refine ⟨name_inner hnm, fun p hp => ⟨name_inner (hns _ ?_), (hw _ (Or.inl ?_)).1⟩, fun p hp => ⟨name_inner (hns _ ?_), (hw _ (Or.inl ?_)).1, hx _ ?_⟩, fun p hp => ⟨name_inner (hns _ ?_), (hw _ (Or.inl ?_)).1, (hw _ (Or.inr ?_)).1, hx _ ?_⟩, fun s hs => name_inner (ho s hs)⟩
  · unfold DesD.names; simp only [List.mem_append, List.mem_map]; exact Or.inl (Or.inl ⟨p, hp, rfl⟩)
  · unfold DesD.widths; simp only [List.mem_append, List.mem_map]; exact Or.inl (Or.inl ⟨p, hp, rfl⟩)
  · unfold DesD.names; simp only [List.mem_append, List.mem_map]; exact Or.inl (Or.inr ⟨p, hp, rfl⟩)
  · unfold DesD.widths; simp only [List.mem_append, List.mem_map]; exact Or.inl (Or.inr ⟨p, hp, rfl⟩)
  · unfold DesD.exprs; simp only [List.mem_append, List.mem_map]; exact Or.inl ⟨p, hp, rfl⟩
  · unfold DesD.names; simp only [List.mem_append, List.mem_map]; exact Or.inr ⟨p, hp, rfl⟩
  · unfold DesD.widths; simp only [List.mem_append, List.mem_map]; exact Or.inr ⟨p, hp, rfl⟩
  · exact List.mem_map.2 ⟨p, hp, rfl⟩
  · unfold DesD.exprs; simp only [List.mem_append, List.mem_map]; exact Or.inr ⟨p, hp, rfl⟩
theorem print_inj {d d' : DesD} (h : d.err = 0) (h' : d'.err = 0) (he : printL textS d = printL textS d') : d = d' := by
  obtain ⟨a1, a2, a3, a4, a5⟩ := des_ok h
  obtain ⟨b1, b2, b3, b4, b5⟩ := des_ok h'
  rw [print_eq, print_eq, List.append_cancel_left_eq] at he
  obtain ⟨e1, he⟩ := span_inj a1 b1 (nc32 _) (nc32 _) he
  simp only [List.cons.injEq, true_and] at he
  have z : ∀ k0 : UInt8, ([125, 10] : List UInt8)[4]? ≠ some k0 := fun k0 e => by simp at e
  have o : ∀ (l : List ByteArray) (k0 : UInt8), 111 ≠ k0 → (l.flatMap gOut ++ [125, 10])[4]? ≠ some k0 := fun l k0 hk => four_ne gOut 111 k0 hk gOut4 l _ (z k0)
  have r : ∀ (l2 : List RegD) (l : List ByteArray) (k0 : UInt8), 114 ≠ k0 → 111 ≠ k0 → (l2.flatMap gReg ++ (l.flatMap gOut ++ [125, 10]))[4]? ≠ some k0 := fun l2 l k0 hk hk2 => four_ne gReg 114 k0 hk gReg4 l2 _ (o l k0 hk2)
  have w : ∀ (l3 : List WireD) (l2 : List RegD) (l : List ByteArray) (k0 : UInt8), 119 ≠ k0 → 114 ≠ k0 → 111 ≠ k0 → (l3.flatMap gWire ++ (l2.flatMap gReg ++ (l.flatMap gOut ++ [125, 10])))[4]? ≠ some k0 := fun l3 l2 l k0 hk hk2 hk3 => four_ne gWire 119 k0 hk gWire4 l3 _ (r l2 l k0 hk2 hk3)
  obtain ⟨e2, he⟩ := lines_inj gIn 105 OkIn gIn4 gIn_inj _ _ _ _ a2 b2 (w _ _ _ _ (by decide) (by decide) (by decide)) (w _ _ _ _ (by decide) (by decide) (by decide)) he
  obtain ⟨e3, he⟩ := lines_inj gWire 119 OkWire gWire4 gWire_inj _ _ _ _ a3 b3 (r _ _ _ (by decide) (by decide)) (r _ _ _ (by decide) (by decide)) he
  obtain ⟨e4, he⟩ := lines_inj gReg 114 OkReg gReg4 gReg_inj _ _ _ _ a4 b4 (o _ _ (by decide)) (o _ _ (by decide)) he
  obtain ⟨e5, _⟩ := lines_inj gOut 111 (fun s => (bx s).all innerB = true) gOut4 gOut_inj _ _ _ _ a5 b5 (z _) (z _) he
  have e1 := bx_inj e1
  obtain ⟨n, i, wi, re, ou⟩ := d
  obtain ⟨n', i', wi', re', ou'⟩ := d'
  simp only at e1 e2 e3 e4 e5
  subst e1 e2 e3 e4 e5
  rfl
theorem prT_good {d : DesD} (h : d.err = 0) : bx (prT d) = printL textS d := by unfold prT; rw [if_pos h]; rfl
theorem prT_bad {d : DesD} (h : ¬ d.err = 0) : prT d = .empty := by unfold prT; rw [if_neg h]
theorem prT_some {d : DesD} (h : d.err = 0) : bx (prT d) ≠ [] := by
  rw [prT_good h, print_eq]
  simp
/-- what the law compares -/
theorem prT_eq {a b : DesD} (h : a.err = 0) : bx (prT b) = bx (prT a) ↔ a = b := by
  constructor
  · intro he
    by_cases hb : b.err = 0
    · rw [prT_good h, prT_good hb] at he
      exact (print_inj hb h he).symm
    · exfalso
      rw [prT_bad hb] at he
      exact prT_some h he.symm
  · rintro rfl; rfl
end Go.Proofs.YtihegbjlgpghbaaGreatDoor

/- ref08: Same, for designs. -/
namespace Go.Proofs.YtihegbjlgpghbaaGreatDoor
open Go.RowKit
attribute [local go_sem ↓] Go.wp_at_zero Go.wp_at_succ

theorem exq_eq {op n : Int} {s : ByteArray} {args : List Ex} {op' n' : Int} {s' : ByteArray} {args' : List Ex} : (Ex.mk op n s args = Ex.mk op' n' s' args') ↔ op = op' ∧ n = n' ∧ s = s' ∧ args = args' := by
  constructor
  · intro h; injection h with h1 h2 h3 h4; exact ⟨h1, h2, h3, h4⟩
  · rintro ⟨rfl, rfl, rfl, rfl⟩; rfl
theorem tl_ne {s s' : ByteArray} (h : ¬ s = s') : (s.toList != s'.toList) = true := by
  cases he : (s.toList == s'.toList)
  · simp [bne, he]
  · have h1 : s.toList = s'.toList := by simpa using he
    rw [ByteArray.toList_eq, ByteArray.toList_eq] at h1
    exact absurd (ByteArray.ext (Array.toList_inj.1 h1)) h
set_option maxRecDepth 100000 in
set_option maxHeartbeats 8000000 in
theorem same08_any (x : Ex) : ∀ (y : Ex) (ax : Option Addr) (cx : Nat) (ay : Option Addr) (cy : Nat) (w : World), ExIn w x ax cx → ExIn w y ay cy →
    Calls Tryz.prog 84 #[exVal x ax cx, exVal y ay cy] w fun e w' => e = .returned (.bool (pB (x = y))) ∧ Below w.heap.size w w' := by
  induction x using Ex.ind with
  | h x ih =>
    intro y ax cx ay cy w hX hY
    obtain ⟨op, n, s, args⟩ := x
    obtain ⟨op', n', s', args'⟩ := y
    have HX := Lib.hid hX.2
    have HY := Lib.hid hY.2
    have HAX := Lib.hid hX.2.addr
    have HAY := Lib.hid hY.2.addr
    have hlx := hX.2.2.1
    have hly := hY.2.2.1
    simp only [Ex.args_mk] at HX HY HAX HAY hlx hly ih
    have HIH := Lib.hid ih
    clear hX hY ih
    simp only [exVal, Ex.op_mk, Ex.n_mk, Ex.name_mk, Ex.args_mk]
    by_cases h1 : op = op' ∧ n = n' ∧ s = s' ∧ args.length = args'.length
    · obtain ⟨rfl, rfl, rfl, hl⟩ := h1
      have Hl := Lib.hid hl
      have hd1 : (op != op) = false := by simp
      have hd2 : (n != n) = false := by simp
      have hd3 : (s.toList != s.toList) = false := by simp
      have hd4 : ((args.length : Int) != (args'.length : Int)) = false := by simp; omega
      clear hl
      go_enter Tryz.func84, Tryz.ntmps84
      go_wp2_with fail
      generalize hW2 : (w.alloc (.cells #[.int .i64 op, .int .i64 n, .string s, .slice ax args.length cx] 55)).alloc (.cells #[.int .i64 op, .int .i64 n, .string s, .slice ay args'.length cy] 55) = W2
      have hz2 : W2.heap.size = w.heap.size + 2 := by rw [← hW2]; simp
      have HB2 : Hid (Below w.heap.size w W2) := by show Below _ _ _; rw [← hW2]; exact (by repeat (first | assumption | exact Below.refl _ _ | refine Below.drew ?_ | refine below_drewN ?_ _ | refine Below.alloc ?_ (by first | omega | (simp only [World.size_alloc, World.size_setCell, World.size_drew, World.heap_drewN] <;> omega) | (simp <;> omega)) _ | refine Below.setCell ?_ (by first | omega | (simp only [World.size_alloc, World.size_setCell, World.size_drew, World.heap_drewN] <;> omega) | (simp <;> omega)) _))
      have HK1 : Hid (W2.heap[w.heap.size]? = some (.cells #[.int .i64 op, .int .i64 n, .string s, .slice ax args.length cx] 55 (0, 0))) := by
        show _ = _; rw [← hW2]
        exact (Below.heap_alloc _ _ _ (by simp)).trans (heap_alloc_new' w _)
      have HK2 : Hid (W2.heap[w.heap.size + 1]? = some (.cells #[.int .i64 op, .int .i64 n, .string s, .slice ay args'.length cy] 55 (0, 0))) := by
        show _ = _; rw [← hW2]
        have h := heap_alloc_new' (w.alloc (.cells #[.int .i64 op, .int .i64 n, .string s, .slice ax args.length cx] 55)) (.cells #[.int .i64 op, .int .i64 n, .string s, .slice ay args'.length cy] 55)
        simp only [World.size_alloc] at h
        exact h
      clear hW2
      go_loopw [5] (fun i wr => ∃ k : Nat, i = .int .i64 k ∧ k ≤ args.length ∧ Hid (∀ j (hj : j < args.length), j < k → args[j]'hj = args'[j]'(by have := Hl.out; omega)) ∧ Below (w.heap.size + 2) W2 wr) (fun i _ => args.length - (intOf i).toNat)
      case atStart => exact ⟨0, rfl, Nat.zero_le _, fun _ _ h => absurd h (by omega), Below.refl _ _⟩
      case round =>
        obtain ⟨k, rfl, hk, HAl, hB⟩ := hrel
        have hzr := hB.size
        have HBw : Hid (Below w.heap.size w wr) := HB2.out.trans (hB.mono (by omega))
        have hk1 := (hB.block w.heap.size (by omega)).trans HK1.out
        have hk2 := (hB.block (w.heap.size + 1) (by omega)).trans HK2.out
        have x3 : wr.cell? ⟨w.heap.size, 3, none⟩ = some (.slice ax args.length cx) := by simp [World.cell?, hk1]
        have y3 : wr.cell? ⟨w.heap.size + 1, 3, none⟩ = some (.slice ay args'.length cy) := by simp [World.cell?, hk2]
        have HB := Lib.hid hB
        clear hk1 hk2 hB
        by_cases hlt : k < args.length
        · have hltb : k < args'.length := by have := Hl.out; omega
          obtain ⟨ba, oa, ha⟩ := HAX.out.resolve_left (by omega)
          obtain ⟨bb, ob, hb⟩ := HAY.out.resolve_left (by omega)
          subst ha
          subst hb
          obtain ⟨a1, k1, g0, g1, g2, g3, hP⟩ := HX.out.get rfl hlt
          obtain ⟨a2, k2, q0, q1, q2, q3, hQ⟩ := HY.out.get rfl hltb
          have kk := keeps_of_below HBw.out
          have c0 : ∀ g : Grow wr.heap.size wr, g.w'.cell? _ = _ := Grow.old (kk _ _ g0) (Nat.le_refl _)
          have c1 : ∀ g : Grow wr.heap.size wr, g.w'.cell? _ = _ := Grow.old (kk _ _ g1) (Nat.le_refl _)
          have c2 : ∀ g : Grow wr.heap.size wr, g.w'.cell? _ = _ := Grow.old (kk _ _ g2) (Nat.le_refl _)
          have c3 : ∀ g : Grow wr.heap.size wr, g.w'.cell? _ = _ := Grow.old (kk _ _ g3) (Nat.le_refl _)
          have d0 : ∀ g : Grow wr.heap.size wr, g.w'.cell? _ = _ := Grow.old (kk _ _ q0) (Nat.le_refl _)
          have d1 : ∀ g : Grow wr.heap.size wr, g.w'.cell? _ = _ := Grow.old (kk _ _ q1) (Nat.le_refl _)
          have d2 : ∀ g : Grow wr.heap.size wr, g.w'.cell? _ = _ := Grow.old (kk _ _ q2) (Nat.le_refl _)
          have d3 : ∀ g : Grow wr.heap.size wr, g.w'.cell? _ = _ := Grow.old (kk _ _ q3) (Nat.le_refl _)
          have X3 : ∀ g : Grow wr.heap.size wr, g.w'.cell? _ = _ := Grow.old x3 (Nat.le_refl _)
          have Y3 : ∀ g : Grow wr.heap.size wr, g.w'.cell? _ = _ := Grow.old y3 (Nat.le_refl _)
          have HC := Lib.hid (fun W (hW : Below wr.heap.size wr W) => (HIH.out _ (List.getElem_mem hlt) _ a1 k1 a2 k2 W ((hP.keep kk).keep (keeps_of_below hW)) ((hQ.keep kk).keep (keeps_of_below hW))).mono fun e w' h => (⟨h.1, hW.trans (h.2.mono hW.size)⟩ : _ ∧ Below wr.heap.size wr w'))
          simp only [exVal] at HC
          have HNx : Hid (args[k]'hlt = args'[k]'hltb → ∀ j (hj : j < args.length), j < k + 1 → args[j]'hj = args'[j]'(by have := Hl.out; omega)) := fun he j hj hjk => by
            by_cases e : j = k
            · subst e; exact he
            · exact HAl.out j hj (by omega)
          have HNo : Hid (¬ (args[k]'hlt = args'[k]'hltb) → pB (Ex.mk op n s args = Ex.mk op n s args') = false) := fun he => pB_false (fun h => he (by have h2 := (exq_eq.1 h).2.2.2; subst h2; rfl))
          generalize args[k]'hlt = u at c0 c1 c2 c3 HC HNx HNo
          generalize args'[k]'hltb = v at d0 d1 d2 d3 HC HNx HNo
          clear g0 g1 g2 g3 q0 q1 q2 q3 kk hP hQ
          by_cases he : u = v
          · have HNx' := Lib.hid (HNx.out he)
            rw [pB_true he] at HC
            clear he HNx HNo
            go_wp2_with fail
            (refine wp_region_grow (B := wr.heap.size) (w0 := wr) (by kernel_rfl) (by kernel_rfl) (by repeat (first | assumption | exact Below.refl _ _ | refine Below.drew ?_ | refine below_drewN ?_ _ | refine Below.alloc ?_ (by first | omega | (simp only [World.size_alloc, World.size_setCell, World.size_drew, World.heap_drewN] <;> omega) | (simp <;> omega)) _ | refine Below.setCell ?_ (by first | omega | (simp only [World.size_alloc, World.size_setCell, World.size_drew, World.heap_drewN] <;> omega) | (simp <;> omega)) _)) ?_; (repeat (go_big_quiet_step ((go_at_call 84; with_reducible exact grow_call (HC.out _ (Grow.h _)))))); refine wpQuiet_nil ?_; intro wg hCg; have hbg := grow_out hCg; clear hCg)
            go_wp2_with fail
            go_roundw
            case rel => exact ⟨k + 1, by go_num, by omega, HNx'.out, HB.out.trans ((by assumption : Below wr.heap.size wr _).mono (by omega))⟩
            case measure => simp [intOf]; omega
          · have HNo' := Lib.hid (HNo.out he)
            rw [pB_false he] at HC
            clear he HNx HNo
            go_wp2_with fail
            (refine wp_region_grow (B := wr.heap.size) (w0 := wr) (by kernel_rfl) (by kernel_rfl) (by repeat (first | assumption | exact Below.refl _ _ | refine Below.drew ?_ | refine below_drewN ?_ _ | refine Below.alloc ?_ (by first | omega | (simp only [World.size_alloc, World.size_setCell, World.size_drew, World.heap_drewN] <;> omega) | (simp <;> omega)) _ | refine Below.setCell ?_ (by first | omega | (simp only [World.size_alloc, World.size_setCell, World.size_drew, World.heap_drewN] <;> omega) | (simp <;> omega)) _)) ?_; (repeat (go_big_quiet_step ((go_at_call 84; with_reducible exact grow_call (HC.out _ (Grow.h _)))))); refine wpQuiet_nil ?_; intro wg hCg; have hbg := grow_out hCg; clear hCg)
            go_wp2_with fail
            go_ret
            exact ⟨by rw [HNo'.out]; rfl, HBw.out.trans ((by assumption : Below wr.heap.size wr _).mono HBw.out.size)⟩
        · obtain rfl : k = args.length := by omega
          have HYes : Hid (pB (Ex.mk op n s args = Ex.mk op n s args') = true) := pB_true (exq_eq.2 ⟨rfl, rfl, rfl, List.ext_getElem Hl.out (fun j hj _ => HAl.out j hj hj)⟩)
          go_wp2_with fail
          go_ret
          exact ⟨by rw [HYes.out]; rfl, HBw.out⟩
    · have HNo : Hid (pB (Ex.mk op n s args = Ex.mk op' n' s' args') = false) := pB_false (fun h => h1 (by have h2 := exq_eq.1 h; exact ⟨h2.1, h2.2.1, h2.2.2.1, by rw [h2.2.2.2]⟩))
      have hcase : (op != op') = true ∨ (op != op') = false ∧ ((n != n') = true ∨ (n != n') = false ∧ ((¬ s.toList = s'.toList) ∨ s = s' ∧ ((args.length : Int) != (args'.length : Int)) = true)) := by
        by_cases e1 : op = op'
        · by_cases e2 : n = n'
          · by_cases e3 : s = s'
            · refine Or.inr ⟨by simp [e1], Or.inr ⟨by simp [e2], Or.inr ⟨e3, ?_⟩⟩⟩
              have : args.length ≠ args'.length := fun e4 => h1 ⟨e1, e2, e3, e4⟩
              simp; omega
            · refine Or.inr ⟨by simp [e1], Or.inr ⟨by simp [e2], Or.inl ?_⟩⟩
              exact fun h => by have := tl_ne e3; rw [h] at this; simp at this
          · exact Or.inr ⟨by simp [e1], Or.inl (by simpa using e2)⟩
        · exact Or.inl (by simpa using e1)
      clear h1
      rcases hcase with hd | ⟨hd, hd2 | ⟨hd2, hd3 | ⟨rfl, hd4⟩⟩⟩
      all_goals
        go_enter Tryz.func84, Tryz.ntmps84
        go_wp2_with fail
        go_ret
        exact ⟨by rw [HNo.out]; rfl, (by repeat (first | assumption | exact Below.refl _ _ | refine Below.drew ?_ | refine below_drewN ?_ _ | refine Below.alloc ?_ (by first | omega | (simp only [World.size_alloc, World.size_setCell, World.size_drew, World.heap_drewN] <;> omega) | (simp <;> omega)) _ | refine Below.setCell ?_ (by first | omega | (simp only [World.size_alloc, World.size_setCell, World.size_drew, World.heap_drewN] <;> omega) | (simp <;> omega)) _))⟩
end Go.Proofs.YtihegbjlgpghbaaGreatDoor
