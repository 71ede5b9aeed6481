/- Cones exactly: what a signal depends on, in the order of the texts, plain. -/
import Derived.Test.YtihegbjlgpghbaaGreatDoorDZ
import Derived.Test.YtihegbjlgpghbaaGreatDoorEA
set_option linter.unusedSimpArgs false
set_option linter.unusedVariables false
set_option linter.unnecessarySimpa false
namespace Go.Proofs.YtihegbjlgpghbaaGreatDoor

inductive Reach (d : DesD) (nm : ByteArray) : ByteArray → Prop where
  | start : Reach d nm nm
  | step {t s : ByteArray} {q : Nat} (h : Reach d nm t) (hq : q < d.wires.length) (hw : d.wireIdx t = some q) (hu : s ∈ namesS [2] (d.wires[q]'hq).expr) : Reach d nm s
/-- the model's '<' on strings is the order of the lists -/
theorem bytesLess_dec : ∀ (x y : List UInt8), Op.bytesLess x y = decide (x < y)
  | [], [] => by simp [Op.bytesLess]
  | [], _ :: _ => by simp [Op.bytesLess]
  | _ :: _, [] => by simp [Op.bytesLess]
  | a :: x, b :: y => by
    rw [Op.bytesLess, bytesLess_dec x y]
    simp only [List.cons_lt_cons_iff]
    by_cases h1 : a < b <;> by_cases h2 : a = b <;> by_cases h3 : x < y <;> simp [h1, h2, h3]
theorem b_lt_irrefl (a : ByteArray) : ¬ a.toList < a.toList := List.lt_irrefl _
theorem b_lt_asymm {a b : ByteArray} (h : a.toList < b.toList) : ¬ b.toList < a.toList := fun h2 => List.lt_irrefl _ (List.lt_trans h h2)
theorem b_lt_trans {a b c : ByteArray} (h : a.toList < b.toList) (h2 : b.toList < c.toList) : a.toList < c.toList := List.lt_trans h h2
theorem bytes_inj {a b : ByteArray} (h : a.toList = b.toList) : a = b := by
  rw [ByteArray.toList_eq, ByteArray.toList_eq] at h
  exact ByteArray.ext (Array.ext' h)
theorem b_lt_total (a b : ByteArray) : a.toList < b.toList ∨ a = b ∨ b.toList < a.toList := by
  by_cases h1 : a.toList < b.toList
  · exact Or.inl h1
  · by_cases h2 : b.toList < a.toList
    · exact Or.inr (Or.inr h2)
    · exact Or.inr (Or.inl (bytes_inj (List.le_antisymm (List.not_lt.1 h2) (List.not_lt.1 h1))))
def Asc (C : List ByteArray) : Prop := C.Pairwise fun a b => a.toList < b.toList
theorem asc_ext : ∀ (C D : List ByteArray), Asc C → Asc D → (∀ s, s ∈ C ↔ s ∈ D) → C = D := by
  intro C
  induction C with
  | nil =>
    intro D _ _ h
    cases D with
    | nil => rfl
    | cons y D => exact absurd ((h y).2 List.mem_cons_self) (by simp)
  | cons x C ih =>
    intro D hC hD h
    cases D with
    | nil => exact absurd ((h x).1 List.mem_cons_self) (by simp)
    | cons y D =>
      obtain ⟨c1, c2⟩ := List.pairwise_cons.1 hC
      obtain ⟨d1, d2⟩ := List.pairwise_cons.1 hD
      have hxy : x = y := by
        rcases List.mem_cons.1 ((h x).1 List.mem_cons_self) with e | e
        · exact e
        · rcases List.mem_cons.1 ((h y).2 List.mem_cons_self) with e2 | e2
          · exact e2.symm
          · exact absurd (c1 y e2) (b_lt_asymm (d1 x e))
      subst hxy
      congr 1
      refine ih D c2 d2 fun s => ⟨fun hs => ?_, fun hs => ?_⟩
      · rcases List.mem_cons.1 ((h s).1 (List.mem_cons_of_mem _ hs)) with e | e
        · subst e; exact absurd (c1 _ hs) (b_lt_irrefl _)
        · exact e
      · rcases List.mem_cons.1 ((h s).2 (List.mem_cons_of_mem _ hs)) with e | e
        · subst e; exact absurd (d1 _ hs) (b_lt_irrefl _)
        · exact e
/-- the cone: ascending, and exactly the inputs and registers that are reached -/
def ConeE (d : DesD) (nm : ByteArray) (C : List ByteArray) : Prop := Asc C ∧ ∀ s, s ∈ C ↔ Reach d nm s ∧ d.wireIdx s = none
theorem ConeE.unique {d : DesD} {nm : ByteArray} {C D : List ByteArray} (h : ConeE d nm C) (h2 : ConeE d nm D) : C = D :=
  asc_ext C D h.1 h2.1 fun s => (h.2 s).trans (h2.2 s).symm
end Go.Proofs.YtihegbjlgpghbaaGreatDoor

/- law31: the cone of the sample's wire, plain. -/
namespace Go.Proofs.YtihegbjlgpghbaaGreatDoor

theorem smp_reach {s : ByteArray} (h : Reach smpD ⟨#[120]⟩ s) : s = ⟨#[120]⟩ ∨ s = ⟨#[121]⟩ ∨ s = ⟨#[97]⟩ ∨ s = ⟨#[114]⟩ := by
  induction h with
  | start => exact Or.inl rfl
  | step ht hq hw hu ih =>
    rename_i t s q
    rw [smp_widx] at hw
    rcases ih with rfl | rfl | rfl | rfl
    · have h1 : q = 0 := Option.some.inj (hw.symm.trans idx_x)
      subst h1
      have h2 : s ∈ namesS [2] xE := hu
      rw [n2_xE] at h2
      exact Or.inr (Or.inl (List.mem_singleton.1 h2))
    · have h1 : q = 1 := Option.some.inj (hw.symm.trans idx_y)
      subst h1
      have h2 : s ∈ namesS [2] yE := hu
      rw [n2_yE] at h2
      simp only [List.mem_cons, List.not_mem_nil, or_false] at h2
      exact Or.inr (Or.inr h2)
    · exact absurd (hw.symm.trans idx_a) (by simp)
    · exact absurd (hw.symm.trans idx_r) (by simp)
theorem smp_cone : ConeE smpD ⟨#[120]⟩ [⟨#[97]⟩, ⟨#[114]⟩] := by
  have hy : Reach smpD ⟨#[120]⟩ ⟨#[121]⟩ := .step (q := 0) .start (by decide) (by rw [smp_widx]; exact idx_x) (by show (⟨#[121]⟩ : ByteArray) ∈ namesS [2] xE; rw [n2_xE]; exact List.mem_singleton.2 rfl)
  have ha : Reach smpD ⟨#[120]⟩ ⟨#[97]⟩ := .step (q := 1) hy (by decide) (by rw [smp_widx]; exact idx_y) (by show (⟨#[97]⟩ : ByteArray) ∈ namesS [2] yE; rw [n2_yE]; exact List.mem_cons_self)
  have hr : Reach smpD ⟨#[120]⟩ ⟨#[114]⟩ := .step (q := 1) hy (by decide) (by rw [smp_widx]; exact idx_y) (by show (⟨#[114]⟩ : ByteArray) ∈ namesS [2] yE; rw [n2_yE]; exact List.mem_cons_of_mem _ List.mem_cons_self)
  refine ⟨?_, fun s => ⟨fun hs => ?_, fun ⟨h1, h2⟩ => ?_⟩⟩
  · refine List.pairwise_cons.2 ⟨fun b hb => ?_, List.pairwise_cons.2 ⟨fun b hb => by simp at hb, List.Pairwise.nil⟩⟩
    rw [List.mem_singleton.1 hb, ByteArray.toList_eq, ByteArray.toList_eq]
    decide
  · simp only [List.mem_cons, List.not_mem_nil, or_false] at hs
    rcases hs with rfl | rfl
    · exact ⟨ha, by rw [smp_widx]; exact idx_a⟩
    · exact ⟨hr, by rw [smp_widx]; exact idx_r⟩
  · rw [smp_widx] at h2
    rcases smp_reach h1 with rfl | rfl | rfl | rfl
    · exact absurd (idx_x.symm.trans h2) (by simp)
    · exact absurd (idx_y.symm.trans h2) (by simp)
    · exact List.mem_cons_self
    · exact List.mem_cons_of_mem _ List.mem_cons_self
end Go.Proofs.YtihegbjlgpghbaaGreatDoor
