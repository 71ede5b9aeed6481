/- law22: SoftOrder, the plain law: a further soft constraint of the lowest priority. -/
import Derived.Test.YtgdphjgedhadoaaGreatDoorSD
set_option linter.unusedSimpArgs false
set_option linter.unusedVariables false
set_option linter.unnecessarySimpa false
namespace Go.Proofs.YtgdphjgedhadoaaGreatDoor
open Go.RowKit

theorem keepS_base {S : List Ex → Bool} {soft base : List Ex} {e : Ex} (h : e ∈ base) : ∀ k, e ∈ (keepS S soft base k).1 := by
  intro k
  induction k with
  | zero => exact h
  | succ k ih =>
    rw [keepS]
    split
    · split
      · exact List.mem_append_left _ ih
      · exact ih
    · exact ih
theorem keepS_lt {S : List Ex → Bool} {soft base : List Ex} : ∀ k n, n ∈ (keepS S soft base k).2 → n < soft.length := by
  intro k
  induction k with
  | zero => intro n h; simp [keepS] at h
  | succ k ih =>
    intro n h
    rw [keepS] at h
    split at h
    · rename_i e0 h0
      split at h
      · rcases List.mem_append.1 h with h | h
        · exact ih n h
        · rw [List.mem_singleton.1 h]
          exact (List.getElem?_eq_some_iff.1 h0).1
      · exact ih n h
    · exact ih n h
end Go.Proofs.YtgdphjgedhadoaaGreatDoor
