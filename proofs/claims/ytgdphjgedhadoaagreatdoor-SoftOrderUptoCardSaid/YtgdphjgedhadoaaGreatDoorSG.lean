/- append of expressions onto a fresh slice, in a drawn region. -/
import Derived.Test.YtgdphjgedhadoaaGreatDoorSD
set_option linter.unusedSimpArgs false
set_option linter.unusedVariables false
set_option linter.unnecessarySimpa false
namespace Go.Proofs.YtgdphjgedhadoaaGreatDoor
open Go.RowKit

/-- a slice of expressions of the call's own, or an empty literal -/
def Loose (w : World) (base : Nat) (v : Value) (n : Nat) (xs : List Value) : Prop := (xs = [] ∧ n = 0 ∧ ∃ ao, v = .slice ao 0 0) ∨ w.ownsRow base 57 4 v n xs
theorem Loose.below {w w' : World} {base : Nat} {v : Value} {n : Nat} {xs : List Value} (h : Loose w base v n xs) (hb : Below w.heap.size w w') : Loose w' base v n xs := h.imp id (fun h => ownsRow_below h hb)
theorem Loose.lit (w : World) (base : Nat) (ao : Option Addr) : Loose w base (.slice ao 0 0) 0 [] := Or.inl ⟨rfl, rfl, ao, rfl⟩
theorem Loose.ins {w : World} {base : Nat} {v : Value} {l : List Ex} {n : Nat} {xs : List Value} (h : Loose w base v n xs) (hl : n = l.length) (hr : ExRow w l xs) (hn : l.length ≤ 1073741824) : ∃ a c, v = .slice a l.length c ∧ ExsIn w l a c := by
  subst hl
  rcases h with ⟨_, h0, ao, rfl⟩ | h
  · exact ⟨ao, 0, by rw [h0], by omega, by omega, Or.inl h0⟩
  · exact exs_of_own h hr hn
theorem Loose.slice {w : World} {base : Nat} {v : Value} {n : Nat} {xs : List Value} (h : Loose w base v n xs) (hn : n ≤ 1073741824) : ∃ a c, v = .slice a n c := by
  rcases h with ⟨_, h0, ao, rfl⟩ | h
  · exact ⟨ao, 0, by rw [h0]⟩
  · obtain ⟨a, c, hv, _⟩ := slice_of_own h hn
    exact ⟨a, c, hv⟩
theorem exRow_one {w : World} {l : List Ex} {xs : List Value} (h : ExRow w l xs) : ∀ u, u ∈ xs → u.oneCell' = true := by
  intro u hu
  obtain ⟨j, hj, rfl⟩ := List.getElem_of_mem hu
  have hl := h.1
  have hi : j / 4 < l.length := by omega
  obtain ⟨a, c, h0, h1, h2, h3, _⟩ := h.2 (j / 4) hi
  have hm : j % 4 < 4 := Nat.mod_lt _ (by omega)
  have hx : xs[j]? = some (xs[j]'hj) := List.getElem?_eq_getElem hj
  rcases Nat.lt_or_ge (j % 4) 1 with h4 | h4
  · rw [show j / 4 * 4 = j from by omega, hx] at h0
    rw [Option.some.inj h0]; rfl
  · rcases Nat.lt_or_ge (j % 4) 2 with h5 | h5
    · rw [show j / 4 * 4 + 1 = j from by omega, hx] at h1
      rw [Option.some.inj h1]; rfl
    · rcases Nat.lt_or_ge (j % 4) 3 with h6 | h6
      · rw [show j / 4 * 4 + 2 = j from by omega, hx] at h2
        rw [Option.some.inj h2]; rfl
      · rw [show j / 4 * 4 + 3 = j from by omega, hx] at h3
        rw [Option.some.inj h3]; rfl
theorem run_append_zero {P : Program} (w : World) (base : Nat) (t ty : TypeId) (i : TypeInfo) (ht : P.underlying t = some (.slice 57)) (hi : P.info? 57 = some i)
    (v : Value) (n c : Nat) (ao : Option Addr) (xs : List Value) (hown : Loose w base v n xs) :
    (Builtin.append_ #[t, t] ty #[v, .slice ao 0 c]).run P w = .ok v w := by
  have hv : ∃ bo k, v = .slice bo n k ∧ n ≤ k ∧ (bo = none → n = 0 ∧ k = 0) := by
    rcases hown with ⟨_, rfl, bo, rfl⟩ | hown
    · exact ⟨bo, 0, rfl, Nat.le_refl _, fun _ => ⟨rfl, rfl⟩⟩
    · rcases hown.2 with ⟨rfl, rfl⟩ | ⟨g, cap, cur, rfl, _, _, hnc, _⟩
      · exact ⟨none, 0, rfl, Nat.le_refl _, fun _ => ⟨rfl, rfl⟩⟩
      · exact ⟨_, cap, rfl, hnc, fun h => by cases h⟩
  obtain ⟨bo, k, rfl, hk, hb⟩ := hv
  cases bo with
  | none =>
    obtain ⟨rfl, rfl⟩ := hb rfl
    cases ao <;> simp [Builtin.append_, run_underlying ht, sizeOf, typeInfo, hi, Builtin.lenOf, Builtin.firstCells, loadCells, loadCellsFrom, Result.andThen]
  | some b =>
    cases ao <;> simp [Builtin.append_, run_underlying ht, sizeOf, typeInfo, hi, Builtin.lenOf, Builtin.firstCells, hk, storeCells, loadCells, loadCellsFrom, Result.andThen]
/-- append of cells that lie in memory onto such a slice, as a step of a drawn region -/
theorem step_exs {w : World} {ops : Array Oper} {o : Oper} {a : Act} {K : Act → World → Prop} {Q : Exit → Act → World → Prop} {E : Prop} (hgd : o.guard = none) (s x : Operand)
    (ho : o.op = .call { callee := .builtin .append, args := #[s, x], argTypes := #[23, 23] })
    (base : Nat) (v : Value) (n : Nat) (xs : List Value) (hs : a.eval s = v) (hown : Loose w base v n xs) (ys : List Value) (m : Nat) (al : Option Addr) (cl : Nat) (hl : ys.length = m * 4) (h1 : ∀ u, u ∈ ys → u.oneCell' = true)
    (hc : m = 0 ∨ ∃ b off, al = some ⟨b, off, none⟩ ∧ ∀ j u, ys[j]? = some u → w.cell? ⟨b, off + j, none⟩ = some u)
    (hx : a.eval x = .slice al m cl) (hn : n + m ≤ 1073741824) (hbase : base ≤ w.heap.size)
    (h : ∀ v' w', Loose w' base v' (n + m) (xs ++ ys) → w.grownBy w' v.ownBlock → (∀ g, v'.ownBlock = some g → v.ownBlock = some g ∨ (w.heap.size ≤ g ∧ g < w'.heap.size)) → K (a.put o.dst v') w') :
    if Region.wanted o (yielded ops a.tmps) = true then Oper.wp Tryz.prog o a w K Q else E := by
  obtain ⟨ht, i, z, bytes, hi, hz, hsz, hby, hzs, h0, hb⟩ := elemEx
  have hw : Region.wanted o (yielded ops a.tmps) = true := by simp [Region.wanted, hgd]
  by_cases hm : m = 0
  · subst hm
    obtain rfl : ys = [] := List.eq_nil_of_length_eq_zero (by simpa using hl)
    have hrun := run_append_zero (P := Tryz.prog) w base 23 o.type i ht hi v n cl al xs hown
    rw [if_pos hw]
    unfold Oper.wp
    simp [execOp, ho, resolve, invoke, builtin, hs, hx, hrun, Result.andThen]
    exact h v w (by simpa using hown) (World.grownBy.refl _ _) (fun g hg => Or.inl hg)
  · obtain ⟨b, off, rfl, hcell⟩ := hc.resolve_left hm
    have hadd : ∀ j, (⟨b, off, none⟩ : Addr).add j = ⟨b, off + j, none⟩ := fun j => by unfold Addr.add; split <;> simp_all
    have hby2 : (n + m) * bytes ≤ 140737488355328 := by
      calc (n + m) * bytes ≤ 1073741824 * 1024 := Nat.mul_le_mul hn hb
        _ ≤ _ := by decide
    rcases hown with ⟨rfl, rfl, ao, rfl⟩ | hown
    · refine step_append_grows hgd s x 23 ho 57 i _ 4 bytes ht hi hz hsz hby hzs h0 ao 0 0 [] hs (fun _ => ⟨rfl, rfl⟩) rfl (fun _ _ j u hj => by simp at hj) ⟨b, off, none⟩ m cl ys hx hl (fun j u hj => by rw [hadd]; exact hcell j u hj) h1 (by omega) (by unfold maxLen; omega) hby2 ?_
      intro v' w' ho2 hg2
      refine h v' w' (Or.inr (own_base (by simpa using ho2) hbase)) ?_ (fun g hg => Or.inr (ho2.lt g hg))
      exact ⟨hg2.os, hg2.tape, hg2.output, hg2.size, fun k hk _ => hg2.block k hk (by simp)⟩
    · exact step_append_lies w hgd s x 23 ho base 57 i _ 4 bytes ht hi hz hsz hby hzs h0 v n xs hs hown ⟨b, off, none⟩ m cl ys hx hl (fun j u hj => by rw [hadd]; exact hcell j u hj) h1 (by omega) (by unfold maxLen; omega) hby2 hbase w.heap.size rfl (fun g cap w' h2 h3 h4 h5 => h _ w' (Or.inr h2) h3 (fun g' hg' => by
        have e : g = g' := by simpa [Value.ownBlock] using hg'
        subst e
        rcases h4 with h4 | h4
        · exact Or.inl h4
        · exact Or.inr ⟨by omega, h5⟩))
/-- .. of one block's cells -/
theorem cells_of_block {w : World} {k : Nat} {news : List Value} {e : TypeId} (hk : w.heap[k]? = some (.cells news.toArray e (0, 0))) : ∀ j u, news[j]? = some u → w.cell? ⟨k, 0 + j, none⟩ = some u := by
  intro j u hj
  rw [Nat.zero_add]
  simp [World.cell?, hk, hj]
/-- append of a slice that lies in memory to a row of the call's own -/
theorem own_gen {P : Program} {ops : Array Oper} {rest : List Oper} {o : Oper} {a : Act} {Q : Exit → Act → World → Prop} {t e : TypeId} {size : Nat} (he : Elem P t e size) (w : World) (hgd : o.guard = none) (s x : Operand)
    (ho : o.op = .call { callee := .builtin .append, args := #[s, x], argTypes := #[t, t] })
    (base : Nat) (v : Value) (n : Nat) (xs : List Value) (hs : a.eval s = v) (hown : w.ownsRow base e size v n xs)
    (ys : List Value) (m : Nat) (al : Option Addr) (cl : Nat) (hl : ys.length = m * size) (h1 : ∀ u, u ∈ ys → u.oneCell' = true)
    (hc : m = 0 ∨ ∃ b off, al = some ⟨b, off, none⟩ ∧ ∀ j u, ys[j]? = some u → w.cell? ⟨b, off + j, none⟩ = some u) (hx : a.eval x = .slice al m cl) (hn : n + m ≤ 4294967296) (hbase : base ≤ w.heap.size)
    (h : ∀ v' w', w'.ownsRow base e size v' (n + m) (xs ++ ys) → w.grownBy w' v.ownBlock → wpList P ops Q rest (a.put o.dst v') w') : wpList P ops Q (o :: rest) a w := by
  by_cases hm : m = 0
  · subst hm
    obtain rfl : ys = [] := List.eq_nil_of_length_eq_zero (by simpa using hl)
    obtain ⟨ht, i, z, bytes, hi, hz, hsz, hby, hzs, h0, hb⟩ := he
    cases al with
    | none =>
      refine Lib.wpList_append_run w hgd s x t t ho v (.slice none 0 cl) hs hx v w (run_append_none' w base t o.type e i size ht hi v n cl xs hown) ?_
      exact h v w (by simpa using hown) (World.grownBy.refl _ _)
    | some ad =>
      refine wpList_append_own w hgd s x t ho base e i z size bytes ht hi hz hsz hby hzs h0 v n xs hs hown ad 0 cl [] hx (by simp) (fun j u hj => by simp at hj) (fun u hu => by cases hu) (by unfold maxLen; simp at hn; omega) ?_ hbase (fun v' w' h2 h3 _ => h v' w' h2 h3)
      calc (n + 0) * bytes ≤ 4294967296 * 1024 := Nat.mul_le_mul (by simp at hn; omega) hb
        _ ≤ _ := by decide
  · obtain ⟨b, off, rfl, hcell⟩ := hc.resolve_left hm
    exact own_row he w hgd s x ho base v n xs hs hown ys b off m cl hl hcell h1 hx hn hbase h
end Go.Proofs.YtgdphjgedhadoaaGreatDoor
