/- The closure of a list of signals under what the wires read, plain. -/
import Derived.Test.YteaeemkodbodmaaGreatDoorDZ
import Derived.Test.YteaeemkodbodmaaGreatDoorDL
import Derived.Test.YteaeemkodbodmaaGreatDoorDE
set_option linter.unusedSimpArgs false
set_option linter.unusedVariables false
set_option linter.unnecessarySimpa false
namespace Go.Proofs.YteaeemkodbodmaaGreatDoor

theorem idxT_congr (l : List ByteArray) {s t : ByteArray} (h : s.toList = t.toList) : idxT l s = idxT l t := by
  induction l with
  | nil => rfl
  | cons x l ih => unfold idxT; rw [h, ih]
theorem wireIdx_congr (d : DesD) {s t : ByteArray} (h : s.toList = t.toList) : d.wireIdx s = d.wireIdx t := idxT_congr _ h
theorem idxT_get {l : List ByteArray} {s : ByteArray} (h : (idxT l s).isSome = true) : ∃ k, ∃ hk : k < l.length, idxT l s = some k ∧ (l[k]'hk).toList = s.toList := by
  obtain ⟨k, hk⟩ := Option.isSome_iff_exists.1 h
  obtain ⟨h1, h2, _⟩ := idxT_some hk
  exact ⟨k, h1, hk, h2⟩
theorem InR.append {R E : List ByteArray} {s : ByteArray} (h : InR R s) : InR (R ++ E) s := by
  obtain ⟨r, hr, he⟩ := h
  exact ⟨r, List.mem_append_left _ hr, he⟩
theorem inR_iff {R : List ByteArray} {s : ByteArray} : InR R s ↔ (idxT R s).isSome = true := by
  constructor
  · rintro ⟨r, hr, he⟩
    exact idxT_mem hr he
  · intro h
    obtain ⟨k, hk, _, he⟩ := idxT_get h
    exact ⟨_, List.getElem_mem hk, he⟩
/-- a list without repetitions whose texts all stand in another one is no longer -/
theorem dup_len {N R : List ByteArray} (hs : ∀ s ∈ R, (idxT N s).isSome = true) (hd : dupT R = false) : R.length ≤ N.length := by
  have h1 : (R.map fun s => (idxT N s).getD 0).Nodup := by
    refine List.pairwise_iff_getElem.2 fun i j hi hj hij he => ?_
    rw [List.length_map] at hi hj
    simp only [List.getElem_map] at he
    obtain ⟨a, ha, ea, ta⟩ := idxT_get (hs _ (List.getElem_mem hi))
    obtain ⟨b, hb, eb, tb⟩ := idxT_get (hs _ (List.getElem_mem hj))
    rw [ea, eb] at he
    simp only [Option.getD_some] at he
    subst he
    have := dupT_false.1 hd i j hi hj (by rw [← ta, ← tb])
    omega
  have h2 := nodup_len N.length _ h1 (fun x hx => by
    obtain ⟨s, hs', rfl⟩ := List.mem_map.1 hx
    obtain ⟨a, ha, ea, _⟩ := idxT_get (hs s hs')
    rw [ea]; exact ha)
  rwa [List.length_map] at h2
theorem dup_push {R : List ByteArray} (hd : dupT R = false) {s : ByteArray} (h : idxT R s = none) : dupT (R ++ [s]) = false := by
  refine dupT_false.2 fun i j hi hj he => ?_
  rw [List.length_append, List.length_singleton] at hi hj
  have hno := idxT_none.1 h
  by_cases h1 : i < R.length
  · by_cases h2 : j < R.length
    · rw [List.getElem_append_left h1, List.getElem_append_left h2] at he
      exact dupT_false.1 hd i j h1 h2 he
    · rw [List.getElem_append_left h1, List.getElem_append_right (by omega)] at he
      simp only [List.getElem_singleton] at he
      exact absurd he (hno _ (List.getElem_mem h1))
  · by_cases h2 : j < R.length
    · rw [List.getElem_append_right (by omega), List.getElem_append_left h2] at he
      simp only [List.getElem_singleton] at he
      exact absurd he.symm (hno _ (List.getElem_mem h2))
    · omega
/-- the list R, closed up to its place k -/
structure BelInv (d : DesD) (nm : ByteArray) (R : List ByteArray) (k : Nat) : Prop where
  sub : ∀ s ∈ R, (idxT d.names s).isSome = true
  dup : dupT R = false
  mem : InR R nm
  cl : ∀ j (hj : j < R.length), j < k → ∀ q (hq : q < d.wires.length), d.wireIdx (R[j]'hj) = some q → ∀ s ∈ namesS [2] (d.wires[q]'hq).expr, InR R s
theorem BelInv.len {d : DesD} {nm : ByteArray} {R : List ByteArray} {k : Nat} (h : BelInv d nm R k) : R.length ≤ d.names.length := dup_len h.sub h.dup
theorem BelInv.start {d : DesD} {nm : ByteArray} (h : (idxT d.names nm).isSome = true) : BelInv d nm [nm] 0 :=
  ⟨fun s hs => by rw [List.mem_singleton.1 hs]; exact h, rfl, ⟨nm, List.mem_singleton.2 rfl, rfl⟩, fun j _ hj => absurd hj (by omega)⟩
theorem BelInv.push {d : DesD} {nm : ByteArray} {R : List ByteArray} {k : Nat} (h : BelInv d nm R k) (hk : k ≤ R.length) {s : ByteArray} (hs : (idxT d.names s).isSome = true) (hn : idxT R s = none) : BelInv d nm (R ++ [s]) k := by
  refine ⟨fun t ht => ?_, dup_push h.dup hn, h.mem.append, fun j hj hjk q hq hw t ht => ?_⟩
  · rcases List.mem_append.1 ht with ht | ht
    · exact h.sub t ht
    · rw [List.mem_singleton.1 ht]; exact hs
  · rw [List.getElem_append_left (by omega)] at hw
    exact (h.cl j (by omega) hjk q hq hw t ht).append
theorem BelInv.next {d : DesD} {nm : ByteArray} {R : List ByteArray} {k : Nat} (h : BelInv d nm R k) (hk : k < R.length) (hc : ∀ q (hq : q < d.wires.length), d.wireIdx (R[k]'hk) = some q → ∀ s ∈ namesS [2] (d.wires[q]'hq).expr, InR R s) : BelInv d nm R (k + 1) := by
  refine ⟨h.sub, h.dup, h.mem, fun j hj hjk q hq hw s hs => ?_⟩
  by_cases e : j = k
  · subst e; exact hc q hq hw s hs
  · exact h.cl j hj (by omega) q hq hw s hs
theorem BelInv.closed {d : DesD} {nm : ByteArray} {R : List ByteArray} (hd : DesOk d) (h : BelInv d nm R R.length) : ClosedR d R := by
  intro i hi hR s hs
  obtain ⟨k, hk, _, he⟩ := idxT_get (inR_iff.1 hR)
  refine h.cl k hk hk i hi ?_ s hs
  rw [wireIdx_congr d he]
  have hdw : dupT (d.wires.map (·.name)) = false := by
    have := hd.names
    unfold DesD.names at this
    exact (dupT_append (dupT_append this).1).2
  have := idxT_at hdw (i := i) (by simpa using hi)
  simpa [DesD.wireIdx] using this
/-- what the cone holds of the closure -/
def ConeD (d : DesD) (nm : ByteArray) (C : List ByteArray) : Prop := ∃ R, ClosedR d R ∧ InR R nm ∧ ∀ s, InR R s → d.wireIdx s = none → InR C s
/-- the list O of those chosen so far -/
structure OutInv (R O : List ByteArray) : Prop where
  sub : ∀ s ∈ O, (idxT R s).isSome = true
  dup : dupT O = false
theorem OutInv.len {R O : List ByteArray} (h : OutInv R O) : O.length ≤ R.length := dup_len h.sub h.dup
theorem OutInv.push {R O : List ByteArray} (h : OutInv R O) {s : ByteArray} (hs : s ∈ R) (hn : idxT O s = none) : OutInv R (O ++ [s]) :=
  ⟨fun t ht => by
    rcases List.mem_append.1 ht with ht | ht
    · exact h.sub t ht
    · rw [List.mem_singleton.1 ht]; exact idxT_mem hs rfl, dup_push h.dup hn⟩
/-- may be chosen next -/
def Cand (d : DesD) (O : List ByteArray) (s : ByteArray) : Prop := d.wireIdx s = none ∧ idxT O s = none
/-- the best among the first k, or the empty text if there is none -/
def BestAt (d : DesD) (R O : List ByteArray) (k : Nat) (b : ByteArray) : Prop := (b.toList = [] ∧ ∀ j (hj : j < R.length), j < k → ¬ Cand d O (R[j]'hj)) ∨ (b.toList ≠ [] ∧ ∃ j, ∃ hj : j < R.length, j < k ∧ b = R[j]'hj ∧ Cand d O b)
theorem best_no {d : DesD} {R O : List ByteArray} {k : Nat} {b : ByteArray} (h : BestAt d R O k b) (hk : k < R.length) (hc : ¬ Cand d O (R[k]'hk)) : BestAt d R O (k + 1) b := by
  rcases h with ⟨h1, h2⟩ | ⟨h1, j, hj, hjk, h3, h4⟩
  · refine Or.inl ⟨h1, fun j hj hjk => ?_⟩
    by_cases e : j = k
    · subst e; exact hc
    · exact h2 j hj (by omega)
  · exact Or.inr ⟨h1, j, hj, by omega, h3, h4⟩
theorem best_keep {d : DesD} {R O : List ByteArray} {k : Nat} {b : ByteArray} (h : BestAt d R O k b) (hb : b.toList ≠ []) : BestAt d R O (k + 1) b := by
  rcases h with ⟨h1, h2⟩ | ⟨h1, j, hj, hjk, h3, h4⟩
  · exact absurd h1 hb
  · exact Or.inr ⟨h1, j, hj, by omega, h3, h4⟩
theorem best_new {d : DesD} {R O : List ByteArray} {k : Nat} (hk : k < R.length) (hc : Cand d O (R[k]'hk)) (hn : (R[k]'hk).toList ≠ []) : BestAt d R O (k + 1) (R[k]'hk) := Or.inr ⟨hn, k, hk, by omega, rfl, hc⟩
theorem cone_done {d : DesD} {nm : ByteArray} {R O : List ByteArray} (hd : DesOk d) (h : BelInv d nm R R.length) (hb : ∀ j (hj : j < R.length), ¬ Cand d O (R[j]'hj)) : ConeD d nm O := by
  refine ⟨R, h.closed hd, h.mem, fun s hs hw => ?_⟩
  obtain ⟨k, hk, _, he⟩ := idxT_get (inR_iff.1 hs)
  by_cases hO : idxT O (R[k]'hk) = none
  · exact absurd ⟨by rw [wireIdx_congr d he]; exact hw, hO⟩ (hb k hk)
  · refine inR_iff.2 ?_
    rw [← idxT_congr O he]
    exact Option.isSome_iff_ne_none.2 hO
end Go.Proofs.YteaeemkodbodmaaGreatDoor
