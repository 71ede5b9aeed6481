/- The closure of a list of signals under what the wires read, plain. -/
import Derived.Test.YtihegbjlgpghbaaGreatDoorEB
import Derived.Test.YtihegbjlgpghbaaGreatDoorDL
import Derived.Test.YtihegbjlgpghbaaGreatDoorDE
set_option linter.unusedSimpArgs false
set_option linter.unusedVariables false
set_option linter.unnecessarySimpa false
namespace Go.Proofs.YtihegbjlgpghbaaGreatDoor

theorem idxT_congr (l : List ByteArray) {s t : ByteArray} (h : s.toList = t.toList) : idxT l s = idxT l t := by
  induction l with
  | nil => rfl
  | cons x l ih => unfold idxT; rw [h, ih]
theorem wireIdx_congr (d : DesD) {s t : ByteArray} (h : s.toList = t.toList) : d.wireIdx s = d.wireIdx t := idxT_congr _ h
theorem idxT_get {l : List ByteArray} {s : ByteArray} (h : (idxT l s).isSome = true) : ∃ k, ∃ hk : k < l.length, idxT l s = some k ∧ (l[k]'hk).toList = s.toList := by
  obtain ⟨k, hk⟩ := Option.isSome_iff_exists.1 h
  obtain ⟨h1, h2, _⟩ := idxT_some hk
  exact ⟨k, h1, hk, h2⟩
theorem InR.append {R E : List ByteArray} {s : ByteArray} (h : InR R s) : InR (R ++ E) s := by
  obtain ⟨r, hr, he⟩ := h
  exact ⟨r, List.mem_append_left _ hr, he⟩
theorem inR_iff {R : List ByteArray} {s : ByteArray} : InR R s ↔ (idxT R s).isSome = true := by
  constructor
  · rintro ⟨r, hr, he⟩
    exact idxT_mem hr he
  · intro h
    obtain ⟨k, hk, _, he⟩ := idxT_get h
    exact ⟨_, List.getElem_mem hk, he⟩
/-- a list without repetitions whose texts all stand in another one is no longer -/
theorem dup_len {N R : List ByteArray} (hs : ∀ s ∈ R, (idxT N s).isSome = true) (hd : dupT R = false) : R.length ≤ N.length := by
  have h1 : (R.map fun s => (idxT N s).getD 0).Nodup := by
    refine List.pairwise_iff_getElem.2 fun i j hi hj hij he => ?_
    rw [List.length_map] at hi hj
    simp only [List.getElem_map] at he
    obtain ⟨a, ha, ea, ta⟩ := idxT_get (hs _ (List.getElem_mem hi))
    obtain ⟨b, hb, eb, tb⟩ := idxT_get (hs _ (List.getElem_mem hj))
    rw [ea, eb] at he
    simp only [Option.getD_some] at he
    subst he
    have := dupT_false.1 hd i j hi hj (by rw [← ta, ← tb])
    omega
  have h2 := nodup_len N.length _ h1 (fun x hx => by
    obtain ⟨s, hs', rfl⟩ := List.mem_map.1 hx
    obtain ⟨a, ha, ea, _⟩ := idxT_get (hs s hs')
    rw [ea]; exact ha)
  rwa [List.length_map] at h2
theorem dup_push {R : List ByteArray} (hd : dupT R = false) {s : ByteArray} (h : idxT R s = none) : dupT (R ++ [s]) = false := by
  refine dupT_false.2 fun i j hi hj he => ?_
  rw [List.length_append, List.length_singleton] at hi hj
  have hno := idxT_none.1 h
  by_cases h1 : i < R.length
  · by_cases h2 : j < R.length
    · rw [List.getElem_append_left h1, List.getElem_append_left h2] at he
      exact dupT_false.1 hd i j h1 h2 he
    · rw [List.getElem_append_left h1, List.getElem_append_right (by omega)] at he
      simp only [List.getElem_singleton] at he
      exact absurd he (hno _ (List.getElem_mem h1))
  · by_cases h2 : j < R.length
    · rw [List.getElem_append_right (by omega), List.getElem_append_left h2] at he
      simp only [List.getElem_singleton] at he
      exact absurd he.symm (hno _ (List.getElem_mem h2))
    · omega
/-- the list R, closed up to its place k -/
structure BelInv (d : DesD) (nm : ByteArray) (R : List ByteArray) (k : Nat) : Prop where
  sub : ∀ s ∈ R, (idxT d.names s).isSome = true
  dup : dupT R = false
  mem : InR R nm
  rch : ∀ s ∈ R, Reach d nm s
  cl : ∀ j (hj : j < R.length), j < k → ∀ q (hq : q < d.wires.length), d.wireIdx (R[j]'hj) = some q → ∀ s ∈ namesS [2] (d.wires[q]'hq).expr, InR R s
theorem BelInv.len {d : DesD} {nm : ByteArray} {R : List ByteArray} {k : Nat} (h : BelInv d nm R k) : R.length ≤ d.names.length := dup_len h.sub h.dup
theorem BelInv.start {d : DesD} {nm : ByteArray} (h : (idxT d.names nm).isSome = true) : BelInv d nm [nm] 0 :=
  ⟨fun s hs => by rw [List.mem_singleton.1 hs]; exact h, rfl, ⟨nm, List.mem_singleton.2 rfl, rfl⟩, fun s hs => by rw [List.mem_singleton.1 hs]; exact .start, fun j _ hj => absurd hj (by omega)⟩
theorem BelInv.push {d : DesD} {nm : ByteArray} {R : List ByteArray} {k : Nat} (h : BelInv d nm R k) (hk : k ≤ R.length) {s : ByteArray} (hs : (idxT d.names s).isSome = true) (hr : Reach d nm s) (hn : idxT R s = none) : BelInv d nm (R ++ [s]) k := by
  refine ⟨fun t ht => ?_, dup_push h.dup hn, h.mem.append, fun t ht => ?_, fun j hj hjk q hq hw t ht => ?_⟩
  · rcases List.mem_append.1 ht with ht | ht
    · exact h.sub t ht
    · rw [List.mem_singleton.1 ht]; exact hs
  · rcases List.mem_append.1 ht with ht | ht
    · exact h.rch t ht
    · rw [List.mem_singleton.1 ht]; exact hr
  · rw [List.getElem_append_left (by omega)] at hw
    exact (h.cl j (by omega) hjk q hq hw t ht).append
theorem BelInv.next {d : DesD} {nm : ByteArray} {R : List ByteArray} {k : Nat} (h : BelInv d nm R k) (hk : k < R.length) (hc : ∀ q (hq : q < d.wires.length), d.wireIdx (R[k]'hk) = some q → ∀ s ∈ namesS [2] (d.wires[q]'hq).expr, InR R s) : BelInv d nm R (k + 1) := by
  refine ⟨h.sub, h.dup, h.mem, h.rch, fun j hj hjk q hq hw s hs => ?_⟩
  by_cases e : j = k
  · subst e; exact hc q hq hw s hs
  · exact h.cl j hj (by omega) q hq hw s hs
theorem BelInv.closed {d : DesD} {nm : ByteArray} {R : List ByteArray} (hd : DesOk d) (h : BelInv d nm R R.length) : ClosedR d R := by
  intro i hi hR s hs
  obtain ⟨k, hk, _, he⟩ := idxT_get (inR_iff.1 hR)
  refine h.cl k hk hk i hi ?_ s hs
  rw [wireIdx_congr d he]
  have hdw : dupT (d.wires.map (·.name)) = false := by
    have := hd.names
    unfold DesD.names at this
    exact (dupT_append (dupT_append this).1).2
  have := idxT_at hdw (i := i) (by simpa using hi)
  simpa [DesD.wireIdx] using this
theorem BelInv.reach {d : DesD} {nm : ByteArray} {R : List ByteArray} (h : BelInv d nm R R.length) {s : ByteArray} : s ∈ R ↔ Reach d nm s := by
  refine ⟨h.rch s, fun hr => ?_⟩
  induction hr with
  | start =>
    obtain ⟨r, hr, he⟩ := h.mem
    rw [← bytes_inj he]; exact hr
  | step ht hq hw hu ih =>
    obtain ⟨j, hj, rfl⟩ := List.getElem_of_mem ih
    obtain ⟨r, hr, he⟩ := h.cl j hj hj _ hq hw _ hu
    rw [← bytes_inj he]; exact hr
/-- what the cone holds of the closure -/
def ConeD (d : DesD) (nm : ByteArray) (C : List ByteArray) : Prop := ∃ R, ClosedR d R ∧ InR R nm ∧ ∀ s, InR R s → d.wireIdx s = none → InR C s
/-- the list O of those chosen so far -/
structure OutInv (d : DesD) (R O : List ByteArray) : Prop where
  sub : ∀ s ∈ O, (idxT R s).isSome = true
  dup : dupT O = false
  asc : Asc O
  no : ∀ s ∈ O, d.wireIdx s = none
  low : ∀ s ∈ R, d.wireIdx s = none → idxT O s = none → ∀ o ∈ O, o.toList < s.toList
theorem OutInv.len {d : DesD} {R O : List ByteArray} (h : OutInv d R O) : O.length ≤ R.length := dup_len h.sub h.dup
theorem OutInv.nil (d : DesD) (R : List ByteArray) : OutInv d R [] := ⟨fun s hs => by simp at hs, rfl, List.Pairwise.nil, fun s hs => by simp at hs, fun s _ _ _ o ho => by simp at ho⟩
/-- may be chosen next -/
def Cand (d : DesD) (O : List ByteArray) (s : ByteArray) : Prop := d.wireIdx s = none ∧ idxT O s = none
/-- the best among the first k, or the empty text if there is none -/
def BestAt (d : DesD) (R O : List ByteArray) (k : Nat) (b : ByteArray) : Prop := (b.toList = [] ∧ ∀ j (hj : j < R.length), j < k → ¬ Cand d O (R[j]'hj)) ∨ (b.toList ≠ [] ∧ (∃ j, ∃ hj : j < R.length, j < k ∧ b = R[j]'hj ∧ Cand d O b) ∧ ∀ j (hj : j < R.length), j < k → Cand d O (R[j]'hj) → ¬ (R[j]'hj).toList < b.toList)
theorem best_no {d : DesD} {R O : List ByteArray} {k : Nat} {b : ByteArray} (h : BestAt d R O k b) (hk : k < R.length) (hc : ¬ Cand d O (R[k]'hk)) : BestAt d R O (k + 1) b := by
  rcases h with ⟨h1, h2⟩ | ⟨h1, ⟨j, hj, hjk, h3, h4⟩, h5⟩
  · refine Or.inl ⟨h1, fun j hj hjk => ?_⟩
    by_cases e : j = k
    · subst e; exact hc
    · exact h2 j hj (by omega)
  · refine Or.inr ⟨h1, ⟨j, hj, by omega, h3, h4⟩, fun i hi hik hci => ?_⟩
    by_cases e : i = k
    · subst e; exact absurd hci hc
    · exact h5 i hi (by omega) hci
theorem best_keep {d : DesD} {R O : List ByteArray} {k : Nat} {b : ByteArray} (h : BestAt d R O k b) (hk : k < R.length) (hb : b.toList ≠ []) (hl : ¬ (R[k]'hk).toList < b.toList) : BestAt d R O (k + 1) b := by
  rcases h with ⟨h1, h2⟩ | ⟨h1, ⟨j, hj, hjk, h3, h4⟩, h5⟩
  · exact absurd h1 hb
  · refine Or.inr ⟨h1, ⟨j, hj, by omega, h3, h4⟩, fun i hi hik hci => ?_⟩
    by_cases e : i = k
    · subst e; exact hl
    · exact h5 i hi (by omega) hci
theorem best_new {d : DesD} {R O : List ByteArray} {k : Nat} {b : ByteArray} (h : BestAt d R O k b) (hk : k < R.length) (hc : Cand d O (R[k]'hk)) (hn : (R[k]'hk).toList ≠ []) (hl : b.toList = [] ∨ (R[k]'hk).toList < b.toList) : BestAt d R O (k + 1) (R[k]'hk) := by
  refine Or.inr ⟨hn, ⟨k, hk, by omega, rfl, hc⟩, fun i hi hik hci => ?_⟩
  by_cases e : i = k
  · subst e; exact b_lt_irrefl _
  · rcases h with ⟨h1, h2⟩ | ⟨h1, _, h5⟩
    · exact absurd hci (h2 i hi (by omega))
    · rcases hl with hl | hl
      · exact absurd hl h1
      · intro hlt
        exact h5 i hi (by omega) hci (b_lt_trans hlt hl)
theorem OutInv.push {d : DesD} {R O : List ByteArray} (h : OutInv d R O) {b : ByteArray} (hb : BestAt d R O R.length b) (hne : b.toList ≠ []) : OutInv d R (O ++ [b]) := by
  rcases hb with ⟨h1, _⟩ | ⟨_, ⟨j, hj, _, h3, h4⟩, h5⟩
  · exact absurd h1 hne
  have hbR : b ∈ R := by rw [h3]; exact List.getElem_mem hj
  refine ⟨fun t ht => ?_, dup_push h.dup h4.2, ?_, fun t ht => ?_, fun s hs hw hn o ho => ?_⟩
  · rcases List.mem_append.1 ht with ht | ht
    · exact h.sub t ht
    · rw [List.mem_singleton.1 ht]; exact idxT_mem hbR rfl
  · refine List.pairwise_append.2 ⟨h.asc, by simp, fun a ha c hc => ?_⟩
    rw [List.mem_singleton.1 hc]
    exact h.low b hbR h4.1 h4.2 a ha
  · rcases List.mem_append.1 ht with ht | ht
    · exact h.no t ht
    · rw [List.mem_singleton.1 ht]; exact h4.1
  · have hno := idxT_none.1 hn
    have hnO : idxT O s = none := idxT_none.2 fun x hx => hno x (List.mem_append_left _ hx)
    rcases List.mem_append.1 ho with ho | ho
    · exact h.low s hs hw hnO o ho
    · rw [List.mem_singleton.1 ho]
      obtain ⟨i, hi, rfl⟩ := List.getElem_of_mem hs
      have h6 := h5 i hi hi ⟨hw, hnO⟩
      rcases b_lt_total b (R[i]'hi) with e | e | e
      · exact e
      · exact absurd (congrArg _ e) (hno b (List.mem_append_right _ (List.mem_singleton.2 rfl)))
      · exact absurd e h6
theorem cone_exact {d : DesD} {nm : ByteArray} {R O : List ByteArray} (h : BelInv d nm R R.length) (ho : OutInv d R O) (hb : ∀ j (hj : j < R.length), ¬ Cand d O (R[j]'hj)) : ConeE d nm O := by
  refine ⟨ho.asc, fun s => ⟨fun hs => ?_, fun ⟨hr, hw⟩ => ?_⟩⟩
  · obtain ⟨k, hk, _, he⟩ := idxT_get (ho.sub s hs)
    have : s ∈ R := by rw [← bytes_inj he]; exact List.getElem_mem hk
    exact ⟨h.rch s this, ho.no s hs⟩
  · have hsR := h.reach.2 hr
    obtain ⟨j, hj, rfl⟩ := List.getElem_of_mem hsR
    have h1 := hb j hj
    by_cases hO : idxT O (R[j]'hj) = none
    · exact absurd ⟨hw, hO⟩ h1
    · obtain ⟨k, hk, _, he⟩ := idxT_get (Option.isSome_iff_ne_none.2 hO)
      rw [← bytes_inj he]; exact List.getElem_mem hk
theorem cone_done {d : DesD} {nm : ByteArray} {R O : List ByteArray} (hd : DesOk d) (h : BelInv d nm R R.length) (hb : ∀ j (hj : j < R.length), ¬ Cand d O (R[j]'hj)) : ConeD d nm O := by
  refine ⟨R, h.closed hd, h.mem, fun s hs hw => ?_⟩
  obtain ⟨k, hk, _, he⟩ := idxT_get (inR_iff.1 hs)
  by_cases hO : idxT O (R[k]'hk) = none
  · exact absurd ⟨by rw [wireIdx_congr d he]; exact hw, hO⟩ (hb k hk)
  · refine inR_iff.2 ?_
    rw [← idxT_congr O he]
    exact Option.isSome_iff_ne_none.2 hO
end Go.Proofs.YtihegbjlgpghbaaGreatDoor

/- design.Cone's search, plain: what the closure 'visit' does to the names that it has seen and to those that it has put out. -/
namespace Go.Proofs.YtihegbjlgpghbaaGreatDoor

/-- the names seen, the names put out -/
structure VisInv (d : DesD) (S O : List ByteArray) : Prop where
  sub : ∀ s ∈ S, (idxT d.names s).isSome = true
  dup : dupT S = false
  out : ∀ s, s ∈ O ↔ s ∈ S ∧ d.wireIdx s = none
  odup : dupT O = false
theorem VisInv.nil (d : DesD) : VisInv d [] [] := ⟨fun s hs => by simp at hs, rfl, fun s => by simp, rfl⟩
theorem VisInv.len {d : DesD} {S O : List ByteArray} (h : VisInv d S O) : S.length ≤ d.names.length := dup_len h.sub h.dup
theorem VisInv.olen {d : DesD} {S O : List ByteArray} (h : VisInv d S O) : O.length ≤ S.length := dup_len (fun s hs => idxT_mem ((h.out s).1 hs).1 rfl) h.odup
theorem idxT_notMem {l : List ByteArray} {s : ByteArray} : idxT l s = none ↔ s ∉ l := by
  rw [idxT_none]
  exact ⟨fun h hs => h s hs rfl, fun h x hx he => h (by rw [← bytes_inj he]; exact hx)⟩
/-- an input or a register is seen -/
theorem VisInv.leaf {d : DesD} {S O : List ByteArray} (h : VisInv d S O) {s : ByteArray} (hs : (idxT d.names s).isSome = true) (hn : idxT S s = none) (hw : d.wireIdx s = none) : VisInv d (S ++ [s]) (O ++ [s]) := by
  have hnS := idxT_notMem.1 hn
  have hnO : idxT O s = none := idxT_notMem.2 fun ho => hnS ((h.out s).1 ho).1
  refine ⟨fun t ht => ?_, dup_push h.dup hn, fun t => ?_, dup_push h.odup hnO⟩
  · rcases List.mem_append.1 ht with ht | ht
    · exact h.sub t ht
    · rw [List.mem_singleton.1 ht]; exact hs
  · simp only [List.mem_append, List.mem_singleton, h.out t]
    constructor
    · rintro (⟨h1, h2⟩ | rfl)
      · exact ⟨Or.inl h1, h2⟩
      · exact ⟨Or.inr rfl, hw⟩
    · rintro ⟨h1 | rfl, h2⟩
      · exact Or.inl ⟨h1, h2⟩
      · exact Or.inr rfl
/-- a wire is seen -/
theorem VisInv.wire {d : DesD} {S O : List ByteArray} (h : VisInv d S O) {s : ByteArray} (hs : (idxT d.names s).isSome = true) (hn : idxT S s = none) (hw : ¬ d.wireIdx s = none) : VisInv d (S ++ [s]) O := by
  refine ⟨fun t ht => ?_, dup_push h.dup hn, fun t => ?_, h.odup⟩
  · rcases List.mem_append.1 ht with ht | ht
    · exact h.sub t ht
    · rw [List.mem_singleton.1 ht]; exact hs
  · simp only [List.mem_append, List.mem_singleton, h.out t]
    constructor
    · rintro ⟨h1, h2⟩; exact ⟨Or.inl h1, h2⟩
    · rintro ⟨h1 | rfl, h2⟩
      · exact ⟨h1, h2⟩
      · exact absurd h2 hw
/-- from S to S' by visits of the names in V -/
structure VisRel (d : DesD) (V : List ByteArray) (S S' : List ByteArray) : Prop where
  sub : ∀ t ∈ S, t ∈ S'
  mem : ∀ v ∈ V, v ∈ S'
  rch : ∀ t ∈ S', t ∈ S ∨ ∃ v ∈ V, Reach d v t
  cl : ∀ t ∈ S', t ∉ S → ∀ q (hq : q < d.wires.length), d.wireIdx t = some q → ∀ u ∈ namesS [2] (d.wires[q]'hq).expr, u ∈ S'
theorem VisRel.nil (d : DesD) (S : List ByteArray) : VisRel d [] S S := ⟨fun _ h => h, fun _ h => by simp at h, fun _ h => Or.inl h, fun _ h hn => absurd h hn⟩
theorem VisRel.seen {d : DesD} {S : List ByteArray} {s : ByteArray} (h : s ∈ S) : VisRel d [s] S S := ⟨fun _ h => h, fun v hv => by rw [List.mem_singleton.1 hv]; exact h, fun _ h => Or.inl h, fun _ h hn => absurd h hn⟩
theorem VisRel.trans {d : DesD} {V V' S S' S'' : List ByteArray} (h : VisRel d V S S') (h' : VisRel d V' S' S'') : VisRel d (V ++ V') S S'' := by
  refine ⟨fun t ht => h'.sub t (h.sub t ht), fun v hv => ?_, fun t ht => ?_, fun t ht hn q hq hw u hu => ?_⟩
  · rcases List.mem_append.1 hv with hv | hv
    · exact h'.sub v (h.mem v hv)
    · exact h'.mem v hv
  · rcases h'.rch t ht with h1 | ⟨v, hv, hr⟩
    · rcases h.rch t h1 with h2 | ⟨v, hv, hr⟩
      · exact Or.inl h2
      · exact Or.inr ⟨v, List.mem_append_left _ hv, hr⟩
    · exact Or.inr ⟨v, List.mem_append_right _ hv, hr⟩
  · by_cases h1 : t ∈ S'
    · exact h'.sub u (h.cl t h1 hn q hq hw u hu)
    · exact h'.cl t ht h1 q hq hw u hu
theorem reach_trans {d : DesD} {a b c : ByteArray} (h : Reach d a b) (h' : Reach d b c) : Reach d a c := by
  induction h' with
  | start => exact h
  | step _ hq hw hu ih => exact .step ih hq hw hu
theorem VisRel.leaf {d : DesD} {S : List ByteArray} {s : ByteArray} (hw : d.wireIdx s = none) : VisRel d [s] S (S ++ [s]) := by
  refine ⟨fun t ht => List.mem_append_left _ ht, fun v hv => List.mem_append_right _ hv, fun t ht => ?_, fun t ht hn q hq hq2 u hu => ?_⟩
  · rcases List.mem_append.1 ht with ht | ht
    · exact Or.inl ht
    · rw [List.mem_singleton.1 ht]; exact Or.inr ⟨s, List.mem_singleton.2 rfl, .start⟩
  · rcases List.mem_append.1 ht with ht | ht
    · exact absurd ht hn
    · rw [List.mem_singleton.1 ht, hw] at hq2; simp at hq2
/-- a wire, and then all its operands -/
theorem VisRel.wire {d : DesD} {S S' : List ByteArray} {s : ByteArray} {q : Nat} (hq : q < d.wires.length) (hw : d.wireIdx s = some q) (h : VisRel d (namesS [2] (d.wires[q]'hq).expr) (S ++ [s]) S') : VisRel d [s] S S' := by
  refine ⟨fun t ht => h.sub t (List.mem_append_left _ ht), fun v hv => ?_, fun t ht => ?_, fun t ht hn q2 hq2 hw2 u hu => ?_⟩
  · rw [List.mem_singleton.1 hv]; exact h.sub s (List.mem_append_right _ (List.mem_singleton.2 rfl))
  · rcases h.rch t ht with h1 | ⟨v, hv, hr⟩
    · rcases List.mem_append.1 h1 with h1 | h1
      · exact Or.inl h1
      · rw [List.mem_singleton.1 h1]; exact Or.inr ⟨s, List.mem_singleton.2 rfl, .start⟩
    · exact Or.inr ⟨s, List.mem_singleton.2 rfl, reach_trans (.step .start hq hw hv) hr⟩
  · by_cases h1 : t = s
    · subst h1
      have e : q2 = q := Option.some.inj (hw2.symm.trans hw)
      subst e
      exact h.mem u hu
    · refine h.cl t ht (fun hm => ?_) q2 hq2 hw2 u hu
      rcases List.mem_append.1 hm with hm | hm
      · exact hn hm
      · exact h1 (List.mem_singleton.1 hm)
/-- behind the first call all is reached, and only that -/
theorem vis_done {d : DesD} {nm : ByteArray} {S O : List ByteArray} (h : VisInv d S O) (hr : VisRel d [nm] [] S) : ∀ s, s ∈ O ↔ Reach d nm s ∧ d.wireIdx s = none := by
  have hS : ∀ s, s ∈ S ↔ Reach d nm s := fun s => by
    refine ⟨fun hs => ?_, fun h1 => ?_⟩
    · rcases hr.rch s hs with h1 | ⟨v, hv, h1⟩
      · simp at h1
      · rwa [List.mem_singleton.1 hv] at h1
    · induction h1 with
      | start => exact hr.mem nm (List.mem_singleton.2 rfl)
      | step _ hq hw hu ih => exact hr.cl _ ih (by simp) _ hq hw _ hu
  exact fun s => (h.out s).trans (by rw [hS])
end Go.Proofs.YtihegbjlgpghbaaGreatDoor
