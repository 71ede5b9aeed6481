/- The values of a cycle fit into the widths of their signals, plain; runs begin alike. -/
import Derived.Test.YtihegbjlgpghbaaGreatDoorDB
set_option linter.unusedSimpArgs false
set_option linter.unusedVariables false
set_option linter.unnecessarySimpa false
namespace Go.Proofs.YtihegbjlgpghbaaGreatDoor

/-- each entry fits into its width -/
def FitsAll (ws : List Int) (env : Sigs) : Prop := env.length = ws.length ∧ ∀ i (h : i < env.length) (h' : i < ws.length), 1 ≤ ws[i]'h' ∧ ws[i]'h' ≤ 16 ∧ 0 ≤ (env[i]'h).2 ∧ (env[i]'h).2 < 2 ^ (ws[i]'h').toNat
theorem FitsAll.set {ws : List Int} {env : Sigs} (h : FitsAll ws env) {k : Nat} {s : ByteArray} {v : Int} (hv : ∀ (h' : k < ws.length), 0 ≤ v ∧ v < 2 ^ (ws[k]'h').toNat) : FitsAll ws (env.set k (s, v)) := by
  refine ⟨by rw [List.length_set]; exact h.1, fun i hi hi' => ?_⟩
  rw [List.length_set] at hi
  have h0 := h.2 i hi hi'
  rw [List.getElem_set]
  split
  · rename_i e
    subst e
    exact ⟨h0.1, h0.2.1, hv hi'⟩
  · exact h0
theorem pow_pos2 (w : Int) : (0 : Int) < 2 ^ w.toNat := Int.pow_pos (by decide)
theorem FitsAll.append {w1 w2 : List Int} {e1 e2 : Sigs} (h1 : FitsAll w1 e1) (h2 : FitsAll w2 e2) : FitsAll (w1 ++ w2) (e1 ++ e2) := by
  refine ⟨by rw [List.length_append, List.length_append, h1.1, h2.1], fun i hi hi' => ?_⟩
  by_cases hlt : i < e1.length
  · rw [List.getElem_append_left hlt, List.getElem_append_left (by rw [← h1.1]; exact hlt)]
    exact h1.2 i hlt (by rw [← h1.1]; exact hlt)
  · have hw : w1.length ≤ i := by rw [← h1.1]; omega
    have e : i - e1.length = i - w1.length := by rw [h1.1]
    have hl2 : i - e1.length < e2.length := by rw [List.length_append] at hi; omega
    have hl3 : i - e1.length < w2.length := by rw [← h2.1]; exact hl2
    have hl4 : i - w1.length < w2.length := by rw [← e]; exact hl3
    have g1 : (e1 ++ e2)[i]'hi = e2[i - e1.length]'hl2 := List.getElem_append_right (by omega)
    have g2 : (w1 ++ w2)[i]'hi' = w2[i - e1.length]'hl3 := by
      rw [List.getElem_append_right hw]
      simp only [e]
    rw [g1, g2]
    exact h2.2 (i - e1.length) hl2 hl3
theorem fits_map {α : Type} (l : List α) (f : α → ByteArray × Int) (g : α → Int) (h : ∀ a ∈ l, 1 ≤ g a ∧ g a ≤ 16 ∧ 0 ≤ (f a).2 ∧ (f a).2 < 2 ^ (g a).toNat) : FitsAll (l.map g) (l.map f) := by
  refine ⟨by simp, fun i hi hi' => ?_⟩
  simp only [List.getElem_map]
  exact h _ (List.getElem_mem _)
theorem inputV_fits {d : DesD} (hd : DesOk d) {p : PortD} (hp : p ∈ d.inputs) (inp : Sigs) : 0 ≤ inputV p inp ∧ inputV p inp < 2 ^ p.width.toNat := by
  unfold inputV
  split
  · exact ⟨cutW_lo _ _, cutW_hi _ _⟩
  · exact ⟨Int.le_refl _, pow_pos2 _⟩
theorem start_fits {d : DesD} {st : List Int} (inp : Sigs) (hd : DesOk d) (h : d.stateB st = true) : FitsAll d.widths (startS d st inp) := by
  obtain ⟨hl, hst⟩ := stateB_iff.1 h
  unfold startS DesD.widths
  refine FitsAll.append (FitsAll.append ?_ ?_) ?_
  · exact fits_map _ _ _ fun p hp => ⟨(input_width hd hp).1, (input_width hd hp).2, inputV_fits hd hp inp⟩
  · exact fits_map _ _ _ fun p hp => ⟨(wire_width hd hp).1, (wire_width hd hp).2, Int.le_refl _, pow_pos2 _⟩
  · unfold DesD.sts
    refine ⟨by simp [hl], fun i hi hi' => ?_⟩
    have h1 : i < d.regs.length := by simpa using hi'
    have := hst i h1 (by omega)
    simp only [List.getElem_zipWith, List.getElem_map]
    exact this
theorem settle_fits {d : DesD} {st : List Int} (inp : Sigs) (hd : DesOk d) (h : d.stateB st = true) : FitsAll d.widths (settleS d st inp) := by
  unfold settleS
  have hlt := order_lt d
  generalize d.order = os at hlt
  have h0 := start_fits inp hd h
  generalize startS d st inp = env at h0
  unfold prgE
  induction os generalizing env with
  | nil => exact h0
  | cons i os ih =>
    rw [List.foldl_cons]
    refine ih (fun j hj => hlt j (List.mem_cons_of_mem _ hj)) _ (h0.set fun hk => ?_)
    have hi := hlt i List.mem_cons_self
    rw [wireV_at hi]
    have hw : d.widths[d.inputs.length + i]'hk = (d.wires[i]'hi).width := by
      have h1 : d.widths[d.inputs.length + i]? = some (d.wires[i]'hi).width := by
        unfold DesD.widths
        rw [List.append_assoc, List.getElem?_append_right (by simp), List.getElem?_append_left (by simp; omega)]
        simp [hi]
      rw [List.getElem?_eq_getElem hk] at h1
      exact Option.some.inj h1
    rw [hw]
    exact ⟨cutW_lo _ _, cutW_hi _ _⟩
/-- a run of the first rows is the beginning of the run -/
theorem getD_take (rows : List Sigs) (k t : Nat) (h : t < k) : (rows.take k).getD t [] = rows.getD t [] := by
  rw [List.getD_eq_getElem?_getD, List.getD_eq_getElem?_getD, List.getElem?_take_of_lt h]
theorem stN_take (d : DesD) (rows : List Sigs) (k : Nat) : ∀ t, t ≤ k → stN d (rows.take k) t = stN d rows t := by
  intro t
  induction t with
  | zero => intro _; rfl
  | succ t ih =>
    intro h
    show nextS d (settleS d (stN d (rows.take k) t) ((rows.take k).getD t [])) = _
    rw [ih (by omega), getD_take _ _ _ (by omega)]
    rfl
theorem rowN_take2 (d : DesD) (rows : List Sigs) (k t : Nat) (h : t < k) : rowN d (rows.take k) t = rowN d rows t := by
  unfold rowN
  rw [stN_take d rows k t (by omega), getD_take _ _ _ h]
end Go.Proofs.YtihegbjlgpghbaaGreatDoor

/- A wire depends on the signals of its cone alone, plain. -/
namespace Go.Proofs.YtihegbjlgpghbaaGreatDoor

def InR (R : List ByteArray) (s : ByteArray) : Prop := ∃ r ∈ R, r.toList = s.toList
/-- a set of names that contains the operands of its wires -/
def ClosedR (d : DesD) (R : List ByteArray) : Prop := ∀ i (h : i < d.wires.length), InR R (d.wires[i]'h).name → ∀ s ∈ namesS [2] (d.wires[i]'h).expr, InR R s
theorem findS_valS (l : Sigs) (s : ByteArray) : findS l s = (valS l s).map wrapW := by
  induction l with
  | nil => rfl
  | cons x l ih =>
    unfold findS valS
    by_cases h : x.1.toList = s.toList
    · rw [if_pos (by simpa using h), if_pos h]; rfl
    · rw [if_neg (by simpa using h), if_neg h, ih]
theorem valS_snoc (l : Sigs) (x : ByteArray × Int) (s : ByteArray) : valS (l ++ [x]) s = (valS l s).or (if x.1.toList = s.toList then some x.2 else none) := by
  induction l with
  | nil =>
    show valS [x] s = _
    unfold valS
    by_cases h : x.1.toList = s.toList
    · rw [if_pos h]; simp [valS, h]
    · rw [if_neg h]; simp [valS, h]
  | cons y l ih =>
    rw [List.cons_append]
    unfold valS
    by_cases h : y.1.toList = s.toList
    · rw [if_pos h, if_pos h]; rfl
    · rw [if_neg h, if_neg h, ih]
theorem valS_pos {R : List ByteArray} : ∀ (l m : Sigs), l.map (·.1) = m.map (·.1) → (∀ i (h : i < l.length) (h' : i < m.length), InR R (l[i]'h).1 → (l[i]'h).2 = (m[i]'h').2) → ∀ s, InR R s → valS l s = valS m s := by
  intro l
  induction l with
  | nil =>
    intro m hm _ s _
    cases m with
    | nil => rfl
    | cons y m => simp at hm
  | cons x l ih =>
    intro m hm hv s hs
    cases m with
    | nil => simp at hm
    | cons y m =>
      simp only [List.map_cons, List.cons.injEq] at hm
      unfold valS
      rw [← hm.1]
      by_cases h : x.1.toList = s.toList
      · rw [if_pos h, if_pos h]
        have := hv 0 (by simp) (by simp) (by obtain ⟨r, hr, he⟩ := hs; exact ⟨r, hr, by rw [he]; exact h.symm⟩)
        exact congrArg some this
      · rw [if_neg h, if_neg h]
        exact ih m hm.2 (fun i hi hi' hR => hv (i + 1) (by simpa using hi) (by simpa using hi') hR) s hs
theorem ref_agree {d : DesD} {R : List ByteArray} (hd : DesOk d) (hC : ClosedR d R) (os : List Nat) (hos : ∀ i ∈ os, i < d.wires.length) : ∀ (A B : Sigs), (∀ s, InR R s → valS A s = valS B s) → ∀ s, InR R s → valS (refE (wireN d) (wireV d) A os) s = valS (refE (wireN d) (wireV d) B os) s := by
  unfold refE
  induction os with
  | nil => intro A B h s hs; exact h s hs
  | cons i os ih =>
    intro A B h s hs
    rw [List.foldl_cons, List.foldl_cons]
    refine ih (fun j hj => hos j (List.mem_cons_of_mem _ hj)) _ _ (fun t ht => ?_) s hs
    rw [valS_snoc, valS_snoc, h t ht]
    by_cases hn : (wireN d i).toList = t.toList
    · have hi := hos i List.mem_cons_self
      have hR : InR R (d.wires[i]'hi).name := by
        obtain ⟨r, hr, he⟩ := ht
        exact ⟨r, hr, by rw [he, ← hn, wireN_at hi]⟩
      obtain ⟨_, ha, _⟩ := hd.exprs (d.wires[i]'hi).expr (wire_expr hi)
      have hv : wireV d A i = wireV d B i := by
        rw [wireV_at hi, wireV_at hi, evalS_agree (env := A) (env' := B) ha fun u hu => by rw [findS_valS, findS_valS, h u (hC i hi hR u hu)]]
      rw [hv]
    · simp [hn]
theorem cone_keep {d : DesD} {R : List ByteArray} (hd : DesOk d) (hC : ClosedR d R) {st st' : List Int} (h1 : st.length = d.regs.length) (h2 : st'.length = d.regs.length) (inp inp' : Sigs)
    (hI : ∀ p ∈ d.inputs, InR R p.name → inputV p inp = inputV p inp') (hS : ∀ i (h : i < d.regs.length) (a : i < st.length) (b : i < st'.length), InR R (d.regs[i]'h).name → st[i]'a = st'[i]'b) (s : ByteArray) (hs : InR R s) : valS (settleS d st inp) s = valS (settleS d st' inp') s := by
  rw [← settle_ref inp hd h1, ← settle_ref inp' hd h2]
  have hb : ∀ t, InR R t → valS (baseS d st inp) t = valS (baseS d st' inp') t := by
    refine valS_pos _ _ ?_ ?_
    · unfold baseS
      rw [List.map_append, List.map_append, ins_names, ins_names, sts_names h1, sts_names h2]
    · intro i hi hi' hR
      unfold baseS at hi hi' hR ⊢
      by_cases hlt : i < d.inputs.length
      · have e1 : i < (d.ins inp).length := by simpa [DesD.ins] using hlt
        have e2 : i < (d.ins inp').length := by simpa [DesD.ins] using hlt
        rw [List.getElem_append_left e1] at hR ⊢
        rw [List.getElem_append_left e2]
        simp only [DesD.ins, List.getElem_map] at hR ⊢
        exact hI _ (List.getElem_mem hlt) hR
      · have e1 : (d.ins inp).length ≤ i := by simp [DesD.ins]; omega
        have e2 : (d.ins inp').length ≤ i := by simp [DesD.ins]; omega
        rw [List.getElem_append_right e1] at hR ⊢
        rw [List.getElem_append_right e2]
        have l1 : (d.ins inp).length = d.inputs.length := by simp [DesD.ins]
        have l2 : (d.ins inp').length = d.inputs.length := by simp [DesD.ins]
        simp only [DesD.sts, List.getElem_zipWith, l1, l2] at hR ⊢
        exact hS _ _ _ _ hR
  refine valS_pos _ _ (by rw [List.map_map, List.map_map]; rfl) (fun i hi hi' hR => ?_) s hs
  simp only [List.getElem_map] at hR ⊢
  have := ref_agree hd hC d.order (order_lt d) _ _ hb _ hR
  unfold refS
  rw [this]
theorem cutW_zero (w : Int) : cutW 0 w = 0 := by unfold cutW; have : wrapW 0 = 0 := by decide
                                                 rw [this]; exact Int.zero_emod _
/-- inputs that are laid anew, each under its own name -/
def newIns (d : DesD) (pick : Nat → Sigs) : Sigs := (List.range d.inputs.length).map fun i => ((d.inputs.getD i ⟨⟨#[]⟩, 0⟩).name, (valS (pick i) (d.inputs.getD i ⟨⟨#[]⟩, 0⟩).name).getD 0)
theorem newIns_at {d : DesD} {pick : Nat → Sigs} {i : Nat} (h : i < d.inputs.length) : (newIns d pick)[i]? = some ((d.inputs[i]'h).name, (valS (pick i) (d.inputs[i]'h).name).getD 0) := by
  unfold newIns
  rw [List.getElem?_map, List.getElem?_range h]
  simp [h]
theorem newIns_val {d : DesD} (hd : DesOk d) {pick : Nat → Sigs} {i : Nat} (h : i < d.inputs.length) : valS (newIns d pick) (d.inputs[i]'h).name = some ((valS (pick i) (d.inputs[i]'h).name).getD 0) := by
  have hl : (newIns d pick).length = d.inputs.length := by simp [newIns]
  have hdup : dupT (d.inputs.map (·.name)) = false := by
    have := hd.names
    unfold DesD.names at this
    exact (dupT_append (dupT_append this).1).1
  cases hv : valS (newIns d pick) (d.inputs[i]'h).name with
  | none =>
    have := valS_none.1 hv _ (List.mem_of_getElem? (newIns_at h))
    exact absurd rfl this
  | some v =>
    obtain ⟨x, hx, he, rfl⟩ := valS_entry hv
    obtain ⟨j, hj, rfl⟩ := List.getElem_of_mem hx
    have hj' : j < d.inputs.length := by rw [← hl]; exact hj
    have h2 := newIns_at (d := d) (pick := pick) hj'
    rw [List.getElem?_eq_getElem hj] at h2
    have h3 := Option.some.inj h2
    rw [h3] at he ⊢
    have := dupT_false.1 hdup j i (by simpa using hj') (by simpa using h) (by simpa using he)
    subst this
    rfl
theorem newIns_input {d : DesD} (hd : DesOk d) {pick : Nat → Sigs} {i : Nat} (h : i < d.inputs.length) {inp : Sigs} (hp : pick i = inp) : inputV (d.inputs[i]'h) inp = inputV (d.inputs[i]'h) (newIns d pick) := by
  unfold inputV
  rw [newIns_val hd h, hp]
  cases hv : valS inp (d.inputs[i]'h).name with
  | none => exact (cutW_zero _).symm
  | some v => rfl
end Go.Proofs.YtihegbjlgpghbaaGreatDoor
