/- exprtext.text: all valid expressions without arrays. -/
import Derived.Test.YtihegbjlgpghbaaGreatDoorEL
import Derived.Test.YtihegbjlgpghbaaGreatDoorDV
import Derived.Lib.ItoaLen
import Derived.Lib.AppendIntMem
import Derived.Lib.SmallJoins
import Derived.Laws.BytesArg
set_option linter.unusedSimpArgs false
set_option linter.unusedVariables false
set_option linter.unnecessarySimpa false
namespace Go.Proofs.YtihegbjlgpghbaaGreatDoor
open Go.RowKit
attribute [local go_sem ↓] Go.wp_at_zero Go.wp_at_succ

/-- the text of an expression, out of those of its operands -/
def opAtK (e : Ex) (k : Nat) : Int := (e.args[k]?.map Ex.op).getD 0
def argT (e : Ex) (ls : List ByteArray) (k : Nat) (need : Int) : ByteArray := parS need (opAtK e k) (ls.getD k .empty)
def textF (e : Ex) (ls : List ByteArray) : ByteArray :=
  match binS e.op with
  | some (m, _, l) => binT (argT e ls 0 (lftL l)) m (argT e ls 1 (rgtL l))
  | none =>
    if e.op = 4 ∨ e.op = 5 ∨ e.op = 6 then preS e.op ++ argT e ls 0 13
    else if e.op = 22 then ifT (argT e ls 0 2) (argT e ls 1 1) (argT e ls 2 1)
    else if e.op = 23 then inT (argT e ls 0 9) (joinT (pairL (fun i => ls.getD i .empty) ((e.args.length - 1) / 2)))
    else if e.op = 1 then fmtS e.n
    else if e.op = 25 then onesT (ls.getD 0 .empty)
    else e.name
noncomputable def textS (e : Ex) : ByteArray := e.para textF
theorem textS_eq (e : Ex) : textS e = textF e (e.args.map textS) := by unfold textS; rw [Ex.para_eq]
/-- what the texts ask of an expression -/
def NodOk (x : Ex) : Prop := nodeS x = 0 ∧ x.op ≠ 3 ∧ x.op ≠ 24 ∧ x.name.size ≤ 1073741824 ∧ (x.op = 2 → Lib.indexByte x.name.data.toList 91 < 0)
def TxOk (e : Ex) : Prop := ∀ x ∈ e.nodes, NodOk x
theorem TxOk.arg {e x : Ex} (h : TxOk e) (hx : x ∈ e.args) : TxOk x := fun y hy => h y (by rw [Ex.nodes_eq]; exact List.mem_cons_of_mem _ (List.mem_flatten.2 ⟨_, List.mem_map.2 ⟨x, hx, rfl⟩, hy⟩))
theorem nodes_at {e : Ex} {k : Nat} (hk : k < e.args.length) : (e.args[k]'hk).nodes.length < e.nodes.length := by
  have h1 := preN_succ e.args hk
  have h2 : preN e.args (k + 1) ≤ e.nodes.length := by
    rw [← preN_all]
    unfold preN
    have : (((e.args.take (k + 1)).map Ex.nodes).flatten).length ≤ (((e.args.take e.args.length).map Ex.nodes).flatten).length := by
      rw [List.take_of_length_le (Nat.le_refl _)]
      have h := congrArg (fun l => ((l.map Ex.nodes).flatten).length) (List.take_append_drop (k + 1) e.args)
      simp only [List.map_append, List.flatten_append, List.length_append] at h
      omega
    omega
  have h3 : 1 ≤ preN e.args k := by unfold preN; omega
  omega
theorem nodes_arg {e x : Ex} (hx : x ∈ e.args) : x.nodes.length < e.nodes.length := by
  obtain ⟨k, hk, rfl⟩ := List.getElem_of_mem hx
  exact nodes_at hk
theorem binS_none {op : Int} (h : op < 7 ∨ 21 < op) : binS op = none := by
  refine binS_no fun j hj => ?_
  have : j = 0 ∨ j = 1 ∨ j = 2 ∨ j = 3 ∨ j = 4 ∨ j = 5 ∨ j = 6 ∨ j = 7 ∨ j = 8 ∨ j = 9 ∨ j = 10 ∨ j = 11 ∨ j = 12 ∨ j = 13 ∨ j = 14 := by omega
  rcases this with rfl | rfl | rfl | rfl | rfl | rfl | rfl | rfl | rfl | rfl | rfl | rfl | rfl | rfl | rfl <;> (simp [opAt, opsL]; omega)
theorem binS_some {op : Int} (h : 7 ≤ op) (h2 : op ≤ 21) : ∃ m o l, binS op = some (m, o, l) := by
  have : op = 7 ∨ op = 8 ∨ op = 9 ∨ op = 10 ∨ op = 11 ∨ op = 12 ∨ op = 13 ∨ op = 14 ∨ op = 15 ∨ op = 16 ∨ op = 17 ∨ op = 18 ∨ op = 19 ∨ op = 20 ∨ op = 21 := by omega
  rcases this with rfl | rfl | rfl | rfl | rfl | rfl | rfl | rfl | rfl | rfl | rfl | rfl | rfl | rfl | rfl <;> exact ⟨_, _, _, rfl⟩
theorem NodOk.node {x : Ex} (h : NodOk x) : 1 ≤ x.op ∧ x.op ≤ 25 ∧ (x.op = 1 → 0 ≤ x.n ∧ x.n ≤ 65535) ∧ operandsB x.op x.args.length = true := by
  have h0 := h.1
  unfold nodeS at h0
  split at h0
  · simp at h0
  · rename_i h1
    split at h0
    · simp at h0
    · rename_i h2
      split at h0
      · simp at h0
      · rename_i h3
        refine ⟨by omega, by omega, fun h4 => by omega, ?_⟩
        cases ho : operandsB x.op x.args.length
        · exact absurd (Or.inr ho) h3
        · rfl
/-- the shapes -/
inductive Shape : Ex → Prop where
  | con (n : Int) (nm : ByteArray) (args : List Ex) (h0 : 0 ≤ n) (h1 : n ≤ 65535) : Shape (.mk 1 n nm args)
  | var (n : Int) (nm : ByteArray) (args : List Ex) (h : Lib.indexByte nm.data.toList 91 < 0) : Shape (.mk 2 n nm args)
  | pre (op n : Int) (nm : ByteArray) (x : Ex) (h : op = 4 ∨ op = 5 ∨ op = 6) : Shape (.mk op n nm [x])
  | bin (op n : Int) (nm : ByteArray) (x y : Ex) (m : ByteArray) (o l : Int) (h : binS op = some (m, o, l)) : Shape (.mk op n nm [x, y])
  | ite (n : Int) (nm : ByteArray) (x y z : Ex) : Shape (.mk 22 n nm [x, y, z])
  | ins (n : Int) (nm : ByteArray) (args : List Ex) (K : Nat) (h : args.length = 1 + 2 * K) (h1 : 1 ≤ K) (h2 : K ≤ 16) : Shape (.mk 23 n nm args)
  | ones (n : Int) (nm : ByteArray) (x : Ex) : Shape (.mk 25 n nm [x])
theorem NodOk.shape {e : Ex} (h : NodOk e) : Shape e := by
  obtain ⟨h1, h2, h3, h4⟩ := h.node
  obtain ⟨_, n3, n24, _, hv⟩ := h
  obtain ⟨op, n, nm, args⟩ := e
  simp only [Ex.op_mk, Ex.n_mk, Ex.name_mk, Ex.args_mk] at h1 h2 h3 h4 n3 n24 hv
  have hc : op = 1 ∨ op = 2 ∨ (op = 4 ∨ op = 5 ∨ op = 6) ∨ (7 ≤ op ∧ op ≤ 21) ∨ op = 22 ∨ op = 23 ∨ op = 25 := by omega
  rcases hc with rfl | rfl | hc | ⟨c1, c2⟩ | rfl | rfl | rfl
  · exact .con n nm args (h3 rfl).1 (h3 rfl).2
  · exact .var n nm args (hv rfl)
  · have ha : arityS op = 1 := by unfold arityS; rw [if_neg (by omega), if_pos (by omega)]
    unfold operandsB at h4
    rw [if_neg (by omega), ha] at h4
    have hl : args.length = 1 := by have := of_decide_eq_true h4; omega
    match args, hl with
    | [x], _ => exact .pre op n nm x hc
  · obtain ⟨m, o, l, hb⟩ := binS_some c1 c2
    have ha : arityS op = 2 := by unfold arityS; rw [if_neg (by omega), if_neg (by omega), if_neg (by omega), if_neg (by omega), if_neg (by omega)]
    unfold operandsB at h4
    rw [if_neg (by omega), ha] at h4
    have hl : args.length = 2 := by have := of_decide_eq_true h4; omega
    match args, hl with
    | [x, y], _ => exact .bin op n nm x y m o l hb
  · have hl : args.length = 3 := by have := of_decide_eq_true h4; simp [arityS] at this; omega
    match args, hl with
    | [x, y, z], _ => exact .ite n nm x y z
  · have hl : args.length % 2 = 1 ∧ 3 ≤ args.length ∧ args.length ≤ 33 := of_decide_eq_true h4
    exact .ins n nm args ((args.length - 1) / 2) (by omega) (by omega) (by omega)
  · have hl : args.length = 1 := by have := of_decide_eq_true h4; simp [arityS] at this; omega
    match args, hl with
    | [x], _ => exact .ones n nm x
theorem parS_size (need op : Int) (s : ByteArray) : (parS need op s).size ≤ s.size + 2 := by
  unfold parS
  split
  · simp only [ByteArray.size_append]; show 1 + s.size + 1 ≤ _; omega
  · omega
theorem fmt_size {n : Int} (h0 : 0 ≤ n) (h1 : n ≤ 65535) : (fmtS n).size ≤ 21 := by
  have := Lib.itoa_length_le n (by omega) (by omega)
  unfold fmtS
  simp only [ByteArray.size]
  simpa using this
theorem join_len (l : List ByteArray) : (joinT l).size ≤ (l.map fun s => s.size + 2).sum := by
  have hz : ∀ s : ByteArray, s.data.toList.length = s.size := fun s => Array.length_toList
  unfold joinT
  simp only [ByteArray.size, List.size_toArray]
  cases l with
  | nil => simp [Lib.join_nil]
  | cons x r =>
    rw [List.map_cons, Lib.join_cons, List.length_append]
    have : ∀ r : List ByteArray, (Lib.joinTail [44, 32] (r.map (·.data.toList))).length = (r.map fun s => s.size + 2).sum := by
      intro r
      induction r with
      | nil => rfl
      | cons y r ih =>
        unfold Lib.joinTail at ih ⊢
        simp only [List.map_cons, List.flatten_cons, List.length_append, List.sum_cons, List.length_cons, List.length_nil, hz]
        simp only [List.map_map] at ih ⊢
        omega
    rw [this, List.map_cons, List.sum_cons, hz]
    simp only [ByteArray.size]
    omega
theorem pair_sum (T : Nat → ByteArray) (args : List Ex) (h : ∀ i (hi : i < args.length), (T i).size + 8 ≤ (args[i]'hi).nodes.length * 1073742080) :
    ∀ k, 1 + 2 * k ≤ args.length → ((pairL T k).map fun s => s.size + 2).sum + preN args 1 * 1073742080 ≤ preN args (1 + 2 * k) * 1073742080 := by
  intro k
  induction k with
  | zero => intro _; simp [pairL]
  | succ k ih =>
    intro hk
    have h1 := ih (by omega)
    have e1 := preN_succ args (k := 1 + 2 * k) (by omega)
    have e2 := preN_succ args (k := 1 + 2 * k + 1) (by omega)
    have t1 := h (1 + 2 * k) (by omega)
    have t2 := h (1 + 2 * k + 1) (by omega)
    have e3 : 1 + 2 * (k + 1) = 1 + 2 * k + 1 + 1 := by omega
    have e4 : (pairL T (k + 1)) = pairL T k ++ [pairT (T (1 + 2 * k)) (T (1 + 2 * k + 1))] := by unfold pairL; rw [List.range_succ]; simp
    have e5 : (pairT (T (1 + 2 * k)) (T (1 + 2 * k + 1))).size = (T (1 + 2 * k)).size + 4 + (T (1 + 2 * k + 1)).size := by unfold pairT; simp only [ByteArray.size_append]; rfl
    rw [e3, e2, e1, e4, List.map_append, List.sum_append]
    simp only [List.map_cons, List.map_nil, List.sum_cons, List.sum_nil, e5]
    omega
theorem getD_map {l : List Ex} {i : Nat} (hi : i < l.length) : (l.map textS).getD i .empty = textS (l[i]'hi) := by
  rw [List.getD_eq_getElem?_getD, List.getElem?_map, List.getElem?_eq_getElem hi]; rfl
theorem opAtK_at {e : Ex} {k : Nat} (hk : k < e.args.length) : opAtK e k = (e.args[k]'hk).op := by unfold opAtK; rw [List.getElem?_eq_getElem hk]; rfl
theorem nodes_oneT (op n : Int) (nm : ByteArray) (x : Ex) : (Ex.mk op n nm [x]).nodes.length = 1 + x.nodes.length := by rw [Ex.nodes_eq]; simp [Ex.args_mk]; omega
theorem nodes_two (op n : Int) (nm : ByteArray) (x y : Ex) : (Ex.mk op n nm [x, y]).nodes.length = 1 + x.nodes.length + y.nodes.length := by rw [Ex.nodes_eq]; simp [Ex.args_mk]; omega
theorem nodes_three (op n : Int) (nm : ByteArray) (x y z : Ex) : (Ex.mk op n nm [x, y, z]).nodes.length = 1 + x.nodes.length + y.nodes.length + z.nodes.length := by rw [Ex.nodes_eq]; simp [Ex.args_mk]; omega
theorem nodes_pos (e : Ex) : 1 ≤ e.nodes.length := by rw [Ex.nodes_eq]; simp
theorem tS_pre (op n : Int) (nm : ByteArray) (x : Ex) (h : op = 4 ∨ op = 5 ∨ op = 6) : textS (.mk op n nm [x]) = preS op ++ parS 13 x.op (textS x) := by
  rw [textS_eq]
  unfold textF
  rw [show (Ex.mk op n nm [x]).op = op from rfl, binS_none (by omega)]
  simp only [if_pos h]
  rfl
theorem tS_bin (op n : Int) (nm : ByteArray) (x y : Ex) {m : ByteArray} {o l : Int} (h : binS op = some (m, o, l)) : textS (.mk op n nm [x, y]) = binT (parS (lftL l) x.op (textS x)) m (parS (rgtL l) y.op (textS y)) := by
  rw [textS_eq]
  unfold textF
  rw [show (Ex.mk op n nm [x, y]).op = op from rfl, h]
  rfl
theorem tS_if (n : Int) (nm : ByteArray) (x y z : Ex) : textS (.mk 22 n nm [x, y, z]) = ifT (parS 2 x.op (textS x)) (parS 1 y.op (textS y)) (parS 1 z.op (textS z)) := by rw [textS_eq]; rfl
theorem tS_in (n : Int) (nm : ByteArray) (args : List Ex) (K : Nat) (h : args.length = 1 + 2 * K) : textS (.mk 23 n nm args) = inT (argT (.mk 23 n nm args) (args.map textS) 0 9) (joinT (pairL (fun i => (args.map textS).getD i .empty) K)) := by
  rw [textS_eq]
  unfold textF
  rw [show (Ex.mk 23 n nm args).op = 23 from rfl, show binS 23 = none from rfl]
  simp only [Ex.args_mk]
  rw [show (args.length - 1) / 2 = K by omega]
  rfl
theorem tS_ones (n : Int) (nm : ByteArray) (x : Ex) : textS (.mk 25 n nm [x]) = onesT (textS x) := by rw [textS_eq]; rfl
theorem tS_con (n : Int) (nm : ByteArray) (args : List Ex) : textS (.mk 1 n nm args) = fmtS n := by rw [textS_eq]; rfl
theorem tS_var (n : Int) (nm : ByteArray) (args : List Ex) : textS (.mk 2 n nm args) = nm := by rw [textS_eq]; rfl
theorem text_size (e : Ex) : TxOk e → (textS e).size + 8 ≤ e.nodes.length * 1073742080 := by
  induction e using Ex.ind with
  | _ e ih =>
    intro hok
    have hnd := hok e (self_node e)
    have hnm := hnd.2.2.2.1
    have hsh := hnd.shape
    cases hsh with
    | con n nm args h0 h1 =>
      have := fmt_size h0 h1
      have := nodes_pos (.mk 1 n nm args)
      rw [tS_con]; omega
    | var n nm args h =>
      have := nodes_pos (.mk 2 n nm args)
      simp only [Ex.name_mk] at hnm
      rw [tS_var]; omega
    | pre op n nm x h =>
      have h1 := ih x (by simp [Ex.args_mk]) (hok.arg (by simp [Ex.args_mk]))
      have h2 := parS_size 13 x.op (textS x)
      have h3 : (preS op).size ≤ 1 := by rcases h with rfl | rfl | rfl <;> decide
      rw [tS_pre op n nm x h, nodes_oneT, ByteArray.size_append]
      omega
    | bin op n nm x y m o l h =>
      have h1 := ih x (by simp [Ex.args_mk]) (hok.arg (by simp [Ex.args_mk]))
      have h2 := ih y (by simp [Ex.args_mk]) (hok.arg (by simp [Ex.args_mk]))
      have h3 := parS_size (lftL l) x.op (textS x)
      have h4 := parS_size (rgtL l) y.op (textS y)
      have h5 := binS_size h
      rw [tS_bin op n nm x y h, nodes_two]
      unfold binT
      simp only [ByteArray.size_append]
      show (parS (lftL l) x.op (textS x)).size + 1 + m.size + 1 + (parS (rgtL l) y.op (textS y)).size + 8 ≤ _
      omega
    | ite n nm x y z =>
      have h1 := ih x (by simp [Ex.args_mk]) (hok.arg (by simp [Ex.args_mk]))
      have h2 := ih y (by simp [Ex.args_mk]) (hok.arg (by simp [Ex.args_mk]))
      have h3 := ih z (by simp [Ex.args_mk]) (hok.arg (by simp [Ex.args_mk]))
      have h4 := parS_size 2 x.op (textS x)
      have h5 := parS_size 1 y.op (textS y)
      have h6 := parS_size 1 z.op (textS z)
      rw [tS_if, nodes_three]
      unfold ifT
      simp only [ByteArray.size_append]
      show (parS 2 x.op (textS x)).size + 3 + (parS 1 y.op (textS y)).size + 3 + (parS 1 z.op (textS z)).size + 8 ≤ _
      omega
    | ins n nm args K h h1 h2 =>
      have hT : ∀ i (hi : i < args.length), ((args.map textS).getD i .empty).size + 8 ≤ (args[i]'hi).nodes.length * 1073742080 := fun i hi => by
        rw [getD_map hi]
        exact ih _ (List.getElem_mem hi) (hok.arg (List.getElem_mem hi))
      have hp := pair_sum (fun i => (args.map textS).getD i .empty) args hT K (by omega)
      have hj := join_len (pairL (fun i => (args.map textS).getD i .empty) K)
      have h0 := hT 0 (by omega)
      have e1 := preN_succ args (k := 0) (by omega)
      have e0 : preN args 0 = 1 := by simp [preN]
      have ea : preN args (1 + 2 * K) = (Ex.mk 23 n nm args).nodes.length := by rw [← h]; exact preN_all (.mk 23 n nm args)
      have h4 := parS_size 9 (opAtK (.mk 23 n nm args) 0) ((args.map textS).getD 0 .empty)
      rw [tS_in n nm args K h, ← ea]
      unfold inT argT
      simp only [ByteArray.size_append]
      show (parS 9 (opAtK (.mk 23 n nm args) 0) ((args.map textS).getD 0 .empty)).size + 10 + (joinT (pairL (fun i => (args.map textS).getD i .empty) K)).size + 2 + 8 ≤ _
      rw [e0] at e1
      simp only [Nat.zero_add] at e1
      rw [e1] at hp
      omega
    | ones n nm x =>
      have h1 := ih x (by simp [Ex.args_mk]) (hok.arg (by simp [Ex.args_mk]))
      rw [tS_ones, nodes_oneT]
      unfold onesT
      simp only [ByteArray.size_append]
      show 5 + (textS x).size + 1 + 8 ≤ _
      omega
theorem text_all {B : Nat} {w0 : World} (hF : ∀ n : Int, 0 ≤ n → n ≤ 65535 → FmtC B w0 n) (e : Ex) : TxOk e → e.nodes.length ≤ 400 → TextC B w0 e (textS e) := by
  induction e using Ex.ind with
  | _ e ih =>
    intro hok hn
    have hsz := text_size e hok
    have hnd := hok e (self_node e)
    have hc : ∀ x ∈ e.args, TextC B w0 x (textS x) ∧ (textS x).size ≤ 549755813888 := fun x hx => by
      have h1 := nodes_arg hx
      have h2 := text_size x (hok.arg hx)
      exact ⟨ih x hx (hok.arg hx) (by omega), by omega⟩
    have hA : ∀ x ∈ e.args, ∀ need, AtC B w0 x need (parS need x.op (textS x)) ∧ (parS need x.op (textS x)).size ≤ 1099511627776 := fun x hx need => by
      obtain ⟨h1, h2⟩ := hc x hx
      have h3 := parS_size need x.op (textS x)
      exact ⟨at_of h1 (by omega) need, by omega⟩
    have hsh := hnd.shape
    cases hsh with
    | con n nm args h0 h1 => rw [tS_con]; exact text_const n nm args (hF n h0 h1)
    | var n nm args h => rw [tS_var]; exact text_var n nm args h
    | pre op n nm x h =>
      have h1 := hA x (by simp [Ex.args_mk]) 13
      rw [tS_pre op n nm x h]
      exact text_pre op n nm h h1.1 h1.2
    | bin op n nm x y m o l h =>
      have h1 := hA x (by simp [Ex.args_mk]) (lftL l)
      have h2 := hA y (by simp [Ex.args_mk]) (rgtL l)
      rw [tS_bin op n nm x y h]
      exact text_bin op n nm h h1.1 h2.1 h1.2 h2.2
    | ite n nm x y z =>
      have h1 := hA x (by simp [Ex.args_mk]) 2
      have h2 := hA y (by simp [Ex.args_mk]) 1
      have h3 := hA z (by simp [Ex.args_mk]) 1
      rw [tS_if]
      exact text_if n nm h1.1 h2.1 h3.1 h1.2 h2.2 h3.2
    | ins n nm args K h h1 h2 =>
      have hz : (inT (argT (.mk 23 n nm args) (args.map textS) 0 9) (joinT (pairL (fun i => (args.map textS).getD i .empty) K))).size + 8 ≤ (Ex.mk 23 n nm args).nodes.length * 1073742080 := by rw [← tS_in n nm args K h]; exact hsz
      unfold inT at hz
      simp only [ByteArray.size_append] at hz
      have h0 : 0 < args.length := by omega
      have ha := hA (args[0]'h0) (List.getElem_mem h0) 9
      have hae : argT (.mk 23 n nm args) (args.map textS) 0 9 = parS 9 (args[0]'h0).op (textS (args[0]'h0)) := by
        unfold argT
        rw [getD_map h0, opAtK_at (e := .mk 23 n nm args) h0]
        rfl
      rw [tS_in n nm args K h, hae]
      rw [hae] at hz
      refine text_in n nm args h h1 (by omega) (fun _ => ha.1) (fun i hi => ?_) (fun i hi => ?_) ha.2 (by omega)
      · rw [getD_map hi]; exact (hc _ (List.getElem_mem hi)).1
      · rw [getD_map hi]; exact (hc _ (List.getElem_mem hi)).2
    | ones n nm x =>
      have h1 := hc x (by simp [Ex.args_mk])
      rw [tS_ones]
      exact text_ones n nm h1.1 (by omega)
theorem fmt_any (w : World) (hT : Lib.TabIs Tryz.prog w "internal/strconv.uint64pow10" .u64 Lib.pow10Tab) (n : Int) (h0 : 0 ≤ n) (h1 : n ≤ 65535) : FmtC w.heap.size w n := by
  intro W hW
  have hTW : Lib.TabIs Tryz.prog W "internal/strconv.uint64pow10" .u64 Lib.pow10Tab := Go.Joins.tab_stays (g := 1) (by kernel_rfl) hT hW (Nat.le_refl _)
  have HI : Hid (Calls Tryz.prog 119 #[.int .i64 n] W fun e w' => e = .returned (.string (fmtS n)) ∧ Below W.heap.size W w') := (Tryz.strconv_Itoa n (by omega) (by omega) W hTW).mono fun e w' h => by
    obtain ⟨h1, k, os, rfl⟩ := h
    exact ⟨h1, Lib.below_grow _ _ (Nat.le_refl _) _ _⟩
  have HP : Hid (∀ w', Below W.heap.size W w' → SPost (fmtS n) W (.returned (.string (fmtS n))) w') := fun w' h => ⟨rfl, h⟩
  generalize SPost (fmtS n) W = Po at HP ⊢
  generalize fmtS n = s at HI HP
  clear hTW hW
  go_enter Tryz.func78, Tryz.ntmps78
  go_wp2_with fail
  refine HI.out.mono ?_
  rintro e w1 ⟨rfl, hb1⟩
  have HPe := Lib.hid (HP.out w1 hb1)
  clear hb1
  go_wp2_with fail
  first | exact HPe.out | (go_ret; exact HPe.out)
end Go.Proofs.YtihegbjlgpghbaaGreatDoor

/- ref01.Format, ref03.Number, ref09.decimal. -/
namespace Go.Proofs.YtihegbjlgpghbaaGreatDoor
open Go.RowKit
attribute [local go_sem ↓] Go.wp_at_zero Go.wp_at_succ

end Go.Proofs.YtihegbjlgpghbaaGreatDoor

/- ref09: sign, prefix, level. -/
namespace Go.Proofs.YtihegbjlgpghbaaGreatDoor
open Go.RowKit
attribute [local go_sem ↓] Go.wp_at_zero Go.wp_at_succ

end Go.Proofs.YtihegbjlgpghbaaGreatDoor
