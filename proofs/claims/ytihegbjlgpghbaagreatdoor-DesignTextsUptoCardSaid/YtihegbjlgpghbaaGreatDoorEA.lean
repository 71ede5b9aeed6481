/- law31: the sample and the bad one, plain. -/
import Derived.Test.YtihegbjlgpghbaaGreatDoorDC
import Derived.Deep.AppendLies
set_option linter.unusedSimpArgs false
set_option linter.unusedVariables false
set_option linter.unnecessarySimpa false
namespace Go.Proofs.YtihegbjlgpghbaaGreatDoor
open Go.RowKit

noncomputable def vE (c : UInt8) : Ex := .mk 2 0 ⟨#[c]⟩ []
noncomputable def kE (n : Int) : Ex := .mk 1 n .empty []
noncomputable def bE (op : Int) (x y : Ex) : Ex := .mk op 0 .empty [x, y]
theorem nodes_lf (op n : Int) (s : ByteArray) : (Ex.mk op n s []).nodes = [.mk op n s []] := by rw [Ex.nodes_eq]; simp [Ex.args_mk]
theorem nodes_bE (op : Int) {x y : Ex} (hx : x.nodes = [x]) (hy : y.nodes = [y]) : (bE op x y).nodes = [bE op x y, x, y] := by
  rw [Ex.nodes_eq]
  simp [bE, Ex.args_mk, hx, hy]
theorem nodes_vE (c : UInt8) : (vE c).nodes = [vE c] := nodes_lf _ _ _
theorem nodes_kE (n : Int) : (kE n).nodes = [kE n] := nodes_lf _ _ _
noncomputable def xE : Ex := bE 7 (vE 121) (kE 1)
noncomputable def yE : Ex := bE 10 (vE 97) (vE 114)
noncomputable def smpD : DesD := ⟨⟨#[100]⟩, [⟨⟨#[97]⟩, 4⟩], [⟨⟨#[120]⟩, 4, xE⟩, ⟨⟨#[121]⟩, 4, yE⟩], [⟨⟨#[114]⟩, 4, 2, vE 120⟩], [⟨#[120]⟩]⟩
noncomputable def badD : DesD := ⟨⟨#[100]⟩, [⟨⟨#[97]⟩, 4⟩], [⟨⟨#[120]⟩, 4, xE⟩, ⟨⟨#[121]⟩, 4, vE 120⟩], [⟨⟨#[114]⟩, 4, 2, vE 120⟩], [⟨#[120]⟩]⟩
theorem nodes_xE : xE.nodes = [xE, vE 121, kE 1] := nodes_bE _ (nodes_vE _) (nodes_kE _)
theorem nodes_yE : yE.nodes = [yE, vE 97, vE 114] := nodes_bE _ (nodes_vE _) (nodes_vE _)
theorem depth_lf (op n : Int) (s : ByteArray) : (Ex.mk op n s []).depth = 1 := by rw [Ex.depth_eq]; simp [Ex.args_mk]
theorem depth_bE (op : Int) {x y : Ex} (hx : x.depth = 1) (hy : y.depth = 1) : (bE op x y).depth = 2 := by rw [Ex.depth_eq]; simp [bE, Ex.args_mk, hx, hy]
theorem valid_of {e : Ex} {l : List Ex} (hn : e.nodes = l) (hl : l.length ≤ 400) (hf : firstE l = 0) (hd : e.depth ≤ 24) : validS e = 0 := by
  unfold validS
  rw [hn, hf, if_neg]
  rintro ⟨_, h | h⟩
  · omega
  · omega
theorem valid_vE (c : UInt8) (h : firstE [vE c] = 0) : validS (vE c) = 0 := valid_of (nodes_vE c) (by simp) h (by unfold vE; rw [depth_lf]; omega)
theorem valid_xE : validS xE = 0 := valid_of nodes_xE (by simp) (by decide) (Nat.le_trans (Nat.le_of_eq (depth_bE 7 (x := vE 121) (y := kE 1) (depth_lf _ _ _) (depth_lf _ _ _))) (by omega))
theorem valid_yE : validS yE = 0 := valid_of nodes_yE (by simp) (by decide) (Nat.le_trans (Nat.le_of_eq (depth_bE 10 (x := vE 97) (y := vE 114) (depth_lf _ _ _) (depth_lf _ _ _))) (by omega))
theorem valid_v120 : validS (vE 120) = 0 := valid_vE 120 (by decide)
theorem n2_xE : namesS [2] xE = [⟨#[121]⟩] := by
  unfold namesS
  rw [nodes_xE]
  simp [addName, xE, bE, vE, kE, Lib.containsS, ByteArray.toList_eq, Ex.op_mk, Ex.name_mk]
  have h1 : Lib.idxOfS [] (⟨#[121]⟩ : ByteArray) = -1 := by rfl
  simp [h1]
theorem n2_yE : namesS [2] yE = [⟨#[97]⟩, ⟨#[114]⟩] := by
  unfold namesS
  rw [nodes_yE]
  have h1 : Lib.idxOfS [] (⟨#[97]⟩ : ByteArray) = -1 := by rfl
  have h2 : Lib.idxOfS [(⟨#[97]⟩ : ByteArray)] (⟨#[114]⟩ : ByteArray) = -1 := by rfl
  simp [addName, yE, bE, vE, kE, Lib.containsS, ByteArray.toList_eq, Ex.op_mk, Ex.name_mk, h1, h2]
theorem n2_vE (c : UInt8) : namesS [2] (vE c) = [⟨#[c]⟩] := by
  unfold namesS
  rw [nodes_vE]
  have h1 : Lib.idxOfS [] (⟨#[c]⟩ : ByteArray) = -1 := by rfl
  simp [addName, vE, Lib.containsS, ByteArray.toList_eq, Ex.op_mk, Ex.name_mk, h1]
theorem n3_xE : namesS [3, 24] xE = [] := by
  unfold namesS
  rw [nodes_xE]
  simp [addName, xE, bE, vE, kE, Ex.op_mk, Ex.name_mk]
theorem n3_yE : namesS [3, 24] yE = [] := by
  unfold namesS
  rw [nodes_yE]
  simp [addName, yE, bE, vE, kE, Ex.op_mk, Ex.name_mk]
theorem n3_vE (c : UInt8) : namesS [3, 24] (vE c) = [] := by
  unfold namesS
  rw [nodes_vE]
  simp [addName, vE, Ex.op_mk, Ex.name_mk]
def smpN : List ByteArray := [⟨#[97]⟩, ⟨#[120]⟩, ⟨#[121]⟩, ⟨#[114]⟩]
theorem smp_names : smpD.names = smpN := rfl
theorem bad_names : badD.names = smpN := rfl
theorem in_smpN {s : ByteArray} (h : s ∈ smpN) : (idxT smpN s).isSome = true := idxT_mem h rfl
theorem exErr_of {e : Ex} {l : List ByteArray} (h1 : validS e = 0) (h2 : namesS [3, 24] e = []) (h3 : namesS [2] e = l) (h4 : ∀ s ∈ l, s ∈ smpN) : exprErr smpN e = 0 := by
  unfold exprErr
  rw [h1, h2, h3, if_neg (by simp), if_neg (by simp), if_pos]
  exact List.all_eq_true.2 fun s hs => in_smpN (h4 s hs)
theorem ex_xE : exprErr smpN xE = 0 := exErr_of valid_xE n3_xE n2_xE (by simp [smpN])
theorem ex_yE : exprErr smpN yE = 0 := exErr_of valid_yE n3_yE n2_yE (by simp [smpN])
theorem ex_v : exprErr smpN (vE 120) = 0 := exErr_of valid_v120 (n3_vE _) (n2_vE _) (by simp [smpN])
theorem smp_sig : smpD.sigErr = 0 := by
  unfold DesD.sigErr
  decide +kernel
theorem bad_sig : badD.sigErr = 0 := by
  unfold DesD.sigErr
  decide +kernel
theorem smp_widx : smpD.wireIdx = fun s => idxT [⟨#[120]⟩, ⟨#[121]⟩] s := rfl
theorem bad_widx : badD.wireIdx = fun s => idxT [⟨#[120]⟩, ⟨#[121]⟩] s := rfl
theorem idx_y : idxT [(⟨#[120]⟩ : ByteArray), ⟨#[121]⟩] ⟨#[121]⟩ = some 1 := by simp [idxT, ByteArray.toList_eq]
theorem idx_x : idxT [(⟨#[120]⟩ : ByteArray), ⟨#[121]⟩] ⟨#[120]⟩ = some 0 := by simp [idxT, ByteArray.toList_eq]
theorem idx_a : idxT [(⟨#[120]⟩ : ByteArray), ⟨#[121]⟩] ⟨#[97]⟩ = none := by simp [idxT, ByteArray.toList_eq]
theorem idx_r : idxT [(⟨#[120]⟩ : ByteArray), ⟨#[121]⟩] ⟨#[114]⟩ = none := by simp [idxT, ByteArray.toList_eq]
def ndS (i : Nat) : List Nat := if i = 0 then [1] else []
def ndB (i : Nat) : List Nat := if i = 0 then [1] else if i = 1 then [0] else []
theorem smp_needs : smpD.needs = ndS := by
  funext i
  unfold DesD.needs
  rcases i with _ | _ | i
  · show (namesS [2] xE).filterMap smpD.wireIdx = _
    rw [n2_xE, smp_widx]
    simp [idx_y, ndS]
  · show (namesS [2] yE).filterMap smpD.wireIdx = _
    rw [n2_yE, smp_widx]
    simp [idx_a, idx_r, ndS]
  · rfl
theorem bad_needs : badD.needs = ndB := by
  funext i
  unfold DesD.needs
  rcases i with _ | _ | i
  · show (namesS [2] xE).filterMap badD.wireIdx = _
    rw [n2_xE, bad_widx]
    simp [idx_y, ndB]
  · show (namesS [2] (vE 120)).filterMap badD.wireIdx = _
    rw [n2_vE, bad_widx]
    simp [idx_x, ndB]
  · rfl
theorem smp_order : smpD.order = [1, 0] := by
  unfold DesD.order
  rw [smp_needs]
  rfl
theorem bad_order : badD.order = [] := by
  unfold DesD.order
  rw [bad_needs]
  rfl
theorem smp_out : outErr smpD.inner [] smpD.outputs = 0 := by
  show outErr [⟨#[120]⟩, ⟨#[121]⟩, ⟨#[114]⟩] [] [⟨#[120]⟩] = 0
  simp [outErr, idxT, ByteArray.toList_eq]
theorem bad_out : outErr badD.inner [] badD.outputs = 0 := smp_out
theorem smp_err : smpD.err = 0 := by
  unfold DesD.err
  rw [smp_sig, smp_out, smp_order, smp_names]
  show firstErr [0, firstErr ([xE, yE, vE 120].map (exprErr smpN)), 0, _] = 0
  simp [ex_xE, ex_yE, ex_v, firstErr, smpD]
theorem bad_err : badD.err = 10 := by
  unfold DesD.err
  rw [bad_sig, bad_out, bad_order, bad_names]
  show firstErr [0, firstErr ([xE, vE 120, vE 120].map (exprErr smpN)), 0, _] = 10
  simp [ex_xE, ex_v, firstErr, badD]
end Go.Proofs.YtihegbjlgpghbaaGreatDoor

/- append to a row of the call's own, with the block in which the new row lies. -/
namespace Go.Proofs.YtihegbjlgpghbaaGreatDoor
open Go.RowKit

theorem own_appx {P : Program} {ops : Array Oper} {rest : List Oper} {o : Oper} {a : Act} {Q : Exit → Act → World → Prop} {t e : TypeId} {size : Nat} (he : Elem P t e size) (w : World) (hgd : o.guard = none) (s x : Operand)
    (ho : o.op = .call { callee := .builtin .append, args := #[s, x], argTypes := #[t, t] })
    (base : Nat) (v : Value) (n : Nat) (xs : List Value) (hs : a.eval s = v) (hown : w.ownsRow base e size v n xs)
    (news : List Value) (m k c : Nat) (hl : news.length = m * size) (h1 : ∀ u ∈ news, u.oneCell' = true) (hx : a.eval x = .slice (some ⟨k, 0, none⟩) m c) (hk : k = w.heap.size) (hm : 0 < m) (hn : n + m ≤ 1073741824) (hbase : base ≤ w.heap.size)
    (h : ∀ g cap w', w'.ownsRow base e size (.slice (some ⟨g, 0, none⟩) (n + m) cap) (n + m) (xs ++ news) → (w.alloc (.cells news.toArray e)).grownBy w' v.ownBlock → (v.ownBlock = some g ∨ w.heap.size < g) → wpList P ops Q rest (a.put o.dst (.slice (some ⟨g, 0, none⟩) (n + m) cap)) w') :
    wpList P ops Q (o :: rest) a (w.alloc (.cells news.toArray e)) := by
  subst hk
  obtain ⟨ht, i, z, bytes, hi, hz, hsz, hby, hzs, h0, hb⟩ := he
  refine wpList_append_lies (w.alloc (.cells news.toArray e)) hgd s x t ho base e i z size bytes ht hi hz hsz hby hzs h0 v n xs hs (hown.alloc _) ⟨w.heap.size, 0, none⟩ m c news hx hl ?_ h1 hm (by unfold maxLen; omega) ?_ (by simp; omega) (w.heap.size + 1) (by simp) (fun g cap w' h2 h3 h4 _ => h g cap w' h2 h3 (h4.imp id (by omega)))
  · have := World.news_of_block (heap_alloc_new' w (.cells news.toArray e))
    simpa using this
  · calc (n + m) * bytes ≤ 1073741824 * 1024 := Nat.mul_le_mul hn hb
      _ ≤ _ := by decide
/-- a block's object, through what is made behind it -/
theorem hx_new {X : World} {cs : Array Value} {t : TypeId} {b : Nat} (h : b = X.heap.size) : (X.alloc (.cells cs t)).heap[b]? = some (.cells cs t (0, 0)) := heap_alloc_at _ _ _ h
theorem hx_old {X : World} {o' o : Obj} {b : Nat} (h : X.heap[b]? = some o) : (X.alloc o').heap[b]? = some o := by rw [Below.heap_alloc _ _ _ (lt_of_block h)]; exact h
theorem hx_below {X X' : World} {o : Obj} {b : Nat} (hb : Below X.heap.size X X') (h : X.heap[b]? = some o) : X'.heap[b]? = some o := (hb.block b (lt_of_block h)).trans h
end Go.Proofs.YtihegbjlgpghbaaGreatDoor

/- A region that draws its order, by an invariant over what has come up: each operation is walked once. -/
namespace Go.Proofs.YtihegbjlgpghbaaGreatDoor

theorem wpAny_inv {P : Program} {md : Region.Mode} {ops : Array Oper} {Q : Exit → Act → World → Prop} (I : Nat → Array Bool → Act → World → Prop)
    (hstep : ∀ n listed a w i, I (n + 1) listed a w → listed.getD i true = false → (∃ o, ops[i]? = some o ∧ ∀ e ∈ o.after, Region.binds md e = true → listed.getD e.on false = true) → wpOp P ops Q i (I n (listed.setIfInBounds i true)) a w)
    (hend : ∀ n listed a w, I n listed a w → (n = 0 ∨ Region.ready md ops listed = []) → Region.ready md ops listed = [] ∧ Q .normal a w) :
    ∀ fuel listed a w, I fuel listed a w → wpAny P md ops Q fuel listed a w := by
  intro fuel
  induction fuel with
  | zero => exact fun listed a w h => hend 0 listed a w h (Or.inl rfl)
  | succ n ih =>
    intro listed a w h
    refine ⟨fun h0 => (hend _ listed a w h (Or.inr h0)).2, fun i hi => ?_⟩
    obtain ⟨h1, h2⟩ := mem_ready.1 hi
    exact wpOp_mono (fun a' w' h' => ih _ a' w' h') (hstep n listed a w i h h1 h2)
theorem ready_of {md : Region.Mode} {ops : Array Oper} {listed : Array Bool} (hr : Region.ready md ops listed = []) {i : Nat} {o : Oper} (h2 : ops[i]? = some o) (h3 : (o.after.toList.all fun e => !Region.binds md e || listed.getD e.on false) = true) (h1 : listed.getD i true = false) : False := by
  have : i ∈ Region.ready md ops listed := mem_ready.2 ⟨h1, o, h2, fun e he hb => by
    have := List.all_eq_true.1 h3 e (Array.mem_toList_iff.2 he)
    simpa [hb] using this⟩
  rw [hr] at this
  simp at this
theorem true_of {l : Bool} (h : l = false → False) : l = true := by cases l; exact (h rfl).elim; rfl
end Go.Proofs.YtihegbjlgpghbaaGreatDoor

/- law31: name, sample. -/
namespace Go.Proofs.YtihegbjlgpghbaaGreatDoor
open Go.RowKit
attribute [local go_sem ↓] Go.wp_at_zero Go.wp_at_succ

theorem results_cellA {fn : Func} {p : Tmp} {ty : TypeId} (h : fn.results = #[.cell p ty]) (tmps : Array Value) (P : Program) (w : World) :
    (results fn tmps).run P w = ((asAddr (tmps.getD p undef)).run P w).andThen fun a w₁ => (loadVar ty a).run P w₁ := by
  simp only [results, h]
  simp [Sem.run_bind, Result.andThen]
theorem name_res (W : World) (tm : Array Value) (b : Nat) (m0 m1 m2 m3 : Value) (hW : W.heap[b]? = some (.cells #[m0, m1, m2, m3] 55 (0, 0))) (h0 : tm.getD 2 undef = .pointer (some ⟨b, 0, none⟩)) :
    (results Tryz.f55 tm).run Tryz.prog W = .ok (.agg #[m0, m1, m2, m3]) W := by
  have hr : Tryz.f55.results = #[.cell 2 55] := rfl
  have c0 := cell_of_blk hW 0
  have c1 := cell_of_blk hW 1
  have c2 := cell_of_blk hW 2
  have c3 := cell_of_blk hW 3
  simp at c0 c1 c2 c3
  rw [results_cellA hr, h0]
  simp [asAddr]
  go_simp
theorem smp_res (W : World) (tm : Array Value) (b : Nat) (m0 m1 m2 m3 m4 : Value) (hW : W.heap[b]? = some (.cells #[m0, m1, m2, m3, m4] 27 (0, 0))) (h0 : tm.getD 0 undef = .pointer (some ⟨b, 0, none⟩)) :
    (results Tryz.f54 tm).run Tryz.prog W = .ok (.agg #[m0, m1, m2, m3, m4]) W := by
  have hr : Tryz.f54.results = #[.cell 0 27] := rfl
  have c0 := cell_of_blk hW 0
  have c1 := cell_of_blk hW 1
  have c2 := cell_of_blk hW 2
  have c3 := cell_of_blk hW 3
  have c4 := cell_of_blk hW 4
  simp at c0 c1 c2 c3 c4
  rw [results_cellA hr, h0]
  simp [asAddr]
  go_simp
set_option maxRecDepth 100000 in
set_option maxHeartbeats 2000000 in
theorem name_any (s : ByteArray) (w : World) :
    Calls Tryz.prog 55 #[.string s] w fun e w' => e = .returned (.agg #[.int .i64 2, .int .i64 0, .string s, .slice none 0 0]) ∧ w' = w.alloc (.cells #[.int .i64 2, .int .i64 0, .string s, .slice none 0 0] 55) := by
  go_enter Tryz.func55, Tryz.ntmps55
  go_wp2_with fail
  refine bodyPost_ret (v := .agg #[.int .i64 2, .int .i64 0, .string s, .slice none 0 0]) (name_res _ _ w.heap.size _ _ _ _ (heap_alloc_at _ _ _ rfl) rfl) rfl ?_
  exact ⟨rfl, rfl⟩
/-- where the sample lies -/
structure SmpB (W : World) (bi bw br bo k1 k2 : Nat) : Prop where
  hi : W.heap[bi]? = some (.cells #[.string ⟨#[97]⟩, .int .i64 4] 91 (0, 0))
  hw : W.heap[bw]? = some (.cells #[.string ⟨#[120]⟩, .int .i64 4, .int .i64 7, .int .i64 0, .string .empty, .slice (some ⟨k1, 0, none⟩) 2 2, .string ⟨#[121]⟩, .int .i64 4, .int .i64 10, .int .i64 0, .string .empty, .slice (some ⟨k2, 0, none⟩) 2 2] 57 (0, 0))
  hr : W.heap[br]? = some (.cells #[.string ⟨#[114]⟩, .int .i64 4, .int .i64 2, .int .i64 2, .int .i64 0, .string ⟨#[120]⟩, .slice none 0 0] 62 (0, 0))
  ho : W.heap[bo]? = some (.cells #[.string ⟨#[120]⟩] 9 (0, 0))
  h1 : W.heap[k1]? = some (.cells #[.int .i64 2, .int .i64 0, .string ⟨#[121]⟩, .slice none 0 0, .int .i64 1, .int .i64 1, .string .empty, .slice none 0 0] 55 (0, 0))
  h2 : W.heap[k2]? = some (.cells #[.int .i64 2, .int .i64 0, .string ⟨#[97]⟩, .slice none 0 0, .int .i64 2, .int .i64 0, .string ⟨#[114]⟩, .slice none 0 0] 55 (0, 0))
/-- the bad one: the second wire is x -/
structure BadB (W : World) (bi bw br bo k1 : Nat) : Prop where
  hi : W.heap[bi]? = some (.cells #[.string ⟨#[97]⟩, .int .i64 4] 91 (0, 0))
  hw : W.heap[bw]? = some (.cells #[.string ⟨#[120]⟩, .int .i64 4, .int .i64 7, .int .i64 0, .string .empty, .slice (some ⟨k1, 0, none⟩) 2 2, .string ⟨#[121]⟩, .int .i64 4, .int .i64 2, .int .i64 0, .string ⟨#[120]⟩, .slice none 0 0] 57 (0, 0))
  hr : W.heap[br]? = some (.cells #[.string ⟨#[114]⟩, .int .i64 4, .int .i64 2, .int .i64 2, .int .i64 0, .string ⟨#[120]⟩, .slice none 0 0] 62 (0, 0))
  ho : W.heap[bo]? = some (.cells #[.string ⟨#[120]⟩] 9 (0, 0))
  h1 : W.heap[k1]? = some (.cells #[.int .i64 2, .int .i64 0, .string ⟨#[121]⟩, .slice none 0 0, .int .i64 1, .int .i64 1, .string .empty, .slice none 0 0] 55 (0, 0))
def smpA (bi bw br bo : Nat) : DesA := ⟨some ⟨bi, 0, none⟩, 1, some ⟨bw, 0, none⟩, 2, some ⟨br, 0, none⟩, 1, some ⟨bo, 0, none⟩, 1⟩
theorem exs_nil (W : World) : ExsIn W [] none 0 := ⟨by simp, by simp, Or.inl rfl⟩
theorem exs_two {W : World} {k : Nat} {o1 n1 o2 n2 : Int} {s1 s2 : ByteArray} (h : W.heap[k]? = some (.cells #[.int .i64 o1, .int .i64 n1, .string s1, .slice none 0 0, .int .i64 o2, .int .i64 n2, .string s2, .slice none 0 0] 55 (0, 0))) (z1 : s1.size ≤ 1073741824) (z2 : s2.size ≤ 1073741824) :
    ExsIn W [.mk o1 n1 s1 [], .mk o2 n2 s2 []] (some ⟨k, 0, none⟩) 2 := by
  have e0 := cell_of_blk h 0
  have e1 := cell_of_blk h 1
  have e2 := cell_of_blk h 2
  have e3 := cell_of_blk h 3
  have e4 := cell_of_blk h 4
  have e5 := cell_of_blk h 5
  have e6 := cell_of_blk h 6
  have e7 := cell_of_blk h 7
  simp at e0 e1 e2 e3 e4 e5 e6 e7
  have hx1 : ExAt W (.mk o1 n1 s1 []) k 0 := (ExAt_iff _ _ _ _).2 ⟨none, 0, e0, e1, e2, e3, z1, exs_nil W⟩
  have hx2 : ExAt W (.mk o2 n2 s2 []) k 4 := (ExAt_iff _ _ _ _).2 ⟨none, 0, e4, e5, e6, e7, z2, exs_nil W⟩
  refine ⟨by simp, by simp, Or.inr ⟨k, 0, rfl, fun i hi => ?_⟩⟩
  rcases i with _ | _ | i
  · exact ⟨_, rfl, hx1⟩
  · exact ⟨_, rfl, hx2⟩
  · simp at hi; omega
theorem port_in {W : World} {bi : Nat} (hi : W.heap[bi]? = some (.cells #[.string ⟨#[97]⟩, .int .i64 4] 91 (0, 0))) : PortsIn W smpD.inputs (some ⟨bi, 0, none⟩) 1 := by
  have e0 := cell_of_blk hi 0
  have e1 := cell_of_blk hi 1
  simp at e0 e1
  refine ⟨by decide, by decide, Or.inr ⟨bi, 0, rfl, fun i hi => ?_⟩⟩
  rcases i with _ | i
  · exact ⟨_, rfl, e0, e1⟩
  · simp [smpD] at hi
theorem reg_in {W : World} {br : Nat} (hr : W.heap[br]? = some (.cells #[.string ⟨#[114]⟩, .int .i64 4, .int .i64 2, .int .i64 2, .int .i64 0, .string ⟨#[120]⟩, .slice none 0 0] 62 (0, 0))) : RegsIn W smpD.regs (some ⟨br, 0, none⟩) 1 := by
  have e0 := cell_of_blk hr 0
  have e1 := cell_of_blk hr 1
  have e2 := cell_of_blk hr 2
  have e3 := cell_of_blk hr 3
  have e4 := cell_of_blk hr 4
  have e5 := cell_of_blk hr 5
  have e6 := cell_of_blk hr 6
  simp at e0 e1 e2 e3 e4 e5 e6
  have hx : ExAt W (vE 120) br 3 := (ExAt_iff _ _ _ _).2 ⟨none, 0, e3, e4, e5, e6, by decide, exs_nil W⟩
  refine ⟨by decide, by decide, Or.inr ⟨br, 0, rfl, fun i hi => ?_⟩⟩
  rcases i with _ | i
  · exact ⟨_, rfl, e0, e1, e2, hx⟩
  · simp [smpD] at hi
theorem str_in {W : World} {bo : Nat} (ho : W.heap[bo]? = some (.cells #[.string ⟨#[120]⟩] 9 (0, 0))) : StrsIn W [⟨#[120]⟩] (some ⟨bo, 0, none⟩) 1 := by
  have e0 := cell_of_blk ho 0
  simp at e0
  refine ⟨by decide, by decide, Or.inr ⟨bo, 0, rfl, fun i hi => ?_⟩⟩
  rcases i with _ | i
  · exact ⟨_, rfl, e0⟩
  · simp at hi
theorem wires_in {W : World} {bw : Nat} {n1 n2 s1 s2 : ByteArray} {o1 o2 m1 m2 : Int} {l1 l2 : List Ex} {a1 a2 : Option Addr} {c1 c2 k1 k2 : Nat} (hw : W.heap[bw]? = some (.cells #[.string n1, .int .i64 4, .int .i64 o1, .int .i64 m1, .string s1, .slice a1 k1 c1, .string n2, .int .i64 4, .int .i64 o2, .int .i64 m2, .string s2, .slice a2 k2 c2] 57 (0, 0)))
    (h1 : ExsIn W l1 a1 c1) (h2 : ExsIn W l2 a2 c2) (e1 : k1 = l1.length) (e2 : k2 = l2.length) (z1 : s1.size ≤ 1073741824) (z2 : s2.size ≤ 1073741824) : WiresIn W [⟨n1, 4, .mk o1 m1 s1 l1⟩, ⟨n2, 4, .mk o2 m2 s2 l2⟩] (some ⟨bw, 0, none⟩) 2 := by
  subst e1 e2
  have e0 := cell_of_blk hw 0
  have e1 := cell_of_blk hw 1
  have e2 := cell_of_blk hw 2
  have e3 := cell_of_blk hw 3
  have e4 := cell_of_blk hw 4
  have e5 := cell_of_blk hw 5
  have f0 := cell_of_blk hw 6
  have f1 := cell_of_blk hw 7
  have f2 := cell_of_blk hw 8
  have f3 := cell_of_blk hw 9
  have f4 := cell_of_blk hw 10
  have f5 := cell_of_blk hw 11
  simp at e0 e1 e2 e3 e4 e5 f0 f1 f2 f3 f4 f5
  have hx1 : ExAt W (.mk o1 m1 s1 l1) bw 2 := (ExAt_iff _ _ _ _).2 ⟨_, _, e2, e3, e4, e5, z1, h1⟩
  have hx2 : ExAt W (.mk o2 m2 s2 l2) bw 8 := (ExAt_iff _ _ _ _).2 ⟨_, _, f2, f3, f4, f5, z2, h2⟩
  refine ⟨by simp, by simp, Or.inr ⟨bw, 0, rfl, fun i hi => ?_⟩⟩
  rcases i with _ | _ | i
  · exact ⟨_, rfl, e0, e1, hx1⟩
  · exact ⟨_, rfl, f0, f1, hx2⟩
  · simp at hi; omega
theorem smp_in {W : World} {bi bw br bo k1 k2 : Nat} (h : SmpB W bi bw br bo k1 k2) : DesIn W smpD (smpA bi bw br bo) :=
  ⟨port_in h.hi, wires_in h.hw (exs_two h.h1 (by decide) (by decide)) (exs_two h.h2 (by decide) (by decide)) rfl rfl (by decide) (by decide), reg_in h.hr, str_in h.ho⟩
theorem bad_in {W : World} {bi bw br bo k1 : Nat} (h : BadB W bi bw br bo k1) : DesIn W badD (smpA bi bw br bo) :=
  ⟨port_in h.hi, wires_in h.hw (exs_two h.h1 (by decide) (by decide)) (exs_nil W) rfl rfl (by decide) (by decide), reg_in h.hr, str_in h.ho⟩
theorem set5 {w : World} {b : Nat} {z0 z1 z2 z3 z4 u0 u1 u2 u3 u4 : Value} {t : TypeId} (h : w.heap[b]? = some (.cells #[z0, z1, z2, z3, z4] t (0, 0))) :
    (((((w.setCell ⟨b, 0, none⟩ u0).setCell ⟨b, 1, none⟩ u1).setCell ⟨b, 2, none⟩ u2).setCell ⟨b, 3, none⟩ u3).setCell ⟨b, 4, none⟩ u4).heap[b]? = some (.cells #[u0, u1, u2, u3, u4] t (0, 0)) := by
  have h0 := heap_setCell_same _ b 0 _ t u0 h
  have h1 := heap_setCell_same _ b 1 _ t u1 h0
  have h2 := heap_setCell_same _ b 2 _ t u2 h1
  have h3 := heap_setCell_same _ b 3 _ t u3 h2
  have h4 := heap_setCell_same _ b 4 _ t u4 h3
  rw [h4]
  rfl
theorem keep5 {w : World} {b k : Nat} {o : Obj} {u0 u1 u2 u3 u4 : Value} (h : w.heap[k]? = some o) (hk : k ≠ b) :
    (((((w.setCell ⟨b, 0, none⟩ u0).setCell ⟨b, 1, none⟩ u1).setCell ⟨b, 2, none⟩ u2).setCell ⟨b, 3, none⟩ u3).setCell ⟨b, 4, none⟩ u4).heap[k]? = some o := by
  rw [Below.heap_setCell _ _ _ _ hk, Below.heap_setCell _ _ _ _ hk, Below.heap_setCell _ _ _ _ hk, Below.heap_setCell _ _ _ _ hk, Below.heap_setCell _ _ _ _ hk]
  exact h
theorem below5 {w0 w : World} {B b : Nat} {u0 u1 u2 u3 u4 : Value} (h : Below B w0 w) (hb : B ≤ b) : Below B w0 (((((w.setCell ⟨b, 0, none⟩ u0).setCell ⟨b, 1, none⟩ u1).setCell ⟨b, 2, none⟩ u2).setCell ⟨b, 3, none⟩ u3).setCell ⟨b, 4, none⟩ u4) :=
  ((((h.setCell hb _).setCell hb _).setCell hb _).setCell hb _).setCell hb _
/-- grown out of W7, but for the block h -/
structure MidS (w W7 : World) (h : Nat) (W : World) : Prop where
  old : ∀ k, k < W7.heap.size → k ≠ h → W.heap[k]? = W7.heap[k]?
  blk : ∃ z0 z1 z2 z3 z4, W.heap[h]? = some (.cells #[z0, z1, z2, z3, z4] 27 (0, 0))
  bel : Below w.heap.size w W
  size : W7.heap.size ≤ W.heap.size
theorem MidS.drew {w W7 : World} {h : Nat} {W : World} (m : MidS w W7 h W) : MidS w W7 h W.drew := ⟨m.old, m.blk, Below.drew m.bel, m.size⟩
theorem MidS.alloc {w W7 : World} {h : Nat} {W : World} (m : MidS w W7 h W) (o : Obj) : MidS w W7 h (W.alloc o) := by
  obtain ⟨z0, z1, z2, z3, z4, hz⟩ := m.blk
  exact ⟨fun k hk hn => by rw [Below.heap_alloc _ _ _ (Nat.lt_of_lt_of_le hk m.size)]; exact m.old k hk hn, ⟨z0, z1, z2, z3, z4, hx_old hz⟩, m.bel.alloc m.bel.size _, by rw [World.size_alloc]; have := m.size; omega⟩
theorem MidS.set {w W7 : World} {h : Nat} {W : World} (m : MidS w W7 h W) (hh : w.heap.size ≤ h) (u0 u1 u2 u3 u4 : Value) : MidS w W7 h (((((W.setCell ⟨h, 0, none⟩ u0).setCell ⟨h, 1, none⟩ u1).setCell ⟨h, 2, none⟩ u2).setCell ⟨h, 3, none⟩ u3).setCell ⟨h, 4, none⟩ u4) := by
  obtain ⟨z0, z1, z2, z3, z4, hz⟩ := m.blk
  refine ⟨fun k hk hn => ?_, ⟨u0, u1, u2, u3, u4, set5 hz⟩, below5 m.bel hh, by simp only [World.size_setCell]; exact m.size⟩
  rw [Below.heap_setCell _ _ _ _ hn, Below.heap_setCell _ _ _ _ hn, Below.heap_setCell _ _ _ _ hn, Below.heap_setCell _ _ _ _ hn, Below.heap_setCell _ _ _ _ hn]
  exact m.old k hk hn
theorem MidS.cell {w W7 : World} {h : Nat} {W : World} (m : MidS w W7 h W) {k : Nat} {cs : Array Value} {t : TypeId} {z : Nat × Nat} (hk : W7.heap[k]? = some (.cells cs t z)) (hn : k ≠ h) (i : Nat) : W.cell? ⟨k, i, none⟩ = cs[i]? :=
  cell_of_blk ((m.old k (lt_of_block hk) hn).trans hk) i
/-- a slice of k elements at the beginning of a block that holds o -/
def SlF (k : Nat) (lo : Nat) (o : Obj) (v : Value) (W : World) : Prop := ∃ b, v = .slice (some ⟨b, 0, none⟩) k k ∧ W.heap[b]? = some o ∧ lo ≤ b
theorem SlF.alloc {k lo : Nat} {o : Obj} {v : Value} {W : World} (h : SlF k lo o v W) (o' : Obj) : SlF k lo o v (W.alloc o') := by
  obtain ⟨b, h1, h2, h3⟩ := h
  exact ⟨b, h1, hx_old h2, h3⟩
def portO : Obj := .cells #[.string ⟨#[97]⟩, .int .i64 4] 91 (0, 0)
def wireO (h : Nat) : Obj := .cells #[.string ⟨#[120]⟩, .int .i64 4, .int .i64 7, .int .i64 0, .string ⟨#[]⟩, .slice (some ⟨h + 1 + 1, 0, none⟩) 2 2, .string ⟨#[121]⟩, .int .i64 4, .int .i64 10, .int .i64 0, .string ⟨#[]⟩, .slice (some ⟨h + 1 + 1 + 1 + 1 + 1 + 1, 0, none⟩) 2 2] 57 (0, 0)
def regO : Obj := .cells #[.string ⟨#[114]⟩, .int .i64 4, .int .i64 2, .int .i64 2, .int .i64 0, .string ⟨#[120]⟩, .slice none 0 0] 62 (0, 0)
def outO : Obj := .cells #[.string ⟨#[120]⟩] 9 (0, 0)
def xV (h : Nat) : Value := .agg #[.string ⟨#[120]⟩, .int .i64 4, .int .i64 7, .int .i64 0, .string ⟨#[]⟩, .slice (some ⟨h + 1 + 1, 0, none⟩) 2 2]
def yV (h : Nat) : Value := .agg #[.string ⟨#[121]⟩, .int .i64 4, .int .i64 10, .int .i64 0, .string ⟨#[]⟩, .slice (some ⟨h + 1 + 1 + 1 + 1 + 1 + 1, 0, none⟩) 2 2]
def nV : Value := .agg #[.int .i64 2, .int .i64 0, .string ⟨#[120]⟩, .slice none 0 0]
def pV : Value := .agg #[.string ⟨#[97]⟩, .int .i64 4]
def rV : Value := .agg #[.string ⟨#[114]⟩, .int .i64 4, .int .i64 2, .int .i64 2, .int .i64 0, .string ⟨#[120]⟩, .slice none 0 0]
/-- what holds between the operations of the last region: l i: has number i come up? -/
def SmpI (w W7 : World) (c3 c4 c5 c6 c7 c8 c9 c10 c11 c12 : Value) (n : Nat) (listed : Array Bool) (a : Act) (W : World) : Prop :=
  ∃ (l0 l1 l2 l3 l4 l5 l6 l7 l8 l9 l10 : Bool) (v13 v14 v15 v16 v17 v18 v19 v20 v21 v22 : Value), listed = #[l0, l1, l2, l3, l4, l5, l6, l7, l8, l9, l10] ∧
    a = { tmps := #[.pointer (some ⟨w.heap.size, 0, none⟩), .pointer (some ⟨w.heap.size + 1 + 1 + 1, 0, none⟩), .pointer (some ⟨w.heap.size + 1 + 1 + 1 + 1 + 1 + 1 + 1, 0, none⟩), c3, c4, c5, c6, c7, c8, c9, c10, c11, c12, v13, v14, v15, v16, v17, v18, v19, v20, v21, v22], defers := [] } ∧
    n = (!l0).toNat + (!l1).toNat + (!l2).toNat + (!l3).toNat + (!l4).toNat + (!l5).toNat + (!l6).toNat + (!l7).toNat + (!l8).toNat + (!l9).toNat + (!l10).toNat ∧ MidS w W7 w.heap.size W ∧
    (l0 = true → v13 = pV) ∧ (l1 = true → SlF 1 w.heap.size portO v14 W) ∧ (l2 = true → v15 = xV w.heap.size) ∧ (l3 = true → v16 = yV w.heap.size) ∧ (l4 = true → SlF 2 w.heap.size (wireO w.heap.size) v17 W) ∧
    (l5 = true → v18 = nV) ∧ (l6 = true → v19 = rV) ∧ (l7 = true → SlF 1 w.heap.size regO v20 W) ∧ (l8 = true → SlF 1 w.heap.size outO v21 W) ∧ (l9 = true → (l1 = true ∧ l4 = true ∧ l7 = true ∧ l8 = true) ∧ v22 = .agg #[.string ⟨#[100]⟩, v14, v17, v20, v21]) ∧
    (l10 = true → l9 = true ∧ W.heap[w.heap.size]? = some (.cells #[.string ⟨#[100]⟩, v14, v17, v20, v21] 27 (0, 0)))
def SmpPost (w : World) (e : Ending) (w' : World) : Prop := ∃ bi bw br bo k1 k2, e = .returned (desVal smpD (smpA bi bw br bo)) ∧ SmpB w' bi bw br bo k1 k2 ∧ w.heap.size ≤ bw ∧ Below w.heap.size w w'
set_option maxRecDepth 100000 in
set_option maxHeartbeats 16000000 in
theorem sample_any (w : World) : Calls Tryz.prog 54 #[] w (SmpPost w) := by
  have HP : Hid (∀ bi bw br bo k1 k2 W, SmpB W bi bw br bo k1 k2 → w.heap.size ≤ bw → Below w.heap.size w W → SmpPost w (.returned (.agg #[.string ⟨#[100]⟩, .slice (some ⟨bi, 0, none⟩) 1 1, .slice (some ⟨bw, 0, none⟩) 2 2, .slice (some ⟨br, 0, none⟩) 1 1, .slice (some ⟨bo, 0, none⟩) 1 1])) W) := fun bi bw br bo k1 k2 W h1 h2 h3 => ⟨bi, bw, br, bo, k1, k2, rfl, h1, h2, h3⟩
  have HN := Lib.hid name_any
  generalize SmpPost w = Po at HP ⊢
  go_enter Tryz.func54, Tryz.ntmps54
  go_wp2_with fail
  refine (HN.out _ _).mono ?_
  rintro e w1 ⟨rfl, rfl⟩
  go_wp2_with fail
  refine (HN.out _ _).mono ?_
  rintro e w1 ⟨rfl, rfl⟩
  go_wp2_with fail
  refine (HN.out _ _).mono ?_
  rintro e w1 ⟨rfl, rfl⟩
  go_wp2_with fail
  generalize hW7 : World.alloc (World.alloc (World.alloc (World.alloc (World.alloc (World.alloc (World.alloc (World.alloc w _) _) _) _) _) _) _) _ = W7
  have hz7 : W7.heap.size = w.heap.size + 8 := by rw [← hW7]; simp only [World.size_alloc]
  have hB7 : Below w.heap.size w W7 := by rw [← hW7]; exact (by repeat (first | assumption | exact Below.refl _ _ | refine Below.drew ?_ | refine below_drewN ?_ _ | refine Below.alloc ?_ (by first | omega | (simp only [World.size_alloc, World.size_setCell, World.size_drew, World.heap_drewN] <;> omega) | (simp <;> omega)) _ | refine Below.setCell ?_ (by first | omega | (simp only [World.size_alloc, World.size_setCell, World.size_drew, World.heap_drewN] <;> omega) | (simp <;> omega)) _))
  have hb0 : W7.heap[w.heap.size]? = some (.cells #[.string ⟨#[]⟩, .slice none 0 0, .slice none 0 0, .slice none 0 0, .slice none 0 0] 27 (0, 0)) := by rw [← hW7]; (iterate 9 (first | done | assumption | (with_reducible refine hx_new ?_; first | rfl | (simp only [World.size_alloc, World.size_drew]; done) | (simp only [World.size_alloc, World.size_drew]; omega)) | with_reducible refine hx_old ?_))
  have hbx : W7.heap[w.heap.size + 1 + 1]? = some (.cells #[.int .i64 2, .int .i64 0, .string ⟨#[121]⟩, .slice none 0 0, .int .i64 1, .int .i64 1, .string ⟨#[]⟩, .slice none 0 0] 55 (0, 0)) := by rw [← hW7]; (iterate 9 (first | done | assumption | (with_reducible refine hx_new ?_; first | rfl | (simp only [World.size_alloc, World.size_drew]; done) | (simp only [World.size_alloc, World.size_drew]; omega)) | with_reducible refine hx_old ?_))
  have hby : W7.heap[w.heap.size + 1 + 1 + 1 + 1 + 1 + 1]? = some (.cells #[.int .i64 2, .int .i64 0, .string ⟨#[97]⟩, .slice none 0 0, .int .i64 2, .int .i64 0, .string ⟨#[114]⟩, .slice none 0 0] 55 (0, 0)) := by rw [← hW7]; (iterate 9 (first | done | assumption | (with_reducible refine hx_new ?_; first | rfl | (simp only [World.size_alloc, World.size_drew]; done) | (simp only [World.size_alloc, World.size_drew]; omega)) | with_reducible refine hx_old ?_))
  have hwx : W7.heap[w.heap.size + 1 + 1 + 1]? = some (.cells #[.string ⟨#[120]⟩, .int .i64 4, .int .i64 7, .int .i64 0, .string ⟨#[]⟩, .slice (some ⟨w.heap.size + 1 + 1, 0, none⟩) 2 2] 57 (0, 0)) := by rw [← hW7]; (iterate 9 (first | done | assumption | (with_reducible refine hx_new ?_; first | rfl | (simp only [World.size_alloc, World.size_drew]; done) | (simp only [World.size_alloc, World.size_drew]; omega)) | with_reducible refine hx_old ?_))
  have hwy : W7.heap[w.heap.size + 1 + 1 + 1 + 1 + 1 + 1 + 1]? = some (.cells #[.string ⟨#[121]⟩, .int .i64 4, .int .i64 10, .int .i64 0, .string ⟨#[]⟩, .slice (some ⟨w.heap.size + 1 + 1 + 1 + 1 + 1 + 1, 0, none⟩) 2 2] 57 (0, 0)) := by rw [← hW7]; (iterate 9 (first | done | assumption | (with_reducible refine hx_new ?_; first | rfl | (simp only [World.size_alloc, World.size_drew]; done) | (simp only [World.size_alloc, World.size_drew]; omega)) | with_reducible refine hx_old ?_))
  clear hW7
  have hM0 : MidS w W7 w.heap.size W7 := ⟨fun _ _ _ => rfl, ⟨_, _, _, _, _, hb0⟩, hB7, Nat.le_refl _⟩
  refine wp_region_any (by kernel_rfl) ?_
  refine wpAny_inv (I := SmpI w W7 _ _ _ _ _ _ _ _ _ _) ?stp ?fin _ _ _ _ ⟨false, false, false, false, false, false, false, false, false, false, false, undef, undef, undef, undef, undef, undef, undef, undef, undef, undef, rfl, rfl, rfl, hM0.drew, by simp, by simp, by simp, by simp, by simp, by simp, by simp, by simp, by simp, by simp, by simp⟩
  case stp =>
    intro n listed a W i hI hl hr
    obtain ⟨l0, l1, l2, l3, l4, l5, l6, l7, l8, l9, l10, v13, v14, v15, v16, v17, v18, v19, v20, v21, v22, rfl, rfl, hn, hM, f0, f1, f2, f3, f4, f5, f6, f7, f8, f9, f10⟩ := hI
    obtain ⟨o, ho, hdep⟩ := hr
    rcases i with _ | _ | _ | _ | _ | _ | _ | _ | _ | _ | _ | i
    · obtain rfl := Option.some.inj ho
      have hl : l0 = false := hl
      subst hl
      clear ho
      refine wpOp_step rfl (fun K hK => ?_)
      have HK := Lib.hid hK
      clear hK
      go_simp
      exact HK.out _ _ ⟨true, l1, l2, l3, l4, l5, l6, l7, l8, l9, l10, _, _, _, _, _, _, _, _, _, _, rfl, rfl, by simp at hn ⊢; omega, hM, fun _ => rfl, f1, f2, f3, f4, f5, f6, f7, f8, f9, f10⟩
    · obtain rfl := Option.some.inj ho
      have hl : l1 = false := hl
      subst hl
      clear ho
      have e0 : l0 = true := hdep ⟨0, .data⟩ (by simp) rfl
      have := f0 e0
      subst this
      unfold pV
      refine wpOp_step rfl (fun K hK => ?_)
      have HK := Lib.hid hK
      clear hK
      go_simp
      exact HK.out _ _ ⟨l0, true, l2, l3, l4, l5, l6, l7, l8, l9, l10, _, _, _, _, _, _, _, _, _, _, rfl, rfl, by simp at hn ⊢; omega, hM.alloc _, f0, fun _ => ⟨W.heap.size, rfl, hx_new rfl, by have := hM.size; omega⟩, f2, f3, fun h => (f4 h).alloc _, f5, f6, fun h => (f7 h).alloc _, fun h => (f8 h).alloc _, fun h => absurd (f9 h).1.1 (by simp), fun h => absurd (f9 (f10 h).1).1.1 (by simp)⟩
    · obtain rfl := Option.some.inj ho
      have hl : l2 = false := hl
      subst hl
      clear ho
      have c0' := hM.cell hwx (by omega) 0
      have c1' := hM.cell hwx (by omega) 1
      have c2' := hM.cell hwx (by omega) 2
      have c3' := hM.cell hwx (by omega) 3
      have c4' := hM.cell hwx (by omega) 4
      have c5' := hM.cell hwx (by omega) 5
      simp at c0' c1' c2' c3' c4' c5'
      refine wpOp_step rfl (fun K hK => ?_)
      have HK := Lib.hid hK
      clear hK
      go_simp
      exact HK.out _ _ ⟨l0, l1, true, l3, l4, l5, l6, l7, l8, l9, l10, _, _, _, _, _, _, _, _, _, _, rfl, rfl, by simp at hn ⊢; omega, hM, f0, f1, fun _ => rfl, f3, f4, f5, f6, f7, f8, f9, f10⟩
    · obtain rfl := Option.some.inj ho
      have hl : l3 = false := hl
      subst hl
      clear ho
      have c0' := hM.cell hwy (by omega) 0
      have c1' := hM.cell hwy (by omega) 1
      have c2' := hM.cell hwy (by omega) 2
      have c3' := hM.cell hwy (by omega) 3
      have c4' := hM.cell hwy (by omega) 4
      have c5' := hM.cell hwy (by omega) 5
      simp at c0' c1' c2' c3' c4' c5'
      refine wpOp_step rfl (fun K hK => ?_)
      have HK := Lib.hid hK
      clear hK
      go_simp
      exact HK.out _ _ ⟨l0, l1, l2, true, l4, l5, l6, l7, l8, l9, l10, _, _, _, _, _, _, _, _, _, _, rfl, rfl, by simp at hn ⊢; omega, hM, f0, f1, f2, fun _ => rfl, f4, f5, f6, f7, f8, f9, f10⟩
    · obtain rfl := Option.some.inj ho
      have hl : l4 = false := hl
      subst hl
      clear ho
      have e2 : l2 = true := hdep ⟨2, .data⟩ (by simp) rfl
      have e3 : l3 = true := hdep ⟨3, .data⟩ (by simp) rfl
      have g2 := f2 e2
      have g3 := f3 e3
      subst g2 g3
      unfold xV yV
      refine wpOp_step rfl (fun K hK => ?_)
      have HK := Lib.hid hK
      clear hK
      go_simp
      exact HK.out _ _ ⟨l0, l1, l2, l3, true, l5, l6, l7, l8, l9, l10, _, _, _, _, _, _, _, _, _, _, rfl, rfl, by simp at hn ⊢; omega, hM.alloc _, f0, fun h => (f1 h).alloc _, f2, f3, fun _ => ⟨W.heap.size, rfl, hx_new rfl, by have := hM.size; omega⟩, f5, f6, fun h => (f7 h).alloc _, fun h => (f8 h).alloc _, fun h => absurd (f9 h).1.2.1 (by simp), fun h => absurd (f9 (f10 h).1).1.2.1 (by simp)⟩
    · obtain rfl := Option.some.inj ho
      have hl : l5 = false := hl
      subst hl
      clear ho
      refine wpOp_step rfl (fun K hK => ?_)
      have HK := Lib.hid hK
      clear hK
      go_simp
      refine (HN.out _ _).mono ?_
      rintro e w5 ⟨rfl, rfl⟩
      go_simp
      exact HK.out _ _ ⟨l0, l1, l2, l3, l4, true, l6, l7, l8, l9, l10, _, _, _, _, _, _, _, _, _, _, rfl, rfl, by simp at hn ⊢; omega, hM.alloc _, f0, fun h => (f1 h).alloc _, f2, f3, fun h => (f4 h).alloc _, fun _ => rfl, f6, fun h => (f7 h).alloc _, fun h => (f8 h).alloc _, f9, fun h => ⟨(f10 h).1, hx_old (f10 h).2⟩⟩
    · obtain rfl := Option.some.inj ho
      have hl : l6 = false := hl
      subst hl
      clear ho
      have e5 : l5 = true := hdep ⟨5, .data⟩ (by simp) rfl
      have g5 := f5 e5
      subst g5
      unfold nV
      refine wpOp_step rfl (fun K hK => ?_)
      have HK := Lib.hid hK
      clear hK
      go_simp
      exact HK.out _ _ ⟨l0, l1, l2, l3, l4, l5, true, l7, l8, l9, l10, _, _, _, _, _, _, _, _, _, _, rfl, rfl, by simp at hn ⊢; omega, hM, f0, f1, f2, f3, f4, f5, fun _ => rfl, f7, f8, f9, f10⟩
    · obtain rfl := Option.some.inj ho
      have hl : l7 = false := hl
      subst hl
      clear ho
      have e6 : l6 = true := hdep ⟨6, .data⟩ (by simp) rfl
      have g6 := f6 e6
      subst g6
      unfold rV
      refine wpOp_step rfl (fun K hK => ?_)
      have HK := Lib.hid hK
      clear hK
      go_simp
      exact HK.out _ _ ⟨l0, l1, l2, l3, l4, l5, l6, true, l8, l9, l10, _, _, _, _, _, _, _, _, _, _, rfl, rfl, by simp at hn ⊢; omega, hM.alloc _, f0, fun h => (f1 h).alloc _, f2, f3, fun h => (f4 h).alloc _, f5, f6, fun _ => ⟨W.heap.size, rfl, hx_new rfl, by have := hM.size; omega⟩, fun h => (f8 h).alloc _, fun h => absurd (f9 h).1.2.2.1 (by simp), fun h => absurd (f9 (f10 h).1).1.2.2.1 (by simp)⟩
    · obtain rfl := Option.some.inj ho
      have hl : l8 = false := hl
      subst hl
      clear ho
      refine wpOp_step rfl (fun K hK => ?_)
      have HK := Lib.hid hK
      clear hK
      go_simp
      exact HK.out _ _ ⟨l0, l1, l2, l3, l4, l5, l6, l7, true, l9, l10, _, _, _, _, _, _, _, _, _, _, rfl, rfl, by simp at hn ⊢; omega, hM.alloc _, f0, fun h => (f1 h).alloc _, f2, f3, fun h => (f4 h).alloc _, f5, f6, fun h => (f7 h).alloc _, fun _ => ⟨W.heap.size, rfl, hx_new rfl, by have := hM.size; omega⟩, fun h => absurd (f9 h).1.2.2.2 (by simp), fun h => absurd (f9 (f10 h).1).1.2.2.2 (by simp)⟩
    · obtain rfl := Option.some.inj ho
      have hl : l9 = false := hl
      subst hl
      clear ho
      have e1 : l1 = true := hdep ⟨1, .data⟩ (by simp) rfl
      have e4 : l4 = true := hdep ⟨4, .data⟩ (by simp) rfl
      have e7 : l7 = true := hdep ⟨7, .data⟩ (by simp) rfl
      have e8 : l8 = true := hdep ⟨8, .data⟩ (by simp) rfl
      obtain ⟨b1, g1, k1, n1⟩ := f1 e1
      obtain ⟨b4, g4, k4, n4⟩ := f4 e4
      obtain ⟨b7, g7, k7, n7⟩ := f7 e7
      obtain ⟨b8, g8, k8, n8⟩ := f8 e8
      subst g1 g4 g7 g8
      refine wpOp_step rfl (fun K hK => ?_)
      have HK := Lib.hid hK
      clear hK
      go_simp
      exact HK.out _ _ ⟨l0, l1, l2, l3, l4, l5, l6, l7, l8, true, l10, _, _, _, _, _, _, _, _, _, _, rfl, rfl, by simp at hn ⊢; omega, hM, f0, f1, f2, f3, f4, f5, f6, f7, f8, fun _ => ⟨⟨e1, e4, e7, e8⟩, rfl⟩, fun h => absurd (f10 h).1 (by simp)⟩
    · obtain rfl := Option.some.inj ho
      have hl : l10 = false := hl
      subst hl
      clear ho
      have e9 : l9 = true := hdep ⟨9, .data⟩ (by simp) rfl
      have e1 : l1 = true := hdep ⟨1, .phase⟩ (by simp) rfl
      have e4 : l4 = true := hdep ⟨4, .phase⟩ (by simp) rfl
      have e7 : l7 = true := hdep ⟨7, .phase⟩ (by simp) rfl
      have e8 : l8 = true := hdep ⟨8, .phase⟩ (by simp) rfl
      obtain ⟨b1, g1, k1, n1⟩ := f1 e1
      obtain ⟨b4, g4, k4, n4⟩ := f4 e4
      obtain ⟨b7, g7, k7, n7⟩ := f7 e7
      obtain ⟨b8, g8, k8, n8⟩ := f8 e8
      subst g1 g4 g7 g8
      have g9 := (f9 e9).2
      subst g9
      obtain ⟨z0, z1, z2, z3, z4, hz⟩ := hM.blk
      have c0' := cell_of_blk hz 0
      have c1' := cell_of_blk hz 1
      have c2' := cell_of_blk hz 2
      have c3' := cell_of_blk hz 3
      have c4' := cell_of_blk hz 4
      simp at c0' c1' c2' c3' c4'
      have q0 : W.frozen? ⟨w.heap.size, 0, none⟩ = false := by simp [World.frozen?, hz]
      have q1 : W.frozen? ⟨w.heap.size, 1, none⟩ = false := by simp [World.frozen?, hz]
      have q2 : W.frozen? ⟨w.heap.size, 2, none⟩ = false := by simp [World.frozen?, hz]
      have q3 : W.frozen? ⟨w.heap.size, 3, none⟩ = false := by simp [World.frozen?, hz]
      have q4 : W.frozen? ⟨w.heap.size, 4, none⟩ = false := by simp [World.frozen?, hz]
      have d1 : b1 ≠ w.heap.size := fun e => by rw [e, hz] at k1; simp [portO] at k1
      have d4 : b4 ≠ w.heap.size := fun e => by rw [e, hz] at k4; simp [wireO] at k4
      have d7 : b7 ≠ w.heap.size := fun e => by rw [e, hz] at k7; simp [regO] at k7
      have d8 : b8 ≠ w.heap.size := fun e => by rw [e, hz] at k8; simp [outO] at k8
      refine wpOp_step rfl (fun K hK => ?_)
      have HK := Lib.hid hK
      clear hK
      go_simp
      exact HK.out _ _ ⟨l0, l1, l2, l3, l4, l5, l6, l7, l8, l9, true, _, _, _, _, _, _, _, _, _, _, rfl, rfl, by simp at hn ⊢; omega, hM.set (Nat.le_refl _) _ _ _ _ _, f0, fun _ => ⟨b1, rfl, keep5 k1 d1, n1⟩, f2, f3, fun _ => ⟨b4, rfl, keep5 k4 d4, n4⟩, f5, f6, fun _ => ⟨b7, rfl, keep5 k7 d7, n7⟩, fun _ => ⟨b8, rfl, keep5 k8 d8, n8⟩, f9, fun _ => ⟨e9, set5 hz⟩⟩
    · simp at ho
  case fin =>
    intro n listed a W hI hr
    obtain ⟨l0, l1, l2, l3, l4, l5, l6, l7, l8, l9, l10, v13, v14, v15, v16, v17, v18, v19, v20, v21, v22, rfl, rfl, hn, hM, f0, f1, f2, f3, f4, f5, f6, f7, f8, f9, f10⟩ := hI
    have e0 : l0 = true := by
      rcases hr with hr | hr
      · cases l0
        · simp at hn; omega
        · rfl
      · exact true_of fun h => ready_of hr (i := 0) rfl rfl h
    subst e0
    have e1 : l1 = true := by
      rcases hr with hr | hr
      · cases l1
        · simp at hn; omega
        · rfl
      · exact true_of fun h => ready_of hr (i := 1) rfl rfl h
    subst e1
    have e2 : l2 = true := by
      rcases hr with hr | hr
      · cases l2
        · simp at hn; omega
        · rfl
      · exact true_of fun h => ready_of hr (i := 2) rfl rfl h
    subst e2
    have e3 : l3 = true := by
      rcases hr with hr | hr
      · cases l3
        · simp at hn; omega
        · rfl
      · exact true_of fun h => ready_of hr (i := 3) rfl rfl h
    subst e3
    have e4 : l4 = true := by
      rcases hr with hr | hr
      · cases l4
        · simp at hn; omega
        · rfl
      · exact true_of fun h => ready_of hr (i := 4) rfl rfl h
    subst e4
    have e5 : l5 = true := by
      rcases hr with hr | hr
      · cases l5
        · simp at hn; omega
        · rfl
      · exact true_of fun h => ready_of hr (i := 5) rfl rfl h
    subst e5
    have e6 : l6 = true := by
      rcases hr with hr | hr
      · cases l6
        · simp at hn; omega
        · rfl
      · exact true_of fun h => ready_of hr (i := 6) rfl rfl h
    subst e6
    have e7 : l7 = true := by
      rcases hr with hr | hr
      · cases l7
        · simp at hn; omega
        · rfl
      · exact true_of fun h => ready_of hr (i := 7) rfl rfl h
    subst e7
    have e8 : l8 = true := by
      rcases hr with hr | hr
      · cases l8
        · simp at hn; omega
        · rfl
      · exact true_of fun h => ready_of hr (i := 8) rfl rfl h
    subst e8
    have e9 : l9 = true := by
      rcases hr with hr | hr
      · cases l9
        · simp at hn; omega
        · rfl
      · exact true_of fun h => ready_of hr (i := 9) rfl rfl h
    subst e9
    have e10 : l10 = true := by
      rcases hr with hr | hr
      · cases l10
        · simp at hn; omega
        · rfl
      · exact true_of fun h => ready_of hr (i := 10) rfl rfl h
    subst e10
    refine ⟨by kernel_rfl, ?_⟩
    obtain ⟨b1, g1, k1, n1⟩ := f1 rfl
    obtain ⟨b4, g4, k4, n4⟩ := f4 rfl
    obtain ⟨b7, g7, k7, n7⟩ := f7 rfl
    obtain ⟨b8, g8, k8, n8⟩ := f8 rfl
    subst g1 g4 g7 g8
    have hres := (f10 rfl).2
    have hx := (hM.old _ (lt_of_block hbx) (by omega)).trans hbx
    have hy := (hM.old _ (lt_of_block hby) (by omega)).trans hby
    have HPe := Lib.hid (HP.out b1 b4 b7 b8 _ _ W ⟨k1, k4, k7, k8, hx, hy⟩ n4 hM.bel)
    clear f0 f1 f2 f3 f4 f5 f6 f7 f8 f9 f10
    go_wp2_with fail
    exact bodyPost_ret (v := .agg #[.string ⟨#[100]⟩, .slice (some ⟨b1, 0, none⟩) 1 1, .slice (some ⟨b4, 0, none⟩) 2 2, .slice (some ⟨b7, 0, none⟩) 1 1, .slice (some ⟨b8, 0, none⟩) 1 1]) (smp_res _ _ w.heap.size _ _ _ _ _ hres rfl) rfl HPe.out
end Go.Proofs.YtihegbjlgpghbaaGreatDoor
