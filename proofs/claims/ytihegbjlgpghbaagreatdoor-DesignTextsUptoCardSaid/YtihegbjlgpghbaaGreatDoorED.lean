/- exprtext: text of names and numbers; Print. -/
import Derived.Test.YtihegbjlgpghbaaGreatDoorEC
import Derived.Test.YtihegbjlgpghbaaGreatDoorDJ
import Derived.Test.YtihegbjlgpghbaaGreatDoorDC
import Derived.Lib.Builder
import Derived.Lib.AppendStr
import Derived.Lib.UnsafeStr
import Derived.Laws.Externs
set_option linter.unusedSimpArgs false
set_option linter.unusedVariables false
set_option linter.unnecessarySimpa false
namespace Go.Proofs.YtihegbjlgpghbaaGreatDoor
open Go.RowKit
attribute [local go_sem ↓] Go.wp_at_zero Go.wp_at_succ

set_option maxRecDepth 100000 in
set_option maxHeartbeats 8000000 in
theorem text_leaf {B : Nat} {w0 : World} {s : ByteArray} (op n : Int) (nm : ByteArray) (args : List Ex) (h : (op = 2 ∧ s = nm ∧ Lib.indexByte nm.data.toList 91 < 0) ∨ (op = 1 ∧ s = fmtS n ∧ FmtC B w0 n)) : TextC B w0 (.mk op n nm args) s := by
  intro a c w hw hz hX
  have hE := hX.2
  simp only [Ex.op_mk, Ex.n_mk, Ex.name_mk, Ex.args_mk] at hE ⊢
  have hbn : binS op = none := by rcases h with ⟨rfl, _⟩ | ⟨rfl, _⟩ <;> rfl
  have hpn : preS op = .empty := by rcases h with ⟨rfl, _⟩ | ⟨rfl, _⟩ <;> rfl
  have HBy := Lib.hid (byOp_any op (w.alloc (.cells #[.int .i64 op, .int .i64 n, .string nm, .slice a args.length c] 55)))
  have HPr := Lib.hid (fun W => prefix_any op W)
  rw [hpn] at HPr
  unfold ByPost binG at HBy
  rw [hbn] at HBy
  simp only [Option.getD_none, Option.isSome_none] at HBy
  have HBx : Hid (Below (w.heap.size + 1) (w.alloc (.cells #[.int .i64 op, .int .i64 n, .string nm, .slice a args.length c] 55)) (w.alloc (.cells #[.int .i64 op, .int .i64 n, .string nm, .slice a args.length c] 55))) := Below.refl _ _
  have HP : Hid (∀ w', Below w.heap.size w w' → SPost s w (.returned (.string s)) w') := fun w' h => ⟨rfl, h⟩
  generalize SPost s w = Po at HP ⊢
  have HF : Hid (op = 1 → ∀ W, Below w.heap.size w W → Calls Tryz.prog 78 #[.int .i64 n] W fun e w' => e = .returned (.string s) ∧ Below W.heap.size W w') := fun ho W hW => by
    rcases h with ⟨h1, _⟩ | ⟨_, h2, h3⟩
    · omega
    · rw [h2]; exact h3 W (hw.trans (hW.mono hz))
  have HV : Hid (op = 2 → ∀ W, Calls Tryz.prog 166 #[.string nm] W fun e w' => e = .returned (.string s) ∧ w' = W) := fun ho W => by
    rcases h with ⟨_, h2, h3⟩ | ⟨h1, _⟩
    · rw [h2]; exact variable_any nm h3 W
    · omega
  have hop : op = 2 ∨ op = 1 := by rcases h with ⟨h, _⟩ | ⟨h, _⟩ <;> omega
  clear h hX hE hw hbn hpn
  generalize args.length = k at *
  go_enter Tryz.func118, Tryz.ntmps118
  go_wp2_with fail
  refine HBy.out.mono ?_
  rintro e w1 ⟨rfl, hb1⟩
  have HB1 := Lib.hid (HBx.out.trans (hb1.mono (by simp)))
  have hz1 := HB1.out.size
  simp only [World.size_alloc] at hz1
  have HB2 : Hid (Below (w.heap.size + 1) (w.alloc (.cells #[.int .i64 op, .int .i64 n, .string nm, .slice a k c] 55)) (w1.alloc (.cells #[.string .empty, .int .i64 0, .int .i64 0] 177))) := HB1.out.alloc hz1 _
  have HBw := Lib.hid (boxW _ HB2.out)
  clear hb1 HBx HB1
  have b0 := box_cell HB2.out 0
  have b1 := box_cell HB2.out 1
  have b2 := box_cell HB2.out 2
  have b3 := box_cell HB2.out 3
  simp at b0 b1 b2 b3
  go_wp2_with fail
  generalize (w1.alloc (.cells #[.string .empty, .int .i64 0, .int .i64 0] 177)) = W2 at HB2 HBw b0 b1 b2 b3 ⊢
  refine (HPr.out W2).mono ?_
  rintro e w2 ⟨rfl, rfl⟩
  rcases hop with rfl | rfl
  · have HVa := Lib.hid (HV.out rfl w2)
    have HPf := Lib.hid (HP.out w2 HBw.out)
    go_wp2_with fail
    refine HVa.out.mono ?_
    rintro e w3 ⟨rfl, rfl⟩
    go_wp2_with fail
    first | exact HPf.out | (go_ret; exact HPf.out)
  · have HFa := Lib.hid (HF.out rfl w2 HBw.out)
    go_wp2_with fail
    refine HFa.out.mono ?_
    rintro e w3 ⟨rfl, hb3⟩
    have HPf := Lib.hid (HP.out w3 (HBw.out.trans (hb3.mono HBw.out.size)))
    clear hb3
    go_wp2_with fail
    first | exact HPf.out | (go_ret; exact HPf.out)
theorem text_var {B : Nat} {w0 : World} (n : Int) (nm : ByteArray) (args : List Ex) (h : Lib.indexByte nm.data.toList 91 < 0) : TextC B w0 (.mk 2 n nm args) nm := text_leaf 2 n nm args (Or.inl ⟨rfl, rfl, h⟩)
theorem text_const {B : Nat} {w0 : World} (n : Int) (nm : ByteArray) (args : List Ex) (h : FmtC B w0 n) : TextC B w0 (.mk 1 n nm args) (fmtS n) := text_leaf 1 n nm args (Or.inr ⟨rfl, rfl, h⟩)
def PrintC (B : Nat) (w0 : World) (e : Ex) (s : ByteArray) : Prop := ∀ a c W, Below B w0 W → B ≤ W.heap.size → ExIn W e a c → Calls Tryz.prog 77 #[.agg #[.int .i64 e.op, .int .i64 e.n, .string e.name, .slice a e.args.length c]] W (SPost s W)
set_option maxRecDepth 100000 in
set_option maxHeartbeats 4000000 in
theorem print_of {B : Nat} {w0 : World} {e : Ex} {s : ByteArray} (h : TextC B w0 e s) (hv : validS e = 0) (hn : e.nodes.length ≤ 1048576) (hG : ∀ W, Below B w0 W → Glob W) : PrintC B w0 e s := by
  intro a c w hw hz hX
  obtain ⟨op, n, nm, args⟩ := e
  simp only [Ex.op_mk, Ex.n_mk, Ex.name_mk, Ex.args_mk]
  have hb0 : Below w.heap.size w (w.alloc (.cells #[.int .i64 op, .int .i64 n, .string nm, .slice a args.length c] 55)) := (Below.refl _ _).alloc (Nat.le_refl _) _
  have HVa := Lib.hid (valid_any op n nm args a c _ (hG _ (hw.trans (hb0.mono hz))) (hX.keep (keeps_of_below hb0)) (by omega))
  rw [hv] at HVa
  have HT := Lib.hid (fun W (hW : Below w.heap.size w W) => h a c W (hw.trans (hW.mono hz)) (Nat.le_trans hz hW.size) (hX.keep (keeps_of_below hW)))
  have HBx : Hid (Below (w.heap.size + 1) (w.alloc (.cells #[.int .i64 op, .int .i64 n, .string nm, .slice a args.length c] 55)) (w.alloc (.cells #[.int .i64 op, .int .i64 n, .string nm, .slice a args.length c] 55))) := Below.refl _ _
  have HP : Hid (∀ w', Below w.heap.size w w' → SPost s w (.returned (.string s)) w') := fun w' h => ⟨rfl, h⟩
  simp only [Ex.op_mk, Ex.n_mk, Ex.name_mk, Ex.args_mk] at HT
  unfold SPost at HT
  generalize SPost s w = Po at HP ⊢
  clear h hX hb0 hv hn
  generalize args.length = k at *
  go_enter Tryz.func77, Tryz.ntmps77
  go_wp2_with fail
  refine HVa.out.mono ?_
  rintro e w1 ⟨rfl, hb1⟩
  have HB1 := Lib.hid (HBx.out.trans (hb1.mono (by simp)))
  have HBw := Lib.hid (boxW _ HB1.out)
  have b0 := box_cell HB1.out 0
  have b1 := box_cell HB1.out 1
  have b2 := box_cell HB1.out 2
  have b3 := box_cell HB1.out 3
  simp at b0 b1 b2 b3
  clear hb1
  go_wp2_with fail
  refine (HT.out w1 HBw.out).mono ?_
  rintro e w2 ⟨rfl, hb2⟩
  have HPf := Lib.hid (HP.out w2 (HBw.out.trans (hb2.mono HBw.out.size)))
  clear hb2
  go_wp2_with fail
  first | exact HPf.out | (go_ret; exact HPf.out)
end Go.Proofs.YtihegbjlgpghbaaGreatDoor

/- strings.Builder inside design's printer. -/
namespace Go.Proofs.YtihegbjlgpghbaaGreatDoor
open Go.RowKit
attribute [local go_sem ↓] Go.wp_at_zero Go.wp_at_succ

/-- a printer at b (made by the call, from B on) that holds bs -/
abbrev PrAt (B b : Nat) (p : Value) (bs : List Value) (w : World) : Prop := Lib.BuilderAt 104 5 B b p bs w
abbrev IsPr (B b : Nat) (bs : List Value) (w : World) : Prop := Lib.IsBuilder 104 5 B b bs w
theorem sizeBld : (Tryz.prog.info? 102).map (·.size) = some 2 := by kernel_rfl
theorem liesPr : liesAt Tryz.prog Tryz.prog.depth 104 (2 / Tryz.prog.cellsOf 104) 0 102 1 = true := by kernel_rfl
set_option maxHeartbeats 1000000 in
set_option maxRecDepth 100000 in
theorem pr_used (b : Nat) (w : World) (h0 : w.cell? ⟨b, 0, none⟩ = some (.pointer (some ⟨b, 0, none⟩))) :
    Calls Tryz.prog 116 #[.pointer (some ⟨b, 0, none⟩)] w fun e w' => e = .returned (.tuple #[]) ∧ w' = w := by
  obtain ⟨j, hj, _⟩ := Option.map_eq_some_iff.1 sizeBld
  go_enter Tryz.func116, Tryz.ntmps116
  go_wp2
  rw [Lib.run_neq_ptr_same w _ Tryz.underlying99 hj]
  go_wp2
  go_end0
  exact ⟨rfl, rfl⟩
set_option maxHeartbeats 1000000 in
set_option maxRecDepth 100000 in
theorem pr_fresh (b : Nat) (w : World) (h0 : w.cell? ⟨b, 0, none⟩ = some (.pointer none)) (hsh : w.shape? b = some (104, 2)) (hfz : w.frozen? ⟨b, 0, none⟩ = false) :
    Calls Tryz.prog 116 #[.pointer (some ⟨b, 0, none⟩)] w fun e w' => e = .returned (.tuple #[]) ∧ w' = w.setCell ⟨b, 0, none⟩ (.pointer (some ⟨b, 0, none⟩)) := by
  obtain ⟨j, hj, hjs⟩ := Option.map_eq_some_iff.1 sizeBld
  go_enter Tryz.func116, Tryz.ntmps116
  go_wp2
  rw [Lib.run_to_unsafe w ⟨b, 0, none⟩ Tryz.underlying99 Tryz.underlying174 hj (by rw [hjs]; decide) hsh (Nat.zero_lt_succ 1)]
  simp only [Result.andThen]
  rw [Oper.upon_value]
  go_wp2
  rw [run_callFunc_extern Tryz.func157 (by kernel_rfl) (by kernel_rfl) (by kernel_rfl) (e := Extern.AbiNoEscape.same) (by kernel_rfl)]
  rw [Lib.run_noEscape]
  simp only [Result.andThen]
  rw [Oper.upon_value]
  go_wp2
  rw [Lib.run_from_unsafe w ⟨b, 0, none⟩ Tryz.underlying174 Tryz.underlying99 hj hsh liesPr]
  simp only [Result.andThen]
  rw [Oper.upon_value]
  go_wp2
  go_end0
  exact ⟨rfl, rfl⟩
/-- what a write leaves as it was, above the base too -/
def PrFr (b : Nat) (w w' : World) : Prop := ∀ k cs T z, w.heap[k]? = some (.cells cs T z) → T ≠ 5 → k ≠ b → w'.heap[k]? = some (.cells cs T z)
theorem PrFr.refl (b : Nat) (w : World) : PrFr b w w := fun _ _ _ _ h _ _ => h
theorem PrFr.trans {b : Nat} {w w' w'' : World} (h : PrFr b w w') (h' : PrFr b w' w'') : PrFr b w w'' := fun k cs T z h1 h2 h3 => h' k cs T z (h k cs T z h1 h2 h3) h2 h3
theorem PrFr.of_below {b : Nat} {w w' : World} (h : Below w.heap.size w w') : PrFr b w w' := fun k _ _ _ h1 _ _ => (h.block k (lt_of_block h1)).trans h1
theorem PrFr.of_set {b o : Nat} {v : Value} (w : World) : PrFr b w (w.setCell ⟨b, o, none⟩ v) := fun k _ _ _ h1 _ h3 => by rw [Below.heap_setCell _ _ _ _ h3]; exact h1
theorem PrFr.of_own {b B n : Nat} {v : Value} {xs : List Value} {w w' : World} (ho : w.ownsRow B 5 1 v n xs) (hg : w.grownBy w' v.ownBlock) : PrFr b w w' := fun k _ _ _ h1 h2 _ => (hg.block k (lt_of_block h1) (ownsRow_ne ho h1 h2)).trans h1
theorem pr_check (B b : Nat) (bs : List Value) (w : World) (h : IsPr B b bs w) :
    Calls Tryz.prog 116 #[.pointer (some ⟨b, 0, none⟩)] w fun e w' => e = .returned (.tuple #[]) ∧ (PrAt B b (.pointer (some ⟨b, 0, none⟩)) bs w' ∧ Below B w w' ∧ PrFr b w w') := by
  rcases h with h | h
  · refine (pr_fresh b w h.cell0 h.shape h.frozen0).mono ?_
    rintro e w' ⟨rfl, rfl⟩
    exact ⟨rfl, h.used _, (Below.refl B w).setCell (p := ⟨b, 0, none⟩) h.1 _, PrFr.of_set w⟩
  · refine (pr_used b w h.cell0).mono ?_
    rintro e w' ⟨rfl, rfl⟩
    exact ⟨rfl, h, Below.refl B _, PrFr.refl _ _⟩
set_option maxHeartbeats 2000000 in
set_option maxRecDepth 100000 in
theorem pr_write (B b : Nat) (bs : List Value) (s : ByteArray) (w : World) (h : IsPr B b bs w) (hlen : bs.length + s.size ≤ 140737488355328) (hBw : B ≤ w.heap.size) :
    Calls Tryz.prog 75 #[.pointer (some ⟨b, 0, none⟩), .string s] w fun e w' => e = .returned (.tuple #[.int .i64 s.size, .nilIface]) ∧ (PrAt B b (.pointer (some ⟨b, 0, none⟩)) (bs ++ Lib.strCells s) w' ∧ Below B w w' ∧ PrFr b w w') := by
  have hi0 : (Tryz.prog.info? 5).map (fun i => (i.zero, i.size, i.bytes)) = some (some (.int .u8 0), 1, 1) := by kernel_rfl
  obtain ⟨i0, hi, hz0, hz1, hz2⟩ := info_parts hi0
  have HC := Lib.hid (pr_check B b bs w h)
  go_enter Tryz.func75, Tryz.ntmps75
  go_wp2_with fail
  refine HC.out.mono ?_
  rintro e w1 ⟨rfl, h1, hb1, hf1⟩
  have HF1 := Lib.hid hf1
  clear hf1
  obtain ⟨hB, v, hbk, hown, hne⟩ := h1
  have c0 : w1.cell? ⟨b, 0, none⟩ = some (.pointer (some ⟨b, 0, none⟩)) := by rw [Lib.cell_of_heap hbk]; rfl
  have c1 : w1.cell? ⟨b, 1, none⟩ = some v := by rw [Lib.cell_of_heap hbk]; rfl
  go_wp2_with (at_builtin; refine Lib.wpList_append_own_string _ rfl _ _ 100 9 rfl B 5 i0 Tryz.underlying100 Tryz.underlying9 hi hz0 hz1 hz2 _ _ _ rfl hown s rfl ?c3 ?c4 ?c5 ?_)
  case c3 => unfold maxLen; omega
  case c4 => omega
  case c5 => have := hb1.size; omega
  intro v' w2 hown' hgrow _
  have HF2 := Lib.hid (HF1.out.trans (PrFr.of_own (b := b) hown hgrow))
  have hlt : b < w1.heap.size := lt_of_block hbk
  have hb2 : w2.heap[b]? = some (.cells #[.pointer (some ⟨b, 0, none⟩), v] 104 (0, 0)) := by
    rw [hgrow.block b hlt (fun e => hne e.symm)]
    exact hbk
  have d0 : w2.cell? ⟨b, 0, none⟩ = some (.pointer (some ⟨b, 0, none⟩)) := by rw [Lib.cell_of_heap hb2]; rfl
  have d1 : w2.cell? ⟨b, 1, none⟩ = some v := by rw [Lib.cell_of_heap hb2]; rfl
  have f1 : w2.frozen? ⟨b, 1, none⟩ = false := Lib.frozen_of_heap hb2 1
  obtain ⟨ao, n', cap, rfl⟩ : ∃ ao n' cap, v' = .slice ao n' cap := by
    rcases hown'.2 with ⟨hv, _⟩ | ⟨g, cap, cur, hv, _⟩
    · exact ⟨_, _, _, hv⟩
    · exact ⟨_, _, _, hv⟩
  go_wp2_with fail
  go_ret2
  refine ⟨rfl, ?_, ?_, HF2.out.trans (PrFr.of_set _)⟩
  · exact Lib.BuilderAt.put (T := 104) (e := 5) hB hb2 (bs' := bs ++ Lib.strCells s) (by simpa [Lib.strCells_length] using hown') (by decide)
  · exact (hb1.grown hgrow (by have := hb1.size; omega) (fun k hk => (hown.lt k hk).1)).setCell (p := ⟨b, 1, none⟩) hB _
set_option maxHeartbeats 1000000 in
set_option maxRecDepth 100000 in
theorem pr_string (B b : Nat) (l : List UInt8) (w : World) (h : IsPr B b (Lib.byteCells l) w) (h0 : l ≠ []) :
    Calls Tryz.prog 79 #[.pointer (some ⟨b, 0, none⟩)] w fun e w' => e = .returned (.string ⟨l.toArray⟩) ∧ Below B w w' := by
  obtain ⟨p, hB, v, hbk, hown, hne⟩ : ∃ p, PrAt B b p (Lib.byteCells l) w := by
    rcases h with h | h
    · exact ⟨_, h⟩
    · exact ⟨_, h⟩
  have hl0 : l.length ≠ 0 := by simpa using h0
  rw [Lib.byteCells_length] at hown
  obtain ⟨g, cap, cur, rfl, hbg, hg, hnc, hcm, hcs, htake⟩ : ∃ g cap cur, v = .slice (some ⟨g, 0, none⟩) l.length cap ∧ B ≤ g ∧ w.heap[g]? = some (.cells cur 5 (0, 0)) ∧ l.length ≤ cap ∧ cap ≤ maxLen ∧ cur.size = cap * 1 ∧ cur.toList.take (l.length * 1) = Lib.byteCells l := by
    rcases hown.2 with ⟨_, hz⟩ | ⟨g, cap, cur, hv, r⟩
    · exact absurd hz hl0
    · exact ⟨g, cap, cur, hv, r⟩
  have c1 : w.drew.cell? ⟨b, 1, none⟩ = some (.slice (some ⟨g, 0, none⟩) l.length cap) := by
    have : w.drew.heap[b]? = some (.cells #[p, .slice (some ⟨g, 0, none⟩) l.length cap] 104 (0, 0)) := hbk
    rw [Lib.cell_of_heap this]; rfl
  have hSD : (Builtin.unsafeSliceData_ #[100] 146 #[.slice (some ⟨g, 0, none⟩) l.length cap]).run Tryz.prog w.drew = .ok (.pointer (some ⟨g, 0, none⟩)) w.drew :=
    Lib.run_unsafeSliceData_row _ _ _ _ _ _ (by omega)
  have hUS : (Builtin.unsafeString_ #[146, 3] 9 #[.pointer (some ⟨g, 0, none⟩), .int .i64 l.length]).run Tryz.prog w.drew = .ok (.string ⟨l.toArray⟩) (w.drew.freeze ⟨g, 0, none⟩ l.length) := by
    refine Lib.run_unsafeString_row w.drew 146 3 9 5 Tryz.underlying146 (by kernel_rfl) g cur.size (by have hg' : w.drew.heap[g]? = some (.cells cur 5 (0, 0)) := hg; simp [World.shape?, hg']) l h0 (by omega) (by unfold maxLen at hcm; omega) ?_
    intro j x hx
    have := hown.cells (g := g) rfl j (.int .u8 x.toNat) (by simp [Lib.byteCells, hx])
    exact this
  go_enter Tryz.func79, Tryz.ntmps79
  go_wp2
  go_region
  all_goals (go_wp2; go_ret; exact ⟨rfl, Lib.below_freeze (Below.drew (Below.refl B w)) (p := ⟨g, 0, none⟩) hbg _⟩)
end Go.Proofs.YtihegbjlgpghbaaGreatDoor

/- design.Print: line. -/
namespace Go.Proofs.YtihegbjlgpghbaaGreatDoor
open Go.RowKit
attribute [local go_sem ↓] Go.wp_at_zero Go.wp_at_succ

theorem PrAt.below {B b : Nat} {p : Value} {bs : List Value} {w w' : World} (h : PrAt B b p bs w) (hb : Below w.heap.size w w') : PrAt B b p bs w' := by
  obtain ⟨hB, v, h1, h2, h3⟩ := h
  exact ⟨hB, v, (hb.block _ (lt_of_block h1)).trans h1, ownsRow_below h2 hb, h3⟩
theorem IsPr.below {B b : Nat} {bs : List Value} {w w' : World} (h : IsPr B b bs w) (hb : Below w.heap.size w w') : IsPr B b bs w' := h.imp (fun h => PrAt.below h hb) (fun h => PrAt.below h hb)
/-- "    kind name : width rest;\n" -/
def lineS (kind name : ByteArray) (f rest : ByteArray) : ByteArray := ((((((⟨#[32, 32, 32, 32]⟩ ++ kind) ++ ⟨#[32]⟩) ++ name) ++ ⟨#[32, 58, 32]⟩) ++ f) ++ rest) ++ ⟨#[59, 10]⟩
theorem lineS_size (kind name f rest : ByteArray) : (lineS kind name f rest).size = kind.size + name.size + f.size + rest.size + 10 := by
  simp only [lineS, ByteArray.size_append]
  show 4 + kind.size + 1 + name.size + 3 + f.size + rest.size + 2 = _
  omega
def LinePost (B b : Nat) (bs : List Value) (s : ByteArray) (w : World) (e : Ending) (w' : World) : Prop := e = .returned (.tuple #[]) ∧ PrAt B b (.pointer (some ⟨b, 0, none⟩)) (bs ++ Lib.strCells s) w' ∧ Below B w w' ∧ PrFr b w w'
set_option maxRecDepth 100000 in
set_option maxHeartbeats 4000000 in
theorem line_any (B b : Nat) (bs : List Value) (kind name rest : ByteArray) (n : Int) (w : World) (h : IsPr B b bs w) (hBw : B ≤ w.heap.size) (hk : kind.size ≤ 8) (hn : name.size ≤ 1099511627776) (hr : rest.size ≤ 2199023255552) (hl : bs.length ≤ 70368744177664)
    (hfs : (fmtS n).size ≤ 100) (hF : ∀ W, Below w.heap.size w W → Calls Tryz.prog 78 #[.int .i64 n] W (SPost (fmtS n) W)) :
    Calls Tryz.prog 76 #[.pointer (some ⟨b, 0, none⟩), .string kind, .string name, .int .i64 n, .string rest] w (LinePost B b bs (lineS kind name (fmtS n) rest) w) := by
  have HF : Hid (∀ W, Below w.heap.size w W → Calls Tryz.prog 78 #[.int .i64 n] W fun e w' => e = .returned (.string (fmtS n)) ∧ Below W.heap.size W w') := hF
  have HI := Lib.hid h
  have HW : Hid (∀ W, Below w.heap.size w W → Calls Tryz.prog 75 #[.pointer (some ⟨b, 0, none⟩), .string (lineS kind name (fmtS n) rest)] W fun e w' => e = .returned (.tuple #[.int .i64 (lineS kind name (fmtS n) rest).size, .nilIface]) ∧ (PrAt B b (.pointer (some ⟨b, 0, none⟩)) (bs ++ Lib.strCells (lineS kind name (fmtS n) rest)) w' ∧ Below B W w' ∧ PrFr b W w')) := fun W hW =>
    pr_write B b bs _ W (IsPr.below h hW) (by rw [lineS_size]; omega) (Nat.le_trans hBw hW.size)
  have HP : Hid (∀ w', PrAt B b (.pointer (some ⟨b, 0, none⟩)) (bs ++ Lib.strCells (lineS kind name (fmtS n) rest)) w' → Below B w w' → PrFr b w w' → LinePost B b bs (lineS kind name (fmtS n) rest) w (.returned (.tuple #[])) w') := fun w' h1 h2 h3 => ⟨rfl, h1, h2, h3⟩
  generalize LinePost B b bs (lineS kind name (fmtS n) rest) w = Po at HP ⊢
  unfold lineS at HW
  unfold lineS at HP
  clear h hF
  generalize fmtS n = f at HF HW HP hfs
  have q1 : ¬ 9223372036854775807 < 4 + kind.size := by omega
  have q2 : ¬ 9223372036854775807 < 4 + kind.size + 1 := by omega
  have q3 : ¬ 9223372036854775807 < 4 + kind.size + 1 + name.size := by omega
  have q4 : ¬ 9223372036854775807 < 4 + kind.size + 1 + name.size + 3 := by omega
  have q5 : ¬ 9223372036854775807 < 4 + kind.size + 1 + name.size + 3 + f.size := by omega
  have q6 : ¬ 9223372036854775807 < 4 + kind.size + 1 + name.size + 3 + f.size + rest.size := by omega
  have q7 : ¬ 9223372036854775807 < 4 + kind.size + 1 + name.size + 3 + f.size + rest.size + 2 := by omega
  go_enter Tryz.func76, Tryz.ntmps76
  go_wp2_with fail
  go_region_held3 (fun w' => Below B w w')
    ((first | assumption | (exact (Below.drew (Below.refl _ _)))))
    (first
      | (go_at_call 78; (with_reducible refine (HF.out _ ?hin).mono ?_); (case hin => (exact (by repeat (first | assumption | exact Below.refl _ _ | refine Below.drew ?_ | refine below_drewN ?_ _ | refine Below.alloc ?_ (by first | omega | (simp only [World.size_alloc, World.size_setCell, World.size_drew, World.heap_drewN] <;> omega) | (simp <;> omega)) _ | refine Below.setCell ?_ (by first | omega | (simp only [World.size_alloc, World.size_setCell, World.size_drew, World.heap_drewN] <;> omega) | (simp <;> omega)) _)))); rintro r w5 ⟨rfl, hb5⟩; (have hw5 : Below w.heap.size w w5 := (Below.drew (Below.refl _ _)).trans hb5); (have hw5B : Below B w w5 := hw5.mono hBw); clear hb5)
      | (go_at_call 75; (with_reducible refine (HW.out _ ?hin).mono ?_); (case hin => (exact hw5)); rintro r w6 ⟨rfl, hp6, hb6, hf6⟩; (have HP6 := Lib.hid hp6); (have HF6 := Lib.hid ((PrFr.of_below (b := b) hw5).trans hf6)); clear hf6; (have hw6B : Below B w w6 := hw5B.trans hb6); clear hp6 hb6))
  all_goals
    have HPf := Lib.hid (HP.out w6 HP6.out hw6B HF6.out)
    clear hw6B hw5 hw5B
    go_wp2_with fail
    first | exact HPf.out | (go_end0; exact HPf.out)
end Go.Proofs.YtihegbjlgpghbaaGreatDoor

/- design.Print: the lines, plain. -/
namespace Go.Proofs.YtihegbjlgpghbaaGreatDoor

def hdrS (nm : ByteArray) : ByteArray := (⟨#[100, 101, 115, 105, 103, 110, 32]⟩ ++ nm) ++ ⟨#[32, 123, 10]⟩
def kIn : ByteArray := ⟨#[105, 110, 112, 117, 116]⟩
def kWire : ByteArray := ⟨#[119, 105, 114, 101]⟩
def kReg : ByteArray := ⟨#[114, 101, 103]⟩
def eqS (t : ByteArray) : ByteArray := ⟨#[32, 61, 32]⟩ ++ t
def thenS (f t : ByteArray) : ByteArray := ((⟨#[32, 61, 32]⟩ ++ f) ++ ⟨#[32, 116, 104, 101, 110, 32]⟩) ++ t
def inLine (p : PortD) : ByteArray := lineS kIn p.name (fmtS p.width) ⟨#[]⟩
def wireLine (fx : Ex → ByteArray) (r : WireD) : ByteArray := lineS kWire r.name (fmtS r.width) (eqS (fx r.expr))
def regLine (fx : Ex → ByteArray) (r : RegD) : ByteArray := lineS kReg r.name (fmtS r.width) (thenS (fmtS r.init) (fx r.next))
def outLine (s : ByteArray) : ByteArray := (⟨#[32, 32, 32, 32, 111, 117, 116, 112, 117, 116, 32]⟩ ++ s) ++ ⟨#[59, 10]⟩
def endS : ByteArray := ⟨#[125, 10]⟩
def cellsL (l : List ByteArray) : List Value := l.flatMap Lib.strCells
def linA1 (d : DesD) : List ByteArray := [hdrS d.name]
def linA2 (d : DesD) : List ByteArray := linA1 d ++ d.inputs.map inLine
noncomputable def linA3 (fx : Ex → ByteArray) (d : DesD) : List ByteArray := linA2 d ++ d.wires.map (wireLine fx)
noncomputable def linA4 (fx : Ex → ByteArray) (d : DesD) : List ByteArray := linA3 fx d ++ d.regs.map (regLine fx)
noncomputable def linA5 (fx : Ex → ByteArray) (d : DesD) : List ByteArray := linA4 fx d ++ d.outputs.map outLine
noncomputable def linA6 (fx : Ex → ByteArray) (d : DesD) : List ByteArray := linA5 fx d ++ [endS]
noncomputable def printL (fx : Ex → ByteArray) (d : DesD) : List UInt8 := (linA6 fx d).flatMap (·.data.toList)
noncomputable def printS (fx : Ex → ByteArray) (d : DesD) : ByteArray := ⟨(printL fx d).toArray⟩
theorem cellsL_len (l : List ByteArray) : (cellsL l).length = (l.flatMap (·.data.toList)).length := by
  unfold cellsL
  induction l with
  | nil => rfl
  | cons x l ih => simp only [List.flatMap_cons, List.length_append, ih]; congr 1; simp [Lib.strCells]
theorem cellsL_bytes (l : List ByteArray) : cellsL l = Lib.byteCells (l.flatMap (·.data.toList)) := by
  unfold cellsL Lib.byteCells
  induction l with
  | nil => rfl
  | cons x l ih =>
    simp only [List.flatMap_cons, List.map_append, ih]
    rfl
theorem cellsL_le {X Y : List ByteArray} : (cellsL X).length ≤ (cellsL (X ++ Y)).length := by
  unfold cellsL
  rw [List.flatMap_append, List.length_append]
  omega
theorem cells_step {α : Type} (A : List ByteArray) (l : List α) (f : α → ByteArray) {k : Nat} (hk : k < l.length) : cellsL (A ++ (l.take k).map f) ++ Lib.strCells (f (l[k]'hk)) = cellsL (A ++ (l.take (k + 1)).map f) := by
  rw [List.take_succ_eq_append_getElem hk, List.map_append, ← List.append_assoc]
  unfold cellsL
  rw [List.flatMap_append (xs := A ++ List.map f (List.take k l))]
  simp
theorem cells_part {α : Type} (A : List ByteArray) (l : List α) (f : α → ByteArray) (k : Nat) : (cellsL (A ++ (l.take k).map f)).length ≤ (cellsL (A ++ l.map f)).length := by
  have : l.map f = (l.take k).map f ++ (l.drop k).map f := by rw [← List.map_append, List.take_append_drop]
  rw [this, ← List.append_assoc]
  exact cellsL_le
theorem cells_all (fx : Ex → ByteArray) (d : DesD) : (cellsL (linA2 d)).length ≤ (printL fx d).length ∧ (cellsL (linA3 fx d)).length ≤ (printL fx d).length ∧ (cellsL (linA4 fx d)).length ≤ (printL fx d).length ∧ (cellsL (linA5 fx d)).length ≤ (printL fx d).length := by
  have h6 : (cellsL (linA6 fx d)).length = (printL fx d).length := cellsL_len _
  have h5 : (cellsL (linA5 fx d)).length ≤ (cellsL (linA6 fx d)).length := cellsL_le
  have h4 : (cellsL (linA4 fx d)).length ≤ (cellsL (linA5 fx d)).length := cellsL_le
  have h3 : (cellsL (linA3 fx d)).length ≤ (cellsL (linA4 fx d)).length := cellsL_le
  have h2 : (cellsL (linA2 d)).length ≤ (cellsL (linA3 fx d)).length := cellsL_le
  omega
/-- what the walk needs of one part: what is held after k lines -/
structure Part (n : Nat) (C : Nat → List Value) (line : Nat → ByteArray) (first last : List Value) : Prop where
  zero : C 0 = first
  all : C n = last
  step : ∀ k, k < n → C k ++ Lib.strCells (line k) = C (k + 1)
  len : ∀ k, k ≤ n → (C k).length ≤ 70368744177664
theorem part_of {α : Type} (A : List ByteArray) (l : List α) (f : α → ByteArray) (dflt : ByteArray) (h : (cellsL (A ++ l.map f)).length ≤ 70368744177664) : Part l.length (fun k => cellsL (A ++ (l.take k).map f)) (fun k => if hk : k < l.length then f (l[k]'hk) else dflt) (cellsL A) (cellsL (A ++ l.map f)) := by
  refine ⟨by simp, by simp, fun k hk => ?_, fun k _ => Nat.le_trans (cells_part A l f k) h⟩
  simp only [dif_pos hk]
  exact cells_step A l f hk
end Go.Proofs.YtihegbjlgpghbaaGreatDoor
