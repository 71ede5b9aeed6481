/- design.Cone$1: the closure 'visit'. -/
import Derived.Test.YtihegbjlgpghbaaGreatDoorEF
import Derived.Test.YtihegbjlgpghbaaGreatDoorDE
import Derived.Test.YtihegbjlgpghbaaGreatDoorEA
import Derived.Test.YtihegbjlgpghbaaGreatDoorDH
import Derived.Test.YtihegbjlgpghbaaGreatDoorKB
import Derived.Test.YtihegbjlgpghbaaGreatDoorEB
import Derived.Test.YtihegbjlgpghbaaGreatDoorDC
import Derived.Test.YtihegbjlgpghbaaGreatDoorShelf
import Derived.Sort.OwnSorted
set_option linter.unusedSimpArgs false
set_option linter.unusedVariables false
set_option linter.unnecessarySimpa false
namespace Go.Proofs.YtihegbjlgpghbaaGreatDoor
open Go.RowKit
attribute [local go_sem ↓] Go.wp_at_zero Go.wp_at_succ

theorem zero_expr (w : World) : (zeroValue 55).run Tryz.prog w = .ok (.agg #[.int .i64 0, .int .i64 0, .string .empty, .slice none 0 0]) w := by kernel_rfl
/-- the function value in the cell of 'visit' -/
def visF (bs bw bo bv : Nat) : Value := .func (.func 70) #[] #[.pointer (some ⟨bs, 0, none⟩), .pointer (some ⟨bw, 0, none⟩), .pointer (some ⟨bo, 0, none⟩), .pointer (some ⟨bv, 0, none⟩)]
/-- the map from the wires' names to their expressions -/
def WirF (d : DesD) (w : World) (WF : Lit → Option Value) : Prop := ∀ s : ByteArray, (d.wireIdx s = none → WF (.string s.data.toList) = none) ∧ ∀ q (hq : q < d.wires.length), d.wireIdx s = some q → ∃ a c, WF (.string s.data.toList) = some (.agg #[.int .i64 (d.wires[q]'hq).expr.op, .int .i64 (d.wires[q]'hq).expr.n, .string (d.wires[q]'hq).expr.name, .slice a (d.wires[q]'hq).expr.args.length c]) ∧ ExIn w (d.wires[q]'hq).expr a c
/-- what the closure's captured variables hold -/
structure VisW (d : DesD) (bs bw bo bv ms mw nW B : Nat) (WF : Lit → Option Value) (w0 : World) (v : Value) (S O : List ByteArray) (w : World) : Prop where
  hs : w.heap[bs]? = some (.cells #[.map (some ms)] 94 (0, 0))
  hw : w.heap[bw]? = some (.cells #[.map (some mw)] 93 (0, 0))
  hv : w.heap[bv]? = some (.cells #[visF bs bw bo bv] 95 (0, 0))
  ho : w.heap[bo]? = some (.cells #[v] 25 (0, 0)) ∧ w.ownsRow B 9 1 v O.length (O.map Value.string)
  hm : ∃ m, m ≤ S.length ∧ MapV w Tryz.prog 9 ms m (setF S)
  hM : MapV w Tryz.prog 9 mw nW WF
  bel : Below B w0 w
  lo : B ≤ bo ∧ B ≤ ms ∧ ms ≠ mw
section
variable {d : DesD} {bs bw bo bv ms mw nW B : Nat} {WF : Lit → Option Value} {w0 : World} {v : Value} {S O : List ByteArray} {w w' : World}
theorem VisW.B_lt (h : VisW d bs bw bo bv ms mw nW B WF w0 v S O w) : B < w.heap.size := by
  obtain ⟨m, _, hM⟩ := h.hm
  exact Nat.lt_of_le_of_lt h.lo.2.1 hM.lt
theorem VisW.below (h : VisW d bs bw bo bv ms mw nW B WF w0 v S O w) (hb : Below w.heap.size w w') : VisW d bs bw bo bv ms mw nW B WF w0 v S O w' := by
  obtain ⟨h1, h2⟩ := h.ho
  obtain ⟨m, h3, h4⟩ := h.hm
  exact ⟨hx_below hb h.hs, hx_below hb h.hw, hx_below hb h.hv, ⟨hx_below hb h1, ownsRow_below h2 hb⟩, ⟨m, h3, h4.below hb⟩, h.hM.below hb, h.bel.trans (hb.mono (Nat.le_of_lt h.B_lt)), h.lo⟩
theorem mapV_obj {k : TypeId} {b m : Nat} {f : Lit → Option Value} (h : MapV w Tryz.prog k b m f) : ∃ es cl, w.heap[b]? = some (.map es cl) := by
  obtain ⟨D, ⟨es, clock, g1, _⟩, _⟩ := h
  exact ⟨es, clock, g1⟩
theorem cells_ne_map {k : TypeId} {b q m : Nat} {f : Lit → Option Value} {cs : Array Value} {t : TypeId} {z : Nat × Nat} (h : MapV w Tryz.prog k b m f) (hc : w.heap[q]? = some (.cells cs t z)) : q ≠ b := by
  rintro rfl
  obtain ⟨es, cl, g⟩ := mapV_obj h
  rw [g] at hc
  simp at hc
/-- a name more is seen -/
theorem VisW.put (h : VisW d bs bw bo bv ms mw nW B WF w0 v S O w) {s : ByteArray} {m' : Nat} (hm' : m' ≤ S.length + 1) (hM' : MapV w' Tryz.prog 9 ms m' (setF (S ++ [s]))) (hg : w.grownBy w' (some ms)) : VisW d bs bw bo bv ms mw nW B WF w0 v (S ++ [s]) O w' := by
  obtain ⟨h1, h2⟩ := h.ho
  obtain ⟨m, h3, h4⟩ := h.hm
  have kk : ∀ {q : Nat} {cs : Array Value} {t : TypeId} {z : Nat × Nat}, w.heap[q]? = some (.cells cs t z) → w'.heap[q]? = some (.cells cs t z) := fun hc => (hg.block _ (lt_of_block hc) (fun e => cells_ne_map h4 hc (Option.some.inj e))).trans hc
  refine ⟨kk h.hs, kk h.hw, kk h.hv, ⟨kk h1, ?_⟩, ⟨m', by simp; omega, hM'⟩, h.hM.kept hg (fun e => h.lo.2.2 (Option.some.inj e).symm), ?_, h.lo⟩
  · refine h2.kept hg ?_
    cases hk : v.ownBlock with
    | none => exact Or.inl rfl
    | some k =>
      refine Or.inr fun e => ?_
      obtain ⟨cur, hh, _⟩ := ownsRow_type h2 hk
      exact cells_ne_map h4 hh (Option.some.inj e)
  · exact Below.grown h.bel hg (Nat.le_of_lt h.B_lt) (fun j hj => by rw [← Option.some.inj hj]; exact h.lo.2.1)
/-- a name more is put out: the list grows, and its cell holds the new one -/
theorem VisW.push (h : VisW d bs bw bo bv ms mw nW B WF w0 v S O w) {s : ByteArray} {g cap : Nat} {w1 : World}
    (ho : w1.ownsRow B 9 1 (.slice (some ⟨g, 0, none⟩) (O.length + 1) cap) (O.length + 1) (O.map Value.string ++ [.string s])) (hg : (w.alloc (.cells #[.string s] 9)).grownBy w1 v.ownBlock) :
    VisW d bs bw bo bv ms mw nW B WF w0 (.slice (some ⟨g, 0, none⟩) (O.length + 1) cap) S (O ++ [s]) (w1.setCell ⟨bo, 0, none⟩ (.slice (some ⟨g, 0, none⟩) (O.length + 1) cap)) := by
  obtain ⟨hv, h2⟩ := h.ho
  obtain ⟨m, h3, h4⟩ := h.hm
  have hA : Below w.heap.size w (w.alloc (.cells #[.string s] 9)) := (Below.refl _ _).alloc (Nat.le_refl _) _
  have hA' := h.below hA
  have kr : ∀ {q : Nat} {cs : Array Value} {t : TypeId} {z : Nat × Nat}, w.heap[q]? = some (.cells cs t z) → t ≠ 9 → some q ≠ v.ownBlock := fun hc ht => ownsRow_ne h2 hc ht
  have kk : ∀ {q : Nat} {cs : Array Value} {t : TypeId} {z : Nat × Nat}, w.heap[q]? = some (.cells cs t z) → t ≠ 9 → w1.heap[q]? = some (.cells cs t z) := fun hc ht => (hg.block _ (by have := lt_of_block hc; simp; omega) (kr hc ht)).trans (hx_old hc)
  have hmo : ∀ {k : TypeId} {b n : Nat} {f : Lit → Option Value}, MapV w Tryz.prog k b n f → MapV w1 Tryz.prog k b n f := fun hM => (hM.alloc _).kept hg (fun e => by
    obtain ⟨cur, hh, _⟩ := ownsRow_type h2 e.symm
    exact cells_ne_map hM hh rfl)
  have hbo := kk hv (by decide)
  refine ⟨?_, ?_, ?_, ⟨?_, ?_⟩, ⟨m, h3, (hmo h4).setCell (fun e => cells_ne_map h4 hv e.symm) _⟩, (hmo h.hM).setCell (fun e => cells_ne_map h.hM hv e.symm) _, ?_, h.lo⟩
  · rw [Below.heap_setCell _ _ _ _ (fun e => by have h5 := h.hs; rw [e, hv] at h5; simp at h5)]
    exact kk h.hs (by decide)
  · rw [Below.heap_setCell _ _ _ _ (fun e => by have h5 := h.hw; rw [e, hv] at h5; simp at h5)]
    exact kk h.hw (by decide)
  · rw [Below.heap_setCell _ _ _ _ (fun e => by have h5 := h.hv; rw [e, hv] at h5; simp at h5)]
    exact kk h.hv (by decide)
  · rw [heap_setCell_same _ _ 0 _ _ _ hbo]
    rfl
  · have := ownsRow_store ho hbo (by decide) 0 (.slice (some ⟨g, 0, none⟩) (O.length + 1) cap)
    simpa using this
  · refine (Below.grown (h.bel.alloc (Nat.le_of_lt h.B_lt) _) hg (by have := h.B_lt; simp; omega) (fun j hj => (h2.lt j hj).1)).setCell h.lo.1 _
theorem VisW.bo_kept (h : VisW d bs bw bo bv ms mw nW B WF w0 v S O w) {s : ByteArray} {w1 : World} (hg : (w.alloc (.cells #[.string s] 9)).grownBy w1 v.ownBlock) : w1.heap[bo]? = some (.cells #[v] 25 (0, 0)) := by
  obtain ⟨hv, h2⟩ := h.ho
  exact (hg.block _ (by have := lt_of_block hv; simp; omega) (ownsRow_ne h2 hv (by decide))).trans (hx_old hv)
/-- what else a visit leaves as it was -/
structure VisFr (ms bo : Nat) (v v' : Value) (w w' : World) : Prop where
  size : w.heap.size ≤ w'.heap.size
  blk : ∀ k, k < w.heap.size → k ≠ ms → k ≠ bo → v.ownBlock ≠ some k → w'.heap[k]? = w.heap[k]?
  own : ∀ k, v'.ownBlock = some k → v.ownBlock = some k ∨ w.heap.size ≤ k
theorem VisFr.refl (ms bo : Nat) (v : Value) (w : World) : VisFr ms bo v v w w := ⟨Nat.le_refl _, fun _ _ _ _ _ => rfl, fun _ h => Or.inl h⟩
theorem VisFr.trans {v v' v'' : Value} {w'' : World} (h : VisFr ms bo v v' w w') (h' : VisFr ms bo v' v'' w' w'') : VisFr ms bo v v'' w w'' := by
  refine ⟨Nat.le_trans h.size h'.size, fun k hk h1 h2 h3 => ?_, fun k hk => ?_⟩
  · rw [h'.blk k (Nat.lt_of_lt_of_le hk h.size) h1 h2 (fun e => by
      rcases h.own k e with e | e
      · exact h3 e
      · omega)]
    exact h.blk k hk h1 h2 h3
  · rcases h'.own k hk with e | e
    · exact h.own k e
    · exact Or.inr (Nat.le_trans h.size e)
theorem VisFr.of_below {v : Value} (hb : Below w.heap.size w w') : VisFr ms bo v v w w' := ⟨hb.size, fun k hk _ _ _ => hb.block k hk, fun _ h => Or.inl h⟩
theorem VisFr.of_put {v : Value} (hg : w.grownBy w' (some ms)) : VisFr ms bo v v w w' := ⟨hg.size, fun k hk h1 _ _ => hg.block k hk (fun e => h1 (Option.some.inj e)), fun _ h => Or.inl h⟩
theorem VisFr.of_push {v u : Value} {s : ByteArray} {w1 : World} {g n cap : Nat} (hg : (w.alloc (.cells #[.string s] 9)).grownBy w1 v.ownBlock) (hat : v.ownBlock = some g ∨ w.heap.size < g) : VisFr ms bo v (.slice (some ⟨g, 0, none⟩) n cap) w (w1.setCell ⟨bo, 0, none⟩ u) := by
  refine ⟨?_, fun k hk _ h2 h3 => ?_, fun k hk => ?_⟩
  · rw [World.size_setCell]
    have := hg.size
    simp at this
    omega
  · rw [Below.heap_setCell _ _ _ _ h2, hg.block k (by simp; omega) (fun e => h3 e.symm), Below.heap_alloc _ _ _ hk]
  · have e : g = k := Option.some.inj hk
    subst e
    rcases hat with h | h
    · exact Or.inl h
    · exact Or.inr (Nat.le_of_lt h)
theorem StrsIn.fr {v v' : Value} {l : List ByteArray} {a : Option Addr} {c : Nat} (h : StrsIn w l a c) (hF : ∀ p : Addr, a = some p → p.block ≠ ms ∧ p.block ≠ bo ∧ v.ownBlock ≠ some p.block) (hf : VisFr ms bo v v' w w') : StrsIn w' l a c := by
  refine ⟨h.1, h.2.1, h.2.2.imp id ?_⟩
  rintro ⟨b', o', ha, hq⟩
  obtain ⟨f1, f2, f3⟩ := hF _ ha
  refine ⟨b', o', ha, fun i hi => ?_⟩
  obtain ⟨s, hs, h1⟩ := hq i hi
  exact ⟨s, hs, (World.cell?_of_block (a := ⟨b', o' + i * 1, none⟩) (hf.blk b' (World.block_lt_of_cell? _ _ h1) f1 f2 f3)).trans h1⟩
end
end Go.Proofs.YtihegbjlgpghbaaGreatDoor

/- expr.Names: the list lies in memory that the call has made. -/
namespace Go.Proofs.YtihegbjlgpghbaaGreatDoor
open Go.RowKit

set_option maxHeartbeats 1000000 in
theorem namesF_any (op n : Int) (s : ByteArray) (args : List Ex) (a : Option Addr) (cap bo oc : Nat) (ops : List Int) (w : World) (hE : ExIn w (.mk op n s args) a cap) (hn : (Ex.mk op n s args).nodes.length ≤ 1073741824)
    (B : Nat) (w0 : World) (hw0 : B = w0.heap.size) (hW : Below B w0 w) (hbB : B ≤ bo) (hbo : w.heap[bo]? = some (.cells (ops.map (Value.int .i64)).toArray 3 (0, 0))) (hol : 0 < ops.length ∧ ops.length ≤ 1000) (hE0 : ExIn w0 (.mk op n s args) a cap) :
    Calls Tryz.prog 113 #[.agg #[.int .i64 op, .int .i64 n, .string s, .slice a args.length cap], .slice (some ⟨bo, 0, none⟩) ops.length oc] w fun e w' =>
      (∃ a' cap', e = .returned (.slice a' (namesS ops (.mk op n s args)).length cap') ∧ StrsIn w' (namesS ops (.mk op n s args)) a' cap' ∧ ∀ p : Addr, a' = some p → B ≤ p.block) ∧ Below B w0 w' := by
  subst hw0
  have hB : Below w.heap.size w (((w.alloc (.cells #[.int .i64 op, .int .i64 n, .string s, .slice a args.length cap] 55)).alloc (.cells #[.slice (some ⟨bo, 0, none⟩) ops.length oc] 28)).alloc (.cells #[.slice none 0 0] 25)) := (by repeat (first | assumption | exact Below.refl _ _ | refine Below.drew ?_ | refine below_drewN ?_ _ | refine Below.alloc ?_ (by first | omega | (simp only [World.size_alloc, World.size_setCell, World.size_drew, World.heap_drewN] <;> omega) | (simp <;> omega)) _ | refine Below.setCell ?_ (by first | omega | (simp only [World.size_alloc, World.size_setCell, World.size_drew, World.heap_drewN] <;> omega) | (simp <;> omega)) _))
  have hws := hW.size
  have hC := walk_171 (w.heap.size + 1) (w.heap.size + 1 + 1) (InvN w0.heap.size (w.heap.size + 1) (w.heap.size + 1 + 1) bo oc ops) List.length (stepN ops) w0 (fun st e => addName_len ops st e) InvN.keep (visitN w0 _ _ bo oc ops hol) op n s args [] a cap _ (by simpa using hn)
    ⟨⟨by omega, by omega, hbB⟩, ⟨_, heap_alloc_at _ _ _ (by simp), World.ownsRow_nil _ _ _ _⟩, by rw [Below.heap_alloc _ _ _ (by simp)]; exact heap_alloc_at _ _ _ (by simp), by rw [hB.block _ (lt_of_block hbo)]; exact hbo⟩ (hW.trans (hB.mono hws)) hE0
  rw [runN] at hC
  have HB := Lib.hid hB
  have HC := Lib.hid hC
  have HW := Lib.hid hW
  have Hn := Lib.hid hn
  have Hws := Lib.hid hws
  clear hC hB hE hn hW hbo hE0 hbB hws
  go_enter Tryz.func113, Tryz.ntmps113
  go_wp2_with fail
  refine HC.out.mono ?_
  rintro e w2 ⟨rfl, hI2, hK2⟩
  obtain ⟨_, ⟨v, hv, hown⟩, _⟩ := hI2
  have c0 := cell_of_one hv
  have HK2 := Lib.hid hK2
  have HO := Lib.hid hown
  clear hK2 hv hown
  go_wp2_with fail
  go_ret
  have hlt := HO.out.lt
  obtain ⟨a', cap', rfl, hs⟩ := strs_of_own HO.out (by have := names_len ops (Ex.mk op n s args).nodes []; have := Hn.out; simp at *; omega)
  exact ⟨⟨a', cap', rfl, hs, fun p hp => (hlt p.block (by rw [hp]; rfl)).1⟩, HW.out.trans ((HB.out.mono Hws.out).trans (HK2.out.below (by have := HB.out.size; have := Hws.out; omega)))⟩

set_option maxHeartbeats 1000000 in
theorem NamesF_any (op n : Int) (s : ByteArray) (args : List Ex) (a : Option Addr) (cap : Nat) (w : World) (hE : ExIn w (.mk op n s args) a cap) (hn : (Ex.mk op n s args).nodes.length ≤ 1073741824) :
    Calls Tryz.prog 71 #[.agg #[.int .i64 op, .int .i64 n, .string s, .slice a args.length cap]] w fun e w' =>
      (∃ a' cap', e = .returned (.slice a' (namesS [2] (.mk op n s args)).length cap') ∧ StrsIn w' (namesS [2] (.mk op n s args)) a' cap' ∧ ∀ p : Addr, a' = some p → w.heap.size ≤ p.block) ∧ Below w.heap.size w w' := by
  have hB : Below w.heap.size w ((w.alloc (.cells #[.int .i64 op, .int .i64 n, .string s, .slice a args.length cap] 55)).alloc (.cells (([2] : List Int).map (Value.int .i64)).toArray 3)) := (by repeat (first | assumption | exact Below.refl _ _ | refine Below.drew ?_ | refine below_drewN ?_ _ | refine Below.alloc ?_ (by first | omega | (simp only [World.size_alloc, World.size_setCell, World.size_drew, World.heap_drewN] <;> omega) | (simp <;> omega)) _ | refine Below.setCell ?_ (by first | omega | (simp only [World.size_alloc, World.size_setCell, World.size_drew, World.heap_drewN] <;> omega) | (simp <;> omega)) _))
  have hC := namesF_any op n s args a cap (w.heap.size + 1) ([2] : List Int).length [2] _ (hE.keep (keeps_of_below hB)) hn _ w rfl hB (by omega) (heap_alloc_at _ _ _ (by simp)) (by decide) hE
  have HC := Lib.hid hC
  clear hC hB hE hn
  go_enter Tryz.func71, Tryz.ntmps71
  go_wp2_with fail
  refine HC.out.mono ?_
  rintro e w2 ⟨⟨a', cap', rfl, hs, hf⟩, hb⟩
  have HS := Lib.hid (⟨hs, hb, hf⟩ : _ ∧ _ ∧ _)
  clear hs hb hf
  go_wp2_with fail
  go_ret
  exact ⟨⟨a', cap', rfl, HS.out.1, HS.out.2.2⟩, HS.out.2.1⟩
end Go.Proofs.YtihegbjlgpghbaaGreatDoor

/- design.Cone$1: the walk of 'visit'. -/
namespace Go.Proofs.YtihegbjlgpghbaaGreatDoor
open Go.RowKit
attribute [local go_sem ↓] Go.wp_at_zero Go.wp_at_succ

def VisPost (d : DesD) (nm : ByteArray) (bs bw bo bv ms mw nW B : Nat) (WF : Lit → Option Value) (w0 : World) (v : Value) (S : List ByteArray) (w : World) (e : Ending) (w' : World) : Prop :=
  e = .returned (.tuple #[]) ∧ ∃ S' O' v', VisInv d S' O' ∧ VisRel d [nm] S S' ∧ VisW d bs bw bo bv ms mw nW B WF w0 v' S' O' w' ∧ VisFr ms bo v v' w w' ∧ S.length ≤ S'.length
/-- 'm[k] = v', the key is new -/
theorem wp_mapV_new {P : Program} {k : TypeId} {b n : Nat} {f : Lit → Option Value} {ops : Array Oper} {Q : Exit → Act → World → Prop} {rest : List Oper} {a : Act} {o : Oper} (w : World) (hg : o.guard = none) (m x v : Operand) (t e : TypeId) (hop : o.op = Op.mapUpdate t m x v) (K : Maps.Keyed P k) (ht : P.underlying t = some (.map k e)) (hm : a.eval m = .map (some b)) (hown : MapV w P k b n f) (hn : n < 1000000000)
    (key val : Value) (kl : Lit) (hx : a.eval x = key) (hv : a.eval v = val) (hkey : keyOf P k key = some kl) (hk : WideAt.IsKeyLit kl) (hf : f kl = none)
    (hK : ∀ w', MapV w' P k b (n + 1) (putL f kl (some val)) → w.grownBy w' (some b) → wpList P ops Q rest (a.put o.dst undef) w') : wpList P ops Q (o :: rest) a w :=
  wp_mapV_put w hg m x v t e hop K ht hm hown hn key val kl hx hv hkey hk (fun w' h => hK w' (by simpa [hf] using h))
set_option maxRecDepth 100000 in
set_option maxHeartbeats 16000000 in
theorem visit_any (d : DesD) (w0 : World) (bs bw bo bv ms mw nW B : Nat) (WF : Lit → Option Value) (hd : DesOk d) (hsz : ∀ s, (idxT d.names s).isSome = true → s.size ≤ 1073741824) (hex : ∀ e ∈ d.exprs, e.nodes.length ≤ 1048576) (hWF : ∀ W, Below B w0 W → WirF d W WF) :
    ∀ (n : Nat) (S O : List ByteArray) (nm : ByteArray) (v : Value) (w : World), 48 - S.length = n → VisInv d S O → VisW d bs bw bo bv ms mw nW B WF w0 v S O w → (idxT d.names nm).isSome = true →
    Calls Tryz.prog 70 #[.string nm, .pointer (some ⟨bs, 0, none⟩), .pointer (some ⟨bw, 0, none⟩), .pointer (some ⟨bo, 0, none⟩), .pointer (some ⟨bv, 0, none⟩)] w (VisPost d nm bs bw bo bv ms mw nW B WF w0 v S w) := by
  intro n
  induction n using Nat.strongRecOn with
  | _ n ih =>
    intro S O nm v w hn hI hW hnm
    have h48 : S.length ≤ 48 := Nat.le_trans hI.len hd.len
    have HP : Hid (∀ S' O' v' w', VisInv d S' O' → VisRel d [nm] S S' → VisW d bs bw bo bv ms mw nW B WF w0 v' S' O' w' → VisFr ms bo v v' w w' → S.length ≤ S'.length → VisPost d nm bs bw bo bv ms mw nW B WF w0 v S w (.returned (.tuple #[])) w') := fun S' O' v' w' h1 h2 h3 h4 h5 => ⟨rfl, S', O', v', h1, h2, h3, h4, h5⟩
    have hnsz := hsz nm hnm
    have HI := Lib.hid hI
    have HW := Lib.hid hW
    have c1 := cell_of_blk hW.hs 0
    simp at c1
    obtain ⟨m, hm, hM⟩ := hW.hm
    have HM := Lib.hid hM
    generalize hPo : VisPost d nm bs bw bo bv ms mw nW B WF w0 v S w = Po at HP ⊢
    cases hi : idxT S nm with
    | some k =>
      have hmem : nm ∈ S := by
        obtain ⟨j, hj, _, he⟩ := idxT_get (l := S) (s := nm) (by rw [hi]; rfl)
        rw [← bytes_inj he]; exact List.getElem_mem hj
      have HPf := Lib.hid (HP.out S O v w hI (VisRel.seen hmem) hW (VisFr.refl _ _ _ _) (Nat.le_refl _))
      have hf := setF_some (l := S) (s := nm) (by rw [hi]; rfl)
      have Hf := Lib.hid hf
      clear hf hmem hi HP hPo ih hI hW hM hsz hex hWF hnm hn
      go_enter Tryz.func70, Tryz.ntmps70
      go_wp2_with (at_lookup; go_must (refine wp_mapV_get _ rfl _ _ 94 4 rfl keyed_str (by kernel_rfl) (zero_bool _) rfl HM.out _ _ rfl (key_str hnsz) (.bool true) Hf.out ?_))
      refine bodyPost_ret (results_none rfl _ _ _) rfl ?_
      exact HPf.out
    | none =>
      have hf := setF_none (l := S) (s := nm) (by rw [hi]; rfl)
      have Hf := Lib.hid hf
      have HPt := Lib.hid (setF_put S nm)
      have hmw := hW.lo.2.2
      cases hx : d.wireIdx nm with
      | none =>
        have HI2 := Lib.hid (hI.leaf hnm hi hx)
        have HR2 : Hid (VisRel d [nm] S (S ++ [nm])) := VisRel.leaf hx
        have HF0 := Lib.hid ((hWF w hW.bel nm).1 hx)
        have hOl : O.length ≤ 48 := Nat.le_trans hI.olen h48
        clear hf hi hPo ih hI hM hsz hex hWF hnm hn hx
        have hBl := hW.B_lt
        clear hW
        go_enter Tryz.func70, Tryz.ntmps70
        go_wp2_with (first | (at_lookup; go_must (refine wp_mapV_zero _ rfl _ _ 94 4 rfl keyed_str (by kernel_rfl) (zero_bool _) rfl HM.out _ _ rfl (key_str hnsz) Hf.out ?_)) | (at_mapUpdate; go_must (refine wp_mapV_new _ rfl _ _ _ 94 4 rfl keyed_str (by kernel_rfl) rfl HM.out (by omega) _ _ _ rfl rfl (key_str hnsz) trivial Hf.out ?_)))
        intro w7 hM7 hg7
        have HW7 := Lib.hid (HW.out.put (s := nm) (m' := m + 1) (by omega) (hM7.congr HPt.out) hg7)
        have HG7 : Hid (VisFr ms bo v v w w7) := VisFr.of_put hg7
        have c2 := cell_of_blk HW7.out.hw 0
        simp at c2
        have HMw := Lib.hid HW7.out.hM
        have hBl7 := HW7.out.B_lt
        clear hM7 hg7 c1
        have hE : Below w7.heap.size w7 (w7.alloc (.cells #[.int .i64 0, .int .i64 0, .string .empty, .slice none 0 0] 55)) := (Below.refl _ _).alloc (Nat.le_refl _) _
        have HW8 := Lib.hid (HW7.out.below hE)
        have HG8 : Hid (VisFr ms bo v v w (w7.alloc (.cells #[.int .i64 0, .int .i64 0, .string .empty, .slice none 0 0] 55))) := HG7.out.trans (VisFr.of_below hE)
        have c3 := cell_of_blk HW8.out.ho.1 0
        simp at c3
        have HO8 := Lib.hid HW8.out.ho.2
        clear hE
        go_wp2_with (first | (at_lookup; go_must (refine wp_mapV_none _ rfl _ _ 93 55 rfl keyed_str (by kernel_rfl) (zero_expr _) rfl HMw.out _ _ rfl (key_str hnsz) HF0.out ?_)) | (at_builtin; go_must (refine own_appx elemS _ rfl (.tmp 23) (.tmp 25) rfl B v O.length (O.map Value.string) rfl HO8.out [.string nm] 1 _ 1 rfl (by simp [Value.oneCell']) rfl (by first | rfl | simp) (by omega) (by omega) (by first | omega | (simp only [World.size_alloc, World.size_setCell, World.size_drew, World.heap_drewN] <;> omega) | (simp <;> omega)) ?_)))
        intro g' cap' w10 ho hg hat
        have hbo := HW8.out.bo_kept hg
        have f10 : w10.frozen? ⟨bo, 0, none⟩ = false := by simp [World.frozen?, hbo]
        have c10 := cell_of_blk hbo 0
        simp at c10
        have HW10 := Lib.hid (HW8.out.push ho hg)
        have HG10 : Hid (VisFr ms bo v (.slice (some ⟨g', 0, none⟩) (O.length + 1) cap') w (w10.setCell ⟨bo, 0, none⟩ (.slice (some ⟨g', 0, none⟩) (O.length + 1) cap'))) := HG8.out.trans (VisFr.of_push hg (by
          rcases hat with h | h
          · exact Or.inl h
          · exact Or.inr (by simpa using h)))
        have HPf := Lib.hid (HP.out _ _ _ _ HI2.out HR2.out HW10.out HG10.out (by simp))
        clear ho hg hat hbo
        go_wp2_with fail
        refine bodyPost_ret (results_none rfl _ _ _) rfl ?_
        exact HPf.out
      | some q =>
        have hq := wireIdx_lt hx
        have hnw : ¬ d.wireIdx nm = none := by rw [hx]; simp
        have HI2 := Lib.hid (hI.wire hnm hi hnw)
        have hS47 : S.length < 48 := by
          have := HI2.out.len
          have := hd.len
          simp at *
          omega
        have HRw : Hid (∀ S', VisRel d (namesS [2] (d.wires[q]'hq).expr) (S ++ [nm]) S' → VisRel d [nm] S S') := fun S' h => VisRel.wire hq hx h
        have HIh : Hid (∀ S' O' u v' W, S.length < S'.length → VisInv d S' O' → VisW d bs bw bo bv ms mw nW B WF w0 v' S' O' W → (idxT d.names u).isSome = true → Calls Tryz.prog 70 #[.string u, .pointer (some ⟨bs, 0, none⟩), .pointer (some ⟨bw, 0, none⟩), .pointer (some ⟨bo, 0, none⟩), .pointer (some ⟨bv, 0, none⟩)] W (VisPost d u bs bw bo bv ms mw nW B WF w0 v' S' W)) := fun S' O' u v' W hl h1 h2 h3 => ih (48 - S'.length) (by omega) S' O' u v' W rfl h1 h2 h3
        have HNk : Hid (∀ u ∈ namesS [2] (d.wires[q]'hq).expr, (idxT d.names u).isSome = true) := (hd.exprs _ (wire_expr hq)).2.2
        have HWf := Lib.hid (fun W (hW : Below B w0 W) => (hWF W hW nm).2 q hq hx)
        have HNa : Hid (∀ ae ce W, ExIn W (d.wires[q]'hq).expr ae ce → Calls Tryz.prog 71 #[.agg #[.int .i64 (d.wires[q]'hq).expr.op, .int .i64 (d.wires[q]'hq).expr.n, .string (d.wires[q]'hq).expr.name, .slice ae (d.wires[q]'hq).expr.args.length ce]] W fun r w' => (∃ a' cap', r = .returned (.slice a' (namesS [2] (d.wires[q]'hq).expr).length cap') ∧ StrsIn w' (namesS [2] (d.wires[q]'hq).expr) a' cap' ∧ ∀ p : Addr, a' = some p → W.heap.size ≤ p.block) ∧ Below W.heap.size W w') := fun ae ce W hX => by
          have h1 := hex _ (wire_expr hq)
          generalize (d.wires[q]'hq).expr = e at h1 hX
          obtain ⟨op, n, s, args⟩ := e
          exact NamesF_any op n s args ae ce W hX (by omega)
        clear hf hi hPo ih hI hM hsz hex hWF hnm hn hx hnw
        have hBl := hW.B_lt
        clear hW
        generalize namesS [2] (d.wires[q]'hq).expr = N2 at HRw HNk HNa
        generalize (d.wires[q]'hq).expr = ex at HWf HNa
        go_enter Tryz.func70, Tryz.ntmps70
        go_wp2_with (first | (at_lookup; go_must (refine wp_mapV_zero _ rfl _ _ 94 4 rfl keyed_str (by kernel_rfl) (zero_bool _) rfl HM.out _ _ rfl (key_str hnsz) Hf.out ?_)) | (at_mapUpdate; go_must (refine wp_mapV_new _ rfl _ _ _ 94 4 rfl keyed_str (by kernel_rfl) rfl HM.out (by omega) _ _ _ rfl rfl (key_str hnsz) trivial Hf.out ?_)))
        intro w7 hM7 hg7
        have HW7 := Lib.hid (HW.out.put (s := nm) (m' := m + 1) (by omega) (hM7.congr HPt.out) hg7)
        have HG7 : Hid (VisFr ms bo v v w w7) := VisFr.of_put hg7
        have c2 := cell_of_blk HW7.out.hw 0
        simp at c2
        have HMw := Lib.hid HW7.out.hM
        obtain ⟨ae, ce, hWv, hX⟩ := HWf.out w7 HW7.out.bel
        have HWv := Lib.hid hWv
        have hE : Below w7.heap.size w7 (w7.alloc (.cells #[.int .i64 ex.op, .int .i64 ex.n, .string ex.name, .slice ae ex.args.length ce] 55)) := (Below.refl _ _).alloc (Nat.le_refl _) _
        have HN8 := Lib.hid (HNa.out ae ce _ (hX.keep (keeps_of_below hE)))
        have HB8 := Lib.hid hE
        clear hM7 hg7 c1 hWv hX hE HNa HWf HM Hf HPt HW
        go_wp2_with (at_lookup; go_must (refine wp_mapV_some _ rfl _ _ 93 55 rfl keyed_str (by kernel_rfl) (zero_expr _) rfl HMw.out _ _ rfl (key_str hnsz) _ HWv.out ?_))
        refine HN8.out.mono ?_
        rintro r w9 ⟨⟨an, cn, rfl, hst, hfr⟩, hb9⟩
        have HW8 := Lib.hid (HW7.out.below HB8.out)
        have HW9 := Lib.hid (HW8.out.below hb9)
        have HG9 : Hid (VisFr ms bo v v w w9) := (HG7.out.trans (VisFr.of_below HB8.out)).trans (VisFr.of_below hb9)
        have HF9 : Hid (∀ p : Addr, an = some p → p.block ≠ ms ∧ p.block ≠ bo ∧ v.ownBlock ≠ some p.block) := fun p hp => by
          have h1 := hfr p hp
          simp only [World.size_alloc] at h1
          obtain ⟨m2, _, hM2⟩ := HW7.out.hm
          have h2 := hM2.lt
          have h3 := lt_of_block HW7.out.ho.1
          refine ⟨by omega, by omega, fun e => ?_⟩
          have h4 := (HW7.out.ho.2.lt _ e).2
          omega
        have HS9 := Lib.hid hst
        have HSA := Lib.hid (SliceIn.addr hst)
        have hln := hst.2.1
        have hlc := hst.1
        have HR9 : Hid (VisRel d [] (S ++ [nm]) (S ++ [nm])) := VisRel.nil _ _
        clear hst hfr hb9 HN8 HWv HMw c2 HB8 HW8 HG7 HW7
        go_wp2_with fail
        go_loopw [30] (fun j wr => ∃ (k : Nat) (S' O' : List ByteArray) (v' : Value), j = .int .i64 k ∧ k ≤ N2.length ∧ Hid (VisInv d S' O') ∧ Hid (VisRel d (N2.take k) (S ++ [nm]) S') ∧ Hid (VisW d bs bw bo bv ms mw nW B WF w0 v' S' O' wr) ∧ Hid (VisFr ms bo v v' w9 wr) ∧ S.length < S'.length) (fun j _ => N2.length - (intOf j).toNat)
        case atStart => exact ⟨0, S ++ [nm], O, v, rfl, Nat.zero_le _, HI2, HR9, HW9, VisFr.refl _ _ _ _, by simp⟩
        case round =>
          obtain ⟨k, S', O', v', rfl, hk, HI', HR', HW', HFr, hl'⟩ := hrel
          by_cases hlt : k < N2.length
          · obtain ⟨bn, on, han⟩ := HSA.out.resolve_left (by omega)
            have c0 := (HS9.out.fr HF9.out HFr.out).get han hlt
            have c4 := cell_of_blk HW'.out.hv 0
            simp [visF] at c4
            have HC := Lib.hid (HIh.out S' O' (N2[k]'hlt) v' wr hl' HI'.out HW'.out (HNk.out _ (List.getElem_mem hlt)))
            unfold VisPost at HC
            have HTk : Hid (∀ S2, VisRel d [N2[k]'hlt] S' S2 → VisRel d (N2.take (k + 1)) (S ++ [nm]) S2) := fun S2 h => by
              rw [List.take_succ_eq_append_getElem hlt]
              exact HR'.out.trans h
            generalize (N2[k]'hlt) = u at c0 HC HTk
            subst han
            go_wp2_with fail
            refine HC.out.mono ?_
            rintro e w11 ⟨rfl, S2, O2, v2, hI2, hR2, hW2, hF2, hl2⟩
            have HI3 := Lib.hid hI2
            have HR3 := Lib.hid (HTk.out S2 hR2)
            have HW3 := Lib.hid hW2
            have HF3 : Hid (VisFr ms bo v v2 w9 w11) := HFr.out.trans hF2
            clear hI2 hR2 hW2 hF2 c0 c4
            go_wp2_with fail
            go_roundw
            case rel => exact ⟨k + 1, S2, O2, v2, by go_num, by omega, HI3, HR3, HW3, HF3, by omega⟩
            case measure => (simp [intOf]; try omega)
          · obtain rfl : k = N2.length := by omega
            have hr := HR'.out
            rw [List.take_of_length_le (Nat.le_refl _)] at hr
            have HPf := Lib.hid (HP.out S' O' v' wr HI'.out (HRw.out S' hr) HW'.out (HG9.out.trans HFr.out) (by omega))
            clear hr
            go_wp2_with fail
            first
            | (refine bodyPost_ret (results_none rfl _ _ _) rfl ?_; exact HPf.out)
            | (rw [Exit.noGoto_ret]; refine bodyPost_ret (results_none rfl _ _ _) rfl ?_; exact HPf.out)
end Go.Proofs.YtihegbjlgpghbaaGreatDoor

/- slices.Sort and slices.Contains of texts. -/
namespace Go.Proofs.YtihegbjlgpghbaaGreatDoor
open Go.RowKit Go.Sort

def leL (x y : List UInt8) : Bool := decide (x ≤ y)
noncomputable def sortB (O : List ByteArray) : List ByteArray := ((O.map (·.data.toList)).mergeSort leL).map fun l => ⟨l.toArray⟩
theorem enc_map (l : List (List UInt8)) : l.map encStr = (l.map fun x => (⟨x.toArray⟩ : ByteArray)).map Value.string := by
  rw [List.map_map]; rfl
theorem enc_data (O : List ByteArray) : (O.map (·.data.toList)).map encStr = O.map Value.string := by
  rw [List.map_map]
  apply List.map_congr_left
  intro s _
  show Value.string ⟨s.data.toList.toArray⟩ = Value.string s
  rw [Array.toArray_toList]
theorem sortB_mem (O : List ByteArray) (s : ByteArray) : s ∈ sortB O ↔ s ∈ O := by
  unfold sortB
  rw [List.mem_map]
  constructor
  · rintro ⟨l, hl, rfl⟩
    rw [List.mem_mergeSort, List.mem_map] at hl
    obtain ⟨t, ht, rfl⟩ := hl
    rw [Array.toArray_toList]
    exact ht
  · intro h
    exact ⟨s.data.toList, by rw [List.mem_mergeSort]; exact List.mem_map.2 ⟨s, h, rfl⟩, by rw [Array.toArray_toList]⟩
theorem sortB_len (O : List ByteArray) : (sortB O).length = O.length := by simp [sortB]
theorem dup_pair : ∀ {O : List ByteArray}, dupT O = false → O.Pairwise fun a b => a ≠ b := by
  intro O
  induction O with
  | nil => intro _; exact List.Pairwise.nil
  | cons x O ih =>
    intro h
    have h1 : (∀ b ∈ O, ¬ b.toList = x.toList) ∧ dupT O = false := by
      simpa [dupT] using h
    refine List.pairwise_cons.2 ⟨fun b hb e => ?_, ih h1.2⟩
    subst e
    exact h1.1 x hb rfl
theorem sortB_asc {O : List ByteArray} (h : dupT O = false) : Asc (sortB O) := by
  unfold Asc sortB
  rw [List.pairwise_map]
  have h1 : ((O.map (·.data.toList)).mergeSort leL).Pairwise fun a b => leL a b = true := List.pairwise_mergeSort (fun a b c h1 h2 => by
    simp only [leL, decide_eq_true_eq] at *
    exact List.le_trans h1 h2) (fun a b => by
    simp only [leL, Bool.or_eq_true, decide_eq_true_eq]
    exact List.le_total a b) _
  have h2 : ((O.map (·.data.toList)).mergeSort leL).Pairwise fun a b => a ≠ b := by
    refine (List.mergeSort_perm _ leL).symm.pairwise (R := fun a b => a ≠ b) ?_ (fun h e => h e.symm)
    rw [List.pairwise_map]
    exact (dup_pair h).imp fun {a b} hne e => hne (ByteArray.ext (Array.ext' e))
  refine (h1.and h2).imp fun {a b} ⟨k1, k2⟩ => ?_
  rw [ByteArray.toList_eq, ByteArray.toList_eq]
  simp only [leL, decide_eq_true_eq] at k1
  show a.toArray.toList < b.toArray.toList
  simp only [List.toList_toArray]
  rcases List.le_total a b with _ | _ <;> (by_cases hlt : a < b; exact hlt; exact absurd (List.le_antisymm k1 (List.not_lt.1 hlt)) k2)
theorem sortS_any (W : World) (base : Nat) (v : Value) (O : List ByteArray) (hown : W.ownsRow base 9 1 v O.length (O.map Value.string)) (hn : O.length ≤ 1000) :
    Calls Tryz.prog 72 #[v] W fun e w' => e = .returned (.tuple #[]) ∧ w'.ownsRow base 9 1 v (sortB O).length ((sortB O).map Value.string) ∧ W.grownBy w' v.ownBlock := by
  rcases hown.2 with ⟨hnil, hx⟩ | ⟨g, cap, cur, hv, hbase, hb, h1, h2, h3, h4⟩
  · subst hnil
    refine (Tryz.slices_Sort_string_none none 0 W).mono ?_
    rintro e w' ⟨rfl, rfl⟩
    have h0 : O = [] := by
      have : O.length = 0 := by omega
      exact List.length_eq_zero_iff.1 this
    subst h0
    refine ⟨rfl, ?_, (by refine ⟨rfl, rfl, rfl, Nat.le_refl _, fun _ _ _ => rfl⟩)⟩
    have : sortB ([] : List ByteArray) = [] := List.length_eq_zero_iff.1 (sortB_len [])
    rw [this]
    exact hown
  · subst hv
    have hg : g < W.heap.size := (Array.getElem?_eq_some_iff.1 hb).1
    have hss : (O.map (·.data.toList)).length = O.length := by simp
    refine ((Tryz.slices_Sort_string g 0 cap (O.map (·.data.toList)) W (holds_of_block hb (by rw [enc_data, hss]; simpa using h4)) hg (by rw [hss]; omega))).mono ?_ |> fun h => by rw [hss] at h; exact h
    rintro e w' ⟨rfl, n, os, rfl⟩
    refine ⟨rfl, ?_, grownBy_sorted _⟩
    have := ownsRow_sorted (n := n) (os := os) (ss := O.map (·.data.toList)) (ts := (O.map (·.data.toList)).mergeSort leL) (by simp) hbase hb (by rw [hss]; exact h1) h2 h3
    rw [hss, enc_map] at this
    rw [sortB_len]
    exact this
end Go.Proofs.YtihegbjlgpghbaaGreatDoor
