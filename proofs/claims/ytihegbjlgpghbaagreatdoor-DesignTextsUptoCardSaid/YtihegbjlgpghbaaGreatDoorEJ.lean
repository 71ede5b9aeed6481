/- law31: wire, free, has, texts. -/
import Derived.Test.YtihegbjlgpghbaaGreatDoorDL
import Derived.Test.YtihegbjlgpghbaaGreatDoorEF
import Derived.Test.YtihegbjlgpghbaaGreatDoorDK
import Derived.Test.YtihegbjlgpghbaaGreatDoorDV
import Derived.Test.YtihegbjlgpghbaaGreatDoorEI
import Derived.Test.YtihegbjlgpghbaaGreatDoorDM
set_option linter.unusedSimpArgs false
set_option linter.unusedVariables false
set_option linter.unnecessarySimpa false
namespace Go.Proofs.YtihegbjlgpghbaaGreatDoor
open Go.RowKit
attribute [local go_sem ↓] Go.wp_at_zero Go.wp_at_succ

end Go.Proofs.YtihegbjlgpghbaaGreatDoor

/- law31.DesignOrders, DesignCones, plain. -/
namespace Go.Proofs.YtihegbjlgpghbaaGreatDoor

/-- what holds of the wire whose turn it is -/
structure OrdAt (d : DesD) (i k : Nat) : Prop where
  lt : k < d.wires.length
  fresh : (d.order.take i).contains k = false
  ready : readyB d.needs (d.order.take i) k = true
  least : ∀ j, j < k → (d.order.take i).contains j = true ∨ readyB d.needs (d.order.take i) j = false
theorem ord_at {d : DesD} (he : d.err = 0) {i : Nat} (hi : i < d.order.length) : OrdAt d i (d.order[i]'hi) := by
  have h : (orderO d.wires.length d.needs d.wires.length).length = d.wires.length := (desOk_of_err he).order
  have hi' : i < (orderO d.wires.length d.needs d.wires.length).length := hi
  show OrdAt d i ((orderO d.wires.length d.needs d.wires.length)[i]'hi')
  obtain ⟨h1, h2⟩ := orderO_take h i (by omega)
  obtain ⟨h3, h4⟩ := orderO_take h (i + 1) (by omega)
  have h1' : d.order.take i = orderO d.wires.length d.needs i := h1
  cases hn : nextO d.wires.length d.needs (orderO d.wires.length d.needs i) with
  | none => rw [orderO_stuck hn 1] at h4; omega
  | some k =>
    have hk : (orderO d.wires.length d.needs d.wires.length)[i]'hi' = k := by
      have h5 : ((orderO d.wires.length d.needs d.wires.length).take (i + 1))[i]? = some k := by rw [h3, orderO_next hn]; simp [h2]
      rw [List.getElem?_take_of_lt (by omega), List.getElem?_eq_getElem hi'] at h5
      exact Option.some.inj h5
    obtain ⟨g1, g2, g3⟩ := nextO_some hn
    rw [hk]
    refine ⟨g1, ?_, ?_, fun j hj => ?_⟩
    · rw [h1']; simpa using g2
    · rw [h1']; exact g3
    · rw [h1']
      rcases nextO_least hn j hj with g | g
      · exact Or.inl (by simpa using g)
      · exact Or.inr g
theorem ord_take {d : DesD} {i : Nat} (hi : i < d.order.length) : d.order.take (i + 1) = d.order.take i ++ [d.order[i]'hi] := List.take_succ_eq_append_getElem hi

theorem reach_wire {d : DesD} {nm : ByteArray} {k : Nat} (hk : k < d.wires.length) (hw : d.wireIdx nm = some k) {s : ByteArray} (h : Reach d nm s) : s = nm ∨ ∃ u ∈ namesS [2] (d.wires[k]'hk).expr, Reach d u s := by
  induction h with
  | start => exact Or.inl rfl
  | step ht hq hwq hu ih =>
    rename_i t s q
    rcases ih with rfl | ⟨u, h1, h2⟩
    · have : q = k := Option.some.inj (hwq.symm.trans hw)
      subst this
      exact Or.inr ⟨_, hu, Reach.start⟩
    · exact Or.inr ⟨u, h1, h2.step hq hwq hu⟩
theorem reach_from {d : DesD} {nm : ByteArray} {k : Nat} (hk : k < d.wires.length) (hw : d.wireIdx nm = some k) {u s : ByteArray} (hu : u ∈ namesS [2] (d.wires[k]'hk).expr) (h : Reach d u s) : Reach d nm s := by
  induction h with
  | start => exact Reach.step Reach.start hk hw hu
  | step ht hq hwq hu ih => exact ih.step hq hwq hu
theorem reach_leaf {d : DesD} {nm : ByteArray} (hw : d.wireIdx nm = none) {s : ByteArray} (h : Reach d nm s) : s = nm := by
  induction h with
  | start => rfl
  | step ht hq hwq hu ih =>
    rw [ih, hw] at hwq
    simp at hwq
theorem cone_leaf {d : DesD} {nm : ByteArray} (hw : d.wireIdx nm = none) {C : List ByteArray} (h : ConeE d nm C) : C = [nm] := by
  refine ConeE.unique h ⟨List.pairwise_singleton _ _, fun s => ⟨fun hs => ?_, fun ⟨h1, _⟩ => ?_⟩⟩
  · rw [List.mem_singleton.1 hs]; exact ⟨Reach.start, hw⟩
  · rw [reach_leaf hw h1]; exact List.mem_singleton.2 rfl
theorem cone_sub {d : DesD} {nm : ByteArray} {k : Nat} (hk : k < d.wires.length) (hw : d.wireIdx nm = some k) {C P : List ByteArray} (h : ConeE d nm C) {u : ByteArray} (hu : u ∈ namesS [2] (d.wires[k]'hk).expr) (hP : ConeE d u P) {s : ByteArray} (hs : s ∈ P) : s ∈ C :=
  (h.2 s).2 ⟨reach_from hk hw hu ((hP.2 s).1 hs).1, ((hP.2 s).1 hs).2⟩
/-- the names that have been seen: those of the cones of the first operands, each once -/
structure SeeC (d : DesD) (U : List ByteArray) (m : Nat) (S : List ByteArray) : Prop where
  dup : dupT S = false
  out : ∀ s, s ∈ S ↔ ∃ u ∈ U.take m, Reach d u s ∧ d.wireIdx s = none
/-- and the first j of the next one -/
structure SeeP (d : DesD) (U : List ByteArray) (m : Nat) (P : List ByteArray) (j : Nat) (S : List ByteArray) : Prop where
  dup : dupT S = false
  out : ∀ s, s ∈ S ↔ (∃ u ∈ U.take m, Reach d u s ∧ d.wireIdx s = none) ∨ s ∈ P.take j
theorem SeeC.nil (d : DesD) (U : List ByteArray) : SeeC d U 0 [] := ⟨rfl, fun s => by simp⟩
theorem SeeC.start {d : DesD} {U : List ByteArray} {m : Nat} {S : List ByteArray} (h : SeeC d U m S) (P : List ByteArray) : SeeP d U m P 0 S := ⟨h.dup, fun s => by rw [h.out s]; simp⟩
theorem SeeP.old {d : DesD} {U : List ByteArray} {m : Nat} {P : List ByteArray} {j : Nat} {S : List ByteArray} (h : SeeP d U m P j S) (hj : j < P.length) (hs : (idxT S (P[j]'hj)).isSome = true) : SeeP d U m P (j + 1) S := by
  refine ⟨h.dup, fun s => ?_⟩
  rw [h.out s, List.take_succ_eq_append_getElem hj]
  simp only [List.mem_append, List.mem_singleton]
  constructor
  · rintro (g | g)
    · exact Or.inl g
    · exact Or.inr (Or.inl g)
  · rintro (g | g | rfl)
    · exact Or.inl g
    · exact Or.inr g
    · have : (P[j]'hj) ∈ S := by
        cases hx : idxT S (P[j]'hj) with
        | none => rw [hx] at hs; simp at hs
        | some k =>
          obtain ⟨h1, h2, _⟩ := idxT_some hx
          rw [← bytes_inj h2]
          exact List.getElem_mem h1
      exact (h.out _).1 this
theorem SeeP.new {d : DesD} {U : List ByteArray} {m : Nat} {P : List ByteArray} {j : Nat} {S : List ByteArray} (h : SeeP d U m P j S) (hj : j < P.length) (hs : (idxT S (P[j]'hj)).isSome = false) : SeeP d U m P (j + 1) (S ++ [P[j]'hj]) := by
  have hno : idxT S (P[j]'hj) = none := by
    cases hx : idxT S (P[j]'hj) with
    | none => rfl
    | some k => rw [hx] at hs; simp at hs
  refine ⟨dup_push h.dup hno, fun s => ?_⟩
  rw [List.take_succ_eq_append_getElem hj]
  simp only [List.mem_append, List.mem_singleton]
  rw [h.out s]
  constructor
  · rintro ((g | g) | g)
    · exact Or.inl g
    · exact Or.inr (Or.inl g)
    · exact Or.inr (Or.inr g)
  · rintro (g | g | g)
    · exact Or.inl (Or.inl g)
    · exact Or.inl (Or.inr g)
    · exact Or.inr g
theorem SeeP.done {d : DesD} {U : List ByteArray} {m : Nat} {P : List ByteArray} {S : List ByteArray} (h : SeeP d U m P P.length S) (hm : m < U.length) (hP : ConeE d (U[m]'hm) P) : SeeC d U (m + 1) S := by
  refine ⟨h.dup, fun s => ?_⟩
  rw [h.out s, List.take_of_length_le (Nat.le_refl _), List.take_succ_eq_append_getElem hm, hP.2 s]
  simp only [List.mem_append, List.mem_singleton]
  constructor
  · rintro (⟨u, h1, h2⟩ | g)
    · exact ⟨u, Or.inl h1, h2⟩
    · exact ⟨_, Or.inr rfl, g⟩
  · rintro ⟨u, h1 | rfl, h2⟩
    · exact Or.inl ⟨u, h1, h2⟩
    · exact Or.inr h2
theorem seen_len {d : DesD} {nm : ByteArray} {k : Nat} (hk : k < d.wires.length) (hw : d.wireIdx nm = some k) {C S : List ByteArray} (h : ConeE d nm C) (hS : SeeC d (namesS [2] (d.wires[k]'hk).expr) (namesS [2] (d.wires[k]'hk).expr).length S) : S.length = C.length := by
  have hiff : ∀ s, s ∈ S ↔ s ∈ C := fun s => by
    rw [hS.out s, h.2 s, List.take_of_length_le (Nat.le_refl _)]
    constructor
    · rintro ⟨u, h1, h2, h3⟩
      exact ⟨reach_from hk hw h1 h2, h3⟩
    · rintro ⟨h1, h2⟩
      rcases reach_wire hk hw h1 with rfl | ⟨u, g1, g2⟩
      · rw [hw] at h2; simp at h2
      · exact ⟨u, g1, g2, h2⟩
  have hdc : dupT C = false := dupT_false.2 fun i j hi hj he => by
    have hp := List.pairwise_iff_getElem.1 h.1
    rcases Nat.lt_trichotomy i j with g | g | g
    · have := hp i j hi hj g
      rw [he] at this
      exact absurd this (List.lt_irrefl _)
    · exact g
    · have := hp j i hj hi g
      rw [he] at this
      exact absurd this (List.lt_irrefl _)
  have m1 : ∀ s ∈ S, (idxT C s).isSome = true := fun s hs => idxT_mem ((hiff s).1 hs) rfl
  have m2 : ∀ s ∈ C, (idxT S s).isSome = true := fun s hs => idxT_mem ((hiff s).2 hs) rfl
  exact Nat.le_antisymm (dup_len m1 hS.dup) (dup_len m2 hdc)
end Go.Proofs.YtihegbjlgpghbaaGreatDoor

/- law31: short, Small; ref08.Size. -/
namespace Go.Proofs.YtihegbjlgpghbaaGreatDoor
open Go.RowKit
attribute [local go_sem ↓] Go.wp_at_zero Go.wp_at_succ

def BoolRet (w : World) (r : Ending) (w' : World) : Prop := (∃ b : Bool, r = .returned (.bool b)) ∧ Below w.heap.size w w'
theorem BoolRet.mk {w w' : World} (b : Bool) (h : Below w.heap.size w w') : BoolRet w (.returned (.bool b)) w' := ⟨⟨b, rfl⟩, h⟩
set_option maxRecDepth 100000 in
set_option maxHeartbeats 4000000 in
theorem short_any : ∀ (lv : Nat), lv ≤ 1000 → ∀ (op nn : Int) (s : ByteArray) (args : List Ex) (a : Option Addr) (cap : Nat) (w : World), ExIn w (.mk op nn s args) a cap →
    Calls Tryz.prog 52 #[.agg #[.int .i64 op, .int .i64 nn, .string s, .slice a args.length cap], .int .i64 lv] w (BoolRet w) := by
  intro lv
  induction lv with
  | zero =>
    intro _ op nn s args a cap w hE
    have hlen := hE.2.2.1
    simp only [Ex.args_mk] at hlen
    have HP : Hid (∀ b w', Below w.heap.size w w' → BoolRet w (.returned (.bool b)) w') := fun b w' h => BoolRet.mk b h
    generalize BoolRet w = Po at HP ⊢
    have hB : Below w.heap.size w (w.alloc (.cells #[.int .i64 op, .int .i64 nn, .string s, .slice a args.length cap] 55)) := (Below.refl _ _).alloc (Nat.le_refl _) _
    have HB := Lib.hid (HP.out false _ hB)
    clear hE hB HP
    go_enter Tryz.func52, Tryz.ntmps52
    go_wp2_with fail
    first | exact HB.out | (go_ret; exact HB.out)
  | succ lv ih =>
    intro hlv op nn s args a cap w hE
    have hlen := hE.2.2.1
    simp only [Ex.args_mk] at hlen
    have HI := Lib.hid (ih (by omega))
    have HE := Lib.hid hE.2
    have HA := Lib.hid (SliceIn.addr hE.2)
    simp only [Ex.args_mk] at HE HA
    have HP : Hid (∀ b w', Below w.heap.size w w' → BoolRet w (.returned (.bool b)) w') := fun b w' h => BoolRet.mk b h
    unfold BoolRet at HI
    generalize BoolRet w = Po at HP ⊢
    clear ih hE
    obtain ⟨L, hL⟩ : ∃ L : Int, L = ((lv + 1 : Nat) : Int) := ⟨_, rfl⟩
    rw [← hL]
    have hL1 : (lv : Int) = L - 1 := by omega
    have hL2 : 0 < L := by omega
    have hL3 : L ≤ 1000 := by omega
    rw [hL1] at HI
    clear hL hL1 hlv
    have d0 : (L == 0) = false := beq_eq_false_iff_ne.2 (by omega)
    have hB : Below w.heap.size w (w.alloc (.cells #[.int .i64 op, .int .i64 nn, .string s, .slice a args.length cap] 55)) := (Below.refl _ _).alloc (Nat.le_refl _) _
    have HPB := Lib.hid (HP.out false _ hB)
    have HB0 : Hid (Below (w.heap.size + 1) (w.alloc (.cells #[.int .i64 op, .int .i64 nn, .string s, .slice a args.length cap] 55)) (w.alloc (.cells #[.int .i64 op, .int .i64 nn, .string s, .slice a args.length cap] 55))) := Below.refl _ _
    clear hB
    rcases Nat.lt_or_ge 40 args.length with q | q
    · have d1 : decide ((40 : Int) < (args.length : Int)) = true := by simp; omega
      go_enter Tryz.func52, Tryz.ntmps52
      go_wp2_with fail
      first | exact HPB.out | (go_ret; exact HPB.out)
    · have d1 : decide ((40 : Int) < (args.length : Int)) = false := by simp; omega
      go_enter Tryz.func52, Tryz.ntmps52
      go_wp2_with fail
      go_loopw [4, 5] (fun r i wr => ∃ j : Nat, r = .bool false ∧ i = .int .i64 j ∧ j ≤ args.length ∧ Hid (Below (w.heap.size + 1) (w.alloc (.cells #[.int .i64 op, .int .i64 nn, .string s, .slice a args.length cap] 55)) wr)) (fun _ i _ => args.length - (intOf i).toNat)
      case atStart => exact ⟨0, rfl, rfl, Nat.zero_le _, HB0⟩
      case round =>
        obtain ⟨j, rfl, rfl, hj, HB⟩ := hrel
        have HBw := Lib.hid (boxW _ HB.out)
        have hzr := HB.out.size
        simp only [World.size_alloc] at hzr
        have b3 := box_cell HB.out 3
        (try simp at b3)
        by_cases hlt : j < args.length
        · obtain ⟨b, off, ha⟩ := HA.out.resolve_left (by omega)
          subst ha
          obtain ⟨a', cap', g0, g1, g2, g3, hX⟩ := (HE.out.keep (keeps_of_below HBw.out)).get rfl hlt
          have HX := Lib.hid hX
          generalize (args[j]'hlt) = e at g0 g1 g2 g3 HX
          obtain ⟨op', n', s', args'⟩ := e
          simp only [Ex.op_mk, Ex.n_mk, Ex.name_mk, Ex.args_mk] at g0 g1 g2 g3
          have HC := Lib.hid (HI.out op' n' s' args' a' cap' wr HX.out)
          clear hX HX
          go_wp2_with fail
          refine HC.out.mono ?_
          rintro r w2 ⟨⟨bb, rfl⟩, hb2⟩
          have HB2 := Lib.hid (HB.out.trans (hb2.mono hzr))
          have HPf := Lib.hid (HP.out false _ (boxW _ HB2.out))
          clear hb2 g0 g1 g2 g3 b3
          cases bb
          · go_wp2_with fail
            first | exact HPf.out | (go_ret; exact HPf.out)
          · go_wp2_with fail
            go_roundw
            case rel => exact ⟨j + 1, rfl, by go_num, by omega, HB2⟩
            case measure => (simp [intOf]; try omega)
        · obtain rfl : j = args.length := by omega
          have HPt := Lib.hid (HP.out true _ HBw.out)
          go_wp2_with fail
          first | exact HPt.out | (go_ret; exact HPt.out)
set_option maxHeartbeats 1000000 in
theorem Size_any (op n : Int) (s : ByteArray) (args : List Ex) (a : Option Addr) (cap : Nat) (w : World) (hE : ExIn w (.mk op n s args) a cap) (hn : (Ex.mk op n s args).nodes.length ≤ 1000000000) :
    Calls Tryz.prog 53 #[.agg #[.int .i64 op, .int .i64 n, .string s, .slice a args.length cap]] w fun e w' => e = .returned (.int .i64 ((Ex.mk op n s args).nodes.length : Nat)) ∧ Below w.heap.size w w' := by
  have hB : Below w.heap.size w (w.alloc (.cells #[.int .i64 op, .int .i64 n, .string s, .slice a args.length cap] 55)) := (by repeat (first | assumption | exact Below.refl _ _ | refine Below.drew ?_ | refine below_drewN ?_ _ | refine Below.alloc ?_ (by first | omega | (simp only [World.size_alloc, World.size_setCell, World.size_drew, World.heap_drewN] <;> omega) | (simp <;> omega)) _ | refine Below.setCell ?_ (by first | omega | (simp only [World.size_alloc, World.size_setCell, World.size_drew, World.heap_drewN] <;> omega) | (simp <;> omega)) _))
  have HC := Lib.hid (over_any op n s args a cap _ (hE.keep (keeps_of_below hB)) hn)
  have HB := Lib.hid hB
  clear hB hE hn
  generalize (Ex.mk op n s args).nodes.length = nn at HC ⊢
  go_enter Tryz.func53, Tryz.ntmps53
  go_wp2_with fail
  refine HC.out.mono ?_
  rintro e w2 ⟨rfl, hI, hb⟩
  obtain ⟨_, v1, v2, hp, _⟩ := hI
  simp only [World.size_alloc] at hp
  have c0 : w2.cell? ⟨w.heap.size + 1 + 1, 0, none⟩ = some (.int .i64 nn) := by simp [World.cell?, hp]
  have H2 : Hid (Below w.heap.size w w2) := HB.out.trans (hb.mono (by simp))
  clear hp hb
  go_wp2_with fail
  go_ret
  exact ⟨rfl, H2.out⟩
set_option maxRecDepth 100000 in
set_option maxHeartbeats 8000000 in
theorem Small_any (d : DesD) (x : DesA) (w : World) (hE : DesIn w d x) (hs : DesSmall d) :
    Calls Tryz.prog 18 #[desVal d x] w (BoolRet w) := by
  have hl := hs.len
  have hel : d.exprs.length ≤ 1073741824 := by rw [exprs_len]; omega
  have HX0 := Lib.hid (fun W (hW : Below w.heap.size w W) => Exprs_any d x W (hE.below hW) hel)
  have HSh : Hid (∀ e ∈ d.exprs, ∀ a cap W, ExIn W e a cap → Calls Tryz.prog 52 #[.agg #[.int .i64 e.op, .int .i64 e.n, .string e.name, .slice a e.args.length cap], .int .i64 12] W (BoolRet W)) := fun e _ a cap W h => by
    obtain ⟨op, n, s, args⟩ := e
    exact short_any 12 (by omega) op n s args a cap W h
  have HSz : Hid (∀ e ∈ d.exprs, ∀ a cap W, ExIn W e a cap → Calls Tryz.prog 53 #[.agg #[.int .i64 e.op, .int .i64 e.n, .string e.name, .slice a e.args.length cap]] W fun r w' => r = .returned (.int .i64 (e.nodes.length : Nat)) ∧ Below W.heap.size W w') := fun e he a cap W h => by
    have hn := hs.exprs e he
    obtain ⟨op, n, s, args⟩ := e
    exact Size_any op n s args a cap W h (by omega)
  have HMem : Hid (∀ k (hk : k < d.exprs.length), (d.exprs[k]'hk) ∈ d.exprs) := fun k hk => List.getElem_mem hk
  have HP : Hid (∀ b w', Below w.heap.size w w' → BoolRet w (.returned (.bool b)) w') := fun b w' h => BoolRet.mk b h
  unfold BoolRet at HSh
  generalize BoolRet w = Po at HP ⊢
  clear hE hs
  simp only [desVal, desVals] at HX0 ⊢
  have hbA : Below w.heap.size w (w.alloc (.cells #[.string d.name, .slice x.ai d.inputs.length x.ci, .slice x.aw d.wires.length x.cw, .slice x.ar d.regs.length x.cr, .slice x.ao d.outputs.length x.co] 27)) := (by repeat (first | assumption | exact Below.refl _ _ | refine Below.drew ?_ | refine below_drewN ?_ _ | refine Below.alloc ?_ (by first | omega | (simp only [World.size_alloc, World.size_setCell, World.size_drew, World.heap_drewN] <;> omega) | (simp <;> omega)) _ | refine Below.setCell ?_ (by first | omega | (simp only [World.size_alloc, World.size_setCell, World.size_drew, World.heap_drewN] <;> omega) | (simp <;> omega)) _))
  have HB0 : Hid (Below (w.heap.size + 1) (w.alloc (.cells #[.string d.name, .slice x.ai d.inputs.length x.ci, .slice x.aw d.wires.length x.cw, .slice x.ar d.regs.length x.cr, .slice x.ao d.outputs.length x.co] 27)) (w.alloc (.cells #[.string d.name, .slice x.ai d.inputs.length x.ci, .slice x.aw d.wires.length x.cw, .slice x.ar d.regs.length x.cr, .slice x.ao d.outputs.length x.co] 27))) := Below.refl _ _
  have HPA := Lib.hid (HP.out false _ hbA)
  have HX1 := Lib.hid (HX0.out _ hbA)
  clear hbA
  generalize hEx : d.exprs = EX at HX1 HSh HSz HMem hel
  clear HX0 hEx
  obtain ⟨h1, h2, h3, h4⟩ := hl
  rcases Nat.lt_or_ge 60 (d.inputs.length + d.wires.length + d.regs.length) with q | q
  · have d1 : decide ((60 : Int) < (d.inputs.length : Int) + (d.wires.length : Int) + (d.regs.length : Int)) = true := by simp; omega
    go_enter Tryz.func18, Tryz.ntmps18
    go_wp2_with fail
    first | exact HPA.out | (go_ret; exact HPA.out)
  have d1 : decide ((60 : Int) < (d.inputs.length : Int) + (d.wires.length : Int) + (d.regs.length : Int)) = false := by simp; omega
  rcases Nat.lt_or_ge 60 d.outputs.length with q2 | q2
  · have d2 : decide ((60 : Int) < (d.outputs.length : Int)) = true := by simp; omega
    go_enter Tryz.func18, Tryz.ntmps18
    go_wp2_with fail
    first | exact HPA.out | (go_ret; exact HPA.out)
  have d2 : decide ((60 : Int) < (d.outputs.length : Int)) = false := by simp; omega
  go_enter Tryz.func18, Tryz.ntmps18
  go_wp2_with fail
  refine HX1.out.mono ?_
  rintro e w1 hx
  obtain ⟨⟨ae, ce, rfl, hS⟩, hb1⟩ := hx
  have HB1 := Lib.hid (HB0.out.trans (hb1.mono (by simp)))
  have HS := Lib.hid hS
  have HSA := Lib.hid (SliceIn.addr hS)
  have hlE := hS.2.1
  have hcE := hS.1
  clear hb1 hS
  go_wp2_with fail
  go_loopw [2, 4] (fun r i wr => ∃ j : Nat, r = .bool false ∧ i = .int .i64 j ∧ j ≤ EX.length ∧ Hid (Below (w.heap.size + 1) (w.alloc (.cells #[.string d.name, .slice x.ai d.inputs.length x.ci, .slice x.aw d.wires.length x.cw, .slice x.ar d.regs.length x.cr, .slice x.ao d.outputs.length x.co] 27)) wr) ∧ Hid (ExsIn wr EX ae ce)) (fun _ i _ => EX.length - (intOf i).toNat)
  case atStart => exact ⟨0, rfl, rfl, Nat.zero_le _, HB1, HS⟩
  case round =>
    obtain ⟨j, rfl, rfl, hj, HB, HSj⟩ := hrel
    have HBw := Lib.hid (boxW _ HB.out)
    by_cases hlt : j < EX.length
    · obtain ⟨b, off, ha⟩ := HSA.out.resolve_left (by omega)
      subst ha
      obtain ⟨a', cap', g0, g1, g2, g3, hX⟩ := HSj.out.get rfl hlt
      have HX := Lib.hid hX
      have HC1 := Lib.hid (HSh.out _ (HMem.out j hlt) a' cap' wr hX)
      have HC2 := Lib.hid (fun W (hW : Below wr.heap.size wr W) => HSz.out _ (HMem.out j hlt) a' cap' W (hX.keep (keeps_of_below hW)))
      generalize (EX[j]'hlt) = e at g0 g1 g2 g3 HX HC1 HC2
      obtain ⟨op', n', s', args'⟩ := e
      simp only [Ex.op_mk, Ex.n_mk, Ex.name_mk, Ex.args_mk] at g0 g1 g2 g3 HC1 HC2
      clear hX
      go_wp2_with fail
      refine HC1.out.mono ?_
      rintro r w2 ⟨⟨bb, rfl⟩, hb2⟩
      have hzr : w.heap.size + 1 ≤ wr.heap.size := by
        have := HB.out.size
        simpa using this
      have HB2 := Lib.hid (HB.out.trans (hb2.mono hzr))
      have HPf := Lib.hid (HP.out false _ (boxW _ HB2.out))
      have HC3 := Lib.hid (HC2.out _ hb2)
      have k0 := keeps_of_below hb2 _ _ g0
      have k1 := keeps_of_below hb2 _ _ g1
      have k2 := keeps_of_below hb2 _ _ g2
      have k3 := keeps_of_below hb2 _ _ g3
      have HS2 := Lib.hid (HSj.out.keep (keeps_of_below hb2))
      clear HC2 HB hb2 HSh HSz HSj
      cases bb
      · go_wp2_with fail
        first | exact HPf.out | (go_ret; exact HPf.out)
      · go_wp2_with fail
        refine HC3.out.mono ?_
        rintro r w3 ⟨rfl, hb3⟩
        have hz2 : w.heap.size + 1 ≤ w2.heap.size := by
          have := HB2.out.size
          simpa using this
        have HB3 := Lib.hid (HB2.out.trans (hb3.mono hz2))
        have HPf3 := Lib.hid (HP.out false _ (boxW _ HB3.out))
        have HS3 := Lib.hid (HS2.out.keep (keeps_of_below hb3))
        clear hb3 k0 k1 k2 k3 g0 g1 g2 g3
        generalize (Ex.mk op' n' s' args').nodes.length = nn
        rcases Nat.lt_or_ge 40 nn with q3 | q3
        · have d3 : decide ((40 : Int) < (nn : Int)) = true := by simp; omega
          go_wp2_with fail
          first | exact HPf3.out | (go_ret; exact HPf3.out)
        · have d3 : decide ((40 : Int) < (nn : Int)) = false := by simp; omega
          go_wp2_with fail
          go_roundw
          case rel => exact ⟨j + 1, rfl, by go_num, by omega, HB3, HS3⟩
          case measure => (simp [intOf]; try omega)
    · obtain rfl : j = EX.length := by omega
      have HPt := Lib.hid (HP.out true _ HBw.out)
      go_wp2_with fail
      first | exact HPt.out | (go_ret; exact HPt.out)
end Go.Proofs.YtihegbjlgpghbaaGreatDoor

/- law31: what Order and Cone answer, as one value; the last steps. -/
namespace Go.Proofs.YtihegbjlgpghbaaGreatDoor
open Go.RowKit

noncomputable def ordL (d : DesD) : List Int := if d.err = 0 then natI d.order else []
theorem order_out {w w' : World} {d : DesD} {e : Ending} (h : OrderVPost w d e w') : (∃ a c, e = .returned (.tuple #[.slice a (ordL d).length c, .int .i64 d.err]) ∧ IntsIn w' (ordL d) a c) ∧ Below w.heap.size w w' := by
  obtain ⟨⟨h1, a, c, h2, h4⟩ | ⟨h1, h2⟩, h3⟩ := h
  · unfold ordL
    rw [if_pos h1, h1, natI_len]
    exact ⟨⟨a, c, h2, h4⟩, h3⟩
  · unfold ordL
    rw [if_neg h1]
    exact ⟨⟨none, 0, h2, ⟨by simp, by simp, Or.inl rfl⟩⟩, h3⟩
/-- what Cone answers -/
def ConeR (d : DesD) (nm : ByteArray) (C : List ByteArray) (ce : Int) : Prop :=
  (d.err = 0 ∧ (idxT d.names nm).isSome = true ∧ ConeE d nm C ∧ ce = 0) ∨ (¬ d.err = 0 ∧ C = [] ∧ ce = d.err) ∨ (d.err = 0 ∧ (idxT d.names nm).isSome = false ∧ C = [] ∧ ce = 7)
theorem ConeR.unique {d : DesD} {nm : ByteArray} {C C2 : List ByteArray} {ce ce2 : Int} (h : ConeR d nm C ce) (h2 : ConeR d nm C2 ce2) : C2 = C ∧ ce2 = ce := by
  rcases h with ⟨a1, a2, a3, a4⟩ | ⟨a1, a2, a3⟩ | ⟨a1, a2, a3, a4⟩ <;> rcases h2 with ⟨b1, b2, b3, b4⟩ | ⟨b1, b2, b3⟩ | ⟨b1, b2, b3, b4⟩
  · exact ⟨b3.unique a3, b4.trans a4.symm⟩
  · exact absurd a1 b1
  · rw [a2] at b2; simp at b2
  · exact absurd b1 a1
  · exact ⟨b2.trans a2.symm, b3.trans a3.symm⟩
  · exact absurd b1 a1
  · rw [a2] at b2; simp at b2
  · exact absurd a1 b1
  · exact ⟨b3.trans a3.symm, b4.trans a4.symm⟩
theorem cone_out {w w' : World} {d : DesD} {nm : ByteArray} {e : Ending} (h : ConePost w d nm e w') : (∃ C ce a c, e = .returned (.tuple #[.slice a C.length c, .int .i64 ce]) ∧ StrsIn w' C a c ∧ ConeR d nm C ce) ∧ Below w.heap.size w w' := by
  obtain ⟨⟨h1, h2, C, a, c, h4, h5, h6⟩ | ⟨h1, h2⟩ | ⟨h1, h2, h4⟩, h3⟩ := h
  · exact ⟨⟨C, 0, a, c, h4, h5, Or.inl ⟨h1, h2, h6, rfl⟩⟩, h3⟩
  · exact ⟨⟨[], d.err, none, 0, h2, ⟨by simp, by simp, Or.inl rfl⟩, Or.inr (Or.inl ⟨h1, rfl, rfl⟩)⟩, h3⟩
  · exact ⟨⟨[], 7, none, 0, h4, ⟨by simp, by simp, Or.inl rfl⟩, Or.inr (Or.inr ⟨h1, h2, rfl, rfl⟩)⟩, h3⟩
theorem lift_up {P : Program} {f : FuncId} {args : Array Value} {w : World} {o : Obj} {Q : Ending → World → Prop} {W : World} (hW : Below (w.heap.size + 1) (w.alloc o) W) (h : Calls P f args W fun e w' => Q e w' ∧ Below W.heap.size W w') :
    Calls P f args W fun e w' => Q e w' ∧ Below W.heap.size W w' ∧ Below (w.heap.size + 1) (w.alloc o) w' :=
  h.mono fun e w' h => ⟨h.1, h.2, hW.trans (h.2.mono (by have := hW.size; simp at this; omega))⟩
end Go.Proofs.YtihegbjlgpghbaaGreatDoor
