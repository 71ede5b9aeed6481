/- law32: what Reset, Settle, Step and Run answer, read in one way. -/
import Derived.Test.YteaeemkodbodmaaGreatDoorDV
import Derived.Test.YteaeemkodbodmaaGreatDoorDU
import Derived.Test.YteaeemkodbodmaaGreatDoorDW
set_option linter.unusedSimpArgs false
set_option linter.unusedVariables false
set_option linter.unnecessarySimpa false
namespace Go.Proofs.YteaeemkodbodmaaGreatDoor
open Go.RowKit

theorem ints_nil (w : World) : IntsIn w [] none 0 := ⟨by simp, by simp, Or.inl rfl⟩
theorem sigs_nil (w : World) : SigsIn w [] none 0 := ⟨by simp, by simp, Or.inl rfl⟩
theorem strs_nil (w : World) : StrsIn w [] none 0 := ⟨by simp, by simp, Or.inl rfl⟩
theorem rowsd_nil (w : World) : RowsD w [] none 0 := ⟨by simp, by simp, Or.inl rfl⟩

noncomputable def resetL (d : DesD) : List Int := if d.err = 0 then d.inits else []
theorem ResetPost.out {d : DesD} {w0 w' : World} {e : Ending} (h : ResetPost w0 d e w') : ∃ a cap, e = .returned (.tuple #[.slice a (resetL d).length cap, .int .i64 d.err]) ∧ IntsIn w' (resetL d) a cap ∧ Below w0.heap.size w0 w' := by
  obtain ⟨⟨h0, a, cap, h1, h2⟩ | ⟨h0, h1⟩, h3⟩ := h
  · have hr : resetL d = d.inits := if_pos h0
    rw [hr, h0]
    exact ⟨a, cap, h1, h2, h3⟩
  · have hr : resetL d = [] := if_neg h0
    rw [hr]
    exact ⟨none, 0, h1, ints_nil w', h3⟩
noncomputable def sErr (d : DesD) (l : List Int) : Int := if d.err = 0 then (if d.stateB l = true then 0 else 1) else d.err
noncomputable def sSig (d : DesD) (l : List Int) (inp : Sigs) : Sigs := if sErr d l = 0 then settleS d l inp else []
noncomputable def sNext (d : DesD) (l : List Int) (inp : Sigs) : List Int := if sErr d l = 0 then nextS d (settleS d l inp) else []
theorem sErr_zero {d : DesD} {l : List Int} : sErr d l = 0 ↔ d.err = 0 ∧ d.stateB l = true := by
  unfold sErr
  by_cases h : d.err = 0
  · rw [if_pos h]
    by_cases h2 : d.stateB l = true
    · rw [if_pos h2]; simp [h, h2]
    · rw [if_neg h2]; simp [h2]
  · rw [if_neg h]; simp [h]
theorem SettlePost.out {d : DesD} {l : List Int} {inp : Sigs} {w0 w' : World} {e : Ending} (h : SettlePost w0 d l inp e w') : ∃ a cap, e = .returned (.tuple #[.slice a (sSig d l inp).length cap, .int .i64 (sErr d l)]) ∧ SigsIn w' (sSig d l inp) a cap ∧ Below w0.heap.size w0 w' := by
  obtain ⟨⟨h0, hb, a, cap, h1, h2⟩ | ⟨h0, h1⟩ | ⟨h0, hb, h1⟩, h3⟩ := h
  · have he : sErr d l = 0 := sErr_zero.2 ⟨h0, hb⟩
    have hr : sSig d l inp = settleS d l inp := if_pos he
    rw [hr, he]
    exact ⟨a, cap, h1, h2, h3⟩
  · have he : sErr d l = d.err := if_neg h0
    have hr : sSig d l inp = [] := if_neg (by rw [he]; exact h0)
    rw [hr, he]
    exact ⟨none, 0, h1, sigs_nil w', h3⟩
  · have he : sErr d l = 1 := by unfold sErr; rw [if_pos h0, if_neg (by rw [hb]; simp)]
    have hr : sSig d l inp = [] := if_neg (by rw [he]; decide)
    rw [hr, he]
    exact ⟨none, 0, h1, sigs_nil w', h3⟩
theorem StepPost.out {d : DesD} {l : List Int} {inp : Sigs} {w0 w' : World} {e : Ending} (h : StepPost w0 d l inp e w') : ∃ a1 c1 a2 c2, e = .returned (.tuple #[.slice a1 (sNext d l inp).length c1, .slice a2 (sSig d l inp).length c2, .int .i64 (sErr d l)]) ∧ IntsIn w' (sNext d l inp) a1 c1 ∧ SigsIn w' (sSig d l inp) a2 c2 ∧ Below w0.heap.size w0 w' := by
  obtain ⟨⟨h0, hb, a1, c1, a2, c2, h1, h2, h4⟩ | ⟨h0, h1⟩ | ⟨h0, hb, h1⟩, h3⟩ := h
  · have he : sErr d l = 0 := sErr_zero.2 ⟨h0, hb⟩
    have hr : sSig d l inp = settleS d l inp := if_pos he
    have hn : sNext d l inp = nextS d (settleS d l inp) := if_pos he
    rw [hr, hn, he]
    exact ⟨a1, c1, a2, c2, h1, h2, h4, h3⟩
  · have he : sErr d l = d.err := if_neg h0
    have hr : sSig d l inp = [] := if_neg (by rw [he]; exact h0)
    have hn : sNext d l inp = [] := if_neg (by rw [he]; exact h0)
    rw [hr, hn, he]
    exact ⟨none, 0, none, 0, h1, ints_nil w', sigs_nil w', h3⟩
  · have he : sErr d l = 1 := by unfold sErr; rw [if_pos h0, if_neg (by rw [hb]; simp)]
    have hr : sSig d l inp = [] := if_neg (by rw [he]; decide)
    have hn : sNext d l inp = [] := if_neg (by rw [he]; decide)
    rw [hr, hn, he]
    exact ⟨none, 0, none, 0, h1, ints_nil w', sigs_nil w', h3⟩
noncomputable def rErr (d : DesD) (n : Nat) : Int := if d.err = 0 then (if n ≤ 4096 then 0 else 2) else d.err
noncomputable def rNames (d : DesD) (n : Nat) : List ByteArray := if rErr d n = 0 then d.names else []
noncomputable def rRows (d : DesD) (rows : List Sigs) : List (List Int) := if rErr d rows.length = 0 then rowsN d rows else []
theorem rErr_zero {d : DesD} {n : Nat} : rErr d n = 0 ↔ d.err = 0 ∧ n ≤ 4096 := by
  unfold rErr
  by_cases h : d.err = 0
  · rw [if_pos h]
    by_cases h2 : n ≤ 4096
    · rw [if_pos h2]; simp [h, h2]
    · rw [if_neg h2]; simp [h2]
  · rw [if_neg h]; simp [h]
theorem rowsN_len (d : DesD) (rows : List Sigs) : (rowsN d rows).length = rows.length := by simp [rowsN]
theorem RunPost.out {d : DesD} {rows : List Sigs} {w0 w' : World} {e : Ending} (h : RunPost w0 d rows e w') : ∃ aN cN aR cR, e = .returned (.tuple #[.agg #[.slice aN (rNames d rows.length).length cN, .slice aR (rRows d rows).length cR], .int .i64 (rErr d rows.length)]) ∧ StrsIn w' (rNames d rows.length) aN cN ∧ RowsD w' (rRows d rows) aR cR ∧ Below w0.heap.size w0 w' := by
  obtain ⟨⟨h0, hb, aN, cN, aR, cR, h1, h2, h4⟩ | ⟨h0, h1⟩ | ⟨h0, hb, h1⟩, h3⟩ := h
  · have he : rErr d rows.length = 0 := rErr_zero.2 ⟨h0, hb⟩
    have hr : rNames d rows.length = d.names := if_pos he
    have hn : rRows d rows = rowsN d rows := if_pos he
    rw [hr, hn, he, rowsN_len]
    exact ⟨aN, cN, aR, cR, h1, h2, h4, h3⟩
  · have he : rErr d rows.length = d.err := if_neg h0
    have hr : rNames d rows.length = [] := if_neg (by rw [he]; exact h0)
    have hn : rRows d rows = [] := if_neg (by rw [he]; exact h0)
    rw [hr, hn, he]
    exact ⟨none, 0, none, 0, h1, strs_nil w', rowsd_nil w', h3⟩
  · have he : rErr d rows.length = 2 := by unfold rErr; rw [if_pos h0, if_neg (by omega)]
    have hr : rNames d rows.length = [] := if_neg (by rw [he]; decide)
    have hn : rRows d rows = [] := if_neg (by rw [he]; decide)
    rw [hr, hn, he]
    exact ⟨none, 0, none, 0, h1, strs_nil w', rowsd_nil w', h3⟩
end Go.Proofs.YteaeemkodbodmaaGreatDoor

/- law32: awake: what its first region needs. -/
namespace Go.Proofs.YteaeemkodbodmaaGreatDoor
open Go.RowKit
attribute [local go_sem ↓] Go.wp_at_zero Go.wp_at_succ

theorem cnt_small : DesSmall cntD := by
  refine ⟨by decide, fun s hs => ?_, fun e he => ?_, by decide⟩
  · rw [cnt_names] at hs
    rw [List.mem_singleton.1 hs]
    decide
  · rw [cnt_exprs] at he
    rw [List.mem_singleton.1 he, nodes_cnt]
    decide
/-- 'make([][]api.Signal, 3)' -/
theorem make3 (W : World) : (Instr.makeSlice 36 (.int .i64 3) (.int .i64 3)).run Tryz.prog W = .ok (.slice (some ⟨W.heap.size, 0, none⟩) 3 3) (W.alloc (.cells #[.slice none 0 0, .slice none 0 0, .slice none 0 0] 47)) := by
  have hi0 : (Tryz.prog.info? 47).map (fun i => (i.zero, i.size, i.bytes)) = some (some (.slice none 0 0), 1, 24) := by kernel_rfl
  obtain ⟨i, hi, hz, hsz, hby⟩ := info_parts hi0
  have hrun := run_make (P := Tryz.prog) W 36 47 i _ Tryz.underlying36 hi hz .i64 .i64 3 3 (by omega) (Int.le_refl _) (by rw [hby]; omega) (by omega)
  rw [hrun, hsz]
  have hm : madeCells (Value.slice none 0 0).cells (Int.toNat 3 * 1) = #[.slice none 0 0, .slice none 0 0, .slice none 0 0] := by kernel_rfl
  rw [hm]
  simp
theorem rows3 {W : World} {b : Nat} (h : W.heap[b]? = some (.cells #[.slice none 0 0, .slice none 0 0, .slice none 0 0] 47 (0, 0))) : SigRows W [[], [], []] (some ⟨b, 0, none⟩) 3 := by
  have c0 := cell_of_blk h 0
  have c1 := cell_of_blk h 1
  have c2 := cell_of_blk h 2
  simp at c0 c1 c2
  have hn : SigsIn W [] none 0 := ⟨by simp, by simp, Or.inl rfl⟩
  refine ⟨by simp, by simp, Or.inr ⟨b, 0, rfl, fun i hi => ?_⟩⟩
  rcases i with _ | _ | _ | i
  · exact ⟨[], rfl, none, 0, c0, hn⟩
  · exact ⟨[], rfl, none, 0, c1, hn⟩
  · exact ⟨[], rfl, none, 0, c2, hn⟩
  · simp at hi; omega
theorem run_cnt {a : Option Addr} {w W5 W : World} {b : Nat} (hD : DesIn W5 cntD ⟨none, 0, none, 0, a, 1, none, 0⟩) (hb : Below w.heap.size w W5) (hG : Glob w) (h5 : Below W5.heap.size W5 W) (hr : W.heap[b]? = some (.cells #[.slice none 0 0, .slice none 0 0, .slice none 0 0] 47 (0, 0))) :
    Calls Tryz.prog 17 #[.agg #[.string ⟨#[100]⟩, .slice none 0 0, .slice none 0 0, .slice a 1 1, .slice none 0 0], .slice (some ⟨b, 0, none⟩) 3 3] W fun e w' => (∃ aN cN aR cR, e = .returned (.tuple #[.agg #[.slice aN 1 cN, .slice aR 3 cR], .int .i64 0]) ∧ RowsD w' [[14], [15], [0]] aR cR) ∧ Below W.heap.size W w' ∧ Below w.heap.size w w' := by
  have hb3 := hb.trans (h5.mono hb.size)
  refine (Run_any cntD ⟨none, 0, none, 0, a, 1, none, 0⟩ [[], [], []] (some ⟨b, 0, none⟩) 3 _ (hD.below h5) cnt_small (rows3 hr) (hG.below hb3)).mono fun e w' h => ?_
  obtain ⟨⟨_, _, aN, cN, aR, cR, h1, _, h2⟩ | ⟨h1, _⟩ | ⟨_, h1, _⟩, h3⟩ := h
  · rw [rows_cnt] at h2
    exact ⟨⟨aN, cN, aR, cR, h1, h2⟩, h3, hb3.trans (h3.mono hb3.size)⟩
  · exact absurd cnt_err h1
  · simp at h1
theorem reset_cnt {a : Option Addr} {W w : World} (hD : DesIn W cntD ⟨none, 0, none, 0, a, 1, none, 0⟩) (hb : Below w.heap.size w W) (hG : Glob w) :
    Calls Tryz.prog 12 #[.agg #[.string ⟨#[100]⟩, .slice none 0 0, .slice none 0 0, .slice a 1 1, .slice none 0 0]] W fun e w' => (∃ aS cS, e = .returned (.tuple #[.slice aS 1 cS, .int .i64 0]) ∧ IntsIn w' [14] aS cS) ∧ Below W.heap.size W w' := by
  refine (Reset_any cntD ⟨none, 0, none, 0, a, 1, none, 0⟩ W hD cnt_small (hG.below hb)).mono fun e w' h => ?_
  obtain ⟨⟨_, aS, cS, h1, h2⟩ | ⟨h1, _⟩, h3⟩ := h
  · exact ⟨⟨aS, cS, h1, h2⟩, h3⟩
  · exact absurd cnt_err h1
theorem cutp {p q : Prop} (h : p) (k : p → q) : q := k h
/-- a block's object, through what is made behind it -/
theorem hh_new {X : World} {cs : Array Value} {t : TypeId} {b : Nat} (h : b = X.heap.size) : (X.alloc (.cells cs t)).heap[b]? = some (.cells cs t (0, 0)) := heap_alloc_at _ _ _ h
theorem hh_old {X : World} {o' o : Obj} {b : Nat} (h : X.heap[b]? = some o) : (X.alloc o').heap[b]? = some o := by rw [Below.heap_alloc _ _ _ (lt_of_block h)]; exact h
theorem hh_drew {X : World} {o : Obj} {b : Nat} (h : X.heap[b]? = some o) : X.drew.heap[b]? = some o := h
theorem hh_below {X X' : World} {o : Obj} {b : Nat} (hb : Below X.heap.size X X') (h : X.heap[b]? = some o) : X'.heap[b]? = some o := (hb.block b (lt_of_block h)).trans h
/-- a store into a cell that holds the zero slice keeps what is no zero slice -/
theorem keep_zero {w : World} {b k : Nat} (u : Value) (h : w.cell? ⟨b, k, none⟩ = some (.slice none 0 0)) {a : Addr} {v : Value} (ha : w.cell? a = some v) (hv : v ≠ .slice none 0 0) : (w.setCell ⟨b, k, none⟩ u).cell? a = some v := by
  have e : (⟨b, k, none⟩ : Addr) ≠ a := fun e => by subst e; rw [h] at ha; exact hv (Option.some.inj ha).symm
  exact (World.cell?_setCell_other _ _ _ _ e).trans ha
def zWave : Obj := .cells #[.slice none 0 0, .slice none 0 0] 40 (0, 0)
theorem ints_zero {w : World} {b k : Nat} (u : Value) (h : w.cell? ⟨b, k, none⟩ = some (.slice none 0 0)) {l : List Int} {a : Option Addr} {c : Nat} (hI : IntsIn w l a c) : IntsIn (w.setCell ⟨b, k, none⟩ u) l a c :=
  hI.mono fun _ _ _ _ ⟨v, hv, h1⟩ => ⟨v, hv, keep_zero u h h1 (by simp)⟩
theorem rows_zero {w : World} {b k : Nat} (u : Value) (h : w.cell? ⟨b, k, none⟩ = some (.slice none 0 0)) {l : List (List Int)} (hl : ∀ v ∈ l, v.length ≠ 0) {a : Option Addr} {c : Nat} (hI : RowsD w l a c) : RowsD (w.setCell ⟨b, k, none⟩ u) l a c :=
  hI.mono fun _ _ _ _ ⟨v, hv, a', c', h1, h2⟩ => ⟨v, hv, a', c', keep_zero u h h1 (fun e => by
    injection e with _ e2 _
    exact hl v (List.mem_of_getElem? hv) e2), ints_zero u h h2⟩
theorem strs_zero {w : World} {b k : Nat} (u : Value) (h : w.cell? ⟨b, k, none⟩ = some (.slice none 0 0)) {l : List ByteArray} {a : Option Addr} {c : Nat} (hI : StrsIn w l a c) : StrsIn (w.setCell ⟨b, k, none⟩ u) l a c :=
  hI.mono fun _ _ _ _ ⟨v, hv, h1⟩ => ⟨v, hv, keep_zero u h h1 (by simp)⟩
/-- a Wave that is stored into its own zero block -/
theorem wave_tail {X : World} {b : Nat} (hX : X.heap[b]? = some zWave) {l : List (List Int)} (hl : ∀ v ∈ l, v.length ≠ 0) {aR : Option Addr} {cR : Nat} (hI : RowsD X l aR cR) (u : Value) (m : Nat) :
    ((X.setCell ⟨b, 0, none⟩ u).setCell ⟨b, 1, none⟩ (.slice aR m cR)).cell? ⟨b, 1, none⟩ = some (.slice aR m cR) ∧ RowsD ((X.setCell ⟨b, 0, none⟩ u).setCell ⟨b, 1, none⟩ (.slice aR m cR)) l aR cR := by
  have c0 : X.cell? ⟨b, 0, none⟩ = some (.slice none 0 0) := by simp [World.cell?, hX, zWave]
  have c1 : X.cell? ⟨b, 1, none⟩ = some (.slice none 0 0) := by simp [World.cell?, hX, zWave]
  have c1' : (X.setCell ⟨b, 0, none⟩ u).cell? ⟨b, 1, none⟩ = some (.slice none 0 0) := by
    rw [World.cell?_setCell_other _ _ _ _ (by intro e; injection e; omega)]; exact c1
  exact ⟨World.cell?_setCell_same _ _ _ c1', rows_zero _ c1' hl (rows_zero _ c0 hl hI)⟩
theorem wave_gen {X w : World} {b : Nat} (hX : X.heap[b]? = some zWave) {l : List (List Int)} (hl : ∀ v ∈ l, v.length ≠ 0) {aR : Option Addr} {cR : Nat} (hI : RowsD X l aR cR) (hB : Below w.heap.size w X) (hb : w.heap.size ≤ b) {u : Value} {m : Nat} {Q : World → Prop}
    (k : ∀ W, W.cell? ⟨b, 1, none⟩ = some (.slice aR m cR) → Hid (RowsD W l aR cR) → Hid (Below w.heap.size w W) → w.heap.size ≤ W.heap.size → b < W.heap.size → Q W) : Q ((X.setCell ⟨b, 0, none⟩ u).setCell ⟨b, 1, none⟩ (.slice aR m cR)) := by
  obtain ⟨h1, h2⟩ := wave_tail hX hl hI u m
  have h3 : Below w.heap.size w ((X.setCell ⟨b, 0, none⟩ u).setCell ⟨b, 1, none⟩ (.slice aR m cR)) := (hB.setCell hb _).setCell hb _
  exact k _ h1 h2 h3 h3.size (by rw [World.size_setCell, World.size_setCell]; exact lt_of_block hX)
theorem wave_gen2 {X w : World} {l : List (List Int)} {aR : Option Addr} {cR : Nat} (hI : RowsD X l aR cR) (hB : Below w.heap.size w X) {u : Value} {m : Nat} {Q : World → Prop}
    (k : ∀ W, W.cell? ⟨X.heap.size, 1, none⟩ = some (.slice aR m cR) → Hid (RowsD W l aR cR) → Hid (Below w.heap.size w W) → w.heap.size ≤ W.heap.size → X.heap.size < W.heap.size → Q W) : Q (X.alloc (.cells #[u, .slice aR m cR] 40)) := by
  have h3 : Below w.heap.size w (X.alloc (.cells #[u, .slice aR m cR] 40)) := hB.alloc hB.size _
  exact k _ (by rw [World.cell?_alloc_new]; rfl) (hI.keep (keeps_of_below ((Below.refl _ _).alloc (Nat.le_refl _) _))) h3 h3.size (by simp)
theorem rows_three {W : World} {aR : Option Addr} {cR : Nat} (h : RowsD W [[14], [15], [0]] aR cR) : ∃ b o b0 o0 c0 b1 o1 c1 b2 o2 c2, aR = some ⟨b, o, none⟩ ∧ 3 ≤ cR ∧ 1 ≤ c0 ∧ 1 ≤ c1 ∧ 1 ≤ c2 ∧
    W.cell? ⟨b, o, none⟩ = some (.slice (some ⟨b0, o0, none⟩) 1 c0) ∧ W.cell? ⟨b, o + 1, none⟩ = some (.slice (some ⟨b1, o1, none⟩) 1 c1) ∧ W.cell? ⟨b, o + 2, none⟩ = some (.slice (some ⟨b2, o2, none⟩) 1 c2) ∧
    W.cell? ⟨b0, o0, none⟩ = some (.int .i64 14) ∧ W.cell? ⟨b1, o1, none⟩ = some (.int .i64 15) ∧ W.cell? ⟨b2, o2, none⟩ = some (.int .i64 0) := by
  obtain ⟨b, o, ha⟩ := (SliceIn.addr h).resolve_left (by decide)
  obtain ⟨a0, c0, g0, I0⟩ := h.get ha (i := 0) (by decide)
  obtain ⟨a1, c1, g1, I1⟩ := h.get ha (i := 1) (by decide)
  obtain ⟨a2, c2, g2, I2⟩ := h.get ha (i := 2) (by decide)
  obtain ⟨b0, o0, h0⟩ := (SliceIn.addr I0).resolve_left (by decide)
  obtain ⟨b1, o1, h1⟩ := (SliceIn.addr I1).resolve_left (by decide)
  obtain ⟨b2, o2, h2⟩ := (SliceIn.addr I2).resolve_left (by decide)
  have k0 := intsIn_get I0 h0 (i := 0) (by decide)
  have k1 := intsIn_get I1 h1 (i := 0) (by decide)
  have k2 := intsIn_get I2 h2 (i := 0) (by decide)
  subst h0 h1 h2
  exact ⟨b, o, b0, o0, c0, b1, o1, c1, b2, o2, c2, ha, h.1, I0.1, I1.1, I2.1, g0, g1, g2, k0, k1, k2⟩
theorem wave_cells {X : World} {b : Nat} (hX : X.heap[b]? = some zWave) : X.cell? ⟨b, 0, none⟩ = some (.slice none 0 0) ∧ X.cell? ⟨b, 1, none⟩ = some (.slice none 0 0) ∧ X.frozen? ⟨b, 0, none⟩ = false ∧ X.frozen? ⟨b, 1, none⟩ = false := by
  refine ⟨by simp [World.cell?, hX, zWave], by simp [World.cell?, hX, zWave], by simp [World.frozen?, hX, zWave], by simp [World.frozen?, hX, zWave]⟩
end Go.Proofs.YteaeemkodbodmaaGreatDoor

/- law32: awake. -/
namespace Go.Proofs.YteaeemkodbodmaaGreatDoor
open Go.RowKit
attribute [local go_sem ↓] Go.wp_at_zero Go.wp_at_succ

set_option maxRecDepth 100000 in
set_option maxHeartbeats 8000000 in
theorem awake32_any (w : World) (hG : Glob w) :
    Calls Tryz.prog 11 #[] w fun e w' => e = .returned (.bool true) ∧ Below w.heap.size w w' := by
  have HC : Hid (∀ W, Below w.heap.size w W → Calls Tryz.prog 20 #[] W fun e w' => (∃ a, e = .returned (.agg #[.string ⟨#[100]⟩, .slice none 0 0, .slice none 0 0, .slice a 1 1, .slice none 0 0]) ∧ DesIn w' cntD ⟨none, 0, none, 0, a, 1, none, 0⟩) ∧ Below w.heap.size w w' ∧ Below W.heap.size W w') := fun W hW => (counter_any W).mono fun e w' h => by
    obtain ⟨⟨a, h1, h2⟩, h3⟩ := h
    exact ⟨⟨a, h1, h2⟩, hW.trans (h3.mono hW.size), h3⟩
  have HG := Lib.hid hG
  have hB : Below w.heap.size w w := Below.refl _ _
  have hmk := make3
  clear hG
  go_enter Tryz.func11, Tryz.ntmps11
  go_wp2_with fail
  go_region_held3 (fun w' => Below w.heap.size w w')
    ((first | assumption | exact (by repeat (first | assumption | exact Below.refl _ _ | refine Below.drew ?_ | refine below_drewN ?_ _ | refine Below.alloc ?_ (by first | omega | (simp only [World.size_alloc, World.size_setCell, World.size_drew, World.heap_drewN] <;> omega) | (simp <;> omega)) _ | refine Below.setCell ?_ (by first | omega | (simp only [World.size_alloc, World.size_setCell, World.size_drew, World.heap_drewN] <;> omega) | (simp <;> omega)) _))))
    (first | (go_at_call 20; (with_reducible refine (HC.out _ ?hin).mono ?_); (case hin => (first | assumption | exact (by repeat (first | assumption | exact Below.refl _ _ | refine Below.drew ?_ | refine below_drewN ?_ _ | refine Below.alloc ?_ (by first | omega | (simp only [World.size_alloc, World.size_setCell, World.size_drew, World.heap_drewN] <;> omega) | (simp <;> omega)) _ | refine Below.setCell ?_ (by first | omega | (simp only [World.size_alloc, World.size_setCell, World.size_drew, World.heap_drewN] <;> omega) | (simp <;> omega)) _)))); rintro r w5 ⟨⟨a5, rfl, hD5⟩, hb5, hc5⟩; (have HD5 := Lib.hid hD5); (have HB5 := Lib.hid hb5); (have HC5 := Lib.hid hc5); (have hz5 := hb5.size); clear hD5 hc5) | (go_at_call 17; (with_reducible refine (run_cnt HD5.out HB5.out HG.out ?h5 ?hr).mono ?_); (case h5 => (exact (by repeat (first | assumption | exact Below.refl _ _ | refine Below.drew ?_ | refine below_drewN ?_ _ | refine Below.alloc ?_ (by first | omega | (simp only [World.size_alloc, World.size_setCell, World.size_drew, World.heap_drewN] <;> omega) | (simp <;> omega)) _ | refine Below.setCell ?_ (by first | omega | (simp only [World.size_alloc, World.size_setCell, World.size_drew, World.heap_drewN] <;> omega) | (simp <;> omega)) _)))); (case hr => (iterate 5 (first | done | assumption | (with_reducible refine hh_new ?_; first | rfl | (simp only [World.size_alloc, World.size_drew]; done) | omega | (simp only [World.size_alloc, World.size_drew]; omega)) | with_reducible refine hh_old ?_ | with_reducible refine hh_drew ?_ | with_reducible refine hh_below HC5.out ?_))); rintro r w6 ⟨⟨aN, cN, aR, cR, rfl, hR6⟩, hb6, hb6w⟩; (have HR6 := Lib.hid hR6); (have hz6 := hb6.size); (try simp only [World.size_alloc] at hz6); (try (refine cutp (p := w6.heap[w.heap.size]? = some zWave) ?pr (fun h6 => ?_); (case pr => (unfold zWave; with_reducible refine hh_below hb6 ?_; (iterate 5 (first | done | assumption | (with_reducible refine hh_new ?_; first | rfl | (simp only [World.size_alloc, World.size_drew]; done) | omega | (simp only [World.size_alloc, World.size_drew]; omega)) | with_reducible refine hh_old ?_ | with_reducible refine hh_drew ?_ | with_reducible refine hh_below HC5.out ?_)))); (have HX6 := Lib.hid h6); (obtain ⟨g0, g1, q0, q1⟩ := wave_cells h6); clear h6)); (try (refine cutp (p := w6.heap[w.heap.size + 1]? = some zWave) ?pr (fun h6 => ?_); (case pr => (unfold zWave; with_reducible refine hh_below hb6 ?_; (iterate 5 (first | done | assumption | (with_reducible refine hh_new ?_; first | rfl | (simp only [World.size_alloc, World.size_drew]; done) | omega | (simp only [World.size_alloc, World.size_drew]; omega)) | with_reducible refine hh_old ?_ | with_reducible refine hh_drew ?_ | with_reducible refine hh_below HC5.out ?_)))); (have HX6 := Lib.hid h6); (obtain ⟨g0, g1, q0, q1⟩ := wave_cells h6); clear h6)); (try (refine cutp (p := w6.heap[w5.heap.size]? = some zWave) ?pr (fun h6 => ?_); (case pr => (unfold zWave; with_reducible refine hh_below hb6 ?_; (iterate 5 (first | done | assumption | (with_reducible refine hh_new ?_; first | rfl | (simp only [World.size_alloc, World.size_drew]; done) | omega | (simp only [World.size_alloc, World.size_drew]; omega)) | with_reducible refine hh_old ?_ | with_reducible refine hh_drew ?_ | with_reducible refine hh_below HC5.out ?_)))); (have HX6 := Lib.hid h6); (obtain ⟨g0, g1, q0, q1⟩ := wave_cells h6); clear h6)); (try (refine cutp (p := w6.heap[w5.heap.size + 1]? = some zWave) ?pr (fun h6 => ?_); (case pr => (unfold zWave; with_reducible refine hh_below hb6 ?_; (iterate 5 (first | done | assumption | (with_reducible refine hh_new ?_; first | rfl | (simp only [World.size_alloc, World.size_drew]; done) | omega | (simp only [World.size_alloc, World.size_drew]; omega)) | with_reducible refine hh_old ?_ | with_reducible refine hh_drew ?_ | with_reducible refine hh_below HC5.out ?_)))); (have HX6 := Lib.hid h6); (obtain ⟨g0, g1, q0, q1⟩ := wave_cells h6); clear h6)); (have HB6 := Lib.hid hb6w); clear hR6 hb6))
  all_goals
    first
    | (refine wave_gen (w := w) (Q := fun W => Exit.then _ _ Exit.normal _ W) HX6.out (l := [[14], [15], [0]]) (by decide) HR6.out HB6.out (by omega) ?_)
    | (refine wave_gen2 (w := w) (Q := fun W => Exit.then _ _ Exit.normal _ W) (X := w6) HR6.out HB6.out ?_)
  all_goals
    clear hB hmk
    intro W7 hc7 hR7 hB7 hz7 hbl7
    (try clear HX6 g0 g1 q0 q1)
    (try clear HR6 HB6 hb6w hz6 hz5)
    go_wp2_with fail
    refine (HC.out W7 hB7.out).mono ?_
    rintro r w8 ⟨⟨a8, rfl, hD8⟩, hb8, hc8⟩
    have HRs := Lib.hid (reset_cnt hD8 hb8 HG.out)
    have hc8' := (keeps_of_below hc8) _ _ hc7
    have hR8 := Lib.hid (hR7.out.keep (keeps_of_below hc8))
    have HB8 := Lib.hid hb8
    have hz8 := hb8.size
    clear hD8 hb8 hc8 hc7 hR7 hB7
    go_wp2_with fail
    refine HRs.out.mono ?_
    rintro r w9 ⟨⟨aS, cS, rfl, hS⟩, hb9⟩
    have hc9 := (keeps_of_below hb9) _ _ hc8'
    obtain ⟨b, o, b0, o0, k0, b1, o1, k1, b2, o2, k2, rfl, hk, hk0, hk1, hk2, g0, g1, g2, i0, i1, i2⟩ := rows_three (hR8.out.keep (keeps_of_below hb9))
    obtain ⟨bS, oS, hbS⟩ := (SliceIn.addr hS).resolve_left (by decide)
    have i3 := intsIn_get hS hbS (i := 0) (by decide)
    have hkS := hS.1
    subst hbS
    simp at i3 hkS
    have HB9 : Hid (Below w.heap.size w w9) := HB8.out.trans (hb9.mono HB8.out.size)
    clear hS hb9 hc8' hR8 HRs
    go_wp2_with fail
    go_ret
    exact ⟨rfl, HB9.out⟩
end Go.Proofs.YteaeemkodbodmaaGreatDoor
