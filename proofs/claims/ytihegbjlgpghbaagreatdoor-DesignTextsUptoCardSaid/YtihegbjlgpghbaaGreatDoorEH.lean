/- ref31.below. -/
import Derived.Test.YtihegbjlgpghbaaGreatDoorEF
import Derived.Test.YtihegbjlgpghbaaGreatDoorEA
import Derived.Test.YtihegbjlgpghbaaGreatDoorDK
import Derived.Test.YtihegbjlgpghbaaGreatDoorDM
set_option linter.unusedSimpArgs false
set_option linter.unusedVariables false
set_option linter.unnecessarySimpa false
namespace Go.Proofs.YtihegbjlgpghbaaGreatDoor
open Go.RowKit
attribute [local go_sem ↓] Go.wp_at_zero Go.wp_at_succ

/-- what the loops of 'below' keep: the list R in a row of the call's own, the box, old memory -/
structure BelW (base p : Nat) (box : Array Value) (w0 : World) (g cap : Nat) (R : List ByteArray) (w : World) : Prop where
  own : w.ownsRow base 9 1 (.slice (some ⟨g, 0, none⟩) R.length cap) R.length (R.map Value.string)
  ne : g ≠ p
  hp : w.heap[p]? = some (.cells box 27 (0, 0))
  hbp : base ≤ p
  bel : Below base w0 w
theorem BelW.lt {base p : Nat} {box : Array Value} {w0 : World} {g cap : Nat} {R : List ByteArray} {w : World} (h : BelW base p box w0 g cap R w) : p < w.heap.size := lt_of_block h.hp
theorem BelW.below {base p : Nat} {box : Array Value} {w0 : World} {g cap : Nat} {R : List ByteArray} {w w' : World} (h : BelW base p box w0 g cap R w) (hb : Below w.heap.size w w') : BelW base p box w0 g cap R w' :=
  ⟨ownsRow_below h.own hb, h.ne, (hb.block _ h.lt).trans h.hp, h.hbp, h.bel.trans (hb.mono (Nat.le_of_lt (Nat.lt_of_le_of_lt h.hbp h.lt)))⟩
theorem BelW.push {base p : Nat} {box : Array Value} {w0 : World} {g cap : Nat} {R : List ByteArray} {w w1 : World} {s : ByteArray} {g' cap' : Nat} (h : BelW base p box w0 g cap R w)
    (ho : w1.ownsRow base 9 1 (.slice (some ⟨g', 0, none⟩) (R.length + 1) cap') (R.length + 1) (R.map Value.string ++ [.string s])) (hg : (w.alloc (.cells #[.string s] 9)).grownBy w1 (some g)) (hat : (Value.slice (some ⟨g, 0, none⟩) R.length cap).ownBlock = some g' ∨ w.heap.size < g') :
    BelW base p box w0 g' cap' (R ++ [s]) w1 := by
  have hl := h.lt
  refine ⟨by simpa using ho, ?_, ?_, h.hbp, ?_⟩
  · rcases hat with hat | hat
    · have : g = g' := Option.some.inj hat
      rw [← this]; exact h.ne
    · omega
  · rw [hg.block p (by simp; omega) (fun e => h.ne (Option.some.inj e).symm), Below.heap_alloc _ _ _ hl]
    exact h.hp
  · refine Below.grown (h.bel.alloc (Nat.le_of_lt (Nat.lt_of_le_of_lt h.hbp hl)) _) hg (by have := h.hbp; simp; omega) (fun j hj => ?_)
    have := (h.own.lt g rfl).1
    rw [← Option.some.inj hj]; exact this
theorem BelW.strs {base p : Nat} {box : Array Value} {w0 : World} {g cap : Nat} {R : List ByteArray} {w : World} (h : BelW base p box w0 g cap R w) (hn : R.length ≤ 1073741824) : StrsIn w R (some ⟨g, 0, none⟩) cap := by
  obtain ⟨a, c, he, hs⟩ := strs_of_own h.own hn
  injection he with e1 e2 e3
  subst e1 e3
  exact hs
theorem RowsCap {w : World} {base : Nat} {e : TypeId} {g n cap : Nat} {xs : List Value} (h : w.ownsRow base e 1 (.slice (some ⟨g, 0, none⟩) n cap) n xs) : n ≤ cap := by
  rcases h.2 with ⟨h1, _⟩ | ⟨g', cap', cur, h1, _, _, h2, _⟩
  · simp at h1
  · injection h1 with _ _ e3
    omega
theorem StrsIn.grownB {w w' : World} {l : List ByteArray} {a : Option Addr} {c g : Nat} (h : StrsIn w l a c) (hF : ∀ p : Addr, a = some p → p.block ≠ g) (hg : w.grownBy w' (some g)) : StrsIn w' l a c := by
  refine ⟨h.1, h.2.1, h.2.2.imp id ?_⟩
  rintro ⟨b', o', ha, hq⟩
  refine ⟨b', o', ha, fun i hi => ?_⟩
  obtain ⟨v, hv, h1⟩ := hq i hi
  exact ⟨v, hv, hg.cell h1 (fun e => hF _ ha (Option.some.inj e))⟩
set_option maxHeartbeats 1000000 in
theorem rNames_fresh (op n : Int) (s : ByteArray) (args : List Ex) (a : Option Addr) (cap : Nat) (w : World) (hE : ExIn w (.mk op n s args) a cap) (hn : (Ex.mk op n s args).nodes.length ≤ 1000000000) :
    Calls Tryz.prog 35 #[.agg #[.int .i64 op, .int .i64 n, .string s, .slice a args.length cap]] w fun e w' =>
      (∃ a' cap', e = .returned (.slice a' (namesS [2] (.mk op n s args)).length cap') ∧ StrsIn w' (namesS [2] (.mk op n s args)) a' cap' ∧ ∀ p : Addr, a' = some p → w.heap.size ≤ p.block) ∧ Below w.heap.size w w' := by
  have hB : Below w.heap.size w (w.alloc (.cells #[.int .i64 op, .int .i64 n, .string s, .slice a args.length cap] 55)) := (by repeat (first | assumption | exact Below.refl _ _ | refine Below.drew ?_ | refine below_drewN ?_ _ | refine Below.alloc ?_ (by first | omega | (simp only [World.size_alloc, World.size_setCell, World.size_drew, World.heap_drewN] <;> omega) | (simp <;> omega)) _ | refine Below.setCell ?_ (by first | omega | (simp only [World.size_alloc, World.size_setCell, World.size_drew, World.heap_drewN] <;> omega) | (simp <;> omega)) _))
  have HC := Lib.hid (over_any op n s args a cap _ (hE.keep (keeps_of_below hB)) hn)
  have HB := Lib.hid hB
  have HN := Lib.hid (names_len [2] (Ex.mk op n s args).nodes [])
  have Hn := Lib.hid hn
  clear hB hE hn
  go_enter Tryz.func35, Tryz.ntmps35
  go_wp2_with fail
  refine HC.out.mono ?_
  rintro e w2 ⟨rfl, hI, hb⟩
  obtain ⟨_, v1, v2, hp, o1, o2, _⟩ := hI
  simp only [World.size_alloc] at hp
  have c3 : w2.cell? ⟨w.heap.size + 1 + 1, 3, none⟩ = some v1 := by simp [World.cell?, hp]
  have c4 : w2.cell? ⟨w.heap.size + 1 + 1, 4, none⟩ = some v2 := by simp [World.cell?, hp]
  have H2 : Hid (Below w.heap.size w w2) := HB.out.trans (hb.mono (by simp))
  have H1 := Lib.hid o1
  clear hp hb o1 o2
  go_wp2_with fail
  go_ret
  refine ⟨?_, H2.out⟩
  have hl : (namesS [2] (.mk op n s args)).length ≤ 1073741824 := by
    have := HN.out; have := Hn.out
    unfold namesS; simp only [List.length_nil] at *; omega
  have hlt := H1.out.lt
  obtain ⟨a', cap', rfl, hs⟩ := strs_of_own H1.out hl
  refine ⟨a', cap', rfl, hs, fun p hp => ?_⟩
  have := (hlt p.block (by rw [hp]; rfl)).1
  simp only [World.size_alloc] at this
  omega
set_option maxRecDepth 100000 in
set_option maxHeartbeats 16000000 in
theorem below_any (d : DesD) (x : DesA) (nm : ByteArray) (g cap base : Nat) (w : World) (hE : ∀ W, Below base w W → DesIn W d x) (hs : DesSmall d) (he : d.err = 0) (hn : (idxT d.names nm).isSome = true)
    (ho : w.ownsRow base 9 1 (.slice (some ⟨g, 0, none⟩) 1 cap) 1 [.string nm]) (hb : base ≤ w.heap.size) :
    Calls Tryz.prog 73 #[desVal d x, .slice (some ⟨g, 0, none⟩) 1 cap] w fun e w' => (∃ R a c, e = .returned (.slice a R.length c) ∧ StrsIn w' R a c ∧ BelInv d nm R R.length ∧ R.length ≤ 48) ∧ Below base w w' := by
  have hd := desOk_of_err he
  have hgl := (ho.lt g rfl).2
  have HI0 := Lib.hid (BelInv.start (d := d) hn)
  have H48 : Hid (∀ R k, BelInv d nm R k → R.length ≤ 48) := fun R k h => Nat.le_trans h.len hd.len
  have HWi0 := Lib.hid (fun s W (hW : Below base w W) => wire_any d x s W (hE W hW))
  have HWv : Hid (∀ s, (d.wireIdx s = none ∧ d.wireI s = -1) ∨ ∃ k, d.wireIdx s = some k ∧ k < d.wires.length ∧ d.wireI s = (k : Int)) := fun s => by
    unfold DesD.wireI
    cases h : d.wireIdx s with
    | none => exact Or.inl ⟨rfl, rfl⟩
    | some k => exact Or.inr ⟨k, rfl, wireIdx_lt h, rfl⟩
  have HWr := Lib.hid (fun W (hW : Below base w W) => (hE W hW).wires)
  have hwl := (hE w (Below.refl _ _)).wires.2.1
  have hwc := (hE w (Below.refl _ _)).wires.1
  have HWA := Lib.hid (hE w (Below.refl _ _)).wires.addr
  have HNa : Hid (∀ q (hq : q < d.wires.length) ae ce W, ExIn W (d.wires[q]'hq).expr ae ce → Calls Tryz.prog 35 #[.agg #[.int .i64 (d.wires[q]'hq).expr.op, .int .i64 (d.wires[q]'hq).expr.n, .string (d.wires[q]'hq).expr.name, .slice ae (d.wires[q]'hq).expr.args.length ce]] W fun r w' => (∃ a' cap', r = .returned (.slice a' (namesS [2] (d.wires[q]'hq).expr).length cap') ∧ StrsIn w' (namesS [2] (d.wires[q]'hq).expr) a' cap' ∧ ∀ p : Addr, a' = some p → W.heap.size ≤ p.block) ∧ Below W.heap.size W w') := fun q hq ae ce W hX => by
    have h1 := hs.exprs _ (wire_expr hq)
    generalize (d.wires[q]'hq).expr = e at h1 hX
    obtain ⟨op, n, s, args⟩ := e
    exact rNames_fresh op n s args ae ce W hX (by omega)
  have HNk : Hid (∀ q (hq : q < d.wires.length), ∀ s ∈ namesS [2] (d.wires[q]'hq).expr, (idxT d.names s).isSome = true) := fun q hq s hs' => (hd.exprs _ (wire_expr hq)).2.2 s hs'
  clear hE hs hn he hd
  simp only [desVal, desVals] at HWi0 ⊢
  have hbs : base ≤ w.heap.size := hb
  have HW0 : Hid (BelW base w.heap.size #[.string d.name, .slice x.ai d.inputs.length x.ci, .slice x.aw d.wires.length x.cw, .slice x.ar d.regs.length x.cr, .slice x.ao d.outputs.length x.co] w g cap [nm] (w.alloc (.cells #[.string d.name, .slice x.ai d.inputs.length x.ci, .slice x.aw d.wires.length x.cw, .slice x.ar d.regs.length x.cr, .slice x.ao d.outputs.length x.co] 27))) := ⟨ho.alloc _, by omega, heap_alloc_at _ _ _ rfl, hbs, (Below.refl _ _).alloc hbs _⟩
  clear ho hb
  go_enter Tryz.func73, Tryz.ntmps73
  go_wp2_with fail
  go_loopw [5, 1] (fun i v wr => ∃ (k : Nat) (R : List ByteArray) (gr cr : Nat), i = .int .i64 k ∧ v = .slice (some ⟨gr, 0, none⟩) R.length cr ∧ k ≤ R.length ∧ R.length ≤ 48 ∧ Hid (BelInv d nm R k) ∧ Hid (BelW base w.heap.size #[.string d.name, .slice x.ai d.inputs.length x.ci, .slice x.aw d.wires.length x.cw, .slice x.ar d.regs.length x.cr, .slice x.ao d.outputs.length x.co] w gr cr R wr)) (fun i _ _ => 49 - (intOf i).toNat)
  case atStart => exact ⟨0, [nm], g, cap, rfl, rfl, Nat.zero_le _, by simp, HI0, HW0⟩
  case round =>
    obtain ⟨k, R, gr, cr, rfl, rfl, hk, h48, HI, HR⟩ := hrel
    have hcr := RowsCap HR.out.own
    by_cases hlt : k < R.length
    · have hpl := HR.out.lt
      have HS := Lib.hid (HR.out.strs (by omega))
      have c0 := HS.out.get rfl hlt
      rw [Nat.zero_add] at c0
      have hv := HWv.out (R[k]'hlt)
      have HWi := Lib.hid (fun W (hW : Below wr.heap.size wr W) => (HWi0.out (R[k]'hlt) W (HR.out.below hW).bel).mono fun e w' h => (⟨h.1, hW.trans (h.2.mono hW.size)⟩ : _ ∧ Below wr.heap.size wr w'))
      have hp := HR.out.hp
      have b0 := cell_of_blk hp 0
      have b1 := cell_of_blk hp 1
      have b2 := cell_of_blk hp 2
      have b3 := cell_of_blk hp 3
      have b4 := cell_of_blk hp 4
      simp at b0 b1 b2 b3 b4
      have e0 : ∀ g : Grow wr.heap.size wr, g.w'.cell? ⟨w.heap.size, 0, none⟩ = some (.string d.name) := Grow.old b0 (Nat.le_refl _)
      have e1 : ∀ g : Grow wr.heap.size wr, g.w'.cell? ⟨w.heap.size, 1, none⟩ = some (.slice x.ai d.inputs.length x.ci) := Grow.old b1 (Nat.le_refl _)
      have e2 : ∀ g : Grow wr.heap.size wr, g.w'.cell? ⟨w.heap.size, 2, none⟩ = some (.slice x.aw d.wires.length x.cw) := Grow.old b2 (Nat.le_refl _)
      have e3 : ∀ g : Grow wr.heap.size wr, g.w'.cell? ⟨w.heap.size, 3, none⟩ = some (.slice x.ar d.regs.length x.cr) := Grow.old b3 (Nat.le_refl _)
      have e4 : ∀ g : Grow wr.heap.size wr, g.w'.cell? ⟨w.heap.size, 4, none⟩ = some (.slice x.ao d.outputs.length x.co) := Grow.old b4 (Nat.le_refl _)
      have e5 : ∀ g : Grow wr.heap.size wr, g.w'.cell? ⟨gr, k, none⟩ = some (.string (R[k]'hlt)) := Grow.old c0 (Nat.le_refl _)
      clear b0 b1 b2 b3 b4 c0 hp
      rcases hv with ⟨hw, hv⟩ | ⟨q, hw, hq, hv⟩
      · have HI1 := Lib.hid (HI.out.next hlt (fun q _ h => by rw [hw] at h; simp at h))
        rw [hv] at HWi
        clear hw hv
        generalize (R[k]'hlt) = s at e5 HWi
        go_wp2_with fail
        (refine wp_region_grow (B := wr.heap.size) (w0 := wr) (by kernel_rfl) (by kernel_rfl) (by repeat (first | assumption | exact Below.refl _ _ | refine Below.drew ?_ | refine below_drewN ?_ _ | refine Below.alloc ?_ (by first | omega | (simp only [World.size_alloc, World.size_setCell, World.size_drew, World.heap_drewN] <;> omega) | (simp <;> omega)) _ | refine Below.setCell ?_ (by first | omega | (simp only [World.size_alloc, World.size_setCell, World.size_drew, World.heap_drewN] <;> omega) | (simp <;> omega)) _)) ?_; (repeat (go_big_quiet_step ((go_at_call 74; (with_reducible exact grow_call (HWi.out _ (Grow.h _))))))); refine wpQuiet_nil ?_; intro wg hCg; have hbg := grow_out hCg; clear hCg)
        have HRg := Lib.hid (HR.out.below hbg)
        go_wp2_with fail
        go_roundw
        case rel => exact ⟨k + 1, R, gr, cr, by go_num, rfl, by omega, h48, HI1, HRg⟩
        case measure => (simp [intOf]; try omega)
      · have HNx : Hid (∀ R', (∃ E, R' = R ++ E) → BelInv d nm R' k → (∀ s ∈ namesS [2] (d.wires[q]'hq).expr, InR R' s) → k < R'.length ∧ BelInv d nm R' (k + 1)) := fun R' ⟨E, hE⟩ h hc => by
          have hk' : k < R'.length := by rw [hE, List.length_append]; omega
          refine ⟨hk', h.next hk' (fun q' hq' hw' => ?_)⟩
          have e : R'[k]'hk' = R[k]'hlt := by
            subst hE
            rw [List.getElem_append_left hlt]
          rw [e, hw] at hw'
          obtain rfl := Option.some.inj hw'
          exact hc
        have HRq : Hid (∀ s ∈ namesS [2] (d.wires[q]'hq).expr, Reach d nm s) := fun s hs => .step (HI.out.rch _ (List.getElem_mem hlt)) hq hw hs
        rw [hv] at HWi
        clear hw hv
        generalize (R[k]'hlt) = s at e5 HWi
        have hd0 : decide ((q : Int) < 0) = false := decide_eq_false (by omega)
        go_wp2_with fail
        (refine wp_region_grow (B := wr.heap.size) (w0 := wr) (by kernel_rfl) (by kernel_rfl) (by repeat (first | assumption | exact Below.refl _ _ | refine Below.drew ?_ | refine below_drewN ?_ _ | refine Below.alloc ?_ (by first | omega | (simp only [World.size_alloc, World.size_setCell, World.size_drew, World.heap_drewN] <;> omega) | (simp <;> omega)) _ | refine Below.setCell ?_ (by first | omega | (simp only [World.size_alloc, World.size_setCell, World.size_drew, World.heap_drewN] <;> omega) | (simp <;> omega)) _)) ?_; (repeat (go_big_quiet_step ((go_at_call 74; (with_reducible exact grow_call (HWi.out _ (Grow.h _))))))); refine wpQuiet_nil ?_; intro wg hCg; have hbg := grow_out hCg; clear hCg)
        have HRg := Lib.hid (HR.out.below hbg)
        have hzg := HRg.out.lt
        obtain ⟨bw, ow, haw⟩ := HWA.out.resolve_left (by omega)
        obtain ⟨ae, ce, g0, g1, g2, g3, g4, g5, hX⟩ := (HWr.out wg HRg.out.bel).get haw hq
        have HN1 := Lib.hid (HNa.out q hq ae ce wg hX)
        have HNk1 := Lib.hid (HNk.out q hq)
        have b2 := cell_of_blk HRg.out.hp 2
        simp at b2
        rw [haw] at b2
        clear g0 g1 hX e0 e1 e2 e3 e4 e5 haw hbg
        generalize namesS [2] (d.wires[q]'hq).expr = N2 at HN1 HNx HNk1 HRq
        generalize (d.wires[q]'hq).expr = ex at HN1 g2 g3 g4 g5
        have hqi : (q : Int) < (d.wires.length : Int) := by omega
        go_wp2_with fail
        refine HN1.out.mono ?_
        rintro r w1 ⟨⟨an, cn, rfl, hst, hfr⟩, hb1⟩
        have HNe0 : Hid (∀ p : Addr, an = some p → p.block ≠ gr) := fun p hp => by
          have h1 := hfr p hp
          have h2 := (HRg.out.own.lt gr rfl).2
          omega
        have HR1 := Lib.hid (HRg.out.below hb1)
        have HS2 := Lib.hid hst
        have HSA2 := Lib.hid (SliceIn.addr hst)
        have hln := hst.2.1
        clear hst hb1 HN1 hfr b2 g2 g3 g4 g5
        go_wp2_with fail
        go_loopw [8, 1] (fun j v wr2 => ∃ (m : Nat) (R' : List ByteArray) (gr' cr' : Nat), j = .int .i64 m ∧ v = .slice (some ⟨gr', 0, none⟩) R'.length cr' ∧ m ≤ N2.length ∧ R'.length ≤ 48 ∧ k ≤ R'.length ∧ Hid (∃ E, R' = R ++ E) ∧ Hid (BelInv d nm R' k) ∧ Hid (∀ i (hi : i < N2.length), i < m → InR R' (N2[i]'hi)) ∧ Hid (BelW base w.heap.size #[.string d.name, .slice x.ai d.inputs.length x.ci, .slice x.aw d.wires.length x.cw, .slice x.ar d.regs.length x.cr, .slice x.ao d.outputs.length x.co] w gr' cr' R' wr2) ∧ Hid (StrsIn wr2 N2 an cn) ∧ Hid (∀ p : Addr, an = some p → p.block ≠ gr')) (fun j _ _ => N2.length - (intOf j).toNat)
        case atStart => exact ⟨0, R, gr, cr, rfl, rfl, Nat.zero_le _, h48, hk, ⟨[], by simp⟩, HI, fun _ _ h => absurd h (by omega), HR1, HS2, HNe0⟩
        case round =>
          obtain ⟨m, R', gr', cr', rfl, rfl, hm, h48', hk', HE, HI', HF, HR', HS', HNe⟩ := hrel
          have hcr' := RowsCap HR'.out.own
          have hpl' := HR'.out.lt
          by_cases hlt2 : m < N2.length
          · obtain ⟨bn, on, han⟩ := HSA2.out.resolve_left (by omega)
            subst han
            have c0 := HS'.out.get rfl hlt2
            have HIx := Lib.hid (index_any R' (some ⟨gr', 0, none⟩) cr' (N2[m]'hlt2) wr (HR'.out.strs (by omega)))
            have hmem := HNk1.out _ (List.getElem_mem hlt2)
            have HF2 : Hid (∀ R2, (∃ E, R2 = R' ++ E) → InR R2 (N2[m]'hlt2) → ∀ i (hi : i < N2.length), i < m + 1 → InR R2 (N2[i]'hi)) := fun R2 ⟨E, hE⟩ h i hi him => by
              by_cases e : i = m
              · subst e; exact h
              · subst hE; exact (HF.out i hi (by omega)).append
            cases hx : idxT R' (N2[m]'hlt2) with
            | some t =>
              have HF3 := Lib.hid (HF2.out R' ⟨[], by simp⟩ (inR_iff.2 (by rw [hx]; rfl)))
              have e : idxI R' (N2[m]'hlt2) = (t : Int) := by unfold idxI; rw [hx]
              rw [e] at HIx
              have hd1 : decide ((t : Int) < 0) = false := decide_eq_false (by omega)
              clear hx e hmem HF2
              generalize (N2[m]'hlt2) = s2 at c0 HIx
              go_wp2_with fail
              refine HIx.out.mono ?_
              rintro e w4 ⟨rfl, rfl⟩
              go_wp2_with fail
              go_roundw
              case rel => exact ⟨m + 1, R', gr', cr', by go_num, rfl, by omega, h48', hk', HE, HI', HF3, HR', HS', HNe⟩
              case measure => (simp [intOf]; try omega)
            | none =>
              have HP := Lib.hid (HI'.out.push hk' hmem (HRq.out _ (List.getElem_mem hlt2)) hx)
              have h49 := H48.out _ _ HP.out
              have HF3 := Lib.hid (HF2.out (R' ++ [N2[m]'hlt2]) ⟨_, rfl⟩ ⟨_, List.mem_append_right _ (List.mem_singleton.2 rfl), rfl⟩)
              have e : idxI R' (N2[m]'hlt2) = -1 := by unfold idxI; rw [hx]
              rw [e] at HIx
              have hkn : R'.length ≤ 1073741824 := by omega
              have HPu := Lib.hid (fun w1 g' cap' => HR'.out.push (s := N2[m]'hlt2) (w1 := w1) (g' := g') (cap' := cap'))
              clear hx e hmem HF2
              generalize (N2[m]'hlt2) = s2 at c0 HIx HP h49 HF3 HPu
              go_wp2_with fail
              refine HIx.out.mono ?_
              rintro e w4 ⟨rfl, rfl⟩
              go_wp2_with (at_builtin; go_must (refine own_appx elemS _ rfl (.tmp 43) (.tmp 48) rfl base (.slice (some ⟨gr', 0, none⟩) R'.length cr') R'.length (R'.map Value.string) rfl HR'.out.own [.string s2] 1 _ 1 rfl (by simp [Value.oneCell']) rfl (by first | rfl | simp) (by omega) (by omega) (by first | omega | (simp only [World.size_alloc, World.size_setCell, World.size_drew, World.heap_drewN] <;> omega) | (simp <;> omega)) ?_))
              intro g' cap' w5 ho hg hat
              have HR5 := Lib.hid (HPu.out w5 g' cap' ho hg hat)
              have HS5 : Hid (StrsIn w5 N2 (some ⟨bn, on, none⟩) cn) := (HS'.out.keep (keeps_of_below ((Below.refl _ _).alloc (Nat.le_refl _) _))).grownB HNe.out hg
              have HNe5 : Hid (∀ p : Addr, some (⟨bn, on, none⟩ : Addr) = some p → p.block ≠ g') := fun p hp => by
                rcases hat with hat | hat
                · have e1 : gr' = g' := Option.some.inj hat
                  rw [← e1]; exact HNe.out p hp
                · have h1 := World.block_lt_of_cell? _ _ c0
                  rw [← Option.some.inj hp]
                  simp only at h1 ⊢
                  omega
              clear ho hg hat c0
              go_wp2_with fail
              go_roundw
              case rel => exact ⟨m + 1, R' ++ [s2], g', cap', by go_num, by simp, by omega, h49, by simp; omega, (by obtain ⟨E, hE⟩ := HE.out; exact ⟨E ++ [s2], by rw [hE, List.append_assoc]⟩), HP, HF3, HR5, HS5, HNe5⟩
              case measure => (simp [intOf]; try omega)
          · obtain rfl : m = N2.length := by omega
            obtain ⟨hk2, hI2⟩ := HNx.out R' HE.out HI'.out (fun s hs => by
              obtain ⟨i, hi, rfl⟩ := List.getElem_of_mem hs
              exact HF.out i hi hi)
            have HI2 := Lib.hid hI2
            clear hI2
            go_wp2_with fail
            go_roundw
            case rel => exact ⟨k + 1, R', gr', cr', by go_num, rfl, by omega, h48', HI2, HR'⟩
            case measure => (simp [intOf]; try omega)
    · obtain rfl : k = R.length := by omega
      go_wp2_with fail
      go_ret
      exact ⟨⟨R, _, _, rfl, HR.out.strs (by omega), HI.out, h48⟩, HR.out.bel⟩
end Go.Proofs.YtihegbjlgpghbaaGreatDoor

/- ref31.Cone: the signals that a signal depends on. -/
namespace Go.Proofs.YtihegbjlgpghbaaGreatDoor
open Go.RowKit
attribute [local go_sem ↓] Go.wp_at_zero Go.wp_at_succ

def lenV : Value → Nat
  | .slice _ n _ => n
  | _ => 0
theorem ownsRow_lit (w : World) (nm : ByteArray) : (w.alloc (.cells #[.string nm] 9)).ownsRow w.heap.size 9 1 (.slice (some ⟨w.heap.size, 0, none⟩) 1 1) 1 [.string nm] :=
  ⟨rfl, Or.inr ⟨w.heap.size, 1, #[.string nm], rfl, Nat.le_refl _, heap_alloc_at _ _ _ rfl, Nat.le_refl _, by unfold maxLen; omega, rfl, rfl⟩⟩
theorem names_ne {d : DesD} (h : d.err = 0) {s : ByteArray} (hs : (idxT d.names s).isSome = true) : s.toList ≠ [] := by
  obtain ⟨k, hk, _, he⟩ := idxT_get hs
  rw [← he]
  have h0 : d.nmErr = 0 := by
    rw [err_ref] at h
    unfold errC at h
    split at h
    · rename_i h1; exact absurd h h1
    · rename_i h1; simpa using h1
  have h1 : (d.names.all fun s => nameB s.data.toList) = true := by
    cases hb : d.names.all fun s => nameB s.data.toList with
    | true => rfl
    | false => rw [nmErr_names hb] at h0; simp at h0
  have h2 := List.all_eq_true.1 h1 _ (List.getElem_mem hk)
  rw [ByteArray.toList_eq]
  intro hn
  rw [hn] at h2
  simp [nameB, wordB] at h2
set_option maxRecDepth 100000 in
set_option maxHeartbeats 16000000 in
theorem ConeX_any (d : DesD) (x : DesA) (nm : ByteArray) (w : World) (hE : DesIn w d x) (hs : DesSmall d) (he : d.err = 0) (hn : (idxT d.names nm).isSome = true) :
    Calls Tryz.prog 30 #[desVal d x, .string nm] w fun e w' => (∃ C a c, e = .returned (.tuple #[.slice a C.length c, .int .i64 0]) ∧ StrsIn w' C a c ∧ ConeD d nm C ∧ ConeE d nm C) ∧ Below w.heap.size w w' := by
  have hd := desOk_of_err he
  have hl := hs.len
  have HV0 : Hid (∀ W, Below w.heap.size w W → Calls Tryz.prog 21 #[desVal d x] W fun e w' => e = .returned (.int .i64 0) ∧ Below W.heap.size W w') := fun W hW => (rValidD_any d x W (hE.below hW) hs).mono fun e w' h => by rw [he] at h; exact h
  have HN0 := Lib.hid (fun W (hW : Below w.heap.size w W) => rNames31_any d x W (hE.below hW) (by simp [DesD.names]; omega))
  have HIx : Hid (∀ W a c, StrsIn W d.names a c → Calls Tryz.prog 67 #[.slice a d.names.length c, .string nm] W fun e w' => (∃ q : Nat, e = .returned (.int .i64 (q : Int))) ∧ W = w') := fun W a c h => (index_any d.names a c nm W h).mono fun e w' h => by
    obtain ⟨k, _, hk, _⟩ := idxT_get hn
    exact ⟨⟨k, by rw [h.1]; unfold idxI; rw [hk]⟩, h.2⟩
  have HBl : Hid (∀ W, Below w.heap.size w W → Calls Tryz.prog 73 #[desVal d x, .slice (some ⟨W.heap.size, 0, none⟩) 1 1] (W.alloc (.cells #[.string nm] 9)) fun e w' => (∃ R a c, e = .returned (.slice a R.length c) ∧ StrsIn w' R a c ∧ BelInv d nm R R.length ∧ R.length ≤ 48) ∧ Below W.heap.size W w') := fun W hW => (below_any d x nm W.heap.size 1 W.heap.size _ (fun W' hW' => hE.below (hW.trans ((Below.refl _ _ : Below W.heap.size W W).alloc (Nat.le_refl _) _ |>.trans (hW'.mono (by simp)) |>.mono hW.size))) hs he hn (ownsRow_lit W nm) (by simp)).mono fun e w' h => ⟨h.1, ((Below.refl _ _ : Below W.heap.size W W).alloc (Nat.le_refl _) _).trans (h.2.mono (by simp))⟩
  have HWi0 := Lib.hid (fun s W (hW : Below w.heap.size w W) => wire_any d x s W (hE.below hW))
  have HWv : Hid (∀ s, (d.wireIdx s = none ∧ d.wireI s = -1) ∨ ∃ k : Nat, ¬ d.wireIdx s = none ∧ d.wireI s = (k : Int)) := fun s => by
    unfold DesD.wireI
    cases h : d.wireIdx s with
    | none => exact Or.inl ⟨rfl, rfl⟩
    | some k => exact Or.inr ⟨k, by simp, rfl⟩
  have HNe : Hid (∀ R k, BelInv d nm R k → ∀ s ∈ R, s.toList ≠ []) := fun R k h s hs' => names_ne he (h.sub s hs')
  have HDn : Hid (∀ R O, BelInv d nm R R.length → OutInv d R O → (∀ j (hj : j < R.length), ¬ Cand d O (R[j]'hj)) → ConeD d nm O ∧ ConeE d nm O) := fun R O h ho hb => ⟨cone_done hd h hb, cone_exact h ho hb⟩
  clear hE hs he hn hd hl
  simp only [desVal, desVals] at HV0 HN0 HBl HWi0 ⊢
  have hbA : Below w.heap.size w (w.alloc (.cells #[.string d.name, .slice x.ai d.inputs.length x.ci, .slice x.aw d.wires.length x.cw, .slice x.ar d.regs.length x.cr, .slice x.ao d.outputs.length x.co] 27)) := (by repeat (first | assumption | exact Below.refl _ _ | refine Below.drew ?_ | refine below_drewN ?_ _ | refine Below.alloc ?_ (by first | omega | (simp only [World.size_alloc, World.size_setCell, World.size_drew, World.heap_drewN] <;> omega) | (simp <;> omega)) _ | refine Below.setCell ?_ (by first | omega | (simp only [World.size_alloc, World.size_setCell, World.size_drew, World.heap_drewN] <;> omega) | (simp <;> omega)) _))
  have HB0 : Hid (Below (w.heap.size + 1) (w.alloc (.cells #[.string d.name, .slice x.ai d.inputs.length x.ci, .slice x.aw d.wires.length x.cw, .slice x.ar d.regs.length x.cr, .slice x.ao d.outputs.length x.co] 27)) (w.alloc (.cells #[.string d.name, .slice x.ai d.inputs.length x.ci, .slice x.aw d.wires.length x.cw, .slice x.ar d.regs.length x.cr, .slice x.ao d.outputs.length x.co] 27))) := Below.refl _ _
  have HV1 := Lib.hid (HV0.out _ hbA)
  clear HV0 hbA
  go_enter Tryz.func30, Tryz.ntmps30
  go_wp2_with fail
  refine HV1.out.mono ?_
  rintro e w1 ⟨rfl, hb1⟩
  have HB1 := Lib.hid (HB0.out.trans (hb1.mono (by simp)))
  have hz1 := HB1.out.size
  simp only [World.size_alloc] at hz1
  ((try clear b0 b1 b2 b3 b4); have b0 := box_cell HB1.out 0; have b1 := box_cell HB1.out 1; have b2 := box_cell HB1.out 2; have b3 := box_cell HB1.out 3; have b4 := box_cell HB1.out 4; (try simp at b0 b1 b2 b3 b4))
  clear hb1
  go_wp2_with fail
  refine (HN0.out w1 (boxW _ HB1.out)).mono ?_
  rintro e w2 ⟨⟨a2, c2, rfl, hS2⟩, hb2⟩
  have HB2 := Lib.hid (HB1.out.trans (hb2.mono hz1))
  have hz2 := HB2.out.size
  simp only [World.size_alloc] at hz2
  have HIx2 := Lib.hid (HIx.out w2 a2 c2 hS2)
  clear hb2 hS2
  go_wp2_with fail
  refine HIx2.out.mono ?_
  rintro e w2' ⟨⟨q, rfl⟩, rfl⟩
  have hd0 : decide ((q : Int) < 0) = false := decide_eq_false (by omega)
  ((try clear b0 b1 b2 b3 b4); have b0 := box_cell HB2.out 0; have b1 := box_cell HB2.out 1; have b2 := box_cell HB2.out 2; have b3 := box_cell HB2.out 3; have b4 := box_cell HB2.out 4; (try simp at b0 b1 b2 b3 b4))
  have HBl2 := Lib.hid (HBl.out w2 (boxW _ HB2.out))
  go_wp2_with fail
  refine HBl2.out.mono ?_
  rintro e w3 ⟨⟨R, aR, cR, rfl, hS3, hI3, h48⟩, hb3⟩
  have HB3 := Lib.hid (HB2.out.trans (hb3.mono hz2))
  have hz3 := HB3.out.size
  simp only [World.size_alloc] at hz3
  have HS := Lib.hid hS3
  have HSA := Lib.hid (SliceIn.addr hS3)
  have hsc := hS3.1
  have HI := Lib.hid hI3
  clear hb3 hS3 hI3 HBl2 HBl HIx HIx2 HN0 HV1 b0 b1 b2 b3 b4
  have HO0 : Hid (OutInv d R []) := OutInv.nil d R
  go_wp2_with fail
  go_loopw [8] (fun v wr => ∃ (O : List ByteArray) (ao : Option Addr) (co : Nat), v = .slice ao O.length co ∧ O.length ≤ 48 ∧ Hid (OutInv d R O) ∧ Hid (wr.ownsRow (w3.heap.size) 9 1 (.slice ao O.length co) O.length (O.map Value.string)) ∧ Hid (Below w3.heap.size w3 wr)) (fun v _ => 49 - lenV v)
  case atStart => exact ⟨[], none, 0, rfl, by simp, HO0, World.ownsRow_nil _ _ _ _, Below.refl _ _⟩
  case round =>
    obtain ⟨O, ao, co, rfl, hO48, HO, HOw, HBr⟩ := hrel
    have HBw := Lib.hid (HB3.out.trans (HBr.out.mono hz3))
    have hOn : O.length ≤ 1073741824 := by omega
    have HOs : Hid (StrsIn wr O ao co) := by
      obtain ⟨a', c', hv, hs⟩ := strs_of_own HOw.out hOn
      injection hv with e1 e2 e3
      subst e1 e3
      exact hs
    have hoc := HOs.out.1
    have HB9 : Hid (BestAt d R O 0 ⟨#[]⟩) := Or.inl ⟨by rw [ByteArray.toList_eq], fun j _ hj => absurd hj (by omega)⟩
    rename World => wo
    go_wp2_with fail
    go_loopw [10, 9] (fun i v wq => ∃ (k : Nat) (b : ByteArray), i = .int .i64 k ∧ v = .string b ∧ k ≤ R.length ∧ Hid (BestAt d R O k b) ∧ Hid (Below wo.heap.size wo wq)) (fun i _ _ => R.length - (intOf i).toNat)
    case atStart => exact ⟨0, _, rfl, rfl, Nat.zero_le _, HB9, Below.refl _ _⟩
    case round =>
      obtain ⟨k, b, rfl, rfl, hk, HBe, HBq⟩ := hrel
      have HBt : Hid (Below w3.heap.size w3 wr) := HBr.out.trans (HBq.out.mono HBr.out.size)
      have HBx := Lib.hid (HB3.out.trans (HBt.out.mono hz3))
      have hzr := HBx.out.size
      simp only [World.size_alloc] at hzr
      by_cases hlt : k < R.length
      · obtain ⟨bR, oR, haR⟩ := HSA.out.resolve_left (by omega)
        subst haR
        have c0 := (HS.out.keep (keeps_of_below HBt.out)).get rfl hlt
        have hv := HWv.out (R[k]'hlt)
        have HWi := Lib.hid (fun W (hW : Below wr.heap.size wr W) => (HWi0.out (R[k]'hlt) W ((boxW _ HBx.out).trans (hW.mono (boxW _ HBx.out).size))).mono fun e w' h => (⟨h.1, hW.trans (h.2.mono hW.size)⟩ : _ ∧ Below wr.heap.size wr w'))
        have HIx := Lib.hid (fun W (hW : Below wr.heap.size wr W) => index_any O ao co (R[k]'hlt) W (HOs.out.keep (keeps_of_below (HBq.out.trans (hW.mono HBq.out.size)))))
        have HNo : Hid (¬ Cand d O (R[k]'hlt) → BestAt d R O (k + 1) b) := fun h => best_no HBe.out hlt h
        have HKe : Hid (b.toList ≠ [] → ¬ (R[k]'hlt).toList < b.toList → BestAt d R O (k + 1) b) := fun h hl => best_keep HBe.out hlt h hl
        have HNw : Hid (Cand d O (R[k]'hlt) → (b.toList = [] ∨ (R[k]'hlt).toList < b.toList) → BestAt d R O (k + 1) (R[k]'hlt)) := fun h hl => best_new HBe.out hlt h (HNe.out _ _ HI.out _ (List.getElem_mem hlt)) hl
        ((try clear b0 b1 b2 b3 b4); have b0 := box_cell HBx.out 0; have b1 := box_cell HBx.out 1; have b2 := box_cell HBx.out 2; have b3 := box_cell HBx.out 3; have b4 := box_cell HBx.out 4; (try simp at b0 b1 b2 b3 b4))
        have e0 : ∀ g : Grow wr.heap.size wr, g.w'.cell? ⟨w.heap.size, 0, none⟩ = some (.string d.name) := Grow.old b0 (Nat.le_refl _)
        have e1 : ∀ g : Grow wr.heap.size wr, g.w'.cell? ⟨w.heap.size, 1, none⟩ = some (.slice x.ai d.inputs.length x.ci) := Grow.old b1 (Nat.le_refl _)
        have e2 : ∀ g : Grow wr.heap.size wr, g.w'.cell? ⟨w.heap.size, 2, none⟩ = some (.slice x.aw d.wires.length x.cw) := Grow.old b2 (Nat.le_refl _)
        have e3 : ∀ g : Grow wr.heap.size wr, g.w'.cell? ⟨w.heap.size, 3, none⟩ = some (.slice x.ar d.regs.length x.cr) := Grow.old b3 (Nat.le_refl _)
        have e4 : ∀ g : Grow wr.heap.size wr, g.w'.cell? ⟨w.heap.size, 4, none⟩ = some (.slice x.ao d.outputs.length x.co) := Grow.old b4 (Nat.le_refl _)
        have e5 : ∀ g : Grow wr.heap.size wr, g.w'.cell? ⟨bR, oR + k, none⟩ = some (.string (R[k]'hlt)) := Grow.old c0 (Nat.le_refl _)
        clear b0 b1 b2 b3 b4 HBe
        rcases hv with ⟨hw, hv⟩ | ⟨q2, hw, hv⟩
        · rw [hv] at HWi
          cases hx : idxT O (R[k]'hlt) with
          | some t =>
            have HB5 := Lib.hid (HNo.out (fun h => by have := h.2; rw [hx] at this; simp at this))
            have e : idxI O (R[k]'hlt) = (t : Int) := by unfold idxI; rw [hx]
            rw [e] at HIx
            have hd1 : decide ((t : Int) < 0) = false := decide_eq_false (by omega)
            clear hx e HNo HKe HNw hw hv c0
            generalize (R[k]'hlt) = s at e5 HWi HIx
            go_wp2_with fail
            (refine wp_region_grow (B := wr.heap.size) (w0 := wr) (by kernel_rfl) (by kernel_rfl) (by repeat (first | assumption | exact Below.refl _ _ | refine Below.drew ?_ | refine below_drewN ?_ _ | refine Below.alloc ?_ (by first | omega | (simp only [World.size_alloc, World.size_setCell, World.size_drew, World.heap_drewN] <;> omega) | (simp <;> omega)) _ | refine Below.setCell ?_ (by first | omega | (simp only [World.size_alloc, World.size_setCell, World.size_drew, World.heap_drewN] <;> omega) | (simp <;> omega)) _)) ?_; (repeat (go_big_quiet_step ((first | (go_at_call 74; (with_reducible exact grow_call (HWi.out _ (Grow.h _)))) | (go_at_call 67; (with_reducible exact grow_callS _ (HIx.out _ (Grow.h _)))))))); refine wpQuiet_nil ?_; intro wg hCg; have hbg := grow_out hCg; clear hCg)
            go_wp2_with fail
            go_roundw
            case rel => exact ⟨k + 1, b, by go_num, rfl, by omega, HB5, HBq.out.trans (hbg.mono HBq.out.size)⟩
            case measure => (simp [intOf]; try omega)
          | none =>
            have HCa : Hid (Cand d O (R[k]'hlt)) := ⟨hw, hx⟩
            have HB6 := Lib.hid (HNw.out HCa.out)
            clear HNw
            have e : idxI O (R[k]'hlt) = -1 := by unfold idxI; rw [hx]
            rw [e] at HIx
            clear hx e HNo hw hv
            by_cases hbe : b.toList = []
            · have HB6 := Lib.hid (HB6.out (Or.inl hbe))
              generalize (R[k]'hlt) = s at e5 HWi HIx HB6 c0
              clear HKe
              have hbe2 : (b.toList == ([] : List UInt8)) = true := by rw [hbe]; rfl
              go_wp2_with fail
              (refine wp_region_grow (B := wr.heap.size) (w0 := wr) (by kernel_rfl) (by kernel_rfl) (by repeat (first | assumption | exact Below.refl _ _ | refine Below.drew ?_ | refine below_drewN ?_ _ | refine Below.alloc ?_ (by first | omega | (simp only [World.size_alloc, World.size_setCell, World.size_drew, World.heap_drewN] <;> omega) | (simp <;> omega)) _ | refine Below.setCell ?_ (by first | omega | (simp only [World.size_alloc, World.size_setCell, World.size_drew, World.heap_drewN] <;> omega) | (simp <;> omega)) _)) ?_; (repeat (go_big_quiet_step ((first | (go_at_call 74; (with_reducible exact grow_call (HWi.out _ (Grow.h _)))) | (go_at_call 67; (with_reducible exact grow_callS _ (HIx.out _ (Grow.h _)))))))); refine wpQuiet_nil ?_; intro wg hCg; have hbg := grow_out hCg; clear hCg)
              have c1 := (keeps_of_below hbg) _ _ c0
              go_wp2_with fail
              go_roundw
              case rel => exact ⟨k + 1, s, by go_num, rfl, by omega, HB6, HBq.out.trans (hbg.mono HBq.out.size)⟩
              case measure => (simp [intOf]; try omega)
            · have HB5 := Lib.hid (HKe.out hbe)
              have HB6 := Lib.hid (fun h => HB6.out (Or.inr h))
              generalize (R[k]'hlt) = s at e5 HWi HIx HB5 HB6 c0
              have hbe2 : (b.toList == ([] : List UInt8)) = false := by simpa using hbe
              clear HKe hbe
              cases hbl : Op.bytesLess s.toList b.toList
              · have HB7 := Lib.hid (HB5.out (by have h := hbl; rw [bytesLess_dec, decide_eq_false_iff_not] at h; exact h))
                clear HB5 HB6
                go_wp2_with fail
                (refine wp_region_grow (B := wr.heap.size) (w0 := wr) (by kernel_rfl) (by kernel_rfl) (by repeat (first | assumption | exact Below.refl _ _ | refine Below.drew ?_ | refine below_drewN ?_ _ | refine Below.alloc ?_ (by first | omega | (simp only [World.size_alloc, World.size_setCell, World.size_drew, World.heap_drewN] <;> omega) | (simp <;> omega)) _ | refine Below.setCell ?_ (by first | omega | (simp only [World.size_alloc, World.size_setCell, World.size_drew, World.heap_drewN] <;> omega) | (simp <;> omega)) _)) ?_; (repeat (go_big_quiet_step ((first | (go_at_call 74; (with_reducible exact grow_call (HWi.out _ (Grow.h _)))) | (go_at_call 67; (with_reducible exact grow_callS _ (HIx.out _ (Grow.h _)))))))); refine wpQuiet_nil ?_; intro wg hCg; have hbg := grow_out hCg; clear hCg)
                have c1 := (keeps_of_below hbg) _ _ c0
                go_wp2_with fail
                go_roundw
                case rel => exact ⟨k + 1, b, by go_num, rfl, by omega, HB7, HBq.out.trans (hbg.mono HBq.out.size)⟩
                case measure => (simp [intOf]; try omega)
              · have HB7 := Lib.hid (HB6.out (by have h := hbl; rw [bytesLess_dec, decide_eq_true_eq] at h; exact h))
                clear HB5 HB6
                go_wp2_with fail
                (refine wp_region_grow (B := wr.heap.size) (w0 := wr) (by kernel_rfl) (by kernel_rfl) (by repeat (first | assumption | exact Below.refl _ _ | refine Below.drew ?_ | refine below_drewN ?_ _ | refine Below.alloc ?_ (by first | omega | (simp only [World.size_alloc, World.size_setCell, World.size_drew, World.heap_drewN] <;> omega) | (simp <;> omega)) _ | refine Below.setCell ?_ (by first | omega | (simp only [World.size_alloc, World.size_setCell, World.size_drew, World.heap_drewN] <;> omega) | (simp <;> omega)) _)) ?_; (repeat (go_big_quiet_step ((first | (go_at_call 74; (with_reducible exact grow_call (HWi.out _ (Grow.h _)))) | (go_at_call 67; (with_reducible exact grow_callS _ (HIx.out _ (Grow.h _)))))))); refine wpQuiet_nil ?_; intro wg hCg; have hbg := grow_out hCg; clear hCg)
                have c1 := (keeps_of_below hbg) _ _ c0
                go_wp2_with fail
                go_roundw
                case rel => exact ⟨k + 1, s, by go_num, rfl, by omega, HB7, HBq.out.trans (hbg.mono HBq.out.size)⟩
                case measure => (simp [intOf]; try omega)
        · have HB5 := Lib.hid (HNo.out (fun h => hw h.1))
          rw [hv] at HWi
          have hd1 : decide ((q2 : Int) < 0) = false := decide_eq_false (by omega)
          clear HNo HKe HNw hw hv c0 HIx
          generalize (R[k]'hlt) = s at e5 HWi
          go_wp2_with fail
          (refine wp_region_grow (B := wr.heap.size) (w0 := wr) (by kernel_rfl) (by kernel_rfl) (by repeat (first | assumption | exact Below.refl _ _ | refine Below.drew ?_ | refine below_drewN ?_ _ | refine Below.alloc ?_ (by first | omega | (simp only [World.size_alloc, World.size_setCell, World.size_drew, World.heap_drewN] <;> omega) | (simp <;> omega)) _ | refine Below.setCell ?_ (by first | omega | (simp only [World.size_alloc, World.size_setCell, World.size_drew, World.heap_drewN] <;> omega) | (simp <;> omega)) _)) ?_; (repeat (go_big_quiet_step ((go_at_call 74; (with_reducible exact grow_call (HWi.out _ (Grow.h _))))))); refine wpQuiet_nil ?_; intro wg hCg; have hbg := grow_out hCg; clear hCg)
          go_wp2_with fail
          go_roundw
          case rel => exact ⟨k + 1, b, by go_num, rfl, by omega, HB5, HBq.out.trans (hbg.mono HBq.out.size)⟩
          case measure => (simp [intOf]; try omega)
      · obtain rfl : k = R.length := by omega
        rcases HBe.out with ⟨hb0, hno⟩ | ⟨hb0, _⟩
        · have HCo := Lib.hid (HDn.out R O HI.out HO.out (fun j hj => hno j hj hj))
          have hbe : (b.toList == ([] : List UInt8)) = true := by rw [hb0]; rfl
          go_wp2_with fail
          go_ret2
          exact ⟨⟨O, ao, co, rfl, HOs.out.keep (keeps_of_below HBq.out), HCo.out⟩, boxW _ HBx.out⟩
        · have HO5 := Lib.hid (HO.out.push HBe.out hb0)
          have h49 : (O ++ [b]).length ≤ R.length := HO5.out.len
          rw [List.length_append, List.length_singleton] at h49
          have hbe : (b.toList == ([] : List UInt8)) = false := by simpa using hb0
          have HOw2 := Lib.hid (ownsRow_below HOw.out HBq.out)
          have hzt := HBt.out.size
          clear hb0 HBe
          go_wp2_with (at_builtin; go_must (refine own_appx elemS _ rfl (.tmp 66) (.tmp 68) rfl w3.heap.size (.slice ao O.length co) O.length (O.map Value.string) rfl HOw2.out [.string b] 1 _ 1 rfl (by simp [Value.oneCell']) rfl (by first | rfl | simp) (by omega) (by omega) (by first | omega | (simp only [World.size_alloc, World.size_setCell, World.size_drew, World.heap_drewN] <;> omega) | (simp <;> omega)) ?_))
          intro g' cap' w5 ho hg hat
          have HOw5 : Hid (w5.ownsRow w3.heap.size 9 1 (.slice (some ⟨g', 0, none⟩) (O ++ [b]).length cap') (O ++ [b]).length ((O ++ [b]).map Value.string)) := by
            show World.ownsRow _ _ _ _ _ _ _
            simpa using ho
          have HB5 : Hid (Below w3.heap.size w3 w5) := Below.grown (HBt.out.alloc HBt.out.size _) hg (by have := HBt.out.size; simp; omega) (fun j hj => (HOw2.out.lt j hj).1)
          clear ho hg hat
          go_wp2_with fail
          go_roundw
          case rel => exact ⟨O ++ [b], some ⟨g', 0, none⟩, cap', by simp, by simp; omega, HO5, HOw5, HB5⟩
          case measure => (simp [lenV]; try omega)
theorem Cone_any (d : DesD) (x : DesA) (nm : ByteArray) (w : World) (hE : DesIn w d x) (hs : DesSmall d) (he : d.err = 0) (hn : (idxT d.names nm).isSome = true) :
    Calls Tryz.prog 30 #[desVal d x, .string nm] w fun e w' => (∃ C a c, e = .returned (.tuple #[.slice a C.length c, .int .i64 0]) ∧ StrsIn w' C a c ∧ ConeD d nm C) ∧ Below w.heap.size w w' :=
  (ConeX_any d x nm w hE hs he hn).mono fun e w' h => by
    obtain ⟨⟨C, a, c, h1, h2, h3, _⟩, h4⟩ := h
    exact ⟨⟨C, a, c, h1, h2, h3⟩, h4⟩
end Go.Proofs.YtihegbjlgpghbaaGreatDoor

/- ref31.Cone with its errors. -/
namespace Go.Proofs.YtihegbjlgpghbaaGreatDoor
open Go.RowKit
attribute [local go_sem ↓] Go.wp_at_zero Go.wp_at_succ

def ConePost (w : World) (d : DesD) (nm : ByteArray) (e : Ending) (w' : World) : Prop :=
  ((d.err = 0 ∧ (idxT d.names nm).isSome = true ∧ ∃ C a c, e = .returned (.tuple #[.slice a C.length c, .int .i64 0]) ∧ StrsIn w' C a c ∧ ConeE d nm C) ∨
   (¬ d.err = 0 ∧ e = .returned (.tuple #[.slice none 0 0, .int .i64 d.err])) ∨
   (d.err = 0 ∧ (idxT d.names nm).isSome = false ∧ e = .returned (.tuple #[.slice none 0 0, .int .i64 7]))) ∧ Below w.heap.size w w'
set_option maxRecDepth 100000 in
set_option maxHeartbeats 8000000 in
theorem rConeP_any (d : DesD) (x : DesA) (nm : ByteArray) (w : World) (hE : DesIn w d x) (hs : DesSmall d) :
    Calls Tryz.prog 30 #[desVal d x, .string nm] w (ConePost w d nm) := by
  by_cases he : d.err = 0
  · cases hn : (idxT d.names nm).isSome
    · have hl := hs.len
      have HV0 : Hid (∀ W, Below w.heap.size w W → Calls Tryz.prog 21 #[desVal d x] W fun e w' => e = .returned (.int .i64 0) ∧ Below W.heap.size W w') := fun W hW => (rValidD_any d x W (hE.below hW) hs).mono fun e w' h => by rw [he] at h; exact h
      have HN0 := Lib.hid (fun W (hW : Below w.heap.size w W) => rNames31_any d x W (hE.below hW) (by simp [DesD.names]; omega))
      have HIx : Hid (∀ W a c, StrsIn W d.names a c → Calls Tryz.prog 67 #[.slice a d.names.length c, .string nm] W fun e w' => e = .returned (.int .i64 (-1)) ∧ W = w') := fun W a c h => (index_any d.names a c nm W h).mono fun e w' h => ⟨by
        rw [h.1]
        unfold idxI
        cases hx : idxT d.names nm with
        | none => rfl
        | some k => rw [hx] at hn; simp at hn, h.2⟩
      have HP : Hid (∀ w', Below w.heap.size w w' → ConePost w d nm (.returned (.tuple #[.slice none 0 0, .int .i64 7])) w') := fun w' h => ⟨Or.inr (Or.inr ⟨he, hn, rfl⟩), h⟩
      generalize ConePost w d nm = Po at HP ⊢
      clear hE hs he hn hl
      simp only [desVal, desVals] at HV0 HN0 ⊢
      have hbA : Below w.heap.size w (w.alloc (.cells #[.string d.name, .slice x.ai d.inputs.length x.ci, .slice x.aw d.wires.length x.cw, .slice x.ar d.regs.length x.cr, .slice x.ao d.outputs.length x.co] 27)) := (by repeat (first | assumption | exact Below.refl _ _ | refine Below.drew ?_ | refine below_drewN ?_ _ | refine Below.alloc ?_ (by first | omega | (simp only [World.size_alloc, World.size_setCell, World.size_drew, World.heap_drewN] <;> omega) | (simp <;> omega)) _ | refine Below.setCell ?_ (by first | omega | (simp only [World.size_alloc, World.size_setCell, World.size_drew, World.heap_drewN] <;> omega) | (simp <;> omega)) _))
      have HB0 : Hid (Below (w.heap.size + 1) (w.alloc (.cells #[.string d.name, .slice x.ai d.inputs.length x.ci, .slice x.aw d.wires.length x.cw, .slice x.ar d.regs.length x.cr, .slice x.ao d.outputs.length x.co] 27)) (w.alloc (.cells #[.string d.name, .slice x.ai d.inputs.length x.ci, .slice x.aw d.wires.length x.cw, .slice x.ar d.regs.length x.cr, .slice x.ao d.outputs.length x.co] 27))) := Below.refl _ _
      have HV1 := Lib.hid (HV0.out _ hbA)
      clear HV0 hbA
      go_enter Tryz.func30, Tryz.ntmps30
      go_wp2_with fail
      refine HV1.out.mono ?_
      rintro e w1 ⟨rfl, hb1⟩
      have HB1 := Lib.hid (HB0.out.trans (hb1.mono (by simp)))
      have hz1 := HB1.out.size
      simp only [World.size_alloc] at hz1
      ((try clear b0 b1 b2 b3 b4); have b0 := box_cell HB1.out 0; have b1 := box_cell HB1.out 1; have b2 := box_cell HB1.out 2; have b3 := box_cell HB1.out 3; have b4 := box_cell HB1.out 4; (try simp at b0 b1 b2 b3 b4))
      clear hb1
      go_wp2_with fail
      refine (HN0.out w1 (boxW _ HB1.out)).mono ?_
      rintro e w2 ⟨⟨a2, c2, rfl, hS2⟩, hb2⟩
      have HB2 := Lib.hid (HB1.out.trans (hb2.mono hz1))
      have HIx2 := Lib.hid (HIx.out w2 a2 c2 hS2)
      have HPe := Lib.hid (HP.out w2 (boxW _ HB2.out))
      clear hb2 hS2
      go_wp2_with fail
      refine HIx2.out.mono ?_
      rintro e w2' ⟨rfl, rfl⟩
      go_wp2_with fail
      first | exact HPe.out | (go_ret2; exact HPe.out)
    · refine (ConeX_any d x nm w hE hs he hn).mono fun e w' h => ?_
      obtain ⟨⟨C, a, c, h1, h2, _, h3⟩, h4⟩ := h
      exact ⟨Or.inl ⟨he, hn, C, a, c, h1, h2, h3⟩, h4⟩
  · have HV0 : Hid (∀ W, Below w.heap.size w W → Calls Tryz.prog 21 #[desVal d x] W fun e w' => e = .returned (.int .i64 d.err) ∧ Below W.heap.size W w') := fun W hW => rValidD_any d x W (hE.below hW) hs
    have HP : Hid (∀ w', Below w.heap.size w w' → ConePost w d nm (.returned (.tuple #[.slice none 0 0, .int .i64 d.err])) w') := fun w' h => ⟨Or.inr (Or.inl ⟨he, rfl⟩), h⟩
    have hne : (d.err != 0) = true := by simpa using he
    generalize ConePost w d nm = Po at HP ⊢
    generalize d.err = er at HV0 HP hne
    clear hE hs he
    simp only [desVal, desVals] at HV0 ⊢
    have hbA : Below w.heap.size w (w.alloc (.cells #[.string d.name, .slice x.ai d.inputs.length x.ci, .slice x.aw d.wires.length x.cw, .slice x.ar d.regs.length x.cr, .slice x.ao d.outputs.length x.co] 27)) := (by repeat (first | assumption | exact Below.refl _ _ | refine Below.drew ?_ | refine below_drewN ?_ _ | refine Below.alloc ?_ (by first | omega | (simp only [World.size_alloc, World.size_setCell, World.size_drew, World.heap_drewN] <;> omega) | (simp <;> omega)) _ | refine Below.setCell ?_ (by first | omega | (simp only [World.size_alloc, World.size_setCell, World.size_drew, World.heap_drewN] <;> omega) | (simp <;> omega)) _))
    have HV1 := Lib.hid (HV0.out _ hbA)
    have HA := Lib.hid hbA
    clear HV0 hbA
    go_enter Tryz.func30, Tryz.ntmps30
    go_wp2_with fail
    refine HV1.out.mono ?_
    rintro e w1 ⟨rfl, hb1⟩
    have HPe := Lib.hid (HP.out w1 (HA.out.trans (hb1.mono HA.out.size)))
    clear hb1
    go_wp2_with fail
    first | exact HPe.out | (go_ret2; exact HPe.out)
end Go.Proofs.YtihegbjlgpghbaaGreatDoor
