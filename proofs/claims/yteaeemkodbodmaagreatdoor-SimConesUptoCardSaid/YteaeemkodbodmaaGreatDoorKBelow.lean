/- ref31.below. -/
import Derived.Test.YteaeemkodbodmaaGreatDoorKConeP
import Derived.Test.YteaeemkodbodmaaGreatDoorDU
set_option linter.unusedSimpArgs false
set_option linter.unusedVariables false
set_option linter.unnecessarySimpa false
namespace Go.Proofs.YteaeemkodbodmaaGreatDoor
open Go.RowKit
attribute [local go_sem ↓] Go.wp_at_zero Go.wp_at_succ

/-- what the loops of 'below' keep: the list R in a row of the call's own, the box, old memory -/
structure BelW (base p : Nat) (box : Array Value) (w0 : World) (g cap : Nat) (R : List ByteArray) (w : World) : Prop where
  own : w.ownsRow base 9 1 (.slice (some ⟨g, 0, none⟩) R.length cap) R.length (R.map Value.string)
  ne : g ≠ p
  hp : w.heap[p]? = some (.cells box 27 (0, 0))
  hbp : base ≤ p
  bel : Below base w0 w
theorem BelW.lt {base p : Nat} {box : Array Value} {w0 : World} {g cap : Nat} {R : List ByteArray} {w : World} (h : BelW base p box w0 g cap R w) : p < w.heap.size := lt_of_block h.hp
theorem BelW.below {base p : Nat} {box : Array Value} {w0 : World} {g cap : Nat} {R : List ByteArray} {w w' : World} (h : BelW base p box w0 g cap R w) (hb : Below w.heap.size w w') : BelW base p box w0 g cap R w' :=
  ⟨ownsRow_below h.own hb, h.ne, (hb.block _ h.lt).trans h.hp, h.hbp, h.bel.trans (hb.mono (Nat.le_of_lt (Nat.lt_of_le_of_lt h.hbp h.lt)))⟩
theorem BelW.push {base p : Nat} {box : Array Value} {w0 : World} {g cap : Nat} {R : List ByteArray} {w w1 : World} {s : ByteArray} {g' cap' : Nat} (h : BelW base p box w0 g cap R w)
    (ho : w1.ownsRow base 9 1 (.slice (some ⟨g', 0, none⟩) (R.length + 1) cap') (R.length + 1) (R.map Value.string ++ [.string s])) (hg : (w.alloc (.cells #[.string s] 9)).grownBy w1 (some g)) (hat : (Value.slice (some ⟨g, 0, none⟩) R.length cap).ownBlock = some g' ∨ w.heap.size < g') :
    BelW base p box w0 g' cap' (R ++ [s]) w1 := by
  have hl := h.lt
  refine ⟨by simpa using ho, ?_, ?_, h.hbp, ?_⟩
  · rcases hat with hat | hat
    · have : g = g' := Option.some.inj hat
      rw [← this]; exact h.ne
    · omega
  · rw [hg.block p (by simp; omega) (fun e => h.ne (Option.some.inj e).symm), Below.heap_alloc _ _ _ hl]
    exact h.hp
  · refine Below.grown (h.bel.alloc (Nat.le_of_lt (Nat.lt_of_le_of_lt h.hbp hl)) _) hg (by have := h.hbp; simp; omega) (fun j hj => ?_)
    have := (h.own.lt g rfl).1
    rw [← Option.some.inj hj]; exact this
theorem BelW.strs {base p : Nat} {box : Array Value} {w0 : World} {g cap : Nat} {R : List ByteArray} {w : World} (h : BelW base p box w0 g cap R w) (hn : R.length ≤ 1073741824) : StrsIn w R (some ⟨g, 0, none⟩) cap := by
  obtain ⟨a, c, he, hs⟩ := strs_of_own h.own hn
  injection he with e1 e2 e3
  subst e1 e3
  exact hs
theorem RowsCap {w : World} {base : Nat} {e : TypeId} {g n cap : Nat} {xs : List Value} (h : w.ownsRow base e 1 (.slice (some ⟨g, 0, none⟩) n cap) n xs) : n ≤ cap := by
  rcases h.2 with ⟨h1, _⟩ | ⟨g', cap', cur, h1, _, _, h2, _⟩
  · simp at h1
  · injection h1 with _ _ e3
    omega
theorem StrsIn.grownB {w w' : World} {l : List ByteArray} {a : Option Addr} {c g : Nat} (h : StrsIn w l a c) (hF : ∀ p : Addr, a = some p → p.block ≠ g) (hg : w.grownBy w' (some g)) : StrsIn w' l a c := by
  refine ⟨h.1, h.2.1, h.2.2.imp id ?_⟩
  rintro ⟨b', o', ha, hq⟩
  refine ⟨b', o', ha, fun i hi => ?_⟩
  obtain ⟨v, hv, h1⟩ := hq i hi
  exact ⟨v, hv, hg.cell h1 (fun e => hF _ ha (Option.some.inj e))⟩
set_option maxHeartbeats 1000000 in
theorem rNames_fresh (op n : Int) (s : ByteArray) (args : List Ex) (a : Option Addr) (cap : Nat) (w : World) (hE : ExIn w (.mk op n s args) a cap) (hn : (Ex.mk op n s args).nodes.length ≤ 1000000000) :
    Calls Tryz.prog 66 #[.agg #[.int .i64 op, .int .i64 n, .string s, .slice a args.length cap]] w fun e w' =>
      (∃ a' cap', e = .returned (.slice a' (namesS [2] (.mk op n s args)).length cap') ∧ StrsIn w' (namesS [2] (.mk op n s args)) a' cap' ∧ ∀ p : Addr, a' = some p → w.heap.size ≤ p.block) ∧ Below w.heap.size w w' := by
  have hB : Below w.heap.size w (w.alloc (.cells #[.int .i64 op, .int .i64 n, .string s, .slice a args.length cap] 53)) := (by repeat (first | assumption | exact Below.refl _ _ | refine Below.drew ?_ | refine below_drewN ?_ _ | refine Below.alloc ?_ (by first | omega | (simp only [World.size_alloc, World.size_setCell, World.size_drew, World.heap_drewN] <;> omega) | (simp <;> omega)) _ | refine Below.setCell ?_ (by first | omega | (simp only [World.size_alloc, World.size_setCell, World.size_drew, World.heap_drewN] <;> omega) | (simp <;> omega)) _))
  have HC := Lib.hid (over_any op n s args a cap _ (hE.keep (keeps_of_below hB)) hn)
  have HB := Lib.hid hB
  have HN := Lib.hid (names_len [2] (Ex.mk op n s args).nodes [])
  have Hn := Lib.hid hn
  clear hB hE hn
  go_enter Tryz.func66, Tryz.ntmps66
  go_wp2_with fail
  refine HC.out.mono ?_
  rintro e w2 ⟨rfl, hI, hb⟩
  obtain ⟨_, v1, v2, hp, o1, o2, _⟩ := hI
  simp only [World.size_alloc] at hp
  have c3 : w2.cell? ⟨w.heap.size + 1 + 1, 3, none⟩ = some v1 := by simp [World.cell?, hp]
  have c4 : w2.cell? ⟨w.heap.size + 1 + 1, 4, none⟩ = some v2 := by simp [World.cell?, hp]
  have H2 : Hid (Below w.heap.size w w2) := HB.out.trans (hb.mono (by simp))
  have H1 := Lib.hid o1
  clear hp hb o1 o2
  go_wp2_with fail
  go_ret
  refine ⟨?_, H2.out⟩
  have hl : (namesS [2] (.mk op n s args)).length ≤ 1073741824 := by
    have := HN.out; have := Hn.out
    unfold namesS; simp only [List.length_nil] at *; omega
  have hlt := H1.out.lt
  obtain ⟨a', cap', rfl, hs⟩ := strs_of_own H1.out hl
  refine ⟨a', cap', rfl, hs, fun p hp => ?_⟩
  have := (hlt p.block (by rw [hp]; rfl)).1
  simp only [World.size_alloc] at this
  omega
set_option maxRecDepth 100000 in
set_option maxHeartbeats 16000000 in
theorem below_any (d : DesD) (x : DesA) (nm : ByteArray) (g cap base : Nat) (w : World) (hE : ∀ W, Below base w W → DesIn W d x) (hs : DesSmall d) (he : d.err = 0) (hn : (idxT d.names nm).isSome = true)
    (ho : w.ownsRow base 9 1 (.slice (some ⟨g, 0, none⟩) 1 cap) 1 [.string nm]) (hb : base ≤ w.heap.size) :
    Calls Tryz.prog 45 #[desVal d x, .slice (some ⟨g, 0, none⟩) 1 cap] w fun e w' => (∃ R a c, e = .returned (.slice a R.length c) ∧ StrsIn w' R a c ∧ BelInv d nm R R.length ∧ R.length ≤ 48) ∧ Below base w w' := by
  have hd := desOk_of_err he
  have hgl := (ho.lt g rfl).2
  have HI0 := Lib.hid (BelInv.start (d := d) hn)
  have H48 : Hid (∀ R k, BelInv d nm R k → R.length ≤ 48) := fun R k h => Nat.le_trans h.len hd.len
  have HWi0 := Lib.hid (fun s W (hW : Below base w W) => wire_any d x s W (hE W hW))
  have HWv : Hid (∀ s, (d.wireIdx s = none ∧ d.wireI s = -1) ∨ ∃ k, d.wireIdx s = some k ∧ k < d.wires.length ∧ d.wireI s = (k : Int)) := fun s => by
    unfold DesD.wireI
    cases h : d.wireIdx s with
    | none => exact Or.inl ⟨rfl, rfl⟩
    | some k => exact Or.inr ⟨k, rfl, wireIdx_lt h, rfl⟩
  have HWr := Lib.hid (fun W (hW : Below base w W) => (hE W hW).wires)
  have hwl := (hE w (Below.refl _ _)).wires.2.1
  have hwc := (hE w (Below.refl _ _)).wires.1
  have HWA := Lib.hid (hE w (Below.refl _ _)).wires.addr
  have HNa : Hid (∀ q (hq : q < d.wires.length) ae ce W, ExIn W (d.wires[q]'hq).expr ae ce → Calls Tryz.prog 66 #[.agg #[.int .i64 (d.wires[q]'hq).expr.op, .int .i64 (d.wires[q]'hq).expr.n, .string (d.wires[q]'hq).expr.name, .slice ae (d.wires[q]'hq).expr.args.length ce]] W fun r w' => (∃ a' cap', r = .returned (.slice a' (namesS [2] (d.wires[q]'hq).expr).length cap') ∧ StrsIn w' (namesS [2] (d.wires[q]'hq).expr) a' cap' ∧ ∀ p : Addr, a' = some p → W.heap.size ≤ p.block) ∧ Below W.heap.size W w') := fun q hq ae ce W hX => by
    have h1 := hs.exprs _ (wire_expr hq)
    generalize (d.wires[q]'hq).expr = e at h1 hX
    obtain ⟨op, n, s, args⟩ := e
    exact rNames_fresh op n s args ae ce W hX (by omega)
  have HNk : Hid (∀ q (hq : q < d.wires.length), ∀ s ∈ namesS [2] (d.wires[q]'hq).expr, (idxT d.names s).isSome = true) := fun q hq s hs' => (hd.exprs _ (wire_expr hq)).2.2 s hs'
  clear hE hs hn he hd
  simp only [desVal, desVals] at HWi0 ⊢
  have hbs : base ≤ w.heap.size := hb
  have HW0 : Hid (BelW base w.heap.size #[.string d.name, .slice x.ai d.inputs.length x.ci, .slice x.aw d.wires.length x.cw, .slice x.ar d.regs.length x.cr, .slice x.ao d.outputs.length x.co] w g cap [nm] (w.alloc (.cells #[.string d.name, .slice x.ai d.inputs.length x.ci, .slice x.aw d.wires.length x.cw, .slice x.ar d.regs.length x.cr, .slice x.ao d.outputs.length x.co] 27))) := ⟨ho.alloc _, by omega, heap_alloc_at _ _ _ rfl, hbs, (Below.refl _ _).alloc hbs _⟩
  clear ho hb
  go_enter Tryz.func45, Tryz.ntmps45
  go_wp2_with fail
  go_loopw [5, 1] (fun i v wr => ∃ (k : Nat) (R : List ByteArray) (gr cr : Nat), i = .int .i64 k ∧ v = .slice (some ⟨gr, 0, none⟩) R.length cr ∧ k ≤ R.length ∧ R.length ≤ 48 ∧ Hid (BelInv d nm R k) ∧ Hid (BelW base w.heap.size #[.string d.name, .slice x.ai d.inputs.length x.ci, .slice x.aw d.wires.length x.cw, .slice x.ar d.regs.length x.cr, .slice x.ao d.outputs.length x.co] w gr cr R wr)) (fun i _ _ => 49 - (intOf i).toNat)
  case atStart => exact ⟨0, [nm], g, cap, rfl, rfl, Nat.zero_le _, by simp, HI0, HW0⟩
  case round =>
    obtain ⟨k, R, gr, cr, rfl, rfl, hk, h48, HI, HR⟩ := hrel
    have hcr := RowsCap HR.out.own
    by_cases hlt : k < R.length
    · have hpl := HR.out.lt
      have HS := Lib.hid (HR.out.strs (by omega))
      have c0 := HS.out.get rfl hlt
      rw [Nat.zero_add] at c0
      have hv := HWv.out (R[k]'hlt)
      have HWi := Lib.hid (fun W (hW : Below wr.heap.size wr W) => (HWi0.out (R[k]'hlt) W (HR.out.below hW).bel).mono fun e w' h => (⟨h.1, hW.trans (h.2.mono hW.size)⟩ : _ ∧ Below wr.heap.size wr w'))
      have hp := HR.out.hp
      have b0 := cell_of_blk hp 0
      have b1 := cell_of_blk hp 1
      have b2 := cell_of_blk hp 2
      have b3 := cell_of_blk hp 3
      have b4 := cell_of_blk hp 4
      simp at b0 b1 b2 b3 b4
      have e0 : ∀ g : Grow wr.heap.size wr, g.w'.cell? ⟨w.heap.size, 0, none⟩ = some (.string d.name) := Grow.old b0 (Nat.le_refl _)
      have e1 : ∀ g : Grow wr.heap.size wr, g.w'.cell? ⟨w.heap.size, 1, none⟩ = some (.slice x.ai d.inputs.length x.ci) := Grow.old b1 (Nat.le_refl _)
      have e2 : ∀ g : Grow wr.heap.size wr, g.w'.cell? ⟨w.heap.size, 2, none⟩ = some (.slice x.aw d.wires.length x.cw) := Grow.old b2 (Nat.le_refl _)
      have e3 : ∀ g : Grow wr.heap.size wr, g.w'.cell? ⟨w.heap.size, 3, none⟩ = some (.slice x.ar d.regs.length x.cr) := Grow.old b3 (Nat.le_refl _)
      have e4 : ∀ g : Grow wr.heap.size wr, g.w'.cell? ⟨w.heap.size, 4, none⟩ = some (.slice x.ao d.outputs.length x.co) := Grow.old b4 (Nat.le_refl _)
      have e5 : ∀ g : Grow wr.heap.size wr, g.w'.cell? ⟨gr, k, none⟩ = some (.string (R[k]'hlt)) := Grow.old c0 (Nat.le_refl _)
      clear b0 b1 b2 b3 b4 c0 hp
      rcases hv with ⟨hw, hv⟩ | ⟨q, hw, hq, hv⟩
      · have HI1 := Lib.hid (HI.out.next hlt (fun q _ h => by rw [hw] at h; simp at h))
        rw [hv] at HWi
        clear hw hv
        generalize (R[k]'hlt) = s at e5 HWi
        go_wp2_with fail
        (refine wp_region_grow (B := wr.heap.size) (w0 := wr) (by kernel_rfl) (by kernel_rfl) (by repeat (first | assumption | exact Below.refl _ _ | refine Below.drew ?_ | refine below_drewN ?_ _ | refine Below.alloc ?_ (by first | omega | (simp only [World.size_alloc, World.size_setCell, World.size_drew, World.heap_drewN] <;> omega) | (simp <;> omega)) _ | refine Below.setCell ?_ (by first | omega | (simp only [World.size_alloc, World.size_setCell, World.size_drew, World.heap_drewN] <;> omega) | (simp <;> omega)) _)) ?_; (repeat (go_big_quiet_step ((go_at_call 46; (with_reducible exact grow_call (HWi.out _ (Grow.h _))))))); refine wpQuiet_nil ?_; intro wg hCg; have hbg := grow_out hCg; clear hCg)
        have HRg := Lib.hid (HR.out.below hbg)
        go_wp2_with fail
        go_roundw
        case rel => exact ⟨k + 1, R, gr, cr, by go_num, rfl, by omega, h48, HI1, HRg⟩
        case measure => (simp [intOf]; try omega)
      · have HNx : Hid (∀ R', (∃ E, R' = R ++ E) → BelInv d nm R' k → (∀ s ∈ namesS [2] (d.wires[q]'hq).expr, InR R' s) → k < R'.length ∧ BelInv d nm R' (k + 1)) := fun R' ⟨E, hE⟩ h hc => by
          have hk' : k < R'.length := by rw [hE, List.length_append]; omega
          refine ⟨hk', h.next hk' (fun q' hq' hw' => ?_)⟩
          have e : R'[k]'hk' = R[k]'hlt := by
            subst hE
            rw [List.getElem_append_left hlt]
          rw [e, hw] at hw'
          obtain rfl := Option.some.inj hw'
          exact hc
        rw [hv] at HWi
        clear hw hv
        generalize (R[k]'hlt) = s at e5 HWi
        have hd0 : decide ((q : Int) < 0) = false := decide_eq_false (by omega)
        go_wp2_with fail
        (refine wp_region_grow (B := wr.heap.size) (w0 := wr) (by kernel_rfl) (by kernel_rfl) (by repeat (first | assumption | exact Below.refl _ _ | refine Below.drew ?_ | refine below_drewN ?_ _ | refine Below.alloc ?_ (by first | omega | (simp only [World.size_alloc, World.size_setCell, World.size_drew, World.heap_drewN] <;> omega) | (simp <;> omega)) _ | refine Below.setCell ?_ (by first | omega | (simp only [World.size_alloc, World.size_setCell, World.size_drew, World.heap_drewN] <;> omega) | (simp <;> omega)) _)) ?_; (repeat (go_big_quiet_step ((go_at_call 46; (with_reducible exact grow_call (HWi.out _ (Grow.h _))))))); refine wpQuiet_nil ?_; intro wg hCg; have hbg := grow_out hCg; clear hCg)
        have HRg := Lib.hid (HR.out.below hbg)
        have hzg := HRg.out.lt
        obtain ⟨bw, ow, haw⟩ := HWA.out.resolve_left (by omega)
        obtain ⟨ae, ce, g0, g1, g2, g3, g4, g5, hX⟩ := (HWr.out wg HRg.out.bel).get haw hq
        have HN1 := Lib.hid (HNa.out q hq ae ce wg hX)
        have HNk1 := Lib.hid (HNk.out q hq)
        have b2 := cell_of_blk HRg.out.hp 2
        simp at b2
        rw [haw] at b2
        clear g0 g1 hX e0 e1 e2 e3 e4 e5 haw hbg
        generalize namesS [2] (d.wires[q]'hq).expr = N2 at HN1 HNx HNk1
        generalize (d.wires[q]'hq).expr = ex at HN1 g2 g3 g4 g5
        have hqi : (q : Int) < (d.wires.length : Int) := by omega
        go_wp2_with fail
        refine HN1.out.mono ?_
        rintro r w1 ⟨⟨an, cn, rfl, hst, hfr⟩, hb1⟩
        have HNe0 : Hid (∀ p : Addr, an = some p → p.block ≠ gr) := fun p hp => by
          have h1 := hfr p hp
          have h2 := (HRg.out.own.lt gr rfl).2
          omega
        have HR1 := Lib.hid (HRg.out.below hb1)
        have HS2 := Lib.hid hst
        have HSA2 := Lib.hid (SliceIn.addr hst)
        have hln := hst.2.1
        clear hst hb1 HN1 hfr b2 g2 g3 g4 g5
        go_wp2_with fail
        go_loopw [8, 1] (fun j v wr2 => ∃ (m : Nat) (R' : List ByteArray) (gr' cr' : Nat), j = .int .i64 m ∧ v = .slice (some ⟨gr', 0, none⟩) R'.length cr' ∧ m ≤ N2.length ∧ R'.length ≤ 48 ∧ k ≤ R'.length ∧ Hid (∃ E, R' = R ++ E) ∧ Hid (BelInv d nm R' k) ∧ Hid (∀ i (hi : i < N2.length), i < m → InR R' (N2[i]'hi)) ∧ Hid (BelW base w.heap.size #[.string d.name, .slice x.ai d.inputs.length x.ci, .slice x.aw d.wires.length x.cw, .slice x.ar d.regs.length x.cr, .slice x.ao d.outputs.length x.co] w gr' cr' R' wr2) ∧ Hid (StrsIn wr2 N2 an cn) ∧ Hid (∀ p : Addr, an = some p → p.block ≠ gr')) (fun j _ _ => N2.length - (intOf j).toNat)
        case atStart => exact ⟨0, R, gr, cr, rfl, rfl, Nat.zero_le _, h48, hk, ⟨[], by simp⟩, HI, fun _ _ h => absurd h (by omega), HR1, HS2, HNe0⟩
        case round =>
          obtain ⟨m, R', gr', cr', rfl, rfl, hm, h48', hk', HE, HI', HF, HR', HS', HNe⟩ := hrel
          have hcr' := RowsCap HR'.out.own
          have hpl' := HR'.out.lt
          by_cases hlt2 : m < N2.length
          · obtain ⟨bn, on, han⟩ := HSA2.out.resolve_left (by omega)
            subst han
            have c0 := HS'.out.get rfl hlt2
            have HIx := Lib.hid (index_any R' (some ⟨gr', 0, none⟩) cr' (N2[m]'hlt2) wr (HR'.out.strs (by omega)))
            have hmem := HNk1.out _ (List.getElem_mem hlt2)
            have HF2 : Hid (∀ R2, (∃ E, R2 = R' ++ E) → InR R2 (N2[m]'hlt2) → ∀ i (hi : i < N2.length), i < m + 1 → InR R2 (N2[i]'hi)) := fun R2 ⟨E, hE⟩ h i hi him => by
              by_cases e : i = m
              · subst e; exact h
              · subst hE; exact (HF.out i hi (by omega)).append
            cases hx : idxT R' (N2[m]'hlt2) with
            | some t =>
              have HF3 := Lib.hid (HF2.out R' ⟨[], by simp⟩ (inR_iff.2 (by rw [hx]; rfl)))
              have e : idxI R' (N2[m]'hlt2) = (t : Int) := by unfold idxI; rw [hx]
              rw [e] at HIx
              have hd1 : decide ((t : Int) < 0) = false := decide_eq_false (by omega)
              clear hx e hmem HF2
              generalize (N2[m]'hlt2) = s2 at c0 HIx
              go_wp2_with fail
              refine HIx.out.mono ?_
              rintro e w4 ⟨rfl, rfl⟩
              go_wp2_with fail
              go_roundw
              case rel => exact ⟨m + 1, R', gr', cr', by go_num, rfl, by omega, h48', hk', HE, HI', HF3, HR', HS', HNe⟩
              case measure => (simp [intOf]; try omega)
            | none =>
              have HP := Lib.hid (HI'.out.push hk' hmem hx)
              have h49 := H48.out _ _ HP.out
              have HF3 := Lib.hid (HF2.out (R' ++ [N2[m]'hlt2]) ⟨_, rfl⟩ ⟨_, List.mem_append_right _ (List.mem_singleton.2 rfl), rfl⟩)
              have e : idxI R' (N2[m]'hlt2) = -1 := by unfold idxI; rw [hx]
              rw [e] at HIx
              have hkn : R'.length ≤ 1073741824 := by omega
              have HPu := Lib.hid (fun w1 g' cap' => HR'.out.push (s := N2[m]'hlt2) (w1 := w1) (g' := g') (cap' := cap'))
              clear hx e hmem HF2
              generalize (N2[m]'hlt2) = s2 at c0 HIx HP h49 HF3 HPu
              go_wp2_with fail
              refine HIx.out.mono ?_
              rintro e w4 ⟨rfl, rfl⟩
              go_wp2_with (at_builtin; go_must (refine own_appx elemS _ rfl (.tmp 43) (.tmp 48) rfl base (.slice (some ⟨gr', 0, none⟩) R'.length cr') R'.length (R'.map Value.string) rfl HR'.out.own [.string s2] 1 _ 1 rfl (by simp [Value.oneCell']) rfl (by first | rfl | simp) (by omega) (by omega) (by first | omega | (simp only [World.size_alloc, World.size_setCell, World.size_drew, World.heap_drewN] <;> omega) | (simp <;> omega)) ?_))
              intro g' cap' w5 ho hg hat
              have HR5 := Lib.hid (HPu.out w5 g' cap' ho hg hat)
              have HS5 : Hid (StrsIn w5 N2 (some ⟨bn, on, none⟩) cn) := (HS'.out.keep (keeps_of_below ((Below.refl _ _).alloc (Nat.le_refl _) _))).grownB HNe.out hg
              have HNe5 : Hid (∀ p : Addr, some (⟨bn, on, none⟩ : Addr) = some p → p.block ≠ g') := fun p hp => by
                rcases hat with hat | hat
                · have e1 : gr' = g' := Option.some.inj hat
                  rw [← e1]; exact HNe.out p hp
                · have h1 := World.block_lt_of_cell? _ _ c0
                  rw [← Option.some.inj hp]
                  simp only at h1 ⊢
                  omega
              clear ho hg hat c0
              go_wp2_with fail
              go_roundw
              case rel => exact ⟨m + 1, R' ++ [s2], g', cap', by go_num, by simp, by omega, h49, by simp; omega, (by obtain ⟨E, hE⟩ := HE.out; exact ⟨E ++ [s2], by rw [hE, List.append_assoc]⟩), HP, HF3, HR5, HS5, HNe5⟩
              case measure => (simp [intOf]; try omega)
          · obtain rfl : m = N2.length := by omega
            obtain ⟨hk2, hI2⟩ := HNx.out R' HE.out HI'.out (fun s hs => by
              obtain ⟨i, hi, rfl⟩ := List.getElem_of_mem hs
              exact HF.out i hi hi)
            have HI2 := Lib.hid hI2
            clear hI2
            go_wp2_with fail
            go_roundw
            case rel => exact ⟨k + 1, R', gr', cr', by go_num, rfl, by omega, h48', HI2, HR'⟩
            case measure => (simp [intOf]; try omega)
    · obtain rfl : k = R.length := by omega
      go_wp2_with fail
      go_ret
      exact ⟨⟨R, _, _, rfl, HR.out.strs (by omega), HI.out, h48⟩, HR.out.bel⟩
end Go.Proofs.YteaeemkodbodmaaGreatDoor
