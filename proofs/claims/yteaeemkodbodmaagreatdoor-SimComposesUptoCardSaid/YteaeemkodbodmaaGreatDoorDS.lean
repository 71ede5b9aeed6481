/- ref32: Step. -/
import Derived.Test.YteaeemkodbodmaaGreatDoorDR
set_option linter.unusedSimpArgs false
set_option linter.unusedVariables false
set_option linter.unnecessarySimpa false
namespace Go.Proofs.YteaeemkodbodmaaGreatDoor
open Go.RowKit
attribute [local go_sem ↓] Go.wp_at_zero Go.wp_at_succ

set_option maxRecDepth 100000 in
set_option maxHeartbeats 16000000 in
theorem rStep_fresh (d : DesD) (x : DesA) (l : List Int) (al : Option Addr) (cl : Nat) (inp : Sigs) (aI : Option Addr) (cI : Nat) (w : World)
    (hE : DesIn w d x) (hs : DesSmall d) (hL : IntsIn w l al cl) (hI : SigsIn w inp aI cI) :
    Calls Tryz.prog 30 #[desVal d x, .slice al l.length cl, .slice aI inp.length cI] w (fun e w' => StepPost w d l inp e w' ∧ ∀ a1 n1 c1 v2 er, e = .returned (.tuple #[.slice a1 n1 c1, v2, er]) → ∀ p, a1 = some p → w.heap.size ≤ p.block) := by
  have HSe := Lib.hid (fun W (hW : Below w.heap.size w W) => rSettle_any d x l al cl inp aI cI W (hE.below hW) hs (hL.keep (keeps_of_below hW)) (hI.keep (keeps_of_below hW)))
  unfold SettlePost at HSe
  have HFz : Hid (∀ (a0 : Option Addr) (n0 c0 : Nat) (u0 z0 : Value), (∀ p, a0 = some p → w.heap.size ≤ p.block) → ∀ a1 n1 c1 v2 er, Ending.returned (.tuple #[.slice a0 n0 c0, u0, z0]) = .returned (.tuple #[.slice a1 n1 c1, v2, er]) → ∀ p, a1 = some p → w.heap.size ≤ p.block) := fun a0 n0 c0 u0 z0 h a1 n1 c1 v2 er he p hp => by
    simp at he
    exact h p (by rw [he.1.1]; exact hp)
  have HFn : ∀ p : Addr, (none : Option Addr) = some p → w.heap.size ≤ p.block := fun p hp => by simp at hp
  have HP1 : Hid (∀ a1 c1 a cap w', d.err = 0 → d.stateB l = true → IntsIn w' (nextS d (settleS d l inp)) a1 c1 → SigsIn w' (settleS d l inp) a cap → Below w.heap.size w w' → (∀ p, a1 = some p → w.heap.size ≤ p.block) → (fun e w' => StepPost w d l inp e w' ∧ ∀ a1 n1 c1 v2 er, e = .returned (.tuple #[.slice a1 n1 c1, v2, er]) → ∀ p, a1 = some p → w.heap.size ≤ p.block) (.returned (.tuple #[.slice a1 (nextS d (settleS d l inp)).length c1, .slice a (settleS d l inp).length cap, .int .i64 0])) w') := fun a1 c1 a cap w' h1 h2 h0 h3 h4 hf => ⟨⟨Or.inl ⟨h1, h2, a1, c1, a, cap, rfl, h0, h3⟩, h4⟩, HFz.out _ _ _ _ _ hf⟩
  have HP2 : Hid (∀ w', ¬ d.err = 0 → Below w.heap.size w w' → (fun e w' => StepPost w d l inp e w' ∧ ∀ a1 n1 c1 v2 er, e = .returned (.tuple #[.slice a1 n1 c1, v2, er]) → ∀ p, a1 = some p → w.heap.size ≤ p.block) (.returned (.tuple #[.slice none 0 0, .slice none 0 0, .int .i64 d.err])) w') := fun w' h1 h2 => ⟨⟨Or.inr (Or.inl ⟨h1, rfl⟩), h2⟩, HFz.out _ _ _ _ _ HFn⟩
  have HP3 : Hid (∀ w', d.err = 0 → d.stateB l = false → Below w.heap.size w w' → (fun e w' => StepPost w d l inp e w' ∧ ∀ a1 n1 c1 v2 er, e = .returned (.tuple #[.slice a1 n1 c1, v2, er]) → ∀ p, a1 = some p → w.heap.size ≤ p.block) (.returned (.tuple #[.slice none 0 0, .slice none 0 0, .int .i64 1])) w') := fun w' h1 h2 h3 => ⟨⟨Or.inr (Or.inr ⟨h1, h2, rfl⟩), h3⟩, HFz.out _ _ _ _ _ HFn⟩
  have HR := Lib.hid hE.regs
  have HRA := Lib.hid hE.regs.addr
  have hrl := hE.regs.2.1
  have HEv0 : Hid (∀ k (hk : k < d.regs.length) env a cap ae ce W, SigsIn W env a cap → ExIn W (d.regs[k]'hk).next ae ce → Calls Tryz.prog 52 #[.agg #[.int .i64 (d.regs[k]'hk).next.op, .int .i64 (d.regs[k]'hk).next.n, .string (d.regs[k]'hk).next.name, .slice ae (d.regs[k]'hk).next.args.length ce], .slice a env.length cap] W fun e w' => e = .returned (.int .i64 (evalS env (d.regs[k]'hk).next).1) ∧ Below W.heap.size W w') := fun k hk env a cap ae ce W hS hX => by
    have h1 := hs.exprs _ (reg_expr hk)
    generalize (d.regs[k]'hk).next = e at h1 hX
    obtain ⟨op, n, s, args⟩ := e
    exact rValue_any env a cap op n s args ae ce W hS hX (by omega)
  have HCu : Hid (d.err = 0 → ∀ k (hk : k < d.regs.length) z W, Calls Tryz.prog 51 #[.int .i64 z, .int .i64 (d.regs[k]'hk).width] W fun e w' => e = .returned (.int .i64 (cutW z (d.regs[k]'hk).width)) ∧ W = w') := fun he k hk z W => by
    obtain ⟨h1, h2⟩ := reg_width (desOk_of_err he) (List.getElem_mem hk)
    generalize (d.regs[k]'hk).width = wd at h1 h2
    obtain ⟨q, rfl⟩ := Int.eq_ofNat_of_zero_le (show 0 ≤ wd by omega)
    exact rCut_any z q (by omega) W
  have HS := Lib.hid (nextS_take d (settleS d l inp))
  have HNl := Lib.hid (nextS_len d (settleS d l inp))
  generalize (fun e w' => StepPost w d l inp e w' ∧ ∀ a1 n1 c1 v2 er, e = .returned (.tuple #[.slice a1 n1 c1, v2, er]) → ∀ p, a1 = some p → w.heap.size ≤ p.block) = Po at HP1 HP2 HP3 ⊢
  clear HFz HFn
  generalize d.err = err at HSe HCu HP1 HP2 HP3
  generalize d.stateB l = sb at HSe HP1 HP3
  generalize nextS d (settleS d l inp) = NX at HS HNl HP1
  generalize settleS d l inp = SE at HSe HP1 HS
  have HM : Hid ((NX.map (Value.int .i64)).take d.regs.length = NX.map (Value.int .i64)) := List.take_of_length_le (by rw [List.length_map, HNl.out]; omega)
  generalize hM : NX.map (Value.int .i64) = M at HS HM
  have HMe := Lib.hid hM
  clear hM hE hs hL hI
  obtain ⟨nm, ins, wires, regs, outs⟩ := d
  obtain ⟨ai, ci, aw, cw, ar, cr, ao, co⟩ := x
  simp only [desVal, desVals] at HSe HR HRA hrl HEv0 HCu HS HNl HM ⊢
  have hbA : Below w.heap.size w (w.alloc (.cells #[.string nm, .slice ai ins.length ci, .slice aw wires.length cw, .slice ar regs.length cr, .slice ao outs.length co] 27)) := (by repeat (first | assumption | exact Below.refl _ _ | refine Below.drew ?_ | refine below_drewN ?_ _ | refine Below.alloc ?_ (by first | omega | (simp only [World.size_alloc, World.size_setCell, World.size_drew, World.heap_drewN] <;> omega) | (simp <;> omega)) _ | refine Below.setCell ?_ (by first | omega | (simp only [World.size_alloc, World.size_setCell, World.size_drew, World.heap_drewN] <;> omega) | (simp <;> omega)) _))
  have HS1 := Lib.hid (HSe.out _ hbA)
  clear hbA HSe
  go_enter Tryz.func30, Tryz.ntmps30
  go_wp2_with fail
  refine HS1.out.mono ?_
  rintro e w2 ⟨h, hb2⟩
  simp only [World.size_alloc] at hb2
  have HB2 := Lib.hid hb2
  have HBw2 := Lib.hid (boxW _ hb2)
  clear hb2 HS1
  rcases h with ⟨he, hb, a2, c2, rfl, hS2⟩ | ⟨he, rfl⟩ | ⟨he, hb, rfl⟩
  rotate_left
  · have HF := Lib.hid (HP2.out w2 he HBw2.out)
    have hne : (err != (0 : Int)) = true := by simpa using he
    clear he
    go_wp2_with fail
    go_ret3
    exact HF.out
  · have HF := Lib.hid (HP3.out w2 he hb HBw2.out)
    clear he hb
    go_wp2_with fail
    go_ret3
    exact HF.out
  have HP := Lib.hid (fun a1 c1 w' h0 h3 h4 hf => HP1.out a1 c1 a2 c2 w' he hb h0 h3 h4 hf)
  have HCv := Lib.hid (HCu.out he)
  have HS2 := Lib.hid hS2
  have HB20 : Hid (Below w2.heap.size w2 w2) := Below.refl _ _
  clear HP1 HP2 HP3 HCu he hb hS2
  go_wp2_with fail
  go_loopw [12, 11] (fun i v wr => ∃ k : Nat, i = .int .i64 k ∧ k ≤ regs.length ∧ Hid (wr.ownsRow w2.heap.size 3 1 v k (M.take k)) ∧ Hid (Below w2.heap.size w2 wr)) (fun i _ _ => regs.length - (intOf i).toNat)
  case atStart => exact ⟨0, rfl, Nat.zero_le _, World.ownsRow_nil _ _ _ _, HB20⟩
  case round =>
    obtain ⟨k, rfl, hk, HO, HB⟩ := hrel
    have hzr := HB.out.size
    have hkn : k ≤ 1073741824 := by omega
    obtain ⟨va, vc, hv, _⟩ := slice_of_own HO.out hkn
    subst hv
    have HBD : Hid (Below (w.heap.size + 1) (w.alloc (.cells #[.string nm, .slice ai ins.length ci, .slice aw wires.length cw, .slice ar regs.length cr, .slice ao outs.length co] 27)) wr) := HB2.out.trans (HB.out.mono (by have := HB2.out.size; simpa using this))
    by_cases hlt : k < regs.length
    · obtain ⟨b, off, ha⟩ := HRA.out.resolve_left (by omega)
      obtain ⟨ae, ce, g0, g1, g2, g3, g4, g5, g6, hX⟩ := (HR.out.keep (keeps_of_below HBw2.out)).get ha hlt
      have HALLk : Hid (∀ w', Below w2.heap.size w2 w' → w'.cell? ⟨w.heap.size, 3, none⟩ = some (.slice (some ⟨b, off, none⟩) regs.length cr) ∧ w'.cell? ⟨b, off + k * 7 + 1, none⟩ = some (.int .i64 (regs[k]'hlt).width) ∧ w'.cell? ⟨b, off + k * 7 + 3, none⟩ = some (.int .i64 (regs[k]'hlt).next.op) ∧ w'.cell? ⟨b, off + k * 7 + 4, none⟩ = some (.int .i64 (regs[k]'hlt).next.n) ∧ w'.cell? ⟨b, off + k * 7 + 5, none⟩ = some (.string (regs[k]'hlt).next.name) ∧ w'.cell? ⟨b, off + k * 7 + 6, none⟩ = some (.slice ae (regs[k]'hlt).next.args.length ce)) := fun w' h => by
        have kk := keeps_of_below h
        have b3 := box_cell HB2.out 3
        simp at b3
        rw [ha] at b3
        exact ⟨kk _ _ b3, kk _ _ g1, kk _ _ g3, kk _ _ g4, kk _ _ g5, kk _ _ g6⟩
      have HSk := Lib.hid (HS.out k hlt)
      have HVk := Lib.hid (fun W (hW : Below w2.heap.size w2 W) => (HEv0.out k hlt SE a2 c2 ae ce W (HS2.out.keep (keeps_of_below hW)) (hX.keep (keeps_of_below hW))).mono (R' := fun e w' => e = .returned (.int .i64 (evalS SE (regs[k]'hlt).next).1) ∧ W.heap.size ≤ w'.heap.size ∧ Below w2.heap.size w2 w' ∧ (Below wr.heap.size wr W → Below wr.heap.size wr w')) (fun e w' h => ⟨h.1, h.2.size, hW.trans (h.2.mono hW.size), fun hw => hw.trans (h.2.mono hw.size)⟩))
      have HCk := Lib.hid (fun z W => HCv.out k hlt z W)
      have HOk : Hid (∀ W, Below wr.heap.size wr W → W.ownsRow w2.heap.size 3 1 (.slice va k vc) k (M.take k)) := fun W hW => ownsRow_below HO.out hW
      clear g0 g1 g2 g3 g4 g5 g6 hX
      generalize (regs[k]'hlt) = e at HALLk HSk HVk HCk
      generalize (evalS SE e.next).1 = z at HSk HVk
      generalize hcv : cutW z e.width = cv at HSk
      have HCz := Lib.hid (HCk.out z)
      rw [hcv] at HCz
      clear hcv ha
      have hkl : (k : Int) < regs.length := by omega
      obtain ⟨b3, c1, c3, c4, c5, c6⟩ := HALLk.out _ HB.out
      have hB := HB.out
      have hBr : Below wr.heap.size wr wr := Below.refl _ _
      go_wp2_with fail
      go_region_held3 (fun w' => Below w2.heap.size w2 w' ∧ w'.cell? ⟨w.heap.size, 3, none⟩ = some (.slice (some ⟨b, off, none⟩) regs.length cr) ∧ w'.cell? ⟨b, off + k * 7 + 1, none⟩ = some (.int .i64 e.width) ∧ w'.cell? ⟨b, off + k * 7 + 3, none⟩ = some (.int .i64 e.next.op) ∧ w'.cell? ⟨b, off + k * 7 + 4, none⟩ = some (.int .i64 e.next.n) ∧ w'.cell? ⟨b, off + k * 7 + 5, none⟩ = some (.string e.next.name) ∧ w'.cell? ⟨b, off + k * 7 + 6, none⟩ = some (.slice ae e.next.args.length ce))
        ((refine (fun h => ⟨h, HALLk.out _ h⟩) ?_; first | assumption | exact Below.grown (by first | assumption | exact (by repeat (first | assumption | exact Below.refl _ _ | refine Below.drew ?_ | refine below_drewN ?_ _ | refine Below.alloc ?_ (by first | omega | (simp only [World.size_alloc, World.size_setCell, World.size_drew, World.heap_drewN] <;> omega) | (simp <;> omega)) _ | refine Below.setCell ?_ (by first | omega | (simp only [World.size_alloc, World.size_setCell, World.size_drew, World.heap_drewN] <;> omega) | (simp <;> omega)) _))) hgrow (by first | omega | (simp only [World.size_alloc, World.size_setCell, World.size_drew, World.heap_drewN] <;> omega) | (simp <;> omega)) (fun j hj => (HO.out.lt j hj).1) | exact (by repeat (first | assumption | exact Below.refl _ _ | refine Below.drew ?_ | refine below_drewN ?_ _ | refine Below.alloc ?_ (by first | omega | (simp only [World.size_alloc, World.size_setCell, World.size_drew, World.heap_drewN] <;> omega) | (simp <;> omega)) _ | refine Below.setCell ?_ (by first | omega | (simp only [World.size_alloc, World.size_setCell, World.size_drew, World.heap_drewN] <;> omega) | (simp <;> omega)) _))))
        (first | (go_at_call 52; (with_reducible refine (HVk.out _ (by first | assumption | exact (by repeat (first | assumption | exact Below.refl _ _ | refine Below.drew ?_ | refine below_drewN ?_ _ | refine Below.alloc ?_ (by first | omega | (simp only [World.size_alloc, World.size_setCell, World.size_drew, World.heap_drewN] <;> omega) | (simp <;> omega)) _ | refine Below.setCell ?_ (by first | omega | (simp only [World.size_alloc, World.size_setCell, World.size_drew, World.heap_drewN] <;> omega) | (simp <;> omega)) _)))).mono ?_); rintro r wn ⟨rfl, hzn, hbn, hbx⟩; (have hbr := hbx (by exact (by repeat (first | assumption | exact Below.refl _ _ | refine Below.drew ?_ | refine below_drewN ?_ _ | refine Below.alloc ?_ (by first | omega | (simp only [World.size_alloc, World.size_setCell, World.size_drew, World.heap_drewN] <;> omega) | (simp <;> omega)) _ | refine Below.setCell ?_ (by first | omega | (simp only [World.size_alloc, World.size_setCell, World.size_drew, World.heap_drewN] <;> omega) | (simp <;> omega)) _)))); (have hzr2 := hbr.size); clear hbx hzn) | (go_at_call 51; (with_reducible refine (HCz.out _).mono ?_); rintro r wn2 ⟨rfl, rfl⟩) | (refine own_step elemI (by rfl) _ _ (by rfl) w2.heap.size (.slice va k vc) k (M.take k) (by rfl) (HOk.out _ (by exact (by repeat (first | assumption | exact Below.refl _ _ | refine Below.drew ?_ | refine below_drewN ?_ _ | refine Below.alloc ?_ (by first | omega | (simp only [World.size_alloc, World.size_setCell, World.size_drew, World.heap_drewN] <;> omega) | (simp <;> omega)) _ | refine Below.setCell ?_ (by first | omega | (simp only [World.size_alloc, World.size_setCell, World.size_drew, World.heap_drewN] <;> omega) | (simp <;> omega)) _)))) [.int .i64 cv] (by rfl) (by simp [Value.oneCell']) _ 1 (by rfl) (heap_alloc_new' _ _) hkn (by first | omega | (simp only [World.size_alloc, World.size_setCell, World.size_drew, World.heap_drewN] <;> omega) | (simp <;> omega)) _ rfl ?_; intro g gcap wg hownG hgrow hatG hltG))
      all_goals
        have HXg := Lib.hid hownG
        have HBg : Hid (Below w2.heap.size w2 wg) := by
          first
            | assumption
            | exact (by assumption : Below w2.heap.size _ wg ∧ _ ∧ _).1
            | exact Below.grown (by first | assumption | exact (by repeat (first | assumption | exact Below.refl _ _ | refine Below.drew ?_ | refine below_drewN ?_ _ | refine Below.alloc ?_ (by first | omega | (simp only [World.size_alloc, World.size_setCell, World.size_drew, World.heap_drewN] <;> omega) | (simp <;> omega)) _ | refine Below.setCell ?_ (by first | omega | (simp only [World.size_alloc, World.size_setCell, World.size_drew, World.heap_drewN] <;> omega) | (simp <;> omega)) _))) hgrow (by first | omega | (simp only [World.size_alloc, World.size_setCell, World.size_drew, World.heap_drewN] <;> omega) | (simp <;> omega)) (fun j hj => (HO.out.lt j hj).1)
        clear hownG hgrow b3 c1 c3 c4 c5 c6 hB hBr
        go_wp2_with fail
        go_roundw
        case rel => exact ⟨k + 1, by go_num, by omega, (by show World.ownsRow _ _ _ _ _ _ _; rw [HSk.out]; exact HXg.out), HBg⟩
        case measure => (simp [intOf]; try omega)
    · obtain rfl : k = regs.length := by omega
      have ho := HO.out
      have HOb := Lib.hid ho.lt
      rw [HM.out, ← HMe.out, ← HNl.out] at ho
      obtain ⟨a', cap', hv, hs⟩ := ints_of_own ho (by rw [HNl.out]; exact hrl)
      rw [HNl.out] at hv
      simp only [Value.slice.injEq, true_and] at hv
      obtain ⟨rfl, rfl⟩ := hv
      have HF := Lib.hid (HP.out va vc wr hs (HS2.out.keep (keeps_of_below HB.out)) (HBw2.out.trans (HB.out.mono HBw2.out.size)) (fun p hp => by subst hp; have h1 := (HOb.out p.block rfl).1; have h2 := HBw2.out.size; omega))
      rw [HNl.out] at HF
      ((try clear b0 b1 b2 b3 b4); have b0 := box_cell HBD.out 0; have b1 := box_cell HBD.out 1; have b2 := box_cell HBD.out 2; have b3 := box_cell HBD.out 3; have b4 := box_cell HBD.out 4; (try simp at b0 b1 b2 b3 b4))
      clear ho hs
      go_wp2_with fail
      go_ret3
      exact HF.out
theorem rStep_any (d : DesD) (x : DesA) (l : List Int) (al : Option Addr) (cl : Nat) (inp : Sigs) (aI : Option Addr) (cI : Nat) (w : World)
    (hE : DesIn w d x) (hs : DesSmall d) (hL : IntsIn w l al cl) (hI : SigsIn w inp aI cI) :
    Calls Tryz.prog 30 #[desVal d x, .slice al l.length cl, .slice aI inp.length cI] w (StepPost w d l inp) := (rStep_fresh d x l al cl inp aI cI w hE hs hL hI).mono fun _ _ h => h.1
end Go.Proofs.YteaeemkodbodmaaGreatDoor

/- Runs: the rows of values in one block; plain. -/
namespace Go.Proofs.YteaeemkodbodmaaGreatDoor
open Go.RowKit
attribute [local go_sem ↓] Go.wp_at_zero Go.wp_at_succ

/-- rows of ints, rows of signals -/
def RowsD (w : World) (l : List (List Int)) (a : Option Addr) (cap : Nat) : Prop := SliceIn 1 l.length a cap (fun i b o => ∃ v, l[i]? = some v ∧ ∃ a' cap', w.cell? ⟨b, o, none⟩ = some (.slice a' v.length cap') ∧ IntsIn w v a' cap')
def SigRows (w : World) (l : List Sigs) (a : Option Addr) (cap : Nat) : Prop := SliceIn 1 l.length a cap (fun i b o => ∃ v, l[i]? = some v ∧ ∃ a' cap', w.cell? ⟨b, o, none⟩ = some (.slice a' v.length cap') ∧ SigsIn w v a' cap')
theorem RowsD.keep {w w' : World} {l : List (List Int)} {a : Option Addr} {cap : Nat} (hk : ∀ a v, w.cell? a = some v → w'.cell? a = some v) (h : RowsD w l a cap) : RowsD w' l a cap := h.mono fun _ _ _ _ ⟨v, hv, a', c', h1, h2⟩ => ⟨v, hv, a', c', hk _ _ h1, h2.keep hk⟩
theorem SigRows.keep {w w' : World} {l : List Sigs} {a : Option Addr} {cap : Nat} (hk : ∀ a v, w.cell? a = some v → w'.cell? a = some v) (h : SigRows w l a cap) : SigRows w' l a cap := h.mono fun _ _ _ _ ⟨v, hv, a', c', h1, h2⟩ => ⟨v, hv, a', c', hk _ _ h1, h2.keep hk⟩
theorem SigRows.get {w : World} {l : List Sigs} {a : Option Addr} {cap : Nat} (h : SigRows w l a cap) {b off : Nat} (ha : a = some ⟨b, off, none⟩) {i : Nat} (hi : i < l.length) : ∃ a' cap', w.cell? ⟨b, off + i, none⟩ = some (.slice a' (l[i]'hi).length cap') ∧ SigsIn w (l[i]'hi) a' cap' := by
  rcases h.2.2 with h | ⟨b', off', ha', hq⟩
  · omega
  · rw [ha] at ha'
    simp only [Option.some.injEq, Addr.mk.injEq, and_true] at ha'
    obtain ⟨rfl, rfl⟩ := ha'
    obtain ⟨e', he', hp⟩ := hq i hi
    rw [List.getElem?_eq_getElem hi] at he'
    obtain rfl := Option.some.inj he'
    rw [Nat.mul_one] at hp
    exact hp
theorem RowsD.get {w : World} {l : List (List Int)} {a : Option Addr} {cap : Nat} (h : RowsD w l a cap) {b off : Nat} (ha : a = some ⟨b, off, none⟩) {i : Nat} (hi : i < l.length) : ∃ a' cap', w.cell? ⟨b, off + i, none⟩ = some (.slice a' (l[i]'hi).length cap') ∧ IntsIn w (l[i]'hi) a' cap' := by
  rcases h.2.2 with h | ⟨b', off', ha', hq⟩
  · omega
  · rw [ha] at ha'
    simp only [Option.some.injEq, Addr.mk.injEq, and_true] at ha'
    obtain ⟨rfl, rfl⟩ := ha'
    obtain ⟨e', he', hp⟩ := hq i hi
    rw [List.getElem?_eq_getElem hi] at he'
    obtain rfl := Option.some.inj he'
    rw [Nat.mul_one] at hp
    exact hp
/-- all the values, row behind row -/
noncomputable def rowsF (d : DesD) (rows : List Sigs) (n : Nat) : List Int := (List.range (rows.length * n)).map fun j => (rowN d rows (j / n)).getD (j % n) 0
theorem rowsF_len (d : DesD) (rows : List Sigs) (n : Nat) : (rowsF d rows n).length = rows.length * n := by simp [rowsF]
theorem rowsF_at {d : DesD} {rows : List Sigs} {n t i : Nat} (ht : t < rows.length) (hi : i < n) : (rowsF d rows n)[t * n + i]? = some ((rowN d rows t).getD i 0) := by
  have h1 : t * n + i < rows.length * n := by
    have : (t + 1) * n ≤ rows.length * n := Nat.mul_le_mul (by omega) (Nat.le_refl _)
    rw [Nat.add_mul, Nat.one_mul] at this
    omega
  have h2 : (t * n + i) / n = t := by
    rw [Nat.mul_comm, Nat.mul_add_div (by omega), Nat.div_eq_of_lt hi]; rfl
  have h3 : (t * n + i) % n = i := by
    rw [Nat.mul_comm, Nat.mul_add_mod, Nat.mod_eq_of_lt hi]
  unfold rowsF
  rw [List.getElem?_map, List.getElem?_range h1]
  simp [h2, h3]
theorem rowN_len {d : DesD} (rows : List Sigs) (t : Nat) : (rowN d rows t).length = d.names.length := by
  unfold rowN
  rw [List.length_map, settle_len _ (stN_len rows t)]
/-- the first p values lie in block b -/
def ValsAt (w : World) (b : Nat) (F : List Int) (p : Nat) : Prop := ∃ L : List Value, w.heap[b]? = some (.cells L.toArray 3 (0, 0)) ∧ L.length = F.length ∧ ∀ j, j < p → L[j]? = (F[j]?).map (Value.int .i64)
theorem ValsAt.lt {w : World} {b : Nat} {F : List Int} {p : Nat} (h : ValsAt w b F p) : b < w.heap.size := by
  obtain ⟨L, h1, _⟩ := h
  exact lt_of_block h1
theorem ValsAt.eq {w w' : World} {b : Nat} {F : List Int} {p : Nat} (h : ValsAt w b F p) (hb : w'.heap[b]? = w.heap[b]?) : ValsAt w' b F p := by
  obtain ⟨L, h1, h2, h3⟩ := h
  exact ⟨L, hb.trans h1, h2, h3⟩
theorem ValsAt.keep {w w' : World} {b : Nat} {F : List Int} {p : Nat} (h : ValsAt w b F p) (hb : Below w.heap.size w w') : ValsAt w' b F p := h.eq (hb.block _ h.lt)
theorem ValsAt.cell {w : World} {b : Nat} {F : List Int} {p : Nat} (h : ValsAt w b F p) {j : Nat} (hj : j < F.length) : ∃ u, w.cell? ⟨b, j, none⟩ = some u := by
  obtain ⟨L, h1, h2, _⟩ := h
  refine ⟨L[j]'(by omega), ?_⟩
  rw [cell_of_blk h1]
  simp [show j < L.length by omega]
theorem ValsAt.free {w : World} {b : Nat} {F : List Int} {p : Nat} (h : ValsAt w b F p) (j : Nat) : w.frozen? ⟨b, j, none⟩ = false := by
  obtain ⟨L, h1, _⟩ := h
  simp [World.frozen?, h1]
theorem ValsAt.set {w : World} {b : Nat} {F : List Int} {p : Nat} (h : ValsAt w b F p) {z : Int} (hz : F[p]? = some z) : ValsAt (w.setCell ⟨b, p, none⟩ (.int .i64 z)) b F (p + 1) := by
  obtain ⟨L, h1, h2, h3⟩ := h
  have hp : p < F.length := (List.getElem?_eq_some_iff.1 hz).1
  refine ⟨L.set p (.int .i64 z), ?_, by simpa using h2, fun j hj => ?_⟩
  · rw [heap_setCell_same _ b p _ _ _ h1]
    simp
  · rw [List.getElem?_set]
    by_cases e : p = j
    · subst e
      rw [if_pos rfl, if_pos (by omega), hz]; rfl
    · rw [if_neg e]
      exact h3 j (by omega)
theorem ValsAt.ints {w : World} {b : Nat} {d : DesD} {rows : List Sigs} {n p : Nat} (h : ValsAt w b (rowsF d rows n) p) (hn : d.names.length = n) (hs : n ≤ 1073741824) {t : Nat} (ht : t < rows.length) (hp : (t + 1) * n ≤ p) : IntsIn w (rowN d rows t) (some ⟨b, t * n, none⟩) n := by
  obtain ⟨L, h1, h2, h3⟩ := h
  have hl : (rowN d rows t).length = n := by rw [rowN_len, hn]
  refine ⟨by omega, by omega, Or.inr ⟨b, t * n, rfl, fun i hi => ⟨(rowN d rows t)[i]'hi, List.getElem?_eq_getElem hi, ?_⟩⟩⟩
  rw [Nat.mul_one, cell_of_blk h1]
  have h4 := h3 (t * n + i) (by rw [Nat.add_mul, Nat.one_mul] at hp; omega)
  rw [rowsF_at ht (by omega)] at h4
  simpa [hi] using h4
/-- the slices that stand for the rows -/
def rowVs (b n m : Nat) : List Value := (List.range m).map fun t => .slice (some ⟨b, t * n, none⟩) n n
theorem rowVs_take {b n m k : Nat} (h : k < m) : (rowVs b n m).take (k + 1) = (rowVs b n m).take k ++ [.slice (some ⟨b, k * n, none⟩) n n] := by
  refine take_at ?_
  unfold rowVs
  simp [h]
theorem rows_of_own {w : World} {base b n m p : Nat} {v : Value} {d : DesD} {rows : List Sigs} (h : w.ownsRow base 30 1 v m (rowVs b n m)) (hm : rows.length = m) (hm2 : m ≤ 1073741824) (hV : ValsAt w b (rowsF d rows n) p) (hn : d.names.length = n) (hs : n ≤ 1073741824) (hp : m * n ≤ p) : ∃ a cap, v = .slice a m cap ∧ RowsD w (rowsN d rows) a cap := by
  obtain ⟨a, cap, hv, hq⟩ := slice_of_own h hm2
  have hl : (rowsN d rows).length = m := by simp [rowsN, hm]
  refine ⟨a, cap, hv, ?_⟩
  unfold RowsD
  rw [hl]
  refine hq.mono fun i b' o hi hc => ?_
  have ht : i < rows.length := by omega
  have h0 := hc 0 (by omega)
  refine ⟨rowN d rows i, by simp [rowsN, ht], some ⟨b, i * n, none⟩, n, ?_, hV.ints hn hs ht (Nat.le_trans (Nat.mul_le_mul (by omega) (Nat.le_refl _)) hp)⟩
  rw [rowN_len, hn]
  simpa [rowVs, hi] using h0
/-- 'values[t*n:(t+1)*n:(t+1)*n]' -/
theorem slice_row (bV N n t p q : Nat) (hp : p = t * n) (hq : q = (t + 1) * n) (h : q ≤ N) (W : World) :
    (Instr.sliceAt 30 (.slice (some ⟨bV, 0, none⟩) N N) (some (.int .i64 p)) (some (.int .i64 q)) (some (.int .i64 q))).run Tryz.prog W = .ok (.slice (some ⟨bV, p, none⟩) n n) W := by
  have ht : Tryz.prog.underlying 30 = some (.slice (Tryz.prog.elem 30)) := by kernel_rfl
  have hpq : q = p + n := by rw [hp, hq, Nat.add_mul, Nat.one_mul]
  rw [run_sliceAt_slice (h := ht), run_slice_lhm (ht := ht) (h0 := by omega) (h1 := by omega) (h2 := by omega) (h3 := by omega)]
  have hs : (Go.sizeOf (Tryz.prog.elem 30)).run Tryz.prog W = .ok 1 W := by kernel_rfl
  rw [hs]
  simp only [Result.andThen, sliced, Int.toNat_natCast, Nat.mul_one]
  by_cases h0 : n = 0
  · subst h0
    have : p = 0 := by rw [hp]; simp
    subst this
    simp [hpq]
  · rw [if_neg (by omega)]
    have h1 : q - p = n := by omega
    have h2 : (⟨bV, 0, none⟩ : Addr).add p = ⟨bV, p, none⟩ := by unfold Addr.add; split <;> simp_all
    simp [h1, h2]
end Go.Proofs.YteaeemkodbodmaaGreatDoor
