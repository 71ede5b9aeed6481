/- soft: copied. -/
import Derived.Test.YtgdphjgedhadoaaGreatDoorSC
import Derived.Test.YtgdphjgedhadoaaGreatDoorSB
import Derived.Test.YtgdphjgedhadoaaGreatDoorSD
import Derived.Test.YtgdphjgedhadoaaGreatDoorSJ
import Derived.Test.YtgdphjgedhadoaaGreatDoorKT
set_option linter.unusedSimpArgs false
set_option linter.unusedVariables false
set_option linter.unnecessarySimpa false
namespace Go.Proofs.YtgdphjgedhadoaaGreatDoor
open Go.RowKit
attribute [local go_sem ↓] Go.wp_at_zero Go.wp_at_succ

theorem set_same {α : Type} {xs : List α} {j : Nat} {v : α} (h : xs[j]? = some v) : xs.set j v = xs := by
  obtain ⟨hj, hv⟩ := List.getElem?_eq_some_iff.1 h
  subst hv
  exact List.set_getElem_self hj
theorem put_blk {w : World} {g : Nat} {xs : List Value} {t : TypeId} (h : w.heap[g]? = some (.cells xs.toArray t (0, 0))) (j : Nat) (v : Value) : (w.setCell ⟨g, j, none⟩ v).heap[g]? = some (.cells (xs.set j v).toArray t (0, 0)) := by
  have h1 := heap_setCell_same _ _ j _ _ v h
  simpa using h1
/-- a row of expressions, the first k of which lie in the blocks S, the others where they lay at first -/
def CRow (S : Nat → Prop) (w0 : World) (k : Nat) (w : World) (l : List Ex) (xs : List Value) : Prop := xs.length = l.length * 4 ∧ ∀ i (h : i < l.length), ∃ a cap, xs[i * 4]? = some (.int .i64 (l[i]'h).op) ∧ xs[i * 4 + 1]? = some (.int .i64 (l[i]'h).n) ∧ xs[i * 4 + 2]? = some (.string (l[i]'h).name) ∧ xs[i * 4 + 3]? = some (.slice a (l[i]'h).args.length cap) ∧ (i < k → ExOn S w (l[i]'h) a cap) ∧ (k ≤ i → ExIn w0 (l[i]'h) a cap)
theorem crow_start {S : Nat → Prop} {w0 w : World} {l : List Ex} {xs : List Value} (h : ExRow w0 l xs) : CRow S w0 0 w l xs := ⟨h.1, fun i hi => by
  obtain ⟨a, c, h0, h1, h2, h3, h4⟩ := h.2 i hi
  exact ⟨a, c, h0, h1, h2, h3, fun h => absurd h (by omega), fun _ => h4⟩⟩
theorem CRow.step {S : Nat → Prop} {w0 : World} {k : Nat} {w w2 : World} {l : List Ex} {xs : List Value} (h : CRow S w0 k w l xs) (hk : k < l.length) {a : Option Addr} {c : Nat} (hx : ExOn S w2 (l[k]'hk) a c) (hag : Agree S w w2) :
    CRow S w0 (k + 1) w2 l ((((xs.set (k * 4) (.int .i64 (l[k]'hk).op)).set (k * 4 + 1) (.int .i64 (l[k]'hk).n)).set (k * 4 + 2) (.string (l[k]'hk).name)).set (k * 4 + 3) (.slice a (l[k]'hk).args.length c)) := by
  obtain ⟨a0, c0, g0, g1, g2, g3, _, _⟩ := h.2 k hk
  rw [set_same g0, set_same g1, set_same g2]
  refine ⟨by rw [List.length_set]; exact h.1, fun i hi => ?_⟩
  obtain ⟨a1, c1, q0, q1, q2, q3, q4, q5⟩ := h.2 i hi
  by_cases e : i = k
  · subst e
    refine ⟨a, c, ?_, ?_, ?_, ?_, fun _ => hx, fun h9 => absurd h9 (by omega)⟩
    · rw [List.getElem?_set_ne (by omega)]; exact q0
    · rw [List.getElem?_set_ne (by omega)]; exact q1
    · rw [List.getElem?_set_ne (by omega)]; exact q2
    · rw [List.getElem?_set_self (by have := h.1; omega)]
  · refine ⟨a1, c1, ?_, ?_, ?_, ?_, fun h9 => (q4 (by omega)).keep hag, fun h9 => q5 (by omega)⟩
    · rw [List.getElem?_set_ne (by omega)]; exact q0
    · rw [List.getElem?_set_ne (by omega)]; exact q1
    · rw [List.getElem?_set_ne (by omega)]; exact q2
    · rw [List.getElem?_set_ne (by omega)]; exact q3
theorem CRow.all {S : Nat → Prop} {w0 w : World} {l : List Ex} {xs : List Value} (h : CRow S w0 l.length w l xs) : ExRowOn S w l xs := fun w' hw => ⟨h.1, fun i hi => by
  obtain ⟨a, c, h0, h1, h2, h3, h4, _⟩ := h.2 i hi
  exact ⟨a, c, h0, h1, h2, h3, h4 hi w' hw⟩⟩
theorem CRow.keep {S : Nat → Prop} {w0 : World} {k : Nat} {w w2 : World} {l : List Ex} {xs : List Value} (h : CRow S w0 k w l xs) (hag : Agree S w w2) : CRow S w0 k w2 l xs := ⟨h.1, fun i hi => by
  obtain ⟨a, c, h0, h1, h2, h3, h4, h5⟩ := h.2 i hi
  exact ⟨a, c, h0, h1, h2, h3, fun h => (h4 h).keep hag, h5⟩⟩
set_option maxRecDepth 100000 in
set_option maxHeartbeats 16000000 in
theorem copied_any (e : Ex) : ∀ (ea : Option Addr) (ec : Nat) (w : World), ExIn w e ea ec →
    Calls Tryz.prog 73 #[exVal e ea ec] w fun r w' => ExRet w e r w' := by
  induction e using Ex.ind with
  | h e ih =>
    intro ea ec w hX
    obtain ⟨op, n, s, args⟩ := e
    have hsz := hX.1
    have hE := hX.2
    simp only [Ex.name_mk, Ex.args_mk] at hsz hE ih
    have HIH := Lib.hid ih
    have hlen := hE.2.1
    obtain ⟨xs, hxl, hxr, hx1, hxc⟩ := hE.rowOn
    have HXr := Lib.hid (hxr w (fun _ _ _ h => h))
    have HX1 := Lib.hid hx1
    have HXc := Lib.hid (fun W (hW : Below w.heap.size w W) => (show args.length = 0 ∨ ∃ ad, ea = some ad ∧ ∀ j v, xs[j]? = some v → W.cell? (ad.add j) = some v from by
      rcases hxc with h | ⟨b, off, h1, h2⟩
      · exact Or.inl h
      · refine Or.inr ⟨_, h1, fun j u hu => ?_⟩
        have hadd : (⟨b, off, none⟩ : Addr).add j = ⟨b, off + j, none⟩ := by unfold Addr.add; split <;> simp_all
        rw [hadd]
        exact keeps_of_below hW _ _ (h2 j u hu)))
    have Hsz := Lib.hid hsz
    clear hX hE ih hxr hx1 hxc hsz
    simp only [exVal, Ex.op_mk, Ex.n_mk, Ex.name_mk, Ex.args_mk]
    have hsz4 : (Tryz.prog.info? 57).map (·.size) = some 4 := by kernel_rfl
    go_enter Tryz.func73, Tryz.ntmps73
    go_wp2_with (at_make; go_must (refine make_blk elemEx rfl (.tmp 7) (.tmp 7) rfl args.length _ rfl rfl (by simp) (by omega) ?_))
    intro cur hcur
    generalize hW3 : ((w.alloc (.cells #[.int .i64 op, .int .i64 n, .string s, .slice ea args.length ec] 57)).alloc (.cells #[.int .i64 0, .int .i64 0, .string ⟨#[]⟩, .slice none 0 0] 57)).alloc (.cells cur.toArray 57) = W3
    have hz3 : W3.heap.size = w.heap.size + 3 := by rw [← hW3]; simp
    have HB3 : Hid (Below w.heap.size w W3) := by show Below _ _ _; rw [← hW3]; exact (by repeat (first | assumption | exact Below.refl _ _ | refine Below.drew ?_ | refine below_drewN ?_ _ | refine Below.alloc ?_ (by first | omega | (simp only [World.size_alloc, World.size_setCell, World.size_drew, World.heap_drewN] <;> omega) | (simp <;> omega)) _ | refine Below.setCell ?_ (by first | omega | (simp only [World.size_alloc, World.size_setCell, World.size_drew, World.heap_drewN] <;> omega) | (simp <;> omega)) _))
    have HX3 : Hid (W3.heap[w.heap.size]? = some (.cells #[.int .i64 op, .int .i64 n, .string s, .slice ea args.length ec] 57 (0, 0))) := by
      show _ = _; rw [← hW3]
      exact (Below.heap_alloc _ _ _ (by simp only [World.size_alloc]; omega)).trans ((Below.heap_alloc _ _ _ (by simp)).trans (heap_alloc_new' _ _))
    have HR3 : Hid (W3.heap[w.heap.size + 1]? = some (.cells #[.int .i64 0, .int .i64 0, .string ⟨#[]⟩, .slice none 0 0] 57 (0, 0))) := by
      show _ = _; rw [← hW3]
      exact (Below.heap_alloc _ _ _ (by simp)).trans (heap_alloc_at _ _ _ (by simp))
    have HG3 : Hid (W3.heap[w.heap.size + 1 + 1]? = some (.cells cur.toArray 57 (0, 0))) := by
      show _ = _; rw [← hW3]
      exact heap_alloc_at _ _ _ (by simp)
    clear hW3
    have x3 : W3.cell? ⟨w.heap.size, 3, none⟩ = some (.slice ea args.length ec) := by simp [World.cell?, HX3.out]
    have HP1 : Hid (0 < args.length → (some ⟨w.heap.size + 1 + 1, 0, none⟩ : Option Addr) = some ⟨w.heap.size + 1 + 1, 0, none⟩ ∧ ∃ ad, ea = some ad ∧ ∀ j v, xs[j]? = some v → W3.cell? (ad.add j) = some v) := fun h => ⟨rfl, (HXc.out W3 HB3.out).resolve_left (by omega)⟩
    go_wp2_with (refine copy_rows rfl (.tmp 9) (.tmp 11) 23 23 rfl 57 4 elemEx.1 hsz4 _ _ _ _ _ _ rfl rfl (w.heap.size + 1 + 1) 0 cur 57 HG3.out xs args.length (Nat.min_self _) hxl HP1.out (by omega) HX1.out (w.heap.size + 1 + 1) W3 (Below.refl _ _) (Nat.le_refl _) ?_)
    intro w4 HK4 hb4
    have hsp : splice cur 0 xs = xs := by
      unfold splice
      rw [List.take_zero, List.nil_append, Nat.zero_add, List.drop_of_length_le (by omega), List.append_nil]
    rw [hsp] at HK4
    have HB4 := Lib.hid hb4
    have hz4 := hb4.size
    clear hsp hb4 x3
    go_wp2_with fail
    go_loopw [15, 4] (fun i _ wr => ∃ (k : Nat) (ys : List Value), i = .int .i64 k ∧ k ≤ args.length ∧ Hid (wr.heap[w.heap.size + 1 + 1]? = some (.cells ys.toArray 57 (0, 0))) ∧ Hid (CRow (w.heap.size + 1 + 1 < ·) w k wr args ys) ∧ Below (w.heap.size + 1 + 1) W3 wr) (fun i _ _ => args.length - (intOf i).toNat)
    case atStart => exact ⟨0, xs, rfl, Nat.zero_le _, HK4.out, crow_start HXr.out, HB4.out⟩
    case round =>
      obtain ⟨k, ys, rfl, hk, HK, HC, hB⟩ := hrel
      have HB := Lib.hid hB
      have hzr := hB.size
      have HBw : Hid (Below w.heap.size w wr) := HB3.out.trans (hB.mono (by omega))
      have hx := (hB.block w.heap.size (by omega)).trans HX3.out
      have hr := (hB.block (w.heap.size + 1) (by omega)).trans HR3.out
      clear hB
      by_cases hlt : k < args.length
      · obtain ⟨a0, c0, g0, g1, g2, g3, _, hI⟩ := HC.out.2 k hlt
        have hI := hI (Nat.le_refl _)
        have HCa := Lib.hid (HIH.out _ (List.getElem_mem hlt) a0 c0 wr (hI.keep (keeps_of_below HBw.out)))
        have HSt := Lib.hid (fun w2 a c (h1 : ExOn (w.heap.size + 1 + 1 < ·) w2 (args[k]'hlt) a c) (h2 : Agree (w.heap.size + 1 + 1 < ·) wr w2) => HC.out.step hlt h1 h2)
        have d0 : wr.cell? ⟨w.heap.size + 1 + 1, k * 4, none⟩ = some (.int .i64 (args[k]'hlt).op) := by simp [World.cell?, HK.out, g0]
        have d1 : wr.cell? ⟨w.heap.size + 1 + 1, k * 4 + 1, none⟩ = some (.int .i64 (args[k]'hlt).n) := by simp [World.cell?, HK.out, g1]
        have d2 : wr.cell? ⟨w.heap.size + 1 + 1, k * 4 + 2, none⟩ = some (.string (args[k]'hlt).name) := by simp [World.cell?, HK.out, g2]
        have d3 : wr.cell? ⟨w.heap.size + 1 + 1, k * 4 + 3, none⟩ = some (.slice a0 (args[k]'hlt).args.length c0) := by simp [World.cell?, HK.out, g3]
        simp only [exVal] at HCa
        generalize (args[k]'hlt) = e9 at d0 d1 d2 d3 HCa HSt
        have hlr : w.heap.size + 1 + 1 < wr.heap.size := lt_of_block HK.out
        clear g0 g1 g2 g3 hI hx hr
        go_wp2_with (go_at_call 73; (with_reducible refine HCa.out.mono ?_); rintro r w5 ⟨a5, c5, rfl, hx5, hb5⟩; have HK5 := Lib.hid ((hb5.block _ hlr).trans HK.out); have p0 := keeps_of_below hb5 _ _ d0; have p1 := keeps_of_below hb5 _ _ d1; have p2 := keeps_of_below hb5 _ _ d2; have p3 := keeps_of_below hb5 _ _ d3; have pf : ∀ j, w5.frozen? ⟨w.heap.size + 1 + 1, j, none⟩ = false := (fun j => by simp [World.frozen?, HK5.out]); have HX5 := Lib.hid hx5; have Hb5 := Lib.hid hb5; clear hx5 hb5)
        have HN := Lib.hid (HSt.out w5 a5 c5 (HX5.out.mono (fun b h => by show w.heap.size + 1 + 1 < b; have h' : wr.heap.size ≤ b := h; omega)) (agree_below Hb5.out))
        have hng : ¬ (w.heap.size + 1 + 1 < w.heap.size + 1 + 1) := by omega
        go_roundw
        case rel => exact ⟨k + 1, _, by go_num, by omega, put_blk (put_blk (put_blk (put_blk HK5.out _ _) _ _) _ _) _ _, HN.out.keep ((((agree_set hng _ _).trans (agree_set hng _ _)).trans (agree_set hng _ _)).trans (agree_set hng _ _)), ((((HB.out.trans (Hb5.out.mono (by omega))).setCell (Nat.le_refl _) _).setCell (Nat.le_refl _) _).setCell (Nat.le_refl _) _).setCell (Nat.le_refl _) _⟩
        case measure => (simp [intOf]; try omega)
      · obtain rfl : k = args.length := by omega
        have b0 : wr.cell? ⟨w.heap.size, 0, none⟩ = some (.int .i64 op) := by simp [World.cell?, hx]
        have b1 : wr.cell? ⟨w.heap.size, 1, none⟩ = some (.int .i64 n) := by simp [World.cell?, hx]
        have b2 : wr.cell? ⟨w.heap.size, 2, none⟩ = some (.string s) := by simp [World.cell?, hx]
        have b3 : wr.cell? ⟨w.heap.size, 3, none⟩ = some (.slice ea args.length ec) := by simp [World.cell?, hx]
        have bf : ∀ j, wr.frozen? ⟨w.heap.size, j, none⟩ = false := fun j => by simp [World.frozen?, hx]
        have r0 : wr.cell? ⟨w.heap.size + 1, 0, none⟩ = some (.int .i64 0) := by simp [World.cell?, hr]
        have r1 : wr.cell? ⟨w.heap.size + 1, 1, none⟩ = some (.int .i64 0) := by simp [World.cell?, hr]
        have r2 : wr.cell? ⟨w.heap.size + 1, 2, none⟩ = some (.string ⟨#[]⟩) := by simp [World.cell?, hr]
        have r3 : wr.cell? ⟨w.heap.size + 1, 3, none⟩ = some (.slice none 0 0) := by simp [World.cell?, hr]
        have rf : ∀ j, wr.frozen? ⟨w.heap.size + 1, j, none⟩ = false := fun j => by simp [World.frozen?, hr]
        have HRb := Lib.hid hr
        clear hx hr
        go_wp2_with fail
        have hrb : (wr.setCell ⟨w.heap.size, 3, none⟩ (.slice (some ⟨w.heap.size + 1 + 1, 0, none⟩) args.length args.length)).heap[w.heap.size + 1]? = some (.cells #[.int .i64 0, .int .i64 0, .string ⟨#[]⟩, .slice none 0 0] 57 (0, 0)) := by
          rw [Below.heap_setCell _ ⟨w.heap.size, 3, none⟩ _ (w.heap.size + 1) (by show w.heap.size + 1 ≠ w.heap.size; omega)]
          exact HRb.out
        have hk4 := put4_blk hrb (.int .i64 op) (.int .i64 n) (.string s) (.slice (some ⟨w.heap.size + 1 + 1, 0, none⟩) args.length args.length)
        have hne0 : ¬ (w.heap.size + 1 + 1 < w.heap.size) := by omega
        have hne1 : ¬ (w.heap.size + 1 + 1 < w.heap.size + 1) := by omega
        have HAg : Hid (Agree (w.heap.size + 1 + 1 < ·) wr (((((wr.setCell ⟨w.heap.size, 3, none⟩ (.slice (some ⟨w.heap.size + 1 + 1, 0, none⟩) args.length args.length)).setCell ⟨w.heap.size + 1, 0, none⟩ (.int .i64 op)).setCell ⟨w.heap.size + 1, 1, none⟩ (.int .i64 n)).setCell ⟨w.heap.size + 1, 2, none⟩ (.string s)).setCell ⟨w.heap.size + 1, 3, none⟩ (.slice (some ⟨w.heap.size + 1 + 1, 0, none⟩) args.length args.length))) := (agree_set hne0 3 _).trans (agree_put4 hne1 _ _ _ _)
        have HGF : Hid ((((((wr.setCell ⟨w.heap.size, 3, none⟩ (.slice (some ⟨w.heap.size + 1 + 1, 0, none⟩) args.length args.length)).setCell ⟨w.heap.size + 1, 0, none⟩ (.int .i64 op)).setCell ⟨w.heap.size + 1, 1, none⟩ (.int .i64 n)).setCell ⟨w.heap.size + 1, 2, none⟩ (.string s)).setCell ⟨w.heap.size + 1, 3, none⟩ (.slice (some ⟨w.heap.size + 1 + 1, 0, none⟩) args.length args.length)).heap[w.heap.size + 1 + 1]? = some (.cells ys.toArray 57 (0, 0))) := by
          show _ = _
          rw [Below.heap_setCell _ ⟨w.heap.size + 1, 3, none⟩ _ _ (by show w.heap.size + 1 + 1 ≠ w.heap.size + 1; omega), Below.heap_setCell _ ⟨w.heap.size + 1, 2, none⟩ _ _ (by show w.heap.size + 1 + 1 ≠ w.heap.size + 1; omega), Below.heap_setCell _ ⟨w.heap.size + 1, 1, none⟩ _ _ (by show w.heap.size + 1 + 1 ≠ w.heap.size + 1; omega), Below.heap_setCell _ ⟨w.heap.size + 1, 0, none⟩ _ _ (by show w.heap.size + 1 + 1 ≠ w.heap.size + 1; omega), Below.heap_setCell _ ⟨w.heap.size, 3, none⟩ _ _ (by show w.heap.size + 1 + 1 ≠ w.heap.size; omega)]
          exact HK.out
        have HBF : Hid (Below w.heap.size w (((((wr.setCell ⟨w.heap.size, 3, none⟩ (.slice (some ⟨w.heap.size + 1 + 1, 0, none⟩) args.length args.length)).setCell ⟨w.heap.size + 1, 0, none⟩ (.int .i64 op)).setCell ⟨w.heap.size + 1, 1, none⟩ (.int .i64 n)).setCell ⟨w.heap.size + 1, 2, none⟩ (.string s)).setCell ⟨w.heap.size + 1, 3, none⟩ (.slice (some ⟨w.heap.size + 1 + 1, 0, none⟩) args.length args.length))) := ((((HBw.out.setCell (show w.heap.size ≤ w.heap.size by omega) _).setCell (show w.heap.size ≤ w.heap.size + 1 by omega) _).setCell (show w.heap.size ≤ w.heap.size + 1 by omega) _).setCell (show w.heap.size ≤ w.heap.size + 1 by omega) _).setCell (show w.heap.size ≤ w.heap.size + 1 by omega) _
        generalize (((((wr.setCell ⟨w.heap.size, 3, none⟩ (.slice (some ⟨w.heap.size + 1 + 1, 0, none⟩) args.length args.length)).setCell ⟨w.heap.size + 1, 0, none⟩ (.int .i64 op)).setCell ⟨w.heap.size + 1, 1, none⟩ (.int .i64 n)).setCell ⟨w.heap.size + 1, 2, none⟩ (.string s)).setCell ⟨w.heap.size + 1, 3, none⟩ (.slice (some ⟨w.heap.size + 1 + 1, 0, none⟩) args.length args.length)) = WF at hk4 HAg HGF HBF ⊢
        refine bodyPost_ret (v := .agg #[.int .i64 op, .int .i64 n, .string s, .slice (some ⟨w.heap.size + 1 + 1, 0, none⟩) args.length args.length]) (by simp [results, Tryz.results73, World.cell?, hk4, go_sem]) rfl ?_
        refine ⟨some ⟨w.heap.size + 1 + 1, 0, none⟩, args.length, rfl, fun w' hw => ⟨Hsz.out, ?_⟩, HBF.out⟩
        have ho : WF.ownsRow w.heap.size 57 4 (.slice (some ⟨w.heap.size + 1 + 1, 0, none⟩) args.length args.length) args.length ys := ⟨HC.out.1, Or.inr ⟨w.heap.size + 1 + 1, args.length, _, rfl, by omega, HGF.out, Nat.le_refl _, by unfold maxLen; omega, by simpa using HC.out.1, by simp only []; exact List.take_of_length_le (by have := HC.out.1; omega)⟩⟩
        exact exsOn_own (S := (w.heap.size ≤ ·)) (l := args) ho ((HC.out.all.keep HAg.out).mono (fun b h => by show w.heap.size ≤ b; have h' : w.heap.size + 1 + 1 < b := h; omega)) (fun g hg => (ho.lt g hg).1) hlen w' hw
end Go.Proofs.YtgdphjgedhadoaaGreatDoor

/- soft: Rules. -/
namespace Go.Proofs.YtgdphjgedhadoaaGreatDoor
open Go.RowKit
attribute [local go_sem ↓] Go.wp_at_zero Go.wp_at_succ

/-! ### plain -/
def softAt (p : ProbD) (i : Int) : Ex := (p.soft[i.toNat]?).getD (cE 0)
noncomputable def rulesTo (p : ProbD) (k : Nat) : List Ex := (p.hard ++ suppsE p) ++ ((keptI p).take k).map (softAt p)
/-- what Rules returns -/
noncomputable def rulesL (p : ProbD) : List Ex := if keptErr p = 0 then rulesTo p (keptI p).length else []
theorem rulesTo_succ {p : ProbD} {k : Nat} (h : k < (keptI p).length) : rulesTo p (k + 1) = rulesTo p k ++ [softAt p ((keptI p)[k]'h)] := by
  unfold rulesTo
  rw [List.take_succ_eq_append_getElem h, List.map_append, ← List.append_assoc]
  rfl
theorem kept_range {p : ProbD} {n : Int} (h : n ∈ keptI p) : 0 ≤ n ∧ n < p.soft.length := by
  unfold keptI at h
  split at h
  · unfold intsN at h
    obtain ⟨m, hm, rfl⟩ := List.mem_map.1 h
    have := keepS_lt _ m (List.mem_reverse.1 hm)
    omega
  · simp at h
theorem kept_len (p : ProbD) : (keptI p).length ≤ p.soft.length := by
  unfold keptI
  split
  · rw [intsN_len]
    unfold keptN
    rw [List.length_reverse]
    exact (keepS_len _ _ _ _).2
  · simp
theorem softAt_eq {p : ProbD} {n : Int} {j : Nat} (h : j < p.soft.length) (hn : n = (j : Int)) : softAt p n = p.soft[j]'h := by
  subst hn
  unfold softAt
  rw [Int.toNat_natCast, List.getElem?_eq_getElem h]
  rfl
def RulRet (p : ProbD) (w : World) (e : Ending) (w' : World) : Prop := ∃ a c, e = .returned (.tuple #[.slice a (rulesL p).length c, .int .i64 (keptErr p)]) ∧ ExsIn w' (rulesL p) a c ∧ Below w.heap.size w w'
theorem ok_of_err {p : ProbD} (h : keptErr p = 0) : ProbOk p := by
  unfold keptErr at h
  split at h
  · rename_i h1; exact pB_iff.1 h1
  · simp at h
/-! ### rows -/
theorem ExsRow.snoc {B : Nat} {w : World} {v : Value} {l : List Ex} {e : Ex} {a : Option Addr} {c : Nat} (h : ExsRow B w v l) (he : ExOn (fun k => v.ownBlock ≠ some k) w e a c) : ∃ xs, w.ownsRow B 57 4 v l.length xs ∧
    ∀ g cap w', w'.ownsRow B 57 4 (.slice (some ⟨g, 0, none⟩) (l.length + 1) cap) (l.length + 1) (xs ++ [.int .i64 e.op, .int .i64 e.n, .string e.name, .slice a e.args.length c]) → (w.alloc (.cells [.int .i64 e.op, .int .i64 e.n, .string e.name, .slice a e.args.length c].toArray 57)).grownBy w' v.ownBlock → (v.ownBlock = some g ∨ w.heap.size < g) → ExsRow B w' (.slice (some ⟨g, 0, none⟩) (l.length + 1) cap) (l ++ [e]) := by
  obtain ⟨xs, h1, h2⟩ := h
  refine ⟨xs, h1, fun g cap w' ho hg hgc => ⟨_, by rw [List.length_append]; exact ho, ?_⟩⟩
  have hr := (h2.append he.row).narrow (S' := fun k => v.ownBlock ≠ some k ∧ k < w.heap.size) (fun k h3 h4 => ⟨h3, h4⟩)
  refine (hr.keep (w' := w') ?_).mono ?_
  · intro p u hp hc
    have h3 : (w.alloc (.cells [.int .i64 e.op, .int .i64 e.n, .string e.name, .slice a e.args.length c].toArray 57)).cell? p = some u := (World.cell?_alloc_lt _ _ _ hp.2).trans hc
    rw [World.cell?_of_block (hg.block p.block (by simp; have := hp.2; omega) (fun h9 => hp.1 h9.symm))]
    exact h3
  · intro k hk h3
    have h4 : g = k := by simpa [Value.ownBlock] using h3
    subst h4
    rcases hgc with h5 | h5
    · exact hk.1 h5
    · have := hk.2; omega
theorem ExRowOn.put {S : Nat → Prop} {w : World} {l : List Ex} {xs : List Value} (h : ExRowOn S w l xs) {k : Nat} (hk : k < l.length) {a : Option Addr} {c : Nat} (hx : ExOn S w (l[k]'hk) a c) :
    ExRowOn S w l ((((xs.set (k * 4) (.int .i64 (l[k]'hk).op)).set (k * 4 + 1) (.int .i64 (l[k]'hk).n)).set (k * 4 + 2) (.string (l[k]'hk).name)).set (k * 4 + 3) (.slice a (l[k]'hk).args.length c)) := by
  intro w' hw
  have hr := h w' hw
  obtain ⟨a0, c0, g0, g1, g2, g3, _⟩ := hr.2 k hk
  rw [set_same g0, set_same g1, set_same g2]
  refine ⟨by rw [List.length_set]; exact hr.1, fun i hi => ?_⟩
  obtain ⟨a1, c1, q0, q1, q2, q3, q4⟩ := hr.2 i hi
  by_cases e : i = k
  · subst e
    refine ⟨a, c, ?_, ?_, ?_, ?_, hx w' hw⟩
    · rw [List.getElem?_set_ne (by omega)]; exact q0
    · rw [List.getElem?_set_ne (by omega)]; exact q1
    · rw [List.getElem?_set_ne (by omega)]; exact q2
    · rw [List.getElem?_set_self (by have := hr.1; omega)]
  · refine ⟨a1, c1, ?_, ?_, ?_, ?_, q4⟩
    · rw [List.getElem?_set_ne (by omega)]; exact q0
    · rw [List.getElem?_set_ne (by omega)]; exact q1
    · rw [List.getElem?_set_ne (by omega)]; exact q2
    · rw [List.getElem?_set_ne (by omega)]; exact q3
end Go.Proofs.YtgdphjgedhadoaaGreatDoor

/- soft: Rules, the walk. -/
namespace Go.Proofs.YtgdphjgedhadoaaGreatDoor
open Go.RowKit
attribute [local go_sem ↓] Go.wp_at_zero Go.wp_at_succ

set_option maxRecDepth 100000 in
set_option maxHeartbeats 16000000 in
theorem Rules_any (p : ProbD) (x : ProbA) (w : World) (hE : ProbIn w p x) (hs : ProbSmall p) (hG : Glob w) (hT : ProbOk p → bitsTo p.vars p.vars.length ≤ 10) (hd : p.dists.length ≤ 1048576) (hh : p.hard.length ≤ 1000) (hso : p.soft.length ≤ 1000) (hsu : ProbOk p → Rok p (suppsE p)) :
    Calls Tryz.prog 37 #[probVal p x] w fun e w' => RulRet p w e w' := by
  have HK0 := Lib.hid (fun W (hW : Below w.heap.size w W) => Kept_any p x W (hE.keep (keeps_of_below hW)) hs (hG.below hW) hT hd hh hso hsu)
  have HN0 := Lib.hid (fun (hp : ProbOk p) W (hW : Below w.heap.size w W) => (needed_any p x W (hE.keep (keeps_of_below hW)) hs (hG.below hW) hp hd hh).mono (R' := fun e w' => ∃ a cap, e = .returned (.slice a (p.hard ++ suppsE p).length cap) ∧ ExsRow W.heap.size w' (.slice a (p.hard ++ suppsE p).length cap) (p.hard ++ suppsE p) ∧ Below W.heap.size W w') (fun e w' h => h))
  have HKR : Hid (∀ w0 r w', KeptRet p w0 r w' → ∃ a cap, r = .returned (.tuple #[.slice a (keptI p).length cap, .int .i64 (keptErr p)]) ∧ IntsIn w' (keptI p) a cap ∧ Below w0.heap.size w0 w') := fun _ _ _ h => h
  have HOk : Hid (keptErr p = 0 → ProbOk p) := ok_of_err
  have HRn : Hid (¬ keptErr p = 0 → ∀ w', Below w.heap.size w w' → RulRet p w (.returned (.tuple #[.slice none 0 0, .int .i64 (keptErr p)])) w') := fun h w' hb => by
    have h1 : rulesL p = [] := if_neg h
    exact ⟨none, 0, by rw [h1]; rfl, by rw [h1]; exact exsIn_nil w', hb⟩
  have HRy : Hid (keptErr p = 0 → ∀ w' a c, ExsIn w' (rulesTo p (keptI p).length) a c → Below w.heap.size w w' → RulRet p w (.returned (.tuple #[.slice a (rulesTo p (keptI p).length).length c, .int .i64 0])) w') := fun h w' a c hI hb => by
    have h1 : rulesL p = rulesTo p (keptI p).length := if_pos h
    exact ⟨a, c, by rw [h1, h], by rw [h1]; exact hI, hb⟩
  have HR0 : Hid (rulesTo p 0 = p.hard ++ suppsE p) := by show _ = _; unfold rulesTo; simp
  have HRs := Lib.hid (fun k (h : k < (keptI p).length) => rulesTo_succ h)
  have HRg := Lib.hid (fun n (h : n ∈ keptI p) => kept_range h)
  have HSe := Lib.hid (fun n j (h : j < p.soft.length) (hn : n = (j : Int)) => softAt_eq h hn)
  have hkl := kept_len p
  have HRl : Hid (∀ k, k ≤ (keptI p).length → (rulesTo p k).length ≤ 1060000) := fun k hk => by
    have h1 : (rulesTo p k).length = (p.hard ++ suppsE p).length + k := by unfold rulesTo; rw [List.length_append, List.length_map, List.length_take]; omega
    rw [h1, List.length_append]
    unfold suppsE
    rw [List.length_map]
    omega
  have HSI := Lib.hid hE.soft
  rw [← HR0.out] at HN0
  clear hE hs hG hT hd hh hsu HR0
  generalize keptI p = LA at *
  generalize rulesTo p = RT at *
  generalize keptErr p = err at *
  generalize softAt p = SA at *
  generalize KeptRet p = KR at *
  generalize hOK : ProbOk p = OKp at *
  simp only [probVal_eq] at HK0 HN0 ⊢
  obtain ⟨vs, hard, soft, ds, gs⟩ := p
  obtain ⟨av, cv, ah, ch, ao, co, ad, cd, ag, cg⟩ := x
  simp only at HK0 HN0 HSI HRg HSe hkl hso ⊢
  clear hOK
  have HK := Lib.hid (HK0.out (w.alloc (.cells #[.slice av vs.length cv, .slice ah hard.length ch, .slice ao soft.length co, .slice ad ds.length cd, .slice ag gs.length cg] 27)) ((Below.refl _ _).alloc (Nat.le_refl _) _))
  clear HK0
  go_enter Tryz.func37, Tryz.ntmps37
  go_wp2_with fail
  refine HK.out.mono ?_
  rintro r w1 hr
  obtain ⟨aa, ca, rfl, hIA, hb1⟩ := HKR.out _ _ _ hr
  simp only [World.size_alloc] at hb1
  have HB1 := Lib.hid hb1
  have HIA := Lib.hid hIA
  have hz1 := hb1.size
  simp only [World.size_alloc] at hz1
  have hbw1 := boxW _ hb1
  clear hr hb1 hIA HKR HK
  by_cases he : err = 0
  · have HN := Lib.hid (HN0.out (HOk.out he) w1 hbw1)
    have HF := Lib.hid (HRy.out he)
    subst he
    clear HRn HRy HOk HN0
    ((try clear b0 b1 b2 b3 b4); have b0 := box_cell HB1.out 0; have b1 := box_cell HB1.out 1; have b2 := box_cell HB1.out 2; have b3 := box_cell HB1.out 3; have b4 := box_cell HB1.out 4; (try simp at b0 b1 b2 b3 b4))
    go_wp2_with fail
    refine HN.out.mono ?_
    rintro r w2 ⟨ra, rc, rfl, hrw, hb2⟩
    have HB2 := Lib.hid hb2
    have HR2 := Lib.hid hrw
    have hz2 := hb2.size
    clear hb2 hrw
    go_wp2_with fail
    go_loopw [22, 6, 8] (fun i v _ wr => ∃ (k : Nat), i = .int .i64 k ∧ k ≤ LA.length ∧ ExsRow w1.heap.size wr v (RT k) ∧ Below w1.heap.size w1 wr) (fun i _ _ _ => LA.length - (intOf i).toNat)
    case atStart => exact ⟨0, rfl, Nat.zero_le _, HR2.out, HB2.out⟩
    case round =>
      obtain ⟨k, rfl, hk, hrw, hB⟩ := hrel
      have HB := Lib.hid hB
      have HRw := Lib.hid hrw
      have hzr := hB.size
      have HBw := Lib.hid (hbw1.trans (hB.mono hbw1.size))
      have HBp := Lib.hid (HB1.out.trans (hB.mono (by omega)))
      clear hB hrw
      by_cases hlt : k < LA.length
      · ((try clear b0 b1 b2 b3 b4); have b0 := box_cell HBp.out 0; have b1 := box_cell HBp.out 1; have b2 := box_cell HBp.out 2; have b3 := box_cell HBp.out 3; have b4 := box_cell HBp.out 4; (try simp at b0 b1 b2 b3 b4))
        obtain ⟨ba, oa, ha⟩ := HIA.out.addr.resolve_left (by omega)
        subst ha
        have c0 := keeps_of_below HB.out _ _ (HIA.out.get rfl hlt)
        rw [getD_at hlt] at c0
        have hrg := HRg.out _ (List.getElem_mem hlt)
        have HNx := Lib.hid (HRs.out k hlt)
        have hrl := HRl.out k hk
        have HSx := Lib.hid (fun j (h : j < soft.length) (hn : LA[k]'hlt = (j : Int)) => HSe.out _ j h hn)
        generalize LA[k]'hlt = n at c0 hrg HNx HSx
        obtain ⟨j, rfl⟩ : ∃ j : Nat, n = (j : Int) := ⟨n.toNat, by omega⟩
        have hj : j < soft.length := by omega
        have hj0 : (0 : Int) ≤ (j : Int) := by omega
        have HNx := Lib.hid (HNx.out.trans (by rw [HSx.out j hj rfl]))
        obtain ⟨sb, so, hsb⟩ := HSI.out.addr.resolve_left (by omega)
        subst hsb
        obtain ⟨ea, ec, g0, g1, g2, g3, hX⟩ := HSI.out.get rfl hj
        have kk := keeps_of_below HBw.out
        have d0 := kk _ _ g0
        have d1 := kk _ _ g1
        have d2 := kk _ _ g2
        have d3 := kk _ _ g3
        have HX := Lib.hid hX
        generalize (soft[j]'hj) = e at d0 d1 d2 d3 HX HNx
        obtain ⟨va, vc, rfl, _⟩ : ∃ va vc, u6 = .slice va (RT k).length vc ∧ True := by
          obtain ⟨xs, h1, _⟩ := HRw.out
          obtain ⟨a, c, h2, _⟩ := slice_of_own h1 (by omega)
          exact ⟨a, c, h2, trivial⟩
        obtain ⟨xs, hxs, hnx⟩ := HRw.out.snoc (e := e) (a := ea) (c := ec) (fun w' hw' => HX.out.keep (fun p v h => hw' p v (fun h9 => by
          obtain ⟨xs, h1, _⟩ := HRw.out
          have h8 := (h1.lt _ h9).1
          have h7 := World.block_lt_of_cell? _ _ h
          have := hbw1.size
          omega) (keeps_of_below HBw.out _ _ h)))
        have HO := Lib.hid hxs
        have HNs := Lib.hid hnx
        clear g0 g1 g2 g3 hX kk hxs hnx
        go_wp2_with (at_builtin; go_must (refine own_appx elemEx _ rfl (.tmp 26) (.tmp 32) rfl w1.heap.size _ (RT k).length _ rfl HO.out [.int .i64 e.op, .int .i64 e.n, .string e.name, .slice ea e.args.length ec] 1 _ _ rfl (by simp [Value.oneCell']) rfl rfl (by omega) (by omega) (by omega) ?_))
        intro g cap w4 hown4 hg4 hat
        have HR4 := HNs.out g cap w4 hown4 hg4 hat
        rw [← HNx.out] at HR4
        have HR4 := Lib.hid HR4
        have HB4 := Lib.hid (Below.grown (B := w1.heap.size) (HB.out.alloc (by omega) _) hg4 (by simp; omega) (fun q hq => (HO.out.lt q hq).1))
        clear hown4 hg4 hat
        go_wp2_with fail
        go_roundw
        case rel => exact ⟨k + 1, by go_num, by omega, HR4.out, HB4.out⟩
        case measure => (simp [intOf]; try omega)
      · rename World => w3
        obtain rfl : k = LA.length := by omega
        have hrl := HRl.out LA.length (Nat.le_refl _)
        obtain ⟨va, vc, rfl, _⟩ : ∃ va vc, u6 = .slice va (RT LA.length).length vc ∧ True := by
          obtain ⟨xs, h1, _⟩ := HRw.out
          obtain ⟨a, c, h2, _⟩ := slice_of_own h1 (by omega)
          exact ⟨a, c, h2, trivial⟩
        generalize RT LA.length = L at HRw HF hrl
        go_wp2_with fail
        go_loopw [37, 9] (fun i _ wr => ∃ (k : Nat), i = .int .i64 k ∧ k ≤ L.length ∧ ExsRow w1.heap.size wr (.slice va L.length vc) L ∧ Below w1.heap.size w1 wr) (fun i _ _ => L.length - (intOf i).toNat)
        case atStart => exact ⟨0, rfl, Nat.zero_le _, HRw.out, HB.out⟩
        case round =>
          obtain ⟨k, rfl, hk2, hrw, hB⟩ := hrel
          have HBq := Lib.hid hB
          have HRq := Lib.hid hrw
          have hzq := hB.size
          have HBwq := Lib.hid (hbw1.trans (hB.mono hbw1.size))
          clear hB hrw
          by_cases hlt : k < L.length
          · obtain ⟨xs, ho, hr⟩ := HRq.out
            have HO := Lib.hid ho
            have HXr := Lib.hid hr
            obtain ⟨g, rfl, hg1⟩ : ∃ g, va = some ⟨g, 0, none⟩ ∧ w1.heap.size ≤ g := by
              rcases ho.2 with ⟨_, h2⟩ | ⟨g, c', cur, h1, h2, _⟩
              · omega
              · injection h1 with e1 _ _
                exact ⟨g, e1, h2⟩
            have hgr := (ho.lt g rfl).2
            obtain ⟨a0, c0, g0, g1, g2, g3, hI⟩ := (hr wr (fun _ _ _ h => h)).2 k hlt
            have HCa := Lib.hid (copied_any (L[k]'hlt) a0 c0 wr hI)
            have HPt := Lib.hid (fun w' (h1 : ExRowOn (fun b => (Value.slice (some ⟨g, 0, none⟩) L.length vc).ownBlock ≠ some b) w' L xs) a c (h2 : ExOn (fun b => (Value.slice (some ⟨g, 0, none⟩) L.length vc).ownBlock ≠ some b) w' (L[k]'hlt) a c) => h1.put hlt h2)
            have d0 := (ho.cellAt (k * 4) (by omega)).trans g0
            have d1 := (ho.cellAt (k * 4 + 1) (by omega)).trans g1
            have d2 := (ho.cellAt (k * 4 + 2) (by omega)).trans g2
            have d3 := (ho.cellAt (k * 4 + 3) (by omega)).trans g3
            simp only [exVal] at HCa
            generalize (L[k]'hlt) = e9 at d0 d1 d2 d3 HCa HPt
            clear g0 g1 g2 g3 hI ho hr
            go_wp2_with (go_at_call 73; (with_reducible refine HCa.out.mono ?_); rintro r w5 ⟨a5, c5, rfl, hx5, hb5⟩; have HO5 := Lib.hid (ownsRow_below HO.out hb5); have p0 := keeps_of_below hb5 _ _ d0; have p1 := keeps_of_below hb5 _ _ d1; have p2 := keeps_of_below hb5 _ _ d2; have p3 := keeps_of_below hb5 _ _ d3; have pf : ∀ j, w5.frozen? ⟨g, j, none⟩ = false := (fun j => HO5.out.frozenAt j); have HX5 := Lib.hid hx5; have Hb5 := Lib.hid hb5; clear hx5 hb5)
            have hng : ¬ ((Value.slice (some ⟨g, 0, none⟩) L.length vc).ownBlock ≠ some g) := fun h => h rfl
            have HP5 := Lib.hid (HPt.out w5 (HXr.out.keep (agree_below Hb5.out)) a5 c5 (HX5.out.mono (fun b h h9 => by
              have h8 : g = b := by simpa [Value.ownBlock] using h9
              have h' : wr.heap.size ≤ b := h
              omega)))
            go_roundw
            case rel => exact ⟨k + 1, by go_num, by omega, ⟨_, ((((HO5.out.stored _ _).1.stored _ _).1.stored _ _).1.stored _ _).1, HP5.out.keep ((((agree_set hng _ _).trans (agree_set hng _ _)).trans (agree_set hng _ _)).trans (agree_set hng _ _))⟩, ((((HBq.out.trans (Hb5.out.mono (by omega))).setCell hg1 _).setCell hg1 _).setCell hg1 _).setCell hg1 _⟩
            case measure => (simp [intOf]; try omega)
          · obtain rfl : k = L.length := by omega
            obtain ⟨fa, fc, hfv, hfI⟩ := HRq.out.ins (by omega)
            injection hfv with e1 _ e3
            subst e1 e3
            have HFn := Lib.hid (HF.out wr _ _ hfI HBwq.out)
            clear hfI
            go_wp2_with fail
            (try rw [Exit.noGoto_ret])
            go_ret2
            exact HFn.out
  · have HF := Lib.hid (HRn.out he w1 hbw1)
    have hne : (err != (0 : Int)) = true := by simpa using he
    clear he HRn HRy HN0
    go_wp2_with fail
    (try rw [Exit.noGoto_ret])
    go_ret2
    exact HF.out
end Go.Proofs.YtgdphjgedhadoaaGreatDoor
