/- law: count, Few. -/
import Derived.Test.YtihegbjlgpghbaaGreatDoorDC
set_option linter.unusedSimpArgs false
set_option linter.unusedVariables false
set_option linter.unnecessarySimpa false
namespace Go.Proofs.YtihegbjlgpghbaaGreatDoor
open Go.RowKit

noncomputable def preN (l : List Ex) (k : Nat) : Nat := 1 + (((l.take k).map Ex.nodes).flatten).length
theorem preN_succ (l : List Ex) {k : Nat} (h : k < l.length) : preN l (k + 1) = preN l k + (l[k]'h).nodes.length := by
  unfold preN
  rw [List.take_succ_eq_append_getElem h]
  simp only [List.map_append, List.map_cons, List.map_nil, List.flatten_append, List.length_append, List.flatten_cons, List.flatten_nil, List.append_nil]
  omega
theorem preN_all (e : Ex) : preN e.args e.args.length = e.nodes.length := by
  unfold preN
  rw [Ex.nodes_eq e, List.take_of_length_le (Nat.le_refl _)]
  simp only [List.length_cons]
  omega
def CountRet (e : Ex) (n : Int) (r : Ending) : Prop := ∃ c : Int, r = .returned (.int .i64 c) ∧ 1 ≤ c ∧ c ≤ n + 1 ∧ (c ≤ n → c = e.nodes.length)
set_option maxRecDepth 100000 in
set_option maxHeartbeats 4000000 in
theorem count_any (e : Ex) : ∀ (n : Int) (a : Option Addr) (cap : Nat) (w : World), ExIn w e a cap → 0 ≤ n → n ≤ 1000 →
    Calls Tryz.prog 85 #[.agg #[.int .i64 e.op, .int .i64 e.n, .string e.name, .slice a e.args.length cap], .int .i64 n] w fun r w' => CountRet e n r ∧ Below w.heap.size w w' := by
  induction e using Ex.ind with
  | _ e ih =>
    intro n a cap w hE h0 h1
    have HE := Lib.hid hE.2
    have HA := Lib.hid hE.2.addr
    have hlen := hE.2.2.1
    have HI := Lib.hid ih
    have HAll := Lib.hid (preN_all e)
    have HSu := Lib.hid (fun k (h : k < e.args.length) => preN_succ e.args h)
    have HMem : Hid (∀ k (h : k < e.args.length), (e.args[k]'h) ∈ e.args) := fun k h => List.getElem_mem h
    clear ih hE
    unfold CountRet
    generalize e.nodes.length = N at HAll ⊢
    obtain ⟨op, nn, s, args⟩ := e
    simp only [Ex.op_mk, Ex.n_mk, Ex.name_mk, Ex.args_mk] at HE HA hlen HI HAll HSu HMem ⊢
    go_enter Tryz.func85, Tryz.ntmps85
    go_wp2_with fail
    go_loopw [6, 5] (fun i k wr => ∃ (j : Nat) (c : Int), i = .int .i64 j ∧ k = .int .i64 c ∧ j ≤ args.length ∧ 1 ≤ c ∧ c ≤ n + 1 ∧ Hid (c ≤ n → c = preN args j) ∧ Hid (Below (w.heap.size + 1) (w.alloc (.cells #[.int .i64 op, .int .i64 nn, .string s, .slice a args.length cap] 55)) wr)) (fun i _ _ => args.length - (intOf i).toNat)
    case atStart => exact ⟨0, 1, rfl, rfl, Nat.zero_le _, by omega, by omega, fun _ => by simp [preN], Below.refl _ _⟩
    case round =>
      obtain ⟨j, c, rfl, rfl, hj, hc1, hc2, HP, HB⟩ := hrel
      have HBw := Lib.hid (boxW _ HB.out)
      have hzr := HB.out.size
      simp only [World.size_alloc] at hzr
      have hzl : w.heap.size < wr.heap.size := by omega
      have b0 := box_cell HB.out 3
      (try simp at b0)
      by_cases hlt : j < args.length
      · by_cases hcn : c ≤ n
        · have hd : decide (c ≤ n) = true := decide_eq_true hcn
          obtain ⟨b, off, ha⟩ := HA.out.resolve_left (by omega)
          subst ha
          obtain ⟨a', cap', g0, g1, g2, g3, hX⟩ := HE.out.get rfl hlt
          have kk := keeps_of_below HBw.out
          have HC := Lib.hid (HI.out _ (HMem.out j hlt) (n - c) a' cap' wr (hX.keep kk) (by omega) (by omega))
          have HPs := Lib.hid (HSu.out j hlt)
          have HP' := Lib.hid (HP.out hcn)
          generalize (args[j]'hlt) = e at g0 g1 g2 g3 hX HC HPs
          obtain ⟨op', n', s', args'⟩ := e
          unfold CountRet at HC
          generalize (Ex.mk op' n' s' args').nodes.length = M at HC HPs
          simp only [Ex.op_mk, Ex.n_mk, Ex.name_mk, Ex.args_mk] at g0 g1 g2 g3 HC
          have c0 := kk _ _ g0
          have c1 := kk _ _ g1
          have c2 := kk _ _ g2
          have c3 := kk _ _ g3
          clear g0 g1 g2 g3 hX kk
          go_wp2_with fail
          refine HC.out.mono ?_
          rintro r w2 ⟨⟨d, rfl, hd1, hd2, hd3⟩, hb2⟩
          have HD := Lib.hid hd3
          have HB2 : Hid (Below (w.heap.size + 1) (w.alloc (.cells #[.int .i64 op, .int .i64 nn, .string s, .slice (some ⟨b, off, none⟩) args.length cap] 55)) w2) := HB.out.trans (hb2.mono (by simpa using hzr))
          clear hb2 c0 c1 c2 c3 b0 hd3 hd
          go_wp2_with fail
          go_roundw
          case rel => exact ⟨j + 1, c + d, by go_num, rfl, by omega, by omega, by omega, (fun h => by rw [HD.out (by omega), HP'.out, HPs.out]; omega), HB2.out⟩
          case measure => simp [intOf]; omega
        · have hd : decide (c ≤ n) = false := decide_eq_false hcn
          go_wp2_with fail
          go_ret
          exact ⟨⟨c, rfl, hc1, hc2, fun h => absurd h (by omega)⟩, HBw.out⟩
      · obtain rfl : j = args.length := by omega
        go_wp2_with fail
        go_ret
        exact ⟨⟨c, rfl, hc1, hc2, fun h => by rw [HP.out h, HAll.out]⟩, HBw.out⟩
theorem Few_any (e : Ex) (n : Int) (a : Option Addr) (cap : Nat) (w : World) (hE : ExIn w e a cap) (h0 : 0 ≤ n) (h1 : n ≤ 1000) :
    Calls Tryz.prog 38 #[.agg #[.int .i64 e.op, .int .i64 e.n, .string e.name, .slice a e.args.length cap], .int .i64 n] w fun r w' => (∃ b : Bool, r = .returned (.bool b) ∧ (b = true → (e.nodes.length : Int) ≤ n)) ∧ Below w.heap.size w w' := by
  have hB : Below w.heap.size w (w.alloc (.cells #[.int .i64 e.op, .int .i64 e.n, .string e.name, .slice a e.args.length cap] 55)) := (Below.refl _ _).alloc (Nat.le_refl _) _
  have HC := Lib.hid (count_any e n a cap _ (hE.keep (keeps_of_below hB)) h0 h1)
  have HB := Lib.hid hB
  clear hE hB
  unfold CountRet at HC
  generalize e.nodes.length = N at HC ⊢
  obtain ⟨op, nn, s, args⟩ := e
  simp only [Ex.op_mk, Ex.n_mk, Ex.name_mk, Ex.args_mk] at HC HB ⊢
  go_enter Tryz.func38, Tryz.ntmps38
  go_wp2_with fail
  refine HC.out.mono ?_
  rintro r w2 ⟨⟨d, rfl, hd1, hd2, hd3⟩, hb2⟩
  have HD := Lib.hid hd3
  have HB2 : Hid (Below w.heap.size w w2) := HB.out.trans (hb2.mono (by simp))
  clear hb2 hd3
  go_wp2_with fail
  go_ret
  exact ⟨⟨_, rfl, fun h => by have h' := of_decide_eq_true h; rw [← HD.out h']; exact h'⟩, HB2.out⟩
end Go.Proofs.YtihegbjlgpghbaaGreatDoor
