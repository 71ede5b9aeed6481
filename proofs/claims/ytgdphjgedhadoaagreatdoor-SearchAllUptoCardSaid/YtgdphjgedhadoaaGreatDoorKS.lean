/- law: ints. -/
import Derived.Test.YtgdphjgedhadoaaGreatDoorKR
import Derived.Deep.QuietTactic
import Derived.BigQuiet
set_option linter.unusedSimpArgs false
set_option linter.unusedVariables false
set_option linter.unnecessarySimpa false
namespace Go.Proofs.YtgdphjgedhadoaaGreatDoor
open Go.RowKit

theorem eq_of_all {A B : List Int} (hl : A.length = B.length) (h : ∀ j (hj : j < A.length), A[j]'hj = B[j]'(by omega)) : A = B :=
  List.ext_getElem hl (fun j h1 _ => h j h1)
theorem getD_at {A : List Int} {k : Nat} (h : k < A.length) : A.getD k 0 = A[k]'h := by rw [List.getD_eq_getElem?_getD, List.getElem?_eq_getElem h]; rfl
set_option maxRecDepth 100000 in
set_option maxHeartbeats 4000000 in
theorem ints_any (A : List Int) (aa : Option Addr) (ca : Nat) (B : List Int) (ab : Option Addr) (cb : Nat) (w : World) (hA : IntsIn w A aa ca) (hB : IntsIn w B ab cb) :
    Calls Tryz.prog 17 #[.slice aa A.length ca, .slice ab B.length cb] w fun e w' => e = .returned (.bool (decide (A = B))) ∧ Below w.heap.size w w' := by
  have HA := Lib.hid hA
  have HB := Lib.hid hB
  have HAA := Lib.hid hA.addr
  have HAB := Lib.hid hB.addr
  have hla := hA.2.1
  have hlb := hB.2.1
  clear hA hB
  by_cases hl : A.length = B.length
  · have Hl := Lib.hid hl
    have hd : ((A.length : Int) != (B.length : Int)) = false := by simp; omega
    clear hl
    go_enter Tryz.func17, Tryz.ntmps17
    go_wp2_with fail
    go_loopw [5] (fun i wr => ∃ k : Nat, i = .int .i64 k ∧ k ≤ A.length ∧ Hid (∀ j (hj : j < A.length), j < k → A[j]'hj = B[j]'(by have := Hl.out; omega)) ∧ Hid (Below w.heap.size w wr)) (fun i _ => A.length - (intOf i).toNat)
    case atStart => exact ⟨0, rfl, Nat.zero_le _, fun _ _ h => absurd h (by omega), Below.refl _ _⟩
    case round =>
      obtain ⟨k, rfl, hk, HAl, HW⟩ := hrel
      by_cases hlt : k < A.length
      · have hltb : k < B.length := by have := Hl.out; omega
        obtain ⟨ba, oa, ha⟩ := HAA.out.resolve_left (by omega)
        obtain ⟨bb, ob, hb⟩ := HAB.out.resolve_left (by omega)
        subst ha
        subst hb
        have c0 := keeps_of_below HW.out _ _ (HA.out.get rfl hlt)
        have c1 := keeps_of_below HW.out _ _ (HB.out.get rfl hltb)
        rw [getD_at hlt] at c0
        rw [getD_at hltb] at c1
        by_cases he : A[k]'hlt = B[k]'hltb
        · have HNx : Hid (∀ j (hj : j < A.length), j < k + 1 → A[j]'hj = B[j]'(by have := Hl.out; omega)) := fun j hj hjk => by
            by_cases e : j = k
            · subst e; exact he
            · exact HAl.out j hj (by omega)
          generalize A[k]'hlt = x at c0 he
          generalize B[k]'hltb = y at c1 he
          have hne : (x != y) = false := by simp [he]
          clear he
          go_wp2_with fail
          go_quiet (fail)
          go_wp2_with fail
          go_roundw
          case rel => exact ⟨k + 1, by go_num, by omega, HNx.out, below_drewN HW.out _⟩
          case measure => simp [intOf]; omega
        · have HNo : Hid (decide (A = B) = false) := decide_eq_false (fun h => he (by subst h; rfl))
          generalize A[k]'hlt = x at c0 he
          generalize B[k]'hltb = y at c1 he
          have hne : (x != y) = true := by simpa using he
          clear he
          go_wp2_with fail
          go_quiet (fail)
          go_wp2_with fail
          go_ret
          exact ⟨by rw [HNo.out]; rfl, below_drewN HW.out _⟩
      · obtain rfl : k = A.length := by omega
        have HY : Hid (decide (A = B) = true) := decide_eq_true (eq_of_all Hl.out (fun j hj => HAl.out j hj hj))
        go_wp2_with fail
        go_ret
        exact ⟨by rw [HY.out]; rfl, HW.out⟩
  · have HNo : Hid (decide (A = B) = false) := decide_eq_false (fun h => hl (by rw [h]))
    have hd : ((A.length : Int) != (B.length : Int)) = true := by simp; omega
    clear hl
    go_enter Tryz.func17, Tryz.ntmps17
    go_wp2_with fail
    go_ret
    exact ⟨by rw [HNo.out]; rfl, Below.refl _ _⟩
end Go.Proofs.YtgdphjgedhadoaaGreatDoor

/- law: count, Few. -/
namespace Go.Proofs.YtgdphjgedhadoaaGreatDoor
open Go.RowKit

noncomputable def preN (l : List Ex) (k : Nat) : Nat := 1 + (((l.take k).map Ex.nodes).flatten).length
theorem preN_succ (l : List Ex) {k : Nat} (h : k < l.length) : preN l (k + 1) = preN l k + (l[k]'h).nodes.length := by
  unfold preN
  rw [List.take_succ_eq_append_getElem h]
  simp only [List.map_append, List.map_cons, List.map_nil, List.flatten_append, List.length_append, List.flatten_cons, List.flatten_nil, List.append_nil]
  omega
theorem preN_all (e : Ex) : preN e.args e.args.length = e.nodes.length := by
  unfold preN
  rw [Ex.nodes_eq e, List.take_of_length_le (Nat.le_refl _)]
  simp only [List.length_cons]
  omega
def CountRet (e : Ex) (n : Int) (r : Ending) : Prop := ∃ c : Int, r = .returned (.int .i64 c) ∧ 1 ≤ c ∧ c ≤ n + 1 ∧ (c ≤ n → c = e.nodes.length)
set_option maxRecDepth 100000 in
set_option maxHeartbeats 4000000 in
theorem count_any (e : Ex) : ∀ (n : Int) (a : Option Addr) (cap : Nat) (w : World), ExIn w e a cap → 0 ≤ n → n ≤ 1000 →
    Calls Tryz.prog 78 #[.agg #[.int .i64 e.op, .int .i64 e.n, .string e.name, .slice a e.args.length cap], .int .i64 n] w fun r w' => CountRet e n r ∧ Below w.heap.size w w' := by
  induction e using Ex.ind with
  | _ e ih =>
    intro n a cap w hE h0 h1
    have HE := Lib.hid hE.2
    have HA := Lib.hid hE.2.addr
    have hlen := hE.2.2.1
    have HI := Lib.hid ih
    have HAll := Lib.hid (preN_all e)
    have HSu := Lib.hid (fun k (h : k < e.args.length) => preN_succ e.args h)
    have HMem : Hid (∀ k (h : k < e.args.length), (e.args[k]'h) ∈ e.args) := fun k h => List.getElem_mem h
    clear ih hE
    unfold CountRet
    generalize e.nodes.length = N at HAll ⊢
    obtain ⟨op, nn, s, args⟩ := e
    simp only [Ex.op_mk, Ex.n_mk, Ex.name_mk, Ex.args_mk] at HE HA hlen HI HAll HSu HMem ⊢
    go_enter Tryz.func78, Tryz.ntmps78
    go_wp2_with fail
    go_loopw [6, 5] (fun i k wr => ∃ (j : Nat) (c : Int), i = .int .i64 j ∧ k = .int .i64 c ∧ j ≤ args.length ∧ 1 ≤ c ∧ c ≤ n + 1 ∧ Hid (c ≤ n → c = preN args j) ∧ Hid (Below (w.heap.size + 1) (w.alloc (.cells #[.int .i64 op, .int .i64 nn, .string s, .slice a args.length cap] 57)) wr)) (fun i _ _ => args.length - (intOf i).toNat)
    case atStart => exact ⟨0, 1, rfl, rfl, Nat.zero_le _, by omega, by omega, fun _ => by simp [preN], Below.refl _ _⟩
    case round =>
      obtain ⟨j, c, rfl, rfl, hj, hc1, hc2, HP, HB⟩ := hrel
      have HBw := Lib.hid (boxW _ HB.out)
      have hzr := HB.out.size
      simp only [World.size_alloc] at hzr
      have hzl : w.heap.size < wr.heap.size := by omega
      have b0 := box_cell HB.out 3
      (try simp at b0)
      by_cases hlt : j < args.length
      · by_cases hcn : c ≤ n
        · have hd : decide (c ≤ n) = true := decide_eq_true hcn
          obtain ⟨b, off, ha⟩ := HA.out.resolve_left (by omega)
          subst ha
          obtain ⟨a', cap', g0, g1, g2, g3, hX⟩ := HE.out.get rfl hlt
          have kk := keeps_of_below HBw.out
          have HC := Lib.hid (HI.out _ (HMem.out j hlt) (n - c) a' cap' wr (hX.keep kk) (by omega) (by omega))
          have HPs := Lib.hid (HSu.out j hlt)
          have HP' := Lib.hid (HP.out hcn)
          generalize (args[j]'hlt) = e at g0 g1 g2 g3 hX HC HPs
          obtain ⟨op', n', s', args'⟩ := e
          unfold CountRet at HC
          generalize (Ex.mk op' n' s' args').nodes.length = M at HC HPs
          simp only [Ex.op_mk, Ex.n_mk, Ex.name_mk, Ex.args_mk] at g0 g1 g2 g3 HC
          have c0 := kk _ _ g0
          have c1 := kk _ _ g1
          have c2 := kk _ _ g2
          have c3 := kk _ _ g3
          clear g0 g1 g2 g3 hX kk
          go_wp2_with fail
          refine HC.out.mono ?_
          rintro r w2 ⟨⟨d, rfl, hd1, hd2, hd3⟩, hb2⟩
          have HD := Lib.hid hd3
          have HB2 : Hid (Below (w.heap.size + 1) (w.alloc (.cells #[.int .i64 op, .int .i64 nn, .string s, .slice (some ⟨b, off, none⟩) args.length cap] 57)) w2) := HB.out.trans (hb2.mono (by simpa using hzr))
          clear hb2 c0 c1 c2 c3 b0 hd3 hd
          go_wp2_with fail
          go_roundw
          case rel => exact ⟨j + 1, c + d, by go_num, rfl, by omega, by omega, by omega, (fun h => by rw [HD.out (by omega), HP'.out, HPs.out]; omega), HB2.out⟩
          case measure => simp [intOf]; omega
        · have hd : decide (c ≤ n) = false := decide_eq_false hcn
          go_wp2_with fail
          go_ret
          exact ⟨⟨c, rfl, hc1, hc2, fun h => absurd h (by omega)⟩, HBw.out⟩
      · obtain rfl : j = args.length := by omega
        go_wp2_with fail
        go_ret
        exact ⟨⟨c, rfl, hc1, hc2, fun h => by rw [HP.out h, HAll.out]⟩, HBw.out⟩
theorem Few_any (e : Ex) (n : Int) (a : Option Addr) (cap : Nat) (w : World) (hE : ExIn w e a cap) (h0 : 0 ≤ n) (h1 : n ≤ 1000) :
    Calls Tryz.prog 43 #[.agg #[.int .i64 e.op, .int .i64 e.n, .string e.name, .slice a e.args.length cap], .int .i64 n] w fun r w' => (∃ b : Bool, r = .returned (.bool b) ∧ (b = true → (e.nodes.length : Int) ≤ n)) ∧ Below w.heap.size w w' := by
  have hB : Below w.heap.size w (w.alloc (.cells #[.int .i64 e.op, .int .i64 e.n, .string e.name, .slice a e.args.length cap] 57)) := (Below.refl _ _).alloc (Nat.le_refl _) _
  have HC := Lib.hid (count_any e n a cap _ (hE.keep (keeps_of_below hB)) h0 h1)
  have HB := Lib.hid hB
  clear hE hB
  unfold CountRet at HC
  generalize e.nodes.length = N at HC ⊢
  obtain ⟨op, nn, s, args⟩ := e
  simp only [Ex.op_mk, Ex.n_mk, Ex.name_mk, Ex.args_mk] at HC HB ⊢
  go_enter Tryz.func43, Tryz.ntmps43
  go_wp2_with fail
  refine HC.out.mono ?_
  rintro r w2 ⟨⟨d, rfl, hd1, hd2, hd3⟩, hb2⟩
  have HD := Lib.hid hd3
  have HB2 : Hid (Below w.heap.size w w2) := HB.out.trans (hb2.mono (by simp))
  clear hb2 hd3
  go_wp2_with fail
  go_ret
  exact ⟨⟨_, rfl, fun h => by have h' := of_decide_eq_true h; rw [← HD.out h']; exact h'⟩, HB2.out⟩
end Go.Proofs.YtgdphjgedhadoaaGreatDoor

/- law: few. -/
namespace Go.Proofs.YtgdphjgedhadoaaGreatDoor
open Go.RowKit

structure FewOk (p : ProbD) (l : List Ex) : Prop where
  len : l.length ≤ 6
  vars : p.vars.length ≤ 20
  hard : p.hard.length ≤ 12
  soft : p.soft.length ≤ 12
  exs : ∀ i (h : i < l.length), (l[i]'h).nodes.length ≤ 40
  hards : ∀ i (h : i < p.hard.length), (p.hard[i]'h).nodes.length ≤ 60
  softs : ∀ i (h : i < p.soft.length), (p.soft[i]'h).nodes.length ≤ 60
  tot : ProbOk p → totN p.vars ≤ 1024
theorem small_of {l : List Ex} {n : Nat} (hn : n ≤ 1000000000) (h : ∀ i (h : i < l.length), (l[i]'h).nodes.length ≤ n) : ExsSmall l := fun e he => by
  obtain ⟨i, hi, rfl⟩ := List.getElem_of_mem he
  exact Nat.le_trans (h i hi) hn
theorem FewOk.small {p : ProbD} {l : List Ex} (h : FewOk p l) : ProbSmall p := ⟨small_of (by omega) h.hards, small_of (by omega) h.softs, by rw [List.length_append]; have := h.hard; have := h.soft; omega⟩
theorem FewOk.exsSmall {p : ProbD} {l : List Ex} (h : FewOk p l) : ExsSmall l := small_of (by omega) h.exs
set_option maxRecDepth 100000 in
set_option maxHeartbeats 8000000 in
theorem few_any (p : ProbD) (x : ProbA) (l : List Ex) (al : Option Addr) (cl : Nat) (w : World) (hE : ProbIn w p x) (hL : ExsIn w l al cl) :
    Calls Tryz.prog 13 #[probVal p x, .slice al l.length cl] w fun r w' => (∃ b : Bool, r = .returned (.bool b) ∧ (b = true → FewOk p l)) ∧ Below w.heap.size w w' := by
  have HP := Lib.hid hE
  have HV0 := Lib.hid (fun hs W (hW : Below w.heap.size w W) => r14Valid_any p x W (hE.keep (keeps_of_below hW)) hs)
  have HT0 := Lib.hid (fun W (hW : Below w.heap.size w W) hV => Total_any p x W (hE.keep (keeps_of_below hW)) hV)
  have HL := Lib.hid hL
  have HLA := Lib.hid hL.addr
  have HHd := Lib.hid hE.hard
  have HHA := Lib.hid hE.hard.addr
  have HSf := Lib.hid hE.soft
  have HSA := Lib.hid hE.soft.addr
  have hPB : Below w.heap.size w (w.alloc (.cells (probVals p x) 27)) := (Below.refl _ _).alloc (Nat.le_refl _) _
  have hll := hL.2.1
  have hvl := hE.vars.2.1
  have hhl := hE.hard.2.1
  have hsl := hE.soft.2.1
  clear hE hL HP
  simp only [probVal_eq, probVals] at HV0 HT0 hPB ⊢
  obtain ⟨vs, hard, soft, ds, gs⟩ := p
  obtain ⟨av, cv, ah, ch, ao, co, ad, cd, ag, cg⟩ := x
  simp only at HV0 HT0 hPB HHd HHA HSf HSA hvl hhl hsl ⊢
  have HPB := Lib.hid hPB
  clear hPB
  by_cases q0 : 6 < l.length
  · have d0 : decide ((6 : Int) < (l.length : Int)) = true := by simp; omega
    go_enter Tryz.func13, Tryz.ntmps13
    go_wp2_with fail
    go_ret
    exact ⟨⟨false, rfl, fun h => by simp at h⟩, HPB.out⟩
  have d0 : decide ((6 : Int) < (l.length : Int)) = false := by simp; omega
  by_cases q1 : 20 < vs.length
  · have d1 : decide ((20 : Int) < (vs.length : Int)) = true := by simp; omega
    go_enter Tryz.func13, Tryz.ntmps13
    go_wp2_with fail
    go_ret
    exact ⟨⟨false, rfl, fun h => by simp at h⟩, HPB.out⟩
  have d1 : decide ((20 : Int) < (vs.length : Int)) = false := by simp; omega
  by_cases q2 : 12 < hard.length
  · have d2 : decide ((12 : Int) < (hard.length : Int)) = true := by simp; omega
    go_enter Tryz.func13, Tryz.ntmps13
    go_wp2_with fail
    go_ret
    exact ⟨⟨false, rfl, fun h => by simp at h⟩, HPB.out⟩
  have d2 : decide ((12 : Int) < (hard.length : Int)) = false := by simp; omega
  by_cases q3 : 12 < soft.length
  · have d3 : decide ((12 : Int) < (soft.length : Int)) = true := by simp; omega
    go_enter Tryz.func13, Tryz.ntmps13
    go_wp2_with fail
    go_ret
    exact ⟨⟨false, rfl, fun h => by simp at h⟩, HPB.out⟩
  have d3 : decide ((12 : Int) < (soft.length : Int)) = false := by simp; omega
  go_enter Tryz.func13, Tryz.ntmps13
  go_wp2_with fail
  go_loopw [5] (fun i wr => ∃ k : Nat, i = .int .i64 k ∧ k ≤ l.length ∧ Hid (∀ j (hj : j < l.length), j < k → (l[j]'hj).nodes.length ≤ 40) ∧ Hid (Below (w.heap.size + 1) (w.alloc (.cells #[.slice av vs.length cv, .slice ah hard.length ch, .slice ao soft.length co, .slice ad ds.length cd, .slice ag gs.length cg] 27)) wr)) (fun i _ => l.length - (intOf i).toNat)
  case atStart => exact ⟨0, rfl, Nat.zero_le _, fun _ _ h => absurd h (by omega), Below.refl _ _⟩
  case round =>
    obtain ⟨k, rfl, hk, HQl, HB⟩ := hrel
    have HBw := Lib.hid (boxW _ HB.out)
    have hzr := HB.out.size
    simp only [World.size_alloc] at hzr
    have hzl : w.heap.size < wr.heap.size := by omega
    have b0 := box_cell HB.out 0
    have b1 := box_cell HB.out 1
    have b2 := box_cell HB.out 2
    have b3 := box_cell HB.out 3
    have b4 := box_cell HB.out 4
    (try simp at b0 b1 b2 b3 b4)
    by_cases hlt : k < l.length
    · obtain ⟨b, off, ha⟩ := HLA.out.resolve_left (by omega)
      subst ha
      obtain ⟨a', cap', g0, g1, g2, g3, hX⟩ := HL.out.get rfl hlt
      have kk := keeps_of_below HBw.out
      have HC := Lib.hid (Few_any _ 40 a' cap' wr (hX.keep kk) (by omega) (by omega))
      have HNx : Hid (((l[k]'hlt).nodes.length : Int) ≤ 40 → ∀ j (hj : j < l.length), j < k + 1 → (l[j]'hj).nodes.length ≤ 40) := fun h j hj hjk => by
        by_cases e : j = k
        · subst e; omega
        · exact HQl.out j hj (by omega)
      generalize (l[k]'hlt) = e at g0 g1 g2 g3 hX HC HNx
      obtain ⟨op, n, s, args⟩ := e
      simp only [Ex.op_mk, Ex.n_mk, Ex.name_mk, Ex.args_mk] at g0 g1 g2 g3 HC
      have c0 := kk _ _ g0
      have c1 := kk _ _ g1
      have c2 := kk _ _ g2
      have c3 := kk _ _ g3
      clear g0 g1 g2 g3 hX kk
      go_wp2_with fail
      refine HC.out.mono ?_
      rintro r w4 ⟨⟨bb, rfl, hbb⟩, hb4⟩
      have HBB := Lib.hid hbb
      have HB4 := Lib.hid (HB.out.trans (hb4.mono (by simpa using hzr)))
      clear hb4 hbb c0 c1 c2 c3 b0 b1 b2 b3 b4
      cases bb
      · go_wp2_with fail
        go_ret
        exact ⟨⟨false, rfl, fun h => by simp at h⟩, boxW _ HB4.out⟩
      · go_wp2_with fail
        go_roundw
        case rel => exact ⟨k + 1, by go_num, by omega, HNx.out (HBB.out (by trivial)), HB4.out⟩
        case measure => simp [intOf]; omega
    obtain rfl : k = l.length := by omega
    have HBHQl := Lib.hid HB.out
    go_wp2_with fail
    go_loopw [6] (fun i wr => ∃ k : Nat, i = .int .i64 k ∧ k ≤ hard.length ∧ Hid (∀ j (hj : j < hard.length), j < k → (hard[j]'hj).nodes.length ≤ 60) ∧ Hid (Below (w.heap.size + 1) (w.alloc (.cells #[.slice av vs.length cv, .slice ah hard.length ch, .slice ao soft.length co, .slice ad ds.length cd, .slice ag gs.length cg] 27)) wr)) (fun i _ => hard.length - (intOf i).toNat)
    case atStart => exact ⟨0, rfl, Nat.zero_le _, fun _ _ h => absurd h (by omega), HBHQl.out⟩
    case round =>
      obtain ⟨k, rfl, hk, HQh, HB⟩ := hrel
      have HBw := Lib.hid (boxW _ HB.out)
      have hzr := HB.out.size
      simp only [World.size_alloc] at hzr
      have hzl : w.heap.size < wr.heap.size := by omega
      have b0 := box_cell HB.out 0
      have b1 := box_cell HB.out 1
      have b2 := box_cell HB.out 2
      have b3 := box_cell HB.out 3
      have b4 := box_cell HB.out 4
      (try simp at b0 b1 b2 b3 b4)
      by_cases hlt : k < hard.length
      · obtain ⟨b, off, ha⟩ := HHA.out.resolve_left (by omega)
        subst ha
        obtain ⟨a', cap', g0, g1, g2, g3, hX⟩ := HHd.out.get rfl hlt
        have kk := keeps_of_below HBw.out
        have HC := Lib.hid (Few_any _ 60 a' cap' wr (hX.keep kk) (by omega) (by omega))
        have HNx : Hid (((hard[k]'hlt).nodes.length : Int) ≤ 60 → ∀ j (hj : j < hard.length), j < k + 1 → (hard[j]'hj).nodes.length ≤ 60) := fun h j hj hjk => by
          by_cases e : j = k
          · subst e; omega
          · exact HQh.out j hj (by omega)
        generalize (hard[k]'hlt) = e at g0 g1 g2 g3 hX HC HNx
        obtain ⟨op, n, s, args⟩ := e
        simp only [Ex.op_mk, Ex.n_mk, Ex.name_mk, Ex.args_mk] at g0 g1 g2 g3 HC
        have c0 := kk _ _ g0
        have c1 := kk _ _ g1
        have c2 := kk _ _ g2
        have c3 := kk _ _ g3
        clear g0 g1 g2 g3 hX kk
        go_wp2_with fail
        refine HC.out.mono ?_
        rintro r w4 ⟨⟨bb, rfl, hbb⟩, hb4⟩
        have HBB := Lib.hid hbb
        have HB4 := Lib.hid (HB.out.trans (hb4.mono (by simpa using hzr)))
        clear hb4 hbb c0 c1 c2 c3 b0 b1 b2 b3 b4
        cases bb
        · go_wp2_with fail
          go_ret
          exact ⟨⟨false, rfl, fun h => by simp at h⟩, boxW _ HB4.out⟩
        · go_wp2_with fail
          go_roundw
          case rel => exact ⟨k + 1, by go_num, by omega, HNx.out (HBB.out (by trivial)), HB4.out⟩
          case measure => simp [intOf]; omega
      obtain rfl : k = hard.length := by omega
      have HBHQh := Lib.hid HB.out
      go_wp2_with fail
      go_loopw [7] (fun i wr => ∃ k : Nat, i = .int .i64 k ∧ k ≤ soft.length ∧ Hid (∀ j (hj : j < soft.length), j < k → (soft[j]'hj).nodes.length ≤ 60) ∧ Hid (Below (w.heap.size + 1) (w.alloc (.cells #[.slice av vs.length cv, .slice ah hard.length ch, .slice ao soft.length co, .slice ad ds.length cd, .slice ag gs.length cg] 27)) wr)) (fun i _ => soft.length - (intOf i).toNat)
      case atStart => exact ⟨0, rfl, Nat.zero_le _, fun _ _ h => absurd h (by omega), HBHQh.out⟩
      case round =>
        obtain ⟨k, rfl, hk, HQs, HB⟩ := hrel
        have HBw := Lib.hid (boxW _ HB.out)
        have hzr := HB.out.size
        simp only [World.size_alloc] at hzr
        have hzl : w.heap.size < wr.heap.size := by omega
        have b0 := box_cell HB.out 0
        have b1 := box_cell HB.out 1
        have b2 := box_cell HB.out 2
        have b3 := box_cell HB.out 3
        have b4 := box_cell HB.out 4
        (try simp at b0 b1 b2 b3 b4)
        by_cases hlt : k < soft.length
        · obtain ⟨b, off, ha⟩ := HSA.out.resolve_left (by omega)
          subst ha
          obtain ⟨a', cap', g0, g1, g2, g3, hX⟩ := HSf.out.get rfl hlt
          have kk := keeps_of_below HBw.out
          have HC := Lib.hid (Few_any _ 60 a' cap' wr (hX.keep kk) (by omega) (by omega))
          have HNx : Hid (((soft[k]'hlt).nodes.length : Int) ≤ 60 → ∀ j (hj : j < soft.length), j < k + 1 → (soft[j]'hj).nodes.length ≤ 60) := fun h j hj hjk => by
            by_cases e : j = k
            · subst e; omega
            · exact HQs.out j hj (by omega)
          generalize (soft[k]'hlt) = e at g0 g1 g2 g3 hX HC HNx
          obtain ⟨op, n, s, args⟩ := e
          simp only [Ex.op_mk, Ex.n_mk, Ex.name_mk, Ex.args_mk] at g0 g1 g2 g3 HC
          have c0 := kk _ _ g0
          have c1 := kk _ _ g1
          have c2 := kk _ _ g2
          have c3 := kk _ _ g3
          clear g0 g1 g2 g3 hX kk
          go_wp2_with fail
          refine HC.out.mono ?_
          rintro r w4 ⟨⟨bb, rfl, hbb⟩, hb4⟩
          have HBB := Lib.hid hbb
          have HB4 := Lib.hid (HB.out.trans (hb4.mono (by simpa using hzr)))
          clear hb4 hbb c0 c1 c2 c3 b0 b1 b2 b3 b4
          cases bb
          · go_wp2_with fail
            go_ret
            exact ⟨⟨false, rfl, fun h => by simp at h⟩, boxW _ HB4.out⟩
          · go_wp2_with fail
            go_roundw
            case rel => exact ⟨k + 1, by go_num, by omega, HNx.out (HBB.out (by trivial)), HB4.out⟩
            case measure => simp [intOf]; omega
        obtain rfl : k = soft.length := by omega
        have HBHQs := Lib.hid HB.out
        go_wp2_with fail
        have HSm : Hid (ProbSmall ⟨vs, hard, soft, ds, gs⟩) := ⟨small_of (by omega) (fun i h => HQh.out i h h), small_of (by omega) (fun i h => HQs.out i h h), by rw [List.length_append]; show hard.length + soft.length ≤ _; omega⟩
        by_cases hp : ProbOk ⟨vs, hard, soft, ds, gs⟩
        · have HVc := Lib.hid (errT (HV0.out HSm.out wr HBw.out) hp)
          have HTc := Lib.hid (fun W hW => HT0.out W hW hp.vars)
          clear hp
          refine HVc.out.mono ?_
          rintro e w2 ⟨rfl, hb2⟩
          have HB2 := Lib.hid (HB.out.trans (hb2.mono (by simpa using hzr)))
          clear b0 b1 b2 b3 b4 hb2
          have b0 := box_cell HB2.out 0
          have b1 := box_cell HB2.out 1
          have b2 := box_cell HB2.out 2
          have b3 := box_cell HB2.out 3
          have b4 := box_cell HB2.out 4
          (try simp at b0 b1 b2 b3 b4)
          have HTd := Lib.hid (HTc.out w2 (boxW _ HB2.out))
          go_wp2_with fail
          refine HTd.out.mono ?_
          rintro e w3 ⟨rfl, hb3⟩
          have HB3 : Hid (Below w.heap.size w w3) := (boxW _ HB2.out).trans (hb3.mono (boxW _ HB2.out).size)
          clear b0 b1 b2 b3 b4 hb3
          go_wp2_with fail
          go_ret
          exact ⟨⟨_, rfl, fun h => ⟨by omega, by show vs.length ≤ _; omega, by show hard.length ≤ _; omega, by show soft.length ≤ _; omega, fun i h => HQl.out i h h, fun i h => HQh.out i h h, fun i h => HQs.out i h h, fun _ => by have h' := of_decide_eq_true h; show totN vs ≤ _; omega⟩⟩, HB3.out⟩
        · have HVc := Lib.hid (errF (HV0.out HSm.out wr HBw.out) hp)
          have HNp := Lib.hid hp
          clear hp
          refine HVc.out.mono ?_
          rintro e w2 ⟨⟨en, rfl, hen⟩, hb2⟩
          have HB2 : Hid (Below w.heap.size w w2) := HBw.out.trans (hb2.mono HBw.out.size)
          clear b0 b1 b2 b3 b4 hb2
          go_wp2_with fail
          go_ret
          exact ⟨⟨true, rfl, fun h => ⟨by omega, by show vs.length ≤ _; omega, by show hard.length ≤ _; omega, by show soft.length ≤ _; omega, fun i h => HQl.out i h h, fun i h => HQh.out i h h, fun i h => HQs.out i h h, fun h => absurd h HNp.out⟩⟩, HB2.out⟩
end Go.Proofs.YtgdphjgedhadoaaGreatDoor
