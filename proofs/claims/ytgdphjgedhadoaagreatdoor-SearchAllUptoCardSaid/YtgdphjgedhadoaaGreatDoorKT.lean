/- law: two. -/
import Derived.Test.YtgdphjgedhadoaaGreatDoorKS
import Derived.Laws.ResultCell
import Derived.Test.YtgdphjgedhadoaaGreatDoorKQ
import Derived.Test.YtgdphjgedhadoaaGreatDoorKR
set_option linter.unusedSimpArgs false
set_option linter.unusedVariables false
set_option linter.unnecessarySimpa false
namespace Go.Proofs.YtgdphjgedhadoaaGreatDoor
open Go.RowKit

def p2 : ProbD := ⟨[⟨⟨#[120]⟩, 1, 1, 0⟩, ⟨⟨#[121]⟩, 1, 1, 0⟩], [], [], [], [[0, 1]]⟩
noncomputable def sum2 : Ex := .mk 7 0 ⟨#[]⟩ [.mk 2 0 ⟨#[120]⟩ [], .mk 2 0 ⟨#[121]⟩ []]
noncomputable def l2 : List Ex := [.mk 15 0 ⟨#[]⟩ [sum2, .mk 1 1 ⟨#[]⟩ []]]
def x2 (b : Nat) : ProbA := ⟨some ⟨b + 1, 0, none⟩, 2, none, 0, none, 0, none, 0, some ⟨b + 3, 0, none⟩, 1⟩
/-- the blocks that two lays -/
structure TwoBlk (W : World) (b : Nat) : Prop where
  h1 : W.heap[b + 1]? = some (.cells #[.string ⟨#[120]⟩, .int .i64 1, .int .i64 1, .int .i64 0, .string ⟨#[121]⟩, .int .i64 1, .int .i64 1, .int .i64 0] 87 (0, 0))
  h2 : W.heap[b + 2]? = some (.cells #[.int .i64 0, .int .i64 1] 3 (0, 0))
  h3 : W.heap[b + 3]? = some (.cells #[.slice (some ⟨b + 2, 0, none⟩) 2 2] 30 (0, 0))
  h5 : W.heap[b + 5]? = some (.cells #[.int .i64 2, .int .i64 0, .string ⟨#[120]⟩, .slice none 0 0, .int .i64 2, .int .i64 0, .string ⟨#[121]⟩, .slice none 0 0] 57 (0, 0))
  h7 : W.heap[b + 7]? = some (.cells #[.int .i64 7, .int .i64 0, .string ⟨#[]⟩, .slice (some ⟨b + 5, 0, none⟩) 2 2, .int .i64 1, .int .i64 1, .string ⟨#[]⟩, .slice none 0 0] 57 (0, 0))
  h8 : W.heap[b + 8]? = some (.cells #[.int .i64 15, .int .i64 0, .string ⟨#[]⟩, .slice (some ⟨b + 7, 0, none⟩) 2 2] 57 (0, 0))
theorem cell_of_blk {W : World} {k : Nat} {c : Array Value} {t : TypeId} {fz : Nat × Nat} (h : W.heap[k]? = some (.cells c t fz)) (o : Nat) : W.cell? ⟨k, o, none⟩ = c[o]? := by simp [World.cell?, h]
theorem TwoBlk.vars {W : World} {b : Nat} (h : TwoBlk W b) : VarsIn W p2.vars (some ⟨b + 1, 0, none⟩) 2 := by
  refine ⟨by simp [p2], by simp [p2], Or.inr ⟨b + 1, 0, rfl, fun i hi => ?_⟩⟩
  have hc := cell_of_blk h.h1
  rcases i with _ | _ | i
  · exact ⟨_, rfl, by rw [hc]; rfl, by rw [hc]; rfl, by rw [hc]; rfl, by rw [hc]; rfl, by decide⟩
  · exact ⟨_, rfl, by rw [hc]; rfl, by rw [hc]; rfl, by rw [hc]; rfl, by rw [hc]; rfl, by decide⟩
  · have : i + 1 + 1 < 2 := hi
    omega
theorem TwoBlk.ints {W : World} {b : Nat} (h : TwoBlk W b) : IntsIn W [0, 1] (some ⟨b + 2, 0, none⟩) 2 := by
  refine ⟨by simp, by simp, Or.inr ⟨b + 2, 0, rfl, fun i hi => ?_⟩⟩
  have hc := cell_of_blk h.h2
  rcases i with _ | _ | i
  · exact ⟨_, rfl, by rw [hc]; rfl⟩
  · exact ⟨_, rfl, by rw [hc]; rfl⟩
  · have : i + 1 + 1 < 2 := hi
    omega
theorem TwoBlk.groups {W : World} {b : Nat} (h : TwoBlk W b) : RowsIn W p2.groups (some ⟨b + 3, 0, none⟩) 1 := by
  refine ⟨by simp [p2], by simp [p2], Or.inr ⟨b + 3, 0, rfl, fun i hi => ?_⟩⟩
  have hc := cell_of_blk h.h3
  rcases i with _ | i
  · exact ⟨_, rfl, _, _, by rw [hc]; rfl, h.ints⟩
  · simp [p2] at hi
theorem TwoBlk.prob {W : World} {b : Nat} (h : TwoBlk W b) : ProbIn W p2 (x2 b) :=
  ⟨h.vars, ⟨by simp [p2], by simp [p2], Or.inl rfl⟩, ⟨by simp [p2], by simp [p2], Or.inl rfl⟩, ⟨by simp [p2], by simp [p2], Or.inl rfl⟩, h.groups⟩
theorem exsIn_nil (W : World) : ExsIn W [] none 0 := ⟨by simp, by simp, Or.inl rfl⟩
theorem leafIn (W : World) (op n : Int) (s : ByteArray) (hs : s.size ≤ 1073741824) : ExIn W (.mk op n s []) none 0 := ⟨hs, exsIn_nil W⟩
theorem TwoBlk.sum {W : World} {b : Nat} (h : TwoBlk W b) : ExIn W sum2 (some ⟨b + 5, 0, none⟩) 2 := by
  refine ⟨by decide, by simp [sum2, Ex.args_mk], by simp [sum2, Ex.args_mk], Or.inr ⟨b + 5, 0, rfl, fun i hi => ?_⟩⟩
  have hc := cell_of_blk h.h5
  rcases i with _ | _ | i
  · exact ⟨_, rfl, (ExAt_iff _ _ _ _).2 ⟨none, 0, by rw [hc]; rfl, by rw [hc]; rfl, by rw [hc]; rfl, by rw [hc]; rfl, leafIn _ _ _ _ (by decide)⟩⟩
  · exact ⟨_, rfl, (ExAt_iff _ _ _ _).2 ⟨none, 0, by rw [hc]; rfl, by rw [hc]; rfl, by rw [hc]; rfl, by rw [hc]; rfl, leafIn _ _ _ _ (by decide)⟩⟩
  · have : i + 1 + 1 < 2 := hi
    omega
theorem TwoBlk.exs {W : World} {b : Nat} (h : TwoBlk W b) : ExsIn W l2 (some ⟨b + 8, 0, none⟩) 1 := by
  refine ⟨by simp [l2], by simp [l2], Or.inr ⟨b + 8, 0, rfl, fun i hi => ?_⟩⟩
  have hc := cell_of_blk h.h8
  have hd := cell_of_blk h.h7
  rcases i with _ | i
  · refine ⟨_, rfl, (ExAt_iff _ _ _ _).2 ⟨some ⟨b + 7, 0, none⟩, 2, by rw [hc]; rfl, by rw [hc]; rfl, by rw [hc]; rfl, by rw [hc]; rfl, by decide, by simp [Ex.args_mk], by simp [Ex.args_mk], Or.inr ⟨b + 7, 0, rfl, fun i hi => ?_⟩⟩⟩
    rcases i with _ | _ | i
    · exact ⟨_, rfl, (ExAt_iff _ _ _ _).2 ⟨some ⟨b + 5, 0, none⟩, 2, by rw [hd]; rfl, by rw [hd]; rfl, by rw [hd]; rfl, by rw [hd]; rfl, h.sum⟩⟩
    · exact ⟨_, rfl, (ExAt_iff _ _ _ _).2 ⟨none, 0, by rw [hd]; rfl, by rw [hd]; rfl, by rw [hd]; rfl, by rw [hd]; rfl, leafIn _ _ _ _ (by decide)⟩⟩
    · have : i + 1 + 1 < 2 := hi
      omega
  · simp [l2] at hi
set_option maxRecDepth 100000 in
set_option maxHeartbeats 4000000 in
theorem two_any (w : World) :
    Calls Tryz.prog 44 #[] w fun r w' => r = .returned (.tuple #[probVal p2 (x2 w.heap.size), .slice (some ⟨w.heap.size + 8, 0, none⟩) 1 1]) ∧ TwoBlk w' w.heap.size ∧ Below w.heap.size w w' := by
  go_enter Tryz.func44, Tryz.ntmps44
  go_wp2_with fail
  go_region
  go_wp2_with fail
  have hr : Tryz.f44.results = #[.cell 0 27, .tmp 1] := rfl
  refine bodyPost_ret (v := .tuple #[probVal p2 (x2 w.heap.size), .slice (some ⟨w.heap.size + 8, 0, none⟩) 1 1]) ?_ rfl ⟨rfl, ?_, ?_⟩
  · have hb : ∀ (W : World) (tm : Array Value), W.heap[w.heap.size]? = some (.cells #[.slice (some ⟨w.heap.size + 1, 0, none⟩) 2 2, .slice none 0 0, .slice none 0 0, .slice none 0 0, .slice (some ⟨w.heap.size + 1 + 1 + 1, 0, none⟩) 1 1] 27 (0, 0)) → tm.getD 0 undef = .pointer (some ⟨w.heap.size, 0, none⟩) → tm.getD 1 undef = .slice (some ⟨w.heap.size + 8, 0, none⟩) 1 1 → (results Tryz.f44 tm).run Tryz.prog W = .ok (.tuple #[probVal p2 (x2 w.heap.size), .slice (some ⟨w.heap.size + 8, 0, none⟩) 1 1]) W := fun W tm hW h0 h1 => by
      have c := cell_of_blk hW
      have c0 := c 0
      have c1 := c 1
      have c2 := c 2
      have c3 := c 3
      have c4 := c 4
      simp at c0 c1 c2 c3 c4
      rw [results_cell_tmp hr, h0, h1]
      simp [asAddr]
      go_simp
      rfl
    refine hb _ _ ?_ rfl rfl
    show (World.drew _).heap[_]? = _
    show (World.alloc _ _).heap[_]? = _
    iterate 8 rw [Below.heap_alloc _ _ _ (by simp only [World.size_alloc]; omega)]
    exact heap_alloc_at _ _ _ rfl
  · refine ⟨?_, ?_, ?_, ?_, ?_, ?_⟩
    all_goals (first | show (World.drew _).heap[_]? = _ | skip)
    all_goals (try (show (World.alloc _ _).heap[_]? = _))
    all_goals (repeat (first | exact heap_alloc_at _ _ _ (by simp) | rw [Below.heap_alloc _ _ _ (by simp)]))
  · exact (by repeat (first | assumption | exact Below.refl _ _ | refine Below.drew ?_ | refine below_drewN ?_ _ | refine Below.alloc ?_ (by first | omega | (simp only [World.size_alloc, World.size_setCell, World.size_drew, World.heap_drewN] <;> omega) | (simp <;> omega)) _ | refine Below.setCell ?_ (by first | omega | (simp only [World.size_alloc, World.size_setCell, World.size_drew, World.heap_drewN] <;> omega) | (simp <;> omega)) _))
end Go.Proofs.YtgdphjgedhadoaaGreatDoor

/- plain facts of two's problem. -/
namespace Go.Proofs.YtgdphjgedhadoaaGreatDoor
open Go.RowKit

theorem p2_vars_ok : VarsOk p2.vars := by
  refine ⟨by decide, ?_, ?_, ?_, by decide⟩
  · intro i h
    rcases i with _ | _ | i
    · show varOkB ⟨⟨#[120]⟩, 1, 1, 0⟩ = true
      decide
    · show varOkB ⟨⟨#[121]⟩, 1, 1, 0⟩ = true
      decide
    · have : i + 1 + 1 < 2 := h
      omega
  · rintro i hi ⟨_, j, hj, he⟩
    rcases i with _ | _ | i
    · omega
    · obtain rfl : j = 0 := by omega
      rw [toList_eq_iff] at he
      exact absurd (show ([120] : List UInt8) = [121] from he) (by decide)
    · have : i + 1 + 1 < 2 := hi
      omega
  · rintro ⟨v, hv, A, n, h1, h2, h3, _⟩
    rw [toList_eq_iff] at h3
    have h4 := congrArg List.length h3
    have h5 : v.name.data.toList.length = 1 := by
      simp [p2] at hv
      rcases hv with rfl | rfl <;> rfl
    rw [h5] at h4
    simp [elName] at h4
theorem p2_ok : ProbOk p2 := by
  refine ⟨p2_vars_ok, fun i h => absurd h (by simp [p2]), fun i h => absurd h (by simp [p2]), fun i h => absurd h (by simp [p2]), ?_, ?_, ?_⟩
  · intro g hg; simp [p2] at hg; subst hg; simp
  · intro g hg v hv
    simp [p2] at hg; subst hg
    simp at hv
    rcases hv with rfl | rfl <;> decide
  · intro i h
    rcases i with _ | _ | i
    · rfl
    · rfl
    · have : i + 1 + 1 < 2 := h
      omega
noncomputable def vx : Ex := .mk 2 0 ⟨#[120]⟩ []
noncomputable def vy : Ex := .mk 2 0 ⟨#[121]⟩ []
noncomputable def one2 : Ex := .mk 1 1 ⟨#[]⟩ []
noncomputable def eq2 : Ex := .mk 15 0 ⟨#[]⟩ [sum2, one2]
theorem l2_eq : l2 = [eq2] := rfl
theorem nodes_leaf (op n : Int) (s : ByteArray) : (Ex.mk op n s []).nodes = [.mk op n s []] := by rw [Ex.nodes_eq]; simp [Ex.args_mk]
theorem nodes_sum : sum2.nodes = [sum2, vx, vy] := by
  rw [Ex.nodes_eq]
  simp [sum2, Ex.args_mk, nodes_leaf, vx, vy]
theorem nodes_eq2 : eq2.nodes = [eq2, sum2, vx, vy, one2] := by
  rw [Ex.nodes_eq]
  simp [eq2, Ex.args_mk, nodes_leaf, nodes_sum, one2]
theorem eq2_valid : validS eq2 = 0 := by
  unfold validS
  rw [nodes_eq2]
  have h : firstE [eq2, sum2, vx, vy, one2] = 0 := by decide
  rw [h, if_neg]
  rintro ⟨_, h | h⟩
  · rw [Ex.depth_eq] at h
    simp [eq2, sum2, one2, Ex.args_mk, Ex.depth_eq] at h
  · simp at h
theorem eq2_ok : ExprOk p2.vars eq2 := by
  refine ⟨eq2_valid, ?_, ?_⟩
  · rw [nodes_eq2]; decide
  · rw [nodes_eq2]
    simp [forN, eq2, sum2, vx, vy, one2, p2, findV, ByteArray.toList_eq]
    decide
theorem val_eq2 (env : List (ByteArray × Int)) : valueS env eq2 = operateS 15 [operateS 7 [(findS env ⟨#[120]⟩).getD 0, (findS env ⟨#[121]⟩).getD 0], 1] := by
  rw [valueS_eq]
  simp [eq2, sum2, one2, valueS_eq, Ex.op_mk, Ex.n_mk, Ex.name_mk, Ex.args_mk]
theorem names_eq2 : namesS [2] eq2 = [⟨#[120]⟩, ⟨#[121]⟩] := by
  unfold namesS
  rw [nodes_eq2]
  simp [addName, eq2, sum2, vx, vy, one2, Lib.containsS, ByteArray.toList_eq, Ex.op_mk, Ex.name_mk]
  have h1 : Lib.idxOfS [] (⟨#[120]⟩ : ByteArray) = -1 := by rfl
  have h2 : Lib.idxOfS [(⟨#[120]⟩ : ByteArray)] ⟨#[121]⟩ = -1 := by first | rfl | decide | simp [Lib.idxOfS]
  simp [h1, h2]
theorem names_eq2' : namesS [3, 24] eq2 = [] := by
  unfold namesS
  rw [nodes_eq2]
  simp [addName, eq2, sum2, vx, vy, one2, Ex.op_mk, Ex.name_mk]
theorem find_x (a b : Int) : findS [(⟨#[120]⟩, a), (⟨#[121]⟩, b)] ⟨#[120]⟩ = some (wrapW a) := by simp [findS]
theorem find_y (a b : Int) : findS [(⟨#[120]⟩, a), (⟨#[121]⟩, b)] ⟨#[121]⟩ = some (wrapW b) := by simp [findS, ByteArray.toList_eq]
theorem eval_eq2 (a b : Int) : evalS [(⟨#[120]⟩, a), (⟨#[121]⟩, b)] eq2 = (operateS 15 [operateS 7 [wrapW a, wrapW b], 1], 0) := by
  unfold evalS
  rw [eq2_valid, if_neg (by simp), if_neg, val_eq2, find_x, find_y]
  · rfl
  · unfold knownS
    rw [names_eq2, names_eq2']
    simp [find_x, find_y]
theorem env_p2 (a b : Int) : envS p2.vars [a, b] = [(⟨#[120]⟩, a), (⟨#[121]⟩, b)] := rfl
theorem hit_p2 (k : Nat) (a b : Int) (h : nthN p2.vars k = [a, b]) : hitN p2.vars l2 k = (operateS 15 [operateS 7 [wrapW a, wrapW b], 1] != 0) := by
  unfold hitN allS
  rw [h, l2_eq, env_p2]
  simp [eval_eq2]
theorem tot_p2 : totN p2.vars = 4 := by decide
theorem nth0 : nthN p2.vars 0 = [0, 0] := by decide
theorem nth1 : nthN p2.vars 1 = [0, 1] := by decide
theorem nth2 : nthN p2.vars 2 = [1, 0] := by decide
theorem hit0 : hitN p2.vars l2 0 = false := by rw [hit_p2 0 0 0 nth0]; decide
theorem hit1 : hitN p2.vars l2 1 = true := by rw [hit_p2 1 0 1 nth1]; decide
theorem hit2 : hitN p2.vars l2 2 = true := by rw [hit_p2 2 1 0 nth2]; decide
theorem asg01 : Asg p2.vars [0, 1] := by
  rw [← nth1]
  exact asg_nth p2_vars_ok.ok 1
theorem num01 : numN p2.vars [0, 1] = 1 := by decide
theorem asg11 : Asg p2.vars [1, 1] := by
  have h : nthN p2.vars 3 = [1, 1] := by decide
  rw [← h]
  exact asg_nth p2_vars_ok.ok 3
theorem com2 (steps : Int) (h0 : 0 ≤ steps) (h1 : steps ≤ 262144) : ComOk p2 l2 steps := by
  refine ⟨p2_ok, h0, h1, fun i h => ?_⟩
  rcases i with _ | i
  · exact eq2_ok
  · have : i + 1 < 1 := h
    omega
theorem scan2 : scanN (hitN p2.vars l2) (totN p2.vars) 2 0 = (some 1, 2, 0) := by
  rw [tot_p2, scanN_miss (by omega) hit0, scanN_hit (by omega) hit1]
theorem scan1 : scanN (hitN p2.vars l2) (totN p2.vars) 1 0 = (none, 1, 0) := by
  rw [tot_p2, scanN_miss (by omega) hit0]; rfl
theorem scan9 : scanN (hitN p2.vars l2) (totN p2.vars) 9 2 = (some 2, 3, 8) := by
  rw [tot_p2, scanN_hit (by omega) hit2]
theorem sat11 : satN p2 l2 [1, 1] = 0 := by
  unfold satN
  rw [if_pos (pB_true ⟨p2_ok, asg11⟩)]
  have h : holdsV p2.vars [1, 1] eq2 = false := by
    unfold holdsV
    rw [env_p2, eval_eq2]
    decide
  have h2 : cntS p2.vars [1, 1] l2 l2.length = 0 := by
    unfold cntS
    rw [l2_eq, List.take_of_length_le (Nat.le_refl _)]
    simp [List.countP_cons, h]
  rw [h2]; rfl
theorem p2_small : ProbSmall p2 := ⟨fun e he => absurd he (by simp [p2]), fun e he => absurd he (by simp [p2]), by simp [p2]⟩
theorem l2_small : ExsSmall l2 := fun e he => by
  rw [l2_eq] at he
  obtain rfl := List.mem_singleton.1 he
  rw [nodes_eq2]; simp
end Go.Proofs.YtgdphjgedhadoaaGreatDoor

/- law: awake. -/
namespace Go.Proofs.YtgdphjgedhadoaaGreatDoor
open Go.RowKit

theorem probVal_p2 (b : Nat) : probVal p2 (x2 b) = .agg #[.slice (some ⟨b + 1, 0, none⟩) 2 2, .slice none 0 0, .slice none 0 0, .slice none 0 0, .slice (some ⟨b + 3, 0, none⟩) 1 1] := rfl
theorem ints_new (W : World) (a b : Int) : IntsIn (W.alloc (.cells #[.int .i64 a, .int .i64 b] 3)) [a, b] (some ⟨W.heap.size, 0, none⟩) 2 := by
  refine ⟨by simp, by simp, Or.inr ⟨W.heap.size, 0, rfl, fun i hi => ?_⟩⟩
  rcases i with _ | _ | i
  · exact ⟨_, rfl, by rw [World.cell?_alloc_new]; rfl⟩
  · exact ⟨_, rfl, by rw [World.cell?_alloc_new]; rfl⟩
  · have : i + 1 + 1 < 2 := hi
    omega
def Hits (x y : Int) (e : Ending) (w' : World) : Prop := ∃ a cap, e = .returned (.tuple #[.slice a 2 cap, .int .i64 0]) ∧ IntsIn w' [x, y] a cap
theorem first2 {e : Ending} {w' : World} (h : FirstRet p2 l2 2 True 0 11 e w') : Hits 0 1 e w' := by
  rcases h with ⟨_, h⟩ | ⟨h, _⟩
  · rw [show (2 : Int).toNat = 2 from rfl, scan2] at h
    rcases h with ⟨k, a, cap, h1, h2, h3⟩ | ⟨h1, _⟩ | ⟨h1, _⟩
    · obtain rfl := Option.some.inj h1
      rw [nth1] at h3
      exact ⟨a, cap, h2, h3⟩
    · simp at h1
    · simp at h1
  · exact absurd ⟨com2 2 (by omega) (by omega), trivial⟩ h
theorem next9 {e : Ending} {w' : World} (h : FirstRet p2 l2 9 (Asg p2.vars [0, 1]) (numN p2.vars [0, 1] + 1) 12 e w') : Hits 1 0 e w' := by
  rcases h with ⟨_, h⟩ | ⟨h, _⟩
  · rw [show (9 : Int).toNat = 9 from rfl, num01, scan9] at h
    rcases h with ⟨k, a, cap, h1, h2, h3⟩ | ⟨h1, _⟩ | ⟨h1, _⟩
    · obtain rfl := Option.some.inj h1
      rw [nth2] at h3
      exact ⟨a, cap, h2, h3⟩
    · simp at h1
    · simp at h1
  · exact absurd ⟨com2 9 (by omega) (by omega), asg01⟩ h
theorem first1 {e : Ending} {w' : World} (h : FirstRet p2 l2 1 True 0 11 e w') : e = .returned (.tuple #[.slice none 0 0, .int .i64 18]) := by
  rcases h with ⟨_, h⟩ | ⟨h, _⟩
  · rw [show (1 : Int).toNat = 1 from rfl, scan1, tot_p2] at h
    rcases h with ⟨k, a, cap, h1, h2, h3⟩ | ⟨h1, h2, _⟩ | ⟨h1, _, h2⟩
    · simp at h1
    · simp at h2
    · exact h2
  · exact absurd ⟨com2 1 (by omega) (by omega), trivial⟩ h
set_option maxRecDepth 100000 in
set_option maxHeartbeats 8000000 in
theorem awake_any (w : World) (hG : Glob w) :
    Calls Tryz.prog 14 #[] w fun e w' => e = .returned (.bool true) ∧ Below w.heap.size w w' := by
  have HT := Lib.hid (two_any w)
  have HG := Lib.hid hG
  clear hG
  simp only [probVal_p2] at HT
  go_enter Tryz.func14, Tryz.ntmps14
  go_wp2_with fail
  refine HT.out.mono ?_
  rintro e w1 ⟨rfl, hT, hb1⟩
  have HB1 := Lib.hid hb1
  have HG1 := Lib.hid (HG.out.below hb1)
  have HP := Lib.hid hT.prob
  have HX := Lib.hid hT.exs
  have HFi := Lib.hid (fun st W (hW : Below w1.heap.size w1 W) => First_any p2 (x2 w.heap.size) l2 (some ⟨w.heap.size + 8, 0, none⟩) 1 st W (HP.out.keep (keeps_of_below hW)) p2_small (HX.out.keep (keeps_of_below hW)) l2_small (HG1.out.below hW))
  have HNx := Lib.hid (fun W (hW : Below w1.heap.size w1 W) aa ca (hI : IntsIn W [0, 1] aa ca) => Next_any p2 (x2 w.heap.size) l2 (some ⟨w.heap.size + 8, 0, none⟩) 1 [0, 1] aa ca 9 W (HP.out.keep (keeps_of_below hW)) p2_small (HX.out.keep (keeps_of_below hW)) l2_small (HG1.out.below hW) hI)
  have HSa := Lib.hid (fun W (hW : Below w1.heap.size w1 W) aa ca (hI : IntsIn W [1, 1] aa ca) => Satisfied_any p2 (x2 w.heap.size) l2 (some ⟨w.heap.size + 8, 0, none⟩) 1 [1, 1] aa ca W (HP.out.keep (keeps_of_below hW)) p2_small (HX.out.keep (keeps_of_below hW)) l2_small (HG1.out.below hW) hI)
  have HIn := Lib.hid (fun (x y : Int) W aa ca ab cb (hA : IntsIn W [x, y] aa ca) (hB : IntsIn W [x, y] ab cb) => ints_any [x, y] aa ca [x, y] ab cb W hA hB)
  simp only [probVal_p2, show l2.length = 1 from rfl, sat11, show ∀ x y : Int, [x, y].length = 2 from fun _ _ => rfl, decide_true] at HFi HNx HSa HIn
  clear hT hb1 HT HG
  go_wp2_with fail
  refine (HFi.out 2 _ ?hb).mono ?_
  case hb => exact (Below.refl _ _).alloc (Nat.le_refl _) _
  rintro e w2 ⟨hr, hb2⟩
  obtain ⟨a1, c1, rfl, hI1⟩ := first2 hr
  simp only [World.size_alloc] at hb2
  have HB2 := Lib.hid hb2
  have HI1 := Lib.hid hI1
  have b0 := box_cell HB2.out 0
  have b1 := box_cell HB2.out 1
  have b2 := box_cell HB2.out 2
  have b3 := box_cell HB2.out 3
  have b4 := box_cell HB2.out 4
  (try simp at b0 b1 b2 b3 b4)
  have hz2 : w1.heap.size < w2.heap.size := by have := HB2.out.size; simp at this; omega
  have hz2' := HB2.out.size
  simp only [World.size_alloc] at hz2'
  clear hr hb2 hI1
  go_wp2_with fail
  refine (HNx.out _ ?hb _ _ (ints_new w2 0 1)).mono ?_
  case hb => exact (boxW _ HB2.out).trans (Below.mono ((Below.refl _ _).alloc (Nat.le_refl _) _) (boxW _ HB2.out).size)
  rintro e w3 ⟨hr, hb3⟩
  obtain ⟨a2, c2, rfl, hI2⟩ := next9 hr
  have HB23 : Hid (Below w2.heap.size w2 w3) := ((Below.refl _ _).alloc (Nat.le_refl _) _).trans (hb3.mono (by simp))
  have HB3 := Lib.hid (HB2.out.trans (HB23.out.mono hz2'))
  have HI1' := Lib.hid (HI1.out.keep (keeps_of_below HB23.out))
  have HI2 := Lib.hid hI2
  clear hr hb3 hI2 b0 b1 b2 b3 b4
  have b0 := box_cell HB3.out 0
  have b1 := box_cell HB3.out 1
  have b2 := box_cell HB3.out 2
  have b3 := box_cell HB3.out 3
  have b4 := box_cell HB3.out 4
  (try simp at b0 b1 b2 b3 b4)
  have hz3 : w1.heap.size < w3.heap.size := by have := HB3.out.size; simp at this; omega
  have hz3' := HB3.out.size
  simp only [World.size_alloc] at hz3'
  go_wp2_with fail
  refine (HFi.out 1 _ (boxW _ HB3.out)).mono ?_
  rintro e w4 ⟨hr, hb4⟩
  obtain rfl := first1 hr
  have HB4 := Lib.hid (HB3.out.trans (hb4.mono hz3'))
  have HI14 := Lib.hid (HI1'.out.keep (keeps_of_below hb4))
  have HI24 := Lib.hid (HI2.out.keep (keeps_of_below hb4))
  clear hr hb4 b0 b1 b2 b3 b4
  have b0 := box_cell HB4.out 0
  have b1 := box_cell HB4.out 1
  have b2 := box_cell HB4.out 2
  have b3 := box_cell HB4.out 3
  have b4 := box_cell HB4.out 4
  (try simp at b0 b1 b2 b3 b4)
  have hz4' := HB4.out.size
  simp only [World.size_alloc] at hz4'
  go_wp2_with fail
  have hba : Below w4.heap.size w4 (w4.alloc (.cells #[.int .i64 0, .int .i64 1] 3)) := (Below.refl _ _).alloc (Nat.le_refl _) _
  refine (HIn.out 0 1 _ _ _ _ _ (HI14.out.keep (keeps_of_below hba)) (ints_new w4 0 1)).mono ?_
  rintro e w5 ⟨rfl, hb5⟩
  have HB45 : Hid (Below w4.heap.size w4 w5) := hba.trans (hb5.mono hba.size)
  have HB5 := Lib.hid (HB4.out.trans (HB45.out.mono hz4'))
  have HI25 := Lib.hid (HI24.out.keep (keeps_of_below HB45.out))
  have hz5' := HB5.out.size
  simp only [World.size_alloc] at hz5'
  clear hb5 hba b0 b1 b2 b3 b4
  go_wp2_with fail
  have hba : Below w5.heap.size w5 (w5.alloc (.cells #[.int .i64 1, .int .i64 0] 3)) := (Below.refl _ _).alloc (Nat.le_refl _) _
  refine (HIn.out 1 0 _ _ _ _ _ (HI25.out.keep (keeps_of_below hba)) (ints_new w5 1 0)).mono ?_
  rintro e w6 ⟨rfl, hb6⟩
  have HB56 : Hid (Below w5.heap.size w5 w6) := hba.trans (hb6.mono hba.size)
  have HB6 := Lib.hid (HB5.out.trans (HB56.out.mono hz5'))
  have hz6' := HB6.out.size
  simp only [World.size_alloc] at hz6'
  clear hb6 hba
  have b0 := box_cell HB6.out 0
  have b1 := box_cell HB6.out 1
  have b2 := box_cell HB6.out 2
  have b3 := box_cell HB6.out 3
  have b4 := box_cell HB6.out 4
  (try simp at b0 b1 b2 b3 b4)
  have hz6 : w1.heap.size < w6.heap.size := by omega
  go_wp2_with fail
  refine (HSa.out _ ?hb _ _ (ints_new w6 1 1)).mono ?_
  case hb => exact (boxW _ HB6.out).trans (Below.mono ((Below.refl _ _).alloc (Nat.le_refl _) _) (boxW _ HB6.out).size)
  rintro e w7 ⟨rfl, hb7⟩
  have HB67 : Hid (Below w6.heap.size w6 w7) := ((Below.refl _ _).alloc (Nat.le_refl _) _).trans (hb7.mono (by simp))
  have HB7 := Lib.hid (HB1.out.trans (((boxW _ HB6.out).trans (HB67.out.mono (boxW _ HB6.out).size)).mono HB1.out.size))
  clear hb7 b0 b1 b2 b3 b4
  go_wp2_with fail
  go_ret
  exact ⟨rfl, HB7.out⟩
end Go.Proofs.YtgdphjgedhadoaaGreatDoor

/- law: SearchFinds. -/
namespace Go.Proofs.YtgdphjgedhadoaaGreatDoor
open Go.RowKit

/-- what First and Next answer is told by the problem alone -/
theorem FirstRet.out (p : ProbD) (l : List Ex) (steps : Int) (C : Prop) (first : Nat) (un : Int) : ∃ (A : List Int) (err : Int), ∀ e w', FirstRet p l steps C first un e w' → ∃ a cap, e = .returned (.tuple #[.slice a A.length cap, .int .i64 err]) ∧ IntsIn w' A a cap := by
  have hnil : ∀ w' : World, IntsIn w' [] none 0 := fun w' => ⟨by simp, by simp, Or.inl rfl⟩
  by_cases hc : ComOk p l steps ∧ C
  · cases hr : (scanN (hitN p.vars l) (totN p.vars) steps.toNat first).1 with
    | some k =>
      refine ⟨nthN p.vars k, 0, fun e w' h => ?_⟩
      rcases h with ⟨_, h⟩ | ⟨h, _⟩
      · rcases h with ⟨j, a, cap, h1, h2, h3⟩ | ⟨h1, _⟩ | ⟨h1, _⟩
        · rw [hr] at h1
          obtain rfl := Option.some.inj h1
          exact ⟨a, cap, by rw [h2, nthN_len], h3⟩
        · rw [hr] at h1; simp at h1
        · rw [hr] at h1; simp at h1
      · exact absurd hc h
    | none =>
      by_cases ht : totN p.vars ≤ (scanN (hitN p.vars l) (totN p.vars) steps.toNat first).2.1
      · refine ⟨[], un, fun e w' h => ?_⟩
        rcases h with ⟨_, h⟩ | ⟨h, _⟩
        · rcases h with ⟨j, a, cap, h1, h2, h3⟩ | ⟨_, _, h2⟩ | ⟨_, h1, _⟩
          · rw [hr] at h1; simp at h1
          · exact ⟨none, 0, h2, hnil _⟩
          · omega
        · exact absurd hc h
      · refine ⟨[], 18, fun e w' h => ?_⟩
        rcases h with ⟨_, h⟩ | ⟨h, _⟩
        · rcases h with ⟨j, a, cap, h1, h2, h3⟩ | ⟨_, h1, _⟩ | ⟨_, _, h2⟩
          · rw [hr] at h1; simp at h1
          · exact absurd h1 ht
          · exact ⟨none, 0, h2, hnil _⟩
        · exact absurd hc h
  · refine ⟨[], 1, fun e w' h => ?_⟩
    rcases h with ⟨h, _⟩ | ⟨_, h⟩
    · exact absurd h hc
    · exact ⟨none, 0, h, hnil _⟩
set_option maxRecDepth 100000 in
set_option maxHeartbeats 8000000 in
theorem SearchFinds_any (p : ProbD) (x : ProbA) (l : List Ex) (al : Option Addr) (cl : Nat) (steps : Int) (w : World) (hE : ProbIn w p x) (hL : ExsIn w l al cl) (hG : Glob w) :
    Calls Tryz.prog 3 #[probVal p x, .slice al l.length cl, .int .i64 steps] w fun e w' => e = .returned (.bool true) ∧ Below w.heap.size w w' := by
  have HFw0 := Lib.hid (fun W (hW : Below w.heap.size w W) => few_any p x l al cl W (hE.keep (keeps_of_below hW)) (hL.keep (keeps_of_below hW)))
  have HF0 := Lib.hid (fun (hf : FewOk p l) W (hW : Below w.heap.size w W) => First_any p x l al cl steps W (hE.keep (keeps_of_below hW)) hf.small (hL.keep (keeps_of_below hW)) hf.exsSmall (hG.below hW))
  have HR0 := Lib.hid (fun (hf : FewOk p l) W (hW : Below w.heap.size w W) => r18First_any p x l al cl steps W (hE.keep (keeps_of_below hW)) hf.small (hL.keep (keeps_of_below hW)) hf.exsSmall)
  have HAw := Lib.hid (fun W (hW : Below w.heap.size w W) => awake_any W (hG.below hW))
  obtain ⟨A, err, hO⟩ := FirstRet.out p l steps True 0 11
  have HO := Lib.hid hO
  have HIn := Lib.hid (fun W aa ca ab cb (hA : IntsIn W A aa ca) (hB : IntsIn W A ab cb) => ints_any A aa ca A ab cb W hA hB)
  simp only [decide_true] at HIn
  clear hE hL hG hO
  simp only [probVal_eq] at HFw0 HF0 HR0 ⊢
  obtain ⟨vs, hard, soft, ds, gs⟩ := p
  obtain ⟨av, cv, ah, ch, ao, co, ad, cd, ag, cg⟩ := x
  simp only at HFw0 HF0 HR0 ⊢
  have hPB : Below w.heap.size w (w.alloc (.cells #[.slice av vs.length cv, .slice ah hard.length ch, .slice ao soft.length co, .slice ad ds.length cd, .slice ag gs.length cg] 27)) := (Below.refl _ _).alloc (Nat.le_refl _) _
  have HFw := Lib.hid (HFw0.out _ hPB)
  clear hPB HFw0
  go_enter Tryz.func3, Tryz.ntmps3
  go_wp2_with fail
  refine HFw.out.mono ?_
  rintro e w1 ⟨⟨b, rfl, hbf⟩, hb1⟩
  simp only [World.size_alloc] at hb1
  have HB1 := Lib.hid hb1
  have hz1 := hb1.size
  simp only [World.size_alloc] at hz1
  clear hb1
  cases b
  · clear hbf
    go_wp2_with fail
    refine (HAw.out w1 (boxW _ HB1.out)).mono ?_
    rintro e w2 ⟨rfl, hb2⟩
    have HB2 : Hid (Below w.heap.size w w2) := (boxW _ HB1.out).trans (hb2.mono (boxW _ HB1.out).size)
    clear hb2
    go_wp2_with fail
    go_ret
    exact ⟨rfl, HB2.out⟩
  · have HFo := Lib.hid (hbf rfl)
    clear hbf
    have b0 := box_cell HB1.out 0
    have b1 := box_cell HB1.out 1
    have b2 := box_cell HB1.out 2
    have b3 := box_cell HB1.out 3
    have b4 := box_cell HB1.out 4
    (try simp at b0 b1 b2 b3 b4)
    go_wp2_with fail
    refine (HF0.out HFo.out w1 (boxW _ HB1.out)).mono ?_
    rintro e w2 ⟨hr, hb2⟩
    obtain ⟨a1, c1, rfl, hI1⟩ := HO.out _ _ hr
    have HB2 := Lib.hid (HB1.out.trans (hb2.mono hz1))
    have HI1 := Lib.hid hI1
    have hz2 := HB2.out.size
    simp only [World.size_alloc] at hz2
    clear hr hb2 hI1 b0 b1 b2 b3 b4
    have b0 := box_cell HB2.out 0
    have b1 := box_cell HB2.out 1
    have b2 := box_cell HB2.out 2
    have b3 := box_cell HB2.out 3
    have b4 := box_cell HB2.out 4
    (try simp at b0 b1 b2 b3 b4)
    go_wp2_with fail
    refine (HR0.out HFo.out w2 (boxW _ HB2.out)).mono ?_
    rintro e w3 ⟨hr, hb3⟩
    obtain ⟨a2, c2, rfl, hI2⟩ := HO.out _ _ hr
    have HB3 := Lib.hid (HB2.out.trans (hb3.mono hz2))
    have HIc := Lib.hid (HIn.out w3 _ _ _ _ (HI1.out.keep (keeps_of_below hb3)) hI2)
    clear hr hb3 hI2 b0 b1 b2 b3 b4
    have hee : (err == err) = true := by simp
    go_wp2_with fail
    refine HIc.out.mono ?_
    rintro e w4 ⟨rfl, hb4⟩
    have HB4 : Hid (Below w.heap.size w w4) := (boxW _ HB3.out).trans (hb4.mono (boxW _ HB3.out).size)
    clear hb4
    go_wp2_with fail
    refine (HAw.out w4 HB4.out).mono ?_
    rintro e w5 ⟨rfl, hb5⟩
    have HB5 : Hid (Below w.heap.size w w5) := HB4.out.trans (hb5.mono HB4.out.size)
    clear hb5
    go_wp2_with fail
    go_ret
    exact ⟨rfl, HB5.out⟩
end Go.Proofs.YtgdphjgedhadoaaGreatDoor
