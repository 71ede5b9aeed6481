/- law: two. -/
import Derived.Test.YtgdphjgedhadoaaGreatDoorKO
import Derived.Laws.ResultCell
set_option linter.unusedSimpArgs false
set_option linter.unusedVariables false
set_option linter.unnecessarySimpa false
namespace Go.Proofs.YtgdphjgedhadoaaGreatDoor
open Go.RowKit

def p2 : ProbD := ⟨[⟨⟨#[120]⟩, 1, 1, 0⟩, ⟨⟨#[121]⟩, 1, 1, 0⟩], [], [], [], [[0, 1]]⟩
noncomputable def sum2 : Ex := .mk 7 0 ⟨#[]⟩ [.mk 2 0 ⟨#[120]⟩ [], .mk 2 0 ⟨#[121]⟩ []]
noncomputable def l2 : List Ex := [.mk 15 0 ⟨#[]⟩ [sum2, .mk 1 1 ⟨#[]⟩ []]]
def x2 (b : Nat) : ProbA := ⟨some ⟨b + 1, 0, none⟩, 2, none, 0, none, 0, none, 0, some ⟨b + 3, 0, none⟩, 1⟩
/-- the blocks that two lays -/
structure TwoBlk (W : World) (b : Nat) : Prop where
  h1 : W.heap[b + 1]? = some (.cells #[.string ⟨#[120]⟩, .int .i64 1, .int .i64 1, .int .i64 0, .string ⟨#[121]⟩, .int .i64 1, .int .i64 1, .int .i64 0] 87 (0, 0))
  h2 : W.heap[b + 2]? = some (.cells #[.int .i64 0, .int .i64 1] 3 (0, 0))
  h3 : W.heap[b + 3]? = some (.cells #[.slice (some ⟨b + 2, 0, none⟩) 2 2] 30 (0, 0))
  h5 : W.heap[b + 5]? = some (.cells #[.int .i64 2, .int .i64 0, .string ⟨#[120]⟩, .slice none 0 0, .int .i64 2, .int .i64 0, .string ⟨#[121]⟩, .slice none 0 0] 57 (0, 0))
  h7 : W.heap[b + 7]? = some (.cells #[.int .i64 7, .int .i64 0, .string ⟨#[]⟩, .slice (some ⟨b + 5, 0, none⟩) 2 2, .int .i64 1, .int .i64 1, .string ⟨#[]⟩, .slice none 0 0] 57 (0, 0))
  h8 : W.heap[b + 8]? = some (.cells #[.int .i64 15, .int .i64 0, .string ⟨#[]⟩, .slice (some ⟨b + 7, 0, none⟩) 2 2] 57 (0, 0))
theorem cell_of_blk {W : World} {k : Nat} {c : Array Value} {t : TypeId} {fz : Nat × Nat} (h : W.heap[k]? = some (.cells c t fz)) (o : Nat) : W.cell? ⟨k, o, none⟩ = c[o]? := by simp [World.cell?, h]
theorem TwoBlk.vars {W : World} {b : Nat} (h : TwoBlk W b) : VarsIn W p2.vars (some ⟨b + 1, 0, none⟩) 2 := by
  refine ⟨by simp [p2], by simp [p2], Or.inr ⟨b + 1, 0, rfl, fun i hi => ?_⟩⟩
  have hc := cell_of_blk h.h1
  rcases i with _ | _ | i
  · exact ⟨_, rfl, by rw [hc]; rfl, by rw [hc]; rfl, by rw [hc]; rfl, by rw [hc]; rfl, by decide⟩
  · exact ⟨_, rfl, by rw [hc]; rfl, by rw [hc]; rfl, by rw [hc]; rfl, by rw [hc]; rfl, by decide⟩
  · have : i + 1 + 1 < 2 := hi
    omega
theorem TwoBlk.ints {W : World} {b : Nat} (h : TwoBlk W b) : IntsIn W [0, 1] (some ⟨b + 2, 0, none⟩) 2 := by
  refine ⟨by simp, by simp, Or.inr ⟨b + 2, 0, rfl, fun i hi => ?_⟩⟩
  have hc := cell_of_blk h.h2
  rcases i with _ | _ | i
  · exact ⟨_, rfl, by rw [hc]; rfl⟩
  · exact ⟨_, rfl, by rw [hc]; rfl⟩
  · have : i + 1 + 1 < 2 := hi
    omega
theorem TwoBlk.groups {W : World} {b : Nat} (h : TwoBlk W b) : RowsIn W p2.groups (some ⟨b + 3, 0, none⟩) 1 := by
  refine ⟨by simp [p2], by simp [p2], Or.inr ⟨b + 3, 0, rfl, fun i hi => ?_⟩⟩
  have hc := cell_of_blk h.h3
  rcases i with _ | i
  · exact ⟨_, rfl, _, _, by rw [hc]; rfl, h.ints⟩
  · simp [p2] at hi
theorem TwoBlk.prob {W : World} {b : Nat} (h : TwoBlk W b) : ProbIn W p2 (x2 b) :=
  ⟨h.vars, ⟨by simp [p2], by simp [p2], Or.inl rfl⟩, ⟨by simp [p2], by simp [p2], Or.inl rfl⟩, ⟨by simp [p2], by simp [p2], Or.inl rfl⟩, h.groups⟩
theorem exsIn_nil (W : World) : ExsIn W [] none 0 := ⟨by simp, by simp, Or.inl rfl⟩
theorem leafIn (W : World) (op n : Int) (s : ByteArray) (hs : s.size ≤ 1073741824) : ExIn W (.mk op n s []) none 0 := ⟨hs, exsIn_nil W⟩
theorem TwoBlk.sum {W : World} {b : Nat} (h : TwoBlk W b) : ExIn W sum2 (some ⟨b + 5, 0, none⟩) 2 := by
  refine ⟨by decide, by simp [sum2, Ex.args_mk], by simp [sum2, Ex.args_mk], Or.inr ⟨b + 5, 0, rfl, fun i hi => ?_⟩⟩
  have hc := cell_of_blk h.h5
  rcases i with _ | _ | i
  · exact ⟨_, rfl, (ExAt_iff _ _ _ _).2 ⟨none, 0, by rw [hc]; rfl, by rw [hc]; rfl, by rw [hc]; rfl, by rw [hc]; rfl, leafIn _ _ _ _ (by decide)⟩⟩
  · exact ⟨_, rfl, (ExAt_iff _ _ _ _).2 ⟨none, 0, by rw [hc]; rfl, by rw [hc]; rfl, by rw [hc]; rfl, by rw [hc]; rfl, leafIn _ _ _ _ (by decide)⟩⟩
  · have : i + 1 + 1 < 2 := hi
    omega
theorem TwoBlk.exs {W : World} {b : Nat} (h : TwoBlk W b) : ExsIn W l2 (some ⟨b + 8, 0, none⟩) 1 := by
  refine ⟨by simp [l2], by simp [l2], Or.inr ⟨b + 8, 0, rfl, fun i hi => ?_⟩⟩
  have hc := cell_of_blk h.h8
  have hd := cell_of_blk h.h7
  rcases i with _ | i
  · refine ⟨_, rfl, (ExAt_iff _ _ _ _).2 ⟨some ⟨b + 7, 0, none⟩, 2, by rw [hc]; rfl, by rw [hc]; rfl, by rw [hc]; rfl, by rw [hc]; rfl, by decide, by simp [Ex.args_mk], by simp [Ex.args_mk], Or.inr ⟨b + 7, 0, rfl, fun i hi => ?_⟩⟩⟩
    rcases i with _ | _ | i
    · exact ⟨_, rfl, (ExAt_iff _ _ _ _).2 ⟨some ⟨b + 5, 0, none⟩, 2, by rw [hd]; rfl, by rw [hd]; rfl, by rw [hd]; rfl, by rw [hd]; rfl, h.sum⟩⟩
    · exact ⟨_, rfl, (ExAt_iff _ _ _ _).2 ⟨none, 0, by rw [hd]; rfl, by rw [hd]; rfl, by rw [hd]; rfl, by rw [hd]; rfl, leafIn _ _ _ _ (by decide)⟩⟩
    · have : i + 1 + 1 < 2 := hi
      omega
  · simp [l2] at hi
set_option maxRecDepth 100000 in
set_option maxHeartbeats 4000000 in
theorem two_any (w : World) :
    Calls Tryz.prog 44 #[] w fun r w' => r = .returned (.tuple #[probVal p2 (x2 w.heap.size), .slice (some ⟨w.heap.size + 8, 0, none⟩) 1 1]) ∧ TwoBlk w' w.heap.size ∧ Below w.heap.size w w' := by
  go_enter Tryz.func44, Tryz.ntmps44
  go_wp2_with fail
  go_region
  go_wp2_with fail
  have hr : Tryz.f44.results = #[.cell 0 27, .tmp 1] := rfl
  refine bodyPost_ret (v := .tuple #[probVal p2 (x2 w.heap.size), .slice (some ⟨w.heap.size + 8, 0, none⟩) 1 1]) ?_ rfl ⟨rfl, ?_, ?_⟩
  · have hb : ∀ (W : World) (tm : Array Value), W.heap[w.heap.size]? = some (.cells #[.slice (some ⟨w.heap.size + 1, 0, none⟩) 2 2, .slice none 0 0, .slice none 0 0, .slice none 0 0, .slice (some ⟨w.heap.size + 1 + 1 + 1, 0, none⟩) 1 1] 27 (0, 0)) → tm.getD 0 undef = .pointer (some ⟨w.heap.size, 0, none⟩) → tm.getD 1 undef = .slice (some ⟨w.heap.size + 8, 0, none⟩) 1 1 → (results Tryz.f44 tm).run Tryz.prog W = .ok (.tuple #[probVal p2 (x2 w.heap.size), .slice (some ⟨w.heap.size + 8, 0, none⟩) 1 1]) W := fun W tm hW h0 h1 => by
      have c := cell_of_blk hW
      have c0 := c 0
      have c1 := c 1
      have c2 := c 2
      have c3 := c 3
      have c4 := c 4
      simp at c0 c1 c2 c3 c4
      rw [results_cell_tmp hr, h0, h1]
      simp [asAddr]
      go_simp
      rfl
    refine hb _ _ ?_ rfl rfl
    show (World.drew _).heap[_]? = _
    show (World.alloc _ _).heap[_]? = _
    iterate 8 rw [Below.heap_alloc _ _ _ (by simp only [World.size_alloc]; omega)]
    exact heap_alloc_at _ _ _ rfl
  · refine ⟨?_, ?_, ?_, ?_, ?_, ?_⟩
    all_goals (first | show (World.drew _).heap[_]? = _ | skip)
    all_goals (try (show (World.alloc _ _).heap[_]? = _))
    all_goals (repeat (first | exact heap_alloc_at _ _ _ (by simp) | rw [Below.heap_alloc _ _ _ (by simp)]))
  · exact (by repeat (first | assumption | exact Below.refl _ _ | refine Below.drew ?_ | refine below_drewN ?_ _ | refine Below.alloc ?_ (by first | omega | (simp only [World.size_alloc, World.size_setCell, World.size_drew, World.heap_drewN] <;> omega) | (simp <;> omega)) _ | refine Below.setCell ?_ (by first | omega | (simp only [World.size_alloc, World.size_setCell, World.size_drew, World.heap_drewN] <;> omega) | (simp <;> omega)) _))
end Go.Proofs.YtgdphjgedhadoaaGreatDoor

/- plain facts of two's problem. -/
namespace Go.Proofs.YtgdphjgedhadoaaGreatDoor
open Go.RowKit

theorem p2_vars_ok : VarsOk p2.vars := by
  refine ⟨by decide, ?_, ?_, ?_, by decide⟩
  · intro i h
    rcases i with _ | _ | i
    · show varOkB ⟨⟨#[120]⟩, 1, 1, 0⟩ = true
      decide
    · show varOkB ⟨⟨#[121]⟩, 1, 1, 0⟩ = true
      decide
    · have : i + 1 + 1 < 2 := h
      omega
  · rintro i hi ⟨_, j, hj, he⟩
    rcases i with _ | _ | i
    · omega
    · obtain rfl : j = 0 := by omega
      rw [toList_eq_iff] at he
      exact absurd (show ([120] : List UInt8) = [121] from he) (by decide)
    · have : i + 1 + 1 < 2 := hi
      omega
  · rintro ⟨v, hv, A, n, h1, h2, h3, _⟩
    rw [toList_eq_iff] at h3
    have h4 := congrArg List.length h3
    have h5 : v.name.data.toList.length = 1 := by
      simp [p2] at hv
      rcases hv with rfl | rfl <;> rfl
    rw [h5] at h4
    simp [elName] at h4
theorem p2_ok : ProbOk p2 := by
  refine ⟨p2_vars_ok, fun i h => absurd h (by simp [p2]), fun i h => absurd h (by simp [p2]), fun i h => absurd h (by simp [p2]), ?_, ?_, ?_⟩
  · intro g hg; simp [p2] at hg; subst hg; simp
  · intro g hg v hv
    simp [p2] at hg; subst hg
    simp at hv
    rcases hv with rfl | rfl <;> decide
  · intro i h
    rcases i with _ | _ | i
    · rfl
    · rfl
    · have : i + 1 + 1 < 2 := h
      omega
noncomputable def vx : Ex := .mk 2 0 ⟨#[120]⟩ []
noncomputable def vy : Ex := .mk 2 0 ⟨#[121]⟩ []
noncomputable def one2 : Ex := .mk 1 1 ⟨#[]⟩ []
noncomputable def eq2 : Ex := .mk 15 0 ⟨#[]⟩ [sum2, one2]
theorem l2_eq : l2 = [eq2] := rfl
theorem nodes_leaf (op n : Int) (s : ByteArray) : (Ex.mk op n s []).nodes = [.mk op n s []] := by rw [Ex.nodes_eq]; simp [Ex.args_mk]
theorem nodes_sum : sum2.nodes = [sum2, vx, vy] := by
  rw [Ex.nodes_eq]
  simp [sum2, Ex.args_mk, nodes_leaf, vx, vy]
theorem nodes_eq2 : eq2.nodes = [eq2, sum2, vx, vy, one2] := by
  rw [Ex.nodes_eq]
  simp [eq2, Ex.args_mk, nodes_leaf, nodes_sum, one2]
theorem eq2_valid : validS eq2 = 0 := by
  unfold validS
  rw [nodes_eq2]
  have h : firstE [eq2, sum2, vx, vy, one2] = 0 := by decide
  rw [h, if_neg]
  rintro ⟨_, h | h⟩
  · rw [Ex.depth_eq] at h
    simp [eq2, sum2, one2, Ex.args_mk, Ex.depth_eq] at h
  · simp at h
theorem eq2_ok : ExprOk p2.vars eq2 := by
  refine ⟨eq2_valid, ?_, ?_⟩
  · rw [nodes_eq2]; decide
  · rw [nodes_eq2]
    simp [forN, eq2, sum2, vx, vy, one2, p2, findV, ByteArray.toList_eq]
    decide
theorem val_eq2 (env : List (ByteArray × Int)) : valueS env eq2 = operateS 15 [operateS 7 [(findS env ⟨#[120]⟩).getD 0, (findS env ⟨#[121]⟩).getD 0], 1] := by
  rw [valueS_eq]
  simp [eq2, sum2, one2, valueS_eq, Ex.op_mk, Ex.n_mk, Ex.name_mk, Ex.args_mk]
theorem names_eq2 : namesS [2] eq2 = [⟨#[120]⟩, ⟨#[121]⟩] := by
  unfold namesS
  rw [nodes_eq2]
  simp [addName, eq2, sum2, vx, vy, one2, Lib.containsS, ByteArray.toList_eq, Ex.op_mk, Ex.name_mk]
  have h1 : Lib.idxOfS [] (⟨#[120]⟩ : ByteArray) = -1 := by rfl
  have h2 : Lib.idxOfS [(⟨#[120]⟩ : ByteArray)] ⟨#[121]⟩ = -1 := by first | rfl | decide | simp [Lib.idxOfS]
  simp [h1, h2]
theorem names_eq2' : namesS [3, 24] eq2 = [] := by
  unfold namesS
  rw [nodes_eq2]
  simp [addName, eq2, sum2, vx, vy, one2, Ex.op_mk, Ex.name_mk]
theorem find_x (a b : Int) : findS [(⟨#[120]⟩, a), (⟨#[121]⟩, b)] ⟨#[120]⟩ = some (wrapW a) := by simp [findS]
theorem find_y (a b : Int) : findS [(⟨#[120]⟩, a), (⟨#[121]⟩, b)] ⟨#[121]⟩ = some (wrapW b) := by simp [findS, ByteArray.toList_eq]
theorem eval_eq2 (a b : Int) : evalS [(⟨#[120]⟩, a), (⟨#[121]⟩, b)] eq2 = (operateS 15 [operateS 7 [wrapW a, wrapW b], 1], 0) := by
  unfold evalS
  rw [eq2_valid, if_neg (by simp), if_neg, val_eq2, find_x, find_y]
  · rfl
  · unfold knownS
    rw [names_eq2, names_eq2']
    simp [find_x, find_y]
theorem env_p2 (a b : Int) : envS p2.vars [a, b] = [(⟨#[120]⟩, a), (⟨#[121]⟩, b)] := rfl
theorem hit_p2 (k : Nat) (a b : Int) (h : nthN p2.vars k = [a, b]) : hitN p2.vars l2 k = (operateS 15 [operateS 7 [wrapW a, wrapW b], 1] != 0) := by
  unfold hitN allS
  rw [h, l2_eq, env_p2]
  simp [eval_eq2]
theorem tot_p2 : totN p2.vars = 4 := by decide
theorem nth0 : nthN p2.vars 0 = [0, 0] := by decide
theorem nth1 : nthN p2.vars 1 = [0, 1] := by decide
theorem nth2 : nthN p2.vars 2 = [1, 0] := by decide
theorem hit0 : hitN p2.vars l2 0 = false := by rw [hit_p2 0 0 0 nth0]; decide
theorem hit1 : hitN p2.vars l2 1 = true := by rw [hit_p2 1 0 1 nth1]; decide
theorem hit2 : hitN p2.vars l2 2 = true := by rw [hit_p2 2 1 0 nth2]; decide
theorem asg01 : Asg p2.vars [0, 1] := by
  rw [← nth1]
  exact asg_nth p2_vars_ok.ok 1
theorem num01 : numN p2.vars [0, 1] = 1 := by decide
theorem asg11 : Asg p2.vars [1, 1] := by
  have h : nthN p2.vars 3 = [1, 1] := by decide
  rw [← h]
  exact asg_nth p2_vars_ok.ok 3
theorem com2 (steps : Int) (h0 : 0 ≤ steps) (h1 : steps ≤ 262144) : ComOk p2 l2 steps := by
  refine ⟨p2_ok, h0, h1, fun i h => ?_⟩
  rcases i with _ | i
  · exact eq2_ok
  · have : i + 1 < 1 := h
    omega
theorem scan2 : scanN (hitN p2.vars l2) (totN p2.vars) 2 0 = (some 1, 2, 0) := by
  rw [tot_p2, scanN_miss (by omega) hit0, scanN_hit (by omega) hit1]
theorem scan1 : scanN (hitN p2.vars l2) (totN p2.vars) 1 0 = (none, 1, 0) := by
  rw [tot_p2, scanN_miss (by omega) hit0]; rfl
theorem scan9 : scanN (hitN p2.vars l2) (totN p2.vars) 9 2 = (some 2, 3, 8) := by
  rw [tot_p2, scanN_hit (by omega) hit2]
theorem p2_small : ProbSmall p2 := ⟨fun e he => absurd he (by simp [p2]), fun e he => absurd he (by simp [p2]), by simp [p2]⟩
theorem l2_small : ExsSmall l2 := fun e he => by
  rw [l2_eq] at he
  obtain rfl := List.mem_singleton.1 he
  rw [nodes_eq2]; simp
end Go.Proofs.YtgdphjgedhadoaaGreatDoor
