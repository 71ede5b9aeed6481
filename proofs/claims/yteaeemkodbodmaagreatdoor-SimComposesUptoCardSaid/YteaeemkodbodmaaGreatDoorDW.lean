/- law32: the counter, plain. -/
import Derived.Test.YteaeemkodbodmaaGreatDoorDV
set_option linter.unusedSimpArgs false
set_option linter.unusedVariables false
set_option linter.unnecessarySimpa false
namespace Go.Proofs.YteaeemkodbodmaaGreatDoor
open Go.RowKit

noncomputable def vr : Ex := .mk 2 0 ⟨#[114]⟩ []
noncomputable def one1 : Ex := .mk 1 1 .empty []
noncomputable def cntE : Ex := .mk 7 0 .empty [vr, one1]
noncomputable def cntD : DesD := ⟨⟨#[100]⟩, [], [], [⟨⟨#[114]⟩, 4, 14, cntE⟩], []⟩
theorem nodes_leaf (op n : Int) (s : ByteArray) : (Ex.mk op n s []).nodes = [.mk op n s []] := by rw [Ex.nodes_eq]; simp [Ex.args_mk]
theorem nodes_cnt : cntE.nodes = [cntE, vr, one1] := by
  rw [Ex.nodes_eq]
  simp [cntE, Ex.args_mk, nodes_leaf, vr, one1]
theorem cnt_valid : validS cntE = 0 := by
  unfold validS
  rw [nodes_cnt]
  have h : firstE [cntE, vr, one1] = 0 := by decide
  rw [h, if_neg]
  rintro ⟨_, h | h⟩
  · rw [Ex.depth_eq] at h
    simp [cntE, vr, one1, Ex.args_mk, Ex.depth_eq] at h
  · simp at h
theorem names_cnt : namesS [2] cntE = [⟨#[114]⟩] := by
  unfold namesS
  rw [nodes_cnt]
  simp [addName, cntE, vr, one1, Lib.containsS, ByteArray.toList_eq, Ex.op_mk, Ex.name_mk]
  have h1 : Lib.idxOfS [] (⟨#[114]⟩ : ByteArray) = -1 := by rfl
  simp [h1]
theorem names_cnt' : namesS [3, 24] cntE = [] := by
  unfold namesS
  rw [nodes_cnt]
  simp [addName, cntE, vr, one1, Ex.op_mk, Ex.name_mk]
theorem val_cnt (env : Sigs) : valueS env cntE = operateS 7 [(findS env ⟨#[114]⟩).getD 0, 1] := by
  rw [valueS_eq]
  simp [cntE, vr, one1, valueS_eq, Ex.op_mk, Ex.n_mk, Ex.name_mk, Ex.args_mk]
theorem cnt_names : cntD.names = [⟨#[114]⟩] := rfl
theorem cnt_exprs : cntD.exprs = [cntE] := rfl
theorem cnt_order : cntD.order = [] := by rfl
theorem cnt_exErr : exprErr cntD.names cntE = 0 := by
  unfold exprErr
  rw [cnt_valid, names_cnt, names_cnt', cnt_names]
  have h : (idxT [(⟨#[114]⟩ : ByteArray)] ⟨#[114]⟩).isSome = true := idxT_mem (List.mem_singleton.2 rfl) rfl
  simp [h]
theorem cnt_sig : cntD.sigErr = 0 := by
  unfold DesD.sigErr
  decide
theorem cnt_err : cntD.err = 0 := by
  unfold DesD.err
  rw [cnt_sig, cnt_exprs, cnt_order, List.map_cons, cnt_exErr]
  rfl
theorem find_r (a : Int) : findS [(⟨#[114]⟩, a)] ⟨#[114]⟩ = some (wrapW a) := by simp [findS]
theorem eval_cnt (a : Int) : evalS [(⟨#[114]⟩, a)] cntE = (operateS 7 [wrapW a, 1], 0) := by
  unfold evalS
  rw [cnt_valid, if_neg (by simp), if_neg, val_cnt, find_r]
  · rfl
  · unfold knownS
    rw [names_cnt, names_cnt']
    simp [find_r]
theorem settle_cnt (a : Int) (inp : Sigs) : settleS cntD [a] inp = [(⟨#[114]⟩, a)] := by
  unfold settleS
  rw [cnt_order]
  rfl
theorem next_cnt (a : Int) : nextS cntD [(⟨#[114]⟩, a)] = [cutW (operateS 7 [wrapW a, 1]) 4] := by
  unfold nextS
  simp [cntD, eval_cnt]
theorem st_cnt0 (rows : List Sigs) : stN cntD rows 0 = [14] := rfl
theorem st_cnt1 (rows : List Sigs) : stN cntD rows 1 = [15] := by
  show nextS cntD (settleS cntD (stN cntD rows 0) _) = _
  rw [st_cnt0, settle_cnt, next_cnt]
  rfl
theorem st_cnt2 (rows : List Sigs) : stN cntD rows 2 = [0] := by
  show nextS cntD (settleS cntD (stN cntD rows 1) _) = _
  rw [st_cnt1, settle_cnt, next_cnt]
  rfl
theorem rows_cnt : rowsN cntD [[], [], []] = [[14], [15], [0]] := by
  have h : rowsN cntD [[], [], []] = [rowN cntD [[], [], []] 0, rowN cntD [[], [], []] 1, rowN cntD [[], [], []] 2] := rfl
  rw [h]
  unfold rowN
  rw [st_cnt0, st_cnt1, st_cnt2, settle_cnt, settle_cnt, settle_cnt]
  rfl
theorem inits_cnt : cntD.inits = [14] := rfl
end Go.Proofs.YteaeemkodbodmaaGreatDoor

/- law32: counter. -/
namespace Go.Proofs.YteaeemkodbodmaaGreatDoor
open Go.RowKit
attribute [local go_sem ↓] Go.wp_at_zero Go.wp_at_succ

theorem results_cell1 {fn : Func} {p : Tmp} {ty : TypeId} (h : fn.results = #[.cell p ty]) (tmps : Array Value) (P : Program) (w : World) :
    (results fn tmps).run P w = ((asAddr (tmps.getD p undef)).run P w).andThen fun a w₁ => (loadVar ty a).run P w₁ := by
  simp only [results, h]
  simp [Sem.run_bind, Result.andThen]
theorem counter_res (W : World) (tm : Array Value) (b : Nat) (m0 m1 m2 m3 m4 : Value) (hW : W.heap[b]? = some (.cells #[m0, m1, m2, m3, m4] 27 (0, 0))) (h0 : tm.getD 0 undef = .pointer (some ⟨b, 0, none⟩)) :
    (results Tryz.f20 tm).run Tryz.prog W = .ok (.agg #[m0, m1, m2, m3, m4]) W := by
  have hr : Tryz.f20.results = #[.cell 0 27] := rfl
  have c0 := cell_of_blk hW 0
  have c1 := cell_of_blk hW 1
  have c2 := cell_of_blk hW 2
  have c3 := cell_of_blk hW 3
  have c4 := cell_of_blk hW 4
  simp at c0 c1 c2 c3 c4
  rw [results_cell1 hr, h0]
  simp [asAddr]
  go_simp
theorem exsIn_nil (W : World) : ExsIn W [] none 0 := ⟨by simp, by simp, Or.inl rfl⟩
theorem cnt_in {W : World} {b : Nat} {k : Nat} (h1 : W.heap[b]? = some (.cells #[.int .i64 2, .int .i64 0, .string ⟨#[114]⟩, .slice none 0 0, .int .i64 1, .int .i64 1, .string ⟨#[]⟩, .slice none 0 0] 53 (0, 0)))
    (h2 : W.heap[k]? = some (.cells #[.string ⟨#[114]⟩, .int .i64 4, .int .i64 14, .int .i64 7, .int .i64 0, .string ⟨#[]⟩, .slice (some ⟨b, 0, none⟩) 2 2] 60 (0, 0))) : DesIn W cntD ⟨none, 0, none, 0, some ⟨k, 0, none⟩, 1, none, 0⟩ := by
  have e0 := cell_of_blk h1 0
  have e1 := cell_of_blk h1 1
  have e2 := cell_of_blk h1 2
  have e3 := cell_of_blk h1 3
  have e4 := cell_of_blk h1 4
  have e5 := cell_of_blk h1 5
  have e6 := cell_of_blk h1 6
  have e7 := cell_of_blk h1 7
  simp at e0 e1 e2 e3 e4 e5 e6 e7
  have r0 := cell_of_blk h2 0
  have r1 := cell_of_blk h2 1
  have r2 := cell_of_blk h2 2
  have r3 := cell_of_blk h2 3
  have r4 := cell_of_blk h2 4
  have r5 := cell_of_blk h2 5
  have r6 := cell_of_blk h2 6
  simp at r0 r1 r2 r3 r4 r5 r6
  have hx1 : ExAt W vr b 0 := (ExAt_iff _ _ _ _).2 ⟨none, 0, e0, e1, e2, e3, by decide, exsIn_nil W⟩
  have hx2 : ExAt W one1 b 4 := (ExAt_iff _ _ _ _).2 ⟨none, 0, e4, e5, e6, e7, by decide, exsIn_nil W⟩
  have hxs : ExsIn W [vr, one1] (some ⟨b, 0, none⟩) 2 := by
    refine ⟨by simp, by simp, Or.inr ⟨b, 0, rfl, fun i hi => ?_⟩⟩
    rcases i with _ | _ | i
    · exact ⟨vr, rfl, hx1⟩
    · exact ⟨one1, rfl, hx2⟩
    · simp at hi; omega
  have hx : ExAt W cntE k 3 := (ExAt_iff _ _ _ _).2 ⟨some ⟨b, 0, none⟩, 2, r3, r4, r5, r6, by decide, hxs⟩
  refine ⟨⟨by simp [cntD], by simp [cntD], Or.inl rfl⟩, ⟨by simp [cntD], by simp [cntD], Or.inl rfl⟩, ⟨by simp [cntD], by simp [cntD], Or.inr ⟨k, 0, rfl, fun i hi => ?_⟩⟩, ⟨by simp [cntD], by simp [cntD], Or.inl rfl⟩⟩
  rcases i with _ | i
  · exact ⟨_, rfl, r0, r1, r2, hx⟩
  · simp [cntD] at hi
set_option maxRecDepth 100000 in
set_option maxHeartbeats 8000000 in
theorem counter_any (w : World) :
    Calls Tryz.prog 20 #[] w fun e w' => (∃ a, e = .returned (desVal cntD ⟨none, 0, none, 0, a, 1, none, 0⟩) ∧ DesIn w' cntD ⟨none, 0, none, 0, a, 1, none, 0⟩) ∧ Below w.heap.size w w' := by
  generalize hPo : (fun e w' => (∃ a, e = Ending.returned (desVal cntD ⟨none, 0, none, 0, a, 1, none, 0⟩) ∧ DesIn w' cntD ⟨none, 0, none, 0, a, 1, none, 0⟩) ∧ Below w.heap.size w w') = Po
  have HPo := Lib.hid hPo
  clear hPo
  go_enter Tryz.func20, Tryz.ntmps20
  go_wp2_with fail
  refine bodyPost_ret (v := .agg #[.string ⟨#[100]⟩, .slice none 0 0, .slice none 0 0, .slice (some ⟨w.heap.size + 1 + 1 + 1, 0, none⟩) 1 1, .slice none 0 0]) (counter_res _ _ w.heap.size _ _ _ _ _ ?_ rfl) rfl ?_
  · rw [Below.heap_alloc _ _ _ (by simp; omega), Below.heap_alloc _ _ _ (by simp; omega), Below.heap_alloc _ _ _ (by simp)]
    exact heap_alloc_at _ _ _ rfl
  · rw [← HPo.out]
    refine ⟨⟨_, rfl, cnt_in (b := w.heap.size + 1) ?_ ?_⟩, (by repeat (first | assumption | exact Below.refl _ _ | refine Below.drew ?_ | refine below_drewN ?_ _ | refine Below.alloc ?_ (by first | omega | (simp only [World.size_alloc, World.size_setCell, World.size_drew, World.heap_drewN] <;> omega) | (simp <;> omega)) _ | refine Below.setCell ?_ (by first | omega | (simp only [World.size_alloc, World.size_setCell, World.size_drew, World.heap_drewN] <;> omega) | (simp <;> omega)) _))⟩
    · rw [Below.heap_alloc _ _ _ (by simp), Below.heap_alloc _ _ _ (by simp)]
      exact heap_alloc_at _ _ _ (by simp)
    · exact heap_alloc_at _ _ _ (by simp)
end Go.Proofs.YteaeemkodbodmaaGreatDoor
