/- The statement MutateFlips (the card of the second form): for every design, place and list of lists of signals that together hold at most 1048576 values and letters: the law returns true, and the arguments read as they did before. -/
import Derived.Test.YtebneadheaefdaaGreatDoorFU
set_option linter.unusedSimpArgs false
set_option linter.unusedVariables false
set_option linter.unnecessarySimpa false
namespace Go.Proofs.YtebneadheaefdaaGreatDoor
open Go.ChangeShapes Go.WideShapes Go.ChangeAt Go.RowKit
theorem and_tt {a b : Bool} (ha : a = true) (hb : b = true) : (a && b) = true := by rw [ha, hb]; rfl
set_option maxHeartbeats 4000000 in
theorem mutateFlips_said:Rows.MutateFlipsUptoSaid :=
 OpenClaim.holds_of_cond 11 Tryz.f11 rfl rfl rfl rfl rfl rfl rfl ⟨rfl,rfl,rfl,rfl,rfl⟩ rfl rfl rfl rfl rfl (by as_aux_lemma=>kernel_rfl) Tryz.func11 (by
   unfold joinedFacts
   repeat' (with_reducible refine and_tt ?_ ?_)
   all_goals (as_aux_lemma=>kernel_rfl))
  (of_decide_eq_true (by as_aux_lemma=>kernel_rfl)) (by unfold Func.isWrapper;first | (rw[if_pos (by decide +kernel)];kernel_rfl) | (rw[if_neg (by decide +kernel)];exact⟨rfl,rfl⟩))
  (fun os started H enc _ F=>by rw[OpenClaim.pre_eq_preRow];exact mutateFlips_lifted os started H enc F)
theorem mutateFlips_plain (f:FuncId) (fn:Func) (hf : Tryz.pinned.checked.prog.funcNamed "testbench/testbenchlaw34.MutateFlips"=some f) (hfn : Tryz.pinned.checked.prog.funcs[f]? = some fn) :
  false=Tryz.pinned.checked.prog.looks []∧∀ (j:Nat) t,fn.params[j]? = some t→Tryz.pinned.checked.prog.wantsStandIn t=false:=by
 obtain rfl:f=11:=Option.some.inj ((show Tryz.prog.funcNamed "testbench/testbenchlaw34.MutateFlips"=some 11 by kernel_rfl).symm.trans hf) |>.symm
 obtain rfl:fn=Tryz.f11:=(Option.some.inj (Tryz.func11.symm.trans hfn)).symm
 refine⟨by kernel_rfl,fun j t ht=>?_⟩
 rw[Tryz.params11] at ht
 have hm:t∈[27, 59, 28]:=by simpa using Array.mem_of_getElem? ht
 have hall:([27, 59, 28].all fun u=>!Tryz.prog.wantsStandIn u)=true:=by kernel_rfl
 exact(show Tryz.prog.wantsStandIn t=false by simpa using List.all_eq_true.1 hall t hm)
theorem mutateFlips_holds:Rows.MutateFlipsUptoCardSaid :=
 Claim7.holds_tied_plain_at .later [] _ _ _ _ mutateFlips_said (fun _ h=>by cases h) (by kernel_rfl) (fun _ h=>by cases h) mutateFlipsUpto_row_tie rfl ⟨rfl,rfl⟩ (by kernel_rfl) rfl mutateFlips_plain (by kernel_rfl)
end Go.Proofs.YtebneadheaefdaaGreatDoor
