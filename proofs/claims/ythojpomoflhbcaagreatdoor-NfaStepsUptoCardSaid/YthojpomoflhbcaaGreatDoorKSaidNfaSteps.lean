/- The statement NfaSteps (the card of the second form): for every automaton, list of threads and list of signals that together hold at most 1048576 values and letters: the law returns true, and the arguments read as they did before. -/
import Derived.Test.YthojpomoflhbcaaGreatDoorM09
import Derived.Test.YthojpomoflhbcaaGreatDoorM41
set_option linter.unusedSimpArgs false
set_option linter.unusedVariables false
set_option linter.unnecessarySimpa false
namespace Go.Proofs.YthojpomoflhbcaaGreatDoor
open Go.ChangeShapes Go.WideShapes Go.ChangeAt Go.RowKit
set_option maxRecDepth 100000 in
theorem nfaSteps_contract (H:Type) (enc:TypeId × Value→H) (W:World) (base:Nat) (args:Array Value) (ds gs:List (DataW H)) (before:List MemPlace)
  (hval:∀ (j:Nat) t v, Tryz.f4.params[j]? = some t→args[j]? = some v→Value.okWide Tryz.prog W .any base t v)
  (hW:DataW.Whole enc Tryz.prog Tryz.f4.params.toList Rows.nfaStepsSpec.vars false W args.toList ds gs before) (hk:Rows.uptoSmall H (ds++gs)=true) (hG:Glob W) :
  Calls Tryz.prog 4 args W fun e W'=>∃ v,e=.returned v∧Rows.nfaStepsSpec.post enc Tryz.prog Tryz.f4 false true false false W args v W':=by
 have hW':=hW
 obtain⟨p,q,hA0,hV,rfl,hfz,hnd⟩:=hW
 have hA:DataW.TrodAll enc Tryz.prog W 0 (fun _=>true) true Tryz.f4.params.toList args.toList ds p:=hA0
 rw[Tryz.params4] at hA hval
 obtain⟨v0,v1,v2,d0,d1,d2,p0,p1,p2,rfl,rfl,rfl,h0,h1,h2⟩:=trodAll_three hA
 obtain⟨rfl,rfl⟩:=trodVars_none hV
 clear hA0 hA hV
 have hb:=of_decide_eq_true hk
 simp only[List.append_nil,Rows.uptoBulkAll] at hb hW'
 have hlt:∀ x∈p0++p1++p2,x.block < W.heap.size:=fun x hx=>by simpa using hW'.lt x (by simpa using hx)
 obtain⟨N0,y0,rfl,hP0⟩:=arg_nfa (hval 0 _ v0 rfl rfl) h0 (by omega)
 obtain⟨l1,al1,cl1,rfl,hP1⟩:=arg_threads (hval 1 _ v1 rfl rfl) h1 (by omega)
 obtain⟨l2,al2,cl2,rfl,hP2⟩:=arg_sigs (hval 2 _ v2 rfl rfl) h2 (by omega)
 refine(NfaSteps_any N0 y0 l1 al1 cl1 l2 al2 cl2 W hP0 hP1 hP2 hG).mono ?_
 rintro e W' ⟨rfl,bel⟩
 refine⟨_,rfl,_,_,_,[],p0++(p1++p2),[],hW',?_,?_,?_,bel.frame _,fun h=>by cases h⟩
 ·exact trodAll_mk1 (shut_bool Tryz.underlying4 _)
 ·exact trodAll_mk3 (Below.trod laidOutK (by kernel_rfl) (of_decide_eq_true (by kernel_rfl)) h0 bel (fun x hx=>hlt x (by simp[hx]))) (Below.trod laidOutK (by kernel_rfl) (of_decide_eq_true (by kernel_rfl)) h1 bel (fun x hx=>hlt x (by simp[hx]))) (Below.trod laidOutK (by kernel_rfl) (of_decide_eq_true (by kernel_rfl)) h2 bel (fun x hx=>hlt x (by simp[hx])))
 ·rfl
theorem nfaSteps_reads (os:Os) {H:Type} (enc:TypeId × Value→H) :
  (Rows.OpenSpec.upto Rows.nfaStepsSpec).preRow enc Tryz.prog Tryz.f4 Rows.nfaStepsUptoRow.domain false Rows.nfaStepsUptoRow.laid ((laidWorld os).forCall (fun _ _=>0) ⟨#[],#[.agg #[.int .i64 0,.slice none 0 0,.slice none 0 0],.slice none 0 0,.slice none 0 0],[]⟩).memory #[.agg #[.int .i64 0,.slice none 0 0,.slice none 0 0],.slice none 0 0,.slice none 0 0]:=by
 have hw:(DataW.whole enc Tryz.prog ((laidWorld os).forCall (fun _ _=>0) ⟨#[],#[.agg #[.int .i64 0,.slice none 0 0,.slice none 0 0],.slice none 0 0,.slice none 0 0],[]⟩).memory Tryz.f4.params.toList Rows.nfaStepsSpec.vars false #[Value.agg #[.int .i64 0,.slice none 0 0,.slice none 0 0],.slice none 0 0,.slice none 0 0].toList 8).map (fun x=>(x.1,x.2.1)) =
   some ([.agg [.lit (.int .i64 0),.nil,.nil],.nil,.nil],[]):=by kernel_rfl
 obtain⟨⟨x1,x2,x3⟩,hx,hx1⟩:=Option.map_eq_some_iff.1 hw
 simp only[Prod.mk.injEq] at hx1
 obtain⟨rfl,rfl⟩:=hx1
 exact OpenSpec.preRow_of_cond 8 hx (by kernel_rfl) (fun k hk=>by cases hk;kernel_rfl) (by kernel_rfl) (laid_met os _)
set_option maxRecDepth 100000 in
theorem nfaSteps_lifted (os:Os) (started:os.Started) (H:Type) (enc:TypeId × Value→H) (F:Stop.Interp) :
  ReturnsInHanded {} Tryz.checked os 4 .any ((Rows.OpenSpec.upto Rows.nfaStepsSpec).preRow enc Tryz.prog Tryz.f4 Rows.nfaStepsUptoRow.domain false Rows.nfaStepsUptoRow.laid) (((Rows.OpenSpec.upto Rows.nfaStepsSpec).at F).post enc Tryz.prog Tryz.f4 false true false false):=by
 refine returnsInHanded_of_row (C:=Tryz.checked) (s:=Rows.OpenSpec.upto Rows.nfaStepsSpec) ownK started (by kernel_rfl) Tryz.func4
  (witness_row_atRef (enc:=enc) (C:=Tryz.checked) false (laidWorld os) #[.agg #[.int .i64 0,.slice none 0 0,.slice none 0 0],.slice none 0 0,.slice none 0 0] rfl (by kernel_rfl) (by kernel_rfl) (by kernel_rfl) (nfaSteps_reads os enc)) ?_
 intro W base args ds gs before hval hW _ hcond _ hL hsh _
 exact nfaSteps_contract H enc W base args ds gs before hval hW (hcond _ rfl) (glob_laid hsh hL)
theorem and_tt {a b:Bool} (ha:a=true) (hb:b=true):(a && b)=true:=by rw[ha,hb];rfl
set_option maxHeartbeats 4000000 in
theorem nfaSteps_said:Rows.NfaStepsUptoSaid :=
 OpenClaim.holds_of_cond 4 Tryz.f4 rfl rfl rfl rfl rfl rfl rfl ⟨rfl,rfl,rfl,rfl,rfl⟩ rfl rfl rfl rfl rfl (by as_aux_lemma=>kernel_rfl) Tryz.func4 (by
   unfold joinedFacts
   repeat' (with_reducible refine and_tt ?_ ?_)
   all_goals (as_aux_lemma=>kernel_rfl))
  (of_decide_eq_true (by as_aux_lemma=>kernel_rfl)) (by unfold Func.isWrapper;first | (rw[if_pos (by decide +kernel)];kernel_rfl) | (rw[if_neg (by decide +kernel)];exact⟨rfl,rfl⟩))
  (fun os started H enc _ F=>by rw[OpenClaim.pre_eq_preRow];exact nfaSteps_lifted os started H enc F)
theorem nfaSteps_plain (f:FuncId) (fn:Func) (hf : Tryz.pinned.checked.prog.funcNamed "testbench/testbenchlaw41.NfaSteps"=some f) (hfn : Tryz.pinned.checked.prog.funcs[f]? = some fn) :
  false=Tryz.pinned.checked.prog.looks []∧∀ (j:Nat) t,fn.params[j]? = some t→Tryz.pinned.checked.prog.wantsStandIn t=false:=by
 obtain rfl:f=4:=Option.some.inj ((show Tryz.prog.funcNamed "testbench/testbenchlaw41.NfaSteps"=some 4 by kernel_rfl).symm.trans hf) |>.symm
 obtain rfl:fn=Tryz.f4:=(Option.some.inj (Tryz.func4.symm.trans hfn)).symm
 refine⟨by kernel_rfl,fun j t ht=>?_⟩
 rw[Tryz.params4] at ht
 have hm:t∈[33, 38, 39]:=by simpa using Array.mem_of_getElem? ht
 have hall:([33, 38, 39].all fun u=>!Tryz.prog.wantsStandIn u)=true:=by kernel_rfl
 exact(show Tryz.prog.wantsStandIn t=false by simpa using List.all_eq_true.1 hall t hm)
theorem nfaSteps_holds:Rows.NfaStepsUptoCardSaid :=
 Claim7.holds_tied_plain_at .later [] _ _ _ _ nfaSteps_said (fun _ h=>by cases h) (by kernel_rfl) (fun _ h=>by cases h) nfaStepsUpto_row_tie rfl ⟨rfl,rfl⟩ (by kernel_rfl) rfl nfaSteps_plain (by kernel_rfl)
end Go.Proofs.YthojpomoflhbcaaGreatDoor
