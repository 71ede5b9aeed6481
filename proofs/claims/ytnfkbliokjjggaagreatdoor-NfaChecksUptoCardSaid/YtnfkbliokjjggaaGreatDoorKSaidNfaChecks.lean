/- The statement NfaChecks (the card of the second form): for every automaton that together hold at most 1048576 values and letters: the law returns true, and the arguments read as they did before. -/
import Derived.Test.YtnfkbliokjjggaaGreatDoorH11
import Derived.Test.YtnfkbliokjjggaaGreatDoorH51
set_option maxRecDepth 100000
set_option maxHeartbeats 4000000
set_option linter.unusedSimpArgs false
set_option linter.unusedVariables false
set_option linter.unnecessarySimpa false
namespace Go.Proofs.YtnfkbliokjjggaaGreatDoor
open Go.ChangeShapes Go.WideShapes Go.ChangeAt Go.RowKit
theorem nfaChecks_contract (H:Type) (enc:TypeId×Value->H) (W:World) (base:Nat) (args:Array Value) (ds gs:List (DataW H)) (before:List MemPlace)
 (hval:∀(j:Nat) t v, Tryz.f4.params[j]? = some t->args[j]? = some v->Value.okWide Tryz.prog W .any base t v)
 (hW:DataW.Whole enc Tryz.prog Tryz.f4.params.toList Rows.nfaChecksSpec.vars false W args.toList ds gs before) (hk:Rows.uptoSmall H (ds++gs)=true) (hG:qW W) (hT:Lib.TabIs Tryz.prog W "internal/strconv.uint64pow10" .u64 Lib.pow10Tab) :
 Calls Tryz.prog 4 args W λe W'=>∃v,e=.returned v/\Rows.nfaChecksSpec.post enc Tryz.prog Tryz.f4 false true false false W args v W':=by
 have hW':=hW;obtain⟨p,q,hA0,hV,rfl,hfz,hnd⟩:=hW;have hA:DataW.TrodAll enc Tryz.prog W 0 (λ_=>true) true Tryz.f4.params.toList args.toList ds p:=hA0;rw[Tryz.params4]at hA hval;obtain⟨v0,d0,rfl,rfl,h0⟩:=trodAll_one hA;obtain⟨rfl,rfl⟩:=trodVars_none hV;clear hA0 hA hV;have hb:=of_decide_eq_true hk;simp only[List.append_nil,Rows.uptoBulkAll]at hb hW';have hlt:∀x∈p,x.block<W.heap.size:=λx hx=>by simpa using hW'.lt x (by simpa using hx)
 obtain⟨N0,y0,rfl,hP0⟩:=zhR (hval 0 _ v0 rfl rfl) h0 (by omega);refine(QK N0 y0 W hP0 hG hT).mono ?_;rintro e W' ⟨rfl,bel⟩;refine⟨_,rfl,_,_,_,[],p,[],hW',?_,?_,?_,bel.frame _,λh=>by cases h⟩
 ·exact trodAll_mk1 (shut_bool Tryz.underlying4 _)
 ·exact trodAll_mk1 (Below.trod zgy (by kernel_rfl) (of_decide_eq_true (by kernel_rfl)) h0 bel (λx hx=>hlt x (by simp[hx])))
 ·rfl
theorem nfaChecks_reads (os:Os) {H:Type} (enc:TypeId×Value->H) :
 (Rows.OpenSpec.upto Rows.nfaChecksSpec).preRow enc Tryz.prog Tryz.f4 Rows.nfaChecksUptoRow.domain false Rows.nfaChecksUptoRow.laid ((Zt os).forCall (λ_ _=>0) ⟨#[],#[.agg #[.int .i64 0,.slice none 0 0,.slice none 0 0]],[]⟩).memory #[.agg #[.int .i64 0,.slice none 0 0,.slice none 0 0]]:=by
 have hw:(DataW.whole enc Tryz.prog ((Zt os).forCall (λ_ _=>0) ⟨#[],#[.agg #[.int .i64 0,.slice none 0 0,.slice none 0 0]],[]⟩).memory Tryz.f4.params.toList Rows.nfaChecksSpec.vars false #[Value.agg #[.int .i64 0,.slice none 0 0,.slice none 0 0]].toList 8).map (λx=>(x.1,x.2.1)) =
  some ([.agg [.lit (.int .i64 0),.nil,.nil]],[]):=by kernel_rfl
 obtain⟨⟨x1,x2,x3⟩,hx,hx1⟩:=Option.map_eq_some_iff.1 hw;simp only[Prod.mk.injEq]at hx1;obtain⟨rfl,rfl⟩:=hx1;exact OpenSpec.preRow_of_cond 8 hx (by kernel_rfl) (λk hk=>by cases hk;kernel_rfl) (by kernel_rfl) (ze2 os _)
theorem nfaChecks_lifted (os:Os) (started:os.Started) (H:Type) (enc:TypeId×Value->H) (F:Stop.Interp) :
 ReturnsInHanded {} Tryz.checked os 4 .any ((Rows.OpenSpec.upto Rows.nfaChecksSpec).preRow enc Tryz.prog Tryz.f4 Rows.nfaChecksUptoRow.domain false Rows.nfaChecksUptoRow.laid) (((Rows.OpenSpec.upto Rows.nfaChecksSpec).at F).post enc Tryz.prog Tryz.f4 false true false false):=by
 refine returnsInHanded_of_row (C:=Tryz.checked) (s:=Rows.OpenSpec.upto Rows.nfaChecksSpec) ownK started (by kernel_rfl) Tryz.func4
  (witness_row_atRef (enc:=enc) (C:=Tryz.checked) false (Zt os) #[.agg #[.int .i64 0,.slice none 0 0,.slice none 0 0]] rfl (by kernel_rfl) (by kernel_rfl) (by kernel_rfl) (nfaChecks_reads os enc)) ?_
 intro W base args ds gs before hval hW _ hcond _ hL hsh _;exact nfaChecks_contract H enc W base args ds gs before hval hW (hcond _ rfl) (zdj hsh hL) (zfM hL)
theorem and_tt {a b:Bool} (ha:a=true) (hb:b=true):(a&&b)=true:=by rw[ha,hb];rfl
theorem nfaChecks_said:Rows.NfaChecksUptoSaid :=
 OpenClaim.holds_of_cond 4 Tryz.f4 rfl rfl rfl rfl rfl rfl rfl ⟨rfl,rfl,rfl,rfl,rfl⟩ rfl rfl rfl rfl rfl (by as_aux_lemma=>kernel_rfl) Tryz.func4 (by
  unfold joinedFacts;repeat' (with_reducible refine and_tt ?_ ?_);all_goals (as_aux_lemma=>kernel_rfl))
  (of_decide_eq_true (by as_aux_lemma=>kernel_rfl)) (by unfold Func.isWrapper;first|(rw[if_pos (by decide +kernel)];kernel_rfl)|(rw[if_neg (by decide +kernel)];exact⟨rfl,rfl⟩))
  (λos started H enc _ F=>by rw[OpenClaim.pre_eq_preRow];exact nfaChecks_lifted os started H enc F)
theorem nfaChecks_plain (f:FuncId) (fn:Func) (hf : Tryz.pinned.checked.prog.funcNamed "testbench/testbenchlaw41.NfaChecks"=some f) (hfn : Tryz.pinned.checked.prog.funcs[f]? = some fn) :
 false=Tryz.pinned.checked.prog.looks []/\∀(j:Nat) t,fn.params[j]? = some t->Tryz.pinned.checked.prog.wantsStandIn t=false:=by
 obtain rfl:f=4:=Option.some.inj ((show Tryz.prog.funcNamed "testbench/testbenchlaw41.NfaChecks"=some 4 by kernel_rfl).symm.trans hf) |>.symm;obtain rfl:fn=Tryz.f4:=(Option.some.inj (Tryz.func4.symm.trans hfn)).symm;refine⟨by kernel_rfl,λj t ht=>?_⟩;rw[Tryz.params4]at ht;have hm:t∈[33]:=by simpa using Array.mem_of_getElem? ht
 have hall:([33].all λu=>!Tryz.prog.wantsStandIn u)=true:=by kernel_rfl
 exact(show Tryz.prog.wantsStandIn t=false by simpa using List.all_eq_true.1 hall t hm)
theorem nfaChecks_holds:Rows.NfaChecksUptoCardSaid :=
 Claim7.holds_tied_plain_at .later [] _ _ _ _ nfaChecks_said (λ_ h=>by cases h) (by kernel_rfl) (λ_ h=>by cases h) nfaChecksUpto_row_tie rfl ⟨rfl,rfl⟩ (by kernel_rfl) rfl nfaChecks_plain (by kernel_rfl)
end Go.Proofs.YtnfkbliokjjggaaGreatDoor
