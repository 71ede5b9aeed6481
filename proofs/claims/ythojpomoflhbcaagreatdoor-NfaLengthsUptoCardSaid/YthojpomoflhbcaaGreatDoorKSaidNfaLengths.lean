/- The statement NfaLengths (the card of the second form): for every sequence and trace that together hold at most 1048576 values and letters: the law returns true, and the arguments read as they did before. -/
import Derived.Test.YthojpomoflhbcaaGreatDoorQ30
import Derived.Test.YthojpomoflhbcaaGreatDoorQ39
set_option maxRecDepth 100000
set_option maxHeartbeats 4000000
set_option linter.unusedSimpArgs false
set_option linter.unusedVariables false
set_option linter.unnecessarySimpa false
namespace Go.Proofs.YthojpomoflhbcaaGreatDoor
open Go.ChangeShapes Go.WideShapes Go.ChangeAt Go.RowKit
theorem nfaLengths_contract (H:Type) (enc:TypeId×Value->H) (W:World) (base:Nat) (args:Array Value) (ds gs:List (DataW H)) (before:List MemPlace)
 (hval:∀(j:Nat) t v, Tryz.f8.params[j]? = some t->args[j]? = some v->Value.okWide Tryz.prog W .any base t v)
 (hW:DataW.Whole enc Tryz.prog Tryz.f8.params.toList Rows.nfaLengthsSpec.vars false W args.toList ds gs before) (hk:Rows.uptoSmall H (ds++gs)=true) (hG:ZW W) :
 Calls Tryz.prog 8 args W λe W'=>∃v,e=.returned v/\Rows.nfaLengthsSpec.post enc Tryz.prog Tryz.f8 false true false false W args v W':=by
 have hW':=hW;obtain⟨p,q,hA0,hV,rfl,hfz,hnd⟩:=hW;have hA:DataW.TrodAll enc Tryz.prog W 0 (λ_=>true) true Tryz.f8.params.toList args.toList ds p:=hA0;rw[Tryz.params8]at hA hval;obtain⟨v0,v1,d0,d1,p0,p1,rfl,rfl,rfl,h0,h1⟩:=trodAll_two hA;obtain⟨rfl,rfl⟩:=trodVars_none hV;clear hA0 hA hV;have hb:=of_decide_eq_true hk;simp only[List.append_nil,Rows.uptoBulkAll]at hb hW';have hlt:∀x∈p0++p1,x.block<W.heap.size:=λx hx=>by simpa using hW'.lt x (by simpa using hx)
 obtain⟨S0,ae0,ce0,a0,cap0,rfl,hP0⟩:=zmq (hval 0 _ v0 rfl rfl) h0 (by omega);obtain⟨W1,z1,rfl,hP1⟩:=ziS (hval 1 _ v1 rfl rfl) h1 (by omega);refine(zay S0 ae0 ce0 a0 cap0 W1 z1 W hP0 hP1 hG).mono ?_;rintro e W' ⟨rfl,bel⟩;refine⟨_,rfl,_,_,_,[],p0++p1,[],hW',?_,?_,?_,bel.frame _,λh=>by cases h⟩
 ·exact trodAll_mk1 (shut_bool Tryz.underlying4 _)
 ·exact trodAll_mk2 (Below.trod zex (by kernel_rfl) (of_decide_eq_true (by kernel_rfl)) h0 bel (λx hx=>hlt x (by simp[hx]))) (Below.trod zex (by kernel_rfl) (of_decide_eq_true (by kernel_rfl)) h1 bel (λx hx=>hlt x (by simp[hx])))
 ·rfl
theorem nfaLengths_reads (os:Os) {H:Type} (enc:TypeId×Value->H) :
 (Rows.OpenSpec.upto Rows.nfaLengthsSpec).preRow enc Tryz.prog Tryz.f8 Rows.nfaLengthsUptoRow.domain false Rows.nfaLengthsUptoRow.laid ((Xr os).forCall (λ_ _=>0) ⟨#[],#[.agg #[.int .i64 0,.int .i64 0,.int .i64 0,.int .i64 0,.int .i64 0,.string ⟨#[]⟩,.slice none 0 0,.string ⟨#[]⟩,.slice none 0 0],.agg #[.slice none 0 0,.slice none 0 0]],[]⟩).memory #[.agg #[.int .i64 0,.int .i64 0,.int .i64 0,.int .i64 0,.int .i64 0,.string ⟨#[]⟩,.slice none 0 0,.string ⟨#[]⟩,.slice none 0 0],.agg #[.slice none 0 0,.slice none 0 0]]:=by
 have hw:(DataW.whole enc Tryz.prog ((Xr os).forCall (λ_ _=>0) ⟨#[],#[.agg #[.int .i64 0,.int .i64 0,.int .i64 0,.int .i64 0,.int .i64 0,.string ⟨#[]⟩,.slice none 0 0,.string ⟨#[]⟩,.slice none 0 0],.agg #[.slice none 0 0,.slice none 0 0]],[]⟩).memory Tryz.f8.params.toList Rows.nfaLengthsSpec.vars false #[Value.agg #[.int .i64 0,.int .i64 0,.int .i64 0,.int .i64 0,.int .i64 0,.string ⟨#[]⟩,.slice none 0 0,.string ⟨#[]⟩,.slice none 0 0],.agg #[.slice none 0 0,.slice none 0 0]].toList 8).map (λx=>(x.1,x.2.1)) =
  some ([.agg [.lit (.int .i64 0),.lit (.int .i64 0),.lit (.int .i64 0),.agg [.lit (.int .i64 0),.lit (.int .i64 0),.lit (.string []),.nil],.lit (.string []),.nil],.agg [.nil,.nil]],[]):=by kernel_rfl
 obtain⟨⟨x1,x2,x3⟩,hx,hx1⟩:=Option.map_eq_some_iff.1 hw;simp only[Prod.mk.injEq]at hx1;obtain⟨rfl,rfl⟩:=hx1;exact OpenSpec.preRow_of_cond 8 hx (by kernel_rfl) (λk hk=>by cases hk;kernel_rfl) (by kernel_rfl) (zjz os _)
theorem nfaLengths_lifted (os:Os) (started:os.Started) (H:Type) (enc:TypeId×Value->H) (F:Stop.Interp) :
 ReturnsInHanded {} Tryz.checked os 8 .any ((Rows.OpenSpec.upto Rows.nfaLengthsSpec).preRow enc Tryz.prog Tryz.f8 Rows.nfaLengthsUptoRow.domain false Rows.nfaLengthsUptoRow.laid) (((Rows.OpenSpec.upto Rows.nfaLengthsSpec).at F).post enc Tryz.prog Tryz.f8 false true false false):=by
 refine returnsInHanded_of_row (C:=Tryz.checked) (s:=Rows.OpenSpec.upto Rows.nfaLengthsSpec) ownK started (by kernel_rfl) Tryz.func8
  (witness_row_atRef (enc:=enc) (C:=Tryz.checked) false (Xr os) #[.agg #[.int .i64 0,.int .i64 0,.int .i64 0,.int .i64 0,.int .i64 0,.string ⟨#[]⟩,.slice none 0 0,.string ⟨#[]⟩,.slice none 0 0],.agg #[.slice none 0 0,.slice none 0 0]] rfl (by kernel_rfl) (by kernel_rfl) (by kernel_rfl) (nfaLengths_reads os enc)) ?_
 intro W base args ds gs before hval hW _ hcond _ hL hsh _;exact nfaLengths_contract H enc W base args ds gs before hval hW (hcond _ rfl) (zg8 hsh hL)
theorem and_tt {a b:Bool} (ha:a=true) (hb:b=true):(a&&b)=true:=by rw[ha,hb];rfl
theorem nfaLengths_said:Rows.NfaLengthsUptoSaid :=
 OpenClaim.holds_of_cond 8 Tryz.f8 rfl rfl rfl rfl rfl rfl rfl ⟨rfl,rfl,rfl,rfl,rfl⟩ rfl rfl rfl rfl rfl (by as_aux_lemma=>kernel_rfl) Tryz.func8 (by
  unfold joinedFacts;repeat' (with_reducible refine and_tt ?_ ?_);all_goals (as_aux_lemma=>kernel_rfl))
  (of_decide_eq_true (by as_aux_lemma=>kernel_rfl)) (by unfold Func.isWrapper;first|(rw[if_pos (by decide +kernel)];kernel_rfl)|(rw[if_neg (by decide +kernel)];exact⟨rfl,rfl⟩))
  (λos started H enc _ F=>by rw[OpenClaim.pre_eq_preRow];exact nfaLengths_lifted os started H enc F)
theorem nfaLengths_plain (f:FuncId) (fn:Func) (hf : Tryz.pinned.checked.prog.funcNamed "testbench/testbenchlaw41.NfaLengths"=some f) (hfn : Tryz.pinned.checked.prog.funcs[f]? = some fn) :
 false=Tryz.pinned.checked.prog.looks []/\∀(j:Nat) t,fn.params[j]? = some t->Tryz.pinned.checked.prog.wantsStandIn t=false:=by
 obtain rfl:f=8:=Option.some.inj ((show Tryz.prog.funcNamed "testbench/testbenchlaw41.NfaLengths"=some 8 by kernel_rfl).symm.trans hf) |>.symm;obtain rfl:fn=Tryz.f8:=(Option.some.inj (Tryz.func8.symm.trans hfn)).symm;refine⟨by kernel_rfl,λj t ht=>?_⟩;rw[Tryz.params8]at ht;have hm:t∈[27, 54]:=by simpa using Array.mem_of_getElem? ht
 have hall:([27, 54].all λu=>!Tryz.prog.wantsStandIn u)=true:=by kernel_rfl
 exact(show Tryz.prog.wantsStandIn t=false by simpa using List.all_eq_true.1 hall t hm)
theorem nfaLengths_holds:Rows.NfaLengthsUptoCardSaid :=
 Claim7.holds_tied_plain_at .later [] _ _ _ _ nfaLengths_said (λ_ h=>by cases h) (by kernel_rfl) (λ_ h=>by cases h) nfaLengthsUpto_row_tie rfl ⟨rfl,rfl⟩ (by kernel_rfl) rfl nfaLengths_plain (by kernel_rfl)
end Go.Proofs.YthojpomoflhbcaaGreatDoor
