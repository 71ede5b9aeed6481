/- expr.rebuilt, copied, Subst: expressions in new memory. -/
import Derived.Test.YtnfkbliokjjggaaGreatDoorH09
set_option maxHeartbeats 8000000
set_option maxRecDepth 100000
set_option linter.unusedSimpArgs false
set_option linter.unusedVariables false
set_option linter.unnecessarySimpa false
namespace Go.Proofs.YtnfkbliokjjggaaGreatDoor
open Go.RowKit
attribute [local go_sem ↓] Go.wp_at_zero Go.wp_at_succ
theorem Qn (fn:Func) (c:Nat) (hr:fn.results=#[.cell c 24]) (W:World) (tm:Array Value) (b:Nat) (m0 m1 m2 m3:Value) (hW:W.heap[b]? = some (.cells #[m0,m1,m2,m3] 24 (0,0))) (h0:tm.getD c undef=.pointer (some ⟨b,0,none⟩)) :
 (results fn tm).run Tryz.prog W=.ok (.agg #[m0,m1,m2,m3]) W:=by
 have c0:=zb hW 0;have c1:=zb hW 1;have c2:=zb hW 2;have c3:=zb hW 3;simp at c0 c1 c2 c3;rw[ym hr,h0];simp[asAddr];go_simp
theorem XR (g:FuncId) (eg:∀args w,(callFunc g args).run Tryz.prog w=.ok (.enter g args) w) (lb:Array Value) (F:Ex->Ex) (op n:Int) (s:ByteArray) (args:List Ex) (ea:Option Addr) (ec:Nat) (w:World) (hX:yA w (.mk op n s args) ea ec)
 (hP:∀k (hk:k<args.length),∀a c W,Below w.heap.size w W->yA W (args[k]'hk) a c->Calls Tryz.prog g (#[zL (args[k]'hk) a c]++lb) W (zP W (F (args[k]'hk)))) :
 Calls Tryz.prog 265 #[.agg #[.int .i64 op,.int .i64 n,.string s,.slice ea args.length ec],.func (.func g) #[] lb] w (zP w (.mk op n s (args.map F))):=by
 have hsz:=hX.1;have hE:=hX.2;simp only[Ex.name_mk,Ex.args_mk]at hsz hE;have HIH:Hid (∀k (hk:k<args.length),∀a c W,Below w.heap.size w W->yA W (args[k]'hk) a c->Calls Tryz.prog g (#[zL (args[k]'hk) a c]++lb) W (zP W (F (args[k]'hk)))):=hP;have hlen:=hE.2.1;have HEl:Hid (args.length=0\/∃b off,ea=some ⟨b,off,none⟩):=hE.addr;have HE:=Lib.hid hE;have HP:Hid (∀a c W,qS (World.hide W (old w.heap.size)) (args.map F) a c->Below w.heap.size w W->zP w (.mk op n s (args.map F)) (.returned (.agg #[.int .i64 op,.int .i64 n,.string s,.slice a args.length c])) W):=λa c W h1 h2=>⟨⟨a,c,by unfold zL;simp only[Ex.op_mk,Ex.n_mk,Ex.name_mk,Ex.args_mk,List.length_map],hsz,h1⟩,h2⟩;clear hX hE hP hsz;unfold zP at HIH;generalize zP w (.mk op n s (args.map F))=Po at HP⊢;have HFLl:Hid ((args.map F).length=args.length):=List.length_map _;have HFLg:Hid (∀k (hk:k<args.length) (h:k<(args.map F).length),(args.map F)[k]'h=F (args[k]'hk)):=λk hk h=>List.getElem_map _;generalize args.map F=FL at HP HFLl HFLg;go_enter Tryz.func265, Tryz.ntmps265;go_wp2_with fail;generalize hW2:(w.alloc (.cells #[.int .i64 op,.int .i64 n,.string s,.slice ea args.length ec] 24)).alloc (.cells #[.int .i64 0,.int .i64 0,.string ⟨#[]⟩,.slice none 0 0] 24)=W2;have hz2:w.heap.size+2<=W2.heap.size:=by rw[←hW2];simp
 have hz2b:W2.heap.size<=w.heap.size+2:=by rw[←hW2];simp
 have HB2:Hid (Below w.heap.size w W2):=by show Below _ _ _;rw[←hW2];exact zW
 have HX2:Hid (W2.heap[w.heap.size]? = some (.cells #[.int .i64 op,.int .i64 n,.string s,.slice ea args.length ec] 24 (0,0))):=by show _=_;rw[←hW2];exact zl (zh rfl)
 have HR2:Hid (W2.heap[w.heap.size+1]? = some (.cells #[.int .i64 0,.int .i64 0,.string ⟨#[]⟩,.slice none 0 0] 24 (0,0))):=by show _=_;rw[←hW2];exact zh (by simp)
 clear hW2;have b3:=zb HX2.out 3;simp at b3;go_wp2_with fail;clear b3;go_loopw [11,5,7] (λi v _ wr=>∃(k:Nat),i=.int .i64 k/\k<=args.length/\Hid (exE.Own 24 (old W2.heap.size) wr W2.heap.size v (FL.take k))/\Hid (Below W2.heap.size W2 wr)) (λi _ _ _=>args.length-(intOf i).toNat);case atStart=>exact⟨0,rfl,Nat.zero_le _,Enc.Own.nil _ _ _ _ _,Below.refl _ _⟩
 case round =>
  obtain⟨k,rfl,hk,HO,HBr⟩:=hrel;have HBw:=Lib.hid (HB2.out.trans (HBr.out.mono (by omega)));have hzr:=HBr.out.size;have HLk:Hid ((FL.take k).length=k):=List.length_take_of_le (by rw[HFLl.out];exact hk);by_cases hlt:k<args.length
  ·obtain⟨bE,oE,hEa⟩:=HEl.out.resolve_left (by omega);have HE':Hid (qS w args (some ⟨bE,oE,none⟩) ec):=by show qS _ _ _ _;rw[←hEa];exact HE.out
   obtain⟨xa,xc,g0,g1,g2,g3,hX⟩:=(HE'.out.keep (za HBw.out)).get rfl hlt;have HXe:=Lib.hid hX;have HC:=Lib.hid (λW (hW:Below wr.heap.size wr W)=>HIH.out k hlt xa xc W (HBw.out.trans (hW.mono HBw.out.size)) (hX.keep (za hW)));subst hEa;have HLx:Hid (FL.take k++[F (args[k]'hlt)]=FL.take (k+1)):=by show _=_;rw[List.take_succ_eq_append_getElem (by rw[HFLl.out];exact hlt),HFLg.out k hlt]
   obtain⟨va,vc,hv,_⟩:=HO.out.slice (by rw[HLk.out];omega);rw[HLk.out]at hv;subst hv;have HVo:Hid (∀q,(Value.slice va k vc).ownBlock=some q->W2.heap.size<=q/\q<wr.heap.size):=by obtain⟨xs,h1,_⟩:=HO.out;exact h1.lt
   clear hX;generalize (args[k]'hlt)=y at g0 g1 g2 g3 HXe HC HLx;unfold zL at HC;generalize F y=fy at HC HLx;go_wp2_with fail;refine(HC.out _ zW).mono ?_;rintro r w5 ⟨⟨a',c',rfl,hx5⟩,hb5⟩;have HX5:=Lib.hid hx5;have hz5:=hb5.size;simp only[World.size_alloc]at hz5;have HW5:Hid (Below wr.heap.size wr w5):=((Below.refl wr.heap.size wr).alloc (Nat.le_refl _) _).trans (hb5.mono (by simp));have HO5:=Lib.hid (HO.out.below HW5.out);clear hx5 hb5 g0 g1 g2 g3;go_wp2_with (at_builtin;go_must (refine yr (E:=exE) Qm _ rfl (.tmp 15) (.tmp 19) rfl (old W2.heap.size) W2.heap.size _ rfl HO5.out fy [.int .i64 fy.op,.int .i64 fy.n,.string fy.name,.slice a' fy.args.length c'] ⟨a',c',rfl,HX5.out.keep (zB ?hm)⟩ _ _ rfl rfl k HLk.out (by omega) (by omega) ?_));case hm =>
    intro q hq;rcases ze.1 hq with hq|hq
    ·have:=zH.1 hq;exact zH.2 (by simp;omega)
    ·have:=(HVo.out q hq).2;exact zH.2 (by simp;omega)
   intro g cap w7 ho hg hat
   rw[HLx.out]at ho;have HO7:=Lib.hid ho;have HB7:Hid (Below W2.heap.size W2 w7):=Below.grown (HBr.out.trans (HW5.out.mono hzr)) hg (by omega) (λq hq=>(HVo.out q hq).1);clear ho hg hat HLx;go_wp2_with fail;go_roundw;case rel=>exact⟨k+1,by go_num,by omega,HO7.out,HB7.out⟩
   case measure=>(simp[intOf];try omega)
  ·obtain rfl:k=args.length:=by omega
   obtain⟨va,vc,hv,hes⟩:=HO.out.sliceP (by rw[HLk.out];omega) (λk hk=>by
    cases h9:old W2.heap.size k with
    |false=>rfl
    |true=>have:=zH.1 h9;omega)
   rw[HLk.out]at hv;subst hv;rw[←HFLl.out,List.take_length]at hes;have HS:Hid (qS (World.hide wr (old W2.heap.size)) FL va vc):=zco.1 hes;have hx:wr.heap[w.heap.size]? = some (.cells #[.int .i64 op,.int .i64 n,.string s,.slice ea args.length ec] 24 (0,0)):=(HBr.out.block _ (by omega)).trans HX2.out;have hr:wr.heap[w.heap.size+1]? = some (.cells #[.int .i64 0,.int .i64 0,.string ⟨#[]⟩,.slice none 0 0] 24 (0,0)):=(HBr.out.block _ (by omega)).trans HR2.out;have HR:=Lib.hid hr;have HBe:=Lib.hid HBw.out;have b0:=zb hx 0;have b1:=zb hx 1;have b2:=zb hx 2;have b3:=zb hx 3;have r0:=zb hr 0;have r1:=zb hr 1;have r2:=zb hr 2;have r3:=zb hr 3;simp at b0 b1 b2 b3 r0 r1 r2 r3;have q3:wr.frozen? ⟨w.heap.size,3,none⟩=false:=by simp[World.frozen?,hx]
   have f0:wr.frozen? ⟨w.heap.size+1,0,none⟩=false:=by simp[World.frozen?,hr]
   have f1:wr.frozen? ⟨w.heap.size+1,1,none⟩=false:=by simp[World.frozen?,hr]
   have f2:wr.frozen? ⟨w.heap.size+1,2,none⟩=false:=by simp[World.frozen?,hr]
   have f3:wr.frozen? ⟨w.heap.size+1,3,none⟩=false:=by simp[World.frozen?,hr]
   clear hx hr hes;have HRb:=Lib.hid HR.out;go_wp2_with fail;have hrb:(wr.setCell ⟨w.heap.size,3,none⟩ (.slice va args.length vc)).heap[w.heap.size+1]? = some (.cells #[.int .i64 0,.int .i64 0,.string ⟨#[]⟩,.slice none 0 0] 24 (0,0)):=by rw[Below.heap_setCell _ ⟨w.heap.size,3,none⟩ _ (w.heap.size+1) (by show w.heap.size+1≠w.heap.size;omega)];exact HRb.out
   have o0:old W2.heap.size w.heap.size=true:=zH.2 (by omega);have o1:old W2.heap.size (w.heap.size+1)=true:=zH.2 (by omega);refine bodyPost_ret (v:=.agg #[.int .i64 op,.int .i64 n,.string s,.slice va args.length vc]) (Qn _ 4 rfl _ _ (w.heap.size+1) _ _ _ _ (YX hrb) rfl) rfl ?_;refine HP.out va vc _ ?_ ?_
   ·exact HS.out.keep (Kp.trans (zj o0) (Kp.trans (zj o1) (Kp.trans (zj o1) (Kp.trans (zj o1) (Kp.trans (zj o1) (zB λk hk=>zH.2 (by have:=zH.1 hk;omega)))))))
   ·exact((((HBe.out.setCell (Nat.le_refl _) _).setCell (by simp) _).setCell (by simp) _).setCell (by simp) _).setCell (by simp) _
theorem Xs {w W w':World} {e:Ex} {a:Option Addr} {c b:Nat} (hb:Below w.heap.size w W) (hbk:w.heap.size<=b) (hbW:b<W.heap.size) (h2:yA (World.hide w' (old W.heap.size)) e a c) (h3:Below W.heap.size W w') (u0 u1 u2 u3:Value) :
 yA (World.hide ((((w'.setCell ⟨b,0,none⟩ u0).setCell ⟨b,1,none⟩ u1).setCell ⟨b,2,none⟩ u2).setCell ⟨b,3,none⟩ u3) (old w.heap.size)) e a c/\Below w.heap.size w ((((w'.setCell ⟨b,0,none⟩ u0).setCell ⟨b,1,none⟩ u1).setCell ⟨b,2,none⟩ u2).setCell ⟨b,3,none⟩ u3):=by
 have o1:old W.heap.size b=true:=zH.2 hbW;refine⟨h2.keep (Kp.trans (zj o1) (Kp.trans (zj o1) (Kp.trans (zj o1) (Kp.trans (zj o1) (zB λk hk=>zH.2 (by have:=zH.1 hk;have:=hb.size;omega)))))),?_⟩;exact((((hb.trans (h3.mono hb.size)).setCell hbk _).setCell hbk _).setCell hbk _).setCell hbk _
theorem zc9 (e:Ex):∀(ea:Option Addr) (ec:Nat) (w:World),yA w e ea ec->Calls Tryz.prog 264 #[zL e ea ec] w (zP w e):=by
 have eg:∀args w,(callFunc 264 args).run Tryz.prog w=.ok (.enter 264 args) w:=enters_of Tryz.func264 (by kernel_rfl) rfl
 induction e using Ex.ind with
 |h e ih =>
  intro ea ec w hX;obtain⟨op,n,s,args⟩:=e;simp only[Ex.args_mk]at ih;have HR:Hid (∀W,Below w.heap.size w W->Calls Tryz.prog 265 #[.agg #[.int .i64 op,.int .i64 n,.string s,.slice ea args.length ec],.func (.func 264) #[] #[]] W (zP W (.mk op n s args))):=λW hW=>by
   have:=XR 264 eg #[] id op n s args ea ec W (hX.keep (za hW)) λk hk a c W2 _ h=>by have h2:=ih _ (List.getElem_mem hk) a c W2 h;exact h2
   rwa [List.map_id]at this
  have HP:Hid (∀a c W,yA (World.hide W (old w.heap.size)) (.mk op n s args) a c->Below w.heap.size w W->zP w (.mk op n s args) (.returned (.agg #[.int .i64 op,.int .i64 n,.string s,.slice a args.length c])) W):=λa c W h1 h2=>⟨⟨a,c,rfl,h1⟩,h2⟩;clear ih eg;have HX:=Lib.hid hX;clear hX;unfold zP at HR;simp only[zL,Ex.op_mk,Ex.n_mk,Ex.name_mk,Ex.args_mk]at HR⊢;generalize zP w (.mk op n s args)=Po at HP⊢;go_enter Tryz.func264, Tryz.ntmps264;go_wp2_with fail;generalize hW2:(w.alloc (.cells #[.int .i64 op,.int .i64 n,.string s,.slice ea args.length ec] 24)).alloc (.cells #[.int .i64 0,.int .i64 0,.string ⟨#[]⟩,.slice none 0 0] 24)=W2;have HB2:Hid (Below w.heap.size w W2):=by show Below _ _ _;rw[←hW2];exact zW
  have hr:W2.heap[w.heap.size+1]? = some (.cells #[.int .i64 0,.int .i64 0,.string ⟨#[]⟩,.slice none 0 0] 24 (0,0)):=by rw[←hW2];exact zh (by simp)
  have hz2:w.heap.size+1<W2.heap.size:=by rw[←hW2];simp
  clear hW2;refine(HR.out _ HB2.out).mono ?_;rintro r w5 ⟨⟨a',c',rfl,hx5⟩,hb5⟩;have r5:=(hb5.block _ hz2).trans hr;have d0:=zb r5 0;have d1:=zb r5 1;have d2:=zb r5 2;have d3:=zb r5 3;simp at d0 d1 d2 d3;have f0:w5.frozen? ⟨w.heap.size+1,0,none⟩=false:=by simp[World.frozen?,r5]
  have f1:w5.frozen? ⟨w.heap.size+1,1,none⟩=false:=by simp[World.frozen?,r5]
  have f2:w5.frozen? ⟨w.heap.size+1,2,none⟩=false:=by simp[World.frozen?,r5]
  have f3:w5.frozen? ⟨w.heap.size+1,3,none⟩=false:=by simp[World.frozen?,r5]
  have HR5:=Lib.hid r5;have HO:=Lib.hid (Xs HB2.out (by omega) hz2 hx5 hb5);clear r5 hx5 hb5 hr;go_wp2_with fail;refine bodyPost_ret (v:=.agg #[.int .i64 op,.int .i64 n,.string s,.slice a' args.length c']) (Qn _ 2 rfl _ _ (w.heap.size+1) _ _ _ _ (YX HR5.out) rfl) rfl ?_;exact HP.out _ _ _ (HO.out _ _ _ _).1 (HO.out _ _ _ _).2
theorem zdW (nm:ByteArray) (by_:Ex) (ba:Option Addr) (bc b1 b2:Nat) (x R:Ex) (a:Option Addr) (c:Nat) (w:World) (h1:w.cell? ⟨b1,0,none⟩=some (.string nm)) (h2:w.heap[b2]? = some (.cells #[.int .i64 by_.op,.int .i64 by_.n,.string by_.name,.slice ba by_.args.length bc] 24 (0,0)))
 (hS:∀W,Below w.heap.size w W->Calls Tryz.prog 219 #[zL x a c,.string nm,zL by_ ba bc] W (zP W R)) :
 Calls Tryz.prog 266 #[zL x a c,.pointer (some ⟨b1,0,none⟩),.pointer (some ⟨b2,0,none⟩)] w (zP w R):=by
 have HS:=Lib.hid hS;have HP:Hid (∀a c W,yA (World.hide W (old w.heap.size)) R a c->Below w.heap.size w W->zP w R (.returned (.agg #[.int .i64 R.op,.int .i64 R.n,.string R.name,.slice a R.args.length c])) W):=λa c W h1 h2=>⟨⟨a,c,rfl,h1⟩,h2⟩;clear hS;have q0:=zb h2 0;have q1:=zb h2 1;have q2:=zb h2 2;have q3:=zb h2 3;simp at q0 q1 q2 q3;have hb1:=xV h1;have hb2:=lt_of_block h2;simp only at hb1;unfold zP at HS;unfold zL at HS⊢;generalize zP w R=Po at HP⊢;have m1:∀o o2,((w.alloc o).alloc o2).cell? ⟨b1,0,none⟩=some (.string nm):=λo o2=>Lib.cell?_alloc_some _ (Lib.cell?_alloc_some _ h1);have m2:∀o o2,((w.alloc o).alloc o2).cell? ⟨b2,0,none⟩=some (.int .i64 by_.op):=λo o2=>Lib.cell?_alloc_some _ (Lib.cell?_alloc_some _ q0);have m3:∀o o2,((w.alloc o).alloc o2).cell? ⟨b2,1,none⟩=some (.int .i64 by_.n):=λo o2=>Lib.cell?_alloc_some _ (Lib.cell?_alloc_some _ q1);have m4:∀o o2,((w.alloc o).alloc o2).cell? ⟨b2,2,none⟩=some (.string by_.name):=λo o2=>Lib.cell?_alloc_some _ (Lib.cell?_alloc_some _ q2);have m5:∀o o2,((w.alloc o).alloc o2).cell? ⟨b2,3,none⟩=some (.slice ba by_.args.length bc):=λo o2=>Lib.cell?_alloc_some _ (Lib.cell?_alloc_some _ q3);clear q0 q1 q2 q3 h1 h2;go_enter Tryz.func266, Tryz.ntmps266;go_wp2_with fail;generalize hW2:(w.alloc (.cells #[.int .i64 x.op,.int .i64 x.n,.string x.name,.slice a x.args.length c] 24)).alloc (.cells #[.int .i64 0,.int .i64 0,.string ⟨#[]⟩,.slice none 0 0] 24)=W2
 have HB2:Hid (Below w.heap.size w W2):=by show Below _ _ _;rw[←hW2];exact zW
 have hr:W2.heap[w.heap.size+1]? = some (.cells #[.int .i64 0,.int .i64 0,.string ⟨#[]⟩,.slice none 0 0] 24 (0,0)):=by rw[←hW2];exact zh (by simp)
 have hz2:w.heap.size+1<W2.heap.size:=by rw[←hW2];simp
 clear hW2 m1 m2 m3 m4 m5;refine(HS.out _ HB2.out).mono ?_;rintro r w5 ⟨⟨a',c',rfl,hx5⟩,hb5⟩;have r5:=(hb5.block _ hz2).trans hr;have d0:=zb r5 0;have d1:=zb r5 1;have d2:=zb r5 2;have d3:=zb r5 3;simp at d0 d1 d2 d3;have f0:w5.frozen? ⟨w.heap.size+1,0,none⟩=false:=by simp[World.frozen?,r5]
 have f1:w5.frozen? ⟨w.heap.size+1,1,none⟩=false:=by simp[World.frozen?,r5]
 have f2:w5.frozen? ⟨w.heap.size+1,2,none⟩=false:=by simp[World.frozen?,r5]
 have f3:w5.frozen? ⟨w.heap.size+1,3,none⟩=false:=by simp[World.frozen?,r5]
 have HR5:=Lib.hid r5;have HO:=Lib.hid (Xs HB2.out (by omega) hz2 hx5 hb5);clear r5 hx5 hb5 hr;go_wp2_with fail;refine bodyPost_ret (v:=.agg #[.int .i64 R.op,.int .i64 R.n,.string R.name,.slice a' R.args.length c']) (Qn _ 4 rfl _ _ (w.heap.size+1) _ _ _ _ (YX HR5.out) rfl) rfl ?_;exact HP.out _ _ _ (HO.out _ _ _ _).1 (HO.out _ _ _ _).2
theorem zfL (nm:ByteArray) (by_:Ex) (ba:Option Addr) (bc:Nat) (e:Ex):∀(ea:Option Addr) (ec:Nat) (w:World),yA w e ea ec->yA w by_ ba bc->Calls Tryz.prog 219 #[zL e ea ec,.string nm,zL by_ ba bc] w (zP w (yU nm by_ e)):=by
 have eg:∀args w,(callFunc 266 args).run Tryz.prog w=.ok (.enter 266 args) w:=enters_of Tryz.func266 (by kernel_rfl) rfl
 induction e using Ex.ind with
 |h e ih =>
  intro ea ec w hX hBy;obtain⟨op,n,s,args⟩:=e;simp only[Ex.args_mk]at ih;have HC:Hid (∀W,Below w.heap.size w W->Calls Tryz.prog 264 #[zL by_ ba bc] W (zP W by_)):=λW hW=>zc9 by_ ba bc W (hBy.keep (za hW));have HR:Hid (∀W,Below w.heap.size w W->∀b1 b2,W.cell? ⟨b1,0,none⟩=some (.string nm)->W.heap[b2]? = some (.cells #[.int .i64 by_.op,.int .i64 by_.n,.string by_.name,.slice ba by_.args.length bc] 24 (0,0))->Calls Tryz.prog 265 #[.agg #[.int .i64 op,.int .i64 n,.string s,.slice ea args.length ec],.func (.func 266) #[] #[.pointer (some ⟨b1,0,none⟩),.pointer (some ⟨b2,0,none⟩)]] W (zP W (.mk op n s (args.map (yU nm by_))))):=λW hW b1 b2 h1 h2=>by refine XR 266 eg _ (yU nm by_) op n s args ea ec W (hX.keep (za hW)) λk hk a c W2 hW2 h=>?_;refine zdW nm by_ ba bc b1 b2 (args[k]'hk) _ a c W2 (za hW2 _ _ h1) ((hW2.block b2 (lt_of_block h2)).trans h2) λW3 hW3=>?_;exact ih _ (List.getElem_mem hk) a c W3 (h.keep (za hW3)) (hBy.keep (za (hW.trans ((hW2.trans (hW3.mono hW2.size)).mono hW.size))))
  have hsub:=zbl nm by_ (.mk op n s args);simp only[Ex.op_mk,Ex.n_mk,Ex.name_mk,Ex.args_mk]at hsub;have HP:Hid (∀(R:Ex) a c W,yU nm by_ (.mk op n s args)=R->yA (World.hide W (old w.heap.size)) R a c->Below w.heap.size w W->zP w (yU nm by_ (.mk op n s args)) (.returned (.agg #[.int .i64 R.op,.int .i64 R.n,.string R.name,.slice a R.args.length c])) W):=λR a c W h0 h1 h2=>by subst h0;exact⟨⟨a,c,rfl,h1⟩,h2⟩
  have HSub:Hid (yU nm by_ (.mk op n s args)=if op=2/\s=nm then by_ else .mk op n s (args.map (yU nm by_))):=hsub;clear ih eg hX hBy hsub;unfold zP at HR HC;unfold zL at HR HC⊢;simp only[Ex.op_mk,Ex.n_mk,Ex.name_mk,Ex.args_mk]at HR⊢;generalize args.map (yU nm by_)=L2 at HR HSub;generalize hsb:yU nm by_ (.mk op n s args)=SB at HP HSub;generalize zP w SB=Po at HP⊢;clear hsb;by_cases hyes:op=2/\s=nm
  ·have HE:Hid (SB=by_):=by show _=_;rw[HSub.out,if_pos hyes]
   obtain⟨rfl,rfl⟩:=hyes;clear HR HSub;go_enter Tryz.func219, Tryz.ntmps219;go_wp2_with fail;generalize hW2:(((w.alloc (.cells #[.int .i64 2,.int .i64 n,.string s,.slice ea args.length ec] 24)).alloc (.cells #[.string s] 9)).alloc (.cells #[.int .i64 by_.op,.int .i64 by_.n,.string by_.name,.slice ba by_.args.length bc] 24)).alloc (.cells #[.int .i64 0,.int .i64 0,.string ⟨#[]⟩,.slice none 0 0] 24)=W2;have HB2:Hid (Below w.heap.size w W2):=by show Below _ _ _;rw[←hW2];exact zW
   have hr:W2.heap[w.heap.size+3]? = some (.cells #[.int .i64 0,.int .i64 0,.string ⟨#[]⟩,.slice none 0 0] 24 (0,0)):=by rw[←hW2];exact zh (by simp)
   have hz2:w.heap.size+3<W2.heap.size:=by rw[←hW2];simp
   clear hW2;refine(HC.out _ HB2.out).mono ?_;rintro r w5 ⟨⟨a',c',rfl,hx5⟩,hb5⟩;have r5:=(hb5.block _ hz2).trans hr;have d0:=zb r5 0;have d1:=zb r5 1;have d2:=zb r5 2;have d3:=zb r5 3;simp at d0 d1 d2 d3;have f0:w5.frozen? ⟨w.heap.size+3,0,none⟩=false:=by simp[World.frozen?,r5]
   have f1:w5.frozen? ⟨w.heap.size+3,1,none⟩=false:=by simp[World.frozen?,r5]
   have f2:w5.frozen? ⟨w.heap.size+3,2,none⟩=false:=by simp[World.frozen?,r5]
   have f3:w5.frozen? ⟨w.heap.size+3,3,none⟩=false:=by simp[World.frozen?,r5]
   have HR5:=Lib.hid r5;have HO:=Lib.hid (Xs HB2.out (by omega) hz2 hx5 hb5);clear r5 hx5 hb5 hr;go_wp2_with fail;refine bodyPost_ret (v:=.agg #[.int .i64 by_.op,.int .i64 by_.n,.string by_.name,.slice a' by_.args.length c']) (Qn _ 6 rfl _ _ (w.heap.size+3) _ _ _ _ (YX HR5.out) rfl) rfl ?_;exact HP.out _ _ _ _ HE.out (HO.out _ _ _ _).1 (HO.out _ _ _ _).2
  ·have HE:Hid (SB=.mk op n s L2):=by show _=_;rw[HSub.out,if_neg hyes]
   clear HC HSub;have hcase:op≠2\/(op=2/\¬s.toList=nm.toList):=by
    by_cases h:op=2
    ·exact Or.inr ⟨h,λh2=>hyes ⟨h,by rw[ByteArray.toList_eq,ByteArray.toList_eq]at h2;exact zen h2⟩⟩
    ·exact Or.inl h
   clear hyes;have hc2:op=2->(s.toList==nm.toList)=false:=λh=>by
    rcases hcase with h2|h2
    ·exact absurd h h2
    ·exact beq_eq_false_iff_ne.2 h2.2
   rcases hcase with hc|⟨rfl,hc⟩
   ·go_enter Tryz.func219, Tryz.ntmps219;go_wp2_with fail;generalize hW2:(((w.alloc (.cells #[.int .i64 op,.int .i64 n,.string s,.slice ea args.length ec] 24)).alloc (.cells #[.string nm] 9)).alloc (.cells #[.int .i64 by_.op,.int .i64 by_.n,.string by_.name,.slice ba by_.args.length bc] 24)).alloc (.cells #[.int .i64 0,.int .i64 0,.string ⟨#[]⟩,.slice none 0 0] 24)=W2;have HB2:Hid (Below w.heap.size w W2):=by show Below _ _ _;rw[←hW2];exact zW
    have hr:W2.heap[w.heap.size+3]? = some (.cells #[.int .i64 0,.int .i64 0,.string ⟨#[]⟩,.slice none 0 0] 24 (0,0)):=by rw[←hW2];exact zh (by simp)
    have hz2:w.heap.size+3<W2.heap.size:=by rw[←hW2];simp
    have hn1:W2.cell? ⟨w.heap.size+1,0,none⟩=some (.string nm):=by rw[←hW2];exact Lib.cell?_alloc_some _ (Lib.cell?_alloc_some _ (by rw[zb (zh (by simp)) 0];rfl))
    have hn2:W2.heap[w.heap.size+2]? = some (.cells #[.int .i64 by_.op,.int .i64 by_.n,.string by_.name,.slice ba by_.args.length bc] 24 (0,0)):=by rw[←hW2];exact zl (zh (by simp))
    clear hW2;refine(HR.out _ HB2.out _ _ hn1 hn2).mono ?_;rintro r w5 ⟨⟨a',c',rfl,hx5⟩,hb5⟩;have r5:=(hb5.block _ hz2).trans hr;have d0:=zb r5 0;have d1:=zb r5 1;have d2:=zb r5 2;have d3:=zb r5 3;simp at d0 d1 d2 d3;have f0:w5.frozen? ⟨w.heap.size+3,0,none⟩=false:=by simp[World.frozen?,r5]
    have f1:w5.frozen? ⟨w.heap.size+3,1,none⟩=false:=by simp[World.frozen?,r5]
    have f2:w5.frozen? ⟨w.heap.size+3,2,none⟩=false:=by simp[World.frozen?,r5]
    have f3:w5.frozen? ⟨w.heap.size+3,3,none⟩=false:=by simp[World.frozen?,r5]
    have HR5:=Lib.hid r5;have HO:=Lib.hid (Xs HB2.out (by omega) hz2 hx5 hb5);clear r5 hx5 hb5 hr;go_wp2_with fail;refine bodyPost_ret (v:=.agg #[.int .i64 (Ex.mk op n s L2).op,.int .i64 (Ex.mk op n s L2).n,.string (Ex.mk op n s L2).name,.slice a' (Ex.mk op n s L2).args.length c']) (Qn _ 6 rfl _ _ (w.heap.size+3) _ _ _ _ (YX HR5.out) rfl) rfl ?_;exact HP.out _ _ _ _ HE.out (HO.out _ _ _ _).1 (HO.out _ _ _ _).2
   ·have hc3:=hc2 rfl;clear hc2;go_enter Tryz.func219, Tryz.ntmps219;go_wp2_with fail;generalize hW2:(((w.alloc (.cells #[.int .i64 2,.int .i64 n,.string s,.slice ea args.length ec] 24)).alloc (.cells #[.string nm] 9)).alloc (.cells #[.int .i64 by_.op,.int .i64 by_.n,.string by_.name,.slice ba by_.args.length bc] 24)).alloc (.cells #[.int .i64 0,.int .i64 0,.string ⟨#[]⟩,.slice none 0 0] 24)=W2;have HB2:Hid (Below w.heap.size w W2):=by show Below _ _ _;rw[←hW2];exact zW
    have hr:W2.heap[w.heap.size+3]? = some (.cells #[.int .i64 0,.int .i64 0,.string ⟨#[]⟩,.slice none 0 0] 24 (0,0)):=by rw[←hW2];exact zh (by simp)
    have hz2:w.heap.size+3<W2.heap.size:=by rw[←hW2];simp
    have hn1:W2.cell? ⟨w.heap.size+1,0,none⟩=some (.string nm):=by rw[←hW2];exact Lib.cell?_alloc_some _ (Lib.cell?_alloc_some _ (by rw[zb (zh (by simp)) 0];rfl))
    have hn2:W2.heap[w.heap.size+2]? = some (.cells #[.int .i64 by_.op,.int .i64 by_.n,.string by_.name,.slice ba by_.args.length bc] 24 (0,0)):=by rw[←hW2];exact zl (zh (by simp))
    clear hW2;refine(HR.out _ HB2.out _ _ hn1 hn2).mono ?_;rintro r w5 ⟨⟨a',c',rfl,hx5⟩,hb5⟩;have r5:=(hb5.block _ hz2).trans hr;have d0:=zb r5 0;have d1:=zb r5 1;have d2:=zb r5 2;have d3:=zb r5 3;simp at d0 d1 d2 d3;have f0:w5.frozen? ⟨w.heap.size+3,0,none⟩=false:=by simp[World.frozen?,r5]
    have f1:w5.frozen? ⟨w.heap.size+3,1,none⟩=false:=by simp[World.frozen?,r5]
    have f2:w5.frozen? ⟨w.heap.size+3,2,none⟩=false:=by simp[World.frozen?,r5]
    have f3:w5.frozen? ⟨w.heap.size+3,3,none⟩=false:=by simp[World.frozen?,r5]
    have HR5:=Lib.hid r5;have HO:=Lib.hid (Xs HB2.out (by omega) hz2 hx5 hb5);clear r5 hx5 hb5 hr;go_wp2_with fail;refine bodyPost_ret (v:=.agg #[.int .i64 (Ex.mk 2 n s L2).op,.int .i64 (Ex.mk 2 n s L2).n,.string (Ex.mk 2 n s L2).name,.slice a' (Ex.mk 2 n s L2).args.length c']) (Qn _ 6 rfl _ _ (w.heap.size+3) _ _ _ _ (YX HR5.out) rfl) rfl ?_;exact HP.out _ _ _ _ HE.out (HO.out _ _ _ _).1 (HO.out _ _ _ _).2
end Go.Proofs.YtnfkbliokjjggaaGreatDoor
