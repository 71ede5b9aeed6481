/- tseq.check, tseq.Valid. -/
import Derived.Test.YthojpomoflhbcaaGreatDoorN34
import Derived.Test.YthojpomoflhbcaaGreatDoorN29
import Derived.Test.YthojpomoflhbcaaGreatDoorN32
import Derived.Test.YthojpomoflhbcaaGreatDoorN11
import Derived.Test.YthojpomoflhbcaaGreatDoorN20
import Derived.Test.YthojpomoflhbcaaGreatDoorN14
set_option linter.unusedSimpArgs false
set_option linter.unusedVariables false
set_option linter.unnecessarySimpa false
namespace Go.Proofs.YthojpomoflhbcaaGreatDoor
open Go.RowKit
attribute [local go_sem ↓] Go.wp_at_zero Go.wp_at_succ
noncomputable def SmT (s:Tq):Prop:=s.para fun s l=>s.expr.nodes.length≤1000000000∧∀ x∈l,x
theorem SmT_iff (s:Tq):SmT s↔s.expr.nodes.length≤1000000000∧∀ a∈s.args,SmT a:=by
 unfold SmT
 rw[Tq.para_eq]
 exact and_congr_right fun _=>⟨fun h a ha=>h _ (List.mem_map.2 ⟨a,ha,rfl⟩),fun h x hx=>by obtain⟨a,ha,rfl⟩:=List.mem_map.1 hx;exact h a ha⟩
theorem firstZ_hit:∀ {l:List Int} {k:Nat} (hk:k < l.length),(∀ j (hj:j < l.length),j < k→l[j]'hj=0)→l[k]'hk≠0→firstZ l=l[k]'hk:=by
 intro l
 induction l with
 | nil=>intro k hk;simp at hk
 | cons a l ih =>
  intro k hk hb h
  cases k with
  | zero =>
   have h':a≠0:=h
   rw[firstZ,if_neg h'];rfl
  | succ k =>
   have h0:a=0:=hb 0 (by simp) (by omega)
   rw[firstZ,if_pos h0]
   exact ih (by simpa using hk) (fun j hj hjk=>hb (j+1) (by simpa using hj) (by omega)) h
set_option maxHeartbeats 8000000 in
set_option maxRecDepth 100000 in
theorem tcheck_any (s:Tq):∀ (below:Bool) (p:Nat→Bool) (ae:Option Addr) (ce:Nat) (a:Option Addr) (cap:Nat) (w:World),TqIn (World.hide w p) s ae ce a cap→(∀ j,p j=true→j < w.heap.size)→s.nodes≤1000000000→SmT s→Glob w →
  Calls Tryz.prog 83 #[tqVal s ae ce a cap,.bool below] w fun e w'=>e=.returned (.int .i64 (checkT s below))∧Below w.heap.size w w':=by
 induction s using Tq.ind with
 | h s ih =>
  intro below p ae ce a cap w hX hp hn hsm hG
  obtain⟨hxn,hsa⟩:=(SmT_iff s).1 hsm
  have HIH:Hid (∀ k (hk:k < s.args.length),∀ (xe:Option Addr) (xc:Nat) (xa:Option Addr) (xk:Nat) (W:World),TqIn (World.hide W p) (s.args[k]'hk) xe xc xa xk→Below w.heap.size w W→Calls Tryz.prog 83 #[tqVal (s.args[k]'hk) xe xc xa xk,.bool (below || s.op == 5)] W fun e w'=>e=.returned (.int .i64 (checkT (s.args[k]'hk) (below || s.op == 5)))∧Below W.heap.size W w'):=fun k hk xe xc xa xk W h1 hW=>ih _ (List.getElem_mem hk) _ p xe xc xa xk W h1 (fun j hj=>by have:=hp j hj;have:=hW.size;omega) (Nat.le_trans (Nat.le_of_lt (tq_nodes_arg (List.getElem_mem hk))) hn) (hsa _ (List.getElem_mem hk)) (hG.below hW)
  have HNd:Hid (∀ W,Below w.heap.size w W→Calls Tryz.prog 135 #[tqVal s ae ce a cap,.bool below] W fun e w'=>e=.returned (.int .i64 (nodeT s below))∧Below W.heap.size W w'):=fun W hW=>tnode_any s below p ae ce a cap W (hX.keep (hide_below hW fun _ _ h=>h)) (fun j hj=>by have:=hp j hj;have:=hW.size;omega) hn hxn (hG.below hW)
  have hlen:=hX.ar.2.1
  have HX:=Lib.hid hX.ar
  have HXA:Hid (s.args.length=0∨∃ b off,a=some ⟨b,off,none⟩):=SliceIn.addr hX.ar
  have HR1:Hid (nodeT s below≠0→checkT s below=nodeT s below):=fun h=>by rw[checkT_eq,if_neg h]
  have HR2:Hid (nodeT s below=0→∀ k (hk:k < s.args.length),(∀ j (hj:j < s.args.length),j < k→checkT (s.args[j]'hj) (below || s.op == 5)=0)→checkT (s.args[k]'hk) (below || s.op == 5)≠0→checkT s below=checkT (s.args[k]'hk) (below || s.op == 5)):=fun h k hk hb hne=>by
   rw[checkT_eq,if_pos h,firstZ_hit (k:=k) (by simpa using hk) (fun j hj hjk=>by simpa using hb j (by simpa using hj) hjk) (by simpa using hne)]
   simp
  have HR3:Hid (nodeT s below=0→(∀ j (hj:j < s.args.length),checkT (s.args[j]'hj) (below || s.op == 5)=0)→checkT s below=0):=fun h hb=>by
   rw[checkT_eq,if_pos h]
   refine firstZ_zero.2 fun x hx=>?_
   obtain⟨y,hy,rfl⟩:=List.mem_map.1 hx
   obtain⟨j,hj,rfl⟩:=List.getElem_of_mem hy
   exact hb j hj
  generalize checkT s below=R at HR1 HR2 HR3⊢
  generalize nodeT s below=nv at HNd HR1 HR2 HR3
  clear hX hp hn hsm hG hxn hsa ih
  rw[tqVal_eqF] at HNd⊢
  go_enter Tryz.func83, Tryz.ntmps83
  go_upto_region 1 with fail
  generalize hBx:World.alloc w _=Bx
  have HB0:Hid (Below w.heap.size w Bx):=by show Below _ _ _;rw[← hBx];exact(Below.refl _ _).alloc (Nat.le_refl _) _
  have hzB:=HB0.out.size
  have HBX:Hid (Bx.heap[w.heap.size]? = some (tqBoxF s ae ce a cap)):=by show _=_;rw[← hBx];exact hx_newT rfl
  obtain⟨b0,b1,b2,b3,b4,b5,b6,b7,b8⟩:=cell9TF HBX.out
  clear hBx
  go_wp2_with fail
  refine(HNd.out _ HB0.out).mono ?_
  rintro e w1 ⟨rfl,hb1⟩
  have HB1:Hid (Below w.heap.size w w1):=HB0.out.trans (hb1.mono hzB)
  have HBX1:Hid (w1.heap[w.heap.size]? = some (tqBoxF s ae ce a cap)):=(hb1.block _ (lt_of_block HBX.out)).trans HBX.out
  have hz1:=HB1.out.size
  clear hb1 b0 b1 b2 b3 b4 b5 b6 b7 b8
  by_cases hv:nv=0
  ·subst hv
   replace HR2:=Lib.hid (HR2.out rfl)
   replace HR3:=Lib.hid (HR3.out rfl)
   clear HR1 HNd
   obtain⟨b0,-,-,-,-,-,-,-,b8⟩:=cell9TF HBX1.out
   go_wp2_with fail
   clear b0 b8
   go_loopw [18,7,8] (fun i _ _ wr=>∃ k:Nat,i=.int .i64 k∧k≤s.args.length∧Hid (∀ j (hj:j < s.args.length),j < k→checkT (s.args[j]'hj) (below || s.op == 5)=0)∧Hid (Below w1.heap.size w1 wr)) (fun i _ _ _=>s.args.length - (intOf i).toNat)
   case atStart=>exact⟨0,rfl,Nat.zero_le _,fun _ _ h=>absurd h (by omega),Below.refl _ _⟩
   case round =>
    obtain⟨k,rfl,hk,HAl,HBr⟩:=hrel
    have hzr:=HBr.out.size
    have HBw:Hid (Below w.heap.size w wr):=HB1.out.trans (HBr.out.mono hz1)
    by_cases hlt:k < s.args.length
    ·obtain⟨bE,oE,hEa⟩:=HXA.out.resolve_left (by omega)
     subst hEa
     obtain⟨xe,xc,xa,xk,gc,hXy⟩:=(TqsIn.keep (w':=World.hide wr p) (hide_below HBw.out fun _ _ h=>h) HX.out).get rfl hlt
     obtain⟨g0,g1,g2,g3,g4,g5,g6,g7,g8⟩:=cell9F gc
     have f0:=hide_cell _ _ g0
     have f1:=hide_cell _ _ g1
     have f2:=hide_cell _ _ g2
     have f3:=hide_cell _ _ g3
     have f4:=hide_cell _ _ g4
     have f5:=hide_cell _ _ g5
     have f6:=hide_cell _ _ g6
     have f7:=hide_cell _ _ g7
     have f8:=hide_cell _ _ g8
     have HC:=Lib.hid fun W (hW:Below wr.heap.size wr W)=>HIH.out k hlt xe xc xa xk W (hXy.keep (hide_below hW fun _ _ h=>h)) (HBw.out.trans (hW.mono HBw.out.size))
     have HNx:Hid (checkT (s.args[k]'hlt) (below || s.op == 5)=0→∀ j (hj:j < s.args.length),j < k+1→checkT (s.args[j]'hj) (below || s.op == 5)=0):=fun hv j hj hjk=>by
      by_cases e:j=k
      ·subst e;exact hv
      ·exact HAl.out j hj (by omega)
     have HYx:Hid (checkT (s.args[k]'hlt) (below || s.op == 5)≠0→R=checkT (s.args[k]'hlt) (below || s.op == 5)):=fun h=>HR2.out k hlt HAl.out h
     have hbx:=(HBr.out.block _ (lt_of_block HBX1.out)).trans HBX1.out
     have b0:∀ o,(wr.alloc o).cell? ⟨w.heap.size,0,none⟩=some (.int .i64 s.op):=fun o=>by rw[cell_of_blkT (hx_oldT (o:=o) hbx)];rfl
     clear gc g0 g1 g2 g3 g4 g5 g6 g7 g8 hXy hbx
     generalize (s.args[k]'hlt)=y at f0 f1 f2 f3 f4 f5 f6 f7 f8 HC HNx HYx
     rw[tqVal_eqF] at HC
     obtain⟨q,hq⟩:∃ q,(below || s.op == 5)=q:=⟨_,rfl⟩
     have hbq:(below=true∧q=true)∨(below=false∧(s.op == 5)=q):=by
      cases below with
      | true=>left;exact⟨rfl,by rw[← hq];rfl⟩
      | false=>right;exact⟨rfl,by rw[← hq];rfl⟩
     generalize hcv:checkT y (below || s.op == 5)=cv at HC HNx HYx
     rw[hq] at HC
     clear hq hcv
     have HCf:Hid (∀ W,Below wr.heap.size wr W→Calls Tryz.prog 83 #[.agg #[.int .i64 y.op,.int .i64 y.lo,.int .i64 y.hi,.int .i64 y.expr.op,.int .i64 y.expr.n,.string y.expr.name,.slice xe y.expr.args.length xc,.string y.name,.slice xa y.args.length xk],.bool q] W fun e w'=>e=.returned (.int .i64 cv)∧Below w1.heap.size w1 w'):=fun W hW=>(HC.out W hW).mono fun e w' h=>⟨h.1,HBr.out.trans ((hW.trans (h.2.mono hW.size)).mono hzr)⟩
     clear HC
     rcases hbq with ⟨hb,hq⟩ | ⟨hb,hq⟩
     all_goals
      subst hb
      subst hq
      by_cases hv:cv=0
      ·subst hv
       replace HNx:=Lib.hid (HNx.out rfl)
       go_wp2_with (go_at_call 83;go_must (refine(HCf.out _ belR).mono ?_;rintro e w5 ⟨rfl,hb5⟩;have HB5:=Lib.hid hb5;clear hb5))
       go_roundw
       case rel=>exact⟨k+1,by go_num,by omega,HNx.out,HB5.out⟩
       case measure=>(simp[intOf];try omega)
      ·obtain rfl:=HYx.out hv
       have hvb:(R == 0)=false:=by simp[hv]
       go_wp2_with (go_at_call 83;go_must (refine(HCf.out _ belR).mono ?_;rintro e w5 ⟨rfl,hb5⟩;have HB5:=Lib.hid hb5;clear hb5))
       go_ret
       exact⟨rfl,HB1.out.trans (HB5.out.mono hz1)⟩
    ·obtain rfl:k=s.args.length:=by omega
     obtain rfl:R=0:=HR3.out fun j hj=>HAl.out j hj hj
     go_wp2_with fail
     go_ret
     exact⟨rfl,HBw.out⟩
  ·obtain rfl:R=nv:=HR1.out hv
   have hvb:(R == 0)=false:=by simp[hv]
   clear HR2 HR3
   go_wp2_with fail
   go_ret
   exact⟨rfl,HB1.out⟩
theorem tvalid_any (s:Tq) (p:Nat→Bool) (ae:Option Addr) (ce:Nat) (a:Option Addr) (cap:Nat) (w:World) (hX:TqIn (World.hide w p) s ae ce a cap) (hp:∀ j,p j=true→j < w.heap.size) (hn:s.nodes≤1000000000) (hs:SmT s) (hG:Glob w) :
  Calls Tryz.prog 42 #[tqVal s ae ce a cap] w fun e w'=>e=.returned (.int .i64 (validT s))∧Below w.heap.size w w':=by
 have hpW:∀ W,Below w.heap.size w W→∀ j,p j=true→j < W.heap.size:=fun W hW j hj=>by have:=hp j hj;have:=hW.size;omega
 have HD:=Lib.hid fun W (hW:Below w.heap.size w W)=>tqdepth_any s p ae ce a cap W (hX.keep (hide_below hW fun _ _ h=>h)) (hpW W hW) hn
 have HS:=Lib.hid fun W (hW:Below w.heap.size w W)=>tqSize_any s p ae ce a cap W (hX.keep (hide_below hW fun _ _ h=>h)) (hpW W hW) hn
 have HC:=Lib.hid fun W (hW:Below w.heap.size w W)=>tcheck_any s false p ae ce a cap W (hX.keep (hide_below hW fun _ _ h=>h)) (hpW W hW) hn hs (hG.below hW)
 have HR:Hid (validT s=if 8 < s.depth∨100 < s.nodes then 2 else checkT s false):=rfl
 generalize validT s=R at HR⊢
 generalize checkT s false=cv at HC HR
 generalize s.depth=d at HD HR
 generalize s.nodes=m at HS HR
 clear hX hp hn hs hG hpW
 rw[tqVal_eqF] at HD HS HC⊢
 go_enter Tryz.func42, Tryz.ntmps42
 go_upto_region 1 with fail
 generalize hBx:World.alloc w _=Bx
 have HB0:Hid (Below w.heap.size w Bx):=by show Below _ _ _;rw[← hBx];exact(Below.refl _ _).alloc (Nat.le_refl _) _
 have hzB:=HB0.out.size
 have HBX:Hid (∀ W,Below Bx.heap.size Bx W→W.heap[w.heap.size]? = some (tqBoxF s ae ce a cap)):=fun W hW=>by
  have h0:Bx.heap[w.heap.size]? = some (tqBoxF s ae ce a cap):=by rw[← hBx];exact hx_newT rfl
  exact(hW.block _ (lt_of_block h0)).trans h0
 clear hBx
 have HT:Hid (∀ (f:FuncId) (args:Array Value) (v:Value),(∀ W,Below w.heap.size w W→Calls Tryz.prog f args W fun e w'=>e=.returned v∧Below W.heap.size W w')→∀ W,Below Bx.heap.size Bx W→Calls Tryz.prog f args W fun e w'=>e=.returned v∧Below Bx.heap.size Bx w'):=fun f args v h W hW=>(h W (HB0.out.trans (hW.mono hzB))).mono fun e w' hq=>⟨hq.1,hW.trans (hq.2.mono hW.size)⟩
 replace HD:=Lib.hid (HT.out _ _ _ HD.out)
 replace HS:=Lib.hid (HT.out _ _ _ HS.out)
 replace HC:=Lib.hid (HT.out _ _ _ HC.out)
 clear HT
 have hbx:=Below.refl Bx.heap.size Bx
 obtain⟨b0,b1,b2,b3,b4,b5,b6,b7,b8⟩:=cell9TF (HBX.out _ hbx)
 clear hbx
 by_cases hd:8 < d
 ·obtain rfl:R=2:=by rw[HR.out,if_pos (Or.inl hd)]
  have hd2:(8:Int) < (d:Int):=by omega
  go_wp2_with (go_at_call 81;go_must (refine(HD.out _ (Below.refl _ _)).mono ?_;rintro e w1 ⟨rfl,hb1⟩;have HB1:=Lib.hid hb1;clear hb1))
  go_ret
  exact⟨rfl,HB0.out.trans (HB1.out.mono hzB)⟩
 ·have hd2:¬ (8:Int) < (d:Int):=by omega
  by_cases hm:100 < m
  ·obtain rfl:R=2:=by rw[HR.out,if_pos (Or.inr hm)]
   have hm2:(100:Int) < (m:Int):=by omega
   go_wp2_with (go_at_call 81;go_must (refine(HD.out _ (Below.refl _ _)).mono ?_;rintro e w1 ⟨rfl,hb1⟩;clear b0 b1 b2 b3 b4 b5 b6 b7 b8;obtain⟨b0,b1,b2,b3,b4,b5,b6,b7,b8⟩:=cell9TF (HBX.out _ hb1);have HB1:=Lib.hid hb1;clear hb1))
   refine(HS.out _ HB1.out).mono ?_
   rintro e w2 ⟨rfl,hb2⟩
   have HB2:=Lib.hid hb2
   clear hb2
   go_wp2_with fail
   go_ret
   exact⟨rfl,HB0.out.trans (HB2.out.mono hzB)⟩
  ·obtain rfl:R=cv:=by rw[HR.out,if_neg (by omega)]
   have hm2:¬ (100:Int) < (m:Int):=by omega
   go_wp2_with (go_at_call 81;go_must (refine(HD.out _ (Below.refl _ _)).mono ?_;rintro e w1 ⟨rfl,hb1⟩;clear b0 b1 b2 b3 b4 b5 b6 b7 b8;obtain⟨b0,b1,b2,b3,b4,b5,b6,b7,b8⟩:=cell9TF (HBX.out _ hb1);have HB1:=Lib.hid hb1;clear hb1))
   refine(HS.out _ HB1.out).mono ?_
   rintro e w2 ⟨rfl,hb2⟩
   clear b0 b1 b2 b3 b4 b5 b6 b7 b8
   obtain⟨b0,b1,b2,b3,b4,b5,b6,b7,b8⟩:=cell9TF (HBX.out _ hb2)
   have HB2:=Lib.hid hb2
   clear hb2
   go_wp2_with fail
   refine(HC.out _ HB2.out).mono ?_
   rintro e w3 ⟨rfl,hb3⟩
   have HB3:=Lib.hid hb3
   clear hb3
   go_wp2_with fail
   go_ret
   exact⟨rfl,HB0.out.trans (HB3.out.mono hzB)⟩
end Go.Proofs.YthojpomoflhbcaaGreatDoor
namespace Go.Proofs.YthojpomoflhbcaaGreatDoor
open Go.RowKit
attribute [local go_sem ↓] Go.wp_at_zero Go.wp_at_succ
noncomputable def compS (s:Tq):Option NfaD × Int:=if validT s≠0 then (none,1) else match compN s with | none=>(none,2) | some n=>(some (trimS n),0)
def CompR (p:Nat→Bool) (r:Option NfaD × Int) (w:World) (e:Ending) (w':World):Prop :=
 (match r.1 with
  | some m=>∃ y:NfaA,e=.returned (.tuple #[.agg #[.int .i64 m.states,.slice y.ae m.edges.length y.ce,.slice y.aa m.accept.length y.ca],.int .i64 r.2])∧NfaIn (World.hide w' p) m y
  | none=>e=.returned (.tuple #[.agg #[.int .i64 0,.slice none 0 0,.slice none 0 0],.int .i64 r.2]))∧Below w.heap.size w w'
set_option maxHeartbeats 8000000 in
set_option maxRecDepth 100000 in
theorem Compile_any (s:Tq) (p:Nat→Bool) (ae:Option Addr) (ce:Nat) (a:Option Addr) (cap:Nat) (w:World) (hX:TqIn (World.hide w p) s ae ce a cap) (hp:∀ j,p j=true→j < w.heap.size) (hn:s.nodes≤1000000000) (hs:SmT s) (hG:Glob w) :
  Calls Tryz.prog 13 #[tqVal s ae ce a cap] w (CompR p (compS s) w):=by
 have hpW:∀ W,Below w.heap.size w W→∀ j,p j=true→j < W.heap.size:=fun W hW j hj=>by have:=hp j hj;have:=hW.size;omega
 have HV:=Lib.hid fun W (hW:Below w.heap.size w W)=>tvalid_any s p ae ce a cap W (hX.keep (hide_below hW fun _ _ h=>h)) (hpW W hW) hn hs (hG.below hW)
 have HC:Hid (validT s=0→∀ q W,Below w.heap.size w W→(∀ k,k < w.heap.size→q k=true→p k=true)→(∀ j,q j=true→j < W.heap.size)→Calls Tryz.prog 43 #[tqVal s ae ce a cap] W (NfaRet q (compN s) W)):=fun hv q W hW hq1 hq2=>by
  have hb:¬ (8 < s.depth∨100 < s.nodes):=fun h=>by unfold validT at hv;rw[if_pos h] at hv;cases hv
  have hc:checkT s false=0:=by unfold validT at hv;rwa [if_neg hb] at hv
  exact compile_any s false hc (by omega) q ae ce a cap W (hX.keep (hide_below hW hq1)) hq2 (hG.below hW)
 have HOk:Hid (validT s=0→∀ n,compN s=some n→nfaOk n=true):=fun hv n h=>by
  have hb:¬ (8 < s.depth∨100 < s.nodes):=fun h=>by unfold validT at hv;rw[if_pos h] at hv;cases hv
  have hc:checkT s false=0:=by unfold validT at hv;rwa [if_neg hb] at hv
  exact(comp_reg s false hc n h).ok
 have HPW:=Lib.hid hpW
 have HG:=Lib.hid hG
 have HR:Hid (compS s=(if validT s≠0 then (none,1) else match compN s with | none=>(none,2) | some n=>(some (trimS n),0):Option NfaD × Int)):=rfl
 generalize compS s=R at HR⊢
 generalize validT s=v at HV HC HOk HR
 generalize hPo:CompR p R w=Po
 have HPo:Hid (∀ r,R=r→∀ e W,CompR p r w e W→Po e W):=fun r h e W h2=>by rw[← hPo,h];exact h2
 clear hPo hX hp hn hs hG hpW
 rw[tqVal_eqF] at HV HC⊢
 go_enter Tryz.func13, Tryz.ntmps13
 go_upto_region 1 with fail
 generalize hW2:World.alloc (World.alloc w _) _=W2
 have HB2:Hid (Below w.heap.size w W2):=by show Below _ _ _;rw[← hW2];exact((Below.refl _ _).alloc (Nat.le_refl _) _).alloc (by simp) _
 have HX2:Hid (W2.heap[w.heap.size]? = some (tqBoxF s ae ce a cap)):=by show _=_;rw[← hW2];exact hx_oldT (hx_newT rfl)
 have HY2:Hid (W2.heap[w.heap.size+1]? = some NfBox0):=by show _=_;rw[← hW2];exact hx_newT (by simp)
 have hz2:w.heap.size+2≤W2.heap.size:=by rw[← hW2];simp
 clear hW2
 obtain⟨b0,b1,b2,b3,b4,b5,b6,b7,b8⟩:=cell9TF HX2.out
 go_wp2_with fail
 refine(HV.out _ HB2.out).mono ?_
 rintro e w3 ⟨rfl,hb3⟩
 have HB3:Hid (Below w.heap.size w w3):=HB2.out.trans (hb3.mono HB2.out.size)
 have HX3:Hid (w3.heap[w.heap.size]? = some (tqBoxF s ae ce a cap)):=(hb3.block _ (by omega)).trans HX2.out
 have HY3:Hid (w3.heap[w.heap.size+1]? = some NfBox0):=(hb3.block _ (by omega)).trans HY2.out
 have hz3:w.heap.size+2≤w3.heap.size:=by have:=hb3.size;omega
 clear hb3 HX2 HY2 HB2 HV b0 b1 b2 b3 b4 b5 b6 b7 b8 hz2
 by_cases hv:v=0
 ·subst hv
  obtain⟨b0,b1,b2,b3,b4,b5,b6,b7,b8⟩:=cell9TF HX3.out
  obtain⟨q,hq⟩:∃ q:Nat→Bool,(fun j=>p j || (j == w.heap.size+1))=q:=⟨_,rfl⟩
  have Q:Hid (∀ j,q j=true↔p j=true∨j=w.heap.size+1):=fun j=>by rw[← hq];simp
  have HQl:Hid (∀ W:World,w.heap.size+2≤W.heap.size→∀ j,q j=true→j < W.heap.size):=fun W hW j hj=>by
   rcases (Q.out j).1 hj with h | h
   ·have:=HPW.out w (Below.refl _ _) j h;omega
   ·omega
  have HCc:=Lib.hid (HC.out rfl q w3 HB3.out (fun k hk h=>((Q.out k).1 h).elim id fun e=>by omega) (HQl.out w3 hz3))
  clear hq
  have HOk2:=Lib.hid (HOk.out rfl)
  clear HC HOk
  go_wp2_with fail
  refine HCc.out.mono ?_
  intro e w5 h5
  cases hr:compN s with
  | none =>
   rw[hr] at h5
   obtain⟨rfl,hb5⟩:=h5.outNo
   have HRe:Hid (R=(none,2)):=by show _=_;rw[HR.out,if_neg (by simp),hr]
   have HB5:Hid (Below w.heap.size w w5):=HB3.out.trans (hb5.mono HB3.out.size)
   have hy5:w5.heap[w.heap.size+1]? = some NfBox0:=(hb5.block _ (by omega)).trans HY3.out
   obtain⟨⟨c0,c1,c2⟩,⟨d0,d1,d2⟩⟩:=box3A hy5
   have HY5:=Lib.hid hy5
   clear h5 hb5 hy5 hr HR HOk2 b0 b1 b2 b3 b4 b5 b6 b7 b8
   go_wp2_with fail
   refine bodyPost_ret (v:=.tuple #[.agg #[.int .i64 0,.slice none 0 0,.slice none 0 0],.int .i64 2]) (nfa_res _ rfl _ _ (w.heap.size+1) _ _ _ _ (set3 (hx_oldT HY5.out)) rfl rfl) rfl ?_
   refine HPo.out _ HRe.out _ _ ⟨rfl,?_⟩
   have hz:=HB5.out.size
   exact(((HB5.out.alloc hz _).setCell (by simp) _).setCell (by simp) _).setCell (by simp) _
  | some n =>
   rw[hr] at h5
   obtain⟨x,rfl,hn5,hb5⟩:=h5.outYes
   have HRe:Hid (R=(some (trimS n),0)):=by show _=_;rw[HR.out,if_neg (by simp),hr]
   have HB5:Hid (Below w.heap.size w w5):=HB3.out.trans (hb5.mono HB3.out.size)
   have hok:=HOk2.out n hr
   have hy5:w5.heap[w.heap.size+1]? = some NfBox0:=(hb5.block _ (by omega)).trans HY3.out
   have HN5:=Lib.hid hn5
   have hz5:w.heap.size+2≤w5.heap.size:=by have:=hb5.size;omega
   have HY5:=Lib.hid hy5
   clear h5 hb5 hy5 hr HR HOk2 hn5 b0 b1 b2 b3 b4 b5 b6 b7 b8
   go_upto_region 6 with fail
   generalize hW6:World.alloc w5 _=W6
   have hB6:Below w5.heap.size w5 W6:=by rw[← hW6];exact(Below.refl _ _).alloc (Nat.le_refl _) _
   have hx6:W6.heap[w5.heap.size]? = some (NfBox n x):=by rw[← hW6];exact hx_newT rfl
   obtain⟨n0,n1,n2⟩:=cell3T hx6
   have HB6:Hid (Below w.heap.size w W6):=HB5.out.trans (hB6.mono HB5.out.size)
   have HY6:Hid (W6.heap[w.heap.size+1]? = some NfBox0):=(hB6.block _ (by omega)).trans HY5.out
   have hz6:=hB6.size
   have HT:=Lib.hid (trim_any q n x W6 (HN5.out.keep (hide_below hB6 fun _ _ h=>h)) (HQl.out W6 (by omega)) (HG.out.below HB6.out) (ok_smallN hok))
   rw[nfaVal_eq] at HT
   clear hW6 hB6 hx6 hok
   go_wp2_with fail
   refine HT.out.mono ?_
   rintro e w7 ⟨⟨y,rfl,hn7⟩,hb7⟩
   have HB7:Hid (Below w.heap.size w w7):=HB6.out.trans (hb7.mono HB6.out.size)
   have hy7:w7.heap[w.heap.size+1]? = some (.cells #[.int .i64 0,.slice none 0 0,.slice none 0 0] 33 (0,0)):=(hb7.block _ (by omega)).trans HY6.out
   obtain⟨r0,r1,r2⟩:=cell3T hy7
   have r0f:w7.frozen? ⟨w.heap.size+1,0,none⟩=false:=by simp[World.frozen?,hy7]
   have r1f:w7.frozen? ⟨w.heap.size+1,1,none⟩=false:=by simp[World.frozen?,hy7]
   have r2f:w7.frozen? ⟨w.heap.size+1,2,none⟩=false:=by simp[World.frozen?,hy7]
   have HY7:=Lib.hid hy7
   have HN7:=Lib.hid hn7
   clear hb7 hy7 hn7 n0 n1 n2
   go_wp2_with fail
   refine bodyPost_ret (v:=.tuple #[.agg #[.int .i64 (trimS n).states,.slice y.ae (trimS n).edges.length y.ce,.slice y.aa (trimS n).accept.length y.ca],.int .i64 0]) (nfa_res _ rfl _ _ (w.heap.size+1) _ _ _ _ (set3 HY7.out) rfl rfl) rfl ?_
   have hq1:q (w.heap.size+1)=true:=(Q.out _).2 (Or.inr rfl)
   refine HPo.out _ HRe.out _ _ ⟨⟨y,rfl,HN7.out.keep (Kp.trans (hide_store hq1) (Kp.trans (hide_store hq1) (Kp.trans (hide_store hq1) (hide_mono fun j hj=>(Q.out j).2 (Or.inl hj)))))⟩,?_⟩
   exact((HB7.out.setCell (by simp) _).setCell (by simp) _).setCell (by simp) _
 ·have HRe:Hid (R=(none,1)):=by show _=_;rw[HR.out,if_pos hv]
  have hvb:(v == 0)=false:=by simp[hv]
  have hy:w3.heap[w.heap.size+1]? = some (.cells #[.int .i64 0,.slice none 0 0,.slice none 0 0] 33 (0,0)):=HY3.out
  obtain⟨r0,r1,r2⟩:=cell3T hy
  have r0f:w3.frozen? ⟨w.heap.size+1,0,none⟩=false:=by simp[World.frozen?,hy]
  have r1f:w3.frozen? ⟨w.heap.size+1,1,none⟩=false:=by simp[World.frozen?,hy]
  have r2f:w3.frozen? ⟨w.heap.size+1,2,none⟩=false:=by simp[World.frozen?,hy]
  have HY:=Lib.hid hy
  clear hy HR HC HOk
  go_wp2_with fail
  refine bodyPost_ret (v:=.tuple #[.agg #[.int .i64 0,.slice none 0 0,.slice none 0 0],.int .i64 1]) (nfa_res _ rfl _ _ (w.heap.size+1) _ _ _ _ (set3 HY.out) rfl rfl) rfl ?_
  refine HPo.out _ HRe.out _ _ ⟨rfl,((HB3.out.setCell (by simp) _).setCell (by simp) _).setCell (by simp) _⟩
end Go.Proofs.YthojpomoflhbcaaGreatDoor
namespace Go.Proofs.YthojpomoflhbcaaGreatDoor
open Go.RowKit
def lkS (env:List Sg) (s:ByteArray):Int:=(findS env s).getD 0
theorem tl_beq {a b:ByteArray}:(a.toList == b.toList)=true↔a=b:=by
 constructor
 ·intro h
  have h2:=eq_of_beq h
  rw[ByteArray.toList_eq,ByteArray.toList_eq] at h2
  exact ba_ext h2
 ·rintro rfl;simp
theorem findS_cons (x:Sg) (l:List Sg) (s:ByteArray):findS (x::l) s=if x.1=s then some (wrapW x.2) else findS l s:=by
 show (if (x.1.toList == s.toList)=true then _ else _)=_
 by_cases h:x.1=s
 ·rw[if_pos h,if_pos (tl_beq.2 h)]
 ·rw[if_neg h,if_neg fun e=>h (tl_beq.1 e)]
theorem findS_append (l m:List Sg) (s:ByteArray):findS (l++m) s=(findS l s).or (findS m s):=by
 induction l with
 | nil=>rfl
 | cons x l ih =>
  rw[List.cons_append,findS_cons,findS_cons,ih]
  split<;>simp
theorem findS_some {l:List Sg} {s:ByteArray} (h:∃ v,(s,v)∈l):(findS l s).isSome=true:=by
 induction l with
 | nil=>obtain⟨v,hv⟩:=h;cases hv
 | cons x l ih =>
  rw[findS_cons]
  by_cases hx:x.1=s
  ·rw[if_pos hx];rfl
  ·rw[if_neg hx]
   refine ih ?_
   obtain⟨v,hv⟩:=h
   rcases List.mem_cons.1 hv with h2 | h2
   ·rw[← h2] at hx;exact absurd rfl hx
   ·exact⟨v,h2⟩
theorem findS_zero {l:List Sg} (h:∀ x∈l,x.2=0) (s:ByteArray):(findS l s).getD 0=0:=by
 induction l with
 | nil=>rfl
 | cons x l ih =>
  rw[findS_cons]
  split
  ·rw[h x (List.mem_cons_self ..)];rfl
  ·exact ih fun y hy=>h y (List.mem_cons_of_mem _ hy)
def AskN (e:Ex) (s:ByteArray):Prop:=(∃ x∈e.nodes,x.op=2∧x.name=s)∨∃ x∈e.nodes,(x.op=3∨x.op=24)∧∃ i:Nat,i < 8∧s=elName x.name i
theorem node_arg {e x y:Ex} (hx:x∈e.args) (hy:y∈x.nodes):y∈e.nodes:=by
 rw[Ex.nodes_eq]
 exact List.mem_cons_of_mem _ (List.mem_flatten.2 ⟨_,List.mem_map.2 ⟨x,hx,rfl⟩,hy⟩)
theorem AskN.arg {e x:Ex} {s:ByteArray} (hx:x∈e.args) (h:AskN x s):AskN e s:=by
 rcases h with ⟨y,hy,h⟩ | ⟨y,hy,h⟩
 ·exact Or.inl ⟨y,node_arg hx hy,h⟩
 ·exact Or.inr ⟨y,node_arg hx hy,h⟩
theorem atS_lk (env:List Sg) (s:ByteArray) (i:Int):(atS env s i).getD 0=if i < 0∨8≤i then 0 else lkS env (elName s i):=by
 unfold atS lkS;split<;>rfl
theorem value_lk {env env':List Sg} (e:Ex):(∀ s,AskN e s→lkS env s=lkS env' s)→valueS env e=valueS env' e:=by
 induction e using Ex.ind with
 | h e ih =>
  intro hf
  have hself:e∈e.nodes:=by rw[Ex.nodes_eq];exact List.mem_cons_self ..
  rw[valueS_eq,valueS_eq]
  have hl:e.args.map (valueS env)=e.args.map (valueS env'):=List.map_congr_left fun x hx=>ih x hx fun s hs=>hf s (hs.arg hx)
  rw[hl]
  have hel:∀ i:Int,e.op=3∨e.op=24→(atS env e.name i).getD 0=(atS env' e.name i).getD 0:=by
   intro i ho
   rw[atS_lk,atS_lk]
   split
   ·rfl
   ·rename_i hi
    refine hf _ (Or.inr ⟨e,hself,ho,i.toNat,by omega,?_⟩)
    rw[show ((i.toNat:Nat):Int)=i by omega]
  by_cases h1:e.op=1
  ·rw[if_pos h1,if_pos h1]
  rw[if_neg h1,if_neg h1]
  by_cases h2:e.op=2
  ·rw[if_pos h2,if_pos h2]
   exact hf _ (Or.inl ⟨e,hself,h2,rfl⟩)
  rw[if_neg h2,if_neg h2]
  by_cases h3:e.op=3
  ·rw[if_pos h3,if_pos h3]
   exact hel _ (Or.inl h3)
  rw[if_neg h3,if_neg h3]
  by_cases h4:e.op=24
  ·rw[if_pos h4,if_pos h4]
   have:∀ k:Nat,sumTo env e.name k=sumTo env' e.name k:=by
    intro k
    induction k with
    | zero=>rfl
    | succ k ih2 =>
     show addW (sumTo env e.name k) ((atS env e.name k).getD 0)=addW (sumTo env' e.name k) ((atS env' e.name k).getD 0)
     rw[ih2,hel _ (Or.inr h4)]
   exact this 8
  ·rw[if_neg h4,if_neg h4]
theorem valN_val {e:Ex} (h:okX e=true) (loc env:List Sg):valN e loc env=valueS (loc++env) e:=by
 have hv:validS e=0:=by unfold okX at h;exact eq_of_beq h
 have hk:knownS (loc++env++extN e) e=true:=by
  unfold knownS
  rw[Bool.and_eq_true,List.all_eq_true,List.all_eq_true]
  refine⟨fun s hs=>?_,fun s hs=>?_⟩
  ·refine findS_some ⟨0,?_⟩
   refine List.mem_append_right _ (List.mem_append_left _ (List.mem_map.2 ⟨s,hs,rfl⟩))
  ·show (atS _ s 0).isSome=true
   unfold atS
   rw[if_neg (by omega)]
   refine findS_some ⟨0,?_⟩
   refine List.mem_append_right _ (List.mem_append_right _ (List.mem_map.2 ⟨s,hs,?_⟩))
   refine Prod.ext ?_ rfl
   apply ByteArray.ext
   apply Array.ext'
   simp[elName]
 unfold valN evalS
 rw[if_neg (by simpa using hv),if_neg (by rw[hk];simp)]
 refine value_lk e fun s _=>?_
 unfold lkS
 rw[findS_append]
 cases hf:findS (loc++env) s with
 | some v=>rfl
 | none =>
  rw[Option.none_or]
  refine findS_zero (fun x hx=>?_) s
  unfold extN at hx
  rcases List.mem_append.1 hx with hx | hx
  ·obtain⟨_,_,rfl⟩:=List.mem_map.1 hx;rfl
  ·obtain⟨_,_,rfl⟩:=List.mem_map.1 hx;rfl
def Agr (S:List ByteArray) (l l0:List Sg):Prop:=∀ env s,¬ s∈S→lkS (l++env) s=lkS (l0++env) s
theorem Agr.refl (S:List ByteArray) (l:List Sg):Agr S l l:=fun _ _ _=>rfl
theorem Agr.trans {S:List ByteArray} {l l1 l2:List Sg} (h:Agr S l l1) (h2:Agr S l1 l2):Agr S l l2:=fun env s hs=>(h env s hs).trans (h2 env s hs)
end Go.Proofs.YthojpomoflhbcaaGreatDoor
namespace Go.Proofs.YthojpomoflhbcaaGreatDoor
open Go.RowKit
theorem trim_nz {K:Nat} {n:NfaD} (h:RegN K n):(∀ e∈(trimS n).edges,e.to≠0)∧∀ a∈(trimS n).accept,a≠0:=by
 have h0:∀ t:Int,1≤t→((numK (aheadS n) (behindS n) t.toNat:Nat):Int)≠0:=fun t ht=>by
  have:=numK_lt (a:=aheadS n) (b:=behindS n) (show 0 < t.toNat by omega) kept_zero
  omega
 unfold trimS
 rw[if_pos h.ok]
 refine⟨fun e he=>?_,fun a ha=>?_⟩
 ·obtain⟨f,hf,rfl⟩:=List.mem_map.1 he
  exact h0 _ (h.es f (List.mem_filter.1 hf).1).1
 ·obtain⟨b,hb,rfl⟩:=List.mem_map.1 ha
  exact h0 _ (h.ac b (List.mem_filter.1 hb).1)
theorem trimS_ok {n:NfaD} (h:nfaOk n=true):nfaOk (trimS n)=true:=by
 unfold trimS
 rw[if_pos h]
 exact trim_ok h
def vN (c:UInt8):Ex:=.mk 2 0 ⟨#[c]⟩ []
def isN (c:UInt8):Tq:=.mk 1 0 0 (vN c) ⟨#[]⟩ []
def smN:Tq:=.mk 2 0 1 (.mk 0 0 ⟨#[]⟩ []) ⟨#[]⟩ [isN 97,isN 98]
def smI (c:UInt8):NfaD:=⟨2,[⟨0,1,[vN c],[]⟩],[1]⟩
def smO:NfaD:=⟨3,[⟨0,1,[vN 97],[]⟩,⟨0,2,[vN 97,vN 98],[]⟩,⟨1,2,[vN 98],[]⟩],[2]⟩
theorem nodes_vN (c:UInt8):(vN c).nodes=[vN c]:=by rw[Ex.nodes_eq];simp[vN,Ex.args_mk]
theorem depth_vN (c:UInt8):(vN c).depth=1:=by rw[Ex.depth_eq];simp[vN,Ex.args_mk]
theorem valid_vN (c:UInt8) (h:firstE [vN c]=0):validS (vN c)=0:=by
 unfold validS
 rw[nodes_vN,h,depth_vN,if_neg]
 rintro ⟨_,h | h⟩
 ·omega
 ·rw[List.length_singleton] at h;omega
theorem ok97:okX (vN 97)=true:=by unfold okX;rw[valid_vN 97 (by decide)];rfl
theorem ok98:okX (vN 98)=true:=by unfold okX;rw[valid_vN 98 (by decide)];rfl
theorem smI_ok {c:UInt8} (h:okX (vN c)=true):nfaOk (smI c)=true:=by
 have e1:accB 2 [1] 1=true:=by decide
 have e2:(0:Int)≤0∧(0:Int) < 2∧(0:Int)≤1∧(1:Int) < 2:=by decide
 refine nfaOk_iff.2 ⟨by simp[smI],fun e he=>?_,e1⟩
 obtain rfl:=List.mem_singleton.1 he
 exact edgeOk_iff.2 ⟨e2,fun g hg=>by obtain rfl:=List.mem_singleton.1 hg;exact h,fun b hb=>by cases hb⟩
theorem smO_ok:nfaOk smO=true:=by
 refine nfaOk_iff.2 ⟨by simp[smO],fun e he=>?_,by decide⟩
 simp only[smO,List.mem_cons,List.not_mem_nil,or_false] at he
 rcases he with rfl | rfl | rfl
 ·exact edgeOk_iff.2 ⟨by decide,fun g hg=>by obtain rfl:=List.mem_singleton.1 hg;exact ok97,fun b hb=>by cases hb⟩
 ·refine edgeOk_iff.2 ⟨by decide,fun g hg=>?_,fun b hb=>by cases hb⟩
  simp only[List.mem_cons,List.not_mem_nil,or_false] at hg
  rcases hg with rfl | rfl
  ·exact ok97
  ·exact ok98
 ·exact edgeOk_iff.2 ⟨by decide,fun g hg=>by obtain rfl:=List.mem_singleton.1 hg;exact ok98,fun b hb=>by cases hb⟩
theorem comp_isN {c:UInt8} (h:okX (vN c)=true):compN (isN c)=some (smI c):=by
 rw[compN_eq]
 show nodeN (isN c) []=_
 show doneN (smI c)=_
 unfold doneN
 rw[if_pos (smI_ok h)]
theorem sm_delay:delayN 0 1 (smI 97) (smI 98)=smO:=by rfl
theorem comp_smN:compN smN=some smO:=by
 rw[compN_eq]
 have e:smN.args.map compN=[some (smI 97),some (smI 98)]:=by
  show [compN (isN 97),compN (isN 98)]=_
  rw[comp_isN ok97,comp_isN ok98]
 rw[e]
 show doneN (delayN 0 1 (smI 97) (smI 98))=_
 rw[sm_delay]
 unfold doneN
 rw[if_pos smO_ok]
theorem trim_smO:trimS smO=smO:=by
 unfold trimS
 rw[if_pos smO_ok]
 rfl
theorem sizes_isN (c:UInt8):(isN c).depth=1∧(isN c).nodes=1:=by
 rw[Tq.depth_eq,Tq.nodes_eq]
 exact⟨rfl,rfl⟩
theorem check_isN {c:UInt8} (h:okX (vN c)=true) (b:Bool):checkT (isN c) b=0:=by
 have hv:validS (vN c)=0:=by simpa [okX] using h
 have:nodeT (isN c) b=0:=by
  simp[nodeT,shapeB,isN,Tq.op,Tq.args,Tq.lo,Tq.hi,Tq.name,Tq.expr,writtenB,hv,ByteArray.size]
 rw[checkT_eq,if_pos this]
 rfl
theorem valid_smN:validT smN=0:=by
 have hd:smN.depth=2:=by
  rw[Tq.depth_eq]
  show List.foldl max 0 [(isN 97).depth,(isN 98).depth]+1=2
  rw[(sizes_isN 97).1,(sizes_isN 98).1];rfl
 have hn:smN.nodes=3:=by
  rw[Tq.nodes_eq]
  show 1+[(isN 97).nodes,(isN 98).nodes].sum=3
  rw[(sizes_isN 97).2,(sizes_isN 98).2];rfl
 have h0:nodeT smN false=0:=by
  simp[nodeT,shapeB,smN,Tq.op,Tq.args,Tq.lo,Tq.hi,Tq.name,Tq.expr,writtenB,zeroX,Ex.op_mk,Ex.n_mk,Ex.name_mk,Ex.args_mk,ByteArray.size]
 unfold validT
 rw[hd,hn,if_neg (by omega),checkT_eq,if_pos h0]
 show firstZ [checkT (isN 97) _,checkT (isN 98) _]=0
 rw[check_isN ok97,check_isN ok98];rfl
def smE:List Sg:=[(⟨#[97]⟩,1),(⟨#[98]⟩,1)]
theorem val_97:valN (vN 97) [] smE=1:=by
 rw[valN_val ok97,valueS_eq,if_neg (by decide),if_pos (by rfl)]
 simp[smE,findS_cons,vN,Ex.name_mk,wrapW]
theorem val_98:valN (vN 98) [] smE=1:=by
 rw[valN_val ok98,valueS_eq,if_neg (by decide),if_pos (by rfl)]
 simp[smE,findS_cons,vN,Ex.name_mk,wrapW]
theorem take_sm {e:EdgeD} (hg:∀ g∈e.guards,g=vN 97∨g=vN 98) (hs:e.sets=[]):takeS e [] smE=some []:=by
 have h1:e.guards.all (fun g=>valN g [] smE != 0)=true:=List.all_eq_true.2 fun g h=>by
  rcases hg g h with rfl | rfl
  ·rw[val_97];rfl
  ·rw[val_98];rfl
 unfold takeS
 rw[if_pos h1,hs]
 rfl
theorem step_smO:nstepS smO [⟨0,[]⟩] smE=([⟨1,[]⟩,⟨2,[]⟩],0):=by
 have hst:stepTo smO smE [⟨0,[]⟩] 1=[⟨1,[]⟩,⟨2,[]⟩]:=by
  show stepE smE ⟨0,[]⟩ (stepE smE ⟨0,[]⟩ (stepE smE ⟨0,[]⟩ [] ⟨0,1,[vN 97],[]⟩) ⟨0,2,[vN 97,vN 98],[]⟩) ⟨1,2,[vN 98],[]⟩=_
  have t1:=take_sm (e:=⟨0,1,[vN 97],[]⟩) (by simp) rfl
  have t2:=take_sm (e:=⟨0,2,[vN 97,vN 98],[]⟩) (by simp) rfl
  have e1:stepE smE ⟨0,[]⟩ [] ⟨0,1,[vN 97],[]⟩=[⟨1,[]⟩]:=by unfold stepE;rw[if_pos rfl,t1];rfl
  have e2:stepE smE ⟨0,[]⟩ [⟨1,[]⟩] ⟨0,2,[vN 97,vN 98],[]⟩=[⟨1,[]⟩,⟨2,[]⟩]:=by unfold stepE;rw[if_pos rfl,t2];rfl
  rw[e1,e2]
  unfold stepE
  rw[if_neg (by decide)]
 have ht:([⟨0,[]⟩]:List ThrD).all (thrOk smO)=true:=by rfl
 unfold nstepS
 rw[smO_ok,ht]
 show (if 256 < (stepTo smO smE [⟨0,[]⟩] 1).length then _ else (stepTo smO smE [⟨0,[]⟩] 1,_))=_
 rw[hst]
 rfl
theorem acc_smO:acceptS smO [⟨1,[]⟩,⟨2,[]⟩]=[⟨2,[]⟩]:=rfl
end Go.Proofs.YthojpomoflhbcaaGreatDoor
