/- law41: is. -/
import Derived.Test.YthojpomoflhbcaaGreatDoorN28
import Derived.Test.YthojpomoflhbcaaGreatDoorN35
import Derived.Deep.RegionHeld3
import Derived.BigQuiet
set_option linter.unusedSimpArgs false
set_option linter.unusedVariables false
set_option linter.unnecessarySimpa false
namespace Go.Proofs.YthojpomoflhbcaaGreatDoor
open Go.RowKit
attribute [local go_sem ↓] Go.wp_at_zero Go.wp_at_succ
set_option maxHeartbeats 4000000 in
theorem ts_res (fn:Func) (hr:fn.results=#[.cell 2 27]) (W:World) (tm:Array Value) (b:Nat) (m0 m1 m2 m3 m4 m5 m6 m7 m8:Value) (hW:W.heap[b]? = some (.cells #[m0,m1,m2,m3,m4,m5,m6,m7,m8] 27 (0,0))) (h0:tm.getD 2 undef=.pointer (some ⟨b,0,none⟩)) :
  (results fn tm).run Tryz.prog W=.ok (.agg #[m0,m1,m2,m3,m4,m5,m6,m7,m8]) W:=by
 obtain⟨c0,c1,c2,c3,c4,c5,c6,c7,c8⟩:=cell9TF hW
 rw[results_cellC hr,h0]
 simp[asAddr]
 go_simp
set_option maxHeartbeats 4000000 in
set_option maxRecDepth 100000 in
theorem is_any (c:UInt8) (w:World):Calls Tryz.prog 41 #[.string ⟨#[c]⟩] w fun e w'=>e=.returned (tqVal (isN c) none 0 none 0)∧Below w.heap.size w w':=by
 go_enter Tryz.func41, Tryz.ntmps41
 go_wp2_with fail
 refine bodyPost_ret (v:=tqVal (isN c) none 0 none 0) (ts_res _ rfl _ _ w.heap.size _ _ _ _ _ _ _ _ _ (hx_newT rfl) rfl) rfl ⟨rfl,(Below.refl _ _).alloc (Nat.le_refl _) _⟩
theorem in_isN (W:World) (c:UInt8):TqIn W (isN c) none 0 none 0:=by
 have hz:(⟨#[c]⟩:ByteArray).size≤1073741824:=by show 1≤1073741824;omega
 refine⟨by show 0≤1073741824;omega,⟨hz,?_⟩,?_⟩
 ·exact⟨Nat.le_refl _,by simp[isN,vN,Tq.expr,Ex.args_mk],Or.inl rfl⟩
 ·exact⟨Nat.le_refl _,by simp[isN,Tq.args],Or.inl rfl⟩
theorem in_smN {W:World} {b:Nat} (h:W.heap[b]? = some (.cells ((tqCells (isN 97) none 0 none 0)++(tqCells (isN 98) none 0 none 0)).toArray 27 (0,0))):TqIn W smN none 0 (some ⟨b,0,none⟩) 2:=by
 refine⟨by decide,⟨by decide,?_⟩,?_⟩
 ·exact⟨Nat.le_refl _,by simp[smN,Tq.expr,Ex.args_mk],Or.inl rfl⟩
 ·refine⟨by simp[smN,Tq.args],by simp[smN,Tq.args],Or.inr ⟨b,0,rfl,fun i hi=>?_⟩⟩
  have hi2:i < 2:=by simpa [smN,Tq.args] using hi
  match i,hi2 with
  | 0,_ =>
   refine⟨isN 97,rfl,(TqAt_iff _ _ _ _).2 ⟨none,0,none,0,fun j v hj=>?_,in_isN W 97⟩⟩
   have hj2:=(List.getElem?_eq_some_iff.1 hj).1
   rw[cell_of_blkT h]
   show ((tqCells (isN 97) none 0 none 0)++(tqCells (isN 98) none 0 none 0)).toArray[0+0 * 9+j]? = _
   rw[List.getElem?_toArray,show 0+0 * 9+j=j by omega,List.getElem?_append_left hj2];exact hj
  | 1,_ =>
   refine⟨isN 98,rfl,(TqAt_iff _ _ _ _).2 ⟨none,0,none,0,fun j v hj=>?_,in_isN W 98⟩⟩
   rw[cell_of_blkT h]
   show ((tqCells (isN 97) none 0 none 0)++(tqCells (isN 98) none 0 none 0)).toArray[0+1 * 9+j]? = _
   have hl:(tqCells (isN 97) none 0 none 0).length=9:=rfl
   rw[List.getElem?_toArray,List.getElem?_append_right (by omega),show 0+1 * 9+j - (tqCells (isN 97) none 0 none 0).length=j by omega];exact hj
theorem smT_smN:SmT smN:=by
 have h1:∀ c,SmT (isN c):=fun c=>(SmT_iff _).2 ⟨by show (vN c).nodes.length≤_;rw[nodes_vN];simp,fun a ha=>by simp[isN,Tq.args] at ha⟩
 refine(SmT_iff _).2 ⟨?_,fun a ha=>?_⟩
 ·show (Ex.mk 0 0 ⟨#[]⟩ []).nodes.length≤_
  rw[Ex.nodes_eq];simp[Ex.args_mk]
 ·simp[smN,Tq.args] at ha
  rcases ha with rfl | rfl
  ·exact h1 97
  ·exact h1 98
theorem compS_smN:compS smN=(some smO,0):=by
 unfold compS
 rw[valid_smN,comp_smN,if_neg (by simp)]
 show (some (trimS smO),(0:Int))=_
 rw[trim_smO]
theorem nodes_smN:smN.nodes≤1000000000:=by
 have h1:∀ c,(isN c).nodes=1:=fun c=>by rw[Tq.nodes_eq];simp[isN,Tq.args]
 rw[Tq.nodes_eq]
 show 1+([isN 97,isN 98].map Tq.nodes).sum≤_
 simp[h1]
theorem smO_small:SmallN smO∧∀ e∈smO.edges,StepEd e:=by
 refine⟨fun e he=>?_,fun e he=>?_⟩
 ·simp only[smO,List.mem_cons,List.not_mem_nil,or_false] at he
  rcases he with rfl | rfl | rfl<;>refine⟨fun g hg=>?_,fun b hb=>by cases hb⟩<;>simp at hg
  ·subst hg;rw[nodes_vN];simp
  ·rcases hg with rfl | rfl<;>(rw[nodes_vN];simp)
  ·subst hg;rw[nodes_vN];simp
 ·simp only[smO,List.mem_cons,List.not_mem_nil,or_false] at he
  rcases he with rfl | rfl | rfl<;>refine⟨fun g hg=>?_,fun b hb=>(by cases hb),by simp⟩<;>simp at hg
  ·subst hg;rw[nodes_vN];simp
  ·rcases hg with rfl | rfl<;>(rw[nodes_vN];simp)
  ·subst hg;rw[nodes_vN];simp
end Go.Proofs.YthojpomoflhbcaaGreatDoor
namespace Go.Proofs.YthojpomoflhbcaaGreatDoor
open Go.RowKit
attribute [local go_sem ↓] Go.wp_at_zero Go.wp_at_succ
theorem smS_in {W:World} {k:Nat} (h:W.heap[k]? = some (.cells #[.string ⟨#[97]⟩,.int .i64 1,.string ⟨#[98]⟩,.int .i64 1] 78 (0,0))):sgE.In W smE (some ⟨k,0,none⟩) 2:=by
 refine⟨by simp[smE],by simp[smE],Or.inr ⟨k,0,rfl,fun i hi=>?_⟩⟩
 have hi2:i < 2:=by simpa [smE] using hi
 match i,hi2 with
 | 0,_=>exact⟨_,rfl,sgE_at.2 ⟨by rw[cell_of_blkT h];rfl,by rw[cell_of_blkT h];rfl⟩⟩
 | 1,_=>exact⟨_,rfl,sgE_at.2 ⟨by rw[cell_of_blkT h];rfl,by rw[cell_of_blkT h];rfl⟩⟩
set_option maxHeartbeats 8000000 in
set_option maxRecDepth 100000 in
theorem awakeN_any (w:World) (hG:Glob w):Calls Tryz.prog 12 #[] w fun e w'=>e=.returned (.bool true)∧Below w.heap.size w w':=by
 have HG:=Lib.hid hG
 have HI7:Hid (∀ W,Calls Tryz.prog 41 #[.string ⟨#[97]⟩] W fun e w'=>e=.returned (tqVal (isN 97) none 0 none 0)∧Below W.heap.size W w'):=fun W=>is_any 97 W
 have HI8:Hid (∀ W,Calls Tryz.prog 41 #[.string ⟨#[98]⟩] W fun e w'=>e=.returned (tqVal (isN 98) none 0 none 0)∧Below W.heap.size W w'):=fun W=>is_any 98 W
 rw[tqVal_eqF] at HI7 HI8
 have HPo:Hid (∀ W,Below w.heap.size w W→(fun (e:Ending) (w':World)=>e=.returned (.bool true)∧Below w.heap.size w w') (.returned (.bool true)) W):=fun W hW=>⟨rfl,hW⟩
 generalize (fun (e:Ending) (w':World)=>e=.returned (.bool true)∧Below w.heap.size w w')=Po at HPo⊢
 clear hG
 go_enter Tryz.func12, Tryz.ntmps12
 go_wp2_with fail
 refine(HI7.out _).mono ?_
 rintro e w1 ⟨rfl,hb1⟩
 have HB1:=Lib.hid hb1
 clear hb1
 go_wp2_with fail
 refine(HI8.out _).mono ?_
 rintro e w2 ⟨rfl,hb2⟩
 have HB2:Hid (Below w.heap.size w w2):=HB1.out.trans (hb2.mono HB1.out.size)
 clear hb2 HB1
 go_wp2_with fail
 generalize hW3:World.alloc w2 _=W3
 have hB3:Below w2.heap.size w2 W3:=by rw[← hW3];exact(Below.refl _ _).alloc (Nat.le_refl _) _
 have hk3:W3.heap[w2.heap.size]? = some (.cells ((tqCells (isN 97) none 0 none 0)++(tqCells (isN 98) none 0 none 0)).toArray 27 (0,0)):=by rw[← hW3];exact hx_newT rfl
 have HB3:Hid (Below w.heap.size w W3):=HB2.out.trans (hB3.mono HB2.out.size)
 have HC:=Compile_any smN noneT none 0 (some ⟨w2.heap.size,0,none⟩) 2 W3 ((in_smN hk3).keep hide_noneT) (fun j hj=>by cases hj) nodes_smN smT_smN (HG.out.below HB3.out)
 rw[compS_smN] at HC
 have HC2:=Lib.hid HC
 clear hW3 hB3 hk3 HC
 refine HC2.out.mono ?_
 rintro e w4 ⟨⟨y,he,hy⟩,hb4⟩
 obtain rfl:e=.returned (.tuple #[.agg #[.int .i64 3,.slice y.ae 3 y.ce,.slice y.aa 1 y.ca],.int .i64 0]):=he
 have HB4:Hid (Below w.heap.size w w4):=HB3.out.trans (hb4.mono HB3.out.size)
 have HN4:Hid (NfaIn w4 smO y):=hy.keep hide_cell
 clear hb4 hy HC2 HB3 HB2 HI7 HI8
 obtain⟨xae,xce,xaa,xca⟩:=y
 go_upto_region 2 with fail
 generalize hW5:World.alloc w4 _=W5
 have hB5:Below w4.heap.size w4 W5:=by rw[← hW5];exact(Below.refl _ _).alloc (Nat.le_refl _) _
 have HX5:Hid (W5.heap[w4.heap.size]? = some (.cells #[.int .i64 3,.slice xae 3 xce,.slice xaa 1 xca] 33 (0,0))):=by show _=_;rw[← hW5];exact hx_newT rfl
 have HB5:Hid (Below w.heap.size w W5):=HB4.out.trans (hB5.mono HB4.out.size)
 have HN5:Hid (NfaIn W5 smO ⟨xae,xce,xaa,xca⟩):=HN4.out.keep (keeps_of_below hB5)
 clear hW5 hB5 HN4 HB4
 have HStt:Hid (∀ W,Below W5.heap.size W5 W→Calls Tryz.prog 22 #[.slice none 0 0] W fun e w'=>(∃ a c,e=.returned (.slice a 1 c)∧thE.In w' [⟨0,[]⟩] a c)∧Below W.heap.size W w'∧Below W5.heap.size W5 w'):=fun W hW=>(start_any noneT [] none 0 W (fun j hj=>by cases hj) (Enc.In.nil _) (by simp)).mono fun e w' ⟨⟨a,c,h1,h2⟩,h3⟩=>⟨⟨a,c,h1,h2.keep hide_cell⟩,h3,hW.trans (h3.mono hW.size)⟩
 have HSte:Hid (∀ W a c ae ce,Below W5.heap.size W5 W→thE.In W [⟨0,[]⟩] a c→sgE.In W smE ae ce→Calls Tryz.prog 19 #[.agg #[.int .i64 3,.slice xae 3 xce,.slice xaa 1 xca],.slice a 1 c,.slice ae 2 ce] W fun e w'=>(∃ a c,e=.returned (.tuple #[.slice a 2 c,.int .i64 0])∧thE.In w' [⟨1,[]⟩,⟨2,[]⟩] a c)∧Below W5.heap.size W5 w'):=fun W a c ae ce hW h1 h2=>(step_any noneT smO ⟨xae,xce,xaa,xca⟩ [⟨0,[]⟩] a c smE ae ce W (fun j hj=>by cases hj) (HG.out.below (HB5.out.trans (hW.mono HB5.out.size))) (HN5.out.keep (keeps_of_below hW)) smO_small.1 smO_small.2 h1 (by simp) (by simp) h2 (by simp[smE])).mono fun e w' h=>by
  rw[step_smO] at h
  obtain⟨⟨a,c,h3,h4⟩,h5⟩:=h
  exact⟨⟨a,c,h3,h4.keep hide_cell⟩,hW.trans (h5.mono hW.size)⟩
 have HAcc:Hid (∀ W a c,Below W5.heap.size W5 W→thE.In W [⟨1,[]⟩,⟨2,[]⟩] a c→Calls Tryz.prog 25 #[.agg #[.int .i64 3,.slice xae 3 xce,.slice xaa 1 xca],.slice a 2 c] W fun e w'=>(∃ a c,e=.returned (.slice a 1 c))∧Below W5.heap.size W5 w'):=fun W a c hW h1=>(accepting_any noneT smO ⟨xae,xce,xaa,xca⟩ [⟨1,[]⟩,⟨2,[]⟩] a c W (fun j hj=>by cases hj) (HN5.out.keep (keeps_of_below hW)) h1 (by simp) (by simp)).mono fun e w' h=>by
  rw[acc_smO] at h
  obtain⟨⟨a,c,h3,h4⟩,h5⟩:=h
  exact⟨⟨a,c,h3⟩,hW.trans (h5.mono hW.size)⟩
 have HZ:Hid (∀ W,Below W5.heap.size W5 W→W.cell? ⟨w4.heap.size,0,none⟩=some (.int .i64 3)∧W.cell? ⟨w4.heap.size,1,none⟩=some (.slice xae 3 xce)∧W.cell? ⟨w4.heap.size,2,none⟩=some (.slice xaa 1 xca)):=fun W hW=>by
  obtain⟨h0,h1,h2⟩:=cell3T ((hW.block _ (lt_of_block HX5.out)).trans HX5.out)
  exact⟨h0,h1,h2⟩
 obtain⟨z0,z1,z2⟩:=HZ.out W5 (Below.refl _ _)
 have Z0:∀ o,(W5.alloc o).cell? ⟨w4.heap.size,0,none⟩=some (.int .i64 3):=fun o=>Lib.cell?_alloc_some _ z0
 have Z1:∀ o,(W5.alloc o).cell? ⟨w4.heap.size,1,none⟩=some (.slice xae 3 xce):=fun o=>Lib.cell?_alloc_some _ z1
 have Z2:∀ o,(W5.alloc o).cell? ⟨w4.heap.size,2,none⟩=some (.slice xaa 1 xca):=fun o=>Lib.cell?_alloc_some _ z2
 go_cut [3,4] from 13 to 21 (fun s3 s4 wx=>∃ (a:Option Addr) (c:Nat),s3=.slice a 2 c∧s4=.int .i64 0∧Hid (thE.In wx [⟨1,[]⟩,⟨2,[]⟩] a c)∧Hid (Below W5.heap.size W5 wx))
 case first =>
  go_region_law (first
   | (go_simp;go_at_call 22;(with_reducible refine(HStt.out _ (by first | with_reducible assumption | exact belR)).mono ?_);rintro e v1 ⟨⟨a1,c1,rfl,hin1⟩,hb1,hB1⟩;have hs1:=hB1.size;have HT1:=Lib.hid hin1;obtain⟨j0,j1,j2⟩:=HZ.out _ hB1;have J0:=fun o=>Lib.cell?_alloc_some o j0;have J1:=fun o=>Lib.cell?_alloc_some o j1;have J2:=fun o=>Lib.cell?_alloc_some o j2;clear hin1)
   | (go_simp;go_at_call 19;(with_reducible refine(HSte.out _ _ _ _ _ ?hb ?ht ?hs).mono ?_);(case hb=>first | with_reducible assumption | exact belR);(case ht=>first | exact HT1.out | exact HT1.out.keep (keeps_of_below ((Below.refl _ _).alloc (Nat.le_refl _) _)) | exact HT1.out.keep (fun a v h=>Lib.cell?_alloc_some _ h));(case hs=>first | exact smS_in (hx_newT rfl) | exact smS_in (hbT hb1 (hx_newT rfl)) | exact smS_in (hbT hb1 (hx_drewT (hx_newT rfl))));rintro e v2 ⟨⟨a2,c2,rfl,hin2⟩,hB2⟩;have HT2:=Lib.hid hin2;have HB2v:=Lib.hid hB2;clear hin2 hB2))
  all_goals
   go_wp2_with fail
   go_meet
   case rel=>exact⟨a2,c2,rfl,rfl,HT2.out,HB2v.out⟩
 case rest =>
  obtain⟨a2,c2,e3,e4,HT2,HBx⟩:=hcut
  subst e3 e4
  obtain⟨k0,k1,k2⟩:=HZ.out _ HBx.out
  have HAc2:=Lib.hid (HAcc.out _ a2 c2 HBx.out HT2.out)
  clear z0 z1 z2 Z0 Z1 Z2 HStt HSte HAcc
  go_wp2_with (go_at_call 25;go_must (refine HAc2.out.mono ?_;rintro e w7 ⟨⟨a7,c7,rfl⟩,hb7⟩;have HB7:Hid (Below w.heap.size w w7):=HB5.out.trans (hb7.mono HB5.out.size);clear hb7))
  have HF:=Lib.hid (HPo.out _ HB7.out)
  first | exact HF.out | (go_ret2;exact HF.out)
end Go.Proofs.YthojpomoflhbcaaGreatDoor
namespace Go.Proofs.YthojpomoflhbcaaGreatDoor
open Go.RowKit
attribute [local go_sem ↓] Go.wp_at_zero Go.wp_at_succ
noncomputable def pB (P:Prop):Bool:=@decide P (Classical.propDecidable P)
theorem pB_true {P:Prop} (h:P):pB P=true:=by unfold pB;exact @decide_eq_true P (Classical.propDecidable P) h
theorem pB_false {P:Prop} (h:¬ P):pB P=false:=by unfold pB;exact @decide_eq_false P (Classical.propDecidable P) h
theorem exq_eq {op n:Int} {s:ByteArray} {args:List Ex} {op' n':Int} {s':ByteArray} {args':List Ex}:(Ex.mk op n s args=Ex.mk op' n' s' args')↔op=op'∧n=n'∧s=s'∧args=args':=by
 constructor
 ·intro h;injection h with h1 h2 h3 h4;exact⟨h1,h2,h3,h4⟩
 ·rintro ⟨rfl,rfl,rfl,rfl⟩;rfl
theorem tl_ne {s s':ByteArray} (h:¬ s=s'):(s.toList != s'.toList)=true:=by
 cases he:(s.toList == s'.toList)
 ·simp[bne,he]
 ·have h1:s.toList=s'.toList:=by simpa using he
  rw[ByteArray.toList_eq,ByteArray.toList_eq] at h1
  exact absurd (ByteArray.ext (Array.toList_inj.1 h1)) h
set_option maxRecDepth 100000 in
set_option maxHeartbeats 8000000 in
theorem same08_any (x:Ex):∀ (y:Ex) (ax:Option Addr) (cx:Nat) (ay:Option Addr) (cy:Nat) (w:World),ExIn w x ax cx→ExIn w y ay cy →
  Calls Tryz.prog 100 #[exVal x ax cx,exVal y ay cy] w fun e w'=>e=.returned (.bool (pB (x=y)))∧Below w.heap.size w w':=by
 induction x using Ex.ind with
 | h x ih =>
  intro y ax cx ay cy w hX hY
  obtain⟨op,n,s,args⟩:=x
  obtain⟨op',n',s',args'⟩:=y
  have HX:=Lib.hid hX.2
  have HY:=Lib.hid hY.2
  have HAX:=Lib.hid hX.2.addr
  have HAY:=Lib.hid hY.2.addr
  have hlx:=hX.2.2.1
  have hly:=hY.2.2.1
  simp only[Ex.args_mk] at HX HY HAX HAY hlx hly ih
  have HIH:=Lib.hid ih
  clear hX hY ih
  simp only[exVal,Ex.op_mk,Ex.n_mk,Ex.name_mk,Ex.args_mk]
  by_cases h1:op=op'∧n=n'∧s=s'∧args.length=args'.length
  ·obtain⟨rfl,rfl,rfl,hl⟩:=h1
   have Hl:=Lib.hid hl
   have hd1:(op != op)=false:=by simp
   have hd2:(n != n)=false:=by simp
   have hd3:(s.toList != s.toList)=false:=by simp
   have hd4:((args.length:Int) != (args'.length:Int))=false:=by simp;omega
   clear hl
   go_enter Tryz.func100, Tryz.ntmps100
   go_wp2_with fail
   generalize hW2:(w.alloc (.cells #[.int .i64 op,.int .i64 n,.string s,.slice ax args.length cx] 24)).alloc (.cells #[.int .i64 op,.int .i64 n,.string s,.slice ay args'.length cy] 24)=W2
   have hz2:W2.heap.size=w.heap.size+2:=by rw[← hW2];simp
   have HB2:Hid (Below w.heap.size w W2):=by show Below _ _ _;rw[← hW2];exact bel
   have HK1:Hid (W2.heap[w.heap.size]? = some (.cells #[.int .i64 op,.int .i64 n,.string s,.slice ax args.length cx] 24 (0,0))):=by
    show _=_;rw[← hW2]
    exact(Below.heap_alloc _ _ _ (by simp)).trans (heap_alloc_new' w _)
   have HK2:Hid (W2.heap[w.heap.size+1]? = some (.cells #[.int .i64 op,.int .i64 n,.string s,.slice ay args'.length cy] 24 (0,0))):=by
    show _=_;rw[← hW2]
    have h:=heap_alloc_new' (w.alloc (.cells #[.int .i64 op,.int .i64 n,.string s,.slice ax args.length cx] 24)) (.cells #[.int .i64 op,.int .i64 n,.string s,.slice ay args'.length cy] 24)
    simp only[World.size_alloc] at h
    exact h
   clear hW2
   go_loopw [5] (fun i wr=>∃ k:Nat,i=.int .i64 k∧k≤args.length∧Hid (∀ j (hj:j < args.length),j < k→args[j]'hj=args'[j]'(by have:=Hl.out;omega))∧Below (w.heap.size+2) W2 wr) (fun i _=>args.length - (intOf i).toNat)
   case atStart=>exact⟨0,rfl,Nat.zero_le _,fun _ _ h=>absurd h (by omega),Below.refl _ _⟩
   case round =>
    obtain⟨k,rfl,hk,HAl,hB⟩:=hrel
    have hzr:=hB.size
    have HBw:Hid (Below w.heap.size w wr):=HB2.out.trans (hB.mono (by omega))
    have hk1:=(hB.block w.heap.size (by omega)).trans HK1.out
    have hk2:=(hB.block (w.heap.size+1) (by omega)).trans HK2.out
    have x3:wr.cell? ⟨w.heap.size,3,none⟩=some (.slice ax args.length cx):=by simp[World.cell?,hk1]
    have y3:wr.cell? ⟨w.heap.size+1,3,none⟩=some (.slice ay args'.length cy):=by simp[World.cell?,hk2]
    have HB:=Lib.hid hB
    clear hk1 hk2 hB
    by_cases hlt:k < args.length
    ·have hltb:k < args'.length:=by have:=Hl.out;omega
     obtain⟨ba,oa,ha⟩:=HAX.out.resolve_left (by omega)
     obtain⟨bb,ob,hb⟩:=HAY.out.resolve_left (by omega)
     subst ha
     subst hb
     obtain⟨a1,k1,g0,g1,g2,g3,hP⟩:=HX.out.get rfl hlt
     obtain⟨a2,k2,q0,q1,q2,q3,hQ⟩:=HY.out.get rfl hltb
     have kk:=keeps_of_below HBw.out
     have c0:∀ g:Grow wr.heap.size wr,g.w'.cell? _=_:=Grow.old (kk _ _ g0) (Nat.le_refl _)
     have c1:∀ g:Grow wr.heap.size wr,g.w'.cell? _=_:=Grow.old (kk _ _ g1) (Nat.le_refl _)
     have c2:∀ g:Grow wr.heap.size wr,g.w'.cell? _=_:=Grow.old (kk _ _ g2) (Nat.le_refl _)
     have c3:∀ g:Grow wr.heap.size wr,g.w'.cell? _=_:=Grow.old (kk _ _ g3) (Nat.le_refl _)
     have d0:∀ g:Grow wr.heap.size wr,g.w'.cell? _=_:=Grow.old (kk _ _ q0) (Nat.le_refl _)
     have d1:∀ g:Grow wr.heap.size wr,g.w'.cell? _=_:=Grow.old (kk _ _ q1) (Nat.le_refl _)
     have d2:∀ g:Grow wr.heap.size wr,g.w'.cell? _=_:=Grow.old (kk _ _ q2) (Nat.le_refl _)
     have d3:∀ g:Grow wr.heap.size wr,g.w'.cell? _=_:=Grow.old (kk _ _ q3) (Nat.le_refl _)
     have X3:∀ g:Grow wr.heap.size wr,g.w'.cell? _=_:=Grow.old x3 (Nat.le_refl _)
     have Y3:∀ g:Grow wr.heap.size wr,g.w'.cell? _=_:=Grow.old y3 (Nat.le_refl _)
     have HC:=Lib.hid (fun W (hW:Below wr.heap.size wr W)=>(HIH.out _ (List.getElem_mem hlt) _ a1 k1 a2 k2 W ((hP.keep kk).keep (keeps_of_below hW)) ((hQ.keep kk).keep (keeps_of_below hW))).mono fun e w' h=>(⟨h.1,hW.trans (h.2.mono hW.size)⟩:_∧Below wr.heap.size wr w'))
     simp only[exVal] at HC
     have HNx:Hid (args[k]'hlt=args'[k]'hltb→∀ j (hj:j < args.length),j < k+1→args[j]'hj=args'[j]'(by have:=Hl.out;omega)):=fun he j hj hjk=>by
      by_cases e:j=k
      ·subst e;exact he
      ·exact HAl.out j hj (by omega)
     have HNo:Hid (¬ (args[k]'hlt=args'[k]'hltb)→pB (Ex.mk op n s args=Ex.mk op n s args')=false):=fun he=>pB_false (fun h=>he (by have h2:=(exq_eq.1 h).2.2.2;subst h2;rfl))
     generalize args[k]'hlt=u at c0 c1 c2 c3 HC HNx HNo
     generalize args'[k]'hltb=v at d0 d1 d2 d3 HC HNx HNo
     clear g0 g1 g2 g3 q0 q1 q2 q3 kk hP hQ
     by_cases he:u=v
     ·have HNx':=Lib.hid (HNx.out he)
      rw[pB_true he] at HC
      clear he HNx HNo
      go_wp2_with fail
      (refine wp_region_grow (B:=wr.heap.size) (w0:=wr) (by kernel_rfl) (by kernel_rfl) bel ?_;(repeat (go_big_quiet_step ((go_at_call 100;with_reducible exact grow_call (HC.out _ (Grow.h _))))));refine wpQuiet_nil ?_;intro wg hCg;have hbg:=grow_out hCg;clear hCg)
      go_wp2_with fail
      go_roundw
      case rel=>exact⟨k+1,by go_num,by omega,HNx'.out,HB.out.trans ((by assumption:Below wr.heap.size wr _).mono (by omega))⟩
      case measure=>simp[intOf];omega
     ·have HNo':=Lib.hid (HNo.out he)
      rw[pB_false he] at HC
      clear he HNx HNo
      go_wp2_with fail
      (refine wp_region_grow (B:=wr.heap.size) (w0:=wr) (by kernel_rfl) (by kernel_rfl) bel ?_;(repeat (go_big_quiet_step ((go_at_call 100;with_reducible exact grow_call (HC.out _ (Grow.h _))))));refine wpQuiet_nil ?_;intro wg hCg;have hbg:=grow_out hCg;clear hCg)
      go_wp2_with fail
      go_ret
      exact⟨by rw[HNo'.out];rfl,HBw.out.trans ((by assumption:Below wr.heap.size wr _).mono HBw.out.size)⟩
    ·obtain rfl:k=args.length:=by omega
     have HYes:Hid (pB (Ex.mk op n s args=Ex.mk op n s args')=true):=pB_true (exq_eq.2 ⟨rfl,rfl,rfl,List.ext_getElem Hl.out (fun j hj _=>HAl.out j hj hj)⟩)
     go_wp2_with fail
     go_ret
     exact⟨by rw[HYes.out];rfl,HBw.out⟩
  ·have HNo:Hid (pB (Ex.mk op n s args=Ex.mk op' n' s' args')=false):=pB_false (fun h=>h1 (by have h2:=exq_eq.1 h;exact⟨h2.1,h2.2.1,h2.2.2.1,by rw[h2.2.2.2]⟩))
   have hcase:(op != op')=true∨(op != op')=false∧((n != n')=true∨(n != n')=false∧((¬ s.toList=s'.toList)∨s=s'∧((args.length:Int) != (args'.length:Int))=true)):=by
    by_cases e1:op=op'
    ·by_cases e2:n=n'
     ·by_cases e3:s=s'
      ·refine Or.inr ⟨by simp[e1],Or.inr ⟨by simp[e2],Or.inr ⟨e3,?_⟩⟩⟩
       have:args.length≠args'.length:=fun e4=>h1 ⟨e1,e2,e3,e4⟩
       simp;omega
      ·refine Or.inr ⟨by simp[e1],Or.inr ⟨by simp[e2],Or.inl ?_⟩⟩
       exact fun h=>by have:=tl_ne e3;rw[h] at this;simp at this
     ·exact Or.inr ⟨by simp[e1],Or.inl (by simpa using e2)⟩
    ·exact Or.inl (by simpa using e1)
   clear h1
   rcases hcase with hd | ⟨hd,hd2 | ⟨hd2,hd3 | ⟨rfl,hd4⟩⟩⟩
   all_goals
    go_enter Tryz.func100, Tryz.ntmps100
    go_wp2_with fail
    go_ret
    exact⟨by rw[HNo.out];rfl,bel⟩
end Go.Proofs.YthojpomoflhbcaaGreatDoor
namespace Go.Proofs.YthojpomoflhbcaaGreatDoor
open Go.RowKit
attribute [local go_sem ↓] Go.wp_at_zero Go.wp_at_succ
theorem edq_eq {a b:EdgeD}:a=b↔a.fr=b.fr∧a.to=b.to∧a.guards=b.guards∧a.sets=b.sets:=by
 obtain⟨a1,a2,a3,a4⟩:=a
 obtain⟨b1,b2,b3,b4⟩:=b
 constructor
 ·intro h;injection h with h1 h2 h3 h4;exact⟨h1,h2,h3,h4⟩
 ·rintro ⟨h1,h2,h3,h4⟩
  simp only at h1 h2 h3 h4
  rw[h1,h2,h3,h4]
theorem bdq_eq {a b:BindD}:a=b↔a.name=b.name∧a.expr=b.expr:=by
 obtain⟨a1,a2⟩:=a
 obtain⟨b1,b2⟩:=b
 constructor
 ·intro h;injection h with h1 h2;exact⟨h1,h2⟩
 ·rintro ⟨h1,h2⟩
  simp only at h1 h2
  rw[h1,h2]
theorem list_nextN {α:Type} {l l2:List α} {k:Nat} (hk:k < l.length) (hk2:k < l2.length) (h:∀ j (hj:j < l.length) (hj2:j < l2.length),j < k→l[j]'hj=l2[j]'hj2) (he:l[k]'hk=l2[k]'hk2):∀ j (hj:j < l.length) (hj2:j < l2.length),j < k+1→l[j]'hj=l2[j]'hj2:=by
 intro j hj hj2 h1
 by_cases e:j=k
 ·subst e;exact he
 ·exact h j hj hj2 (by omega)
theorem list_neN {α:Type} {l l2:List α} {k:Nat} (hk:k < l.length) (hk2:k < l2.length) (h:¬ l[k]'hk=l2[k]'hk2):¬ l=l2:=by rintro rfl;exact h rfl
def BoolN (b:Bool) (w:World) (e:Ending) (w':World):Prop:=e=.returned (.bool b)∧Below w.heap.size w w'
set_option maxHeartbeats 16000000 in
set_option maxRecDepth 100000 in
theorem sameEdge_any (e f:EdgeD) (ag:Option Addr) (cg:Nat) (aS:Option Addr) (cs:Nat) (bg:Option Addr) (dg:Nat) (bS:Option Addr) (ds:Nat) (w:World) (h1:exE.In w e.guards ag cg) (h2:bdE.In w e.sets aS cs) (h3:exE.In w f.guards bg dg) (h4:bdE.In w f.sets bS ds) :
  Calls Tryz.prog 46 #[edVal e ag cg aS cs,edVal f bg dg bS ds] w (BoolN (pB (e=f)) w):=by
 have HYes:Hid (e.fr=f.fr→e.to=f.to→e.guards=f.guards→e.sets=f.sets→∀ W,Below w.heap.size w W→BoolN (pB (e=f)) w (.returned (.bool true)) W):=fun a1 a2 a3 a4 W hW=>⟨by rw[pB_true (edq_eq.2 ⟨a1,a2,a3,a4⟩)],hW⟩
 have HNo:Hid (¬ (e.fr=f.fr∧e.to=f.to∧e.guards=f.guards∧e.sets=f.sets)→∀ W,Below w.heap.size w W→BoolN (pB (e=f)) w (.returned (.bool false)) W):=fun h W hW=>⟨by rw[pB_false (fun q=>h (edq_eq.1 q))],hW⟩
 generalize BoolN (pB (e=f)) w=Po at HYes HNo⊢
 have H1:=Lib.hid h1
 have H2:=Lib.hid h2
 have H3:=Lib.hid h3
 have H4:=Lib.hid h4
 have H1a:Hid (e.guards.length=0∨∃ b off,ag=some ⟨b,off,none⟩):=h1.addr
 have H2a:Hid (e.sets.length=0∨∃ b off,aS=some ⟨b,off,none⟩):=h2.addr
 have H3a:Hid (f.guards.length=0∨∃ b off,bg=some ⟨b,off,none⟩):=h3.addr
 have H4a:Hid (f.sets.length=0∨∃ b off,bS=some ⟨b,off,none⟩):=h4.addr
 have l1:=h1.len
 have l2:=h2.len
 have l3:=h3.len
 have l4:=h4.len
 unfold edVal
 clear h1 h2 h3 h4
 obtain⟨ef,et,eg,es⟩:=e
 obtain⟨ff,ft,fg,fs⟩:=f
 simp only at HYes HNo H1 H2 H3 H4 H1a H2a H3a H4a l1 l2 l3 l4⊢
 by_cases q1:ef=ff
 ·by_cases q2:et=ft
  ·by_cases q3:eg.length=fg.length
   ·by_cases q4:es.length=fs.length
    ·subst q1 q2
     have d1:(ef != ef)=false:=by simp
     have d2:(et != et)=false:=by simp
     have d3:((eg.length:Int) != (fg.length:Int))=false:=by simp;omega
     have d4:((es.length:Int) != (fs.length:Int))=false:=by simp;omega
     have Q3:=Lib.hid q3
     have Q4:=Lib.hid q4
     clear q3 q4
     go_enter Tryz.func46, Tryz.ntmps46
     go_upto_region 3 with fail
     generalize hW2:World.alloc (World.alloc w _) _=W2
     have HB2:Hid (Below w.heap.size w W2):=by show Below _ _ _;rw[← hW2];exact((Below.refl _ _).alloc (Nat.le_refl _) _).alloc (by simp) _
     have HX2:Hid (W2.heap[w.heap.size]? = some (.cells #[.int .i64 ef,.int .i64 et,.slice ag eg.length cg,.slice aS es.length cs] 69 (0,0))):=by show _=_;rw[← hW2];exact hx_oldT (hx_newT rfl)
     have HY2:Hid (W2.heap[w.heap.size+1]? = some (.cells #[.int .i64 ef,.int .i64 et,.slice bg fg.length dg,.slice bS fs.length ds] 69 (0,0))):=by show _=_;rw[← hW2];exact hx_newT (by simp)
     have hz2:w.heap.size+2≤W2.heap.size:=by rw[← hW2];simp
     have HALL:Hid (∀ W,Below W2.heap.size W2 W→W.cell? ⟨w.heap.size,2,none⟩=some (.slice ag eg.length cg)∧W.cell? ⟨w.heap.size+1,2,none⟩=some (.slice bg fg.length dg)∧W.cell? ⟨w.heap.size,3,none⟩=some (.slice aS es.length cs)∧W.cell? ⟨w.heap.size+1,3,none⟩=some (.slice bS fs.length ds)):=fun W hW=>by
      obtain⟨-,-,a2,a3,-⟩:=cell4B ((hW.block _ (by omega)).trans HX2.out)
      obtain⟨-,-,c2,c3,-⟩:=cell4B ((hW.block _ (by omega)).trans HY2.out)
      exact⟨a2,c2,a3,c3⟩
     clear hW2 d1 d2 d3 d4
     go_wp2_with fail
     go_loopw [5] (fun i wr=>∃ k:Nat,i=.int .i64 k∧k≤eg.length∧Hid (∀ j (hj:j < eg.length) (hj2:j < fg.length),j < k→eg[j]'hj=fg[j]'hj2)∧Hid (Below W2.heap.size W2 wr)) (fun i _=>eg.length - (intOf i).toNat)
     case atStart=>exact⟨0,rfl,Nat.zero_le _,fun _ _ _ h=>absurd h (Nat.not_lt_zero _),Below.refl _ _⟩
     case round =>
      (try rename World=>wr)
      obtain⟨k,rfl,hk,HAl,HB⟩:=hrel
      have HBw:Hid (Below w.heap.size w wr):=HB2.out.trans (HB.out.mono HB2.out.size)
      have hzr:=HB.out.size
      obtain⟨x2,y2,x3,y3⟩:=HALL.out wr HB.out
      by_cases hlt:k < eg.length
      ·have hltb:k < fg.length:=by have:=Q3.out;omega
       have hltI:(k:Int) < (eg.length:Int):=by omega
       have hltJ:(k:Int) < (fg.length:Int):=by omega
       obtain⟨p1,o1,ha1⟩:=H1a.out.resolve_left (by omega)
       obtain⟨p2,o2,ha2⟩:=H3a.out.resolve_left (by omega)
       subst ha1 ha2
       obtain⟨ax,cx,g0,g1,g2,g3,hX⟩:=exE_get (H1.out.keep (keeps_of_below HBw.out)) rfl hlt
       obtain⟨ay,cy,m0,m1,m2,m3,hY⟩:=exE_get (H3.out.keep (keeps_of_below HBw.out)) rfl hltb
       have HNx:=Lib.hid (fun he=>list_nextN hlt hltb HAl.out he)
       have HNn:Hid (¬ (eg[k]'hlt=fg[k]'hltb)→∀ W,Below w.heap.size w W→Po (.returned (.bool false)) W):=fun h=>HNo.out fun q=>list_neN hlt hltb h q.2.2.1
       generalize (eg[k]'hlt)=u at HNx HNn g0 g1 g2 g3 hX
       generalize (fg[k]'hltb)=v at HNx HNn m0 m1 m2 m3 hY
       have HS:Hid (∀ W,Below wr.heap.size wr W→Calls Tryz.prog 100 #[.agg #[.int .i64 u.op,.int .i64 u.n,.string u.name,.slice ax u.args.length cx],.agg #[.int .i64 v.op,.int .i64 v.n,.string v.name,.slice ay v.args.length cy]] W fun e w'=>e=.returned (.bool (pB (u=v)))∧Below wr.heap.size wr w'):=fun W hW=>(same08_any u v ax cx ay cy W (hX.keep (keeps_of_below hW)) (hY.keep (keeps_of_below hW))).mono fun e w' h=>⟨h.1,hW.trans (h.2.mono hW.size)⟩
       have HC:Hid (∀ W,Below wr.heap.size wr W→(W.cell? ⟨w.heap.size,2,none⟩=some (.slice (some ⟨p1,o1,none⟩) eg.length cg)∧W.cell? ⟨w.heap.size+1,2,none⟩=some (.slice (some ⟨p2,o2,none⟩) fg.length dg))∧(W.cell? ⟨p1,o1+k * 4,none⟩=some (.int .i64 u.op)∧W.cell? ⟨p1,o1+k * 4+1,none⟩=some (.int .i64 u.n)∧W.cell? ⟨p1,o1+k * 4+2,none⟩=some (.string u.name)∧W.cell? ⟨p1,o1+k * 4+3,none⟩=some (.slice ax u.args.length cx))∧(W.cell? ⟨p2,o2+k * 4,none⟩=some (.int .i64 v.op)∧W.cell? ⟨p2,o2+k * 4+1,none⟩=some (.int .i64 v.n)∧W.cell? ⟨p2,o2+k * 4+2,none⟩=some (.string v.name)∧W.cell? ⟨p2,o2+k * 4+3,none⟩=some (.slice ay v.args.length cy))):=fun W hW=>⟨⟨keeps_of_below hW _ _ x2,keeps_of_below hW _ _ y2⟩,⟨keeps_of_below hW _ _ g0,keeps_of_below hW _ _ g1,keeps_of_below hW _ _ g2,keeps_of_below hW _ _ g3⟩,keeps_of_below hW _ _ m0,keeps_of_below hW _ _ m1,keeps_of_below hW _ _ m2,keeps_of_below hW _ _ m3⟩
       clear hX hY HAl
       by_cases huv:u=v
       ·have HE:=Lib.hid (HNx.out huv)
        rw[pB_true huv] at HS
        clear HNx HNn huv
        go_wp2_with fail
        go_region_held3 (fun W=>Below wr.heap.size wr W∧((W.cell? ⟨w.heap.size,2,none⟩=some (.slice (some ⟨p1,o1,none⟩) eg.length cg)∧W.cell? ⟨w.heap.size+1,2,none⟩=some (.slice (some ⟨p2,o2,none⟩) fg.length dg))∧(W.cell? ⟨p1,o1+k * 4,none⟩=some (.int .i64 u.op)∧W.cell? ⟨p1,o1+k * 4+1,none⟩=some (.int .i64 u.n)∧W.cell? ⟨p1,o1+k * 4+2,none⟩=some (.string u.name)∧W.cell? ⟨p1,o1+k * 4+3,none⟩=some (.slice ax u.args.length cx))∧(W.cell? ⟨p2,o2+k * 4,none⟩=some (.int .i64 v.op)∧W.cell? ⟨p2,o2+k * 4+1,none⟩=some (.int .i64 v.n)∧W.cell? ⟨p2,o2+k * 4+2,none⟩=some (.string v.name)∧W.cell? ⟨p2,o2+k * 4+3,none⟩=some (.slice ay v.args.length cy))))
         ((refine(fun h=>⟨h,HC.out _ h⟩) ?_;first | with_reducible assumption | exact belR))
         (first | (go_at_call 100;(with_reducible refine(HS.out _ (by first | with_reducible assumption | exact belR)).mono ?_);rintro e w5 ⟨rfl,hb5⟩))
        all_goals
         have HB9:Hid (Below W2.heap.size W2 w5):=HB.out.trans (Below.mono hb5 hzr)
         clear hb5
         go_wp2_with fail
         go_roundw
         case rel=>exact⟨k+1,by go_num,by omega,HE.out,HB9.out⟩
         case measure=>(simp[intOf];try omega)
       ·have HE:=Lib.hid (HNn.out huv)
        rw[pB_false huv] at HS
        clear HNx HNn huv
        go_wp2_with fail
        go_region_held3 (fun W=>Below wr.heap.size wr W∧((W.cell? ⟨w.heap.size,2,none⟩=some (.slice (some ⟨p1,o1,none⟩) eg.length cg)∧W.cell? ⟨w.heap.size+1,2,none⟩=some (.slice (some ⟨p2,o2,none⟩) fg.length dg))∧(W.cell? ⟨p1,o1+k * 4,none⟩=some (.int .i64 u.op)∧W.cell? ⟨p1,o1+k * 4+1,none⟩=some (.int .i64 u.n)∧W.cell? ⟨p1,o1+k * 4+2,none⟩=some (.string u.name)∧W.cell? ⟨p1,o1+k * 4+3,none⟩=some (.slice ax u.args.length cx))∧(W.cell? ⟨p2,o2+k * 4,none⟩=some (.int .i64 v.op)∧W.cell? ⟨p2,o2+k * 4+1,none⟩=some (.int .i64 v.n)∧W.cell? ⟨p2,o2+k * 4+2,none⟩=some (.string v.name)∧W.cell? ⟨p2,o2+k * 4+3,none⟩=some (.slice ay v.args.length cy))))
         ((refine(fun h=>⟨h,HC.out _ h⟩) ?_;first | with_reducible assumption | exact belR))
         (first | (go_at_call 100;(with_reducible refine(HS.out _ (by first | with_reducible assumption | exact belR)).mono ?_);rintro e w5 ⟨rfl,hb5⟩))
        all_goals
         have HE9:=Lib.hid (HE.out w5 (HBw.out.trans (Below.mono hb5 HBw.out.size)))
         clear hb5
         go_wp2_with fail
         first | exact HE9.out | (go_ret2;exact HE9.out)
      ·obtain rfl:k=eg.length:=by omega
       have HEg:Hid (eg=fg):=List.ext_getElem Q3.out fun j hj hj2=>HAl.out j hj hj2 hj
       go_wp2_with fail
       go_loopw [6] (fun i wv=>∃ k:Nat,i=.int .i64 k∧k≤es.length∧Hid (∀ j (hj:j < es.length) (hj2:j < fs.length),j < k→es[j]'hj=fs[j]'hj2)∧Hid (Below W2.heap.size W2 wv)) (fun i _=>es.length - (intOf i).toNat)
       case atStart=>exact⟨0,rfl,Nat.zero_le _,fun _ _ _ h=>absurd h (Nat.not_lt_zero _),HB.out⟩
       case round =>
        (try rename World=>wv)
        obtain⟨k,rfl,hk,HAs,HB⟩:=hrel
        have HBw:Hid (Below w.heap.size w wv):=HB2.out.trans (HB.out.mono HB2.out.size)
        have hzr:=HB.out.size
        obtain⟨x2,y2,x3,y3⟩:=HALL.out wv HB.out
        by_cases hlt:k < es.length
        ·have hltb:k < fs.length:=by have:=Q4.out;omega
         have hltI:(k:Int) < (es.length:Int):=by omega
         have hltJ:(k:Int) < (fs.length:Int):=by omega
         obtain⟨p1,o1,ha1⟩:=H2a.out.resolve_left (by omega)
         obtain⟨p2,o2,ha2⟩:=H4a.out.resolve_left (by omega)
         subst ha1 ha2
         obtain⟨ax,cx,g0,g1,g2,g3,g4,-,hX⟩:=bdE_get (H2.out.keep (keeps_of_below HBw.out)) rfl hlt
         obtain⟨ay,cy,m0,m1,m2,m3,m4,-,hY⟩:=bdE_get (H4.out.keep (keeps_of_below HBw.out)) rfl hltb
         have HNx:=Lib.hid (fun he=>list_nextN hlt hltb HAs.out he)
         have HNn:Hid (¬ (es[k]'hlt=fs[k]'hltb)→∀ W,Below w.heap.size w W→Po (.returned (.bool false)) W):=fun h=>HNo.out fun q=>list_neN hlt hltb h q.2.2.2
         generalize (es[k]'hlt)=u at HNx HNn g0 g1 g2 g3 g4 hX
         generalize (fs[k]'hltb)=v at HNx HNn m0 m1 m2 m3 m4 hY
         obtain⟨un,u⟩:=u
         obtain⟨vn,v⟩:=v
         simp only at g0 g1 g2 g3 g4 hX m0 m1 m2 m3 m4 hY
         have HS:Hid (∀ W,Below wv.heap.size wv W→Calls Tryz.prog 100 #[.agg #[.int .i64 u.op,.int .i64 u.n,.string u.name,.slice ax u.args.length cx],.agg #[.int .i64 v.op,.int .i64 v.n,.string v.name,.slice ay v.args.length cy]] W fun e w'=>e=.returned (.bool (pB (u=v)))∧Below wv.heap.size wv w'):=fun W hW=>(same08_any u v ax cx ay cy W (hX.keep (keeps_of_below hW)) (hY.keep (keeps_of_below hW))).mono fun e w' h=>⟨h.1,hW.trans (h.2.mono hW.size)⟩
         have HC:Hid (∀ W,Below wv.heap.size wv W→(W.cell? ⟨w.heap.size,3,none⟩=some (.slice (some ⟨p1,o1,none⟩) es.length cs)∧W.cell? ⟨w.heap.size+1,3,none⟩=some (.slice (some ⟨p2,o2,none⟩) fs.length ds))∧(W.cell? ⟨p1,o1+k * 5,none⟩=some (.string un)∧W.cell? ⟨p1,o1+k * 5+1,none⟩=some (.int .i64 u.op)∧W.cell? ⟨p1,o1+k * 5+2,none⟩=some (.int .i64 u.n)∧W.cell? ⟨p1,o1+k * 5+3,none⟩=some (.string u.name)∧W.cell? ⟨p1,o1+k * 5+4,none⟩=some (.slice ax u.args.length cx))∧(W.cell? ⟨p2,o2+k * 5,none⟩=some (.string vn)∧W.cell? ⟨p2,o2+k * 5+1,none⟩=some (.int .i64 v.op)∧W.cell? ⟨p2,o2+k * 5+2,none⟩=some (.int .i64 v.n)∧W.cell? ⟨p2,o2+k * 5+3,none⟩=some (.string v.name)∧W.cell? ⟨p2,o2+k * 5+4,none⟩=some (.slice ay v.args.length cy))):=fun W hW=>⟨⟨keeps_of_below hW _ _ x3,keeps_of_below hW _ _ y3⟩,⟨keeps_of_below hW _ _ g0,keeps_of_below hW _ _ g1,keeps_of_below hW _ _ g2,keeps_of_below hW _ _ g3,keeps_of_below hW _ _ g4⟩,keeps_of_below hW _ _ m0,keeps_of_below hW _ _ m1,keeps_of_below hW _ _ m2,keeps_of_below hW _ _ m3,keeps_of_below hW _ _ m4⟩
         clear hX hY HAs
         by_cases hnn:un=vn
         ·by_cases huv:u=v
          ·have HE:=Lib.hid (HNx.out (bdq_eq.2 ⟨hnn,huv⟩))
           rw[pB_true huv] at HS
           subst hnn
           have qs:(un.toList != un.toList)=false:=by simp
           have qt:(un.toList == un.toList)=true:=by simp
           clear HNx HNn huv
           go_wp2_with fail
           go_region_held3 (fun W=>Below wv.heap.size wv W∧((W.cell? ⟨w.heap.size,3,none⟩=some (.slice (some ⟨p1,o1,none⟩) es.length cs)∧W.cell? ⟨w.heap.size+1,3,none⟩=some (.slice (some ⟨p2,o2,none⟩) fs.length ds))∧(W.cell? ⟨p1,o1+k * 5,none⟩=some (.string un)∧W.cell? ⟨p1,o1+k * 5+1,none⟩=some (.int .i64 u.op)∧W.cell? ⟨p1,o1+k * 5+2,none⟩=some (.int .i64 u.n)∧W.cell? ⟨p1,o1+k * 5+3,none⟩=some (.string u.name)∧W.cell? ⟨p1,o1+k * 5+4,none⟩=some (.slice ax u.args.length cx))∧(W.cell? ⟨p2,o2+k * 5,none⟩=some (.string un)∧W.cell? ⟨p2,o2+k * 5+1,none⟩=some (.int .i64 v.op)∧W.cell? ⟨p2,o2+k * 5+2,none⟩=some (.int .i64 v.n)∧W.cell? ⟨p2,o2+k * 5+3,none⟩=some (.string v.name)∧W.cell? ⟨p2,o2+k * 5+4,none⟩=some (.slice ay v.args.length cy))))
            ((refine(fun h=>⟨h,HC.out _ h⟩) ?_;first | with_reducible assumption | exact belR))
            (first | (go_at_call 100;(with_reducible refine(HS.out _ (by first | with_reducible assumption | exact belR)).mono ?_);rintro e w5 ⟨rfl,hb5⟩))
           all_goals
            have HB9:Hid (Below W2.heap.size W2 w5):=HB.out.trans (Below.mono hb5 hzr)
            clear hb5
            go_wp2_with fail
            go_roundw
            case rel=>exact⟨k+1,by go_num,by omega,HE.out,HB9.out⟩
            case measure=>(simp[intOf];try omega)
          ·have HE:=Lib.hid (HNn.out (fun q=>huv (bdq_eq.1 q).2))
           rw[pB_false huv] at HS
           subst hnn
           have qs:(un.toList != un.toList)=false:=by simp
           have qt:(un.toList == un.toList)=true:=by simp
           clear HNx HNn huv
           go_wp2_with fail
           go_region_held3 (fun W=>Below wv.heap.size wv W∧((W.cell? ⟨w.heap.size,3,none⟩=some (.slice (some ⟨p1,o1,none⟩) es.length cs)∧W.cell? ⟨w.heap.size+1,3,none⟩=some (.slice (some ⟨p2,o2,none⟩) fs.length ds))∧(W.cell? ⟨p1,o1+k * 5,none⟩=some (.string un)∧W.cell? ⟨p1,o1+k * 5+1,none⟩=some (.int .i64 u.op)∧W.cell? ⟨p1,o1+k * 5+2,none⟩=some (.int .i64 u.n)∧W.cell? ⟨p1,o1+k * 5+3,none⟩=some (.string u.name)∧W.cell? ⟨p1,o1+k * 5+4,none⟩=some (.slice ax u.args.length cx))∧(W.cell? ⟨p2,o2+k * 5,none⟩=some (.string un)∧W.cell? ⟨p2,o2+k * 5+1,none⟩=some (.int .i64 v.op)∧W.cell? ⟨p2,o2+k * 5+2,none⟩=some (.int .i64 v.n)∧W.cell? ⟨p2,o2+k * 5+3,none⟩=some (.string v.name)∧W.cell? ⟨p2,o2+k * 5+4,none⟩=some (.slice ay v.args.length cy))))
            ((refine(fun h=>⟨h,HC.out _ h⟩) ?_;first | with_reducible assumption | exact belR))
            (first | (go_at_call 100;(with_reducible refine(HS.out _ (by first | with_reducible assumption | exact belR)).mono ?_);rintro e w5 ⟨rfl,hb5⟩))
           all_goals
            have HE9:=Lib.hid (HE.out w5 (HBw.out.trans (Below.mono hb5 HBw.out.size)))
            clear hb5
            go_wp2_with fail
            first | exact HE9.out | (go_ret2;exact HE9.out)
         ·have HE:=Lib.hid (HNn.out (fun q=>hnn (bdq_eq.1 q).1))
          have qs:(un.toList != vn.toList)=true:=tl_ne hnn
          have qt:(un.toList == vn.toList)=false:=by simpa [bne] using qs
          clear HNx HNn hnn
          go_wp2_with fail
          go_quiet (fail)
          go_wp2_with fail
          first | exact HE.out _ (below_drewN HBw.out _) | (go_ret2;exact HE.out _ (below_drewN HBw.out _))
        ·obtain rfl:k=es.length:=by omega
         have HEs:es=fs:=List.ext_getElem Q4.out fun j hj hj2=>HAs.out j hj hj2 hj
         have HE:=Lib.hid (HYes.out (by first | rfl | trivial) (by first | rfl | trivial) HEg.out HEs wv HBw.out)
         clear HEs
         go_wp2_with fail
         first | exact HE.out | (go_ret2;exact HE.out)
    ·have d1:(ef != ff)=false:=by simp[q1]
     have d2:(et != ft)=false:=by simp[q2]
     have d3:((eg.length:Int) != (fg.length:Int))=false:=by simp;omega
     have d4:((es.length:Int) != (fs.length:Int))=true:=by simp;omega
     have HE1:Hid (∀ W,Below w.heap.size w W→Po (.returned (.bool false)) W):=HNo.out (by rintro ⟨-,-,-,h⟩;exact q4 (by rw[h]))
     clear HYes HNo
     go_enter Tryz.func46, Tryz.ntmps46
     go_wp2_with fail
     first | exact HE1.out _ (((Below.refl _ w).alloc (Nat.le_refl _) _).alloc (by simp) _) | (go_ret2;exact HE1.out _ (((Below.refl _ w).alloc (Nat.le_refl _) _).alloc (by simp) _))
   ·have d1:(ef != ff)=false:=by simp[q1]
    have d2:(et != ft)=false:=by simp[q2]
    have d3:((eg.length:Int) != (fg.length:Int))=true:=by simp;omega
    have HE1:Hid (∀ W,Below w.heap.size w W→Po (.returned (.bool false)) W):=HNo.out (by rintro ⟨-,-,h,-⟩;exact q3 (by rw[h]))
    clear HYes HNo
    go_enter Tryz.func46, Tryz.ntmps46
    go_wp2_with fail
    first | exact HE1.out _ (((Below.refl _ w).alloc (Nat.le_refl _) _).alloc (by simp) _) | (go_ret2;exact HE1.out _ (((Below.refl _ w).alloc (Nat.le_refl _) _).alloc (by simp) _))
  ·have d1:(ef != ff)=false:=by simp[q1]
   have d2:(et != ft)=true:=by simp[q2]
   have HE1:Hid (∀ W,Below w.heap.size w W→Po (.returned (.bool false)) W):=HNo.out (by rintro ⟨-,h,-,-⟩;exact q2 h)
   clear HYes HNo
   go_enter Tryz.func46, Tryz.ntmps46
   go_wp2_with fail
   first | exact HE1.out _ (((Below.refl _ w).alloc (Nat.le_refl _) _).alloc (by simp) _) | (go_ret2;exact HE1.out _ (((Below.refl _ w).alloc (Nat.le_refl _) _).alloc (by simp) _))
 ·have d1:(ef != ff)=true:=by simp[q1]
  have HE1:Hid (∀ W,Below w.heap.size w W→Po (.returned (.bool false)) W):=HNo.out (by rintro ⟨h,-,-,-⟩;exact q1 h)
  clear HYes HNo
  go_enter Tryz.func46, Tryz.ntmps46
  go_wp2_with fail
  first | exact HE1.out _ (((Below.refl _ w).alloc (Nat.le_refl _) _).alloc (by simp) _) | (go_ret2;exact HE1.out _ (((Below.refl _ w).alloc (Nat.le_refl _) _).alloc (by simp) _))
end Go.Proofs.YthojpomoflhbcaaGreatDoor
