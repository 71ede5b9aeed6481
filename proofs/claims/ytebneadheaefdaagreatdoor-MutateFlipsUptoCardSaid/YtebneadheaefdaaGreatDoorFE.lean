/- mutate.changed: a node with its change. -/
import Derived.Test.YtebneadheaefdaaGreatDoorFD
import Derived.Test.YtebneadheaefdaaGreatDoorFC
set_option linter.unusedSimpArgs false
set_option linter.unusedVariables false
set_option linter.unnecessarySimpa false
namespace Go.Proofs.YtebneadheaefdaaGreatDoor
open Go.RowKit
attribute [local go_sem ↓] Go.wp_at_zero Go.wp_at_succ
theorem exs_cells {w:World} {l:List Ex} {a:Option Addr} {cap:Nat} (h:ExsIn w l a cap):CellsAt w 4 l.length a:=cells_row h (by decide) fun i b o hi ⟨e,he,hx⟩ j hj=>by
 obtain⟨ae,ce,h0,h1,h2,h3,_⟩:=(ExAt_iff _ _ _ _).1 hx
 rcases j with _ | _ | _ | _ | j
 ·exact⟨_,h0,by simp[Value.oneCell']⟩
 ·exact⟨_,h1,by simp[Value.oneCell']⟩
 ·exact⟨_,h2,by simp[Value.oneCell']⟩
 ·exact⟨_,h3,by simp[Value.oneCell']⟩
 ·omega
def ChgPost (p:Nat→Bool) (w:World) (e:Ex) (r:Ending) (w':World):Prop:=(∃ a c,r=.returned (.tuple #[exVal (chgS e) a c,.string (kindS e.op)])∧ExIn (World.hide w' p) (chgS e) a c)∧Below w.heap.size w w'
theorem chg_res (W:World) (tm:Array Value) (b:Nat) (m0 m1 m2 m3 e:Value) (hW:W.heap[b]? = some (.cells #[m0,m1,m2,m3] 72 (0,0))) (h0:tm.getD 2 undef=.pointer (some ⟨b,0,none⟩)) (h1:tm.getD 3 undef=e) :
  (results Tryz.f215 tm).run Tryz.prog W=.ok (.tuple #[.agg #[m0,m1,m2,m3],e]) W:=by
 have hr : Tryz.f215.results=#[.cell 2 72,.tmp 3]:=rfl
 have c0:=cell_of_blk hW 0
 have c1:=cell_of_blk hW 1
 have c2:=cell_of_blk hW 2
 have c3:=cell_of_blk hW 3
 simp at c0 c1 c2 c3
 rw[results_cell_tmp hr,h0,h1]
 simp[asAddr]
 go_simp
theorem chg_same {p:Nat→Bool} {op n:Int} {s:ByteArray} {args:List Ex} {ea:Option Addr} {ec:Nat} {w:World} (hX:ExIn (World.hide w p) (.mk op n s args) ea ec) (op' n':Int) (k:ByteArray) (he:chgS (.mk op n s args)=.mk op' n' s args) (hk:kindS op=k) :
  Hid (∀ W,Below w.heap.size w W→ChgPost p w (.mk op n s args) (.returned (.tuple #[.agg #[.int .i64 op',.int .i64 n',.string s,.slice ea args.length ec],.string k])) W):=fun W hW=>⟨⟨ea,ec,by rw[he,Ex.op_mk,hk];rfl,by
 have h:=hX.keep (hk_below hW fun _ _ h=>h).cell
 rw[he]
 exact h⟩,hW⟩
theorem hx_set {X:World} {k o b:Nat} {u:Value} {ob:Obj} (h:X.heap[b]? = some ob) (hne:b≠k):(X.setCell ⟨k,o,none⟩ u).heap[b]? = some ob:=(Below.heap_setCell _ _ _ _ hne).trans h
theorem cell4 {W:World} {b:Nat} {m0 m1 m2 m3:Value} {t:TypeId} (h:W.heap[b]? = some (.cells #[m0,m1,m2,m3] t (0,0))):W.cell? ⟨b,0,none⟩=some m0∧W.cell? ⟨b,1,none⟩=some m1∧W.cell? ⟨b,2,none⟩=some m2∧W.cell? ⟨b,3,none⟩=some m3∧∀ o,W.frozen? ⟨b,o,none⟩=false :=
 ⟨cell_of_blk h 0,cell_of_blk h 1,cell_of_blk h 2,cell_of_blk h 3,fun o=>by simp[World.frozen?,h]⟩
set_option maxHeartbeats 4000000 in
set_option maxRecDepth 100000 in
theorem changed_one (p:Nat→Bool) (n:Int) (s:ByteArray) (args:List Ex) (ea:Option Addr) (ec:Nat) (w:World) (hX:ExIn (World.hide w p) (.mk 1 n s args) ea ec) (h0:0≤n) (h1:n≤65535) :
  Calls Tryz.prog 215 #[.agg #[.int .i64 1,.int .i64 n,.string s,.slice ea args.length ec]] w (ChgPost p w (.mk 1 n s args)):=by
 have HP:=chg_same hX 1 ((n+1) % 65536) kConst rfl rfl
 unfold kConst at HP
 generalize ChgPost p w (.mk 1 n s args)=Po at HP⊢
 clear hX
 go_enter Tryz.func215, Tryz.ntmps215
 go_wp2_with fail
 exact bodyPost_ret (v:=.tuple #[.agg #[.int .i64 1,.int .i64 ((n+1) % 65536),.string s,.slice ea args.length ec],.string ⟨#[99,111,110,115,116,97,110,116]⟩]) (chg_res _ _ (w.heap.size+1) _ _ _ _ _ (hx_new (by simp)) rfl rfl) rfl (HP.out _ belr)
theorem row_below {W W':World} {q:Nat→Bool} {b n cap:Nat} {l:List Ex} (hb:Below W.heap.size W W') (h:RowOf W b 72 4 n cap (exP W q l)):RowOf W' b 72 4 n cap (exP W' q l) :=
 (h.keep (hk_plain hb) (by decide)).mono fun i f _ ⟨v,ae,ce,g0,g1,g2,g3,g4,g5⟩=>⟨v,ae,ce,g0,g1,g2,g3,g4,g5.keep (hk_below hb fun _ _ h=>h).cell⟩
set_option maxHeartbeats 4000000 in
set_option maxRecDepth 100000 in
theorem changed_if (p:Nat→Bool) (n:Int) (s:ByteArray) (x y z:Ex) (ea:Option Addr) (ec:Nat) (w:World) (hp:∀ k,p k=true→k < w.heap.size) (hX:ExIn (World.hide w p) (.mk 22 n s [x,y,z]) ea ec):Calls Tryz.prog 215 #[.agg #[.int .i64 22,.int .i64 n,.string s,.slice ea 3 ec]] w (ChgPost p w (.mk 22 n s [x,y,z])):=by
 have hE:=hX.2
 have hsz:=hX.1
 simp only[Ex.args_mk] at hE
 have HE:=Lib.hid hE
 clear hX hE
 have HP:Hid (∀ a c W,ExsIn (World.hide W p) [notE x,y,z] a c→Below w.heap.size w W→ChgPost p w (.mk 22 n s [x,y,z]) (.returned (.tuple #[.agg #[.int .i64 22,.int .i64 n,.string s,.slice a 3 c],.string ⟨#[99,111,110,100,105,116,105,111,110]⟩])) W):=fun a c W h1 h2=>⟨⟨a,c,rfl,hsz,h1⟩,h2⟩
 generalize ChgPost p w (.mk 22 n s [x,y,z])=Po at HP⊢
 clear hsz
 go_enter Tryz.func215, Tryz.ntmps215
 go_wp2_with fail
 generalize hW2:(w.alloc (.cells #[.int .i64 22,.int .i64 n,.string s,.slice ea 3 ec] 72)).alloc (.cells #[.int .i64 0,.int .i64 0,.string ⟨#[]⟩,.slice none 0 0] 72)=W2
 have hz2:w.heap.size+2≤W2.heap.size:=by rw[← hW2];simp
 have hz2b:W2.heap.size≤w.heap.size+2:=by rw[← hW2];simp
 have HB2:Hid (Below w.heap.size w W2):=by show Below _ _ _;rw[← hW2];exact belr
 have HX2:Hid (W2.heap[w.heap.size]? = some (.cells #[.int .i64 22,.int .i64 n,.string s,.slice ea 3 ec] 72 (0,0))):=by
  show _=_;rw[← hW2]
  exact hx_old (hx_new rfl)
 have HR2:Hid (W2.heap[w.heap.size+1]? = some (.cells #[.int .i64 0,.int .i64 0,.string ⟨#[]⟩,.slice none 0 0] 72 (0,0))):=by
  show _=_;rw[← hW2]
  exact hx_new (by simp)
 clear hW2
 have HC:=Lib.hid (cloneE_any 3 ea ec W2 (by omega) (exs_cells ((HE.out.keep (hk_unhide _ _).cell).keep (keeps_of_below HB2.out))))
 refine HC.out.mono ?_
 rintro r w3 ⟨⟨a',c',rfl,hcl⟩,hb3⟩
 have hz3:=hb3.size
 have HX3:Hid (w3.heap[w.heap.size]? = some (.cells #[.int .i64 22,.int .i64 n,.string s,.slice ea 3 ec] 72 (0,0))):=(hb3.block _ (by omega)).trans HX2.out
 have HR3:Hid (w3.heap[w.heap.size+1]? = some (.cells #[.int .i64 0,.int .i64 0,.string ⟨#[]⟩,.slice none 0 0] 72 (0,0))):=(hb3.block _ (by omega)).trans HR2.out
 obtain⟨hc3,hm3,hr3⟩:=hcl
 obtain⟨b,off,b',rfl,rfl,hbb,hrow⟩:=hr3.resolve_left (by omega)
 have hlt:=hrow.lt
 have HBw:Hid (Below w.heap.size w w3):=HB2.out.trans (hb3.mono (by omega))
 have HQ:Hid (∀ k,w.heap.size≤k→k < w3.heap.size→(fun k=>p k || (decide (w.heap.size≤k) && decide (k < w3.heap.size))) k=true):=fun k h1 h2=>by simp[h1,h2]
 have HQp:Hid (∀ k,k < w.heap.size→(fun k=>p k || (decide (w.heap.size≤k) && decide (k < w3.heap.size))) k=true→p k=true):=fun k h1 h2=>by
  simp only[Bool.or_eq_true,Bool.and_eq_true,decide_eq_true_eq] at h2
  rcases h2 with h2 | h2
  ·exact h2
  ·omega
 have HQs:Hid (∀ k,p k=true→(fun k=>p k || (decide (w.heap.size≤k) && decide (k < w3.heap.size))) k=true):=fun k h=>by simp[h]
 have HQn:Hid (∀ k,w3.heap.size≤k→(fun k=>p k || (decide (w.heap.size≤k) && decide (k < w3.heap.size))) k=true→p k=true):=fun k h1 h2=>by
  simp only[Bool.or_eq_true,Bool.and_eq_true,decide_eq_true_eq] at h2
  rcases h2 with h2 | h2
  ·exact h2
  ·omega
 generalize (fun k=>p k || (decide (w.heap.size≤k) && decide (k < w3.heap.size)))=q at HQ HQp HQs HQn
 have HRow:Hid (RowOf w3 b' 72 4 [x,y,z].length c' (exP w3 q [x,y,z])):=by
  refine exs_same (w0:=World.hide w p) HE.out rfl (hk_below HBw.out fun k hk h=>HQp.out k hk h).cell (hrow.mono fun i f hi hf j u hj hu=>(hf j hj).trans (keeps_of_below HB2.out _ _ (hide_cell _ _ hu)))
 obtain⟨a0,a1,a2,a3,af⟩:=cell4 HX3.out
 go_wp2_with fail
 clear a0 a1 a2 a3 af
 generalize hW4:w3.setCell ⟨w.heap.size,3,none⟩ (.slice (some ⟨b',0,none⟩) 3 c')=W4
 have hz4:W4.heap.size=w3.heap.size:=by rw[← hW4];simp
 have HB4:Hid (Below w.heap.size w W4):=by show Below _ _ _;rw[← hW4];exact HBw.out.setCell (Nat.le_refl _) _
 have HX4:Hid (W4.heap[w.heap.size]? = some (.cells #[.int .i64 22,.int .i64 n,.string s,.slice (some ⟨b',0,none⟩) 3 c'] 72 (0,0))):=by
  show _=_;rw[← hW4,heap_setCell_same _ _ _ _ _ _ HX3.out];rfl
 have HR4:Hid (W4.heap[w.heap.size+1]? = some (.cells #[.int .i64 0,.int .i64 0,.string ⟨#[]⟩,.slice none 0 0] 72 (0,0))):=by
  show _=_;rw[← hW4];exact hx_set HR3.out (by omega)
 have HK4:Hid (HK (World.hide w3 q) (World.hide W4 q)):=by show HK _ _;rw[← hW4];exact hk_store (HQ.out _ (Nat.le_refl _) (by omega))
 have HRow4:Hid (RowOf W4 b' 72 4 [x,y,z].length c' (exP W4 q [x,y,z])):=by
  have:RowOf W4 b' 72 4 [x,y,z].length c' (exP w3 q [x,y,z]):=by
   obtain⟨h1,h2,arr,h3,h4,h5⟩:=HRow.out
   exact⟨h1,h2,arr,by rw[← hW4];exact hx_set h3 (by omega),h4,h5⟩
  exact this.mono fun i f _ ⟨v,ae,ce,g0,g1,g2,g3,g4,g5⟩=>⟨v,ae,ce,g0,g1,g2,g3,g4,g5.keep HK4.out.cell⟩
 obtain⟨f0,⟨v0,xa,xc,g0,g1,g2,g3,g4,hx0⟩,hf0⟩:=HRow4.out.get (i:=0) (by show 0 < 3;omega)
 obtain rfl:x=v0:=by simpa using g0
 have q0:=hf0 0 _ g1
 have q1:=hf0 1 _ g2
 have q2:=hf0 2 _ g3
 have q3:=hf0 3 _ g4
 simp only[Nat.zero_mul,Nat.zero_add] at q0 q1 q2 q3
 have HX0:=Lib.hid hx0
 have qf:=fun o=>HRow4.out.unfrozen o
 obtain⟨b0,b1,b2,b3,bf⟩:=cell4 HX4.out
 have hz4a:w.heap.size+2≤W4.heap.size:=by omega
 have Hz4:=Lib.hid hz4
 have hc3i:(3:Int)≤(c':Int):=by omega
 have hw4:b' < W4.heap.size:=by omega
 clear hb3 HC hrow hr3 g0 g1 g2 g3 g4 hf0 hx0 hm3 hz4
 clear hW4
 have B3:=fun o=>keeps_of_below ((Below.refl W4.heap.size W4).alloc (Nat.le_refl _) o) _ _ b3
 go_region
 have HA:Hid (((((W4.setCell ⟨b',0,none⟩ (.int .i64 4)).setCell ⟨b',1,none⟩ (.int .i64 0)).setCell ⟨b',2,none⟩ (.string ⟨#[]⟩)).setCell ⟨b',3,none⟩ (.slice (some ⟨W4.heap.size,0,none⟩) 1 1)).alloc (.cells #[.int .i64 x.op,.int .i64 x.n,.string x.name,.slice xa x.args.length xc] 72)=((((W4.alloc (.cells #[.int .i64 x.op,.int .i64 x.n,.string x.name,.slice xa x.args.length xc] 72)).setCell ⟨b',0,none⟩ (.int .i64 4)).setCell ⟨b',1,none⟩ (.int .i64 0)).setCell ⟨b',2,none⟩ (.string ⟨#[]⟩)).setCell ⟨b',3,none⟩ (.slice (some ⟨W4.heap.size,0,none⟩) 1 1)):=by
  show _=_
  rw[World.setCell_alloc_past _ _ _ _ hw4,World.setCell_alloc_past _ _ _ _ (by simpa using hw4),World.setCell_alloc_past _ _ _ _ (by simpa using hw4),World.setCell_alloc_past _ _ _ _ (by simpa using hw4)]
 have HN:Hid (ExIn (World.hide (W4.alloc (.cells #[.int .i64 x.op,.int .i64 x.n,.string x.name,.slice xa x.args.length xc] 72)) q) (notE x) (some ⟨W4.heap.size,0,none⟩) 1):=by
  refine⟨by show (0:Nat)≤_;omega,by show 1≤1;omega,by show 1≤_;omega,Or.inr ⟨W4.heap.size,0,rfl,fun i hi=>?_⟩⟩
  obtain rfl:i=0:=by have:i < 1:=hi;omega
  have hb:=heap_alloc_new' W4 (.cells #[.int .i64 x.op,.int .i64 x.n,.string x.name,.slice xa x.args.length xc] 72)
  obtain⟨e0,e1,e2,e3,_⟩:=cell4 hb
  have hqf:q W4.heap.size=false:=by
   cases hq:q W4.heap.size with
   | false=>rfl
   | true=>have:=hp _ (HQn.out _ (by rw[Hz4.out];exact Nat.le_refl _) hq);omega
  exact⟨x,rfl,(ExAt_iff _ _ _ _).2 ⟨xa,xc,cell_hide.2 ⟨hqf,e0⟩,cell_hide.2 ⟨hqf,e1⟩,cell_hide.2 ⟨hqf,e2⟩,cell_hide.2 ⟨hqf,e3⟩,HX0.out.keep (hk_below ((Below.refl _ W4).alloc (Nat.le_refl _) _) fun _ _ h=>h).cell⟩⟩
 have hqb:q b'=true:=HQ.out b' (by omega) (by have:=Hz4.out;omega)
 have hbU:Below W4.heap.size W4 (W4.alloc (.cells #[.int .i64 x.op,.int .i64 x.n,.string x.name,.slice xa x.args.length xc] 72)):=(Below.refl _ W4).alloc (Nat.le_refl _) _
 have HS:=Lib.hid (rowSetE hqb (row_below hbU HRow4.out) (i:=0) (show 0 < 3 by omega) HN.out)
 generalize hW9:(((((W4.setCell ⟨b',0,none⟩ (.int .i64 4)).setCell ⟨b',1,none⟩ (.int .i64 0)).setCell ⟨b',2,none⟩ (.string ⟨#[]⟩)).setCell ⟨b',3,none⟩ (.slice (some ⟨W4.heap.size,0,none⟩) 1 1)).alloc (.cells #[.int .i64 x.op,.int .i64 x.n,.string x.name,.slice xa x.args.length xc] 72)).drew=W9
 have HB9:Hid (Below w.heap.size w W9):=by
  show Below _ _ _;rw[← hW9]
  have hb:=HB4.out
  exact belr
 have HX9:Hid (W9.heap[w.heap.size]? = some (.cells #[.int .i64 22,.int .i64 n,.string s,.slice (some ⟨b',0,none⟩) 3 c'] 72 (0,0))):=by
  show _=_;rw[← hW9]
  exact hx_old (hx_set (hx_set (hx_set (hx_set HX4.out (by omega)) (by omega)) (by omega)) (by omega))
 have HR9:Hid (W9.heap[w.heap.size+1]? = some (.cells #[.int .i64 0,.int .i64 0,.string ⟨#[]⟩,.slice none 0 0] 72 (0,0))):=by
  show _=_;rw[← hW9]
  exact hx_old (hx_set (hx_set (hx_set (hx_set HR4.out (by omega)) (by omega)) (by omega)) (by omega))
 have HRow9:Hid (RowOf W9 b' 72 4 [notE x,y,z].length c' (exP W9 q [notE x,y,z])):=by
  show RowOf _ _ _ _ _ _ _;rw[← hW9,HA.out]
  exact row_below (Below.drew (Below.refl _ _)) HS.out
 clear HA HN HS hbU HX0 HRow4 HX4 HR4 HB4 HK4 hW9 q0 q1 q2 q3 qf b0 b1 b2 b3 bf B3
 obtain⟨a0,a1,a2,a3,af⟩:=cell4 HX9.out
 obtain⟨c0,c1,c2,c3,cf⟩:=cell4 HR9.out
 go_wp2_with fail
 have hq1:q (w.heap.size+1)=true:=HQ.out _ (by omega) (by have:=Hz4.out;omega)
 have hpb:p b'=false:=by
  cases h:p b' with
  | false=>rfl
  | true=>have:=hp _ h;omega
 refine bodyPost_ret (v:=.tuple #[.agg #[.int .i64 22,.int .i64 n,.string s,.slice (some ⟨b',0,none⟩) 3 c'],.string ⟨#[99,111,110,100,105,116,105,111,110]⟩]) (chg_res _ _ (w.heap.size+1) _ _ _ _ _ (set4M HR9.out) rfl rfl) rfl ?_
 refine HP.out (some ⟨b',0,none⟩) c' _ ?_ ((((HB9.out.setCell (by simp) _).setCell (by simp) _).setCell (by simp) _).setCell (by simp) _)
 exact rowE_in (RowOf.mono (HRow9.out.other4 (by omega)) fun i f _ ⟨v,ae,ce,g0,g1,g2,g3,g4,g5⟩=>⟨v,ae,ce,g0,g1,g2,g3,g4,g5.keep (hk_store4 hq1).cell⟩) hpb (by show 3≤_;omega) (hk_mono fun k hk=>HQs.out k hk).cell
set_option maxHeartbeats 4000000 in
set_option maxRecDepth 100000 in
theorem changed_op (p:Nat→Bool) (op n:Int) (s:ByteArray) (args:List Ex) (ea:Option Addr) (ec:Nat) (w:World) (hX:ExIn (World.hide w p) (.mk op n s args) ea ec) (h1:¬ op=1) (h2:¬ op=22) (h3:exchS op≠0) :
  Calls Tryz.prog 215 #[.agg #[.int .i64 op,.int .i64 n,.string s,.slice ea args.length ec]] w (ChgPost p w (.mk op n s args)):=by
 have HP:=chg_same hX (exchS op) n kOper (by rw[chgS_mk,if_neg h1,if_neg h2,if_pos h3]) (by unfold kindS;rw[if_neg h1,if_neg h2,if_pos h3])
 unfold kOper at HP
 have HEx:=Lib.hid (exch_any op)
 generalize ChgPost p w (.mk op n s args)=Po at HP⊢
 have d1:(op == 1)=false:=by simpa using h1
 have d2:(op == 22)=false:=by simpa using h2
 generalize exchS op=x at HP HEx h3
 have d3:(x != 0)=true:=by simpa using h3
 clear hX h1 h2 h3
 go_enter Tryz.func215, Tryz.ntmps215
 go_wp2_with (go_at_call 260;(with_reducible refine(HEx.out _).mono ?_);rintro e w' ⟨rfl,rfl⟩)
 exact bodyPost_ret (v:=.tuple #[.agg #[.int .i64 x,.int .i64 n,.string s,.slice ea args.length ec],.string ⟨#[111,112,101,114,97,116,111,114]⟩]) (chg_res _ _ (w.heap.size+1) _ _ _ _ _ (hx_new (by simp)) rfl rfl) rfl (HP.out _ belr)
set_option maxHeartbeats 4000000 in
set_option maxRecDepth 100000 in
theorem changed_no (p:Nat→Bool) (op n:Int) (s:ByteArray) (args:List Ex) (ea:Option Addr) (ec:Nat) (w:World) (hX:ExIn (World.hide w p) (.mk op n s args) ea ec) (h1:¬ op=1) (h2:¬ op=22) (h3:exchS op=0) :
  Calls Tryz.prog 215 #[.agg #[.int .i64 op,.int .i64 n,.string s,.slice ea args.length ec]] w (ChgPost p w (.mk op n s args)):=by
 have HP:=chg_same hX op n .empty (by rw[chgS_mk,if_neg h1,if_neg h2,if_neg (by simpa using h3)]) (by unfold kindS;rw[if_neg h1,if_neg h2,if_neg (by simpa using h3)])
 have HEx:=Lib.hid (exch_any op)
 generalize ChgPost p w (.mk op n s args)=Po at HP⊢
 have d1:(op == 1)=false:=by simpa using h1
 have d2:(op == 22)=false:=by simpa using h2
 rw[h3] at HEx
 clear hX h1 h2 h3
 go_enter Tryz.func215, Tryz.ntmps215
 go_wp2_with (go_at_call 260;(with_reducible refine(HEx.out _).mono ?_);rintro e w' ⟨rfl,rfl⟩)
 exact bodyPost_ret (v:=.tuple #[.agg #[.int .i64 op,.int .i64 n,.string s,.slice ea args.length ec],.string ⟨#[]⟩]) (chg_res _ _ (w.heap.size+1) _ _ _ _ _ (hx_new (by simp)) rfl rfl) rfl (HP.out _ belr)
theorem changed_any (p:Nat→Bool) (e:Ex) (w:World) (hp:∀ k,p k=true→k < w.heap.size) (hok:OkE e) (ea:Option Addr) (ec:Nat) (hX:ExIn (World.hide w p) e ea ec) :
  Calls Tryz.prog 215 #[exVal e ea ec] w (ChgPost p w e):=by
 obtain⟨op,n,s,args⟩:=e
 obtain⟨o1,o2,o3,o4⟩:=node_ok hok.self
 show Calls _ _ #[.agg #[.int .i64 op,.int .i64 n,.string s,.slice ea args.length ec]] _ _
 by_cases h1:op=1
 ·subst h1
  exact changed_one p n s args ea ec w hX (o3 rfl).1 (o3 rfl).2
 ·by_cases h2:op=22
  ·subst h2
   have hl:=(operands_ok o4 o1 o2).2.1 rfl
   obtain⟨x,y,z,rfl⟩:∃ x y z,args=[x,y,z]:=by
    rcases args with _ | ⟨x,_ | ⟨y,_ | ⟨z,_ | ⟨u,l⟩⟩⟩⟩<;>simp[Ex.args_mk] at hl
    exact⟨x,y,z,rfl⟩
   exact changed_if p n s x y z ea ec w hp hX
  ·by_cases h3:exchS op=0
   ·exact changed_no p op n s args ea ec w hX h1 h2 h3
   ·exact changed_op p op n s args ea ec w hX h1 h2 h3
end Go.Proofs.YtebneadheaefdaaGreatDoor
namespace Go.Proofs.YtebneadheaefdaaGreatDoor
open Go.RowKit
theorem wires_cells {w:World} {l:List WireD} {a:Option Addr} {cap:Nat} (h:WiresIn w l a cap):CellsAt w 6 l.length a:=cells_row h (by decide) fun i b o hi ⟨v,_,h1,h2,hx⟩ j hj=>by
 obtain⟨ae,ce,g0,g1,g2,g3,_⟩:=(ExAt_iff _ _ _ _).1 hx
 rcases j with _ | _ | _ | _ | _ | _ | j
 ·exact⟨_,h1,by simp[Value.oneCell']⟩
 ·exact⟨_,h2,by simp[Value.oneCell']⟩
 ·exact⟨_,g0,by simp[Value.oneCell']⟩
 ·exact⟨_,g1,by simp[Value.oneCell']⟩
 ·exact⟨_,g2,by simp[Value.oneCell']⟩
 ·exact⟨_,g3,by simp[Value.oneCell']⟩
 ·omega
theorem regs_cells {w:World} {l:List RegD} {a:Option Addr} {cap:Nat} (h:RegsIn w l a cap):CellsAt w 7 l.length a:=cells_row h (by decide) fun i b o hi ⟨v,_,h1,h2,h3,hx⟩ j hj=>by
 obtain⟨ae,ce,g0,g1,g2,g3,_⟩:=(ExAt_iff _ _ _ _).1 hx
 rcases j with _ | _ | _ | _ | _ | _ | _ | j
 ·exact⟨_,h1,by simp[Value.oneCell']⟩
 ·exact⟨_,h2,by simp[Value.oneCell']⟩
 ·exact⟨_,h3,by simp[Value.oneCell']⟩
 ·exact⟨_,g0,by simp[Value.oneCell']⟩
 ·exact⟨_,g1,by simp[Value.oneCell']⟩
 ·exact⟨_,g2,by simp[Value.oneCell']⟩
 ·exact⟨_,g3,by simp[Value.oneCell']⟩
 ·omega
theorem ports_cells {w:World} {l:List PortD} {a:Option Addr} {cap:Nat} (h:PortsIn w l a cap):CellsAt w 2 l.length a:=cells_row h (by decide) fun i b o hi ⟨v,_,h1,h2⟩ j hj=>by
 rcases j with _ | _ | j
 ·exact⟨_,h1,by simp[Value.oneCell']⟩
 ·exact⟨_,h2,by simp[Value.oneCell']⟩
 ·omega
theorem strs_cells {w:World} {l:List ByteArray} {a:Option Addr} {cap:Nat} (h:StrsIn w l a cap):CellsAt w 1 l.length a:=cells_row h (by decide) fun i b o hi ⟨v,_,h1⟩ j hj=>by
 obtain rfl:j=0:=by omega
 exact⟨_,h1,by simp[Value.oneCell']⟩
theorem Cloned.at {w0 w1 w2 W:World} {t:TypeId} {size n:Nat} {a a':Option Addr} {c':Nat} (h:Cloned w1 w2 t size n a a' c') (h0:∀ a v,w0.cell? a=some v→w1.cell? a=some v) (hW:Below w2.heap.size w2 W) (hs:0 < size) :
  n≤c'∧c'≤maxLen∧(n=0∨∃ b off b',a=some ⟨b,off,none⟩∧a'=some ⟨b',0,none⟩∧w1.heap.size≤b'∧b' < w2.heap.size∧RowOf W b' t size n c' (sameK w0 b off size)):=by
 obtain⟨h1,h2,h3⟩:=h
 refine⟨h1,h2,h3.imp id ?_⟩
 rintro ⟨b,off,b',ha,ha',hb,hr⟩
 exact⟨b,off,b',ha,ha',hb,hr.lt,(hr.keep (hk_plain hW) hs).mono fun i f hi hf j u hj hu=>(hf j hj).trans (h0 _ _ hu)⟩
theorem RowOf.at {W V:World} {b:Nat} {t:TypeId} {size n cap:Nat} {P:Nat→(Nat→Option Value)→Prop} (h:RowOf V b t size n cap P) (e:W.heap[b]? = V.heap[b]?):RowOf W b t size n cap P:=by
 obtain⟨h1,h2,arr,h3,h4,h5⟩:=h
 exact⟨h1,h2,arr,by rw[e];exact h3,h4,h5⟩
theorem newD_of {w0 W1 V1 W2 V2 W3 V3 W4 V4 W:World} {d:DesD} {x:DesA} {a1 a2 a3 a4:Option Addr} {k1 k2 k3 k4 b:Nat} (hE:DesIn w0 d x) (hs:DesSmall d)
  (h0:Below w0.heap.size w0 W1) (c1:Cloned W1 V1 104 2 d.inputs.length x.ai a1 k1) (b1:Below W1.heap.size W1 V1) (e1:Below V1.heap.size V1 W2)
  (c2:Cloned W2 V2 74 6 d.wires.length x.aw a2 k2) (b2:Below W2.heap.size W2 V2) (e2:Below V2.heap.size V2 W3)
  (c3:Cloned W3 V3 76 7 d.regs.length x.ar a3 k3) (b3:Below W3.heap.size W3 V3) (e3:Below V3.heap.size V3 W4)
  (c4:Cloned W4 V4 9 1 d.outputs.length x.ao a4 k4) (b4:Below W4.heap.size W4 V4)
  (hb:w0.heap.size≤b) (hD:∀ c t z,V4.heap[b]? = some (.cells c t z)→t=27) (hH:∀ k,k < V4.heap.size→k≠b→W.heap[k]? = V4.heap[k]?) :
  ∃ bw br,NewD W w0.heap.size 0 0 d ⟨a1,k1,a2,k2,a3,k3,a4,k4⟩ bw br:=by
 obtain⟨hl1,hl2,hl3,hl4⟩:=hs.len
 have z0:=h0.size
 have z1:=b1.size
 have z2:=e1.size
 have z3:=b2.size
 have z4:=e2.size
 have z5:=b3.size
 have z6:=e3.size
 have z7:=b4.size
 have t2:Below w0.heap.size w0 W2:=h0.trans ((b1.trans (e1.mono z1)).mono z0)
 have t3:Below w0.heap.size w0 W3:=t2.trans ((b2.trans (e2.mono z3)).mono (by omega))
 have t4:Below w0.heap.size w0 W4:=t3.trans ((b3.trans (e3.mono z5)).mono (by omega))
 have tV:Below w0.heap.size w0 V4:=t4.trans (b4.mono (by omega))
 have f3:Below V3.heap.size V3 V4:=e3.trans (b4.mono z6)
 have f2:Below V2.heap.size V2 V4:=e2.trans ((b3.trans (f3.mono z5)).mono z4)
 have f1:Below V1.heap.size V1 V4:=e1.trans ((b2.trans (f2.mono z3)).mono z2)
 have hne:∀ {b':Nat} {t:TypeId} {size n cap:Nat} {P:Nat→(Nat→Option Value)→Prop},RowOf V4 b' t size n cap P→t≠27→W.heap[b']? = V4.heap[b']?∧b'≠b:=fun {b' t size n cap P} h ht=>by
  have:b'≠b:=by
   rintro rfl
   obtain⟨arr,ha⟩:=h.blk
   exact ht (hD _ _ _ ha)
  exact⟨hH _ h.lt this,this⟩
 obtain⟨m1,n1,q1⟩:=c1.at (keeps_of_below h0) f1 (by decide)
 obtain⟨m2,n2,q2⟩:=c2.at (keeps_of_below t2) f2 (by decide)
 obtain⟨m3,n3,q3⟩:=c3.at (keeps_of_below t3) f3 (by decide)
 obtain⟨m4,n4,q4⟩:=c4.at (keeps_of_below t4) (Below.refl _ _) (by decide)
 have hw:∃ bw:Option Nat,(∀ k,bw=some k→W2.heap.size≤k∧k < V2.heap.size)∧((d.wires.length=0∧bw=none)∨∃ b off b',x.aw=some ⟨b,off,none⟩∧a2=some ⟨b',0,none⟩∧bw=some b'∧RowOf W b' 74 6 d.wires.length k2 (sameK w0 b off 6)):=by
  rcases q2 with q | ⟨b,off,b',g1,g2,g3,g4,g5⟩
  ·exact⟨none,by simp,Or.inl ⟨q,rfl⟩⟩
  ·exact⟨some b',fun k hk=>by obtain rfl:=Option.some.inj hk;exact⟨g3,g4⟩,Or.inr ⟨b,off,b',g1,g2,rfl,g5.at (hne g5 (by decide)).1⟩⟩
 have hr:∃ br:Option Nat,(∀ k,br=some k→W3.heap.size≤k∧k < V3.heap.size)∧((d.regs.length=0∧br=none)∨∃ b off b',x.ar=some ⟨b,off,none⟩∧a3=some ⟨b',0,none⟩∧br=some b'∧RowOf W b' 76 7 d.regs.length k3 (sameK w0 b off 7)):=by
  rcases q3 with q | ⟨b,off,b',g1,g2,g3,g4,g5⟩
  ·exact⟨none,by simp,Or.inl ⟨q,rfl⟩⟩
  ·exact⟨some b',fun k hk=>by obtain rfl:=Option.some.inj hk;exact⟨g3,g4⟩,Or.inr ⟨b,off,b',g1,g2,rfl,g5.at (hne g5 (by decide)).1⟩⟩
 obtain⟨bw,hbw,hw⟩:=hw
 obtain⟨br,hbr,hr⟩:=hr
 have hold:HK w0 (World.hide W (newP 0 bw br)):=fun k o hk _=>by
  have hk':=lt_of_block hk
  have hp:newP 0 bw br k=false:=newP_false.2 ⟨Nat.zero_le _,fun e=>by have:=hbw k e;omega,fun e=>by have:=hbr k e;omega⟩
  rw[hide_heap,hH k (by have:=tV.size;omega) (by omega),tV.block k hk',hk,hp]
  rfl
 refine⟨bw,br,fun k hk hk'=>?_,?_,?_,?_,?_⟩
 ·have:=hbw k hk
  have:=hbr k hk'
  omega
 ·rcases q1 with q | ⟨b,off,b',g1,g2,g3,g4,g5⟩
  ·exact⟨by show d.inputs.length≤k1;exact m1,by omega,Or.inl q⟩
  ·subst g2
   exact ports_same hE.ins g1 ((g5.at (hne g5 (by decide)).1).hid (newP_false.2 ⟨by omega,fun e=>by have:=hbw _ e;omega,fun e=>by have:=hbr _ e;omega⟩))
 ·rcases q4 with q | ⟨b,off,b',g1,g2,g3,g4,g5⟩
  ·exact⟨by show d.outputs.length≤k4;exact m4,by omega,Or.inl q⟩
  ·subst g2
   exact strs_same hE.outs g1 ((g5.at (hne g5 (by decide)).1).hid (newP_false.2 ⟨by omega,fun e=>by have:=hbw _ e;omega,fun e=>by have:=hbr _ e;omega⟩))
 ·refine⟨by omega,m2,n2,hw.imp id ?_⟩
  rintro ⟨b,off,b',g1,g2,g3,g4⟩
  exact⟨b',g3,by have:=hbw b' g3;omega,g2,wires_same hE.wires g1 hold.cell g4⟩
 ·refine⟨by omega,m3,n3,hr.imp id ?_⟩
  rintro ⟨b,off,b',g1,g2,g3,g4⟩
  exact⟨b',g3,by have:=hbr b' g3;omega,g2,regs_same hE.regs g1 hold.cell g4⟩
end Go.Proofs.YtebneadheaefdaaGreatDoor
namespace Go.Proofs.YtebneadheaefdaaGreatDoor
open Go.RowKit
attribute [local go_sem ↓] Go.wp_at_zero Go.wp_at_succ
theorem set5M {w:World} {b:Nat} {z0 z1 z2 z3 z4 u0 u1 u2 u3 u4:Value} {t:TypeId} (h:w.heap[b]? = some (.cells #[z0,z1,z2,z3,z4] t (0,0))) :
  (((((w.setCell ⟨b,0,none⟩ u0).setCell ⟨b,1,none⟩ u1).setCell ⟨b,2,none⟩ u2).setCell ⟨b,3,none⟩ u3).setCell ⟨b,4,none⟩ u4).heap[b]? = some (.cells #[u0,u1,u2,u3,u4] t (0,0)):=by
 have h0:=heap_setCell_same _ b 0 _ t u0 h
 have h1:=heap_setCell_same _ b 1 _ t u1 h0
 have h2:=heap_setCell_same _ b 2 _ t u2 h1
 have h3:=heap_setCell_same _ b 3 _ t u3 h2
 have h4:=heap_setCell_same _ b 4 _ t u4 h3
 rw[h4]
 rfl
theorem cell5 {W:World} {b:Nat} {m0 m1 m2 m3 m4:Value} {t:TypeId} (h:W.heap[b]? = some (.cells #[m0,m1,m2,m3,m4] t (0,0))):W.cell? ⟨b,0,none⟩=some m0∧W.cell? ⟨b,1,none⟩=some m1∧W.cell? ⟨b,2,none⟩=some m2∧W.cell? ⟨b,3,none⟩=some m3∧W.cell? ⟨b,4,none⟩=some m4∧∀ o,W.frozen? ⟨b,o,none⟩=false :=
 ⟨cell_of_blk h 0,cell_of_blk h 1,cell_of_blk h 2,cell_of_blk h 3,cell_of_blk h 4,fun o=>by simp[World.frozen?,h]⟩
theorem RowOf.ne {W:World} {b k:Nat} {t t':TypeId} {size n cap:Nat} {P:Nat→(Nat→Option Value)→Prop} {c:Array Value} (h:RowOf W k t size n cap P) (hb:W.heap[b]? = some (.cells c t' (0,0))) (ht:t≠t'):k≠b:=by
 intro e
 subst e
 obtain⟨arr,ha⟩:=h.blk
 rw[ha] at hb
 simp only[Option.some.injEq,Obj.cells.injEq] at hb
 exact ht hb.2.1
theorem SlR.ne {W:World} {B:Nat} {bo:Option Nat} {t t':TypeId} {size n cap:Nat} {a:Option Addr} {P:Nat→(Nat→Option Value)→Prop} {b:Nat} {c:Array Value} (h:SlR W B bo t size n a cap P) (hb:W.heap[b]? = some (.cells c t' (0,0))) (ht:t≠t'):bo≠some b:=by
 intro e
 rcases h.2.2.2 with q | ⟨k,hk,_,_,q⟩
 ·rw[q.2] at e;simp at e
 ·rw[e] at hk
  obtain rfl:=Option.some.inj hk
  exact q.ne hb ht rfl
theorem NewD.low {W:World} {B:Nat} {d:DesD} {x:DesA} {bw br:Option Nat} (h:NewA W B d x bw br) {k o:Nat} {u:Value} (hk:k < B):NewA (W.setCell ⟨k,o,none⟩ u) B d x bw br :=
 (NewD.beside h (q:=old B) fun k hk=>old_true.1 hk).keep ((hk_store (old_true.2 hk)).trans (hk_unhide _ _))
def FrPost (w:World) (d:DesD) (r:Ending) (w':World):Prop:=(∃ x bw br,r=.returned (desVal d x)∧NewA w' w.heap.size d x bw br)∧Below w.heap.size w w'
theorem fre_res (W:World) (tm:Array Value) (b:Nat) (m0 m1 m2 m3 m4:Value) (hW:W.heap[b]? = some (.cells #[m0,m1,m2,m3,m4] 27 (0,0))) (h0:tm.getD 2 undef=.pointer (some ⟨b,0,none⟩)) :
  (results Tryz.f65 tm).run Tryz.prog W=.ok (.agg #[m0,m1,m2,m3,m4]) W:=by
 have hr : Tryz.f65.results=#[.cell 2 27]:=rfl
 have c0:=cell_of_blk hW 0
 have c1:=cell_of_blk hW 1
 have c2:=cell_of_blk hW 2
 have c3:=cell_of_blk hW 3
 have c4:=cell_of_blk hW 4
 simp at c0 c1 c2 c3 c4
 rw[results_cellC hr,h0]
 simp[asAddr]
 go_simp
theorem lift_to {P:Program} {f:FuncId} {args:Array Value} {W0 W:World} {Q:Ending→World→Prop} (hW:Below W0.heap.size W0 W) (h:Calls P f args W fun e w'=>Q e w'∧Below W.heap.size W w') :
  Calls P f args W fun e w'=>Q e w'∧Below W.heap.size W w'∧Below W0.heap.size W0 w':=h.mono fun _ _ h=>⟨h.1,h.2,hW.trans (h.2.mono hW.size)⟩
def FrSt (W2:World) (d:DesD) (s:Value) (W:World):Prop:=∃ (b:Nat) (x:DesA) (bw br:Option Nat),s=.pointer (some ⟨b,0,none⟩)∧W2.heap.size≤b∧W.heap[b]? = some (.cells (desVals d x) 27 (0,0))∧NewD W W2.heap.size 0 0 d x bw br∧Below W2.heap.size W2 W
theorem frSt_of {W2 W1 V1 X2 V2 X3 V3 X4 V4 W:World} {d:DesD} {x:DesA} {a1 a2 a3 a4:Option Addr} {k1 k2 k3 k4 b:Nat} (hE:DesIn W2 d x) (hs:DesSmall d)
  (h0:Below W2.heap.size W2 W1) (c1:Cloned W1 V1 104 2 d.inputs.length x.ai a1 k1) (b1:Below W1.heap.size W1 V1) (e1:Below V1.heap.size V1 X2)
  (c2:Cloned X2 V2 74 6 d.wires.length x.aw a2 k2) (b2:Below X2.heap.size X2 V2) (e2:Below V2.heap.size V2 X3)
  (c3:Cloned X3 V3 76 7 d.regs.length x.ar a3 k3) (b3:Below X3.heap.size X3 V3) (e3:Below V3.heap.size V3 X4)
  (c4:Cloned X4 V4 9 1 d.outputs.length x.ao a4 k4) (b4:Below X4.heap.size X4 V4)
  (hb:W2.heap.size≤b) (hD:∀ c t z,V4.heap[b]? = some (.cells c t z)→t=27) (hH:∀ k,k < V4.heap.size→k≠b→W.heap[k]? = V4.heap[k]?)
  (hW:Below W2.heap.size W2 W) (hbl:W.heap[b]? = some (.cells (desVals d ⟨a1,k1,a2,k2,a3,k3,a4,k4⟩) 27 (0,0))):FrSt W2 d (.pointer (some ⟨b,0,none⟩)) W:=by
 obtain⟨bw,br,hN⟩:=newD_of hE hs h0 c1 b1 e1 c2 b2 e2 c3 b3 e3 c4 b4 hb hD hH
 exact⟨b,_,bw,br,rfl,hb,hbl,hN,hW⟩
theorem hD_old {V:World} {b:Nat} {c:Array Value} {t:TypeId} (h:V.heap[b]? = some (.cells c t (0,0))):∀ c' t' z,V.heap[b]? = some (.cells c' t' z)→t'=t:=fun c' t' z h'=>by
 rw[h] at h'
 simp only[Option.some.injEq,Obj.cells.injEq] at h'
 exact h'.2.1.symm
theorem hD_new {V:World} {t:TypeId}:∀ c' t' z,V.heap[V.heap.size]? = some (.cells c' t' z)→t'=t:=fun c' t' z h'=>by
 have:=lt_of_block h'
 omega
theorem hH_old {V:World} {b:Nat} {u0 u1 u2 u3 u4:Value}:∀ k,k < V.heap.size→k≠b→(((((V.setCell ⟨b,0,none⟩ u0).setCell ⟨b,1,none⟩ u1).setCell ⟨b,2,none⟩ u2).setCell ⟨b,3,none⟩ u3).setCell ⟨b,4,none⟩ u4).heap[k]? = V.heap[k]?:=fun k _ hn=>by
 rw[Below.heap_setCell _ _ _ _ hn,Below.heap_setCell _ _ _ _ hn,Below.heap_setCell _ _ _ _ hn,Below.heap_setCell _ _ _ _ hn,Below.heap_setCell _ _ _ _ hn]
theorem hH_new {V:World} {o:Obj}:∀ k,k < V.heap.size→k≠V.heap.size→(V.alloc o).heap[k]? = V.heap[k]?:=fun k hk _=>Below.heap_alloc _ _ _ hk
theorem mod_same {α:Type} {g:α→α}:∀ {l:List α} {i:Nat} {v:α},l[i]? = some v→g v=v→l.modify i g=l:=by
 intro l
 induction l with
 | nil=>intro i v h _;simp at h
 | cons a l ih =>
  intro i v h hg
  cases i with
  | zero =>
   obtain rfl:a=v:=by simpa using h
   show g a::l=a::l
   rw[hg]
  | succ i =>
   show a::l.modify i g=a::l
   rw[ih (by simpa using h) hg]
theorem frW_step {W2 wr w5:World} {d:DesD} {x1:DesA} {bw br:Option Nat} {b bb k:Nat} {v:WireD} {a5:Option Addr} {c5:Nat} (hbl:wr.heap[b]? = some (.cells (desVals d x1) 27 (0,0))) (hN:NewD wr W2.heap.size k 0 d x1 bw br) (hB:Below W2.heap.size W2 wr)
  (hbw:bw=some bb) (hlt:k < d.wires.length) (hv:d.wires[k]? = some v) (hb5:Below wr.heap.size wr w5) (hx5:ExIn (World.hide w5 (old wr.heap.size)) v.expr a5 c5) :
  (((((w5.setCell ⟨bb,k * 6+2,none⟩ (.int .i64 v.expr.op)).setCell ⟨bb,k * 6+2+1,none⟩ (.int .i64 v.expr.n)).setCell ⟨bb,k * 6+2+2,none⟩ (.string v.expr.name)).setCell ⟨bb,k * 6+2+3,none⟩ (.slice a5 v.expr.args.length c5)).heap[b]? = some (.cells (desVals d x1) 27 (0,0))) ∧
  NewD ((((w5.setCell ⟨bb,k * 6+2,none⟩ (.int .i64 v.expr.op)).setCell ⟨bb,k * 6+2+1,none⟩ (.int .i64 v.expr.n)).setCell ⟨bb,k * 6+2+2,none⟩ (.string v.expr.name)).setCell ⟨bb,k * 6+2+3,none⟩ (.slice a5 v.expr.args.length c5)) W2.heap.size (k+1) 0 d x1 bw br ∧
  Below W2.heap.size W2 ((((w5.setCell ⟨bb,k * 6+2,none⟩ (.int .i64 v.expr.op)).setCell ⟨bb,k * 6+2+1,none⟩ (.int .i64 v.expr.n)).setCell ⟨bb,k * 6+2+2,none⟩ (.string v.expr.name)).setCell ⟨bb,k * 6+2+3,none⟩ (.slice a5 v.expr.args.length c5)):=by
 have hz:=hB.size
 have hlw:=hN.wires.lt bb hbw
 have hne:b≠bb:=fun e=>by
  subst e
  exact hN.wires.ne hbl (by decide) hbw
 have hbr:∀ j,br=some j→j < wr.heap.size:=fun j hj=>(hN.regs.lt j hj).2
 have hbw':∀ j,bw=some j→j < wr.heap.size:=fun j hj=>(hN.wires.lt j hj).2
 refine⟨?_,?_,?_⟩
 ·rw[Below.heap_setCell _ _ _ _ hne,Below.heap_setCell _ _ _ _ hne,Below.heap_setCell _ _ _ _ hne,Below.heap_setCell _ _ _ _ hne]
  exact hx_below hb5 hbl
 ·have hd:d.setWire k v.expr=d:=by
   unfold DesD.setWire
   rw[mod_same hv rfl]
  have h:=(hN.keep (hk_plain hb5)).setW (kw':=k+1) hbw hlt (e:=v.expr) (a:=a5) (c:=c5) (hx5.keep (hk_mono fun j hj=>old_true.2 (by
   rw[if_pos (Nat.lt_succ_self k)] at hj
   rcases newP_true.1 hj with h | h | h
   ·omega
   ·exact hbw' j h
   ·exact hbr j h)).cell) (fun j hj=>by omega) (Nat.le_succ k)
  rw[hd] at h
  exact h
 ·exact((((hB.trans (hb5.mono hz)).setCell hlw.1 _).setCell hlw.1 _).setCell hlw.1 _).setCell hlw.1 _
theorem frR_step {W2 wr w5:World} {d:DesD} {x1:DesA} {bw br:Option Nat} {b bb k:Nat} {v:RegD} {a5:Option Addr} {c5:Nat} (hbl:wr.heap[b]? = some (.cells (desVals d x1) 27 (0,0))) (hN:NewD wr W2.heap.size d.wires.length k d x1 bw br) (hB:Below W2.heap.size W2 wr)
  (hbr:br=some bb) (hlt:k < d.regs.length) (hv:d.regs[k]? = some v) (hb5:Below wr.heap.size wr w5) (hx5:ExIn (World.hide w5 (old wr.heap.size)) v.next a5 c5) :
  (((((w5.setCell ⟨bb,k * 7+3,none⟩ (.int .i64 v.next.op)).setCell ⟨bb,k * 7+3+1,none⟩ (.int .i64 v.next.n)).setCell ⟨bb,k * 7+3+2,none⟩ (.string v.next.name)).setCell ⟨bb,k * 7+3+3,none⟩ (.slice a5 v.next.args.length c5)).heap[b]? = some (.cells (desVals d x1) 27 (0,0))) ∧
  NewD ((((w5.setCell ⟨bb,k * 7+3,none⟩ (.int .i64 v.next.op)).setCell ⟨bb,k * 7+3+1,none⟩ (.int .i64 v.next.n)).setCell ⟨bb,k * 7+3+2,none⟩ (.string v.next.name)).setCell ⟨bb,k * 7+3+3,none⟩ (.slice a5 v.next.args.length c5)) W2.heap.size d.wires.length (k+1) d x1 bw br ∧
  Below W2.heap.size W2 ((((w5.setCell ⟨bb,k * 7+3,none⟩ (.int .i64 v.next.op)).setCell ⟨bb,k * 7+3+1,none⟩ (.int .i64 v.next.n)).setCell ⟨bb,k * 7+3+2,none⟩ (.string v.next.name)).setCell ⟨bb,k * 7+3+3,none⟩ (.slice a5 v.next.args.length c5)):=by
 have hz:=hB.size
 have hlw:=hN.regs.lt bb hbr
 have hne:b≠bb:=fun e=>by
  subst e
  exact hN.regs.ne hbl (by decide) hbr
 have hbr':∀ j,br=some j→j < wr.heap.size:=fun j hj=>(hN.regs.lt j hj).2
 have hbw':∀ j,bw=some j→j < wr.heap.size:=fun j hj=>(hN.wires.lt j hj).2
 refine⟨?_,?_,?_⟩
 ·rw[Below.heap_setCell _ _ _ _ hne,Below.heap_setCell _ _ _ _ hne,Below.heap_setCell _ _ _ _ hne,Below.heap_setCell _ _ _ _ hne]
  exact hx_below hb5 hbl
 ·have hd:d.setNext k v.next=d:=by
   unfold DesD.setNext
   rw[mod_same hv rfl]
  have h:=(hN.keep (hk_plain hb5)).setR (kr':=k+1) hbr hlt (e:=v.next) (a:=a5) (c:=c5) (hx5.keep (hk_mono fun j hj=>old_true.2 (by
   rw[if_pos (Nat.lt_succ_self k)] at hj
   rcases newP_true.1 hj with h | h | h
   ·omega
   ·exact hbw' j h
   ·exact hbr' j h)).cell) (fun j hj=>by omega) (Nat.le_succ k)
  rw[hd] at h
  exact h
 ·exact((((hB.trans (hb5.mono hz)).setCell hlw.1 _).setCell hlw.1 _).setCell hlw.1 _).setCell hlw.1 _
set_option maxHeartbeats 8000000 in
set_option maxRecDepth 100000 in
theorem fresh_any (d:DesD) (x:DesA) (w:World) (hE:DesIn w d x) (hs:DesSmall d):Calls Tryz.prog 65 #[desVal d x] w (FrPost w d):=by
 have hl:=hs.len
 have HE:=Lib.hid hE
 have HS:=Lib.hid hs
 have HCo:Hid (∀ e a c W,ExIn W e a c→Calls Tryz.prog 69 #[.agg #[.int .i64 e.op,.int .i64 e.n,.string e.name,.slice a e.args.length c]] W fun r w'=>(∃ a' c',r=.returned (.agg #[.int .i64 e.op,.int .i64 e.n,.string e.name,.slice a' e.args.length c'])∧ExIn (World.hide w' (old W.heap.size)) e a' c')∧Below W.heap.size W w'):=fun e a c W h=>copyM_any e a c W h
 have HP:Hid (∀ B x' bw br W,w.heap.size≤B→NewA W B d x' bw br→Below w.heap.size w W→FrPost w d (.returned (.agg (desVals d x'))) W):=fun B x' bw br W hB h1 h2=>⟨⟨x',bw,br,rfl,NewD.mono h1 hB⟩,h2⟩
 clear hE hs
 generalize FrPost w d=Po at HP⊢
 simp only[desVal,desVals] at HP⊢
 go_enter Tryz.func65, Tryz.ntmps65
 go_upto_region 1 with fail
 generalize hW2:(w.alloc (.cells #[.string d.name,.slice x.ai d.inputs.length x.ci,.slice x.aw d.wires.length x.cw,.slice x.ar d.regs.length x.cr,.slice x.ao d.outputs.length x.co] 27)).alloc (.cells #[.string ⟨#[]⟩,.slice none 0 0,.slice none 0 0,.slice none 0 0,.slice none 0 0] 27)=W2
 have hz2:w.heap.size+2≤W2.heap.size:=by rw[← hW2];simp
 have hz2b:W2.heap.size≤w.heap.size+2:=by rw[← hW2];simp
 have HB2:Hid (Below w.heap.size w W2):=by show Below _ _ _;rw[← hW2];exact belr
 have HX2:Hid (W2.heap[w.heap.size]? = some (.cells #[.string d.name,.slice x.ai d.inputs.length x.ci,.slice x.aw d.wires.length x.cw,.slice x.ar d.regs.length x.cr,.slice x.ao d.outputs.length x.co] 27 (0,0))):=by
  show _=_;rw[← hW2]
  exact hx_old (hx_new rfl)
 have HR2:Hid (W2.heap[w.heap.size+1]? = some (.cells #[.string ⟨#[]⟩,.slice none 0 0,.slice none 0 0,.slice none 0 0,.slice none 0 0] 27 (0,0))):=by
  show _=_;rw[← hW2]
  exact hx_new (by simp)
 clear hW2
 have HE2:=Lib.hid (HE.out.keep (keeps_of_below HB2.out))
 have HALL:Hid (∀ w',Below W2.heap.size W2 w'→w'.cell? ⟨w.heap.size,0,none⟩=some (.string d.name)∧w'.cell? ⟨w.heap.size,1,none⟩=some (.slice x.ai d.inputs.length x.ci)∧w'.cell? ⟨w.heap.size,2,none⟩=some (.slice x.aw d.wires.length x.cw)∧w'.cell? ⟨w.heap.size,3,none⟩=some (.slice x.ar d.regs.length x.cr)∧w'.cell? ⟨w.heap.size,4,none⟩=some (.slice x.ao d.outputs.length x.co)):=fun w' h=>by
  have hb:=hx_below h HX2.out
  have b0:=cell_of_blk hb 0
  have b1:=cell_of_blk hb 1
  have b2:=cell_of_blk hb 2
  have b3:=cell_of_blk hb 3
  have b4:=cell_of_blk hb 4
  simp at b0 b1 b2 b3 b4
  exact⟨b0,b1,b2,b3,b4⟩
 have HQ1:Hid (∀ W,Below W2.heap.size W2 W→Calls Tryz.prog 121 #[.slice x.ai d.inputs.length x.ci] W fun e w'=>(∃ a' c',e=.returned (.slice a' d.inputs.length c')∧Cloned W w' 104 2 d.inputs.length x.ai a' c')∧Below W.heap.size W w'∧Below W2.heap.size W2 w'):=fun W hW=>lift_to hW (cloneP_any _ _ _ W (by omega) (ports_cells (HE2.out.below hW).ins))
 have HQ2:Hid (∀ W,Below W2.heap.size W2 W→Calls Tryz.prog 122 #[.slice x.aw d.wires.length x.cw] W fun e w'=>(∃ a' c',e=.returned (.slice a' d.wires.length c')∧Cloned W w' 74 6 d.wires.length x.aw a' c')∧Below W.heap.size W w'∧Below W2.heap.size W2 w'):=fun W hW=>lift_to hW (cloneW_any _ _ _ W (by omega) (wires_cells (HE2.out.below hW).wires))
 have HQ3:Hid (∀ W,Below W2.heap.size W2 W→Calls Tryz.prog 123 #[.slice x.ar d.regs.length x.cr] W fun e w'=>(∃ a' c',e=.returned (.slice a' d.regs.length c')∧Cloned W w' 76 7 d.regs.length x.ar a' c')∧Below W.heap.size W w'∧Below W2.heap.size W2 w'):=fun W hW=>lift_to hW (cloneR_any _ _ _ W (by omega) (regs_cells (HE2.out.below hW).regs))
 have HQ4:Hid (∀ W,Below W2.heap.size W2 W→Calls Tryz.prog 124 #[.slice x.ao d.outputs.length x.co] W fun e w'=>(∃ a' c',e=.returned (.slice a' d.outputs.length c')∧Cloned W w' 9 1 d.outputs.length x.ao a' c')∧Below W.heap.size W w'∧Below W2.heap.size W2 w'):=fun W hW=>lift_to hW (cloneS_any _ _ _ W (by omega) (strs_cells (HE2.out.below hW).outs))
 have hB0:Below W2.heap.size W2 W2:=Below.refl _ _
 obtain⟨b0,b1,b2,b3,b4⟩:=HALL.out _ hB0
 go_cut [3] from 6 (fun s wx=>FrSt W2 d s wx)
 case first =>
  go_region_held3 (fun w'=>Below W2.heap.size W2 w'∧w'.cell? ⟨w.heap.size,0,none⟩=some (.string d.name)∧w'.cell? ⟨w.heap.size,1,none⟩=some (.slice x.ai d.inputs.length x.ci)∧w'.cell? ⟨w.heap.size,2,none⟩=some (.slice x.aw d.wires.length x.cw)∧w'.cell? ⟨w.heap.size,3,none⟩=some (.slice x.ar d.regs.length x.cr)∧w'.cell? ⟨w.heap.size,4,none⟩=some (.slice x.ao d.outputs.length x.co))
   ((refine(fun h=>⟨h,HALL.out _ h⟩) ?_;first | with_reducible assumption | exact belr))
   (first
    | (go_at_call 121;(with_reducible refine(HQ1.out _ (by first | with_reducible assumption | exact belr)).mono ?_);rintro e v1 ⟨⟨a1,k1,rfl,hc1⟩,hb1,hB1⟩;have hy1:=hb1.size;have hs1:=hB1.size;have HC1:=Lib.hid hc1;clear hc1;(try (with_reducible (have hq:=Lib.hid (hx_below hb1 hq.out))));(try (with_reducible (have hq:=Lib.hid (hx_below hb1 (hx_new (X:=W2) rfl))))))
    | (go_at_call 122;(with_reducible refine(HQ2.out _ (by first | with_reducible assumption | exact belr)).mono ?_);rintro e v2 ⟨⟨a2,k2,rfl,hc2⟩,hb2,hB2⟩;have hy2:=hb2.size;have hs2:=hB2.size;have HC2:=Lib.hid hc2;clear hc2;(try (with_reducible (have hq:=Lib.hid (hx_below hb2 hq.out))));(try (with_reducible (have hq:=Lib.hid (hx_below hb2 (hx_new (X:=v1) rfl))))))
    | (go_at_call 123;(with_reducible refine(HQ3.out _ (by first | with_reducible assumption | exact belr)).mono ?_);rintro e v3 ⟨⟨a3,k3,rfl,hc3⟩,hb3,hB3⟩;have hy3:=hb3.size;have hs3:=hB3.size;have HC3:=Lib.hid hc3;clear hc3;(try (with_reducible (have hq:=Lib.hid (hx_below hb3 hq.out))));(try (with_reducible (have hq:=Lib.hid (hx_below hb3 (hx_new (X:=v2) rfl))))))
    | (go_at_call 124;(with_reducible refine(HQ4.out _ (by first | with_reducible assumption | exact belr)).mono ?_);rintro e v4 ⟨⟨a4,k4,rfl,hc4⟩,hb4,hB4⟩;have hy4:=hb4.size;have hs4:=hB4.size;have HC4:=Lib.hid hc4;clear hc4;(try (with_reducible (have hq:=Lib.hid (hx_below hb4 hq.out))));(try (with_reducible (have hq:=Lib.hid (hx_below hb4 (hx_new (X:=v3) rfl)))));(try (with_reducible (have hY:=cell5 hq.out);obtain⟨y0,y1,y2,y3,y4,yf⟩:=hY))))
  all_goals
   go_wp2_with fail
   go_meet
  next=>exact frSt_of HE2.out HS.out belr HC1.out hb1 belr HC2.out hb2 belr HC3.out hb3 belr HC4.out hb4 sz hD_new hH_new belr (hx_new rfl)
  all_goals exact frSt_of HE2.out HS.out belr HC1.out hb1 belr HC2.out hb2 belr HC3.out hb3 belr HC4.out hb4 sz (hD_old hq.out) hH_old belr (set5M hq.out)
 case rest =>
  obtain⟨b,x1,bw,br,rfl,hb,hbl,hN,hB⟩:=hcut
  have HN:=Lib.hid hN
  have HBl:=Lib.hid hbl
  have HB:=Lib.hid hB
  have hbz:=lt_of_block hbl
  clear hN hbl hB hB0 b0 b1 b2 b3 b4 HQ1 HQ2 HQ3 HQ4 HALL HE2
  obtain⟨e0,e1,e2,e3,e4,ef⟩:=cell5 HBl.out
  go_wp2_with fail
  clear e0 e1 e2 e3 e4 ef
  go_loopw [24] (fun i wr=>∃ k:Nat,i=.int .i64 k∧k≤d.wires.length∧Hid (wr.heap[b]? = some (.cells (desVals d x1) 27 (0,0)))∧Hid (NewD wr W2.heap.size k 0 d x1 bw br)∧Hid (Below W2.heap.size W2 wr)) (fun i _=>d.wires.length - (intOf i).toNat)
  case atStart=>exact⟨0,rfl,Nat.zero_le _,HBl,HN,HB⟩
  case round =>
   obtain⟨k,rfl,hk,HBl,HN,HB⟩:=hrel
   obtain⟨e0,e1,e2,e3,e4,ef⟩:=cell5 HBl.out
   by_cases hlt:k < d.wires.length
   ·obtain⟨bb,hbw,haw,hB1,hB2,hfr,hne⟩:=HN.out.wblock (by omega)
    obtain⟨_,_,_,hsl⟩:=HN.out.wires
    obtain⟨bb',hbw',-,-,hrow⟩:=hsl.resolve_left (by omega)
    rw[hbw] at hbw'
    obtain rfl:=Option.some.inj hbw'
    have hcw:=hrow.le
    obtain⟨f,⟨v,ae,ce,g0,g1,g2,g3,g4,g5,g6,g7⟩,hf⟩:=hrow.get hlt
    have q0:=hf 2 _ g3
    have q1:=hf 3 _ g4
    have q2:=hf 4 _ g5
    have q3:=hf 5 _ g6
    have hX0:=g7.keep (hk_unhide _ _).cell
    have HC:=Lib.hid (fun W (hW:Below wr.heap.size wr W)=>HCo.out v.expr ae ce W (hX0.keep (keeps_of_below hW)))
    rw[haw] at e2
    have hcwi:(d.wires.length:Int)≤(x1.cw:Int):=by omega
    have Hbw:=Lib.hid hbw
    have Haw:=Lib.hid haw
    have Hne:=Lib.hid hne
    have Hv:Hid (d.wires[k]? = some v):=g0
    clear g0 g1 g2 g3 g4 g5 g6 g7 hf hrow hsl hX0 hbw haw hne e0 e1 e3 e4
    go_wp2_with fail
    go_region_with ((go_at_call 69;(with_reducible refine(HC.out _ belr).mono ?_);rintro r w5 ⟨⟨a5,c5,rfl,hx5⟩,hb5⟩;have p2:=keeps_of_below hb5 _ _ e2;have p20:=keeps_of_below hb5 _ _ q0;have p21:=keeps_of_below hb5 _ _ q1;have p22:=keeps_of_below hb5 _ _ q2;have p23:=keeps_of_below hb5 _ _ q3;have pf:=fun j=>(hb5.frozen (p:=⟨bb,j,none⟩) hB2).trans (hfr j)))
    all_goals
     obtain⟨t1,t2,t3⟩:=frW_step HBl.out HN.out HB.out Hbw.out hlt Hv.out ((Below.drew (Below.refl _ _)).trans hb5) hx5
     have T1:=Lib.hid t1
     have T2:=Lib.hid t2
     have T3:=Lib.hid t3
     clear t1 t2 t3 hb5 hx5 p2 p20 p21 p22 p23 pf
     go_wp2_with fail
     go_roundw
     case rel=>exact⟨k+1,by go_num,by omega,T1,T2,T3⟩
     case measure=>(simp[intOf];try omega)
   ·obtain rfl:k=d.wires.length:=by omega
    go_wp2_with fail
    clear e0 e1 e2 e3 e4 ef
    go_loopw [43] (fun i wr=>∃ k:Nat,i=.int .i64 k∧k≤d.regs.length∧Hid (wr.heap[b]? = some (.cells (desVals d x1) 27 (0,0)))∧Hid (NewD wr W2.heap.size d.wires.length k d x1 bw br)∧Hid (Below W2.heap.size W2 wr)) (fun i _=>d.regs.length - (intOf i).toNat)
    case atStart=>exact⟨0,rfl,Nat.zero_le _,HBl,HN,HB⟩
    case round =>
     rename World=>wr
     obtain⟨k,rfl,hk,HBl,HN,HB⟩:=hrel
     obtain⟨e0,e1,e2,e3,e4,ef⟩:=cell5 HBl.out
     by_cases hlt:k < d.regs.length
     ·obtain⟨bb,hbw,haw,hB1,hB2,hfr,hne⟩:=HN.out.rblock (by omega)
      obtain⟨_,_,_,hsl⟩:=HN.out.regs
      obtain⟨bb',hbw',-,-,hrow⟩:=hsl.resolve_left (by omega)
      rw[hbw] at hbw'
      obtain rfl:=Option.some.inj hbw'
      have hcw:=hrow.le
      obtain⟨f,⟨v,ae,ce,g0,g1,g2,g2',g3,g4,g5,g6,g7⟩,hf⟩:=hrow.get hlt
      have q0:=hf 3 _ g3
      have q1:=hf 4 _ g4
      have q2:=hf 5 _ g5
      have q3:=hf 6 _ g6
      have hX0:=g7.keep (hk_unhide _ _).cell
      have HC:=Lib.hid (fun W (hW:Below wr.heap.size wr W)=>HCo.out v.next ae ce W (hX0.keep (keeps_of_below hW)))
      rw[haw] at e3
      have hcwi:(d.regs.length:Int)≤(x1.cr:Int):=by omega
      have Hbw:=Lib.hid hbw
      have Hv:Hid (d.regs[k]? = some v):=g0
      clear g0 g1 g2 g2' g3 g4 g5 g6 g7 hf hrow hsl hX0 hbw haw hne e0 e1 e2 e4
      go_wp2_with fail
      go_region_with ((go_at_call 69;(with_reducible refine(HC.out _ belr).mono ?_);rintro r w5 ⟨⟨a5,c5,rfl,hx5⟩,hb5⟩;have p2:=keeps_of_below hb5 _ _ e3;have p20:=keeps_of_below hb5 _ _ q0;have p21:=keeps_of_below hb5 _ _ q1;have p22:=keeps_of_below hb5 _ _ q2;have p23:=keeps_of_below hb5 _ _ q3;have pf:=fun j=>(hb5.frozen (p:=⟨bb,j,none⟩) hB2).trans (hfr j)))
      all_goals
       obtain⟨t1,t2,t3⟩:=frR_step HBl.out HN.out HB.out Hbw.out hlt Hv.out ((Below.drew (Below.refl _ _)).trans hb5) hx5
       have T1:=Lib.hid t1
       have T2:=Lib.hid t2
       have T3:=Lib.hid t3
       clear t1 t2 t3 hb5 hx5 p2 p20 p21 p22 p23 pf
       go_wp2_with fail
       go_roundw
       case rel=>exact⟨k+1,by go_num,by omega,T1,T2,T3⟩
       case measure=>(simp[intOf];try omega)
     ·obtain rfl:k=d.regs.length:=by omega
      have HRb:Hid (wr.heap[w.heap.size+1]? = some (.cells #[.string ⟨#[]⟩,.slice none 0 0,.slice none 0 0,.slice none 0 0,.slice none 0 0] 27 (0,0))):=(HB.out.block _ (by omega)).trans HR2.out
      obtain⟨y0,y1,y2,y3,y4,yf⟩:=cell5 HRb.out
      go_wp2_with fail
      refine bodyPost_ret (v:=.agg (desVals d x1)) (fre_res _ _ (w.heap.size+1) _ _ _ _ _ (set5M HRb.out) rfl) rfl ?_
      have hlow:w.heap.size+1 < W2.heap.size:=by omega
      exact HP.out W2.heap.size x1 bw br _ (by omega) (((((HN.out.low hlow).low hlow).low hlow).low hlow).low hlow) ((((((HB2.out.trans (HB.out.mono (by omega))).setCell (by simp) _).setCell (by simp) _).setCell (by simp) _).setCell (by simp) _).setCell (by simp) _)
end Go.Proofs.YtebneadheaefdaaGreatDoor
