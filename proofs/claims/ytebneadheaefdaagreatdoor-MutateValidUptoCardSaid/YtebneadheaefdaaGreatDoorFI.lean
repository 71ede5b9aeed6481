/- ref34.changed: a node with its change. -/
import Derived.Test.YtebneadheaefdaaGreatDoorFE
import Derived.Test.YtebneadheaefdaaGreatDoorFF
import Derived.Test.YtebneadheaefdaaGreatDoorEJ
set_option linter.unusedSimpArgs false
set_option linter.unusedVariables false
set_option linter.unnecessarySimpa false
namespace Go.Proofs.YtebneadheaefdaaGreatDoor
open Go.RowKit
attribute [local go_sem ↓] Go.wp_at_zero Go.wp_at_succ
def RChgPost (p:Nat→Bool) (w:World) (e:Ex) (r:Ending) (w':World):Prop:=(∃ a c,r=.returned (exVal (chgS e) a c)∧ExIn (World.hide w' p) (chgS e) a c)∧Below w.heap.size w w'
theorem rchg_res (W:World) (tm:Array Value) (b:Nat) (m0 m1 m2 m3:Value) (hW:W.heap[b]? = some (.cells #[m0,m1,m2,m3] 72 (0,0))) (h0:tm.getD 2 undef=.pointer (some ⟨b,0,none⟩)) :
  (results Tryz.f171 tm).run Tryz.prog W=.ok (.agg #[m0,m1,m2,m3]) W:=by
 have hr : Tryz.f171.results=#[.cell 2 72]:=rfl
 have c0:=cell_of_blk hW 0
 have c1:=cell_of_blk hW 1
 have c2:=cell_of_blk hW 2
 have c3:=cell_of_blk hW 3
 simp at c0 c1 c2 c3
 rw[results_cellC hr,h0]
 simp[asAddr]
 go_simp
theorem rchg_same {p:Nat→Bool} {op n:Int} {s:ByteArray} {args:List Ex} {ea:Option Addr} {ec:Nat} {w:World} (hX:ExIn (World.hide w p) (.mk op n s args) ea ec) (op' n':Int) (he:chgS (.mk op n s args)=.mk op' n' s args) :
  Hid (∀ W,Below w.heap.size w W→RChgPost p w (.mk op n s args) (.returned (.agg #[.int .i64 op',.int .i64 n',.string s,.slice ea args.length ec])) W):=fun W hW=>⟨⟨ea,ec,by rw[he];rfl,by
 have h:=hX.keep (hk_below hW fun _ _ h=>h).cell
 rw[he]
 exact h⟩,hW⟩
theorem kd_const {kd:ByteArray} (h:kd=kConst):(kd.toList == [99,111,110,115,116,97,110,116])=true∧(kd.toList == [111,112,101,114,97,116,111,114])=false∧(kd.toList == [99,111,110,100,105,116,105,111,110])=false:=by
 rw[h,ByteArray.toList_eq]
 decide
theorem kd_oper {kd:ByteArray} (h:kd=kOper):(kd.toList == [99,111,110,115,116,97,110,116])=false∧(kd.toList == [111,112,101,114,97,116,111,114])=true∧(kd.toList == [99,111,110,100,105,116,105,111,110])=false:=by
 rw[h,ByteArray.toList_eq]
 decide
theorem kd_cond {kd:ByteArray} (h:kd=kCond):(kd.toList == [99,111,110,115,116,97,110,116])=false∧(kd.toList == [111,112,101,114,97,116,111,114])=false∧(kd.toList == [99,111,110,100,105,116,105,111,110])=true:=by
 rw[h,ByteArray.toList_eq]
 decide
theorem kd_none {kd:ByteArray} (h:kd=.empty):(kd.toList == [99,111,110,115,116,97,110,116])=false∧(kd.toList == [111,112,101,114,97,116,111,114])=false∧(kd.toList == [99,111,110,100,105,116,105,111,110])=false:=by
 rw[h,ByteArray.toList_eq]
 decide
theorem bel4 {w0 w:World} {B b:Nat} {u0 u1 u2 u3:Value} (h:Below B w0 w) (hb:B≤b):Below B w0 ((((w.setCell ⟨b,0,none⟩ u0).setCell ⟨b,1,none⟩ u1).setCell ⟨b,2,none⟩ u2).setCell ⟨b,3,none⟩ u3) :=
 (((h.setCell hb _).setCell hb _).setCell hb _).setCell hb _
theorem if_row {W:World} {p:Nat→Bool} {x y z:Ex} {xa ya za:Option Addr} {xc yc zc g h:Nat}
  (hg:W.heap[g]? = some (.cells #[.int .i64 4,.int .i64 0,.string ⟨#[]⟩,.slice (some ⟨h,0,none⟩) 1 1,.int .i64 y.op,.int .i64 y.n,.string y.name,.slice ya y.args.length yc,.int .i64 z.op,.int .i64 z.n,.string z.name,.slice za z.args.length zc] 72 (0,0)))
  (hh:W.heap[h]? = some (.cells #[.int .i64 x.op,.int .i64 x.n,.string x.name,.slice xa x.args.length xc] 72 (0,0))) (pg:p g=false) (ph:p h=false)
  (Hx:ExIn (World.hide W p) x xa xc) (Hy:ExIn (World.hide W p) y ya yc) (Hz:ExIn (World.hide W p) z za zc):ExsIn (World.hide W p) [notE x,y,z] (some ⟨g,0,none⟩) 3:=by
 have C:=fun o v (h:W.cell? ⟨g,o,none⟩=some v)=>cell_hide.2 ⟨pg,h⟩
 have D:=fun o v (hv:W.cell? ⟨h,o,none⟩=some v)=>cell_hide.2 ⟨ph,hv⟩
 have HN:ExIn (World.hide W p) (notE x) (some ⟨h,0,none⟩) 1:=by
  refine⟨by show (0:Nat)≤_;omega,by show 1≤1;omega,by show 1≤_;omega,Or.inr ⟨h,0,rfl,fun i hi=>?_⟩⟩
  obtain rfl:i=0:=by have:i < 1:=hi;omega
  obtain⟨e0,e1,e2,e3,_⟩:=cell4 hh
  exact⟨x,rfl,(ExAt_iff _ _ _ _).2 ⟨xa,xc,D _ _ e0,D _ _ e1,D _ _ e2,D _ _ e3,Hx⟩⟩
 refine⟨by show 3≤3;omega,by show 3≤_;omega,Or.inr ⟨g,0,rfl,fun i hi=>?_⟩⟩
 have hi:i < 3:=hi
 have hc:=cell_of_blk hg
 obtain rfl | rfl | rfl:i=0∨i=1∨i=2:=by omega
 ·exact⟨notE x,rfl,(ExAt_iff _ _ _ _).2 ⟨some ⟨h,0,none⟩,1,C _ _ (hc 0),C _ _ (hc 1),C _ _ (hc 2),C _ _ (hc 3),HN⟩⟩
 ·exact⟨y,rfl,(ExAt_iff _ _ _ _).2 ⟨ya,yc,C _ _ (hc 4),C _ _ (hc 5),C _ _ (hc 6),C _ _ (hc 7),Hy⟩⟩
 ·exact⟨z,rfl,(ExAt_iff _ _ _ _).2 ⟨za,zc,C _ _ (hc 8),C _ _ (hc 9),C _ _ (hc 10),C _ _ (hc 11),Hz⟩⟩
set_option maxHeartbeats 4000000 in
set_option maxRecDepth 100000 in
theorem rchanged_one (p:Nat→Bool) (op n:Int) (s:ByteArray) (args:List Ex) (ea:Option Addr) (ec:Nat) (w:World) (hX:ExIn (World.hide w p) (.mk 1 n s args) ea ec) (h0:0≤n) (h1:n≤65535) :
  Calls Tryz.prog 171 #[.agg #[.int .i64 1,.int .i64 n,.string s,.slice ea args.length ec]] w (RChgPost p w (.mk 1 n s args)):=by
 have HP:=rchg_same hX 1 ((n+1) % 65536) rfl
 have HK:=Lib.hid (fun W=>kind_any 1 n s args.length ea ec W)
 obtain⟨d1,d2,d3⟩:=kd_const (kd:=kindS 1) rfl
 generalize kindS 1=kd at HK d1 d2 d3
 generalize RChgPost p w (.mk 1 n s args)=Po at HP⊢
 clear hX
 go_enter Tryz.func171, Tryz.ntmps171
 go_wp2_with fail
 generalize hW2:(w.alloc (.cells #[.int .i64 1,.int .i64 n,.string s,.slice ea args.length ec] 72)).alloc (.cells #[.int .i64 0,.int .i64 0,.string ⟨#[]⟩,.slice none 0 0] 72)=W2
 have hz2:w.heap.size+2≤W2.heap.size:=by rw[← hW2];simp
 have HB2:Hid (Below w.heap.size w W2):=by show Below _ _ _;rw[← hW2];exact belr
 have HX2:Hid (W2.heap[w.heap.size]? = some (.cells #[.int .i64 1,.int .i64 n,.string s,.slice ea args.length ec] 72 (0,0))):=by
  show _=_;rw[← hW2]
  exact hx_old (hx_new rfl)
 have HR2:Hid (W2.heap[w.heap.size+1]? = some (.cells #[.int .i64 0,.int .i64 0,.string ⟨#[]⟩,.slice none 0 0] 72 (0,0))):=by
  show _=_;rw[← hW2]
  exact hx_new (by simp)
 clear hW2
 refine(HK.out W2).mono ?_
 rintro r w3 ⟨rfl,hb3⟩
 have HB3:Hid (Below w.heap.size w w3):=HB2.out.trans (hb3.mono (by omega))
 have HX3:=Lib.hid (hx_below hb3 HX2.out)
 have HR3:=Lib.hid (hx_below hb3 HR2.out)
 clear hb3
 obtain⟨a0,a1,a2,a3,af⟩:=cell4 HX3.out
 obtain⟨c0,c1,c2,c3,cf⟩:=cell4 HR3.out
 go_wp2_with (go_at_call 170;(with_reducible refine(HEx.out _).mono ?_);rintro e w' ⟨rfl,rfl⟩)
 exact bodyPost_ret (v:=.agg #[.int .i64 1,.int .i64 ((n+1) % 65536),.string s,.slice ea args.length ec]) (rchg_res _ _ (w.heap.size+1) _ _ _ _ (set4M (by first | exact HR3.out | exact hx_set HR3.out (by omega))) rfl) rfl (HP.out _ (bel4 (by first | exact HB3.out | exact HB3.out.setCell (Nat.le_refl _) _) (Nat.le_succ _)))
set_option maxHeartbeats 4000000 in
set_option maxRecDepth 100000 in
theorem rchanged_op (p:Nat→Bool) (op n:Int) (s:ByteArray) (args:List Ex) (ea:Option Addr) (ec:Nat) (w:World) (hX:ExIn (World.hide w p) (.mk op n s args) ea ec) (h1:¬ op=1) (h2:¬ op=22) (h3:exchS op≠0) :
  Calls Tryz.prog 171 #[.agg #[.int .i64 op,.int .i64 n,.string s,.slice ea args.length ec]] w (RChgPost p w (.mk op n s args)):=by
 have HP:=rchg_same hX (exchS op) n (by rw[chgS_mk,if_neg h1,if_neg h2,if_pos h3])
 have HK:=Lib.hid (fun W=>kind_any op n s args.length ea ec W)
 obtain⟨d1,d2,d3⟩:=kd_oper (kd:=kindS op) (by unfold kindS;rw[if_neg h1,if_neg h2,if_pos h3])
 generalize kindS op=kd at HK d1 d2 d3
 generalize RChgPost p w (.mk op n s args)=Po at HP⊢
 clear hX
 have HEx:=Lib.hid (rexch_any op);generalize exchS op=xo at HP HEx h3
 go_enter Tryz.func171, Tryz.ntmps171
 go_wp2_with fail
 generalize hW2:(w.alloc (.cells #[.int .i64 op,.int .i64 n,.string s,.slice ea args.length ec] 72)).alloc (.cells #[.int .i64 0,.int .i64 0,.string ⟨#[]⟩,.slice none 0 0] 72)=W2
 have hz2:w.heap.size+2≤W2.heap.size:=by rw[← hW2];simp
 have HB2:Hid (Below w.heap.size w W2):=by show Below _ _ _;rw[← hW2];exact belr
 have HX2:Hid (W2.heap[w.heap.size]? = some (.cells #[.int .i64 op,.int .i64 n,.string s,.slice ea args.length ec] 72 (0,0))):=by
  show _=_;rw[← hW2]
  exact hx_old (hx_new rfl)
 have HR2:Hid (W2.heap[w.heap.size+1]? = some (.cells #[.int .i64 0,.int .i64 0,.string ⟨#[]⟩,.slice none 0 0] 72 (0,0))):=by
  show _=_;rw[← hW2]
  exact hx_new (by simp)
 clear hW2
 refine(HK.out W2).mono ?_
 rintro r w3 ⟨rfl,hb3⟩
 have HB3:Hid (Below w.heap.size w w3):=HB2.out.trans (hb3.mono (by omega))
 have HX3:=Lib.hid (hx_below hb3 HX2.out)
 have HR3:=Lib.hid (hx_below hb3 HR2.out)
 clear hb3
 obtain⟨a0,a1,a2,a3,af⟩:=cell4 HX3.out
 obtain⟨c0,c1,c2,c3,cf⟩:=cell4 HR3.out
 go_wp2_with (go_at_call 170;(with_reducible refine(HEx.out _).mono ?_);rintro e w' ⟨rfl,rfl⟩)
 exact bodyPost_ret (v:=.agg #[.int .i64 xo,.int .i64 n,.string s,.slice ea args.length ec]) (rchg_res _ _ (w.heap.size+1) _ _ _ _ (set4M (by first | exact HR3.out | exact hx_set HR3.out (by omega))) rfl) rfl (HP.out _ (bel4 (by first | exact HB3.out | exact HB3.out.setCell (Nat.le_refl _) _) (Nat.le_succ _)))
set_option maxHeartbeats 4000000 in
set_option maxRecDepth 100000 in
theorem rchanged_no (p:Nat→Bool) (op n:Int) (s:ByteArray) (args:List Ex) (ea:Option Addr) (ec:Nat) (w:World) (hX:ExIn (World.hide w p) (.mk op n s args) ea ec) (h1:¬ op=1) (h2:¬ op=22) (h3:exchS op=0) :
  Calls Tryz.prog 171 #[.agg #[.int .i64 op,.int .i64 n,.string s,.slice ea args.length ec]] w (RChgPost p w (.mk op n s args)):=by
 have HP:=rchg_same hX op n (by rw[chgS_mk,if_neg h1,if_neg h2,if_neg (by simpa using h3)])
 have HK:=Lib.hid (fun W=>kind_any op n s args.length ea ec W)
 obtain⟨d1,d2,d3⟩:=kd_none (kd:=kindS op) (by unfold kindS;rw[if_neg h1,if_neg h2,if_neg (by simpa using h3)])
 generalize kindS op=kd at HK d1 d2 d3
 generalize RChgPost p w (.mk op n s args)=Po at HP⊢
 clear hX
 go_enter Tryz.func171, Tryz.ntmps171
 go_wp2_with fail
 generalize hW2:(w.alloc (.cells #[.int .i64 op,.int .i64 n,.string s,.slice ea args.length ec] 72)).alloc (.cells #[.int .i64 0,.int .i64 0,.string ⟨#[]⟩,.slice none 0 0] 72)=W2
 have hz2:w.heap.size+2≤W2.heap.size:=by rw[← hW2];simp
 have HB2:Hid (Below w.heap.size w W2):=by show Below _ _ _;rw[← hW2];exact belr
 have HX2:Hid (W2.heap[w.heap.size]? = some (.cells #[.int .i64 op,.int .i64 n,.string s,.slice ea args.length ec] 72 (0,0))):=by
  show _=_;rw[← hW2]
  exact hx_old (hx_new rfl)
 have HR2:Hid (W2.heap[w.heap.size+1]? = some (.cells #[.int .i64 0,.int .i64 0,.string ⟨#[]⟩,.slice none 0 0] 72 (0,0))):=by
  show _=_;rw[← hW2]
  exact hx_new (by simp)
 clear hW2
 refine(HK.out W2).mono ?_
 rintro r w3 ⟨rfl,hb3⟩
 have HB3:Hid (Below w.heap.size w w3):=HB2.out.trans (hb3.mono (by omega))
 have HX3:=Lib.hid (hx_below hb3 HX2.out)
 have HR3:=Lib.hid (hx_below hb3 HR2.out)
 clear hb3
 obtain⟨a0,a1,a2,a3,af⟩:=cell4 HX3.out
 obtain⟨c0,c1,c2,c3,cf⟩:=cell4 HR3.out
 go_wp2_with (go_at_call 170;(with_reducible refine(HEx.out _).mono ?_);rintro e w' ⟨rfl,rfl⟩)
 exact bodyPost_ret (v:=.agg #[.int .i64 op,.int .i64 n,.string s,.slice ea args.length ec]) (rchg_res _ _ (w.heap.size+1) _ _ _ _ (set4M (by first | exact HR3.out | exact hx_set HR3.out (by omega))) rfl) rfl (HP.out _ (bel4 (by first | exact HB3.out | exact HB3.out.setCell (Nat.le_refl _) _) (Nat.le_succ _)))
set_option maxHeartbeats 4000000 in
set_option maxRecDepth 100000 in
theorem rchanged_if (p:Nat→Bool) (n:Int) (s:ByteArray) (x y z:Ex) (ea:Option Addr) (ec:Nat) (w:World) (hp:∀ k,p k=true→k < w.heap.size) (hX:ExIn (World.hide w p) (.mk 22 n s [x,y,z]) ea ec):Calls Tryz.prog 171 #[.agg #[.int .i64 22,.int .i64 n,.string s,.slice ea 3 ec]] w (RChgPost p w (.mk 22 n s [x,y,z])):=by
 have hE:=hX.2
 have hsz:=hX.1
 simp only[Ex.args_mk] at hE
 have HE:=Lib.hid hE
 have hcap:3≤ec:=hE.1
 obtain⟨b,off,rfl⟩:∃ b off,ea=some ⟨b,off,none⟩:=(SliceIn.addr hE).resolve_left (by simp)
 clear hX hE
 have HP:Hid (∀ a c W,ExsIn (World.hide W p) [notE x,y,z] a c→Below w.heap.size w W→RChgPost p w (.mk 22 n s [x,y,z]) (.returned (.agg #[.int .i64 22,.int .i64 n,.string s,.slice a 3 c])) W):=fun a c W h1 h2=>⟨⟨a,c,rfl,hsz,h1⟩,h2⟩
 have HK:=Lib.hid (fun W=>kind_any 22 n s 3 (some ⟨b,off,none⟩) ec W)
 obtain⟨d1,d2,d3⟩:=kd_cond (kd:=kindS 22) rfl
 generalize kindS 22=kd at HK d1 d2 d3
 generalize RChgPost p w (.mk 22 n s [x,y,z])=Po at HP⊢
 clear hsz
 have hci:(3:Int)≤(ec:Int):=by omega
 go_enter Tryz.func171, Tryz.ntmps171
 go_wp2_with fail
 generalize hW2:(w.alloc (.cells #[.int .i64 22,.int .i64 n,.string s,.slice (some ⟨b,off,none⟩) 3 ec] 72)).alloc (.cells #[.int .i64 0,.int .i64 0,.string ⟨#[]⟩,.slice none 0 0] 72)=W2
 have hz2:w.heap.size+2≤W2.heap.size:=by rw[← hW2];simp
 have HB2:Hid (Below w.heap.size w W2):=by show Below _ _ _;rw[← hW2];exact belr
 have HX2:Hid (W2.heap[w.heap.size]? = some (.cells #[.int .i64 22,.int .i64 n,.string s,.slice (some ⟨b,off,none⟩) 3 ec] 72 (0,0))):=by
  show _=_;rw[← hW2]
  exact hx_old (hx_new rfl)
 have HR2:Hid (W2.heap[w.heap.size+1]? = some (.cells #[.int .i64 0,.int .i64 0,.string ⟨#[]⟩,.slice none 0 0] 72 (0,0))):=by
  show _=_;rw[← hW2]
  exact hx_new (by simp)
 clear hW2
 refine(HK.out W2).mono ?_
 rintro r w3 ⟨rfl,hb3⟩
 have hz3:=hb3.size
 have HB3:Hid (Below w.heap.size w w3):=HB2.out.trans (hb3.mono (by omega))
 have HX3:=Lib.hid (hx_below hb3 HX2.out)
 have HR3:=Lib.hid (hx_below hb3 HR2.out)
 clear hb3
 obtain⟨xa,xc,x0,x1,x2,x3,hx⟩:=HE.out.get rfl (i:=0) (by show 0 < 3;omega)
 obtain⟨ya,yc,y0,y1,y2,y3,hy⟩:=HE.out.get rfl (i:=1) (by show 1 < 3;omega)
 obtain⟨za,zc,z0,z1,z2,z3,hz⟩:=HE.out.get rfl (i:=2) (by show 2 < 3;omega)
 have x0:=keeps_of_below HB3.out _ _ (hide_cell _ _ x0)
 have x1:=keeps_of_below HB3.out _ _ (hide_cell _ _ x1)
 have x2:=keeps_of_below HB3.out _ _ (hide_cell _ _ x2)
 have x3:=keeps_of_below HB3.out _ _ (hide_cell _ _ x3)
 have y0:=keeps_of_below HB3.out _ _ (hide_cell _ _ y0)
 have y1:=keeps_of_below HB3.out _ _ (hide_cell _ _ y1)
 have y2:=keeps_of_below HB3.out _ _ (hide_cell _ _ y2)
 have y3:=keeps_of_below HB3.out _ _ (hide_cell _ _ y3)
 have z0:=keeps_of_below HB3.out _ _ (hide_cell _ _ z0)
 have z1:=keeps_of_below HB3.out _ _ (hide_cell _ _ z1)
 have z2:=keeps_of_below HB3.out _ _ (hide_cell _ _ z2)
 have z3:=keeps_of_below HB3.out _ _ (hide_cell _ _ z3)
 simp at x0 x1 x2 x3 y0 y1 y2 y3 z0 z1 z2 z3
 have Hx:=Lib.hid hx
 have Hy:=Lib.hid hy
 have Hz:=Lib.hid hz
 simp only[List.getElem_cons_zero,List.getElem_cons_succ] at Hx Hy Hz
 obtain⟨a0,a1,a2,a3,af⟩:=cell4 HX3.out
 obtain⟨c0,c1,c2,c3,cf⟩:=cell4 HR3.out
 clear hx hy hz
 go_upto_region 8 with fail
 generalize hW5:(w3.alloc (.cells #[.int .i64 x.op,.int .i64 x.n,.string x.name,.slice xa x.args.length xc] 72)).alloc (.cells #[.int .i64 4,.int .i64 0,.string ⟨#[]⟩,.slice (some ⟨w3.heap.size,0,none⟩) 1 1] 72)=W5
 have hz5:w3.heap.size+2≤W5.heap.size:=by rw[← hW5];simp
 have HB35:Hid (Below w3.heap.size w3 W5):=by show Below _ _ _;rw[← hW5];exact belr
 have HN5:Hid (W5.heap[w3.heap.size]? = some (.cells #[.int .i64 x.op,.int .i64 x.n,.string x.name,.slice xa x.args.length xc] 72 (0,0))):=by
  show _=_;rw[← hW5]
  exact hx_old (hx_new rfl)
 have HO5:Hid (W5.heap[w3.heap.size+1]? = some (.cells #[.int .i64 4,.int .i64 0,.string ⟨#[]⟩,.slice (some ⟨w3.heap.size,0,none⟩) 1 1] 72 (0,0))):=by
  show _=_;rw[← hW5]
  exact hx_new (by simp)
 clear hW5 a0 a1 a2 a3 af c0 c1 c2 c3 cf x0 x1 x2 x3
 have kk:=keeps_of_below HB35.out
 have y0:=kk _ _ y0
 have y1:=kk _ _ y1
 have y2:=kk _ _ y2
 have y3:=kk _ _ y3
 have z0:=kk _ _ z0
 have z1:=kk _ _ z1
 have z2:=kk _ _ z2
 have z3:=kk _ _ z3
 have HX5:=Lib.hid (hx_below HB35.out HX3.out)
 have HR5:=Lib.hid (hx_below HB35.out HR3.out)
 obtain⟨a0,a1,a2,a3,af⟩:=cell4 HX5.out
 obtain⟨o0,o1,o2,o3,_⟩:=cell4 HO5.out
 have A3:=fun o=>keeps_of_below ((Below.refl W5.heap.size W5).alloc (Nat.le_refl _) o) _ _ a3
 have hlt:w.heap.size < W5.heap.size:=by omega
 have AF:=fun o=>(((Below.refl W5.heap.size W5).alloc (Nat.le_refl _) o).frozen (p:=⟨w.heap.size,3,none⟩) hlt).trans (af 3)
 clear kk
 go_region
 generalize hW9:((W5.setCell ⟨w.heap.size,3,none⟩ (.slice (some ⟨W5.heap.size,0,none⟩) 3 3)).alloc (.cells #[.int .i64 4,.int .i64 0,.string ⟨#[]⟩,.slice (some ⟨w3.heap.size,0,none⟩) 1 1,.int .i64 y.op,.int .i64 y.n,.string y.name,.slice ya y.args.length yc,.int .i64 z.op,.int .i64 z.n,.string z.name,.slice za z.args.length zc] 72)).drew=W9
 have HB9:Hid (Below w.heap.size w W9):=by
  show Below _ _ _;rw[← hW9]
  have hb:=HB3.out.trans (HB35.out.mono (by omega))
  exact belr
 have HX9:Hid (W9.heap[w.heap.size]? = some (.cells #[.int .i64 22,.int .i64 n,.string s,.slice (some ⟨W5.heap.size,0,none⟩) 3 3] 72 (0,0))):=by
  show _=_;rw[← hW9]
  refine hx_old ?_
  rw[heap_setCell_same _ _ _ _ _ _ HX5.out];rfl
 have HR9:Hid (W9.heap[w.heap.size+1]? = some (.cells #[.int .i64 0,.int .i64 0,.string ⟨#[]⟩,.slice none 0 0] 72 (0,0))):=by
  show _=_;rw[← hW9]
  exact hx_old (hx_set HR5.out (by omega))
 have HN9:Hid (W9.heap[w3.heap.size]? = some (.cells #[.int .i64 x.op,.int .i64 x.n,.string x.name,.slice xa x.args.length xc] 72 (0,0))):=by
  show _=_;rw[← hW9]
  exact hx_old (hx_set HN5.out (by omega))
 have HG9:Hid (W9.heap[W5.heap.size]? = some (.cells #[.int .i64 4,.int .i64 0,.string ⟨#[]⟩,.slice (some ⟨w3.heap.size,0,none⟩) 1 1,.int .i64 y.op,.int .i64 y.n,.string y.name,.slice ya y.args.length yc,.int .i64 z.op,.int .i64 z.n,.string z.name,.slice za z.args.length zc] 72 (0,0))):=by
  show _=_;rw[← hW9]
  exact hx_new (by simp)
 have pn:∀ k,w.heap.size≤k→p k=false:=fun k hk=>by
  cases h:p k with
  | false=>rfl
  | true=>have:=hp _ h;omega
 clear hW9 a0 a1 a2 a3 af o0 o1 o2 o3 y0 y1 y2 y3 z0 z1 z2 z3 A3 AF HX5 HR5 HN5 HO5
 obtain⟨a0,a1,a2,a3,af⟩:=cell4 HX9.out
 obtain⟨c0,c1,c2,c3,cf⟩:=cell4 HR9.out
 go_wp2_with fail
 refine bodyPost_ret (v:=.agg #[.int .i64 22,.int .i64 n,.string s,.slice (some ⟨W5.heap.size,0,none⟩) 3 3]) (rchg_res _ _ (w.heap.size+1) _ _ _ _ (set4M HR9.out) rfl) rfl (HP.out _ _ _ ?_ (bel4 HB9.out (Nat.le_succ _)))
 have hk:=(hk_below (p:=p) (q:=p) (bel4 (u0:=.int .i64 22) (u1:=.int .i64 n) (u2:=.string s) (u3:=.slice (some ⟨W5.heap.size,0,none⟩) 3 3) HB9.out (Nat.le_succ _)) fun _ _ h=>h).cell
 have n1:w3.heap.size≠w.heap.size+1:=by omega
 have n2:W5.heap.size≠w.heap.size+1:=by omega
 exact if_row (hx_set (hx_set (hx_set (hx_set HG9.out n2) n2) n2) n2) (hx_set (hx_set (hx_set (hx_set HN9.out n1) n1) n1) n1) (pn _ (by omega)) (pn _ (by omega)) (Hx.out.keep hk) (Hy.out.keep hk) (Hz.out.keep hk)
set_option maxRecDepth 100000 in
theorem rchanged_any (p:Nat→Bool) (e:Ex) (w:World) (hp:∀ k,p k=true→k < w.heap.size) (hok:OkE e) (ea:Option Addr) (ec:Nat) (hX:ExIn (World.hide w p) e ea ec) :
  Calls Tryz.prog 171 #[exVal e ea ec] w (RChgPost p w e):=by
 obtain⟨op,n,s,args⟩:=e
 obtain⟨o1,o2,o3,o4⟩:=node_ok hok.self
 show Calls _ _ #[.agg #[.int .i64 op,.int .i64 n,.string s,.slice ea args.length ec]] _ _
 by_cases h1:op=1
 ·subst h1
  exact rchanged_one p 1 n s args ea ec w hX (o3 rfl).1 (o3 rfl).2
 ·by_cases h2:op=22
  ·subst h2
   have hl:=(operands_ok o4 o1 o2).2.1 rfl
   obtain⟨x,y,z,rfl⟩:∃ x y z,args=[x,y,z]:=by
    rcases args with _ | ⟨x,_ | ⟨y,_ | ⟨z,_ | ⟨u,l⟩⟩⟩⟩<;>simp[Ex.args_mk] at hl
    exact⟨x,y,z,rfl⟩
   exact rchanged_if p n s x y z ea ec w hp hX
  ·by_cases h3:exchS op=0
   ·exact rchanged_no p op n s args ea ec w hX h1 h2 h3
   ·exact rchanged_op p op n s args ea ec w hX h1 h2 h3
end Go.Proofs.YtebneadheaefdaaGreatDoor
namespace Go.Proofs.YtebneadheaefdaaGreatDoor
open Go.RowKit
attribute [local go_sem ↓] Go.wp_at_zero Go.wp_at_succ
def besB (p:Nat→Bool) (a b:Nat):Nat→Bool:=fun k=>p k || (decide (a≤k) && decide (k < b))
theorem besB_true {p:Nat→Bool} {a b k:Nat}:besB p a b k=true↔p k=true∨(a≤k∧k < b):=by simp[besB]
theorem exval_mk' (op n:Int) (s:ByteArray) (args:List Ex) (a:Option Addr) (c:Nat):exVal (.mk op n s args) a c=.agg #[.int .i64 op,.int .i64 n,.string s,.slice a args.length c]:=rfl
def RWithPost (p:Nat→Bool) (w:World) (e:Ex) (k:Nat) (r:Ending) (w':World):Prop:=(∃ a c,r=.returned (exVal (withS e k) a c)∧ExIn (World.hide w' p) (withS e k) a c)∧Below w.heap.size w w'
theorem OwnE.set {w:World} {B b o:Nat} {q:Nat→Bool} {v u:Value} {L:List XA} (h:OwnE w B q v L) (hb:q b=true) (hv:v.ownBlock≠some b):OwnE (w.setCell ⟨b,o,none⟩ u) B q v L:=by
 refine⟨h.own.kept (gr_set (gr_refl w (some b))) ?_,fun x hx=>?_⟩
 ·cases e:v.ownBlock with
  | none=>exact Or.inl rfl
  | some k=>exact Or.inr (fun e2=>hv (e.trans e2))
 ·have:=h.mem x hx
  unfold exBeside at this⊢
  rw[hide_hide] at this⊢
  exact this.keep (hk_store (by rw[hb,Bool.or_true])).cell
theorem rwith_res (W:World) (tm:Array Value) (b:Nat) (m0 m1 m2 m3:Value) (hW:W.heap[b]? = some (.cells #[m0,m1,m2,m3] 72 (0,0))) (h0:tm.getD 4 undef=.pointer (some ⟨b,0,none⟩)) :
  (results Tryz.f120 tm).run Tryz.prog W=.ok (.agg #[m0,m1,m2,m3]) W:=by
 have hr : Tryz.f120.results=#[.cell 4 72]:=rfl
 have c0:=cell_of_blk hW 0
 have c1:=cell_of_blk hW 1
 have c2:=cell_of_blk hW 2
 have c3:=cell_of_blk hW 3
 simp at c0 c1 c2 c3
 rw[results_cellC hr,h0]
 simp[asAddr]
 go_simp
set_option maxHeartbeats 16000000 in
set_option maxRecDepth 100000 in
theorem with_zero (e:Ex) (p:Nat→Bool) (ea:Option Addr) (ec:Nat) (w:World) (hp:∀ k,p k=true→k < w.heap.size) (hX:ExIn (World.hide w p) e ea ec) (hok:OkE e) :
  Calls Tryz.prog 120 #[exVal e ea ec,.int .i64 (0:Nat)] w (RWithPost p w e 0):=by
 have HQs:Hid (∀ k,p k=true→besB p w.heap.size (w.heap.size+2) k=true):=fun k h=>besB_true.2 (Or.inl h)
 have HQb:Hid (besB p w.heap.size (w.heap.size+2) (w.heap.size+1)=true):=besB_true.2 (Or.inr (by omega))
 have HCh:=Lib.hid (fun W (hW:Below w.heap.size w W) (hs:w.heap.size+2≤W.heap.size)=>rchanged_any (besB p w.heap.size (w.heap.size+2)) e W (fun k hk=>by
  rcases besB_true.1 hk with h | h
  ·have:=hp k h;omega
  ·omega) hok ea ec (hX.keep (hk_below hW fun k hk h=>by
   rcases besB_true.1 h with h | h
   ·exact h
   ·omega).cell))
 generalize besB p w.heap.size (w.heap.size+2)=q at HCh HQs HQb
 unfold RChgPost at HCh
 have HP:Hid (∀ a c W,ExIn (World.hide W p) (chgS e) a c→Below w.heap.size w W→RWithPost p w e 0 (.returned (exVal (chgS e) a c)) W):=fun a c W h1 h2=>by
  rw[← withS_zero e] at h1⊢
  exact⟨⟨a,c,rfl,h1⟩,h2⟩
 generalize RWithPost p w e 0=Po at HP⊢
 generalize chgS e=e2 at HP HCh
 clear hX hok
 obtain⟨op,n,s,args⟩:=e
 obtain⟨op2,n2,s2,args2⟩:=e2
 rw[exval_mk'] at HCh⊢
 simp only[exval_mk'] at HCh HP
 go_enter Tryz.func120, Tryz.ntmps120
 go_wp2_with fail
 generalize hW2:(w.alloc (.cells #[.int .i64 op,.int .i64 n,.string s,.slice ea args.length ec] 72)).alloc (.cells #[.int .i64 0,.int .i64 0,.string ⟨#[]⟩,.slice none 0 0] 72)=W2
 have hz2:w.heap.size+2≤W2.heap.size:=by rw[← hW2];simp
 have HB2:Hid (Below w.heap.size w W2):=by show Below _ _ _;rw[← hW2];exact belr
 have HR2:Hid (W2.heap[w.heap.size+1]? = some (.cells #[.int .i64 0,.int .i64 0,.string ⟨#[]⟩,.slice none 0 0] 72 (0,0))):=by
  show _=_;rw[← hW2]
  exact hx_new (by simp)
 clear hW2
 refine(HCh.out W2 HB2.out hz2).mono ?_
 rintro r w3 ⟨⟨a3,ca,rfl,hx3⟩,hb3⟩
 have HX3:=Lib.hid hx3
 have HB3:Hid (Below w.heap.size w w3):=HB2.out.trans (hb3.mono (by omega))
 have HR3:=Lib.hid (hx_below hb3 HR2.out)
 clear hx3 hb3
 obtain⟨c0,c1,c2,c3,cf⟩:=cell4 HR3.out
 go_wp2_with fail
 refine bodyPost_ret (v:=.agg #[.int .i64 op2,.int .i64 n2,.string s2,.slice a3 args2.length ca]) (rwith_res _ _ (w.heap.size+1) _ _ _ _ (set4M HR3.out) rfl) rfl (HP.out a3 ca _ ?_ (bel4 HB3.out (Nat.le_succ _)))
 exact HX3.out.keep ((hk_store4 HQb.out).trans (hk_mono fun k hk=>HQs.out k hk)).cell
set_option maxHeartbeats 16000000 in
set_option maxRecDepth 100000 in
theorem with_any (e:Ex):∀ (p:Nat→Bool) (at0:Nat) (ea:Option Addr) (ec:Nat) (w:World),(∀ k,p k=true→k < w.heap.size)→ExIn (World.hide w p) e ea ec→OkE e→e.nodes.length≤65536→at0≤65536 →
  Calls Tryz.prog 120 #[exVal e ea ec,.int .i64 at0] w (RWithPost p w e at0):=by
 induction e using Ex.ind with
 | h e ih =>
  intro p at0 ea ec w hp hX hok hnl hat
  obtain rfl | ⟨at1,rfl⟩:at0=0∨∃ m,at0=m+1:=by cases at0 with
   | zero=>exact Or.inl rfl
   | succ m=>exact Or.inr ⟨m,rfl⟩
  ·exact with_zero e p ea ec w hp hX hok
  obtain⟨op,n,s,args⟩:=e
  have HIH:Hid (∀ k (hk:k < args.length),∀ (p:Nat→Bool) (at0:Nat) (ea:Option Addr) (ec:Nat) (w:World),(∀ k,p k=true→k < w.heap.size)→ExIn (World.hide w p) (args[k]'hk) ea ec→(args[k]'hk).nodes.length≤65536→at0≤65536→Calls Tryz.prog 120 #[exVal (args[k]'hk) ea ec,.int .i64 at0] w fun r w'=>(∃ a c,r=.returned (exVal (withS (args[k]'hk) at0) a c)∧ExIn (World.hide w' p) (withS (args[k]'hk) at0) a c)∧Below w.heap.size w w') :=
   fun k hk p f a c W h1 h2 h3 h4=>ih _ (List.getElem_mem hk) p f a c W h1 h2 (hok.arg (List.getElem_mem hk)) h3 h4
  have HHp:=Lib.hid hp
  have hE:=hX.2
  have hsz:=hX.1
  have hlen:=hE.2.1
  have HEl:Hid (args.length=0∨∃ b off,ea=some ⟨b,off,none⟩):=hE.addr
  have HE:=Lib.hid hE
  have HSK:Hid (∀ k,sizeK args k < (Ex.mk op n s args).nodes.length):=fun k=>sizeK_le (.mk op n s args) k
  have HSS:Hid (∀ k (hk:k < args.length),sizeK args (k+1)=sizeK args k+(args[k]'hk).nodes.length):=fun k hk=>sizeK_succ args hk
  have HSz:Hid (∀ k (hk:k < args.length) a c W,ExIn W (args[k]'hk) a c→Calls Tryz.prog 82 #[exVal (args[k]'hk) a c] W fun e w'=>e=.returned (.int .i64 ((args[k]'hk).nodes.length:Nat))∧Below W.heap.size W w'):=fun k hk a c W h=>by
   have h1:=HSS.out k hk
   have h2:=HSK.out (k+1)
   generalize args[k]'hk=y at h h1
   obtain⟨o,m,t,l⟩:=y
   exact Size_any o m t l a c W h (by omega)
  have HT:Hid (∀ k (hk:k < args.length),(wL args (args.map withS) 1 (at1+1)).take (k+1)=(wL args (args.map withS) 1 (at1+1)).take k++[if 1+sizeK args k≤at1+1∧at1+1 < 1+sizeK args k+(args[k]'hk).nodes.length then withS (args[k]'hk) (at1+1 - (1+sizeK args k)) else args[k]'hk]):=fun k hk=>wL_take withS args 1 (at1+1) k hk
  have HTl:Hid ((wL args (args.map withS) 1 (at1+1)).length=args.length):=wL_len _ _ _ _
  have HP:Hid (∀ a c W,ExsIn (World.hide W p) (wL args (args.map withS) 1 (at1+1)) a c→Below w.heap.size w W→RWithPost p w (.mk op n s args) (at1+1) (.returned (.agg #[.int .i64 op,.int .i64 n,.string s,.slice a args.length c])) W):=fun a c W h1 h2=>by
   refine⟨⟨a,c,?_,?_⟩,h2⟩
   ·rw[withS_wL]
    show _=Ending.returned (.agg #[_,_,_,.slice a (wL args (args.map withS) 1 (at1+1)).length c])
    rw[HTl.out]
    rfl
   ·rw[withS_wL]
    exact⟨hsz,h1⟩
  clear hE ih hX hok hp
  generalize RWithPost p w (.mk op n s args) (at1+1)=Po at HP⊢
  generalize wL args (args.map withS) 1 (at1+1)=WL at HP HT HTl
  generalize (Ex.mk op n s args).nodes.length=nl at HSK hnl
  simp only[Ex.args_mk] at HE hlen
  rw[exval_mk']
  generalize hat0:at1+1=at0 at *
  have ha0:((at0:Int) == 0)=false:=by simp;omega
  go_enter Tryz.func120, Tryz.ntmps120
  go_wp2_with fail
  generalize hW2:((w.alloc (.cells #[.int .i64 op,.int .i64 n,.string s,.slice ea args.length ec] 72)).alloc (.cells #[.int .i64 0,.int .i64 0,.string ⟨#[]⟩,.slice none 0 0] 72)).alloc (.cells #[.int .i64 op,.int .i64 n,.string s,.slice none 0 0] 72)=W2
  have hz2:w.heap.size+3≤W2.heap.size:=by rw[← hW2];simp
  have hz2b:W2.heap.size≤w.heap.size+3:=by rw[← hW2];simp
  have HB2:Hid (Below w.heap.size w W2):=by show Below _ _ _;rw[← hW2];exact belr
  have HX2:Hid (W2.heap[w.heap.size]? = some (.cells #[.int .i64 op,.int .i64 n,.string s,.slice ea args.length ec] 72 (0,0))):=by
   show _=_;rw[← hW2]
   exact hx_old (hx_old (hx_new rfl))
  have HR2:Hid (W2.heap[w.heap.size+1]? = some (.cells #[.int .i64 0,.int .i64 0,.string ⟨#[]⟩,.slice none 0 0] 72 (0,0))):=by
   show _=_;rw[← hW2]
   exact hx_old (hx_new (by simp))
  have HC2:Hid (W2.heap[w.heap.size+1+1]? = some (.cells #[.int .i64 op,.int .i64 n,.string s,.slice none 0 0] 72 (0,0))):=by
   show _=_;rw[← hW2]
   exact hx_new (by simp)
  clear hW2
  have HQs:Hid (∀ k,p k=true→besB p w.heap.size (w.heap.size+3) k=true):=fun k h=>besB_true.2 (Or.inl h)
  have HQb:Hid (∀ k,w.heap.size≤k→k < w.heap.size+3→besB p w.heap.size (w.heap.size+3) k=true):=fun k h1 h2=>besB_true.2 (Or.inr ⟨h1,h2⟩)
  have HQo:Hid (∀ k,k < w.heap.size→besB p w.heap.size (w.heap.size+3) k=true→p k=true):=fun k hk h=>by
   rcases besB_true.1 h with h | h
   ·exact h
   ·omega
  have HQl:Hid (∀ k,besB p w.heap.size (w.heap.size+3) k=true→k < w.heap.size+3):=fun k h=>by
   rcases besB_true.1 h with h | h
   ·have:=HHp.out k h;omega
   ·exact h.2
  generalize besB p w.heap.size (w.heap.size+3)=q at HQs HQb HQo HQl
  go_loopw [7,6] (fun i nx wr=>∃ (k:Nat) (L:List XA) (v:Value),i=.int .i64 k∧k≤args.length∧nx=.int .i64 ((1+sizeK args k:Nat):Int)∧Hid (L.map (·.1)=WL.take k)∧Hid (OwnE wr W2.heap.size q v L)∧Hid (wr.heap[w.heap.size+1+1]? = some (.cells #[.int .i64 op,.int .i64 n,.string s,v] 72 (0,0)))∧Hid (wr.heap[w.heap.size]? = some (.cells #[.int .i64 op,.int .i64 n,.string s,.slice ea args.length ec] 72 (0,0)))∧Hid (wr.heap[w.heap.size+1]? = some (.cells #[.int .i64 0,.int .i64 0,.string ⟨#[]⟩,.slice none 0 0] 72 (0,0)))∧Hid (Below w.heap.size w wr)∧W2.heap.size≤wr.heap.size) (fun i _ _=>args.length - (intOf i).toNat)
  case atStart=>exact⟨0,[],.slice none 0 0,rfl,Nat.zero_le _,by rw[sizeK_zero];rfl,rfl,OwnR.nil _ _ _ _ _ _,HC2,HX2,HR2,HB2,Nat.le_refl _⟩
  case round =>
   obtain⟨k,L,v,rfl,hk,rfl,HL,HO,HC,HX,HR,HB,hzr⟩:=hrel
   have hLk:L.length=k:=by
    have h1:=congrArg List.length HL.out
    have h2:=HTl.out
    rw[List.length_map,List.length_take] at h1
    omega
   subst hLk
   obtain⟨va,vc,rfl,hvc,hvo,_⟩:=HO.out.slice (by omega)
   have HVo:=Lib.hid hvo
   clear hvo
   by_cases hlt:L.length < args.length
   ·obtain⟨bE,oE,hEa⟩:=HEl.out.resolve_left (by omega)
    have hEk:=HE.out.keep (hk_below (q:=fun j=>ownP (.slice va L.length vc) j || q j) HB.out fun j hj h=>by
     rw[Bool.or_eq_true,ownP_true] at h
     rcases h with h | h
     ·have:=(HVo.out j h).1;omega
     ·exact HQo.out j hj h).cell
    subst hEa
    obtain⟨xa,xc,g0,g1,g2,g3,hXk⟩:=hEk.get rfl hlt
    have g0:=hide_cell _ _ g0
    have g1:=hide_cell _ _ g1
    have g2:=hide_cell _ _ g2
    have g3:=hide_cell _ _ g3
    have HXk:=Lib.hid hXk
    have HTk:=Lib.hid (HT.out L.length hlt)
    have hS1:=HSS.out L.length hlt
    have HS1:=Lib.hid hS1
    have hS2:=HSK.out (L.length+1)
    have hS0:=HSK.out L.length
    have HSy:Hid (∀ W,Below wr.heap.size wr W→Calls Tryz.prog 82 #[exVal (args[L.length]'hlt) xa xc] W fun e w'=>e=.returned (.int .i64 ((args[L.length]'hlt).nodes.length:Nat))∧Below W.heap.size W w'):=fun W hW=>HSz.out L.length hlt xa xc W ((hXk.keep (hk_unhide _ _).cell).keep (keeps_of_below hW))
    have HCk:Hid (∀ (p:Nat→Bool) (at0:Nat) (W:World),(∀ k,p k=true→k < W.heap.size)→ExIn (World.hide W p) (args[L.length]'hlt) xa xc→at0≤65536→Calls Tryz.prog 120 #[exVal (args[L.length]'hlt) xa xc,.int .i64 at0] W fun r w'=>(∃ a c,r=.returned (exVal (withS (args[L.length]'hlt) at0) a c)∧ExIn (World.hide w' p) (withS (args[L.length]'hlt) at0) a c)∧Below W.heap.size W w'):=fun p at0 W h1 h2 h3=>HIH.out L.length hlt p at0 xa xc W h1 h2 (by omega) h3
    generalize (args[L.length]'hlt)=y at g0 g1 g2 g3 hXk HXk HTk hS1 HS1 HSy HCk
    simp only[exVal] at HSy HCk
    obtain⟨a0,a1,a2,a3,_⟩:=cell4 HX.out
    have hsz1:sizeK args L.length+y.nodes.length≤65536:=by omega
    have hj0:sizeK args L.length+1≤65536:=by omega
    clear hXk hS1 hS2 hS0
    go_wp2_with fail
    refine(HSy.out _ (Below.refl _ _)).mono ?_
    rintro r w1 ⟨rfl,hb1⟩
    have HB1:=Lib.hid hb1
    have hz1:=hb1.size
    have kk:=keeps_of_below hb1
    have g0:=kk _ _ g0
    have g1:=kk _ _ g1
    have g2:=kk _ _ g2
    have g3:=kk _ _ g3
    have HX1:=Lib.hid (hx_below hb1 HX.out)
    have HC1:=Lib.hid (hx_below hb1 HC.out)
    have HR1:=Lib.hid (hx_below hb1 HR.out)
    clear a0 a1 a2 a3 kk hb1
    obtain⟨a0,a1,a2,a3,_⟩:=cell4 HX1.out
    obtain⟨c0,c1,c2,c3,cf⟩:=cell4 HC1.out
    have C3:=fun o=>keeps_of_below ((Below.refl w1.heap.size w1).alloc (Nat.le_refl _) o) _ _ c3
    by_cases hin:1+sizeK args L.length≤at0∧at0 < 1+sizeK args L.length+y.nodes.length
    ·have hi1:1+(sizeK args L.length:Int)≤(at0:Int):=by omega
     have hi2:(at0:Int) < 1+(sizeK args L.length:Int)+(y.nodes.length:Int):=by omega
     have hd:decide ((at0:Int) < 1+(sizeK args L.length:Int)+(y.nodes.length:Int))=true:=decide_eq_true hi2
     have hj:1+(sizeK args L.length:Int)≤65536:=by omega
     rw[if_pos hin] at HTk
     have hsub:((at0 - (1+sizeK args L.length):Nat):Int)=(at0:Int) - (1+(sizeK args L.length:Int)):=by omega
     have HCi:=Lib.hid (fun p W h1 h2=>HCk.out p (at0 - (1+sizeK args L.length)) W h1 h2 (by omega))
     rw[hsub] at HCi
     generalize withS y (at0 - (1+sizeK args L.length))=z at HCi HTk
     go_wp2_with fail
     generalize hW4:w1.alloc (.cells #[.int .i64 y.op,.int .i64 y.n,.string y.name,.slice xa y.args.length xc] 72)=W4
     have hz4:w1.heap.size+1≤W4.heap.size:=by rw[← hW4];simp
     have hz4b:W4.heap.size≤w1.heap.size+1:=by rw[← hW4];simp
     have HB4:Hid (Below wr.heap.size wr W4):=by show Below _ _ _;rw[← hW4];exact HB1.out.alloc hz1 _
     have HY4:Hid (W4.heap[w1.heap.size]? = some (.cells #[.int .i64 y.op,.int .i64 y.n,.string y.name,.slice xa y.args.length xc] 72 (0,0))):=by
      show _=_;rw[← hW4]
      exact hx_new rfl
     have HC4:Hid (W4.heap[w.heap.size+1+1]? = some (.cells #[.int .i64 op,.int .i64 n,.string s,.slice va L.length vc] 72 (0,0))):=by
      show _=_;rw[← hW4]
      exact hx_old HC1.out
     have HX4:Hid (W4.heap[w.heap.size]? = some (.cells #[.int .i64 op,.int .i64 n,.string s,.slice (some ⟨bE,oE,none⟩) args.length ec] 72 (0,0))):=by
      show _=_;rw[← hW4]
      exact hx_old HX1.out
     have HR4:Hid (W4.heap[w.heap.size+1]? = some (.cells #[.int .i64 0,.int .i64 0,.string ⟨#[]⟩,.slice none 0 0] 72 (0,0))):=by
      show _=_;rw[← hW4]
      exact hx_old HR1.out
     clear hW4 a0 a1 a2 a3 c0 c1 c2 c3 cf C3 g0 g1 g2 g3
     have HS4:Hid (∀ j,(fun j=>ownP (.slice va L.length vc) j || q j) j=true→besB (fun j=>ownP (.slice va L.length vc) j || q j) w1.heap.size (w1.heap.size+1) j=true):=fun j h=>besB_true.2 (Or.inl h)
     have HT4:Hid (besB (fun j=>ownP (.slice va L.length vc) j || q j) w1.heap.size (w1.heap.size+1) w1.heap.size=true):=besB_true.2 (Or.inr (by omega))
     have hq4:∀ j,besB (fun j=>ownP (.slice va L.length vc) j || q j) w1.heap.size (w1.heap.size+1) j=true→j < W4.heap.size:=fun j h=>by
      rcases besB_true.1 h with h | h
      ·rw[Bool.or_eq_true,ownP_true] at h
       rcases h with h | h
       ·have:=(HVo.out j h).2;omega
       ·have:=HQl.out j h;omega
      ·omega
     have hx4:ExIn (World.hide W4 (besB (fun j=>ownP (.slice va L.length vc) j || q j) w1.heap.size (w1.heap.size+1))) y xa xc:=HXk.out.keep (hk_below HB4.out fun j hj h=>by
      rcases besB_true.1 h with h | h
      ·exact h
      ·omega).cell
     generalize besB (fun j=>ownP (.slice va L.length vc) j || q j) w1.heap.size (w1.heap.size+1)=q4 at HS4 HT4 hq4 hx4
     refine(HCi.out q4 W4 hq4 hx4).mono ?_
     rintro r w5 ⟨⟨za,zc,rfl,hx5⟩,hb5⟩
     have HX5:=Lib.hid hx5
     have hz5:=hb5.size
     have HB5:Hid (Below wr.heap.size wr w5):=HB4.out.trans (hb5.mono (by omega))
     have HY5:=Lib.hid (hx_below hb5 HY4.out)
     have HC5:=Lib.hid (hx_below hb5 HC4.out)
     have HE5:=Lib.hid (hx_below hb5 HX4.out)
     have HR5:=Lib.hid (hx_below hb5 HR4.out)
     clear hx5 hb5 hq4 hx4 HY4 HC4 HX4 HR4
     obtain⟨c0,c1,c2,c3,cf⟩:=cell4 HC5.out
     obtain⟨y0,y1,y2,y3,yf⟩:=cell4 HY5.out
     go_upto_region 13 with fail
     have HZ5:=Lib.hid (HX5.out.keep ((hk_store4 (W:=w5) (o0:=0) (o1:=1) (o2:=2) (o3:=3) (u0:=.int .i64 z.op) (u1:=.int .i64 z.n) (u2:=.string z.name) (u3:=.slice za z.args.length zc) HT4.out).trans (hk_mono (q:=(fun j=>ownP (.slice va L.length vc) j || q j)) fun j hj=>HS4.out j hj)).cell)
     have HY5':=Lib.hid (set4M (u0:=.int .i64 z.op) (u1:=.int .i64 z.n) (u2:=.string z.name) (u3:=.slice za z.args.length zc) HY5.out)
     generalize hW6:((((w5.setCell ⟨w1.heap.size,0,none⟩ (.int .i64 z.op)).setCell ⟨w1.heap.size,1,none⟩ (.int .i64 z.n)).setCell ⟨w1.heap.size,2,none⟩ (.string z.name)).setCell ⟨w1.heap.size,3,none⟩ (.slice za z.args.length zc))=W6
     have hz6:w1.heap.size+1≤W6.heap.size:=by rw[← hW6];simp;omega
     have HB6:Hid (Below wr.heap.size wr W6):=by show Below _ _ _;rw[← hW6];exact bel4 HB5.out hz1
     have n1:w.heap.size+1+1≠w1.heap.size:=by omega
     have n2:w.heap.size≠w1.heap.size:=by omega
     have n3:w.heap.size+1≠w1.heap.size:=by omega
     have HY6:Hid (W6.heap[w1.heap.size]? = some (.cells #[.int .i64 z.op,.int .i64 z.n,.string z.name,.slice za z.args.length zc] 72 (0,0))):=by
      show _=_;rw[← hW6]
      exact HY5'.out
     have HZ6:Hid (ExIn (World.hide W6 fun j=>ownP (.slice va L.length vc) j || q j) z za zc):=by
      show ExIn _ _ _ _;rw[← hW6]
      exact HZ5.out
     have HC6:Hid (W6.heap[w.heap.size+1+1]? = some (.cells #[.int .i64 op,.int .i64 n,.string s,.slice va L.length vc] 72 (0,0))):=by
      show _=_;rw[← hW6]
      exact hx_set (hx_set (hx_set (hx_set HC5.out n1) n1) n1) n1
     have HX6:Hid (W6.heap[w.heap.size]? = some (.cells #[.int .i64 op,.int .i64 n,.string s,.slice (some ⟨bE,oE,none⟩) args.length ec] 72 (0,0))):=by
      show _=_;rw[← hW6]
      exact hx_set (hx_set (hx_set (hx_set HE5.out n2) n2) n2) n2
     have HR6:Hid (W6.heap[w.heap.size+1]? = some (.cells #[.int .i64 0,.int .i64 0,.string ⟨#[]⟩,.slice none 0 0] 72 (0,0))):=by
      show _=_;rw[← hW6]
      exact hx_set (hx_set (hx_set (hx_set HR5.out n3) n3) n3) n3
     clear hW6 c0 c1 c2 c3 cf y0 y1 y2 y3 yf n1 n2 n3
     have HLz:Hid ((L++[(z,za,zc)]:List XA).map (·.1)=WL.take (L.length+1)):=by
      show _=_
      rw[List.map_append,HL.out,HTk.out]
      rfl
     obtain⟨c0,c1,c2,c3,cf⟩:=cell4 HC6.out
     obtain⟨y0,y1,y2,y3,_⟩:=cell4 HY6.out
     have HO6:=Lib.hid (HO.out.below (exBeside_keep _) HB6.out)
     have hzB:W2.heap.size≤W6.heap.size:=by omega
     go_wp2_with (at_builtin;go_must (refine own_appx elemE W6 (by rfl) (.tmp 50) (.tmp 52) (by rfl) W2.heap.size (.slice va L.length vc) L.length (L.flatMap exCells) (by rfl) HO6.out.own [.int .i64 z.op,.int .i64 z.n,.string z.name,.slice za z.args.length zc] 1 _ _ rfl (by simp[Value.oneCell']) (by rfl) (by rfl) (by omega) (by omega) (by omega) ?_))
     intro g cap w8 ho hg hat8
     clear y0 y1 y2 y3 c0 c1 c2 c3 cf
     have hno:∀ j,j < W2.heap.size→(Value.slice va L.length vc).ownBlock≠some j:=fun j hj e=>by have:=(HVo.out _ e).1;omega
     have hbn:Below W6.heap.size W6 (W6.alloc (.cells #[.int .i64 z.op,.int .i64 z.n,.string z.name,.slice za z.args.length zc] 72)):=(Below.refl _ W6).alloc (Nat.le_refl _) _
     have HC8:Hid (w8.heap[w.heap.size+1+1]? = some (.cells #[.int .i64 op,.int .i64 n,.string s,.slice va L.length vc] 72 (0,0))):=gr_blk hg (hx_old HC6.out) (hno _ (by omega))
     have HX8:Hid (w8.heap[w.heap.size]? = some (.cells #[.int .i64 op,.int .i64 n,.string s,.slice (some ⟨bE,oE,none⟩) args.length ec] 72 (0,0))):=gr_blk hg (hx_old HX6.out) (hno _ (by omega))
     have HR8:Hid (w8.heap[w.heap.size+1]? = some (.cells #[.int .i64 0,.int .i64 0,.string ⟨#[]⟩,.slice none 0 0] 72 (0,0))):=gr_blk hg (hx_old HR6.out) (hno _ (by omega))
     have HB8:Hid (Below w.heap.size w w8):=Below.grown ((HB.out.trans (HB6.out.mono (by omega))).alloc (by omega) _) hg (by rw[World.size_alloc];omega) (fun j hj=>by have:=(HVo.out j hj).1;omega)
     have hz8:W2.heap.size≤w8.heap.size:=by have:=hg.size;rw[World.size_alloc] at this;omega
     have hg0:w.heap.size+3≤g:=by
      rcases hat8 with h | h
      ·have:=(HVo.out _ h).1;omega
      ·omega
     have HO8:Hid (OwnE w8 W2.heap.size q (.slice (some ⟨g,0,none⟩) (L.length+1) cap) (L++[(z,za,zc)])):=by
      refine(HO6.out.below (exBeside_keep _) hbn).add (exBeside_keep _) (x:=(z,za,zc)) ?_ hg (hat8.imp id (fun h=>by rw[World.size_alloc];omega)) ho
      unfold exBeside
      rw[hide_hide]
      exact HZ6.out.keep (hk_below hbn fun _ _ h=>h).cell
     clear ho hg hat8 hbn
     obtain⟨c0,c1,c2,c3,cf⟩:=cell4 HC8.out
     go_wp2_with fail
     have n1:w.heap.size≠w.heap.size+1+1:=by omega
     have n2:w.heap.size+1≠w.heap.size+1+1:=by omega
     have HC9:Hid ((w8.setCell ⟨w.heap.size+1+1,3,none⟩ (.slice (some ⟨g,0,none⟩) (L.length+1) cap)).heap[w.heap.size+1+1]? = some (.cells #[.int .i64 op,.int .i64 n,.string s,.slice (some ⟨g,0,none⟩) (L.length+1) cap] 72 (0,0))):=by
      show _=_;rw[heap_setCell_same _ _ _ _ _ _ HC8.out];rfl
     have HO9:=Lib.hid (OwnE.set (o:=3) (u:=.slice (some ⟨g,0,none⟩) (L.length+1) cap) HO8.out (HQb.out (w.heap.size+1+1) (by omega) (by omega)) (fun e=>by
      have:g=w.heap.size+1+1:=Option.some.inj e
      omega))
     go_roundw
     case rel=>exact⟨L.length+1,L++[(z,za,zc)],.slice (some ⟨g,0,none⟩) (L.length+1) cap,by go_num,by omega,by rw[HS1.out];congr 1;push_cast;omega,HLz,HO9,HC9,hx_set HX8.out n1,hx_set HR8.out n2,HB8.out.setCell (by show w.heap.size≤w.heap.size+1+1;omega) _,by rw[World.size_setCell];exact hz8⟩
     case measure=>(simp[intOf];try omega)
    ·rw[if_neg hin] at HTk
     by_cases hi1:1+(sizeK args L.length:Int)≤(at0:Int)
     ·have hd:decide ((at0:Int) < 1+(sizeK args L.length:Int)+(y.nodes.length:Int))=false:=decide_eq_false (by omega)
      have hj:1+(sizeK args L.length:Int)≤65536:=by omega
      go_upto_region 13 with fail
      generalize hW6:w1.alloc (.cells #[.int .i64 y.op,.int .i64 y.n,.string y.name,.slice xa y.args.length xc] 72)=W6
      have hz6:w1.heap.size+1≤W6.heap.size:=by rw[← hW6];simp
      have HB6:Hid (Below wr.heap.size wr W6):=by show Below _ _ _;rw[← hW6];exact HB1.out.alloc hz1 _
      have HY6:Hid (W6.heap[w1.heap.size]? = some (.cells #[.int .i64 y.op,.int .i64 y.n,.string y.name,.slice xa y.args.length xc] 72 (0,0))):=by
       show _=_;rw[← hW6]
       exact hx_new rfl
      have HC6:Hid (W6.heap[w.heap.size+1+1]? = some (.cells #[.int .i64 op,.int .i64 n,.string s,.slice va L.length vc] 72 (0,0))):=by
       show _=_;rw[← hW6]
       exact hx_old HC1.out
      have HX6:Hid (W6.heap[w.heap.size]? = some (.cells #[.int .i64 op,.int .i64 n,.string s,.slice (some ⟨bE,oE,none⟩) args.length ec] 72 (0,0))):=by
       show _=_;rw[← hW6]
       exact hx_old HX1.out
      have HR6:Hid (W6.heap[w.heap.size+1]? = some (.cells #[.int .i64 0,.int .i64 0,.string ⟨#[]⟩,.slice none 0 0] 72 (0,0))):=by
       show _=_;rw[← hW6]
       exact hx_old HR1.out
      clear hW6 a0 a1 a2 a3 c0 c1 c2 c3 cf C3 g0 g1 g2 g3
      have HZ6:Hid (ExIn (World.hide W6 fun j=>ownP (.slice va L.length vc) j || q j) y xa xc):=HXk.out.keep (hk_below HB6.out fun _ _ h=>h).cell
      have HLz:Hid ((L++[(y,xa,xc)]:List XA).map (·.1)=WL.take (L.length+1)):=by
       show _=_
       rw[List.map_append,HL.out,HTk.out]
       rfl
      obtain⟨c0,c1,c2,c3,cf⟩:=cell4 HC6.out
      obtain⟨y0,y1,y2,y3,_⟩:=cell4 HY6.out
      have HO6:=Lib.hid (HO.out.below (exBeside_keep _) HB6.out)
      have hzB:W2.heap.size≤W6.heap.size:=by omega
      go_wp2_with (at_builtin;go_must (refine own_appx elemE W6 (by rfl) (.tmp 50) (.tmp 52) (by rfl) W2.heap.size (.slice va L.length vc) L.length (L.flatMap exCells) (by rfl) HO6.out.own [.int .i64 y.op,.int .i64 y.n,.string y.name,.slice xa y.args.length xc] 1 _ _ rfl (by simp[Value.oneCell']) (by rfl) (by rfl) (by omega) (by omega) (by omega) ?_))
      intro g cap w8 ho hg hat8
      clear y0 y1 y2 y3 c0 c1 c2 c3 cf
      have hno:∀ j,j < W2.heap.size→(Value.slice va L.length vc).ownBlock≠some j:=fun j hj e=>by have:=(HVo.out _ e).1;omega
      have hbn:Below W6.heap.size W6 (W6.alloc (.cells #[.int .i64 y.op,.int .i64 y.n,.string y.name,.slice xa y.args.length xc] 72)):=(Below.refl _ W6).alloc (Nat.le_refl _) _
      have HC8:Hid (w8.heap[w.heap.size+1+1]? = some (.cells #[.int .i64 op,.int .i64 n,.string s,.slice va L.length vc] 72 (0,0))):=gr_blk hg (hx_old HC6.out) (hno _ (by omega))
      have HX8:Hid (w8.heap[w.heap.size]? = some (.cells #[.int .i64 op,.int .i64 n,.string s,.slice (some ⟨bE,oE,none⟩) args.length ec] 72 (0,0))):=gr_blk hg (hx_old HX6.out) (hno _ (by omega))
      have HR8:Hid (w8.heap[w.heap.size+1]? = some (.cells #[.int .i64 0,.int .i64 0,.string ⟨#[]⟩,.slice none 0 0] 72 (0,0))):=gr_blk hg (hx_old HR6.out) (hno _ (by omega))
      have HB8:Hid (Below w.heap.size w w8):=Below.grown ((HB.out.trans (HB6.out.mono (by omega))).alloc (by omega) _) hg (by rw[World.size_alloc];omega) (fun j hj=>by have:=(HVo.out j hj).1;omega)
      have hz8:W2.heap.size≤w8.heap.size:=by have:=hg.size;rw[World.size_alloc] at this;omega
      have hg0:w.heap.size+3≤g:=by
       rcases hat8 with h | h
       ·have:=(HVo.out _ h).1;omega
       ·omega
      have HO8:Hid (OwnE w8 W2.heap.size q (.slice (some ⟨g,0,none⟩) (L.length+1) cap) (L++[(y,xa,xc)])):=by
       refine(HO6.out.below (exBeside_keep _) hbn).add (exBeside_keep _) (x:=(y,xa,xc)) ?_ hg (hat8.imp id (fun h=>by rw[World.size_alloc];omega)) ho
       unfold exBeside
       rw[hide_hide]
       exact HZ6.out.keep (hk_below hbn fun _ _ h=>h).cell
      clear ho hg hat8 hbn
      obtain⟨c0,c1,c2,c3,cf⟩:=cell4 HC8.out
      go_wp2_with fail
      have n1:w.heap.size≠w.heap.size+1+1:=by omega
      have n2:w.heap.size+1≠w.heap.size+1+1:=by omega
      have HC9:Hid ((w8.setCell ⟨w.heap.size+1+1,3,none⟩ (.slice (some ⟨g,0,none⟩) (L.length+1) cap)).heap[w.heap.size+1+1]? = some (.cells #[.int .i64 op,.int .i64 n,.string s,.slice (some ⟨g,0,none⟩) (L.length+1) cap] 72 (0,0))):=by
       show _=_;rw[heap_setCell_same _ _ _ _ _ _ HC8.out];rfl
      have HO9:=Lib.hid (OwnE.set (o:=3) (u:=.slice (some ⟨g,0,none⟩) (L.length+1) cap) HO8.out (HQb.out (w.heap.size+1+1) (by omega) (by omega)) (fun e=>by
       have:g=w.heap.size+1+1:=Option.some.inj e
       omega))
      go_roundw
      case rel=>exact⟨L.length+1,L++[(y,xa,xc)],.slice (some ⟨g,0,none⟩) (L.length+1) cap,by go_num,by omega,by rw[HS1.out];congr 1;push_cast;omega,HLz,HO9,HC9,hx_set HX8.out n1,hx_set HR8.out n2,HB8.out.setCell (by show w.heap.size≤w.heap.size+1+1;omega) _,by rw[World.size_setCell];exact hz8⟩
      case measure=>(simp[intOf];try omega)
     ·have hj:1+(sizeK args L.length:Int)≤65536:=by omega
      go_upto_region 13 with fail
      generalize hW6:w1.alloc (.cells #[.int .i64 y.op,.int .i64 y.n,.string y.name,.slice xa y.args.length xc] 72)=W6
      have hz6:w1.heap.size+1≤W6.heap.size:=by rw[← hW6];simp
      have HB6:Hid (Below wr.heap.size wr W6):=by show Below _ _ _;rw[← hW6];exact HB1.out.alloc hz1 _
      have HY6:Hid (W6.heap[w1.heap.size]? = some (.cells #[.int .i64 y.op,.int .i64 y.n,.string y.name,.slice xa y.args.length xc] 72 (0,0))):=by
       show _=_;rw[← hW6]
       exact hx_new rfl
      have HC6:Hid (W6.heap[w.heap.size+1+1]? = some (.cells #[.int .i64 op,.int .i64 n,.string s,.slice va L.length vc] 72 (0,0))):=by
       show _=_;rw[← hW6]
       exact hx_old HC1.out
      have HX6:Hid (W6.heap[w.heap.size]? = some (.cells #[.int .i64 op,.int .i64 n,.string s,.slice (some ⟨bE,oE,none⟩) args.length ec] 72 (0,0))):=by
       show _=_;rw[← hW6]
       exact hx_old HX1.out
      have HR6:Hid (W6.heap[w.heap.size+1]? = some (.cells #[.int .i64 0,.int .i64 0,.string ⟨#[]⟩,.slice none 0 0] 72 (0,0))):=by
       show _=_;rw[← hW6]
       exact hx_old HR1.out
      clear hW6 a0 a1 a2 a3 c0 c1 c2 c3 cf C3 g0 g1 g2 g3
      have HZ6:Hid (ExIn (World.hide W6 fun j=>ownP (.slice va L.length vc) j || q j) y xa xc):=HXk.out.keep (hk_below HB6.out fun _ _ h=>h).cell
      have HLz:Hid ((L++[(y,xa,xc)]:List XA).map (·.1)=WL.take (L.length+1)):=by
       show _=_
       rw[List.map_append,HL.out,HTk.out]
       rfl
      obtain⟨c0,c1,c2,c3,cf⟩:=cell4 HC6.out
      obtain⟨y0,y1,y2,y3,_⟩:=cell4 HY6.out
      have HO6:=Lib.hid (HO.out.below (exBeside_keep _) HB6.out)
      have hzB:W2.heap.size≤W6.heap.size:=by omega
      go_wp2_with (at_builtin;go_must (refine own_appx elemE W6 (by rfl) (.tmp 50) (.tmp 52) (by rfl) W2.heap.size (.slice va L.length vc) L.length (L.flatMap exCells) (by rfl) HO6.out.own [.int .i64 y.op,.int .i64 y.n,.string y.name,.slice xa y.args.length xc] 1 _ _ rfl (by simp[Value.oneCell']) (by rfl) (by rfl) (by omega) (by omega) (by omega) ?_))
      intro g cap w8 ho hg hat8
      clear y0 y1 y2 y3 c0 c1 c2 c3 cf
      have hno:∀ j,j < W2.heap.size→(Value.slice va L.length vc).ownBlock≠some j:=fun j hj e=>by have:=(HVo.out _ e).1;omega
      have hbn:Below W6.heap.size W6 (W6.alloc (.cells #[.int .i64 y.op,.int .i64 y.n,.string y.name,.slice xa y.args.length xc] 72)):=(Below.refl _ W6).alloc (Nat.le_refl _) _
      have HC8:Hid (w8.heap[w.heap.size+1+1]? = some (.cells #[.int .i64 op,.int .i64 n,.string s,.slice va L.length vc] 72 (0,0))):=gr_blk hg (hx_old HC6.out) (hno _ (by omega))
      have HX8:Hid (w8.heap[w.heap.size]? = some (.cells #[.int .i64 op,.int .i64 n,.string s,.slice (some ⟨bE,oE,none⟩) args.length ec] 72 (0,0))):=gr_blk hg (hx_old HX6.out) (hno _ (by omega))
      have HR8:Hid (w8.heap[w.heap.size+1]? = some (.cells #[.int .i64 0,.int .i64 0,.string ⟨#[]⟩,.slice none 0 0] 72 (0,0))):=gr_blk hg (hx_old HR6.out) (hno _ (by omega))
      have HB8:Hid (Below w.heap.size w w8):=Below.grown ((HB.out.trans (HB6.out.mono (by omega))).alloc (by omega) _) hg (by rw[World.size_alloc];omega) (fun j hj=>by have:=(HVo.out j hj).1;omega)
      have hz8:W2.heap.size≤w8.heap.size:=by have:=hg.size;rw[World.size_alloc] at this;omega
      have hg0:w.heap.size+3≤g:=by
       rcases hat8 with h | h
       ·have:=(HVo.out _ h).1;omega
       ·omega
      have HO8:Hid (OwnE w8 W2.heap.size q (.slice (some ⟨g,0,none⟩) (L.length+1) cap) (L++[(y,xa,xc)])):=by
       refine(HO6.out.below (exBeside_keep _) hbn).add (exBeside_keep _) (x:=(y,xa,xc)) ?_ hg (hat8.imp id (fun h=>by rw[World.size_alloc];omega)) ho
       unfold exBeside
       rw[hide_hide]
       exact HZ6.out.keep (hk_below hbn fun _ _ h=>h).cell
      clear ho hg hat8 hbn
      obtain⟨c0,c1,c2,c3,cf⟩:=cell4 HC8.out
      go_wp2_with fail
      have n1:w.heap.size≠w.heap.size+1+1:=by omega
      have n2:w.heap.size+1≠w.heap.size+1+1:=by omega
      have HC9:Hid ((w8.setCell ⟨w.heap.size+1+1,3,none⟩ (.slice (some ⟨g,0,none⟩) (L.length+1) cap)).heap[w.heap.size+1+1]? = some (.cells #[.int .i64 op,.int .i64 n,.string s,.slice (some ⟨g,0,none⟩) (L.length+1) cap] 72 (0,0))):=by
       show _=_;rw[heap_setCell_same _ _ _ _ _ _ HC8.out];rfl
      have HO9:=Lib.hid (OwnE.set (o:=3) (u:=.slice (some ⟨g,0,none⟩) (L.length+1) cap) HO8.out (HQb.out (w.heap.size+1+1) (by omega) (by omega)) (fun e=>by
       have:g=w.heap.size+1+1:=Option.some.inj e
       omega))
      go_roundw
      case rel=>exact⟨L.length+1,L++[(y,xa,xc)],.slice (some ⟨g,0,none⟩) (L.length+1) cap,by go_num,by omega,by rw[HS1.out];congr 1;push_cast;omega,HLz,HO9,HC9,hx_set HX8.out n1,hx_set HR8.out n2,HB8.out.setCell (by show w.heap.size≤w.heap.size+1+1;omega) _,by rw[World.size_setCell];exact hz8⟩
      case measure=>(simp[intOf];try omega)
   ·have hLn:L.length=args.length:=by omega
    obtain⟨va',vc',hvv,hes⟩:=HO.out.exs (p:=q) (by omega) (fun j hj=>by
     have:=(HVo.out j hj).1
     cases h9:q j with
     | false=>rfl
     | true=>have:=HQl.out j h9;omega)
    simp only[Value.slice.injEq] at hvv
    obtain⟨rfl,_,rfl⟩:=hvv
    have hWL:L.map (·.1)=WL:=by rw[HL.out,hLn,← HTl.out,List.take_length]
    rw[hWL] at hes
    have HES:=Lib.hid hes
    obtain⟨a0,a1,a2,a3,_⟩:=cell4 HX.out
    obtain⟨c0,c1,c2,c3,_⟩:=cell4 HC.out
    obtain⟨r0,r1,r2,r3,rf⟩:=cell4 HR.out
    clear hes hWL
    go_wp2_with fail
    refine bodyPost_ret (v:=.agg #[.int .i64 op,.int .i64 n,.string s,.slice va args.length vc]) (rwith_res _ _ (w.heap.size+1) _ _ _ _ (set4M HR.out) rfl) rfl (HP.out va vc _ ?_ (bel4 HB.out (Nat.le_succ _)))
    exact HES.out.keep ((hk_store4 (HQb.out _ (by omega) (by omega))).trans (hk_mono fun k hk=>HQs.out k hk)).cell
end Go.Proofs.YtebneadheaefdaaGreatDoor
