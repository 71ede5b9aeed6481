/- ref34.wired: a design with another expression at a wire. -/
import Derived.Test.YtebneadheaefdaaGreatDoorFI
import Derived.Test.YtebneadheaefdaaGreatDoorFC
set_option linter.unusedSimpArgs false
set_option linter.unusedVariables false
set_option linter.unnecessarySimpa false
namespace Go.Proofs.YtebneadheaefdaaGreatDoor
open Go.RowKit
attribute [local go_sem ↓] Go.wp_at_zero Go.wp_at_succ
abbrev wiP (W:World) (q:Nat→Bool) (l:List WireD) (i:Nat) (f:Nat→Option Value):Prop :=
 ∃ v ae ce,l[i]? = some v∧f 0=some (.string v.name)∧f 1=some (.int .i64 v.width)∧f 2=some (.int .i64 v.expr.op)∧f 3=some (.int .i64 v.expr.n)∧f 4=some (.string v.expr.name)∧f 5=some (.slice ae v.expr.args.length ce)∧ExIn (World.hide W q) v.expr ae ce
theorem wires_sameQ {w0 W:World} {l:List WireD} {a0:Option Addr} {c0 b off b' cap:Nat} {q:Nat→Bool} (h0:WiresIn w0 l a0 c0) (ha:a0=some ⟨b,off,none⟩) (hk:∀ a v,w0.cell? a=some v→(World.hide W q).cell? a=some v) (h:RowOf W b' 74 6 l.length cap (sameK w0 b off 6)) :
  RowOf W b' 74 6 l.length cap (wiP W q l):=by
 refine h.mono fun i f hi hf=>?_
 obtain⟨ae,ce,g1,g2,g3,g4,g5,g6,g7⟩:=h0.get ha hi
 exact⟨_,ae,ce,List.getElem?_eq_getElem hi,hf 0 _ (by omega) g1,hf 1 _ (by omega) g2,hf 2 _ (by omega) g3,hf 3 _ (by omega) g4,hf 4 _ (by omega) g5,hf 5 _ (by omega) g6,g7.keep hk⟩
theorem rowSetWi {W:World} {l:List WireD} {cap b i:Nat} {q:Nat→Bool} (hq:q b=true) (hr:RowOf W b 74 6 l.length cap (wiP W q l)) (hi:i < l.length) {e:Ex} {a:Option Addr} {c:Nat} (he:ExIn (World.hide W q) e a c) :
  RowOf ((((W.setCell ⟨b,i * 6+2,none⟩ (.int .i64 e.op)).setCell ⟨b,i * 6+3,none⟩ (.int .i64 e.n)).setCell ⟨b,i * 6+4,none⟩ (.string e.name)).setCell ⟨b,i * 6+5,none⟩ (.slice a e.args.length c)) b 74 6 l.length cap (wiP ((((W.setCell ⟨b,i * 6+2,none⟩ (.int .i64 e.op)).setCell ⟨b,i * 6+3,none⟩ (.int .i64 e.n)).setCell ⟨b,i * 6+4,none⟩ (.string e.name)).setCell ⟨b,i * 6+5,none⟩ (.slice a e.args.length c)) q (l.modify i fun w=>{ w with expr:=e })):=by
 have k:HK (World.hide W q) (World.hide ((((W.setCell ⟨b,i * 6+2,none⟩ (.int .i64 e.op)).setCell ⟨b,i * 6+3,none⟩ (.int .i64 e.n)).setCell ⟨b,i * 6+4,none⟩ (.string e.name)).setCell ⟨b,i * 6+5,none⟩ (.slice a e.args.length c)) q):=hk_store4 hq
 refine(hr.store4 (k:=2) hi (by omega) (.int .i64 e.op) (.int .i64 e.n) (.string e.name) (.slice a e.args.length c)).mono fun j f hj hf=>?_
 by_cases ej:j=i
 ·subst ej
  rw[if_pos rfl] at hf
  obtain⟨g,⟨v,ae,ce,g0,g1,g2,g3,g4,g5,g6,g7⟩,rfl⟩:=hf
  refine⟨{ v with expr:=e },a,c,?_,?_,?_,?_,?_,?_,?_,he.keep k.cell⟩
  ·rw[List.getElem?_modify_eq,g0]
   rfl
  ·simpa [updF] using g1
  ·simpa [updF] using g2
  ·simp[updF]
  ·simp[updF]
  ·simp[updF]
  ·simp[updF]
 ·rw[if_neg ej] at hf
  obtain⟨v,ae,ce,g0,g1,g2,g3,g4,g5,g6,g7⟩:=hf
  refine⟨v,ae,ce,?_,g1,g2,g3,g4,g5,g6,g7.keep k.cell⟩
  simp only[List.getElem?_modify,if_neg (Ne.symm ej),g0]
  rfl
theorem rowWi_in {W:World} {l:List WireD} {cap b:Nat} {p q:Nat→Bool} (hr:RowOf W b 74 6 l.length cap (wiP W q l)) (hp:p b=false) (hl:l.length≤1073741824)
  (hk:∀ a v,(World.hide W q).cell? a=some v→(World.hide W p).cell? a=some v):WiresIn (World.hide W p) l (some ⟨b,0,none⟩) cap:=by
 refine⟨hr.le,hl,Or.inr ⟨b,0,rfl,fun i hi=>?_⟩⟩
 obtain⟨f,⟨v,ae,ce,g0,g1,g2,g3,g4,g5,g6,g7⟩,hf⟩:=(hr.hid hp).get hi
 rw[Nat.zero_add]
 exact⟨v,g0,hf 0 _ g1,hf 1 _ g2,(ExAt_iff _ _ _ _).2 ⟨ae,ce,hf 2 _ g3,hf 3 _ g4,hf 4 _ g5,hf 5 _ g6,g7.keep hk⟩⟩
theorem hk_store5 {W:World} {p:Nat→Bool} {b o0 o1 o2 o3 o4:Nat} {u0 u1 u2 u3 u4:Value} (h:p b=true):HK (World.hide W p) (World.hide (((((W.setCell ⟨b,o0,none⟩ u0).setCell ⟨b,o1,none⟩ u1).setCell ⟨b,o2,none⟩ u2).setCell ⟨b,o3,none⟩ u3).setCell ⟨b,o4,none⟩ u4) p):=(hk_store4 h).trans (hk_store h)
theorem bel5w {w0 w:World} {B b o0 o1 o2 o3 o4:Nat} {u0 u1 u2 u3 u4:Value} (h:Below B w0 w) (hb:B≤b):Below B w0 (((((w.setCell ⟨b,o0,none⟩ u0).setCell ⟨b,o1,none⟩ u1).setCell ⟨b,o2,none⟩ u2).setCell ⟨b,o3,none⟩ u3).setCell ⟨b,o4,none⟩ u4) :=
 ((((h.setCell hb _).setCell hb _).setCell hb _).setCell hb _).setCell hb _
theorem rowWi5 {W:World} {q:Nat→Bool} {g b n cap o0 o1 o2 o3 o4:Nat} {u0 u1 u2 u3 u4:Value} {l:List WireD} (h:RowOf W g 74 6 n cap (wiP W q l)) (hne:g≠b) (hq:q b=true) :
  RowOf (((((W.setCell ⟨b,o0,none⟩ u0).setCell ⟨b,o1,none⟩ u1).setCell ⟨b,o2,none⟩ u2).setCell ⟨b,o3,none⟩ u3).setCell ⟨b,o4,none⟩ u4) g 74 6 n cap (wiP (((((W.setCell ⟨b,o0,none⟩ u0).setCell ⟨b,o1,none⟩ u1).setCell ⟨b,o2,none⟩ u2).setCell ⟨b,o3,none⟩ u3).setCell ⟨b,o4,none⟩ u4) q l) :=
 ((h.other4 hne).other1 hne).mono fun k f _ ⟨v,ae,ce,g0,g1,g2,g3,g4,g5,g6,g7⟩=>⟨v,ae,ce,g0,g1,g2,g3,g4,g5,g6,g7.keep (hk_store5 hq).cell⟩
theorem rwired_res (W:World) (tm:Array Value) (b:Nat) (m0 m1 m2 m3 m4:Value) (hW:W.heap[b]? = some (.cells #[m0,m1,m2,m3,m4] 27 (0,0))) (h0:tm.getD 6 undef=.pointer (some ⟨b,0,none⟩)) :
  (results Tryz.f119 tm).run Tryz.prog W=.ok (.agg #[m0,m1,m2,m3,m4]) W:=by
 have hr : Tryz.f119.results=#[.cell 6 27]:=rfl
 have c0:=cell_of_blk hW 0
 have c1:=cell_of_blk hW 1
 have c2:=cell_of_blk hW 2
 have c3:=cell_of_blk hW 3
 have c4:=cell_of_blk hW 4
 simp at c0 c1 c2 c3 c4
 rw[results_cellC hr,h0]
 simp[asAddr]
 go_simp
def RDesPost (p:Nat→Bool) (w:World) (d:DesD) (r:Ending) (w':World):Prop:=(∃ x,r=.returned (desVal d x)∧DesIn (World.hide w' p) d x)∧Below w.heap.size w w'
set_option maxHeartbeats 4000000 in
set_option maxRecDepth 100000 in
theorem wired_any (p:Nat→Bool) (d:DesD) (x:DesA) (i:Nat) (e:Ex) (ea:Option Addr) (ec:Nat) (w:World) (hp:∀ k,p k=true→k < w.heap.size) (hD:DesIn (World.hide w p) d x) (hi:i < d.wires.length) (hX:ExIn (World.hide w p) e ea ec) :
  Calls Tryz.prog 119 #[desVal d x,.int .i64 i,exVal e ea ec] w (RDesPost p w (d.setWire i e)):=by
 have HD:=Lib.hid hD
 have HX:=Lib.hid hX
 have hlen:=hD.wires.2.1
 obtain⟨b,off,xs,ha,h1,h2,h3⟩:=(wires_cells (hD.wires.keep (hk_unhide _ _).cell)).resolve_left (by omega)
 have Ha:=Lib.hid ha
 have HN:Hid (∀ j u,xs[j]? = some u→w.cell? ⟨b,off+j,none⟩=some u):=fun j u hu=>by
  have hj:j < d.wires.length * 6:=by rw[← h1];exact(List.getElem?_eq_some_iff.1 hu).1
  rw[← h3 j hj]
  exact hu
 have H12:=Lib.hid (⟨h1,h2,h3⟩:_∧_∧_)
 obtain⟨ht,inf,z,bytes,hinf,hz,hsz,hby,hzs,h0,hb⟩:=elemWi
 have HP:Hid (∀ x W,DesIn (World.hide W p) (d.setWire i e) x→Below w.heap.size w W→RDesPost p w (d.setWire i e) (.returned (.agg #[.string d.name,.slice x.ai d.inputs.length x.ci,.slice x.aw d.wires.length x.cw,.slice x.ar d.regs.length x.cr,.slice x.ao d.outputs.length x.co])) W):=fun x W q1 q2=>⟨⟨x,by rw[← set_wires d i e];rfl,q1⟩,q2⟩
 generalize RDesPost p w (d.setWire i e)=Po at HP⊢
 clear hD hX h1 h2 h3
 obtain⟨xai,xci,xaw,xcw,xar,xcr,xao,xco⟩:=x
 subst ha
 simp only[desVal,desVals,exVal]
 go_enter Tryz.func119, Tryz.ntmps119
 go_upto_region 1 with fail
 generalize hW3:((w.alloc (.cells #[.string d.name,.slice xai d.inputs.length xci,.slice (some ⟨b,off,none⟩) d.wires.length xcw,.slice xar d.regs.length xcr,.slice xao d.outputs.length xco] 27)).alloc (.cells #[.int .i64 e.op,.int .i64 e.n,.string e.name,.slice ea e.args.length ec] 72)).alloc (.cells #[.string ⟨#[]⟩,.slice none 0 0,.slice none 0 0,.slice none 0 0,.slice none 0 0] 27)=W3
 have hz3:w.heap.size+3≤W3.heap.size:=by rw[← hW3];simp
 have HB3:Hid (Below w.heap.size w W3):=by show Below _ _ _;rw[← hW3];exact belr
 have HD3:Hid (W3.heap[w.heap.size]? = some (.cells #[.string d.name,.slice xai d.inputs.length xci,.slice (some ⟨b,off,none⟩) d.wires.length xcw,.slice xar d.regs.length xcr,.slice xao d.outputs.length xco] 27 (0,0))):=by
  show _=_;rw[← hW3]
  exact hx_old (hx_old (hx_new rfl))
 have HE3:Hid (W3.heap[w.heap.size+1]? = some (.cells #[.int .i64 e.op,.int .i64 e.n,.string e.name,.slice ea e.args.length ec] 72 (0,0))):=by
  show _=_;rw[← hW3]
  exact hx_old (hx_new (by simp))
 have HR3:Hid (W3.heap[w.heap.size+1+1]? = some (.cells #[.string ⟨#[]⟩,.slice none 0 0,.slice none 0 0,.slice none 0 0,.slice none 0 0] 27 (0,0))):=by
  show _=_;rw[← hW3]
  exact hx_new (by simp)
 clear hW3
 obtain⟨d0,d1,d2,d3,d4,df⟩:=cell5 HD3.out
 have D2:=fun o=>keeps_of_below ((Below.refl W3.heap.size W3).alloc (Nat.le_refl _) o) _ _ d2
 have hn0:0 < d.wires.length:=by omega
 go_wp2_with (at_builtin;go_must (refine wpList_append_lies _ rfl (.tmp 7) (.tmp 9) 23 (by rfl) W3.heap.size 74 inf z 6 bytes ht hinf hz hsz hby hzs h0 _ 0 [] (by rfl) (World.ownsRow_made W3 #[] 0 (Nat.le_refl _) (Nat.zero_le _) rfl) ⟨b,off,none⟩ d.wires.length xcw xs (by rfl) H12.out.1 ?qc2 H12.out.2.1 hn0 ?qc4 ?qc5 ?qc6 _ rfl ?_))
 case qc2=>exact fun j u hj=>Lib.cell?_alloc_some _ (keeps_of_below HB3.out _ _ (HN.out j u hj))
 case qc4=>unfold maxLen;omega
 case qc5=>exact Nat.le_trans (Nat.mul_le_mul (show d.wires.length≤1073741824 by omega) hb) (by decide)
 intro g cap w5 ho hg hgat hglt
 try simp only[Nat.zero_add,List.nil_append] at ho
 clear d0 d1 d2 d3 d4 df D2
 have hno:∀ j,j < W3.heap.size→(Value.slice (some ⟨W3.heap.size,0,none⟩) 0 0).ownBlock≠some j:=fun j hj e=>by
  have:W3.heap.size=j:=Option.some.inj e
  omega
 have HD5:=Lib.hid (gr_blk hg (hx_old HD3.out) (hno _ (by omega)))
 have HE5:=Lib.hid (gr_blk hg (hx_old HE3.out) (hno _ (by omega)))
 have HR5:=Lib.hid (gr_blk hg (hx_old HR3.out) (hno _ (by omega)))
 have hg3:W3.heap.size≤g:=by
  rcases hgat with q | q
  ·have:W3.heap.size=g:=Option.some.inj q
   omega
  ·rw[q];simp
 have HB5:Hid (Below w.heap.size w w5):=Below.grown (HB3.out.alloc (by omega) _) hg (by rw[World.size_alloc];omega) (fun j hj=>by
  have:W3.heap.size=j:=Option.some.inj hj
  omega)
 have HQo:Hid (∀ k,k < w.heap.size→(fun k=>p k || decide (w.heap.size≤k)) k=true→p k=true):=fun k hk h=>by
  rw[Bool.or_eq_true,decide_eq_true_eq] at h
  rcases h with h | h
  ·exact h
  ·omega
 have HQn:Hid (∀ k,w.heap.size≤k→(fun k=>p k || decide (w.heap.size≤k)) k=true):=fun k hk=>by simp[hk]
 have HQs:Hid (∀ k,p k=true→(fun k=>p k || decide (w.heap.size≤k)) k=true):=fun k hk=>by simp[hk]
 generalize (fun k=>p k || decide (w.heap.size≤k))=q at HQo HQn HQs
 have hk5:HK (World.hide w p) (World.hide w5 q):=hk_below HB5.out fun k hk h=>HQo.out k hk h
 have HRow:Hid (RowOf w5 g 74 6 d.wires.length cap (wiP w5 q d.wires)):=by
  obtain⟨b2,cap2,he2,_,hr⟩:=rowOf_owns ho hn0
  simp only[Value.slice.injEq,Option.some.injEq,Addr.mk.injEq,and_true] at he2
  obtain⟨rfl,_,rfl⟩:=he2
  refine wires_sameQ HD.out.wires rfl hk5.cell (hr.mono fun k f hk hf j u hj hu=>?_)
  rw[hf j hj,H12.out.2.2 _ (by
   have:(k+1) * 6≤d.wires.length * 6:=Nat.mul_le_mul_right _ hk
   omega),← Nat.add_assoc]
  exact hide_cell _ _ hu
 have HX5:=Lib.hid (HX.out.keep hk5.cell)
 clear ho hg hgat hno hk5 HN H12 ht hinf hz hsz hby hzs h0 hb HD3 HE3 HR3
 obtain⟨d0,d1,d2,d3,d4,df⟩:=cell5 HD5.out
 obtain⟨e0,e1,e2,e3,_⟩:=cell4 HE5.out
 have rf:=fun o=>HRow.out.unfrozen o
 have hii:(i:Int) < (d.wires.length:Int):=by omega
 obtain⟨f,⟨v0,ae,ce,g0,g1,g2,g3,g4,g5,g6,_⟩,hf⟩:=HRow.out.get hi
 have r2:=hf 2 _ g3
 have r3:=hf 3 _ g4
 have r4:=hf 4 _ g5
 have r5:=hf 5 _ g6
 clear hf g0 g1 g2 g3 g4 g5 g6
 go_upto_region 3 with fail
 have kq:=HQn.out w.heap.size (Nat.le_refl _)
 have HRow6:Hid (RowOf (w5.setCell ⟨w.heap.size,2,none⟩ (.slice (some ⟨g,0,none⟩) d.wires.length cap)) g 74 6 d.wires.length cap (wiP (w5.setCell ⟨w.heap.size,2,none⟩ (.slice (some ⟨g,0,none⟩) d.wires.length cap)) q d.wires)) :=
  (HRow.out.other1 (by omega)).mono fun k f _ ⟨v,ae,ce,g0,g1,g2,g3,g4,g5,g6,g7⟩=>⟨v,ae,ce,g0,g1,g2,g3,g4,g5,g6,g7.keep (hk_store kq).cell⟩
 have HRow7:=Lib.hid (rowSetWi (HQn.out g (by omega)) HRow6.out hi (HX5.out.keep (hk_store kq).cell))
 generalize hW7:((((w5.setCell ⟨w.heap.size,2,none⟩ (.slice (some ⟨g,0,none⟩) d.wires.length cap)).setCell ⟨g,i * 6+2,none⟩ (.int .i64 e.op)).setCell ⟨g,i * 6+2+1,none⟩ (.int .i64 e.n)).setCell ⟨g,i * 6+2+2,none⟩ (.string e.name)).setCell ⟨g,i * 6+2+3,none⟩ (.slice ea e.args.length ec)=W7
 have HRow8:Hid (RowOf W7 g 74 6 d.wires.length cap (wiP W7 q (d.wires.modify i fun w=>{ w with expr:=e }))):=by show RowOf _ _ _ _ _ _ _;rw[← hW7];exact HRow7.out
 have hgw:w.heap.size≤g:=by omega
 have HB7:Hid (Below w.heap.size w W7):=by show Below _ _ _;rw[← hW7];exact((((HB5.out.setCell (Nat.le_refl _) _).setCell hgw _).setCell hgw _).setCell hgw _).setCell hgw _
 have n1:w.heap.size≠g:=by omega
 have n2:w.heap.size+1+1≠g:=by omega
 have n3:w.heap.size+1+1≠w.heap.size:=by omega
 have HD7:Hid (W7.heap[w.heap.size]? = some (.cells #[.string d.name,.slice xai d.inputs.length xci,.slice (some ⟨g,0,none⟩) d.wires.length cap,.slice xar d.regs.length xcr,.slice xao d.outputs.length xco] 27 (0,0))):=by
  show _=_;rw[← hW7]
  refine hx_set (hx_set (hx_set (hx_set ?_ n1) n1) n1) n1
  rw[heap_setCell_same _ _ _ _ _ _ HD5.out]
  rfl
 have HR7:Hid (W7.heap[w.heap.size+1+1]? = some (.cells #[.string ⟨#[]⟩,.slice none 0 0,.slice none 0 0,.slice none 0 0,.slice none 0 0] 27 (0,0))):=by
  show _=_;rw[← hW7]
  exact hx_set (hx_set (hx_set (hx_set (hx_set HR5.out n3) n2) n2) n2) n2
 clear hW7 HRow7 HRow6 HRow d0 d1 d2 d3 d4 df e0 e1 e2 e3 rf r2 r3 r4 r5 n1 n3
 obtain⟨d0,d1,d2,d3,d4,df⟩:=cell5 HD7.out
 obtain⟨r0,r1,r2,r3,r4,rf⟩:=cell5 HR7.out
 go_wp2_with fail
 refine bodyPost_ret (v:=.agg #[.string d.name,.slice xai d.inputs.length xci,.slice (some ⟨g,0,none⟩) d.wires.length cap,.slice xar d.regs.length xcr,.slice xao d.outputs.length xco]) (rwired_res _ _ (w.heap.size+1+1) _ _ _ _ _ (set5M HR7.out) rfl) rfl (HP.out ⟨xai,xci,some ⟨g,0,none⟩,cap,xar,xcr,xao,xco⟩ _ ?_ (bel5w HB7.out (by omega)))
 have hk:=(hk_below (p:=p) (q:=p) (bel5w (o0:=0) (o1:=1) (o2:=2) (o3:=3) (o4:=4) (u0:=.string d.name) (u1:=.slice xai d.inputs.length xci) (u2:=.slice (some ⟨g,0,none⟩) d.wires.length cap) (u3:=.slice xar d.regs.length xcr) (u4:=.slice xao d.outputs.length xco) HB7.out (b:=w.heap.size+1+1) (by omega)) fun _ _ h=>h).cell
 have pg:p g=false:=by
  cases h:p g with
  | false=>rfl
  | true=>have:=hp _ h;omega
 have hlm:(d.wires.modify i fun w=>{ w with expr:=e }).length=d.wires.length:=List.length_modify _ _ _
 have hr9:=HRow8.out
 rw[← hlm] at hr9
 exact⟨HD.out.ins.keep hk,rowWi_in (rowWi5 hr9 (Ne.symm n2) (HQn.out (w.heap.size+1+1) (by omega))) pg (Nat.le_trans (Nat.le_of_eq hlm) hlen) (hk_mono fun k h=>HQs.out k h).cell,HD.out.regs.keep hk,HD.out.outs.keep hk⟩
end Go.Proofs.YtebneadheaefdaaGreatDoor
namespace Go.Proofs.YtebneadheaefdaaGreatDoor
open Go.RowKit
attribute [local go_sem ↓] Go.wp_at_zero Go.wp_at_succ
abbrev reP (W:World) (q:Nat→Bool) (l:List RegD) (i:Nat) (f:Nat→Option Value):Prop :=
 ∃ v ae ce,l[i]? = some v∧f 0=some (.string v.name)∧f 1=some (.int .i64 v.width)∧f 2=some (.int .i64 v.init)∧f 3=some (.int .i64 v.next.op)∧f 4=some (.int .i64 v.next.n)∧f 5=some (.string v.next.name)∧f 6=some (.slice ae v.next.args.length ce)∧ExIn (World.hide W q) v.next ae ce
theorem regs_sameQ {w0 W:World} {l:List RegD} {a0:Option Addr} {c0 b off b' cap:Nat} {q:Nat→Bool} (h0:RegsIn w0 l a0 c0) (ha:a0=some ⟨b,off,none⟩) (hk:∀ a v,w0.cell? a=some v→(World.hide W q).cell? a=some v) (h:RowOf W b' 76 7 l.length cap (sameK w0 b off 7)) :
  RowOf W b' 76 7 l.length cap (reP W q l):=by
 refine h.mono fun i f hi hf=>?_
 obtain⟨ae,ce,g1,g2,g3,g4,g5,g6,g7,g8⟩:=h0.get ha hi
 exact⟨_,ae,ce,List.getElem?_eq_getElem hi,hf 0 _ (by omega) g1,hf 1 _ (by omega) g2,hf 2 _ (by omega) g3,hf 3 _ (by omega) g4,hf 4 _ (by omega) g5,hf 5 _ (by omega) g6,hf 6 _ (by omega) g7,g8.keep hk⟩
theorem rowSetRe {W:World} {l:List RegD} {cap b i:Nat} {q:Nat→Bool} (hq:q b=true) (hr:RowOf W b 76 7 l.length cap (reP W q l)) (hi:i < l.length) {r:RegD} {a:Option Addr} {c:Nat} (he:ExIn (World.hide W q) r.next a c) :
  RowOf (((((((W.setCell ⟨b,i * 7+0,none⟩ (.string r.name)).setCell ⟨b,i * 7+1,none⟩ (.int .i64 r.width)).setCell ⟨b,i * 7+2,none⟩ (.int .i64 r.init)).setCell ⟨b,i * 7+3,none⟩ (.int .i64 r.next.op)).setCell ⟨b,i * 7+4,none⟩ (.int .i64 r.next.n)).setCell ⟨b,i * 7+5,none⟩ (.string r.next.name)).setCell ⟨b,i * 7+6,none⟩ (.slice a r.next.args.length c)) b 76 7 l.length cap (reP (((((((W.setCell ⟨b,i * 7+0,none⟩ (.string r.name)).setCell ⟨b,i * 7+1,none⟩ (.int .i64 r.width)).setCell ⟨b,i * 7+2,none⟩ (.int .i64 r.init)).setCell ⟨b,i * 7+3,none⟩ (.int .i64 r.next.op)).setCell ⟨b,i * 7+4,none⟩ (.int .i64 r.next.n)).setCell ⟨b,i * 7+5,none⟩ (.string r.next.name)).setCell ⟨b,i * 7+6,none⟩ (.slice a r.next.args.length c)) q (l.set i r)):=by
 have k:HK (World.hide W q) (World.hide (((((((W.setCell ⟨b,i * 7+0,none⟩ (.string r.name)).setCell ⟨b,i * 7+1,none⟩ (.int .i64 r.width)).setCell ⟨b,i * 7+2,none⟩ (.int .i64 r.init)).setCell ⟨b,i * 7+3,none⟩ (.int .i64 r.next.op)).setCell ⟨b,i * 7+4,none⟩ (.int .i64 r.next.n)).setCell ⟨b,i * 7+5,none⟩ (.string r.next.name)).setCell ⟨b,i * 7+6,none⟩ (.slice a r.next.args.length c)) q):=(hk_store4 hq).trans ((hk_store hq).trans ((hk_store hq).trans (hk_store hq)))
 refine((((hr.store4 (k:=0) hi (by omega) (.string r.name) (.int .i64 r.width) (.int .i64 r.init) (.int .i64 r.next.op)).store (k:=4) hi (by omega) (.int .i64 r.next.n)).store (k:=5) hi (by omega) (.string r.next.name)).store (k:=6) hi (by omega) (.slice a r.next.args.length c)).mono fun j f hj hf=>?_
 by_cases ej:j=i
 ·subst ej
  rw[if_pos rfl] at hf
  obtain⟨g3,hf,rfl⟩:=hf
  rw[if_pos rfl] at hf
  obtain⟨g2,hf,rfl⟩:=hf
  rw[if_pos rfl] at hf
  obtain⟨g1,hf,rfl⟩:=hf
  rw[if_pos rfl] at hf
  obtain⟨g0,_,rfl⟩:=hf
  refine⟨r,a,c,?_,by simp[updF],by simp[updF],by simp[updF],by simp[updF],by simp[updF],by simp[updF],by simp[updF],he.keep k.cell⟩
  rw[List.getElem?_set_self hi]
 ·rw[if_neg ej,if_neg ej,if_neg ej,if_neg ej] at hf
  obtain⟨v,ae,ce,g0,g1,g2,g3,g4,g5,g6,g7,g8⟩:=hf
  exact⟨v,ae,ce,by rw[List.getElem?_set_ne (Ne.symm ej)];exact g0,g1,g2,g3,g4,g5,g6,g7,g8.keep k.cell⟩
theorem rowRe_in {W:World} {l:List RegD} {cap b:Nat} {p q:Nat→Bool} (hr:RowOf W b 76 7 l.length cap (reP W q l)) (hp:p b=false) (hl:l.length≤1073741824)
  (hk:∀ a v,(World.hide W q).cell? a=some v→(World.hide W p).cell? a=some v):RegsIn (World.hide W p) l (some ⟨b,0,none⟩) cap:=by
 refine⟨hr.le,hl,Or.inr ⟨b,0,rfl,fun i hi=>?_⟩⟩
 obtain⟨f,⟨v,ae,ce,g0,g1,g2,g3,g4,g5,g6,g7,g8⟩,hf⟩:=(hr.hid hp).get hi
 rw[Nat.zero_add]
 exact⟨v,g0,hf 0 _ g1,hf 1 _ g2,hf 2 _ g3,(ExAt_iff _ _ _ _).2 ⟨ae,ce,hf 3 _ g4,hf 4 _ g5,hf 5 _ g6,hf 6 _ g7,g8.keep hk⟩⟩
theorem rowRe5 {W:World} {q:Nat→Bool} {g b n cap o0 o1 o2 o3 o4:Nat} {u0 u1 u2 u3 u4:Value} {l:List RegD} (h:RowOf W g 76 7 n cap (reP W q l)) (hne:g≠b) (hq:q b=true) :
  RowOf (((((W.setCell ⟨b,o0,none⟩ u0).setCell ⟨b,o1,none⟩ u1).setCell ⟨b,o2,none⟩ u2).setCell ⟨b,o3,none⟩ u3).setCell ⟨b,o4,none⟩ u4) g 76 7 n cap (reP (((((W.setCell ⟨b,o0,none⟩ u0).setCell ⟨b,o1,none⟩ u1).setCell ⟨b,o2,none⟩ u2).setCell ⟨b,o3,none⟩ u3).setCell ⟨b,o4,none⟩ u4) q l) :=
 ((h.other4 hne).other1 hne).mono fun k f _ ⟨v,ae,ce,g0,g1,g2,g3,g4,g5,g6,g7,g8⟩=>⟨v,ae,ce,g0,g1,g2,g3,g4,g5,g6,g7,g8.keep (hk_store5 hq).cell⟩
theorem rclocked_res (W:World) (tm:Array Value) (b:Nat) (m0 m1 m2 m3 m4:Value) (hW:W.heap[b]? = some (.cells #[m0,m1,m2,m3,m4] 27 (0,0))) (h0:tm.getD 6 undef=.pointer (some ⟨b,0,none⟩)) :
  (results Tryz.f74 tm).run Tryz.prog W=.ok (.agg #[m0,m1,m2,m3,m4]) W:=by
 have hr : Tryz.f74.results=#[.cell 6 27]:=rfl
 have c0:=cell_of_blk hW 0
 have c1:=cell_of_blk hW 1
 have c2:=cell_of_blk hW 2
 have c3:=cell_of_blk hW 3
 have c4:=cell_of_blk hW 4
 simp at c0 c1 c2 c3 c4
 rw[results_cellC hr,h0]
 simp[asAddr]
 go_simp
def RClkPost (p:Nat→Bool) (w:World) (d:DesD) (r:Ending) (w':World):Prop:=(∃ x g,r=.returned (desVal d x)∧DesIn (World.hide w' p) d x∧x.ar=some ⟨g,0,none⟩∧w.heap.size≤g∧x.cr≤maxLen∧RowOf w' g 76 7 d.regs.length x.cr (reP w' (fun k=>p k || decide (w.heap.size≤k)) d.regs))∧Below w.heap.size w w'
set_option maxHeartbeats 4000000 in
set_option maxRecDepth 100000 in
theorem clockedX_any (p:Nat→Bool) (d:DesD) (x:DesA) (i:Nat) (r:RegD) (ea:Option Addr) (ec:Nat) (w:World) (hp:∀ k,p k=true→k < w.heap.size) (hD:DesIn (World.hide w p) d x) (hi:i < d.regs.length) (hX:ExIn (World.hide w p) r.next ea ec) :
  Calls Tryz.prog 74 #[desVal d x,.int .i64 i,.agg #[.string r.name,.int .i64 r.width,.int .i64 r.init,.int .i64 r.next.op,.int .i64 r.next.n,.string r.next.name,.slice ea r.next.args.length ec]] w (RClkPost p w { d with regs:=d.regs.set i r }):=by
 have HD:=Lib.hid hD
 have HX:=Lib.hid hX
 have hlen:=hD.regs.2.1
 obtain⟨b,off,xs,ha,h1,h2,h3⟩:=(regs_cells (hD.regs.keep (hk_unhide _ _).cell)).resolve_left (by omega)
 have Ha:=Lib.hid ha
 have HN:Hid (∀ j u,xs[j]? = some u→w.cell? ⟨b,off+j,none⟩=some u):=fun j u hu=>by
  have hj:j < d.regs.length * 7:=by rw[← h1];exact(List.getElem?_eq_some_iff.1 hu).1
  rw[← h3 j hj]
  exact hu
 have H12:=Lib.hid (⟨h1,h2,h3⟩:_∧_∧_)
 obtain⟨ht,inf,z,bytes,hinf,hz,hsz,hby,hzs,h0,hb⟩:=elemRg
 have HP:Hid (∀ x g W,x.ar=some ⟨g,0,none⟩→w.heap.size≤g→x.cr≤maxLen→RowOf W g 76 7 (d.regs.set i r).length x.cr (reP W (fun k=>p k || decide (w.heap.size≤k)) (d.regs.set i r))→DesIn (World.hide W p) { d with regs:=d.regs.set i r } x→Below w.heap.size w W→RClkPost p w { d with regs:=d.regs.set i r } (.returned (.agg #[.string d.name,.slice x.ai d.inputs.length x.ci,.slice x.aw d.wires.length x.cw,.slice x.ar d.regs.length x.cr,.slice x.ao d.outputs.length x.co])) W):=fun x g W e1 e2 e3 e4 q1 q2=>⟨⟨x,g,by rw[← show (d.regs.set i r).length=d.regs.length from List.length_set];rfl,q1,e1,e2,e3,e4⟩,q2⟩
 generalize RClkPost p w { d with regs:=d.regs.set i r }=Po at HP⊢
 clear hD hX h1 h2 h3
 obtain⟨xai,xci,xaw,xcw,xar,xcr,xao,xco⟩:=x
 subst ha
 simp only[desVal,desVals]
 go_enter Tryz.func74, Tryz.ntmps74
 go_upto_region 1 with fail
 generalize hW3:((w.alloc (.cells #[.string d.name,.slice xai d.inputs.length xci,.slice xaw d.wires.length xcw,.slice (some ⟨b,off,none⟩) d.regs.length xcr,.slice xao d.outputs.length xco] 27)).alloc (.cells #[.string r.name,.int .i64 r.width,.int .i64 r.init,.int .i64 r.next.op,.int .i64 r.next.n,.string r.next.name,.slice ea r.next.args.length ec] 76)).alloc (.cells #[.string ⟨#[]⟩,.slice none 0 0,.slice none 0 0,.slice none 0 0,.slice none 0 0] 27)=W3
 have hz3:w.heap.size+3≤W3.heap.size:=by rw[← hW3];simp
 have HB3:Hid (Below w.heap.size w W3):=by show Below _ _ _;rw[← hW3];exact belr
 have HD3:Hid (W3.heap[w.heap.size]? = some (.cells #[.string d.name,.slice xai d.inputs.length xci,.slice xaw d.wires.length xcw,.slice (some ⟨b,off,none⟩) d.regs.length xcr,.slice xao d.outputs.length xco] 27 (0,0))):=by
  show _=_;rw[← hW3]
  exact hx_old (hx_old (hx_new rfl))
 have HE3:Hid (W3.heap[w.heap.size+1]? = some (.cells #[.string r.name,.int .i64 r.width,.int .i64 r.init,.int .i64 r.next.op,.int .i64 r.next.n,.string r.next.name,.slice ea r.next.args.length ec] 76 (0,0))):=by
  show _=_;rw[← hW3]
  exact hx_old (hx_new (by simp))
 have HR3:Hid (W3.heap[w.heap.size+1+1]? = some (.cells #[.string ⟨#[]⟩,.slice none 0 0,.slice none 0 0,.slice none 0 0,.slice none 0 0] 27 (0,0))):=by
  show _=_;rw[← hW3]
  exact hx_new (by simp)
 clear hW3
 obtain⟨d0,d1,d2,d3,d4,df⟩:=cell5 HD3.out
 have D2:=fun o=>keeps_of_below ((Below.refl W3.heap.size W3).alloc (Nat.le_refl _) o) _ _ d3
 have hn0:0 < d.regs.length:=by omega
 go_wp2_with (at_builtin;go_must (refine wpList_append_lies _ rfl (.tmp 7) (.tmp 9) 24 (by rfl) W3.heap.size 76 inf z 7 bytes ht hinf hz hsz hby hzs h0 _ 0 [] (by rfl) (World.ownsRow_made W3 #[] 0 (Nat.le_refl _) (Nat.zero_le _) rfl) ⟨b,off,none⟩ d.regs.length xcr xs (by rfl) H12.out.1 ?qc2 H12.out.2.1 hn0 ?qc4 ?qc5 ?qc6 _ rfl ?_))
 case qc2=>exact fun j u hj=>Lib.cell?_alloc_some _ (keeps_of_below HB3.out _ _ (HN.out j u hj))
 case qc4=>unfold maxLen;omega
 case qc5=>exact Nat.le_trans (Nat.mul_le_mul (show d.regs.length≤1073741824 by omega) hb) (by decide)
 intro g cap w5 ho hg hgat hglt
 try simp only[Nat.zero_add,List.nil_append] at ho
 clear d0 d1 d2 d3 d4 df D2
 have hcm:cap≤maxLen:=by
  rcases ho.2 with ⟨q,_⟩ | ⟨g',cap',cur,q,_,_,_,hm,_⟩
  ·simp at q
  ·simp only[Value.slice.injEq] at q
   obtain⟨_,_,rfl⟩:=q
   exact hm
 have hno:∀ j,j < W3.heap.size→(Value.slice (some ⟨W3.heap.size,0,none⟩) 0 0).ownBlock≠some j:=fun j hj e=>by
  have:W3.heap.size=j:=Option.some.inj e
  omega
 have HD5:=Lib.hid (gr_blk hg (hx_old HD3.out) (hno _ (by omega)))
 have HE5:=Lib.hid (gr_blk hg (hx_old HE3.out) (hno _ (by omega)))
 have HR5:=Lib.hid (gr_blk hg (hx_old HR3.out) (hno _ (by omega)))
 have hg3:W3.heap.size≤g:=by
  rcases hgat with q | q
  ·have:W3.heap.size=g:=Option.some.inj q
   omega
  ·rw[q];simp
 have HB5:Hid (Below w.heap.size w w5):=Below.grown (HB3.out.alloc (by omega) _) hg (by rw[World.size_alloc];omega) (fun j hj=>by
  have:W3.heap.size=j:=Option.some.inj hj
  omega)
 have HQo:Hid (∀ k,k < w.heap.size→(fun k=>p k || decide (w.heap.size≤k)) k=true→p k=true):=fun k hk h=>by
  rw[Bool.or_eq_true,decide_eq_true_eq] at h
  rcases h with h | h
  ·exact h
  ·omega
 have HQn:Hid (∀ k,w.heap.size≤k→(fun k=>p k || decide (w.heap.size≤k)) k=true):=fun k hk=>by simp[hk]
 have HQs:Hid (∀ k,p k=true→(fun k=>p k || decide (w.heap.size≤k)) k=true):=fun k hk=>by simp[hk]
 generalize (fun k=>p k || decide (w.heap.size≤k))=q at HQo HQn HQs HP
 have hk5:HK (World.hide w p) (World.hide w5 q):=hk_below HB5.out fun k hk h=>HQo.out k hk h
 have HRow:Hid (RowOf w5 g 76 7 d.regs.length cap (reP w5 q d.regs)):=by
  obtain⟨b2,cap2,he2,_,hr⟩:=rowOf_owns ho hn0
  simp only[Value.slice.injEq,Option.some.injEq,Addr.mk.injEq,and_true] at he2
  obtain⟨rfl,_,rfl⟩:=he2
  refine regs_sameQ HD.out.regs rfl hk5.cell (hr.mono fun k f hk hf j u hj hu=>?_)
  rw[hf j hj,H12.out.2.2 _ (by
   have:(k+1) * 7≤d.regs.length * 7:=Nat.mul_le_mul_right _ hk
   omega),← Nat.add_assoc]
  exact hide_cell _ _ hu
 have HX5:=Lib.hid (HX.out.keep hk5.cell)
 clear ho hg hgat hno hk5 HN H12 ht hinf hz hsz hby hzs h0 hb HD3 HE3 HR3
 obtain⟨d0,d1,d2,d3,d4,df⟩:=cell5 HD5.out
 have hbE:=cell_of_blk HE5.out
 have e0:=hbE 0
 have e1:=hbE 1
 have e2:=hbE 2
 have e3:=hbE 3
 have e4:=hbE 4
 have e5:=hbE 5
 have e6:=hbE 6
 simp at e0 e1 e2 e3 e4 e5 e6
 clear hbE
 have rf:=fun o=>HRow.out.unfrozen o
 have hii:(i:Int) < (d.regs.length:Int):=by omega
 obtain⟨f,⟨v0,ae,ce,g0,g1,g2,g3,g4,g5,g6,g7,_⟩,hf⟩:=HRow.out.get hi
 have r0:=hf 0 _ g1
 have r1:=hf 1 _ g2
 have r2:=hf 2 _ g3
 have r3:=hf 3 _ g4
 have r4:=hf 4 _ g5
 have r5:=hf 5 _ g6
 have r6:=hf 6 _ g7
 simp only[Nat.add_zero] at r0
 clear hf g0 g1 g2 g3 g4 g5 g6 g7
 go_upto_region 3 with fail
 have kq:=HQn.out w.heap.size (Nat.le_refl _)
 have HRow6:Hid (RowOf (w5.setCell ⟨w.heap.size,3,none⟩ (.slice (some ⟨g,0,none⟩) d.regs.length cap)) g 76 7 d.regs.length cap (reP (w5.setCell ⟨w.heap.size,3,none⟩ (.slice (some ⟨g,0,none⟩) d.regs.length cap)) q d.regs)) :=
  (HRow.out.other1 (by omega)).mono fun k f _ ⟨v,ae,ce,g0,g1,g2,g3,g4,g5,g6,g7,g8⟩=>⟨v,ae,ce,g0,g1,g2,g3,g4,g5,g6,g7,g8.keep (hk_store kq).cell⟩
 have HRow7:=Lib.hid (rowSetRe (HQn.out g (by omega)) HRow6.out hi (HX5.out.keep (hk_store kq).cell))
 generalize hW7:(((((((w5.setCell ⟨w.heap.size,3,none⟩ (.slice (some ⟨g,0,none⟩) d.regs.length cap)).setCell ⟨g,i * 7,none⟩ (.string r.name)).setCell ⟨g,i * 7+1,none⟩ (.int .i64 r.width)).setCell ⟨g,i * 7+2,none⟩ (.int .i64 r.init)).setCell ⟨g,i * 7+3,none⟩ (.int .i64 r.next.op)).setCell ⟨g,i * 7+4,none⟩ (.int .i64 r.next.n)).setCell ⟨g,i * 7+5,none⟩ (.string r.next.name)).setCell ⟨g,i * 7+6,none⟩ (.slice ea r.next.args.length ec)=W7
 have HRow8:Hid (RowOf W7 g 76 7 d.regs.length cap (reP W7 q (d.regs.set i r))):=by show RowOf _ _ _ _ _ _ _;rw[← hW7];exact HRow7.out
 have hgw:w.heap.size≤g:=by omega
 have HB7:Hid (Below w.heap.size w W7):=by show Below _ _ _;rw[← hW7];exact(((((((HB5.out.setCell (Nat.le_refl _) _).setCell hgw _).setCell hgw _).setCell hgw _).setCell hgw _).setCell hgw _).setCell hgw _).setCell hgw _
 have n1:w.heap.size≠g:=by omega
 have n2:w.heap.size+1+1≠g:=by omega
 have n3:w.heap.size+1+1≠w.heap.size:=by omega
 have HD7:Hid (W7.heap[w.heap.size]? = some (.cells #[.string d.name,.slice xai d.inputs.length xci,.slice xaw d.wires.length xcw,.slice (some ⟨g,0,none⟩) d.regs.length cap,.slice xao d.outputs.length xco] 27 (0,0))):=by
  show _=_;rw[← hW7]
  refine hx_set (hx_set (hx_set (hx_set (hx_set (hx_set (hx_set ?_ n1) n1) n1) n1) n1) n1) n1
  rw[heap_setCell_same _ _ _ _ _ _ HD5.out]
  rfl
 have HR7:Hid (W7.heap[w.heap.size+1+1]? = some (.cells #[.string ⟨#[]⟩,.slice none 0 0,.slice none 0 0,.slice none 0 0,.slice none 0 0] 27 (0,0))):=by
  show _=_;rw[← hW7]
  exact hx_set (hx_set (hx_set (hx_set (hx_set (hx_set (hx_set (hx_set HR5.out n3) n2) n2) n2) n2) n2) n2) n2
 clear hW7 HRow7 HRow6 HRow d0 d1 d2 d3 d4 df e0 e1 e2 e3 e4 e5 e6 rf r0 r1 r2 r3 r4 r5 r6 n1 n3
 obtain⟨d0,d1,d2,d3,d4,df⟩:=cell5 HD7.out
 obtain⟨r0,r1,r2,r3,r4,rf⟩:=cell5 HR7.out
 go_wp2_with fail
 refine bodyPost_ret (v:=.agg #[.string d.name,.slice xai d.inputs.length xci,.slice xaw d.wires.length xcw,.slice (some ⟨g,0,none⟩) d.regs.length cap,.slice xao d.outputs.length xco]) (rclocked_res _ _ (w.heap.size+1+1) _ _ _ _ _ (set5M HR7.out) rfl) rfl (HP.out ⟨xai,xci,xaw,xcw,some ⟨g,0,none⟩,cap,xao,xco⟩ g _ rfl hgw hcm ?hrow ?hdes (bel5w HB7.out (by omega)))
 case hrow =>
  have hlm:(d.regs.set i r).length=d.regs.length:=List.length_set
  have hr9:=HRow8.out
  rw[← hlm] at hr9
  exact rowRe5 hr9 (Ne.symm n2) (HQn.out (w.heap.size+1+1) (by omega))
 have hk:=(hk_below (p:=p) (q:=p) (bel5w (o0:=0) (o1:=1) (o2:=2) (o3:=3) (o4:=4) (u0:=.string d.name) (u1:=.slice xai d.inputs.length xci) (u2:=.slice xaw d.wires.length xcw) (u3:=.slice (some ⟨g,0,none⟩) d.regs.length cap) (u4:=.slice xao d.outputs.length xco) HB7.out (b:=w.heap.size+1+1) (by omega)) fun _ _ h=>h).cell
 have pg:p g=false:=by
  cases h:p g with
  | false=>rfl
  | true=>have:=hp _ h;omega
 have hlm:(d.regs.set i r).length=d.regs.length:=List.length_set
 have hr9:=HRow8.out
 rw[← hlm] at hr9
 exact⟨HD.out.ins.keep hk,HD.out.wires.keep hk,rowRe_in (rowRe5 hr9 (Ne.symm n2) (HQn.out (w.heap.size+1+1) (by omega))) pg (Nat.le_trans (Nat.le_of_eq hlm) hlen) (hk_mono fun k h=>HQs.out k h).cell,HD.out.outs.keep hk⟩
theorem clocked_any (p:Nat→Bool) (d:DesD) (x:DesA) (i:Nat) (r:RegD) (ea:Option Addr) (ec:Nat) (w:World) (hp:∀ k,p k=true→k < w.heap.size) (hD:DesIn (World.hide w p) d x) (hi:i < d.regs.length) (hX:ExIn (World.hide w p) r.next ea ec) :
  Calls Tryz.prog 74 #[desVal d x,.int .i64 i,.agg #[.string r.name,.int .i64 r.width,.int .i64 r.init,.int .i64 r.next.op,.int .i64 r.next.n,.string r.next.name,.slice ea r.next.args.length ec]] w (RDesPost p w { d with regs:=d.regs.set i r }) :=
 (clockedX_any p d x i r ea ec w hp hD hi hX).mono fun _ _ ⟨⟨x',g,h1,h2,_⟩,hb⟩=>⟨⟨x',h1,h2⟩,hb⟩
end Go.Proofs.YtebneadheaefdaaGreatDoor
namespace Go.Proofs.YtebneadheaefdaaGreatDoor
noncomputable def sitK (e:Ex) (f:Ver→Mut) (k:Nat):List Mut:=((e.nodes.zipIdx 0).take k).filterMap fun p=>(siteF (withS e) 0 p).map f
theorem sitK_all (e:Ex) (f:Ver→Mut):sitK e f e.nodes.length=(versS e 0).map f:=by
 unfold sitK
 rw[List.take_of_length_le (by simp),sites_eq,List.map_filterMap]
theorem sitK_succ (e:Ex) (f:Ver→Mut) {k:Nat} (hk:k < e.nodes.length):sitK e f (k+1)=sitK e f k++(if kindS (e.nodes[k]'hk).op=.empty then [] else [f (withS e k,whatS k (kindS (e.nodes[k]'hk).op))]):=by
 unfold sitK
 have h:(e.nodes.zipIdx 0)[k]? = some (e.nodes[k]'hk,k):=by
  rw[List.getElem?_zipIdx,List.getElem?_eq_getElem hk]
  simp
 rw[List.take_add_one,h,List.filterMap_append]
 congr 1
 simp only[Option.toList_some,List.filterMap_cons,List.filterMap_nil,siteF]
 split
 ·rename_i h1
  split at h1
  ·rename_i h2
   rw[if_pos h2]
  ·simp at h1
 ·rename_i h1
  split at h1
  ·simp at h1
  ·rename_i h2
   rw[if_neg h2]
   simp only[Option.map_some,Option.some.injEq] at h1
   rw[← h1,Nat.zero_add]
theorem sitK_len (e:Ex) (f:Ver→Mut) (k:Nat):(sitK e f k).length≤k:=by
 unfold sitK
 refine Nat.le_trans (List.length_filterMap_le _ _) ?_
 rw[List.length_take]
 omega
noncomputable def accW (d:DesD) (i k:Nat):List Mut:=match d.wires[i]? with
 | some w=>(sitK w.expr (fun v=>(d.setWire i v.1,wireT w.name v.2)) k).foldl addM (mutW d i)
 | none=>mutW d i
theorem accW_at {d:DesD} {i:Nat} (hi:i < d.wires.length) (k:Nat):accW d i k=(sitK (d.wires[i]'hi).expr (fun v=>(d.setWire i v.1,wireT (d.wires[i]'hi).name v.2)) k).foldl addM (mutW d i):=by
 unfold accW
 rw[List.getElem?_eq_getElem hi]
theorem accW_zero (d:DesD) (i:Nat):accW d i 0=mutW d i:=by
 unfold accW
 split<;>rfl
theorem accW_all {d:DesD} {i:Nat} (hi:i < d.wires.length):accW d i (d.wires[i]'hi).expr.nodes.length=mutW d (i+1):=by
 rw[accW_at hi,sitK_all,mutW_succ d hi]
 rfl
theorem accW_no {d:DesD} {i k:Nat} (hi:i < d.wires.length) (hk:k < (d.wires[i]'hi).expr.nodes.length) (h:kindS ((d.wires[i]'hi).expr.nodes[k]'hk).op=.empty):accW d i (k+1)=accW d i k:=by
 rw[accW_at hi,accW_at hi,sitK_succ _ _ hk,if_pos h,List.append_nil]
theorem accW_yes {d:DesD} {i k:Nat} (hi:i < d.wires.length) (hk:k < (d.wires[i]'hi).expr.nodes.length) (h:¬ kindS ((d.wires[i]'hi).expr.nodes[k]'hk).op=.empty) :
  accW d i (k+1)=addM (accW d i k) (d.setWire i (withS (d.wires[i]'hi).expr k),wireT (d.wires[i]'hi).name (whatS k (kindS ((d.wires[i]'hi).expr.nodes[k]'hk).op))):=by
 rw[accW_at hi,accW_at hi,sitK_succ _ _ hk,if_neg h,List.foldl_append]
 rfl
theorem accW_len {d:DesD} (he:d.err=0) {i k:Nat} (hi:i < d.wires.length) (hk:k≤(d.wires[i]'hi).expr.nodes.length):(accW d i k).length≤21000:=by
 have h1:=mutW_20k he (Nat.le_of_lt hi)
 have h2:=expr_400 he _ (wire_mem hi)
 rw[accW_at hi]
 have h3:=fold_len (sitK (d.wires[i]'hi).expr (fun v=>(d.setWire i v.1,wireT (d.wires[i]'hi).name v.2)) k) (mutW d i)
 have h4:=sitK_len (d.wires[i]'hi).expr (fun v=>(d.setWire i v.1,wireT (d.wires[i]'hi).name v.2)) k
 omega
noncomputable def accR (d:DesD) (i k:Nat):List Mut:=match d.regs[i]? with
 | some r=>(sitK r.next (fun v=>(d.setNext i v.1,regT r.name v.2)) k).foldl addM (addM (mutR d i) (d.setInit i,regT r.name initT))
 | none=>mutR d i
theorem accR_at {d:DesD} {i:Nat} (hi:i < d.regs.length) (k:Nat):accR d i k=(sitK (d.regs[i]'hi).next (fun v=>(d.setNext i v.1,regT (d.regs[i]'hi).name v.2)) k).foldl addM (addM (mutR d i) (d.setInit i,regT (d.regs[i]'hi).name initT)):=by
 unfold accR
 rw[List.getElem?_eq_getElem hi]
theorem accR_zero {d:DesD} {i:Nat} (hi:i < d.regs.length):accR d i 0=addM (mutR d i) (d.setInit i,regT (d.regs[i]'hi).name initT):=by
 rw[accR_at hi]
 rfl
theorem accR_all {d:DesD} {i:Nat} (hi:i < d.regs.length):accR d i (d.regs[i]'hi).next.nodes.length=mutR d (i+1):=by
 rw[accR_at hi,sitK_all,mutR_succ d hi]
 rfl
theorem accR_no {d:DesD} {i k:Nat} (hi:i < d.regs.length) (hk:k < (d.regs[i]'hi).next.nodes.length) (h:kindS ((d.regs[i]'hi).next.nodes[k]'hk).op=.empty):accR d i (k+1)=accR d i k:=by
 rw[accR_at hi,accR_at hi,sitK_succ _ _ hk,if_pos h,List.append_nil]
theorem accR_yes {d:DesD} {i k:Nat} (hi:i < d.regs.length) (hk:k < (d.regs[i]'hi).next.nodes.length) (h:¬ kindS ((d.regs[i]'hi).next.nodes[k]'hk).op=.empty) :
  accR d i (k+1)=addM (accR d i k) (d.setNext i (withS (d.regs[i]'hi).next k),regT (d.regs[i]'hi).name (whatS k (kindS ((d.regs[i]'hi).next.nodes[k]'hk).op))):=by
 rw[accR_at hi,accR_at hi,sitK_succ _ _ hk,if_neg h,List.foldl_append]
 rfl
theorem accR_len {d:DesD} (he:d.err=0) {i k:Nat} (hi:i < d.regs.length) (hk:k≤(d.regs[i]'hi).next.nodes.length):(accR d i k).length≤21000:=by
 have h1:=mutR_20k he (Nat.le_of_lt hi)
 have h2:=expr_400 he _ (reg_mem hi)
 rw[accR_at hi]
 have h3:=fold_len (sitK (d.regs[i]'hi).next (fun v=>(d.setNext i v.1,regT (d.regs[i]'hi).name v.2)) k) (addM (mutR d i) (d.setInit i,regT (d.regs[i]'hi).name initT))
 have h4:=sitK_len (d.regs[i]'hi).next (fun v=>(d.setNext i v.1,regT (d.regs[i]'hi).name v.2)) k
 have h5:=fold_len [(d.setInit i,regT (d.regs[i]'hi).name initT)] (mutR d i)
 simp only[List.foldl_cons,List.foldl_nil,List.length_cons,List.length_nil] at h5
 omega
theorem modify_set {α:Type} (l:List α) (i:Nat) (f:α→α) (hi:i < l.length):l.modify i f=l.set i (f (l[i]'hi)):=by
 refine List.ext_getElem (by simp) fun j h1 h2=>?_
 rw[List.getElem_modify,List.getElem_set]
 split
 ·rename_i e
  subst e
  rfl
 ·rfl
theorem setNext_set (d:DesD) {i:Nat} (hi:i < d.regs.length) (e:Ex):({ d with regs:=d.regs.set i { (d.regs[i]'hi) with next:=e } }:DesD)=d.setNext i e:=by
 unfold DesD.setNext
 rw[modify_set _ _ _ hi]
theorem setInit_set (d:DesD) {i:Nat} (hi:i < d.regs.length):({ d with regs:=d.regs.set i { (d.regs[i]'hi) with init:=flipI (d.regs[i]'hi).init } }:DesD)=d.setInit i:=by
 unfold DesD.setInit
 rw[modify_set _ _ _ hi]
theorem wireT_ref (nm kd:ByteArray) (k:Nat):wireT nm (whatS k kd)=(((((⟨#[119,105,114,101,32]⟩++nm)++⟨#[32]⟩)++fmtS k)++⟨#[32]⟩)++kd):=by
 unfold wireT whatS
 simp only[ByteArray.append_assoc]
theorem regT_ref (nm kd:ByteArray) (k:Nat):regT nm (whatS k kd)=(((((⟨#[114,101,103,32]⟩++nm)++⟨#[32]⟩)++fmtS k)++⟨#[32]⟩)++kd):=by
 unfold regT whatS
 simp only[ByteArray.append_assoc]
theorem regT_init (nm:ByteArray):regT nm initT=((⟨#[114,101,103,32]⟩++nm)++⟨#[32,105,110,105,116]⟩):=by
 unfold regT
 have h:(⟨#[32,105,110,105,116]⟩:ByteArray)=⟨#[32]⟩++initT:=rfl
 rw[h,ByteArray.append_assoc]
theorem flip_ref (n:Int):n / 2 * 2+1 - n % 2=flipI n:=by
 unfold flipI
 split<;>omega
theorem kind_9 (op:Int):(kindS op).size≤9:=by
 unfold kindS
 split
 ·decide
 ·split
  ·decide
  ·split<;>decide
theorem with_nodes (e:Ex) {k:Nat} (hk:k < e.nodes.length) (h:¬ kindS (e.nodes[k]'hk).op=.empty):(withS e k).nodes.length≤e.nodes.length+1:=by
 refine vers_nodes e 0 (withS e k,whatS (0+k) (kindS (e.nodes[k]'hk).op)) ?_
 rw[sites_eq]
 refine List.mem_filterMap.2 ⟨(e.nodes[k]'hk,k),List.mem_of_getElem? (i:=k) ?_,?_⟩
 ·rw[List.getElem?_zipIdx,List.getElem?_eq_getElem hk]
  simp
 ·unfold siteF
  rw[if_neg h]
theorem init_16 {d:DesD} (he:d.err=0) (r:RegD) (hr:r∈d.regs):0≤r.init∧r.init≤65535:=by
 have h1:=(desOk_of_err he).inits r hr
 have h2:=(desOk_of_err he).widths r.width (by unfold DesD.widths;simp only[List.mem_append,List.mem_map];exact Or.inr ⟨r,hr,rfl⟩)
 have h3:r.width.toNat≤16:=by omega
 have h5:∀ k:Nat,k≤16→(2:Int) ^ k≤65536:=by
  intro k hk
  have:k=0∨k=1∨k=2∨k=3∨k=4∨k=5∨k=6∨k=7∨k=8∨k=9∨k=10∨k=11∨k=12∨k=13∨k=14∨k=15∨k=16:=by omega
  rcases this with rfl | rfl | rfl | rfl | rfl | rfl | rfl | rfl | rfl | rfl | rfl | rfl | rfl | rfl | rfl | rfl | rfl<;>decide
 have:=h5 _ h3
 omega
theorem okE_of {d:DesD} (he:d.err=0) (e:Ex) (h:e∈d.exprs):OkE e:=valid_ok ((desOk_of_err he).exprs e h).1
end Go.Proofs.YtebneadheaefdaaGreatDoor
