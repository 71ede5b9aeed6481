/- mutate.Inject. -/
import Derived.Test.YtebneadheaefdaaGreatDoorFP
import Derived.Deep.CutRange
set_option linter.unusedSimpArgs false
set_option linter.unusedVariables false
set_option linter.unnecessarySimpa false
namespace Go.Proofs.YtebneadheaefdaaGreatDoor
open Go.RowKit
attribute [local go_sem ↓] Go.wp_at_zero Go.wp_at_succ
theorem cutJ {p q:Prop} (h:p) (k:p→q):q:=k h
def InjPost (w:World) (d:DesD) (nm:ByteArray) (cyc bit:Int) (r:Ending) (w':World):Prop:=(∃ x,r=.returned (.tuple #[desVal (injA d nm cyc bit).1 x,.int .i64 (injA d nm cyc bit).2])∧DesIn w' (injA d nm cyc bit).1 x)∧Below w.heap.size w w'
theorem inj_res (W:World) (tm:Array Value) (b:Nat) (m0 m1 m2 m3 m4 e:Value) (hW:W.heap[b]? = some (.cells #[m0,m1,m2,m3,m4] 27 (0,0))) (h0:tm.getD 8 undef=.pointer (some ⟨b,0,none⟩)) (h1:tm.getD 9 undef=e) :
  (results Tryz.f34 tm).run Tryz.prog W=.ok (.tuple #[.agg #[m0,m1,m2,m3,m4],e]) W:=by
 have hr : Tryz.f34.results=#[.cell 8 27,.tmp 9]:=rfl
 obtain⟨c0,c1,c2,c3,c4,_⟩:=cell5 hW
 rw[results_cell_tmp hr,h0,h1]
 simp[asAddr]
 go_simp
def injP (B b o:Nat):Nat→Bool:=fun k=>decide (k < B) || k == b || k == o
theorem injP_true {B b o k:Nat}:injP B b o k=true↔k < B∨k=b∨k=o:=by simp[injP,or_assoc]
theorem row_next {W:World} {d:DesD} {x:DesA} {P:Nat→Bool} {g cap k:Nat} (h:InjSt W d x d.regs P g cap) (hk:k < d.regs.length):∃ na nc,W.cell? ⟨g,k * 7+3,none⟩=some (.int .i64 (d.regs[k]'hk).next.op)∧W.cell? ⟨g,k * 7+4,none⟩=some (.int .i64 (d.regs[k]'hk).next.n)∧W.cell? ⟨g,k * 7+5,none⟩=some (.string (d.regs[k]'hk).next.name)∧W.cell? ⟨g,k * 7+6,none⟩=some (.slice na (d.regs[k]'hk).next.args.length nc)∧ExIn (World.hide W P) (d.regs[k]'hk).next na nc:=by
 obtain⟨f,⟨v,ae,ce,g0,g1,g2,g3,g4,g5,g6,g7,g8⟩,hf⟩:=h.row.get hk
 rw[List.getElem?_eq_getElem hk] at g0
 obtain rfl:=Option.some.inj g0
 exact⟨ae,ce,hf 3 _ g4,hf 4 _ g5,hf 5 _ g6,hf 6 _ g7,g8⟩
theorem hit_set {W9 w11:World} {P:Nat→Bool} {b B:Nat} {e:Ex} {a:Option Addr} {c:Nat} {z0 z1 z2 z3:Value} (h7:w11.heap[b]? = some (.cells #[z0,z1,z2,z3] 72 (0,0))) (hX:ExIn (World.hide w11 (old B)) e a c) (hb:b < B) (hP:∀ j,P j=true→j < B) (hB:Below W9.heap.size W9 w11) (hbb:W9.heap.size≤b) :
  Hid (((((w11.setCell ⟨b,0,none⟩ (.int .i64 15)).setCell ⟨b,1,none⟩ (.int .i64 0)).setCell ⟨b,2,none⟩ (.string ⟨#[]⟩)).setCell ⟨b,3,none⟩ (.slice a 2 c)).heap[b]? = some (.cells #[.int .i64 15,.int .i64 0,.string ⟨#[]⟩,.slice a 2 c] 72 (0,0))) ∧
  Hid (ExIn (World.hide ((((w11.setCell ⟨b,0,none⟩ (.int .i64 15)).setCell ⟨b,1,none⟩ (.int .i64 0)).setCell ⟨b,2,none⟩ (.string ⟨#[]⟩)).setCell ⟨b,3,none⟩ (.slice a 2 c)) P) e a c) ∧
  Hid (Below W9.heap.size W9 ((((w11.setCell ⟨b,0,none⟩ (.int .i64 15)).setCell ⟨b,1,none⟩ (.int .i64 0)).setCell ⟨b,2,none⟩ (.string ⟨#[]⟩)).setCell ⟨b,3,none⟩ (.slice a 2 c))) :=
 ⟨set4M h7,(hX.keep (hk_store4 (old_true.2 hb)).cell).keep (hk_mono fun j hj=>old_true.2 (hP j hj)).cell,bel4 hB hbb⟩
theorem hit_new {W9 w11:World} {P:Nat→Bool} {B:Nat} {e:Ex} {a:Option Addr} {c:Nat} (hX:ExIn (World.hide w11 (old B)) e a c) (hP:∀ j,P j=true→j < B) (hPw:∀ j,P j=true→j < w11.heap.size) (hB:Below W9.heap.size W9 w11) :
  Hid ((w11.alloc (.cells #[.int .i64 15,.int .i64 0,.string ⟨#[]⟩,.slice a 2 c] 72)).heap[w11.heap.size]? = some (.cells #[.int .i64 15,.int .i64 0,.string ⟨#[]⟩,.slice a 2 c] 72 (0,0))) ∧
  Hid (ExIn (World.hide (w11.alloc (.cells #[.int .i64 15,.int .i64 0,.string ⟨#[]⟩,.slice a 2 c] 72)) P) e a c) ∧
  Hid (Below W9.heap.size W9 (w11.alloc (.cells #[.int .i64 15,.int .i64 0,.string ⟨#[]⟩,.slice a 2 c] 72))) :=
 ⟨hx_new rfl,hX.keep (hk_below ((Below.refl _ w11).alloc (Nat.le_refl _) _) fun j _ hj=>old_true.2 (hP j hj)).cell,hB.alloc hB.size _⟩
theorem wrap_pow {bit:Int} (h:0≤bit∧bit≤15):IntKind.i64.wrap ((2:Int) ^ bit.toNat)=(2:Int) ^ bit.toNat:=by
 obtain⟨n,rfl⟩:=Int.eq_ofNat_of_zero_le h.1
 have hn:n≤15:=by omega
 have:n=0∨n=1∨n=2∨n=3∨n=4∨n=5∨n=6∨n=7∨n=8∨n=9∨n=10∨n=11∨n=12∨n=13∨n=14∨n=15:=by omega
 rcases this with rfl | rfl | rfl | rfl | rfl | rfl | rfl | rfl | rfl | rfl | rfl | rfl | rfl | rfl | rfl | rfl<;>decide
theorem modify_congr {α:Type}:∀ (l:List α) (i:Nat) (f g:α→α),(∀ x,l[i]? = some x→f x=g x)→l.modify i f=l.modify i g:=by
 intro l i f g h
 refine List.ext_getElem? fun j=>?_
 rw[List.getElem?_modify,List.getElem?_modify]
 by_cases e:i=j
 ·subst e
  cases hx:l[i]? with
  | none=>rfl
  | some x=>simp[h x hx]
 ·simp[e]
set_option maxHeartbeats 32000000 in
set_option maxRecDepth 100000 in
theorem inject_any (d:DesD) (x:DesA) (nm:ByteArray) (cyc bit:Int) (w:World) (hF:∀ n:Int,0≤n→n≤65535→∀ W,Below w.heap.size w W→FmtC W.heap.size W n) (hG:Glob w) (hE:DesIn w d x) (hs:DesSmall d) :
    Calls Tryz.prog 34 #[desVal d x,.string nm,.int .i64 cyc,.int .i64 bit] w (InjPost w d nm cyc bit):=by
  have hl:=hs.len
  have HV:Hid (∀ W,Below w.heap.size w W→Calls Tryz.prog 36 #[desVal d x] W fun e w'=>e=.returned (.int .i64 d.err)∧Below W.heap.size W w'):=fun W hW=>ValidD_any d x W (hE.below hW) hs (hG.below hW)
  have HVJ:Hid (d.err=0→∀ k y W,Below w.heap.size w W→DesIn W (injD d k cyc bit) y→Calls Tryz.prog 36 #[desVal (injD d k cyc bit) y] W fun e w'=>e=.returned (.int .i64 (injD d k cyc bit).err)∧Below W.heap.size W w'):=fun he k y W hW hD=>ValidD_any (injD d k cyc bit) y W hD (inj_small he hs k cyc bit) (hG.below hW)
  have HFr:Hid (∀ W,Below w.heap.size w W→Calls Tryz.prog 65 #[desVal d x] W fun r w'=>(∃ x' bw br,r=.returned (desVal d x')∧NewA w' W.heap.size d x' bw br)∧Below W.heap.size W w'):=fun W hW=>fresh_any d x W (hE.below hW) hs
  have HUn:Hid (d.err=0→∀ W,Below w.heap.size w W→Calls Tryz.prog 66 #[desVal d x] W fun e w'=>e=.returned (.string (cntN d))∧Below W.heap.size W w'):=fun he W hW=>unused_any d x W (fun n h0 h1=>hF n h0 h1 W hW) (hE.below hW) (by have:d.names.length≤48:=(desOk_of_err he).len;omega)
  have HIx:Hid (∀ W,Below w.heap.size w W→W.cell? ⟨w.heap.size+1,0,none⟩=some (.string nm)→Calls Tryz.prog 63 #[.slice x.ar d.regs.length x.cr,.func (.func 64) #[] #[.pointer (some ⟨w.heap.size+1,0,none⟩)]] W fun e w'=>e=.returned (.int .i64 (regI d nm))∧Below W.heap.size W w'):=fun W hW hc=>indexFunc_inj (w.heap.size+1) (isReg nm) d.regs x.ar x.cr W W (hE.below hW).regs fun v _ ae ce w' hb=>inj_clo (w.heap.size+1) nm v ae ce w' (keeps_of_below hb _ _ hc)
  have HCo:Hid (∀ e a c W,ExIn W e a c→Calls Tryz.prog 69 #[.agg #[.int .i64 e.op,.int .i64 e.n,.string e.name,.slice a e.args.length c]] W fun r w'=>(∃ a' c',r=.returned (.agg #[.int .i64 e.op,.int .i64 e.n,.string e.name,.slice a' e.args.length c'])∧ExIn (World.hide w' (old W.heap.size)) e a' c')∧Below W.heap.size W w'):=fun e a c W h=>copyM_any e a c W h
  have HPz:Hid (∀ e W,injA d nm cyc bit=(zD,e)→Below w.heap.size w W→InjPost w d nm cyc bit (.returned (.tuple #[.agg #[.string ⟨#[]⟩,.slice none 0 0,.slice none 0 0,.slice none 0 0,.slice none 0 0],.int .i64 e])) W):=fun e W h1 h2=>by
    refine⟨⟨zA,?_,?_⟩,h2⟩
    · rw[h1];rfl
    · rw[h1];exact NewD.des (zD_new W 0)
  have HPm:Hid (∀ dm xm W,injA d nm cyc bit=(dm,0)→DesIn W dm xm→Below w.heap.size w W→InjPost w d nm cyc bit (.returned (.tuple #[.agg #[.string dm.name,.slice xm.ai dm.inputs.length xm.ci,.slice xm.aw dm.wires.length xm.cw,.slice xm.ar dm.regs.length xm.cr,.slice xm.ao dm.outputs.length xm.co],.int .i64 0])) W):=fun dm xm W h1 h2 h3=>by
    refine⟨⟨xm,?_,?_⟩,h3⟩
    · rw[h1];rfl
    · rw[h1];exact h2
  have HA1:=Lib.hid (@injA_err d nm cyc bit)
  have HA2:=Lib.hid (@injA_none d nm cyc bit)
  have HA3:=Lib.hid (@injA_arg d nm cyc bit)
  have HA4:=Lib.hid (@injA_lim d nm cyc bit)
  have HA5:=Lib.hid (@injA_ok d nm cyc bit)
  have hrc:regI d nm=-1∨∃ k,∃ hk:k < d.regs.length,regI d nm=(k:Int):=by
    rcases idxP_cases (isReg nm) d.regs with ⟨h,_⟩ | ⟨k,hk,h,_⟩
    · exact Or.inl h
    · exact Or.inr ⟨k,hk,h⟩
  have HE:=Lib.hid hE
  have HSz:Hid (d.err=0→(∀ k (hk:k < d.regs.length),1≤(d.regs[k]'hk).width∧(d.regs[k]'hk).width≤16)∧d.names.length≤65535):=fun he=>⟨fun k hk=>(desOk_of_err he).widths _ (by unfold DesD.widths;simp only[List.mem_append,List.mem_map];exact Or.inr ⟨_,List.getElem_mem hk,rfl⟩),by have:d.names.length≤48:=(desOk_of_err he).len;omega⟩
  clear hF hG hE hs
  generalize injA d nm cyc bit=IA at HPz HPm HA1 HA2 HA3 HA4 HA5
  generalize InjPost w d nm cyc bit=Po at HPz HPm⊢
  simp only[desVal,desVals] at HV HFr HUn⊢
  generalize hri:regI d nm=ri at HIx hrc HA2 HA3 HA4 HA5
  clear hri
  go_enter Tryz.func34, Tryz.ntmps34
  go_wp2_with fail
  generalize hW2:((w.alloc (.cells #[.string d.name,.slice x.ai d.inputs.length x.ci,.slice x.aw d.wires.length x.cw,.slice x.ar d.regs.length x.cr,.slice x.ao d.outputs.length x.co] 27)).alloc (.cells #[.string nm] 9)).alloc (.cells #[.string ⟨#[]⟩,.slice none 0 0,.slice none 0 0,.slice none 0 0,.slice none 0 0] 27)=W2
  have hz2:w.heap.size+3≤W2.heap.size:=by rw[← hW2];simp
  have HB2:Hid (Below w.heap.size w W2):=by show Below _ _ _;rw[← hW2];exact belr
  have HD2:Hid (W2.heap[w.heap.size]? = some (.cells #[.string d.name,.slice x.ai d.inputs.length x.ci,.slice x.aw d.wires.length x.cw,.slice x.ar d.regs.length x.cr,.slice x.ao d.outputs.length x.co] 27 (0,0))):=by
    show _=_;rw[← hW2]
    exact hx_old (hx_old (hx_new rfl))
  have HN2:Hid (W2.heap[w.heap.size+1]? = some (.cells #[.string nm] 9 (0,0))):=by
    show _=_;rw[← hW2]
    exact hx_old (hx_new (by simp))
  have HR2:Hid (W2.heap[w.heap.size+2]? = some (.cells #[.string ⟨#[]⟩,.slice none 0 0,.slice none 0 0,.slice none 0 0,.slice none 0 0] 27 (0,0))):=by
    show _=_;rw[← hW2]
    exact hx_new (by simp)
  clear hW2
  refine(HV.out W2 HB2.out).mono ?_
  rintro r w3 ⟨rfl,hb3⟩
  have HB3:Hid (Below w.heap.size w w3):=HB2.out.trans (hb3.mono (by omega))
  have HD3:=Lib.hid (hx_below hb3 HD2.out)
  have HN3:=Lib.hid (hx_below hb3 HN2.out)
  have HR3:=Lib.hid (hx_below hb3 HR2.out)
  have hz3:w.heap.size+3≤w3.heap.size:=by have:=hb3.size;omega
  clear hb3 HD2 HN2 HR2 HB2 hz2
  obtain⟨d0,d1,d2,d3,d4,_⟩:=cell5 HD3.out
  obtain⟨y0,y1,y2,y3,y4,yf⟩:=cell5 HR3.out
  by_cases he:d.err=0
  · have HVJ:=Lib.hid (HVJ.out he)
    have HUn:=Lib.hid (HUn.out he)
    have hA2:=fun h=>HA2.out he h
    have HA2:=Lib.hid hA2
    have hA3:=fun k h1 h2 h3=>HA3.out he (k:=k) h1 h2 h3
    have HA3:=Lib.hid hA3
    have hA4:=fun k h1 h2 h3 h4=>HA4.out he (k:=k) h1 h2 h3 h4
    have HA4:=Lib.hid hA4
    have hA5:=fun k h1 h2 h3 h4=>HA5.out he (k:=k) h1 h2 h3 h4
    have HA5:=Lib.hid hA5
    have HSz:=Lib.hid (HSz.out he)
    rw[he]
    clear hA2 hA3 hA4 hA5 HA1 he
    go_wp2_with fail
    refine(HIx.out w3 HB3.out (cell_of_blk HN3.out 0)).mono ?_
    rintro r w4 ⟨rfl,hb4⟩
    have HB4:Hid (Below w.heap.size w w4):=HB3.out.trans (hb4.mono (by omega))
    have HD4:=Lib.hid (hx_below hb4 HD3.out)
    have HR4:=Lib.hid (hx_below hb4 HR3.out)
    have hz4:w.heap.size+3≤w4.heap.size:=by have:=hb4.size;omega
    clear hb4 HD3 HN3 HR3 HB3 hz3 d0 d1 d2 d3 d4 y0 y1 y2 y3 y4 yf HIx
    obtain⟨d0,d1,d2,d3,d4,_⟩:=cell5 HD4.out
    obtain⟨y0,y1,y2,y3,y4,yf⟩:=cell5 HR4.out
    rcases hrc with hri | ⟨k,hk,hri⟩
    · have HMt:=Lib.hid (HA2.out hri)
      rw[hri]
      clear hri
      go_wp2_with fail
      exact bodyPost_ret (v:=.tuple #[.agg #[.string ⟨#[]⟩,.slice none 0 0,.slice none 0 0,.slice none 0 0,.slice none 0 0],.int .i64 7]) (inj_res _ _ (w.heap.size+2) _ _ _ _ _ _ (set5M HR4.out) rfl rfl) rfl (HPz.out 7 _ HMt.out (bel5 HB4.out (by omega)))
    · rw[hri]
      have hki:(k:Int) < d.regs.length:=by omega
      have hk0:¬ ((k:Int) < 0):=by omega
      have hcr:=HE.out.regs.1
      have hcri:(d.regs.length:Int)≤x.cr:=by omega
      obtain⟨bR,oR,har⟩:=(SliceIn.addr HE.out.regs).resolve_left (by omega)
      obtain⟨ae,ce,-,g1,-⟩:=HE.out.regs.get har hk
      have g1:=keeps_of_below HB4.out _ _ g1
      rw[har] at d3
      have hwd:=HSz.out.1 k hk
      have HA3:=Lib.hid (HA3.out k hri hk)
      have HA4:=Lib.hid (HA4.out k hri hk)
      have HA5:=Lib.hid (HA5.out k hri hk)
      have Har:=Lib.hid har
      clear hri HA2 har
      by_cases hbad:cyc < 0∨4096≤cyc∨bit < 0∨(d.regs[k]'hk).width≤bit
      · have HMt:=Lib.hid (HA3.out hbad)
        generalize (d.regs[k]'hk).width=wd at g1 hbad hwd
        by_cases h1:cyc < 0
        · clear hbad
          go_wp2_with fail
          exact bodyPost_ret (v:=.tuple #[.agg #[.string ⟨#[]⟩,.slice none 0 0,.slice none 0 0,.slice none 0 0,.slice none 0 0],.int .i64 1]) (inj_res _ _ (w.heap.size+2) _ _ _ _ _ _ (set5M HR4.out) rfl rfl) rfl (HPz.out 1 _ HMt.out (bel5 HB4.out (by omega)))
        · by_cases h2:4096≤cyc
          · clear hbad
            go_wp2_with fail
            exact bodyPost_ret (v:=.tuple #[.agg #[.string ⟨#[]⟩,.slice none 0 0,.slice none 0 0,.slice none 0 0,.slice none 0 0],.int .i64 1]) (inj_res _ _ (w.heap.size+2) _ _ _ _ _ _ (set5M HR4.out) rfl rfl) rfl (HPz.out 1 _ HMt.out (bel5 HB4.out (by omega)))
          · by_cases h3:bit < 0
            · clear hbad
              go_wp2_with fail
              exact bodyPost_ret (v:=.tuple #[.agg #[.string ⟨#[]⟩,.slice none 0 0,.slice none 0 0,.slice none 0 0,.slice none 0 0],.int .i64 1]) (inj_res _ _ (w.heap.size+2) _ _ _ _ _ _ (set5M HR4.out) rfl rfl) rfl (HPz.out 1 _ HMt.out (bel5 HB4.out (by omega)))
            · have h4:wd≤bit:=by omega
              clear hbad
              go_wp2_with fail
              exact bodyPost_ret (v:=.tuple #[.agg #[.string ⟨#[]⟩,.slice none 0 0,.slice none 0 0,.slice none 0 0,.slice none 0 0],.int .i64 1]) (inj_res _ _ (w.heap.size+2) _ _ _ _ _ _ (set5M HR4.out) rfl rfl) rfl (HPz.out 1 _ HMt.out (bel5 HB4.out (by omega)))
      · have HA4:=Lib.hid (HA4.out hbad)
        have HA5:=Lib.hid (HA5.out hbad)
        have h1:¬ cyc < 0:=by omega
        have h2:¬ 4096≤cyc:=by omega
        have h3:¬ bit < 0:=by omega
        have h4:¬ (d.regs[k]'hk).width≤bit:=by omega
        have h5:bit≤15:=by omega
        have hd4:decide ((d.regs[k]'hk).width≤bit)=false:=decide_eq_false h4
        generalize (d.regs[k]'hk).width=wd at g1 hwd h4 hd4
        clear hbad HA3
        go_wp2_with fail
        rw[Har.out] at HFr HUn HD4
        clear d0 d1 d2 d3 d4 y0 y1 y2 y3 y4 yf g1
        refine(HFr.out w4 HB4.out).mono ?_
        rintro r w5 ⟨⟨x1,bw,br,rfl,hN5⟩,hb5⟩
        have HN5:=Lib.hid hN5
        have hz5:=hb5.size
        have HB5:=Lib.hid hb5
        have HD5:=Lib.hid (hx_below hb5 HD4.out)
        have HR5:=Lib.hid (hx_below hb5 HR4.out)
        clear hN5 hb5 HD4 HR4
        obtain⟨bb,hbr,har',hB1,hB2,hfr,hne⟩:=NewD.rblock HN5.out (by omega)
        go_upto_region 10 with fail
        try rw[har']
        generalize hW6:w5.alloc (.cells #[.string d.name,.slice x1.ai d.inputs.length x1.ci,.slice x1.aw d.wires.length x1.cw,.slice (some ⟨bb,0,none⟩) d.regs.length x1.cr,.slice x1.ao d.outputs.length x1.co] 27)=W6
        have hz6:w5.heap.size+1≤W6.heap.size:=by rw[← hW6];simp
        have HB56:Hid (Below w5.heap.size w5 W6):=by show Below _ _ _;rw[← hW6];exact belr
        have HO6:Hid (W6.heap[w5.heap.size]? = some (.cells #[.string d.name,.slice x1.ai d.inputs.length x1.ci,.slice x1.aw d.wires.length x1.cw,.slice (some ⟨bb,0,none⟩) d.regs.length x1.cr,.slice x1.ao d.outputs.length x1.co] 27 (0,0))):=by
          show _=_;rw[← hW6]
          exact hx_new rfl
        clear hW6
        have hI6:InjSt W6 d x1 d.regs (injP w4.heap.size bb w5.heap.size) bb x1.cr:=InjSt.ofNew HN5.out hbr HB56.out (fun j hj h=>by
          rcases injP_true.1 h with h | h | h
          · exact Or.inr h
          · exact Or.inl h
          · omega) (injP_true.2 (Or.inr (Or.inl rfl)))
        have HPt:Hid (∀ j,injP w4.heap.size bb w5.heap.size j=true↔j < w4.heap.size∨j=bb∨j=w5.heap.size):=fun j=>injP_true
        generalize injP w4.heap.size bb w5.heap.size=P at hI6 HPt
        have HI6:=Lib.hid hI6
        have HBw6:Hid (Below w.heap.size w W6):=HB4.out.trans ((HB5.out.trans (HB56.out.mono hz5)).mono (by omega))
        have HD6:=Lib.hid (hx_below HB56.out HD5.out)
        have HR6:=Lib.hid (hx_below HB56.out HR5.out)
        clear hI6 HN5 HB5 HD5 HR5 HB56 hbr har' hfr hne
        obtain⟨cn,HCn⟩:∃ cn,Hid (cn=cntN d):=⟨_,rfl⟩
        rw[← HCn.out] at HUn
        obtain⟨d0,d1,d2,d3,d4,_⟩:=cell5 HD6.out
        go_wp2_with fail
        refine(HUn.out W6 HBw6.out).mono ?_
        rintro r w7 ⟨rfl,hb7⟩
        have hz7:=hb7.size
        have HB67:=Lib.hid hb7
        clear hb7 d0 d1 d2 d3 d4
        go_upto_region 11 with fail
        generalize hW8:w7.alloc (.cells #[.int .i64 2,.int .i64 0,.string cn,.slice none 0 0] 72)=W8
        have hz8:w7.heap.size+1≤W8.heap.size:=by rw[← hW8];simp
        have HB68:Hid (Below W6.heap.size W6 W8):=by show Below _ _ _;rw[← hW8];exact HB67.out.alloc hz7 _
        have HC8:Hid (W8.heap[w7.heap.size]? = some (.cells #[.int .i64 2,.int .i64 0,.string cn,.slice none 0 0] 72 (0,0))):=by
          show _=_;rw[← hW8]
          exact hx_new rfl
        clear hW8
        have HI8:=Lib.hid (HI6.out.below HB68.out)
        have HO8:=Lib.hid (hx_below HB68.out HO6.out)
        obtain⟨na,nc,q3,q4,q5,q6,hXn⟩:=row_next HI8.out hk
        have hcr1:=HI8.out.row.le
        have hcri1:(d.regs.length:Int)≤x1.cr:=by omega
        obtain⟨o0,o1,o2,o3,o4,_⟩:=cell5 HO8.out
        obtain⟨nx,Hnx⟩:∃ nx,Hid (nx=(d.regs[k]'hk).next):=⟨_,rfl⟩
        rw[← Hnx.out] at q3 q4 q5 q6 hXn
        have HX8:=Lib.hid hXn
        clear hXn
        go_upto_region 12 with fail
        generalize hW9:W8.alloc (.cells #[.int .i64 nx.op,.int .i64 nx.n,.string nx.name,.slice na nx.args.length nc] 72)=W9
        have hz9:W8.heap.size+1≤W9.heap.size:=by rw[← hW9];simp
        have HB89:Hid (Below W8.heap.size W8 W9):=by show Below _ _ _;rw[← hW9];exact belr
        have HX9:Hid (W9.heap[W8.heap.size]? = some (.cells #[.int .i64 nx.op,.int .i64 nx.n,.string nx.name,.slice na nx.args.length nc] 72 (0,0))):=by
          show _=_;rw[← hW9]
          exact hx_new rfl
        clear hW9 o0 o1 o2 o3 o4 q3 q4 q5 q6
        have HB69:Hid (Below W6.heap.size W6 W9):=HB68.out.trans (HB89.out.mono (by omega))
        have HC9:=Lib.hid (hx_below HB89.out HC8.out)
        have HI9:=Lib.hid (HI6.out.below HB69.out)
        have HN9:Hid (ExIn (World.hide W9 P) nx na nc):=HX8.out.keep (hk_below HB89.out fun _ _ h=>h).cell
        have HPlt:Hid (∀ j,P j=true→j < W6.heap.size):=fun j hj=>by
          rcases (HPt.out j).1 hj with h | h | h
          · omega
          · omega
          · omega
        clear HB68 HB89 HC8 HI8 HO8 HX8
        go_cut [15] from 63 to 66 (fun s wx=>∃ hb ha hc,s=.pointer (some ⟨hb,0,none⟩)∧Hid (wx.heap[hb]? = some (.cells #[.int .i64 15,.int .i64 0,.string ⟨#[]⟩,.slice ha 2 hc] 72 (0,0)))∧Hid (ExIn (World.hide wx P) (twoE 15 (varE cn) (numE cyc)) ha hc)∧Hid (Below W9.heap.size W9 wx)∧W9.heap.size≤hb)
        case first =>
          have hcz:cn.size≤1073741824:=by rw[HCn.out];have:=cnt_size HSz.out.2;omega
          have HNu:Hid (∀ n W,Below W9.heap.size W9 W→Calls Tryz.prog 68 #[.int .i64 n] W fun r w'=>r=.returned (.agg #[.int .i64 1,.int .i64 n,.string ⟨#[]⟩,.slice none 0 0])∧Below W.heap.size W w'∧Below W9.heap.size W9 w'):=fun n W hW=>lift_to hW (numM_any n W)
          have HTw:Hid (∀ W,Below W9.heap.size W9 W→Calls Tryz.prog 67 #[.int .i64 15,.agg #[.int .i64 2,.int .i64 0,.string cn,.slice none 0 0],.agg #[.int .i64 1,.int .i64 cyc,.string ⟨#[]⟩,.slice none 0 0]] W fun r w'=>(∃ a c,r=.returned (.agg #[.int .i64 15,.int .i64 0,.string ⟨#[]⟩,.slice a 2 c])∧ExIn (World.hide w' (old W.heap.size)) (twoE 15 (varE cn) (numE cyc)) a c)∧Below W.heap.size W w'∧Below W9.heap.size W9 w'):=fun W hW=>lift_to hW ((twoM_any (old W.heap.size) 15 (varE cn) (numE cyc) none none 0 0 W (fun j hj=>old_true.1 hj) (exIn_leafM hcz) (exIn_leafM (by decide))).mono fun _ _ h=>h)
          have HALL:Hid (∀ w',Below W9.heap.size W9 w'→w'.cell? ⟨w7.heap.size,0,none⟩=some (.int .i64 2)∧w'.cell? ⟨w7.heap.size,1,none⟩=some (.int .i64 0)∧w'.cell? ⟨w7.heap.size,2,none⟩=some (.string cn)∧w'.cell? ⟨w7.heap.size,3,none⟩=some (.slice none 0 0)):=fun w' h=>by
            obtain⟨c0,c1,c2,c3,_⟩:=cell4 (hx_below h HC9.out)
            exact⟨c0,c1,c2,c3⟩
          have HP9:Hid (∀ j,P j=true→j < W9.heap.size):=fun j hj=>by have:=HPlt.out j hj;have:=HB69.out.size;omega
          have hb99:Below W9.heap.size W9 W9:=Below.refl _ _
          obtain⟨c0,c1,c2,c3⟩:=HALL.out _ hb99
          go_wp2_with fail
          go_region_held3 (fun w'=>Below W9.heap.size W9 w'∧w'.cell? ⟨w7.heap.size,0,none⟩=some (.int .i64 2)∧w'.cell? ⟨w7.heap.size,1,none⟩=some (.int .i64 0)∧w'.cell? ⟨w7.heap.size,2,none⟩=some (.string cn)∧w'.cell? ⟨w7.heap.size,3,none⟩=some (.slice none 0 0))
            ((refine(fun h=>⟨h,HALL.out _ h⟩) ?_;first | with_reducible assumption | exact belr))
            (first
              | (go_at_call 68;(with_reducible refine(HNu.out _ _ (by first | with_reducible assumption | exact belr)).mono ?_);rintro r w10 ⟨rfl,hb10,hB10⟩;have hz10:=hB10.size;(try (refine cutJ (p:=w10.heap[W9.heap.size]? = some (.cells #[.int .i64 0,.int .i64 0,.string ⟨#[]⟩,.slice none 0 0] 72 (0,0))) ?pr (fun h6=>?_);(case pr=>exact hx_below hb10 (hx_new rfl)))))
              | (go_at_call 67;(with_reducible refine(HTw.out _ (by first | with_reducible assumption | exact belr)).mono ?_);rintro r w11 ⟨⟨a11,c11,rfl,hX11⟩,hb11,hB11⟩;have hz11:=hB11.size;have hy11:=hb11.size;(try (refine cutJ (p:=w11.heap[W9.heap.size]? = some (.cells #[.int .i64 0,.int .i64 0,.string ⟨#[]⟩,.slice none 0 0] 72 (0,0))) ?pr (fun h7=>?_);(case pr=>exact hx_below hb11 h6);obtain⟨g0,g1,g2,g3,gf⟩:=cell4 h7));(try (refine cutJ (p:=w11.heap[w10.heap.size]? = some (.cells #[.int .i64 0,.int .i64 0,.string ⟨#[]⟩,.slice none 0 0] 72 (0,0))) ?pr (fun h7=>?_);(case pr=>exact hx_below hb11 (hx_new rfl));obtain⟨g0,g1,g2,g3,gf⟩:=cell4 h7))))
          all_goals
            go_wp2_with fail
            go_meet
            case rel =>
              first
                | (obtain⟨q1,q2,q3⟩:=hit_set (P:=P) (W9:=W9) h7 hX11 (by first | exact lt_of_block h6 | (simp only[World.size_alloc];omega)) (fun j hj=>by have:=HP9.out j hj;(try simp only[World.size_alloc]);omega) hB11 (by omega)
                   exact⟨_,_,_,rfl,q1,q2,q3,by omega⟩)
                | (obtain⟨q1,q2,q3⟩:=hit_new (P:=P) (W9:=W9) hX11 (fun j hj=>by have:=HP9.out j hj;(try simp only[World.size_alloc]);omega) (fun j hj=>by have:=HP9.out j hj;omega) hB11
                   exact⟨_,_,_,rfl,q1,q2,q3,by omega⟩)
        case rest =>
          obtain⟨hb,ha,hc,rfl,HH,HE15,HBc,hbh⟩:=hcut
          have hzc:=HBc.out.size
          have HBwc:Hid (Below W6.heap.size W6 wc):=HB69.out.trans (HBc.out.mono (by omega))
          have HIc:=Lib.hid (HI9.out.below HBc.out)
          have HXc:=Lib.hid (hx_below HBc.out HX9.out)
          have HCc:=Lib.hid (hx_below HBc.out HC9.out)
          have HNc:Hid (ExIn (World.hide wc P) nx na nc):=HN9.out.keep (hk_below HBc.out fun _ _ h=>h).cell
          have HOc:=Lib.hid (hx_below HBwc.out HO6.out)
          clear HI9 HX9 HC9 HN9 HB69 HBc
          have hrw:=HIc.out.row
          have hlr:=hrw.lt
          have hfr:=fun o=>hrw.unfrozen o
          obtain⟨ma,mc,r3,r4,r5,r6,-⟩:=row_next HIc.out hk
          clear hrw
          obtain⟨o0,o1,o2,o3,o4,_⟩:=cell5 HOc.out
          obtain⟨h0,h1',h2',h3',_⟩:=cell4 HH.out
          obtain⟨n0,n1,n2,n3,_⟩:=cell4 HXc.out
          have HNu:Hid (∀ n W,Below wc.heap.size wc W→Calls Tryz.prog 68 #[.int .i64 n] W fun r w'=>r=.returned (.agg #[.int .i64 1,.int .i64 n,.string ⟨#[]⟩,.slice none 0 0])∧Below W.heap.size W w'∧Below wc.heap.size wc w'):=fun n W hW=>lift_to hW (numM_any n W)
          have hPc:∀ W,Below wc.heap.size wc W→∀ j,P j=true→j < W.heap.size:=fun W hW j hj=>by have:=HPlt.out j hj;have:=hW.size;have:=HBwc.out.size;omega
          have HTw:Hid (∀ n W,Below wc.heap.size wc W→Calls Tryz.prog 67 #[.int .i64 12,.agg #[.int .i64 nx.op,.int .i64 nx.n,.string nx.name,.slice na nx.args.length nc],.agg #[.int .i64 1,.int .i64 n,.string ⟨#[]⟩,.slice none 0 0]] W fun r w'=>(∃ a c,r=.returned (.agg #[.int .i64 12,.int .i64 0,.string ⟨#[]⟩,.slice a 2 c])∧ExIn (World.hide w' P) (twoE 12 nx (numE n)) a c)∧Below W.heap.size W w'∧Below wc.heap.size wc w'):=fun n W hW=>lift_to hW ((twoM_any P 12 nx (numE n) na none nc 0 W (hPc W hW) (HNc.out.keep (hk_below hW fun _ _ h=>h).cell) (exIn_leafM (by decide))).mono fun _ _ h=>h)
          have HCp:Hid (∀ W,Below wc.heap.size wc W→Calls Tryz.prog 69 #[.agg #[.int .i64 nx.op,.int .i64 nx.n,.string nx.name,.slice na nx.args.length nc]] W fun r w'=>(∃ a c,r=.returned (.agg #[.int .i64 nx.op,.int .i64 nx.n,.string nx.name,.slice a nx.args.length c])∧ExIn (World.hide w' P) nx a c)∧Below W.heap.size W w'∧Below wc.heap.size wc w'):=fun W hW=>lift_to hW ((HCo.out nx na nc W ((HNc.out.keep (hk_unhide _ _).cell).keep (keeps_of_below hW))).mono fun _ _ ⟨⟨a,c,h1,h2⟩,h3⟩=>⟨⟨a,c,h1,h2.keep (hk_mono fun j hj=>old_true.2 (hPc W hW j hj)).cell⟩,h3⟩)
          have hbc:Below wc.heap.size wc wc:=Below.refl _ _
          have Hfr:=Lib.hid hfr
          have hbx:hb < wc.heap.size:=lt_of_block HH.out
          have HALL:Hid (∀ w',wc.grownBy w' (some bb)→w'.cell? ⟨w5.heap.size,3,none⟩=some (.slice (some ⟨bb,0,none⟩) d.regs.length x1.cr)∧w'.cell? ⟨hb,0,none⟩=some (.int .i64 15)∧w'.cell? ⟨hb,1,none⟩=some (.int .i64 0)∧w'.cell? ⟨hb,2,none⟩=some (.string ⟨#[]⟩)∧w'.cell? ⟨hb,3,none⟩=some (.slice ha 2 hc)∧w'.cell? ⟨W8.heap.size,0,none⟩=some (.int .i64 nx.op)∧w'.cell? ⟨W8.heap.size,1,none⟩=some (.int .i64 nx.n)∧w'.cell? ⟨W8.heap.size,2,none⟩=some (.string nx.name)∧w'.cell? ⟨W8.heap.size,3,none⟩=some (.slice na nx.args.length nc)):=fun w' h=>by
            obtain⟨_,_,_,b3,_⟩:=cell5 (gr_blk h HOc.out (fun e=>by have:=Option.some.inj e;omega))
            obtain⟨c0,c1,c2,c3,_⟩:=cell4 (gr_blk h HH.out (fun e=>by have:=Option.some.inj e;omega))
            obtain⟨e0,e1,e2,e3,_⟩:=cell4 (gr_blk h HXc.out (fun e=>by have:=Option.some.inj e;omega))
            exact⟨b3,c0,c1,c2,c3,e0,e1,e2,e3⟩
          have hG0:wc.grownBy wc (some bb):=gr_refl _ _
          clear hPc o0 o1 o2 o4
          go_wp2_with fail
          go_region_held3 (fun w'=>wc.grownBy w' (some bb)∧w'.cell? ⟨w5.heap.size,3,none⟩=some (.slice (some ⟨bb,0,none⟩) d.regs.length x1.cr)∧w'.cell? ⟨hb,0,none⟩=some (.int .i64 15)∧w'.cell? ⟨hb,1,none⟩=some (.int .i64 0)∧w'.cell? ⟨hb,2,none⟩=some (.string ⟨#[]⟩)∧w'.cell? ⟨hb,3,none⟩=some (.slice ha 2 hc)∧w'.cell? ⟨W8.heap.size,0,none⟩=some (.int .i64 nx.op)∧w'.cell? ⟨W8.heap.size,1,none⟩=some (.int .i64 nx.n)∧w'.cell? ⟨W8.heap.size,2,none⟩=some (.string nx.name)∧w'.cell? ⟨W8.heap.size,3,none⟩=some (.slice na nx.args.length nc))
            ((refine(fun h=>⟨h,HALL.out _ h⟩) ?_;repeat (first | with_reducible assumption | with_reducible exact gr_refl _ _ | with_reducible refine gr_drew ?_ | with_reducible refine gr_set ?_ | with_reducible refine gr_alloc ?_ _)))
            (first
              | (go_at_call 68;(with_reducible refine(HNu.out _ _ (by first | with_reducible assumption | exact belr)).mono ?_);rintro r w10 ⟨rfl,hb10,hB10⟩;have hG10:=gr_below (gr_refl wc (some bb)) hB10)
              | (go_at_call 67;(with_reducible refine(HTw.out _ _ (by first | with_reducible assumption | exact belr)).mono ?_);rintro r w11 ⟨⟨a11,c11,rfl,hX11⟩,hb11,hB11⟩;have hG11:=gr_below (gr_refl wc (some bb)) hB11)
              | (go_at_call 69;(with_reducible refine(HCp.out _ (by first | with_reducible assumption | exact belr)).mono ?_);rintro r w12 ⟨⟨a12,c12,rfl,hX12⟩,hb12,hB12⟩;have hG12:=gr_below (gr_refl wc (some bb)) hB12;have p3:=keeps_of_below hB12 _ _ r3;have p4:=keeps_of_below hB12 _ _ r4;have p5:=keeps_of_below hB12 _ _ r5;have p6:=keeps_of_below hB12 _ _ r6;have pf:=fun j=>(hB12.frozen (p:=⟨bb,j,none⟩) hlr).trans (hfr j);have hlw:=Nat.lt_of_lt_of_le hlr hB12.size;have P3:=fun o=>keeps_of_below ((Below.refl w12.heap.size w12).alloc (Nat.le_refl _) o) _ _ p3;have P4:=fun o=>keeps_of_below ((Below.refl w12.heap.size w12).alloc (Nat.le_refl _) o) _ _ p4;have P5:=fun o=>keeps_of_below ((Below.refl w12.heap.size w12).alloc (Nat.le_refl _) o) _ _ p5;have P6:=fun o=>keeps_of_below ((Below.refl w12.heap.size w12).alloc (Nat.le_refl _) o) _ _ p6;have PF:=fun (o:Obj) (j:Nat)=>(((Below.refl w12.heap.size w12).alloc (Nat.le_refl _) o).frozen (p:=⟨bb,j,none⟩) hlw).trans (pf j)))
          have hz12:wc.heap.size≤w12.heap.size:=hB12.size
          generalize hZ:(((((w12.setCell ⟨bb,k * 7+3,none⟩ (.int .i64 22)).setCell ⟨bb,k * 7+3+1,none⟩ (.int .i64 0)).setCell ⟨bb,k * 7+3+2,none⟩ (.string ⟨#[]⟩)).setCell ⟨bb,k * 7+3+3,none⟩ (.slice (some ⟨w12.heap.size,0,none⟩) 3 3)).alloc (.cells #[.int .i64 15,.int .i64 0,.string ⟨#[]⟩,.slice ha 2 hc,.int .i64 12,.int .i64 0,.string ⟨#[]⟩,.slice a11 2 c11,.int .i64 nx.op,.int .i64 nx.n,.string nx.name,.slice a12 nx.args.length c12] 72))=Z
          have hgZ:w12.grownBy Z (some bb):=by rw[← hZ];exact gr_alloc (gr_set (gr_set (gr_set (gr_set (gr_refl _ _))))) _
          have hZb:Z.heap[bb]? = ((((w12.setCell ⟨bb,k * 7+3,none⟩ (.int .i64 22)).setCell ⟨bb,k * 7+3+1,none⟩ (.int .i64 0)).setCell ⟨bb,k * 7+3+2,none⟩ (.string ⟨#[]⟩)).setCell ⟨bb,k * 7+3+3,none⟩ (.slice (some ⟨w12.heap.size,0,none⟩) 3 3)).heap[bb]?:=by
            rw[← hZ]
            exact Below.heap_alloc _ _ _ (by simp only[World.size_setCell];omega)
          have hZn:Z.heap[w12.heap.size]? = some (.cells #[.int .i64 15,.int .i64 0,.string ⟨#[]⟩,.slice ha 2 hc,.int .i64 12,.int .i64 0,.string ⟨#[]⟩,.slice a11 2 c11,.int .i64 nx.op,.int .i64 nx.n,.string nx.name,.slice a12 nx.args.length c12] 72 (0,0)):=by
            rw[← hZ]
            exact hx_new (by simp only[World.size_setCell])
          have hZz:w12.heap.size+1≤Z.heap.size:=by rw[← hZ];simp
          clear hZ
          have hpb:P bb=true:=(HPt.out bb).2 (Or.inr (Or.inl rfl))
          have hkZ:=cell_gr hgZ hpb
          have hpw:Hid (IntKind.i64.wrap ((2:Int) ^ bit.toNat)=(2:Int) ^ bit.toNat):=wrap_pow (by omega)
          rw[hpw.out] at hX11
          have hpZ:P w12.heap.size=false:=by
            cases e:P w12.heap.size with
            | false=>rfl
            | true=>have:=HPlt.out _ e;have:=HBwc.out.size;omega
          have heZ:ExIn (World.hide Z P) (hitE cn cyc bit nx) (some ⟨w12.heap.size,0,none⟩) 3 :=
            ⟨by show (0:Nat)≤_;omega,three_row (x:=twoE 15 (varE cn) (numE cyc)) (y:=twoE 12 nx (numE (2 ^ bit.toNat))) (z:=nx) hZn hpZ ((HE15.out.keep (hk_below hB12 fun _ _ h=>h).cell).keep hkZ) ((hX11.keep (hk_below hb12 fun _ _ h=>h).cell).keep hkZ) (hX12.keep hkZ)⟩
          have hIZ:InjSt Z d x1 (d.regs.modify k fun r=>{ r with next:=hitE cn cyc bit nx }) P bb x1.cr:=(HIc.out.below hB12).setG hk hgZ hZb heZ
          have HIZ:=Lib.hid hIZ
          have HGc:Hid (wc.grownBy Z (some bb)):=gr_trans hG12 hgZ
          have HOZ:=Lib.hid (gr_blk HGc.out HOc.out (fun e=>by have:=Option.some.inj e;omega))
          have HCZ:=Lib.hid (gr_blk HGc.out HCc.out (fun e=>by have:=Option.some.inj e;omega))
          have HRZ:=Lib.hid (gr_blk HGc.out (hx_below HBwc.out HR6.out) (fun e=>by have:=Option.some.inj e;omega))
          have HBZ:Hid (Below w.heap.size w Z):=gr_bel (HBw6.out.trans (HBwc.out.mono (by omega))) HGc.out (by omega) fun j hj=>by have:=Option.some.inj hj;omega
          have hzZ:W6.heap.size≤Z.heap.size:=by have:=HBwc.out.size;omega
          have hml:(d.regs.modify k fun r=>({ r with next:=hitE cn cyc bit nx }:RegD)).length=d.regs.length:=List.length_modify _ _ _
          have HJ:Hid (({ d with regs:=(d.regs.modify k fun r=>{ r with next:=hitE cn cyc bit nx })++[⟨cn,16,0,twoE 7 (varE cn) (numE 1)⟩] }:DesD)=injD d k cyc bit):=by
            show _=_
            have hf:∀ r,d.regs[k]? = some r→({ r with next:=hitE cn cyc bit nx }:RegD)={ r with next:=hitE cn cyc bit r.next }:=fun r hr=>by
              rw[List.getElem?_eq_getElem hk] at hr
              rw[Hnx.out,Option.some.inj hr]
            unfold injD
            rw[← HCn.out,modify_congr d.regs k _ _ hf]
          clear hIZ heZ hpZ hkZ hpb hZn hZb hgZ hX11 hX12 hb10 hB10 hb11 hB11 hb12 hB12 hG10 hG11 hG12 p3 p4 p5 p6 pf P3 P4 P5 P6 PF hlw HALL HCp HTw HNu hG0 hbc h0 h1' h2' h3' n0 n1 n2 n3 o3 r3 r4 r5 r6 hfr HGc HIc HXc HCc HNc HOc HH HE15
          generalize hrg:(d.regs.modify k fun r=>({ r with next:=hitE cn cyc bit nx }:RegD))=rg at HIZ hml HJ
          clear hrg
          obtain⟨xs,hxo,hxP⟩:=HIZ.out.row.owns (B:=w4.heap.size) hB1 HIZ.out.capm
          have HxO:=Lib.hid hxo
          have HxP:=Lib.hid hxP
          have hbZ:bb < Z.heap.size:=HIZ.out.row.lt
          clear hxo hxP
          rw[hml] at HxO
          go_upto_region 14 with fail
          have HPr:P (w.heap.size+2)=true:=(HPt.out _).2 (Or.inl (by omega))
          have HPo:P w5.heap.size=true:=(HPt.out _).2 (Or.inr (Or.inr rfl))
          go_cut [] from 82 to 92 (fun wx=>∃ (g cap:Nat) (P':Nat→Bool),Hid (InjSt wx d x1 (rg++[(⟨cn,16,0,twoE 7 (varE cn) (numE 1)⟩:RegD)]) P' g cap)∧Hid (wx.heap[w5.heap.size]? = some (.cells #[.string d.name,.slice x1.ai d.inputs.length x1.ci,.slice x1.aw d.wires.length x1.cw,.slice (some ⟨g,0,none⟩) (d.regs.length+1) cap,.slice x1.ao d.outputs.length x1.co] 27 (0,0)))∧Hid (wx.heap[w.heap.size+2]? = some (.cells #[.string ⟨#[]⟩,.slice none 0 0,.slice none 0 0,.slice none 0 0,.slice none 0 0] 27 (0,0)))∧Hid (Below w.heap.size w wx)∧P' (w.heap.size+2)=true∧w.heap.size+2≠g)
          case first =>
            have HNu:Hid (∀ n W,Below Z.heap.size Z W→Calls Tryz.prog 68 #[.int .i64 n] W fun r w'=>r=.returned (.agg #[.int .i64 1,.int .i64 n,.string ⟨#[]⟩,.slice none 0 0])∧Below W.heap.size W w'∧Below Z.heap.size Z w'):=fun n W hW=>lift_to hW (numM_any n W)
            have hcz:cn.size≤1073741824:=by rw[HCn.out];have:=cnt_size HSz.out.2;omega
            have HTw:Hid (∀ W,Below Z.heap.size Z W→Calls Tryz.prog 67 #[.int .i64 7,.agg #[.int .i64 2,.int .i64 0,.string cn,.slice none 0 0],.agg #[.int .i64 1,.int .i64 1,.string ⟨#[]⟩,.slice none 0 0]] W fun r w'=>(∃ a c,r=.returned (.agg #[.int .i64 7,.int .i64 0,.string ⟨#[]⟩,.slice a 2 c])∧ExIn (World.hide w' P) (twoE 7 (varE cn) (numE 1)) a c)∧Below W.heap.size W w'∧Below Z.heap.size Z w'):=fun W hW=>lift_to hW ((twoM_any P 7 (varE cn) (numE 1) none none 0 0 W (fun j hj=>by have:=HPlt.out j hj;have:=hW.size;omega) (exIn_leafM hcz) (exIn_leafM (by decide))).mono fun _ _ h=>h)
            have HALL:Hid (∀ w',Z.grownBy w' (some bb)→w'.cell? ⟨w5.heap.size,3,none⟩=some (.slice (some ⟨bb,0,none⟩) d.regs.length x1.cr)∧w'.cell? ⟨w7.heap.size,0,none⟩=some (.int .i64 2)∧w'.cell? ⟨w7.heap.size,1,none⟩=some (.int .i64 0)∧w'.cell? ⟨w7.heap.size,2,none⟩=some (.string cn)∧w'.cell? ⟨w7.heap.size,3,none⟩=some (.slice none 0 0)):=fun w' h=>by
              obtain⟨_,_,_,b3,_⟩:=cell5 (gr_blk h HOZ.out (fun e=>by have:=Option.some.inj e;omega))
              obtain⟨c0,c1,c2,c3,_⟩:=cell4 (gr_blk h HCZ.out (fun e=>by have:=Option.some.inj e;omega))
              exact⟨b3,c0,c1,c2,c3⟩
            have HALF:Hid (∀ w',Z.grownBy w' (some bb)→w'.frozen? ⟨w5.heap.size,3,none⟩=false):=fun w' h=>by
              obtain⟨_,_,_,_,_,bf⟩:=cell5 (gr_blk h HOZ.out (fun e=>by have:=Option.some.inj e;omega))
              exact bf 3
            have hG0:Z.grownBy Z (some bb):=gr_refl _ _
            have hbz:Below Z.heap.size Z Z:=Below.refl _ _
            have hB4Z:w4.heap.size≤Z.heap.size:=by omega
            obtain⟨o3,c0,c1,c2,c3⟩:=HALL.out _ hG0
            go_wp2_with fail
            go_region_law (first
              | (refine own_step elemRg (by rfl) _ _ (by rfl) w4.heap.size (.slice (some ⟨bb,0,none⟩) d.regs.length x1.cr) d.regs.length xs (by rfl) (ownsRow_below HxO.out belr) [.string cn,.int .i64 16,.int .i64 0,.int .i64 7,.int .i64 0,.string ⟨#[]⟩,.slice a14 2 c14] (by rfl) (by simp[Value.oneCell']) _ 1 (by rfl) (heap_alloc_new' _ _) (by omega) sz _ rfl ?_;intro g gcap wg hownG hgrow hatG hltG;have hGg:=gr_trans (gr_alloc hG14 _) hgrow;have cg:=(HALL.out _ hGg).1;have fg:=HALF.out _ hGg)
              | (go_simp;go_at_call 68;(with_reducible refine(HNu.out _ _ (by first | with_reducible assumption | exact belr)).mono ?_);rintro r w13 ⟨rfl,hb13,hB13⟩;have hG13:=gr_below (gr_refl Z (some bb)) hB13;obtain⟨o3,c0,c1,c2,c3⟩:=HALL.out _ hG13)
              | (go_simp;go_at_call 67;(with_reducible refine(HTw.out _ (by first | with_reducible assumption | exact belr)).mono ?_);rintro r w14 ⟨⟨a14,c14,rfl,hX14⟩,hb14,hB14⟩;have hG14:=gr_below (gr_refl Z (some bb)) hB14;have hz14:=hB14.size;obtain⟨o3,c0,c1,c2,c3⟩:=HALL.out _ hG14;have O3:=fun o=>keeps_of_below ((Below.refl w14.heap.size w14).alloc (Nat.le_refl _) o) _ _ o3))
            all_goals
              have hG14':=gr_alloc hG14 (.cells #[.string cn,.int .i64 16,.int .i64 0,.int .i64 7,.int .i64 0,.string ⟨#[]⟩,.slice a14 2 c14] 76)
              have hbx:Below w14.heap.size w14 (w14.alloc (.cells #[.string cn,.int .i64 16,.int .i64 0,.int .i64 7,.int .i64 0,.string ⟨#[]⟩,.slice a14 2 c14] 76)):=(Below.refl _ _).alloc (Nat.le_refl _) _
              have hat2:bb=g∨w14.heap.size≤g:=hatG.imp (fun h=>Option.some.inj h) fun h=>by rw[h];simp
              have hgne:w5.heap.size≠g∧w.heap.size+2≠g:=by rcases hat2 with h | h<;>omega
              have hIw:=HIZ.out.below hB14
              have hIa:InjSt wg d x1 (rg++[(⟨cn,16,0,twoE 7 (varE cn) (numE 1)⟩:RegD)]) (fun j=>P j || j == g) g gcap:=by
                have hxo:=ownsRow_below HxO.out hB14
                rw[← hml] at hxo
                refine InjSt.app (a:=a14) (c:=c14) (B:=w4.heap.size) hIw hxo (fun i hi=>?_) hbx hgrow hat2 (by rw[hml];exact hownG) hX14 (fun j hj hq=>?_) (by simp)
                · obtain⟨v,av,cv,g0,g1,g2,g3,g4,g5,g6,g7,g8⟩:=HxP.out i hi
                  exact⟨v,av,cv,g0,g1,g2,g3,g4,g5,g6,g7,g8.keep (hk_below hB14 fun _ _ h=>h).cell⟩
                · rw[Bool.or_eq_true] at hq
                  rcases hq with h | h
                  · exact h
                  · have h:j=g:=by simpa using h
                    rcases hat2 with h2 | h2
                    · rw[h,← h2];exact HIZ.out.hg
                    · omega
              have HIa:=Lib.hid hIa
              have HGg:=Lib.hid hGg
              have HOg:=Lib.hid (gr_blk hGg HOZ.out (fun e=>by have:=Option.some.inj e;omega))
              have HRg:=Lib.hid (gr_blk hGg HRZ.out (fun e=>by have:=Option.some.inj e;omega))
              have HBg:Hid (Below w.heap.size w wg):=gr_bel HBZ.out hGg (by omega) fun j hj=>by have:=Option.some.inj hj;omega
              clear hIa hIw hX14 hb14 hB14 hb13 hB13 hG13 hG14 hG14' hbx hat2 hownG hgrow hatG hltG hGg
              go_wp2_with fail
              go_meet
              case rel =>
                refine⟨g,gcap,(fun j=>P j || j == g),?_,?_,?_,?_,by simp only[HPr,Bool.true_or],hgne.2⟩
                · exact(HIa.out.gr (b:=w5.heap.size) (gr_set (gr_refl _ _)) (by simp only[HPo,Bool.true_or]) hgne.1).to (fun _ _ h=>h) rfl HIa.out.hg
                · show _=_
                  rw[heap_setCell_same _ _ _ _ _ _ HOg.out]
                  rfl
                · exact hx_set HRg.out (by omega)
                · exact HBg.out.setCell (show w.heap.size≤w5.heap.size by omega) _
          case rest =>
            obtain⟨g,cap,P',HI,HO,HR,HB,hPr,hgr⟩:=hcut
            have hlen:(rg++[(⟨cn,16,0,twoE 7 (varE cn) (numE 1)⟩:RegD)]).length=d.regs.length+1:=by rw[List.length_append,List.length_singleton,hml]
            have hDJ:=HI.out.des (by rw[hlen];omega)
            have hdv:desVal (injD d k cyc bit) ⟨x1.ai,x1.ci,x1.aw,x1.cw,some ⟨g,0,none⟩,cap,x1.ao,x1.co⟩=.agg #[.string d.name,.slice x1.ai d.inputs.length x1.ci,.slice x1.aw d.wires.length x1.cw,.slice (some ⟨g,0,none⟩) (d.regs.length+1) cap,.slice x1.ao d.outputs.length x1.co]:=by
              rw[← HJ.out]
              simp only[desVal,desVals,hlen]
            rw[HJ.out] at hDJ
            have hV:=HVJ.out k _ wc HB.out hDJ
            rw[hdv] at hV
            have HVc:=Lib.hid hV
            have Hdv:=Lib.hid hdv
            have Hlen:=Lib.hid hlen
            obtain⟨o0,o1,o2,o3,o4,_⟩:=cell5 HO.out
            clear hDJ hV hdv hlen
            go_wp2_with fail
            refine HVc.out.mono ?_
            rintro r w20 ⟨rfl,hb20⟩
            have HI20:=Lib.hid (HI.out.below hb20)
            have HO20:=Lib.hid (hx_below hb20 HO.out)
            have HR20:=Lib.hid (hx_below hb20 HR.out)
            have HB20:Hid (Below w.heap.size w w20):=HB.out.trans (hb20.mono HB.out.size)
            clear hb20 HI HO HR HB HVc o0 o1 o2 o3 o4
            obtain⟨o0,o1,o2,o3,o4,_⟩:=cell5 HO20.out
            obtain⟨y0,y1,y2,y3,y4,yf⟩:=cell5 HR20.out
            by_cases hej:(injD d k cyc bit).err=0
            · have HMt:=Lib.hid (HA5.out hej)
              rw[hej]
              clear hej HA4 HA5
              go_wp2_with fail
              refine bodyPost_ret (v:=.tuple #[.agg #[.string d.name,.slice x1.ai d.inputs.length x1.ci,.slice x1.aw d.wires.length x1.cw,.slice (some ⟨g,0,none⟩) (d.regs.length+1) cap,.slice x1.ao d.outputs.length x1.co],.int .i64 0]) (inj_res _ _ (w.heap.size+2) _ _ _ _ _ _ (set5M HR20.out) rfl rfl) rfl ?_
              have hIf:=HI20.out.gr (b:=w.heap.size+2) (gr_set (o:=4) (u:=.slice x1.ao d.outputs.length x1.co) (gr_set (o:=3) (u:=.slice (some ⟨g,0,none⟩) (d.regs.length+1) cap) (gr_set (o:=2) (u:=.slice x1.aw d.wires.length x1.cw) (gr_set (o:=1) (u:=.slice x1.ai d.inputs.length x1.ci) (gr_set (o:=0) (u:=.string d.name) (gr_refl _ _)))))) hPr hgr
              have hDf:=hIf.des (by rw[Hlen.out];omega)
              rw[HJ.out] at hDf
              have h:=HPm.out (injD d k cyc bit) ⟨x1.ai,x1.ci,x1.aw,x1.cw,some ⟨g,0,none⟩,cap,x1.ao,x1.co⟩ _ HMt.out hDf (bel5 HB20.out (by omega))
              have h2:(Value.agg #[.string (injD d k cyc bit).name,.slice x1.ai (injD d k cyc bit).inputs.length x1.ci,.slice x1.aw (injD d k cyc bit).wires.length x1.cw,.slice (some ⟨g,0,none⟩) (injD d k cyc bit).regs.length cap,.slice x1.ao (injD d k cyc bit).outputs.length x1.co])=.agg #[.string d.name,.slice x1.ai d.inputs.length x1.ci,.slice x1.aw d.wires.length x1.cw,.slice (some ⟨g,0,none⟩) (d.regs.length+1) cap,.slice x1.ao d.outputs.length x1.co]:=Hdv.out
              simp only at h
              rw[h2] at h
              exact h
            · have HMt:=Lib.hid (HA4.out hej)
              have hee:((injD d k cyc bit).err != 0)=true:=by simpa using hej
              clear hej HA4 HA5
              go_wp2_with fail
              exact bodyPost_ret (v:=.tuple #[.agg #[.string ⟨#[]⟩,.slice none 0 0,.slice none 0 0,.slice none 0 0,.slice none 0 0],.int .i64 2]) (inj_res _ _ (w.heap.size+2) _ _ _ _ _ _ (set5M HR20.out) rfl rfl) rfl (HPz.out 2 _ HMt.out (bel5 HB20.out (by omega)))
  · have HMt:=Lib.hid (HA1.out he)
    have hee:(d.err != 0)=true:=by simpa using he
    clear he HVJ HUn HA2 HA3 HA4 HA5 HSz
    go_wp2_with fail
    exact bodyPost_ret (v:=.tuple #[.agg #[.string ⟨#[]⟩,.slice none 0 0,.slice none 0 0,.slice none 0 0,.slice none 0 0],.int .i64 d.err]) (inj_res _ _ (w.heap.size+2) _ _ _ _ _ _ (set5M HR3.out) rfl rfl) rfl (HPz.out d.err _ HMt.out (bel5 HB3.out (by omega)))
end Go.Proofs.YtebneadheaefdaaGreatDoor
