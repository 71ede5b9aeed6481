/- mutate.collect: the designs that are valid, with their new names. -/
import Derived.Test.YtebneadheaefdaaGreatDoorFG
import Derived.Test.YtebneadheaefdaaGreatDoorDJ
set_option linter.unusedSimpArgs false
set_option linter.unusedVariables false
set_option linter.unnecessarySimpa false
namespace Go.Proofs.YtebneadheaefdaaGreatDoor
open Go.RowKit
attribute [local go_sem ↓] Go.wp_at_zero Go.wp_at_succ
def CollPost (B:Nat) (w:World) (l:List Mut) (r:Ending) (w':World):Prop:=(∃ v L,r=.returned v∧OwnM w' B v L∧L.map mutOf=l)∧Below B w w'
theorem addM_yes {l:List Mut} {m:Mut} (h:(m.1.named l.length).err=0):addM l m=l++[(m.1.named l.length,m.2)]:=if_pos h
theorem addM_no {l:List Mut} {m:Mut} (h:¬ (m.1.named l.length).err=0):addM l m=l:=if_neg h
theorem MutsIn.mono {B B':Nat} {H:World} {L:List MA} {a:Option Addr} {cap:Nat} (h:MutsIn B H L a cap) (hB:B'≤B):MutsIn B' H L a cap :=
 SliceIn.mono h fun _ _ _ _ ⟨m,h1,h2,bw,br,h3⟩=>⟨m,h1,h2,bw,br,NewD.mono h3 hB⟩
theorem NewA.named {W:World} {B:Nat} {d:DesD} {x:DesA} {bw br:Option Nat} (h:NewA W B d x bw br) (k:Nat):NewA W B (d.named k) x bw br:=⟨h.ne,h.ins,h.outs,h.wires,h.regs⟩
theorem cell6 {W:World} {b:Nat} {m0 m1 m2 m3 m4 m5:Value} {t:TypeId} (h:W.heap[b]? = some (.cells #[m0,m1,m2,m3,m4,m5] t (0,0))):W.cell? ⟨b,0,none⟩=some m0∧W.cell? ⟨b,1,none⟩=some m1∧W.cell? ⟨b,2,none⟩=some m2∧W.cell? ⟨b,3,none⟩=some m3∧W.cell? ⟨b,4,none⟩=some m4∧W.cell? ⟨b,5,none⟩=some m5∧∀ o,W.frozen? ⟨b,o,none⟩=false :=
 ⟨cell_of_blk h 0,cell_of_blk h 1,cell_of_blk h 2,cell_of_blk h 3,cell_of_blk h 4,cell_of_blk h 5,fun o=>by simp[World.frozen?,h]⟩
set_option maxHeartbeats 16000000 in
set_option maxRecDepth 100000 in
theorem collect_any {B0:Nat} {w0:World} (hF:∀ n:Int,0≤n→n≤65535→FmtC B0 w0 n) (hG:∀ W,Below B0 w0 W→Glob W) (nm:ByteArray) (hnm:nm.size≤16) (B:Nat) (hBB:B0≤B) (v:Value) (L:List MA) (a2:Option Addr) (c2:Nat) (L2:List MA) (w:World)
  (hB:B≤w.heap.size) (hb0:Below B0 w0 w) (hO:OwnM w B v L) (hI:MutsIn B (World.hide w (ownP v)) L2 a2 c2) (h2:∀ m∈L2,m.1.name=nm∧∀ k,k≤65535→DesSmall (m.1.named k)) (hl:L.length+L2.length≤65535) :
  Calls Tryz.prog 113 #[.string nm,v,.slice a2 L2.length c2] w (CollPost B w ((L2.map mutOf).foldl addM (L.map mutOf))):=by
 have HF:=Lib.hid hF
 have HG:=Lib.hid hG
 have HO0:=Lib.hid hO
 have HI0:=Lib.hid hI
 have HEl:=Lib.hid (SliceIn.addr hI)
 have H2:Hid (∀ k (hk:k < L2.length),(L2[k]'hk).1.name=nm∧∀ j,j≤65535→DesSmall ((L2[k]'hk).1.named j)):=fun k hk=>h2 _ (List.getElem_mem hk)
 have Hb0:=Lib.hid hb0
 have HP:Hid (∀ v' L' W,OwnM W B v' L'→L'.map mutOf=(L2.map mutOf).foldl addM (L.map mutOf)→Below B w W→CollPost B w ((L2.map mutOf).foldl addM (L.map mutOf)) (.returned v') W):=fun v' L' W q1 q2 q3=>⟨⟨v',L',rfl,q1,q2⟩,q3⟩
 have HLz:Hid (L.map mutOf=((L2.take 0).map mutOf).foldl addM (L.map mutOf)):=rfl
 obtain⟨va0,vc0,rfl,_⟩:=hO.slice (by omega)
 clear hO hI h2 hb0
 generalize CollPost B w ((L2.map mutOf).foldl addM (L.map mutOf))=Po at HP⊢
 go_enter Tryz.func113, Tryz.ntmps113
 go_wp2_with fail
 go_loopw [11,1] (fun j v wr=>∃ (k:Nat) (L':List MA),j=.int .i64 k∧k≤L2.length∧L'.length≤L.length+k∧Hid (L'.map mutOf=((L2.take k).map mutOf).foldl addM (L.map mutOf))∧Hid (OwnM wr B v L')∧Hid (MutsIn B (World.hide wr (ownP v)) L2 a2 c2)∧Hid (Below B w wr)) (fun j _ _=>L2.length - (intOf j).toNat)
 case atStart=>exact⟨0,L,rfl,Nat.zero_le _,Nat.le_refl _,HLz,HO0,HI0,Below.refl _ _⟩
 case round =>
  obtain⟨k,L',rfl,hk,hLk,HL,HO,HI,HB⟩:=hrel
  have hzr:=HB.out.size
  have Hb0r:Hid (Below B0 w0 wr):=Hb0.out.trans (HB.out.mono hBB)
  obtain⟨va,vc,rfl,hvc,hvo,_⟩:=HO.out.slice (by omega)
  have HVo:=Lib.hid hvo
  clear hvo
  by_cases hlt:k < L2.length
  ·obtain⟨b,off,ha⟩:=HEl.out.resolve_left (by omega)
   obtain⟨hcs,hmp⟩:=HI.out.get ha hlt
   obtain⟨hname,hsm⟩:=H2.out k hlt
   have HLs:Hid (((L2.take (k+1)).map mutOf).foldl addM (L.map mutOf)=addM (((L2.take k).map mutOf).foldl addM (L.map mutOf)) (mutOf (L2[k]'hlt))):=by
    show _=_
    rw[List.take_add_one,List.getElem?_eq_getElem hlt,List.map_append,List.foldl_append]
    rfl
   generalize (L2[k]'hlt)=m at hcs hmp hname hsm HLs
   obtain⟨d,x,t⟩:=m
   subst ha
   have q0:=hide_cell _ _ (hcs 0 _ rfl)
   have q1:=hide_cell _ _ (hcs 1 _ rfl)
   have q2:=hide_cell _ _ (hcs 2 _ rfl)
   have q3:=hide_cell _ _ (hcs 3 _ rfl)
   have q4:=hide_cell _ _ (hcs 4 _ rfl)
   have q5:=hide_cell _ _ (hcs 5 _ rfl)
   simp only at hname hsm q0 q1 q2 q3 q4 q5
   rw[hname] at q0
   simp only[Nat.add_zero] at q0
   have Hname:=Lib.hid hname
   have Hmp:=Lib.hid hmp
   have HLl:Hid ((((L2.take k).map mutOf).foldl addM (L.map mutOf)).length=L'.length):=by show _=_;rw[← HL.out,List.length_map]
   have hfs:(fmtS L'.length).size≤65536:=by have:=fmt_len L'.length;omega
   have HFm:Hid (∀ W,Below wr.heap.size wr W→Calls Tryz.prog 86 #[.int .i64 L'.length] W fun e w'=>e=.returned (.string (fmtS L'.length))∧Below W.heap.size W w'):=fun W hW=>HF.out L'.length (by omega) (by omega) W (Hb0r.out.trans (hW.mono (by omega)))
   have Hsm:Hid (DesSmall (d.named L'.length)):=hsm _ (by omega)
   have HNn:Hid ((nm++⟨#[95]⟩)++fmtS L'.length=(d.named L'.length).name):=by show _=(d.name++⟨#[95]⟩)++fmtS L'.length;rw[Hname.out]
   have HVd:Hid (∀ W,Below wr.heap.size wr W→Calls Tryz.prog 36 #[.agg #[.string ((nm++⟨#[95]⟩)++fmtS L'.length),.slice x.ai d.inputs.length x.ci,.slice x.aw d.wires.length x.cw,.slice x.ar d.regs.length x.cr,.slice x.ao d.outputs.length x.co]] W fun e w'=>e=.returned (.int .i64 (d.named L'.length).err)∧Below W.heap.size W w'):=fun W hW=>by
    obtain⟨bw,br,hN⟩:=Hmp.out
    have hD:DesIn W (d.named L'.length) x:=((NewA.named hN L'.length).keep ((hk_unhide _ _).trans (hk_plain hW))).des
    have h:=ValidD_any (d.named L'.length) x W hD Hsm.out (HG.out W (Hb0r.out.trans (hW.mono (by omega))))
    rw[HNn.out]
    exact h
   have hn1:¬ 9223372036854775807 < nm.size+1:=by omega
   have hn2:¬ 9223372036854775807 < nm.size+1+(fmtS L'.length).size:=by omega
   clear hcs hmp hname hsm
   generalize fmtS (L'.length:Int)=fs at HFm HVd HNn hfs hn2
   go_wp2_with fail
   generalize hW4:wr.alloc (.cells #[.string nm,.slice x.ai d.inputs.length x.ci,.slice x.aw d.wires.length x.cw,.slice x.ar d.regs.length x.cr,.slice x.ao d.outputs.length x.co,.string t] 98)=W4
   have hz4:wr.heap.size+1≤W4.heap.size:=by rw[← hW4];simp
   have HB4:Hid (Below wr.heap.size wr W4):=by show Below _ _ _;rw[← hW4];exact belr
   have HX4:Hid (W4.heap[wr.heap.size]? = some (.cells #[.string nm,.slice x.ai d.inputs.length x.ci,.slice x.aw d.wires.length x.cw,.slice x.ar d.regs.length x.cr,.slice x.ao d.outputs.length x.co,.string t] 98 (0,0))):=by
    show _=_;rw[← hW4]
    exact hx_new rfl
   clear hW4 q0 q1 q2 q3 q4 q5
   refine(HFm.out W4 HB4.out).mono ?_
   rintro r w5 ⟨rfl,hb5⟩
   have hz5:=hb5.size
   have HB5:Hid (Below wr.heap.size wr w5):=HB4.out.trans (hb5.mono (by omega))
   have HX5:Hid (w5.heap[wr.heap.size]? = some (.cells #[.string nm,.slice x.ai d.inputs.length x.ci,.slice x.aw d.wires.length x.cw,.slice x.ar d.regs.length x.cr,.slice x.ao d.outputs.length x.co,.string t] 98 (0,0))):=hx_below hb5 HX4.out
   obtain⟨e0,e1,e2,e3,e4,e5,ef⟩:=cell6 HX5.out
   clear hb5
   go_upto_region 5 with fail
   generalize hW6:w5.setCell ⟨wr.heap.size,0,none⟩ (.string ((nm++⟨#[95]⟩)++fs))=W6
   have hz6:w5.heap.size≤W6.heap.size:=by rw[← hW6];simp
   have HB6:Hid (Below wr.heap.size wr W6):=by show Below _ _ _;rw[← hW6];exact HB5.out.setCell (Nat.le_refl _) _
   have HX6:Hid (W6.heap[wr.heap.size]? = some (.cells #[.string ((nm++⟨#[95]⟩)++fs),.slice x.ai d.inputs.length x.ci,.slice x.aw d.wires.length x.cw,.slice x.ar d.regs.length x.cr,.slice x.ao d.outputs.length x.co,.string t] 98 (0,0))):=by
    show _=_;rw[← hW6,heap_setCell_same _ _ _ _ _ _ HX5.out]
    rfl
   clear hW6 e0 e1 e2 e3 e4 e5 ef hn1 hn2
   obtain⟨e0,e1,e2,e3,e4,e5,_⟩:=cell6 HX6.out
   go_wp2_with fail
   refine(HVd.out W6 HB6.out).mono ?_
   rintro r w7 ⟨rfl,hb7⟩
   have hz7:=hb7.size
   have HB7:Hid (Below wr.heap.size wr w7):=HB6.out.trans (hb7.mono (by omega))
   have HX7:Hid (w7.heap[wr.heap.size]? = some (.cells #[.string ((nm++⟨#[95]⟩)++fs),.slice x.ai d.inputs.length x.ci,.slice x.aw d.wires.length x.cw,.slice x.ar d.regs.length x.cr,.slice x.ao d.outputs.length x.co,.string t] 98 (0,0))):=hx_below hb7 HX6.out
   clear hb7 e0 e1 e2 e3 e4 e5
   by_cases he:(d.named L'.length).err=0
   ·have HAd:Hid (addM (((L2.take k).map mutOf).foldl addM (L.map mutOf)) (mutOf (d,x,t))=L'.map mutOf++[(d.named L'.length,t)]):=by
     show _=_
     have e2:(((d,x,t):MA) |> mutOf).1=d:=rfl
     rw[addM_yes (by rw[HLl.out];exact he),HLl.out,← HL.out]
     rfl
    rw[he]
    clear he
    obtain⟨e0,e1,e2,e3,e4,e5,_⟩:=cell6 HX7.out
    have hOr:=Lib.hid (HO.out.below (mutP_keep _) HB7.out)
    have hzB:B≤w7.heap.size:=by omega
    have HAP:Hid (∀ {ops:Array Oper} {rest:List Oper} {o:Oper} {a:Act} {Q:Exit→Act→World→Prop},o.guard=none→o.op=.call { callee:=.builtin .append,args:=#[.tmp 27,.tmp 29],argTypes:=#[94, 94] }→a.eval (.tmp 27)=.slice va L'.length vc→a.eval (.tmp 29)=.slice (some ⟨w7.heap.size,0,none⟩) 1 1 →
      (∀ g cap w',w'.ownsRow B 98 6 (.slice (some ⟨g,0,none⟩) (L'.length+1) cap) (L'.length+1) (L'.flatMap mutCells++[.string ((nm++⟨#[95]⟩)++fs),.slice x.ai d.inputs.length x.ci,.slice x.aw d.wires.length x.cw,.slice x.ar d.regs.length x.cr,.slice x.ao d.outputs.length x.co,.string t])→(w7.alloc (.cells #[.string ((nm++⟨#[95]⟩)++fs),.slice x.ai d.inputs.length x.ci,.slice x.aw d.wires.length x.cw,.slice x.ar d.regs.length x.cr,.slice x.ao d.outputs.length x.co,.string t] 98)).grownBy w' (Value.slice va L'.length vc).ownBlock→((Value.slice va L'.length vc).ownBlock=some g∨w7.heap.size < g)→wpList Tryz.prog ops Q rest (a.put o.dst (.slice (some ⟨g,0,none⟩) (L'.length+1) cap)) w') →
      wpList Tryz.prog ops Q (o::rest) a (w7.alloc (.cells #[.string ((nm++⟨#[95]⟩)++fs),.slice x.ai d.inputs.length x.ci,.slice x.aw d.wires.length x.cw,.slice x.ar d.regs.length x.cr,.slice x.ao d.outputs.length x.co,.string t] 98))):=fun hgd ho hs hx h =>
     own_appx elemMut w7 hgd _ _ ho B _ L'.length _ hs hOr.out.own [.string ((nm++⟨#[95]⟩)++fs),.slice x.ai d.inputs.length x.ci,.slice x.aw d.wires.length x.cw,.slice x.ar d.regs.length x.cr,.slice x.ao d.outputs.length x.co,.string t] 1 _ 1 rfl (by simp[Value.oneCell']) hx rfl (by omega) (by omega) hzB h
    go_wp2_with (at_builtin;go_must (refine HAP.out rfl rfl rfl rfl ?_))
    intro g gcap wg hownG hgrow hatG
    have hbX:Below w7.heap.size w7 (w7.alloc (.cells #[.string ((nm++⟨#[95]⟩)++fs),.slice x.ai d.inputs.length x.ci,.slice x.aw d.wires.length x.cw,.slice x.ar d.regs.length x.cr,.slice x.ao d.outputs.length x.co,.string t] 98)):=(Below.refl _ w7).alloc (Nat.le_refl _) _
    have hkX:HK (World.hide wr (ownP (.slice va L'.length vc))) (World.hide (w7.alloc (.cells #[.string ((nm++⟨#[95]⟩)++fs),.slice x.ai d.inputs.length x.ci,.slice x.aw d.wires.length x.cw,.slice x.ar d.regs.length x.cr,.slice x.ao d.outputs.length x.co,.string t] 98)) (ownP (.slice va L'.length vc))):=hk_below (HB7.out.trans (hbX.mono HB7.out.size)) fun _ _ h=>h
    have hcl:mutCells (d.named L'.length,x,t)=[.string ((nm++⟨#[95]⟩)++fs),.slice x.ai d.inputs.length x.ci,.slice x.aw d.wires.length x.cw,.slice x.ar d.regs.length x.cr,.slice x.ao d.outputs.length x.co,.string t]:=by
     unfold mutCells
     rw[HNn.out]
     rfl
    have hat2:(Value.slice va L'.length vc).ownBlock=some g∨(w7.alloc (.cells #[.string ((nm++⟨#[95]⟩)++fs),.slice x.ai d.inputs.length x.ci,.slice x.aw d.wires.length x.cw,.slice x.ar d.regs.length x.cr,.slice x.ao d.outputs.length x.co,.string t] 98)).heap.size≤g:=hatG.imp id fun h=>by rw[World.size_alloc];omega
    have HOg:Hid (OwnM wg B (.slice (some ⟨g,0,none⟩) (L'.length+1) gcap) (L'++[(d.named L'.length,x,t)])):=by
     refine(hOr.out.below (mutP_keep _) hbX).add (mutP_keep _) ?_ hgrow hat2 (by rw[hcl];exact hownG)
     obtain⟨bw,br,hN⟩:=Hmp.out
     exact⟨bw,br,NewD.keep (NewA.named hN L'.length) hkX⟩
    have hbes:∀ v,besP (fun _=>false) v=ownP v:=fun v=>by funext j;simp[besP]
    have hka:=app_hk (n:=L'.length+1) (cap:=gcap) hgrow hat2 (fun _=>false)
    rw[hbes,hbes] at hka
    have HIg:=Lib.hid (HI.out.keep (hkX.trans hka))
    have HBg:Hid (Below B w wg):=gr_bel (HB.out.trans ((HB7.out.trans (hbX.mono HB7.out.size)).mono (by omega))) hgrow (by have:=hbX.size;omega) (fun k hk=>(HVo.out k hk).1)
    have HLg:Hid ((L'++[(d.named L'.length,x,t)]:List MA).map mutOf=((L2.take (k+1)).map mutOf).foldl addM (L.map mutOf)):=by
     show _=_
     rw[HLs.out,HAd.out,List.map_append]
     rfl
    clear hbX hkX hcl hownG hgrow hatG hat2 hbes hka e0 e1 e2 e3 e4 e5
    go_wp2_with fail
    go_roundw
    case rel=>exact⟨k+1,L'++[(d.named L'.length,x,t)],by go_num,by omega,by rw[List.length_append,List.length_singleton];omega,HLg,HOg,HIg,HBg⟩
    case measure=>(simp[intOf];try omega)
   ·have HAd:Hid (((L2.take (k+1)).map mutOf).foldl addM (L.map mutOf)=L'.map mutOf):=by
     show _=_
     rw[HLs.out,addM_no (by rw[HLl.out];exact he),← HL.out]
    have hee:((d.named L'.length).err == 0)=false:=by simpa using he
    have HOz:=Lib.hid (HO.out.below (mutP_keep _) HB7.out)
    have HIz:=Lib.hid (HI.out.keep (hk_below HB7.out fun _ _ h=>h))
    have HBz:Hid (Below B w w7):=HB.out.trans (HB7.out.mono (by omega))
    go_wp2_with fail
    go_roundw
    case rel=>exact⟨k+1,L',by go_num,by omega,by omega,HAd.out.symm,HOz,HIz,HBz⟩
    case measure=>(simp[intOf];try omega)
  ·obtain rfl:k=L2.length:=by omega
   have hmm:L'.map mutOf=(L2.map mutOf).foldl addM (L.map mutOf):=by rw[HL.out,List.take_length]
   have HP':Hid (∀ v W,OwnM W B v L'→Below B w W→Po (.returned v) W):=fun v W h1 h2=>HP.out v L' W h1 hmm h2
   clear hmm
   go_wp2_with fail
   first | exact HP'.out _ _ HO.out HB.out | (go_ret;exact HP'.out _ _ HO.out HB.out)
end Go.Proofs.YtebneadheaefdaaGreatDoor
namespace Go.Proofs.YtebneadheaefdaaGreatDoor
open Go.RowKit
attribute [local go_sem ↓] Go.wp_at_zero Go.wp_at_succ
noncomputable def mutsS (d:DesD):List Mut:=if d.err=0 then mutL d else []
def MutsPost (w:World) (d:DesD) (r:Ending) (w':World):Prop:=(∃ v L,r=.returned (.tuple #[v,.int .i64 d.err])∧OwnM w' w.heap.size v L∧L.map mutOf=mutsS d)∧Below w.heap.size w w'
theorem fresh_list {P:Program} {f:FuncId} {args:Array Value} {W1 W:World} {v:Value} {L:List MA} {l:List Mut} (hW:Below W1.heap.size W1 W) (hO:OwnM W W1.heap.size v L) (hl:l.length≤1000) (h:Calls P f args W (WirePost W l)) :
  Calls P f args W fun r w'=>(∃ a2 c2 L2,r=.returned (.slice a2 L2.length c2)∧MutsIn W1.heap.size (World.hide w' (ownP v)) L2 a2 c2∧L2.map mutOf=l∧OwnM w' W1.heap.size v L)∧Below W.heap.size W w'∧Below W1.heap.size W1 w':=h.mono fun r w'=>by
 rintro ⟨⟨v2,L2,rfl,hO2,hm⟩,hb⟩
 have hn:L2.length≤1000:=by have:=congrArg List.length hm;simp at this;omega
 obtain⟨a2,c2,rfl,hI,_⟩:=hO2.muts (q:=ownP v) (by omega) fun k hk=>(hO.own.lt k (ownP_true.1 hk)).2
 exact⟨⟨a2,c2,L2,rfl,hI.mono hW.size,hm,hO.below (mutP_keep _) hb⟩,hb,hW.trans (hb.mono hW.size)⟩
theorem coll_next {B0:Nat} {w0:World} (hF:∀ n:Int,0≤n→n≤65535→FmtC B0 w0 n) (hG:∀ W,Below B0 w0 W→Glob W) {d:DesD} (he:d.err=0) {W1 W:World} (h01:B0≤W1.heap.size) (hb1:Below B0 w0 W1) {v:Value} {L:List MA} {l:List Mut} (hL:(L.map mutOf).length≤20000)
  (hsm:∀ m∈l,m.1.name=d.name∧∀ k,k≤65535→DesSmall (m.1.named k)) (hl:l.length≤1000) {a2:Option Addr} {c2:Nat} {L2:List MA} (hI:MutsIn W1.heap.size (World.hide W (ownP v)) L2 a2 c2) (hm:L2.map mutOf=l) (hO:OwnM W W1.heap.size v L) (hW:Below W1.heap.size W1 W) :
  Calls Tryz.prog 113 #[.string d.name,v,.slice a2 L2.length c2] W fun r w'=>(∃ v' L',r=.returned v'∧OwnM w' W1.heap.size v' L'∧L'.map mutOf=l.foldl addM (L.map mutOf))∧Below W1.heap.size W1 w':=by
 have hn:L2.length≤1000:=by have:=congrArg List.length hm;simp at this;omega
 rw[List.length_map] at hL
 refine(collect_any hF hG d.name (name_16 he) W1.heap.size h01 v L a2 c2 L2 W hW.size (hb1.trans (hW.mono h01)) hO hI (fun m hmm=>?_) (by omega)).mono ?_
 ·exact hsm (mutOf m) (by rw[← hm];exact List.mem_map.2 ⟨m,hmm,rfl⟩)
 ·rintro r w' ⟨⟨v',L',rfl,h1,h2⟩,h3⟩
  rw[hm] at h2
  exact⟨⟨v',L',rfl,h1,h2⟩,hW.trans h3⟩
set_option maxHeartbeats 16000000 in
set_option maxRecDepth 100000 in
theorem mutants_any (d:DesD) (x:DesA) (w:World) (hF:∀ n:Int,0≤n→n≤65535→FmtC w.heap.size w n) (hG:Glob w) (hE:DesIn w d x) (hs:DesSmall d) :
  Calls Tryz.prog 60 #[desVal d x] w (MutsPost w d):=by
 have hl:=hs.len
 have HV:Hid (∀ W,Below w.heap.size w W→Calls Tryz.prog 36 #[desVal d x] W fun e w'=>e=.returned (.int .i64 d.err)∧Below W.heap.size W w'):=fun W hW=>ValidD_any d x W (hE.below hW) hs (hG.below hW)
 have HP:Hid (∀ v L W,OwnM W w.heap.size v L→L.map mutOf=mutsS d→Below w.heap.size w W→MutsPost w d (.returned (.tuple #[v,.int .i64 d.err])) W):=fun v L W h1 h2 h3=>⟨⟨v,L,rfl,h1,h2⟩,h3⟩
 have hG':∀ W,Below w.heap.size w W→Glob W:=fun W hW=>hG.below hW
 have HWi:Hid (d.err=0→∀ k (hk:k < d.wires.length) W1 W v L,Below w.heap.size w W1→Below W1.heap.size W1 W→OwnM W W1.heap.size v L→Calls Tryz.prog 114 #[desVal d x,.int .i64 k] W fun r w'=>(∃ a2 c2 L2,r=.returned (.slice a2 L2.length c2)∧MutsIn W1.heap.size (World.hide w' (ownP v)) L2 a2 c2∧L2.map mutOf=wireM d k (d.wires[k]'hk)∧OwnM w' W1.heap.size v L)∧Below W.heap.size W w'∧Below W1.heap.size W1 w'):=fun he k hk W1 W v L h1 hW hO=>by
  have hb:=h1.trans (hW.mono h1.size)
  exact fresh_list hW hO (Nat.le_trans (wireM_400 he hk) (by omega)) (wireM_any hF d x k W hb.size hb (hE.below hb) hs he hk)
 have HRe:Hid (d.err=0→∀ k (hk:k < d.regs.length) W1 W v L,Below w.heap.size w W1→Below W1.heap.size W1 W→OwnM W W1.heap.size v L→Calls Tryz.prog 115 #[desVal d x,.int .i64 k] W fun r w'=>(∃ a2 c2 L2,r=.returned (.slice a2 L2.length c2)∧MutsIn W1.heap.size (World.hide w' (ownP v)) L2 a2 c2∧L2.map mutOf=regM d k (d.regs[k]'hk)∧OwnM w' W1.heap.size v L)∧Below W.heap.size W w'∧Below W1.heap.size W1 w'):=fun he k hk W1 W v L h1 hW hO=>by
  have hb:=h1.trans (hW.mono h1.size)
  exact fresh_list hW hO (Nat.le_trans (regM_401 he hk) (by omega)) (reg_any hF d x k W hb.size hb (hE.below hb) hs he hk)
 have HCW:Hid (d.err=0→∀ k (hk:k < d.wires.length) W1 W v L a2 c2 L2,Below w.heap.size w W1→L.map mutOf=mutW d k→MutsIn W1.heap.size (World.hide W (ownP v)) L2 a2 c2→L2.map mutOf=wireM d k (d.wires[k]'hk)→OwnM W W1.heap.size v L→Below W1.heap.size W1 W→Calls Tryz.prog 113 #[.string d.name,v,.slice a2 L2.length c2] W fun r w'=>(∃ v' L',r=.returned v'∧OwnM w' W1.heap.size v' L'∧L'.map mutOf=mutW d (k+1))∧Below W1.heap.size W1 w'):=fun he k hk W1 W v L a2 c2 L2 h1 hL hI hm hO hW=>by
  have h:=coll_next hF hG' he h1.size h1 (by rw[hL];exact mutW_20k he (by omega)) (wireM_small he hs hk) (Nat.le_trans (wireM_400 he hk) (by omega)) hI hm hO hW
  rw[hL,← mutW_succ d hk] at h
  exact h
 have HCR:Hid (d.err=0→∀ k (hk:k < d.regs.length) W1 W v L a2 c2 L2,Below w.heap.size w W1→L.map mutOf=mutR d k→MutsIn W1.heap.size (World.hide W (ownP v)) L2 a2 c2→L2.map mutOf=regM d k (d.regs[k]'hk)→OwnM W W1.heap.size v L→Below W1.heap.size W1 W→Calls Tryz.prog 113 #[.string d.name,v,.slice a2 L2.length c2] W fun r w'=>(∃ v' L',r=.returned v'∧OwnM w' W1.heap.size v' L'∧L'.map mutOf=mutR d (k+1))∧Below W1.heap.size W1 w'):=fun he k hk W1 W v L a2 c2 L2 h1 hL hI hm hO hW=>by
  have h:=coll_next hF hG' he h1.size h1 (by rw[hL];exact mutR_20k he (by omega)) (regM_small he hs hk) (Nat.le_trans (regM_401 he hk) (by omega)) hI hm hO hW
  rw[hL,← mutR_succ d hk] at h
  exact h
 have HMr0:Hid (mutR d 0=mutW d d.wires.length):=mutR_zero d
 have HMw0:Hid (mutW d 0=[]):=rfl
 have HMe:Hid (d.err=0→mutR d d.regs.length=mutsS d):=fun he=>(mutR_all d).trans (if_pos he).symm
 have HMn:Hid (¬ d.err=0→mutsS d=[]):=fun he=>if_neg he
 clear hE hs hG' hG
 generalize mutsS d=MS at HP HMe HMn
 generalize MutsPost w d=Po at HP⊢
 simp only[desVal,desVals] at HV HWi HRe⊢
 by_cases he:d.err=0
 ·have HWi:=Lib.hid (HWi.out he)
  have HRe:=Lib.hid (HRe.out he)
  have HCW:=Lib.hid (HCW.out he)
  have HCR:=Lib.hid (HCR.out he)
  have HMe:=Lib.hid (HMe.out he)
  have HWl:Hid (∀ k,k≤d.wires.length→(mutW d k).length≤20000):=fun k hk=>mutW_20k he hk
  have HRl:Hid (∀ k,k≤d.regs.length→(mutR d k).length≤20000):=fun k hk=>mutR_20k he hk
  rw[he] at HV HP
  clear he
  go_enter Tryz.func60, Tryz.ntmps60
  go_wp2_with fail
  generalize hW1:w.alloc (.cells #[.string d.name,.slice x.ai d.inputs.length x.ci,.slice x.aw d.wires.length x.cw,.slice x.ar d.regs.length x.cr,.slice x.ao d.outputs.length x.co] 27)=W1
  have hz1:w.heap.size+1≤W1.heap.size:=by rw[← hW1];simp
  have HB1:Hid (Below w.heap.size w W1):=by show Below _ _ _;rw[← hW1];exact belr
  have HX1:Hid (W1.heap[w.heap.size]? = some (.cells #[.string d.name,.slice x.ai d.inputs.length x.ci,.slice x.aw d.wires.length x.cw,.slice x.ar d.regs.length x.cr,.slice x.ao d.outputs.length x.co] 27 (0,0))):=by
   show _=_;rw[← hW1]
   exact hx_new rfl
  have hlt1:w.heap.size < W1.heap.size:=by omega
  clear hW1
  refine(HV.out W1 HB1.out).mono ?_
  rintro r w2 ⟨rfl,hb2⟩
  have HB2:=Lib.hid hb2
  clear hb2
  have HALL:Hid (∀ w',Below W1.heap.size W1 w'→w'.cell? ⟨w.heap.size,0,none⟩=some (.string d.name)∧w'.cell? ⟨w.heap.size,1,none⟩=some (.slice x.ai d.inputs.length x.ci)∧w'.cell? ⟨w.heap.size,2,none⟩=some (.slice x.aw d.wires.length x.cw)∧w'.cell? ⟨w.heap.size,3,none⟩=some (.slice x.ar d.regs.length x.cr)∧w'.cell? ⟨w.heap.size,4,none⟩=some (.slice x.ao d.outputs.length x.co)):=fun w' h=>by
   obtain⟨b0,b1,b2,b3,b4,_⟩:=cell5 (hx_below h HX1.out)
   exact⟨b0,b1,b2,b3,b4⟩
  obtain⟨b0,b1,b2,b3,b4⟩:=HALL.out _ HB2.out
  go_wp2_with fail
  clear b0 b1 b2 b3 b4
  go_loopw [16,5] (fun i v wr=>∃ (k:Nat) (L:List MA),i=.int .i64 k∧k≤d.wires.length∧Hid (L.map mutOf=mutW d k)∧Hid (OwnM wr W1.heap.size v L)∧Hid (Below W1.heap.size W1 wr)) (fun i _ _=>d.wires.length - (intOf i).toNat)
  case atStart=>exact⟨0,[],rfl,Nat.zero_le _,HMw0.out.symm,OwnR.nil _ _ _ _ _ _,HB2⟩
  case round =>
   obtain⟨k,L,rfl,hk,HL,HO,HB⟩:=hrel
   have hLl:L.length≤20000:=by have h1:=congrArg List.length HL.out;have h2:=HWl.out k hk;simp at h1;omega
   obtain⟨va,vc,rfl,-,-,-⟩:=HO.out.slice (by omega)
   obtain⟨b0,b1,b2,b3,b4⟩:=HALL.out _ HB.out
   have hB:=HB.out
   by_cases hlt:k < d.wires.length
   ·have HWk:=Lib.hid (fun W (hW:Below wr.heap.size wr W)=>HWi.out k hlt W1 W (.slice va L.length vc) L HB1.out (HB.out.trans (hW.mono HB.out.size)) (HO.out.below (mutP_keep _) hW))
    have HCk:=Lib.hid (fun W a2 c2 L2 h1 h2 h3 h4=>HCW.out k hlt W1 W (.slice va L.length vc) L a2 c2 L2 HB1.out HL.out h1 h2 h3 h4)
    go_wp2_with fail
    go_region_held3 (fun w'=>Below W1.heap.size W1 w'∧w'.cell? ⟨w.heap.size,0,none⟩=some (.string d.name)∧w'.cell? ⟨w.heap.size,1,none⟩=some (.slice x.ai d.inputs.length x.ci)∧w'.cell? ⟨w.heap.size,2,none⟩=some (.slice x.aw d.wires.length x.cw)∧w'.cell? ⟨w.heap.size,3,none⟩=some (.slice x.ar d.regs.length x.cr)∧w'.cell? ⟨w.heap.size,4,none⟩=some (.slice x.ao d.outputs.length x.co))
     ((refine(fun h=>⟨h,HALL.out _ h⟩) ?_;first | with_reducible assumption | exact belr))
     (first
      | (go_at_call 114;(with_reducible refine(HWk.out _ belr).mono ?_);rintro r w3 ⟨⟨a3,c3,L3,rfl,hI3,hm3,hO3⟩,hb3,hB3⟩)
      | (go_at_call 113;(with_reducible refine(HCk.out _ _ _ _ hI3 hm3 hO3 hB3).mono ?_);rintro r w4 ⟨⟨v4,L4,rfl,hO4,hm4⟩,hB4⟩))
    all_goals
     have HO4:=Lib.hid hO4
     have HL4:=Lib.hid hm4
     have HB4:=Lib.hid hB4
     clear hO4 hm4 hB4 hI3 hm3 hO3 hb3 hB3 hB b0 b1 b2 b3 b4
     go_wp2_with fail
     go_roundw
     case rel=>exact⟨k+1,L4,by go_num,by omega,HL4,HO4,HB4⟩
     case measure=>(simp[intOf];try omega)
   ·obtain rfl:k=d.wires.length:=by omega
    have HL0:Hid (L.map mutOf=mutR d 0):=HL.out.trans HMr0.out.symm
    go_wp2_with fail
    clear b0 b1 b2 b3 b4 hB
    go_loopw [30,5] (fun i v wr=>∃ (k:Nat) (L:List MA),i=.int .i64 k∧k≤d.regs.length∧Hid (L.map mutOf=mutR d k)∧Hid (OwnM wr W1.heap.size v L)∧Hid (Below W1.heap.size W1 wr)) (fun i _ _=>d.regs.length - (intOf i).toNat)
    case atStart=>exact⟨0,L,rfl,Nat.zero_le _,HL0,HO,HB⟩
    case round =>
     rename World=>wr
     obtain⟨k,L,rfl,hk,HL,HO,HB⟩:=hrel
     have hLl:L.length≤20000:=by have h1:=congrArg List.length HL.out;have h2:=HRl.out k hk;simp at h1;omega
     obtain⟨va,vc,rfl,-,-,-⟩:=HO.out.slice (by omega)
     obtain⟨b0,b1,b2,b3,b4⟩:=HALL.out _ HB.out
     have hB:=HB.out
     by_cases hlt:k < d.regs.length
     ·have HWk:=Lib.hid (fun W (hW:Below wr.heap.size wr W)=>HRe.out k hlt W1 W (.slice va L.length vc) L HB1.out (HB.out.trans (hW.mono HB.out.size)) (HO.out.below (mutP_keep _) hW))
      have HCk:=Lib.hid (fun W a2 c2 L2 h1 h2 h3 h4=>HCR.out k hlt W1 W (.slice va L.length vc) L a2 c2 L2 HB1.out HL.out h1 h2 h3 h4)
      go_wp2_with fail
      go_region_held3 (fun w'=>Below W1.heap.size W1 w'∧w'.cell? ⟨w.heap.size,0,none⟩=some (.string d.name)∧w'.cell? ⟨w.heap.size,1,none⟩=some (.slice x.ai d.inputs.length x.ci)∧w'.cell? ⟨w.heap.size,2,none⟩=some (.slice x.aw d.wires.length x.cw)∧w'.cell? ⟨w.heap.size,3,none⟩=some (.slice x.ar d.regs.length x.cr)∧w'.cell? ⟨w.heap.size,4,none⟩=some (.slice x.ao d.outputs.length x.co))
       ((refine(fun h=>⟨h,HALL.out _ h⟩) ?_;first | with_reducible assumption | exact belr))
       (first
        | (go_at_call 115;(with_reducible refine(HWk.out _ belr).mono ?_);rintro r w3 ⟨⟨a3,c3,L3,rfl,hI3,hm3,hO3⟩,hb3,hB3⟩)
        | (go_at_call 113;(with_reducible refine(HCk.out _ _ _ _ hI3 hm3 hO3 hB3).mono ?_);rintro r w4 ⟨⟨v4,L4,rfl,hO4,hm4⟩,hB4⟩))
      all_goals
       have HO4:=Lib.hid hO4
       have HL4:=Lib.hid hm4
       have HB4:=Lib.hid hB4
       clear hO4 hm4 hB4 hI3 hm3 hO3 hb3 hB3 hB b0 b1 b2 b3 b4
       go_wp2_with fail
       go_roundw
       case rel=>exact⟨k+1,L4,by go_num,by omega,HL4,HO4,HB4⟩
       case measure=>(simp[intOf];try omega)
     ·obtain rfl:k=d.regs.length:=by omega
      have HM:Hid (L.map mutOf=MS):=HL.out.trans HMe.out
      have HO':Hid (OwnM wr w.heap.size (.slice va L.length vc) L):=HO.out.imp (by omega) fun y _ ⟨bw,br,h⟩=>⟨bw,br,NewD.mono h (by omega)⟩
      have HBf:Hid (Below w.heap.size w wr):=HB1.out.trans (HB.out.mono (by omega))
      go_wp2_with fail
      first | exact HP.out _ L _ HO'.out HM.out HBf.out | (go_ret2;exact HP.out _ L _ HO'.out HM.out HBf.out)
 ·have HMn:=Lib.hid (HMn.out he)
  have hee:(d.err != 0)=true:=by simpa using he
  clear he
  go_enter Tryz.func60, Tryz.ntmps60
  go_wp2_with fail
  refine(HV.out _ ((Below.refl _ _).alloc (Nat.le_refl _) _)).mono ?_
  rintro r w2 ⟨rfl,hb2⟩
  have HBf:Hid (Below w.heap.size w w2):=((Below.refl _ _).alloc (Nat.le_refl _) _).trans (hb2.mono (by simp))
  clear hb2
  go_wp2_with fail
  first | exact HP.out _ [] _ (OwnR.nil _ _ _ _ _ _) HMn.out.symm HBf.out | (go_ret2;exact HP.out _ [] _ (OwnR.nil _ _ _ _ _ _) HMn.out.symm HBf.out)
end Go.Proofs.YtebneadheaefdaaGreatDoor
namespace Go.Proofs.YtebneadheaefdaaGreatDoor
open Go.RowKit
attribute [local go_sem ↓] Go.wp_at_zero Go.wp_at_succ
def SitesPost (w:World) (d:DesD) (r:Ending) (w':World):Prop:=(∃ a c,r=.returned (.tuple #[.slice a ((mutsS d).map (·.2)).length c,.int .i64 d.err])∧StrsIn w' ((mutsS d).map (·.2)) a c)∧Below w.heap.size w w'
theorem mutsS_len (d:DesD):(mutsS d).length≤20000:=by
 unfold mutsS
 split
 ·rename_i he
  rw[← mutR_all]
  exact mutR_20k he (Nat.le_refl _)
 ·simp
theorem muts_out {P:Program} {f:FuncId} {args:Array Value} {w W:World} {d:DesD} (h:Calls P f args W (MutsPost W d)) :
  Calls P f args W fun r w'=>(∃ a c L b,r=.returned (.tuple #[.slice a L.length c,.int .i64 d.err])∧MutsIn b w' L a c∧L.map mutOf=mutsS d∧W.heap.size≤b∧(L.length=0∨∃ k,a=some ⟨k,0,none⟩))∧Below W.heap.size W w':=h.mono fun r w'=>by
 rintro ⟨⟨v,L,rfl,hO,hm⟩,hb⟩
 have hn:L.length≤20000:=by have h1:=congrArg List.length hm;have h2:=mutsS_len d;simp at h1;omega
 obtain⟨a,c,rfl,hI,hs⟩:=hO.muts (q:=fun _=>false) (by omega) fun k hk=>by simp at hk
 exact⟨⟨a,c,L,_,rfl,hI.keep (hk_unhide _ _),hm,Nat.le_refl _,hs⟩,hb⟩
set_option maxHeartbeats 8000000 in
set_option maxRecDepth 100000 in
theorem countM_any (d:DesD) (x:DesA) (w:World) (hF:∀ n:Int,0≤n→n≤65535→∀ W,Below w.heap.size w W→FmtC W.heap.size W n) (hG:Glob w) (hE:DesIn w d x) (hs:DesSmall d) :
  Calls Tryz.prog 28 #[desVal d x] w fun r w'=>r=.returned (.tuple #[.int .i64 ((mutsS d).length:Nat),.int .i64 d.err])∧Below w.heap.size w w':=by
 have HM:Hid (∀ W,Below w.heap.size w W→Calls Tryz.prog 60 #[desVal d x] W fun r w'=>(∃ a c L b,r=.returned (.tuple #[.slice a L.length c,.int .i64 d.err])∧MutsIn b w' L a c∧L.map mutOf=mutsS d∧W.heap.size≤b∧(L.length=0∨∃ k,a=some ⟨k,0,none⟩))∧Below W.heap.size W w'):=fun W hW=>muts_out (w:=w) (mutants_any d x W (fun n h0 h1=>hF n h0 h1 W hW) (hG.below hW) (hE.below hW) hs)
 have hml:=mutsS_len d
 clear hF hG hE hs
 generalize mutsS d=MS at HM hml⊢
 simp only[desVal,desVals] at HM⊢
 go_enter Tryz.func28, Tryz.ntmps28
 go_wp2_with fail
 refine(HM.out _ ((Below.refl _ _).alloc (Nat.le_refl _) _)).mono ?_
 rintro r w2 ⟨⟨a,c,L,b,rfl,hI,hm,_,_⟩,hb2⟩
 have HBf:Hid (Below w.heap.size w w2):=((Below.refl _ _).alloc (Nat.le_refl _) _).trans (hb2.mono (by simp))
 have HL:Hid (MS.length=L.length):=by show _=_;rw[← hm,List.length_map]
 clear hI hm hb2
 go_wp2_with fail
 go_ret2
 exact⟨by rw[HL.out];rfl,HBf.out⟩
set_option maxHeartbeats 8000000 in
set_option maxRecDepth 100000 in
theorem sites_any (d:DesD) (x:DesA) (w:World) (hF:∀ n:Int,0≤n→n≤65535→∀ W,Below w.heap.size w W→FmtC W.heap.size W n) (hG:Glob w) (hE:DesIn w d x) (hs:DesSmall d) :
  Calls Tryz.prog 26 #[desVal d x] w (SitesPost w d):=by
 have HM:Hid (∀ W,Below w.heap.size w W→Calls Tryz.prog 60 #[desVal d x] W fun r w'=>(∃ a c L b,r=.returned (.tuple #[.slice a L.length c,.int .i64 d.err])∧MutsIn b w' L a c∧L.map mutOf=mutsS d∧W.heap.size≤b∧(L.length=0∨∃ k,a=some ⟨k,0,none⟩))∧Below W.heap.size W w'):=fun W hW=>muts_out (w:=w) (mutants_any d x W (fun n h0 h1=>hF n h0 h1 W hW) (hG.below hW) (hE.below hW) hs)
 have hml:=mutsS_len d
 have HP:Hid (∀ a c W (L:List MA),StrsIn W (L.map fun m=>m.2.2) a c→L.map mutOf=mutsS d→Below w.heap.size w W→SitesPost w d (.returned (.tuple #[.slice a L.length c,.int .i64 d.err])) W):=fun a c W L h1 h2 h3=>by
  have e:(mutsS d).map (·.2)=L.map fun m=>m.2.2:=by rw[← h2,List.map_map];rfl
  refine⟨⟨a,c,?_,by rw[e];exact h1⟩,h3⟩
  rw[e,List.length_map]
 clear hF hG hE hs
 generalize mutsS d=MS at HM hml HP
 generalize SitesPost w d=Po at HP⊢
 simp only[desVal,desVals] at HM⊢
 go_enter Tryz.func26, Tryz.ntmps26
 go_wp2_with fail
 refine(HM.out _ ((Below.refl _ _).alloc (Nat.le_refl _) _)).mono ?_
 rintro r w2 ⟨⟨a,c,L,b,rfl,hI,hm,_,hs⟩,hb2⟩
 have HBf:Hid (Below w.heap.size w w2):=((Below.refl _ _).alloc (Nat.le_refl _) _).trans (hb2.mono (by simp))
 have hLl:L.length≤20000:=by have h1:=congrArg List.length hm;simp at h1;omega
 have hz2:w.heap.size≤w2.heap.size:=HBf.out.size
 have HI:=Lib.hid hI
 have Hm:=Lib.hid hm
 have HS:=Lib.hid hs
 obtain⟨SL,HSL⟩:∃ SL:Nat→List Value,Hid (∀ k,SL k=((L.take k).map fun m=>m.2.2).map Value.string):=⟨_,fun _=>rfl⟩
 clear hI hm hb2 hs
 go_wp2_with fail
 go_loopw [16,6] (fun i v wr=>∃ k:Nat,i=.int .i64 k∧k≤L.length∧Hid (wr.ownsRow w2.heap.size 9 1 v k (SL k))∧Hid (Below w2.heap.size w2 wr)) (fun i _ _=>L.length - (intOf i).toNat)
 case atStart=>exact⟨0,rfl,Nat.zero_le _,by show World.ownsRow _ _ _ _ _ _ _;rw[HSL.out];exact World.ownsRow_nil _ _ _ _,Below.refl _ _⟩
 case round =>
  obtain⟨k,rfl,hk,HO,HB⟩:=hrel
  have hzr:=HB.out.size
  by_cases hlt:k < L.length
  ·obtain⟨bb,rfl⟩:=HS.out.resolve_left (by omega)
   obtain⟨hcs,_⟩:=HI.out.get rfl hlt
   have HT:Hid (SL (k+1)=SL k++[.string (L[k]'hlt).2.2]):=by
    show _=_
    rw[HSL.out,HSL.out,List.take_add_one,List.getElem?_eq_getElem hlt,List.map_append,List.map_append]
    rfl
   generalize (L[k]'hlt)=m at hcs HT
   obtain⟨dm,xm,tm⟩:=m
   have kk:=keeps_of_below HB.out
   have q0:=kk _ _ (hcs 0 _ rfl)
   have q1:=kk _ _ (hcs 1 _ rfl)
   have q2:=kk _ _ (hcs 2 _ rfl)
   have q3:=kk _ _ (hcs 3 _ rfl)
   have q4:=kk _ _ (hcs 4 _ rfl)
   have q5:=kk _ _ (hcs 5 _ rfl)
   simp only[Nat.zero_add,Nat.add_zero] at q0 q1 q2 q3 q4 q5
   obtain⟨va,vc,hv,_⟩:=slice_of_own HO.out (by omega)
   subst hv
   clear hcs kk
   go_upto_region 6 with fail
   generalize hW4:wr.alloc (.cells #[.string dm.name,.slice xm.ai dm.inputs.length xm.ci,.slice xm.aw dm.wires.length xm.cw,.slice xm.ar dm.regs.length xm.cr,.slice xm.ao dm.outputs.length xm.co,.string tm] 98)=W4
   have HB4:Hid (Below wr.heap.size wr W4):=by show Below _ _ _;rw[← hW4];exact belr
   have HX4:Hid (W4.heap[wr.heap.size]? = some (.cells #[.string dm.name,.slice xm.ai dm.inputs.length xm.ci,.slice xm.aw dm.wires.length xm.cw,.slice xm.ar dm.regs.length xm.cr,.slice xm.ao dm.outputs.length xm.co,.string tm] 98 (0,0))):=by
    show _=_;rw[← hW4]
    exact hx_new rfl
   clear hW4 q0 q1 q2 q3 q4 q5
   have HO4:=Lib.hid (ownsRow_below HO.out HB4.out)
   have hz4:=HB4.out.size
   obtain⟨_,_,_,_,_,e5,_⟩:=cell6 HX4.out
   go_wp2_with (at_builtin;go_must (refine own_app elemS W4 (by rfl) (.tmp 20) (.tmp 23) (by rfl) w2.heap.size (.slice va k vc) k _ (by rfl) HO4.out [.string tm] (by rfl) (by simp[Value.oneCell']) _ 1 (by rfl) (by rfl) (by omega) (by omega) ?_))
   intro v' wg ho hg
   have HOg:Hid (wg.ownsRow w2.heap.size 9 1 v' (k+1) (SL (k+1))):=by show World.ownsRow _ _ _ _ _ _ _;rw[HT.out];exact ho
   have HBg:Hid (Below w2.heap.size w2 wg):=Below.grown ((HB.out.trans (HB4.out.mono hzr)).alloc (by omega) _) hg (by rw[World.size_alloc];omega) (fun j hj=>(HO.out.lt j hj).1)
   clear ho hg e5
   go_wp2_with fail
   go_roundw
   case rel=>exact⟨k+1,by go_num,by omega,HOg,HBg⟩
   case measure=>(simp[intOf];try omega)
  ·obtain rfl:k=L.length:=by omega
   have ho:=HO.out
   rw[HSL.out,List.take_length] at ho
   obtain⟨va,vc,rfl,hS⟩:=strs_of_own (l:=L.map fun m=>m.2.2) (by rw[List.length_map];exact ho) (by rw[List.length_map];omega)
   have HS':=Lib.hid hS
   have HBe:Hid (Below w.heap.size w wr):=HBf.out.trans (HB.out.mono hz2)
   have HPf:=Lib.hid (fun W h=>HP.out va vc W L h Hm.out)
   clear ho hS HO
   rw[List.length_map]
   go_wp2_with fail
   first | exact HPf.out _ HS'.out HBe.out | (go_ret2;exact HPf.out _ HS'.out HBe.out)
end Go.Proofs.YtebneadheaefdaaGreatDoor
