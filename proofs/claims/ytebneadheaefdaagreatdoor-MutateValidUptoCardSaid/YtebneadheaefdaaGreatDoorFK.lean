/- ref34.add: a site more, if its design is valid. -/
import Derived.Test.YtebneadheaefdaaGreatDoorFJ
import Derived.Test.YtebneadheaefdaaGreatDoorFH
import Derived.Test.YtebneadheaefdaaGreatDoorEM
import Derived.Test.YtebneadheaefdaaGreatDoorDM
import Derived.Test.YtebneadheaefdaaGreatDoorFI
set_option linter.unusedSimpArgs false
set_option linter.unusedVariables false
set_option linter.unnecessarySimpa false
namespace Go.Proofs.YtebneadheaefdaaGreatDoor
open Go.RowKit
attribute [local go_sem ↓] Go.wp_at_zero Go.wp_at_succ
theorem elemSite:Elem Tryz.prog 99 102 6:=Elem.of Tryz.underlying99 (by kernel_rfl) (z:=.agg #[.string .empty,.string .empty,.slice none 0 0,.slice none 0 0,.slice none 0 0,.slice none 0 0]) (bytes:=128) rfl (by decide) (by decide)
abbrev SA:=ByteArray × DesD × DesA
def siteCells (s:SA):List Value:=[.string s.1,.string s.2.1.name,.slice s.2.2.ai s.2.1.inputs.length s.2.2.ci,.slice s.2.2.aw s.2.1.wires.length s.2.2.cw,.slice s.2.2.ar s.2.1.regs.length s.2.2.cr,.slice s.2.2.ao s.2.1.outputs.length s.2.2.co]
def siteP (p:Nat→Bool) (H:World) (s:SA):Prop:=DesIn (World.hide H p) s.2.1 s.2.2
theorem siteP_keep (p:Nat→Bool):∀ (H H':World) (s:SA),HK H H'→siteP p H s→siteP p H' s:=fun _ _ _ h hs=>DesIn.keep (hk_hide h).cell hs
def siteOf (s:SA):Mut:=(s.2.1,s.1)
abbrev OwnSi (w:World) (B:Nat) (p:Nat→Bool) (v:Value) (L:List SA):Prop:=OwnR w B 102 6 siteCells (siteP p) v L
def AddPost (B:Nat) (p:Nat→Bool) (w:World) (v0:Value) (l:List Mut) (r:Ending) (w':World):Prop:=(∃ v L,r=.returned v∧OwnSi w' B p v L∧L.map siteOf=l∧w.grownBy w' v0.ownBlock∧∀ k,v.ownBlock=some k→v0.ownBlock=some k∨w.heap.size≤k)∧Below B w w'
set_option maxHeartbeats 8000000 in
set_option maxRecDepth 100000 in
theorem add_any (B:Nat) (p:Nat→Bool) (v:Value) (L:List SA) (d:DesD) (x:DesA) (t:ByteArray) (w:World) (hB:B≤w.heap.size) (hp:∀ k,p k=true→k < w.heap.size) (hO:OwnSi w B p v L) (hD:DesIn (World.hide w (besP p v)) d x) (hl:L.length≤65535) (hnm:d.name.size≤16) (hs:DesSmall (d.named L.length)) :
  Calls Tryz.prog 118 #[v,desVal d x,.string t] w (AddPost B p w v (addM (L.map siteOf) (d,t))):=by
 have HFm:=Lib.hid (fun W=>rFmt_any L.length hl W)
 unfold SPost at HFm
 have HO:=Lib.hid hO
 have HD:=Lib.hid hD
 have hfs:(fmtS L.length).size≤65536:=by have:=fmt_len L.length;omega
 have HP:Hid (∀ v' L' W,OwnSi W B p v' L'→L'.map siteOf=addM (L.map siteOf) (d,t)→Below B w W→w.grownBy W v.ownBlock→(∀ k,v'.ownBlock=some k→v.ownBlock=some k∨w.heap.size≤k)→AddPost B p w v (addM (L.map siteOf) (d,t)) (.returned v') W):=fun v' L' W q1 q2 q3 q4 q5=>⟨⟨v',L',rfl,q1,q2,q4,q5⟩,q3⟩
 have HVd:Hid (∀ W,Below w.heap.size w W→Calls Tryz.prog 53 #[desVal (d.named L.length) x] W fun e w'=>e=.returned (.int .i64 (d.named L.length).err)∧Below W.heap.size W w'):=fun W hW=>by
  have hD2:DesIn W (d.named L.length) x:=by
   have h:=((hD.keep (hk_unhide _ _).cell).keep (keeps_of_below hW))
   exact⟨h.ins,h.wires,h.regs,h.outs⟩
  exact rValidD_any (d.named L.length) x W hD2 hs
 have HNn:Hid ((d.named L.length).name=(d.name++⟨#[95]⟩)++fmtS L.length):=rfl
 obtain⟨va,vc,rfl,hvc,hvo,_⟩:=hO.slice (by omega)
 have HVo:=Lib.hid hvo
 obtain⟨xai,xci,xaw,xcw,xar,xcr,xao,xco⟩:=x
 generalize AddPost B p w (.slice va L.length vc) (addM (L.map siteOf) (d,t))=Po at HP⊢
 clear hO hD hvo hs
 simp only[desVal,desVals] at HVd⊢
 rw[HNn.out] at HVd
 have hn1:¬ 9223372036854775807 < d.name.size+1:=by omega
 have hn2:¬ 9223372036854775807 < d.name.size+1+(fmtS L.length).size:=by omega
 generalize fmtS (L.length:Int)=fs at HFm HVd HNn hfs hn2
 go_enter Tryz.func118, Tryz.ntmps118
 go_upto_region 1 with fail
 generalize hW1:w.alloc (.cells #[.string d.name,.slice xai d.inputs.length xci,.slice xaw d.wires.length xcw,.slice xar d.regs.length xcr,.slice xao d.outputs.length xco] 27)=W1
 have hz1:w.heap.size+1≤W1.heap.size:=by rw[← hW1];simp
 have HB1:Hid (Below w.heap.size w W1):=by show Below _ _ _;rw[← hW1];exact belr
 have HD1:Hid (W1.heap[w.heap.size]? = some (.cells #[.string d.name,.slice xai d.inputs.length xci,.slice xaw d.wires.length xcw,.slice xar d.regs.length xcr,.slice xao d.outputs.length xco] 27 (0,0))):=by
  show _=_;rw[← hW1]
  exact hx_new rfl
 clear hW1
 have hlt:w.heap.size < W1.heap.size:=by omega
 obtain⟨d0,d1,d2,d3,d4,df⟩:=cell5 HD1.out
 have df0:=df 0
 go_region_with (go_at_call 90;(with_reducible refine(HFm.out _).mono ?_);rintro r w5 ⟨rfl,hb5⟩;have p0:=keeps_of_below hb5 _ _ d0;have pf:=(hb5.frozen (p:=⟨w.heap.size,0,none⟩) hlt).trans df0)
 all_goals
  have hz5:W1.heap.size≤w5.heap.size:=hb5.size
  have HB5:Hid (Below w.heap.size w w5):=(Below.drew HB1.out).trans (hb5.mono (by rw[World.size_drew];omega))
  have HD5:=Lib.hid (hx_below hb5 HD1.out)
  clear hb5 p0 pf d0 d1 d2 d3 d4 df df0
  generalize hW6:w5.setCell _ _=W6
  have hz6:w5.heap.size≤W6.heap.size:=by rw[← hW6];simp
  have HB6:Hid (Below w.heap.size w W6):=by show Below _ _ _;rw[← hW6];exact HB5.out.setCell (Nat.le_refl _) _
  have HD6:Hid (W6.heap[w.heap.size]? = some (.cells #[.string ((d.name++⟨#[95]⟩)++fs),.slice xai d.inputs.length xci,.slice xaw d.wires.length xcw,.slice xar d.regs.length xcr,.slice xao d.outputs.length xco] 27 (0,0))):=by
   show _=_;rw[← hW6,heap_setCell_same _ _ _ _ _ _ HD5.out]
   rfl
  clear hW6 HD5
  obtain⟨d0,d1,d2,d3,d4,_⟩:=cell5 HD6.out
  go_wp2_with fail
  refine(HVd.out W6 HB6.out).mono ?_
  rintro r w7 ⟨rfl,hb7⟩
  have hz7:=hb7.size
  have HB7:Hid (Below w.heap.size w w7):=HB6.out.trans (hb7.mono (by omega))
  have HD7:=Lib.hid (hx_below hb7 HD6.out)
  clear hb7 d0 d1 d2 d3 d4
  have hll:(L.map siteOf).length=L.length:=List.length_map _
  by_cases he:(d.named L.length).err=0
  ·have HAd:Hid (addM (L.map siteOf) (d,t)=L.map siteOf++[(d.named L.length,t)]):=by
    show _=_
    rw[addM_yes (by rw[hll];exact he),hll]
   rw[he]
   clear he hll
   obtain⟨d0,d1,d2,d3,d4,_⟩:=cell5 HD7.out
   have hOr:=Lib.hid (HO.out.below (siteP_keep p) HB7.out)
   have hzB:B≤w7.heap.size:=by omega
   have HAP:Hid (∀ {ops:Array Oper} {rest:List Oper} {o:Oper} {a:Act} {Q:Exit→Act→World→Prop},o.guard=none→o.op=.call { callee:=.builtin .append,args:=#[.tmp 18,.tmp 22],argTypes:=#[99, 99] }→a.eval (.tmp 18)=.slice va L.length vc→a.eval (.tmp 22)=.slice (some ⟨w7.heap.size,0,none⟩) 1 1 →
     (∀ g cap w',w'.ownsRow B 102 6 (.slice (some ⟨g,0,none⟩) (L.length+1) cap) (L.length+1) (L.flatMap siteCells++[.string t,.string ((d.name++⟨#[95]⟩)++fs),.slice xai d.inputs.length xci,.slice xaw d.wires.length xcw,.slice xar d.regs.length xcr,.slice xao d.outputs.length xco])→(w7.alloc (.cells #[.string t,.string ((d.name++⟨#[95]⟩)++fs),.slice xai d.inputs.length xci,.slice xaw d.wires.length xcw,.slice xar d.regs.length xcr,.slice xao d.outputs.length xco] 102)).grownBy w' (Value.slice va L.length vc).ownBlock→((Value.slice va L.length vc).ownBlock=some g∨w7.heap.size < g)→wpList Tryz.prog ops Q rest (a.put o.dst (.slice (some ⟨g,0,none⟩) (L.length+1) cap)) w') →
     wpList Tryz.prog ops Q (o::rest) a (w7.alloc (.cells #[.string t,.string ((d.name++⟨#[95]⟩)++fs),.slice xai d.inputs.length xci,.slice xaw d.wires.length xcw,.slice xar d.regs.length xcr,.slice xao d.outputs.length xco] 102))):=fun hgd ho hs hx h =>
    own_appx elemSite w7 hgd _ _ ho B _ L.length _ hs hOr.out.own [.string t,.string ((d.name++⟨#[95]⟩)++fs),.slice xai d.inputs.length xci,.slice xaw d.wires.length xcw,.slice xar d.regs.length xcr,.slice xao d.outputs.length xco] 1 _ 1 rfl (by simp[Value.oneCell']) hx rfl (by omega) (by omega) hzB h
   go_wp2_with (at_builtin;go_must (refine HAP.out rfl rfl rfl rfl ?_))
   intro g gcap wg hownG hgrow hatG
   have hbX:Below w7.heap.size w7 (w7.alloc (.cells #[.string t,.string ((d.name++⟨#[95]⟩)++fs),.slice xai d.inputs.length xci,.slice xaw d.wires.length xcw,.slice xar d.regs.length xcr,.slice xao d.outputs.length xco] 102)):=(Below.refl _ w7).alloc (Nat.le_refl _) _
   have hcl:siteCells (t,d.named L.length,⟨xai,xci,xaw,xcw,xar,xcr,xao,xco⟩)=[.string t,.string ((d.name++⟨#[95]⟩)++fs),.slice xai d.inputs.length xci,.slice xaw d.wires.length xcw,.slice xar d.regs.length xcr,.slice xao d.outputs.length xco]:=by
    unfold siteCells
    rw[HNn.out]
    rfl
   have hat2:(Value.slice va L.length vc).ownBlock=some g∨(w7.alloc (.cells #[.string t,.string ((d.name++⟨#[95]⟩)++fs),.slice xai d.inputs.length xci,.slice xaw d.wires.length xcw,.slice xar d.regs.length xcr,.slice xao d.outputs.length xco] 102)).heap.size≤g:=hatG.imp id fun h=>by rw[World.size_alloc];omega
   have HOg:Hid (OwnSi wg B p (.slice (some ⟨g,0,none⟩) (L.length+1) gcap) (L++[(t,d.named L.length,⟨xai,xci,xaw,xcw,xar,xcr,xao,xco⟩)])):=by
    refine(hOr.out.below (siteP_keep p) hbX).add (siteP_keep p) ?_ hgrow hat2 (by rw[hcl];exact hownG)
    unfold siteP
    rw[hide_hide]
    have hk:=(hk_below (p:=besP p (.slice va L.length vc)) (q:=fun k=>ownP (.slice va L.length vc) k || p k) (HB7.out.trans (hbX.mono HB7.out.size)) fun j _ h=>by
     rw[Bool.or_eq_true,ownP_true] at h
     exact besP_true.2 h.symm).cell
    have h:=HD.out.keep hk
    exact⟨h.ins,h.wires,h.regs,h.outs⟩
   have HBg:Hid (Below B w wg):=gr_bel ((HB7.out.trans (hbX.mono HB7.out.size)).mono hB) hgrow (by have:=hbX.size;omega) (fun k hk=>(HVo.out k hk).1)
   have HPg:=Lib.hid (HP.out _ _ wg HOg.out (by rw[HAd.out,List.map_append];rfl) HBg.out (gr_trans (gr_below (gr_refl w _) (HB7.out.trans (hbX.mono HB7.out.size))) hgrow) (fun k hk=>by
    have e:g=k:=Option.some.inj hk
    subst e
    exact hatG.imp id fun h=>by omega))
   clear hbX hcl hownG hgrow hatG hat2 d0 d1 d2 d3 d4
   go_wp2_with fail
   first | exact HPg.out | (go_ret;exact HPg.out)
  ·have hee:((d.named L.length).err == 0)=false:=by simpa using he
   have HPn:=Lib.hid (HP.out _ _ w7 (HO.out.below (siteP_keep p) HB7.out) (by rw[addM_no (by rw[hll];exact he)]) (HB7.out.mono hB) (gr_below (gr_refl w _) HB7.out) (fun k hk=>Or.inl hk))
   clear hll
   go_wp2_with fail
   first | exact HPn.out | (go_ret;exact HPn.out)
end Go.Proofs.YtebneadheaefdaaGreatDoor
namespace Go.Proofs.YtebneadheaefdaaGreatDoor
open Go.RowKit
attribute [local go_sem ↓] Go.wp_at_zero Go.wp_at_succ
def GatPost (B:Nat) (q:Nat→Bool) (w:World) (v:Value) (l:List Ex) (r:Ending) (w':World):Prop :=
 ∃ v' L',r=.returned v'∧OwnE w' B q v' L'∧L'.map (·.1)=l∧w.grownBy w' v.ownBlock∧(∀ k,v'.ownBlock=some k→v.ownBlock=some k∨w.heap.size≤k)
theorem gr_two {w w1 w2:World} {v v1:Value} (h:w.grownBy w1 v.ownBlock) (h1:w1.grownBy w2 v1.ownBlock) (hv:∀ k,v1.ownBlock=some k→v.ownBlock=some k∨w.heap.size≤k):w.grownBy w2 v.ownBlock :=
 ⟨h1.os.trans h.os,h1.tape.trans h.tape,h1.output.trans h.output,Nat.le_trans h.size h1.size,fun k hk hn=>(h1.block k (Nat.lt_of_lt_of_le hk h.size) (fun e=>by
  rcases hv k e.symm with h2 | h2
  ·exact hn h2.symm
  ·omega)).trans (h.block k hk hn)⟩
noncomputable def nodK (e:Ex) (k:Nat):List Ex:=e::((e.args.take k).map Ex.nodes).flatten
theorem nodK_succ (e:Ex) {k:Nat} (hk:k < e.args.length):nodK e (k+1)=nodK e k++(e.args[k]'hk).nodes:=by
 unfold nodK
 rw[List.take_add_one,List.getElem?_eq_getElem hk,List.map_append,List.flatten_append]
 simp
theorem nodK_all (e:Ex):nodK e e.args.length=e.nodes:=by
 unfold nodK
 rw[List.take_length,Ex.nodes_eq]
theorem nodK_len (e:Ex) (k:Nat):(nodK e k).length=1+sizeK e.args k:=by
 unfold nodK sizeK
 simp[List.length_flatten,List.map_map,Function.comp_def,Nat.add_comm]
set_option maxHeartbeats 8000000 in
set_option maxRecDepth 100000 in
theorem gather_any (e:Ex):∀ (B:Nat) (q:Nat→Bool) (v:Value) (L:List XA) (ea:Option Addr) (ec:Nat) (w:World),B≤w.heap.size→(∀ k,B≤k→q k=true)→OwnE w B q v L→ExIn (World.hide w q) e ea ec→L.length+e.nodes.length≤65536 →
  Calls Tryz.prog 169 #[v,exVal e ea ec] w (GatPost B q w v (L.map (·.1)++e.nodes)):=by
 induction e using Ex.ind with
 | h e ih =>
  intro B q v L ea ec w hB hq hO hX hl
  obtain⟨op,n,s,args⟩:=e
  have HIH:Hid (∀ k (hk:k < args.length),∀ (v:Value) (L:List XA) (ea:Option Addr) (ec:Nat) (w:World),B≤w.heap.size→OwnE w B q v L→ExIn (World.hide w q) (args[k]'hk) ea ec→L.length+(args[k]'hk).nodes.length≤65536→Calls Tryz.prog 169 #[v,exVal (args[k]'hk) ea ec] w (GatPost B q w v (L.map (·.1)++(args[k]'hk).nodes))) :=
   fun k hk v L a c W h1 h2 h3 h4=>ih _ (List.getElem_mem hk) B q v L a c W h1 hq h2 h3 h4
  have HQ:=Lib.hid hq
  have HO:=Lib.hid hO
  have HX:=Lib.hid hX
  have hE:=hX.2
  have HEl:Hid (args.length=0∨∃ b off,ea=some ⟨b,off,none⟩):=hE.addr
  have hlen:=hE.2.1
  have HE:=Lib.hid hE
  have HN0:Hid (nodK (.mk op n s args) 0=[.mk op n s args]):=rfl
  have HNs:Hid (∀ k (hk:k < args.length),nodK (.mk op n s args) (k+1)=nodK (.mk op n s args) k++(args[k]'hk).nodes):=fun k hk=>nodK_succ (.mk op n s args) hk
  have HNa:Hid (nodK (.mk op n s args) args.length=(Ex.mk op n s args).nodes):=nodK_all (.mk op n s args)
  have HNl:Hid (∀ k (hk:k < args.length),(nodK (.mk op n s args) k).length+(args[k]'hk).nodes.length≤(Ex.mk op n s args).nodes.length):=fun k hk=>by
   rw[nodK_len]
   have h1:=sizeK_le (.mk op n s args) (k+1)
   have h2:=sizeK_succ args hk
   simp only[Ex.args_mk] at h1⊢
   omega
  have hpos:1≤(Ex.mk op n s args).nodes.length:=by have:=sizeK_le (.mk op n s args) 0;omega
  obtain⟨va,vc,rfl,hvc,hvo,_⟩:=hO.slice (by omega)
  have HVo:=Lib.hid hvo
  clear hO hX hE ih hq hvo
  simp only[Ex.args_mk] at HE hlen
  generalize hPo:GatPost B q w (.slice va L.length vc) (L.map (·.1)++(Ex.mk op n s args).nodes)=Po
  have HPo:=Lib.hid hPo
  clear hPo
  generalize (Ex.mk op n s args).nodes.length=nl at HNl hl hpos
  rw[exval_mk']
  go_enter Tryz.func169, Tryz.ntmps169
  go_upto_region 1 with fail
  generalize hW1:w.alloc (.cells #[.int .i64 op,.int .i64 n,.string s,.slice ea args.length ec] 72)=W1
  have hz1:w.heap.size+1≤W1.heap.size:=by rw[← hW1];simp
  have HB1:Hid (Below w.heap.size w W1):=by show Below _ _ _;rw[← hW1];exact belr
  have HX1:Hid (W1.heap[w.heap.size]? = some (.cells #[.int .i64 op,.int .i64 n,.string s,.slice ea args.length ec] 72 (0,0))):=by
   show _=_;rw[← hW1]
   exact hx_new rfl
  clear hW1
  obtain⟨a0,a1,a2,a3,_⟩:=cell4 HX1.out
  have HO1:=Lib.hid (HO.out.below (exBeside_keep _) HB1.out)
  have hzB:B≤W1.heap.size:=by omega
  go_wp2_with (at_builtin;go_must (refine own_appx elemE W1 (by rfl) (.tmp 6) (.tmp 8) (by rfl) B (.slice va L.length vc) L.length (L.flatMap exCells) (by rfl) HO1.out.own [.int .i64 op,.int .i64 n,.string s,.slice ea args.length ec] 1 _ _ rfl (by simp[Value.oneCell']) (by rfl) (by rfl) (by omega) (by omega) (by omega) ?_))
  intro g cap w2 ho hg hat
  have hbn:Below w.heap.size w (W1.alloc (.cells #[.int .i64 op,.int .i64 n,.string s,.slice ea args.length ec] 72)):=HB1.out.alloc (by omega) _
  have HG2:Hid (w.grownBy w2 (Value.slice va L.length vc).ownBlock):=gr_trans (gr_below (gr_refl w _) hbn) hg
  have HX2:Hid (w2.heap[w.heap.size]? = some (.cells #[.int .i64 op,.int .i64 n,.string s,.slice ea args.length ec] 72 (0,0))):=gr_blk hg (hx_old HX1.out) (fun e=>by have:=(HVo.out _ e).2;omega)
  have HO2:Hid (OwnE w2 B q (.slice (some ⟨g,0,none⟩) (L.length+1) cap) (L++[(.mk op n s args,ea,ec)])):=by
   refine(HO1.out.below (exBeside_keep _) ((Below.refl _ W1).alloc (Nat.le_refl _) _)).add (exBeside_keep _) (x:=(.mk op n s args,ea,ec)) ?_ hg (hat.imp id (fun h=>by rw[World.size_alloc];omega)) ho
   unfold exBeside
   rw[hide_hide]
   refine HX.out.keep (hk_below hbn fun k _ h=>?_).cell
   rw[Bool.or_eq_true,ownP_true] at h
   rcases h with h | h
   ·exact HQ.out k (HVo.out k h).1
   ·exact h
  have HV2:Hid (∀ k,(Value.slice (some ⟨g,0,none⟩) (L.length+1) cap).ownBlock=some k→(Value.slice va L.length vc).ownBlock=some k∨w.heap.size+1≤k):=fun k hk=>by
   have e:g=k:=Option.some.inj hk
   subst e
   exact hat.imp id fun h=>by omega
  have HL2:Hid ((L++[(Ex.mk op n s args,ea,ec)]:List XA).map (·.1)=L.map (·.1)++nodK (.mk op n s args) 0):=by
   show _=_
   rw[HN0.out,List.map_append]
   rfl
  have hz2:w.heap.size+1≤w2.heap.size:=by have:=hg.size;rw[World.size_alloc] at this;omega
  clear ho hg hat hbn a0 a1 a2 a3 HO1 HX HN0
  generalize nodK (.mk op n s args)=NK at HNs HNa HNl HL2
  go_wp2_with fail
  go_loopw [5,0] (fun i v1 wr=>∃ (k:Nat) (L1:List XA),i=.int .i64 k∧k≤args.length∧Hid (L1.map (·.1)=L.map (·.1)++NK k)∧Hid (OwnE wr B q v1 L1)∧Hid (w.grownBy wr (Value.slice va L.length vc).ownBlock)∧Hid (∀ k,v1.ownBlock=some k→(Value.slice va L.length vc).ownBlock=some k∨w.heap.size+1≤k)∧Hid (wr.heap[w.heap.size]? = some (.cells #[.int .i64 op,.int .i64 n,.string s,.slice ea args.length ec] 72 (0,0)))∧w.heap.size+1≤wr.heap.size) (fun i _ _=>args.length - (intOf i).toNat)
  case atStart=>exact⟨0,_,rfl,Nat.zero_le _,HL2,HO2,HG2,HV2,HX2,hz2⟩
  case round =>
   obtain⟨k,L1,rfl,hk,HL,HO,HG,HV,HXr,hzr⟩:=hrel
   obtain⟨a0,a1,a2,a3,_⟩:=cell4 HXr.out
   by_cases hlt:k < args.length
   ·obtain⟨bE,oE,hEa⟩:=HEl.out.resolve_left (by omega)
    have hEk:=HE.out.keep (hk_grown (p:=q) (q:=q) HG.out (fun j hj=>HQ.out j (HVo.out j hj).1) fun _ _ h=>h).cell
    subst hEa
    obtain⟨xa,xc,g0,g1,g2,g3,hXk⟩:=hEk.get rfl hlt
    have g0:=hide_cell _ _ g0
    have g1:=hide_cell _ _ g1
    have g2:=hide_cell _ _ g2
    have g3:=hide_cell _ _ g3
    have hL1:L1.length=L.length+(NK k).length:=by have:=congrArg List.length HL.out;simpa using this
    have hN1:=HNl.out k hlt
    have HC:=Lib.hid (HIH.out k hlt _ L1 xa xc wr (by omega) HO.out hXk (by omega))
    have HNk:=Lib.hid (HNs.out k hlt)
    clear hXk hL1 hN1
    generalize (args[k]'hlt)=y at g0 g1 g2 g3 HC HNk
    simp only[exVal] at HC
    go_wp2_with fail
    refine HC.out.mono ?_
    rintro r w' ⟨v',L',rfl,hO',hL',hg',hv'⟩
    have HO':=Lib.hid hO'
    have HL':Hid (L'.map (·.1)=L.map (·.1)++NK (k+1)):=by show _=_;rw[hL',HL.out,HNk.out,List.append_assoc]
    have HG':Hid (w.grownBy w' (Value.slice va L.length vc).ownBlock):=gr_two HG.out hg' (fun j hj=>(HV.out j hj).imp id fun h=>by omega)
    have HX':Hid (w'.heap[w.heap.size]? = some (.cells #[.int .i64 op,.int .i64 n,.string s,.slice (some ⟨bE,oE,none⟩) args.length ec] 72 (0,0))):=gr_blk hg' HXr.out (fun e=>by
     rcases HV.out _ e with h | h
     ·have:=(HVo.out _ h).2;omega
     ·omega)
    have HV':Hid (∀ k,v'.ownBlock=some k→(Value.slice va L.length vc).ownBlock=some k∨w.heap.size+1≤k):=fun j hj=>by
     rcases hv' j hj with h | h
     ·exact HV.out j h
     ·exact Or.inr (by omega)
    have hz':w.heap.size+1≤w'.heap.size:=by have:=hg'.size;omega
    clear hO' hL' hg' hv' g0 g1 g2 g3 a0 a1 a2 a3
    go_wp2_with fail
    go_roundw
    case rel=>exact⟨k+1,L',by go_num,by omega,HL',HO',HG',HV',HX',hz'⟩
    case measure=>(simp[intOf];try omega)
   ·obtain rfl:k=args.length:=by omega
    have HPr:Hid (∀ v1,OwnE wr B q v1 L1→(∀ k,v1.ownBlock=some k→(Value.slice va L.length vc).ownBlock=some k∨w.heap.size+1≤k)→Po (.returned v1) wr):=fun v1 h1 h2=>by
     rw[← HPo.out]
     exact⟨v1,L1,rfl,h1,by rw[HL.out,HNa.out],HG.out,fun j hj=>(h2 j hj).imp id fun h=>by omega⟩
    have HPn:=Lib.hid (HPr.out _ HO.out HV.out)
    go_wp2_with fail
    first | exact HPn.out | (go_ret;exact HPn.out)
def NodesPost (p:Nat→Bool) (w:World) (l:List Ex) (r:Ending) (w':World):Prop:=(∃ a c,r=.returned (.slice a l.length c)∧ExsIn (World.hide w' p) l a c)∧Below w.heap.size w w'
set_option maxHeartbeats 4000000 in
set_option maxRecDepth 100000 in
theorem rNodes_any (e:Ex) (p:Nat→Bool) (ea:Option Addr) (ec:Nat) (w:World) (hp:∀ k,p k=true→k < w.heap.size) (hX:ExIn (World.hide w p) e ea ec) (hl:e.nodes.length≤65536) :
  Calls Tryz.prog 116 #[exVal e ea ec] w (NodesPost p w e.nodes):=by
 have HG:=Lib.hid (fun W (hW:Below w.heap.size w W)=>gather_any e w.heap.size (fun k=>p k || decide (w.heap.size≤k)) (.slice none 0 0) [] ea ec W hW.size (fun k hk=>by simp[hk]) (OwnR.nil _ _ _ _ _ _) (hX.keep (hk_below hW fun k hk h=>by
  rw[Bool.or_eq_true,decide_eq_true_eq] at h
  rcases h with h | h
  ·exact h
  ·omega).cell) (by simpa using hl))
 have HP:Hid (∀ v' L' W,OwnE W w.heap.size (fun k=>p k || decide (w.heap.size≤k)) v' L'→L'.map (·.1)=e.nodes→Below w.heap.size w W→NodesPost p w e.nodes (.returned v') W):=fun v' L' W h1 h2 h3=>by
  have h4:OwnE W w.heap.size p v' L':=h1.imp (Nat.le_refl _) fun x _ hx=>by
   unfold exBeside at hx⊢
   exact hx.keep (hk_mono fun k hk=>by simp[hk]).cell
  have hll:L'.length=e.nodes.length:=by rw[← h2,List.length_map]
  obtain⟨a,c,rfl,hs⟩:=h4.exs (by omega) (fun k hk=>by
   have:=(h1.own.lt k hk).1
   cases h:p k with
   | false=>rfl
   | true=>have:=hp k h;omega)
  rw[h2] at hs
  exact⟨⟨a,c,by rw[hll],hs⟩,h3⟩
 generalize NodesPost p w e.nodes=Po at HP⊢
 generalize e.nodes=l at HP HG
 obtain⟨op,n,s,args⟩:=e
 rw[exval_mk'] at HG⊢
 clear hX
 go_enter Tryz.func116, Tryz.ntmps116
 go_wp2_with fail
 refine(HG.out _ belr).mono ?_
 rintro r w' ⟨v',L',rfl,hO,hL,hg,-⟩
 have HPn:=Lib.hid (HP.out v' L' w' hO (by simpa using hL) (gr_bel (B:=w.heap.size) belr hg (by simp) (fun k hk=>by simp[Value.ownBlock] at hk)))
 clear hO hL hg
 go_wp2_with fail
 first | exact HPn.out | (go_ret;exact HPn.out)
end Go.Proofs.YtebneadheaefdaaGreatDoor
namespace Go.Proofs.YtebneadheaefdaaGreatDoor
open Go.RowKit
theorem besP_lt {wr:World} {B:Nat} {p:Nat→Bool} {v:Value} {L:List SA} (hO:OwnSi wr B p v L) (hp:∀ k,p k=true→k < wr.heap.size):∀ k,besP p v k=true→k < wr.heap.size:=fun k hk=>by
 rcases besP_true.1 hk with h | h
 ·exact hp k h
 ·exact(hO.own.lt k h).2
theorem gr_hcell {w w':World} {row:Option Nat} {q:Nat→Bool} (hg:w.grownBy w' row) (hr:∀ k,row=some k→q k=true) {a:Addr} {u:Value} (h:(World.hide w q).cell? a=some u):w'.cell? a=some u :=
 hide_cell _ _ (hide_grown hg hr (fun _ _ h=>h) _ _ h)
theorem besP_row {p:Nat→Bool} {v:Value}:∀ k,v.ownBlock=some k→besP p v k=true:=fun _ h=>besP_true.2 (Or.inr h)
section
variable {B : Nat} {p : Nat → Bool} {v : Value} {L : List SA} {wr W : World}
theorem site_nodes (hO:OwnSi wr B p v L) (hp:∀ k,p k=true→k < wr.heap.size) (e:Ex) {ea:Option Addr} {ec:Nat} (hX:ExIn (World.hide wr (besP p v)) e ea ec) (hl:e.nodes.length≤65536) :
  Calls Tryz.prog 116 #[exVal e ea ec] wr fun r w'=>(∃ a c,r=.returned (.slice a e.nodes.length c)∧ExsIn (World.hide w' (besP p v)) e.nodes a c)∧Below wr.heap.size wr w' :=
 rNodes_any e (besP p v) ea ec wr (besP_lt hO hp) hX hl
theorem site_with (hO:OwnSi wr B p v L) (hp:∀ k,p k=true→k < wr.heap.size) (e:Ex) (k:Nat) {ea:Option Addr} {ec:Nat} (hX:ExIn (World.hide wr (besP p v)) e ea ec) (hok:OkE e) (hl:e.nodes.length≤65536) (hk:k≤65536) (hb:Below wr.heap.size wr W) :
  Calls Tryz.prog 120 #[exVal e ea ec,.int .i64 k] W fun r w'=>(∃ a c,r=.returned (exVal (withS e k) a c)∧ExIn (World.hide w' (besP p v)) (withS e k) a c)∧Below W.heap.size W w'∧Below wr.heap.size wr w' :=
 (with_any e (besP p v) k ea ec W (fun k hk=>Nat.lt_of_lt_of_le (besP_lt hO hp k hk) hb.size) (hX.keep (hk_below hb fun _ _ h=>h).cell) hok hl hk).mono fun _ _ h=>⟨h.1,h.2,hb.trans (h.2.mono hb.size)⟩
theorem site_wired (hO:OwnSi wr B p v L) (hp:∀ k,p k=true→k < wr.heap.size) (d:DesD) (x:DesA) (i:Nat) (e:Ex) (ea:Option Addr) (ec:Nat) (hD:DesIn (World.hide wr (besP p v)) d x) (hi:i < d.wires.length) (hb:Below wr.heap.size wr W) (hX:ExIn (World.hide W (besP p v)) e ea ec) :
  Calls Tryz.prog 119 #[desVal d x,.int .i64 i,exVal e ea ec] W fun r w'=>(∃ x',r=.returned (desVal (d.setWire i e) x')∧DesIn (World.hide w' (besP p v)) (d.setWire i e) x')∧Below W.heap.size W w'∧Below wr.heap.size wr w' :=
 (wired_any (besP p v) d x i e ea ec W (fun k hk=>Nat.lt_of_lt_of_le (besP_lt hO hp k hk) hb.size) (hD.keep (hk_below hb fun _ _ h=>h).cell) hi hX).mono fun _ _ h=>⟨h.1,h.2,hb.trans (h.2.mono hb.size)⟩
theorem site_clocked (hO:OwnSi wr B p v L) (hp:∀ k,p k=true→k < wr.heap.size) (d dm:DesD) (x:DesA) (i:Nat) (r:RegD) (ea:Option Addr) (ec:Nat) (hdm:({ d with regs:=d.regs.set i r }:DesD)=dm) (hD:DesIn (World.hide wr (besP p v)) d x) (hi:i < d.regs.length) (hX:ExIn (World.hide wr (besP p v)) r.next ea ec) (hb:Below wr.heap.size wr W) :
  Calls Tryz.prog 74 #[desVal d x,.int .i64 i,.agg #[.string r.name,.int .i64 r.width,.int .i64 r.init,.int .i64 r.next.op,.int .i64 r.next.n,.string r.next.name,.slice ea r.next.args.length ec]] W fun r w'=>(∃ x',r=.returned (desVal dm x')∧DesIn (World.hide w' (besP p v)) dm x')∧Below W.heap.size W w'∧Below wr.heap.size wr w':=by
 subst hdm
 exact(clocked_any (besP p v) d x i r ea ec W (fun k hk=>Nat.lt_of_lt_of_le (besP_lt hO hp k hk) hb.size) (hD.keep (hk_below hb fun _ _ h=>h).cell) hi (hX.keep (hk_below hb fun _ _ h=>h).cell)).mono fun _ _ h=>⟨h.1,h.2,hb.trans (h.2.mono hb.size)⟩
theorem site_add (hO:OwnSi wr B p v L) (hp:∀ k,p k=true→k < wr.heap.size) (hB:B≤wr.heap.size) (dm:DesD) (x:DesA) (t:ByteArray) (hl:L.length≤65535) (hnm:dm.name.size≤16) (hs:DesSmall (dm.named L.length)) (hb:Below wr.heap.size wr W) (hD:DesIn (World.hide W (besP p v)) dm x) :
  Calls Tryz.prog 118 #[v,desVal dm x,.string t] W fun r w'=>(∃ v' L',r=.returned v'∧OwnSi w' B p v' L'∧L'.map siteOf=addM (L.map siteOf) (dm,t)∧∀ a u,(World.hide wr (besP p v)).cell? a=some u→(World.hide w' (besP p v')).cell? a=some u)∧wr.grownBy w' v.ownBlock∧Below B wr w':=by
 refine(add_any B p v L dm x t W (Nat.le_trans hB hb.size) (fun k hk=>Nat.lt_of_lt_of_le (hp k hk) hb.size) (hO.below (siteP_keep p) hb) hD hl hnm hs).mono ?_
 rintro r w' ⟨⟨v',L',rfl,hO',hm,hg,hv'⟩,hB'⟩
 have hgr:wr.grownBy w' v.ownBlock:=gr_trans (gr_below (gr_refl wr _) hb) hg
 refine⟨⟨v',L',rfl,hO',hm,hide_grown hgr besP_row fun k hk hq=>?_⟩,hgr,(hb.mono hB).trans hB'⟩
 rcases besP_true.1 hq with h | h
 ·exact besP_true.2 (Or.inl h)
 ·rcases hv' k h with h | h
  ·exact besP_row k h
  ·have:=hb.size
   omega
end
def orP (p:Nat→Bool) (b:Nat):Nat→Bool:=fun k=>p k || k == b
theorem orP_true {p:Nat→Bool} {b k:Nat}:orP p b k=true↔p k=true∨k=b:=by simp[orP]
theorem OwnSi.box {w W:World} {B b:Nat} {p:Nat→Bool} {v:Value} {L:List SA} (h:OwnSi w B p v L) (hb:Below w.heap.size w W) (hbw:w.heap.size≤b):OwnSi W B (orP p b) v L:=by
 have h1:=h.below (siteP_keep p) hb
 refine⟨h1.own,fun x hx=>?_⟩
 have h2:=h.mem x hx
 unfold siteP at h2⊢
 rw[hide_hide] at h2⊢
 refine h2.keep (hk_below hb fun k hk hq=>?_).cell
 rw[Bool.or_eq_true] at hq⊢
 rcases hq with q | q
 ·exact Or.inl q
 ·rcases orP_true.1 q with q | q
  ·exact Or.inr q
  ·omega
theorem OwnSi.unbox {w:World} {B b:Nat} {p:Nat→Bool} {v:Value} {L:List SA} (h:OwnSi w B (orP p b) v L):OwnSi w B p v L :=
 h.imp (Nat.le_refl _) fun x _ hx=>DesIn.keep (hk_mono fun k hk=>orP_true.2 (Or.inl hk)).cell hx
theorem OwnSi.gr {w w':World} {B b:Nat} {p:Nat→Bool} {v:Value} {L:List SA} (h:OwnSi w B p v L) (hg:w.grownBy w' (some b)) (hb:p b=true) (hv:v.ownBlock≠some b):OwnSi w' B p v L:=by
 refine⟨h.own.kept hg ?_,fun x hx=>?_⟩
 ·cases e:v.ownBlock with
  | none=>exact Or.inl rfl
  | some k=>exact Or.inr (fun e2=>hv (e.trans e2))
 ·have h2:=h.mem x hx
  unfold siteP at h2⊢
  rw[hide_hide] at h2⊢
  exact h2.keep (hide_grown hg (fun k hk=>by
   obtain rfl:=Option.some.inj hk
   rw[Bool.or_eq_true]
   exact Or.inr hb) fun _ _ h=>h)
theorem cell_gr {w w':World} {b:Nat} {q:Nat→Bool} (hg:w.grownBy w' (some b)) (hb:q b=true):∀ a u,(World.hide w q).cell? a=some u→(World.hide w' q).cell? a=some u :=
 hide_grown hg (fun k hk=>by obtain rfl:=Option.some.inj hk;exact hb) fun _ _ h=>h
theorem set7R {w:World} {b:Nat} {m0 m1 m2 m3 m4 m5 m6 u0 u1 u2 u3 u4 u5 u6:Value} {t:TypeId} (h:w.heap[b]? = some (.cells #[m0,m1,m2,m3,m4,m5,m6] t (0,0))) :
  (((((((w.setCell ⟨b,0,none⟩ u0).setCell ⟨b,1,none⟩ u1).setCell ⟨b,2,none⟩ u2).setCell ⟨b,3,none⟩ u3).setCell ⟨b,4,none⟩ u4).setCell ⟨b,5,none⟩ u5).setCell ⟨b,6,none⟩ u6).heap[b]? = some (.cells #[u0,u1,u2,u3,u4,u5,u6] t (0,0)):=by
 have h0:=heap_setCell_same _ b 0 _ t u0 h
 have h1:=heap_setCell_same _ b 1 _ t u1 h0
 have h2:=heap_setCell_same _ b 2 _ t u2 h1
 have h3:=heap_setCell_same _ b 3 _ t u3 h2
 have h4:=heap_setCell_same _ b 4 _ t u4 h3
 have h5:=heap_setCell_same _ b 5 _ t u5 h4
 have h6:=heap_setCell_same _ b 6 _ t u6 h5
 rw[h6]
 rfl
theorem set4N {w:World} {b:Nat} {m0 m1 m2 m3 m4 m5 m6 u3 u4 u5 u6:Value} {t:TypeId} (h:w.heap[b]? = some (.cells #[m0,m1,m2,m3,m4,m5,m6] t (0,0))) :
  ((((w.setCell ⟨b,3,none⟩ u3).setCell ⟨b,4,none⟩ u4).setCell ⟨b,5,none⟩ u5).setCell ⟨b,6,none⟩ u6).heap[b]? = some (.cells #[m0,m1,m2,u3,u4,u5,u6] t (0,0)):=by
 have h3:=heap_setCell_same _ b 3 _ t u3 h
 have h4:=heap_setCell_same _ b 4 _ t u4 h3
 have h5:=heap_setCell_same _ b 5 _ t u5 h4
 have h6:=heap_setCell_same _ b 6 _ t u6 h5
 rw[h6]
 rfl
theorem set1I {w:World} {b:Nat} {m0 m1 m2 m3 m4 m5 m6 u2:Value} {t:TypeId} (h:w.heap[b]? = some (.cells #[m0,m1,m2,m3,m4,m5,m6] t (0,0))):(w.setCell ⟨b,2,none⟩ u2).heap[b]? = some (.cells #[m0,m1,u2,m3,m4,m5,m6] t (0,0)):=by
 have h2:=heap_setCell_same _ b 2 _ t u2 h
 rw[h2]
 rfl
theorem cell7 {W:World} {b:Nat} {m0 m1 m2 m3 m4 m5 m6:Value} {t:TypeId} (h:W.heap[b]? = some (.cells #[m0,m1,m2,m3,m4,m5,m6] t (0,0))):W.cell? ⟨b,0,none⟩=some m0∧W.cell? ⟨b,1,none⟩=some m1∧W.cell? ⟨b,2,none⟩=some m2∧W.cell? ⟨b,3,none⟩=some m3∧W.cell? ⟨b,4,none⟩=some m4∧W.cell? ⟨b,5,none⟩=some m5∧W.cell? ⟨b,6,none⟩=some m6∧∀ o,W.frozen? ⟨b,o,none⟩=false :=
 ⟨cell_of_blk h 0,cell_of_blk h 1,cell_of_blk h 2,cell_of_blk h 3,cell_of_blk h 4,cell_of_blk h 5,cell_of_blk h 6,fun o=>by simp[World.frozen?,h]⟩
end Go.Proofs.YtebneadheaefdaaGreatDoor
