/- law34, plain: the injected design runs as the design does, beside its counter. -/
import Derived.Test.YtebneadheaefdaaGreatDoorFC
import Derived.Test.YtebneadheaefdaaGreatDoorFN
import Derived.Test.YtebneadheaefdaaGreatDoorFJ
import Derived.Test.YtebneadheaefdaaGreatDoorFM
import Derived.Test.YtebneadheaefdaaGreatDoorDE
set_option linter.unusedSimpArgs false
set_option linter.unusedVariables false
set_option linter.unnecessarySimpa false
namespace Go.Proofs.YtebneadheaefdaaGreatDoor
theorem inj_names (d:DesD) (at':Nat) (cyc bit:Int):(injD d at' cyc bit).names=d.names++[cntN d]:=by
 unfold DesD.names injD
 simp only[List.map_append,List.map_cons,List.map_nil]
 have:(d.regs.modify at' fun r=>{ r with next:=hitE (cntN d) cyc bit r.next }).map (·.name)=d.regs.map (·.name):=by
  refine List.ext_getElem? fun k=>?_
  rw[List.getElem?_map,List.getElem?_map,List.getElem?_modify]
  cases d.regs[k]? with
  | none=>simp
  | some r =>
   by_cases e:at'=k
   ·simp[e]
   ·simp[e]
 rw[this,← List.append_assoc]
end Go.Proofs.YtebneadheaefdaaGreatDoor
namespace Go.Proofs.YtebneadheaefdaaGreatDoor
end Go.Proofs.YtebneadheaefdaaGreatDoor
namespace Go.Proofs.YtebneadheaefdaaGreatDoor
end Go.Proofs.YtebneadheaefdaaGreatDoor
namespace Go.Proofs.YtebneadheaefdaaGreatDoor
def isReg (nm:ByteArray) (r:RegD):Bool:=r.name.toList == nm.toList
def regI (d:DesD) (nm:ByteArray):Int:=idxP (isReg nm) d.regs 0
noncomputable def injA (d:DesD) (nm:ByteArray) (cyc bit:Int):DesD × Int:=open Classical in
 if d.err≠0 then (zD,d.err)
 else if h:∃ k:Nat,regI d nm=k∧k < d.regs.length then
  (if cyc < 0∨4096≤cyc∨bit < 0∨(d.regs[h.choose]'h.choose_spec.2).width≤bit then (zD,1) else if (injD d h.choose cyc bit).err=0 then (injD d h.choose cyc bit,0) else (zD,2))
 else (zD,7)
theorem injA_err {d:DesD} (nm:ByteArray) (cyc bit:Int) (h:¬ d.err=0):injA d nm cyc bit=(zD,d.err):=if_pos h
theorem injA_none {d:DesD} {nm:ByteArray} (cyc bit:Int) (h:d.err=0) (h1:regI d nm=-1):injA d nm cyc bit=(zD,7):=by
 unfold injA
 rw[if_neg (by simpa using h),dif_neg]
 rintro ⟨k,hk,_⟩
 omega
theorem injA_at {d:DesD} {nm:ByteArray} (cyc bit:Int) (h:d.err=0) {k:Nat} (h1:regI d nm=k) (hk:k < d.regs.length) :
  injA d nm cyc bit=if cyc < 0∨4096≤cyc∨bit < 0∨(d.regs[k]'hk).width≤bit then (zD,1) else if (injD d k cyc bit).err=0 then (injD d k cyc bit,0) else (zD,2):=by
 have hx:∃ k:Nat,regI d nm=k∧k < d.regs.length:=⟨k,h1,hk⟩
 have e:hx.choose=k:=by have:=hx.choose_spec.1;omega
 unfold injA
 rw[if_neg (by simpa using h),dif_pos hx]
 simp only[e]
theorem injA_arg {d:DesD} {nm:ByteArray} {cyc bit:Int} (h:d.err=0) {k:Nat} (h1:regI d nm=k) (hk:k < d.regs.length) (h2:cyc < 0∨4096≤cyc∨bit < 0∨(d.regs[k]'hk).width≤bit):injA d nm cyc bit=(zD,1):=by
 rw[injA_at cyc bit h h1 hk,if_pos h2]
theorem injA_lim {d:DesD} {nm:ByteArray} {cyc bit:Int} (h:d.err=0) {k:Nat} (h1:regI d nm=k) (hk:k < d.regs.length) (h2:¬ (cyc < 0∨4096≤cyc∨bit < 0∨(d.regs[k]'hk).width≤bit)) (h3:¬ (injD d k cyc bit).err=0):injA d nm cyc bit=(zD,2):=by
 rw[injA_at cyc bit h h1 hk,if_neg h2,if_neg h3]
theorem injA_ok {d:DesD} {nm:ByteArray} {cyc bit:Int} (h:d.err=0) {k:Nat} (h1:regI d nm=k) (hk:k < d.regs.length) (h2:¬ (cyc < 0∨4096≤cyc∨bit < 0∨(d.regs[k]'hk).width≤bit)) (h3:(injD d k cyc bit).err=0):injA d nm cyc bit=(injD d k cyc bit,0):=by
 rw[injA_at cyc bit h h1 hk,if_neg h2,if_pos h3]
theorem isReg_iff {nm:ByteArray} {r:RegD}:isReg nm r=true↔r.name=nm:=by
 unfold isReg
 rw[beq_iff_eq,bytes_toList]
theorem cnt_size {d:DesD} (h:d.names.length≤65535):(cntN d).size≤70000:=by
 have h1:=(freeK_spec d.names).2.2
 unfold cntN
 generalize freeK d.names=k at h1
 cases k with
 | zero=>decide
 | succ k =>
  have h2:=fmt_len k
  show (kFault++fmtS k).size≤_
  rw[ByteArray.size_append]
  have h3:kFault.size=5:=rfl
  omega
theorem nodes_twoJ (op:Int) (a b:Ex):(twoE op a b).nodes.length=1+a.nodes.length+b.nodes.length:=by
 rw[Ex.nodes_eq]
 simp[twoE,Ex.args_mk]
 omega
theorem nodes_num (n:Int):(numE n).nodes.length=1:=by rw[Ex.nodes_eq];simp[numE,Ex.args_mk]
theorem nodes_var (s:ByteArray):(varE s).nodes.length=1:=by rw[Ex.nodes_eq];simp[varE,Ex.args_mk]
theorem nodes_hit (c:ByteArray) (cyc bit:Int) (old:Ex):(hitE c cyc bit old).nodes.length=6+2 * old.nodes.length:=by
 rw[Ex.nodes_eq]
 simp[hitE,Ex.args_mk,nodes_twoJ,nodes_num,nodes_var]
 omega
theorem inj_exprs {d:DesD} {k:Nat} (cyc bit:Int) {e:Ex} (he:e∈(injD d k cyc bit).exprs):e∈d.exprs∨(∃ r∈d.regs,e=hitE (cntN d) cyc bit r.next)∨e=twoE 7 (varE (cntN d)) (numE 1):=by
 unfold DesD.exprs at he⊢
 rcases List.mem_append.1 he with h | h
 ·exact Or.inl (List.mem_append_left _ h)
 ·obtain⟨r,hr,rfl⟩:=List.mem_map.1 h
  rcases List.mem_append.1 hr with hr | hr
  ·obtain⟨j,hj,rfl⟩:=List.mem_iff_getElem.1 hr
   have hj':j < d.regs.length:=by simpa using hj
   rw[List.getElem_modify]
   split
   ·exact Or.inr (Or.inl ⟨_,List.getElem_mem hj',rfl⟩)
   ·exact Or.inl (List.mem_append_right _ (List.mem_map.2 ⟨_,List.getElem_mem hj',rfl⟩))
  ·obtain rfl:=List.mem_singleton.1 hr
   exact Or.inr (Or.inr rfl)
theorem inj_small {d:DesD} (he:d.err=0) (hs:DesSmall d) (k:Nat) (cyc bit:Int):DesSmall (injD d k cyc bit):=by
 have hn:d.names.length≤48:=(desOk_of_err he).len
 have hc:=cnt_size (d:=d) (by omega)
 have h400:=expr_400 he
 refine⟨hs.nm,?_,?_,?_⟩
 ·rw[inj_names]
  intro s h
  rcases List.mem_append.1 h with h | h
  ·exact hs.names s h
  ·obtain rfl:=List.mem_singleton.1 h
   omega
 ·intro e h
  rcases inj_exprs cyc bit h with h | ⟨r,hr,rfl⟩ | rfl
  ·exact hs.exprs e h
  ·rw[nodes_hit]
   have:=h400 r.next (by unfold DesD.exprs;exact List.mem_append_right _ (List.mem_map.2 ⟨r,hr,rfl⟩))
   omega
  ·rw[nodes_twoJ,nodes_var,nodes_num]
   omega
 ·have h48:=sum_48 he
  refine⟨hs.len.1,hs.len.2.1,?_,hs.len.2.2.2⟩
  show ((d.regs.modify k _)++[_]).length≤_
  rw[List.length_append,List.length_modify,List.length_singleton]
  omega
end Go.Proofs.YtebneadheaefdaaGreatDoor
namespace Go.Proofs.YtebneadheaefdaaGreatDoor
open Go.RowKit
attribute [local go_sem ↓] Go.wp_at_zero Go.wp_at_succ
set_option maxRecDepth 100000 in
set_option maxHeartbeats 1000000 in
theorem indexFunc_inj (c:Nat) (p:RegD→Bool) (l:List RegD) (a:Option Addr) (cap:Nat) (w0 w:World) (hE:RegsIn w l a cap)
  (hf:∀ (v:RegD),v∈l→∀ (ae:Option Addr) (ce:Nat),∀ (w':World),Below w.heap.size w w'→Calls Tryz.prog 64 #[.agg #[.string v.name,.int .i64 v.width,.int .i64 v.init,.int .i64 v.next.op,.int .i64 v.next.n,.string v.next.name,.slice ae v.next.args.length ce],.pointer (some ⟨c,0,none⟩)] w' fun e w2=>e=.returned (.bool (p v))∧Below w'.heap.size w' w2) :
  Calls Tryz.prog 63 #[.slice a l.length cap,.func (.func 64) #[] #[.pointer (some ⟨c,0,none⟩)]] w fun e w'=>e=.returned (.int .i64 (idxP p l 0))∧Below w.heap.size w w':=by
 have hlen:=hE.2.1
 have HA:=Lib.hid hE.addr
 have HE:=Lib.hid hE
 have HF:=Lib.hid hf
 clear hE hf
 go_enter Tryz.func63, Tryz.ntmps63
 go_wp2_with fail
 go_loopw [8] (fun i wr=>∃ k:Nat,i=.int .i64 k∧k≤l.length∧(∀ j (hj:j < l.length),j < k→p (l[j]'hj)=false)∧Below w.heap.size w wr) (fun i _=>l.length - (intOf i).toNat)
 case atStart=>exact⟨0,rfl,Nat.zero_le _,fun _ _ h=>absurd h (by omega),Below.refl _ _⟩
 case round =>
  obtain⟨k,rfl,hk,hall,hBr⟩:=hrel
  have HAl:=Lib.hid hall
  have HB:=Lib.hid hBr
  clear hall
  by_cases hlt:k < l.length
  ·obtain⟨b,off,ha⟩:=HA.out.resolve_left (by omega)
   subst ha
   obtain⟨ae,ce,c0,c1,c2,c3,c4,c5,c6,_⟩:=(HE.out.keep (keeps_of_below hBr)).get rfl hlt
   have HC:=Lib.hid ((HF.out (l[k]'hlt) (List.getElem_mem hlt) ae ce wr hBr).mono fun e w2 h=>(⟨h.1,hBr.trans (h.2.mono hBr.size)⟩:_∧Below w.heap.size w w2))
   clear hBr
   cases he:p (l[k]'hlt)
   ·go_wp2_with fail
    refine HC.out.mono ?_
    rintro e w2 ⟨rfl,hb2⟩
    rw[he]
    have HB2:=Lib.hid hb2
    clear hb2
    (try clear c0);(try clear c1);(try clear c2);(try clear c3);(try clear c4);(try clear c5);(try clear c6)
    go_wp2_with fail
    go_roundw
    case rel=>exact⟨k+1,by go_num,by omega,fun j hj hjk=>by
     by_cases e:j=k
     ·subst e;exact he
     ·exact HAl.out j hj (by omega),HB2.out⟩
    case measure=>simp[intOf];omega
   ·have HY:=Lib.hid (idxP_at p l k 0 hlt (fun j hj=>HAl.out j (by omega) hj) he)
    go_wp2_with fail
    refine HC.out.mono ?_
    rintro e w2 ⟨rfl,hb2⟩
    rw[he]
    have HB2:=Lib.hid hb2
    clear hb2
    (try clear c0);(try clear c1);(try clear c2);(try clear c3);(try clear c4);(try clear c5);(try clear c6)
    go_wp2_with fail
    go_ret
    exact⟨by rw[HY.out];rfl,HB2.out⟩
  ·obtain rfl:k=l.length:=by omega
   have HN:=Lib.hid (idxP_none p l 0 (fun j hj=>HAl.out j hj hj))
   go_wp2_with fail
   go_ret
   exact⟨by rw[HN.out];rfl,HB.out⟩
end Go.Proofs.YtebneadheaefdaaGreatDoor
namespace Go.Proofs.YtebneadheaefdaaGreatDoor
open Go.RowKit
attribute [local go_sem ↓] Go.wp_at_zero Go.wp_at_succ
def ExPost (p:Nat→Bool) (w:World) (e:Ex) (r:Ending) (w':World):Prop:=(∃ a c,r=.returned (exVal e a c)∧ExIn (World.hide w' p) e a c)∧Below w.heap.size w w'
theorem two_row {W:World} {p:Nat→Bool} {x y:Ex} {xa ya:Option Addr} {xc yc g:Nat}
  (hg:W.heap[g]? = some (.cells #[.int .i64 x.op,.int .i64 x.n,.string x.name,.slice xa x.args.length xc,.int .i64 y.op,.int .i64 y.n,.string y.name,.slice ya y.args.length yc] 72 (0,0)))
  (pg:p g=false) (Hx:ExIn (World.hide W p) x xa xc) (Hy:ExIn (World.hide W p) y ya yc):ExsIn (World.hide W p) [x,y] (some ⟨g,0,none⟩) 2:=by
 have C:=fun o v (h:W.cell? ⟨g,o,none⟩=some v)=>cell_hide.2 ⟨pg,h⟩
 refine⟨by show 2≤2;omega,by show 2≤_;omega,Or.inr ⟨g,0,rfl,fun i hi=>?_⟩⟩
 have hi:i < 2:=hi
 have hc:=cell_of_blk hg
 obtain rfl | rfl:i=0∨i=1:=by omega
 ·exact⟨x,rfl,(ExAt_iff _ _ _ _).2 ⟨xa,xc,C _ _ (hc 0),C _ _ (hc 1),C _ _ (hc 2),C _ _ (hc 3),Hx⟩⟩
 ·exact⟨y,rfl,(ExAt_iff _ _ _ _).2 ⟨ya,yc,C _ _ (hc 4),C _ _ (hc 5),C _ _ (hc 6),C _ _ (hc 7),Hy⟩⟩
theorem three_row {W:World} {p:Nat→Bool} {x y z:Ex} {xa ya za:Option Addr} {xc yc zc g:Nat}
  (hg:W.heap[g]? = some (.cells #[.int .i64 x.op,.int .i64 x.n,.string x.name,.slice xa x.args.length xc,.int .i64 y.op,.int .i64 y.n,.string y.name,.slice ya y.args.length yc,.int .i64 z.op,.int .i64 z.n,.string z.name,.slice za z.args.length zc] 72 (0,0)))
  (pg:p g=false) (Hx:ExIn (World.hide W p) x xa xc) (Hy:ExIn (World.hide W p) y ya yc) (Hz:ExIn (World.hide W p) z za zc):ExsIn (World.hide W p) [x,y,z] (some ⟨g,0,none⟩) 3:=by
 have C:=fun o v (h:W.cell? ⟨g,o,none⟩=some v)=>cell_hide.2 ⟨pg,h⟩
 refine⟨by show 3≤3;omega,by show 3≤_;omega,Or.inr ⟨g,0,rfl,fun i hi=>?_⟩⟩
 have hi:i < 3:=hi
 have hc:=cell_of_blk hg
 obtain rfl | rfl | rfl:i=0∨i=1∨i=2:=by omega
 ·exact⟨x,rfl,(ExAt_iff _ _ _ _).2 ⟨xa,xc,C _ _ (hc 0),C _ _ (hc 1),C _ _ (hc 2),C _ _ (hc 3),Hx⟩⟩
 ·exact⟨y,rfl,(ExAt_iff _ _ _ _).2 ⟨ya,yc,C _ _ (hc 4),C _ _ (hc 5),C _ _ (hc 6),C _ _ (hc 7),Hy⟩⟩
 ·exact⟨z,rfl,(ExAt_iff _ _ _ _).2 ⟨za,zc,C _ _ (hc 8),C _ _ (hc 9),C _ _ (hc 10),C _ _ (hc 11),Hz⟩⟩
theorem exIn_leafM {H:World} {op n:Int} {s:ByteArray} (hs:s.size≤1073741824):ExIn H (.mk op n s []) none 0:=⟨hs,Nat.le_refl _,Nat.zero_le _,Or.inl rfl⟩
theorem numM_res (W:World) (tm:Array Value) (b:Nat) (m0 m1 m2 m3:Value) (hW:W.heap[b]? = some (.cells #[m0,m1,m2,m3] 72 (0,0))) (h0:tm.getD 2 undef=.pointer (some ⟨b,0,none⟩)) :
  (results Tryz.f68 tm).run Tryz.prog W=.ok (.agg #[m0,m1,m2,m3]) W:=by
 have hr : Tryz.f68.results=#[.cell 2 72]:=rfl
 obtain⟨c0,c1,c2,c3,_⟩:=cell4 hW
 rw[results_cellC hr,h0]
 simp[asAddr]
 go_simp
set_option maxHeartbeats 2000000 in
set_option maxRecDepth 100000 in
theorem numM_any (n:Int) (w:World):Calls Tryz.prog 68 #[.int .i64 n] w fun r w'=>r=.returned (.agg #[.int .i64 1,.int .i64 n,.string ⟨#[]⟩,.slice none 0 0])∧Below w.heap.size w w':=by
 go_enter Tryz.func68, Tryz.ntmps68
 go_wp2_with fail
 refine bodyPost_ret (v:=.agg #[.int .i64 1,.int .i64 n,.string ⟨#[]⟩,.slice none 0 0]) (numM_res _ _ w.heap.size _ _ _ _ (hx_new rfl) rfl) rfl ?_
 exact⟨rfl,belr⟩
theorem twoM_res (W:World) (tm:Array Value) (b:Nat) (m0 m1 m2 m3:Value) (hW:W.heap[b]? = some (.cells #[m0,m1,m2,m3] 72 (0,0))) (h0:tm.getD 6 undef=.pointer (some ⟨b,0,none⟩)) :
  (results Tryz.f67 tm).run Tryz.prog W=.ok (.agg #[m0,m1,m2,m3]) W:=by
 have hr : Tryz.f67.results=#[.cell 6 72]:=rfl
 obtain⟨c0,c1,c2,c3,_⟩:=cell4 hW
 rw[results_cellC hr,h0]
 simp[asAddr]
 go_simp
set_option maxHeartbeats 4000000 in
set_option maxRecDepth 100000 in
theorem twoM_any (p:Nat→Bool) (op:Int) (a b:Ex) (aa ba:Option Addr) (ac bc:Nat) (w:World) (hp:∀ k,p k=true→k < w.heap.size) (hA:ExIn (World.hide w p) a aa ac) (hB:ExIn (World.hide w p) b ba bc) :
  Calls Tryz.prog 67 #[.int .i64 op,exVal a aa ac,exVal b ba bc] w (ExPost p w (twoE op a b)):=by
 have HP:Hid (∀ g W,W.heap[g]? = some (.cells #[.int .i64 a.op,.int .i64 a.n,.string a.name,.slice aa a.args.length ac,.int .i64 b.op,.int .i64 b.n,.string b.name,.slice ba b.args.length bc] 72 (0,0))→w.heap.size≤g→Below w.heap.size w W→ExPost p w (twoE op a b) (.returned (.agg #[.int .i64 op,.int .i64 0,.string ⟨#[]⟩,.slice (some ⟨g,0,none⟩) 2 2])) W):=fun g W h1 h2 h3=>by
  have hk:=(hk_below (p:=p) (q:=p) h3 fun _ _ h=>h).cell
  have pg:p g=false:=by
   cases e:p g with
   | false=>rfl
   | true=>have:=hp g e;omega
  exact⟨⟨some ⟨g,0,none⟩,2,rfl,by show (0:Nat)≤_;omega,two_row h1 pg (hA.keep hk) (hB.keep hk)⟩,h3⟩
 generalize ExPost p w (twoE op a b)=Po at HP⊢
 simp only[exVal]
 clear hA hB hp
 go_enter Tryz.func67, Tryz.ntmps67
 go_upto_region 1 with fail
 generalize hW1:((w.alloc (.cells #[.int .i64 a.op,.int .i64 a.n,.string a.name,.slice aa a.args.length ac] 72)).alloc (.cells #[.int .i64 b.op,.int .i64 b.n,.string b.name,.slice ba b.args.length bc] 72)).alloc (.cells #[.int .i64 0,.int .i64 0,.string ⟨#[]⟩,.slice none 0 0] 72)=W1
 have hz1:w.heap.size+3≤W1.heap.size:=by rw[← hW1];simp
 have HB1:Hid (Below w.heap.size w W1):=by show Below _ _ _;rw[← hW1];exact belr
 have HXa:Hid (W1.heap[w.heap.size]? = some (.cells #[.int .i64 a.op,.int .i64 a.n,.string a.name,.slice aa a.args.length ac] 72 (0,0))):=by
  show _=_;rw[← hW1]
  exact hx_old (hx_old (hx_new rfl))
 have HXb:Hid (W1.heap[w.heap.size+1]? = some (.cells #[.int .i64 b.op,.int .i64 b.n,.string b.name,.slice ba b.args.length bc] 72 (0,0))):=by
  show _=_;rw[← hW1]
  exact hx_old (hx_new (by simp))
 have HXr:Hid (W1.heap[w.heap.size+1+1]? = some (.cells #[.int .i64 0,.int .i64 0,.string ⟨#[]⟩,.slice none 0 0] 72 (0,0))):=by
  show _=_;rw[← hW1]
  exact hx_new (by simp)
 clear hW1
 obtain⟨a0,a1,a2,a3,_⟩:=cell4 HXa.out
 obtain⟨b0,b1,b2,b3,_⟩:=cell4 HXb.out
 obtain⟨c0,c1,c2,c3,cf⟩:=cell4 HXr.out
 have hlt:w.heap.size+1+1 < W1.heap.size:=by omega
 have CF:=fun (o:Obj) (j:Nat)=>(((Below.refl W1.heap.size W1).alloc (Nat.le_refl _) o).frozen (p:=⟨w.heap.size+1+1,j,none⟩) hlt).trans (cf j)
 have C0:=fun o=>keeps_of_below ((Below.refl W1.heap.size W1).alloc (Nat.le_refl _) o) _ _ c0
 have C1:=fun o=>keeps_of_below ((Below.refl W1.heap.size W1).alloc (Nat.le_refl _) o) _ _ c1
 have C2:=fun o=>keeps_of_below ((Below.refl W1.heap.size W1).alloc (Nat.le_refl _) o) _ _ c2
 have C3:=fun o=>keeps_of_below ((Below.refl W1.heap.size W1).alloc (Nat.le_refl _) o) _ _ c3
 go_wp2_with fail
 generalize hW3:(((W1.setCell ⟨w.heap.size+1+1,0,none⟩ (.int .i64 op)).setCell ⟨w.heap.size+1+1,1,none⟩ (.int .i64 0)).setCell ⟨w.heap.size+1+1,2,none⟩ (.string ⟨#[]⟩)).setCell ⟨w.heap.size+1+1,3,none⟩ (.slice (some ⟨W1.heap.size,0,none⟩) 2 2)=W3
 have hz3:W3.heap.size=W1.heap.size:=by rw[← hW3];simp only[World.size_setCell]
 have hX3:W3.heap[w.heap.size+1+1]? = some (.cells #[.int .i64 op,.int .i64 0,.string ⟨#[]⟩,.slice (some ⟨W1.heap.size,0,none⟩) 2 2] 72 (0,0)):=by rw[← hW3];exact set4M HXr.out
 have hB3:Below w.heap.size w W3:=by rw[← hW3];exact bel4 HB1.out (by omega)
 clear hW3
 refine bodyPost_ret (v:=.agg #[.int .i64 op,.int .i64 0,.string ⟨#[]⟩,.slice (some ⟨W1.heap.size,0,none⟩) 2 2]) (twoM_res _ _ (w.heap.size+1+1) _ _ _ _ (hx_old hX3) rfl) rfl ?_
 exact HP.out W1.heap.size _ (hx_new hz3.symm) (by omega) (hB3.alloc (by omega) _)
set_option maxHeartbeats 2000000 in
set_option maxRecDepth 100000 in
theorem inj_clo (c:Nat) (nm:ByteArray) (r:RegD) (ae:Option Addr) (ce:Nat) (w:World) (hc:w.cell? ⟨c,0,none⟩=some (.string nm)) :
  Calls Tryz.prog 64 #[.agg #[.string r.name,.int .i64 r.width,.int .i64 r.init,.int .i64 r.next.op,.int .i64 r.next.n,.string r.next.name,.slice ae r.next.args.length ce],.pointer (some ⟨c,0,none⟩)] w fun e w'=>e=.returned (.bool (isReg nm r))∧Below w.heap.size w w':=by
 have HB:Hid (∀ o,Below w.heap.size w (w.alloc o)):=fun o=>(Below.refl _ _).alloc (Nat.le_refl _) _
 have HC:Hid (∀ o,(w.alloc o).cell? ⟨c,0,none⟩=some (.string nm)):=fun o=>keeps_of_below (HB.out o) _ _ hc
 clear hc
 have hC:=fun o=>HC.out o
 go_enter Tryz.func64, Tryz.ntmps64
 go_wp2_with fail
 go_ret
 exact⟨rfl,HB.out _⟩
set_option maxHeartbeats 4000000 in
set_option maxRecDepth 100000 in
theorem unused_any (d:DesD) (x:DesA) (w:World) (hF:∀ n:Int,0≤n→n≤65535→FmtC w.heap.size w n) (hE:DesIn w d x) (hn:d.names.length≤65535) :
  Calls Tryz.prog 66 #[desVal d x] w fun e w'=>e=.returned (.string (cntN d))∧Below w.heap.size w w':=by
 obtain⟨hf1,hf2,hf3⟩:=freeK_spec d.names
 have HN:=Lib.hid (fun W (hW:Below w.heap.size w W)=>Names31_any d x W (hE.below hW) (by omega))
 have HCt:=Lib.hid (fun a c s W h=>Contains_strs d.names a c s W h)
 have HFm:Hid (∀ n:Nat,n≤65535→∀ W,Below w.heap.size w W→Calls Tryz.prog 86 #[.int .i64 n] W fun e w'=>e=.returned (.string (fmtS n))∧Below W.heap.size W w'):=fun n h W hW=>hF n (by omega) (by omega) W hW
 have H1:Hid (∀ k,k < freeK d.names→(idxT d.names (tryN k)).isSome=true):=fun k hk=>idxT_mem (hf2 k hk) rfl
 have H0:Hid ((idxT d.names (tryN (freeK d.names))).isSome=false):=by
  show _=_
  cases e:(idxT d.names (tryN (freeK d.names))).isSome with
  | false=>rfl
  | true =>
   obtain⟨y,hy,hy2⟩:=idxT_isSome e
   exact absurd ((bytes_toList.1 hy2) ▸ hy) hf1
 have HT:Hid (∀ k,tryN (k+1)=kFault++fmtS k):=fun k=>rfl
 have HT0:Hid (tryN 0=⟨#[102,97,117,108,116]⟩):=rfl
 have HSz:Hid (∀ k:Nat,k≤65535→(fmtS k).size≤65536):=fun k hk=>by have:=fmt_len k;omega
 have HP:Hid (∀ W,Below w.heap.size w W→(fun e w'=>e=.returned (.string (cntN d))∧Below w.heap.size w w') (Ending.returned (.string (tryN (freeK d.names)))) W):=fun W h=>⟨rfl,h⟩
 generalize (fun e w'=>e=Ending.returned (.string (cntN d))∧Below w.heap.size w w')=Po at HP⊢
 clear hF hE hf1 hf2
 generalize freeK d.names=fk at H1 H0 HP hf3
 generalize tryN=tr at H1 H0 HT HT0 HP
 generalize d.names=N at HN HCt H1 H0 hn hf3
 simp only[desVal,desVals] at HN⊢
 unfold kFault at HT
 go_enter Tryz.func66, Tryz.ntmps66
 go_wp2_with fail
 refine(HN.out _ belr).mono ?_
 rintro r w2 ⟨⟨a,c,rfl,hS⟩,hb2⟩
 have HB2:Hid (Below w.heap.size w w2):=Below.trans belr (hb2.mono sz)
 have HS:=Lib.hid hS
 clear hS hb2
 go_wp2_with fail
 refine(HCt.out a c _ w2 HS.out).mono ?_
 rintro r w3 ⟨rfl,rfl⟩
 by_cases hk0:fk=0
 ·subst hk0
  have h0:=H0.out
  rw[HT0.out] at h0
  rw[h0]
  have HPn:=Lib.hid (HP.out w2 HB2.out)
  rw[HT0.out] at HPn
  clear h0
  go_wp2_with fail
  first | exact HPn.out | (go_ret;exact HPn.out)
 ·have h0:=H1.out 0 (by omega)
  rw[HT0.out] at h0
  rw[h0]
  clear h0
  go_wp2_with fail
  go_loopw [4] (fun i wr=>∃ k:Nat,i=.int .i64 k∧k+1≤fk∧Hid (Below w.heap.size w wr)∧Hid (StrsIn wr N a c)) (fun i _=>fk - (intOf i).toNat)
  case atStart=>exact⟨0,rfl,by omega,HB2,HS⟩
  case round =>
   obtain⟨k,rfl,hk,HB,HSr⟩:=hrel
   have hsz:=HSz.out k (by omega)
   have hn1:¬ 9223372036854775807 < 5+(fmtS k).size:=by omega
   have HFk:=Lib.hid (HFm.out k (by omega))
   have HTk:=Lib.hid (HT.out k)
   generalize fmtS (k:Int)=fs at HFk HTk hsz hn1
   go_wp2_with fail
   refine(HFk.out wr HB.out).mono ?_
   rintro r w4 ⟨rfl,hb4⟩
   have HB4:Hid (Below w.heap.size w w4):=HB.out.trans (hb4.mono HB.out.size)
   have HS4:=Lib.hid (HSr.out.keep (keeps_of_below hb4))
   clear hb4
   go_wp2_with fail
   refine(HCt.out a c _ w4 HS4.out).mono ?_
   rintro r w5 ⟨rfl,rfl⟩
   by_cases hlt:k+1 < fk
   ·have h1:=H1.out (k+1) hlt
    rw[HTk.out] at h1
    rw[h1]
    clear h1
    go_wp2_with fail
    go_roundw
    case rel=>exact⟨k+1,by go_num,by omega,HB4,HS4⟩
    case measure=>(simp[intOf];try omega)
   ·obtain rfl:k+1=fk:=by omega
    have h0:=H0.out
    rw[HTk.out] at h0
    rw[h0]
    clear h0
    go_wp2_with fail
    refine(HFk.out w4 HB4.out).mono ?_
    rintro r w6 ⟨rfl,hb6⟩
    have HPn:=Lib.hid (HP.out w6 (HB4.out.trans (hb6.mono HB4.out.size)))
    rw[HTk.out] at HPn
    clear hb6
    go_wp2_with fail
    first | exact HPn.out | (go_ret;exact HPn.out)
end Go.Proofs.YtebneadheaefdaaGreatDoor
