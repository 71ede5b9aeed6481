/- design: needs: for each wire those that it depends on directly, in a map. -/
import Derived.Test.YtebneadheaefdaaGreatDoorDG
set_option linter.unusedSimpArgs false
set_option linter.unusedVariables false
set_option linter.unnecessarySimpa false
namespace Go.Proofs.YtebneadheaefdaaGreatDoor
open Go.RowKit Go.WideMaps
attribute [local go_sem ↓] Go.wp_at_zero Go.wp_at_succ
theorem keyed_int:Maps.Keyed Tryz.prog 3:=Maps.int_keyed Tryz.underlying3
theorem key_int {i:Nat} (h:i≤1073741824):keyOf Tryz.prog 3 (.int .i64 i)=some (.int .i64 i):=Maps.keyOf_int_mk Tryz.underlying3 (WalkArith.wf_i64 (by omega))
theorem zero_int (w:World):(zeroValue 3).run Tryz.prog w=.ok (.int .i64 0) w:=by kernel_rfl
theorem zero_ints (w:World):(zeroValue 40).run Tryz.prog w=.ok (.slice none 0 0) w:=by kernel_rfl
def idxL:List ByteArray→List UInt8→Option Nat
 | [],_=>none
 | x::l,cs=>if x.data.toList=cs then some 0 else (idxL l cs).map (·+1)
theorem idxL_eq (l:List ByteArray) (s:ByteArray):idxL l s.data.toList=idxT l s:=by
 induction l with
 | nil=>rfl
 | cons x l ih =>
  unfold idxL idxT
  rw[ih,ByteArray.toList_eq,ByteArray.toList_eq]
theorem idxL_snoc (l:List ByteArray) (s:ByteArray) (cs:List UInt8) (h:s.data.toList≠cs):idxL (l++[s]) cs=idxL l cs:=by
 induction l with
 | nil=>simp[idxL,h]
 | cons x l ih =>
  simp only[List.cons_append,idxL,ih]
def atF (l:List ByteArray) (kl:Lit):Option Value:=match kl with
 | .string cs=>(idxL l cs).map fun k:Nat=>Value.int .i64 (k:Int)
 | _=>none
theorem atF_nil:∀ x,(fun _=>none:Lit→Option Value) x=atF [] x:=by intro x;unfold atF;cases x<;>simp[idxL]
theorem atF_put {l:List ByteArray} {k:Nat} (hk:k < l.length) (hd:dupT l=false):∀ x,putL (atF (l.take k)) (.string (l[k]'hk).data.toList) (some (.int .i64 k)) x=atF (l.take (k+1)) x:=by
 intro x
 have htk:l.take (k+1)=l.take k++[l[k]'hk]:=List.take_succ_eq_append_getElem hk
 by_cases hx:x=.string (l[k]'hk).data.toList
 ·subst hx
  rw[putL_same]
  unfold atF
  simp only
  rw[idxL_eq,idxI_at (l:=l.take (k+1)) (k:=k) (by simp;omega) (fun j hj hjk=>?_) (by simp)]
  ·rfl
  ·have hjl:j < l.length:=by omega
   have hne:¬ (l[j]'hjl).toList=(l[k]'hk).toList:=fun e=>by
    have:=dupT_false.1 hd j k hjl hk e
    omega
   rw[List.getElem_take]
   simpa using hne
 ·rw[putL_other _ hx]
  unfold atF
  cases x with
  | string cs =>
   simp only
   rw[htk,idxL_snoc _ _ _ (fun e=>hx (by rw[e]))]
  | _=>rfl
theorem atF_at (l:List ByteArray) (s:ByteArray):atF l (.string s.data.toList)=(idxT l s).map fun k:Nat=>Value.int .i64 (k:Int):=by
 unfold atF;simp only;rw[idxL_eq]
def ordF (V:Nat→Value) (n:Nat) (out:List Nat) (kl:Lit):Option Value:=match kl with
 | .int .i64 z=>if 0≤z∧z < n∧z.toNat∉out then some (V z.toNat) else none
 | _=>none
def upd (V:Nat→Value) (k:Nat) (v:Value):Nat→Value:=fun i=>if i=k then v else V i
theorem upd_same (V:Nat→Value) (k:Nat) (v:Value):upd V k v k=v:=if_pos rfl
theorem upd_other {V:Nat→Value} {k i:Nat} (v:Value) (h:¬ i=k):upd V k v i=V i:=if_neg h
theorem ordF_at {V:Nat→Value} {n:Nat} {out:List Nat} {i:Nat} (hi:i < n) (ho:i∉out):ordF V n out (.int .i64 i)=some (V i):=by
 unfold ordF;simp only;rw[if_pos ⟨by omega,by omega,by simpa using ho⟩];simp
theorem ordF_no {V:Nat→Value} {n:Nat} {out:List Nat} {i:Nat} (h:¬ (i < n∧i∉out)):ordF V n out (.int .i64 i)=none:=by
 unfold ordF;simp only;rw[if_neg];rintro ⟨_,h1,h2⟩;exact h ⟨by omega,by simpa using h2⟩
theorem ordF_nil (V:Nat→Value):∀ x,(fun _=>none:Lit→Option Value) x=ordF V 0 [] x:=by
 intro x;unfold ordF
 cases x with
 | int q z=>cases q<;>simp<;>omega
 | _=>rfl
theorem ordF_put (V:Nat→Value) (k:Nat) (v:Value):∀ x,putL (ordF V k []) (.int .i64 k) (some v) x=ordF (upd V k v) (k+1) [] x:=by
 intro x
 by_cases hx:x=.int .i64 k
 ·subst hx
  rw[putL_same,ordF_at (by omega) (by simp),upd_same]
 ·rw[putL_other _ hx]
  unfold ordF
  cases x with
  | int q z =>
   cases q<;>simp
   have hz:z≠k:=fun e=>hx (by rw[e])
   by_cases h0:0≤z∧z < (k:Int)
   ·rw[if_pos h0,if_pos ⟨h0.1,by omega⟩,upd_other _ (by omega)]
   ·rw[if_neg h0,if_neg (by omega)]
  | _=>rfl
theorem ordF_put2 (V:Nat→Value) (k:Nat) (v v':Value):∀ x,putL (ordF (upd V k v) (k+1) []) (.int .i64 k) (some v') x=ordF (upd V k v') (k+1) [] x:=by
 intro x
 by_cases hx:x=.int .i64 k
 ·subst hx
  rw[putL_same,ordF_at (by omega) (by simp),upd_same]
 ·rw[putL_other _ hx]
  unfold ordF
  cases x with
  | int q z =>
   cases q<;>simp
   have hz:z≠k:=fun e=>hx (by rw[e])
   by_cases h0:0≤z∧z < (k:Int)+1
   ·rw[if_pos h0,if_pos h0,upd_other _ (by omega),upd_other _ (by omega)]
   ·rw[if_neg h0,if_neg h0]
  | _=>rfl
theorem ordF_del (V:Nat→Value) (n:Nat) (out:List Nat) (i:Nat):∀ x,putL (ordF V n out) (.int .i64 i) none x=ordF V n (out++[i]) x:=by
 intro x
 by_cases hx:x=.int .i64 i
 ·subst hx
  rw[putL_same,ordF_no (by simp)]
 ·rw[putL_other _ hx]
  unfold ordF
  cases x with
  | int q z =>
   cases q<;>simp
   have hz:z≠i:=fun e=>hx (by rw[e])
   by_cases h0:0≤z∧z < (n:Int)∧z.toNat∉out
   ·rw[if_pos h0,if_pos ⟨h0.1,h0.2.1,h0.2.2,by omega⟩]
   ·rw[if_neg h0,if_neg (fun h=>h0 ⟨h.1,h.2.1,h.2.2.1⟩)]
  | _=>rfl
def natI (l:List Nat):List Int:=l.map Int.ofNat
def NeedsIn (w:World) (d:DesD) (b:Nat) (V:Nat→Value) (n:Nat):Prop:=∀ i,i < n→∃ a cap,V i=.slice a (d.needs i).length cap∧IntsIn w (natI (d.needs i)) a cap
theorem natI_len (l:List Nat):(natI l).length=l.length:=List.length_map _
theorem NeedsIn.keep {w w':World} {d:DesD} {b:Nat} {V:Nat→Value} {n:Nat} (hk:∀ a v,w.cell? a=some v→w'.cell? a=some v) (h:NeedsIn w d b V n):NeedsIn w' d b V n:=fun i hi=>by
 obtain⟨a,cap,h1,h2⟩:=h i hi
 exact⟨a,cap,h1,h2.keep hk⟩
noncomputable def nd (d:DesD) (N2:List ByteArray) (j:Nat):List Nat:=(N2.take j).filterMap d.wireIdx
theorem nd_none {d:DesD} {N2:List ByteArray} {j:Nat} (hj:j < N2.length) (h:d.wireIdx (N2[j]'hj)=none):nd d N2 (j+1)=nd d N2 j:=by
 unfold nd;rw[List.take_succ_eq_append_getElem hj,List.filterMap_append];simp[h]
theorem nd_some {d:DesD} {N2:List ByteArray} {j q:Nat} (hj:j < N2.length) (h:d.wireIdx (N2[j]'hj)=some q):nd d N2 (j+1)=nd d N2 j++[q]:=by
 unfold nd;rw[List.take_succ_eq_append_getElem hj,List.filterMap_append];simp[h]
theorem nd_len (d:DesD) (N2:List ByteArray) (j:Nat):(nd d N2 j).length≤N2.length:=by
 unfold nd
 refine Nat.le_trans (List.length_filterMap_le _ _) ?_
 rw[List.length_take];omega
end Go.Proofs.YtebneadheaefdaaGreatDoor
namespace Go.Proofs.YtebneadheaefdaaGreatDoor
open Go.RowKit Go.WideMaps
attribute [local go_sem ↓] Go.wp_at_zero Go.wp_at_succ
theorem hk_trans {w w' w'':World} (h:∀ a v,w.cell? a=some v→w'.cell? a=some v) (h':∀ a v,w'.cell? a=some v→w''.cell? a=some v):∀ a v,w.cell? a=some v→w''.cell? a=some v:=fun a v hc=>h' a v (h a v hc)
def NeedsPost (w:World) (d:DesD) (e:Ending) (w':World):Prop:=∃ b V,e=.returned (.map (some b))∧w.heap.size≤b∧MapV w' Tryz.prog 3 b d.wires.length (ordF V d.wires.length [])∧NeedsIn w' d b V d.wires.length∧Below w.heap.size w w'
set_option maxRecDepth 100000 in
set_option maxHeartbeats 16000000 in
theorem needs_any (d:DesD) (x:DesA) (w:World) (hE:DesIn w d x) (hs:DesSmall d) (hd:dupT (d.wires.map (·.name))=false) (hn:d.wires.length≤1000) :
  Calls Tryz.prog 137 #[desVal d x] w (NeedsPost w d):=by
 have HW:=Lib.hid hE.wires
 have HWA:=Lib.hid hE.wires.addr
 have hwc:=hE.wires.1
 have HNa:=Lib.hid (fun (e:Ex) a cap W (he:e∈d.exprs) (hX:ExIn W e a cap)=>(show Calls Tryz.prog 151 #[.agg #[.int .i64 e.op,.int .i64 e.n,.string e.name,.slice a e.args.length cap]] W fun r w'=>(∃ a' cap',r=.returned (.slice a' (namesS [2] e).length cap')∧StrsIn w' (namesS [2] e) a' cap')∧Below W.heap.size W w' by
  have:=hs.exprs e he
  obtain⟨op,n,s,args⟩:=e
  exact Names_any op n s args a cap W hX (by omega)))
 have HSz:=Lib.hid (fun k (hk:k < d.wires.length)=>hs.names (d.wires[k]'hk).name (by unfold DesD.names;exact List.mem_append_left _ (List.mem_append_right _ (List.mem_map.2 ⟨_,List.getElem_mem hk,rfl⟩))))
 obtain⟨WN,HPt,HAll,HAt⟩:∃ WN:List ByteArray,Hid (∀ k (hk:k < d.wires.length),∀ y,putL (atF (WN.take k)) (.string (d.wires[k]'hk).name.data.toList) (some (.int .i64 k)) y=atF (WN.take (k+1)) y)∧Hid (atF (WN.take d.wires.length)=atF WN)∧Hid (∀ s:ByteArray,atF WN (.string s.data.toList)=(d.wireIdx s).map fun k:Nat=>Value.int .i64 (k:Int)):=by
  refine⟨d.wires.map (·.name),fun k hk y=>?_,?_,fun s=>atF_at _ s⟩
  ·have:=atF_put (l:=d.wires.map (·.name)) (k:=k) (by simpa using hk) hd y
   simpa using this
  ·show _=_
   rw[List.take_of_length_le (by simp)]
 have HM1:Hid (∀ k (hk:k < d.wires.length),(d.wires[k]'hk).expr∈d.exprs):=fun k hk=>wire_expr hk
 have HXs:Hid (∀ k (hk:k < d.wires.length),∀ s∈namesS [2] (d.wires[k]'hk).expr,s.size≤1073741824):=fun k hk=>by
  rcases hE.wires.addr with h | ⟨b,off,ha⟩
  ·omega
  ·obtain⟨ae,ce,_,_,_,_,_,_,hX⟩:=hE.wires.get ha hk
   exact names_size hX [2]
 have HXl:Hid (∀ k (hk:k < d.wires.length),(namesS [2] (d.wires[k]'hk).expr).length≤1048576):=fun k hk=>by
  have h1:=names_len [2] (d.wires[k]'hk).expr.nodes []
  have h2:=hs.exprs _ (wire_expr hk)
  unfold namesS
  simp at h1
  omega
 have HNd:Hid (∀ k (hk:k < d.wires.length),d.needs k=nd d (namesS [2] (d.wires[k]'hk).expr) (namesS [2] (d.wires[k]'hk).expr).length):=fun k hk=>by
  unfold DesD.needs nd
  rw[List.getElem?_eq_getElem hk,List.take_of_length_le (Nat.le_refl _)]
 have HPost:Hid (∀ b V w',w.heap.size≤b→MapV w' Tryz.prog 3 b d.wires.length (ordF V d.wires.length [])→NeedsIn w' d b V d.wires.length→Below w.heap.size w w'→NeedsPost w d (.returned (.map (some b))) w'):=fun b V w' h1 h2 h3 h4=>⟨b,V,rfl,h1,h2,h3,h4⟩
 generalize NeedsPost w d=Po at HPost⊢
 have HIdx:Hid (∀ s q,d.wireIdx s=some q→q < 1000):=fun s q h=>by
  obtain⟨h1,_⟩:=idxT_some h
  simp at h1;omega
 have HEnd:Hid (∀ (k:Nat) (hk:k < d.wires.length) V v (W0 W:World) (B:Nat) bo,NeedsIn W0 d bo V k→(∀ a u,W0.cell? a=some u→W.cell? a=some u)→W.ownsRow B 3 1 v (nd d (namesS [2] (d.wires[k]'hk).expr) (namesS [2] (d.wires[k]'hk).expr).length).length ((natI (nd d (namesS [2] (d.wires[k]'hk).expr) (namesS [2] (d.wires[k]'hk).expr).length)).map (Value.int .i64))→NeedsIn W d bo (upd V k v) (k+1)):=fun k hk V v W0 W B bo h1 h2 h3 i hi=>by
  by_cases e:i=k
  ·subst e
   rw[← HNd.out i hk] at h3
   have hl:(d.needs i).length≤1073741824:=by
    rw[HNd.out i hk]
    have:=nd_len d (namesS [2] (d.wires[i]'hk).expr) (namesS [2] (d.wires[i]'hk).expr).length
    have:=HXl.out i hk
    omega
   rw[← natI_len] at h3
   obtain⟨a,cap,rfl,hI⟩:=ints_of_own h3 (by rw[natI_len];exact hl)
   exact⟨a,cap,by rw[upd_same,natI_len],hI⟩
  ·obtain⟨a,cap,h4,h5⟩:=h1 i (by omega)
   exact⟨a,cap,by rw[upd_other _ e];exact h4,h5.keep h2⟩
 clear HNd
 generalize d.exprs=EX at HNa HM1
 simp only[desVal,desVals]
 generalize d.wires=wires at *
 clear hE hs hd
 generalize d.name=nm
 generalize d.inputs=ins
 generalize d.regs=regs
 generalize d.outputs=outs
 obtain⟨ai,ci,aw,cw,ar,cr,ao,co⟩:=x
 simp only at HW HWA hwc⊢
 go_enter Tryz.func137, Tryz.ntmps137
 go_wp2_with fail
 rw[run_makeMap]
 have hM0:=MapV.made (w.alloc (.cells #[.string nm,.slice ai ins.length ci,.slice aw wires.length cw,.slice ar regs.length cr,.slice ao outs.length co] 27)) Tryz.prog 9
 have hBm:Below (w.heap.size+1) (w.alloc (.cells #[.string nm,.slice ai ins.length ci,.slice aw wires.length cw,.slice ar regs.length cr,.slice ao outs.length co] 27)) ((w.alloc (.cells #[.string nm,.slice ai ins.length ci,.slice aw wires.length cw,.slice ar regs.length cr,.slice ao outs.length co] 27)).alloc (.map #[] 0)):=(Below.refl _ _).alloc (by simp) _
 simp only[World.size_alloc] at hM0
 have HM0:=Lib.hid hM0
 have HBm:=Lib.hid hBm
 clear hM0 hBm
 generalize (w.alloc (.cells #[.string nm,.slice ai ins.length ci,.slice aw wires.length cw,.slice ar regs.length cr,.slice ao outs.length co] 27)).alloc (.map #[] 0)=wm at HM0 HBm⊢
 ((try clear b0 b1 b2 b3 b4);have b0:=box_cell HBm.out 0;have b1:=box_cell HBm.out 1;have b2:=box_cell HBm.out 2;have b3:=box_cell HBm.out 3;have b4:=box_cell HBm.out 4;(try simp at b0 b1 b2 b3 b4))
 go_wp2_with fail
 go_loopw [17,4,5] (fun i _ _ wr=>∃ k:Nat,i=.int .i64 k∧k≤wires.length∧Hid (∃ m,m≤k∧MapV wr Tryz.prog 9 (w.heap.size+1) m (atF (WN.take k)))∧Hid (Below (w.heap.size+1) (w.alloc (.cells #[.string nm,.slice ai ins.length ci,.slice aw wires.length cw,.slice ar regs.length cr,.slice ao outs.length co] 27)) wr)) (fun i _ _ _=>wires.length - (intOf i).toNat)
 case atStart=>exact⟨0,rfl,Nat.zero_le _,⟨0,Nat.le_refl _,HM0.out.congr atF_nil⟩,HBm⟩
 case round =>
  obtain⟨k,rfl,hk,HM,HB⟩:=hrel
  have HBw:=Lib.hid (boxW _ HB.out)
  have hzr:=HB.out.size
  simp only[World.size_alloc] at hzr
  by_cases hlt:k < wires.length
  ·obtain⟨b,off,ha⟩:=HWA.out.resolve_left (by omega)
   subst ha
   obtain⟨ae,ce,c0,c1,c2,c3,c4,c5,hX⟩:=(HW.out.keep (keeps_of_below HBw.out)).get rfl hlt
   obtain⟨m,hm,hM⟩:=HM.out
   have HMk:=Lib.hid (hM.alloc (.cells #[.string (wires[k]'hlt).name,.int .i64 (wires[k]'hlt).width,.int .i64 (wires[k]'hlt).expr.op,.int .i64 (wires[k]'hlt).expr.n,.string (wires[k]'hlt).expr.name,.slice ae (wires[k]'hlt).expr.args.length ce] 74))
   have hsz:=HSz.out k hlt
   have HPk:=Lib.hid (HPt.out k hlt)
   generalize (wires[k]'hlt)=wi at c0 c1 c2 c3 c4 c5 HMk hsz HPk
   clear hM hX HM b0 b1 b2 b3 b4
   have hkm:m < 1000000000:=by omega
   go_wp2_with (at_mapUpdate;go_must (refine wp_mapV_put _ rfl _ _ _ 195 3 rfl keyed_str (by kernel_rfl) rfl HMk.out hkm _ _ _ rfl rfl (key_str hsz) trivial ?_);intro w7 hM7 hg7;have HM7:=Lib.hid hM7;have HB7:=Lib.hid (Below.grown (HB.out.alloc (by omega) _) hg7 (by simp;omega) (fun j hj=>by cases hj;exact Nat.le_refl _));clear hM7 hg7)
   go_roundw
   case rel=>exact⟨k+1,by go_num,by omega,⟨_,by (split<;>omega),HM7.out.congr HPk.out⟩,HB7⟩
   case measure=>(simp[intOf];try omega)
  ·obtain rfl:k=wires.length:=by omega
   rename World=>wa
   obtain⟨m,hm,hM⟩:=HM.out
   rw[HAll.out] at hM
   have HMa:=Lib.hid hM
   clear hM HM HM0 HBm b0 b1 b2 b3 b4
   go_wp2_with fail
   rw[run_makeMap]
   have HM0:=Lib.hid (MapV.made wa Tryz.prog 3)
   have hBm2:Below wa.heap.size wa (wa.alloc (.map #[] 0)):=(Below.refl _ _).alloc (Nat.le_refl _) _
   have HBm2:=Lib.hid hBm2
   have hz2:wa.heap.size < (wa.alloc (.map #[] 0)).heap.size:=by simp
   have HBx:=Lib.hid (HB.out.trans (hBm2.mono (by omega)))
   clear hBm2
   generalize wa.alloc (.map #[] 0)=wm2 at HM0 HBm2 hz2 HBx⊢
   ((try clear b0 b1 b2 b3 b4);have b0:=box_cell HBx.out 0;have b1:=box_cell HBx.out 1;have b2:=box_cell HBx.out 2;have b3:=box_cell HBx.out 3;have b4:=box_cell HBx.out 4;(try simp at b0 b1 b2 b3 b4))
   go_wp2_with fail
   go_loopw [31,7,8] (fun i _ _ wr=>∃ k:Nat,i=.int .i64 k∧k≤wires.length∧Hid (∃ V,MapV wr Tryz.prog 3 wa.heap.size k (ordF V k [])∧NeedsIn wr d wa.heap.size V k)∧Hid (Below wa.heap.size wa wr)∧wa.heap.size < wr.heap.size) (fun i _ _ _=>wires.length - (intOf i).toNat)
   case atStart=>exact⟨0,rfl,Nat.zero_le _,⟨fun _=>undef,HM0.out.congr (ordF_nil _),fun i hi=>absurd hi (by omega)⟩,HBm2,hz2⟩
   case round =>
    rename World=>wr
    obtain⟨k,rfl,hk,HV,HBr,hzr2⟩:=hrel
    have HBw:=Lib.hid ((boxW _ HB.out).trans (HBr.out.mono (by omega)))
    by_cases hlt:k < wires.length
    ·obtain⟨b,off,ha⟩:=HWA.out.resolve_left (by omega)
     subst ha
     obtain⟨ae,ce,c0,c1,c2,c3,c4,c5,hX⟩:=(HW.out.keep (keeps_of_below HBw.out)).get rfl hlt
     obtain⟨V,hMV,hNi⟩:=HV.out
     have hbA:Below wr.heap.size wr (wr.alloc (.cells #[.string (wires[k]'hlt).name,.int .i64 (wires[k]'hlt).width,.int .i64 (wires[k]'hlt).expr.op,.int .i64 (wires[k]'hlt).expr.n,.string (wires[k]'hlt).expr.name,.slice ae (wires[k]'hlt).expr.args.length ce] 74)):=(Below.refl _ _).alloc (Nat.le_refl _) _
     have HMb:=Lib.hid (hMV.below hbA)
     have hck:(ordF V k [] (.int .i64 k)).isSome=false:=by rw[ordF_no (by simp)];rfl
     have Hck:=Lib.hid hck
     have HkA:=Lib.hid (keeps_of_below hbA)
     have HXa:=Lib.hid (hX.keep (keeps_of_below hbA))
     have HNi:=Lib.hid hNi
     have HNk:=Lib.hid (fun W (h:ExIn W (wires[k]'hlt).expr ae ce)=>HNa.out _ _ _ W (HM1.out k hlt) h)
     have HXsk:=Lib.hid (HXs.out k hlt)
     have hXlk:=HXl.out k hlt
     have HEk:=Lib.hid (HEnd.out k hlt)
     generalize (wires[k]'hlt)=wi at c0 c1 c2 c3 c4 c5 HMb HkA HXa HNk HXsk hXlk HEk hbA
     generalize namesS [2] wi.expr=N2 at HNk HXsk hXlk HEk
     have HzA:Hid ((wr.alloc (.cells #[.string wi.name,.int .i64 wi.width,.int .i64 wi.expr.op,.int .i64 wi.expr.n,.string wi.expr.name,.slice ae wi.expr.args.length ce] 74)).heap.size=wr.heap.size+1):=by show _=_;simp
     have HBA:=Lib.hid (HBr.out.alloc (by omega) (.cells #[.string wi.name,.int .i64 wi.width,.int .i64 wi.expr.op,.int .i64 wi.expr.n,.string wi.expr.name,.slice ae wi.expr.args.length ce] 74))
     have e2:(wr.alloc (.cells #[.string wi.name,.int .i64 wi.width,.int .i64 wi.expr.op,.int .i64 wi.expr.n,.string wi.expr.name,.slice ae wi.expr.args.length ce] 74)).cell? ⟨wr.heap.size,2,none⟩=some (.int .i64 wi.expr.op):=by simp
     have e3:(wr.alloc (.cells #[.string wi.name,.int .i64 wi.width,.int .i64 wi.expr.op,.int .i64 wi.expr.n,.string wi.expr.name,.slice ae wi.expr.args.length ce] 74)).cell? ⟨wr.heap.size,3,none⟩=some (.int .i64 wi.expr.n):=by simp
     have e4:(wr.alloc (.cells #[.string wi.name,.int .i64 wi.width,.int .i64 wi.expr.op,.int .i64 wi.expr.n,.string wi.expr.name,.slice ae wi.expr.args.length ce] 74)).cell? ⟨wr.heap.size,4,none⟩=some (.string wi.expr.name):=by simp
     have e5:(wr.alloc (.cells #[.string wi.name,.int .i64 wi.width,.int .i64 wi.expr.op,.int .i64 wi.expr.n,.string wi.expr.name,.slice ae wi.expr.args.length ce] 74)).cell? ⟨wr.heap.size,5,none⟩=some (.slice ae wi.expr.args.length ce):=by simp
     have HE2:=Lib.hid e2
     have HE3:=Lib.hid e3
     have HE4:=Lib.hid e4
     have HE5:=Lib.hid e5
     have hkb:k≤1073741824:=by omega
     have hkm:k < 1000000000:=by omega
     clear e2 e3 e4 e5 hbA hMV hNi hX hck HV b0 b1 b2 b3 b4
     go_wp2_with (at_mapUpdate;go_must (refine wp_mapV_put _ rfl _ _ _ 161 40 rfl keyed_int (by kernel_rfl) rfl HMb.out hkm _ _ _ rfl rfl (key_int hkb) trivial ?_);intro w7 hM7 hg7;have HM7:=Lib.hid hM7;have HG7:=Lib.hid hg7;have HK7:=Lib.hid (HMb.out.cells hg7);have d2:=HK7.out _ _ HE2.out;have d3:=HK7.out _ _ HE3.out;have d4:=HK7.out _ _ HE4.out;have d5:=HK7.out _ _ HE5.out;clear hM7 hg7)
     have HB7:Hid (Below wa.heap.size wa w7):=Below.grown HBA.out HG7.out (by rw[HzA.out];omega) (fun j hj=>by cases hj;exact Nat.le_refl _)
     have hz7:wr.heap.size+1≤w7.heap.size:=by have:=HG7.out.size;rw[HzA.out] at this;exact this
     have HM7b:=Lib.hid ((HM7.out.congr (ordF_put V k (.slice none 0 0))))
     rw[Hck.out] at HM7b
     have HNc:=Lib.hid (HNk.out w7 (HXa.out.keep HK7.out))
     have HN7:=Lib.hid (hk_trans HkA.out HK7.out)
     clear HM7 HG7 HNk HXa HBA HE2 HE3 HE4 HE5 HMb Hck HzA d2 d3 d4 d5 c0 c1 c2 c3 c4 c5
     refine HNc.out.mono ?_
     rintro e w8 ⟨⟨an,cn,rfl,hst⟩,hb8⟩
     have HB8:Hid (Below wa.heap.size wa w8):=HB7.out.trans (hb8.mono (by omega))
     have hz8:wr.heap.size+1≤w8.heap.size:=Nat.le_trans hz7 hb8.size
     have HM8:=Lib.hid (HM7b.out.below hb8)
     have HK8:=Lib.hid (hk_trans HN7.out (keeps_of_below hb8))
     have HS8:=Lib.hid hst
     have HSA:=Lib.hid hst.addr
     have hnl:=hst.2.1
     clear hst hb8 HM7b HB7 HNc HK7 HN7
     simp only[Bool.false_eq_true,if_false] at HM8
     go_wp2_with fail
     go_loopw [42,10,11,12] (fun i _ _ _ wz=>∃ (j:Nat) (v:Value),i=.int .i64 j∧j≤N2.length∧Hid (MapV wz Tryz.prog 3 wa.heap.size (k+1) (ordF (upd V k v) (k+1) []))∧Hid (wz.ownsRow w8.heap.size 3 1 v (nd d N2 j).length ((natI (nd d N2 j)).map (Value.int .i64)))∧Hid (∀ a u,w8.cell? a=some u→wz.cell? a=some u)∧Hid (Below wa.heap.size wa wz)∧w8.heap.size≤wz.heap.size) (fun i _ _ _ _=>N2.length - (intOf i).toNat)
     case atStart=>exact⟨0,.slice none 0 0,rfl,Nat.zero_le _,HM8,World.ownsRow_nil _ _ _ _,fun _ _ h=>h,HB8,Nat.le_refl _⟩
     case round =>
      rename World=>wz
      obtain⟨j,v,rfl,hj,HMz,HOz,HKz,HBz,hzz⟩:=hrel
      by_cases hlj:j < N2.length
      ·obtain⟨bn,on,han⟩:=HSA.out.resolve_left (by omega)
       subst han
       have hc:=HKz.out _ _ (HS8.out.get rfl hlj)
       have hsz:=HXsk.out _ (List.getElem_mem hlj)
       have HMs:=Lib.hid (HMa.out.belowB HBz.out (by have:=HMa.out.lt;exact this))
       have hat:=HAt.out (N2[j]'hlj)
       have HN0:Hid (d.wireIdx (N2[j]'hlj)=none→nd d N2 (j+1)=nd d N2 j):=fun h=>nd_none hlj h
       have HN1:Hid (∀ q,d.wireIdx (N2[j]'hlj)=some q→nd d N2 (j+1)=nd d N2 j++[q]):=fun q h=>nd_some hlj h
       have hndl:=nd_len d N2 j
       have hkj:IntKind.i64.wrap ((j:Int)+1)=(j:Int)+1:=by rw[IntKind.wrap_i64];omega
       generalize (N2[j]'hlj)=s at hc hsz hat HN0 HN1
       generalize hLJ:nd d N2 (j+1)=LJ at HN0 HN1
       have HLJ:=Lib.hid hLJ
       clear hLJ
       generalize hLI:nd d N2 j=LI at HN0 HN1 HOz hndl
       clear hLI
       cases hq:d.wireIdx s with
       | none =>
        have HN2:=Lib.hid (HN0.out hq)
        rw[hq] at hat
        have HF:Hid (atF WN (.string s.data.toList)=none):=hat
        clear hat HN0 HN1 hq
        go_wp2_with (at_lookup;go_must (refine wp_mapV_none _ rfl _ _ 195 3 rfl keyed_str (by kernel_rfl) (zero_int _) rfl HMs.out _ _ rfl (key_str hsz) HF.out ?_))
        go_roundw
        case rel=>exact⟨j+1,v,by go_num,by omega,HMz,(by show World.ownsRow _ _ _ _ _ _ _;rw[HLJ.out,HN2.out];exact HOz.out),HKz,HBz,hzz⟩
        case measure=>(simp[intOf];try omega)
       | some q =>
        have HN2:=Lib.hid (HN1.out q hq)
        rw[hq] at hat
        have HF:Hid (atF WN (.string s.data.toList)=some (.int .i64 q)):=hat
        have HFv:Hid (ordF (upd V k v) (k+1) [] (.int .i64 k)=some v):=by show _=_;rw[ordF_at (by omega) (by simp),upd_same]
        clear hat HN0 HN1 hq
        have hroom:LI.length≤1073741824:=by omega
        have hkm1:k+1 < 1000000000:=by omega
        go_wp2_with (first | (at_lookup;refine wp_mapV_some _ rfl _ _ 195 3 rfl keyed_str (by kernel_rfl) (zero_int _) rfl HMs.out _ _ rfl (key_str hsz) (.int .i64 q) HF.out ?_) | (at_lookup;refine wp_mapV_get _ rfl _ _ 161 40 rfl keyed_int (by kernel_rfl) (zero_ints _) rfl HMz.out _ _ rfl (key_int hkb) v HFv.out ?_) | (at_builtin;go_must (refine own_app elemI _ rfl (.tmp 57) (.tmp 59) rfl w8.heap.size v LI.length ((natI LI).map (Value.int .i64)) rfl HOz.out [.int .i64 q] rfl (by simp[Value.oneCell']) _ 1 rfl (by rfl) hroom hzz ?_);intro v' w3 ho3 hg3;have HO3:=Lib.hid ho3;have HG3:=Lib.hid hg3;have HM3:=Lib.hid ((HMz.out.alloc (.cells #[.int .i64 q] 3)).kept hg3 (fun h=>by have:=(HOz.out.lt _ h.symm).1;omega));clear ho3 hg3) | (at_mapUpdate;go_must (refine wp_mapV_put _ rfl _ _ _ 161 40 rfl keyed_int (by kernel_rfl) rfl HM3.out hkm1 _ _ _ rfl rfl (key_int hkb) trivial ?_);intro w4 hM4 hg4;have HM4:=Lib.hid hM4;have HG4:=Lib.hid hg4;have HK4:=Lib.hid (HM3.out.cells hg4);clear hM4 hg4))
        go_roundw
        case rel =>
         have hM:=HM4.out
         rw[HFv.out] at hM
         simp only[Option.isSome_some,if_true,Nat.add_zero] at hM
         have hs3:=HG3.out.size
         have hs4:=HG4.out.size
         simp only[World.size_alloc] at hs3
         refine⟨j+1,v',by go_num,by omega,hM.congr (ordF_put2 V k v v'),?_,fun a u h=>?_,?_,by omega⟩
         ·show World.ownsRow _ _ _ _ _ _ _
          rw[HLJ.out,HN2.out]
          have:=ownsRow_grown HO3.out HG4.out (fun j hj e=>by
           have h1:=(HO3.out.lt j hj).1
           injection e with e
           omega)
          simpa [natI] using this
         ·exact HK4.out _ _ (own_far HOz.out HG3.out ((keeps_of_below ((Below.refl _ _).alloc (Nat.le_refl _) _)) _ _ (HKz.out _ _ h)) (Or.inl (World.block_lt_of_cell? _ _ h)))
         ·exact Below.grown (Below.grown (HBz.out.alloc (by omega) _) HG3.out (by simp;omega) (fun j hj=>by have:=(HOz.out.lt j hj).1;omega)) HG4.out (by omega) (fun j hj=>by cases hj;exact Nat.le_refl _)
        case measure=>(simp[intOf];try omega)
      ·obtain rfl:j=N2.length:=by omega
       go_wp2_with fail
       go_roundw
       case rel=>exact⟨k+1,by go_num,by omega,⟨upd V k v,HMz.out,HEk.out V v wr wz _ _ HNi.out (hk_trans HK8.out HKz.out) HOz.out⟩,HBz,by omega⟩
       case measure=>(simp[intOf];try omega)
    ·obtain rfl:k=wires.length:=by omega
     obtain⟨V,hMV,hNi⟩:=HV.out
     have HP:=Lib.hid (HPost.out wa.heap.size V wr (by omega) hMV hNi HBw.out)
     clear hMV hNi
     go_wp2_with fail
     exact HP.out
end Go.Proofs.YtebneadheaefdaaGreatDoor
