/- A block of signals of the call's own; plain of settle, row by row. -/
import Derived.Test.YtebneadheaefdaaGreatDoorDN
set_option linter.unusedSimpArgs false
set_option linter.unusedVariables false
set_option linter.unnecessarySimpa false
namespace Go.Proofs.YtebneadheaefdaaGreatDoor
open Go.RowKit
attribute [local go_sem ↓] Go.wp_at_zero Go.wp_at_succ
def SigBlk (w:World) (b:Nat) (L:Sigs):Prop:=w.heap[b]? = some (.cells (sigCells L).toArray 87 (0,0))
theorem SigBlk.lt {w:World} {b:Nat} {L:Sigs} (h:SigBlk w b L):b < w.heap.size:=lt_of_block h
theorem SigBlk.keep {w w':World} {b:Nat} {L:Sigs} (h:SigBlk w b L) (hb:Below w.heap.size w w'):SigBlk w' b L:=(hb.block _ h.lt).trans h
theorem SigBlk.name {w:World} {b:Nat} {L:Sigs} (h:SigBlk w b L) {i:Nat} (hi:i < L.length):w.cell? ⟨b,i * 2,none⟩=some (.string (L[i]'hi).1):=by
 rw[cell_of_blk h]
 simpa using (sigCells_get L i hi).1
theorem SigBlk.val {w:World} {b:Nat} {L:Sigs} (h:SigBlk w b L) {i:Nat} (hi:i < L.length):w.cell? ⟨b,i * 2+1,none⟩=some (.int .i64 (L[i]'hi).2):=by
 rw[cell_of_blk h]
 simpa using (sigCells_get L i hi).2
theorem SigBlk.free {w:World} {b:Nat} {L:Sigs} (h:SigBlk w b L) (j:Nat):w.frozen? ⟨b,j,none⟩=false:=by simp[World.frozen?,show w.heap[b]? = _ from h]
theorem sigCells_set0 (L:Sigs) (s:ByteArray):∀ i (hi:i < L.length),(sigCells L).set (i * 2) (.string s)=sigCells (L.set i (s,(L[i]'hi).2)):=by
 induction L with
 | nil=>intro i hi;simp at hi
 | cons x L ih =>
  intro i hi
  have hc:∀ (y:ByteArray × Int) l,sigCells (y::l)=.string y.1::.int .i64 y.2::sigCells l:=fun _ _=>rfl
  rw[hc]
  cases i with
  | zero=>simp[hc]
  | succ i =>
   rw[show (i+1) * 2=i * 2+1+1 by omega,List.set_cons_succ,List.set_cons_succ,ih i (by simpa using hi),List.set_cons_succ,hc]
   simp
theorem sigCells_set1 (L:Sigs) (v:Int):∀ i (hi:i < L.length),(sigCells L).set (i * 2+1) (.int .i64 v)=sigCells (L.set i ((L[i]'hi).1,v)):=by
 induction L with
 | nil=>intro i hi;simp at hi
 | cons x L ih =>
  intro i hi
  have hc:∀ (y:ByteArray × Int) l,sigCells (y::l)=.string y.1::.int .i64 y.2::sigCells l:=fun _ _=>rfl
  rw[hc]
  cases i with
  | zero=>simp[hc]
  | succ i =>
   rw[show (i+1) * 2+1=(i * 2+1)+1+1 by omega,List.set_cons_succ,List.set_cons_succ,ih i (by simpa using hi),List.set_cons_succ,hc]
   simp
theorem SigBlk.setName {w:World} {b:Nat} {L:Sigs} (h:SigBlk w b L) {i:Nat} (hi:i < L.length) (s:ByteArray):SigBlk (w.setCell ⟨b,i * 2,none⟩ (.string s)) b (L.set i (s,(L[i]'hi).2)):=by
 unfold SigBlk at h⊢
 rw[heap_setCell_same _ b _ _ _ _ h,← sigCells_set0 L s i hi]
 simp
theorem SigBlk.setVal {w:World} {b:Nat} {L:Sigs} (h:SigBlk w b L) {i:Nat} (hi:i < L.length) (v:Int):SigBlk (w.setCell ⟨b,i * 2+1,none⟩ (.int .i64 v)) b (L.set i ((L[i]'hi).1,v)):=by
 unfold SigBlk at h⊢
 rw[heap_setCell_same _ b _ _ _ _ h,← sigCells_set1 L v i hi]
 simp
theorem SigBlk.setBoth {w:World} {b:Nat} {L:Sigs} (h:SigBlk w b L) {i:Nat} (hi:i < L.length) (s:ByteArray) (v:Int):SigBlk ((w.setCell ⟨b,i * 2,none⟩ (.string s)).setCell ⟨b,i * 2+1,none⟩ (.int .i64 v)) b (L.set i (s,v)):=by
 have h1:=h.setName hi s
 have h2:=h1.setVal (i:=i) (by simpa using hi) v
 simpa using h2
theorem SigBlk.sigs {w:World} {b:Nat} {L:Sigs} (h:SigBlk w b L) (hn:L.length≤1073741824):SigsIn w L (some ⟨b,0,none⟩) L.length:=by
 refine⟨Nat.le_refl _,hn,Or.inr ⟨b,0,rfl,fun i hi=>⟨L[i]'hi,List.getElem?_eq_getElem hi,?_,?_⟩⟩⟩
 ·rw[Nat.zero_add];exact h.name hi
 ·rw[Nat.zero_add];exact h.val hi
def zeroSigs (n:Nat):Sigs:=List.replicate n (ByteArray.empty,0)
theorem madeSigs (n:Nat):(madeCells #[.string .empty,.int .i64 0] (n * 2)).toList=sigCells (zeroSigs n):=by
 apply List.ext_getElem?
 intro j
 unfold madeCells
 by_cases hj:j < n * 2
 ·have hl:j / 2 < (zeroSigs n).length:=by simp[zeroSigs];omega
  obtain⟨h1,h2⟩:=sigCells_get (zeroSigs n) (j / 2) hl
  by_cases he:j % 2=0
  ·rw[show j=j / 2 * 2 by omega,h1]
   simp[zeroSigs,show j / 2 * 2 < n * 2 by omega]
  ·rw[show j=j / 2 * 2+1 by omega,h2]
   simp[zeroSigs,show j / 2 * 2+1 < n * 2 by omega,show (j / 2 * 2+1) % 2=1 by omega]
 ·rw[List.getElem?_eq_none (by simp;omega),List.getElem?_eq_none (by rw[sigCells_len];simp[zeroSigs];omega)]
theorem make_sigs {ops:Array Oper} {rest:List Oper} {o:Oper} {a:Act} {Q:Exit→Act→World→Prop} {w:World} (hg:o.guard=none) (l c:Operand) (hop:o.op=Op.makeSlice 41 l c)
  (n:Nat) (L:Int) (hl:a.eval l=.int .i64 L) (hc:a.eval c=.int .i64 L) (hL:L=(n:Int)) (hn:n≤1073741824)
  (h:wpList Tryz.prog ops Q rest (a.put o.dst (.slice (some ⟨w.heap.size,0,none⟩) n n)) (w.alloc (.cells (sigCells (zeroSigs n)).toArray 87))):wpList Tryz.prog ops Q (o::rest) a w:=by
 subst hL
 have hi0:(Tryz.prog.info? 87).map (fun i=>(i.zero,i.size,i.bytes))=some (some (.agg #[.string .empty,.int .i64 0]),2,24):=by kernel_rfl
 obtain⟨i,hi,hz,hsz,hby⟩:=info_parts hi0
 refine wpList_plain hg fun K hK'=>?_
 have hbb:(i.bytes:Int) * (n:Int)≤281474976710656:=by
  rw[hby];omega
 have hrun:=run_make (P:=Tryz.prog) w 41 87 i _ Tryz.underlying41 hi hz .i64 .i64 n n (by omega) (Int.le_refl _) hbb (by omega)
 simp only[Int.toNat_natCast,hsz] at hrun
 have hm:madeCells (Value.agg #[.string .empty,.int .i64 0]).cells (n * 2)=(sigCells (zeroSigs n)).toArray:=by
  apply Array.ext'
  rw[← madeSigs];rfl
 rw[hm] at hrun
 unfold Oper.wp
 simp[execOp,hop,hl,hc,hrun,Result.andThen]
 exact hK' _ _ h
def partS (S:Sigs) (k:Nat):Sigs:=S.take k++zeroSigs (S.length - k)
theorem partS_zero (S:Sigs):partS S 0=zeroSigs S.length:=by simp[partS]
theorem partS_all (S:Sigs):partS S S.length=S:=by simp[partS,zeroSigs]
theorem partS_len (S:Sigs) {k:Nat} (h:k≤S.length):(partS S k).length=S.length:=by simp[partS,zeroSigs];omega
theorem partS_set {S:Sigs} {k:Nat} (h:k < S.length) {x:ByteArray × Int} (hx:S[k]? = some x):(partS S k).set k x=partS S (k+1):=by
 unfold partS zeroSigs
 rw[List.set_append_right _ _ (by simp;omega)]
 simp only[List.length_take,show min k S.length=k by omega,Nat.sub_self]
 rw[show S.length - k=S.length - (k+1)+1 by omega,List.replicate_succ,List.set_cons_zero,List.take_add_one,hx]
 simp
theorem partS_at {S:Sigs} {k:Nat} (h:k < S.length):(partS S k)[k]? = some (ByteArray.empty,0):=by
 unfold partS zeroSigs
 rw[List.getElem?_append_right (by simp;omega)]
 simp[show min k S.length=k by omega,show 0 < S.length - k by omega]
theorem start_len {d:DesD} {st:List Int} (inp:Sigs) (h:st.length=d.regs.length):(startS d st inp).length=d.inputs.length+d.wires.length+d.regs.length:=by
 have:=congrArg List.length (start_names inp h)
 rw[List.length_map] at this
 rw[this]
 simp[DesD.names]
 omega
theorem start_in {d:DesD} (st:List Int) (inp:Sigs) {k:Nat} (hk:k < d.inputs.length):(startS d st inp)[k]? = some ((d.inputs[k]'hk).name,inputV (d.inputs[k]'hk) inp):=by
 unfold startS DesD.ins
 rw[List.append_assoc,List.getElem?_append_left (by simpa using hk)]
 simp[hk]
theorem start_wire {d:DesD} (st:List Int) (inp:Sigs) {k:Nat} (hk:k < d.wires.length):(startS d st inp)[d.inputs.length+k]? = some ((d.wires[k]'hk).name,0):=by
 unfold startS DesD.ins
 rw[List.append_assoc,List.getElem?_append_right (by simp),List.getElem?_append_left (by simp;omega)]
 simp[hk]
theorem start_reg {d:DesD} {st:List Int} (inp:Sigs) {k:Nat} (hk:k < d.regs.length) (hs:k < st.length):(startS d st inp)[d.inputs.length+d.wires.length+k]? = some ((d.regs[k]'hk).name,st[k]'hs):=by
 unfold startS DesD.ins DesD.sts
 rw[List.getElem?_append_right (by simp)]
 simp[List.getElem?_zipWith,hk,hs]
noncomputable def wiresS (d:DesD) (st:List Int) (inp:Sigs) (k:Nat):Sigs:=prgE d.inputs.length (wireN d) (wireV d) (startS d st inp) (d.order.take k)
theorem wiresS_all (d:DesD) (st:List Int) (inp:Sigs):wiresS d st inp d.order.length=settleS d st inp:=by unfold wiresS settleS;rw[List.take_of_length_le (Nat.le_refl _)]
theorem wiresS_names {d:DesD} {st:List Int} (inp:Sigs) (h:st.length=d.regs.length) (k:Nat):(wiresS d st inp k).map (·.1)=d.names:=settle_namesK inp h k
theorem wiresS_len {d:DesD} {st:List Int} (inp:Sigs) (h:st.length=d.regs.length) (k:Nat):(wiresS d st inp k).length=d.inputs.length+d.wires.length+d.regs.length:=by
 have:=congrArg List.length (wiresS_names inp h k)
 rw[List.length_map] at this
 rw[this]
 simp[DesD.names]
 omega
theorem wiresS_succ {d:DesD} {st:List Int} (inp:Sigs) (h:st.length=d.regs.length) {k:Nat} (hk:k < d.order.length) (hi:d.inputs.length+d.order[k]'hk < (wiresS d st inp k).length) :
  (wiresS d st inp k).set (d.inputs.length+d.order[k]'hk) (((wiresS d st inp k)[d.inputs.length+d.order[k]'hk]'hi).1,wireV d (wiresS d st inp k) (d.order[k]'hk))=wiresS d st inp (k+1):=by
 have h1:wiresS d st inp (k+1)=(wiresS d st inp k).set (d.inputs.length+d.order[k]'hk) (wireN d (d.order[k]'hk),wireV d (wiresS d st inp k) (d.order[k]'hk)):=prgE_succ hk
 rw[h1]
 congr 2
 have h2:=start_at inp h (d.order[k]'hk) (order_lt d _ (List.getElem_mem hk))
 rw[start_names inp h,← wiresS_names inp h k,List.getElem?_map,List.getElem?_eq_getElem hi] at h2
 simpa using h2
end Go.Proofs.YtebneadheaefdaaGreatDoor
namespace Go.Proofs.YtebneadheaefdaaGreatDoor
open Go.RowKit
attribute [local go_sem ↓] Go.wp_at_zero Go.wp_at_succ
set_option maxRecDepth 100000 in
set_option maxHeartbeats 16000000 in
theorem settle_fresh (d:DesD) (x:DesA) (aO:Option Addr) (cO:Nat) (l:List Int) (al:Option Addr) (cl:Nat) (inp:Sigs) (aI:Option Addr) (cI:Nat) (w:World)
  (hE:DesIn w d x) (hs:DesSmall d) (hok:DesOk d) (hO:IntsIn w (natI d.order) aO cO) (hl:l.length=d.regs.length) (hL:IntsIn w l al cl) (hI:SigsIn w inp aI cI) (hG:Glob w) :
  Calls Tryz.prog 48 #[machVal d x d.order.length aO cO,.slice al l.length cl,.slice aI inp.length cI] w fun e w'=>(∃ a cap,e=.returned (.tuple #[.slice a (settleS d l inp).length cap,.int .i64 0])∧SigsIn w' (settleS d l inp) a cap∧∀ p,a=some p→w.heap.size≤p.block)∧Below w.heap.size w w':=by
 have h48:d.inputs.length+d.wires.length+d.regs.length≤48:=by have:=hok.len;simp[DesD.names] at this;omega
 have HP:=Lib.hid hE.ins
 have HPA:=Lib.hid hE.ins.addr
 have HW:=Lib.hid hE.wires
 have HWA:=Lib.hid hE.wires.addr
 have HR:=Lib.hid hE.regs
 have HRA:=Lib.hid hE.regs.addr
 have HO:=Lib.hid hO
 have HOA:=Lib.hid hO.addr
 have HL:=Lib.hid hL
 have HLA:=Lib.hid hL.addr
 have HIn0:=Lib.hid (fun k (hk:k < d.inputs.length) W (hW:Below w.heap.size w W)=>input_any (d.inputs[k]'hk) inp aI cI W (hI.keep (keeps_of_below hW)) (input_width hok (List.getElem_mem hk)).1 (input_width hok (List.getElem_mem hk)).2)
 have HEv0:=Lib.hid (fun k (hk:k < d.wires.length) env a cap ae ce W (hW:Below w.heap.size w W) (hn:env.map (·.1)=d.names) (hS:SigsIn W env a cap) (hX:ExIn W (d.wires[k]'hk).expr ae ce)=>(show Calls Tryz.prog 98 #[.agg #[.int .i64 (d.wires[k]'hk).expr.op,.int .i64 (d.wires[k]'hk).expr.n,.string (d.wires[k]'hk).expr.name,.slice ae (d.wires[k]'hk).expr.args.length ce],.slice a env.length cap] W fun e w'=>e=.returned (.tuple #[.int .i64 (evalS env (d.wires[k]'hk).expr).1,.int .i64 0])∧Below W.heap.size W w' by
  have h1:=hs.exprs _ (wire_expr hk)
  have h2:=eval_ok hok hn (wire_expr hk)
  generalize (d.wires[k]'hk).expr=e at h1 h2 hX
  obtain⟨op,n,s,args⟩:=e
  have:=eval_any env a cap op n s args ae ce W (hG.below hW) hS hX (by omega)
  rw[h2] at this
  exact this))
 have HCu:Hid (∀ k (hk:k < d.wires.length) z W,Calls Tryz.prog 99 #[.int .i64 z,.int .i64 (d.wires[k]'hk).width] W fun e w'=>e=.returned (.int .i64 (cutW z (d.wires[k]'hk).width))∧W=w'):=fun k hk z W=>by
  obtain⟨h1,h2⟩:=wire_width hok (List.getElem_mem hk)
  generalize (d.wires[k]'hk).width=wd at h1 h2
  obtain⟨q,rfl⟩:=Int.eq_ofNat_of_zero_le (show 0≤wd by omega)
  exact cut_any z q (by omega) W
 have HS1:Hid (∀ k (hk:k < d.inputs.length),(startS d l inp)[k]? = some ((d.inputs[k]'hk).name,inputV (d.inputs[k]'hk) inp)):=fun k hk=>start_in l inp hk
 have HS2:Hid (∀ k (hk:k < d.wires.length),(startS d l inp)[d.inputs.length+k]? = some ((d.wires[k]'hk).name,0)):=fun k hk=>start_wire l inp hk
 have HS3:Hid (∀ k (hk:k < d.regs.length) (hk':k < l.length),(startS d l inp)[d.inputs.length+d.wires.length+k]? = some ((d.regs[k]'hk).name,l[k]'hk')):=fun k hk hk'=>start_reg inp hk hk'
 have HSl:Hid ((startS d l inp).length=d.inputs.length+d.wires.length+d.regs.length):=start_len inp hl
 have HW0:Hid (wiresS d l inp 0=startS d l inp):=rfl
 have HWE:Hid (wiresS d l inp d.order.length=settleS d l inp):=wiresS_all d l inp
 have HWn:Hid (∀ k,(wiresS d l inp k).map (·.1)=d.names):=fun k=>wiresS_names inp hl k
 have HWl:Hid (∀ k,(wiresS d l inp k).length=d.inputs.length+d.wires.length+d.regs.length):=fun k=>wiresS_len inp hl k
 have HWs:Hid (∀ k (hk:k < d.order.length) (hw:d.order[k]'hk < d.wires.length) (hi:d.inputs.length+d.order[k]'hk < (wiresS d l inp k).length),(wiresS d l inp k).set (d.inputs.length+d.order[k]'hk) (((wiresS d l inp k)[d.inputs.length+d.order[k]'hk]'hi).1,cutW (evalS (wiresS d l inp k) (d.wires[d.order[k]'hk]'hw).expr).1 (d.wires[d.order[k]'hk]'hw).width)=wiresS d l inp (k+1)):=fun k hk hw hi=>by
  rw[← wiresS_succ inp hl hk hi,wireV_at hw]
 have HOl:Hid (∀ k (hk:k < d.order.length),d.order[k]'hk < d.wires.length):=fun k hk=>order_lt d _ (List.getElem_mem hk)
 have hol:d.order.length≤48:=by have:=order_len d;omega
 generalize startS d l inp=S at HS1 HS2 HS3 HSl HW0
 generalize settleS d l inp=SE at HWE⊢
 generalize wiresS d l inp=WS at HW0 HWE HWn HWl HWs
 generalize d.names=N at HEv0 HWn
 simp only[machVal,machVals]
 generalize d.order=OD at HO HOA HWE HWs HOl hol⊢
 have hlI:=hI.2.1
 have hlc:=hL.1
 clear hE hs hok hO hL hI hG
 obtain⟨nm,ins,wires,regs,outs⟩:=d
 obtain⟨ai,ci,aw,cw,ar,cr,ao,co⟩:=x
 simp only at h48 hl HP HPA HW HWA HR HRA HIn0 HEv0 HCu HS1 HS2 HS3 HSl HWl HWs HOl⊢
 have hx0:((w.alloc (.cells #[.string nm,.slice ai ins.length ci,.slice aw wires.length cw,.slice ar regs.length cr,.slice ao outs.length co,.slice aO OD.length cO] 81)).alloc (.cells #[.string nm,.slice ai ins.length ci,.slice aw wires.length cw,.slice ar regs.length cr,.slice ao outs.length co] 27)).heap[w.heap.size]? = some (.cells #[.string nm,.slice ai ins.length ci,.slice aw wires.length cw,.slice ar regs.length cr,.slice ao outs.length co,.slice aO OD.length cO] 81 (0,0)):=by rw[Below.heap_alloc _ _ _ (by simp)];exact heap_alloc_at _ _ _ rfl
 have hx1:((w.alloc (.cells #[.string nm,.slice ai ins.length ci,.slice aw wires.length cw,.slice ar regs.length cr,.slice ao outs.length co,.slice aO OD.length cO] 81)).alloc (.cells #[.string nm,.slice ai ins.length ci,.slice aw wires.length cw,.slice ar regs.length cr,.slice ao outs.length co] 27)).heap[w.heap.size+1]? = some (.cells #[.string nm,.slice ai ins.length ci,.slice aw wires.length cw,.slice ar regs.length cr,.slice ao outs.length co] 27 (0,0)):=heap_alloc_at _ _ _ (by simp)
 have HX:=Lib.hid (⟨hx0,hx1⟩:_∧_)
 have hbA:Below w.heap.size w ((w.alloc (.cells #[.string nm,.slice ai ins.length ci,.slice aw wires.length cw,.slice ar regs.length cr,.slice ao outs.length co,.slice aO OD.length cO] 81)).alloc (.cells #[.string nm,.slice ai ins.length ci,.slice aw wires.length cw,.slice ar regs.length cr,.slice ao outs.length co] 27)):=bel
 have HBA:=Lib.hid hbA
 have hzA:((w.alloc (.cells #[.string nm,.slice ai ins.length ci,.slice aw wires.length cw,.slice ar regs.length cr,.slice ao outs.length co,.slice aO OD.length cO] 81)).alloc (.cells #[.string nm,.slice ai ins.length ci,.slice aw wires.length cw,.slice ar regs.length cr,.slice ao outs.length co] 27)).heap.size=w.heap.size+2:=by simp
 have HZA:=Lib.hid hzA
 clear hbA hx0 hx1 hzA
 have hw1:IntKind.i64.wrap ((ins.length:Int)+wires.length)=(ins.length:Int)+wires.length:=by rw[IntKind.wrap_i64];omega
 have hw2:IntKind.i64.wrap ((ins.length:Int)+wires.length+regs.length)=(ins.length:Int)+wires.length+regs.length:=by rw[IntKind.wrap_i64];omega
 have Hl:=Lib.hid hl
 clear hl
 have HALL:Hid (∀ w',Below (w.heap.size+2) ((w.alloc (.cells #[.string nm,.slice ai ins.length ci,.slice aw wires.length cw,.slice ar regs.length cr,.slice ao outs.length co,.slice aO OD.length cO] 81)).alloc (.cells #[.string nm,.slice ai ins.length ci,.slice aw wires.length cw,.slice ar regs.length cr,.slice ao outs.length co] 27)) w'→w'.cell? ⟨w.heap.size+1,0,none⟩=some (.string nm)∧w'.cell? ⟨w.heap.size+1,1,none⟩=some (.slice ai ins.length ci)∧w'.cell? ⟨w.heap.size+1,2,none⟩=some (.slice aw wires.length cw)∧w'.cell? ⟨w.heap.size+1,3,none⟩=some (.slice ar regs.length cr)∧w'.cell? ⟨w.heap.size+1,4,none⟩=some (.slice ao outs.length co)∧w'.cell? ⟨w.heap.size,5,none⟩=some (.slice aO OD.length cO)):=fun w' h=>by
  have h0:=(h.block _ (by omega)).trans HX.out.1
  have h1:=(h.block _ (by omega)).trans HX.out.2
  have b0:=cell_of_blk h1 0
  have b1:=cell_of_blk h1 1
  have b2:=cell_of_blk h1 2
  have b3:=cell_of_blk h1 3
  have b4:=cell_of_blk h1 4
  have m5:=cell_of_blk h0 5
  simp at b0 b1 b2 b3 b4 m5
  exact⟨b0,b1,b2,b3,b4,m5⟩
 have HBw:Hid (∀ w',Below (w.heap.size+2) ((w.alloc (.cells #[.string nm,.slice ai ins.length ci,.slice aw wires.length cw,.slice ar regs.length cr,.slice ao outs.length co,.slice aO OD.length cO] 81)).alloc (.cells #[.string nm,.slice ai ins.length ci,.slice aw wires.length cw,.slice ar regs.length cr,.slice ao outs.length co] 27)) w'→Below w.heap.size w w'):=fun w' h=>HBA.out.trans (h.mono (by omega))
 obtain⟨T,hT⟩:∃ T,T=ins.length+wires.length+regs.length:=⟨_,rfl⟩
 rw[← hT] at HSl HWl
 have HT:=Lib.hid hT
 have hT0:ins.length+wires.length+regs.length≤T:=by omega
 have hT1:T≤48:=by omega
 clear hT
 have hqT0:∀ q:Nat,q < wires.length→(ins.length:Int)+q < (T:Int):=fun q h=>by omega
 have hwk0:∀ q:Nat,q < wires.length→IntKind.i64.wrap ((ins.length:Int)+q)=(ins.length:Int)+q:=fun q h=>by rw[IntKind.wrap_i64];omega
 go_enter Tryz.func48, Tryz.ntmps48
 go_wp2_with fail
 go_quiet (fail)
 go_wp2_with (at_make;go_must (refine make_sigs rfl (.tmp 39) (.tmp 39) rfl T _ rfl rfl (by rw[HT.out];simp) (by omega) ?_))
 generalize hwb:World.alloc (World.drewN ((w.alloc (.cells #[.string nm,.slice ai ins.length ci,.slice aw wires.length cw,.slice ar regs.length cr,.slice ao outs.length co,.slice aO OD.length cO] 81)).alloc (.cells #[.string nm,.slice ai ins.length ci,.slice aw wires.length cw,.slice ar regs.length cr,.slice ao outs.length co] 27)) _) _=wb
 obtain⟨bo,hbo⟩:∃ bo,bo=w.heap.size+1+1:=⟨_,rfl⟩
 rw[← hbo]
 have HSb:Hid (SigBlk wb bo (partS S 0)):=by
  show SigBlk _ _ _
  rw[partS_zero,HSl.out,← hwb,hbo]
  exact heap_alloc_at _ _ _ (by simp)
 have hbo1:w.heap.size+2≤bo:=by omega
 clear hbo
 have HBb:Hid (Below (w.heap.size+2) ((w.alloc (.cells #[.string nm,.slice ai ins.length ci,.slice aw wires.length cw,.slice ar regs.length cr,.slice ao outs.length co,.slice aO OD.length cO] 81)).alloc (.cells #[.string nm,.slice ai ins.length ci,.slice aw wires.length cw,.slice ar regs.length cr,.slice ao outs.length co] 27)) wb):=by
  show Below _ _ _
  rw[← hwb]
  exact(below_drewN (Below.refl _ _) _).alloc (by simp) _
 clear hwb
 go_loopw [44,12,13] (fun i _ _ wr=>∃ k:Nat,i=.int .i64 k∧k≤ins.length∧Hid (SigBlk wr bo (partS S k))∧Hid (Below (w.heap.size+2) ((w.alloc (.cells #[.string nm,.slice ai ins.length ci,.slice aw wires.length cw,.slice ar regs.length cr,.slice ao outs.length co,.slice aO OD.length cO] 81)).alloc (.cells #[.string nm,.slice ai ins.length ci,.slice aw wires.length cw,.slice ar regs.length cr,.slice ao outs.length co] 27)) wr)) (fun i _ _ _=>ins.length - (intOf i).toNat)
 case atStart=>exact⟨0,rfl,Nat.zero_le _,HSb,HBb⟩
 case round =>
  obtain⟨k,rfl,hk,HS,HB⟩:=hrel
  have HBr:=Lib.hid (HBw.out _ HB.out)
  have hzr:=HS.out.lt
  by_cases hlt:k < ins.length
  ·obtain⟨b,off,ha⟩:=HPA.out.resolve_left (by omega)
   subst ha
   obtain⟨c0,c1⟩:=(HP.out.keep (keeps_of_below HBr.out)).get rfl hlt
   have HIk:=Lib.hid (fun W (hW:Below (w.heap.size+2) ((w.alloc (.cells #[.string nm,.slice (some ⟨b,off,none⟩) ins.length ci,.slice aw wires.length cw,.slice ar regs.length cr,.slice ao outs.length co,.slice aO OD.length cO] 81)).alloc (.cells #[.string nm,.slice (some ⟨b,off,none⟩) ins.length ci,.slice aw wires.length cw,.slice ar regs.length cr,.slice ao outs.length co] 27)) W)=>(HIn0.out k hlt W (HBw.out _ hW)).mono (R':=fun e w'=>e=.returned (.int .i64 (inputV (ins[k]'hlt) inp))∧Below W.heap.size W w'∧Below (w.heap.size+2) ((w.alloc (.cells #[.string nm,.slice (some ⟨b,off,none⟩) ins.length ci,.slice aw wires.length cw,.slice ar regs.length cr,.slice ao outs.length co,.slice aO OD.length cO] 81)).alloc (.cells #[.string nm,.slice (some ⟨b,off,none⟩) ins.length ci,.slice aw wires.length cw,.slice ar regs.length cr,.slice ao outs.length co] 27)) w') (fun e w' h=>⟨h.1,h.2,hW.trans (h.2.mono (by have:=hW.size;simp at this;omega))⟩))
   have HSk:=Lib.hid (HS1.out k hlt)
   generalize inputV (ins[k]'hlt) inp=iv at HIk HSk
   generalize (ins[k]'hlt)=e at c0 c1 HIk HSk
   have hkS:k < S.length:=by rw[HSl.out];omega
   have hkP:k < (partS S k).length:=by rw[partS_len S (by omega)];exact hkS
   have hkn:(k:Int) < (T:Int):=by omega
   go_wp2_with fail
   generalize hwp:World.alloc wr _=wp
   have q0:wp.cell? ⟨wr.heap.size,0,none⟩=some (.string e.name):=by rw[← hwp];simp
   have q1:wp.cell? ⟨wr.heap.size,1,none⟩=some (.int .i64 e.width):=by rw[← hwp];simp
   have HSp:Hid (SigBlk wp bo (partS S k)):=by show SigBlk _ _ _;rw[← hwp];exact HS.out.keep ((Below.refl _ _).alloc (Nat.le_refl _) _)
   have hBp:Below (w.heap.size+2) ((w.alloc (.cells #[.string nm,.slice (some ⟨b,off,none⟩) ins.length ci,.slice aw wires.length cw,.slice ar regs.length cr,.slice ao outs.length co,.slice aO OD.length cO] 81)).alloc (.cells #[.string nm,.slice (some ⟨b,off,none⟩) ins.length ci,.slice aw wires.length cw,.slice ar regs.length cr,.slice ao outs.length co] 27)) wp:=by rw[← hwp];exact HB.out.alloc (by omega) _
   have HSK:Hid (∀ W W':World,Below W.heap.size W W'→W.heap=wp.heap→SigBlk W' bo (partS S k)):=fun W W' h1 h2=>SigBlk.keep (show W.heap[bo]? = _ by rw[h2];exact HSp.out) h1
   have hne:bo≠wr.heap.size:=by omega
   have hne2:wr.heap.size≠bo:=by omega
   clear hwp c0 c1
   go_region_held3 (fun w'=>Below (w.heap.size+2) ((w.alloc (.cells #[.string nm,.slice (some ⟨b,off,none⟩) ins.length ci,.slice aw wires.length cw,.slice ar regs.length cr,.slice ao outs.length co,.slice aO OD.length cO] 81)).alloc (.cells #[.string nm,.slice (some ⟨b,off,none⟩) ins.length ci,.slice aw wires.length cw,.slice ar regs.length cr,.slice ao outs.length co] 27)) w'∧w'.cell? ⟨wr.heap.size,0,none⟩=some (.string e.name)∧w'.cell? ⟨wr.heap.size,1,none⟩=some (.int .i64 e.width)) (refine⟨?_,?_,?_⟩<;>first | assumption | exact keeps_of_below (by assumption) _ _ (by assumption) | go_keep | exact bel)
    ((go_at_call 97;(with_reducible refine(HIk.out _ (by first | assumption | exact And.left (by assumption))).mono ?_);rintro r w3 ⟨rfl,hb3,hB3⟩;have HS3:=Lib.hid (HSK.out _ _ hb3 rfl);have s0:=SigBlk.name HS3.out hkP;have s1:=SigBlk.val HS3.out hkP;have f0:=SigBlk.free HS3.out (k * 2);have f1:=SigBlk.free HS3.out (k * 2+1)))
   have HSt:Hid ((partS S k).set k (e.name,iv)=partS S (k+1)):=partS_set hkS HSk.out
   have HSn:=Lib.hid (SigBlk.setBoth HS3.out hkP e.name iv)
   have HB3:=Lib.hid hB3
   clear s0 s1 f0 f1 hB3 hb3 q0 q1
   go_wp2_with fail
   go_roundw
   case rel=>exact⟨k+1,by go_num,by omega,(by show SigBlk _ _ _;rw[← HSt.out];exact HSn.out),(HB3.out.setCell (by simp;omega) _).setCell (by simp;omega) _⟩
   case measure=>(simp[intOf];try omega)
  ·obtain rfl:k=ins.length:=by omega
   obtain⟨b0,b1,b2,b3,b4,m5⟩:=HALL.out _ HB.out
   clear HSb HBb
   go_wp2_with fail
   go_loopw [62,14,15] (fun i _ _ wr=>∃ k:Nat,i=.int .i64 k∧k≤wires.length∧Hid (SigBlk wr bo (partS S (ins.length+k)))∧Hid (Below (w.heap.size+2) ((w.alloc (.cells #[.string nm,.slice ai ins.length ci,.slice aw wires.length cw,.slice ar regs.length cr,.slice ao outs.length co,.slice aO OD.length cO] 81)).alloc (.cells #[.string nm,.slice ai ins.length ci,.slice aw wires.length cw,.slice ar regs.length cr,.slice ao outs.length co] 27)) wr)) (fun i _ _ _=>wires.length - (intOf i).toNat)
   case atStart=>exact⟨0,rfl,Nat.zero_le _,HS,HB⟩
   case round =>
    rename World=>wr
    obtain⟨k,rfl,hk,HS,HB⟩:=hrel
    have HBr:=Lib.hid (HBw.out _ HB.out)
    have hzr:=HS.out.lt
    clear b0 b1 b2 b3 b4 m5
    by_cases hlt:k < wires.length
    ·obtain⟨b,off,ha⟩:=HWA.out.resolve_left (by omega)
     subst ha
     obtain⟨ae,ce,c0,c1,c2,c3,c4,c5,_⟩:=(HW.out.keep (keeps_of_below HBr.out)).get rfl hlt
     have HSk:=Lib.hid (HS2.out k hlt)
     generalize (wires[k]'hlt)=e at c0 c1 c2 c3 c4 c5 HSk
     have hkS:ins.length+k < S.length:=by rw[HSl.out];omega
     have hkP:ins.length+k < (partS S (ins.length+k)).length:=by rw[partS_len S (by omega)];exact hkS
     have hkn:(ins.length:Int)+k < (T:Int):=by omega
     have hwk:IntKind.i64.wrap ((ins.length:Int)+k)=(ins.length:Int)+k:=by rw[IntKind.wrap_i64];omega
     have htn:((ins.length:Int)+k).toNat=ins.length+k:=by omega
     have hp0:(0:Int)≤(ins.length:Int)+k:=by omega
     have HSA:Hid (SigBlk (wr.alloc (.cells #[.string e.name,.int .i64 e.width,.int .i64 e.expr.op,.int .i64 e.expr.n,.string e.expr.name,.slice ae e.expr.args.length ce] 74)) bo (partS S (ins.length+k))):=HS.out.keep ((Below.refl _ _).alloc (Nat.le_refl _) _)
     have s0:=SigBlk.name HSA.out hkP
     have f0:=SigBlk.free HSA.out ((ins.length+k) * 2)
     have hne:bo≠wr.heap.size:=by omega
     have hSn:=SigBlk.setName HS.out hkP e.name
     have hz0:((partS S (ins.length+k))[ins.length+k]'hkP).2=0:=by
      have:=partS_at hkS
      rw[List.getElem?_eq_getElem hkP] at this
      rw[Option.some.inj this]
     rw[hz0,partS_set hkS HSk.out] at hSn
     have HSn:=Lib.hid (hSn.keep ((Below.refl _ _).alloc (Nat.le_refl _) (.cells #[.string e.name,.int .i64 e.width,.int .i64 e.expr.op,.int .i64 e.expr.n,.string e.expr.name,.slice ae e.expr.args.length ce] 74)))
     have HBA2:Hid (Below (w.heap.size+2) ((w.alloc (.cells #[.string nm,.slice ai ins.length ci,.slice (some ⟨b,off,none⟩) wires.length cw,.slice ar regs.length cr,.slice ao outs.length co,.slice aO OD.length cO] 81)).alloc (.cells #[.string nm,.slice ai ins.length ci,.slice (some ⟨b,off,none⟩) wires.length cw,.slice ar regs.length cr,.slice ao outs.length co] 27)) ((wr.setCell ⟨bo,(ins.length+k) * 2,none⟩ (.string e.name)).alloc (.cells #[.string e.name,.int .i64 e.width,.int .i64 e.expr.op,.int .i64 e.expr.n,.string e.expr.name,.slice ae e.expr.args.length ce] 74))):=(HB.out.setCell hbo1 _).alloc (by simp;omega) _
     clear hSn hz0
     go_wp2_with fail
     go_roundw
     case rel=>exact⟨k+1,by go_num,by omega,HSn,HBA2⟩
     case measure=>(simp[intOf];try omega)
    ·obtain rfl:k=wires.length:=by omega
     obtain⟨b0,b1,b2,b3,b4,m5⟩:=HALL.out _ HB.out
     go_wp2_with fail
     go_loopw [79,16,17] (fun i _ _ wr=>∃ k:Nat,i=.int .i64 k∧k≤regs.length∧Hid (SigBlk wr bo (partS S (ins.length+wires.length+k)))∧Hid (Below (w.heap.size+2) ((w.alloc (.cells #[.string nm,.slice ai ins.length ci,.slice aw wires.length cw,.slice ar regs.length cr,.slice ao outs.length co,.slice aO OD.length cO] 81)).alloc (.cells #[.string nm,.slice ai ins.length ci,.slice aw wires.length cw,.slice ar regs.length cr,.slice ao outs.length co] 27)) wr)) (fun i _ _ _=>regs.length - (intOf i).toNat)
     case atStart=>exact⟨0,rfl,Nat.zero_le _,HS,HB⟩
     case round =>
      rename World=>wr
      obtain⟨k,rfl,hk,HS,HB⟩:=hrel
      have HBr:=Lib.hid (HBw.out _ HB.out)
      have hzr:=HS.out.lt
      clear b0 b1 b2 b3 b4 m5
      by_cases hlt:k < regs.length
      ·have hltl:k < l.length:=by have:=Hl.out;omega
       obtain⟨b,off,ha⟩:=HRA.out.resolve_left (by omega)
       subst ha
       obtain⟨bl,ol,hal⟩:=HLA.out.resolve_left (by omega)
       subst hal
       obtain⟨ae,ce,c0,c1,c2,c3,c4,c5,c6,_⟩:=(HR.out.keep (keeps_of_below HBr.out)).get rfl hlt
       have i0:=intsIn_get (HL.out.keep (keeps_of_below HBr.out)) rfl hltl
       have HSk:=Lib.hid (HS3.out k hlt hltl)
       generalize (regs[k]'hlt)=e at c0 c1 c2 c3 c4 c5 c6 HSk
       generalize (l[k]'hltl)=z at i0 HSk
       have hkS:ins.length+wires.length+k < S.length:=by rw[HSl.out];omega
       have hkP:ins.length+wires.length+k < (partS S (ins.length+wires.length+k)).length:=by rw[partS_len S (by omega)];exact hkS
       have hkn:(ins.length:Int)+wires.length+k < (T:Int):=by omega
       have hwk:IntKind.i64.wrap ((ins.length:Int)+wires.length+k)=(ins.length:Int)+wires.length+k:=by rw[IntKind.wrap_i64];omega
       have htn:((ins.length:Int)+wires.length+k).toNat=ins.length+wires.length+k:=by omega
       have hp0:(0:Int)≤(ins.length:Int)+wires.length+k:=by omega
       have hkl:(k:Int) < l.length:=by omega
       go_wp2_with fail
       generalize hwp:World.alloc wr _=wp
       have q0:wp.cell? ⟨wr.heap.size,0,none⟩=some (.string e.name):=by rw[← hwp];simp
       have q1:wp.cell? ⟨bl,ol+k,none⟩=some (.int .i64 z):=by rw[← hwp];exact(keeps_of_below ((Below.refl _ _).alloc (Nat.le_refl _) _)) _ _ i0
       have HSp:Hid (SigBlk wp bo (partS S (ins.length+wires.length+k))):=by show SigBlk _ _ _;rw[← hwp];exact HS.out.keep ((Below.refl _ _).alloc (Nat.le_refl _) _)
       have HBp:Hid (Below (w.heap.size+2) ((w.alloc (.cells #[.string nm,.slice ai ins.length ci,.slice aw wires.length cw,.slice (some ⟨b,off,none⟩) regs.length cr,.slice ao outs.length co,.slice aO OD.length cO] 81)).alloc (.cells #[.string nm,.slice ai ins.length ci,.slice aw wires.length cw,.slice (some ⟨b,off,none⟩) regs.length cr,.slice ao outs.length co] 27)) wp):=by show Below _ _ _;rw[← hwp];exact HB.out.alloc (by omega) _
       have s0:=SigBlk.name HSp.out hkP
       have s1:=SigBlk.val HSp.out hkP
       have f0:=SigBlk.free HSp.out ((ins.length+wires.length+k) * 2)
       have f1:=SigBlk.free HSp.out ((ins.length+wires.length+k) * 2+1)
       have hne:bo≠wr.heap.size:=by omega
       have hne2:wr.heap.size≠bo:=by omega
       have hbl:bl≠bo:=by
        have h1:=World.block_lt_of_cell? _ _ (HL.out.get rfl hltl)
        simp at h1;omega
       have hbl2:bo≠bl:=fun e=>hbl e.symm
       have HSt:Hid ((partS S (ins.length+wires.length+k)).set (ins.length+wires.length+k) (e.name,z)=partS S (ins.length+wires.length+(k+1))):=partS_set hkS HSk.out
       have HSn:=Lib.hid (SigBlk.setBoth HSp.out hkP e.name z)
       clear hwp c0 c1 c2 c3 c4 c5 c6 i0
       go_region_held3 (fun w'=>w'.cell? ⟨wr.heap.size,0,none⟩=some (.string e.name)∧w'.cell? ⟨bl,ol+k,none⟩=some (.int .i64 z)) (go_keep) (fail)
       clear s0 s1 f0 f1 q0 q1
       go_wp2_with fail
       have HB3:Hid (Below (w.heap.size+2) ((w.alloc (.cells #[.string nm,.slice ai ins.length ci,.slice aw wires.length cw,.slice (some ⟨b,off,none⟩) regs.length cr,.slice ao outs.length co,.slice aO OD.length cO] 81)).alloc (.cells #[.string nm,.slice ai ins.length ci,.slice aw wires.length cw,.slice (some ⟨b,off,none⟩) regs.length cr,.slice ao outs.length co] 27)) (((wp.setCell ⟨bo,(ins.length+wires.length+k) * 2,none⟩ (.string e.name)).setCell ⟨bo,(ins.length+wires.length+k) * 2+1,none⟩ (.int .i64 z)).drewN 1)):=below_drewN ((HBp.out.setCell hbo1 (.string e.name)).setCell hbo1 (.int .i64 z)) 1
       go_roundw
       case rel=>exact⟨k+1,by go_num,by omega,(by show SigBlk _ _ _;rw[← HSt.out];exact HSn.out),HB3⟩
       case measure=>(simp[intOf];try omega)
      ·obtain rfl:k=regs.length:=by omega
       obtain⟨b0,b1,b2,b3,b4,m5⟩:=HALL.out _ HB.out
       have hS0:=HS.out
       rw[← HT.out,← HSl.out,partS_all,← HW0.out] at hS0
       have HS0:=Lib.hid hS0
       clear hS0
       go_wp2_with fail
       go_loopw [100,19,20,21,22] (fun i _ _ _ _ wr=>∃ k:Nat,i=.int .i64 k∧k≤OD.length∧Hid (SigBlk wr bo (WS k))∧Hid (Below (w.heap.size+2) ((w.alloc (.cells #[.string nm,.slice ai ins.length ci,.slice aw wires.length cw,.slice ar regs.length cr,.slice ao outs.length co,.slice aO OD.length cO] 81)).alloc (.cells #[.string nm,.slice ai ins.length ci,.slice aw wires.length cw,.slice ar regs.length cr,.slice ao outs.length co] 27)) wr)) (fun i _ _ _ _ _=>OD.length - (intOf i).toNat)
       case atStart=>exact⟨0,rfl,Nat.zero_le _,HS0,HB⟩
       case round =>
        rename World=>wr
        obtain⟨k,rfl,hk,HS,HB⟩:=hrel
        have HBr:=Lib.hid (HBw.out _ HB.out)
        have hzr:=HS.out.lt
        clear b0 b1 b2 b3 b4 m5
        obtain⟨b0,b1,b2,b3,b4,m5⟩:=HALL.out _ HB.out
        by_cases hlt:k < OD.length
        ·have hkO:k < (natI OD).length:=by rw[natI_len];exact hlt
         obtain⟨bO,oO,haO⟩:=HOA.out.resolve_left (by omega)
         subst haO
         have o0:=intsIn_get (HO.out.keep (keeps_of_below HBr.out)) rfl hkO
         have hoo:(natI OD)[k]'hkO=((OD[k]'hlt:Nat):Int):=by simp[natI]
         rw[hoo] at o0
         have hiw:=HOl.out k hlt
         obtain⟨b,off,ha⟩:=HWA.out.resolve_left (by omega)
         subst ha
         have hidx:ins.length+OD[k]'hlt < (WS k).length:=by rw[HWl.out];omega
         have HWk:=Lib.hid (HWs.out k hlt hiw hidx)
         obtain⟨ae,ce,c0,c1,c2,c3,c4,c5,hX⟩:=(HW.out.keep (keeps_of_below HBr.out)).get rfl hiw
         have hEv:=fun W (hW:Below w.heap.size w W) (hS:SigsIn W (WS k) (some ⟨bo,0,none⟩) T) (hX:ExIn W (wires[OD[k]'hlt]'hiw).expr ae ce)=>HEv0.out (OD[k]'hlt) hiw (WS k) (some ⟨bo,0,none⟩) T ae ce W hW (HWn.out k) hS hX
         rw[HWl.out] at hEv
         have HEv:=Lib.hid hEv
         have HCk:=Lib.hid (fun z W=>HCu.out (OD[k]'hlt) hiw z W)
         clear hoo hEv
         generalize (wires[OD[k]'hlt]'hiw)=e at c0 c1 c2 c3 c4 c5 hX HWk HEv HCk
         generalize (evalS (WS k) e.expr).1=v at HWk HEv
         generalize (OD[k]'hlt)=q at o0 hiw hidx HWk c0 c1 c2 c3 c4 c5
         have hbA:Below wr.heap.size wr (wr.alloc (.cells #[.string e.name,.int .i64 e.width,.int .i64 e.expr.op,.int .i64 e.expr.n,.string e.expr.name,.slice ae e.expr.args.length ce] 74)):=(Below.refl _ _).alloc (Nat.le_refl _) _
         have HbA:=Lib.hid hbA
         have HSA:=Lib.hid (HS.out.keep hbA)
         have HXA:=Lib.hid (hX.keep (keeps_of_below hbA))
         have hSgA:SigsIn (wr.alloc (.cells #[.string e.name,.int .i64 e.width,.int .i64 e.expr.op,.int .i64 e.expr.n,.string e.expr.name,.slice ae e.expr.args.length ce] 74)) (WS k) (some ⟨bo,0,none⟩) T:=by
          have h1:=SigBlk.sigs (HS.out.keep hbA) (by rw[HWl.out];omega)
          rw[HWl.out] at h1
          exact h1
         have HE1:=Lib.hid (HEv.out _ (HBr.out.trans (hbA.mono HBr.out.size)) hSgA HXA.out)
         have hx1:(wr.alloc (.cells #[.string e.name,.int .i64 e.width,.int .i64 e.expr.op,.int .i64 e.expr.n,.string e.expr.name,.slice ae e.expr.args.length ce] 74)).heap[wr.heap.size]? = some (.cells #[.string e.name,.int .i64 e.width,.int .i64 e.expr.op,.int .i64 e.expr.n,.string e.expr.name,.slice ae e.expr.args.length ce] 74):=heap_alloc_at _ _ _ rfl
         have HX1:=Lib.hid hx1
         have hqw:(q:Int) < wires.length:=by omega
         have hwk:IntKind.i64.wrap ((ins.length:Int)+q)=(ins.length:Int)+q:=hwk0 q hiw
         have htn:((ins.length:Int)+q).toNat=ins.length+q:=by omega
         have hp0:(0:Int)≤(ins.length:Int)+q:=by omega
         have hqT:(ins.length:Int)+q < (T:Int):=hqT0 q hiw
         clear hbA hX hSgA hx1
         go_wp2_with fail
         refine HE1.out.mono ?_
         rintro r w5 ⟨rfl,hb5⟩
         have HB5:Hid (Below (w.heap.size+2) ((w.alloc (.cells #[.string nm,.slice ai ins.length ci,.slice (some ⟨b,off,none⟩) wires.length cw,.slice ar regs.length cr,.slice ao outs.length co,.slice (some ⟨bO,oO,none⟩) OD.length cO] 81)).alloc (.cells #[.string nm,.slice ai ins.length ci,.slice (some ⟨b,off,none⟩) wires.length cw,.slice ar regs.length cr,.slice ao outs.length co] 27)) w5):=HB.out.trans ((HbA.out.trans (hb5.mono HbA.out.size)).mono (by omega))
         have HS5:=Lib.hid (HSA.out.keep hb5)
         have h5:=(hb5.block wr.heap.size (by simp)).trans HX1.out
         have p1:w5.cell? ⟨wr.heap.size,1,none⟩=some (.int .i64 e.width):=by simp[World.cell?,h5]
         have s1:=SigBlk.val HS5.out hidx
         have f1:=SigBlk.free HS5.out ((ins.length+q) * 2+1)
         clear hb5 h5 c0 c1 c2 c3 c4 c5 b0 b1 b2 b3 b4 m5 o0
         go_wp2_with (go_at_call 99;(with_reducible refine(HCk.out _ _).mono ?_);rintro r w' ⟨rfl,rfl⟩)
         go_roundw
         case rel=>exact⟨k+1,by go_num,by omega,(by show SigBlk _ _ _;rw[← HWk.out];exact SigBlk.setVal HS5.out hidx _),HB5.out.setCell hbo1 _⟩
         case measure=>(simp[intOf];try omega)
        ·obtain rfl:k=OD.length:=by omega
         have hSE:=HS.out
         have hlE:SE.length=T:=by rw[← HWE.out,HWl.out]
         rw[HWE.out] at hSE
         have HRs:=Lib.hid (SigBlk.sigs hSE (by omega))
         have HLE:=Lib.hid hlE
         clear hSE hlE
         go_wp2_with fail
         go_ret2
         have:=HRs.out
         rw[HLE.out] at this⊢
         exact⟨⟨_,_,rfl,this,fun p hp=>by rw[← Option.some.inj hp];show w.heap.size≤bo;omega⟩,HBr.out⟩
end Go.Proofs.YtebneadheaefdaaGreatDoor
