/- exprtext.text: all valid expressions without arrays. -/
import Derived.Test.YtcplmcjbkpmhdaaGreatDoorEL
import Derived.Lib.ItoaLen
import Derived.Lib.AppendIntMem
import Derived.Lib.SmallJoins
import Derived.Laws.BytesArg
set_option linter.unusedSimpArgs false
set_option linter.unusedVariables false
set_option linter.unnecessarySimpa false
namespace Go.Proofs.YtcplmcjbkpmhdaaGreatDoor
open Go.RowKit
attribute [local go_sem ↓] Go.wp_at_zero Go.wp_at_succ
def opAtK (e:Ex) (k:Nat):Int:=(e.args[k]?.map Ex.op).getD 0
def argT (e:Ex) (ls:List ByteArray) (k:Nat) (need:Int):ByteArray:=parS need (opAtK e k) (ls.getD k .empty)
def textF (e:Ex) (ls:List ByteArray):ByteArray :=
 match binS e.op with
 | some (m,_,l)=>binT (argT e ls 0 (lftL l)) m (argT e ls 1 (rgtL l))
 | none =>
  if e.op=4∨e.op=5∨e.op=6 then preS e.op++argT e ls 0 13
  else if e.op=22 then ifT (argT e ls 0 2) (argT e ls 1 1) (argT e ls 2 1)
  else if e.op=23 then inT (argT e ls 0 9) (joinT (pairL (fun i=>ls.getD i .empty) ((e.args.length - 1) / 2)))
  else if e.op=1 then fmtS e.n
  else if e.op=25 then onesT (ls.getD 0 .empty)
  else varT e.name
noncomputable def textS (e:Ex):ByteArray:=e.para textF
theorem textS_eq (e:Ex):textS e=textF e (e.args.map textS):=by unfold textS;rw[Ex.para_eq]
def NodOk (x:Ex):Prop:=nodeS x=0∧x.op≠3∧x.op≠24∧x.name.size≤1073741824∧(x.op=2→Lib.indexByte x.name.data.toList 91 < 0∨elemB x.name.data.toList=true)
def TxOk (e:Ex):Prop:=∀ x∈e.nodes,NodOk x
theorem TxOk.arg {e x:Ex} (h:TxOk e) (hx:x∈e.args):TxOk x:=fun y hy=>h y (by rw[Ex.nodes_eq];exact List.mem_cons_of_mem _ (List.mem_flatten.2 ⟨_,List.mem_map.2 ⟨x,hx,rfl⟩,hy⟩))
theorem nodes_at {e:Ex} {k:Nat} (hk:k < e.args.length):(e.args[k]'hk).nodes.length < e.nodes.length:=by
 have h1:=preN_succT e.args hk
 have h2:preNT e.args (k+1)≤e.nodes.length:=by
  rw[← preN_allT]
  unfold preNT
  have:(((e.args.take (k+1)).map Ex.nodes).flatten).length≤(((e.args.take e.args.length).map Ex.nodes).flatten).length:=by
   rw[List.take_of_length_le (Nat.le_refl _)]
   have h:=congrArg (fun l=>((l.map Ex.nodes).flatten).length) (List.take_append_drop (k+1) e.args)
   simp only[List.map_append,List.flatten_append,List.length_append] at h
   omega
  omega
 have h3:1≤preNT e.args k:=by unfold preNT;omega
 omega
theorem nodes_arg {e x:Ex} (hx:x∈e.args):x.nodes.length < e.nodes.length:=by
 obtain⟨k,hk,rfl⟩:=List.getElem_of_mem hx
 exact nodes_at hk
theorem binS_none {op:Int} (h:op < 7∨21 < op):binS op=none:=by
 refine binS_no fun j hj=>?_
 have:j=0∨j=1∨j=2∨j=3∨j=4∨j=5∨j=6∨j=7∨j=8∨j=9∨j=10∨j=11∨j=12∨j=13∨j=14:=by omega
 rcases this with rfl | rfl | rfl | rfl | rfl | rfl | rfl | rfl | rfl | rfl | rfl | rfl | rfl | rfl | rfl<;>(simp[opAt,opsL];omega)
theorem binS_some {op:Int} (h:7≤op) (h2:op≤21):∃ m o l,binS op=some (m,o,l):=by
 have:op=7∨op=8∨op=9∨op=10∨op=11∨op=12∨op=13∨op=14∨op=15∨op=16∨op=17∨op=18∨op=19∨op=20∨op=21:=by omega
 rcases this with rfl | rfl | rfl | rfl | rfl | rfl | rfl | rfl | rfl | rfl | rfl | rfl | rfl | rfl | rfl<;>exact⟨_,_,_,rfl⟩
theorem NodOk.node {x:Ex} (h:NodOk x):1≤x.op∧x.op≤25∧(x.op=1→0≤x.n∧x.n≤65535)∧operandsB x.op x.args.length=true:=by
 have h0:=h.1
 unfold nodeS at h0
 split at h0
 ·simp at h0
 ·rename_i h1
  split at h0
  ·simp at h0
  ·rename_i h2
   split at h0
   ·simp at h0
   ·rename_i h3
    refine⟨by omega,by omega,fun h4=>by omega,?_⟩
    cases ho:operandsB x.op x.args.length
    ·exact absurd (Or.inr ho) h3
    ·rfl
inductive Shape:Ex→Prop where
 | con (n:Int) (nm:ByteArray) (args:List Ex) (h0:0≤n) (h1:n≤65535):Shape (.mk 1 n nm args)
 | var (n:Int) (nm:ByteArray) (args:List Ex) (h:Lib.indexByte nm.data.toList 91 < 0∨elemB nm.data.toList=true):Shape (.mk 2 n nm args)
 | pre (op n:Int) (nm:ByteArray) (x:Ex) (h:op=4∨op=5∨op=6):Shape (.mk op n nm [x])
 | bin (op n:Int) (nm:ByteArray) (x y:Ex) (m:ByteArray) (o l:Int) (h:binS op=some (m,o,l)):Shape (.mk op n nm [x,y])
 | ite (n:Int) (nm:ByteArray) (x y z:Ex):Shape (.mk 22 n nm [x,y,z])
 | ins (n:Int) (nm:ByteArray) (args:List Ex) (K:Nat) (h:args.length=1+2 * K) (h1:1≤K) (h2:K≤16):Shape (.mk 23 n nm args)
 | ones (n:Int) (nm:ByteArray) (x:Ex):Shape (.mk 25 n nm [x])
theorem NodOk.shape {e:Ex} (h:NodOk e):Shape e:=by
 obtain⟨h1,h2,h3,h4⟩:=h.node
 obtain⟨_,n3,n24,_,hv⟩:=h
 obtain⟨op,n,nm,args⟩:=e
 simp only[Ex.op_mk,Ex.n_mk,Ex.name_mk,Ex.args_mk] at h1 h2 h3 h4 n3 n24 hv
 have hc:op=1∨op=2∨(op=4∨op=5∨op=6)∨(7≤op∧op≤21)∨op=22∨op=23∨op=25:=by omega
 rcases hc with rfl | rfl | hc | ⟨c1,c2⟩ | rfl | rfl | rfl
 ·exact .con n nm args (h3 rfl).1 (h3 rfl).2
 ·exact .var n nm args (hv rfl)
 ·have ha:arityS op=1:=by unfold arityS;rw[if_neg (by omega),if_pos (by omega)]
  unfold operandsB at h4
  rw[if_neg (by omega),ha] at h4
  have hl:args.length=1:=by have:=of_decide_eq_true h4;omega
  match args,hl with
  | [x],_=>exact .pre op n nm x hc
 ·obtain⟨m,o,l,hb⟩:=binS_some c1 c2
  have ha:arityS op=2:=by unfold arityS;rw[if_neg (by omega),if_neg (by omega),if_neg (by omega),if_neg (by omega),if_neg (by omega)]
  unfold operandsB at h4
  rw[if_neg (by omega),ha] at h4
  have hl:args.length=2:=by have:=of_decide_eq_true h4;omega
  match args,hl with
  | [x,y],_=>exact .bin op n nm x y m o l hb
 ·have hl:args.length=3:=by have:=of_decide_eq_true h4;simp[arityS] at this;omega
  match args,hl with
  | [x,y,z],_=>exact .ite n nm x y z
 ·have hl:args.length % 2=1∧3≤args.length∧args.length≤33:=of_decide_eq_true h4
  exact .ins n nm args ((args.length - 1) / 2) (by omega) (by omega) (by omega)
 ·have hl:args.length=1:=by have:=of_decide_eq_true h4;simp[arityS] at this;omega
  match args,hl with
  | [x],_=>exact .ones n nm x
theorem parS_size (need op:Int) (s:ByteArray):(parS need op s).size≤s.size+2:=by
 unfold parS
 split
 ·simp only[ByteArray.size_append];show 1+s.size+1≤_;omega
 ·omega
theorem fmt_size {n:Int} (h0:0≤n) (h1:n≤65535):(fmtS n).size≤21:=by
 have:=Lib.itoa_length_le n (by omega) (by omega)
 unfold fmtS
 simp only[ByteArray.size]
 simpa using this
theorem join_len (l:List ByteArray):(joinT l).size≤(l.map fun s=>s.size+2).sum:=by
 have hz:∀ s:ByteArray,s.data.toList.length=s.size:=fun s=>Array.length_toList
 unfold joinT
 simp only[ByteArray.size,List.size_toArray]
 cases l with
 | nil=>simp[Lib.join_nil]
 | cons x r =>
  rw[List.map_cons,Lib.join_cons,List.length_append]
  have:∀ r:List ByteArray,(Lib.joinTail [44,32] (r.map (·.data.toList))).length=(r.map fun s=>s.size+2).sum:=by
   intro r
   induction r with
   | nil=>rfl
   | cons y r ih =>
    unfold Lib.joinTail at ih⊢
    simp only[List.map_cons,List.flatten_cons,List.length_append,List.sum_cons,List.length_cons,List.length_nil,hz]
    simp only[List.map_map] at ih⊢
    omega
  rw[this,List.map_cons,List.sum_cons,hz]
  simp only[ByteArray.size]
  omega
theorem pair_sum (T:Nat→ByteArray) (args:List Ex) (h:∀ i (hi:i < args.length),(T i).size+8≤(args[i]'hi).nodes.length * 1073742080) :
  ∀ k,1+2 * k≤args.length→((pairL T k).map fun s=>s.size+2).sum+preNT args 1 * 1073742080≤preNT args (1+2 * k) * 1073742080:=by
 intro k
 induction k with
 | zero=>intro _;simp[pairL]
 | succ k ih =>
  intro hk
  have h1:=ih (by omega)
  have e1:=preN_succT args (k:=1+2 * k) (by omega)
  have e2:=preN_succT args (k:=1+2 * k+1) (by omega)
  have t1:=h (1+2 * k) (by omega)
  have t2:=h (1+2 * k+1) (by omega)
  have e3:1+2 * (k+1)=1+2 * k+1+1:=by omega
  have e4:(pairL T (k+1))=pairL T k++[pairT (T (1+2 * k)) (T (1+2 * k+1))]:=by unfold pairL;rw[List.range_succ];simp
  have e5:(pairT (T (1+2 * k)) (T (1+2 * k+1))).size=(T (1+2 * k)).size+4+(T (1+2 * k+1)).size:=by unfold pairT;simp only[ByteArray.size_append];rfl
  rw[e3,e2,e1,e4,List.map_append,List.sum_append]
  simp only[List.map_cons,List.map_nil,List.sum_cons,List.sum_nil,e5]
  omega
theorem getD_map {l:List Ex} {i:Nat} (hi:i < l.length):(l.map textS).getD i .empty=textS (l[i]'hi):=by
 rw[List.getD_eq_getElem?_getD,List.getElem?_map,List.getElem?_eq_getElem hi];rfl
theorem opAtK_at {e:Ex} {k:Nat} (hk:k < e.args.length):opAtK e k=(e.args[k]'hk).op:=by unfold opAtK;rw[List.getElem?_eq_getElem hk];rfl
theorem nodes_oneT (op n:Int) (nm:ByteArray) (x:Ex):(Ex.mk op n nm [x]).nodes.length=1+x.nodes.length:=by rw[Ex.nodes_eq];simp[Ex.args_mk];omega
theorem nodes_two (op n:Int) (nm:ByteArray) (x y:Ex):(Ex.mk op n nm [x,y]).nodes.length=1+x.nodes.length+y.nodes.length:=by rw[Ex.nodes_eq];simp[Ex.args_mk];omega
theorem nodes_three (op n:Int) (nm:ByteArray) (x y z:Ex):(Ex.mk op n nm [x,y,z]).nodes.length=1+x.nodes.length+y.nodes.length+z.nodes.length:=by rw[Ex.nodes_eq];simp[Ex.args_mk];omega
theorem nodes_pos (e:Ex):1≤e.nodes.length:=by rw[Ex.nodes_eq];simp
theorem tS_pre (op n:Int) (nm:ByteArray) (x:Ex) (h:op=4∨op=5∨op=6):textS (.mk op n nm [x])=preS op++parS 13 x.op (textS x):=by
 rw[textS_eq]
 unfold textF
 rw[show (Ex.mk op n nm [x]).op=op from rfl,binS_none (by omega)]
 simp only[if_pos h]
 rfl
theorem tS_bin (op n:Int) (nm:ByteArray) (x y:Ex) {m:ByteArray} {o l:Int} (h:binS op=some (m,o,l)):textS (.mk op n nm [x,y])=binT (parS (lftL l) x.op (textS x)) m (parS (rgtL l) y.op (textS y)):=by
 rw[textS_eq]
 unfold textF
 rw[show (Ex.mk op n nm [x,y]).op=op from rfl,h]
 rfl
theorem tS_if (n:Int) (nm:ByteArray) (x y z:Ex):textS (.mk 22 n nm [x,y,z])=ifT (parS 2 x.op (textS x)) (parS 1 y.op (textS y)) (parS 1 z.op (textS z)):=by rw[textS_eq];rfl
theorem tS_in (n:Int) (nm:ByteArray) (args:List Ex) (K:Nat) (h:args.length=1+2 * K):textS (.mk 23 n nm args)=inT (argT (.mk 23 n nm args) (args.map textS) 0 9) (joinT (pairL (fun i=>(args.map textS).getD i .empty) K)):=by
 rw[textS_eq]
 unfold textF
 rw[show (Ex.mk 23 n nm args).op=23 from rfl,show binS 23=none from rfl]
 simp only[Ex.args_mk]
 rw[show (args.length - 1) / 2=K by omega]
 rfl
theorem tS_ones (n:Int) (nm:ByteArray) (x:Ex):textS (.mk 25 n nm [x])=onesT (textS x):=by rw[textS_eq];rfl
theorem tS_con (n:Int) (nm:ByteArray) (args:List Ex):textS (.mk 1 n nm args)=fmtS n:=by rw[textS_eq];rfl
theorem tS_var (n:Int) (nm:ByteArray) (args:List Ex):textS (.mk 2 n nm args)=varT nm:=by rw[textS_eq];rfl
theorem text_size (e:Ex):TxOk e→(textS e).size+8≤e.nodes.length * 1073742080:=by
 induction e using Ex.ind with
 | _ e ih =>
  intro hok
  have hnd:=hok e (self_nodeT e)
  have hnm:=hnd.2.2.2.1
  have hsh:=hnd.shape
  cases hsh with
  | con n nm args h0 h1 =>
   have:=fmt_size h0 h1
   have:=nodes_pos (.mk 1 n nm args)
   rw[tS_con];omega
  | var n nm args h =>
   have:=nodes_pos (.mk 2 n nm args)
   simp only[Ex.name_mk] at hnm
   have:=varT_size nm
   rw[tS_var];omega
  | pre op n nm x h =>
   have h1:=ih x (by simp[Ex.args_mk]) (hok.arg (by simp[Ex.args_mk]))
   have h2:=parS_size 13 x.op (textS x)
   have h3:(preS op).size≤1:=by rcases h with rfl | rfl | rfl<;>decide
   rw[tS_pre op n nm x h,nodes_oneT,ByteArray.size_append]
   omega
  | bin op n nm x y m o l h =>
   have h1:=ih x (by simp[Ex.args_mk]) (hok.arg (by simp[Ex.args_mk]))
   have h2:=ih y (by simp[Ex.args_mk]) (hok.arg (by simp[Ex.args_mk]))
   have h3:=parS_size (lftL l) x.op (textS x)
   have h4:=parS_size (rgtL l) y.op (textS y)
   have h5:=binS_size h
   rw[tS_bin op n nm x y h,nodes_two]
   unfold binT
   simp only[ByteArray.size_append]
   show (parS (lftL l) x.op (textS x)).size+1+m.size+1+(parS (rgtL l) y.op (textS y)).size+8≤_
   omega
  | ite n nm x y z =>
   have h1:=ih x (by simp[Ex.args_mk]) (hok.arg (by simp[Ex.args_mk]))
   have h2:=ih y (by simp[Ex.args_mk]) (hok.arg (by simp[Ex.args_mk]))
   have h3:=ih z (by simp[Ex.args_mk]) (hok.arg (by simp[Ex.args_mk]))
   have h4:=parS_size 2 x.op (textS x)
   have h5:=parS_size 1 y.op (textS y)
   have h6:=parS_size 1 z.op (textS z)
   rw[tS_if,nodes_three]
   unfold ifT
   simp only[ByteArray.size_append]
   show (parS 2 x.op (textS x)).size+3+(parS 1 y.op (textS y)).size+3+(parS 1 z.op (textS z)).size+8≤_
   omega
  | ins n nm args K h h1 h2 =>
   have hT:∀ i (hi:i < args.length),((args.map textS).getD i .empty).size+8≤(args[i]'hi).nodes.length * 1073742080:=fun i hi=>by
    rw[getD_map hi]
    exact ih _ (List.getElem_mem hi) (hok.arg (List.getElem_mem hi))
   have hp:=pair_sum (fun i=>(args.map textS).getD i .empty) args hT K (by omega)
   have hj:=join_len (pairL (fun i=>(args.map textS).getD i .empty) K)
   have h0:=hT 0 (by omega)
   have e1:=preN_succT args (k:=0) (by omega)
   have e0:preNT args 0=1:=by simp[preNT]
   have ea:preNT args (1+2 * K)=(Ex.mk 23 n nm args).nodes.length:=by rw[← h];exact preN_allT (.mk 23 n nm args)
   have h4:=parS_size 9 (opAtK (.mk 23 n nm args) 0) ((args.map textS).getD 0 .empty)
   rw[tS_in n nm args K h,← ea]
   unfold inT argT
   simp only[ByteArray.size_append]
   show (parS 9 (opAtK (.mk 23 n nm args) 0) ((args.map textS).getD 0 .empty)).size+10+(joinT (pairL (fun i=>(args.map textS).getD i .empty) K)).size+2+8≤_
   rw[e0] at e1
   simp only[Nat.zero_add] at e1
   rw[e1] at hp
   omega
  | ones n nm x =>
   have h1:=ih x (by simp[Ex.args_mk]) (hok.arg (by simp[Ex.args_mk]))
   rw[tS_ones,nodes_oneT]
   unfold onesT
   simp only[ByteArray.size_append]
   show 5+(textS x).size+1+8≤_
   omega
theorem text_all {B:Nat} {w0:World} (hF:∀ n:Int,0≤n→n≤65535→FmtC B w0 n) (e:Ex):TxOk e→e.nodes.length≤400→TextC B w0 e (textS e):=by
 induction e using Ex.ind with
 | _ e ih =>
  intro hok hn
  have hsz:=text_size e hok
  have hnd:=hok e (self_nodeT e)
  have hc:∀ x∈e.args,TextC B w0 x (textS x)∧(textS x).size≤549755813888:=fun x hx=>by
   have h1:=nodes_arg hx
   have h2:=text_size x (hok.arg hx)
   exact⟨ih x hx (hok.arg hx) (by omega),by omega⟩
  have hA:∀ x∈e.args,∀ need,AtC B w0 x need (parS need x.op (textS x))∧(parS need x.op (textS x)).size≤1099511627776:=fun x hx need=>by
   obtain⟨h1,h2⟩:=hc x hx
   have h3:=parS_size need x.op (textS x)
   exact⟨at_of h1 (by omega) need,by omega⟩
  have hsh:=hnd.shape
  cases hsh with
  | con n nm args h0 h1=>rw[tS_con];exact text_const n nm args (hF n h0 h1)
  | var n nm args h=>rw[tS_var];exact text_varT n nm args h (by simpa [Ex.name_mk] using hnd.2.2.2.1)
  | pre op n nm x h =>
   have h1:=hA x (by simp[Ex.args_mk]) 13
   rw[tS_pre op n nm x h]
   exact text_pre op n nm h h1.1 h1.2
  | bin op n nm x y m o l h =>
   have h1:=hA x (by simp[Ex.args_mk]) (lftL l)
   have h2:=hA y (by simp[Ex.args_mk]) (rgtL l)
   rw[tS_bin op n nm x y h]
   exact text_bin op n nm h h1.1 h2.1 h1.2 h2.2
  | ite n nm x y z =>
   have h1:=hA x (by simp[Ex.args_mk]) 2
   have h2:=hA y (by simp[Ex.args_mk]) 1
   have h3:=hA z (by simp[Ex.args_mk]) 1
   rw[tS_if]
   exact text_if n nm h1.1 h2.1 h3.1 h1.2 h2.2 h3.2
  | ins n nm args K h h1 h2 =>
   have hz:(inT (argT (.mk 23 n nm args) (args.map textS) 0 9) (joinT (pairL (fun i=>(args.map textS).getD i .empty) K))).size+8≤(Ex.mk 23 n nm args).nodes.length * 1073742080:=by rw[← tS_in n nm args K h];exact hsz
   unfold inT at hz
   simp only[ByteArray.size_append] at hz
   have h0:0 < args.length:=by omega
   have ha:=hA (args[0]'h0) (List.getElem_mem h0) 9
   have hae:argT (.mk 23 n nm args) (args.map textS) 0 9=parS 9 (args[0]'h0).op (textS (args[0]'h0)):=by
    unfold argT
    rw[getD_map h0,opAtK_at (e:=.mk 23 n nm args) h0]
    rfl
   rw[tS_in n nm args K h,hae]
   rw[hae] at hz
   refine text_in n nm args h h1 (by omega) (fun _=>ha.1) (fun i hi=>?_) (fun i hi=>?_) ha.2 (by omega)
   ·rw[getD_map hi];exact(hc _ (List.getElem_mem hi)).1
   ·rw[getD_map hi];exact(hc _ (List.getElem_mem hi)).2
  | ones n nm x =>
   have h1:=hc x (by simp[Ex.args_mk])
   rw[tS_ones]
   exact text_ones n nm h1.1 (by omega)
theorem fmt_any (w:World) (hT:Lib.TabIs Tryz.prog w "internal/strconv.uint64pow10" .u64 Lib.pow10Tab) (n:Int) (h0:0≤n) (h1:n≤65535):FmtC w.heap.size w n:=by
 intro W hW
 have hTW:Lib.TabIs Tryz.prog W "internal/strconv.uint64pow10" .u64 Lib.pow10Tab:=Go.Joins.tab_stays (g:=2) (by kernel_rfl) hT hW (Nat.le_refl _)
 have HI:Hid (Calls Tryz.prog 220 #[.int .i64 n] W fun e w'=>e=.returned (.string (fmtS n))∧Below W.heap.size W w'):=(Tryz.strconv_Itoa n (by omega) (by omega) W hTW).mono fun e w' h=>by
  obtain⟨h1,k,os,rfl⟩:=h
  exact⟨h1,Lib.below_grow _ _ (Nat.le_refl _) _ _⟩
 have HP:Hid (∀ w',Below W.heap.size W w'→SPost (fmtS n) W (.returned (.string (fmtS n))) w'):=fun w' h=>⟨rfl,h⟩
 generalize SPost (fmtS n) W=Po at HP⊢
 generalize fmtS n=s at HI HP
 clear hTW hW
 go_enter Tryz.func174, Tryz.ntmps174
 go_wp2_with fail
 refine HI.out.mono ?_
 rintro e w1 ⟨rfl,hb1⟩
 have HPe:=Lib.hid (HP.out w1 hb1)
 clear hb1
 go_wp2_with fail
 first | exact HPe.out | (go_ret;exact HPe.out)
end Go.Proofs.YtcplmcjbkpmhdaaGreatDoor
namespace Go.Proofs.YtcplmcjbkpmhdaaGreatDoor
open Go.RowKit
attribute [local go_sem ↓] Go.wp_at_zero Go.wp_at_succ
theorem fmt_nat (n:Nat):fmtS (n:Int)=⟨(Lib.decDigits n).toArray⟩:=by unfold fmtS Lib.itoa;rw[if_neg (by omega)];rfl
theorem dec_lenR {n:Nat} (h:n≤65535):(Lib.decDigits n).length≤21:=by
 have:=Lib.itoa_length_le (n:Int) (by omega) (by omega)
 unfold Lib.itoa at this
 rw[if_neg (by omega)] at this
 exact this
theorem dec_small {n:Nat} (h:n < 10):Lib.decDigits n=[UInt8.ofNat (48+n % 10)]:=by rw[Lib.decDigits,dif_pos h,Nat.mod_eq_of_lt h]
theorem dec_big {n:Nat} (h:¬ n < 10):Lib.decDigits n=Lib.decDigits (n / 10)++[UInt8.ofNat (48+n % 10)]:=by rw[Lib.decDigits,dif_neg h]
theorem bytes_of {S:ByteArray} {l:List UInt8} (h:S.data.toList=l):S=⟨l.toArray⟩:=by rw[← h]
theorem conv1 (W:World) (b:Nat) (j:Int) (h:W.cell? ⟨b,0,none⟩=some (.int .u8 j)):(convert 93 9 (.slice (some ⟨b,0,none⟩) 1 1)).run Tryz.prog W=.ok (.string (strOfNums [j])) W :=
 run_convert_bytes_arg W 93 5 Tryz.underlying93 Tryz.underlying5 b 0 1 1 [j] rfl (fun j' hj=>by have hj0:j'=0:=(by omega);subst hj0;simpa using h) 9 Tryz.underlying9
theorem neg_mod (q:Nat):(-(q:Int)).tmod 10=-((q % 10:Nat):Int):=by rw[Int.neg_tmod,Int.tmod_eq_emod_of_nonneg (by omega)];omega
theorem neg_div (q:Nat):(-(q:Int)).tdiv 10=-((q / 10:Nat):Int):=by rw[Int.neg_tdiv,Int.tdiv_eq_ediv_of_nonneg (by omega)];omega
theorem str_one (c:Nat):(strOfNums [(c:Int)]).data.toList=[UInt8.ofNat c]:=rfl
theorem cutq {p q:Prop} (h:p) (k:p→q):q:=k h
set_option maxRecDepth 100000 in
set_option maxHeartbeats 4000000 in
theorem digits03_any (q:Nat):q≤65535→∀ w:World,Calls Tryz.prog 293 #[.int .i64 (-(q:Int))] w fun e w'=>e=.returned (.string ⟨(Lib.decDigits q).toArray⟩)∧Below w.heap.size w w':=by
 induction q using Nat.strongRecOn with
 | _ q ih =>
  intro hq w
  have hcv:=conv1
  have hr:=neg_mod q
  have hd:=neg_div q
  have hr10:q % 10 < 10:=Nat.mod_lt _ (by omega)
  have h48:(48:Int) - -((q % 10:Nat):Int)=((48+q % 10:Nat):Int):=by omega
  have HP:Hid (∀ S w',S.data.toList=Lib.decDigits q→Below w.heap.size w w'→(Ending.returned (.string S)=.returned (.string ⟨(Lib.decDigits q).toArray⟩)∧Below w.heap.size w w')):=fun S w' h1 h2=>⟨by rw[bytes_of h1],h2⟩
  have hcl:48+q % 10 < 58:=by omega
  by_cases hq10:q < 10
  ·have h480:(48:Int) - -(q:Int)=((48+q % 10:Nat):Int):=by omega
   have hc1:decide ((-10:Int) < -(q:Int))=true:=decide_eq_true (by omega)
   have HF:Hid ((strOfNums [((48+q % 10:Nat):Int)]).data.toList=Lib.decDigits q):=by
    show _=_
    rw[dec_small hq10,str_one]
   generalize hPo:(fun e w'=>e=Ending.returned (Value.string ⟨(Lib.decDigits q).toArray⟩)∧Below w.heap.size w w')=Po
   have HPo:Hid (∀ w',Below w.heap.size w w'→Po (.returned (.string (strOfNums [((48+q % 10:Nat):Int)]))) w'):=fun w' h=>by rw[← hPo];exact HP.out _ w' HF.out h
   generalize (48+q % 10)=cc at *
   clear hPo HP HF ih hr hd h48
   go_enter Tryz.func293, Tryz.ntmps293
   go_wp2_with fail
   first | exact HPo.out _ ((Below.refl _ _).alloc (Nat.le_refl _) _) | (go_ret;exact HPo.out _ ((Below.refl _ _).alloc (Nat.le_refl _) _))
  ·have hc1:decide ((-10:Int) < -(q:Int))=false:=decide_eq_false (by omega)
   have HI:=Lib.hid (ih (q / 10) (by omega) (by omega))
   have hdl:(Lib.decDigits (q / 10)).length≤21:=dec_lenR (by omega)
   have HF:Hid (∀ S:ByteArray,S.data.toList=Lib.decDigits (q / 10)→(S++strOfNums [((48+q % 10:Nat):Int)]).data.toList=Lib.decDigits q):=fun S hS=>by
    rw[ByteArray.data_append,Array.toList_append,hS,dec_big hq10,str_one]
   obtain⟨S,hS,hSz⟩:∃ S:ByteArray,S=⟨(Lib.decDigits (q / 10)).toArray⟩∧S.size≤21:=⟨_,rfl,by simp only[ByteArray.size];simpa using hdl⟩
   rw[← hS] at HI
   have HF:=Lib.hid (HF.out S (by rw[hS]))
   generalize hPo:(fun e w'=>e=Ending.returned (Value.string ⟨(Lib.decDigits q).toArray⟩)∧Below w.heap.size w w')=Po
   have HPo:Hid (∀ w',Below w.heap.size w w'→Po (.returned (.string (S++strOfNums [((48+q % 10:Nat):Int)]))) w'):=fun w' h=>by rw[← hPo];exact HP.out _ w' HF.out h
   have hz1:(strOfNums [((48+q % 10:Nat):Int)]).size=1:=by simp[strOfNums_size]
   have q1:¬ 9223372036854775807 < S.size+1:=by omega
   have hqd:q / 10≤65535:=by omega
   generalize (48+q % 10)=cc at *
   generalize ((q % 10:Nat):Int)=rr at *
   generalize q / 10=qd at *
   have w1:IntKind.i64.wrap (-(qd:Int))=-(qd:Int):=IntWalk.i64_in _ (by omega)
   have w2:IntKind.i64.wrap (cc:Int)=(cc:Int):=IntWalk.i64_in _ (by omega)
   have w3:IntKind.u8.wrap (cc:Int)=(cc:Int):=by unfold IntKind.wrap;simp[IntKind.bits,IntKind.signed];omega
   clear hPo HP HF ih hS hdl
   go_enter Tryz.func293, Tryz.ntmps293
   go_wp2_with fail
   go_region_with ((go_at_call 293;(with_reducible refine(HI.out _).mono ?_);rintro e w5 ⟨rfl,hb5⟩;(have hz5:=hb5.size);(have hw5:Below w.heap.size w w5:=Below.trans bel (hb5.mono sz));(have hzw5:=hw5.size);(have k5:=keeps_of_below hb5);(try (refine cutq (p:=w5.cell? ⟨w.heap.size,0,none⟩=some (.int .u8 (cc:Int))) ?pr (fun c5=>?_);(case pr=>(refine k5 _ _ ?_;simp;done))))))
   all_goals
    go_wp2_with fail
    (try go_ret)
    refine HPo.out _ ?_
    exact bel
set_option maxRecDepth 100000 in
theorem decimal03_any (q:Nat) (hq:q≤65535) (w:World):Calls Tryz.prog 260 #[.int .i64 (q:Int)] w fun e w'=>e=.returned (.string ⟨(Lib.decDigits q).toArray⟩)∧Below w.heap.size w w':=by
 have HI:=Lib.hid (digits03_any q hq w)
 have hn:decide ((q:Int) < 0)=false:=decide_eq_false (by omega)
 generalize (⟨(Lib.decDigits q).toArray⟩:ByteArray)=S at HI⊢
 go_enter Tryz.func260, Tryz.ntmps260
 go_wp2_with fail
 refine HI.out.mono ?_
 rintro e w1 ⟨rfl,hb1⟩
 go_wp2_with fail
 go_ret
 exact⟨rfl,hb1⟩
set_option maxRecDepth 100000 in
theorem Number03_any (q:Nat) (hq:q≤65535) (w:World):Calls Tryz.prog 225 #[.int .i64 (q:Int)] w fun e w'=>e=.returned (.string (⟨(Lib.decDigits q).toArray⟩++⟨#[59]⟩))∧Below w.heap.size w w':=by
 have HI:=Lib.hid (decimal03_any q hq w)
 have hz:(⟨(Lib.decDigits q).toArray⟩:ByteArray).size≤21:=by simp only[ByteArray.size];simpa using dec_lenR hq
 generalize (⟨(Lib.decDigits q).toArray⟩:ByteArray)=S at HI hz⊢
 have q1:¬ 9223372036854775807 < S.size+1:=by omega
 go_enter Tryz.func225, Tryz.ntmps225
 go_wp2_with fail
 refine HI.out.mono ?_
 rintro e w1 ⟨rfl,hb1⟩
 go_wp2_with fail
 go_ret
 exact⟨rfl,hb1⟩
set_option maxRecDepth 100000 in
theorem decimal09_any (q:Nat) (hq:q≤65535) (w:World):Calls Tryz.prog 180 #[.int .i64 (q:Int)] w fun e w'=>e=.returned (.string (fmtS q))∧Below w.heap.size w w':=by
 have HI:=Lib.hid (Number03_any q hq w)
 have hz:(⟨(Lib.decDigits q).toArray⟩:ByteArray).size≤21:=by simp only[ByteArray.size];simpa using dec_lenR hq
 rw[fmt_nat]
 generalize (⟨(Lib.decDigits q).toArray⟩:ByteArray)=S at HI hz⊢
 have hs1:(S++(⟨#[59]⟩:ByteArray)).size=S.size+1:=by rw[ByteArray.size_append];rfl
 have hx:(S++(⟨#[59]⟩:ByteArray)).extract 0 S.size=S:=by
  refine ByteArray.ext ?_
  rw[ByteArray.data_extract,ByteArray.data_append]
  have hzz:S.size=S.data.toList.length:=rfl
  rw[hzz]
  apply Array.toList_inj.1
  simp only[Array.toList_extract,Array.toList_append,List.extract_eq_take_drop,List.drop_zero,Nat.sub_zero]
  exact List.take_left
 generalize S++(⟨#[59]⟩:ByteArray)=S2 at HI hs1 hx
 go_enter Tryz.func180, Tryz.ntmps180
 go_wp2_with fail
 refine HI.out.mono ?_
 rintro e w1 ⟨rfl,hb1⟩
 go_wp2_with fail
 go_ret
 exact⟨rfl,hb1⟩
end Go.Proofs.YtcplmcjbkpmhdaaGreatDoor
namespace Go.Proofs.YtcplmcjbkpmhdaaGreatDoor
open Go.RowKit
attribute [local go_sem ↓] Go.wp_at_zero Go.wp_at_succ
def sgnM (op:Int):ByteArray:=if op=21 then .empty else (binG op).1
def sgnL (op:Int):Int:=if op=21 then 0 else (binG op).2.2
theorem sgn_none {op:Int} (h:op < 7∨20 < op):sgnM op=.empty∧sgnL op=0:=by
 unfold sgnM sgnL binG
 by_cases h1:op=21
 ·rw[if_pos h1,if_pos h1];exact⟨rfl,rfl⟩
 ·rw[if_neg h1,if_neg h1,binS_none (by omega)];exact⟨rfl,rfl⟩
set_option maxRecDepth 100000 in
set_option maxHeartbeats 4000000 in
theorem sign_any (op:Int) (w:World):Calls Tryz.prog 176 #[.int .i64 op] w fun e w'=>e=.returned (.tuple #[.string (sgnM op),.int .i64 (sgnL op)])∧w'=w:=by
 by_cases h:op < 7∨20 < op
 ·obtain⟨h1,h2⟩:=sgn_none h
  rw[h1,h2]
  have d7:(op == 7)=false:=beq_eq_false_iff_ne.2 (by omega)
  have d8:(op == 8)=false:=beq_eq_false_iff_ne.2 (by omega)
  have d9:(op == 9)=false:=beq_eq_false_iff_ne.2 (by omega)
  have d10:(op == 10)=false:=beq_eq_false_iff_ne.2 (by omega)
  have d11:(op == 11)=false:=beq_eq_false_iff_ne.2 (by omega)
  have d12:(op == 12)=false:=beq_eq_false_iff_ne.2 (by omega)
  have d13:(op == 13)=false:=beq_eq_false_iff_ne.2 (by omega)
  have d14:(op == 14)=false:=beq_eq_false_iff_ne.2 (by omega)
  have d15:(op == 15)=false:=beq_eq_false_iff_ne.2 (by omega)
  have d16:(op == 16)=false:=beq_eq_false_iff_ne.2 (by omega)
  have d17:(op == 17)=false:=beq_eq_false_iff_ne.2 (by omega)
  have d18:(op == 18)=false:=beq_eq_false_iff_ne.2 (by omega)
  have d19:(op == 19)=false:=beq_eq_false_iff_ne.2 (by omega)
  have d20:(op == 20)=false:=beq_eq_false_iff_ne.2 (by omega)
  clear h
  go_enter Tryz.func176, Tryz.ntmps176
  go_wp2_with fail
  go_ret2
  exact⟨rfl,rfl⟩
 ·have hc:op=7∨op=8∨op=9∨op=10∨op=11∨op=12∨op=13∨op=14∨op=15∨op=16∨op=17∨op=18∨op=19∨op=20:=by omega
  clear h
  rcases hc with rfl | rfl | rfl | rfl | rfl | rfl | rfl | rfl | rfl | rfl | rfl | rfl | rfl | rfl
  all_goals
   go_enter Tryz.func176, Tryz.ntmps176
   go_wp2_with fail
   go_ret2
   exact⟨rfl,rfl⟩
set_option maxRecDepth 100000 in
set_option maxHeartbeats 2000000 in
theorem prefix09_any (op:Int) (w:World):Calls Tryz.prog 178 #[.int .i64 op] w fun e w'=>e=.returned (.string (preS op))∧w'=w:=by
 unfold preS
 by_cases h4:op=4
 ·subst h4
  go_enter Tryz.func178, Tryz.ntmps178
  go_wp2_with fail
  go_ret
  exact⟨rfl,rfl⟩
 have d4:(op == 4)=false:=by simpa using h4
 rw[if_neg h4]
 by_cases h5:op=5
 ·subst h5
  go_enter Tryz.func178, Tryz.ntmps178
  go_wp2_with fail
  go_ret
  exact⟨rfl,rfl⟩
 have d5:(op == 5)=false:=by simpa using h5
 rw[if_neg h5]
 by_cases h6:op=6
 ·subst h6
  go_enter Tryz.func178, Tryz.ntmps178
  go_wp2_with fail
  go_ret
  exact⟨rfl,rfl⟩
 have d6:(op == 6)=false:=by simpa using h6
 rw[if_neg h6]
 go_enter Tryz.func178, Tryz.ntmps178
 go_wp2_with fail
 go_ret
 exact⟨rfl,rfl⟩
set_option maxRecDepth 100000 in
set_option maxHeartbeats 4000000 in
theorem level09_any (op:Int) (w:World):Calls Tryz.prog 223 #[.int .i64 op] w fun e w'=>e=.returned (.int .i64 (levS op))∧w'=w:=by
 have HS:=Lib.hid (sign_any op w)
 have HPr:=Lib.hid (prefix09_any op w)
 by_cases h:op < 7∨20 < op
 ·obtain⟨h1,h2⟩:=sgn_none h
  rw[h1,h2] at HS
  by_cases h21:op=21
  ·subst h21
   have:levS 21=2:=rfl
   rw[this]
   go_enter Tryz.func223, Tryz.ntmps223
   go_wp2_with fail
   refine HS.out.mono ?_
   rintro e w1 ⟨rfl,rfl⟩
   go_wp2_with fail
   go_ret
   exact⟨rfl,rfl⟩
  have d21:(op == 21)=false:=by simpa using h21
  have hl:levS op=if op=22 then 1 else if op=23 then 9 else if op=4∨op=5∨op=6 then 13 else 14:=by unfold levS;rw[binS_none (by omega)]
  rw[hl]
  clear hl h21 h1 h2
  by_cases h22:op=22
  ·subst h22
   go_enter Tryz.func223, Tryz.ntmps223
   go_wp2_with fail
   refine HS.out.mono ?_
   rintro e w1 ⟨rfl,rfl⟩
   go_wp2_with fail
   go_ret
   exact⟨rfl,rfl⟩
  have d22:(op == 22)=false:=by simpa using h22
  rw[if_neg h22]
  by_cases h23:op=23
  ·subst h23
   go_enter Tryz.func223, Tryz.ntmps223
   go_wp2_with fail
   refine HS.out.mono ?_
   rintro e w1 ⟨rfl,rfl⟩
   go_wp2_with fail
   go_ret
   exact⟨rfl,rfl⟩
  have d23:(op == 23)=false:=by simpa using h23
  rw[if_neg h23]
  clear h22 h23
  by_cases h456:op=4∨op=5∨op=6
  ·rw[if_pos h456]
   have hne:(preS op).toList.isEmpty=false:=by
    rcases h456 with rfl | rfl | rfl<;>(rw[ByteArray.toList_eq];rfl)
   generalize preS op=ps at HPr hne
   clear h h456
   go_enter Tryz.func223, Tryz.ntmps223
   go_wp2_with fail
   refine HS.out.mono ?_
   rintro e w1 ⟨rfl,rfl⟩
   go_wp2_with fail
   refine HPr.out.mono ?_
   rintro e w1 ⟨rfl,rfl⟩
   go_wp2_with fail
   go_ret
   exact⟨rfl,rfl⟩
  ·rw[if_neg h456]
   have hpe:preS op=.empty:=by
    unfold preS
    rw[if_neg (fun e=>h456 (Or.inl e)),if_neg (fun e=>h456 (Or.inr (Or.inl e))),if_neg (fun e=>h456 (Or.inr (Or.inr e)))]
   rw[hpe] at HPr
   clear h h456 hpe
   go_enter Tryz.func223, Tryz.ntmps223
   go_wp2_with fail
   refine HS.out.mono ?_
   rintro e w1 ⟨rfl,rfl⟩
   go_wp2_with fail
   refine HPr.out.mono ?_
   rintro e w1 ⟨rfl,rfl⟩
   go_wp2_with fail
   go_ret
   exact⟨rfl,rfl⟩
 ·obtain⟨m,o,l,hb⟩:=binS_some (op:=op) (by omega) (by omega)
  obtain⟨hl2,hl12⟩:=binS_level hb
  have e1:sgnL op=l:=by unfold sgnL binG;rw[if_neg (by omega),hb];rfl
  have e2:levS op=l:=by unfold levS;rw[hb]
  rw[e1] at HS
  rw[e2]
  generalize sgnM op=sm at HS
  have hd:decide ((0:Int) < l)=true:=decide_eq_true (by omega)
  clear hb e1 e2 h
  go_enter Tryz.func223, Tryz.ntmps223
  go_wp2_with fail
  refine HS.out.mono ?_
  rintro e w1 ⟨rfl,rfl⟩
  go_wp2_with fail
  go_ret
  exact⟨rfl,rfl⟩
end Go.Proofs.YtcplmcjbkpmhdaaGreatDoor
