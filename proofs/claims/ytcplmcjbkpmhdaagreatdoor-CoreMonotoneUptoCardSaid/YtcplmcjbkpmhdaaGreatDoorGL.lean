/- law25's awake: plain facts of its problem. -/
import Derived.Test.YtcplmcjbkpmhdaaGreatDoorGA
import Derived.Test.YtcplmcjbkpmhdaaGreatDoorSH
import Derived.Test.YtcplmcjbkpmhdaaGreatDoorGC
import Derived.Test.YtcplmcjbkpmhdaaGreatDoorGJ
import Derived.Test.YtcplmcjbkpmhdaaGreatDoorGG
import Derived.Laws.ResultCell
set_option linter.unusedSimpArgs false
set_option linter.unusedVariables false
set_option linter.unnecessarySimpa false
namespace Go.Proofs.YtcplmcjbkpmhdaaGreatDoor
open Go.RowKit
def vC:List VarD:=[⟨⟨#[97]⟩,3,1,0⟩,⟨⟨#[98]⟩,1,1,0⟩]
def q1 (op:Int) (s:ByteArray) (n:Int):Ex:=.mk op 0 ⟨#[]⟩ [vE s,cE n]
theorem nodes_q1 (op:Int) (s:ByteArray) (n:Int):(q1 op s n).nodes=[q1 op s n,vE s,cE n]:=by
 rw[Ex.nodes_eq]
 simp[q1,Ex.args_mk,nodes_leaf,vE,cE]
theorem valid_q1 {op:Int} {s:ByteArray} {n:Int} (h:firstE [q1 op s n,vE s,cE n]=0):validS (q1 op s n)=0:=by
 unfold validS
 rw[nodes_q1,h,if_neg]
 rintro ⟨_,h | h⟩
 ·rw[Ex.depth_eq] at h
  simp[q1,vE,cE,Ex.args_mk,Ex.depth_eq] at h
 ·simp at h
theorem expr_q1 {op:Int} {s:ByteArray} {n:Int} (ho:op=15∨op=17) (hs:s=⟨#[97]⟩∨s=⟨#[98]⟩) (hf:firstE [q1 op s n,vE s,cE n]=0):ExprOk vC (q1 op s n):=by
 refine⟨valid_q1 hf,?_,?_⟩
 ·rw[nodes_q1]
  rcases ho with rfl | rfl<;>simp[arrN,q1,vE,cE,Ex.op_mk]
 ·rw[nodes_q1]
  rcases ho with rfl | rfl<;>rcases hs with rfl | rfl<;>simp[forN,q1,vE,cE,vC,findV,Ex.op_mk,Ex.name_mk,ByteArray.toList_eq]
theorem names_q1 {op:Int} (s:ByteArray) (n:Int) (ho:op=15∨op=17):namesS [2] (q1 op s n)=[s]∧namesS [3,24] (q1 op s n)=[]:=by
 have h1:Lib.idxOfS [] s=-1:=by rfl
 unfold namesS
 rw[nodes_q1]
 rcases ho with rfl | rfl<;>simp[addName,q1,vE,cE,Lib.containsS,Ex.op_mk,Ex.name_mk,h1]
def q2 (op:Int) (s:ByteArray) (n:Int):Ex:=.mk op 0 ⟨#[]⟩ [cE n,vE s]
theorem nodes_q2 (op:Int) (s:ByteArray) (n:Int):(q2 op s n).nodes=[q2 op s n,cE n,vE s]:=by
 rw[Ex.nodes_eq]
 simp[q2,Ex.args_mk,nodes_leaf,vE,cE]
theorem valid_q2 {op:Int} {s:ByteArray} {n:Int} (h:firstE [q2 op s n,cE n,vE s]=0):validS (q2 op s n)=0:=by
 unfold validS
 rw[nodes_q2,h,if_neg]
 rintro ⟨_,h | h⟩
 ·rw[Ex.depth_eq] at h
  simp[q2,vE,cE,Ex.args_mk,Ex.depth_eq] at h
 ·simp at h
theorem expr_q2 {op:Int} {s:ByteArray} {n:Int} (ho:op=15∨op=17) (hs:s=⟨#[97]⟩∨s=⟨#[98]⟩) (hf:firstE [q2 op s n,cE n,vE s]=0):ExprOk vC (q2 op s n):=by
 refine⟨valid_q2 hf,?_,?_⟩
 ·rw[nodes_q2]
  rcases ho with rfl | rfl<;>simp[arrN,q2,vE,cE,Ex.op_mk]
 ·rw[nodes_q2]
  rcases ho with rfl | rfl<;>rcases hs with rfl | rfl<;>simp[forN,q2,vE,cE,vC,findV,Ex.op_mk,Ex.name_mk,ByteArray.toList_eq]
theorem names_q2 {op:Int} (s:ByteArray) (n:Int) (ho:op=15∨op=17):namesS [2] (q2 op s n)=[s]∧namesS [3,24] (q2 op s n)=[]:=by
 have h1:Lib.idxOfS [] s=-1:=by rfl
 unfold namesS
 rw[nodes_q2]
 rcases ho with rfl | rfl<;>simp[addName,q2,vE,cE,Lib.containsS,Ex.op_mk,Ex.name_mk,h1]
theorem val_q1 {op:Int} (s:ByteArray) (n:Int) (ho:op=15∨op=17) (env:List (ByteArray × Int)):valueS env (q1 op s n)=operateS op [(findS env s).getD 0,n]:=by
 rw[valueS_eq]
 rcases ho with rfl | rfl<;>simp[q1,vE,cE,valueS_eq,Ex.op_mk,Ex.n_mk,Ex.name_mk,Ex.args_mk]
theorem val_q2 {op:Int} (s:ByteArray) (n:Int) (ho:op=15∨op=17) (env:List (ByteArray × Int)):valueS env (q2 op s n)=operateS op [n,(findS env s).getD 0]:=by
 rw[valueS_eq]
 rcases ho with rfl | rfl<;>simp[q2,vE,cE,valueS_eq,Ex.op_mk,Ex.n_mk,Ex.name_mk,Ex.args_mk]
def eC4:List Ex:=[q1 17 ⟨#[97]⟩ 3,q1 15 ⟨#[98]⟩ 1,q2 17 ⟨#[97]⟩ 5,q1 15 ⟨#[97]⟩ 7]
def pC:ProbD:=⟨vC,eC4,[],[],[[0,1]]⟩
theorem vC_ok:VarsOk vC:=by
 refine⟨by decide,?_,?_,?_,by decide⟩
 ·intro i h
  rcases i with _ | _ | i
  ·show varOkB ⟨⟨#[97]⟩,3,1,0⟩=true
   decide
  ·show varOkB ⟨⟨#[98]⟩,1,1,0⟩=true
   decide
  ·have:i+1+1 < 2:=h
   omega
 ·rintro i hi ⟨hi2,j,hj,he⟩
  have:i < 2:=hi
  obtain rfl:i=1:=by omega
  obtain rfl:j=0:=by omega
  simp[vC,ByteArray.toList_eq] at he
 ·rintro ⟨v,hv,A,n,h1,h2,h3,_⟩
  rw[toList_eq_iff] at h3
  have h4:=congrArg List.length h3
  have h5:v.name.data.toList.length=1:=by
   simp[vC] at hv
   rcases hv with rfl | rfl<;>rfl
  rw[h5] at h4
  simp[elName] at h4
theorem eC4_ok (i:Nat) (h:i < eC4.length):ExprOk vC (eC4[i]'h):=by
 rcases i with _ | _ | _ | _ | i
 ·exact expr_q1 (Or.inr rfl) (Or.inl rfl) (by decide)
 ·exact expr_q1 (Or.inl rfl) (Or.inr rfl) (by decide)
 ·exact expr_q2 (Or.inr rfl) (Or.inl rfl) (by decide)
 ·exact expr_q1 (Or.inl rfl) (Or.inl rfl) (by decide)
 ·have:i+1+1+1+1 < 4:=h
  omega
theorem groupsC_ok:GroupsOk vC [[0,1]]:=by
 refine⟨?_,?_,?_⟩
 ·intro g hg;simp at hg;subst hg;simp
 ·intro g hg v hv
  simp at hg;subst hg
  simp at hv
  rcases hv with rfl | rfl<;>decide
 ·intro i h
  rcases i with _ | _ | i
  ·rfl
  ·rfl
  ·have:i+1+1 < 2:=h
   omega
theorem pC_ok:ProbOk pC:=⟨vC_ok,eC4_ok,fun i h=>absurd h (by simp[pC]),fun i h=>absurd h (by simp[pC]),groupsC_ok⟩
theorem tot_vC:totN vC=16:=by decide
theorem nth_vC (k:Nat):nthN vC k=[((k / 2 % 8:Nat):Int),((k % 2:Nat):Int)]:=by
 show [digN _ (k / 2),digN _ (k / 1)]=_
 rw[Nat.div_one]
 rfl
def envC (k:Nat):List (ByteArray × Int):=[(⟨#[97]⟩,((k / 2 % 8:Nat):Int)),(⟨#[98]⟩,((k % 2:Nat):Int))]
theorem env_vC (k:Nat):envS vC (nthN vC k)=envC k:=by rw[nth_vC];rfl
theorem find_a (k:Nat):findS (envC k) ⟨#[97]⟩=some (wrapW ((k / 2 % 8:Nat):Int)):=by simp[findS,envC]
theorem find_b (k:Nat):findS (envC k) ⟨#[98]⟩=some (wrapW ((k % 2:Nat):Int)):=by simp[findS,envC,ByteArray.toList_eq]
theorem eval_C {e:Ex} {s:ByteArray} (k:Nat) (hv:validS e=0) (hn:namesS [2] e=[s]∧namesS [3,24] e=[]) (hs:s=⟨#[97]⟩∨s=⟨#[98]⟩):evalS (envC k) e=(valueS (envC k) e,0):=by
 unfold evalS
 rw[hv,if_neg (by simp),if_neg]
 unfold knownS
 rw[hn.1,hn.2]
 rcases hs with rfl | rfl
 ·simp[find_a]
 ·simp[find_b]
def cB (k i:Nat):Bool:=match i with
 | 0=>operateS 17 [wrapW ((k / 2 % 8:Nat):Int),3] != 0
 | 1=>operateS 15 [wrapW ((k % 2:Nat):Int),1] != 0
 | 2=>operateS 17 [5,wrapW ((k / 2 % 8:Nat):Int)] != 0
 | _=>operateS 15 [wrapW ((k / 2 % 8:Nat):Int),7] != 0
theorem hold_C (k i:Nat) (h:i < eC4.length):((evalS (envC k) (eC4[i]'h)).1 != 0)=cB k i:=by
 rcases i with _ | _ | _ | _ | i
 ·show ((evalS (envC k) (q1 17 ⟨#[97]⟩ 3)).1 != 0)=_
  rw[eval_C k (valid_q1 (by decide)) (names_q1 _ _ (Or.inr rfl)) (Or.inl rfl),val_q1 _ _ (Or.inr rfl),find_a];rfl
 ·show ((evalS (envC k) (q1 15 ⟨#[98]⟩ 1)).1 != 0)=_
  rw[eval_C k (valid_q1 (by decide)) (names_q1 _ _ (Or.inl rfl)) (Or.inr rfl),val_q1 _ _ (Or.inl rfl),find_b];rfl
 ·show ((evalS (envC k) (q2 17 ⟨#[97]⟩ 5)).1 != 0)=_
  rw[eval_C k (valid_q2 (by decide)) (names_q2 _ _ (Or.inr rfl)) (Or.inl rfl),val_q2 _ _ (Or.inr rfl),find_a];rfl
 ·show ((evalS (envC k) (q1 15 ⟨#[97]⟩ 7)).1 != 0)=_
  rw[eval_C k (valid_q1 (by decide)) (names_q1 _ _ (Or.inl rfl)) (Or.inl rfl),val_q1 _ _ (Or.inl rfl),find_a];rfl
 ·have:i+1+1+1+1 < 4:=h
  omega
theorem hit_C {l:List Nat} (hl:∀ i,i∈l→i < 4) (k:Nat):hitN vC (pickL pC l) k=l.all (cB k):=by
 unfold hitN allS
 rw[env_vC]
 induction l with
 | nil=>rfl
 | cons i l ih =>
  have hi:i < eC4.length:=hl i (by simp)
  have e:pickL pC (i::l)=(eC4[i]'hi)::pickL pC l:=by
   unfold pickL
   rw[List.filterMap_cons,show pC.hard[i]? = some (eC4[i]'hi) from List.getElem?_eq_getElem hi]
  rw[e,List.all_cons,List.all_cons,ih fun j hj=>hl j (by simp[hj]),hold_C]
def tC (l:List Nat):Bool:=(List.range 16).all fun k=>!l.all (cB k)
theorem con_C {l:List Nat} (hl:∀ i,i∈l→i < 4):conT pC l=tC l:=by
 unfold conT tC
 have hs:suppsE pC=[]:=rfl
 unfold chosL
 rw[hs,List.nil_append]
 cases e:(List.range 16).all fun k=>!l.all (cB k) with
 | true =>
  have:solvB vC (pickL pC l)=false:=pB_false (by
   rintro ⟨k,hk,h⟩
   rw[hit_C hl] at h
   rw[tot_vC] at hk
   have:=List.all_eq_true.1 e k (List.mem_range.2 hk)
   rw[h] at this
   simp at this)
  show (!solvB vC (pickL pC l))=true
  rw[this]
  rfl
 | false =>
  have:solvB vC (pickL pC l)=true:=by
   obtain⟨k,hk,h⟩:=List.all_eq_false.1 e
   refine pB_true ⟨k,by rw[tot_vC];exact List.mem_range.1 hk,?_⟩
   rw[hit_C hl]
   simpa using h
  show (!solvB vC (pickL pC l))=false
  rw[this]
  rfl
theorem withinL_congr {T T':List Nat→Bool}:∀ k l,(∀ a:List Nat,a.Sublist l→T a=T' a)→withinL T k l=withinL T' k l:=by
 intro k
 induction k with
 | zero=>intro l _;rfl
 | succ k ih =>
  intro l h
  rw[withinL,withinL,h _ (List.eraseIdx_sublist ..)]
  split
  ·exact ih _ fun a ha=>h a (ha.trans (List.eraseIdx_sublist ..))
  ·exact ih _ h
theorem sub4 {a:List Nat} (h:a.Sublist (List.range 4)):∀ i,i∈a→i < 4:=fun i hi=>List.mem_range.1 (h.subset hi)
theorem core_C {l:List Nat} (h:l.Sublist (List.range 4)):coreW pC l=withinL tC l.length l:=withinL_congr _ _ fun a ha=>con_C (sub4 (ha.trans h))
theorem conAll_C:conT pC (allL pC)=true:=(con_C (sub4 (List.Sublist.refl _))).trans (by decide)
theorem coreL_C:coreL pC=[0,2]:=by
 unfold coreL
 rw[if_pos (pB_true pC_ok),if_pos conAll_C,core_C (l:=allL pC) (show (allL pC).Sublist (List.range 4) from List.Sublist.refl _)]
 decide
theorem coreE_C:coreE pC=0:=by
 unfold coreE
 rw[if_pos (pB_true pC_ok),if_pos conAll_C]
theorem stepC_congr {T T':List Nat→Bool} {n most:Nat} {out:List (List Nat)} {x:Nat} (h:∀ a:List Nat,a.Sublist (List.range n)→T a=T' a):stepC T n most out x=stepC T' n most out x:=by
 unfold stepC
 rw[h _ (List.eraseIdx_sublist ..),withinL_congr _ _ fun a ha=>h a (ha.trans (List.eraseIdx_sublist ..))]
theorem foldC_congr {T T':List Nat→Bool} {n most:Nat} (h:∀ a:List Nat,a.Sublist (List.range n)→T a=T' a):∀ (l:List Nat) (out:List (List Nat)),foldC T n most out l=foldC T' n most out l:=by
 intro l
 induction l with
 | nil=>intro out;rfl
 | cons x t ih=>intro out;show foldC T n most (stepC T n most out x) t=foldC T' n most (stepC T' n most out x) t;rw[stepC_congr h,ih]
theorem outC_congr {T T':List Nat→Bool} {n most:Nat} {first:List Nat} (h:∀ a:List Nat,a.Sublist (List.range n)→T a=T' a):∀ i,outC T n most first i=outC T' n most first i:=by
 intro i
 induction i with
 | zero=>rfl
 | succ i ih=>rw[outC,outC,ih,foldC_congr h]
theorem cors_C:corsL pC 9=[[0,2],[0,3]]:=by
 unfold corsL coresS
 rw[if_pos ⟨pB_true pC_ok,by decide,by decide⟩,if_pos conAll_C,core_C (l:=allL pC) (show (allL pC).Sublist (List.range 4) from List.Sublist.refl _),outC_congr (T:=conT pC) (T':=tC) (n:=pC.hard.length) fun a ha=>con_C (sub4 ha)]
 decide
theorem corsE_C:corsE pC 9=0:=by
 unfold corsE
 rw[if_pos ⟨pB_true pC_ok,by decide,by decide⟩,if_pos conAll_C]
theorem bits_pC:bitsTo vC vC.length≤10:=by decide
end Go.Proofs.YtcplmcjbkpmhdaaGreatDoor
namespace Go.Proofs.YtcplmcjbkpmhdaaGreatDoor
open Go.RowKit
attribute [local go_sem ↓] Go.wp_at_zero Go.wp_at_succ
set_option maxHeartbeats 1000000 in
theorem cmp25_any (op n:Int) (s:ByteArray) (hs:s.size≤1073741824) (w:World):Calls Tryz.prog 57 #[.int .i64 op,.string s,.int .i64 n] w fun e w'=>∃ a c,e=.returned (.agg #[.int .i64 op,.int .i64 0,.string ⟨#[]⟩,.slice a 2 c])∧ExOn (w.heap.size≤·) w' (q1 op s n) a c∧Below w.heap.size w w':=by
 go_enter Tryz.func57, Tryz.ntmps57
 go_wp2_with fail
 have hk:((w.alloc (.cells #[.int .i64 op,.int .i64 0,.string ⟨#[]⟩,.slice (some ⟨w.heap.size+1,0,none⟩) 2 2] 55)).alloc (.cells #[.int .i64 2,.int .i64 0,.string s,.slice none 0 0,.int .i64 1,.int .i64 n,.string ⟨#[]⟩,.slice none 0 0] 55)).heap[w.heap.size]? = some (.cells #[.int .i64 op,.int .i64 0,.string ⟨#[]⟩,.slice (some ⟨w.heap.size+1,0,none⟩) 2 2] 55 (0,0)):=(Below.heap_alloc _ _ _ (by simp)).trans (heap_alloc_new' _ _)
 have h:=exOn_pair (S:=(w.heap.size≤·)) (w:=w.alloc (.cells #[.int .i64 op,.int .i64 0,.string ⟨#[]⟩,.slice (some ⟨w.heap.size+1,0,none⟩) 2 2] 55)) (e:=vE s) (x:=cE n) (exOn_leaf _ _ 2 0 s hs) (exOn_leaf _ _ 1 n ⟨#[]⟩ (by decide)) (by simp)
 simp only[World.size_alloc] at h
 have h:ExOn (w.heap.size≤·) ((w.alloc (.cells #[.int .i64 op,.int .i64 0,.string ⟨#[]⟩,.slice (some ⟨w.heap.size+1,0,none⟩) 2 2] 55)).alloc (.cells #[.int .i64 2,.int .i64 0,.string s,.slice none 0 0,.int .i64 1,.int .i64 n,.string ⟨#[]⟩,.slice none 0 0] 55)) (eE (vE s) (cE n)) (some ⟨w.heap.size+1,0,none⟩) 2:=h
 have HB:Below w.heap.size w ((w.alloc (.cells #[.int .i64 op,.int .i64 0,.string ⟨#[]⟩,.slice (some ⟨w.heap.size+1,0,none⟩) 2 2] 55)).alloc (.cells #[.int .i64 2,.int .i64 0,.string s,.slice none 0 0,.int .i64 1,.int .i64 n,.string ⟨#[]⟩,.slice none 0 0] 55)):=bel
 generalize ((w.alloc (.cells #[.int .i64 op,.int .i64 0,.string ⟨#[]⟩,.slice (some ⟨w.heap.size+1,0,none⟩) 2 2] 55)).alloc (.cells #[.int .i64 2,.int .i64 0,.string s,.slice none 0 0,.int .i64 1,.int .i64 n,.string ⟨#[]⟩,.slice none 0 0] 55))=WA at hk h HB⊢
 refine bodyPost_ret (v:=.agg #[.int .i64 op,.int .i64 0,.string ⟨#[]⟩,.slice (some ⟨w.heap.size+1,0,none⟩) 2 2]) (by simp[results, Tryz.results57,World.cell?,hk,go_sem]) rfl ?_
 exact⟨some ⟨w.heap.size+1,0,none⟩,2,rfl,fun w' hw=>⟨(show (⟨#[]⟩:ByteArray).size≤1073741824 by decide),(h w' hw).2⟩,HB⟩
theorem fmt_3:fmtS 3=⟨#[51]⟩:=by kernel_rfl
theorem fmt_5:fmtS 5=⟨#[53]⟩:=by kernel_rfl
theorem text_q1C {B:Nat} {w0:World}:TextC B w0 (q1 17 ⟨#[97]⟩ 3) ⟨#[97,32,60,32,51]⟩:=by
 have h1:AtC B w0 (vE ⟨#[97]⟩) (lftL 9) ⟨#[97]⟩:=at_of (text_var 0 ⟨#[97]⟩ [] (by decide)) (by decide) _
 have h2:AtC B w0 (cE 3) (rgtL 9) ⟨#[51]⟩:=at_of (by have:=text_const (B:=B) (w0:=w0) 3 .empty [] (fmt_small B w0 3 (by omega));rw[fmt_3] at this;exact this) (by decide) _
 exact text_bin 17 0 .empty (m:=⟨#[60]⟩) (o:=17) (l:=9) rfl h1 h2 (by decide) (by decide)
theorem text_q2C {B:Nat} {w0:World}:TextC B w0 (q2 17 ⟨#[97]⟩ 5) ⟨#[53,32,60,32,97]⟩:=by
 have h1:AtC B w0 (cE 5) (lftL 9) ⟨#[53]⟩:=at_of (by have:=text_const (B:=B) (w0:=w0) 5 .empty [] (fmt_small B w0 5 (by omega));rw[fmt_5] at this;exact this) (by decide) _
 have h2:AtC B w0 (vE ⟨#[97]⟩) (rgtL 9) ⟨#[97]⟩:=at_of (text_var 0 ⟨#[97]⟩ [] (by decide)) (by decide) _
 exact text_bin 17 0 .empty (m:=⟨#[60]⟩) (o:=17) (l:=9) rfl h1 h2 (by decide) (by decide)
theorem tx_q1C:textS (q1 17 ⟨#[97]⟩ 3)=⟨#[97,32,60,32,51]⟩:=by
 show textS (.mk 17 0 ⟨#[]⟩ [vE ⟨#[97]⟩,cE 3])=_
 rw[tS_bin 17 0 ⟨#[]⟩ (vE ⟨#[97]⟩) (cE 3) (m:=⟨#[60]⟩) (o:=17) (l:=9) rfl,show textS (vE ⟨#[97]⟩)=⟨#[97]⟩ from (tS_var _ _ _).trans (by kernel_rfl),show textS (cE 3)=fmtS 3 from tS_con _ _ _,fmt_3]
 kernel_rfl
theorem tx_q2C:textS (q2 17 ⟨#[97]⟩ 5)=⟨#[53,32,60,32,97]⟩:=by
 show textS (.mk 17 0 ⟨#[]⟩ [cE 5,vE ⟨#[97]⟩])=_
 rw[tS_bin 17 0 ⟨#[]⟩ (cE 5) (vE ⟨#[97]⟩) (m:=⟨#[60]⟩) (o:=17) (l:=9) rfl,show textS (vE ⟨#[97]⟩)=⟨#[97]⟩ from (tS_var _ _ _).trans (by kernel_rfl),show textS (cE 5)=fmtS 5 from tS_con _ _ _,fmt_5]
 kernel_rfl
theorem expl_C:explS pC=⟨#[97,32,60,32,51,10,53,32,60,32,97,10]⟩:=by
 unfold explS
 rw[coreL_C]
 show (⟨#[]⟩++lineC pC 0)++lineC pC 2=_
 rw[lineC_at (p:=pC) (i:=0) (by decide),lineC_at (p:=pC) (i:=2) (by decide),show pC.hard[0]'(by decide)=q1 17 ⟨#[97]⟩ 3 from rfl,show pC.hard[2]'(by decide)=q2 17 ⟨#[97]⟩ 5 from rfl,tx_q1C,tx_q2C]
 kernel_rfl
theorem pr_C {w:World} (hG:Glob w) (i:Nat) (h:i < pC.hard.length) (hi:i∈coreL pC):PrintC w.heap.size w (pC.hard[i]'h) (textS (pC.hard[i]'h))∧(textS (pC.hard[i]'h)).size≤1099511627776:=by
 have hGb:∀ W,Below w.heap.size w W→Glob W:=fun W hW=>hG.below hW
 rw[coreL_C] at hi
 simp only[List.mem_cons,List.not_mem_nil,or_false] at hi
 rcases hi with rfl | rfl
 ·show PrintC _ _ (q1 17 ⟨#[97]⟩ 3) (textS (q1 17 ⟨#[97]⟩ 3))∧(textS (q1 17 ⟨#[97]⟩ 3)).size≤_
  rw[tx_q1C]
  exact⟨print_of text_q1C (valid_q1 (by decide)) (by rw[nodes_q1];decide) hGb,by decide⟩
 ·show PrintC _ _ (q2 17 ⟨#[97]⟩ 5) (textS (q2 17 ⟨#[97]⟩ 5))∧(textS (q2 17 ⟨#[97]⟩ 5)).size≤_
  rw[tx_q2C]
  exact⟨print_of text_q2C (valid_q2 (by decide)) (by rw[nodes_q2];decide) hGb,by decide⟩
theorem exs_blkC {W:World} {b:Nat} {l:List Ex} {xs:List Value} (hb:W.heap[b]? = some (.cells xs.toArray 55 (0,0))) (hr:ExRow W l xs) (hn:l.length≤1000):ExsIn W l (some ⟨b,0,none⟩) l.length:=by
 have ho:W.ownsRow 0 55 4 (.slice (some ⟨b,0,none⟩) l.length l.length) l.length xs:=⟨hr.1,Or.inr ⟨b,l.length,_,rfl,Nat.zero_le _,hb,Nat.le_refl _,by unfold maxLen;omega,by simpa using hr.1,by simp only[];exact List.take_of_length_le (by have:=hr.1;omega)⟩⟩
 obtain⟨a,c,hv,hE⟩:=exs_of_own ho hr (by omega)
 injection hv with e1 e2 e3
 subst e1 e3
 exact hE
theorem row1C {W:World} {e:Ex} {a:Option Addr} {c:Nat} (h:ExIn W e a c):ExRow W [e] [.int .i64 e.op,.int .i64 e.n,.string e.name,.slice a e.args.length c]:=by
 refine⟨rfl,fun i hi=>?_⟩
 have hi':i=0:=by simp at hi;exact hi
 subst hi'
 exact⟨a,c,rfl,rfl,rfl,rfl,h⟩
theorem ints2C {W:World} {b:Nat} {m n:Int} (h:W.heap[b]? = some (.cells #[.int .i64 m,.int .i64 n] 3 (0,0))):IntsIn W [m,n] (some ⟨b,0,none⟩) 2:=by
 refine⟨by simp,by simp,Or.inr ⟨b,0,rfl,fun i hi=>?_⟩⟩
 have hc:=cell_of_blk h
 rcases i with _ | _ | i
 ·exact⟨_,rfl,by rw[hc];rfl⟩
 ·exact⟨_,rfl,by rw[hc];rfl⟩
 ·exact absurd hi (by simp)
def xC (bv bh bg:Nat):ProbA:=⟨some ⟨bv,0,none⟩,2,some ⟨bh,0,none⟩,4,none,0,none,0,some ⟨bg,0,none⟩,1⟩
structure CBlk (W:World) (bv bi bg bh:Nat) (s0 s1 s2 s3:Option Addr) (k0 k1 k2 k3:Nat):Prop where
 hv:W.heap[bv]? = some (.cells #[.string ⟨#[97]⟩,.int .i64 3,.int .i64 1,.int .i64 0,.string ⟨#[98]⟩,.int .i64 1,.int .i64 1,.int .i64 0] 70 (0,0))
 hi:W.heap[bi]? = some (.cells #[.int .i64 0,.int .i64 1] 3 (0,0))
 hg:W.heap[bg]? = some (.cells #[.slice (some ⟨bi,0,none⟩) 2 2] 30 (0,0))
 hh:W.heap[bh]? = some (.cells #[.int .i64 17,.int .i64 0,.string ⟨#[]⟩,.slice s0 2 k0,.int .i64 15,.int .i64 0,.string ⟨#[]⟩,.slice s1 2 k1,.int .i64 17,.int .i64 0,.string ⟨#[]⟩,.slice s2 2 k2,.int .i64 15,.int .i64 0,.string ⟨#[]⟩,.slice s3 2 k3] 55 (0,0))
 x0:ExIn W (q1 17 ⟨#[97]⟩ 3) s0 k0
 x1:ExIn W (q1 15 ⟨#[98]⟩ 1) s1 k1
 x2:ExIn W (q2 17 ⟨#[97]⟩ 5) s2 k2
 x3:ExIn W (q1 15 ⟨#[97]⟩ 7) s3 k3
theorem CBlk.prob {W:World} {bv bi bg bh:Nat} {s0 s1 s2 s3:Option Addr} {k0 k1 k2 k3:Nat} (h:CBlk W bv bi bg bh s0 s1 s2 s3 k0 k1 k2 k3):ProbIn W pC (xC bv bh bg):=by
 refine⟨?_,?_,⟨by simp[pC],by simp[pC],Or.inl rfl⟩,⟨by simp[pC],by simp[pC],Or.inl rfl⟩,?_⟩
 ·refine⟨by simp[pC,vC,xC],by simp[pC,vC],Or.inr ⟨bv,0,rfl,fun i hi=>?_⟩⟩
  have hc:=cell_of_blk h.hv
  rcases i with _ | _ | i
  ·exact⟨_,rfl,by rw[hc];rfl,by rw[hc];rfl,by rw[hc];rfl,by rw[hc];rfl,by decide⟩
  ·exact⟨_,rfl,by rw[hc];rfl,by rw[hc];rfl,by rw[hc];rfl,by rw[hc];rfl,by decide⟩
  ·exact absurd hi (by simp[pC,vC])
 ·have hr:=(row1C h.x0).append ((row1C h.x1).append ((row1C h.x2).append (row1C h.x3)))
  exact exs_blkC (W:=W) (b:=bh) (l:=eC4) (by exact h.hh) hr (by decide)
 ·refine⟨by simp[pC,xC],by simp[pC],Or.inr ⟨bg,0,rfl,fun i hi=>?_⟩⟩
  have hc:=cell_of_blk h.hg
  rcases i with _ | i
  ·exact⟨_,rfl,_,_,by rw[hc];rfl,ints2C h.hi⟩
  ·exact absurd hi (by simp[pC])
theorem pC_small:ProbSmall pC:=by
 refine⟨?_,?_,by simp[pC,eC4]⟩
 ·intro e he
  simp only[pC,eC4,List.mem_cons,List.not_mem_nil,or_false] at he
  rcases he with rfl | rfl | rfl | rfl
  ·rw[nodes_q1];simp
  ·rw[nodes_q1];simp
  ·rw[nodes_q2];simp
  ·rw[nodes_q1];simp
 ·intro e he;simp[pC] at he
theorem exOn_end {b B:Nat} {w W:World} {e:Ex} {a:Option Addr} {c:Nat} (h:ExOn (B≤·) w e a c) (hk:∀ p v,w.cell? p=some v→W.cell? p=some v) (v:Value) (hb:b < B):ExIn (W.setCell ⟨b,1,none⟩ v) e a c:=h _ fun p u hp hc=>by
 rw[World.cell?_of_block (Below.heap_setCell _ _ _ _ (show p.block≠b by omega))]
 exact hk p u hc
structure C0Blk (W:World) (b:Nat):Prop where
 hv:W.heap[b]? = some (.cells #[.string ⟨#[97]⟩,.int .i64 3,.int .i64 1,.int .i64 0,.string ⟨#[98]⟩,.int .i64 1,.int .i64 1,.int .i64 0] 70 (0,0))
 hi:W.heap[b+1]? = some (.cells #[.int .i64 0,.int .i64 1] 3 (0,0))
 hg:W.heap[b+1+1]? = some (.cells #[.slice (some ⟨b+1,0,none⟩) 2 2] 30 (0,0))
 hp:W.heap[b+1+1+1]? = some (.cells #[.slice (some ⟨b,0,none⟩) 2 2,.slice none 0 0,.slice none 0 0,.slice none 0 0,.slice (some ⟨b+1+1,0,none⟩) 1 1] 27 (0,0))
theorem C0Blk.below {W W':World} {b:Nat} (h:C0Blk W b) (hb:Below W.heap.size W W'):C0Blk W' b :=
 ⟨(hb.block _ (lt_of_block h.hv)).trans h.hv,(hb.block _ (lt_of_block h.hi)).trans h.hi,(hb.block _ (lt_of_block h.hg)).trans h.hg,(hb.block _ (lt_of_block h.hp)).trans h.hp⟩
theorem C0Blk.new (w:World):C0Blk ((((w.alloc (.cells #[.string ⟨#[97]⟩,.int .i64 3,.int .i64 1,.int .i64 0,.string ⟨#[98]⟩,.int .i64 1,.int .i64 1,.int .i64 0] 70)).alloc (.cells #[.int .i64 0,.int .i64 1] 3)).alloc (.cells #[.slice (some ⟨w.heap.size+1,0,none⟩) 2 2] 30)).alloc (.cells #[.slice (some ⟨w.heap.size,0,none⟩) 2 2,.slice none 0 0,.slice none 0 0,.slice none 0 0,.slice (some ⟨w.heap.size+1+1,0,none⟩) 1 1] 27)) w.heap.size:=by
 refine⟨?_,?_,?_,?_⟩
 all_goals (repeat (first | exact heap_alloc_at _ _ _ (by simp) | rw[Below.heap_alloc _ _ _ (by simp only[World.size_alloc];omega)]))
set_option maxRecDepth 100000 in
set_option maxHeartbeats 16000000 in
theorem awake25_any (w:World) (hG:Glob w) :
  Calls Tryz.prog 21 #[] w fun e w'=>e=.returned (.bool true)∧Below w.heap.size w w':=by
 have HG:=Lib.hid hG
 have HCm:=Lib.hid (fun op n s hs W=>cmp25_any op n s hs W)
 have HC00:=Lib.hid (C0Blk.new w)
 clear hG
 go_enter Tryz.func21, Tryz.ntmps21
 go_wp2_with fail
 generalize hW0:(((w.alloc (.cells #[.string ⟨#[97]⟩,.int .i64 3,.int .i64 1,.int .i64 0,.string ⟨#[98]⟩,.int .i64 1,.int .i64 1,.int .i64 0] 70)).alloc (.cells #[.int .i64 0,.int .i64 1] 3)).alloc (.cells #[.slice (some ⟨w.heap.size+1,0,none⟩) 2 2] 30)).alloc (.cells #[.slice (some ⟨w.heap.size,0,none⟩) 2 2,.slice none 0 0,.slice none 0 0,.slice none 0 0,.slice (some ⟨w.heap.size+1+1,0,none⟩) 1 1] 27)=W0 at HC00⊢
 have hz0:W0.heap.size=w.heap.size+4:=by rw[← hW0];simp
 have HB0:Hid (Below w.heap.size w W0):=by show Below _ _ _;rw[← hW0];exact bel
 clear hW0
 refine(HCm.out 17 3 ⟨#[97]⟩ (by decide) W0).mono ?_
 rintro e w1 ⟨s0,k0,rfl,hx,hb⟩
 have HX0:=Lib.hid hx
 have HB1:Hid (Below W0.heap.size W0 w1):=hb
 have hz1:=hb.size
 clear hx hb
 go_wp2_with fail
 refine(HCm.out 15 1 ⟨#[98]⟩ (by decide) w1).mono ?_
 rintro e w2 ⟨s1,k1,rfl,hx,hb⟩
 have HX1:=Lib.hid hx
 have HB2:Hid (Below w1.heap.size w1 w2):=hb
 have hz2:=hb.size
 clear hx hb
 go_wp2_with fail
 have hx2:=exOn_pair (S:=(w2.heap.size≤·)) (w:=w2) (e:=cE 5) (x:=vE ⟨#[97]⟩) (exOn_leaf _ _ 1 5 ⟨#[]⟩ (by decide)) (exOn_leaf _ _ 2 0 ⟨#[97]⟩ (by decide)) (Nat.le_refl _)
 have HX2:Hid (ExOn (w2.heap.size≤·) (w2.alloc (.cells #[.int .i64 1,.int .i64 5,.string ⟨#[]⟩,.slice none 0 0,.int .i64 2,.int .i64 0,.string ⟨#[97]⟩,.slice none 0 0] 55)) (q2 17 ⟨#[97]⟩ 5) (some ⟨w2.heap.size,0,none⟩) 2):=fun w' hw=>⟨(show (⟨#[]⟩:ByteArray).size≤1073741824 by decide),(hx2 w' hw).2⟩
 have HB3:Hid (Below w2.heap.size w2 (w2.alloc (.cells #[.int .i64 1,.int .i64 5,.string ⟨#[]⟩,.slice none 0 0,.int .i64 2,.int .i64 0,.string ⟨#[97]⟩,.slice none 0 0] 55))):=(Below.refl _ _).alloc (Nat.le_refl _) _
 clear hx2
 generalize w2.alloc (.cells #[.int .i64 1,.int .i64 5,.string ⟨#[]⟩,.slice none 0 0,.int .i64 2,.int .i64 0,.string ⟨#[97]⟩,.slice none 0 0] 55)=w3 at HX2 HB3⊢
 have hz3:=HB3.out.size
 refine(HCm.out 15 7 ⟨#[97]⟩ (by decide) w3).mono ?_
 rintro e w4 ⟨s3,k3,rfl,hx,hb⟩
 have HX3:=Lib.hid hx
 have HB4:Hid (Below w3.heap.size w3 w4):=hb
 have hz4:=hb.size
 have HC4:=Lib.hid ((((HC00.out.below HB1.out).below HB2.out).below HB3.out).below HB4.out)
 have hlt4:w.heap.size+1+1+1 < w4.heap.size:=by omega
 have hfz:∀ o,(w4.alloc o).frozen? ⟨w.heap.size+1+1+1,1,none⟩=false:=fun o=>(World.frozen?_alloc_old _ _ _ (Nat.ne_of_lt hlt4)).trans (Lib.frozen_of_heap HC4.out.hp 1)
 have hcz:∀ o,(w4.alloc o).cell? ⟨w.heap.size+1+1+1,1,none⟩=some (.slice none 0 0):=fun o=>(World.cell?_alloc_lt _ _ _ hlt4).trans (by rw[cell_of_blk HC4.out.hp 1];rfl)
 have HK5:Hid (((w4.setCell ⟨w.heap.size+1+1+1,1,none⟩ (.slice (some ⟨w4.heap.size,0,none⟩) 4 4)).alloc (.cells #[.int .i64 17,.int .i64 0,.string ⟨#[]⟩,.slice s0 2 k0,.int .i64 15,.int .i64 0,.string ⟨#[]⟩,.slice s1 2 k1,.int .i64 17,.int .i64 0,.string ⟨#[]⟩,.slice (some ⟨w2.heap.size,0,none⟩) 2 2,.int .i64 15,.int .i64 0,.string ⟨#[]⟩,.slice s3 2 k3] 55)).heap[w.heap.size+1+1+1]? = some (.cells #[.slice (some ⟨w.heap.size,0,none⟩) 2 2,.slice (some ⟨w4.heap.size,0,none⟩) 4 4,.slice none 0 0,.slice none 0 0,.slice (some ⟨w.heap.size+1+1,0,none⟩) 1 1] 27 (0,0))):=by
  show _=_
  refine(Below.heap_alloc _ _ _ (by simpa using hlt4)).trans ?_
  simp only[World.setCell,Array.getElem?_modify,if_pos,HC4.out.hp]
  rfl
 have p0:((w4.setCell ⟨w.heap.size+1+1+1,1,none⟩ (.slice (some ⟨w4.heap.size,0,none⟩) 4 4)).alloc (.cells #[.int .i64 17,.int .i64 0,.string ⟨#[]⟩,.slice s0 2 k0,.int .i64 15,.int .i64 0,.string ⟨#[]⟩,.slice s1 2 k1,.int .i64 17,.int .i64 0,.string ⟨#[]⟩,.slice (some ⟨w2.heap.size,0,none⟩) 2 2,.int .i64 15,.int .i64 0,.string ⟨#[]⟩,.slice s3 2 k3] 55)).cell? ⟨w.heap.size+1+1+1,0,none⟩=some (.slice (some ⟨w.heap.size,0,none⟩) 2 2):=by rw[cell_of_blk HK5.out 0];rfl
 have p1:((w4.setCell ⟨w.heap.size+1+1+1,1,none⟩ (.slice (some ⟨w4.heap.size,0,none⟩) 4 4)).alloc (.cells #[.int .i64 17,.int .i64 0,.string ⟨#[]⟩,.slice s0 2 k0,.int .i64 15,.int .i64 0,.string ⟨#[]⟩,.slice s1 2 k1,.int .i64 17,.int .i64 0,.string ⟨#[]⟩,.slice (some ⟨w2.heap.size,0,none⟩) 2 2,.int .i64 15,.int .i64 0,.string ⟨#[]⟩,.slice s3 2 k3] 55)).cell? ⟨w.heap.size+1+1+1,1,none⟩=some (.slice (some ⟨w4.heap.size,0,none⟩) 4 4):=by rw[cell_of_blk HK5.out 1];rfl
 have p2:((w4.setCell ⟨w.heap.size+1+1+1,1,none⟩ (.slice (some ⟨w4.heap.size,0,none⟩) 4 4)).alloc (.cells #[.int .i64 17,.int .i64 0,.string ⟨#[]⟩,.slice s0 2 k0,.int .i64 15,.int .i64 0,.string ⟨#[]⟩,.slice s1 2 k1,.int .i64 17,.int .i64 0,.string ⟨#[]⟩,.slice (some ⟨w2.heap.size,0,none⟩) 2 2,.int .i64 15,.int .i64 0,.string ⟨#[]⟩,.slice s3 2 k3] 55)).cell? ⟨w.heap.size+1+1+1,2,none⟩=some (.slice none 0 0):=by rw[cell_of_blk HK5.out 2];rfl
 have p3:((w4.setCell ⟨w.heap.size+1+1+1,1,none⟩ (.slice (some ⟨w4.heap.size,0,none⟩) 4 4)).alloc (.cells #[.int .i64 17,.int .i64 0,.string ⟨#[]⟩,.slice s0 2 k0,.int .i64 15,.int .i64 0,.string ⟨#[]⟩,.slice s1 2 k1,.int .i64 17,.int .i64 0,.string ⟨#[]⟩,.slice (some ⟨w2.heap.size,0,none⟩) 2 2,.int .i64 15,.int .i64 0,.string ⟨#[]⟩,.slice s3 2 k3] 55)).cell? ⟨w.heap.size+1+1+1,3,none⟩=some (.slice none 0 0):=by rw[cell_of_blk HK5.out 3];rfl
 have p4:((w4.setCell ⟨w.heap.size+1+1+1,1,none⟩ (.slice (some ⟨w4.heap.size,0,none⟩) 4 4)).alloc (.cells #[.int .i64 17,.int .i64 0,.string ⟨#[]⟩,.slice s0 2 k0,.int .i64 15,.int .i64 0,.string ⟨#[]⟩,.slice s1 2 k1,.int .i64 17,.int .i64 0,.string ⟨#[]⟩,.slice (some ⟨w2.heap.size,0,none⟩) 2 2,.int .i64 15,.int .i64 0,.string ⟨#[]⟩,.slice s3 2 k3] 55)).cell? ⟨w.heap.size+1+1+1,4,none⟩=some (.slice (some ⟨w.heap.size+1+1,0,none⟩) 1 1):=by rw[cell_of_blk HK5.out 4];rfl
 have hk5:=keeps_of_below ((Below.refl _ (w4.setCell ⟨w.heap.size+1+1+1,1,none⟩ (.slice (some ⟨w4.heap.size,0,none⟩) 4 4))).alloc (Nat.le_refl _) (.cells #[.int .i64 17,.int .i64 0,.string ⟨#[]⟩,.slice s0 2 k0,.int .i64 15,.int .i64 0,.string ⟨#[]⟩,.slice s1 2 k1,.int .i64 17,.int .i64 0,.string ⟨#[]⟩,.slice (some ⟨w2.heap.size,0,none⟩) 2 2,.int .i64 15,.int .i64 0,.string ⟨#[]⟩,.slice s3 2 k3] 55))
 have hk3:=keeps_of_below HB4.out
 have hk2:=keeps_of_below HB3.out
 have hk1:=keeps_of_below HB2.out
 have hbl:∀ k,k < w4.heap.size→k≠w.heap.size+1+1+1→((w4.setCell ⟨w.heap.size+1+1+1,1,none⟩ (.slice (some ⟨w4.heap.size,0,none⟩) 4 4)).alloc (.cells #[.int .i64 17,.int .i64 0,.string ⟨#[]⟩,.slice s0 2 k0,.int .i64 15,.int .i64 0,.string ⟨#[]⟩,.slice s1 2 k1,.int .i64 17,.int .i64 0,.string ⟨#[]⟩,.slice (some ⟨w2.heap.size,0,none⟩) 2 2,.int .i64 15,.int .i64 0,.string ⟨#[]⟩,.slice s3 2 k3] 55)).heap[k]? = w4.heap[k]?:=fun k h1 h2=>(Below.heap_alloc _ _ _ (by simpa using h1)).trans (Below.heap_setCell _ _ _ _ h2)
 have HQ5:Hid (CBlk ((w4.setCell ⟨w.heap.size+1+1+1,1,none⟩ (.slice (some ⟨w4.heap.size,0,none⟩) 4 4)).alloc (.cells #[.int .i64 17,.int .i64 0,.string ⟨#[]⟩,.slice s0 2 k0,.int .i64 15,.int .i64 0,.string ⟨#[]⟩,.slice s1 2 k1,.int .i64 17,.int .i64 0,.string ⟨#[]⟩,.slice (some ⟨w2.heap.size,0,none⟩) 2 2,.int .i64 15,.int .i64 0,.string ⟨#[]⟩,.slice s3 2 k3] 55)) w.heap.size (w.heap.size+1) (w.heap.size+1+1) w4.heap.size s0 s1 (some ⟨w2.heap.size,0,none⟩) s3 k0 k1 2 k3):=by
  refine⟨(hbl _ (by omega) (by omega)).trans HC4.out.hv,(hbl _ (by omega) (by omega)).trans HC4.out.hi,(hbl _ (by omega) (by omega)).trans HC4.out.hg,heap_alloc_at _ _ _ (by simp),?_,?_,?_,?_⟩
  ·exact(exOn_end HX0.out (fun p v h=>hk3 _ _ (hk2 _ _ (hk1 _ _ h))) _ (by omega)).keep hk5
  ·exact(exOn_end HX1.out (fun p v h=>hk3 _ _ (hk2 _ _ h)) _ (by omega)).keep hk5
  ·exact(exOn_end HX2.out (fun p v h=>hk3 _ _ h) _ (by omega)).keep hk5
  ·exact(exOn_end HX3.out (fun p v h=>h) _ (by omega)).keep hk5
 have HB5:Hid (Below w.heap.size w ((w4.setCell ⟨w.heap.size+1+1+1,1,none⟩ (.slice (some ⟨w4.heap.size,0,none⟩) 4 4)).alloc (.cells #[.int .i64 17,.int .i64 0,.string ⟨#[]⟩,.slice s0 2 k0,.int .i64 15,.int .i64 0,.string ⟨#[]⟩,.slice s1 2 k1,.int .i64 17,.int .i64 0,.string ⟨#[]⟩,.slice (some ⟨w2.heap.size,0,none⟩) 2 2,.int .i64 15,.int .i64 0,.string ⟨#[]⟩,.slice s3 2 k3] 55))):=((((((HB0.out.trans (HB1.out.mono (by omega))).trans (HB2.out.mono (by omega))).trans (HB3.out.mono (by omega))).trans (HB4.out.mono (by omega))).setCell (p:=⟨w.heap.size+1+1+1,1,none⟩) (show w.heap.size≤w.heap.size+1+1+1 by omega) _).alloc (by simp;omega) _)
 clear hk1 hk2 hk3 hk5 hbl HX0 HX1 HX2 HX3 HB1 HB2 HB3 HB4 HC00 HC4 HB0
 go_wp2_with fail
 clear p0 p1 p2 p3 p4 hfz hcz hx hb HCm
 generalize ((w4.setCell ⟨w.heap.size+1+1+1,1,none⟩ (.slice (some ⟨w4.heap.size,0,none⟩) 4 4)).alloc (.cells #[.int .i64 17,.int .i64 0,.string ⟨#[]⟩,.slice s0 2 k0,.int .i64 15,.int .i64 0,.string ⟨#[]⟩,.slice s1 2 k1,.int .i64 17,.int .i64 0,.string ⟨#[]⟩,.slice (some ⟨w2.heap.size,0,none⟩) 2 2,.int .i64 15,.int .i64 0,.string ⟨#[]⟩,.slice s3 2 k3] 55))=w5 at HK5 HQ5 HB5⊢
 generalize w4.heap.size=bh at HK5 HQ5⊢
 have hbx:∀ W,Below w5.heap.size w5 W→W.cell? ⟨w.heap.size+1+1+1,0,none⟩=some (.slice (some ⟨w.heap.size,0,none⟩) 2 2)∧W.cell? ⟨w.heap.size+1+1+1,1,none⟩=some (.slice (some ⟨bh,0,none⟩) 4 4)∧W.cell? ⟨w.heap.size+1+1+1,2,none⟩=some (.slice none 0 0)∧W.cell? ⟨w.heap.size+1+1+1,3,none⟩=some (.slice none 0 0)∧W.cell? ⟨w.heap.size+1+1+1,4,none⟩=some (.slice (some ⟨w.heap.size+1+1,0,none⟩) 1 1):=fun W hW=>by
  have h:=(hW.block _ (lt_of_block HK5.out)).trans HK5.out
  exact⟨by rw[cell_of_blk h 0];rfl,by rw[cell_of_blk h 1];rfl,by rw[cell_of_blk h 2];rfl,by rw[cell_of_blk h 3];rfl,by rw[cell_of_blk h 4];rfl⟩
 have HBx:=Lib.hid hbx
 have HGW:=Lib.hid (fun W (hW:Below w5.heap.size w5 W)=>HG.out.below (HB5.out.trans (hW.mono HB5.out.size)))
 have HPW:=Lib.hid (fun W (hW:Below w5.heap.size w5 W)=>HQ5.out.prob.below hW)
 have HF1:Hid (∀ W,Below w5.heap.size w5 W→Calls Tryz.prog 22 #[.agg #[.slice (some ⟨w.heap.size,0,none⟩) 2 2,.slice (some ⟨bh,0,none⟩) 4 4,.slice none 0 0,.slice none 0 0,.slice (some ⟨w.heap.size+1+1,0,none⟩) 1 1]] W fun e w'=>(∃ a c,e=.returned (.tuple #[.slice a 2 c,.int .i64 0])∧IntsIn w' [0,2] a c)∧Below W.heap.size W w'):=fun W hW=>(Core_any pC (xC w.heap.size bh (w.heap.size+1+1)) W (HPW.out W hW) pC_small (HGW.out W hW) (fun _=>bits_pC) (by decide) (by decide)).mono fun e w' ⟨⟨v,h1,h2⟩,h3⟩=>by
  rw[coreE_C] at h1
  rw[coreL_C] at h2
  obtain⟨a,c,rfl,hI⟩:=valsN_ints (l:=[0,2]) h2 (by decide)
  exact⟨⟨a,c,h1,hI⟩,h3⟩
 have HF2:Hid (∀ W,Below w5.heap.size w5 W→Calls Tryz.prog 24 #[.agg #[.slice (some ⟨w.heap.size,0,none⟩) 2 2,.slice (some ⟨bh,0,none⟩) 4 4,.slice none 0 0,.slice none 0 0,.slice (some ⟨w.heap.size+1+1,0,none⟩) 1 1]] W fun e w'=>e=.returned (.tuple #[.string ⟨#[97,32,60,32,51,10,53,32,60,32,97,10]⟩,.int .i64 0])∧Below W.heap.size W w'):=fun W hW=>by
  have:=Explain_any pC (xC w.heap.size bh (w.heap.size+1+1)) W (HPW.out W hW) pC_small (HGW.out W hW) (fun _=>bits_pC) (by decide) (by decide) (pr_C (HGW.out W hW))
  rw[expl_C,coreE_C] at this
  exact this
 have HF3:Hid (∀ W,Below w5.heap.size w5 W→Calls Tryz.prog 27 #[.agg #[.slice (some ⟨w.heap.size,0,none⟩) 2 2,.slice (some ⟨bh,0,none⟩) 4 4,.slice none 0 0,.slice none 0 0,.slice (some ⟨w.heap.size+1+1,0,none⟩) 1 1],.int .i64 9] W fun e w'=>(∃ a c,e=.returned (.tuple #[.slice a 2 c,.int .i64 0])∧RowsIn w' [[0,2],[0,3]] a c)∧Below W.heap.size W w'):=fun W hW=>(Cores_any pC (xC w.heap.size bh (w.heap.size+1+1)) 9 W (HPW.out W hW) pC_small (HGW.out W hW) (fun _=>bits_pC) (by decide) (by decide)).mono fun e w' h=>by
  obtain⟨a,c,h1,h2,h3⟩:=corsRet_mem h (by decide)
  rw[corsE_C,cors_C] at h1
  rw[cors_C] at h2
  exact⟨⟨a,c,h1,h2⟩,h3⟩
 have hB5:Below w5.heap.size w5 w5:=Below.refl _ _
 clear hbx HG HQ5 HK5 HGW HPW hz0 hz1 hz2 hz3 hz4 hlt4
 refine(HF1.out w5 hB5).mono ?_
 rintro e w6 ⟨⟨a6,c6,rfl,hI6⟩,hb6⟩
 have HI6:=Lib.hid hI6
 have HB6:Hid (Below w5.heap.size w5 w6):=hb6
 obtain⟨p0,p1,p2,p3,p4⟩:=HBx.out w6 hb6
 clear hb6 hI6
 go_wp2_with fail
 refine(HF2.out w6 HB6.out).mono ?_
 rintro e w7 ⟨rfl,hb7⟩
 have HB7:=Lib.hid (HB6.out.trans (hb7.mono HB6.out.size))
 have HI7:=Lib.hid (HI6.out.keep (keeps_of_below hb7))
 clear hb7 p0 p1 p2 p3 p4
 obtain⟨p0,p1,p2,p3,p4⟩:=HBx.out w7 HB7.out
 go_wp2_with fail
 refine(HF3.out w7 HB7.out).mono ?_
 rintro e w8 ⟨⟨a8,c8,rfl,hR8⟩,hb8⟩
 have HB8:=Lib.hid (HB7.out.trans (hb8.mono HB7.out.size))
 have HI8:=Lib.hid (HI7.out.keep (keeps_of_below hb8))
 have HR8:=Lib.hid hR8
 clear hb8 hR8 p0 p1 p2 p3 p4 HF1 HF2 HF3 HBx
 have HW8:=Lib.hid (HB5.out.trans (HB8.out.mono HB5.out.size))
 have hba:Below w8.heap.size w8 (w8.alloc (.cells #[.int .i64 0,.int .i64 2] 3)):=(Below.refl _ _).alloc (Nat.le_refl _) _
 have HSI:Hid (Calls Tryz.prog 26 #[.slice a6 2 c6,.slice (some ⟨w8.heap.size,0,none⟩) 2 2] (w8.alloc (.cells #[.int .i64 0,.int .i64 2] 3)) fun e w'=>e=.returned (.bool true)∧Below w8.heap.size w8 w'):=(SameInts_any [0,2] a6 c6 [0,2] (some ⟨w8.heap.size,0,none⟩) 2 (w8.alloc (.cells #[.int .i64 0,.int .i64 2] 3)) (HI8.out.keep (keeps_of_below hba)) (ints2C (heap_alloc_new' w8 _))).mono fun e w' h=>⟨by rw[h.1];rfl,hba.trans (h.2.mono hba.size)⟩
 clear hba
 go_wp2_with fail
 refine HSI.out.mono ?_
 rintro e w9 ⟨rfl,hb9⟩
 have HB9:=Lib.hid hb9
 have HW9:=Lib.hid (HW8.out.trans (hb9.mono HW8.out.size))
 have HR9:=Lib.hid (HR8.out.keep (keeps_of_below hb9))
 clear hb9 HSI
 have hba:Below w9.heap.size w9 (((w9.alloc (.cells #[.int .i64 0,.int .i64 2] 3)).alloc (.cells #[.int .i64 0,.int .i64 3] 3)).alloc (.cells #[.slice (some ⟨w9.heap.size,0,none⟩) 2 2,.slice (some ⟨w9.heap.size+1,0,none⟩) 2 2] 30)):=(((Below.refl _ _).alloc (Nat.le_refl _) _).alloc (by simp) _).alloc (by simp;omega) _
 have hI0:(((w9.alloc (.cells #[.int .i64 0,.int .i64 2] 3)).alloc (.cells #[.int .i64 0,.int .i64 3] 3)).alloc (.cells #[.slice (some ⟨w9.heap.size,0,none⟩) 2 2,.slice (some ⟨w9.heap.size+1,0,none⟩) 2 2] 30)).heap[w9.heap.size]? = some (.cells #[.int .i64 0,.int .i64 2] 3 (0,0)):=by
  rw[Below.heap_alloc _ _ _ (by simp only[World.size_alloc];omega),Below.heap_alloc _ _ _ (by simp only[World.size_alloc];omega)]
  exact heap_alloc_at _ _ _ rfl
 have hI1:(((w9.alloc (.cells #[.int .i64 0,.int .i64 2] 3)).alloc (.cells #[.int .i64 0,.int .i64 3] 3)).alloc (.cells #[.slice (some ⟨w9.heap.size,0,none⟩) 2 2,.slice (some ⟨w9.heap.size+1,0,none⟩) 2 2] 30)).heap[w9.heap.size+1]? = some (.cells #[.int .i64 0,.int .i64 3] 3 (0,0)):=by
  rw[Below.heap_alloc _ _ _ (by simp only[World.size_alloc];omega)]
  exact heap_alloc_at _ _ _ (by simp)
 have hR0:(((w9.alloc (.cells #[.int .i64 0,.int .i64 2] 3)).alloc (.cells #[.int .i64 0,.int .i64 3] 3)).alloc (.cells #[.slice (some ⟨w9.heap.size,0,none⟩) 2 2,.slice (some ⟨w9.heap.size+1,0,none⟩) 2 2] 30)).heap[w9.heap.size+1+1]? = some (.cells #[.slice (some ⟨w9.heap.size,0,none⟩) 2 2,.slice (some ⟨w9.heap.size+1,0,none⟩) 2 2] 30 (0,0)):=heap_alloc_at _ _ _ (by simp)
 have hRR:RowsIn (((w9.alloc (.cells #[.int .i64 0,.int .i64 2] 3)).alloc (.cells #[.int .i64 0,.int .i64 3] 3)).alloc (.cells #[.slice (some ⟨w9.heap.size,0,none⟩) 2 2,.slice (some ⟨w9.heap.size+1,0,none⟩) 2 2] 30)) [[0,2],[0,3]] (some ⟨w9.heap.size+1+1,0,none⟩) 2:=by
  refine⟨by simp,by simp,Or.inr ⟨w9.heap.size+1+1,0,rfl,fun i hi=>?_⟩⟩
  have hc:=cell_of_blk hR0
  rcases i with _ | _ | i
  ·exact⟨_,rfl,_,_,by rw[hc];rfl,ints2C hI0⟩
  ·exact⟨_,rfl,_,_,by rw[hc];rfl,ints2C hI1⟩
  ·exact absurd hi (by simp)
 have HSa:Hid (Calls Tryz.prog 29 #[.slice a8 2 c8,.slice (some ⟨w9.heap.size+1+1,0,none⟩) 2 2] (((w9.alloc (.cells #[.int .i64 0,.int .i64 2] 3)).alloc (.cells #[.int .i64 0,.int .i64 3] 3)).alloc (.cells #[.slice (some ⟨w9.heap.size,0,none⟩) 2 2,.slice (some ⟨w9.heap.size+1,0,none⟩) 2 2] 30)) fun e w'=>e=.returned (.bool true)∧Below w9.heap.size w9 w'):=(Same25_any [[0,2],[0,3]] [[0,2],[0,3]] a8 (some ⟨w9.heap.size+1+1,0,none⟩) c8 2 (((w9.alloc (.cells #[.int .i64 0,.int .i64 2] 3)).alloc (.cells #[.int .i64 0,.int .i64 3] 3)).alloc (.cells #[.slice (some ⟨w9.heap.size,0,none⟩) 2 2,.slice (some ⟨w9.heap.size+1,0,none⟩) 2 2] 30)) (HR9.out.keep (keeps_of_below hba)) hRR).mono fun e w' h=>⟨by rw[h.1];rfl,hba.trans (h.2.mono hba.size)⟩
 clear hba hI0 hI1 hR0 hRR
 go_wp2_with fail
 refine HSa.out.mono ?_
 rintro e w10 ⟨rfl,hb10⟩
 have HW10:=Lib.hid (HW9.out.trans (hb10.mono HW9.out.size))
 clear hb10 HSa
 go_wp2_with fail
 go_ret
 exact⟨rfl,HW10.out⟩
end Go.Proofs.YtcplmcjbkpmhdaaGreatDoor
