/- law22's awake: plain facts of its problems. -/
import Derived.Test.YtcplmcjbkpmhdaaGreatDoorSD
import Derived.Test.YtcplmcjbkpmhdaaGreatDoorKT
set_option linter.unusedSimpArgs false
set_option linter.unusedVariables false
set_option linter.unnecessarySimpa false
namespace Go.Proofs.YtcplmcjbkpmhdaaGreatDoor
open Go.RowKit
def vA:List VarD:=[⟨⟨#[97]⟩,4,1,0⟩]
def eV:Ex:=.mk 2 0 ⟨#[97]⟩ []
def eC (n:Int):Ex:=.mk 1 n ⟨#[]⟩ []
def cm (op n:Int):Ex:=.mk op 0 ⟨#[]⟩ [eV,eC n]
theorem nodes_cm (op n:Int):(cm op n).nodes=[cm op n,eV,eC n]:=by
 rw[Ex.nodes_eq]
 simp[cm,Ex.args_mk,nodes_leaf,eV,eC]
def CmOk (q:Int × Int):Prop:=(q.1=15∨q.1=17)∧firstE [cm q.1 q.2,eV,eC q.2]=0
theorem cm_valid {op n:Int} (h:firstE [cm op n,eV,eC n]=0):validS (cm op n)=0:=by
 unfold validS
 rw[nodes_cm,h,if_neg]
 rintro ⟨_,h | h⟩
 ·rw[Ex.depth_eq] at h
  simp[cm,eV,eC,Ex.args_mk,Ex.depth_eq] at h
 ·simp at h
theorem cm1:CmOk (17,4):=⟨Or.inr rfl,by decide⟩
theorem cm2:CmOk (15,5):=⟨Or.inl rfl,by decide⟩
theorem cm3:CmOk (15,2):=⟨Or.inl rfl,by decide⟩
theorem cm4:CmOk (15,1):=⟨Or.inl rfl,by decide⟩
theorem val_cm {op n:Int} (ho:op=15∨op=17) (env:List (ByteArray × Int)):valueS env (cm op n)=operateS op [(findS env ⟨#[97]⟩).getD 0,n]:=by
 rw[valueS_eq]
 rcases ho with rfl | rfl<;>simp[cm,eV,eC,valueS_eq,Ex.op_mk,Ex.n_mk,Ex.name_mk,Ex.args_mk]
theorem names_cm {op n:Int} (ho:op=15∨op=17):namesS [2] (cm op n)=[⟨#[97]⟩]∧namesS [3,24] (cm op n)=[]:=by
 have h1:Lib.idxOfS [] (⟨#[97]⟩:ByteArray)=-1:=by rfl
 unfold namesS
 rw[nodes_cm]
 rcases ho with rfl | rfl<;>simp[addName,cm,eV,eC,Lib.containsS,Ex.op_mk,Ex.name_mk,h1]
theorem find_A (a:Int):findS [(⟨#[97]⟩,a)] ⟨#[97]⟩=some (wrapW a):=by simp[findS]
theorem eval_cm {op n:Int} (h:CmOk (op,n)) (a:Int):evalS [(⟨#[97]⟩,a)] (cm op n)=(operateS op [wrapW a,n],0):=by
 unfold evalS
 rw[cm_valid h.2,if_neg (by simp),if_neg,val_cm h.1,find_A]
 ·rfl
 ·unfold knownS
  rw[(names_cm h.1).1,(names_cm h.1).2]
  simp[find_A]
theorem tot_vA:totN vA=16:=by decide
theorem nth_vA (k:Nat):nthN vA k=[((k % 16:Nat):Int)]:=by
 show [digN _ (k / 1)]=_
 rw[Nat.div_one]
 rfl
def cmB (a:Int) (q:Int × Int):Bool:=operateS q.1 [wrapW a,q.2] != 0
theorem hit_vA {L:List (Int × Int)} (hL:∀ q,q∈L→CmOk q) (k:Nat):hitN vA (L.map fun q=>cm q.1 q.2) k=L.all (cmB ((k % 16:Nat):Int)):=by
 unfold hitN allS
 rw[nth_vA,List.all_map]
 have he:envS vA [((k % 16:Nat):Int)]=[(⟨#[97]⟩,((k % 16:Nat):Int))]:=rfl
 rw[he]
 induction L with
 | nil=>rfl
 | cons q L ih =>
  rw[List.all_cons,List.all_cons,ih fun q' h=>hL q' (by simp[h])]
  congr 1
  show ((evalS _ (cm q.1 q.2)).1 != 0)=_
  rw[eval_cm (hL q (by simp))]
  rfl
theorem solv_yes {L:List (Int × Int)} (hL:∀ q,q∈L→CmOk q) (k:_root_.Fin 16) (h:L.all (cmB ((k.val % 16:Nat):Int))=true):solvB vA (L.map fun q=>cm q.1 q.2)=true :=
 pB_true ⟨k.val,by rw[tot_vA];exact k.isLt,by rw[hit_vA hL];exact h⟩
theorem solv_no {L:List (Int × Int)} (hL:∀ q,q∈L→CmOk q) (h:∀ k:_root_.Fin 16,L.all (cmB ((k.val % 16:Nat):Int))=false):solvB vA (L.map fun q=>cm q.1 q.2)=false :=
 pB_false (by
  rintro ⟨k,hk,h1⟩
  rw[tot_vA] at hk
  rw[hit_vA hL,h ⟨k,hk⟩] at h1
  simp at h1)
theorem s0:solvB vA [cm 17 4]=true:=solv_yes (L:=[(17,4)]) (by intro q h;simp at h;subst h;exact cm1) 1 (by decide)
theorem s1:solvB vA [cm 17 4,cm 15 1]=true:=solv_yes (L:=[(17,4),(15,1)]) (by intro q h;simp at h;rcases h with rfl | rfl;exact cm1;exact cm4) 1 (by decide)
theorem s2:solvB vA [cm 17 4,cm 15 1,cm 15 2]=false:=solv_no (L:=[(17,4),(15,1),(15,2)]) (by intro q h;simp at h;rcases h with rfl | rfl | rfl;exact cm1;exact cm4;exact cm3) (by decide)
theorem s3:solvB vA [cm 17 4,cm 15 1,cm 15 5]=false:=solv_no (L:=[(17,4),(15,1),(15,5)]) (by intro q h;simp at h;rcases h with rfl | rfl | rfl;exact cm1;exact cm4;exact cm2) (by decide)
end Go.Proofs.YtcplmcjbkpmhdaaGreatDoor
