/- law34: the sample, its mutants and the injected design, plain. -/
import Derived.Test.YtebneadheaefdaaGreatDoorEA
import Derived.Test.YtebneadheaefdaaGreatDoorFC
import Derived.Test.YtebneadheaefdaaGreatDoorFO
import Derived.Test.YtebneadheaefdaaGreatDoorFK
set_option linter.unusedSimpArgs false
set_option linter.unusedVariables false
set_option linter.unnecessarySimpa false
namespace Go.Proofs.YtebneadheaefdaaGreatDoor
open Go.RowKit
noncomputable def iE:Ex:=.mk 22 0 .empty [vE 97,vE 120,kE 3]
noncomputable def iN:Ex:=.mk 22 0 .empty [.mk 4 0 .empty [vE 97],vE 120,kE 3]
noncomputable def shD (nm:ByteArray) (E F:Ex) (i:Int):DesD:=⟨nm,[⟨⟨#[97]⟩,4⟩],[⟨⟨#[120]⟩,4,E⟩],[⟨⟨#[114]⟩,4,i,F⟩],[]⟩
noncomputable def smM:DesD:=shD ⟨#[100]⟩ (bE 7 (vE 97) (kE 1)) iE 0
def shN:List ByteArray:=[⟨#[97]⟩,⟨#[120]⟩,⟨#[114]⟩]
theorem in_shN {N:List ByteArray} {s:ByteArray} (h:s∈N):(idxT N s).isSome=true:=idxT_mem h rfl
theorem exN_of {N l:List ByteArray} {e:Ex} (h1:validS e=0) (h2:namesS [3,24] e=[]) (h3:namesS [2] e=l) (h4:∀ s∈l,s∈N):exprErr N e=0:=by
 unfold exprErr
 rw[h1,h2,h3,if_neg (by simp),if_neg (by simp),if_pos]
 exact List.all_eq_true.2 fun s hs=>in_shN (h4 s hs)
theorem nodes_aE (op n:Int):(bE op (vE 97) (kE n)).nodes=[bE op (vE 97) (kE n),vE 97,kE n]:=nodes_bE _ (nodes_vE _) (nodes_kE _)
theorem nodes_iE:iE.nodes=[iE,vE 97,vE 120,kE 3]:=by
 rw[Ex.nodes_eq]
 simp[iE,Ex.args_mk,nodes_vE,nodes_kE]
theorem nodes_iN:iN.nodes=[iN,.mk 4 0 .empty [vE 97],vE 97,vE 120,kE 3]:=by
 rw[Ex.nodes_eq]
 have h:(Ex.mk 4 0 .empty [vE 97]).nodes=[.mk 4 0 .empty [vE 97],vE 97]:=by rw[Ex.nodes_eq];simp[Ex.args_mk,nodes_vE]
 simp[iN,Ex.args_mk,nodes_vE,nodes_kE,h]
theorem depth_iE:iE.depth=2:=by rw[Ex.depth_eq];simp[iE,Ex.args_mk,vE,kE,depth_lf]
theorem depth_iN:iN.depth=3:=by
 have h:(Ex.mk 4 0 .empty [vE 97]).depth=2:=by rw[Ex.depth_eq];simp[Ex.args_mk,vE,depth_lf]
 rw[Ex.depth_eq]
 simp[iN,Ex.args_mk,vE,kE,depth_lf] at h⊢
 rw[h]
 rfl
theorem names_a (op n:Int) (h2:op≠2) (h3:op≠3) (h4:op≠24):namesS [2] (bE op (vE 97) (kE n))=[⟨#[97]⟩]∧namesS [3,24] (bE op (vE 97) (kE n))=[]:=by
 have h1:Lib.idxOfS [] (⟨#[97]⟩:ByteArray)=-1:=by rfl
 unfold namesS
 rw[nodes_aE]
 simp[addName,bE,vE,kE,Lib.containsS,ByteArray.toList_eq,Ex.op_mk,Ex.name_mk,h1,h2,h3,h4]
theorem names_i:namesS [2] iE=[⟨#[97]⟩,⟨#[120]⟩]∧namesS [3,24] iE=[]:=by
 have h1:Lib.idxOfS [] (⟨#[97]⟩:ByteArray)=-1:=by rfl
 have h2:Lib.idxOfS [(⟨#[97]⟩:ByteArray)] (⟨#[120]⟩:ByteArray)=-1:=by rfl
 unfold namesS
 rw[nodes_iE]
 simp[addName,iE,vE,kE,Lib.containsS,ByteArray.toList_eq,Ex.op_mk,Ex.name_mk,h1,h2]
theorem names_iN:namesS [2] iN=[⟨#[97]⟩,⟨#[120]⟩]∧namesS [3,24] iN=[]:=by
 have h1:Lib.idxOfS [] (⟨#[97]⟩:ByteArray)=-1:=by rfl
 have h2:Lib.idxOfS [(⟨#[97]⟩:ByteArray)] (⟨#[120]⟩:ByteArray)=-1:=by rfl
 unfold namesS
 rw[nodes_iN]
 simp[addName,iN,vE,kE,Lib.containsS,ByteArray.toList_eq,Ex.op_mk,Ex.name_mk,h1,h2]
theorem ex_a (op n:Int) (h2:op≠2) (h3:op≠3) (h4:op≠24) (hf:firstE [bE op (vE 97) (kE n),vE 97,kE n]=0):exprErr shN (bE op (vE 97) (kE n))=0 :=
 exN_of (valid_of (nodes_aE op n) (by simp) hf (Nat.le_trans (Nat.le_of_eq (depth_bE op (x:=vE 97) (y:=kE n) (depth_lf _ _ _) (depth_lf _ _ _))) (by omega))) (names_a op n h2 h3 h4).2 (names_a op n h2 h3 h4).1 (by simp[shN])
theorem ex_7:exprErr shN (bE 7 (vE 97) (kE 1))=0:=ex_a 7 1 (by decide) (by decide) (by decide) (by decide)
theorem ex_8:exprErr shN (bE 8 (vE 97) (kE 1))=0:=ex_a 8 1 (by decide) (by decide) (by decide) (by decide)
theorem ex_72:exprErr shN (bE 7 (vE 97) (kE 2))=0:=ex_a 7 2 (by decide) (by decide) (by decide) (by decide)
noncomputable def i4:Ex:=.mk 22 0 .empty [vE 97,vE 120,kE 4]
theorem nodes_i4:i4.nodes=[i4,vE 97,vE 120,kE 4]:=by
 rw[Ex.nodes_eq]
 simp[i4,Ex.args_mk,nodes_vE,nodes_kE]
theorem depth_i4:i4.depth=2:=by rw[Ex.depth_eq];simp[i4,Ex.args_mk,vE,kE,depth_lf]
theorem names_i4:namesS [2] i4=[⟨#[97]⟩,⟨#[120]⟩]∧namesS [3,24] i4=[]:=by
 have h1:Lib.idxOfS [] (⟨#[97]⟩:ByteArray)=-1:=by rfl
 have h2:Lib.idxOfS [(⟨#[97]⟩:ByteArray)] (⟨#[120]⟩:ByteArray)=-1:=by rfl
 unfold namesS
 rw[nodes_i4]
 simp[addName,i4,vE,kE,Lib.containsS,ByteArray.toList_eq,Ex.op_mk,Ex.name_mk,h1,h2]
theorem ex_i:exprErr shN iE=0:=exN_of (valid_of nodes_iE (by simp) (by decide) (by rw[depth_iE];omega)) names_i.2 names_i.1 (by simp[shN])
theorem ex_i4:exprErr shN i4=0:=exN_of (valid_of nodes_i4 (by simp) (by decide) (by rw[depth_i4];omega)) names_i4.2 names_i4.1 (by simp[shN])
theorem ex_iN:exprErr shN iN=0:=exN_of (valid_of nodes_iN (by simp) (by decide) (by rw[depth_iN];omega)) names_iN.2 names_iN.1 (by simp[shN])
theorem sh_sig {nm:ByteArray} {E F:Ex} {i:Int} (hn:nameB nm.data.toList=true) (hi:i=0∨i=1):(shD nm E F i).sigErr=0:=by
 unfold DesD.sigErr
 have h1:(shD nm E F i).names=shN:=rfl
 have h2:(shD nm E F i).widths=[4,4,4]:=rfl
 have h3:(shD nm E F i).regs=[⟨⟨#[114]⟩,4,i,F⟩]:=rfl
 rw[h1,h2,h3]
 have h4:(shN.all fun s=>nameB s.data.toList)=true:=by decide +kernel
 have h5:dupT shN=false:=by decide +kernel
 have h6:¬ (((nameB (shD nm E F i).name.data.toList)=false)∨((shN.all fun s=>nameB s.data.toList)=false)):=by
  rintro (h | h)
  ·rw[show (shD nm E F i).name=nm from rfl,hn] at h;simp at h
  ·rw[h4] at h;simp at h
 rw[if_neg h6,if_neg (by decide),if_neg (by rw[h5];simp),if_neg (by decide),if_neg]
 rcases hi with rfl | rfl<;>simp
theorem sh_order {nm:ByteArray} {E F:Ex} {i:Int} (hE:namesS [2] E=[⟨#[97]⟩]):(shD nm E F i).order=[0]:=by
 unfold DesD.order
 have h1:(shD nm E F i).wireIdx=fun s=>idxT [⟨#[120]⟩] s:=rfl
 have h2:idxT [(⟨#[120]⟩:ByteArray)] ⟨#[97]⟩=none:=by simp[idxT,ByteArray.toList_eq]
 have h:(shD nm E F i).needs=fun _=>[]:=by
  funext k
  unfold DesD.needs
  rcases k with _ | k
  ·show (namesS [2] E).filterMap (shD nm E F i).wireIdx=_
   rw[hE,h1]
   simp[h2]
  ·rfl
 rw[h]
 rfl
theorem sh_err {nm:ByteArray} {E F:Ex} {i:Int} (hn:nameB nm.data.toList=true) (hi:i=0∨i=1) (hE:exprErr shN E=0) (hF:exprErr shN F=0) (hEn:namesS [2] E=[⟨#[97]⟩]):(shD nm E F i).err=0:=by
 unfold DesD.err
 rw[sh_sig hn hi,sh_order hEn]
 show firstErr [0,firstErr ([E,F].map (exprErr shN)),0,_]=0
 simp[hE,hF,firstErr,shD]
theorem vers_a:versS (bE 7 (vE 97) (kE 1)) 0=[(bE 8 (vE 97) (kE 1),whatS 0 kOper),(bE 7 (vE 97) (kE 2),whatS 2 kConst)]:=by
 rw[sites_eq,nodes_aE]
 have e0:kindS (bE 7 (vE 97) (kE 1)).op=kOper:=rfl
 have e1:kindS (vE 97).op=.empty:=rfl
 have e2:kindS (kE 1).op=kConst:=rfl
 have n0:¬ kOper=.empty:=by decide
 have n2:¬ kConst=.empty:=by decide
 have w0:withS (bE 7 (vE 97) (kE 1)) 0=bE 8 (vE 97) (kE 1):=withS_zero _
 have w2:withS (bE 7 (vE 97) (kE 1)) 2=bE 7 (vE 97) (kE 2):=by
  rw[show (2:Nat)=1+1 from rfl,withS_succ]
  have:withS (kE 1) 0=kE 2:=withS_zero _
  simp[bE,Ex.args_mk,withL,nodes_vE,nodes_kE,setArgs,this]
 simp[List.zipIdx,siteF,e0,e1,e2,n0,n2,w0,w2]
theorem vers_i:versS iE 0=[(iN,whatS 0 kCond),(i4,whatS 3 kConst)]:=by
 rw[sites_eq,nodes_iE]
 have e0:kindS iE.op=kCond:=rfl
 have e1:∀ c,kindS (vE c).op=.empty:=fun _=>rfl
 have e2:kindS (kE 3).op=kConst:=rfl
 have n0:¬ kCond=.empty:=by decide
 have n2:¬ kConst=.empty:=by decide
 have w0:withS iE 0=iN:=withS_zero _
 have w3:withS iE 3=i4:=by
  rw[show (3:Nat)=2+1 from rfl,withS_succ]
  have:withS (kE 3) 0=kE 4:=withS_zero _
  simp[iE,i4,Ex.args_mk,withL,nodes_vE,nodes_kE,setArgs,this]
 simp[List.zipIdx,siteF,e0,e1,e2,n0,n2,w0,w3]
theorem fmt_lt (n:Nat) (h:n < 10):fmtS n=⟨#[UInt8.ofNat (48+n)]⟩:=by
 refine ByteArray.ext (Array.toList_inj.1 ?_)
 rw[fmt_dec,Lib.decDigits,dif_pos h]
theorem sm_cands:candM smM=[(shD ⟨#[100]⟩ (bE 8 (vE 97) (kE 1)) iE 0,wireT ⟨#[120]⟩ (whatS 0 kOper)),(shD ⟨#[100]⟩ (bE 7 (vE 97) (kE 2)) iE 0,wireT ⟨#[120]⟩ (whatS 2 kConst)),
  (shD ⟨#[100]⟩ (bE 7 (vE 97) (kE 1)) iE 1,regT ⟨#[114]⟩ initT),(shD ⟨#[100]⟩ (bE 7 (vE 97) (kE 1)) iN 0,regT ⟨#[114]⟩ (whatS 0 kCond)),(shD ⟨#[100]⟩ (bE 7 (vE 97) (kE 1)) i4 0,regT ⟨#[114]⟩ (whatS 3 kConst))]:=by
 unfold candM
 have h1:smM.wires.zipIdx 0=[(⟨⟨#[120]⟩,4,bE 7 (vE 97) (kE 1)⟩,0)]:=rfl
 have h2:smM.regs.zipIdx 0=[(⟨⟨#[114]⟩,4,0,iE⟩,0)]:=rfl
 rw[h1,h2]
 simp only[List.flatMap_cons,List.flatMap_nil,List.append_nil,wireM,regM,vers_a,vers_i,List.map_cons,List.map_nil,List.cons_append,List.nil_append]
 rfl
theorem add_ok {l:List Mut} {m:Mut} {nm:ByteArray} {E F:Ex} {i:Int} {t:ByteArray} (hm:m=(shD nm E F i,t)) (hn:nameB ((nm++⟨#[95]⟩)++fmtS l.length).data.toList=true) (hi:i=0∨i=1) (hE:exprErr shN E=0) (hF:exprErr shN F=0) (hEn:namesS [2] E=[⟨#[97]⟩]) :
  addM l m=l++[(shD ((nm++⟨#[95]⟩)++fmtS l.length) E F i,t)]:=by
 subst hm
 unfold addM
 have h:(shD nm E F i).named l.length=shD ((nm++⟨#[95]⟩)++fmtS l.length) E F i:=rfl
 rw[h,if_pos (sh_err hn hi hE hF hEn)]
def dN (k:Nat):ByteArray:=((⟨#[100]⟩:ByteArray)++⟨#[95]⟩)++fmtS k
theorem dN_ok {k:Nat} (h:k < 10) (h2:nameB [100,95,UInt8.ofNat (48+k)]=true):nameB (dN k).data.toList=true:=by
 unfold dN
 rw[fmt_lt k h]
 exact h2
theorem add_d {l:List Mut} {m:Mut} {E F:Ex} {i:Int} {t:ByteArray} (k:Nat) (hm:m=(shD ⟨#[100]⟩ E F i,t)) (hk:l.length=k) (hn:nameB (dN k).data.toList=true) (hi:i=0∨i=1) (hE:exprErr shN E=0) (hF:exprErr shN F=0) (hEn:namesS [2] E=[⟨#[97]⟩]) :
  addM l m=l++[(shD (dN k) E F i,t)]:=by
 subst hk
 exact add_ok hm hn hi hE hF hEn
theorem sm_mut:mutL smM=[(shD (dN 0) (bE 8 (vE 97) (kE 1)) iE 0,wireT ⟨#[120]⟩ (whatS 0 kOper)),(shD (dN 1) (bE 7 (vE 97) (kE 2)) iE 0,wireT ⟨#[120]⟩ (whatS 2 kConst)),
  (shD (dN 2) (bE 7 (vE 97) (kE 1)) iE 1,regT ⟨#[114]⟩ initT),(shD (dN 3) (bE 7 (vE 97) (kE 1)) iN 0,regT ⟨#[114]⟩ (whatS 0 kCond)),(shD (dN 4) (bE 7 (vE 97) (kE 1)) i4 0,regT ⟨#[114]⟩ (whatS 3 kConst))]:=by
 have na:=fun op n h2 h3 h4=>(names_a op n h2 h3 h4).1
 unfold mutL
 rw[sm_cands]
 simp only[List.foldl_cons,List.foldl_nil]
 rw[add_d 0 rfl rfl (dN_ok (by omega) (by decide +kernel)) (Or.inl rfl) ex_8 ex_i (na 8 1 (by decide) (by decide) (by decide)),List.nil_append]
 rw[add_d 1 rfl rfl (dN_ok (by omega) (by decide +kernel)) (Or.inl rfl) ex_72 ex_i (na 7 2 (by decide) (by decide) (by decide)),List.singleton_append]
 rw[add_d 2 rfl rfl (dN_ok (by omega) (by decide +kernel)) (Or.inr rfl) ex_7 ex_i (na 7 1 (by decide) (by decide) (by decide))]
 rw[add_d 3 rfl rfl (dN_ok (by omega) (by decide +kernel)) (Or.inl rfl) ex_7 ex_iN (na 7 1 (by decide) (by decide) (by decide))]
 rw[add_d 4 rfl rfl (dN_ok (by omega) (by decide +kernel)) (Or.inl rfl) ex_7 ex_i4 (na 7 1 (by decide) (by decide) (by decide))]
 simp only[List.cons_append,List.nil_append]
theorem sm_err:smM.err=0:=sh_err (by decide +kernel) (Or.inl rfl) ex_7 ex_i (names_a 7 1 (by decide) (by decide) (by decide)).1
theorem sm_cnt:cntN smM=kFault:=by
 have h:kFault∉smM.names:=by
  show kFault∉shN
  intro hm
  have h1:∀ s∈shN,s.size=1:=by intro s hs;simp[shN] at hs;rcases hs with rfl | rfl | rfl<;>rfl
  have h2:=h1 _ hm
  revert h2
  decide
 unfold cntN freeK
 rw[show smM.names.length=3 from rfl,freeF,if_neg (show tryN 0∉smM.names from h)]
 rfl
noncomputable def fE:Ex:=.mk 2 0 kFault []
noncomputable def hE:Ex:=.mk 22 0 .empty [bE 15 fE (kE 2),bE 12 iE (kE 2),iE]
noncomputable def smJ:DesD:=⟨⟨#[100]⟩,[⟨⟨#[97]⟩,4⟩],[⟨⟨#[120]⟩,4,bE 7 (vE 97) (kE 1)⟩],[⟨⟨#[114]⟩,4,0,hE⟩,⟨kFault,16,0,bE 7 fE (kE 1)⟩],[]⟩
theorem sm_inj:injD smM 0 2 1=smJ:=by
 unfold injD
 rw[sm_cnt]
 rfl
def jN:List ByteArray:=[⟨#[97]⟩,⟨#[120]⟩,⟨#[114]⟩,kFault]
theorem nodes_fE:fE.nodes=[fE]:=nodes_lf _ _ _
theorem nodes_hE:hE.nodes=[hE,bE 15 fE (kE 2),fE,kE 2,bE 12 iE (kE 2),iE,vE 97,vE 120,kE 3,kE 2,iE,vE 97,vE 120,kE 3]:=by
 have h1:(bE 15 fE (kE 2)).nodes=[bE 15 fE (kE 2),fE,kE 2]:=nodes_bE _ nodes_fE (nodes_kE _)
 have h2:(bE 12 iE (kE 2)).nodes=[bE 12 iE (kE 2),iE,vE 97,vE 120,kE 3,kE 2]:=by
  rw[Ex.nodes_eq]
  simp[bE,Ex.args_mk,nodes_iE,nodes_kE]
 rw[Ex.nodes_eq]
 simp[hE,Ex.args_mk,h1,h2,nodes_iE]
theorem nodes_gE:(bE 7 fE (kE 1)).nodes=[bE 7 fE (kE 1),fE,kE 1]:=nodes_bE _ nodes_fE (nodes_kE _)
theorem depth_hE:hE.depth≤24:=by
 have h1:(bE 15 fE (kE 2)).depth=2:=depth_bE 15 (x:=fE) (y:=kE 2) (depth_lf _ _ _) (depth_lf _ _ _)
 have h2:(bE 12 iE (kE 2)).depth=3:=by
  rw[Ex.depth_eq]
  simp[bE,Ex.args_mk,depth_iE,kE,depth_lf]
 rw[Ex.depth_eq]
 simp[hE,Ex.args_mk,h1,h2,depth_iE]
theorem names_h:namesS [2] hE=[kFault,⟨#[97]⟩,⟨#[120]⟩]∧namesS [3,24] hE=[]:=by
 have h0:Lib.idxOfS [] kFault=-1:=by rfl
 have h1:Lib.idxOfS [kFault] (⟨#[97]⟩:ByteArray)=-1:=by rfl
 have h2:Lib.idxOfS [kFault,(⟨#[97]⟩:ByteArray)] (⟨#[120]⟩:ByteArray)=-1:=by rfl
 have h3:Lib.idxOfS [kFault,(⟨#[97]⟩:ByteArray),⟨#[120]⟩] (⟨#[97]⟩:ByteArray)=1:=by rfl
 have h4:Lib.idxOfS [kFault,(⟨#[97]⟩:ByteArray),⟨#[120]⟩] (⟨#[120]⟩:ByteArray)=2:=by rfl
 unfold namesS
 rw[nodes_hE]
 simp[addName,hE,fE,iE,bE,vE,kE,Lib.containsS,ByteArray.toList_eq,Ex.op_mk,Ex.name_mk,h0,h1,h2,h3,h4]
theorem names_g:namesS [2] (bE 7 fE (kE 1))=[kFault]∧namesS [3,24] (bE 7 fE (kE 1))=[]:=by
 have h0:Lib.idxOfS [] kFault=-1:=by rfl
 unfold namesS
 rw[nodes_gE]
 simp[addName,fE,bE,kE,Lib.containsS,ByteArray.toList_eq,Ex.op_mk,Ex.name_mk,h0]
theorem exj_a:exprErr jN (bE 7 (vE 97) (kE 1))=0:=exN_of (valid_of (nodes_aE 7 1) (by simp) (by decide) (Nat.le_trans (Nat.le_of_eq (depth_bE 7 (x:=vE 97) (y:=kE 1) (depth_lf _ _ _) (depth_lf _ _ _))) (by omega))) (names_a 7 1 (by decide) (by decide) (by decide)).2 (names_a 7 1 (by decide) (by decide) (by decide)).1 (by simp[jN])
theorem exj_h:exprErr jN hE=0:=exN_of (valid_of nodes_hE (by simp) (by decide +kernel) depth_hE) names_h.2 names_h.1 (by simp[jN])
theorem exj_g:exprErr jN (bE 7 fE (kE 1))=0:=exN_of (valid_of nodes_gE (by simp) (by decide +kernel) (Nat.le_trans (Nat.le_of_eq (depth_bE 7 (x:=fE) (y:=kE 1) (depth_lf _ _ _) (depth_lf _ _ _))) (by omega))) names_g.2 names_g.1 (by simp[jN])
theorem smJ_order:smJ.order=[0]:=by
 unfold DesD.order
 have h1:smJ.wireIdx=fun s=>idxT [⟨#[120]⟩] s:=rfl
 have h2:idxT [(⟨#[120]⟩:ByteArray)] ⟨#[97]⟩=none:=by simp[idxT,ByteArray.toList_eq]
 have h:smJ.needs=fun _=>[]:=by
  funext k
  unfold DesD.needs
  rcases k with _ | k
  ·show (namesS [2] (bE 7 (vE 97) (kE 1))).filterMap smJ.wireIdx=_
   rw[(names_a 7 1 (by decide) (by decide) (by decide)).1,h1]
   simp[h2]
  ·rfl
 rw[h]
 rfl
theorem smJ_err:smJ.err=0:=by
 unfold DesD.err
 have hs:smJ.sigErr=0:=by
  unfold DesD.sigErr
  decide +kernel
 rw[hs,smJ_order]
 show firstErr [0,firstErr ([bE 7 (vE 97) (kE 1),hE,bE 7 fE (kE 1)].map (exprErr jN)),0,_]=0
 simp[exj_a,exj_h,exj_g,firstErr,smJ]
end Go.Proofs.YtebneadheaefdaaGreatDoor
namespace Go.Proofs.YtebneadheaefdaaGreatDoor
open Go.RowKit
attribute [local go_sem ↓] Go.wp_at_zero Go.wp_at_succ
theorem nameM_res (W:World) (tm:Array Value) (b:Nat) (m0 m1 m2 m3:Value) (hW:W.heap[b]? = some (.cells #[m0,m1,m2,m3] 72 (0,0))) (h0:tm.getD 2 undef=.pointer (some ⟨b,0,none⟩)) :
  (results Tryz.f112 tm).run Tryz.prog W=.ok (.agg #[m0,m1,m2,m3]) W:=by
 have hr : Tryz.f112.results=#[.cell 2 72]:=rfl
 obtain⟨c0,c1,c2,c3,_⟩:=cell4 hW
 rw[results_cellC hr,h0]
 simp[asAddr]
 go_simp
set_option maxRecDepth 100000 in
set_option maxHeartbeats 2000000 in
theorem nameM_any (s:ByteArray) (w:World) :
  Calls Tryz.prog 112 #[.string s] w fun e w'=>e=.returned (.agg #[.int .i64 2,.int .i64 0,.string s,.slice none 0 0])∧Below w.heap.size w w':=by
 go_enter Tryz.func112, Tryz.ntmps112
 go_wp2_with fail
 refine bodyPost_ret (v:=.agg #[.int .i64 2,.int .i64 0,.string s,.slice none 0 0]) (nameM_res _ _ w.heap.size _ _ _ _ (hx_new rfl) rfl) rfl ?_
 exact⟨rfl,belr⟩
theorem sampM_res (W:World) (tm:Array Value) (b:Nat) (m0 m1 m2 m3 m4:Value) (hW:W.heap[b]? = some (.cells #[m0,m1,m2,m3,m4] 27 (0,0))) (h0:tm.getD 0 undef=.pointer (some ⟨b,0,none⟩)) :
  (results Tryz.f59 tm).run Tryz.prog W=.ok (.agg #[m0,m1,m2,m3,m4]) W:=by
 have hr : Tryz.f59.results=#[.cell 0 27]:=rfl
 obtain⟨c0,c1,c2,c3,c4,_⟩:=cell5 hW
 rw[results_cellC hr,h0]
 simp[asAddr]
 go_simp
theorem sampM_in {W:World} {bi bw br k1 k2:Nat}
  (hi:W.heap[bi]? = some (.cells #[.string ⟨#[97]⟩,.int .i64 4] 104 (0,0)))
  (hw:W.heap[bw]? = some (.cells #[.string ⟨#[120]⟩,.int .i64 4,.int .i64 7,.int .i64 0,.string .empty,.slice (some ⟨k1,0,none⟩) 2 2] 74 (0,0)))
  (hr:W.heap[br]? = some (.cells #[.string ⟨#[114]⟩,.int .i64 4,.int .i64 0,.int .i64 22,.int .i64 0,.string .empty,.slice (some ⟨k2,0,none⟩) 3 3] 76 (0,0)))
  (h1:W.heap[k1]? = some (.cells #[.int .i64 2,.int .i64 0,.string ⟨#[97]⟩,.slice none 0 0,.int .i64 1,.int .i64 1,.string .empty,.slice none 0 0] 72 (0,0)))
  (h2:W.heap[k2]? = some (.cells #[.int .i64 2,.int .i64 0,.string ⟨#[97]⟩,.slice none 0 0,.int .i64 2,.int .i64 0,.string ⟨#[120]⟩,.slice none 0 0,.int .i64 1,.int .i64 3,.string .empty,.slice none 0 0] 72 (0,0))) :
  DesIn W smM ⟨some ⟨bi,0,none⟩,1,some ⟨bw,0,none⟩,1,some ⟨br,0,none⟩,1,none,0⟩:=by
 have lf:∀ (op n:Int) (s:ByteArray),s.size≤1073741824→ExIn (World.hide W fun _=>false) (.mk op n s []) none 0:=fun op n s h=>exIn_leafM h
 have hE1:ExsIn W [vE 97,kE 1] (some ⟨k1,0,none⟩) 2:=(two_row (p:=fun _=>false) (x:=vE 97) (y:=kE 1) (xa:=none) (ya:=none) (xc:=0) (yc:=0) h1 rfl (lf _ _ _ (by decide)) (lf _ _ _ (by decide))).keep (hk_unhide _ _).cell
 have hE2:ExsIn W [vE 97,vE 120,kE 3] (some ⟨k2,0,none⟩) 3:=(three_row (p:=fun _=>false) (x:=vE 97) (y:=vE 120) (z:=kE 3) (xa:=none) (ya:=none) (za:=none) (xc:=0) (yc:=0) (zc:=0) h2 rfl (lf _ _ _ (by decide)) (lf _ _ _ (by decide)) (lf _ _ _ (by decide))).keep (hk_unhide _ _).cell
 have ci:=cell_of_blk hi
 have cw:=cell_of_blk hw
 have cr:=cell_of_blk hr
 refine⟨⟨Nat.le_refl 1,by show (1:Nat)≤_;omega,Or.inr ⟨bi,0,rfl,fun i h=>?_⟩⟩,⟨Nat.le_refl 1,by show (1:Nat)≤_;omega,Or.inr ⟨bw,0,rfl,fun i h=>?_⟩⟩,⟨Nat.le_refl 1,by show (1:Nat)≤_;omega,Or.inr ⟨br,0,rfl,fun i h=>?_⟩⟩,⟨Nat.le_refl 0,Nat.zero_le _,Or.inl rfl⟩⟩
 ·obtain rfl:i=0:=by have h:i < 1:=h;omega
  exact⟨_,rfl,ci 0,ci 1⟩
 ·obtain rfl:i=0:=by have h:i < 1:=h;omega
  exact⟨_,rfl,cw 0,cw 1,(ExAt_iff _ _ _ _).2 ⟨some ⟨k1,0,none⟩,2,cw 2,cw 3,cw 4,cw 5,by show (0:Nat)≤_;omega,hE1⟩⟩
 ·obtain rfl:i=0:=by have h:i < 1:=h;omega
  exact⟨_,rfl,cr 0,cr 1,cr 2,(ExAt_iff _ _ _ _).2 ⟨some ⟨k2,0,none⟩,3,cr 3,cr 4,cr 5,cr 6,by show (0:Nat)≤_;omega,hE2⟩⟩
set_option maxRecDepth 100000 in
set_option maxHeartbeats 8000000 in
theorem sampM_any (w:World) :
  Calls Tryz.prog 59 #[] w fun e w'=>(∃ x,e=.returned (desVal smM x)∧DesIn w' smM x)∧Below w.heap.size w w':=by
 have HN:Hid (∀ s W,Below w.heap.size w W→Calls Tryz.prog 112 #[.string s] W fun e w'=>e=.returned (.agg #[.int .i64 2,.int .i64 0,.string s,.slice none 0 0])∧Below W.heap.size W w'∧Below w.heap.size w w'):=fun s W hW=>lift_to hW (nameM_any s W)
 go_enter Tryz.func59, Tryz.ntmps59
 go_upto_region 1 with fail
 generalize hW1:w.alloc (.cells #[.string ⟨#[]⟩,.slice none 0 0,.slice none 0 0,.slice none 0 0,.slice none 0 0] 27)=W1
 have hz1:w.heap.size+1≤W1.heap.size:=by rw[← hW1];simp
 have HB1:Hid (Below w.heap.size w W1):=by show Below _ _ _;rw[← hW1];exact belr
 have HR1:Hid (W1.heap[w.heap.size]? = some (.cells #[.string ⟨#[]⟩,.slice none 0 0,.slice none 0 0,.slice none 0 0,.slice none 0 0] 27 (0,0))):=by
  show _=_;rw[← hW1]
  exact hx_new rfl
 clear hW1
 go_wp2_with fail
 refine(HN.out _ W1 HB1.out).mono ?_
 rintro r w2 ⟨rfl,hb2,hB2⟩
 have hz2:=hb2.size
 have HR2:=Lib.hid (hx_below hb2 HR1.out)
 have HB2:=Lib.hid hB2
 clear hb2 hB2
 go_upto_region 2 with fail
 generalize hW3:(w2.alloc (.cells #[.int .i64 2,.int .i64 0,.string ⟨#[97]⟩,.slice none 0 0,.int .i64 1,.int .i64 1,.string ⟨#[]⟩,.slice none 0 0] 72)).alloc (.cells #[.string ⟨#[120]⟩,.int .i64 4,.int .i64 7,.int .i64 0,.string ⟨#[]⟩,.slice (some ⟨w2.heap.size,0,none⟩) 2 2] 74)=W3
 have hz3:w2.heap.size+2≤W3.heap.size:=by rw[← hW3];simp
 have HB23:Hid (Below w2.heap.size w2 W3):=by show Below _ _ _;rw[← hW3];exact belr
 have HE3:Hid (W3.heap[w2.heap.size]? = some (.cells #[.int .i64 2,.int .i64 0,.string ⟨#[97]⟩,.slice none 0 0,.int .i64 1,.int .i64 1,.string ⟨#[]⟩,.slice none 0 0] 72 (0,0))):=by
  show _=_;rw[← hW3]
  exact hx_old (hx_new rfl)
 have HX3:Hid (W3.heap[w2.heap.size+1]? = some (.cells #[.string ⟨#[120]⟩,.int .i64 4,.int .i64 7,.int .i64 0,.string ⟨#[]⟩,.slice (some ⟨w2.heap.size,0,none⟩) 2 2] 74 (0,0))):=by
  show _=_;rw[← hW3]
  exact hx_new (by simp)
 clear hW3
 have HB3:Hid (Below w.heap.size w W3):=HB2.out.trans (HB23.out.mono (by omega))
 go_wp2_with fail
 refine(HN.out _ W3 HB3.out).mono ?_
 rintro r w4 ⟨rfl,hb4,hB4⟩
 have HB34:=Lib.hid hb4
 have HB4:=Lib.hid hB4
 clear hb4 hB4
 go_wp2_with fail
 refine(HN.out _ w4 HB4.out).mono ?_
 rintro r w5 ⟨rfl,hb5,hB5⟩
 have hz4:=HB34.out.size
 have hz5:=hb5.size
 have HB35:Hid (Below W3.heap.size W3 w5):=HB34.out.trans (hb5.mono hz4)
 clear hb5
 go_upto_region 3 with fail
 generalize hW6:(w5.alloc (.cells #[.int .i64 2,.int .i64 0,.string ⟨#[97]⟩,.slice none 0 0,.int .i64 2,.int .i64 0,.string ⟨#[120]⟩,.slice none 0 0,.int .i64 1,.int .i64 3,.string ⟨#[]⟩,.slice none 0 0] 72)).alloc (.cells #[.string ⟨#[114]⟩,.int .i64 4,.int .i64 0,.int .i64 22,.int .i64 0,.string ⟨#[]⟩,.slice (some ⟨w5.heap.size,0,none⟩) 3 3] 76)=W6
 have hz6:w5.heap.size+2≤W6.heap.size:=by rw[← hW6];simp
 have HB56:Hid (Below w5.heap.size w5 W6):=by show Below _ _ _;rw[← hW6];exact belr
 have HE6:Hid (W6.heap[w5.heap.size]? = some (.cells #[.int .i64 2,.int .i64 0,.string ⟨#[97]⟩,.slice none 0 0,.int .i64 2,.int .i64 0,.string ⟨#[120]⟩,.slice none 0 0,.int .i64 1,.int .i64 3,.string ⟨#[]⟩,.slice none 0 0] 72 (0,0))):=by
  show _=_;rw[← hW6]
  exact hx_old (hx_new rfl)
 have HX6:Hid (W6.heap[w5.heap.size+1]? = some (.cells #[.string ⟨#[114]⟩,.int .i64 4,.int .i64 0,.int .i64 22,.int .i64 0,.string ⟨#[]⟩,.slice (some ⟨w5.heap.size,0,none⟩) 3 3] 76 (0,0))):=by
  show _=_;rw[← hW6]
  exact hx_new (by simp)
 clear hW6
 have HB36:Hid (Below W3.heap.size W3 W6):=HB35.out.trans (HB56.out.mono (by omega))
 have HB6:Hid (Below w.heap.size w W6):=HB3.out.trans (HB36.out.mono (by omega))
 have HW6:=Lib.hid (hx_below HB36.out HX3.out)
 have HV6:=Lib.hid (hx_below HB36.out HE3.out)
 have HR6:=Lib.hid (hx_below HB36.out (hx_below HB23.out HR2.out))
 clear HB34 HB4 hB5 HB35 HB56 HB36 HX3 HE3 HR2 HR1 HB23 HB2 HB1 HB3
 obtain⟨x0,x1,x2,x3,x4,x5,xf⟩:=cell6 HW6.out
 obtain⟨y0,y1,y2,y3,y4,y5,y6,yf⟩:=cell7 HX6.out
 obtain⟨r0,r1,r2,r3,r4,rf⟩:=cell5 HR6.out
 have X0:=fun o=>keeps_of_below ((Below.refl W6.heap.size W6).alloc (Nat.le_refl _) o) _ _ x0
 have X1:=fun o=>keeps_of_below ((Below.refl W6.heap.size W6).alloc (Nat.le_refl _) o) _ _ x1
 have X2:=fun o=>keeps_of_below ((Below.refl W6.heap.size W6).alloc (Nat.le_refl _) o) _ _ x2
 have X3:=fun o=>keeps_of_below ((Below.refl W6.heap.size W6).alloc (Nat.le_refl _) o) _ _ x3
 have X4:=fun o=>keeps_of_below ((Below.refl W6.heap.size W6).alloc (Nat.le_refl _) o) _ _ x4
 have X5:=fun o=>keeps_of_below ((Below.refl W6.heap.size W6).alloc (Nat.le_refl _) o) _ _ x5
 have Y0:=fun o o2=>keeps_of_below (((Below.refl W6.heap.size W6).alloc (Nat.le_refl _) o).alloc sz o2) _ _ y0
 have Y1:=fun o o2=>keeps_of_below (((Below.refl W6.heap.size W6).alloc (Nat.le_refl _) o).alloc sz o2) _ _ y1
 have Y2:=fun o o2=>keeps_of_below (((Below.refl W6.heap.size W6).alloc (Nat.le_refl _) o).alloc sz o2) _ _ y2
 have Y3:=fun o o2=>keeps_of_below (((Below.refl W6.heap.size W6).alloc (Nat.le_refl _) o).alloc sz o2) _ _ y3
 have Y4:=fun o o2=>keeps_of_below (((Below.refl W6.heap.size W6).alloc (Nat.le_refl _) o).alloc sz o2) _ _ y4
 have Y5:=fun o o2=>keeps_of_below (((Below.refl W6.heap.size W6).alloc (Nat.le_refl _) o).alloc sz o2) _ _ y5
 have Y6:=fun o o2=>keeps_of_below (((Below.refl W6.heap.size W6).alloc (Nat.le_refl _) o).alloc sz o2) _ _ y6
 have R0:=fun o o2 o3=>keeps_of_below ((((Below.refl W6.heap.size W6).alloc (Nat.le_refl _) o).alloc sz o2).alloc sz o3) _ _ r0
 have R1:=fun o o2 o3=>keeps_of_below ((((Below.refl W6.heap.size W6).alloc (Nat.le_refl _) o).alloc sz o2).alloc sz o3) _ _ r1
 have R2:=fun o o2 o3=>keeps_of_below ((((Below.refl W6.heap.size W6).alloc (Nat.le_refl _) o).alloc sz o2).alloc sz o3) _ _ r2
 have R3:=fun o o2 o3=>keeps_of_below ((((Below.refl W6.heap.size W6).alloc (Nat.le_refl _) o).alloc sz o2).alloc sz o3) _ _ r3
 have R4:=fun o o2 o3=>keeps_of_below ((((Below.refl W6.heap.size W6).alloc (Nat.le_refl _) o).alloc sz o2).alloc sz o3) _ _ r4
 have hlt6:w.heap.size < W6.heap.size:=by omega
 have RF:=fun (o o2 o3:Obj) (j:Nat)=>(((((Below.refl W6.heap.size W6).alloc (Nat.le_refl _) o).alloc sz o2).alloc sz o3).frozen (p:=⟨w.heap.size,j,none⟩) hlt6).trans (rf j)
 go_wp2_with fail
 generalize hW9:((W6.alloc (.cells #[.string ⟨#[97]⟩,.int .i64 4] 104)).alloc (.cells #[.string ⟨#[120]⟩,.int .i64 4,.int .i64 7,.int .i64 0,.string ⟨#[]⟩,.slice (some ⟨w2.heap.size,0,none⟩) 2 2] 74)).alloc (.cells #[.string ⟨#[114]⟩,.int .i64 4,.int .i64 0,.int .i64 22,.int .i64 0,.string ⟨#[]⟩,.slice (some ⟨w5.heap.size,0,none⟩) 3 3] 76)=W9
 have hz9:W6.heap.size+3≤W9.heap.size:=by rw[← hW9];simp
 have HB69:Hid (Below W6.heap.size W6 W9):=by show Below _ _ _;rw[← hW9];exact belr
 have HP9:Hid (W9.heap[W6.heap.size]? = some (.cells #[.string ⟨#[97]⟩,.int .i64 4] 104 (0,0))):=by
  show _=_;rw[← hW9]
  exact hx_old (hx_old (hx_new rfl))
 have HV9:Hid (W9.heap[W6.heap.size+1]? = some (.cells #[.string ⟨#[120]⟩,.int .i64 4,.int .i64 7,.int .i64 0,.string ⟨#[]⟩,.slice (some ⟨w2.heap.size,0,none⟩) 2 2] 74 (0,0))):=by
  show _=_;rw[← hW9]
  exact hx_old (hx_new (by simp))
 have HG9:Hid (W9.heap[W6.heap.size+1+1]? = some (.cells #[.string ⟨#[114]⟩,.int .i64 4,.int .i64 0,.int .i64 22,.int .i64 0,.string ⟨#[]⟩,.slice (some ⟨w5.heap.size,0,none⟩) 3 3] 76 (0,0))):=by
  show _=_;rw[← hW9]
  exact hx_new (by simp)
 clear hW9
 have HB9:Hid (Below w.heap.size w W9):=HB6.out.trans (HB69.out.mono (by omega))
 refine bodyPost_ret (v:=.agg #[.string ⟨#[100]⟩,.slice (some ⟨W6.heap.size,0,none⟩) 1 1,.slice (some ⟨W6.heap.size+1,0,none⟩) 1 1,.slice (some ⟨W6.heap.size+1+1,0,none⟩) 1 1,.slice none 0 0]) (sampM_res _ _ w.heap.size _ _ _ _ _ (set5M (hx_below HB69.out HR6.out)) rfl) rfl ?_
 have st:=fun {b:Nat} {o:Obj} (h:W9.heap[b]? = some o) (hne:b≠w.heap.size)=>hx_set (o:=4) (u:=.slice none 0 0) (hx_set (o:=3) (u:=.slice (some ⟨W6.heap.size+1+1,0,none⟩) 1 1) (hx_set (o:=2) (u:=.slice (some ⟨W6.heap.size+1,0,none⟩) 1 1) (hx_set (o:=1) (u:=.slice (some ⟨W6.heap.size,0,none⟩) 1 1) (hx_set (o:=0) (u:=.string ⟨#[100]⟩) h hne) hne) hne) hne) hne
 exact⟨⟨⟨some ⟨W6.heap.size,0,none⟩,1,some ⟨W6.heap.size+1,0,none⟩,1,some ⟨W6.heap.size+1+1,0,none⟩,1,none,0⟩,rfl,sampM_in (st HP9.out (by omega)) (st HV9.out (by omega)) (st HG9.out (by omega)) (st (hx_below HB69.out HV6.out) (by omega)) (st (hx_below HB69.out HE6.out) (by omega))⟩,bel5 HB9.out (Nat.le_refl _)⟩
end Go.Proofs.YtebneadheaefdaaGreatDoor
namespace Go.Proofs.YtebneadheaefdaaGreatDoor
open Go.RowKit
structure InjSt (W:World) (d:DesD) (x:DesA) (regs:List RegD) (P:Nat→Bool) (g cap:Nat):Prop where
 ins:PortsIn (World.hide W P) d.inputs x.ai x.ci
 wires:WiresIn (World.hide W P) d.wires x.aw x.cw
 outs:StrsIn (World.hide W P) d.outputs x.ao x.co
 row:RowOf W g 76 7 regs.length cap (reP W P regs)
 capm:cap≤maxLen
 hg:P g=true
section
variable {W W' : World} {d : DesD} {x : DesA} {regs : List RegD} {P P' : Nat → Bool} {g cap : Nat}
theorem InjSt.to (h:InjSt W d x regs P g cap) (hk:∀ a v,(World.hide W P).cell? a=some v→(World.hide W' P').cell? a=some v) (hr:W'.heap[g]? = W.heap[g]?) (hg:P' g=true):InjSt W' d x regs P' g cap :=
 ⟨h.ins.keep hk,h.wires.keep hk,h.outs.keep hk,(h.row.at hr).mono fun _ _ _ ⟨v,ae,ce,g0,g1,g2,g3,g4,g5,g6,g7,g8⟩=>⟨v,ae,ce,g0,g1,g2,g3,g4,g5,g6,g7,g8.keep hk⟩,h.capm,hg⟩
theorem InjSt.below (h:InjSt W d x regs P g cap) (hb:Below W.heap.size W W'):InjSt W' d x regs P g cap :=
 h.to (hk_below hb fun _ _ h=>h).cell (hb.block _ h.row.lt) h.hg
theorem InjSt.gr {b:Nat} (h:InjSt W d x regs P g cap) (hg:W.grownBy W' (some b)) (hb:P b=true) (hne:b≠g):InjSt W' d x regs P g cap :=
 h.to (hide_grown hg (fun k hk=>by obtain rfl:=Option.some.inj hk;exact hb) fun _ _ h=>h) (hg.block _ h.row.lt fun e=>hne (Option.some.inj e).symm) h.hg
theorem InjSt.des (h:InjSt W d x regs P g cap) (hl:regs.length≤1073741824):DesIn W { d with regs:=regs } ⟨x.ai,x.ci,x.aw,x.cw,some ⟨g,0,none⟩,cap,x.ao,x.co⟩:=by
 have k:=(hk_unhide W P).cell
 have hr:=rowRe_in (p:=fun _=>false) h.row rfl hl (hk_mono fun _ h=>by simp at h).cell
 exact⟨h.ins.keep k,h.wires.keep k,hr.keep (hk_unhide _ _).cell,h.outs.keep k⟩
theorem InjSt.setG {i:Nat} {e:Ex} {a:Option Addr} {c:Nat} (h:InjSt W d x regs P g cap) (hi:i < regs.length) (hz:W.grownBy W' (some g))
  (hr:W'.heap[g]? = ((((W.setCell ⟨g,i * 7+3,none⟩ (.int .i64 e.op)).setCell ⟨g,i * 7+4,none⟩ (.int .i64 e.n)).setCell ⟨g,i * 7+5,none⟩ (.string e.name)).setCell ⟨g,i * 7+6,none⟩ (.slice a e.args.length c)).heap[g]?) (he:ExIn (World.hide W' P) e a c) :
  InjSt W' d x (regs.modify i fun r=>{ r with next:=e }) P g cap:=by
 have k:=hide_grown (p:=P) (q:=P) hz (fun k hk=>by obtain rfl:=Option.some.inj hk;exact h.hg) fun _ _ h=>h
 refine⟨h.ins.keep k,h.wires.keep k,h.outs.keep k,?_,h.capm,h.hg⟩
 have hm:(regs.modify i fun r=>({ r with next:=e }:RegD)).length=regs.length:=List.length_modify _ _ _
 rw[hm]
 refine((h.row.store4 (k:=3) hi (by omega) (.int .i64 e.op) (.int .i64 e.n) (.string e.name) (.slice a e.args.length c)).at hr).mono fun j f hj hf=>?_
 by_cases ej:j=i
 ·subst ej
  rw[if_pos rfl] at hf
  obtain⟨g,⟨v,ae,ce,g0,g1,g2,g3,g4,g5,g6,g7,g8⟩,rfl⟩:=hf
  refine⟨{ v with next:=e },a,c,?_,?_,?_,?_,?_,?_,?_,?_,he⟩
  ·rw[List.getElem?_modify_eq,g0]
   rfl
  ·simpa [updF] using g1
  ·simpa [updF] using g2
  ·simpa [updF] using g3
  ·simp[updF]
  ·simp[updF]
  ·simp[updF]
  ·simp[updF]
 ·rw[if_neg ej] at hf
  obtain⟨v,ae,ce,g0,g1,g2,g3,g4,g5,g6,g7,g8⟩:=hf
  refine⟨v,ae,ce,?_,g1,g2,g3,g4,g5,g6,g7,g8.keep k⟩
  simp only[List.getElem?_modify,if_neg (Ne.symm ej),g0]
  rfl
def regCells (r:RegD) (a:Option Addr) (c:Nat):List Value:=[.string r.name,.int .i64 r.width,.int .i64 r.init,.int .i64 r.next.op,.int .i64 r.next.n,.string r.next.name,.slice a r.next.args.length c]
theorem InjSt.app {wb wg:World} {B g' cap' c:Nat} {a:Option Addr} {r:RegD} {xs:List Value} (h:InjSt W d x regs P g cap)
  (hx:W.ownsRow B 76 7 (.slice (some ⟨g,0,none⟩) regs.length cap) regs.length xs) (hP:∀ i,i < regs.length→reP W P regs i (fun j=>if j < 7 then xs[i * 7+j]? else none))
  (hb:Below W.heap.size W wb) (hgr:wb.grownBy wg (some g)) (hat:g=g'∨W.heap.size≤g')
  (ho:wg.ownsRow B 76 7 (.slice (some ⟨g',0,none⟩) (regs.length+1) cap') (regs.length+1) (xs++regCells r a c)) (he:ExIn (World.hide W P) r.next a c) (hq:∀ k,k < W.heap.size→P' k=true→P k=true) (hg':P' g'=true) :
  InjSt wg d x (regs++[r]) P' g' cap':=by
 have hk:∀ a v,(World.hide W P).cell? a=some v→(World.hide wg P').cell? a=some v:=hide_grown (w:=W) (row:=some g) ⟨hgr.os.trans hb.os,hgr.tape.trans hb.tape,hgr.output.trans hb.output,Nat.le_trans hb.size hgr.size,fun k hk hn=>(hgr.block k (Nat.lt_of_lt_of_le hk hb.size) hn).trans (hb.block k hk)⟩ (fun k hk=>by obtain rfl:=Option.some.inj hk;exact h.hg) hq
 obtain⟨b2,cap2,he2,hb2,hr⟩:=rowOf_owns ho (by omega)
 simp only[Value.slice.injEq,Option.some.injEq,Addr.mk.injEq,and_true] at he2
 obtain⟨rfl,_,rfl⟩:=he2
 have hcm:cap'≤maxLen:=by
  rcases ho.2 with ⟨q,_⟩ | ⟨g0,cap0,cur,q,_,_,_,hm,_⟩
  ·simp at q
  ·simp only[Value.slice.injEq] at q
   obtain⟨_,_,rfl⟩:=q
   exact hm
 have hxl:xs.length=regs.length * 7:=hx.1
 refine⟨h.ins.keep hk,h.wires.keep hk,h.outs.keep hk,?_,hcm,hg'⟩
 rw[List.length_append,List.length_singleton]
 refine hr.mono fun i f hi hf=>?_
 by_cases e:i < regs.length
 ·obtain⟨v,ae,ce,g0,g1,g2,g3,g4,g5,g6,g7,g8⟩:=hP i e
  have hc:∀ j,j < 7→f j=(fun j=>if j < 7 then xs[i * 7+j]? else none) j:=fun j hj=>by
   rw[hf j hj]
   simp only[if_pos hj]
   exact List.getElem?_append_left (by omega)
  exact⟨v,ae,ce,by rw[List.getElem?_append_left e];exact g0,(hc 0 (by omega)).trans g1,(hc 1 (by omega)).trans g2,(hc 2 (by omega)).trans g3,(hc 3 (by omega)).trans g4,(hc 4 (by omega)).trans g5,(hc 5 (by omega)).trans g6,(hc 6 (by omega)).trans g7,g8.keep hk⟩
 ·obtain rfl:i=regs.length:=by omega
  have hc:∀ j,j < 7→f j=(regCells r a c)[j]?:=fun j hj=>by
   rw[hf j hj,List.getElem?_append_right (by omega),hxl]
   congr 1
   omega
  exact⟨r,a,c,by rw[List.getElem?_append_right (Nat.le_refl _)];simp,hc 0 (by omega),hc 1 (by omega),hc 2 (by omega),hc 3 (by omega),hc 4 (by omega),hc 5 (by omega),hc 6 (by omega),he.keep hk⟩
theorem InjSt.ofNew {B b:Nat} {bw br:Option Nat} (h:NewA W B d x bw br) (hr:br=some b) (hb:Below W.heap.size W W') (hp:∀ k,k < W.heap.size→P k=true→k=b∨k < B) (hPb:P b=true):InjSt W' d x d.regs P b x.cr:=by
 have hk:∀ a v,(World.hide W (newP B bw br)).cell? a=some v→(World.hide W' P).cell? a=some v:=(hk_below hb fun k hk hq=>newP_true.2 (by
  rcases hp k hk hq with h | h
  ·subst h;exact Or.inr (Or.inr hr)
  ·exact Or.inl h)).cell
 refine⟨h.ins.keep hk,?_,h.outs.mono fun _ _ _ _ ⟨v,hv,h1⟩=>⟨v,hv,hk _ _ h1⟩,?_,?_,hPb⟩
 ·obtain⟨h1,h2,h3,h4⟩:=h.wires
  refine⟨h2,by omega,h4.imp (fun h=>h.1) ?_⟩
  rintro ⟨b',hb',hb2,ha,hrow⟩
  refine⟨b',0,ha,fun i hi=>?_⟩
  obtain⟨f,⟨v,ae,ce,g0,g1,g2,g3,g4,g5,g6,g7⟩,hf⟩:=hrow.get hi
  rw[Nat.zero_add]
  rw[if_pos hi] at g7
  have hpb:P b'=false:=by
   cases e:P b' with
   | false=>rfl
   | true =>
    rcases hp b' hrow.lt e with q | q
    ·exact absurd hr (by rw[← q];exact h.ne b' hb')
    ·omega
  have hc:∀ o v,W.cell? ⟨b',o,none⟩=some v→(World.hide W' P).cell? ⟨b',o,none⟩=some v:=fun o v hv=>cell_hide.2 ⟨hpb,keeps_of_below hb _ _ hv⟩
  exact⟨v,g0,hc _ _ (hf 0 _ g1),hc _ _ (hf 1 _ g2),(ExAt_iff _ _ _ _).2 ⟨ae,ce,hc _ _ (hf 2 _ g3),hc _ _ (hf 3 _ g4),hc _ _ (hf 4 _ g5),hc _ _ (hf 5 _ g6),g7.keep hk⟩⟩
 ·obtain⟨h1,h2,h3,h4⟩:=h.regs
  rcases h4 with q | ⟨b',hb',hb2,ha,hrow⟩
  ·rw[q.2] at hr;simp at hr
  ·rw[hr] at hb'
   obtain rfl:=Option.some.inj hb'
   exact(hrow.at (hb.block _ hrow.lt)).mono fun i f hi ⟨v,ae,ce,g0,g1,g2,g3,g4,g5,g6,g7,g8⟩=>⟨v,ae,ce,g0,g1,g2,g3,g4,g5,g6,g7,by rw[if_pos hi] at g8;exact g8.keep hk⟩
 ·exact h.regs.2.2.1
end
end Go.Proofs.YtebneadheaefdaaGreatDoor
