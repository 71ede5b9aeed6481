/- nfa.Compile. -/
import Derived.Test.YthojpomoflhbcaaGreatDoorM26
import Derived.Test.YthojpomoflhbcaaGreatDoorM29
import Derived.Test.YthojpomoflhbcaaGreatDoorM31
import Derived.Test.YthojpomoflhbcaaGreatDoorM10
import Derived.Test.YthojpomoflhbcaaGreatDoorM18
import Derived.Test.YthojpomoflhbcaaGreatDoorM13
import Derived.Test.YthojpomoflhbcaaGreatDoorM25
set_option linter.unusedSimpArgs false
set_option linter.unusedVariables false
set_option linter.unnecessarySimpa false
namespace Go.Proofs.YthojpomoflhbcaaGreatDoor
open Go.RowKit
attribute [local go_sem ↓] Go.wp_at_zero Go.wp_at_succ
noncomputable def compS (s:Tq):Option NfaD × Int:=if validT s≠0 then (none,1) else match compN s with | none=>(none,2) | some n=>(some (trimS n),0)
def CompR (p:Nat→Bool) (r:Option NfaD × Int) (w:World) (e:Ending) (w':World):Prop :=
 (match r.1 with
  | some m=>∃ y:NfaA,e=.returned (.tuple #[.agg #[.int .i64 m.states,.slice y.ae m.edges.length y.ce,.slice y.aa m.accept.length y.ca],.int .i64 r.2])∧NfaIn (World.hide w' p) m y
  | none=>e=.returned (.tuple #[.agg #[.int .i64 0,.slice none 0 0,.slice none 0 0],.int .i64 r.2]))∧Below w.heap.size w w'
end Go.Proofs.YthojpomoflhbcaaGreatDoor
namespace Go.Proofs.YthojpomoflhbcaaGreatDoor
open Go.RowKit
def lkS (env:List Sg) (s:ByteArray):Int:=(findS env s).getD 0
theorem tl_beq {a b:ByteArray}:(a.toList == b.toList)=true↔a=b:=by
 constructor
 ·intro h
  have h2:=eq_of_beq h
  rw[ByteArray.toList_eq,ByteArray.toList_eq] at h2
  exact ba_ext h2
 ·rintro rfl;simp
theorem findS_cons (x:Sg) (l:List Sg) (s:ByteArray):findS (x::l) s=if x.1=s then some (wrapW x.2) else findS l s:=by
 show (if (x.1.toList == s.toList)=true then _ else _)=_
 by_cases h:x.1=s
 ·rw[if_pos h,if_pos (tl_beq.2 h)]
 ·rw[if_neg h,if_neg fun e=>h (tl_beq.1 e)]
theorem findS_append (l m:List Sg) (s:ByteArray):findS (l++m) s=(findS l s).or (findS m s):=by
 induction l with
 | nil=>rfl
 | cons x l ih =>
  rw[List.cons_append,findS_cons,findS_cons,ih]
  split<;>simp
theorem findS_some {l:List Sg} {s:ByteArray} (h:∃ v,(s,v)∈l):(findS l s).isSome=true:=by
 induction l with
 | nil=>obtain⟨v,hv⟩:=h;cases hv
 | cons x l ih =>
  rw[findS_cons]
  by_cases hx:x.1=s
  ·rw[if_pos hx];rfl
  ·rw[if_neg hx]
   refine ih ?_
   obtain⟨v,hv⟩:=h
   rcases List.mem_cons.1 hv with h2 | h2
   ·rw[← h2] at hx;exact absurd rfl hx
   ·exact⟨v,h2⟩
theorem findS_zero {l:List Sg} (h:∀ x∈l,x.2=0) (s:ByteArray):(findS l s).getD 0=0:=by
 induction l with
 | nil=>rfl
 | cons x l ih =>
  rw[findS_cons]
  split
  ·rw[h x (List.mem_cons_self ..)];rfl
  ·exact ih fun y hy=>h y (List.mem_cons_of_mem _ hy)
def AskN (e:Ex) (s:ByteArray):Prop:=(∃ x∈e.nodes,x.op=2∧x.name=s)∨∃ x∈e.nodes,(x.op=3∨x.op=24)∧∃ i:Nat,i < 8∧s=elName x.name i
theorem node_arg {e x y:Ex} (hx:x∈e.args) (hy:y∈x.nodes):y∈e.nodes:=by
 rw[Ex.nodes_eq]
 exact List.mem_cons_of_mem _ (List.mem_flatten.2 ⟨_,List.mem_map.2 ⟨x,hx,rfl⟩,hy⟩)
theorem AskN.arg {e x:Ex} {s:ByteArray} (hx:x∈e.args) (h:AskN x s):AskN e s:=by
 rcases h with ⟨y,hy,h⟩ | ⟨y,hy,h⟩
 ·exact Or.inl ⟨y,node_arg hx hy,h⟩
 ·exact Or.inr ⟨y,node_arg hx hy,h⟩
theorem atS_lk (env:List Sg) (s:ByteArray) (i:Int):(atS env s i).getD 0=if i < 0∨8≤i then 0 else lkS env (elName s i):=by
 unfold atS lkS;split<;>rfl
theorem value_lk {env env':List Sg} (e:Ex):(∀ s,AskN e s→lkS env s=lkS env' s)→valueS env e=valueS env' e:=by
 induction e using Ex.ind with
 | h e ih =>
  intro hf
  have hself:e∈e.nodes:=by rw[Ex.nodes_eq];exact List.mem_cons_self ..
  rw[valueS_eq,valueS_eq]
  have hl:e.args.map (valueS env)=e.args.map (valueS env'):=List.map_congr_left fun x hx=>ih x hx fun s hs=>hf s (hs.arg hx)
  rw[hl]
  have hel:∀ i:Int,e.op=3∨e.op=24→(atS env e.name i).getD 0=(atS env' e.name i).getD 0:=by
   intro i ho
   rw[atS_lk,atS_lk]
   split
   ·rfl
   ·rename_i hi
    refine hf _ (Or.inr ⟨e,hself,ho,i.toNat,by omega,?_⟩)
    rw[show ((i.toNat:Nat):Int)=i by omega]
  by_cases h1:e.op=1
  ·rw[if_pos h1,if_pos h1]
  rw[if_neg h1,if_neg h1]
  by_cases h2:e.op=2
  ·rw[if_pos h2,if_pos h2]
   exact hf _ (Or.inl ⟨e,hself,h2,rfl⟩)
  rw[if_neg h2,if_neg h2]
  by_cases h3:e.op=3
  ·rw[if_pos h3,if_pos h3]
   exact hel _ (Or.inl h3)
  rw[if_neg h3,if_neg h3]
  by_cases h4:e.op=24
  ·rw[if_pos h4,if_pos h4]
   have:∀ k:Nat,sumTo env e.name k=sumTo env' e.name k:=by
    intro k
    induction k with
    | zero=>rfl
    | succ k ih2 =>
     show addW (sumTo env e.name k) ((atS env e.name k).getD 0)=addW (sumTo env' e.name k) ((atS env' e.name k).getD 0)
     rw[ih2,hel _ (Or.inr h4)]
   exact this 8
  ·rw[if_neg h4,if_neg h4]
theorem valN_val {e:Ex} (h:okX e=true) (loc env:List Sg):valN e loc env=valueS (loc++env) e:=by
 have hv:validS e=0:=by unfold okX at h;exact eq_of_beq h
 have hk:knownS (loc++env++extN e) e=true:=by
  unfold knownS
  rw[Bool.and_eq_true,List.all_eq_true,List.all_eq_true]
  refine⟨fun s hs=>?_,fun s hs=>?_⟩
  ·refine findS_some ⟨0,?_⟩
   refine List.mem_append_right _ (List.mem_append_left _ (List.mem_map.2 ⟨s,hs,rfl⟩))
  ·show (atS _ s 0).isSome=true
   unfold atS
   rw[if_neg (by omega)]
   refine findS_some ⟨0,?_⟩
   refine List.mem_append_right _ (List.mem_append_right _ (List.mem_map.2 ⟨s,hs,?_⟩))
   refine Prod.ext ?_ rfl
   apply ByteArray.ext
   apply Array.ext'
   simp[elName]
 unfold valN evalS
 rw[if_neg (by simpa using hv),if_neg (by rw[hk];simp)]
 refine value_lk e fun s _=>?_
 unfold lkS
 rw[findS_append]
 cases hf:findS (loc++env) s with
 | some v=>rfl
 | none =>
  rw[Option.none_or]
  refine findS_zero (fun x hx=>?_) s
  unfold extN at hx
  rcases List.mem_append.1 hx with hx | hx
  ·obtain⟨_,_,rfl⟩:=List.mem_map.1 hx;rfl
  ·obtain⟨_,_,rfl⟩:=List.mem_map.1 hx;rfl
def Agr (S:List ByteArray) (l l0:List Sg):Prop:=∀ env s,¬ s∈S→lkS (l++env) s=lkS (l0++env) s
theorem Agr.refl (S:List ByteArray) (l:List Sg):Agr S l l:=fun _ _ _=>rfl
theorem Agr.trans {S:List ByteArray} {l l1 l2:List Sg} (h:Agr S l l1) (h2:Agr S l1 l2):Agr S l l2:=fun env s hs=>(h env s hs).trans (h2 env s hs)
end Go.Proofs.YthojpomoflhbcaaGreatDoor
namespace Go.Proofs.YthojpomoflhbcaaGreatDoor
open Go.RowKit
def vN (c:UInt8):Ex:=.mk 2 0 ⟨#[c]⟩ []
def isN (c:UInt8):Tq:=.mk 1 0 0 (vN c) ⟨#[]⟩ []
def smN:Tq:=.mk 2 0 1 (.mk 0 0 ⟨#[]⟩ []) ⟨#[]⟩ [isN 97,isN 98]
def smI (c:UInt8):NfaD:=⟨2,[⟨0,1,[vN c],[]⟩],[1]⟩
def smO:NfaD:=⟨3,[⟨0,1,[vN 97],[]⟩,⟨0,2,[vN 97,vN 98],[]⟩,⟨1,2,[vN 98],[]⟩],[2]⟩
theorem nodes_vN (c:UInt8):(vN c).nodes=[vN c]:=by rw[Ex.nodes_eq];simp[vN,Ex.args_mk]
theorem depth_vN (c:UInt8):(vN c).depth=1:=by rw[Ex.depth_eq];simp[vN,Ex.args_mk]
theorem valid_vN (c:UInt8) (h:firstE [vN c]=0):validS (vN c)=0:=by
 unfold validS
 rw[nodes_vN,h,depth_vN,if_neg]
 rintro ⟨_,h | h⟩
 ·omega
 ·rw[List.length_singleton] at h;omega
theorem ok97:okX (vN 97)=true:=by unfold okX;rw[valid_vN 97 (by decide)];rfl
theorem ok98:okX (vN 98)=true:=by unfold okX;rw[valid_vN 98 (by decide)];rfl
theorem smI_ok {c:UInt8} (h:okX (vN c)=true):nfaOk (smI c)=true:=by
 have e1:accB 2 [1] 1=true:=by decide
 have e2:(0:Int)≤0∧(0:Int) < 2∧(0:Int)≤1∧(1:Int) < 2:=by decide
 refine nfaOk_iff.2 ⟨by simp[smI],fun e he=>?_,e1⟩
 obtain rfl:=List.mem_singleton.1 he
 exact edgeOk_iff.2 ⟨e2,fun g hg=>by obtain rfl:=List.mem_singleton.1 hg;exact h,fun b hb=>by cases hb⟩
theorem smO_ok:nfaOk smO=true:=by
 refine nfaOk_iff.2 ⟨by simp[smO],fun e he=>?_,by decide⟩
 simp only[smO,List.mem_cons,List.not_mem_nil,or_false] at he
 rcases he with rfl | rfl | rfl
 ·exact edgeOk_iff.2 ⟨by decide,fun g hg=>by obtain rfl:=List.mem_singleton.1 hg;exact ok97,fun b hb=>by cases hb⟩
 ·refine edgeOk_iff.2 ⟨by decide,fun g hg=>?_,fun b hb=>by cases hb⟩
  simp only[List.mem_cons,List.not_mem_nil,or_false] at hg
  rcases hg with rfl | rfl
  ·exact ok97
  ·exact ok98
 ·exact edgeOk_iff.2 ⟨by decide,fun g hg=>by obtain rfl:=List.mem_singleton.1 hg;exact ok98,fun b hb=>by cases hb⟩
theorem comp_isN {c:UInt8} (h:okX (vN c)=true):compN (isN c)=some (smI c):=by
 rw[compN_eq]
 show nodeN (isN c) []=_
 show doneN (smI c)=_
 unfold doneN
 rw[if_pos (smI_ok h)]
theorem sm_delay:delayN 0 1 (smI 97) (smI 98)=smO:=by rfl
theorem comp_smN:compN smN=some smO:=by
 rw[compN_eq]
 have e:smN.args.map compN=[some (smI 97),some (smI 98)]:=by
  show [compN (isN 97),compN (isN 98)]=_
  rw[comp_isN ok97,comp_isN ok98]
 rw[e]
 show doneN (delayN 0 1 (smI 97) (smI 98))=_
 rw[sm_delay]
 unfold doneN
 rw[if_pos smO_ok]
theorem trim_smO:trimS smO=smO:=by
 unfold trimS
 rw[if_pos smO_ok]
 rfl
theorem sizes_isN (c:UInt8):(isN c).depth=1∧(isN c).nodes=1:=by
 rw[Tq.depth_eq,Tq.nodes_eq]
 exact⟨rfl,rfl⟩
theorem check_isN {c:UInt8} (h:okX (vN c)=true) (b:Bool):checkT (isN c) b=0:=by
 have hv:validS (vN c)=0:=by simpa [okX] using h
 have:nodeT (isN c) b=0:=by
  simp[nodeT,shapeB,isN,Tq.op,Tq.args,Tq.lo,Tq.hi,Tq.name,Tq.expr,writtenB,hv,ByteArray.size]
 rw[checkT_eq,if_pos this]
 rfl
theorem valid_smN:validT smN=0:=by
 have hd:smN.depth=2:=by
  rw[Tq.depth_eq]
  show List.foldl max 0 [(isN 97).depth,(isN 98).depth]+1=2
  rw[(sizes_isN 97).1,(sizes_isN 98).1];rfl
 have hn:smN.nodes=3:=by
  rw[Tq.nodes_eq]
  show 1+[(isN 97).nodes,(isN 98).nodes].sum=3
  rw[(sizes_isN 97).2,(sizes_isN 98).2];rfl
 have h0:nodeT smN false=0:=by
  simp[nodeT,shapeB,smN,Tq.op,Tq.args,Tq.lo,Tq.hi,Tq.name,Tq.expr,writtenB,zeroX,Ex.op_mk,Ex.n_mk,Ex.name_mk,Ex.args_mk,ByteArray.size]
 unfold validT
 rw[hd,hn,if_neg (by omega),checkT_eq,if_pos h0]
 show firstZ [checkT (isN 97) _,checkT (isN 98) _]=0
 rw[check_isN ok97,check_isN ok98];rfl
def smE:List Sg:=[(⟨#[97]⟩,1),(⟨#[98]⟩,1)]
theorem val_97:valN (vN 97) [] smE=1:=by
 rw[valN_val ok97,valueS_eq,if_neg (by decide),if_pos (by rfl)]
 simp[smE,findS_cons,vN,Ex.name_mk,wrapW]
theorem val_98:valN (vN 98) [] smE=1:=by
 rw[valN_val ok98,valueS_eq,if_neg (by decide),if_pos (by rfl)]
 simp[smE,findS_cons,vN,Ex.name_mk,wrapW]
theorem take_sm {e:EdgeD} (hg:∀ g∈e.guards,g=vN 97∨g=vN 98) (hs:e.sets=[]):takeS e [] smE=some []:=by
 have h1:e.guards.all (fun g=>valN g [] smE != 0)=true:=List.all_eq_true.2 fun g h=>by
  rcases hg g h with rfl | rfl
  ·rw[val_97];rfl
  ·rw[val_98];rfl
 unfold takeS
 rw[if_pos h1,hs]
 rfl
theorem step_smO:nstepS smO [⟨0,[]⟩] smE=([⟨1,[]⟩,⟨2,[]⟩],0):=by
 have hst:stepTo smO smE [⟨0,[]⟩] 1=[⟨1,[]⟩,⟨2,[]⟩]:=by
  show stepE smE ⟨0,[]⟩ (stepE smE ⟨0,[]⟩ (stepE smE ⟨0,[]⟩ [] ⟨0,1,[vN 97],[]⟩) ⟨0,2,[vN 97,vN 98],[]⟩) ⟨1,2,[vN 98],[]⟩=_
  have t1:=take_sm (e:=⟨0,1,[vN 97],[]⟩) (by simp) rfl
  have t2:=take_sm (e:=⟨0,2,[vN 97,vN 98],[]⟩) (by simp) rfl
  have e1:stepE smE ⟨0,[]⟩ [] ⟨0,1,[vN 97],[]⟩=[⟨1,[]⟩]:=by unfold stepE;rw[if_pos rfl,t1];rfl
  have e2:stepE smE ⟨0,[]⟩ [⟨1,[]⟩] ⟨0,2,[vN 97,vN 98],[]⟩=[⟨1,[]⟩,⟨2,[]⟩]:=by unfold stepE;rw[if_pos rfl,t2];rfl
  rw[e1,e2]
  unfold stepE
  rw[if_neg (by decide)]
 have ht:([⟨0,[]⟩]:List ThrD).all (thrOk smO)=true:=by rfl
 unfold nstepS
 rw[smO_ok,ht]
 show (if 256 < (stepTo smO smE [⟨0,[]⟩] 1).length then _ else (stepTo smO smE [⟨0,[]⟩] 1,_))=_
 rw[hst]
 rfl
theorem acc_smO:acceptS smO [⟨1,[]⟩,⟨2,[]⟩]=[⟨2,[]⟩]:=rfl
end Go.Proofs.YthojpomoflhbcaaGreatDoor
namespace Go.Proofs.YthojpomoflhbcaaGreatDoor
open Go.RowKit
attribute [local go_sem ↓] Go.wp_at_zero Go.wp_at_succ
set_option maxHeartbeats 4000000 in
theorem ts_res (fn:Func) (hr:fn.results=#[.cell 2 27]) (W:World) (tm:Array Value) (b:Nat) (m0 m1 m2 m3 m4 m5 m6 m7 m8:Value) (hW:W.heap[b]? = some (.cells #[m0,m1,m2,m3,m4,m5,m6,m7,m8] 27 (0,0))) (h0:tm.getD 2 undef=.pointer (some ⟨b,0,none⟩)) :
  (results fn tm).run Tryz.prog W=.ok (.agg #[m0,m1,m2,m3,m4,m5,m6,m7,m8]) W:=by
 obtain⟨c0,c1,c2,c3,c4,c5,c6,c7,c8⟩:=cell9TF hW
 rw[results_cellC hr,h0]
 simp[asAddr]
 go_simp
set_option maxHeartbeats 4000000 in
set_option maxRecDepth 100000 in
theorem is_any (c:UInt8) (w:World):Calls Tryz.prog 41 #[.string ⟨#[c]⟩] w fun e w'=>e=.returned (tqVal (isN c) none 0 none 0)∧Below w.heap.size w w':=by
 go_enter Tryz.func41, Tryz.ntmps41
 go_wp2_with fail
 refine bodyPost_ret (v:=tqVal (isN c) none 0 none 0) (ts_res _ rfl _ _ w.heap.size _ _ _ _ _ _ _ _ _ (hx_newT rfl) rfl) rfl ⟨rfl,(Below.refl _ _).alloc (Nat.le_refl _) _⟩
theorem in_isN (W:World) (c:UInt8):TqIn W (isN c) none 0 none 0:=by
 have hz:(⟨#[c]⟩:ByteArray).size≤1073741824:=by show 1≤1073741824;omega
 refine⟨by show 0≤1073741824;omega,⟨hz,?_⟩,?_⟩
 ·exact⟨Nat.le_refl _,by simp[isN,vN,Tq.expr,Ex.args_mk],Or.inl rfl⟩
 ·exact⟨Nat.le_refl _,by simp[isN,Tq.args],Or.inl rfl⟩
theorem in_smN {W:World} {b:Nat} (h:W.heap[b]? = some (.cells ((tqCells (isN 97) none 0 none 0)++(tqCells (isN 98) none 0 none 0)).toArray 27 (0,0))):TqIn W smN none 0 (some ⟨b,0,none⟩) 2:=by
 refine⟨by decide,⟨by decide,?_⟩,?_⟩
 ·exact⟨Nat.le_refl _,by simp[smN,Tq.expr,Ex.args_mk],Or.inl rfl⟩
 ·refine⟨by simp[smN,Tq.args],by simp[smN,Tq.args],Or.inr ⟨b,0,rfl,fun i hi=>?_⟩⟩
  have hi2:i < 2:=by simpa [smN,Tq.args] using hi
  match i,hi2 with
  | 0,_ =>
   refine⟨isN 97,rfl,(TqAt_iff _ _ _ _).2 ⟨none,0,none,0,fun j v hj=>?_,in_isN W 97⟩⟩
   have hj2:=(List.getElem?_eq_some_iff.1 hj).1
   rw[cell_of_blkT h]
   show ((tqCells (isN 97) none 0 none 0)++(tqCells (isN 98) none 0 none 0)).toArray[0+0 * 9+j]? = _
   rw[List.getElem?_toArray,show 0+0 * 9+j=j by omega,List.getElem?_append_left hj2];exact hj
  | 1,_ =>
   refine⟨isN 98,rfl,(TqAt_iff _ _ _ _).2 ⟨none,0,none,0,fun j v hj=>?_,in_isN W 98⟩⟩
   rw[cell_of_blkT h]
   show ((tqCells (isN 97) none 0 none 0)++(tqCells (isN 98) none 0 none 0)).toArray[0+1 * 9+j]? = _
   have hl:(tqCells (isN 97) none 0 none 0).length=9:=rfl
   rw[List.getElem?_toArray,List.getElem?_append_right (by omega),show 0+1 * 9+j - (tqCells (isN 97) none 0 none 0).length=j by omega];exact hj
theorem smT_smN:SmT smN:=by
 have h1:∀ c,SmT (isN c):=fun c=>(SmT_iff _).2 ⟨by show (vN c).nodes.length≤_;rw[nodes_vN];simp,fun a ha=>by simp[isN,Tq.args] at ha⟩
 refine(SmT_iff _).2 ⟨?_,fun a ha=>?_⟩
 ·show (Ex.mk 0 0 ⟨#[]⟩ []).nodes.length≤_
  rw[Ex.nodes_eq];simp[Ex.args_mk]
 ·simp[smN,Tq.args] at ha
  rcases ha with rfl | rfl
  ·exact h1 97
  ·exact h1 98
theorem compS_smN:compS smN=(some smO,0):=by
 unfold compS
 rw[valid_smN,comp_smN,if_neg (by simp)]
 show (some (trimS smO),(0:Int))=_
 rw[trim_smO]
theorem nodes_smN:smN.nodes≤1000000000:=by
 have h1:∀ c,(isN c).nodes=1:=fun c=>by rw[Tq.nodes_eq];simp[isN,Tq.args]
 rw[Tq.nodes_eq]
 show 1+([isN 97,isN 98].map Tq.nodes).sum≤_
 simp[h1]
theorem smO_small:SmallN smO∧∀ e∈smO.edges,StepEd e:=by
 refine⟨fun e he=>?_,fun e he=>?_⟩
 ·simp only[smO,List.mem_cons,List.not_mem_nil,or_false] at he
  rcases he with rfl | rfl | rfl<;>refine⟨fun g hg=>?_,fun b hb=>by cases hb⟩<;>simp at hg
  ·subst hg;rw[nodes_vN];simp
  ·rcases hg with rfl | rfl<;>(rw[nodes_vN];simp)
  ·subst hg;rw[nodes_vN];simp
 ·simp only[smO,List.mem_cons,List.not_mem_nil,or_false] at he
  rcases he with rfl | rfl | rfl<;>refine⟨fun g hg=>?_,fun b hb=>(by cases hb),by simp⟩<;>simp at hg
  ·subst hg;rw[nodes_vN];simp
  ·rcases hg with rfl | rfl<;>(rw[nodes_vN];simp)
  ·subst hg;rw[nodes_vN];simp
end Go.Proofs.YthojpomoflhbcaaGreatDoor
namespace Go.Proofs.YthojpomoflhbcaaGreatDoor
open Go.RowKit
attribute [local go_sem ↓] Go.wp_at_zero Go.wp_at_succ
theorem smS_in {W:World} {k:Nat} (h:W.heap[k]? = some (.cells #[.string ⟨#[97]⟩,.int .i64 1,.string ⟨#[98]⟩,.int .i64 1] 78 (0,0))):sgE.In W smE (some ⟨k,0,none⟩) 2:=by
 refine⟨by simp[smE],by simp[smE],Or.inr ⟨k,0,rfl,fun i hi=>?_⟩⟩
 have hi2:i < 2:=by simpa [smE] using hi
 match i,hi2 with
 | 0,_=>exact⟨_,rfl,sgE_at.2 ⟨by rw[cell_of_blkT h];rfl,by rw[cell_of_blkT h];rfl⟩⟩
 | 1,_=>exact⟨_,rfl,sgE_at.2 ⟨by rw[cell_of_blkT h];rfl,by rw[cell_of_blkT h];rfl⟩⟩
end Go.Proofs.YthojpomoflhbcaaGreatDoor
