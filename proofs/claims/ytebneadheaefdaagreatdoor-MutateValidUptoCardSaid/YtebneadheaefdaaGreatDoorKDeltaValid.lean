/- law34, plain: the sites of an expression and the mutants of a design. -/
import Derived.Test.YtebneadheaefdaaGreatDoorKA
import Derived.Test.YtebneadheaefdaaGreatDoorKB
import Derived.Test.YtebneadheaefdaaGreatDoorDA
import Derived.Test.YtebneadheaefdaaGreatDoorKC
import Derived.Test.YtebneadheaefdaaGreatDoorKD
import Derived.Test.YtebneadheaefdaaGreatDoorKE
import Derived.Test.YtebneadheaefdaaGreatDoorKF
import Derived.Test.YtebneadheaefdaaGreatDoorDB
import Derived.Test.YtebneadheaefdaaGreatDoorDC
import Derived.Test.YtebneadheaefdaaGreatDoorEK
import Derived.Test.YtebneadheaefdaaGreatDoorEP
import Derived.Test.YtebneadheaefdaaGreatDoorKNames
import Derived.Test.YtebneadheaefdaaGreatDoorDE
import Derived.Test.YtebneadheaefdaaGreatDoorDF
import Derived.Test.YtebneadheaefdaaGreatDoorDG
import Derived.Test.YtebneadheaefdaaGreatDoorDH
import Derived.Test.YtebneadheaefdaaGreatDoorDI
import Derived.Test.YtebneadheaefdaaGreatDoorDJ
import Derived.Test.YtebneadheaefdaaGreatDoorDK
import Derived.Test.YtebneadheaefdaaGreatDoorDL
import Derived.Test.YtebneadheaefdaaGreatDoorDV
import Derived.Test.YtebneadheaefdaaGreatDoorEJ
import Derived.Test.YtebneadheaefdaaGreatDoorEO
import Derived.Test.YtebneadheaefdaaGreatDoorEA
import Derived.Test.YtebneadheaefdaaGreatDoorFB
import Derived.Test.YtebneadheaefdaaGreatDoorEC
import Derived.Test.YtebneadheaefdaaGreatDoorFC
import Derived.Test.YtebneadheaefdaaGreatDoorFD
import Derived.Test.YtebneadheaefdaaGreatDoorFE
import Derived.Test.YtebneadheaefdaaGreatDoorFR
import Derived.Test.YtebneadheaefdaaGreatDoorFJ
import Derived.Test.YtebneadheaefdaaGreatDoorFI
import Derived.Test.YtebneadheaefdaaGreatDoorFF
import Derived.Test.YtebneadheaefdaaGreatDoorFG
import Derived.Test.YtebneadheaefdaaGreatDoorFH
import Derived.Test.YtebneadheaefdaaGreatDoorED
import Derived.Test.YtebneadheaefdaaGreatDoorEL
import Derived.Test.YtebneadheaefdaaGreatDoorEM
import Derived.Test.YtebneadheaefdaaGreatDoorDM
import Derived.Test.YtebneadheaefdaaGreatDoorFK
import Derived.Test.YtebneadheaefdaaGreatDoorFL
import Derived.Test.YtebneadheaefdaaGreatDoorFM
import Derived.Test.YtebneadheaefdaaGreatDoorER
import Derived.Test.YtebneadheaefdaaGreatDoorES
import Derived.Test.YtebneadheaefdaaGreatDoorFP
import Derived.Test.YtebneadheaefdaaGreatDoorFN
import Derived.Test.YtebneadheaefdaaGreatDoorEI
import Derived.Test.YtebneadheaefdaaGreatDoorFO
import Derived.Test.YtebneadheaefdaaGreatDoorFQ
import Derived.WalkKit
import Derived.WalkSmall
import Derived.Test.YtebneadheaefdaaGreatDoorShelf
import Derived.WalkLawsBesides
import Derived.WalkSpells
import Derived.BigQuiet
import Derived.Deep.QuietTactic
import Derived.Lib.Hide
import Derived.Laws.EntriesVeiled
import Derived.Lib.Tables
import Derived.StillTailTactics
import Derived.Deep.RegionHeld3
import Derived.Deep.Cut
import Derived.Deep.AppendLies
import Derived.Deep.RegionLaw
import Derived.Laws.Rows
import Derived.Maps.OwnOps
import Derived.Maps.OwnSet
import Derived.Lib.SlKeysI
import Derived.Deep.DrawnRows
import Derived.Deep.LoopGhost
import Derived.Test.YtebneadheaefdaaGreatDoorRows
import Derived.Lib.SmallJoins
import Derived.Deep.Slices
import Derived.Test.YtebneadheaefdaaGreatDoorCards
import Derived.Test.YtebneadheaefdaaGreatDoorTie
import Derived.ProofKit
import Derived.OpenShut
import Derived.Carry
import Derived.SliceStrings
import Derived.JoinedCond
import Derived.SevenTiedAt
import Derived.Deep.DeepHandedRow
import Derived.Deep.DeepWitnessRowRef
import Derived.Lib.LaidIn
import Derived.Shelf.Vars
import Derived.Lib.LaidTab
import Derived.Test.YtebneadheaefdaaGreatDoorShelfI
import Derived.Laws.OwnMore
import Derived.OneCell
import Derived.Lib.ItoaNum
import Derived.Test.YtebneadheaefdaaGreatDoorShelfJ
import Derived.Lib.ItoaLen
import Derived.Lib.AppendIntMem
import Derived.Laws.BytesArg
import Derived.Deep.CutRange
set_option linter.unusedSimpArgs false
set_option linter.unusedVariables false
set_option linter.unnecessarySimpa false
namespace Go.Proofs.YtebneadheaefdaaGreatDoor
theorem fold_all {P:Nat→Mut→Prop} (d:DesD) (l:List Mut) (hl:∀ m∈l,∀ k,(m.1.named k).err=0→P k (m.1.named k,m.2)):∀ acc:List Mut,(∀ k (hk:k < acc.length),P k (acc[k]'hk))→∀ k (hk:k < (l.foldl addM acc).length),P k ((l.foldl addM acc)[k]'hk):=by
 induction l with
 | nil=>intro acc h;exact h
 | cons m l ih =>
  intro acc h
  rw[List.foldl_cons]
  refine ih (fun m hm=>hl m (List.mem_cons_of_mem _ hm)) _ ?_
  intro k hk
  unfold addM at hk⊢
  by_cases he:(m.1.named acc.length).err=0
  ·simp only[if_pos he] at hk⊢
   rw[List.length_append,List.length_singleton] at hk
   rcases Nat.lt_or_ge k acc.length with q | q
   ·rw[List.getElem_append_left q]
    exact h k q
   ·obtain rfl:k=acc.length:=by omega
    rw[List.getElem_append_right (Nat.le_refl _)]
    simp only[Nat.sub_self,List.getElem_cons_zero]
    exact hl m List.mem_cons_self _ he
  ·simp only[if_neg he] at hk⊢
   exact h k hk
end Go.Proofs.YtebneadheaefdaaGreatDoor
namespace Go.Proofs.YtebneadheaefdaaGreatDoor
open Go.RowKit
section
variable {W W' : World} {B kw kr : Nat} {d : DesD} {x : DesA} {bw br : Option Nat}
theorem NewD.weak (h:NewD W B kw kr d x bw br):NewD W B 0 0 d x bw br:=by
 have e:∀ i k:Nat,HK (World.hide W (newP (if i < k then B else 0) bw br)) (World.hide W (newP (if i < 0 then B else 0) bw br)):=fun i k=>hk_mono (newP_mono (by rw[if_neg (Nat.not_lt_zero i)];exact Nat.zero_le _))
 exact⟨h.ne,h.ins,h.outs,h.wires.imp fun b _ h=>h.mono fun i f _ ⟨v,ae,ce,h0,h1,h2,h3,h4,h5,h6,h7⟩=>⟨v,ae,ce,h0,h1,h2,h3,h4,h5,h6,h7.keep (e i kw).cell⟩,
  h.regs.imp fun b _ h=>h.mono fun i f _ ⟨v,ae,ce,h0,h1,h2,h3,h4,h5,h6,h7,h8⟩=>⟨v,ae,ce,h0,h1,h2,h3,h4,h5,h6,h7,h8.keep (e i kr).cell⟩⟩
end
end Go.Proofs.YtebneadheaefdaaGreatDoor
namespace Go.Proofs.YtebneadheaefdaaGreatDoor
def zipSum {α β:Type} (f:α→β→Nat):List α→List β→Nat
 | a::l,b::m=>f a b+zipSum f l m
 | _,_=>0
theorem zipSum_zero {α:Type} {f:α→α→Nat} {l:List α} (h:∀ a∈l,f a a=0):zipSum f l l=0:=by
 induction l with
 | nil=>rfl
 | cons a l ih=>simp only[zipSum,h a List.mem_cons_self,ih fun x hx=>h x (List.mem_cons_of_mem _ hx)]
noncomputable def dsL:List (Ex→Nat)→List Ex→Nat
 | f::fs,b::bs=>f b+dsL fs bs
 | _,_=>0
noncomputable def diffS (a:Ex):Ex→Nat:=a.para fun a fs b=>open Classical in
 if a=b then 0 else if a.op≠4∧b.op=4∧b.args=[a] then 1 else if a.name≠b.name∨a.args.length≠b.args.length then 100
 else (if a.op≠b.op∨a.n≠b.n then 1 else 0)+dsL fs b.args
open Classical in
theorem diffS_eq (a b:Ex):diffS a b=if a=b then 0 else if a.op≠4∧b.op=4∧b.args=[a] then 1 else if a.name≠b.name∨a.args.length≠b.args.length then 100
  else (if a.op≠b.op∨a.n≠b.n then 1 else 0)+dsL (a.args.map diffS) b.args:=by
 have:diffS a=fun b=>if a=b then 0 else if a.op≠4∧b.op=4∧b.args=[a] then 1 else if a.name≠b.name∨a.args.length≠b.args.length then 100
  else (if a.op≠b.op∨a.n≠b.n then 1 else 0)+dsL (a.args.map diffS) b.args:=by unfold diffS;rw[Ex.para_eq]
 rw[this]
theorem diffS_self (a:Ex):diffS a a=0:=by rw[diffS_eq,if_pos rfl]
theorem dsL_self (l:List Ex):dsL (l.map diffS) l=0:=by
 induction l with
 | nil=>rfl
 | cons a l ih=>rw[List.map_cons,dsL,diffS_self,ih]
theorem nodes_len (e:Ex):e.nodes.length=1+((e.args.map Ex.nodes).flatten).length:=by rw[Ex.nodes_eq,List.length_cons];omega
theorem notE_ne (c:Ex):c≠notE c:=by
 intro h
 have h1:c.nodes.length=(notE c).nodes.length:=congrArg (fun e=>e.nodes.length) h
 have h2:(notE c).nodes.length=1+c.nodes.length:=by rw[nodes_len];simp[notE,Ex.args_mk]
 omega
theorem dsL_nil:dsL [] []=0:=by simp[dsL]
theorem arg_ne {e a:Ex} (h:a∈e.args):e≠a:=by
 rintro rfl
 obtain⟨l1,l2,h⟩:=List.append_of_mem h
 have:=nodes_len e
 rw[h] at this
 simp at this
 omega
theorem diff_not (c:Ex):OkM c→diffS c (notE c)=1:=by
 induction c using Ex.ind with
 | _ c ih =>
  intro hok
  rw[diffS_eq,if_neg (notE_ne c)]
  by_cases h4:c.op=4
  ·obtain⟨h1,h2,h3⟩:=hok.self.not1 h4
   rw[if_neg (fun h=>h.1 h4)]
   obtain⟨op,n,nm,args⟩:=c
   simp only[Ex.op_mk,Ex.n_mk,Ex.name_mk,Ex.args_mk] at h1 h2 h3 h4
   subst h1 h2 h4
   match args,h3 with
   | [y],_ =>
    have hy:=ih y (by simp[Ex.args_mk]) (hok.arg (by simp[Ex.args_mk]))
    rw[if_neg (by simp[notE,Ex.name_mk,Ex.args_mk]),if_neg (by simp[notE,Ex.op_mk,Ex.n_mk])]
    show 0+dsL ([y].map diffS) [notE y]=1
    rw[List.map_cons,List.map_nil,dsL,dsL_nil,hy]
  ·rw[if_pos ⟨h4,rfl,rfl⟩]
theorem exch_ne {op:Int} (h:exchS op≠0):exchS op≠op:=by
 by_cases c:4≤op∧op≤25
 ·obtain⟨k,rfl⟩:=Int.eq_ofNat_of_zero_le (show 0≤op by omega)
  have:k=4∨k=5∨k=6∨k=7∨k=8∨k=9∨k=10∨k=11∨k=12∨k=13∨k=14∨k=15∨k=16∨k=17∨k=18∨k=19∨k=20∨k=21∨k=22∨k=23∨k=24∨k=25:=by omega
  rcases this with rfl | rfl | rfl | rfl | rfl | rfl | rfl | rfl | rfl | rfl | rfl | rfl | rfl | rfl | rfl | rfl | rfl | rfl | rfl | rfl | rfl | rfl<;>decide
 ·exfalso
  refine h ?_
  unfold exchS
  rw[if_neg (by omega),if_neg (by omega),if_neg (by omega),if_neg (by omega),if_neg (by omega),if_neg (by omega),if_neg (by omega),if_neg (by omega),if_neg (by omega),if_neg (by omega),if_neg (by omega),if_neg (by omega),if_neg (by omega),if_neg (by omega),if_neg (by omega),if_neg (by omega)]
theorem dsL_cons (a b:Ex) (l m:List Ex):dsL ((a::l).map diffS) (b::m)=diffS a b+dsL (l.map diffS) m:=by rw[List.map_cons,dsL]
theorem chg_diff {e:Ex} (hok:OkM e) (hk:kindS e.op≠.empty):diffS e (chgS e)=1:=by
 have hs:=hok.self
 obtain⟨op,n,nm,args⟩:=e
 simp only[Ex.op_mk] at hk
 by_cases h1:op=1
 ·have hn:=hs.con h1
  simp only[Ex.n_mk] at hn
  have hne:(n+1) % 65536≠n:=by omega
  have hc:chgS (.mk op n nm args)=.mk op ((n+1) % 65536) nm args:=by rw[chgS_mk,if_pos h1]
  rw[hc,diffS_eq,if_neg (fun h=>by injection h with _ h2 _ _;exact hne h2.symm),if_neg (fun h=>h.1 h.2.1),if_neg (by simp[Ex.name_mk,Ex.args_mk]),if_pos (Or.inr fun h=>hne h.symm),Ex.args_mk,Ex.args_mk,dsL_self]
 ·by_cases h2:op=22
  ·have hl:=hs.ite h2
   simp only[Ex.args_mk] at hl
   match args,hl with
   | [c,y,z],_ =>
    have hcn:=diff_not c (hok.arg (by simp[Ex.args_mk]))
    have hc:chgS (.mk op n nm [c,y,z])=.mk op n nm [notE c,y,z]:=by rw[chgS_mk,if_neg h1,if_pos h2]
    rw[hc,diffS_eq,if_neg (fun h=>by injection h with _ _ _ h4;injection h4 with h5 _;exact notE_ne c h5),if_neg (fun h=>h.1 h.2.1),if_neg (by simp[Ex.name_mk,Ex.args_mk]),if_neg (by simp[Ex.op_mk,Ex.n_mk]),Ex.args_mk,Ex.args_mk,dsL_cons,hcn,dsL_self]
  ·have h3:exchS op≠0:=by
    intro h3
    unfold kindS at hk
    rw[if_neg h1,if_neg h2,if_neg (by simpa using h3)] at hk
    exact hk rfl
   have hc:chgS (.mk op n nm args)=.mk (exchS op) n nm args:=by rw[chgS_mk,if_neg h1,if_neg h2,if_pos h3]
   have hx:=exch_ne h3
   rw[hc,diffS_eq,if_neg (fun h=>by injection h with h5 _ _ _;exact hx h5.symm),if_neg (fun h=>by
    have h5:args=[Ex.mk op n nm args]:=h.2.2
    exact arg_ne (e:=.mk op n nm args) (a:=.mk op n nm args) (by rw[Ex.args_mk];rw[h5];exact List.mem_singleton.2 (by rw[← h5])) rfl),if_neg (by simp[Ex.name_mk,Ex.args_mk]),if_pos (Or.inl fun h=>hx h.symm),Ex.args_mk,Ex.args_mk,dsL_self]
theorem with_diff (e:Ex):OkM e→∀ k (hk:k < e.nodes.length),kindS (e.nodes[k]'hk).op≠.empty→diffS e (withS e k)=1:=by
 induction e using Ex.ind with
 | _ e ih =>
  intro hok k hk hn
  cases k with
  | zero =>
   have:e.nodes[0]'hk=e:=by simp[Ex.nodes_eq]
   rw[this] at hn
   rw[withS_zero]
   exact chg_diff hok hn
  | succ k =>
   have key:∀ (l:List Ex),(∀ a∈l,∀ k (hk:k < a.nodes.length),kindS (a.nodes[k]'hk).op≠.empty→diffS a (withS a k)=1)→∀ k (hk:k < ((l.map Ex.nodes).flatten).length),kindS (((l.map Ex.nodes).flatten)[k]'hk).op≠.empty→dsL (l.map diffS) (withL l (l.map withS) k)=1∧(withL l (l.map withS) k).length=l.length:=by
    intro l
    induction l with
    | nil=>intro _ k hk;simp at hk
    | cons a l ihl =>
     intro hA k hk hn
     rw[List.map_cons (f:=withS),withL]
     by_cases q:k < a.nodes.length
     ·have he:((List.map Ex.nodes (a::l)).flatten)[k]'hk=a.nodes[k]'q:=by
       simp only[List.map_cons,List.flatten_cons]
       exact List.getElem_append_left q
      rw[he] at hn
      rw[if_pos q,dsL_cons,hA a List.mem_cons_self k q hn,dsL_self]
      exact⟨rfl,rfl⟩
     ·have hk2:k - a.nodes.length < ((l.map Ex.nodes).flatten).length:=by
       simp only[List.map_cons,List.flatten_cons,List.length_append] at hk
       omega
      have he:((List.map Ex.nodes (a::l)).flatten)[k]'hk=((l.map Ex.nodes).flatten)[k - a.nodes.length]'hk2:=by
       simp only[List.map_cons,List.flatten_cons]
       exact List.getElem_append_right (by omega)
      rw[he] at hn
      obtain⟨h1,h2⟩:=ihl (fun x hx=>hA x (List.mem_cons_of_mem _ hx)) _ hk2 hn
      rw[if_neg q,dsL_cons,diffS_self,h1,List.length_cons,h2]
      exact⟨rfl,rfl⟩
   have hk2:k < ((e.args.map Ex.nodes).flatten).length:=by have:=nodes_len e;omega
   have he:e.nodes[k+1]'hk=((e.args.map Ex.nodes).flatten)[k]'hk2:=by simp[Ex.nodes_eq]
   rw[he] at hn
   obtain⟨h1,h2⟩:=key e.args (fun a ha=>ih a ha (hok.arg ha)) k hk2 hn
   rw[withS_succ]
   generalize withL e.args (e.args.map withS) k=m at h1 h2
   obtain⟨op,n,nm,args⟩:=e
   simp only[Ex.args_mk,setArgs] at h1 h2⊢
   have hne:¬ args=m:=by rintro rfl;rw[dsL_self] at h1;simp at h1
   rw[diffS_eq,if_neg (fun h=>by injection h with _ _ _ h4;exact hne h4),if_neg (fun h=>h.1 h.2.1),if_neg (by simp[Ex.name_mk,Ex.args_mk,h2]),if_neg (by simp[Ex.op_mk,Ex.n_mk]),Ex.args_mk,Ex.args_mk,h1]
theorem vers_diff {e:Ex} (hok:OkM e) (first:Nat):∀ v∈versS e first,diffS e v.1=1:=by
 intro v hv
 rw[sites_eq,List.mem_filterMap] at hv
 obtain⟨⟨x,k⟩,hx,hv⟩:=hv
 obtain⟨_,h2,h3⟩:=List.mem_zipIdx hx
 simp only[Nat.zero_add,Nat.sub_zero] at h2 h3
 unfold siteF at hv
 simp only at hv
 split at hv
 ·simp at hv
 ·rename_i hk
  obtain rfl:=Option.some.inj hv
  rw[h3] at hk
  exact with_diff e hok k h2 hk
end Go.Proofs.YtebneadheaefdaaGreatDoor
namespace Go.Proofs.YtebneadheaefdaaGreatDoor
theorem zip_mod {α:Type} {f:α→α→Nat} (h0:∀ a,f a a=0) (g:α→α):∀ (l:List α) (i:Nat) (hi:i < l.length),zipSum f l (l.modify i g)=f (l[i]'hi) (g (l[i]'hi)):=by
 intro l
 induction l with
 | nil=>intro i hi;simp at hi
 | cons a l ih =>
  intro i hi
  cases i with
  | zero =>
   show f a (g a)+zipSum f l l=_
   rw[zipSum_zero fun x _=>h0 x]
   rfl
  | succ i =>
   show f a a+zipSum f l (l.modify i g)=_
   rw[h0,ih i (by simp at hi;omega),Nat.zero_add]
   rfl
def wPatch:List WireD→List WireD→List WireD
 | a::l,b::m=>{ b with expr:=a.expr }::wPatch l m
 | _,m=>m
def rPatch:List RegD→List RegD→List RegD
 | a::l,b::m=>{ b with init:=a.init,next:=a.next }::rPatch l m
 | _,m=>m
def DesD.patch (a b:DesD):DesD:=⟨a.name,b.inputs,wPatch a.wires b.wires,rPatch a.regs b.regs,b.outputs⟩
noncomputable def wDif (a b:WireD):Nat:=diffS a.expr b.expr
noncomputable def rDif (a b:RegD):Nat:=(if a.init≠b.init then 1 else 0)+diffS a.next b.next
noncomputable def diffD (a b:DesD):Nat:=open Classical in
 if a.wires.length≠b.wires.length∨a.regs.length≠b.regs.length then 100
 else if a=a.patch b then zipSum wDif a.wires b.wires+zipSum rDif a.regs b.regs else 100
theorem wDif_self (a:WireD):wDif a a=0:=diffS_self _
theorem rDif_self (a:RegD):rDif a a=0:=by unfold rDif;rw[diffS_self,if_neg (by simp)]
theorem wPatch_self (l:List WireD):wPatch l l=l:=by
 induction l with
 | nil=>rfl
 | cons a l ih=>rw[wPatch,ih]
theorem rPatch_self (l:List RegD):rPatch l l=l:=by
 induction l with
 | nil=>rfl
 | cons a l ih=>rw[rPatch,ih]
theorem wPatch_mod (x:Ex):∀ (l:List WireD) (i:Nat),wPatch l (l.modify i fun w=>{ w with expr:=x })=l:=by
 intro l
 induction l with
 | nil=>intro i;cases i<;>rfl
 | cons a l ih =>
  intro i
  cases i with
  | zero=>show ({ a with expr:=a.expr }:WireD)::wPatch l l=a::l;rw[wPatch_self]
  | succ i=>show ({ a with expr:=a.expr }:WireD)::wPatch l (l.modify i _)=a::l;rw[ih]
theorem rPatch_mod (g:RegD→RegD) (hg:∀ r,(g r).name=r.name∧(g r).width=r.width):∀ (l:List RegD) (i:Nat),rPatch l (l.modify i g)=l:=by
 intro l
 induction l with
 | nil=>intro i;cases i<;>rfl
 | cons a l ih =>
  intro i
  cases i with
  | zero =>
   show ({ g a with init:=a.init,next:=a.next }:RegD)::rPatch l l=a::l
   rw[rPatch_self]
   have:=hg a
   obtain⟨n,w,j,x⟩:=a
   simp only at this⊢
   rw[this.1,this.2]
  | succ i=>show ({ a with init:=a.init,next:=a.next }:RegD)::rPatch l (l.modify i _)=a::l;rw[ih]
def OkD (d:DesD):Prop:=∀ e∈d.exprs,OkM e
theorem flip_ne (n:Int):n≠flipI n:=by unfold flipI;split<;>omega
theorem diffD_of {a b:DesD} (h1:a.wires.length=b.wires.length) (h2:a.regs.length=b.regs.length) (h3:a=a.patch b):diffD a b=zipSum wDif a.wires b.wires+zipSum rDif a.regs b.regs:=by
 unfold diffD
 rw[if_neg (fun h=>h.elim (fun h=>h h1) (fun h=>h h2)),if_pos h3]
theorem cand_diff {d:DesD} (hok:OkD d):∀ m∈candM d,∀ k,diffD d (m.1.named k)=1:=by
 intro m hm k
 unfold candM at hm
 rw[List.mem_append] at hm
 rcases hm with hm | hm
 ·obtain⟨⟨w,i⟩,hp,hm⟩:=List.mem_flatMap.1 hm
  obtain⟨_,h2,h3⟩:=List.mem_zipIdx hp
  simp only[Nat.zero_add,Nat.sub_zero] at h2 h3
  obtain⟨v,hv,rfl⟩:=List.mem_map.1 hm
  have hd:=vers_diff (hok w.expr (by unfold DesD.exprs;exact List.mem_append_left _ (List.mem_map.2 ⟨w,by rw[h3];exact List.getElem_mem h2,rfl⟩))) 0 v hv
  refine(diffD_of (a:=d) (b:=(d.setWire i v.1).named k) ?_ rfl ?_).trans ?_
  ·exact(List.length_modify _ _ _).symm
  ·show d=⟨d.name,d.inputs,wPatch d.wires (d.wires.modify i _),rPatch d.regs d.regs,d.outputs⟩
   rw[wPatch_mod,rPatch_self]
  ·show zipSum wDif d.wires (d.wires.modify i _)+zipSum rDif d.regs d.regs=1
   rw[zip_mod wDif_self _ _ _ h2,zipSum_zero fun x _=>rDif_self x,← h3]
   exact hd
 ·obtain⟨⟨r,i⟩,hp,hm⟩:=List.mem_flatMap.1 hm
  obtain⟨_,h2,h3⟩:=List.mem_zipIdx hp
  simp only[Nat.zero_add,Nat.sub_zero] at h2 h3
  rcases List.mem_cons.1 hm with rfl | hm
  ·refine(diffD_of (a:=d) (b:=(d.setInit i).named k) rfl ?_ ?_).trans ?_
   ·exact(List.length_modify _ _ _).symm
   ·show d=⟨d.name,d.inputs,wPatch d.wires d.wires,rPatch d.regs (d.regs.modify i _),d.outputs⟩
    rw[rPatch_mod (fun r=>{ r with init:=flipI r.init }) (fun r=>⟨rfl,rfl⟩),wPatch_self]
   ·show zipSum wDif d.wires d.wires+zipSum rDif d.regs (d.regs.modify i _)=1
    rw[zip_mod rDif_self _ _ _ h2,zipSum_zero fun x _=>wDif_self x,← h3]
    show 0+((if r.init≠flipI r.init then 1 else 0)+diffS r.next r.next)=1
    rw[if_pos (flip_ne _),diffS_self]
  ·obtain⟨v,hv,rfl⟩:=List.mem_map.1 hm
   have hd:=vers_diff (hok r.next (by unfold DesD.exprs;exact List.mem_append_right _ (List.mem_map.2 ⟨r,by rw[h3];exact List.getElem_mem h2,rfl⟩))) 0 v hv
   refine(diffD_of (a:=d) (b:=(d.setNext i v.1).named k) rfl ?_ ?_).trans ?_
   ·exact(List.length_modify _ _ _).symm
   ·show d=⟨d.name,d.inputs,wPatch d.wires d.wires,rPatch d.regs (d.regs.modify i _),d.outputs⟩
    rw[rPatch_mod (fun r=>{ r with next:=v.1 }) (fun r=>⟨rfl,rfl⟩),wPatch_self]
   ·show zipSum wDif d.wires d.wires+zipSum rDif d.regs (d.regs.modify i _)=1
    rw[zip_mod rDif_self _ _ _ h2,zipSum_zero fun x _=>wDif_self x,← h3]
    show 0+((if r.init≠r.init then 1 else 0)+diffS r.next v.1)=1
    rw[if_neg (by simp),hd]
theorem cand_name (d:DesD):∀ m∈candM d,m.1.name=d.name:=by
 intro m hm
 unfold candM at hm
 rw[List.mem_append] at hm
 rcases hm with hm | hm
 ·obtain⟨⟨w,i⟩,_,hm⟩:=List.mem_flatMap.1 hm
  obtain⟨v,_,rfl⟩:=List.mem_map.1 hm
  rfl
 ·obtain⟨⟨r,i⟩,_,hm⟩:=List.mem_flatMap.1 hm
  rcases List.mem_cons.1 hm with rfl | hm
  ·rfl
  ·obtain⟨v,_,rfl⟩:=List.mem_map.1 hm
   rfl
theorem mut_at {d:DesD} (hok:OkD d):∀ k (hk:k < (mutL d).length),((mutL d)[k]'hk).1.err=0∧diffD d ((mutL d)[k]'hk).1=1∧((mutL d)[k]'hk).1.name=(d.name++⟨#[95]⟩)++fmtS k:=by
 refine fold_all (P:=fun k m=>m.1.err=0∧diffD d m.1=1∧m.1.name=(d.name++⟨#[95]⟩)++fmtS k) d (candM d) (fun m hm k he=>⟨he,cand_diff hok m hm k,?_⟩) [] (fun k hk=>by simp at hk)
 unfold DesD.named
 rw[cand_name d m hm]
theorem mut_name_ne {d:DesD} (k:Nat):(d.name++⟨#[95]⟩)++fmtS k≠d.name:=by
 intro h
 have:=congrArg ByteArray.size h
 rw[ByteArray.size_append,ByteArray.size_append] at this
 have h1:(⟨#[95]⟩:ByteArray).size=1:=rfl
 omega
theorem mut_name_inj {d:DesD} {j k:Nat} (h:(d.name++⟨#[95]⟩)++fmtS j=(d.name++⟨#[95]⟩)++fmtS k):j=k:=by
 have h1:=congrArg (fun s:ByteArray=>s.data.toList) h
 simp only[ByteArray.data_append,Array.toList_append] at h1
 have h2:=List.append_cancel_left h1
 have e:∀ n:Nat,(fmtS n).data.toList=Lib.decDigits n:=fun n=>by
  unfold fmtS Lib.itoa
  rw[if_neg (by omega)]
  rfl
 rw[e,e] at h2
 rw[← numD_dec j,h2,numD_dec]
end Go.Proofs.YtebneadheaefdaaGreatDoor
namespace Go.Proofs.YtebneadheaefdaaGreatDoor
theorem okM_of {e:Ex} (h:validS e=0):OkM e:=by
 intro x hx
 have h0:=valid_ok h x hx
 have hn:=node_ok h0
 unfold nodeS at h0
 split at h0
 ·simp at h0
 ·split at h0
  ·simp at h0
  ·rename_i h2
   split at h0
   ·simp at h0
   ·rename_i h4
    refine⟨hn.2.2.1,fun e=>⟨?_,?_,?_⟩,fun e=>?_⟩
    ·by_cases hz:x.n=0
     ·exact hz
     ·exact absurd (Or.inr ⟨by omega,hz⟩) h2
    ·by_cases hz:x.name.data.toList=[]
     ·refine ByteArray.ext (Array.toList_inj.1 ?_)
      rw[hz]
      rfl
     ·exact absurd (Or.inl ⟨by omega,hz⟩) h4
    ·have h5:=hn.2.2.2
     rw[e] at h5
     unfold operandsB at h5
     rw[if_neg (by decide),show arityS 4=1 from rfl] at h5
     have:=of_decide_eq_true h5
     omega
    ·have h5:=hn.2.2.2
     rw[e] at h5
     unfold operandsB at h5
     rw[if_neg (by decide),show arityS 22=3 from rfl] at h5
     have:=of_decide_eq_true h5
     omega
theorem okD_of {d:DesD} (h:d.err=0):OkD d:=fun e he=>okM_of ((desOk_of_err h).exprs e he).1
end Go.Proofs.YtebneadheaefdaaGreatDoor
namespace Go.Proofs.YtebneadheaefdaaGreatDoor
open Go.RowKit
attribute [local go_sem ↓] Go.wp_at_zero Go.wp_at_succ
theorem smM_small:DesSmall smM:=by
 refine⟨by decide,fun s hs=>?_,fun e he=>?_,by decide⟩
 ·have hs:s∈shN:=hs
  simp[shN] at hs
  rcases hs with rfl | rfl | rfl<;>decide
 ·have:=expr_400 sm_err e he
  omega
theorem dN0:dN 0=⟨#[100,95,48]⟩:=by
 unfold dN
 rw[fmt_lt 0 (by decide)]
 rfl
theorem sm_t1:wireT ⟨#[120]⟩ (whatS 2 kConst)=⟨#[119,105,114,101,32,120,32,50,32,99,111,110,115,116,97,110,116]⟩:=by
 unfold wireT whatS
 rw[fmt_lt 2 (by decide)]
 rfl
theorem sm_t3:regT ⟨#[114]⟩ (whatS 0 kCond)=⟨#[114,101,103,32,114,32,48,32,99,111,110,100,105,116,105,111,110]⟩:=by
 unfold regT whatS
 rw[fmt_lt 0 (by decide)]
 rfl
theorem smS:mutsS smM=mutL smM:=if_pos sm_err
theorem sm_len:(mutsS smM).length=5:=by rw[smS,sm_mut];rfl
theorem sm_Sites (x:DesA) (W:World) (hF:∀ n:Int,0≤n→n≤65535→∀ V,Below W.heap.size W V→FmtC V.heap.size V n) (hG:Glob W) (hD:DesIn W smM x) :
  Calls Tryz.prog 26 #[desVal smM x] W fun r w'=>(∃ b o c,r=.returned (.tuple #[.slice (some ⟨b,o,none⟩) 5 c,.int .i64 0])∧5≤c∧w'.cell? ⟨b,o+1,none⟩=some (.string ⟨#[119,105,114,101,32,120,32,50,32,99,111,110,115,116,97,110,116]⟩)∧w'.cell? ⟨b,o+3,none⟩=some (.string ⟨#[114,101,103,32,114,32,48,32,99,111,110,100,105,116,105,111,110]⟩))∧Below W.heap.size W w':=by
 refine(sites_any smM x W hF hG hD smM_small).mono ?_
 rintro r w' ⟨⟨a,c,rfl,hS⟩,hb⟩
 have hl:((mutsS smM).map (·.2)).length=5:=by rw[List.length_map,sm_len]
 obtain⟨b,o,rfl⟩:=(SliceIn.addr hS).resolve_left (by omega)
 have hc:=hS.1
 have h1:=hS.get rfl (i:=1) (by omega)
 have h3:=hS.get rfl (i:=3) (by omega)
 have e1:((mutsS smM).map (·.2))[1]'(by omega)=⟨#[119,105,114,101,32,120,32,50,32,99,111,110,115,116,97,110,116]⟩:=by
  rw[← sm_t1]
  simp only[smS,sm_mut]
  rfl
 have e3:((mutsS smM).map (·.2))[3]'(by omega)=⟨#[114,101,103,32,114,32,48,32,99,111,110,100,105,116,105,111,110]⟩:=by
  rw[← sm_t3]
  simp only[smS,sm_mut]
  rfl
 rw[e1] at h1
 rw[e3] at h3
 rw[sm_err,hl]
 exact⟨⟨b,o,c,rfl,by omega,h1,h3⟩,hb⟩
theorem sm_Count (x:DesA) (W:World) (hF:∀ n:Int,0≤n→n≤65535→∀ V,Below W.heap.size W V→FmtC V.heap.size V n) (hG:Glob W) (hD:DesIn W smM x) :
  Calls Tryz.prog 28 #[desVal smM x] W fun r w'=>r=.returned (.tuple #[.int .i64 5,.int .i64 0])∧Below W.heap.size W w':=by
 refine(countM_any smM x W hF hG hD smM_small).mono ?_
 rintro r w' ⟨rfl,hb⟩
 rw[sm_len,sm_err]
 exact⟨rfl,hb⟩
theorem sm_at0:mutAt smM 0=(shD (dN 0) (bE 8 (vE 97) (kE 1)) iE 0,0):=by
 have hl:(0:Int)≤0∧(0:Int).toNat < (mutL smM).length:=⟨by omega,by rw[← smS,sm_len];decide⟩
 unfold mutAt
 rw[if_pos sm_err,dif_pos hl]
 have:(mutL smM)[(0:Int).toNat]'hl.2=(shD (dN 0) (bE 8 (vE 97) (kE 1)) iE 0,wireT ⟨#[120]⟩ (whatS 0 kOper)):=by
  simp only[sm_mut]
  rfl
 rw[this]
theorem sm_Mutant (x:DesA) (W:World) (hF:∀ n:Int,0≤n→n≤65535→∀ V,Below W.heap.size W V→FmtC V.heap.size V n) (hG:Glob W) (hD:DesIn W smM x) :
  Calls Tryz.prog 31 #[desVal smM x,.int .i64 0] W fun r w'=>(∃ a1 c1 bw ow cw a3 c3 a4 c4,r=.returned (.tuple #[.agg #[.string ⟨#[100,95,48]⟩,.slice a1 1 c1,.slice (some ⟨bw,ow,none⟩) 1 cw,.slice a3 1 c3,.slice a4 0 c4],.int .i64 0])∧1≤cw∧w'.cell? ⟨bw,ow+2,none⟩=some (.int .i64 8))∧Below W.heap.size W w':=by
 refine(mutant_any smM x 0 W hF hG hD smM_small).mono ?_
 rintro r w' ⟨⟨xm,bw,br,rfl,hN⟩,hb⟩
 rw[sm_at0] at hN⊢
 have hE:=NewD.des hN
 obtain⟨b,o,ha⟩:=(SliceIn.addr hE.wires).resolve_left (by show ¬ (1=0);decide)
 obtain⟨ae,ce,-,-,h2,-⟩:=hE.wires.get ha (i:=0) (by show 0 < 1;decide)
 have hc:=hE.wires.1
 refine⟨⟨xm.ai,xm.ci,b,o,xm.cw,xm.ar,xm.cr,xm.ao,xm.co,?_,hc,?_⟩,hb⟩
 ·rw[← ha,← dN0]
  rfl
 ·have e:o+0 * 6+2=o+2:=by omega
  rw[e] at h2
  exact h2
theorem sm_ri:regI smM ⟨#[114]⟩=((0:Nat):Int):=by
 unfold regI
 exact idxP_at (isReg ⟨#[114]⟩) smM.regs 0 0 (by show 0 < 1;decide) (fun i hi=>absurd hi (Nat.not_lt_zero _)) (isReg_iff.2 rfl)
theorem sm_injA:injA smM ⟨#[114]⟩ 2 1=(smJ,0):=by
 rw[injA_ok (k:=0) sm_err sm_ri (by show 0 < 1;decide) (by show ¬ ((2:Int) < 0∨(4096:Int)≤2∨(1:Int) < 0∨(4:Int)≤1);decide) (by rw[sm_inj];exact smJ_err),sm_inj]
theorem sm_Inject (x:DesA) (W:World) (hF:∀ n:Int,0≤n→n≤65535→∀ V,Below W.heap.size W V→FmtC V.heap.size V n) (hG:Glob W) (hD:DesIn W smM x) :
  Calls Tryz.prog 34 #[desVal smM x,.string ⟨#[114]⟩,.int .i64 2,.int .i64 1] W fun r w'=>(∃ a1 c1 a2 c2 br ow cr a4 c4,r=.returned (.tuple #[.agg #[.string ⟨#[100]⟩,.slice a1 1 c1,.slice a2 1 c2,.slice (some ⟨br,ow,none⟩) 2 cr,.slice a4 0 c4],.int .i64 0])∧2≤cr∧w'.cell? ⟨br,ow+7,none⟩=some (.string ⟨#[102,97,117,108,116]⟩))∧Below W.heap.size W w':=by
 refine(inject_any smM x ⟨#[114]⟩ 2 1 W hF hG hD smM_small).mono ?_
 rintro r w' ⟨⟨xm,rfl,hE⟩,hb⟩
 rw[sm_injA] at hE⊢
 obtain⟨b,o,ha⟩:=(SliceIn.addr hE.regs).resolve_left (by show ¬ (2=0);decide)
 obtain⟨ae,ce,h0,-⟩:=hE.regs.get ha (i:=1) (by show 1 < 2;decide)
 have hc:=hE.regs.1
 refine⟨⟨xm.ai,xm.ci,xm.aw,xm.cw,b,o,xm.cr,xm.ao,xm.co,?_,hc,?_⟩,hb⟩
 ·rw[← ha]
  rfl
 ·have e:o+1 * 7=o+7:=by omega
  rw[e] at h0
  exact h0
set_option maxRecDepth 100000 in
set_option maxHeartbeats 8000000 in
theorem awake34_any (w:World) (hF:∀ n:Int,0≤n→n≤65535→∀ V,Below w.heap.size w V→FmtC V.heap.size V n) (hG:Glob w) :
  Calls Tryz.prog 25 #[] w fun e w'=>e=.returned (.bool true)∧Below w.heap.size w w':=by
 have HS:Hid (∀ W,Below w.heap.size w W→Calls Tryz.prog 59 #[] W fun e w'=>(∃ x,e=.returned (desVal smM x)∧DesIn w' smM x)∧Below W.heap.size W w'):=fun W _=>sampM_any W
 have hFb:∀ W,Below w.heap.size w W→∀ n:Int,0≤n→n≤65535→∀ V,Below W.heap.size W V→FmtC V.heap.size V n:=fun W hW n h0 h1 V hV=>hF n h0 h1 V (hW.trans (hV.mono hW.size))
 have HSi:=Lib.hid (fun x W (hW:Below w.heap.size w W) hD=>sm_Sites x W (hFb W hW) (hG.below hW) hD)
 have HCt:=Lib.hid (fun x W (hW:Below w.heap.size w W) hD=>sm_Count x W (hFb W hW) (hG.below hW) hD)
 have HMu:=Lib.hid (fun x W (hW:Below w.heap.size w W) hD=>sm_Mutant x W (hFb W hW) (hG.below hW) hD)
 have HIn:=Lib.hid (fun x W (hW:Below w.heap.size w W) hD=>sm_Inject x W (hFb W hW) (hG.below hW) hD)
 have HB0:Hid (Below w.heap.size w w):=Below.refl _ _
 have hnx:∀ (s:ByteArray),(s.toList == s.toList)=true:=fun s=>by simp
 clear hF hG hFb
 go_enter Tryz.func25, Tryz.ntmps25
 go_wp2_with fail
 refine(HS.out w HB0.out).mono ?_
 rintro e w1 ⟨⟨x1,rfl,hD1⟩,hb1⟩
 have HB1:=Lib.hid hb1
 have HC1:=Lib.hid (HSi.out x1 w1 hb1 hD1)
 clear hD1 hb1
 go_wp2_with fail
 refine HC1.out.mono ?_
 rintro e w2 ⟨⟨b2,o2,c2,rfl,hc2,q1,q3⟩,hb2⟩
 have HB2:Hid (Below w.heap.size w w2):=HB1.out.trans (hb2.mono HB1.out.size)
 have HQ1:=Lib.hid q1
 have HQ3:=Lib.hid q3
 clear q1 q3 hb2 HC1
 go_wp2_with fail
 refine(HS.out w2 HB2.out).mono ?_
 rintro e w3 ⟨⟨x3,rfl,hD3⟩,hb3⟩
 have HB3:Hid (Below w.heap.size w w3):=HB2.out.trans (hb3.mono HB2.out.size)
 have HC3:=Lib.hid (HCt.out x3 w3 HB3.out hD3)
 have HB23:=Lib.hid hb3
 clear hD3 hb3
 go_wp2_with fail
 refine HC3.out.mono ?_
 rintro e w4 ⟨rfl,hb4⟩
 have HB24:Hid (Below w2.heap.size w2 w4):=HB23.out.trans (hb4.mono HB23.out.size)
 have HB4:Hid (Below w.heap.size w w4):=HB2.out.trans (HB24.out.mono HB2.out.size)
 clear hb4 HC3 HB23
 go_wp2_with fail
 refine(HS.out w4 HB4.out).mono ?_
 rintro e w5 ⟨⟨x5,rfl,hD5⟩,hb5⟩
 have HB25:Hid (Below w2.heap.size w2 w5):=HB24.out.trans (hb5.mono HB24.out.size)
 have HB5:Hid (Below w.heap.size w w5):=HB2.out.trans (HB25.out.mono HB2.out.size)
 have HC5:=Lib.hid (HMu.out x5 w5 HB5.out hD5)
 clear hD5 hb5
 go_wp2_with fail
 refine HC5.out.mono ?_
 rintro e w6 ⟨⟨a61,c61,b6,o6,c6,a63,c63,a64,c64,rfl,hc6,q6⟩,hb6⟩
 have HB26:Hid (Below w2.heap.size w2 w6):=HB25.out.trans (hb6.mono HB25.out.size)
 have HQ6:=Lib.hid q6
 clear q6 hb6 HC5
 go_upto_region 4 with fail
 generalize hW7:w6.alloc (.cells #[.string ⟨#[100,95,48]⟩,.slice a61 1 c61,.slice (some ⟨b6,o6,none⟩) 1 c6,.slice a63 1 c63,.slice a64 0 c64] 27)=W7
 have hz7:w6.heap.size+1≤W7.heap.size:=by rw[← hW7];simp
 have HB67:Hid (Below w6.heap.size w6 W7):=by show Below _ _ _;rw[← hW7];exact belr
 have HX7:Hid (W7.heap[w6.heap.size]? = some (.cells #[.string ⟨#[100,95,48]⟩,.slice a61 1 c61,.slice (some ⟨b6,o6,none⟩) 1 c6,.slice a63 1 c63,.slice a64 0 c64] 27 (0,0))):=by
  show _=_;rw[← hW7]
  exact hx_new rfl
 clear hW7
 have HB7:Hid (Below w.heap.size w W7):=HB2.out.trans ((HB26.out.trans (HB67.out.mono HB26.out.size)).mono HB2.out.size)
 go_wp2_with fail
 refine(HS.out W7 HB7.out).mono ?_
 rintro e w8 ⟨⟨x8,rfl,hD8⟩,hb8⟩
 have HB8:Hid (Below w.heap.size w w8):=HB7.out.trans (hb8.mono HB7.out.size)
 have HB78:=Lib.hid hb8
 have HC8:=Lib.hid (HIn.out x8 w8 HB8.out hD8)
 clear hD8 hb8
 go_wp2_with fail
 refine HC8.out.mono ?_
 rintro e w9 ⟨⟨a91,c91,a92,c92,b9,o9,c9,a94,c94,rfl,hc9,q9⟩,hb9⟩
 have HB79:Hid (Below W7.heap.size W7 w9):=HB78.out.trans (hb9.mono HB78.out.size)
 have HB69:Hid (Below w6.heap.size w6 w9):=HB67.out.trans (HB79.out.mono (by omega))
 have HB29:Hid (Below w2.heap.size w2 w9):=HB26.out.trans (HB69.out.mono HB26.out.size)
 have HB9:Hid (Below w.heap.size w w9):=HB2.out.trans (HB29.out.mono HB2.out.size)
 have q1:=keeps_of_below HB29.out _ _ HQ1.out
 have q3:=keeps_of_below HB29.out _ _ HQ3.out
 have q6:=keeps_of_below HB69.out _ _ HQ6.out
 obtain⟨m0,m1,m2,m3,m4,_⟩:=cell5 (hx_below HB79.out HX7.out)
 have A1:=fun o=>keeps_of_below ((Below.refl w9.heap.size w9).alloc (Nat.le_refl _) o) _ _ q1
 have A3:=fun o=>keeps_of_below ((Below.refl w9.heap.size w9).alloc (Nat.le_refl _) o) _ _ q3
 have A6:=fun o=>keeps_of_below ((Below.refl w9.heap.size w9).alloc (Nat.le_refl _) o) _ _ q6
 have A9:=fun o=>keeps_of_below ((Below.refl w9.heap.size w9).alloc (Nat.le_refl _) o) _ _ q9
 have M0:=fun o=>keeps_of_below ((Below.refl w9.heap.size w9).alloc (Nat.le_refl _) o) _ _ m0
 have M2:=fun o=>keeps_of_below ((Below.refl w9.heap.size w9).alloc (Nat.le_refl _) o) _ _ m2
 clear hb9 HC8
 go_wp2_with fail
 go_ret
 exact⟨rfl,HB9.out.alloc HB9.out.size _⟩
end Go.Proofs.YtebneadheaefdaaGreatDoor
namespace Go.Proofs.YtebneadheaefdaaGreatDoor
open Go.RowKit
theorem fmC_of {w:World} (hT:Lib.TabIs Tryz.prog w "internal/strconv.uint64pow10" .u64 Lib.pow10Tab):FmC w:=fun n h0 h1 W hW =>
 fmt_any W (Go.Joins.tab_stays (g:=1) (by kernel_rfl) hT hW (Nat.le_refl _)) n h0 h1
theorem awC_of {w:World} (hG:Glob w) (hT:Lib.TabIs Tryz.prog w "internal/strconv.uint64pow10" .u64 Lib.pow10Tab):AwC w:=fun W hW=>awake34_any W ((fmC_of hT).below hW) (hG.below hW)
end Go.Proofs.YtebneadheaefdaaGreatDoor
namespace Go.Proofs.YtebneadheaefdaaGreatDoor
noncomputable def dsK (l m:List Ex) (k:Nat):Nat:=dsL ((l.take k).map diffS) (m.take k)
theorem dsK_zero (l m:List Ex):dsK l m 0=0:=by simp[dsK,dsL]
theorem dsK_succ:∀ (l m:List Ex) {k:Nat} (h1:k < l.length) (h2:k < m.length),dsK l m (k+1)=dsK l m k+diffS (l[k]'h1) (m[k]'h2):=by
 intro l
 induction l with
 | nil=>intro m k h1;simp at h1
 | cons a l ih =>
  intro m k h1 h2
  cases m with
  | nil=>simp at h2
  | cons b m =>
   cases k with
   | zero=>simp[dsK,dsL]
   | succ k =>
    have h:=ih m (k:=k) (by simpa using h1) (by simpa using h2)
    unfold dsK at h⊢
    simp only[List.take_succ_cons,List.map_cons,dsL,List.getElem_cons_succ] at h⊢
    rw[h,Nat.add_assoc]
theorem dsK_all {l m:List Ex} (h:l.length=m.length):dsK l m l.length=dsL (l.map diffS) m:=by
 unfold dsK
 rw[List.take_length,h,List.take_length]
theorem dsL_le:∀ (l m:List Ex),(∀ a∈l,∀ b,diffS a b≤100 * a.nodes.length)→dsL (l.map diffS) m≤100 * ((l.map Ex.nodes).flatten).length:=by
 intro l
 induction l with
 | nil=>intro m _;simp[dsL]
 | cons a l ih =>
  intro m h
  cases m with
  | nil=>simp[dsL]
  | cons b m =>
   have h1:=h a List.mem_cons_self b
   have h2:=ih m fun x hx=>h x (List.mem_cons_of_mem _ hx)
   simp only[List.map_cons,dsL,List.flatten_cons,List.length_append]
   omega
theorem diffS_le (a:Ex):∀ b,diffS a b≤100 * a.nodes.length:=by
 induction a using Ex.ind with
 | _ a ih =>
  intro b
  have hl:=nodes_len a
  have hs:=dsL_le a.args b.args ih
  rw[diffS_eq]
  split
  ·omega
  ·split
   ·omega
   ·split
    ·omega
    ·split<;>omega
theorem dsK_le (l m:List Ex) (k:Nat):dsK l m k≤100 * ((l.map Ex.nodes).flatten).length:=by
 unfold dsK
 have h:=dsL_le (l.take k) (m.take k) fun a _=>diffS_le a
 refine Nat.le_trans h (Nat.mul_le_mul_left _ ?_)
 conv=>rhs;rw[← List.take_append_drop k l,List.map_append,List.flatten_append,List.length_append]
 omega
noncomputable def zwK {α:Type} (f:α→α→Nat) (l m:List α) (k:Nat):Nat:=zipSum f (l.take k) (m.take k)
theorem zwK_zero {α:Type} (f:α→α→Nat) (l m:List α):zwK f l m 0=0:=by simp[zwK,zipSum]
theorem zwK_succ {α:Type} (f:α→α→Nat):∀ (l m:List α) {k:Nat} (h1:k < l.length) (h2:k < m.length),zwK f l m (k+1)=zwK f l m k+f (l[k]'h1) (m[k]'h2):=by
 intro l
 induction l with
 | nil=>intro m k h1;simp at h1
 | cons a l ih =>
  intro m k h1 h2
  cases m with
  | nil=>simp at h2
  | cons b m =>
   cases k with
   | zero=>simp[zwK,zipSum]
   | succ k =>
    have h:=ih m (k:=k) (by simpa using h1) (by simpa using h2)
    unfold zwK at h⊢
    simp only[List.take_succ_cons,zipSum,List.getElem_cons_succ] at h⊢
    rw[h,Nat.add_assoc]
theorem zwK_all {α:Type} {f:α→α→Nat} {l m:List α} (h:l.length=m.length):zwK f l m l.length=zipSum f l m:=by
 unfold zwK
 rw[List.take_length,h,List.take_length]
def DesD.bW (a b:DesD) (k:Nat):DesD:={ b with wires:=wPatch (a.wires.take k) b.wires }
def DesD.bR (a b:DesD) (k:Nat):DesD:={ b with wires:=wPatch a.wires b.wires,regs:=rPatch (a.regs.take k) b.regs }
theorem wPatch_len:∀ (l m:List WireD),(wPatch l m).length=m.length:=by
 intro l
 induction l with
 | nil=>intro m;cases m<;>rfl
 | cons a l ih =>
  intro m
  cases m with
  | nil=>rfl
  | cons b m=>rw[wPatch,List.length_cons,List.length_cons,ih]
theorem rPatch_len:∀ (l m:List RegD),(rPatch l m).length=m.length:=by
 intro l
 induction l with
 | nil=>intro m;cases m<;>rfl
 | cons a l ih =>
  intro m
  cases m with
  | nil=>rfl
  | cons b m=>rw[rPatch,List.length_cons,List.length_cons,ih]
theorem wPatch_nil (m:List WireD):wPatch [] m=m:=by cases m<;>rfl
theorem rPatch_nil (m:List RegD):rPatch [] m=m:=by cases m<;>rfl
theorem wPatch_succ:∀ (l m:List WireD) {k:Nat} (h1:k < l.length),k < m.length→wPatch (l.take (k+1)) m=(wPatch (l.take k) m).modify k fun w=>{ w with expr:=(l[k]'h1).expr }:=by
 intro l
 induction l with
 | nil=>intro m k h1;simp at h1
 | cons a l ih =>
  intro m k h1 h2
  cases m with
  | nil=>simp at h2
  | cons b m =>
   cases k with
   | zero=>simp[wPatch,wPatch_nil]
   | succ k =>
    have h:=ih m (k:=k) (by simpa using h1) (by simpa using h2)
    simp only[List.take_succ_cons,wPatch,List.getElem_cons_succ,List.modify_succ_cons] at h⊢
    rw[h]
theorem rPatch_succ:∀ (l m:List RegD) {k:Nat} (h1:k < l.length),k < m.length→rPatch (l.take (k+1)) m=(rPatch (l.take k) m).modify k fun r=>{ r with init:=(l[k]'h1).init,next:=(l[k]'h1).next }:=by
 intro l
 induction l with
 | nil=>intro m k h1;simp at h1
 | cons a l ih =>
  intro m k h1 h2
  cases m with
  | nil=>simp at h2
  | cons b m =>
   cases k with
   | zero=>simp[rPatch,rPatch_nil]
   | succ k =>
    have h:=ih m (k:=k) (by simpa using h1) (by simpa using h2)
    simp only[List.take_succ_cons,rPatch,List.getElem_cons_succ,List.modify_succ_cons] at h⊢
    rw[h]
theorem wPatch_at:∀ (l m:List WireD) {k:Nat} (h:k < m.length),(wPatch (l.take k) m)[k]? = some (m[k]'h):=by
 intro l
 induction l with
 | nil=>intro m k h;rw[List.take_nil,wPatch_nil,List.getElem?_eq_getElem h]
 | cons a l ih =>
  intro m k h
  cases k with
  | zero=>rw[List.take_zero,wPatch_nil,List.getElem?_eq_getElem h]
  | succ k =>
   cases m with
   | nil=>simp at h
   | cons b m =>
    rw[List.take_succ_cons,wPatch,List.getElem?_cons_succ,ih m (by simpa using h)]
    rfl
theorem rPatch_at:∀ (l m:List RegD) {k:Nat} (h:k < m.length),(rPatch (l.take k) m)[k]? = some (m[k]'h):=by
 intro l
 induction l with
 | nil=>intro m k h;rw[List.take_nil,rPatch_nil,List.getElem?_eq_getElem h]
 | cons a l ih =>
  intro m k h
  cases k with
  | zero=>rw[List.take_zero,rPatch_nil,List.getElem?_eq_getElem h]
  | succ k =>
   cases m with
   | nil=>simp at h
   | cons b m =>
    rw[List.take_succ_cons,rPatch,List.getElem?_cons_succ,ih m (by simpa using h)]
    rfl
end Go.Proofs.YtebneadheaefdaaGreatDoor
namespace Go.Proofs.YtebneadheaefdaaGreatDoor
open Go.RowKit
attribute [local go_sem ↓] Go.wp_at_zero Go.wp_at_succ
theorem nd_zero {a b:Ex} (h:a=b):diffS a b=0:=by subst h;exact diffS_self _
theorem nd_one {a b:Ex} (h:¬ a=b) (h1:a.op≠4∧b.op=4∧b.args=[a]):diffS a b=1:=by rw[diffS_eq,if_neg h,if_pos h1]
theorem nd_far {a b:Ex} (h:¬ a=b) (h1:¬ (a.op≠4∧b.op=4∧b.args=[a])) (h2:¬ (a.name=b.name∧a.args.length=b.args.length)):diffS a b=100:=by
 rw[diffS_eq,if_neg h,if_neg h1,if_pos]
 by_cases e:a.name=b.name
 ·exact Or.inr fun e2=>h2 ⟨e,e2⟩
 ·exact Or.inl e
theorem nd_same {a b:Ex} (h:¬ a=b) (h1:¬ (a.op≠4∧b.op=4∧b.args=[a])) (h2:a.name=b.name∧a.args.length=b.args.length) (h3:a.op=b.op∧a.n=b.n):diffS a b=0+dsK a.args b.args a.args.length:=by
 rw[diffS_eq,if_neg h,if_neg h1,if_neg (fun q=>q.elim (fun q=>q h2.1) fun q=>q h2.2),if_neg (fun q=>q.elim (fun q=>q h3.1) fun q=>q h3.2),dsK_all h2.2]
theorem nd_diff {a b:Ex} (h:¬ a=b) (h1:¬ (a.op≠4∧b.op=4∧b.args=[a])) (h2:a.name=b.name∧a.args.length=b.args.length) (h3:¬ (a.op=b.op∧a.n=b.n)):diffS a b=1+dsK a.args b.args a.args.length:=by
 rw[diffS_eq,if_neg h,if_neg h1,if_neg (fun q=>q.elim (fun q=>q h2.1) fun q=>q h2.2),if_pos,dsK_all h2.2]
 by_cases e:a.op=b.op
 ·exact Or.inr fun e2=>h3 ⟨e,e2⟩
 ·exact Or.inl e
theorem arg_len {e a:Ex} (h:a∈e.args):a.nodes.length+1≤e.nodes.length:=by
 obtain⟨l1,l2,h⟩:=List.append_of_mem h
 have:=nodes_len e
 rw[h] at this
 simp at this
 omega
set_option maxRecDepth 100000 in
set_option maxHeartbeats 16000000 in
theorem nodes34_any (x:Ex):∀ (y:Ex) (ax:Option Addr) (cx:Nat) (ay:Option Addr) (cy:Nat) (w:World),ExIn w x ax cx→ExIn w y ay cy→x.nodes.length≤65536 →
    Calls Tryz.prog 79 #[exVal x ax cx,exVal y ay cy] w fun e w'=>e=.returned (.int .i64 (diffS x y:Nat))∧Below w.heap.size w w':=by
  induction x using Ex.ind with
  | h x ih =>
    intro y ax cx ay cy w hX hY hn
    have HSx:Hid (∀ z az cz W,ExIn W z az cz→Below w.heap.size w W→Calls Tryz.prog 62 #[exVal x ax cx,exVal z az cz] W fun e w'=>e=.returned (.bool (pB (x=z)))∧Below W.heap.size W w'):=fun z az cz W hz hW=>same08_any x z ax cx az cz W (hX.keep (keeps_of_below hW)) hz
    have HYk:Hid (∀ W,Below w.heap.size w W→ExIn W y ay cy):=fun W hW=>hY.keep (keeps_of_below hW)
    have HD0:=Lib.hid (@nd_zero x y)
    have HD1:=Lib.hid (@nd_one x y)
    have HD2:=Lib.hid (@nd_far x y)
    have HD3:=Lib.hid (@nd_same x y)
    have HD4:=Lib.hid (@nd_diff x y)
    have HIH:Hid (∀ k (hk:k < x.args.length) (z:Ex) az cz aw cw W,ExIn W (x.args[k]'hk) aw cw→ExIn W z az cz→Calls Tryz.prog 79 #[exVal (x.args[k]'hk) aw cw,exVal z az cz] W fun e w'=>e=.returned (.int .i64 (diffS (x.args[k]'hk) z:Nat))∧Below W.heap.size W w'):=fun k hk z az cz aw cw W h1 h2=>ih _ (List.getElem_mem hk) z aw cw az cz W h1 h2 (by
      have h3:=arg_len (List.getElem_mem hk)
      omega)
    have HKl:Hid (∀ k,dsK x.args y.args k≤6553600):=fun k=>by
      have h1:=dsK_le x.args y.args k
      have h2:=nodes_len x
      omega
    have HKd:Hid (∀ k (hk:k < x.args.length) z,diffS (x.args[k]'hk) z≤6553600):=fun k hk z=>by
      have h1:=diffS_le (x.args[k]'hk) z
      have h3:=arg_len (List.getElem_mem hk)
      omega
    have HK0:=Lib.hid (dsK_zero x.args y.args)
    have HKs:=Lib.hid (fun k h1 h2=>dsK_succ x.args y.args (k:=k) h1 h2)
    have HP:Hid (∀ m W,m=diffS x y→Below w.heap.size w W→(fun e w'=>e=Ending.returned (.int .i64 (diffS x y:Nat))∧Below w.heap.size w w') (.returned (.int .i64 (m:Nat))) W):=fun m W h1 h2=>by subst h1;exact⟨rfl,h2⟩
    generalize (fun e w'=>e=Ending.returned (.int .i64 (diffS x y:Nat))∧Below w.heap.size w w')=Po at HP⊢
    have hD:diffS x y≤6553600:=by have:=diffS_le x y;omega
    generalize diffS x y=D at HP HD0 HD1 HD2 HD3 HD4 hD
    obtain⟨op,n,s,args⟩:=x
    obtain⟨op',n',s',args'⟩:=y
    have HX:=Lib.hid hX.2
    have HY:=Lib.hid hY.2
    have HAX:=Lib.hid hX.2.addr
    have HAY:=Lib.hid hY.2.addr
    have hlx:=hX.2.2.1
    have hly:=hY.2.2.1
    have hcx:=hX.2.1
    have hcy:=hY.2.1
    simp only[Ex.args_mk,Ex.op_mk,Ex.name_mk,Ex.n_mk] at HX HY HAX HAY hlx hly hcx hcy HD0 HD1 HD2 HD3 HD4 HIH HKl HKd HK0 HKs
    clear hX hY ih hn
    simp only[exVal,Ex.op_mk,Ex.n_mk,Ex.name_mk,Ex.args_mk] at HSx HYk⊢
    obtain⟨gb,HGb⟩:∃ gb:Bool,Hid (gb=pB (op≠4∧op'=4∧args'=[Ex.mk op n s args])):=⟨_,rfl⟩
    go_enter Tryz.func79, Tryz.ntmps79
    go_wp2_with fail
    generalize hW2:(w.alloc (.cells #[.int .i64 op,.int .i64 n,.string s,.slice ax args.length cx] 72)).alloc (.cells #[.int .i64 op',.int .i64 n',.string s',.slice ay args'.length cy] 72)=W2
    have hz2:W2.heap.size=w.heap.size+2:=by rw[← hW2];simp
    have HB2:Hid (Below w.heap.size w W2):=by show Below _ _ _;rw[← hW2];exact belr
    have HK1:Hid (W2.heap[w.heap.size]? = some (.cells #[.int .i64 op,.int .i64 n,.string s,.slice ax args.length cx] 72 (0,0))):=by
      show _=_;rw[← hW2]
      exact hx_old (hx_new rfl)
    have HK2:Hid (W2.heap[w.heap.size+1]? = some (.cells #[.int .i64 op',.int .i64 n',.string s',.slice ay args'.length cy] 72 (0,0))):=by
      show _=_;rw[← hW2]
      exact hx_new (by simp)
    clear hW2
    have HBX:Hid (∀ W,Below (w.heap.size+2) W2 W→Below w.heap.size w W∧W.heap[w.heap.size]? = some (.cells #[.int .i64 op,.int .i64 n,.string s,.slice ax args.length cx] 72 (0,0))∧W.heap[w.heap.size+1]? = some (.cells #[.int .i64 op',.int .i64 n',.string s',.slice ay args'.length cy] 72 (0,0))):=fun W h=>⟨HB2.out.trans (h.mono (by omega)),(h.block _ (by omega)).trans HK1.out,(h.block _ (by omega)).trans HK2.out⟩
    have hS2:=HSx.out (.mk op' n' s' args') ay cy W2 (HYk.out W2 HB2.out) HB2.out
    simp only[Ex.op_mk,Ex.n_mk,Ex.name_mk,Ex.args_mk] at hS2
    refine hS2.mono ?_
    rintro r w3 ⟨rfl,hb3⟩
    have HB3:Hid (Below (w.heap.size+2) W2 w3):=by show Below _ _ _;rw[← hz2];exact hb3
    have hz3:w.heap.size+2≤w3.heap.size:=by have:=hb3.size;omega
    clear hb3 hS2
    by_cases hab:Ex.mk op n s args=Ex.mk op' n' s' args'
    · rw[pB_true hab]
      have HPe:=Lib.hid (HP.out 0 w3 (HD0.out hab).symm (HBX.out _ HB3.out).1)
      clear hab
      go_wp2_with fail
      first | exact HPe.out | (go_ret;exact HPe.out)
    · rw[pB_false hab]
      have HD1:=Lib.hid (HD1.out hab)
      have HD2:=Lib.hid (HD2.out hab)
      have HD3:=Lib.hid (HD3.out hab)
      have HD4:=Lib.hid (HD4.out hab)
      clear hab HD0
      go_upto_region 3 with fail
      go_cut [31] from 10 to 31 (fun v wx=>v=.bool gb∧Hid (Below (w.heap.size+2) W2 wx))
      case first =>
        obtain⟨hbw,hk1,hk2⟩:=HBX.out _ HB3.out
        obtain⟨x0,x1,x2,x3,_⟩:=cell4 hk1
        obtain⟨y0,y1,y2,y3,_⟩:=cell4 hk2
        have X0:∀ g:Grow w3.heap.size w3,g.w'.cell? _=_:=Grow.old x0 (Nat.le_refl _)
        have X1:∀ g:Grow w3.heap.size w3,g.w'.cell? _=_:=Grow.old x1 (Nat.le_refl _)
        have X2:∀ g:Grow w3.heap.size w3,g.w'.cell? _=_:=Grow.old x2 (Nat.le_refl _)
        have X3:∀ g:Grow w3.heap.size w3,g.w'.cell? _=_:=Grow.old x3 (Nat.le_refl _)
        have Y0:∀ g:Grow w3.heap.size w3,g.w'.cell? _=_:=Grow.old y0 (Nat.le_refl _)
        have Y1:∀ g:Grow w3.heap.size w3,g.w'.cell? _=_:=Grow.old y1 (Nat.le_refl _)
        have Y2:∀ g:Grow w3.heap.size w3,g.w'.cell? _=_:=Grow.old y2 (Nat.le_refl _)
        have Y3:∀ g:Grow w3.heap.size w3,g.w'.cell? _=_:=Grow.old y3 (Nat.le_refl _)
        clear hk1 hk2
        by_cases h1:op=4
        · have HG:Hid (gb=false):=HGb.out.trans (pB_false fun h=>h.1 h1)
          have e1:(op != 4)=false:=by rw[h1];rfl
          clear h1
          go_wp2_with fail
          (refine wp_region_grow (B:=w3.heap.size) (w0:=w3) (by kernel_rfl) (by kernel_rfl) bel ?_;(repeat (go_big_quiet_step ((fail))));refine wpQuiet_nil ?_;intro wg hCg;have hbg:=grow_out hCg;clear hCg)
          go_wp2_with fail
          go_meet
          case rel=>exact⟨by rw[HG.out],HB3.out.trans ((by assumption:Below w3.heap.size w3 _).mono hz3)⟩
        · have e1:(op != 4)=true:=by simpa using h1
          by_cases h2:op'=4
          · have e2:(op' == 4)=true:=by rw[h2];rfl
            by_cases h3:args'.length=1
            · have e3:((args'.length:Int) == 1)=true:=by rw[h3];rfl
              obtain⟨z,rfl⟩:=List.length_eq_one_iff.1 h3
              have HG:Hid (gb=pB (Ex.mk op n s args=z)):=HGb.out.trans (by
                by_cases h:Ex.mk op n s args=z
                · rw[pB_true h,pB_true ⟨h1,h2,by rw[h]⟩]
                · rw[pB_false h,pB_false fun q=>h (by have:=q.2.2;simp at this;exact this.symm)])
              obtain⟨bb,ob,hb⟩:=HAY.out.resolve_left (by simp)
              subst hb
              obtain⟨a2,k2,q0,q1,q2,q3,hQ⟩:=HY.out.get rfl (i:=0) (by simp)
              have kk:=keeps_of_below hbw
              simp only[List.getElem_cons_zero,Nat.zero_mul,Nat.add_zero] at q0 q1 q2 q3 hQ
              have d0:∀ g:Grow w3.heap.size w3,g.w'.cell? _=_:=Grow.old (kk _ _ q0) (Nat.le_refl _)
              have d1:∀ g:Grow w3.heap.size w3,g.w'.cell? _=_:=Grow.old (kk _ _ q1) (Nat.le_refl _)
              have d2:∀ g:Grow w3.heap.size w3,g.w'.cell? _=_:=Grow.old (kk _ _ q2) (Nat.le_refl _)
              have d3:∀ g:Grow w3.heap.size w3,g.w'.cell? _=_:=Grow.old (kk _ _ q3) (Nat.le_refl _)
              have HC:=Lib.hid (fun W (hW:Below w3.heap.size w3 W)=>(HSx.out z a2 k2 W ((hQ.keep kk).keep (keeps_of_below hW)) (hbw.trans (hW.mono hbw.size))).mono fun e w' h=>(⟨h.1,hW.trans (h.2.mono hW.size)⟩:_∧Below w3.heap.size w3 w'))
              generalize pB (Ex.mk op n s args=z)=pz at HC HG
              clear h1 h2 h3 q0 q1 q2 q3 kk hQ
              simp only[List.length_singleton] at Y3 y3 e3⊢
              go_wp2_with fail
              (refine wp_region_grow (B:=w3.heap.size) (w0:=w3) (by kernel_rfl) (by kernel_rfl) bel ?_;(repeat (go_big_quiet_step ((go_at_call 62;with_reducible exact grow_call (HC.out _ (Grow.h _))))));refine wpQuiet_nil ?_;intro wg hCg;have hbg:=grow_out hCg;clear hCg)
              go_wp2_with fail
              go_meet
              case rel=>exact⟨by rw[HG.out],HB3.out.trans ((by assumption:Below w3.heap.size w3 _).mono hz3)⟩
            · have e3:((args'.length:Int) == 1)=false:=by simp;omega
              have HG:Hid (gb=false):=HGb.out.trans (pB_false fun h=>h3 (by rw[h.2.2];rfl))
              clear h1 h2 h3
              go_wp2_with fail
              (refine wp_region_grow (B:=w3.heap.size) (w0:=w3) (by kernel_rfl) (by kernel_rfl) bel ?_;(repeat (go_big_quiet_step ((fail))));refine wpQuiet_nil ?_;intro wg hCg;have hbg:=grow_out hCg;clear hCg)
              go_wp2_with fail
              go_meet
              case rel=>exact⟨by rw[HG.out],HB3.out.trans ((by assumption:Below w3.heap.size w3 _).mono hz3)⟩
          · have e2:(op' == 4)=false:=by simpa using h2
            have HG:Hid (gb=false):=HGb.out.trans (pB_false fun h=>h2 h.2.1)
            clear h1 h2
            go_wp2_with fail
            (refine wp_region_grow (B:=w3.heap.size) (w0:=w3) (by kernel_rfl) (by kernel_rfl) bel ?_;(repeat (go_big_quiet_step ((fail))));refine wpQuiet_nil ?_;intro wg hCg;have hbg:=grow_out hCg;clear hCg)
            go_wp2_with fail
            go_meet
            case rel=>exact⟨by rw[HG.out],HB3.out.trans ((by assumption:Below w3.heap.size w3 _).mono hz3)⟩
      case rest =>
        obtain⟨rfl,HBc⟩:=hcut
        clear HB3 hz3
        cases gb
        · have hno:¬ (op≠4∧op'=4∧args'=[Ex.mk op n s args]):=fun h=>by
            have h1:=HGb.out
            rw[pB_true h] at h1
            simp at h1
          have HD2:=Lib.hid (HD2.out hno)
          have HD3:=Lib.hid (HD3.out hno)
          have HD4:=Lib.hid (HD4.out hno)
          clear hno HD1 HGb
          obtain⟨hbw,hk1,hk2⟩:=HBX.out _ HBc.out
          obtain⟨x0,x1,x2,x3,_⟩:=cell4 hk1
          obtain⟨y0,y1,y2,y3,_⟩:=cell4 hk2
          clear hk1 hk2
          by_cases hnl:s=s'∧args.length=args'.length
          · obtain⟨rfl,hl⟩:=hnl
            have Hl:=Lib.hid hl
            have hd3:(s.toList != s.toList)=false:=by simp
            have hd4:((args.length:Int) != (args'.length:Int))=false:=by simp;omega
            clear hl HD2
            go_upto_region 8 with fail
            obtain⟨c0,cb,Hc0⟩:∃ (c0:Nat) (cb:Bool),Hid (D=c0+dsK args args' args.length∧((cb=false∧c0=0∧op=op'∧n=n')∨(cb=true∧c0=1∧¬ (op=op'∧n=n')))):=by
              by_cases h3:op=op'∧n=n'
              · exact⟨0,false,HD3.out ⟨rfl,Hl.out⟩ h3,Or.inl ⟨rfl,rfl,h3⟩⟩
              · exact⟨1,true,HD4.out ⟨rfl,Hl.out⟩ h3,Or.inr ⟨rfl,rfl,h3⟩⟩
            clear HD3 HD4
            go_cut [57] from 46 to 57 (fun v wx=>v=.bool cb∧wx=wc)
            case first =>
              rcases Hc0.out.2 with ⟨hcb,-,h3,h4⟩ | ⟨hcb,-,h3⟩
              · subst hcb
                have e1:(op != op')=false:=by simp[h3]
                have e2:(n != n')=false:=by simp[h4]
                clear h3 h4 Hc0
                go_wp2_with fail
                all_goals
                  go_meet
                  case rel=>exact⟨rfl,rfl⟩
              · subst hcb
                by_cases h4:op=op'
                · have e1:(op != op')=false:=by simp[h4]
                  have e2:(n != n')=true:=by
                    have:¬ n=n':=fun h=>h3 ⟨h4,h⟩
                    simp[this]
                  clear h3 h4 Hc0
                  go_wp2_with fail
                  all_goals
                    go_meet
                    case rel=>exact⟨rfl,rfl⟩
                · have e1:(op != op')=true:=by simp[h4]
                  clear h3 h4 Hc0
                  go_wp2_with fail
                  all_goals
                    go_meet
                    case rel=>exact⟨rfl,rfl⟩
            case rest =>
              obtain⟨rfl,rfl⟩:=hcut
              have HDe:Hid (D=c0+dsK args args' args.length):=Hc0.out.1
              have hcc:(cb=false∧c0=0)∨(cb=true∧c0=1):=Hc0.out.2.imp (fun h=>⟨h.1,h.2.1⟩) fun h=>⟨h.1,h.2.1⟩
              have hc1:c0≤1:=by omega
              clear Hc0 x0 x1 x2 x3 y0 y1 y2 y3 hbw hd3 hd4
              rcases hcc with ⟨hcb,hc0⟩ | ⟨hcb,hc0⟩
              all_goals
               subst hcb
               have Hc0:=Lib.hid hc0
               clear hc0
               go_wp2_with fail
               go_loopw [6,5] (fun i v wr=>∃ k:Nat,i=.int .i64 k∧v=.int .i64 ((c0+dsK args args' k:Nat):Int)∧k≤args.length∧Hid (Below (w.heap.size+2) W2 wr)) (fun i _ _=>args.length - (intOf i).toNat)
               case atStart=>exact⟨0,rfl,by rw[HK0.out,Hc0.out];rfl,Nat.zero_le _,HBc⟩
               case round =>
                 clear HBc
                 obtain⟨k,rfl,rfl,hk,HBc⟩:=hrel
                 obtain⟨hbw,hk1,hk2⟩:=HBX.out _ HBc.out
                 obtain⟨x0,x1,x2,x3,_⟩:=cell4 hk1
                 obtain⟨y0,y1,y2,y3,_⟩:=cell4 hk2
                 clear hk1 hk2
                 have hkl:=HKl.out k
                 by_cases hlt:k < args.length
                 · have hltb:k < args'.length:=by have:=Hl.out;omega
                   have hi1:(k:Int) < args.length:=by omega
                   have hi2:(k:Int) < args'.length:=by omega
                   obtain⟨ba,oa,ha⟩:=HAX.out.resolve_left (by omega)
                   obtain⟨bb,ob,hb⟩:=HAY.out.resolve_left (by omega)
                   subst ha
                   subst hb
                   obtain⟨a1,k1,g0,g1,g2,g3,hP⟩:=HX.out.get rfl hlt
                   obtain⟨a2,k2,q0,q1,q2,q3,hQ⟩:=HY.out.get rfl hltb
                   have kk:=keeps_of_below hbw
                   have c0':∀ g:Grow wr.heap.size wr,g.w'.cell? _=_:=Grow.old (kk _ _ g0) (Nat.le_refl _)
                   have c1':∀ g:Grow wr.heap.size wr,g.w'.cell? _=_:=Grow.old (kk _ _ g1) (Nat.le_refl _)
                   have c2':∀ g:Grow wr.heap.size wr,g.w'.cell? _=_:=Grow.old (kk _ _ g2) (Nat.le_refl _)
                   have c3':∀ g:Grow wr.heap.size wr,g.w'.cell? _=_:=Grow.old (kk _ _ g3) (Nat.le_refl _)
                   have d0:∀ g:Grow wr.heap.size wr,g.w'.cell? _=_:=Grow.old (kk _ _ q0) (Nat.le_refl _)
                   have d1:∀ g:Grow wr.heap.size wr,g.w'.cell? _=_:=Grow.old (kk _ _ q1) (Nat.le_refl _)
                   have d2:∀ g:Grow wr.heap.size wr,g.w'.cell? _=_:=Grow.old (kk _ _ q2) (Nat.le_refl _)
                   have d3:∀ g:Grow wr.heap.size wr,g.w'.cell? _=_:=Grow.old (kk _ _ q3) (Nat.le_refl _)
                   have X3:∀ g:Grow wr.heap.size wr,g.w'.cell? _=_:=Grow.old x3 (Nat.le_refl _)
                   have Y3:∀ g:Grow wr.heap.size wr,g.w'.cell? _=_:=Grow.old y3 (Nat.le_refl _)
                   have HC:=Lib.hid (fun W (hW:Below wr.heap.size wr W)=>(HIH.out k hlt (args'[k]'hltb) a2 k2 a1 k1 W ((hP.keep kk).keep (keeps_of_below hW)) ((hQ.keep kk).keep (keeps_of_below hW))).mono fun e w' h=>(⟨h.1,hW.trans (h.2.mono hW.size)⟩:_∧Below wr.heap.size wr w'))
                   simp only[exVal] at HC
                   have hkd:=HKd.out k hlt (args'[k]'hltb)
                   have HKn:=Lib.hid (HKs.out k hlt hltb)
                   generalize args[k]'hlt=u at c0' c1' c2' c3' HC hkd HKn
                   generalize args'[k]'hltb=v at d0 d1 d2 d3 HC hkd HKn
                   generalize diffS u v=du at HC hkd HKn
                   generalize dsK args args' k=dk at hkl HKn
                   clear g0 g1 g2 g3 q0 q1 q2 q3 kk hP hQ x0 x1 x2 y0 y1 y2
                   go_wp2_with fail
                   (refine wp_region_grow (B:=wr.heap.size) (w0:=wr) (by kernel_rfl) (by kernel_rfl) bel ?_;(repeat (go_big_quiet_step ((go_at_call 79;with_reducible exact grow_call (HC.out _ (Grow.h _))))));refine wpQuiet_nil ?_;intro wg hCg;have hbg:=grow_out hCg;clear hCg)
                   go_wp2_with fail
                   go_roundw
                   case rel=>exact⟨k+1,by go_num,by rw[HKn.out];congr 1;omega,by omega,HBc.out.trans ((by assumption:Below wr.heap.size wr _).mono (by have:=HBc.out.size;omega))⟩
                   case measure=>simp[intOf];omega
                 · obtain rfl:k=args.length:=by omega
                   have HPe:=Lib.hid (HP.out _ wr HDe.out.symm hbw)
                   clear x0 x1 x2 y0 y1 y2 y3 hbw
                   go_wp2_with fail
                   first | exact HPe.out | (go_ret;exact HPe.out)
          · have HPe:=Lib.hid (HP.out 100 wc (HD2.out hnl).symm hbw)
            by_cases hs:s=s'
            · subst hs
              have hd3:(s.toList != s.toList)=false:=by simp
              have hd4:((args.length:Int) != (args'.length:Int))=true:=by
                have:args.length≠args'.length:=fun e=>hnl ⟨rfl,e⟩
                simp;omega
              clear hnl
              go_wp2_with fail
              first | exact HPe.out | (go_ret;exact HPe.out)
            · have hd3:(s.toList != s'.toList)=true:=tl_ne hs
              have hd5:(s.toList == s'.toList)=false:=by
                have h:=hd3
                simp only[bne,Bool.not_eq_true'] at h
                exact h
              clear hs hnl
              go_wp2_with fail
              first | exact HPe.out | (go_ret;exact HPe.out)
        · have hyes:op≠4∧op'=4∧args'=[Ex.mk op n s args]:=by
            by_cases h:op≠4∧op'=4∧args'=[Ex.mk op n s args]
            · exact h
            · have h1:=HGb.out
              rw[pB_false h] at h1
              simp at h1
          have HPe:=Lib.hid (HP.out 1 wc (HD1.out hyes).symm (HBX.out _ HBc.out).1)
          clear hyes
          go_wp2_with fail
          first | exact HPe.out | (go_ret;exact HPe.out)
end Go.Proofs.YtebneadheaefdaaGreatDoor
namespace Go.Proofs.YtebneadheaefdaaGreatDoor
open Go.RowKit
structure DifSt (W:World) (d:DesD) (x:DesA) (P:Nat→Bool) (bw br:Option Nat):Prop where
 ins:PortsIn (World.hide W P) d.inputs x.ai x.ci
 outs:StrsIn (World.hide W P) d.outputs x.ao x.co
 wires:SlR W 0 bw 74 6 d.wires.length x.aw x.cw (wiP W P d.wires)
 regs:SlR W 0 br 76 7 d.regs.length x.ar x.cr (reP W P d.regs)
 ne:∀ k,bw=some k→br≠some k
 hw:∀ k,bw=some k→P k=true
 hr:∀ k,br=some k→P k=true
section
variable {W W' : World} {d : DesD} {x : DesA} {P : Nat → Bool} {bw br : Option Nat}
theorem DifSt.to (h:DifSt W d x P bw br) (hk:∀ a v,(World.hide W P).cell? a=some v→(World.hide W' P).cell? a=some v) (h1:∀ k,bw=some k→W'.heap[k]? = W.heap[k]?) (h2:∀ k,br=some k→W'.heap[k]? = W.heap[k]?):DifSt W' d x P bw br where
 ins:=h.ins.keep hk
 outs:=h.outs.keep hk
 wires:=h.wires.imp fun b hb hr=>(hr.at (h1 b hb)).mono fun _ _ _ ⟨v,ae,ce,g0,g1,g2,g3,g4,g5,g6,g7⟩=>⟨v,ae,ce,g0,g1,g2,g3,g4,g5,g6,g7.keep hk⟩
 regs:=h.regs.imp fun b hb hr=>(hr.at (h2 b hb)).mono fun _ _ _ ⟨v,ae,ce,g0,g1,g2,g3,g4,g5,g6,g7,g8⟩=>⟨v,ae,ce,g0,g1,g2,g3,g4,g5,g6,g7,g8.keep hk⟩
 ne:=h.ne
 hw:=h.hw
 hr:=h.hr
theorem DifSt.below (h:DifSt W d x P bw br) (hb:Below W.heap.size W W'):DifSt W' d x P bw br :=
 h.to (hk_below hb fun _ _ h=>h).cell (fun k hk=>hb.block k (h.wires.lt k hk).2) fun k hk=>hb.block k (h.regs.lt k hk).2
theorem DifSt.gr {c:Nat} (h:DifSt W d x P bw br) (hg:W.grownBy W' (some c)) (hc:P c=true) (h1:bw≠some c) (h2:br≠some c):DifSt W' d x P bw br :=
 h.to (hide_grown hg (fun k hk=>by obtain rfl:=Option.some.inj hk;exact hc) fun _ _ h=>h) (fun k hk=>hg.block k (h.wires.lt k hk).2 fun e=>h1 (hk.trans e)) fun k hk=>hg.block k (h.regs.lt k hk).2 fun e=>h2 (hk.trans e)
theorem DifSt.named (h:DifSt W d x P bw br) (nm:ByteArray):DifSt W { d with name:=nm } x P bw br:=⟨h.ins,h.outs,h.wires,h.regs,h.ne,h.hw,h.hr⟩
theorem DifSt.ofNew {B:Nat} (h:NewD W B 0 0 d x bw br) (hb:Below W.heap.size W W') (hp:∀ k,k < W.heap.size→P k=true→newP 0 bw br k=true) (h1:∀ k,bw=some k→P k=true) (h2:∀ k,br=some k→P k=true):DifSt W' d x P bw br:=by
 have hk:∀ a v,(World.hide W (newP 0 bw br)).cell? a=some v→(World.hide W' P).cell? a=some v:=(hk_below hb hp).cell
 have hm:∀ a v,(World.hide W (newP B bw br)).cell? a=some v→(World.hide W (newP 0 bw br)).cell? a=some v:=(hk_mono (newP_mono (Nat.zero_le B))).cell
 refine⟨(h.ins.keep hm).keep hk,(h.outs.keep hm).keep hk,?_,?_,h.ne,h1,h2⟩
 ·obtain⟨q1,q2,q3,q4⟩:=h.wires
  refine⟨q1,q2,q3,q4.imp id ?_⟩
  rintro ⟨b,hb',_,ha,hrow⟩
  exact⟨b,hb',Nat.zero_le _,ha,(hrow.at (hb.block _ hrow.lt)).mono fun i f _ ⟨v,ae,ce,g0,g1,g2,g3,g4,g5,g6,g7⟩=>⟨v,ae,ce,g0,g1,g2,g3,g4,g5,g6,by rw[if_neg (Nat.not_lt_zero i)] at g7;exact g7.keep hk⟩⟩
 ·obtain⟨q1,q2,q3,q4⟩:=h.regs
  refine⟨q1,q2,q3,q4.imp id ?_⟩
  rintro ⟨b,hb',_,ha,hrow⟩
  exact⟨b,hb',Nat.zero_le _,ha,(hrow.at (hb.block _ hrow.lt)).mono fun i f _ ⟨v,ae,ce,g0,g1,g2,g3,g4,g5,g6,g7,g8⟩=>⟨v,ae,ce,g0,g1,g2,g3,g4,g5,g6,g7,by rw[if_neg (Nat.not_lt_zero i)] at g8;exact g8.keep hk⟩⟩
theorem DifSt.wrow (h:DifSt W d x P bw br) (hn:0 < d.wires.length):∃ b,bw=some b∧x.aw=some ⟨b,0,none⟩∧RowOf W b 74 6 d.wires.length x.cw (wiP W P d.wires):=by
 rcases h.wires.2.2.2 with q | ⟨b,hb,_,ha,q⟩
 ·omega
 ·exact⟨b,hb,ha,q⟩
theorem DifSt.rrow (h:DifSt W d x P bw br) (hn:0 < d.regs.length):∃ b,br=some b∧x.ar=some ⟨b,0,none⟩∧RowOf W b 76 7 d.regs.length x.cr (reP W P d.regs):=by
 rcases h.regs.2.2.2 with q | ⟨b,hb,_,ha,q⟩
 ·omega
 ·exact⟨b,hb,ha,q⟩
theorem DifSt.des (h:DifSt W d x P bw br):DesIn W d x:=by
 refine⟨h.ins.keep (hk_unhide _ _).cell,?_,?_,h.outs.keep (hk_unhide _ _).cell⟩
 ·obtain⟨h1,h2,h3,h4⟩:=h.wires
  refine⟨h2,by omega,h4.imp (fun h=>h.1) ?_⟩
  rintro ⟨b,hb,hb2,ha,h⟩
  refine⟨b,0,ha,fun i hi=>?_⟩
  obtain⟨f,⟨v,ae,ce,g0,g1,g2,g3,g4,g5,g6,g7⟩,hf⟩:=h.get hi
  rw[Nat.zero_add]
  exact⟨v,g0,hf 0 _ g1,hf 1 _ g2,(ExAt_iff _ _ _ _).2 ⟨ae,ce,hf 2 _ g3,hf 3 _ g4,hf 4 _ g5,hf 5 _ g6,g7.keep (hk_unhide _ _).cell⟩⟩
 ·obtain⟨h1,h2,h3,h4⟩:=h.regs
  refine⟨h2,by omega,h4.imp (fun h=>h.1) ?_⟩
  rintro ⟨b,hb,hb2,ha,h⟩
  refine⟨b,0,ha,fun i hi=>?_⟩
  obtain⟨f,⟨v,ae,ce,g0,g1,g2,g3,g4,g5,g6,g7,g8⟩,hf⟩:=h.get hi
  rw[Nat.zero_add]
  exact⟨v,g0,hf 0 _ g1,hf 1 _ g2,hf 2 _ g3,(ExAt_iff _ _ _ _).2 ⟨ae,ce,hf 3 _ g4,hf 4 _ g5,hf 5 _ g6,hf 6 _ g7,g8.keep (hk_unhide _ _).cell⟩⟩
theorem DifSt.setW {b i:Nat} (h:DifSt W d x P bw br) (hb:bw=some b) (hi:i < d.wires.length) {e:Ex} {a:Option Addr} {c:Nat} (he:ExIn (World.hide W P) e a c) :
  DifSt ((((W.setCell ⟨b,i * 6+2,none⟩ (.int .i64 e.op)).setCell ⟨b,i * 6+3,none⟩ (.int .i64 e.n)).setCell ⟨b,i * 6+4,none⟩ (.string e.name)).setCell ⟨b,i * 6+5,none⟩ (.slice a e.args.length c)) (d.setWire i e) x P bw br:=by
 have hq:=h.hw b hb
 have k:=(hk_store4 (W:=W) (p:=P) (b:=b) (o0:=i * 6+2) (o1:=i * 6+3) (o2:=i * 6+4) (o3:=i * 6+5) (u0:=.int .i64 e.op) (u1:=.int .i64 e.n) (u2:=.string e.name) (u3:=.slice a e.args.length c) hq).cell
 refine⟨h.ins.keep k,h.outs.keep k,?_,?_,h.ne,h.hw,h.hr⟩
 ·rw[set_wires]
  refine h.wires.imp fun b' hb' hr=>?_
  rw[hb] at hb'
  obtain rfl:=Option.some.inj hb'
  have:=rowSetWi hq hr hi he
  exact this
 ·exact h.regs.imp fun b' hb' hr=>(hr.other4 (fun e=>h.ne b hb (by rw[hb',e]))).mono fun i f _ ⟨v,ae,ce,g0,g1,g2,g3,g4,g5,g6,g7,g8⟩=>⟨v,ae,ce,g0,g1,g2,g3,g4,g5,g6,g7,g8.keep k⟩
theorem DifSt.setR {b i:Nat} (h:DifSt W d x P bw br) (hb:br=some b) (hi:i < d.regs.length) {e:Ex} {a:Option Addr} {c:Nat} (he:ExIn (World.hide W P) e a c) :
  DifSt ((((W.setCell ⟨b,i * 7+3,none⟩ (.int .i64 e.op)).setCell ⟨b,i * 7+4,none⟩ (.int .i64 e.n)).setCell ⟨b,i * 7+5,none⟩ (.string e.name)).setCell ⟨b,i * 7+6,none⟩ (.slice a e.args.length c)) { d with regs:=d.regs.modify i fun r=>{ r with next:=e } } x P bw br:=by
 have hq:=h.hr b hb
 have k:=(hk_store4 (W:=W) (p:=P) (b:=b) (o0:=i * 7+3) (o1:=i * 7+4) (o2:=i * 7+5) (o3:=i * 7+6) (u0:=.int .i64 e.op) (u1:=.int .i64 e.n) (u2:=.string e.name) (u3:=.slice a e.args.length c) hq).cell
 refine⟨h.ins.keep k,h.outs.keep k,?_,?_,h.ne,h.hw,h.hr⟩
 ·exact h.wires.imp fun b' hb' hr=>(hr.other4 (fun e=>h.ne b' hb' (by rw[hb,e]))).mono fun i f _ ⟨v,ae,ce,g0,g1,g2,g3,g4,g5,g6,g7⟩=>⟨v,ae,ce,g0,g1,g2,g3,g4,g5,g6,g7.keep k⟩
 ·have hm:(d.regs.modify i fun r=>({ r with next:=e }:RegD)).length=d.regs.length:=List.length_modify _ _ _
  show SlR _ 0 br _ 7 (d.regs.modify i fun r=>({ r with next:=e }:RegD)).length x.ar x.cr (reP _ P (d.regs.modify i fun r=>({ r with next:=e }:RegD)))
  rw[hm]
  refine h.regs.imp fun b' hb' hr=>?_
  rw[hb] at hb'
  obtain rfl:=Option.some.inj hb'
  refine(hr.store4 (k:=3) hi (by omega) (.int .i64 e.op) (.int .i64 e.n) (.string e.name) (.slice a e.args.length c)).mono fun j f hj hf=>?_
  by_cases ej:j=i
  ·subst ej
   rw[if_pos rfl] at hf
   obtain⟨g,⟨v,ae,ce,g0,g1,g2,g3,g4,g5,g6,g7,g8⟩,rfl⟩:=hf
   refine⟨{ v with next:=e },a,c,?_,?_,?_,?_,?_,?_,?_,?_,he.keep k⟩
   ·rw[List.getElem?_modify_eq,g0]
    rfl
   ·simpa [updF] using g1
   ·simpa [updF] using g2
   ·simpa [updF] using g3
   ·simp[updF]
   ·simp[updF]
   ·simp[updF]
   ·simp[updF]
  ·rw[if_neg ej] at hf
   obtain⟨v,ae,ce,g0,g1,g2,g3,g4,g5,g6,g7,g8⟩:=hf
   refine⟨v,ae,ce,?_,g1,g2,g3,g4,g5,g6,g7,g8.keep k⟩
   simp only[List.getElem?_modify,if_neg (Ne.symm ej),g0]
   rfl
theorem DifSt.setI {b i:Nat} (h:DifSt W d x P bw br) (hb:br=some b) (hi:i < d.regs.length) (m:Int) :
  DifSt (W.setCell ⟨b,i * 7+2,none⟩ (.int .i64 m)) { d with regs:=d.regs.modify i fun r=>{ r with init:=m } } x P bw br:=by
 have hq:=h.hr b hb
 have k:=(hk_store (w:=W) (p:=P) (k:=b) (o:=i * 7+2) (u:=.int .i64 m) hq).cell
 refine⟨h.ins.keep k,h.outs.keep k,?_,?_,h.ne,h.hw,h.hr⟩
 ·exact h.wires.imp fun b' hb' hr=>(hr.other1 (fun e=>h.ne b' hb' (by rw[hb,e]))).mono fun i f _ ⟨v,ae,ce,g0,g1,g2,g3,g4,g5,g6,g7⟩=>⟨v,ae,ce,g0,g1,g2,g3,g4,g5,g6,g7.keep k⟩
 ·have hm:(d.regs.modify i fun r=>({ r with init:=m }:RegD)).length=d.regs.length:=List.length_modify _ _ _
  show SlR _ 0 br _ 7 (d.regs.modify i fun r=>({ r with init:=m }:RegD)).length x.ar x.cr (reP _ P (d.regs.modify i fun r=>({ r with init:=m }:RegD)))
  rw[hm]
  refine h.regs.imp fun b' hb' hr=>?_
  rw[hb] at hb'
  obtain rfl:=Option.some.inj hb'
  refine(hr.store (k:=2) hi (by omega) (.int .i64 m)).mono fun j f hj hf=>?_
  by_cases ej:j=i
  ·subst ej
   rw[if_pos rfl] at hf
   obtain⟨g,⟨v,ae,ce,g0,g1,g2,g3,g4,g5,g6,g7,g8⟩,rfl⟩:=hf
   refine⟨{ v with init:=m },ae,ce,?_,?_,?_,?_,?_,?_,?_,?_,g8.keep k⟩
   ·rw[List.getElem?_modify_eq,g0]
    rfl
   ·simpa [updF] using g1
   ·simpa [updF] using g2
   ·simp[updF]
   ·simpa [updF] using g4
   ·simpa [updF] using g5
   ·simpa [updF] using g6
   ·simpa [updF] using g7
  ·rw[if_neg ej] at hf
   obtain⟨v,ae,ce,g0,g1,g2,g3,g4,g5,g6,g7,g8⟩:=hf
   refine⟨v,ae,ce,?_,g1,g2,g3,g4,g5,g6,g7,g8.keep k⟩
   simp only[List.getElem?_modify,if_neg (Ne.symm ej),g0]
   rfl
end
end Go.Proofs.YtebneadheaefdaaGreatDoor
namespace Go.Proofs.YtebneadheaefdaaGreatDoor
open Go.RowKit
attribute [local go_sem ↓] Go.wp_at_zero Go.wp_at_succ
theorem zwK_le_sum {α:Type} (f:α→α→Nat):∀ (l m:List α) (k:Nat),zwK f l m k≤zipSum f l m:=by
 intro l
 induction l with
 | nil=>intro m k;simp[zwK,zipSum]
 | cons a l ih =>
  intro m k
  cases k with
  | zero=>simp[zwK,zipSum]
  | succ k =>
   cases m with
   | nil=>simp[zwK,zipSum]
   | cons b m =>
    have h2:=ih m k
    unfold zwK at h2⊢
    simp only[List.take_succ_cons,zipSum]
    omega
theorem diffD_one {a b:DesD} (h:diffD a b=1):a.wires.length=b.wires.length∧a.regs.length=b.regs.length∧a=a.patch b∧zipSum wDif a.wires b.wires+zipSum rDif a.regs b.regs=1:=by
 unfold diffD at h
 split at h
 ·simp at h
 ·rename_i h1
  split at h
  ·rename_i h2
   refine⟨?_,?_,h2,h⟩
   ·by_cases e:a.wires.length=b.wires.length
    ·exact e
    ·exact absurd (Or.inl e) h1
   ·by_cases e:a.regs.length=b.regs.length
    ·exact e
    ·exact absurd (Or.inr e) h1
  ·simp at h
theorem bW_zero (a b:DesD):a.bW b 0=b:=by unfold DesD.bW;rw[List.take_zero,wPatch_nil]
theorem bW_succ (a b:DesD) {k:Nat} (h1:k < a.wires.length) (h2:k < b.wires.length):a.bW b (k+1)=(a.bW b k).setWire k (a.wires[k]'h1).expr:=by
 unfold DesD.bW DesD.setWire
 rw[wPatch_succ _ _ h1 h2]
theorem bW_all (a b:DesD):a.bW b a.wires.length=a.bR b 0:=by
 unfold DesD.bW DesD.bR
 rw[List.take_length,List.take_zero,rPatch_nil]
theorem mod_mod {α:Type} (f g:α→α):∀ (l:List α) (i:Nat),(l.modify i f).modify i g=l.modify i fun x=>g (f x):=by
 intro l
 induction l with
 | nil=>intro i;cases i<;>rfl
 | cons a l ih =>
  intro i
  cases i with
  | zero=>rfl
  | succ i=>simp only[List.modify_succ_cons,ih]
theorem bR_succ (a b:DesD) {k:Nat} (h1:k < a.regs.length) (h2:k < b.regs.length):a.bR b (k+1)={ (a.bR b k).setNext k (a.regs[k]'h1).next with regs:=((a.bR b k).setNext k (a.regs[k]'h1).next).regs.modify k fun r=>{ r with init:=(a.regs[k]'h1).init } }:=by
 unfold DesD.bR DesD.setNext
 simp only[mod_mod]
 rw[rPatch_succ _ _ h1 h2]
theorem bR_all (a b:DesD):{ a.bR b a.regs.length with name:=a.name }=a.patch b:=by
 unfold DesD.bR DesD.patch
 rw[List.take_length]
theorem bW_len (a b:DesD) (k:Nat):(a.bW b k).wires.length=b.wires.length∧(a.bW b k).regs.length=b.regs.length:=⟨wPatch_len _ _,rfl⟩
theorem bR_len (a b:DesD) (k:Nat):(a.bR b k).wires.length=b.wires.length∧(a.bR b k).regs.length=b.regs.length:=⟨wPatch_len _ _,rPatch_len _ _⟩
theorem DifSt.wblock {W:World} {d:DesD} {x:DesA} {P:Nat→Bool} {bw br:Option Nat} {B:Nat} (h:DifSt W d x P bw br) (hB:∀ k,bw=some k→B≤k) (hn:0 < d.wires.length):∃ b,bw=some b∧x.aw=some ⟨b,0,none⟩∧B≤b∧b < W.heap.size∧(∀ o,W.frozen? ⟨b,o,none⟩=false)∧br≠some b:=by
 obtain⟨b,hb,ha,q⟩:=h.wrow hn
 exact⟨b,hb,ha,hB b hb,q.lt,q.unfrozen,h.ne b hb⟩
theorem DifSt.rblock {W:World} {d:DesD} {x:DesA} {P:Nat→Bool} {bw br:Option Nat} {B:Nat} (h:DifSt W d x P bw br) (hB:∀ k,br=some k→B≤k) (hn:0 < d.regs.length):∃ b,br=some b∧x.ar=some ⟨b,0,none⟩∧B≤b∧b < W.heap.size∧(∀ o,W.frozen? ⟨b,o,none⟩=false)∧bw≠some b:=by
 obtain⟨b,hb,ha,q⟩:=h.rrow hn
 exact⟨b,hb,ha,hB b hb,q.lt,q.unfrozen,fun e=>h.ne b e hb⟩
set_option maxRecDepth 100000 in
set_option maxHeartbeats 16000000 in
theorem diff34_any (a b:DesD) (x y:DesA) (B:Nat) (bw br:Option Nat) (w:World) (hA:DesIn (World.hide w (newP 0 bw br)) a x) (hN:NewD w B 0 0 b y bw br) (hB:B≤w.heap.size) (hd:diffD a b=1) (hn:∀ e∈a.exprs,e.nodes.length≤65536) :
    Calls Tryz.prog 37 #[desVal a x,desVal b y] w fun r w'=>r=.returned (.int .i64 1)∧Below B w w':=by
  obtain⟨hlw,hlr,hpa,hsum⟩:=diffD_one hd
  have HSw:Hid (∀ k,zwK wDif a.wires b.wires k≤1):=fun k=>by have:=zwK_le_sum wDif a.wires b.wires k;omega
  have HSr:Hid (∀ k,zipSum wDif a.wires b.wires+zwK rDif a.regs b.regs k≤1):=fun k=>by have:=zwK_le_sum rDif a.regs b.regs k;omega
  have HS0:Hid (zwK wDif a.wires b.wires 0=0):=zwK_zero _ _ _
  have HSe:Hid (zwK wDif a.wires b.wires a.wires.length=zipSum wDif a.wires b.wires+zwK rDif a.regs b.regs 0):=by show _=_;rw[zwK_all hlw,zwK_zero];rfl
  have HSf:Hid (zipSum wDif a.wires b.wires+zwK rDif a.regs b.regs a.regs.length=1):=by show _=_;rw[zwK_all hlr];exact hsum
  have HSws:Hid (∀ k (h1:k < a.wires.length) (h2:k < b.wires.length),zwK wDif a.wires b.wires (k+1)=zwK wDif a.wires b.wires k+diffS (a.wires[k]'h1).expr (b.wires[k]'h2).expr):=fun k h1 h2=>zwK_succ wDif _ _ h1 h2
  have HSrs:Hid (∀ k (h1:k < a.regs.length) (h2:k < b.regs.length),zipSum wDif a.wires b.wires+zwK rDif a.regs b.regs (k+1)=zipSum wDif a.wires b.wires+zwK rDif a.regs b.regs k+((if (a.regs[k]'h1).init≠(b.regs[k]'h2).init then 1 else 0)+diffS (a.regs[k]'h1).next (b.regs[k]'h2).next)):=fun k h1 h2=>by
    rw[zwK_succ rDif _ _ h1 h2]
    unfold rDif
    omega
  have HW0:Hid (NewD w B 0 0 (a.bW b 0) y bw br):=by show NewD _ _ _ _ _ _ _ _;rw[bW_zero];exact hN
  have HWs:=Lib.hid (fun k h1 h2=>bW_succ a b (k:=k) h1 h2)
  have HWe:=Lib.hid (bW_all a b)
  have HRs:=Lib.hid (fun k h1 h2=>bR_succ a b (k:=k) h1 h2)
  have HRe:Hid ({ a.bR b a.regs.length with name:=a.name }=a):=(bR_all a b).trans hpa.symm
  have HWat:Hid (∀ k (h:k < b.wires.length),(a.bW b k).wires[k]? = some (b.wires[k]'h)):=fun k h=>wPatch_at _ _ h
  have HRat:Hid (∀ k (h:k < b.regs.length),(a.bR b k).regs[k]? = some (b.regs[k]'h)):=fun k h=>rPatch_at _ _ h
  have HLw:=Lib.hid (bW_len a b)
  have HLr:=Lib.hid (bR_len a b)
  have HNw:Hid (∀ k (h:k < a.wires.length),(a.wires[k]'h).expr.nodes.length≤65536):=fun k h=>hn _ (wire_mem h)
  have HNr:Hid (∀ k (h:k < a.regs.length),(a.regs[k]'h).next.nodes.length≤65536):=fun k h=>hn _ (reg_mem h)
  have hiL:b.inputs.length=a.inputs.length:=(congrArg (fun d:DesD=>d.inputs.length) hpa).symm
  have hoL:b.outputs.length=a.outputs.length:=(congrArg (fun d:DesD=>d.outputs.length) hpa).symm
  have HSm:Hid (∀ W,DesIn W a x→DesIn W a y→Calls Tryz.prog 33 #[.agg #[.string a.name,.slice x.ai a.inputs.length x.ci,.slice x.aw a.wires.length x.cw,.slice x.ar a.regs.length x.cr,.slice x.ao a.outputs.length x.co],.agg #[.string a.name,.slice y.ai b.inputs.length y.ci,.slice y.aw b.wires.length y.cw,.slice y.ar b.regs.length y.cr,.slice y.ao b.outputs.length y.co]] W fun r w'=>r=.returned (.bool true)∧Below W.heap.size W w'):=fun W h1 h2=>by
    have h:=same31_any a a x y W h1 h2
    rw[show pB (a=a)=true by simp[pB]] at h
    rw[hiL,hoL,← hlw,← hlr]
    exact h
  have HA:=Lib.hid hA
  have hla:=hA.wires.2.1
  have hlra:=hA.regs.2.1
  have HEw:Hid (a.wires.length=0∨∃ b off,x.aw=some ⟨b,off,none⟩):=hA.wires.addr
  have HEr:Hid (a.regs.length=0∨∃ b off,x.ar=some ⟨b,off,none⟩):=hA.regs.addr
  have hcwa:=hA.wires.1
  have hcra:=hA.regs.1
  have hcwb:=hN.wires.2.1
  have hcrb:=hN.regs.2.1
  have Hlw:=Lib.hid hlw
  have Hlr:=Lib.hid hlr
  have hdw:((a.wires.length:Int) != (b.wires.length:Int))=false:=by simp;omega
  have hdr:((a.regs.length:Int) != (b.regs.length:Int))=false:=by simp;omega
  have HP:Hid (∀ W,Below B w W→(fun (r:Ending) (w':World)=>r=.returned (.int .i64 1)∧Below B w w') (.returned (.int .i64 1)) W):=fun W h=>⟨rfl,h⟩
  generalize (fun (r:Ending) (w':World)=>r=.returned (.int .i64 1)∧Below B w w')=Po at HP⊢
  clear hA hN hd hn hlw hlr hpa hsum hiL hoL
  simp only[desVal,desVals]
  go_enter Tryz.func37, Tryz.ntmps37
  go_upto_region 1 with fail
  generalize hW2:(w.alloc (.cells #[.string a.name,.slice x.ai a.inputs.length x.ci,.slice x.aw a.wires.length x.cw,.slice x.ar a.regs.length x.cr,.slice x.ao a.outputs.length x.co] 27)).alloc (.cells #[.string b.name,.slice y.ai b.inputs.length y.ci,.slice y.aw b.wires.length y.cw,.slice y.ar b.regs.length y.cr,.slice y.ao b.outputs.length y.co] 27)=W2
  have hz2:W2.heap.size=w.heap.size+2:=by rw[← hW2];simp
  have HB2:Hid (Below w.heap.size w W2):=by show Below _ _ _;rw[← hW2];exact belr
  have HK1:Hid (W2.heap[w.heap.size]? = some (.cells #[.string a.name,.slice x.ai a.inputs.length x.ci,.slice x.aw a.wires.length x.cw,.slice x.ar a.regs.length x.cr,.slice x.ao a.outputs.length x.co] 27 (0,0))):=by
    show _=_;rw[← hW2]
    exact hx_old (hx_new rfl)
  have HK2:Hid (W2.heap[w.heap.size+1]? = some (.cells #[.string b.name,.slice y.ai b.inputs.length y.ci,.slice y.aw b.wires.length y.cw,.slice y.ar b.regs.length y.cr,.slice y.ao b.outputs.length y.co] 27 (0,0))):=by
    show _=_;rw[← hW2]
    exact hx_new (by simp)
  clear hW2
  have hbp:∀ k,newP 0 bw br k=true→k < w.heap.size:=fun k hk=>by
    rcases newP_true.1 hk with h | h | h
    · omega
    · exact(HW0.out.wires.lt k h).2
    · exact(HW0.out.regs.lt k h).2
  have hHw:∀ k,bw=some k→B≤k∧k < w.heap.size:=fun k h=>HW0.out.wires.lt k h
  have hHr:∀ k,br=some k→B≤k∧k < w.heap.size:=fun k h=>HW0.out.regs.lt k h
  obtain⟨P,HPt⟩:∃ P:Nat→Bool,Hid (∀ k,P k=true↔(bw=some k∨br=some k∨w.heap.size≤k)):=⟨fun k=>decide (bw=some k∨br=some k∨w.heap.size≤k),fun k=>decide_eq_true_iff⟩
  have hPn:∀ k,k < w.heap.size→P k=true→newP 0 bw br k=true:=fun k hk h=>newP_true.2 (by
    rcases (HPt.out k).1 h with h | h | h
    · exact Or.inr (Or.inl h)
    · exact Or.inr (Or.inr h)
    · omega)
  have HA2:Hid (DesIn (World.hide W2 P) a x):=HA.out.keep (hk_below HB2.out hPn).cell
  have HN2:Hid (DifSt W2 (a.bW b 0) y P bw br):=DifSt.ofNew HW0.out HB2.out hPn (fun k h=>(HPt.out k).2 (Or.inl h)) (fun k h=>(HPt.out k).2 (Or.inr (Or.inl h)))
  have Hbw0:Hid (∀ k,bw=some k→B≤k):=fun k h=>(hHw k h).1
  have Hbr0:Hid (∀ k,br=some k→B≤k):=fun k h=>(hHr k h).1
  have HB2':Hid (Below B w W2):=HB2.out.mono hB
  have Hbw:Hid (∀ k,bw=some k→B≤k∧k < w.heap.size):=fun k h=>HW0.out.wires.lt k h
  have Hbr:Hid (∀ k,br=some k→B≤k∧k < w.heap.size):=fun k h=>HW0.out.regs.lt k h
  clear HA HW0 HB2 hbp hPn hHw hHr
  obtain⟨x0,x1,x2,x3,x4,_⟩:=cell5 HK1.out
  obtain⟨y0,y1,y2,y3,y4,_⟩:=cell5 HK2.out
  go_wp2_with fail
  clear x0 x1 x2 x3 x4 y0 y1 y2 y3 y4
  go_loopw [6,5] (fun i v wr=>∃ k:Nat,i=.int .i64 k∧v=.int .i64 ((zwK wDif a.wires b.wires k:Nat):Int)∧k≤a.wires.length∧Hid (DesIn (World.hide wr P) a x)∧Hid (DifSt wr (a.bW b k) y P bw br)∧Hid (Below B w wr)∧w.heap.size+2≤wr.heap.size∧Hid (wr.heap[w.heap.size]? = some (.cells #[.string a.name,.slice x.ai a.inputs.length x.ci,.slice x.aw a.wires.length x.cw,.slice x.ar a.regs.length x.cr,.slice x.ao a.outputs.length x.co] 27 (0,0)))∧Hid (wr.heap[w.heap.size+1]? = some (.cells #[.string b.name,.slice y.ai b.inputs.length y.ci,.slice y.aw b.wires.length y.cw,.slice y.ar b.regs.length y.cr,.slice y.ao b.outputs.length y.co] 27 (0,0)))) (fun i _ _=>a.wires.length - (intOf i).toNat)
  case atStart=>exact⟨0,rfl,by rw[HS0.out];rfl,Nat.zero_le _,HA2,HN2,HB2',by omega,HK1,HK2⟩
  case round =>
    clear HA2 HN2 HB2' HK1 HK2 hz2
    obtain⟨k,rfl,rfl,hk,HA,HN,HB,hzr,HK1,HK2⟩:=hrel
    obtain⟨x0,x1,x2,x3,x4,_⟩:=cell5 HK1.out
    obtain⟨y0,y1,y2,y3,y4,_⟩:=cell5 HK2.out
    have hsk:=HSw.out k
    by_cases hlt:k < a.wires.length
    · have hltb:k < b.wires.length:=by have:=Hlw.out;omega
      have hi1:(k:Int) < a.wires.length:=by omega
      have hi2:(k:Int) < b.wires.length:=by omega
      have hi3:(a.wires.length:Int)≤x.cw:=by omega
      have hi4:(b.wires.length:Int)≤y.cw:=by omega
      obtain⟨bA,oA,haw⟩:=HEw.out.resolve_left (by omega)
      obtain⟨bB,hbw,hyw,hBB,hbs,hfr,hne⟩:=DifSt.wblock HN.out Hbw0.out (by rw[(HLw.out k).1];omega)
      obtain⟨_,_,_,hsl⟩:=HN.out.wires
      obtain⟨bb',hbw',-,-,hrow⟩:=hsl.resolve_left (by rw[(HLw.out k).1];omega)
      rw[hbw] at hbw'
      obtain rfl:=Option.some.inj hbw'
      obtain⟨f,⟨v,ae',ce',e0,e1,e2,e3,e4,e5,e6,hXb⟩,hf⟩:=hrow.get (i:=k) (by rw[(HLw.out k).1];exact hltb)
      rw[HWat.out k hltb] at e0
      obtain rfl:=Option.some.inj e0
      have q2:=hf 2 _ e3
      have q3:=hf 3 _ e4
      have q4:=hf 4 _ e5
      have q5:=hf 5 _ e6
      obtain⟨ae,ce,G0,G1,G2,G3,G4,G5,hXa⟩:=HA.out.wires.get haw hlt
      have g2:=hide_cell _ _ G2
      have g3:=hide_cell _ _ G3
      have g4:=hide_cell _ _ G4
      have g5:=hide_cell _ _ G5
      have HG:Hid (∀ w',Below wr.heap.size wr w'→w'.cell? ⟨bA,oA+k * 6+2,none⟩=_∧w'.cell? ⟨bA,oA+k * 6+3,none⟩=_∧w'.cell? ⟨bA,oA+k * 6+4,none⟩=_∧w'.cell? ⟨bA,oA+k * 6+5,none⟩=_):=fun w' h=>⟨keeps_of_below h _ _ g2,keeps_of_below h _ _ g3,keeps_of_below h _ _ g4,keeps_of_below h _ _ g5⟩
      have hnd:=HNw.out k hlt
      have HC:=Lib.hid (fun W (hW:Below wr.heap.size wr W)=>(nodes34_any (a.wires[k]'hlt).expr (b.wires[k]'hltb).expr ae ce ae' ce' W ((hXa.keep (hk_unhide _ _).cell).keep (keeps_of_below hW)) ((hXb.keep (hk_unhide _ _).cell).keep (keeps_of_below hW)) hnd).mono fun e w' h=>(⟨h.1,hW.trans (h.2.mono hW.size)⟩:_∧Below wr.heap.size wr w'))
      have hsk1:=HSw.out (k+1)
      have HSk:Hid (zwK wDif a.wires b.wires (k+1)=zwK wDif a.wires b.wires k+diffS (a.wires[k]'hlt).expr (b.wires[k]'hltb).expr):=HSws.out k hlt hltb
      have hsk2:=HSk.out
      rw[hsk2] at hsk1
      have HWk:=Lib.hid (HWs.out k hlt hltb)
      have HXa:=Lib.hid hXa
      have Hbw':=Lib.hid hbw
      have Hyw:=Lib.hid hyw
      have Haw:=Lib.hid haw
      rw[haw] at x2
      rw[hyw] at y2
      clear hXa hXb hrow hsl hf e1 e2 e3 e4 e5 e6 G0 G1 G2 G3 G4 G5 hnd hsk2 hyw hbw haw
      simp only[exVal] at HC
      generalize (a.wires[k]'hlt).expr=ea at HC HSk hsk1 HWk HXa g2 g3 g4 g5 HG
      generalize (b.wires[k]'hltb).expr=eb at HC HSk hsk1 q2 q3 q4 q5
      generalize diffS ea eb=du at HC HSk hsk1
      generalize zwK wDif a.wires b.wires k=zk at hsk hsk1 HSk
      have Gx2:∀ g:Grow wr.heap.size wr,g.w'.cell? _=_:=Grow.old x2 (Nat.le_refl _)
      have Gy2:∀ g:Grow wr.heap.size wr,g.w'.cell? _=_:=Grow.old y2 (Nat.le_refl _)
      have Gg2:∀ g:Grow wr.heap.size wr,g.w'.cell? _=_:=Grow.old g2 (Nat.le_refl _)
      have Gg3:∀ g:Grow wr.heap.size wr,g.w'.cell? _=_:=Grow.old g3 (Nat.le_refl _)
      have Gg4:∀ g:Grow wr.heap.size wr,g.w'.cell? _=_:=Grow.old g4 (Nat.le_refl _)
      have Gg5:∀ g:Grow wr.heap.size wr,g.w'.cell? _=_:=Grow.old g5 (Nat.le_refl _)
      have Gq2:∀ g:Grow wr.heap.size wr,g.w'.cell? _=_:=Grow.old q2 (Nat.le_refl _)
      have Gq3:∀ g:Grow wr.heap.size wr,g.w'.cell? _=_:=Grow.old q3 (Nat.le_refl _)
      have Gq4:∀ g:Grow wr.heap.size wr,g.w'.cell? _=_:=Grow.old q4 (Nat.le_refl _)
      have Gq5:∀ g:Grow wr.heap.size wr,g.w'.cell? _=_:=Grow.old q5 (Nat.le_refl _)
      go_wp2_with fail
      (refine wp_region_grow (B:=wr.heap.size) (w0:=wr) (by kernel_rfl) (by kernel_rfl) bel ?_;(repeat (go_big_quiet_step ((go_at_call 79;with_reducible exact grow_call (HC.out _ (Grow.h _))))));refine wpQuiet_nil ?_;intro wg hCg;have hbg:=grow_out hCg;clear hCg)
      clear Gx2 Gy2 Gg2 Gg3 Gg4 Gg5 Gq2 Gq3 Gq4 Gq5 x0 x1 x2 x3 x4 y0 y1 y2 y3 y4
      have HBg:=Lib.hid (by assumption:Below wr.heap.size wr wg)
      clear hbg
      obtain⟨g2,g3,g4,g5⟩:=HG.out _ HBg.out
      have HK1g:=Lib.hid (hx_below HBg.out HK1.out)
      have HK2g:=Lib.hid (hx_below HBg.out HK2.out)
      obtain⟨x0,x1,x2,x3,x4,_⟩:=cell5 HK1g.out
      obtain⟨y0,y1,y2,y3,y4,_⟩:=cell5 HK2g.out
      rw[Haw.out] at x2
      rw[Hyw.out] at y2
      have kq:=fun a u h=>keeps_of_below HBg.out a u h
      have q2:=kq _ _ q2
      have q3:=kq _ _ q3
      have q4:=kq _ _ q4
      have q5:=kq _ _ q5
      have hfg:∀ o,wg.frozen? ⟨bB,o,none⟩=false:=fun o=>(HBg.out.frozen (p:=⟨bB,o,none⟩) hbs).trans (hfr o)
      have HNg:Hid (DifSt wg (a.bW b k) y P bw br):=DifSt.below HN.out HBg.out
      have HAg:Hid (DesIn (World.hide wg P) a x):=HA.out.keep (hk_below HBg.out fun _ _ h=>h).cell
      have HXg:Hid (ExIn (World.hide wg P) ea ae ce):=HXa.out.keep (hk_below HBg.out fun _ _ h=>h).cell
      clear kq
      go_wp2_with fail
      go_region
      generalize hW5:((((wg.setCell ⟨bB,k * 6+2,none⟩ (.int .i64 ea.op)).setCell ⟨bB,k * 6+2+1,none⟩ (.int .i64 ea.n)).setCell ⟨bB,k * 6+2+2,none⟩ (.string ea.name)).setCell ⟨bB,k * 6+2+3,none⟩ (.slice ae ea.args.length ce)).drew=W5
      have hg5:wg.grownBy W5 (some bB):=by rw[← hW5];exact gr_drew (gr_set (gr_set (gr_set (gr_set (gr_refl _ _)))))
      have HN5:Hid (DifSt W5 (a.bW b (k+1)) y P bw br):=by
        show DifSt _ _ _ _ _ _
        rw[← hW5,HWk.out]
        exact DifSt.below (DifSt.setW HNg.out Hbw'.out (by rw[(HLw.out k).1];exact hltb) (e:=ea) (a:=ae) (c:=ce) HXg.out) (Below.drew (Below.refl _ _))
      clear hW5
      have hpb:P bB=true:=(HPt.out bB).2 (Or.inl Hbw'.out)
      have HA5:Hid (DesIn (World.hide W5 P) a x):=HAg.out.keep (hide_grown hg5 (fun j hj=>by obtain rfl:=Option.some.inj hj;exact hpb) fun _ _ h=>h)
      have hBlt:=Hbw.out bB Hbw'.out
      have HBg':Hid (Below B w wg):=HB.out.trans (HBg.out.mono (by omega))
      have HB5:Hid (Below B w W5):=gr_bel HBg'.out hg5 (by have:=HBg.out.size;omega) fun j hj=>by obtain rfl:=Option.some.inj hj;exact hBB
      have HK15:=Lib.hid (gr_blk hg5 HK1g.out fun e=>by have:=Option.some.inj e;omega)
      have HK25:=Lib.hid (gr_blk hg5 HK2g.out fun e=>by have:=Option.some.inj e;omega)
      have hz5:w.heap.size+2≤W5.heap.size:=by have:=hg5.size;have:=HBg.out.size;omega
      clear hg5 hpb x0 x1 x2 x3 x4 y0 y1 y2 y3 y4 g2 g3 g4 g5 q2 q3 q4 q5 hfg hfr hne HC HG
      go_wp2_with fail
      go_roundw
      case rel=>exact⟨k+1,by go_num,by rw[HSk.out];congr 1;try omega,by omega,HA5,HN5,HB5,hz5,HK15,HK25⟩
      case measure=>(simp[intOf];try omega)
    · obtain rfl:k=a.wires.length:=by omega
      have HN0:Hid (DifSt wr (a.bR b 0) y P bw br):=by show DifSt _ _ _ _ _ _;rw[← HWe.out];exact HN.out
      clear HN HSws HWs HWat HNw
      go_wp2_with fail
      clear x0 x1 x2 x3 x4 y0 y1 y2 y3 y4
      go_loopw [7,5] (fun i v wr=>∃ k:Nat,i=.int .i64 k∧v=.int .i64 ((zipSum wDif a.wires b.wires+zwK rDif a.regs b.regs k:Nat):Int)∧k≤a.regs.length∧Hid (DesIn (World.hide wr P) a x)∧Hid (DifSt wr (a.bR b k) y P bw br)∧Hid (Below B w wr)∧w.heap.size+2≤wr.heap.size∧Hid (wr.heap[w.heap.size]? = some (.cells #[.string a.name,.slice x.ai a.inputs.length x.ci,.slice x.aw a.wires.length x.cw,.slice x.ar a.regs.length x.cr,.slice x.ao a.outputs.length x.co] 27 (0,0)))∧Hid (wr.heap[w.heap.size+1]? = some (.cells #[.string b.name,.slice y.ai b.inputs.length y.ci,.slice y.aw b.wires.length y.cw,.slice y.ar b.regs.length y.cr,.slice y.ao b.outputs.length y.co] 27 (0,0)))) (fun i _ _=>a.regs.length - (intOf i).toNat)
      case atStart=>exact⟨0,rfl,by rw[HSe.out],Nat.zero_le _,HA,HN0,HB,hzr,HK1,HK2⟩
      case round =>
        rename World=>wr
        clear HA HN0 HB HK1 HK2 hzr
        obtain⟨k,rfl,rfl,hk,HA,HN,HB,hzr,HK1,HK2⟩:=hrel
        obtain⟨x0,x1,x2,x3,x4,_⟩:=cell5 HK1.out
        obtain⟨y0,y1,y2,y3,y4,_⟩:=cell5 HK2.out
        have hsk:=HSr.out k
        by_cases hlt:k < a.regs.length
        · have hltb:k < b.regs.length:=by have:=Hlr.out;omega
          have hi1:(k:Int) < a.regs.length:=by omega
          have hi2:(k:Int) < b.regs.length:=by omega
          have hi3:(a.regs.length:Int)≤x.cr:=by omega
          have hi4:(b.regs.length:Int)≤y.cr:=by omega
          obtain⟨bA,oA,har⟩:=HEr.out.resolve_left (by omega)
          obtain⟨bB,hbr,hyr,hBB,hbs,hfr,hne⟩:=DifSt.rblock HN.out Hbr0.out (by rw[(HLr.out k).2];omega)
          obtain⟨_,_,_,hsl⟩:=HN.out.regs
          obtain⟨bb',hbr',-,-,hrow⟩:=hsl.resolve_left (by rw[(HLr.out k).2];omega)
          rw[hbr] at hbr'
          obtain rfl:=Option.some.inj hbr'
          obtain⟨f,⟨v,ae',ce',e0,e1,e2,ei,e3,e4,e5,e6,hXb⟩,hf⟩:=hrow.get (i:=k) (by rw[(HLr.out k).2];exact hltb)
          rw[HRat.out k hltb] at e0
          obtain rfl:=Option.some.inj e0
          have qi:=hf 2 _ ei
          have q3:=hf 3 _ e3
          have q4:=hf 4 _ e4
          have q5:=hf 5 _ e5
          have q6:=hf 6 _ e6
          obtain⟨ae,ce,G0,G1,Gi,G3,G4,G5,G6,hXa⟩:=HA.out.regs.get har hlt
          have gi:=hide_cell _ _ Gi
          have g3:=hide_cell _ _ G3
          have g4:=hide_cell _ _ G4
          have g5:=hide_cell _ _ G5
          have g6:=hide_cell _ _ G6
          have HGi:Hid (∀ W,DesIn (World.hide W P) a x→W.cell? ⟨bA,oA+k * 7+2,none⟩=some (.int .i64 (a.regs[k]'hlt).init)):=fun W h=>by
            obtain⟨_,_,_,_,h0,_⟩:=h.regs.get har hlt
            exact hide_cell _ _ h0
          have hnd:=HNr.out k hlt
          have HC0:=Lib.hid (fun W (hW:Below wr.heap.size wr W)=>(nodes34_any (a.regs[k]'hlt).next (b.regs[k]'hltb).next ae ce ae' ce' W ((hXa.keep (hk_unhide _ _).cell).keep (keeps_of_below hW)) ((hXb.keep (hk_unhide _ _).cell).keep (keeps_of_below hW)) hnd).mono fun e w' h=>(⟨h.1,h.2⟩:_∧Below W.heap.size W w'))
          have hsk1:=HSr.out (k+1)
          have HSk:=Lib.hid (HSrs.out k hlt hltb)
          have hsk2:=HSk.out
          rw[hsk2] at hsk1
          have HRk:=Lib.hid (HRs.out k hlt hltb)
          have HXa:=Lib.hid hXa
          have Hbr':=Lib.hid hbr
          have Hyr:=Lib.hid hyr
          have Har:=Lib.hid har
          have hBlt:=Hbr.out bB Hbr'.out
          have hgk:=fun a u (h:wr.cell? a=some u) (W:World) (hW:Below wr.heap.size wr W)=>keeps_of_below hW _ _ h
          have HG:Hid (∀ W,Below wr.heap.size wr W→W.cell? ⟨bA,oA+k * 7+2,none⟩=_∧W.cell? ⟨bA,oA+k * 7+3,none⟩=_∧W.cell? ⟨bA,oA+k * 7+4,none⟩=_∧W.cell? ⟨bA,oA+k * 7+5,none⟩=_∧W.cell? ⟨bA,oA+k * 7+6,none⟩=_∧W.cell? ⟨bB,k * 7+2,none⟩=_∧W.cell? ⟨bB,k * 7+3,none⟩=_∧W.cell? ⟨bB,k * 7+4,none⟩=_∧W.cell? ⟨bB,k * 7+5,none⟩=_∧W.cell? ⟨bB,k * 7+6,none⟩=_):=fun W hW=>⟨hgk _ _ gi W hW,hgk _ _ g3 W hW,hgk _ _ g4 W hW,hgk _ _ g5 W hW,hgk _ _ g6 W hW,hgk _ _ qi W hW,hgk _ _ q3 W hW,hgk _ _ q4 W hW,hgk _ _ q5 W hW,hgk _ _ q6 W hW⟩
          rw[har] at x3
          rw[hyr] at y3
          clear hXa hXb hrow hsl hf e1 e2 ei e3 e4 e5 e6 G0 G1 Gi G3 G4 G5 G6 hnd hsk2 hyr hbr har hgk
          simp only[exVal] at HC0
          generalize (a.regs[k]'hlt).next=ea at HC0 HSk hsk1 HRk HXa g3 g4 g5 g6 HG
          generalize (b.regs[k]'hltb).next=eb at HC0 HSk hsk1 q3 q4 q5 q6 HG
          generalize (a.regs[k]'hlt).init=ia at HSk hsk1 HRk gi HG HGi
          generalize (b.regs[k]'hltb).init=ib at HSk hsk1 qi HG
          generalize diffS ea eb=du at HC0 HSk hsk1
          generalize zipSum wDif a.wires b.wires+zwK rDif a.regs b.regs k=zk at hsk hsk1 HSk
          clear g3 g4 g5 g6 q3 q4 q5 q6
          obtain⟨ic,Hic⟩:∃ ic:Nat,Hid ((ic=0∧ia=ib)∨(ic=1∧¬ ia=ib)):=by
            by_cases h:ia=ib
            · exact⟨0,Or.inl ⟨rfl,h⟩⟩
            · exact⟨1,Or.inr ⟨rfl,h⟩⟩
          have hic:(if ia≠ib then 1 else 0)=ic:=by
            rcases Hic.out with ⟨h1,h2⟩ | ⟨h1,h2⟩
            · rw[h1,if_neg (by simpa using h2)]
            · rw[h1,if_pos h2]
          rw[hic] at hsk1
          have HSk':Hid (zipSum wDif a.wires b.wires+zwK rDif a.regs b.regs (k+1)=zk+(ic+du)):=by show _=_;rw[HSk.out,hic]
          clear hic HSk
          rcases Hic.out with ⟨h1,h2⟩ | ⟨h1,h2⟩
          all_goals
           subst h1
           first
             | (have e1:(ia != ib)=false:=by simp[h2])
             | (have e1:(ia != ib)=true:=by simp[h2])
           clear h2 Hic
           go_wp2_with fail
           go_region
           generalize hwd:wr.drew=wd
           have HBd:Hid (Below wr.heap.size wr wd):=by show Below _ _ _;rw[← hwd];exact Below.drew (Below.refl _ _)
           clear hwd x0 x1 x2 x3 x4 y0 y1 y2 y3 y4 gi qi
           have HK1d:=Lib.hid (hx_below HBd.out HK1.out)
           have HK2d:=Lib.hid (hx_below HBd.out HK2.out)
           obtain⟨x0,x1,x2,x3,x4,_⟩:=cell5 HK1d.out
           obtain⟨y0,y1,y2,y3,y4,_⟩:=cell5 HK2d.out
           rw[Har.out] at x3
           rw[Hyr.out] at y3
           obtain⟨gi,g3,g4,g5,g6,qi,q3,q4,q5,q6⟩:=HG.out _ HBd.out
           have HC:=Lib.hid (fun W (hW:Below wd.heap.size wd W)=>(HC0.out W (HBd.out.trans (hW.mono HBd.out.size))).mono fun e w' h=>(⟨h.1,hW.trans (h.2.mono hW.size)⟩:_∧Below wd.heap.size wd w'))
           have Gx3:∀ g:Grow wd.heap.size wd,g.w'.cell? _=_:=Grow.old x3 (Nat.le_refl _)
           have Gy3:∀ g:Grow wd.heap.size wd,g.w'.cell? _=_:=Grow.old y3 (Nat.le_refl _)
           have Gg3:∀ g:Grow wd.heap.size wd,g.w'.cell? _=_:=Grow.old g3 (Nat.le_refl _)
           have Gg4:∀ g:Grow wd.heap.size wd,g.w'.cell? _=_:=Grow.old g4 (Nat.le_refl _)
           have Gg5:∀ g:Grow wd.heap.size wd,g.w'.cell? _=_:=Grow.old g5 (Nat.le_refl _)
           have Gg6:∀ g:Grow wd.heap.size wd,g.w'.cell? _=_:=Grow.old g6 (Nat.le_refl _)
           have Gq3:∀ g:Grow wd.heap.size wd,g.w'.cell? _=_:=Grow.old q3 (Nat.le_refl _)
           have Gq4:∀ g:Grow wd.heap.size wd,g.w'.cell? _=_:=Grow.old q4 (Nat.le_refl _)
           have Gq5:∀ g:Grow wd.heap.size wd,g.w'.cell? _=_:=Grow.old q5 (Nat.le_refl _)
           have Gq6:∀ g:Grow wd.heap.size wd,g.w'.cell? _=_:=Grow.old q6 (Nat.le_refl _)
           go_wp2_with fail
           (refine wp_region_grow (B:=wd.heap.size) (w0:=wd) (by kernel_rfl) (by kernel_rfl) bel ?_;(repeat (go_big_quiet_step ((go_at_call 79;with_reducible exact grow_call (HC.out _ (Grow.h _))))));refine wpQuiet_nil ?_;intro wg hCg;have hbg:=grow_out hCg;clear hCg)
           have HBg0:=Lib.hid (by assumption:Below wd.heap.size wd wg)
           have HBg:Hid (Below wr.heap.size wr wg):=HBd.out.trans (HBg0.out.mono HBd.out.size)
           clear hbg Gx3 Gy3 Gg3 Gg4 Gg5 Gg6 Gq3 Gq4 Gq5 Gq6 x0 x1 x2 x3 x4 y0 y1 y2 y3 y4 gi g3 g4 g5 g6 qi q3 q4 q5 q6 HC HBg0 HK1d HK2d
           have HK1g:=Lib.hid (hx_below HBg.out HK1.out)
           have HK2g:=Lib.hid (hx_below HBg.out HK2.out)
           obtain⟨x0,x1,x2,x3,x4,_⟩:=cell5 HK1g.out
           obtain⟨y0,y1,y2,y3,y4,_⟩:=cell5 HK2g.out
           rw[Har.out] at x3
           rw[Hyr.out] at y3
           obtain⟨gi,g3,g4,g5,g6,qi,q3,q4,q5,q6⟩:=HG.out _ HBg.out
           have hfg:∀ o,wg.frozen? ⟨bB,o,none⟩=false:=fun o=>(HBg.out.frozen (p:=⟨bB,o,none⟩) hbs).trans (hfr o)
           have HNg:Hid (DifSt wg (a.bR b k) y P bw br):=DifSt.below HN.out HBg.out
           have hpb:P bB=true:=(HPt.out bB).2 (Or.inr (Or.inl Hbr'.out))
           go_wp2_with fail
           go_region
           generalize hW5:((((wg.setCell ⟨bB,k * 7+3,none⟩ (.int .i64 ea.op)).setCell ⟨bB,k * 7+3+1,none⟩ (.int .i64 ea.n)).setCell ⟨bB,k * 7+3+2,none⟩ (.string ea.name)).setCell ⟨bB,k * 7+3+3,none⟩ (.slice ae ea.args.length ce)).drew=W5
           have hg5:wg.grownBy W5 (some bB):=by rw[← hW5];exact gr_drew (gr_set (gr_set (gr_set (gr_set (gr_refl _ _)))))
           have hk5:=hide_grown (p:=P) (q:=P) hg5 (fun j hj=>by obtain rfl:=Option.some.inj hj;exact hpb) fun _ _ h=>h
           have HN5:Hid (DifSt W5 ((a.bR b k).setNext k ea) y P bw br):=by
             show DifSt _ _ _ _ _ _
             rw[← hW5]
             exact DifSt.below (DifSt.setR HNg.out Hbr'.out (by rw[(HLr.out k).2];exact hltb) (e:=ea) (a:=ae) (c:=ce) (HXa.out.keep (hk_below HBg.out fun _ _ h=>h).cell)) (Below.drew (Below.refl _ _))
           clear hW5
           have hAg:=HA.out.keep (hk_below (q:=P) HBg.out fun _ _ h=>h).cell
           have HA5:Hid (DesIn (World.hide W5 P) a x):=hAg.keep hk5
           have HB5:Hid (Below B w W5):=gr_bel (HB.out.trans (HBg.out.mono (by omega))) hg5 (by have:=HBg.out.size;omega) fun j hj=>by obtain rfl:=Option.some.inj hj;exact hBB
           have HK15:=Lib.hid (gr_blk hg5 HK1g.out fun e=>by have:=Option.some.inj e;omega)
           have HK25:=Lib.hid (gr_blk hg5 HK2g.out fun e=>by have:=Option.some.inj e;omega)
           have hz5:w.heap.size+2≤W5.heap.size:=by have:=hg5.size;have:=HBg.out.size;omega
           clear hAg hg5 hk5 x0 x1 x2 x3 x4 y0 y1 y2 y3 y4 gi g3 g4 g5 g6 qi q3 q4 q5 q6 hfg
           obtain⟨x0,x1,x2,x3,x4,_⟩:=cell5 HK15.out
           obtain⟨y0,y1,y2,y3,y4,_⟩:=cell5 HK25.out
           rw[Har.out] at x3
           rw[Hyr.out] at y3
           obtain⟨bb5,hbr5,hyr5,hBB5,hbs5,hfr5,hne5⟩:=DifSt.rblock HN5.out Hbr0.out (by rw[show ((a.bR b k).setNext k ea).regs.length=(a.bR b k).regs.length from List.length_modify _ _ _,(HLr.out k).2];omega)
           rw[Hbr'.out] at hbr5
           obtain rfl:=Option.some.inj hbr5
           obtain⟨_,_,_,hsl⟩:=HN5.out.regs
           obtain⟨bb',hbr',-,-,hrow⟩:=hsl.resolve_left (by rw[show ((a.bR b k).setNext k ea).regs.length=(a.bR b k).regs.length from List.length_modify _ _ _,(HLr.out k).2];omega)
           rw[Hbr'.out] at hbr'
           obtain rfl:=Option.some.inj hbr'
           obtain⟨f,⟨v,av,cv,e0,e1',e2,ei,-⟩,hf⟩:=hrow.get (i:=k) (by rw[show ((a.bR b k).setNext k ea).regs.length=(a.bR b k).regs.length from List.length_modify _ _ _,(HLr.out k).2];exact hltb)
           have qi:=hf 2 _ ei
           have gi:=HGi.out _ HA5.out
           clear hf e0 e1' e2 ei hrow hsl hyr5 hne5 hbs5
           go_wp2_with fail
           go_region
           generalize hW6:(W5.setCell ⟨bB,k * 7+2,none⟩ (.int .i64 ia)).drew=W6
           have hg6:W5.grownBy W6 (some bB):=by rw[← hW6];exact gr_drew (gr_set (gr_refl _ _))
           have HN6:Hid (DifSt W6 (a.bR b (k+1)) y P bw br):=by
             show DifSt _ _ _ _ _ _
             rw[← hW6,HRk.out]
             exact DifSt.below (DifSt.setI HN5.out Hbr'.out (by rw[show ((a.bR b k).setNext k ea).regs.length=(a.bR b k).regs.length from List.length_modify _ _ _,(HLr.out k).2];exact hltb) ia) (Below.drew (Below.refl _ _))
           clear hW6
           have HA6:Hid (DesIn (World.hide W6 P) a x):=HA5.out.keep (hide_grown hg6 (fun j hj=>by obtain rfl:=Option.some.inj hj;exact hpb) fun _ _ h=>h)
           have HB6:Hid (Below B w W6):=gr_bel HB5.out hg6 (by omega) fun j hj=>by obtain rfl:=Option.some.inj hj;exact hBB
           have HK16:=Lib.hid (gr_blk hg6 HK15.out fun e=>by have:=Option.some.inj e;omega)
           have HK26:=Lib.hid (gr_blk hg6 HK25.out fun e=>by have:=Option.some.inj e;omega)
           have hz6:w.heap.size+2≤W6.heap.size:=by have:=hg6.size;omega
           clear hg6 hpb x0 x1 x2 x3 x4 y0 y1 y2 y3 y4 gi qi hfr5 HG HC0 hfr hne HGi
           go_wp2_with fail
           go_roundw
           case rel=>exact⟨k+1,by go_num,by rw[HSk'.out];congr 1;omega,by omega,HA6,HN6,HB6,hz6,HK16,HK26⟩
           case measure=>(simp[intOf];try omega)
        · obtain rfl:k=a.regs.length:=by omega
          have hP1:P (w.heap.size+1)=true:=(HPt.out _).2 (Or.inr (Or.inr (by omega)))
          have hn1:bw≠some (w.heap.size+1):=fun e=>by have:=(Hbw.out _ e).2;omega
          have hn2:br≠some (w.heap.size+1):=fun e=>by have:=(Hbr.out _ e).2;omega
          have HU:Hid (wr.grownBy (wr.setCell ⟨w.heap.size+1,0,none⟩ (.string a.name)) (some (w.heap.size+1))):=gr_set (gr_refl _ _)
          have HD1:Hid (DesIn (wr.setCell ⟨w.heap.size+1,0,none⟩ (.string a.name)) a x):=(HA.out.keep (hide_grown HU.out (fun k hk=>by obtain rfl:=Option.some.inj hk;exact hP1) fun _ _ h=>h)).keep (hk_unhide _ P).cell
          have HD2:Hid (DesIn (wr.setCell ⟨w.heap.size+1,0,none⟩ (.string a.name)) a y):=by
            have h:=((HN.out.gr HU.out hP1 hn1 hn2).named a.name).des
            rw[HRe.out] at h
            exact h
          have HB7:Hid (Below B w (wr.setCell ⟨w.heap.size+1,0,none⟩ (.string a.name))):=gr_bel HB.out HU.out (by omega) fun j hj=>by obtain rfl:=Option.some.inj hj;omega
          have hz7:B≤(wr.setCell ⟨w.heap.size+1,0,none⟩ (.string a.name)).heap.size:=by rw[World.size_setCell];omega
          rw[HSf.out]
          clear HN HA HU hP1 hn1 hn2 HK1
          obtain⟨y0,y1,y2,y3,y4,yf⟩:=cell5 HK2.out
          go_wp2_with fail
          generalize wr.setCell ⟨w.heap.size+1,0,none⟩ (.string a.name)=W7 at HD1 HD2 HB7 hz7⊢
          refine(HSm.out W7 HD1.out HD2.out).mono ?_
          rintro r w8 ⟨rfl,hb8⟩
          have HB8:Hid (Below B w w8):=HB7.out.trans (hb8.mono hz7)
          clear hb8
          go_wp2_with fail
          first | exact HP.out _ HB8.out | (go_ret;exact HP.out _ HB8.out)
end Go.Proofs.YtebneadheaefdaaGreatDoor
namespace Go.Proofs.YtebneadheaefdaaGreatDoor
theorem wPatch_names:∀ (l m:List WireD),(wPatch l m).map (·.name)=m.map (·.name):=by
 intro l
 induction l with
 | nil=>intro m;rw[wPatch_nil]
 | cons a l ih =>
  intro m
  cases m with
  | nil=>rfl
  | cons b m=>rw[wPatch,List.map_cons,List.map_cons,ih]
theorem rPatch_names:∀ (l m:List RegD),(rPatch l m).map (·.name)=m.map (·.name):=by
 intro l
 induction l with
 | nil=>intro m;rw[rPatch_nil]
 | cons a l ih =>
  intro m
  cases m with
  | nil=>rfl
  | cons b m=>rw[rPatch,List.map_cons,List.map_cons,ih]
theorem patch_names (a b:DesD):(a.patch b).names=b.names:=by
 unfold DesD.patch DesD.names
 rw[wPatch_names,rPatch_names]
theorem mut_small {d m:DesD} (hs:DesSmall d) (he:m.err=0) (hd:diffD d m=1):DesSmall m:=by
 obtain⟨h1,h2,h3,_⟩:=diffD_one hd
 have hn:d.names=m.names:=(congrArg DesD.names h3).trans (patch_names d m)
 have hi:d.inputs.length=m.inputs.length:=by
  have h:=congrArg (fun e:DesD=>e.inputs.length) h3
  exact h
 have ho:d.outputs.length=m.outputs.length:=by
  have h:=congrArg (fun e:DesD=>e.outputs.length) h3
  exact h
 have hl:=hs.len
 refine⟨by have:=name_16 he;omega,fun s h=>hs.names s (by rw[hn];exact h),fun e h=>by have:=expr_400 he e h;omega,by omega⟩
theorem mutAt_err {d:DesD} (h:¬ d.err=0) (k:Int):(mutAt d k).2=d.err:=by unfold mutAt;rw[if_neg h]
theorem mutAt_iff {d:DesD} (h:d.err=0) (k:Int):(mutAt d k).2=0↔(0≤k∧k < ((mutsS d).length:Nat)):=by
 have hm:mutsS d=mutL d:=if_pos h
 rw[hm]
 unfold mutAt
 rw[if_pos h]
 by_cases hk:0≤k∧k.toNat < (mutL d).length
 ·rw[dif_pos hk]
  exact⟨fun _=>⟨hk.1,by omega⟩,fun _=>rfl⟩
 ·rw[dif_neg hk]
  refine⟨fun h=>by simp at h,fun h=>absurd ⟨h.1,by omega⟩ hk⟩
theorem mutAt_facts {d:DesD} (hs:DesSmall d) {k:Int} (h:d.err=0) (hk:(mutAt d k).2=0) :
  (mutAt d k).1.err=0∧diffD d (mutAt d k).1=1∧¬ (mutAt d k).1.name=d.name∧DesSmall (mutAt d k).1:=by
 have hc:=(mutAt_iff h k).1 hk
 rw[show mutsS d=mutL d from if_pos h] at hc
 have hd:0≤k∧k.toNat < (mutL d).length:=⟨hc.1,by omega⟩
 have e:(mutAt d k).1=((mutL d)[k.toNat]'hd.2).1:=by unfold mutAt;rw[if_pos h,dif_pos hd]
 obtain⟨h1,h2,h3⟩:=mut_at (okD_of h) k.toNat hd.2
 rw[e]
 refine⟨h1,h2,?_,mut_small hs h1 h2⟩
 rw[h3]
 exact mut_name_ne k.toNat
theorem mutAt_inj {d:DesD} {i k:Int} (h:d.err=0) (hi:(mutAt d i).2=0) (hk:(mutAt d k).2=0):(mutAt d i).1=(mutAt d k).1↔i=k:=by
 have hci:=(mutAt_iff h i).1 hi
 have hck:=(mutAt_iff h k).1 hk
 rw[show mutsS d=mutL d from if_pos h] at hci hck
 have hdi:0≤i∧i.toNat < (mutL d).length:=⟨hci.1,by omega⟩
 have hdk:0≤k∧k.toNat < (mutL d).length:=⟨hck.1,by omega⟩
 have ei:(mutAt d i).1=((mutL d)[i.toNat]'hdi.2).1:=by unfold mutAt;rw[if_pos h,dif_pos hdi]
 have ek:(mutAt d k).1=((mutL d)[k.toNat]'hdk.2).1:=by unfold mutAt;rw[if_pos h,dif_pos hdk]
 refine⟨fun e=>?_,fun e=>by rw[e]⟩
 rw[ei,ek] at e
 have h1:=(mut_at (okD_of h) i.toNat hdi.2).2.2
 have h2:=(mut_at (okD_of h) k.toNat hdk.2).2.2
 rw[e,h2] at h1
 have:=mut_name_inj h1
 omega
end Go.Proofs.YtebneadheaefdaaGreatDoor
namespace Go.Proofs.YtebneadheaefdaaGreatDoor
open Go.RowKit
attribute [local go_sem ↓] Go.wp_at_zero Go.wp_at_succ
theorem beq_pB {i k:Int} {P:Prop} (h:P↔i=k):((i == k) != pB P)=false:=by
 by_cases e:i=k
 ·rw[show pB P=true from pB_true (h.2 e)];simp[e]
 ·have hn:¬ P:=fun q=>e (h.1 q)
  rw[show pB P=false from @decide_eq_false P (Classical.propDecidable P) hn]
  simp[e]
set_option maxRecDepth 100000 in
set_option maxHeartbeats 16000000 in
theorem MutateValid_of (d:DesD) (x:DesA) (i k:Int) (w:World) (hE:DesIn w d x) (hs:DesSmall d) (hG:Glob w) (hF:FmC w) (hAw:AwC w) :
  Calls Tryz.prog 8 #[desVal d x,.int .i64 i,.int .i64 k] w fun e w'=>e=.returned (.bool true)∧Below w.heap.size w w':=by
 have HFw:=Lib.hid (fun W (hW:Below w.heap.size w W)=>few34_any d x W (hE.below hW) hs)
 have HAw:=Lib.hid hAw
 unfold BoolIs at HFw
 unfold AwC at HAw
 have HM:=Lib.hid (fun j W (hW:Below w.heap.size w W)=>mutant_any d x j W (hF.below hW) (hG.below hW) (hE.below hW) hs)
 unfold MtPost at HM
 have HC:=Lib.hid (fun W (hW:Below w.heap.size w W)=>countM_any d x W (hF.below hW) (hG.below hW) (hE.below hW) hs)
 have HErr:Hid (¬ d.err=0→∀ j,(mutAt d j).2=d.err):=fun h j=>mutAt_err h j
 have HIff:Hid (d.err=0→∀ j,(mutAt d j).2=0↔(0≤j∧j < ((mutsS d).length:Nat))):=fun h j=>mutAt_iff h j
 have HV:Hid (d.err=0→∀ j,(mutAt d j).2=0→∀ y W,Below w.heap.size w W→DesIn W (mutAt d j).1 y→Calls Tryz.prog 36 #[desVal (mutAt d j).1 y] W fun e w'=>e=.returned (.int .i64 0)∧Below W.heap.size W w'):=fun h j hj y W hW hD=>by
  obtain⟨h1,_,_,h4⟩:=mutAt_facts hs h hj
  have:=ValidD_any (mutAt d j).1 y W hD h4 (hG.below hW)
  rw[h1] at this
  exact this
 have HNm:Hid (d.err=0→∀ j,(mutAt d j).2=0→((mutAt d j).1.name.toList == d.name.toList)=false):=fun h j hj=>by
  obtain⟨_,_,h3,_⟩:=mutAt_facts hs h hj
  have h5:¬ (mutAt d j).1.name.toList=d.name.toList:=fun e=>h3 (bytes_toList.1 e)
  simpa using h5
 have HSm:Hid (d.err=0→(mutAt d i).2=0→(mutAt d k).2=0→∀ y z W,DesIn W (mutAt d i).1 y→DesIn W (mutAt d k).1 z→Calls Tryz.prog 33 #[desVal (mutAt d i).1 y,desVal (mutAt d k).1 z] W fun e w'=>(∃ bb:Bool,e=.returned (.bool bb)∧((i == k) != bb)=false)∧Below W.heap.size W w'):=fun h h1 h2 y z W hA hB =>
  (same31_any (mutAt d i).1 (mutAt d k).1 y z W hA hB).mono fun e w' h3=>⟨⟨_,h3.1,beq_pB (mutAt_inj h h1 h2)⟩,h3.2⟩
 have HDf:Hid (d.err=0→(mutAt d i).2=0→∀ B y bw br W,Below w.heap.size w W→w.heap.size≤B→B≤W.heap.size→NewD W B 0 0 (mutAt d i).1 y bw br→Calls Tryz.prog 37 #[desVal d x,desVal (mutAt d i).1 y] W fun r w'=>r=.returned (.int .i64 1)∧Below B W w'):=fun h h1 B y bw br W hW hB hB2 hN=>by
  obtain⟨_,h2,_,_⟩:=mutAt_facts hs h h1
  refine diff34_any d (mutAt d i).1 x y B bw br W (hE.keep (hide_old hW fun q hq=>?_)) hN hB2 h2 (fun e he=>by have:=expr_400 h e he;omega)
  cases e:newP 0 bw br q with
  | false=>rfl
  | true =>
   rcases newP_true.1 e with h3 | h3 | h3
   ·omega
   ·have:=(hN.wires.lt q h3).1;omega
   ·have:=(hN.regs.lt q h3).1;omega
 clear hE hs hG hF hAw
 have HMi:=Lib.hid (HM.out i)
 have HMk:=Lib.hid (HM.out k)
 have HEi:=Lib.hid (fun h=>HErr.out h i)
 have HEk:=Lib.hid (fun h=>HErr.out h k)
 have HIi:=Lib.hid (fun h=>HIff.out h i)
 have HIk:=Lib.hid (fun h=>HIff.out h k)
 have HVi:=Lib.hid (fun h=>HV.out h i)
 have HNi:=Lib.hid (fun h=>HNm.out h i)
 clear HM HErr HIff HV HNm
 generalize (mutAt d i).1=A at HMi HVi HNi HSm HDf
 generalize (mutAt d i).2=ei at HMi HEi HIi HVi HNi HSm HDf
 generalize (mutAt d k).1=K at HMk HSm
 generalize (mutAt d k).2=ek at HMk HEk HIk HSm
 generalize (mutsS d).length=nl at HC HIi HIk
 generalize d.err=er at HC HEi HEk HIi HIk HVi HNi HSm HDf
 generalize fewM d=fb at HFw
 simp only[desVal,desVals] at HFw HMi HMk HC HVi HSm HDf⊢
 go_enter Tryz.func8, Tryz.ntmps8
 go_wp2_with fail
 generalize hW1:w.alloc (.cells #[.string d.name,.slice x.ai d.inputs.length x.ci,.slice x.aw d.wires.length x.cw,.slice x.ar d.regs.length x.cr,.slice x.ao d.outputs.length x.co] 27)=W1
 have hz1:w.heap.size+1≤W1.heap.size:=by rw[← hW1];simp
 have HB1:Hid (Below w.heap.size w W1):=by show Below _ _ _;rw[← hW1];exact belr
 have HX1:Hid (W1.heap[w.heap.size]? = some (.cells #[.string d.name,.slice x.ai d.inputs.length x.ci,.slice x.aw d.wires.length x.cw,.slice x.ar d.regs.length x.cr,.slice x.ao d.outputs.length x.co] 27 (0,0))):=by
  show _=_;rw[← hW1]
  exact hx_new rfl
 clear hW1
 have HBX:Hid (∀ W,Below W1.heap.size W1 W→W.cell? ⟨w.heap.size,0,none⟩=some (.string d.name)∧W.cell? ⟨w.heap.size,1,none⟩=some (.slice x.ai d.inputs.length x.ci)∧W.cell? ⟨w.heap.size,2,none⟩=some (.slice x.aw d.wires.length x.cw)∧W.cell? ⟨w.heap.size,3,none⟩=some (.slice x.ar d.regs.length x.cr)∧W.cell? ⟨w.heap.size,4,none⟩=some (.slice x.ao d.outputs.length x.co)):=fun W h=>by
  obtain⟨b0,b1,b2,b3,b4,_⟩:=cell5 (hx_below h HX1.out)
  exact⟨b0,b1,b2,b3,b4⟩
 refine(HFw.out W1 HB1.out).mono ?_
 rintro r w2 ⟨rfl,hb2⟩
 have HB2:=Lib.hid hb2
 have HW2:Hid (Below w.heap.size w w2):=HB1.out.trans (hb2.mono (by omega))
 clear hb2
 cases fb
 ·go_wp2_with fail
  (refine(HAw.out w2 (HW2.out)).mono ?_;rintro e wz ⟨rfl,hbz⟩;have HBz:Hid (Below w.heap.size w wz):=(HW2.out).trans (hbz.mono (HW2.out).size);clear hbz;go_wp2_with fail;go_ret;exact⟨rfl,HBz.out⟩)
 obtain⟨b0,b1,b2,b3,b4⟩:=HBX.out _ HB2.out
 go_wp2_with fail
 refine(HMi.out w2 HW2.out).mono ?_
 rintro r w3 ⟨⟨y,bw,br,rfl,hN3⟩,hb3⟩
 have HN3:Hid (NewD w3 w2.heap.size 0 0 A y bw br):=NewD.weak hN3
 have HB3:Hid (Below W1.heap.size W1 w3):=HB2.out.trans (hb3.mono HB2.out.size)
 have HW3:Hid (Below w.heap.size w w3):=HW2.out.trans (hb3.mono HW2.out.size)
 have hz3:=hb3.size
 clear hb3 hN3 b0 b1 b2 b3 b4
 obtain⟨b0,b1,b2,b3,b4⟩:_∧_∧_∧_∧_:=HBX.out _ (HB3.out.alloc HB3.out.size (.cells #[.string A.name,.slice y.ai A.inputs.length y.ci,.slice y.aw A.wires.length y.cw,.slice y.ar A.regs.length y.cr,.slice y.ao A.outputs.length y.co] 27))
 go_wp2_with fail
 generalize hW4:w3.alloc (.cells #[.string A.name,.slice y.ai A.inputs.length y.ci,.slice y.aw A.wires.length y.cw,.slice y.ar A.regs.length y.cr,.slice y.ao A.outputs.length y.co] 27)=W4 at *
 have hK4:Below w3.heap.size w3 W4:=by rw[← hW4];exact(Below.refl _ _).alloc (Nat.le_refl _) _
 have HB4:Hid (Below W1.heap.size W1 W4):=HB3.out.trans (hK4.mono HB3.out.size)
 have HW4:Hid (Below w.heap.size w W4):=HW3.out.trans (hK4.mono HW3.out.size)
 have HX4:Hid (W4.heap[w3.heap.size]? = some (.cells #[.string A.name,.slice y.ai A.inputs.length y.ci,.slice y.aw A.wires.length y.cw,.slice y.ar A.regs.length y.cr,.slice y.ao A.outputs.length y.co] 27 (0,0))):=by
  show _=_;rw[← hW4]
  exact hx_new rfl
 have HN4:Hid (NewD W4 w2.heap.size 0 0 A y bw br):=NewD.keep HN3.out (hk_plain hK4)
 have hz4:=hK4.size
 clear hW4 hK4 HN3
 refine(HMk.out W4 HW4.out).mono ?_
 rintro r w5 ⟨⟨z,bw2,br2,rfl,hN5⟩,hb5⟩
 have HD5:=Lib.hid (NewD.des hN5)
 have HB5:Hid (Below W1.heap.size W1 w5):=HB4.out.trans (hb5.mono HB4.out.size)
 have HW5:Hid (Below w.heap.size w w5):=HW4.out.trans (hb5.mono HW4.out.size)
 have HX5:=Lib.hid (hx_below hb5 HX4.out)
 have HN5:Hid (NewD w5 w2.heap.size 0 0 A y bw br):=NewD.keep HN4.out (hk_plain hb5)
 have hz5:=hb5.size
 clear hb5 hN5 HN4 HX4 b0 b1 b2 b3 b4
 obtain⟨b0,b1,b2,b3,b4⟩:_∧_∧_∧_∧_:=HBX.out _ (HB5.out.alloc HB5.out.size (.cells #[.string K.name,.slice z.ai K.inputs.length z.ci,.slice z.aw K.wires.length z.cw,.slice z.ar K.regs.length z.cr,.slice z.ao K.outputs.length z.co] 27))
 go_wp2_with fail
 generalize hW6:w5.alloc (.cells #[.string K.name,.slice z.ai K.inputs.length z.ci,.slice z.aw K.wires.length z.cw,.slice z.ar K.regs.length z.cr,.slice z.ao K.outputs.length z.co] 27)=W6 at *
 have hK6:Below w5.heap.size w5 W6:=by rw[← hW6];exact(Below.refl _ _).alloc (Nat.le_refl _) _
 have HB6:Hid (Below W1.heap.size W1 W6):=HB5.out.trans (hK6.mono HB5.out.size)
 have HW6:Hid (Below w.heap.size w W6):=HW5.out.trans (hK6.mono HW5.out.size)
 have HX6:=Lib.hid (hx_below hK6 HX5.out)
 have HY6:Hid (W6.heap[w5.heap.size]? = some (.cells #[.string K.name,.slice z.ai K.inputs.length z.ci,.slice z.aw K.wires.length z.cw,.slice z.ar K.regs.length z.cr,.slice z.ao K.outputs.length z.co] 27 (0,0))):=by
  show _=_;rw[← hW6]
  exact hx_new rfl
 have HN6:Hid (NewD W6 w2.heap.size 0 0 A y bw br):=NewD.keep HN5.out (hk_plain hK6)
 have HD6:=Lib.hid (HD5.out.below hK6)
 have hz6:=hK6.size
 clear hW6 hK6 HN5 HD5 HX5
 refine(HC.out W6 HW6.out).mono ?_
 rintro r w7 ⟨rfl,hb7⟩
 have HB7:Hid (Below W1.heap.size W1 w7):=HB6.out.trans (hb7.mono HB6.out.size)
 have HW7:Hid (Below w.heap.size w w7):=HW6.out.trans (hb7.mono HW6.out.size)
 have HX7:=Lib.hid (hx_below hb7 HX6.out)
 have HY7:=Lib.hid (hx_below hb7 HY6.out)
 have HN7:Hid (NewD w7 w2.heap.size 0 0 A y bw br):=NewD.keep HN6.out (hk_plain hb7)
 have HD7:=Lib.hid (HD6.out.below hb7)
 have hz7:=hb7.size
 clear hb7 HN6 HD6 HX6 HY6 b0 b1 b2 b3 b4 HMi HMk HC
 by_cases her:er=0
 rotate_left
 ·obtain rfl:=HEi.out her
  obtain rfl:=HEk.out her
  have hne:(ek != 0)=true:=by simpa using her
  have hee:(ek == ek)=true:=by simp
  clear her HEi HEk HIi HIk HVi HNi HSm HDf
  go_wp2_with fail
  (refine(HAw.out w7 (HW7.out)).mono ?_;rintro e wz ⟨rfl,hbz⟩;have HBz:Hid (Below w.heap.size w wz):=(HW7.out).trans (hbz.mono (HW7.out).size);clear hbz;go_wp2_with fail;go_ret;exact⟨rfl,HBz.out⟩)
 subst her
 replace HIi:=Lib.hid (HIi.out rfl)
 replace HIk:=Lib.hid (HIk.out rfl)
 replace HVi:=Lib.hid (HVi.out rfl)
 replace HNi:=Lib.hid (HNi.out rfl)
 replace HSm:=Lib.hid (HSm.out rfl)
 replace HDf:=Lib.hid (HDf.out rfl)
 clear HEi HEk
 have hi3:(ei=0∧0≤i∧i < (nl:Int))∨(¬ ei=0∧¬ 0≤i)∨(¬ ei=0∧0≤i∧¬ i < (nl:Int)):=by
  have:=HIi.out
  by_cases h0:ei=0
  ·exact Or.inl ⟨h0,this.1 h0⟩
  ·by_cases h1:0≤i
   ·exact Or.inr (Or.inr ⟨h0,h1,fun h2=>h0 (this.2 ⟨h1,h2⟩)⟩)
   ·exact Or.inr (Or.inl ⟨h0,h1⟩)
 have hk3:(ek=0∧0≤k∧k < (nl:Int))∨(¬ ek=0∧¬ 0≤k)∨(¬ ek=0∧0≤k∧¬ k < (nl:Int)):=by
  have:=HIk.out
  by_cases h0:ek=0
  ·exact Or.inl ⟨h0,this.1 h0⟩
  ·by_cases h1:0≤k
   ·exact Or.inr (Or.inr ⟨h0,h1,fun h2=>h0 (this.2 ⟨h1,h2⟩)⟩)
   ·exact Or.inr (Or.inl ⟨h0,h1⟩)
 clear HIi HIk
 rcases hi3 with ⟨rfl,i1,i2⟩ | ⟨i0,i1⟩ | ⟨i0,i1,i2⟩
 ·rcases hk3 with ⟨rfl,k1,k2⟩ | ⟨k0,k1⟩ | ⟨k0,k1,k2⟩
  ·have a1i:decide ((0:Int)≤i)=true:=decide_eq_true i1
   have a2i:decide (i < (nl:Int))=true:=decide_eq_true i2
   have a1k:decide ((0:Int)≤k)=true:=decide_eq_true k1
   have a2k:decide (k < (nl:Int))=true:=decide_eq_true k2
   replace HVi:=Lib.hid (HVi.out rfl)
   replace HSm:=Lib.hid (HSm.out rfl rfl)
   replace HDf:=Lib.hid (HDf.out rfl)
   have hnm:=HNi.out rfl
   clear HNi
   obtain⟨b0,b1,b2,b3,b4⟩:=HBX.out _ HB7.out
   obtain⟨a0,a1,a2,a3,a4,_⟩:=cell5 HX7.out
   go_wp2_with fail
   refine(HVi.out y w7 HW7.out (NewD.des HN7.out)).mono ?_
   rintro r w8 ⟨rfl,hb8⟩
   have HB8:Hid (Below W1.heap.size W1 w8):=HB7.out.trans (hb8.mono HB7.out.size)
   have HW8:Hid (Below w.heap.size w w8):=HW7.out.trans (hb8.mono HW7.out.size)
   have HX8:=Lib.hid (hx_below hb8 HX7.out)
   have HY8:=Lib.hid (hx_below hb8 HY7.out)
   have HN8:Hid (NewD w8 w2.heap.size 0 0 A y bw br):=NewD.keep HN7.out (hk_plain hb8)
   have HD8:=Lib.hid (HD7.out.below hb8)
   have hz8:=hb8.size
   clear hb8 HN7 HD7 HX7 HY7 b0 b1 b2 b3 b4 a0 a1 a2 a3 a4
   obtain⟨b0,b1,b2,b3,b4⟩:=HBX.out _ HB8.out
   obtain⟨a0,a1,a2,a3,a4,_⟩:=cell5 HX8.out
   obtain⟨c0,c1,c2,c3,c4,_⟩:=cell5 HY8.out
   go_wp2_with fail
   refine(HSm.out y z w8 (NewD.des HN8.out) HD8.out).mono ?_
   rintro r w9 ⟨⟨bb,rfl,hbb⟩,hb9⟩
   have HB9:Hid (Below W1.heap.size W1 w9):=HB8.out.trans (hb9.mono HB8.out.size)
   have HW9:Hid (Below w.heap.size w w9):=HW8.out.trans (hb9.mono HW8.out.size)
   have HX9:=Lib.hid (hx_below hb9 HX8.out)
   have HN9:Hid (NewD w9 w2.heap.size 0 0 A y bw br):=NewD.keep HN8.out (hk_plain hb9)
   have hz9:=hb9.size
   clear hb9 HN8 HD8 HX8 HY8 b0 b1 b2 b3 b4 a0 a1 a2 a3 a4 c0 c1 c2 c3 c4
   cases hik:(i == k)
   all_goals
    rw[hik] at hbb
    first
     | (have hbt:bb=false:=by cases bb<;>simp_all)
     | (have hbt:bb=true:=by cases bb<;>simp_all)
    subst hbt
    clear hbb
    obtain⟨b0,b1,b2,b3,b4⟩:=HBX.out _ HB9.out
    obtain⟨a0,a1,a2,a3,a4,_⟩:=cell5 HX9.out
    go_wp2_with fail
    refine(HDf.out w2.heap.size y bw br w9 HW9.out HW2.out.size (by omega) HN9.out).mono ?_
    rintro r w10 ⟨rfl,hb10⟩
    have HW10:Hid (Below w.heap.size w w10):=HW9.out.trans (hb10.mono HW2.out.size)
    clear hb10 b0 b1 b2 b3 b4 a0 a1 a2 a3 a4
    go_wp2_with fail
    (refine(HAw.out w10 (HW10.out)).mono ?_;rintro e wz ⟨rfl,hbz⟩;have HBz:Hid (Below w.heap.size w wz):=(HW10.out).trans (hbz.mono (HW10.out).size);clear hbz;go_wp2_with fail;go_ret;exact⟨rfl,HBz.out⟩)
  ·have a1i:decide ((0:Int)≤i)=true:=decide_eq_true i1
   have a2i:decide (i < (nl:Int))=true:=decide_eq_true i2
   have e0k:(ek == 0)=false:=by simpa using k0
   have e1k:(ek != 0)=true:=by simpa using k0
   have a1k:decide ((0:Int)≤k)=false:=decide_eq_false k1
   clear HVi HNi HSm HDf
   go_wp2_with fail
   (refine(HAw.out w7 (HW7.out)).mono ?_;rintro e wz ⟨rfl,hbz⟩;have HBz:Hid (Below w.heap.size w wz):=(HW7.out).trans (hbz.mono (HW7.out).size);clear hbz;go_wp2_with fail;go_ret;exact⟨rfl,HBz.out⟩)
  ·have a1i:decide ((0:Int)≤i)=true:=decide_eq_true i1
   have a2i:decide (i < (nl:Int))=true:=decide_eq_true i2
   have e0k:(ek == 0)=false:=by simpa using k0
   have e1k:(ek != 0)=true:=by simpa using k0
   have a1k:decide ((0:Int)≤k)=true:=decide_eq_true k1
   have a2k:decide (k < (nl:Int))=false:=decide_eq_false k2
   clear HVi HNi HSm HDf
   go_wp2_with fail
   (refine(HAw.out w7 (HW7.out)).mono ?_;rintro e wz ⟨rfl,hbz⟩;have HBz:Hid (Below w.heap.size w wz):=(HW7.out).trans (hbz.mono (HW7.out).size);clear hbz;go_wp2_with fail;go_ret;exact⟨rfl,HBz.out⟩)
 ·rcases hk3 with ⟨rfl,k1,k2⟩ | ⟨k0,k1⟩ | ⟨k0,k1,k2⟩
  ·have e0i:(ei == 0)=false:=by simpa using i0
   have e1i:(ei != 0)=true:=by simpa using i0
   have a1i:decide ((0:Int)≤i)=false:=decide_eq_false i1
   have a1k:decide ((0:Int)≤k)=true:=decide_eq_true k1
   have a2k:decide (k < (nl:Int))=true:=decide_eq_true k2
   clear HVi HNi HSm HDf
   go_wp2_with fail
   (refine(HAw.out w7 (HW7.out)).mono ?_;rintro e wz ⟨rfl,hbz⟩;have HBz:Hid (Below w.heap.size w wz):=(HW7.out).trans (hbz.mono (HW7.out).size);clear hbz;go_wp2_with fail;go_ret;exact⟨rfl,HBz.out⟩)
  ·have e0i:(ei == 0)=false:=by simpa using i0
   have e1i:(ei != 0)=true:=by simpa using i0
   have a1i:decide ((0:Int)≤i)=false:=decide_eq_false i1
   have e0k:(ek == 0)=false:=by simpa using k0
   have e1k:(ek != 0)=true:=by simpa using k0
   have a1k:decide ((0:Int)≤k)=false:=decide_eq_false k1
   clear HVi HNi HSm HDf
   go_wp2_with fail
   (refine(HAw.out w7 (HW7.out)).mono ?_;rintro e wz ⟨rfl,hbz⟩;have HBz:Hid (Below w.heap.size w wz):=(HW7.out).trans (hbz.mono (HW7.out).size);clear hbz;go_wp2_with fail;go_ret;exact⟨rfl,HBz.out⟩)
  ·have e0i:(ei == 0)=false:=by simpa using i0
   have e1i:(ei != 0)=true:=by simpa using i0
   have a1i:decide ((0:Int)≤i)=false:=decide_eq_false i1
   have e0k:(ek == 0)=false:=by simpa using k0
   have e1k:(ek != 0)=true:=by simpa using k0
   have a1k:decide ((0:Int)≤k)=true:=decide_eq_true k1
   have a2k:decide (k < (nl:Int))=false:=decide_eq_false k2
   clear HVi HNi HSm HDf
   go_wp2_with fail
   (refine(HAw.out w7 (HW7.out)).mono ?_;rintro e wz ⟨rfl,hbz⟩;have HBz:Hid (Below w.heap.size w wz):=(HW7.out).trans (hbz.mono (HW7.out).size);clear hbz;go_wp2_with fail;go_ret;exact⟨rfl,HBz.out⟩)
 ·rcases hk3 with ⟨rfl,k1,k2⟩ | ⟨k0,k1⟩ | ⟨k0,k1,k2⟩
  ·have e0i:(ei == 0)=false:=by simpa using i0
   have e1i:(ei != 0)=true:=by simpa using i0
   have a1i:decide ((0:Int)≤i)=true:=decide_eq_true i1
   have a2i:decide (i < (nl:Int))=false:=decide_eq_false i2
   have a1k:decide ((0:Int)≤k)=true:=decide_eq_true k1
   have a2k:decide (k < (nl:Int))=true:=decide_eq_true k2
   clear HVi HNi HSm HDf
   go_wp2_with fail
   (refine(HAw.out w7 (HW7.out)).mono ?_;rintro e wz ⟨rfl,hbz⟩;have HBz:Hid (Below w.heap.size w wz):=(HW7.out).trans (hbz.mono (HW7.out).size);clear hbz;go_wp2_with fail;go_ret;exact⟨rfl,HBz.out⟩)
  ·have e0i:(ei == 0)=false:=by simpa using i0
   have e1i:(ei != 0)=true:=by simpa using i0
   have a1i:decide ((0:Int)≤i)=true:=decide_eq_true i1
   have a2i:decide (i < (nl:Int))=false:=decide_eq_false i2
   have e0k:(ek == 0)=false:=by simpa using k0
   have e1k:(ek != 0)=true:=by simpa using k0
   have a1k:decide ((0:Int)≤k)=false:=decide_eq_false k1
   clear HVi HNi HSm HDf
   go_wp2_with fail
   (refine(HAw.out w7 (HW7.out)).mono ?_;rintro e wz ⟨rfl,hbz⟩;have HBz:Hid (Below w.heap.size w wz):=(HW7.out).trans (hbz.mono (HW7.out).size);clear hbz;go_wp2_with fail;go_ret;exact⟨rfl,HBz.out⟩)
  ·have e0i:(ei == 0)=false:=by simpa using i0
   have e1i:(ei != 0)=true:=by simpa using i0
   have a1i:decide ((0:Int)≤i)=true:=decide_eq_true i1
   have a2i:decide (i < (nl:Int))=false:=decide_eq_false i2
   have e0k:(ek == 0)=false:=by simpa using k0
   have e1k:(ek != 0)=true:=by simpa using k0
   have a1k:decide ((0:Int)≤k)=true:=decide_eq_true k1
   have a2k:decide (k < (nl:Int))=false:=decide_eq_false k2
   clear HVi HNi HSm HDf
   go_wp2_with fail
   (refine(HAw.out w7 (HW7.out)).mono ?_;rintro e wz ⟨rfl,hbz⟩;have HBz:Hid (Below w.heap.size w wz):=(HW7.out).trans (hbz.mono (HW7.out).size);clear hbz;go_wp2_with fail;go_ret;exact⟨rfl,HBz.out⟩)
end Go.Proofs.YtebneadheaefdaaGreatDoor
namespace Go.Proofs.YtebneadheaefdaaGreatDoor
open Go.RowKit
theorem MutateValid_any (d:DesD) (x:DesA) (i k:Int) (w:World) (hE:DesIn w d x) (hs:DesSmall d) (hG:Glob w) (hT:Lib.TabIs Tryz.prog w "internal/strconv.uint64pow10" .u64 Lib.pow10Tab) :
  Calls Tryz.prog 8 #[desVal d x,.int .i64 i,.int .i64 k] w fun e w'=>e=.returned (.bool true)∧Below w.heap.size w w':=MutateValid_of d x i k w hE hs hG (fmC_of hT) (awC_of hG hT)
end Go.Proofs.YtebneadheaefdaaGreatDoor
