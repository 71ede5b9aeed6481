/- law34, plain: the sites of an expression and the mutants of a design. -/
import Derived.Test.YtebneadheaefdaaGreatDoorDB
import Derived.Test.YtebneadheaefdaaGreatDoorEC
set_option linter.unusedSimpArgs false
set_option linter.unusedVariables false
set_option linter.unnecessarySimpa false
namespace Go.Proofs.YtebneadheaefdaaGreatDoor
def exchS (op:Int):Int :=
 if op=7 then 8 else if op=8∨op=9 then 7 else if op=10∨op=12 then 11 else if op=11 then 10
 else if op=13 then 14 else if op=14 then 13 else if op=15 then 16 else if op=16 then 15
 else if op=17 then 18 else if op=18 then 17 else if op=19 then 20 else if op=20∨op=21 then 19
 else if op=4 then 25 else if op=25 then 4 else if op=5 then 6 else if op=6 then 5 else 0
def kConst:ByteArray:=⟨#[99,111,110,115,116,97,110,116]⟩
def kCond:ByteArray:=⟨#[99,111,110,100,105,116,105,111,110]⟩
def kOper:ByteArray:=⟨#[111,112,101,114,97,116,111,114]⟩
def kindS (op:Int):ByteArray:=if op=1 then kConst else if op=22 then kCond else if exchS op≠0 then kOper else .empty
def notE (x:Ex):Ex:=.mk 4 0 .empty [x]
def chgS:Ex→Ex
 | .mk op n nm args=>if op=1 then .mk op ((n+1) % 65536) nm args else if op=22 then .mk op n nm (match args with | []=>[] | a::l=>notE a::l) else if exchS op≠0 then .mk (exchS op) n nm args else .mk op n nm args
def setArgs:Ex→List Ex→Ex | .mk op n nm _,l=>.mk op n nm l
noncomputable def withL:List Ex→List (Nat→Ex)→Nat→List Ex
 | a::l,f::ls,k=>if k < a.nodes.length then f k::l else a::withL l ls (k - a.nodes.length)
 | l,_,_=>l
noncomputable def withS (e:Ex):Nat→Ex:=e.para fun e ls k=>match k with
 | 0=>chgS e
 | k+1=>setArgs e (withL e.args ls k)
theorem withS_eq (e:Ex):withS e=fun k=>match k with
 | 0=>chgS e
 | k+1=>setArgs e (withL e.args (e.args.map withS) k):=by unfold withS;rw[Ex.para_eq]
theorem withS_zero (e:Ex):withS e 0=chgS e:=by rw[withS_eq]
theorem withS_succ (e:Ex) (k:Nat):withS e (k+1)=setArgs e (withL e.args (e.args.map withS) k):=by rw[withS_eq]
abbrev Ver:=Ex × ByteArray
def whatS (first:Nat) (k:ByteArray):ByteArray:=(fmtS first++⟨#[32]⟩)++k
def ownV (e:Ex) (first:Nat):List Ver:=if kindS e.op=.empty then [] else [(chgS e,whatS first (kindS e.op))]
noncomputable def versL (e:Ex):List Ex→List Ex→List (Nat→List Ver)→Nat→List Ver
 | pre,a::post,f::fs,at'=>((f at').map fun v=>(setArgs e (pre++v.1::post),v.2))++versL e (pre++[a]) post fs (at'+a.nodes.length)
 | _,_,_,_=>[]
noncomputable def versS (e:Ex):Nat→List Ver:=e.para fun e ls first=>ownV e first++versL e [] e.args ls (first+1)
theorem versS_eq (e:Ex) (first:Nat):versS e first=ownV e first++versL e [] e.args (e.args.map versS) (first+1):=by
 have:versS e=fun first=>ownV e first++versL e [] e.args (e.args.map versS) (first+1):=by unfold versS;rw[Ex.para_eq]
 rw[this]
def siteF (g:Nat→Ex) (first:Nat) (p:Ex × Nat):Option Ver:=if kindS p.1.op=.empty then none else some (g p.2,whatS (first+p.2) (kindS p.1.op))
theorem siteF_congr {g h:Nat→Ex} {first second base:Nat} {l:List Ex} (hh:∀ k,k < l.length→g (base+k)=h k) (hf:first+base=second):(l.zipIdx base).filterMap (siteF g first)=(l.zipIdx 0).filterMap (siteF h second):=by
 have e:∀ (l:List Ex) (b c:Nat),(∀ k,k < l.length→g (b+k)=h (c+k))→first+b=second+c→(l.zipIdx b).filterMap (siteF g first)=(l.zipIdx c).filterMap (siteF h second):=by
  intro l
  induction l with
  | nil=>intro b c _ _;rfl
  | cons x l ih =>
   intro b c h1 h2
   rw[List.zipIdx_cons,List.zipIdx_cons,List.filterMap_cons,List.filterMap_cons,ih (b+1) (c+1) (fun k hk=>by
    have:=h1 (k+1) (by simp;omega)
    rw[show b+(k+1)=b+1+k by omega,show c+(k+1)=c+1+k by omega] at this
    exact this) (by omega)]
   have h0:=h1 0 (by simp)
   simp only[Nat.add_zero] at h0
   unfold siteF
   simp only[h0,h2]
 exact e l base 0 (fun k hk=>by rw[Nat.zero_add];exact hh k hk) (by omega)
theorem fm_congr {α β:Type} {f g:α→Option β} {l:List α} (h:∀ x∈l,f x=g x):l.filterMap f=l.filterMap g:=by
 induction l with
 | nil=>rfl
 | cons a l ih=>rw[List.filterMap_cons,List.filterMap_cons,h a List.mem_cons_self,ih fun x hx=>h x (List.mem_cons_of_mem _ hx)]
theorem sites_eq (e:Ex):∀ first,versS e first=(e.nodes.zipIdx 0).filterMap (siteF (withS e) first):=by
 induction e using Ex.ind with
 | _ e ih =>
  intro first
  have key:∀ (post pre:List Ex) (at':Nat),(∀ a∈post,∀ first,versS a first=(a.nodes.zipIdx 0).filterMap (siteF (withS a) first)) →
    versL e pre post (post.map versS) at'=((post.map Ex.nodes).flatten.zipIdx 0).filterMap (siteF (fun k=>setArgs e (pre++withL post (post.map withS) k)) at'):=by
   intro post
   induction post with
   | nil=>intro pre at' _;rfl
   | cons a post ihp =>
    intro pre at' hA
    rw[List.map_cons,List.map_cons,List.map_cons,List.flatten_cons,versL,ihp (pre++[a]) (at'+a.nodes.length) (fun x hx=>hA x (List.mem_cons_of_mem _ hx)),hA a List.mem_cons_self,List.zipIdx_append,List.filterMap_append]
    congr 1
    ·rw[List.map_filterMap]
     have:∀ p∈a.nodes.zipIdx 0,(siteF (withS a) at' p).map (fun v=>(setArgs e (pre++v.1::post),v.2))=siteF (fun k=>setArgs e (pre++withL (a::post) (withS a::post.map withS) k)) at' p:=by
      rintro ⟨x,k⟩ hp
      have hk:k < a.nodes.length:=by
       have:=(List.mem_zipIdx hp).2.1
       omega
      unfold siteF
      simp only
      split
      ·rfl
      ·simp only[Option.map_some,withL,if_pos hk]
     exact fm_congr this
    ·rw[Nat.zero_add]
     refine(siteF_congr (fun k hk=>?_) rfl).symm
     have:¬ a.nodes.length+k < a.nodes.length:=by omega
     simp only[withL,if_neg this,Nat.add_sub_cancel_left,List.append_assoc,List.cons_append,List.nil_append]
  rw[versS_eq,key e.args [] (first+1) (fun a ha=>ih a ha),Ex.nodes_eq,List.zipIdx_cons,List.filterMap_cons]
  have h1:((e.args.map Ex.nodes).flatten.zipIdx (0+1)).filterMap (siteF (withS e) first)=((e.args.map Ex.nodes).flatten.zipIdx 0).filterMap (siteF (fun k=>setArgs e ([]++withL e.args (e.args.map withS) k)) (first+1)):=by
   refine siteF_congr (fun k hk=>?_) rfl
   rw[show 0+1+k=k+1 by omega,withS_succ,List.nil_append]
  rw[h1]
  unfold ownV siteF
  simp only[withS_zero,Nat.add_zero]
  split<;>rfl
abbrev Mut:=DesD × ByteArray
def DesD.setWire (d:DesD) (i:Nat) (e:Ex):DesD:={ d with wires:=d.wires.modify i fun w=>{ w with expr:=e } }
def DesD.setNext (d:DesD) (i:Nat) (e:Ex):DesD:={ d with regs:=d.regs.modify i fun r=>{ r with next:=e } }
def flipI (n:Int):Int:=if n % 2=0 then n+1 else n - 1
def DesD.setInit (d:DesD) (i:Nat):DesD:={ d with regs:=d.regs.modify i fun r=>{ r with init:=flipI r.init } }
def DesD.named (d:DesD) (k:Nat):DesD:={ d with name:=(d.name++⟨#[95]⟩)++fmtS k }
def wireT (nm what:ByteArray):ByteArray:=((⟨#[119,105,114,101,32]⟩++nm)++⟨#[32]⟩)++what
def regT (nm what:ByteArray):ByteArray:=((⟨#[114,101,103,32]⟩++nm)++⟨#[32]⟩)++what
def initT:ByteArray:=⟨#[105,110,105,116]⟩
noncomputable def wireM (d:DesD) (i:Nat) (w:WireD):List Mut:=(versS w.expr 0).map fun v=>(d.setWire i v.1,wireT w.name v.2)
noncomputable def regM (d:DesD) (i:Nat) (r:RegD):List Mut:=(d.setInit i,regT r.name initT)::(versS r.next 0).map fun v=>(d.setNext i v.1,regT r.name v.2)
noncomputable def addM (l:List Mut) (m:Mut):List Mut:=if (m.1.named l.length).err=0 then l++[(m.1.named l.length,m.2)] else l
noncomputable def candM (d:DesD):List Mut:=(d.wires.zipIdx 0).flatMap (fun p=>wireM d p.2 p.1)++(d.regs.zipIdx 0).flatMap (fun p=>regM d p.2 p.1)
noncomputable def mutL (d:DesD):List Mut:=(candM d).foldl addM []
end Go.Proofs.YtebneadheaefdaaGreatDoor
namespace Go.Proofs.YtebneadheaefdaaGreatDoor
open Classical in
structure NodM (x:Ex):Prop where
 con:x.op=1→0≤x.n∧x.n≤65535
 not1:x.op=4→x.n=0∧x.name=.empty∧x.args.length=1
 ite:x.op=22→x.args.length=3
def OkM (e:Ex):Prop:=∀ x∈e.nodes,NodM x
theorem OkM.arg {e x:Ex} (h:OkM e) (hx:x∈e.args):OkM x:=fun y hy=>h y (by rw[Ex.nodes_eq];exact List.mem_cons_of_mem _ (List.mem_flatten.2 ⟨_,List.mem_map.2 ⟨x,hx,rfl⟩,hy⟩))
theorem OkM.self {e:Ex} (h:OkM e):NodM e:=h e (by rw[Ex.nodes_eq];exact List.mem_cons_self)
theorem chgS_mk (op n:Int) (nm:ByteArray) (args:List Ex):chgS (.mk op n nm args)=if op=1 then .mk op ((n+1) % 65536) nm args else if op=22 then .mk op n nm (match args with | []=>[] | a::l=>notE a::l) else if exchS op≠0 then .mk (exchS op) n nm args else .mk op n nm args:=rfl
end Go.Proofs.YtebneadheaefdaaGreatDoor
namespace Go.Proofs.YtebneadheaefdaaGreatDoor
theorem nodes_sumM (e:Ex):e.nodes.length=1+((e.args.map fun a=>a.nodes.length).sum):=by
 rw[Ex.nodes_eq]
 simp[List.length_flatten,List.map_map,Function.comp_def,Nat.add_comm]
theorem setArgs_args (e:Ex) (l:List Ex):(setArgs e l).args=l∧(setArgs e l).op=e.op∧(setArgs e l).n=e.n∧(setArgs e l).name=e.name:=by
 obtain⟨op,n,s,a⟩:=e
 exact⟨rfl,rfl,rfl,rfl⟩
theorem chgS_len (e:Ex):(chgS e).nodes.length≤e.nodes.length+1:=by
 obtain⟨op,n,s,l⟩:=e
 show (if op=1 then Ex.mk op ((n+1) % 65536) s l else if op=22 then .mk op n s (match l with | []=>[] | a::l=>notE a::l) else if exchS op≠0 then .mk (exchS op) n s l else .mk op n s l).nodes.length≤_
 split
 ·rw[nodes_sumM,nodes_sumM (.mk op n s l)];simp[Ex.args_mk]
 ·split
  ·cases l with
   | nil=>simp
   | cons a l =>
    rw[nodes_sumM,nodes_sumM (.mk op n s (a::l))]
    have:(notE a).nodes.length=1+a.nodes.length:=by rw[nodes_sumM];simp[notE,Ex.args_mk]
    simp[Ex.args_mk,this]
    omega
  ·split
   ·rw[nodes_sumM,nodes_sumM (.mk op n s l)];simp[Ex.args_mk]
   ·simp
theorem vers_nodes (e:Ex):∀ first,∀ v∈versS e first,v.1.nodes.length≤e.nodes.length+1:=by
  induction e using Ex.ind with
  | _ e ih =>
    intro first v hv
    rw[versS_eq,List.mem_append] at hv
    rcases hv with hv | hv
    · unfold ownV at hv
      split at hv
      · simp at hv
      · rw[List.mem_singleton.1 hv]
        exact chgS_len e
    · have key:∀ (post pre:List Ex) (at':Nat),(∀ a∈post,∀ first,∀ v∈versS a first,v.1.nodes.length≤a.nodes.length+1)→∀ v∈versL e pre post (post.map versS) at',
          v.1.nodes.length≤1+((pre++post).map fun a=>a.nodes.length).sum+1:=by
        intro post
        induction post with
        | nil=>intro pre at' _ v hv;simp[versL] at hv
        | cons a post ihp =>
          intro pre at' hA v hv
          rw[List.map_cons,versL,List.mem_append] at hv
          rcases hv with hv | hv
          · obtain⟨u,hu,rfl⟩:=List.mem_map.1 hv
            have h1:=hA a List.mem_cons_self _ u hu
            rw[nodes_sumM,(setArgs_args _ _).1]
            simp only[List.map_append,List.map_cons,List.sum_append,List.sum_cons]
            omega
          · have:=ihp (pre++[a]) _ (fun x hx=>hA x (List.mem_cons_of_mem _ hx)) v hv
            simpa using this
      have h:=key e.args [] (first+1) (fun a ha=>ih a ha) v hv
      rw[nodes_sumM e]
      simpa using h
theorem vers_len (e:Ex) (first:Nat):(versS e first).length≤e.nodes.length:=by
 rw[sites_eq]
 exact Nat.le_trans (List.length_filterMap_le _ _) (by simp)
theorem wireM_len (d:DesD) (i:Nat) (w:WireD):(wireM d i w).length≤w.expr.nodes.length:=by
 unfold wireM
 rw[List.length_map]
 exact vers_len _ _
theorem regM_len (d:DesD) (i:Nat) (r:RegD):(regM d i r).length≤r.next.nodes.length+1:=by
 unfold regM
 rw[List.length_cons,List.length_map]
 exact Nat.succ_le_succ (vers_len _ _)
theorem addM_len (l:List Mut) (m:Mut):(addM l m).length≤l.length+1:=by
 unfold addM
 split<;>simp
theorem fold_len (l:List Mut):∀ acc:List Mut,(l.foldl addM acc).length≤acc.length+l.length:=by
 induction l with
 | nil=>intro acc;simp
 | cons m l ih =>
  intro acc
  rw[List.foldl_cons,List.length_cons]
  have:=ih (addM acc m)
  have:=addM_len acc m
  omega
noncomputable def candW (d:DesD) (i:Nat):List Mut:=((d.wires.zipIdx 0).take i).flatMap fun p=>wireM d p.2 p.1
noncomputable def candR (d:DesD) (i:Nat):List Mut:=candW d d.wires.length++((d.regs.zipIdx 0).take i).flatMap fun p=>regM d p.2 p.1
theorem candW_zero (d:DesD):candW d 0=[]:=rfl
theorem candW_succ (d:DesD) {i:Nat} (hi:i < d.wires.length):candW d (i+1)=candW d i++wireM d i (d.wires[i]'hi):=by
 unfold candW
 have:(d.wires.zipIdx 0)[i]? = some (d.wires[i]'hi,i):=by
  rw[List.getElem?_zipIdx,List.getElem?_eq_getElem hi]
  simp
 rw[List.take_add_one,this]
 simp
theorem candR_zero (d:DesD):candR d 0=candW d d.wires.length:=by unfold candR;simp
theorem candR_succ (d:DesD) {i:Nat} (hi:i < d.regs.length):candR d (i+1)=candR d i++regM d i (d.regs[i]'hi):=by
 unfold candR
 have:(d.regs.zipIdx 0)[i]? = some (d.regs[i]'hi,i):=by
  rw[List.getElem?_zipIdx,List.getElem?_eq_getElem hi]
  simp
 rw[List.take_add_one,this]
 simp
theorem candR_all (d:DesD):candR d d.regs.length=candM d:=by
 unfold candR candW candM
 rw[List.take_of_length_le (by simp),List.take_of_length_le (by simp)]
noncomputable def mutW (d:DesD) (i:Nat):List Mut:=(candW d i).foldl addM []
noncomputable def mutR (d:DesD) (i:Nat):List Mut:=(candR d i).foldl addM []
theorem mutW_succ (d:DesD) {i:Nat} (hi:i < d.wires.length):mutW d (i+1)=(wireM d i (d.wires[i]'hi)).foldl addM (mutW d i):=by
 unfold mutW
 rw[candW_succ d hi,List.foldl_append]
theorem mutR_zero (d:DesD):mutR d 0=mutW d d.wires.length:=by unfold mutR mutW;rw[candR_zero]
theorem mutR_succ (d:DesD) {i:Nat} (hi:i < d.regs.length):mutR d (i+1)=(regM d i (d.regs[i]'hi)).foldl addM (mutR d i):=by
 unfold mutR
 rw[candR_succ d hi,List.foldl_append]
theorem mutR_all (d:DesD):mutR d d.regs.length=mutL d:=by unfold mutR mutL;rw[candR_all]
theorem candW_len (d:DesD) {K:Nat} (hK:∀ e∈d.exprs,e.nodes.length≤K):∀ i,i≤d.wires.length→(candW d i).length≤i * (K+1):=by
 intro i
 induction i with
 | zero=>intro _;simp[candW_zero]
 | succ i ih =>
  intro hi
  have h1:=ih (by omega)
  have h2:=wireM_len d i (d.wires[i]'hi)
  have h3:=hK (d.wires[i]'hi).expr (by unfold DesD.exprs;exact List.mem_append_left _ (List.mem_map.2 ⟨_,List.getElem_mem hi,rfl⟩))
  rw[candW_succ d hi,List.length_append,Nat.add_mul,Nat.one_mul]
  omega
theorem candR_len (d:DesD) {K:Nat} (hK:∀ e∈d.exprs,e.nodes.length≤K):∀ i,i≤d.regs.length→(candR d i).length≤(d.wires.length+i) * (K+1):=by
 intro i
 induction i with
 | zero=>intro _;rw[candR_zero,Nat.add_zero];exact candW_len d hK _ (Nat.le_refl _)
 | succ i ih =>
  intro hi
  have h1:=ih (by omega)
  have h2:=regM_len d i (d.regs[i]'hi)
  have h3:=hK (d.regs[i]'hi).next (by unfold DesD.exprs;exact List.mem_append_right _ (List.mem_map.2 ⟨_,List.getElem_mem hi,rfl⟩))
  rw[candR_succ d hi,List.length_append,← Nat.add_assoc,Nat.add_mul (d.wires.length+i),Nat.one_mul]
  omega
theorem mutW_len (d:DesD) {K:Nat} (hK:∀ e∈d.exprs,e.nodes.length≤K) {i:Nat} (hi:i≤d.wires.length):(mutW d i).length≤i * (K+1):=by
 have h1:=fold_len (candW d i) []
 have h2:=candW_len d hK i hi
 unfold mutW
 simp at h1
 omega
theorem mutR_len (d:DesD) {K:Nat} (hK:∀ e∈d.exprs,e.nodes.length≤K) {i:Nat} (hi:i≤d.regs.length):(mutR d i).length≤(d.wires.length+i) * (K+1):=by
 have h1:=fold_len (candR d i) []
 have h2:=candR_len d hK i hi
 unfold mutR
 simp at h1
 omega
end Go.Proofs.YtebneadheaefdaaGreatDoor
namespace Go.Proofs.YtebneadheaefdaaGreatDoor
def numD (l:List UInt8):Nat:=l.foldl (fun a c=>a * 10+(c.toNat - 48)) 0
theorem numD_dec (u:Nat):numD (Lib.decDigits u)=u:=by
 induction u using Nat.strongRecOn with
 | _ u ih =>
  rw[Lib.decDigits]
  by_cases h:u < 10
  ·rw[dif_pos h]
   show 0 * 10+((UInt8.ofNat (48+u)).toNat - 48)=u
   rw[UInt8.toNat_ofNat']
   omega
  ·rw[dif_neg h]
   unfold numD at *
   rw[List.foldl_append,ih (u / 10) (by omega)]
   show u / 10 * 10+((UInt8.ofNat (48+u % 10)).toNat - 48)=u
   rw[UInt8.toNat_ofNat']
   omega
end Go.Proofs.YtebneadheaefdaaGreatDoor
namespace Go.Proofs.YtebneadheaefdaaGreatDoor
def kFault:ByteArray:=⟨#[102,97,117,108,116]⟩
def tryN:Nat→ByteArray
 | 0=>kFault
 | k+1=>kFault++fmtS k
theorem fmt_dec (n:Nat):(fmtS n).data.toList=Lib.decDigits n:=by
 unfold fmtS Lib.itoa
 rw[if_neg (by omega)]
 rfl
theorem dec_ne (u:Nat):Lib.decDigits u≠[]:=by
 rw[Lib.decDigits]
 split
 ·simp
 ·simp
theorem tryN_inj {j k:Nat} (h:tryN j=tryN k):j=k:=by
 have app:∀ a b:ByteArray,(a++b).data.toList=a.data.toList++b.data.toList:=fun a b=>by rw[ByteArray.data_append,Array.toList_append]
 have h1:=congrArg (fun s:ByteArray=>s.data.toList) h
 cases j with
 | zero =>
  cases k with
  | zero=>rfl
  | succ k =>
   simp only[tryN,app,fmt_dec] at h1
   exact absurd (List.self_eq_append_right.1 h1) (dec_ne k)
 | succ j =>
  cases k with
  | zero =>
   simp only[tryN,app,fmt_dec] at h1
   exact absurd (List.self_eq_append_right.1 h1.symm) (dec_ne j)
  | succ k =>
   simp only[tryN,app,fmt_dec] at h1
   have h2:=List.append_cancel_left h1
   have:j=k:=by rw[← numD_dec j,h2,numD_dec]
   rw[this]
theorem try_free (l:List ByteArray):∃ k,k≤l.length∧tryN k∉l:=by
 by_cases hx:∃ k,k≤l.length∧tryN k∉l
 ·exact hx
 ·exfalso
  have hall:∀ k,k≤l.length→tryN k∈l:=fun k hk=>by
   by_cases hm:tryN k∈l
   ·exact hm
   ·exact absurd ⟨k,hk,hm⟩ hx
  have hsub:((List.range (l.length+1)).map tryN) ⊆ l:=by
   intro s hs
   obtain⟨k,hk,rfl⟩:=List.mem_map.1 hs
   exact hall k (by have:=List.mem_range.1 hk;omega)
  have hnd:((List.range (l.length+1)).map tryN).Nodup:=by
   rw[List.nodup_iff_pairwise_ne,List.pairwise_map]
   exact List.Pairwise.imp (fun h e=>h (tryN_inj e)) List.nodup_range
  have:=hnd.length_le_of_subset hsub
  simp at this
  omega
noncomputable def freeF (l:List ByteArray):Nat→Nat→Nat
 | 0,k=>k
 | f+1,k=>open Classical in if tryN k∈l then freeF l f (k+1) else k
theorem freeF_spec {l:List ByteArray}:∀ f k,(∃ j,k≤j∧j < k+f∧tryN j∉l)→tryN (freeF l f k)∉l∧(∀ i,k≤i→i < freeF l f k→tryN i∈l)∧freeF l f k < k+f:=by
 intro f
 induction f with
 | zero=>rintro k ⟨j,h1,h2,_⟩;omega
 | succ f ih =>
  rintro k ⟨j,h1,h2,h3⟩
  unfold freeF
  by_cases hm:tryN k∈l
  ·rw[if_pos hm]
   obtain⟨a,b,c⟩:=ih (k+1) ⟨j,by
    rcases Nat.lt_or_ge k j with q | q
    ·exact q
    ·obtain rfl:j=k:=by omega
     exact absurd hm h3,by omega,h3⟩
   refine⟨a,fun i hi hlt=>?_,by omega⟩
   rcases Nat.lt_or_ge k i with q | q
   ·exact b i q hlt
   ·obtain rfl:i=k:=by omega
    exact hm
  ·rw[if_neg hm]
   exact⟨hm,fun i hi hlt=>by omega,by omega⟩
noncomputable def freeK (l:List ByteArray):Nat:=freeF l (l.length+1) 0
theorem freeK_spec (l:List ByteArray):tryN (freeK l)∉l∧(∀ i,i < freeK l→tryN i∈l)∧freeK l≤l.length:=by
 obtain⟨k,hk,h⟩:=try_free l
 obtain⟨a,b,c⟩:=freeF_spec (l:=l) (l.length+1) 0 ⟨k,Nat.zero_le _,by omega,h⟩
 exact⟨a,fun i hi=>b i (Nat.zero_le _) hi,by unfold freeK;omega⟩
def varE (s:ByteArray):Ex:=.mk 2 0 s []
def numE (n:Int):Ex:=.mk 1 n .empty []
def twoE (op:Int) (a b:Ex):Ex:=.mk op 0 .empty [a,b]
def hitE (c:ByteArray) (cyc bit:Int) (old:Ex):Ex:=.mk 22 0 .empty [twoE 15 (varE c) (numE cyc),twoE 12 old (numE (2 ^ bit.toNat)),old]
noncomputable def cntN (d:DesD):ByteArray:=tryN (freeK d.names)
noncomputable def injD (d:DesD) (at':Nat) (cyc bit:Int):DesD :=
 { d with regs:=(d.regs.modify at' fun r=>{ r with next:=hitE (cntN d) cyc bit r.next })++[⟨cntN d,16,0,twoE 7 (varE (cntN d)) (numE 1)⟩] }
end Go.Proofs.YtebneadheaefdaaGreatDoor
namespace Go.Proofs.YtebneadheaefdaaGreatDoor
theorem valid_n400 {e:Ex} (h:validS e=0):e.nodes.length≤400:=by
 unfold validS at h
 split at h
 ·simp at h
 ·rename_i h1
  have:¬ (24 < e.depth∨400 < e.nodes.length):=fun h2=>h1 ⟨h,h2⟩
  omega
theorem name_16 {d:DesD} (h:d.err=0):d.name.size≤16:=by
 unfold DesD.err at h
 rw[firstErr_zero] at h
 have hs:=h d.sigErr (by simp)
 unfold DesD.sigErr at hs
 split at hs
 ·simp at hs
 ·rename_i h1
  have h2:nameB d.name.data.toList=true:=by
   cases hb:nameB d.name.data.toList with
   | true=>rfl
   | false=>exact absurd (Or.inl hb) h1
  unfold nameB at h2
  simp only[Bool.and_eq_true,decide_eq_true_eq] at h2
  have:=h2.1.2
  simpa using this
theorem dec_len (u:Nat):(Lib.decDigits u).length≤u+1:=by
 induction u using Nat.strongRecOn with
 | ind u ih =>
  rw[Lib.decDigits]
  split
  ·simp
  ·rename_i h
   have:=ih (u / 10) (by omega)
   simp
   omega
theorem fmt_len (k:Nat):(fmtS k).size≤k+1:=by
 have h:=fmt_dec k
 have h2:(fmtS k).size=(Lib.decDigits k).length:=by rw[← h];simp
 rw[h2]
 exact dec_len k
theorem small_ofM {d e:DesD} (hs:DesSmall d) (h1:e.names=d.names) (h2:∀ x∈e.exprs,x.nodes.length≤1048576) (h3:e.inputs.length=d.inputs.length∧e.wires.length=d.wires.length∧e.regs.length=d.regs.length∧e.outputs.length=d.outputs.length) (h4:e.name.size≤1073741824):DesSmall e :=
 ⟨h4,by rw[h1];exact hs.names,h2,by rw[h3.1,h3.2.1,h3.2.2.1,h3.2.2.2];exact hs.len⟩
theorem map_mod {α β:Type} (f:α→β) (g:α→α) (hg:∀ a,f (g a)=f a):∀ (l:List α) (i:Nat),(l.modify i g).map f=l.map f:=by
 intro l
 induction l with
 | nil=>intro i;cases i<;>rfl
 | cons a l ih =>
  intro i
  cases i with
  | zero=>show f (g a)::l.map f=_;rw[hg];rfl
  | succ i=>show f a::(l.modify i g).map f=_;rw[ih];rfl
theorem mem_mod {α:Type} {g:α→α} {x:α}:∀ {l:List α} {i:Nat},x∈l.modify i g→x∈l∨∃ a∈l,x=g a:=by
 intro l
 induction l with
 | nil=>intro i h;cases i<;>cases h
 | cons a l ih =>
  intro i h
  cases i with
  | zero =>
   rcases List.mem_cons.1 (show x∈g a::l from h) with rfl | h
   ·exact Or.inr ⟨a,List.mem_cons_self,rfl⟩
   ·exact Or.inl (List.mem_cons_of_mem _ h)
  | succ i =>
   rcases List.mem_cons.1 (show x∈a::l.modify i g from h) with rfl | h
   ·exact Or.inl List.mem_cons_self
   ·exact(ih h).imp (List.mem_cons_of_mem _) fun ⟨b,hb,e⟩=>⟨b,List.mem_cons_of_mem _ hb,e⟩
theorem setWire_names (d:DesD) (i:Nat) (e:Ex):(d.setWire i e).names=d.names:=by
 unfold DesD.names DesD.setWire
 simp only[map_mod (fun w:WireD=>w.name) (fun w=>{ w with expr:=e }) fun _=>rfl]
theorem setNext_names (d:DesD) (i:Nat) (e:Ex):(d.setNext i e).names=d.names:=by
 unfold DesD.names DesD.setNext
 simp only[map_mod (fun r:RegD=>r.name) (fun r=>{ r with next:=e }) fun _=>rfl]
theorem setInit_names (d:DesD) (i:Nat):(d.setInit i).names=d.names:=by
 unfold DesD.names DesD.setInit
 simp only[map_mod (fun r:RegD=>r.name) (fun r=>{ r with init:=flipI r.init }) fun _=>rfl]
theorem setWire_exprs {d:DesD} {i:Nat} {e x:Ex} (h:x∈(d.setWire i e).exprs):x∈d.exprs∨x=e:=by
 unfold DesD.exprs DesD.setWire at h
 rcases List.mem_append.1 h with h | h
 ·obtain⟨w,hw,rfl⟩:=List.mem_map.1 h
  rcases mem_mod hw with hw | ⟨a,_,rfl⟩
  ·exact Or.inl (by unfold DesD.exprs;exact List.mem_append_left _ (List.mem_map.2 ⟨w,hw,rfl⟩))
  ·exact Or.inr rfl
 ·exact Or.inl (by unfold DesD.exprs;exact List.mem_append_right _ h)
theorem setNext_exprs {d:DesD} {i:Nat} {e x:Ex} (h:x∈(d.setNext i e).exprs):x∈d.exprs∨x=e:=by
 unfold DesD.exprs DesD.setNext at h
 rcases List.mem_append.1 h with h | h
 ·exact Or.inl (by unfold DesD.exprs;exact List.mem_append_left _ h)
 ·obtain⟨w,hw,rfl⟩:=List.mem_map.1 h
  rcases mem_mod hw with hw | ⟨a,_,rfl⟩
  ·exact Or.inl (by unfold DesD.exprs;exact List.mem_append_right _ (List.mem_map.2 ⟨w,hw,rfl⟩))
  ·exact Or.inr rfl
theorem setInit_exprs (d:DesD) (i:Nat):(d.setInit i).exprs=d.exprs:=by
 unfold DesD.exprs DesD.setInit
 simp only[map_mod (fun r:RegD=>r.next) (fun r=>{ r with init:=flipI r.init }) fun _=>rfl]
theorem small_named {d:DesD} (hs:DesSmall d) (h16:d.name.size≤16) {k:Nat} (hk:k≤65535):DesSmall (d.named k) :=
 small_ofM (e:=d.named k) hs rfl hs.exprs ⟨rfl,rfl,rfl,rfl⟩ (by
  show ((d.name++⟨#[95]⟩)++fmtS k).size≤_
  rw[ByteArray.size_append,ByteArray.size_append]
  have h1:(⟨#[95]⟩:ByteArray).size=1:=rfl
  have:=fmt_len k
  omega)
theorem small_setW {d:DesD} (hs:DesSmall d) (i:Nat) {e:Ex} (h:e.nodes.length≤1048576):DesSmall (d.setWire i e) :=
 small_ofM hs (setWire_names d i e) (fun x hx=>(setWire_exprs hx).elim (hs.exprs x) (fun q=>by rw[q];exact h)) ⟨rfl,List.length_modify _ _ _,rfl,rfl⟩ hs.nm
theorem small_setN {d:DesD} (hs:DesSmall d) (i:Nat) {e:Ex} (h:e.nodes.length≤1048576):DesSmall (d.setNext i e) :=
 small_ofM hs (setNext_names d i e) (fun x hx=>(setNext_exprs hx).elim (hs.exprs x) (fun q=>by rw[q];exact h)) ⟨rfl,rfl,List.length_modify _ _ _,rfl⟩ hs.nm
theorem small_setI {d:DesD} (hs:DesSmall d) (i:Nat):DesSmall (d.setInit i) :=
 small_ofM hs (setInit_names d i) (by rw[setInit_exprs];exact hs.exprs) ⟨rfl,rfl,List.length_modify _ _ _,rfl⟩ hs.nm
theorem wire_mem {d:DesD} {i:Nat} (h:i < d.wires.length):(d.wires[i]'h).expr∈d.exprs:=by unfold DesD.exprs;exact List.mem_append_left _ (List.mem_map.2 ⟨_,List.getElem_mem h,rfl⟩)
theorem reg_mem {d:DesD} {i:Nat} (h:i < d.regs.length):(d.regs[i]'h).next∈d.exprs:=by unfold DesD.exprs;exact List.mem_append_right _ (List.mem_map.2 ⟨_,List.getElem_mem h,rfl⟩)
theorem expr_400 {d:DesD} (he:d.err=0):∀ e∈d.exprs,e.nodes.length≤400:=fun e h=>valid_n400 ((desOk_of_err he).exprs e h).1
theorem wireM_small {d:DesD} (he:d.err=0) (hs:DesSmall d) {i:Nat} (hi:i < d.wires.length):∀ m∈wireM d i (d.wires[i]'hi),m.1.name=d.name∧∀ k,k≤65535→DesSmall (m.1.named k):=by
 intro m hm
 obtain⟨v,hv,rfl⟩:=List.mem_map.1 hm
 have h1:=vers_nodes _ 0 v hv
 have h2:=expr_400 he _ (wire_mem hi)
 exact⟨rfl,fun k hk=>small_named (small_setW hs i (by omega)) (show d.name.size≤16 from name_16 he) hk⟩
theorem regM_small {d:DesD} (he:d.err=0) (hs:DesSmall d) {i:Nat} (hi:i < d.regs.length):∀ m∈regM d i (d.regs[i]'hi),m.1.name=d.name∧∀ k,k≤65535→DesSmall (m.1.named k):=by
 intro m hm
 rcases List.mem_cons.1 hm with rfl | hm
 ·exact⟨rfl,fun k hk=>small_named (small_setI hs i) (show d.name.size≤16 from name_16 he) hk⟩
 ·obtain⟨v,hv,rfl⟩:=List.mem_map.1 hm
  have h1:=vers_nodes _ 0 v hv
  have h2:=expr_400 he _ (reg_mem hi)
  exact⟨rfl,fun k hk=>small_named (small_setN hs i (by omega)) (show d.name.size≤16 from name_16 he) hk⟩
theorem sum_48 {d:DesD} (he:d.err=0):d.inputs.length+d.wires.length+d.regs.length≤48:=by
 have:=(desOk_of_err he).len
 simp[DesD.names] at this
 omega
theorem wireM_400 {d:DesD} (he:d.err=0) {i:Nat} (hi:i < d.wires.length):(wireM d i (d.wires[i]'hi)).length≤400:=Nat.le_trans (wireM_len d i _) (expr_400 he _ (wire_mem hi))
theorem regM_401 {d:DesD} (he:d.err=0) {i:Nat} (hi:i < d.regs.length):(regM d i (d.regs[i]'hi)).length≤401:=Nat.le_trans (regM_len d i _) (Nat.succ_le_succ (expr_400 he _ (reg_mem hi)))
theorem mutW_20k {d:DesD} (he:d.err=0) {i:Nat} (hi:i≤d.wires.length):(mutW d i).length≤20000:=by
 have h1:=mutW_len d (expr_400 he) hi
 have h2:=sum_48 he
 have:i * (400+1)≤48 * 401:=Nat.mul_le_mul_right _ (by omega)
 omega
theorem mutR_20k {d:DesD} (he:d.err=0) {i:Nat} (hi:i≤d.regs.length):(mutR d i).length≤20000:=by
 have h1:=mutR_len d (expr_400 he) hi
 have h2:=sum_48 he
 have:(d.wires.length+i) * (400+1)≤48 * 401:=Nat.mul_le_mul_right _ (by omega)
 omega
end Go.Proofs.YtebneadheaefdaaGreatDoor
namespace Go.Proofs.YtebneadheaefdaaGreatDoor
noncomputable def sizeK (l:List Ex) (k:Nat):Nat:=((l.take k).map fun a=>a.nodes.length).sum
theorem sizeK_zero (l:List Ex):sizeK l 0=0:=by simp[sizeK]
theorem sizeK_succ (l:List Ex) {k:Nat} (hk:k < l.length):sizeK l (k+1)=sizeK l k+(l[k]'hk).nodes.length:=by
 unfold sizeK
 rw[List.take_add_one,List.getElem?_eq_getElem hk,List.map_append,List.sum_append]
 simp
noncomputable def verK (e:Ex) (first:Nat):Nat→List Ver
 | 0=>ownV e first
 | k+1=>verK e first k++match e.args[k]? with
  | some a=>(versS a (first+1+sizeK e.args k)).map fun v=>(setArgs e (e.args.set k v.1),v.2)
  | none=>[]
theorem verK_succ (e:Ex) (first:Nat) {k:Nat} (hk:k < e.args.length):verK e first (k+1)=verK e first k++(versS (e.args[k]'hk) (first+1+sizeK e.args k)).map fun v=>(setArgs e (e.args.set k v.1),v.2):=by
 rw[verK,List.getElem?_eq_getElem hk]
theorem verK_rest (e:Ex) (first:Nat):∀ k,k≤e.args.length→verK e first k++versL e (e.args.take k) (e.args.drop k) ((e.args.drop k).map versS) (first+1+sizeK e.args k)=versS e first:=by
 intro k
 induction k with
 | zero=>intro _;rw[versS_eq,sizeK_zero];rfl
 | succ k ih =>
  intro hk
  rw[← ih (by omega),verK_succ e first (show k < e.args.length by omega),List.drop_eq_getElem_cons (show k < e.args.length by omega),List.map_cons,versL,List.append_assoc,sizeK_succ _ (show k < e.args.length by omega)]
  congr 1
  congr 1
  ·refine List.map_congr_left fun v _=>?_
   rw[List.set_eq_take_append_cons_drop,if_pos (show k < e.args.length by omega)]
  ·rw[List.take_add_one,List.getElem?_eq_getElem (show k < e.args.length by omega),Nat.add_assoc (first+1)]
   rfl
theorem verK_all (e:Ex) (first:Nat):verK e first e.args.length=versS e first:=by
 have:=verK_rest e first e.args.length (Nat.le_refl _)
 rw[List.drop_length] at this
 simpa [versL] using this
theorem sizeK_le (e:Ex) (k:Nat):sizeK e.args k < e.nodes.length:=by
 rw[nodes_sumM]
 have h:∀ (l:List Nat) (k:Nat),(l.take k).sum≤l.sum:=by
  intro l
  induction l with
  | nil=>intro k;simp
  | cons a l ih =>
   intro k
   cases k with
   | zero=>simp
   | succ k=>have:=ih k;simp;omega
 have:=h (e.args.map fun a=>a.nodes.length) k
 unfold sizeK
 rw[List.map_take]
 omega
end Go.Proofs.YtebneadheaefdaaGreatDoor
