/- Runs, plainly: a trimmed automaton has the same accepting threads. -/
import Derived.Test.YthojpomoflhbcaaGreatDoorM09
import Derived.BigQuiet
import Derived.Deep.LoopGhost
import Derived.Test.YthojpomoflhbcaaGreatDoorM07
import Derived.Lib.AppendZerosOnto
import Derived.Lib.Overlaps
import Derived.Laws.Externs
import Derived.Laws.CopyOwn
set_option linter.unusedSimpArgs false
set_option linter.unusedVariables false
set_option linter.unnecessarySimpa false
namespace Go.Proofs.YthojpomoflhbcaaGreatDoor
open Go.RowKit
section
variable {α : Type} {c : α → α → Int}
theorem asc_ext (h:Cmp3 c):∀ {l m:List α},Asc c l→Asc c m→(∀ x,x∈l↔x∈m)→l=m:=by
 intro l
 induction l with
 | nil =>
  intro m _ _ he
  cases m with
  | nil=>rfl
  | cons y m=>exact absurd ((he y).2 (List.mem_cons_self ..)) (by simp)
 | cons x l ih =>
  intro m hl hm he
  cases m with
  | nil=>exact absurd ((he x).1 (List.mem_cons_self ..)) (by simp)
  | cons y m =>
   obtain⟨h1,h2⟩:=List.pairwise_cons.1 hl
   obtain⟨h3,h4⟩:=List.pairwise_cons.1 hm
   have hxy:x=y:=by
    rcases List.mem_cons.1 ((he x).1 (List.mem_cons_self ..)) with e | e
    ·exact e
    ·rcases List.mem_cons.1 ((he y).2 (List.mem_cons_self ..)) with e2 | e2
     ·exact e2.symm
     ·have a:=h3 x e
      have b:=h1 y e2
      have:=h.trans _ _ _ a b
      rw[h.refl] at this
      omega
   subst hxy
   rw[ih h2 h4 fun z=>?_]
   constructor
   ·intro hz
    rcases List.mem_cons.1 ((he z).1 (List.mem_cons_of_mem _ hz)) with e | e
    ·subst e
     have:=h1 z hz
     rw[h.refl] at this
     omega
    ·exact e
   ·intro hz
    rcases List.mem_cons.1 ((he z).2 (List.mem_cons_of_mem _ hz)) with e | e
    ·subst e
     have:=h3 z hz
     rw[h.refl] at this
     omega
    ·exact e
theorem mem_insL (h:Cmp3 c) {l:List α} {t y:α}:y∈insL c l t↔y=t∨y∈l:=by
 refine⟨insL_mem,?_⟩
 induction l with
 | nil=>simp[insL]
 | cons x r ih =>
  rw[insL]
  rintro (rfl | hy)
  ·split
   ·exact List.mem_cons_of_mem _ (ih (Or.inl rfl))
   ·split<;>exact List.mem_cons_self ..
  ·split
   ·rcases List.mem_cons.1 hy with rfl | hy
    ·exact List.mem_cons_self ..
    ·exact List.mem_cons_of_mem _ (ih (Or.inr hy))
   ·split
    ·rename_i h0
     have e:=(h.zero _ _).1 h0
     rw[← e];exact hy
    ·exact List.mem_cons_of_mem _ hy
end
theorem takeS_iff {e:EdgeD} {loc env r:List Sg}:takeS e loc env=some r↔e.guards.all (fun g=>valN g loc env != 0)=true∧setsTo e.sets env loc e.sets.length=r:=by
 unfold takeS
 by_cases hg:e.guards.all (fun g=>valN g loc env != 0)=true
 ·rw[if_pos hg];simp[hg]
 ·rw[if_neg hg];constructor
  ·intro h;simp at h
  ·intro h;exact absurd h.1 hg
theorem mem_stepE {env:List Sg} {t:ThrD} {out:List ThrD} {e:EdgeD} {y:ThrD}:y∈stepE env t out e↔y∈out∨(e.fr=t.state∧y.state=e.to∧takeS e t.env env=some y.env):=by
 unfold stepE
 split
 ·rename_i h
  cases ht:takeS e t.env env with
  | none=>simp
  | some loc =>
   simp only[mem_insL cmp3Thr]
   constructor
   ·rintro (rfl | h1)
    ·exact Or.inr ⟨h,rfl,rfl⟩
    ·exact Or.inl h1
   ·rintro (h1 | ⟨_,h1,h2⟩)
    ·exact Or.inr h1
    ·left
     cases y
     simp only[Option.some.injEq] at h1 h2
     rw[h1,h2]
 ·rename_i h
  simp[h]
theorem asc_stepE {env:List Sg} {t:ThrD} {out:List ThrD} {e:EdgeD} (h:Asc cmpThr out):Asc cmpThr (stepE env t out e):=by
 unfold stepE
 split
 ·split
  ·exact insL_asc cmp3Thr h
  ·exact h
 ·exact h
theorem fold_stepE {env:List Sg} {t:ThrD}:∀ (es:List EdgeD) (out:List ThrD),Asc cmpThr out→Asc cmpThr (es.foldl (stepE env t) out)∧∀ y,y∈es.foldl (stepE env t) out↔y∈out∨∃ e∈es,e.fr=t.state∧y.state=e.to∧takeS e t.env env=some y.env:=by
 intro es
 induction es with
 | nil=>intro out h;exact⟨h,fun y=>by simp⟩
 | cons e es ih =>
  intro out h
  rw[List.foldl_cons]
  obtain⟨h1,h2⟩:=ih _ (asc_stepE (t:=t) (e:=e) (env:=env) h)
  refine⟨h1,fun y=>?_⟩
  rw[h2,mem_stepE]
  simp only[List.mem_cons,exists_eq_or_imp,or_assoc]
theorem stepTo_facts (n:NfaD) (env:List Sg) (l:List ThrD):Asc cmpThr (stepTo n env l l.length)∧∀ y,y∈stepTo n env l l.length↔∃ t∈l,∃ e∈n.edges,e.fr=t.state∧y.state=e.to∧takeS e t.env env=some y.env:=by
 unfold stepTo stepT
 rw[List.take_length,List.take_length]
 have:∀ (l:List ThrD) (out:List ThrD),Asc cmpThr out→Asc cmpThr (l.foldl (fun out t=>n.edges.foldl (stepE env t) out) out)∧∀ y,y∈l.foldl (fun out t=>n.edges.foldl (stepE env t) out) out↔y∈out∨∃ t∈l,∃ e∈n.edges,e.fr=t.state∧y.state=e.to∧takeS e t.env env=some y.env:=by
  intro l
  induction l with
  | nil=>intro out h;exact⟨h,fun y=>by simp⟩
  | cons t l ih =>
   intro out h
   rw[List.foldl_cons]
   obtain⟨h1,h2⟩:=fold_stepE (env:=env) (t:=t) n.edges out h
   obtain⟨h3,h4⟩:=ih _ h1
   refine⟨h3,fun y=>?_⟩
   rw[h4,h2]
   simp only[List.mem_cons,exists_eq_or_imp,or_assoc]
 obtain⟨h1,h2⟩:=this l [] (by simp[Asc])
 exact⟨h1,fun y=>by rw[h2];simp⟩
theorem valN_rng (e:Ex) (loc env:List Sg):0≤valN e loc env∧valN e loc env≤65535:=by
 unfold valN evalS
 split
 ·exact⟨Int.le_refl 0,by decide⟩
 ·split
  ·exact⟨Int.le_refl 0,by decide⟩
  ·rename_i hv _
   have hv:validS e=0:=Decidable.of_not_not hv
   have hf:firstE e.nodes=0:=by
    unfold validS at hv
    split at hv
    ·omega
    ·exact hv
   have:=rng_value (loc++env++extN e) e (firstE_zero _ hf)
   exact⟨this.1,Int.le_of_lt_add_one this.2⟩
def LocOk (l:List Sg):Prop:=ascS l∧∀ x∈l,0≤x.2∧x.2≤65535
theorem localsB_iff {l:List Sg}:localsB l=true↔LocOk l:=by
 have key:localsB l=true↔∀ i,i < l.length→0≤(l.getD i (.empty,0)).2∧(l.getD i (.empty,0)).2≤65535∧(0 < i→cmpB (l.getD (i - 1) (.empty,0)).1 (l.getD i (.empty,0)).1 < 0):=by
  unfold localsB locB;simp only[List.all_eq_true,List.mem_range,decide_eq_true_eq]
 rw[key]
 constructor
 ·intro h
  refine⟨?_,fun x hx=>?_⟩
  ·unfold ascS
   rw[List.pairwise_iff_getElem]
   intro i j hi hj hij
   have step:∀ d,0 < d→i+d < l.length→cmpB (l.getD i (.empty,0)).1 (l.getD (i+d) (.empty,0)).1 < 0:=by
    intro d
    induction d with
    | zero=>intro h0;omega
    | succ d ih =>
     intro _ hd
     have h2:=(h (i+d+1) (by omega)).2.2 (by omega)
     rw[show i+d+1 - 1=i+d by omega] at h2
     rw[← Nat.add_assoc]
     rcases Nat.eq_zero_or_pos d with h0 | h0
     ·subst h0;exact h2
     ·exact cmp3B.trans _ _ _ (ih h0 (by omega)) h2
   have h1:=step (j - i) (by omega) (by omega)
   rw[show i+(j - i)=j by omega] at h1
   simpa only [List.getD_eq_getElem?_getD,List.getElem?_eq_getElem hi,List.getElem?_eq_getElem hj,Option.getD_some] using h1
  ·obtain⟨i,hi,rfl⟩:=List.getElem_of_mem hx
   have:=h i hi
   simp only[List.getD_eq_getElem?_getD,List.getElem?_eq_getElem hi,Option.getD_some] at this
   exact⟨this.1,this.2.1⟩
 ·rintro ⟨h1,h2⟩ i hi
  unfold ascS at h1
  rw[List.pairwise_iff_getElem] at h1
  simp only[List.getD_eq_getElem?_getD,List.getElem?_eq_getElem hi,Option.getD_some]
  refine⟨(h2 _ (List.getElem_mem hi)).1,(h2 _ (List.getElem_mem hi)).2,fun h0=>?_⟩
  have:=h1 (i - 1) i (by omega) hi (by omega)
  rw[List.getElem?_eq_getElem (by omega)]
  exact this
theorem LocOk.put {l:List Sg} (h:LocOk l) {nm:ByteArray} {v:Int} (hv:0≤v∧v≤65535):LocOk (putS l nm v):=by
 refine⟨putS_asc h.1,fun x hx=>?_⟩
 rcases putS_mem hx with rfl | hx
 ·exact hv
 ·exact h.2 x hx
theorem setsTo_succ (l:List BindD) (env loc:List Sg) {k:Nat} (h:k < l.length):setsTo l env loc (k+1)=putS (setsTo l env loc k) (l[k]'h).name (valN (l[k]'h).expr (setsTo l env loc k) env):=by
 unfold setsTo;rw[List.take_succ_eq_append_getElem h,List.foldl_append];rfl
theorem setsTo_ok (l:List BindD) (env loc:List Sg) (h:LocOk loc):∀ k,k≤l.length→LocOk (setsTo l env loc k):=by
 intro k
 induction k with
 | zero=>intro _;simpa [setsTo] using h
 | succ k ih=>intro hk;rw[setsTo_succ l env loc hk];exact(ih (by omega)).put (valN_rng _ _ _)
theorem takeS_ok {e:EdgeD} {loc env r:List Sg} (h:takeS e loc env=some r) (hl:LocOk loc):LocOk r:=by
 rw[takeS_iff] at h
 rw[← h.2];exact setsTo_ok _ _ _ hl _ (Nat.le_refl _)
def accE (n:NfaD) (l:List ThrD):List (List Sg):=(acceptS n l).foldl (fun es t=>insL cmpEnv es t.env) []
noncomputable def nrunS (n:NfaD):List (List Sg)→List ThrD→Option (List (List (List Sg)))
 | [],_=>some []
 | env::r,l=>if (nstepS n l env).2=0 then (nrunS n r (nstepS n l env).1).map (accE n (nstepS n l env).1::·) else none
theorem accE_facts (n:NfaD) (l:List ThrD):Asc cmpEnv (accE n l)∧∀ x,x∈accE n l↔∃ t∈l,t.state∈n.accept∧t.env=x:=by
 unfold accE
 have:∀ (m:List ThrD) (es:List (List Sg)),Asc cmpEnv es→Asc cmpEnv (m.foldl (fun es t=>insL cmpEnv es t.env) es)∧∀ x,x∈m.foldl (fun es t=>insL cmpEnv es t.env) es↔x∈es∨∃ t∈m,t.env=x:=by
  intro m
  induction m with
  | nil=>intro es h;exact⟨h,fun x=>by simp⟩
  | cons t m ih =>
   intro es h
   rw[List.foldl_cons]
   obtain⟨h1,h2⟩:=ih _ (insL_asc cmp3Env h (t:=t.env))
   refine⟨h1,fun x=>?_⟩
   rw[h2,mem_insL cmp3Env]
   simp only[List.mem_cons,exists_eq_or_imp]
   constructor
   ·rintro ((rfl | h) | h)
    ·exact Or.inr (Or.inl rfl)
    ·exact Or.inl h
    ·exact Or.inr (Or.inr h)
   ·rintro (h | rfl | h)
    ·exact Or.inl (Or.inr h)
    ·exact Or.inl (Or.inl rfl)
    ·exact Or.inr h
 obtain⟨h1,h2⟩:=this (acceptS n l) [] (by simp[Asc])
 refine⟨h1,fun x=>?_⟩
 rw[h2]
 simp only[List.not_mem_nil,false_or,acceptS,List.mem_filter,List.contains_iff_mem,and_assoc]
structure ThrInv (n:NfaD) (l:List ThrD):Prop where
 asc:Asc cmpThr l
 ok:∀ t∈l,(0≤t.state∧t.state < n.states)∧LocOk t.env∧Rch (thereL n) 0 t.state.toNat
theorem thr_start {n:NfaD} (h:nfaOk n=true):ThrInv n [⟨0,[]⟩]:=by
 refine⟨by simp[Asc],fun t ht=>?_⟩
 obtain rfl:=List.mem_singleton.1 ht
 have:=(nfaOk_iff.1 h).1
 exact⟨⟨Int.le_refl 0,by simp only;omega⟩,⟨by simp[ascS],fun x hx=>by cases hx⟩,Rch.refl 0⟩
theorem ThrInv.all {n:NfaD} {l:List ThrD} (h:ThrInv n l):l.all (thrOk n)=true:=by
 rw[List.all_eq_true]
 intro t ht
 have:=h.ok t ht
 simp only[thrOk,Bool.and_eq_true,decide_eq_true_eq]
 exact⟨this.1,localsB_iff.2 this.2.1⟩
theorem ThrInv.step {n:NfaD} {l:List ThrD} (h:ThrInv n l) (hn:nfaOk n=true) (env:List Sg):ThrInv n (stepTo n env l l.length):=by
 obtain⟨h1,h2⟩:=stepTo_facts n env l
 refine⟨h1,fun y hy=>?_⟩
 obtain⟨t,ht,e,he,h3,h4,h5⟩:=(h2 y).1 hy
 have hok:=(edgeOk_iff.1 ((nfaOk_iff.1 hn).2.1 e he)).1
 have hti:=h.ok t ht
 refine⟨by rw[h4];exact hok.2.2,takeS_ok h5 hti.2.1,?_⟩
 refine hti.2.2.step (List.mem_map.2 ⟨e,he,?_⟩)
 rw[h3,h4]
theorem nstepS_of {n:NfaD} {l:List ThrD} (h:ThrInv n l) (hn:nfaOk n=true) (env:List Sg):nstepS n l env=if 256 < (stepTo n env l l.length).length then ([],2) else (stepTo n env l l.length,0):=by
 unfold nstepS
 rw[if_neg (by rw[hn];simp),if_neg (by rw[h.all];simp)]
section
variable {n : NfaD}
def mapT (n:NfaD) (l:List ThrD):List ThrD:=l.filterMap fun t=>if keptS (aheadS n) (behindS n) t.state.toNat then some ⟨(numK (aheadS n) (behindS n) t.state.toNat:Nat),t.env⟩ else none
theorem mem_mapT {l:List ThrD} {y:ThrD}:y∈mapT n l↔∃ t∈l,keptS (aheadS n) (behindS n) t.state.toNat=true∧y.state=(numK (aheadS n) (behindS n) t.state.toNat:Nat)∧y.env=t.env:=by
 unfold mapT
 rw[List.mem_filterMap]
 constructor
 ·rintro ⟨t,ht,h⟩
  split at h
  ·rename_i hk
   obtain rfl:=Option.some.inj h
   exact⟨t,ht,hk,rfl,rfl⟩
  ·simp at h
 ·rintro ⟨t,ht,hk,h1,h2⟩
  refine⟨t,ht,?_⟩
  rw[if_pos hk]
  cases y
  simp only at h1 h2
  rw[h1,h2]
theorem cmpThr_state {x y:ThrD}:cmpThr x y < 0↔x.state < y.state∨(x.state=y.state∧cmpEnv x.env y.env < 0):=by
 unfold cmpThr orZ
 by_cases h:x.state=y.state
 ·rw[if_pos ((cmp3I.zero _ _).2 h),h];simp
 ·rw[if_neg (fun e=>h ((cmp3I.zero _ _).1 e))]
  unfold Lib.compareInt
  repeat' split
  all_goals (simp only[h,false_and,or_false];omega)
theorem asc_mapT {l:List ThrD} (hs:∀ t∈l,0≤t.state) (h:Asc cmpThr l):Asc cmpThr (mapT n l):=by
 unfold mapT Asc
 rw[List.pairwise_filterMap]
 refine List.Pairwise.imp_of_mem ?_ h
 intro x y hx hy hxy u hu v hv
 have h0:=hs x hx
 have h1:=hs y hy
 split at hu
 ·rename_i kx
  split at hv
  ·rename_i ky
   obtain rfl:=Option.some.inj hu
   obtain rfl:=Option.some.inj hv
   rw[cmpThr_state] at hxy⊢
   simp only
   rcases hxy with h2 | ⟨h2,h3⟩
   ·have:=numK_lt (a:=aheadS n) (b:=behindS n) (show x.state.toNat < y.state.toNat by omega) kx
    left;omega
   ·right;rw[h2];exact⟨rfl,h3⟩
  ·simp at hv
 ·simp at hu
theorem step_mapT (hn:nfaOk n=true) (h0:∃ q∈n.accept,Rch (thereL n) 0 q.toNat) {l:List ThrD} (hl:ThrInv n l) (env:List Sg):stepTo (trimAB n (aheadS n) (behindS n)) env (mapT n l) (mapT n l).length=mapT n (stepTo n env l l.length):=by
 have hi:=hl.step hn env
 obtain⟨h1,h2⟩:=stepTo_facts (trimAB n (aheadS n) (behindS n)) env (mapT n l)
 obtain⟨_,h3⟩:=stepTo_facts n env l
 refine asc_ext cmp3Thr h1 (asc_mapT (fun t ht=>(hi.ok t ht).1.1) hi.asc) fun y=>?_
 rw[h2,mem_mapT]
 constructor
 ·rintro ⟨t',ht',e',he',g1,g2,g3⟩
  obtain⟨t,ht,k1,k2,k3⟩:=mem_mapT.1 ht'
  obtain⟨e,he,rfl⟩:=List.mem_map.1 he'
  obtain⟨hm,hg⟩:=List.mem_filter.1 he
  have hgd:=(good_iff hn).1 hg
  have hok:=(edgeOk_iff.1 ((nfaOk_iff.1 hn).2.1 e hm)).1
  have hts:=(hl.ok t ht).1.1
  have kf:keptS (aheadS n) (behindS n) e.fr.toNat=true:=(kept_iff hn).2 (Or.inr hgd.1)
  have heq:e.fr.toNat=t.state.toNat:=numK_inj kf k1 (by
   rw[k2] at g1
   simp only[trimE] at g1
   omega)
  refine⟨⟨e.to,y.env⟩,(h3 _).2 ⟨t,ht,e,hm,by omega,rfl,?_⟩,(kept_iff hn).2 (Or.inr hgd.2),g2,rfl⟩
  rw[← k3];exact g3
 ·rintro ⟨t2,ht2,k1,k2,k3⟩
  obtain⟨t,ht,e,he,g1,g2,g3⟩:=(h3 t2).1 ht2
  have hto:∃ q∈n.accept,Rch (thereL n) e.to.toNat q.toNat:=by
   rcases (kept_iff hn).1 k1 with hk | hk
   ·rw[g2] at hk;rw[hk];exact h0
   ·rw[g2] at hk;exact hk.2
  have hp:(e.fr.toNat,e.to.toNat)∈thereL n:=List.mem_map.2 ⟨e,he,rfl⟩
  have ht0:=(hl.ok t ht).2.2
  have hfr:Rch (thereL n) 0 e.fr.toNat:=by rw[g1];exact ht0
  have hfq:∃ q∈n.accept,Rch (thereL n) e.fr.toNat q.toNat:=by
   obtain⟨q,q1,q2⟩:=hto
   exact⟨q,q1,q2.head hp⟩
  refine⟨⟨(numK (aheadS n) (behindS n) t.state.toNat:Nat),t.env⟩,mem_mapT.2 ⟨t,ht,(kept_iff hn).2 (Or.inr ⟨ht0,by rw[← g1];exact hfq⟩),rfl,rfl⟩,trimE (aheadS n) (behindS n) e,List.mem_map.2 ⟨e,List.mem_filter.2 ⟨he,(good_iff hn).2 ⟨⟨hfr,hfq⟩,hfr.step hp,hto⟩⟩,rfl⟩,?_,?_,?_⟩
  ·simp only[trimE,g1]
  ·rw[k2,g2];rfl
  ·rw[k3];exact g3
theorem acc_mapT (hn:nfaOk n=true) {l:List ThrD} (hl:ThrInv n l):accE (trimAB n (aheadS n) (behindS n)) (mapT n l)=accE n l:=by
 obtain⟨h1,h2⟩:=accE_facts (trimAB n (aheadS n) (behindS n)) (mapT n l)
 obtain⟨h3,h4⟩:=accE_facts n l
 have hacc:=(accB_iff.1 (nfaOk_iff.1 hn).2.2).1
 refine asc_ext cmp3Env h1 h3 fun x=>?_
 rw[h2,h4]
 constructor
 ·rintro ⟨t',ht',g1,rfl⟩
  obtain⟨t,ht,k1,k2,k3⟩:=mem_mapT.1 ht'
  obtain⟨q,hq,g2⟩:=List.mem_map.1 g1
  obtain⟨hq,kq⟩:=List.mem_filter.1 hq
  have hts:=(hl.ok t ht).1.1
  have hqs:=(hacc q hq).1
  have:q.toNat=t.state.toNat:=numK_inj kq k1 (by rw[k2] at g2;omega)
  refine⟨t,ht,?_,k3.symm⟩
  rw[show t.state=q by omega];exact hq
 ·rintro ⟨t,ht,g1,rfl⟩
  have hk:keptS (aheadS n) (behindS n) t.state.toNat=true:=(kept_iff hn).2 (Or.inr ⟨(hl.ok t ht).2.2,t.state,g1,Rch.refl _⟩)
  exact⟨⟨(numK (aheadS n) (behindS n) t.state.toNat:Nat),t.env⟩,mem_mapT.2 ⟨t,ht,hk,rfl,rfl⟩,List.mem_map.2 ⟨t.state,List.mem_filter.2 ⟨g1,hk⟩,rfl⟩,rfl⟩
theorem nrunS_nil (m:NfaD) (hm:nfaOk m=true):∀ envs:List (List Sg),nrunS m envs []=some (envs.map fun _=>[]):=by
 intro envs
 induction envs with
 | nil=>rfl
 | cons env r ih =>
  have hs:nstepS m [] env=([],0):=by
   unfold nstepS
   rw[if_neg (by rw[hm];simp)]
   simp[stepTo]
  rw[nrunS,hs,if_pos rfl,ih]
  simp[accE,acceptS]
theorem run_trim (hn:nfaOk n=true) (envs:List (List Sg)) {A:List (List (List Sg))} (h:nrunS n envs [⟨0,[]⟩]=some A):nrunS (trimS n) envs [⟨0,[]⟩]=some A:=by
 have hT:=trim_ok hn
 have e0:trimS n=trimAB n (aheadS n) (behindS n):=by unfold trimS;rw[if_pos hn]
 rw[e0]
 by_cases h0:∃ q∈n.accept,Rch (thereL n) 0 q.toNat
 ·have key:∀ (envs:List (List Sg)) (l:List ThrD),ThrInv n l→∀ A,nrunS n envs l=some A→nrunS (trimAB n (aheadS n) (behindS n)) envs (mapT n l)=some A:=by
   intro envs
   induction envs with
   | nil=>intro l _ A h;exact h
   | cons env r ih =>
    intro l hl A h
    have hTi:ThrInv (trimAB n (aheadS n) (behindS n)) (mapT n l):=by
     refine⟨asc_mapT (fun t ht=>(hl.ok t ht).1.1) hl.asc,fun y hy=>?_⟩
     obtain⟨t,ht,k1,k2,k3⟩:=mem_mapT.1 hy
     have hti:=hl.ok t ht
     have hlt:=numK_lt (a:=aheadS n) (b:=behindS n) (show t.state.toNat < n.states.toNat by omega) k1
     have hq:∃ q∈n.accept,Rch (thereL n) t.state.toNat q.toNat:=by
      rcases (kept_iff hn).1 k1 with hk | hk
      ·rw[hk];exact h0
      ·exact hk.2
     refine⟨?_,by rw[k3];exact hti.2.1,?_⟩
     ·rw[k2];simp only[trimAB];omega
     ·rw[k2,Int.toNat_natCast];exact(trim_use hn hti.2.2 hq).1
    rw[nrunS,nstepS_of hl hn] at h
    rw[nrunS,nstepS_of hTi hT,step_mapT hn h0 hl env]
    by_cases hbig:256 < (stepTo n env l l.length).length
    ·rw[if_pos hbig] at h;simp at h
    ·rw[if_neg hbig] at h
     have hlen:(mapT n (stepTo n env l l.length)).length≤(stepTo n env l l.length).length:=List.length_filterMap_le _ _
     have hbig2:¬ 256 < (mapT n (stepTo n env l l.length)).length:=by omega
     rw[if_neg hbig2,if_pos rfl]
     rw[if_pos rfl] at h
     obtain⟨A',hA,rfl⟩:=Option.map_eq_some_iff.1 h
     rw[ih _ (hl.step hn env) A' hA,acc_mapT hn (hl.step hn env)]
     rfl
  have hm:mapT n [⟨0,[]⟩]=[⟨0,[]⟩]:=by
   unfold mapT
   simp[kept_zero,numK_zero]
  rw[← hm]
  exact key envs _ (thr_start hn) A h
 ·
  have hA:∀ (envs:List (List Sg)) (l:List ThrD),ThrInv n l→∀ A,nrunS n envs l=some A→A=envs.map fun _=>[]:=by
   intro envs
   induction envs with
   | nil=>intro l _ A h;rw[nrunS] at h;exact(Option.some.inj h).symm
   | cons env r ih =>
    intro l hl A h
    rw[nrunS,nstepS_of hl hn] at h
    by_cases hbig:256 < (stepTo n env l l.length).length
    ·rw[if_pos hbig] at h;simp at h
    ·rw[if_neg hbig,if_pos rfl] at h
     obtain⟨A',hA,rfl⟩:=Option.map_eq_some_iff.1 h
     have hi:=hl.step hn env
     rw[ih _ hi A' hA]
     have:accE n (stepTo n env l l.length)=[]:=by
      rw[List.eq_nil_iff_forall_not_mem]
      intro x hx
      obtain⟨t,ht,g1,_⟩:=((accE_facts n _).2 x).1 hx
      exact h0 ⟨t.state,g1,(hi.ok t ht).2.2⟩
     simp[this]
  rw[hA envs _ (thr_start hn) A h]
  cases envs with
  | nil=>rfl
  | cons env r =>
   have hno:(trimAB n (aheadS n) (behindS n)).edges=[]:=by
    show List.map _ (List.filter _ _)=[]
    rw[List.map_eq_nil_iff,List.filter_eq_nil_iff]
    intro e _ hg
    obtain⟨⟨g1,q,g2,g3⟩,_⟩:=(good_iff hn).1 hg
    exact h0 ⟨q,g2,g1.trans g3⟩
   have hs:stepTo (trimAB n (aheadS n) (behindS n)) env [⟨0,[]⟩] 1=[]:=by
    simp[stepTo,stepT,hno]
   rw[nrunS,nstepS_of (thr_start hT) hT]
   rw[show ([⟨0,[]⟩]:List ThrD).length=1 from rfl,hs]
   simp only[List.length_nil,Nat.not_lt_zero,if_false,if_true]
   rw[nrunS_nil _ hT]
   simp[accE,acceptS]
end
end Go.Proofs.YthojpomoflhbcaaGreatDoor
namespace Go.Proofs.YthojpomoflhbcaaGreatDoor
open Go.RowKit
attribute [local go_sem ↓] Go.wp_at_zero Go.wp_at_succ
theorem bytesLess_decN:∀ (x y:List UInt8),Op.bytesLess x y=decide (x < y)
 | [],[]=>by simp[Op.bytesLess]
 | [],_::_=>by simp[Op.bytesLess]
 | _::_,[]=>by simp[Op.bytesLess]
 | a::x,b::y=>by
  rw[Op.bytesLess,bytesLess_decN x y]
  by_cases h:a < b
  ·simp[h,List.cons_lt_cons_iff]
  ·by_cases h2:a=b
   ·subst h2;simp[List.cons_lt_cons_iff]
   ·simp[h,h2,List.cons_lt_cons_iff]
theorem cmpB_less (a b:ByteArray):Op.bytesLess a.toList b.toList=decide (cmpB a b < 0):=by
 rw[bytesLess_decN,ByteArray.toList_eq,ByteArray.toList_eq]
 rcases cmpB_cases a b with ⟨h1,h2⟩ | ⟨h1,h2⟩ | ⟨h1,h2⟩
 ·rw[h1];simp[h2]
 ·subst h2;rw[h1];simp
 ·rw[h1]
  have:¬ a.data.toList < b.data.toList:=fun h=>List.lt_asymm h h2
  simp[this]
theorem locB_le {l:List Sg} {k m:Nat} (h:locB l m=true) (hk:k≤m):locB l k=true:=by
 unfold locB at h⊢
 rw[List.all_eq_true] at h⊢
 intro i hi
 exact h i (List.mem_range.2 (by have:=List.mem_range.1 hi;omega))
theorem locB_no {l:List Sg} {k m:Nat} (hk:k < m) (h:decide (0≤(l.getD k (.empty,0)).2∧(l.getD k (.empty,0)).2≤65535∧(0 < k→cmpB (l.getD (k - 1) (.empty,0)).1 (l.getD k (.empty,0)).1 < 0))=false):locB l m=false:=by
 cases e:locB l m with
 | false=>rfl
 | true =>
  have:=locB_le e (show k+1≤m by omega)
  rw[locB_succ,h] at this
  simp at this
set_option maxHeartbeats 8000000 in
set_option maxRecDepth 100000 in
theorem nsorted_any (l:List Sg) (a:Option Addr) (c:Nat) (w:World) (h:SigsIn w l a c):Calls Tryz.prog 48 #[.slice a l.length c] w fun e w'=>e=.returned (.bool (localsB l))∧Below w.heap.size w w':=by
 have H:=Lib.hid h
 have hlen:=h.2.1
 have HA:Hid (l.length=0∨∃ b off,a=some ⟨b,off,none⟩):=SliceIn.addr h
 have HN:Hid (∀ k (hk:k < l.length),decide (0≤(l[k]'hk).2∧(l[k]'hk).2≤65535∧(0 < k→cmpB (l.getD (k - 1) (.empty,0)).1 (l[k]'hk).1 < 0))=false→localsB l=false):=fun k hk hd=>by
  refine locB_no hk ?_
  rw[List.getD_eq_getElem?_getD (l:=l) (i:=k),List.getElem?_eq_getElem hk,Option.getD_some];exact hd
 have HY:Hid (∀ k (hk:k < l.length),locB l k=true→decide (0≤(l[k]'hk).2∧(l[k]'hk).2≤65535∧(0 < k→cmpB (l.getD (k - 1) (.empty,0)).1 (l[k]'hk).1 < 0))=true→locB l (k+1)=true):=fun k hk h1 hd=>by
  rw[locB_succ,h1,List.getD_eq_getElem?_getD (l:=l) (i:=k),List.getElem?_eq_getElem hk,Option.getD_some,hd];rfl
 have HE:Hid (localsB l=locB l l.length):=rfl
 generalize localsB l=R at HN HE⊢
 clear h
 go_enter Tryz.func48, Tryz.ntmps48
 go_wp2_with fail
 go_loopw [7,3,4] (fun i _ _ wr=>∃ k:Nat,i=.int .i64 k∧k≤l.length∧Hid (locB l k=true)∧Hid (Below w.heap.size w wr)) (fun i _ _ _=>l.length - (intOf i).toNat)
 case atStart=>exact⟨0,rfl,Nat.zero_le _,rfl,Below.refl _ _⟩
 case round =>
  obtain⟨k,rfl,hk,HL,HBr⟩:=hrel
  have hzr:=HBr.out.size
  by_cases hlt:k < l.length
  ·obtain⟨b,off,ha⟩:=HA.out.resolve_left (by omega)
   subst ha
   obtain⟨g0,g1⟩:=sgE_get H.out rfl hlt
   have c0:=keeps_of_below HBr.out _ _ g0
   have c1:=keeps_of_below HBr.out _ _ g1
   have HN1:=Lib.hid (HN.out k hlt)
   have HY1:=Lib.hid (HY.out k hlt HL.out)
   have HPv:Hid (0 < k→wr.cell? ⟨b,off+(k - 1) * 2,none⟩=some (.string (l.getD (k - 1) (.empty,0)).1)):=fun h0=>by
    have hk1:k - 1 < l.length:=by omega
    have:=keeps_of_below HBr.out _ _ (sgE_get H.out rfl hk1).1
    rw[List.getD_eq_getElem?_getD,List.getElem?_eq_getElem hk1,Option.getD_some];exact this
   generalize (l[k]'hlt)=x at c0 c1 HN1 HY1
   generalize (l.getD (k - 1) (.empty,0)).1=pn at HN1 HY1 HPv
   obtain⟨nm,v⟩:=x
   simp only at c0 c1 HN1 HY1
   clear g0 g1
   by_cases h1:v < 0
   ·have hd1:decide (v < 0)=true:=decide_eq_true h1
    obtain rfl:R=false:=HN1.out (decide_eq_false (by omega))
    go_upto_region 4 with fail
    go_quiet (fail)
    go_wp2_with fail
    go_ret
    exact⟨rfl,bel⟩
   ·have hd1:decide (v < 0)=false:=decide_eq_false h1
    by_cases h2:65535 < v
    ·have hd2:decide (65535 < v)=true:=decide_eq_true h2
     obtain rfl:R=false:=HN1.out (decide_eq_false (by omega))
     go_upto_region 4 with fail
     go_quiet (fail)
     go_wp2_with fail
     go_ret
     exact⟨rfl,bel⟩
    ·have hd2:decide (65535 < v)=false:=decide_eq_false h2
     by_cases h0:k=0
     ·subst h0
      rw[Nat.zero_mul,Nat.add_zero] at c0 c1
      have HL1:=Lib.hid (HY1.out (decide_eq_true ⟨by omega,by omega,fun h=>absurd h (by omega)⟩))
      go_upto_region 4 with fail
      go_quiet (fail)
      go_wp2_with fail
      go_roundw
      case rel=>exact⟨1,by go_num,by omega,HL1.out,bel⟩
      case measure=>(simp[intOf];try omega)
     ·have h0':0 < k:=by omega
      have cp:=HPv.out h0'
      have hd0:decide ((0:Int) < (k:Int))=true:=decide_eq_true (by omega)
      have hd3:decide (0 < k)=true:=decide_eq_true h0'
      have HLs:=Lib.hid (cmpB_less pn nm)
      obtain⟨k1,rfl⟩:∃ k1,k=k1+1:=⟨k - 1,by omega⟩
      rw[Nat.add_sub_cancel] at cp
      have e2:IntKind.i64.wrap (k1:Int)=(k1:Int):=by rw[IntKind.wrap_i64];omega
      have CP:∀ o,(wr.alloc o).cell? ⟨b,off+k1 * 2,none⟩=some (.string pn):=fun o=>Lib.cell?_alloc_some _ cp
      have hk1:k1 < l.length:=by omega
      by_cases hc:cmpB pn nm < 0
      ·have hlt2:Op.bytesLess pn.toList nm.toList=true:=by rw[HLs.out];exact decide_eq_true hc
       have HL1:=Lib.hid (HY1.out (decide_eq_true ⟨by omega,by omega,fun _=>hc⟩))
       clear hc
       go_upto_region 4 with fail
       go_quiet (fail)
       go_wp2_with fail
       go_roundw
       case rel=>exact⟨k1+1+1,by go_num,by omega,HL1.out,bel⟩
       case measure=>(simp[intOf];try omega)
      ·have hlt2:Op.bytesLess pn.toList nm.toList=false:=by rw[HLs.out];exact decide_eq_false hc
       obtain rfl:R=false:=HN1.out (decide_eq_false (by rintro ⟨_,_,h⟩;exact hc (h (by omega))))
       clear hc
       go_upto_region 4 with fail
       go_quiet (fail)
       go_wp2_with fail
       go_ret
       exact⟨rfl,bel⟩
  ·obtain rfl:k=l.length:=by omega
   obtain rfl:R=true:=by rw[HE.out];exact HL.out
   go_wp2_with fail
   go_ret
   exact⟨rfl,HBr.out⟩
end Go.Proofs.YthojpomoflhbcaaGreatDoor
namespace Go.Proofs.YthojpomoflhbcaaGreatDoor
open Go.RowKit
attribute [local go_sem ↓] Go.wp_at_zero Go.wp_at_succ
theorem thE_get {w:World} {l:List ThrD} {a:Option Addr} {cap:Nat} (h:thE.In w l a cap) {b off:Nat} (ha:a=some ⟨b,off,none⟩) {i:Nat} (hi:i < l.length):∃ xa xc,w.cell? ⟨b,off+i * 2,none⟩=some (.int .i64 (l[i]'hi).state)∧w.cell? ⟨b,off+i * 2+1,none⟩=some (.slice xa (l[i]'hi).env.length xc)∧SigsIn w (l[i]'hi).env xa xc:=by
 obtain⟨vs,⟨xa,xc,rfl,h1⟩,hc⟩:=h.get ha hi
 exact⟨xa,xc,hc 0 _ rfl,hc 1 _ rfl,h1⟩
def BPred {τ:Type} (E:Enc τ) (g:FuncId) (tv:Value) (cf:τ→Int) (K:World→Prop):Prop :=
 ∀ (W:World) (x:τ) (vs:List Value),K W→E.R W x vs→Calls Tryz.prog g #[.agg vs.toArray,tv] W fun e W'=>e=.returned (.int .i64 (cf x))∧Below W.heap.size W W'
theorem countP_cut {α:Type} (p:α→Bool):∀ (l:List α) (i:Nat) (hi:i≤l.length),(∀ t (ht:t < l.length),t < i→p (l[t]'ht)=true)→(∀ t (ht:t < l.length),i≤t→p (l[t]'ht)=false)→l.countP p=i:=by
 intro l
 induction l with
 | nil=>intro i hi _ _;simp at hi;simp[hi]
 | cons a l ih =>
  intro i hi h1 h2
  cases i with
  | zero =>
   rw[List.countP_eq_zero]
   intro x hx
   obtain⟨t,ht,rfl⟩:=List.getElem_of_mem hx
   rw[h2 t ht (Nat.zero_le _)];simp
  | succ i =>
   have ha:p a=true:=h1 0 (by simp) (by omega)
   rw[List.countP_cons_of_pos ha,ih i (by simpa using hi) (fun t ht hti=>h1 (t+1) (by simpa using ht) (by omega)) (fun t ht hti=>h2 (t+1) (by simpa using ht) (by omega))]
def bsP {τ:Type} (cf:τ→Int) (l:List τ):Nat:=l.countP fun x=>decide (cf x < 0)
def bsF {τ:Type} (cf:τ→Int) (l:List τ):Bool:=match l[bsP cf l]? with | some x=>decide (cf x=0) | none=>false
def BsPost {τ:Type} (cf:τ→Int) (l:List τ) (w:World) (e:Ending) (w':World):Prop:=e=.returned (.tuple #[.int .i64 (bsP cf l:Nat),.bool (bsF cf l)])∧Below w.heap.size w w'
set_option maxHeartbeats 8000000 in
set_option maxRecDepth 100000 in
theorem bsearchSG_any (g:FuncId) (eg:∀ args w,(callFunc g args).run Tryz.prog w=.ok (.enter g args) w) (tv:Value) (cf:Sg→Int) (K:World→Prop) (hP:BPred sgE g tv cf K) (hKb:∀ W W',K W→Below W.heap.size W W'→K W') (l:List Sg) (a:Option Addr) (cap:Nat) (w:World) (hE:sgE.In w l a cap) (hK:K w)
  (hmono:∀ i j (hi:i < l.length) (hj:j < l.length),i≤j→cf (l[j]'hj) < 0→cf (l[i]'hi) < 0) :
  Calls Tryz.prog 110 #[.slice a l.length cap,tv,.func (.func g) #[] #[]] w (BsPost cf l w):=by
 have HP:=Lib.hid hP
 have HE:=Lib.hid hE
 have HKb:=Lib.hid hKb
 have HK:=Lib.hid hK
 have HM:=Lib.hid hmono
 have hlen:=hE.len
 have HA:Hid (l.length=0∨∃ b off,a=some ⟨b,off,none⟩):=hE.addr
 have HPo:Hid (∀ i,i≤l.length→(∀ t (ht:t < l.length),t < i→cf (l[t]'ht) < 0)→(∀ t (ht:t < l.length),i≤t→0≤cf (l[t]'ht))→∀ W,Below w.heap.size w W→(∀ (h:i < l.length),BsPost cf l w (.returned (.tuple #[.int .i64 i,.bool (decide (cf (l[i]'h)=0))])) W)∧(¬ i < l.length→BsPost cf l w (.returned (.tuple #[.int .i64 i,.bool false])) W)):=fun i hi h1 h2 W hb=>by
  have e:bsP cf l=i:=countP_cut _ l i hi (fun t ht hti=>decide_eq_true (h1 t ht hti)) (fun t ht hti=>decide_eq_false (by have:=h2 t ht hti;omega))
  refine⟨fun h=>⟨?_,hb⟩,fun h=>⟨?_,hb⟩⟩
  ·unfold bsF;rw[e,List.getElem?_eq_getElem h]
  ·unfold bsF;rw[e,List.getElem?_eq_none (by omega)]
 generalize BsPost cf l w=Po at HPo⊢
 clear hP hE hKb hK hmono
 go_enter Tryz.func110, Tryz.ntmps110
 go_wp2_with fail
 go_loopg [9,10,11] l.length (fun kx s9 s10 _ wr=>∃ lo hi:Nat,s9=.int .i64 lo∧s10=.int .i64 hi∧lo≤hi∧hi≤l.length∧hi - lo≤kx∧Hid ((∀ t (ht:t < l.length),t < lo→cf (l[t]'ht) < 0)∧(∀ t (ht:t < l.length),hi≤t→0≤cf (l[t]'ht)))∧Hid (Below w.heap.size w wr))
 case atStart=>exact⟨0,l.length,rfl,rfl,Nat.zero_le _,Nat.le_refl _,by omega,⟨fun t ht h=>absurd h (by omega),fun t ht h=>absurd h (by omega)⟩,Below.refl _ _⟩
 case round =>
  (try rename World=>wr)
  obtain⟨lo,hi,rfl,rfl,hlh,hin,hg,HI,HBr⟩:=hrel
  have hzr:=HBr.out.size
  by_cases hlt:lo < hi
  ·have hmn:(lo+hi) / 2 < l.length:=by omega
   have hm1:lo≤(lo+hi) / 2:=by omega
   have hm2:(lo+hi) / 2 < hi:=by omega
   have hmi:((lo:Int)+(hi:Int)) / 2 < (l.length:Int):=by omega
   have hltI:(lo:Int) < (hi:Int):=by omega
   obtain⟨b,off,ha⟩:=HA.out.resolve_left (by omega)
   subst ha
   obtain⟨g0,g1⟩:=sgE_get (sgE_in.1 (HE.out.keep (keeps_of_below HBr.out))) rfl hmn
   have HC0:=fun vs hr=>HP.out wr (l[(lo+hi) / 2]'hmn) vs (HKb.out _ _ HK.out HBr.out) hr
   have HY1:Hid (cf (l[(lo+hi) / 2]'hmn) < 0→∀ t (ht:t < l.length),t < (lo+hi) / 2+1→cf (l[t]'ht) < 0):=fun h t ht htm=>HM.out t ((lo+hi) / 2) ht hmn (by omega) h
   have HY2:Hid (¬ cf (l[(lo+hi) / 2]'hmn) < 0→∀ t (ht:t < l.length),(lo+hi) / 2≤t→0≤cf (l[t]'ht)):=fun h t ht htm=>Int.not_lt.1 fun h2=>h (HM.out ((lo+hi) / 2) t hmn ht htm h2)
   generalize (l[(lo+hi) / 2]'hmn)=y at *
   obtain⟨yn,yv⟩:=y;(simp only at g0 g1)
   have hC:=HC0 _ rfl
   have HC:=Lib.hid hC
   clear HC0 hC
   generalize cf _=cv at HC HY1 HY2
   by_cases hcv:cv < 0
   ·have HN:=Lib.hid (HY1.out hcv)
    go_wp2_with (go_at_fn g;go_must (refine HC.out.mono ?_;rintro e w5 ⟨rfl,hb5⟩))
    have HB5:Hid (Below w.heap.size w w5):=HBr.out.trans (hb5.mono hzr)
    go_roundg (hi - ((lo+hi) / 2+1))
    case measure=>omega
    case rel=>exact⟨(lo+hi) / 2+1,hi,by rw[show ((lo:Int)+(hi:Int)) / 2+1=(((lo+hi) / 2+1:Nat):Int) by omega],rfl,by omega,hin,Nat.le_refl _,⟨HN.out,HI.out.2⟩,HB5.out⟩
   ·have HN:=Lib.hid (HY2.out hcv)
    go_wp2_with (go_at_fn g;go_must (refine HC.out.mono ?_;rintro e w5 ⟨rfl,hb5⟩))
    have HB5:Hid (Below w.heap.size w w5):=HBr.out.trans (hb5.mono hzr)
    go_roundg ((lo+hi) / 2 - lo)
    case measure=>omega
    case rel=>exact⟨lo,(lo+hi) / 2,rfl,by rw[show ((lo:Int)+(hi:Int)) / 2=(((lo+hi) / 2:Nat):Int) by omega],by omega,by omega,Nat.le_refl _,⟨HI.out.1,HN.out⟩,HB5.out⟩
  ·obtain rfl:hi=lo:=by omega
   have HF:=Lib.hid (HPo.out hi hin HI.out.1 HI.out.2)
   by_cases hmn:hi < l.length
   ·obtain⟨b,off,ha⟩:=HA.out.resolve_left (by omega)
    subst ha
    obtain⟨g0,g1⟩:=sgE_get (sgE_in.1 (HE.out.keep (keeps_of_below HBr.out))) rfl hmn
    have HC0:=fun vs hr=>HP.out wr (l[hi]'hmn) vs (HKb.out _ _ HK.out HBr.out) hr
    have HF2:Hid (∀ W,Below w.heap.size w W→Po (.returned (.tuple #[.int .i64 hi,.bool (decide (cf (l[hi]'hmn)=0))])) W):=fun W hW=>(HF.out W hW).1 hmn
    clear HF
    generalize (l[hi]'hmn)=y at *
    obtain⟨yn,yv⟩:=y;(simp only at g0 g1)
    have hC:=HC0 _ rfl
    have HC:=Lib.hid hC
    clear HC0 hC
    generalize cf _=cv at HC HF2
    by_cases hcv:cv=0
    ·subst hcv
     go_wp2_with (go_at_fn g;go_must (refine HC.out.mono ?_;rintro e w5 ⟨rfl,hb5⟩))
     have HB5:Hid (Below w.heap.size w w5):=HBr.out.trans (hb5.mono hzr)
     have HF3:=Lib.hid (HF2.out w5 HB5.out)
     first | exact HF3.out | (go_ret2;exact HF3.out)
    ·have hcb:(cv == 0)=false:=by simp[hcv]
     have HF4:Hid (∀ W,Below w.heap.size w W→Po (.returned (.tuple #[.int .i64 hi,.bool false])) W):=fun W hW=>by have:=HF2.out W hW;rwa [decide_eq_false hcv] at this
     go_wp2_with (go_at_fn g;go_must (refine HC.out.mono ?_;rintro e w5 ⟨rfl,hb5⟩))
     have HB5:Hid (Below w.heap.size w w5):=HBr.out.trans (hb5.mono hzr)
     have HF3:=Lib.hid (HF4.out w5 HB5.out)
     first | exact HF3.out | (go_ret2;exact HF3.out)
   ·have HF3:=Lib.hid ((HF.out wr HBr.out).2 hmn)
    have hmnI:¬ (hi:Int) < (l.length:Int):=by omega
    go_wp2_with fail
    first | exact HF3.out | (go_ret2;exact HF3.out)
end Go.Proofs.YthojpomoflhbcaaGreatDoor
namespace Go.Proofs.YthojpomoflhbcaaGreatDoor
open Go.RowKit
section
variable {τ : Type} {E : Enc τ} {w w' : World} {l : List τ} {xs : List Value}
theorem Enc.Vals.take (h:E.Vals w l xs) {i:Nat} (hi:i≤l.length):E.Vals w (l.take i) (xs.take (i * E.sz)):=by
 have hm:i * E.sz≤l.length * E.sz:=Nat.mul_le_mul_right _ hi
 refine⟨by rw[List.length_take,List.length_take,h.1,Nat.min_eq_left hm,Nat.min_eq_left hi],fun k hk=>?_⟩
 rw[List.length_take] at hk
 obtain⟨vs,h1,h2⟩:=h.2 k (by omega)
 rw[List.getElem_take]
 refine⟨vs,h1,fun j v hv=>?_⟩
 have hj:j < vs.length:=(List.getElem?_eq_some_iff.1 hv).1
 rw[E.len h1] at hj
 have hk2:(k+1) * E.sz≤i * E.sz:=Nat.mul_le_mul_right _ (by omega)
 rw[Nat.add_mul] at hk2
 rw[List.getElem?_take_of_lt (by omega)]
 exact h2 j v hv
theorem Enc.Vals.drop (h:E.Vals w l xs) {i:Nat} (hi:i≤l.length):E.Vals w (l.drop i) (xs.drop (i * E.sz)):=by
 refine⟨by rw[List.length_drop,List.length_drop,h.1,Nat.sub_mul],fun k hk=>?_⟩
 rw[List.length_drop] at hk
 obtain⟨vs,h1,h2⟩:=h.2 (i+k) (by omega)
 rw[List.getElem_drop]
 refine⟨vs,h1,fun j v hv=>?_⟩
 rw[List.getElem?_drop,← Nat.add_assoc,← Nat.add_mul]
 exact h2 j v hv
theorem Enc.Vals.ins (h:E.Vals w l xs) {i:Nat} (hi:i≤l.length) {x:τ} {vs:List Value} (hR:E.R w x vs):E.Vals w (l.take i++x::l.drop i) (xs.take (i * E.sz)++(vs++xs.drop (i * E.sz))) :=
 (h.take hi).append ((Enc.Vals.one hR).append (h.drop hi))
end
theorem splice_room {α:Type} (A B R V:List α) (s:Nat) (hV:V.length=s) (hR:s≤R.length):splice (splice ((A++B)++R) (A.length+s) B) A.length V=(A++(V++B))++R.drop s:=by
 subst hV
 have h1:List.take (A.length+V.length) ((A++B)++R)=A++List.take V.length (B++R):=by
  rw[List.append_assoc,List.take_append,List.take_of_length_le (by omega)];simp
 have h2:(List.take V.length (B++R)).length=V.length:=by rw[List.length_take,List.length_append];omega
 have h3:List.drop (A.length+V.length+B.length) ((A++B)++R)=R.drop V.length:=by
  rw[List.append_assoc,List.drop_append,List.drop_eq_nil_of_le (by omega),List.drop_append,List.drop_eq_nil_of_le (by omega)]
  simp;omega
 unfold splice
 rw[h1,h3,List.append_assoc,List.take_left,List.drop_append,List.drop_eq_nil_of_le (by omega),List.drop_append,List.drop_eq_nil_of_le (by omega)]
 rw[show A.length+V.length - A.length - (List.take V.length (B++R)).length=0 by omega]
 simp
theorem splice_grow {α:Type} (A B R V:List α) (s:Nat) (hV:V.length=s) (hR:s+B.length≤R.length):splice (splice (A++R) A.length V) (A.length+s) B=(A++(V++B))++R.drop (s+B.length):=by
 subst hV
 have h0:splice (A++R) A.length V=(A++V)++R.drop V.length:=by
  unfold splice
  rw[List.take_left,List.drop_append,List.drop_eq_nil_of_le (by omega),show A.length+V.length - A.length=V.length by omega]
  simp
 rw[h0]
 unfold splice
 rw[show A.length+V.length=(A++V).length by simp,List.take_left,List.drop_append,List.drop_eq_nil_of_le (by simp),show (A++V).length+B.length - (A++V).length=B.length by omega]
 simp[List.drop_drop]
theorem run_copy_rows {P:Program} (w:World) (dT sT ty elem:TypeId) (size g o dLen dCap:Nat) (a:Addr) (sLen sCap:Nat) (cur:Array Value) (t:TypeId) (cs:List Value) (n:Nat)
  (hu:P.underlying dT=some (.slice elem)) (hs:(P.info? elem).map (·.size)=some size)
  (hg:w.heap[g]? = some (.cells cur t (0,0))) (hn:Nat.min sLen dLen=n) (hcs:cs.length=n * size)
  (hsrc:∀ j v,cs[j]? = some v→w.cell? (a.add j)=some v) (hfit:o+cs.length≤cur.size) (h1:∀ v∈cs,v.oneCell'=true) :
  (Builtin.copy_ #[dT,sT] ty #[.slice (some ⟨g,o,none⟩) dLen dCap,.slice (some a) sLen sCap]).run P w =
   .ok (goInt n) (w.setRow g (cur.toList.take o++cs++cur.toList.drop (o+cs.length)).toArray):=by
 have hl:=run_loadCells_list (P:=P) w a cs hsrc
 have hst:=run_storeCells_at P g o t cs 0 cur w hg (by simpa using hfit) h1
 rw[hcs] at hl
 cases hq:P.info? elem with
 | none=>simp[hq] at hs
 | some i =>
  have hi:i.size=size:=by simpa [hq] using hs
  simp[Builtin.copy_,run_underlying hu,Builtin.lenOf,Builtin.firstCells,sizeOf,typeInfo,hq,hi,hn,hl,hst]
theorem grown_drew (w:World) (row:Option Nat):w.grownBy w.drew row:=⟨rfl,rfl,rfl,Nat.le_refl _,fun _ _ _=>rfl⟩
theorem grown_setRow (w:World) (g:Nat) (c:Array Value):w.grownBy (w.setRow g c) (some g) :=
 ⟨rfl,rfl,rfl,by simp[World.setRow],fun k _ hk=>setRow_other w g k c (fun e=>hk (by rw[e]))⟩
theorem grown_trans {w w1 w2:World} {row:Option Nat} (h:w.grownBy w1 row) (h':w1.grownBy w2 row):w.grownBy w2 row :=
 ⟨h'.os.trans h.os,h'.tape.trans h.tape,h'.output.trans h.output,Nat.le_trans h.size h'.size,fun k hk hn=>(h'.block k (Nat.lt_of_lt_of_le hk h.size) hn).trans (h.block k hk hn)⟩
end Go.Proofs.YthojpomoflhbcaaGreatDoor
