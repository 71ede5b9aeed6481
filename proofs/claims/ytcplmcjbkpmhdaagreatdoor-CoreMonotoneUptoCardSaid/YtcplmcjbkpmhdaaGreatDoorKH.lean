/- What makes a problem valid: plain. -/
import Derived.Test.YtcplmcjbkpmhdaaGreatDoorKG
set_option linter.unusedSimpArgs false
set_option linter.unusedVariables false
set_option linter.unnecessarySimpa false
namespace Go.Proofs.YtcplmcjbkpmhdaaGreatDoor
open Go.RowKit
theorem findV_cases (l:List VarD) (s:ByteArray):(findV l s 0=-1∧∀ i (h:i < l.length),((l[i]'h).name.toList == s.toList)=false)∨(∃ k,∃ h:k < l.length,findV l s 0=(k:Int)∧((l[k]'h).name.toList == s.toList)=true∧∀ i (hi:i < k),((l[i]'(by omega)).name.toList == s.toList)=false):=by
 by_cases h:∃ k,∃ h:k < l.length,((l[k]'h).name.toList == s.toList)=true
 ·have hex:∃ k,∃ h:k < l.length,((l[k]'h).name.toList == s.toList)=true∧∀ i (hi:i < k),((l[i]'(by omega)).name.toList == s.toList)=false:=by
   obtain⟨k,hk⟩:=h
   induction k using Nat.strongRecOn with
   | _ k ih =>
    by_cases he:∃ i,i < k∧∃ h:i < l.length,((l[i]'h).name.toList == s.toList)=true
    ·obtain⟨i,hik,hi⟩:=he
     exact ih i hik hi
    ·obtain⟨hk1,hk2⟩:=hk
     refine⟨k,hk1,hk2,fun i hi=>?_⟩
     cases hc:((l[i]'(by omega)).name.toList == s.toList)
     ·rfl
     ·exact absurd ⟨i,hi,by omega,hc⟩ he
  obtain⟨k,hk,h1,h2⟩:=hex
  have:=findV_at s l k 0 hk (fun i hi=>h2 i hi) h1
  exact Or.inr ⟨k,hk,by simpa using this,h1,h2⟩
 ·have hn:∀ i (h:i < l.length),((l[i]'h).name.toList == s.toList)=false:=fun i hi=>by
   cases hc:((l[i]'hi).name.toList == s.toList)
   ·rfl
   ·exact absurd ⟨i,hi,hc⟩ h
  exact Or.inl ⟨findV_none s l 0 hn,hn⟩
def DupAt (l:List VarD) (i:Nat):Prop:=∃ h:i < l.length,∃ j,∃ hj:j < i,((l[j]'(by omega)).name.toList == (l[i]'h).name.toList)=true
theorem dup_take {l:List VarD} {i:Nat} (h:i < l.length):findV (l.take i) (l[i]'h).name 0 < 0↔¬ DupAt l i:=by
 rcases findV_cases (l.take i) (l[i]'h).name with ⟨h1,h2⟩ | ⟨k,hk,h1,h2,_⟩
 ·rw[h1]
  refine⟨fun _ ⟨_,j,hj,he⟩=>?_,fun _=>by decide⟩
  have:=h2 j (by simp;omega)
  rw[List.getElem_take] at this
  rw[this] at he;simp at he
 ·rw[h1]
  refine⟨fun h=>by omega,fun hn=>absurd ⟨h,k,?_,?_⟩ hn⟩
  ·simp at hk;omega
  ·rw[List.getElem_take] at h2;exact h2
theorem dup_self {l:List VarD} {i:Nat} (h:i < l.length):findV l (l[i]'h).name 0=(i:Int)↔¬ DupAt l i:=by
 rcases findV_cases l (l[i]'h).name with ⟨h1,h2⟩ | ⟨k,hk,h1,h2,h3⟩
 ·have:=h2 i h
  simp at this
 ·rw[h1]
  constructor
  ·intro he ⟨_,j,hj,hd⟩
   have:=h3 j (by omega)
   rw[this] at hd;simp at hd
  ·intro hn
   by_cases e:k=i
   ·rw[e]
   ·exfalso
    by_cases hlt:k < i
    ·exact hn ⟨h,k,hlt,h2⟩
    ·have:=h3 i (by omega)
     simp at this
def widthR (v:VarD):Int:=if v.mode=0 then 0 else v.width
def bitsTo (l:List VarD) (k:Nat):Int:=((l.take k).map widthR).sum
theorem bitsTo_zero (l:List VarD):bitsTo l 0=0:=rfl
theorem bitsTo_succ (l:List VarD) (k:Nat) (h:k < l.length):bitsTo l (k+1)=bitsTo l k+widthR (l[k]'h):=by
 unfold bitsTo
 rw[List.take_succ_eq_append_getElem h,List.map_append,List.sum_append]
 simp
theorem width_of_ok {v:VarD} (h:varOkB v=true):1≤v.width∧v.width≤8:=by
 unfold varOkB varNumsB at h
 simp only[Bool.and_eq_true,decide_eq_true_eq] at h
 exact⟨h.2.1.1.1.1.1.1,h.2.1.1.1.1.1.2⟩
structure VarsOk (l:List VarD):Prop where
 len:l.length≤16
 ok:∀ i (h:i < l.length),varOkB (l[i]'h)=true
 dup:∀ i,i < l.length→¬ DupAt l i
 gap:¬ GapAny l
 bits:bitsTo l l.length≤20
theorem varB_of_ok {v:VarD} (h:varOkB v=true):varB v.name.data.toList=true:=by
 unfold varOkB at h
 rw[Bool.and_eq_true] at h
 exact h.1
theorem VarsIn.take {w:World} {l:List VarD} {a:Option Addr} {cap:Nat} (h:VarsIn w l a cap) (k:Nat):VarsIn w (l.take k) a cap:=by
 have hl:(l.take k).length≤l.length:=by simp;omega
 refine⟨by have:=h.1;omega,by have:=h.2.1;omega,?_⟩
 rcases h.2.2 with h0 | ⟨b,off,ha,hi⟩
 ·exact Or.inl (by omega)
 ·refine Or.inr ⟨b,off,ha,fun i hk=>?_⟩
  obtain⟨v,hv,hp⟩:=hi i (by omega)
  exact⟨v,by rw[List.getElem?_take];rw[if_pos (by simp at hk;omega)];exact hv,hp⟩
def arrN (x:Ex):Bool:=x.op == 3 || x.op == 24
def forN (l:List VarD) (x:Ex):Bool:=x.op == 2 && decide (findV l x.name 0 < 0)
theorem nodes_any (p:Ex→Bool) (e:Ex):e.nodes.any p=(p e || e.args.any fun x=>x.nodes.any p):=by
 rw[Ex.nodes_eq,List.any_cons,List.any_flatten,List.any_map]
 rfl
theorem any_none {p:Ex→Bool} {l:List Ex} (h:∀ j (hj:j < l.length),(l[j]'hj).nodes.any p=false):(l.any fun x=>x.nodes.any p)=false:=by
 rw[List.any_eq_false]
 intro x hx
 obtain⟨j,hj,rfl⟩:=List.getElem_of_mem hx
 rw[h j hj];simp
theorem any_some {p:Ex→Bool} {l:List Ex} {j:Nat} {hj:j < l.length} (h:(l[j]'hj).nodes.any p=true):(l.any fun x=>x.nodes.any p)=true :=
 List.any_eq_true.2 ⟨_,List.getElem_mem hj,h⟩
structure ExprOk (l:List VarD) (e:Ex):Prop where
 valid:validS e=0
 arr:e.nodes.any arrN=false
 names:e.nodes.any (forN l)=false
def RandV (l:List VarD) (i:Int):Prop:=0≤i∧∃ x,l[i.toNat]? = some x∧x.mode≠0
def weightB (w:WeightD):Bool:=decide (0≤w.lo) && decide (w.lo≤w.hi) && decide (w.hi≤65535) && decide (0≤w.weight) && decide (w.weight≤1000)
structure DistOk (l:List VarD) (ds:List DistD) (i:Nat) (d:DistD):Prop where
 var:RandV l d.var
 dup:∀ j (hj:j < ds.length),j < i→(ds[j]'hj).var≠d.var
 len:d.weights.length≤16
 ok:∀ x,x∈d.weights→weightB x=true
def DistsOk (l:List VarD) (ds:List DistD):Prop:=∀ i (h:i < ds.length),DistOk l ds i (ds[i]'h)
structure GroupsOk (l:List VarD) (gs:List (List Int)):Prop where
 ne:∀ g,g∈gs→g≠[]
 range:∀ g,g∈gs→∀ v,v∈g→0≤v∧v < l.length
 count:∀ i (h:i < l.length),(gs.flatten.count (i:Int):Int)=if (l[i]'h).mode=0 then 0 else 1
structure ProbOk (p:ProbD):Prop where
 vars:VarsOk p.vars
 hard:∀ i (h:i < p.hard.length),ExprOk p.vars (p.hard[i]'h)
 soft:∀ i (h:i < p.soft.length),ExprOk p.vars (p.soft[i]'h)
 dists:DistsOk p.vars p.dists
 groups:GroupsOk p.vars p.groups
end Go.Proofs.YtcplmcjbkpmhdaaGreatDoor
namespace Go.Proofs.YtcplmcjbkpmhdaaGreatDoor
open Go.RowKit
set_option maxRecDepth 100000 in
set_option maxHeartbeats 4000000 in
theorem r14variables_any (l:List VarD) (a:Option Addr) (cap:Nat) (w:World) (hE:VarsIn w l a cap) :
  Calls Tryz.prog 71 #[.slice a l.length cap] w fun e w'=>ErrIff (VarsOk l) e∧Below w.heap.size w w':=by
 have hlen:=hE.2.1
 have hcap:=hE.1
 have HA:=Lib.hid hE.addr
 have HE:=Lib.hid hE
 clear hE
 by_cases h16:l.length≤16
 ·go_enter Tryz.func71, Tryz.ntmps71
  go_wp2_with fail
  go_loopw [3,4,5] (fun s i x wr=>∃ k:Nat,i=.int .i64 k∧k≤l.length∧s=.int .i64 (bitsTo l k)∧0≤bitsTo l k∧bitsTo l k≤8 * (k:Int)∧(∀ j (hj:j < l.length),j < k→varOkB (l[j]'hj)=true)∧Below w.heap.size w wr) (fun _ i _ _=>l.length - (intOf i).toNat)
  case atStart=>exact⟨0,rfl,Nat.zero_le _,rfl,by simp[bitsTo_zero],by simp[bitsTo_zero],fun _ _ h=>absurd h (by omega),Below.refl _ _⟩
  case round =>
   obtain⟨k,rfl,hk,rfl,hb0,hb8,hall,hBr⟩:=hrel
   have HAl:=Lib.hid hall
   clear hall
   by_cases hlt:k < l.length
   ·obtain⟨b,off,ha⟩:=HA.out.resolve_left (by omega)
    subst ha
    obtain⟨c0,c1,c2,c3,hsz⟩:=HE.out.get rfl hlt
    have C2:=Lib.hid c2
    have C1:=Lib.hid c1
    have kk:=keeps_of_below hBr
    have c0:=kk _ _ c0
    have c1:=kk _ _ c1
    have c2:=kk _ _ c2
    have c3:=kk _ _ c3
    have HC:=Lib.hid ((r14variable_any (l[k]'hlt) wr hsz).mono fun e w' h=>(⟨h.1,hBr.trans (h.2.mono hBr.size)⟩:_∧Below w.heap.size w w'))
    have HS:=Lib.hid (bitsTo_succ l k hlt)
    have HNo:Hid (varOkB (l[k]'hlt)=false→¬ VarsOk l):=fun hv h=>by have:=h.ok k hlt;rw[hv] at this;simp at this
    have HAn:Hid (varOkB (l[k]'hlt)=true→∀ j (hj:j < l.length),j < k+1→varOkB (l[j]'hj)=true):=fun hv j hj hjk=>by
     by_cases e:j=k
     ·subst e;exact hv
     ·exact HAl.out j hj (by omega)
    generalize (l[k]'hlt)=v at c0 c1 c2 c3 HC HS HNo HAn C1 C2
    cases hv:varOkB v
    ·have HF:=Lib.hid (errF HC.out (by rw[hv];simp))
     have HNo':=Lib.hid (HNo.out hv)
     simp only[varVal] at HF
     clear hBr kk HC HNo HAn
     go_wp2_with (go_at_call 126;refine HF.out.mono ?_;rintro e w1 ⟨⟨n,rfl,hn⟩,hb1⟩;have HB1:=Lib.hid hb1;clear hb1)
     go_ret
     exact⟨.no HNo'.out (by simpa using hn),(by assumption:Hid (Below w.heap.size w _)).out⟩
    ·have HT:=Lib.hid (errT HC.out hv)
     simp only[varVal] at HT
     have hw:=width_of_ok hv
     have HAn':=Lib.hid (HAn.out hv)
     clear hBr kk HC HNo HAn hv
     obtain⟨name,width,mode,value⟩:=v
     by_cases hm:mode=0
     ·subst hm
      have HS':Hid (bitsTo l (k+1)=bitsTo l k):=by show _=_;rw[HS.out];simp[widthR]
      clear HS
      go_wp2_with (go_at_call 126;refine HT.out.mono ?_;rintro e w1 ⟨rfl,hb1⟩;have c2':=(keeps_of_below hb1) _ _ C2.out;have HB1:=Lib.hid hb1;clear hb1)
      go_roundw
      case rel=>exact⟨k+1,by go_num,by omega,by rw[HS'.out],by rw[HS'.out];omega,by rw[HS'.out];omega,HAn'.out,(by assumption:Hid (Below w.heap.size w _)).out⟩
      case measure=>simp[intOf];omega
     ·have HS':Hid (bitsTo l (k+1)=bitsTo l k+width):=by show _=_;rw[HS.out];simp[widthR,hm]
      have hm':(mode != 0)=true:=by simpa using hm
      clear HS hm
      go_wp2_with (go_at_call 126;refine HT.out.mono ?_;rintro e w1 ⟨rfl,hb1⟩;have c2':=(keeps_of_below hb1) _ _ C2.out;have c1':=(keeps_of_below hb1) _ _ C1.out;have HB1:=Lib.hid hb1;clear hb1)
      go_roundw
      case rel=>exact⟨k+1,by go_num,by omega,by rw[HS'.out],by rw[HS'.out];omega,by rw[HS'.out];omega,HAn'.out,(by assumption:Hid (Below w.heap.size w _)).out⟩
      case measure=>simp[intOf];omega
   ·obtain rfl:k=l.length:=by omega
    have HAl':Hid (∀ j (hj:j < l.length),varOkB (l[j]'hj)=true):=fun j hj=>HAl.out j hj hj
    have HBr:=Lib.hid hBr
    clear HAl hBr
    go_wp2_with fail
    go_loopw [6] (fun i wr=>∃ k:Nat,i=.int .i64 k∧k≤l.length∧(∀ j,j < k→¬ DupAt l j)∧Below w.heap.size w wr) (fun i _=>l.length - (intOf i).toNat)
    case atStart=>exact⟨0,rfl,Nat.zero_le _,fun _ h=>absurd h (by omega),HBr.out⟩
    case round =>
     obtain⟨i,rfl,hi,hall,hBi⟩:=hrel
     have HDl:=Lib.hid hall
     clear hall
     by_cases hlt:i < l.length
     ·obtain⟨b,off,ha⟩:=HA.out.resolve_left (by omega)
      subst ha
      obtain⟨c0,_,_,_,hsz⟩:=HE.out.get rfl hlt
      have cg:∀ g:Grow w.heap.size w,g.w'.cell? ⟨b,off+i * 4,none⟩=some (.string (l[i]'hlt).name):=Grow.old c0 (Nat.le_refl _)
      have hlI:(i:Int)≤(cap:Int):=by omega
      have hIx:=fun W (hW:Below w.heap.size w W)=>r14find_any (l.take i) (some ⟨b,off,none⟩) cap (l[i]'hlt).name W ((HE.out.take i).keep (keeps_of_below hW))
      rw[show (l.take i).length=i from by simp;omega] at hIx
      have HI:=Lib.hid hIx
      have HD:=Lib.hid (dup_take hlt)
      clear hIx c0
      by_cases hd:findV (l.take i) (l[i]'hlt).name 0 < 0
      ·have hdd:decide (0≤findV (l.take i) (l[i]'hlt).name 0)=false:=by simpa using hd
       have hd0:=Lib.hid (HD.out.1 hd)
       clear hd
       go_wp2_with fail
       (refine wp_region_grow (B:=w.heap.size) (w0:=w) (by kernel_rfl) (by kernel_rfl) bel ?_;(repeat (go_big_quiet_step ((go_at_call 127;with_reducible exact grow_callS _ (HI.out _ (Grow.h _))))));refine wpQuiet_nil ?_;intro wg hCg;have hbg:=grow_out hCg;clear hCg)
       go_wp2_with fail
       go_roundw
       case rel=>exact⟨i+1,by go_num,by omega,fun j hj=>by
        by_cases e:j=i
        ·subst e;exact hd0.out
        ·exact HDl.out j (by omega),by assumption⟩
       case measure=>simp[intOf];omega
      ·have hdd:decide (0≤findV (l.take i) (l[i]'hlt).name 0)=true:=by simpa using hd
       have hd0:Hid (¬ VarsOk l):=fun h=>hd (HD.out.2 (h.dup i hlt))
       clear hd
       go_wp2_with fail
       (refine wp_region_grow (B:=w.heap.size) (w0:=w) (by kernel_rfl) (by kernel_rfl) bel ?_;(repeat (go_big_quiet_step ((go_at_call 127;with_reducible exact grow_callS _ (HI.out _ (Grow.h _))))));refine wpQuiet_nil ?_;intro wg hCg;have hbg:=grow_out hCg;clear hCg)
       go_wp2_with fail
       go_ret
       exact⟨.no hd0.out (by decide),by assumption⟩
     ·obtain rfl:i=l.length:=by omega
      have HG:=Lib.hid ((r14gap_any l a cap wr (HE.out.keep (keeps_of_below hBi)) (fun v hv=>by
       obtain⟨j,hj,rfl⟩:=List.getElem_of_mem hv
       exact varB_of_ok (HAl'.out j hj))).mono fun e w' h=>(⟨h.1,hBi.trans (h.2.mono hBi.size)⟩:_∧Below w.heap.size w w'))
      have HDl':Hid (∀ j,j < l.length→¬ DupAt l j):=fun j hj=>HDl.out j hj
      clear HDl hBi
      cases hg:pB (GapAny l)
      ·have Hg:Hid (¬ GapAny l):=fun h=>by rw[pB_true h] at hg;simp at hg
       rw[hg] at HG
       by_cases h20:bitsTo l l.length≤20
       ·have HV:Hid (VarsOk l):=⟨h16,HAl'.out,HDl'.out,Hg.out,h20⟩
        go_wp2_with (go_at_call 128;refine HG.out.mono ?_;rintro e w1 ⟨rfl,hb1⟩;have HB1:=Lib.hid hb1;clear hb1)
        go_ret
        exact⟨.yes HV.out,(by assumption:Hid (Below w.heap.size w _)).out⟩
       ·have HV:Hid (¬ VarsOk l):=fun h=>h20 h.bits
        have h20':decide (20 < bitsTo l l.length)=true:=by simp;omega
        clear h20
        go_wp2_with (go_at_call 128;refine HG.out.mono ?_;rintro e w1 ⟨rfl,hb1⟩;have HB1:=Lib.hid hb1;clear hb1)
        go_ret
        exact⟨.no HV.out (by decide),(by assumption:Hid (Below w.heap.size w _)).out⟩
      ·have HV:Hid (¬ VarsOk l):=fun h=>h.gap (pB_iff.1 hg)
       rw[hg] at HG
       go_wp2_with (go_at_call 128;refine HG.out.mono ?_;rintro e w1 ⟨rfl,hb1⟩;have HB1:=Lib.hid hb1;clear hb1)
       go_ret
       exact⟨.no HV.out (by decide),(by assumption:Hid (Below w.heap.size w _)).out⟩
 ·have HV:Hid (¬ VarsOk l):=fun h=>h16 h.len
  have h16':decide (16 < l.length)=true:=by simp;omega
  go_enter Tryz.func71, Tryz.ntmps71
  go_wp2_with fail
  go_ret
  exact⟨.no HV.out (by decide),Below.refl _ _⟩
end Go.Proofs.YtcplmcjbkpmhdaaGreatDoor
namespace Go.Proofs.YtcplmcjbkpmhdaaGreatDoor
open Go.RowKit
theorem op_ne {a b:Int} (h:¬ a=b):(a == b)=false:=by simpa using h
set_option maxHeartbeats 1000000 in
theorem r14arrays_any (e:Ex):∀ (a:Option Addr) (cap:Nat) (w:World),ExIn w e a cap →
  Calls Tryz.prog 184 #[exVal e a cap] w fun r w'=>r=.returned (.bool (e.nodes.any arrN))∧Below w.heap.size w w':=by
 induction e using Ex.ind with
 | h e ih =>
  intro a cap w hE
  have hN:=nodes_any arrN e
  obtain⟨op,n,s,args⟩:=e
  have hlen:=hE.2.2.1
  have hadr:=hE.2.addr
  simp only[Ex.args_mk] at hlen hadr hN
  have HE:=Lib.hid hE
  have HIH:=Lib.hid ih
  have HA:=Lib.hid hadr
  have HN:=Lib.hid hN
  clear hE ih hadr hN
  simp only[exVal,Ex.op_mk,Ex.n_mk,Ex.name_mk,Ex.args_mk]
  by_cases h3:op=3
  ·subst h3
   have HR:Hid ((Ex.mk 3 n s args).nodes.any arrN=true):=by show _=_;rw[HN.out];rfl
   clear HN
   go_enter Tryz.func184, Tryz.ntmps184
   go_wp2_with fail
   go_ret
   exact⟨by rw[HR.out];rfl,bel⟩
  ·have h3':=op_ne h3
   by_cases h24:op=24
   ·subst h24
    have HR:Hid ((Ex.mk 24 n s args).nodes.any arrN=true):=by show _=_;rw[HN.out];rfl
    clear HN h3
    go_enter Tryz.func184, Tryz.ntmps184
    go_wp2_with fail
    go_ret
    exact⟨by rw[HR.out];rfl,bel⟩
   ·have h24':=op_ne h24
    have HN':Hid ((Ex.mk op n s args).nodes.any arrN=(args.any fun x=>x.nodes.any arrN)):=by
     show _=_;rw[HN.out];unfold arrN;rw[Ex.op_mk,h3',h24'];rfl
    clear HN h3 h24
    go_enter Tryz.func184, Tryz.ntmps184
    go_wp2_with fail
    go_loopw [3] (fun i wr=>∃ k:Nat,i=.int .i64 k∧k≤args.length∧(∀ j (hj:j < args.length),j < k→(args[j]'hj).nodes.any arrN=false)∧Below (w.heap.size+1) (w.alloc (.cells #[.int .i64 op,.int .i64 n,.string s,.slice a args.length cap] 55)) wr) (fun i _=>args.length - (intOf i).toNat)
    case atStart=>exact⟨0,rfl,Nat.zero_le _,fun _ _ h=>absurd h (by omega),Below.refl _ _⟩
    case round =>
     obtain⟨k,rfl,hk,hall,hBr⟩:=hrel
     have HAl:=Lib.hid hall
     clear hall
     have cb:wr.cell? ⟨w.heap.size,3,none⟩=some (.slice a args.length cap):=(hBr.cell (p:=⟨w.heap.size,3,none⟩) (by simp)).trans (by simp)
     have hBw:Below w.heap.size w wr:=((Below.refl _ _).alloc (Nat.le_refl _) _).trans (hBr.mono (by simp))
     by_cases hlt:k < args.length
     ·obtain⟨b,off,ha⟩:=HA.out.resolve_left (by omega)
      subst ha
      obtain⟨a',cap',g0,g1,g2,g3,hX⟩:=HE.out.2.get rfl hlt
      have kk:=keeps_of_below hBw
      have c0:=kk _ _ g0
      have c1:=kk _ _ g1
      have c2:=kk _ _ g2
      have c3:=kk _ _ g3
      have hX':=hX.keep kk
      simp only[Ex.args_mk] at c0 c1 c2 c3 hX'
      have hC:=HIH.out _ (List.getElem_mem hlt:args[k]∈(Ex.mk op n s args).args) a' cap' _ hX'
      have HC:=Lib.hid (hC.mono fun e w' h=>(⟨h.1,hBr.trans (h.2.mono (by have:=hBr.size;simpa using this))⟩:_∧Below (w.heap.size+1) _ w'))
      simp only[Ex.args_mk,exVal] at HC
      have HR:Hid ((args[k]'hlt).nodes.any arrN=true→(Ex.mk op n s args).nodes.any arrN=true):=fun h=>by rw[HN'.out];exact any_some h
      clear g0 g1 g2 g3 kk hC hX hX' hBr hBw
      cases hv:(args[k]'hlt).nodes.any arrN
      ·rw[hv] at HC
       go_wp2_with (go_at_call 184;refine HC.out.mono ?_;rintro e w2 ⟨rfl,hb2⟩;have HB2:=Lib.hid hb2;clear hb2)
       go_roundw
       case rel=>exact⟨k+1,by go_num,by omega,fun j hj hjk=>by
        by_cases e:j=k
        ·subst e;exact hv
        ·exact HAl.out j hj (by omega),(by assumption:Hid (Below (w.heap.size+1) _ _)).out⟩
       case measure=>simp[intOf];omega
      ·rw[hv] at HC
       have HR':=Lib.hid (HR.out hv)
       go_wp2_with (go_at_call 184;refine HC.out.mono ?_;rintro e w2 ⟨rfl,hb2⟩;have HB2:=Lib.hid hb2;clear hb2)
       go_ret
       exact⟨by rw[HR'.out];rfl,((Below.refl _ _).alloc (Nat.le_refl _) _).trans ((by assumption:Hid (Below (w.heap.size+1) _ _)).out.mono (by simp))⟩
     ·obtain rfl:k=args.length:=by omega
      have HR:Hid ((Ex.mk op n s args).nodes.any arrN=false):=by show _=_;rw[HN'.out];exact any_none (fun j hj=>HAl.out j hj hj)
      have HBw:=Lib.hid hBw
      clear hBr hBw
      go_wp2_with fail
      go_ret
      exact⟨by rw[HR.out];rfl,HBw.out⟩
end Go.Proofs.YtcplmcjbkpmhdaaGreatDoor
namespace Go.Proofs.YtcplmcjbkpmhdaaGreatDoor
open Go.RowKit
set_option maxHeartbeats 1000000 in
theorem r14foreign_any (l:List VarD) (av:Option Addr) (cv:Nat) (e:Ex):∀ (a:Option Addr) (cap:Nat) (w:World),VarsIn w l av cv→ExIn w e a cap →
  Calls Tryz.prog 185 #[.slice av l.length cv,exVal e a cap] w fun r w'=>r=.returned (.bool (e.nodes.any (forN l)))∧Below w.heap.size w w':=by
 induction e using Ex.ind with
 | h e ih =>
  intro a cap w hV hE
  have HV:=Lib.hid hV
  clear hV
  have hN:=nodes_any (forN l) e
  obtain⟨op,n,s,args⟩:=e
  have hlen:=hE.2.2.1
  have hadr:=hE.2.addr
  simp only[Ex.args_mk] at hlen hadr hN
  have HE:=Lib.hid hE
  have HIH:=Lib.hid ih
  have HA:=Lib.hid hadr
  have HN:=Lib.hid hN
  clear hE ih hadr hN
  simp only[exVal,Ex.op_mk,Ex.n_mk,Ex.name_mk,Ex.args_mk]
  have HF:=Lib.hid (fun W (hW:Below w.heap.size w W)=>r14find_any l av cv s W (HV.out.keep (keeps_of_below hW)))
  by_cases h3:op=2∧findV l s 0 < 0
  ·obtain⟨rfl,hf⟩:=h3
   have HR:Hid ((Ex.mk 2 n s args).nodes.any (forN l)=true):=by show _=_;rw[HN.out];unfold forN;rw[Ex.op_mk,Ex.name_mk,decide_eq_true hf];rfl
   have hf':decide (findV l s 0 < 0)=true:=decide_eq_true hf
   clear HN hf
   go_enter Tryz.func185, Tryz.ntmps185
   go_wp2_with (go_at_call 127;refine(HF.out _ bel).mono ?_;rintro e w1 ⟨rfl,rfl⟩)
   go_ret
   exact⟨by rw[HR.out];rfl,bel⟩
  ·have HP:Hid (forN l (Ex.mk op n s args)=false):=by
    show _=_
    unfold forN;rw[Ex.op_mk,Ex.name_mk]
    by_cases h2:op=2
    ·subst h2
     have:¬ findV l s 0 < 0:=fun h=>h3 ⟨rfl,h⟩
     rw[decide_eq_false this];simp
    ·rw[op_ne h2];rfl
   have hor:((op == 2)=true∧decide (findV l s 0 < 0)=false)∨(op == 2)=false:=by
    by_cases h2:op=2
    ·exact Or.inl ⟨by simpa using h2,decide_eq_false (fun h=>h3 ⟨h2,h⟩)⟩
    ·exact Or.inr (op_ne h2)
   clear h3
   rcases hor with ⟨h2t,h3'⟩ | h3'
   all_goals
    have HN':Hid ((Ex.mk op n s args).nodes.any (forN l)=(args.any fun x=>x.nodes.any (forN l))):=by
     show _=_;rw[HN.out];rw[HP.out,Bool.false_or]
    clear HN HP
    go_enter Tryz.func185, Tryz.ntmps185
    go_wp2_with (go_at_call 127;refine(HF.out _ bel).mono ?_;rintro e w1 ⟨rfl,rfl⟩)
    go_loopw [5] (fun i wr=>∃ k:Nat,i=.int .i64 k∧k≤args.length∧(∀ j (hj:j < args.length),j < k→(args[j]'hj).nodes.any (forN l)=false)∧Below (w.heap.size+1) (w.alloc (.cells #[.int .i64 op,.int .i64 n,.string s,.slice a args.length cap] 55)) wr) (fun i _=>args.length - (intOf i).toNat)
    case atStart=>exact⟨0,rfl,Nat.zero_le _,fun _ _ h=>absurd h (by omega),Below.refl _ _⟩
    case round =>
     obtain⟨k,rfl,hk,hall,hBr⟩:=hrel
     have HAl:=Lib.hid hall
     clear hall
     have cb:wr.cell? ⟨w.heap.size,3,none⟩=some (.slice a args.length cap):=(hBr.cell (p:=⟨w.heap.size,3,none⟩) (by simp)).trans (by simp)
     have hBw:Below w.heap.size w wr:=((Below.refl _ _).alloc (Nat.le_refl _) _).trans (hBr.mono (by simp))
     by_cases hlt:k < args.length
     ·obtain⟨b,off,ha⟩:=HA.out.resolve_left (by omega)
      subst ha
      obtain⟨a',cap',g0,g1,g2,g3,hX⟩:=HE.out.2.get rfl hlt
      have kk:=keeps_of_below hBw
      have c0:=kk _ _ g0
      have c1:=kk _ _ g1
      have c2:=kk _ _ g2
      have c3:=kk _ _ g3
      have hX':=hX.keep kk
      simp only[Ex.args_mk] at c0 c1 c2 c3 hX'
      have hC:=HIH.out _ (List.getElem_mem hlt:args[k]∈(Ex.mk op n s args).args) a' cap' _ (HV.out.keep kk) hX'
      have HC:=Lib.hid (hC.mono fun e w' h=>(⟨h.1,hBr.trans (h.2.mono (by have:=hBr.size;simpa using this))⟩:_∧Below (w.heap.size+1) _ w'))
      simp only[Ex.args_mk,exVal] at HC
      have HR:Hid ((args[k]'hlt).nodes.any (forN l)=true→(Ex.mk op n s args).nodes.any (forN l)=true):=fun h=>by rw[HN'.out];exact any_some h
      clear g0 g1 g2 g3 kk hC hX hX' hBr hBw
      cases hv:(args[k]'hlt).nodes.any (forN l)
      ·rw[hv] at HC
       go_wp2_with (go_at_call 185;refine HC.out.mono ?_;rintro e w2 ⟨rfl,hb2⟩;have HB2:=Lib.hid hb2;clear hb2)
       go_roundw
       case rel=>exact⟨k+1,by go_num,by omega,fun j hj hjk=>by
        by_cases e:j=k
        ·subst e;exact hv
        ·exact HAl.out j hj (by omega),(by assumption:Hid (Below (w.heap.size+1) _ _)).out⟩
       case measure=>simp[intOf];omega
      ·rw[hv] at HC
       have HR':=Lib.hid (HR.out hv)
       go_wp2_with (go_at_call 185;refine HC.out.mono ?_;rintro e w2 ⟨rfl,hb2⟩;have HB2:=Lib.hid hb2;clear hb2)
       go_ret
       exact⟨by rw[HR'.out];rfl,((Below.refl _ _).alloc (Nat.le_refl _) _).trans ((by assumption:Hid (Below (w.heap.size+1) _ _)).out.mono (by simp))⟩
     ·obtain rfl:k=args.length:=by omega
      have HR:Hid ((Ex.mk op n s args).nodes.any (forN l)=false):=by show _=_;rw[HN'.out];exact any_none (fun j hj=>HAl.out j hj hj)
      have HBw:=Lib.hid hBw
      clear hBr hBw
      go_wp2_with fail
      go_ret
      exact⟨by rw[HR.out];rfl,HBw.out⟩
set_option maxHeartbeats 1000000 in
theorem r14plain_any (l:List VarD) (av:Option Addr) (cv:Nat) (e:Ex) (a:Option Addr) (cap:Nat) (w:World) (hV:VarsIn w l av cv) (hE:ExIn w e a cap) :
  Calls Tryz.prog 129 #[.slice av l.length cv,exVal e a cap] w fun r w'=>ErrIff (e.nodes.any arrN=false∧e.nodes.any (forN l)=false) r∧Below w.heap.size w w':=by
 have HA:=Lib.hid (fun W (hW:Below w.heap.size w W)=>(r14arrays_any e a cap W (hE.keep (keeps_of_below hW))).mono fun e w' h=>(⟨h.1,hW.trans (h.2.mono hW.size),bcell h.2⟩:_∧Below w.heap.size w w'∧_))
 have HF:=Lib.hid (fun W (hW:Below w.heap.size w W)=>(r14foreign_any l av cv e a cap W (hV.keep (keeps_of_below hW)) (hE.keep (keeps_of_below hW))).mono fun e w' h=>(⟨h.1,hW.trans (h.2.mono hW.size)⟩:_∧Below w.heap.size w w'))
 obtain⟨op,n,s,args⟩:=e
 simp only[exVal,Ex.op_mk,Ex.n_mk,Ex.name_mk,Ex.args_mk] at HA HF⊢
 clear hV hE
 cases ha:(Ex.mk op n s args).nodes.any arrN
 ·rw[ha] at HA
  cases hf:(Ex.mk op n s args).nodes.any (forN l)
  ·rw[hf] at HF
   go_enter Tryz.func129, Tryz.ntmps129
   go_wp2_with (first | (go_at_call 184;refine(HA.out _ bel).mono ?_;rintro e w1 ⟨rfl,hb1,hc1,hf1⟩) | (go_at_call 185;refine(HF.out _ bel).mono ?_;rintro e w2 ⟨rfl,hb2⟩))
   go_ret
   exact⟨.yes (by simp),by assumption⟩
  ·rw[hf] at HF
   go_enter Tryz.func129, Tryz.ntmps129
   go_wp2_with (first | (go_at_call 184;refine(HA.out _ bel).mono ?_;rintro e w1 ⟨rfl,hb1,hc1,hf1⟩) | (go_at_call 185;refine(HF.out _ bel).mono ?_;rintro e w2 ⟨rfl,hb2⟩))
   go_ret
   exact⟨.no (by simp) (by decide),by assumption⟩
 ·rw[ha] at HA
  go_enter Tryz.func129, Tryz.ntmps129
  go_wp2_with (go_at_call 184;refine(HA.out _ bel).mono ?_;rintro e w1 ⟨rfl,hb1,hc1,hf1⟩)
  go_ret
  exact⟨.no (by simp) (by decide),by assumption⟩
def ExsSmall (x:List Ex):Prop:=∀ e,e∈x→e.nodes.length≤1000000000
set_option maxRecDepth 100000 in
set_option maxHeartbeats 4000000 in
theorem r14expressions_any (l:List VarD) (av:Option Addr) (cv:Nat) (x:List Ex) (a:Option Addr) (cap:Nat) (w:World) (hV:VarsIn w l av cv) (hE:ExsIn w x a cap) (hsm:ExsSmall x) :
  Calls Tryz.prog 72 #[.slice av l.length cv,.slice a x.length cap] w fun r w'=>ErrIff (∀ i (h:i < x.length),ExprOk l (x[i]'h)) r∧Below w.heap.size w w':=by
 have hlen:=hE.2.1
 have HA:=Lib.hid hE.addr
 have HE:=Lib.hid hE
 have HV:=Lib.hid hV
 clear hE hV
 go_enter Tryz.func72, Tryz.ntmps72
 go_wp2_with fail
 go_loopw [5,6,7] (fun i _ _ wr=>∃ k:Nat,i=.int .i64 k∧k≤x.length∧(∀ j (hj:j < x.length),j < k→ExprOk l (x[j]'hj))∧Below w.heap.size w wr) (fun i _ _ _=>x.length - (intOf i).toNat)
 case atStart=>exact⟨0,rfl,Nat.zero_le _,fun _ _ h=>absurd h (by omega),Below.refl _ _⟩
 case round =>
  obtain⟨k,rfl,hk,hall,hBr⟩:=hrel
  have HAl:=Lib.hid hall
  clear hall
  by_cases hlt:k < x.length
  ·obtain⟨b,off,ha⟩:=HA.out.resolve_left (by omega)
   subst ha
   obtain⟨a',cap',g0,g1,g2,g3,hX⟩:=HE.out.get rfl hlt
   have hn:=hsm _ (List.getElem_mem hlt)
   have HNx:Hid (ExprOk l (x[k]'hlt)→∀ j (hj:j < x.length),j < k+1→ExprOk l (x[j]'hj)):=fun hv j hj hjk=>by
    by_cases e:j=k
    ·subst e;exact hv
    ·exact HAl.out j hj (by omega)
   have HNo:Hid (¬ ExprOk l (x[k]'hlt)→¬ ∀ i (h:i < x.length),ExprOk l (x[i]'h)):=fun h h'=>h (h' k hlt)
   generalize (x[k]'hlt)=e at g0 g1 g2 g3 hX hn HNx HNo
   have HP:=Lib.hid (fun W (hW:Below w.heap.size w W)=>(r14plain_any l av cv e a' cap' W (HV.out.keep (keeps_of_below hW)) (hX.keep (keeps_of_below hW))).mono fun e w' h=>(⟨h.1,hW.trans (h.2.mono hW.size)⟩:_∧Below w.heap.size w w'))
   obtain⟨op,n,s,args⟩:=e
   have HVa:=Lib.hid ((rValid_any op n s args a' cap' wr (hX.keep (keeps_of_below hBr)) hn).mono fun e w' h=>(⟨h.1,hBr.trans (h.2.mono hBr.size)⟩:_∧Below w.heap.size w w'))
   simp only[exVal,Ex.op_mk,Ex.n_mk,Ex.name_mk,Ex.args_mk] at HP g0 g1 g2 g3
   have HG:=Lib.hid (⟨g0,g1,g2,g3⟩:_∧_∧_∧_)
   have kk:=keeps_of_below hBr
   have c0:=kk _ _ g0
   have c1:=kk _ _ g1
   have c2:=kk _ _ g2
   have c3:=kk _ _ g3
   clear g0 g1 g2 g3 kk hX hn hBr
   by_cases hv:validS (Ex.mk op n s args)=0
   ·rw[hv] at HVa
    by_cases hp:(Ex.mk op n s args).nodes.any arrN=false∧(Ex.mk op n s args).nodes.any (forN l)=false
    ·have HOk:=Lib.hid (HNx.out ⟨hv,hp.1,hp.2⟩)
     have HP':=Lib.hid (fun W hW=>errT (HP.out W hW) hp)
     clear HNx HNo HP hv hp
     go_wp2_with (first | (go_at_call 54;refine HVa.out.mono ?_;rintro e w1 ⟨rfl,hb1⟩;have kk:=keeps_of_below hb1;have c0:=kk _ _ HG.out.1;have c1:=kk _ _ HG.out.2.1;have c2:=kk _ _ HG.out.2.2.1;have c3:=kk _ _ HG.out.2.2.2;clear kk) | (go_at_call 129;refine(HP'.out _ (by assumption)).mono ?_;rintro e w2 ⟨rfl,hb2⟩))
     go_roundw
     case rel=>exact⟨k+1,by go_num,by omega,HOk.out,by assumption⟩
     case measure=>simp[intOf];omega
    ·have HOk:=Lib.hid (HNo.out (fun h=>hp ⟨h.arr,h.names⟩))
     have HP':=Lib.hid (fun W hW=>errF (HP.out W hW) hp)
     clear HNx HNo HP hv hp
     go_wp2_with (first | (go_at_call 54;refine HVa.out.mono ?_;rintro e w1 ⟨rfl,hb1⟩;have kk:=keeps_of_below hb1;have c0:=kk _ _ HG.out.1;have c1:=kk _ _ HG.out.2.1;have c2:=kk _ _ HG.out.2.2.1;have c3:=kk _ _ HG.out.2.2.2;clear kk) | (go_at_call 129;refine(HP'.out _ (by assumption)).mono ?_;rintro e w2 ⟨⟨m,rfl,hm⟩,hb2⟩))
     go_ret
     exact⟨.no HOk.out (by simpa using hm),by assumption⟩
   ·have HOk:=Lib.hid (HNo.out (fun h=>hv h.valid))
    have hv':(validS (Ex.mk op n s args) != 0)=true:=by simpa using hv
    generalize validS (Ex.mk op n s args)=vv at HVa hv hv'
    have Hv:=Lib.hid hv
    clear HNx HNo HP hv
    go_wp2_with (go_at_call 54;refine HVa.out.mono ?_;rintro e w1 ⟨rfl,hb1⟩)
    go_ret
    exact⟨.no HOk.out Hv.out,by assumption⟩
  ·obtain rfl:k=x.length:=by omega
   go_wp2_with fail
   go_ret
   exact⟨ErrIff.congr (.yes trivial) ⟨fun _ i h=>HAl.out i h h,fun _=>trivial⟩,hBr⟩
end Go.Proofs.YtcplmcjbkpmhdaaGreatDoor
