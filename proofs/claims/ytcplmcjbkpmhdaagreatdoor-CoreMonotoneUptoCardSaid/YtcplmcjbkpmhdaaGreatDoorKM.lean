/- Assignments, in order: plain. -/
import Derived.Test.YtcplmcjbkpmhdaaGreatDoorKL
set_option linter.unusedSimpArgs false
set_option linter.unusedVariables false
set_option linter.unnecessarySimpa false
namespace Go.Proofs.YtcplmcjbkpmhdaaGreatDoor
open Go.RowKit
def valN (v:VarD):Nat:=if v.mode=0 then 1 else 2 ^ v.width.toNat
def totN:List VarD→Nat
 | []=>1
 | v::l=>valN v * totN l
def digN (v:VarD) (k:Nat):Int:=if v.mode=0 then v.value else ((k % valN v:Nat):Int)
def nthN:List VarD→Nat→List Int
 | [],_=>[]
 | v::l,k=>digN v (k / totN l)::nthN l k
theorem valN_pos (v:VarD):0 < valN v:=by
 unfold valN;split
 ·omega
 ·exact Nat.pow_pos (by omega)
theorem totN_pos (l:List VarD):0 < totN l:=by
 induction l with
 | nil=>exact Nat.one_pos
 | cons v l ih=>exact Nat.mul_pos (valN_pos v) ih
theorem nthN_len (l:List VarD) (k:Nat):(nthN l k).length=l.length:=by
 induction l with
 | nil=>rfl
 | cons v l ih=>simp[nthN,ih]
theorem nthN_get (l:List VarD) (k:Nat):∀ i (h:i < l.length),(nthN l k)[i]'(by rw[nthN_len];exact h)=digN (l[i]'h) (k / totN (l.drop (i+1))):=by
 induction l with
 | nil=>intro i h;simp at h
 | cons v l ih =>
  intro i h
  cases i with
  | zero=>simp[nthN]
  | succ i =>
   have:=ih i (by simpa using h)
   simpa [nthN] using this
def advN:List VarD→List Int→List Int × Bool
 | v::l,x::a=>if (advN l a).2=true then (if v.mode=0 then (x::(advN l a).1,true) else if x+1 < 2 ^ v.width.toNat then ((x+1)::(advN l a).1,false) else (0::(advN l a).1,true)) else (x::(advN l a).1,false)
 | _,_=>([],true)
theorem succ_div {k T:Nat} (hT:0 < T):((k+1) % T=0→(k+1) / T=k / T+1)∧((k+1) % T≠0→(k+1) / T=k / T):=by
 constructor
 ·intro h
  rw[Nat.succ_div,if_pos (Nat.dvd_of_mod_eq_zero h)]
 ·intro h
  rw[Nat.succ_div,if_neg (fun hd=>h (Nat.mod_eq_zero_of_dvd hd))];rfl
theorem mod_mul_zero {m n T:Nat} (hT:0 < T) (hn:0 < n):m % (n * T)=0↔m % T=0∧(m / T) % n=0:=by
 constructor
 ·intro h
  have hd:=Nat.dvd_of_mod_eq_zero h
  obtain⟨c,rfl⟩:=hd
  refine⟨?_,?_⟩
  ·rw[show n * T * c=T * (n * c) from by rw[Nat.mul_comm n T,Nat.mul_assoc]];exact Nat.mul_mod_right _ _
  ·rw[show n * T * c=T * (n * c) from by rw[Nat.mul_comm n T,Nat.mul_assoc],Nat.mul_div_cancel_left _ hT];exact Nat.mul_mod_right _ _
 ·rintro ⟨h1,h2⟩
  obtain⟨c,rfl⟩:=Nat.dvd_of_mod_eq_zero h1
  rw[Nat.mul_div_cancel_left _ hT] at h2
  obtain⟨d,rfl⟩:=Nat.dvd_of_mod_eq_zero h2
  rw[show T * (n * d)=(n * T) * d from by rw[Nat.mul_comm n T,Nat.mul_assoc]];exact Nat.mul_mod_right _ _
theorem advN_nth (l:List VarD) (k:Nat):advN l (nthN l k)=(nthN l (k+1),decide ((k+1) % totN l=0)):=by
 induction l with
 | nil=>simp[advN,nthN,totN,Nat.mod_one]
 | cons v l ih =>
  have hT:=totN_pos l
  have hn:=valN_pos v
  obtain⟨hd1,hd2⟩:=@succ_div k (totN l) hT
  have hm:=@mod_mul_zero (k+1) (valN v) (totN l) hT hn
  unfold nthN advN
  rw[ih]
  simp only
  by_cases hc:(k+1) % totN l=0
  ·rw[decide_eq_true hc,if_pos rfl,hd1 hc]
   rw[hd1 hc] at hm
   by_cases h0:v.mode=0
   ·have hv1:valN v=1:=by unfold valN;rw[if_pos h0]
    have hz:(k+1) % totN (v::l)=0:=by
     show (k+1) % (valN v * totN l)=0
     exact hm.2 ⟨hc,by rw[hv1,Nat.mod_one]⟩
    rw[if_pos h0,decide_eq_true hz]
    simp[digN,h0]
   ·have hvw:valN v=2 ^ v.width.toNat:=by unfold valN;rw[if_neg h0]
    rw[if_neg h0]
    have hlt:=Nat.mod_lt (k / totN l) hn
    have hdig:∀ m,digN v m=((m % valN v:Nat):Int):=fun m=>by unfold digN;rw[if_neg h0]
    rw[hdig,hdig]
    have hpow:(2:Int) ^ v.width.toNat=((valN v:Nat):Int):=by rw[hvw];simp
    rw[hpow]
    by_cases hx:k / totN l % valN v+1 < valN v
    ·rw[if_pos (by omega)]
     have hmod:(k / totN l+1) % valN v=k / totN l % valN v+1:=by
      rw[Nat.add_mod,Nat.mod_eq_of_lt (show 1 < valN v from by omega),Nat.mod_eq_of_lt hx]
     have hz:¬ (k+1) % totN (v::l)=0:=by
      show ¬ (k+1) % (valN v * totN l)=0
      intro h
      have:=(hm.1 h).2
      omega
     rw[decide_eq_false hz,hmod]
     simp
    ·rw[if_neg (by omega)]
     have hmod:(k / totN l+1) % valN v=0:=by
      have h1:k / totN l % valN v+1=valN v:=by omega
      rw[Nat.add_mod]
      by_cases h2:valN v=1
      ·rw[h2,Nat.mod_one]
      ·rw[Nat.mod_eq_of_lt (show 1 < valN v from by omega),h1,Nat.mod_self]
     have hz:(k+1) % totN (v::l)=0:=by
      show (k+1) % (valN v * totN l)=0
      exact hm.2 ⟨hc,hmod⟩
     rw[decide_eq_true hz,hmod]
     simp
  ·rw[decide_eq_false hc,if_neg (by simp),hd2 hc]
   have hz:¬ (k+1) % totN (v::l)=0:=by
    show ¬ (k+1) % (valN v * totN l)=0
    intro h
    exact hc (hm.1 h).1
   rw[decide_eq_false hz]
def AsgAt (v:VarD) (x:Int):Prop:=(v.mode=0→x=v.value)∧0≤x∧x < 2 ^ v.width.toNat
structure Asg (l:List VarD) (a:List Int):Prop where
 len:a.length=l.length
 at':∀ i (h:i < l.length),AsgAt (l[i]'h) (a[i]'(by omega))
theorem totN_cons (v:VarD) (l:List VarD):totN (v::l)=valN v * totN l:=rfl
theorem Asg.tail {v:VarD} {l:List VarD} {x:Int} {a:List Int} (h:Asg (v::l) (x::a)):Asg l a :=
 ⟨by have:=h.len;simpa using this,fun i hi=>by have:=h.at' (i+1) (by simpa using hi);simpa using this⟩
theorem Asg.head {v:VarD} {l:List VarD} {x:Int} {a:List Int} (h:Asg (v::l) (x::a)):AsgAt v x:=by
 have:=h.at' 0 (by simp);simpa using this
theorem asg_nth {l:List VarD} (hok:∀ i (h:i < l.length),varOkB (l[i]'h)=true) (k:Nat):Asg l (nthN l k):=by
 refine⟨nthN_len l k,fun i hi=>?_⟩
 rw[nthN_get l k i hi]
 have hv:=hok i hi
 generalize (l[i]'hi)=v at hv
 generalize k / totN (l.drop (i+1))=m
 unfold varOkB varNumsB at hv
 simp only[Bool.and_eq_true,decide_eq_true_eq] at hv
 unfold digN
 by_cases h0:v.mode=0
 ·rw[if_pos h0];exact⟨fun _=>rfl,by omega,by omega⟩
 ·rw[if_neg h0]
  have hvw:valN v=2 ^ v.width.toNat:=by unfold valN;rw[if_neg h0]
  have hlt:=Nat.mod_lt m (valN_pos v)
  refine⟨fun h=>absurd h h0,by omega,?_⟩
  have hp:(2:Int) ^ v.width.toNat=((valN v:Nat):Int):=by rw[hvw];simp
  rw[hp];omega
theorem tot_bits (l:List VarD) (hok:∀ v,v∈l→varOkB v=true):totN l≤2 ^ ((l.map widthR).sum).toNat∧0≤(l.map widthR).sum:=by
 induction l with
 | nil=>simp[totN]
 | cons v l ih =>
  obtain⟨h1,h2⟩:=ih (fun v hv=>hok v (List.mem_cons_of_mem _ hv))
  have hw:=width_of_ok (hok v List.mem_cons_self)
  simp only[List.map_cons,List.sum_cons]
  have e1:valN v=if v.mode=0 then 1 else 2 ^ v.width.toNat:=rfl
  have e2:widthR v=if v.mode=0 then 0 else v.width:=rfl
  rw[totN_cons,e1,e2]
  by_cases h0:v.mode=0
  ·rw[if_pos h0,if_pos h0]
   simp only[Nat.one_mul,Int.zero_add]
   exact⟨h1,h2⟩
  ·rw[if_neg h0,if_neg h0]
   refine⟨?_,by omega⟩
   rw[show (v.width+(l.map widthR).sum).toNat=v.width.toNat+((l.map widthR).sum).toNat from by omega,Nat.pow_add]
   exact Nat.mul_le_mul_left _ h1
theorem VarsOk.tot {l:List VarD} (h:VarsOk l):totN l≤1048576:=by
 obtain⟨h1,h2⟩:=tot_bits l (fun v hv=>by obtain⟨i,hi,rfl⟩:=List.getElem_of_mem hv;exact h.ok i hi)
 have hb:=h.bits
 unfold bitsTo at hb
 rw[List.take_of_length_le (Nat.le_refl _)] at hb
 calc totN l≤_:=h1
  _≤2 ^ 20:=Nat.pow_le_pow_right (by decide) (by omega)
  _=_:=by decide
def scanN (H:Nat→Bool) (T:Nat):Nat→Nat→Option Nat × Nat × Nat
 | 0,k=>(none,k,0)
 | s+1,k=>if T≤k then (none,k,s+1) else if H k=true then (some k,k+1,s) else scanN H T s (k+1)
end Go.Proofs.YtcplmcjbkpmhdaaGreatDoor
namespace Go.Proofs.YtcplmcjbkpmhdaaGreatDoor
open Go.RowKit
theorem box_cell {w wr:World} {c:Array Value} {t:TypeId} (h:Below (w.heap.size+1) (w.alloc (.cells c t)) wr) (j:Nat):wr.cell? ⟨w.heap.size,j,none⟩=c[j]? :=
 (h.cell (p:=⟨w.heap.size,j,none⟩) (by simp)).trans (by simp)
theorem nums_of_ok {v:VarD} (h:varOkB v=true):1≤v.width∧v.width≤8∧0≤v.mode∧v.mode≤2∧0≤v.value∧v.value < 2 ^ v.width.toNat:=by
 unfold varOkB varNumsB at h
 simp only[Bool.and_eq_true,decide_eq_true_eq] at h
 omega
def NthRow (w:World) (b:Nat) (vs:List VarD) (k c:Nat):Prop:=FRow w b 3 vs.length (fun j=>if c≤j then .int .i64 ((nthN vs k).getD j 0) else .int .i64 0)
theorem NthRow.cell0 {w:World} {b:Nat} {vs:List VarD} {k d:Nat} (h:NthRow w b vs k (d+1)) (hd:d < vs.length):w.cell? ⟨b,d,none⟩=some (.int .i64 0):=by
 have h':=FRow.cell h hd
 rw[h',if_neg (by omega)]
end Go.Proofs.YtcplmcjbkpmhdaaGreatDoor
