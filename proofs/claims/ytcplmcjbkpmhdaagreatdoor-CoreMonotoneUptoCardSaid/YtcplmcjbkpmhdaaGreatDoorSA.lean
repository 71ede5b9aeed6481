/- Supports of distributions: plain. -/
import Derived.Test.YtcplmcjbkpmhdaaGreatDoorKL
import Derived.Test.YtcplmcjbkpmhdaaGreatDoorKJ
import Derived.Test.YtcplmcjbkpmhdaaGreatDoorKO
import Derived.Test.YtcplmcjbkpmhdaaGreatDoorKN
import Derived.Test.YtcplmcjbkpmhdaaGreatDoorKK
import Derived.Deep.RegionHeld3
import Derived.Deep.DrawnRows
import Derived.IntWalk
set_option linter.unusedSimpArgs false
set_option linter.unusedVariables false
set_option linter.unnecessarySimpa false
namespace Go.Proofs.YtcplmcjbkpmhdaaGreatDoor
open Go.RowKit
def posW:List WeightD→Int→Bool
 | [],_=>false
 | x::l,v=>if x.lo≤v∧v≤x.hi then decide (0 < x.weight) else posW l v
theorem posW_drop {l:List WeightD} {k:Nat} (h:k < l.length) (v:Int):posW (l.drop k) v=if (l[k]'h).lo≤v∧v≤(l[k]'h).hi then decide (0 < (l[k]'h).weight) else posW (l.drop (k+1)) v:=by
 rw[List.drop_eq_getElem_cons h];rfl
def stepB (P:Nat→Bool) (N n:Nat):List Nat:=if P n=true then (if n=0∨P (n - 1)=false then [n] else [])++(if n+1=N∨P (n+1)=false then [n] else []) else []
def boundsTo (P:Nat→Bool) (N k:Nat):List Nat:=(List.range k).flatMap (stepB P N)
def boundsN (P:Nat→Bool) (N:Nat):List Nat:=boundsTo P N N
theorem boundsTo_succ (P:Nat→Bool) (N k:Nat):boundsTo P N (k+1)=boundsTo P N k++stepB P N k:=by
 unfold boundsTo
 rw[List.range_succ,List.flatMap_append]
 simp
theorem stepB_len (P:Nat→Bool) (N n:Nat):(stepB P N n).length≤2:=by
 unfold stepB
 split
 ·split<;>split<;>simp
 ·simp
theorem boundsTo_len (P:Nat→Bool) (N:Nat):∀ k,(boundsTo P N k).length≤2 * k:=by
 intro k
 induction k with
 | zero=>simp[boundsTo]
 | succ k ih =>
  rw[boundsTo_succ,List.length_append]
  have:=stepB_len P N k
  omega
theorem stepB_bound {P:Nat→Bool} {N N' n:Nat} (h:n+1 < N) (h':n+1 < N'):stepB P N n=stepB P N' n:=by
 unfold stepB
 have h1:¬ n+1=N:=by omega
 have h2:¬ n+1=N':=by omega
 simp only[h1,h2]
theorem boundsTo_bound {P:Nat→Bool} {N N':Nat}:∀ k,k < N→k < N'→boundsTo P N k=boundsTo P N' k:=by
 intro k
 induction k with
 | zero=>intro _ _;rfl
 | succ k ih =>
  intro h h'
  rw[boundsTo_succ,boundsTo_succ,ih (by omega) (by omega),stepB_bound (by omega) (by omega)]
def flatStep (F:List Nat) (n:Nat):List Nat:=if F.getLast?.map (·+1)=some n then F.dropLast++[n] else F++[n,n]
theorem bounds_last (P:Nat→Bool):∀ k,(∀ m,(boundsN P (k+1)).getLast? = some m→m≤k)∧(P k=true→(boundsN P (k+1)).getLast? = some k)∧(P k=false→boundsN P (k+1)=boundsN P k):=by
 intro k
 have h3:P k=false→boundsN P (k+1)=boundsN P k:=by
  intro hp
  unfold boundsN
  rw[boundsTo_succ]
  have hs:stepB P (k+1) k=[]:=by unfold stepB;rw[hp];simp
  rw[hs,List.append_nil]
  cases k with
  | zero=>rfl
  | succ k =>
   rw[boundsTo_succ,boundsTo_succ,boundsTo_bound (N:=k+1+1) (N':=k+1) k (by omega) (by omega)]
   congr 1
   unfold stepB
   rw[hp]
   simp
 refine⟨?_,?_,h3⟩
 ·have hall:∀ N j,∀ m,m∈boundsTo P N j→m < j:=by
   intro N j
   induction j with
   | zero=>intro m hm;simp[boundsTo] at hm
   | succ j ih =>
    intro m hm
    rw[boundsTo_succ,List.mem_append] at hm
    rcases hm with hm | hm
    ·have:=ih m hm;omega
    ·unfold stepB at hm
     split at hm
     ·rw[List.mem_append] at hm
      rcases hm with hm | hm<;>split at hm<;>simp at hm<;>omega
     ·simp at hm
  intro m hm
  have:=hall _ _ m (List.mem_of_getLast? hm)
  omega
 ·intro hp
  unfold boundsN
  rw[boundsTo_succ]
  have hs:∃ pre,stepB P (k+1) k=pre++[k]:=by
   unfold stepB
   rw[if_pos hp]
   exact⟨_,by rw[if_pos (show k+1=k+1∨_ from Or.inl rfl)]⟩
  obtain⟨pre,hs⟩:=hs
  rw[hs,← List.append_assoc]
  simp
theorem bounds_step (P:Nat→Bool) (k:Nat) (hp:P k=true):boundsN P (k+1)=flatStep (boundsN P k) k:=by
 cases k with
 | zero =>
  unfold boundsN flatStep boundsTo stepB
  simp[hp]
 | succ k =>
  obtain⟨h1,h2,h3⟩:=bounds_last P k
  by_cases hq:P k=true
  ·unfold flatStep
   rw[h2 hq]
   simp only[Option.map_some,if_true]
   unfold boundsN
   rw[boundsTo_succ,boundsTo_succ,boundsTo_succ,boundsTo_bound k (show k < k+1+1 by omega) (show k < k+1 by omega)]
   have e1:stepB P (k+1) k=(if k=0∨P (k - 1)=false then [k] else [])++[k]:=by unfold stepB;rw[if_pos hq,if_pos (show k+1=k+1∨_ from Or.inl rfl)]
   have e2:stepB P (k+1+1) k=(if k=0∨P (k - 1)=false then [k] else []):=by
    unfold stepB
    rw[if_pos hq,if_neg (show ¬ (k+1=k+1+1∨P (k+1)=false) from fun h=>by rcases h with h | h;omega;rw[hp] at h;simp at h),List.append_nil]
   have e3:stepB P (k+1+1) (k+1)=[k+1]:=by
    unfold stepB
    rw[if_pos hp,if_neg (show ¬ (k+1=0∨P (k+1 - 1)=false) from fun h=>by rcases h with h | h;omega;rw[show k+1 - 1=k from rfl,hq] at h;simp at h),if_pos (Or.inl rfl),List.nil_append]
   rw[e1,e2,e3,← List.append_assoc,List.dropLast_concat]
  ·have hq':P k=false:=by simpa using hq
   have hl:¬ ((boundsN P (k+1)).getLast?.map (·+1)=some (k+1)):=by
    intro h
    obtain⟨m,hm,he⟩:=Option.map_eq_some_iff.1 h
    have hmk:m=k:=by omega
    subst hmk
    rw[h3 hq'] at hm
    cases m with
    | zero=>simp[boundsN,boundsTo] at hm
    | succ m =>
     have:=(bounds_last P m).1 _ hm
     omega
   unfold flatStep
   rw[if_neg hl]
   unfold boundsN
   rw[boundsTo_succ]
   have e3:stepB P (k+1+1) (k+1)=[k+1,k+1]:=by
    unfold stepB
    rw[if_pos hp,if_pos (show k+1=0∨P (k+1 - 1)=false from Or.inr hq'),if_pos (Or.inl rfl)]
    rfl
   rw[e3]
   congr 1
   rw[boundsTo_succ,boundsTo_succ,boundsTo_bound (N:=k+1+1) (N':=k+1) k (by omega) (by omega)]
   congr 1
   unfold stepB
   rw[hq']
   simp
theorem flat_bounds (P:Nat→Bool):∀ k,((List.range k).filter P).foldl flatStep []=boundsN P k:=by
 intro k
 induction k with
 | zero=>rfl
 | succ k ih =>
  rw[List.range_succ,List.filter_append,List.foldl_append,ih]
  cases hp:P k
  ·simp only[List.filter_cons,hp,List.filter_nil]
   rw[(bounds_last P k).2.2 hp]
   rfl
  ·simp only[List.filter_cons,hp,List.filter_nil,if_true]
   rw[bounds_step P k hp]
   rfl
theorem flatStep_even {F:List Nat} {n:Nat} (h:F.length % 2=0):(flatStep F n).length % 2=0:=by
 unfold flatStep
 split
 ·rename_i hl
  have:F≠[]:=fun e=>by rw[e] at hl;simp at hl
  have h0:0 < F.length:=List.length_pos_iff.2 this
  simp;omega
 ·simp;omega
theorem flat_even (l:List Nat):∀ F:List Nat,F.length % 2=0→(l.foldl flatStep F).length % 2=0:=by
 induction l with
 | nil=>intro F h;exact h
 | cons n l ih=>intro F h;exact ih _ (flatStep_even h)
theorem bounds_even (P:Nat→Bool) (k:Nat):(boundsN P k).length % 2=0:=by
 rw[← flat_bounds]
 exact flat_even _ _ rfl
def cE (n:Int):Ex:=.mk 1 n ⟨#[]⟩ []
def vE (s:ByteArray):Ex:=.mk 2 0 s []
def iE (s:ByteArray) (bs:List Nat):Ex:=.mk 23 0 ⟨#[]⟩ (vE s::bs.map fun (n:Nat)=>cE (n:Int))
def eE (a b:Ex):Ex:=.mk 20 0 ⟨#[]⟩ [a,b]
def chE (s:ByteArray) (bs:List Nat):Nat→Ex
 | 0=>cE 0
 | c+1=>if c=0 then iE s (bs.take 32) else eE (chE s bs c) (iE s ((bs.drop (32 * c)).take 32))
def unE (s:ByteArray) (bs:List Nat):Ex:=chE s bs ((bs.length+31) / 32)
def suppP (d:DistD) (n:Nat):Bool:=posW d.weights n
def suppE (vs:List VarD) (d:DistD):Ex:=match vs[d.var.toNat]? with
 | some v=>unE v.name (boundsN (suppP d) (2 ^ v.width.toNat))
 | none=>cE 0
def suppsE (p:ProbD):List Ex:=p.dists.map (suppE p.vars)
end Go.Proofs.YtcplmcjbkpmhdaaGreatDoor
namespace Go.Proofs.YtcplmcjbkpmhdaaGreatDoor
open Go.RowKit
set_option maxRecDepth 100000 in
set_option maxHeartbeats 1000000 in
theorem indexFunc_supp (c:Nat) (p:WeightD→Bool) (l:List WeightD) (a:Option Addr) (cap:Nat) (w0 w:World) (hE:WeightsIn w l a cap)
  (hf:∀ (v:WeightD),v∈l→∀ (w':World),Below w.heap.size w w'→Calls Tryz.prog 143 #[weightVal v,.pointer (some ⟨c,0,none⟩)] w' fun e w2=>e=.returned (.bool (p v))∧Below w'.heap.size w' w2) :
  Calls Tryz.prog 142 #[.slice a l.length cap,.func (.func 143) #[] #[.pointer (some ⟨c,0,none⟩)]] w fun e w'=>e=.returned (.int .i64 (idxP p l 0))∧Below w.heap.size w w':=by
 have hlen:=hE.2.1
 have HA:=Lib.hid hE.addr
 have HE:=Lib.hid hE
 have HF:=Lib.hid hf
 clear hE hf
 go_enter Tryz.func142, Tryz.ntmps142
 go_wp2_with fail
 go_loopw [8] (fun i wr=>∃ k:Nat,i=.int .i64 k∧k≤l.length∧(∀ j (hj:j < l.length),j < k→p (l[j]'hj)=false)∧Below w.heap.size w wr) (fun i _=>l.length - (intOf i).toNat)
 case atStart=>exact⟨0,rfl,Nat.zero_le _,fun _ _ h=>absurd h (by omega),Below.refl _ _⟩
 case round =>
  obtain⟨k,rfl,hk,hall,hBr⟩:=hrel
  have HAl:=Lib.hid hall
  have HB:=Lib.hid hBr
  clear hall
  by_cases hlt:k < l.length
  ·obtain⟨b,off,ha⟩:=HA.out.resolve_left (by omega)
   subst ha
   obtain⟨c0,c1,c2,c3⟩:=(HE.out.keep (keeps_of_below hBr)).get rfl hlt
   have HC:=Lib.hid ((HF.out (l[k]'hlt) (List.getElem_mem hlt) wr hBr).mono fun e w2 h=>(⟨h.1,hBr.trans (h.2.mono hBr.size)⟩:_∧Below w.heap.size w w2))
   (try simp only[weightVal] at HC)
   clear hBr
   cases he:p (l[k]'hlt)
   ·go_wp2_with fail
    refine HC.out.mono ?_
    rintro e w2 ⟨rfl,hb2⟩
    rw[he]
    have HB2:=Lib.hid hb2
    clear hb2
    (try clear c0);(try clear c1);(try clear c2);(try clear c3)
    go_wp2_with fail
    go_roundw
    case rel=>exact⟨k+1,by go_num,by omega,fun j hj hjk=>by
     by_cases e:j=k
     ·subst e;exact he
     ·exact HAl.out j hj (by omega),HB2.out⟩
    case measure=>simp[intOf];omega
   ·have HY:=Lib.hid (idxP_at p l k 0 hlt (fun j hj=>HAl.out j (by omega) hj) he)
    go_wp2_with fail
    refine HC.out.mono ?_
    rintro e w2 ⟨rfl,hb2⟩
    rw[he]
    have HB2:=Lib.hid hb2
    clear hb2
    (try clear c0);(try clear c1);(try clear c2);(try clear c3)
    go_wp2_with fail
    go_ret
    exact⟨by rw[HY.out];rfl,HB2.out⟩
  ·obtain rfl:k=l.length:=by omega
   have HN:=Lib.hid (idxP_none p l 0 (fun j hj=>HAl.out j hj hj))
   go_wp2_with fail
   go_ret
   exact⟨by rw[HN.out];rfl,HB.out⟩
end Go.Proofs.YtcplmcjbkpmhdaaGreatDoor
namespace Go.Proofs.YtcplmcjbkpmhdaaGreatDoor
open Go.RowKit
attribute [local go_sem ↓] Go.wp_at_zero Go.wp_at_succ
set_option maxHeartbeats 1000000 in
theorem softNumber_any (n:Int) (w:World):Calls Tryz.prog 195 #[.int .i64 n] w fun e w'=>e=.returned (.agg #[.int .i64 1,.int .i64 n,.string ⟨#[]⟩,.slice none 0 0])∧Below w.heap.size w w':=by
 go_enter Tryz.func195, Tryz.ntmps195
 go_wp2_with fail
 refine bodyPost_ret (v:=.agg #[.int .i64 1,.int .i64 n,.string ⟨#[]⟩,.slice none 0 0]) (by simp[results, Tryz.results195,go_sem]) rfl ⟨rfl,bel⟩
set_option maxHeartbeats 1000000 in
theorem r22number_any (n:Int) (w:World):Calls Tryz.prog 252 #[.int .i64 n] w fun e w'=>e=.returned (.agg #[.int .i64 1,.int .i64 n,.string ⟨#[]⟩,.slice none 0 0])∧Below w.heap.size w w':=by
 go_enter Tryz.func252, Tryz.ntmps252
 go_wp2_with fail
 refine bodyPost_ret (v:=.agg #[.int .i64 1,.int .i64 n,.string ⟨#[]⟩,.slice none 0 0]) (by simp[results, Tryz.results252,go_sem]) rfl ⟨rfl,bel⟩
set_option maxHeartbeats 2000000 in
theorem Positive_any (l:List WeightD) (a:Option Addr) (cap:Nat) (v:Int) (w:World) (hE:WeightsIn w l a cap) :
  Calls Tryz.prog 78 #[.slice a l.length cap,.int .i64 v] w fun e w'=>e=.returned (.bool (posW l v))∧w=w':=by
 have hlen:=hE.2.1
 have HE:=Lib.hid hE
 have HA:=Lib.hid hE.addr
 clear hE
 go_enter Tryz.func78, Tryz.ntmps78
 go_wp2_with fail
 go_loop [5] (fun i=>∃ k:Nat,i=.int .i64 k∧k≤l.length∧Hid (posW l v=posW (l.drop k) v)) (fun i=>l.length - (intOf i).toNat)
 case atStart=>exact⟨0,rfl,Nat.zero_le _,rfl⟩
 case round =>
  obtain⟨k,rfl,hk,HS⟩:=hrel
  by_cases hlt:k < l.length
  ·obtain⟨b,off,ha⟩:=HA.out.resolve_left (by omega)
   subst ha
   obtain⟨c0,c1,c2,c3⟩:=HE.out.get rfl hlt
   have HD:=Lib.hid (HS.out.trans (posW_drop hlt v))
   generalize (l[k]'hlt)=x at c0 c1 c2 c3 HD
   obtain⟨lo,hi,wt,each⟩:=x
   simp only at c0 c1 c2 c3 HD
   by_cases h1:lo≤v
   ·have d1:decide (lo≤v)=true:=by simpa using h1
    by_cases h2:v≤hi
    ·have d2:decide (v≤hi)=true:=by simpa using h2
     have HP:=Lib.hid (HD.out.trans (if_pos ⟨h1,h2⟩))
     clear h1 h2 HD
     go_wp2_with fail
     go_ret
     exact⟨by rw[HP.out];rfl,rfl⟩
    ·have d2:decide (v≤hi)=false:=by simpa using h2
     have HP:=Lib.hid (HD.out.trans (if_neg (fun h=>h2 h.2)))
     clear h1 h2 HD
     go_wp2_with fail
     go_round
     case rel=>exact⟨k+1,by go_num,by omega,HP.out⟩
     case measure=>simp[intOf];omega
   ·have d1:decide (lo≤v)=false:=by simpa using h1
    have HP:=Lib.hid (HD.out.trans (if_neg (fun h=>h1 h.1)))
    clear h1 HD
    go_wp2_with fail
    go_round
    case rel=>exact⟨k+1,by go_num,by omega,HP.out⟩
    case measure=>simp[intOf];omega
  ·obtain rfl:k=l.length:=by omega
   have HP:Hid (posW l v=false):=by show _=_;rw[HS.out,List.drop_of_length_le (Nat.le_refl _)];rfl
   go_wp2_with fail
   go_ret
   exact⟨by rw[HP.out];rfl,rfl⟩
def inW (v:Int) (x:WeightD):Bool:=decide (x.lo≤v) && decide (v≤x.hi)
set_option maxHeartbeats 1000000 in
theorem suppClo_any (x:WeightD) (c:Nat) (v:Int) (w:World) (hc:w.cell? ⟨c,0,none⟩=some (.int .i64 v)) :
  Calls Tryz.prog 143 #[weightVal x,.pointer (some ⟨c,0,none⟩)] w fun e w'=>e=.returned (.bool (inW v x))∧Below w.heap.size w w':=by
 have hlt:=World.block_lt_of_cell? _ _ hc
 simp only at hlt
 have hcA:∀ o,(w.alloc o).cell? ⟨c,0,none⟩=_:=fun o=>(World.cell?_alloc_lt _ _ _ hlt).trans hc
 have HR:Hid (inW v x=(decide (x.lo≤v) && decide (v≤x.hi))):=rfl
 unfold weightVal
 obtain⟨lo,hi,wt,each⟩:=x
 simp only at HR⊢
 cases d1:decide (lo≤v)
 ·rw[d1] at HR
  go_enter Tryz.func143, Tryz.ntmps143
  go_wp2_with fail
  go_ret
  exact⟨by rw[HR.out];rfl,bel⟩
 ·rw[d1] at HR
  go_enter Tryz.func143, Tryz.ntmps143
  go_wp2_with fail
  go_ret
  exact⟨by rw[HR.out];rfl,bel⟩
theorem posW_first (l:List WeightD) (v:Int):(idxP (inW v) l 0=-1∧posW l v=false)∨∃ k,∃ h:k < l.length,idxP (inW v) l 0=(k:Int)∧posW l v=decide (0 < (l[k]'h).weight):=by
 have key:∀ j,j≤l.length→(∀ i (h:i < l.length),i < j→inW v (l[i]'h)=false)→posW l v=posW (l.drop j) v:=by
  intro j
  induction j with
  | zero=>intro _ _;rfl
  | succ j ih =>
   intro hj hall
   rw[ih (by omega) (fun i hi hij=>hall i hi (by omega)),posW_drop (show j < l.length by omega) v]
   have hf:=hall j (by omega) (by omega)
   unfold inW at hf
   rw[if_neg (fun ⟨h1,h2⟩=>by rw[decide_eq_true h1,decide_eq_true h2] at hf;simp at hf)]
 by_cases hex:∃ k,∃ h:k < l.length,inW v (l[k]'h)=true∧∀ i (hi:i < k),inW v (l[i]'(by omega))=false
 ·obtain⟨k,hk,h1,h2⟩:=hex
  refine Or.inr ⟨k,hk,by simpa using idxP_at (inW v) l k 0 hk h2 h1,?_⟩
  rw[key k (by omega) (fun i hi hik=>h2 i hik),posW_drop hk v]
  unfold inW at h1
  simp only[Bool.and_eq_true,decide_eq_true_eq] at h1
  rw[if_pos h1]
 ·have hall:∀ j (h:j < l.length),inW v (l[j]'h)=false:=by
   intro j
   induction j using Nat.strongRecOn with
   | _ j ih =>
    intro h
    cases hc:inW v (l[j]'h)
    ·rfl
    ·exact absurd ⟨j,h,hc,fun i hi=>ih i hi (by omega)⟩ hex
  refine Or.inl ⟨idxP_none _ _ _ hall,?_⟩
  rw[key l.length (Nat.le_refl _) (fun i hi _=>hall i hi),List.drop_of_length_le (Nat.le_refl _)]
  rfl
end Go.Proofs.YtcplmcjbkpmhdaaGreatDoor
namespace Go.Proofs.YtcplmcjbkpmhdaaGreatDoor
open Go.RowKit
attribute [local go_sem ↓] Go.wp_at_zero Go.wp_at_succ
theorem elemRng:Elem Tryz.prog 159 202 2:=Elem.of Tryz.underlying159 (by kernel_rfl) (z:=.agg #[.int .i64 0,.int .i64 0]) (bytes:=16) rfl (by decide) (by decide)
def natV (n:Nat):Value:=.int .i64 (n:Int)
def RngRet (w:World) (F:List Nat) (e:Ending) (w':World):Prop:=∃ v,e=.returned v∧w'.ownsRow w.heap.size 202 2 v (F.length / 2) (F.map natV)∧Below w.heap.size w w'
def rngTo (l:List Nat) (k:Nat):List Nat:=(l.take k).foldl flatStep []
theorem rngTo_succ {l:List Nat} {k:Nat} (h:k < l.length):rngTo l (k+1)=flatStep (rngTo l k) (l[k]'h):=by
 unfold rngTo
 rw[List.take_succ_eq_append_getElem h,List.foldl_append]
 rfl
theorem rngTo_even (l:List Nat) (k:Nat):(rngTo l k).length % 2=0:=flat_even _ _ rfl
theorem flatStep_len (F:List Nat) (n:Nat):(flatStep F n).length≤F.length+2:=by
 unfold flatStep
 split
 ·simp;omega
 ·simp
theorem rngTo_len (l:List Nat):∀ k,k≤l.length→(rngTo l k).length≤2 * k:=by
 intro k
 induction k with
 | zero=>intro _;simp[rngTo]
 | succ k ih =>
  intro hk
  rw[rngTo_succ (show k < l.length by omega)]
  have:=flatStep_len (rngTo l k) (l[k]'(by omega))
  have:=ih (by omega)
  omega
theorem flat_case {F:List Nat} (n:Nat) (he:F.length % 2=0):(F.length / 2=0∧flatStep F n=F++[n,n])∨(∃ m z,F.length / 2=m+1∧F[m * 2+1]? = some z∧((z+1=n∧flatStep F n=F.set (m * 2+1) n)∨(z+1≠n∧flatStep F n=F++[n,n]))):=by
 by_cases h0:F.length=0
 ·have:F=[]:=List.eq_nil_of_length_eq_zero h0
  subst this
  exact Or.inl ⟨rfl,rfl⟩
 ·have hne:F≠[]:=fun e=>h0 (by rw[e];rfl)
  refine Or.inr ⟨F.length / 2 - 1,F[F.length - 1]'(by omega),by omega,?_,?_⟩
  ·rw[show (F.length / 2 - 1) * 2+1=F.length - 1 from by omega]
   exact List.getElem?_eq_getElem _
  ·have hl:F.getLast? = some (F[F.length - 1]'(by omega)):=by
    rw[List.getLast?_eq_getElem?,List.getElem?_eq_getElem (by omega)]
   unfold flatStep
   rw[hl]
   simp only[Option.map_some,Option.some.injEq]
   by_cases hz:F[F.length - 1]'(by omega)+1=n
   ·refine Or.inl ⟨hz,?_⟩
    rw[if_pos hz,show (F.length / 2 - 1) * 2+1=F.length - 1 from by omega]
    apply List.ext_getElem
    ·simp;omega
    ·intro i h1 h2
     by_cases e:i=F.length - 1
     ·subst e
      rw[List.getElem_set_self,List.getElem_append_right (by simp)]
      simp
     ·simp at h1 h2
      rw[List.getElem_set_ne (by omega),List.getElem_append_left (by simp;omega),List.getElem_dropLast]
   ·exact Or.inr ⟨hz,if_neg hz⟩
set_option maxRecDepth 100000 in
set_option maxHeartbeats 4000000 in
theorem ranges_any (l:List Nat) (a:Option Addr) (cap:Nat) (w:World) (hI:IntsIn w (l.map fun (n:Nat)=>(n:Int)) a cap) (hb:∀ n,n∈l→n≤1048576) :
  Calls Tryz.prog 145 #[.slice a l.length cap] w fun e w'=>RngRet w (rngTo l l.length) e w':=by
 have HI:=Lib.hid hI
 have HA:=Lib.hid hI.addr
 have hlen:=hI.2.1
 rw[List.length_map] at hlen
 have Hb:=Lib.hid hb
 clear hI hb
 go_enter Tryz.func145, Tryz.ntmps145
 go_wp2_with fail
 go_loopw [3,9,5,6] (fun v i _ _ wr=>∃ k:Nat,i=.int .i64 k∧k≤l.length∧wr.ownsRow w.heap.size 202 2 v ((rngTo l k).length / 2) ((rngTo l k).map natV)∧Below w.heap.size w wr) (fun _ i _ _ _=>l.length - (intOf i).toNat)
 case atStart=>exact⟨0,rfl,Nat.zero_le _,by rw[show rngTo l 0=[] from rfl];exact World.ownsRow_nil _ _ _ _,Below.refl _ _⟩
 case round =>
  obtain⟨k,rfl,hk,hown,hB⟩:=hrel
  have HO:=Lib.hid hown
  have HB:=Lib.hid hB
  have hzr:=hB.size
  have hml:=rngTo_len l k hk
  clear hB
  by_cases hlt:k < l.length
  ·obtain⟨b,off,ha⟩:=HA.out.resolve_left (by rw[List.length_map];omega)
   subst ha
   have c0:=(keeps_of_below HB.out) _ _ (intsIn_get HI.out rfl (show k < (l.map fun (n:Nat)=>(n:Int)).length by rw[List.length_map];exact hlt))
   rw[List.getElem_map] at c0
   have hnb:=Hb.out _ (List.getElem_mem hlt)
   have HS:=Lib.hid (rngTo_succ hlt)
   generalize (l[k]'hlt)=n at c0 hnb HS
   have hcase:=flat_case n (rngTo_even l k)
   generalize rngTo l k=F at *
   have hnw:IntKind.i64.wrap ((n:Int) - 1)=(n:Int) - 1:=by rw[IntKind.wrap_i64];omega
   rcases hcase with ⟨h0,hF⟩ | ⟨m,z,hm,hz,⟨hzn,hF⟩ | ⟨hzn,hF⟩⟩
   ·have HF:=Lib.hid (HS.out.trans hF)
    rw[h0] at hown
    have HO0:=Lib.hid hown
    obtain⟨va,vc,hv,_⟩:=slice_of_own hown (by omega)
    subst hv
    have HF0:=Lib.hid h0
    clear hown HS hF h0
    go_wp2_with (at_builtin;go_must (refine own_app elemRng _ rfl (.tmp 33) (.tmp 37) rfl w.heap.size _ 0 _ rfl HO0.out [.int .i64 n,.int .i64 n] rfl (by simp[Value.oneCell']) _ 1 rfl (by simp) (by omega) (by omega) ?_))
    intro v' w3 hown3 hg3
    have HO3:=Lib.hid hown3
    have HB3:=Lib.hid (Below.grown (HB.out.alloc (by omega) _) hg3 (by simp;omega) (fun q hq=>(HO0.out.lt q hq).1))
    clear hown3 hg3
    go_wp2_with fail
    go_roundw
    case rel=>exact⟨k+1,by go_num,by omega,by rw[HF.out,List.map_append,List.length_append];have h1:=HF0.out;have h2:=HO3.out;rw[show (F.length+[n,n].length) / 2=0+1 from by simp;omega];exact h2,HB3.out⟩
    case measure=>simp[intOf];omega
   ·have HF:=Lib.hid (HS.out.trans hF)
    rw[hm] at hown
    obtain⟨va,vc,hv,_⟩:=slice_of_own hown (by omega)
    subst hv
    have hF0:F.length=(m+1) * 2:=by have:=hown.1;rw[List.length_map] at this;exact this
    obtain⟨g,hg,hgB⟩:∃ g,va=some ⟨g,0,none⟩∧w.heap.size≤g:=by
     rcases hown.2 with ⟨h1,h2⟩ | ⟨g,_,_,h1,h2,_⟩
     ·omega
     ·injection h1 with e1 e2 e3;exact⟨g,e1,h2⟩
    subst hg
    have hcz:=hown.cellAt (m * 2+1) (by omega)
    rw[List.getElem?_map,hz] at hcz
    simp only[Option.map_some,natV] at hcz
    have hfz:=hown.frozenAt (m * 2+1)
    have hst:=(hown.stored (m * 2+1) (.int .i64 n)).1
    have HSt:=Lib.hid hst
    have hzz:((z:Int) == (n:Int) - 1)=true:=by simp;omega
    have hmw:IntKind.i64.wrap (((m+1:Nat):Int) - 1)=(m:Int):=by rw[IntKind.wrap_i64];omega
    have hmw2:IntKind.i64.wrap (m:Int)=(m:Int):=by rw[IntKind.wrap_i64];omega
    have HFl:=Lib.hid hF0
    clear hown HS hF hst hz hzn hm hF0
    go_wp2_with fail
    go_roundw
    case rel=>exact⟨k+1,by go_num,by omega,by rw[HF.out,List.length_set,HFl.out,show (m+1) * 2 / 2=m+1 from by omega,List.map_set];exact HSt.out,Below.setCell (p:=⟨g,m * 2+1,none⟩) HB.out hgB _⟩
    case measure=>simp[intOf];omega
   ·have HF:=Lib.hid (HS.out.trans hF)
    rw[hm] at hown
    have HO0:=Lib.hid hown
    obtain⟨va,vc,hv,_⟩:=slice_of_own hown (by omega)
    subst hv
    have hF0:F.length=(m+1) * 2:=by have:=hown.1;rw[List.length_map] at this;exact this
    obtain⟨g,hg,hgB⟩:∃ g,va=some ⟨g,0,none⟩∧w.heap.size≤g:=by
     rcases hown.2 with ⟨h1,h2⟩ | ⟨g,_,_,h1,h2,_⟩
     ·omega
     ·injection h1 with e1 e2 e3;exact⟨g,e1,h2⟩
    subst hg
    have hcz:=hown.cellAt (m * 2+1) (by omega)
    rw[List.getElem?_map,hz] at hcz
    simp only[Option.map_some,natV] at hcz
    have hzz:((z:Int) == (n:Int) - 1)=false:=by simp;omega
    have hmw:IntKind.i64.wrap (((m+1:Nat):Int) - 1)=(m:Int):=by rw[IntKind.wrap_i64];omega
    have hmw2:IntKind.i64.wrap (m:Int)=(m:Int):=by rw[IntKind.wrap_i64];omega
    have HFl:=Lib.hid hF0
    have hmb:m+1≤1073741824:=by omega
    clear hown HS hF hz hzn hm hF0
    go_wp2_with (at_builtin;go_must (refine own_app elemRng _ rfl (.tmp 33) (.tmp 37) rfl w.heap.size _ (m+1) _ rfl HO0.out [.int .i64 n,.int .i64 n] rfl (by simp[Value.oneCell']) _ 1 rfl (by simp) (by omega) (by omega) ?_))
    intro v' w3 hown3 hg3
    have HO3:=Lib.hid hown3
    have HB3:=Lib.hid (Below.grown (HB.out.alloc (by omega) _) hg3 (by simp;omega) (fun q hq=>(HO0.out.lt q hq).1))
    clear hown3 hg3
    go_wp2_with fail
    go_roundw
    case rel=>exact⟨k+1,by go_num,by omega,by rw[HF.out,List.map_append,List.length_append,HFl.out];rw[show ((m+1) * 2+[n,n].length) / 2=m+1+1 from by simp];exact HO3.out,HB3.out⟩
    case measure=>simp[intOf];omega
  ·obtain rfl:k=l.length:=by omega
   go_wp2_with fail
   go_ret
   exact⟨_,rfl,HO.out,HB.out⟩
theorem own_stepm {P:Program} {w:World} {ops:Array Oper} {o:Oper} {a:Act} {K:Act→World→Prop} {Q:Exit→Act→World→Prop} {E:Prop} {t e:TypeId} {size:Nat} (he:Elem P t e size) (hgd:o.guard=none) (s x:Operand)
  (ho:o.op=.call { callee:=.builtin .append,args:=#[s,x],argTypes:=#[t,t] })
  (base:Nat) (v:Value) (n:Nat) (xs:List Value) (hs:a.eval s=v) (hown:w.ownsRow base e size v n xs)
  (news:List Value) (m:Nat) (hl:news.length=m * size) (h1:∀ u∈news,u.oneCell'=true) (k c:Nat) (hx:a.eval x=.slice (some ⟨k,0,none⟩) m c) (hk:w.heap[k]? = some (.cells news.toArray e (0,0))) (hm:0 < m) (hn:n+m≤1073741824) (hbase:base≤w.heap.size) (H:Nat) (hH:w.heap.size=H)
  (h:∀ g cap w',w'.ownsRow base e size (.slice (some ⟨g,0,none⟩) (n+m) cap) (n+m) (xs++news)→w.grownBy w' v.ownBlock→(v.ownBlock=some g∨g=H)→g < w'.heap.size→K (a.put o.dst (.slice (some ⟨g,0,none⟩) (n+m) cap)) w') :
  if Region.wanted o (yielded ops a.tmps)=true then Oper.wp P o a w K Q else E:=by
 obtain⟨ht,i,z,bytes,hi,hz,hsz,hby,hzs,h0,hb⟩:=he
 refine step_append_lies w hgd s x t ho base e i z size bytes ht hi hz hsz hby hzs h0 v n xs hs hown ⟨k,0,none⟩ m c news hx hl ?_ h1 hm (by unfold maxLen;omega) ?_ hbase H hH h
 ·have:=World.news_of_block hk
  simpa using this
 ·calc (n+m) * bytes≤1073741824 * 1024:=Nat.mul_le_mul hn hb
   _≤_:=by decide
theorem exIn_leaf (w:World) (op n:Int) (s:ByteArray) (hs:s.size≤1073741824):ExIn w (.mk op n s []) none 0:=⟨hs,⟨by simp[Ex.args_mk],by simp[Ex.args_mk],Or.inl rfl⟩⟩
theorem exRow_leaf (w:World) (op n:Int) (s:ByteArray) (hs:s.size≤1073741824):ExRow w [.mk op n s []] [.int .i64 op,.int .i64 n,.string s,.slice none 0 0]:=by
 refine⟨rfl,fun i hi=>?_⟩
 have hi':i=0:=by simp at hi;exact hi
 subst hi'
 exact⟨none,0,rfl,rfl,rfl,rfl,exIn_leaf w op n s hs⟩
def Agree (S:Nat→Prop) (w w':World):Prop:=∀ (p:Addr) v,S p.block→w.cell? p=some v→w'.cell? p=some v
theorem Agree.trans {S:Nat→Prop} {a b c:World} (h:Agree S a b) (k:Agree S b c):Agree S a c:=fun p v hp hc=>k p v hp (h p v hp hc)
theorem Agree.mono {S T:Nat→Prop} {a b:World} (h:Agree T a b) (hST:∀ k,S k→T k):Agree S a b:=fun p v hp hc=>h p v (hST _ hp) hc
theorem agree_below {S:Nat→Prop} {w w':World} (hb:Below w.heap.size w w'):Agree S w w':=fun p v _ hc=>keeps_of_below hb p v hc
theorem agree_set {S:Nat→Prop} {w:World} {b:Nat} (hb:¬ S b) (o:Nat) (u:Value):Agree S w (w.setCell ⟨b,o,none⟩ u):=fun p v hp hc=>by
 rw[World.cell?_of_block (Below.heap_setCell w ⟨b,o,none⟩ u p.block (fun e=>hb (by have h2:p.block=b:=e;rw[← h2];exact hp)))]
 exact hc
def ExOn (S:Nat→Prop) (w:World) (e:Ex) (a:Option Addr) (cap:Nat):Prop:=∀ w',Agree S w w'→ExIn w' e a cap
theorem ExOn.keep {S:Nat→Prop} {w w':World} {e:Ex} {a:Option Addr} {cap:Nat} (h:ExOn S w e a cap) (hk:Agree S w w'):ExOn S w' e a cap:=fun w2 h2=>h w2 (hk.trans h2)
theorem ExOn.mono {S T:Nat→Prop} {w:World} {e:Ex} {a:Option Addr} {cap:Nat} (h:ExOn S w e a cap) (hST:∀ k,S k→T k):ExOn T w e a cap:=fun w' h'=>h w' (h'.mono hST)
theorem exOn_leaf (S:Nat→Prop) (w:World) (op n:Int) (s:ByteArray) (hs:s.size≤1073741824):ExOn S w (.mk op n s []) none 0:=fun w' _=>exIn_leaf w' op n s hs
def ExRowOn (S:Nat→Prop) (w:World) (l:List Ex) (xs:List Value):Prop:=∀ w',Agree S w w'→ExRow w' l xs
theorem ExRowOn.keep {S:Nat→Prop} {w w':World} {l:List Ex} {xs:List Value} (h:ExRowOn S w l xs) (hk:Agree S w w'):ExRowOn S w' l xs:=fun w2 h2=>h w2 (hk.trans h2)
theorem ExRowOn.append {S:Nat→Prop} {w:World} {l l':List Ex} {xs ys:List Value} (h:ExRowOn S w l xs) (h':ExRowOn S w l' ys):ExRowOn S w (l++l') (xs++ys):=fun w2 h2=>(h w2 h2).append (h' w2 h2)
theorem exRowOn_nil (S:Nat→Prop) (w:World):ExRowOn S w [] []:=fun w' _=>ExRow.nil w'
theorem ExOn.row {S:Nat→Prop} {w:World} {e:Ex} {a:Option Addr} {cap:Nat} (h:ExOn S w e a cap):ExRowOn S w [e] [.int .i64 e.op,.int .i64 e.n,.string e.name,.slice a e.args.length cap]:=fun w' h'=>by
 refine⟨rfl,fun i hi=>?_⟩
 have hi':i=0:=by simp at hi;exact hi
 subst hi'
 exact⟨a,cap,rfl,rfl,rfl,rfl,h w' h'⟩
theorem exsOn_own {S:Nat→Prop} {w:World} {base:Nat} {e:TypeId} {l:List Ex} {xs:List Value} {a:Option Addr} {n c:Nat} (h:w.ownsRow base e 4 (.slice a n c) l.length xs) (hr:ExRowOn S w l xs) (hS:∀ g,(Value.slice a n c).ownBlock=some g→S g) (hn:l.length≤1073741824):∀ w',Agree S w w'→ExsIn w' l a c:=by
 intro w' hw
 obtain⟨a',c',hv,hs⟩:=slice_of_own h hn
 injection hv with e1 e2 e3
 subst e1 e3
 refine⟨hs.1,hs.2.1,?_⟩
 rcases hs.2.2 with h0 | ⟨b,off,ha,hq⟩
 ·exact Or.inl h0
 ·refine Or.inr ⟨b,off,ha,fun i hi=>?_⟩
  have hSb:S b:=hS b (by rw[ha];rfl)
  obtain⟨a2,c2,h0,h1,h2,h3,h4⟩:=(hr w' hw).2 i hi
  refine⟨l[i],List.getElem?_eq_getElem hi,?_⟩
  rw[ExAt_iff]
  exact⟨a2,c2,hw ⟨b,_,none⟩ _ hSb ((hq i hi 0 (by omega)).trans h0),hw ⟨b,_,none⟩ _ hSb ((hq i hi 1 (by omega)).trans h1),hw ⟨b,_,none⟩ _ hSb ((hq i hi 2 (by omega)).trans h2),hw ⟨b,_,none⟩ _ hSb ((hq i hi 3 (by omega)).trans h3),h4⟩
def ExRet (w:World) (x:Ex) (e:Ending) (w':World):Prop:=∃ a cap,e=.returned (.agg #[.int .i64 x.op,.int .i64 x.n,.string x.name,.slice a x.args.length cap])∧ExOn (w.heap.size≤·) w' x a cap∧Below w.heap.size w w'
def RngIn (w:World) (bs:List Nat) (n:Nat) (a:Option Addr) (cap:Nat):Prop:=bs.length=n * 2∧SliceIn 2 n a cap (fun i b o=>∀ j,j < 2→w.cell? ⟨b,o+j,none⟩=(bs.map natV)[i * 2+j]?)
theorem RngIn.keep {w w':World} (hk:∀ a v,w.cell? a=some v→w'.cell? a=some v) {bs:List Nat} {n:Nat} {a:Option Addr} {cap:Nat} (h:RngIn w bs n a cap):RngIn w' bs n a cap :=
 ⟨h.1,h.2.mono fun i b o hi hq j hj=>by
  have h1:=hq j hj
  have h0:=h.1
  rw[List.getElem?_eq_getElem (by rw[List.length_map];omega)] at h1⊢
  exact hk _ _ h1⟩
theorem rngIn_of_own {w:World} {base:Nat} {v:Value} {F:List Nat} (h:w.ownsRow base 202 2 v (F.length / 2) (F.map natV)) (hn:F.length≤1073741824):∃ a cap,v=.slice a (F.length / 2) cap∧RngIn w F (F.length / 2) a cap:=by
 obtain⟨a,cap,hv,hS⟩:=slice_of_own h (by omega)
 exact⟨a,cap,hv,by have:=h.1;rw[List.length_map] at this;exact this,hS⟩
theorem iE_args (s:ByteArray) (bs:List Nat):(iE s bs).args=vE s::bs.map fun (n:Nat)=>cE (n:Int):=rfl
theorem iE_len (s:ByteArray) (bs:List Nat):(iE s bs).args.length=bs.length+1:=by rw[iE_args];simp
theorem take_two {α:Type} {l:List α} {k:Nat} (h0:2 * k < l.length) (h1:2 * k+1 < l.length):l.take (2 * (k+1))=l.take (2 * k)++[l[2 * k]'h0,l[2 * k+1]'h1]:=by
 rw[show 2 * (k+1)=2 * k+1+1 from by omega,List.take_succ_eq_append_getElem h1,List.take_succ_eq_append_getElem h0,List.append_assoc]
 rfl
theorem box_free {w wr:World} {c:Array Value} {t:TypeId} (h:Below (w.heap.size+1) (w.alloc (.cells c t)) wr) (j:Nat):wr.frozen? ⟨w.heap.size,j,none⟩=false :=
 (h.frozen (p:=⟨w.heap.size,j,none⟩) (by simp)).trans (by simp)
set_option maxRecDepth 100000 in
set_option maxHeartbeats 4000000 in
theorem inside_any (s:ByteArray) (bs:List Nat) (n:Nat) (a:Option Addr) (cap:Nat) (w:World) (hs:s.size≤1073741824) (hR:RngIn w bs n a cap) (hn16:n≤1048576) :
  Calls Tryz.prog 196 #[.string s,.slice a n cap] w fun e w'=>ExRet w (iE s bs) e w':=by
 have hlen:=hR.2.2.1
 have HR:=Lib.hid hR
 have HA:=Lib.hid hR.2.addr
 have hbl:=hR.1
 clear hR
 have HB0:Hid (Below w.heap.size w ((w.alloc (.cells #[.int .i64 0,.int .i64 0,.string ⟨#[]⟩,.slice none 0 0] 55)).alloc (.cells #[.int .i64 2,.int .i64 0,.string s,.slice none 0 0] 55))):=((Below.refl _ _).alloc (Nat.le_refl _) _).alloc (by simp) _
 go_enter Tryz.func196, Tryz.ntmps196
 go_wp2_with fail
 have HO0:Hid (((w.alloc (.cells #[.int .i64 0,.int .i64 0,.string ⟨#[]⟩,.slice none 0 0] 55)).alloc (.cells #[.int .i64 2,.int .i64 0,.string s,.slice none 0 0] 55)).ownsRow (w.heap.size+1) 55 4 (.slice (some ⟨w.heap.size+1,0,none⟩) 1 1) 1 [.int .i64 2,.int .i64 0,.string s,.slice none 0 0]):=by
  have h:=World.ownsRow_lit (base:=w.heap.size+1) (e:=55) (size:=4) (w.alloc (.cells #[.int .i64 0,.int .i64 0,.string ⟨#[]⟩,.slice none 0 0] 55)) #[.int .i64 2,.int .i64 0,.string s,.slice none 0 0] 1 (by simp) (by unfold maxLen;omega) rfl
  rw[World.size_alloc] at h
  exact h
 have HBx:Hid (Below (w.heap.size+1) (w.alloc (.cells #[.int .i64 0,.int .i64 0,.string ⟨#[]⟩,.slice none 0 0] 55)) ((w.alloc (.cells #[.int .i64 0,.int .i64 0,.string ⟨#[]⟩,.slice none 0 0] 55)).alloc (.cells #[.int .i64 2,.int .i64 0,.string s,.slice none 0 0] 55))):=(Below.refl _ _).alloc (by simp) _
 have HX0:=Lib.hid (fun W=>exRow_leaf W 2 0 s hs)
 go_loopw [5,13,7] (fun v i _ wr=>∃ (k:Nat) (xs:List Value),i=.int .i64 k∧k≤n∧wr.ownsRow (w.heap.size+1) 55 4 v (1+2 * k) xs∧Hid (∀ W,ExRow W (vE s::(bs.take (2 * k)).map fun (n:Nat)=>cE (n:Int)) xs)∧Hid (Below (w.heap.size+1) (w.alloc (.cells #[.int .i64 0,.int .i64 0,.string ⟨#[]⟩,.slice none 0 0] 55)) wr)) (fun _ i _ _=>n - (intOf i).toNat)
 case atStart=>exact⟨0,_,rfl,Nat.zero_le _,HO0.out,HX0.out,HBx.out⟩
 case round =>
  obtain⟨k,xs,rfl,hk,hown,HX,HB⟩:=hrel
  have HBw:Hid (Below w.heap.size w wr):=boxW _ HB.out
  have HO:=Lib.hid hown
  obtain⟨va,vc,hv,_⟩:=slice_of_own hown (by omega)
  subst hv
  have hzr:=HB.out.size
  simp only[World.size_alloc] at hzr
  clear hown
  by_cases hlt:k < n
  ·obtain⟨b,off,ha⟩:=HA.out.resolve_left (by omega)
   subst ha
   have hq:=SliceIn.at HR.out.2 rfl hlt
   have h20:2 * k < bs.length:=by omega
   have h21:2 * k+1 < bs.length:=by omega
   have c0:=(hq 0 (by omega)).trans (show _=some (natV (bs[2 * k]'h20)) from by rw[show k * 2+0=2 * k from by omega,List.getElem?_map,List.getElem?_eq_getElem h20];rfl)
   have c1:=(hq 1 (by omega)).trans (show _=some (natV (bs[2 * k+1]'h21)) from by rw[show k * 2+1=2 * k+1 from by omega,List.getElem?_map,List.getElem?_eq_getElem h21];rfl)
   have HT:=Lib.hid (take_two h20 h21)
   generalize bs[2 * k]'h20=lo at c0 HT
   generalize bs[2 * k+1]'h21=hi at c1 HT
   simp only[natV,Nat.add_zero] at c0 c1
   have kk:=keeps_of_below HBw.out
   have c0:=kk _ _ c0
   have c1:=kk _ _ c1
   have HNum:=Lib.hid (fun (m:Int) W (hW:Below wr.heap.size wr W)=>(softNumber_any m W).mono fun e w' h=>(⟨h.1,hW.trans (h.2.mono hW.size),HB.out.trans ((hW.trans (h.2.mono hW.size)).mono (by simpa using hzr)),(bcell h.2).1,h.2.size⟩:_∧Below wr.heap.size wr w'∧Below (w.heap.size+1) (w.alloc (.cells #[.int .i64 0,.int .i64 0,.string ⟨#[]⟩,.slice none 0 0] 55)) w'∧_∧_))
   have HOk:=Lib.hid (fun W (hW:Below wr.heap.size wr W)=>ownsRow_below HO.out hW)
   have HXk:=Lib.hid (fun W=>(HX.out W).append ((exRow_leaf W 1 lo ⟨#[]⟩ (by decide)).append (exRow_leaf W 1 hi ⟨#[]⟩ (by decide))))
   clear kk hq HX
   go_wp2_with fail
   go_region_held3 (fun w'=>Below (w.heap.size+1) (w.alloc (.cells #[.int .i64 0,.int .i64 0,.string ⟨#[]⟩,.slice none 0 0] 55)) w'∧w'.cell? ⟨wr.heap.size,0,none⟩=some (.int .i64 lo)∧w'.cell? ⟨wr.heap.size,1,none⟩=some (.int .i64 hi))
    ((repeat' (refine And.intro ?_ ?_))<;>first | assumption | exact keeps_of_below (by assumption) _ _ (by assumption) | go_keep | exact(hcn _ _ (by omega)).trans (by assumption) | exact(hcn _ _ (by omega)).trans ((by assumption:Below _ _ _∧_∧_).2.1) | exact(hcn _ _ (by omega)).trans ((by assumption:Below _ _ _∧_∧_).2.2) | (refine(World.cell?_alloc_lt _ _ _ ?_).trans (by assumption);have:=(by assumption:Below wr.heap.size wr _).size;simp only;omega) | exact own_far HO.out hgrow (by go_keep) (Or.inr (Nat.le_refl _)) | exact own_far HO.out hgrow ((World.cell?_alloc_lt _ _ _ (by simp only;omega)).trans (by assumption)) (Or.inr (Nat.le_refl _)) | exact Below.grown (Below.alloc (by assumption) (by omega) _) hgrow (by simp only[World.size_alloc];omega) (fun q hq=>(HO.out.lt q hq).1) | exact HB.out.drew | exact HB.out | exact(HB.out.alloc (by omega) _).drew | exact HB.out.alloc (by omega) _ | exact Below.alloc (by assumption) (by omega) _)
    (first | (go_at_call 195;(with_reducible refine(HNum.out _ _ (by first | assumption | exact bel)).mono ?_);rintro e wn ⟨rfl,hbn,hbx,hcn,hzn⟩;(try simp only[World.size_alloc,World.size_drew] at hzn)) | (refine own_stepm elemE (by rfl) _ _ (by rfl) (w.heap.size+1) (.slice va (1+2 * k) vc) (1+2 * k) xs (by rfl) (HOk.out _ (by exact bel)) [.int .i64 1,.int .i64 lo,.string ⟨#[]⟩,.slice none 0 0,.int .i64 1,.int .i64 hi,.string ⟨#[]⟩,.slice none 0 0] 2 (by rfl) (by simp[Value.oneCell']) _ 2 (by rfl) (heap_alloc_new' _ _) (by omega) (by omega) (by simp only[World.size_alloc];omega) _ rfl ?_;intro g gcap wg hownG hgrow hatG hltG))
   all_goals
    have HXg:=Lib.hid hownG
    have HBg:Hid (Below (w.heap.size+1) (w.alloc (.cells #[.int .i64 0,.int .i64 0,.string ⟨#[]⟩,.slice none 0 0] 55)) wg):=by
     first
      | assumption
      | exact(by assumption:Below (w.heap.size+1) _ wg∧_∧_).1
      | exact Below.grown (Below.alloc (by assumption) (by omega) _) hgrow (by simp only[World.size_alloc];omega) (fun q hq=>(HO.out.lt q hq).1)
    clear hownG hgrow c0 c1
    go_wp2_with fail
    go_roundw
    case rel=>exact⟨k+1,_,by go_num,by omega,by rw[show 1+2 * (k+1)=1+2 * k+2 from by omega];exact HXg.out,fun W=>by rw[HT.out,List.map_append];exact HXk.out W,HBg.out⟩
    case measure=>simp[intOf];omega
  ·obtain rfl:k=n:=by omega
   have b0:=box_cell HB.out 0
   have b1:=box_cell HB.out 1
   have b2:=box_cell HB.out 2
   have b3:=box_cell HB.out 3
   (try simp at b0 b1 b2 b3)
   have HK:Hid (wr.heap[w.heap.size]? = some (.cells #[.int .i64 0,.int .i64 0,.string ⟨#[]⟩,.slice none 0 0] 55 (0,0))):=(HB.out.block w.heap.size (by omega)).trans (heap_alloc_new' _ _)
   have f0:=box_free HB.out 0
   have f1:=box_free HB.out 1
   have f2:=box_free HB.out 2
   have f3:=box_free HB.out 3
   go_wp2_with fail
   have hk4:=heap_setCell_same _ _ 3 _ _ (.slice va (1+2 * k) vc) (heap_setCell_same _ _ 2 _ _ (.string ⟨#[]⟩) (heap_setCell_same _ _ 1 _ _ (.int .i64 0) (heap_setCell_same _ _ 0 _ _ (.int .i64 23) HK.out)))
   simp at hk4
   refine bodyPost_ret (v:=.agg #[.int .i64 23,.int .i64 0,.string ⟨#[]⟩,.slice va (1+2 * k) vc]) (by simp[results, Tryz.results196,World.cell?,hk4,go_sem]) rfl ?_
   have hB4:Below w.heap.size w ((((wr.setCell ⟨w.heap.size,0,none⟩ (.int .i64 23)).setCell ⟨w.heap.size,1,none⟩ (.int .i64 0)).setCell ⟨w.heap.size,2,none⟩ (.string ⟨#[]⟩)).setCell ⟨w.heap.size,3,none⟩ (.slice va (1+2 * k) vc)):=(((HBw.out.setCell (Nat.le_refl _) _).setCell (Nat.le_refl _) _).setCell (Nat.le_refl _) _).setCell (Nat.le_refl _) _
   refine⟨va,vc,?_,fun w5 h5=>⟨show (⟨#[]⟩:ByteArray).size≤1073741824 by decide,?_⟩,hB4⟩
   ·show _=Ending.returned (Value.agg #[.int .i64 23,.int .i64 0,.string ⟨#[]⟩,.slice va (iE s bs).args.length vc])
    rw[iE_len,hbl,show k * 2+1=1+2 * k from by omega]
   ·have hne:(Value.slice va (1+2 * k) vc).ownBlock≠some w.heap.size:=fun h=>by have:=(HO.out.lt _ h).1;omega
    refine exsOn_own (S:=(w.heap.size≤·)) (base:=w.heap.size+1) (e:=55) (n:=1+2 * k) (xs:=xs) ?_ ?_ ?_ ?_ w5 h5
    ·rw[iE_len,hbl,show k * 2+1=1+2 * k from by omega]
     exact ownsRow_setCell_other (ownsRow_setCell_other (ownsRow_setCell_other (ownsRow_setCell_other HO.out hne _) hne _) hne _) hne _
    ·rw[iE_args]
     have:=HX.out
     rw[List.take_of_length_le (by omega)] at this
     exact fun w' _=>this w'
    ·intro g hg
     have:=(HO.out.lt g hg).1
     show w.heap.size≤g
     omega
    ·rw[iE_len,hbl];omega
end Go.Proofs.YtcplmcjbkpmhdaaGreatDoor
