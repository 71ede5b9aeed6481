/- slices.IndexFunc and slices.ContainsFunc over the closures of elab and search (printed by gen_func.py). -/
import Derived.Test.YtcplmcjbkpmhdaaGreatDoorKI
set_option linter.unusedSimpArgs false
set_option linter.unusedVariables false
set_option linter.unnecessarySimpa false
namespace Go.Proofs.YtcplmcjbkpmhdaaGreatDoor
open Go.RowKit
def weightVal (v:WeightD):Value:=.agg #[.int .i64 v.lo,.int .i64 v.hi,.int .i64 v.weight,.bool v.each]
theorem idxP_any {α:Type} (p:α→Bool) (l:List α):l.any p=decide (0≤idxP p l 0):=by
 cases h:l.any p
 ·rw[List.any_eq_false] at h
  rw[idxP_none p l 0 (fun i hi=>by simpa using h _ (List.getElem_mem hi))];rfl
 ·rw[List.any_eq_true] at h
  have key:∀ (l:List α) (k:Nat),(∃ x,x∈l∧p x=true)→0≤idxP p l k:=by
   intro l
   induction l with
   | nil=>intro k ⟨x,hx,_⟩;cases hx
   | cons y l ih =>
    intro k ⟨x,hx,hp⟩
    unfold idxP
    split
    ·omega
    ·rename_i hy
     rcases List.mem_cons.1 hx with rfl | hx
     ·exact absurd hp hy
     ·exact ih _ ⟨x,hx,hp⟩
  rw[decide_eq_true (key l 0 h)]
set_option maxRecDepth 100000 in
set_option maxHeartbeats 1000000 in
theorem indexFunc_vars (c:Nat) (p:VarD→Bool) (l:List VarD) (a:Option Addr) (cap:Nat) (w0 w:World) (hE:VarsIn w l a cap)
  (hf:∀ (v:VarD),v∈l→∀ (w':World),Below w.heap.size w w'→Calls Tryz.prog 158 #[varVal v,.pointer (some ⟨c,0,none⟩)] w' fun e w2=>e=.returned (.bool (p v))∧Below w'.heap.size w' w2) :
  Calls Tryz.prog 190 #[.slice a l.length cap,.func (.func 158) #[] #[.pointer (some ⟨c,0,none⟩)]] w fun e w'=>e=.returned (.int .i64 (idxP p l 0))∧Below w.heap.size w w':=by
 have hlen:=hE.2.1
 have HA:=Lib.hid hE.addr
 have HE:=Lib.hid hE
 have HF:=Lib.hid hf
 clear hE hf
 go_enter Tryz.func190, Tryz.ntmps190
 go_wp2_with fail
 go_loopw [8] (fun i wr=>∃ k:Nat,i=.int .i64 k∧k≤l.length∧(∀ j (hj:j < l.length),j < k→p (l[j]'hj)=false)∧Below w.heap.size w wr) (fun i _=>l.length - (intOf i).toNat)
 case atStart=>exact⟨0,rfl,Nat.zero_le _,fun _ _ h=>absurd h (by omega),Below.refl _ _⟩
 case round =>
  obtain⟨k,rfl,hk,hall,hBr⟩:=hrel
  have HAl:=Lib.hid hall
  have HB:=Lib.hid hBr
  clear hall
  by_cases hlt:k < l.length
  ·obtain⟨b,off,ha⟩:=HA.out.resolve_left (by omega)
   subst ha
   obtain⟨c0,c1,c2,c3,_⟩:=(HE.out.keep (keeps_of_below hBr)).get rfl hlt
   have HC:=Lib.hid ((HF.out (l[k]'hlt) (List.getElem_mem hlt) wr hBr).mono fun e w2 h=>(⟨h.1,hBr.trans (h.2.mono hBr.size)⟩:_∧Below w.heap.size w w2))
   (try simp only[varVal] at HC)
   clear hBr
   cases he:p (l[k]'hlt)
   ·go_wp2_with fail
    refine HC.out.mono ?_
    rintro e w2 ⟨rfl,hb2⟩
    rw[he]
    have HB2:=Lib.hid hb2
    clear hb2
    (try clear c0);(try clear c1);(try clear c2);(try clear c3)
    go_wp2_with fail
    go_roundw
    case rel=>exact⟨k+1,by go_num,by omega,fun j hj hjk=>by
     by_cases e:j=k
     ·subst e;exact he
     ·exact HAl.out j hj (by omega),HB2.out⟩
    case measure=>simp[intOf];omega
   ·have HY:=Lib.hid (idxP_at p l k 0 hlt (fun j hj=>HAl.out j (by omega) hj) he)
    go_wp2_with fail
    refine HC.out.mono ?_
    rintro e w2 ⟨rfl,hb2⟩
    rw[he]
    have HB2:=Lib.hid hb2
    clear hb2
    (try clear c0);(try clear c1);(try clear c2);(try clear c3)
    go_wp2_with fail
    go_ret
    exact⟨by rw[HY.out];rfl,HB2.out⟩
  ·obtain rfl:k=l.length:=by omega
   have HN:=Lib.hid (idxP_none p l 0 (fun j hj=>HAl.out j hj hj))
   go_wp2_with fail
   go_ret
   exact⟨by rw[HN.out];rfl,HB.out⟩
set_option maxHeartbeats 1000000 in
theorem containsFunc_vars (c:Nat) (p:VarD→Bool) (l:List VarD) (a:Option Addr) (cap:Nat) (w:World) (hE:VarsIn w l a cap)
  (hf:∀ (v:VarD),v∈l→∀ (w':World),Below w.heap.size w w'→Calls Tryz.prog 158 #[varVal v,.pointer (some ⟨c,0,none⟩)] w' fun e w2=>e=.returned (.bool (p v))∧Below w'.heap.size w' w2) :
  Calls Tryz.prog 137 #[.slice a l.length cap,.func (.func 158) #[] #[.pointer (some ⟨c,0,none⟩)]] w fun e w'=>e=.returned (.bool (l.any p))∧Below w.heap.size w w':=by
 have HC:=Lib.hid (indexFunc_vars c p l a cap w w hE hf)
 have HI:=Lib.hid (idxP_any p l)
 clear hE hf
 cases ha:l.any p
 ·have h0:idxP p l 0 < 0:=by have:=HI.out;rw[ha] at this;simpa using this
  generalize idxP p l 0=r at HC h0
  clear HI
  go_enter Tryz.func137, Tryz.ntmps137
  go_wp2_with fail
  refine HC.out.mono ?_
  rintro e w1 ⟨rfl,hb⟩
  have HB1:=Lib.hid hb
  clear hb
  go_wp2_with fail
  go_ret
  exact⟨by first | rfl | (simp;done) | (simp;omega),HB1.out⟩
 ·have h0:0≤idxP p l 0:=by have:=HI.out;rw[ha] at this;simpa using this
  generalize idxP p l 0=r at HC h0
  clear HI
  go_enter Tryz.func137, Tryz.ntmps137
  go_wp2_with fail
  refine HC.out.mono ?_
  rintro e w1 ⟨rfl,hb⟩
  have HB1:=Lib.hid hb
  clear hb
  go_wp2_with fail
  go_ret
  exact⟨by first | rfl | (simp;done) | (simp;omega),HB1.out⟩
set_option maxRecDepth 100000 in
set_option maxHeartbeats 1000000 in
theorem indexFunc_known (c:Nat) (p:VarD→Bool) (l:List VarD) (a:Option Addr) (cap:Nat) (w0 w:World) (hE:VarsIn w l a cap)
  (hf:∀ (v:VarD),v∈l→∀ (w':World),Below w.heap.size w w'→Calls Tryz.prog 138 #[varVal v,.pointer (some ⟨c,0,none⟩)] w' fun e w2=>e=.returned (.bool (p v))∧Below w'.heap.size w' w2) :
  Calls Tryz.prog 190 #[.slice a l.length cap,.func (.func 138) #[] #[.pointer (some ⟨c,0,none⟩)]] w fun e w'=>e=.returned (.int .i64 (idxP p l 0))∧Below w.heap.size w w':=by
 have hlen:=hE.2.1
 have HA:=Lib.hid hE.addr
 have HE:=Lib.hid hE
 have HF:=Lib.hid hf
 clear hE hf
 go_enter Tryz.func190, Tryz.ntmps190
 go_wp2_with fail
 go_loopw [8] (fun i wr=>∃ k:Nat,i=.int .i64 k∧k≤l.length∧(∀ j (hj:j < l.length),j < k→p (l[j]'hj)=false)∧Below w.heap.size w wr) (fun i _=>l.length - (intOf i).toNat)
 case atStart=>exact⟨0,rfl,Nat.zero_le _,fun _ _ h=>absurd h (by omega),Below.refl _ _⟩
 case round =>
  obtain⟨k,rfl,hk,hall,hBr⟩:=hrel
  have HAl:=Lib.hid hall
  have HB:=Lib.hid hBr
  clear hall
  by_cases hlt:k < l.length
  ·obtain⟨b,off,ha⟩:=HA.out.resolve_left (by omega)
   subst ha
   obtain⟨c0,c1,c2,c3,_⟩:=(HE.out.keep (keeps_of_below hBr)).get rfl hlt
   have HC:=Lib.hid ((HF.out (l[k]'hlt) (List.getElem_mem hlt) wr hBr).mono fun e w2 h=>(⟨h.1,hBr.trans (h.2.mono hBr.size)⟩:_∧Below w.heap.size w w2))
   (try simp only[varVal] at HC)
   clear hBr
   cases he:p (l[k]'hlt)
   ·go_wp2_with fail
    refine HC.out.mono ?_
    rintro e w2 ⟨rfl,hb2⟩
    rw[he]
    have HB2:=Lib.hid hb2
    clear hb2
    (try clear c0);(try clear c1);(try clear c2);(try clear c3)
    go_wp2_with fail
    go_roundw
    case rel=>exact⟨k+1,by go_num,by omega,fun j hj hjk=>by
     by_cases e:j=k
     ·subst e;exact he
     ·exact HAl.out j hj (by omega),HB2.out⟩
    case measure=>simp[intOf];omega
   ·have HY:=Lib.hid (idxP_at p l k 0 hlt (fun j hj=>HAl.out j (by omega) hj) he)
    go_wp2_with fail
    refine HC.out.mono ?_
    rintro e w2 ⟨rfl,hb2⟩
    rw[he]
    have HB2:=Lib.hid hb2
    clear hb2
    (try clear c0);(try clear c1);(try clear c2);(try clear c3)
    go_wp2_with fail
    go_ret
    exact⟨by rw[HY.out];rfl,HB2.out⟩
  ·obtain rfl:k=l.length:=by omega
   have HN:=Lib.hid (idxP_none p l 0 (fun j hj=>HAl.out j hj hj))
   go_wp2_with fail
   go_ret
   exact⟨by rw[HN.out];rfl,HB.out⟩
set_option maxHeartbeats 1000000 in
theorem containsFunc_known (c:Nat) (p:VarD→Bool) (l:List VarD) (a:Option Addr) (cap:Nat) (w:World) (hE:VarsIn w l a cap)
  (hf:∀ (v:VarD),v∈l→∀ (w':World),Below w.heap.size w w'→Calls Tryz.prog 138 #[varVal v,.pointer (some ⟨c,0,none⟩)] w' fun e w2=>e=.returned (.bool (p v))∧Below w'.heap.size w' w2) :
  Calls Tryz.prog 137 #[.slice a l.length cap,.func (.func 138) #[] #[.pointer (some ⟨c,0,none⟩)]] w fun e w'=>e=.returned (.bool (l.any p))∧Below w.heap.size w w':=by
 have HC:=Lib.hid (indexFunc_known c p l a cap w w hE hf)
 have HI:=Lib.hid (idxP_any p l)
 clear hE hf
 cases ha:l.any p
 ·have h0:idxP p l 0 < 0:=by have:=HI.out;rw[ha] at this;simpa using this
  generalize idxP p l 0=r at HC h0
  clear HI
  go_enter Tryz.func137, Tryz.ntmps137
  go_wp2_with fail
  refine HC.out.mono ?_
  rintro e w1 ⟨rfl,hb⟩
  have HB1:=Lib.hid hb
  clear hb
  go_wp2_with fail
  go_ret
  exact⟨by first | rfl | (simp;done) | (simp;omega),HB1.out⟩
 ·have h0:0≤idxP p l 0:=by have:=HI.out;rw[ha] at this;simpa using this
  generalize idxP p l 0=r at HC h0
  clear HI
  go_enter Tryz.func137, Tryz.ntmps137
  go_wp2_with fail
  refine HC.out.mono ?_
  rintro e w1 ⟨rfl,hb⟩
  have HB1:=Lib.hid hb
  clear hb
  go_wp2_with fail
  go_ret
  exact⟨by first | rfl | (simp;done) | (simp;omega),HB1.out⟩
set_option maxRecDepth 100000 in
set_option maxHeartbeats 1000000 in
theorem indexFunc_exprs (c:Nat) (p:ByteArray→Bool) (l:List ByteArray) (a:Option Addr) (cap:Nat) (w0 w:World) (hE:StrsIn w l a cap)
  (hf:∀ (v:ByteArray),v∈l→∀ (w':World),Below w.heap.size w w'→Calls Tryz.prog 162 #[.string v,.pointer (some ⟨c,0,none⟩)] w' fun e w2=>e=.returned (.bool (p v))∧Below w'.heap.size w' w2) :
  Calls Tryz.prog 211 #[.slice a l.length cap,.func (.func 162) #[] #[.pointer (some ⟨c,0,none⟩)]] w fun e w'=>e=.returned (.int .i64 (idxP p l 0))∧Below w.heap.size w w':=by
 have hlen:=hE.2.1
 have HA:=Lib.hid hE.addr
 have HE:=Lib.hid hE
 have HF:=Lib.hid hf
 clear hE hf
 go_enter Tryz.func211, Tryz.ntmps211
 go_wp2_with fail
 go_loopw [8] (fun i wr=>∃ k:Nat,i=.int .i64 k∧k≤l.length∧(∀ j (hj:j < l.length),j < k→p (l[j]'hj)=false)∧Below w.heap.size w wr) (fun i _=>l.length - (intOf i).toNat)
 case atStart=>exact⟨0,rfl,Nat.zero_le _,fun _ _ h=>absurd h (by omega),Below.refl _ _⟩
 case round =>
  obtain⟨k,rfl,hk,hall,hBr⟩:=hrel
  have HAl:=Lib.hid hall
  have HB:=Lib.hid hBr
  clear hall
  by_cases hlt:k < l.length
  ·obtain⟨b,off,ha⟩:=HA.out.resolve_left (by omega)
   subst ha
   have c0:=(HE.out.keep (keeps_of_below hBr)).get rfl hlt
   have HC:=Lib.hid ((HF.out (l[k]'hlt) (List.getElem_mem hlt) wr hBr).mono fun e w2 h=>(⟨h.1,hBr.trans (h.2.mono hBr.size)⟩:_∧Below w.heap.size w w2))
   (try simp only[varVal] at HC)
   clear hBr
   cases he:p (l[k]'hlt)
   ·go_wp2_with fail
    refine HC.out.mono ?_
    rintro e w2 ⟨rfl,hb2⟩
    rw[he]
    have HB2:=Lib.hid hb2
    clear hb2
    (try clear c0);(try clear c1);(try clear c2);(try clear c3)
    go_wp2_with fail
    go_roundw
    case rel=>exact⟨k+1,by go_num,by omega,fun j hj hjk=>by
     by_cases e:j=k
     ·subst e;exact he
     ·exact HAl.out j hj (by omega),HB2.out⟩
    case measure=>simp[intOf];omega
   ·have HY:=Lib.hid (idxP_at p l k 0 hlt (fun j hj=>HAl.out j (by omega) hj) he)
    go_wp2_with fail
    refine HC.out.mono ?_
    rintro e w2 ⟨rfl,hb2⟩
    rw[he]
    have HB2:=Lib.hid hb2
    clear hb2
    (try clear c0);(try clear c1);(try clear c2);(try clear c3)
    go_wp2_with fail
    go_ret
    exact⟨by rw[HY.out];rfl,HB2.out⟩
  ·obtain rfl:k=l.length:=by omega
   have HN:=Lib.hid (idxP_none p l 0 (fun j hj=>HAl.out j hj hj))
   go_wp2_with fail
   go_ret
   exact⟨by rw[HN.out];rfl,HB.out⟩
set_option maxHeartbeats 1000000 in
theorem containsFunc_exprs (c:Nat) (p:ByteArray→Bool) (l:List ByteArray) (a:Option Addr) (cap:Nat) (w:World) (hE:StrsIn w l a cap)
  (hf:∀ (v:ByteArray),v∈l→∀ (w':World),Below w.heap.size w w'→Calls Tryz.prog 162 #[.string v,.pointer (some ⟨c,0,none⟩)] w' fun e w2=>e=.returned (.bool (p v))∧Below w'.heap.size w' w2) :
  Calls Tryz.prog 161 #[.slice a l.length cap,.func (.func 162) #[] #[.pointer (some ⟨c,0,none⟩)]] w fun e w'=>e=.returned (.bool (l.any p))∧Below w.heap.size w w':=by
 have HC:=Lib.hid (indexFunc_exprs c p l a cap w w hE hf)
 have HI:=Lib.hid (idxP_any p l)
 clear hE hf
 cases ha:l.any p
 ·have h0:idxP p l 0 < 0:=by have:=HI.out;rw[ha] at this;simpa using this
  generalize idxP p l 0=r at HC h0
  clear HI
  go_enter Tryz.func161, Tryz.ntmps161
  go_wp2_with fail
  refine HC.out.mono ?_
  rintro e w1 ⟨rfl,hb⟩
  have HB1:=Lib.hid hb
  clear hb
  go_wp2_with fail
  go_ret
  exact⟨by first | rfl | (simp;done) | (simp;omega),HB1.out⟩
 ·have h0:0≤idxP p l 0:=by have:=HI.out;rw[ha] at this;simpa using this
  generalize idxP p l 0=r at HC h0
  clear HI
  go_enter Tryz.func161, Tryz.ntmps161
  go_wp2_with fail
  refine HC.out.mono ?_
  rintro e w1 ⟨rfl,hb⟩
  have HB1:=Lib.hid hb
  clear hb
  go_wp2_with fail
  go_ret
  exact⟨by first | rfl | (simp;done) | (simp;omega),HB1.out⟩
set_option maxRecDepth 100000 in
set_option maxHeartbeats 1000000 in
theorem indexFunc_dists (c:Nat) (p:DistD→Bool) (l:List DistD) (a:Option Addr) (cap:Nat) (w0 w:World) (hE:DistsIn w l a cap)
  (hf:∀ (v:DistD),v∈l→∀ (aw:Option Addr) (cw:Nat),∀ (w':World),Below w.heap.size w w'→Calls Tryz.prog 165 #[.agg #[.int .i64 v.var,.slice aw v.weights.length cw],.pointer (some ⟨c,0,none⟩)] w' fun e w2=>e=.returned (.bool (p v))∧Below w'.heap.size w' w2) :
  Calls Tryz.prog 212 #[.slice a l.length cap,.func (.func 165) #[] #[.pointer (some ⟨c,0,none⟩)]] w fun e w'=>e=.returned (.int .i64 (idxP p l 0))∧Below w.heap.size w w':=by
 have hlen:=hE.2.1
 have HA:=Lib.hid hE.addr
 have HE:=Lib.hid hE
 have HF:=Lib.hid hf
 clear hE hf
 go_enter Tryz.func212, Tryz.ntmps212
 go_wp2_with fail
 go_loopw [8] (fun i wr=>∃ k:Nat,i=.int .i64 k∧k≤l.length∧(∀ j (hj:j < l.length),j < k→p (l[j]'hj)=false)∧Below w.heap.size w wr) (fun i _=>l.length - (intOf i).toNat)
 case atStart=>exact⟨0,rfl,Nat.zero_le _,fun _ _ h=>absurd h (by omega),Below.refl _ _⟩
 case round =>
  obtain⟨k,rfl,hk,hall,hBr⟩:=hrel
  have HAl:=Lib.hid hall
  have HB:=Lib.hid hBr
  clear hall
  by_cases hlt:k < l.length
  ·obtain⟨b,off,ha⟩:=HA.out.resolve_left (by omega)
   subst ha
   obtain⟨aw,cw,c0,c1,_⟩:=(HE.out.keep (keeps_of_below hBr)).get rfl hlt
   have HC:=Lib.hid ((HF.out (l[k]'hlt) (List.getElem_mem hlt) aw cw wr hBr).mono fun e w2 h=>(⟨h.1,hBr.trans (h.2.mono hBr.size)⟩:_∧Below w.heap.size w w2))
   (try simp only[varVal] at HC)
   clear hBr
   cases he:p (l[k]'hlt)
   ·go_wp2_with fail
    refine HC.out.mono ?_
    rintro e w2 ⟨rfl,hb2⟩
    rw[he]
    have HB2:=Lib.hid hb2
    clear hb2
    (try clear c0);(try clear c1);(try clear c2);(try clear c3)
    go_wp2_with fail
    go_roundw
    case rel=>exact⟨k+1,by go_num,by omega,fun j hj hjk=>by
     by_cases e:j=k
     ·subst e;exact he
     ·exact HAl.out j hj (by omega),HB2.out⟩
    case measure=>simp[intOf];omega
   ·have HY:=Lib.hid (idxP_at p l k 0 hlt (fun j hj=>HAl.out j (by omega) hj) he)
    go_wp2_with fail
    refine HC.out.mono ?_
    rintro e w2 ⟨rfl,hb2⟩
    rw[he]
    have HB2:=Lib.hid hb2
    clear hb2
    (try clear c0);(try clear c1);(try clear c2);(try clear c3)
    go_wp2_with fail
    go_ret
    exact⟨by rw[HY.out];rfl,HB2.out⟩
  ·obtain rfl:k=l.length:=by omega
   have HN:=Lib.hid (idxP_none p l 0 (fun j hj=>HAl.out j hj hj))
   go_wp2_with fail
   go_ret
   exact⟨by rw[HN.out];rfl,HB.out⟩
set_option maxHeartbeats 1000000 in
theorem containsFunc_dists (c:Nat) (p:DistD→Bool) (l:List DistD) (a:Option Addr) (cap:Nat) (w:World) (hE:DistsIn w l a cap)
  (hf:∀ (v:DistD),v∈l→∀ (aw:Option Addr) (cw:Nat),∀ (w':World),Below w.heap.size w w'→Calls Tryz.prog 165 #[.agg #[.int .i64 v.var,.slice aw v.weights.length cw],.pointer (some ⟨c,0,none⟩)] w' fun e w2=>e=.returned (.bool (p v))∧Below w'.heap.size w' w2) :
  Calls Tryz.prog 164 #[.slice a l.length cap,.func (.func 165) #[] #[.pointer (some ⟨c,0,none⟩)]] w fun e w'=>e=.returned (.bool (l.any p))∧Below w.heap.size w w':=by
 have HC:=Lib.hid (indexFunc_dists c p l a cap w w hE hf)
 have HI:=Lib.hid (idxP_any p l)
 clear hE hf
 cases ha:l.any p
 ·have h0:idxP p l 0 < 0:=by have:=HI.out;rw[ha] at this;simpa using this
  generalize idxP p l 0=r at HC h0
  clear HI
  go_enter Tryz.func164, Tryz.ntmps164
  go_wp2_with fail
  refine HC.out.mono ?_
  rintro e w1 ⟨rfl,hb⟩
  have HB1:=Lib.hid hb
  clear hb
  go_wp2_with fail
  go_ret
  exact⟨by first | rfl | (simp;done) | (simp;omega),HB1.out⟩
 ·have h0:0≤idxP p l 0:=by have:=HI.out;rw[ha] at this;simpa using this
  generalize idxP p l 0=r at HC h0
  clear HI
  go_enter Tryz.func164, Tryz.ntmps164
  go_wp2_with fail
  refine HC.out.mono ?_
  rintro e w1 ⟨rfl,hb⟩
  have HB1:=Lib.hid hb
  clear hb
  go_wp2_with fail
  go_ret
  exact⟨by first | rfl | (simp;done) | (simp;omega),HB1.out⟩
set_option maxRecDepth 100000 in
set_option maxHeartbeats 1000000 in
theorem indexFunc_weights  (p:WeightD→Bool) (l:List WeightD) (a:Option Addr) (cap:Nat) (w0 w:World) (hE:WeightsIn w l a cap)
  (hf:∀ (v:WeightD),v∈l→∀ (w':World),Below w.heap.size w w'→Calls Tryz.prog 214 #[weightVal v] w' fun e w2=>e=.returned (.bool (p v))∧Below w'.heap.size w' w2) :
  Calls Tryz.prog 142 #[.slice a l.length cap,.func (.func 214) #[] #[]] w fun e w'=>e=.returned (.int .i64 (idxP p l 0))∧Below w.heap.size w w':=by
 have hlen:=hE.2.1
 have HA:=Lib.hid hE.addr
 have HE:=Lib.hid hE
 have HF:=Lib.hid hf
 clear hE hf
 go_enter Tryz.func142, Tryz.ntmps142
 go_wp2_with fail
 go_loopw [8] (fun i wr=>∃ k:Nat,i=.int .i64 k∧k≤l.length∧(∀ j (hj:j < l.length),j < k→p (l[j]'hj)=false)∧Below w.heap.size w wr) (fun i _=>l.length - (intOf i).toNat)
 case atStart=>exact⟨0,rfl,Nat.zero_le _,fun _ _ h=>absurd h (by omega),Below.refl _ _⟩
 case round =>
  obtain⟨k,rfl,hk,hall,hBr⟩:=hrel
  have HAl:=Lib.hid hall
  have HB:=Lib.hid hBr
  clear hall
  by_cases hlt:k < l.length
  ·obtain⟨b,off,ha⟩:=HA.out.resolve_left (by omega)
   subst ha
   obtain⟨c0,c1,c2,c3⟩:=(HE.out.keep (keeps_of_below hBr)).get rfl hlt
   have HC:=Lib.hid ((HF.out (l[k]'hlt) (List.getElem_mem hlt) wr hBr).mono fun e w2 h=>(⟨h.1,hBr.trans (h.2.mono hBr.size)⟩:_∧Below w.heap.size w w2))
   (try simp only[weightVal] at HC)
   clear hBr
   cases he:p (l[k]'hlt)
   ·go_wp2_with fail
    refine HC.out.mono ?_
    rintro e w2 ⟨rfl,hb2⟩
    rw[he]
    have HB2:=Lib.hid hb2
    clear hb2
    (try clear c0);(try clear c1);(try clear c2);(try clear c3)
    go_wp2_with fail
    go_roundw
    case rel=>exact⟨k+1,by go_num,by omega,fun j hj hjk=>by
     by_cases e:j=k
     ·subst e;exact he
     ·exact HAl.out j hj (by omega),HB2.out⟩
    case measure=>simp[intOf];omega
   ·have HY:=Lib.hid (idxP_at p l k 0 hlt (fun j hj=>HAl.out j (by omega) hj) he)
    go_wp2_with fail
    refine HC.out.mono ?_
    rintro e w2 ⟨rfl,hb2⟩
    rw[he]
    have HB2:=Lib.hid hb2
    clear hb2
    (try clear c0);(try clear c1);(try clear c2);(try clear c3)
    go_wp2_with fail
    go_ret
    exact⟨by rw[HY.out];rfl,HB2.out⟩
  ·obtain rfl:k=l.length:=by omega
   have HN:=Lib.hid (idxP_none p l 0 (fun j hj=>HAl.out j hj hj))
   go_wp2_with fail
   go_ret
   exact⟨by rw[HN.out];rfl,HB.out⟩
set_option maxHeartbeats 1000000 in
theorem containsFunc_weights  (p:WeightD→Bool) (l:List WeightD) (a:Option Addr) (cap:Nat) (w:World) (hE:WeightsIn w l a cap)
  (hf:∀ (v:WeightD),v∈l→∀ (w':World),Below w.heap.size w w'→Calls Tryz.prog 214 #[weightVal v] w' fun e w2=>e=.returned (.bool (p v))∧Below w'.heap.size w' w2) :
  Calls Tryz.prog 213 #[.slice a l.length cap,.func (.func 214) #[] #[]] w fun e w'=>e=.returned (.bool (l.any p))∧Below w.heap.size w w':=by
 have HC:=Lib.hid (indexFunc_weights p l a cap w w hE hf)
 have HI:=Lib.hid (idxP_any p l)
 clear hE hf
 cases ha:l.any p
 ·have h0:idxP p l 0 < 0:=by have:=HI.out;rw[ha] at this;simpa using this
  generalize idxP p l 0=r at HC h0
  clear HI
  go_enter Tryz.func213, Tryz.ntmps213
  go_wp2_with fail
  refine HC.out.mono ?_
  rintro e w1 ⟨rfl,hb⟩
  have HB1:=Lib.hid hb
  clear hb
  go_wp2_with fail
  go_ret
  exact⟨by first | rfl | (simp;done) | (simp;omega),HB1.out⟩
 ·have h0:0≤idxP p l 0:=by have:=HI.out;rw[ha] at this;simpa using this
  generalize idxP p l 0=r at HC h0
  clear HI
  go_enter Tryz.func213, Tryz.ntmps213
  go_wp2_with fail
  refine HC.out.mono ?_
  rintro e w1 ⟨rfl,hb⟩
  have HB1:=Lib.hid hb
  clear hb
  go_wp2_with fail
  go_ret
  exact⟨by first | rfl | (simp;done) | (simp;omega),HB1.out⟩
end Go.Proofs.YtcplmcjbkpmhdaaGreatDoor
namespace Go.Proofs.YtcplmcjbkpmhdaaGreatDoor
open Go.RowKit
theorem gap_name {l:List VarD} {s:ByteArray} (hv:varB s.data.toList=true) (h:GapOf l s):∃ (A:List UInt8) (n:Nat),1≤n∧n < 8∧Lib.cut s.data.toList [91]=(A,[UInt8.ofNat (48+n),93],true)∧(s.toList == (elName ⟨A.toArray⟩ n).toList)=true∧findV l (elName ⟨A.toArray⟩ (n - 1)) 0 < 0:=by
 obtain⟨A,n,h1,h2,h3,h4⟩:=h
 have he:=(toList_eq_iff _ _).1 h3
 rw[elName_list] at he
 have hA:=varB_elem (he ▸ hv) rfl
 exact⟨A,n,h1,h2,by rw[he];exact cut_eq A _ (nameB_no91 hA),h3,h4⟩
theorem gap_cut {l:List VarD} {s:ByteArray} {A r:List UInt8} {ok:Bool} (hv:varB s.data.toList=true) (hc:Lib.cut s.data.toList [91]=(A,r,ok)) (h:GapOf l s) :
  ok=true∧∃ n:Nat,1≤n∧n < 8∧(s.toList == (elName ⟨A.toArray⟩ n).toList)=true∧findV l (elName ⟨A.toArray⟩ (n - 1)) 0 < 0:=by
 obtain⟨A',n,h1,h2,h3,h4,h5⟩:=gap_name hv h
 rw[hc] at h3
 simp only[Prod.mk.injEq] at h3
 obtain⟨rfl,_,rfl⟩:=h3
 exact⟨rfl,n,h1,h2,h4,h5⟩
theorem elName_inj {s:ByteArray} {A:List UInt8} {n m:Nat} (hn:n < 8) (hm:m < 8) (h1:(s.toList == (elName ⟨A.toArray⟩ n).toList)=true) (h2:(s.toList == (elName ⟨A.toArray⟩ m).toList)=true):n=m:=by
 have e1:=(toList_eq_iff _ _).1 h1
 have e2:=(toList_eq_iff _ _).1 h2
 rw[elName_list] at e1 e2
 rw[e1] at e2
 have:=List.append_cancel_left e2
 simp only[List.cons.injEq,true_and,and_true] at this
 have h:=congrArg UInt8.toNat this
 rw[UInt8.toNat_ofNat',UInt8.toNat_ofNat'] at h
 omega
set_option maxRecDepth 100000 in
set_option maxHeartbeats 2000000 in
theorem gap_any (l:List VarD) (a:Option Addr) (cap:Nat) (s:ByteArray) (w:World) (hE:VarsIn w l a cap) (hs:s.size≤1073741824) (hG:Glob w) (hv:varB s.data.toList=true) :
  Calls Tryz.prog 159 #[.slice a l.length cap,.string s] w fun e w'=>e=.returned (.bool (pB (GapOf l s)))∧Below w.heap.size w w':=by
 have HE:=Lib.hid hE
 have HGC:=Lib.hid (fun A r ok hc=>@gap_cut l s A r ok hv hc)
 have hcl:(Lib.cut s.data.toList [91]).1.length≤s.size:=by rw[Lib.size_eq];exact cut_le _
 generalize hcut:Lib.cut s.data.toList [91]=c at hcl HGC
 obtain⟨A,r,ok⟩:=c
 have HGC':=Lib.hid (HGC.out A r ok rfl)
 have hsz:(⟨A.toArray⟩:ByteArray).size≤1073741824:=by show A.toArray.size≤_;simp at hcl⊢;omega
 obtain⟨m,hm⟩:=hG.1
 have hC:=Tryz.strings_Cut s ⟨#[91]⟩ m w (by omega) hm
 have e91:(⟨#[91]⟩:ByteArray).data.toList=[91]:=rfl
 rw[e91,hcut] at hC
 have HC:=Lib.hid hC
 clear hC e91 hm hcut hcl hG hE HGC
 go_enter Tryz.func159, Tryz.ntmps159
 go_wp2_with fail
 refine HC.out.mono ?_
 rintro e w2 ⟨rfl,kd,rfl⟩
 have hB2:Below w.heap.size w (w.drewN kd):=below_drewN (Below.refl _ _) kd
 have HB2:=Lib.hid hB2
 clear hB2
 cases ok
 ·have HNo:Hid (pB (GapOf l s)=false):=pB_false (fun h=>by have:=(HGC'.out h).1;simp at this)
  go_wp2_with fail
  go_ret
  exact⟨by rw[HNo.out];rfl,HB2.out⟩
 ·have HI:=Lib.hid (fun (n:Nat) W (hW:Below w.heap.size w W)=>(index_any l a cap (elName ⟨A.toArray⟩ n) W (HE.out.keep (keeps_of_below hW))).mono fun e w' h=>(⟨h.1,hW.trans (h.2.mono hW.size)⟩:_∧Below w.heap.size w w'))
  have HEl:=Lib.hid (fun (n:Nat) (hn:n < 8) W (hW:Below w.heap.size w W)=>(element14_any ⟨A.toArray⟩ n hn W hsz).mono fun e w' h=>(⟨h.1,hW.trans (h.2.mono hW.size)⟩:_∧Below w.heap.size w w'))
  go_wp2_with fail
  go_loopw [8] (fun i wr=>∃ k:Nat,i=.int .i64 k∧1≤k∧k≤8∧(∀ j:Nat,1≤j→j < k→(s.toList == (elName ⟨A.toArray⟩ j).toList)=false)∧Below w.heap.size w wr) (fun i _=>8 - (intOf i).toNat)
  case atStart=>exact⟨1,rfl,by omega,by omega,fun _ h1 h=>absurd h (by omega),HB2.out⟩
  case round =>
   obtain⟨k,rfl,hk1,hk,hall,hBr⟩:=hrel
   have HAl:=Lib.hid hall
   have HBr:=Lib.hid hBr
   clear hall
   by_cases hlt:k < 8
   ·have HE1:=Lib.hid (HEl.out k hlt)
    have hk':((k - 1:Nat):Int)=(k:Int) - 1:=by omega
    have HE2:=Lib.hid (fun W hW=>HEl.out (k - 1) (by omega) W hW)
    have HI2:=Lib.hid (fun W hW=>HI.out (k - 1) W hW)
    simp only[hk'] at HE2 HI2
    have Hwrap:=IntWalk.i64_in ((k:Int) - 1) (by omega)
    clear hk'
    cases he:(s.toList == (elName ⟨A.toArray⟩ k).toList)
    ·go_wp2_with (go_at_call 208;refine(HE1.out _ (by assumption)).mono ?_;rintro e w3 ⟨rfl,hb3⟩)
     go_roundw
     case rel=>exact⟨k+1,by go_num,by omega,by omega,fun j hj1 hj=>by
      by_cases e:j=k
      ·subst e;exact he
      ·exact HAl.out j hj1 (by omega),by assumption⟩
     case measure=>simp[intOf];omega
    ·have HP:Hid (pB (GapOf l s)=decide (findV l (elName ⟨A.toArray⟩ ((k:Int) - 1)) 0 < 0)):=by
      show _=_
      by_cases hf:findV l (elName ⟨A.toArray⟩ ((k:Int) - 1)) 0 < 0
      ·rw[decide_eq_true hf]
       exact pB_true ⟨A,k,hk1,hlt,he,hf⟩
      ·rw[decide_eq_false hf]
       refine pB_false (fun h=>?_)
       obtain⟨_,n,h1,h2,h3,h4⟩:=HGC'.out h
       have:=elName_inj h2 hlt h3 he
       subst this
       exact hf h4
     clear hBr
     have hBr:=HBr.out
     go_wp2_with (first | (go_at_call 208;first | ((with_reducible refine(HE1.out _ (by assumption)).mono ?_);rintro e w3 ⟨rfl,hb3⟩) | ((with_reducible refine(HE2.out _ (by assumption)).mono ?_);rintro e w3 ⟨rfl,hb3⟩)) | (go_at_call 157;(with_reducible refine(HI2.out _ (by assumption)).mono ?_);rintro e w3 ⟨rfl,hb3⟩))
     go_ret
     exact⟨by rw[HP.out];rfl,by assumption⟩
   ·obtain rfl:k=8:=by omega
    have HNo:Hid (pB (GapOf l s)=false):=pB_false (fun h=>by
     obtain⟨_,n,h1,h2,h3,_⟩:=HGC'.out h
     have:=HAl.out n h1 h2
     rw[this] at h3;simp at h3)
    go_wp2_with fail
    go_ret
    exact⟨by rw[HNo.out];rfl,hBr⟩
end Go.Proofs.YtcplmcjbkpmhdaaGreatDoor
namespace Go.Proofs.YtcplmcjbkpmhdaaGreatDoor
open Go.RowKit
set_option maxHeartbeats 1000000 in
theorem vars1_any (l:List VarD) (a:Option Addr) (cap:Nat) (v:VarD) (c:Nat) (w:World) (hc:w.cell? ⟨c,0,none⟩=some (.slice a l.length cap)) (hE:VarsIn w l a cap) (hs:v.name.size≤1073741824) (hG:Glob w) (hv:varB v.name.data.toList=true) :
  Calls Tryz.prog 158 #[varVal v,.pointer (some ⟨c,0,none⟩)] w fun e w'=>e=.returned (.bool (pB (GapOf l v.name)))∧Below w.heap.size w w':=by
 have hlt:=World.block_lt_of_cell? _ _ hc
 have hcA:∀ o,(w.alloc o).cell? ⟨c,0,none⟩=_:=fun o=>(World.cell?_alloc_lt _ _ _ hlt).trans hc
 have HG:=Lib.hid (fun W (hW:Below w.heap.size w W)=>(gap_any l a cap v.name W (hE.keep (keeps_of_below hW)) hs (hG.below hW) hv).mono fun e w' h=>(⟨h.1,hW.trans (h.2.mono hW.size)⟩:_∧Below w.heap.size w w'))
 clear hE hs hG hv hlt
 unfold varVal
 go_enter Tryz.func158, Tryz.ntmps158
 go_wp2_with (go_at_call 159;(with_reducible refine(HG.out _ bel).mono ?_);rintro e w3 ⟨rfl,hb3⟩)
 go_ret
 exact⟨rfl,by assumption⟩
theorem nums_no {width mode value pw:Int} {name:ByteArray} (hp:(2:Int) ^ width.toNat=pw∨¬ width≤8) (h:varNumsB ⟨name,width,mode,value⟩=false) :
  (decide (width < 1)=true)∨(decide (width < 1)=false∧decide (8 < width)=true) ∨
  (decide (width < 1)=false∧decide (8 < width)=false∧decide (mode < 0)=true) ∨
  (decide (width < 1)=false∧decide (8 < width)=false∧decide (mode < 0)=false∧decide (2 < mode)=true) ∨
  (decide (width < 1)=false∧decide (8 < width)=false∧decide (mode < 0)=false∧decide (2 < mode)=false∧decide (value < 0)=true) ∨
  (decide (width < 1)=false∧decide (8 < width)=false∧decide (mode < 0)=false∧decide (2 < mode)=false∧decide (value < 0)=false∧decide (pw≤value)=true) ∨
  (decide (width < 1)=false∧decide (8 < width)=false∧decide (mode < 0)=false∧decide (2 < mode)=false∧decide (value < 0)=false∧decide (pw≤value)=false∧(mode != 0)=true∧(value != 0)=true):=by
 simp only[decide_eq_true_eq,decide_eq_false_iff_not,bne_iff_ne,ne_eq]
 by_cases h1:width < 1
 ·exact Or.inl h1
 ·by_cases h2:8 < width
  ·exact Or.inr (Or.inl ⟨h1,h2⟩)
  ·have hp':=hp.resolve_right (by omega)
   unfold varNumsB at h
   simp only[hp'] at h
   simp only[Bool.and_eq_false_iff,decide_eq_false_iff_not,Bool.or_eq_false_iff,beq_eq_false_iff_ne,ne_eq] at h
   omega
theorem nums_yes {width mode value pw:Int} {name:ByteArray} (hp:(2:Int) ^ width.toNat=pw∨¬ width≤8) (h:varNumsB ⟨name,width,mode,value⟩=true) :
  (decide (width < 1)=false∧decide (8 < width)=false∧decide (mode < 0)=false∧decide (2 < mode)=false∧decide (value < 0)=false∧decide (pw≤value)=false∧(mode != 0)=false) ∨
  (decide (width < 1)=false∧decide (8 < width)=false∧decide (mode < 0)=false∧decide (2 < mode)=false∧decide (value < 0)=false∧decide (pw≤value)=false∧(mode != 0)=true∧(value != 0)=false):=by
 simp only[decide_eq_false_iff_not,bne_iff_ne,ne_eq,bne_eq_false_iff_eq]
 unfold varNumsB at h
 simp only[Bool.and_eq_true,decide_eq_true_eq,Bool.or_eq_true,beq_iff_eq] at h
 have hp':=hp.resolve_right (by omega)
 rw[hp'] at h
 omega
theorem pow_pack' (n:Int):∃ p:Int,((2:Int) ^ n.toNat=p∨¬ n≤8)∧(n≤8→IntKind.i64.wrap (2 ^ n.toNat)=p):=by
 by_cases h:n≤8
 ·obtain⟨p,h1,h2,_⟩:=pow_pack n h
  exact⟨p,Or.inl h1,fun _=>h2⟩
 ·exact⟨0,Or.inr h,fun h'=>absurd h' h⟩
set_option maxRecDepth 100000 in
set_option maxHeartbeats 8000000 in
theorem vars_any (l:List VarD) (a:Option Addr) (cap:Nat) (w:World) (hE:VarsIn w l a cap) (hG:Glob w) :
  Calls Tryz.prog 108 #[.slice a l.length cap] w fun e w'=>ErrIff (VarsOk l) e∧Below w.heap.size w w':=by
 have hlen:=hE.2.1
 have HA:=Lib.hid hE.addr
 have HE:=Lib.hid hE
 have HG:=Lib.hid hG
 clear hE hG
 by_cases h16:l.length≤16
 ·go_enter Tryz.func108, Tryz.ntmps108
  go_wp2_with fail
  go_loopw [13,4] (fun i _ wr=>∃ k:Nat,i=.int .i64 k∧k≤l.length∧(∀ j (hj:j < l.length),j < k→varOkB (l[j]'hj)=true)∧Below (w.heap.size+1) (w.alloc (.cells #[.slice a l.length cap] 22)) wr) (fun i _ _=>l.length - (intOf i).toNat)
  case atStart=>exact⟨0,rfl,Nat.zero_le _,fun _ _ h=>absurd h (by omega),Below.refl _ _⟩
  case round =>
   obtain⟨k,rfl,hk,hall,hBr⟩:=hrel
   have HAl:=Lib.hid hall
   clear hall
   have hBw:Below w.heap.size w wr:=((Below.refl _ _).alloc (Nat.le_refl _) _).trans (hBr.mono (by simp))
   have HBr:=Lib.hid hBr
   have HBw:=Lib.hid hBw
   have hzr:=hBr.size
   simp only[World.size_alloc] at hzr
   by_cases hlt:k < l.length
   ·obtain⟨b,off,ha⟩:=HA.out.resolve_left (by omega)
    subst ha
    obtain⟨c0,c1,c2,c3,hsz⟩:=HE.out.get rfl hlt
    have kk:=keeps_of_below hBw
    have c0:=kk _ _ c0
    have c1:=kk _ _ c1
    have c2:=kk _ _ c2
    have c3:=kk _ _ c3
    have HNo:Hid (varOkB (l[k]'hlt)=false→¬ VarsOk l):=fun hv h=>by have:=h.ok k hlt;rw[hv] at this;simp at this
    have HAn:Hid (varOkB (l[k]'hlt)=true→∀ j (hj:j < l.length),j < k+1→varOkB (l[j]'hj)=true):=fun hv j hj hjk=>by
     by_cases e:j=k
     ·subst e;exact hv
     ·exact HAl.out j hj (by omega)
    generalize (l[k]'hlt)=v at c0 c1 c2 c3 hsz HNo HAn
    obtain⟨name,width,mode,value⟩:=v
    simp only at c0 c1 c2 c3 hsz
    have HN:=Lib.hid (fun W (hW:Below wr.heap.size wr W) hz=>fr (W0:=wr) (B:=wr.heap.size) (named_any name W hsz (HG.out.below (HBw.out.trans (hW.mono HBw.out.size)))) hW hz)
    clear hBr hBw kk
    cases hn:varB name.data.toList
    ·have HNo':=Lib.hid (HNo.out (by unfold varOkB;rw[hn];rfl))
     rw[hn] at HN
     clear HNo HAn
     go_wp2_with (go_at_call 156;(with_reducible refine(HN.out _ bel sz).mono ?_);rintro e w1 ⟨rfl,hc1,hf1,hz1,hb1⟩)
     go_ret
     exact⟨.no HNo'.out (by decide),HBw.out.trans ((by assumption:Below wr.heap.size wr _).mono HBw.out.size)⟩
    ·rw[hn] at HN
     obtain⟨pw,hpw,hwp⟩:=pow_pack' width
     cases hnum:varNumsB ⟨name,width,mode,value⟩
     ·have HNo':=Lib.hid (HNo.out (by unfold varOkB;rw[hnum,Bool.and_false]))
      have hways:=nums_no hpw hnum
      clear HNo HAn hpw hnum
      rcases hways with d1 | ⟨d1,d2⟩ | ⟨d1,d2,d3⟩ | ⟨d1,d2,d3,d4⟩ | ⟨d1,d2,d3,d4,d5⟩ | ⟨d1,d2,d3,d4,d5,d6⟩ | ⟨d1,d2,d3,d4,d5,d6,d7,d8⟩
      all_goals
       have h0w:Hid (decide (width < 1)=false)∨True:=Or.inr trivial
       (try have h0w:=(show (0:Int)≤width by have:=of_decide_eq_false d1;omega))
       (try have h8w:=(show width≤8 by have:=of_decide_eq_false d2;omega))
       (try have hwp:=hwp (by have:=of_decide_eq_false d2;omega))
       go_wp2_with (go_at_call 156;(with_reducible refine(HN.out _ bel sz).mono ?_);rintro e w1 ⟨rfl,hc1,hf1,hz1,hb1⟩)
       have e1:w1.cell? ⟨wr.heap.size,1,none⟩=some (.int .i64 width):=(hc1 _ _ (by simp)).trans (by simp)
       have e2:w1.cell? ⟨wr.heap.size,2,none⟩=some (.int .i64 mode):=(hc1 _ _ (by simp)).trans (by simp)
       have e3:w1.cell? ⟨wr.heap.size,3,none⟩=some (.int .i64 value):=(hc1 _ _ (by simp)).trans (by simp)
       have HB1:=Lib.hid hb1
       clear hc1 hf1 hz1 hb1
       go_quiet (fail)
       go_wp2_with fail
       go_ret
       exact⟨.no HNo'.out (by decide),below_drewN (HBw.out.trans (HB1.out.mono HBw.out.size)) _⟩
     ·have HAn':=Lib.hid (HAn.out (by unfold varOkB;rw[hnum,hn];rfl))
      have hways:=nums_yes hpw hnum
      clear HNo HAn hpw hnum
      rcases hways with ⟨d1,d2,d3,d4,d5,d6,d7⟩ | ⟨d1,d2,d3,d4,d5,d6,d7,d8⟩
      all_goals
       have h0w:=(show (0:Int)≤width by have:=of_decide_eq_false d1;omega)
       have h8w:=(show width≤8 by have:=of_decide_eq_false d2;omega)
       have hwp:=hwp h8w
       go_wp2_with (go_at_call 156;(with_reducible refine(HN.out _ bel sz).mono ?_);rintro e w1 ⟨rfl,hc1,hf1,hz1,hb1⟩)
       have e1:w1.cell? ⟨wr.heap.size,1,none⟩=some (.int .i64 width):=(hc1 _ _ (by simp)).trans (by simp)
       have e2:w1.cell? ⟨wr.heap.size,2,none⟩=some (.int .i64 mode):=(hc1 _ _ (by simp)).trans (by simp)
       have e3:w1.cell? ⟨wr.heap.size,3,none⟩=some (.int .i64 value):=(hc1 _ _ (by simp)).trans (by simp)
       have HB1:=Lib.hid hb1
       clear hc1 hf1 hz1 hb1
       go_quiet (fail)
       go_wp2_with fail
       go_roundw
       case rel=>exact⟨k+1,by go_num,by omega,HAn'.out,below_drewN (HBr.out.trans (HB1.out.mono (by simpa using hzr))) _⟩
       case measure=>simp[intOf];omega
   ·obtain rfl:k=l.length:=by omega
    have HAl':Hid (∀ j (hj:j < l.length),varOkB (l[j]'hj)=true):=fun j hj=>HAl.out j hj hj
    have cb:wr.cell? ⟨w.heap.size,0,none⟩=some (.slice a l.length cap):=(hBr.cell (p:=⟨w.heap.size,0,none⟩) (by simp)).trans (by simp)
    clear HAl hBr hBw
    go_wp2_with fail
    go_loopw [65,5,6,7] (fun i s _ _ wr=>∃ k:Nat,i=.int .i64 k∧k≤l.length∧s=.int .i64 (bitsTo l k)∧0≤bitsTo l k∧bitsTo l k≤8 * (k:Int)∧(∀ j,j < k→¬ DupAt l j)∧Below (w.heap.size+1) (w.alloc (.cells #[.slice a l.length cap] 22)) wr) (fun i _ _ _ _=>l.length - (intOf i).toNat)
    case atStart=>exact⟨0,rfl,Nat.zero_le _,rfl,by simp[bitsTo_zero],by simp[bitsTo_zero],fun _ h=>absurd h (by omega),HBr.out⟩
    case round =>
     obtain⟨k,rfl,hk,rfl,hb0,hb8,hall,hBk⟩:=hrel
     have HDl:=Lib.hid hall
     clear hall cb
     have hBw:Below w.heap.size w wr:=((Below.refl _ _).alloc (Nat.le_refl _) _).trans (hBk.mono (by simp))
     have cb:wr.cell? ⟨w.heap.size,0,none⟩=some (.slice a l.length cap):=(hBk.cell (p:=⟨w.heap.size,0,none⟩) (by simp)).trans (by simp)
     have HBk:=Lib.hid hBk
     have HBw':=Lib.hid hBw
     have hzk:=hBk.size
     simp only[World.size_alloc] at hzk
     have hzl:w.heap.size < wr.heap.size:=by omega
     have cbA:∀ o,(wr.alloc o).cell? ⟨w.heap.size,0,none⟩=some (.slice a l.length cap):=fun o=>(World.cell?_alloc_lt _ _ _ hzl).trans cb
     by_cases hlt:k < l.length
     ·obtain⟨b,off,ha⟩:=HA.out.resolve_left (by omega)
      subst ha
      obtain⟨c0,c1,c2,c3,hsz⟩:=HE.out.get rfl hlt
      have kk:=keeps_of_below hBw
      have c0:=kk _ _ c0
      have c1:=kk _ _ c1
      have c2:=kk _ _ c2
      have c3:=kk _ _ c3
      have HS:=Lib.hid (bitsTo_succ l k hlt)
      have hw:=width_of_ok (HAl'.out k hlt)
      have HDs:=Lib.hid (dup_self hlt)
      have HDn:Hid (¬ DupAt l k→∀ j,j < k+1→¬ DupAt l j):=fun hv j hj=>by
       by_cases e:j=k
       ·subst e;exact hv
       ·exact HDl.out j (by omega)
      have HIx:=Lib.hid (fun W (hW:Below wr.heap.size wr W) hz=>fr (W0:=wr) (B:=wr.heap.size) (index_any l (some ⟨b,off,none⟩) cap (l[k]'hlt).name W (HE.out.keep (keeps_of_below (HBw'.out.trans (hW.mono HBw'.out.size))))) hW hz)
      generalize (l[k]'hlt)=v at c0 c1 c2 c3 HS hw HDs HIx
      obtain⟨name,width,mode,value⟩:=v
      simp only at c0 c1 c2 c3 hw HDs HIx
      clear hBk hBw kk
      by_cases hd:findV l name 0=(k:Int)
      ·have hnd:=Lib.hid (HDs.out.1 hd)
       have HDn':=Lib.hid (HDn.out hnd.out)
       rw[hd] at HIx
       clear HDs HDn hnd hd
       by_cases hm:mode=0
       ·subst hm
        have HS':Hid (bitsTo l (k+1)=bitsTo l k):=by show _=_;rw[HS.out];simp[widthR]
        clear HS
        go_wp2_with (go_at_call 157;(with_reducible refine(HIx.out _ bel sz).mono ?_);rintro e w1 ⟨rfl,hc1,hf1,hz1,hb1⟩)
        go_roundw
        case rel=>exact⟨k+1,by go_num,by omega,by rw[HS'.out],by rw[HS'.out];omega,by rw[HS'.out];omega,HDn'.out,HBk.out.trans ((by assumption:Below wr.heap.size wr _).mono (by simpa using hzk))⟩
        case measure=>simp[intOf];omega
       ·have HS':Hid (bitsTo l (k+1)=bitsTo l k+width):=by show _=_;rw[HS.out];simp[widthR,hm]
        have hm':(mode != 0)=true:=by simpa using hm
        clear HS hm
        go_wp2_with (go_at_call 157;(with_reducible refine(HIx.out _ bel sz).mono ?_);rintro e w1 ⟨rfl,hc1,hf1,hz1,hb1⟩)
        go_roundw
        case rel=>exact⟨k+1,by go_num,by omega,by rw[HS'.out],by rw[HS'.out];omega,by rw[HS'.out];omega,HDn'.out,HBk.out.trans ((by assumption:Below wr.heap.size wr _).mono (by simpa using hzk))⟩
        case measure=>simp[intOf];omega
      ·have hnv:Hid (¬ VarsOk l):=fun h=>hd (HDs.out.2 (h.dup k hlt))
       have hd':(findV l name 0 != (k:Int))=true:=by simpa using hd
       clear HDs HDn hd
       go_wp2_with (go_at_call 157;(with_reducible refine(HIx.out _ bel sz).mono ?_);rintro e w1 ⟨rfl,hc1,hf1,hz1,hb1⟩)
       go_ret
       exact⟨.no hnv.out (by decide),HBw'.out.trans ((by assumption:Below wr.heap.size wr _).mono HBw'.out.size)⟩
     ·obtain rfl:k=l.length:=by omega
      have HDl':Hid (∀ j,j < l.length→¬ DupAt l j):=fun j hj=>HDl.out j hj
      have hsz:∀ v,v∈l→v.name.size≤1073741824:=fun v hv=>by
       obtain⟨j,hj,rfl⟩:=List.getElem_of_mem hv
       obtain⟨b,off,ha⟩:=HA.out.resolve_left (by omega)
       exact(HE.out.get ha hj).2.2.2.2
      have HCF:=Lib.hid ((containsFunc_vars w.heap.size (fun v=>pB (GapOf l v.name)) l a cap wr (HE.out.keep (keeps_of_below hBw)) (fun v hv w' hW =>
       vars1_any l a cap v w.heap.size w' ((keeps_of_below hW) _ _ cb) (HE.out.keep (keeps_of_below (hBw.trans (hW.mono hBw.size)))) (hsz v hv) (HG.out.below (hBw.trans (hW.mono hBw.size))) (by
        obtain⟨j,hj,rfl⟩:=List.getElem_of_mem hv
        exact varB_of_ok (HAl'.out j hj)))).mono fun e w' h=>(⟨h.1,hBw.trans (h.2.mono hBw.size)⟩:_∧Below w.heap.size w w'))
      clear hBk hBw hsz
      cases hg:l.any (fun v=>pB (GapOf l v.name))
      ·have Hg:Hid (¬ GapAny l):=fun ⟨v,hv,h⟩=>by
        rw[List.any_eq_false] at hg
        exact hg v hv (pB_true h)
       rw[hg] at HCF
       by_cases h20:bitsTo l l.length≤20
       ·have HV:Hid (VarsOk l):=⟨h16,HAl'.out,HDl'.out,Hg.out,h20⟩
        go_wp2_with (go_at_call 137;refine HCF.out.mono ?_;rintro e w1 ⟨rfl,hb1⟩;have HB1:=Lib.hid hb1;clear hb1)
        go_ret
        exact⟨.yes HV.out,(by assumption:Hid (Below w.heap.size w _)).out⟩
       ·have HV:Hid (¬ VarsOk l):=fun h=>h20 h.bits
        have h20':decide (20 < bitsTo l l.length)=true:=by simp;omega
        clear h20
        go_wp2_with (go_at_call 137;refine HCF.out.mono ?_;rintro e w1 ⟨rfl,hb1⟩;have HB1:=Lib.hid hb1;clear hb1)
        go_ret
        exact⟨.no HV.out (by decide),(by assumption:Hid (Below w.heap.size w _)).out⟩
      ·have HV:Hid (¬ VarsOk l):=fun h=>by
        rw[List.any_eq_true] at hg
        obtain⟨v,hv,hp⟩:=hg
        exact h.gap ⟨v,hv,pB_iff.1 hp⟩
       rw[hg] at HCF
       go_wp2_with (go_at_call 137;refine HCF.out.mono ?_;rintro e w1 ⟨rfl,hb1⟩;have HB1:=Lib.hid hb1;clear hb1)
       go_ret
       exact⟨.no HV.out (by decide),(by assumption:Hid (Below w.heap.size w _)).out⟩
 ·have HV:Hid (¬ VarsOk l):=fun h=>h16 h.len
  have h16':17≤l.length:=by omega
  go_enter Tryz.func108, Tryz.ntmps108
  go_wp2_with fail
  go_ret
  exact⟨.no HV.out (by decide),bel⟩
end Go.Proofs.YtcplmcjbkpmhdaaGreatDoor
