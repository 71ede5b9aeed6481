/- slices.IndexFunc and slices.ContainsFunc over the closures of core (printed by gen_corf.py). -/
import Derived.Test.YtcplmcjbkpmhdaaGreatDoorGA
import Derived.Test.YtcplmcjbkpmhdaaGreatDoorKJ
import Derived.Test.YtcplmcjbkpmhdaaGreatDoorGB
set_option linter.unusedSimpArgs false
set_option linter.unusedVariables false
set_option linter.unnecessarySimpa false
namespace Go.Proofs.YtcplmcjbkpmhdaaGreatDoor
open Go.RowKit
attribute [local go_sem ↓] Go.wp_at_zero Go.wp_at_succ
set_option maxRecDepth 100000 in
set_option maxHeartbeats 1000000 in
theorem indexFunc_ctr (c:Nat) (p:Int→Bool) (l:List Int) (a:Option Addr) (cap:Nat) (w0 w:World) (hE:IntsIn w l a cap)
  (hf:∀ (v:Int),v∈l→∀ (w':World),Below w.heap.size w w'→Calls Tryz.prog 80 #[.int .i64 v,.pointer (some ⟨c,0,none⟩)] w' fun e w2=>e=.returned (.bool (p v))∧Below w'.heap.size w' w2) :
  Calls Tryz.prog 132 #[.slice a l.length cap,.func (.func 80) #[] #[.pointer (some ⟨c,0,none⟩)]] w fun e w'=>e=.returned (.int .i64 (idxP p l 0))∧Below w.heap.size w w':=by
 have hlen:=hE.2.1
 have HA:=Lib.hid hE.addr
 have HE:=Lib.hid hE
 have HF:=Lib.hid hf
 clear hE hf
 go_enter Tryz.func132, Tryz.ntmps132
 go_wp2_with fail
 go_loopw [8] (fun i wr=>∃ k:Nat,i=.int .i64 k∧k≤l.length∧(∀ j (hj:j < l.length),j < k→p (l[j]'hj)=false)∧Below w.heap.size w wr) (fun i _=>l.length - (intOf i).toNat)
 case atStart=>exact⟨0,rfl,Nat.zero_le _,fun _ _ h=>absurd h (by omega),Below.refl _ _⟩
 case round =>
  obtain⟨k,rfl,hk,hall,hBr⟩:=hrel
  have HAl:=Lib.hid hall
  have HB:=Lib.hid hBr
  clear hall
  by_cases hlt:k < l.length
  ·obtain⟨b,off,ha⟩:=HA.out.resolve_left (by omega)
   subst ha
   have c0:=(HE.out.keep (keeps_of_below hBr)).get rfl hlt
   have hgd:l.getD k 0=l[k]'hlt:=by rw[List.getD_eq_getElem?_getD,List.getElem?_eq_getElem hlt];rfl
   rw[hgd] at c0
   have HC:=Lib.hid ((HF.out (l[k]'hlt) (List.getElem_mem hlt) wr hBr).mono fun e w2 h=>(⟨h.1,hBr.trans (h.2.mono hBr.size)⟩:_∧Below w.heap.size w w2))
   (try simp only[varVal] at HC)
   clear hBr
   cases he:p (l[k]'hlt)
   ·go_wp2_with fail
    refine HC.out.mono ?_
    rintro e w2 ⟨rfl,hb2⟩
    rw[he]
    have HB2:=Lib.hid hb2
    clear hb2
    (try clear c0);(try clear c1);(try clear c2);(try clear c3)
    go_wp2_with fail
    go_roundw
    case rel=>exact⟨k+1,by go_num,by omega,fun j hj hjk=>by
     by_cases e:j=k
     ·subst e;exact he
     ·exact HAl.out j hj (by omega),HB2.out⟩
    case measure=>simp[intOf];omega
   ·have HY:=Lib.hid (idxP_at p l k 0 hlt (fun j hj=>HAl.out j (by omega) hj) he)
    go_wp2_with fail
    refine HC.out.mono ?_
    rintro e w2 ⟨rfl,hb2⟩
    rw[he]
    have HB2:=Lib.hid hb2
    clear hb2
    (try clear c0);(try clear c1);(try clear c2);(try clear c3)
    go_wp2_with fail
    go_ret
    exact⟨by rw[HY.out];rfl,HB2.out⟩
  ·obtain rfl:k=l.length:=by omega
   have HN:=Lib.hid (idxP_none p l 0 (fun j hj=>HAl.out j hj hj))
   go_wp2_with fail
   go_ret
   exact⟨by rw[HN.out];rfl,HB.out⟩
set_option maxRecDepth 100000 in
set_option maxHeartbeats 1000000 in
theorem containsFunc_ctr (c:Nat) (p:Int→Bool) (l:List Int) (a:Option Addr) (cap:Nat) (w:World) (hE:IntsIn w l a cap)
  (hf:∀ (v:Int),v∈l→∀ (w':World),Below w.heap.size w w'→Calls Tryz.prog 80 #[.int .i64 v,.pointer (some ⟨c,0,none⟩)] w' fun e w2=>e=.returned (.bool (p v))∧Below w'.heap.size w' w2) :
  Calls Tryz.prog 79 #[.slice a l.length cap,.func (.func 80) #[] #[.pointer (some ⟨c,0,none⟩)]] w fun e w'=>e=.returned (.bool (l.any p))∧Below w.heap.size w w':=by
 have HC:=Lib.hid (indexFunc_ctr c p l a cap w w hE hf)
 have HI:=Lib.hid (idxP_any p l)
 clear hE hf
 cases ha:l.any p
 ·have h0:idxP p l 0 < 0:=by have:=HI.out;rw[ha] at this;simpa using this
  generalize idxP p l 0=r at HC h0
  clear HI
  go_enter Tryz.func79, Tryz.ntmps79
  go_wp2_with fail
  refine HC.out.mono ?_
  rintro e w1 ⟨rfl,hb⟩
  have HB1:=Lib.hid hb
  clear hb
  go_wp2_with fail
  go_ret
  exact⟨by first | rfl | (simp;done) | (simp;omega),HB1.out⟩
 ·have h0:0≤idxP p l 0:=by have:=HI.out;rw[ha] at this;simpa using this
  generalize idxP p l 0=r at HC h0
  clear HI
  go_enter Tryz.func79, Tryz.ntmps79
  go_wp2_with fail
  refine HC.out.mono ?_
  rintro e w1 ⟨rfl,hb⟩
  have HB1:=Lib.hid hb
  clear hb
  go_wp2_with fail
  go_ret
  exact⟨by first | rfl | (simp;done) | (simp;omega),HB1.out⟩
set_option maxRecDepth 100000 in
set_option maxHeartbeats 1000000 in
theorem indexFunc_cors (c:Nat) (p:(List Int)→Bool) (l:List (List Int)) (a:Option Addr) (cap:Nat) (w0 w:World) (hE:RowsIn w l a cap)
  (hf:∀ (v:(List Int)),v∈l→∀ (ar:Option Addr) (cr:Nat),∀ (w':World),Below w.heap.size w w'→IntsIn w' v ar cr→Calls Tryz.prog 124 #[.slice ar v.length cr,.pointer (some ⟨c,0,none⟩)] w' fun e w2=>e=.returned (.bool (p v))∧Below w'.heap.size w' w2) :
  Calls Tryz.prog 181 #[.slice a l.length cap,.func (.func 124) #[] #[.pointer (some ⟨c,0,none⟩)]] w fun e w'=>e=.returned (.int .i64 (idxP p l 0))∧Below w.heap.size w w':=by
 have hlen:=hE.2.1
 have HA:=Lib.hid hE.addr
 have HE:=Lib.hid hE
 have HF:=Lib.hid hf
 clear hE hf
 go_enter Tryz.func181, Tryz.ntmps181
 go_wp2_with fail
 go_loopw [8] (fun i wr=>∃ k:Nat,i=.int .i64 k∧k≤l.length∧(∀ j (hj:j < l.length),j < k→p (l[j]'hj)=false)∧Below w.heap.size w wr) (fun i _=>l.length - (intOf i).toNat)
 case atStart=>exact⟨0,rfl,Nat.zero_le _,fun _ _ h=>absurd h (by omega),Below.refl _ _⟩
 case round =>
  obtain⟨k,rfl,hk,hall,hBr⟩:=hrel
  have HAl:=Lib.hid hall
  have HB:=Lib.hid hBr
  clear hall
  by_cases hlt:k < l.length
  ·obtain⟨b,off,ha⟩:=HA.out.resolve_left (by omega)
   subst ha
   obtain⟨ar,cr,c0,hrow⟩:=(HE.out.keep (keeps_of_below hBr)).get rfl hlt
   have HC:=Lib.hid ((HF.out (l[k]'hlt) (List.getElem_mem hlt) ar cr wr hBr hrow).mono fun e w2 h=>(⟨h.1,hBr.trans (h.2.mono hBr.size)⟩:_∧Below w.heap.size w w2))
   (try simp only[varVal] at HC)
   clear hBr hrow
   cases he:p (l[k]'hlt)
   ·go_wp2_with fail
    refine HC.out.mono ?_
    rintro e w2 ⟨rfl,hb2⟩
    rw[he]
    have HB2:=Lib.hid hb2
    clear hb2
    (try clear c0);(try clear c1);(try clear c2);(try clear c3)
    go_wp2_with fail
    go_roundw
    case rel=>exact⟨k+1,by go_num,by omega,fun j hj hjk=>by
     by_cases e:j=k
     ·subst e;exact he
     ·exact HAl.out j hj (by omega),HB2.out⟩
    case measure=>simp[intOf];omega
   ·have HY:=Lib.hid (idxP_at p l k 0 hlt (fun j hj=>HAl.out j (by omega) hj) he)
    go_wp2_with fail
    refine HC.out.mono ?_
    rintro e w2 ⟨rfl,hb2⟩
    rw[he]
    have HB2:=Lib.hid hb2
    clear hb2
    (try clear c0);(try clear c1);(try clear c2);(try clear c3)
    go_wp2_with fail
    go_ret
    exact⟨by rw[HY.out];rfl,HB2.out⟩
  ·obtain rfl:k=l.length:=by omega
   have HN:=Lib.hid (idxP_none p l 0 (fun j hj=>HAl.out j hj hj))
   go_wp2_with fail
   go_ret
   exact⟨by rw[HN.out];rfl,HB.out⟩
set_option maxRecDepth 100000 in
set_option maxHeartbeats 1000000 in
theorem containsFunc_cors (c:Nat) (p:(List Int)→Bool) (l:List (List Int)) (a:Option Addr) (cap:Nat) (w:World) (hE:RowsIn w l a cap)
  (hf:∀ (v:(List Int)),v∈l→∀ (ar:Option Addr) (cr:Nat),∀ (w':World),Below w.heap.size w w'→IntsIn w' v ar cr→Calls Tryz.prog 124 #[.slice ar v.length cr,.pointer (some ⟨c,0,none⟩)] w' fun e w2=>e=.returned (.bool (p v))∧Below w'.heap.size w' w2) :
  Calls Tryz.prog 123 #[.slice a l.length cap,.func (.func 124) #[] #[.pointer (some ⟨c,0,none⟩)]] w fun e w'=>e=.returned (.bool (l.any p))∧Below w.heap.size w w':=by
 have HC:=Lib.hid (indexFunc_cors c p l a cap w w hE hf)
 have HI:=Lib.hid (idxP_any p l)
 clear hE hf
 cases ha:l.any p
 ·have h0:idxP p l 0 < 0:=by have:=HI.out;rw[ha] at this;simpa using this
  generalize idxP p l 0=r at HC h0
  clear HI
  go_enter Tryz.func123, Tryz.ntmps123
  go_wp2_with fail
  refine HC.out.mono ?_
  rintro e w1 ⟨rfl,hb⟩
  have HB1:=Lib.hid hb
  clear hb
  go_wp2_with fail
  go_ret
  exact⟨by first | rfl | (simp;done) | (simp;omega),HB1.out⟩
 ·have h0:0≤idxP p l 0:=by have:=HI.out;rw[ha] at this;simpa using this
  generalize idxP p l 0=r at HC h0
  clear HI
  go_enter Tryz.func123, Tryz.ntmps123
  go_wp2_with fail
  refine HC.out.mono ?_
  rintro e w1 ⟨rfl,hb⟩
  have HB1:=Lib.hid hb
  clear hb
  go_wp2_with fail
  go_ret
  exact⟨by first | rfl | (simp;done) | (simp;omega),HB1.out⟩
end Go.Proofs.YtcplmcjbkpmhdaaGreatDoor
namespace Go.Proofs.YtcplmcjbkpmhdaaGreatDoor
open Go.RowKit
attribute [local go_sem ↓] Go.wp_at_zero Go.wp_at_succ
end Go.Proofs.YtcplmcjbkpmhdaaGreatDoor
namespace Go.Proofs.YtcplmcjbkpmhdaaGreatDoor
open Go.RowKit
attribute [local go_sem ↓] Go.wp_at_zero Go.wp_at_succ
set_option maxHeartbeats 2000000 in
set_option maxRecDepth 100000 in
theorem cores1Z_any (c:Nat) (m l:List Int) (a a':Option Addr) (k k':Nat) (w:World) (hc:w.cell? ⟨c,0,none⟩=some (.slice a' m.length k')) (hL:IntsIn w l a k) (hM:IntsIn w m a' k') :
  Calls Tryz.prog 124 #[.slice a l.length k,.pointer (some ⟨c,0,none⟩)] w fun e w'=>e=.returned (.bool (l == m))∧Below w.heap.size w w':=by
 have HEq:=Lib.hid (Equal_int l m a a' k k' w hL hM)
 clear hL hM
 go_enter Tryz.func124, Tryz.ntmps124
 go_wp2_with fail
 refine HEq.out.mono ?_
 rintro e w1 ⟨rfl,hb1⟩
 have HB1:=Lib.hid hb1
 clear hb1
 go_wp2_with fail
 go_ret
 exact⟨rfl,HB1.out⟩
theorem rowsN_below {w w':World} {B:Nat} {xs:List Value} {ls:List (List Int)} (h:RowsN w B xs ls) (hb:Below w.heap.size w w'):RowsN w' B xs ls:=h.imp fun _ _ _ ho=>ownsRow_below ho hb
theorem out_one {w:World} {v:Value} (h1:v.oneCell'=true):(w.alloc (.cells #[v] 30)).ownsRow w.heap.size 30 1 (.slice (some ⟨w.heap.size,0,none⟩) 1 1) 1 [v] :=
 ⟨by simp,Or.inr ⟨w.heap.size,1,#[v],rfl,Nat.le_refl _,heap_alloc_new' _ _,Nat.le_refl _,by unfold maxLen;omega,by simp,rfl⟩⟩
theorem RowsN.at {w:World} {B:Nat} {v:Value} {xs:List Value} {ls:List (List Nat)} (h:RowsN w 0 xs (ls.map intsN)) (ho:w.ownsRow B 30 1 v ls.length xs) (hn:ls.length≤1073741824) {i:Nat} (hi:i < ls.length) (hl:(ls[i]'hi).length≤1073741824) :
  ∃ b off cap ua uc,v=.slice (some ⟨b,off,none⟩) ls.length cap∧w.cell? ⟨b,off+i,none⟩=some (.slice ua (ls[i]'hi).length uc)∧w.ownsRow 0 3 1 (.slice ua (ls[i]'hi).length uc) (ls[i]'hi).length (valsN (ls[i]'hi)):=by
 obtain⟨a,cap,hv,hS⟩:=slice_of_own ho hn
 rcases hS.2.2 with h0 | ⟨b,off,rfl,hq⟩
 ·omega
 ·obtain⟨u,h1,h2⟩:=h.2 i (by rw[List.length_map];exact hi)
  rw[List.getElem_map,intsN_len] at h2
  obtain⟨ua,uc,rfl,-⟩:=valsN_ints h2 hl
  refine⟨b,off,cap,ua,uc,hv,?_,h2⟩
  have:=hq i hi 0 (by omega)
  rw[Nat.add_zero,Nat.mul_one,Nat.add_zero,h1] at this
  exact this
theorem own_app_kept {w w8:World} {B n m:Nat} {v u:Value} {o:Obj} {xs ys:List Value} (hu:w.ownsRow 0 3 1 u n ys) (ho:w.ownsRow B 30 1 v m xs) (hg:(w.alloc o).grownBy w8 v.ownBlock):w8.ownsRow 0 3 1 u n ys :=
 ownsRow_kept_typeC (ownsRow_below hu ((Below.refl _ _).alloc (Nat.le_refl _) _)) (ownsRow_below ho ((Below.refl _ _).alloc (Nat.le_refl _) _)) (by decide) hg
theorem rowsN_app {w w8:World} {B:Nat} {v u:Value} {o:Obj} {xs:List Value} {ls:List (List Nat)} {c:List Nat} (hR:RowsN w 0 xs (ls.map intsN)) (ho:w.ownsRow B 30 1 v ls.length xs) (hu:w.ownsRow 0 3 1 u c.length (valsN c)) (hg:(w.alloc o).grownBy w8 v.ownBlock):RowsN w8 0 (xs++[u]) ((ls++[c]).map intsN):=by
 rw[List.map_append]
 refine(hR.imp fun u n ys h=>own_app_kept h ho hg).snoc ?_
 rw[intsN_len]
 exact own_app_kept hu ho hg
set_option maxHeartbeats 16000000 in
set_option maxRecDepth 100000 in
theorem cores_any (p:ProbD) (x:ProbA) (bp bs M:Nat) (a:Option Addr) (c:Nat) (v:Value) (w:World) (hp:CorOk p) (hG:Glob w) (hB:TstIn w p x bp bs) (hI:IntsIn w (intsN (allL p)) a c) (hv:w.ownsRow 0 3 1 v (coreW p (allL p)).length (valsN (coreW p (allL p)))) (hm:1≤M∧M≤64) :
  Calls Tryz.prog 69 #[tstV bp bs,.slice a (allL p).length c,v,.int .i64 M] w fun e w'=>(∃ v' xs,e=.returned v'∧w'.ownsRow 0 30 1 v' (coresS (conT p) p.hard.length M (coreW p (allL p))).length xs∧RowsN w' 0 xs ((coresS (conT p) p.hard.length M (coreW p (allL p))).map intsN))∧Below w.heap.size w w':=by
 have hn7:p.hard.length≤7:=hp.hl
 have HTs:=Lib.hid (fun (s:List Nat) (hs:AscN p.hard.length s) a c W (hW:Below w.heap.size w W) (hI:IntsIn W (intsN s) a c)=>test_any p x bp bs s a c W hp (hG.below hW) (hB.below hW) hs.2 hI (by have:=asc_len hs;omega))
 have HWo:=Lib.hid (fun k W (hW:Below w.heap.size w W) (hk:k < (allL p).length)=>without_any (allL p) a c k W (hI.keep (keeps_of_below hW)) hk)
 have HWi:=Lib.hid (fun (s:List Nat) v W (hW:Below w.heap.size w W) (hs:AscN p.hard.length s) (hv:W.ownsRow 0 3 1 v s.length (valsN s))=>within_any p x bp bs s v W hp (hG.below hW) (hB.below hW) hs.2 (Nat.le_trans (asc_len hs) hn7) hv)
 have HIx:=Lib.hid (fun k W (hW:Below w.heap.size w W) (hk:k < p.hard.length)=>(Index_int (intsN (allL p)) a c (k:Int) W (hI.keep (keeps_of_below hW))).mono (R':=fun e w'=>e=.returned (.int .i64 (k:Int))∧Below W.heap.size W w') fun e w' h=>⟨by rw[h.1];unfold allL;rw[idxOf_range hk],h.2⟩)
 rw[intsN_len] at HIx
 have HLs:Hid (∀ k,AscN p.hard.length ((allL p).eraseIdx k)):=fun k=>(asc_range _).sub (List.eraseIdx_sublist ..)
 have HAl:Hid ((allL p).length=p.hard.length):=allL_len p
 have HWw:Hid (∀ k,coreW p ((allL p).eraseIdx k)=withinL (conT p) ((List.range p.hard.length).eraseIdx k).length ((List.range p.hard.length).eraseIdx k)):=fun k=>rfl
 have HAw:Hid (∀ k,AscN p.hard.length (coreW p ((allL p).eraseIdx k))):=fun k=>coreW_asc ((asc_range _).sub (List.eraseIdx_sublist ..))
 have HO0:Hid (outC (conT p) p.hard.length M (coreW p (allL p)) 0=[coreW p (allL p)]):=rfl
 have HOk:=Lib.hid (fun i=>outC_ok (T:=conT p) (n:=p.hard.length) (most:=M) (first:=coreW p (allL p)) hm.1 (coreW_asc (asc_range _)) i)
 have HOs:=Lib.hid (fun i h=>outC_succ (T:=conT p) (n:=p.hard.length) (most:=M) (first:=coreW p (allL p)) (i:=i) h)
 have HOe:=Lib.hid (fun i hi h=>outC_end (T:=conT p) (n:=p.hard.length) (most:=M) (first:=coreW p (allL p)) (i:=i) hi h)
 have HFt:=Lib.hid (fun out l k h=>foldC_take (T:=conT p) (n:=p.hard.length) (most:=M) (out:=out) (l:=l) (k:=k) h)
 have HFk:=Lib.hid (fun out l (h:OutOk p.hard.length M out)=>OutOk.fold (T:=conT p) l h)
 have HF0:Hid (∀ out (l:List Nat),foldC (conT p) p.hard.length M out (l.take 0)=out):=fun out l=>rfl
 have HS1:=Lib.hid (fun out x h=>stepC_full (T:=conT p) (n:=p.hard.length) (most:=M) (out:=out) (x:=x) h)
 have HS2:=Lib.hid (fun out x (h:conT p ((allL p).eraseIdx x)=false)=>stepC_no (T:=conT p) (n:=p.hard.length) (most:=M) (out:=out) (x:=x) h)
 have HS3:=Lib.hid (fun out x (h:coreW p ((allL p).eraseIdx x)∈out)=>stepC_old (T:=conT p) (n:=p.hard.length) (most:=M) (out:=out) (x:=x) h)
 have HS4:=Lib.hid (fun out x h1 (h2:conT p ((allL p).eraseIdx x)=true) (h3:coreW p ((allL p).eraseIdx x)∉out)=>stepC_new (T:=conT p) (n:=p.hard.length) (most:=M) (out:=out) (x:=x) h1 h2 h3)
 simp only[← HWw.out] at HS4
 have HV:=Lib.hid hv
 have HTk:=Lib.hid (fun k a c W hW hI=>HTs.out ((allL p).eraseIdx k) (HLs.out k) a c W hW hI)
 have HWk:=Lib.hid (fun k v W hW hv=>HWi.out ((allL p).eraseIdx k) v W hW (HLs.out k) hv)
 have HCl:Hid (∀ k,(coreW p ((allL p).eraseIdx k)).length≤1000):=fun k=>by have:=asc_len (HAw.out k);omega
 have HEl:Hid (∀ k,((allL p).eraseIdx k).length≤1000):=fun k=>by have:=asc_len (HLs.out k);omega
 have HFl:Hid ((coreW p (allL p)).length≤1000):=by have:=asc_len (coreW_asc (p:=p) (asc_range p.hard.length));exact Nat.le_trans this (by omega)
 generalize coresS (conT p) p.hard.length M (coreW p (allL p))=R at HOe⊢
 generalize outC (conT p) p.hard.length M (coreW p (allL p))=OC at HO0 HOk HOs HOe
 generalize foldC (conT p) p.hard.length M=F at HOs HFt HFk HF0
 generalize stepC (conT p) p.hard.length M=S at HFt HS1 HS2 HS3 HS4
 generalize coreW p (allL p)=FI at HO0 HFl HV
 clear HTs HWi
 generalize conT p=T at HTk HS2 HS4
 rw[HAl.out] at HIx HWo⊢
 obtain⟨CW,hCW⟩:∃ CW:Nat→List Nat,∀ k,coreW p ((allL p).eraseIdx k)=CW k:=⟨_,fun _=>rfl⟩
 obtain⟨EW,hEW⟩:∃ EW:Nat→List Nat,∀ k,(allL p).eraseIdx k=EW k:=⟨_,fun _=>rfl⟩
 simp only[hCW] at HWk HS3 HS4 HCl HAw
 simp only[hEW] at HTk HWo HWk HS2 HS4 HEl
 generalize p.hard.length=n at *
 clear hCW hEW hp hG hB hI hv HLs HAl HWw HAw
 have HPo:Hid (∀ W v' xs,W.ownsRow w.heap.size 30 1 v' R.length xs→RowsN W 0 xs (R.map intsN)→Below w.heap.size w W→(fun (e:Ending) (w':World)=>(∃ v' xs,e=.returned v'∧w'.ownsRow 0 30 1 v' R.length xs∧RowsN w' 0 xs (R.map intsN))∧Below w.heap.size w w') (.returned v') W):=fun W v' xs h1 h2 h3=>⟨⟨v',xs,rfl,own_base h1 (Nat.zero_le _),h2⟩,h3⟩
 generalize (fun (e:Ending) (w':World)=>(∃ v' xs,e=.returned v'∧w'.ownsRow 0 30 1 v' R.length xs∧RowsN w' 0 xs (R.map intsN))∧Below w.heap.size w w')=Po at HPo⊢
 obtain⟨hm1,hm2⟩:=hm
 go_enter Tryz.func69, Tryz.ntmps69
 obtain⟨va,vc,rfl,-⟩:=valsN_ints HV.out (by have:=HFl.out;omega)
 go_wp2_with fail
 have HOa:Hid ((w.alloc (.cells #[.slice va FI.length vc] 30)).ownsRow w.heap.size 30 1 (.slice (some ⟨w.heap.size,0,none⟩) 1 1) 1 [.slice va FI.length vc]):=out_one rfl
 have HBa:Hid (Below w.heap.size w (w.alloc (.cells #[.slice va FI.length vc] 30))):=(Below.refl _ _).alloc (Nat.le_refl _) _
 have HRa:Hid (RowsN (w.alloc (.cells #[.slice va FI.length vc] 30)) 0 [.slice va FI.length vc] ([FI].map intsN)):=(rowsN_nil _ _).snoc (l:=intsN FI) (by rw[intsN_len];exact ownsRow_below HV.out ((Below.refl _ _).alloc (Nat.le_refl _) _))
 generalize w.alloc (.cells #[.slice va FI.length vc] 30)=wA at HOa HBa HRa⊢
 go_loopw [9,10,12,13,14] (fun v i _ _ _ wr=>∃ (q:Nat) (xs:List Value),i=.int .i64 q∧q≤M∧Hid (wr.ownsRow w.heap.size 30 1 v (OC q).length xs)∧Hid (RowsN wr 0 xs ((OC q).map intsN))∧Hid (Below w.heap.size w wr)) (fun _ i _ _ _ _=>M - (intOf i).toNat)
 case atStart=>exact⟨0,[.slice va FI.length vc],rfl,Nat.zero_le _,by rw[HO0.out];exact HOa,by rw[HO0.out];exact HRa,HBa⟩
 case round =>
  obtain⟨q,xs,rfl,hq,HO,HR,HB⟩:=hrel
  have hg:=HOk.out q
  have hgl:=hg.1
  by_cases h1:q < (OC q).length
  ·by_cases h2:(OC q).length < M
   ·have hco:=hg.2 _ (List.getElem_mem h1)
    have hcl:((OC q)[q]'h1).length≤n:=asc_len hco
    obtain⟨b,off,cap,ua,uc,rfl,hcell,hown⟩:=HR.out.at HO.out (by omega) h1 (by omega)
    have HC:=Lib.hid hco.2
    have HU:=Lib.hid hown
    have HN:=Lib.hid (HOs.out q h1)
    have HFq:=Lib.hid (fun l=>HFk.out (OC q) l hg)
    have HFq0:=Lib.hid (HF0.out (OC q))
    have HFtq:=Lib.hid (fun l k h=>HFt.out (OC q) l k h)
    generalize ((OC q)[q]'h1)=cr at hcell HC HU HN hcl
    have hq0:(0:Int)≤(q:Int):=by omega
    have hq1:(q:Int) < ((OC q).length:Int):=by omega
    have hq2:((OC q).length:Int) < (M:Int):=by omega
    obtain⟨FC,hFC⟩:∃ FC:Nat→List (List Nat),∀ k,F (OC q) (cr.take k)=FC k:=⟨_,fun _=>rfl⟩
    have HFC0:Hid (FC 0=OC q):=by show _=_;rw[← hFC];exact HFq0.out cr
    have HFCn:Hid (OC (q+1)=FC cr.length):=by show _=_;rw[← hFC,List.take_length];exact HN.out
    have HFCs:Hid (∀ k (h:k < cr.length),FC (k+1)=S (FC k) (cr[k]'h)):=fun k h=>by rw[← hFC,← hFC];exact HFtq.out cr k h
    have HFCk:Hid (∀ k,(FC k).length≤M):=fun k=>by rw[← hFC];exact(HFq.out _).1
    have HFCa:Hid (∀ k i (h:i < (FC k).length),((FC k)[i]'h).length≤1000):=fun k i h=>by
     have h8:=(HFq.out (cr.take k)).2
     rw[hFC] at h8
     have:=asc_len (h8 _ (List.getElem_mem h))
     omega
    clear hco hown hg hFC HN HFq HFq0 HFtq
    go_wp2_with fail
    generalize wr=wt at *
    go_loopw [34,9,12,13,14] (fun j vo _ _ _ wq=>∃ (k:Nat) (ys:List Value),j=.int .i64 k∧k≤cr.length∧Hid (wq.ownsRow w.heap.size 30 1 vo (FC k).length ys)∧Hid (RowsN wq 0 ys ((FC k).map intsN))∧Hid (wq.ownsRow 0 3 1 (.slice ua cr.length uc) cr.length (valsN cr))∧Hid (Below w.heap.size w wq)) (fun j _ _ _ _ _=>cr.length - (intOf j).toNat)
    case atStart=>exact⟨0,xs,rfl,Nat.zero_le _,by rw[HFC0.out];exact HO,by rw[HFC0.out];exact HR,HU,HB⟩
    case round =>
     obtain⟨k,ys,rfl,hk,HO2,HR2,HU2,HB2⟩:=hrel
     have hfk:=HFCk.out k
     have hkw:IntKind.i64.wrap ((k:Int)+1)=(k:Int)+1:=by rw[IntKind.wrap_i64];omega
     have hzr:=HB2.out.size
     by_cases hlt:k < cr.length
     ·obtain⟨oa,oc,rfl,-⟩:=slice_of_own HO2.out (by omega)
      obtain⟨_,_,hva,hIu⟩:=valsN_ints HU2.out (by omega)
      injection hva with y1 _ y3
      subst y1 y3
      obtain⟨ib,io,hia⟩:=hIu.addr.resolve_left (by rw[intsN_len];omega)
      subst hia
      have hlt9:k < (intsN cr).length:=by rw[intsN_len];exact hlt
      have i0:=intsIn_get hIu rfl hlt9
      rw[intsN_get hlt hlt9] at i0
      have hx:=HC.out _ (List.getElem_mem hlt)
      have HN:=Lib.hid (HFCs.out k hlt)
      generalize (cr[k]'hlt)=x1 at i0 hx HN
      have HCx:=Lib.hid (HIx.out x1 wr HB2.out hx)
      have hx0:(0:Int)≤(x1:Int):=by omega
      clear hIu
      go_wp2_with fail
      refine HCx.out.mono ?_
      rintro e w3 ⟨rfl,hb3⟩
      have HB3:Hid (Below w.heap.size w w3):=HB2.out.trans (hb3.mono hzr)
      have HO3:=Lib.hid (ownsRow_below HO2.out hb3)
      have HR3:=Lib.hid (rowsN_below HR2.out hb3)
      have HU3:=Lib.hid (ownsRow_below HU2.out hb3)
      have HCw:=Lib.hid (HWo.out x1 w3 HB3.out hx)
      clear hb3 HCx
      go_wp2_with fail
      refine HCw.out.mono ?_
      rintro e w4 ⟨⟨v4,rfl,ho4⟩,hb4⟩
      have HB4:Hid (Below w.heap.size w w4):=HB3.out.trans (hb4.mono HB3.out.size)
      have HO4:=Lib.hid (ownsRow_below HO3.out hb4)
      have HR4:=Lib.hid (rowsN_below HR3.out hb4)
      have HU4:=Lib.hid (ownsRow_below HU3.out hb4)
      have HE4:Hid (w4.ownsRow 0 3 1 v4 (EW x1).length (valsN (EW x1))):=own_base ho4 (Nat.zero_le _)
      obtain⟨ea,ec,rfl,heI⟩:=valsN_ints HE4.out (by have:=HEl.out x1;omega)
      have HCt:=Lib.hid (HTk.out x1 ea ec w4 HB4.out heI)
      clear hb4 HCw ho4 heI HO2 HR2 HU2 HO3 HR3 HU3
      by_cases hfull:(FC k).length=M
      ·have HN1:Hid (FC (k+1)=FC k):=HN.out.trans (HS1.out _ _ (by omega))
       have hb:(((FC k).length:Int) == (M:Int))=true:=by simp[hfull]
       have HFu:=Lib.hid hfull
       clear hfull
       go_wp2_with fail
       go_roundw
       case rel=>exact⟨k+1,ys,by go_num,by omega,by rw[HN1.out];exact HO4,by rw[HN1.out];exact HR4,HU4,HB4⟩
       case measure=>(simp[intOf];try omega)
      ·have hb:(((FC k).length:Int) == (M:Int))=false:=by simp;omega
       have hltM:(FC k).length < M:=by omega
       clear hfull
       cases ht:T (EW x1)
       ·rw[ht] at HCt
        have HN1:Hid (FC (k+1)=FC k):=HN.out.trans (HS2.out _ _ ht)
        clear ht
        go_wp2_with fail
        refine HCt.out.mono ?_
        rintro e w5 ⟨rfl,hb5⟩
        have HB5:Hid (Below w.heap.size w w5):=HB4.out.trans (hb5.mono HB4.out.size)
        have HO5:=Lib.hid (ownsRow_below HO4.out hb5)
        have HR5:=Lib.hid (rowsN_below HR4.out hb5)
        have HU5:=Lib.hid (ownsRow_below HU4.out hb5)
        clear hb5
        go_wp2_with fail
        go_roundw
        case rel=>exact⟨k+1,ys,by go_num,by omega,by rw[HN1.out];exact HO5,by rw[HN1.out];exact HR5,HU5,HB5⟩
        case measure=>(simp[intOf];try omega)
       ·rw[ht] at HCt
        have HS4k:=Lib.hid (fun h=>HS4.out (FC k) x1 hltM ht h)
        clear ht
        go_wp2_with fail
        refine HCt.out.mono ?_
        rintro e w5 ⟨rfl,hb5⟩
        have HB5:Hid (Below w.heap.size w w5):=HB4.out.trans (hb5.mono HB4.out.size)
        have HO5:=Lib.hid (ownsRow_below HO4.out hb5)
        have HR5:=Lib.hid (rowsN_below HR4.out hb5)
        have HU5:=Lib.hid (ownsRow_below HU4.out hb5)
        have HE5:=Lib.hid (ownsRow_below HE4.out hb5)
        have HCi:=Lib.hid (HWk.out x1 _ w5 HB5.out HE5.out)
        clear hb5 HCt HO4 HR4 HU4 HE4
        go_wp2_with fail
        refine HCi.out.mono ?_
        rintro e w6 ⟨⟨v6,rfl,ho6⟩,hb6⟩
        have HB6:Hid (Below w.heap.size w w6):=HB5.out.trans (hb6.mono HB5.out.size)
        have HO6:=Lib.hid (ownsRow_below HO5.out hb6)
        have HR6:=Lib.hid (rowsN_below HR5.out hb6)
        have HU6:=Lib.hid (ownsRow_below HU5.out hb6)
        obtain⟨na,nc,rfl,hnI⟩:=valsN_ints ho6 (by have:=HCl.out x1;omega)
        have HN6:=Lib.hid ho6
        clear hb6 HCi ho6 hnI HO5 HR5 HU5 HE5
        go_wp2_with fail
        have hba:Below w6.heap.size w6 (w6.alloc (.cells #[.slice na (CW x1).length nc] 30)):=(Below.refl _ _).alloc (Nat.le_refl _) _
        have HB7:Hid (Below w.heap.size w (w6.alloc (.cells #[.slice na (CW x1).length nc] 30))):=HB6.out.trans (hba.mono HB6.out.size)
        have HO7:=Lib.hid (ownsRow_below HO6.out hba)
        have HR7:=Lib.hid (rowsN_below HR6.out hba)
        have HU7:=Lib.hid (ownsRow_below HU6.out hba)
        have HN7:=Lib.hid (ownsRow_below HN6.out hba)
        have hbx:(w6.alloc (.cells #[.slice na (CW x1).length nc] 30)).cell? ⟨w6.heap.size,0,none⟩=some (.slice na (CW x1).length nc):=by rw[cell_of_blk (heap_alloc_new' w6 _) 0];rfl
        generalize w6.alloc (.cells #[.slice na (CW x1).length nc] 30)=w7 at HB7 HO7 HR7 HU7 HN7 hbx⊢
        clear hba HO6 HR6 HU6 HN6 HB6
        generalize w6.heap.size=bx at hbx⊢
        obtain⟨ra,rc,hv7,hRw⟩:=HR7.out.rows (by rw[List.length_map];exact own_base HO7.out (Nat.zero_le _)) (by rw[List.length_map];omega) (fun i hi=>by
         rw[List.getElem_map,intsN_len]
         have:=HFCa.out k i (by rwa [List.length_map] at hi)
         omega)
        rw[List.length_map] at hv7
        injection hv7 with z1 _ z3
        subst z1 z3
        obtain⟨na2,nc2,hn7v,hnI⟩:=valsN_ints HN7.out (by have:=HCl.out x1;omega)
        injection hn7v with z1 _ z3
        subst z1 z3
        have HCf:=Lib.hid (containsFunc_cors bx (fun l=>l == intsN (CW x1)) ((FC k).map intsN) oa oc w7 hRw (fun v hv ar cr' W' hW' hI'=>cores1Z_any bx (intsN (CW x1)) v ar na cr' nc W' (by rw[intsN_len];exact keeps_of_below hW' _ _ hbx) hI' (hnI.keep (keeps_of_below hW'))))
        rw[List.length_map,memZ] at HCf
        clear hRw hnI
        by_cases hmem:CW x1∈FC k
        ·have HN1:Hid (FC (k+1)=FC k):=HN.out.trans (HS3.out _ _ hmem)
         rw[decide_eq_true hmem] at HCf
         clear hmem HS4k
         refine HCf.out.mono ?_
         rintro e w8 ⟨rfl,hb8⟩
         have HB8:Hid (Below w.heap.size w w8):=HB7.out.trans (hb8.mono HB7.out.size)
         have HO8:=Lib.hid (ownsRow_below HO7.out hb8)
         have HR8:=Lib.hid (rowsN_below HR7.out hb8)
         have HU8:=Lib.hid (ownsRow_below HU7.out hb8)
         clear hb8 HCf hbx
         go_wp2_with fail
         go_roundw
         case rel=>exact⟨k+1,ys,by go_num,by omega,by rw[HN1.out];exact HO8,by rw[HN1.out];exact HR8,HU8,HB8⟩
         case measure=>(simp[intOf];try omega)
        ·have HN1:Hid (FC (k+1)=FC k++[CW x1]):=HN.out.trans (HS4k.out hmem)
         rw[decide_eq_false hmem] at HCf
         clear hmem HS4k
         refine HCf.out.mono ?_
         rintro e w8 ⟨rfl,hb8⟩
         have HB8:Hid (Below w.heap.size w w8):=HB7.out.trans (hb8.mono HB7.out.size)
         have HO8:=Lib.hid (ownsRow_below HO7.out hb8)
         have HR8:=Lib.hid (rowsN_below HR7.out hb8)
         have HU8:=Lib.hid (ownsRow_below HU7.out hb8)
         have HN8:=Lib.hid (ownsRow_below HN7.out hb8)
         have hbx8:=keeps_of_below hb8 _ _ hbx
         have hz8:=HB8.out.size
         clear hb8 HCf hbx HO7 HR7 HU7 HN7
         go_wp2_with (at_builtin;go_must (refine own_appx elemRwC _ rfl (.tmp 60) (.tmp 62) rfl w.heap.size _ (FC k).length ys rfl HO8.out [.slice na (CW x1).length nc] 1 _ _ rfl (by simp[Value.oneCell']) rfl rfl (by omega) (by omega) (by omega) ?_))
         intro g gcap w9 hown9 hg9 hat
         have HB9:Hid (Below w.heap.size w w9):=Below.grown (HB8.out.alloc (by omega) _) hg9 (by simp;omega) (fun q hq=>(HO8.out.lt q hq).1)
         have HR9:=Lib.hid (rowsN_app HR8.out HO8.out HN8.out hg9)
         have HU9:=Lib.hid (own_app_kept HU8.out HO8.out hg9)
         have hne:(FC (k+1)).length=(FC k).length+1:=by rw[HN1.out,List.length_append,List.length_singleton]
         have HO9:=Lib.hid hown9
         clear hown9 hg9 hat
         go_wp2_with fail
         go_roundw
         case rel=>exact⟨k+1,_,by go_num,by omega,by rw[hne];exact HO9,by rw[HN1.out];exact HR9,HU9,HB9⟩
         case measure=>(simp[intOf];try omega)
     ·obtain rfl:k=cr.length:=by omega
      have HNe:=Lib.hid HFCn.out.symm
      rw[HNe.out] at HO2 HR2
      clear hfk
      go_wp2_with fail
      go_roundw
      case rel=>exact⟨q+1,ys,by go_num,by omega,HO2,HR2,HB2⟩
      case measure=>(simp[intOf];try omega)
   ·have HE:=Lib.hid (HOe.out q hq (Or.inr (by omega)))
    rw[HE.out] at HO HR hgl h1 h2
    obtain⟨oa,oc,rfl,-⟩:=slice_of_own HO.out (by omega)
    have hq1:(q:Int) < (R.length:Int):=by omega
    have hq2:¬ ((R.length:Int) < (M:Int)):=by omega
    clear h1 h2
    have HPf:=Lib.hid (HPo.out _ _ _ HO.out HR.out HB.out)
    go_wp2_with fail
    first | exact HPf.out | (go_ret;exact HPf.out)
  ·have HE:=Lib.hid (HOe.out q hq (Or.inl (by omega)))
   rw[HE.out] at HO HR hgl h1
   obtain⟨oa,oc,rfl,-⟩:=slice_of_own HO.out (by omega)
   have hq1:¬ ((q:Int) < (R.length:Int)):=by omega
   clear h1
   have HPf:=Lib.hid (HPo.out _ _ _ HO.out HR.out HB.out)
   go_wp2_with fail
   first | exact HPf.out | (go_ret;exact HPf.out)
end Go.Proofs.YtcplmcjbkpmhdaaGreatDoor
namespace Go.Proofs.YtcplmcjbkpmhdaaGreatDoor
open Go.RowKit
attribute [local go_sem ↓] Go.wp_at_zero Go.wp_at_succ
def CorsRet (p:ProbD) (m:Int) (w:World) (e:Ending) (w':World):Prop:=(∃ v xs,e=.returned (.tuple #[v,.int .i64 (corsE p m)])∧w'.ownsRow 0 30 1 v (corsL p m).length xs∧RowsN w' 0 xs ((corsL p m).map intsN))∧Below w.heap.size w w'
theorem corsRet_none {p:ProbD} {m:Int} {w W:World} {n:Int} (h1:corsE p m=n) (h2:corsL p m=[]) (h3:Below w.heap.size w W):CorsRet p m w (.returned (.tuple #[.slice none 0 0,.int .i64 n])) W:=by
 refine⟨⟨_,[],by rw[h1],?_,?_⟩,h3⟩
 ·rw[h2];exact World.ownsRow_nil _ _ _ _
 ·rw[h2];exact rowsN_nil _ _
theorem corsL_ok (p:ProbD) (m:Int):(corsL p m).length≤64∧∀ c,c∈corsL p m→AscN p.hard.length c:=by
 unfold corsL
 split
 ·next h =>
  split
  ·have:=outC_ok (T:=conT p) (n:=p.hard.length) (most:=m.toNat) (first:=coreW p (allL p)) (by omega) (coreW_asc (asc_range _)) m.toNat
   unfold coresS
   exact⟨Nat.le_trans this.1 (by omega),this.2⟩
  ·simp
 ·simp
theorem corsRet_mem {p:ProbD} {m:Int} {w w':World} {e:Ending} (h:CorsRet p m w e w') (hh:p.hard.length≤7):∃ a c,e=.returned (.tuple #[.slice a (corsL p m).length c,.int .i64 (corsE p m)])∧RowsIn w' ((corsL p m).map intsN) a c∧Below w.heap.size w w':=by
 obtain⟨⟨v,xs,rfl,ho,hr⟩,hb⟩:=h
 have hk:=corsL_ok p m
 obtain⟨a,c,hv,hR⟩:=hr.rows (by rw[List.length_map];exact ho) (by rw[List.length_map];omega) (fun i hi=>by
  rw[List.getElem_map,intsN_len]
  have:=asc_len (hk.2 _ (List.getElem_mem (by rwa [List.length_map] at hi)))
  omega)
 rw[List.length_map] at hv
 subst hv
 exact⟨a,c,rfl,hR,hb⟩
set_option maxHeartbeats 8000000 in
set_option maxRecDepth 100000 in
theorem Cores_any (p:ProbD) (x:ProbA) (m:Int) (w:World) (hE:ProbIn w p x) (hs:ProbSmall p) (hG:Glob w) (hT:ProbOk p→bitsTo p.vars p.vars.length≤10) (hd:p.dists.length≤1048576) (hh:p.hard.length≤7) :
  Calls Tryz.prog 27 #[probVal p x,.int .i64 m] w (CorsRet p m w):=by
 have HV0:=Lib.hid (fun W (hW:Below w.heap.size w W)=>Valid_any p x W (hE.keep (keeps_of_below hW)) hs (hG.below hW))
 have HC0:=Lib.hid (fun W (hW:Below w.heap.size w W)=>Core_any p x W (hE.below hW) hs (hG.below hW) hT hd hh)
 unfold CoreRet at HC0
 by_cases hp:ProbOk p
 ·have HV1:=Lib.hid (fun W hW=>errT (HV0.out W hW) hp)
  by_cases hm:1≤m∧m≤64
  ·have hpm:pB (ProbOk p)=true∧1≤m∧m≤64:=⟨pB_true hp,hm⟩
   cases hcv:conT p (allL p)
   ·have e1:coreE p=13:=by unfold coreE;rw[if_pos (pB_true hp),if_neg (by rw[hcv];simp)]
    have e2:coreL p=[]:=by unfold coreL;rw[if_pos (pB_true hp),if_neg (by rw[hcv];simp)]
    have HPo:=Lib.hid (fun W h=>corsRet_none (p:=p) (m:=m) (w:=w) (W:=W) (n:=13) (by unfold corsE;rw[if_pos hpm,if_neg (by rw[hcv];simp)]) (by unfold corsL;rw[if_pos hpm,if_neg (by rw[hcv];simp)]) h)
    rw[e1,e2] at HC0
    generalize CorsRet p m w=Po at HPo⊢
    obtain⟨hm1,hm2⟩:=hm
    have d1:decide (m < 1)=false:=decide_eq_false (by omega)
    have d2:decide (64 < m)=false:=decide_eq_false (by omega)
    simp only[probVal_eq] at HV1 HC0⊢
    clear hE hs hG hT hd hh HV0 hp hcv e1 e2 hpm
    obtain⟨vs,hard,soft,ds,gs⟩:=p
    obtain⟨av,cv,ah,ch,ao,co,ad,cd,ag,cg⟩:=x
    simp only at HV1 HC0⊢
    have HV:=Lib.hid (HV1.out (w.alloc (.cells #[.slice av vs.length cv,.slice ah hard.length ch,.slice ao soft.length co,.slice ad ds.length cd,.slice ag gs.length cg] 27)) ((Below.refl _ _).alloc (Nat.le_refl _) _))
    clear HV1
    go_enter Tryz.func27, Tryz.ntmps27
    go_wp2_with fail
    refine HV.out.mono ?_
    rintro e w1 ⟨rfl,hb1⟩
    simp only[World.size_alloc] at hb1
    have HB1:=Lib.hid hb1
    have hz1:=hb1.size
    simp only[World.size_alloc] at hz1
    clear hb1
    ((try clear b0 b1 b2 b3 b4);have b0:=box_cell HB1.out 0;have b1:=box_cell HB1.out 1;have b2:=box_cell HB1.out 2;have b3:=box_cell HB1.out 3;have b4:=box_cell HB1.out 4;(try simp at b0 b1 b2 b3 b4))
    go_wp2_with fail
    refine(HC0.out w1 (boxW _ HB1.out)).mono ?_
    rintro e w2 ⟨⟨v,rfl,ho2⟩,hb2⟩
    have HB2:=Lib.hid ((boxW _ HB1.out).trans (hb2.mono (boxW _ HB1.out).size))
    clear hb2
    go_wp2_with fail
    first | exact HPo.out _ HB2.out | (go_ret;exact HPo.out _ HB2.out)
   ·have hc:CorOk p:=⟨hp,hs,hT hp,hd,hh⟩
    have e1:coreE p=0:=by unfold coreE;rw[if_pos (pB_true hp),if_pos hcv]
    have e2:coreL p=coreW p (allL p):=by unfold coreL;rw[if_pos (pB_true hp),if_pos hcv]
    have e3:corsE p m=0:=by unfold corsE;rw[if_pos hpm,if_pos hcv]
    have e4:corsL p m=coresS (conT p) p.hard.length m.toNat (coreW p (allL p)):=by unfold corsL;rw[if_pos hpm,if_pos hcv]
    rw[e1,e2] at HC0
    have HTe:=Lib.hid (fun W (hW:Below w.heap.size w W)=>tester_any p x W hc (hG.below hW) (hE.below hW))
    have HAl:=Lib.hid (fun W=>allL_any p x W (by omega))
    have HCs:=Lib.hid (fun bp bs a c v W (hW:Below w.heap.size w W) (hB:TstIn W p x bp bs) (hI:IntsIn W (intsN (allL p)) a c) hv=>cores_any p x bp bs m.toNat a c v W hc (hG.below hW) hB hI hv (by omega))
    rw[Int.toNat_of_nonneg (by omega)] at HCs
    have HPn:Hid (∀ W v xs,W.ownsRow 0 30 1 v (coresS (conT p) p.hard.length m.toNat (coreW p (allL p))).length xs→RowsN W 0 xs ((coresS (conT p) p.hard.length m.toNat (coreW p (allL p))).map intsN)→Below w.heap.size w W→CorsRet p m w (.returned (.tuple #[v,.int .i64 0])) W):=fun W v xs h1 h2 h3=>by
     refine⟨⟨v,xs,by rw[e3],?_,?_⟩,h3⟩
     ·rw[e4];exact h1
     ·rw[e4];exact h2
    generalize coresS (conT p) p.hard.length m.toNat (coreW p (allL p))=R at HCs HPn
    generalize coreW p (allL p)=CW at HC0 HCs
    generalize CorsRet p m w=Po at HPn⊢
    obtain⟨hm1,hm2⟩:=hm
    have d1:decide (m < 1)=false:=decide_eq_false (by omega)
    have d2:decide (64 < m)=false:=decide_eq_false (by omega)
    simp only[probVal_eq] at HV1 HC0 HTe HAl⊢
    generalize (allL p).length=n at HAl HCs
    generalize allL p=AL at HAl HCs
    clear hE hs hG hT hd hh HV0 hp hc hcv e1 e2 e3 e4 hpm
    obtain⟨vs,hard,soft,ds,gs⟩:=p
    obtain⟨av,cv,ah,ch,ao,co,ad,cd,ag,cg⟩:=x
    simp only at HV1 HC0 HTe HAl⊢
    have HV:=Lib.hid (HV1.out (w.alloc (.cells #[.slice av vs.length cv,.slice ah hard.length ch,.slice ao soft.length co,.slice ad ds.length cd,.slice ag gs.length cg] 27)) ((Below.refl _ _).alloc (Nat.le_refl _) _))
    clear HV1
    go_enter Tryz.func27, Tryz.ntmps27
    go_wp2_with fail
    refine HV.out.mono ?_
    rintro e w1 ⟨rfl,hb1⟩
    simp only[World.size_alloc] at hb1
    have HB1:=Lib.hid hb1
    have hz1:=hb1.size
    simp only[World.size_alloc] at hz1
    clear hb1
    ((try clear b0 b1 b2 b3 b4);have b0:=box_cell HB1.out 0;have b1:=box_cell HB1.out 1;have b2:=box_cell HB1.out 2;have b3:=box_cell HB1.out 3;have b4:=box_cell HB1.out 4;(try simp at b0 b1 b2 b3 b4))
    go_wp2_with fail
    refine(HC0.out w1 (boxW _ HB1.out)).mono ?_
    rintro e w2 ⟨⟨v2,rfl,ho2⟩,hb2⟩
    have HB2:=Lib.hid (HB1.out.trans (hb2.mono (by omega)))
    have HO2:=Lib.hid ho2
    have hz2:=hb2.size
    clear hb2 ho2 b0 b1 b2 b3 b4
    have HALL:Hid (∀ W,Below (w.heap.size+1) (w.alloc (.cells #[.slice av vs.length cv,.slice ah hard.length ch,.slice ao soft.length co,.slice ad ds.length cd,.slice ag gs.length cg] 27)) W→W.cell? ⟨w.heap.size,0,none⟩=some (.slice av vs.length cv)∧W.cell? ⟨w.heap.size,1,none⟩=some (.slice ah hard.length ch)∧W.cell? ⟨w.heap.size,2,none⟩=some (.slice ao soft.length co)∧W.cell? ⟨w.heap.size,3,none⟩=some (.slice ad ds.length cd)∧W.cell? ⟨w.heap.size,4,none⟩=some (.slice ag gs.length cg)):=fun W hW=>by
     have k:=box_cell hW
     have k0:=k 0
     have k1:=k 1
     have k2:=k 2
     have k3:=k 3
     have k4:=k 4
     simp at k0 k1 k2 k3 k4
     exact⟨k0,k1,k2,k3,k4⟩
    have HTe2:Hid (∀ W,Below (w.heap.size+1) (w.alloc (.cells #[.slice av vs.length cv,.slice ah hard.length ch,.slice ao soft.length co,.slice ad ds.length cd,.slice ag gs.length cg] 27)) W→Below w2.heap.size w2 W→Calls Tryz.prog 59 #[.agg #[.slice av vs.length cv,.slice ah hard.length ch,.slice ao soft.length co,.slice ad ds.length cd,.slice ag gs.length cg]] W fun e w'=>(∃ bp bs,e=.returned (tstV bp bs)∧TstIn w' ⟨vs,hard,soft,ds,gs⟩ ⟨av,cv,ah,ch,ao,co,ad,cd,ag,cg⟩ bp bs)∧Below W.heap.size W w'∧Below (w.heap.size+1) (w.alloc (.cells #[.slice av vs.length cv,.slice ah hard.length ch,.slice ao soft.length co,.slice ad ds.length cd,.slice ag gs.length cg] 27)) w'∧Below w2.heap.size w2 w'):=fun W hW hb=>(HTe.out W (boxW _ hW)).mono fun e w' h=>⟨h.1,h.2,hW.trans (h.2.mono (by have:=hW.size;simpa using this)),hb.trans (h.2.mono hb.size)⟩
    have HAl2:Hid (∀ W,Below (w.heap.size+1) (w.alloc (.cells #[.slice av vs.length cv,.slice ah hard.length ch,.slice ao soft.length co,.slice ad ds.length cd,.slice ag gs.length cg] 27)) W→Below w2.heap.size w2 W→Calls Tryz.prog 60 #[.agg #[.slice av vs.length cv,.slice ah hard.length ch,.slice ao soft.length co,.slice ad ds.length cd,.slice ag gs.length cg]] W fun e w'=>(∃ a c,e=.returned (.slice a n c)∧IntsIn w' (intsN AL) a c)∧Below W.heap.size W w'∧Below (w.heap.size+1) (w.alloc (.cells #[.slice av vs.length cv,.slice ah hard.length ch,.slice ao soft.length co,.slice ad ds.length cd,.slice ag gs.length cg] 27)) w'∧Below w2.heap.size w2 w'):=fun W hW hb=>(HAl.out W).mono fun e w' ⟨⟨v,a,c,h1,h2,_,h4⟩,h5⟩=>⟨⟨a,c,by rw[h1,h2],h4⟩,h5,hW.trans (h5.mono (by have:=hW.size;simpa using this)),hb.trans (h5.mono hb.size)⟩
    have HCs2:Hid (∀ bp bs a c W,Below (w.heap.size+1) (w.alloc (.cells #[.slice av vs.length cv,.slice ah hard.length ch,.slice ao soft.length co,.slice ad ds.length cd,.slice ag gs.length cg] 27)) W→TstIn W ⟨vs,hard,soft,ds,gs⟩ ⟨av,cv,ah,ch,ao,co,ad,cd,ag,cg⟩ bp bs→IntsIn W (intsN AL) a c→Below w2.heap.size w2 W→Calls Tryz.prog 69 #[tstV bp bs,.slice a n c,v2,.int .i64 m] W fun e w'=>(∃ v' xs,e=.returned v'∧w'.ownsRow 0 30 1 v' R.length xs∧RowsN w' 0 xs (R.map intsN))∧Below W.heap.size W w'∧Below (w.heap.size+1) (w.alloc (.cells #[.slice av vs.length cv,.slice ah hard.length ch,.slice ao soft.length co,.slice ad ds.length cd,.slice ag gs.length cg] 27)) w'∧Below w2.heap.size w2 w'):=fun bp bs a c W hW hT hI hb=>(HCs.out bp bs a c v2 W (boxW _ hW) hT hI (ownsRow_below HO2.out hb)).mono fun e w' h=>⟨h.1,h.2,hW.trans (h.2.mono (by have:=hW.size;simpa using this)),hb.trans (h.2.mono hb.size)⟩
    have hB2:=HB2.out
    have hs2:Below w2.heap.size w2 w2:=Below.refl _ _
    obtain⟨b0,b1,b2,b3,b4⟩:=HALL.out _ hB2
    clear HTe HAl HCs
    go_wp2_with fail
    go_region_held3 (fun w'=>(Below (w.heap.size+1) (w.alloc (.cells #[.slice av vs.length cv,.slice ah hard.length ch,.slice ao soft.length co,.slice ad ds.length cd,.slice ag gs.length cg] 27)) w'∧Below w2.heap.size w2 w')∧w'.cell? ⟨w.heap.size,0,none⟩=some (.slice av vs.length cv)∧w'.cell? ⟨w.heap.size,1,none⟩=some (.slice ah hard.length ch)∧w'.cell? ⟨w.heap.size,2,none⟩=some (.slice ao soft.length co)∧w'.cell? ⟨w.heap.size,3,none⟩=some (.slice ad ds.length cd)∧w'.cell? ⟨w.heap.size,4,none⟩=some (.slice ag gs.length cg))
     ((refine(fun h1 h2=>⟨⟨h1,h2⟩,HALL.out _ h1⟩) ?_ ?_<;>first | with_reducible assumption | exact bel))
     (first
      | (go_at_call 59;(with_reducible refine(HTe2.out _ (by first | with_reducible assumption | exact bel) (by first | with_reducible assumption | exact bel)).mono ?_);rintro e w3 ⟨⟨bp,bs,rfl,hT3⟩,hb3,hB3,hs3⟩)
      | (go_at_call 60;(with_reducible refine(HAl2.out _ (by first | with_reducible assumption | exact bel) (by first | with_reducible assumption | exact bel)).mono ?_);rintro e w4 ⟨⟨a4,c4,rfl,hI4⟩,hb4,hB4,hs4⟩)
      | (go_at_call 69;(with_reducible refine(HCs2.out _ _ _ _ _ (by first | with_reducible assumption | exact bel) (by first | exact hT3 | exact hT3.below hb4) (by first | exact hI4 | exact hI4.keep (keeps_of_below hb3)) (by first | with_reducible assumption | exact bel)).mono ?_);rintro e w5 ⟨⟨v5,xs5,rfl,ho5,hr5⟩,hb5,hB5,hs5⟩))
    all_goals
     go_wp2_with fail
     first | exact HPn.out _ _ _ ho5 hr5 (boxW _ hB5) | (go_ret;exact HPn.out _ _ _ ho5 hr5 (boxW _ hB5))
  ·have hpm:¬ (pB (ProbOk p)=true∧1≤m∧m≤64):=fun h=>hm h.2
   have HPo:=Lib.hid (fun W h=>corsRet_none (p:=p) (m:=m) (w:=w) (W:=W) (n:=1) (by unfold corsE;rw[if_neg hpm]) (by unfold corsL;rw[if_neg hpm]) h)
   generalize CorsRet p m w=Po at HPo⊢
   simp only[probVal_eq] at HV1⊢
   clear hE hs hG hT hd hh HV0 HC0 hp hpm
   obtain⟨vs,hard,soft,ds,gs⟩:=p
   obtain⟨av,cv,ah,ch,ao,co,ad,cd,ag,cg⟩:=x
   simp only at HV1⊢
   have HV:=Lib.hid (HV1.out (w.alloc (.cells #[.slice av vs.length cv,.slice ah hard.length ch,.slice ao soft.length co,.slice ad ds.length cd,.slice ag gs.length cg] 27)) ((Below.refl _ _).alloc (Nat.le_refl _) _))
   clear HV1
   go_enter Tryz.func27, Tryz.ntmps27
   go_wp2_with fail
   refine HV.out.mono ?_
   rintro e w1 ⟨rfl,hb1⟩
   simp only[World.size_alloc] at hb1
   have HB1:=Lib.hid (boxW _ hb1)
   clear hb1
   by_cases h1:m < 1
   ·go_wp2_with fail
    first | exact HPo.out _ HB1.out | (go_ret;exact HPo.out _ HB1.out)
   ·have h2:64 < m:=by omega
    clear hm
    go_wp2_with fail
    first | exact HPo.out _ HB1.out | (go_ret;exact HPo.out _ HB1.out)
 ·have HV1:=Lib.hid (fun W hW=>errF (HV0.out W hW) hp)
  have hpm:¬ (pB (ProbOk p)=true∧1≤m∧m≤64):=fun h=>hp (pB_iff.1 h.1)
  have HPo:=Lib.hid (fun W h=>corsRet_none (p:=p) (m:=m) (w:=w) (W:=W) (n:=1) (by unfold corsE;rw[if_neg hpm]) (by unfold corsL;rw[if_neg hpm]) h)
  generalize CorsRet p m w=Po at HPo⊢
  simp only[probVal_eq] at HV1⊢
  clear hE hs hG hT hd hh HV0 HC0 hp hpm
  obtain⟨vs,hard,soft,ds,gs⟩:=p
  obtain⟨av,cv,ah,ch,ao,co,ad,cd,ag,cg⟩:=x
  simp only at HV1⊢
  have HV:=Lib.hid (HV1.out (w.alloc (.cells #[.slice av vs.length cv,.slice ah hard.length ch,.slice ao soft.length co,.slice ad ds.length cd,.slice ag gs.length cg] 27)) ((Below.refl _ _).alloc (Nat.le_refl _) _))
  clear HV1
  go_enter Tryz.func27, Tryz.ntmps27
  go_wp2_with fail
  refine HV.out.mono ?_
  rintro e w1 ⟨⟨n,rfl,hn⟩,hb1⟩
  simp only[World.size_alloc] at hb1
  have HB1:=Lib.hid (boxW _ hb1)
  clear hb1
  go_wp2_with fail
  first | exact HPo.out _ HB1.out | (go_ret;exact HPo.out _ HB1.out)
end Go.Proofs.YtcplmcjbkpmhdaaGreatDoor
