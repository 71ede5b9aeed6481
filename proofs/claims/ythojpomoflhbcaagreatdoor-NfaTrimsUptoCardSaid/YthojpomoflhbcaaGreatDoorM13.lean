/- nfa.builder: attach, done. -/
import Derived.Test.YthojpomoflhbcaaGreatDoorM11
import Derived.Test.YthojpomoflhbcaaGreatDoorM12
import Derived.Deep.LoopGhost
import Derived.Test.YthojpomoflhbcaaGreatDoorM09
import Derived.Test.YthojpomoflhbcaaGreatDoorM07
import Derived.Laws.ResultCell
set_option linter.unusedSimpArgs false
set_option linter.unusedVariables false
set_option linter.unnecessarySimpa false
namespace Go.Proofs.YthojpomoflhbcaaGreatDoor
open Go.RowKit
attribute [local go_sem ↓] Go.wp_at_zero Go.wp_at_succ
def EndsN (n:NfaD):Prop:=∀ e∈n.edges,0≤e.fr∧e.fr≤100000∧0≤e.to∧e.to≤100000
theorem BldE.vlt {q:Nat→Bool} {k:Nat} {w0 w:World} {st:Int} {L:List EdgeD} {ve va:Value} (h:BldE q k w0 w st L ve va):∀ j,ve.ownBlock=some j→w0.heap.size≤j∧j < w.heap.size:=by
 obtain⟨xs,h1,_⟩:=h.es
 exact h1.lt
theorem BldE.hlt {q:Nat→Bool} {k:Nat} {w0 w:World} {st:Int} {L:List EdgeD} {ve va:Value} (h:BldE q k w0 w st L ve va) (hq:∀ j,q j=true→j < w.heap.size):∀ j,hid q ve j=true→j < w.heap.size:=fun j hj=>(hid_true.1 hj).elim (hq j) fun e=>(h.vlt j e).2
theorem BStep.kpq {k:Nat} {w w':World} {v v':Value} {q:Nat→Bool} (h:BStep k w v w' v') (hk:q k=true):Kp (World.hide w (hid q v)) (World.hide w' (hid q v')):=h.kp hk fun _ _ h=>h
theorem hid_below {q:Nat→Bool} {v:Value} {w w':World} (hb:Below w.heap.size w w'):Kp (World.hide w (hid q v)) (World.hide w' (hid q v)):=hide_below hb fun _ _ h=>h
theorem attachL_take (l:List Int) (n:NfaD) (base:Int) {i:Nat} (hi:i < l.length):attachL (l.take (i+1)) n base=attachL (l.take i) n base++(firstL n).map fun f=>mvE f (l[i]'hi) (base+f.to):=by
 unfold attachL;rw[List.take_succ_eq_append_getElem hi,List.flatMap_append];simp
set_option maxHeartbeats 8000000 in
set_option maxRecDepth 100000 in
theorem attach_any {q:Nat→Bool} {k:Nat} {w0 w:World} {st:Int} {L:List EdgeD} {ve va:Value} (hB:BldE q k w0 w st L ve va) (hq:∀ j,q j=true→j < w.heap.size) (l:List Int) (al:Option Addr) (cl:Nat) (n:NfaD) (x:NfaA) (base:Int)
  (hI:IntsIn (World.hide w (hid q ve)) l al cl) (hE:edE.In (World.hide w (hid q ve)) n.edges x.ae x.ce) (hends:EndsN n) (hb0:0≤base) (hb1:base≤100000) :
  Calls Tryz.prog 140 #[.pointer (some ⟨k,0,none⟩),.slice al l.length cl,nfaVal n x,.int .i64 base] w (AddPost q k w0 w st (L++attachL l n base) ve va):=by
 have hll:=hI.2.1
 have hel:=hE.len
 have hfl:(firstL n).length≤n.edges.length:=List.length_filter_le _ _
 have HA:Hid (l.length=0∨∃ b off,al=some ⟨b,off,none⟩):=SliceIn.addr hI
 have HAt0:Hid (L++attachL (l.take 0) n base=L):=by show _=_;simp[attachL]
 have HAtS:Hid (∀ i (hi:i < l.length),L++attachL (l.take (i+1)) n base=(L++attachL (l.take i) n base)++(firstL n).map fun f=>mvE f (l[i]'hi) (base+f.to)):=fun i hi=>by rw[attachL_take l n base hi,List.append_assoc]
 have HAtA:Hid (L++attachL (l.take l.length) n base=L++attachL l n base):=by show _=_;rw[List.take_length]
 have HEn:Hid (∀ m (hm:m < (firstL n).length),0≤((firstL n)[m]'hm).to∧((firstL n)[m]'hm).to≤100000):=fun m hm=>(hends _ (List.mem_filter.1 (List.getElem_mem hm)).1).2.2
 have HPo:Hid (∀ ve' w',BldE q k w0 w' st (L++attachL l n base) ve' va→BStep k w ve w' ve'→AddPost q k w0 w st (L++attachL l n base) ve va (.returned (.tuple #[])) w'):=fun ve' w' g1 g2=>⟨rfl,ve',g1,g2⟩
 have HF:Hid (∀ W v,BldE q k w0 W st [] v va∨True→BStep k w ve W v→(∀ j,hid q v j=true→j < W.heap.size)→Calls Tryz.prog 137 #[nfaVal n x] W (EdsRet (hid q v) (firstL n) W)):=fun W v _ hs hh=>first_any (hid q v) n x W (hE.keep (hs.kpq hB.qk)) hh
 have HIk:Hid (∀ W v,BStep k w ve W v→IntsIn W l al cl):=fun W v hs=>hI.keep fun a u ha=>hide_cell _ _ (hs.kpq hB.qk a u ha)
 have Hq:=Lib.hid hq
 have HB:=Lib.hid hB
 have hqk:=hB.qk
 clear hI hE hends hB hq
 generalize AddPost q k w0 w st (L++attachL l n base) ve va=Po at HPo⊢
 generalize hAT:(fun i=>L++attachL (l.take i) n base)=AT
 have HAT:Hid (∀ i,AT i=L++attachL (l.take i) n base):=fun i=>by rw[← hAT]
 have HT0:Hid (AT 0=L):=by show _=_;rw[HAT.out,HAt0.out]
 have HTS:Hid (∀ i (hi:i < l.length),AT (i+1)=AT i++(firstL n).map fun f=>mvE f (l[i]'hi) (base+f.to)):=fun i hi=>by rw[HAT.out,HAT.out];exact HAtS.out i hi
 have HTA:Hid (AT l.length=L++attachL l n base):=by show _=_;rw[HAT.out];exact HAtA.out
 clear hAT HAT HAt0 HAtS HAtA
 generalize L++attachL l n base=LA at HPo HTA
 generalize firstL n=F at HTS HEn HF hfl
 rw[nfaVal_eq]
 simp only[nfaVal_eq] at HF
 have HB1:Hid (BStep k w ve (w.alloc (.cells #[.int .i64 n.states,.slice x.ae n.edges.length x.ce,.slice x.aa n.accept.length x.ca] 33)) ve):=BStep.below ve ((Below.refl _ _).alloc (Nat.le_refl _) _)
 have HD1:Hid (BldE q k w0 (w.alloc (.cells #[.int .i64 n.states,.slice x.ae n.edges.length x.ce,.slice x.aa n.accept.length x.ca] 33)) st L ve va):=HB.out.below ((Below.refl _ _).alloc (Nat.le_refl _) _)
 have hx0:(w.alloc (.cells #[.int .i64 n.states,.slice x.ae n.edges.length x.ce,.slice x.aa n.accept.length x.ca] 33)).heap[w.heap.size]? = some (.cells #[.int .i64 n.states,.slice x.ae n.edges.length x.ce,.slice x.aa n.accept.length x.ca] 33 (0,0)):=hx_newT rfl
 have hvk:∀ j,ve.ownBlock=some j→j < w.heap.size:=fun j hj=>(HB.out.vlt j hj).2
 have hkk:=HB.out.klt
 go_enter Tryz.func140, Tryz.ntmps140
 go_wp2_with fail
 generalize hW1:w.alloc (.cells #[.int .i64 n.states,.slice x.ae n.edges.length x.ce,.slice x.aa n.accept.length x.ca] 33)=W1 at HB1 HD1 hx0⊢
 have hz1:w.heap.size+1≤W1.heap.size:=by rw[← hW1];simp
 clear hW1
 go_loopw [14,9,11] (fun i _ _ wr=>∃ (m:Nat) (v:Value),i=.int .i64 m∧m≤l.length∧Hid (BldE q k w0 wr st (AT m) v va)∧Hid (BStep k W1 ve wr v)) (fun i _ _ _=>l.length - (intOf i).toNat)
 case atStart=>exact⟨0,ve,rfl,Nat.zero_le _,by rw[HT0.out];exact HD1,BStep.refl _ _ _⟩
 case round =>
  obtain⟨m,v,rfl,hm,HD,HSt⟩:=hrel
  have HSw:Hid (BStep k w ve wr v):=HB1.out.trans HSt.out
  have hzr:=HSt.out.size
  by_cases hlt:m < l.length
  ·obtain⟨bl,ol,hla⟩:=HA.out.resolve_left (by omega)
   subst hla
   have g0:=(HIk.out wr v HSw.out).get rfl hlt
   have hbx:wr.heap[w.heap.size]? = some (.cells #[.int .i64 n.states,.slice x.ae n.edges.length x.ce,.slice x.aa n.accept.length x.ca] 33 (0,0)):=(HSt.out.block _ (by omega) (by omega) (fun e=>by have:=hvk _ e;omega)).trans hx0
   have HTm:=Lib.hid (HTS.out m hlt)
   have c0:=cell_of_blkT hbx 0
   have c1:=cell_of_blkT hbx 1
   have c2:=cell_of_blkT hbx 2
   simp at c0 c1 c2
   have HFr:=Lib.hid (HF.out wr v (Or.inr trivial) HSw.out (HD.out.hlt fun j hj=>Nat.lt_of_lt_of_le (Hq.out j hj) (by omega)))
   have e0:l.getD m 0=l[m]'hlt:=by simp[List.getD_eq_getElem?_getD,hlt]
   rw[e0] at g0
   generalize (l[m]'hlt)=s at g0 HTm
   clear e0 hbx
   go_wp2_with fail
   refine HFr.out.mono ?_
   rintro e w5 ⟨⟨fa,fc,rfl,hF⟩,hb5⟩
   have HF5:=Lib.hid hF
   have HFA:Hid (F.length=0∨∃ b off,fa=some ⟨b,off,none⟩):=hF.addr
   have HD5:=Lib.hid (HD.out.below hb5)
   have HS5:Hid (BStep k W1 ve w5 v):=HSt.out.trans (BStep.below v hb5)
   have hz5:=hb5.size
   clear hF hb5 c0 c1 c2 g0
   go_wp2_with fail
   go_loopw [21,11] (fun i _ wr=>∃ (t:Nat) (u:Value),i=.int .i64 t∧t≤F.length∧Hid (BldE q k w0 wr st (AT m++(F.take t).map fun f=>mvE f s (base+f.to)) u va)∧Hid (BStep k w5 v wr u)) (fun i _ _=>F.length - (intOf i).toNat)
   case atStart=>exact⟨0,v,rfl,Nat.zero_le _,by simpa using HD5,BStep.refl _ _ _⟩
   case round =>
    obtain⟨t,u,rfl,ht,HDi,HSi⟩:=hrel
    by_cases hlt2:t < F.length
    ·obtain⟨bf,of,hfa⟩:=HFA.out.resolve_left (by omega)
     subst hfa
     have HFi:=Lib.hid (HF5.out.keep (HSi.out.kpq hqk))
     obtain⟨ag,cg,aS,cs,g0,g1,g2,g3,h1,h2⟩:=edE_get (HF5.out.keep (HSi.out.kpq hqk)) rfl hlt2
     have e0:=hide_cell _ _ g0
     have e1:=hide_cell _ _ g1
     have e2:=hide_cell _ _ g2
     have e3:=hide_cell _ _ g3
     have HEt:=HEn.out t hlt2
     have HTt:Hid (∀ z,AT m++(F.take t).map (fun f=>mvE f s (base+f.to))++[mvE (F[t]'hlt2) s z]=AT m++(F.take t).map (fun f=>mvE f s (base+f.to))++[mvE (F[t]'hlt2) s z]):=fun _=>rfl
     have HTn:Hid (AT m++(F.take t).map (fun f=>mvE f s (base+f.to))++[mvE (F[t]'hlt2) s (base+(F[t]'hlt2).to)]=AT m++(F.take (t+1)).map fun f=>mvE f s (base+f.to)):=by
      show _=_
      rw[List.take_succ_eq_append_getElem hlt2,List.map_append,List.append_assoc];rfl
     have HM:Hid (∀ W z,Below wr.heap.size wr W→Calls Tryz.prog 142 #[.pointer (some ⟨k,0,none⟩),edVal (F[t]'hlt2) ag cg aS cs,.int .i64 s,.int .i64 z] W (AddPost q k w0 W st ((AT m++(F.take t).map fun f=>mvE f s (base+f.to))++[mvE (F[t]'hlt2) s z]) u va)):=fun W z hW=>moved_any (HDi.out.below hW) (F[t]'hlt2) ag cg aS cs s z (h1.keep (hid_below hW)) (h2.keep (hid_below hW))
     clear g0 g1 g2 g3 h1 h2 HTt
     unfold edVal at HM
     generalize (F[t]'hlt2)=y at e0 e1 e2 e3 HEt HTn HM
     obtain⟨hy0,hy1⟩:=HEt
     go_wp2_with (go_at_call 142;go_must (refine(HM.out _ _ bel).mono ?_;rintro e w7 ⟨rfl,u',hD7,hS7⟩))
     have HD7:Hid (BldE q k w0 w7 st (AT m++(F.take (t+1)).map fun f=>mvE f s (base+f.to)) u' va):=by show BldE _ _ _ _ _ _ _ _;rw[← HTn.out];exact hD7
     have HS7:Hid (BStep k w5 v w7 u'):=HSi.out.trans ((BStep.below u ((Below.refl wr.heap.size wr).alloc (Nat.le_refl _) _)).trans hS7)
     go_roundw
     case rel=>exact⟨t+1,u',by go_num,by omega,HD7.out,HS7.out⟩
     case measure=>(simp[intOf];try omega)
    ·obtain rfl:t=F.length:=by omega
     have HD8:Hid (BldE q k w0 wr st (AT (m+1)) u va):=by
      show BldE _ _ _ _ _ _ _ _
      rw[HTm.out]
      have:=HDi.out
      rwa [List.take_length] at this
     have HS8:Hid (BStep k W1 ve wr u):=HS5.out.trans HSi.out
     go_wp2_with fail
     go_roundw
     case rel=>exact⟨m+1,u,by go_num,by omega,HD8.out,HS8.out⟩
     case measure=>(simp[intOf];try omega)
  ·obtain rfl:m=l.length:=by omega
   have HDf:Hid (BldE q k w0 wr st LA v va):=by show BldE _ _ _ _ _ _ _ _;rw[← HTA.out];exact HD.out
   go_wp2_with fail
   first | exact HPo.out _ _ HDf.out HSw.out | (refine bodyPost_ret (results_none rfl _ _ _) rfl ?_;exact HPo.out _ _ HDf.out HSw.out)
end Go.Proofs.YthojpomoflhbcaaGreatDoor
namespace Go.Proofs.YthojpomoflhbcaaGreatDoor
open Go.RowKit
def PE (K:Nat) (e:EdgeD):Prop:=1≤e.to∧e.guards.length≤K∧e.sets.length≤K
theorem PE.mono {K K':Nat} {e:EdgeD} (h:PE K e) (hk:K≤K'):PE K' e:=⟨h.1,by have:=h.2.1;omega,by have:=h.2.2;omega⟩
structure RegN (K:Nat) (n:NfaD):Prop where
 ok:nfaOk n=true
 es:∀ e∈n.edges,PE K e
 ac:∀ a∈n.accept,1≤a
theorem RegN.st {K:Nat} {n:NfaD} (h:RegN K n):1≤n.states∧n.states≤256:=by have:=(nfaOk_iff.1 h.ok).1;omega
theorem RegN.mono {K K':Nat} {n:NfaD} (h:RegN K n) (hk:K≤K'):RegN K' n:=⟨h.ok,fun e he=>(h.es e he).mono hk,h.ac⟩
theorem doneN_some {n m:NfaD} (h:doneN n=some m):n=m∧nfaOk m=true:=by
 unfold doneN at h
 split at h
 ·rename_i h2
  obtain rfl:=Option.some.inj h
  exact⟨rfl,h2⟩
 ·simp at h
theorem pe_first {K:Nat} {n:NfaD} (h:∀ e∈n.edges,PE K e):∀ e∈firstL n,PE K e:=fun e he=>h e (List.mem_filter.1 he).1
theorem pe_attach {K:Nat} {l:List Int} {n:NfaD} {base:Int} (hb:0≤base) (h:∀ e∈n.edges,PE K e):∀ e∈attachL l n base,PE K e:=by
 intro e he
 obtain⟨s,_,he⟩:=List.mem_flatMap.1 he
 obtain⟨f,hf,rfl⟩:=List.mem_map.1 he
 have:=pe_first h f hf
 refine⟨?_,this.2⟩
 have:=this.1
 simp only[mvE];omega
theorem pe_rest {K:Nat} {n:NfaD} {base:Int} (hb:0≤base) (h:∀ e∈n.edges,PE K e):∀ e∈restL n base,PE K e:=by
 intro e he
 obtain⟨f,hf,rfl⟩:=List.mem_map.1 he
 have:=h f (List.mem_filter.1 hf).1
 refine⟨?_,this.2⟩
 have:=this.1
 simp only[mvE];omega
theorem delay_reg {lo hi:Int} {Kx Ky:Nat} {x y:NfaD} (hx:RegN Kx x) (hy:RegN Ky y) (hok:nfaOk (delayN lo hi x y)=true):RegN (Kx+Ky) (delayN lo hi x y):=by
 have hs:=hx.st
 have hb:0≤x.states+(waitsI hi:Int) - 1:=by omega
 have ex:∀ e∈x.edges,PE (Kx+Ky) e:=fun e he=>(hx.es e he).mono (by omega)
 have ey:∀ e∈y.edges,PE (Kx+Ky) e:=fun e he=>(hy.es e he).mono (by omega)
 refine⟨hok,?_,?_⟩
 ·intro e he
  simp only[delayN,List.mem_append] at he
  rcases he with ((((he | he) | he) | he) | he) | he
  ·exact ex e he
  ·split at he
   ·rcases List.mem_append.1 he with he | he
    ·obtain⟨a,_,rfl⟩:=List.mem_map.1 he
     exact⟨by simp only;omega,Nat.zero_le _,Nat.zero_le _⟩
    ·obtain⟨a,_,rfl⟩:=List.mem_map.1 he
     exact⟨by simp only;omega,Nat.zero_le _,Nat.zero_le _⟩
   ·simp at he
  ·split at he
   ·obtain⟨e1,h1,he⟩:=List.mem_flatMap.1 he
    split at he
    ·obtain⟨f,hf,rfl⟩:=List.mem_map.1 he
     have a:=hx.es e1 h1
     have b:=pe_first hy.es f hf
     refine⟨?_,?_,?_⟩
     ·have:=b.1;simp only[behindE];omega
     ·have:=a.2.1;have:=b.2.1;simp only[behindE,List.length_append,List.length_map];omega
     ·have:=a.2.2;have:=b.2.2;simp only[behindE,List.length_append];omega
    ·simp at he
   ·simp at he
  ·split at he
   ·exact pe_attach hb ey e he
   ·simp at he
  ·obtain⟨i,_,he⟩:=List.mem_flatMap.1 he
   split at he
   ·exact pe_attach hb ey e he
   ·simp at he
  ·exact pe_rest hb ey e he
 ·intro a ha
  obtain⟨b,hb2,rfl⟩:=List.mem_map.1 ha
  have:=hy.ac b hb2
  omega
theorem mul_nn {c:Nat} {st:Int} (h:1≤st):0≤(c:Int) * (st - 1):=Int.mul_nonneg (by omega) (by omega)
theorem rep_reg {lo hi:Int} {K:Nat} {n:NfaD} (hn:RegN K n) (hok:nfaOk (repN lo hi n)=true):RegN K (repN lo hi n):=by
 have hs:=hn.st
 refine⟨hok,?_,?_⟩
 ·have:∀ c,∀ e∈repE n c,PE K e:=by
   intro c
   induction c with
   | zero=>intro e he;cases he
   | succ c ih =>
    cases c with
    | zero=>exact hn.es
    | succ c =>
     intro e he
     rw[repE] at he
     ·rcases List.mem_append.1 he with he | he
      ·rcases List.mem_append.1 he with he | he
       ·exact ih e he
       ·exact pe_attach (mul_nn hs.1) hn.es e he
      ·exact pe_rest (mul_nn hs.1) hn.es e he
     ·simp
  exact this _
 ·intro a ha
  simp only[repN,repA] at ha
  obtain⟨i,_,ha⟩:=List.mem_flatMap.1 ha
  split at ha
  ·obtain⟨b,hb,rfl⟩:=List.mem_map.1 ha
   have:=hn.ac b hb
   have:=mul_nn (c:=i) hs.1
   omega
  ·simp at ha
theorem place_pos {base s:Int} (hb:0≤base) (hs:1≤s):1≤placeI base s:=by
 unfold placeI;split<;>omega
theorem or_reg {K:Nat}:∀ (ps:List NfaD) (out:NfaD),(∀ n∈ps,RegN K n)→1≤out.states→(∀ e∈out.edges,PE K e)→(∀ a∈out.accept,1≤a)→(∀ e∈(ps.foldl orOne out).edges,PE K e)∧∀ a∈(ps.foldl orOne out).accept,1≤a:=by
 intro ps
 induction ps with
 | nil=>intro out _ _ h1 h2;exact⟨h1,h2⟩
 | cons n ps ih =>
  intro out hp hst h1 h2
  have hn:=hp n (List.mem_cons_self ..)
  rw[List.foldl_cons]
  refine ih _ (fun m hm=>hp m (List.mem_cons_of_mem _ hm)) ?_ ?_ ?_
  ·have:=hn.st;simp only[orOne];omega
  ·intro e he
   simp only[orOne,List.mem_append] at he
   rcases he with he | he
   ·exact h1 e he
   ·obtain⟨f,hf,rfl⟩:=List.mem_map.1 he
    have:=hn.es f hf
    exact⟨place_pos (by omega) this.1,this.2⟩
  ·intro a ha
   simp only[orOne,List.mem_append] at ha
   rcases ha with ha | ha
   ·exact h2 a ha
   ·obtain⟨b,hb,rfl⟩:=List.mem_map.1 ha
    exact place_pos (by omega) (hn.ac b hb)
theorem set_reg {K:Nat} {n:NfaD} {nm:ByteArray} {x:Ex} (hn:RegN K n) (hok:nfaOk (setN nm x n)=true):RegN (K+1) (setN nm x n):=by
 have hs:=hn.st
 refine⟨hok,?_,?_⟩
 ·intro e he
  simp only[setN,List.mem_append] at he
  rcases he with he | he
  ·exact(hn.es e he).mono (by omega)
  ·obtain⟨f,hf,he⟩:=List.mem_filterMap.1 he
   split at he
   ·obtain rfl:=Option.some.inj he
    have:=hn.es f hf
    refine⟨?_,?_,?_⟩
    ·simp only;omega
    ·have:=this.2.1;simp only;omega
    ·have:=this.2.2;simp only[List.length_append,List.length_singleton];omega
   ·simp at he
 ·intro a ha
  obtain⟨i,_,rfl⟩:=List.mem_map.1 ha
  omega
theorem hold_reg {K:Nat} {n:NfaD} {x:Ex} (hn:RegN K n) (hok:nfaOk (holdN x n)=true):RegN (K+1) (holdN x n):=by
 refine⟨hok,?_,hn.ac⟩
 intro e he
 obtain⟨f,hf,rfl⟩:=List.mem_map.1 he
 have:=hn.es f hf
 refine⟨this.1,?_,?_⟩
 ·have:=this.2.1;simp only[List.length_append,List.length_singleton];omega
 ·have:=this.2.2;simp only;omega
structure JInv (K:Nat) (j:Joint):Prop where
 hd:j.pairs.head? = some (0,0)
 es:∀ e∈j.edges,PE K e
theorem toJ_inv {K i:Nat} {g:List Ex} {j:Joint} {p:Int × Int} (hj:JInv K j) (hg:g.length≤K) (hp:p≠(0,0)):JInv K (toJ i g j p):=by
 obtain⟨h1,h2⟩:=hj
 cases hc:j.pairs with
 | nil=>rw[hc] at h1;simp at h1
 | cons q r =>
  rw[hc] at h1
  have hq:q=(0,0):=by simpa using h1
  refine⟨?_,?_⟩
  ·simp only[toJ,hc];split<;>simp[hq]
  ·intro e he
   simp only[toJ,List.mem_append,List.mem_singleton] at he
   rcases he with he | rfl
   ·exact h2 e he
   ·refine⟨?_,hg,Nat.zero_le _⟩
    simp only[hc]
    rw[List.idxOf_cons,show (q == p)=false from by rw[hq];exact beq_eq_false_iff_ne.2 (Ne.symm hp)]
    simp only[cond_false]
    omega
theorem fold_inv {α:Type} {P:Joint→Prop} {f:Joint→α→Joint}:∀ (l:List α) (j:Joint),P j→(∀ j x,x∈l→P j→P (f j x))→P (l.foldl f j):=by
 intro l
 induction l with
 | nil=>intro j h _;exact h
 | cons x l ih=>intro j h hf;exact ih _ (hf j x (List.mem_cons_self ..) h) fun j y hy=>hf j y (List.mem_cons_of_mem _ hy)
theorem togJ_inv {K i:Nat} {g:List Ex} {s t:Int} {l r:Bool} {j:Joint} (hj:JInv K j) (hg:g.length≤K) (hs:s≠0) (ht:t≠0):JInv K (togJ i g s t l r j):=by
 unfold togJ
 refine fold_inv _ _ hj fun j p hp hj=>toJ_inv hj hg ?_
 intro e
 subst e
 unfold aimsJ at hp
 simp only[List.mem_cons,List.mem_append,Prod.mk.injEq] at hp
 rcases hp with h | (h | h) | h
 ·exact hs h.1.symm
 ·split at h<;>simp at h
 ·split at h<;>simp at h
 ·split at h<;>simp at h
theorem andAt_inv {Kx Ky:Nat} {x y:NfaD} (hx:RegN Kx x) (hy:RegN Ky y):∀ i,JInv (Kx+Ky) (andAt x y i):=by
 intro i
 induction i with
 | zero=>rw[andAt_zero];exact⟨rfl,fun e he=>by cases he⟩
 | succ i ih =>
  rw[andAt_succ]
  unfold procJ
  split
  ·exact ih
  ·split
   ·exact ih
   ·split
    ·refine fold_inv _ _ ih fun j f hf hj=>?_
     have:=hy.es f (List.mem_filter.1 hf).1
     exact togJ_inv hj (by have:=this.2.1;omega) (by decide) (by have:=this.1;omega)
    ·split
     ·refine fold_inv _ _ ih fun j f hf hj=>?_
      have:=hx.es f (List.mem_filter.1 hf).1
      exact togJ_inv hj (by have:=this.2.1;omega) (by have:=this.1;omega) (by decide)
     ·refine fold_inv _ _ ih fun j e he hj=>fold_inv _ _ hj fun j f hf hj=>?_
      have a:=hx.es e (List.mem_filter.1 he).1
      have b:=hy.es f (List.mem_filter.1 hf).1
      exact togJ_inv hj (by have:=a.2.1;have:=b.2.1;rw[List.length_append];omega) (by have:=a.1;omega) (by have:=b.1;omega)
theorem and_reg {Kx Ky:Nat} {x y n:NfaD} (hx:RegN Kx x) (hy:RegN Ky y) (h:andN x y=some n):RegN (Kx+Ky) n:=by
 unfold andN at h
 split at h
 ·obtain⟨rfl,hok⟩:=doneN_some h
  have hj:=andAt_inv hx hy 256
  refine⟨hok,hj.es,?_⟩
  intro a ha
  simp only[jointN] at ha
  split at ha
  ·obtain rfl:=List.mem_singleton.1 ha
   have h1:=hj.hd
   cases hc:(andAt x y 256).pairs with
   | nil=>rw[hc] at h1;simp at h1
   | cons q r =>
    rw[hc] at h1
    have hq:q=(0,0):=by simpa using h1
    rw[List.idxOf_cons,show (q == (-1,-1))=false from by rw[hq];exact beq_eq_false_iff_ne.2 (by simp)]
    simp only[cond_false]
    omega
  ·simp at ha
 ·simp at h
inductive RegL:List Nat→List NfaD→Prop where
 | nil:RegL [] []
 | cons {k:Nat} {p:NfaD} {ks:List Nat} {ps:List NfaD} (h:RegN k p) (hs:RegL ks ps):RegL (k::ks) (p::ps)
theorem all_reg:∀ (ps:List NfaD) (ks:List Nat) (K:Nat) (n m:NfaD),RegN K n→RegL ks ps→allN n ps=some m→RegN (K+ks.sum) m:=by
 intro ps
 induction ps with
 | nil =>
  intro ks K n m hn hp h
  cases hp
  simp only[allN,Option.some.injEq] at h
  subst h
  exact hn.mono (by omega)
 | cons p ps ih =>
  intro ks K n m hn hp h
  cases hp with
  | @cons k _ ks _ hk hks =>
   rw[allN] at h
   cases h2:andN n p with
   | none=>rw[h2] at h;simp at h
   | some q =>
    rw[h2] at h
    have:=ih _ _ _ _ (and_reg hn hk h2) hks h
    rw[List.sum_cons]
    rw[Nat.add_assoc] at this
    exact this
theorem partsN_some:∀ {l:List (Option NfaD)} {ps:List NfaD},partsN l=some ps→l=ps.map some:=by
 intro l
 induction l with
 | nil=>intro ps h;simp only[partsN,Option.some.injEq] at h;subst h;rfl
 | cons a l ih =>
  intro ps h
  cases a with
  | none=>simp[partsN] at h
  | some n =>
   rw[partsN] at h
   obtain⟨r,hr,rfl⟩:=Option.map_eq_some_iff.1 h
   rw[ih hr];rfl
theorem nodeT_zero {s:Tq} {b:Bool} (h:nodeT s b=0):shapeB s=true∧(writtenB s.op=true∨zeroX s.expr=true)∧(s.op=6∨s.name.size=0)∧(s.op=6→nameB s.name.data.toList=true)∧(writtenB s.op=true→validS s.expr=0)∧(s.op=6→b=false)∧(s.op=7→setIn s=false):=by
 unfold nodeT at h
 split at h
 ·simp at h
 rename_i h1
 split at h
 ·simp at h
 rename_i h2
 split at h
 ·rename_i h3;exact absurd h h3.2
 rename_i h3
 split at h
 ·simp at h
 rename_i h4
 split at h
 ·simp at h
 rename_i h5
 simp only[not_or,not_and,Bool.not_eq_false,Decidable.not_not,ne_eq,Bool.not_eq_true] at h1 h2 h3 h4 h5
 refine⟨h1.1,?_,?_,h2,h3,h4,h5⟩
 ·cases hw:writtenB s.op with
  | true=>exact Or.inl rfl
  | false=>exact Or.inr (h1.2.1 hw)
 ·by_cases h6:s.op=6
  ·exact Or.inl h6
  ·exact Or.inr (h1.2.2 h6)
theorem shapeB_true {s:Tq} (h:shapeB s=true):(s.op=1∧s.args.length=0∧s.lo=0∧s.hi=0)∨(s.op=2∧s.args.length=2∧0≤s.lo∧s.lo≤s.hi∧s.hi≤16)∨(s.op=3∧s.args.length=1∧1≤s.lo∧s.lo≤s.hi∧s.hi≤16) ∨
  ((s.op=4∨s.op=5)∧2≤s.args.length∧s.args.length≤8∧s.lo=0∧s.hi=0)∨((s.op=6∨s.op=7)∧s.args.length=1∧s.lo=0∧s.hi=0):=by
 unfold shapeB at h
 repeat' split at h
 all_goals first
  | (simp only[decide_eq_true_eq] at h;simp_all;done)
  | (simp at h;done)
  | skip
theorem checkT_arg {s:Tq} {b:Bool} (h:checkT s b=0):nodeT s b=0∧∀ a∈s.args,checkT a (b || s.op == 5)=0:=by
 rw[checkT_eq] at h
 split at h
 ·rename_i h1
  refine⟨h1,fun a ha=>?_⟩
  exact firstZ_zero.1 h _ (List.mem_map.2 ⟨a,ha,rfl⟩)
 ·rename_i h1;exact absurd h h1
theorem parts_reg:∀ {args:List Tq} {ps:List NfaD},args.map compN=ps.map some→(∀ a∈args,∀ n,compN a=some n→RegN a.nodes n)→RegL (args.map Tq.nodes) ps:=by
 intro args
 induction args with
 | nil=>intro ps h _;cases ps with | nil=>exact RegL.nil | cons p ps=>simp at h
 | cons a args ih =>
  intro ps h hr
  cases ps with
  | nil=>simp at h
  | cons p ps =>
   simp only[List.map_cons,List.cons.injEq] at h
   exact RegL.cons (hr a (List.mem_cons_self ..) p h.1) (ih h.2 fun b hb=>hr b (List.mem_cons_of_mem _ hb))
theorem forall_of {K:Nat}:∀ {ks:List Nat} {ps:List NfaD},RegL ks ps→(∀ k∈ks,k≤K)→∀ p∈ps,RegN K p:=by
 intro ks ps h
 induction h with
 | nil=>intro _ p hp;cases hp
 | cons h1 _ ih =>
  intro hk p hp
  rcases List.mem_cons.1 hp with rfl | hp
  ·exact h1.mono (hk _ (List.mem_cons_self ..))
  ·exact ih (fun k hk2=>hk k (List.mem_cons_of_mem _ hk2)) p hp
theorem le_sum {l:List Nat} {k:Nat} (h:k∈l):k≤l.sum:=by
 induction l with
 | nil=>cases h
 | cons a l ih =>
  rw[List.sum_cons]
  rcases List.mem_cons.1 h with rfl | h
  ·omega
  ·have:=ih h;omega
theorem node_reg {s:Tq} {b:Bool} {ps:List NfaD} {ks:List Nat} (hn:nodeT s b=0) (hl:s.args.length=ps.length) (hp:RegL ks ps) {m:NfaD} (h:nodeN s ps=some m):RegN (1+ks.sum) m:=by
 obtain⟨hs,_⟩:=nodeT_zero hn
 rcases shapeB_true hs with ⟨ho,_⟩ | ⟨ho,h2,_⟩ | ⟨ho,h2,_⟩ | ⟨ho,h2,h3,_⟩ | ⟨ho,h2,_⟩
 ·simp only[nodeN,ho,Int.reduceEq,if_false,if_true] at h
  obtain⟨rfl,hok⟩:=doneN_some h
  refine⟨hok,fun e he=>?_,fun a ha=>?_⟩
  ·obtain rfl:=List.mem_singleton.1 he
   exact⟨Int.le_refl 1,by simp only[List.length_singleton];omega,Nat.zero_le _⟩
  ·obtain rfl:=List.mem_singleton.1 ha;decide
 ·simp only[nodeN,ho,Int.reduceEq,if_false,if_true] at h
  obtain⟨rfl,hok⟩:=doneN_some h
  cases hp with
  | nil=>rw[List.length_nil] at hl;omega
  | @cons k1 p1 ks ps h1 hp =>
   cases hp with
   | nil=>rw[List.length_cons,List.length_nil] at hl;omega
   | @cons k2 p2 ks ps h2 hp =>
    refine(delay_reg h1 h2 hok).mono ?_
    simp only[List.sum_cons];omega
 ·simp only[nodeN,ho,Int.reduceEq,if_false,if_true] at h
  obtain⟨rfl,hok⟩:=doneN_some h
  cases hp with
  | nil=>rw[List.length_nil] at hl;omega
  | @cons k1 p1 ks ps h1 hp =>
   refine(rep_reg h1 hok).mono ?_
   simp only[List.sum_cons];omega
 ·rcases ho with ho | ho
  ·simp only[nodeN,ho,Int.reduceEq,if_false,if_true] at h
   obtain⟨rfl,hok⟩:=doneN_some h
   have:=or_reg ps ⟨1,[],[]⟩ (forall_of hp (K:=1+ks.sum) fun k hk=>Nat.le_trans (le_sum hk) (by omega)) (by decide) (fun e he=>by cases he) (fun a ha=>by cases ha)
   exact⟨hok,this.1,this.2⟩
  ·simp only[nodeN,ho,Int.reduceEq,if_false,if_true] at h
   cases hp with
   | nil=>rw[List.length_nil] at hl;omega
   | @cons k1 p1 ks ps h1 hp =>
    refine(all_reg _ _ _ _ _ h1 hp h).mono ?_
    simp only[List.sum_cons];omega
 ·rcases ho with ho | ho
  ·simp only[nodeN,ho,Int.reduceEq,if_false,if_true] at h
   obtain⟨rfl,hok⟩:=doneN_some h
   cases hp with
   | nil=>rw[List.length_nil] at hl;omega
   | @cons k1 p1 ks ps h1 hp =>
    refine(set_reg h1 hok).mono ?_
    simp only[List.sum_cons];omega
  ·simp only[nodeN,ho,Int.reduceEq,if_false,if_true] at h
   obtain⟨rfl,hok⟩:=doneN_some h
   cases hp with
   | nil=>rw[List.length_nil] at hl;omega
   | @cons k1 p1 ks ps h1 hp =>
    refine(hold_reg h1 hok).mono ?_
    simp only[List.sum_cons];omega
theorem comp_reg (s:Tq):∀ b,checkT s b=0→∀ n,compN s=some n→RegN s.nodes n:=by
 induction s using Tq.ind with
 | h s ih =>
  intro b hc n h
  obtain⟨hn,ha⟩:=checkT_arg hc
  rw[compN_eq] at h
  cases hp:partsN (s.args.map compN) with
  | none=>rw[hp] at h;simp at h
  | some ps =>
   rw[hp] at h
   have he:=partsN_some hp
   rw[Tq.nodes_eq]
   exact node_reg hn (by have:=congrArg List.length he;simpa using this) (parts_reg he fun a ha2 n2 h2=>ih a ha2 _ (ha a ha2) n2 h2) h
end Go.Proofs.YthojpomoflhbcaaGreatDoor
namespace Go.Proofs.YthojpomoflhbcaaGreatDoor
open Go.RowKit
attribute [local go_sem ↓] Go.wp_at_zero Go.wp_at_succ
theorem nfa_res (fn:Func) (hr:fn.results=#[.cell 2 33,.tmp 3]) (W:World) (tm:Array Value) (b:Nat) (m0 m1 m2 e:Value) (hW:W.heap[b]? = some (.cells #[m0,m1,m2] 33 (0,0))) (h0:tm.getD 2 undef=.pointer (some ⟨b,0,none⟩)) (h1:tm.getD 3 undef=e) :
  (results fn tm).run Tryz.prog W=.ok (.tuple #[.agg #[m0,m1,m2],e]) W:=by
 have c0:=cell_of_blkT hW 0
 have c1:=cell_of_blkT hW 1
 have c2:=cell_of_blkT hW 2
 simp at c0 c1 c2
 rw[results_cell_tmp hr,h0,h1]
 simp[asAddr]
 go_simp
theorem set3 {w:World} {b:Nat} {z0 z1 z2 u0 u1 u2:Value} {t:TypeId} (h:w.heap[b]? = some (.cells #[z0,z1,z2] t (0,0))) :
  (((w.setCell ⟨b,0,none⟩ u0).setCell ⟨b,1,none⟩ u1).setCell ⟨b,2,none⟩ u2).heap[b]? = some (.cells #[u0,u1,u2] t (0,0)):=by
 have h0:=heap_setCell_same _ b 0 _ t u0 h
 have h1:=heap_setCell_same _ b 1 _ t u1 h0
 have h2:=heap_setCell_same _ b 2 _ t u2 h1
 rw[h2];rfl
theorem Enc.Own.sliceR {τ:Type} {E:Enc τ} {t:TypeId} {q p:Nat→Bool} {w:World} {B:Nat} {v:Value} {l:List τ} (h:E.Own t q w B v l) (hn:l.length≤1073741824) (hpq:∀ k,p k=true→q k=true) (hp:∀ k,p k=true→k < B):∃ a cap,v=.slice a l.length cap∧E.In (World.hide w p) l a cap:=by
 obtain⟨xs,h1,h2⟩:=h
 refine Enc.Own.sliceP (t:=t) (B:=B) ⟨xs,h1,h2.keep (hide_mono fun k hk=>?_)⟩ hn fun k hk=>?_
 ·exact(hid_true.1 hk).elim (fun h=>hid_true.2 (Or.inl (hpq k h))) fun h=>hid_true.2 (Or.inr h)
 ·cases e:p k with
  | false=>rfl
  | true=>have:=hp k e;omega
def NfaRet (p:Nat→Bool) (r:Option NfaD) (w:World) (e:Ending) (w':World):Prop :=
 (match r with
  | some n=>∃ x,e=.returned (.tuple #[nfaVal n x,.int .i64 0])∧NfaIn (World.hide w' p) n x
  | none=>e=.returned (.tuple #[.agg #[.int .i64 0,.slice none 0 0,.slice none 0 0],.int .i64 2]))∧Below w.heap.size w w'
theorem NfaRet.yes {p:Nat→Bool} {n:NfaD} {x:NfaA} {w w':World} (h:NfaIn (World.hide w' p) n x) (hb:Below w.heap.size w w'):NfaRet p (some n) w (.returned (.tuple #[nfaVal n x,.int .i64 0])) w':=⟨⟨x,rfl,h⟩,hb⟩
theorem NfaRet.no {p:Nat→Bool} {w w':World} (hb:Below w.heap.size w w'):NfaRet p none w (.returned (.tuple #[.agg #[.int .i64 0,.slice none 0 0,.slice none 0 0],.int .i64 2])) w':=⟨rfl,hb⟩
set_option maxHeartbeats 8000000 in
set_option maxRecDepth 100000 in
theorem done_any {q p:Nat→Bool} {k:Nat} {w0 w:World} {st:Int} {L:List EdgeD} {A:List Int} {ve:Value} {aa:Option Addr} {ca:Nat} (hB:BldE q k w0 w st L ve (.slice aa A.length ca)) (hpq:∀ j,p j=true→q j=true) (hp:∀ j,p j=true→j < w0.heap.size)
  (hA:IntsIn (World.hide w p) A aa ca) (hG:Glob w) (hs:SmallN ⟨st,L,A⟩) :
  Calls Tryz.prog 90 #[.pointer (some ⟨k,0,none⟩)] w (NfaRet p (doneN ⟨st,L,A⟩) w):=by
 have hLl:(L.take 4097).length=min 4097 L.length:=List.length_take
 obtain⟨ea,ec,hv,hEp⟩:=hB.es.sliceR (by omega) hpq hp
 have hblk:=hB.blk
 have hk:=hB.klt
 have c0:w.cell? ⟨k,0,none⟩=some (.int .i64 st):=by simp[World.cell?,hblk]
 have c1:w.cell? ⟨k,1,none⟩=some ve:=by simp[World.cell?,hblk]
 have c2:w.cell? ⟨k,2,none⟩=some (.slice aa A.length ca):=by simp[World.cell?,hblk]
 have c3:w.cell? ⟨k,3,none⟩=some (.bool (decide (4097 < L.length))):=by simp[World.cell?,hblk]
 rw[hv] at c1
 have HNo:Hid (nfaOk ⟨st,L,A⟩=false→∀ w',Below w.heap.size w w'→NfaRet p (doneN ⟨st,L,A⟩) w (.returned (.tuple #[.agg #[.int .i64 0,.slice none 0 0,.slice none 0 0],.int .i64 2])) w'):=fun h w' hb=>by
  unfold doneN;rw[h];exact NfaRet.no hb
 have HYes:Hid (nfaOk ⟨st,L,A⟩=true→L.take 4097=L→∀ w',Below w.heap.size w w'→NfaRet p (doneN ⟨st,L,A⟩) w (.returned (.tuple #[.agg #[.int .i64 st,.slice ea (L.take 4097).length ec,.slice aa A.length ca],.int .i64 0])) w'):=fun h ht w' hb=>by
  unfold doneN;rw[if_pos h,ht]
  have hkk:=hide_below (p:=p) (q:=p) hb fun _ _ h=>h
  rw[ht] at hEp
  exact NfaRet.yes (n:=⟨st,L,A⟩) (x:=⟨ea,ec,aa,ca⟩) ⟨hEp.keep hkk,hA.keep hkk⟩ hb
 have hbig:4096 < L.length→nfaOk ⟨st,L,A⟩=false:=fun h=>by
  cases e:nfaOk ⟨st,L,A⟩ with
  | false=>rfl
  | true=>have:=(nfaOk_iff.1 e).1.2.2;simp only at this;omega
 generalize NfaRet p (doneN ⟨st,L,A⟩) w=Po at HNo HYes⊢
 have hz0:(w.alloc (.cells #[.int .i64 0,.slice none 0 0,.slice none 0 0] 33)).heap[w.heap.size]? = some (.cells #[.int .i64 0,.slice none 0 0,.slice none 0 0] 33 (0,0)):=hx_newT rfl
 by_cases hf:4097 < L.length
 ·have HN:=Lib.hid (HNo.out (hbig (by omega)))
  rw[decide_eq_true hf] at c3
  clear HNo HYes hbig hLl hv hEp hB hA hs hpq hp hblk hf
  go_enter Tryz.func90, Tryz.ntmps90
  go_wp2_with fail
  refine bodyPost_ret (v:=.tuple #[.agg #[.int .i64 0,.slice none 0 0,.slice none 0 0],.int .i64 2]) (nfa_res _ rfl _ _ w.heap.size _ _ _ _ hz0 rfl rfl) rfl ?_
  exact HN.out _ ((Below.refl _ _).alloc (Nat.le_refl _) _)
 ·rw[decide_eq_false hf] at c3
  have hnx:nfaOk ⟨st,L,A⟩=nfaOk ⟨st,L.take 4097,A⟩:=by rw[List.take_of_length_le (by omega)]
  have HV:Hid (∀ W,Below w.heap.size w W→Calls Tryz.prog 32 #[.agg #[.int .i64 st,.slice ea (L.take 4097).length ec,.slice aa A.length ca]] W fun e' w'=>e'=.returned (.bool (nfaOk ⟨st,L,A⟩))∧Below W.heap.size W w'):=fun W hW=>by
   rw[hnx]
   exact nvalid_any ⟨st,L.take 4097,A⟩ ⟨ea,ec,aa,ca⟩ W (hG.below hW) ⟨hEp.keep (fun a u h=>keeps_of_below hW _ _ (hide_cell _ _ h)),hA.keep (fun a u h=>keeps_of_below hW _ _ (hide_cell _ _ h))⟩ fun e he=>hs e (List.mem_of_mem_take he)
  have HT:Hid (nfaOk ⟨st,L,A⟩=true→L.take 4097=L):=fun h=>List.take_of_length_le (by have:=(nfaOk_iff.1 h).1.2.2;simp only at this;omega)
  clear hbig hLl hv hEp hB hA hs hpq hp hblk hf hnx
  have HY0:Hid (nfaOk ⟨st,L,A⟩=true→∀ w',Below w.heap.size w w'→Po (.returned (.tuple #[.agg #[.int .i64 st,.slice ea (L.take 4097).length ec,.slice aa A.length ca],.int .i64 0])) w'):=fun h=>HYes.out h (HT.out h)
  clear HYes HT
  generalize (L.take 4097).length=n4 at c1 HV HY0
  cases hn:nfaOk ⟨st,L,A⟩ with
  | false =>
   have HN:=Lib.hid (HNo.out hn)
   rw[hn] at HV
   clear HNo HY0 hn
   go_enter Tryz.func90, Tryz.ntmps90
   go_wp2_with (go_at_call 32;go_must (refine(HV.out _ bel).mono ?_;rintro e w5 ⟨rfl,hb5⟩;have hB5:Below w.heap.size w w5:=((Below.refl w.heap.size w).alloc (Nat.le_refl _) _).trans (hb5.mono (by simp));have e0:=(hB5.cell (p:=⟨k,0,none⟩) hk).trans c0;have e1:=(hB5.cell (p:=⟨k,1,none⟩) hk).trans c1;have e2:=(hB5.cell (p:=⟨k,2,none⟩) hk).trans c2;have r5:=(hb5.block w.heap.size (by simp)).trans hz0;have f0:w5.frozen? ⟨w.heap.size,0,none⟩=false:=(by simp[World.frozen?,r5]);have f1:w5.frozen? ⟨w.heap.size,1,none⟩=false:=(by simp[World.frozen?,r5]);have f2:w5.frozen? ⟨w.heap.size,2,none⟩=false:=(by simp[World.frozen?,r5]);have d0:=cell_of_blkT r5 0;have d1:=cell_of_blkT r5 1;have d2:=cell_of_blkT r5 2;(simp at d0 d1 d2);have HR5:=Lib.hid r5;have HB5:=Lib.hid hB5;clear r5 hB5 hb5))
   refine bodyPost_ret (v:=.tuple #[.agg #[.int .i64 0,.slice none 0 0,.slice none 0 0],.int .i64 2]) (nfa_res _ rfl _ _ w.heap.size _ _ _ _ (set3 HR5.out) rfl rfl) rfl ?_
   exact HN.out _ (((HB5.out.setCell (Nat.le_refl _) _).setCell (Nat.le_refl _) _).setCell (Nat.le_refl _) _)
  | true =>
   have HY:=Lib.hid (HY0.out hn)
   rw[hn] at HV
   clear HNo HY0 hn
   go_enter Tryz.func90, Tryz.ntmps90
   go_wp2_with (go_at_call 32;go_must (refine(HV.out _ bel).mono ?_;rintro e w5 ⟨rfl,hb5⟩;have hB5:Below w.heap.size w w5:=((Below.refl w.heap.size w).alloc (Nat.le_refl _) _).trans (hb5.mono (by simp));have e0:=(hB5.cell (p:=⟨k,0,none⟩) hk).trans c0;have e1:=(hB5.cell (p:=⟨k,1,none⟩) hk).trans c1;have e2:=(hB5.cell (p:=⟨k,2,none⟩) hk).trans c2;have r5:=(hb5.block w.heap.size (by simp)).trans hz0;have f0:w5.frozen? ⟨w.heap.size,0,none⟩=false:=(by simp[World.frozen?,r5]);have f1:w5.frozen? ⟨w.heap.size,1,none⟩=false:=(by simp[World.frozen?,r5]);have f2:w5.frozen? ⟨w.heap.size,2,none⟩=false:=(by simp[World.frozen?,r5]);have d0:=cell_of_blkT r5 0;have d1:=cell_of_blkT r5 1;have d2:=cell_of_blkT r5 2;(simp at d0 d1 d2);have HR5:=Lib.hid r5;have HB5:=Lib.hid hB5;clear r5 hB5 hb5))
   refine bodyPost_ret (v:=.tuple #[.agg #[.int .i64 st,.slice ea n4 ec,.slice aa A.length ca],.int .i64 0]) (nfa_res _ rfl _ _ w.heap.size _ _ _ _ (set3 HR5.out) rfl rfl) rfl ?_
   exact HY.out _ (((HB5.out.setCell (Nat.le_refl _) _).setCell (Nat.le_refl _) _).setCell (Nat.le_refl _) _)
end Go.Proofs.YthojpomoflhbcaaGreatDoor
namespace Go.Proofs.YthojpomoflhbcaaGreatDoor
open Go.RowKit
theorem elemIN:Elem Tryz.prog 31 3 1:=Elem.of Tryz.underlying31 (by kernel_rfl) (z:=.int .i64 0) (bytes:=8) rfl (by decide) (by decide)
theorem inR_w {w w':World} {l:List Int} {xs:List Value} (h:inE.Vals w l xs):inE.Vals w' l xs:=⟨h.1,fun i hi=>by obtain⟨vs,h1,h2⟩:=h.2 i hi;exact⟨vs,h1,h2⟩⟩
theorem inOwn_iff {p:Nat→Bool} {w:World} {B:Nat} {v:Value} {l:List Int}:inE.Own 3 p w B v l↔∃ xs,w.ownsRow B 3 1 v l.length xs∧inE.Vals w l xs :=
 ⟨fun ⟨xs,h1,h2⟩=>⟨xs,h1,inR_w h2⟩,fun ⟨xs,h1,h2⟩=>⟨xs,h1,inR_w h2⟩⟩
structure BldS (q:Nat→Bool) (k:Nat) (w0 w:World) (st:Int) (L:List EdgeD) (A:List Int) (ve va:Value):Prop where
 e:BldE (hid q va) k w0 w st L ve va
 a:inE.Own 3 q w w0.heap.size va A
section
variable {q : Nat → Bool} {k : Nat} {w0 w w' : World} {st : Int} {L L' : List EdgeD} {A : List Int} {ve ve' va : Value}
theorem BldS.alt (h:BldS q k w0 w st L A ve va):∀ j,va.ownBlock=some j→w0.heap.size≤j∧j < w.heap.size:=own_vlt h.a
theorem BldS.ane (h:BldS q k w0 w st L A ve va):some k≠va.ownBlock:=by
 obtain⟨xs,h1,_⟩:=h.a
 exact ownsRow_ne h1 h.e.blk (by decide)
theorem BldS.eane (h:BldS q k w0 w st L A ve va):∀ j,ve.ownBlock=some j→va.ownBlock≠some j:=by
 intro j hj e
 obtain⟨xs,h1,_⟩:=h.e.es
 obtain⟨ys,h2,_⟩:=h.a
 rcases h2.2 with ⟨rfl,_⟩ | ⟨g,cap,cur,rfl,hb,hg,_⟩
 ·simp[Value.ownBlock] at e
 ·have:=ownsRow_ne h1 hg (by decide)
  exact this (by rw[hj];exact e)
theorem BldS.step (h:BldS q k w0 w st L A ve va) (he:BldE (hid q va) k w0 w' st L' ve' va) (hs:BStep k w ve w' ve'):BldS q k w0 w' st L' A ve' va:=by
 refine⟨he,?_⟩
 obtain⟨xs,h1,h2⟩:=inOwn_iff.1 h.a
 obtain⟨ys,h3,_⟩:=h.e.es
 exact inOwn_iff.2 ⟨xs,hs.own h1 h3 h.e.blk (by decide) (by decide),inR_w h2⟩
theorem BldS.below (h:BldS q k w0 w st L A ve va) (hb:Below w.heap.size w w'):BldS q k w0 w' st L A ve va:=h.step (h.e.below hb) (BStep.below ve hb)
theorem BldS.sz (h:BldS q k w0 w st L A ve va):w0.heap.size≤w.heap.size:=h.e.bel.size
theorem BldS.kp {p:Nat→Bool} (h:BldS q k w0 w st L A ve va) (hqp:∀ j,j < w0.heap.size→q j=true→p j=true):Kp (World.hide w0 p) (World.hide w (hid (hid q va) ve)):=hide_below h.e.bel fun j hj hq=>by
 rcases hid_true.1 hq with h1 | h1
 ·rcases hid_true.1 h1 with h2 | h2
  ·exact hqp j hj h2
  ·have:=(h.alt j h2).1;omega
 ·have:=(h.e.vlt j h1).1;omega
theorem BldE.eq {va:Value} (h:BldE q k w0 w st L ve va) (h1:L'.take 4097=L.take 4097) (h2:4097 < L'.length↔4097 < L.length):BldE q k w0 w st L' ve va:=by
 refine⟨h.kB,h.qk,?_,by rw[h1];exact h.es,h.bel⟩
 rw[h.blk]
 by_cases hc:4097 < L.length
 ·rw[decide_eq_true hc,decide_eq_true (h2.2 hc)]
 ·rw[decide_eq_false hc,decide_eq_false (fun e=>hc (h2.1 e))]
theorem BldE.full {va:Value} (h:BldE q k w0 w st L ve va) (hL:4097 < L.length) (M:List EdgeD):BldE q k w0 w st (L++M) ve va :=
 h.eq (List.take_append_of_le_length (by omega)) (by rw[List.length_append];omega)
theorem BldS.full (h:BldS q k w0 w st L A ve va) (hL:4097 < L.length) (M:List EdgeD):BldS q k w0 w st (L++M) A ve va:=⟨h.e.full hL M,h.a⟩
theorem BldS.acc {A':List Int} {v':Value} (h:BldS q k w0 w st L A ve va) (ho:inE.Own 3 q w' w0.heap.size v' A') (hg:w.grownBy w' va.ownBlock) (hat:v'.ownBlock=va.ownBlock∨∃ g,v'.ownBlock=some g∧w.heap.size≤g):BldS q k w0 (w'.setCell ⟨k,2,none⟩ v') st L A' ve v':=by
 have hk:=h.e.klt
 have hkn:some k≠v'.ownBlock:=by
  rcases hat with e | ⟨g,e,hgs⟩
  ·rw[e];exact h.ane
  ·rw[e];intro e2;have:=Option.some.inj e2;omega
 have hblk:w'.heap[k]? = some (.cells #[.int .i64 st,ve,va,.bool (decide (4097 < L.length))] 134 (0,0)):=(hg.block k hk h.ane).trans h.e.blk
 have hve:∀ j,ve.ownBlock=some j→v'.ownBlock≠some j:=fun j hj e2=>by
  rcases hat with e | ⟨g,e,hgs⟩
  ·exact h.eane j hj (by rw[← e,e2])
  ·rw[e2] at e
   have:=(h.e.vlt j hj).2
   have:=Option.some.inj e
   omega
 have hes:edE.Own 69 (hid q v') w' w0.heap.size ve (L.take 4097):=by
  obtain⟨xs,h1,h2⟩:=h.e.es
  refine⟨xs,h1.kept hg ?_,h2.keep (hide_grown hg (fun j hj=>hid_true.2 (Or.inl (hid_true.2 (Or.inr hj)))) fun j hj hq=>?_)⟩
  ·cases e:ve.ownBlock with
   | none=>exact Or.inl rfl
   | some j=>exact Or.inr fun e2=>h.eane j e e2.symm
  ·rcases hid_true.1 hq with h3 | h3
   ·rcases hid_true.1 h3 with h4 | h4
    ·exact hid_true.2 (Or.inl (hid_true.2 (Or.inl h4)))
    ·rcases hat with e | ⟨g,e,hgs⟩
     ·exact hid_true.2 (Or.inl (hid_true.2 (Or.inr (by rw[← e];exact h4))))
     ·rw[e] at h4;have:=Option.some.inj h4;omega
   ·exact hid_true.2 (Or.inr h3)
 have hqk:hid q v' k=true:=by
  rcases hid_true.1 h.e.qk with e | e
  ·exact hid_true.2 (Or.inl e)
  ·exact absurd e.symm h.ane
 refine⟨⟨h.e.kB,hqk,?_,BldE.esSet hqk h.e.ne hes,?_⟩,?_⟩
 ·rw[blk_set hblk 2];rfl
 ·exact(h.e.bel.grown hg h.sz fun j hj=>(h.alt j hj).1).setCell h.e.kB _
 ·obtain⟨xs,h1,h2⟩:=inOwn_iff.1 ho
  exact inOwn_iff.2 ⟨xs,ownsRow_setCell_other h1 (fun e=>hkn e.symm) _,inR_w h2⟩
end
structure BF (k:Nat) (W:World) (ve va:Value) (wr:World):Prop where
 size:W.heap.size≤wr.heap.size
 block:∀ j,j < W.heap.size→j≠k→wr.heap[j]? = W.heap[j]?
 vlt:∀ j,ve.ownBlock=some j→W.heap.size≤j
 alt:∀ j,va.ownBlock=some j→W.heap.size≤j
section
variable {k : Nat} {W wr wr' : World} {ve ve' va va' : Value}
theorem BF.refl (k:Nat) (W:World):BF k W (.slice none 0 0) (.slice none 0 0) W:=⟨Nat.le_refl _,fun _ _ _=>rfl,fun j h=>by simp[Value.ownBlock] at h,fun j h=>by simp[Value.ownBlock] at h⟩
theorem BF.step (h:BF k W ve va wr) (hs:BStep k wr ve wr' ve'):BF k W ve' va wr':=by
 refine⟨Nat.le_trans h.size hs.size,fun j hj hk=>?_,fun j hj=>?_,h.alt⟩
 ·exact(hs.block j (Nat.lt_of_lt_of_le hj h.size) hk fun e=>by have:=h.vlt j e;omega).trans (h.block j hj hk)
 ·rcases hs.row with e | e
  ·exact h.vlt j (by rw[← e];exact hj)
  ·exact Nat.le_trans h.size (e j hj)
theorem BF.below (h:BF k W ve va wr) (hb:Below wr.heap.size wr wr'):BF k W ve va wr':=h.step (BStep.below ve hb)
theorem BF.acc (h:BF k W ve va wr) (hg:wr.grownBy wr' va.ownBlock) (hat:va'.ownBlock=va.ownBlock∨∃ g,va'.ownBlock=some g∧wr.heap.size≤g) (u:Value) (o:Nat):BF k W ve va' (wr'.setCell ⟨k,o,none⟩ u):=by
 refine⟨by rw[World.size_setCell];exact Nat.le_trans h.size hg.size,fun j hj hk=>?_,h.vlt,fun j hj=>?_⟩
 ·refine(Below.heap_setCell _ _ _ _ (fun e=>hk (by simpa using e))).trans ((hg.block j (Nat.lt_of_lt_of_le hj h.size) fun e=>?_).trans (h.block j hj hk))
  have:=h.alt j e.symm;omega
 ·rcases hat with e | ⟨g,e,hgs⟩
  ·exact h.alt j (by rw[← e];exact hj)
  ·rw[e] at hj;have:=Option.some.inj hj;have:=h.size;omega
end
def qk (p:Nat→Bool) (k:Nat):Nat→Bool:=fun j=>p j || j == k
theorem qk_true {p:Nat→Bool} {k j:Nat}:qk p k j=true↔p j=true∨j=k:=by simp[qk]
theorem BldE.mk0 {q:Nat→Bool} {k:Nat} {w0 W:World} {st:Int} {va:Value} (hk:w0.heap.size≤k) (hq:q k=true) (hblk:W.heap[k]? = some (.cells #[.int .i64 st,.slice none 0 0,va,.bool false] 134 (0,0))) (hb:Below w0.heap.size w0 W):BldE q k w0 W st [] (.slice none 0 0) va :=
 ⟨hk,hq,hblk,Enc.Own.nil _ _ _ _ _,hb⟩
theorem BldS.mk0 {p:Nat→Bool} {k:Nat} {w0 W:World} {st:Int} (hk:w0.heap.size≤k) (hblk:W.heap[k]? = some (.cells #[.int .i64 st,.slice none 0 0,.slice none 0 0,.bool false] 134 (0,0))) (hb:Below w0.heap.size w0 W):BldS (qk p k) k w0 W st [] [] (.slice none 0 0) (.slice none 0 0) :=
 ⟨BldE.mk0 hk (hid_true.2 (Or.inl (qk_true.2 (Or.inr rfl)))) hblk hb,Enc.Own.nil _ _ _ _ _⟩
theorem qk_old {p:Nat→Bool} {k:Nat} {w0:World} (hk:w0.heap.size≤k):∀ j,j < w0.heap.size→qk p k j=true→p j=true:=fun j hj h=>(qk_true.1 h).elim id fun e=>by omega
def BldP (p:Nat→Bool) (k:Nat) (w0:World) (n:NfaD) (e:Ending) (w':World):Prop :=
 e=.returned (.tuple #[])∧∃ (q:Nat→Bool) (ve:Value) (aa:Option Addr) (ca:Nat),(∀ j,p j=true→q j=true)∧BldE q k w0 w' n.states n.edges ve (.slice aa n.accept.length ca)∧IntsIn (World.hide w' p) n.accept aa ca
theorem BldS.post {p:Nat→Bool} {k:Nat} {w0 w':World} {n:NfaD} {st:Int} {L:List EdgeD} {A:List Int} {ve va:Value} (h:BldS (qk p k) k w0 w' st L A ve va) (hp:∀ j,p j=true→j < w0.heap.size) (h1:n.states=st) (h2:n.edges=L) (h3:n.accept=A) (hA:A.length≤1073741824):BldP p k w0 n (.returned (.tuple #[])) w':=by
 subst h1 h2 h3
 obtain⟨a,c,rfl,hin⟩:=h.a.sliceR hA (fun j hj=>qk_true.2 (Or.inl hj)) hp
 exact⟨rfl,_,ve,a,c,fun j hj=>hid_true.2 (Or.inl (qk_true.2 (Or.inl hj))),h.e,inE_in.1 hin⟩
theorem RegN.ends {K:Nat} {n:NfaD} (h:RegN K n):EndsN n:=fun e he=>by
 have h1:=(edgeOk_iff.1 ((nfaOk_iff.1 h.ok).2.1 e he)).1
 have:=h.st
 omega
theorem RegN.acc {K:Nat} {n:NfaD} (h:RegN K n):∀ a∈n.accept,1≤a∧a≤256:=fun a ha=>by
 have h1:=((accB_iff.1 (nfaOk_iff.1 h.ok).2.2).1 a ha)
 have:=h.st
 have:=h.ac a ha
 omega
end Go.Proofs.YthojpomoflhbcaaGreatDoor
