/- ref25: has; law25: small. -/
import Derived.Test.YtcplmcjbkpmhdaaGreatDoorGE
import Derived.Test.YtcplmcjbkpmhdaaGreatDoorSE
import Derived.Test.YtcplmcjbkpmhdaaGreatDoorSC
set_option linter.unusedSimpArgs false
set_option linter.unusedVariables false
set_option linter.unnecessarySimpa false
namespace Go.Proofs.YtcplmcjbkpmhdaaGreatDoor
open Go.RowKit
attribute [local go_sem ↓] Go.wp_at_zero Go.wp_at_succ
set_option maxHeartbeats 4000000 in
set_option maxRecDepth 100000 in
theorem has_any (L:List (List Int)) (M:List Int) (a am:Option Addr) (c cm:Nat) (w:World) (hL:RowsIn w L a c) (hM:IntsIn w M am cm) :
  Calls Tryz.prog 70 #[.slice a L.length c,.slice am M.length cm] w fun e w'=>e=.returned (.bool (decide (M∈L)))∧Below w.heap.size w w':=by
 have hlen:=hL.2.1
 have HS:=Lib.hid (fun (A:List Int) aa ca W (hA:IntsIn W A aa ca) (hW:Below w.heap.size w W)=>SameInts_any A aa ca M am cm W hA (hM.keep (keeps_of_below hW)))
 have HL:=Lib.hid hL
 have HY:Hid (∀ k (h:k < L.length),(L[k]'h)=M→decide (M∈L)=true):=fun k h e=>decide_eq_true (by rw[← e];exact List.getElem_mem h)
 have HN:Hid ((∀ k (h:k < L.length),(L[k]'h)≠M)→decide (M∈L)=false):=fun h=>decide_eq_false fun hm=>by
  obtain⟨k,hk,e⟩:=List.getElem_of_mem hm
  exact h k hk e
 generalize decide (M∈L)=R at HY HN⊢
 clear hL hM
 go_enter Tryz.func70, Tryz.ntmps70
 go_wp2_with fail
 go_loopw [5] (fun i wr=>∃ k:Nat,i=.int .i64 k∧k≤L.length∧Hid (∀ j (h:j < L.length),j < k→(L[j]'h)≠M)∧Hid (Below w.heap.size w wr)) (fun i _=>L.length - (intOf i).toNat)
 case atStart=>exact⟨0,rfl,Nat.zero_le _,fun j h h2=>absurd h2 (Nat.not_lt_zero _),Below.refl _ _⟩
 case round =>
  obtain⟨k,rfl,hk,HNo,HB⟩:=hrel
  have hkw:IntKind.i64.wrap ((k:Int)+1)=(k:Int)+1:=by rw[IntKind.wrap_i64];omega
  by_cases hlt:k < L.length
  ·obtain⟨b,off,ha⟩:=HL.out.addr.resolve_left (by omega)
   subst ha
   obtain⟨ra,rc,r0,hI⟩:=(HL.out.keep (keeps_of_below HB.out)).get rfl hlt
   have HC:=Lib.hid (HS.out _ ra rc wr hI HB.out)
   have HYk:=Lib.hid (HY.out k hlt)
   have HNk:Hid ((L[k]'hlt)≠M→∀ j (h:j < L.length),j < k+1→(L[j]'h)≠M):=fun h2 j h hj=>by
    by_cases e:j=k
    ·subst e;exact h2
    ·exact HNo.out j h (by omega)
   clear hI
   generalize (L[k]'hlt)=r at r0 HC HYk HNk
   have hk0:(0:Int)≤(k:Int):=by omega
   by_cases he:r=M
   ·have hR:=HYk.out he
    have hd:decide (r=M)=true:=decide_eq_true he
    rw[hd] at HC
    clear hd he
    go_wp2_with fail
    refine HC.out.mono ?_
    rintro e w2 ⟨rfl,hb2⟩
    have HB2:Hid (Below w.heap.size w w2):=HB.out.trans (hb2.mono HB.out.size)
    clear hb2
    go_wp2_with fail
    first | exact⟨by rw[hR];rfl,HB2.out⟩ | (go_ret;exact⟨by rw[hR];rfl,HB2.out⟩)
   ·have HN2:=Lib.hid (HNk.out he)
    have hd:decide (r=M)=false:=decide_eq_false he
    rw[hd] at HC
    clear hd he
    go_wp2_with fail
    refine HC.out.mono ?_
    rintro e w2 ⟨rfl,hb2⟩
    have HB2:Hid (Below w.heap.size w w2):=HB.out.trans (hb2.mono HB.out.size)
    clear hb2
    go_wp2_with fail
    go_roundw
    case rel=>exact⟨k+1,by go_num,by omega,HN2,HB2⟩
    case measure=>(simp[intOf];try omega)
  ·obtain rfl:k=L.length:=by omega
   have hR:=HN.out fun j h=>HNo.out j h h
   go_wp2_with fail
   first | exact⟨by rw[hR];rfl,HB.out⟩ | (go_ret;exact⟨by rw[hR];rfl,HB.out⟩)
end Go.Proofs.YtcplmcjbkpmhdaaGreatDoor
namespace Go.Proofs.YtcplmcjbkpmhdaaGreatDoor
open Go.RowKit
attribute [local go_sem ↓] Go.wp_at_zero Go.wp_at_succ
set_option maxHeartbeats 4000000 in
set_option maxRecDepth 100000 in
theorem Same25_any (L M:List (List Int)) (a b:Option Addr) (c d:Nat) (w:World) (hL:RowsIn w L a c) (hM:RowsIn w M b d) :
  Calls Tryz.prog 29 #[.slice a L.length c,.slice b M.length d] w fun e w'=>e=.returned (.bool (decide (L=M)))∧Below w.heap.size w w':=by
 have hl1:=hL.2.1
 have hl2:=hM.2.1
 have HS:=Lib.hid (fun (A:List Int) aa ca (B:List Int) ab cb W (hA:IntsIn W A aa ca) (hB:IntsIn W B ab cb)=>SameInts_any A aa ca B ab cb W hA hB)
 have HL:=Lib.hid hL
 have HM:=Lib.hid hM
 by_cases hlm:L.length=M.length
 ·have HY:Hid ((∀ k (h:k < L.length) (h':k < M.length),(L[k]'h)=(M[k]'h'))→decide (L=M)=true):=fun h=>decide_eq_true (List.ext_getElem hlm fun k h1 h2=>h k h1 h2)
  have HN:Hid (∀ k (h:k < L.length) (h':k < M.length),(L[k]'h)≠(M[k]'h')→decide (L=M)=false):=fun k h h' hne=>decide_eq_false fun e=>hne (by subst e;rfl)
  have HE:=Lib.hid hlm
  generalize decide (L=M)=R at HY HN⊢
  rw[← hlm]
  clear hL hM hlm hl2
  go_enter Tryz.func29, Tryz.ntmps29
  go_wp2_with fail
  go_loopw [5] (fun i wr=>∃ k:Nat,i=.int .i64 k∧k≤L.length∧Hid (∀ j (h:j < L.length) (h':j < M.length),j < k→(L[j]'h)=(M[j]'h'))∧Hid (Below w.heap.size w wr)) (fun i _=>L.length - (intOf i).toNat)
  case atStart=>exact⟨0,rfl,Nat.zero_le _,fun j h h' h2=>absurd h2 (Nat.not_lt_zero _),Below.refl _ _⟩
  case round =>
   obtain⟨k,rfl,hk,HNo,HB⟩:=hrel
   have hkw:IntKind.i64.wrap ((k:Int)+1)=(k:Int)+1:=by rw[IntKind.wrap_i64];omega
   by_cases hlt:k < L.length
   ·have hltM:k < M.length:=by have:=HE.out;omega
    obtain⟨lb,lo,ha⟩:=HL.out.addr.resolve_left (by omega)
    subst ha
    obtain⟨mb,mo,ha⟩:=HM.out.addr.resolve_left (by omega)
    subst ha
    obtain⟨ra,rc,r0,hI⟩:=(HL.out.keep (keeps_of_below HB.out)).get rfl hlt
    obtain⟨sa,sc,s0,hJ⟩:=(HM.out.keep (keeps_of_below HB.out)).get rfl hltM
    have HC:=Lib.hid (fun W (hW:Below wr.heap.size wr W)=>HS.out _ ra rc _ sa sc W (hI.keep (keeps_of_below hW)) (hJ.keep (keeps_of_below hW)))
    have d0:∀ gg:Grow wr.heap.size wr,gg.w'.cell? _=_:=Grow.old r0 (Nat.le_refl _)
    have d1:∀ gg:Grow wr.heap.size wr,gg.w'.cell? _=_:=Grow.old s0 (Nat.le_refl _)
    have HNk:=Lib.hid (HN.out k hlt hltM)
    have HYk:Hid ((L[k]'hlt)=(M[k]'hltM)→∀ j (h:j < L.length) (h':j < M.length),j < k+1→(L[j]'h)=(M[j]'h')):=fun h2 j h h' hj=>by
     by_cases e:j=k
     ·subst e;exact h2
     ·exact HNo.out j h h' (by omega)
    clear hI hJ
    generalize (L[k]'hlt)=r at r0 d0 HC HYk HNk
    generalize (M[k]'_)=s at s0 d1 HC HYk HNk
    have hk0:(0:Int)≤(k:Int):=by omega
    have hkL:(k:Int) < (L.length:Int):=by omega
    by_cases he:r=s
    ·have HY2:=Lib.hid (HYk.out he)
     have hd:decide (r=s)=true:=decide_eq_true he
     rw[hd] at HC
     clear hd he
     go_wp2_with fail
     (refine wp_region_grow (B:=wr.heap.size) (w0:=wr) (by kernel_rfl) (by kernel_rfl) bel ?_;(repeat (go_big_quiet_step ((go_at_call 26;with_reducible exact grow_callB (Nat.le_refl _) _ (HC.out _ (Grow.h _))))));refine wpQuiet_nil ?_;intro wg hCg;have hbg:=grow_out hCg;clear hCg)
     have HB2:Hid (Below w.heap.size w wg):=HB.out.trans (hbg.mono HB.out.size)
     clear hbg
     go_wp2_with fail
     go_roundw
     case rel=>exact⟨k+1,by go_num,by omega,HY2,HB2⟩
     case measure=>(simp[intOf];try omega)
    ·have hR:=HNk.out he
     have hd:decide (r=s)=false:=decide_eq_false he
     rw[hd] at HC
     clear hd he
     go_wp2_with fail
     (refine wp_region_grow (B:=wr.heap.size) (w0:=wr) (by kernel_rfl) (by kernel_rfl) bel ?_;(repeat (go_big_quiet_step ((go_at_call 26;with_reducible exact grow_callB (Nat.le_refl _) _ (HC.out _ (Grow.h _))))));refine wpQuiet_nil ?_;intro wg hCg;have hbg:=grow_out hCg;clear hCg)
     have HB2:Hid (Below w.heap.size w wg):=HB.out.trans (hbg.mono HB.out.size)
     clear hbg
     go_wp2_with fail
     first | exact⟨by rw[hR];rfl,HB2.out⟩ | (go_ret;exact⟨by rw[hR];rfl,HB2.out⟩)
   ·obtain rfl:k=L.length:=by omega
    have hR:=HY.out fun j h h'=>HNo.out j h h' h
    go_wp2_with fail
    first | exact⟨by rw[hR];rfl,HB.out⟩ | (go_ret;exact⟨by rw[hR];rfl,HB.out⟩)
 ·have hR:decide (L=M)=false:=decide_eq_false fun e=>hlm (by rw[e])
  have hne:((L.length:Int) == (M.length:Int))=false:=by simp;omega
  rw[hR]
  clear hL hM hR
  go_enter Tryz.func29, Tryz.ntmps29
  go_wp2_with fail
  first | exact⟨rfl,Below.refl _ _⟩ | (go_ret;exact⟨rfl,Below.refl _ _⟩)
end Go.Proofs.YtcplmcjbkpmhdaaGreatDoor
namespace Go.Proofs.YtcplmcjbkpmhdaaGreatDoor
open Go.RowKit
attribute [local go_sem ↓] Go.wp_at_zero Go.wp_at_succ
set_option maxHeartbeats 4000000 in
set_option maxRecDepth 100000 in
theorem small25_any (p:ProbD) (x:ProbA) (w:World) (hE:ProbIn w p x) (hs:ProbSmall p) :
  Calls Tryz.prog 20 #[probVal p x] w fun e w'=>(∃ b,e=.returned (.bool b)∧(b=true→p.hard.length≤7∧(ProbOk p→bitsTo p.vars p.vars.length≤10)))∧Below w.heap.size w w':=by
 have HBi:=Lib.hid (fun W (hW:Below w.heap.size w W)=>r14Bits_any p x W (hE.below hW) hs)
 have HPo:Hid (∀ (n:Int) (b:Bool) W,(ProbOk p→n=bitsTo p.vars p.vars.length)→(b=true→n≤10∧(p.hard.length:Int)≤7)→Below w.heap.size w W→(fun e w'=>(∃ b,e=Ending.returned (.bool b)∧(b=true→p.hard.length≤7∧(ProbOk p→bitsTo p.vars p.vars.length≤10)))∧Below w.heap.size w w') (.returned (.bool b)) W):=fun n b W h1 h2 h3=>⟨⟨b,rfl,fun hb=>⟨by have:=(h2 hb).2;omega,fun hp=>by have:=(h2 hb).1;have:=h1 hp;omega⟩⟩,h3⟩
 generalize (fun e w'=>(∃ b,e=Ending.returned (.bool b)∧(b=true→p.hard.length≤7∧(ProbOk p→bitsTo p.vars p.vars.length≤10)))∧Below w.heap.size w w')=Po at HPo⊢
 clear hE hs
 simp only[probVal_eq] at HBi⊢
 obtain⟨vs,hard,soft,ds,gs⟩:=p
 obtain⟨av,cv,ah,ch,ao,co,ad,cd,ag,cg⟩:=x
 simp only at HBi HPo⊢
 go_enter Tryz.func20, Tryz.ntmps20
 go_wp2_with fail
 refine(HBi.out (w.alloc (.cells #[.slice av vs.length cv,.slice ah hard.length ch,.slice ao soft.length co,.slice ad ds.length cd,.slice ag gs.length cg] 27)) ((Below.refl _ _).alloc (Nat.le_refl _) _)).mono ?_
 rintro e w1 ⟨n,rfl,hn,-,hb1⟩
 simp only[World.size_alloc] at hb1
 have HB1:=Lib.hid hb1
 have HPn:=Lib.hid (fun b W=>HPo.out n b W hn)
 clear hb1 HBi HPo hn
 ((try clear b0 b1 b2 b3 b4);have b0:=box_cell HB1.out 0;have b1:=box_cell HB1.out 1;have b2:=box_cell HB1.out 2;have b3:=box_cell HB1.out 3;have b4:=box_cell HB1.out 4;(try simp at b0 b1 b2 b3 b4))
 by_cases h1:n≤10
 ·by_cases h2:(hard.length:Int)≤7
  ·go_wp2_with fail
   first | exact HPn.out _ _ (fun _=>⟨h1,h2⟩) (boxW _ HB1.out) | (go_ret;exact HPn.out _ _ (fun _=>⟨h1,h2⟩) (boxW _ HB1.out))
  ·have hd:decide ((hard.length:Int)≤7)=false:=decide_eq_false h2
   have hd':decide (hard.length≤7)=false:=decide_eq_false (by omega)
   go_wp2_with fail
   first | exact HPn.out _ _ (fun h=>absurd h (by simp[hd,hd'])) (boxW _ HB1.out) | exact HPn.out _ _ (fun h=>absurd h (by simp;omega)) (boxW _ HB1.out) | exact HPn.out false _ (fun h=>by simp at h) (boxW _ HB1.out) | (go_ret;exact HPn.out false _ (fun h=>by simp at h) (boxW _ HB1.out))
 ·go_wp2_with fail
  first | exact HPn.out false _ (fun h=>by simp at h) (boxW _ HB1.out) | (go_ret;exact HPn.out false _ (fun h=>by simp at h) (boxW _ HB1.out))
end Go.Proofs.YtcplmcjbkpmhdaaGreatDoor
namespace Go.Proofs.YtcplmcjbkpmhdaaGreatDoor
open Go.RowKit
attribute [local go_sem ↓] Go.wp_at_zero Go.wp_at_succ
set_option maxHeartbeats 4000000 in
set_option maxRecDepth 100000 in
theorem all25_any (p:ProbD) (x:ProbA) (w:World) (hn:p.hard.length≤1000) :
  Calls Tryz.prog 32 #[probVal p x] w fun e w'=>(∃ v,e=.returned v∧w'.ownsRow w.heap.size 3 1 v (allL p).length (valsN (allL p)))∧Below w.heap.size w w':=by
 have HVs:Hid (∀ k,valsN (List.range (k+1))=valsN (List.range k)++[.int .i64 (k:Int)]):=fun k=>by simp[valsN,intsN,List.range_succ]
 have HV0:Hid (valsN (List.range 0)=[]):=rfl
 have HEnd:Hid ((allL p).length=p.hard.length∧valsN (allL p)=valsN (List.range p.hard.length)):=⟨List.length_range,rfl⟩
 rw[HEnd.out.1,HEnd.out.2]
 clear HEnd
 generalize (fun k=>valsN (List.range k))=V0
 simp only[probVal_eq]
 obtain⟨vs,hard,soft,ds,gs⟩:=p
 obtain⟨av,cv,ah,ch,ao,co,ad,cd,ag,cg⟩:=x
 simp only at hn⊢
 generalize hard.length=n at *
 obtain⟨V,hV⟩:∃ V:Nat→List Value,∀ k,valsN (List.range k)=V k:=⟨_,fun _=>rfl⟩
 simp only[hV] at HVs HV0⊢
 clear hV
 go_enter Tryz.func32, Tryz.ntmps32
 go_wp2_with fail
 go_loopw [8,3,4] (fun i v _ wr=>∃ k:Nat,i=.int .i64 k∧k≤n∧Hid (wr.ownsRow (w.heap.size+1) 3 1 v k (V k))∧Hid (Below w.heap.size w wr)∧w.heap.size+1≤wr.heap.size) (fun i _ _ _=>n - (intOf i).toNat)
 case atStart=>exact⟨0,rfl,Nat.zero_le _,by rw[HV0.out];exact World.ownsRow_nil _ _ _ _,bel,by simp⟩
 case round =>
  obtain⟨k,rfl,hk,HO,HB,hz⟩:=hrel
  by_cases hlt:k < n
  ·have HN:=Lib.hid (HVs.out k)
   go_wp2_with (at_builtin;go_must (refine own_appx elemI _ rfl (.tmp 11) (.tmp 13) rfl (w.heap.size+1) _ k (V k) rfl HO.out [.int .i64 (k:Int)] 1 _ _ rfl (by simp[Value.oneCell']) rfl rfl (by omega) (by omega) (by omega) ?_))
   intro g gcap w4 hown4 hg4 hat
   have HB4:Hid (Below w.heap.size w w4):=Below.grown (HB.out.alloc (by omega) _) hg4 (by simp;omega) (fun q hq=>by have:=(HO.out.lt q hq).1;omega)
   have hz4:w.heap.size+1≤w4.heap.size:=by have:=hg4.size;simp at this;omega
   rw[← HN.out] at hown4
   have HO4:=Lib.hid hown4
   clear hown4 hg4 hat
   go_wp2_with fail
   go_roundw
   case rel=>exact⟨k+1,by go_num,by omega,HO4,HB4,hz4⟩
   case measure=>(simp[intOf];try omega)
  ·obtain rfl:k=n:=by omega
   go_wp2_with fail
   go_ret
   exact⟨⟨_,rfl,own_base HO.out (Nat.le_succ _)⟩,HB.out⟩
end Go.Proofs.YtcplmcjbkpmhdaaGreatDoor
namespace Go.Proofs.YtcplmcjbkpmhdaaGreatDoor
open Go.RowKit
attribute [local go_sem ↓] Go.wp_at_zero Go.wp_at_succ
set_option maxHeartbeats 4000000 in
set_option maxRecDepth 100000 in
theorem contains25_any (l part:List Int) (a b:Option Addr) (c d:Nat) (w:World) (hL:IntsIn w l a c) (hP:IntsIn w part b d) :
  Calls Tryz.prog 34 #[.slice a l.length c,.slice b part.length d] w fun e w'=>e=.returned (.bool (decide (∀ x,x∈part→x∈l)))∧Below w.heap.size w w':=by
 have hl1:=hL.2.1
 have hl2:=hP.2.1
 have HL:=Lib.hid hL
 have HP:=Lib.hid hP
 have HY:Hid ((∀ j (h:j < part.length),(part[j]'h)∈l)→decide (∀ x,x∈part→x∈l)=true):=fun h=>decide_eq_true fun x hx=>by
  obtain⟨j,hj,rfl⟩:=List.getElem_of_mem hx
  exact h j hj
 have HN:Hid (∀ j (h:j < part.length),(part[j]'h)∉l→decide (∀ x,x∈part→x∈l)=false):=fun j h hn=>decide_eq_false fun hx=>hn (hx _ (List.getElem_mem h))
 generalize decide (∀ x,x∈part→x∈l)=R at HY HN⊢
 clear hL hP
 go_enter Tryz.func34, Tryz.ntmps34
 go_wp2_with fail
 go_loopw [12,6,7,9,18] (fun i _ _ _ _ wr=>∃ k:Nat,i=.int .i64 k∧k≤part.length∧Hid (∀ j (h:j < part.length),j < k→(part[j]'h)∈l)∧Hid (Below w.heap.size w wr)) (fun i _ _ _ _ _=>part.length - (intOf i).toNat)
 case atStart=>exact⟨0,rfl,Nat.zero_le _,fun j h h2=>absurd h2 (Nat.not_lt_zero _),Below.refl _ _⟩
 case round =>
  obtain⟨k,rfl,hk,HA,HB⟩:=hrel
  have hkw:IntKind.i64.wrap ((k:Int)+1)=(k:Int)+1:=by rw[IntKind.wrap_i64];omega
  by_cases hlt:k < part.length
  ·obtain⟨pb,po,hpa⟩:=HP.out.addr.resolve_left (by omega)
   subst hpa
   have r0:=(keeps_of_below HB.out) _ _ (intsIn_get HP.out rfl hlt)
   have HNk:=Lib.hid (HN.out k hlt)
   have HAk:Hid ((part[k]'hlt)∈l→∀ j (h:j < part.length),j < k+1→(part[j]'h)∈l):=fun h2 j h hj=>by
    by_cases e:j=k
    ·subst e;exact h2
    ·exact HA.out j h (by omega)
   generalize (part[k]'hlt)=x at r0 HNk HAk
   have hk0:(0:Int)≤(k:Int):=by omega
   go_wp2_with fail
   generalize wr=wt at *
   go_loopw [18,7,9] (fun i f _ wq=>∃ q:Nat,i=.int .i64 q∧q≤l.length∧f=.bool (decide (x∈l.take q))∧Hid (Below w.heap.size w wq)) (fun i _ _ _=>l.length - (intOf i).toNat)
   case atStart=>exact⟨0,rfl,Nat.zero_le _,by simp,HB⟩
   case round =>
    obtain⟨q,rfl,hq,rfl,HBq⟩:=hrel
    have hqw:IntKind.i64.wrap ((q:Int)+1)=(q:Int)+1:=by rw[IntKind.wrap_i64];omega
    by_cases hql:q < l.length
    ·obtain⟨lb,lo,hla⟩:=HL.out.addr.resolve_left (by omega)
     subst hla
     have s0:=(keeps_of_below HBq.out) _ _ (intsIn_get HL.out rfl hql)
     have HNx:Hid (decide (x∈l.take (q+1))=(decide (x∈l.take q) || decide (l[q]'hql=x))):=by
      show _=_
      rw[Bool.eq_iff_iff,Bool.or_eq_true,decide_eq_true_eq,decide_eq_true_eq,decide_eq_true_eq,List.take_succ_eq_append_getElem hql,List.mem_append,List.mem_singleton]
      exact⟨fun h=>h.imp id Eq.symm,fun h=>h.imp id Eq.symm⟩
     generalize (l[q]'hql)=y at s0 HNx
     have hq0:(0:Int)≤(q:Int):=by omega
     cases hf:decide (x∈l.take q)
     ·rw[hf] at HNx
      by_cases hxy:y=x
      ·have HN2:Hid (decide (x∈l.take (q+1))=true):=HNx.out.trans (by simp[hxy])
       have hb:(y == x)=true:=by simp[hxy]
       clear hf HNx hxy
       go_wp2_with fail
       go_roundw
       case rel=>exact⟨q+1,by go_num,by omega,by rw[HN2.out],HBq⟩
       case measure=>(simp[intOf];try omega)
      ·have HN2:Hid (decide (x∈l.take (q+1))=false):=HNx.out.trans (by simp[hxy])
       have hb:(y == x)=false:=by simp[hxy]
       clear hf HNx hxy
       go_wp2_with fail
       go_roundw
       case rel=>exact⟨q+1,by go_num,by omega,by rw[HN2.out],HBq⟩
       case measure=>(simp[intOf];try omega)
     ·rw[hf] at HNx
      have HN2:Hid (decide (x∈l.take (q+1))=true):=HNx.out.trans (by simp)
      clear hf HNx
      go_wp2_with fail
      go_roundw
      case rel=>exact⟨q+1,by go_num,by omega,by rw[HN2.out],HBq⟩
      case measure=>(simp[intOf];try omega)
    ·obtain rfl:q=l.length:=by omega
     rw[List.take_length]
     by_cases hx:x∈l
     ·have hd:decide (x∈l)=true:=decide_eq_true hx
      have HA2:=Lib.hid (HAk.out hx)
      rw[hd]
      clear hd hx
      go_wp2_with fail
      go_roundw
      case rel=>exact⟨k+1,by go_num,by omega,HA2,HBq⟩
      case measure=>(simp[intOf];try omega)
     ·have hd:decide (x∈l)=false:=decide_eq_false hx
      have hR:=HNk.out hx
      rw[hd]
      clear hd hx
      go_wp2_with fail
      first | exact⟨by rw[hR];rfl,HBq.out⟩ | (go_ret;exact⟨by rw[hR];rfl,HBq.out⟩)
  ·obtain rfl:k=part.length:=by omega
   have hR:=HY.out fun j h=>HA.out j h h
   go_wp2_with fail
   first | exact⟨by rw[hR];rfl,HB.out⟩ | (go_ret;exact⟨by rw[hR];rfl,HB.out⟩)
end Go.Proofs.YtcplmcjbkpmhdaaGreatDoor
namespace Go.Proofs.YtcplmcjbkpmhdaaGreatDoor
open Go.RowKit
attribute [local go_sem ↓] Go.wp_at_zero Go.wp_at_succ
theorem take_erase {l:List Int} {k t:Nat} (h:k < l.length):(l.take (k+1)).eraseIdx t=(l.take k).eraseIdx t++(if k=t then [] else [l[k]'h]):=by
 rw[List.take_succ_eq_append_getElem h]
 by_cases e:k=t
 ·subst e
  rw[if_pos rfl,List.append_nil,List.eraseIdx_append_of_length_le (by rw[List.length_take];omega),List.eraseIdx_of_length_le (l:=l.take k) (by rw[List.length_take];omega)]
  have:k - (l.take k).length=0:=by rw[List.length_take];omega
  rw[this]
  simp
 ·rw[if_neg e]
  by_cases e2:t < k
  ·rw[List.eraseIdx_append_of_lt_length (by rw[List.length_take];omega)]
  ·rw[List.eraseIdx_of_length_le (by rw[List.length_append,List.length_take,List.length_singleton];omega),List.eraseIdx_of_length_le (l:=l.take k) (by rw[List.length_take];omega)]
set_option maxHeartbeats 4000000 in
set_option maxRecDepth 100000 in
theorem without25_any (l:List Int) (a:Option Addr) (c t:Nat) (w:World) (hI:IntsIn w l a c) :
  Calls Tryz.prog 33 #[.slice a l.length c,.int .i64 t] w fun e w'=>(∃ v,e=.returned v∧w'.ownsRow w.heap.size 3 1 v (l.eraseIdx t).length ((l.eraseIdx t).map (Value.int .i64)))∧Below w.heap.size w w':=by
 have hlen:=hI.2.1
 have HI:=Lib.hid hI
 have HSt:Hid (∀ k (h:k < l.length),(l.take (k+1)).eraseIdx t=(l.take k).eraseIdx t++(if k=t then [] else [l[k]'h])):=fun k h=>take_erase h
 have HLn:Hid (∀ k,((l.take k).eraseIdx t).length≤1073741824):=fun k=>by
  have h1:=(List.eraseIdx_sublist (l.take k) t).length_le
  rw[List.length_take] at h1
  omega
 clear hI
 go_enter Tryz.func33, Tryz.ntmps33
 go_wp2_with fail
 go_loopw [10,5,6,7] (fun i v _ _ wr=>∃ (k:Nat) (R:List Int),i=.int .i64 k∧k≤l.length∧R.length≤k∧Hid (R=(l.take k).eraseIdx t)∧Hid (wr.ownsRow w.heap.size 3 1 v R.length (R.map (Value.int .i64)))∧Hid (Below w.heap.size w wr)) (fun i _ _ _ _=>l.length - (intOf i).toNat)
 case atStart=>exact⟨0,[],rfl,Nat.zero_le _,Nat.zero_le _,by show []=_;simp,World.ownsRow_nil _ _ _ _,Below.refl _ _⟩
 case round =>
  obtain⟨k,R,rfl,hk,hRk,HR,HO,HB⟩:=hrel
  have hkw:IntKind.i64.wrap ((k:Int)+1)=(k:Int)+1:=by rw[IntKind.wrap_i64];omega
  have hzr:=HB.out.size
  by_cases hlt:k < l.length
  ·obtain⟨lb,lo,hla⟩:=HI.out.addr.resolve_left (by omega)
   subst hla
   have s0:=(keeps_of_below HB.out) _ _ (intsIn_get HI.out rfl hlt)
   have HN:=Lib.hid (HSt.out k hlt)
   generalize (l[k]'hlt)=y at s0 HN
   have hk0:(0:Int)≤(k:Int):=by omega
   by_cases hkt:k=t
   ·have HN1:Hid (R=(l.take (k+1)).eraseIdx t):=Lib.hid (by rw[HN.out,if_pos hkt,List.append_nil];exact HR.out)
    have hb:((k:Int) != (t:Int))=false:=by simp[hkt]
    clear HN hkt
    go_wp2_with fail
    go_roundw
    case rel=>exact⟨k+1,R,by go_num,by omega,by omega,HN1,HO,HB⟩
    case measure=>(simp[intOf];try omega)
   ·have HN1:Hid (R++[y]=(l.take (k+1)).eraseIdx t):=Lib.hid (by rw[HN.out,if_neg hkt,← HR.out])
    have hb:((k:Int) != (t:Int))=true:=by simp;omega
    clear HN hkt
    go_wp2_with (at_builtin;go_must (refine own_appx elemI _ rfl (.tmp 18) (.tmp 20) rfl w.heap.size _ R.length _ rfl HO.out [.int .i64 y] 1 _ _ rfl (by simp[Value.oneCell']) rfl rfl (by omega) (by omega) (by omega) ?_))
    intro g gcap w4 hown4 hg4 hat
    have HB4:Hid (Below w.heap.size w w4):=Below.grown (HB.out.alloc (by omega) _) hg4 (by simp;omega) (fun q hq=>(HO.out.lt q hq).1)
    have HO4:=Lib.hid hown4
    clear hown4 hg4 hat
    go_wp2_with fail
    go_roundw
    case rel=>exact⟨k+1,R++[y],by go_num,by omega,by simp;omega,HN1,by rw[List.length_append,List.map_append];exact HO4,HB4⟩
    case measure=>(simp[intOf];try omega)
  ·obtain rfl:k=l.length:=by omega
   have hR:=HR.out
   rw[List.take_length] at hR
   subst hR
   go_wp2_with fail
   go_ret
   exact⟨⟨_,rfl,HO.out⟩,HB.out⟩
end Go.Proofs.YtcplmcjbkpmhdaaGreatDoor
