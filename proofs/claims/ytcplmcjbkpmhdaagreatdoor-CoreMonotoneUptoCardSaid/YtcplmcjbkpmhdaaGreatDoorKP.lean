/- search: the finder, advance. -/
import Derived.Test.YtcplmcjbkpmhdaaGreatDoorKO
import Derived.Deep.LoopGhost
import Derived.Deep.RegionHeld3
import Derived.Deep.DrawnRows
set_option linter.unusedSimpArgs false
set_option linter.unusedVariables false
set_option linter.unnecessarySimpa false
namespace Go.Proofs.YtcplmcjbkpmhdaaGreatDoor
open Go.RowKit
structure Fin (w:World) (B bf:Nat) (v:Value) (pv:Array Value) (lv:Value) (A:List Int) (over:Bool) (steps:Int):Prop where
 hB:B≤bf
 blk:w.heap[bf]? = some (.cells (pv++#[lv,v,.bool over,.int .i64 steps]) 66 (0,0))
 own:w.ownsRow B 3 1 v A.length (A.map (Value.int .i64))
structure Two (B bf:Nat) (v:Value) (w w':World):Prop where
 os:w'.os=w.os
 tape:w'.tape=w.tape
 output:w'.output=w.output
 size:w.heap.size≤w'.heap.size
 block:∀ k,k < w.heap.size→k≠bf→some k≠v.ownBlock→w'.heap[k]? = w.heap[k]?
theorem Two.refl (B bf:Nat) (v:Value) (w:World):Two B bf v w w:=⟨rfl,rfl,rfl,Nat.le_refl _,fun _ _ _ _=>rfl⟩
theorem Two.trans {B bf:Nat} {v:Value} {w w1 w2:World} (h:Two B bf v w w1) (h':Two B bf v w1 w2):Two B bf v w w2 :=
 ⟨h'.os.trans h.os,h'.tape.trans h.tape,h'.output.trans h.output,Nat.le_trans h.size h'.size,fun k hk h1 h2=>(h'.block k (Nat.lt_of_lt_of_le hk h.size) h1 h2).trans (h.block k hk h1 h2)⟩
theorem Two.of_below {B bf:Nat} {v:Value} {w w':World} (h:Below w.heap.size w w'):Two B bf v w w':=⟨h.os,h.tape,h.output,h.size,fun k hk _ _=>h.block k hk⟩
theorem Two.set {B bf:Nat} {v:Value} {w w':World} (h:Two B bf v w w') {k:Nat} (hk:k=bf∨some k=v.ownBlock) (o:Nat) (u:Value):Two B bf v w (w'.setCell ⟨k,o,none⟩ u):=by
 refine⟨h.os,h.tape,h.output,by rw[World.size_setCell];exact h.size,fun j hj h1 h2=>?_⟩
 rw[Below.heap_setCell _ _ _ _ (by rintro rfl;rcases hk with hk | hk;exact h1 hk;exact h2 hk)]
 exact h.block j hj h1 h2
theorem Two.below {B bf:Nat} {v:Value} {w w':World} (h:Two B bf v w w') (hB:B≤bf) (hw:B≤w.heap.size) (hv:∀ k,v.ownBlock=some k→B≤k):Below B w w' :=
 ⟨h.os,h.tape,h.output,h.size,fun k hk=>h.block k (by omega) (by omega) (fun e=>by have:=hv k e.symm;omega)⟩
theorem Fin.cell {w:World} {B bf:Nat} {v:Value} {pv:Array Value} {lv:Value} {A:List Int} {over:Bool} {steps:Int} (h:Fin w B bf v pv lv A over steps) (j:Nat):w.cell? ⟨bf,j,none⟩=(pv++#[lv,v,.bool over,.int .i64 steps])[j]?:=by
 simp[World.cell?,h.blk]
theorem Fin.free {w:World} {B bf:Nat} {v:Value} {pv:Array Value} {lv:Value} {A:List Int} {over:Bool} {steps:Int} (h:Fin w B bf v pv lv A over steps) (j:Nat):w.frozen? ⟨bf,j,none⟩=false:=by
 simp[World.frozen?,h.blk]
theorem Fin.ne {w:World} {B bf:Nat} {v:Value} {pv:Array Value} {lv:Value} {A:List Int} {over:Bool} {steps:Int} (h:Fin w B bf v pv lv A over steps):some bf≠v.ownBlock :=
 ownsRow_ne h.own h.blk (by decide)
theorem Fin.setA {w:World} {B bf g cap n:Nat} {pv:Array Value} {lv:Value} {A:List Int} {over:Bool} {steps:Int} (h:Fin w B bf (.slice (some ⟨g,0,none⟩) n cap) pv lv A over steps) (hn:n=A.length) (i:Nat) (u:Int):Fin (w.setCell ⟨g,i,none⟩ (.int .i64 u)) B bf (.slice (some ⟨g,0,none⟩) n cap) pv lv (A.set i u) over steps:=by
 subst hn
 refine⟨h.hB,?_,?_⟩
 ·rw[Below.heap_setCell _ _ _ _ (by have:=h.ne;rintro rfl;exact this rfl)]
  exact h.blk
 ·have:=h.own.stored i (.int .i64 u)
  rw[List.length_set,List.map_set]
  exact this.1
theorem Fin.setF {w:World} {B bf:Nat} {v:Value} {pv:Array Value} {lv:Value} {A:List Int} {over over':Bool} {steps steps':Int} (h:Fin w B bf v pv lv A over steps) (j:Nat) (u:Value) (hj:(pv++#[lv,v,.bool over,.int .i64 steps]).setIfInBounds j u=pv++#[lv,v,.bool over',.int .i64 steps']):Fin (w.setCell ⟨bf,j,none⟩ u) B bf v pv lv A over' steps':=by
 refine⟨h.hB,?_,ownsRow_setCell_other h.own (fun e=>h.ne e.symm) u⟩
 rw[heap_setCell_same _ _ _ _ _ _ h.blk,hj]
theorem Fin.below {w w':World} {B bf:Nat} {v:Value} {pv:Array Value} {lv:Value} {A:List Int} {over:Bool} {steps:Int} (h:Fin w B bf v pv lv A over steps) (hb:Below w.heap.size w w'):Fin w' B bf v pv lv A over steps :=
 ⟨h.hB,by rw[hb.block _ (lt_of_block h.blk)];exact h.blk,ownsRow_below h.own hb⟩
def advTo (l:List VarD) (A:List Int) (c:Nat):List Int:=A.take c++(advN (l.drop c) (A.drop c)).1
theorem advN_len (l:List VarD):∀ a:List Int,a.length=l.length→(advN l a).1.length=l.length:=by
 induction l with
 | nil=>intro a h;rfl
 | cons v l ih =>
  intro a h
  cases a with
  | nil=>simp at h
  | cons x a =>
   have:=ih a (by simpa using h)
   unfold advN
   split
   ·split
    ·simp[this]
    ·split<;>simp[this]
   ·simp[this]
theorem advTo_all {l:List VarD} {A:List Int} (h:A.length=l.length):advTo l A l.length=A:=by
 unfold advTo
 rw[List.take_of_length_le (by omega),List.drop_of_length_le (by omega),List.drop_of_length_le (by omega)]
 simp[advN]
theorem advTo_len {l:List VarD} {A:List Int} (h:A.length=l.length) (c:Nat) (hc:c≤l.length):(advTo l A c).length=A.length:=by
 unfold advTo
 rw[List.length_append,advN_len _ _ (by simp[h])]
 simp;omega
theorem adv_parts {l:List VarD} {A:List Int} (h:A.length=l.length) {d:Nat} (hd:d < l.length):advN (l.drop d) (A.drop d)=(if (advN (l.drop (d+1)) (A.drop (d+1))).2=true then (if (l[d]'hd).mode=0 then (A[d]'(by omega)::(advN (l.drop (d+1)) (A.drop (d+1))).1,true) else if A[d]'(by omega)+1 < 2 ^ (l[d]'hd).width.toNat then ((A[d]'(by omega)+1)::(advN (l.drop (d+1)) (A.drop (d+1))).1,false) else (0::(advN (l.drop (d+1)) (A.drop (d+1))).1,true)) else (A[d]'(by omega)::(advN (l.drop (d+1)) (A.drop (d+1))).1,false)):=by
 rw[List.drop_eq_getElem_cons hd,List.drop_eq_getElem_cons (show d < A.length by omega)]
 rfl
theorem set_split {A:List Int} {R:List Int} {d:Nat} (hd:d < A.length) (u:Int):(A.take (d+1)++R).set d u=A.take d++u::R:=by
 rw[List.take_succ_eq_append_getElem hd,List.append_assoc,List.set_append_right _ _ (by simp;omega)]
 rw[List.length_take,show d - min d A.length=0 from by omega];rfl
theorem keep_split {A:List Int} {R:List Int} {d:Nat} (hd:d < A.length):A.take (d+1)++R=A.take d++A[d]'hd::R:=by
 rw[List.take_succ_eq_append_getElem hd,List.append_assoc];rfl
theorem adv_stop {l:List VarD} {A:List Int} (h:A.length=l.length):∀ d,d≤l.length→(advN (l.drop d) (A.drop d)).2=false→advN l A=(A.take d++(advN (l.drop d) (A.drop d)).1,false):=by
 intro d
 induction d with
 | zero=>intro _ hc;simp only[List.drop_zero] at hc⊢;rw[← hc];simp
 | succ d ih =>
  intro hd hc
  have hp:=adv_parts h (show d < l.length by omega)
  rw[hc,if_neg (by simp)] at hp
  rw[ih (by omega) (by rw[hp])]
  rw[hp,keep_split (show d < A.length by omega)]
set_option maxRecDepth 100000 in
set_option maxHeartbeats 8000000 in
theorem advance_any (B bf:Nat) (v:Value) (p:ProbD) (x:ProbA) (lv:Value) (A:List Int) (over:Bool) (steps:Int) (w0 w:World) (hBw:B=w0.heap.size) (hF:Fin w B bf v (probVals p x) lv A over steps) (hE:ProbIn w0 p x) (hV:VarsOk p.vars) (hA:Asg p.vars A) (hold:Below B w0 w) :
  Calls Tryz.prog 88 #[.pointer (some ⟨bf,0,none⟩)] w fun e w'=>e=.returned (.tuple #[])∧Fin w' B bf v (probVals p x) lv (advN p.vars A).1 (over || (advN p.vars A).2) steps∧Two B bf v w w':=by
 subst hBw
 have hlA:=hA.len
 have hlen:=hE.vars.2.1
 have hlt0:=lt_of_block hF.blk
 have HA:=Lib.hid hE.vars.addr
 have HE:=Lib.hid hE.vars
 have HV:=Lib.hid hV
 have HAs:=Lib.hid hA
 have HOld:=Lib.hid hold
 have HF:=Lib.hid hF
 have hLA:=Lib.hid hlA
 clear hE hV hA hold
 obtain⟨vs,hard,soft,ds,gs⟩:=p
 obtain⟨av,cv,ah,ch,ao,co,ad,cd,ag,cg⟩:=x
 simp only at HA HE HV HAs hlen hLA⊢
 have f0:=hF.cell 0
 have f6:=hF.cell 6
 simp[probVals] at f0 f6
 obtain⟨va,vc,hv,_⟩:=slice_of_own hF.own (by rw[hlA];exact hlen)
 subst hv
 have hA30:A.length≤1073741824:=by rw[hlA];exact hlen
 clear hF hlA
 go_enter Tryz.func88, Tryz.ntmps88
 go_wp2_with fail
 go_loopw [2] (fun i wr=>∃ c:Nat,i=.int .i64 ((c:Int) - 1)∧c≤A.length∧Hid ((advN (vs.drop c) (A.drop c)).2=true)∧Fin wr w0.heap.size bf (.slice va A.length vc) (probVals ⟨vs,hard,soft,ds,gs⟩ ⟨av,cv,ah,ch,ao,co,ad,cd,ag,cg⟩) lv (advTo vs A c) over steps∧Two w0.heap.size bf (.slice va A.length vc) w wr) (fun i _=>(intOf i+1).toNat)
 case atStart=>exact⟨A.length,by go_num,Nat.le_refl _,by show _=_;rw[List.drop_of_length_le (by have:=hLA.out;omega)];rfl,by have:=advTo_all hLA.out;rw[← hLA.out] at this;rw[this];exact HF.out,Two.refl _ _ _ _⟩
 case round =>
  obtain⟨c,hi,hc,HC,hFr,hT⟩:=hrel
  have f0:=hFr.cell 0
  have f6:=hFr.cell 6
  have f3:=hFr.cell 7
  simp[probVals] at f0 f6 f3
  have g7:=hFr.free 7
  have HFr:=Lib.hid hFr
  have HT:=Lib.hid hT
  cases c with
  | succ d =>
   obtain rfl:=hi.trans (show Value.int .i64 (((d+1:Nat):Int) - 1)=.int .i64 (d:Int) by congr 1;omega)
   clear hi
   have hdA:d < A.length:=by omega
   have hdv:d < vs.length:=by have:=hLA.out;omega
   obtain⟨b,off,ha⟩:=HA.out.resolve_left (by omega)
   subst ha
   have hBel:Below w0.heap.size w0 wr:=HOld.out.trans (hT.below hFr.hB (by have:=hFr.hB;omega) (fun k hk=>(HF.out.own.lt k hk).1))
   obtain⟨_,c1,c2,_,_⟩:=HE.out.get rfl hdv
   have hbB:=World.block_lt_of_cell? _ _ c1
   simp only at hbB
   have c1:=keeps_of_below hBel _ _ c1
   have c2:=keeps_of_below hBel _ _ c2
   have hlT:=advTo_len hLA.out (d+1) (by omega)
   have HlT:Hid (A.length=(advTo vs A (d+1)).length):=hlT.symm
   have hown:=hFr.own
   obtain⟨g,cap,hv,hgB,hgl⟩:=hown.form (by rw[hlT];omega)
   simp only[Value.slice.injEq] at hv
   obtain⟨rfl,hln,rfl⟩:=hv
   have hspl:advTo vs A (d+1)=A.take d++A[d]'hdA::(advN (vs.drop (d+1)) (A.drop (d+1))).1:=keep_split hdA
   have e0:wr.cell? ⟨g,d,none⟩=some (.int .i64 (A[d]'hdA)):=by
    rw[← hln] at hown
    rw[hown.cellAt d (by omega),hspl,List.getElem?_map,List.getElem?_append_right (by simp;omega)]
    simp[show d - min d A.length=0 from by omega]
   have q0:wr.frozen? ⟨g,d,none⟩=false:=by
    rw[← hln] at hown
    exact hown.frozenAt d
   have hgbf:g≠bf:=fun e=>by have:=hFr.ne;rw[← e] at this;exact this rfl
   have hgb:g≠b:=by omega
   have HP:=Lib.hid (adv_parts hLA.out hdv)
   rw[HC.out,if_pos rfl] at HP
   have hw:=width_of_ok (HV.out.ok d hdv)
   obtain⟨hm1,hx0,hx1⟩:=HAs.out.at' d hdv
   obtain⟨pw,hpw,hwp,p1,p2⟩:=pow_pack (vs[d]'hdv).width hw.2
   rw[hpw] at hx1 HP
   have HSt:=Lib.hid (fun (u:Int)=>@set_split A (advN (vs.drop (d+1)) (A.drop (d+1))).1 d hdA u)
   have HStop:=Lib.hid (adv_stop hLA.out d (by omega))
   have HTo:Hid (advTo vs A d=A.take d++(advN (vs.drop d) (A.drop d)).1):=rfl
   have HTo1:Hid (advTo vs A (d+1)=A.take (d+1)++(advN (vs.drop (d+1)) (A.drop (d+1))).1):=rfl
   have Hspl:=Lib.hid hspl
   have hw0:0≤(vs[d]'hdv).width:=by omega
   have hw8:=hw.2
   generalize (vs[d]'hdv).width=width at *
   generalize (vs[d]'hdv).mode=mode at *
   generalize A[d]'hdA=z at *
   clear hlT hFr hT hBel hown hln hspl hpw hm1 hw
   by_cases hm:mode=0
   ·have HC':Hid ((advN (vs.drop d) (A.drop d)).2=true∧advTo vs A d=advTo vs A (d+1)):=by
     rw[if_pos hm] at HP
     exact⟨by rw[HP.out],by rw[HTo.out,HP.out,Hspl.out]⟩
    subst hm
    clear HC
    go_wp2_with fail
    go_roundw
    case rel=>exact⟨d,by go_num,by omega,HC'.out.1,by rw[HC'.out.2];exact HFr.out,HT.out⟩
    case measure=>simp[intOf]<;>omega
   ·rw[if_neg hm] at HP
    have hm':=op_ne hm
    clear hm
    by_cases hlt:z+1 < pw
    ·have hd:decide (z+1 < pw)=true:=decide_eq_true hlt
     rw[if_pos hlt] at HP
     have HY:Hid ((advN vs A).2=false∧(advTo vs A (d+1)).set d (z+1)=(advN vs A).1):=by
      have h1:=HStop.out (by rw[HP.out])
      refine⟨by rw[h1],?_⟩
      rw[h1,HP.out,HTo1.out,HSt.out]
     clear hlt
     go_wp2_with fail
     go_quiet (fail)
     go_wp2_with fail
     refine bodyPost_ret (results_none rfl _ _ _) rfl ?_
     refine⟨rfl,?_,?_⟩
     ·rw[HY.out.1,Bool.or_false,← HY.out.2]
      exact(HFr.out.setA HlT.out d (z+1)).below (below_drewN (Below.refl _ _) _)
     ·exact(HT.out.set (Or.inr rfl) d _).trans (Two.of_below (below_drewN (Below.refl _ _) _))
    ·have hd:decide (z+1 < pw)=false:=decide_eq_false hlt
     rw[if_neg hlt] at HP
     have HC':Hid ((advN (vs.drop d) (A.drop d)).2=true∧advTo vs A d=((advTo vs A (d+1)).set d (z+1)).set d 0):=by
      refine⟨by rw[HP.out],?_⟩
      rw[List.set_set,HTo.out,HP.out,HTo1.out,HSt.out]
     clear hlt HC
     go_wp2_with fail
     go_quiet (fail)
     go_wp2_with fail
     go_roundw
     case rel=>exact⟨d,by go_num,by omega,HC'.out.1,by rw[HC'.out.2];exact((HFr.out.setA HlT.out d (z+1)).below (below_drewN (Below.refl _ _) _)).setA (by rw[List.length_set];exact HlT.out) d 0,((HT.out.set (Or.inr rfl) d _).trans (Two.of_below (below_drewN (Below.refl _ _) _))).set (Or.inr rfl) d _⟩
     case measure=>simp[intOf]<;>omega
  | zero =>
   subst hi
   have HAdv:Hid ((advN vs A).2=true∧advTo vs A 0=(advN vs A).1):=⟨by have:=HC.out;simpa using this,by unfold advTo;simp⟩
   clear hFr hT
   go_wp2_with fail
   go_end0
   refine⟨rfl,?_,HT.out.set (Or.inl rfl) _ _⟩
   rw[HAdv.out.1,Bool.or_true,← HAdv.out.2]
   exact HFr.out.setF 7 _ (by simp[probVals])
end Go.Proofs.YtcplmcjbkpmhdaaGreatDoor
namespace Go.Proofs.YtcplmcjbkpmhdaaGreatDoor
open Go.RowKit
attribute [local go_sem ↓] Go.wp_at_zero Go.wp_at_succ
theorem Two.setNew {B bf:Nat} {v:Value} {w w':World} (h:Two B bf v w w') {k:Nat} (hk:w.heap.size≤k) (o:Nat) (u:Value):Two B bf v w (w'.setCell ⟨k,o,none⟩ u):=by
 refine⟨h.os,h.tape,h.output,by rw[World.size_setCell];exact h.size,fun j hj h1 h2=>?_⟩
 rw[Below.heap_setCell _ _ _ _ (by rintro rfl;omega)]
 exact h.block j hj h1 h2
theorem Two.below' {B bf:Nat} {v:Value} {w w1 w2:World} (h:Two B bf v w w1) (hb:Below w1.heap.size w1 w2):Two B bf v w w2:=h.trans (Two.of_below hb)
theorem Two.own {B bf B':Nat} {v:Value} {w w':World} {e:TypeId} {size:Nat} {r:Value} {n:Nat} {xs:List Value} (h:Two B bf v w w') (ho:w.ownsRow B' e size r n xs) (hb:r.ownBlock≠some bf) (hv:∀ g,r.ownBlock=some g→some g≠v.ownBlock):w'.ownsRow B' e size r n xs:=by
 obtain⟨h1,h2⟩:=ho
 refine⟨h1,?_⟩
 rcases h2 with h2 | ⟨g,cap,cur,hr,hg,hh,rest⟩
 ·exact Or.inl h2
 ·have hr':r.ownBlock=some g:=by rw[hr];rfl
  exact Or.inr ⟨g,cap,cur,hr,hg,by rw[h.block g (lt_of_block hh) (fun e=>hb (by rw[hr',e])) (hv g hr')];exact hh,rest⟩
theorem sigCells_set (E:List (ByteArray × Int)):∀ i (h:i < E.length) (u:Int),(sigCells E).set (i * 2+1) (.int .i64 u)=sigCells (E.set i ((E[i]'h).1,u)):=by
 induction E with
 | nil=>intro i h;simp at h
 | cons s E ih =>
  intro i h u
  cases i with
  | zero=>rfl
  | succ i =>
   have:=ih i (by simpa using h) u
   show (Value.string s.1::Value.int .i64 s.2::sigCells E).set ((i+1) * 2+1) _=Value.string s.1::Value.int .i64 s.2::sigCells (E.set i _)
   rw[show (i+1) * 2+1=i * 2+1+1+1 from by omega,List.set_cons_succ,List.set_cons_succ,this]
   rfl
structure EnvAt (vs:List VarD) (A:List Int) (E:List (ByteArray × Int)) (i:Nat):Prop where
 len:E.length=vs.length
 names:∀ j (h:j < vs.length),(E[j]'(by omega)).1=(vs[j]'h).name
 vals:∀ j (h:j < vs.length),j < i→(E[j]'(by omega)).2=A.getD j 0
theorem EnvAt.step {vs:List VarD} {A:List Int} {E:List (ByteArray × Int)} {i:Nat} (h:EnvAt vs A E i) (hi:i < vs.length):EnvAt vs A (E.set i ((E[i]'(by have:=h.len;omega)).1,A.getD i 0)) (i+1):=by
 have hl:=h.len
 refine⟨by rw[List.length_set];exact hl,fun j hj=>?_,fun j hj hji=>?_⟩
 ·rw[List.getElem_set]
  split
  ·rename_i e;subst e;exact h.names _ hj
  ·exact h.names j hj
 ·rw[List.getElem_set]
  split
  ·rename_i e;subst e;rfl
  ·exact h.vals j hj (by omega)
theorem EnvAt.all {vs:List VarD} {A:List Int} {E:List (ByteArray × Int)} (h:EnvAt vs A E vs.length) (hA:A.length=vs.length):E=envS vs A:=by
 have hl:=h.len
 apply List.ext_getElem
 ·rw[hl,envS_len hA]
 ·intro j h1 h2
  have e1:=h.names j (by omega)
  have e2:=h.vals j (by omega) (by omega)
  unfold envS
  simp only[if_pos hA,List.getElem_map,List.getElem_zip]
  rw[List.getD_eq_getElem?_getD,List.getElem?_eq_getElem (show j < A.length by omega)] at e2
  simp only[Option.getD_some] at e2
  rw[← e1,← e2]
theorem EnvAt.start {vs:List VarD} {A A':List Int} (hA:A.length=vs.length):EnvAt vs A' (envS vs A) 0:=by
 refine⟨envS_len hA,fun j hj=>?_,fun j _ hj=>absurd hj (by omega)⟩
 unfold envS
 simp only[if_pos hA,List.getElem_map,List.getElem_zip]
theorem EnvAt.again {vs:List VarD} {A A':List Int} {E:List (ByteArray × Int)} {i:Nat} (h:EnvAt vs A E i):EnvAt vs A' E 0:=⟨h.len,h.names,fun j _ hj=>absurd hj (by omega)⟩
theorem Fin.setOther {w:World} {B bf:Nat} {v:Value} {pv:Array Value} {lv:Value} {A:List Int} {over:Bool} {steps:Int} (h:Fin w B bf v pv lv A over steps) {k:Nat} (hk:k≠bf) (hv:some k≠v.ownBlock) (o:Nat) (u:Value):Fin (w.setCell ⟨k,o,none⟩ u) B bf v pv lv A over steps :=
 ⟨h.hB,by rw[Below.heap_setCell _ _ _ _ (fun e=>hk e.symm)];exact h.blk,ownsRow_setCell_other h.own (fun e=>hv e.symm) u⟩
def HitRet (B:Nat) (vs:List VarD) (r:Option Nat × Nat × Nat) (e:Ending) (w':World):Prop :=
 (∃ j v,r.1=some j∧e=.returned (.tuple #[v,.bool true])∧w'.ownsRow B 3 1 v vs.length ((nthN vs j).map (Value.int .i64)))∨(r.1=none∧e=.returned (.tuple #[.slice none 0 0,.bool false]))
theorem scanN_over' {H:Nat→Bool} {T s k:Nat} (h:T≤k):scanN H T s k=(none,k,s):=by
 cases s with
 | zero=>rfl
 | succ s=>unfold scanN;rw[if_pos h]
theorem clone_any (A:List Int) (a:Option Addr) (c:Nat) (w:World) (hI:IntsIn w A a c) :
  Calls Tryz.prog 87 #[.slice a A.length c] w fun e w'=>(∃ v',e=.returned v'∧w'.ownsRow w.heap.size 3 1 v' A.length (A.map (Value.int .i64)))∧Below w.heap.size w w':=by
 cases a with
 | none =>
  have h0:A.length=0:=by
   rcases hI.2.2 with h | ⟨b,off,ha,_⟩
   ·exact h
   ·simp at ha
  have hA:=List.eq_nil_of_length_eq_zero h0
  subst hA
  exact(Tryz.slices_Clone_int_nil _ _ _).mono fun e w' ⟨h1,h2⟩=>⟨⟨_,h1,by rw[h2];exact World.ownsRow_nil _ _ _ _⟩,by rw[h2];exact Below.refl _ _⟩
 | some ad =>
  by_cases h0:A.length=0
  ·have hA:=List.eq_nil_of_length_eq_zero h0
   subst hA
   exact(Tryz.slices_Clone_int_zero _ _ _).mono fun e w' ⟨v',h1,h2,_,h3⟩=>⟨⟨v',h1,h2⟩,h3⟩
  ·obtain⟨b,off,ha⟩:=hI.addr.resolve_left h0
   have ha':=Option.some.inj ha
   subst ha'
   have hl:=hI.2.1
   refine(Tryz.slices_Clone_int b off A.length c A w (Nat.le_refl _) (by omega) (fun j hj=>by
    rw[hI.get rfl hj])).mono fun e w' ⟨v',h1,h2,_,h3⟩=>⟨⟨v',h1,?_⟩,h3⟩
   rw[List.take_of_length_le (Nat.le_refl _)] at h2
   exact h2
theorem over_step {T q:Nat} (h:q < T):decide ((q+1) % T=0)=decide (T≤q+1):=by
 by_cases e:q+1=T
 ·rw[e,Nat.mod_self];simp
 ·have hm:(q+1) % T=q+1:=Nat.mod_eq_of_lt (by omega)
  rw[hm]
  have h1:¬ T≤q+1:=by omega
  simp[h1]
set_option maxRecDepth 100000 in
set_option maxHeartbeats 16000000 in
theorem hit_any (B bf:Nat) (v:Value) (p:ProbD) (x:ProbA) (l:List Ex) (al:Option Addr) (cl k s:Nat) (w0 w:World) (hBw:B=w0.heap.size) (hG:Glob w0) (hE:ProbIn w0 p x) (hV:VarsOk p.vars) (hL:ExsIn w0 l al cl) (hsl:ExsSmall l) (hold:Below B w0 w)
  (hF:Fin w B bf v (probVals p x) (.slice al l.length cl) (nthN p.vars k) (decide (totN p.vars≤k)) s) (hk:k≤totN p.vars) (hs:s≤262144) :
  Calls Tryz.prog 43 #[.pointer (some ⟨bf,0,none⟩)] w fun e w'=>HitRet w.heap.size p.vars (scanN (hitN p.vars l) (totN p.vars) s k) e w' ∧
   Fin w' B bf v (probVals p x) (.slice al l.length cl) (nthN p.vars (scanN (hitN p.vars l) (totN p.vars) s k).2.1) (decide (totN p.vars≤(scanN (hitN p.vars l) (totN p.vars) s k).2.1)) (scanN (hitN p.vars l) (totN p.vars) s k).2.2∧Two B bf v w w':=by
 subst hBw
 have hlt0:=lt_of_block hF.blk
 have hlen:=hE.vars.2.1
 have hnl:=nthN_len p.vars k
 have HF:=Lib.hid hF
 generalize hA0:nthN p.vars k=A0 at hF hnl
 have hnl':A0.length≤1073741824:=by rw[hnl];exact hlen
 obtain⟨va,vc,hv,hI⟩:=ints_of_own hF.own hnl'
 have HA0:=Lib.hid hA0
 have HEn:=Lib.hid (fun W (hW:Below w.heap.size w W)=>(Env_any p x A0 va vc W (hE.keep (keeps_of_below (hold.trans (hW.mono hold.size)))) (hI.keep (keeps_of_below hW))).mono (R':=fun e w'=>∃ a cap,e=.returned (.slice a (envS p.vars A0).length cap)∧(w'.ownsRow w.heap.size 122 2 (.slice a (envS p.vars A0).length cap) (envS p.vars A0).length (sigCells (envS p.vars A0))∧Below w.heap.size w w')) (fun e w' ⟨ve,h1,h2,h3⟩=>by
  obtain⟨a,cap,hv,_⟩:=sigs_of_own h2 (by rw[envS_len hnl];exact hlen)
  subst hv
  exact⟨a,cap,h1,own_base h2 hW.size,hW.trans (h3.mono hW.size)⟩))
 subst hv
 have f0:=hF.cell 0
 have f1:=hF.cell 1
 have f2:=hF.cell 2
 have f3:=hF.cell 3
 have f4:=hF.cell 4
 have f6:=hF.cell 6
 simp[probVals] at f0 f1 f2 f3 f4 f6
 have hEl:=envS_len hnl
 have HOld:=Lib.hid hold
 have HE:=Lib.hid hE
 have HV:=Lib.hid hV
 have HL:=Lib.hid hL
 have HSl:=Lib.hid hsl
 have HG:=Lib.hid hG
 clear hE hV hL hsl hold hF hG hI hA0
 simp only[probVal_eq,hEl] at HEn
 have HEl:=Lib.hid hEl
 have HNL:=Lib.hid hnl
 obtain⟨vs,hard,soft,ds,gs⟩:=p
 obtain⟨av,cv,ah,ch,ao,co,ad,cd,ag,cg⟩:=x
 simp only at HEn HEl HNL hlen hk f0 f1 f2 f3 f4 HV HE HF HA0⊢
 clear hEl hnl
 have hnn:=HNL.out
 rw[hnn] at f6 HEn HF⊢
 clear hnn hnl'
 generalize hEE:envS vs A0=E0 at HEn HEl
 have HE0:=Lib.hid hEE
 clear hEE
 go_enter Tryz.func43, Tryz.ntmps43
 go_wp2_with fail
 go_step3
 go_wp2_with fail
 go_region_held3 (fun w'=>Below w.heap.size w w'∧w'.cell? ⟨bf,0,none⟩=some (.slice av vs.length cv)∧w'.cell? ⟨bf,1,none⟩=some (.slice ah hard.length ch)∧w'.cell? ⟨bf,2,none⟩=some (.slice ao soft.length co)∧w'.cell? ⟨bf,3,none⟩=some (.slice ad ds.length cd)∧w'.cell? ⟨bf,4,none⟩=some (.slice ag gs.length cg)∧w'.cell? ⟨bf,6,none⟩=some (.slice va vs.length vc))
  (refine⟨?_,?_,?_,?_,?_,?_,?_⟩<;>first | assumption | exact keeps_of_below (by assumption) _ _ (by assumption) | go_keep | exact bel)
  (first | (go_at_call 91;(with_reducible refine(HEn.out _ (by first | assumption | exact And.left (by assumption))).mono ?_);rintro e w1 ⟨ae,ce,rfl,hown,hb1⟩;have HOE:=Lib.hid hown;clear hown))
 rename Hid (World.ownsRow _ _ _ _ _ _ _)=>HOE
 rename World=>w1
 rename Option Addr=>ae
 rename Nat=>ce
 rename Below w.heap.size w w1=>hb1
 have HT1:Hid (Two w0.heap.size bf (.slice va vs.length vc) w w1):=Two.of_below hb1
 have HF1:Hid (Fin w1 w0.heap.size bf (.slice va vs.length vc) (probVals ⟨vs,hard,soft,ds,gs⟩ ⟨av,cv,ah,ch,ao,co,ad,cd,ag,cg⟩) (.slice al l.length cl) (nthN vs k) (decide (totN vs≤k)) s):=HF.out.below hb1
 have HEA:Hid (EnvAt vs [] E0 0):=by show EnvAt _ _ _ _;rw[← HE0.out];exact EnvAt.start HNL.out
 have hbB:w0.heap.size≤bf:=HF.out.hB
 have hvlt:=HF.out.own.lt
 have HVl:=Lib.hid hvlt
 have HTP:=Lib.hid (HV.out.tot)
 clear hb1 hvlt f0 f1 f2 f3 f4 f6
 go_wp2_with fail
 go_step3
 go_wp2_with fail
 go_loopg [5] s (fun gk _ wr=>∃ (q:Nat) (E:List (ByteArray × Int)),q≤totN vs∧gk≤s∧Hid (scanN (hitN vs l) (totN vs) s k=scanN (hitN vs l) (totN vs) gk q)∧Hid (EnvAt vs [] E 0)∧Hid (Fin wr w0.heap.size bf (.slice va vs.length vc) (probVals ⟨vs,hard,soft,ds,gs⟩ ⟨av,cv,ah,ch,ao,co,ad,cd,ag,cg⟩) (.slice al l.length cl) (nthN vs q) (decide (totN vs≤q)) gk)∧Hid (World.ownsRow wr w.heap.size 122 2 (.slice ae vs.length ce) vs.length (sigCells E))∧Hid (Two w0.heap.size bf (.slice va vs.length vc) w wr))
 case atStart=>exact⟨k,E0,hk,Nat.le_refl _,rfl,HEA,HF1,HOE,HT1⟩
 case round =>
  obtain⟨wo,hwo⟩:∃ W,W=wr:=⟨_,rfl⟩
  subst hwo
  obtain⟨q,E,hq,hgs,HS,HEq,HFq,HOq,HTq⟩:=hrel
  have f7:=HFq.out.cell 7
  have f8:=HFq.out.cell 8
  have f6:=HFq.out.cell 6
  have f5:=HFq.out.cell 5
  have g8:=HFq.out.free 8
  simp[probVals] at f5 f6 f7 f8
  by_cases hlt:q < totN vs
  ·have hd:decide (totN vs≤q)=false:=by simp;omega
   rw[hd] at f7 HFq
   cases gk with
   | zero =>
    have HR:Hid (scanN (hitN vs l) (totN vs) s k=(none,q,0)):=by show _=_;rw[HS.out];rfl
    go_wp2_with fail
    (try rw[Exit.noGoto_ret])
    go_ret2
    rw[HR.out]
    refine⟨Or.inr ⟨rfl,rfl⟩,?_,HTq.out⟩
    simp only[hd]
    exact HFq.out
   | succ g' =>
    have hX:((g'+1:Nat):Int) - 1=(g':Int):=by omega
    have HNq:=Lib.hid (nthN_len vs q)
    have HCl:Hid (∀ W,Fin W w0.heap.size bf (.slice va vs.length vc) (probVals ⟨vs,hard,soft,ds,gs⟩ ⟨av,cv,ah,ch,ao,co,ad,cd,ag,cg⟩) (.slice al l.length cl) (nthN vs q) false g'→Calls Tryz.prog 87 #[.slice va vs.length vc] W fun e w'=>(∃ v',e=.returned v'∧w'.ownsRow W.heap.size 3 1 v' vs.length ((nthN vs q).map (Value.int .i64)))∧Below W.heap.size W w'):=fun W hW=>by
     obtain⟨a',c',hv',hI'⟩:=ints_of_own hW.own (by rw[HNq.out];exact hlen)
     simp only[Value.slice.injEq] at hv'
     obtain⟨rfl,hlq,rfl⟩:=hv'
     have hc:=clone_any (nthN vs q) va vc W hI'
     rw[HNq.out] at hc
     exact hc
    clear hd
    go_wp2_with fail
    refine(HCl.out _ (HFq.out.setF 8 _ (by simp[probVals]))).mono ?_
    rintro e w2 ⟨⟨vh,rfl,hownH⟩,hb2⟩
    obtain⟨ah',ch',hvh,_⟩:=slice_of_own hownH hlen
    subst hvh
    have HF2:Hid (Fin w2 w0.heap.size bf (.slice va vs.length vc) (probVals ⟨vs,hard,soft,ds,gs⟩ ⟨av,cv,ah,ch,ao,co,ad,cd,ag,cg⟩) (.slice al l.length cl) (nthN vs q) false g'):=(HFq.out.setF 8 _ (by simp[probVals])).below hb2
    have hEb:∀ g,(Value.slice ae vs.length ce).ownBlock=some g→w.heap.size≤g:=fun g hg=>(HOq.out.lt g hg).1
    have HEb:=Lib.hid hEb
    have hwz:=HTq.out.size
    have HTw:Hid (Two w0.heap.size bf (.slice va vs.length vc) wo w2):=((Two.refl _ _ _ _).set (Or.inl rfl) 8 _).below' hb2
    have HOwn:Hid (∀ (W W':World) (r:Value) (e:TypeId) (sz n:Nat) (xs:List Value),Two w0.heap.size bf (.slice va vs.length vc) W W'→W.ownsRow w.heap.size e sz r n xs→W'.ownsRow w.heap.size e sz r n xs):=fun W W' r e sz n xs hT ho=>hT.own ho (fun h=>by have:=(ho.lt bf h).1;omega) (fun g hg h=>by have:=(ho.lt g hg).1;have:=(HVl.out g h.symm).2;omega)
    have HO2:Hid (World.ownsRow w2 w.heap.size 122 2 (.slice ae vs.length ce) vs.length (sigCells E)):=HOwn.out _ _ _ _ _ _ _ HTw.out HOq.out
    have HH2:Hid (World.ownsRow w2 w.heap.size 3 1 (.slice ah' vs.length ch') vs.length ((nthN vs q).map (Value.int .i64))):=own_base hownH (by rw[World.size_setCell];exact hwz)
    have HT2:Hid (Two w0.heap.size bf (.slice va vs.length vc) w w2):=HTq.out.trans HTw.out
    have HEq2:Hid (EnvAt vs (nthN vs q) E 0):=HEq.out.again
    clear hownH hb2 f5 f6 f7 f8 g8 hEb hX
    go_wp2_with fail
    go_loopg [47] vs.length (fun g2 s47 wy=>∃ (i:Nat) (E2:List (ByteArray × Int)),i+g2=vs.length∧s47=.int .i64 i∧Hid (EnvAt vs (nthN vs q) E2 i)∧Hid (Fin wy w0.heap.size bf (.slice va vs.length vc) (probVals ⟨vs,hard,soft,ds,gs⟩ ⟨av,cv,ah,ch,ao,co,ad,cd,ag,cg⟩) (.slice al l.length cl) (nthN vs q) false g')∧Hid (World.ownsRow wy w.heap.size 122 2 (.slice ae vs.length ce) vs.length (sigCells E2))∧Hid (World.ownsRow wy w.heap.size 3 1 (.slice ah' vs.length ch') vs.length ((nthN vs q).map (Value.int .i64)))∧Hid (Two w0.heap.size bf (.slice va vs.length vc) w wy))
    case atStart=>exact⟨0,E,by omega,rfl,HEq2,HF2,HO2,HH2,HT2⟩
    case round =>
     obtain⟨i,E2,hi,rfl,HEi,HFi,HOi,HHi,HTi⟩:=hrel
     cases gk with
     | succ g2 =>
      have hil:i < vs.length:=by omega
      have hio:=HOi.out
      have hih:=HHi.out
      obtain⟨ge,ce',hve,hgeB,hgel⟩:=hio.form (by omega)
      obtain⟨gh,ch'',hvh,hghB,hghl⟩:=hih.form (by omega)
      simp only[Value.slice.injEq,true_and] at hve hvh
      obtain⟨rfl,rfl⟩:=hve
      obtain⟨rfl,rfl⟩:=hvh
      have hEl:=HEi.out.len
      have e0:wr.cell? ⟨ge,i * 2+1,none⟩=some (.int .i64 (E2[i]'(HEi.out.len.symm ▸ hil)).2):=by
       rw[hio.cellAt (i * 2+1) (by omega)];exact(sigCells_get E2 i (by omega)).2
      have q0:wr.frozen? ⟨ge,i * 2+1,none⟩=false:=hio.frozenAt _
      have hAi:Hid ((nthN vs q).getD i 0=(nthN vs q)[i]'(by rw[HNq.out];exact hil)):=by show _=_;rw[List.getD_eq_getElem?_getD,List.getElem?_eq_getElem (by rw[HNq.out];exact hil)];rfl
      have h0:wr.cell? ⟨gh,i,none⟩=some (.int .i64 ((nthN vs q).getD i 0)):=by
       rw[hih.cellAt i (by omega),List.getElem?_map,List.getElem?_eq_getElem (by rw[HNq.out];exact hil),hAi.out];rfl
      have hne:gh≠ge:=fun e=>by
       obtain⟨cur,hh,_⟩:=ownsRow_type hio (k:=ge) rfl
       have:=ownsRow_ne hih hh (by decide)
       rw[e] at this
       exact this rfl
      have hgebf:ge≠bf:=by omega
      have hgeV:some ge≠(Value.slice va vs.length vc).ownBlock:=fun e=>by have:=(HVl.out ge e.symm).2;omega
      have HEn1:=Lib.hid (HEi.out.step hil)
      have HSe:=Lib.hid (sigCells_set E2 i (by omega) ((nthN vs q).getD i 0))
      have HOs:=Lib.hid (hio.stored (i * 2+1) (.int .i64 ((nthN vs q).getD i 0))).1
      rw[HSe.out] at HOs
      have HHs:=Lib.hid (ownsRow_setCell_other hih (a:=⟨ge,i * 2+1,none⟩) (by intro h;exact hne (Option.some.inj h)) (.int .i64 ((nthN vs q).getD i 0)))
      have HFs:=Lib.hid (HFi.out.setOther hgebf hgeV (i * 2+1) (.int .i64 ((nthN vs q).getD i 0)))
      have HTs:=Lib.hid (HTi.out.setNew hgeB (i * 2+1) (.int .i64 ((nthN vs q).getD i 0)))
      generalize (nthN vs q).getD i 0=z at *
      clear hio hih
      go_wp2_with fail
      go_roundg g2
      case measure=>omega
      case rel=>exact⟨i+1,_,by omega,by go_num,HEn1,HFs,HOs,HHs,HTs⟩
     | zero =>
      obtain rfl:i=vs.length:=by omega
      have hEE:E2=envS vs (nthN vs q):=HEi.out.all HNq.out
      subst hEE
      have HAdv:=Lib.hid (advance_any w0.heap.size bf (.slice va vs.length vc) ⟨vs,hard,soft,ds,gs⟩ ⟨av,cv,ah,ch,ao,co,ad,cd,ag,cg⟩ (.slice al l.length cl) (nthN vs q) false g' w0 wr rfl HFi.out HE.out HV.out (asg_nth HV.out.ok q) (HOld.out.trans (HTi.out.below hbB HOld.out.size (fun k hk=>(HVl.out k hk).1))))
      simp only[advN_nth,Bool.false_or,over_step hlt] at HAdv
      go_wp2_with fail
      refine HAdv.out.mono ?_
      rintro e w3 ⟨rfl,hF3,hT3⟩
      have HF3:=Lib.hid hF3
      have HO3:Hid (World.ownsRow w3 w.heap.size 122 2 (.slice ae vs.length ce) vs.length (sigCells (envS vs (nthN vs q)))):=HOwn.out _ _ _ _ _ _ _ hT3 HOi.out
      have HH3:Hid (World.ownsRow w3 w.heap.size 3 1 (.slice ah' vs.length ch') vs.length ((nthN vs q).map (Value.int .i64))):=HOwn.out _ _ _ _ _ _ _ hT3 HHi.out
      have HT3:Hid (Two w0.heap.size bf (.slice va vs.length vc) w w3):=HTi.out.trans hT3
      have hSg:Hid (SigsIn w3 (envS vs (nthN vs q)) ae ce):=by
       have hl2:=envS_len HNq.out
       have ho:=HO3.out
       rw[← hl2] at ho
       obtain⟨a2,c2,hv2,hs2⟩:=sigs_of_own ho (by rw[hl2];exact hlen)
       rw[hl2] at hv2
       simp only[Value.slice.injEq,true_and] at hv2
       obtain⟨rfl,rfl⟩:=hv2
       exact hs2
      have hB3:Hid (Below w0.heap.size w0 w3):=HOld.out.trans (HT3.out.below hbB HOld.out.size (fun k hk=>(HVl.out k hk).1))
      have f5:=hF3.cell 5
      simp[probVals] at f5
      have HLq:=Lib.hid (HL.out.keep (keeps_of_below hB3.out))
      have HAl:=Lib.hid HLq.out.addr
      have hllen:=HLq.out.2.1
      have HG3:=Lib.hid (HG.out.below hB3.out)
      clear hF3 hT3
      go_wp2_with fail
      go_loopg [65] l.length (fun g3 s65 wy=>∃ i:Nat,i+g3=l.length∧s65=.int .i64 i∧Hid (∀ j (hj:j < l.length),j < i→((evalS (envS vs (nthN vs q)) (l[j]'hj)).1 != 0)=true)∧Hid (Below w3.heap.size w3 wy))
      case atStart=>exact⟨0,by omega,rfl,fun _ _ h=>absurd h (by omega),Below.refl _ _⟩
      case round =>
       obtain⟨i,hi,rfl,HAll,HB⟩:=hrel
       cases gk with
       | succ g3 =>
        have hil:i < l.length:=by omega
        obtain⟨b,off,ha⟩:=HAl.out.resolve_left (by omega)
        subst ha
        obtain⟨a',cap',g0,g1,g2,g3,hX⟩:=HLq.out.get rfl hil
        have hn:=HSl.out _ (List.getElem_mem hil)
        have HNx:Hid (((evalS (envS vs (nthN vs q)) (l[i]'hil)).1 != 0)=true→∀ j (hj:j < l.length),j < i+1→((evalS (envS vs (nthN vs q)) (l[j]'hj)).1 != 0)=true):=fun hv j hj hjk=>by
         by_cases e:j=i
         ·subst e;exact hv
         ·exact HAll.out j hj (by omega)
        have HNo:Hid (((evalS (envS vs (nthN vs q)) (l[i]'hil)).1 != 0)=false→hitN vs l q=false):=fun h=>by
         unfold hitN allS
         rw[List.all_eq_false]
         exact⟨_,List.getElem_mem hil,by rw[h];simp⟩
        generalize (l[i]'hil)=e at g0 g1 g2 g3 hX hn HNx HNo
        obtain⟨op,n,sx,args⟩:=e
        simp only[Ex.op_mk,Ex.n_mk,Ex.name_mk,Ex.args_mk] at g0 g1 g2 g3
        have kk:=keeps_of_below HB.out
        have c0:=kk _ _ g0
        have c1:=kk _ _ g1
        have c2:=kk _ _ g2
        have c3:=kk _ _ g3
        have HC:=Lib.hid (fun W (hW:Below wr.heap.size wr W)=>(eval_any (envS vs (nthN vs q)) ae ce op n sx args a' cap' W (HG3.out.below (HB.out.trans (hW.mono HB.out.size))) (hSg.out.keep (keeps_of_below (HB.out.trans (hW.mono HB.out.size)))) ((hX.keep kk).keep (keeps_of_below hW)) (by omega)).mono fun e w' h=>(⟨h.1,HB.out.trans ((hW.trans (h.2.mono hW.size)).mono HB.out.size)⟩:_∧Below w3.heap.size w3 w'))
        rw[envS_len HNq.out] at HC
        generalize (evalS (envS vs (nthN vs q)) (Ex.mk op n sx args)).1=z at HC HNx HNo
        generalize (evalS (envS vs (nthN vs q)) (Ex.mk op n sx args)).2=z2 at HC
        clear g0 g1 g2 g3 hX hn kk
        by_cases hz:z=0
        ·have HNo':=Lib.hid (HNo.out (by rw[hz];rfl))
         subst hz
         go_wp2_with fail
         refine(HC.out _ bel).mono ?_
         rintro e w4 ⟨rfl,hb4⟩
         have HB4:=Lib.hid hb4
         clear hb4 c0 c1 c2 c3
         go_wp2_with fail
         go_roundg g'
         case measure=>omega
         case rel=>exact⟨q+1,envS vs (nthN vs q),by omega,by omega,(by show _=_;rw[HS.out,scanN_miss hlt HNo'.out]),EnvAt.start HNq.out,HF3.out.below HB4.out,HOwn.out _ _ _ _ _ _ _ (Two.of_below HB4.out) HO3.out,HT3.out.below' HB4.out⟩
        ·have hz':(z == 0)=false:=by simpa using hz
         have HNx':=Lib.hid (HNx.out (by simpa using hz))
         clear hz
         go_wp2_with fail
         refine(HC.out _ bel).mono ?_
         rintro e w4 ⟨rfl,hb4⟩
         have HB4:=Lib.hid hb4
         clear hb4 c0 c1 c2 c3
         go_wp2_with fail
         go_roundg g3
         case measure=>omega
         case rel=>exact⟨i+1,by omega,by go_num,HNx'.out,HB4.out⟩
       | zero =>
        obtain rfl:i=l.length:=by omega
        have HR:Hid (scanN (hitN vs l) (totN vs) s k=(some q,q+1,g')):=by
         show _=_
         rw[HS.out,scanN_hit hlt]
         unfold hitN allS
         rw[List.all_eq_true]
         intro e he
         obtain⟨j,hj,rfl⟩:=List.getElem_of_mem he
         exact HAll.out j hj hj
        go_wp2_with fail
        (try rw[Exit.noGoto_ret])
        go_ret2
        rw[HR.out]
        refine⟨Or.inl ⟨q,_,rfl,rfl,?_⟩,?_,?_⟩
        ·exact HOwn.out _ _ _ _ _ _ _ (Two.of_below HB.out) HH3.out
        ·exact HF3.out.below HB.out
        ·exact HT3.out.below' HB.out
  ·have hd:decide (totN vs≤q)=true:=by simp;omega
   have HR:Hid (scanN (hitN vs l) (totN vs) s k=(none,q,gk)):=by show _=_;rw[HS.out];exact scanN_over' (by omega)
   rw[hd] at f7 HFq
   go_wp2_with fail
   (try rw[Exit.noGoto_ret])
   go_ret2
   rw[HR.out]
   refine⟨Or.inr ⟨rfl,rfl⟩,?_,HTq.out⟩
   simp only[hd]
   exact HFq.out
end Go.Proofs.YtcplmcjbkpmhdaaGreatDoor
