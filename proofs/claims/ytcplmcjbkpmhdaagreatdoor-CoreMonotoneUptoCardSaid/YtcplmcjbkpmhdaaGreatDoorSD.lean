/- soft: assignments, solvable. -/
import Derived.Test.YtcplmcjbkpmhdaaGreatDoorSC
import Derived.Test.YtcplmcjbkpmhdaaGreatDoorKO
import Derived.Test.YtcplmcjbkpmhdaaGreatDoorKQ
import Derived.Deep.RegionLawGrows
set_option linter.unusedSimpArgs false
set_option linter.unusedVariables false
set_option linter.unnecessarySimpa false
namespace Go.Proofs.YtcplmcjbkpmhdaaGreatDoor
open Go.RowKit
attribute [local go_sem ↓] Go.wp_at_zero Go.wp_at_succ
theorem tot_pow (l:List VarD) (hok:∀ v,v∈l→varOkB v=true):totN l=2 ^ ((l.map widthR).sum).toNat∧0≤(l.map widthR).sum:=by
 induction l with
 | nil=>simp[totN]
 | cons v l ih =>
  obtain⟨h1,h2⟩:=ih (fun v hv=>hok v (List.mem_cons_of_mem _ hv))
  have hw:=width_of_ok (hok v List.mem_cons_self)
  simp only[List.map_cons,List.sum_cons]
  have e1:valN v=if v.mode=0 then 1 else 2 ^ v.width.toNat:=rfl
  have e2:widthR v=if v.mode=0 then 0 else v.width:=rfl
  rw[totN_cons,e1,e2,h1]
  by_cases h0:v.mode=0
  ·rw[if_pos h0,if_pos h0]
   simp only[Nat.one_mul,Int.zero_add]
   exact⟨trivial,h2⟩
  ·rw[if_neg h0,if_neg h0]
   refine⟨?_,by omega⟩
   rw[show (v.width+(l.map widthR).sum).toNat=v.width.toNat+((l.map widthR).sum).toNat from by omega,Nat.pow_add]
theorem VarsOk.tot_eq {l:List VarD} (h:VarsOk l):totN l=2 ^ (bitsTo l l.length).toNat∧0≤bitsTo l l.length:=by
 obtain⟨h1,h2⟩:=tot_pow l (fun v hv=>by obtain⟨i,hi,rfl⟩:=List.getElem_of_mem hv;exact h.ok i hi)
 unfold bitsTo
 rw[List.take_of_length_le (Nat.le_refl _)]
 exact⟨h1,h2⟩
noncomputable def solvB (vs:List VarD) (l:List Ex):Bool:=pB (∃ k,k < totN vs∧hitN vs l k=true)
set_option maxRecDepth 100000 in
set_option maxHeartbeats 4000000 in
theorem assignments_any (p:ProbD) (x:ProbA) (w:World) (hE:ProbIn w p x) (hs:ProbSmall p) (hG:Glob w) (hp:ProbOk p) (hT:bitsTo p.vars p.vars.length≤10) :
  Calls Tryz.prog 101 #[probVal p x] w fun e w'=>e=.returned (.int .i64 (totN p.vars))∧Below w.heap.size w w':=by
 obtain⟨ht,h0⟩:=hp.vars.tot_eq
 have HB0:=Lib.hid (fun W (hW:Below w.heap.size w W)=>(Bits_any p x W (hE.keep (keeps_of_below hW)) hs (hG.below hW)).mono (R':=fun e w'=>e=.returned (.int .i64 (bitsTo p.vars p.vars.length))∧Below W.heap.size W w') (fun e w' ⟨n,h1,h2,_,h4⟩=>⟨by rw[h1,h2 hp],h4⟩))
 generalize bitsTo p.vars p.vars.length=n at hT ht h0 HB0
 generalize totN p.vars=T at ht⊢
 have hTI:(2:Int) ^ n.toNat=(T:Int):=by rw[ht];simp
 have h1024:T≤1024:=by
  rw[ht]
  calc 2 ^ n.toNat≤2 ^ 10:=Nat.pow_le_pow_right (by decide) (by omega)
   _=1024:=by decide
 have hTw:IntKind.i64.wrap (2 ^ n.toNat)=(T:Int):=by rw[hTI,IntKind.wrap_i64];omega
 clear hE hs hG hp ht hTI
 simp only[probVal_eq] at HB0⊢
 obtain⟨vs,hard,soft,ds,gs⟩:=p
 obtain⟨av,cv,ah,ch,ao,co,ad,cd,ag,cg⟩:=x
 simp only at HB0⊢
 have HB:=Lib.hid (HB0.out (w.alloc (.cells #[.slice av vs.length cv,.slice ah hard.length ch,.slice ao soft.length co,.slice ad ds.length cd,.slice ag gs.length cg] 27)) ((Below.refl _ _).alloc (Nat.le_refl _) _))
 clear HB0
 go_enter Tryz.func101, Tryz.ntmps101
 go_wp2_with fail
 refine HB.out.mono ?_
 rintro e w1 ⟨rfl,hb1⟩
 have HB1:=Lib.hid (boxW _ (by simpa using hb1))
 clear hb1
 go_wp2_with fail
 go_ret
 exact⟨rfl,HB1.out⟩
theorem first_solv {p:ProbD} {l:List Ex} {e:Ending} {w':World} (hc:ComOk p l (totN p.vars)) (h:FirstRet p l (totN p.vars) True 0 11 e w'):∃ a n cap,e=.returned (.tuple #[.slice a n cap,.int .i64 (if solvB p.vars l=true then 0 else 11)]):=by
 rcases h with ⟨_,h⟩ | ⟨h,_⟩
 ·rw[Int.toNat_natCast] at h
  rcases h with ⟨j,a,cap,h1,h2,h3⟩ | ⟨h1,h2,h3⟩ | ⟨h1,h2,_⟩
  ·obtain⟨q1,q2,q3,q4⟩:=scan_some _ _ _ h1
   have:solvB p.vars l=true:=pB_true ⟨j,q2,q3⟩
   rw[this]
   exact⟨a,_,cap,h2⟩
  ·have:solvB p.vars l=false:=pB_false fun ⟨j,h4,h5⟩=>by
    have:=scan_none _ _ h1 h2 j (Nat.zero_le _) h4
    rw[this] at h5;simp at h5
   rw[this]
   exact⟨none,0,0,h3⟩
  ·have:=scan_room (H:=hitN p.vars l) (T:=totN p.vars) (totN p.vars) 0 (by omega) h1
   omega
 ·exact absurd ⟨hc,trivial⟩ h
set_option maxRecDepth 100000 in
set_option maxHeartbeats 4000000 in
theorem solvable_any (p:ProbD) (x:ProbA) (l:List Ex) (al:Option Addr) (cl:Nat) (w:World) (hE:ProbIn w p x) (hs:ProbSmall p) (hL:ExsIn w l al cl) (hsl:ExsSmall l) (hG:Glob w) (hp:ProbOk p) (hx:∀ i (h:i < l.length),ExprOk p.vars (l[i]'h)) (hT:bitsTo p.vars p.vars.length≤10) :
  Calls Tryz.prog 53 #[probVal p x,.slice al l.length cl] w fun e w'=>e=.returned (.bool (solvB p.vars l))∧Below w.heap.size w w':=by
 have h1024:totN p.vars≤1024:=by
  rw[hp.vars.tot_eq.1]
  calc 2 ^ (bitsTo p.vars p.vars.length).toNat≤2 ^ 10:=Nat.pow_le_pow_right (by decide) (by omega)
   _=1024:=by decide
 have HA0:=Lib.hid (fun W (hW:Below w.heap.size w W)=>assignments_any p x W (hE.keep (keeps_of_below hW)) hs (hG.below hW) hp hT)
 have HF0:=Lib.hid (fun W (hW:Below w.heap.size w W)=>(First_any p x l al cl (totN p.vars) W (hE.keep (keeps_of_below hW)) hs (hL.keep (keeps_of_below hW)) hsl (hG.below hW)).mono (R':=fun e w'=>(∃ a n cap,e=.returned (.tuple #[.slice a n cap,.int .i64 (if solvB p.vars l=true then 0 else 11)]))∧Below W.heap.size W w') (fun e w' ⟨h1,h2⟩=>⟨first_solv ⟨hp,by omega,by omega,hx⟩ h1,h2⟩))
 clear hE hs hL hsl hG hp hx hT
 generalize totN p.vars=T at h1024 HA0 HF0
 have hmin:min (T:Int) 262144=(T:Int):=by omega
 simp only[probVal_eq] at HA0 HF0⊢
 obtain⟨vs,hard,soft,ds,gs⟩:=p
 obtain⟨av,cv,ah,ch,ao,co,ad,cd,ag,cg⟩:=x
 simp only at HA0 HF0⊢
 have hbx:Below (w.heap.size+1) (w.alloc (.cells #[.slice av vs.length cv,.slice ah hard.length ch,.slice ao soft.length co,.slice ad ds.length cd,.slice ag gs.length cg] 27)) (w.alloc (.cells #[.slice av vs.length cv,.slice ah hard.length ch,.slice ao soft.length co,.slice ad ds.length cd,.slice ag gs.length cg] 27)):=Below.refl _ _
 have HA:=Lib.hid (fun W (hW:Below (w.heap.size+1) (w.alloc (.cells #[.slice av vs.length cv,.slice ah hard.length ch,.slice ao soft.length co,.slice ad ds.length cd,.slice ag gs.length cg] 27)) W)=>(HA0.out W (boxW _ hW)).mono (R':=fun e w'=>e=.returned (.int .i64 T)∧Below (w.heap.size+1) (w.alloc (.cells #[.slice av vs.length cv,.slice ah hard.length ch,.slice ao soft.length co,.slice ad ds.length cd,.slice ag gs.length cg] 27)) w') (fun e w' ⟨h1,h2⟩=>⟨h1,hW.trans (h2.mono (by simpa using hW.size))⟩))
 generalize solvB vs l=sb at HF0⊢
 obtain⟨er,her⟩:∃ er:Int,(if sb=true then (0:Int) else 11)=er:=⟨_,rfl⟩
 rw[her] at HF0
 have hne18:decide (er=18)=false:=by cases sb<;>simp at her<;>subst her<;>rfl
 have hne18':(er != 18)=true:=by cases sb<;>simp at her<;>subst her<;>rfl
 have hsb:(er == 0)=sb:=by cases sb<;>simp at her<;>subst her<;>rfl
 clear her
 have HF:=Lib.hid (fun W (hW:Below (w.heap.size+1) (w.alloc (.cells #[.slice av vs.length cv,.slice ah hard.length ch,.slice ao soft.length co,.slice ad ds.length cd,.slice ag gs.length cg] 27)) W)=>(HF0.out W (boxW _ hW)).mono (R':=fun e w'=>(∃ a n cap,e=.returned (.tuple #[.slice a n cap,.int .i64 er]))∧Hid (Below (w.heap.size+1) (w.alloc (.cells #[.slice av vs.length cv,.slice ah hard.length ch,.slice ao soft.length co,.slice ad ds.length cd,.slice ag gs.length cg] 27)) w')) (fun e w' ⟨h1,h2⟩=>⟨h1,hW.trans (h2.mono (by simpa using hW.size))⟩))
 clear HA0 HF0
 go_enter Tryz.func53, Tryz.ntmps53
 go_wp2_with fail
 go_region_with (first | (go_at_call 101;(with_reducible refine(HA.out _ (by first | assumption | exact bel)).mono ?_);rintro e9 w1 ⟨rfl,hb1⟩;have hbh1:=Lib.hid hb1;((try clear b0 b1 b2 b3 b4);have b0:=box_cell hbh1.out 0;have b1:=box_cell hbh1.out 1;have b2:=box_cell hbh1.out 2;have b3:=box_cell hbh1.out 3;have b4:=box_cell hbh1.out 4;(try simp at b0 b1 b2 b3 b4))) | (go_at_call 13;(with_reducible refine(HF.out _ (by first | assumption | exact bel)).mono ?_);rintro e9 w2 ⟨⟨fa,fn,fc,rfl⟩,hb2⟩))
 all_goals
  have HB2:=Lib.hid (boxW _ hb2.out)
  go_wp2_with fail
  go_ret
  exact⟨rfl,HB2.out⟩
end Go.Proofs.YtcplmcjbkpmhdaaGreatDoor
namespace Go.Proofs.YtcplmcjbkpmhdaaGreatDoor
open Go.RowKit
attribute [local go_sem ↓] Go.wp_at_zero Go.wp_at_succ
def intsN (l:List Nat):List Int:=l.map fun (n:Nat)=>(n:Int)
theorem intsN_len (l:List Nat):(intsN l).length=l.length:=by unfold intsN;rw[List.length_map]
theorem intsN_get {l:List Nat} {t:Nat} (h:t < l.length) (h':t < (intsN l).length):(intsN l)[t]'h'=((l[t]'h:Nat):Int):=by simp[intsN]
def ExsOff (S:Nat→Prop) (w:World) (l:List Ex) (a:Option Addr) (cap:Nat):Prop:=∃ xs,xs.length=l.length * 4∧ExRowOn S w l xs∧l.length≤cap∧l.length≤1073741824∧(l.length=0∨∃ b off,a=some ⟨b,off,none⟩∧S b∧∀ j u,xs[j]? = some u→w.cell? ⟨b,off+j,none⟩=some u)
theorem ExsOff.keep {S:Nat→Prop} {w w':World} {l:List Ex} {a:Option Addr} {cap:Nat} (h:ExsOff S w l a cap) (hk:Agree S w w'):ExsOff S w' l a cap:=by
 obtain⟨xs,h1,h2,h3,h4,h5⟩:=h
 refine⟨xs,h1,h2.keep hk,h3,h4,h5.imp id ?_⟩
 rintro ⟨b,off,h6,h7,h8⟩
 exact⟨b,off,h6,h7,fun j u hu=>hk ⟨b,off+j,none⟩ _ h7 (h8 j u hu)⟩
theorem ExsOff.narrow {S S':Nat→Prop} {w:World} {l:List Ex} {a:Option Addr} {cap:Nat} (h:ExsOff S w l a cap) (hS:∀ k,S k→k < w.heap.size→S' k):ExsOff S' w l a cap:=by
 obtain⟨xs,h1,h2,h3,h4,h5⟩:=h
 refine⟨xs,h1,h2.narrow hS,h3,h4,?_⟩
 rcases h5 with h5 | ⟨b,off,h6,h7,h8⟩
 ·exact Or.inl h5
 ·by_cases h0:l.length=0
  ·exact Or.inl h0
  ·have h9:=h8 0 (xs[0]'(by omega)) (List.getElem?_eq_getElem (by omega))
   exact Or.inr ⟨b,off,h6,hS b h7 (World.block_lt_of_cell? _ _ h9),h8⟩
theorem ExsOff.ins {S:Nat→Prop} {w:World} {l:List Ex} {a:Option Addr} {cap:Nat} (h:ExsOff S w l a cap):ExsIn w l a cap:=by
 obtain⟨xs,h1,h2,h3,h4,h5⟩:=h
 have hr:=h2 w (fun _ _ _ hc=>hc)
 refine⟨h3,h4,?_⟩
 rcases h5 with h5 | ⟨b,off,h6,h7,h8⟩
 ·exact Or.inl h5
 ·refine Or.inr ⟨b,off,h6,fun i hi=>?_⟩
  obtain⟨a2,c2,q0,q1,q2,q3,q4⟩:=hr.2 i hi
  refine⟨l[i],List.getElem?_eq_getElem hi,?_⟩
  rw[ExAt_iff]
  exact⟨a2,c2,by have:=h8 _ _ q0;simpa using this,by have:=h8 _ _ q1;simpa [Nat.add_assoc] using this,by have:=h8 _ _ q2;simpa [Nat.add_assoc] using this,by have:=h8 _ _ q3;simpa [Nat.add_assoc] using this,q4⟩
theorem ExsIn.off {w:World} {l:List Ex} {a:Option Addr} {cap:Nat} (h:ExsIn w l a cap):ExsOff (· < w.heap.size) w l a cap:=by
 obtain⟨xs,h1,h2,_,h4⟩:=h.rowOn
 refine⟨xs,h1,h2,h.1,h.2.1,?_⟩
 rcases h4 with h5 | ⟨b,off,h6,h8⟩
 ·exact Or.inl h5
 ·by_cases h0:l.length=0
  ·exact Or.inl h0
  ·have h9:=h8 0 (xs[0]'(by omega)) (List.getElem?_eq_getElem (by omega))
   exact Or.inr ⟨b,off,h6,World.block_lt_of_cell? _ _ h9,h8⟩
theorem ExsOff.own {S:Nat→Prop} {w:World} {base:Nat} {l:List Ex} {xs:List Value} {v:Value} (h:w.ownsRow base 55 4 v l.length xs) (hr:ExRowOn S w l xs) (hS:∀ g,v.ownBlock=some g→S g) (hn:l.length≤1073741824):∃ a c,v=.slice a l.length c∧ExsOff S w l a c:=by
 obtain⟨a,c,hv,hs⟩:=slice_of_own h hn
 subst hv
 refine⟨a,c,rfl,xs,h.1,hr,hs.1,hn,?_⟩
 rcases hs.2.2 with h0 | ⟨b,off,ha,hq⟩
 ·exact Or.inl h0
 ·subst ha
  refine Or.inr ⟨b,off,rfl,hS b rfl,fun j u hu=>?_⟩
  have hj:j < xs.length:=(List.getElem?_eq_some_iff.1 hu).1
  have h1:=hq (j / 4) (by have:=h.1;omega) (j % 4) (by omega)
  rw[show off+j / 4 * 4+j % 4=off+j from by omega,show j / 4 * 4+j % 4=j from by omega] at h1
  exact h1.trans hu
end Go.Proofs.YtcplmcjbkpmhdaaGreatDoor
namespace Go.Proofs.YtcplmcjbkpmhdaaGreatDoor
open Go.RowKit
attribute [local go_sem ↓] Go.wp_at_zero Go.wp_at_succ
def Rok (p:ProbD) (l:List Ex):Prop:=∀ e,e∈l→ExprOk p.vars e∧e.nodes.length≤1000000000
theorem Rok.snoc {p:ProbD} {l:List Ex} {e:Ex} (h:Rok p l) (he:ExprOk p.vars e∧e.nodes.length≤1000000000):Rok p (l++[e]):=fun e' h'=>by
 rcases List.mem_append.1 h' with h1 | h1
 ·exact h e' h1
 ·rw[List.mem_singleton.1 h1];exact he
theorem ExsIn.elt {w:World} {l:List Ex} {b off cap:Nat} (h:ExsIn w l (some ⟨b,off,none⟩) cap) {i:Nat} (hi:i < l.length) :
  ∃ a c,w.cell? ⟨b,off+i * 4,none⟩=some (.int .i64 (l[i]'hi).op)∧w.cell? ⟨b,off+i * 4+1,none⟩=some (.int .i64 (l[i]'hi).n)∧w.cell? ⟨b,off+i * 4+2,none⟩=some (.string (l[i]'hi).name)∧w.cell? ⟨b,off+i * 4+3,none⟩=some (.slice a (l[i]'hi).args.length c) ∧
   ∀ w',(∀ p v,w.cell? p=some v→w'.cell? p=some v)→ExRow w' [l[i]'hi] [.int .i64 (l[i]'hi).op,.int .i64 (l[i]'hi).n,.string (l[i]'hi).name,.slice a (l[i]'hi).args.length c]:=by
 obtain⟨a,c,g0,g1,g2,g3,hX⟩:=h.get rfl hi
 refine⟨a,c,g0,g1,g2,g3,fun w' hk=>⟨rfl,fun j hj=>?_⟩⟩
 have hj':j=0:=by simp at hj;exact hj
 subst hj'
 exact⟨a,c,rfl,rfl,rfl,rfl,hX.keep hk⟩
end Go.Proofs.YtcplmcjbkpmhdaaGreatDoor
