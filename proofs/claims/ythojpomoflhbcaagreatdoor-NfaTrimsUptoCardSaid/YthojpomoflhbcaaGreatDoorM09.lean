/- Opening the arguments of the seat: automata, threads, traces. -/
import Derived.Test.YthojpomoflhbcaaGreatDoorM08
import Derived.Test.YthojpomoflhbcaaGreatDoorM07
import Derived.Test.YthojpomoflhbcaaGreatDoorMSh
import Derived.Deep.RegionHeld3
import Derived.Deep.LoopGhost
set_option linter.unusedSimpArgs false
set_option linter.unusedVariables false
set_option linter.unnecessarySimpa false
namespace Go.Proofs.YthojpomoflhbcaaGreatDoor
open Go.RowKit Go.ChangeShapes Go.WideShapes Go.ChangeAt Go.Deep Go.Joins
theorem cells_bind : Tryz.prog.cellsOf 85=5:=by kernel_rfl
theorem cells_binds : Tryz.prog.cellsOf 67=1:=by kernel_rfl
theorem cells_edge : Tryz.prog.cellsOf 69=4:=by kernel_rfl
theorem cells_edges : Tryz.prog.cellsOf 30=1:=by kernel_rfl
theorem cells_nfa : Tryz.prog.cellsOf 33=3:=by kernel_rfl
theorem cells_thread : Tryz.prog.cellsOf 49=2:=by kernel_rfl
section
variable {H : Type} {enc : TypeId × Value → H} {w : World} {sp : Nat → Bool} {hd : Bool}
theorem at_cells {τ:Type} {E:Enc τ} {x:τ} {cs:List Value} {b o:Nat} (hR:E.R w x cs) (hc:∀ j,j < cs.length→w.cell? ⟨b,o+j,none⟩=cs[j]?):E.At w x b o :=
 ⟨cs,hR,fun j v hj=>(hc j (List.getElem?_eq_some_iff.1 hj).1).trans hj⟩
theorem open_binds {fuel:Nat} {cs:List Value} {x:DataW H × List MemPlace} (h:DataW.trod enc Tryz.prog w 0 sp hd fuel 67 cs=some x) (hb:Rows.uptoBulk x.1≤1048576) :
  ∃ (l:List BindD) (a:Option Addr) (cap:Nat),cs=[.slice a l.length cap]∧bdE.In w l a cap:=by
 haveI:Inhabited BindD:=⟨⟨⟨#[]⟩,.mk 0 0 ⟨#[]⟩ []⟩⟩
 refine open_elems (fun (v:BindD) b o=>bdE.At w v b o) Tryz.underlying67 cells_bind (by omega) h hb ?_
 intro n cs' y hy hlt
 obtain⟨y0,y1,m,rfl,hl,h0,h1⟩:=trod_struct2 Tryz.underlying85 hy
 rw[cells_bind] at hl
 obtain⟨c0,c1,c2,c3,c4,rfl⟩:=list5Q hl
 simp only[cells_str,cells_expr,List.drop,List.take] at h0 h1
 obtain⟨s,e0,rfl,_⟩:=DataW.trod_string Tryz.underlying9 h0
 simp only[Rows.uptoBulk,Rows.uptoBulkAll] at hlt
 obtain⟨ex,ae,ce,e3,hE,_⟩:=open_expr2 1048576 (Nat.le_refl _) _ _ _ h1 (by omega)
 simp only[List.cons.injEq,and_true] at e0 e3
 subst e0
 obtain⟨rfl,rfl,rfl,rfl⟩:=e3
 have:=size_list s
 exact⟨⟨s,ex⟩,fun b o hc=>at_cells (E:=bdE) ⟨ae,ce,rfl,by show s.size≤_;omega,hE⟩ hc⟩
theorem open_edges {fuel:Nat} {cs:List Value} {x:DataW H × List MemPlace} (h:DataW.trod enc Tryz.prog w 0 sp hd fuel 30 cs=some x) (hb:Rows.uptoBulk x.1≤1048576) :
  ∃ (l:List EdgeD) (a:Option Addr) (cap:Nat),cs=[.slice a l.length cap]∧edE.In w l a cap:=by
 haveI:Inhabited EdgeD:=⟨⟨0,0,[],[]⟩⟩
 refine open_elems (fun (v:EdgeD) b o=>edE.At w v b o) Tryz.underlying30 cells_edge (by omega) h hb ?_
 intro n cs' y hy hlt
 obtain⟨y0,y1,y2,y3,m,rfl,hl,h0,h1,h2,h3⟩:=trod_struct4 Tryz.underlying69 hy
 rw[cells_edge] at hl
 obtain⟨c0,c1,c2,c3,rfl⟩:=list4Q hl
 simp only[cells_int,cells_exprs,cells_binds,List.drop,List.take] at h0 h1 h2 h3
 obtain⟨f,e0,rfl,_⟩:=DataW.trod_int Tryz.underlying3 h0
 obtain⟨t,e1,rfl,_⟩:=DataW.trod_int Tryz.underlying3 h1
 simp only[Rows.uptoBulk,Rows.uptoBulkAll] at hlt
 obtain⟨gs,ag,cg,e2,hg,_⟩:=open_exprs3 h2 (by omega)
 obtain⟨ss,aS,cS,e3,hs⟩:=open_binds h3 (by omega)
 simp only[List.cons.injEq,and_true] at e0 e1 e2 e3
 subst e0 e1 e2 e3
 exact⟨⟨f,t,gs,ss⟩,fun b o hc=>at_cells (E:=edE) ⟨ag,cg,aS,cS,rfl,exE_in.2 hg,hs⟩ hc⟩
theorem trod_struct3N {P:Program} {base:Nat} {t:TypeId} {f0 f1 f2:Field} {fuel:Nat} {cs:List Value} {x:DataW H × List MemPlace} (ht:P.underlying t=some (.struct #[f0,f1,f2])) (h:DataW.trod enc P w base sp hd fuel t cs=some x) :
  ∃ y0 y1 y2 n,x=(.agg [y0.1,y1.1,y2.1],y0.2++(y1.2++y2.2))∧cs.length=P.cellsOf t∧DataW.trod enc P w base sp hd n f0.type ((cs.drop f0.offset).take (P.cellsOf f0.type))=some y0 ∧
   DataW.trod enc P w base sp hd n f1.type ((cs.drop f1.offset).take (P.cellsOf f1.type))=some y1∧DataW.trod enc P w base sp hd n f2.type ((cs.drop f2.offset).take (P.cellsOf f2.type))=some y2:=by
 obtain⟨xs,n,_,rfl,hl,hlen,hf⟩:=DataW.trod_struct ht h
 match xs,hlen with
 | [y0,y1,y2],_=>exact⟨y0,y1,y2,n,by simp,hl,by simpa using hf 0 f0 rfl,by simpa using hf 1 f1 rfl,by simpa using hf 2 f2 rfl⟩
theorem open_nfa {fuel:Nat} {cs:List Value} {x:DataW H × List MemPlace} (h:DataW.trod enc Tryz.prog w 0 sp hd fuel 33 cs=some x) (hb:Rows.uptoBulk x.1≤1048576) :
  ∃ (n:NfaD) (y:NfaA),cs=nfaCells n y∧NfaIn w n y:=by
 obtain⟨y0,y1,y2,m,rfl,hl,h0,h1,h2⟩:=trod_struct3N Tryz.underlying33 h
 rw[cells_nfa] at hl
 obtain⟨c0,c1,c2,rfl⟩:=list3Q hl
 simp only[cells_int,cells_edges,cells_ints,List.drop,List.take] at h0 h1 h2
 obtain⟨st,e0,rfl,_⟩:=DataW.trod_int Tryz.underlying3 h0
 simp only[Rows.uptoBulk,Rows.uptoBulkAll] at hb
 obtain⟨es,ae,ce,e1,he⟩:=open_edges h1 (by omega)
 obtain⟨ac,aa,ca,e2,ha⟩:=open_ints' h2 (by omega)
 simp only[List.cons.injEq,and_true] at e0 e1 e2
 subst e0 e1 e2
 exact⟨⟨st,es,ac⟩,⟨ae,ce,aa,ca⟩,rfl,he,ha⟩
theorem open_threads {fuel:Nat} {cs:List Value} {x:DataW H × List MemPlace} (h:DataW.trod enc Tryz.prog w 0 sp hd fuel 38 cs=some x) (hb:Rows.uptoBulk x.1≤1048576) :
  ∃ (l:List ThrD) (a:Option Addr) (cap:Nat),cs=[.slice a l.length cap]∧thE.In w l a cap:=by
 haveI:Inhabited ThrD:=⟨⟨0,[]⟩⟩
 refine open_elems (fun (v:ThrD) b o=>thE.At w v b o) Tryz.underlying38 cells_thread (by omega) h hb ?_
 intro n cs' y hy hlt
 obtain⟨y0,y1,m,rfl,hl,h0,h1⟩:=trod_struct2 Tryz.underlying49 hy
 rw[cells_thread] at hl
 obtain⟨c0,c1,rfl⟩:=list2Q hl
 simp only[cells_int,cells_sigs,List.drop,List.take] at h0 h1
 obtain⟨st,e0,rfl,_⟩:=DataW.trod_int Tryz.underlying3 h0
 simp only[Rows.uptoBulk,Rows.uptoBulkAll] at hlt
 obtain⟨ev,a,c,e1,he⟩:=open_sigs h1 (by omega)
 simp only[List.cons.injEq,and_true] at e0 e1
 subst e0 e1
 exact⟨⟨st,ev⟩,fun b o hc=>at_cells (E:=thE) ⟨a,c,rfl,he⟩ hc⟩
end
section
variable {H : Type} {enc : TypeId × Value → H} {w : World} {base b0 : Nat} {sp : Nat → Bool} {hd : Bool} {r : Reach} {v : Value} {d : DataW H} {ps : List MemPlace}
set_option maxRecDepth 100000 in
theorem arg_nfa (hv:Value.okWide Tryz.prog w r b0 33 v) (h:DataW.Trod enc Tryz.prog w 0 sp hd 33 v d ps) (hb:Rows.uptoBulk d≤1048576):∃ (n:NfaD) (y:NfaA),v=nfaVal n y∧NfaIn w n y:=by
 obtain⟨cs,rfl,_⟩:=okWide_struct Tryz.underlying33 hv
 obtain⟨fuel,hf⟩:=h
 obtain⟨n,y,e,hP⟩:=open_nfa hf hb
 refine⟨n,y,?_,hP⟩
 have:cs=(nfaCells n y).toArray:=by apply Array.toList_inj.1;exact e
 rw[this];rfl
set_option maxRecDepth 100000 in
theorem arg_sigs (hv:Value.okWide Tryz.prog w r b0 39 v) (h:DataW.Trod enc Tryz.prog w 0 sp hd 39 v d ps) (hb:Rows.uptoBulk d≤1048576):∃ (l:List Sg) (a:Option Addr) (cap:Nat),v=.slice a l.length cap∧SigsIn w l a cap:=by
 obtain⟨a,n,c,rfl⟩:=okWide_slice Tryz.underlying39 hv
 obtain⟨fuel,hf⟩:=h
 obtain⟨l,a',cap,e,hL⟩:=open_sigs hf hb
 refine⟨l,a',cap,?_,hL⟩
 have e':[Value.slice a n c]=[Value.slice a' l.length cap]:=e
 simpa using e'
set_option maxRecDepth 100000 in
theorem arg_threads (hv:Value.okWide Tryz.prog w r b0 38 v) (h:DataW.Trod enc Tryz.prog w 0 sp hd 38 v d ps) (hb:Rows.uptoBulk d≤1048576):∃ (l:List ThrD) (a:Option Addr) (cap:Nat),v=.slice a l.length cap∧thE.In w l a cap:=by
 obtain⟨a,n,c,rfl⟩:=okWide_slice Tryz.underlying38 hv
 obtain⟨fuel,hf⟩:=h
 obtain⟨l,a',cap,e,hL⟩:=open_threads hf hb
 refine⟨l,a',cap,?_,hL⟩
 have e':[Value.slice a n c]=[Value.slice a' l.length cap]:=e
 simpa using e'
end
end Go.Proofs.YthojpomoflhbcaaGreatDoor
namespace Go.Proofs.YthojpomoflhbcaaGreatDoor
open Go.RowKit
attribute [local go_sem ↓] Go.wp_at_zero Go.wp_at_succ
theorem two_new {X:World} {a b:Value} {t:TypeId} {k:Nat} (h:k=X.heap.size):(X.alloc (.cells #[a,b] t)).cell? ⟨k,0,none⟩=some a∧(X.alloc (.cells #[a,b] t)).cell? ⟨k,1,none⟩=some b:=by
 subst h
 have e:=heap_alloc_new' X (.cells #[a,b] t)
 exact⟨by rw[cell_of_blkT e];rfl,by rw[cell_of_blkT e];rfl⟩
theorem two_newD {X:World} {a b:Value} {t:TypeId} {k:Nat} (h:k=X.heap.size):(X.alloc (.cells #[a,b] t)).drew.cell? ⟨k,0,none⟩=some a∧(X.alloc (.cells #[a,b] t)).drew.cell? ⟨k,1,none⟩=some b:=two_new h
theorem isNaN_any (x:Int) (w:World):Calls Tryz.prog 163 #[.int .i64 x] w fun e w'=>e=.returned (.bool false)∧w'=w:=by
 have h:(x != x)=false:=by simp
 go_enter Tryz.func163, Tryz.ntmps163
 go_wp2_with fail
 go_ret
 exact⟨rfl,rfl⟩
theorem cmpI_any (x y:Int) (w:World):Calls Tryz.prog 104 #[.int .i64 x,.int .i64 y] w fun e w'=>e=.returned (.int .i64 (Lib.compareInt x y))∧w'=w:=by
 by_cases h1:x < y
 ·have hv:Hid (Lib.compareInt x y=-1):=by show _=_;unfold Lib.compareInt;rw[if_pos h1]
  go_enter Tryz.func104, Tryz.ntmps104
  go_wp2_with (go_at_call 163;refine(isNaN_any _ _).mono ?_;rintro e w1 ⟨rfl,rfl⟩)
  go_ret
  exact⟨by rw[hv.out];rfl,rfl⟩
 ·by_cases h2:y < x
  ·have hv:Hid (Lib.compareInt x y=1):=by show _=_;unfold Lib.compareInt;rw[if_neg h1,if_pos h2]
   go_enter Tryz.func104, Tryz.ntmps104
   go_wp2_with (go_at_call 163;refine(isNaN_any _ _).mono ?_;rintro e w1 ⟨rfl,rfl⟩)
   go_ret
   exact⟨by rw[hv.out];rfl,rfl⟩
  ·have hv:Hid (Lib.compareInt x y=0):=by show _=_;unfold Lib.compareInt;rw[if_neg h1,if_neg h2]
   go_enter Tryz.func104, Tryz.ntmps104
   go_wp2_with (go_at_call 163;refine(isNaN_any _ _).mono ?_;rintro e w1 ⟨rfl,rfl⟩)
   go_ret
   exact⟨by rw[hv.out];rfl,rfl⟩
theorem cmpOr_any (x y:Int) (b:Nat) (w:World) (h0:w.cell? ⟨b,0,none⟩=some (.int .i64 x)) (h1:w.cell? ⟨b,1,none⟩=some (.int .i64 y)):Calls Tryz.prog 103 #[.slice (some ⟨b,0,none⟩) 2 2] w fun e w'=>e=.returned (.int .i64 (orZ x y))∧w'=w:=by
 go_enter Tryz.func103, Tryz.ntmps103
 go_wp2_with fail
 go_loop [8,5] (fun i _=>i=.int .i64 0∨(i=.int .i64 1∧Hid (x=0))∨(i=.int .i64 2∧Hid (x=0)∧Hid (y=0))) (fun i _=>2 - (intOf i).toNat)
 case atStart=>exact Or.inl rfl
 case round =>
  rcases hrel with rfl | ⟨rfl,HX⟩ | ⟨rfl,HX,HY⟩
  ·by_cases hx:x=0
   ·have HX:=Lib.hid hx
    have hxx:(x != 0)=false:=by simp[hx]
    clear hx
    go_wp2_with fail
    go_round
    case rel=>exact Or.inr (Or.inl ⟨by go_num,HX.out⟩)
    case measure=>simp[intOf]
   ·have hv:Hid (orZ x y=x):=by show _=_;unfold orZ;rw[if_neg hx]
    have hxx:(x != 0)=true:=by simp[hx]
    clear hx
    go_wp2_with fail
    go_ret
    exact⟨by rw[hv.out];rfl,rfl⟩
  ·have hv:Hid (orZ x y=y):=by show _=_;unfold orZ;rw[if_pos HX.out]
   by_cases hy:y=0
   ·have HY:=Lib.hid hy
    have hyy:(y != 0)=false:=by simp[hy]
    clear hy hv
    go_wp2_with fail
    go_round
    case rel=>exact Or.inr (Or.inr ⟨by go_num,HX.out,HY.out⟩)
    case measure=>simp[intOf]
   ·have hyy:(y != 0)=true:=by simp[hy]
    clear hy
    go_wp2_with fail
    go_ret
    exact⟨by rw[hv.out];rfl,rfl⟩
  ·have hv:Hid (orZ x y=0):=by show _=_;unfold orZ;rw[if_pos HX.out,HY.out]
   go_wp2_with fail
   go_ret
   exact⟨by rw[hv.out];rfl,rfl⟩
set_option maxHeartbeats 1000000 in
theorem cmpSg_any (x y:Sg) (w:World):Calls Tryz.prog 165 #[.agg #[.string x.1,.int .i64 x.2],.agg #[.string y.1,.int .i64 y.2]] w fun e w'=>e=.returned (.int .i64 (cmpSg x y))∧Below w.heap.size w w':=by
 have hv:Hid (orZ (cmpB x.1 y.1) (Lib.compareInt x.2 y.2)=cmpSg x y):=rfl
 have HS:Hid (∀ W,Calls Tryz.prog 112 #[.string x.1,.string y.1] W fun e w'=>e=.returned (.int .i64 (cmpB x.1 y.1))∧w'=W):=fun W=>Tryz.strings_Compare x.1 y.1 W
 have HI:Hid (∀ W,Calls Tryz.prog 104 #[.int .i64 x.2,.int .i64 y.2] W fun e w'=>e=.returned (.int .i64 (Lib.compareInt x.2 y.2))∧w'=W):=fun W=>cmpI_any x.2 y.2 W
 have HO:Hid (∀ b W,W.cell? ⟨b,0,none⟩=some (.int .i64 (cmpB x.1 y.1))→W.cell? ⟨b,1,none⟩=some (.int .i64 (Lib.compareInt x.2 y.2))→Calls Tryz.prog 103 #[.slice (some ⟨b,0,none⟩) 2 2] W fun e w'=>e=.returned (.int .i64 (cmpSg x y))∧w'=W):=fun b W h0 h1=>cmpOr_any _ _ b W h0 h1
 clear hv
 generalize cmpSg x y=R at HO⊢
 generalize cmpB x.1 y.1=c1 at HS HO
 generalize Lib.compareInt x.2 y.2=c2 at HI HO
 go_enter Tryz.func165, Tryz.ntmps165
 go_wp2_with fail
 go_region_with (first
  | (go_at_call 112;refine(HS.out _).mono ?_;rintro e w1 ⟨rfl,rfl⟩)
  | (go_at_call 104;refine(HI.out _).mono ?_;rintro e w1 ⟨rfl,rfl⟩)
  | (go_at_call 103;refine(HO.out _ _ (by first | exact(two_new (by simp)).1 | exact(two_newD (by simp)).1) (by first | exact(two_new (by simp)).2 | exact(two_newD (by simp)).2)).mono ?_;rintro e w1 ⟨rfl,rfl⟩))
 all_goals
  go_wp2_with fail
  go_ret
  exact⟨rfl,bel⟩
theorem cmpL_drop {α:Type} {c:α→α→Int}:∀ {l m:List α} {k:Nat},k≤l.length→k≤m.length→(∀ j (h1:j < l.length) (h2:j < m.length),j < k→c (l[j]'h1) (m[j]'h2)=0)→cmpL c l m=cmpL c (l.drop k) (m.drop k):=by
 intro l
 induction l with
 | nil =>
  intro m k h1 _ _
  have h0:k=0:=by simpa using h1
  subst h0
  simp
 | cons x l ih =>
  intro m k h1 h2 h
  cases k with
  | zero=>simp
  | succ k =>
   cases m with
   | nil=>simp at h2
   | cons y m =>
    have h0:=h 0 (by simp) (by simp) (by omega)
    simp only[List.getElem_cons_zero] at h0
    rw[cmpL,if_pos h0,List.drop_succ_cons,List.drop_succ_cons]
    refine ih (by simpa using h1) (by simpa using h2) fun j a b hj=>?_
    have:=h (j+1) (by simpa using a) (by simpa using b) (by omega)
    simpa using this
theorem sgE_get {w:World} {l:List Sg} {a:Option Addr} {cap:Nat} (h:SigsIn w l a cap) {b off:Nat} (ha:a=some ⟨b,off,none⟩) {i:Nat} (hi:i < l.length):w.cell? ⟨b,off+i * 2,none⟩=some (.string (l[i]'hi).1)∧w.cell? ⟨b,off+i * 2+1,none⟩=some (.int .i64 (l[i]'hi).2):=sgE_at.1 ((sgE_in.2 h).get ha hi)
set_option maxHeartbeats 4000000 in
set_option maxRecDepth 100000 in
theorem cmpFunc_any (l m:List Sg) (a b:Option Addr) (ca cb:Nat) (w:World) (hL:SigsIn w l a ca) (hM:SigsIn w m b cb) :
  Calls Tryz.prog 164 #[.slice a l.length ca,.slice b m.length cb,.func (.func 165) #[] #[]] w fun e w'=>e=.returned (.int .i64 (cmpEnv l m))∧Below w.heap.size w w':=by
 have HL:=Lib.hid hL
 have HM:=Lib.hid hM
 have hll:=hL.2.1
 have hml:=hM.2.1
 have HLA:Hid (l.length=0∨∃ b off,a=some ⟨b,off,none⟩):=SliceIn.addr hL
 have HMA:Hid (m.length=0∨∃ b' off,b=some ⟨b',off,none⟩):=SliceIn.addr hM
 have HD:Hid (∀ k,k≤l.length→k≤m.length→(∀ j (h1:j < l.length) (h2:j < m.length),j < k→cmpSg (l[j]'h1) (m[j]'h2)=0)→cmpEnv l m=cmpL cmpSg (l.drop k) (m.drop k)):=fun k h1 h2 h=>cmpL_drop h1 h2 h
 clear hL hM
 generalize cmpEnv l m=R at HD⊢
 go_enter Tryz.func164, Tryz.ntmps164
 go_wp2_with fail
 go_loopw [13,7,8,9,10] (fun i _ _ _ _ wr=>∃ k:Nat,i=.int .i64 k∧k≤l.length∧k≤m.length∧Hid (∀ j (h1:j < l.length) (h2:j < m.length),j < k→cmpSg (l[j]'h1) (m[j]'h2)=0)∧Hid (Below w.heap.size w wr)) (fun i _ _ _ _ _=>l.length - (intOf i).toNat)
 case atStart=>exact⟨0,rfl,Nat.zero_le _,Nat.zero_le _,fun _ _ _ h=>absurd h (by omega),Below.refl _ _⟩
 case round =>
  obtain⟨k,rfl,hk,hkm,HAl,HBr⟩:=hrel
  have hzr:=HBr.out.size
  by_cases hlt:k < l.length
  ·obtain⟨bl,ol,ha⟩:=HLA.out.resolve_left (by omega)
   subst ha
   obtain⟨g0,g1⟩:=sgE_get HL.out rfl hlt
   have c0:=keeps_of_below HBr.out _ _ g0
   have c1:=keeps_of_below HBr.out _ _ g1
   by_cases hltm:k < m.length
   ·obtain⟨bm,om,hb⟩:=HMA.out.resolve_left (by omega)
    subst hb
    obtain⟨g2,g3⟩:=sgE_get HM.out rfl hltm
    have c2:=keeps_of_below HBr.out _ _ g2
    have c3:=keeps_of_below HBr.out _ _ g3
    have d2:∀ o,(wr.alloc o).cell? ⟨bm,om+k * 2,none⟩=_:=fun o=>Lib.cell?_alloc_some _ c2
    have d3:∀ o,(wr.alloc o).cell? ⟨bm,om+k * 2+1,none⟩=_:=fun o=>Lib.cell?_alloc_some _ c3
    have HNx:Hid (cmpSg (l[k]'hlt) (m[k]'hltm)=0→∀ j (h1:j < l.length) (h2:j < m.length),j < k+1→cmpSg (l[j]'h1) (m[j]'h2)=0):=fun hv j h1 h2 hjk=>by
     by_cases e:j=k
     ·subst e;exact hv
     ·exact HAl.out j h1 h2 (by omega)
    have HYx:Hid (cmpSg (l[k]'hlt) (m[k]'hltm)≠0→R=cmpSg (l[k]'hlt) (m[k]'hltm)):=fun h=>by
     rw[HD.out k hk hkm HAl.out,List.drop_eq_getElem_cons hlt,List.drop_eq_getElem_cons hltm,cmpL,if_neg h]
    have HC:Hid (∀ W,Calls Tryz.prog 165 #[.agg #[.string (l[k]'hlt).1,.int .i64 (l[k]'hlt).2],.agg #[.string (m[k]'hltm).1,.int .i64 (m[k]'hltm).2]] W fun e w'=>e=.returned (.int .i64 (cmpSg (l[k]'hlt) (m[k]'hltm)))∧Below W.heap.size W w'):=fun W=>cmpSg_any _ _ W
    clear g0 g1 g2 g3
    generalize (l[k]'hlt)=x at c0 c1 HNx HYx HC
    generalize (m[k]'hltm)=y at c2 c3 d2 d3 HNx HYx HC
    by_cases hc:cmpSg x y=0
    ·have HAl2:=Lib.hid (HNx.out hc)
     have hcz:(cmpSg x y != 0)=false:=by simp[hc]
     clear HNx HYx hc
     generalize cmpSg x y=cz at HC hcz
     go_wp2_with (go_at_call 165;go_must (refine(HC.out _).mono ?_;rintro e w5 ⟨rfl,hb5⟩))
     have HB5:Hid (Below wr.heap.size wr w5):=(((Below.refl wr.heap.size wr).alloc (Nat.le_refl _) _).alloc sz _).trans (hb5.mono sz)
     go_roundw
     case rel=>exact⟨k+1,by go_num,by omega,by omega,HAl2.out,HBr.out.trans (HB5.out.mono hzr)⟩
     case measure=>(simp[intOf];try omega)
    ·have hR:=Lib.hid (HYx.out hc)
     have hcz:(cmpSg x y != 0)=true:=by simp[hc]
     clear HNx HYx hc
     generalize cmpSg x y=cz at HC hcz hR
     go_wp2_with (go_at_call 165;go_must (refine(HC.out _).mono ?_;rintro e w5 ⟨rfl,hb5⟩))
     have HB5:Hid (Below wr.heap.size wr w5):=(((Below.refl wr.heap.size wr).alloc (Nat.le_refl _) _).alloc sz _).trans (hb5.mono sz)
     go_ret
     exact⟨by rw[hR.out];rfl,HBr.out.trans (HB5.out.mono hzr)⟩
   ·obtain rfl:k=m.length:=by omega
    have hR:R=1:=by
     rw[HD.out m.length hk hkm HAl.out,List.drop_eq_getElem_cons hlt,List.drop_length];rfl
    subst hR
    clear g0 g1
    generalize (l[m.length]'hlt)=x at c0 c1
    go_wp2_with fail
    have HB5:Hid (Below wr.heap.size wr (wr.alloc (.cells #[.string x.1,.int .i64 x.2] 78))):=(Below.refl wr.heap.size wr).alloc (Nat.le_refl _) _
    go_ret
    exact⟨rfl,HBr.out.trans (HB5.out.mono hzr)⟩
  ·obtain rfl:k=l.length:=by omega
   have hR:=Lib.hid (HD.out l.length hk hkm HAl.out)
   by_cases hlm:l.length < m.length
   ·have hR2:R=-1:=by rw[hR.out,List.drop_length,List.drop_eq_getElem_cons hlm];rfl
    subst hR2
    go_wp2_with fail
    go_ret
    exact⟨rfl,HBr.out⟩
   ·have hR2:R=0:=by rw[hR.out,List.drop_length,List.drop_eq_nil_of_le (by omega)];rfl
    subst hR2
    go_wp2_with fail
    go_ret
    exact⟨rfl,HBr.out⟩
theorem cmpEnv_any (l m:List Sg) (a b:Option Addr) (ca cb:Nat) (w:World) (hL:SigsIn w l a ca) (hM:SigsIn w m b cb) :
  Calls Tryz.prog 105 #[.slice a l.length ca,.slice b m.length cb] w fun e w'=>e=.returned (.int .i64 (cmpEnv l m))∧Below w.heap.size w w':=by
 have HC:=Lib.hid (cmpFunc_any l m a b ca cb w hL hM)
 clear hL hM
 generalize cmpEnv l m=R at HC⊢
 go_enter Tryz.func105, Tryz.ntmps105
 go_wp2_with fail
 refine HC.out.mono ?_
 rintro e w1 ⟨rfl,hb⟩
 have HB:=Lib.hid hb
 clear hb
 go_wp2_with fail
 go_ret
 exact⟨rfl,HB.out⟩
set_option maxHeartbeats 1000000 in
theorem cmpThr_any (x y:ThrD) (a b:Option Addr) (ca cb:Nat) (w:World) (hL:SigsIn w x.env a ca) (hM:SigsIn w y.env b cb) :
  Calls Tryz.prog 51 #[.agg #[.int .i64 x.state,.slice a x.env.length ca],.agg #[.int .i64 y.state,.slice b y.env.length cb]] w fun e w'=>e=.returned (.int .i64 (cmpThr x y))∧Below w.heap.size w w':=by
 have HE:Hid (∀ W,Below w.heap.size w W→Calls Tryz.prog 105 #[.slice a x.env.length ca,.slice b y.env.length cb] W fun e w'=>e=.returned (.int .i64 (cmpEnv x.env y.env))∧Below W.heap.size W w'∧Below w.heap.size w w'):=fun W hW=>(cmpEnv_any x.env y.env a b ca cb W (hL.keep (keeps_of_below hW)) (hM.keep (keeps_of_below hW))).mono fun e w' h=>⟨h.1,h.2,hW.trans (h.2.mono hW.size)⟩
 have HI:Hid (∀ W,Calls Tryz.prog 104 #[.int .i64 x.state,.int .i64 y.state] W fun e w'=>e=.returned (.int .i64 (Lib.compareInt x.state y.state))∧w'=W):=fun W=>cmpI_any x.state y.state W
 have HO:Hid (∀ b W,W.cell? ⟨b,0,none⟩=some (.int .i64 (Lib.compareInt x.state y.state))→W.cell? ⟨b,1,none⟩=some (.int .i64 (cmpEnv x.env y.env))→Calls Tryz.prog 103 #[.slice (some ⟨b,0,none⟩) 2 2] W fun e w'=>e=.returned (.int .i64 (cmpThr x y))∧w'=W):=fun b W h0 h1=>cmpOr_any _ _ b W h0 h1
 clear hL hM
 generalize cmpThr x y=R at HO⊢
 generalize cmpEnv x.env y.env=c1 at HE HO
 generalize Lib.compareInt x.state y.state=c2 at HI HO
 go_enter Tryz.func51, Tryz.ntmps51
 go_wp2_with fail
 generalize hW2:(w.alloc (.cells #[.int .i64 x.state,.slice a x.env.length ca] 49)).alloc (.cells #[.int .i64 y.state,.slice b y.env.length cb] 49)=W2
 have hB2:Below w.heap.size w W2:=by rw[← hW2];exact((Below.refl _ _).alloc (Nat.le_refl _) _).alloc (by simp) _
 have HX:Hid (W2.heap[w.heap.size]? = some (.cells #[.int .i64 x.state,.slice a x.env.length ca] 49 (0,0))):=by show _=_;rw[← hW2];rw[Below.heap_alloc _ _ _ (by simp)];exact heap_alloc_at _ _ _ rfl
 have HY:Hid (W2.heap[w.heap.size+1]? = some (.cells #[.int .i64 y.state,.slice b y.env.length cb] 49 (0,0))):=by show _=_;rw[← hW2];exact heap_alloc_at _ _ _ (by simp)
 have hz2:w.heap.size+1 < W2.heap.size:=by rw[← hW2];simp
 have hz2b:=hB2.size
 have HALL:Hid (∀ W,Below W2.heap.size W2 W→W.cell? ⟨w.heap.size,0,none⟩=some (.int .i64 x.state)∧W.cell? ⟨w.heap.size,1,none⟩=some (.slice a x.env.length ca)∧W.cell? ⟨w.heap.size+1,0,none⟩=some (.int .i64 y.state)∧W.cell? ⟨w.heap.size+1,1,none⟩=some (.slice b y.env.length cb)):=fun W hW=>by
  have e1:=(hW.block w.heap.size (by omega)).trans HX.out
  have e2:=(hW.block (w.heap.size+1) (by omega)).trans HY.out
  refine⟨?_,?_,?_,?_⟩
  ·simp[World.cell?,e1]
  ·simp[World.cell?,e1]
  ·simp[World.cell?,e2]
  ·simp[World.cell?,e2]
 have HE2:Hid (∀ W,Below W2.heap.size W2 W→Calls Tryz.prog 105 #[.slice a x.env.length ca,.slice b y.env.length cb] W fun e w'=>e=.returned (.int .i64 c1)∧Below W.heap.size W w'∧Below W2.heap.size W2 w'):=fun W hW=>(HE.out W (hB2.trans (hW.mono hz2b))).mono fun e w' h=>⟨h.1,h.2.1,hW.trans (h.2.1.mono hW.size)⟩
 have HB2:=Lib.hid hB2
 obtain⟨b0,b1,b2,b3⟩:=HALL.out W2 (Below.refl _ _)
 clear hW2 HE hB2
 go_region_held3 (fun w'=>Below W2.heap.size W2 w'∧w'.cell? ⟨w.heap.size,0,none⟩=some (.int .i64 x.state)∧w'.cell? ⟨w.heap.size,1,none⟩=some (.slice a x.env.length ca)∧w'.cell? ⟨w.heap.size+1,0,none⟩=some (.int .i64 y.state)∧w'.cell? ⟨w.heap.size+1,1,none⟩=some (.slice b y.env.length cb))
  ((refine(fun h=>⟨h,HALL.out _ h⟩) ?_;first | assumption | exact bel))
  (first
   | (go_at_call 105;refine(HE2.out _ bel).mono ?_;rintro e w1 ⟨rfl,hb1,hB1⟩;have hs1:=hB1.size)
   | (go_at_call 104;refine(HI.out _).mono ?_;rintro e w1 ⟨rfl,rfl⟩)
   | (go_at_call 103;refine(HO.out _ _ (by first | exact(two_new (by simp)).1 | exact(two_newD (by simp)).1) (by first | exact(two_new (by simp)).2 | exact(two_newD (by simp)).2)).mono ?_;rintro e w1 ⟨rfl,rfl⟩))
 all_goals
  go_wp2_with fail
  go_ret
  refine⟨rfl,HB2.out.trans (Below.mono ?_ hz2b)⟩
  exact bel
end Go.Proofs.YthojpomoflhbcaaGreatDoor
namespace Go.Proofs.YthojpomoflhbcaaGreatDoor
open Go.RowKit
def LeB (o q:List Bool):Prop:=o.length=q.length∧∀ k,o.getD k false=true→q.getD k false=true
theorem LeB.refl (o:List Bool):LeB o o:=⟨rfl,fun _ h=>h⟩
theorem LeB.trans {o q r:List Bool} (h:LeB o q) (h2:LeB q r):LeB o r:=⟨h.1.trans h2.1,fun k hk=>h2.2 k (h.2 k hk)⟩
theorem LeB.antisymm {o q:List Bool} (h:LeB o q) (h2:LeB q o):o=q:=by
 refine List.ext_getElem h.1 fun k hk hk'=>?_
 have e1:=h.2 k
 have e2:=h2.2 k
 simp only[List.getD_eq_getElem?_getD,List.getElem?_eq_getElem hk,List.getElem?_eq_getElem hk',Option.getD_some] at e1 e2
 cases h3:o[k]<;>cases h4:q[k]<;>simp_all
theorem getD_set {o:List Bool} {k j:Nat}:(o.set k true).getD j false=(o.getD j false || (decide (k=j) && decide (j < o.length))):=by
 simp only[List.getD_eq_getElem?_getD,List.getElem?_set]
 by_cases h:k=j
 ·subst h
  by_cases h2:k < o.length
  ·simp[h2]
  ·simp[h2,List.getElem?_eq_none (Nat.le_of_not_lt h2)]
 ·simp[h]
theorem closeOne_le (o:List Bool) (p:Nat × Nat):LeB o (closeOne o p):=by
 refine⟨(closeOne_len o p).symm,fun k hk=>?_⟩
 unfold closeOne
 split
 ·rw[getD_set,hk,Bool.true_or]
 ·exact hk
theorem closeAll_le (l:List (Nat × Nat)):∀ o,LeB o (l.foldl closeOne o):=by
 induction l with
 | nil=>exact LeB.refl
 | cons p l ih=>intro o;exact(closeOne_le o p).trans (ih _)
theorem closeStep_fix {l:List (Nat × Nat)}:∀ {o:List Bool},closeStep l o=o→∀ p∈l,closeOne o p=o:=by
 unfold closeStep
 induction l with
 | nil=>intro _ _ p hp;cases hp
 | cons q l ih =>
  intro o h p hp
  rw[List.foldl_cons] at h
  have h1:closeOne o q=o:=by
   have a:=closeOne_le o q
   have b:=closeAll_le l (closeOne o q)
   rw[h] at b
   exact(a.antisymm b).symm
  rw[h1] at h
  rcases List.mem_cons.1 hp with rfl | hp
  ·exact h1
  ·exact ih h p hp
inductive Rch (l:List (Nat × Nat)):Nat→Nat→Prop where
 | refl (s:Nat):Rch l s s
 | step {s t u:Nat} (h:Rch l s t) (hp:(t,u)∈l):Rch l s u
theorem Rch.head {l:List (Nat × Nat)} {s t u:Nat} (hp:(s,t)∈l) (h:Rch l t u):Rch l s u:=by
 induction h with
 | refl=>exact(Rch.refl s).step hp
 | step _ hq ih=>exact ih.step hq
theorem Rch.trans {l:List (Nat × Nat)} {s t u:Nat} (h:Rch l s t) (h2:Rch l t u):Rch l s u:=by
 induction h2 with
 | refl=>exact h
 | step _ hq ih=>exact ih.step hq
def Snd (l:List (Nat × Nat)) (o q:List Bool):Prop:=∀ k,q.getD k false=true→∃ s,o.getD s false=true∧Rch l s k
theorem snd_one {l:List (Nat × Nat)} {o q:List Bool} {p:Nat × Nat} (h:Snd l o q) (hp:p∈l):Snd l o (closeOne q p):=by
 intro k hk
 unfold closeOne at hk
 split at hk
 ·rename_i hc
  rw[getD_set] at hk
  simp only[Bool.and_eq_true] at hc
  rw[Bool.or_eq_true] at hk
  rcases hk with hk | hk
  ·exact h k hk
  ·simp only[Bool.and_eq_true,decide_eq_true_eq] at hk
   obtain⟨s,h1,h2⟩:=h _ hc.1
   exact⟨s,h1,by rw[← hk.1];exact h2.step hp⟩
 ·exact h k hk
theorem snd_step {l:List (Nat × Nat)} {o:List Bool}:∀ (m:List (Nat × Nat)) (q:List Bool),(∀ p∈m,p∈l)→Snd l o q→Snd l o (m.foldl closeOne q):=by
 intro m
 induction m with
 | nil=>intro q _ h;exact h
 | cons p m ih=>intro q hm h;exact ih _ (fun x hx=>hm x (List.mem_cons_of_mem _ hx)) (snd_one h (hm p (List.mem_cons_self ..)))
theorem snd_N {l:List (Nat × Nat)} {o:List Bool}:∀ (n:Nat) (q:List Bool),Snd l o q→Snd l o (closeN l n q):=by
 intro n
 induction n with
 | zero=>intro q h;exact h
 | succ n ih=>intro q h;exact ih _ (snd_step l q (fun _ h=>h) h)
theorem closeN_le (l:List (Nat × Nat)):∀ n o,LeB o (closeN l n o):=by
 intro n
 induction n with
 | zero=>exact LeB.refl
 | succ n ih=>intro o;exact(closeAll_le l o).trans (ih _)
theorem closeS_len (l:List (Nat × Nat)) (o:List Bool):(closeS l o).length=o.length:=closeN_len _ _ _
theorem closeS_iff {l:List (Nat × Nat)} {o:List Bool} (hl:∀ p∈l,p.2 < o.length) (k:Nat):(closeS l o).getD k false=true↔∃ s,o.getD s false=true∧Rch l s k:=by
 refine⟨fun h=>snd_N _ _ (fun k hk=>⟨k,hk,Rch.refl k⟩) k h,?_⟩
 rintro ⟨s,h1,h2⟩
 have hfix:=closeStep_fix (closeN_stable l o.length o (falses_le o))
 induction h2 with
 | refl=>exact(closeN_le l _ o).2 _ h1
 | @step t u h2 hp ih =>
  have h3:=hfix _ hp
  unfold closeS at ih⊢
  unfold closeOne at h3
  by_cases hb:(closeN l o.length o).getD u false=true
  ·exact hb
  ·have hc:((closeN l o.length o).getD t false && !(closeN l o.length o).getD u false)=true:=by rw[ih];simpa using hb
   rw[if_pos hc] at h3
   rw[← h3,getD_set]
   have hlt:=hl _ hp
   simp only at hlt
   simp[closeN_len,hlt]
theorem markS_iff (st:Nat) (l:List Nat) (k:Nat):(markS st l).getD k false=true↔k∈l∧k < st:=by
 unfold markS
 have:∀ (o:List Bool),(l.foldl (fun o s=>o.set s true) o).getD k false=true↔o.getD k false=true∨(k∈l∧k < o.length):=by
  induction l with
  | nil=>intro o;simp
  | cons a l ih =>
   intro o
   rw[List.foldl_cons,ih,getD_set]
   simp only[Bool.or_eq_true,Bool.and_eq_true,decide_eq_true_eq,List.length_set,List.mem_cons]
   constructor
   ·rintro ((h | ⟨rfl,h⟩) | ⟨h,h2⟩)
    ·exact Or.inl h
    ·exact Or.inr ⟨Or.inl rfl,h⟩
    ·exact Or.inr ⟨Or.inr h,h2⟩
   ·rintro (h | ⟨rfl | h,h2⟩)
    ·exact Or.inl (Or.inl h)
    ·exact Or.inl (Or.inr ⟨rfl,h2⟩)
    ·exact Or.inr ⟨h,h2⟩
 rw[this]
 simp only[List.length_replicate,List.getD_eq_getElem?_getD,List.getElem?_replicate]
 constructor
 ·rintro (h | h)
  ·split at h<;>simp at h
  ·exact h
 ·exact Or.inr
theorem nfaOk_iff {n:NfaD}:nfaOk n=true↔(1≤n.states∧n.states≤256∧n.edges.length≤4096)∧(∀ e∈n.edges,edgeOk n.states e=true)∧accB n.states n.accept n.accept.length=true:=by
 unfold nfaOk;simp only[Bool.and_eq_true,decide_eq_true_eq,List.all_eq_true,and_assoc]
theorem edgeOk_iff {st:Int} {e:EdgeD}:edgeOk st e=true↔(0≤e.fr∧e.fr < st∧0≤e.to∧e.to < st)∧(∀ g∈e.guards,okX g=true)∧(∀ b∈e.sets,okBd b=true):=by
 unfold edgeOk;simp only[Bool.and_eq_true,decide_eq_true_eq,List.all_eq_true,and_assoc]
theorem accB_iff {st:Int} {l:List Int}:accB st l l.length=true↔(∀ a∈l,0≤a∧a < st)∧l.Pairwise (· < ·):=by
 have key:accB st l l.length=true↔∀ i,i < l.length→0≤l.getD i 0∧l.getD i 0 < st∧(0 < i→l.getD (i - 1) 0 < l.getD i 0):=by
  unfold accB;simp only[List.all_eq_true,List.mem_range,decide_eq_true_eq]
 rw[key]
 constructor
 ·intro h
  refine⟨fun a ha=>?_,?_⟩
  ·obtain⟨i,hi,rfl⟩:=List.getElem_of_mem ha
   have:=h i hi
   simp only[List.getD_eq_getElem?_getD,List.getElem?_eq_getElem hi,Option.getD_some] at this
   exact⟨this.1,this.2.1⟩
  ·rw[List.pairwise_iff_getElem]
   intro i j hi hj hij
   have step:∀ d,i+d < l.length→l.getD i 0≤l.getD (i+d) 0:=by
    intro d
    induction d with
    | zero=>intro _;exact Int.le_refl _
    | succ d ih =>
     intro hd
     have h1:=ih (by omega)
     have h2:=(h (i+d+1) (by omega)).2.2 (by omega)
     rw[show i+d+1 - 1=i+d by omega] at h2
     rw[← Nat.add_assoc];omega
   have h1:=step (j - 1 - i) (by omega)
   have h2:=(h j hj).2.2 (by omega)
   rw[show i+(j - 1 - i)=j - 1 by omega] at h1
   simp only[List.getD_eq_getElem?_getD,List.getElem?_eq_getElem hi,List.getElem?_eq_getElem hj,Option.getD_some] at h1 h2
   omega
 ·rintro ⟨h1,h2⟩ i hi
  rw[List.pairwise_iff_getElem] at h2
  simp only[List.getD_eq_getElem?_getD,List.getElem?_eq_getElem hi,Option.getD_some]
  refine⟨(h1 _ (List.getElem_mem hi)).1,(h1 _ (List.getElem_mem hi)).2,fun h0=>?_⟩
  have:=h2 (i - 1) i (by omega) hi (by omega)
  rw[List.getElem?_eq_getElem (by omega)]
  exact this
theorem ok_pos {n:NfaD} (h:nfaOk n=true):0 < n.states.toNat:=by have:=(nfaOk_iff.1 h).1;omega
theorem there_lt {n:NfaD} (h:nfaOk n=true):∀ p∈thereL n,p.1 < n.states.toNat∧p.2 < n.states.toNat:=by
 intro p hp
 obtain⟨e,he,rfl⟩:=List.mem_map.1 hp
 have:=(edgeOk_iff.1 ((nfaOk_iff.1 h).2.1 e he)).1
 constructor<;>simp only<;>omega
theorem back_mem {n:NfaD} {s t:Nat}:(s,t)∈backL n↔(t,s)∈thereL n:=by
 unfold backL thereL
 simp only[List.mem_map,Prod.mk.injEq]
 exact⟨fun ⟨e,h,h1,h2⟩=>⟨e,h,h2,h1⟩,fun ⟨e,h,h1,h2⟩=>⟨e,h,h2,h1⟩⟩
theorem back_rch {n:NfaD} {s t:Nat}:Rch (backL n) s t↔Rch (thereL n) t s:=by
 constructor
 ·intro h
  induction h with
  | refl=>exact Rch.refl _
  | step _ hp ih=>exact ih.head (back_mem.1 hp)
 ·intro h
  induction h with
  | refl=>exact Rch.refl _
  | step _ hp ih=>exact ih.head (back_mem.2 hp)
theorem ahead_iff {n:NfaD} (h:nfaOk n=true) (s:Nat):(aheadS n).getD s false=true↔Rch (thereL n) 0 s:=by
 unfold aheadS
 rw[closeS_iff (by intro p hp;rw[markS_len];exact(there_lt h p hp).2)]
 constructor
 ·rintro ⟨q,h1,h2⟩
  obtain⟨h3,_⟩:=(markS_iff _ _ _).1 h1
  obtain rfl:=List.mem_singleton.1 h3
  exact h2
 ·intro h2
  exact⟨0,(markS_iff _ _ _).2 ⟨by simp,ok_pos h⟩,h2⟩
theorem behind_iff {n:NfaD} (h:nfaOk n=true) (s:Nat):(behindS n).getD s false=true↔∃ q∈n.accept,Rch (thereL n) s q.toNat:=by
 unfold behindS
 rw[closeS_iff (by intro p hp;rw[markS_len];exact(there_lt h (p.2,p.1) (back_mem.1 hp)).1)]
 have ha:=accB_iff.1 (nfaOk_iff.1 h).2.2
 constructor
 ·rintro ⟨q,h1,h2⟩
  obtain⟨h3,_⟩:=(markS_iff _ _ _).1 h1
  obtain⟨x,hx,rfl⟩:=List.mem_map.1 h3
  exact⟨x,hx,back_rch.1 h2⟩
 ·rintro ⟨q,h1,h2⟩
  have:=ha.1 q h1
  exact⟨q.toNat,(markS_iff _ _ _).2 ⟨List.mem_map.2 ⟨q,h1,rfl⟩,by omega⟩,back_rch.2 h2⟩
section
variable {a b : List Bool}
theorem numK_mono {s t:Nat} (h:s≤t):numK a b s≤numK a b t:=by
 induction t with
 | zero =>
  obtain rfl:s=0:=Nat.le_zero.1 h
  exact Nat.le_refl _
 | succ t ih =>
  rw[numK_succ]
  by_cases hs:s=t+1
  ·subst hs;rw[numK_succ];exact Nat.le_refl _
  ·have:=ih (by omega);omega
theorem numK_lt {s t:Nat} (h:s < t) (hs:keptS a b s=true):numK a b s < numK a b t:=by
 have h1:numK a b (s+1)=numK a b s+1:=by rw[numK_succ,if_pos hs]
 have h2:=numK_mono (a:=a) (b:=b) (show s+1≤t from h)
 omega
theorem numK_inj {s t:Nat} (hs:keptS a b s=true) (ht:keptS a b t=true) (h:numK a b s=numK a b t):s=t:=by
 rcases Nat.lt_trichotomy s t with h1 | h1 | h1
 ·have:=numK_lt h1 hs;omega
 ·exact h1
 ·have:=numK_lt h1 ht;omega
theorem kept_zero:keptS a b 0=true:=by simp[keptS]
theorem numK_zero:numK a b 0=0:=by simp[numK]
end
theorem good_iff {n:NfaD} (h:nfaOk n=true) {e:EdgeD}:goodE (aheadS n) (behindS n) e=true↔(Rch (thereL n) 0 e.fr.toNat∧∃ q∈n.accept,Rch (thereL n) e.fr.toNat q.toNat)∧Rch (thereL n) 0 e.to.toNat∧∃ q∈n.accept,Rch (thereL n) e.to.toNat q.toNat:=by
 unfold goodE
 simp only[Bool.and_eq_true,ahead_iff h,behind_iff h,and_assoc]
theorem kept_iff {n:NfaD} (h:nfaOk n=true) {s:Nat}:keptS (aheadS n) (behindS n) s=true↔s=0∨(Rch (thereL n) 0 s∧∃ q∈n.accept,Rch (thereL n) s q.toNat):=by
 unfold keptS
 simp only[Bool.or_eq_true,Bool.and_eq_true,ahead_iff h,behind_iff h,beq_iff_eq]
theorem trim_ok {n:NfaD} (h:nfaOk n=true):nfaOk (trimAB n (aheadS n) (behindS n))=true:=by
 obtain⟨⟨h1,h2,h3⟩,h4,h5⟩:=nfaOk_iff.1 h
 have hp:=ok_pos h
 rw[nfaOk_iff]
 refine⟨⟨?_,?_,?_⟩,?_,?_⟩
 ·have:=numK_lt (a:=aheadS n) (b:=behindS n) hp kept_zero
  show (1:Int)≤(numK _ _ _:Nat);omega
 ·have:=numK_le (aheadS n) (behindS n) n.states.toNat
  show ((numK _ _ _:Nat):Int)≤256;omega
 ·show ((n.edges.filter _).map _).length≤4096
  rw[List.length_map]
  exact Nat.le_trans (List.length_filter_le _ _) h3
 ·intro e he
  obtain⟨e0,he0,rfl⟩:=List.mem_map.1 he
  obtain⟨hm,hg⟩:=List.mem_filter.1 he0
  have hok:=edgeOk_iff.1 (h4 e0 hm)
  have hgd:=(good_iff h).1 hg
  have k1:=numK_lt (t:=n.states.toNat) (by omega) ((kept_iff h).2 (Or.inr hgd.1))
  have k2:=numK_lt (t:=n.states.toNat) (by omega) ((kept_iff h).2 (Or.inr hgd.2))
  refine edgeOk_iff.2 ⟨⟨?_,?_,?_,?_⟩,hok.2⟩<;>simp only[trimE,trimAB]<;>omega
 ·rw[accB_iff] at h5⊢
  refine⟨fun x hx=>?_,?_⟩
  ·obtain⟨q,hq,rfl⟩:=List.mem_map.1 hx
   obtain⟨hq,hk⟩:=List.mem_filter.1 hq
   have:=h5.1 q hq
   have k:=numK_lt (t:=n.states.toNat) (by omega) hk
   simp only[trimAB];omega
  ·show ((n.accept.filter _).map _).Pairwise _
   rw[List.pairwise_map]
   refine List.Pairwise.imp_of_mem ?_ (h5.2.filter _)
   intro x y hx hy hxy
   obtain⟨hx,hk⟩:=List.mem_filter.1 hx
   obtain⟨hy,_⟩:=List.mem_filter.1 hy
   have:=h5.1 x hx
   have:=h5.1 y hy
   have:=numK_lt (t:=y.toNat) (by omega) hk
   omega
theorem trim_rch {n:NfaD} (h:nfaOk n=true) {s t:Nat} (hr:Rch (thereL n) s t) (h0:Rch (thereL n) 0 s) (hq:∃ q∈n.accept,Rch (thereL n) t q.toNat):Rch (thereL (trimAB n (aheadS n) (behindS n))) (numK (aheadS n) (behindS n) s) (numK (aheadS n) (behindS n) t):=by
 induction hr with
 | refl=>exact Rch.refl _
 | @step t u hr hp ih =>
  obtain⟨q,hq1,hq2⟩:=hq
  have hq':∃ q∈n.accept,Rch (thereL n) t q.toNat:=⟨q,hq1,hq2.head hp⟩
  refine(ih hq').step ?_
  obtain⟨e,he,heq⟩:=List.mem_map.1 hp
  simp only[Prod.mk.injEq] at heq
  refine List.mem_map.2 ⟨trimE (aheadS n) (behindS n) e,List.mem_map.2 ⟨e,List.mem_filter.2 ⟨he,?_⟩,rfl⟩,?_⟩
  ·rw[good_iff h,heq.1,heq.2]
   exact⟨⟨h0.trans hr,hq'⟩,(h0.trans hr).step hp,q,hq1,hq2⟩
  ·simp only[trimE,heq.1,heq.2,Int.toNat_natCast]
theorem trim_use {n:NfaD} (h:nfaOk n=true) {s:Nat} (h0:Rch (thereL n) 0 s) (hq:∃ q∈n.accept,Rch (thereL n) s q.toNat):Rch (thereL (trimAB n (aheadS n) (behindS n))) 0 (numK (aheadS n) (behindS n) s)∧∃ q∈(trimAB n (aheadS n) (behindS n)).accept,Rch (thereL (trimAB n (aheadS n) (behindS n))) (numK (aheadS n) (behindS n) s) q.toNat:=by
 constructor
 ·have:=trim_rch h h0 (Rch.refl 0) hq
  rwa [numK_zero] at this
 ·obtain⟨q,hq1,hq2⟩:=hq
  refine⟨(numK (aheadS n) (behindS n) q.toNat:Nat),List.mem_map.2 ⟨q,List.mem_filter.2 ⟨hq1,(kept_iff h).2 (Or.inr ⟨h0.trans hq2,q,hq1,Rch.refl _⟩)⟩,rfl⟩,?_⟩
  rw[Int.toNat_natCast]
  exact trim_rch h hq2 h0 ⟨q,hq1,Rch.refl _⟩
end Go.Proofs.YthojpomoflhbcaaGreatDoor
