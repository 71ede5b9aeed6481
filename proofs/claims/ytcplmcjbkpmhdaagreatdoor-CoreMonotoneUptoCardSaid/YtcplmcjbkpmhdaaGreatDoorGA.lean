/- slices.Grow and slices.Concat of numbers. -/
import Derived.Test.YtcplmcjbkpmhdaaGreatDoorKK
import Derived.Test.YtcplmcjbkpmhdaaGreatDoorSA
import Derived.Test.YtcplmcjbkpmhdaaGreatDoorSM
import Derived.Test.YtcplmcjbkpmhdaaGreatDoorSO
import Derived.Lib.SlicesCompact
import Derived.Test.YtcplmcjbkpmhdaaGreatDoorSD
set_option linter.unusedSimpArgs false
set_option linter.unusedVariables false
set_option linter.unnecessarySimpa false
namespace Go.Proofs.YtcplmcjbkpmhdaaGreatDoor
open Go.RowKit
theorem own_intsI {ops:Array Oper} {rest:List Oper} {o:Oper} {a:Act} {Q:Exit→Act→World→Prop} (w:World) (hgd:o.guard=none) (s x:Operand)
  (ho:o.op=.call { callee:=.builtin .append,args:=#[s,x],argTypes:=#[30, 30] })
  (base:Nat) (v:Value) (n:Nat) (xs:List Value) (hs:a.eval s=v) (hown:w.ownsRow base 3 1 v n xs)
  (l:List Int) (ad:Option Addr) (c:Nat) (w0:World) (hE:IntsIn w0 l ad c) (hk:∀ a v,w0.cell? a=some v→w.cell? a=some v) (hx:a.eval x=.slice ad l.length c) (hn:n+l.length≤4294967296) (hbase:base≤w.heap.size)
  (h:∀ v' w',w'.ownsRow base 3 1 v' (n+l.length) (xs++l.map (Value.int .i64))→w.grownBy w' v.ownBlock→wpList Tryz.prog ops Q rest (a.put o.dst v') w'):wpList Tryz.prog ops Q (o::rest) a w:=by
 rcases hE.2.2 with h0 | ⟨b,off,rfl,hc⟩
 ·obtain rfl:l=[]:=List.eq_nil_of_length_eq_zero h0
  cases ad with
  | none =>
   obtain⟨ht,i,z,bytes,hi,hz,hsz,hby,hzs,h0,hb⟩:=elemI
   refine Lib.wpList_append_run w hgd s x 30 30 ho v (.slice none 0 c) hs hx v w (run_append_none' w base 30 o.type 3 i 1 ht hi v n c xs hown) ?_
   exact h v w (by simpa using hown) (World.grownBy.refl _ _)
  | some ad =>
   obtain⟨ht,i,z,bytes,hi,hz,hsz,hby,hzs,h0,hb⟩:=elemI
   refine wpList_append_own w hgd s x 30 ho base 3 i z 1 bytes ht hi hz hsz hby hzs h0 v n xs hs hown ad 0 c [] hx rfl (fun j u hj=>by simp at hj) (fun u hu=>by cases hu) (by unfold maxLen;simp at hn;omega) ?_ hbase (fun v' w' h2 h3 _=>h v' w' h2 h3)
   calc (n+0) * bytes≤4294967296 * 1024:=Nat.mul_le_mul (by simp at hn;omega) hb
    _≤_:=by decide
 ·refine own_row elemI w hgd s x ho base v n xs hs hown (l.map (Value.int .i64)) b off l.length c (by rw[List.length_map,Nat.mul_one]) (fun j u hu=>?_) (fun u hu=>?_) hx hn hbase (fun v' w' h4 h5=>h v' w' h4 h5)
  ·rw[List.getElem?_map] at hu
   obtain⟨n0,hn0,rfl⟩:=Option.map_eq_some_iff.1 hu
   obtain⟨hj,rfl⟩:=List.getElem?_eq_some_iff.1 hn0
   obtain⟨n1,e1,e2⟩:=hc j hj
   rw[List.getElem?_eq_getElem hj] at e1
   obtain rfl:=Option.some.inj e1
   rw[Nat.mul_one] at e2
   exact hk _ _ e2
  ·obtain⟨n0,_,rfl⟩:=List.mem_map.1 hu
   rfl
def GrowPostI (w:World) (e:Ending) (w':World):Prop:=∃ v,e=.returned v∧w'.ownsRow w.heap.size 3 1 v 0 []∧Below w.heap.size w w'
set_option maxHeartbeats 2000000 in
theorem growI_any (n:Nat) (hn:n≤4294967296) (w:World):Calls Tryz.prog 215 #[.slice none 0 0,.int .i64 n] w fun e w'=>GrowPostI w e w':=by
 by_cases h0:n=0
 ·subst h0
  go_enter Tryz.func215, Tryz.ntmps215
  go_wp2_with fail
  go_ret
  exact⟨_,rfl,World.ownsRow_nil _ _ _ _,Below.refl _ _⟩
 ·obtain⟨i,h1,h2,h3,h4⟩:=info_parts (show (Tryz.prog.info? 3).map (fun i=>(i.zero,i.size,i.bytes))=some (some (.int .i64 0),1,8) from by kernel_rfl)
  have hpos:1≤n:=by omega
  have hge:=grownCap_ge w n 0 3
  have hle:=grownCap_le_maxLen w n 0 3 (by unfold maxLen;omega)
  have hrun:∀ ty,(Builtin.append_ #[30, 3] ty #[.slice none 0 0,.int .i64 n]).run Tryz.prog w=_:=fun ty=>Lib.run_append_nil_zeros (P:=Tryz.prog) w 30 3 ty 3 i _ .i64 .i64 Tryz.underlying30 Tryz.underlying3 h1 h2 n (by omega) (by omega) (by omega) (by rw[h4];omega)
  have HOwn:Hid ((w.drew.alloc (.cells (Builtin.zeroCells (Value.int .i64 0).cells n++Builtin.zeroCells (Value.int .i64 0).cells (grownCap w n 0 3 - n)) 3)).ownsRow w.heap.size 3 1 (.slice (some ⟨w.heap.size,0,none⟩) 0 (grownCap w n 0 3)) 0 []):=by
   refine World.ownsRow_made w.drew _ _ (Nat.le_refl _) hle ?_
   rw[Array.size_append,size_zeroCells,size_zeroCells]
   show n * 1+(grownCap w n 0 3 - n) * 1=_
   omega
  unfold maxLen at hle
  generalize grownCap w n 0 3=gc at hge hle hrun HOwn
  have Hrun:=Lib.hid hrun
  clear hrun h0 h1 h2 h3 h4
  go_enter Tryz.func215, Tryz.ntmps215
  go_wp2_with (at_builtin;refine Lib.wpList_append_run _ rfl _ _ _ _ rfl _ _ rfl rfl _ _ (Hrun.out _) ?_)
  go_ret
  exact⟨_,rfl,HOwn.out,bel⟩
def ConcPostI (w:World) (l:List Int) (e:Ending) (w':World):Prop:=(∃ v,e=.returned v∧w'.ownsRow w.heap.size 3 1 v l.length (l.map (Value.int .i64)))∧Below w.heap.size w w'
def ConcRelI (w:World) (l:List Int) (v:Value) (wr:World):Prop:=wr.ownsRow w.heap.size 3 1 v l.length (l.map (Value.int .i64))∧Below w.heap.size w wr
theorem ConcRelI.step {w wr w':World} {l l':List Int} {v v':Value} (hown:wr.ownsRow w.heap.size 3 1 v l.length (l.map (Value.int .i64))) (hb:Below w.heap.size w wr)
  (h1:w'.ownsRow w.heap.size 3 1 v' (l.length+l'.length) (l.map (Value.int .i64)++l'.map (Value.int .i64))) (h2:wr.grownBy w' v.ownBlock):ConcRelI w (l++l') v' w' :=
 ⟨by rw[List.length_append,List.map_append];exact h1,hb.grown h2 hb.size (fun k hk=>(hown.lt k hk).1)⟩
set_option maxRecDepth 100000 in
set_option maxHeartbeats 2000000 in
theorem concatIX_any (h s:List Int) (ah ao:Option Addr) (ch co bo:Nat) (w:World) (c0:w.cell? ⟨bo,0,none⟩=some (.slice ah h.length ch)) (c1:w.cell? ⟨bo,1,none⟩=some (.slice ao s.length co)) (hH:IntsIn w h ah ch) (hS:IntsIn w s ao co) (hln:(h++s).length≤1073741824) :
  Calls Tryz.prog 167 #[.slice (some ⟨bo,0,none⟩) 2 2] w fun e w'=>ConcPostI w (h++s) e w':=by
 have hlh:=hH.2.1
 have hls:=hS.2.1
 have C0:=Lib.hid c0
 have C1:=Lib.hid c1
 have HH:=Lib.hid hH
 have HS:=Lib.hid hS
 have HLn:=Lib.hid hln
 clear hH hS hln
 go_enter Tryz.func167, Tryz.ntmps167
 go_wp2_with fail
 go_loop [11,3,5] (fun i n _=>(i=.int .i64 0∧n=.int .i64 0)∨(i=.int .i64 1∧n=.int .i64 h.length)∨(i=.int .i64 2∧n=.int .i64 ((h.length+s.length:Nat):Int))) (fun i _ _=>2 - (intOf i).toNat)
 case atStart=>exact Or.inl ⟨rfl,rfl⟩
 case round =>
  rcases hrel with ⟨rfl,rfl⟩ | ⟨rfl,rfl⟩ | ⟨rfl,rfl⟩
  ·go_wp2_with fail
   go_round
   case rel=>exact Or.inr (Or.inl ⟨by go_num,by go_num⟩)
   case measure=>simp[intOf]
  ·go_wp2_with fail
   go_round
   case rel=>exact Or.inr (Or.inr ⟨by go_num,by go_num⟩)
   case measure=>simp[intOf]
  ·have HGr:=Lib.hid (growI_any (h.length+s.length) (by omega) w)
   clear c0 c1
   go_wp2_with fail
   refine HGr.out.mono ?_
   rintro e w1 ⟨v,rfl,hown,hb⟩
   have HR:Hid (ConcRelI w [] v w1):=⟨hown,hb⟩
   clear hown hb
   go_wp2_with fail
   go_loopw [27,6,8] (fun i v _ wr=>(i=.int .i64 0∧ConcRelI w [] v wr)∨(i=.int .i64 1∧ConcRelI w h v wr)∨(i=.int .i64 2∧ConcRelI w (h++s) v wr)) (fun i _ _ _=>2 - (intOf i).toNat)
   case atStart=>exact Or.inl ⟨rfl,HR.out⟩
   case round =>
    rcases hrel with ⟨rfl,hR⟩ | ⟨rfl,hR⟩ | ⟨rfl,hR⟩
    ·obtain⟨hown,hb⟩:=hR
     have c0:=(keeps_of_below hb) _ _ C0.out
     have hzs:=hb.size
     have HX:=Lib.hid hb
     have HO:=Lib.hid hown
     have HK:=Lib.hid (keeps_of_below hb)
     clear hb
     obtain⟨av,cv,hv,_⟩:=slice_of_own hown (by first | (simp;done) | omega)
     subst hv
     clear hown
     go_wp2_with (at_builtin;refine own_intsI _ rfl (.tmp 31) (.tmp 32) rfl w.heap.size _ _ _ rfl HO.out h ah ch w HH.out HK.out rfl (by first | (simp only[List.length_nil];omega) | omega) hzs ?_)
     intro v' w' hown' hgr
     have hS':Hid (ConcRelI w ([]++h) v' w'):=ConcRelI.step HO.out HX.out (by simpa using hown') hgr
     clear hown' hgr
     go_wp2_with fail
     go_roundw
     case rel=>exact Or.inr (Or.inl ⟨by go_num,hS'.out⟩)
     case measure=>simp[intOf]
    ·obtain⟨hown,hb⟩:=hR
     have c0:=(keeps_of_below hb) _ _ C1.out
     have hzs:=hb.size
     have HX:=Lib.hid hb
     have HO:=Lib.hid hown
     have HK:=Lib.hid (keeps_of_below hb)
     clear hb
     obtain⟨av,cv,hv,_⟩:=slice_of_own hown (by first | (simp;done) | omega)
     subst hv
     clear hown
     go_wp2_with (at_builtin;refine own_intsI _ rfl (.tmp 31) (.tmp 32) rfl w.heap.size _ _ _ rfl HO.out s ao co w HS.out HK.out rfl (by first | (simp only[List.length_nil];omega) | omega) hzs ?_)
     intro v' w' hown' hgr
     have hS':Hid (ConcRelI w (h++s) v' w'):=ConcRelI.step HO.out HX.out hown' hgr
     clear hown' hgr
     go_wp2_with fail
     go_roundw
     case rel=>exact Or.inr (Or.inr ⟨by go_num,hS'.out⟩)
     case measure=>simp[intOf]
    ·obtain⟨hown,hb⟩:=hR
     have HE:=Lib.hid (⟨hown,hb⟩:_∧_)
     clear hown hb
     go_wp2_with fail
     go_ret
     exact⟨⟨_,rfl,HE.out.1⟩,HE.out.2⟩
end Go.Proofs.YtcplmcjbkpmhdaaGreatDoor
namespace Go.Proofs.YtcplmcjbkpmhdaaGreatDoor
def idxF:Nat→List Bool→List Nat
 | _,[]=>[]
 | o,b::t=>(if b=true then [o] else [])++idxF (o+1) t
theorem idxF_append (a b:List Bool):∀ o,idxF o (a++b)=idxF o a++idxF (o+a.length) b:=by
 induction a with
 | nil=>intro o;simp[idxF]
 | cons x t ih =>
  intro o
  rw[List.cons_append,idxF,idxF,ih,List.append_assoc,List.length_cons]
  congr 3
  omega
theorem idxF_mem {s:List Bool}:∀ {o n:Nat},n∈idxF o s↔∃ j,s[j]? = some true∧n=o+j:=by
 induction s with
 | nil=>intro o n;simp[idxF]
 | cons b t ih =>
  intro o n
  rw[idxF,List.mem_append,ih]
  constructor
  ·rintro (h | ⟨j,hj,rfl⟩)
   ·cases b
    ·simp at h
    ·simp at h
     exact⟨0,rfl,h⟩
   ·exact⟨j+1,by simpa using hj,by omega⟩
  ·rintro ⟨j,hj,rfl⟩
   cases j with
   | zero =>
    left
    simp at hj
    simp[hj]
   | succ j=>exact Or.inr ⟨j,by simpa using hj,by omega⟩
theorem idxF_lt {s:List Bool} {o n:Nat} (h:n∈idxF o s):o≤n∧n < o+s.length:=by
 obtain⟨j,hj,rfl⟩:=idxF_mem.1 h
 have:=(List.getElem?_eq_some_iff.1 hj).1
 omega
theorem idxF_sorted {s:List Bool}:∀ {o:Nat},(idxF o s).Pairwise (· < ·):=by
 induction s with
 | nil=>intro o;exact List.Pairwise.nil
 | cons b t ih =>
  intro o
  rw[idxF,List.pairwise_append]
  refine⟨?_,ih,?_⟩
  ·cases b
   ·exact List.Pairwise.nil
   ·exact List.pairwise_singleton _ _
  ·intro x hx y hy
   have h1:=idxF_lt hy
   cases b
   ·simp at hx
   ·simp at hx
    omega
theorem idxF_len (s:List Bool):∀ o,(idxF o s).length≤s.length:=by
 induction s with
 | nil=>intro o;simp[idxF]
 | cons b t ih =>
  intro o
  have:=ih (o+1)
  rw[idxF,List.length_append,List.length_cons]
  cases b<;>simp<;>omega
theorem idxF_full (n:Nat):∀ o,idxF o (List.replicate n true)=List.range' o n:=by
 induction n with
 | zero=>intro o;rfl
 | succ n ih=>intro o;rw[List.replicate_succ,idxF,ih,List.range'_succ];rfl
theorem sorted_ext {a b:List Nat} (ha:a.Pairwise (· < ·)) (hb:b.Pairwise (· < ·)) (h:∀ n,n∈a↔n∈b):a=b:=by
 induction a generalizing b with
 | nil =>
  cases b with
  | nil=>rfl
  | cons y t=>exact absurd ((h y).2 (List.mem_cons_self ..)) (by simp)
 | cons x s ih =>
  cases b with
  | nil=>exact absurd ((h x).1 (List.mem_cons_self ..)) (by simp)
  | cons y t =>
   rw[List.pairwise_cons] at ha hb
   have hxy:x=y:=by
    have h1:=(h x).1 (List.mem_cons_self ..)
    have h2:=(h y).2 (List.mem_cons_self ..)
    rcases List.mem_cons.1 h1 with e | e
    ·exact e
    ·rcases List.mem_cons.1 h2 with e2 | e2
     ·exact e2.symm
     ·have:=hb.1 _ e
      have:=ha.1 _ e2
      omega
   subst hxy
   congr 1
   refine ih ha.2 hb.2 fun n=>?_
   constructor
   ·intro hn
    have:=ha.1 _ hn
    rcases List.mem_cons.1 ((h n).1 (List.mem_cons_of_mem _ hn)) with e | e
    ·omega
    ·exact e
   ·intro hn
    have:=hb.1 _ hn
    rcases List.mem_cons.1 ((h n).2 (List.mem_cons_of_mem _ hn)) with e | e
    ·omega
    ·exact e
def withinL (T:List Nat→Bool):Nat→List Nat→List Nat
 | 0,l=>l
 | k+1,l=>withinL T k (if T (l.eraseIdx k)=true then l.eraseIdx k else l)
def withinB (T:List Bool→Bool):Nat→List Bool→List Bool
 | 0,s=>s
 | k+1,s=>withinB T k (if s[k]? = some true then (if T (s.set k false)=true then s.set k false else s) else s)
theorem split_at {s:List Bool} {k:Nat} (hk:k < s.length):s=s.take k++(s[k]'hk)::s.drop (k+1):=by
 rw[List.getElem_cons_drop,List.take_append_drop]
theorem set_splitB {s:List Bool} {k:Nat} (hk:k < s.length) (v:Bool):s.set k v=s.take k++v::s.drop (k+1):=by
 rw[List.set_eq_take_append_cons_drop,if_pos hk]
theorem idx_split {s:List Bool} {k:Nat} (hk:k < s.length):idxF 0 s=idxF 0 (s.take k)++((if (s[k]'hk)=true then [k] else [])++idxF (k+1) (s.drop (k+1))):=by
 conv=>lhs;rw[split_at hk]
 rw[idxF_append,List.length_take,Nat.min_eq_left (Nat.le_of_lt hk),Nat.zero_add,idxF]
theorem idx_set {s:List Bool} {k:Nat} (hk:k < s.length):idxF 0 (s.set k false)=idxF 0 (s.take k)++idxF (k+1) (s.drop (k+1)):=by
 rw[set_splitB hk,idxF_append,List.length_take,Nat.min_eq_left (Nat.le_of_lt hk),Nat.zero_add,idxF]
 simp
theorem idx_erase {s:List Bool} {k:Nat} (hk:k < s.length) (ht:(s[k]'hk)=true):idxF 0 (s.set k false)=(idxF 0 s).eraseIdx (idxF 0 (s.take k)).length:=by
 rw[idx_set hk,idx_split hk,if_pos ht,List.eraseIdx_append_of_length_le (Nat.le_refl _),Nat.sub_self]
 rfl
theorem idx_take {s:List Bool} {k:Nat} (hk:k < s.length):(idxF 0 (s.take (k+1))).length=(idxF 0 (s.take k)).length+(if (s[k]'hk)=true then 1 else 0):=by
 rw[List.take_succ_eq_append_getElem hk,idxF_append,List.length_append]
 congr 1
 cases (s[k]'hk)<;>simp[idxF]
theorem within_eq (T:List Nat→Bool):∀ k s,k≤s.length→idxF 0 (withinB (fun s=>T (idxF 0 s)) k s)=withinL T (idxF 0 (s.take k)).length (idxF 0 s):=by
 intro k
 induction k with
 | zero=>intro s _;rfl
 | succ k ih =>
  intro s hk
  have hk:k < s.length:=hk
  rw[withinB,idx_take hk,List.getElem?_eq_getElem hk]
  cases hb:(s[k]'hk) with
  | false=>simpa using ih s (by omega)
  | true =>
   simp only[if_pos]
   rw[withinL,← idx_erase hk hb]
   split
   ·have h:=ih (s.set k false) (by rw[List.length_set];omega)
    rw[List.take_set_of_le (Nat.le_refl _)] at h
    exact h
   ·exact ih s (by omega)
theorem within_all (T:List Nat→Bool) (s:List Bool):idxF 0 (withinB (fun s=>T (idxF 0 s)) s.length s)=withinL T (idxF 0 s).length (idxF 0 s):=by
 have:=within_eq T s.length s (Nat.le_refl _)
 rwa [List.take_length] at this
theorem withinL_sub (T:List Nat→Bool):∀ k l,(withinL T k l).Sublist l:=by
 intro k
 induction k with
 | zero=>intro l;exact List.Sublist.refl _
 | succ k ih =>
  intro l
  rw[withinL]
  split
  ·exact(ih _).trans (List.eraseIdx_sublist ..)
  ·exact ih l
theorem withinL_con (T:List Nat→Bool):∀ k l,T l=true→T (withinL T k l)=true:=by
 intro k
 induction k with
 | zero=>intro l h;exact h
 | succ k ih =>
  intro l h
  rw[withinL]
  split
  ·next h1=>exact ih _ h1
  ·exact ih l h
theorem withinL_min (T:List Nat→Bool) (hm:∀ a b:List Nat,a.Sublist b→T a=true→T b=true):∀ k l,k≤l.length→(∀ j,k≤j→j < l.length→T (l.eraseIdx j)=false) →
  ∀ j,j < (withinL T k l).length→T ((withinL T k l).eraseIdx j)=false:=by
 intro k
 induction k with
 | zero=>intro l _ h j hj;exact h j (Nat.zero_le _) hj
 | succ k ih =>
  intro l hk h
  rw[withinL]
  have hk:k < l.length:=hk
  split
  ·next h1 =>
   have hl:(l.eraseIdx k).length=l.length - 1:=List.length_eraseIdx_of_lt hk
   refine ih _ (by omega) fun j hj hj2=>?_
   have h2:=h (j+1) (by omega) (by omega)
   cases e:T ((l.eraseIdx k).eraseIdx j) with
   | false=>rfl
   | true =>
    have h3:((l.eraseIdx k).eraseIdx j).Sublist (l.eraseIdx (j+1)):=by
     have:(l.eraseIdx k).eraseIdx j=(l.eraseIdx (j+1)).eraseIdx k:=by
      apply List.ext_getElem?
      intro i
      simp only[List.getElem?_eraseIdx]
      split<;>split<;>split<;>first | rfl | omega | (congr 1;omega) | (split<;>first | rfl | omega | (congr 1;omega))
     rw[this]
     exact List.eraseIdx_sublist ..
    rw[hm _ _ h3 e] at h2
    simp at h2
  ·next h1 =>
   refine ih l (by omega) fun j hj hj2=>?_
   by_cases e:j=k
   ·subst e
    simpa using h1
   ·exact h j (by omega) hj2
theorem withinL_minimal (T:List Nat→Bool) (hm:∀ a b:List Nat,a.Sublist b→T a=true→T b=true) (l:List Nat) {j:Nat} (hj:j < (withinL T l.length l).length):T ((withinL T l.length l).eraseIdx j)=false :=
 withinL_min T hm l.length l (Nat.le_refl _) (fun _ h1 h2=>by omega) j hj
def stepC (T:List Nat→Bool) (n most:Nat) (out:List (List Nat)) (x:Nat):List (List Nat) :=
 if out.length < most∧T ((List.range n).eraseIdx x)=true then
  (if withinL T ((List.range n).eraseIdx x).length ((List.range n).eraseIdx x)∈out then out else out++[withinL T ((List.range n).eraseIdx x).length ((List.range n).eraseIdx x)])
 else out
theorem stepC_full {T:List Nat→Bool} {n most:Nat} {out:List (List Nat)} {x:Nat} (h:most≤out.length):stepC T n most out x=out:=by
 unfold stepC
 rw[if_neg (by omega)]
theorem stepC_len {T:List Nat→Bool} {n most:Nat} {out:List (List Nat)} {x:Nat} (h:out.length≤most):(stepC T n most out x).length≤most∧out.length≤(stepC T n most out x).length:=by
 unfold stepC
 split
 ·split
  ·exact⟨h,Nat.le_refl _⟩
  ·rw[List.length_append,List.length_singleton]
   omega
 ·exact⟨h,Nat.le_refl _⟩
theorem stepC_pre {T:List Nat→Bool} {n most:Nat} {out:List (List Nat)} {x:Nat}:out <+: stepC T n most out x:=by
 unfold stepC
 split
 ·split
  ·exact List.prefix_refl _
  ·exact List.prefix_append ..
 ·exact List.prefix_refl _
def foldC (T:List Nat→Bool) (n most:Nat) (out:List (List Nat)) (l:List Nat):List (List Nat):=l.foldl (stepC T n most) out
theorem foldC_full {T:List Nat→Bool} {n most:Nat} {out:List (List Nat)} (h:most≤out.length):∀ l,foldC T n most out l=out:=by
 intro l
 induction l with
 | nil=>rfl
 | cons x t ih=>unfold foldC at ih⊢;rw[List.foldl_cons,stepC_full h,ih]
theorem foldC_len {T:List Nat→Bool} {n most:Nat}:∀ (l:List Nat) (out:List (List Nat)),out.length≤most→(foldC T n most out l).length≤most∧out.length≤(foldC T n most out l).length:=by
 intro l
 induction l with
 | nil=>intro out h;exact⟨h,Nat.le_refl _⟩
 | cons x t ih =>
  intro out h
  have h1:=stepC_len (T:=T) (n:=n) (x:=x) h
  have h2:=ih _ h1.1
  exact⟨h2.1,Nat.le_trans h1.2 h2.2⟩
theorem foldC_pre {T:List Nat→Bool} {n most:Nat}:∀ (l:List Nat) (out:List (List Nat)),out <+: foldC T n most out l:=by
 intro l
 induction l with
 | nil=>intro out;exact List.prefix_refl _
 | cons x t ih=>intro out;exact List.IsPrefix.trans stepC_pre (ih _)
theorem foldC_snoc {T:List Nat→Bool} {n most:Nat} (out:List (List Nat)) (l:List Nat) (x:Nat):foldC T n most out (l++[x])=stepC T n most (foldC T n most out l) x:=by
 unfold foldC
 rw[List.foldl_append]
 rfl
def outC (T:List Nat→Bool) (n most:Nat) (first:List Nat):Nat→List (List Nat)
 | 0=>[first]
 | i+1=>foldC T n most (outC T n most first i) ((outC T n most first i).getD i [])
theorem outC_len {T:List Nat→Bool} {n most:Nat} {first:List Nat} (hm:1≤most):∀ i,1≤(outC T n most first i).length∧(outC T n most first i).length≤most:=by
 intro i
 induction i with
 | zero=>exact⟨Nat.le_refl _,hm⟩
 | succ i ih =>
  have:=foldC_len (T:=T) (n:=n) ((outC T n most first i).getD i []) _ ih.2
  exact⟨Nat.le_trans ih.1 this.2,this.1⟩
theorem outC_stop {T:List Nat→Bool} {n most:Nat} {first:List Nat} {i:Nat} (h:(outC T n most first i).length≤i∨most≤(outC T n most first i).length):∀ k,outC T n most first (i+k)=outC T n most first i:=by
 intro k
 induction k with
 | zero=>rfl
 | succ k ih =>
  rw[show i+(k+1)=(i+k)+1 from rfl,outC,ih]
  rcases h with h | h
  ·rw[List.getD_eq_getElem?_getD,List.getElem?_eq_none (by omega)]
   rfl
  ·exact foldC_full h _
noncomputable def coresS (T:List Nat→Bool) (n most:Nat) (first:List Nat):List (List Nat):=outC T n most first most
theorem outC_end {T:List Nat→Bool} {n most:Nat} {first:List Nat} {i:Nat} (hi:i≤most) (h:(outC T n most first i).length≤i∨most≤(outC T n most first i).length):outC T n most first i=coresS T n most first:=by
 have:=outC_stop h (most - i)
 rw[show i+(most - i)=most by omega] at this
 exact this.symm
end Go.Proofs.YtcplmcjbkpmhdaaGreatDoor
namespace Go.Proofs.YtcplmcjbkpmhdaaGreatDoor
def pickL (p:ProbD) (l:List Nat):List Ex:=l.filterMap fun i=>p.hard[i]?
def chosL (p:ProbD) (l:List Nat):List Ex:=suppsE p++pickL p l
noncomputable def conT (p:ProbD) (l:List Nat):Bool:=!solvB p.vars (chosL p l)
theorem pickL_nil (p:ProbD):pickL p []=[]:=rfl
theorem pickL_append (p:ProbD) (a b:List Nat):pickL p (a++b)=pickL p a++pickL p b:=by unfold pickL;rw[List.filterMap_append]
theorem pickL_one {p:ProbD} {i:Nat} (h:i < p.hard.length):pickL p [i]=[p.hard[i]'h]:=by simp[pickL,h]
theorem pickL_len (p:ProbD) (l:List Nat):(pickL p l).length≤l.length:=List.length_filterMap_le ..
theorem pickL_mem {p:ProbD} {l:List Nat} {e:Ex}:e∈pickL p l↔∃ i,i∈l∧p.hard[i]? = some e:=by simp[pickL]
theorem solvErr_zero {p:ProbD} {l:List Ex} (hp:ProbOk p) (h:∀ e,e∈l→ExprOk p.vars e):solvErr p l=0:=by
 unfold solvErr
 rw[if_pos (pB_true hp),if_pos,if_pos]
 ·rw[List.all_eq_true]
  intro e he
  obtain⟨h1,h2,h3⟩:=(exprOk_iff _ _).1 (h e he)
  unfold knE
  rw[Bool.and_eq_true,decide_eq_true_eq]
  refine⟨h2,List.all_eq_true.2 fun s hs=>?_⟩
  obtain⟨j,hj,rfl⟩:=List.getElem_of_mem hs
  exact decide_eq_true (h3 j hj)
 ·rw[List.all_eq_true]
  intro e he
  simpa using ((exprOk_iff _ _).1 (h e he)).1
theorem chosL_ok {p:ProbD} (hp:ProbOk p) (l:List Nat):∀ e,e∈chosL p l→ExprOk p.vars e:=by
 intro e he
 rcases List.mem_append.1 he with h | h
 ·exact(supp_rok hp e h).1
 ·obtain⟨i,_,hi⟩:=pickL_mem.1 h
  obtain⟨hk,rfl⟩:=List.getElem?_eq_some_iff.1 hi
  exact hp.hard i hk
theorem chosL_solv {p:ProbD} (hp:ProbOk p) (l:List Nat):solvErr p (chosL p l)=0∧solvA p (chosL p l)=!conT p l:=by
 have h:=solvErr_zero hp (chosL_ok hp l)
 refine⟨h,?_⟩
 unfold solvA conT
 rw[if_pos h,Bool.not_not]
theorem allS_mem {vs:List VarD} {a b:List Ex} {A:List Int} (h:∀ e,e∈a→e∈b) (hb:allS vs b A=true):allS vs a A=true:=by
 unfold allS at hb⊢
 rw[List.all_eq_true] at hb⊢
 exact fun e he=>hb e (h e he)
theorem conT_mem {p:ProbD} {a b:List Nat} (h:∀ n,n∈a→n∈b) (ha:conT p a=true):conT p b=true:=by
 unfold conT at ha⊢
 rw[Bool.not_eq_true'] at ha⊢
 cases e:solvB p.vars (chosL p b) with
 | false=>rfl
 | true =>
  have h2:solvB p.vars (chosL p a)=true:=by
   unfold solvB at e⊢
   obtain⟨k,hk,h3⟩:=pB_iff.1 e
   refine pB_true ⟨k,hk,?_⟩
   unfold hitN at h3⊢
   refine allS_mem (fun e he=>?_) h3
   rcases List.mem_append.1 he with h4 | h4
   ·exact List.mem_append_left _ h4
   ·obtain⟨i,hi,h5⟩:=pickL_mem.1 h4
    exact List.mem_append_right _ (pickL_mem.2 ⟨i,h i hi,h5⟩)
  rw[ha] at h2
  simp at h2
theorem conT_sub {p:ProbD} (a b:List Nat) (h:a.Sublist b) (ha:conT p a=true):conT p b=true:=conT_mem (fun _ hn=>h.subset hn) ha
def inRange (n:Nat) (l:List Int):Bool:=l.all fun i=>decide (0≤i) && decide (i < (n:Int))
def selN (n:Nat) (l:List Int):List Nat:=(List.range n).filter fun i=>l.contains (i:Int)
theorem selN_mem {n:Nat} {l:List Int} {i:Nat}:i∈selN n l↔i < n∧(i:Int)∈l:=by simp[selN]
theorem selN_sorted (n:Nat) (l:List Int):(selN n l).Pairwise (· < ·):=List.Pairwise.filter _ List.pairwise_lt_range
def setTo (n:Nat) (l:List Int) (k:Nat):List Bool:=(l.take k).foldl (fun s i=>s.set i.toNat true) (List.replicate n false)
theorem setTo_zero (n:Nat) (l:List Int):setTo n l 0=List.replicate n false:=rfl
theorem setTo_succ {n:Nat} {l:List Int} {k:Nat} (h:k < l.length):setTo n l (k+1)=(setTo n l k).set (l[k]'h).toNat true:=by
 unfold setTo
 rw[List.take_succ_eq_append_getElem h,List.foldl_append]
 rfl
theorem setTo_len (n:Nat) (l:List Int):∀ k,k≤l.length→(setTo n l k).length=n:=by
 intro k
 induction k with
 | zero=>intro _;exact List.length_replicate
 | succ k ih=>intro h;rw[setTo_succ h,List.length_set,ih (by omega)]
theorem setTo_get {n:Nat} {l:List Int} (hr:inRange n l=true):∀ k,k≤l.length→∀ j:Nat,(setTo n l k)[j]? = some true↔(j:Int)∈l.take k:=by
 intro k
 induction k with
 | zero =>
  intro _ j
  rw[setTo_zero,List.getElem?_replicate]
  simp
 | succ k ih =>
  intro h j
  have h:k < l.length:=h
  have hk:=List.all_eq_true.1 hr _ (List.getElem_mem h)
  rw[Bool.and_eq_true,decide_eq_true_eq,decide_eq_true_eq] at hk
  rw[setTo_succ h,List.getElem?_set,List.take_succ_eq_append_getElem h,List.mem_append,setTo_len n l k (by omega)]
  split
  ·next e =>
   rw[if_pos (by omega)]
   simp
   right
   omega
  ·next e =>
   rw[ih (by omega) j]
   simp
   intro e2
   omega
theorem setTo_idx {n:Nat} {l:List Int} (hr:inRange n l=true):idxF 0 (setTo n l l.length)=selN n l:=by
 refine sorted_ext idxF_sorted (selN_sorted n l) fun i=>?_
 rw[idxF_mem,selN_mem]
 constructor
 ·rintro ⟨j,hj,rfl⟩
  have h:=(setTo_get hr l.length (Nat.le_refl _) j).1 hj
  rw[List.take_length] at h
  rw[Nat.zero_add]
  refine⟨?_,h⟩
  have:=(List.getElem?_eq_some_iff.1 hj).1
  rwa [setTo_len n l _ (Nat.le_refl _)] at this
 ·rintro ⟨_,h⟩
  exact⟨i,(setTo_get hr l.length (Nat.le_refl _) i).2 (by rwa [List.take_length]),(Nat.zero_add i).symm⟩
noncomputable def ctrV (p:ProbD) (l:List Int):Bool:=if pB (ProbOk p)=true then (if inRange p.hard.length l=true then conT p (selN p.hard.length l) else false) else false
noncomputable def ctrE (p:ProbD) (l:List Int):Int:=if pB (ProbOk p)=true then (if inRange p.hard.length l=true then 0 else 1) else 1
def allL (p:ProbD):List Nat:=List.range p.hard.length
noncomputable def coreW (p:ProbD) (l:List Nat):List Nat:=withinL (conT p) l.length l
noncomputable def coreL (p:ProbD):List Nat:=if pB (ProbOk p)=true then (if conT p (allL p)=true then coreW p (allL p) else []) else []
noncomputable def coreE (p:ProbD):Int:=if pB (ProbOk p)=true then (if conT p (allL p)=true then 0 else 13) else 1
noncomputable def corsL (p:ProbD) (most:Int):List (List Nat):=if pB (ProbOk p)=true∧1≤most∧most≤64 then (if conT p (allL p)=true then coresS (conT p) p.hard.length most.toNat (coreW p (allL p)) else []) else []
noncomputable def corsE (p:ProbD) (most:Int):Int:=if pB (ProbOk p)=true∧1≤most∧most≤64 then (if conT p (allL p)=true then 0 else 13) else 1
def AscN (n:Nat) (l:List Nat):Prop:=l.Pairwise (· < ·)∧∀ i,i∈l→i < n
theorem AscN.sub {n:Nat} {a b:List Nat} (h:AscN n b) (hs:a.Sublist b):AscN n a:=⟨h.1.sublist hs,fun i hi=>h.2 i (hs.subset hi)⟩
theorem asc_range (n:Nat):AscN n (List.range n):=⟨List.pairwise_lt_range,fun _=>List.mem_range.1⟩
theorem asc_len' {n:Nat}:∀ (l:List Nat) (o:Nat),l.Pairwise (· < ·)→(∀ i,i∈l→o≤i∧i < n)→l.length≤n - o:=by
 intro l
 induction l with
 | nil=>intro o _ _;exact Nat.zero_le _
 | cons x t ih =>
  intro o h h2
  rw[List.pairwise_cons] at h
  have h3:=h2 x (List.mem_cons_self ..)
  have h4:=ih (x+1) h.2 fun i hi=>⟨h.1 i hi,(h2 i (List.mem_cons_of_mem _ hi)).2⟩
  rw[List.length_cons]
  omega
theorem asc_len {n:Nat} {l:List Nat} (h:AscN n l):l.length≤n:=asc_len' l 0 h.1 fun i hi=>⟨Nat.zero_le _,h.2 i hi⟩
theorem coreW_asc {p:ProbD} {l:List Nat} {n:Nat} (h:AscN n l):AscN n (coreW p l):=h.sub (withinL_sub _ _ _)
theorem coreW_con {p:ProbD} {l:List Nat} (h:conT p l=true):conT p (coreW p l)=true:=withinL_con _ _ _ h
theorem coreW_min {p:ProbD} (l:List Nat) {j:Nat} (hj:j < (coreW p l).length):conT p ((coreW p l).eraseIdx j)=false:=withinL_minimal _ conT_sub l hj
end Go.Proofs.YtcplmcjbkpmhdaaGreatDoor
namespace Go.Proofs.YtcplmcjbkpmhdaaGreatDoor
theorem sorted_extI {a b:List Int} (ha:a.Pairwise (· < ·)) (hb:b.Pairwise (· < ·)) (h:∀ n,n∈a↔n∈b):a=b:=by
 induction a generalizing b with
 | nil =>
  cases b with
  | nil=>rfl
  | cons y t=>exact absurd ((h y).2 (List.mem_cons_self ..)) (by simp)
 | cons x s ih =>
  cases b with
  | nil=>exact absurd ((h x).1 (List.mem_cons_self ..)) (by simp)
  | cons y t =>
   rw[List.pairwise_cons] at ha hb
   have hxy:x=y:=by
    have h1:=(h x).1 (List.mem_cons_self ..)
    have h2:=(h y).2 (List.mem_cons_self ..)
    rcases List.mem_cons.1 h1 with e | e
    ·exact e
    ·rcases List.mem_cons.1 h2 with e2 | e2
     ·exact e2.symm
     ·have:=hb.1 _ e
      have:=ha.1 _ e2
      omega
   subst hxy
   congr 1
   refine ih ha.2 hb.2 fun n=>?_
   constructor
   ·intro hn
    have:=ha.1 _ hn
    rcases List.mem_cons.1 ((h n).1 (List.mem_cons_of_mem _ hn)) with e | e
    ·omega
    ·exact e
   ·intro hn
    have:=hb.1 _ hn
    rcases List.mem_cons.1 ((h n).2 (List.mem_cons_of_mem _ hn)) with e | e
    ·omega
    ·exact e
theorem getE_list {zs:List Int} {i:Nat} (h:i < zs.length):zs.toArray[i]! = zs[i]'h:=by simp[h]
theorem compact_mem {zs:List Int} {x:Int}:x∈Lib.compact zs↔∃ i,∃ h:i < zs.length,Lib.keeps zs.toArray i=true∧zs[i]'h=x:=by
 unfold Lib.compact Lib.compactUpTo
 rw[List.mem_map]
 constructor
 ·rintro ⟨i,hi,rfl⟩
  rw[List.mem_filter,List.mem_range] at hi
  exact⟨i,hi.1,hi.2,(getE_list hi.1).symm⟩
 ·rintro ⟨i,h,hk,rfl⟩
  exact⟨i,List.mem_filter.2 ⟨List.mem_range.2 h,hk⟩,getE_list h⟩
theorem compact_asc {zs:List Int} (hs:zs.Pairwise (·≤·)):(Lib.compact zs).Pairwise (· < ·)∧∀ x,x∈Lib.compact zs↔x∈zs:=by
 have hle:∀ i j (hi:i < zs.length) (hj:j < zs.length),i≤j→zs[i]'hi≤zs[j]'hj:=fun i j hi hj hij=>by
  by_cases e:i=j
  ·subst e;exact Int.le_refl _
  ·exact List.pairwise_iff_getElem.1 hs i j hi hj (by omega)
 constructor
 ·unfold Lib.compact Lib.compactUpTo
  rw[List.pairwise_map]
  refine List.Pairwise.imp_of_mem ?_ (List.Pairwise.filter _ (List.pairwise_lt_range (n:=zs.length)))
  intro i j hi hj hij
  rw[List.mem_filter,List.mem_range] at hi hj
  rw[getE_list hi.1,getE_list hj.1]
  have h1:=hle i (j - 1) hi.1 (by omega) (by omega)
  have h2:=hle (j - 1) j (by omega) hj.1 (by omega)
  have h3:zs[j]'hj.1≠zs[j - 1]'(by omega):=by
   have:=hj.2
   unfold Lib.keeps at this
   rw[getE_list hj.1,getE_list (i:=j - 1) (by omega)] at this
   simp at this
   rcases this with e | e
   ·omega
   ·exact e
  omega
 ·intro x
  rw[compact_mem]
  constructor
  ·rintro ⟨i,h,_,rfl⟩
   exact List.getElem_mem h
  ·intro hx
   have key:∀ n i (h:i < zs.length),i≤n→zs[i]'h=x→∃ i,∃ h:i < zs.length,Lib.keeps zs.toArray i=true∧zs[i]'h=x:=by
    intro n
    induction n with
    | zero =>
     intro i h hi e
     obtain rfl:i=0:=by omega
     exact⟨0,h,by simp[Lib.keeps],e⟩
    | succ n ih =>
     intro i h hi e
     by_cases hk:Lib.keeps zs.toArray i=true
     ·exact⟨i,h,hk,e⟩
     ·have h0:i≠0:=fun e0=>hk (by subst e0;simp[Lib.keeps])
      have h1:zs[i]'h=zs[i - 1]'(by omega):=by
       unfold Lib.keeps at hk
       rw[getE_list h,getE_list (i:=i - 1) (by omega)] at hk
       simp at hk
       exact hk.2
      exact ih (i - 1) (by omega) (by omega) (by rw[← h1];exact e)
   obtain⟨i,hi,e⟩:=List.getElem_of_mem hx
   exact key i i hi (Nat.le_refl _) e
theorem natZ_sorted {l:List Nat} (h:l.Pairwise (· < ·)):(l.map fun (n:Nat)=>(n:Int)).Pairwise (· < ·):=by
 rw[List.pairwise_map]
 exact h.imp fun {a b} h=>by omega
theorem compact_sel {n:Nat} {l zs:List Int} (hr:inRange n l=true) (hp:zs.Perm l) (hs:zs.Pairwise (·≤·)):Lib.compact zs=(selN n l).map fun (n:Nat)=>(n:Int):=by
 obtain⟨h1,h2⟩:=compact_asc hs
 refine sorted_extI h1 (natZ_sorted (selN_sorted n l)) fun x=>?_
 rw[h2,hp.mem_iff,List.mem_map]
 constructor
 ·intro hx
  have hk:=List.all_eq_true.1 hr _ hx
  rw[Bool.and_eq_true,decide_eq_true_eq,decide_eq_true_eq] at hk
  exact⟨x.toNat,selN_mem.2 ⟨by omega,by rwa [Int.toNat_of_nonneg hk.1]⟩,by omega⟩
 ·rintro ⟨i,hi,rfl⟩
  exact(selN_mem.1 hi).2
end Go.Proofs.YtcplmcjbkpmhdaaGreatDoor
namespace Go.Proofs.YtcplmcjbkpmhdaaGreatDoor
structure CoreGood (p:ProbD) (c:List Nat):Prop where
 asc:AscN p.hard.length c
 con:conT p c=true
 min:∀ j,j < c.length→conT p (c.eraseIdx j)=false
theorem good_unique {p:ProbD} {c o:List Nat} (hc:CoreGood p c) (ho:AscN p.hard.length o) (hoc:conT p o=true) (h:∀ x,x∈o→x∈c):o=c:=by
 refine sorted_ext ho.1 hc.asc.1 fun x=>⟨h x,fun hx=>?_⟩
 obtain⟨j,hj,rfl⟩:=List.getElem_of_mem hx
 by_cases hm:(c[j]'hj)∈o
 ·exact hm
 ·have h2:conT p (c.eraseIdx j)=true:=conT_mem (fun y hy=>by
   obtain⟨i,hi,e⟩:=List.getElem_of_mem (h y hy)
   refine List.mem_eraseIdx_iff_getElem.2 ⟨i,hi,fun e2=>hm ?_,e⟩
   subst e2
   rw[e]
   exact hy) hoc
  rw[hc.min j hj] at h2
  simp at h2
theorem coreW_good {p:ProbD} {l:List Nat} (hl:AscN p.hard.length l) (hc:conT p l=true):CoreGood p (coreW p l):=⟨coreW_asc hl,coreW_con hc,fun j hj=>coreW_min l hj⟩
def CoresGood (p:ProbD) (out:List (List Nat)):Prop:=(∀ c,c∈out→CoreGood p c)∧out.Nodup
theorem stepC_good {p:ProbD} {most:Nat} {out:List (List Nat)} (h:CoresGood p out) (x:Nat):CoresGood p (stepC (conT p) p.hard.length most out x):=by
 unfold stepC
 split
 ·next h1 =>
  split
  ·exact h
  ·next h2 =>
   refine⟨fun c hc=>?_,?_⟩
   ·rcases List.mem_append.1 hc with hc | hc
    ·exact h.1 c hc
    ·obtain rfl:=List.mem_singleton.1 hc
     exact coreW_good ((asc_range _).sub (List.eraseIdx_sublist ..)) h1.2
   ·rw[List.nodup_append]
    refine⟨h.2,List.nodup_cons.2 ⟨by simp,List.nodup_nil⟩,fun a ha b hb e=>?_⟩
    obtain rfl:=List.mem_singleton.1 hb
    subst e
    exact h2 ha
 ·exact h
theorem foldC_good {p:ProbD} {most:Nat}:∀ (l:List Nat) (out:List (List Nat)),CoresGood p out→CoresGood p (foldC (conT p) p.hard.length most out l):=by
 intro l
 induction l with
 | nil=>intro out h;exact h
 | cons x t ih=>intro out h;exact ih _ (stepC_good h x)
theorem outC_good {p:ProbD} {most:Nat} (h:conT p (allL p)=true):∀ i,CoresGood p (outC (conT p) p.hard.length most (coreW p (allL p)) i):=by
 intro i
 induction i with
 | zero=>exact⟨fun c hc=>by
   obtain rfl:=List.mem_singleton.1 hc
   exact coreW_good (asc_range _) h,List.nodup_cons.2 ⟨by simp,List.nodup_nil⟩⟩
 | succ i ih=>exact foldC_good _ _ ih
theorem cores_good {p:ProbD} {most:Nat} (h:conT p (allL p)=true):CoresGood p (coresS (conT p) p.hard.length most (coreW p (allL p))):=outC_good h most
theorem cores_apart {p:ProbD} {out:List (List Nat)} (h:CoresGood p out) {i k:Nat} (hi:i < out.length) (hk:k < out.length) (hne:i≠k):¬ ∀ x,x∈out[k]'hk→x∈out[i]'hi:=by
 intro hx
 have h1:=h.1 _ (List.getElem_mem hi)
 have h2:=h.1 _ (List.getElem_mem hk)
 have e:=good_unique h1 h2.asc h2.con hx
 exact hne ((List.getElem_inj h.2).1 e).symm
theorem cores_len {p:ProbD} {most:Nat} (hm:1≤most):1≤(coresS (conT p) p.hard.length most (coreW p (allL p))).length∧(coresS (conT p) p.hard.length most (coreW p (allL p))).length≤most:=outC_len hm most
end Go.Proofs.YtcplmcjbkpmhdaaGreatDoor
namespace Go.Proofs.YtcplmcjbkpmhdaaGreatDoor
theorem idxOf_range {n x:Nat} (h:x < n):Lib.idxOf (intsN (List.range n)) (x:Int)=x:=by
 have hl:(intsN (List.range n)).length=n:=by rw[intsN_len,List.length_range]
 have hg:∀ j,j < n→(intsN (List.range n)).getD j 0=(j:Int):=fun j hj=>by simp[intsN,List.getD_eq_getElem?_getD,hj]
 have:=Lib.idxOf_hit (intsN (List.range n)) n x (x:Int) h (by omega) (hg x h) (fun j hj=>by rw[hg j (by omega)];omega)
 rwa [List.take_of_length_le (by omega)] at this
theorem foldC_cut {T:List Nat→Bool} {n most:Nat} {out:List (List Nat)} {l:List Nat} {k:Nat} (h:most≤(foldC T n most out (l.take k)).length):foldC T n most out l=foldC T n most out (l.take k):=by
 conv=>lhs;rw[← List.take_append_drop k l]
 unfold foldC at h⊢
 rw[List.foldl_append]
 exact foldC_full h _
theorem foldC_take {T:List Nat→Bool} {n most:Nat} {out:List (List Nat)} {l:List Nat} {k:Nat} (h:k < l.length):foldC T n most out (l.take (k+1))=stepC T n most (foldC T n most out (l.take k)) (l[k]'h):=by
 rw[List.take_succ_eq_append_getElem h,foldC_snoc]
theorem idx_lack {n x:Nat} (h:x < n):idxF 0 ((List.replicate n true).set x false)=(List.range n).eraseIdx x:=by
 rw[idx_erase (s:=List.replicate n true) (k:=x) (by simpa using h) (by simp),List.take_replicate,idxF_full,idxF_full,List.length_range',Nat.min_eq_left (Nat.le_of_lt h),List.range_eq_range']
def OutOk (n most:Nat) (out:List (List Nat)):Prop:=out.length≤most∧∀ c,c∈out→AscN n c
theorem OutOk.step {T:List Nat→Bool} {n most:Nat} {out:List (List Nat)} (h:OutOk n most out) (x:Nat):OutOk n most (stepC T n most out x):=by
 refine⟨(stepC_len h.1).1,fun c hc=>?_⟩
 unfold stepC at hc
 split at hc
 ·split at hc
  ·exact h.2 c hc
  ·rcases List.mem_append.1 hc with hc | hc
   ·exact h.2 c hc
   ·obtain rfl:=List.mem_singleton.1 hc
    exact((asc_range n).sub (List.eraseIdx_sublist ..)).sub (withinL_sub _ _ _)
 ·exact h.2 c hc
theorem OutOk.fold {T:List Nat→Bool} {n most:Nat}:∀ (l:List Nat) {out:List (List Nat)},OutOk n most out→OutOk n most (foldC T n most out l):=by
 intro l
 induction l with
 | nil=>intro out h;exact h
 | cons x t ih=>intro out h;exact ih (h.step x)
theorem outC_ok {T:List Nat→Bool} {n most:Nat} {first:List Nat} (hm:1≤most) (hf:AscN n first):∀ i,OutOk n most (outC T n most first i):=by
 intro i
 induction i with
 | zero=>exact⟨hm,fun c hc=>by obtain rfl:=List.mem_singleton.1 hc;exact hf⟩
 | succ i ih=>exact OutOk.fold _ ih
theorem outC_succ {T:List Nat→Bool} {n most:Nat} {first:List Nat} {i:Nat} (h:i < (outC T n most first i).length):outC T n most first (i+1)=foldC T n most (outC T n most first i) ((outC T n most first i)[i]'h):=by
 rw[outC,List.getD_eq_getElem?_getD,List.getElem?_eq_getElem h]
 rfl
theorem stepC_no {T:List Nat→Bool} {n most:Nat} {out:List (List Nat)} {x:Nat} (h:T ((List.range n).eraseIdx x)=false):stepC T n most out x=out:=by
 unfold stepC
 rw[if_neg (by rw[h];simp)]
theorem stepC_old {T:List Nat→Bool} {n most:Nat} {out:List (List Nat)} {x:Nat} (h:withinL T ((List.range n).eraseIdx x).length ((List.range n).eraseIdx x)∈out):stepC T n most out x=out:=by
 unfold stepC
 rw[if_pos h]
 split<;>rfl
theorem stepC_new {T:List Nat→Bool} {n most:Nat} {out:List (List Nat)} {x:Nat} (hl:out.length < most) (ht:T ((List.range n).eraseIdx x)=true) (h:withinL T ((List.range n).eraseIdx x).length ((List.range n).eraseIdx x)∉out):stepC T n most out x=out++[withinL T ((List.range n).eraseIdx x).length ((List.range n).eraseIdx x)]:=by
 unfold stepC
 rw[if_pos ⟨hl,ht⟩,if_neg h]
theorem memZ {out:List (List Nat)} {c:List Nat}:((out.map intsN).any fun l=>l == intsN c)=decide (c∈out):=by
 rw[Bool.eq_iff_iff,List.any_eq_true,decide_eq_true_eq]
 have hinj:∀ a b:List Nat,intsN a=intsN b→a=b:=fun a b h=>by
  unfold intsN at h
  exact(List.map_inj_right fun a b h=>by omega).1 h
 constructor
 ·rintro ⟨l,hl,e⟩
  obtain⟨d,hd,rfl⟩:=List.mem_map.1 hl
  rw[← hinj d c (by simpa using e)]
  exact hd
 ·intro h
  exact⟨intsN c,List.mem_map.2 ⟨c,h,rfl⟩,by simp⟩
end Go.Proofs.YtcplmcjbkpmhdaaGreatDoor
namespace Go.Proofs.YtcplmcjbkpmhdaaGreatDoor
open Go.RowKit
attribute [local go_sem ↓] Go.wp_at_zero Go.wp_at_succ
theorem IntsIn.takeI {w:World} {l:List Int} {a:Option Addr} {cap:Nat} (h:IntsIn w l a cap) (k c:Nat) (hc:k≤c):IntsIn w (l.take k) a c:=by
 obtain⟨h1,h2,h3⟩:=h
 refine⟨by rw[List.length_take];omega,by rw[List.length_take];omega,?_⟩
 rcases h3 with h3 | ⟨b,off,rfl,h3⟩
 ·exact Or.inl (by rw[List.length_take];omega)
 ·refine Or.inr ⟨b,off,rfl,fun i hi=>?_⟩
  rw[List.length_take] at hi
  obtain⟨n,h4,h5⟩:=h3 i (by omega)
  exact⟨n,by rw[List.getElem?_take,if_pos (by omega)];exact h4,h5⟩
theorem IntsIn.dropI {w:World} {l:List Int} {b off cap:Nat} (h:IntsIn w l (some ⟨b,off,none⟩) cap) (k c:Nat) (hc:l.length - k≤c):IntsIn w (l.drop k) (some ⟨b,off+k,none⟩) c:=by
 obtain⟨h1,h2,h3⟩:=h
 refine⟨by rw[List.length_drop];omega,by rw[List.length_drop];omega,?_⟩
 rcases h3 with h3 | ⟨b',off',ha,h3⟩
 ·exact Or.inl (by rw[List.length_drop];omega)
 ·simp only[Option.some.injEq,Addr.mk.injEq,and_true] at ha
  obtain⟨rfl,rfl⟩:=ha
  refine Or.inr ⟨b,off+k,rfl,fun i hi=>?_⟩
  rw[List.length_drop] at hi
  obtain⟨n,h4,h5⟩:=h3 (k+i) (by omega)
  exact⟨n,by rw[List.getElem?_drop];exact h4,by rw[show off+k+i * 1=off+(k+i) * 1 from by omega];exact h5⟩
theorem Index_int (l:List Int) (a:Option Addr) (cap:Nat) (x:Int) (w:World) (hE:IntsIn w l a cap) :
  Calls Tryz.prog 122 #[.slice a l.length cap,.int .i64 x] w fun e w'=>e=.returned (.int .i64 (Lib.idxOf l x))∧Below w.heap.size w w':=by
 by_cases h0:l=[]
 ·subst h0
  exact(Tryz.slices_Index_int_empty a cap x w).mono fun e w' h=>⟨h.1,by rw[h.2];exact Below.refl _ _⟩
 ·obtain⟨b,off,rfl⟩:=(SliceIn.addr hE).resolve_left (by simpa using h0)
  have:=Tryz.slices_Index_int b off l.length cap l x w (Nat.le_refl _) (by have:=hE.2.1;omega) (fun j hj=>hE.get rfl hj)
  rw[List.take_of_length_le (Nat.le_refl _)] at this
  exact this.mono fun e w' h=>⟨h.1,by rw[h.2];exact Below.refl _ _⟩
theorem drewN_below (w:World) (q:Nat):Below w.heap.size w (w.drewN q):=⟨rfl,rfl,rfl,Nat.le_refl _,fun _ _=>rfl⟩
set_option maxHeartbeats 1000000 in
theorem equal_lens (a a':Option Addr) (n c m c':Nat) (w:World) (h:n≠m) :
  Calls Tryz.prog 125 #[.slice a n c,.slice a' m c'] w fun e w'=>e=.returned (.bool false)∧w'=w:=by
 have hne:((n:Int) != (m:Int))=true:=by simp;omega
 go_enter Tryz.func125, Tryz.ntmps125
 go_wp2_with fail
 first | exact⟨rfl,rfl⟩ | (go_ret;exact⟨rfl,rfl⟩)
theorem Equal_int (l m:List Int) (a a':Option Addr) (cap cap':Nat) (w:World) (hL:IntsIn w l a cap) (hM:IntsIn w m a' cap') :
  Calls Tryz.prog 125 #[.slice a l.length cap,.slice a' m.length cap'] w fun e w'=>e=.returned (.bool (l == m))∧Below w.heap.size w w':=by
 by_cases hlm:l.length=m.length
 ·by_cases h0:l=[]
  ·subst h0
   obtain rfl:m=[]:=List.eq_nil_of_length_eq_zero hlm.symm
   exact(Tryz.slices_Equal_int_empty a a' cap 0 cap' w (by omega)).mono fun e w' h=>⟨by rw[h.1];rfl,by rw[h.2];exact Below.refl _ _⟩
  ·obtain⟨b,off,rfl⟩:=(SliceIn.addr hL).resolve_left (by simpa using h0)
   obtain⟨b',off',rfl⟩:=(SliceIn.addr hM).resolve_left (by rw[← hlm];simpa using h0)
   have:=Tryz.slices_Equal_int b off l.length cap b' off' m.length cap' l m w (Nat.le_refl _) (Nat.le_refl _) (by have:=hL.2.1;omega) (by have:=hM.2.1;omega) (fun j hj=>hL.get rfl hj) (fun j hj=>hM.get rfl hj)
   rw[List.take_of_length_le (Nat.le_refl _),List.take_of_length_le (Nat.le_refl _)] at this
   exact this.mono fun e w' ⟨h1,q,h2⟩=>⟨h1,by rw[h2];exact drewN_below _ _⟩
 ·refine(equal_lens a a' l.length cap m.length cap' w hlm).mono fun e w' h=>⟨?_,by rw[h.2];exact Below.refl _ _⟩
  rw[h.1]
  have:(l == m)=false:=by
   rw[beq_eq_false_iff_ne]
   intro e
   exact hlm (by rw[e])
  rw[this]
end Go.Proofs.YtcplmcjbkpmhdaaGreatDoor
namespace Go.Proofs.YtcplmcjbkpmhdaaGreatDoor
open Go.RowKit
theorem elemBo:Elem Tryz.prog 89 4 1:=Elem.of Tryz.underlying89 (by kernel_rfl) (z:=.bool false) (bytes:=1) rfl (by decide) (by decide)
def BoolsIn (w:World) (l:List Bool) (a:Option Addr) (cap:Nat):Prop:=SliceIn 1 l.length a cap (fun i b o=>∃ n,l[i]? = some n∧w.cell? ⟨b,o,none⟩=some (.bool n))
theorem BoolsIn.keep {w w':World} (hk:∀ a v,w.cell? a=some v→w'.cell? a=some v) {l:List Bool} {a:Option Addr} {cap:Nat} (h:BoolsIn w l a cap):BoolsIn w' l a cap :=
 h.mono fun _ _ _ _ ⟨s,hs,hp⟩=>⟨s,hs,hk _ _ hp⟩
theorem BoolsIn.get {w:World} {l:List Bool} {a:Option Addr} {cap:Nat} (h:BoolsIn w l a cap) {b off:Nat} (ha:a=some ⟨b,off,none⟩) {i:Nat} (hi:i < l.length):w.cell? ⟨b,off+i,none⟩=some (.bool (l[i]'hi)):=by
 rcases h.2.2 with h | ⟨b',off',ha',hq⟩
 ·omega
 ·rw[ha] at ha'
  simp only[Option.some.injEq,Addr.mk.injEq,and_true] at ha'
  obtain⟨rfl,rfl⟩:=ha'
  obtain⟨e',he',hp⟩:=hq i hi
  rw[List.getElem?_eq_getElem hi] at he'
  obtain rfl:=Option.some.inj he'
  rw[Nat.mul_one] at hp
  exact hp
theorem bools_of_own {w:World} {base:Nat} {e:TypeId} {v:Value} {l:List Bool} (h:w.ownsRow base e 1 v l.length (l.map Value.bool)) (hn:l.length≤1073741824):∃ a cap,v=.slice a l.length cap∧BoolsIn w l a cap:=by
 obtain⟨a,cap,hv,hs⟩:=slice_of_own h hn
 refine⟨a,cap,hv,hs.mono fun i b o hi hq=>?_⟩
 have:=hq 0 (by omega)
 exact⟨l[i],List.getElem?_eq_getElem hi,by simpa [hi] using this⟩
end Go.Proofs.YtcplmcjbkpmhdaaGreatDoor
