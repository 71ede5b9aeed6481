/- slices.Clone at expressions, ports, wires, registers and strings. -/
import Derived.Test.YtebneadheaefdaaGreatDoorFB
import Derived.Test.YtebneadheaefdaaGreatDoorDK
import Derived.Test.YtebneadheaefdaaGreatDoorFC
import Derived.Test.YtebneadheaefdaaGreatDoorEA
set_option linter.unusedSimpArgs false
set_option linter.unusedVariables false
set_option linter.unnecessarySimpa false
namespace Go.Proofs.YtebneadheaefdaaGreatDoor
open Go.RowKit
attribute [local go_sem ↓] Go.wp_at_zero Go.wp_at_succ
theorem belr {B:Nat} {a w:World} (h:Below B a w:=by repeat (first | with_reducible assumption | with_reducible exact Below.refl _ _ | with_reducible refine Below.drew ?_ | with_reducible refine below_drewN ?_ _ | ((with_reducible refine Below.alloc ?_ ?_ _);rotate_left;exact sz) | ((with_reducible refine Below.setCell ?_ ?_ _);rotate_left;exact sz))):Below B a w:=h
def CellsAt (w:World) (size n:Nat) (a:Option Addr):Prop:=n=0∨∃ (b off:Nat) (xs:List Value),a=some ⟨b,off,none⟩∧xs.length=n * size∧(∀ u∈xs,u.oneCell'=true)∧∀ k,k < n * size→xs[k]? = w.cell? ⟨b,off+k,none⟩
theorem cells_someC {w:World} {size n:Nat} {ad:Addr} (h:CellsAt w size n (some ad)):∃ xs:List Value,xs.length=n * size∧(∀ u∈xs,u.oneCell'=true)∧(∀ j u,xs[j]? = some u→w.cell? (ad.add j)=some u)∧(n=0∨∃ b off,ad=⟨b,off,none⟩∧∀ k,k < n * size→xs[k]? = w.cell? ⟨b,off+k,none⟩):=by
 rcases h with h | ⟨b,off,xs,ha,h1,h2,h3⟩
 ·subst h
  exact⟨[],by simp,(fun u hu=>by cases hu),(fun j u hu=>by simp at hu),Or.inl rfl⟩
 ·obtain rfl:=Option.some.inj ha
  refine⟨xs,h1,h2,fun j u hu=>?_,Or.inr ⟨b,off,rfl,h3⟩⟩
  have hj:j < n * size:=by rw[← h1];exact(List.getElem?_eq_some_iff.1 hu).1
  have hadd:(⟨b,off,none⟩:Addr).add j=⟨b,off+j,none⟩:=by unfold Addr.add;split<;>simp_all
  rw[hadd,← h3 j hj]
  exact hu
def Cloned (w w':World) (t:TypeId) (size n:Nat) (a a':Option Addr) (c':Nat):Prop:=n≤c'∧c'≤maxLen∧(n=0∨∃ b off b',a=some ⟨b,off,none⟩∧a'=some ⟨b',0,none⟩∧w.heap.size≤b'∧RowOf w' b' t size n c' (sameP w b off size))
theorem cloned_of {w w':World} {t:TypeId} {size n:Nat} {ad:Addr} {v:Value} {xs:List Value} (ho:w'.ownsRow w.heap.size t size v n xs) (hl:xs.length=n * size) (hx:n=0∨∃ b off,ad=⟨b,off,none⟩∧∀ k,k < n * size→xs[k]? = w.cell? ⟨b,off+k,none⟩) :
  ∃ a' c',v=.slice a' n c'∧Cloned w w' t size n (some ad) a' c':=by
 rcases hx with rfl | ⟨b,off,rfl,hk⟩
 ·rcases ho.2 with ⟨rfl,_⟩ | ⟨g,cap,cur,rfl,_,_,_,hm,_⟩
  ·exact⟨none,0,rfl,Nat.le_refl _,Nat.zero_le _,Or.inl rfl⟩
  ·exact⟨_,cap,rfl,Nat.zero_le _,hm,Or.inl rfl⟩
 ·rcases Nat.eq_zero_or_pos n with hn | hn
  ·subst hn
   rcases ho.2 with ⟨rfl,_⟩ | ⟨g,cap,cur,rfl,_,_,_,hm,_⟩
   ·exact⟨none,0,rfl,Nat.le_refl _,Nat.zero_le _,Or.inl rfl⟩
   ·exact⟨_,cap,rfl,Nat.zero_le _,hm,Or.inl rfl⟩
  ·obtain⟨b',cap,rfl,hb,hr⟩:=rowOf_owns ho hn
   have hm:cap≤maxLen:=by
    rcases ho.2 with ⟨h,_⟩ | ⟨g,cap',cur,h,_,_,_,hm,_⟩
    ·simp at h
    ·simp only[Value.slice.injEq] at h
     rw[h.2.2]
     exact hm
   refine⟨_,cap,rfl,hr.le,hm,Or.inr ⟨b,off,b',rfl,rfl,hb,hr.mono fun i f hi hf j hj=>?_⟩⟩
   rw[hf j hj,hk (i * size+j) (by
    have:(i+1) * size≤n * size:=Nat.mul_le_mul_right _ hi
    rw[Nat.add_mul,Nat.one_mul] at this
    omega),Nat.add_assoc]
theorem elemPt:Elem Tryz.prog 22 104 2:=Elem.of Tryz.underlying22 (by kernel_rfl) (z:=.agg #[.string .empty,.int .i64 0]) (bytes:=24) rfl (by decide) (by decide)
theorem elemWi:Elem Tryz.prog 23 74 6:=Elem.of Tryz.underlying23 (by kernel_rfl) (z:=.agg #[.string .empty,.int .i64 0,.int .i64 0,.int .i64 0,.string .empty,.slice none 0 0]) (bytes:=80) rfl (by decide) (by decide)
theorem elemRg:Elem Tryz.prog 24 76 7:=Elem.of Tryz.underlying24 (by kernel_rfl) (z:=.agg #[.string .empty,.int .i64 0,.int .i64 0,.int .i64 0,.int .i64 0,.string .empty,.slice none 0 0]) (bytes:=88) rfl (by decide) (by decide)
set_option maxHeartbeats 2000000 in
set_option maxRecDepth 100000 in
theorem cloneE_any (n:Nat) (a:Option Addr) (c:Nat) (w:World) (hn:n≤1073741824) (hc:CellsAt w 4 n a) :
  Calls Tryz.prog 216 #[.slice a n c] w fun e w'=>(∃ a' c',e=.returned (.slice a' n c')∧Cloned w w' 72 4 n a a' c')∧Below w.heap.size w w':=by
 have q1:∀ (w:World) (a:Option Addr) (n c n' c':Nat),(binOp .eql 70 (.slice a n c) (.slice none n' c')).run Tryz.prog w=.ok (.bool a.isNone) w:=fun w a n c n' c'=>Lib.run_eql_slice_nil w _ _ a n c n' c' Tryz.underlying70
 rcases a with _ | ad
 ·have h0:n=0:=by
   rcases hc with h | ⟨b,off,xs,h,_⟩
   ·exact h
   ·simp at h
  subst h0
  clear hc
  go_enter Tryz.func216, Tryz.ntmps216
  go_wp2_with fail
  go_ret
  exact⟨⟨none,0,rfl,Nat.le_refl _,Nat.zero_le _,Or.inl rfl⟩,bel⟩
 ·obtain⟨xs,hl,h1,hx,hc2⟩:=cells_someC hc
  have HX:=Lib.hid (⟨hl,h1,hx,hc2⟩:_∧_∧_∧_)
  clear hc hl h1 hx hc2
  obtain⟨ht,i,z,bytes,hi,hz,hsz,hby,hzs,h0,hb⟩:=elemE
  go_enter Tryz.func216, Tryz.ntmps216
  go_wp2_with (at_builtin;refine wpList_append_own _ rfl _ _ 70 rfl w.heap.size 72 i z 4 bytes ht hi hz hsz hby hzs h0 _ _ _ rfl (World.ownsRow_made w #[] 0 (Nat.le_refl _) (Nat.zero_le _) rfl) ad n c xs rfl HX.out.1 ?qc2 HX.out.2.1 ?qc4 ?qc5 ?qc6 ?_)
  case qc2=>exact fun j u hj=>Lib.cell?_alloc_some _ (HX.out.2.2.1 j u hj)
  case qc4=>unfold maxLen;omega
  case qc5 =>
   calc (0+n) * bytes≤1073741824 * 1024:=Nat.mul_le_mul (by omega) hb
    _≤_:=by decide
  case qc6=>simp
  intro v' w1 hown hgrow hnil
  have HO:Hid (w1.ownsRow w.heap.size 72 4 v' n xs):=Lib.hid (by simpa using hown)
  have HB:Hid (Below w.heap.size w w1):=((Below.refl _ w).alloc (Nat.le_refl _) _).grown hgrow (by simp) (by intro k hk;simp[Value.ownBlock] at hk;omega)
  clear hown hgrow hnil ht hi hz hsz hby hzs
  obtain⟨a',c',rfl,hcl⟩:=cloned_of HO.out HX.out.1 HX.out.2.2.2
  have HC:=Lib.hid hcl
  clear hcl
  go_wp2_with fail
  go_ret
  exact⟨⟨a',c',rfl,HC.out⟩,HB.out⟩
set_option maxHeartbeats 2000000 in
set_option maxRecDepth 100000 in
theorem cloneP_any (n:Nat) (a:Option Addr) (c:Nat) (w:World) (hn:n≤1073741824) (hc:CellsAt w 2 n a) :
  Calls Tryz.prog 121 #[.slice a n c] w fun e w'=>(∃ a' c',e=.returned (.slice a' n c')∧Cloned w w' 104 2 n a a' c')∧Below w.heap.size w w':=by
 have q1:∀ (w:World) (a:Option Addr) (n c n' c':Nat),(binOp .eql 22 (.slice a n c) (.slice none n' c')).run Tryz.prog w=.ok (.bool a.isNone) w:=fun w a n c n' c'=>Lib.run_eql_slice_nil w _ _ a n c n' c' Tryz.underlying22
 rcases a with _ | ad
 ·have h0:n=0:=by
   rcases hc with h | ⟨b,off,xs,h,_⟩
   ·exact h
   ·simp at h
  subst h0
  clear hc
  go_enter Tryz.func121, Tryz.ntmps121
  go_wp2_with fail
  go_ret
  exact⟨⟨none,0,rfl,Nat.le_refl _,Nat.zero_le _,Or.inl rfl⟩,bel⟩
 ·obtain⟨xs,hl,h1,hx,hc2⟩:=cells_someC hc
  have HX:=Lib.hid (⟨hl,h1,hx,hc2⟩:_∧_∧_∧_)
  clear hc hl h1 hx hc2
  obtain⟨ht,i,z,bytes,hi,hz,hsz,hby,hzs,h0,hb⟩:=elemPt
  go_enter Tryz.func121, Tryz.ntmps121
  go_wp2_with (at_builtin;refine wpList_append_own _ rfl _ _ 22 rfl w.heap.size 104 i z 2 bytes ht hi hz hsz hby hzs h0 _ _ _ rfl (World.ownsRow_made w #[] 0 (Nat.le_refl _) (Nat.zero_le _) rfl) ad n c xs rfl HX.out.1 ?qc2 HX.out.2.1 ?qc4 ?qc5 ?qc6 ?_)
  case qc2=>exact fun j u hj=>Lib.cell?_alloc_some _ (HX.out.2.2.1 j u hj)
  case qc4=>unfold maxLen;omega
  case qc5 =>
   calc (0+n) * bytes≤1073741824 * 1024:=Nat.mul_le_mul (by omega) hb
    _≤_:=by decide
  case qc6=>simp
  intro v' w1 hown hgrow hnil
  have HO:Hid (w1.ownsRow w.heap.size 104 2 v' n xs):=Lib.hid (by simpa using hown)
  have HB:Hid (Below w.heap.size w w1):=((Below.refl _ w).alloc (Nat.le_refl _) _).grown hgrow (by simp) (by intro k hk;simp[Value.ownBlock] at hk;omega)
  clear hown hgrow hnil ht hi hz hsz hby hzs
  obtain⟨a',c',rfl,hcl⟩:=cloned_of HO.out HX.out.1 HX.out.2.2.2
  have HC:=Lib.hid hcl
  clear hcl
  go_wp2_with fail
  go_ret
  exact⟨⟨a',c',rfl,HC.out⟩,HB.out⟩
set_option maxHeartbeats 2000000 in
set_option maxRecDepth 100000 in
theorem cloneW_any (n:Nat) (a:Option Addr) (c:Nat) (w:World) (hn:n≤1073741824) (hc:CellsAt w 6 n a) :
  Calls Tryz.prog 122 #[.slice a n c] w fun e w'=>(∃ a' c',e=.returned (.slice a' n c')∧Cloned w w' 74 6 n a a' c')∧Below w.heap.size w w':=by
 have q1:∀ (w:World) (a:Option Addr) (n c n' c':Nat),(binOp .eql 23 (.slice a n c) (.slice none n' c')).run Tryz.prog w=.ok (.bool a.isNone) w:=fun w a n c n' c'=>Lib.run_eql_slice_nil w _ _ a n c n' c' Tryz.underlying23
 rcases a with _ | ad
 ·have h0:n=0:=by
   rcases hc with h | ⟨b,off,xs,h,_⟩
   ·exact h
   ·simp at h
  subst h0
  clear hc
  go_enter Tryz.func122, Tryz.ntmps122
  go_wp2_with fail
  go_ret
  exact⟨⟨none,0,rfl,Nat.le_refl _,Nat.zero_le _,Or.inl rfl⟩,bel⟩
 ·obtain⟨xs,hl,h1,hx,hc2⟩:=cells_someC hc
  have HX:=Lib.hid (⟨hl,h1,hx,hc2⟩:_∧_∧_∧_)
  clear hc hl h1 hx hc2
  obtain⟨ht,i,z,bytes,hi,hz,hsz,hby,hzs,h0,hb⟩:=elemWi
  go_enter Tryz.func122, Tryz.ntmps122
  go_wp2_with (at_builtin;refine wpList_append_own _ rfl _ _ 23 rfl w.heap.size 74 i z 6 bytes ht hi hz hsz hby hzs h0 _ _ _ rfl (World.ownsRow_made w #[] 0 (Nat.le_refl _) (Nat.zero_le _) rfl) ad n c xs rfl HX.out.1 ?qc2 HX.out.2.1 ?qc4 ?qc5 ?qc6 ?_)
  case qc2=>exact fun j u hj=>Lib.cell?_alloc_some _ (HX.out.2.2.1 j u hj)
  case qc4=>unfold maxLen;omega
  case qc5 =>
   calc (0+n) * bytes≤1073741824 * 1024:=Nat.mul_le_mul (by omega) hb
    _≤_:=by decide
  case qc6=>simp
  intro v' w1 hown hgrow hnil
  have HO:Hid (w1.ownsRow w.heap.size 74 6 v' n xs):=Lib.hid (by simpa using hown)
  have HB:Hid (Below w.heap.size w w1):=((Below.refl _ w).alloc (Nat.le_refl _) _).grown hgrow (by simp) (by intro k hk;simp[Value.ownBlock] at hk;omega)
  clear hown hgrow hnil ht hi hz hsz hby hzs
  obtain⟨a',c',rfl,hcl⟩:=cloned_of HO.out HX.out.1 HX.out.2.2.2
  have HC:=Lib.hid hcl
  clear hcl
  go_wp2_with fail
  go_ret
  exact⟨⟨a',c',rfl,HC.out⟩,HB.out⟩
set_option maxHeartbeats 2000000 in
set_option maxRecDepth 100000 in
theorem cloneR_any (n:Nat) (a:Option Addr) (c:Nat) (w:World) (hn:n≤1073741824) (hc:CellsAt w 7 n a) :
  Calls Tryz.prog 123 #[.slice a n c] w fun e w'=>(∃ a' c',e=.returned (.slice a' n c')∧Cloned w w' 76 7 n a a' c')∧Below w.heap.size w w':=by
 have q1:∀ (w:World) (a:Option Addr) (n c n' c':Nat),(binOp .eql 24 (.slice a n c) (.slice none n' c')).run Tryz.prog w=.ok (.bool a.isNone) w:=fun w a n c n' c'=>Lib.run_eql_slice_nil w _ _ a n c n' c' Tryz.underlying24
 rcases a with _ | ad
 ·have h0:n=0:=by
   rcases hc with h | ⟨b,off,xs,h,_⟩
   ·exact h
   ·simp at h
  subst h0
  clear hc
  go_enter Tryz.func123, Tryz.ntmps123
  go_wp2_with fail
  go_ret
  exact⟨⟨none,0,rfl,Nat.le_refl _,Nat.zero_le _,Or.inl rfl⟩,bel⟩
 ·obtain⟨xs,hl,h1,hx,hc2⟩:=cells_someC hc
  have HX:=Lib.hid (⟨hl,h1,hx,hc2⟩:_∧_∧_∧_)
  clear hc hl h1 hx hc2
  obtain⟨ht,i,z,bytes,hi,hz,hsz,hby,hzs,h0,hb⟩:=elemRg
  go_enter Tryz.func123, Tryz.ntmps123
  go_wp2_with (at_builtin;refine wpList_append_own _ rfl _ _ 24 rfl w.heap.size 76 i z 7 bytes ht hi hz hsz hby hzs h0 _ _ _ rfl (World.ownsRow_made w #[] 0 (Nat.le_refl _) (Nat.zero_le _) rfl) ad n c xs rfl HX.out.1 ?qc2 HX.out.2.1 ?qc4 ?qc5 ?qc6 ?_)
  case qc2=>exact fun j u hj=>Lib.cell?_alloc_some _ (HX.out.2.2.1 j u hj)
  case qc4=>unfold maxLen;omega
  case qc5 =>
   calc (0+n) * bytes≤1073741824 * 1024:=Nat.mul_le_mul (by omega) hb
    _≤_:=by decide
  case qc6=>simp
  intro v' w1 hown hgrow hnil
  have HO:Hid (w1.ownsRow w.heap.size 76 7 v' n xs):=Lib.hid (by simpa using hown)
  have HB:Hid (Below w.heap.size w w1):=((Below.refl _ w).alloc (Nat.le_refl _) _).grown hgrow (by simp) (by intro k hk;simp[Value.ownBlock] at hk;omega)
  clear hown hgrow hnil ht hi hz hsz hby hzs
  obtain⟨a',c',rfl,hcl⟩:=cloned_of HO.out HX.out.1 HX.out.2.2.2
  have HC:=Lib.hid hcl
  clear hcl
  go_wp2_with fail
  go_ret
  exact⟨⟨a',c',rfl,HC.out⟩,HB.out⟩
set_option maxHeartbeats 2000000 in
set_option maxRecDepth 100000 in
theorem cloneS_any (n:Nat) (a:Option Addr) (c:Nat) (w:World) (hn:n≤1073741824) (hc:CellsAt w 1 n a) :
  Calls Tryz.prog 124 #[.slice a n c] w fun e w'=>(∃ a' c',e=.returned (.slice a' n c')∧Cloned w w' 9 1 n a a' c')∧Below w.heap.size w w':=by
 have q1:∀ (w:World) (a:Option Addr) (n c n' c':Nat),(binOp .eql 25 (.slice a n c) (.slice none n' c')).run Tryz.prog w=.ok (.bool a.isNone) w:=fun w a n c n' c'=>Lib.run_eql_slice_nil w _ _ a n c n' c' Tryz.underlying25
 rcases a with _ | ad
 ·have h0:n=0:=by
   rcases hc with h | ⟨b,off,xs,h,_⟩
   ·exact h
   ·simp at h
  subst h0
  clear hc
  go_enter Tryz.func124, Tryz.ntmps124
  go_wp2_with fail
  go_ret
  exact⟨⟨none,0,rfl,Nat.le_refl _,Nat.zero_le _,Or.inl rfl⟩,bel⟩
 ·obtain⟨xs,hl,h1,hx,hc2⟩:=cells_someC hc
  have HX:=Lib.hid (⟨hl,h1,hx,hc2⟩:_∧_∧_∧_)
  clear hc hl h1 hx hc2
  obtain⟨ht,i,z,bytes,hi,hz,hsz,hby,hzs,h0,hb⟩:=elemS
  go_enter Tryz.func124, Tryz.ntmps124
  go_wp2_with (at_builtin;refine wpList_append_own _ rfl _ _ 25 rfl w.heap.size 9 i z 1 bytes ht hi hz hsz hby hzs h0 _ _ _ rfl (World.ownsRow_made w #[] 0 (Nat.le_refl _) (Nat.zero_le _) rfl) ad n c xs rfl HX.out.1 ?qc2 HX.out.2.1 ?qc4 ?qc5 ?qc6 ?_)
  case qc2=>exact fun j u hj=>Lib.cell?_alloc_some _ (HX.out.2.2.1 j u hj)
  case qc4=>unfold maxLen;omega
  case qc5 =>
   calc (0+n) * bytes≤1073741824 * 1024:=Nat.mul_le_mul (by omega) hb
    _≤_:=by decide
  case qc6=>simp
  intro v' w1 hown hgrow hnil
  have HO:Hid (w1.ownsRow w.heap.size 9 1 v' n xs):=Lib.hid (by simpa using hown)
  have HB:Hid (Below w.heap.size w w1):=((Below.refl _ w).alloc (Nat.le_refl _) _).grown hgrow (by simp) (by intro k hk;simp[Value.ownBlock] at hk;omega)
  clear hown hgrow hnil ht hi hz hsz hby hzs
  obtain⟨a',c',rfl,hcl⟩:=cloned_of HO.out HX.out.1 HX.out.2.2.2
  have HC:=Lib.hid hcl
  clear hcl
  go_wp2_with fail
  go_ret
  exact⟨⟨a',c',rfl,HC.out⟩,HB.out⟩
end Go.Proofs.YtebneadheaefdaaGreatDoor
namespace Go.Proofs.YtebneadheaefdaaGreatDoor
open Go.RowKit
attribute [local go_sem ↓] Go.wp_at_zero Go.wp_at_succ
set_option maxHeartbeats 1000000 in
theorem exch_any (op:Int) (w:World):Calls Tryz.prog 260 #[.int .i64 op] w fun e w'=>e=.returned (.int .i64 (exchS op))∧w'=w:=by
 go_enter Tryz.func260, Tryz.ntmps260
 go_wp2_with fail
 all_goals go_ret
 all_goals refine⟨?_,rfl⟩
 all_goals simp_all [exchS]
 all_goals omega
end Go.Proofs.YtebneadheaefdaaGreatDoor
namespace Go.Proofs.YtebneadheaefdaaGreatDoor
open Go.RowKit
attribute [local go_sem ↓] Go.wp_at_zero Go.wp_at_succ
abbrev XA:=Ex × Option Addr × Nat
def exCells (x:XA):List Value:=[.int .i64 x.1.op,.int .i64 x.1.n,.string x.1.name,.slice x.2.1 x.1.args.length x.2.2]
def exBeside (p:Nat→Bool) (H:World) (x:XA):Prop:=ExIn (World.hide H p) x.1 x.2.1 x.2.2
theorem exBeside_keep (p:Nat→Bool):∀ (H H':World) (x:XA),HK H H'→exBeside p H x→exBeside p H' x:=fun _ _ _ h hx=>hx.keep (hk_hide h).cell
abbrev OwnE (w:World) (B:Nat) (p:Nat→Bool) (v:Value) (L:List XA):Prop:=OwnR w B 72 4 exCells (exBeside p) v L
theorem OwnE.exs {w:World} {B:Nat} {p:Nat→Bool} {v:Value} {L:List XA} (h:OwnE w B p v L) (hn:L.length≤1073741824) (hp:∀ k,v.ownBlock=some k→p k=false):∃ a cap,v=.slice a L.length cap∧ExsIn (World.hide w p) (L.map (·.1)) a cap:=by
 obtain⟨a,cap,rfl,hc,hb,hs⟩:=h.slice hn
 refine⟨a,cap,rfl,by simpa using hc,by simpa using hn,?_⟩
 rcases hs with h0 | ⟨b,rfl,hB,hv⟩
 ·exact Or.inl (by simpa using h0)
 ·refine Or.inr ⟨b,0,rfl,fun i hi=>?_⟩
  have hi':i < L.length:=by simpa using hi
  rw[Nat.zero_add]
  have hc:∀ j (hj:j < 4),(World.hide w p).cell? ⟨b,i * 4+j,none⟩=(exCells (L[i]'hi'))[j]?:=fun j hj=>by
   have h4:=h.cellsAt (fun _=>rfl) rfl hi' hj
   have h5:(exCells (L[i]'hi'))[j]? = some ((exCells (L[i]'hi'))[j]'hj):=List.getElem?_eq_getElem hj
   rw[h5] at h4⊢
   exact cell_hide.2 ⟨hp b hv,h4⟩
  have hm:=h.mem _ (List.getElem_mem hi')
  unfold exBeside at hm
  exact⟨(L[i]'hi').1,by simp[hi'],(ExAt_iff _ _ _ _).2 ⟨_,_,hc 0 (by omega),hc 1 (by omega),hc 2 (by omega),hc 3 (by omega),hm.keep (hk_hide (hk_unhide _ _)).cell⟩⟩
def CpyPost (w:World) (e:Ex) (r:Ending) (w':World):Prop:=(∃ a c,r=.returned (exVal e a c)∧ExIn (World.hide w' (old w.heap.size)) e a c)∧Below w.heap.size w w'
theorem results_cellC {fn:Func} {p:Tmp} {ty:TypeId} (h:fn.results=#[.cell p ty]) (tmps:Array Value) (P:Program) (w:World) :
  (results fn tmps).run P w=((asAddr (tmps.getD p undef)).run P w).andThen fun a w₁=>(loadVar ty a).run P w₁:=by
 simp only[results,h]
 simp[Sem.run_bind,Result.andThen]
theorem set4M {w:World} {b:Nat} {z0 z1 z2 z3 u0 u1 u2 u3:Value} {t:TypeId} (h:w.heap[b]? = some (.cells #[z0,z1,z2,z3] t (0,0))) :
  ((((w.setCell ⟨b,0,none⟩ u0).setCell ⟨b,1,none⟩ u1).setCell ⟨b,2,none⟩ u2).setCell ⟨b,3,none⟩ u3).heap[b]? = some (.cells #[u0,u1,u2,u3] t (0,0)):=by
 have h0:=heap_setCell_same _ b 0 _ t u0 h
 have h1:=heap_setCell_same _ b 1 _ t u1 h0
 have h2:=heap_setCell_same _ b 2 _ t u2 h1
 have h3:=heap_setCell_same _ b 3 _ t u3 h2
 rw[h3]
 rfl
theorem cpy_res (W:World) (tm:Array Value) (b:Nat) (m0 m1 m2 m3:Value) (hW:W.heap[b]? = some (.cells #[m0,m1,m2,m3] 72 (0,0))) (h0:tm.getD 2 undef=.pointer (some ⟨b,0,none⟩)) :
  (results Tryz.f69 tm).run Tryz.prog W=.ok (.agg #[m0,m1,m2,m3]) W:=by
 have hr : Tryz.f69.results=#[.cell 2 72]:=rfl
 have c0:=cell_of_blk hW 0
 have c1:=cell_of_blk hW 1
 have c2:=cell_of_blk hW 2
 have c3:=cell_of_blk hW 3
 simp at c0 c1 c2 c3
 rw[results_cellC hr,h0]
 simp[asAddr]
 go_simp
set_option maxHeartbeats 4000000 in
set_option maxRecDepth 100000 in
theorem copyM_any (e:Ex):∀ (ea:Option Addr) (ec:Nat) (w:World),ExIn w e ea ec→Calls Tryz.prog 69 #[exVal e ea ec] w (CpyPost w e):=by
 induction e using Ex.ind with
 | h e ih =>
  intro ea ec w hX
  obtain⟨op,n,s,args⟩:=e
  have hsz:=hX.1
  have hE:=hX.2
  simp only[Ex.name_mk,Ex.args_mk] at hsz hE ih
  have HIH:Hid (∀ k (hk:k < args.length),∀ a c W,ExIn W (args[k]'hk) a c→Calls Tryz.prog 69 #[exVal (args[k]'hk) a c] W fun r w'=>(∃ a' c',r=.returned (exVal (args[k]'hk) a' c')∧ExIn (World.hide w' (old W.heap.size)) (args[k]'hk) a' c')∧Below W.heap.size W w'):=fun k hk a c W h=>ih _ (List.getElem_mem hk) a c W h
  have hlen:=hE.2.1
  have HEl:Hid (args.length=0∨∃ b off,ea=some ⟨b,off,none⟩):=hE.addr
  have HE:=Lib.hid hE
  have HP:Hid (∀ a c W,ExsIn (World.hide W (old w.heap.size)) args a c→Below w.heap.size w W→CpyPost w (.mk op n s args) (.returned (.agg #[.int .i64 op,.int .i64 n,.string s,.slice a args.length c])) W):=fun a c W h1 h2=>⟨⟨a,c,rfl,hsz,h1⟩,h2⟩
  clear hX hE ih hsz
  simp only[exVal,Ex.op_mk,Ex.n_mk,Ex.name_mk,Ex.args_mk] at HIH⊢
  generalize CpyPost w (.mk op n s args)=Po at HP⊢
  go_enter Tryz.func69, Tryz.ntmps69
  go_wp2_with fail
  generalize hW2:(w.alloc (.cells #[.int .i64 op,.int .i64 n,.string s,.slice ea args.length ec] 72)).alloc (.cells #[.int .i64 0,.int .i64 0,.string ⟨#[]⟩,.slice none 0 0] 72)=W2
  have hz2:w.heap.size+2≤W2.heap.size:=by rw[← hW2];simp
  have hz2b:W2.heap.size≤w.heap.size+2:=by rw[← hW2];simp
  have HB2:Hid (Below w.heap.size w W2):=by show Below _ _ _;rw[← hW2];exact belr
  have HX2:Hid (W2.heap[w.heap.size]? = some (.cells #[.int .i64 op,.int .i64 n,.string s,.slice ea args.length ec] 72 (0,0))):=by
   show _=_;rw[← hW2]
   exact hx_old (hx_new rfl)
  have HR2:Hid (W2.heap[w.heap.size+1]? = some (.cells #[.int .i64 0,.int .i64 0,.string ⟨#[]⟩,.slice none 0 0] 72 (0,0))):=by
   show _=_;rw[← hW2]
   exact hx_new (by simp)
  clear hW2
  have b3:=cell_of_blk HX2.out 3
  simp at b3
  go_wp2_with fail
  clear b3
  go_loopw [9,3,5] (fun i v _ wr=>∃ (k:Nat) (L:List XA),i=.int .i64 k∧k≤args.length∧Hid (L.map (·.1)=args.take k)∧Hid (OwnE wr W2.heap.size (old W2.heap.size) v L)∧Hid (Below W2.heap.size W2 wr)) (fun i _ _ _=>args.length - (intOf i).toNat)
  case atStart=>exact⟨0,[],rfl,Nat.zero_le _,rfl,OwnR.nil _ _ _ _ _ _,Below.refl _ _⟩
  case round =>
   obtain⟨k,L,rfl,hk,HL,HO,HBr⟩:=hrel
   have HBw:=Lib.hid (HB2.out.trans (HBr.out.mono (by omega)))
   have hzr:=HBr.out.size
   by_cases hlt:k < args.length
   ·have hLk:L.length=k:=by have:=congrArg List.length HL.out;simp at this;omega
    subst hLk
    obtain⟨bE,oE,hEa⟩:=HEl.out.resolve_left (by omega)
    have HE':Hid (ExsIn w args (some ⟨bE,oE,none⟩) ec):=by show ExsIn _ _ _ _;rw[← hEa];exact HE.out
    obtain⟨xa,xc,g0,g1,g2,g3,hX⟩:=(HE'.out.keep (keeps_of_below HBw.out)).get rfl hlt
    have HXe:=Lib.hid hX
    have HC:=Lib.hid (fun W (hW:Below wr.heap.size wr W)=>HIH.out L.length hlt xa xc W (hX.keep (keeps_of_below hW)))
    subst hEa
    have HLx:Hid (∀ (a:Option Addr) (c:Nat),((L++[((args[L.length]'hlt),a,c)]:List XA).map (·.1))=args.take (L.length+1)):=fun a c=>by
     rw[List.map_append,HL.out,List.take_add_one,List.getElem?_eq_getElem hlt]
     rfl
    obtain⟨va,vc,rfl,hvc,hvo,_⟩:=HO.out.slice (by omega)
    have HVo:=Lib.hid hvo
    clear hX hvo HL
    generalize (args[L.length]'hlt)=y at g0 g1 g2 g3 HXe HC HLx
    go_wp2_with fail
    refine(HC.out _ belr).mono ?_
    rintro r w5 ⟨⟨a',c',rfl,hx5⟩,hb5⟩
    have HX5:=Lib.hid hx5
    have HB5:=Lib.hid hb5
    have hz5:=hb5.size
    simp only[World.size_alloc] at hz5
    have HW5:Hid (Below wr.heap.size wr w5):=((Below.refl wr.heap.size wr).alloc (Nat.le_refl _) _).trans (hb5.mono (by simp))
    have HO5:=Lib.hid (HO.out.below (exBeside_keep _) HW5.out)
    clear hx5 hb5 g0 g1 g2 g3
    go_wp2_with (at_builtin;go_must (refine own_appx elemE _ rfl (.tmp 13) (.tmp 16) rfl W2.heap.size _ L.length _ rfl HO5.out.own [.int .i64 y.op,.int .i64 y.n,.string y.name,.slice a' y.args.length c'] 1 _ _ rfl (by simp[Value.oneCell']) rfl rfl (by omega) (by omega) (by omega) ?_))
    intro g cap w7 ho hg hat
    have HO7:Hid (OwnE w7 W2.heap.size (old W2.heap.size) (.slice (some ⟨g,0,none⟩) (L.length+1) cap) (L++[(y,a',c')])):=by
     refine(HO5.out.below (exBeside_keep _) ((Below.refl _ w5).alloc (Nat.le_refl _) _)).add (exBeside_keep _) (x:=(y,a',c')) ?_ hg (hat.imp id (fun h=>by simp;omega)) ho
     unfold exBeside
     rw[hide_hide]
     refine HX5.out.keep (hk_below ((Below.refl _ w5).alloc (Nat.le_refl _) _) fun k _ hk=>?_).cell
     rw[old_true]
     rw[Bool.or_eq_true,ownP_true,old_true] at hk
     rw[World.size_alloc]
     rcases hk with hk | hk
     ·have:=(HVo.out k hk).2;omega
     ·omega
    have HB7:Hid (Below W2.heap.size W2 w7):=Below.grown (((HBr.out.trans (HW5.out.mono hzr))).alloc (by omega) _) hg (by simp;omega) (fun q hq=>(HVo.out q hq).1)
    have HLy:=Lib.hid (HLx.out a' c')
    clear ho hg hat HLx
    go_wp2_with fail
    go_roundw
    case rel=>exact⟨L.length+1,L++[(y,a',c')],by go_num,by omega,HLy.out,HO7.out,HB7.out⟩
    case measure=>(simp[intOf];try omega)
   ·obtain rfl:k=args.length:=by omega
    have hLn:L.length=args.length:=by have:=congrArg List.length HL.out;simp at this;omega
    obtain⟨va,vc,rfl,hes⟩:=HO.out.exs (p:=old W2.heap.size) (by omega) (fun k hk=>by
     have:=(HO.out.own.lt k hk).1
     cases h9:old W2.heap.size k with
     | false=>rfl
     | true=>have:=old_true.1 h9;omega)
    rw[HL.out,List.take_length] at hes
    have HS:=Lib.hid hes
    have hx:wr.heap[w.heap.size]? = some (.cells #[.int .i64 op,.int .i64 n,.string s,.slice ea args.length ec] 72 (0,0)):=(HBr.out.block _ (by omega)).trans HX2.out
    have hr:wr.heap[w.heap.size+1]? = some (.cells #[.int .i64 0,.int .i64 0,.string ⟨#[]⟩,.slice none 0 0] 72 (0,0)):=(HBr.out.block _ (by omega)).trans HR2.out
    have HR:=Lib.hid hr
    have HBe:=Lib.hid HBw.out
    have b0:=cell_of_blk hx 0
    have b1:=cell_of_blk hx 1
    have b2:=cell_of_blk hx 2
    have b3:=cell_of_blk hx 3
    have r0:=cell_of_blk hr 0
    have r1:=cell_of_blk hr 1
    have r2:=cell_of_blk hr 2
    have r3:=cell_of_blk hr 3
    simp at b0 b1 b2 b3 r0 r1 r2 r3
    have q3:wr.frozen? ⟨w.heap.size,3,none⟩=false:=by simp[World.frozen?,hx]
    have f0:wr.frozen? ⟨w.heap.size+1,0,none⟩=false:=by simp[World.frozen?,hr]
    have f1:wr.frozen? ⟨w.heap.size+1,1,none⟩=false:=by simp[World.frozen?,hr]
    have f2:wr.frozen? ⟨w.heap.size+1,2,none⟩=false:=by simp[World.frozen?,hr]
    have f3:wr.frozen? ⟨w.heap.size+1,3,none⟩=false:=by simp[World.frozen?,hr]
    clear hx hr hes
    have HRb:=Lib.hid HR.out
    rw[hLn]
    go_wp2_with fail
    have hrb:(wr.setCell ⟨w.heap.size,3,none⟩ (.slice va args.length vc)).heap[w.heap.size+1]? = some (.cells #[.int .i64 0,.int .i64 0,.string ⟨#[]⟩,.slice none 0 0] 72 (0,0)):=by
     rw[Below.heap_setCell _ ⟨w.heap.size,3,none⟩ _ (w.heap.size+1) (by show w.heap.size+1≠w.heap.size;omega)]
     exact HRb.out
    have o0:old W2.heap.size w.heap.size=true:=old_true.2 (by omega)
    have o1:old W2.heap.size (w.heap.size+1)=true:=old_true.2 (by omega)
    refine bodyPost_ret (v:=.agg #[.int .i64 op,.int .i64 n,.string s,.slice va args.length vc]) (cpy_res _ _ (w.heap.size+1) _ _ _ _ (set4M hrb) rfl) rfl ?_
    refine HP.out va vc _ ?_ ?_
    ·exact HS.out.keep (((hk_store o0).trans ((hk_store o1).trans ((hk_store o1).trans ((hk_store o1).trans (hk_store o1))))).trans (hk_mono fun k hk=>old_true.2 (by have:=old_true.1 hk;omega))).cell
    ·exact((((HBe.out.setCell (Nat.le_refl _) _).setCell (by simp) _).setCell (by simp) _).setCell (by simp) _).setCell (by simp) _
end Go.Proofs.YtebneadheaefdaaGreatDoor
