/- slices.Insert of one element, at signals and at threads. -/
import Derived.Test.YtnfkbliokjjggaaGreatDoorH20
import Derived.Test.YtnfkbliokjjggaaGreatDoorH25
import Derived.Shelf.Spec.SlicesInsert
import Derived.Test.YtnfkbliokjjggaaGreatDoorH10
import Derived.Test.YtnfkbliokjjggaaGreatDoorH02
set_option maxHeartbeats 8000000
set_option maxRecDepth 100000
set_option linter.unusedSimpArgs false
set_option linter.unusedVariables false
set_option linter.unnecessarySimpa false
namespace Go.Proofs.YtnfkbliokjjggaaGreatDoor
open Go.RowKit
attribute [local go_sem ↓] Go.wp_at_zero Go.wp_at_succ
theorem zeQ:Elem Tryz.prog 63 134 2:=Elem.of Tryz.underlying63 (by kernel_rfl) (z:=.agg #[.int .i64 0,.slice none 0 0]) (bytes:=32) rfl (by decide) (by decide)
def yH {τ:Type} (E:Enc τ) (t:TypeId) (p:Nat->Bool) (B:Nat) (v:Value) (l:List τ) (w:World) (e:Ending) (w':World):Prop :=
 ∃v',e=.returned v'/\E.Own t p w' B v' l/\w.grownBy w' v.ownBlock/\(v'.ownBlock=v.ownBlock\/∃g,v'.ownBlock=some g/\w.heap.size<=g)
theorem zct {τ:Type} {E:Enc τ} {t:TypeId} {p:Nat->Bool} {w:World} {B g n cap i:Nat} {l:List τ} {xs:List Value} {cur:Array Value} {x:τ} {vs:List Value} (hs:E.sz=2)
 (hV:E.Vals (World.hide w (hid p (.slice (some ⟨g,0,none⟩) n cap))) l xs) (hn:l.length=n) (hB:B<=g) (hg:w.heap[g]? = some (.cells cur t (0,0))) (hc:n+1<=cap) (hm:cap<=maxLen) (hz:cur.size=cap*2) (hx:cur.toList.take (n*2)=xs) (hi:i<n)
 (hR:E.R (World.hide w (hid p (.slice (some ⟨g,0,none⟩) n cap))) x vs) :
 yH E t p B (.slice (some ⟨g,0,none⟩) n cap) (l.take i++x::l.drop i) w (.returned (.slice (some ⟨g,0,none⟩) (n+1) cap)) ((w.drew.setRow g (splice cur.toList ((i+1)*2) (xs.drop (i*2))).toArray).setRow g (splice (splice cur.toList ((i+1)*2) (xs.drop (i*2))) (i*2) vs).toArray):=by
 have hvl:vs.length=2:=by rw[E.len hR,hs]
 have hxl:xs.length=n*2:=by rw[hV.1,hn,hs]
 have hal:(xs.take (i*2)).length=i*2:=by rw[List.length_take];omega
 have hrow:splice (splice cur.toList ((i+1)*2) (xs.drop (i*2))) (i*2) vs=(xs.take (i*2)++(vs++xs.drop (i*2)))++(cur.toList.drop (n*2)).drop 2:=by have:=zb3 (xs.take (i*2)) (xs.drop (i*2)) (cur.toList.drop (n*2)) vs 2 hvl (by rw[List.length_drop,Array.length_toList,hz];omega);rw[hal,List.take_append_drop,←hx,List.take_append_drop,show i*2+2=(i+1)*2 by omega]at this;rw[←hx];exact this
 rw[hrow]
 have hg1:w.grownBy ((w.drew.setRow g (splice cur.toList ((i+1)*2) (xs.drop (i*2))).toArray).setRow g ((xs.take (i*2)++(vs++xs.drop (i*2)))++(cur.toList.drop (n*2)).drop 2).toArray) (some g) :=
  XA (XA (zdk w _) (YS _ _ _)) (YS _ _ _)
 refine⟨_,rfl,⟨xs.take (i*2)++(vs++xs.drop (i*2)),⟨?_,Or.inr ⟨g,cap,_,?_,hB,setRow_heap _ g _ _ t _ (setRow_heap _ g cur _ t _ hg),?_,hm,?_,?_⟩⟩,?_⟩,hg1,Or.inl rfl⟩
 ·rw[hs];simp;omega
 ·simp[hn];omega
 ·simp[hn];omega
 ·rw[hs];simp[hz];omega
 ·rw[hs,List.toList_toArray,List.take_append_of_le_length (by simp;omega),List.take_of_length_le (by simp;omega)]
 ·have h:=hV.ins (i:=i) (by omega) hR;rw[hs]at h;exact h.keep (yE hg1 (λk hk=>by obtain rfl:=Option.some.inj hk;exact ze.2 (Or.inr rfl)) λk _ hk=>by
   rcases ze.1 hk with hk|hk
   ·exact ze.2 (Or.inl hk)
   ·exact ze.2 (Or.inr hk))
theorem zcs {τ:Type} {E:Enc τ} {t:TypeId} {p:Nat->Bool} {w:World} {B g n cap i c2:Nat} {l:List τ} {xs R:List Value} {x:τ} {vs:List Value} (hs:E.sz=2)
 (hV:E.Vals (World.hide w (hid p (.slice (some ⟨g,0,none⟩) n cap))) l xs) (hn:l.length=n) (hB:B<=w.heap.size) (hgz:g<w.heap.size) (hc:n+1<=c2) (hm:c2<=maxLen) (hz:i*2+R.length=c2*2) (hi:i<n)
 (hR:E.R (World.hide w (hid p (.slice (some ⟨g,0,none⟩) n cap))) x vs) :
 yH E t p B (.slice (some ⟨g,0,none⟩) n cap) (l.take i++x::l.drop i) w (.returned (.slice (some ⟨w.heap.size,0,none⟩) (n+1) c2)) ((((w.drew.alloc (.cells (xs.take (i*2)++R).toArray t)).setRow w.heap.size (splice (xs.take (i*2)++R) (i*2) vs).toArray).drew).setRow w.heap.size (splice (splice (xs.take (i*2)++R) (i*2) vs) ((i+1)*2) (xs.drop (i*2))).toArray):=by
 have hvl:vs.length=2:=by rw[E.len hR,hs]
 have hxl:xs.length=n*2:=by rw[hV.1,hn,hs]
 have hal:(xs.take (i*2)).length=i*2:=by rw[List.length_take];omega
 have hbl:(xs.drop (i*2)).length=(n-i)*2:=by rw[List.length_drop];omega
 have hrow:splice (splice (xs.take (i*2)++R) (i*2) vs) ((i+1)*2) (xs.drop (i*2))=(xs.take (i*2)++(vs++xs.drop (i*2)))++R.drop (2+(xs.drop (i*2)).length):=by have:=zb2 (xs.take (i*2)) (xs.drop (i*2)) R vs 2 hvl (by rw[hbl];omega);rw[hal,show i*2+2=(i+1)*2 by omega]at this;exact this
 rw[hrow]
 have hb1:Below w.heap.size w ((((w.drew.alloc (.cells (xs.take (i*2)++R).toArray t)).setRow w.heap.size (splice (xs.take (i*2)++R) (i*2) vs).toArray).drew).setRow w.heap.size ((xs.take (i*2)++(vs++xs.drop (i*2)))++R.drop (2+(xs.drop (i*2)).length)).toArray) :=
  below_setRow (Below.drew (below_setRow ((Below.refl w.heap.size w).drew.alloc (Nat.le_refl _) _) (Nat.le_refl _) _)) (Nat.le_refl _) _
 refine⟨_,rfl,⟨xs.take (i*2)++(vs++xs.drop (i*2)),⟨?_,Or.inr ⟨w.heap.size,c2,_,?_,hB,setRow_heap _ _ _ _ t (0,0) (setRow_heap _ _ _ _ t (0,0) (zi w.drew _)),?_,hm,?_,?_⟩⟩,?_⟩,Yc (World.grownBy.refl _ _) hb1,Or.inr ⟨_,rfl,Nat.le_refl _⟩⟩
 ·rw[hs];simp;omega
 ·simp[hn];omega
 ·simp[hn];omega
 ·rw[hs];simp;omega
 ·rw[hs,List.toList_toArray,List.take_append_of_le_length (by simp;omega),List.take_of_length_le (by simp;omega)]
 ·have h:=hV.ins (i:=i) (by omega) hR;rw[hs]at h;exact h.keep (zg hb1 λk hk hq=>by
   rcases ze.1 hq with hq|hq
   ·exact ze.2 (Or.inl hq)
   ·have:=Option.some.inj hq;simp only at this;omega)
theorem Ym {P:Program} {t tn e:TypeId} {size:Nat} {kn:IntKind} (he:Elem P t e size) (htn:P.underlying tn=some (.int kn)) (w:World) (g cap i k:Nat) (olds:List Value) (hl:olds.length=i*size) (ho:∀j v,olds[j]? = some v->w.cell? ⟨g,j,none⟩=some v)
 (hk:0<k) (hg:cap<i+k) (hb:i+k<=1073741824):∃c2 R,i+k<=c2/\c2<=maxLen/\i*size+R.length=c2*size/\∀ty,(Builtin.append_ #[t,tn] ty #[.slice (some ⟨g,0,none⟩) i cap,.int .i64 (k:Int)]).run P w=.ok (.slice (some ⟨w.heap.size,0,none⟩) (i+k) c2) (w.drew.alloc (.cells (olds++R).toArray e)):=by
 obtain⟨ht,f,z,bytes,hi,hz,hsz,hby,hzs,h0,hbb⟩:=he;have hold:(Builtin.firstCells f.size i (.slice (some ⟨g,0,none⟩) i cap)).run P w.drew=.ok olds.toArray w.drew:=by
  rw[hsz];refine run_firstCells_some w.drew size i ⟨g,0,none⟩ i cap olds hl λj v hj=>?_;have:((⟨g,0,none⟩:Addr).add j)=⟨g,j,none⟩:=by unfold Addr.add;split<;>simp_all
  rw[this];exact ho j v hj
 have hfit:(i+k)*bytes<=140737488355328:=by
  calc (i+k)*bytes<=1073741824*1024:=Nat.mul_le_mul hb hbb
   _<=_:=by decide
 have hfit2:k*bytes<=281474976710656:=by
  calc k*bytes<=1073741824*1024:=Nat.mul_le_mul (by omega) hbb
   _<=_:=by decide
 have h:=λty=>Lib.run_append_grow_zeros w t tn ty e f z .i64 kn ht htn hi hz (some ⟨g,0,none⟩) i cap olds hold k hk (by omega) hg (by omega) (by rw[hby];exact hfit2) (by rw[hby];exact growslice_fits hg hfit);refine⟨grownCap w (i+k) cap e,(Builtin.zeroCells z.cells k++Builtin.zeroCells z.cells (grownCap w (i+k) cap e-(i+k))).toList,grownCap_ge _ _ _ _,grownCap_le_maxLen _ _ _ _ (by unfold maxLen;omega),?_,λty=>?_⟩
 ·have:=grownCap_ge w (i+k) cap e;simp only[Array.toList_append,List.length_append,Array.length_toList,Builtin.zeroCells,Array.size_map,Array.size_range,hzs];rw[←Nat.add_mul,←Nat.add_mul];congr 1;omega
 ·rw[h ty];congr 3;apply Array.ext';simp
theorem zaP (p:Nat->Bool) (B:Nat) (v:Value) (l:List _) (x:_) (vb vc:Nat) (vs:List Value) (w:World) (ho:sgE.Own 68 p w B v l) (hR:sgE.In (World.hide w (hid p v)) [x] (some ⟨vb,0,none⟩) vc) (hB:B<=w.heap.size) (hn:l.length<=100000000) :
 Calls Tryz.prog 136 #[v,.int .i64 l.length,.slice (some ⟨vb,0,none⟩) 1 vc] w (yH sgE 68 p B v (l++[x]) w):=by
 obtain⟨a,cap,hv,hin⟩:=ho.slice (by omega);have HK:Hid (∀v' w',sgE.Own 68 p w' B v' (l++[x])->w.grownBy w' v.ownBlock->(v'.ownBlock=v.ownBlock\/∃g,v'.ownBlock=some g/\w.heap.size<=g)->yH sgE 68 p B v (l++[x]) w (.returned v') w'):=λv' w' h1 h2 h3=>⟨v',rfl,h1,h2,h3⟩;generalize yH sgE 68 p B v (l++[x]) w=Po at HK⊢;have hcp:=hin.cap;have HO:=Lib.hid ho;have HR:=Lib.hid hR;have H1:Hid (∀W,(Instr.sliceAt 69 v (some (.int .i64 (l.length:Int))) none none).run Tryz.prog W=.ok (sliced a l.length l.length cap 2) W):=λW=>by
  have ht : Tryz.prog.underlying 69=some (.slice (Tryz.prog.elem 69)):=by kernel_rfl
  rw[hv,run_sliceAt_slice (h:=ht),run_slice_l (ht:=ht) (h0:=by omega) (h1:=by omega)];have hs:(Go.sizeOf (Tryz.prog.elem 69)).run Tryz.prog W=.ok 2 W:=by kernel_rfl
  rw[hs];simp[Result.andThen]
 clear ho hR hin;subst hv;go_enter Tryz.func136, Tryz.ntmps136;go_wp2_with (at_builtin;refine xF Xv _ rfl _ _ rfl p B _ rfl HO.out _ _ HR.out rfl (by simp;omega) hB (λv' w' h1 h2 h3=>?_);have HK2:=Lib.hid (HK.out v' w' h1 h2 h3);clear h1 h2 h3);all_goals exact HK2.out
theorem Q2 (p:Nat->Bool) (B g n cap i:Nat) (l:List _) (xs:List Value) (cur:Array Value) (x:_) (vb vc:Nat) (vs:List Value) (w:World)
 (hV:sgE.Vals (World.hide w (hid p (.slice (some ⟨g,0,none⟩) n cap))) l xs) (hl:l.length=n) (hB:B<=g) (hg:w.heap[g]? = some (.cells cur 68 (0,0))) (hc:n+1<=cap) (hm:cap<=maxLen) (hz:cur.size=cap*2) (hx:cur.toList.take (n*2)=xs) (hi:i<n)
 (hR:sgE.R (World.hide w (hid p (.slice (some ⟨g,0,none⟩) n cap))) x vs) (hvb:w.heap[vb]? = some (.cells vs.toArray 68 (0,0))) (hne:vb≠g) :
 Calls Tryz.prog 136 #[.slice (some ⟨g,0,none⟩) n cap,.int .i64 i,.slice (some ⟨vb,0,none⟩) 1 vc] w (yH sgE 68 p B (.slice (some ⟨g,0,none⟩) n cap) (l.take i++x::l.drop i) w):=by
 have HK:=Lib.hid (zct (E:=sgE) rfl hV hl hB hg hc hm hz hx hi hR);have hvl:vs.length=2:=sgE.len hR;have hxl:xs.length=n*2:=by rw[hV.1,hl];rfl
 have h1v:=sgE.one hR;have h1c:=hV.cells;have ht : Tryz.prog.underlying 69=some (.slice 68):=by kernel_rfl
 have hsz:(Tryz.prog.info? 68).map (·.size)=some 2:=by kernel_rfl
 have hso:∀w,(Go.sizeOf 68).run Tryz.prog w=.ok 2 w:=λw=>by kernel_rfl
 have HOV:Hid (∀lb cb,(callFunc 208 #[.slice (some ⟨vb,0,none⟩) 1 vc,.slice (some ⟨g,(i+1)*2,none⟩) lb cb]).run Tryz.prog w=.ok (.value (.bool false)) w):=λlb cb=>by
  rw[run_callFunc_extern Tryz.func208 (by kernel_rfl) (by kernel_rfl) (by kernel_rfl) (e:=Extern.SlicesOverlaps.overlaps #[69, 69] #[4]) (by kernel_rfl),
   Lib.run_overlaps_apart w 69 4 68 ht 2 hso ⟨vb,0,none⟩ ⟨g,(i+1)*2,none⟩ 1 vc lb cb hne 68 68 2 (cap*2) (by simp[World.shape?,hvb,hvl]) (by simp[World.shape?,hg,hz]) (by omega) (by simp[World.frozen?,hvb]) (by simp[World.frozen?,hvb])]
  rfl
 have hmin1:Nat.min (n+1-i) (n-i)=n-i:=by simp only[Nat.min_def];split<;>omega
 have hmin2:Nat.min 1 (n+1-i)=1:=by simp only[Nat.min_def];split<;>omega
 have hdl:(xs.drop (i*2)).length=(n-i)*2:=by rw[List.length_drop,hxl];omega
 have HC1:Hid (∀ty dc sc,(Builtin.copy_ #[69, 69] ty #[.slice (some ⟨g,(i+1)*2,none⟩) (n-i) dc,.slice (some ⟨g,i*2,none⟩) (n+1-i) sc]).run Tryz.prog w.drew=.ok (goInt (n-i:Nat)) (w.drew.setRow g (splice cur.toList ((i+1)*2) (xs.drop (i*2))).toArray)):=λty dc sc=>by
  have h:=yo (P:=Tryz.prog) w.drew 69 69 ty 68 2 g ((i+1)*2) (n-i) dc ⟨g,i*2,none⟩ (n+1-i) sc cur 68 (xs.drop (i*2)) (n-i) ht hsz hg hmin1 hdl (λj v hj=>by
   rw[List.getElem?_drop]at hj;have hj1:=(List.getElem?_eq_some_iff.1 hj).1;have hj2:cur[i*2+j]? = some v:=by rw[←hx,List.getElem?_take_of_lt (by omega)]at hj;simpa using hj
   rw[Addr.add_lit];show w.cell? _=_;rw[zb hg];exact hj2) (by rw[hdl,hz];omega) (λv hv=>h1c v (List.mem_of_mem_drop hv))
  rw[h];simp[splice]
 have HC2:Hid (∀ty dc,(Builtin.copy_ #[69, 69] ty #[.slice (some ⟨g,i*2,none⟩) (n+1-i) dc,.slice (some ⟨vb,0,none⟩) 1 vc]).run Tryz.prog (w.drew.setRow g (splice cur.toList ((i+1)*2) (xs.drop (i*2))).toArray)=.ok (goInt 1) ((w.drew.setRow g (splice cur.toList ((i+1)*2) (xs.drop (i*2))).toArray).setRow g (splice (splice cur.toList ((i+1)*2) (xs.drop (i*2))) (i*2) vs).toArray)):=λty dc=>by have h:=yo (P:=Tryz.prog) (w.drew.setRow g (splice cur.toList ((i+1)*2) (xs.drop (i*2))).toArray) 69 69 ty 68 2 g (i*2) (n+1-i) dc ⟨vb,0,none⟩ 1 vc _ 68 vs 1 ht hsz (setRow_heap _ g cur _ _ _ hg) hmin2 (by rw[hvl]) (λj v hj=>by rw[Addr.add_lit,zb (by rw[setRow_other _ _ _ _ hne];exact hvb)];simpa using hj) (by rw[hvl];simp[splice];omega) h1v;rw[h];simp[splice]
 generalize splice (splice cur.toList ((i+1)*2) (xs.drop (i*2))) (i*2) vs=row2 at HK HC2;generalize (w.drew.setRow g (splice cur.toList ((i+1)*2) (xs.drop (i*2))).toArray)=W1 at HK HC1 HC2;generalize yH sgE 68 p B (.slice (some ⟨g,0,none⟩) n cap) (l.take i++x::l.drop i) w=Po at HK⊢;clear hV hR hvb hg hz hx h1v h1c;have hw1:IntKind.i64.wrap ((i:Int)+1)=(i:Int)+1:=by unfold maxLen at hm;rw[IntKind.wrap_i64];omega
 have hw2:IntKind.i64.wrap ((n:Int)+1)=(n:Int)+1:=by unfold maxLen at hm;rw[IntKind.wrap_i64];omega
 have hz2:¬((i:Int)=(n:Int)):=by omega
 have hin:i<=n:=by omega
 have htn:((i:Int)+1).toNat=i+1:=by omega
 have htn2:((n:Int)+1).toNat=n+1:=by omega
 have hb1:(0:Int)<=(i:Int)+1:=by omega
 have hb2:¬(cap=i+1):=by omega
 have hb3:(i:Int)<=(n:Int)+1:=by omega
 have hb4:¬(cap=i):=by omega
 have hb5:¬((cap:Int)<(n:Int)+1):=by omega
 have mixed : Tryz.prog.follows .mixedOrders=true:=by kernel_rfl
 have hov:=HOV.out;have hcp1:=HC1.out;have hcp2:=HC2.out;go_enter Tryz.func136, Tryz.ntmps136;go_wp2_with (simp only[hov]);go_region_law_o (refine step_copy_runI rfl _ _ 69 69 rfl _ _ (by simp[Act.eval,Act.put]) (by simp[Act.eval,Act.put]) (hcp1 _ _ _) ?_);go_wp2_with (at_builtin;refine wpList_copy_runI _ rfl _ _ 69 69 rfl _ _ rfl rfl (hcp2 _ _) ?_);exact HK.out
theorem Q1 (p:Nat->Bool) (B g n cap i:Nat) (l:List _) (xs:List Value) (cur:Array Value) (x:_) (vb vc:Nat) (vs:List Value) (w:World)
 (hV:sgE.Vals (World.hide w (hid p (.slice (some ⟨g,0,none⟩) n cap))) l xs) (hl:l.length=n) (hB:B<=w.heap.size) (hg:w.heap[g]? = some (.cells cur 68 (0,0))) (hc:cap=n) (hn:n<=100000000) (hx:cur.toList.take (n*2)=xs) (hi:i<n)
 (hR:sgE.R (World.hide w (hid p (.slice (some ⟨g,0,none⟩) n cap))) x vs) (hvb:w.heap[vb]? = some (.cells vs.toArray 68 (0,0))) :
 Calls Tryz.prog 136 #[.slice (some ⟨g,0,none⟩) n cap,.int .i64 i,.slice (some ⟨vb,0,none⟩) 1 vc] w (yH sgE 68 p B (.slice (some ⟨g,0,none⟩) n cap) (l.take i++x::l.drop i) w):=by
 have hvl:vs.length=2:=sgE.len hR;have hxl:xs.length=n*2:=by rw[hV.1,hl];rfl
 have h1v:=sgE.one hR;have h1c:=hV.cells;have hgz:g<w.heap.size:=(Array.getElem?_eq_some_iff.1 hg).1;have hvz:vb<w.heap.size:=(Array.getElem?_eq_some_iff.1 hvb).1;have hcell:∀j v,xs[j]? = some v->w.cell? ⟨g,j,none⟩=some v:=λj v hj=>by
  have hj1:=(List.getElem?_eq_some_iff.1 hj).1;have hj2:cur[j]? = some v:=by rw[←hx,List.getElem?_take_of_lt (by omega)]at hj;simpa using hj
  rw[zb hg];exact hj2
 have ht : Tryz.prog.underlying 69=some (.slice 68):=by kernel_rfl
 have hsz:(Tryz.prog.info? 68).map (·.size)=some 2:=by kernel_rfl
 obtain⟨c2,R,hc2,hm2,hRl,hap⟩:=Ym (P:=Tryz.prog) Xv (tn:=3) (kn:=.i64) (by kernel_rfl) w g cap i (n+1-i) (xs.take (i*2)) (by rw[List.length_take];omega) (λj v hj=>by have hj1:=(List.getElem?_eq_some_iff.1 hj).1;rw[List.length_take]at hj1;rw[List.getElem?_take_of_lt (by omega)]at hj;exact hcell j v hj) (by omega) (by omega) (by omega);rw[show i+(n+1-i)=n+1 by omega]at hap hc2;have HK:=Lib.hid (zcs (E:=sgE) (t:=68) (c2:=c2) (R:=R) rfl hV hl hB hgz hc2 hm2 hRl hi hR);have hkk:(n:Int)+1-(i:Int)=((n+1-i:Nat):Int):=by omega
 have hal:(xs.take (i*2)).length=i*2:=by rw[List.length_take];omega
 have hmin1:Nat.min (n-i) (n-i)=n-i:=by simp only[Nat.min_def];split<;>omega
 have hmin2:Nat.min 1 (n+1-i)=1:=by simp only[Nat.min_def];split<;>omega
 have hdl:(xs.drop (i*2)).length=(n-i)*2:=by rw[List.length_drop,hxl];omega
 have HC1:Hid (∀ty dc,(Builtin.copy_ #[69, 69] ty #[.slice (some ⟨w.heap.size,i*2,none⟩) (n+1-i) dc,.slice (some ⟨vb,0,none⟩) 1 vc]).run Tryz.prog (w.drew.alloc (.cells (xs.take (i*2)++R).toArray 68))=.ok (goInt 1) ((w.drew.alloc (.cells (xs.take (i*2)++R).toArray 68)).setRow w.heap.size (splice (xs.take (i*2)++R) (i*2) vs).toArray)):=λty dc=>by have h:=yo (P:=Tryz.prog) (w.drew.alloc (.cells (xs.take (i*2)++R).toArray 68)) 69 69 ty 68 2 w.heap.size (i*2) (n+1-i) dc ⟨vb,0,none⟩ 1 vc _ 68 vs 1 ht hsz (zi w.drew _) hmin2 (by rw[hvl]) (λj v hj=>by rw[Addr.add_lit,zb (zl (show w.drew.heap[vb]? = _ from hvb))];simpa using hj) (by rw[hvl];simp;omega) h1v;rw[h];simp[splice]
 have HC2:Hid (∀ty dc sc,(Builtin.copy_ #[69, 69] ty #[.slice (some ⟨w.heap.size,(i+1)*2,none⟩) (n-i) dc,.slice (some ⟨g,i*2,none⟩) (n-i) sc]).run Tryz.prog (((w.drew.alloc (.cells (xs.take (i*2)++R).toArray 68)).setRow w.heap.size (splice (xs.take (i*2)++R) (i*2) vs).toArray).drew)=.ok (goInt (n-i:Nat)) ((((w.drew.alloc (.cells (xs.take (i*2)++R).toArray 68)).setRow w.heap.size (splice (xs.take (i*2)++R) (i*2) vs).toArray).drew).setRow w.heap.size (splice (splice (xs.take (i*2)++R) (i*2) vs) ((i+1)*2) (xs.drop (i*2))).toArray)):=λty dc sc=>by have h:=yo (P:=Tryz.prog) (((w.drew.alloc (.cells (xs.take (i*2)++R).toArray 68)).setRow w.heap.size (splice (xs.take (i*2)++R) (i*2) vs).toArray).drew) 69 69 ty 68 2 w.heap.size ((i+1)*2) (n-i) dc ⟨g,i*2,none⟩ (n-i) sc _ 68 (xs.drop (i*2)) (n-i) ht hsz (setRow_heap _ _ _ _ _ (0,0) (zi w.drew _)) hmin1 hdl (λj v hj=>by rw[List.getElem?_drop]at hj;rw[Addr.add_lit];show ((w.drew.alloc _).setRow w.heap.size _).cell? _=_;rw[zb (by rw[setRow_other _ _ _ _ (by omega:g≠w.heap.size)];exact zl (show w.drew.heap[g]? = _ from hg))];have:=hcell _ _ hj;rw[zb hg]at this;exact this) (by rw[hdl];simp[splice,hvl];omega) (λv hv=>h1c v (List.mem_of_mem_drop hv));rw[h];simp[splice]
 generalize splice (splice (xs.take (i*2)++R) (i*2) vs) ((i+1)*2) (xs.drop (i*2))=row2 at HK HC2;generalize hW1:w.drew.alloc (.cells (xs.take (i*2)++R).toArray 68)=W1 at HK HC1 HC2 hap;generalize hW2:W1.setRow w.heap.size (splice (xs.take (i*2)++R) (i*2) vs).toArray=W2 at HK HC1 HC2;generalize yH sgE 68 p B (.slice (some ⟨g,0,none⟩) n cap) (l.take i++x::l.drop i) w=Po at HK⊢;clear hV hR hvb hg hx h1v h1c hW1 hW2 hcell;subst hc;have hw1:IntKind.i64.wrap ((i:Int)+1)=(i:Int)+1:=by rw[IntKind.wrap_i64];omega
 have hw2:IntKind.i64.wrap ((cap:Int)+1)=(cap:Int)+1:=by rw[IntKind.wrap_i64];omega
 have hw3:IntKind.i64.wrap ((cap:Int)+1-(i:Int))=(cap:Int)+1-(i:Int):=by rw[IntKind.wrap_i64];omega
 have hz2:¬((i:Int)=(cap:Int)):=by omega
 have hin:i<=cap:=by omega
 have htn:((i:Int)+1).toNat=i+1:=by omega
 have hb1:(0:Int)<=(i:Int)+1:=by omega
 have hb2:¬(c2=i+1):=by omega
 have hb3:(i:Int)<=(cap:Int)+1:=by omega
 have hb4:¬(c2=i):=by omega
 have hb5:¬(cap=i):=by omega
 have hb6:((cap:Int)<(cap:Int)+1):=by omega
 have mixed : Tryz.prog.follows .mixedOrders=true:=by kernel_rfl
 have hcp1:=HC1.out;have hcp2:=HC2.out;go_enter Tryz.func136, Tryz.ntmps136;go_wp2_with (at_builtin;first|(refine Lib.wpList_append_run _ rfl _ _ _ _ rfl _ _ rfl rfl _ _ (hap _) ?_)|(refine wpList_copy_runI _ rfl _ _ 69 69 rfl _ _ rfl rfl (hcp1 _ _) ?_));go_region_law_o (refine step_copy_runI rfl _ _ 69 69 rfl _ _ (by simp[Act.eval,Act.put]) (by simp[Act.eval,Act.put]) (hcp2 _ _ _) ?_);go_wp2_with fail;exact HK.out
theorem zaO (p:Nat->Bool) (B i:Nat) (v:Value) (l:List _) (x:_) (vb vc:Nat) (vs:List Value) (w:World) (ho:sgE.Own 68 p w B v l) (hi:i<=l.length)
 (hR:sgE.R (World.hide w (hid p v)) x vs) (hvb:w.heap[vb]? = some (.cells vs.toArray 68 (0,0))) (hp:p vb=false) (hne:v.ownBlock≠some vb) (hvc:1<=vc) (hB:B<=w.heap.size) (hn:l.length<=100000000) :
 Calls Tryz.prog 136 #[v,.int .i64 i,.slice (some ⟨vb,0,none⟩) 1 vc] w (yH sgE 68 p B v (l.take i++x::l.drop i) w):=by
 by_cases h:i=l.length
 ·subst h;rw[List.take_of_length_le (Nat.le_refl _),List.drop_eq_nil_of_le (Nat.le_refl _)];refine zaP p B v l x vb vc vs w ho ((Enc.Vals.one hR).in (λj u hj=>?_) (by simp) (by simpa using hvc)) hB hn;rw[Nat.zero_add];refine zr.2 ⟨?_,?_⟩
  ·cases hq:hid p v vb with
   |false=>rfl
   |true=>exact absurd (ze.1 hq) (by simp[hp,hne])
  ·rw[zb hvb];simpa using hj
 ·obtain⟨xs,⟨h1,h2⟩,hV⟩:=ho;rcases h2 with ⟨rfl,h0⟩|⟨g,cap,cur,rfl,hBg,hg,hnc,hm,hz,hx⟩
  ·omega
  ·have hz':cur.size=cap*2:=hz;have hx':cur.toList.take (l.length*2)=xs:=hx;by_cases hc:l.length+1<=cap
   ·exact Q2 p B g l.length cap i l xs cur x vb vc vs w hV rfl hBg hg hc hm hz' hx' (by omega) hR hvb (λe=>hne (by rw[e];rfl))
   ·exact Q1 p B g l.length cap i l xs cur x vb vc vs w hV rfl hB hg (by omega) hn hx' (by omega) hR hvb
theorem zaR (p:Nat->Bool) (B:Nat) (v:Value) (l:List _) (x:_) (vb vc:Nat) (vs:List Value) (w:World) (ho:thE.Own 134 p w B v l) (hR:thE.In (World.hide w (hid p v)) [x] (some ⟨vb,0,none⟩) vc) (hB:B<=w.heap.size) (hn:l.length<=100000000) :
 Calls Tryz.prog 75 #[v,.int .i64 l.length,.slice (some ⟨vb,0,none⟩) 1 vc] w (yH thE 134 p B v (l++[x]) w):=by
 obtain⟨a,cap,hv,hin⟩:=ho.slice (by omega);have HK:Hid (∀v' w',thE.Own 134 p w' B v' (l++[x])->w.grownBy w' v.ownBlock->(v'.ownBlock=v.ownBlock\/∃g,v'.ownBlock=some g/\w.heap.size<=g)->yH thE 134 p B v (l++[x]) w (.returned v') w'):=λv' w' h1 h2 h3=>⟨v',rfl,h1,h2,h3⟩;generalize yH thE 134 p B v (l++[x]) w=Po at HK⊢;have hcp:=hin.cap;have HO:=Lib.hid ho;have HR:=Lib.hid hR;have H1:Hid (∀W,(Instr.sliceAt 63 v (some (.int .i64 (l.length:Int))) none none).run Tryz.prog W=.ok (sliced a l.length l.length cap 2) W):=λW=>by
  have ht : Tryz.prog.underlying 63=some (.slice (Tryz.prog.elem 63)):=by kernel_rfl
  rw[hv,run_sliceAt_slice (h:=ht),run_slice_l (ht:=ht) (h0:=by omega) (h1:=by omega)];have hs:(Go.sizeOf (Tryz.prog.elem 63)).run Tryz.prog W=.ok 2 W:=by kernel_rfl
  rw[hs];simp[Result.andThen]
 clear ho hR hin;subst hv;go_enter Tryz.func75, Tryz.ntmps75;go_wp2_with (at_builtin;refine xF zeQ _ rfl _ _ rfl p B _ rfl HO.out _ _ HR.out rfl (by simp;omega) hB (λv' w' h1 h2 h3=>?_);have HK2:=Lib.hid (HK.out v' w' h1 h2 h3);clear h1 h2 h3);all_goals exact HK2.out
theorem Q6 (p:Nat->Bool) (B g n cap i:Nat) (l:List _) (xs:List Value) (cur:Array Value) (x:_) (vb vc:Nat) (vs:List Value) (w:World)
 (hV:thE.Vals (World.hide w (hid p (.slice (some ⟨g,0,none⟩) n cap))) l xs) (hl:l.length=n) (hB:B<=g) (hg:w.heap[g]? = some (.cells cur 134 (0,0))) (hc:n+1<=cap) (hm:cap<=maxLen) (hz:cur.size=cap*2) (hx:cur.toList.take (n*2)=xs) (hi:i<n)
 (hR:thE.R (World.hide w (hid p (.slice (some ⟨g,0,none⟩) n cap))) x vs) (hvb:w.heap[vb]? = some (.cells vs.toArray 134 (0,0))) (hne:vb≠g) :
 Calls Tryz.prog 75 #[.slice (some ⟨g,0,none⟩) n cap,.int .i64 i,.slice (some ⟨vb,0,none⟩) 1 vc] w (yH thE 134 p B (.slice (some ⟨g,0,none⟩) n cap) (l.take i++x::l.drop i) w):=by
 have HK:=Lib.hid (zct (E:=thE) rfl hV hl hB hg hc hm hz hx hi hR);have hvl:vs.length=2:=thE.len hR;have hxl:xs.length=n*2:=by rw[hV.1,hl];rfl
 have h1v:=thE.one hR;have h1c:=hV.cells;have ht : Tryz.prog.underlying 63=some (.slice 134):=by kernel_rfl
 have hsz:(Tryz.prog.info? 134).map (·.size)=some 2:=by kernel_rfl
 have hso:∀w,(Go.sizeOf 134).run Tryz.prog w=.ok 2 w:=λw=>by kernel_rfl
 have HOV:Hid (∀lb cb,(callFunc 131 #[.slice (some ⟨vb,0,none⟩) 1 vc,.slice (some ⟨g,(i+1)*2,none⟩) lb cb]).run Tryz.prog w=.ok (.value (.bool false)) w):=λlb cb=>by
  rw[run_callFunc_extern Tryz.func131 (by kernel_rfl) (by kernel_rfl) (by kernel_rfl) (e:=Extern.SlicesOverlaps.overlaps #[63, 63] #[4]) (by kernel_rfl),
   Lib.run_overlaps_apart w 63 4 134 ht 2 hso ⟨vb,0,none⟩ ⟨g,(i+1)*2,none⟩ 1 vc lb cb hne 134 134 2 (cap*2) (by simp[World.shape?,hvb,hvl]) (by simp[World.shape?,hg,hz]) (by omega) (by simp[World.frozen?,hvb]) (by simp[World.frozen?,hvb])]
  rfl
 have hmin1:Nat.min (n+1-i) (n-i)=n-i:=by simp only[Nat.min_def];split<;>omega
 have hmin2:Nat.min 1 (n+1-i)=1:=by simp only[Nat.min_def];split<;>omega
 have hdl:(xs.drop (i*2)).length=(n-i)*2:=by rw[List.length_drop,hxl];omega
 have HC1:Hid (∀ty dc sc,(Builtin.copy_ #[63, 63] ty #[.slice (some ⟨g,(i+1)*2,none⟩) (n-i) dc,.slice (some ⟨g,i*2,none⟩) (n+1-i) sc]).run Tryz.prog w.drew=.ok (goInt (n-i:Nat)) (w.drew.setRow g (splice cur.toList ((i+1)*2) (xs.drop (i*2))).toArray)):=λty dc sc=>by
  have h:=yo (P:=Tryz.prog) w.drew 63 63 ty 134 2 g ((i+1)*2) (n-i) dc ⟨g,i*2,none⟩ (n+1-i) sc cur 134 (xs.drop (i*2)) (n-i) ht hsz hg hmin1 hdl (λj v hj=>by
   rw[List.getElem?_drop]at hj;have hj1:=(List.getElem?_eq_some_iff.1 hj).1;have hj2:cur[i*2+j]? = some v:=by rw[←hx,List.getElem?_take_of_lt (by omega)]at hj;simpa using hj
   rw[Addr.add_lit];show w.cell? _=_;rw[zb hg];exact hj2) (by rw[hdl,hz];omega) (λv hv=>h1c v (List.mem_of_mem_drop hv))
  rw[h];simp[splice]
 have HC2:Hid (∀ty dc,(Builtin.copy_ #[63, 63] ty #[.slice (some ⟨g,i*2,none⟩) (n+1-i) dc,.slice (some ⟨vb,0,none⟩) 1 vc]).run Tryz.prog (w.drew.setRow g (splice cur.toList ((i+1)*2) (xs.drop (i*2))).toArray)=.ok (goInt 1) ((w.drew.setRow g (splice cur.toList ((i+1)*2) (xs.drop (i*2))).toArray).setRow g (splice (splice cur.toList ((i+1)*2) (xs.drop (i*2))) (i*2) vs).toArray)):=λty dc=>by have h:=yo (P:=Tryz.prog) (w.drew.setRow g (splice cur.toList ((i+1)*2) (xs.drop (i*2))).toArray) 63 63 ty 134 2 g (i*2) (n+1-i) dc ⟨vb,0,none⟩ 1 vc _ 134 vs 1 ht hsz (setRow_heap _ g cur _ _ _ hg) hmin2 (by rw[hvl]) (λj v hj=>by rw[Addr.add_lit,zb (by rw[setRow_other _ _ _ _ hne];exact hvb)];simpa using hj) (by rw[hvl];simp[splice];omega) h1v;rw[h];simp[splice]
 generalize splice (splice cur.toList ((i+1)*2) (xs.drop (i*2))) (i*2) vs=row2 at HK HC2;generalize (w.drew.setRow g (splice cur.toList ((i+1)*2) (xs.drop (i*2))).toArray)=W1 at HK HC1 HC2;generalize yH thE 134 p B (.slice (some ⟨g,0,none⟩) n cap) (l.take i++x::l.drop i) w=Po at HK⊢;clear hV hR hvb hg hz hx h1v h1c;have hw1:IntKind.i64.wrap ((i:Int)+1)=(i:Int)+1:=by unfold maxLen at hm;rw[IntKind.wrap_i64];omega
 have hw2:IntKind.i64.wrap ((n:Int)+1)=(n:Int)+1:=by unfold maxLen at hm;rw[IntKind.wrap_i64];omega
 have hz2:¬((i:Int)=(n:Int)):=by omega
 have hin:i<=n:=by omega
 have htn:((i:Int)+1).toNat=i+1:=by omega
 have htn2:((n:Int)+1).toNat=n+1:=by omega
 have hb1:(0:Int)<=(i:Int)+1:=by omega
 have hb2:¬(cap=i+1):=by omega
 have hb3:(i:Int)<=(n:Int)+1:=by omega
 have hb4:¬(cap=i):=by omega
 have hb5:¬((cap:Int)<(n:Int)+1):=by omega
 have mixed : Tryz.prog.follows .mixedOrders=true:=by kernel_rfl
 have hov:=HOV.out;have hcp1:=HC1.out;have hcp2:=HC2.out;go_enter Tryz.func75, Tryz.ntmps75;go_wp2_with (simp only[hov]);go_region_law_o (refine step_copy_runI rfl _ _ 63 63 rfl _ _ (by simp[Act.eval,Act.put]) (by simp[Act.eval,Act.put]) (hcp1 _ _ _) ?_);go_wp2_with (at_builtin;refine wpList_copy_runI _ rfl _ _ 63 63 rfl _ _ rfl rfl (hcp2 _ _) ?_);exact HK.out
theorem Q5 (p:Nat->Bool) (B g n cap i:Nat) (l:List _) (xs:List Value) (cur:Array Value) (x:_) (vb vc:Nat) (vs:List Value) (w:World)
 (hV:thE.Vals (World.hide w (hid p (.slice (some ⟨g,0,none⟩) n cap))) l xs) (hl:l.length=n) (hB:B<=w.heap.size) (hg:w.heap[g]? = some (.cells cur 134 (0,0))) (hc:cap=n) (hn:n<=100000000) (hx:cur.toList.take (n*2)=xs) (hi:i<n)
 (hR:thE.R (World.hide w (hid p (.slice (some ⟨g,0,none⟩) n cap))) x vs) (hvb:w.heap[vb]? = some (.cells vs.toArray 134 (0,0))) :
 Calls Tryz.prog 75 #[.slice (some ⟨g,0,none⟩) n cap,.int .i64 i,.slice (some ⟨vb,0,none⟩) 1 vc] w (yH thE 134 p B (.slice (some ⟨g,0,none⟩) n cap) (l.take i++x::l.drop i) w):=by
 have hvl:vs.length=2:=thE.len hR;have hxl:xs.length=n*2:=by rw[hV.1,hl];rfl
 have h1v:=thE.one hR;have h1c:=hV.cells;have hgz:g<w.heap.size:=(Array.getElem?_eq_some_iff.1 hg).1;have hvz:vb<w.heap.size:=(Array.getElem?_eq_some_iff.1 hvb).1;have hcell:∀j v,xs[j]? = some v->w.cell? ⟨g,j,none⟩=some v:=λj v hj=>by
  have hj1:=(List.getElem?_eq_some_iff.1 hj).1;have hj2:cur[j]? = some v:=by rw[←hx,List.getElem?_take_of_lt (by omega)]at hj;simpa using hj
  rw[zb hg];exact hj2
 have ht : Tryz.prog.underlying 63=some (.slice 134):=by kernel_rfl
 have hsz:(Tryz.prog.info? 134).map (·.size)=some 2:=by kernel_rfl
 obtain⟨c2,R,hc2,hm2,hRl,hap⟩:=Ym (P:=Tryz.prog) zeQ (tn:=3) (kn:=.i64) (by kernel_rfl) w g cap i (n+1-i) (xs.take (i*2)) (by rw[List.length_take];omega) (λj v hj=>by have hj1:=(List.getElem?_eq_some_iff.1 hj).1;rw[List.length_take]at hj1;rw[List.getElem?_take_of_lt (by omega)]at hj;exact hcell j v hj) (by omega) (by omega) (by omega);rw[show i+(n+1-i)=n+1 by omega]at hap hc2;have HK:=Lib.hid (zcs (E:=thE) (t:=134) (c2:=c2) (R:=R) rfl hV hl hB hgz hc2 hm2 hRl hi hR);have hkk:(n:Int)+1-(i:Int)=((n+1-i:Nat):Int):=by omega
 have hal:(xs.take (i*2)).length=i*2:=by rw[List.length_take];omega
 have hmin1:Nat.min (n-i) (n-i)=n-i:=by simp only[Nat.min_def];split<;>omega
 have hmin2:Nat.min 1 (n+1-i)=1:=by simp only[Nat.min_def];split<;>omega
 have hdl:(xs.drop (i*2)).length=(n-i)*2:=by rw[List.length_drop,hxl];omega
 have HC1:Hid (∀ty dc,(Builtin.copy_ #[63, 63] ty #[.slice (some ⟨w.heap.size,i*2,none⟩) (n+1-i) dc,.slice (some ⟨vb,0,none⟩) 1 vc]).run Tryz.prog (w.drew.alloc (.cells (xs.take (i*2)++R).toArray 134))=.ok (goInt 1) ((w.drew.alloc (.cells (xs.take (i*2)++R).toArray 134)).setRow w.heap.size (splice (xs.take (i*2)++R) (i*2) vs).toArray)):=λty dc=>by have h:=yo (P:=Tryz.prog) (w.drew.alloc (.cells (xs.take (i*2)++R).toArray 134)) 63 63 ty 134 2 w.heap.size (i*2) (n+1-i) dc ⟨vb,0,none⟩ 1 vc _ 134 vs 1 ht hsz (zi w.drew _) hmin2 (by rw[hvl]) (λj v hj=>by rw[Addr.add_lit,zb (zl (show w.drew.heap[vb]? = _ from hvb))];simpa using hj) (by rw[hvl];simp;omega) h1v;rw[h];simp[splice]
 have HC2:Hid (∀ty dc sc,(Builtin.copy_ #[63, 63] ty #[.slice (some ⟨w.heap.size,(i+1)*2,none⟩) (n-i) dc,.slice (some ⟨g,i*2,none⟩) (n-i) sc]).run Tryz.prog (((w.drew.alloc (.cells (xs.take (i*2)++R).toArray 134)).setRow w.heap.size (splice (xs.take (i*2)++R) (i*2) vs).toArray).drew)=.ok (goInt (n-i:Nat)) ((((w.drew.alloc (.cells (xs.take (i*2)++R).toArray 134)).setRow w.heap.size (splice (xs.take (i*2)++R) (i*2) vs).toArray).drew).setRow w.heap.size (splice (splice (xs.take (i*2)++R) (i*2) vs) ((i+1)*2) (xs.drop (i*2))).toArray)):=λty dc sc=>by have h:=yo (P:=Tryz.prog) (((w.drew.alloc (.cells (xs.take (i*2)++R).toArray 134)).setRow w.heap.size (splice (xs.take (i*2)++R) (i*2) vs).toArray).drew) 63 63 ty 134 2 w.heap.size ((i+1)*2) (n-i) dc ⟨g,i*2,none⟩ (n-i) sc _ 134 (xs.drop (i*2)) (n-i) ht hsz (setRow_heap _ _ _ _ _ (0,0) (zi w.drew _)) hmin1 hdl (λj v hj=>by rw[List.getElem?_drop]at hj;rw[Addr.add_lit];show ((w.drew.alloc _).setRow w.heap.size _).cell? _=_;rw[zb (by rw[setRow_other _ _ _ _ (by omega:g≠w.heap.size)];exact zl (show w.drew.heap[g]? = _ from hg))];have:=hcell _ _ hj;rw[zb hg]at this;exact this) (by rw[hdl];simp[splice,hvl];omega) (λv hv=>h1c v (List.mem_of_mem_drop hv));rw[h];simp[splice]
 generalize splice (splice (xs.take (i*2)++R) (i*2) vs) ((i+1)*2) (xs.drop (i*2))=row2 at HK HC2;generalize hW1:w.drew.alloc (.cells (xs.take (i*2)++R).toArray 134)=W1 at HK HC1 HC2 hap;generalize hW2:W1.setRow w.heap.size (splice (xs.take (i*2)++R) (i*2) vs).toArray=W2 at HK HC1 HC2;generalize yH thE 134 p B (.slice (some ⟨g,0,none⟩) n cap) (l.take i++x::l.drop i) w=Po at HK⊢;clear hV hR hvb hg hx h1v h1c hW1 hW2 hcell;subst hc;have hw1:IntKind.i64.wrap ((i:Int)+1)=(i:Int)+1:=by rw[IntKind.wrap_i64];omega
 have hw2:IntKind.i64.wrap ((cap:Int)+1)=(cap:Int)+1:=by rw[IntKind.wrap_i64];omega
 have hw3:IntKind.i64.wrap ((cap:Int)+1-(i:Int))=(cap:Int)+1-(i:Int):=by rw[IntKind.wrap_i64];omega
 have hz2:¬((i:Int)=(cap:Int)):=by omega
 have hin:i<=cap:=by omega
 have htn:((i:Int)+1).toNat=i+1:=by omega
 have hb1:(0:Int)<=(i:Int)+1:=by omega
 have hb2:¬(c2=i+1):=by omega
 have hb3:(i:Int)<=(cap:Int)+1:=by omega
 have hb4:¬(c2=i):=by omega
 have hb5:¬(cap=i):=by omega
 have hb6:((cap:Int)<(cap:Int)+1):=by omega
 have mixed : Tryz.prog.follows .mixedOrders=true:=by kernel_rfl
 have hcp1:=HC1.out;have hcp2:=HC2.out;go_enter Tryz.func75, Tryz.ntmps75;go_wp2_with (at_builtin;first|(refine Lib.wpList_append_run _ rfl _ _ _ _ rfl _ _ rfl rfl _ _ (hap _) ?_)|(refine wpList_copy_runI _ rfl _ _ 63 63 rfl _ _ rfl rfl (hcp1 _ _) ?_));go_region_law_o (refine step_copy_runI rfl _ _ 63 63 rfl _ _ (by simp[Act.eval,Act.put]) (by simp[Act.eval,Act.put]) (hcp2 _ _ _) ?_);go_wp2_with fail;exact HK.out
theorem zaQ (p:Nat->Bool) (B i:Nat) (v:Value) (l:List _) (x:_) (vb vc:Nat) (vs:List Value) (w:World) (ho:thE.Own 134 p w B v l) (hi:i<=l.length)
 (hR:thE.R (World.hide w (hid p v)) x vs) (hvb:w.heap[vb]? = some (.cells vs.toArray 134 (0,0))) (hp:p vb=false) (hne:v.ownBlock≠some vb) (hvc:1<=vc) (hB:B<=w.heap.size) (hn:l.length<=100000000) :
 Calls Tryz.prog 75 #[v,.int .i64 i,.slice (some ⟨vb,0,none⟩) 1 vc] w (yH thE 134 p B v (l.take i++x::l.drop i) w):=by
 by_cases h:i=l.length
 ·subst h;rw[List.take_of_length_le (Nat.le_refl _),List.drop_eq_nil_of_le (Nat.le_refl _)];refine zaR p B v l x vb vc vs w ho ((Enc.Vals.one hR).in (λj u hj=>?_) (by simp) (by simpa using hvc)) hB hn;rw[Nat.zero_add];refine zr.2 ⟨?_,?_⟩
  ·cases hq:hid p v vb with
   |false=>rfl
   |true=>exact absurd (ze.1 hq) (by simp[hp,hne])
  ·rw[zb hvb];simpa using hj
 ·obtain⟨xs,⟨h1,h2⟩,hV⟩:=ho;rcases h2 with ⟨rfl,h0⟩|⟨g,cap,cur,rfl,hBg,hg,hnc,hm,hz,hx⟩
  ·omega
  ·have hz':cur.size=cap*2:=hz;have hx':cur.toList.take (l.length*2)=xs:=hx;by_cases hc:l.length+1<=cap
   ·exact Q6 p B g l.length cap i l xs cur x vb vc vs w hV rfl hBg hg hc hm hz' hx' (by omega) hR hvb (λe=>hne (by rw[e];rfl))
   ·exact Q5 p B g l.length cap i l xs cur x vb vc vs w hV rfl hB hg (by omega) hn hx' (by omega) hR hvb
theorem zfX (x:Sg) (nm:ByteArray) (w:World):Calls Tryz.prog 134 #[.agg #[.string x.1,.int .i64 x.2],.string nm] w λe w'=>e=.returned (.int .i64 (qF x.1 nm))/\Below w.heap.size w w':=by have HS:Hid (∀W,Calls Tryz.prog 135 #[.string x.1,.string nm] W λe w'=>e=.returned (.int .i64 (qF x.1 nm))/\w'=W):=λW=>Tryz.strings_Compare x.1 nm W;generalize qF x.1 nm=c at HS⊢;go_enter Tryz.func134, Tryz.ntmps134;go_wp2_with (go_at_call 135;refine(HS.out _).mono ?_;rintro e w1 ⟨rfl,rfl⟩);first|exact⟨rfl,bel⟩|(go_ret;exact⟨rfl,bel⟩)
theorem zhV (l:List Sg) (nm:ByteArray):bsP (λx:Sg=>qF x.1 nm) l=Qw l nm:=rfl
theorem zf8 {l:List Sg} {nm:ByteArray} (h:zbq l):∀i j (hi:i<l.length) (hj:j<l.length),i<=j->qF (l[j]'hj).1 nm<0->qF (l[i]'hi).1 nm<0:=λi j hi hj hij h2=>by
 by_cases e:i=j
 ·subst e;exact h2
 ·exact X6.trans _ _ _ (List.pairwise_iff_getElem.1 h i j hi hj (by omega)) h2
theorem zga {l:List Sg} {nm:ByteArray} {v:Int} (h:zbq l):(bsF (λx:Sg=>qF x.1 nm) l=true->Qw l nm<l.length/\YG l nm v=l.set (Qw l nm) (nm,v)/\(l[Qw l nm]?).map Prod.fst=some nm)/\(bsF (λx:Sg=>qF x.1 nm) l=false->YG l nm v=l.take (Qw l nm)++(nm,v)::l.drop (Qw l nm)):=by
 unfold bsF;rw[zhV,ziv h];cases hx:l[Qw l nm]? with
 |none=>simp
 |some x =>obtain⟨hlt,_⟩:=List.getElem?_eq_some_iff.1 hx;have e:=X6.zero x.1 nm;simp only[decide_eq_true_eq,decide_eq_false_iff_not,Option.map_some,Option.some.injEq];exact⟨λh0=>⟨hlt,by rw[if_pos (e.1 h0)],e.1 h0⟩,λh0=>by rw[if_neg (λh1=>h0 (e.2 h1))]⟩
theorem zdR {W W':World} {l:List Sg} {xs:List Value} {k:Nat} {nm:ByteArray} {v:Int} (h:sgE.Vals W l xs) (hk:(l[k]?).map Prod.fst=some nm):sgE.Vals W' (l.set k (nm,v)) (xs.set (k*2+1) (.int .i64 v)):=by
 refine⟨by rw[List.length_set,List.length_set];exact h.1,λi hi0=>?_⟩;have hi:i<l.length:=by rwa [List.length_set]at hi0
 obtain⟨vs,h1,h2⟩:=h.2 i hi;obtain rfl:vs=[.string (l[i]'hi).1,.int .i64 (l[i]'hi).2]:=h1;have hx:=h.1;have hx2:xs.length=l.length*2:=hx;by_cases hik:i=k
 ·subst hik;rw[List.getElem?_eq_getElem (l:=l) hi]at hk;have hnm:(l[i]'hi).1=nm:=by simpa using hk
  refine⟨[.string nm,.int .i64 v],by rw[List.getElem_set_self];rfl,λj u hj=>?_⟩
  match j with
  |0 =>have:=h2 0 _ rfl;rw[hnm]at this;simp at hj;subst hj;show (xs.set _ _)[i*2+0]? = _;rw[List.getElem?_set_ne (by omega)];exact this
  |1 =>simp at hj;subst hj;show (xs.set _ _)[i*2+1]? = _;rw[List.getElem?_set_self (by omega)]
  |j+2=>simp at hj
 ·refine⟨_,by rw[List.getElem_set_ne (by omega)];rfl,λj u hj=>?_⟩;have h3:=h2 j u hj;have hj2:=(List.getElem?_eq_some_iff.1 hj).1;simp at hj2;show (xs.set _ _)[i*2+j]? = _;rw[List.getElem?_set_ne (by omega)];exact h3
theorem zfn {t:TypeId} {p:Nat->Bool} {W:World} {B k:Nat} {v:Value} {l:List Sg} {nm:ByteArray} {x:Int} (h:sgE.Own t p W B v l) (hk:(l[k]?).map Prod.fst=some nm) (hlt:k<l.length) :
 ∃g cap,v=.slice (some ⟨g,0,none⟩) l.length cap/\l.length<=cap/\B<=g/\g<W.heap.size/\(∃u,W.cell? ⟨g,k*2+1,none⟩=some u)/\W.frozen? ⟨g,k*2+1,none⟩=false/\sgE.Own t p (W.setCell ⟨g,k*2+1,none⟩ (.int .i64 x)) B v (l.set k (nm,x)):=by
 obtain⟨xs,h1,h2⟩:=h;have hx:xs.length=l.length*2:=h2.1;obtain⟨hc,h3⟩:=id h1;rcases h3 with ⟨rfl,h0⟩|⟨g,cap,cur,rfl,hBg,hg,hnc,hm,hz,htk⟩
 ·omega
 ·refine⟨g,cap,rfl,hnc,hBg,(Array.getElem?_eq_some_iff.1 hg).1,⟨xs[k*2+1]'(by omega),?_⟩,h1.frozenAt _,xs.set (k*2+1) (.int .i64 x),?_,?_⟩
  ·have:=h1.cellAt (k*2+1) (by show _<_*2;omega);rw[this];exact List.getElem?_eq_getElem _
  ·have:=(h1.stored (k*2+1) (.int .i64 x)).1;rwa [List.length_set]
  ·exact zdR h2 hk
def Z3 (p:Nat->Bool) (r:List Sg) (w:World) (e:Ending) (w':World):Prop:=(∃v',e=.returned v'/\sgE.Own 68 p w' w.heap.size v' r)/\Below w.heap.size w w'
theorem zcQ (p:Nat->Bool) (l:List Sg) (a:Option Addr) (c:Nat) (nm:ByteArray) (v:Int) (w:World) (h:sgE.In (World.hide w p) l a c) (hp:∀j,p j=true->j<w.heap.size) (ha:zbq l) (hl:l.length<=100000) :
 Calls Tryz.prog 76 #[.slice a l.length c,.string nm,.int .i64 v] w (Z3 p (YG l nm v) w):=by
 have HB:Hid (Calls Tryz.prog 133 #[.slice a l.length c,.string nm,.func (.func 134) #[] #[]] w (ZW (λx:Sg=>qF x.1 nm) l w)) :=
  QS _ (λ_ _=>by kernel_rfl) (.string nm) (λx:Sg=>qF x.1 nm) (λ_=>True) (λW x vs _ hx=>by obtain rfl:vs=_:=hx;exact zfX x nm W) (λ_ _ _ _=>trivial) l a c w (h.keep zc) trivial (zf8 ha)
 have HC:Hid (∀W,Below w.heap.size w W->Calls Tryz.prog 79 #[.slice a l.length c] W (yR sgE 68 p l W)):=λW hW=>zbB p l a c W (h.keep (zg hW λ_ _ h=>h));have HP:=Lib.hid hp;obtain⟨hf1,hf2⟩:=zga (nm:=nm) (v:=v) ha;have HF1:=Lib.hid hf1;have HF2:=Lib.hid hf2;have hpl:=ziq l nm;have HB1:Hid (Calls Tryz.prog 133 #[.slice a l.length c,.string nm,.func (.func 134) #[] #[]] w λe w'=>e=.returned (.tuple #[.int .i64 (Qw l nm:Nat),.bool (bsF (λx:Sg=>qF x.1 nm) l)])/\Below w.heap.size w w'):=HB.out;have HPo:Hid (∀v' W,sgE.Own 68 p W w.heap.size v' (YG l nm v)->Below w.heap.size w W->Z3 p (YG l nm v) w (.returned v') W):=λv' W h1 h2=>⟨⟨v',rfl,h1⟩,h2⟩;generalize Z3 p (YG l nm v) w=Po at HPo⊢;generalize bsF (λx:Sg=>qF x.1 nm) l=fd at HB1 HF1 HF2;generalize Qw l nm=ps at HB1 HF1 HF2 hpl;generalize YG l nm v=R at HF1 HF2 HPo;clear hf1 hf2 HB h hp ha;have hpc:(0:Int)<=ps:=by omega
 cases fd with
 |true =>
  obtain⟨hlt,hR,hnm⟩:=HF1.out rfl;subst hR;have HN:=Lib.hid hnm;clear HF1 HF2 hnm;have hltI:(ps:Int)<l.length:=by omega
  go_enter Tryz.func76, Tryz.ntmps76;go_wp2_with fail;refine HB1.out.mono ?_;rintro e w1 ⟨rfl,hb1⟩;have HB1':=Lib.hid hb1;clear hb1 HB1;go_wp2_with fail;refine(HC.out _ HB1'.out).mono ?_;rintro e w2 ⟨⟨v',rfl,ho⟩,hb2⟩;have HB2:Hid (Below w.heap.size w w2):=HB1'.out.trans (hb2.mono HB1'.out.size);have ho2:sgE.Own 68 p w2 w.heap.size v' l:=Zh ho HB1'.out.size;obtain⟨g,cap,rfl,hcap,hg1,hg2,⟨u,hu⟩,hfz,hos⟩:=zfn (x:=v) ho2 HN.out hlt;have HO:=Lib.hid hos;clear hb2 ho ho2 hos;go_wp2_with fail;have HE:=Lib.hid (HPo.out _ _ HO.out (HB2.out.setCell hg1 _));first|exact HE.out|(go_ret;exact HE.out)
 |false =>
  have hR:=HF2.out rfl;subst hR;clear HF1 HF2;go_enter Tryz.func76, Tryz.ntmps76;go_wp2_with fail;refine HB1.out.mono ?_;rintro e w1 ⟨rfl,hb1⟩;have HB1':=Lib.hid hb1;clear hb1 HB1;go_wp2_with fail;refine(HC.out _ HB1'.out).mono ?_;rintro e w2 ⟨⟨v',rfl,ho⟩,hb2⟩;have HB2:Hid (Below w.heap.size w w2):=HB1'.out.trans (hb2.mono HB1'.out.size);have ho2:sgE.Own 68 p w2 w.heap.size v' l:=Zh ho HB1'.out.size;have hvlt:∀j,v'.ownBlock=some j->w.heap.size<=j/\j<w2.heap.size:=zq ho2
  have HI:=Lib.hid (zaO p w.heap.size ps v' l (nm,v) w2.heap.size 1 [.string nm,.int .i64 v] (w2.alloc (.cells #[.string nm,.int .i64 v] 68)) (ho2.below ((Below.refl _ _).alloc (Nat.le_refl _) _)) hpl rfl (zi w2 _)
   (by
    cases hq:p w2.heap.size with
    |false=>rfl
    |true=>have:=HP.out _ hq;have:=HB2.out.size;omega) (λe=>by have:=(hvlt _ e).2;omega) (by omega) (by have:=HB2.out.size;simp;omega) (by omega))
  have HV:=Lib.hid hvlt;clear hb2 ho ho2 hvlt;go_wp2_with (go_at_call 136;go_must (refine HI.out.mono ?_;rintro e w3 ⟨v3,rfl,ho3,hg3,hat3⟩;have HO3:=Lib.hid ho3;have HG3:=Lib.hid hg3;clear ho3 hg3 hat3));have HE:=Lib.hid (HPo.out _ _ HO3.out (Zp (HB2.out.alloc HB2.out.size _) HG3.out (by have:=HB2.out.size;simp;omega) λk hk=>(HV.out k hk).1));first|exact HE.out|(go_ret;exact HE.out)
theorem Qs (op n:Int) (s:ByteArray) (args:List Ex) (a:Option Addr) (cap bo oc:Nat) (ops:List Int) (w:World) (hE:yA w (.mk op n s args) a cap) (hn:(Ex.mk op n s args).nodes.length<=1073741824)
 (B:Nat) (w0:World) (hw0:B=w0.heap.size) (hW:Below B w0 w) (hbB:B<=bo) (hbo:w.heap[bo]? = some (.cells (ops.map (Value.int .i64)).toArray 3 (0,0))) (hol:0<ops.length/\ops.length<=1000) (hE0:yA w0 (.mk op n s args) a cap) :
 Calls Tryz.prog 253 #[.agg #[.int .i64 op,.int .i64 n,.string s,.slice a args.length cap],.slice (some ⟨bo,0,none⟩) ops.length oc] w λe w' =>
  (∃a' cap',e=.returned (.slice a' (zG ops (.mk op n s args)).length cap')/\zM w' (zG ops (.mk op n s args)) a' cap'/\∀p:Addr,a'=some p->B<=p.block)/\Below B w0 w':=by
 subst hw0;have hB:Below w.heap.size w (((w.alloc (.cells #[.int .i64 op,.int .i64 n,.string s,.slice a args.length cap] 24)).alloc (.cells #[.slice (some ⟨bo,0,none⟩) ops.length oc] 31)).alloc (.cells #[.slice none 0 0] 43)):=bel;have hws:=hW.size
 have hC:=zcP (w.heap.size+1) (w.heap.size+1+1) (zd5 w0.heap.size (w.heap.size+1) (w.heap.size+1+1) bo oc ops) List.length (zfK ops) w0 (λst e=>xT ops st e) zd5.keep (zhH w0 _ _ bo oc ops hol) op n s args [] a cap _ (by simpa using hn)
  ⟨⟨by omega,by omega,hbB⟩,⟨_,zm _ _ _ (by simp),World.ownsRow_nil _ _ _ _⟩,by rw[Below.heap_alloc _ _ _ (by simp)];exact zm _ _ _ (by simp),by rw[hB.block _ (lt_of_block hbo)];exact hbo⟩ (hW.trans (hB.mono hws)) hE0
 rw[runN]at hC;have HB:=Lib.hid hB;have HC:=Lib.hid hC;have HW:=Lib.hid hW;have Hn:=Lib.hid hn;have Hws:=Lib.hid hws;clear hC hB hE hn hW hbo hE0 hbB hws;go_enter Tryz.func253, Tryz.ntmps253;go_wp2_with fail;refine HC.out.mono ?_;rintro e w2 ⟨rfl,hI2,hK2⟩;obtain⟨_,⟨v,hv,hown⟩,_⟩:=hI2;have c0:=cell_of_one hv;have HK2:=Lib.hid hK2;have HO:=Lib.hid hown;clear hK2 hv hown;go_wp2_with fail;go_ret;have hlt:=HO.out.lt;obtain⟨a',cap',rfl,hs⟩:=x6 HO.out (by have:=Zg ops (Ex.mk op n s args).nodes [];have:=Hn.out;simp at *;omega);exact⟨⟨a',cap',rfl,hs,λp hp=>(hlt p.block (by rw[hp];rfl)).1⟩,HW.out.trans ((HB.out.mono Hws.out).trans (HK2.out.below (by have:=HB.out.size;have:=Hws.out;omega)))⟩
theorem zcU (op n:Int) (s:ByteArray) (args:List Ex) (a:Option Addr) (cap:Nat) (w:World) (hE:yA w (.mk op n s args) a cap) (hn:(Ex.mk op n s args).nodes.length<=1073741824) :
 Calls Tryz.prog 200 #[.agg #[.int .i64 op,.int .i64 n,.string s,.slice a args.length cap]] w λe w' =>
  (∃a' cap',e=.returned (.slice a' (zG [2] (.mk op n s args)).length cap')/\zM w' (zG [2] (.mk op n s args)) a' cap'/\∀p:Addr,a'=some p->w.heap.size<=p.block)/\Below w.heap.size w w':=by
 have hB:Below w.heap.size w ((w.alloc (.cells #[.int .i64 op,.int .i64 n,.string s,.slice a args.length cap] 24)).alloc (.cells (([2]:List Int).map (Value.int .i64)).toArray 3)):=bel;have hC:=Qs op n s args a cap (w.heap.size+1) ([2]:List Int).length [2] _ (hE.keep (za hB)) hn _ w rfl hB (by omega) (zm _ _ _ (by simp)) (by decide) hE;have HC:=Lib.hid hC;clear hC hB hE hn;go_enter Tryz.func200, Tryz.ntmps200;go_wp2_with fail;refine HC.out.mono ?_;rintro e w2 ⟨⟨a',cap',rfl,hs,hf⟩,hb⟩;have HS:=Lib.hid (⟨hs,hb,hf⟩:_/\_/\_);clear hs hb hf;go_wp2_with fail;go_ret;exact⟨⟨a',cap',rfl,HS.out.1,HS.out.2.2⟩,HS.out.2.1⟩
theorem zbr (op n:Int) (s:ByteArray) (args:List Ex) (a:Option Addr) (cap:Nat) (w:World) (hE:yA w (.mk op n s args) a cap) (hn:(Ex.mk op n s args).nodes.length<=1073741824) :
 Calls Tryz.prog 201 #[.agg #[.int .i64 op,.int .i64 n,.string s,.slice a args.length cap]] w λe w' =>
  (∃a' cap',e=.returned (.slice a' (zG [3,24] (.mk op n s args)).length cap')/\zM w' (zG [3,24] (.mk op n s args)) a' cap'/\∀p:Addr,a'=some p->w.heap.size<=p.block)/\Below w.heap.size w w':=by
 have hB:Below w.heap.size w ((w.alloc (.cells #[.int .i64 op,.int .i64 n,.string s,.slice a args.length cap] 24)).alloc (.cells (([3,24]:List Int).map (Value.int .i64)).toArray 3)):=bel;have hC:=Qs op n s args a cap (w.heap.size+1) ([3,24]:List Int).length [3,24] _ (hE.keep (za hB)) hn _ w rfl hB (by omega) (zm _ _ _ (by simp)) (by decide) hE;have HC:=Lib.hid hC;clear hC hB hE hn;go_enter Tryz.func201, Tryz.ntmps201;go_wp2_with fail;refine HC.out.mono ?_;rintro e w2 ⟨⟨a',cap',rfl,hs,hf⟩,hb⟩;have HS:=Lib.hid (⟨hs,hb,hf⟩:_/\_/\_);clear hs hb hf;go_wp2_with fail;go_ret;exact⟨⟨a',cap',rfl,HS.out.1,HS.out.2.2⟩,HS.out.2.1⟩
end Go.Proofs.YtnfkbliokjjggaaGreatDoor
