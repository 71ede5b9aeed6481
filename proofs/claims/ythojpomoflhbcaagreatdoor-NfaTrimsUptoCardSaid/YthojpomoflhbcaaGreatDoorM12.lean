/- slices.DeleteFunc at edges: a row of one's own, without those of which something holds. -/
import Derived.Test.YthojpomoflhbcaaGreatDoorM11
set_option linter.unusedSimpArgs false
set_option linter.unusedVariables false
set_option linter.unnecessarySimpa false
namespace Go.Proofs.YthojpomoflhbcaaGreatDoor
open Go.RowKit
attribute [local go_sem ↓] Go.wp_at_zero Go.wp_at_succ
theorem gr_reflE (w:World) (row:Option Nat):w.grownBy w row:=⟨rfl,rfl,rfl,Nat.le_refl _,fun _ _ _=>rfl⟩
theorem gr_belowE {w w' w2:World} {row:Option Nat} (h:w.grownBy w' row) (hb:Below w'.heap.size w' w2):w.grownBy w2 row :=
 ⟨hb.os.trans h.os,hb.tape.trans h.tape,hb.output.trans h.output,Nat.le_trans h.size hb.size,fun k hk hn=>(hb.block k (Nat.lt_of_lt_of_le hk h.size)).trans (h.block k hk hn)⟩
theorem gr_transE {w w' w2:World} {row:Option Nat} (h:w.grownBy w' row) (h2:w'.grownBy w2 row):w.grownBy w2 row :=
 ⟨h2.os.trans h.os,h2.tape.trans h.tape,h2.output.trans h.output,Nat.le_trans h.size h2.size,fun k hk hn=>(h2.block k (Nat.lt_of_lt_of_le hk h.size) hn).trans (h.block k hk hn)⟩
theorem clearE {w:World} {g o n c:Nat} (hn:0 < n) (hc:∀ j,j < n * 4→(w.cell? ⟨g,o+j,none⟩).isSome=true) (hf:∀ j,j < n * 4→w.frozen? ⟨g,o+j,none⟩=false) :
  ∃ vs:List Value,∀ ty,(Builtin.clear_ #[30] ty #[.slice (some ⟨g,o,none⟩) n c]).run Tryz.prog w=.ok (.tuple #[]) (w.setCells g o vs):=by
 have hz:∀ w,(zeroValue 69).run Tryz.prog w=.ok (.agg #[.int .i64 0,.int .i64 0,.slice none 0 0,.slice none 0 0]) w:=fun w=>Tryz.zeroValue69 w
 have hl:(Builtin.zeroCells (Value.agg #[.int .i64 0,.int .i64 0,.slice none 0 0,.slice none 0 0]).cells n).toList.length=n * 4:=by
  rw[Array.length_toList,size_zeroCells];rfl
 have h1:∀ v∈(Builtin.zeroCells (Value.agg #[.int .i64 0,.int .i64 0,.slice none 0 0,.slice none 0 0]).cells n).toList,v.oneCell'=true:=by
  intro v hv
  simp only[Builtin.zeroCells,Array.toList_map,List.mem_map,Array.toList_range] at hv
  obtain⟨i,_,rfl⟩:=hv
  have hm:i % 4=0∨i % 4=1∨i % 4=2∨i % 4=3:=by omega
  rw[show (Value.agg #[.int .i64 0,.int .i64 0,.slice none 0 0,.slice none 0 0]).cells=#[.int .i64 0,.int .i64 0,.slice none 0 0,.slice none 0 0] from rfl]
  rw[show (#[Value.int .i64 0,.int .i64 0,.slice none 0 0,.slice none 0 0]:Array Value).size=4 from rfl]
  rcases hm with h | h | h | h<;>rw[h]<;>rfl
 have hst:=run_storeCells_cells (P:=Tryz.prog) g o _ 0 w (by rw[hl];simpa using hc) (by rw[hl];simpa using hf) h1
 simp only[Nat.add_zero] at hst
 obtain⟨m,rfl⟩:∃ m,n=m+1:=⟨n - 1,by omega⟩
 refine⟨(Builtin.zeroCells (Value.agg #[.int .i64 0,.int .i64 0,.slice none 0 0,.slice none 0 0]).cells (m+1)).toList,fun ty=>?_⟩
 simp[Builtin.clear_,run_underlying Tryz.underlying30,hz,hst]
structure DelSt (p:Nat→Bool) (B g n cap:Nat) (w0:World) (zs0:Zl EdgeD) (d:EdgeD→Bool) (i j:Nat) (W:World) (zs:Zl EdgeD):Prop where
 row:W.ownsRow B 69 4 (.slice (some ⟨g,0,none⟩) n cap) n (cellsZ zs)
 len:zs.length=n
 lens:∀ z∈zs,z.2.length=4
 kept:zs.take i=(zs0.take j).filter fun z=>!d z.1
 rest:zs.drop j=zs0.drop j
 ij:i=((zs0.take j).filter fun z=>!d z.1).length
 gr:w0.grownBy W (some g)
section
variable {p : Nat → Bool} {B g n cap : Nat} {w0 W W' : World} {zs0 zs : Zl EdgeD} {d : EdgeD → Bool} {i j : Nat}
theorem DelSt.below (h:DelSt p B g n cap w0 zs0 d i j W zs) (hb:Below W.heap.size W W'):DelSt p B g n cap w0 zs0 d i j W' zs :=
 ⟨ownsRow_below h.row hb,h.len,h.lens,h.kept,h.rest,h.ij,gr_belowE h.gr hb⟩
theorem DelSt.at (h:DelSt p B g n cap w0 zs0 d i j W zs) (hl:zs0.length=n) (hj:j < n):∃ hj0:j < zs0.length,∃ hj1:j < zs.length,zs[j]'hj1=zs0[j]'hj0:=by
 have h1:j < zs0.length:=by omega
 have h2:j < zs.length:=by have:=h.len;omega
 refine⟨h1,h2,?_⟩
 have e:=congrArg (fun l=>l[0]?) h.rest
 simp only[List.getElem?_drop,Nat.add_zero,List.getElem?_eq_getElem h1,List.getElem?_eq_getElem h2,Option.some.injEq] at e
 exact e
theorem DelSt.skip (h:DelSt p B g n cap w0 zs0 d i j W zs) (hj:j < zs0.length) (hd:d (zs0[j]'hj).1=true):DelSt p B g n cap w0 zs0 d i (j+1) W zs:=by
 have e:(zs0.take (j+1)).filter (fun z=>!d z.1)=(zs0.take j).filter fun z=>!d z.1:=by
  rw[List.take_succ_eq_append_getElem hj,List.filter_append];simp[hd]
 refine⟨h.row,h.len,h.lens,by rw[e];exact h.kept,?_,by rw[e];exact h.ij,h.gr⟩
 have:=congrArg (List.drop 1) h.rest
 simpa only [List.drop_drop] using this
theorem DelSt.keepIt (h:DelSt p B g n cap w0 zs0 d i j W zs) (hl:zs0.length=n) (hj:j < zs0.length) (hij:i < j) (hd:d (zs0[j]'hj).1=false) (h4:(zs0[j]'hj).2.length=4):DelSt p B g n cap w0 zs0 d (i+1) (j+1) (W.setCells g (i * 4) (zs0[j]'hj).2) (zs.set i (zs0[j]'hj)):=by
 have e:(zs0.take (j+1)).filter (fun z=>!d z.1)=((zs0.take j).filter fun z=>!d z.1)++[zs0[j]'hj]:=by
  rw[List.take_succ_eq_append_getElem hj,List.filter_append];simp[hd]
 have hlen:=h.len
 have hi:i < zs.length:=by omega
 obtain⟨h1,h2⟩:=own_setCells (zs0[j]'hj).2 (i * 4) W _ h.row
 refine⟨?_,by rw[List.length_set];exact h.len,?_,?_,?_,by rw[e,List.length_append,← h.ij];rfl,gr_transE h.gr h2⟩
 ·have:=cellsZ_set (E:=edE) h.lens hi (z:=zs0[j]'hj) h4
  rw[← this];exact h1
 ·intro y hy
  rcases List.mem_or_eq_of_mem_set hy with hy | rfl
  ·exact h.lens y hy
  ·exact h4
 ·rw[e,← h.kept,List.take_succ_eq_append_getElem (by rw[List.length_set];exact hi),List.getElem_set_self,List.take_set_of_le (Nat.le_refl _)]
 ·have:=congrArg (List.drop 1) h.rest
  simp only[List.drop_drop] at this
  rw[List.drop_set_of_lt (by omega)]
  exact this
end
theorem setsAt_take (xs:List Value) (o:Nat) (vs:List Value):(setsAt xs o vs).take o=xs.take o:=by
 refine List.ext_getElem? fun j=>?_
 rw[List.getElem?_take,List.getElem?_take]
 by_cases h:j < o
 ·rw[if_pos h,if_pos h,setsAt_get,if_neg (by omega)]
 ·rw[if_neg h,if_neg h]
theorem DelSt.fin {p:Nat→Bool} {B g n cap:Nat} {w0 W W':World} {zs0 zs:Zl EdgeD} {d:EdgeD→Bool} {i:Nat} {l:List EdgeD} {xs':List Value} (h:DelSt p B g n cap w0 zs0 d i n W zs) (hln:zs0.length=n) (hz0:RZ edE (World.hide w0 (hid p (.slice (some ⟨g,0,none⟩) n cap))) zs0) (hzl:zs0.map Prod.fst=l)
  (hr:W'.ownsRow B 69 4 (.slice (some ⟨g,0,none⟩) n cap) n xs') (ht:xs'.take (i * 4)=(cellsZ zs).take (i * 4)) (hg:W.grownBy W' (some g)):edE.Own 69 p W' B (.slice (some ⟨g,0,none⟩) i cap) (l.filter fun x=>!d x):=by
 have hkp:=hide_grown (p:=hid p (.slice (some ⟨g,0,none⟩) n cap)) (q:=hid p (.slice (some ⟨g,0,none⟩) i cap)) (gr_transE h.gr hg) (fun k hk=>hid_true.2 (Or.inr hk)) fun _ _ h=>h
 have ht0:zs0.take n=zs0:=List.take_of_length_le (by omega)
 have hk:=h.kept
 have hi:=h.ij
 rw[ht0] at hk hi
 have hle:i≤n:=by rw[hi,← hln];exact List.length_filter_le _ _
 have hmap:(zs0.filter fun z=>!d z.1).map Prod.fst=l.filter fun x=>!d x:=by rw[← hzl,List.filter_map];rfl
 have hR:RZ edE (World.hide W' (hid p (.slice (some ⟨g,0,none⟩) i cap))) (zs0.filter fun z=>!d z.1):=fun z hz=>edE.keep hkp (hz0 z (List.mem_filter.1 hz).1)
 have hc:=own_cut hr hle
 rw[ht,show i * 4=i * edE.sz from rfl,cellsZ_take (E:=edE) h.lens (by have:=h.len;omega),hk] at hc
 refine⟨cellsZ (zs0.filter fun z=>!d z.1),?_,?_⟩
 ·rw[← hmap,List.length_map,← hi];exact hc
 ·rw[← hmap];exact hR.vals
def DelPost (p:Nat→Bool) (B:Nat) (v:Value) (l:List EdgeD) (w:World) (e:Ending) (w':World):Prop:=∃ v',e=.returned v'∧edE.Own 69 p w' B v' l∧w.grownBy w' v.ownBlock
set_option maxHeartbeats 8000000 in
set_option maxRecDepth 100000 in
theorem deleteF_any (g:FuncId) (eg:∀ args w,(callFunc g args).run Tryz.prog w=.ok (.enter g args) w) (lb:Array Value) (d:EdgeD→Bool) (K:World→Prop) (hP:DPred g lb d K) (hKb:∀ W W',K W→Below W.heap.size W W'→K W') (p:Nat→Bool) (B:Nat) (v:Value) (hKs:∀ W W',K W→W.grownBy W' v.ownBlock→K W') (l:List EdgeD) (w:World)
  (hO:edE.Own 69 p w B v l) (hK:K w) (hl:l.length≤1073741824) :
  Calls Tryz.prog 204 #[v,.func (.func g) #[] lb] w (DelPost p B v (l.filter fun x=>!d x) w):=by
 obtain⟨a,cap,hv,hE⟩:=hO.slice hl
 subst hv
 have HI:=Lib.hid (indexF_any g eg lb d K hP hKb l a cap w hE hK)
 have HO:=Lib.hid hO
 have HP:=Lib.hid hP
 have HKb:=Lib.hid hKb
 have HKs:=Lib.hid hKs
 have HK:=Lib.hid hK
 have HPo:Hid (∀ v' w',edE.Own 69 p w' B v' (l.filter fun x=>!d x)→w.grownBy w' (Value.slice a l.length cap).ownBlock→DelPost p B (.slice a l.length cap) (l.filter fun x=>!d x) w (.returned v') w'):=fun v' w' h1 h2=>⟨v',rfl,h1,h2⟩
 clear hP hKb hKs hK hE hO
 generalize DelPost p B (.slice a l.length cap) (l.filter fun x=>!d x) w=Po at HPo⊢
 rcases hf:l.findIdx? d with _ | k0
 ·have hno:∀ x∈l,d x=false:=List.findIdx?_eq_none_iff.1 hf
  have e1:idxF d l=-1:=by unfold idxF;rw[hf]
  have HFl:Hid (l.filter (fun x=>!d x)=l):=List.filter_eq_self.2 fun x hx=>by rw[hno x hx];rfl
  rw[e1] at HI
  clear hf hno e1
  go_enter Tryz.func204, Tryz.ntmps204
  go_wp2_with (go_at_call 247;go_must (refine HI.out.mono ?_;rintro e w5 ⟨rfl,hb5⟩))
  have HD:Hid (edE.Own 69 p w5 B (.slice a l.length cap) (l.filter fun x=>!d x)):=by show edE.Own _ _ _ _ _ _;rw[HFl.out];exact HO.out.below hb5
  have HG:Hid (w.grownBy w5 (Value.slice a l.length cap).ownBlock):=gr_belowE (gr_reflE _ _) hb5
  first | exact HPo.out _ _ HD.out HG.out | (go_ret;exact HPo.out _ _ HD.out HG.out)
 ·obtain⟨hk0,hd0,hb0⟩:=List.findIdx?_eq_some_iff_getElem.1 hf
  have e1:idxF d l=(k0:Int):=by unfold idxF;rw[hf]
  obtain⟨xs,hx,hv⟩:=HO.out
  obtain⟨bk,hga⟩:∃ bk,a=some ⟨bk,0,none⟩:=by
   rcases hx.2 with ⟨h1,h2⟩ | ⟨b9,cap',cur,h1,_⟩
   ·omega
   ·simp only[Value.slice.injEq] at h1;exact⟨b9,h1.1⟩
  subst hga
  obtain⟨zs0,hz0,hzl,rfl⟩:=hv.zs
  have hln:zs0.length=l.length:=by rw[← hzl,List.length_map]
  have HZ0:=Lib.hid hz0
  have HZl:=Lib.hid hzl
  have hget:∀ j (h0:j < zs0.length) (h1:j < l.length),(zs0[j]'h0).1=l[j]'h1:=fun j h0 h1=>by simp only[← hzl,List.getElem_map]
  have hfil:(zs0.take (k0+1)).filter (fun z=>!d z.1)=zs0.take k0:=by
   rw[List.take_succ_eq_append_getElem (by omega),List.filter_append,List.filter_eq_self.2 (fun z hz=>?_),List.filter_eq_nil_iff.2 (fun z hz=>?_),List.append_nil]
   ·obtain rfl:=List.mem_singleton.1 hz
    rw[hget k0 (by omega) hk0,hd0];simp
   ·obtain⟨j,hj,rfl⟩:=List.getElem_of_mem hz
    rw[List.getElem_take,hget j (by simp at hj;omega) (by simp at hj;omega)]
    have:=hb0 j (by simp at hj;omega)
    simpa using this
  have HS0:Hid (DelSt p B bk l.length cap w zs0 d k0 (k0+1) w zs0) :=
   ⟨hx,hln,fun z hz=>edE.len (hz0 z hz),hfil.symm,rfl,by rw[hfil,List.length_take];omega,gr_reflE _ _⟩
  have HDg:Hid (∀ j (h0:j < zs0.length),j < l.length):=fun j h=>by omega
  rw[e1] at HI
  have hgb:=(hx.lt bk rfl).2
  have hk0p:(k0:Int)+1≤(l.length:Int):=by omega
  have hne1:((k0:Int) == -1)=false:=beq_eq_false_iff_ne.2 (by omega)
  have HFin:Hid (∀ i W zs W' xs',DelSt p B bk l.length cap w zs0 d i l.length W zs→W'.ownsRow B 69 4 (.slice (some ⟨bk,0,none⟩) l.length cap) l.length xs'→xs'.take (i * 4)=(cellsZ zs).take (i * 4)→W.grownBy W' (some bk)→edE.Own 69 p W' B (.slice (some ⟨bk,0,none⟩) i cap) (l.filter fun x=>!d x)):=fun i W zs W' xs' h h1 h2 h3=>h.fin hln hz0 hzl h1 h2 h3
  have hlt0:k0 < l.length:=hk0
  clear hf hd0 hb0 hx hv hz0 hzl hfil e1 hget hk0
  have HCall:Hid (∀ W zs i j (hj:j < zs0.length),DelSt p B bk l.length cap w zs0 d i j W zs→∃ (y0 y1:Int) (a2:Option Addr) (n2 k2:Nat) (a3:Option Addr) (n3 k3:Nat),(zs0[j]'hj).2=[.int .i64 y0,.int .i64 y1,.slice a2 n2 k2,.slice a3 n3 k3]∧(W.cell? ⟨bk,j * 4,none⟩=some (.int .i64 y0)∧W.cell? ⟨bk,j * 4+1,none⟩=some (.int .i64 y1)∧W.cell? ⟨bk,j * 4+2,none⟩=some (.slice a2 n2 k2)∧W.cell? ⟨bk,j * 4+3,none⟩=some (.slice a3 n3 k3))∧∀ W',Below W.heap.size W W'→Calls Tryz.prog g (#[.agg #[.int .i64 y0,.int .i64 y1,.slice a2 n2 k2,.slice a3 n3 k3]]++lb) W' fun e w'=>e=.returned (.bool (d (zs0[j]'hj).1))∧Below W'.heap.size W' w'):=fun W zs i j hj h=>by
   have hjn:j < l.length:=by omega
   obtain⟨_,hj1,he⟩:=h.at hln hjn
   have hR:=HZ0.out _ (List.getElem_mem hj)
   obtain⟨a2,k2,a3,k3,hy,_⟩:=id hR
   have hcell:∀ t (ht:t < 4),W.cell? ⟨bk,j * 4+t,none⟩=(zs0[j]'hj).2[t]?:=fun t ht=>by
    rw[h.row.cellAt (j * 4+t) (by omega),← he]
    exact cellsZ_get (E:=edE) h.lens hj1 ht
   have h0:=hcell 0 (by omega)
   have h1:=hcell 1 (by omega)
   have h2:=hcell 2 (by omega)
   have h3:=hcell 3 (by omega)
   rw[hy] at h0 h1 h2 h3
   refine⟨_,_,a2,_,k2,a3,_,k3,hy,⟨h0,h1,h2,h3⟩,fun W' hW'=>?_⟩
   have hkp:=hide_grown (p:=hid p (.slice (some ⟨bk,0,none⟩) l.length cap)) (q:=hid p (.slice (some ⟨bk,0,none⟩) l.length cap)) h.gr (fun k hk=>hid_true.2 (Or.inr hk)) fun _ _ h=>h
   have:=HP.out W' (zs0[j]'hj).1 _ (HKb.out _ _ (HKs.out _ _ HK.out h.gr) hW') (by
    have:=edE.keep (fun a v ha=>keeps_of_below hW' _ _ (hide_cell _ _ (hkp a v ha))) hR
    rw[hy] at this
    exact this)
   exact this
  go_enter Tryz.func204, Tryz.ntmps204
  go_wp2_with (go_at_call 247;go_must (refine HI.out.mono ?_;rintro e w5 ⟨rfl,hb5⟩))
  have HS5:=Lib.hid (HS0.out.below hb5)
  have hz5:=hb5.size
  clear hb5 HS0 HI
  go_loopg [5,6,7] l.length (fun gg s5 s6 _ wr=>∃ (i j:Nat) (zs:Zl EdgeD),s5=.int .i64 i∧s6=.int .i64 j∧j≤l.length∧i < j∧l.length - j≤gg∧Hid (DelSt p B bk l.length cap w zs0 d i j wr zs))
  case atStart=>exact⟨k0,k0+1,zs0,rfl,by go_num,by omega,by omega,by omega,HS5⟩
  case round =>
   clear HS5
   obtain⟨i,j,zs,rfl,rfl,hjl,hij,hgg,HS⟩:=hrel
   by_cases hlt:j < l.length
   ·have hj0:j < zs0.length:=by omega
    obtain⟨y0,y1,a2,n2,k2,a3,n3,k3,hy,⟨c0,c1,c2,c3⟩,hcall⟩:=HCall.out wr zs i j hj0 HS.out
    have HSk:Hid (d (zs0[j]'hj0).1=true→DelSt p B bk l.length cap w zs0 d i (j+1) wr zs):=fun h=>HS.out.skip hj0 h
    have HKp:Hid (∀ W,Below wr.heap.size wr W→d (zs0[j]'hj0).1=false→DelSt p B bk l.length cap w zs0 d (i+1) (j+1) (W.setCells bk (i * 4) [.int .i64 y0,.int .i64 y1,.slice a2 n2 k2,.slice a3 n3 k3]) (zs.set i (zs0[j]'hj0))):=fun W hW h=>by
     rw[← hy];exact(HS.out.below hW).keepIt hln hj0 hij h (by rw[hy];rfl)
    have HFz:Hid (∀ W,Below wr.heap.size wr W→∀ t,W.frozen? ⟨bk,t,none⟩=false):=fun W hW t=>(HS.out.below hW).row.frozenAt t
    have HCi:Hid (∀ W,Below wr.heap.size wr W→∀ t,t < 4→∃ u,W.cell? ⟨bk,i * 4+t,none⟩=some u):=fun W hW t ht=>by
     have h:=HS.out.below hW
     have hi:i * 4+t < l.length * 4:=by omega
     rw[h.row.cellAt _ hi]
     have:=h.row.1
     exact⟨_,List.getElem?_eq_getElem (by omega)⟩
    have HC:=Lib.hid hcall
    have hgr:bk < wr.heap.size:=lt_cell c0
    clear hcall hy
    generalize zs0[j]'hj0=y at HSk HKp HC
    cases hd:d y.1 with
    | true =>
     have HSk2:=Lib.hid (HSk.out hd)
     rw[hd] at HC
     clear HSk HKp HFz HCi hd
     go_wp2_with (go_at_fn g;go_must (refine(HC.out _ bel).mono ?_;rintro e w7 ⟨rfl,hb7⟩))
     have HB7:Hid (Below wr.heap.size wr w7):=((Below.refl wr.heap.size wr).alloc (Nat.le_refl _) _).trans (hb7.mono (by simp))
     go_roundg (l.length - (j+1))
     case measure=>omega
     case rel=>exact⟨i,j+1,zs,rfl,by go_num,by omega,by omega,Nat.le_refl _,HSk2.out.below HB7.out⟩
    | false =>
     rw[hd] at HC
     have HKp2:Hid (∀ W,Below wr.heap.size wr W→DelSt p B bk l.length cap w zs0 d (i+1) (j+1) (W.setCells bk (i * 4) [.int .i64 y0,.int .i64 y1,.slice a2 n2 k2,.slice a3 n3 k3]) (zs.set i y)):=fun W hW=>HKp.out W hW hd
     clear HSk HKp hd
     go_wp2_with (go_at_fn g;go_must (refine(HC.out _ bel).mono ?_;rintro e w7 ⟨rfl,hb7⟩);have HB7:Hid (Below wr.heap.size wr w7):=((Below.refl wr.heap.size wr).alloc (Nat.le_refl _) _).trans (hb7.mono (by simp));have k7:=keeps_of_below hb7;have e0:=k7 ⟨wr.heap.size,0,none⟩ (.int .i64 y0) (by simp);have e1:=k7 ⟨wr.heap.size,1,none⟩ (.int .i64 y1) (by simp);have e2:=k7 ⟨wr.heap.size,2,none⟩ (.slice a2 n2 k2) (by simp);have e3:=k7 ⟨wr.heap.size,3,none⟩ (.slice a3 n3 k3) (by simp);obtain⟨u0,q0⟩:=HCi.out w7 HB7.out 0 (by omega);obtain⟨u1,q1⟩:=HCi.out w7 HB7.out 1 (by omega);obtain⟨u2,q2⟩:=HCi.out w7 HB7.out 2 (by omega);obtain⟨u3,q3⟩:=HCi.out w7 HB7.out 3 (by omega);rw[Nat.add_zero] at q0;have f0:=HFz.out w7 HB7.out (i * 4);have f1:=HFz.out w7 HB7.out (i * 4+1);have f2:=HFz.out w7 HB7.out (i * 4+2);have f3:=HFz.out w7 HB7.out (i * 4+3);have hil:(i:Int) < (l.length:Int):=(by omega);clear k7)
     go_roundg (l.length - (j+1))
     case measure=>omega
     case rel=>exact⟨i+1,j+1,zs.set i y,by go_num,by go_num,by omega,by omega,Nat.le_refl _,HKp2.out w7 HB7.out⟩
   ·obtain rfl:j=l.length:=by omega
    have hil:i≤l.length:=by omega
    have hrow:=HS.out.row
    have hfz:=fun t=>hrow.frozenAt t
    have hsome:∀ t,t < l.length * 4→(wr.cell? ⟨bk,t,none⟩).isSome=true:=fun t ht=>by
     rw[hrow.cellAt t ht,List.getElem?_eq_getElem (by rw[hrow.1];exact ht)];rfl
    obtain⟨vs,hcl⟩:=clearE (w:=wr) (g:=bk) (o:=i * 4) (n:=l.length - i) (c:=cap - i) (by omega) (fun j hj=>hsome _ (by omega)) (fun j hj=>hfz _)
    have HRes:Hid (edE.Own 69 p (wr.setCells bk (i * 4) vs) B (.slice (some ⟨bk,0,none⟩) i cap) (l.filter fun x=>!d x)):=by
     have h9:=own_setCells vs (i * 4) wr _ hrow
     exact HFin.out i wr zs _ _ HS.out h9.1 (setsAt_take _ _ _) h9.2
    have HG:Hid (w.grownBy (wr.setCells bk (i * 4) vs) (Value.slice (some ⟨bk,0,none⟩) l.length cap).ownBlock):=gr_transE HS.out.gr (own_setCells vs (i * 4) wr _ hrow).2
    have hilz:(i:Int)≤(l.length:Int):=by omega
    have hcap:l.length≤cap:=by
     rcases hrow.2 with ⟨h,_⟩ | ⟨g9,cap',cur,h,_,_,hc,_⟩
     ·simp at h
     ·simp only[Value.slice.injEq] at h;omega
    clear hrow hfz hsome HCall HFin
    go_wp2_with fail
    first | exact HPo.out _ _ HRes.out HG.out | (go_ret;exact HPo.out _ _ HRes.out HG.out)
end Go.Proofs.YthojpomoflhbcaaGreatDoor
namespace Go.Proofs.YthojpomoflhbcaaGreatDoor
open Go.RowKit
attribute [local go_sem ↓] Go.wp_at_zero Go.wp_at_succ
theorem nfaVal_eq (n:NfaD) (x:NfaA):nfaVal n x=.agg #[.int .i64 n.states,.slice x.ae n.edges.length x.ce,.slice x.aa n.accept.length x.ca]:=rfl
def SmallN (n:NfaD):Prop:=∀ e∈n.edges,SmallEd e
set_option maxHeartbeats 8000000 in
set_option maxRecDepth 100000 in
theorem nvalid_any (n:NfaD) (x:NfaA) (w:World) (hG:Glob w) (hE:NfaIn w n x) (hs:SmallN n) :
  Calls Tryz.prog 32 #[nfaVal n x] w fun e' w'=>e'=.returned (.bool (nfaOk n))∧Below w.heap.size w w':=by
 have HG:=Lib.hid hG
 have H1:=Lib.hid hE.es
 have H2:=Lib.hid hE.ac
 have HS:=Lib.hid hs
 have hl1:=hE.es.len
 have hl2:=hE.ac.2.1
 have HA1:=Lib.hid hE.es.addr
 have HA2:Hid (n.accept.length=0∨∃ b off,x.aa=some ⟨b,off,none⟩):=SliceIn.addr hE.ac
 have HR0:Hid (¬ (1≤n.states∧n.states≤256∧n.edges.length≤4096)→nfaOk n=false):=fun h=>by unfold nfaOk;rw[decide_eq_false h];rfl
 have HR1:Hid ((1≤n.states∧n.states≤256∧n.edges.length≤4096)→nfaOk n=(n.edges.all (edgeOk n.states) && accB n.states n.accept n.accept.length)):=fun h=>by unfold nfaOk;rw[decide_eq_true h,Bool.true_and]
 clear hE hG hs
 rw[nfaVal_eq]
 generalize nfaOk n=R at HR0 HR1⊢
 obtain⟨st,es,ac⟩:=n
 obtain⟨ae,ce,aa,ca⟩:=x
 simp only at H1 H2 hl1 hl2 HA1 HA2 HR0 HR1⊢
 have HSt:Hid (∀ e∈es,SmallEd e):=HS.out
 clear HS
 have HB0:Hid (Below w.heap.size w (w.alloc (.cells #[.int .i64 st,.slice ae es.length ce,.slice aa ac.length ca] 33))):=by show Below _ _ _;exact bel
 by_cases hA:st < 1
 ·have hR:=HR0.out (by omega)
  subst hR
  go_enter Tryz.func32, Tryz.ntmps32
  go_wp2_with fail
  go_ret
  exact⟨rfl,HB0.out⟩
 by_cases hB:256 < st
 ·have hR:=HR0.out (by omega)
  subst hR
  go_enter Tryz.func32, Tryz.ntmps32
  go_wp2_with fail
  go_ret
  exact⟨rfl,HB0.out⟩
 by_cases hC:4096 < es.length
 ·have hR:=HR0.out (by omega)
  subst hR
  have hC2:(4096:Int) < (es.length:Int):=by omega
  go_enter Tryz.func32, Tryz.ntmps32
  go_wp2_with fail
  go_ret
  exact⟨rfl,HB0.out⟩
 have HRt:=Lib.hid (HR1.out ⟨by omega,by omega,by omega⟩)
 have hC2:¬ (4096:Int) < (es.length:Int):=by omega
 clear HR0 HR1
 go_enter Tryz.func32, Tryz.ntmps32
 go_wp2_with fail
 generalize hW1:w.alloc (.cells #[.int .i64 st,.slice ae es.length ce,.slice aa ac.length ca] 33)=W1 at HB0⊢
 have HX0:Hid (W1.cell? ⟨w.heap.size,0,none⟩=some (.int .i64 st)):=by show _=_;rw[← hW1];simp
 have HX2:Hid (W1.cell? ⟨w.heap.size,2,none⟩=some (.slice aa ac.length ca)):=by show _=_;rw[← hW1];simp
 have hz1:W1.heap.size=w.heap.size+1:=by rw[← hW1];simp
 have hz1a:w.heap.size < W1.heap.size:=by omega
 clear hW1 hz1 hC hC2
 go_loopw [24,4] (fun i _ wr=>∃ k:Nat,i=.int .i64 k∧k≤es.length∧Hid (∀ j (hj:j < es.length),j < k→edgeOk st (es[j]'hj)=true)∧Hid (Below W1.heap.size W1 wr)) (fun i _ _=>es.length - (intOf i).toNat)
 case atStart=>exact⟨0,rfl,Nat.zero_le _,fun _ _ h=>absurd h (by omega),Below.refl _ _⟩
 case round =>
  obtain⟨k,rfl,hk,HAl,HBr⟩:=hrel
  have HBw:Hid (Below w.heap.size w wr):=HB0.out.trans (HBr.out.mono (by omega))
  have hzr:=HBr.out.size
  by_cases hlt:k < es.length
  ·obtain⟨b,off,ha⟩:=HA1.out.resolve_left (by omega)
   subst ha
   obtain⟨ag,cg,aS,cs,g0,g1,g2,g3,h1,h2⟩:=edE_get H1.out rfl hlt
   have hn:=HSt.out _ (List.getElem_mem hlt)
   have HNx:Hid (edgeOk st (es[k]'hlt)=true→∀ j (hj:j < es.length),j < k+1→edgeOk st (es[j]'hj)=true):=fun hv j hj hjk=>by
    by_cases e:j=k
    ·subst e;exact hv
    ·exact HAl.out j hj (by omega)
   have HNo:Hid (edgeOk st (es[k]'hlt)=false→R=false):=fun h=>by rw[HRt.out,all_no hlt h];rfl
   have HV:=Lib.hid (fun W (hW:Below wr.heap.size wr W)=>nedge_any (es[k]'hlt) ag cg aS cs st W (HG.out.below (HBw.out.trans (hW.mono HBw.out.size))) (h1.keep (keeps_of_below (HBw.out.trans (hW.mono HBw.out.size)))) (h2.keep (keeps_of_below (HBw.out.trans (hW.mono HBw.out.size)))) hn)
   have kk:=keeps_of_below HBw.out
   have c0:=kk _ _ g0
   have c1:=kk _ _ g1
   have c2:=kk _ _ g2
   have c3:=kk _ _ g3
   have x0:∀ o,(wr.alloc o).cell? ⟨w.heap.size,0,none⟩=some (.int .i64 st):=fun o=>Lib.cell?_alloc_some _ ((HBr.out.cell (p:=⟨w.heap.size,0,none⟩) hz1a).trans HX0.out)
   clear g0 g1 g2 g3 kk hn h1 h2
   unfold edVal at HV
   generalize (es[k]'hlt)=y at c0 c1 c2 c3 HNx HNo HV
   cases hv:edgeOk st y with
   | true =>
    have HOk2:=Lib.hid (HNx.out hv)
    rw[hv] at HV
    clear HNx HNo hv
    go_wp2_with (go_at_call 69;go_must (refine(HV.out _ bel).mono ?_;rintro e w5 ⟨rfl,hb5⟩))
    have HB5:Hid (Below wr.heap.size wr w5):=((Below.refl wr.heap.size wr).alloc (Nat.le_refl _) _).trans (hb5.mono (by simp))
    go_roundw
    case rel=>exact⟨k+1,by go_num,by omega,HOk2.out,HBr.out.trans (HB5.out.mono hzr)⟩
    case measure=>(simp[intOf];try omega)
   | false =>
    have hR:=HNo.out hv
    subst hR
    rw[hv] at HV
    clear HNx HNo hv
    go_wp2_with (go_at_call 69;go_must (refine(HV.out _ bel).mono ?_;rintro e w5 ⟨rfl,hb5⟩))
    have HB5:Hid (Below wr.heap.size wr w5):=((Below.refl wr.heap.size wr).alloc (Nat.le_refl _) _).trans (hb5.mono (by simp))
    go_ret
    exact⟨rfl,HBw.out.trans (HB5.out.mono HBw.out.size)⟩
  ·obtain rfl:k=es.length:=by omega
   have HR2:Hid (R=accB st ac ac.length):=by show R=_;rw[HRt.out,all_yes fun j hj=>HAl.out j hj hj,Bool.true_and]
   have x0:=(HBr.out.cell (p:=⟨w.heap.size,0,none⟩) hz1a).trans HX0.out
   have x2:=(HBr.out.cell (p:=⟨w.heap.size,2,none⟩) hz1a).trans HX2.out
   clear HAl HRt HX0 HX2 HA1 H1
   go_wp2_with fail
   go_loop [37,5,6] (fun i _ _=>∃ k:Nat,i=.int .i64 k∧k≤ac.length∧Hid (accB st ac k=true)) (fun i _ _=>ac.length - (intOf i).toNat)
   case atStart=>exact⟨0,rfl,Nat.zero_le _,rfl⟩
   case round =>
    obtain⟨m,rfl,hm,HAm⟩:=hrel
    by_cases hlt2:m < ac.length
    ·obtain⟨b,off,ha⟩:=HA2.out.resolve_left (by omega)
     subst ha
     have g0:=(keeps_of_below HBw.out) _ _ (H2.out.get rfl hlt2)
     have HNo:Hid (decide (0≤ac.getD m 0∧ac.getD m 0 < st∧(0 < m→ac.getD (m - 1) 0 < ac.getD m 0))=false→R=false):=fun h=>by rw[HR2.out];exact accB_no hlt2 h
     have HNx:Hid ((0≤ac.getD m 0∧ac.getD m 0 < st∧(0 < m→ac.getD (m - 1) 0 < ac.getD m 0))→accB st ac (m+1)=true):=fun h=>by rw[accB_succ,HAm.out,decide_eq_true h];rfl
     cases m with
     | zero =>
      rw[Nat.add_zero] at g0
      generalize ac.getD 0 0=y at g0 HNo HNx
      by_cases h1:y < 0
      ·have hR:=HNo.out (decide_eq_false (by omega))
       subst hR
       clear HNo HNx
       go_wp2_with fail
       go_ret
       exact⟨rfl,HBw.out⟩
      by_cases h2:st≤y
      ·have hR:=HNo.out (decide_eq_false (by omega))
       subst hR
       clear HNo HNx
       go_wp2_with fail
       go_ret
       exact⟨rfl,HBw.out⟩
      have HA2':=Lib.hid (HNx.out ⟨by omega,by omega,fun h=>absurd h (Nat.lt_irrefl 0)⟩)
      clear HNo HNx
      go_wp2_with fail
      go_round
      case rel=>exact⟨1,by go_num,by omega,HA2'.out⟩
      case measure=>(simp[intOf];try omega)
     | succ m =>
      have g1:=(keeps_of_below HBw.out) _ _ (H2.out.get rfl (show m < ac.length by omega))
      rw[Nat.add_sub_cancel] at HNo HNx
      generalize ac.getD (m+1) 0=y at g0 HNo HNx
      generalize ac.getD m 0=z at g1 HNo HNx
      by_cases h1:y < 0
      ·have hR:=HNo.out (decide_eq_false (by omega))
       subst hR
       clear HNo HNx
       go_wp2_with fail
       go_ret
       exact⟨rfl,HBw.out⟩
      by_cases h2:st≤y
      ·have hR:=HNo.out (decide_eq_false (by omega))
       subst hR
       clear HNo HNx
       go_wp2_with fail
       go_ret
       exact⟨rfl,HBw.out⟩
      by_cases h3:y≤z
      ·have hR:=HNo.out (decide_eq_false (by omega))
       subst hR
       clear HNo HNx
       go_wp2_with fail
       go_ret
       exact⟨rfl,HBw.out⟩
      have HA2':=Lib.hid (HNx.out ⟨by omega,by omega,fun _=>by omega⟩)
      clear HNo HNx
      go_wp2_with fail
      go_round
      case rel=>exact⟨m+1+1,by go_num,by omega,HA2'.out⟩
      case measure=>(simp[intOf];try omega)
    ·obtain rfl:m=ac.length:=by omega
     have hR:R=true:=by rw[HR2.out,HAm.out]
     subst hR
     go_wp2_with fail
     go_ret
     exact⟨rfl,HBw.out⟩
end Go.Proofs.YthojpomoflhbcaaGreatDoor
namespace Go.Proofs.YthojpomoflhbcaaGreatDoor
open Go.RowKit
attribute [local go_sem ↓] Go.wp_at_zero Go.wp_at_succ
theorem firstP:DPred 206 #[] (fun x=>!(x.fr == 0)) (fun _=>True):=by
 rintro W x vs _ ⟨ag,cg,aS,cs,rfl,_⟩
 show Calls _ _ #[.agg #[.int .i64 x.fr,.int .i64 x.to,.slice ag x.guards.length cg,.slice aS x.sets.length cs]] W fun e W'=>e=.returned (.bool (!(x.fr == 0)))∧Below W.heap.size W W'
 by_cases h:x.fr=0
 ·have h1:(x.fr != 0)=false:=by simp[h]
  have h2:(!(x.fr == 0))=false:=by simp[h]
  rw[h2]
  go_enter Tryz.func206, Tryz.ntmps206
  go_wp2_with fail
  go_ret
  exact⟨rfl,bel⟩
 ·have h1:(x.fr != 0)=true:=by simp[h]
  have h2:(!(x.fr == 0))=true:=by simp[h]
  rw[h2]
  go_enter Tryz.func206, Tryz.ntmps206
  go_wp2_with fail
  go_ret
  exact⟨rfl,bel⟩
theorem othersP:DPred 209 #[] (fun x=>x.fr == 0) (fun _=>True):=by
 rintro W x vs _ ⟨ag,cg,aS,cs,rfl,_⟩
 show Calls _ _ #[.agg #[.int .i64 x.fr,.int .i64 x.to,.slice ag x.guards.length cg,.slice aS x.sets.length cs]] W fun e W'=>e=.returned (.bool (x.fr == 0))∧Below W.heap.size W W'
 by_cases h:x.fr=0
 ·have h1:(x.fr == 0)=true:=by simp[h]
  rw[h1]
  go_enter Tryz.func209, Tryz.ntmps209
  go_wp2_with fail
  go_ret
  exact⟨rfl,bel⟩
 ·have h1:(x.fr == 0)=false:=by simp[h]
  rw[h1]
  go_enter Tryz.func209, Tryz.ntmps209
  go_wp2_with fail
  go_ret
  exact⟨rfl,bel⟩
def EdsRet (p:Nat→Bool) (l:List EdgeD) (w:World) (e:Ending) (w':World):Prop:=(∃ a c,e=.returned (.slice a l.length c)∧edE.In (World.hide w' p) l a c)∧Below w.heap.size w w'
theorem below_gr {B:Nat} {w0 w w':World} {row:Option Nat} (h:Below B w0 w) (hg:w.grownBy w' row) (hB:B≤w.heap.size) (hr:∀ k,row=some k→B≤k):Below B w0 w':=h.grown hg hB hr
theorem first_flt (n:NfaD):(n.edges.filter fun x=>!((fun x=>!(x.fr == 0)) x))=firstL n:=by
 unfold firstL
 congr 1
 try (funext x;simp)
set_option maxHeartbeats 4000000 in
set_option maxRecDepth 100000 in
theorem first_any (p:Nat→Bool) (n:NfaD) (x:NfaA) (w:World) (hE:edE.In (World.hide w p) n.edges x.ae x.ce) (hp:∀ k,p k=true→k < w.heap.size) :
  Calls Tryz.prog 137 #[nfaVal n x] w (EdsRet p (firstL n) w):=by
 have eg:∀ args w,(callFunc 206 args).run Tryz.prog w=.ok (.enter 206 args) w:=enters_of Tryz.func206 (by kernel_rfl) rfl
 have hlen:=hE.len
 have HE:=Lib.hid hE
 have HPo:Hid (∀ v w',edE.Own 69 p w' w.heap.size v (firstL n)→Below w.heap.size w w'→∃ a c,v=.slice a (firstL n).length c∧EdsRet p (firstL n) w (.returned v) w'):=fun v w' h1 h2=>by
  have hl:(firstL n).length≤n.edges.length:=List.length_filter_le _ _
  obtain⟨a,c,rfl,h3⟩:=h1.sliceP (by omega) fun k hk=>by
   cases h:p k with
   | false=>rfl
   | true=>have:=hp k h;omega
  exact⟨a,c,rfl,⟨a,c,rfl,h3⟩,h2⟩
 have HD:Hid (∀ W v,w.heap.size≤W.heap.size→edE.Own 69 p W w.heap.size v n.edges→Calls Tryz.prog 204 #[v,.func (.func 206) #[] #[]] W (DelPost p w.heap.size v (firstL n) W)):=fun W v hW h=>by
  rw[← first_flt]
  exact deleteF_any _ eg #[] _ _ firstP (fun _ _ _ _=>trivial) p _ v (fun _ _ _ _=>trivial) n.edges W h trivial hlen
 have HC:Hid (∀ W,Below w.heap.size w W→Calls Tryz.prog 205 #[.slice x.ae n.edges.length x.ce] W (ClPost edE 69 p n.edges W)):=fun W hW=>cloneED p n.edges x.ae x.ce W (HE.out.keep (hide_below hW fun _ _ h=>h))
 clear hE hp eg
 rw[nfaVal_eq]
 generalize EdsRet p (firstL n) w=Po at HPo⊢
 generalize firstL n=R at HPo HD
 have hz0:w.heap.size+1≤(w.alloc (.cells #[.int .i64 n.states,.slice x.ae n.edges.length x.ce,.slice x.aa n.accept.length x.ca] 33)).heap.size:=by simp
 go_enter Tryz.func137, Tryz.ntmps137
 go_wp2_with fail
 refine(HC.out _ bel).mono ?_
 rintro e w5 ⟨⟨v,rfl,hO⟩,hb5⟩
 have hO2:edE.Own 69 p w5 w.heap.size v n.edges:=by
  obtain⟨xs,h1,h2⟩:=hO
  refine⟨xs,⟨h1.1,h1.2.imp id ?_⟩,h2⟩
  rintro ⟨g,cap,cur,q1,q2,q3⟩
  exact⟨g,cap,cur,q1,by omega,q3⟩
 have HOw:=Lib.hid hO2
 have Hb5:Hid (Below w.heap.size w w5):=((Below.refl w.heap.size w).alloc (Nat.le_refl _) _).trans (hb5.mono (by simp))
 have hz5:=Hb5.out.size
 obtain⟨va,vc,hv,_⟩:=hO.slice hlen
 subst hv
 have HDl:=Lib.hid (HD.out w5 _ hz5 hO2)
 clear hO hO2 hb5 HC HD
 go_wp2_with fail
 refine HDl.out.mono ?_
 rintro e w6 ⟨v',rfl,hO6,hg6⟩
 have HB6:Hid (Below w.heap.size w w6):=below_gr Hb5.out hg6 hz5 fun k hk=>by
  obtain⟨xs,h1,_⟩:=HOw.out
  exact(h1.lt k hk).1
 obtain⟨a6,c6,hv,h6⟩:=HPo.out v' w6 hO6 HB6.out
 subst hv
 have H6:=Lib.hid h6
 clear h6 hO6 hg6
 go_wp2_with fail
 first | exact H6.out | (go_ret;exact H6.out)
theorem others_flt (n:NfaD):(n.edges.filter fun x=>!((fun x=>x.fr == 0) x))=othersL n:=by
 unfold othersL
 congr 1
 try (funext x;simp)
set_option maxHeartbeats 4000000 in
set_option maxRecDepth 100000 in
theorem others_any (p:Nat→Bool) (n:NfaD) (x:NfaA) (w:World) (hE:edE.In (World.hide w p) n.edges x.ae x.ce) (hp:∀ k,p k=true→k < w.heap.size) :
  Calls Tryz.prog 141 #[nfaVal n x] w (EdsRet p (othersL n) w):=by
 have eg:∀ args w,(callFunc 209 args).run Tryz.prog w=.ok (.enter 209 args) w:=enters_of Tryz.func209 (by kernel_rfl) rfl
 have hlen:=hE.len
 have HE:=Lib.hid hE
 have HPo:Hid (∀ v w',edE.Own 69 p w' w.heap.size v (othersL n)→Below w.heap.size w w'→∃ a c,v=.slice a (othersL n).length c∧EdsRet p (othersL n) w (.returned v) w'):=fun v w' h1 h2=>by
  have hl:(othersL n).length≤n.edges.length:=List.length_filter_le _ _
  obtain⟨a,c,rfl,h3⟩:=h1.sliceP (by omega) fun k hk=>by
   cases h:p k with
   | false=>rfl
   | true=>have:=hp k h;omega
  exact⟨a,c,rfl,⟨a,c,rfl,h3⟩,h2⟩
 have HD:Hid (∀ W v,w.heap.size≤W.heap.size→edE.Own 69 p W w.heap.size v n.edges→Calls Tryz.prog 204 #[v,.func (.func 209) #[] #[]] W (DelPost p w.heap.size v (othersL n) W)):=fun W v hW h=>by
  rw[← others_flt]
  exact deleteF_any _ eg #[] _ _ othersP (fun _ _ _ _=>trivial) p _ v (fun _ _ _ _=>trivial) n.edges W h trivial hlen
 have HC:Hid (∀ W,Below w.heap.size w W→Calls Tryz.prog 205 #[.slice x.ae n.edges.length x.ce] W (ClPost edE 69 p n.edges W)):=fun W hW=>cloneED p n.edges x.ae x.ce W (HE.out.keep (hide_below hW fun _ _ h=>h))
 clear hE hp eg
 rw[nfaVal_eq]
 generalize EdsRet p (othersL n) w=Po at HPo⊢
 generalize othersL n=R at HPo HD
 have hz0:w.heap.size+1≤(w.alloc (.cells #[.int .i64 n.states,.slice x.ae n.edges.length x.ce,.slice x.aa n.accept.length x.ca] 33)).heap.size:=by simp
 go_enter Tryz.func141, Tryz.ntmps141
 go_wp2_with fail
 refine(HC.out _ bel).mono ?_
 rintro e w5 ⟨⟨v,rfl,hO⟩,hb5⟩
 have hO2:edE.Own 69 p w5 w.heap.size v n.edges:=by
  obtain⟨xs,h1,h2⟩:=hO
  refine⟨xs,⟨h1.1,h1.2.imp id ?_⟩,h2⟩
  rintro ⟨g,cap,cur,q1,q2,q3⟩
  exact⟨g,cap,cur,q1,by omega,q3⟩
 have HOw:=Lib.hid hO2
 have Hb5:Hid (Below w.heap.size w w5):=((Below.refl w.heap.size w).alloc (Nat.le_refl _) _).trans (hb5.mono (by simp))
 have hz5:=Hb5.out.size
 obtain⟨va,vc,hv,_⟩:=hO.slice hlen
 subst hv
 have HDl:=Lib.hid (HD.out w5 _ hz5 hO2)
 clear hO hO2 hb5 HC HD
 go_wp2_with fail
 refine HDl.out.mono ?_
 rintro e w6 ⟨v',rfl,hO6,hg6⟩
 have HB6:Hid (Below w.heap.size w w6):=below_gr Hb5.out hg6 hz5 fun k hk=>by
  obtain⟨xs,h1,_⟩:=HOw.out
  exact(h1.lt k hk).1
 obtain⟨a6,c6,hv,h6⟩:=HPo.out v' w6 hO6 HB6.out
 subst hv
 have H6:=Lib.hid h6
 clear h6 hO6 hg6
 go_wp2_with fail
 first | exact H6.out | (go_ret;exact H6.out)
end Go.Proofs.YthojpomoflhbcaaGreatDoor
