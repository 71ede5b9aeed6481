/- The reference of problems: distributions. -/
import Derived.Test.YtcplmcjbkpmhdaaGreatDoorKH
import Derived.Laws.OwnMore
import Derived.Laws.Rows
import Derived.OneCell
set_option linter.unusedSimpArgs false
set_option linter.unusedVariables false
set_option linter.unnecessarySimpa false
namespace Go.Proofs.YtcplmcjbkpmhdaaGreatDoor
open Go.RowKit
theorem randV_of {l:List VarD} {n:Nat} (h:n < l.length):RandV l (n:Int)↔(l[n]'h).mode≠0:=by
 unfold RandV
 rw[Int.toNat_natCast,List.getElem?_eq_getElem h]
 simp
theorem randV_neg {l:List VarD} {i:Int} (h:i < 0):¬ RandV l i:=fun h'=>by have:=h'.1;omega
theorem randV_big {l:List VarD} {i:Int} (h:(l.length:Int)≤i):¬ RandV l i:=fun ⟨h0,x,hx,_⟩=>by
 rw[List.getElem?_eq_none (by omega)] at hx;simp at hx
theorem weightB_iff (v:WeightD):weightB v=true↔0≤v.lo∧v.lo≤v.hi∧v.hi≤65535∧0≤v.weight∧v.weight≤1000:=by
 unfold weightB;simp only[Bool.and_eq_true,decide_eq_true_eq];omega
set_option maxRecDepth 100000 in
set_option maxHeartbeats 8000000 in
theorem r14dists_any (l:List VarD) (av:Option Addr) (cv:Nat) (x:List DistD) (a:Option Addr) (cap:Nat) (w:World) (hV:VarsIn w l av cv) (hE:DistsIn w x a cap) :
  Calls Tryz.prog 73 #[.slice av l.length cv,.slice a x.length cap] w fun r w'=>ErrIff (DistsOk l x) r∧Below w.heap.size w w':=by
 have hlen:=hE.2.1
 have hlenV:=hV.2.1
 have HA:=Lib.hid hE.addr
 have HAV:=Lib.hid hV.addr
 have HE:=Lib.hid hE
 have HV:=Lib.hid hV
 clear hE hV
 go_enter Tryz.func73, Tryz.ntmps73
 go_wp2_with fail
 go_loopw [5,6,7,8] (fun i _ _ _ wr=>∃ k:Nat,i=.int .i64 k∧k≤x.length∧(∀ j (hj:j < x.length),j < k→DistOk l x j (x[j]'hj))∧Below w.heap.size w wr) (fun i _ _ _ _=>x.length - (intOf i).toNat)
 case atStart=>exact⟨0,rfl,Nat.zero_le _,fun _ _ h=>absurd h (by omega),Below.refl _ _⟩
 case round =>
  obtain⟨k,rfl,hk,hall,hBr⟩:=hrel
  have HAl:=Lib.hid hall
  clear hall
  by_cases hlt:k < x.length
  ·obtain⟨b,off,ha⟩:=HA.out.resolve_left (by omega)
   subst ha
   obtain⟨aw,cw,g0,g1,hW⟩:=HE.out.get rfl hlt
   have HNx:Hid (DistOk l x k (x[k]'hlt)→∀ j (hj:j < x.length),j < k+1→DistOk l x j (x[j]'hj)):=fun hv j hj hjk=>by
    by_cases e:j=k
    ·subst e;exact hv
    ·exact HAl.out j hj (by omega)
   have HNo:Hid (¬ DistOk l x k (x[k]'hlt)→¬ DistsOk l x):=fun h h'=>h (h' k hlt)
   generalize (x[k]'hlt)=d at g0 g1 hW HNx HNo
   obtain⟨var,ws⟩:=d
   simp only at g0 g1 hW
   have hlenW:=hW.2.1
   have G0:=Lib.hid g0
   have G1:=Lib.hid g1
   have HW:=Lib.hid hW
   have HAW:=Lib.hid hW.addr
   have c0:=(keeps_of_below hBr) _ _ g0
   have c1:=(keeps_of_below hBr) _ _ g1
   have HBr:=Lib.hid hBr
   clear g0 g1 hW hBr
   by_cases hneg:var < 0
   ·have HNo':=Lib.hid (HNo.out (fun h=>randV_neg hneg h.var))
    have hd:decide (var < 0)=true:=decide_eq_true hneg
    go_wp2_with fail
    go_ret
    exact⟨.no HNo'.out (by decide),HBr.out⟩
   ·by_cases hbig:(l.length:Int)≤var
    ·have HNo':=Lib.hid (HNo.out (fun h=>randV_big hbig h.var))
     have hd:decide ((l.length:Int)≤var)=true:=decide_eq_true hbig
     go_wp2_with fail
     go_ret
     exact⟨.no HNo'.out (by decide),HBr.out⟩
    ·obtain⟨n,rfl⟩:=Int.eq_ofNat_of_zero_le (show 0≤var by omega)
     have hn:n < l.length:=by omega
     obtain⟨bv,ov,hav⟩:=HAV.out.resolve_left (by omega)
     subst hav
     obtain⟨_,_,m0,_,_⟩:=HV.out.get rfl hn
     have HM:=Lib.hid (randV_of hn)
     have cm:=(keeps_of_below HBr.out) _ _ m0
     generalize (l[n]'hn).mode=mode at cm HM
     by_cases hm:mode=0
     ·have HNo':=Lib.hid (HNo.out (fun h=>(HM.out.1 h.var) hm))
      subst hm
      clear m0
      go_wp2_with fail
      go_ret
      exact⟨.no HNo'.out (by decide),HBr.out⟩
     ·have HR:=Lib.hid (HM.out.2 hm)
      have hm':=op_ne hm
      clear hm HM m0
      go_wp2_with fail
      go_loopw [6] (fun i wr=>∃ q:Nat,i=.int .i64 q∧q≤k∧(∀ j (hj:j < x.length),j < q→(x[j]'hj).var≠(n:Int))∧Below w.heap.size w wr) (fun i _=>k - (intOf i).toNat)
      case atStart=>exact⟨0,rfl,Nat.zero_le _,fun _ _ h=>absurd h (by omega),HBr.out⟩
      case round =>
       obtain⟨q,rfl,hq,hall,hBq⟩:=hrel
       have HDl:=Lib.hid hall
       clear hall
       have HBq:=Lib.hid hBq
       by_cases hqk:q < k
       ·have hqx:q < x.length:=by omega
        obtain⟨_,_,q0,_,_⟩:=HE.out.get rfl hqx
        have HQ:Hid ((x[q]'hqx).var=(n:Int)→¬ DistOk l x k ⟨(n:Int),ws⟩):=fun he h=>h.dup q hqx hqk he
        have HQn:Hid ((x[q]'hqx).var≠(n:Int)→∀ j (hj:j < x.length),j < q+1→(x[j]'hj).var≠(n:Int)):=fun hv j hj hjk=>by
         by_cases e:j=q
         ·subst e;exact hv
         ·exact HDl.out j hj (by omega)
        generalize (x[q]'hqx).var=u at q0 HQ HQn
        have cq:∀ g:Grow w.heap.size w,g.w'.cell? ⟨b,off+q * 2,none⟩=some (.int .i64 u):=Grow.old q0 (Nat.le_refl _)
        have cn:∀ g:Grow w.heap.size w,g.w'.cell? ⟨b,off+k * 2,none⟩=some (.int .i64 n):=Grow.old G0.out (Nat.le_refl _)
        clear q0 c0 c1 cm
        by_cases hu:u=(n:Int)
        ·have HNo':=Lib.hid (HNo.out (HQ.out hu))
         subst hu
         go_wp2_with fail
         (refine wp_region_grow (B:=w.heap.size) (w0:=w) (by kernel_rfl) (by kernel_rfl) bel ?_;(repeat (go_big_quiet_step (fail)));refine wpQuiet_nil ?_;intro wg hCg;have hbg:=grow_out hCg;clear hCg)
         go_wp2_with fail
         go_ret
         exact⟨.no HNo'.out (by decide),by assumption⟩
        ·have HQ':=Lib.hid (HQn.out hu)
         have hu':=op_ne hu
         clear hu
         go_wp2_with fail
         (refine wp_region_grow (B:=w.heap.size) (w0:=w) (by kernel_rfl) (by kernel_rfl) bel ?_;(repeat (go_big_quiet_step (fail)));refine wpQuiet_nil ?_;intro wg hCg;have hbg:=grow_out hCg;clear hCg)
         go_wp2_with fail
         go_roundw
         case rel=>exact⟨q+1,by go_num,by omega,HQ'.out,by assumption⟩
         case measure=>simp[intOf];omega
       ·obtain rfl:q=k:=by omega
        have c0:=(keeps_of_below hBq) _ _ G0.out
        have c1:=(keeps_of_below hBq) _ _ G1.out
        clear hBq cm
        by_cases h16:ws.length≤16
        ·go_wp2_with fail
         go_loopw [7,8] (fun i _ wr=>∃ r:Nat,i=.int .i64 r∧r≤ws.length∧(∀ j (hj:j < ws.length),j < r→weightB (ws[j]'hj)=true)∧Below w.heap.size w wr) (fun i _ _=>ws.length - (intOf i).toNat)
         case atStart=>exact⟨0,rfl,Nat.zero_le _,fun _ _ h=>absurd h (by omega),HBq.out⟩
         case round =>
          obtain⟨r,rfl,hr,hall,hBs⟩:=hrel
          have HWl:=Lib.hid hall
          clear hall c0
          have c1:=(keeps_of_below hBs) _ _ G1.out
          by_cases hrl:r < ws.length
          ·obtain⟨bw,ow,haw⟩:=HAW.out.resolve_left (by omega)
           subst haw
           obtain⟨w0,w1,w2,w3⟩:=HW.out.get rfl hrl
           have kk:=keeps_of_below hBs
           have d0:=kk _ _ w0
           have d1:=kk _ _ w1
           have d2:=kk _ _ w2
           have d3:=kk _ _ w3
           have HWn:Hid (weightB (ws[r]'hrl)=true→∀ j (hj:j < ws.length),j < r+1→weightB (ws[j]'hj)=true):=fun hv j hj hjk=>by
            by_cases e:j=r
            ·subst e;exact hv
            ·exact HWl.out j hj (by omega)
           have HWo:Hid (¬ weightB (ws[r]'hrl)=true→¬ DistOk l x q ⟨(n:Int),ws⟩):=fun h h'=>h (h'.ok _ (List.getElem_mem hrl))
           generalize (ws[r]'hrl)=v at d0 d1 d2 d3 HWn HWo
           obtain⟨lo,hi,wt,each⟩:=v
           simp only[weightB_iff] at d0 d1 d2 d3 HWn HWo
           have hzs:=hBs.size
           clear w0 w1 w2 w3 kk
           by_cases hw:0≤lo∧lo≤hi∧hi≤65535∧0≤wt∧wt≤1000
           ·have HWn':=Lib.hid (HWn.out hw)
            obtain⟨w1,w2,w3,w4,w5⟩:=hw
            clear HWn HWo
            go_wp2_with fail
            go_roundw
            case rel=>exact⟨r+1,by go_num,by omega,by simpa only [weightB_iff] using HWn'.out,bel⟩
            case measure=>simp[intOf];omega
           ·have HNo':=Lib.hid (HNo.out (HWo.out hw))
            clear HWn HWo
            go_wp2_with fail
            all_goals first
             | (exfalso;omega)
             | (go_ret;exact⟨.no HNo'.out (by decide),bel⟩)
          ·obtain rfl:r=ws.length:=by omega
           have HOk:=Lib.hid (HNx.out ⟨HR.out,fun j hj hjq=>HDl.out j hj hjq,h16,fun y hy=>by
            obtain⟨j,hj,rfl⟩:=List.getElem_of_mem hy
            exact HWl.out j hj hj⟩)
           have HBs:=Lib.hid hBs
           clear hBs
           go_wp2_with fail
           go_roundw
           case rel=>exact⟨q+1,by go_num,by omega,HOk.out,HBs.out⟩
           case measure=>simp[intOf];omega
        ·have HNo':=Lib.hid (HNo.out (fun h=>h16 h.len))
         have h16':17≤ws.length:=by omega
         clear h16
         go_wp2_with fail
         go_ret
         exact⟨.no HNo'.out (by decide),HBq.out⟩
  ·obtain rfl:k=x.length:=by omega
   go_wp2_with fail
   go_ret
   exact⟨ErrIff.congr (.yes trivial) ⟨fun _ i h=>HAl.out i h h,fun _=>trivial⟩,hBr⟩
end Go.Proofs.YtcplmcjbkpmhdaaGreatDoor
namespace Go.Proofs.YtcplmcjbkpmhdaaGreatDoor
open Go.RowKit
def FRow (w:World) (b:Nat) (t:TypeId) (n:Nat) (f:Nat→Value):Prop:=w.heap[b]? = some (.cells ((List.range n).map f).toArray t (0,0))
theorem FRow.cell {w:World} {b:Nat} {t:TypeId} {n:Nat} {f:Nat→Value} (h:FRow w b t n f) {i:Nat} (hi:i < n):w.cell? ⟨b,i,none⟩=some (f i):=by
 unfold FRow at h
 simp[World.cell?,h,hi]
theorem FRow.free {w:World} {b:Nat} {t:TypeId} {n:Nat} {f:Nat→Value} (h:FRow w b t n f) (i:Nat):w.frozen? ⟨b,i,none⟩=false:=by
 unfold FRow at h
 simp[World.frozen?,h]
theorem FRow.lt {w:World} {b:Nat} {t:TypeId} {n:Nat} {f:Nat→Value} (h:FRow w b t n f):b < w.heap.size:=lt_of_block h
theorem FRow.set {w:World} {b:Nat} {t:TypeId} {n:Nat} {f:Nat→Value} (h:FRow w b t n f) {i:Nat} (hi:i < n) (u:Value):FRow (w.setCell ⟨b,i,none⟩ u) b t n (fun j=>if j=i then u else f j):=by
 unfold FRow at h⊢
 have hlt:=lt_of_block h
 have:=heap_setCell_same w b i _ t u h
 rw[this]
 congr 2
 apply Array.ext'
 apply List.ext_getElem?
 intro j
 simp only[Array.toList_setIfInBounds,List.getElem?_set,List.toList_toArray,List.length_map,List.length_range]
 by_cases e:i=j
 ·subst e;simp[hi]
 ·have e':¬ j=i:=fun h=>e h.symm
  simp only[e,if_false,List.getElem?_map]
  cases hr:(List.range n)[j]? with
  | none=>rfl
  | some q =>
   have:q=j:=by
    rw[List.getElem?_eq_some_iff] at hr
    obtain⟨_,h⟩:=hr
    simpa using h.symm
   subst this
   simp[e']
theorem FRow.congr {w:World} {b:Nat} {t:TypeId} {n:Nat} {f g:Nat→Value} (h:FRow w b t n f) (hfg:∀ i,i < n→f i=g i):FRow w b t n g:=by
 unfold FRow at h⊢
 rw[h]
 congr 3
 apply List.map_congr_left
 intro i hi
 exact hfg i (by simpa using hi)
theorem FRow.keep {w w':World} {b:Nat} {t:TypeId} {n:Nat} {f:Nat→Value} (h:FRow w b t n f) (hb:Below w.heap.size w w'):FRow w' b t n f:=by
 unfold FRow at h⊢
 rw[hb.block _ (lt_of_block h)];exact h
theorem frow_new (w:World) (t:TypeId) (n:Nat) (z:Value):FRow (w.alloc (.cells (List.replicate n z).toArray t)) w.heap.size t n (fun _=>z):=by
 unfold FRow
 have:(List.range n).map (fun _=>z)=List.replicate n z:=by
  rw[List.map_const',List.length_range]
 rw[this]
 exact heap_alloc_new' _ _
theorem mk_row {P:Program} {t e:TypeId} {z:Value} {bytes:Nat} (ht:P.underlying t=some (.slice e)) (hi:(P.info? e).map (fun i=>(i.zero,i.size,i.bytes))=some (some z,1,bytes)) (hz:z.cells=#[z]) (hb:bytes≤64) (n:Nat) (h:n≤1073741824) (w:World) :
  (Instr.makeSlice t (.int .i64 n) (.int .i64 n)).run P w=.ok (.slice (some ⟨w.heap.size,0,none⟩) n n) (w.alloc (.cells (List.replicate n z).toArray e)):=by
 obtain⟨i,h1,h2,h3,h4⟩:=info_parts hi
 have hbb:(i.bytes:Int) * (n:Int)≤281474976710656:=by
  have h5:i.bytes * n≤64 * 1073741824:=Nat.mul_le_mul (by omega) h
  have h6:((i.bytes * n:Nat):Int)≤((64 * 1073741824:Nat):Int):=Int.ofNat_le.2 h5
  rw[Int.natCast_mul] at h6
  omega
 have:=run_make (P:=P) w t e i z ht h1 h2 .i64 .i64 n n (by omega) (by omega) hbb (by omega)
 rw[this,h3,hz,Int.toNat_natCast,Nat.mul_one,← toList_madeCells_one]
theorem mk_ints (n:Nat) (h:n≤1073741824) (w:World):(Instr.makeSlice 30 (.int .i64 n) (.int .i64 n)).run Tryz.prog w=.ok (.slice (some ⟨w.heap.size,0,none⟩) n n) (w.alloc (.cells (List.replicate n (Value.int .i64 0)).toArray 3)) :=
 mk_row (bytes:=8) Tryz.underlying30 (by kernel_rfl) rfl (by decide) n h w
theorem mk_bools (n:Nat) (h:n≤1073741824) (w:World):(Instr.makeSlice 89 (.int .i64 n) (.int .i64 n)).run Tryz.prog w=.ok (.slice (some ⟨w.heap.size,0,none⟩) n n) (w.alloc (.cells (List.replicate n (Value.bool false)).toArray 4)) :=
 mk_row (bytes:=1) Tryz.underlying89 (by kernel_rfl) rfl (by decide) n h w
def CntRow (w:World) (b n:Nat) (pf:List Int):Prop:=FRow w b 3 n (fun i=>.int .i64 (pf.count (i:Int):Nat))
theorem CntRow.add {w:World} {b n:Nat} {pf:List Int} (h:CntRow w b n pf) {i:Nat} (hi:i < n):CntRow (w.setCell ⟨b,i,none⟩ (.int .i64 ((pf.count (i:Int):Nat)+1))) b n (pf++[(i:Int)]):=by
 refine(FRow.set h hi _).congr fun j hj=>?_
 by_cases e:j=i
 ·subst e
  rw[if_pos rfl,List.count_append]
  simp
 ·rw[if_neg e,List.count_append]
  have:¬ (i:Int)=(j:Int):=by omega
  simp[List.count_cons,this]
def SeenRow (w:World) (b n:Nat) (pf:List Int):Prop:=FRow w b 4 n (fun i=>.bool (pf.contains (i:Int)))
theorem SeenRow.add {w:World} {b n:Nat} {pf:List Int} (h:SeenRow w b n pf) {i:Nat} (hi:i < n):SeenRow (w.setCell ⟨b,i,none⟩ (.bool true)) b n (pf++[(i:Int)]):=by
 refine(FRow.set h hi _).congr fun j hj=>?_
 by_cases e:j=i
 ·subst e
  simp
 ·rw[if_neg e]
  have:¬ (j:Int)=(i:Int):=by omega
  simp[this]
def preG (x:List (List Int)) (k:Nat):List Int:=(x.take k).flatten
theorem preG_succ (x:List (List Int)) (k:Nat) (h:k < x.length):preG x (k+1)=preG x k++x[k]'h:=by
 unfold preG
 rw[List.take_succ_eq_append_getElem h,List.flatten_append]
 simp
theorem preG_all (x:List (List Int)):preG x x.length=x.flatten:=by unfold preG;rw[List.take_of_length_le (Nat.le_refl _)]
theorem preG_len {x:List (List Int)} {M:Nat} (h:∀ g,g∈x→g.length≤M):∀ k,(preG x k).length≤k * M:=by
 intro k
 induction k with
 | zero=>simp[preG]
 | succ k ih =>
  by_cases hk:k < x.length
  ·rw[preG_succ x k hk,List.length_append,Nat.add_mul,Nat.one_mul]
   have:=h _ (List.getElem_mem hk)
   omega
  ·have:preG x (k+1)=preG x k:=by
    unfold preG;rw[List.take_of_length_le (by omega),List.take_of_length_le (by omega)]
   rw[this,Nat.add_mul]
   omega
theorem take_snocI (g:List Int) (q:Nat) (h:q < g.length):g.take (q+1)=g.take q++[g[q]'h]:=List.take_succ_eq_append_getElem h
end Go.Proofs.YtcplmcjbkpmhdaaGreatDoor
namespace Go.Proofs.YtcplmcjbkpmhdaaGreatDoor
open Go.RowKit
theorem intsIn_get {w:World} {l:List Int} {a:Option Addr} {cap:Nat} (h:IntsIn w l a cap) {b off:Nat} (ha:a=some ⟨b,off,none⟩) {i:Nat} (hi:i < l.length):w.cell? ⟨b,off+i,none⟩=some (.int .i64 (l[i]'hi)):=by
 have:=h.get ha hi
 rw[this,List.getD_eq_getElem?_getD,List.getElem?_eq_getElem hi];rfl
theorem RowsIn.len {w:World} {l:List (List Int)} {a:Option Addr} {cap:Nat} (h:RowsIn w l a cap):∀ g,g∈l→g.length≤1073741824:=by
 intro g hg
 obtain⟨i,hi,rfl⟩:=List.getElem_of_mem hg
 obtain⟨b,off,ha⟩:=h.addr.resolve_left (by omega)
 obtain⟨a',cap',_,h2⟩:=h.get ha hi
 exact h2.2.1
set_option maxRecDepth 100000 in
set_option maxHeartbeats 8000000 in
theorem r14groups_any (l:List VarD) (av:Option Addr) (cv:Nat) (x:List (List Int)) (a:Option Addr) (cap:Nat) (w:World) (hV:VarsIn w l av cv) (hE:RowsIn w x a cap) :
  Calls Tryz.prog 74 #[.slice av l.length cv,.slice a x.length cap] w fun r w'=>r=.returned (.bool (pB (GroupsOk l x)))∧Below w.heap.size w w':=by
 have hlen:=hE.2.1
 have hlenV:=hV.2.1
 have HA:=Lib.hid hE.addr
 have HAV:=Lib.hid hV.addr
 have HE:=Lib.hid hE
 have HV:=Lib.hid hV
 have HLn:=Lib.hid hE.len
 have hmk:=mk_ints l.length hlenV
 clear hE hV
 go_enter Tryz.func74, Tryz.ntmps74
 go_wp2_with fail
 clear hmk
 go_loopw [6,7,8] (fun i _ _ wr=>∃ k:Nat,i=.int .i64 k∧k≤x.length∧(∀ j (hj:j < x.length),j < k→x[j]'hj≠[])∧(∀ v,v∈preG x k→0≤v∧v < l.length)∧CntRow wr w.heap.size l.length (preG x k)∧Below w.heap.size w wr) (fun i _ _ _=>x.length - (intOf i).toNat)
 case atStart=>exact⟨0,rfl,Nat.zero_le _,fun _ _ h=>absurd h (by omega),fun v hv=>absurd hv (by simp[preG]),(frow_new w _ _ _).congr (fun i hi=>by simp[preG]),(Below.refl _ _).alloc (Nat.le_refl _) _⟩
 case round =>
  obtain⟨k,rfl,hk,hne,hrg,hcr,hBr⟩:=hrel
  have HNe:=Lib.hid hne
  have HRg:=Lib.hid hrg
  have HCr:=Lib.hid hcr
  have HBr:=Lib.hid hBr
  clear hne hrg hcr
  by_cases hlt:k < x.length
  ·obtain⟨b,off,ha⟩:=HA.out.resolve_left (by omega)
   subst ha
   obtain⟨ag,cg,g0,hG⟩:=HE.out.get rfl hlt
   have HP:=Lib.hid (preG_succ x k hlt)
   have HLk:=Lib.hid (preG_len HLn.out k)
   have HM:Hid ((x[k]'hlt)∈x):=List.getElem_mem hlt
   have HNx:Hid ((x[k]'hlt)≠[]→∀ j (hj:j < x.length),j < k+1→x[j]'hj≠[]):=fun hv j hj hjk=>by
    by_cases e:j=k
    ·subst e;exact hv
    ·exact HNe.out j hj (by omega)
   generalize (x[k]'hlt)=g at g0 hG HP HM HNx
   have hlg:=hG.2.1
   have HG:=Lib.hid hG
   have G0:=Lib.hid g0
   have HAG:=Lib.hid hG.addr
   have c0:=(keeps_of_below hBr) _ _ g0
   clear hG g0 hBr
   by_cases hg0:g=[]
   ·have HNo:Hid (pB (GroupsOk l x)=false):=pB_false (fun h=>h.ne g HM.out hg0)
    subst hg0
    go_wp2_with fail
    go_ret
    exact⟨by rw[HNo.out];rfl,HBr.out⟩
   ·have hgl:1≤g.length:=by
     cases g with
     | nil=>exact absurd rfl hg0
     | cons=>simp
    have HNx':=Lib.hid (HNx.out hg0)
    clear hg0 HNx
    go_wp2_with fail
    go_loopw [7,8] (fun i _ wr=>∃ q:Nat,i=.int .i64 q∧q≤g.length∧(∀ v,v∈g.take q→0≤v∧v < l.length)∧CntRow wr w.heap.size l.length (preG x k++g.take q)∧Below w.heap.size w wr) (fun i _ _=>g.length - (intOf i).toNat)
    case atStart=>exact⟨0,rfl,Nat.zero_le _,fun v hv=>absurd hv (by simp),by simpa using HCr.out,HBr.out⟩
    case round =>
     obtain⟨q,rfl,hq,hrg,hcr,hBq⟩:=hrel
     have HRq:=Lib.hid hrg
     have HCq:=Lib.hid hcr
     have HBq:=Lib.hid hBq
     have c0:=(keeps_of_below hBq) _ _ G0.out
     have hzq:=hBq.size
     have hltq:=hcr.lt
     clear hrg
     by_cases hql:q < g.length
     ·obtain⟨bg,og,hag⟩:=HAG.out.resolve_left (by omega)
      subst hag
      have hv0:=intsIn_get HG.out rfl hql
      have HT:=Lib.hid (take_snocI g q hql)
      have HMv:Hid ((g[q]'hql)∈g):=List.getElem_mem hql
      generalize (g[q]'hql)=v at hv0 HT HMv
      have d0:=(keeps_of_below hBq) _ _ hv0
      clear hv0 hBq
      by_cases hneg:v < 0
      ·have HNo:Hid (pB (GroupsOk l x)=false):=pB_false (fun h=>by have:=(h.range g HM.out v HMv.out).1;omega)
       have hd:decide (v < 0)=true:=decide_eq_true hneg
       clear hcr
       go_wp2_with fail
       go_ret
       exact⟨by rw[HNo.out];rfl,HBq.out⟩
      ·by_cases hbig:(l.length:Int)≤v
       ·have HNo:Hid (pB (GroupsOk l x)=false):=pB_false (fun h=>by have:=(h.range g HM.out v HMv.out).2;omega)
        have hd:decide ((l.length:Int)≤v)=true:=decide_eq_true hbig
        clear hcr
        go_wp2_with fail
        go_ret
        exact⟨by rw[HNo.out];rfl,HBq.out⟩
       ·obtain⟨n,rfl⟩:=Int.eq_ofNat_of_zero_le (show 0≤v by omega)
        have hn:n < l.length:=by omega
        have e0:=FRow.cell hcr hn
        have f0:=FRow.free hcr n
        have hcnt:(preG x k++g.take q).count (n:Int)≤2305843009213693952:=by
         have h1:=List.count_le_length (a:=(n:Int)) (l:=preG x k++g.take q)
         have h2:=HLk.out
         have h3:(g.take q).length≤1073741824:=by simp;omega
         have h4:k * 1073741824≤1073741824 * 1073741824:=Nat.mul_le_mul_right _ (by omega)
         rw[List.length_append] at h1
         omega
        have HAdd:=Lib.hid (CntRow.add hcr hn)
        generalize (preG x k++g.take q).count (n:Int)=cnt at e0 hcnt HAdd
        clear hcr
        go_wp2_with fail
        go_roundw
        case rel=>exact⟨q+1,by go_num,by omega,fun u hu=>by
         rw[HT.out,List.mem_append] at hu
         rcases hu with hu | hu
         ·exact HRq.out u hu
         ·simp at hu;omega,by rw[HT.out,← List.append_assoc];exact HAdd.out,bel⟩
        case measure=>simp[intOf];omega
     ·obtain rfl:q=g.length:=by omega
      have HRg':Hid (∀ v,v∈preG x (k+1)→0≤v∧v < l.length):=fun v hv=>by
       rw[HP.out,List.mem_append] at hv
       rcases hv with hv | hv
       ·exact HRg.out v hv
       ·exact HRq.out v (by rw[List.take_of_length_le (Nat.le_refl _)];exact hv)
      have HC':Hid (CntRow wr w.heap.size l.length (preG x (k+1))):=by
       show CntRow _ _ _ _
       rw[HP.out]
       have:=HCq.out
       rw[List.take_of_length_le (Nat.le_refl _)] at this
       exact this
      clear hcr hBq
      go_wp2_with fail
      go_roundw
      case rel=>exact⟨k+1,by go_num,by omega,HNx'.out,HRg'.out,HC'.out,HBq.out⟩
      case measure=>simp[intOf];omega
  ·obtain rfl:k=x.length:=by omega
   have HCr':Hid (CntRow wr w.heap.size l.length x.flatten):=by show CntRow _ _ _ _;rw[← preG_all];exact HCr.out
   have HRg':Hid (∀ v,v∈x.flatten→0≤v∧v < l.length):=by show ∀ _,_;rw[← preG_all];exact HRg.out
   have hcl:Hid (∀ n:Nat,x.flatten.count (n:Int)≤1152921504606846976):=fun n=>by
    have h1:=List.count_le_length (a:=(n:Int)) (l:=x.flatten)
    have h2:=preG_len HLn.out x.length
    rw[preG_all] at h2
    have h4:x.length * 1073741824≤1073741824 * 1073741824:=Nat.mul_le_mul_right _ (by omega)
    omega
   clear hBr HCr HRg
   go_wp2_with fail
   go_loopw [9,10] (fun i _ wr=>∃ q:Nat,i=.int .i64 q∧q≤l.length∧(∀ j (hj:j < l.length),j < q→(x.flatten.count (j:Int):Int)=if (l[j]'hj).mode=0 then 0 else 1)∧CntRow wr w.heap.size l.length x.flatten∧Below w.heap.size w wr) (fun i _ _=>l.length - (intOf i).toNat)
   case atStart=>exact⟨0,rfl,Nat.zero_le _,fun _ _ h=>absurd h (by omega),HCr'.out,HBr.out⟩
   case round =>
    obtain⟨q,rfl,hq,hall,hcr,hBq⟩:=hrel
    have HAl:=Lib.hid hall
    have HCq:=Lib.hid hcr
    have HBq:=Lib.hid hBq
    have hltq:=hcr.lt
    clear hall
    by_cases hql:q < l.length
    ·obtain⟨bv,ov,hav⟩:=HAV.out.resolve_left (by omega)
     subst hav
     obtain⟨_,_,m0,_,_⟩:=HV.out.get rfl hql
     have cm:=(keeps_of_below hBq) _ _ m0
     have e0:=FRow.cell hcr hql
     have hcnt:=hcl.out q
     have HNx:Hid ((x.flatten.count (q:Int):Int)=(if (l[q]'hql).mode=0 then 0 else 1)→∀ j (hj:j < l.length),j < q+1→(x.flatten.count (j:Int):Int)=if (l[j]'hj).mode=0 then 0 else 1):=fun hv j hj hjk=>by
      by_cases e:j=q
      ·subst e;exact hv
      ·exact HAl.out j hj (by omega)
     have HNo:Hid (¬ (x.flatten.count (q:Int):Int)=(if (l[q]'hql).mode=0 then 0 else 1)→pB (GroupsOk l x)=false):=fun h=>pB_false (fun h'=>h (h'.count q hql))
     generalize (l[q]'hql).mode=mode at cm HNx HNo
     generalize x.flatten.count (q:Int)=cnt at e0 hcnt HNx HNo
     clear m0 hcr hBq
     by_cases hm:mode=0
     ·subst hm
      rw[if_pos rfl] at HNx HNo
      by_cases hc:(cnt:Int)=0
      ·have HNx':=Lib.hid (HNx.out hc)
       have hcb:((cnt:Int) != 0)=false:=by simpa using hc
       clear HNx HNo hc
       go_wp2_with fail
       go_roundw
       case rel=>exact⟨q+1,by go_num,by omega,HNx'.out,HCq.out,HBq.out⟩
       case measure=>simp[intOf];omega
      ·have HNo':=Lib.hid (HNo.out hc)
       have hcb:((cnt:Int) != 0)=true:=by simpa using hc
       clear HNx HNo hc
       go_wp2_with fail
       go_ret
       exact⟨by rw[HNo'.out];rfl,HBq.out⟩
     ·rw[if_neg hm] at HNx HNo
      have hm':=op_ne hm
      clear hm
      by_cases hc:(cnt:Int)=1
      ·have HNx':=Lib.hid (HNx.out hc)
       have hcb:((cnt:Int) != 1)=false:=by simpa using hc
       clear HNx HNo hc
       go_wp2_with fail
       go_roundw
       case rel=>exact⟨q+1,by go_num,by omega,HNx'.out,HCq.out,HBq.out⟩
       case measure=>simp[intOf];omega
      ·have HNo':=Lib.hid (HNo.out hc)
       have hcb:((cnt:Int) != 1)=true:=by simpa using hc
       clear HNx HNo hc
       go_wp2_with fail
       go_ret
       exact⟨by rw[HNo'.out];rfl,HBq.out⟩
    ·obtain rfl:q=l.length:=by omega
     have HY:Hid (pB (GroupsOk l x)=true):=pB_true ⟨fun g hg he=>by
      obtain⟨j,hj,rfl⟩:=List.getElem_of_mem hg
      exact HNe.out j hj hj he,fun g hg v hv=>HRg'.out v (List.mem_flatten.2 ⟨g,hg,hv⟩),fun i hi=>HAl.out i hi hi⟩
     clear hcr hBq
     go_wp2_with fail
     go_ret
     exact⟨by rw[HY.out];rfl,HBq.out⟩
end Go.Proofs.YtcplmcjbkpmhdaaGreatDoor
namespace Go.Proofs.YtcplmcjbkpmhdaaGreatDoor
open Go.RowKit
structure ProbSmall (p:ProbD):Prop where
 hard:ExsSmall p.hard
 soft:ExsSmall p.soft
 tot:(p.hard++p.soft).length≤1073741824
def probVal (p:ProbD) (x:ProbA):Value:=.agg (probVals p x)
theorem probVal_eq (p:ProbD) (x:ProbA):probVal p x=.agg #[.slice x.av p.vars.length x.cv,.slice x.ah p.hard.length x.ch,.slice x.ao p.soft.length x.co,.slice x.ad p.dists.length x.cd,.slice x.ag p.groups.length x.cg]:=rfl
set_option maxRecDepth 100000 in
set_option maxHeartbeats 4000000 in
theorem r14Valid_any (p:ProbD) (x:ProbA) (w:World) (hE:ProbIn w p x) (hs:ProbSmall p) :
  Calls Tryz.prog 30 #[probVal p x] w fun r w'=>ErrIff (ProbOk p) r∧Below w.heap.size w w':=by
 have HV:=Lib.hid (fun W (hW:Below w.heap.size w W) hz=>fr (W0:=w) (B:=w.heap.size) (r14variables_any p.vars x.av x.cv W (hE.vars.keep (keeps_of_below hW))) hW hz)
 have HH:=Lib.hid (fun W (hW:Below w.heap.size w W) hz=>fr (W0:=w) (B:=w.heap.size) (r14expressions_any p.vars x.av x.cv p.hard x.ah x.ch W (hE.vars.keep (keeps_of_below hW)) (hE.hard.keep (keeps_of_below hW)) hs.hard) hW hz)
 have HS:=Lib.hid (fun W (hW:Below w.heap.size w W) hz=>fr (W0:=w) (B:=w.heap.size) (r14expressions_any p.vars x.av x.cv p.soft x.ao x.co W (hE.vars.keep (keeps_of_below hW)) (hE.soft.keep (keeps_of_below hW)) hs.soft) hW hz)
 have HD:=Lib.hid (fun W (hW:Below w.heap.size w W) hz=>fr (W0:=w) (B:=w.heap.size) (r14dists_any p.vars x.av x.cv p.dists x.ad x.cd W (hE.vars.keep (keeps_of_below hW)) (hE.dists.keep (keeps_of_below hW))) hW hz)
 have HG:=Lib.hid (fun W (hW:Below w.heap.size w W) hz=>fr (W0:=w) (B:=w.heap.size) (r14groups_any p.vars x.av x.cv p.groups x.ag x.cg W (hE.vars.keep (keeps_of_below hW)) (hE.groups.keep (keeps_of_below hW))) hW hz)
 clear hE hs
 rw[probVal_eq]
 by_cases hv:VarsOk p.vars
 ·have HV':=Lib.hid (fun W hW hz=>errT (HV.out W hW hz) hv)
  by_cases hh:∀ i (h:i < p.hard.length),ExprOk p.vars (p.hard[i]'h)
  ·have HH':=Lib.hid (fun W hW hz=>errT (HH.out W hW hz) hh)
   by_cases hso:∀ i (h:i < p.soft.length),ExprOk p.vars (p.soft[i]'h)
   ·have HS':=Lib.hid (fun W hW hz=>errT (HS.out W hW hz) hso)
    by_cases hd:DistsOk p.vars p.dists
    ·have HD':=Lib.hid (fun W hW hz=>errT (HD.out W hW hz) hd)
     by_cases hg:GroupsOk p.vars p.groups
     ·have HOk:Hid (ProbOk p):=⟨hv,hh,hso,hd,hg⟩
      rw[pB_true hg] at HG
      clear hv hh hso hd hg HV HH HS HD
      go_enter Tryz.func30, Tryz.ntmps30
      go_wp2_with (first | (go_at_call 71;(with_reducible refine(HV'.out _ bel sz).mono ?_);rintro e w1 ⟨rfl,hc1,hf1,hz1,hb1⟩;(try simp only[World.size_alloc] at hz1);have hzl:w.heap.size < w1.heap.size:=(by omega)) | (go_at_call 72;(with_reducible refine(HH'.out _ bel sz).mono ?_);rintro e w1 ⟨rfl,hc1,hf1,hz1,hb1⟩;(try simp only[World.size_alloc] at hz1);have hzl:w.heap.size < w1.heap.size:=(by omega)) | (go_at_call 72;(with_reducible refine(HS'.out _ bel sz).mono ?_);rintro e w1 ⟨rfl,hc1,hf1,hz1,hb1⟩;(try simp only[World.size_alloc] at hz1);have hzl:w.heap.size < w1.heap.size:=(by omega)) | (go_at_call 73;(with_reducible refine(HD'.out _ bel sz).mono ?_);rintro e w1 ⟨rfl,hc1,hf1,hz1,hb1⟩;(try simp only[World.size_alloc] at hz1);have hzl:w.heap.size < w1.heap.size:=(by omega)) | (go_at_call 74;(with_reducible refine(HG.out _ bel sz).mono ?_);rintro e w1 ⟨rfl,hc1,hf1,hz1,hb1⟩;(try simp only[World.size_alloc] at hz1);have hzl:w.heap.size < w1.heap.size:=(by omega)))
      go_ret
      exact⟨.yes HOk.out,by assumption⟩
     ·have HNo:Hid (¬ ProbOk p):=fun h=>hg h.groups
      rw[pB_false hg] at HG
      clear hv hh hso hd hg HV HH HS HD
      go_enter Tryz.func30, Tryz.ntmps30
      go_wp2_with (first | (go_at_call 71;(with_reducible refine(HV'.out _ bel sz).mono ?_);rintro e w1 ⟨rfl,hc1,hf1,hz1,hb1⟩;(try simp only[World.size_alloc] at hz1);have hzl:w.heap.size < w1.heap.size:=(by omega)) | (go_at_call 72;(with_reducible refine(HH'.out _ bel sz).mono ?_);rintro e w1 ⟨rfl,hc1,hf1,hz1,hb1⟩;(try simp only[World.size_alloc] at hz1);have hzl:w.heap.size < w1.heap.size:=(by omega)) | (go_at_call 72;(with_reducible refine(HS'.out _ bel sz).mono ?_);rintro e w1 ⟨rfl,hc1,hf1,hz1,hb1⟩;(try simp only[World.size_alloc] at hz1);have hzl:w.heap.size < w1.heap.size:=(by omega)) | (go_at_call 73;(with_reducible refine(HD'.out _ bel sz).mono ?_);rintro e w1 ⟨rfl,hc1,hf1,hz1,hb1⟩;(try simp only[World.size_alloc] at hz1);have hzl:w.heap.size < w1.heap.size:=(by omega)) | (go_at_call 74;(with_reducible refine(HG.out _ bel sz).mono ?_);rintro e w1 ⟨rfl,hc1,hf1,hz1,hb1⟩;(try simp only[World.size_alloc] at hz1);have hzl:w.heap.size < w1.heap.size:=(by omega)))
      go_ret
      exact⟨.no HNo.out (by decide),by assumption⟩
    ·have HNo:Hid (¬ ProbOk p):=fun h=>hd h.dists
     have HD':=Lib.hid (fun W hW hz=>errF (HD.out W hW hz) hd)
     clear hv hh hso hd HV HH HS HD
     go_enter Tryz.func30, Tryz.ntmps30
     go_wp2_with (first | (go_at_call 71;(with_reducible refine(HV'.out _ bel sz).mono ?_);rintro e w1 ⟨rfl,hc1,hf1,hz1,hb1⟩;(try simp only[World.size_alloc] at hz1);have hzl:w.heap.size < w1.heap.size:=(by omega)) | (go_at_call 71;(with_reducible refine(HV'.out _ bel sz).mono ?_);rintro e w1 ⟨⟨n,rfl,hn⟩,hc1,hf1,hz1,hb1⟩;(try simp only[World.size_alloc] at hz1);have hzl:w.heap.size < w1.heap.size:=(by omega)) | (go_at_call 72;(with_reducible refine(HH'.out _ bel sz).mono ?_);rintro e w1 ⟨rfl,hc1,hf1,hz1,hb1⟩;(try simp only[World.size_alloc] at hz1);have hzl:w.heap.size < w1.heap.size:=(by omega)) | (go_at_call 72;(with_reducible refine(HH'.out _ bel sz).mono ?_);rintro e w1 ⟨⟨n,rfl,hn⟩,hc1,hf1,hz1,hb1⟩;(try simp only[World.size_alloc] at hz1);have hzl:w.heap.size < w1.heap.size:=(by omega)) | (go_at_call 72;(with_reducible refine(HS'.out _ bel sz).mono ?_);rintro e w1 ⟨rfl,hc1,hf1,hz1,hb1⟩;(try simp only[World.size_alloc] at hz1);have hzl:w.heap.size < w1.heap.size:=(by omega)) | (go_at_call 72;(with_reducible refine(HS'.out _ bel sz).mono ?_);rintro e w1 ⟨⟨n,rfl,hn⟩,hc1,hf1,hz1,hb1⟩;(try simp only[World.size_alloc] at hz1);have hzl:w.heap.size < w1.heap.size:=(by omega)) | (go_at_call 73;(with_reducible refine(HD'.out _ bel sz).mono ?_);rintro e w1 ⟨rfl,hc1,hf1,hz1,hb1⟩;(try simp only[World.size_alloc] at hz1);have hzl:w.heap.size < w1.heap.size:=(by omega)) | (go_at_call 73;(with_reducible refine(HD'.out _ bel sz).mono ?_);rintro e w1 ⟨⟨n,rfl,hn⟩,hc1,hf1,hz1,hb1⟩;(try simp only[World.size_alloc] at hz1);have hzl:w.heap.size < w1.heap.size:=(by omega)) | (go_at_call 74;(with_reducible refine(HG.out _ bel sz).mono ?_);rintro e w1 ⟨rfl,hc1,hf1,hz1,hb1⟩;(try simp only[World.size_alloc] at hz1);have hzl:w.heap.size < w1.heap.size:=(by omega)) | (go_at_call 74;(with_reducible refine(HG.out _ bel sz).mono ?_);rintro e w1 ⟨⟨n,rfl,hn⟩,hc1,hf1,hz1,hb1⟩;(try simp only[World.size_alloc] at hz1);have hzl:w.heap.size < w1.heap.size:=(by omega)))
     go_ret
     exact⟨.no HNo.out (by simpa using hn),by assumption⟩
   ·have HNo:Hid (¬ ProbOk p):=fun h=>hso h.soft
    have HS':=Lib.hid (fun W hW hz=>errF (HS.out W hW hz) hso)
    clear hv hh hso HV HH HS HD
    go_enter Tryz.func30, Tryz.ntmps30
    go_wp2_with (first | (go_at_call 71;(with_reducible refine(HV'.out _ bel sz).mono ?_);rintro e w1 ⟨rfl,hc1,hf1,hz1,hb1⟩;(try simp only[World.size_alloc] at hz1);have hzl:w.heap.size < w1.heap.size:=(by omega)) | (go_at_call 71;(with_reducible refine(HV'.out _ bel sz).mono ?_);rintro e w1 ⟨⟨n,rfl,hn⟩,hc1,hf1,hz1,hb1⟩;(try simp only[World.size_alloc] at hz1);have hzl:w.heap.size < w1.heap.size:=(by omega)) | (go_at_call 72;(with_reducible refine(HH'.out _ bel sz).mono ?_);rintro e w1 ⟨rfl,hc1,hf1,hz1,hb1⟩;(try simp only[World.size_alloc] at hz1);have hzl:w.heap.size < w1.heap.size:=(by omega)) | (go_at_call 72;(with_reducible refine(HH'.out _ bel sz).mono ?_);rintro e w1 ⟨⟨n,rfl,hn⟩,hc1,hf1,hz1,hb1⟩;(try simp only[World.size_alloc] at hz1);have hzl:w.heap.size < w1.heap.size:=(by omega)) | (go_at_call 72;(with_reducible refine(HS'.out _ bel sz).mono ?_);rintro e w1 ⟨rfl,hc1,hf1,hz1,hb1⟩;(try simp only[World.size_alloc] at hz1);have hzl:w.heap.size < w1.heap.size:=(by omega)) | (go_at_call 72;(with_reducible refine(HS'.out _ bel sz).mono ?_);rintro e w1 ⟨⟨n,rfl,hn⟩,hc1,hf1,hz1,hb1⟩;(try simp only[World.size_alloc] at hz1);have hzl:w.heap.size < w1.heap.size:=(by omega)) | (go_at_call 73;(with_reducible refine(HD'.out _ bel sz).mono ?_);rintro e w1 ⟨rfl,hc1,hf1,hz1,hb1⟩;(try simp only[World.size_alloc] at hz1);have hzl:w.heap.size < w1.heap.size:=(by omega)) | (go_at_call 73;(with_reducible refine(HD'.out _ bel sz).mono ?_);rintro e w1 ⟨⟨n,rfl,hn⟩,hc1,hf1,hz1,hb1⟩;(try simp only[World.size_alloc] at hz1);have hzl:w.heap.size < w1.heap.size:=(by omega)) | (go_at_call 74;(with_reducible refine(HG.out _ bel sz).mono ?_);rintro e w1 ⟨rfl,hc1,hf1,hz1,hb1⟩;(try simp only[World.size_alloc] at hz1);have hzl:w.heap.size < w1.heap.size:=(by omega)) | (go_at_call 74;(with_reducible refine(HG.out _ bel sz).mono ?_);rintro e w1 ⟨⟨n,rfl,hn⟩,hc1,hf1,hz1,hb1⟩;(try simp only[World.size_alloc] at hz1);have hzl:w.heap.size < w1.heap.size:=(by omega)))
    go_ret
    exact⟨.no HNo.out (by simpa using hn),by assumption⟩
  ·have HNo:Hid (¬ ProbOk p):=fun h=>hh h.hard
   have HH':=Lib.hid (fun W hW hz=>errF (HH.out W hW hz) hh)
   clear hv hh HV HH HS HD
   go_enter Tryz.func30, Tryz.ntmps30
   go_wp2_with (first | (go_at_call 71;(with_reducible refine(HV'.out _ bel sz).mono ?_);rintro e w1 ⟨rfl,hc1,hf1,hz1,hb1⟩;(try simp only[World.size_alloc] at hz1);have hzl:w.heap.size < w1.heap.size:=(by omega)) | (go_at_call 71;(with_reducible refine(HV'.out _ bel sz).mono ?_);rintro e w1 ⟨⟨n,rfl,hn⟩,hc1,hf1,hz1,hb1⟩;(try simp only[World.size_alloc] at hz1);have hzl:w.heap.size < w1.heap.size:=(by omega)) | (go_at_call 72;(with_reducible refine(HH'.out _ bel sz).mono ?_);rintro e w1 ⟨rfl,hc1,hf1,hz1,hb1⟩;(try simp only[World.size_alloc] at hz1);have hzl:w.heap.size < w1.heap.size:=(by omega)) | (go_at_call 72;(with_reducible refine(HH'.out _ bel sz).mono ?_);rintro e w1 ⟨⟨n,rfl,hn⟩,hc1,hf1,hz1,hb1⟩;(try simp only[World.size_alloc] at hz1);have hzl:w.heap.size < w1.heap.size:=(by omega)) | (go_at_call 72;(with_reducible refine(HS'.out _ bel sz).mono ?_);rintro e w1 ⟨rfl,hc1,hf1,hz1,hb1⟩;(try simp only[World.size_alloc] at hz1);have hzl:w.heap.size < w1.heap.size:=(by omega)) | (go_at_call 72;(with_reducible refine(HS'.out _ bel sz).mono ?_);rintro e w1 ⟨⟨n,rfl,hn⟩,hc1,hf1,hz1,hb1⟩;(try simp only[World.size_alloc] at hz1);have hzl:w.heap.size < w1.heap.size:=(by omega)) | (go_at_call 73;(with_reducible refine(HD'.out _ bel sz).mono ?_);rintro e w1 ⟨rfl,hc1,hf1,hz1,hb1⟩;(try simp only[World.size_alloc] at hz1);have hzl:w.heap.size < w1.heap.size:=(by omega)) | (go_at_call 73;(with_reducible refine(HD'.out _ bel sz).mono ?_);rintro e w1 ⟨⟨n,rfl,hn⟩,hc1,hf1,hz1,hb1⟩;(try simp only[World.size_alloc] at hz1);have hzl:w.heap.size < w1.heap.size:=(by omega)) | (go_at_call 74;(with_reducible refine(HG.out _ bel sz).mono ?_);rintro e w1 ⟨rfl,hc1,hf1,hz1,hb1⟩;(try simp only[World.size_alloc] at hz1);have hzl:w.heap.size < w1.heap.size:=(by omega)) | (go_at_call 74;(with_reducible refine(HG.out _ bel sz).mono ?_);rintro e w1 ⟨⟨n,rfl,hn⟩,hc1,hf1,hz1,hb1⟩;(try simp only[World.size_alloc] at hz1);have hzl:w.heap.size < w1.heap.size:=(by omega)))
   go_ret
   exact⟨.no HNo.out (by simpa using hn),by assumption⟩
 ·have HNo:Hid (¬ ProbOk p):=fun h=>hv h.vars
  have HV':=Lib.hid (fun W hW hz=>errF (HV.out W hW hz) hv)
  clear hv HV HH HS HD
  go_enter Tryz.func30, Tryz.ntmps30
  go_wp2_with (first | (go_at_call 71;(with_reducible refine(HV'.out _ bel sz).mono ?_);rintro e w1 ⟨rfl,hc1,hf1,hz1,hb1⟩;(try simp only[World.size_alloc] at hz1);have hzl:w.heap.size < w1.heap.size:=(by omega)) | (go_at_call 71;(with_reducible refine(HV'.out _ bel sz).mono ?_);rintro e w1 ⟨⟨n,rfl,hn⟩,hc1,hf1,hz1,hb1⟩;(try simp only[World.size_alloc] at hz1);have hzl:w.heap.size < w1.heap.size:=(by omega)) | (go_at_call 72;(with_reducible refine(HH'.out _ bel sz).mono ?_);rintro e w1 ⟨rfl,hc1,hf1,hz1,hb1⟩;(try simp only[World.size_alloc] at hz1);have hzl:w.heap.size < w1.heap.size:=(by omega)) | (go_at_call 72;(with_reducible refine(HH'.out _ bel sz).mono ?_);rintro e w1 ⟨⟨n,rfl,hn⟩,hc1,hf1,hz1,hb1⟩;(try simp only[World.size_alloc] at hz1);have hzl:w.heap.size < w1.heap.size:=(by omega)) | (go_at_call 72;(with_reducible refine(HS'.out _ bel sz).mono ?_);rintro e w1 ⟨rfl,hc1,hf1,hz1,hb1⟩;(try simp only[World.size_alloc] at hz1);have hzl:w.heap.size < w1.heap.size:=(by omega)) | (go_at_call 72;(with_reducible refine(HS'.out _ bel sz).mono ?_);rintro e w1 ⟨⟨n,rfl,hn⟩,hc1,hf1,hz1,hb1⟩;(try simp only[World.size_alloc] at hz1);have hzl:w.heap.size < w1.heap.size:=(by omega)) | (go_at_call 73;(with_reducible refine(HD'.out _ bel sz).mono ?_);rintro e w1 ⟨rfl,hc1,hf1,hz1,hb1⟩;(try simp only[World.size_alloc] at hz1);have hzl:w.heap.size < w1.heap.size:=(by omega)) | (go_at_call 73;(with_reducible refine(HD'.out _ bel sz).mono ?_);rintro e w1 ⟨⟨n,rfl,hn⟩,hc1,hf1,hz1,hb1⟩;(try simp only[World.size_alloc] at hz1);have hzl:w.heap.size < w1.heap.size:=(by omega)) | (go_at_call 74;(with_reducible refine(HG.out _ bel sz).mono ?_);rintro e w1 ⟨rfl,hc1,hf1,hz1,hb1⟩;(try simp only[World.size_alloc] at hz1);have hzl:w.heap.size < w1.heap.size:=(by omega)) | (go_at_call 74;(with_reducible refine(HG.out _ bel sz).mono ?_);rintro e w1 ⟨⟨n,rfl,hn⟩,hc1,hf1,hz1,hb1⟩;(try simp only[World.size_alloc] at hz1);have hzl:w.heap.size < w1.heap.size:=(by omega)))
  go_ret
  exact⟨.no HNo.out (by simpa using hn),by assumption⟩
end Go.Proofs.YtcplmcjbkpmhdaaGreatDoor
