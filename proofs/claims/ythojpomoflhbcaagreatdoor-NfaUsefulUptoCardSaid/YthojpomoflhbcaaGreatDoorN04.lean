/- The value of an expression: value, Eval. -/
import Derived.Test.YthojpomoflhbcaaGreatDoorN03
import Derived.Deep.RegionHeld3
import Derived.Test.YthojpomoflhbcaaGreatDoorN02
set_option linter.unusedSimpArgs false
set_option linter.unusedVariables false
set_option linter.unnecessarySimpa false
namespace Go.Proofs.YthojpomoflhbcaaGreatDoor
open Go.RowKit
def OkE (e:Ex):Prop:=∀ x∈e.nodes,nodeS x=0
theorem firstE_zero (l:List Ex):firstE l=0→∀ x∈l,nodeS x=0:=by
 induction l with
 | nil=>intro _ x hx;cases hx
 | cons e l ih =>
  intro h x hx
  unfold firstE at h
  by_cases he:nodeS e=0
  ·rw[if_pos he] at h
   rcases List.mem_cons.1 hx with rfl | hx
   ·exact he
   ·exact ih h x hx
  ·rw[if_neg he] at h;exact absurd h he
theorem valid_ok {e:Ex} (h:validS e=0):OkE e:=by
 unfold validS at h
 split at h
 ·simp at h
 ·exact firstE_zero _ h
theorem OkE.self {e:Ex} (h:OkE e):nodeS e=0:=h e (by rw[Ex.nodes_eq];exact List.mem_cons_self)
theorem OkE.arg {e:Ex} (h:OkE e) {a:Ex} (ha:a∈e.args):OkE a:=fun x hx=>h x (by
 rw[Ex.nodes_eq]
 exact List.mem_cons_of_mem _ (List.mem_flatten.2 ⟨_,List.mem_map.2 ⟨a,ha,rfl⟩,hx⟩))
theorem node_ok {e:Ex} (h:nodeS e=0):1≤e.op∧e.op≤25∧(e.op=1→0≤e.n∧e.n≤65535)∧operandsB e.op e.args.length=true:=by
 unfold nodeS at h
 split at h
 ·simp at h
 ·rename_i h1
  split at h
  ·simp at h
  ·rename_i h2
   split at h
   ·simp at h
   ·rename_i h3
    refine⟨by omega,by omega,fun e1=>?_,?_⟩
    ·omega
    ·cases hb:operandsB e.op e.args.length
     ·exact absurd (Or.inr hb) h3
     ·rfl
theorem operands_ok {op:Int} {n:Nat} (h:operandsB op n=true) (h1:1≤op) (h2:op≤25):(op=3→n=1)∧(op=22→n=3)∧(op≠1→op≠2→op≠24→1≤n):=by
 unfold operandsB arityS at h
 split at h
 ·rename_i e
  have:=of_decide_eq_true h
  exact⟨by omega,by omega,by omega⟩
 ·have:=of_decide_eq_true h
  refine⟨fun e=>?_,fun e=>?_,fun a b c=>?_⟩<;>(split at this<;>first | omega | (split at this<;>first | omega | (split at this<;>first | omega | (split at this<;>first | omega | (split at this<;>omega)))))
noncomputable def valueS (env:List (ByteArray × Int)) (e:Ex):Int :=
 e.para fun e vs=>if e.op=1 then e.n else if e.op=2 then (findS env e.name).getD 0 else if e.op=3 then (atS env e.name (vs.getD 0 0)).getD 0 else if e.op=24 then sumS env e.name else operateS e.op vs
theorem valueS_eq (env:List (ByteArray × Int)) (e:Ex):valueS env e=if e.op=1 then e.n else if e.op=2 then (findS env e.name).getD 0 else if e.op=3 then (atS env e.name ((e.args.map (valueS env)).getD 0 0)).getD 0 else if e.op=24 then sumS env e.name else operateS e.op (e.args.map (valueS env)):=by
 unfold valueS;rw[Ex.para_eq]
def Rng (v:Int):Prop:=0≤v∧v < 65536
theorem rng0:Rng 0:=⟨Int.le_refl 0,by decide⟩
theorem ite_rng {c:Prop} [Decidable c] {a b:Int} (ha:Rng a) (hb:Rng b):Rng (if c then a else b):=by split<;>assumption
theorem rng_wrap (n:Int):Rng (n % 65536):=⟨by omega,by omega⟩
theorem rng_truth (b:Bool):Rng (truthS b):=by cases b<;>exact⟨by decide,by decide⟩
theorem rng_find (env:List (ByteArray × Int)) (s:ByteArray):Rng ((findS env s).getD 0):=by
 induction env with
 | nil=>exact rng0
 | cons x l ih =>
  unfold findS
  split
  ·exact rng_wrap _
  ·exact ih
theorem rng_at (env:List (ByteArray × Int)) (s:ByteArray) (i:Int):Rng ((atS env s i).getD 0):=by
 unfold atS
 split
 ·exact⟨by decide,by decide⟩
 ·exact rng_find _ _
theorem rng_single (op a:Int):Rng (singleS op a):=by
 unfold singleS
 split
 ·exact rng_truth _
 split
 ·unfold invW;exact⟨by omega,by omega⟩
 split
 ·exact rng_wrap _
 ·unfold onesW onesN bitN;exact⟨by omega,by omega⟩
theorem rng_double (op a b:Int) (ha:Rng a) (hb:Rng b):Rng (doubleS op a b):=by
 obtain⟨A,rfl⟩:=Int.eq_ofNat_of_zero_le ha.1
 obtain⟨B,rfl⟩:=Int.eq_ofNat_of_zero_le hb.1
 have hA:A < 2 ^ 16:=by have:=ha.2;omega
 have hB:B < 2 ^ 16:=by have:=hb.2;omega
 unfold doubleS
 refine ite_rng (rng_wrap _) (ite_rng (rng_wrap _) (ite_rng (rng_wrap _) (ite_rng ?_ (ite_rng ?_ (ite_rng ?_ (ite_rng ?_ (ite_rng ?_ ?_)))))))
 ·unfold andW;simp only[Int.toNat_natCast];have:A &&& B≤A:=Nat.and_le_left;exact⟨by omega,by omega⟩
 ·unfold orW;simp only[Int.toNat_natCast];have:=Nat.or_lt_two_pow hA hB;exact⟨by omega,by omega⟩
 ·unfold xorW;simp only[Int.toNat_natCast];have:=Nat.xor_lt_two_pow hA hB;exact⟨by omega,by omega⟩
 ·unfold shlW;exact ite_rng rng0 (rng_wrap _)
 ·unfold shrW
  refine ite_rng rng0 ⟨Int.ediv_nonneg (by omega) (Int.le_of_lt (Int.pow_pos (by decide))),Int.lt_of_le_of_lt (Int.ediv_le_self _ (by omega)) (by omega)⟩
 repeat (first | exact rng_truth _ | refine ite_rng (rng_truth _) ?_)
theorem rng_inside (x:Int) (l:List Int):Rng (insideL x l):=by
 match l with
 | []=>exact rng0
 | [_]=>exact rng0
 | a::b::r =>
  unfold insideL
  split
  ·exact⟨by decide,by decide⟩
  ·exact rng_inside x r
theorem rng_getD {l:List Int} (h:∀ v∈l,Rng v) (i:Nat):Rng (l.getD i 0):=by
 rw[List.getD_eq_getElem?_getD]
 rcases Nat.lt_or_ge i l.length with hi | hi
 ·rw[List.getElem?_eq_getElem hi];exact h _ (List.getElem_mem hi)
 ·rw[List.getElem?_eq_none hi];exact⟨by decide,by decide⟩
theorem rng_operate (op:Int) (l:List Int) (h:∀ v∈l,Rng v):Rng (operateS op l):=by
 unfold operateS
 split
 ·split
  ·exact rng_getD h _
  ·exact rng_getD h _
 split
 ·exact rng_inside _ _
 split
 ·exact rng_single _ _
 ·exact rng_double _ _ _ (rng_getD h _) (rng_getD h _)
theorem rng_value (env:List (ByteArray × Int)) (e:Ex):OkE e→Rng (valueS env e):=by
 induction e using Ex.ind with
 | h e ih =>
  intro hok
  rw[valueS_eq]
  split
  ·rename_i h1
   have:=(node_ok hok.self).2.2.1 h1
   exact⟨by omega,by omega⟩
  split
  ·exact rng_find _ _
  split
  ·exact rng_at _ _ _
  split
  ·show Rng (addW _ _);exact rng_wrap _
  ·refine rng_operate _ _ fun v hv=>?_
   obtain⟨a,ha,rfl⟩:=List.mem_map.1 hv
   exact ih a ha (hok.arg ha)
noncomputable def valsTo (env:List (ByteArray × Int)) (l:List Ex) (k:Nat):List Int:=(l.take k).map (valueS env)
theorem valsTo_succ (env:List (ByteArray × Int)) (l:List Ex) (k:Nat) (h:k < l.length):valsTo env l (k+1)=valsTo env l k++[valueS env (l[k]'h)]:=by
 unfold valsTo
 rw[List.take_succ_eq_append_getElem h,List.map_append]
 rfl
theorem valsTo_len (env:List (ByteArray × Int)) (l:List Ex) (k:Nat) (h:k≤l.length):(valsTo env l k).length=k:=by
 unfold valsTo;simp;omega
theorem elemI:Elem Tryz.prog 31 3 1:=Elem.of Tryz.underlying31 (by kernel_rfl) (z:=.int .i64 0) (bytes:=8) rfl (by decide) (by decide)
def ValRel (env:List (ByteArray × Int)) (w:World) (v1 v2:Array Value) (args:List Ex) (k:Nat) (v:Value) (wr:World):Prop :=
 wr.ownsRow w.heap.size 3 1 v k ((valsTo env args k).map (Value.int .i64))∧Below w.heap.size w wr∧wr.heap[w.heap.size]? = some (.cells v1 240 (0,0))∧wr.heap[w.heap.size+1]? = some (.cells v2 24 (0,0))
set_option maxRecDepth 100000 in
set_option maxHeartbeats 4000000 in
theorem value_any (env:List (ByteArray × Int)) (a:Option Addr) (cap:Nat) (e:Ex):∀ (ae:Option Addr) (ce:Nat) (w:World),OkE e→e.nodes.length≤1073741824→SigsIn w env a cap→ExIn w e ae ce →
  Calls Tryz.prog 221 #[.agg #[.slice a env.length cap],exVal e ae ce] w fun r w'=>r=.returned (.int .i64 (valueS env e))∧Below w.heap.size w w':=by
 induction e using Ex.ind with
 | h e ih =>
  intro ae ce w hok hn hS hE
  obtain⟨op,n,s,args⟩:=e
  have hlen:=hE.2.2.1
  have hadr:=hE.2.addr
  have hnl:(Ex.mk op n s args).nodes.length=(nodesTo args args.length).length+1:=by rw[nodes_cons];simp[Ex.args_mk]
  have hsz:=hE.1
  simp only[Ex.args_mk,Ex.name_mk] at hlen hadr hsz
  have HN:=Lib.hid (⟨hn,hnl⟩:_∧_)
  have HS:=Lib.hid hS
  have HE:=Lib.hid hE
  have HOK:=Lib.hid hok
  have HIH:=Lib.hid ih
  have HA:=Lib.hid hadr
  clear hn hS hE ih hadr hnl hok
  simp only[exVal,Ex.op_mk,Ex.n_mk,Ex.name_mk,Ex.args_mk]
  go_enter Tryz.func221, Tryz.ntmps221
  go_wp2_with fail
  go_loopw [5,15] (fun v i wr=>∃ k:Nat,i=.int .i64 k∧k≤args.length∧ValRel env w #[.slice a env.length cap] #[.int .i64 op,.int .i64 n,.string s,.slice ae args.length ce] args k v wr) (fun _ i _=>args.length - (intOf i).toNat)
  case atStart=>exact⟨0,rfl,Nat.zero_le _,World.ownsRow_nil _ _ _ _,bel,by rw[Below.heap_alloc _ _ _ (by simp)];exact heap_alloc_new' _ _,heap_alloc_at _ _ _ (by simp)⟩
  case round =>
   obtain⟨k,rfl,hk,hown,hBr,hb0,hb1⟩:=hrel
   have hlt0:=lt_of_block hb0
   have hlt1:=lt_of_block hb1
   by_cases hlt:k < args.length
   ·obtain⟨b,off,ha⟩:=HA.out.resolve_left (by omega)
    subst ha
    obtain⟨a',cap',g0,g1,g2,g3,hX⟩:=HE.out.2.get rfl hlt
    have kk:=keeps_of_below hBr
    have c0:=kk _ _ g0
    have c1:=kk _ _ g1
    have c2:=kk _ _ g2
    have c3:=kk _ _ g3
    simp only[Ex.args_mk] at c0 c1 c2 c3
    have cs:∀ o,(wr.alloc o).cell? ⟨w.heap.size,0,none⟩=_:=fun o=>(World.cell?_alloc_lt _ _ _ hlt0).trans (by simp[World.cell?,hb0]:wr.cell? ⟨w.heap.size,0,none⟩=some (.slice a env.length cap))
    have hrm:=nodes_room args k hlt
    have hn':=HN.out
    have hm:args[k]∈(Ex.mk op n s args).args:=List.getElem_mem hlt
    have hBA:Below wr.heap.size wr (wr.alloc (.cells #[.int .i64 (args[k]'hlt).op,.int .i64 (args[k]'hlt).n,.string (args[k]'hlt).name,.slice a' (args[k]'hlt).args.length cap'] 24)):=(Below.refl _ _).alloc (Nat.le_refl _) _
    have hBw:Below w.heap.size w (wr.alloc (.cells #[.int .i64 (args[k]'hlt).op,.int .i64 (args[k]'hlt).n,.string (args[k]'hlt).name,.slice a' (args[k]'hlt).args.length cap'] 24)):=hBr.trans (hBA.mono hBr.size)
    have hC:=HIH.out _ hm a' cap' _ (HOK.out.arg hm) (by omega) (HS.out.keep (keeps_of_below hBw)) (hX.keep (keeps_of_below hBw))
    have HC:=Lib.hid (hC.mono fun e w' h=>(⟨h.1,hBA.trans (h.2.mono hBA.size)⟩:_∧Below wr.heap.size wr w'))
    simp only[Ex.args_mk,exVal] at HC
    have Hon:=Lib.hid (valsTo_succ env args k hlt)
    have HR:=Lib.hid (⟨hown,hBr,hb0,hb1⟩:_∧_∧_∧_)
    clear g0 g1 g2 g3 kk hC hBA hBw hrm hn' hX hown hBr hb0 hb1 hm
    go_wp2_with fail
    refine HC.out.mono ?_
    rintro e w2 ⟨rfl,hb2⟩
    have HB2:=Lib.hid hb2
    have HO2:=Lib.hid (ownsRow_below HR.out.1 hb2)
    have hz2:=hb2.size
    clear hb2 c0 c1 c2 c3 cs
    go_wp2_with (at_builtin;go_must (refine own_app elemI _ rfl (.tmp 19) (.tmp 23) rfl w.heap.size _ k _ rfl HO2.out [.int .i64 (valueS env (args[k]'hlt))] rfl (by simp[Value.oneCell']) _ 1 rfl (by simp) (by omega) (by omega) ?_))
    intro v' w3 hown3 hg3
    have H3:=Lib.hid (⟨hown3,hg3⟩:_∧_)
    clear hown3 hg3
    go_wp2_with fail
    go_roundw
    case rel =>
     obtain⟨hown3,hg3⟩:=H3.out
     obtain⟨hown,hBr,hb0,hb1⟩:=HR.out
     have hold:∀ (q:Nat) (c:Array Value) (t:TypeId),wr.heap[q]? = some (.cells c t (0,0))→t≠3→w3.heap[q]? = some (.cells c t (0,0)):=by
      intro q c t hq ht
      have h1:=(HB2.out.block _ (lt_of_block hq)).trans hq
      have h2:(w2.alloc (.cells #[.int .i64 (valueS env (args[k]'hlt))] 3)).heap[q]? = some (.cells c t (0,0)):=by rw[Below.heap_alloc _ _ _ (lt_of_block h1)];exact h1
      exact(hg3.block _ (lt_of_block h2) (ownsRow_ne hown hq ht)).trans h2
     have hz:=hBr.size
     refine⟨k+1,by go_num,by omega,by rw[Hon.out,List.map_append];exact hown3,?_,hold _ _ _ hb0 (by decide),hold _ _ _ hb1 (by decide)⟩
     refine Below.grown ((hBr.trans (HB2.out.mono hz)).alloc (by omega) _) hg3 (by simp;omega) (fun q hq=>(hown.lt q hq).1)
    case measure=>simp[intOf];omega
   ·obtain rfl:k=args.length:=by omega
    have hown':wr.ownsRow w.heap.size 3 1 u5 (valsTo env args args.length).length ((valsTo env args args.length).map (Value.int .i64)):=by
     rw[valsTo_len _ _ _ (Nat.le_refl _)];exact hown
    have hV:Hid (valueS env (.mk op n s args)=if op=1 then n else if op=2 then (findS env s).getD 0 else if op=3 then (atS env s ((valsTo env args args.length).getD 0 0)).getD 0 else if op=24 then sumS env s else operateS op (valsTo env args args.length)):=by
     show _=_
     rw[valueS_eq];unfold valsTo;rw[List.take_of_length_le (Nat.le_refl _)];rfl
    have hrng:∀ v∈valsTo env args args.length,Rng v:=by
     intro v hv
     unfold valsTo at hv
     rw[List.take_of_length_le (Nat.le_refl _)] at hv
     obtain⟨x,hx,rfl⟩:=List.mem_map.1 hv
     exact rng_value env x (HOK.out.arg hx)
    have hLl:=valsTo_len env args args.length (Nat.le_refl _)
    have hopk:=operands_ok (node_ok HOK.out.self).2.2.2 (node_ok HOK.out.self).1 (node_ok HOK.out.self).2.1
    simp only[Ex.op_mk,Ex.args_mk] at hopk
    generalize valsTo env args args.length=L at hown' hV hrng hLl
    rw[← hLl] at hopk
    obtain⟨al,cl,hv,hints⟩:=ints_of_own hown' (by omega)
    subst hv
    have b0:wr.cell? ⟨w.heap.size+1,0,none⟩=some (.int .i64 op):=by simp[World.cell?,hb1]
    have b1:wr.cell? ⟨w.heap.size+1,1,none⟩=some (.int .i64 n):=by simp[World.cell?,hb1]
    have b2:wr.cell? ⟨w.heap.size+1,2,none⟩=some (.string s):=by simp[World.cell?,hb1]
    have bs:wr.cell? ⟨w.heap.size,0,none⟩=some (.slice a env.length cap):=by simp[World.cell?,hb0]
    have hz:=hBr.size
    have hSr:=HS.out.keep (keeps_of_below hBr)
    have HF:=Lib.hid (fr (W0:=w) (B:=w.heap.size) (find_any env a cap s wr hSr) hBr hz)
    have HSu:=Lib.hid (fr (W0:=w) (B:=w.heap.size) (sum_any env a cap s wr hsz hSr) hBr hz)
    have HAt:=Lib.hid (fun i W (hW:Below w.heap.size w W) (hzW:w.heap.size≤W.heap.size)=>fr (W0:=w) (B:=w.heap.size) (at_any env a cap s i W hsz (HS.out.keep (keeps_of_below hW))) hW hzW)
    have HOp:=Lib.hid (fun h=>fr (W0:=w) (B:=w.heap.size) (operate_any op L al cl wr hints h (fun h'=>by have:=hopk.2.1 h';omega) (fun i=>rng_getD hrng i)) hBr hz)
    have HI:=Lib.hid hints
    have HB:=Lib.hid hBr
    have HK:=Lib.hid hopk
    clear hown hown' hints hb0 hb1 hrng hLl hopk hBr hSr
    by_cases e1:op=1
    ·have hv:Hid (valueS env (.mk op n s args)=n):=by show _=_;rw[hV.out,if_pos e1]
     go_wp2_with fail
     go_ret
     exact⟨by rw[hv.out];rfl,HB.out⟩
    ·by_cases e2:op=2
     ·have hv:Hid (valueS env (.mk op n s args)=(findS env s).getD 0):=by show _=_;rw[hV.out,if_neg e1,if_pos e2]
      go_wp2_with (go_at_call 257;refine HF.out.mono ?_;rintro e w1 ⟨rfl,hc1,hf1,hz1,hb1⟩)
      go_ret
      exact⟨by rw[hv.out];rfl,by assumption⟩
     ·by_cases e3:op=3
      ·have hv:Hid (valueS env (.mk op n s args)=(atS env s (L.getD 0 0)).getD 0):=by show _=_;rw[hV.out,if_neg e1,if_neg e2,if_pos e3]
       have hL1:L.length=1:=HK.out.1 e3
       obtain⟨bl,ol,hal⟩:=HI.out.addr.resolve_left (by omega)
       subst hal
       have i0:=HI.out.get rfl (show 0 < L.length by omega)
       rw[Nat.add_zero] at i0
       generalize L.getD 0 0=x0 at i0 hv
       have hL0:(0:Int) < (L.length:Int):=by omega
       have hLn:0 < L.length:=by omega
       have hLm:L.length≤1073741824:=by omega
       clear hL1
       go_wp2_with fail
       have hBr:=HB.out
       have hlx:=World.block_lt_of_cell? _ _ i0
       simp only at hlx
       go_region_held3 (fun w'=>w'.cell? ⟨w.heap.size,0,none⟩=some (.slice a env.length cap)∧w'.cell? ⟨w.heap.size+1,2,none⟩=some (.string s)∧w'.cell? ⟨bl,ol,none⟩=some (.int .i64 x0)) (first | go_keep | exact⟨(hc1 _ _ sz).trans bs,(hc1 _ _ sz).trans b2,(hc1 _ _ sz).trans i0⟩) (first | (go_at_call 258;refine(HAt.out x0 _ bel sz).mono ?_;rintro e w1 ⟨rfl,hc1,hf1,hz1,hb1⟩))
       go_wp2_with fail
       go_ret
       exact⟨by rw[hv.out];rfl,by assumption⟩
      ·by_cases e24:op=24
       ·have hv:Hid (valueS env (.mk op n s args)=sumS env s):=by show _=_;rw[hV.out,if_neg e1,if_neg e2,if_neg e3,if_pos e24]
        go_wp2_with (go_at_call 259;refine HSu.out.mono ?_;rintro e w1 ⟨rfl,hc1,hf1,hz1,hb1⟩)
        go_ret
        exact⟨by rw[hv.out];rfl,by assumption⟩
       ·have hv:Hid (valueS env (.mk op n s args)=operateS op L):=by show _=_;rw[hV.out,if_neg e1,if_neg e2,if_neg e3,if_neg e24]
        have HO:=Lib.hid (HOp.out (HK.out.2.2 e1 e2 e24))
        go_wp2_with (go_at_call 260;refine HO.out.mono ?_;rintro e w1 ⟨rfl,hc1,hf1,hz1,hb1⟩)
        go_ret
        exact⟨by rw[hv.out];rfl,by assumption⟩
noncomputable def evalS (env:List (ByteArray × Int)) (e:Ex):Int × Int:=if validS e≠0 then (0,1) else if knownS env e=false then (0,7) else (valueS env e,0)
set_option maxHeartbeats 2000000 in
theorem eval_any (env:List (ByteArray × Int)) (a:Option Addr) (cap:Nat) (op n:Int) (s:ByteArray) (args:List Ex) (ae:Option Addr) (ce:Nat) (w:World) (hG:Glob w) (hS:SigsIn w env a cap) (hE:ExIn w (.mk op n s args) ae ce) (hn:(Ex.mk op n s args).nodes.length≤1073741824) :
  Calls Tryz.prog 162 #[.agg #[.int .i64 op,.int .i64 n,.string s,.slice ae args.length ce],.slice a env.length cap] w fun e w'=>e=.returned (.tuple #[.int .i64 (evalS env (.mk op n s args)).1,.int .i64 (evalS env (.mk op n s args)).2])∧Below w.heap.size w w':=by
 have HS:=Lib.hid hS
 have HE:=Lib.hid hE
 have HG:=Lib.hid hG
 have HV:=Lib.hid (fun W (hW:Below w.heap.size w W) hz=>fr (W0:=w) (B:=w.heap.size) (valid_any op n s args ae ce W (hG.below hW) (hE.keep (keeps_of_below hW)) hn) hW hz)
 have HK:=Lib.hid (fun W (hW:Below w.heap.size w W) hz=>fr (W0:=w) (B:=w.heap.size) (known_any env a cap op n s args ae ce W (hS.keep (keeps_of_below hW)) (hE.keep (keeps_of_below hW)) hn) hW hz)
 have HVa:=Lib.hid (fun hok W (hW:Below w.heap.size w W) hz=>fr (W0:=w) (B:=w.heap.size) (value_any env a cap (.mk op n s args) ae ce W hok hn (hS.keep (keeps_of_below hW)) (hE.keep (keeps_of_below hW))) hW hz)
 simp only[exVal,Ex.op_mk,Ex.n_mk,Ex.name_mk,Ex.args_mk] at HVa
 clear hS hE hG hn
 by_cases hv:validS (.mk op n s args)=0
 ·have HVa':=Lib.hid (HVa.out (valid_ok hv))
  cases hk:knownS env (.mk op n s args)
  ·have hR:Hid (evalS env (.mk op n s args)=(0,7)):=by show _=_;unfold evalS;rw[if_neg (by simpa using hv),if_pos hk]
   go_enter Tryz.func162, Tryz.ntmps162
   go_wp2_with (first | (go_at_call 121;refine(HV.out _ bel sz).mono ?_;rintro e w1 ⟨rfl,hc1,hf1,hz1,hb1⟩;simp only[World.size_alloc] at hz1;have hzl0:w.heap.size < w1.heap.size:=(by omega);have hzl1:w.heap.size+1 < w1.heap.size:=(by omega)) | (go_at_call 220;refine(HK.out _ (by assumption) sz).mono ?_;rintro e w1 ⟨rfl,hc1,hf1,hz1,hb1⟩))
   go_ret2
   exact⟨by rw[hR.out];rfl,by assumption⟩
  ·have hR:Hid (evalS env (.mk op n s args)=(valueS env (.mk op n s args),0)):=by show _=_;unfold evalS;rw[if_neg (by simpa using hv),if_neg (by rw[hk];simp)]
   go_enter Tryz.func162, Tryz.ntmps162
   go_wp2_with (first | (go_at_call 121;refine(HV.out _ bel sz).mono ?_;rintro e w1 ⟨rfl,hc1,hf1,hz1,hb1⟩;simp only[World.size_alloc] at hz1;have hzl0:w.heap.size < w1.heap.size:=(by omega);have hzl1:w.heap.size+1 < w1.heap.size:=(by omega)) | (go_at_call 220;refine(HK.out _ (by assumption) sz).mono ?_;rintro e w1 ⟨rfl,hc1,hf1,hz1,hb1⟩;have hzl2:w.heap.size < w1.heap.size:=(by omega);have hzl3:w.heap.size+1 < w1.heap.size:=(by omega)) | (go_at_call 221;refine(HVa'.out _ (by assumption) sz).mono ?_;rintro e w1 ⟨rfl,hc1,hf1,hz1,hb1⟩))
   go_ret2
   exact⟨by rw[hR.out];rfl,by assumption⟩
 ·have hR:Hid (evalS env (.mk op n s args)=(0,1)):=by show _=_;unfold evalS;rw[if_pos hv]
  have hv':(validS (.mk op n s args) != 0)=true:=by simpa using hv
  go_enter Tryz.func162, Tryz.ntmps162
  go_wp2_with (go_at_call 121;refine(HV.out _ bel sz).mono ?_;rintro e w1 ⟨rfl,hc1,hf1,hz1,hb1⟩)
  go_ret2
  exact⟨by rw[hR.out];rfl,by assumption⟩
end Go.Proofs.YthojpomoflhbcaaGreatDoor
namespace Go.Proofs.YthojpomoflhbcaaGreatDoor
open Go.RowKit
end Go.Proofs.YthojpomoflhbcaaGreatDoor
namespace Go.Proofs.YthojpomoflhbcaaGreatDoor
open Go.RowKit
end Go.Proofs.YthojpomoflhbcaaGreatDoor
