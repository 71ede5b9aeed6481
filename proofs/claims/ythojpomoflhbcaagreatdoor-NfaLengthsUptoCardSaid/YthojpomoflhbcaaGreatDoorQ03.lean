/- The value of an expression: value, Eval. -/
import Derived.Test.YthojpomoflhbcaaGreatDoorQ02
import Derived.Deep.RegionHeld3
set_option maxRecDepth 100000
set_option maxHeartbeats 4000000
set_option linter.unusedSimpArgs false
set_option linter.unusedVariables false
set_option linter.unnecessarySimpa false
namespace Go.Proofs.YthojpomoflhbcaaGreatDoor
open Go.RowKit
def OkE (e:Ex):Prop:=∀x∈e.nodes,qO x=0
theorem QX (l:List Ex):yI l=0->∀x∈l,qO x=0:=by
 induction l with
 |nil=>intro _ x hx;cases hx
 |cons e l ih =>
  intro h x hx;unfold yI at h;by_cases he:qO e=0
  ·rw[if_pos he]at h;rcases List.mem_cons.1 hx with rfl|hx
   ·exact he
   ·exact ih h x hx
  ·rw[if_neg he]at h;exact absurd h he
theorem zkd {e:Ex} (h:zZ e=0):OkE e:=by
 unfold zZ at h;split at h
 ·simp at h
 ·exact QX _ h
theorem OkE.self {e:Ex} (h:OkE e):qO e=0:=h e (by rw[Ex.nodes_eq];exact List.mem_cons_self)
theorem OkE.arg {e:Ex} (h:OkE e) {a:Ex} (ha:a∈e.args):OkE a:=λx hx=>h x (by rw[Ex.nodes_eq];exact List.mem_cons_of_mem _ (List.mem_flatten.2 ⟨_,List.mem_map.2 ⟨a,ha,rfl⟩,hx⟩))
theorem zbJ {e:Ex} (h:qO e=0):1<=e.op/\e.op<=25/\(e.op=1->0<=e.n/\e.n<=65535)/\qD e.op e.args.length=true:=by
 unfold qO at h;split at h
 ·simp at h
 ·rename_i h1;split at h
  ·simp at h
  ·rename_i h2;split at h
   ·simp at h
   ·rename_i h3;refine⟨by omega,by omega,λe1=>?_,?_⟩
    ·omega
    ·cases hb:qD e.op e.args.length
     ·exact absurd (Or.inr hb) h3
     ·rfl
theorem zdN {op:Int} {n:Nat} (h:qD op n=true) (h1:1<=op) (h2:op<=25):(op=3->n=1)/\(op=22->n=3)/\(op≠1->op≠2->op≠24->1<=n):=by
 unfold qD zaJ at h;split at h
 ·rename_i e;have:=of_decide_eq_true h;exact⟨by omega,by omega,by omega⟩
 ·have:=of_decide_eq_true h;refine⟨λe=>?_,λe=>?_,λa b c=>?_⟩<;>(split at this<;>first|omega|(split at this<;>first|omega|(split at this<;>first|omega|(split at this<;>first|omega|(split at this<;>omega)))))
noncomputable def yJ (env:List (ByteArray×Int)) (e:Ex):Int :=
 e.para λe vs=>if e.op=1 then e.n else if e.op=2 then (xO env e.name).getD 0 else if e.op=3 then (atS env e.name (vs.getD 0 0)).getD 0 else if e.op=24 then zm5 env e.name else xr e.op vs
theorem qE (env:List (ByteArray×Int)) (e:Ex):yJ env e=if e.op=1 then e.n else if e.op=2 then (xO env e.name).getD 0 else if e.op=3 then (atS env e.name ((e.args.map (yJ env)).getD 0 0)).getD 0 else if e.op=24 then zm5 env e.name else xr e.op (e.args.map (yJ env)):=by unfold yJ;rw[Ex.para_eq]
def Rng (v:Int):Prop:=0<=v/\v<65536
theorem zmZ:Rng 0:=⟨Int.le_refl 0,by decide⟩
theorem qU {c:Prop} [Decidable c] {a b:Int} (ha:Rng a) (hb:Rng b):Rng (if c then a else b):=by split<;>assumption
theorem ZN (n:Int):Rng (n % 65536):=⟨by omega,by omega⟩
theorem zaj (b:Bool):Rng (Yr b):=by cases b<;>exact⟨by decide,by decide⟩
theorem zeO (env:List (ByteArray×Int)) (s:ByteArray):Rng ((xO env s).getD 0):=by
 induction env with
 |nil=>exact zmZ
 |cons x l ih =>
  unfold xO;split
  ·exact ZN _
  ·exact ih
theorem zm0 (env:List (ByteArray×Int)) (s:ByteArray) (i:Int):Rng ((atS env s i).getD 0):=by
 unfold atS;split
 ·exact⟨by decide,by decide⟩
 ·exact zeO _ _
theorem zf2 (op a:Int):Rng (Qa op a):=by
 unfold Qa;split
 ·exact zaj _
 split
 ·unfold zng;exact⟨by omega,by omega⟩
 split
 ·exact ZN _
 ·unfold zhE Xw yE;exact⟨by omega,by omega⟩
theorem zf1 (op a b:Int) (ha:Rng a) (hb:Rng b):Rng (XR op a b):=by
 obtain⟨A,rfl⟩:=Int.eq_ofNat_of_zero_le ha.1;obtain⟨B,rfl⟩:=Int.eq_ofNat_of_zero_le hb.1;have hA:A<2 ^ 16:=by have:=ha.2;omega
 have hB:B<2 ^ 16:=by have:=hb.2;omega
 unfold XR;refine qU (ZN _) (qU (ZN _) (qU (ZN _) (qU ?_ (qU ?_ (qU ?_ (qU ?_ (qU ?_ ?_)))))))
 ·unfold znf;simp only[Int.toNat_natCast];have:A &&& B<=A:=Nat.and_le_left;exact⟨by omega,by omega⟩
 ·unfold orW;simp only[Int.toNat_natCast];have:=Nat.or_lt_two_pow hA hB;exact⟨by omega,by omega⟩
 ·unfold zni;simp only[Int.toNat_natCast];have:=Nat.xor_lt_two_pow hA hB;exact⟨by omega,by omega⟩
 ·unfold zmg;exact qU zmZ (ZN _)
 ·unfold zmh;refine qU zmZ ⟨Int.ediv_nonneg (by omega) (Int.le_of_lt (Int.pow_pos (by decide))),Int.lt_of_le_of_lt (Int.ediv_le_self _ (by omega)) (by omega)⟩
 repeat (first|exact zaj _|refine qU (zaj _) ?_)
theorem za6 (x:Int) (l:List Int):Rng (xK x l):=by
 match l with
 | []=>exact zmZ
 | [_]=>exact zmZ
 |a::b::r =>
  unfold xK;split
  ·exact⟨by decide,by decide⟩
  ·exact za6 x r
theorem Xz {l:List Int} (h:∀v∈l,Rng v) (i:Nat):Rng (l.getD i 0):=by
 rw[List.getD_eq_getElem?_getD];rcases Nat.lt_or_ge i l.length with hi|hi
 ·rw[List.getElem?_eq_getElem hi];exact h _ (List.getElem_mem hi)
 ·rw[List.getElem?_eq_none hi];exact⟨by decide,by decide⟩
theorem zdV (op:Int) (l:List Int) (h:∀v∈l,Rng v):Rng (xr op l):=by
 unfold xr;split
 ·split
  ·exact Xz h _
  ·exact Xz h _
 split
 ·exact za6 _ _
 split
 ·exact zf2 _ _
 ·exact zf1 _ _ _ (Xz h _) (Xz h _)
theorem zcR (env:List (ByteArray×Int)) (e:Ex):OkE e->Rng (yJ env e):=by
 induction e using Ex.ind with
 |h e ih =>
  intro hok;rw[qE];split
  ·rename_i h1;have:=(zbJ hok.self).2.2.1 h1;exact⟨by omega,by omega⟩
  split
  ·exact zeO _ _
  split
  ·exact zm0 _ _ _
  split
  ·show Rng (ziy _ _);exact ZN _
  ·refine zdV _ _ λv hv=>?_;obtain⟨a,ha,rfl⟩:=List.mem_map.1 hv;exact ih a ha (hok.arg ha)
noncomputable def Zi (env:List (ByteArray×Int)) (l:List Ex) (k:Nat):List Int:=(l.take k).map (yJ env)
theorem zd8 (env:List (ByteArray×Int)) (l:List Ex) (k:Nat) (h:k<l.length):Zi env l (k+1)=Zi env l k++[yJ env (l[k]'h)]:=by unfold Zi;rw[List.take_succ_eq_append_getElem h,List.map_append];rfl
theorem zbf (env:List (ByteArray×Int)) (l:List Ex) (k:Nat) (h:k<=l.length):(Zi env l k).length=k:=by unfold Zi;simp;omega
theorem znp:Elem Tryz.prog 31 3 1:=Elem.of Tryz.underlying31 (by kernel_rfl) (z:=.int .i64 0) (bytes:=8) rfl (by decide) (by decide)
def zmk (env:List (ByteArray×Int)) (w:World) (v1 v2:Array Value) (args:List Ex) (k:Nat) (v:Value) (wr:World):Prop :=
 wr.ownsRow w.heap.size 3 1 v k ((Zi env args k).map (Value.int .i64))/\Below w.heap.size w wr/\wr.heap[w.heap.size]? = some (.cells v1 240 (0,0))/\wr.heap[w.heap.size+1]? = some (.cells v2 24 (0,0))
theorem zir (env:List (ByteArray×Int)) (a:Option Addr) (cap:Nat) (e:Ex):∀(ae:Option Addr) (ce:Nat) (w:World),OkE e->e.nodes.length<=1073741824->zT w env a cap->yY w e ae ce ->
 Calls Tryz.prog 221 #[.agg #[.slice a env.length cap],yu e ae ce] w λr w'=>r=.returned (.int .i64 (yJ env e))/\Below w.heap.size w w':=by
 induction e using Ex.ind with
 |h e ih =>
  intro ae ce w hok hn hS hE;obtain⟨op,n,s,args⟩:=e;have hlen:=hE.2.2.1;have hadr:=hE.2.addr;have hnl:(Ex.mk op n s args).nodes.length=(zD args args.length).length+1:=by rw[xF];simp[Ex.args_mk]
  have hsz:=hE.1;simp only[Ex.args_mk,Ex.name_mk]at hlen hadr hsz;have HN:=Lib.hid (⟨hn,hnl⟩:_/\_);have HS:=Lib.hid hS;have HE:=Lib.hid hE;have HOK:=Lib.hid hok;have HIH:=Lib.hid ih;have HA:=Lib.hid hadr;clear hn hS hE ih hadr hnl hok;simp only[yu,Ex.op_mk,Ex.n_mk,Ex.name_mk,Ex.args_mk];go_enter Tryz.func221, Tryz.ntmps221;go_wp2_with fail;go_loopw [5,15] (λv i wr=>∃k:Nat,i=.int .i64 k/\k<=args.length/\zmk env w #[.slice a env.length cap] #[.int .i64 op,.int .i64 n,.string s,.slice ae args.length ce] args k v wr) (λ_ i _=>args.length-(intOf i).toNat);case atStart=>exact⟨0,rfl,Nat.zero_le _,World.ownsRow_nil _ _ _ _,bel,by rw[Below.heap_alloc _ _ _ (by simp)];exact zi _ _,zq _ _ _ (by simp)⟩
  case round =>
   obtain⟨k,rfl,hk,hown,hBr,hb0,hb1⟩:=hrel;have hlt0:=lt_of_block hb0;have hlt1:=lt_of_block hb1;by_cases hlt:k<args.length
   ·obtain⟨b,off,ha⟩:=HA.out.resolve_left (by omega);subst ha;obtain⟨a',cap',g0,g1,g2,g3,hX⟩:=HE.out.2.get rfl hlt;have kk:=za hBr;have c0:=kk _ _ g0;have c1:=kk _ _ g1;have c2:=kk _ _ g2;have c3:=kk _ _ g3;simp only[Ex.args_mk]at c0 c1 c2 c3;have cs:∀o,(wr.alloc o).cell? ⟨w.heap.size,0,none⟩=_:=λo=>(World.cell?_alloc_lt _ _ _ hlt0).trans (by simp[World.cell?,hb0]:wr.cell? ⟨w.heap.size,0,none⟩=some (.slice a env.length cap));have hrm:=qQ args k hlt;have hn':=HN.out;have hm:args[k]∈(Ex.mk op n s args).args:=List.getElem_mem hlt;have hBA:Below wr.heap.size wr (wr.alloc (.cells #[.int .i64 (args[k]'hlt).op,.int .i64 (args[k]'hlt).n,.string (args[k]'hlt).name,.slice a' (args[k]'hlt).args.length cap'] 24)):=(Below.refl _ _).alloc (Nat.le_refl _) _;have hBw:Below w.heap.size w (wr.alloc (.cells #[.int .i64 (args[k]'hlt).op,.int .i64 (args[k]'hlt).n,.string (args[k]'hlt).name,.slice a' (args[k]'hlt).args.length cap'] 24)):=hBr.trans (hBA.mono hBr.size);have hC:=HIH.out _ hm a' cap' _ (HOK.out.arg hm) (by omega) (HS.out.keep (za hBw)) (hX.keep (za hBw));have HC:=Lib.hid (hC.mono λe w' h=>(⟨h.1,hBA.trans (h.2.mono hBA.size)⟩:_/\Below wr.heap.size wr w'));simp only[Ex.args_mk,yu]at HC;have Hon:=Lib.hid (zd8 env args k hlt);have HR:=Lib.hid (⟨hown,hBr,hb0,hb1⟩:_/\_/\_/\_);clear g0 g1 g2 g3 kk hC hBA hBw hrm hn' hX hown hBr hb0 hb1 hm
    go_wp2_with fail;refine HC.out.mono ?_;rintro e w2 ⟨rfl,hb2⟩;have HB2:=Lib.hid hb2;have HO2:=Lib.hid (ownsRow_below HR.out.1 hb2);have hz2:=hb2.size;clear hb2 c0 c1 c2 c3 cs;go_wp2_with (at_builtin;go_must (refine zhG znp _ rfl (.tmp 19) (.tmp 23) rfl w.heap.size _ k _ rfl HO2.out [.int .i64 (yJ env (args[k]'hlt))] rfl (by simp[Value.oneCell']) _ 1 rfl (by simp) (by omega) (by omega) ?_));intro v' w3 hown3 hg3;have H3:=Lib.hid (⟨hown3,hg3⟩:_/\_);clear hown3 hg3;go_wp2_with fail;go_roundw;case rel =>
     obtain⟨hown3,hg3⟩:=H3.out;obtain⟨hown,hBr,hb0,hb1⟩:=HR.out;have hold:∀(q:Nat) (c:Array Value) (t:TypeId),wr.heap[q]? = some (.cells c t (0,0))->t≠3->w3.heap[q]? = some (.cells c t (0,0)):=by
      intro q c t hq ht;have h1:=(HB2.out.block _ (lt_of_block hq)).trans hq;have h2:(w2.alloc (.cells #[.int .i64 (yJ env (args[k]'hlt))] 3)).heap[q]? = some (.cells c t (0,0)):=by rw[Below.heap_alloc _ _ _ (lt_of_block h1)];exact h1
      exact(hg3.block _ (lt_of_block h2) (zX hown hq ht)).trans h2
     have hz:=hBr.size;refine⟨k+1,by go_num,by omega,by rw[Hon.out,List.map_append];exact hown3,?_,hold _ _ _ hb0 (by decide),hold _ _ _ hb1 (by decide)⟩;refine Below.grown ((hBr.trans (HB2.out.mono hz)).alloc (by omega) _) hg3 (by simp;omega) (λq hq=>(hown.lt q hq).1)
    case measure=>simp[intOf];omega
   ·obtain rfl:k=args.length:=by omega
    have hown':wr.ownsRow w.heap.size 3 1 u5 (Zi env args args.length).length ((Zi env args args.length).map (Value.int .i64)):=by rw[zbf _ _ _ (Nat.le_refl _)];exact hown
    have hV:Hid (yJ env (.mk op n s args)=if op=1 then n else if op=2 then (xO env s).getD 0 else if op=3 then (atS env s ((Zi env args args.length).getD 0 0)).getD 0 else if op=24 then zm5 env s else xr op (Zi env args args.length)):=by show _=_;rw[qE];unfold Zi;rw[List.take_of_length_le (Nat.le_refl _)];rfl
    have hrng:∀v∈Zi env args args.length,Rng v:=by intro v hv;unfold Zi at hv;rw[List.take_of_length_le (Nat.le_refl _)]at hv;obtain⟨x,hx,rfl⟩:=List.mem_map.1 hv;exact zcR env x (HOK.out.arg hx)
    have hLl:=zbf env args args.length (Nat.le_refl _);have hopk:=zdN (zbJ HOK.out.self).2.2.2 (zbJ HOK.out.self).1 (zbJ HOK.out.self).2.1;simp only[Ex.op_mk,Ex.args_mk]at hopk;generalize Zi env args args.length=L at hown' hV hrng hLl;rw[←hLl]at hopk;obtain⟨al,cl,hv,hints⟩:=zdB hown' (by omega);subst hv;have b0:wr.cell? ⟨w.heap.size+1,0,none⟩=some (.int .i64 op):=by simp[World.cell?,hb1]
    have b1:wr.cell? ⟨w.heap.size+1,1,none⟩=some (.int .i64 n):=by simp[World.cell?,hb1]
    have b2:wr.cell? ⟨w.heap.size+1,2,none⟩=some (.string s):=by simp[World.cell?,hb1]
    have bs:wr.cell? ⟨w.heap.size,0,none⟩=some (.slice a env.length cap):=by simp[World.cell?,hb0]
    have hz:=hBr.size;have hSr:=HS.out.keep (za hBr);have HF:=Lib.hid (fr (W0:=w) (B:=w.heap.size) (zbx env a cap s wr hSr) hBr hz);have HSu:=Lib.hid (fr (W0:=w) (B:=w.heap.size) (zl2 env a cap s wr hsz hSr) hBr hz);have HAt:=Lib.hid (λi W (hW:Below w.heap.size w W) (hzW:w.heap.size<=W.heap.size)=>fr (W0:=w) (B:=w.heap.size) (zgB env a cap s i W hsz (HS.out.keep (za hW))) hW hzW);have HOp:=Lib.hid (λh=>fr (W0:=w) (B:=w.heap.size) (zdO op L al cl wr hints h (λh'=>by have:=hopk.2.1 h';omega) (λi=>Xz hrng i)) hBr hz);have HI:=Lib.hid hints;have HB:=Lib.hid hBr;have HK:=Lib.hid hopk;clear hown hown' hints hb0 hb1 hrng hLl hopk hBr hSr;by_cases e1:op=1
    ·have hv:Hid (yJ env (.mk op n s args)=n):=by show _=_;rw[hV.out,if_pos e1]
     go_wp2_with fail;go_ret;exact⟨by rw[hv.out];rfl,HB.out⟩
    ·by_cases e2:op=2
     ·have hv:Hid (yJ env (.mk op n s args)=(xO env s).getD 0):=by show _=_;rw[hV.out,if_neg e1,if_pos e2]
      go_wp2_with (go_at_call 257;refine HF.out.mono ?_;rintro e w1 ⟨rfl,hc1,hf1,hz1,hb1⟩);go_ret;exact⟨by rw[hv.out];rfl,by assumption⟩
     ·by_cases e3:op=3
      ·have hv:Hid (yJ env (.mk op n s args)=(atS env s (L.getD 0 0)).getD 0):=by show _=_;rw[hV.out,if_neg e1,if_neg e2,if_pos e3]
       have hL1:L.length=1:=HK.out.1 e3;obtain⟨bl,ol,hal⟩:=HI.out.addr.resolve_left (by omega);subst hal;have i0:=HI.out.get rfl (show 0<L.length by omega);rw[Nat.add_zero]at i0;generalize L.getD 0 0=x0 at i0 hv;have hL0:(0:Int)<(L.length:Int):=by omega
       have hLn:0<L.length:=by omega
       have hLm:L.length<=1073741824:=by omega
       clear hL1;go_wp2_with fail;have hBr:=HB.out;have hlx:=World.block_lt_of_cell? _ _ i0;simp only at hlx;go_region_held3 (λw'=>w'.cell? ⟨w.heap.size,0,none⟩=some (.slice a env.length cap)/\w'.cell? ⟨w.heap.size+1,2,none⟩=some (.string s)/\w'.cell? ⟨bl,ol,none⟩=some (.int .i64 x0)) (first|go_keep|exact⟨(hc1 _ _ sz).trans bs,(hc1 _ _ sz).trans b2,(hc1 _ _ sz).trans i0⟩) (first|(go_at_call 258;refine(HAt.out x0 _ bel sz).mono ?_;rintro e w1 ⟨rfl,hc1,hf1,hz1,hb1⟩));go_wp2_with fail;go_ret;exact⟨by rw[hv.out];rfl,by assumption⟩
      ·by_cases e24:op=24
       ·have hv:Hid (yJ env (.mk op n s args)=zm5 env s):=by show _=_;rw[hV.out,if_neg e1,if_neg e2,if_neg e3,if_pos e24]
        go_wp2_with (go_at_call 259;refine HSu.out.mono ?_;rintro e w1 ⟨rfl,hc1,hf1,hz1,hb1⟩);go_ret;exact⟨by rw[hv.out];rfl,by assumption⟩
       ·have hv:Hid (yJ env (.mk op n s args)=xr op L):=by show _=_;rw[hV.out,if_neg e1,if_neg e2,if_neg e3,if_neg e24]
        have HO:=Lib.hid (HOp.out (HK.out.2.2 e1 e2 e24));go_wp2_with (go_at_call 260;refine HO.out.mono ?_;rintro e w1 ⟨rfl,hc1,hf1,hz1,hb1⟩);go_ret;exact⟨by rw[hv.out];rfl,by assumption⟩
noncomputable def ZZ (env:List (ByteArray×Int)) (e:Ex):Int×Int:=if zZ e≠0 then (0,1) else if Q4 env e=false then (0,7) else (yJ env e,0)
theorem zji (env:List (ByteArray×Int)) (a:Option Addr) (cap:Nat) (op n:Int) (s:ByteArray) (args:List Ex) (ae:Option Addr) (ce:Nat) (w:World) (hG:ZW w) (hS:zT w env a cap) (hE:yY w (.mk op n s args) ae ce) (hn:(Ex.mk op n s args).nodes.length<=1073741824) :
 Calls Tryz.prog 162 #[.agg #[.int .i64 op,.int .i64 n,.string s,.slice ae args.length ce],.slice a env.length cap] w λe w'=>e=.returned (.tuple #[.int .i64 (ZZ env (.mk op n s args)).1,.int .i64 (ZZ env (.mk op n s args)).2])/\Below w.heap.size w w':=by
 have HS:=Lib.hid hS;have HE:=Lib.hid hE;have HG:=Lib.hid hG;have HV:=Lib.hid (λW (hW:Below w.heap.size w W) hz=>fr (W0:=w) (B:=w.heap.size) (zc7 op n s args ae ce W (hG.below hW) (hE.keep (za hW)) hn) hW hz);have HK:=Lib.hid (λW (hW:Below w.heap.size w W) hz=>fr (W0:=w) (B:=w.heap.size) (zhi env a cap op n s args ae ce W (hS.keep (za hW)) (hE.keep (za hW)) hn) hW hz);have HVa:=Lib.hid (λhok W (hW:Below w.heap.size w W) hz=>fr (W0:=w) (B:=w.heap.size) (zir env a cap (.mk op n s args) ae ce W hok hn (hS.keep (za hW)) (hE.keep (za hW))) hW hz);simp only[yu,Ex.op_mk,Ex.n_mk,Ex.name_mk,Ex.args_mk]at HVa;clear hS hE hG hn;by_cases hv:zZ (.mk op n s args)=0
 ·have HVa':=Lib.hid (HVa.out (zkd hv));cases hk:Q4 env (.mk op n s args)
  ·have hR:Hid (ZZ env (.mk op n s args)=(0,7)):=by show _=_;unfold ZZ;rw[if_neg (by simpa using hv),if_pos hk]
   go_enter Tryz.func162, Tryz.ntmps162;go_wp2_with (first|(go_at_call 121;refine(HV.out _ bel sz).mono ?_;rintro e w1 ⟨rfl,hc1,hf1,hz1,hb1⟩;simp only[World.size_alloc]at hz1;have hzl0:w.heap.size<w1.heap.size:=(by omega);have hzl1:w.heap.size+1<w1.heap.size:=(by omega))|(go_at_call 220;refine(HK.out _ (by assumption) sz).mono ?_;rintro e w1 ⟨rfl,hc1,hf1,hz1,hb1⟩));go_ret2;exact⟨by rw[hR.out];rfl,by assumption⟩
  ·have hR:Hid (ZZ env (.mk op n s args)=(yJ env (.mk op n s args),0)):=by show _=_;unfold ZZ;rw[if_neg (by simpa using hv),if_neg (by rw[hk];simp)]
   go_enter Tryz.func162, Tryz.ntmps162;go_wp2_with (first|(go_at_call 121;refine(HV.out _ bel sz).mono ?_;rintro e w1 ⟨rfl,hc1,hf1,hz1,hb1⟩;simp only[World.size_alloc]at hz1;have hzl0:w.heap.size<w1.heap.size:=(by omega);have hzl1:w.heap.size+1<w1.heap.size:=(by omega))|(go_at_call 220;refine(HK.out _ (by assumption) sz).mono ?_;rintro e w1 ⟨rfl,hc1,hf1,hz1,hb1⟩;have hzl2:w.heap.size<w1.heap.size:=(by omega);have hzl3:w.heap.size+1<w1.heap.size:=(by omega))|(go_at_call 221;refine(HVa'.out _ (by assumption) sz).mono ?_;rintro e w1 ⟨rfl,hc1,hf1,hz1,hb1⟩));go_ret2;exact⟨by rw[hR.out];rfl,by assumption⟩
 ·have hR:Hid (ZZ env (.mk op n s args)=(0,1)):=by show _=_;unfold ZZ;rw[if_pos hv]
  have hv':(zZ (.mk op n s args) != 0)=true:=by simpa using hv
  go_enter Tryz.func162, Tryz.ntmps162;go_wp2_with (go_at_call 121;refine(HV.out _ bel sz).mono ?_;rintro e w1 ⟨rfl,hc1,hf1,hz1,hb1⟩);go_ret2;exact⟨by rw[hR.out];rfl,by assumption⟩
theorem zfS (op:Int) (w:World) :
 Calls Tryz.prog 286 #[.int .i64 op] w λe w'=>e=.returned (.int .i64 (zaJ op))/\w=w':=by
 go_enter Tryz.func286, Tryz.ntmps286;go_wp2;all_goals go_ret
 all_goals refine⟨?_,rfl⟩
 all_goals simp_all [zaJ]
 all_goals omega
theorem zf0 (op:Int) (w:World) :
 Calls Tryz.prog 285 #[.int .i64 op] w λe w'=>e=.returned (.bool (op==2||op==3||op==24))/\w=w':=by
 go_enter Tryz.func285, Tryz.ntmps285;go_wp2;all_goals go_ret
 all_goals refine⟨?_,rfl⟩
 all_goals congr 2
 all_goals simp_all [Bool.eq_iff_iff]
end Go.Proofs.YthojpomoflhbcaaGreatDoor
