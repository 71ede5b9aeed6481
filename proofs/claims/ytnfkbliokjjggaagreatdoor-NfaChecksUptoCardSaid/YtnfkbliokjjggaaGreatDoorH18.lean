/- Pairs of states: keys of a map, elements of a row. -/
import Derived.Test.YtnfkbliokjjggaaGreatDoorH17
import Derived.WideKeyPair
import Derived.DeepKeys4
import Derived.Test.YtnfkbliokjjggaaGreatDoorH10
import Derived.Deep.LoopGhost
import Derived.OneCell
import Derived.Test.YtnfkbliokjjggaaGreatDoorH16
import Derived.Test.YtnfkbliokjjggaaGreatDoorH14
import Derived.Laws.ResultCell
set_option maxHeartbeats 8000000
set_option maxRecDepth 100000
set_option linter.unusedSimpArgs false
set_option linter.unusedVariables false
set_option linter.unnecessarySimpa false
namespace Go.Proofs.YtnfkbliokjjggaaGreatDoor
open Go.RowKit Go.WideMaps
def prR (_:World) (p:Int×Int) (vs:List Value):Prop:=vs=[.int .i64 p.1,.int .i64 p.2]
def prE:Enc (Int×Int) where
 sz:=2
 R:=prR
 pos:=by decide
 len:=by rintro _ _ _ rfl;rfl
 keep:=by rintro _ _ _ _ _ h;exact h
 one:=by rintro _ _ _ rfl v hv;simp at hv;rcases hv with rfl|rfl<;>rfl
theorem zhr:Elem Tryz.prog 95 96 2:=Elem.of Tryz.underlying95 (by kernel_rfl) (z:=.agg #[.int .i64 0,.int .i64 0]) (bytes:=16) rfl (by decide) (by decide)
theorem zgK {w w':World} {l:List (Int×Int)} {xs:List Value} (h:prE.Vals w l xs):prE.Vals w' l xs:=⟨h.1,λi hi=>by obtain⟨vs,h1,h2⟩:=h.2 i hi;exact⟨vs,h1,h2⟩⟩
theorem Zk {p:Nat->Bool} {w:World} {B:Nat} {v:Value} {l:List (Int×Int)}:prE.Own 96 p w B v l<->∃xs,w.ownsRow B 96 2 v l.length xs/\prE.Vals w l xs :=
 ⟨λ⟨xs,h1,h2⟩=>⟨xs,h1,zgK h2⟩,λ⟨xs,h1,h2⟩=>⟨xs,h1,zgK h2⟩⟩
def prV (p:Int×Int):Value:=.agg #[.int .i64 p.1,.int .i64 p.2]
def prL (p:Int×Int):Lit:=.string (keyBytes [.int .i64 p.1,.int .i64 p.2])
def SmP (p:Int×Int):Prop:=(-1<=p.1/\p.1<=100000)/\-1<=p.2/\p.2<=100000
theorem zjM:ArrKey Tryz.prog 96 3 2:=⟨Tryz.underlying96,by kernel_rfl,by kernel_rfl,by kernel_rfl⟩
theorem zjd:laidOutB Tryz.prog=true:=by kernel_rfl
theorem zjW:(96:TypeId) < Tryz.prog.types.size:=of_decide_eq_true (by kernel_rfl)
theorem zjZ : Tryz.prog.keyTypeAt 2 96=true:=by kernel_rfl
theorem zgw:Maps.Keyed Tryz.prog 96:=Maps.Keyed.of_law (deep_law_laid zjd (m:=2) (by omega) zjW zjZ (by rw[Tryz.underlying96]))
theorem szPR:∃m, Tryz.prog.types.size=m+1:=⟨Tryz.prog.types.size-1,by have:0 < Tryz.prog.types.size:=of_decide_eq_true (by kernel_rfl);omega⟩
theorem zhy {p:Int×Int} (h:SmP p):keyOf Tryz.prog 96 (prV p)=some (prL p):=by obtain⟨⟨h1,h2⟩,h3,h4⟩:=h;exact keyOf_pair zjM Tryz.underlying3 szPR (WalkArith.wf_i64 (by omega)) (WalkArith.wf_i64 (by omega))
theorem zis {p q:Int×Int} (hp:SmP p) (hq:SmP q) (h:prL p=prL q):p=q:=by have h1:=zhy hp;have h2:=zhy hq;rw[←h]at h2;have:=zgw.inj h1 h2;unfold prV at this;obtain⟨a,b⟩:=p;obtain⟨c,d⟩:=q;simp only[Value.agg.injEq]at this;have h3:=congrArg Array.toList this;simp only[List.cons.injEq,Value.int.injEq,true_and,and_true]at h3;rw[h3.1,h3.2]
def zcd (w:World) (b:Nat) (ps:List (Int×Int)):Prop :=
 ∃(m:Nat) (f:Lit->Option Value),xH w Tryz.prog 96 b m f/\m<=ps.length/\∀p,SmP p->f (prL p)=if ps.contains p then some (.int .i64 (ps.idxOf p:Nat)) else none
section
variable {w w' : World} {b : Nat} {ps : List (Int × Int)}
theorem zcd.lt (h:zcd w b ps):b<w.heap.size:=by obtain⟨m,f,h1,_⟩:=h;exact h1.lt
theorem zcd.block (h:zcd w b ps) (hb:w'.heap[b]? = w.heap[b]?):zcd w' b ps:=by obtain⟨m,f,h1,h2⟩:=h;exact⟨m,f,h1.block hb,h2⟩
theorem QX {p q:Int×Int}:(ps++[q]).contains p=(ps.contains p||p==q):=by rw[Bool.eq_iff_iff];simp
theorem zcd.put {m:Nat} {f:Lit->Option Value} {q:Int×Int} {n:Nat} (h2:m<=ps.length) (h3:∀p,SmP p->f (prL p)=if ps.contains p then some (.int .i64 (ps.idxOf p:Nat)) else none) (hq:SmP q) (hn:ps.contains q=false) (hnl:n=ps.length) (h:xH w' Tryz.prog 96 b (m+if (f (prL q)).isSome then 0 else 1) (zgM f (prL q) (some (.int .i64 n)))):zcd w' b (ps++[q]):=by
 subst hnl;refine⟨_,_,h,?_,λp hp=>?_⟩
 ·rw[List.length_append,List.length_singleton];split<;>omega
 ·have hni:q∉ps:=λe=>by rw[List.contains_iff_mem.2 e]at hn;cases hn
  rw[QX];by_cases e:p=q
  ·subst e;rw[XP,beq_self_eq_true,Bool.or_true,if_pos rfl,List.idxOf_append,if_neg hni];simp
  ·rw[YF _ (λe2=>e (zis hp hq e2)),h3 p hp,beq_eq_false_iff_ne.2 e,Bool.or_false];by_cases hc:ps.contains p=true
   ·rw[if_pos hc,if_pos hc,List.idxOf_append,if_pos (List.contains_iff_mem.1 hc)]
   ·rw[if_neg hc,if_neg hc]
end
open Go.RowKit
attribute [local go_sem ↓] Go.wp_at_zero Go.wp_at_succ
def xx (w:World) (b:Nat) (o:List Bool):Prop:=w.heap[b]? = some (.cells (o.map Value.bool).toArray 4 (0,0))
theorem xx.cell {w:World} {b:Nat} {o:List Bool} (h:xx w b o) {i:Nat} (hi:i<o.length):w.cell? ⟨b,i,none⟩=some (.bool (o.getD i false)):=by unfold xx at h;rw[zb h,List.getElem?_toArray,List.getElem?_map,List.getElem?_eq_getElem hi,List.getD_eq_getElem?_getD,List.getElem?_eq_getElem hi];rfl
theorem xx.free {w:World} {b:Nat} {o:List Bool} (h:xx w b o) (i:Nat):w.frozen? ⟨b,i,none⟩=false:=by unfold xx at h;simp[World.frozen?,h]
theorem xx.set {w:World} {b:Nat} {o:List Bool} (h:xx w b o) (i:Nat):xx (w.setCell ⟨b,i,none⟩ (.bool true)) b (o.set i true):=by unfold xx at h⊢;rw[heap_setCell_same w b i _ _ _ h];congr 2;apply Array.ext';simp[List.map_set]
theorem xx.below {w w':World} {b:Nat} {o:List Bool} (h:xx w b o) (hb:Below w.heap.size w w'):xx w' b o:=(hb.block _ (lt_of_block h)).trans h
theorem zji (n:Nat) (h:n<=1073741824) (w:World):(Instr.makeSlice 97 (.int .i64 n) (.int .i64 n)).run Tryz.prog w=.ok (.slice (some ⟨w.heap.size,0,none⟩) n n) (w.alloc (.cells (Array.replicate n (.bool false)) 4)):=by obtain⟨i,h1,h2,h3,h4⟩:=info_parts (show (Tryz.prog.info? 4).map (λi=>(i.zero,i.size,i.bytes))=some (some (.bool false),1,1) from by kernel_rfl);have:=run_make (P:=Tryz.prog) w 97 4 i _ Tryz.underlying97 h1 h2 .i64 .i64 n n (by omega) (by omega) (by rw[h4];omega) (by omega);rw[this,h3,show (Value.bool false).cells=#[Value.bool false] from rfl,Int.toNat_natCast,Nat.mul_one,←List.toArray_replicate,←toList_madeCells_one]
def nnP (p:Int×Int):Nat×Nat:=(p.1.toNat,p.2.toNat)
def yC (st:Nat) (l:List Int) (k:Nat):List Bool:=((l.take k).map Int.toNat).foldl (λo s=>o.set s true) (List.replicate st false)
theorem XG (st:Nat) (l:List Int) {k:Nat} (h:k<l.length):yC st l (k+1)=(yC st l k).set (l[k]'h).toNat true:=by unfold yC;rw[List.take_succ_eq_append_getElem h,List.map_append,List.foldl_append];rfl
theorem Qr (st:Nat) (l:List Int):yC st l l.length=YC st (l.map Int.toNat):=by unfold yC YC;rw[List.take_length]
theorem Zv (st:Nat) (l:List Int) (k:Nat):(yC st l k).length=st:=Yg _ _
theorem zir {w:World} {l:List (Int×Int)} {a:Option Addr} {cap:Nat} (h:prE.In w l a cap) {b off:Nat} (ha:a=some ⟨b,off,none⟩) {i:Nat} (hi:i<l.length) :
 w.cell? ⟨b,off+i*2,none⟩=some (.int .i64 (l[i]'hi).1)/\w.cell? ⟨b,off+i*2+1,none⟩=some (.int .i64 (l[i]'hi).2):=by
 obtain⟨vs,hv,hc⟩:=h.get ha hi;have hv':vs=[.int .i64 (l[i]'hi).1,.int .i64 (l[i]'hi).2]:=hv;subst hv';exact⟨hc 0 _ rfl,hc 1 _ rfl⟩
theorem XQ (st:Nat) (hst:st<=256) (fr:List Int) (fa:Option Addr) (fc:Nat) (steps:List (Int×Int)) (sa:Option Addr) (sc:Nat) (w:World) (hf:IntsIn w fr fa fc) (hfb:∀x∈fr,0<=x/\x<(st:Int)) (hs:prE.In w steps sa sc) (hsb:∀p∈steps,(0<=p.1/\p.1<(st:Int))/\0<=p.2/\p.2<(st:Int)) :
 Calls Tryz.prog 48 #[.int .i64 st,.slice fa fr.length fc,.slice sa steps.length sc] w λe w'=>e=.returned (.slice (some ⟨w.heap.size,0,none⟩) st st)/\xx w' w.heap.size (yT (steps.map nnP) (YC st (fr.map Int.toNat)))/\Below w.heap.size w w':=by
 have HF:=Lib.hid hf;have HS:=Lib.hid hs;have HFb:=Lib.hid hfb;have HSb:=Lib.hid hsb;have hfl:=hf.2.1;have hsl:=hs.len;have HFA:Hid (fr.length=0\/∃b off,fa=some ⟨b,off,none⟩):=zw.addr hf;have HSA:Hid (steps.length=0\/∃b off,sa=some ⟨b,off,none⟩):=hs.addr;have hmk:=zji st (by omega);obtain⟨SP,HSP⟩:∃SP,Hid (steps.map nnP=SP):=⟨_,rfl⟩;have HSPl:Hid (SP.length=steps.length):=by show _=_;rw[←HSP.out,List.length_map]
 have HSPg:Hid (∀k (h:k<steps.length) (h2:k<SP.length),SP[k]'h2=nnP (steps[k]'h)):=λk h h2=>by simp only[←HSP.out,List.getElem_map]
 rw[HSP.out,←Qr];clear hf hs hfb hsb HSP;generalize hPo:(λ(e:Ending) (w':World)=>e=.returned (.slice (some ⟨w.heap.size,0,none⟩) st st)/\xx w' w.heap.size (yT SP (yC st fr fr.length))/\Below w.heap.size w w')=Po;have HPo:Hid (∀W,xx W w.heap.size (yT SP (yC st fr fr.length))->Below w.heap.size w W->Po (.returned (.slice (some ⟨w.heap.size,0,none⟩) st st)) W):=λW h1 h2=>by rw[←hPo];exact⟨rfl,h1,h2⟩
 clear hPo;go_enter Tryz.func48, Tryz.ntmps48;go_wp2_with fail;generalize hW2:World.alloc w _=W2;have HB2:Hid (Below w.heap.size w W2):=by show Below _ _ _;rw[←hW2];exact(Below.refl _ _).alloc (Nat.le_refl _) _
 have HR2:Hid (xx W2 w.heap.size (yC st fr 0)):=by show xx _ _ _;rw[←hW2];unfold xx yC;rw[List.take_zero,List.map_nil,List.foldl_nil,List.map_replicate,List.toArray_replicate];exact zh rfl
 have hz2:=lt_of_block HR2.out;clear hW2 hmk;go_loopw [17,9] (λi _ wr=>∃k:Nat,i=.int .i64 k/\k<=fr.length/\Hid (xx wr w.heap.size (yC st fr k))/\Hid (Below w.heap.size w wr)) (λi _ _=>fr.length-(intOf i).toNat);case atStart=>exact⟨0,rfl,Nat.zero_le _,HR2,HB2⟩
 case round =>
  obtain⟨k,rfl,hk,HR,HBr⟩:=hrel;have hzr:=HBr.out.size;by_cases hlt:k<fr.length
  ·obtain⟨bf,of,hfa⟩:=HFA.out.resolve_left (by omega);subst hfa;have g0:=za HBr.out _ _ (HF.out.get rfl hlt);rw[List.getD_eq_getElem?_getD,List.getElem?_eq_getElem hlt,Option.getD_some]at g0;have HMk:Hid (yC st fr (k+1)=(yC st fr k).set (fr[k]'hlt).toNat true):=XG st fr hlt;obtain⟨x0,x1⟩:=HFb.out _ (List.getElem_mem hlt);generalize (fr[k]'hlt)=x at g0 HMk x0 x1;obtain⟨m,rfl⟩:=Int.eq_ofNat_of_zero_le x0;rw[Int.toNat_natCast]at HMk;have hm:m<st:=by omega
   have c0:=HR.out.cell (i:=m) (by rw[Zv];exact hm);have d0:=HR.out.free m;go_wp2_with fail;have HR':Hid (xx (wr.setCell ⟨w.heap.size,m,none⟩ (.bool true)) w.heap.size (yC st fr (k+1))):=by show xx _ _ _;rw[HMk.out];exact HR.out.set m
   have HB':Hid (Below w.heap.size w (wr.setCell ⟨w.heap.size,m,none⟩ (.bool true))):=HBr.out.setCell (Nat.le_refl _) _;go_roundw;case rel=>exact⟨k+1,by go_num,by omega,HR',HB'⟩
   case measure=>(simp[intOf];try omega)
  ·obtain rfl:k=fr.length:=by omega
   obtain⟨o,ho⟩:∃o,yC st fr fr.length=o:=⟨_,rfl⟩;have hol:o.length=st:=by rw[←ho,Zv]
   rw[ho]at HR HPo;have HOl:=Lib.hid hol;clear ho hol;go_wp2_with fail;rename World=>w3;go_loopg [10,12] (st+1) (λkx m _ wr=>∃(mo:Bool) (n:Nat) (q:List Bool),m=.bool mo/\Hid (q=yM SP n o)/\Hid (mo=false->zn SP q=q)/\Hid (zV q+(if mo=true then 1 else 0)<=kx)/\Hid (xx wr w.heap.size q)/\Hid (Below w.heap.size w wr));case atStart=>exact⟨true,0,o,rfl,rfl,λh=>(by cases h),by show zV o+1<=st+1;have:=Ya o;have:=HOl.out;omega,HR,HBr⟩
   case round =>
    obtain⟨mo,n,q,rfl,HQn,HQs,HQf,HR,HBr⟩:=hrel;have hzr:=HBr.out.size;have HQl:Hid (q.length=st):=by show _=_;rw[HQn.out,Zr,HOl.out]
    cases mo with
    |false =>
     have HE:Hid (q=yT SP o):=zaA HQn.out (HQs.out rfl);go_wp2_with fail;have HRe:Hid (xx wr w.heap.size (yT SP o)):=by show xx _ _ _;rw[←HE.out];exact HR.out
     first|exact HPo.out _ HRe.out HBr.out|(go_ret;exact HPo.out _ HRe.out HBr.out)
    |true =>
     have HQf':Hid (zV q+1<=gk):=HQf.out;clear HQs HQf;go_wp2_with fail;generalize wr=w4 at HR HBr hzr⊢;go_loopw [28,10,12] (λi m _ wr=>∃(k:Nat) (mo:Bool),i=.int .i64 k/\k<=steps.length/\m=.bool mo/\Hid ((mo=false/\zE SP q k=q)\/(mo=true/\zV (zE SP q k)<zV q))/\Hid (xx wr w.heap.size (zE SP q k))/\Hid (Below w.heap.size w wr)) (λi _ _ _=>steps.length-(intOf i).toNat);case atStart=>exact⟨0,false,rfl,Nat.zero_le _,rfl,Or.inl ⟨rfl,qb _ _⟩,by show xx _ _ _;rw[qb];exact HR.out,HBr⟩
     case round =>
      clear HR HBr hzr;obtain⟨k,mo,rfl,hk,rfl,HMo,HR,HBr⟩:=hrel;have hzr:=HBr.out.size;by_cases hlt:k<steps.length
      ·obtain⟨bs,os,hsa⟩:=HSA.out.resolve_left (by omega);subst hsa;obtain⟨g0,g1⟩:=zir HS.out rfl hlt;have f0:=za HBr.out _ _ g0;have f1:=za HBr.out _ _ g1;have HCk:Hid (zE SP q (k+1)=zJ (zE SP q k) (nnP (steps[k]'hlt))):=by show _=_;rw[YP SP q (by rw[HSPl.out];exact hlt),HSPg.out k hlt]
       obtain⟨⟨x0,x1⟩,y0,y1⟩:=HSb.out _ (List.getElem_mem hlt);unfold nnP at HCk;clear g0 g1;generalize (steps[k]'hlt).1=x at f0 HCk x0 x1;generalize (steps[k]'hlt).2=y at f1 HCk y0 y1;obtain⟨i,rfl⟩:=Int.eq_ofNat_of_zero_le x0;obtain⟨j,rfl⟩:=Int.eq_ofNat_of_zero_le y0;simp only[Int.toNat_natCast]at HCk;have hi:i<st:=by omega
       have hj:j<st:=by omega
       have HCl:Hid ((zE SP q k).length=st):=by show _=_;rw[Xq,HQl.out]
       obtain⟨C,hC⟩:∃C,zE SP q k=C:=⟨_,rfl⟩;rw[hC]at HMo HR HCk HCl;have c0:=HR.out.cell (i:=i) (by rw[HCl.out];exact hi);have c1:=HR.out.cell (i:=j) (by rw[HCl.out];exact hj);have d1:=HR.out.free j;have HGi:Hid (C.getD i false=C.getD i false):=rfl;unfold zJ at HCk;simp only at HCk;have Hfs:Hid (C.getD j false=false->zV (C.set j true)+1=zV C):=λh=>YA (by rw[HCl.out];exact hj) h;clear hC HGi;have C0:∀o,(wr.alloc o).cell? ⟨w.heap.size,i,none⟩=some (.bool (C.getD i false)):=λo=>Lib.cell?_alloc_some _ c0;have C1:∀o,(wr.alloc o).cell? ⟨w.heap.size,j,none⟩=some (.bool (C.getD j false)):=λo=>Lib.cell?_alloc_some _ c1;have hbl:w.heap.size<wr.heap.size:=lt_of_block HR.out;have D1:∀o,(wr.alloc o).frozen? ⟨w.heap.size,j,none⟩=false:=λo=>by have:=zl (o:=o) HR.out;simp[World.frozen?,this]
       clear c0 c1 d1;cases hvi:C.getD i false with
       |false =>
        rw[hvi]at C0 HCk;have HCk':Hid (zE SP q (k+1)=C):=by show _=_;rw[HCk.out];rfl
        clear hvi HCk Hfs D1;go_wp2_with fail;go_roundw;case rel=>exact⟨k+1,mo,by go_num,by omega,rfl,by rw[HCk'.out];exact HMo,by rw[HCk'.out];exact Lib.hid (HR.out.below ((Below.refl _ _).alloc (Nat.le_refl _) _)),HBr.out.alloc hzr _⟩
        case measure=>(simp[intOf];try omega)
       |true =>
        cases hvj:C.getD j false with
        |true =>
         rw[hvi]at C0;rw[hvj]at C1;rw[hvi,hvj]at HCk;have HCk':Hid (zE SP q (k+1)=C):=by show _=_;rw[HCk.out];rfl
         clear hvi hvj HCk Hfs D1;go_wp2_with fail;go_roundw;case rel=>exact⟨k+1,mo,by go_num,by omega,rfl,by rw[HCk'.out];exact HMo,by rw[HCk'.out];exact Lib.hid (HR.out.below ((Below.refl _ _).alloc (Nat.le_refl _) _)),HBr.out.alloc hzr _⟩
         case measure=>(simp[intOf];try omega)
        |false =>
         rw[hvi]at C0;rw[hvj]at C1;rw[hvi,hvj]at HCk;have HCk':Hid (zE SP q (k+1)=C.set j true):=by show _=_;rw[HCk.out];rfl
         have HMo':Hid (zV (C.set j true)<zV q):=by
          have h1:=Hfs.out hvj;show _<_;rcases HMo.out with ⟨_,h⟩|⟨_,h⟩
          ·rw[h]at h1⊢;omega
          ·omega
         clear hvi hvj HCk Hfs;go_wp2_with fail;go_roundw;case rel=>exact⟨k+1,true,by go_num,by omega,rfl,by rw[HCk'.out];exact Lib.hid (Or.inr ⟨rfl,HMo'.out⟩),by rw[HCk'.out];exact Lib.hid ((xx.set HR.out j).below ((Below.refl _ _).alloc (Nat.le_refl _) _)),(HBr.out.setCell (Nat.le_refl _) _).alloc (by rw[World.size_setCell];exact hzr) _⟩
         case measure=>(simp[intOf];try omega)
      ·obtain rfl:k=steps.length:=by omega
       have HCa:Hid (zE SP q steps.length=zn SP q):=by show _=_;rw[←HSPl.out,Xp]
       have HQn':Hid (zn SP q=yM SP (n+1) o):=by show _=_;rw[qG,←HQn.out]
       have HR':Hid (xx wr w.heap.size (zn SP q)):=by show xx _ _ _;rw[←HCa.out];exact HR.out
       rw[HCa.out]at HMo;have HMs:Hid (mo=false->zn SP (zn SP q)=zn SP q):=λh=>by
        rcases HMo.out with ⟨_,h2⟩|⟨h2,_⟩
        ·rw[h2,h2]
        ·rw[h]at h2;cases h2
       have HMf:Hid (zV (zn SP q)+(if mo=true then 1 else 0)<=zV q):=by
        show _<=_;rcases HMo.out with ⟨h1,h2⟩|⟨h1,h2⟩
        ·rw[h1,h2];simp
        ·rw[h1,if_pos rfl];omega
       go_wp2_with fail;go_roundg (zV q);case measure=>have:=HQf'.out;omega
       case rel=>exact⟨mo,n+1,zn SP q,rfl,HQn'.out,HMs.out,HMf.out,HR'.out,HBr.out⟩
theorem zh0 (fn:Func) (c:Nat) (hr:fn.results=#[.cell c 77]) (W:World) (tm:Array Value) (b:Nat) (m0 m1 m2 m3:Value) (hW:W.heap[b]? = some (.cells #[m0,m1,m2,m3] 77 (0,0))) (h0:tm.getD c undef=.pointer (some ⟨b,0,none⟩)) :
 (results fn tm).run Tryz.prog W=.ok (.agg #[m0,m1,m2,m3]) W:=by
 have c0:=zb hW 0;have c1:=zb hW 1;have c2:=zb hW 2;have c3:=zb hW 3;simp at c0 c1 c2 c3;rw[ym hr,h0];simp[asAddr];go_simp
structure xM {τ:Type} (E:Enc τ) (t:TypeId) (p:Nat->Bool) (B:Nat) (w:World) (v:Value) (w':World) (v':Value) (l:List τ):Prop where
 own:E.Own t p w' B v' l
 gr:w.grownBy w' v.ownBlock
 hat:v'.ownBlock=v.ownBlock\/∃g,v'.ownBlock=some g/\w.heap.size<=g
section
variable {τ : Type} {E : Enc τ} {t : TypeId} {p : Nat → Bool} {B : Nat} {w w1 w2 : World} {v v1 v2 : Value} {l l2 : List τ}
theorem xM.refl (h:E.Own t p w B v l):xM E t p B w v w v l:=⟨h,Q0 _ _,Or.inl rfl⟩
theorem xM.below (h:xM E t p B w v w1 v1 l) (hb:Below w1.heap.size w1 w2):xM E t p B w v w2 v1 l:=⟨h.own.below hb,Yc h.gr hb,h.hat⟩
theorem xM.trans (h:xM E t p B w v w1 v1 l) (h2:xM E t p B w1 v1 w2 v2 l2):xM E t p B w v w2 v2 l2:=by
 have hs:=h.gr.size;refine⟨h2.own,?_,?_⟩
 ·rcases h.hat with e|⟨g,e,hg⟩
  ·have:=h2.gr;rw[e]at this;exact Yd h.gr this
  ·exact⟨h2.gr.os.trans h.gr.os,h2.gr.tape.trans h.gr.tape,h2.gr.output.trans h.gr.output,Nat.le_trans hs h2.gr.size,λk hk hn=>(h2.gr.block k (by omega) (by rw[e];intro x;have:=Option.some.inj x;omega)).trans (h.gr.block k hk hn)⟩
 ·rcases h2.hat with e|⟨g,e,hg⟩
  ·rw[e];exact h.hat
  ·exact Or.inr ⟨g,e,by omega⟩
theorem xM.add {n g c:Nat} (h:xM E t p B w v w1 v1 l) {u w3:World} (hb:Below w1.heap.size w1 u) (ho:E.Own t p w3 B (.slice (some ⟨g,0,none⟩) n c) l2) (hg:u.grownBy w3 v1.ownBlock) (hat:v1.ownBlock=some g\/w1.heap.size<=g):xM E t p B w v w3 (.slice (some ⟨g,0,none⟩) n c) l2 :=
 h.trans ⟨ho,⟨hg.os.trans hb.os,hg.tape.trans hb.tape,hg.output.trans hb.output,Nat.le_trans hb.size hg.size,λk hk hn=>(hg.block k (Nat.lt_of_lt_of_le hk hb.size) hn).trans (hb.block k hk)⟩,hat.imp (λe=>e.symm) λe=>⟨g,rfl,e⟩⟩
theorem xM.size (h:xM E t p B w v w1 v1 l):w.heap.size<=w1.heap.size:=h.gr.size
theorem xM.block (h:xM E t p B w v w1 v1 l) {k:Nat} {o:Obj} (hk:w.heap[k]? = some o) (hn:v.ownBlock≠some k):w1.heap[k]? = some o :=
 (h.gr.block k (lt_of_block hk) λe=>hn e.symm).trans hk
theorem xM.kp (h:xM E t p B w v w1 v1 l):Kp (World.hide w (hid p v)) (World.hide w1 (hid p v1)):=by
 intro a u ha;obtain⟨h1,h2⟩:=zr.1 ha;have hlt:=xV h2;have hne:v.ownBlock≠some a.block:=λe=>by rw[ze.2 (Or.inr e)]at h1;simp at h1
 refine zr.2 ⟨?_,by rw[World.cell?_of_block (h.gr.block _ hlt λe=>hne e.symm)];exact h2⟩;cases h3:hid p v1 a.block with
 |false=>rfl
 |true =>
  rcases ze.1 h3 with e|e
  ·rw[ze.2 (Or.inl e)]at h1;simp at h1
  ·rcases h.hat with e2|⟨g,e2,hg⟩
   ·exact absurd (e2 ▸ e) hne
   ·rw[e]at e2;have:=Option.some.inj e2;omega
theorem xM.hp (h:xM E t p B w v w1 v1 l) (hp:∀j,p j=true->j<w.heap.size):∀j,hid p v1 j=true->j<w1.heap.size:=λj hj=>by
 rcases ze.1 hj with e|e
 ·have:=hp j e;have:=h.gr.size;omega
 ·exact(zq h.own j e).2
end
theorem zdJ (e0 e1:Int) (ag:Option Addr) (gl cg:Nat) (aS:Option Addr) (sl cs:Nat) (f t:Int) (w:World) :
 Calls Tryz.prog 51 #[.agg #[.int .i64 e0,.int .i64 e1,.slice ag gl cg,.slice aS sl cs],.int .i64 f,.int .i64 t] w λe w'=>e=.returned (.agg #[.int .i64 f,.int .i64 t,.slice ag gl cg,.slice aS sl cs])/\Below w.heap.size w w':=by
 go_enter Tryz.func51, Tryz.ntmps51;go_upto_region 1 with fail;generalize hW2:World.alloc (World.alloc w _) _=W2;have HB2:Hid (Below w.heap.size w W2):=by show Below _ _ _;rw[←hW2];exact((Below.refl _ _).alloc (Nat.le_refl _) _).alloc (by simp) _
 have hx:W2.heap[w.heap.size]? = some (.cells #[.int .i64 e0,.int .i64 e1,.slice ag gl cg,.slice aS sl cs] 77 (0,0)):=by rw[←hW2];exact zl (zh rfl)
 have hr:W2.heap[w.heap.size+1]? = some (.cells #[.int .i64 0,.int .i64 0,.slice none 0 0,.slice none 0 0] 77 (0,0)):=by rw[←hW2];exact zh (by simp)
 obtain⟨-,-,c2,c3,-⟩:=zR hx;obtain⟨d0,d1,d2,d3,df⟩:=zR hr;have f0:=df 0;have f1:=df 1;have f2:=df 2;have f3:=df 3;have HR:=Lib.hid hr;clear hW2 hx hr df;go_wp2_with fail;refine bodyPost_ret (v:=.agg #[.int .i64 f,.int .i64 t,.slice ag gl cg,.slice aS sl cs]) (zh0 _ 6 rfl _ _ (w.heap.size+1) _ _ _ _ (YX HR.out) rfl) rfl ?_;exact⟨rfl,(((HB2.out.setCell (by simp) _).setCell (by simp) _).setCell (by simp) _).setCell (by simp) _⟩
theorem ze9 (fn:Func) (c:Nat) (hr:fn.results=#[.cell c 33]) (W:World) (tm:Array Value) (b:Nat) (m0 m1 m2:Value) (hW:W.heap[b]? = some (.cells #[m0,m1,m2] 33 (0,0))) (h0:tm.getD c undef=.pointer (some ⟨b,0,none⟩)) :
 (results fn tm).run Tryz.prog W=.ok (.agg #[m0,m1,m2]) W:=by
 obtain⟨c0,c1,c2⟩:=zo hW;rw[ym hr,h0];simp[asAddr];go_simp
def xW (st:Int) (ve va:Value):Obj:=.cells #[.int .i64 st,ve,va] 33 (0,0)
structure NbE (q:Nat->Bool) (k:Nat) (w0 w:World) (st:Int) (L:List zk) (ve va:Value):Prop where
 kB:w0.heap.size<=k
 qk:q k=true
 blk:w.heap[k]? = some (xW st ve va)
 es:edE.Own 77 q w w0.heap.size ve L
 bel:Below w0.heap.size w0 w
structure NbS (q:Nat->Bool) (k:Nat) (w0 w:World) (st:Int) (L:List zk) (A:List Int) (ve va:Value):Prop where
 e:NbE (hid q va) k w0 w st L ve va
 qk:q k=true
 ac:inE.Own 3 q w w0.heap.size va A
section
variable {q : Nat → Bool} {k : Nat} {w0 w w' : World} {st : Int} {L L' : List zk} {A A' : List Int} {ve ve' va va' : Value}
theorem NbE.mk0 (hk:w0.heap.size<=k) (hq:q k=true) (h:w.heap[k]? = some (xW st (.slice none 0 0) va)) (hb:Below w0.heap.size w0 w):NbE q k w0 w st [] (.slice none 0 0) va:=⟨hk,hq,h,Enc.Own.nil _ _ _ _ _,hb⟩
theorem NbS.mk0 (hk:w0.heap.size<=k) (hq:q k=true) (h:w.heap[k]? = some (xW st (.slice none 0 0) (.slice none 0 0))) (hb:Below w0.heap.size w0 w):NbS q k w0 w st [] [] (.slice none 0 0) (.slice none 0 0) :=
 ⟨NbE.mk0 hk (ze.2 (Or.inl hq)) h hb,hq,Enc.Own.nil _ _ _ _ _⟩
theorem NbE.below (h:NbE q k w0 w st L ve va) (hb:Below w.heap.size w w'):NbE q k w0 w' st L ve va :=
 ⟨h.kB,h.qk,(hb.block k (lt_of_block h.blk)).trans h.blk,h.es.below hb,h.bel.trans (hb.mono h.bel.size)⟩
theorem NbS.below (h:NbS q k w0 w st L A ve va) (hb:Below w.heap.size w w'):NbS q k w0 w' st L A ve va:=⟨h.e.below hb,h.qk,h.ac.below hb⟩
theorem NbE.sz (h:NbE q k w0 w st L ve va):w0.heap.size<=w.heap.size:=h.bel.size
theorem NbE.klt (h:NbE q k w0 w st L ve va):k<w.heap.size:=lt_of_block h.blk
theorem NbE.kne (h:NbE q k w0 w st L ve va):some k≠ve.ownBlock:=by obtain⟨xs,h1,_⟩:=h.es;exact zv h1 h.blk (by decide)
theorem NbS.ane (h:NbS q k w0 w st L A ve va):some k≠va.ownBlock:=by obtain⟨xs,h1,_⟩:=h.ac;exact zv h1 h.e.blk (by decide)
theorem NbS.eane (h:NbS q k w0 w st L A ve va):∀j,ve.ownBlock=some j->va.ownBlock≠some j:=by
 intro j hj e;obtain⟨xs,h1,_⟩:=h.e.es;obtain⟨ys,h2,_⟩:=h.ac;rcases h2.2 with ⟨rfl,_⟩|⟨g,cap,cur,rfl,hb,hg,_⟩
 ·simp[Value.ownBlock]at e
 ·have:=zv h1 hg (by decide);exact this (by rw[hj];exact e)
theorem NbE.vlt (h:NbE q k w0 w st L ve va):∀j,ve.ownBlock=some j->w0.heap.size<=j/\j<w.heap.size:=zq h.es
theorem NbS.alt (h:NbS q k w0 w st L A ve va):∀j,va.ownBlock=some j->w0.heap.size<=j/\j<w.heap.size:=zq h.ac
theorem NbE.cells (h:NbE q k w0 w st L ve va):(w.cell? ⟨k,0,none⟩=some (.int .i64 st)/\w.cell? ⟨k,1,none⟩=some ve/\w.cell? ⟨k,2,none⟩=some va)/\∀o,w.frozen? ⟨k,o,none⟩=false:=by have hb:=h.blk;exact⟨zo hb,λo=>by simp[World.frozen?,hb,xW]⟩
theorem NbE.kp {p:Nat->Bool} (h:NbE q k w0 w st L ve va) (hqp:∀j,j<w0.heap.size->q j=true->p j=true):Kp (World.hide w0 p) (World.hide w (hid q ve)):=zg h.bel λj hj hq=>by
 rcases ze.1 hq with h1|h1
 ·exact hqp j hj h1
 ·have:=(h.vlt j h1).1;omega
theorem NbS.kp {p:Nat->Bool} (h:NbS q k w0 w st L A ve va) (hqp:∀j,j<w0.heap.size->q j=true->p j=true):Kp (World.hide w0 p) (World.hide w (hid (hid q va) ve)):=h.e.kp λj hj hq=>by
 rcases ze.1 hq with h2|h2
 ·exact hqp j hj h2
 ·have:=(h.alt j h2).1;omega
theorem NbE.set (h:NbE q k w0 w st L ve va) (s2:Int):NbE q k w0 (w.setCell ⟨k,0,none⟩ (.int .i64 s2)) s2 L ve va :=
 ⟨h.kB,h.qk,heap_setCell_same _ k 0 _ _ (.int .i64 s2) h.blk,yF h.qk h.kne h.es,h.bel.setCell h.kB _⟩
theorem NbS.set (h:NbS q k w0 w st L A ve va) (s2:Int):NbS q k w0 (w.setCell ⟨k,0,none⟩ (.int .i64 s2)) s2 L A ve va:=⟨h.e.set s2,h.qk,yF h.qk h.ane h.ac⟩
theorem NbE.edge (h:NbE q k w0 w st L ve va) (hr:xM edE 77 q w0.heap.size w ve w' ve' L'):NbE q k w0 (w'.setCell ⟨k,1,none⟩ ve') st L' ve' va:=by
 have hblk:=hr.block h.blk λe=>h.kne e.symm;have hkn:some k≠ve'.ownBlock:=by obtain⟨xs,h1,_⟩:=hr.own;exact zv h1 hblk (by decide)
 exact⟨h.kB,h.qk,heap_setCell_same _ k 1 _ _ ve' hblk,yF h.qk hkn hr.own,(h.bel.grown hr.gr h.sz λj hj=>(h.vlt j hj).1).setCell h.kB _⟩
theorem NbS.edge (h:NbS q k w0 w st L A ve va) (hr:xM edE 77 (hid q va) w0.heap.size w ve w' ve' L'):NbS q k w0 (w'.setCell ⟨k,1,none⟩ ve') st L' A ve' va:=by
 refine⟨h.e.edge hr,h.qk,yF h.qk h.ane ?_⟩;obtain⟨xs,h1,h2⟩:=qw.1 h.ac;refine qw.2 ⟨xs,h1.kept hr.gr ?_,zeY h2⟩;cases e:va.ownBlock with
 |none=>exact Or.inl rfl
 |some j=>exact Or.inr λe2=>h.eane j e2.symm e
theorem NbS.acc (h:NbS q k w0 w st L A ve va) (hr:xM inE 3 q w0.heap.size w va w' va' A'):NbS q k w0 (w'.setCell ⟨k,2,none⟩ va') st L A' ve va':=by
 have hblk:=hr.block h.e.blk λe=>h.ane e.symm;have hkn:some k≠va'.ownBlock:=by obtain⟨xs,h1,_⟩:=hr.own;exact zv h1 hblk (by decide)
 have hes:edE.Own 77 (hid q va') w' w0.heap.size ve L:=by
  obtain⟨xs,h1,h2⟩:=h.e.es;refine⟨xs,h1.kept hr.gr ?_,h2.keep (yE hr.gr (λj hj=>ze.2 (Or.inl (ze.2 (Or.inr hj)))) λj hj hq=>?_)⟩
  ·cases e:ve.ownBlock with
   |none=>exact Or.inl rfl
   |some j=>exact Or.inr λe2=>h.eane j e e2.symm
  ·rcases ze.1 hq with h3|h3
   ·rcases ze.1 h3 with h4|h4
    ·exact ze.2 (Or.inl (ze.2 (Or.inl h4)))
    ·rcases hr.hat with e|⟨g,e,hgs⟩
     ·exact ze.2 (Or.inl (ze.2 (Or.inr (by rw[←e];exact h4))))
     ·rw[e]at h4;have:=Option.some.inj h4;omega
   ·exact ze.2 (Or.inr h3)
 have hq':hid q va' k=true:=ze.2 (Or.inl h.qk);exact⟨⟨h.e.kB,hq',heap_setCell_same _ k 2 _ _ va' hblk,yF hq' h.e.kne hes,(h.e.bel.grown hr.gr h.e.sz λj hj=>(h.alt j hj).1).setCell h.e.kB _⟩,h.qk,yF h.qk hkn hr.own⟩
theorem NbS.out {p:Nat->Bool} (h:NbS q k w0 w st L A ve va) (hpq:∀j,p j=true->q j=true) (hp:∀j,p j=true->j<w0.heap.size) (hL:L.length<=1073741824) (hA:A.length<=1073741824) :
 ∃y:qn,ve=.slice y.ae L.length y.ce/\va=.slice y.aa A.length y.ca/\yb (World.hide w p) ⟨st,L,A⟩ y:=by
 obtain⟨ae,ce,h1,h2⟩:=h.e.es.sliceR hL (λj hj=>ze.2 (Or.inl (hpq j hj))) hp;obtain⟨aa,ca,h3,h4⟩:=h.ac.sliceR hA hpq hp;exact⟨⟨ae,ce,aa,ca⟩,h1,h3,h2,qR.1 h4⟩
end
theorem yb.stored {p:Nat->Bool} {w W:World} {m:zt} {y:qn} {b:Nat} {u0 u1 u2:Value} (h:yb (World.hide W (hid p (.slice (some ⟨b,0,none⟩) 0 0))) m y):yb (World.hide (((W.setCell ⟨b,0,none⟩ u0).setCell ⟨b,1,none⟩ u1).setCell ⟨b,2,none⟩ u2) p) m y:=by have hq:hid p (.slice (some ⟨b,0,none⟩) 0 0) b=true:=ze.2 (Or.inr rfl);exact h.keep (Kp.trans (zj hq) (Kp.trans (zj hq) (Kp.trans (zj hq) (zB λk hk=>ze.2 (Or.inl hk)))))
end Go.Proofs.YtnfkbliokjjggaaGreatDoor
