/- nfa.Accepting. -/
import Derived.Test.YthojpomoflhbcaaGreatDoorQ21
import Derived.Test.YthojpomoflhbcaaGreatDoorQ13
import Derived.Test.YthojpomoflhbcaaGreatDoorQ07
import Derived.Deep.LoopGhost
import Derived.OneCell
import Derived.Test.YthojpomoflhbcaaGreatDoorQ08
set_option maxHeartbeats 8000000
set_option maxRecDepth 100000
set_option linter.unusedSimpArgs false
set_option linter.unusedVariables false
set_option linter.unnecessarySimpa false
namespace Go.Proofs.YthojpomoflhbcaaGreatDoor
open Go.RowKit
attribute [local go_sem ↓] Go.wp_at_zero Go.wp_at_succ
theorem Xb (p:Nat->Bool) (n:zm) (x:YL) (l:List yU) (al:Option Addr) (cl:Nat) (w:World) (hp:∀j,p j=true->j<w.heap.size) (hN:xS w n x) (hL:thE.In w l al cl) (hlt:∀t∈l,t.env.length<=50000) (hll:l.length<=100000000) :
 Calls Tryz.prog 25 #[xq n x,.slice al l.length cl] w (zfa p (yP n l) w):=by
 have HCo:Hid (∀W,Below w.heap.size w W->∀s,Calls Tryz.prog 60 #[.slice x.aa n.accept.length x.ca,.int .i64 s] W λe w'=>e=.returned (.bool (n.accept.contains s))/\w'=W):=λW hW s=>zch _ _ _ _ W (hN.ac.keep (za hW));have HLs:=Lib.hid hL;have Hp:=Lib.hid hp;have HLa:Hid (l.length=0\/∃b off,al=some ⟨b,off,none⟩):=hL.addr;have HLt:=Lib.hid hlt;obtain⟨A,hA⟩:∃A:Nat->List yU,A=λk=>(l.take k).filter λt=>n.accept.contains t.state:=⟨_,rfl⟩;have HA0:Hid (A 0=[]):=by show _=_;rw[hA];simp
 have HAl:Hid (∀k,k<=l.length->(A k).length<=k):=λk hk=>by rw[hA];exact Nat.le_trans (List.length_filter_le _ _) (by rw[List.length_take];omega)
 have HAs:Hid (∀k (hk:k<l.length),A (k+1)=if n.accept.contains (l[k]'hk).state=true then A k++[l[k]'hk] else A k):=λk hk=>by rw[hA];simp only[List.take_succ_eq_append_getElem hk,List.filter_append,List.filter_cons,List.filter_nil];split<;>simp
 have hAe:yP n l=A l.length:=by rw[hA];simp[yP]
 rw[hAe];have HPo:Hid (∀W a c,Below w.heap.size w W->thE.In (World.hide W p) (A l.length) a c->zfa p (A l.length) w (.returned (.slice a (A l.length).length c)) W):=λW a c h1 h2=>⟨⟨a,c,rfl,h2⟩,h1⟩;generalize zfa p (A l.length) w=Po at HPo⊢;rw[zH];clear hp hN hL hlt hA hAe;obtain⟨xae,xce,xaa,xca⟩:=x;simp only at HCo⊢;go_enter Tryz.func25, Tryz.ntmps25;go_upto_region 1 with fail;generalize hW2:World.alloc w _=W2;have HB2:Hid (Below w.heap.size w W2):=by show Below _ _ _;rw[←hW2];exact(Below.refl _ _).alloc (Nat.le_refl _) _
 have HX2:Hid (W2.heap[w.heap.size]? = some (.cells #[.int .i64 n.states,.slice xae n.edges.length xce,.slice xaa n.accept.length xca] 33 (0,0))):=by show _=_;rw[←hW2];exact zh rfl
 clear hW2;have HO2:Hid (thE.Own 49 p W2 (w.heap.size+1) (.slice none 0 0) (A 0)):=by show thE.Own _ _ _ _ _ _;rw[HA0.out];exact Enc.Own.nil _ _ _ _ _
 go_wp2_with fail;go_loopw [10,5,7] (λi o _ wr=>∃k:Nat,i=.int .i64 k/\k<=l.length/\Hid (thE.Own 49 p wr (w.heap.size+1) o (A k))/\Hid (wr.heap[w.heap.size]? = some (.cells #[.int .i64 n.states,.slice xae n.edges.length xce,.slice xaa n.accept.length xca] 33 (0,0)))/\Hid (Below w.heap.size w wr)) (λi _ _ _=>l.length-(intOf i).toNat);case atStart=>exact⟨0,rfl,Nat.zero_le _,HO2.out,HX2.out,HB2.out⟩
 case round =>
  (try rename World=>wr)
  obtain⟨k,rfl,hk,HO,HX,HB⟩:=hrel;have hzr:=lt_of_block HX.out;have hAk:=HAl.out k hk;obtain⟨ao,co,hov,hin⟩:=HO.out.sliceP (by omega) (λj hj=>by
   cases hq:p j with
   |false=>rfl
   |true=>have:=Hp.out _ hq;omega)
  subst hov;by_cases hltk:k<l.length
  ·obtain⟨bl,ol,hla⟩:=HLa.out.resolve_left (by omega);subst hla;obtain⟨ta,tc,g0w,g1w,ht⟩:=Qc HLs.out rfl hltk;have g0:=za HB.out _ _ g0w;have g1:=za HB.out _ _ g1w;have hlen:=HLt.out _ (List.getElem_mem hltk);have HS1:=Lib.hid (HAs.out k hltk);generalize (l[k]'hltk)=t at HS1 g0 g1 ht hlen;have HT:=Lib.hid ht;clear g0w g1w ht hin;go_upto_region 5 with fail;generalize hW5:World.alloc wr _=W5;have hB5:Below wr.heap.size wr W5:=by rw[←hW5];exact(Below.refl _ _).alloc (Nat.le_refl _) _
   have HY5:Hid (W5.heap[wr.heap.size]? = some (.cells #[.int .i64 t.state,.slice ta t.env.length tc] 49 (0,0))):=by show _=_;rw[←hW5];exact zh rfl
   have HX5:Hid (W5.heap[w.heap.size]? = some (.cells #[.int .i64 n.states,.slice xae n.edges.length xce,.slice xaa n.accept.length xca] 33 (0,0))):=(hB5.block _ hzr).trans HX.out;have HBw5:Hid (Below w.heap.size w W5):=HB.out.trans (hB5.mono HB.out.size);have HO5:Hid (thE.Own 49 p W5 (w.heap.size+1) (.slice ao (A k).length co) (A k)):=HO.out.below hB5;have HVo:Hid (∀j,(Value.slice ao (A k).length co).ownBlock=some j->w.heap.size+1<=j/\j<W5.heap.size):=zl HO5.out;have hs5:=HBw5.out.size;have hs6:=lt_of_block HX5.out;have HC5:=Lib.hid (HCo.out W5 HBw5.out t.state);obtain⟨-,-,x2⟩:=zv HX5.out;obtain⟨y0,y1,-⟩:=xm HY5.out;clear hW5 hB5 g0 g1 HO HX HB;generalize n.accept.contains t.state=ct at HC5 HS1;cases ct with
   |false =>
    have HO9:Hid (thE.Own 49 p W5 (w.heap.size+1) (.slice ao (A k).length co) (A (k+1))):=by show thE.Own _ _ _ _ _ _;rw[HS1.out];exact HO5.out
    go_wp2_with (go_at_call 60;go_must (refine HC5.out.mono ?_;rintro e w6 ⟨rfl,rfl⟩));go_roundw;case rel=>exact⟨k+1,by go_num,by omega,HO9.out,HX5.out,HBw5.out⟩
    case measure=>(simp[intOf];try omega)
   |true =>
    have HS2:Hid (A (k+1)=A k++[t]):=HS1.out;have HCl:Hid (∀W,Below W5.heap.size W5 W->Calls Tryz.prog 61 #[.slice ta t.env.length tc] W λe w'=>(∃a c,e=.returned (.slice a t.env.length c)/\sgE.In (World.hide w' (hid p (.slice ao (A k).length co))) t.env a c)/\Below W.heap.size W w'/\Below W5.heap.size W5 w'):=λW hW=>(zdo y8 t.env ta tc W (((Yo.2 HT.out).keep (za (HBw5.out.trans (hW.mono HBw5.out.size)))).keep xW)).mono λe w' ⟨⟨v,h1,h2⟩,h3⟩=>by
     obtain⟨a,c,rfl,h6⟩:=XD h2 (by omega);refine⟨⟨a,c,h1,h6 _ λj hj _=>?_⟩,h3,hW.trans (h3.mono hW.size)⟩;have:=hW.size;cases hq:hid p (.slice ao (A k).length co) j with
     |false=>rfl
     |true =>
      rcases ze.1 hq with h|h
      ·have:=Hp.out _ h;omega
      ·have:=(HVo.out _ h).2;omega
    have HZ2:Hid (∀W,Below W5.heap.size W5 W->W.cell? ⟨wr.heap.size,0,none⟩=some (.int .i64 t.state)/\W.cell? ⟨wr.heap.size,1,none⟩=some (.slice ta t.env.length tc)):=λW hW=>⟨za hW _ _ y0,za hW _ _ y1⟩;have HRx:Hid (∀v1 W a1 c1,sgE.In (World.hide v1 (hid p (.slice ao (A k).length co))) t.env a1 c1->Below v1.heap.size v1 W->thE.R (World.hide W (hid p (.slice ao (A k).length co))) t [.int .i64 t.state,.slice a1 t.env.length c1]):=λv1 W a1 c1 h1 h2=>⟨a1,c1,rfl,(Yo.1 h1).keep (zg h2 λ_ _ h=>h)⟩;go_upto_region 6 with (go_at_call 60;go_must (refine HC5.out.mono ?_;rintro e w6 ⟨rfl,h6⟩;have h7:=h6.symm;clear h6;subst h7))
    go_region_law (first
     |(go_simp;go_at_call 61;(with_reducible refine(HCl.out _ (by first|with_reducible assumption|exact yx)).mono ?_);rintro e v1 ⟨⟨a1,k1,rfl,hc1⟩,hb1,hB1⟩;have hs1:=hB1.size;have HC1:=Lib.hid hc1;obtain⟨j0,j1⟩:=HZ2.out _ hB1;have J0:=λo=>Lib.cell?_alloc_some o j0;clear hc1)
     |(refine xR (E:=thE) zg1 (by rfl) _ _ (by rfl) p (w.heap.size+1) (.slice ao (A k).length co) (by rfl) (HO5.out.below (by first|exact Below.refl _ _|exact yx)) t [.int .i64 t.state,.slice a1 t.env.length k1] (HRx.out _ _ _ _ HC1.out (by first|with_reducible assumption|exact yx)) _ 1 (by rfl) (by first|exact zi _ _|exact hbT hb1 (zh rfl)) (A k).length (by rfl) (by omega) (by first|omega|(simp;omega)) _ rfl ?_;intro gg gcap wg hownG hgrow hatG hltG))
    all_goals
     have HA9:Hid (Below W5.heap.size W5 (v1.alloc (.cells #[.int .i64 t.state,.slice a1 t.env.length k1] 49))):=by show Below _ _ _;first|with_reducible assumption|exact yx
     have HO9:Hid (thE.Own 49 p wg (w.heap.size+1) (.slice (some ⟨gg,0,none⟩) ((A k).length+1) gcap) (A (k+1))):=by show thE.Own _ _ _ _ _ _;rw[HS2.out];exact hownG
     have HX9:Hid (wg.heap[w.heap.size]? = some (.cells #[.int .i64 n.states,.slice xae n.edges.length xce,.slice xaa n.accept.length xca] 33 (0,0))):=(hgrow.block _ (by simp;omega) (λe'=>by have:=(HVo.out _ e'.symm).1;omega)).trans ((HA9.out.block _ hs6).trans HX5.out);have HB9:Hid (Below w.heap.size w wg):=yQ (HBw5.out.trans (HA9.out.mono hs5)) hgrow λj hj=>by have:=(HVo.out j hj).1;omega
     clear hownG hgrow hatG hltG;go_wp2_with fail;go_roundw;case rel=>exact⟨k+1,by go_num,by omega,HO9.out,HX9.out,HB9.out⟩
     case measure=>(simp[intOf];try omega)
  ·obtain rfl:k=l.length:=by omega
   have HE1:=Lib.hid (HPo.out _ _ _ HB.out hin);go_wp2_with fail;first|exact HE1.out|(go_ret2;exact HE1.out)
section
variable {α : Type} (f : α → Int) (y : α)
def zcr:List α->List α
 | []=>[y]
 |x::r=>if f x<0 then x::zcr r else if f x=0 then y::r else y::x::r
def dnG (l:List α) (k:Nat):Bool:=(l.take k).any λx=>!decide (f x<0)
def atG (l:List α) (k:Nat):List α:=if dnG f l k=true then zcr f y (l.take k) else l.take k
variable {f y}
theorem YV {a b:List α} (h:∀x∈a,f x<0):zcr f y (a++b)=a++zcr f y b:=by
 induction a with
 |nil=>rfl
 |cons x a ih =>rw[List.cons_append,zcr,if_pos (h x (List.mem_cons_self ..)),ih λz hz=>h z (List.mem_cons_of_mem _ hz)];rfl
theorem zdx {a b:List α} (h:∃x∈a,¬f x<0):zcr f y (a++b)=zcr f y a++b:=by
 induction a with
 |nil=>obtain⟨x,hx,_⟩:=h;cases hx
 |cons x a ih =>
  rw[List.cons_append,zcr,zcr];by_cases h1:f x<0
  ·rw[if_pos h1,if_pos h1,ih]
   ·rfl
   ·obtain⟨z,hz,h2⟩:=h;rcases List.mem_cons.1 hz with rfl|hz
    ·exact absurd h1 h2
    ·exact⟨z,hz,h2⟩
  ·rw[if_neg h1,if_neg h1];by_cases h2:f x=0
   ·rw[if_pos h2,if_pos h2];rfl
   ·rw[if_neg h2,if_neg h2];rfl
theorem zen {l:List α} {k:Nat}:dnG f l k=true<->∃x∈l.take k,¬f x<0:=by unfold dnG;simp
theorem QU {l:List α} {k:Nat} (h:dnG f l k=false):∀x∈l.take k,f x<0:=λx hx=>by
 by_cases h1:f x<0
 ·exact h1
 ·have:=zen.2 ⟨x,hx,h1⟩;rw[h]at this;cases this
theorem zeo (l:List α):dnG f l 0=false:=by unfold dnG;simp
theorem ziU (l:List α):atG f y l 0=[]:=by unfold atG;rw[zeo];simp
def MonG (f:α->Int) (l:List α):Prop:=∀i j (hi:i<l.length) (hj:j<l.length),i<j->¬f (l[i]'hi)<0->0<f (l[j]'hj)
theorem stepG {l:List α} (hm:MonG f l) {k:Nat} (hk:k<l.length) :
 (dnG f l k=false->f (l[k]'hk)<0->dnG f l (k+1)=false/\atG f y l (k+1)=atG f y l k++[l[k]'hk]) /\
 (dnG f l k=false->f (l[k]'hk)=0->dnG f l (k+1)=true/\atG f y l (k+1)=atG f y l k++[y]) /\
 (dnG f l k=false->0<f (l[k]'hk)->dnG f l (k+1)=true/\atG f y l (k+1)=atG f y l k++[y]++[l[k]'hk]) /\
 (dnG f l k=true->0<f (l[k]'hk)/\dnG f l (k+1)=true/\atG f y l (k+1)=atG f y l k++[l[k]'hk]):=by
 have e:l.take (k+1)=l.take k++[l[k]'hk]:=List.take_succ_eq_append_getElem hk;have hd:dnG f l (k+1)=(dnG f l k||!decide (f (l[k]'hk)<0)):=by unfold dnG;rw[e,List.any_append];simp
 refine⟨λh1 h2=>?_,λh1 h2=>?_,λh1 h2=>?_,λh1=>?_⟩
 ·have hd2:dnG f l (k+1)=false:=by rw[hd,h1];simp[h2]
  refine⟨hd2,?_⟩;unfold atG;rw[hd2,h1];simp only[Bool.false_eq_true,if_false];exact e
 ·have hd2:dnG f l (k+1)=true:=by rw[hd];simp[h2]
  refine⟨hd2,?_⟩;unfold atG;rw[hd2,h1,e,YV (QU h1)];simp[zcr,h2]
 ·have hd2:dnG f l (k+1)=true:=by rw[hd];simp;omega
  refine⟨hd2,?_⟩;unfold atG;rw[hd2,h1,e,YV (QU h1)];have h3:¬f (l[k]'hk)<0:=by omega
  have h4:¬f (l[k]'hk)=0:=by omega
  simp[zcr,h3,h4]
 ·have hd2:dnG f l (k+1)=true:=by rw[hd,h1];rfl
  obtain⟨x,hx,h3⟩:=zen.1 h1;refine⟨?_,hd2,?_⟩
  ·obtain⟨i,hi,rfl⟩:=List.getElem_of_mem hx;rw[List.length_take]at hi;rw[List.getElem_take]at h3;exact hm i k (by omega) hk (by omega) h3
  ·unfold atG;rw[hd2,h1,e];simp only[if_true];exact zdx ⟨x,hx,h3⟩
theorem endG {l:List α}:zcr f y l=if dnG f l l.length=true then atG f y l l.length else atG f y l l.length++[y]:=by
 by_cases h:dnG f l l.length=true
 ·rw[if_pos h];unfold atG;rw[if_pos h,List.take_length]
 ·have h':dnG f l l.length=false:=by simpa using h
  rw[if_neg h];unfold atG;rw[if_neg h];have h2:=QU h';rw[List.take_length]at h2⊢;have:=YV (y:=y) (b:=[]) h2;rwa [List.append_nil]at this
theorem zjq (l:List α):(zcr f y l).length<=l.length+1:=by
 induction l with
 |nil=>simp[zcr]
 |cons x r ih=>rw[zcr];split<;>(try split)<;>simp<;>omega
theorem zk7 (l:List α) (k:Nat):(atG f y l k).length<=l.length+1:=by
 unfold atG;split
 ·have:=zjq (f:=f) (y:=y) (l.take k);rw[List.length_take]at this;omega
 ·rw[List.length_take];omega
end
theorem zjw {α:Type} (c:α->α->Int) (l:List α) (t:α):Y5 c l t=zcr (λx=>c x t) t l:=by
 induction l with
 |nil=>rfl
 |cons x r ih=>rw[Y5,zcr,ih]
theorem zld {α:Type} {c:α->α->Int} {l m:List α} {k:Nat} (hl:k<l.length) (hm:k<m.length):cmpL c (l.drop k) (m.drop k)=if c (l[k]'hl) (m[k]'hm)=0 then cmpL c (l.drop (k+1)) (m.drop (k+1)) else c (l[k]'hl) (m[k]'hm):=by rw[List.drop_eq_getElem_cons hl,List.drop_eq_getElem_cons hm,cmpL]
theorem zel {α:Type} {c:α->α->Int} {l m:List α} {k:Nat} (hl:k<=l.length) (hm:k<=m.length) (h:¬(k<l.length/\k<m.length)):cmpL c (l.drop k) (m.drop k)<0<->l.length<m.length:=by
 by_cases h1:k<l.length
 ·have h2:k=m.length:=by omega
  rw[List.drop_eq_getElem_cons h1,List.drop_eq_nil_of_le (by omega:m.length<=k),cmpL];simp;omega
 ·have h2:k=l.length:=by omega
  rw[h2,List.drop_length];by_cases h3:l.length<m.length
  ·rw[List.drop_eq_getElem_cons h3,cmpL];simp;omega
  ·rw[List.drop_eq_nil_of_le (by omega:m.length<=l.length),cmpL];simp;omega
def ZD (w:World) (b:Nat) (o:List Bool):Prop:=w.heap[b]? = some (.cells (o.map Value.bool).toArray 4 (0,0))
theorem ZD.cell {w:World} {b:Nat} {o:List Bool} (h:ZD w b o) {i:Nat} (hi:i<o.length):w.cell? ⟨b,i,none⟩=some (.bool (o.getD i false)):=by unfold ZD at h;rw[zc h,List.getElem?_toArray,List.getElem?_map,List.getElem?_eq_getElem hi,List.getD_eq_getElem?_getD,List.getElem?_eq_getElem hi];rfl
theorem ZD.free {w:World} {b:Nat} {o:List Bool} (h:ZD w b o) (i:Nat):w.frozen? ⟨b,i,none⟩=false:=by unfold ZD at h;simp[World.frozen?,h]
theorem ZD.set {w:World} {b:Nat} {o:List Bool} (h:ZD w b o) (i:Nat):ZD (w.setCell ⟨b,i,none⟩ (.bool true)) b (o.set i true):=by unfold ZD at h⊢;rw[heap_setCell_same w b i _ _ _ h];congr 2;apply Array.ext';simp[List.map_set]
theorem ZD.below {w w':World} {b:Nat} {o:List Bool} (h:ZD w b o) (hb:Below w.heap.size w w'):ZD w' b o:=(hb.block _ (lt_of_block h)).trans h
theorem znu (n:Nat) (h:n<=1073741824) (w:World):(Instr.makeSlice 110 (.int .i64 n) (.int .i64 n)).run Tryz.prog w=.ok (.slice (some ⟨w.heap.size,0,none⟩) n n) (w.alloc (.cells (Array.replicate n (.bool false)) 4)):=by obtain⟨i,h1,h2,h3,h4⟩:=info_parts (show (Tryz.prog.info? 4).map (λi=>(i.zero,i.size,i.bytes))=some (some (.bool false),1,1) from by kernel_rfl);have:=run_make (P:=Tryz.prog) w 110 4 i _ Tryz.underlying110 h1 h2 .i64 .i64 n n (by omega) (by omega) (by rw[h4];omega) (by omega);rw[this,h3,show (Value.bool false).cells=#[Value.bool false] from rfl,Int.toNat_natCast,Nat.mul_one,←List.toArray_replicate,←toList_madeCells_one]
def nnP (p:Int×Int):Nat×Nat:=(p.1.toNat,p.2.toNat)
def qV (st:Nat) (l:List Int) (k:Nat):List Bool:=((l.take k).map Int.toNat).foldl (λo s=>o.set s true) (List.replicate st false)
theorem zdE (st:Nat) (l:List Int) {k:Nat} (h:k<l.length):qV st l (k+1)=(qV st l k).set (l[k]'h).toNat true:=by unfold qV;rw[List.take_succ_eq_append_getElem h,List.map_append,List.foldl_append];rfl
theorem zfF (st:Nat) (l:List Int):qV st l l.length=zbH st (l.map Int.toNat):=by unfold qV zbH;rw[List.take_length]
theorem zaX (st:Nat) (l:List Int) (k:Nat):(qV st l k).length=st:=Yf _ _
theorem zlF {w:World} {l:List (Int×Int)} {a:Option Addr} {cap:Nat} (h:prE.In w l a cap) {b off:Nat} (ha:a=some ⟨b,off,none⟩) {i:Nat} (hi:i<l.length) :
 w.cell? ⟨b,off+i*2,none⟩=some (.int .i64 (l[i]'hi).1)/\w.cell? ⟨b,off+i*2+1,none⟩=some (.int .i64 (l[i]'hi).2):=by
 obtain⟨vs,hv,hc⟩:=h.get ha hi;have hv':vs=[.int .i64 (l[i]'hi).1,.int .i64 (l[i]'hi).2]:=hv;subst hv';exact⟨hc 0 _ rfl,hc 1 _ rfl⟩
theorem zag (st:Nat) (hst:st<=256) (fr:List Int) (fa:Option Addr) (fc:Nat) (steps:List (Int×Int)) (sa:Option Addr) (sc:Nat) (w:World) (hf:IntsIn w fr fa fc) (hfb:∀x∈fr,0<=x/\x<(st:Int)) (hs:prE.In w steps sa sc) (hsb:∀p∈steps,(0<=p.1/\p.1<(st:Int))/\0<=p.2/\p.2<(st:Int)) :
 Calls Tryz.prog 70 #[.int .i64 st,.slice fa fr.length fc,.slice sa steps.length sc] w λe w'=>e=.returned (.slice (some ⟨w.heap.size,0,none⟩) st st)/\ZD w' w.heap.size (ZS (steps.map nnP) (zbH st (fr.map Int.toNat)))/\Below w.heap.size w w':=by
 have HF:=Lib.hid hf;have HS:=Lib.hid hs;have HFb:=Lib.hid hfb;have HSb:=Lib.hid hsb;have hfl:=hf.2.1;have hsl:=hs.len;have HFA:Hid (fr.length=0\/∃b off,fa=some ⟨b,off,none⟩):=zr.addr hf;have HSA:Hid (steps.length=0\/∃b off,sa=some ⟨b,off,none⟩):=hs.addr;have hmk:=znu st (by omega);obtain⟨SP,HSP⟩:∃SP,Hid (steps.map nnP=SP):=⟨_,rfl⟩;have HSPl:Hid (SP.length=steps.length):=by show _=_;rw[←HSP.out,List.length_map]
 have HSPg:Hid (∀k (h:k<steps.length) (h2:k<SP.length),SP[k]'h2=nnP (steps[k]'h)):=λk h h2=>by simp only[←HSP.out,List.getElem_map]
 rw[HSP.out,←zfF];clear hf hs hfb hsb HSP;generalize hPo:(λ(e:Ending) (w':World)=>e=.returned (.slice (some ⟨w.heap.size,0,none⟩) st st)/\ZD w' w.heap.size (ZS SP (qV st fr fr.length))/\Below w.heap.size w w')=Po;have HPo:Hid (∀W,ZD W w.heap.size (ZS SP (qV st fr fr.length))->Below w.heap.size w W->Po (.returned (.slice (some ⟨w.heap.size,0,none⟩) st st)) W):=λW h1 h2=>by rw[←hPo];exact⟨rfl,h1,h2⟩
 clear hPo;go_enter Tryz.func70, Tryz.ntmps70;go_wp2_with fail;generalize hW2:World.alloc w _=W2;have HB2:Hid (Below w.heap.size w W2):=by show Below _ _ _;rw[←hW2];exact(Below.refl _ _).alloc (Nat.le_refl _) _
 have HR2:Hid (ZD W2 w.heap.size (qV st fr 0)):=by show ZD _ _ _;rw[←hW2];unfold ZD qV;rw[List.take_zero,List.map_nil,List.foldl_nil,List.map_replicate,List.toArray_replicate];exact zh rfl
 have hz2:=lt_of_block HR2.out;clear hW2 hmk;go_loopw [17,9] (λi _ wr=>∃k:Nat,i=.int .i64 k/\k<=fr.length/\Hid (ZD wr w.heap.size (qV st fr k))/\Hid (Below w.heap.size w wr)) (λi _ _=>fr.length-(intOf i).toNat);case atStart=>exact⟨0,rfl,Nat.zero_le _,HR2,HB2⟩
 case round =>
  obtain⟨k,rfl,hk,HR,HBr⟩:=hrel;have hzr:=HBr.out.size;by_cases hlt:k<fr.length
  ·obtain⟨bf,of,hfa⟩:=HFA.out.resolve_left (by omega);subst hfa;have g0:=za HBr.out _ _ (HF.out.get rfl hlt);rw[List.getD_eq_getElem?_getD,List.getElem?_eq_getElem hlt,Option.getD_some]at g0;have HMk:Hid (qV st fr (k+1)=(qV st fr k).set (fr[k]'hlt).toNat true):=zdE st fr hlt;obtain⟨x0,x1⟩:=HFb.out _ (List.getElem_mem hlt);generalize (fr[k]'hlt)=x at g0 HMk x0 x1;obtain⟨m,rfl⟩:=Int.eq_ofNat_of_zero_le x0;rw[Int.toNat_natCast]at HMk;have hm:m<st:=by omega
   have c0:=HR.out.cell (i:=m) (by rw[zaX];exact hm);have d0:=HR.out.free m;go_wp2_with fail;have HR':Hid (ZD (wr.setCell ⟨w.heap.size,m,none⟩ (.bool true)) w.heap.size (qV st fr (k+1))):=by show ZD _ _ _;rw[HMk.out];exact HR.out.set m
   have HB':Hid (Below w.heap.size w (wr.setCell ⟨w.heap.size,m,none⟩ (.bool true))):=HBr.out.setCell (Nat.le_refl _) _;go_roundw;case rel=>exact⟨k+1,by go_num,by omega,HR',HB'⟩
   case measure=>(simp[intOf];try omega)
  ·obtain rfl:k=fr.length:=by omega
   obtain⟨o,ho⟩:∃o,qV st fr fr.length=o:=⟨_,rfl⟩;have hol:o.length=st:=by rw[←ho,zaX]
   rw[ho]at HR HPo;have HOl:=Lib.hid hol;clear ho hol;go_wp2_with fail;rename World=>w3;go_loopg [10,12] (st+1) (λkx m _ wr=>∃(mo:Bool) (n:Nat) (q:List Bool),m=.bool mo/\Hid (q=xM SP n o)/\Hid (mo=false->zK SP q=q)/\Hid (xN q+(if mo=true then 1 else 0)<=kx)/\Hid (ZD wr w.heap.size q)/\Hid (Below w.heap.size w wr));case atStart=>exact⟨true,0,o,rfl,rfl,λh=>(by cases h),by show xN o+1<=st+1;have:=QW o;have:=HOl.out;omega,HR,HBr⟩
   case round =>
    obtain⟨mo,n,q,rfl,HQn,HQs,HQf,HR,HBr⟩:=hrel;have hzr:=HBr.out.size;have HQl:Hid (q.length=st):=by show _=_;rw[HQn.out,XP,HOl.out]
    cases mo with
    |false =>
     have HE:Hid (q=ZS SP o):=zgK HQn.out (HQs.out rfl);go_wp2_with fail;have HRe:Hid (ZD wr w.heap.size (ZS SP o)):=by show ZD _ _ _;rw[←HE.out];exact HR.out
     first|exact HPo.out _ HRe.out HBr.out|(go_ret;exact HPo.out _ HRe.out HBr.out)
    |true =>
     have HQf':Hid (xN q+1<=gk):=HQf.out;clear HQs HQf;go_wp2_with fail;generalize wr=w4 at HR HBr hzr⊢;go_loopw [28,10,12] (λi m _ wr=>∃(k:Nat) (mo:Bool),i=.int .i64 k/\k<=steps.length/\m=.bool mo/\Hid ((mo=false/\y7 SP q k=q)\/(mo=true/\xN (y7 SP q k)<xN q))/\Hid (ZD wr w.heap.size (y7 SP q k))/\Hid (Below w.heap.size w wr)) (λi _ _ _=>steps.length-(intOf i).toNat);case atStart=>exact⟨0,false,rfl,Nat.zero_le _,rfl,Or.inl ⟨rfl,Qk _ _⟩,by show ZD _ _ _;rw[Qk];exact HR.out,HBr⟩
     case round =>
      clear HR HBr hzr;obtain⟨k,mo,rfl,hk,rfl,HMo,HR,HBr⟩:=hrel;have hzr:=HBr.out.size;by_cases hlt:k<steps.length
      ·obtain⟨bs,os,hsa⟩:=HSA.out.resolve_left (by omega);subst hsa;obtain⟨g0,g1⟩:=zlF HS.out rfl hlt;have f0:=za HBr.out _ _ g0;have f1:=za HBr.out _ _ g1;have HCk:Hid (y7 SP q (k+1)=yr (y7 SP q k) (nnP (steps[k]'hlt))):=by show _=_;rw[zcd SP q (by rw[HSPl.out];exact hlt),HSPg.out k hlt]
       obtain⟨⟨x0,x1⟩,y0,y1⟩:=HSb.out _ (List.getElem_mem hlt);unfold nnP at HCk;clear g0 g1;generalize (steps[k]'hlt).1=x at f0 HCk x0 x1;generalize (steps[k]'hlt).2=y at f1 HCk y0 y1;obtain⟨i,rfl⟩:=Int.eq_ofNat_of_zero_le x0;obtain⟨j,rfl⟩:=Int.eq_ofNat_of_zero_le y0;simp only[Int.toNat_natCast]at HCk;have hi:i<st:=by omega
       have hj:j<st:=by omega
       have HCl:Hid ((y7 SP q k).length=st):=by show _=_;rw[zdq,HQl.out]
       obtain⟨C,hC⟩:∃C,y7 SP q k=C:=⟨_,rfl⟩;rw[hC]at HMo HR HCk HCl;have c0:=HR.out.cell (i:=i) (by rw[HCl.out];exact hi);have c1:=HR.out.cell (i:=j) (by rw[HCl.out];exact hj);have d1:=HR.out.free j;have HGi:Hid (C.getD i false=C.getD i false):=rfl;unfold yr at HCk;simp only at HCk;have Hfs:Hid (C.getD j false=false->xN (C.set j true)+1=xN C):=λh=>zaT (by rw[HCl.out];exact hj) h;clear hC HGi;have C0:∀o,(wr.alloc o).cell? ⟨w.heap.size,i,none⟩=some (.bool (C.getD i false)):=λo=>Lib.cell?_alloc_some _ c0;have C1:∀o,(wr.alloc o).cell? ⟨w.heap.size,j,none⟩=some (.bool (C.getD j false)):=λo=>Lib.cell?_alloc_some _ c1;have hbl:w.heap.size<wr.heap.size:=lt_of_block HR.out;have D1:∀o,(wr.alloc o).frozen? ⟨w.heap.size,j,none⟩=false:=λo=>by have:=zk (o:=o) HR.out;simp[World.frozen?,this]
       clear c0 c1 d1;cases hvi:C.getD i false with
       |false =>
        rw[hvi]at C0 HCk;have HCk':Hid (y7 SP q (k+1)=C):=by show _=_;rw[HCk.out];rfl
        clear hvi HCk Hfs D1;go_wp2_with fail;go_roundw;case rel=>exact⟨k+1,mo,by go_num,by omega,rfl,by rw[HCk'.out];exact HMo,by rw[HCk'.out];exact Lib.hid (HR.out.below ((Below.refl _ _).alloc (Nat.le_refl _) _)),HBr.out.alloc hzr _⟩
        case measure=>(simp[intOf];try omega)
       |true =>
        cases hvj:C.getD j false with
        |true =>
         rw[hvi]at C0;rw[hvj]at C1;rw[hvi,hvj]at HCk;have HCk':Hid (y7 SP q (k+1)=C):=by show _=_;rw[HCk.out];rfl
         clear hvi hvj HCk Hfs D1;go_wp2_with fail;go_roundw;case rel=>exact⟨k+1,mo,by go_num,by omega,rfl,by rw[HCk'.out];exact HMo,by rw[HCk'.out];exact Lib.hid (HR.out.below ((Below.refl _ _).alloc (Nat.le_refl _) _)),HBr.out.alloc hzr _⟩
         case measure=>(simp[intOf];try omega)
        |false =>
         rw[hvi]at C0;rw[hvj]at C1;rw[hvi,hvj]at HCk;have HCk':Hid (y7 SP q (k+1)=C.set j true):=by show _=_;rw[HCk.out];rfl
         have HMo':Hid (xN (C.set j true)<xN q):=by
          have h1:=Hfs.out hvj;show _<_;rcases HMo.out with ⟨_,h⟩|⟨_,h⟩
          ·rw[h]at h1⊢;omega
          ·omega
         clear hvi hvj HCk Hfs;go_wp2_with fail;go_roundw;case rel=>exact⟨k+1,true,by go_num,by omega,rfl,by rw[HCk'.out];exact Lib.hid (Or.inr ⟨rfl,HMo'.out⟩),by rw[HCk'.out];exact Lib.hid ((ZD.set HR.out j).below ((Below.refl _ _).alloc (Nat.le_refl _) _)),(HBr.out.setCell (Nat.le_refl _) _).alloc (by rw[World.size_setCell];exact hzr) _⟩
         case measure=>(simp[intOf];try omega)
      ·obtain rfl:k=steps.length:=by omega
       have HCa:Hid (y7 SP q steps.length=zK SP q):=by show _=_;rw[←HSPl.out,zdp]
       have HQn':Hid (zK SP q=xM SP (n+1) o):=by show _=_;rw[YQ,←HQn.out]
       have HR':Hid (ZD wr w.heap.size (zK SP q)):=by show ZD _ _ _;rw[←HCa.out];exact HR.out
       rw[HCa.out]at HMo;have HMs:Hid (mo=false->zK SP (zK SP q)=zK SP q):=λh=>by
        rcases HMo.out with ⟨_,h2⟩|⟨h2,_⟩
        ·rw[h2,h2]
        ·rw[h]at h2;cases h2
       have HMf:Hid (xN (zK SP q)+(if mo=true then 1 else 0)<=xN q):=by
        show _<=_;rcases HMo.out with ⟨h1,h2⟩|⟨h1,h2⟩
        ·rw[h1,h2];simp
        ·rw[h1,if_pos rfl];omega
       go_wp2_with fail;go_roundg (xN q);case measure=>have:=HQf'.out;omega
       case rel=>exact⟨mo,n+1,zK SP q,rfl,HQn'.out,HMs.out,HMf.out,HR'.out,HBr.out⟩
open Go.RowKit Go.WideMaps
theorem yB:Maps.Keyed Tryz.prog 3:=Maps.int_keyed Tryz.underlying3
theorem xp {i:Nat} (h:i<=1073741824):keyOf Tryz.prog 3 (.int .i64 i)=some (.int .i64 i):=Maps.keyOf_int_mk Tryz.underlying3 (WalkArith.wf_i64 (by omega))
theorem xh (w:World):(zeroValue 3).run Tryz.prog w=.ok (.int .i64 0) w:=by kernel_rfl
theorem ahead_zero {n:zm} (h:zY n=true):(zL n).getD 0 false=true:=(Z7 h 0).2 (Rch.refl 0)
theorem zfc {n:zm} (h:zY n=true) {e:zn} (he:e∈n.edges) (ha:(zL n).getD e.fr.toNat false=true):(zL n).getD e.to.toNat false=true :=
 (Z7 h _).2 (((Z7 h _).1 ha).step (List.mem_map.2 ⟨e,he,rfl⟩))
theorem zin {n:zm} (h:zY n=true) {e:zn} (he:e∈n.edges):Qr (zL n) (zw n) e=(yM (zL n) (zw n) e.fr.toNat&&yM (zL n) (zw n) e.to.toNat&&(zL n).getD e.fr.toNat false&&(zw n).getD e.fr.toNat false&&(zw n).getD e.to.toNat false):=by
 have h1:=zfc h he;unfold Qr yM;cases ha:(zL n).getD e.fr.toNat false with
 |false=>simp
 |true =>rw[h1 ha];cases (zw n).getD e.fr.toNat false<;>cases (zw n).getD e.to.toNat false<;>simp
theorem zj6 {n:zm} (h:zY n=true) (s:Nat):yM (zL n) (zw n) s=(yM (zL n) (zw n) s&&(zL n).getD s false):=by
 unfold yM;by_cases h0:s=0
 ·subst h0;rw[ahead_zero h];simp
 ·cases (zL n).getD s false<;>simp[h0]
theorem zgx (n:zm):(zL n).length=n.states.toNat:=by unfold zL;rw[zaN,Yf]
theorem zfh (n:zm):(zw n).length=n.states.toNat:=by unfold zw;rw[zaN,Yf]
def zad (a b:List Bool) (k:Nat) (kl:Lit):Option Value:=match kl with
 | .int .i64 z=>if 0<=z/\z<k/\yM a b z.toNat=true then some (.int .i64 (yX a b z.toNat:Nat)) else none
 |_=>none
theorem zhB (a b:List Bool):∀x,(λ_=>none:Lit->Option Value) x=zad a b 0 x:=by
 intro x;unfold zad;split
 ·rw[if_neg (by omega)]
 ·rfl
theorem zbL (a b:List Bool) {k s:Nat} (h:s<k):zad a b k (.int .i64 s)=if yM a b s=true then some (.int .i64 (yX a b s:Nat)) else none:=by
 unfold zad;simp only[Int.toNat_natCast];by_cases hk:yM a b s=true
 ·rw[if_pos ⟨by omega,by omega,hk⟩,if_pos hk]
 ·rw[if_neg (λh=>hk h.2.2),if_neg hk]
theorem zeD (a b:List Bool) (k:Nat):zad a b k (.int .i64 k)=none:=by unfold zad;simp only;rw[if_neg (by omega)]
theorem zhA {a b:List Bool} {k:Nat} (h:yM a b k=false):∀x,zad a b k x=zad a b (k+1) x:=by
 intro x;unfold zad;split
 ·rename_i z;by_cases hz:0<=z/\z<(k:Int)/\yM a b z.toNat=true
  ·rw[if_pos hz,if_pos ⟨hz.1,by omega,hz.2.2⟩]
  ·rw[if_neg hz,if_neg];rintro ⟨h1,h2,h3⟩;by_cases e:z=k
   ·subst e;rw[Int.toNat_natCast,h]at h3;cases h3
   ·exact hz ⟨h1,by omega,h3⟩
 ·rfl
theorem zjH {a b:List Bool} {k:Nat} (h:yM a b k=true):∀x,zhU (zad a b k) (.int .i64 k) (some (.int .i64 (yX a b k:Nat))) x=zad a b (k+1) x:=by
 intro x;by_cases hx:x=.int .i64 (k:Int)
 ·subst hx;rw[zaf,zbL a b (Nat.lt_succ_self k),if_pos h]
 ·rw[XZ _ hx];unfold zad;split
  ·rename_i z;have hz:z≠(k:Int):=λe=>hx (by rw[e]);by_cases hc:0<=z/\z<(k:Int)/\yM a b z.toNat=true
   ·rw[if_pos hc,if_pos ⟨hc.1,by omega,hc.2.2⟩]
   ·rw[if_neg hc,if_neg (λh=>hc ⟨h.1,by omega,h.2.2⟩)]
  ·rfl
theorem zhu (n:zm):(n.edges.map λe=>(e.fr,e.to)).map nnP=qh n:=by unfold qh;rw[List.map_map];rfl
theorem zjD (n:zm):(n.edges.map λe=>(e.to,e.fr)).map nnP=zff n:=by unfold zff;rw[List.map_map];rfl
end Go.Proofs.YthojpomoflhbcaaGreatDoor
