/- slices.Clone, for the kinds that automata need. -/
import Derived.Test.YtnfkbliokjjggaaGreatDoorH09
import Derived.Lib.AppendZeros
import Derived.Laws.OwnMore
set_option maxHeartbeats 8000000
set_option maxRecDepth 100000
set_option linter.unusedSimpArgs false
set_option linter.unusedVariables false
set_option linter.unnecessarySimpa false
namespace Go.Proofs.YtnfkbliokjjggaaGreatDoor
open Go.RowKit
attribute [local go_sem ↓] Go.wp_at_zero Go.wp_at_succ
theorem zcn:Elem Tryz.prog 30 77 4:=Elem.of Tryz.underlying30 (by kernel_rfl) (z:=.agg #[.int .i64 0,.int .i64 0,.slice none 0 0,.slice none 0 0]) (bytes:=64) rfl (by decide) (by decide)
theorem zeM:Elem Tryz.prog 75 80 5:=Elem.of Tryz.underlying75 (by kernel_rfl) (z:=.agg #[.string .empty,.int .i64 0,.int .i64 0,.string .empty,.slice none 0 0]) (bytes:=72) rfl (by decide) (by decide)
theorem Xv:Elem Tryz.prog 69 68 2:=Elem.of Tryz.underlying69 (by kernel_rfl) (z:=.agg #[.string .empty,.int .i64 0]) (bytes:=24) rfl (by decide) (by decide)
def yR {τ:Type} (E:Enc τ) (t:TypeId) (p:Nat->Bool) (l:List τ) (w:World) (e:Ending) (w':World):Prop:=(∃v,e=.returned v/\E.Own t p w' w.heap.size v l)/\Below w.heap.size w w'
theorem zeu (p:Nat->Bool) (l:List _) (a:Option Addr) (c:Nat) (w:World) (h:edE.In (World.hide w p) l a c) :
 Calls Tryz.prog 216 #[.slice a l.length c] w (yR edE 77 p l w):=by
 have q1:∀(w:World) (a:Option Addr) (n c n' c':Nat),(binOp .eql 30 (.slice a n c) (.slice none n' c')).run Tryz.prog w=.ok (.bool a.isNone) w:=λw a n c n' c'=>Lib.run_eql_slice_nil w _ _ a n c n' c' Tryz.underlying30;have HL:=Lib.hid h.len;rcases a with _|ad
 ·have h0:l.length=0:=by
   rcases h.addr with h|⟨b,off,h⟩
   ·exact h
   ·simp at h
  obtain rfl:l=[]:=List.eq_nil_of_length_eq_zero h0;clear h h0 HL;go_enter Tryz.func216, Tryz.ntmps216;go_wp2_with fail;go_ret;exact⟨⟨_,rfl,Enc.Own.nil _ _ _ _ _⟩,bel⟩
 ·have HP:Hid (∀v w',edE.Own 77 p w' w.heap.size v l->Below w.heap.size w w'->yR edE 77 p l w (.returned v) w'):=λv w' h1 h2=>⟨⟨v,rfl,h1⟩,h2⟩;have HI:Hid (edE.In (World.hide (w.alloc (.cells #[] 77)) (hid p (.slice (some ⟨w.heap.size,0,none⟩) 0 0))) l (some ad) c):=h.keep (zg ((Below.refl _ w).alloc (Nat.le_refl _) _) λk hk hq=>by
   rcases ze.1 hq with hq|hq
   ·exact hq
   ·have:=Option.some.inj hq;simp only at this;omega)
  have HO0:Hid (edE.Own 77 p (w.alloc (.cells #[] 77)) w.heap.size (.slice (some ⟨w.heap.size,0,none⟩) 0 0) []):=⟨[],World.ownsRow_made w #[] 0 (Nat.le_refl _) (Nat.zero_le _) rfl,Enc.Vals.nil _⟩;clear h;generalize yR edE 77 p l w=Po at HP⊢;generalize hn:l.length=n;have HN:=Lib.hid hn;go_enter Tryz.func216, Tryz.ntmps216;clear hn;go_wp2_with (at_builtin;go_must (refine xF (E:=edE) zcn _ rfl _ _ rfl p w.heap.size _ rfl HO0.out (some ad) c HI.out (by rw[HN.out];rfl) ?ql (by simp) ?_));case ql=>have:=HL.out;simp;omega
  intro v' w1 hown hgrow hat
  have HO:Hid (edE.Own 77 p w1 w.heap.size v' l):=Lib.hid (by simpa using hown);have HB:Hid (Below w.heap.size w w1):=((Below.refl _ w).alloc (Nat.le_refl _) _).grown hgrow (by simp) (by intro k hk;simp[Value.ownBlock]at hk;omega);clear hown hgrow hat
  obtain⟨a',c',hv,_⟩:=HO.out.slice HL.out;subst hv;go_wp2_with fail;first|exact HP.out _ _ HO.out HB.out|(go_ret;exact HP.out _ _ HO.out HB.out)
theorem zhW (p:Nat->Bool) (l:List _) (a:Option Addr) (c:Nat) (w:World) (h:exE.In (World.hide w p) l a c) :
 Calls Tryz.prog 156 #[.slice a l.length c] w (yR exE 24 p l w):=by
 have q1:∀(w:World) (a:Option Addr) (n c n' c':Nat),(binOp .eql 22 (.slice a n c) (.slice none n' c')).run Tryz.prog w=.ok (.bool a.isNone) w:=λw a n c n' c'=>Lib.run_eql_slice_nil w _ _ a n c n' c' Tryz.underlying22;have HL:=Lib.hid h.len;rcases a with _|ad
 ·have h0:l.length=0:=by
   rcases h.addr with h|⟨b,off,h⟩
   ·exact h
   ·simp at h
  obtain rfl:l=[]:=List.eq_nil_of_length_eq_zero h0;clear h h0 HL;go_enter Tryz.func156, Tryz.ntmps156;go_wp2_with fail;go_ret;exact⟨⟨_,rfl,Enc.Own.nil _ _ _ _ _⟩,bel⟩
 ·have HP:Hid (∀v w',exE.Own 24 p w' w.heap.size v l->Below w.heap.size w w'->yR exE 24 p l w (.returned v) w'):=λv w' h1 h2=>⟨⟨v,rfl,h1⟩,h2⟩;have HI:Hid (exE.In (World.hide (w.alloc (.cells #[] 24)) (hid p (.slice (some ⟨w.heap.size,0,none⟩) 0 0))) l (some ad) c):=h.keep (zg ((Below.refl _ w).alloc (Nat.le_refl _) _) λk hk hq=>by
   rcases ze.1 hq with hq|hq
   ·exact hq
   ·have:=Option.some.inj hq;simp only at this;omega)
  have HO0:Hid (exE.Own 24 p (w.alloc (.cells #[] 24)) w.heap.size (.slice (some ⟨w.heap.size,0,none⟩) 0 0) []):=⟨[],World.ownsRow_made w #[] 0 (Nat.le_refl _) (Nat.zero_le _) rfl,Enc.Vals.nil _⟩;clear h;generalize yR exE 24 p l w=Po at HP⊢;generalize hn:l.length=n;have HN:=Lib.hid hn;go_enter Tryz.func156, Tryz.ntmps156;clear hn;go_wp2_with (at_builtin;go_must (refine xF (E:=exE) Qm _ rfl _ _ rfl p w.heap.size _ rfl HO0.out (some ad) c HI.out (by rw[HN.out];rfl) ?ql (by simp) ?_));case ql=>have:=HL.out;simp;omega
  intro v' w1 hown hgrow hat
  have HO:Hid (exE.Own 24 p w1 w.heap.size v' l):=Lib.hid (by simpa using hown);have HB:Hid (Below w.heap.size w w1):=((Below.refl _ w).alloc (Nat.le_refl _) _).grown hgrow (by simp) (by intro k hk;simp[Value.ownBlock]at hk;omega);clear hown hgrow hat
  obtain⟨a',c',hv,_⟩:=HO.out.slice HL.out;subst hv;go_wp2_with fail;first|exact HP.out _ _ HO.out HB.out|(go_ret;exact HP.out _ _ HO.out HB.out)
theorem zbB (p:Nat->Bool) (l:List _) (a:Option Addr) (c:Nat) (w:World) (h:sgE.In (World.hide w p) l a c) :
 Calls Tryz.prog 79 #[.slice a l.length c] w (yR sgE 68 p l w):=by
 have q1:∀(w:World) (a:Option Addr) (n c n' c':Nat),(binOp .eql 69 (.slice a n c) (.slice none n' c')).run Tryz.prog w=.ok (.bool a.isNone) w:=λw a n c n' c'=>Lib.run_eql_slice_nil w _ _ a n c n' c' Tryz.underlying69;have HL:=Lib.hid h.len;rcases a with _|ad
 ·have h0:l.length=0:=by
   rcases h.addr with h|⟨b,off,h⟩
   ·exact h
   ·simp at h
  obtain rfl:l=[]:=List.eq_nil_of_length_eq_zero h0;clear h h0 HL;go_enter Tryz.func79, Tryz.ntmps79;go_wp2_with fail;go_ret;exact⟨⟨_,rfl,Enc.Own.nil _ _ _ _ _⟩,bel⟩
 ·have HP:Hid (∀v w',sgE.Own 68 p w' w.heap.size v l->Below w.heap.size w w'->yR sgE 68 p l w (.returned v) w'):=λv w' h1 h2=>⟨⟨v,rfl,h1⟩,h2⟩;have HI:Hid (sgE.In (World.hide (w.alloc (.cells #[] 68)) (hid p (.slice (some ⟨w.heap.size,0,none⟩) 0 0))) l (some ad) c):=h.keep (zg ((Below.refl _ w).alloc (Nat.le_refl _) _) λk hk hq=>by
   rcases ze.1 hq with hq|hq
   ·exact hq
   ·have:=Option.some.inj hq;simp only at this;omega)
  have HO0:Hid (sgE.Own 68 p (w.alloc (.cells #[] 68)) w.heap.size (.slice (some ⟨w.heap.size,0,none⟩) 0 0) []):=⟨[],World.ownsRow_made w #[] 0 (Nat.le_refl _) (Nat.zero_le _) rfl,Enc.Vals.nil _⟩;clear h;generalize yR sgE 68 p l w=Po at HP⊢;generalize hn:l.length=n;have HN:=Lib.hid hn;go_enter Tryz.func79, Tryz.ntmps79;clear hn;go_wp2_with (at_builtin;go_must (refine xF (E:=sgE) Xv _ rfl _ _ rfl p w.heap.size _ rfl HO0.out (some ad) c HI.out (by rw[HN.out];rfl) ?ql (by simp) ?_));case ql=>have:=HL.out;simp;omega
  intro v' w1 hown hgrow hat
  have HO:Hid (sgE.Own 68 p w1 w.heap.size v' l):=Lib.hid (by simpa using hown);have HB:Hid (Below w.heap.size w w1):=((Below.refl _ w).alloc (Nat.le_refl _) _).grown hgrow (by simp) (by intro k hk;simp[Value.ownBlock]at hk;omega);clear hown hgrow hat
  obtain⟨a',c',hv,_⟩:=HO.out.slice HL.out;subst hv;go_wp2_with fail;first|exact HP.out _ _ HO.out HB.out|(go_ret;exact HP.out _ _ HO.out HB.out)
def ZY (t:TypeId) (size:Nat) (w:World) (e:Ending) (w':World):Prop:=∃v,e=.returned v/\w'.ownsRow w.heap.size t size v 0 []/\Below w.heap.size w w'
def ZA {τ:Type} (E:Enc τ) (t:TypeId) (p:Nat->Bool) (w:World) (l:List τ) (v:Value) (wr:World):Prop:=E.Own t p wr w.heap.size v l/\Below w.heap.size w wr
theorem zq {τ:Type} {E:Enc τ} {t:TypeId} {p:Nat->Bool} {w:World} {B:Nat} {v:Value} {l:List τ} (h:E.Own t p w B v l):∀j,v.ownBlock=some j->B<=j/\j<w.heap.size:=by obtain⟨xs,h1,_⟩:=h;exact h1.lt
theorem qr {p:Nat->Bool} {w wr:World} {v:Value} (hb:Below w.heap.size w wr) (hv:∀j,v.ownBlock=some j->w.heap.size<=j):Kp (World.hide w p) (World.hide wr (hid p v)) :=
 zg hb λk hk hq=>(ze.1 hq).elim id λe=>by have:=hv k e;omega
theorem zi7 (n:Nat) (hn:n<=4294967296) (w:World):Calls Tryz.prog 263 #[.slice none 0 0,.int .i64 n] w (ZY 80 5 w):=by
 by_cases h0:n=0
 ·subst h0;show Calls _ _ _ _ λe w'=>ZY 80 5 w e w';go_enter Tryz.func263, Tryz.ntmps263;go_wp2_with fail;go_ret;exact⟨_,rfl,World.ownsRow_nil _ _ _ _,Below.refl _ _⟩
 ·obtain⟨i,h1,h2,h3,h4⟩:=info_parts (show (Tryz.prog.info? 80).map (λi=>(i.zero,i.size,i.bytes))=some (some (.agg #[.string .empty,.int .i64 0,.int .i64 0,.string .empty,.slice none 0 0]),5,72) from by kernel_rfl);have hpos:1<=n:=by omega
  have hge:=grownCap_ge w n 0 80;have hle:=grownCap_le_maxLen w n 0 80 (by unfold maxLen;omega);have hrun:∀ty,(Builtin.append_ #[75, 3] ty #[.slice none 0 0,.int .i64 n]).run Tryz.prog w=_:=λty=>Lib.run_append_nil_zeros (P:=Tryz.prog) w 75 3 ty 80 i _ .i64 .i64 Tryz.underlying75 Tryz.underlying3 h1 h2 n (by omega) (by omega) (by omega) (by rw[h4];omega);have HOwn:Hid ((w.drew.alloc (.cells (Builtin.zeroCells (Value.cells (.agg #[.string .empty,.int .i64 0,.int .i64 0,.string .empty,.slice none 0 0])) n++Builtin.zeroCells (Value.cells (.agg #[.string .empty,.int .i64 0,.int .i64 0,.string .empty,.slice none 0 0])) (grownCap w n 0 80 - n)) 80)).ownsRow w.heap.size 80 5 (.slice (some ⟨w.heap.size,0,none⟩) 0 (grownCap w n 0 80)) 0 []):=by refine World.ownsRow_made w.drew _ _ (Nat.le_refl _) hle ?_;rw[Array.size_append,size_zeroCells,size_zeroCells];show n*5+(grownCap w n 0 80 - n)*5=_;omega
  unfold maxLen at hle;generalize grownCap w n 0 80=gc at hge hle hrun HOwn;have Hrun:=Lib.hid hrun;clear hrun h0 h1 h2 h3 h4;show Calls _ _ _ _ λe w'=>ZY 80 5 w e w';go_enter Tryz.func263, Tryz.ntmps263;go_wp2_with (at_builtin;refine Lib.wpList_append_run _ rfl _ _ _ _ rfl _ _ rfl rfl _ _ (Hrun.out _) ?_);go_ret;exact⟨_,rfl,HOwn.out,bel⟩
theorem zge (p:Nat->Bool) (h s:List _) (ah ao:Option Addr) (ch co bo:Nat) (w:World) (c0:w.cell? ⟨bo,0,none⟩=some (.slice ah h.length ch)) (c1:w.cell? ⟨bo,1,none⟩=some (.slice ao s.length co)) (hH:bdE.In (World.hide w p) h ah ch) (hS:bdE.In (World.hide w p) s ao co) (hln:(h++s).length<=1073741824) :
 Calls Tryz.prog 218 #[.slice (some ⟨bo,0,none⟩) 2 2] w (yR bdE 80 p (h++s) w):=by
 have hlh:=hH.len;have hls:=hS.len;have hlhs:h.length+s.length<=1073741824:=by rwa [List.length_append]at hln
 have C0:=Lib.hid c0;have C1:=Lib.hid c1;have HH:=Lib.hid hH;have HS:=Lib.hid hS;have HLn:=Lib.hid hln;clear hH hS hln;show Calls _ _ _ _ λe w'=>yR bdE 80 p (h++s) w e w';go_enter Tryz.func218, Tryz.ntmps218;go_wp2_with fail;go_loop [11,3,5] (λi n _=>(i=.int .i64 0/\n=.int .i64 0)\/(i=.int .i64 1/\n=.int .i64 h.length)\/(i=.int .i64 2/\n=.int .i64 ((h.length+s.length:Nat):Int))) (λi _ _=>2-(intOf i).toNat);case atStart=>exact Or.inl ⟨rfl,rfl⟩
 case round =>
  rcases hrel with ⟨rfl,rfl⟩|⟨rfl,rfl⟩|⟨rfl,rfl⟩
  ·go_wp2_with fail;go_round;case rel=>exact Or.inr (Or.inl ⟨by go_num,by go_num⟩)
   case measure=>simp[intOf]
  ·go_wp2_with fail;go_round;case rel=>exact Or.inr (Or.inr ⟨by go_num,by go_num⟩)
   case measure=>simp[intOf]
  ·have HGr:=Lib.hid (zi7 (h.length+s.length) (by omega) w);clear c0 c1;go_wp2_with fail;refine HGr.out.mono ?_;rintro e w1 ⟨v,rfl,hown,hb⟩;have HR:Hid (ZA bdE 80 p w [] v w1):=⟨⟨[],hown,Enc.Vals.nil _⟩,hb⟩;clear hown hb;go_wp2_with fail;go_loopw [27,6,8] (λi v _ wr=>(i=.int .i64 0/\ZA bdE 80 p w [] v wr)\/(i=.int .i64 1/\ZA bdE 80 p w h v wr)\/(i=.int .i64 2/\ZA bdE 80 p w (h++s) v wr)) (λi _ _ _=>2-(intOf i).toNat);case atStart=>exact Or.inl ⟨rfl,HR.out⟩
   case round =>
    rcases hrel with ⟨rfl,hR⟩|⟨rfl,hR⟩|⟨rfl,hR⟩
    ·obtain⟨hown,hb⟩:=hR;have c0:=(za hb) _ _ C0.out;have hzs:=hb.size;have HX:=Lib.hid hb;have HO:=Lib.hid hown;have HK:=Lib.hid (HH.out.keep (qr hb λj hj=>(zq hown j hj).1));clear hb;obtain⟨av,cv,hv,_⟩:=hown.slice (by simp);subst hv;clear hown;go_wp2_with (at_builtin;go_must (refine xF (E:=bdE) zeM _ rfl (.tmp 31) (.tmp 32) rfl p w.heap.size _ rfl HO.out ah ch HK.out rfl (by first|(simp;omega)|simp) hzs ?_));intro v' w' hown' hgr hat
     have hS':Hid (ZA bdE 80 p w h v' w'):=⟨by simpa using hown',HX.out.grown hgr hzs λj hj=>(zq HO.out j hj).1⟩;clear hown' hgr hat
     go_wp2_with fail;go_roundw;case rel=>exact Or.inr (Or.inl ⟨by go_num,hS'.out⟩)
     case measure=>simp[intOf]
    ·obtain⟨hown,hb⟩:=hR;have c0:=(za hb) _ _ C1.out;have hzs:=hb.size;have HX:=Lib.hid hb;have HO:=Lib.hid hown;have HK:=Lib.hid (HS.out.keep (qr hb λj hj=>(zq hown j hj).1));clear hb;obtain⟨av,cv,hv,_⟩:=hown.slice (by omega);subst hv;clear hown;go_wp2_with (at_builtin;go_must (refine xF (E:=bdE) zeM _ rfl (.tmp 31) (.tmp 32) rfl p w.heap.size _ rfl HO.out ao co HK.out rfl hlhs hzs ?_));intro v' w' hown' hgr hat
     have hS':Hid (ZA bdE 80 p w (h++s) v' w'):=⟨hown',HX.out.grown hgr hzs λj hj=>(zq HO.out j hj).1⟩;clear hown' hgr hat
     go_wp2_with fail;go_roundw;case rel=>exact Or.inr (Or.inr ⟨by go_num,hS'.out⟩)
     case measure=>simp[intOf]
    ·obtain⟨hown,hb⟩:=hR;have HE:=Lib.hid (⟨hown,hb⟩:_/\_);clear hb;obtain⟨av,cv,hv,_⟩:=hown.slice HLn.out;subst hv;clear hown;go_wp2_with fail;go_ret;exact⟨⟨_,rfl,HE.out.1⟩,HE.out.2⟩
theorem zi8 (n:Nat) (hn:n<=4294967296) (w:World):Calls Tryz.prog 252 #[.slice none 0 0,.int .i64 n] w (ZY 68 2 w):=by
 by_cases h0:n=0
 ·subst h0;show Calls _ _ _ _ λe w'=>ZY 68 2 w e w';go_enter Tryz.func252, Tryz.ntmps252;go_wp2_with fail;go_ret;exact⟨_,rfl,World.ownsRow_nil _ _ _ _,Below.refl _ _⟩
 ·obtain⟨i,h1,h2,h3,h4⟩:=info_parts (show (Tryz.prog.info? 68).map (λi=>(i.zero,i.size,i.bytes))=some (some (.agg #[.string .empty,.int .i64 0]),2,24) from by kernel_rfl);have hpos:1<=n:=by omega
  have hge:=grownCap_ge w n 0 68;have hle:=grownCap_le_maxLen w n 0 68 (by unfold maxLen;omega);have hrun:∀ty,(Builtin.append_ #[69, 3] ty #[.slice none 0 0,.int .i64 n]).run Tryz.prog w=_:=λty=>Lib.run_append_nil_zeros (P:=Tryz.prog) w 69 3 ty 68 i _ .i64 .i64 Tryz.underlying69 Tryz.underlying3 h1 h2 n (by omega) (by omega) (by omega) (by rw[h4];omega);have HOwn:Hid ((w.drew.alloc (.cells (Builtin.zeroCells (Value.cells (.agg #[.string .empty,.int .i64 0])) n++Builtin.zeroCells (Value.cells (.agg #[.string .empty,.int .i64 0])) (grownCap w n 0 68 - n)) 68)).ownsRow w.heap.size 68 2 (.slice (some ⟨w.heap.size,0,none⟩) 0 (grownCap w n 0 68)) 0 []):=by refine World.ownsRow_made w.drew _ _ (Nat.le_refl _) hle ?_;rw[Array.size_append,size_zeroCells,size_zeroCells];show n*2+(grownCap w n 0 68 - n)*2=_;omega
  unfold maxLen at hle;generalize grownCap w n 0 68=gc at hge hle hrun HOwn;have Hrun:=Lib.hid hrun;clear hrun h0 h1 h2 h3 h4;show Calls _ _ _ _ λe w'=>ZY 68 2 w e w';go_enter Tryz.func252, Tryz.ntmps252;go_wp2_with (at_builtin;refine Lib.wpList_append_run _ rfl _ _ _ _ rfl _ _ rfl rfl _ _ (Hrun.out _) ?_);go_ret;exact⟨_,rfl,HOwn.out,bel⟩
theorem zgf (p:Nat->Bool) (h s:List _) (ah ao:Option Addr) (ch co bo:Nat) (w:World) (c0:w.cell? ⟨bo,0,none⟩=some (.slice ah h.length ch)) (c1:w.cell? ⟨bo,1,none⟩=some (.slice ao s.length co)) (hH:sgE.In (World.hide w p) h ah ch) (hS:sgE.In (World.hide w p) s ao co) (hln:(h++s).length<=1073741824) :
 Calls Tryz.prog 199 #[.slice (some ⟨bo,0,none⟩) 2 2] w (yR sgE 68 p (h++s) w):=by
 have hlh:=hH.len;have hls:=hS.len;have hlhs:h.length+s.length<=1073741824:=by rwa [List.length_append]at hln
 have C0:=Lib.hid c0;have C1:=Lib.hid c1;have HH:=Lib.hid hH;have HS:=Lib.hid hS;have HLn:=Lib.hid hln;clear hH hS hln;show Calls _ _ _ _ λe w'=>yR sgE 68 p (h++s) w e w';go_enter Tryz.func199, Tryz.ntmps199;go_wp2_with fail;go_loop [11,3,5] (λi n _=>(i=.int .i64 0/\n=.int .i64 0)\/(i=.int .i64 1/\n=.int .i64 h.length)\/(i=.int .i64 2/\n=.int .i64 ((h.length+s.length:Nat):Int))) (λi _ _=>2-(intOf i).toNat);case atStart=>exact Or.inl ⟨rfl,rfl⟩
 case round =>
  rcases hrel with ⟨rfl,rfl⟩|⟨rfl,rfl⟩|⟨rfl,rfl⟩
  ·go_wp2_with fail;go_round;case rel=>exact Or.inr (Or.inl ⟨by go_num,by go_num⟩)
   case measure=>simp[intOf]
  ·go_wp2_with fail;go_round;case rel=>exact Or.inr (Or.inr ⟨by go_num,by go_num⟩)
   case measure=>simp[intOf]
  ·have HGr:=Lib.hid (zi8 (h.length+s.length) (by omega) w);clear c0 c1;go_wp2_with fail;refine HGr.out.mono ?_;rintro e w1 ⟨v,rfl,hown,hb⟩;have HR:Hid (ZA sgE 68 p w [] v w1):=⟨⟨[],hown,Enc.Vals.nil _⟩,hb⟩;clear hown hb;go_wp2_with fail;go_loopw [27,6,8] (λi v _ wr=>(i=.int .i64 0/\ZA sgE 68 p w [] v wr)\/(i=.int .i64 1/\ZA sgE 68 p w h v wr)\/(i=.int .i64 2/\ZA sgE 68 p w (h++s) v wr)) (λi _ _ _=>2-(intOf i).toNat);case atStart=>exact Or.inl ⟨rfl,HR.out⟩
   case round =>
    rcases hrel with ⟨rfl,hR⟩|⟨rfl,hR⟩|⟨rfl,hR⟩
    ·obtain⟨hown,hb⟩:=hR;have c0:=(za hb) _ _ C0.out;have hzs:=hb.size;have HX:=Lib.hid hb;have HO:=Lib.hid hown;have HK:=Lib.hid (HH.out.keep (qr hb λj hj=>(zq hown j hj).1));clear hb;obtain⟨av,cv,hv,_⟩:=hown.slice (by simp);subst hv;clear hown;go_wp2_with (at_builtin;go_must (refine xF (E:=sgE) Xv _ rfl (.tmp 31) (.tmp 32) rfl p w.heap.size _ rfl HO.out ah ch HK.out rfl (by first|(simp;omega)|simp) hzs ?_));intro v' w' hown' hgr hat
     have hS':Hid (ZA sgE 68 p w h v' w'):=⟨by simpa using hown',HX.out.grown hgr hzs λj hj=>(zq HO.out j hj).1⟩;clear hown' hgr hat
     go_wp2_with fail;go_roundw;case rel=>exact Or.inr (Or.inl ⟨by go_num,hS'.out⟩)
     case measure=>simp[intOf]
    ·obtain⟨hown,hb⟩:=hR;have c0:=(za hb) _ _ C1.out;have hzs:=hb.size;have HX:=Lib.hid hb;have HO:=Lib.hid hown;have HK:=Lib.hid (HS.out.keep (qr hb λj hj=>(zq hown j hj).1));clear hb;obtain⟨av,cv,hv,_⟩:=hown.slice (by omega);subst hv;clear hown;go_wp2_with (at_builtin;go_must (refine xF (E:=sgE) Xv _ rfl (.tmp 31) (.tmp 32) rfl p w.heap.size _ rfl HO.out ao co HK.out rfl hlhs hzs ?_));intro v' w' hown' hgr hat
     have hS':Hid (ZA sgE 68 p w (h++s) v' w'):=⟨hown',HX.out.grown hgr hzs λj hj=>(zq HO.out j hj).1⟩;clear hown' hgr hat
     go_wp2_with fail;go_roundw;case rel=>exact Or.inr (Or.inr ⟨by go_num,hS'.out⟩)
     case measure=>simp[intOf]
    ·obtain⟨hown,hb⟩:=hR;have HE:=Lib.hid (⟨hown,hb⟩:_/\_);clear hb;obtain⟨av,cv,hv,_⟩:=hown.slice HLn.out;subst hv;clear hown;go_wp2_with fail;go_ret;exact⟨⟨_,rfl,HE.out.1⟩,HE.out.2⟩
def zal (e:Ex):Bool:=decide (e.op=0/\e.n=0/\e.name.size=0/\e.args.length=0)
def qC (s:Tq):Bool :=
 if s.op=1 then decide (s.args.length=0/\s.lo=0/\s.hi=0)
 else if s.op=2 then decide (s.args.length=2/\0<=s.lo/\s.lo<=s.hi/\s.hi<=16)
 else if s.op=3 then decide (s.args.length=1/\1<=s.lo/\s.lo<=s.hi/\s.hi<=16)
 else if s.op=4\/s.op=5 then decide (2<=s.args.length/\s.args.length<=8/\s.lo=0/\s.hi=0)
 else if s.op=6\/s.op=7 then decide (s.args.length=1/\s.lo=0/\s.hi=0)
 else false
def yh (op:Int):Bool:=op==1||op==6||op==7
noncomputable def xq (s:Tq):List ByteArray:=s.para λs l=>l.flatten++if s.op=6 then [s.name] else []
theorem zcH (s:Tq):xq s=(s.args.map xq).flatten++if s.op=6 then [s.name] else []:=by unfold xq;rw[Tq.para_eq]
noncomputable def zbZ (s:Tq):Bool:=match s.args with | []=>false|a::_=>(zG [2] s.expr).any λnm=>Lib.containsS (xq a) nm
noncomputable def qy (s:Tq) (below:Bool):Int :=
 if qC s=false\/(yh s.op=false/\zal s.expr=false)\/(s.op≠6/\s.name.size≠0) then 1
 else if s.op=6/\yQ s.name.data.toList=false then 7
 else if yh s.op=true/\zD s.expr≠0 then zD s.expr
 else if s.op=6/\below=true then 13
 else if s.op=7/\zbZ s=true then 13
 else 0
def ZE:List Int->Int
 | []=>0
 |e::l=>if e=0 then ZE l else e
noncomputable def yc (s:Tq):Bool->Int:=s.para λs ls below=>if qy s below=0 then ZE (ls.map λf=>f (below||s.op==5)) else qy s below
theorem qv (s:Tq) (below:Bool):yc s below=if qy s below=0 then ZE (s.args.map λa=>yc a (below||s.op==5)) else qy s below:=by unfold yc;rw[Tq.para_eq];simp only[List.map_map];rfl
noncomputable def qi (s:Tq):Int:=if 8<s.depth\/100<s.nodes then 2 else yc s false
theorem Xy {l:List Int}:ZE l=0<->∀x∈l,x=0:=by
 induction l with
 |nil=>simp[ZE]
 |cons a l ih=>rw[ZE];split<;>simp_all
def stR (_:World) (s:ByteArray) (vs:List Value):Prop:=vs=[.string s]
def stE:Enc ByteArray where
 sz:=1
 R:=stR
 pos:=by decide
 len:=by rintro _ _ _ rfl;rfl
 keep:=by rintro _ _ _ _ _ h;exact h
 one:=by rintro _ _ _ rfl v hv;simp at hv;subst hv;rfl
theorem zhE {w:World} {s:ByteArray} {b o:Nat}:stE.At w s b o<->w.cell? ⟨b,o,none⟩=some (.string s):=by
 constructor
 ·rintro ⟨vs,rfl,hc⟩;exact hc 0 _ rfl
 ·intro h0;refine⟨_,rfl,λj v hv=>?_⟩
  match j with
  |0=>simp at hv;subst hv;exact h0
  |j+1=>simp at hv
theorem zcK {w:World} {l:List ByteArray} {a:Option Addr} {cap:Nat}:stE.In w l a cap<->zM w l a cap :=
 ⟨λh=>h.mono λ_ _ _ _ ⟨x,h1,h2⟩=>⟨x,h1,zhE.1 h2⟩,λh=>h.mono λ_ _ _ _ ⟨x,h1,h2⟩=>⟨x,h1,zhE.2 h2⟩⟩
def slR (w:World) (l:List ByteArray) (vs:List Value):Prop:=∃a cap,vs=[.slice a l.length cap]/\zM w l a cap
def slE:Enc (List ByteArray) where
 sz:=1
 R:=slR
 pos:=by decide
 len:=by rintro _ _ _ ⟨_,_,rfl,_⟩;rfl
 keep:=by rintro _ _ _ _ hk ⟨a,cap,rfl,h⟩;exact⟨a,cap,rfl,h.keep hk⟩
 one:=by rintro _ _ _ ⟨_,_,rfl,_⟩ v hv;simp at hv;subst hv;rfl
theorem zeO:Elem Tryz.prog 31 3 1:=Elem.of Tryz.underlying31 (by kernel_rfl) (z:=.int .i64 0) (bytes:=8) rfl (by decide) (by decide)
theorem zeP:Elem Tryz.prog 43 9 1:=Elem.of Tryz.underlying43 (by kernel_rfl) (z:=.string .empty) (bytes:=16) rfl (by decide) (by decide)
theorem zhs:Elem Tryz.prog 289 43 1:=Elem.of Tryz.underlying289 (by kernel_rfl) (z:=.slice none 0 0) (bytes:=24) rfl (by decide) (by decide)
theorem zjh {P:Program} {t e:TypeId} {size:Nat} (he:Elem P t e size) (n:Nat) (hn:n<=1073741824):∃cur:Array Value,cur.size=n*size/\∀W:World,(Instr.makeSlice t (.int .i64 0) (.int .i64 (n:Int))).run P W=.ok (.slice (some ⟨W.heap.size,0,none⟩) 0 n) (W.alloc (.cells cur e)):=by
 obtain⟨ht,i,z,bytes,hi,hz,hsz,hby,hzs,h0,hb⟩:=he;have hbb:(i.bytes:Int)*(n:Int)<=281474976710656:=by
  have:i.bytes*n<=1024*1073741824:=by rw[hby];exact Nat.mul_le_mul hb hn
  rw[←Int.natCast_mul];omega
 refine⟨madeCells z.cells (n*size),size_madeCells _ _,λW=>?_⟩;have hrun:=run_make (P:=P) W t e i z ht hi hz .i64 .i64 0 n (Int.le_refl _) (by omega) hbb (by omega);simp only[Int.toNat_natCast,hsz,Int.toNat_zero]at hrun;exact hrun
theorem YV (s:Tq):1<=s.nodes:=by rw[Tq.nodes_eq];omega
theorem ziH {l:List Nat} {k:Nat} (h:k∈l):k<=l.sum:=by
 induction l with
 |nil=>cases h
 |cons a l ih =>
  rw[List.sum_cons];rcases List.mem_cons.1 h with rfl|h
  ·omega
  ·have:=ih h;omega
theorem xK {s x:Tq} (h:x∈s.args):x.nodes<s.nodes:=by rw[Tq.nodes_eq s];have:=ziH (List.mem_map.2 ⟨x,h,rfl⟩:x.nodes∈s.args.map Tq.nodes);omega
theorem zay {w:World} {b o:Nat} {s:Tq} {ae:Option Addr} {ce:Nat} {a:Option Addr} {cap:Nat} (h:∀(j:Nat) (v:Value),(yZ s ae ce a cap)[j]? = some v->w.cell? ⟨b,o+j,none⟩=some v) :
 w.cell? ⟨b,o,none⟩=some (.int .i64 s.op)/\w.cell? ⟨b,o+1,none⟩=some (.int .i64 s.lo)/\w.cell? ⟨b,o+2,none⟩=some (.int .i64 s.hi)/\w.cell? ⟨b,o+3,none⟩=some (.int .i64 s.expr.op)/\w.cell? ⟨b,o+4,none⟩=some (.int .i64 s.expr.n) /\
 w.cell? ⟨b,o+5,none⟩=some (.string s.expr.name)/\w.cell? ⟨b,o+6,none⟩=some (.slice ae s.expr.args.length ce)/\w.cell? ⟨b,o+7,none⟩=some (.string s.name)/\w.cell? ⟨b,o+8,none⟩=some (.slice a s.args.length cap) :=
 ⟨h 0 _ rfl,h 1 _ rfl,h 2 _ rfl,h 3 _ rfl,h 4 _ rfl,h 5 _ rfl,h 6 _ rfl,h 7 _ rfl,h 8 _ rfl⟩
def xr (s:Tq) (ae:Option Addr) (ce:Nat) (a:Option Addr) (cap:Nat):Obj:=.cells #[.int .i64 s.op,.int .i64 s.lo,.int .i64 s.hi,.int .i64 s.expr.op,.int .i64 s.expr.n,.string s.expr.name,.slice ae s.expr.args.length ce,.string s.name,.slice a s.args.length cap] 27 (0,0)
theorem yI {w:World} {b:Nat} {z0 z1 z2 z3 z4 z5 z6 z7 z8:Value} {t:TypeId} (h:w.heap[b]? = some (.cells #[z0,z1,z2,z3,z4,z5,z6,z7,z8] t (0,0))):w.cell? ⟨b,0,none⟩=some z0/\w.cell? ⟨b,1,none⟩=some z1/\w.cell? ⟨b,2,none⟩=some z2/\w.cell? ⟨b,3,none⟩=some z3/\w.cell? ⟨b,4,none⟩=some z4/\w.cell? ⟨b,5,none⟩=some z5/\w.cell? ⟨b,6,none⟩=some z6/\w.cell? ⟨b,7,none⟩=some z7/\w.cell? ⟨b,8,none⟩=some z8:=by refine⟨?_,?_,?_,?_,?_,?_,?_,?_,?_⟩<;>(rw[zb h];rfl)
theorem Zh {τ:Type} {E:Enc τ} {t:TypeId} {p:Nat->Bool} {w:World} {B B':Nat} {v:Value} {l:List τ} (h:E.Own t p w B v l) (hB:B'<=B):E.Own t p w B' v l:=by obtain⟨xs,h1,h2⟩:=h;refine⟨xs,⟨h1.1,h1.2.imp id ?_⟩,h2⟩;rintro ⟨g,cap,cur,q1,q2,q3⟩;exact⟨g,cap,cur,q1,by omega,q3⟩
theorem zK (s:Tq) (ae:Option Addr) (ce:Nat) (a:Option Addr) (cap:Nat):xw s ae ce a cap=.agg #[.int .i64 s.op,.int .i64 s.lo,.int .i64 s.hi,.int .i64 s.expr.op,.int .i64 s.expr.n,.string s.expr.name,.slice ae s.expr.args.length ce,.string s.name,.slice a s.args.length cap]:=rfl
def zap {τ:Type} (E:Enc τ) (p:Nat->Bool) (r:τ) (w:World) (e:Ending) (w':World):Prop:=(∃u,e=.returned u/\E.R (World.hide w' p) r [u])/\Below w.heap.size w w'
def zec {τ:Type} (E:Enc τ) (t:TypeId) (g:FuncId) (F:Tq->τ):Prop:=∀(p:Nat->Bool) (B:Nat) (s:Tq) (ae:Option Addr) (ce:Nat) (a:Option Addr) (cap:Nat) (v:Value) (W:World),E.Own t p W B v (s.args.map F)->(∀j,p j=true->j<B)->B<=W.heap.size->s.nodes<=1000000000->s.args.length<=1073741824 ->
 Calls Tryz.prog g #[xw s ae ce a cap,v] W λe w'=>(∃u,e=.returned u/\E.R (World.hide w' p) (F s) [u])/\Below B W w'
theorem zaJ (g:FuncId) (eg:∀args w,(callFunc g args).run Tryz.prog w=.ok (.enter g args) w) (F:Tq->Int) (hC:zec inE 3 g F) (s:Tq) :
 ∀(p:Nat->Bool) (ae:Option Addr) (ce:Nat) (a:Option Addr) (cap:Nat) (w:World),X4 (World.hide w p) s ae ce a cap->(∀j,p j=true->j<w.heap.size)->s.nodes<=1000000000 ->
  Calls Tryz.prog 140 #[xw s ae ce a cap,.func (.func g) #[] #[]] w (zap inE p (F s) w):=by
 induction s using Tq.ind with
 |h s ih =>
  intro p ae ce a cap w hX hp hn;have HIH:Hid (∀k (hk:k<s.args.length),∀(q:Nat->Bool) (ae:Option Addr) (ce:Nat) (a:Option Addr) (cap:Nat) (W:World),X4 (World.hide W q) (s.args[k]'hk) ae ce a cap->(∀j,q j=true->j<W.heap.size)->Calls Tryz.prog 140 #[xw (s.args[k]'hk) ae ce a cap,.func (.func g) #[] #[]] W (zap inE q (F (s.args[k]'hk)) W)):=λk hk q ae ce a cap W h1 h2=>ih _ (List.getElem_mem hk) q ae ce a cap W h1 h2 (Nat.le_trans (Nat.le_of_lt (xK (List.getElem_mem hk))) hn);have hlen:=hX.ar.2.1;have HA:=Lib.hid hX.ar;have HAd:Hid (s.args.length=0\/∃b off,a=some ⟨b,off,none⟩):=zw.addr hX.ar;have HCl:Hid (∀(v:Value) (W:World),inE.Own 3 p W w.heap.size v (s.args.map F)->Below w.heap.size w W->Calls Tryz.prog g #[xw s ae ce a cap,v] W λe w'=>∃u,e=.returned u/\zap inE p (F s) w (.returned u) w'):=λv W h1 h2=>(hC p w.heap.size s ae ce a cap v W h1 hp h2.size hn hlen).mono λe w' h=>by obtain⟨⟨u,h3,h4⟩,h5⟩:=h;exact⟨u,h3,⟨u,rfl,h4⟩,h2.trans h5⟩
  have Hp:=Lib.hid hp;clear hX hC hp ih hn;generalize zap inE p (F s) w=Po at HCl⊢;have HFLl:Hid ((s.args.map F).length=s.args.length):=List.length_map _;have HFLg:Hid (∀k (hk:k<s.args.length) (h:k<(s.args.map F).length),(s.args.map F)[k]'h=F (s.args[k]'hk)):=λk hk h=>List.getElem_map _;generalize s.args.map F=FL at HCl HFLl HFLg;obtain⟨cur,hcur,hmk⟩:=zjh zeO s.args.length hlen;rw[zK]at HCl⊢;go_enter Tryz.func140, Tryz.ntmps140;go_wp2_with fail;generalize hW2:World.alloc (World.alloc w _) _=W2;have hz2:w.heap.size+2<=W2.heap.size:=by rw[←hW2];simp
  have hz2b:W2.heap.size<=w.heap.size+2:=by rw[←hW2];simp
  have HB2:Hid (Below w.heap.size w W2):=by show Below _ _ _;rw[←hW2];exact((Below.refl _ _).alloc (Nat.le_refl _) _).alloc (by simp) _
  have HX2:Hid (W2.heap[w.heap.size]? = some (xr s ae ce a cap)):=by show _=_;rw[←hW2];exact zl (zh rfl)
  have HO2:Hid (inE.Own 3 p W2 (w.heap.size+1) (.slice (some ⟨w.heap.size+1,0,none⟩) 0 s.args.length) []):=by refine⟨[],?_,Enc.Vals.nil _⟩;rw[←hW2];have:=World.ownsRow_made (base:=w.heap.size+1) (e:=3) (size:=1) (w.alloc (xr s ae ce a cap)) cur s.args.length (by simp) (by unfold maxLen;omega) hcur;simp only[World.size_alloc]at this;exact this
  clear hW2 hcur hmk;obtain⟨-,-,-,-,-,-,-,-,b8⟩:=yI HX2.out;go_wp2_with fail;clear b8;go_loopw [15,5,7] (λi v _ wr=>∃(k:Nat),i=.int .i64 k/\k<=s.args.length/\Hid (inE.Own 3 p wr (w.heap.size+1) v (FL.take k))/\Hid (wr.heap[w.heap.size]? = some (xr s ae ce a cap))/\Hid (Below w.heap.size w wr)) (λi _ _ _=>s.args.length-(intOf i).toNat);case atStart=>exact⟨0,rfl,Nat.zero_le _,HO2,HX2,HB2⟩
  case round =>
   obtain⟨k,rfl,hk,HO,HBx,HBr⟩:=hrel;have hzr:=lt_of_block HBx.out;have hzb:=HBr.out.size;have HLk:Hid ((FL.take k).length=k):=List.length_take_of_le (by rw[HFLl.out];exact hk);obtain⟨va,vc,hv,hsl⟩:=HO.out.slice (by rw[HLk.out];omega);rw[HLk.out]at hv;subst hv;have HVo:Hid (∀q,(Value.slice va k vc).ownBlock=some q->w.heap.size+1<=q/\q<wr.heap.size):=zq HO.out;by_cases hlt:k<s.args.length
   ·obtain⟨bE,oE,hEa⟩:=HAd.out.resolve_left (by omega);have HKp:Hid (Kp (World.hide w p) (World.hide wr (hid p (.slice va k vc)))):=zg HBr.out λj hj hq=>(ze.1 hq).elim id λe=>by have:=(HVo.out j e).1;omega
    have HA':Hid (qX (World.hide w p) s.args (some ⟨bE,oE,none⟩) cap):=by show qX _ _ _ _;rw[←hEa];exact HA.out
    obtain⟨xe,xc,xa,xk,gc,hX⟩:=(qX.keep HKp.out HA'.out).get rfl hlt;obtain⟨g0,g1,g2,g3,g4,g5,g6,g7,g8⟩:=zay gc;have f0:=zc _ _ g0;have f1:=zc _ _ g1;have f2:=zc _ _ g2;have f3:=zc _ _ g3;have f4:=zc _ _ g4;have f5:=zc _ _ g5;have f6:=zc _ _ g6;have f7:=zc _ _ g7;have f8:=zc _ _ g8;have HC:=Lib.hid (λW (hW:Below wr.heap.size wr W)=>HIH.out k hlt (hid p (.slice va k vc)) xe xc xa xk W (hX.keep (zg hW λ_ _ h=>h)) λj hj=>(ze.1 hj).elim (λh=>by have:=Hp.out j h;have:=hW.size;omega) λe=>by have:=(HVo.out j e).2;have:=hW.size;omega);subst hEa;have HLx:Hid (FL.take k++[F (s.args[k]'hlt)]=FL.take (k+1)):=by show _=_;rw[List.take_succ_eq_append_getElem (by rw[HFLl.out];exact hlt),HFLg.out k hlt]
    clear hsl hX gc g0 g1 g2 g3 g4 g5 g6 g7 g8;generalize (s.args[k]'hlt)=y at f0 f1 f2 f3 f4 f5 f6 f7 f8 HC HLx;rw[zK]at HC;generalize F y=fy at HC HLx;go_wp2_with fail;refine(HC.out _ zW).mono ?_;rintro e w5 ⟨⟨u,rfl,hr5⟩,hb5⟩;have hz5:=hb5.size;simp only[World.size_alloc]at hz5;have HB5:Hid (Below wr.heap.size wr w5):=((Below.refl wr.heap.size wr).alloc (Nat.le_refl _) _).trans (hb5.mono (by simp));have HO5:=Lib.hid (HO.out.below HB5.out);have HR5:=Lib.hid hr5;have hu5:u=.int .i64 fy:=(List.cons.inj hr5).1;subst hu5;clear hb5 f0 f1 f2 f3 f4 f5 f6 f7 f8;go_wp2_with (at_builtin;go_must (refine yr (E:=inE) zeO _ rfl (.tmp 19) (.tmp 23) rfl p (w.heap.size+1) _ rfl HO5.out fy _ HR5.out _ _ rfl rfl k HLk.out (by omega) (by omega) ?_));intro g9 cap9 w7 ho hg hat
    rw[HLx.out]at ho;have HO7:=Lib.hid ho;have HB7:Hid (Below w.heap.size w w7):=(HBr.out.trans (HB5.out.mono hzb)).grown hg (by omega) λq hq=>by have:=(HVo.out q hq).1;omega
    have HBx7:Hid (w7.heap[w.heap.size]? = some (xr s ae ce (some ⟨bE,oE,none⟩) cap)):=(hg.block _ (by omega) λe=>by have:=(HVo.out _ e.symm).1;omega).trans ((HB5.out.block _ hzr).trans HBx.out);clear ho hg hat HLx;go_wp2_with fail;go_roundw;case rel=>exact⟨k+1,by go_num,by omega,HO7.out,HBx7.out,HB7.out⟩
    case measure=>(simp[intOf];try omega)
   ·obtain rfl:k=s.args.length:=by omega
    have HOe:Hid (inE.Own 3 p wr w.heap.size (.slice va s.args.length vc) FL):=by have:=Zh HO.out (B':=w.heap.size) (by omega);rw[←HFLl.out,List.take_length]at this;rw[←HFLl.out];exact this
    obtain⟨b0,b1,b2,b3,b4,b5,b6,b7,b8⟩:=yI HBx.out;clear hsl;go_wp2_with (go_at_fn g;go_must (refine(HCl.out _ _ HOe.out HBr.out).mono ?_;rintro e w5 ⟨u,rfl,h5⟩;have HP5:=Lib.hid h5;clear h5));first|exact HP5.out|(go_ret;exact HP5.out)
theorem zeT (g:FuncId) (eg:∀args w,(callFunc g args).run Tryz.prog w=.ok (.enter g args) w) (F:Tq->List ByteArray) (hC:zec slE 43 g F) (s:Tq) :
 ∀(p:Nat->Bool) (ae:Option Addr) (ce:Nat) (a:Option Addr) (cap:Nat) (w:World),X4 (World.hide w p) s ae ce a cap->(∀j,p j=true->j<w.heap.size)->s.nodes<=1000000000 ->
  Calls Tryz.prog 259 #[xw s ae ce a cap,.func (.func g) #[] #[]] w (zap slE p (F s) w):=by
 induction s using Tq.ind with
 |h s ih =>
  intro p ae ce a cap w hX hp hn;have HIH:Hid (∀k (hk:k<s.args.length),∀(q:Nat->Bool) (ae:Option Addr) (ce:Nat) (a:Option Addr) (cap:Nat) (W:World),X4 (World.hide W q) (s.args[k]'hk) ae ce a cap->(∀j,q j=true->j<W.heap.size)->Calls Tryz.prog 259 #[xw (s.args[k]'hk) ae ce a cap,.func (.func g) #[] #[]] W (zap slE q (F (s.args[k]'hk)) W)):=λk hk q ae ce a cap W h1 h2=>ih _ (List.getElem_mem hk) q ae ce a cap W h1 h2 (Nat.le_trans (Nat.le_of_lt (xK (List.getElem_mem hk))) hn);have hlen:=hX.ar.2.1;have HA:=Lib.hid hX.ar;have HAd:Hid (s.args.length=0\/∃b off,a=some ⟨b,off,none⟩):=zw.addr hX.ar;have HCl:Hid (∀(v:Value) (W:World),slE.Own 43 p W w.heap.size v (s.args.map F)->Below w.heap.size w W->Calls Tryz.prog g #[xw s ae ce a cap,v] W λe w'=>∃u,e=.returned u/\zap slE p (F s) w (.returned u) w'):=λv W h1 h2=>(hC p w.heap.size s ae ce a cap v W h1 hp h2.size hn hlen).mono λe w' h=>by obtain⟨⟨u,h3,h4⟩,h5⟩:=h;exact⟨u,h3,⟨u,rfl,h4⟩,h2.trans h5⟩
  have Hp:=Lib.hid hp;clear hX hC hp ih hn;generalize zap slE p (F s) w=Po at HCl⊢;have HFLl:Hid ((s.args.map F).length=s.args.length):=List.length_map _;have HFLg:Hid (∀k (hk:k<s.args.length) (h:k<(s.args.map F).length),(s.args.map F)[k]'h=F (s.args[k]'hk)):=λk hk h=>List.getElem_map _;generalize s.args.map F=FL at HCl HFLl HFLg;obtain⟨cur,hcur,hmk⟩:=zjh zhs s.args.length hlen;rw[zK]at HCl⊢;go_enter Tryz.func259, Tryz.ntmps259;go_wp2_with fail;generalize hW2:World.alloc (World.alloc w _) _=W2;have hz2:w.heap.size+2<=W2.heap.size:=by rw[←hW2];simp
  have hz2b:W2.heap.size<=w.heap.size+2:=by rw[←hW2];simp
  have HB2:Hid (Below w.heap.size w W2):=by show Below _ _ _;rw[←hW2];exact((Below.refl _ _).alloc (Nat.le_refl _) _).alloc (by simp) _
  have HX2:Hid (W2.heap[w.heap.size]? = some (xr s ae ce a cap)):=by show _=_;rw[←hW2];exact zl (zh rfl)
  have HO2:Hid (slE.Own 43 p W2 (w.heap.size+1) (.slice (some ⟨w.heap.size+1,0,none⟩) 0 s.args.length) []):=by refine⟨[],?_,Enc.Vals.nil _⟩;rw[←hW2];have:=World.ownsRow_made (base:=w.heap.size+1) (e:=43) (size:=1) (w.alloc (xr s ae ce a cap)) cur s.args.length (by simp) (by unfold maxLen;omega) hcur;simp only[World.size_alloc]at this;exact this
  clear hW2 hcur hmk;obtain⟨-,-,-,-,-,-,-,-,b8⟩:=yI HX2.out;go_wp2_with fail;clear b8;go_loopw [15,5,7] (λi v _ wr=>∃(k:Nat),i=.int .i64 k/\k<=s.args.length/\Hid (slE.Own 43 p wr (w.heap.size+1) v (FL.take k))/\Hid (wr.heap[w.heap.size]? = some (xr s ae ce a cap))/\Hid (Below w.heap.size w wr)) (λi _ _ _=>s.args.length-(intOf i).toNat);case atStart=>exact⟨0,rfl,Nat.zero_le _,HO2,HX2,HB2⟩
  case round =>
   obtain⟨k,rfl,hk,HO,HBx,HBr⟩:=hrel;have hzr:=lt_of_block HBx.out;have hzb:=HBr.out.size;have HLk:Hid ((FL.take k).length=k):=List.length_take_of_le (by rw[HFLl.out];exact hk);obtain⟨va,vc,hv,hsl⟩:=HO.out.slice (by rw[HLk.out];omega);rw[HLk.out]at hv;subst hv;have HVo:Hid (∀q,(Value.slice va k vc).ownBlock=some q->w.heap.size+1<=q/\q<wr.heap.size):=zq HO.out;by_cases hlt:k<s.args.length
   ·obtain⟨bE,oE,hEa⟩:=HAd.out.resolve_left (by omega);have HKp:Hid (Kp (World.hide w p) (World.hide wr (hid p (.slice va k vc)))):=zg HBr.out λj hj hq=>(ze.1 hq).elim id λe=>by have:=(HVo.out j e).1;omega
    have HA':Hid (qX (World.hide w p) s.args (some ⟨bE,oE,none⟩) cap):=by show qX _ _ _ _;rw[←hEa];exact HA.out
    obtain⟨xe,xc,xa,xk,gc,hX⟩:=(qX.keep HKp.out HA'.out).get rfl hlt;obtain⟨g0,g1,g2,g3,g4,g5,g6,g7,g8⟩:=zay gc;have f0:=zc _ _ g0;have f1:=zc _ _ g1;have f2:=zc _ _ g2;have f3:=zc _ _ g3;have f4:=zc _ _ g4;have f5:=zc _ _ g5;have f6:=zc _ _ g6;have f7:=zc _ _ g7;have f8:=zc _ _ g8;have HC:=Lib.hid (λW (hW:Below wr.heap.size wr W)=>HIH.out k hlt (hid p (.slice va k vc)) xe xc xa xk W (hX.keep (zg hW λ_ _ h=>h)) λj hj=>(ze.1 hj).elim (λh=>by have:=Hp.out j h;have:=hW.size;omega) λe=>by have:=(HVo.out j e).2;have:=hW.size;omega);subst hEa;have HLx:Hid (FL.take k++[F (s.args[k]'hlt)]=FL.take (k+1)):=by show _=_;rw[List.take_succ_eq_append_getElem (by rw[HFLl.out];exact hlt),HFLg.out k hlt]
    clear hsl hX gc g0 g1 g2 g3 g4 g5 g6 g7 g8;generalize (s.args[k]'hlt)=y at f0 f1 f2 f3 f4 f5 f6 f7 f8 HC HLx;rw[zK]at HC;generalize F y=fy at HC HLx;go_wp2_with fail;refine(HC.out _ zW).mono ?_;rintro e w5 ⟨⟨u,rfl,hr5⟩,hb5⟩;have hz5:=hb5.size;simp only[World.size_alloc]at hz5;have HB5:Hid (Below wr.heap.size wr w5):=((Below.refl wr.heap.size wr).alloc (Nat.le_refl _) _).trans (hb5.mono (by simp));have HO5:=Lib.hid (HO.out.below HB5.out);have HR5:=Lib.hid hr5;obtain⟨xa9,xc9,hu9,-⟩:=hr5;have hu5:u=.slice xa9 fy.length xc9:=(List.cons.inj hu9).1;subst hu5;clear hb5 f0 f1 f2 f3 f4 f5 f6 f7 f8;go_wp2_with (at_builtin;go_must (refine yr (E:=slE) zhs _ rfl (.tmp 19) (.tmp 23) rfl p (w.heap.size+1) _ rfl HO5.out fy _ HR5.out _ _ rfl rfl k HLk.out (by omega) (by omega) ?_));intro g9 cap9 w7 ho hg hat
    rw[HLx.out]at ho;have HO7:=Lib.hid ho;have HB7:Hid (Below w.heap.size w w7):=(HBr.out.trans (HB5.out.mono hzb)).grown hg (by omega) λq hq=>by have:=(HVo.out q hq).1;omega
    have HBx7:Hid (w7.heap[w.heap.size]? = some (xr s ae ce (some ⟨bE,oE,none⟩) cap)):=(hg.block _ (by omega) λe=>by have:=(HVo.out _ e.symm).1;omega).trans ((HB5.out.block _ hzr).trans HBx.out);clear ho hg hat HLx;go_wp2_with fail;go_roundw;case rel=>exact⟨k+1,by go_num,by omega,HO7.out,HBx7.out,HB7.out⟩
    case measure=>(simp[intOf];try omega)
   ·obtain rfl:k=s.args.length:=by omega
    have HOe:Hid (slE.Own 43 p wr w.heap.size (.slice va s.args.length vc) FL):=by have:=Zh HO.out (B':=w.heap.size) (by omega);rw[←HFLl.out,List.take_length]at this;rw[←HFLl.out];exact this
    obtain⟨b0,b1,b2,b3,b4,b5,b6,b7,b8⟩:=yI HBx.out;clear hsl;go_wp2_with (go_at_fn g;go_must (refine(HCl.out _ _ HOe.out HBr.out).mono ?_;rintro e w5 ⟨u,rfl,h5⟩;have HP5:=Lib.hid h5;clear h5));first|exact HP5.out|(go_ret;exact HP5.out)
end Go.Proofs.YtnfkbliokjjggaaGreatDoor
