/- Comparing: cmp.Compare, cmp.Or; nfa.compareEnv, nfa.compare. -/
import Derived.Test.YthojpomoflhbcaaGreatDoorQ06
import Derived.Test.YthojpomoflhbcaaGreatDoorQSh
import Derived.Deep.RegionHeld3
import Derived.Deep.LoopGhost
set_option maxHeartbeats 4000000
set_option maxRecDepth 100000
set_option linter.unusedSimpArgs false
set_option linter.unusedVariables false
set_option linter.unnecessarySimpa false
namespace Go.Proofs.YthojpomoflhbcaaGreatDoor
open Go.RowKit
attribute [local go_sem ↓] Go.wp_at_zero Go.wp_at_succ
theorem Y2 {X:World} {a b:Value} {t:TypeId} {k:Nat} (h:k=X.heap.size):(X.alloc (.cells #[a,b] t)).cell? ⟨k,0,none⟩=some a/\(X.alloc (.cells #[a,b] t)).cell? ⟨k,1,none⟩=some b:=by subst h;have e:=zi X (.cells #[a,b] t);exact⟨by rw[zc e];rfl,by rw[zc e];rfl⟩
theorem QF {X:World} {a b:Value} {t:TypeId} {k:Nat} (h:k=X.heap.size):(X.alloc (.cells #[a,b] t)).drew.cell? ⟨k,0,none⟩=some a/\(X.alloc (.cells #[a,b] t)).drew.cell? ⟨k,1,none⟩=some b:=Y2 h
theorem Q3 (x:Int) (w:World):Calls Tryz.prog 163 #[.int .i64 x] w λe w'=>e=.returned (.bool false)/\w'=w:=by
 have h:(x != x)=false:=by simp
 go_enter Tryz.func163, Tryz.ntmps163;go_wp2_with fail;go_ret;exact⟨rfl,rfl⟩
theorem zek (x y:Int) (w:World):Calls Tryz.prog 104 #[.int .i64 x,.int .i64 y] w λe w'=>e=.returned (.int .i64 (Lib.compareInt x y))/\w'=w:=by
 by_cases h1:x<y
 ·have hv:Hid (Lib.compareInt x y=-1):=by show _=_;unfold Lib.compareInt;rw[if_pos h1]
  go_enter Tryz.func104, Tryz.ntmps104;go_wp2_with (go_at_call 163;refine(Q3 _ _).mono ?_;rintro e w1 ⟨rfl,rfl⟩);go_ret;exact⟨by rw[hv.out];rfl,rfl⟩
 ·by_cases h2:y<x
  ·have hv:Hid (Lib.compareInt x y=1):=by show _=_;unfold Lib.compareInt;rw[if_neg h1,if_pos h2]
   go_enter Tryz.func104, Tryz.ntmps104;go_wp2_with (go_at_call 163;refine(Q3 _ _).mono ?_;rintro e w1 ⟨rfl,rfl⟩);go_ret;exact⟨by rw[hv.out];rfl,rfl⟩
  ·have hv:Hid (Lib.compareInt x y=0):=by show _=_;unfold Lib.compareInt;rw[if_neg h1,if_neg h2]
   go_enter Tryz.func104, Tryz.ntmps104;go_wp2_with (go_at_call 163;refine(Q3 _ _).mono ?_;rintro e w1 ⟨rfl,rfl⟩);go_ret;exact⟨by rw[hv.out];rfl,rfl⟩
theorem zcf (x y:Int) (b:Nat) (w:World) (h0:w.cell? ⟨b,0,none⟩=some (.int .i64 x)) (h1:w.cell? ⟨b,1,none⟩=some (.int .i64 y)):Calls Tryz.prog 103 #[.slice (some ⟨b,0,none⟩) 2 2] w λe w'=>e=.returned (.int .i64 (orZ x y))/\w'=w:=by
 go_enter Tryz.func103, Tryz.ntmps103;go_wp2_with fail;go_loop [8,5] (λi _=>i=.int .i64 0\/(i=.int .i64 1/\Hid (x=0))\/(i=.int .i64 2/\Hid (x=0)/\Hid (y=0))) (λi _=>2-(intOf i).toNat);case atStart=>exact Or.inl rfl
 case round =>
  rcases hrel with rfl|⟨rfl,HX⟩|⟨rfl,HX,HY⟩
  ·by_cases hx:x=0
   ·have HX:=Lib.hid hx;have hxx:(x != 0)=false:=by simp[hx]
    clear hx;go_wp2_with fail;go_round;case rel=>exact Or.inr (Or.inl ⟨by go_num,HX.out⟩)
    case measure=>simp[intOf]
   ·have hv:Hid (orZ x y=x):=by show _=_;unfold orZ;rw[if_neg hx]
    have hxx:(x != 0)=true:=by simp[hx]
    clear hx;go_wp2_with fail;go_ret;exact⟨by rw[hv.out];rfl,rfl⟩
  ·have hv:Hid (orZ x y=y):=by show _=_;unfold orZ;rw[if_pos HX.out]
   by_cases hy:y=0
   ·have HY:=Lib.hid hy;have hyy:(y != 0)=false:=by simp[hy]
    clear hy hv;go_wp2_with fail;go_round;case rel=>exact Or.inr (Or.inr ⟨by go_num,HX.out,HY.out⟩)
    case measure=>simp[intOf]
   ·have hyy:(y != 0)=true:=by simp[hy]
    clear hy;go_wp2_with fail;go_ret;exact⟨by rw[hv.out];rfl,rfl⟩
  ·have hv:Hid (orZ x y=0):=by show _=_;unfold orZ;rw[if_pos HX.out,HY.out]
   go_wp2_with fail;go_ret;exact⟨by rw[hv.out];rfl,rfl⟩
theorem zgM (x y:Sg) (w:World):Calls Tryz.prog 165 #[.agg #[.string x.1,.int .i64 x.2],.agg #[.string y.1,.int .i64 y.2]] w λe w'=>e=.returned (.int .i64 (qp x y))/\Below w.heap.size w w':=by
 have hv:Hid (orZ (Zj x.1 y.1) (Lib.compareInt x.2 y.2)=qp x y):=rfl;have HS:Hid (∀W,Calls Tryz.prog 112 #[.string x.1,.string y.1] W λe w'=>e=.returned (.int .i64 (Zj x.1 y.1))/\w'=W):=λW=>Tryz.strings_Compare x.1 y.1 W;have HI:Hid (∀W,Calls Tryz.prog 104 #[.int .i64 x.2,.int .i64 y.2] W λe w'=>e=.returned (.int .i64 (Lib.compareInt x.2 y.2))/\w'=W):=λW=>zek x.2 y.2 W;have HO:Hid (∀b W,W.cell? ⟨b,0,none⟩=some (.int .i64 (Zj x.1 y.1))->W.cell? ⟨b,1,none⟩=some (.int .i64 (Lib.compareInt x.2 y.2))->Calls Tryz.prog 103 #[.slice (some ⟨b,0,none⟩) 2 2] W λe w'=>e=.returned (.int .i64 (qp x y))/\w'=W):=λb W h0 h1=>zcf _ _ b W h0 h1;clear hv;generalize qp x y=R at HO⊢;generalize Zj x.1 y.1=c1 at HS HO;generalize Lib.compareInt x.2 y.2=c2 at HI HO;go_enter Tryz.func165, Tryz.ntmps165;go_wp2_with fail
 go_region_with (first
  |(go_at_call 112;refine(HS.out _).mono ?_;rintro e w1 ⟨rfl,rfl⟩)
  |(go_at_call 104;refine(HI.out _).mono ?_;rintro e w1 ⟨rfl,rfl⟩)
  |(go_at_call 103;refine(HO.out _ _ (by first|exact(Y2 (by simp)).1|exact(QF (by simp)).1) (by first|exact(Y2 (by simp)).2|exact(QF (by simp)).2)).mono ?_;rintro e w1 ⟨rfl,rfl⟩))
 all_goals
  go_wp2_with fail;go_ret;exact⟨rfl,bel⟩
theorem zgL {α:Type} {c:α->α->Int}:∀{l m:List α} {k:Nat},k<=l.length->k<=m.length->(∀j (h1:j<l.length) (h2:j<m.length),j<k->c (l[j]'h1) (m[j]'h2)=0)->cmpL c l m=cmpL c (l.drop k) (m.drop k):=by
 intro l
 induction l with
 |nil =>
  intro m k h1 _ _;have h0:k=0:=by simpa using h1
  subst h0;simp
 |cons x l ih =>
  intro m k h1 h2 h;cases k with
  |zero=>simp
  |succ k =>
   cases m with
   |nil=>simp at h2
   |cons y m =>have h0:=h 0 (by simp) (by simp) (by omega);simp only[List.getElem_cons_zero]at h0;rw[cmpL,if_pos h0,List.drop_succ_cons,List.drop_succ_cons];refine ih (by simpa using h1) (by simpa using h2) λj a b hj=>?_;have:=h (j+1) (by simpa using a) (by simpa using b) (by omega);simpa using this
theorem ZP {w:World} {l:List Sg} {a:Option Addr} {cap:Nat} (h:zT w l a cap) {b off:Nat} (ha:a=some ⟨b,off,none⟩) {i:Nat} (hi:i<l.length):w.cell? ⟨b,off+i*2,none⟩=some (.string (l[i]'hi).1)/\w.cell? ⟨b,off+i*2+1,none⟩=some (.int .i64 (l[i]'hi).2):=zcY.1 ((Yo.2 h).get ha hi)
theorem zdr (l m:List Sg) (a b:Option Addr) (ca cb:Nat) (w:World) (hL:zT w l a ca) (hM:zT w m b cb) :
 Calls Tryz.prog 164 #[.slice a l.length ca,.slice b m.length cb,.func (.func 165) #[] #[]] w λe w'=>e=.returned (.int .i64 (zu l m))/\Below w.heap.size w w':=by
 have HL:=Lib.hid hL;have HM:=Lib.hid hM;have hll:=hL.2.1;have hml:=hM.2.1;have HLA:Hid (l.length=0\/∃b off,a=some ⟨b,off,none⟩):=zr.addr hL;have HMA:Hid (m.length=0\/∃b' off,b=some ⟨b',off,none⟩):=zr.addr hM;have HD:Hid (∀k,k<=l.length->k<=m.length->(∀j (h1:j<l.length) (h2:j<m.length),j<k->qp (l[j]'h1) (m[j]'h2)=0)->zu l m=cmpL qp (l.drop k) (m.drop k)):=λk h1 h2 h=>zgL h1 h2 h;clear hL hM;generalize zu l m=R at HD⊢;go_enter Tryz.func164, Tryz.ntmps164;go_wp2_with fail;go_loopw [13,7,8,9,10] (λi _ _ _ _ wr=>∃k:Nat,i=.int .i64 k/\k<=l.length/\k<=m.length/\Hid (∀j (h1:j<l.length) (h2:j<m.length),j<k->qp (l[j]'h1) (m[j]'h2)=0)/\Hid (Below w.heap.size w wr)) (λi _ _ _ _ _=>l.length-(intOf i).toNat);case atStart=>exact⟨0,rfl,Nat.zero_le _,Nat.zero_le _,λ_ _ _ h=>absurd h (by omega),Below.refl _ _⟩
 case round =>
  obtain⟨k,rfl,hk,hkm,HAl,HBr⟩:=hrel;have hzr:=HBr.out.size;by_cases hlt:k<l.length
  ·obtain⟨bl,ol,ha⟩:=HLA.out.resolve_left (by omega);subst ha;obtain⟨g0,g1⟩:=ZP HL.out rfl hlt;have c0:=za HBr.out _ _ g0;have c1:=za HBr.out _ _ g1;by_cases hltm:k<m.length
   ·obtain⟨bm,om,hb⟩:=HMA.out.resolve_left (by omega);subst hb;obtain⟨g2,g3⟩:=ZP HM.out rfl hltm;have c2:=za HBr.out _ _ g2;have c3:=za HBr.out _ _ g3;have d2:∀o,(wr.alloc o).cell? ⟨bm,om+k*2,none⟩=_:=λo=>Lib.cell?_alloc_some _ c2;have d3:∀o,(wr.alloc o).cell? ⟨bm,om+k*2+1,none⟩=_:=λo=>Lib.cell?_alloc_some _ c3;have HNx:Hid (qp (l[k]'hlt) (m[k]'hltm)=0->∀j (h1:j<l.length) (h2:j<m.length),j<k+1->qp (l[j]'h1) (m[j]'h2)=0):=λhv j h1 h2 hjk=>by
     by_cases e:j=k
     ·subst e;exact hv
     ·exact HAl.out j h1 h2 (by omega)
    have HYx:Hid (qp (l[k]'hlt) (m[k]'hltm)≠0->R=qp (l[k]'hlt) (m[k]'hltm)):=λh=>by rw[HD.out k hk hkm HAl.out,List.drop_eq_getElem_cons hlt,List.drop_eq_getElem_cons hltm,cmpL,if_neg h]
    have HC:Hid (∀W,Calls Tryz.prog 165 #[.agg #[.string (l[k]'hlt).1,.int .i64 (l[k]'hlt).2],.agg #[.string (m[k]'hltm).1,.int .i64 (m[k]'hltm).2]] W λe w'=>e=.returned (.int .i64 (qp (l[k]'hlt) (m[k]'hltm)))/\Below W.heap.size W w'):=λW=>zgM _ _ W;clear g0 g1 g2 g3;generalize (l[k]'hlt)=x at c0 c1 HNx HYx HC;generalize (m[k]'hltm)=y at c2 c3 d2 d3 HNx HYx HC;by_cases hc:qp x y=0
    ·have HAl2:=Lib.hid (HNx.out hc);have hcz:(qp x y != 0)=false:=by simp[hc]
     clear HNx HYx hc;generalize qp x y=cz at HC hcz;go_wp2_with (go_at_call 165;go_must (refine(HC.out _).mono ?_;rintro e w5 ⟨rfl,hb5⟩));have HB5:Hid (Below wr.heap.size wr w5):=(((Below.refl wr.heap.size wr).alloc (Nat.le_refl _) _).alloc sz _).trans (hb5.mono sz);go_roundw;case rel=>exact⟨k+1,by go_num,by omega,by omega,HAl2.out,HBr.out.trans (HB5.out.mono hzr)⟩
     case measure=>(simp[intOf];try omega)
    ·have hR:=Lib.hid (HYx.out hc);have hcz:(qp x y != 0)=true:=by simp[hc]
     clear HNx HYx hc;generalize qp x y=cz at HC hcz hR;go_wp2_with (go_at_call 165;go_must (refine(HC.out _).mono ?_;rintro e w5 ⟨rfl,hb5⟩));have HB5:Hid (Below wr.heap.size wr w5):=(((Below.refl wr.heap.size wr).alloc (Nat.le_refl _) _).alloc sz _).trans (hb5.mono sz);go_ret;exact⟨by rw[hR.out];rfl,HBr.out.trans (HB5.out.mono hzr)⟩
   ·obtain rfl:k=m.length:=by omega
    have hR:R=1:=by rw[HD.out m.length hk hkm HAl.out,List.drop_eq_getElem_cons hlt,List.drop_length];rfl
    subst hR;clear g0 g1;generalize (l[m.length]'hlt)=x at c0 c1;go_wp2_with fail;have HB5:Hid (Below wr.heap.size wr (wr.alloc (.cells #[.string x.1,.int .i64 x.2] 78))):=(Below.refl wr.heap.size wr).alloc (Nat.le_refl _) _;go_ret;exact⟨rfl,HBr.out.trans (HB5.out.mono hzr)⟩
  ·obtain rfl:k=l.length:=by omega
   have hR:=Lib.hid (HD.out l.length hk hkm HAl.out);by_cases hlm:l.length<m.length
   ·have hR2:R=-1:=by rw[hR.out,List.drop_length,List.drop_eq_getElem_cons hlm];rfl
    subst hR2;go_wp2_with fail;go_ret;exact⟨rfl,HBr.out⟩
   ·have hR2:R=0:=by rw[hR.out,List.drop_length,List.drop_eq_nil_of_le (by omega)];rfl
    subst hR2;go_wp2_with fail;go_ret;exact⟨rfl,HBr.out⟩
theorem zfm (l m:List Sg) (a b:Option Addr) (ca cb:Nat) (w:World) (hL:zT w l a ca) (hM:zT w m b cb) :
 Calls Tryz.prog 105 #[.slice a l.length ca,.slice b m.length cb] w λe w'=>e=.returned (.int .i64 (zu l m))/\Below w.heap.size w w':=by
 have HC:=Lib.hid (zdr l m a b ca cb w hL hM);clear hL hM;generalize zu l m=R at HC⊢;go_enter Tryz.func105, Tryz.ntmps105;go_wp2_with fail;refine HC.out.mono ?_;rintro e w1 ⟨rfl,hb⟩;have HB:=Lib.hid hb;clear hb;go_wp2_with fail;go_ret;exact⟨rfl,HB.out⟩
theorem zfn (x y:yU) (a b:Option Addr) (ca cb:Nat) (w:World) (hL:zT w x.env a ca) (hM:zT w y.env b cb) :
 Calls Tryz.prog 51 #[.agg #[.int .i64 x.state,.slice a x.env.length ca],.agg #[.int .i64 y.state,.slice b y.env.length cb]] w λe w'=>e=.returned (.int .i64 (zB x y))/\Below w.heap.size w w':=by
 have HE:Hid (∀W,Below w.heap.size w W->Calls Tryz.prog 105 #[.slice a x.env.length ca,.slice b y.env.length cb] W λe w'=>e=.returned (.int .i64 (zu x.env y.env))/\Below W.heap.size W w'/\Below w.heap.size w w'):=λW hW=>(zfm x.env y.env a b ca cb W (hL.keep (za hW)) (hM.keep (za hW))).mono λe w' h=>⟨h.1,h.2,hW.trans (h.2.mono hW.size)⟩;have HI:Hid (∀W,Calls Tryz.prog 104 #[.int .i64 x.state,.int .i64 y.state] W λe w'=>e=.returned (.int .i64 (Lib.compareInt x.state y.state))/\w'=W):=λW=>zek x.state y.state W;have HO:Hid (∀b W,W.cell? ⟨b,0,none⟩=some (.int .i64 (Lib.compareInt x.state y.state))->W.cell? ⟨b,1,none⟩=some (.int .i64 (zu x.env y.env))->Calls Tryz.prog 103 #[.slice (some ⟨b,0,none⟩) 2 2] W λe w'=>e=.returned (.int .i64 (zB x y))/\w'=W):=λb W h0 h1=>zcf _ _ b W h0 h1;clear hL hM;generalize zB x y=R at HO⊢;generalize zu x.env y.env=c1 at HE HO;generalize Lib.compareInt x.state y.state=c2 at HI HO;go_enter Tryz.func51, Tryz.ntmps51;go_wp2_with fail;generalize hW2:(w.alloc (.cells #[.int .i64 x.state,.slice a x.env.length ca] 49)).alloc (.cells #[.int .i64 y.state,.slice b y.env.length cb] 49)=W2;have hB2:Below w.heap.size w W2:=by rw[←hW2];exact((Below.refl _ _).alloc (Nat.le_refl _) _).alloc (by simp) _
 have HX:Hid (W2.heap[w.heap.size]? = some (.cells #[.int .i64 x.state,.slice a x.env.length ca] 49 (0,0))):=by show _=_;rw[←hW2];rw[Below.heap_alloc _ _ _ (by simp)];exact zq _ _ _ rfl
 have HY:Hid (W2.heap[w.heap.size+1]? = some (.cells #[.int .i64 y.state,.slice b y.env.length cb] 49 (0,0))):=by show _=_;rw[←hW2];exact zq _ _ _ (by simp)
 have hz2:w.heap.size+1<W2.heap.size:=by rw[←hW2];simp
 have hz2b:=hB2.size;have HALL:Hid (∀W,Below W2.heap.size W2 W->W.cell? ⟨w.heap.size,0,none⟩=some (.int .i64 x.state)/\W.cell? ⟨w.heap.size,1,none⟩=some (.slice a x.env.length ca)/\W.cell? ⟨w.heap.size+1,0,none⟩=some (.int .i64 y.state)/\W.cell? ⟨w.heap.size+1,1,none⟩=some (.slice b y.env.length cb)):=λW hW=>by
  have e1:=(hW.block w.heap.size (by omega)).trans HX.out;have e2:=(hW.block (w.heap.size+1) (by omega)).trans HY.out;refine⟨?_,?_,?_,?_⟩
  ·simp[World.cell?,e1]
  ·simp[World.cell?,e1]
  ·simp[World.cell?,e2]
  ·simp[World.cell?,e2]
 have HE2:Hid (∀W,Below W2.heap.size W2 W->Calls Tryz.prog 105 #[.slice a x.env.length ca,.slice b y.env.length cb] W λe w'=>e=.returned (.int .i64 c1)/\Below W.heap.size W w'/\Below W2.heap.size W2 w'):=λW hW=>(HE.out W (hB2.trans (hW.mono hz2b))).mono λe w' h=>⟨h.1,h.2.1,hW.trans (h.2.1.mono hW.size)⟩;have HB2:=Lib.hid hB2;obtain⟨b0,b1,b2,b3⟩:=HALL.out W2 (Below.refl _ _);clear hW2 HE hB2
 go_region_held3 (λw'=>Below W2.heap.size W2 w'/\w'.cell? ⟨w.heap.size,0,none⟩=some (.int .i64 x.state)/\w'.cell? ⟨w.heap.size,1,none⟩=some (.slice a x.env.length ca)/\w'.cell? ⟨w.heap.size+1,0,none⟩=some (.int .i64 y.state)/\w'.cell? ⟨w.heap.size+1,1,none⟩=some (.slice b y.env.length cb))
  ((refine(λh=>⟨h,HALL.out _ h⟩) ?_;first|assumption|exact bel))
  (first
   |(go_at_call 105;refine(HE2.out _ bel).mono ?_;rintro e w1 ⟨rfl,hb1,hB1⟩;have hs1:=hB1.size)
   |(go_at_call 104;refine(HI.out _).mono ?_;rintro e w1 ⟨rfl,rfl⟩)
   |(go_at_call 103;refine(HO.out _ _ (by first|exact(Y2 (by simp)).1|exact(QF (by simp)).1) (by first|exact(Y2 (by simp)).2|exact(QF (by simp)).2)).mono ?_;rintro e w1 ⟨rfl,rfl⟩))
 all_goals
  go_wp2_with fail;go_ret;refine⟨rfl,HB2.out.trans (Below.mono ?_ hz2b)⟩;exact bel
def LeB (o q:List Bool):Prop:=o.length=q.length/\∀k,o.getD k false=true->q.getD k false=true
theorem LeB.refl (o:List Bool):LeB o o:=⟨rfl,λ_ h=>h⟩
theorem LeB.trans {o q r:List Bool} (h:LeB o q) (h2:LeB q r):LeB o r:=⟨h.1.trans h2.1,λk hk=>h2.2 k (h.2 k hk)⟩
theorem LeB.antisymm {o q:List Bool} (h:LeB o q) (h2:LeB q o):o=q:=by refine List.ext_getElem h.1 λk hk hk'=>?_;have e1:=h.2 k;have e2:=h2.2 k;simp only[List.getD_eq_getElem?_getD,List.getElem?_eq_getElem hk,List.getElem?_eq_getElem hk',Option.getD_some]at e1 e2;cases h3:o[k]<;>cases h4:q[k]<;>simp_all
theorem QB {o:List Bool} {k j:Nat}:(o.set k true).getD j false=(o.getD j false||(decide (k=j)&&decide (j<o.length))):=by
 simp only[List.getD_eq_getElem?_getD,List.getElem?_set];by_cases h:k=j
 ·subst h;by_cases h2:k<o.length
  ·simp[h2]
  ·simp[h2,List.getElem?_eq_none (Nat.le_of_not_lt h2)]
 ·simp[h]
theorem QS (o:List Bool) (p:Nat×Nat):LeB o (yr o p):=by
 refine⟨(Qj o p).symm,λk hk=>?_⟩;unfold yr;split
 ·rw[QB,hk,Bool.true_or]
 ·exact hk
theorem QQ (l:List (Nat×Nat)):∀o,LeB o (l.foldl yr o):=by
 induction l with
 |nil=>exact LeB.refl
 |cons p l ih=>intro o;exact(QS o p).trans (ih _)
theorem zbr {l:List (Nat×Nat)}:∀{o:List Bool},zK l o=o->∀p∈l,yr o p=o:=by
 unfold zK
 induction l with
 |nil=>intro _ _ p hp;cases hp
 |cons q l ih =>
  intro o h p hp;rw[List.foldl_cons]at h;have h1:yr o q=o:=by have a:=QS o q;have b:=QQ l (yr o q);rw[h]at b;exact(a.antisymm b).symm
  rw[h1]at h;rcases List.mem_cons.1 hp with rfl|hp
  ·exact h1
  ·exact ih h p hp
inductive Rch (l:List (Nat×Nat)):Nat->Nat->Prop where
 |refl (s:Nat):Rch l s s
 |step {s t u:Nat} (h:Rch l s t) (hp:(t,u)∈l):Rch l s u
theorem Rch.head {l:List (Nat×Nat)} {s t u:Nat} (hp:(s,t)∈l) (h:Rch l t u):Rch l s u:=by
 induction h with
 |refl=>exact(Rch.refl s).step hp
 |step _ hq ih=>exact ih.step hq
theorem Rch.trans {l:List (Nat×Nat)} {s t u:Nat} (h:Rch l s t) (h2:Rch l t u):Rch l s u:=by
 induction h2 with
 |refl=>exact h
 |step _ hq ih=>exact ih.step hq
def Snd (l:List (Nat×Nat)) (o q:List Bool):Prop:=∀k,q.getD k false=true->∃s,o.getD s false=true/\Rch l s k
theorem zl0 {l:List (Nat×Nat)} {o q:List Bool} {p:Nat×Nat} (h:Snd l o q) (hp:p∈l):Snd l o (yr q p):=by
 intro k hk;unfold yr at hk;split at hk
 ·rename_i hc;rw[QB]at hk;simp only[Bool.and_eq_true]at hc;rw[Bool.or_eq_true]at hk;rcases hk with hk|hk
  ·exact h k hk
  ·simp only[Bool.and_eq_true,decide_eq_true_eq]at hk;obtain⟨s,h1,h2⟩:=h _ hc.1;exact⟨s,h1,by rw[←hk.1];exact h2.step hp⟩
 ·exact h k hk
theorem zj0 {l:List (Nat×Nat)} {o:List Bool}:∀(m:List (Nat×Nat)) (q:List Bool),(∀p∈m,p∈l)->Snd l o q->Snd l o (m.foldl yr q):=by
 intro m
 induction m with
 |nil=>intro q _ h;exact h
 |cons p m ih=>intro q hm h;exact ih _ (λx hx=>hm x (List.mem_cons_of_mem _ hx)) (zl0 h (hm p (List.mem_cons_self ..)))
theorem znz {l:List (Nat×Nat)} {o:List Bool}:∀(n:Nat) (q:List Bool),Snd l o q->Snd l o (xM l n q):=by
 intro n
 induction n with
 |zero=>intro q h;exact h
 |succ n ih=>intro q h;exact ih _ (zj0 l q (λ_ h=>h) h)
theorem zgJ (l:List (Nat×Nat)):∀n o,LeB o (xM l n o):=by
 intro n
 induction n with
 |zero=>exact LeB.refl
 |succ n ih=>intro o;exact(QQ l o).trans (ih _)
theorem zaN (l:List (Nat×Nat)) (o:List Bool):(ZS l o).length=o.length:=XP _ _ _
theorem zaM {l:List (Nat×Nat)} {o:List Bool} (hl:∀p∈l,p.2<o.length) (k:Nat):(ZS l o).getD k false=true<->∃s,o.getD s false=true/\Rch l s k:=by
 refine⟨λh=>znz _ _ (λk hk=>⟨k,hk,Rch.refl k⟩) k h,?_⟩;rintro ⟨s,h1,h2⟩;have hfix:=zbr (Xg l o.length o (QW o))
 induction h2 with
 |refl=>exact(zgJ l _ o).2 _ h1
 | @step t u h2 hp ih =>
  have h3:=hfix _ hp;unfold ZS at ih⊢;unfold yr at h3;by_cases hb:(xM l o.length o).getD u false=true
  ·exact hb
  ·have hc:((xM l o.length o).getD t false&&!(xM l o.length o).getD u false)=true:=by rw[ih];simpa using hb
   rw[if_pos hc]at h3;rw[←h3,QB];have hlt:=hl _ hp;simp only at hlt;simp[XP,hlt]
theorem Xs (st:Nat) (l:List Nat) (k:Nat):(zbH st l).getD k false=true<->k∈l/\k<st:=by
 unfold zbH;have:∀(o:List Bool),(l.foldl (λo s=>o.set s true) o).getD k false=true<->o.getD k false=true\/(k∈l/\k<o.length):=by
  induction l with
  |nil=>intro o;simp
  |cons a l ih =>
   intro o;rw[List.foldl_cons,ih,QB];simp only[Bool.or_eq_true,Bool.and_eq_true,decide_eq_true_eq,List.length_set,List.mem_cons];constructor
   ·rintro ((h|⟨rfl,h⟩)|⟨h,h2⟩)
    ·exact Or.inl h
    ·exact Or.inr ⟨Or.inl rfl,h⟩
    ·exact Or.inr ⟨Or.inr h,h2⟩
   ·rintro (h|⟨rfl|h,h2⟩)
    ·exact Or.inl (Or.inl h)
    ·exact Or.inl (Or.inr ⟨rfl,h2⟩)
    ·exact Or.inr ⟨h,h2⟩
 rw[this];simp only[List.length_replicate,List.getD_eq_getElem?_getD,List.getElem?_replicate];constructor
 ·rintro (h|h)
  ·split at h<;>simp at h
  ·exact h
 ·exact Or.inr
theorem zz {n:zm}:zY n=true<->(1<=n.states/\n.states<=256/\n.edges.length<=4096)/\(∀e∈n.edges,edgeOk n.states e=true)/\zb0 n.states n.accept n.accept.length=true:=by unfold zY;simp only[Bool.and_eq_true,decide_eq_true_eq,List.all_eq_true,and_assoc]
theorem yj {st:Int} {e:zn}:edgeOk st e=true<->(0<=e.fr/\e.fr<st/\0<=e.to/\e.to<st)/\(∀g∈e.guards,okX g=true)/\(∀b∈e.sets,zcI b=true):=by unfold edgeOk;simp only[Bool.and_eq_true,decide_eq_true_eq,List.all_eq_true,and_assoc]
theorem qM {st:Int} {l:List Int}:zb0 st l l.length=true<->(∀a∈l,0<=a/\a<st)/\l.Pairwise (·<·):=by
 have key:zb0 st l l.length=true<->∀i,i<l.length->0<=l.getD i 0/\l.getD i 0<st/\(0<i->l.getD (i-1) 0<l.getD i 0):=by unfold zb0;simp only[List.all_eq_true,List.mem_range,decide_eq_true_eq]
 rw[key];constructor
 ·intro h;refine⟨λa ha=>?_,?_⟩
  ·obtain⟨i,hi,rfl⟩:=List.getElem_of_mem ha;have:=h i hi;simp only[List.getD_eq_getElem?_getD,List.getElem?_eq_getElem hi,Option.getD_some]at this;exact⟨this.1,this.2.1⟩
  ·rw[List.pairwise_iff_getElem];intro i j hi hj hij;have step:∀d,i+d<l.length->l.getD i 0<=l.getD (i+d) 0:=by
    intro d
    induction d with
    |zero=>intro _;exact Int.le_refl _
    |succ d ih =>intro hd;have h1:=ih (by omega);have h2:=(h (i+d+1) (by omega)).2.2 (by omega);rw[show i+d+1-1=i+d by omega]at h2;rw[←Nat.add_assoc];omega
   have h1:=step (j-1-i) (by omega);have h2:=(h j hj).2.2 (by omega);rw[show i+(j-1-i)=j-1 by omega]at h1;simp only[List.getD_eq_getElem?_getD,List.getElem?_eq_getElem hi,List.getElem?_eq_getElem hj,Option.getD_some]at h1 h2;omega
 ·rintro ⟨h1,h2⟩ i hi;rw[List.pairwise_iff_getElem]at h2;simp only[List.getD_eq_getElem?_getD,List.getElem?_eq_getElem hi,Option.getD_some];refine⟨(h1 _ (List.getElem_mem hi)).1,(h1 _ (List.getElem_mem hi)).2,λh0=>?_⟩;have:=h2 (i-1) i (by omega) hi (by omega);rw[List.getElem?_eq_getElem (by omega)];exact this
theorem zkH {n:zm} (h:zY n=true):0<n.states.toNat:=by have:=(zz.1 h).1;omega
theorem zeX {n:zm} (h:zY n=true):∀p∈qh n,p.1<n.states.toNat/\p.2<n.states.toNat:=by intro p hp;obtain⟨e,he,rfl⟩:=List.mem_map.1 hp;have:=(yj.1 ((zz.1 h).2.1 e he)).1;constructor<;>simp only<;>omega
theorem zbn {n:zm} {s t:Nat}:(s,t)∈zff n<->(t,s)∈qh n:=by unfold zff qh;simp only[List.mem_map,Prod.mk.injEq];exact⟨λ⟨e,h,h1,h2⟩=>⟨e,h,h2,h1⟩,λ⟨e,h,h1,h2⟩=>⟨e,h,h2,h1⟩⟩
theorem zej {n:zm} {s t:Nat}:Rch (zff n) s t<->Rch (qh n) t s:=by
 constructor
 ·intro h
  induction h with
  |refl=>exact Rch.refl _
  |step _ hp ih=>exact ih.head (zbn.1 hp)
 ·intro h
  induction h with
  |refl=>exact Rch.refl _
  |step _ hp ih=>exact ih.head (zbn.2 hp)
theorem Z7 {n:zm} (h:zY n=true) (s:Nat):(zL n).getD s false=true<->Rch (qh n) 0 s:=by
 unfold zL;rw[zaM (by intro p hp;rw[Yf];exact(zeX h p hp).2)];constructor
 ·rintro ⟨q,h1,h2⟩;obtain⟨h3,_⟩:=(Xs _ _ _).1 h1;obtain rfl:=List.mem_singleton.1 h3;exact h2
 ·intro h2;exact⟨0,(Xs _ _ _).2 ⟨by simp,zkH h⟩,h2⟩
theorem zaK {n:zm} (h:zY n=true) (s:Nat):(zw n).getD s false=true<->∃q∈n.accept,Rch (qh n) s q.toNat:=by
 unfold zw;rw[zaM (by intro p hp;rw[Yf];exact(zeX h (p.2,p.1) (zbn.1 hp)).1)];have ha:=qM.1 (zz.1 h).2.2;constructor
 ·rintro ⟨q,h1,h2⟩;obtain⟨h3,_⟩:=(Xs _ _ _).1 h1;obtain⟨x,hx,rfl⟩:=List.mem_map.1 h3;exact⟨x,hx,zej.1 h2⟩
 ·rintro ⟨q,h1,h2⟩;have:=ha.1 q h1;exact⟨q.toNat,(Xs _ _ _).2 ⟨List.mem_map.2 ⟨q,h1,rfl⟩,by omega⟩,zej.2 h2⟩
section
variable {a b : List Bool}
theorem zhD {s t:Nat} (h:s<=t):yX a b s<=yX a b t:=by
 induction t with
 |zero =>obtain rfl:s=0:=Nat.le_zero.1 h;exact Nat.le_refl _
 |succ t ih =>
  rw[Xu];by_cases hs:s=t+1
  ·subst hs;rw[Xu];exact Nat.le_refl _
  ·have:=ih (by omega);omega
theorem YW {s t:Nat} (h:s<t) (hs:yM a b s=true):yX a b s<yX a b t:=by
 have h1:yX a b (s+1)=yX a b s+1:=by rw[Xu,if_pos hs]
 have h2:=zhD (a:=a) (b:=b) (show s+1<=t from h);omega
theorem zeE {s t:Nat} (hs:yM a b s=true) (ht:yM a b t=true) (h:yX a b s=yX a b t):s=t:=by
 rcases Nat.lt_trichotomy s t with h1|h1|h1
 ·have:=YW h1 hs;omega
 ·exact h1
 ·have:=YW h1 ht;omega
theorem zcx:yM a b 0=true:=by simp[yM]
theorem zcH:yX a b 0=0:=by simp[yX]
end
theorem zbz {n:zm} (h:zY n=true) {e:zn}:Qr (zL n) (zw n) e=true<->(Rch (qh n) 0 e.fr.toNat/\∃q∈n.accept,Rch (qh n) e.fr.toNat q.toNat)/\Rch (qh n) 0 e.to.toNat/\∃q∈n.accept,Rch (qh n) e.to.toNat q.toNat:=by unfold Qr;simp only[Bool.and_eq_true,Z7 h,zaK h,and_assoc]
theorem Xq {n:zm} (h:zY n=true) {s:Nat}:yM (zL n) (zw n) s=true<->s=0\/(Rch (qh n) 0 s/\∃q∈n.accept,Rch (qh n) s q.toNat):=by unfold yM;simp only[Bool.or_eq_true,Bool.and_eq_true,Z7 h,zaK h,beq_iff_eq]
theorem zio {n:zm} (h:zY n=true):zY (Zh n (zL n) (zw n))=true:=by
 obtain⟨⟨h1,h2,h3⟩,h4,h5⟩:=zz.1 h;have hp:=zkH h;rw[zz];refine⟨⟨?_,?_,?_⟩,?_,?_⟩
 ·have:=YW (a:=zL n) (b:=zw n) hp zcx;show (1:Int)<=(yX _ _ _:Nat);omega
 ·have:=zhC (zL n) (zw n) n.states.toNat
  show ((yX _ _ _:Nat):Int)<=256;omega
 ·show ((n.edges.filter _).map _).length<=4096;rw[List.length_map];exact Nat.le_trans (List.length_filter_le _ _) h3
 ·intro e he;obtain⟨e0,he0,rfl⟩:=List.mem_map.1 he;obtain⟨hm,hg⟩:=List.mem_filter.1 he0;have hok:=yj.1 (h4 e0 hm);have hgd:=(zbz h).1 hg;have k1:=YW (t:=n.states.toNat) (by omega) ((Xq h).2 (Or.inr hgd.1));have k2:=YW (t:=n.states.toNat) (by omega) ((Xq h).2 (Or.inr hgd.2));refine yj.2 ⟨⟨?_,?_,?_,?_⟩,hok.2⟩<;>simp only[zj5,Zh]<;>omega
 ·rw[qM]at h5⊢;refine⟨λx hx=>?_,?_⟩
  ·obtain⟨q,hq,rfl⟩:=List.mem_map.1 hx;obtain⟨hq,hk⟩:=List.mem_filter.1 hq;have:=h5.1 q hq;have k:=YW (t:=n.states.toNat) (by omega) hk;simp only[Zh];omega
  ·show ((n.accept.filter _).map _).Pairwise _;rw[List.pairwise_map];refine List.Pairwise.imp_of_mem ?_ (h5.2.filter _);intro x y hx hy hxy;obtain⟨hx,hk⟩:=List.mem_filter.1 hx;obtain⟨hy,_⟩:=List.mem_filter.1 hy;have:=h5.1 x hx;have:=h5.1 y hy;have:=YW (t:=y.toNat) (by omega) hk;omega
end Go.Proofs.YthojpomoflhbcaaGreatDoor
