/- nfa.line, nfa.Print. -/
import Derived.Test.YtnfkbliokjjggaaGreatDoorH47
import Derived.Test.YtnfkbliokjjggaaGreatDoorH10
import Derived.Test.YtnfkbliokjjggaaGreatDoorH27
import Derived.Test.YtnfkbliokjjggaaGreatDoorH13
import Derived.Test.YtnfkbliokjjggaaGreatDoorH48
import Derived.Test.YtnfkbliokjjggaaGreatDoorH18
import Derived.Laws.BytesArg
import Derived.Test.YtnfkbliokjjggaaGreatDoorH42
set_option maxHeartbeats 8000000
set_option maxRecDepth 100000
set_option linter.unusedSimpArgs false
set_option linter.unusedVariables false
set_option linter.unnecessarySimpa false
namespace Go.Proofs.YtnfkbliokjjggaaGreatDoor
open Go.RowKit
attribute [local go_sem ↓] Go.wp_at_zero Go.wp_at_succ
theorem zbm {w W:World} (hT:Lib.TabIs Tryz.prog w "internal/strconv.uint64pow10" .u64 Lib.pow10Tab) (hW:Below w.heap.size w W):Lib.TabIs Tryz.prog W "internal/strconv.uint64pow10" .u64 Lib.pow10Tab:=Go.Joins.tab_stays (g:=2) (by kernel_rfl) hT hW (Nat.le_refl _)
theorem zgz (wd:ByteArray) (l:List Int) (a:Option Addr) (c:Nat) (w:World) (h:IntsIn w l a c) (hn:zbR l) (hl:l.length<=100000) (hwd:wd.size<=1000) (hT:Lib.TabIs Tryz.prog w "internal/strconv.uint64pow10" .u64 Lib.pow10Tab) :
 Calls Tryz.prog 45 #[.string wd,.slice a l.length c] w (QL (xi wd l) w):=by
 have HI:=Lib.hid h;have HN:=Lib.hid hn;have HA:Hid (l.length=0\/∃b off,a=some ⟨b,off,none⟩):=zw.addr h;have HF:Hid (∀z,0<=z->z<=65535->∀W,Below w.heap.size w W->Calls Tryz.prog 106 #[.int .i64 z] W λe w'=>e=.returned (.string (fmtS z))/\Below W.heap.size W w'):=λz h0 h1 W hW=>zh3 w hT z h0 h1 W hW;have hsz:=YN hn wd;have HJo:Hid (∀W a c,zM W (wd::l.map fmtS) a c->Calls Tryz.prog 107 #[.slice a (l.length+1) c,.string ⟨#[32]⟩] W λe w'=>e=.returned (.string (y9 wd l))/\Below W.heap.size W w'):=λW a c h=>by
  have hl2:(wd::l.map fmtS).length=l.length+1:=by simp
  obtain⟨bk,o,hb⟩:=(zw.addr h).resolve_left (by rw[hl2];omega);subst hb;have h0:=h.get rfl (show 0<(wd::l.map fmtS).length by rw[hl2];omega);have:=Tryz.strings_Join bk o c (wd::l.map fmtS) ⟨#[32]⟩ W (λj x hj=>by
   have hjl:j<(wd::l.map fmtS).length:=by
    rcases Nat.lt_or_ge j (wd::l.map fmtS).length with h|h
    ·exact h
    ·rw[List.getElem?_eq_none h]at hj;simp at hj
   rw[List.getElem?_eq_getElem hjl]at hj;rw[←Option.some.inj hj];exact h.get rfl hjl) (by have:=World.block_lt_of_cell? _ _ h0;simpa using this) (by rw[hl2];omega) h.1 (by
    have h2:(Lib.join ((wd::l.map fmtS).map (·.data.toList)) [32]).length=(y9 wd l).size:=by rw[←QG];simp[ByteArray.size]
    show (Lib.join ((wd::l.map fmtS).map (·.data.toList)) [32]).length<=_;omega)
  rw[hl2]at this;have e:=QG wd l;refine this.mono λe2 w' h=>⟨?_,h.2⟩;rw[←e];exact h.1
 have HPo:Hid (∀W,Below w.heap.size w W->QL (xi wd l) w (.returned (.string (y9 wd l++⟨#[10]⟩))) W):=λW hW=>⟨rfl,hW⟩;generalize QL (xi wd l) w=Po at HPo⊢;generalize y9 wd l=S at HJo HPo hsz;obtain⟨T,hTT⟩:∃T:Nat->List ByteArray,∀k,wd::(l.take k).map fmtS=T k:=⟨_,λ_=>rfl⟩;have HT0:Hid (T 0=[wd]):=by show _=_;rw[←hTT];simp
 have HTs:Hid (∀k (h:k<l.length),T (k+1)=T k++[fmtS (l[k]'h)]):=λk h=>by rw[←hTT,←hTT,List.take_succ_eq_append_getElem h,List.map_append];rfl
 have HTl:Hid (∀k,k<=l.length->(T k).length=k+1):=λk h=>by rw[←hTT];simp;omega
 have HTe:Hid (T l.length=wd::l.map fmtS):=by show _=_;rw[←hTT,List.take_length]
 have hS1:¬9223372036854775807<S.size+1:=by omega
 clear h hn hT hTT;go_enter Tryz.func45, Tryz.ntmps45;go_wp2_with fail;have HO0:Hid (stE.Own 9 x9 (w.alloc (.cells #[.string wd] 9)) w.heap.size (.slice (some ⟨w.heap.size,0,none⟩) 1 1) (T 0)):=by show stE.Own _ _ _ _ _ _;rw[HT0.out];exact⟨[.string wd],⟨rfl,Or.inr ⟨w.heap.size,1,#[.string wd],rfl,Nat.le_refl _,zh rfl,Nat.le_refl _,by decide,rfl,rfl⟩⟩,Enc.Vals.one rfl⟩
 have HB0:Hid (Below w.heap.size w (w.alloc (.cells #[.string wd] 9))):=(Below.refl _ _).alloc (Nat.le_refl _) _;go_loopw [12,5,7] (λi u _ wr=>∃(k:Nat) (v:Value),i=.int .i64 k/\v=u/\k<=l.length/\Hid (stE.Own 9 x9 wr w.heap.size v (T k))/\Hid (Below w.heap.size w wr)) (λi _ _ _=>l.length-(intOf i).toNat);case atStart=>exact⟨0,_,rfl,rfl,Nat.zero_le _,HO0,HB0⟩
 case round =>
  (try rename World=>wr)
  obtain⟨k,v,rfl,rfl,hk,HO,HB⟩:=hrel;have hTk:=HTl.out k hk;obtain⟨va,vc,hv,hin⟩:=HO.out.slice (by rw[hTk];omega);rw[hTk]at hv;subst hv;by_cases hlt:k<l.length
  ·obtain⟨bl,ol,hal⟩:=HA.out.resolve_left (by omega);subst hal;have g0:=za HB.out _ _ (HI.out.get rfl hlt);rw[List.getD_eq_getElem?_getD,List.getElem?_eq_getElem hlt,Option.getD_some]at g0;have HTk:=Lib.hid (HTs.out k hlt);obtain⟨z0,z1⟩:=HN.out _ (List.getElem_mem hlt);have HTl0:=Lib.hid hTk;generalize (l[k]'hlt)=z at g0 HTk z0 z1;have HFz:=Lib.hid (HF.out z z0 z1 wr HB.out);have hzr:=HB.out.size;clear hin hTk;go_upto_region 5 with fail
   go_wp2_with (first
    |(go_at_call 106;go_must (refine HFz.out.mono ?_;rintro e v1 ⟨rfl,hb1⟩);have HO1:=Lib.hid (HO.out.below hb1);have HB1:=Lib.hid (HB.out.trans (hb1.mono hzr));have hz1:=HB1.out.size;clear hb1)
    |(at_builtin;go_must (refine yr (E:=stE) zeP _ rfl (.tmp 16) (.tmp 19) rfl x9 w.heap.size _ rfl HO1.out (fmtS z) [.string (fmtS z)] rfl _ _ rfl rfl (k+1) HTl0.out (by omega) hz1 ?_)))
   intro g7 cap7 w7 ho7 hg7 hat7;have HO7:Hid (stE.Own 9 x9 w7 w.heap.size (.slice (some ⟨g7,0,none⟩) (k+1+1) cap7) (T (k+1))):=by show stE.Own _ _ _ _ _ _;rw[HTk.out];exact ho7
   have HB7:Hid (Below w.heap.size w w7):=Zp HB1.out hg7 hz1 λj hj=>(zq HO1.out j hj).1;clear ho7 hg7 hat7;go_wp2_with fail;go_roundw;case rel=>exact⟨k+1,_,by go_num,rfl,by omega,HO7,HB7⟩
   case measure=>(simp[intOf];try omega)
  ·obtain rfl:k=l.length:=by omega
   rw[HTe.out]at hin;have HJ:=Lib.hid (HJo.out wr va vc (zcK.1 hin));clear hin hTk;go_wp2_with (go_at_call 107;go_must (refine HJ.out.mono ?_;rintro e w4 ⟨rfl,hb4⟩));have HE:=Lib.hid (HPo.out _ (HB.out.trans (hb4.mono HB.out.size)));first|exact HE.out|(go_ret;exact HE.out)
theorem zhm.below {B b:Nat} {p:Value} {bs:List Value} {w w':World} (h:zhm B b p bs w) (hb:Below w.heap.size w w'):zhm B b p bs w':=by obtain⟨hB,v,h1,h2,h3⟩:=h;exact⟨hB,v,(hb.block _ (lt_of_block h1)).trans h1,ownsRow_below h2 hb,h3⟩
theorem QI.below {B b:Nat} {bs:List Value} {w w':World} (h:QI B b bs w) (hb:Below w.heap.size w w'):QI B b bs w':=h.imp (λh=>zhm.below h hb) (λh=>zhm.below h hb)
theorem YU (a b:ByteArray):Lib.strCells (a++b)=Lib.strCells a++Lib.strCells b:=by simp[Lib.strCells,zcj]
theorem zcu {w:World} {b:Nat} {l:List Int} {t:TypeId} {z:Nat×Nat} (h:w.heap[b]? = some (.cells (l.map λx=>Value.int .i64 x).toArray t z)) (hl:l.length<=1073741824):IntsIn w l (some ⟨b,0,none⟩) l.length:=by refine⟨Nat.le_refl _,hl,Or.inr ⟨b,0,rfl,λi hi=>?_⟩⟩;refine⟨l[i]'hi,List.getElem?_eq_getElem hi,?_⟩;have:=zb h (0+i);simp only[Nat.zero_add,Nat.mul_one]at this⊢;rw[this,List.getElem?_toArray,List.getElem?_map,List.getElem?_eq_getElem hi];rfl
theorem zcC {n:zt} (hs:qT n) (hok:zC n=true) (k:Nat) (hk:k<=n.edges.length):(prK n k).size<=40+100*k:=by
 have hst:=(zA.1 hok).1
 induction k with
 |zero =>have:=Yf (l:=[n.states]) (λx hx=>by obtain rfl:=List.mem_singleton.1 hx;omega) ZT;have h6:ZT.size=6:=rfl;unfold prK;simp at this⊢;omega
 |succ k ih =>have h1:=ih (by omega);have he:=List.getElem_mem (show k<n.edges.length by omega);have h2:=(zZ.1 ((zA.1 hok).2.1 _ he)).1;have h3:=hs.2.2.2 _ he;have h4:=h3.gl;have h5:=h3.sl;have h6:=Yf (l:=edW (n.edges[k]'(by omega))) (λx hx=>by simp only[edW,List.mem_cons,List.not_mem_nil,or_false]at hx;rcases hx with rfl|rfl|rfl|rfl<;>omega) YY;have h7:YY.size=4:=rfl;have h8:(edW (n.edges[k]'(by omega))).length=4:=rfl;rw[zae n (by omega),ByteArray.size_append];omega
def zaq (s:ByteArray) (w:World) (e:Ending) (w':World):Prop:=e=.returned (.string s)/\Below w.heap.size w w'
theorem zed (n:zt) (x:qn) (w:World) (hG:qW w) (hT:Lib.TabIs Tryz.prog w "internal/strconv.uint64pow10" .u64 Lib.pow10Tab) (hx:yb w n x) (hs:qT n) :
 Calls Tryz.prog 16 #[ye n x] w (zaq (xX n) w):=by
 have HV:=Lib.hid λW (hW:Below w.heap.size w W)=>qA n x W (hG.below hW) (hx.keep (za hW)) hs.small;have HXE:=Lib.hid hx.es;have HXC:=Lib.hid hx.ac;have hel:=hs.2.1;have hal:=hs.2.2.1;have HEA:Hid (n.edges.length=0\/∃b off,x.ae=some ⟨b,off,none⟩):=hx.es.addr;have HL:Hid (∀wd l a c W,Below w.heap.size w W->IntsIn W l a c->zbR l->l.length<=100000->wd.size<=1000->Calls Tryz.prog 45 #[.string wd,.slice a l.length c] W λe w'=>e=.returned (.string (xi wd l))/\Below W.heap.size W w'):=λwd l a c W hW h1 h2 h3 h4=>zgz wd l a c W h1 h2 h3 h4 (zbm hT hW);have HNo:Hid (zC n=false->∀W,Below w.heap.size w W->zaq (xX n) w (.returned (.string ⟨#[]⟩)) W):=λh W hb=>⟨by unfold xX;rw[h];rfl,hb⟩;have HYes:Hid (zC n=true->∀W,Below w.heap.size w W->zaq (xX n) w (.returned (.string ⟨(prK n n.edges.length++xi yx n.accept).data.toList.toArray⟩)) W):=λh W hb=>⟨by unfold xX;rw[if_pos h,Array.toArray_toList],hb⟩;have HSm:=Lib.hid hs;generalize zaq (xX n) w=Po at HNo HYes⊢;clear hx hG hT hs;simp only[zz]at HV⊢;obtain⟨xae,xce,xaa,xca⟩:=x;simp only at HXE HXC HEA HV⊢;go_enter Tryz.func16, Tryz.ntmps16;go_upto_region 1 with fail;generalize hW2:World.alloc w _=W2;have HB2:Hid (Below w.heap.size w W2):=by show Below _ _ _;rw[←hW2];exact(Below.refl _ _).alloc (Nat.le_refl _) _
 have HX2:Hid (W2.heap[w.heap.size]? = some (xW n.states (.slice xae n.edges.length xce) (.slice xaa n.accept.length xca))):=by show _=_;rw[←hW2];exact zh rfl
 clear hW2;obtain⟨b0,b1,b2⟩:=zo HX2.out;go_wp2_with fail;refine(HV.out _ HB2.out).mono ?_;rintro e w3 ⟨rfl,hb3⟩;have HB3:Hid (Below w.heap.size w w3):=HB2.out.trans (hb3.mono HB2.out.size);have HX3:=Lib.hid ((hb3.block _ (lt_of_block HX2.out)).trans HX2.out);clear hb3 HX2 HB2 HV b0 b1 b2;cases hok:zC n with
 |false =>have HN:=Lib.hid (HNo.out hok);clear HYes HNo hok;go_wp2_with fail;first|exact HN.out _ HB3.out|(go_ret;exact HN.out _ HB3.out)
 |true =>
  have HY:=Lib.hid (HYes.out hok);have hst:=(zA.1 hok).1;have HSz:Hid (∀k,k<=n.edges.length->(prK n k).size<=40+100*k):=λk hk=>zcC HSm.out hok k hk;have HEd:Hid (∀e∈n.edges,zbR (edW e)):=λe he x hx=>by have h2:=(zZ.1 ((zA.1 hok).2.1 _ he)).1;have h3:=HSm.out.2.2.2 _ he;have h4:=h3.gl;have h5:=h3.sl;simp only[edW,List.mem_cons,List.not_mem_nil,or_false]at hx;rcases hx with rfl|rfl|rfl|rfl<;>omega
  have HAc:Hid (zbR n.accept):=λa ha=>by have:=((Z4.1 (zA.1 hok).2.2).1 a ha);omega
  have HAz:Hid ((xi yx n.accept).size<=7+22*60):=by have:=Yf HAc.out yx;have h6:yx.size=6:=rfl;show _<=_;omega
  have HNe:Hid ((prK n n.edges.length++xi yx n.accept).data.toList≠[]):=by
   show _≠_;rw[zcj];intro e;have:=congrArg List.length e;rw[List.length_append]at this;have h1:(xi yx n.accept).data.toList.length=(xi yx n.accept).size:=Array.length_toList;have h2:(xi yx n.accept).size=(y9 yx n.accept).size+1:=by unfold xi;rw[ByteArray.size_append];rfl
   simp at this;simp only[ByteArray.size]at h2;simp[this.2]at h2
  clear HYes HNo hok;obtain⟨b0,b1,b2⟩:=zo HX3.out;go_upto_region 4 with fail;generalize hW4:World.alloc w3 _=W4;have HB4:Hid (Below w3.heap.size w3 W4):=by show Below _ _ _;rw[←hW4];exact(Below.refl _ _).alloc (Nat.le_refl _) _
  have HS4:Hid (QI w3.heap.size w3.heap.size [] W4):=by show QI _ _ _ _;rw[←hW4];exact Or.inl ⟨Nat.le_refl _,.slice none 0 0,zh rfl,World.ownsRow_nil _ _ _ _,by simp[Value.ownBlock]⟩
  clear hW4;have HBw4:Hid (Below w.heap.size w W4):=HB3.out.trans (HB4.out.mono HB3.out.size);have hz4:=HB4.out.size;have HXr:Hid (∀W,Below w3.heap.size w3 W->W.cell? ⟨w.heap.size,0,none⟩=some (.int .i64 n.states)/\W.cell? ⟨w.heap.size,1,none⟩=some (.slice xae n.edges.length xce)/\W.cell? ⟨w.heap.size,2,none⟩=some (.slice xaa n.accept.length xca)):=λW hW=>zo ((hW.block _ (lt_of_block HX3.out)).trans HX3.out);obtain⟨b0,b1,b2⟩:=HXr.out W4 HB4.out
  have HL1:Hid (Calls Tryz.prog 45 #[.string ⟨#[115,116,97,116,101,115]⟩,.slice (some ⟨W4.heap.size,0,none⟩) 1 1] (W4.alloc (.cells #[.int .i64 n.states] 3)) λe w'=>e=.returned (.string (prK n 0))/\Below (W4.alloc (.cells #[.int .i64 n.states] 3)).heap.size (W4.alloc (.cells #[.int .i64 n.states] 3)) w') :=
   HL.out ZT [n.states] _ _ _ (HBw4.out.alloc HBw4.out.size _) (zcu (l:=[n.states]) (zh rfl) (by simp)) (λx hx=>by obtain rfl:=List.mem_singleton.1 hx;omega) (by simp) (by decide)
  have HW1:Hid (∀(bs:List Value) (s:ByteArray) W,QI w3.heap.size w3.heap.size bs W->bs.length+s.size<=1000000->w3.heap.size<=W.heap.size->Calls Tryz.prog 44 #[.pointer (some ⟨w3.heap.size,0,none⟩),.string s] W λe w'=>e=.returned (.tuple #[.int .i64 s.size,.nilIface])/\QI w3.heap.size w3.heap.size (bs++Lib.strCells s) w'/\Below w3.heap.size W w'):=λbs s W h1 h2 h3=>(zgR _ _ bs s W h1 (by omega) h3).mono λe w' h=>⟨h.1,Or.inr h.2.1,h.2.2.1⟩;have HW0:=Lib.hid (λW (hW:Below W4.heap.size W4 W)=>HW1.out [] (prK n 0) W (QI.below HS4.out hW) (by have:=HSz.out 0 (Nat.zero_le _);simp;omega) (by have:=hW.size;omega));have HB41:Hid (∀W,Below (W4.alloc (.cells #[.int .i64 n.states] 3)).heap.size (W4.alloc (.cells #[.int .i64 n.states] 3)) W->Below W4.heap.size W4 W):=λW hW=>((Below.refl _ _).alloc (Nat.le_refl _) _).trans (hW.mono (by simp));clear HS4
  go_wp2_with (first
   |(go_at_call 45;go_must (refine HL1.out.mono ?_;rintro e v1 ⟨rfl,hb1⟩);have hB1:=HB41.out _ hb1)
   |(go_at_call 44;go_must (refine(HW0.out _ hB1).mono ?_;rintro e v2 ⟨rfl,hs2,hb2⟩);have HB2:Hid (Below w3.heap.size w3 v2):=(HB4.out.trans (hB1.mono hz4)).trans hb2;obtain⟨b0,b1,b2⟩:=HXr.out v2 HB2.out))
  have HS2:Hid (QI w3.heap.size w3.heap.size (Lib.strCells (prK n 0)) v2):=by show QI _ _ _ _;simpa using hs2
  clear hs2 hb2 hB1 hb1 HL1 HW0 HB41 HB4 HBw4 hz4;go_loopw [17,5] (λi _ wr=>∃k:Nat,i=.int .i64 k/\k<=n.edges.length/\Hid (QI w3.heap.size w3.heap.size (Lib.strCells (prK n k)) wr)/\Hid (Below w3.heap.size w3 wr)) (λi _ _=>n.edges.length-(intOf i).toNat);case atStart=>exact⟨0,rfl,Nat.zero_le _,HS2,HB2⟩
  case round =>
   (try rename World=>wr)
   obtain⟨k,rfl,hk,HS,HB⟩:=hrel;have hsz:=HSz.out k hk;have hzr:=HB.out.size;have HBw:Hid (Below w.heap.size w wr):=HB3.out.trans (HB.out.mono HB3.out.size);by_cases hlt:k<n.edges.length
   ·obtain⟨bE,oE,hb⟩:=HEA.out.resolve_left (by omega);subst hb;obtain⟨yg,ycg,yS,ycs,g0,g1,g2,g3,-,-⟩:=yz (HXE.out.keep (za HBw.out)) rfl hlt;have HPs:=Lib.hid (zae n hlt);have HNm:=Lib.hid (HEd.out _ (List.getElem_mem hlt));generalize (n.edges[k]'hlt)=y at g0 g1 g2 g3 HPs HNm;go_upto_region 8 with fail;generalize hW5:World.alloc wr _=W5;have hB5:Below wr.heap.size wr W5:=by rw[←hW5];exact(Below.refl _ _).alloc (Nat.le_refl _) _
    have hy5:W5.heap[wr.heap.size]? = some (.cells #[.int .i64 y.fr,.int .i64 y.to,.slice yg y.guards.length ycg,.slice yS y.sets.length ycs] 77 (0,0)):=by rw[←hW5];exact zh rfl
    obtain⟨y0,y1,y2,y3,-⟩:=zR hy5;have hz5:=hB5.size
    have HL5:Hid (Calls Tryz.prog 45 #[.string ⟨#[101,100,103,101]⟩,.slice (some ⟨W5.heap.size,0,none⟩) 4 4] (W5.alloc (.cells #[.int .i64 y.fr,.int .i64 y.to,.int .i64 (y.guards.length:Nat),.int .i64 (y.sets.length:Nat)] 3)) λe w'=>e=.returned (.string (xi YY (edW y)))/\Below W5.heap.size W5 w') :=
     (HL.out YY (edW y) _ _ _ ((HBw.out.trans (hB5.mono HBw.out.size)).alloc (Nat.le_trans HBw.out.size hz5) _) (zcu (l:=edW y) (zh rfl) (by simp[edW])) HNm.out (by simp[edW]) (by decide)).mono λe w' h=>⟨h.1,((Below.refl _ _).alloc (Nat.le_refl _) _).trans (h.2.mono (by simp))⟩
    have hls:=Yf HNm.out YY;have hw4:YY.size=4:=rfl;have hl4:(edW y).length=4:=rfl;have HW5:=Lib.hid (λW (hW:Below W5.heap.size W5 W)=>HW1.out (Lib.strCells (prK n k)) (xi YY (edW y)) W (QI.below HS.out (hB5.trans (hW.mono hz5))) (by rw[Lib.strCells_length];omega) (by have:=hW.size;omega));have HB5:Hid (Below w3.heap.size w3 W5):=HB.out.trans (hB5.mono hzr);clear hW5 hB5 hy5 g0 g1 g2 g3 hls hw4 hl4;generalize xi YY (edW y)=LS at HL5 HW5 HPs
    go_wp2_with (first
     |(go_at_call 45;go_must (refine HL5.out.mono ?_;rintro e v1 ⟨rfl,hB1⟩))
     |(go_at_call 44;go_must (refine(HW5.out _ hB1).mono ?_;rintro e v2 ⟨rfl,hs2,hb2⟩)))
    have HS9:Hid (QI w3.heap.size w3.heap.size (Lib.strCells (prK n (k+1))) v2):=by show QI _ _ _ _;rw[HPs.out,YU];exact hs2
    have HB9:Hid (Below w3.heap.size w3 v2):=(HB5.out.trans (hB1.mono HB5.out.size)).trans hb2;clear hs2 hb2 hB1;go_roundw;case rel=>exact⟨k+1,by go_num,by omega,HS9,HB9⟩
    case measure=>(simp[intOf];try omega)
   ·obtain rfl:k=n.edges.length:=by omega
    obtain⟨b0,b1,b2⟩:=HXr.out wr HB.out
    have HLa:Hid (Calls Tryz.prog 45 #[.string ⟨#[97,99,99,101,112,116]⟩,.slice xaa n.accept.length xca] wr λe w'=>e=.returned (.string (xi yx n.accept))/\Below wr.heap.size wr w') :=
     HL.out yx n.accept _ _ _ HBw.out (HXC.out.keep (za HBw.out)) HAc.out (by omega) (by decide)
    have haz:=HAz.out;have HWa:=Lib.hid (λW (hW:Below wr.heap.size wr W)=>HW1.out (Lib.strCells (prK n n.edges.length)) (xi yx n.accept) W (QI.below HS.out hW) (by rw[Lib.strCells_length];omega) (by have:=hW.size;omega));have HStr:Hid (∀W,QI w3.heap.size w3.heap.size (Lib.strCells (prK n n.edges.length)++Lib.strCells (xi yx n.accept)) W->Calls Tryz.prog 46 #[.pointer (some ⟨w3.heap.size,0,none⟩)] W λe w'=>e=.returned (.string ⟨(prK n n.edges.length++xi yx n.accept).data.toList.toArray⟩)/\Below w3.heap.size W w'):=λW h=>by rw[←YU,Lib.strCells_eq]at h;exact zfz _ _ _ W h HNe.out
    clear haz
    go_wp2_with (first
     |(go_at_call 45;go_must (refine HLa.out.mono ?_;rintro e v1 ⟨rfl,hB1⟩))
     |(go_at_call 44;go_must (refine(HWa.out _ hB1).mono ?_;rintro e v2 ⟨rfl,hs2,hb2⟩))
     |(go_at_call 46;go_must (refine(HStr.out _ hs2).mono ?_;rintro e v3 ⟨rfl,hb3⟩)))
    have HE:=Lib.hid (HY.out _ (HB3.out.trans ((((HB.out.trans (hB1.mono hzr)).trans hb2).trans hb3).mono HB3.out.size)));first|exact HE.out|(go_ret;exact HE.out)
theorem zh4 (n:Nat):fmtS (n:Int)=⟨(Lib.decDigits n).toArray⟩:=by unfold fmtS Lib.itoa;rw[if_neg (by omega)];rfl
theorem zgh {n:Nat} (h:n<=65535):(Lib.decDigits n).length<=21:=by have:=Lib.itoa_length_le (n:Int) (by omega) (by omega);unfold Lib.itoa at this;rw[if_neg (by omega)]at this;exact this
theorem zeF {n:Nat} (h:n<10):Lib.decDigits n=[UInt8.ofNat (48+n % 10)]:=by rw[Lib.decDigits,dif_pos h,Nat.mod_eq_of_lt h]
theorem zhZ {n:Nat} (h:¬n<10):Lib.decDigits n=Lib.decDigits (n / 10)++[UInt8.ofNat (48+n % 10)]:=by rw[Lib.decDigits,dif_neg h]
theorem zil (c:Nat) (S:ByteArray):(strOfNums [(c:Int)]++S).data.toList=UInt8.ofNat c::S.data.toList:=by rw[ByteArray.data_append];simp[strOfNums]
theorem zgc {S:ByteArray} {l:List UInt8} (h:S.data.toList=l):S=⟨l.toArray⟩:=by rw[←h]
theorem zjP (W:World) (b:Nat) (j:Int) (h:W.cell? ⟨b,0,none⟩=some (.int .u8 j)):(convert 85 9 (.slice (some ⟨b,0,none⟩) 1 1)).run Tryz.prog W=.ok (.string (strOfNums [j])) W :=
 run_convert_bytes_arg W 85 5 Tryz.underlying85 Tryz.underlying5 b 0 1 1 [j] rfl (λj' hj=>by have hj0:j'=0:=(by omega);subst hj0;simpa using h) 9 Tryz.underlying9
theorem zbw (i:Nat) (hi:i<=65535) (w:World):Calls Tryz.prog 108 #[.int .i64 i] w λe w'=>e=.returned (.int .i64 (-(i:Int)))/\w=w':=by
 by_cases h:i=0
 ·subst h;go_enter Tryz.func108, Tryz.ntmps108;go_wp2_with fail;go_ret;exact⟨rfl,rfl⟩
 ·have hd:decide ((0:Int)<(i:Int))=true:=decide_eq_true (by omega);go_enter Tryz.func108, Tryz.ntmps108;go_wp2_with fail;go_ret;exact⟨rfl,rfl⟩
theorem zig (q:Nat):(-(q:Int)).tmod 10=-((q % 10:Nat):Int):=by rw[Int.neg_tmod,Int.tmod_eq_emod_of_nonneg (by omega)];omega
theorem zif (q:Nat):(-(q:Int)).tdiv 10=-((q / 10:Nat):Int):=by rw[Int.neg_tdiv,Int.tdiv_eq_ediv_of_nonneg (by omega)];omega
theorem zgN (n:Nat) (hn:n<=65535) (w:World):Calls Tryz.prog 47 #[.int .i64 n] w (QL (fmtS n) w):=by
 have hcv:=zjP;have HBl:=Lib.hid (zbw n hn w);have HP:Hid (∀S w',S.data.toList=Lib.decDigits n->Below w.heap.size w w'->QL (fmtS n) w (.returned (.string S)) w'):=λS w' h1 h2=>⟨by rw[zh4,zgc h1],h2⟩;generalize QL (fmtS n) w=Po at HP⊢;have hdl:=zgh hn;go_enter Tryz.func47, Tryz.ntmps47;go_wp2_with fail;refine HBl.out.mono ?_;rintro e w1 ⟨rfl,rfl⟩;go_wp2_with fail;go_loopw [3,4] (λs m wr=>∃(S:ByteArray) (q:Nat),s=.string S/\m=.int .i64 (-(q:Int))/\q<=65535/\Hid (Lib.decDigits n=Lib.decDigits q++S.data.toList)/\Hid (Below w.heap.size w wr)) (λ_ m _=>(-(intOf m)).toNat);case atStart=>exact⟨.empty,n,rfl,rfl,hn,(by show Lib.decDigits n=Lib.decDigits n++[];simp),Below.refl _ _⟩
 case round =>
  obtain⟨S,q,rfl,rfl,hq,HD,HB⟩:=hrel;have hS:S.size<=21:=by have h1:=congrArg List.length HD.out;rw[List.length_append]at h1;have h2:S.data.toList.length=S.size:=Array.length_toList;omega
  have hr:=zig q;have hd:=zif q;have hr10:q % 10<10:=Nat.mod_lt _ (by omega);have h48:(48:Int) - -((q % 10:Nat):Int)=((48+q % 10:Nat):Int):=by omega
  have HO:Hid ((strOfNums [((48+q % 10:Nat):Int)]++S).data.toList=UInt8.ofNat (48+q % 10)::S.data.toList):=zil _ _;by_cases hq10:q<10
  ·have hq0:q / 10=0:=by omega
   have HF:Hid ((strOfNums [((48+q % 10:Nat):Int)]++S).data.toList=Lib.decDigits n):=by show _=_;rw[HO.out,HD.out,zeF hq10];rfl
   rw[hq0]at hd;have hd0:(-(q:Int)).tdiv 10=0:=by rw[hd];rfl
   clear hd;have hcl:48+q % 10<58:=by omega
   generalize (48+q % 10)=cc at *;generalize ((q % 10:Nat):Int)=rr at *;have q1:¬9223372036854775807<1+S.size:=by omega
   have HPe:=Lib.hid (λW (hW:Below w.heap.size w W)=>HP.out _ W HF.out hW);have hnn:decide ((n:Int)<0)=false:=decide_eq_false (by omega);clear HO HF HP HD;go_wp2_with fail;first|exact HPe.out _ (HB.out.alloc HB.out.size _)|(go_ret;exact HPe.out _ (HB.out.alloc HB.out.size _))
  ·have HF:Hid (Lib.decDigits n=Lib.decDigits (q / 10)++(strOfNums [((48+q % 10:Nat):Int)]++S).data.toList):=by
    show _=_;rw[HO.out,HD.out,zhZ hq10];simp
   have hcl:48+q % 10<58:=by omega
   have hq1:1<=q / 10:=by omega
   have hq2:q / 10<q:=by omega
   generalize (48+q % 10)=cc at *;generalize ((q % 10:Nat):Int)=rr at *;generalize q / 10=qd at *;have hne:(-(qd:Int)==0)=false:=beq_eq_false_iff_ne.2 (by omega);have q1:¬9223372036854775807<1+S.size:=by omega
   clear HO HD;go_wp2_with fail;go_roundw;case rel=>exact⟨_,qd,rfl,rfl,by omega,HF,HB.out.alloc HB.out.size _⟩
   case measure=>(simp[intOf];try omega)
theorem zgO {z:Int} (h0:0<=z) (h1:z<=65535) (W:World):Calls Tryz.prog 47 #[.int .i64 z] W λe w'=>e=.returned (.string (fmtS z))/\Below W.heap.size W w':=by obtain⟨k,rfl⟩:=Int.eq_ofNat_of_zero_le h0;exact zgN k (by omega) W
theorem ze3 (s:ByteArray) (e:zk):((((((((s++(⟨#[101,100,103,101,32]⟩:ByteArray))++fmtS e.fr)++(⟨#[32]⟩:ByteArray))++fmtS e.to)++(⟨#[32]⟩:ByteArray))++fmtS (e.guards.length:Nat))++(⟨#[32]⟩:ByteArray))++fmtS (e.sets.length:Nat))++(⟨#[10]⟩:ByteArray)=s++xi YY (edW e):=by apply ByteArray.ext;apply Array.toList_inj.1;simp[xi,y9,edW,YY]
theorem zbJ (st:Int):((⟨#[115,116,97,116,101,115,32]⟩:ByteArray)++fmtS st)++(⟨#[10]⟩:ByteArray)=xi ZT [st]:=by apply ByteArray.ext;apply Array.toList_inj.1;simp[xi,y9,ZT]
theorem zdE (n:zt) (x:qn) (w:World) (hx:yb w n x) (hs:qT n) :
 Calls Tryz.prog 17 #[ye n x] w (zaq (xX n) w):=by
 have HV:=Lib.hid λW (hW:Below w.heap.size w W)=>ZM n x W (hx.keep (za hW)) hs.small;have HXE:=Lib.hid hx.es;have HXC:=Lib.hid hx.ac;have hel:=hs.2.1;have hal:=hs.2.2.1;have HEA:Hid (n.edges.length=0\/∃b off,x.ae=some ⟨b,off,none⟩):=hx.es.addr;have HCA:Hid (n.accept.length=0\/∃b off,x.aa=some ⟨b,off,none⟩):=zw.addr hx.ac;have HNo:Hid (zC n=false->∀W,Below w.heap.size w W->zaq (xX n) w (.returned (.string ⟨#[]⟩)) W):=λh W hb=>⟨by unfold xX;rw[h];rfl,hb⟩;have HYes:Hid (zC n=true->∀W,Below w.heap.size w W->zaq (xX n) w (.returned (.string ((prK n n.edges.length++y9 yx n.accept)++(⟨#[10]⟩:ByteArray)))) W):=λh W hb=>⟨by unfold xX;rw[if_pos h];unfold xi;rw[ByteArray.append_assoc],hb⟩;have HSm:=Lib.hid hs;have HF:Hid (∀z,0<=z->z<=65535->∀W,Calls Tryz.prog 47 #[.int .i64 z] W λe w'=>e=.returned (.string (fmtS z))/\Below W.heap.size W w'):=λz h0 h1 W=>zgO h0 h1 W;generalize zaq (xX n) w=Po at HNo HYes⊢;unfold yW at HV;clear hx hs;simp only[zz]at HV⊢;obtain⟨xae,xce,xaa,xca⟩:=x;simp only at HXE HXC HEA HCA HV⊢;go_enter Tryz.func17, Tryz.ntmps17;go_upto_region 1 with fail;generalize hW2:World.alloc w _=W2;have HB2:Hid (Below w.heap.size w W2):=by show Below _ _ _;rw[←hW2];exact(Below.refl _ _).alloc (Nat.le_refl _) _
 have HX2:Hid (W2.heap[w.heap.size]? = some (xW n.states (.slice xae n.edges.length xce) (.slice xaa n.accept.length xca))):=by show _=_;rw[←hW2];exact zh rfl
 clear hW2;obtain⟨b0,b1,b2⟩:=zo HX2.out;go_wp2_with fail;refine(HV.out _ HB2.out).mono ?_;rintro e w3 ⟨rfl,hb3⟩;have HB3:Hid (Below w.heap.size w w3):=HB2.out.trans (hb3.mono HB2.out.size);have HX3:=Lib.hid ((hb3.block _ (lt_of_block HX2.out)).trans HX2.out);clear hb3 HX2 HB2 HV b0 b1 b2;cases hok:zC n with
 |false =>have HN:=Lib.hid (HNo.out hok);clear HYes HNo hok;go_wp2_with fail;first|exact HN.out _ HB3.out|(go_ret;exact HN.out _ HB3.out)
 |true =>
  have HY:=Lib.hid (HYes.out hok);have hst:=(zA.1 hok).1;have HSz:Hid (∀k,k<=n.edges.length->(prK n k).size<=40+100*k):=λk hk=>zcC HSm.out hok k hk;have HEd:Hid (∀e∈n.edges,((0<=e.fr/\e.fr<=65535)/\0<=e.to/\e.to<=65535)/\e.guards.length<=10/\e.sets.length<=10):=λe he=>by have h2:=(zZ.1 ((zA.1 hok).2.1 _ he)).1;have h3:=HSm.out.2.2.2 _ he;have h4:=h3.gl;have h5:=h3.sl;omega
  have HAc:Hid (zbR n.accept):=λa ha=>by have:=((Z4.1 (zA.1 hok).2.2).1 a ha);omega
  have HXr:Hid (∀W,Below w3.heap.size w3 W->W.cell? ⟨w.heap.size,0,none⟩=some (.int .i64 n.states)/\W.cell? ⟨w.heap.size,1,none⟩=some (.slice xae n.edges.length xce)/\W.cell? ⟨w.heap.size,2,none⟩=some (.slice xaa n.accept.length xca)):=λW hW=>zo ((hW.block _ (lt_of_block HX3.out)).trans HX3.out);have HFs:=Lib.hid (HF.out n.states (by omega) (by omega) w3);have HLs:=Lib.hid (zbJ n.states);have hfs:=qI (n:=n.states) (by omega) (by omega);have HP0:Hid (prK n 0=xi ZT [n.states]):=by show _=_;unfold prK;simp
  rw[←HP0.out]at HLs;clear HYes HNo hok hst HP0;obtain⟨b0,b1,b2⟩:=HXr.out w3 (Below.refl _ _);generalize fmtS n.states=f0 at HFs HLs hfs;have q0:¬9223372036854775807<7+f0.size:=by omega
  have q1:¬9223372036854775807<7+f0.size+1:=by omega
  go_wp2_with (go_at_call 47;go_must (refine HFs.out.mono ?_;rintro e w4 ⟨rfl,hb4⟩));rw[HLs.out];have HB4:Hid (Below w3.heap.size w3 w4):=hb4;clear hb4 b0 b1 b2 q0 q1 HFs HLs hfs;go_loopw [4,3,5] (λi s _ wr=>∃k:Nat,i=.int .i64 k/\k<=n.edges.length/\s=.string (prK n k)/\Hid (Below w3.heap.size w3 wr)) (λi _ _ _=>n.edges.length-(intOf i).toNat);case atStart=>exact⟨0,rfl,Nat.zero_le _,rfl,HB4⟩
  case round =>
   (try rename World=>wr)
   obtain⟨k,rfl,hk,rfl,HB⟩:=hrel;have hsz:=HSz.out k hk;obtain⟨b0,b1,b2⟩:=HXr.out wr HB.out;by_cases hlt:k<n.edges.length
   ·obtain⟨bE,oE,hb⟩:=HEA.out.resolve_left (by omega);subst hb;obtain⟨yg,ycg,yS,ycs,g0,g1,g2,g3,-,-⟩:=yz (HXE.out.keep (za (HB3.out.trans (HB.out.mono HB3.out.size)))) rfl hlt;have HPs:=Lib.hid (zae n hlt);obtain⟨⟨⟨t0,t1⟩,t2,t3⟩,t4,t5⟩:=HEd.out _ (List.getElem_mem hlt);generalize (n.edges[k]'hlt)=y at g0 g1 g2 g3 HPs t0 t1 t2 t3 t4 t5;rw[←ze3]at HPs;go_upto_region 8 with fail;generalize hW5:World.alloc wr _=W5;have hB5:Below wr.heap.size wr W5:=by rw[←hW5];exact(Below.refl _ _).alloc (Nat.le_refl _) _
    have hy5:W5.heap[wr.heap.size]? = some (.cells #[.int .i64 y.fr,.int .i64 y.to,.slice yg y.guards.length ycg,.slice yS y.sets.length ycs] 77 (0,0)):=by rw[←hW5];exact zh rfl
    have HB5:Hid (Below w3.heap.size w3 W5):=HB.out.trans (hB5.mono HB.out.size);have HALL:Hid (∀W,Below W5.heap.size W5 W->W.cell? ⟨wr.heap.size,0,none⟩=some (.int .i64 y.fr)/\W.cell? ⟨wr.heap.size,1,none⟩=some (.int .i64 y.to)/\W.cell? ⟨wr.heap.size,2,none⟩=some (.slice yg y.guards.length ycg)/\W.cell? ⟨wr.heap.size,3,none⟩=some (.slice yS y.sets.length ycs)):=λW hW=>by obtain⟨y0,y1,y2,y3,-⟩:=zR ((hW.block _ (lt_of_block hy5)).trans hy5);exact⟨y0,y1,y2,y3⟩
    obtain⟨y0,y1,y2,y3⟩:=HALL.out W5 (Below.refl _ _);have HF1:Hid (∀W,Below W5.heap.size W5 W->Calls Tryz.prog 47 #[.int .i64 y.fr] W λe w'=>e=.returned (.string (fmtS y.fr))/\Below W5.heap.size W5 w'):=λW hW=>(HF.out _ t0 t1 W).mono λe w' h=>⟨h.1,hW.trans (h.2.mono hW.size)⟩;have HF2:Hid (∀W,Below W5.heap.size W5 W->Calls Tryz.prog 47 #[.int .i64 y.to] W λe w'=>e=.returned (.string (fmtS y.to))/\Below W5.heap.size W5 w'):=λW hW=>(HF.out _ t2 t3 W).mono λe w' h=>⟨h.1,hW.trans (h.2.mono hW.size)⟩;have HF3:Hid (∀W,Below W5.heap.size W5 W->Calls Tryz.prog 47 #[.int .i64 (y.guards.length:Nat)] W λe w'=>e=.returned (.string (fmtS (y.guards.length:Nat)))/\Below W5.heap.size W5 w'):=λW hW=>(HF.out _ (by omega) (by omega) W).mono λe w' h=>⟨h.1,hW.trans (h.2.mono hW.size)⟩;have HF4:Hid (∀W,Below W5.heap.size W5 W->Calls Tryz.prog 47 #[.int .i64 (y.sets.length:Nat)] W λe w'=>e=.returned (.string (fmtS (y.sets.length:Nat)))/\Below W5.heap.size W5 w'):=λW hW=>(HF.out _ (by omega) (by omega) W).mono λe w' h=>⟨h.1,hW.trans (h.2.mono hW.size)⟩;have z1:=qI (n:=y.fr) t0 t1;have z2:=qI (n:=y.to) t2 t3;have z3:=qI (n:=(y.guards.length:Nat)) (by omega) (by omega);have z4:=qI (n:=(y.sets.length:Nat)) (by omega) (by omega)
    have hBr5:Below W5.heap.size W5 W5:=Below.refl _ _;clear hW5 hB5 hy5 g0 g1 g2 g3 b0 b1 b2;generalize fmtS y.fr=f1 at HF1 HPs z1;generalize fmtS y.to=f2 at HF2 HPs z2;generalize fmtS (y.guards.length:Nat)=f3 at HF3 HPs z3;generalize fmtS (y.sets.length:Nat)=f4 at HF4 HPs z4;generalize prK n k=S at HPs hsz⊢;have q1:¬9223372036854775807<S.size+5:=by omega
    have q2:¬9223372036854775807<S.size+5+f1.size:=by omega
    have q3:¬9223372036854775807<S.size+5+f1.size+1:=by omega
    have q4:¬9223372036854775807<S.size+5+f1.size+1+f2.size:=by omega
    have q5:¬9223372036854775807<S.size+5+f1.size+1+f2.size+1:=by omega
    have q6:¬9223372036854775807<S.size+5+f1.size+1+f2.size+1+f3.size:=by omega
    have q7:¬9223372036854775807<S.size+5+f1.size+1+f2.size+1+f3.size+1:=by omega
    have q8:¬9223372036854775807<S.size+5+f1.size+1+f2.size+1+f3.size+1+f4.size:=by omega
    have q9:¬9223372036854775807<S.size+5+f1.size+1+f2.size+1+f3.size+1+f4.size+1:=by omega
    go_region_held3 (λW=>W.cell? ⟨wr.heap.size,0,none⟩=some (.int .i64 y.fr)/\W.cell? ⟨wr.heap.size,1,none⟩=some (.int .i64 y.to)/\W.cell? ⟨wr.heap.size,2,none⟩=some (.slice yg y.guards.length ycg)/\W.cell? ⟨wr.heap.size,3,none⟩=some (.slice yS y.sets.length ycs))
     ((refine HALL.out _ ?_;first|with_reducible assumption|exact zW))
     (first
      |(go_at_call 47;(with_reducible refine(HF1.out _ (by first|with_reducible assumption|exact zW)).mono ?_);rintro e v1 ⟨rfl,hb1⟩)
      |(go_at_call 47;(with_reducible refine(HF2.out _ (by first|with_reducible assumption|exact zW)).mono ?_);rintro e v2 ⟨rfl,hb2⟩)
      |(go_at_call 47;(with_reducible refine(HF3.out _ (by first|with_reducible assumption|exact zW)).mono ?_);rintro e v3 ⟨rfl,hb3⟩)
      |(go_at_call 47;(with_reducible refine(HF4.out _ (by first|with_reducible assumption|exact zW)).mono ?_);rintro e v4 ⟨rfl,hb4⟩))
    all_goals
     have HB9:Hid (Below w3.heap.size w3 v4):=HB5.out.trans (hb4.mono HB5.out.size);go_wp2_with fail;go_roundw;case rel=>exact⟨k+1,by go_num,by omega,by rw[HPs.out],HB9⟩
     case measure=>(simp[intOf];try omega)
   ·obtain rfl:k=n.edges.length:=by omega
    obtain⟨S,hS⟩:∃S,prK n n.edges.length=S:=⟨_,rfl⟩;rw[hS]at hsz HY⊢;have q1:¬9223372036854775807<S.size+6:=by omega
    obtain⟨T,hT⟩:∃T:Nat->ByteArray,∀m,S++y9 yx (n.accept.take m)=T m:=⟨_,λ_=>rfl⟩;have HT0:Hid (S++(⟨#[97,99,99,101,112,116]⟩:ByteArray)=T 0):=by show _=_;rw[←hT];rfl
    have HTs:Hid (∀m (h:m<n.accept.length),T (m+1)=T m++(⟨#[32]⟩:ByteArray)++fmtS (n.accept[m]'h)):=λm h=>by rw[←hT,←hT,List.take_succ_eq_append_getElem h];unfold y9;rw[List.foldl_append];simp only[List.foldl_cons,List.foldl_nil,ByteArray.append_assoc]
    have HTz:Hid (∀m,m<=n.accept.length->(T m).size<=20000):=λm hm=>by
     have:=YN (l:=n.accept.take m) (λx hx=>HAc.out x (List.mem_of_mem_take hx)) yx;have h6:yx.size=6:=rfl;have hl:(n.accept.take m).length<=60:=by rw[List.length_take];omega
     rw[←hT,ByteArray.size_append];omega
    have HTe:Hid (S++y9 yx n.accept=T n.accept.length):=by show _=_;rw[←hT,List.take_length]
    rw[HTe.out]at HY;clear hS hT HTe;go_wp2_with fail;rw[HT0.out];clear HT0 q1;go_loopw [6,3] (λi s wr=>∃m:Nat,i=.int .i64 m/\m<=n.accept.length/\s=.string (T m)/\Hid (Below w3.heap.size w3 wr)) (λi _ _=>n.accept.length-(intOf i).toNat);case atStart=>exact⟨0,rfl,Nat.zero_le _,rfl,HB⟩
    case round =>
     (try rename World=>wv)
     obtain⟨m,rfl,hm,rfl,HBv⟩:=hrel;have hTm:=HTz.out m hm;obtain⟨b0,b1,b2⟩:=HXr.out _ HBv.out;by_cases hlt2:m<n.accept.length
     ·obtain⟨bA,oA,ha⟩:=HCA.out.resolve_left (by omega);subst ha;have g0:=za (HB3.out.trans (HBv.out.mono HB3.out.size)) _ _ (HXC.out.get rfl hlt2);rw[List.getD_eq_getElem?_getD,List.getElem?_eq_getElem hlt2,Option.getD_some]at g0;have HTk:=Lib.hid (HTs.out m hlt2);obtain⟨z0,z1⟩:=HAc.out _ (List.getElem_mem hlt2);generalize (n.accept[m]'hlt2)=z at g0 HTk z0 z1;have zf:=qI z0 z1;have HFz:=Lib.hid (HF.out z z0 z1);generalize fmtS z=f1 at HTk zf HFz;generalize T m=U at hTm HTk⊢;have q1:¬9223372036854775807<U.size+1:=by omega
      have q2:¬9223372036854775807<U.size+1+f1.size:=by omega
      go_wp2_with (go_at_call 47;go_must (refine(HFz.out _).mono ?_;rintro e v1 ⟨rfl,hb1⟩));have HB9:Hid (Below w3.heap.size w3 v1):=HBv.out.trans (hb1.mono HBv.out.size);go_roundw;case rel=>exact⟨m+1,by go_num,by omega,by rw[HTk.out],HB9⟩
      case measure=>(simp[intOf];try omega)
     ·obtain rfl:m=n.accept.length:=by omega
      have q1:¬9223372036854775807<(T n.accept.length).size+1:=by omega
      have HE:=Lib.hid (HY.out _ (HB3.out.trans (HBv.out.mono HB3.out.size)));go_wp2_with fail;first|exact HE.out|(go_ret;exact HE.out)
end Go.Proofs.YtnfkbliokjjggaaGreatDoor
