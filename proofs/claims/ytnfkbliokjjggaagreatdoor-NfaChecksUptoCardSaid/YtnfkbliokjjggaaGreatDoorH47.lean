/- num.Format of small numbers. -/
import Derived.Test.YtnfkbliokjjggaaGreatDoorHSh
import Derived.Test.YtnfkbliokjjggaaGreatDoorH07
import Derived.Lib.ItoaNum
import Derived.Lib.ItoaLen
import Derived.Lib.AppendIntMem
import Derived.Lib.SmallJoins
import Derived.Test.YtnfkbliokjjggaaGreatDoorH09
import Derived.Lib.Join
import Derived.Lib.Builder
import Derived.Lib.AppendStr
import Derived.Lib.UnsafeStr
import Derived.Laws.Externs
import Derived.Test.YtnfkbliokjjggaaGreatDoorH40
import Derived.Deep.RegionHeld3
import Derived.BigQuiet
set_option maxHeartbeats 16000000
set_option maxRecDepth 100000
set_option linter.unusedSimpArgs false
set_option linter.unusedVariables false
set_option linter.unnecessarySimpa false
namespace Go.Proofs.YtnfkbliokjjggaaGreatDoor
open Go.RowKit
attribute [local go_sem ↓] Go.wp_at_zero Go.wp_at_succ
def fmtS (n:Int):ByteArray:=⟨(Lib.itoa n).toArray⟩
def QL (s:ByteArray) (w:World) (e:Ending) (w':World):Prop:=e=.returned (.string s)/\Below w.heap.size w w'
def FmtC (B:Nat) (w0:World) (n:Int):Prop:=∀W,Below B w0 W->Calls Tryz.prog 106 #[.int .i64 n] W (QL (fmtS n) W)
theorem zh3 (w:World) (hT:Lib.TabIs Tryz.prog w "internal/strconv.uint64pow10" .u64 Lib.pow10Tab) (n:Int) (h0:0<=n) (h1:n<=65535):FmtC w.heap.size w n:=by
 intro W hW;have hTW:Lib.TabIs Tryz.prog W "internal/strconv.uint64pow10" .u64 Lib.pow10Tab:=Go.Joins.tab_stays (g:=2) (by kernel_rfl) hT hW (Nat.le_refl _);have HI:Hid (Calls Tryz.prog 181 #[.int .i64 n] W λe w'=>e=.returned (.string (fmtS n))/\Below W.heap.size W w'):=(Tryz.strconv_Itoa n (by omega) (by omega) W hTW).mono λe w' h=>by obtain⟨h1,k,os,rfl⟩:=h;exact⟨h1,Lib.below_grow _ _ (Nat.le_refl _) _ _⟩
 have HP:Hid (∀w',Below W.heap.size W w'->QL (fmtS n) W (.returned (.string (fmtS n))) w'):=λw' h=>⟨rfl,h⟩;generalize QL (fmtS n) W=Po at HP⊢;generalize fmtS n=s at HI HP;clear hTW hW;go_enter Tryz.func106, Tryz.ntmps106;go_wp2_with fail;refine HI.out.mono ?_;rintro e w1 ⟨rfl,hb1⟩;have HPe:=Lib.hid (HP.out w1 hb1);clear hb1;go_wp2_with fail;first|exact HPe.out|(go_ret;exact HPe.out)
def y9 (wd:ByteArray) (l:List Int):ByteArray:=l.foldl (λs n=>s++(⟨#[32]⟩:ByteArray)++fmtS n) wd
def xi (wd:ByteArray) (l:List Int):ByteArray:=y9 wd l++⟨#[10]⟩
def edW (e:zk):List Int:=[e.fr,e.to,(e.guards.length:Nat),(e.sets.length:Nat)]
def ZT:ByteArray:=⟨#[115,116,97,116,101,115]⟩
def YY:ByteArray:=⟨#[101,100,103,101]⟩
def yx:ByteArray:=⟨#[97,99,99,101,112,116]⟩
def prK (n:zt) (k:Nat):ByteArray:=(n.edges.take k).foldl (λs e=>s++xi YY (edW e)) (xi ZT [n.states])
noncomputable def xX (n:zt):ByteArray:=if zC n then prK n n.edges.length++xi yx n.accept else .empty
theorem zae (n:zt) {k:Nat} (h:k<n.edges.length):prK n (k+1)=prK n k++xi YY (edW (n.edges[k]'h)):=by unfold prK;rw[List.take_succ_eq_append_getElem h,List.foldl_append];rfl
theorem zcj (a b:ByteArray):(a++b).data.toList=a.data.toList++b.data.toList:=by rw[ByteArray.data_append,Array.toList_append]
theorem zd3 (l:List Int):∀wd:ByteArray,(y9 wd l).data.toList=wd.data.toList++Lib.joinTail [32] (l.map λn=>(fmtS n).data.toList):=by
 induction l with
 |nil=>intro wd;simp[y9,Lib.joinTail]
 |cons n l ih =>intro wd;have h:=ih (wd++(⟨#[32]⟩:ByteArray)++fmtS n);unfold y9 at h⊢;rw[List.foldl_cons,h,zcj,zcj,List.append_assoc,List.append_assoc];congr 1
theorem QG (wd:ByteArray) (l:List Int):(⟨(Lib.join ((wd::l.map fmtS).map (·.data.toList)) [32]).toArray⟩:ByteArray)=y9 wd l:=by have h:=zd3 l wd;rw[List.map_cons,Lib.join_cons,List.map_map];rw[show (y9 wd l)=⟨(y9 wd l).data.toList.toArray⟩ by rw[Array.toArray_toList],h];rfl
def zbR (l:List Int):Prop:=∀x∈l,0<=x/\x<=65535
theorem qI {n:Int} (h0:0<=n) (h1:n<=65535):(fmtS n).size<=21:=by have:=Lib.itoa_length_le n (by omega) (by omega);unfold fmtS;simp only[ByteArray.size];simpa using this
theorem YN {l:List Int} (h:zbR l):∀wd:ByteArray,(y9 wd l).size<=wd.size+22*l.length:=by
 induction l with
 |nil=>intro wd;exact Nat.le_refl _
 |cons n l ih =>intro wd;have h1:=ih (λx hx=>h x (List.mem_cons_of_mem _ hx)) (wd++(⟨#[32]⟩:ByteArray)++fmtS n);have h2:=h n (List.mem_cons_self ..);have h3:=qI h2.1 h2.2;unfold y9 at h1⊢;rw[List.foldl_cons];simp only[ByteArray.size_append,List.length_cons]at h1⊢;have:(⟨#[32]⟩:ByteArray).size=1:=rfl;omega
theorem Yf {l:List Int} (h:zbR l) (wd:ByteArray):(xi wd l).size<=wd.size+22*l.length+1:=by have h1:=YN h wd;unfold xi;rw[ByteArray.size_append];have:(⟨#[10]⟩:ByteArray).size=1:=rfl;omega
abbrev zhm (B b:Nat) (p:Value) (bs:List Value) (w:World):Prop:=Lib.BuilderAt 87 5 B b p bs w
abbrev QI (B b:Nat) (bs:List Value) (w:World):Prop:=Lib.IsBuilder 87 5 B b bs w
theorem zhC:(Tryz.prog.info? 87).map (·.size)=some 2:=by kernel_rfl
theorem zje:liesAt Tryz.prog Tryz.prog.depth 87 (2 / Tryz.prog.cellsOf 87) 0 87 1=true:=by kernel_rfl
theorem ziy (b:Nat) (w:World) (h0:w.cell? ⟨b,0,none⟩=some (.pointer (some ⟨b,0,none⟩))) :
 Calls Tryz.prog 105 #[.pointer (some ⟨b,0,none⟩)] w λe w'=>e=.returned (.tuple #[])/\w'=w:=by
 obtain⟨j,hj,_⟩:=Option.map_eq_some_iff.1 zhC;go_enter Tryz.func105, Tryz.ntmps105;go_wp2;rw[Lib.run_neq_ptr_same w _ Tryz.underlying84 hj];go_wp2;go_end0;exact⟨rfl,rfl⟩
theorem zgQ (b:Nat) (w:World) (h0:w.cell? ⟨b,0,none⟩=some (.pointer none)) (hsh:w.shape? b=some (87,2)) (hfz:w.frozen? ⟨b,0,none⟩=false) :
 Calls Tryz.prog 105 #[.pointer (some ⟨b,0,none⟩)] w λe w'=>e=.returned (.tuple #[])/\w'=w.setCell ⟨b,0,none⟩ (.pointer (some ⟨b,0,none⟩)):=by
 obtain⟨j,hj,hjs⟩:=Option.map_eq_some_iff.1 zhC;go_enter Tryz.func105, Tryz.ntmps105;go_wp2;rw[Lib.run_to_unsafe w ⟨b,0,none⟩ Tryz.underlying84 Tryz.underlying235 hj (by rw[hjs];decide) hsh (Nat.zero_lt_succ 1)];simp only[Result.andThen];rw[Oper.upon_value];go_wp2;rw[run_callFunc_extern Tryz.func180 (by kernel_rfl) (by kernel_rfl) (by kernel_rfl) (e:=Extern.AbiNoEscape.same) (by kernel_rfl)];rw[Lib.run_noEscape];simp only[Result.andThen];rw[Oper.upon_value];go_wp2;rw[Lib.run_from_unsafe w ⟨b,0,none⟩ Tryz.underlying235 Tryz.underlying84 hj hsh zje];simp only[Result.andThen];rw[Oper.upon_value];go_wp2;go_end0;exact⟨rfl,rfl⟩
def zam (b:Nat) (w w':World):Prop:=∀k cs T z,w.heap[k]? = some (.cells cs T z)->T≠5->k≠b->w'.heap[k]? = some (.cells cs T z)
theorem zam.refl (b:Nat) (w:World):zam b w w:=λ_ _ _ _ h _ _=>h
theorem zam.trans {b:Nat} {w w' w'':World} (h:zam b w w') (h':zam b w' w''):zam b w w'':=λk cs T z h1 h2 h3=>h' k cs T z (h k cs T z h1 h2 h3) h2 h3
theorem zam.of_below {b:Nat} {w w':World} (h:Below w.heap.size w w'):zam b w w':=λk _ _ _ h1 _ _=>(h.block k (lt_of_block h1)).trans h1
theorem zam.of_set {b o:Nat} {v:Value} (w:World):zam b w (w.setCell ⟨b,o,none⟩ v):=λk _ _ _ h1 _ h3=>by rw[Below.heap_setCell _ _ _ _ h3];exact h1
theorem zam.of_own {b B n:Nat} {v:Value} {xs:List Value} {w w':World} (ho:w.ownsRow B 5 1 v n xs) (hg:w.grownBy w' v.ownBlock):zam b w w':=λk _ _ _ h1 h2 _=>(hg.block k (lt_of_block h1) (zv ho h1 h2)).trans h1
theorem zgP (B b:Nat) (bs:List Value) (w:World) (h:QI B b bs w) :
 Calls Tryz.prog 105 #[.pointer (some ⟨b,0,none⟩)] w λe w'=>e=.returned (.tuple #[])/\(zhm B b (.pointer (some ⟨b,0,none⟩)) bs w'/\Below B w w'/\zam b w w'):=by
 rcases h with h|h
 ·refine(zgQ b w h.cell0 h.shape h.frozen0).mono ?_;rintro e w' ⟨rfl,rfl⟩;exact⟨rfl,h.used _,(Below.refl B w).setCell (p:=⟨b,0,none⟩) h.1 _,zam.of_set w⟩
 ·refine(ziy b w h.cell0).mono ?_;rintro e w' ⟨rfl,rfl⟩;exact⟨rfl,h,Below.refl B _,zam.refl _ _⟩
theorem zgR (B b:Nat) (bs:List Value) (s:ByteArray) (w:World) (h:QI B b bs w) (hlen:bs.length+s.size<=140737488355328) (hBw:B<=w.heap.size) :
 Calls Tryz.prog 44 #[.pointer (some ⟨b,0,none⟩),.string s] w λe w'=>e=.returned (.tuple #[.int .i64 s.size,.nilIface])/\(zhm B b (.pointer (some ⟨b,0,none⟩)) (bs++Lib.strCells s) w'/\Below B w w'/\zam b w w'):=by
 have hi0:(Tryz.prog.info? 5).map (λi=>(i.zero,i.size,i.bytes))=some (some (.int .u8 0),1,1):=by kernel_rfl
 obtain⟨i0,hi,hz0,hz1,hz2⟩:=info_parts hi0;have HC:=Lib.hid (zgP B b bs w h);go_enter Tryz.func44, Tryz.ntmps44;go_wp2_with fail;refine HC.out.mono ?_;rintro e w1 ⟨rfl,h1,hb1,hf1⟩;have HF1:=Lib.hid hf1;clear hf1;obtain⟨hB,v,hbk,hown,hne⟩:=h1;have c0:w1.cell? ⟨b,0,none⟩=some (.pointer (some ⟨b,0,none⟩)):=by rw[Lib.cell_of_heap hbk];rfl
 have c1:w1.cell? ⟨b,1,none⟩=some v:=by rw[Lib.cell_of_heap hbk];rfl
 go_wp2_with (at_builtin;refine Lib.wpList_append_own_string _ rfl _ _ 85 9 rfl B 5 i0 Tryz.underlying85 Tryz.underlying9 hi hz0 hz1 hz2 _ _ _ rfl hown s rfl ?c3 ?c4 ?c5 ?_);case c3=>unfold maxLen;omega
 case c4=>omega
 case c5=>have:=hb1.size;omega
 intro v' w2 hown' hgrow _;have HF2:=Lib.hid (HF1.out.trans (zam.of_own (b:=b) hown hgrow));have hlt:b<w1.heap.size:=lt_of_block hbk;have hb2:w2.heap[b]? = some (.cells #[.pointer (some ⟨b,0,none⟩),v] 87 (0,0)):=by rw[hgrow.block b hlt (λe=>hne e.symm)];exact hbk
 have d0:w2.cell? ⟨b,0,none⟩=some (.pointer (some ⟨b,0,none⟩)):=by rw[Lib.cell_of_heap hb2];rfl
 have d1:w2.cell? ⟨b,1,none⟩=some v:=by rw[Lib.cell_of_heap hb2];rfl
 have f1:w2.frozen? ⟨b,1,none⟩=false:=Lib.frozen_of_heap hb2 1;obtain⟨ao,n',cap,rfl⟩:∃ao n' cap,v'=.slice ao n' cap:=by
  rcases hown'.2 with ⟨hv,_⟩|⟨g,cap,cur,hv,_⟩
  ·exact⟨_,_,_,hv⟩
  ·exact⟨_,_,_,hv⟩
 go_wp2_with fail;go_ret2;refine⟨rfl,?_,?_,HF2.out.trans (zam.of_set _)⟩
 ·exact Lib.BuilderAt.put (T:=87) (e:=5) hB hb2 (bs':=bs++Lib.strCells s) (by simpa [Lib.strCells_length] using hown') (by decide)
 ·exact(hb1.grown hgrow (by have:=hb1.size;omega) (λk hk=>(hown.lt k hk).1)).setCell (p:=⟨b,1,none⟩) hB _
theorem zfz (B b:Nat) (l:List UInt8) (w:World) (h:QI B b (Lib.byteCells l) w) (h0:l≠[]) :
 Calls Tryz.prog 46 #[.pointer (some ⟨b,0,none⟩)] w λe w'=>e=.returned (.string ⟨l.toArray⟩)/\Below B w w':=by
 obtain⟨p,hB,v,hbk,hown,hne⟩:∃p,zhm B b p (Lib.byteCells l) w:=by
  rcases h with h|h
  ·exact⟨_,h⟩
  ·exact⟨_,h⟩
 have hl0:l.length≠0:=by simpa using h0
 rw[Lib.byteCells_length]at hown;obtain⟨g,cap,cur,rfl,hbg,hg,hnc,hcm,hcs,htake⟩:∃g cap cur,v=.slice (some ⟨g,0,none⟩) l.length cap/\B<=g/\w.heap[g]? = some (.cells cur 5 (0,0))/\l.length<=cap/\cap<=maxLen/\cur.size=cap*1/\cur.toList.take (l.length*1)=Lib.byteCells l:=by
  rcases hown.2 with ⟨_,hz⟩|⟨g,cap,cur,hv,r⟩
  ·exact absurd hz hl0
  ·exact⟨g,cap,cur,hv,r⟩
 have c1:w.drew.cell? ⟨b,1,none⟩=some (.slice (some ⟨g,0,none⟩) l.length cap):=by have:w.drew.heap[b]? = some (.cells #[p,.slice (some ⟨g,0,none⟩) l.length cap] 87 (0,0)):=hbk;rw[Lib.cell_of_heap this];rfl
 have hSD:(Builtin.unsafeSliceData_ #[85] 169 #[.slice (some ⟨g,0,none⟩) l.length cap]).run Tryz.prog w.drew=.ok (.pointer (some ⟨g,0,none⟩)) w.drew :=
  Lib.run_unsafeSliceData_row _ _ _ _ _ _ (by omega)
 have hUS:(Builtin.unsafeString_ #[169, 3] 9 #[.pointer (some ⟨g,0,none⟩),.int .i64 l.length]).run Tryz.prog w.drew=.ok (.string ⟨l.toArray⟩) (w.drew.freeze ⟨g,0,none⟩ l.length):=by refine Lib.run_unsafeString_row w.drew 169 3 9 5 Tryz.underlying169 (by kernel_rfl) g cur.size (by have hg':w.drew.heap[g]? = some (.cells cur 5 (0,0)):=hg;simp[World.shape?,hg']) l h0 (by omega) (by unfold maxLen at hcm;omega) ?_;intro j x hx;have:=hown.cells (g:=g) rfl j (.int .u8 x.toNat) (by simp[Lib.byteCells,hx]);exact this
 go_enter Tryz.func46, Tryz.ntmps46;go_wp2;go_region;all_goals (go_wp2;go_ret;exact⟨rfl,Lib.below_freeze (Below.drew (Below.refl B w)) (p:=⟨g,0,none⟩) hbg _⟩)
theorem zhq {a b:zk}:a=b<->a.fr=b.fr/\a.to=b.to/\a.guards=b.guards/\a.sets=b.sets:=by
 obtain⟨a1,a2,a3,a4⟩:=a;obtain⟨b1,b2,b3,b4⟩:=b;constructor
 ·intro h;injection h with h1 h2 h3 h4;exact⟨h1,h2,h3,h4⟩
 ·rintro ⟨h1,h2,h3,h4⟩;simp only at h1 h2 h3 h4;rw[h1,h2,h3,h4]
theorem zeo {a b:xG}:a=b<->a.name=b.name/\a.expr=b.expr:=by
 obtain⟨a1,a2⟩:=a;obtain⟨b1,b2⟩:=b;constructor
 ·intro h;injection h with h1 h2;exact⟨h1,h2⟩
 ·rintro ⟨h1,h2⟩;simp only at h1 h2;rw[h1,h2]
theorem Zu {α:Type} {l l2:List α} {k:Nat} (hk:k<l.length) (hk2:k<l2.length) (h:∀j (hj:j<l.length) (hj2:j<l2.length),j<k->l[j]'hj=l2[j]'hj2) (he:l[k]'hk=l2[k]'hk2):∀j (hj:j<l.length) (hj2:j<l2.length),j<k+1->l[j]'hj=l2[j]'hj2:=by
 intro j hj hj2 h1;by_cases e:j=k
 ·subst e;exact he
 ·exact h j hj hj2 (by omega)
theorem Y8 {α:Type} {l l2:List α} {k:Nat} (hk:k<l.length) (hk2:k<l2.length) (h:¬l[k]'hk=l2[k]'hk2):¬l=l2:=by rintro rfl;exact h rfl
def zan (b:Bool) (w:World) (e:Ending) (w':World):Prop:=e=.returned (.bool b)/\Below w.heap.size w w'
theorem zbb (e f:zk) (ag:Option Addr) (cg:Nat) (aS:Option Addr) (cs:Nat) (bg:Option Addr) (dg:Nat) (bS:Option Addr) (ds:Nat) (w:World) (h1:exE.In w e.guards ag cg) (h2:bdE.In w e.sets aS cs) (h3:exE.In w f.guards bg dg) (h4:bdE.In w f.sets bS ds) :
 Calls Tryz.prog 39 #[yX e ag cg aS cs,yX f bg dg bS ds] w (zan (pB (e=f)) w):=by
 have HYes:Hid (e.fr=f.fr->e.to=f.to->e.guards=f.guards->e.sets=f.sets->∀W,Below w.heap.size w W->zan (pB (e=f)) w (.returned (.bool true)) W):=λa1 a2 a3 a4 W hW=>⟨by rw[Zj (zhq.2 ⟨a1,a2,a3,a4⟩)],hW⟩;have HNo:Hid (¬(e.fr=f.fr/\e.to=f.to/\e.guards=f.guards/\e.sets=f.sets)->∀W,Below w.heap.size w W->zan (pB (e=f)) w (.returned (.bool false)) W):=λh W hW=>⟨by rw[qh (λq=>h (zhq.1 q))],hW⟩;generalize zan (pB (e=f)) w=Po at HYes HNo⊢;have H1:=Lib.hid h1;have H2:=Lib.hid h2;have H3:=Lib.hid h3;have H4:=Lib.hid h4;have H1a:Hid (e.guards.length=0\/∃b off,ag=some ⟨b,off,none⟩):=h1.addr;have H2a:Hid (e.sets.length=0\/∃b off,aS=some ⟨b,off,none⟩):=h2.addr;have H3a:Hid (f.guards.length=0\/∃b off,bg=some ⟨b,off,none⟩):=h3.addr;have H4a:Hid (f.sets.length=0\/∃b off,bS=some ⟨b,off,none⟩):=h4.addr;have l1:=h1.len;have l2:=h2.len;have l3:=h3.len;have l4:=h4.len;unfold yX;clear h1 h2 h3 h4;obtain⟨ef,et,eg,es⟩:=e;obtain⟨ff,ft,fg,fs⟩:=f;simp only at HYes HNo H1 H2 H3 H4 H1a H2a H3a H4a l1 l2 l3 l4⊢;by_cases q1:ef=ff
 ·by_cases q2:et=ft
  ·by_cases q3:eg.length=fg.length
   ·by_cases q4:es.length=fs.length
    ·subst q1 q2;have d1:(ef != ef)=false:=by simp
     have d2:(et != et)=false:=by simp
     have d3:((eg.length:Int) != (fg.length:Int))=false:=by simp;omega
     have d4:((es.length:Int) != (fs.length:Int))=false:=by simp;omega
     have Q3:=Lib.hid q3;have Q4:=Lib.hid q4;clear q3 q4;go_enter Tryz.func39, Tryz.ntmps39;go_upto_region 3 with fail;generalize hW2:World.alloc (World.alloc w _) _=W2;have HB2:Hid (Below w.heap.size w W2):=by show Below _ _ _;rw[←hW2];exact((Below.refl _ _).alloc (Nat.le_refl _) _).alloc (by simp) _
     have HX2:Hid (W2.heap[w.heap.size]? = some (.cells #[.int .i64 ef,.int .i64 et,.slice ag eg.length cg,.slice aS es.length cs] 77 (0,0))):=by show _=_;rw[←hW2];exact zl (zh rfl)
     have HY2:Hid (W2.heap[w.heap.size+1]? = some (.cells #[.int .i64 ef,.int .i64 et,.slice bg fg.length dg,.slice bS fs.length ds] 77 (0,0))):=by show _=_;rw[←hW2];exact zh (by simp)
     have hz2:w.heap.size+2<=W2.heap.size:=by rw[←hW2];simp
     have HALL:Hid (∀W,Below W2.heap.size W2 W->W.cell? ⟨w.heap.size,2,none⟩=some (.slice ag eg.length cg)/\W.cell? ⟨w.heap.size+1,2,none⟩=some (.slice bg fg.length dg)/\W.cell? ⟨w.heap.size,3,none⟩=some (.slice aS es.length cs)/\W.cell? ⟨w.heap.size+1,3,none⟩=some (.slice bS fs.length ds)):=λW hW=>by obtain⟨-,-,a2,a3,-⟩:=zR ((hW.block _ (by omega)).trans HX2.out);obtain⟨-,-,c2,c3,-⟩:=zR ((hW.block _ (by omega)).trans HY2.out);exact⟨a2,c2,a3,c3⟩
     clear hW2 d1 d2 d3 d4;go_wp2_with fail;go_loopw [5] (λi wr=>∃k:Nat,i=.int .i64 k/\k<=eg.length/\Hid (∀j (hj:j<eg.length) (hj2:j<fg.length),j<k->eg[j]'hj=fg[j]'hj2)/\Hid (Below W2.heap.size W2 wr)) (λi _=>eg.length-(intOf i).toNat);case atStart=>exact⟨0,rfl,Nat.zero_le _,λ_ _ _ h=>absurd h (Nat.not_lt_zero _),Below.refl _ _⟩
     case round =>
      (try rename World=>wr)
      obtain⟨k,rfl,hk,HAl,HB⟩:=hrel;have HBw:Hid (Below w.heap.size w wr):=HB2.out.trans (HB.out.mono HB2.out.size);have hzr:=HB.out.size;obtain⟨x2,y2,x3,y3⟩:=HALL.out wr HB.out;by_cases hlt:k<eg.length
      ·have hltb:k<fg.length:=by have:=Q3.out;omega
       have hltI:(k:Int)<(eg.length:Int):=by omega
       have hltJ:(k:Int)<(fg.length:Int):=by omega
       obtain⟨p1,o1,ha1⟩:=H1a.out.resolve_left (by omega);obtain⟨p2,o2,ha2⟩:=H3a.out.resolve_left (by omega);subst ha1 ha2;obtain⟨ax,cx,g0,g1,g2,g3,hX⟩:=Zc (H1.out.keep (za HBw.out)) rfl hlt;obtain⟨ay,cy,m0,m1,m2,m3,hY⟩:=Zc (H3.out.keep (za HBw.out)) rfl hltb;have HNx:=Lib.hid (λhe=>Zu hlt hltb HAl.out he);have HNn:Hid (¬(eg[k]'hlt=fg[k]'hltb)->∀W,Below w.heap.size w W->Po (.returned (.bool false)) W):=λh=>HNo.out λq=>Y8 hlt hltb h q.2.2.1;generalize (eg[k]'hlt)=u at HNx HNn g0 g1 g2 g3 hX;generalize (fg[k]'hltb)=v at HNx HNn m0 m1 m2 m3 hY;have HS:Hid (∀W,Below wr.heap.size wr W->Calls Tryz.prog 99 #[.agg #[.int .i64 u.op,.int .i64 u.n,.string u.name,.slice ax u.args.length cx],.agg #[.int .i64 v.op,.int .i64 v.n,.string v.name,.slice ay v.args.length cy]] W λe w'=>e=.returned (.bool (pB (u=v)))/\Below wr.heap.size wr w'):=λW hW=>(Qz u v ax cx ay cy W (hX.keep (za hW)) (hY.keep (za hW))).mono λe w' h=>⟨h.1,hW.trans (h.2.mono hW.size)⟩;have HC:Hid (∀W,Below wr.heap.size wr W->(W.cell? ⟨w.heap.size,2,none⟩=some (.slice (some ⟨p1,o1,none⟩) eg.length cg)/\W.cell? ⟨w.heap.size+1,2,none⟩=some (.slice (some ⟨p2,o2,none⟩) fg.length dg))/\(W.cell? ⟨p1,o1+k*4,none⟩=some (.int .i64 u.op)/\W.cell? ⟨p1,o1+k*4+1,none⟩=some (.int .i64 u.n)/\W.cell? ⟨p1,o1+k*4+2,none⟩=some (.string u.name)/\W.cell? ⟨p1,o1+k*4+3,none⟩=some (.slice ax u.args.length cx))/\(W.cell? ⟨p2,o2+k*4,none⟩=some (.int .i64 v.op)/\W.cell? ⟨p2,o2+k*4+1,none⟩=some (.int .i64 v.n)/\W.cell? ⟨p2,o2+k*4+2,none⟩=some (.string v.name)/\W.cell? ⟨p2,o2+k*4+3,none⟩=some (.slice ay v.args.length cy))):=λW hW=>⟨⟨za hW _ _ x2,za hW _ _ y2⟩,⟨za hW _ _ g0,za hW _ _ g1,za hW _ _ g2,za hW _ _ g3⟩,za hW _ _ m0,za hW _ _ m1,za hW _ _ m2,za hW _ _ m3⟩
       clear hX hY HAl;by_cases huv:u=v
       ·have HE:=Lib.hid (HNx.out huv);rw[Zj huv]at HS;clear HNx HNn huv;go_wp2_with fail
        go_region_held3 (λW=>Below wr.heap.size wr W/\((W.cell? ⟨w.heap.size,2,none⟩=some (.slice (some ⟨p1,o1,none⟩) eg.length cg)/\W.cell? ⟨w.heap.size+1,2,none⟩=some (.slice (some ⟨p2,o2,none⟩) fg.length dg))/\(W.cell? ⟨p1,o1+k*4,none⟩=some (.int .i64 u.op)/\W.cell? ⟨p1,o1+k*4+1,none⟩=some (.int .i64 u.n)/\W.cell? ⟨p1,o1+k*4+2,none⟩=some (.string u.name)/\W.cell? ⟨p1,o1+k*4+3,none⟩=some (.slice ax u.args.length cx))/\(W.cell? ⟨p2,o2+k*4,none⟩=some (.int .i64 v.op)/\W.cell? ⟨p2,o2+k*4+1,none⟩=some (.int .i64 v.n)/\W.cell? ⟨p2,o2+k*4+2,none⟩=some (.string v.name)/\W.cell? ⟨p2,o2+k*4+3,none⟩=some (.slice ay v.args.length cy))))
         ((refine(λh=>⟨h,HC.out _ h⟩) ?_;first|with_reducible assumption|exact zW))
         (first|(go_at_call 99;(with_reducible refine(HS.out _ (by first|with_reducible assumption|exact zW)).mono ?_);rintro e w5 ⟨rfl,hb5⟩))
        all_goals
         have HB9:Hid (Below W2.heap.size W2 w5):=HB.out.trans (Below.mono hb5 hzr);clear hb5;go_wp2_with fail;go_roundw;case rel=>exact⟨k+1,by go_num,by omega,HE.out,HB9.out⟩
         case measure=>(simp[intOf];try omega)
       ·have HE:=Lib.hid (HNn.out huv);rw[qh huv]at HS;clear HNx HNn huv;go_wp2_with fail
        go_region_held3 (λW=>Below wr.heap.size wr W/\((W.cell? ⟨w.heap.size,2,none⟩=some (.slice (some ⟨p1,o1,none⟩) eg.length cg)/\W.cell? ⟨w.heap.size+1,2,none⟩=some (.slice (some ⟨p2,o2,none⟩) fg.length dg))/\(W.cell? ⟨p1,o1+k*4,none⟩=some (.int .i64 u.op)/\W.cell? ⟨p1,o1+k*4+1,none⟩=some (.int .i64 u.n)/\W.cell? ⟨p1,o1+k*4+2,none⟩=some (.string u.name)/\W.cell? ⟨p1,o1+k*4+3,none⟩=some (.slice ax u.args.length cx))/\(W.cell? ⟨p2,o2+k*4,none⟩=some (.int .i64 v.op)/\W.cell? ⟨p2,o2+k*4+1,none⟩=some (.int .i64 v.n)/\W.cell? ⟨p2,o2+k*4+2,none⟩=some (.string v.name)/\W.cell? ⟨p2,o2+k*4+3,none⟩=some (.slice ay v.args.length cy))))
         ((refine(λh=>⟨h,HC.out _ h⟩) ?_;first|with_reducible assumption|exact zW))
         (first|(go_at_call 99;(with_reducible refine(HS.out _ (by first|with_reducible assumption|exact zW)).mono ?_);rintro e w5 ⟨rfl,hb5⟩))
        all_goals
         have HE9:=Lib.hid (HE.out w5 (HBw.out.trans (Below.mono hb5 HBw.out.size)));clear hb5;go_wp2_with fail;first|exact HE9.out|(go_ret2;exact HE9.out)
      ·obtain rfl:k=eg.length:=by omega
       have HEg:Hid (eg=fg):=List.ext_getElem Q3.out λj hj hj2=>HAl.out j hj hj2 hj;go_wp2_with fail;go_loopw [6] (λi wv=>∃k:Nat,i=.int .i64 k/\k<=es.length/\Hid (∀j (hj:j<es.length) (hj2:j<fs.length),j<k->es[j]'hj=fs[j]'hj2)/\Hid (Below W2.heap.size W2 wv)) (λi _=>es.length-(intOf i).toNat);case atStart=>exact⟨0,rfl,Nat.zero_le _,λ_ _ _ h=>absurd h (Nat.not_lt_zero _),HB.out⟩
       case round =>
        (try rename World=>wv)
        obtain⟨k,rfl,hk,HAs,HB⟩:=hrel;have HBw:Hid (Below w.heap.size w wv):=HB2.out.trans (HB.out.mono HB2.out.size);have hzr:=HB.out.size;obtain⟨x2,y2,x3,y3⟩:=HALL.out wv HB.out;by_cases hlt:k<es.length
        ·have hltb:k<fs.length:=by have:=Q4.out;omega
         have hltI:(k:Int)<(es.length:Int):=by omega
         have hltJ:(k:Int)<(fs.length:Int):=by omega
         obtain⟨p1,o1,ha1⟩:=H2a.out.resolve_left (by omega);obtain⟨p2,o2,ha2⟩:=H4a.out.resolve_left (by omega);subst ha1 ha2;obtain⟨ax,cx,g0,g1,g2,g3,g4,-,hX⟩:=qY (H2.out.keep (za HBw.out)) rfl hlt;obtain⟨ay,cy,m0,m1,m2,m3,m4,-,hY⟩:=qY (H4.out.keep (za HBw.out)) rfl hltb;have HNx:=Lib.hid (λhe=>Zu hlt hltb HAs.out he);have HNn:Hid (¬(es[k]'hlt=fs[k]'hltb)->∀W,Below w.heap.size w W->Po (.returned (.bool false)) W):=λh=>HNo.out λq=>Y8 hlt hltb h q.2.2.2;generalize (es[k]'hlt)=u at HNx HNn g0 g1 g2 g3 g4 hX;generalize (fs[k]'hltb)=v at HNx HNn m0 m1 m2 m3 m4 hY;obtain⟨un,u⟩:=u;obtain⟨vn,v⟩:=v;simp only at g0 g1 g2 g3 g4 hX m0 m1 m2 m3 m4 hY;have HS:Hid (∀W,Below wv.heap.size wv W->Calls Tryz.prog 99 #[.agg #[.int .i64 u.op,.int .i64 u.n,.string u.name,.slice ax u.args.length cx],.agg #[.int .i64 v.op,.int .i64 v.n,.string v.name,.slice ay v.args.length cy]] W λe w'=>e=.returned (.bool (pB (u=v)))/\Below wv.heap.size wv w'):=λW hW=>(Qz u v ax cx ay cy W (hX.keep (za hW)) (hY.keep (za hW))).mono λe w' h=>⟨h.1,hW.trans (h.2.mono hW.size)⟩;have HC:Hid (∀W,Below wv.heap.size wv W->(W.cell? ⟨w.heap.size,3,none⟩=some (.slice (some ⟨p1,o1,none⟩) es.length cs)/\W.cell? ⟨w.heap.size+1,3,none⟩=some (.slice (some ⟨p2,o2,none⟩) fs.length ds))/\(W.cell? ⟨p1,o1+k*5,none⟩=some (.string un)/\W.cell? ⟨p1,o1+k*5+1,none⟩=some (.int .i64 u.op)/\W.cell? ⟨p1,o1+k*5+2,none⟩=some (.int .i64 u.n)/\W.cell? ⟨p1,o1+k*5+3,none⟩=some (.string u.name)/\W.cell? ⟨p1,o1+k*5+4,none⟩=some (.slice ax u.args.length cx))/\(W.cell? ⟨p2,o2+k*5,none⟩=some (.string vn)/\W.cell? ⟨p2,o2+k*5+1,none⟩=some (.int .i64 v.op)/\W.cell? ⟨p2,o2+k*5+2,none⟩=some (.int .i64 v.n)/\W.cell? ⟨p2,o2+k*5+3,none⟩=some (.string v.name)/\W.cell? ⟨p2,o2+k*5+4,none⟩=some (.slice ay v.args.length cy))):=λW hW=>⟨⟨za hW _ _ x3,za hW _ _ y3⟩,⟨za hW _ _ g0,za hW _ _ g1,za hW _ _ g2,za hW _ _ g3,za hW _ _ g4⟩,za hW _ _ m0,za hW _ _ m1,za hW _ _ m2,za hW _ _ m3,za hW _ _ m4⟩
         clear hX hY HAs;by_cases hnn:un=vn
         ·by_cases huv:u=v
          ·have HE:=Lib.hid (HNx.out (zeo.2 ⟨hnn,huv⟩));rw[Zj huv]at HS;subst hnn;have qs:(un.toList != un.toList)=false:=by simp
           have qt:(un.toList==un.toList)=true:=by simp
           clear HNx HNn huv;go_wp2_with fail
           go_region_held3 (λW=>Below wv.heap.size wv W/\((W.cell? ⟨w.heap.size,3,none⟩=some (.slice (some ⟨p1,o1,none⟩) es.length cs)/\W.cell? ⟨w.heap.size+1,3,none⟩=some (.slice (some ⟨p2,o2,none⟩) fs.length ds))/\(W.cell? ⟨p1,o1+k*5,none⟩=some (.string un)/\W.cell? ⟨p1,o1+k*5+1,none⟩=some (.int .i64 u.op)/\W.cell? ⟨p1,o1+k*5+2,none⟩=some (.int .i64 u.n)/\W.cell? ⟨p1,o1+k*5+3,none⟩=some (.string u.name)/\W.cell? ⟨p1,o1+k*5+4,none⟩=some (.slice ax u.args.length cx))/\(W.cell? ⟨p2,o2+k*5,none⟩=some (.string un)/\W.cell? ⟨p2,o2+k*5+1,none⟩=some (.int .i64 v.op)/\W.cell? ⟨p2,o2+k*5+2,none⟩=some (.int .i64 v.n)/\W.cell? ⟨p2,o2+k*5+3,none⟩=some (.string v.name)/\W.cell? ⟨p2,o2+k*5+4,none⟩=some (.slice ay v.args.length cy))))
            ((refine(λh=>⟨h,HC.out _ h⟩) ?_;first|with_reducible assumption|exact zW))
            (first|(go_at_call 99;(with_reducible refine(HS.out _ (by first|with_reducible assumption|exact zW)).mono ?_);rintro e w5 ⟨rfl,hb5⟩))
           all_goals
            have HB9:Hid (Below W2.heap.size W2 w5):=HB.out.trans (Below.mono hb5 hzr);clear hb5;go_wp2_with fail;go_roundw;case rel=>exact⟨k+1,by go_num,by omega,HE.out,HB9.out⟩
            case measure=>(simp[intOf];try omega)
          ·have HE:=Lib.hid (HNn.out (λq=>huv (zeo.1 q).2));rw[qh huv]at HS;subst hnn;have qs:(un.toList != un.toList)=false:=by simp
           have qt:(un.toList==un.toList)=true:=by simp
           clear HNx HNn huv;go_wp2_with fail
           go_region_held3 (λW=>Below wv.heap.size wv W/\((W.cell? ⟨w.heap.size,3,none⟩=some (.slice (some ⟨p1,o1,none⟩) es.length cs)/\W.cell? ⟨w.heap.size+1,3,none⟩=some (.slice (some ⟨p2,o2,none⟩) fs.length ds))/\(W.cell? ⟨p1,o1+k*5,none⟩=some (.string un)/\W.cell? ⟨p1,o1+k*5+1,none⟩=some (.int .i64 u.op)/\W.cell? ⟨p1,o1+k*5+2,none⟩=some (.int .i64 u.n)/\W.cell? ⟨p1,o1+k*5+3,none⟩=some (.string u.name)/\W.cell? ⟨p1,o1+k*5+4,none⟩=some (.slice ax u.args.length cx))/\(W.cell? ⟨p2,o2+k*5,none⟩=some (.string un)/\W.cell? ⟨p2,o2+k*5+1,none⟩=some (.int .i64 v.op)/\W.cell? ⟨p2,o2+k*5+2,none⟩=some (.int .i64 v.n)/\W.cell? ⟨p2,o2+k*5+3,none⟩=some (.string v.name)/\W.cell? ⟨p2,o2+k*5+4,none⟩=some (.slice ay v.args.length cy))))
            ((refine(λh=>⟨h,HC.out _ h⟩) ?_;first|with_reducible assumption|exact zW))
            (first|(go_at_call 99;(with_reducible refine(HS.out _ (by first|with_reducible assumption|exact zW)).mono ?_);rintro e w5 ⟨rfl,hb5⟩))
           all_goals
            have HE9:=Lib.hid (HE.out w5 (HBw.out.trans (Below.mono hb5 HBw.out.size)));clear hb5;go_wp2_with fail;first|exact HE9.out|(go_ret2;exact HE9.out)
         ·have HE:=Lib.hid (HNn.out (λq=>hnn (zeo.1 q).1));have qs:(un.toList != vn.toList)=true:=zju hnn;have qt:(un.toList==vn.toList)=false:=by simpa [bne] using qs
          clear HNx HNn hnn;go_wp2_with fail;go_quiet (fail);go_wp2_with fail;first|exact HE.out _ (below_drewN HBw.out _)|(go_ret2;exact HE.out _ (below_drewN HBw.out _))
        ·obtain rfl:k=es.length:=by omega
         have HEs:es=fs:=List.ext_getElem Q4.out λj hj hj2=>HAs.out j hj hj2 hj;have HE:=Lib.hid (HYes.out (by first|rfl|trivial) (by first|rfl|trivial) HEg.out HEs wv HBw.out);clear HEs;go_wp2_with fail;first|exact HE.out|(go_ret2;exact HE.out)
    ·have d1:(ef != ff)=false:=by simp[q1]
     have d2:(et != ft)=false:=by simp[q2]
     have d3:((eg.length:Int) != (fg.length:Int))=false:=by simp;omega
     have d4:((es.length:Int) != (fs.length:Int))=true:=by simp;omega
     have HE1:Hid (∀W,Below w.heap.size w W->Po (.returned (.bool false)) W):=HNo.out (by rintro ⟨-,-,-,h⟩;exact q4 (by rw[h]));clear HYes HNo;go_enter Tryz.func39, Tryz.ntmps39;go_wp2_with fail;first|exact HE1.out _ (((Below.refl _ w).alloc (Nat.le_refl _) _).alloc (by simp) _)|(go_ret2;exact HE1.out _ (((Below.refl _ w).alloc (Nat.le_refl _) _).alloc (by simp) _))
   ·have d1:(ef != ff)=false:=by simp[q1]
    have d2:(et != ft)=false:=by simp[q2]
    have d3:((eg.length:Int) != (fg.length:Int))=true:=by simp;omega
    have HE1:Hid (∀W,Below w.heap.size w W->Po (.returned (.bool false)) W):=HNo.out (by rintro ⟨-,-,h,-⟩;exact q3 (by rw[h]));clear HYes HNo;go_enter Tryz.func39, Tryz.ntmps39;go_wp2_with fail;first|exact HE1.out _ (((Below.refl _ w).alloc (Nat.le_refl _) _).alloc (by simp) _)|(go_ret2;exact HE1.out _ (((Below.refl _ w).alloc (Nat.le_refl _) _).alloc (by simp) _))
  ·have d1:(ef != ff)=false:=by simp[q1]
   have d2:(et != ft)=true:=by simp[q2]
   have HE1:Hid (∀W,Below w.heap.size w W->Po (.returned (.bool false)) W):=HNo.out (by rintro ⟨-,h,-,-⟩;exact q2 h);clear HYes HNo;go_enter Tryz.func39, Tryz.ntmps39;go_wp2_with fail;first|exact HE1.out _ (((Below.refl _ w).alloc (Nat.le_refl _) _).alloc (by simp) _)|(go_ret2;exact HE1.out _ (((Below.refl _ w).alloc (Nat.le_refl _) _).alloc (by simp) _))
 ·have d1:(ef != ff)=true:=by simp[q1]
  have HE1:Hid (∀W,Below w.heap.size w W->Po (.returned (.bool false)) W):=HNo.out (by rintro ⟨h,-,-,-⟩;exact q1 h);clear HYes HNo;go_enter Tryz.func39, Tryz.ntmps39;go_wp2_with fail;first|exact HE1.out _ (((Below.refl _ w).alloc (Nat.le_refl _) _).alloc (by simp) _)|(go_ret2;exact HE1.out _ (((Below.refl _ w).alloc (Nat.le_refl _) _).alloc (by simp) _))
end Go.Proofs.YtnfkbliokjjggaaGreatDoor
