/- What the laws say, plainly: a trimmed automaton's first state; the sample. -/
import Derived.Test.YtnfkbliokjjggaaGreatDoorH15
import Derived.Test.YtnfkbliokjjggaaGreatDoorH39
import Derived.Test.YtnfkbliokjjggaaGreatDoorH32
set_option maxHeartbeats 8000000
set_option maxRecDepth 100000
set_option linter.unusedSimpArgs false
set_option linter.unusedVariables false
set_option linter.unnecessarySimpa false
namespace Go.Proofs.YtnfkbliokjjggaaGreatDoor
open Go.RowKit
def vN (c:UInt8):Ex:=.mk 2 0 ⟨#[c]⟩ []
def isN (c:UInt8):Tq:=.mk 1 0 0 (vN c) ⟨#[]⟩ []
def smN:Tq:=.mk 2 0 1 (.mk 0 0 ⟨#[]⟩ []) ⟨#[]⟩ [isN 97,isN 98]
def smI (c:UInt8):zt:=⟨2,[⟨0,1,[vN c],[]⟩],[1]⟩
def smO:zt:=⟨3,[⟨0,1,[vN 97],[]⟩,⟨0,2,[vN 97,vN 98],[]⟩,⟨1,2,[vN 98],[]⟩],[2]⟩
theorem qf (c:UInt8):(vN c).nodes=[vN c]:=by rw[Ex.nodes_eq];simp[vN,Ex.args_mk]
theorem zgk (c:UInt8):(vN c).depth=1:=by rw[Ex.depth_eq];simp[vN,Ex.args_mk]
theorem zcO (c:UInt8) (h:yj [vN c]=0):zD (vN c)=0:=by
 unfold zD;rw[qf,h,zgk,if_neg];rintro ⟨_,h|h⟩
 ·omega
 ·rw[List.length_singleton]at h;omega
theorem zjj:okX (vN 97)=true:=by unfold okX;rw[zcO 97 (by decide)];rfl
theorem zjk:okX (vN 98)=true:=by unfold okX;rw[zcO 98 (by decide)];rfl
theorem zjs {c:UInt8} (h:okX (vN c)=true):zC (smI c)=true:=by
 have e1:X5 2 [1] 1=true:=by decide
 have e2:(0:Int)<=0/\(0:Int)<2/\(0:Int)<=1/\(1:Int)<2:=by decide
 refine zA.2 ⟨by simp[smI],λe he=>?_,e1⟩;obtain rfl:=List.mem_singleton.1 he;exact zZ.2 ⟨e2,λg hg=>by obtain rfl:=List.mem_singleton.1 hg;exact h,λb hb=>by cases hb⟩
theorem zfF:zC smO=true:=by
 refine zA.2 ⟨by simp[smO],λe he=>?_,by decide⟩;simp only[smO,List.mem_cons,List.not_mem_nil,or_false]at he;rcases he with rfl|rfl|rfl
 ·exact zZ.2 ⟨by decide,λg hg=>by obtain rfl:=List.mem_singleton.1 hg;exact zjj,λb hb=>by cases hb⟩
 ·refine zZ.2 ⟨by decide,λg hg=>?_,λb hb=>by cases hb⟩;simp only[List.mem_cons,List.not_mem_nil,or_false]at hg;rcases hg with rfl|rfl
  ·exact zjj
  ·exact zjk
 ·exact zZ.2 ⟨by decide,λg hg=>by obtain rfl:=List.mem_singleton.1 hg;exact zjk,λb hb=>by cases hb⟩
theorem zcl {c:UInt8} (h:okX (vN c)=true):yJ (isN c)=some (smI c):=by rw[Y6];show ZL (isN c) []=_;show doneN (smI c)=_;unfold doneN;rw[if_pos (zjs h)]
theorem zgT:y5 0 1 (smI 97) (smI 98)=smO:=by rfl
theorem zgd:yJ smN=some smO:=by
 rw[Y6];have e:smN.args.map yJ=[some (smI 97),some (smI 98)]:=by show [yJ (isN 97),yJ (isN 98)]=_;rw[zcl zjj,zcl zjk]
 rw[e];show doneN (y5 0 1 (smI 97) (smI 98))=_;rw[zgT];unfold doneN;rw[if_pos zfF]
theorem zg4:trimS smO=smO:=by unfold trimS;rw[if_pos zfF];rfl
theorem Yo (c:UInt8):(isN c).depth=1/\(isN c).nodes=1:=by rw[Tq.depth_eq,Tq.nodes_eq];exact⟨rfl,rfl⟩
theorem zaz {c:UInt8} (h:okX (vN c)=true) (b:Bool):yc (isN c) b=0:=by
 have hv:zD (vN c)=0:=by simpa [okX] using h
 have:qy (isN c) b=0:=by simp[qy,qC,isN,Tq.op,Tq.args,Tq.lo,Tq.hi,Tq.name,Tq.expr,yh,hv,ByteArray.size]
 rw[qv,if_pos this];rfl
theorem zfS:qi smN=0:=by
 have hd:smN.depth=2:=by rw[Tq.depth_eq];show List.foldl max 0 [(isN 97).depth,(isN 98).depth]+1=2;rw[(Yo 97).1,(Yo 98).1];rfl
 have hn:smN.nodes=3:=by rw[Tq.nodes_eq];show 1+[(isN 97).nodes,(isN 98).nodes].sum=3;rw[(Yo 97).2,(Yo 98).2];rfl
 have h0:qy smN false=0:=by simp[qy,qC,smN,Tq.op,Tq.args,Tq.lo,Tq.hi,Tq.name,Tq.expr,yh,zal,Ex.op_mk,Ex.n_mk,Ex.name_mk,Ex.args_mk,ByteArray.size]
 unfold qi;rw[hd,hn,if_neg (by omega),qv,if_pos h0];show ZE [yc (isN 97) _,yc (isN 98) _]=0;rw[zaz zjj,zaz zjk];rfl
def smE:List Sg:=[(⟨#[97]⟩,1),(⟨#[98]⟩,1)]
theorem zjx:Yt (vN 97) [] smE=1:=by rw[zcN zjj,qE,if_neg (by decide),if_pos (by rfl)];simp[smE,xR,vN,Ex.name_mk,Ys]
theorem zjy:Yt (vN 98) [] smE=1:=by rw[zcN zjk,qE,if_neg (by decide),if_pos (by rfl)];simp[smE,xR,vN,Ex.name_mk,Ys]
theorem zfO {e:zk} (hg:∀g∈e.guards,g=vN 97\/g=vN 98) (hs:e.sets=[]):x7 e [] smE=some []:=by
 have h1:e.guards.all (λg=>Yt g [] smE != 0)=true:=List.all_eq_true.2 λg h=>by
  rcases hg g h with rfl|rfl
  ·rw[zjx];rfl
  ·rw[zjy];rfl
 unfold x7;rw[if_pos h1,hs];rfl
theorem zgX:qz smO [⟨0,[]⟩] smE=([⟨1,[]⟩,⟨2,[]⟩],0):=by
 have hst:yw smO smE [⟨0,[]⟩] 1=[⟨1,[]⟩,⟨2,[]⟩]:=by
  show x4 smE ⟨0,[]⟩ (x4 smE ⟨0,[]⟩ (x4 smE ⟨0,[]⟩ [] ⟨0,1,[vN 97],[]⟩) ⟨0,2,[vN 97,vN 98],[]⟩) ⟨1,2,[vN 98],[]⟩=_;have t1:=zfO (e:=⟨0,1,[vN 97],[]⟩) (by simp) rfl;have t2:=zfO (e:=⟨0,2,[vN 97,vN 98],[]⟩) (by simp) rfl;have e1:x4 smE ⟨0,[]⟩ [] ⟨0,1,[vN 97],[]⟩=[⟨1,[]⟩]:=by unfold x4;rw[if_pos rfl,t1];rfl
  have e2:x4 smE ⟨0,[]⟩ [⟨1,[]⟩] ⟨0,2,[vN 97,vN 98],[]⟩=[⟨1,[]⟩,⟨2,[]⟩]:=by unfold x4;rw[if_pos rfl,t2];rfl
  rw[e1,e2];unfold x4;rw[if_neg (by decide)]
 have ht:([⟨0,[]⟩]:List yV).all (ZB smO)=true:=by rfl
 unfold qz;rw[zfF,ht];show (if 256<(yw smO smE [⟨0,[]⟩] 1).length then _ else (yw smO smE [⟨0,[]⟩] 1,_))=_;rw[hst];rfl
theorem zhN:QP smO [⟨1,[]⟩,⟨2,[]⟩]=[⟨2,[]⟩]:=rfl
attribute [local go_sem ↓] Go.wp_at_zero Go.wp_at_succ
theorem zjw (fn:Func) (hr:fn.results=#[.cell 2 27]) (W:World) (tm:Array Value) (b:Nat) (m0 m1 m2 m3 m4 m5 m6 m7 m8:Value) (hW:W.heap[b]? = some (.cells #[m0,m1,m2,m3,m4,m5,m6,m7,m8] 27 (0,0))) (h0:tm.getD 2 undef=.pointer (some ⟨b,0,none⟩)) :
 (results fn tm).run Tryz.prog W=.ok (.agg #[m0,m1,m2,m3,m4,m5,m6,m7,m8]) W:=by
 obtain⟨c0,c1,c2,c3,c4,c5,c6,c7,c8⟩:=yI hW;rw[ym hr,h0];simp[asAddr];go_simp
theorem zhw (c:UInt8) (w:World):Calls Tryz.prog 31 #[.string ⟨#[c]⟩] w λe w'=>e=.returned (xw (isN c) none 0 none 0)/\Below w.heap.size w w':=by go_enter Tryz.func31, Tryz.ntmps31;go_wp2_with fail;refine bodyPost_ret (v:=xw (isN c) none 0 none 0) (zjw _ rfl _ _ w.heap.size _ _ _ _ _ _ _ _ _ (zh rfl) rfl) rfl ⟨rfl,(Below.refl _ _).alloc (Nat.le_refl _) _⟩
theorem zhv (W:World) (c:UInt8):X4 W (isN c) none 0 none 0:=by
 have hz:(⟨#[c]⟩:ByteArray).size<=1073741824:=by show 1<=1073741824;omega
 refine⟨by show 0<=1073741824;omega,⟨hz,?_⟩,?_⟩
 ·exact⟨Nat.le_refl _,by simp[isN,vN,Tq.expr,Ex.args_mk],Or.inl rfl⟩
 ·exact⟨Nat.le_refl _,by simp[isN,Tq.args],Or.inl rfl⟩
theorem zjb {W:World} {b:Nat} (h:W.heap[b]? = some (.cells ((yZ (isN 97) none 0 none 0)++(yZ (isN 98) none 0 none 0)).toArray 27 (0,0))):X4 W smN none 0 (some ⟨b,0,none⟩) 2:=by
 refine⟨by decide,⟨by decide,?_⟩,?_⟩
 ·exact⟨Nat.le_refl _,by simp[smN,Tq.expr,Ex.args_mk],Or.inl rfl⟩
 ·refine⟨by simp[smN,Tq.args],by simp[smN,Tq.args],Or.inr ⟨b,0,rfl,λi hi=>?_⟩⟩;have hi2:i<2:=by simpa [smN,Tq.args] using hi
  match i,hi2 with
  |0,_ =>refine⟨isN 97,rfl,(Y4 _ _ _ _).2 ⟨none,0,none,0,λj v hj=>?_,zhv W 97⟩⟩;have hj2:=(List.getElem?_eq_some_iff.1 hj).1;rw[zb h];show ((yZ (isN 97) none 0 none 0)++(yZ (isN 98) none 0 none 0)).toArray[0+0*9+j]? = _;rw[List.getElem?_toArray,show 0+0*9+j=j by omega,List.getElem?_append_left hj2];exact hj
  |1,_ =>refine⟨isN 98,rfl,(Y4 _ _ _ _).2 ⟨none,0,none,0,λj v hj=>?_,zhv W 98⟩⟩;rw[zb h];show ((yZ (isN 97) none 0 none 0)++(yZ (isN 98) none 0 none 0)).toArray[0+1*9+j]? = _;have hl:(yZ (isN 97) none 0 none 0).length=9:=rfl;rw[List.getElem?_toArray,List.getElem?_append_right (by omega),show 0+1*9+j-(yZ (isN 97) none 0 none 0).length=j by omega];exact hj
theorem ziC:SmT smN:=by
 have h1:∀c,SmT (isN c):=λc=>(zbu _).2 ⟨by show (vN c).nodes.length<=_;rw[qf];simp,λa ha=>by simp[isN,Tq.args]at ha⟩;refine(zbu _).2 ⟨?_,λa ha=>?_⟩
 ·show (Ex.mk 0 0 ⟨#[]⟩ []).nodes.length<=_;rw[Ex.nodes_eq];simp[Ex.args_mk]
 ·simp[smN,Tq.args]at ha;rcases ha with rfl|rfl
  ·exact h1 97
  ·exact h1 98
theorem zeB:zeA smN=(some smO,0):=by unfold zeA;rw[zfS,zgd,if_neg (by simp)];show (some (trimS smO),(0:Int))=_;rw[zg4]
theorem zfe:smN.nodes<=1000000000:=by
 have h1:∀c,(isN c).nodes=1:=λc=>by rw[Tq.nodes_eq];simp[isN,Tq.args]
 rw[Tq.nodes_eq];show 1+([isN 97,isN 98].map Tq.nodes).sum<=_;simp[h1]
theorem zbh:qq smO/\∀e∈smO.edges,zce e:=by
 refine⟨λe he=>?_,λe he=>?_⟩
 ·simp only[smO,List.mem_cons,List.not_mem_nil,or_false]at he;rcases he with rfl|rfl|rfl<;>refine⟨λg hg=>?_,λb hb=>by cases hb⟩<;>simp at hg
  ·subst hg;rw[qf];simp
  ·rcases hg with rfl|rfl<;>(rw[qf];simp)
  ·subst hg;rw[qf];simp
 ·simp only[smO,List.mem_cons,List.not_mem_nil,or_false]at he;rcases he with rfl|rfl|rfl<;>refine⟨λg hg=>?_,λb hb=>(by cases hb),by simp⟩<;>simp at hg
  ·subst hg;rw[qf];simp
  ·rcases hg with rfl|rfl<;>(rw[qf];simp)
  ·subst hg;rw[qf];simp
theorem zfG {W:World} {k:Nat} (h:W.heap[k]? = some (.cells #[.string ⟨#[97]⟩,.int .i64 1,.string ⟨#[98]⟩,.int .i64 1] 68 (0,0))):sgE.In W smE (some ⟨k,0,none⟩) 2:=by
 refine⟨by simp[smE],by simp[smE],Or.inr ⟨k,0,rfl,λi hi=>?_⟩⟩;have hi2:i<2:=by simpa [smE] using hi
 match i,hi2 with
 |0,_=>exact⟨_,rfl,zbe.2 ⟨by rw[zb h];rfl,by rw[zb h];rfl⟩⟩
 |1,_=>exact⟨_,rfl,zbe.2 ⟨by rw[zb h];rfl,by rw[zb h];rfl⟩⟩
noncomputable def pB (P:Prop):Bool:=@decide P (Classical.propDecidable P)
theorem Zj {P:Prop} (h:P):pB P=true:=by unfold pB;exact @decide_eq_true P (Classical.propDecidable P) h
theorem qh {P:Prop} (h:¬P):pB P=false:=by unfold pB;exact @decide_eq_false P (Classical.propDecidable P) h
theorem zeR {op n:Int} {s:ByteArray} {args:List Ex} {op' n':Int} {s':ByteArray} {args':List Ex}:(Ex.mk op n s args=Ex.mk op' n' s' args')<->op=op'/\n=n'/\s=s'/\args=args':=by
 constructor
 ·intro h;injection h with h1 h2 h3 h4;exact⟨h1,h2,h3,h4⟩
 ·rintro ⟨rfl,rfl,rfl,rfl⟩;rfl
theorem zju {s s':ByteArray} (h:¬s=s'):(s.toList != s'.toList)=true:=by
 cases he:(s.toList==s'.toList)
 ·simp[bne,he]
 ·have h1:s.toList=s'.toList:=by simpa using he
  rw[ByteArray.toList_eq,ByteArray.toList_eq]at h1;exact absurd (ByteArray.ext (Array.toList_inj.1 h1)) h
theorem Qz (x:Ex):∀(y:Ex) (ax:Option Addr) (cx:Nat) (ay:Option Addr) (cy:Nat) (w:World),yA w x ax cx->yA w y ay cy ->
 Calls Tryz.prog 99 #[zL x ax cx,zL y ay cy] w λe w'=>e=.returned (.bool (pB (x=y)))/\Below w.heap.size w w':=by
 induction x using Ex.ind with
 |h x ih =>
  intro y ax cx ay cy w hX hY;obtain⟨op,n,s,args⟩:=x;obtain⟨op',n',s',args'⟩:=y;have HX:=Lib.hid hX.2;have HY:=Lib.hid hY.2;have HAX:=Lib.hid hX.2.addr;have HAY:=Lib.hid hY.2.addr;have hlx:=hX.2.2.1;have hly:=hY.2.2.1;simp only[Ex.args_mk]at HX HY HAX HAY hlx hly ih;have HIH:=Lib.hid ih;clear hX hY ih;simp only[zL,Ex.op_mk,Ex.n_mk,Ex.name_mk,Ex.args_mk];by_cases h1:op=op'/\n=n'/\s=s'/\args.length=args'.length
  ·obtain⟨rfl,rfl,rfl,hl⟩:=h1;have Hl:=Lib.hid hl;have hd1:(op != op)=false:=by simp
   have hd2:(n != n)=false:=by simp
   have hd3:(s.toList != s.toList)=false:=by simp
   have hd4:((args.length:Int) != (args'.length:Int))=false:=by simp;omega
   clear hl;go_enter Tryz.func99, Tryz.ntmps99;go_wp2_with fail;generalize hW2:(w.alloc (.cells #[.int .i64 op,.int .i64 n,.string s,.slice ax args.length cx] 24)).alloc (.cells #[.int .i64 op,.int .i64 n,.string s,.slice ay args'.length cy] 24)=W2;have hz2:W2.heap.size=w.heap.size+2:=by rw[←hW2];simp
   have HB2:Hid (Below w.heap.size w W2):=by show Below _ _ _;rw[←hW2];exact bel
   have HK1:Hid (W2.heap[w.heap.size]? = some (.cells #[.int .i64 op,.int .i64 n,.string s,.slice ax args.length cx] 24 (0,0))):=by show _=_;rw[←hW2];exact(Below.heap_alloc _ _ _ (by simp)).trans (zi w _)
   have HK2:Hid (W2.heap[w.heap.size+1]? = some (.cells #[.int .i64 op,.int .i64 n,.string s,.slice ay args'.length cy] 24 (0,0))):=by show _=_;rw[←hW2];have h:=zi (w.alloc (.cells #[.int .i64 op,.int .i64 n,.string s,.slice ax args.length cx] 24)) (.cells #[.int .i64 op,.int .i64 n,.string s,.slice ay args'.length cy] 24);simp only[World.size_alloc]at h;exact h
   clear hW2;go_loopw [5] (λi wr=>∃k:Nat,i=.int .i64 k/\k<=args.length/\Hid (∀j (hj:j<args.length),j<k->args[j]'hj=args'[j]'(by have:=Hl.out;omega))/\Below (w.heap.size+2) W2 wr) (λi _=>args.length-(intOf i).toNat);case atStart=>exact⟨0,rfl,Nat.zero_le _,λ_ _ h=>absurd h (by omega),Below.refl _ _⟩
   case round =>
    obtain⟨k,rfl,hk,HAl,hB⟩:=hrel;have hzr:=hB.size;have HBw:Hid (Below w.heap.size w wr):=HB2.out.trans (hB.mono (by omega));have hk1:=(hB.block w.heap.size (by omega)).trans HK1.out;have hk2:=(hB.block (w.heap.size+1) (by omega)).trans HK2.out;have x3:wr.cell? ⟨w.heap.size,3,none⟩=some (.slice ax args.length cx):=by simp[World.cell?,hk1]
    have y3:wr.cell? ⟨w.heap.size+1,3,none⟩=some (.slice ay args'.length cy):=by simp[World.cell?,hk2]
    have HB:=Lib.hid hB;clear hk1 hk2 hB;by_cases hlt:k<args.length
    ·have hltb:k<args'.length:=by have:=Hl.out;omega
     obtain⟨ba,oa,ha⟩:=HAX.out.resolve_left (by omega);obtain⟨bb,ob,hb⟩:=HAY.out.resolve_left (by omega);subst ha;subst hb;obtain⟨a1,k1,g0,g1,g2,g3,hP⟩:=HX.out.get rfl hlt;obtain⟨a2,k2,q0,q1,q2,q3,hQ⟩:=HY.out.get rfl hltb;have kk:=za HBw.out;have c0:∀g:ZV wr.heap.size wr,g.w'.cell? _=_:=ZV.old (kk _ _ g0) (Nat.le_refl _);have c1:∀g:ZV wr.heap.size wr,g.w'.cell? _=_:=ZV.old (kk _ _ g1) (Nat.le_refl _);have c2:∀g:ZV wr.heap.size wr,g.w'.cell? _=_:=ZV.old (kk _ _ g2) (Nat.le_refl _);have c3:∀g:ZV wr.heap.size wr,g.w'.cell? _=_:=ZV.old (kk _ _ g3) (Nat.le_refl _);have d0:∀g:ZV wr.heap.size wr,g.w'.cell? _=_:=ZV.old (kk _ _ q0) (Nat.le_refl _);have d1:∀g:ZV wr.heap.size wr,g.w'.cell? _=_:=ZV.old (kk _ _ q1) (Nat.le_refl _);have d2:∀g:ZV wr.heap.size wr,g.w'.cell? _=_:=ZV.old (kk _ _ q2) (Nat.le_refl _);have d3:∀g:ZV wr.heap.size wr,g.w'.cell? _=_:=ZV.old (kk _ _ q3) (Nat.le_refl _);have X3:∀g:ZV wr.heap.size wr,g.w'.cell? _=_:=ZV.old x3 (Nat.le_refl _);have Y3:∀g:ZV wr.heap.size wr,g.w'.cell? _=_:=ZV.old y3 (Nat.le_refl _);have HC:=Lib.hid (λW (hW:Below wr.heap.size wr W)=>(HIH.out _ (List.getElem_mem hlt) _ a1 k1 a2 k2 W ((hP.keep kk).keep (za hW)) ((hQ.keep kk).keep (za hW))).mono λe w' h=>(⟨h.1,hW.trans (h.2.mono hW.size)⟩:_/\Below wr.heap.size wr w'));simp only[zL]at HC
     have HNx:Hid (args[k]'hlt=args'[k]'hltb->∀j (hj:j<args.length),j<k+1->args[j]'hj=args'[j]'(by have:=Hl.out;omega)):=λhe j hj hjk=>by
      by_cases e:j=k
      ·subst e;exact he
      ·exact HAl.out j hj (by omega)
     have HNo:Hid (¬(args[k]'hlt=args'[k]'hltb)->pB (Ex.mk op n s args=Ex.mk op n s args')=false):=λhe=>qh (λh=>he (by have h2:=(zeR.1 h).2.2.2;subst h2;rfl));generalize args[k]'hlt=u at c0 c1 c2 c3 HC HNx HNo;generalize args'[k]'hltb=v at d0 d1 d2 d3 HC HNx HNo;clear g0 g1 g2 g3 q0 q1 q2 q3 kk hP hQ;by_cases he:u=v
     ·have HNx':=Lib.hid (HNx.out he);rw[Zj he]at HC;clear he HNx HNo;go_wp2_with fail
      (refine ZH (B:=wr.heap.size) (w0:=wr) (by kernel_rfl) (by kernel_rfl) bel ?_;(repeat (go_big_quiet_step ((go_at_call 99;with_reducible exact zaM (HC.out _ (ZV.h _))))));refine wpQuiet_nil ?_;intro wg hCg;have hbg:=zcq hCg;clear hCg)
      go_wp2_with fail;go_roundw;case rel=>exact⟨k+1,by go_num,by omega,HNx'.out,HB.out.trans ((by assumption:Below wr.heap.size wr _).mono (by omega))⟩
      case measure=>simp[intOf];omega
     ·have HNo':=Lib.hid (HNo.out he);rw[qh he]at HC;clear he HNx HNo;go_wp2_with fail
      (refine ZH (B:=wr.heap.size) (w0:=wr) (by kernel_rfl) (by kernel_rfl) bel ?_;(repeat (go_big_quiet_step ((go_at_call 99;with_reducible exact zaM (HC.out _ (ZV.h _))))));refine wpQuiet_nil ?_;intro wg hCg;have hbg:=zcq hCg;clear hCg)
      go_wp2_with fail;go_ret;exact⟨by rw[HNo'.out];rfl,HBw.out.trans ((by assumption:Below wr.heap.size wr _).mono HBw.out.size)⟩
    ·obtain rfl:k=args.length:=by omega
     have HYes:Hid (pB (Ex.mk op n s args=Ex.mk op n s args')=true):=Zj (zeR.2 ⟨rfl,rfl,rfl,List.ext_getElem Hl.out (λj hj _=>HAl.out j hj hj)⟩);go_wp2_with fail;go_ret;exact⟨by rw[HYes.out];rfl,HBw.out⟩
  ·have HNo:Hid (pB (Ex.mk op n s args=Ex.mk op' n' s' args')=false):=qh (λh=>h1 (by have h2:=zeR.1 h;exact⟨h2.1,h2.2.1,h2.2.2.1,by rw[h2.2.2.2]⟩));have hcase:(op != op')=true\/(op != op')=false/\((n != n')=true\/(n != n')=false/\((¬s.toList=s'.toList)\/s=s'/\((args.length:Int) != (args'.length:Int))=true)):=by
    by_cases e1:op=op'
    ·by_cases e2:n=n'
     ·by_cases e3:s=s'
      ·refine Or.inr ⟨by simp[e1],Or.inr ⟨by simp[e2],Or.inr ⟨e3,?_⟩⟩⟩;have:args.length≠args'.length:=λe4=>h1 ⟨e1,e2,e3,e4⟩;simp;omega
      ·refine Or.inr ⟨by simp[e1],Or.inr ⟨by simp[e2],Or.inl ?_⟩⟩;exact λh=>by have:=zju e3;rw[h]at this;simp at this
     ·exact Or.inr ⟨by simp[e1],Or.inl (by simpa using e2)⟩
    ·exact Or.inl (by simpa using e1)
   clear h1;rcases hcase with hd|⟨hd,hd2|⟨hd2,hd3|⟨rfl,hd4⟩⟩⟩
   all_goals
    go_enter Tryz.func99, Tryz.ntmps99;go_wp2_with fail;go_ret;exact⟨by rw[HNo.out];rfl,bel⟩
def yW (b:Bool) (w:World) (e:Ending) (w':World):Prop:=e=.returned (.bool b)/\Below w.heap.size w w'
end Go.Proofs.YtnfkbliokjjggaaGreatDoor
