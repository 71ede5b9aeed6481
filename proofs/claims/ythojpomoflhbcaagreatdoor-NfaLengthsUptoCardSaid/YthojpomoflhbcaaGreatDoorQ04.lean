/- The reference of expressions: Split, IsVar, wrong. -/
import Derived.Test.YthojpomoflhbcaaGreatDoorQ03
import Derived.Deep.Cut
import Derived.Deep.AppendLies
import Derived.Deep.RegionHeld3
import Derived.Deep.RegionLaw
import Derived.Laws.Rows
import Derived.Test.YthojpomoflhbcaaGreatDoorQ00
import Derived.Deep.DrawnRows
import Derived.Deep.LoopGhost
set_option maxHeartbeats 8000000
set_option maxRecDepth 100000
set_option linter.unusedSimpArgs false
set_option linter.unusedVariables false
set_option linter.unnecessarySimpa false
namespace Go.Proofs.YthojpomoflhbcaaGreatDoor
open Go.RowKit
theorem Yd (b:UInt8) (l:List UInt8):Lib.index (b::l) [91]=if b=91 then 0 else if Lib.index l [91]=-1 then -1 else Lib.index l [91]+1:=by
 have h:Lib.index (b::l) [91]=if [91].isPrefixOf (b::l) then 0 else if Lib.index l [91]==-1 then -1 else Lib.index l [91]+1:=rfl
 have h2:([91]:List UInt8).isPrefixOf (b::l)=(91==b):=by simp[List.isPrefixOf]
 rw[h,h2];by_cases e:b=91
 ·subst e;rfl
 ·rw[if_neg e];have:((91:UInt8)==b)=false:=by simpa using λh=>e h.symm
  rw[this];simp
theorem zgR:∀(A r:List UInt8),(91:UInt8)∉A->Lib.index (A++91::r) [91]=A.length
 | [],r,_=>by rw[List.nil_append,Yd,if_pos rfl];rfl
 |b::A,r,h=>by have hb:b≠91:=λe=>h (by rw[e];exact List.mem_cons_self);have ih:=zgR A r (λhh=>h (List.mem_cons_of_mem _ hh));rw[List.cons_append,Yd,if_neg hb,ih,if_neg (by omega)];simp
theorem zmv (A r:List UInt8) (h:(91:UInt8)∉A):Lib.cut (A++91::r) [91]=(A,r,true):=by unfold Lib.cut;rw[zgR A r h,if_pos (by omega)];simp
theorem Q2:∀(l:List UInt8),0<=Lib.index l [91]->l=l.take (Lib.index l [91]).toNat++91::l.drop ((Lib.index l [91]).toNat+1)
 | [],h=>by exfalso;exact absurd h (by decide)
 |b::l,h=>by
  rw[Yd]at h⊢;by_cases e:b=91
  ·subst e;simp
  ·rw[if_neg e]at h⊢;by_cases e1:Lib.index l [91]=-1
   ·rw[if_pos e1]at h;exact absurd h (by decide)
   ·have hge:=Lib.index_ge l [91];have ih:=Q2 l (by omega);rw[if_neg e1];obtain⟨k,hk⟩:=Int.eq_ofNat_of_zero_le (show 0<=Lib.index l [91] by omega);rw[hk]at ih⊢;have:((k:Int)+1).toNat=k+1:=by omega
    rw[this];simp only[List.take_succ_cons,List.drop_succ_cons,List.cons_append];rw[Int.toNat_natCast]at ih;rw[←ih]
theorem zaY {A:List UInt8} (h:yW A=true):(91:UInt8)∉A:=by
 intro hm;have hw:zaE A=true:=by unfold yW at h;simp only[Bool.and_eq_true]at h;simp_all
 unfold zaE at hw;rw[Bool.and_eq_true]at hw;have:=List.all_eq_true.1 hw.1 _ hm;exact absurd this (by decide)
theorem zcj (l:List UInt8):YT l=true<->∃A x,l=A++[91,x,93]/\yW A=true/\48<=x.toNat/\x.toNat<56:=by
 constructor
 ·intro h;unfold YT at h;simp only[Bool.and_eq_true]at h;obtain⟨⟨h1,h2⟩,h3⟩:=h;unfold Lib.cut at h1 h2 h3;split at h1
  ·rename_i hi;rw[if_pos hi]at h2 h3;have hs:=Q2 l hi;dsimp only at h2 h3;have hl:([91]:List UInt8).length=1:=rfl;rw[hl]at h3;generalize l.drop ((Lib.index l [91]).toNat+1)=r at hs h3;by_cases hr:r.length=2
   ·obtain⟨x,y,rfl⟩:∃x y,r=[x,y]:=by
     match r,hr with
     | [x,y],_=>exact⟨x,y,rfl⟩
    rw[Yb]at h3;obtain⟨hy,hx,hx'⟩:=of_decide_eq_true h3;have hy':y=93:=UInt8.toNat_inj.1 hy;exact⟨_,x,by rw[←hy'];exact hs,h2,hx,hx'⟩
   ·rw[QV hr]at h3;exact absurd h3 (by decide)
  ·simp at h1
 ·rintro ⟨A,x,rfl,h2,hx,hx'⟩;unfold YT;have hc:=zmv A [x,93] (zaY h2);have:A++[91,x,93]=A++91::[x,93]:=rfl;rw[this,hc];simp only[Bool.and_eq_true];exact⟨⟨trivial,h2⟩,by rw[Yb];exact decide_eq_true ⟨rfl,hx,hx'⟩⟩
theorem zck (s:ByteArray) (m:Nat) (hm:s.size=m+3) (b0:m<s.size) (b1:m+1<s.size) (b2:m+2<s.size) :
 YT s.data.toList=(decide ((s[m+2]'b2).toNat=93)&&decide ((s[m]'b0).toNat=91)&&decide (48<=(s[m+1]'b1).toNat/\(s[m+1]'b1).toNat<56)&&yW (s.data.toList.take m)):=by
 have hlen:s.data.toList.length=m+3:=by simpa using hm
 have hdec:s.data.toList=s.data.toList.take m++[s[m]'(by omega),s[m+1]'(by omega),s[m+2]'(by omega)]:=by
  conv=>lhs;rw[←List.take_append_drop m s.data.toList]
  congr 1;rw[List.drop_eq_getElem_cons (by omega),List.drop_eq_getElem_cons (i:=m+1) (by omega),List.drop_eq_getElem_cons (i:=m+1+1) (by omega),List.drop_eq_nil_of_le (by omega)];rfl
 generalize hA:s.data.toList.take m=A at hdec⊢;generalize (s[m]'(by omega))=x at hdec⊢;generalize (s[m+1]'(by omega))=y at hdec⊢;generalize (s[m+2]'(by omega))=z at hdec⊢;rw[Bool.eq_iff_iff,zcj,hdec];simp only[Bool.and_eq_true,decide_eq_true_eq];constructor
 ·rintro ⟨A',x',he,hn,h1,h2⟩;have hl:=congrArg List.length he;simp only[List.length_append,List.length_cons,List.length_nil]at hl;obtain⟨e1,e2⟩:=List.append_inj he (by omega);simp only[List.cons.injEq,and_true]at e2;obtain⟨rfl,rfl,rfl⟩:=e2;exact⟨⟨⟨rfl,rfl⟩,h1,h2⟩,by rw[e1];exact hn⟩
 ·rintro ⟨⟨⟨hz,hx⟩,h1,h2⟩,hn⟩;exact⟨A,y,by rw[UInt8.toNat_inj.1 (show x.toNat=(91:UInt8).toNat from hx),UInt8.toNat_inj.1 (show z.toNat=(93:UInt8).toNat from hz)],hn,h1,h2⟩
theorem zdv (l:List UInt8) (h:l.length<4):YT l=false:=by
 cases hc:YT l
 ·rfl
 ·obtain⟨A,x,rfl,hn,_⟩:=(zcj l).1 hc;simp only[List.length_append,List.length_cons,List.length_nil]at h;have:A=[]:=List.length_eq_zero_iff.1 (by omega);subst this;exact absurd hn (by decide)
theorem zj3 (s:ByteArray) (m:Nat) (h:m<=s.size):(s.extract 0 m).data.toList=s.data.toList.take m:=by simp[ByteArray.data_extract]
theorem zfT (s:ByteArray) (w:World) (hs:s.size<=1073741824) :
 Calls Tryz.prog 174 #[.string s] w λe w'=>(∃(t:ByteArray) (i:Int),e=.returned (.tuple #[.string t,.int .i64 i,.bool (YT s.data.toList)]))/\Below w.heap.size w w':=by
 by_cases h4:s.size<4
 ·have HE:=Lib.hid (zdv s.data.toList (by simpa using h4));go_enter Tryz.func174, Tryz.ntmps174;go_wp2_with fail;go_ret3;exact⟨⟨_,_,by rw[HE.out];rfl⟩,Below.refl _ _⟩
 ·obtain⟨m,hm⟩:∃m,s.size=m+3:=⟨s.size-3,by omega⟩;have HT:=Lib.hid (zj3 s m (by omega));have i1:(s.size:Int)-1=((m+2:Nat):Int):=by omega
  have i2:(s.size:Int)-2=((m+1:Nat):Int):=by omega
  have i3:(s.size:Int)-3=((m:Nat):Int):=by omega
  have b2:m+2<s.size:=by omega
  have b1:m+1<s.size:=by omega
  have b0:m<s.size:=by omega
  have HE:=Lib.hid (zck s m hm b0 b1 b2);have HM:=Lib.hid hm;clear hm;have q1:(s[m+1]'b1).toNat<256:=UInt8.toNat_lt _;have HN:=Lib.hid (λw=>ZM (s.extract 0 m) w (by rw[ByteArray.size_extract];omega));rw[HT.out]at HN;have HR:∀c,YT s.data.toList=c->Hid (YT s.data.toList=c):=λ_ h=>h;by_cases h93:(s[m+2]'b2).toNat=93
  ·by_cases h91:(s[m]'b0).toNat=91
   ·by_cases h48:(s[m+1]'b1).toNat<48
    ·have HX:=HR false (by rw[HE.out,decide_eq_false (p:=48<=_/\_) (by omega)];simp);go_enter Tryz.func174, Tryz.ntmps174;go_wp2_with fail;go_ret3;exact⟨⟨_,_,by rw[HX.out];rfl⟩,Below.refl _ _⟩
    ·by_cases h56:(s[m+1]'b1).toNat<56
     ·have HX:=HR (yW (s.data.toList.take m)) (by rw[HE.out,decide_eq_true h93,decide_eq_true h91,decide_eq_true (p:=48<=_/\_) ⟨by omega,h56⟩];simp);cases hn:yW (s.data.toList.take m)
      all_goals
       go_enter Tryz.func174, Tryz.ntmps174;go_wp2_with (go_at_call 125;refine(HN.out _).mono ?_;rintro e w1 ⟨rfl,hb1⟩;rw[hn]);go_ret3;exact⟨⟨_,_,by rw[HX.out,hn];rfl⟩,by assumption⟩
     ·have HX:=HR false (by rw[HE.out,decide_eq_false (p:=48<=_/\_) (by omega)];simp);go_enter Tryz.func174, Tryz.ntmps174;go_wp2_with fail;go_ret3;exact⟨⟨_,_,by rw[HX.out];rfl⟩,Below.refl _ _⟩
   ·have HX:=HR false (by rw[HE.out,decide_eq_false h91];simp);have hne:(((s[m]'b0).toNat:Int) != 91)=true:=by simp;omega
    go_enter Tryz.func174, Tryz.ntmps174;go_wp2_with fail;go_ret3;exact⟨⟨_,_,by rw[HX.out];rfl⟩,Below.refl _ _⟩
  ·have HX:=HR false (by rw[HE.out,decide_eq_false h93];simp);go_enter Tryz.func174, Tryz.ntmps174;go_wp2_with fail;go_ret3;exact⟨⟨_,_,by rw[HX.out];rfl⟩,Below.refl _ _⟩
theorem za4 (s:ByteArray) (w:World) (hs:s.size<=1073741824) :
 Calls Tryz.prog 117 #[.string s] w λe w'=>e=.returned (.bool (zis s.data.toList))/\Below w.heap.size w w':=by
 have hE:=Lib.hid (zfT s w hs);go_enter Tryz.func117, Tryz.ntmps117;go_wp2_with fail;refine hE.out.mono ?_;rintro e w1 ⟨⟨t,i,rfl⟩,hb1⟩;have hN:=Lib.hid ((ZM s w1 hs).mono λe w' h=>(⟨h.1,hb1.trans (h.2.mono hb1.size)⟩:_/\Below w.heap.size w w'));cases he:YT s.data.toList;all_goals go_wp2_with (go_at_call 125;refine hN.out.mono ?_;rintro e w2 ⟨rfl,hb2⟩)
 all_goals go_ret
 all_goals exact⟨by unfold zis;rw[he];rfl,by assumption⟩
theorem zf4 (op n:Int) (s:ByteArray) (args:List Ex) (a:Option Addr) (cap:Nat) (w:World) (hs:s.size<=1073741824) (hl:args.length<=1073741824) :
 Calls Tryz.prog 269 #[.agg #[.int .i64 op,.int .i64 n,.string s,.slice a args.length cap]] w λe w'=>e=.returned (.int .i64 (qO (.mk op n s args)))/\Below w.heap.size w w':=by
 go_enter Tryz.func269, Tryz.ntmps269;go_wp2_with (first|(go_at_call 285;refine(zf0 _ _).mono ?_;rintro e w' ⟨rfl,rfl⟩)|(go_at_call 286;refine(zfS _ _).mono ?_;rintro e w' ⟨rfl,rfl⟩)|(go_at_call 117;go_must (refine(fr (W0:=w) (B:=w.heap.size) (za4 _ _ hs) bel sz).mono ?_;rintro e w1 ⟨rfl,hc1,hf1,hz1,hb1⟩;try simp only[World.size_alloc,World.size_setCell,World.size_drew,World.heap_drewN]at hz1;try (have hzl0:w.heap.size<w1.heap.size:=by omega);try (have hzl1:w.heap.size+1<w1.heap.size:=by omega);try (have hzl2:w.heap.size+2<w1.heap.size:=by omega);try (have hzl3:w.heap.size+3<w1.heap.size:=by omega);try (have hzl4:w.heap.size+4<w1.heap.size:=by omega);try (have hzl5:w.heap.size+5<w1.heap.size:=by omega)))|(go_at_call 125;go_must (refine(fr (W0:=w) (B:=w.heap.size) (ZM _ _ hs) bel sz).mono ?_;rintro e w1 ⟨rfl,hc1,hf1,hz1,hb1⟩;try simp only[World.size_alloc,World.size_setCell,World.size_drew,World.heap_drewN]at hz1;try (have hzl0:w.heap.size<w1.heap.size:=by omega);try (have hzl1:w.heap.size+1<w1.heap.size:=by omega);try (have hzl2:w.heap.size+2<w1.heap.size:=by omega);try (have hzl3:w.heap.size+3<w1.heap.size:=by omega);try (have hzl4:w.heap.size+4<w1.heap.size:=by omega);try (have hzl5:w.heap.size+5<w1.heap.size:=by omega))))
 all_goals go_ret
 all_goals refine⟨?_,bel⟩
 all_goals congr 2
 all_goals simp_all [qO,qD,Ex.op,Ex.n,Ex.name,Ex.args,ByteArray.toList_eq]
 all_goals first|omega|exact decide_eq_true (by omega)|exact decide_eq_false (by omega)|grind
structure Seen where
 n:Nat
 d:Nat
 f:Int
 vs:List ByteArray
 ar:List ByteArray
def stepW (st:Seen) (dp:Nat) (e:Ex):Seen:=⟨st.n+1,max st.d dp,if st.f=0 then qO e else st.f,zV [2] st.vs e,zV [3,24] st.ar e⟩
noncomputable def za7 (e:Ex):Nat->Seen->Seen:=e.para λe rs dp st=>rs.foldl (λst r=>r (dp+1) st) (stepW st dp e)
theorem zh7 (e:Ex) (dp:Nat) (st:Seen):za7 e dp st=e.args.foldl (λst x=>za7 x (dp+1) st) (stepW st dp e):=by unfold za7;rw[Ex.para_eq,List.foldl_map]
noncomputable def Z3 (l:List Ex) (dp:Nat) (st:Seen) (k:Nat):Seen:=(l.take k).foldl (λst x=>za7 x (dp+1) st) st
theorem za8 (l:List Ex) (dp:Nat) (st:Seen) (k:Nat) (h:k<l.length):Z3 l dp st (k+1)=za7 (l[k]'h) (dp+1) (Z3 l dp st k):=by unfold Z3;rw[List.take_succ_eq_append_getElem h,List.foldl_append];rfl
theorem zh8 (e:Ex) (dp:Nat) (st:Seen):Z3 e.args dp (stepW st dp e) e.args.length=za7 e dp st:=by rw[zh7];unfold Z3;rw[List.take_of_length_le (Nat.le_refl _)]
theorem zby (l l':List Ex):yI (l++l')=if yI l=0 then yI l' else yI l:=by
 induction l with
 |nil=>simp[yI]
 |cons e l ih =>
  have h1:yI (e::l++l')=if qO e=0 then yI (l++l') else qO e:=rfl
  have h2:yI (e::l)=if qO e=0 then yI l else qO e:=rfl
  by_cases h:qO e=0
  ·rw[if_pos h]at h1 h2;simp only[h1,h2,ih]
  ·rw[if_neg h]at h1 h2;simp only[h1,h2,if_neg h]
theorem zeQ (e:Ex):∀(dp:Nat) (st:Seen),1<=dp->(za7 e dp st).n=st.n+e.nodes.length/\(za7 e dp st).d=max st.d (dp+e.depth-1)/\(za7 e dp st).f=(if st.f=0 then yI e.nodes else st.f) /\
 (za7 e dp st).vs=e.nodes.foldl (zV [2]) st.vs/\(za7 e dp st).ar=e.nodes.foldl (zV [3,24]) st.ar:=by
 induction e using Ex.ind with
 |h e ih =>
  intro dp st hdp
  have key:∀(l:List Ex),(∀a,a∈l->a∈e.args)->∀st:Seen,(l.foldl (λst x=>za7 x (dp+1) st) st).n=st.n+((l.map Ex.nodes).flatten).length /\
   (l.foldl (λst x=>za7 x (dp+1) st) st).d=(l.map Ex.depth).foldl (λm d=>max m (dp+d)) st.d /\
   (l.foldl (λst x=>za7 x (dp+1) st) st).f=(if st.f=0 then yI ((l.map Ex.nodes).flatten) else st.f) /\
   (l.foldl (λst x=>za7 x (dp+1) st) st).vs=((l.map Ex.nodes).flatten).foldl (zV [2]) st.vs /\
   (l.foldl (λst x=>za7 x (dp+1) st) st).ar=((l.map Ex.nodes).flatten).foldl (zV [3,24]) st.ar:=by
   intro l
   induction l with
   |nil=>intro _ st;refine⟨rfl,rfl,?_,rfl,rfl⟩;simp[yI]
   |cons x l ihl =>
    intro hm st;obtain⟨a1,a2,a3,a4,a5⟩:=ih x (hm x List.mem_cons_self) (dp+1) st (by omega);obtain⟨b1,b2,b3,b4,b5⟩:=ihl (λa ha=>hm a (List.mem_cons_of_mem _ ha)) (za7 x (dp+1) st);simp only[List.foldl_cons,List.map_cons,List.flatten_cons,List.length_append,List.foldl_append];refine⟨by rw[b1,a1];omega,?_,?_,by rw[b4,a4],by rw[b5,a5]⟩
    ·rw[b2,a2];congr 1;omega
    ·rw[b3,a3,zby];by_cases h0:st.f=0
     ·simp[h0]
     ·simp[h0]
  obtain⟨b1,b2,b3,b4,b5⟩:=key e.args (λ_ h=>h) (stepW st dp e);rw[zh7,Ex.nodes_eq];simp only[List.length_cons,List.foldl_cons];refine⟨by rw[b1];simp only[stepW];omega,?_,?_,b4,b5⟩
  ·rw[b2,Ex.depth_eq];have hf:∀(l:List Nat) (m:Nat),l.foldl (λm d=>max m (dp+d)) (max m dp)=max m (dp+l.foldl max 0):=by
    intro l
    induction l with
    |nil=>intro m;simp
    |cons x l ihl =>
     intro m;simp only[List.foldl_cons];have e1:max (max m dp) (dp+x)=max (max m (dp+x)) dp:=by omega
     rw[e1,ihl,zg7 l (max 0 x)];omega
   simp only[stepW];rw[hf];omega
  ·rw[b3];simp only[stepW,yI];by_cases h0:st.f=0
   ·simp only[h0,if_true]
   ·simp[h0]
theorem zf5 (e:Ex):za7 e 1 ⟨0,0,0,[],[]⟩=⟨e.nodes.length,e.depth,yI e.nodes,zG [2] e,zG [3,24] e⟩:=by
 obtain⟨a1,a2,a3,a4,a5⟩:=zeQ e 1 ⟨0,0,0,[],[]⟩ (Nat.le_refl _);have hd:1<=e.depth:=by rw[Ex.depth_eq];omega
 cases h:za7 e 1 ⟨0,0,0,[],[]⟩ with
 |mk n d f vs ar =>rw[h]at a1 a2 a3 a4 a5;simp only[Seen.mk.injEq];exact⟨by simpa using a1,by have:=a2;simp only at this;omega,by simpa using a3,a4,a5⟩
def ziC (B p:Nat) (st:Seen) (w:World):Prop :=
 B<=p/\∃v1 v2,w.heap[p]? = some (.cells #[.int .i64 st.n,.int .i64 st.d,.int .i64 st.f,v1,v2] 216 (0,0)) /\
  w.ownsRow B 9 1 v1 st.vs.length (st.vs.map Value.string)/\w.ownsRow B 9 1 v2 st.ar.length (st.ar.map Value.string)/\(∀k,v1.ownBlock=some k->v2.ownBlock≠some k)
theorem ziC.keep {B p:Nat} {st:Seen} {w w':World} (h:ziC B p st w) (hb:Below w.heap.size w w'):ziC B p st w':=by obtain⟨h0,v1,v2,h1,h2,h3,h4⟩:=h;exact⟨h0,v1,v2,by rw[hb.block _ (lt_of_block h1)];exact h1,ownsRow_below h2 hb,ownsRow_below h3 hb,h4⟩
theorem zeI {P:Program} {w:World} {ops:Array Oper} {o:Oper} {a:Act} {K:Act->World->Prop} {Q:Exit->Act->World->Prop} {E:Prop} {t e:TypeId} {size:Nat} (he:Elem P t e size) (hgd:o.guard=none) (s x:Operand)
 (ho:o.op=.call { callee:=.builtin .append,args:=#[s,x],argTypes:=#[t,t] })
 (base:Nat) (v:Value) (n:Nat) (xs:List Value) (hs:a.eval s=v) (hown:w.ownsRow base e size v n xs)
 (news:List Value) (hl:news.length=size) (h1:∀u∈news,u.oneCell'=true) (k c:Nat) (hx:a.eval x=.slice (some ⟨k,0,none⟩) 1 c) (hk:w.heap[k]? = some (.cells news.toArray e (0,0))) (hn:n<=1073741824) (hbase:base<=w.heap.size) (H:Nat) (hH:w.heap.size=H)
 (h:∀g cap w',w'.ownsRow base e size (.slice (some ⟨g,0,none⟩) (n+1) cap) (n+1) (xs++news)->w.grownBy w' v.ownBlock->(v.ownBlock=some g\/g=H)->g<w'.heap.size->K (a.put o.dst (.slice (some ⟨g,0,none⟩) (n+1) cap)) w') :
 if Region.wanted o (yielded ops a.tmps)=true then Oper.wp P o a w K Q else E:=by
 obtain⟨ht,i,z,bytes,hi,hz,hsz,hby,hzs,h0,hb⟩:=he;refine step_append_lies w hgd s x t ho base e i z size bytes ht hi hz hsz hby hzs h0 v n xs hs hown ⟨k,0,none⟩ 1 c news hx (by omega) ?_ h1 (by omega) (by unfold maxLen;omega) ?_ hbase H hH h
 ·have:=World.news_of_block hk;simpa using this
 ·calc (n+1)*bytes<=1073741825*1024:=Nat.mul_le_mul (by omega) hb
   _<=_:=by decide
structure zaw (B p bx:Nat) (box:Array Value) (w0:World) (cs:Array Value) (v1:Value) (l1:List ByteArray) (v2:Value) (l2:List ByteArray) (w:World):Prop where
 hB:B<=p
 cells:w.heap[p]? = some (.cells cs 216 (0,0))
 own1:w.ownsRow B 9 1 v1 l1.length (l1.map Value.string)
 own2:w.ownsRow B 9 1 v2 l2.length (l2.map Value.string)
 ne:∀k,v1.ownBlock=some k->v2.ownBlock≠some k
 box:w.heap[bx]? = some (.cells box 24 (0,0))
 kt:KT B w0 w
theorem zaw.below {B p bx:Nat} {box:Array Value} {w0:World} {cs:Array Value} {v1:Value} {l1:List ByteArray} {v2:Value} {l2:List ByteArray} {w w':World} (h:zaw B p bx box w0 cs v1 l1 v2 l2 w) (hb:Below w.heap.size w w'):zaw B p bx box w0 cs v1 l1 v2 l2 w' :=
 ⟨h.hB,by rw[hb.block _ (lt_of_block h.cells)];exact h.cells,ownsRow_below h.own1 hb,ownsRow_below h.own2 hb,h.ne,by rw[hb.block _ (lt_of_block h.box)];exact h.box,h.kt.trans (KT.of_below hb)⟩
theorem zaw.store {B p bx:Nat} {box:Array Value} {w0:World} {cs:Array Value} {v1:Value} {l1:List ByteArray} {v2:Value} {l2:List ByteArray} {w:World} (h:zaw B p bx box w0 cs v1 l1 v2 l2 w) (k:Nat) (u:Value):zaw B p bx box w0 (cs.setIfInBounds k u) v1 l1 v2 l2 (w.setCell ⟨p,k,none⟩ u):=by
 have hne:bx≠p:=by rintro rfl;have:=h.cells.symm.trans h.box;simp at this
 exact⟨h.hB,heap_setCell_same _ _ _ _ _ u h.cells,ZL h.own1 h.cells (by decide) _ _,ZL h.own2 h.cells (by decide) _ _,h.ne,by rw[Below.heap_setCell _ _ _ _ hne];exact h.box,
  h.kt.setCell h.cells (by unfold zbj;decide) h.hB _⟩
theorem zbN {w w':World} {base:Nat} {e:TypeId} {size:Nat} {v:Value} {n:Nat} {xs:List Value} {row:Option Nat} (h:w.ownsRow base e size v n xs) (hg:w.grownBy w' row) (hne:∀k,v.ownBlock=some k->some k≠row):w'.ownsRow base e size v n xs:=by
 obtain⟨h1,h2⟩:=h;refine⟨h1,?_⟩;rcases h2 with h2|⟨g,cap,cur,hv,hb,hh,r⟩
 ·exact Or.inl h2
 ·exact Or.inr ⟨g,cap,cur,hv,hb,by rw[hg.block _ (lt_of_block hh) (hne g (by rw[hv];rfl))];exact hh,r⟩
theorem zaw.grow1 {B p bx:Nat} {box:Array Value} {w0:World} {cs:Array Value} {v1:Value} {l1:List ByteArray} {v2:Value} {l2:List ByteArray} {w:World} (h:zaw B p bx box w0 cs v1 l1 v2 l2 w) (s:ByteArray) {wg:World} {gg gcap:Nat}
 (hown:wg.ownsRow B 9 1 (.slice (some ⟨gg,0,none⟩) (l1.length+1) gcap) (l1.length+1) (l1.map Value.string++[.string s])) (hg:((w.alloc (.cells #[.string s] 9)).drew).grownBy wg v1.ownBlock) (hat:v1.ownBlock=some gg\/gg=w.heap.size+1) :
 zaw B p bx box w0 cs (.slice (some ⟨gg,0,none⟩) (l1++[s]).length gcap) (l1++[s]) v2 l2 wg:=by
 have hBA:Below w.heap.size w (w.alloc (.cells #[.string s] 9)):=(Below.refl _ _).alloc (Nat.le_refl _) _;have hBA':Below w.heap.size w ((w.alloc (.cells #[.string s] 9)).drew):=below_drewN hBA 1;have h':=h.below hBA';have hz:=h.hB;have hl:=lt_of_block h.cells;refine⟨h.hB,?_,?_,?_,?_,?_,?_⟩
 ·rw[hg.block _ (lt_of_block h'.cells) (zX h.own1 h.cells (by decide))];exact h'.cells
 ·simpa using hown
 ·exact zbN h'.own2 hg (λk hk e=>h.ne k e.symm hk)
 ·intro k hk hk2;have hkg:gg=k:=by simpa [Value.ownBlock] using hk
  subst hkg;rcases hat with hat|hat
  ·exact h.ne _ hat hk2
  ·have:=(h.own2.lt _ hk2).2;omega
 ·rw[hg.block _ (lt_of_block h'.box) (zX h.own1 h.box (by decide))];exact h'.box
 ·refine h'.kt.grown hg (λk hk=>(h.own1.lt k hk).1) ?_;intro k c t z hk hh hs;obtain⟨cur,hcur,_⟩:=Zg h'.own1 hk;rw[hcur]at hh;simp only[Option.some.injEq,Obj.cells.injEq]at hh;rw[←hh.2.1]at hs;exact absurd hs (by unfold zbj;decide)
theorem zaw.swap {B p bx:Nat} {box:Array Value} {w0:World} {cs:Array Value} {v1:Value} {l1:List ByteArray} {v2:Value} {l2:List ByteArray} {w:World} (h:zaw B p bx box w0 cs v1 l1 v2 l2 w):zaw B p bx box w0 cs v2 l2 v1 l1 w :=
 ⟨h.hB,h.cells,h.own2,h.own1,λk h2 h1=>h.ne k h1 h2,h.box,h.kt⟩
theorem zaw.inv {B p bx:Nat} {box:Array Value} {w0:World} {st:Seen} {v1 v2:Value} {w:World} (h:zaw B p bx box w0 #[.int .i64 st.n,.int .i64 st.d,.int .i64 st.f,v1,v2] v1 st.vs v2 st.ar w):ziC B p st w :=
 ⟨h.hB,v1,v2,h.cells,h.own1,h.own2,h.ne⟩
theorem zcV (l:List Ex) (dp:Nat) (st:Seen) (k:Nat):k<=l.length->(Z3 l dp st k).n=st.n+(zD l k).length/\(Z3 l dp st k).d<=max st.d (dp+(zD l k).length)/\(Z3 l dp st k).vs.length<=st.vs.length+(zD l k).length/\(Z3 l dp st k).ar.length<=st.ar.length+(zD l k).length:=by
 induction k with
 |zero=>intro _;refine⟨by simp[Z3,zD],by simp[Z3,zD];omega,by simp[Z3,zD],by simp[Z3,zD]⟩
 |succ k ih =>intro hk;obtain⟨h1,h2,h3,h4⟩:=ih (by omega);obtain⟨a1,a2,_,a4,a5⟩:=zeQ (l[k]'(by omega)) (dp+1) (Z3 l dp st k) (by omega);have hd:=qv (l[k]'(by omega));have n4:=Zx [2] (l[k]'(by omega)).nodes (Z3 l dp st k).vs;have n5:=Zx [3,24] (l[k]'(by omega)).nodes (Z3 l dp st k).ar;rw[za8 _ _ _ _ (by omega),qC _ _ (by omega),List.length_append,a1,a2,a4,a5];refine⟨by omega,by omega,by omega,by omega⟩
theorem zlS (B p:Nat) (w0:World) (hw0:B=w0.heap.size) (e:Ex):∀(st:Seen) (dp:Nat) (a:Option Addr) (cap:Nat) (w:World),st.n+e.nodes.length<=1073741824->dp+e.nodes.length<=1073741824->st.d<=1073741824->st.vs.length<=st.n->st.ar.length<=st.n ->
 ziC B p st w->Below B w0 w->yY w0 e a cap ->
 Calls Tryz.prog 236 #[.pointer (some ⟨p,0,none⟩),yu e a cap,.int .i64 dp] w λr w'=>r=.returned (.tuple #[])/\ziC B p (za7 e dp st) w'/\KT B w w':=by
 induction e using Ex.ind with
 |h e ih =>
  intro st dp a cap w hn hdp hd hvl hal hI hB hE;obtain⟨op,n,s,args⟩:=e;have hlen:=hE.2.2.1;have hadr:=hE.2.addr;have hnl:(Ex.mk op n s args).nodes.length=(zD args args.length).length+1:=by rw[xF];simp[Ex.args_mk]
  have hsz:=hE.1;simp only[Ex.args_mk,Ex.name_mk]at hlen hadr hsz;obtain⟨h0,v1,v2,hp,o1,o2,hne⟩:=hI;have hBA:Below w.heap.size w (w.alloc (.cells #[.int .i64 op,.int .i64 n,.string s,.slice a args.length cap] 24)):=(Below.refl _ _).alloc (Nat.le_refl _) _
  have hS0:zaw B p w.heap.size #[.int .i64 op,.int .i64 n,.string s,.slice a args.length cap] w #[.int .i64 st.n,.int .i64 st.d,.int .i64 st.f,v1,v2] v1 st.vs v2 st.ar (w.alloc (.cells #[.int .i64 op,.int .i64 n,.string s,.slice a args.length cap] 24)) :=
   ⟨h0,by rw[hBA.block _ (lt_of_block hp)];exact hp,ownsRow_below o1 hBA,ownsRow_below o2 hBA,hne,zi _ _,KT.of_below hBA⟩
  have HS0:=Lib.hid hS0;have HN:=Lib.hid (⟨hn,hdp,hvl,hal,hnl⟩:_/\_/\_/\_/\_);have HB:=Lib.hid hB;have HE:=Lib.hid hE;have HIH:=Lib.hid ih;have HA:=Lib.hid hadr;have HW:=Lib.hid hw0;have hn1:st.n+1<=1073741824:=by omega
  have hdp1:dp<=1073741824:=by omega
  clear hS0 hn hdp hvl hal hnl hB hE ih hadr hw0 hp o1 o2 hne hBA;simp only[yu,Ex.op_mk,Ex.n_mk,Ex.name_mk,Ex.args_mk];go_enter Tryz.func236, Tryz.ntmps236;go_upto_region 1 with fail;generalize w.alloc (.cells #[.int .i64 op,.int .i64 n,.string s,.slice a args.length cap] 24)=wb at HS0⊢;have hpc:=HS0.out.cells;have c0:wb.cell? ⟨p,0,none⟩=some (.int .i64 st.n):=by simp[World.cell?,hpc]
  have c1:wb.cell? ⟨p,1,none⟩=some (.int .i64 st.d):=by simp[World.cell?,hpc]
  have f0:wb.frozen? ⟨p,0,none⟩=false:=by simp[World.frozen?,hpc]
  have f1:wb.frozen? ⟨p,1,none⟩=false:=by simp[World.frozen?,hpc]
  clear hpc;go_upto_if 20 with fail;go_cut [] from 7 (λwx=>zaw B p w.heap.size #[.int .i64 op,.int .i64 n,.string s,.slice a args.length cap] w #[.int .i64 ((st.n+1:Nat):Int),.int .i64 ((max st.d dp:Nat):Int),.int .i64 st.f,v1,v2] v1 st.vs v2 st.ar wx);case first =>
   by_cases hdd:st.d<dp
   ·go_wp2_with fail;go_meet;case rel =>
     have e1:max st.d dp=dp:=by omega
     rw[e1];have:=(HS0.out.store 0 (.int .i64 ((st.n+1:Nat):Int))).store 1 (.int .i64 dp);exact this
   ·go_wp2_with fail;go_meet;case rel =>
     have e1:max st.d dp=st.d:=by omega
     rw[e1];exact HS0.out.store 0 (.int .i64 ((st.n+1:Nat):Int))
  case rest =>
   have hpc:=hcut.cells;have hbx:=hcut.box;have c2:wc.cell? ⟨p,2,none⟩=some (.int .i64 st.f):=by simp[World.cell?,hpc]
   have b0:wc.cell? ⟨w.heap.size,0,none⟩=some (.int .i64 op):=by simp[World.cell?,hbx]
   have b1:wc.cell? ⟨w.heap.size,1,none⟩=some (.int .i64 n):=by simp[World.cell?,hbx]
   have b2:wc.cell? ⟨w.heap.size,2,none⟩=some (.string s):=by simp[World.cell?,hbx]
   have b3:wc.cell? ⟨w.heap.size,3,none⟩=some (.slice a args.length cap):=by simp[World.cell?,hbx]
   have HS1:=Lib.hid hcut;have HWr:=Lib.hid (zf4 op n s args a cap wc hsz hlen);clear hpc hbx hcut c0 c1 f0 f1 HS0;have hF:Hid ((stepW st dp (.mk op n s args)).f=if st.f=0 then qO (.mk op n s args) else st.f):=rfl;generalize hff:(stepW st dp (.mk op n s args)).f=ff at hF;have Hff:=Lib.hid hff;clear hff;go_upto_if 29 with fail;go_cut [] from 7 (λwx=>zaw B p w.heap.size #[.int .i64 op,.int .i64 n,.string s,.slice a args.length cap] w #[.int .i64 ((st.n+1:Nat):Int),.int .i64 ((max st.d dp:Nat):Int),.int .i64 ff,v1,v2] v1 st.vs v2 st.ar wx);case first =>
    by_cases hf:st.f=0
    ·have e1:Hid (ff=qO (.mk op n s args)):=by show _=_;rw[hF.out,if_pos hf]
     have hfb:(st.f==0)=true:=by simpa using hf
     clear hf;go_wp2_with fail;refine HWr.out.mono ?_;rintro e w2 ⟨rfl,hb2⟩;have HS2:=Lib.hid (HS1.out.below hb2);have f2:w2.frozen? ⟨p,2,none⟩=false:=by simp[World.frozen?,HS2.out.cells]
     have c2':w2.cell? ⟨p,2,none⟩=some (.int .i64 st.f):=by simp[World.cell?,HS2.out.cells]
     clear hb2 c2 b0 b1 b2 b3;go_wp2_with fail;go_meet;case rel =>rw[e1.out];exact HS2.out.store 2 _
    ·have e1:Hid (ff=st.f):=by show _=_;rw[hF.out,if_neg hf]
     have hfb:(st.f==0)=false:=by simpa using hf
     clear hf;go_wp2_with fail;go_meet;case rel =>rw[e1.out];exact HS1.out
   case rest =>
    have hpc:=hcut.cells;have hbx:=hcut.box;clear c2 b0 b1 b2 b3 HS1 HWr;have c3:wc.cell? ⟨p,3,none⟩=some v1:=by simp[World.cell?,hpc]
    have b0:wc.cell? ⟨w.heap.size,0,none⟩=some (.int .i64 op):=by simp[World.cell?,hbx]
    have b2:wc.cell? ⟨w.heap.size,2,none⟩=some (.string s):=by simp[World.cell?,hbx]
    have HS1:=Lib.hid hcut;have hvl:=HN.out.2.2.1;obtain⟨ca,ck,hcv,hcs⟩:=xz hcut.own1 (by omega);subst hcv;have HH:=Lib.hid (λn=>Ze st.vs ca ck s (wc.drewN n) hcs);clear hpc hbx hcut hvl hcs;go_upto_region 6 with fail;go_cut [47] from 7 (λs47 wx=>s47=.bool (op==2&&!(Lib.containsS st.vs s))/\zaw B p w.heap.size #[.int .i64 op,.int .i64 n,.string s,.slice a args.length cap] w #[.int .i64 ((st.n+1:Nat):Int),.int .i64 ((max st.d dp:Nat):Int),.int .i64 ff,.slice ca st.vs.length ck,v2] (.slice ca st.vs.length ck) st.vs v2 st.ar wx);case first =>
     by_cases h2:op=2
     ·subst h2;cases hc:Lib.containsS st.vs s
      all_goals
       go_quiet ((go_at_call 270;exact Calls.quiet_of_same ((HH.out _).mono λe w' h=>⟨by rw[h.1,hc],h.2.symm⟩)));go_wp2_with fail;go_meet;case rel=>exact⟨by rw[hc];rfl,HS1.out.below (below_drewN (Below.refl _ _) _)⟩
     ·have h2b:(op==2)=false:=by simpa using h2
      clear h2;go_quiet (fail);go_wp2_with fail;go_meet;case rel=>exact⟨by rw[h2b];rfl,HS1.out.below (below_drewN (Below.refl _ _) _)⟩
    case rest =>
     obtain⟨rfl,hS2⟩:=hcut;have HV:Hid (zV [2] st.vs (.mk op n s args)=if (op==2&&!(Lib.containsS st.vs s))=true then st.vs++[s] else st.vs):=by show _=_;unfold zV;rw[Ex.op_mk,Ex.name_mk];by_cases h1:op=2<;>cases h2:Lib.containsS st.vs s<;>simp[h1,h2]
     generalize (op==2&&!(Lib.containsS st.vs s))=bb at HV⊢;generalize hvs':zV [2] st.vs (.mk op n s args)=vs' at HV;have Hvs':=Lib.hid hvs';clear hvs' HH HS1 c3 b0 b2;have hpc:=hS2.cells;have hbx:=hS2.box;have hvn:=HN.out.2.2.1;have hvn':st.vs.length<=1073741824:=by omega
     have c3:wc.cell? ⟨p,3,none⟩=some (.slice ca st.vs.length ck):=by simp[World.cell?,hpc]
     have f3:wc.frozen? ⟨p,3,none⟩=false:=by simp[World.frozen?,hpc]
     have b2:wc.cell? ⟨w.heap.size,2,none⟩=some (.string s):=by simp[World.cell?,hbx]
     have HS2:=Lib.hid hS2;have hplt:=lt_of_block hpc;have hblt:=lt_of_block hbx;have hBz:B<=wc.heap.size:=by have:=hS2.hB;omega
     have hnp:=zX hS2.own1 hpc (by decide);have hnb:=zX hS2.own1 hbx (by decide);clear hpc hbx hS2 hvn;go_upto_if 47 with fail;go_cut [] from 7 (λwx=>∃(c1:Option Addr) (k1:Nat),zaw B p w.heap.size #[.int .i64 op,.int .i64 n,.string s,.slice a args.length cap] w #[.int .i64 ((st.n+1:Nat):Int),.int .i64 ((max st.d dp:Nat):Int),.int .i64 ff,.slice c1 vs'.length k1,v2] (.slice c1 vs'.length k1) vs' v2 st.ar wx);case first =>
      cases bb
      ·have e1:vs'=st.vs:=by rw[HV.out];simp
       go_wp2_with fail;go_meet;case rel=>exact⟨ca,ck,by rw[e1];exact HS2.out⟩
      ·have e1:vs'=st.vs++[s]:=by rw[HV.out];simp
       have He1:=Lib.hid e1;clear e1;go_wp2_with fail;have c3o:∀o,(wc.alloc o).cell? ⟨p,3,none⟩=some (.slice ca st.vs.length ck):=λo=>(World.cell?_alloc_lt _ _ _ hplt).trans c3;go_region_law ((refine zeI zjd (by rfl) _ _ (by rfl) B (.slice ca st.vs.length ck) st.vs.length (st.vs.map Value.string) (by rfl) ((HS2.out.own1.alloc _).drew) [.string s] (by rfl) (by simp[Value.oneCell']) wc.heap.size 1 (by rfl) (zi wc _) hvn' (by simp;omega) (wc.heap.size+1) (by simp) ?_;intro gg gcap wg hownG hgrow hatG hltG;have f3g:wg.frozen? ⟨p,3,none⟩=false:=((hgrow.frozen_far ⟨p,3,none⟩ (by simp;omega) hnp).trans (World.frozen?_alloc_old _ _ _ (Nat.ne_of_lt hplt))).trans f3;have c3g:wg.cell? ⟨p,3,none⟩=some (.slice ca st.vs.length ck):=(hgrow.cell_far ⟨p,3,none⟩ (by simp;omega) hnp).trans (c3o _)));all_goals go_wp2_with fail
       all_goals go_meet
       all_goals exact⟨some ⟨gg,0,none⟩,gcap,by rw[He1.out];have:=((HS2.out.grow1 s hownG hgrow hatG).store 3 (.slice (some ⟨gg,0,none⟩) (st.vs.length+1) gcap));simpa using this⟩
     case rest =>
      obtain⟨cv1,kv1,hS3⟩:=hcut;clear c3 f3 b2 HS2 hplt hblt hnp hnb hvn' hF;have hpc:=hS3.cells;have hbx:=hS3.box;have hal:=HN.out.2.2.2.1;have hal':st.ar.length<=1073741824:=by omega
      obtain⟨da,dk,hdv,hds⟩:=xz hS3.own2 hal';subst hdv;have c4:wc.cell? ⟨p,4,none⟩=some (.slice da st.ar.length dk):=by simp[World.cell?,hpc]
      have b0:wc.cell? ⟨w.heap.size,0,none⟩=some (.int .i64 op):=by simp[World.cell?,hbx]
      have b2:wc.cell? ⟨w.heap.size,2,none⟩=some (.string s):=by simp[World.cell?,hbx]
      have HS3:=Lib.hid hS3;have HH:=Lib.hid (λn=>Ze st.ar da dk s (wc.drewN n) hds);clear hpc hbx hS3 hal hds;go_upto_region 8 with fail;go_cut [76] from 7 (λs76 wx=>s76=.bool ((op==3||op==24)&&!(Lib.containsS st.ar s))/\zaw B p w.heap.size #[.int .i64 op,.int .i64 n,.string s,.slice a args.length cap] w #[.int .i64 ((st.n+1:Nat):Int),.int .i64 ((max st.d dp:Nat):Int),.int .i64 ff,.slice cv1 vs'.length kv1,.slice da st.ar.length dk] (.slice cv1 vs'.length kv1) vs' (.slice da st.ar.length dk) st.ar wx);case first =>
       by_cases h3:op=3
       ·subst h3;cases hc:Lib.containsS st.ar s
        all_goals
         go_quiet ((go_at_call 270;exact Calls.quiet_of_same ((HH.out _).mono λe w' h=>⟨by rw[h.1,hc],h.2.symm⟩)));go_wp2_with fail;go_meet;case rel=>exact⟨by rw[hc];rfl,HS3.out.below (below_drewN (Below.refl _ _) _)⟩
       ·have h3b:(op==3)=false:=by simpa using h3
        clear h3;by_cases h4:op=24
        ·subst h4;cases hc:Lib.containsS st.ar s
         all_goals
          go_quiet ((go_at_call 270;exact Calls.quiet_of_same ((HH.out _).mono λe w' h=>⟨by rw[h.1,hc],h.2.symm⟩)));go_wp2_with fail;go_meet;case rel=>exact⟨by rw[hc];rfl,HS3.out.below (below_drewN (Below.refl _ _) _)⟩
        ·have h4b:(op==24)=false:=by simpa using h4
         clear h4;go_quiet (fail);go_wp2_with fail;go_meet;case rel=>exact⟨by rw[h3b,h4b];rfl,HS3.out.below (below_drewN (Below.refl _ _) _)⟩
      case rest =>
       obtain⟨rfl,hS4⟩:=hcut;have HAr:Hid (zV [3,24] st.ar (.mk op n s args)=if ((op==3||op==24)&&!(Lib.containsS st.ar s))=true then st.ar++[s] else st.ar):=by show _=_;unfold zV;rw[Ex.op_mk,Ex.name_mk];by_cases h1:op=3<;>by_cases h3:op=24<;>cases h2:Lib.containsS st.ar s<;>simp[h1,h2,h3]
       generalize ((op==3||op==24)&&!(Lib.containsS st.ar s))=bb2 at HAr⊢;generalize har':zV [3,24] st.ar (.mk op n s args)=ar' at HAr;have Har':=Lib.hid har';clear har' HH HS3 c4 b0 b2;have hpc:=hS4.cells;have hbx:=hS4.box;have c4:wc.cell? ⟨p,4,none⟩=some (.slice da st.ar.length dk):=by simp[World.cell?,hpc]
       have f4:wc.frozen? ⟨p,4,none⟩=false:=by simp[World.frozen?,hpc]
       have b2:wc.cell? ⟨w.heap.size,2,none⟩=some (.string s):=by simp[World.cell?,hbx]
       have HS4:=Lib.hid hS4.swap;have hplt:=lt_of_block hpc;have hBz:B<=wc.heap.size:=by have:=hS4.hB;omega
       have hnp:=zX hS4.own2 hpc (by decide);clear hpc hbx hS4;go_upto_if 76 with fail;go_cut [] from 7 (λwx=>∃(c2:Option Addr) (k2:Nat),zaw B p w.heap.size #[.int .i64 op,.int .i64 n,.string s,.slice a args.length cap] w #[.int .i64 ((st.n+1:Nat):Int),.int .i64 ((max st.d dp:Nat):Int),.int .i64 ff,.slice cv1 vs'.length kv1,.slice c2 ar'.length k2] (.slice cv1 vs'.length kv1) vs' (.slice c2 ar'.length k2) ar' wx);case first =>
        cases bb2
        ·have e1:ar'=st.ar:=by rw[HAr.out];simp
         go_wp2_with fail;go_meet;case rel=>exact⟨da,dk,by rw[e1];exact HS4.out.swap⟩
        ·have e1:ar'=st.ar++[s]:=by rw[HAr.out];simp
         have He1:=Lib.hid e1;clear e1;go_wp2_with fail;have c4o:∀o,(wc.alloc o).cell? ⟨p,4,none⟩=some (.slice da st.ar.length dk):=λo=>(World.cell?_alloc_lt _ _ _ hplt).trans c4;go_region_law ((refine zeI zjd (by rfl) _ _ (by rfl) B (.slice da st.ar.length dk) st.ar.length (st.ar.map Value.string) (by rfl) ((HS4.out.own1.alloc _).drew) [.string s] (by rfl) (by simp[Value.oneCell']) wc.heap.size 1 (by rfl) (zi wc _) hal' (by simp;omega) (wc.heap.size+1) (by simp) ?_;intro gg gcap wg hownG hgrow hatG hltG;have f4g:wg.frozen? ⟨p,4,none⟩=false:=((hgrow.frozen_far ⟨p,4,none⟩ (by simp;omega) hnp).trans (World.frozen?_alloc_old _ _ _ (Nat.ne_of_lt hplt))).trans f4;have c4g:wg.cell? ⟨p,4,none⟩=some (.slice da st.ar.length dk):=(hgrow.cell_far ⟨p,4,none⟩ (by simp;omega) hnp).trans (c4o _)));all_goals go_wp2_with fail
         all_goals go_meet
         all_goals exact⟨some ⟨gg,0,none⟩,gcap,by rw[He1.out];have:=((HS4.out.grow1 s hownG hgrow hatG).store 4 (.slice (some ⟨gg,0,none⟩) (st.ar.length+1) gcap)).swap;simpa using this⟩
       case rest =>
        obtain⟨cv2,kv2,hS5⟩:=hcut;have HST:Hid (stepW st dp (.mk op n s args)=⟨st.n+1,max st.d dp,ff,vs',ar'⟩):=by show _=_;rw[←Hff.out,←Hvs'.out,←Har'.out];rfl
        have hI5:ziC B p (stepW st dp (.mk op n s args)) wc:=by rw[HST.out];exact zaw.inv (st:=⟨st.n+1,max st.d dp,ff,vs',ar'⟩) hS5
        have HI5:=Lib.hid (⟨hI5,hS5.kt,hS5.box⟩:_/\_/\_);have hBw:B<=w.heap.size:=Nat.le_trans (Nat.le_of_eq HW.out) HB.out.size;have HBN:Hid ((stepW st dp (.mk op n s args)).n=st.n+1/\(stepW st dp (.mk op n s args)).d=max st.d dp/\(stepW st dp (.mk op n s args)).vs.length<=st.n+1/\(stepW st dp (.mk op n s args)).ar.length<=st.n+1):=by
         refine⟨rfl,rfl,?_,?_⟩
         ·have:=qT [2] st.vs (.mk op n s args);have:=HN.out.2.2.1;simp only[stepW];omega
         ·have:=qT [3,24] st.ar (.mk op n s args);have:=HN.out.2.2.2.1;simp only[stepW];omega
        clear hS5 hI5 c4 f4 b2 HS4 hplt hBz hnp hal' HAr Har' Hvs' HV Hff HST;generalize hst1:stepW st dp (.mk op n s args)=st1 at HI5 HBN;have Hst1:=Lib.hid hst1;clear hst1;go_wp2_with fail;go_loopw [6] (λi wr=>∃k:Nat,i=.int .i64 k/\k<=args.length/\ziC B p (Z3 args dp st1 k) wr/\KT B w wr/\wr.heap[w.heap.size]? = some (.cells #[.int .i64 op,.int .i64 n,.string s,.slice a args.length cap] 24 (0,0))) (λi _=>args.length-(intOf i).toNat);case atStart=>exact⟨0,rfl,Nat.zero_le _,HI5.out.1,HI5.out.2.1,HI5.out.2.2⟩
        case round =>
         obtain⟨k,rfl,hk,hIr,hKr,hbx⟩:=hrel;have hBr:=HB.out.trans ((hKr.below hBw).mono (Nat.le_refl _));have b3:wr.cell? ⟨w.heap.size,3,none⟩=some (.slice a args.length cap):=by simp[World.cell?,hbx]
         by_cases hlt:k<args.length
         ·obtain⟨b,off,ha⟩:=HA.out.resolve_left (by omega);subst ha;obtain⟨a',cap',g0,g1,g2,g3,hX⟩:=HE.out.2.get rfl hlt;have kk:∀a v,w0.cell? a=some v->wr.cell? a=some v:=λq v hq=>(hBr.cell (Nat.lt_of_lt_of_le (World.block_lt_of_cell? _ _ hq) (Nat.le_of_eq HW.out.symm))).trans hq;have c0:=kk _ _ g0;have c1:=kk _ _ g1;have c2:=kk _ _ g2;have c3:=kk _ _ g3;simp only[Ex.args_mk]at c0 c1 c2 c3;have hm:args[k]∈(Ex.mk op n s args).args:=List.getElem_mem hlt;obtain⟨t1,t2,t3,t4⟩:=zcV args dp st1 k hk;have hrm:=qQ args k hlt;have hn':=HN.out;have hbn:=HBN.out;have hC:=HIH.out _ hm (Z3 args dp st1 k) (dp+1) a' cap' wr (by omega) (by omega) (by omega) (by omega) (by omega) hIr hBr hX;have HC:=Lib.hid hC;simp only[Ex.args_mk,yu]at HC;rw[show ((dp+1:Nat):Int)=(dp:Int)+1 from by omega]at HC;have HR:=Lib.hid (⟨hKr,hbx⟩:_/\_);have HSu:=Lib.hid (za8 args dp st1 k hlt);clear g0 g1 g2 g3 kk hC hrm hn' hbn t1 t2 t3 t4 hX hIr hKr hBr hbx hm;go_wp2_with fail;refine HC.out.mono ?_;rintro e w2 ⟨rfl,hI2,hK2⟩;have H2:=Lib.hid (⟨hI2,hK2⟩:_/\_);clear hI2 hK2 c0 c1 c2 c3 b3;go_wp2_with fail;go_roundw;case rel=>exact⟨k+1,by go_num,by omega,by rw[HSu.out];exact H2.out.1,HR.out.1.trans H2.out.2,H2.out.2.typed _ _ _ _ HR.out.2 (Or.inl rfl)⟩
          case measure=>simp[intOf];omega
         ·obtain rfl:k=args.length:=by omega
          have HE':=Lib.hid (⟨hIr,hKr⟩:_/\_);have HSA:=Lib.hid (zh8 (.mk op n s args) dp st);clear hIr hKr hBr hbx;go_wp2_with fail;go_end0;refine⟨rfl,?_,HE'.out.2⟩;have h1:=HE'.out.1;rw[←Hst1.out]at h1;rw[←HSA.out];exact h1
def intOf:Value->Int
 | .int _ q=>q
 |_=>0
theorem zc {W:World} {k:Nat} {c:Array Value} {t:TypeId} {fz:Nat×Nat} (h:W.heap[k]? = some (.cells c t fz)) (o:Nat):W.cell? ⟨k,o,none⟩=c[o]?:=by simp[World.cell?,h]
theorem qF {w:World} {a:Addr} {v:Value} (h:w.cell? a=some v):a.block<w.heap.size:=by
 unfold World.cell? at h;split at h
 ·rename_i hb;exact lt_of_block hb
 ·simp at h
def World.hide (w:World) (p:Nat->Bool):World:={ w with heap:=w.heap.mapIdx λk o=>if p k then .cells #[] 0 else o }
theorem zy {w:World} {p:Nat->Bool} {a:Addr} {v:Value}:(World.hide w p).cell? a=some v<->p a.block=false/\w.cell? a=some v:=by
 unfold World.hide World.cell?;simp only[Array.getElem?_mapIdx];cases h:w.heap[a.block]? with
 |none=>simp
 |some o =>
  cases hp:p a.block with
  |false=>simp
  |true=>simp
theorem zb {w:World} {p:Nat->Bool}:∀a v,(World.hide w p).cell? a=some v->w.cell? a=some v:=λ_ _ h=>(zy.1 h).2
theorem zR {w:World} {p q:Nat->Bool} (h:∀k,p k=true->q k=true):∀a v,(World.hide w q).cell? a=some v->(World.hide w p).cell? a=some v:=λa _ ha =>
 zy.2 ⟨by
  cases hp:p a.block with
  |false=>rfl
  |true=>have:=h _ hp;rw[(zy.1 ha).1]at this;simp at this,(zy.1 ha).2⟩
theorem zg {w w':World} {p q:Nat->Bool} (h:Below w.heap.size w w') (hq:∀k,k<w.heap.size->q k=true->p k=true):∀a v,(World.hide w p).cell? a=some v->(World.hide w' q).cell? a=some v:=by
 intro a v ha;obtain⟨h1,h2⟩:=zy.1 ha;refine zy.2 ⟨?_,za h _ _ h2⟩;cases hp:q a.block with
 |false=>rfl
 |true=>have:=hq _ (qF h2) hp;rw[h1]at this;simp at this
theorem yV {w w':World} {row:Option Nat} {p q:Nat->Bool} (h:w.grownBy w' row) (hr:∀k,row=some k->p k=true) (hq:∀k,k<w.heap.size->q k=true->p k=true):∀a v,(World.hide w p).cell? a=some v->(World.hide w' q).cell? a=some v:=by
 intro a v ha;obtain⟨h1,h2⟩:=zy.1 ha;have hlt:=qF h2;have hne:some a.block≠row:=λe=>by have:=hr _ e.symm;rw[h1]at this;simp at this
 refine zy.2 ⟨?_,?_⟩
 ·cases hp:q a.block with
  |false=>rfl
  |true=>have:=hq _ hlt hp;rw[h1]at this;simp at this
 ·rw[World.cell?_of_block (h.block _ hlt hne)];exact h2
theorem zj {w:World} {p:Nat->Bool} {k o:Nat} {u:Value} (hk:p k=true):∀a v,(World.hide w p).cell? a=some v->(World.hide (w.setCell ⟨k,o,none⟩ u) p).cell? a=some v:=by
 intro a v ha;obtain⟨h1,h2⟩:=zy.1 ha;have hne:a.block≠k:=λe=>by rw[e,hk]at h1;simp at h1
 refine zy.2 ⟨h1,?_⟩;unfold World.cell? at h2⊢;rw[Below.heap_setCell _ _ _ _ hne];exact h2
def old (B:Nat):Nat->Bool:=λk=>decide (k<B)
theorem yh {B k:Nat}:old B k=true<->k<B:=by simp[old]
end Go.Proofs.YthojpomoflhbcaaGreatDoor
