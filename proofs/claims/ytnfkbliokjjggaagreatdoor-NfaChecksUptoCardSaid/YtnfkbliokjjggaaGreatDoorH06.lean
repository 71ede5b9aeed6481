/- The reference of expressions: Split, IsVar, wrong. -/
import Derived.Test.YtnfkbliokjjggaaGreatDoorH05
set_option maxHeartbeats 8000000
set_option linter.unusedSimpArgs false
set_option linter.unusedVariables false
set_option linter.unnecessarySimpa false
namespace Go.Proofs.YtnfkbliokjjggaaGreatDoor
open Go.RowKit
theorem Ze (b:UInt8) (l:List UInt8):Lib.index (b::l) [91]=if b=91 then 0 else if Lib.index l [91]=-1 then -1 else Lib.index l [91]+1:=by
 have h:Lib.index (b::l) [91]=if [91].isPrefixOf (b::l) then 0 else if Lib.index l [91]==-1 then -1 else Lib.index l [91]+1:=rfl
 have h2:([91]:List UInt8).isPrefixOf (b::l)=(91==b):=by simp[List.isPrefixOf]
 rw[h,h2];by_cases e:b=91
 ·subst e;rfl
 ·rw[if_neg e];have:((91:UInt8)==b)=false:=by simpa using λh=>e h.symm
  rw[this];simp
theorem zeE:∀(A r:List UInt8),(91:UInt8)∉A->Lib.index (A++91::r) [91]=A.length
 | [],r,_=>by rw[List.nil_append,Ze,if_pos rfl];rfl
 |b::A,r,h=>by have hb:b≠91:=λe=>h (by rw[e];exact List.mem_cons_self);have ih:=zeE A r (λhh=>h (List.mem_cons_of_mem _ hh));rw[List.cons_append,Ze,if_neg hb,ih,if_neg (by omega)];simp
theorem zi1 (A r:List UInt8) (h:(91:UInt8)∉A):Lib.cut (A++91::r) [91]=(A,r,true):=by unfold Lib.cut;rw[zeE A r h,if_pos (by omega)];simp
theorem XB:∀(l:List UInt8),0<=Lib.index l [91]->l=l.take (Lib.index l [91]).toNat++91::l.drop ((Lib.index l [91]).toNat+1)
 | [],h=>by exfalso;exact absurd h (by decide)
 |b::l,h=>by
  rw[Ze]at h⊢;by_cases e:b=91
  ·subst e;simp
  ·rw[if_neg e]at h⊢;by_cases e1:Lib.index l [91]=-1
   ·rw[if_pos e1]at h;exact absurd h (by decide)
   ·have hge:=Lib.index_ge l [91];have ih:=XB l (by omega);rw[if_neg e1];obtain⟨k,hk⟩:=Int.eq_ofNat_of_zero_le (show 0<=Lib.index l [91] by omega);rw[hk]at ih⊢;have:((k:Int)+1).toNat=k+1:=by omega
    rw[this];simp only[List.take_succ_cons,List.drop_succ_cons,List.cons_append];rw[Int.toNat_natCast]at ih;rw[←ih]
theorem zdp {A:List UInt8} (h:yQ A=true):(91:UInt8)∉A:=by
 intro hm;have hw:Qa A=true:=by unfold yQ at h;simp only[Bool.and_eq_true]at h;simp_all
 unfold Qa at hw;rw[Bool.and_eq_true]at hw;have:=List.all_eq_true.1 hw.1 _ hm;exact absurd this (by decide)
theorem zaF (l:List UInt8):ZK l=true<->∃A x,l=A++[91,x,93]/\yQ A=true/\48<=x.toNat/\x.toNat<56:=by
 constructor
 ·intro h;unfold ZK at h;simp only[Bool.and_eq_true]at h;obtain⟨⟨h1,h2⟩,h3⟩:=h;unfold Lib.cut at h1 h2 h3;split at h1
  ·rename_i hi;rw[if_pos hi]at h2 h3;have hs:=XB l hi;dsimp only at h2 h3;have hl:([91]:List UInt8).length=1:=rfl;rw[hl]at h3;generalize l.drop ((Lib.index l [91]).toNat+1)=r at hs h3;by_cases hr:r.length=2
   ·obtain⟨x,y,rfl⟩:∃x y,r=[x,y]:=by
     match r,hr with
     | [x,y],_=>exact⟨x,y,rfl⟩
    rw[Zb]at h3;obtain⟨hy,hx,hx'⟩:=of_decide_eq_true h3;have hy':y=93:=UInt8.toNat_inj.1 hy;exact⟨_,x,by rw[←hy'];exact hs,h2,hx,hx'⟩
   ·rw[Xw hr]at h3;exact absurd h3 (by decide)
  ·simp at h1
 ·rintro ⟨A,x,rfl,h2,hx,hx'⟩;unfold ZK;have hc:=zi1 A [x,93] (zdp h2);have:A++[91,x,93]=A++91::[x,93]:=rfl;rw[this,hc];simp only[Bool.and_eq_true];exact⟨⟨trivial,h2⟩,by rw[Zb];exact decide_eq_true ⟨rfl,hx,hx'⟩⟩
theorem zaG (s:ByteArray) (m:Nat) (hm:s.size=m+3) (b0:m<s.size) (b1:m+1<s.size) (b2:m+2<s.size) :
 ZK s.data.toList=(decide ((s[m+2]'b2).toNat=93)&&decide ((s[m]'b0).toNat=91)&&decide (48<=(s[m+1]'b1).toNat/\(s[m+1]'b1).toNat<56)&&yQ (s.data.toList.take m)):=by
 have hlen:s.data.toList.length=m+3:=by simpa using hm
 have hdec:s.data.toList=s.data.toList.take m++[s[m]'(by omega),s[m+1]'(by omega),s[m+2]'(by omega)]:=by
  conv=>lhs;rw[←List.take_append_drop m s.data.toList]
  congr 1;rw[List.drop_eq_getElem_cons (by omega),List.drop_eq_getElem_cons (i:=m+1) (by omega),List.drop_eq_getElem_cons (i:=m+1+1) (by omega),List.drop_eq_nil_of_le (by omega)];rfl
 generalize hA:s.data.toList.take m=A at hdec⊢;generalize (s[m]'(by omega))=x at hdec⊢;generalize (s[m+1]'(by omega))=y at hdec⊢;generalize (s[m+2]'(by omega))=z at hdec⊢;rw[Bool.eq_iff_iff,zaF,hdec];simp only[Bool.and_eq_true,decide_eq_true_eq];constructor
 ·rintro ⟨A',x',he,hn,h1,h2⟩;have hl:=congrArg List.length he;simp only[List.length_append,List.length_cons,List.length_nil]at hl;obtain⟨e1,e2⟩:=List.append_inj he (by omega);simp only[List.cons.injEq,and_true]at e2;obtain⟨rfl,rfl,rfl⟩:=e2;exact⟨⟨⟨rfl,rfl⟩,h1,h2⟩,by rw[e1];exact hn⟩
 ·rintro ⟨⟨⟨hz,hx⟩,h1,h2⟩,hn⟩;exact⟨A,y,by rw[UInt8.toNat_inj.1 (show x.toNat=(91:UInt8).toNat from hx),UInt8.toNat_inj.1 (show z.toNat=(93:UInt8).toNat from hz)],hn,h1,h2⟩
theorem zbF (l:List UInt8) (h:l.length<4):ZK l=false:=by
 cases hc:ZK l
 ·rfl
 ·obtain⟨A,x,rfl,hn,_⟩:=(zaF l).1 hc;simp only[List.length_append,List.length_cons,List.length_nil]at h;have:A=[]:=List.length_eq_zero_iff.1 (by omega);subst this;exact absurd hn (by decide)
theorem zgY (s:ByteArray) (m:Nat) (h:m<=s.size):(s.extract 0 m).data.toList=s.data.toList.take m:=by simp[ByteArray.data_extract]
theorem zdF (s:ByteArray) (w:World) (hs:s.size<=1073741824) :
 Calls Tryz.prog 198 #[.string s] w λe w'=>(∃(t:ByteArray) (i:Int),e=.returned (.tuple #[.string t,.int .i64 i,.bool (ZK s.data.toList)]))/\Below w.heap.size w w':=by
 by_cases h4:s.size<4
 ·have HE:=Lib.hid (zbF s.data.toList (by simpa using h4));go_enter Tryz.func198, Tryz.ntmps198;go_wp2_with fail;go_ret3;exact⟨⟨_,_,by rw[HE.out];rfl⟩,Below.refl _ _⟩
 ·obtain⟨m,hm⟩:∃m,s.size=m+3:=⟨s.size-3,by omega⟩;have HT:=Lib.hid (zgY s m (by omega));have i1:(s.size:Int)-1=((m+2:Nat):Int):=by omega
  have i2:(s.size:Int)-2=((m+1:Nat):Int):=by omega
  have i3:(s.size:Int)-3=((m:Nat):Int):=by omega
  have b2:m+2<s.size:=by omega
  have b1:m+1<s.size:=by omega
  have b0:m<s.size:=by omega
  have HE:=Lib.hid (zaG s m hm b0 b1 b2);have HM:=Lib.hid hm;clear hm;have q1:(s[m+1]'b1).toNat<256:=UInt8.toNat_lt _;have HN:=Lib.hid (λw=>qM (s.extract 0 m) w (by rw[ByteArray.size_extract];omega));rw[HT.out]at HN;have HR:∀c,ZK s.data.toList=c->Hid (ZK s.data.toList=c):=λ_ h=>h;by_cases h93:(s[m+2]'b2).toNat=93
  ·by_cases h91:(s[m]'b0).toNat=91
   ·by_cases h48:(s[m+1]'b1).toNat<48
    ·have HX:=HR false (by rw[HE.out,decide_eq_false (p:=48<=_/\_) (by omega)];simp);go_enter Tryz.func198, Tryz.ntmps198;go_wp2_with fail;go_ret3;exact⟨⟨_,_,by rw[HX.out];rfl⟩,Below.refl _ _⟩
    ·by_cases h56:(s[m+1]'b1).toNat<56
     ·have HX:=HR (yQ (s.data.toList.take m)) (by rw[HE.out,decide_eq_true h93,decide_eq_true h91,decide_eq_true (p:=48<=_/\_) ⟨by omega,h56⟩];simp);cases hn:yQ (s.data.toList.take m)
      all_goals
       go_enter Tryz.func198, Tryz.ntmps198;go_wp2_with (go_at_call 104;refine(HN.out _).mono ?_;rintro e w1 ⟨rfl,hb1⟩;rw[hn]);go_ret3;exact⟨⟨_,_,by rw[HX.out,hn];rfl⟩,by assumption⟩
     ·have HX:=HR false (by rw[HE.out,decide_eq_false (p:=48<=_/\_) (by omega)];simp);go_enter Tryz.func198, Tryz.ntmps198;go_wp2_with fail;go_ret3;exact⟨⟨_,_,by rw[HX.out];rfl⟩,Below.refl _ _⟩
   ·have HX:=HR false (by rw[HE.out,decide_eq_false h91];simp);have hne:(((s[m]'b0).toNat:Int) != 91)=true:=by simp;omega
    go_enter Tryz.func198, Tryz.ntmps198;go_wp2_with fail;go_ret3;exact⟨⟨_,_,by rw[HX.out];rfl⟩,Below.refl _ _⟩
  ·have HX:=HR false (by rw[HE.out,decide_eq_false h93];simp);go_enter Tryz.func198, Tryz.ntmps198;go_wp2_with fail;go_ret3;exact⟨⟨_,_,by rw[HX.out];rfl⟩,Below.refl _ _⟩
theorem zdD (s:ByteArray) (w:World) (hs:s.size<=1073741824) :
 Calls Tryz.prog 121 #[.string s] w λe w'=>e=.returned (.bool (zjz s.data.toList))/\Below w.heap.size w w':=by
 have hE:=Lib.hid (zdF s w hs);go_enter Tryz.func121, Tryz.ntmps121;go_wp2_with fail;refine hE.out.mono ?_;rintro e w1 ⟨⟨t,i,rfl⟩,hb1⟩;have hN:=Lib.hid ((qM s w1 hs).mono λe w' h=>(⟨h.1,hb1.trans (h.2.mono hb1.size)⟩:_/\Below w.heap.size w w'));cases he:ZK s.data.toList;all_goals go_wp2_with (go_at_call 104;refine hN.out.mono ?_;rintro e w2 ⟨rfl,hb2⟩)
 all_goals go_ret
 all_goals exact⟨by unfold zjz;rw[he];rfl,by assumption⟩
theorem zdO (op n:Int) (s:ByteArray) (args:List Ex) (a:Option Addr) (cap:Nat) (w:World) (hs:s.size<=1073741824) (hl:args.length<=1073741824) :
 Calls Tryz.prog 274 #[.agg #[.int .i64 op,.int .i64 n,.string s,.slice a args.length cap]] w λe w'=>e=.returned (.int .i64 (xQ (.mk op n s args)))/\Below w.heap.size w w':=by
 go_enter Tryz.func274, Tryz.ntmps274;go_wp2_with (first|(go_at_call 302;refine(zdK _ _).mono ?_;rintro e w' ⟨rfl,rfl⟩)|(go_at_call 303;refine(zdC _ _).mono ?_;rintro e w' ⟨rfl,rfl⟩)|(go_at_call 121;go_must (refine(fr (W0:=w) (B:=w.heap.size) (zdD _ _ hs) bel sz).mono ?_;rintro e w1 ⟨rfl,hc1,hf1,hz1,hb1⟩;try simp only[World.size_alloc,World.size_setCell,World.size_drew,World.heap_drewN]at hz1;try (have hzl0:w.heap.size<w1.heap.size:=by omega);try (have hzl1:w.heap.size+1<w1.heap.size:=by omega);try (have hzl2:w.heap.size+2<w1.heap.size:=by omega);try (have hzl3:w.heap.size+3<w1.heap.size:=by omega);try (have hzl4:w.heap.size+4<w1.heap.size:=by omega);try (have hzl5:w.heap.size+5<w1.heap.size:=by omega)))|(go_at_call 104;go_must (refine(fr (W0:=w) (B:=w.heap.size) (qM _ _ hs) bel sz).mono ?_;rintro e w1 ⟨rfl,hc1,hf1,hz1,hb1⟩;try simp only[World.size_alloc,World.size_setCell,World.size_drew,World.heap_drewN]at hz1;try (have hzl0:w.heap.size<w1.heap.size:=by omega);try (have hzl1:w.heap.size+1<w1.heap.size:=by omega);try (have hzl2:w.heap.size+2<w1.heap.size:=by omega);try (have hzl3:w.heap.size+3<w1.heap.size:=by omega);try (have hzl4:w.heap.size+4<w1.heap.size:=by omega);try (have hzl5:w.heap.size+5<w1.heap.size:=by omega))))
 all_goals go_ret
 all_goals refine⟨?_,bel⟩
 all_goals congr 2
 all_goals simp_all [xQ,xJ,Ex.op,Ex.n,Ex.name,Ex.args,ByteArray.toList_eq]
 all_goals first|omega|exact decide_eq_true (by omega)|exact decide_eq_false (by omega)|grind
structure Seen where
 n:Nat
 d:Nat
 f:Int
 vs:List ByteArray
 ar:List ByteArray
def stepW (st:Seen) (dp:Nat) (e:Ex):Seen:=⟨st.n+1,max st.d dp,if st.f=0 then xQ e else st.f,zI [2] st.vs e,zI [3,24] st.ar e⟩
noncomputable def QA (e:Ex):Nat->Seen->Seen:=e.para λe rs dp st=>rs.foldl (λst r=>r (dp+1) st) (stepW st dp e)
theorem zfA (e:Ex) (dp:Nat) (st:Seen):QA e dp st=e.args.foldl (λst x=>QA x (dp+1) st) (stepW st dp e):=by unfold QA;rw[Ex.para_eq,List.foldl_map]
noncomputable def qV (l:List Ex) (dp:Nat) (st:Seen) (k:Nat):Seen:=(l.take k).foldl (λst x=>QA x (dp+1) st) st
theorem QB (l:List Ex) (dp:Nat) (st:Seen) (k:Nat) (h:k<l.length):qV l dp st (k+1)=QA (l[k]'h) (dp+1) (qV l dp st k):=by unfold qV;rw[List.take_succ_eq_append_getElem h,List.foldl_append];rfl
theorem zfB (e:Ex) (dp:Nat) (st:Seen):qV e.args dp (stepW st dp e) e.args.length=QA e dp st:=by rw[zfA];unfold qV;rw[List.take_of_length_le (Nat.le_refl _)]
theorem QZ (l l':List Ex):yj (l++l')=if yj l=0 then yj l' else yj l:=by
 induction l with
 |nil=>simp[yj]
 |cons e l ih =>
  have h1:yj (e::l++l')=if xQ e=0 then yj (l++l') else xQ e:=rfl
  have h2:yj (e::l)=if xQ e=0 then yj l else xQ e:=rfl
  by_cases h:xQ e=0
  ·rw[if_pos h]at h1 h2;simp only[h1,h2,ih]
  ·rw[if_neg h]at h1 h2;simp only[h1,h2,if_neg h]
theorem zcG (e:Ex):∀(dp:Nat) (st:Seen),1<=dp->(QA e dp st).n=st.n+e.nodes.length/\(QA e dp st).d=max st.d (dp+e.depth-1)/\(QA e dp st).f=(if st.f=0 then yj e.nodes else st.f) /\
 (QA e dp st).vs=e.nodes.foldl (zI [2]) st.vs/\(QA e dp st).ar=e.nodes.foldl (zI [3,24]) st.ar:=by
 induction e using Ex.ind with
 |h e ih =>
  intro dp st hdp
  have key:∀(l:List Ex),(∀a,a∈l->a∈e.args)->∀st:Seen,(l.foldl (λst x=>QA x (dp+1) st) st).n=st.n+((l.map Ex.nodes).flatten).length /\
   (l.foldl (λst x=>QA x (dp+1) st) st).d=(l.map Ex.depth).foldl (λm d=>max m (dp+d)) st.d /\
   (l.foldl (λst x=>QA x (dp+1) st) st).f=(if st.f=0 then yj ((l.map Ex.nodes).flatten) else st.f) /\
   (l.foldl (λst x=>QA x (dp+1) st) st).vs=((l.map Ex.nodes).flatten).foldl (zI [2]) st.vs /\
   (l.foldl (λst x=>QA x (dp+1) st) st).ar=((l.map Ex.nodes).flatten).foldl (zI [3,24]) st.ar:=by
   intro l
   induction l with
   |nil=>intro _ st;refine⟨rfl,rfl,?_,rfl,rfl⟩;simp[yj]
   |cons x l ihl =>
    intro hm st;obtain⟨a1,a2,a3,a4,a5⟩:=ih x (hm x List.mem_cons_self) (dp+1) st (by omega);obtain⟨b1,b2,b3,b4,b5⟩:=ihl (λa ha=>hm a (List.mem_cons_of_mem _ ha)) (QA x (dp+1) st);simp only[List.foldl_cons,List.map_cons,List.flatten_cons,List.length_append,List.foldl_append];refine⟨by rw[b1,a1];omega,?_,?_,by rw[b4,a4],by rw[b5,a5]⟩
    ·rw[b2,a2];congr 1;omega
    ·rw[b3,a3,QZ];by_cases h0:st.f=0
     ·simp[h0]
     ·simp[h0]
  obtain⟨b1,b2,b3,b4,b5⟩:=key e.args (λ_ h=>h) (stepW st dp e);rw[zfA,Ex.nodes_eq];simp only[List.length_cons,List.foldl_cons];refine⟨by rw[b1];simp only[stepW];omega,?_,?_,b4,b5⟩
  ·rw[b2,Ex.depth_eq];have hf:∀(l:List Nat) (m:Nat),l.foldl (λm d=>max m (dp+d)) (max m dp)=max m (dp+l.foldl max 0):=by
    intro l
    induction l with
    |nil=>intro m;simp
    |cons x l ihl =>
     intro m;simp only[List.foldl_cons];have e1:max (max m dp) (dp+x)=max (max m (dp+x)) dp:=by omega
     rw[e1,ihl,zeU l (max 0 x)];omega
   simp only[stepW];rw[hf];omega
  ·rw[b3];simp only[stepW,yj];by_cases h0:st.f=0
   ·simp only[h0,if_true]
   ·simp[h0]
theorem zdP (e:Ex):QA e 1 ⟨0,0,0,[],[]⟩=⟨e.nodes.length,e.depth,yj e.nodes,zG [2] e,zG [3,24] e⟩:=by
 obtain⟨a1,a2,a3,a4,a5⟩:=zcG e 1 ⟨0,0,0,[],[]⟩ (Nat.le_refl _);have hd:1<=e.depth:=by rw[Ex.depth_eq];omega
 cases h:QA e 1 ⟨0,0,0,[],[]⟩ with
 |mk n d f vs ar =>rw[h]at a1 a2 a3 a4 a5;simp only[Seen.mk.injEq];exact⟨by simpa using a1,by have:=a2;simp only at this;omega,by simpa using a3,a4,a5⟩
def zf0 (B p:Nat) (st:Seen) (w:World):Prop :=
 B<=p/\∃v1 v2,w.heap[p]? = some (.cells #[.int .i64 st.n,.int .i64 st.d,.int .i64 st.f,v1,v2] 233 (0,0)) /\
  w.ownsRow B 9 1 v1 st.vs.length (st.vs.map Value.string)/\w.ownsRow B 9 1 v2 st.ar.length (st.ar.map Value.string)/\(∀k,v1.ownBlock=some k->v2.ownBlock≠some k)
theorem zf0.keep {B p:Nat} {st:Seen} {w w':World} (h:zf0 B p st w) (hb:Below w.heap.size w w'):zf0 B p st w':=by obtain⟨h0,v1,v2,h1,h2,h3,h4⟩:=h;exact⟨h0,v1,v2,by rw[hb.block _ (lt_of_block h1)];exact h1,ownsRow_below h2 hb,ownsRow_below h3 hb,h4⟩
end Go.Proofs.YtnfkbliokjjggaaGreatDoor
