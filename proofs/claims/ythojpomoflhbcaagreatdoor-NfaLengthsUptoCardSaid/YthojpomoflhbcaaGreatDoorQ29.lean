/- Values of guards, plainly: what names stand for; assignments; guards rewritten. -/
import Derived.Test.YthojpomoflhbcaaGreatDoorQ09
import Derived.Test.YthojpomoflhbcaaGreatDoorQ15
import Derived.Test.YthojpomoflhbcaaGreatDoorQ11
import Derived.Test.YthojpomoflhbcaaGreatDoorQ22
import Derived.Test.YthojpomoflhbcaaGreatDoorQ28
set_option maxHeartbeats 8000000
set_option maxRecDepth 100000
set_option linter.unusedSimpArgs false
set_option linter.unusedVariables false
set_option linter.unnecessarySimpa false
namespace Go.Proofs.YthojpomoflhbcaaGreatDoor
open Go.RowKit
def lkS (env:List Sg) (s:ByteArray):Int:=(xO env s).getD 0
theorem zkQ {a b:ByteArray}:(a.toList==b.toList)=true<->a=b:=by
 constructor
 ·intro h;have h2:=eq_of_beq h;rw[ByteArray.toList_eq,ByteArray.toList_eq]at h2;exact zgC h2
 ·rintro rfl;simp
theorem yK (x:Sg) (l:List Sg) (s:ByteArray):xO (x::l) s=if x.1=s then some (YJ x.2) else xO l s:=by
 show (if (x.1.toList==s.toList)=true then _ else _)=_;by_cases h:x.1=s
 ·rw[if_pos h,if_pos (zkQ.2 h)]
 ·rw[if_neg h,if_neg λe=>h (zkQ.1 e)]
theorem zg4 (s:ByteArray):xO [] s=none:=rfl
theorem Yc (l m:List Sg) (s:ByteArray):xO (l++m) s=(xO l s).or (xO m s):=by
 induction l with
 |nil=>rfl
 |cons x l ih =>rw[List.cons_append,yK,yK,ih];split<;>simp
theorem zaU {l:List Sg} {s:ByteArray} (h:∃v,(s,v)∈l):(xO l s).isSome=true:=by
 induction l with
 |nil=>obtain⟨v,hv⟩:=h;cases hv
 |cons x l ih =>
  rw[yK];by_cases hx:x.1=s
  ·rw[if_pos hx];rfl
  ·rw[if_neg hx];refine ih ?_;obtain⟨v,hv⟩:=h;rcases List.mem_cons.1 hv with h2|h2
   ·rw[←h2]at hx;exact absurd rfl hx
   ·exact⟨v,h2⟩
theorem zfu {l:List Sg} (h:∀x∈l,x.2=0) (s:ByteArray):(xO l s).getD 0=0:=by
 induction l with
 |nil=>rfl
 |cons x l ih =>
  rw[yK];split
  ·rw[h x (List.mem_cons_self ..)];rfl
  ·exact ih λy hy=>h y (List.mem_cons_of_mem _ hy)
def znd (e:Ex) (s:ByteArray):Prop:=(∃x∈e.nodes,x.op=2/\x.name=s)\/∃x∈e.nodes,(x.op=3\/x.op=24)/\∃i:Nat,i<8/\s=Xj x.name i
theorem zeC {e x y:Ex} (hx:x∈e.args) (hy:y∈x.nodes):y∈e.nodes:=by rw[Ex.nodes_eq];exact List.mem_cons_of_mem _ (List.mem_flatten.2 ⟨_,List.mem_map.2 ⟨x,hx,rfl⟩,hy⟩)
theorem znd.arg {e x:Ex} {s:ByteArray} (hx:x∈e.args) (h:znd x s):znd e s:=by
 rcases h with ⟨y,hy,h⟩|⟨y,hy,h⟩
 ·exact Or.inl ⟨y,zeC hx hy,h⟩
 ·exact Or.inr ⟨y,zeC hx hy,h⟩
theorem zei (env:List Sg) (s:ByteArray) (i:Int):(atS env s i).getD 0=if i<0\/8<=i then 0 else lkS env (Xj s i):=by unfold atS lkS;split<;>rfl
theorem ze0 {env env':List Sg} (e:Ex):(∀s,znd e s->lkS env s=lkS env' s)->yJ env e=yJ env' e:=by
 induction e using Ex.ind with
 |h e ih =>
  intro hf;have hself:e∈e.nodes:=by rw[Ex.nodes_eq];exact List.mem_cons_self ..
  rw[qE,qE];have hl:e.args.map (yJ env)=e.args.map (yJ env'):=List.map_congr_left λx hx=>ih x hx λs hs=>hf s (hs.arg hx);rw[hl];have hel:∀i:Int,e.op=3\/e.op=24->(atS env e.name i).getD 0=(atS env' e.name i).getD 0:=by
   intro i ho;rw[zei,zei];split
   ·rfl
   ·rename_i hi;refine hf _ (Or.inr ⟨e,hself,ho,i.toNat,by omega,?_⟩);rw[show ((i.toNat:Nat):Int)=i by omega]
  by_cases h1:e.op=1
  ·rw[if_pos h1,if_pos h1]
  rw[if_neg h1,if_neg h1];by_cases h2:e.op=2
  ·rw[if_pos h2,if_pos h2];exact hf _ (Or.inl ⟨e,hself,h2,rfl⟩)
  rw[if_neg h2,if_neg h2];by_cases h3:e.op=3
  ·rw[if_pos h3,if_pos h3];exact hel _ (Or.inl h3)
  rw[if_neg h3,if_neg h3];by_cases h4:e.op=24
  ·rw[if_pos h4,if_pos h4];have:∀k:Nat,sumTo env e.name k=sumTo env' e.name k:=by
    intro k
    induction k with
    |zero=>rfl
    |succ k ih2 =>show ziy (sumTo env e.name k) ((atS env e.name k).getD 0)=ziy (sumTo env' e.name k) ((atS env' e.name k).getD 0);rw[ih2,hel _ (Or.inr h4)]
   exact this 8
  ·rw[if_neg h4,if_neg h4]
theorem ZQ {e:Ex} (h:okX e=true) (loc env:List Sg):qK e loc env=yJ (loc++env) e:=by
 have hv:zZ e=0:=by unfold okX at h;exact eq_of_beq h
 have hk:Q4 (loc++env++zmA e) e=true:=by
  unfold Q4;rw[Bool.and_eq_true,List.all_eq_true,List.all_eq_true];refine⟨λs hs=>?_,λs hs=>?_⟩
  ·refine zaU ⟨0,?_⟩;refine List.mem_append_right _ (List.mem_append_left _ (List.mem_map.2 ⟨s,hs,rfl⟩))
  ·show (atS _ s 0).isSome=true;unfold atS;rw[if_neg (by omega)];refine zaU ⟨0,?_⟩;refine List.mem_append_right _ (List.mem_append_right _ (List.mem_map.2 ⟨s,hs,?_⟩));refine Prod.ext ?_ rfl;apply ByteArray.ext;apply Array.ext';simp[Xj]
 unfold qK ZZ;rw[if_neg (by simpa using hv),if_neg (by rw[hk];simp)];refine ze0 e λs _=>?_;unfold lkS;rw[Yc];cases hf:xO (loc++env) s with
 |some v=>rfl
 |none =>
  rw[Option.none_or];refine zfu (λx hx=>?_) s;unfold zmA at hx;rcases List.mem_append.1 hx with hx|hx
  ·obtain⟨_,_,rfl⟩:=List.mem_map.1 hx;rfl
  ·obtain⟨_,_,rfl⟩:=List.mem_map.1 hx;rfl
theorem zbY {v:Int} (h:0<=v/\v<=65535):YJ v=v:=by unfold YJ;omega
theorem zkE {l:List Sg} (hl:qm l) (nm:ByteArray) {v:Int} (hv:0<=v/\v<=65535) (env:List Sg) (s:ByteArray):lkS (Z4 l nm v++env) s=if s=nm then v else lkS (l++env) s:=by
 unfold lkS;have key:∀l:List Sg,zbm l->xO (Z4 l nm v) s=if s=nm then some v else xO l s:=by
  intro l
  induction l with
  |nil =>
   intro _;show xO [(nm,v)] s=_;rw[yK,zg4];by_cases h:s=nm
   ·rw[if_pos h,if_pos (by simp[h]),zbY hv]
   ·rw[if_neg h,if_neg (by simpa using Ne.symm h)]
  |cons x l ih =>
   intro ha;have ha2:=List.pairwise_cons.1 ha;have ih:=ih ha2.2;unfold Z4;split
   ·rw[yK,ih,yK];rename_i hlt;by_cases h:s=nm
    ·have:¬x.1=s:=by
      rintro rfl;rw[h]at hlt;have:=XQ.refl nm;omega
     rw[if_neg this,if_pos h];simp[h]
    ·rw[if_neg h,if_neg h]
   ·split
    ·rename_i _ heq;rw[yK,yK];simp only;have heq:x.1=nm:=(XQ.zero _ _).1 heq;by_cases h:s=nm
     ·rw[if_pos h.symm,if_pos h,zbY hv]
     ·rw[if_neg (Ne.symm h),if_neg h,if_neg (by rw[heq];exact Ne.symm h)]
    ·rw[yK];simp only;by_cases h:s=nm
     ·rw[if_pos h.symm,if_pos h,zbY hv]
     ·rw[if_neg (Ne.symm h),if_neg h]
 rw[Yc,Yc,key l hl.1];split<;>rfl
theorem zcC {nm:ByteArray} (h:yW nm.data.toList=true) {s:ByteArray} {i:Int}:¬Xj s i=nm:=by
 intro e;have:(91:UInt8)∈nm.data.toList:=by rw[←e];simp[Xj]
 exact zaY h this
theorem zd9 {nm:ByteArray} (hn:yW nm.data.toList=true) (b:Ex) {env env':List Sg} (hlk:∀s,lkS env' s=if s=nm then yJ env b else lkS env s) (e:Ex):yJ env (xB nm b e)=yJ env' e:=by
 induction e using Ex.ind with
 |h e ih =>
  have hat:∀(s:ByteArray) (i:Int),(atS env s i).getD 0=(atS env' s i).getD 0:=by intro s i;rw[zei,zei,hlk,if_neg (zcC hn)]
  rw[zas,qE env' e];split
  ·rename_i h;rw[if_neg (by omega),if_pos h.1];have:=hlk e.name;rw[if_pos h.2]at this;exact this.symm
  ·rename_i h;rw[qE];simp only[Ex.op_mk,Ex.n_mk,Ex.name_mk,Ex.args_mk,List.map_map];have hl:e.args.map (yJ env ∘ xB nm b)=e.args.map (yJ env'):=List.map_congr_left λx hx=>ih x hx;rw[hl];by_cases h1:e.op=1
   ·rw[if_pos h1,if_pos h1]
   rw[if_neg h1,if_neg h1];by_cases h2:e.op=2
   ·rw[if_pos h2,if_pos h2];have:=hlk e.name;rw[if_neg λe2=>h ⟨h2,e2⟩]at this;exact this.symm
   rw[if_neg h2,if_neg h2];by_cases h3:e.op=3
   ·rw[if_pos h3,if_pos h3,hat]
   rw[if_neg h3,if_neg h3];by_cases h4:e.op=24
   ·rw[if_pos h4,if_pos h4];have:∀k:Nat,sumTo env e.name k=sumTo env' e.name k:=by
     intro k
     induction k with
     |zero=>rfl
     |succ k ih2 =>show ziy (sumTo env e.name k) ((atS env e.name k).getD 0)=ziy (sumTo env' e.name k) ((atS env' e.name k).getD 0);rw[ih2,hat]
    exact this 8
   ·rw[if_neg h4,if_neg h4]
theorem zjI {b:qi}:zcI b=true<->yW b.name.data.toList=true/\okX b.expr=true:=by unfold zcI;rw[Bool.and_eq_true]
theorem zkc {l:List qi} (hb:∀b∈l,zcI b=true) {loc:List Sg} (hl:qm loc) (env:List Sg):∀k,k<=l.length->∀g:Ex,(x8 l k g).nodes.length<=400->yJ (loc++env) (x8 l k g)=yJ (zI l env loc k++env) g:=by
 intro k
 induction k with
 |zero=>intro _ g _;rw[zbe];simp[zI]
 |succ k ih =>
  intro hk g hg;by_cases h:g.nodes.length<=400
  ·rw[zbd (by omega) h]at hg⊢;rw[ih (by omega) _ hg];have hbk:=zjI.1 (hb _ (List.getElem_mem (show k<l.length by omega)));refine zd9 hbk.1 _ (λs=>?_) g;rw[YZ l env loc (by omega),zkE (zao l env loc hl k (by omega)) _ (zbV _ _ _),ZQ hbk.2]
  ·rw[zc6 h]at hg;exact absurd hg h
theorem XC (a b:List qi) (env loc:List Sg):zI (a++b) env loc (a++b).length=zI b env (zI a env loc a.length) b.length:=by unfold zI;rw[List.take_length,List.take_length,List.take_length,List.foldl_append]
theorem zat {x y:zn} {tt:Int} {loc env:List Sg} (hl:qm loc) (hx:∀b∈x.sets,zcI b=true) (hy:∀g∈y.guards,okX g=true) (hb:∀g∈(zO x y tt).guards,okX g=true) (r:List Sg) :
 xj (zO x y tt) loc env=some r<->∃l1,xj x loc env=some l1/\xj y l1 env=some r:=by
 rw[yD];have hs:zI (zO x y tt).sets env loc (zO x y tt).sets.length=zI y.sets env (zI x.sets env loc x.sets.length) y.sets.length:=XC _ _ _ _;rw[hs];have hg:(zO x y tt).guards.all (λg=>qK g loc env != 0)=(x.guards.all (λg=>qK g loc env != 0)&&y.guards.all (λg=>qK g (zI x.sets env loc x.sets.length) env != 0)):=by show (x.guards++y.guards.map (x8 x.sets x.sets.length)).all _=_;rw[List.all_append,List.all_map];congr 1;rw[Bool.eq_iff_iff,List.all_eq_true,List.all_eq_true];refine forall_congr' λg=>forall_congr' λhgm=>?_;have hu:okX (x8 x.sets x.sets.length g)=true:=hb _ (List.mem_append_right _ (List.mem_map.2 ⟨g,hgm,rfl⟩));rw[Function.comp_apply,ZQ hu,ZQ (hy g hgm),zkc hx hl env _ (Nat.le_refl _) g (Zy hu)]
 rw[hg,Bool.and_eq_true];constructor
 ·rintro ⟨⟨h1,h2⟩,h3⟩;exact⟨_,yD.2 ⟨h1,rfl⟩,yD.2 ⟨h2,h3⟩⟩
 ·rintro ⟨l1,h1,h2⟩;obtain⟨g1,rfl⟩:=yD.1 h1;obtain⟨g2,g3⟩:=yD.1 h2;exact⟨⟨g1,g2⟩,g3⟩
theorem take_set {e e':zn} {nm:ByteArray} {x:Ex} (hg:e'.guards=e.guards) (hs:e'.sets=e.sets++[⟨nm,x⟩]) {loc env r:List Sg}:xj e' loc env=some r<->∃l1,xj e loc env=some l1/\r=Z4 l1 nm (qK x l1 env):=by
 rw[yD,hg,hs,XC];have:∀l:List Sg,zI [⟨nm,x⟩] env l [(⟨nm,x⟩:qi)].length=Z4 l nm (qK x l env):=λl=>by simp[zI]
 rw[this];constructor
 ·rintro ⟨h1,rfl⟩;exact⟨_,yD.2 ⟨h1,rfl⟩,rfl⟩
 ·rintro ⟨l1,h1,rfl⟩;obtain⟨g1,rfl⟩:=yD.1 h1;exact⟨g1,rfl⟩
theorem zc3 {e e':zn} {x:Ex} (hg:e'.guards=e.guards++[x]) (hs:e'.sets=e.sets) {loc env r:List Sg}:xj e' loc env=some r<->xj e loc env=some r/\qK x loc env≠0:=by
 rw[yD,yD,hg,hs,List.all_append];simp only[List.all_cons,List.all_nil,Bool.and_true,Bool.and_eq_true,bne_iff_ne,ne_eq];constructor
 ·rintro ⟨⟨h1,h2⟩,h3⟩;exact⟨⟨h1,h3⟩,h2⟩
 ·rintro ⟨⟨h1,h3⟩,h2⟩;exact⟨⟨h1,h2⟩,h3⟩
theorem zdG {e x:Ex} (hx:x∈e.nodes) (h2:x.op=2):x.name∈zG [2] e:=by
 unfold zG
 suffices h:∀(l:List Ex) (st:List ByteArray),(x∈l\/x.name∈st)->x.name∈l.foldl (zV [2]) st from h _ _ (Or.inl hx)
 intro l
 induction l with
 |nil =>
  intro st h;rcases h with h|h
  ·cases h
  ·exact h
 |cons y l ih =>
  intro st h;rw[List.foldl_cons];refine ih _ ?_;rcases h with h|h
  ·rcases List.mem_cons.1 h with rfl|h
   ·right;unfold zV;split
    ·simp
    ·rename_i hc;have hc2:Lib.containsS st x.name=true:=by
      cases e:Lib.containsS st x.name with
      |true=>rfl
      |false=>exact absurd ⟨by simp[h2],e⟩ hc
     exact(Lib.containsS_iff st x.name).1 hc2
   ·exact Or.inl h
  ·right;unfold zV;split
   ·exact List.mem_append_left _ h
   ·exact h
def Agr (S:List ByteArray) (l l0:List Sg):Prop:=∀env s,¬s∈S->lkS (l++env) s=lkS (l0++env) s
theorem Agr.refl (S:List ByteArray) (l:List Sg):Agr S l l:=λ_ _ _=>rfl
theorem Agr.trans {S:List ByteArray} {l l1 l2:List Sg} (h:Agr S l l1) (h2:Agr S l1 l2):Agr S l l2:=λenv s hs=>(h env s hs).trans (h2 env s hs)
theorem ziO {S:List ByteArray} {l:List qi} (hS:∀b∈l,b.name∈S) {loc:List Sg} (hl:qm loc) (env:List Sg):∀k,k<=l.length->Agr S (zI l env loc k) loc:=by
 intro k
 induction k with
 |zero=>intro _;simpa [zI] using Agr.refl S loc
 |succ k ih =>intro hk;refine Agr.trans (λenv2 s hs=>?_) (ih (by omega));rw[YZ l env loc (by omega),zkE (zao l env loc hl k (by omega)) _ (zbV _ _ _),if_neg];rintro rfl;exact hs (hS _ (List.getElem_mem (show k<l.length by omega)))
theorem zee {S:List ByteArray} {e:zn} (hS:∀b∈e.sets,b.name∈S) {loc env r:List Sg} (hl:qm loc) (h:xj e loc env=some r):Agr S r loc:=by obtain⟨_,rfl⟩:=yD.1 h;exact ziO hS hl env _ (Nat.le_refl _)
theorem zk1 {S:List ByteArray} {l l0 env:List Sg} {x:Ex} (hx:okX x=true) (hS:∀s∈S,yW s.data.toList=true) (hd:∀s∈zG [2] x,¬s∈S) (h:Agr S l l0):qK x l env=qK x l0 env:=by
 rw[ZQ hx,ZQ hx];refine ze0 x λs hs=>h env s ?_;rcases hs with ⟨y,hy,h2,rfl⟩|⟨y,_,_,i,_,rfl⟩
 ·exact hd _ (zdG hy h2)
 ·exact λhm=>zcC (hS _ hm) rfl
def vN (c:UInt8):Ex:=.mk 2 0 ⟨#[c]⟩ []
def isN (c:UInt8):Tq:=.mk 1 0 0 (vN c) ⟨#[]⟩ []
def smN:Tq:=.mk 2 0 1 (.mk 0 0 ⟨#[]⟩ []) ⟨#[]⟩ [isN 97,isN 98]
def smI (c:UInt8):zm:=⟨2,[⟨0,1,[vN c],[]⟩],[1]⟩
def smO:zm:=⟨3,[⟨0,1,[vN 97],[]⟩,⟨0,2,[vN 97,vN 98],[]⟩,⟨1,2,[vN 98],[]⟩],[2]⟩
theorem Zf (c:UInt8):(vN c).nodes=[vN c]:=by rw[Ex.nodes_eq];simp[vN,Ex.args_mk]
theorem zja (c:UInt8):(vN c).depth=1:=by rw[Ex.depth_eq];simp[vN,Ex.args_mk]
theorem zeZ (c:UInt8) (h:yI [vN c]=0):zZ (vN c)=0:=by
 unfold zZ;rw[Zf,h,zja,if_neg];rintro ⟨_,h|h⟩
 ·omega
 ·rw[List.length_singleton]at h;omega
theorem zmQ:okX (vN 97)=true:=by unfold okX;rw[zeZ 97 (by decide)];rfl
theorem zmR:okX (vN 98)=true:=by unfold okX;rw[zeZ 98 (by decide)];rfl
theorem zm4 {c:UInt8} (h:okX (vN c)=true):zY (smI c)=true:=by
 have e1:zb0 2 [1] 1=true:=by decide
 have e2:(0:Int)<=0/\(0:Int)<2/\(0:Int)<=1/\(1:Int)<2:=by decide
 refine zz.2 ⟨by simp[smI],λe he=>?_,e1⟩;obtain rfl:=List.mem_singleton.1 he;exact yj.2 ⟨e2,λg hg=>by obtain rfl:=List.mem_singleton.1 hg;exact h,λb hb=>by cases hb⟩
theorem zid:zY smO=true:=by
 refine zz.2 ⟨by simp[smO],λe he=>?_,by decide⟩;simp only[smO,List.mem_cons,List.not_mem_nil,or_false]at he;rcases he with rfl|rfl|rfl
 ·exact yj.2 ⟨by decide,λg hg=>by obtain rfl:=List.mem_singleton.1 hg;exact zmQ,λb hb=>by cases hb⟩
 ·refine yj.2 ⟨by decide,λg hg=>?_,λb hb=>by cases hb⟩;simp only[List.mem_cons,List.not_mem_nil,or_false]at hg;rcases hg with rfl|rfl
  ·exact zmQ
  ·exact zmR
 ·exact yj.2 ⟨by decide,λg hg=>by obtain rfl:=List.mem_singleton.1 hg;exact zmR,λb hb=>by cases hb⟩
theorem zem {c:UInt8} (h:okX (vN c)=true):yz (isN c)=some (smI c):=by rw[Yx];show Zb (isN c) []=_;show doneN (smI c)=_;unfold doneN;rw[if_pos (zm4 h)]
theorem zjZ:yC 0 1 (smI 97) (smI 98)=smO:=by rfl
theorem zi3:yz smN=some smO:=by
 rw[Yx];have e:smN.args.map yz=[some (smI 97),some (smI 98)]:=by show [yz (isN 97),yz (isN 98)]=_;rw[zem zmQ,zem zmR]
 rw[e];show doneN (yC 0 1 (smI 97) (smI 98))=_;rw[zjZ];unfold doneN;rw[if_pos zid]
theorem zj8:trimS smO=smO:=by unfold trimS;rw[if_pos zid];rfl
theorem XE (c:UInt8):(isN c).depth=1/\(isN c).nodes=1:=by rw[Tq.depth_eq,Tq.nodes_eq];exact⟨rfl,rfl⟩
theorem zcc {c:UInt8} (h:okX (vN c)=true) (b:Bool):zC (isN c) b=0:=by
 have hv:zZ (vN c)=0:=by simpa [okX] using h
 have:xZ (isN c) b=0:=by simp[xZ,qJ,isN,Tq.op,Tq.args,Tq.lo,Tq.hi,Tq.name,Tq.expr,zS,hv,ByteArray.size]
 rw[qe,if_pos this];rfl
theorem ziq:yG smN=0:=by
 have hd:smN.depth=2:=by rw[Tq.depth_eq];show List.foldl max 0 [(isN 97).depth,(isN 98).depth]+1=2;rw[(XE 97).1,(XE 98).1];rfl
 have hn:smN.nodes=3:=by rw[Tq.nodes_eq];show 1+[(isN 97).nodes,(isN 98).nodes].sum=3;rw[(XE 97).2,(XE 98).2];rfl
 have h0:xZ smN false=0:=by simp[xZ,qJ,smN,Tq.op,Tq.args,Tq.lo,Tq.hi,Tq.name,Tq.expr,zS,YK,Ex.op_mk,Ex.n_mk,Ex.name_mk,Ex.args_mk,ByteArray.size]
 unfold yG;rw[hd,hn,if_neg (by omega),qe,if_pos h0];show YN [zC (isN 97) _,zC (isN 98) _]=0;rw[zcc zmQ,zcc zmR];rfl
def smE:List Sg:=[(⟨#[97]⟩,1),(⟨#[98]⟩,1)]
theorem zm9:qK (vN 97) [] smE=1:=by rw[ZQ zmQ,qE,if_neg (by decide),if_pos (by rfl)];simp[smE,yK,vN,Ex.name_mk,YJ]
theorem zna:qK (vN 98) [] smE=1:=by rw[ZQ zmR,qE,if_neg (by decide),if_pos (by rfl)];simp[smE,yK,vN,Ex.name_mk,YJ]
theorem zik {e:zn} (hg:∀g∈e.guards,g=vN 97\/g=vN 98) (hs:e.sets=[]):xj e [] smE=some []:=by
 have h1:e.guards.all (λg=>qK g [] smE != 0)=true:=List.all_eq_true.2 λg h=>by
  rcases hg g h with rfl|rfl
  ·rw[zm9];rfl
  ·rw[zna];rfl
 unfold xj;rw[if_pos h1,hs];rfl
theorem zj2:yq smO [⟨0,[]⟩] smE=([⟨1,[]⟩,⟨2,[]⟩],0):=by
 have hst:yF smO smE [⟨0,[]⟩] 1=[⟨1,[]⟩,⟨2,[]⟩]:=by
  show qZ smE ⟨0,[]⟩ (qZ smE ⟨0,[]⟩ (qZ smE ⟨0,[]⟩ [] ⟨0,1,[vN 97],[]⟩) ⟨0,2,[vN 97,vN 98],[]⟩) ⟨1,2,[vN 98],[]⟩=_;have t1:=zik (e:=⟨0,1,[vN 97],[]⟩) (by simp) rfl;have t2:=zik (e:=⟨0,2,[vN 97,vN 98],[]⟩) (by simp) rfl;have e1:qZ smE ⟨0,[]⟩ [] ⟨0,1,[vN 97],[]⟩=[⟨1,[]⟩]:=by unfold qZ;rw[if_pos rfl,t1];rfl
  have e2:qZ smE ⟨0,[]⟩ [⟨1,[]⟩] ⟨0,2,[vN 97,vN 98],[]⟩=[⟨1,[]⟩,⟨2,[]⟩]:=by unfold qZ;rw[if_pos rfl,t2];rfl
  rw[e1,e2];unfold qZ;rw[if_neg (by decide)]
 have ht:([⟨0,[]⟩]:List yU).all (YI smO)=true:=by rfl
 unfold yq;rw[zid,ht];show (if 256<(yF smO smE [⟨0,[]⟩] 1).length then _ else (yF smO smE [⟨0,[]⟩] 1,_))=_;rw[hst];rfl
theorem zk0:yP smO [⟨1,[]⟩,⟨2,[]⟩]=[⟨2,[]⟩]:=rfl
attribute [local go_sem ↓] Go.wp_at_zero Go.wp_at_succ
theorem zm8 (fn:Func) (hr:fn.results=#[.cell 2 27]) (W:World) (tm:Array Value) (b:Nat) (m0 m1 m2 m3 m4 m5 m6 m7 m8:Value) (hW:W.heap[b]? = some (.cells #[m0,m1,m2,m3,m4,m5,m6,m7,m8] 27 (0,0))) (h0:tm.getD 2 undef=.pointer (some ⟨b,0,none⟩)) :
 (results fn tm).run Tryz.prog W=.ok (.agg #[m0,m1,m2,m3,m4,m5,m6,m7,m8]) W:=by
 obtain⟨c0,c1,c2,c3,c4,c5,c6,c7,c8⟩:=zt hW;rw[xH hr,h0];simp[asAddr];go_simp
theorem zkB (c:UInt8) (w:World):Calls Tryz.prog 41 #[.string ⟨#[c]⟩] w λe w'=>e=.returned (ym (isN c) none 0 none 0)/\Below w.heap.size w w':=by go_enter Tryz.func41, Tryz.ntmps41;go_wp2_with fail;refine bodyPost_ret (v:=ym (isN c) none 0 none 0) (zm8 _ rfl _ _ w.heap.size _ _ _ _ _ _ _ _ _ (zh rfl) rfl) rfl ⟨rfl,(Below.refl _ _).alloc (Nat.le_refl _) _⟩
theorem zkA (W:World) (c:UInt8):Zr W (isN c) none 0 none 0:=by
 have hz:(⟨#[c]⟩:ByteArray).size<=1073741824:=by show 1<=1073741824;omega
 refine⟨by show 0<=1073741824;omega,⟨hz,?_⟩,?_⟩
 ·exact⟨Nat.le_refl _,by simp[isN,vN,Tq.expr,Ex.args_mk],Or.inl rfl⟩
 ·exact⟨Nat.le_refl _,by simp[isN,Tq.args],Or.inl rfl⟩
theorem zmH {W:World} {b:Nat} (h:W.heap[b]? = some (.cells ((y9 (isN 97) none 0 none 0)++(y9 (isN 98) none 0 none 0)).toArray 27 (0,0))):Zr W smN none 0 (some ⟨b,0,none⟩) 2:=by
 refine⟨by decide,⟨by decide,?_⟩,?_⟩
 ·exact⟨Nat.le_refl _,by simp[smN,Tq.expr,Ex.args_mk],Or.inl rfl⟩
 ·refine⟨by simp[smN,Tq.args],by simp[smN,Tq.args],Or.inr ⟨b,0,rfl,λi hi=>?_⟩⟩;have hi2:i<2:=by simpa [smN,Tq.args] using hi
  match i,hi2 with
  |0,_ =>refine⟨isN 97,rfl,(Y8 _ _ _ _).2 ⟨none,0,none,0,λj v hj=>?_,zkA W 97⟩⟩;have hj2:=(List.getElem?_eq_some_iff.1 hj).1;rw[zc h];show ((y9 (isN 97) none 0 none 0)++(y9 (isN 98) none 0 none 0)).toArray[0+0*9+j]? = _;rw[List.getElem?_toArray,show 0+0*9+j=j by omega,List.getElem?_append_left hj2];exact hj
  |1,_ =>refine⟨isN 98,rfl,(Y8 _ _ _ _).2 ⟨none,0,none,0,λj v hj=>?_,zkA W 98⟩⟩;rw[zc h];show ((y9 (isN 97) none 0 none 0)++(y9 (isN 98) none 0 none 0)).toArray[0+1*9+j]? = _;have hl:(y9 (isN 97) none 0 none 0).length=9:=rfl;rw[List.getElem?_toArray,List.getElem?_append_right (by omega),show 0+1*9+j-(y9 (isN 97) none 0 none 0).length=j by omega];exact hj
theorem zlZ:SmT smN:=by
 have h1:∀c,SmT (isN c):=λc=>(QI _).2 ⟨by show (vN c).nodes.length<=_;rw[Zf];simp,λa ha=>by simp[isN,Tq.args]at ha⟩;refine(QI _).2 ⟨?_,λa ha=>?_⟩
 ·show (Ex.mk 0 0 ⟨#[]⟩ []).nodes.length<=_;rw[Ex.nodes_eq];simp[Ex.args_mk]
 ·simp[smN,Tq.args]at ha;rcases ha with rfl|rfl
  ·exact h1 97
  ·exact h1 98
theorem zgO:ZX smN=(some smO,0):=by unfold ZX;rw[ziq,zi3,if_neg (by simp)];show (some (trimS smO),(0:Int))=_;rw[zj8]
theorem zhy:smN.nodes<=1000000000:=by
 have h1:∀c,(isN c).nodes=1:=λc=>by rw[Tq.nodes_eq];simp[isN,Tq.args]
 rw[Tq.nodes_eq];show 1+([isN 97,isN 98].map Tq.nodes).sum<=_;simp[h1]
theorem zc0:yH smO/\∀e∈smO.edges,Qf e:=by
 refine⟨λe he=>?_,λe he=>?_⟩
 ·simp only[smO,List.mem_cons,List.not_mem_nil,or_false]at he;rcases he with rfl|rfl|rfl<;>refine⟨λg hg=>?_,λb hb=>by cases hb⟩<;>simp at hg
  ·subst hg;rw[Zf];simp
  ·rcases hg with rfl|rfl<;>(rw[Zf];simp)
  ·subst hg;rw[Zf];simp
 ·simp only[smO,List.mem_cons,List.not_mem_nil,or_false]at he;rcases he with rfl|rfl|rfl<;>refine⟨λg hg=>?_,λb hb=>(by cases hb),by simp⟩<;>simp at hg
  ·subst hg;rw[Zf];simp
  ·rcases hg with rfl|rfl<;>(rw[Zf];simp)
  ·subst hg;rw[Zf];simp
theorem zie {W:World} {k:Nat} (h:W.heap[k]? = some (.cells #[.string ⟨#[97]⟩,.int .i64 1,.string ⟨#[98]⟩,.int .i64 1] 78 (0,0))):sgE.In W smE (some ⟨k,0,none⟩) 2:=by
 refine⟨by simp[smE],by simp[smE],Or.inr ⟨k,0,rfl,λi hi=>?_⟩⟩;have hi2:i<2:=by simpa [smE] using hi
 match i,hi2 with
 |0,_=>exact⟨_,rfl,zcY.2 ⟨by rw[zc h];rfl,by rw[zc h];rfl⟩⟩
 |1,_=>exact⟨_,rfl,zcY.2 ⟨by rw[zc h];rfl,by rw[zc h];rfl⟩⟩
theorem zfe (w:World) (hG:ZW w):Calls Tryz.prog 12 #[] w λe w'=>e=.returned (.bool true)/\Below w.heap.size w w':=by
 have HG:=Lib.hid hG;have HI7:Hid (∀W,Calls Tryz.prog 41 #[.string ⟨#[97]⟩] W λe w'=>e=.returned (ym (isN 97) none 0 none 0)/\Below W.heap.size W w'):=λW=>zkB 97 W;have HI8:Hid (∀W,Calls Tryz.prog 41 #[.string ⟨#[98]⟩] W λe w'=>e=.returned (ym (isN 98) none 0 none 0)/\Below W.heap.size W w'):=λW=>zkB 98 W;rw[zo]at HI7 HI8;have HPo:Hid (∀W,Below w.heap.size w W->(λ(e:Ending) (w':World)=>e=.returned (.bool true)/\Below w.heap.size w w') (.returned (.bool true)) W):=λW hW=>⟨rfl,hW⟩;generalize (λ(e:Ending) (w':World)=>e=.returned (.bool true)/\Below w.heap.size w w')=Po at HPo⊢;clear hG;go_enter Tryz.func12, Tryz.ntmps12;go_wp2_with fail;refine(HI7.out _).mono ?_;rintro e w1 ⟨rfl,hb1⟩;have HB1:=Lib.hid hb1;clear hb1;go_wp2_with fail;refine(HI8.out _).mono ?_;rintro e w2 ⟨rfl,hb2⟩;have HB2:Hid (Below w.heap.size w w2):=HB1.out.trans (hb2.mono HB1.out.size);clear hb2 HB1;go_wp2_with fail;generalize hW3:World.alloc w2 _=W3;have hB3:Below w2.heap.size w2 W3:=by rw[←hW3];exact(Below.refl _ _).alloc (Nat.le_refl _) _
 have hk3:W3.heap[w2.heap.size]? = some (.cells ((y9 (isN 97) none 0 none 0)++(y9 (isN 98) none 0 none 0)).toArray 27 (0,0)):=by rw[←hW3];exact zh rfl
 have HB3:Hid (Below w.heap.size w W3):=HB2.out.trans (hB3.mono HB2.out.size);have HC:=QG smN y8 none 0 (some ⟨w2.heap.size,0,none⟩) 2 W3 ((zmH hk3).keep xW) (λj hj=>by cases hj) zhy zlZ (HG.out.below HB3.out);rw[zgO]at HC;have HC2:=Lib.hid HC;clear hW3 hB3 hk3 HC;refine HC2.out.mono ?_;rintro e w4 ⟨⟨y,he,hy⟩,hb4⟩;obtain rfl:e=.returned (.tuple #[.agg #[.int .i64 3,.slice y.ae 3 y.ce,.slice y.aa 1 y.ca],.int .i64 0]):=he;have HB4:Hid (Below w.heap.size w w4):=HB3.out.trans (hb4.mono HB3.out.size);have HN4:Hid (xS w4 smO y):=hy.keep zb;clear hb4 hy HC2 HB3 HB2 HI7 HI8;obtain⟨xae,xce,xaa,xca⟩:=y;go_upto_region 2 with fail;generalize hW5:World.alloc w4 _=W5;have hB5:Below w4.heap.size w4 W5:=by rw[←hW5];exact(Below.refl _ _).alloc (Nat.le_refl _) _
 have HX5:Hid (W5.heap[w4.heap.size]? = some (.cells #[.int .i64 3,.slice xae 3 xce,.slice xaa 1 xca] 33 (0,0))):=by show _=_;rw[←hW5];exact zh rfl
 have HB5:Hid (Below w.heap.size w W5):=HB4.out.trans (hB5.mono HB4.out.size);have HN5:Hid (xS W5 smO ⟨xae,xce,xaa,xca⟩):=HN4.out.keep (za hB5);clear hW5 hB5 HN4 HB4;have HStt:Hid (∀W,Below W5.heap.size W5 W->Calls Tryz.prog 22 #[.slice none 0 0] W λe w'=>(∃a c,e=.returned (.slice a 1 c)/\thE.In w' [⟨0,[]⟩] a c)/\Below W.heap.size W w'/\Below W5.heap.size W5 w'):=λW hW=>(zc1 y8 [] none 0 W (λj hj=>by cases hj) (Enc.In.nil _) (by simp)).mono λe w' ⟨⟨a,c,h1,h2⟩,h3⟩=>⟨⟨a,c,h1,h2.keep zb⟩,h3,hW.trans (h3.mono hW.size)⟩;have HSte:Hid (∀W a c ae ce,Below W5.heap.size W5 W->thE.In W [⟨0,[]⟩] a c->sgE.In W smE ae ce->Calls Tryz.prog 19 #[.agg #[.int .i64 3,.slice xae 3 xce,.slice xaa 1 xca],.slice a 1 c,.slice ae 2 ce] W λe w'=>(∃a c,e=.returned (.tuple #[.slice a 2 c,.int .i64 0])/\thE.In w' [⟨1,[]⟩,⟨2,[]⟩] a c)/\Below W5.heap.size W5 w'):=λW a c ae ce hW h1 h2=>(zeW y8 smO ⟨xae,xce,xaa,xca⟩ [⟨0,[]⟩] a c smE ae ce W (λj hj=>by cases hj) (HG.out.below (HB5.out.trans (hW.mono HB5.out.size))) (HN5.out.keep (za hW)) zc0.1 zc0.2 h1 (by simp) (by simp) h2 (by simp[smE])).mono λe w' h=>by rw[zj2]at h;obtain⟨⟨a,c,h3,h4⟩,h5⟩:=h;exact⟨⟨a,c,h3,h4.keep zb⟩,hW.trans (h5.mono hW.size)⟩
 have HAcc:Hid (∀W a c,Below W5.heap.size W5 W->thE.In W [⟨1,[]⟩,⟨2,[]⟩] a c->Calls Tryz.prog 25 #[.agg #[.int .i64 3,.slice xae 3 xce,.slice xaa 1 xca],.slice a 2 c] W λe w'=>(∃a c,e=.returned (.slice a 1 c))/\Below W5.heap.size W5 w'):=λW a c hW h1=>(Xb y8 smO ⟨xae,xce,xaa,xca⟩ [⟨1,[]⟩,⟨2,[]⟩] a c W (λj hj=>by cases hj) (HN5.out.keep (za hW)) h1 (by simp) (by simp)).mono λe w' h=>by rw[zk0]at h;obtain⟨⟨a,c,h3,h4⟩,h5⟩:=h;exact⟨⟨a,c,h3⟩,hW.trans (h5.mono hW.size)⟩
 have HZ:Hid (∀W,Below W5.heap.size W5 W->W.cell? ⟨w4.heap.size,0,none⟩=some (.int .i64 3)/\W.cell? ⟨w4.heap.size,1,none⟩=some (.slice xae 3 xce)/\W.cell? ⟨w4.heap.size,2,none⟩=some (.slice xaa 1 xca)):=λW hW=>by obtain⟨h0,h1,h2⟩:=zv ((hW.block _ (lt_of_block HX5.out)).trans HX5.out);exact⟨h0,h1,h2⟩
 obtain⟨z0,z1,z2⟩:=HZ.out W5 (Below.refl _ _);have Z0:∀o,(W5.alloc o).cell? ⟨w4.heap.size,0,none⟩=some (.int .i64 3):=λo=>Lib.cell?_alloc_some _ z0;have Z1:∀o,(W5.alloc o).cell? ⟨w4.heap.size,1,none⟩=some (.slice xae 3 xce):=λo=>Lib.cell?_alloc_some _ z1;have Z2:∀o,(W5.alloc o).cell? ⟨w4.heap.size,2,none⟩=some (.slice xaa 1 xca):=λo=>Lib.cell?_alloc_some _ z2;go_cut [3,4] from 13 to 21 (λs3 s4 wx=>∃(a:Option Addr) (c:Nat),s3=.slice a 2 c/\s4=.int .i64 0/\Hid (thE.In wx [⟨1,[]⟩,⟨2,[]⟩] a c)/\Hid (Below W5.heap.size W5 wx));case first =>
  go_region_law (first
   |(go_simp;go_at_call 22;(with_reducible refine(HStt.out _ (by first|with_reducible assumption|exact yx)).mono ?_);rintro e v1 ⟨⟨a1,c1,rfl,hin1⟩,hb1,hB1⟩;have hs1:=hB1.size;have HT1:=Lib.hid hin1;obtain⟨j0,j1,j2⟩:=HZ.out _ hB1;have J0:=λo=>Lib.cell?_alloc_some o j0;have J1:=λo=>Lib.cell?_alloc_some o j1;have J2:=λo=>Lib.cell?_alloc_some o j2;clear hin1)
   |(go_simp;go_at_call 19;(with_reducible refine(HSte.out _ _ _ _ _ ?hb ?ht ?hs).mono ?_);(case hb=>first|with_reducible assumption|exact yx);(case ht=>first|exact HT1.out|exact HT1.out.keep (za ((Below.refl _ _).alloc (Nat.le_refl _) _))|exact HT1.out.keep (λa v h=>Lib.cell?_alloc_some _ h));(case hs=>first|exact zie (zh rfl)|exact zie (hbT hb1 (zh rfl))|exact zie (hbT hb1 (qN (zh rfl))));rintro e v2 ⟨⟨a2,c2,rfl,hin2⟩,hB2⟩;have HT2:=Lib.hid hin2;have HB2v:=Lib.hid hB2;clear hin2 hB2))
  all_goals
   go_wp2_with fail;go_meet;case rel=>exact⟨a2,c2,rfl,rfl,HT2.out,HB2v.out⟩
 case rest =>obtain⟨a2,c2,e3,e4,HT2,HBx⟩:=hcut;subst e3 e4;obtain⟨k0,k1,k2⟩:=HZ.out _ HBx.out;have HAc2:=Lib.hid (HAcc.out _ a2 c2 HBx.out HT2.out);clear z0 z1 z2 Z0 Z1 Z2 HStt HSte HAcc;go_wp2_with (go_at_call 25;go_must (refine HAc2.out.mono ?_;rintro e w7 ⟨⟨a7,c7,rfl⟩,hb7⟩;have HB7:Hid (Below w.heap.size w w7):=HB5.out.trans (hb7.mono HB5.out.size);clear hb7));have HF:=Lib.hid (HPo.out _ HB7.out);first|exact HF.out|(go_ret2;exact HF.out)
noncomputable def pB (P:Prop):Bool:=@decide P (Classical.propDecidable P)
theorem zhK {P:Prop} (h:P):pB P=true:=by unfold pB;exact @decide_eq_true P (Classical.propDecidable P) h
theorem QC {P:Prop} (h:¬P):pB P=false:=by unfold pB;exact @decide_eq_false P (Classical.propDecidable P) h
theorem zl5 {s s':ByteArray} (h:¬s=s'):(s.toList != s'.toList)=true:=by
 cases he:(s.toList==s'.toList)
 ·simp[bne,he]
 ·have h1:s.toList=s'.toList:=by simpa using he
  rw[ByteArray.toList_eq,ByteArray.toList_eq]at h1;exact absurd (ByteArray.ext (Array.toList_inj.1 h1)) h
def yO (b:Bool) (w:World) (e:Ending) (w':World):Prop:=e=.returned (.bool b)/\Below w.heap.size w w'
theorem zaB {α:Type} {l m:List α} {k:Nat} (hl:k<l.length) (hm:k<m.length) (h:l[k]'hl≠m[k]'hm):¬l=m:=by rintro rfl;exact h rfl
theorem zcU (l m:List Sg) (a1:Option Addr) (c1:Nat) (a2:Option Addr) (c2:Nat) (w:World) (h1:zT w l a1 c1) (h2:zT w m a2 c2) :
 Calls Tryz.prog 55 #[.slice a1 l.length c1,.slice a2 m.length c2] w (yO (pB (l=m)) w):=by
 have HYes:Hid (l=m->∀W,Below w.heap.size w W->yO (pB (l=m)) w (.returned (.bool true)) W):=λh W hW=>⟨by rw[zhK h],hW⟩;have HNo:Hid (¬l=m->∀W,Below w.heap.size w W->yO (pB (l=m)) w (.returned (.bool false)) W):=λh W hW=>⟨by rw[QC h],hW⟩;generalize yO (pB (l=m)) w=Po at HYes HNo⊢;have HE:=Lib.hid h1;have HE2:=Lib.hid h2;have HA:Hid (l.length=0\/∃b off,a1=some ⟨b,off,none⟩):=zr.addr h1;have HA2:Hid (m.length=0\/∃b off,a2=some ⟨b,off,none⟩):=zr.addr h2;have hlen:=h1.2.1;have hlen2:=h2.2.1;clear h1 h2;by_cases hl:l.length=m.length
 ·have HL:=Lib.hid hl;have d1:((l.length:Int) != (m.length:Int))=false:=by simp;omega
  clear hl;go_enter Tryz.func55, Tryz.ntmps55;go_wp2_with fail;clear d1;go_loopw [5] (λi wr=>∃k:Nat,i=.int .i64 k/\k<=l.length/\Hid (∀j (hj:j<l.length) (hj2:j<m.length),j<k->l[j]'hj=m[j]'hj2)/\Hid (Below w.heap.size w wr)) (λi _=>l.length-(intOf i).toNat);case atStart=>exact⟨0,rfl,Nat.zero_le _,λ_ _ _ h=>absurd h (Nat.not_lt_zero _),Below.refl _ _⟩
  case round =>
   (try rename World=>wr)
   obtain⟨k,rfl,hk,HAl,HB⟩:=hrel;by_cases hlt:k<l.length
   ·have hlt2:k<m.length:=by have:=HL.out;omega
    obtain⟨b,off,ha⟩:=HA.out.resolve_left (by omega);subst ha;obtain⟨b2,off2,ha2⟩:=HA2.out.resolve_left (by omega);subst ha2;obtain⟨p0,p1⟩:=(HE.out.keep (za HB.out)).get rfl hlt;obtain⟨q0,q1⟩:=(HE2.out.keep (za HB.out)).get rfl hlt2;have HNx:Hid (l[k]'hlt=m[k]'hlt2->∀j (hj:j<l.length) (hj2:j<m.length),j<k+1->l[j]'hj=m[j]'hj2):=λhe j hj hj2 hjk=>by
     by_cases e:j=k
     ·subst e;exact he
     ·exact HAl.out j hj hj2 (by omega)
    have HNn:Hid (¬l[k]'hlt=m[k]'hlt2->∀W,Below w.heap.size w W->Po (.returned (.bool false)) W):=λh=>HNo.out (zaB hlt hlt2 h);generalize (l[k]'hlt)=x at p0 p1 HNx HNn;generalize (m[k]'hlt2)=y at q0 q1 HNx HNn;obtain⟨s,z⟩:=x;obtain⟨s',z'⟩:=y;simp only at p0 p1 q0 q1;have hkl:(k:Int)<l.length:=by omega
    have hkl2:(k:Int)<m.length:=by omega
    clear HAl;by_cases he:s=s'
    ·by_cases hz:z=z'
     ·subst he;subst hz;have HN:=Lib.hid (HNx.out rfl);clear HNx HNn;go_wp2_with fail;go_quiet (fail);go_wp2_with fail;go_roundw;case rel=>exact⟨k+1,by go_num,by omega,HN.out,below_drewN HB.out _⟩
      case measure=>(simp[intOf];try omega)
     ·subst he;have HN:=Lib.hid (HNn.out (λh=>hz (Prod.mk.inj h).2));have hz1:(z==z')=false:=by simpa using hz
      have hz2:(z != z')=true:=by simpa using hz
      clear HNx HNn;go_wp2_with fail;go_quiet (fail);go_wp2_with fail;first|exact HN.out _ (below_drewN HB.out _)|(go_ret2;exact HN.out _ (below_drewN HB.out _))
    ·have HN:=Lib.hid (HNn.out (λh=>he (Prod.mk.inj h).1));have he1:=zl5 he;have he2:(s.toList==s'.toList)=false:=by simpa [bne] using he1
     have he3:¬s.toList=s'.toList:=by simpa using he2
     clear HNx HNn;go_wp2_with fail;go_quiet (fail);go_wp2_with fail;first|exact HN.out _ (below_drewN HB.out _)|(go_ret2;exact HN.out _ (below_drewN HB.out _))
   ·obtain rfl:k=l.length:=by omega
    have HEq:Hid (l=m):=List.ext_getElem HL.out λj hj hj2=>HAl.out j hj hj2 hj;have HN:=Lib.hid (HYes.out HEq.out _ HB.out);go_wp2_with fail;first|exact HN.out|(go_ret2;exact HN.out)
 ·have d1:((l.length:Int) != (m.length:Int))=true:=by simp;omega
  have HN:=Lib.hid (HNo.out (λh=>hl (by rw[h])) _ (Below.refl _ _));go_enter Tryz.func55, Tryz.ntmps55;go_wp2_with fail;first|exact HN.out|(go_ret2;exact HN.out)
end Go.Proofs.YthojpomoflhbcaaGreatDoor
