/- The automaton of a sequence has the sequence's matches. -/
import Derived.Test.YthojpomoflhbcaaGreatDoorQ34
import Derived.Test.YthojpomoflhbcaaGreatDoorQ33
set_option maxHeartbeats 8000000
set_option maxRecDepth 100000
set_option linter.unusedSimpArgs false
set_option linter.unusedVariables false
set_option linter.unnecessarySimpa false
namespace Go.Proofs.YthojpomoflhbcaaGreatDoor
open Go.RowKit
variable {E : Nat → List Sg}
abbrev MtT:=Nat->Nat->List Sg->List Sg->Prop
def noM:MtT:=λ_ _ _ _=>False
noncomputable def Mt (E:Nat->List Sg) (s:Tq):MtT:=s.para λs ms k i l l' =>
 if s.op=1 then k=1/\qK s.expr l (E i)≠0/\l'=l
 else if s.op=2 then ∃(d k1 k2:Nat) (l1:List Sg),s.lo<=d/\(d:Int)<=s.hi/\(ms.getD 0 noM) k1 i l l1/\(ms.getD 1 noM) k2 (i+k1+d-1) l1 l'/\k+1=k1+d+k2
 else if s.op=3 then ∃m:Nat,1<=m/\s.lo<=m/\(m:Int)<=s.hi/\zkr (ms.getD 0 noM) m k i l l'
 else if s.op=4 then ∃m∈ms,m k i l l'
 else if s.op=5 then l'=l/\zgk ms k i l
 else if s.op=6 then ∃l1,(ms.getD 0 noM) k i l l1/\l'=Z4 l1 s.name (qK s.expr l1 (E (i+k-1)))
 else (ms.getD 0 noM) k i l l'/\∀j,j<k->qK s.expr l (E (i+j))≠0
theorem zmj (E:Nat->List Sg) (s:Tq) (k i:Nat) (l l':List Sg):Mt E s k i l l' <->
 if s.op=1 then k=1/\qK s.expr l (E i)≠0/\l'=l
 else if s.op=2 then ∃(d k1 k2:Nat) (l1:List Sg),s.lo<=d/\(d:Int)<=s.hi/\((s.args.map (Mt E)).getD 0 noM) k1 i l l1/\((s.args.map (Mt E)).getD 1 noM) k2 (i+k1+d-1) l1 l'/\k+1=k1+d+k2
 else if s.op=3 then ∃m:Nat,1<=m/\s.lo<=m/\(m:Int)<=s.hi/\zkr ((s.args.map (Mt E)).getD 0 noM) m k i l l'
 else if s.op=4 then ∃m∈s.args.map (Mt E),m k i l l'
 else if s.op=5 then l'=l/\zgk (s.args.map (Mt E)) k i l
 else if s.op=6 then ∃l1,((s.args.map (Mt E)).getD 0 noM) k i l l1/\l'=Z4 l1 s.name (qK s.expr l1 (E (i+k-1)))
 else ((s.args.map (Mt E)).getD 0 noM) k i l l'/\∀j,j<k->qK s.expr l (E (i+j))≠0:=by
 unfold Mt;rw[Tq.para_eq]
theorem zfW {A B:MtT} (h:∀k i l l',qm l->(A k i l l'<->B k i l l')) (hok:∀k i l l',qm l->B k i l l'->qm l'):∀m k i l l',qm l->(zkr A m k i l l'<->zkr B m k i l l'):=by
 intro m
 induction m with
 |zero=>intro k i l l' _;exact Iff.rfl
 |succ m ih =>
  intro k i l l' hl;constructor
  ·rintro ⟨k1,k2,l1,hk,h1,h2⟩;have h1:=(h _ _ _ _ hl).1 h1;exact⟨k1,k2,l1,hk,h1,(ih _ _ _ _ (hok _ _ _ _ hl h1)).1 h2⟩
  ·rintro ⟨k1,k2,l1,hk,h1,h2⟩;exact⟨k1,k2,l1,hk,(h _ _ _ _ hl).2 h1,(ih _ _ _ _ (hok _ _ _ _ hl h1)).2 h2⟩
theorem zkW {n:zm} {k i:Nat} {l l':List Sg} (hl:qm l) (h:Ac n E k i l l'):qm l':=by obtain⟨a,_,h⟩:=h;exact znx hl h
def xU (S:List ByteArray) (n:zm):Prop:=∀e∈n.edges,∀b∈e.sets,b.name∈S
theorem xU.mono {S S':List ByteArray} {n:zm} (h:xU S n) (hs:∀s∈S,s∈S'):xU S' n:=λe he b hb=>hs _ (h e he b hb)
theorem zf6 {S:List ByteArray} {lo hi:Int} {x y:zm} (hx:xU S x) (hy:xU S y):xU S (yC lo hi x y):=by
 intro e he b hb;rcases xP.1 he with h|⟨_,a,_,rfl⟩|⟨j,_,rfl⟩|⟨_,g,hg,_,f,hf,_,rfl⟩|⟨_,a,_,f,hf,_,rfl⟩|⟨j,_,_,f,hf,_,rfl⟩|⟨f,hf,_,rfl⟩
 ·exact hx e h b hb
 ·cases hb
 ·cases hb
 ·rcases List.mem_append.1 hb with h|h
  ·exact hx g hg b h
  ·exact hy f hf b h
 ·exact hy f hf b hb
 ·exact hy f hf b hb
 ·exact hy f hf b hb
theorem zjW {S:List ByteArray} {lo hi:Int} {n:zm} (hn:xU S n):xU S (zcP lo hi n):=by
 intro e he b hb;rcases zeA.1 (show e∈Xy n hi.toNat from he) with ⟨_,h⟩|⟨c,_,⟨a,_,f,hf,_,rfl⟩|⟨f,hf,_,rfl⟩⟩
 ·exact hn e h b hb
 ·exact hn f hf b hb
 ·exact hn f hf b hb
theorem zlY {S:List ByteArray}:∀(ps:List zm) (out:zm),xU S out->(∀p∈ps,xU S p)->xU S (ps.foldl xG out):=by
 intro ps
 induction ps with
 |nil=>intro out h _;exact h
 |cons p ps ih =>
  intro out h hp;refine ih _ ?_ λq hq=>hp q (List.mem_cons_of_mem _ hq);intro e he b hb;simp only[xG,List.mem_append]at he;rcases he with he|he
  ·exact h e he b hb
  ·obtain⟨f,hf,rfl⟩:=List.mem_map.1 he;exact hp p (List.mem_cons_self ..) f hf b hb
theorem zjX {S:List ByteArray} {nm:ByteArray} {x:Ex} {n:zm} (hn:xU S n) (hm:nm∈S):xU S (zax nm x n):=by
 intro e he b hb;simp only[zax,List.mem_append]at he;rcases he with he|he
 ·exact hn e he b hb
 ·obtain⟨f,hf,he⟩:=List.mem_filterMap.1 he;split at he
  ·obtain rfl:=Option.some.inj he;rcases List.mem_append.1 hb with h|h
   ·exact hn f hf b h
   ·obtain rfl:=List.mem_singleton.1 h;exact hm
  ·simp at he
theorem zia {S:List ByteArray} {x:Ex} {n:zm} (hn:xU S n):xU S (Qs x n):=by intro e he b hb;obtain⟨f,hf,rfl⟩:=List.mem_map.1 he;exact hn f hf b hb
theorem za0 {n:zm}:xU [] n<->x9 n:=by
 constructor
 ·intro h e he;cases hs:e.sets with
  |nil=>rfl
  |cons b r=>have:=h e he b (by rw[hs];exact List.mem_cons_self ..);cases this
 ·intro h e he b hb;rw[h e he]at hb;cases hb
theorem zeS {n:zm} {S:List ByteArray} (h:x9 n):xU S n:=λe he b hb=>by rw[h e he]at hb;cases hb
theorem Qi (s:Tq):zC s true=0->xd s=[]:=by
 induction s using Tq.ind with
 |h s ih =>intro hc;obtain⟨hn,ha⟩:=xC hc;obtain⟨_,_,_,_,_,h6,_⟩:=xD hn;rw[ZO,if_neg (λe=>by have:=h6 e;simp at this),List.append_nil,List.flatten_eq_nil_iff];intro l hl;obtain⟨a,hm,rfl⟩:=List.mem_map.1 hl;have:=ha a hm;rw[Bool.true_or]at this;exact ih a hm this
theorem zh9 {s a:Tq} (ha:a∈s.args):∀nm∈xd a,nm∈xd s:=λnm hn=>by rw[ZO];exact List.mem_append_left _ (List.mem_flatten.2 ⟨_,List.mem_map.2 ⟨a,ha,rfl⟩,hn⟩)
theorem zba (s:Tq):∀b,zC s b=0->∀nm∈xd s,yW nm.data.toList=true:=by
 induction s using Tq.ind with
 |h s ih =>
  intro b hc nm hm;obtain⟨hn,ha⟩:=xC hc;obtain⟨_,_,_,h6,_⟩:=xD hn;rw[ZO]at hm;rcases List.mem_append.1 hm with hm|hm
  ·obtain⟨l,hl,hm⟩:=List.mem_flatten.1 hm;obtain⟨a,hm2,rfl⟩:=List.mem_map.1 hl;exact ih a hm2 _ (ha a hm2) nm hm
  ·split at hm
   ·rename_i h;obtain rfl:=List.mem_singleton.1 hm;exact h6 h
   ·cases hm
theorem zef {l:List Tq} {ps:List zm} (h:l.map yz=ps.map some):l.length=ps.length/\∀(i:Nat) (a:Tq) (p:zm),l[i]? = some a->ps[i]? = some p->yz a=some p:=by refine⟨by have:=congrArg List.length h;simpa using this,λi a p ha hp=>?_⟩;have:=congrArg (·[i]?) h;simp only[List.getElem?_map,ha,hp,Option.map_some]at this;exact Option.some.inj this
theorem zcg (s:Tq):∀b,zC s b=0->∀n,yz s=some n->xU (xd s) n:=by
 induction s using Tq.ind with
 |h s ih =>
  intro b hc n hn;obtain⟨hnode,harg⟩:=xC hc;rw[Yx]at hn;cases hp:qW (s.args.map yz) with
  |none=>rw[hp]at hn;simp at hn
  |some ps =>
   rw[hp]at hn;simp only at hn;obtain⟨hlen,hps⟩:=zef (qX hp);have hP:∀p∈ps,xU (xd s) p:=λp hpm=>by
    obtain⟨i,hi,rfl⟩:=List.getElem_of_mem hpm;have hi':i<s.args.length:=by omega
    exact(ih _ (List.getElem_mem hi') _ (harg _ (List.getElem_mem hi')) _ (hps i _ _ (List.getElem?_eq_getElem hi') (List.getElem?_eq_getElem hi))).mono (zh9 (List.getElem_mem hi'))
   have hD:∀i,i<ps.length->xU (xd s) (ps.getD i ⟨0,[],[]⟩):=λi hi=>by rw[List.getD_eq_getElem?_getD,List.getElem?_eq_getElem hi];exact hP _ (List.getElem_mem hi)
   unfold Zb at hn;obtain⟨hs,_⟩:=xD hnode;have hsh:=xy hs;split at hn
   ·obtain⟨rfl,_⟩:=zQ hn;refine zeS λe he=>?_;obtain rfl:=List.mem_singleton.1 he;rfl
   ·split at hn
    ·obtain⟨rfl,_⟩:=zQ hn;exact zf6 (hD 0 (by omega)) (hD 1 (by omega))
    ·split at hn
     ·obtain⟨rfl,_⟩:=zQ hn;exact zjW (hD 0 (by omega))
     ·split at hn
      ·obtain⟨rfl,_⟩:=zQ hn;exact zlY _ _ (λe he=>by cases he) hP
      ·split at hn
       ·rename_i h5;have hnp:∀p∈ps,x9 p:=λp hpm=>by
         obtain⟨i,hi,rfl⟩:=List.getElem_of_mem hpm;have hi':i<s.args.length:=by omega
         have hck:=harg _ (List.getElem_mem hi');rw[h5,show ((5:Int)==5)=true from rfl,Bool.or_true]at hck;have:=ih _ (List.getElem_mem hi') _ hck _ (hps i _ _ (List.getElem?_eq_getElem hi') (List.getElem?_eq_getElem hi));rw[Qi _ hck]at this;exact za0.1 this
        have hreg:∀{ps:List zm} {ks:List Nat},RegL ks ps->∀{m:zm},ps≠[]->(∀p∈ps,x9 p)->Xd (ps.getD 0 ⟨0,[],[]⟩) ps.tail=some m->x9 m:=by
         intro ps ks hr m hne hns hm;cases hr with
         |nil=>exact absurd rfl hne
         |cons h1 h2=>exact(zkt (E:=λ_=>[]) _ _ h1 h2 (hns _ (List.mem_cons_self ..)) (λp hp=>hns p (List.mem_cons_of_mem _ hp)) hm).1
        exact zeS (hreg (Xx (qX hp) λa ha2 n2 h2=>ZG a _ (harg a ha2) n2 h2) (by rintro rfl;simp only[List.length_nil]at hlen;omega) hnp hn)
       ·split at hn
        ·rename_i h6;obtain⟨rfl,_⟩:=zQ hn;refine zjX (hD 0 (by omega)) ?_;rw[ZO,if_pos h6];exact List.mem_append_right _ (List.mem_singleton.2 rfl)
        ·obtain⟨rfl,_⟩:=zQ hn;exact zia (hD 0 (by omega))
theorem zfo (s:Tq):∀b,zC s b=0->∀n,yz s=some n->∀k i l l',qm l->(Mt E s k i l l'<->Ac n E k i l l'):=by
 induction s using Tq.ind with
 |h s ih =>
  intro b hc n hn k i l l' hl;obtain⟨hnode,harg⟩:=xC hc;have hsets:=zba s b hc;rw[Yx]at hn;cases hp:qW (s.args.map yz) with
  |none=>rw[hp]at hn;simp at hn
  |some ps =>
   rw[hp]at hn;simp only at hn;obtain⟨hlen,hps⟩:=zef (qX hp);obtain⟨hs,hw1,hw2,h6n,hvx,h65,h7⟩:=xD hnode;have hsh:=xy hs;have hC:∀j (hj:j<s.args.length),∃p,ps[j]? = some p/\yz (s.args[j]'hj)=some p/\qn (s.args[j]'hj).nodes p/\∀k i l l',qm l->(Mt E (s.args[j]'hj) k i l l'<->Ac p E k i l l'):=λj hj=>by
    have hj':j<ps.length:=by omega
    have hcp:=hps j _ _ (List.getElem?_eq_getElem hj) (List.getElem?_eq_getElem hj');exact⟨_,List.getElem?_eq_getElem hj',hcp,ZG _ _ (harg _ (List.getElem_mem hj)) _ hcp,ih _ (List.getElem_mem hj) _ (harg _ (List.getElem_mem hj)) _ hcp⟩
   have gM:∀j (hj:j<s.args.length),(s.args.map (Mt E)).getD j noM=Mt E (s.args[j]'hj):=λj hj=>by rw[List.getD_eq_getElem?_getD,List.getElem?_map,List.getElem?_eq_getElem hj];rfl
   have gP:∀{j:Nat} {p:zm},ps[j]? = some p->ps.getD j ⟨0,[],[]⟩=p:=λh=>by rw[List.getD_eq_getElem?_getD,h];rfl
   rw[zmj];unfold Zb at hn;by_cases h1:s.op=1
   ·rw[if_pos h1]at hn⊢;obtain⟨rfl,_⟩:=zQ hn;exact(zkV s.expr).symm
   rw[if_neg h1]at hn⊢;by_cases h2:s.op=2
   ·rw[if_pos h2]at hn⊢;obtain⟨rfl,hok⟩:=zQ hn;obtain⟨x,gx,cx,rx,mx⟩:=hC 0 (by omega);obtain⟨y,gy,cy,ry,my⟩:=hC 1 (by omega);rw[gP gx,gP gy]at hok⊢;rw[gM 0 (by omega),gM 1 (by omega),ziL (by omega) (by omega) rx ry hok hl];refine exists_congr λd=>exists_congr λk1=>exists_congr λk2=>exists_congr λl1=>?_;constructor
    ·rintro ⟨a1,a2,a3,a4,a5⟩;have a3:=(mx _ _ _ _ hl).1 a3;exact⟨a1,a2,a3,(my _ _ _ _ (zkW hl a3)).1 a4,a5⟩
    ·rintro ⟨a1,a2,a3,a4,a5⟩;exact⟨a1,a2,(mx _ _ _ _ hl).2 a3,(my _ _ _ _ (zkW hl a3)).2 a4,a5⟩
   rw[if_neg h2]at hn⊢;by_cases h3:s.op=3
   ·rw[if_pos h3]at hn⊢;obtain⟨rfl,hok⟩:=zQ hn;obtain⟨x,gx,cx,rx,mx⟩:=hC 0 (by omega);rw[gP gx];rw[gM 0 (by omega),zmo rx.nice];refine exists_congr λm=>and_congr_right λ_=>and_congr_right λ_=>and_congr_right λ_=>?_;exact zfW mx (λ_ _ _ _ hl h=>zkW hl h) m k i l l' hl
   rw[if_neg h3]at hn⊢;by_cases h4:s.op=4
   ·rw[if_pos h4]at hn⊢;obtain⟨rfl,hok⟩:=zQ hn;have hnice:∀p∈ps,Qe p:=λp hpm=>by
     obtain⟨j,hj,rfl⟩:=List.getElem_of_mem hpm;obtain⟨q,gq,_,rq,_⟩:=hC j (by omega);rw[List.getElem?_eq_getElem hj]at gq;obtain rfl:=Option.some.inj gq;exact rq.nice
    rw[zmm hnice];constructor
    ·rintro ⟨m,hm,h⟩;obtain⟨a,ha,rfl⟩:=List.mem_map.1 hm;obtain⟨j,hj,rfl⟩:=List.getElem_of_mem ha;obtain⟨q,gq,_,_,mq⟩:=hC j hj;exact⟨q,List.mem_of_getElem? gq,(mq _ _ _ _ hl).1 h⟩
    ·rintro ⟨p,hpm,h⟩;obtain⟨j,hj,rfl⟩:=List.getElem_of_mem hpm;obtain⟨q,gq,_,_,mq⟩:=hC j (by omega);rw[List.getElem?_eq_getElem hj]at gq;obtain rfl:=Option.some.inj gq;exact⟨_,List.mem_map.2 ⟨_,List.getElem_mem (show j<s.args.length by omega),rfl⟩,(mq _ _ _ _ hl).2 h⟩
   rw[if_neg h4]at hn⊢;by_cases h5:s.op=5
   ·rw[if_pos h5]at hn⊢;have hnp:∀p∈ps,x9 p:=λp hpm=>by
     obtain⟨j,hj,rfl⟩:=List.getElem_of_mem hpm;have hj':j<s.args.length:=by omega
     have hck:=harg _ (List.getElem_mem hj');rw[h5,show ((5:Int)==5)=true from rfl,Bool.or_true]at hck;have:=zcg _ _ hck _ (hps j _ _ (List.getElem?_eq_getElem hj') (List.getElem?_eq_getElem hj));rw[Qi _ hck]at this;exact za0.1 this
    have hreg:=Xx (qX hp) λa ha2 n2 h2=>ZG a _ (harg a ha2) n2 h2;have hand:zgk (s.args.map (Mt E)) k i l<->zgk (ps.map λp=>Ac p E) k i l:=by
     unfold zgk;constructor
     ·rintro ⟨ha,m,hm,h⟩;refine⟨λA hA=>?_,?_⟩
      ·obtain⟨p,hpm,rfl⟩:=List.mem_map.1 hA;obtain⟨j,hj,rfl⟩:=List.getElem_of_mem hpm;obtain⟨q,gq,_,_,mq⟩:=hC j (by omega);rw[List.getElem?_eq_getElem hj]at gq;obtain rfl:=Option.some.inj gq;obtain⟨k',hk',h'⟩:=ha _ (List.mem_map.2 ⟨_,List.getElem_mem (show j<s.args.length by omega),rfl⟩);exact⟨k',hk',(mq _ _ _ _ hl).1 h'⟩
      ·obtain⟨a,ha2,rfl⟩:=List.mem_map.1 hm;obtain⟨j,hj,rfl⟩:=List.getElem_of_mem ha2;obtain⟨q,gq,_,_,mq⟩:=hC j hj;exact⟨_,List.mem_map.2 ⟨q,List.mem_of_getElem? gq,rfl⟩,(mq _ _ _ _ hl).1 h⟩
     ·rintro ⟨ha,A,hA,h⟩;refine⟨λm hm=>?_,?_⟩
      ·obtain⟨a,ha2,rfl⟩:=List.mem_map.1 hm;obtain⟨j,hj,rfl⟩:=List.getElem_of_mem ha2;obtain⟨q,gq,_,_,mq⟩:=hC j hj;obtain⟨k',hk',h'⟩:=ha _ (List.mem_map.2 ⟨q,List.mem_of_getElem? gq,rfl⟩);exact⟨k',hk',(mq _ _ _ _ hl).2 h'⟩
      ·obtain⟨p,hpm,rfl⟩:=List.mem_map.1 hA;obtain⟨j,hj,rfl⟩:=List.getElem_of_mem hpm;obtain⟨q,gq,_,_,mq⟩:=hC j (by omega);rw[List.getElem?_eq_getElem hj]at gq;obtain rfl:=Option.some.inj gq;exact⟨_,List.mem_map.2 ⟨_,List.getElem_mem (show j<s.args.length by omega),rfl⟩,(mq _ _ _ _ hl).2 h⟩
    rw[hand];generalize List.map Tq.nodes s.args=kss at hreg;cases hreg with
    |nil=>simp only[List.length_nil]at hlen;omega
    | @cons k1 p1 ks ps1 r1 rs =>
     simp only[List.getD_cons_zero,List.tail_cons]at hn;obtain⟨_,hA⟩:=zkt (E:=E) _ _ r1 rs (hnp _ (List.mem_cons_self ..)) (λp hp=>hnp p (List.mem_cons_of_mem _ hp)) hn;rw[hA];constructor
     ·rintro ⟨rfl,h⟩;refine Or.inr ⟨?_,rfl,h⟩;rintro rfl;simp only[List.length_cons,List.length_nil]at hlen;omega
     ·rintro (⟨rfl,_⟩|⟨_,h⟩)
      ·simp only[List.length_cons,List.length_nil]at hlen;omega
      ·exact h
   rw[if_neg h5]at hn⊢;by_cases h6:s.op=6
   ·rw[if_pos h6]at hn⊢;obtain⟨rfl,hok⟩:=zQ hn;obtain⟨x,gx,cx,rx,mx⟩:=hC 0 (by omega);rw[gP gx,gM 0 (by omega),zmp rx.nice ((qM.1 (zz.1 rx.ok).2.2).2.imp λh=>by omega)];exact exists_congr λl1=>and_congr_left λ_=>mx _ _ _ _ hl
   rw[if_neg h6]at hn⊢;obtain⟨rfl,hok⟩:=zQ hn;have ho7:s.op=7:=by omega
   obtain⟨x,gx,cx,rx,mx⟩:=hC 0 (by omega);have hl0:0<s.args.length:=by omega
   rw[gP gx,gM 0 hl0,mx _ _ _ _ hl];have hvx2:okX s.expr=true:=by unfold okX;have:=hvx (by unfold zS;rw[ho7];rfl);rw[this];rfl
   have hS:=zcg _ _ (harg _ (List.getElem_mem hl0)) _ cx;have hSn:=zba _ _ (harg _ (List.getElem_mem hl0));have hd:∀nm∈zG [2] s.expr,¬nm∈xd (s.args[0]'hl0):=by
    intro nm hnm hm;have h77:=h7 ho7;unfold XB at h77;cases hargs:s.args with
    |nil=>rw[hargs]at hl0;simp at hl0
    |cons a r =>rw[hargs]at h77;simp only[hargs,List.getElem_cons_zero]at hm;rw[List.any_eq_false]at h77;exact h77 nm hnm ((Lib.containsS_iff _ _).2 hm)
   constructor
   ·rintro ⟨⟨a,ha,h⟩,hj⟩;exact⟨a,ha,(zhY hvx2 hSn hd hS l hl (Agr.refl _ _)).2 ⟨h,hj⟩⟩
   ·rintro ⟨a,ha,h⟩;obtain⟨h,hj⟩:=(zhY hvx2 hSn hd hS l hl (Agr.refl _ _)).1 h;exact⟨⟨a,ha,h⟩,hj⟩
variable {E : Nat → List Sg}
theorem zkK {n:zm} (hn:zY n=true):∀{k i:Nat} {s:Int} {l:List Sg} {t:Int} {l':List Sg},Rn n E k i s l t l'->Rch (qh n) s.toNat t.toNat:=by
 intro k
 induction k with
 |zero=>rintro i s l t l' ⟨rfl,_⟩;exact Rch.refl _
 |succ k ih =>rintro i s l t l' ⟨e,he,rfl,l1,_,h⟩;exact(ih h).head (List.mem_map.2 ⟨e,he,rfl⟩)
theorem zlQ {n:zm} (hn:zY n=true) {a:Int} (ha:a∈n.accept):∀{k i:Nat} {s:Int} {l l':List Sg},Rch (qh n) 0 s.toNat->Rn n E k i s l a l'->Rn (Zh n (zL n) (zw n)) E k i (yX (zL n) (zw n) s.toNat:Nat) l (yX (zL n) (zw n) a.toNat:Nat) l':=by
 intro k
 induction k with
 |zero=>rintro i s l l' _ ⟨rfl,rfl⟩;exact⟨rfl,rfl⟩
 |succ k ih =>rintro i s l l' h0 ⟨e,he,rfl,l1,h1,h2⟩;have hstep:(e.fr.toNat,e.to.toNat)∈qh n:=List.mem_map.2 ⟨e,he,rfl⟩;have h3:=zkK hn h2;have h4:=h0.step hstep;refine⟨zj5 (zL n) (zw n) e,List.mem_map.2 ⟨e,List.mem_filter.2 ⟨he,(zbz hn).2 ⟨⟨h0,a,ha,h3.head hstep⟩,h4,a,ha,h3⟩⟩,rfl⟩,rfl,l1,h1,ih h4 h2⟩
theorem zh0 {n:zm} (hn:zY n=true) {t':Int}:∀{k i:Nat} {s:Int} {l l':List Sg},0<=s->yM (zL n) (zw n) s.toNat=true->Rn (Zh n (zL n) (zw n)) E k i (yX (zL n) (zw n) s.toNat:Nat) l t' l'->∃t,0<=t/\yM (zL n) (zw n) t.toNat=true/\t'=(yX (zL n) (zw n) t.toNat:Nat)/\Rn n E k i s l t l':=by
 intro k
 induction k with
 |zero=>rintro i s l l' hs hk ⟨rfl,rfl⟩;exact⟨s,hs,hk,rfl,rfl,rfl⟩
 |succ k ih =>
  rintro i s l l' hs hk ⟨e',he',hfr,l1,h1,h2⟩;obtain⟨e,he,rfl⟩:=List.mem_map.1 he';obtain⟨he,hg⟩:=List.mem_filter.1 he;have hgd:=(zbz hn).1 hg;have hok:=(yj.1 ((zz.1 hn).2.1 e he)).1;have hk1:yM (zL n) (zw n) e.fr.toNat=true:=(Xq hn).2 (Or.inr hgd.1);have hk2:yM (zL n) (zw n) e.to.toNat=true:=(Xq hn).2 (Or.inr hgd.2);have hfr2:yX (zL n) (zw n) e.fr.toNat=yX (zL n) (zw n) s.toNat:=by have:((yX (zL n) (zw n) e.fr.toNat:Nat):Int)=(yX (zL n) (zw n) s.toNat:Nat):=hfr;omega
  have hes:e.fr=s:=by have:=zeE hk1 hk hfr2;omega
  obtain⟨t,g1,g2,g3,g4⟩:=ih hok.2.2.1 hk2 h2;exact⟨t,g1,g2,g3,e,he,hes,l1,h1,g4⟩
theorem zkX {n:zm} (hn:zY n=true) {k i:Nat} {l l':List Sg}:Ac (trimS n) E k i l l'<->Ac n E k i l l':=by
 unfold trimS;rw[if_pos hn];have z:((yX (zL n) (zw n) (0:Int).toNat:Nat):Int)=0:=by rw[show (0:Int).toNat=0 from rfl,zcH];rfl
 have hac:=(qM.1 (zz.1 hn).2.2).1;constructor
 ·rintro ⟨a',ha',h⟩;have h:Rn (Zh n (zL n) (zw n)) E k i (yX (zL n) (zw n) (0:Int).toNat:Nat) l a' l':=by rw[z];exact h
  obtain⟨t,g1,g2,g3,g4⟩:=zh0 hn (Int.le_refl 0) (by rw[show (0:Int).toNat=0 from rfl];exact zcx) h;obtain⟨a,ha,hea⟩:=List.mem_map.1 (show a'∈(n.accept.filter λs=>yM (zL n) (zw n) s.toNat).map λs=>(yX (zL n) (zw n) s.toNat:Int) from ha');obtain⟨ha,hk⟩:=List.mem_filter.1 ha;have:yX (zL n) (zw n) a.toNat=yX (zL n) (zw n) t.toNat:=by have:((yX (zL n) (zw n) a.toNat:Nat):Int)=(yX (zL n) (zw n) t.toNat:Nat):=hea.trans g3;omega
  have hta:=zeE hk g2 this;have:=(hac a ha).1;obtain rfl:a=t:=by omega
  exact⟨a,ha,g4⟩
 ·rintro ⟨a,ha,h⟩;have h2:=zlQ hn ha (Rch.refl _) h;rw[z]at h2;refine⟨_,?_,h2⟩;refine List.mem_map.2 ⟨a,List.mem_filter.2 ⟨ha,(Xq hn).2 (Or.inr ⟨zkK hn h,a,ha,Rch.refl _⟩)⟩,rfl⟩
theorem zlP {n:zm}:∀{k i:Nat} {s:Int} {l:List Sg} {t:Int} {l':List Sg},Rn n E (k+1) i s l t l'<->∃u m,Rn n E k i s l u m/\∃e∈n.edges,e.fr=u/\t=e.to/\xj e m (E (i+k))=some l':=by
 intro k
 induction k with
 |zero =>
  intro i s l t l';constructor
  ·rintro ⟨e,he,hf,l1,h1,h2,h3⟩;subst h2 h3;exact⟨s,l,⟨rfl,rfl⟩,e,he,hf,rfl,h1⟩
  ·rintro ⟨u,m,⟨rfl,rfl⟩,e,he,hf,rfl,h1⟩;exact⟨e,he,hf,l',h1,rfl,rfl⟩
 |succ k ih =>
  intro i s l t l';constructor
  ·rintro ⟨e,he,hf,l1,h1,h2⟩;obtain⟨u,m,h3,f,hfm,hff,ht,h4⟩:=ih.1 h2;exact⟨u,m,⟨e,he,hf,l1,h1,h3⟩,f,hfm,hff,ht,by rwa [show i+(k+1)=i+1+k by omega]⟩
  ·rintro ⟨u,m,⟨e,he,hf,l1,h1,h3⟩,f,hfm,hff,ht,h4⟩;exact⟨e,he,hf,l1,h1,ih.2 ⟨u,m,h3,f,hfm,hff,ht,by rwa [show i+1+k=i+(k+1) by omega]⟩⟩
theorem zm1 {n:zm} (hn:zY n=true) {i:Nat}:∀(envs:List (List Sg)) (k:Nat) (l:List yU) (A:List (List (List Sg))),Qg n l->(∀y,y∈l<->Rn n E k i 0 [] y.state y.env)->(∀j (h:j<envs.length),envs[j]'h=E (i+k+j))->qG n envs l=some A ->
 A.length=envs.length/\∀j (h:j<A.length),Asc zu (A[j]'h)/\∀x,x∈A[j]'h<->Ac n E (k+j+1) i [] x:=by
 intro envs
 induction envs with
 |nil =>intro k l A _ _ _ h;simp only[qG,Option.some.injEq]at h;subst h;exact⟨rfl,λj h=>by simp at h⟩
 |cons env r ih =>
  intro k l A hT hl he h;rw[qG]at h;split at h
  ·rename_i h2;have hst:=zhz hT hn env;have hst2:yq n l env=(yF n env l l.length,0):=by
    rw[hst]at h2⊢;split at h2
    ·simp at h2
    ·rename_i h3;rw[if_neg h3]
   rw[hst2]at h;simp only at h;obtain⟨B,hB,rfl⟩:=Option.map_eq_some_iff.1 h;have henv:env=E (i+k):=by have:=he 0 (by simp);simpa using this
   have hl2:∀y,y∈yF n env l l.length<->Rn n E (k+1) i 0 [] y.state y.env:=by
    intro y;rw[(Yp n env l).2,zlP];constructor
    ·rintro ⟨t,ht,e,hem,h3,h4,h5⟩;exact⟨t.state,t.env,(hl t).1 ht,e,hem,h3,h4,by rw[←henv];exact h5⟩
    ·rintro ⟨u,m,h3,e,hem,h4,h5,h6⟩;exact⟨⟨u,m⟩,(hl ⟨u,m⟩).2 h3,e,hem,h4,h5,by rw[henv];exact h6⟩
   obtain⟨h3,h4⟩:=ih (k+1) _ B (hT.step hn env) hl2 (λj hj=>by have:=he (j+1) (by simpa using hj);simp only[List.getElem_cons_succ]at this;rw[this,show i+k+(j+1)=i+(k+1)+j by omega]) hB;refine⟨by simp[h3],λj hj=>?_⟩;cases j with
   |zero =>
    simp only[List.getElem_cons_zero];obtain⟨a1,a2⟩:=zfb n (yF n env l l.length);refine⟨a1,λx=>?_⟩;rw[a2];constructor
    ·rintro ⟨t,ht,hac,rfl⟩;exact⟨t.state,hac,(hl2 t).1 ht⟩
    ·rintro ⟨a,ha,h5⟩;exact⟨⟨a,x⟩,(hl2 ⟨a,x⟩).2 h5,ha,rfl⟩
   |succ j =>simp only[List.getElem_cons_succ];have:=h4 j (by simpa using hj);rwa [show k+1+j+1=k+(j+1)+1 by omega]at this
  ·cases h
theorem zhm:qm []:=⟨by simp[zbm],λx hx=>by cases hx⟩
theorem zh4 {s:Tq} {b:Bool} (hc:zC s b=0) {n:zm} (hn:yz s=some n) {i:Nat} {envs:List (List Sg)} (he:∀j (h:j<envs.length),envs[j]'h=E (i+j)) {A:List (List (List Sg))} (h:qG (trimS n) envs [⟨0,[]⟩]=some A) :
 A.length=envs.length/\∀j (h:j<A.length),Asc zu (A[j]'h)/\∀x,x∈A[j]'h<->Mt E s (j+1) i [] x:=by
 have hok:=(ZG s b hc n hn).ok;have hok2:zY (trimS n)=true:=by unfold trimS;rw[if_pos hok];exact zio hok
 obtain⟨h1,h2⟩:=zm1 (E:=E) hok2 (i:=i) envs 0 _ A (zil hok2) (λy=>by
  constructor
  ·intro hy;obtain rfl:=List.mem_singleton.1 hy;exact⟨rfl,rfl⟩
  ·rintro ⟨h3,h4⟩;refine List.mem_singleton.2 ?_;cases y;simp only at h3 h4;subst h3 h4;rfl) (λj hj=>by rw[he j hj];rfl) h
 refine⟨h1,λj hj=>⟨(h2 j hj).1,λx=>?_⟩⟩;rw[(h2 j hj).2,zkX hok,zfo s b hc n hn _ _ _ _ zhm,Nat.zero_add]
noncomputable def zA (s:Tq):Int×Int:=s.para λs ls =>
 if s.op=1 then (1,1)
 else if s.op=2 then ((ls.getD 0 (0,0)).1+s.lo+(ls.getD 1 (0,0)).1-1,(ls.getD 0 (0,0)).2+s.hi+(ls.getD 1 (0,0)).2-1)
 else if s.op=3 then ((ls.getD 0 (0,0)).1*s.lo,(ls.getD 0 (0,0)).2*s.hi)
 else ls.tail.foldl (λa b=>(if s.op=4 then min a.1 b.1 else max a.1 b.1,max a.2 b.2)) (ls.getD 0 (0,0))
theorem YA (s:Tq):zA s=if s.op=1 then (1,1)
 else if s.op=2 then (((s.args.map zA).getD 0 (0,0)).1+s.lo+((s.args.map zA).getD 1 (0,0)).1-1,((s.args.map zA).getD 0 (0,0)).2+s.hi+((s.args.map zA).getD 1 (0,0)).2-1)
 else if s.op=3 then (((s.args.map zA).getD 0 (0,0)).1*s.lo,((s.args.map zA).getD 0 (0,0)).2*s.hi)
 else (s.args.map zA).tail.foldl (λa b=>(if s.op=4 then min a.1 b.1 else max a.1 b.1,max a.2 b.2)) ((s.args.map zA).getD 0 (0,0)):=by
 unfold zA;rw[Tq.para_eq]
theorem zlg (l:List (Int×Int)):∀a:Int×Int,((l.foldl (λa b=>(min a.1 b.1,max a.2 b.2)) a).1<=a.1/\a.2<=(l.foldl (λa b=>(min a.1 b.1,max a.2 b.2)) a).2)/\∀b∈l,(l.foldl (λa b=>(min a.1 b.1,max a.2 b.2)) a).1<=b.1/\b.2<=(l.foldl (λa b=>(min a.1 b.1,max a.2 b.2)) a).2:=by
 induction l with
 |nil=>intro a;exact⟨⟨Int.le_refl _,Int.le_refl _⟩,λb hb=>by cases hb⟩
 |cons c l ih =>
  intro a;rw[List.foldl_cons];obtain⟨h1,h2⟩:=ih (min a.1 c.1,max a.2 c.2);simp only at h1;refine⟨⟨by omega,by omega⟩,λb hb=>?_⟩;rcases List.mem_cons.1 hb with rfl|hb
  ·exact⟨by omega,by omega⟩
  ·exact h2 b hb
theorem zjo (l:List (Int×Int)):∀a:Int×Int,(∀x:Int,(a.1<=x/\∀b∈l,b.1<=x)->(l.foldl (λa b=>(max a.1 b.1,max a.2 b.2)) a).1<=x)/\a.2<=(l.foldl (λa b=>(max a.1 b.1,max a.2 b.2)) a).2/\∀b∈l,b.2<=(l.foldl (λa b=>(max a.1 b.1,max a.2 b.2)) a).2:=by
 induction l with
 |nil=>intro a;exact⟨λx h=>h.1,Int.le_refl _,λb hb=>by cases hb⟩
 |cons c l ih =>
  intro a;rw[List.foldl_cons];obtain⟨h1,h2,h3⟩:=ih (max a.1 c.1,max a.2 c.2);simp only at h2;refine⟨λx hx=>h1 x ⟨?_,λb hb=>hx.2 b (List.mem_cons_of_mem _ hb)⟩,by omega,λb hb=>?_⟩
  ·have:=hx.2 c (List.mem_cons_self ..);have:=hx.1;show max a.1 c.1<=x;omega
  ·rcases List.mem_cons.1 hb with rfl|hb
   ·omega
   ·exact h3 b hb
theorem zlL {A:MtT} {lo hi:Int} (h0:0<=lo) (h1:0<=hi) (hA:∀k i l l',A k i l l'->lo<=k/\(k:Int)<=hi):∀(m k i:Nat) (l l':List Sg),zkr A m k i l l'->lo*m<=k/\(k:Int)<=hi*m:=by
 intro m
 induction m with
 |zero=>rintro k i l l' ⟨rfl,_⟩;simp
 |succ m ih =>rintro k i l l' ⟨k1,k2,l1,rfl,h2,h3⟩;have a:=hA _ _ _ _ h2;have b:=ih _ _ _ _ h3;rw[show ((m+1:Nat):Int)=(m:Int)+1 by omega,Int.mul_add,Int.mul_add,Int.mul_one,Int.mul_one];omega
theorem zkF (s:Tq):∀b,zC s b=0->(1<=(zA s).1/\(zA s).1<=(zA s).2)/\∀k i l l',Mt E s k i l l'->(zA s).1<=k/\(k:Int)<=(zA s).2:=by
 induction s using Tq.ind with
 |h s ih =>
  intro b hc;obtain⟨hnode,harg⟩:=xC hc;obtain⟨hs,_⟩:=xD hnode;have hsh:=xy hs;have gM:∀j (hj:j<s.args.length),(s.args.map (Mt E)).getD j noM=Mt E (s.args[j]'hj):=λj hj=>by rw[List.getD_eq_getElem?_getD,List.getElem?_map,List.getElem?_eq_getElem hj];rfl
  have gL:∀j (hj:j<s.args.length),(s.args.map zA).getD j (0,0)=zA (s.args[j]'hj):=λj hj=>by rw[List.getD_eq_getElem?_getD,List.getElem?_map,List.getElem?_eq_getElem hj];rfl
  have hI:∀j (hj:j<s.args.length),(1<=(zA (s.args[j]'hj)).1/\(zA (s.args[j]'hj)).1<=(zA (s.args[j]'hj)).2)/\∀k i l l',Mt E (s.args[j]'hj) k i l l'->(zA (s.args[j]'hj)).1<=k/\(k:Int)<=(zA (s.args[j]'hj)).2:=λj hj=>ih _ (List.getElem_mem hj) _ (harg _ (List.getElem_mem hj));have hmt:=λk i l l'=>zmj E s k i l l';rw[YA];by_cases h1:s.op=1
  ·simp only[if_pos h1]at hmt⊢;refine⟨⟨Int.le_refl _,Int.le_refl _⟩,λk i l l' h=>?_⟩;obtain⟨rfl,_⟩:=(hmt _ _ _ _).1 h;exact⟨Int.le_refl _,Int.le_refl _⟩
  simp only[if_neg h1]at hmt⊢;by_cases h2:s.op=2
  ·simp only[if_pos h2]at hmt⊢;have l0:0<s.args.length:=by omega
   have l1:1<s.args.length:=by omega
   rw[gL 0 l0,gL 1 l1];rw[gM 0 l0,gM 1 l1]at hmt;have a:=hI 0 l0;have c:=hI 1 l1;refine⟨⟨by omega,by omega⟩,λk i l l' h=>?_⟩;obtain⟨d,k1,k2,m,g1,g2,g3,g4,g5⟩:=(hmt _ _ _ _).1 h;have g3:=a.2 _ _ _ _ g3;have g4:=c.2 _ _ _ _ g4;omega
  simp only[if_neg h2]at hmt⊢;by_cases h3:s.op=3
  ·simp only[if_pos h3]at hmt⊢;have l0:0<s.args.length:=by omega
   rw[gL 0 l0];rw[gM 0 l0]at hmt;have a:=hI 0 l0;have hb:1<=s.lo/\s.lo<=s.hi:=by omega
   have m1:(zA (s.args[0]'l0)).1*1<=(zA (s.args[0]'l0)).1*s.lo:=Int.mul_le_mul_of_nonneg_left hb.1 (by omega);have m2:(zA (s.args[0]'l0)).1*s.lo<=(zA (s.args[0]'l0)).2*s.lo:=Int.mul_le_mul_of_nonneg_right a.1.2 (by omega);have m3:(zA (s.args[0]'l0)).2*s.lo<=(zA (s.args[0]'l0)).2*s.hi:=Int.mul_le_mul_of_nonneg_left hb.2 (by omega);refine⟨⟨by omega,by omega⟩,λk i l l' h=>?_⟩;obtain⟨m,g1,g2,g3,g4⟩:=(hmt _ _ _ _).1 h;have g:=zlL (by omega) (by omega) a.2 m _ _ _ _ g4;have n1:(zA (s.args[0]'l0)).1*s.lo<=(zA (s.args[0]'l0)).1*m:=Int.mul_le_mul_of_nonneg_left g2 (by omega);have n2:(zA (s.args[0]'l0)).2*m<=(zA (s.args[0]'l0)).2*s.hi:=Int.mul_le_mul_of_nonneg_left g3 (by omega);omega
  simp only[if_neg h3]at hmt⊢;have l0:0<s.args.length:=by omega
  obtain⟨a0,r,har⟩:∃a0 r,s.args=a0::r:=by
   cases hh:s.args with
   |nil=>rw[hh]at l0;simp at l0
   |cons a0 r=>exact⟨a0,r,rfl⟩
  have hJ:∀a∈s.args,(1<=(zA a).1/\(zA a).1<=(zA a).2)/\∀k i l l',Mt E a k i l l'->(zA a).1<=k/\(k:Int)<=(zA a).2:=λa ha=>ih _ ha _ (harg _ ha);rw[har]at hJ hmt⊢;simp only[List.map_cons,List.tail_cons,List.getD_cons_zero]at hmt⊢;have hJ0:=hJ a0 (List.mem_cons_self ..);by_cases h4:s.op=4
  ·simp only[if_pos h4]at hmt⊢;obtain⟨f1,f2⟩:=zlg (r.map zA) (zA a0);have fpos:∀(l:List (Int×Int)) (a:Int×Int),1<=a.1->(∀b∈l,(1:Int)<=b.1)->1<=(l.foldl (λa b=>(min a.1 b.1,max a.2 b.2)) a).1:=by
    intro l
    induction l with
    |nil=>intro a h _;exact h
    |cons c l ih2 =>intro a h hb;rw[List.foldl_cons];refine ih2 _ ?_ λb hb2=>hb b (List.mem_cons_of_mem _ hb2);have:=hb c (List.mem_cons_self ..);show 1<=min a.1 c.1;omega
   have hp:=fpos (r.map zA) (zA a0) hJ0.1.1 λb hb=>by obtain⟨a,ha,rfl⟩:=List.mem_map.1 hb;exact(hJ a (List.mem_cons_of_mem _ ha)).1.1
   refine⟨⟨hp,by have:=hJ0.1;omega⟩,λk i l l' h=>?_⟩;obtain⟨m,hm,g⟩:=(hmt _ _ _ _).1 h;rcases List.mem_cons.1 hm with rfl|hm
   ·have:=hJ0.2 _ _ _ _ g;omega
   ·obtain⟨a,ha,rfl⟩:=List.mem_map.1 hm;have:=(hJ a (List.mem_cons_of_mem _ ha)).2 _ _ _ _ g;have:=f2 _ (List.mem_map.2 ⟨a,ha,rfl⟩);omega
  simp only[if_neg h4]at hmt⊢;obtain⟨f1,f2,f3⟩:=zjo (r.map zA) (zA a0);have fge:∀(l:List (Int×Int)) (a:Int×Int),a.1<=(l.foldl (λa b=>(max a.1 b.1,max a.2 b.2)) a).1:=by
   intro l
   induction l with
   |nil=>intro a;exact Int.le_refl _
   |cons c l ih2 =>intro a;rw[List.foldl_cons];have:=ih2 (max a.1 c.1,max a.2 c.2);simp only at this;omega
  have hp:=fge (r.map zA) (zA a0);have hle:((r.map zA).foldl (λa b=>(max a.1 b.1,max a.2 b.2)) (zA a0)).1<=((r.map zA).foldl (λa b=>(max a.1 b.1,max a.2 b.2)) (zA a0)).2:=f1 _ ⟨by have:=hJ0.1;omega,λc hc=>by obtain⟨a,ha,rfl⟩:=List.mem_map.1 hc;have:=f3 _ (List.mem_map.2 ⟨a,ha,rfl⟩);have:=(hJ a (List.mem_cons_of_mem _ ha)).1;omega⟩;refine⟨⟨by have:=hJ0.1;omega,hle⟩,λk i l l' h=>?_⟩;by_cases h5:s.op=5
  ·simp only[if_pos h5]at hmt;obtain⟨_,hall,m,hm,g⟩:=(hmt _ _ _ _).1 h;constructor
   ·refine f1 _ ⟨?_,λc hc=>?_⟩
    ·obtain⟨k',hk',g'⟩:=hall (Mt E a0) (List.mem_cons_self ..);have:=hJ0.2 _ _ _ _ g';omega
    ·obtain⟨a,ha,rfl⟩:=List.mem_map.1 hc;obtain⟨k',hk',g'⟩:=hall (Mt E a) (List.mem_cons_of_mem _ (List.mem_map.2 ⟨a,ha,rfl⟩));have:=(hJ a (List.mem_cons_of_mem _ ha)).2 _ _ _ _ g';omega
   ·rcases List.mem_cons.1 hm with rfl|hm
    ·have:=hJ0.2 _ _ _ _ g;omega
    ·obtain⟨a,ha,rfl⟩:=List.mem_map.1 hm;have:=(hJ a (List.mem_cons_of_mem _ ha)).2 _ _ _ _ g;have:=f3 _ (List.mem_map.2 ⟨a,ha,rfl⟩);omega
  simp only[if_neg h5]at hmt;have hr:r=[]:=by
   have h6:s.args.length=1:=by omega
   rw[har]at h6;simpa using h6
  subst hr;simp only[List.map_nil,List.foldl_nil]at hmt⊢;by_cases h6:s.op=6
  ·simp only[if_pos h6]at hmt;obtain⟨l1,g,_⟩:=(hmt _ _ _ _).1 h;exact hJ0.2 _ _ _ _ g
  ·simp only[if_neg h6]at hmt;exact hJ0.2 _ _ _ _ ((hmt _ _ _ _).1 h).1
def zlr (op:Int) (a b:Int×Int):Int×Int:=(if op=4 then min a.1 b.1 else max a.1 b.1,max a.2 b.2)
theorem zhk (op:Int) {M:Int}:∀(l:List (Int×Int)) (a:Int×Int),a.2<=M->(∀b∈l,b.2<=M)->(l.foldl (zlr op) a).2<=M
 | [],a,h,_=>h
 |b::l,a,h,hl=>by rw[List.foldl_cons];refine zhk op l _ ?_ λc hc=>hl c (by simp[hc]);have:=hl b (by simp);show max a.2 b.2<=M;omega
theorem zls (s:Tq):∀b,zC s b=0->∀d:Nat,s.depth<=d->(zA s).2<=17 ^ d:=by
 induction s using Tq.ind with
 |h s ih =>
  intro b hc d hd;obtain⟨hnode,harg⟩:=xC hc;obtain⟨hs,_⟩:=xD hnode;have hsh:=xy hs;have hdp:1<=s.depth:=by rw[Tq.depth_eq];omega
  obtain⟨d,rfl⟩:∃d',d=d'+1:=⟨d-1,by omega⟩;have hA:∀a∈s.args,(zA a).2<=17 ^ d:=λa ha=>ih a ha _ (harg a ha) d ((xV s d).1 hd a ha);have hM:(1:Int)<=17 ^ d:=by have:(0:Int)<17 ^ d:=Int.pow_pos (by omega);omega
  have hS:(17:Int) ^ (d+1)=17 ^ d*17:=Int.pow_succ 17 d;rw[hS];generalize (17:Int) ^ d=M at hA hM;have gL:∀j (hj:j<s.args.length),(s.args.map zA).getD j (0,0)=zA (s.args[j]'hj):=λj hj=>by rw[List.getD_eq_getElem?_getD,List.getElem?_map,List.getElem?_eq_getElem hj];rfl
  rw[YA];by_cases h1:s.op=1
  ·rw[if_pos h1];show (1:Int)<=_;omega
  rw[if_neg h1];by_cases h2:s.op=2
  ·rw[if_pos h2];have l0:0<s.args.length:=by omega
   have l1:1<s.args.length:=by omega
   rw[gL 0 l0,gL 1 l1];have a:=hA _ (List.getElem_mem l0);have c:=hA _ (List.getElem_mem l1);show _+s.hi+_-1<=_;omega
  rw[if_neg h2];by_cases h3:s.op=3
  ·rw[if_pos h3];have l0:0<s.args.length:=by omega
   rw[gL 0 l0];have a:=hA _ (List.getElem_mem l0);have hb:1<=s.lo/\s.lo<=s.hi/\s.hi<=16:=by omega
   have m1:(zA (s.args[0]'l0)).2*s.hi<=M*s.hi:=Int.mul_le_mul_of_nonneg_right a (by omega);have m2:M*s.hi<=M*16:=Int.mul_le_mul_of_nonneg_left hb.2.2 (by omega);show _*s.hi<=_;omega
  rw[if_neg h3];have l0:0<s.args.length:=by omega
  have h:=zhk s.op (M:=M) (s.args.map zA).tail ((s.args.map zA).getD 0 (0,0)) (by rw[gL 0 l0];exact hA _ (List.getElem_mem l0)) λb hb=>by obtain⟨a,ha,rfl⟩:=List.mem_map.1 (List.mem_of_mem_tail hb);exact hA a ha
  exact Int.le_trans h (by omega)
noncomputable def zkD (s:Tq) (k:Nat):Int×Int:=((s.args.map zA).tail.take (k-1)).foldl (zlr s.op) ((s.args.map zA).getD 0 (0,0))
theorem zjB (s:Tq):zkD s 1=(s.args.map zA).getD 0 (0,0):=by unfold zkD;simp
theorem zhl (s:Tq) {k:Nat} (h1:1<=k) (hk:k<s.args.length):zkD s (k+1)=zlr s.op (zkD s k) ((s.args.map zA).getD k (0,0)):=by
 unfold zkD;have hl:k-1<(s.args.map zA).tail.length:=by simp;omega
 have e:(s.args.map zA).tail.take (k+1-1)=(s.args.map zA).tail.take (k-1)++[(s.args.map zA).tail[k-1]'hl]:=by rw[show k+1-1=(k-1)+1 by omega];exact List.take_succ_eq_append_getElem hl
 rw[e,List.foldl_append];simp only[List.foldl_cons,List.foldl_nil];congr 1;rw[List.getD_eq_getElem?_getD,List.getElem?_eq_getElem (by simp;omega),List.getElem_tail];simp only[Option.getD_some];congr 1;omega
theorem zjA (s:Tq) (h:1<=s.args.length):zkD s s.args.length=(s.args.map zA).tail.foldl (zlr s.op) ((s.args.map zA).getD 0 (0,0)):=by unfold zkD;rw[List.take_of_length_le (by simp)]
attribute [local go_sem ↓] Go.wp_at_zero Go.wp_at_succ
theorem zma (s:Tq) (b:Bool) (hc:zC s b=0) (hd:s.depth<=8):1<=(zA s).1/\(zA s).1<=(zA s).2/\(zA s).2<=7000000000:=by
 have h1:=zkF (E:=λ_=>[]) s b hc;have h2:=zls s b hc 8 hd;have h3:(17:Int) ^ 8=6975757441:=by decide
 omega
theorem Q5 (s:Tq):∀(b:Bool) (p:Nat->Bool) (ae:Option Addr) (ce:Nat) (a:Option Addr) (cap:Nat) (w:World),Zr (World.hide w p) s ae ce a cap->(∀j,p j=true->j<w.heap.size)->zC s b=0->s.depth<=8 ->
 Calls Tryz.prog 72 #[ym s ae ce a cap] w λe w'=>e=.returned (.tuple #[.int .i64 (zA s).1,.int .i64 (zA s).2])/\Below w.heap.size w w':=by
 induction s using Tq.ind with
 |h s ih =>
  intro b p ae ce a cap w hX hp hc hd;obtain⟨hnode,harg⟩:=xC hc;obtain⟨hs,_⟩:=xD hnode;have hsh:=xy hs;have hdA:∀x∈s.args,x.depth<=8:=λx hx=>by have:=(xV s 7).1 (by omega) x hx;omega
  have hlen:=hX.ar.2.1;have HX:=Lib.hid hX.ar;have HXA:Hid (s.args.length=0\/∃b off,a=some ⟨b,off,none⟩):=zr.addr hX.ar;have gL:∀j (hj:j<s.args.length),(s.args.map zA).getD j (0,0)=zA (s.args[j]'hj):=λj hj=>by rw[List.getD_eq_getElem?_getD,List.getElem?_map,List.getElem?_eq_getElem hj];rfl
  obtain⟨LL,hLL⟩:∃LL:Nat->Int×Int,LL=λk=>(s.args.map zA).getD k (0,0):=⟨_,rfl⟩;have HIH:Hid (∀k (hk:k<s.args.length),∀(xe:Option Addr) (xc:Nat) (xa:Option Addr) (xk:Nat) (W:World),Zr (World.hide W p) (s.args[k]'hk) xe xc xa xk->Below w.heap.size w W->Calls Tryz.prog 72 #[ym (s.args[k]'hk) xe xc xa xk] W λe w'=>e=.returned (.tuple #[.int .i64 (LL k).1,.int .i64 (LL k).2])/\Below W.heap.size W w'):=λk hk xe xc xa xk W h1 hW=>by rw[show LL k=zA (s.args[k]'hk) by rw[hLL];exact gL k hk];exact ih _ (List.getElem_mem hk) _ p xe xc xa xk W h1 (λj hj=>by have:=hp j hj;have:=hW.size;omega) (harg _ (List.getElem_mem hk)) (hdA _ (List.getElem_mem hk))
  have HLb:Hid (∀k,k<s.args.length->1<=(LL k).1/\(LL k).1<=(LL k).2/\(LL k).2<=7000000000):=λk hk=>by rw[show LL k=zA (s.args[k]'hk) by rw[hLL];exact gL k hk];exact zma _ _ (harg _ (List.getElem_mem hk)) (hdA _ (List.getElem_mem hk))
  obtain⟨PK,hPK⟩:∃PK:Nat->Int×Int,PK=zkD s:=⟨_,rfl⟩;have HP1:Hid (PK 1=LL 0):=by show _=_;rw[hPK,hLL];exact zjB s
  have HPs:Hid (∀k,1<=k->k<s.args.length->PK (k+1)=zlr s.op (PK k) (LL k)):=λk h1 hk=>by rw[hPK,hLL];exact zhl s h1 hk
  have HR1:Hid (s.op=1->zA s=(1,1)):=λh=>by rw[YA,if_pos h]
  have HR2:Hid (s.op=2->zA s=((LL 0).1+s.lo+(LL 1).1-1,(LL 0).2+s.hi+(LL 1).2-1)):=λh=>by rw[YA,if_neg (by omega),if_pos h,hLL]
  have HR3:Hid (s.op=3->zA s=((LL 0).1*s.lo,(LL 0).2*s.hi)):=λh=>by rw[YA,if_neg (by omega),if_neg (by omega),if_pos h,hLL]
  have HR4:Hid (¬s.op=1->¬s.op=2->¬s.op=3->1<=s.args.length->zA s=PK s.args.length):=λh1 h2 h3 h4=>by rw[YA,if_neg h1,if_neg h2,if_neg h3,hPK,zjA s h4];rfl
  have HPo:Hid (∀v,v=zA s->∀W,Below w.heap.size w W->(λe w'=>e=Ending.returned (.tuple #[.int .i64 (zA s).1,.int .i64 (zA s).2])/\Below w.heap.size w w') (Ending.returned (.tuple #[.int .i64 v.1,.int .i64 v.2])) W):=λv hv W hW=>⟨by rw[hv],hW⟩;generalize (λe w'=>e=Ending.returned (.tuple #[.int .i64 (zA s).1,.int .i64 (zA s).2])/\Below w.heap.size w w')=Po at HPo⊢;generalize zA s=R at HR1 HR2 HR3 HR4 HPo;have HSh:=Lib.hid hsh;clear hX hp hc hd hnode harg hs hsh hdA ih gL hLL hPK;rw[zo];go_enter Tryz.func72, Tryz.ntmps72;go_upto_region 1 with fail;generalize hBx:World.alloc w _=Bx;have HB0:Hid (Below w.heap.size w Bx):=by show Below _ _ _;rw[←hBx];exact(Below.refl _ _).alloc (Nat.le_refl _) _
  have hzB:=HB0.out.size;have HBX:Hid (∀W,Below Bx.heap.size Bx W->W.heap[w.heap.size]? = some (ye s ae ce a cap)):=λW hW=>by
   have h0:Bx.heap[w.heap.size]? = some (ye s ae ce a cap):=by rw[←hBx];exact zh rfl
   exact(hW.block _ (lt_of_block h0)).trans h0
  clear hBx;obtain⟨b0,b1,b2,b3,b4,b5,b6,b7,b8⟩:=zt (HBX.out _ (Below.refl _ _));by_cases h1:s.op=1
  ·have HE:=Lib.hid (HPo.out (1,1) (HR1.out h1).symm Bx HB0.out);rw[h1]at b0;go_wp2_with fail;first|exact HE.out|(go_ret2;exact HE.out)
  have m1:(s.op==1)=false:=by simp[h1]
  have l0:0<s.args.length:=by have:=HSh.out;omega
  obtain⟨bE,oE,hEa⟩:=HXA.out.resolve_left (by omega);obtain⟨xe,xc,xa,xk,gc,hXy⟩:=(qL.keep (w':=World.hide Bx p) (zg HB0.out λ_ _ h=>h) HX.out).get hEa l0;obtain⟨g0,g1,g2,g3,g4,g5,g6,g7,g8⟩:=Zu gc;have f0:=zb _ _ g0;have f1:=zb _ _ g1;have f2:=zb _ _ g2;have f3:=zb _ _ g3;have f4:=zb _ _ g4;have f5:=zb _ _ g5;have f6:=zb _ _ g6;have f7:=zb _ _ g7;have f8:=zb _ _ g8;have HC:=Lib.hid (HIH.out 0 l0 xe xc xa xk Bx hXy HB0.out);clear gc g0 g1 g2 g3 g4 g5 g6 g7 g8 hXy;generalize (s.args[0]'l0)=y at f0 f1 f2 f3 f4 f5 f6 f7 f8 HC;rw[zo]at HC;simp only[Nat.zero_mul,Nat.add_zero]at f0 f1 f2 f3 f4 f5 f6 f7 f8;rw[hEa]at b8;go_wp2_with fail;refine HC.out.mono ?_;rintro e w1 ⟨rfl,hb1⟩;have HB1:=Lib.hid hb1;clear hb1 b0 b1 b2 b3 b4 b5 b6 b7 b8 f0 f1 f2 f3 f4 f5 f6 f7 f8 HC;obtain⟨b0,b1,b2,b3,b4,b5,b6,b7,b8⟩:=zt (HBX.out _ HB1.out);go_upto_region 4 with fail;have HB1w:Hid (Below w.heap.size w w1):=HB0.out.trans (HB1.out.mono hzB);have hz1:=HB1w.out.size;have hL0:=HLb.out 0 l0;have HGt:Hid (∀W k,Below w.heap.size w W->∀hk:k<s.args.length,∃(y:Tq) (xe:Option Addr) (xc:Nat) (xa:Option Addr) (xk:Nat),(∀j v,(y9 y xe xc xa xk)[j]? = some v->W.cell? ⟨bE,oE+k*9+j,none⟩=some v)/\∀W',Below W.heap.size W W'->Calls Tryz.prog 72 #[ym y xe xc xa xk] W' λe w'=>e=.returned (.tuple #[.int .i64 (LL k).1,.int .i64 (LL k).2])/\Below W'.heap.size W' w'):=λW k hW hk=>by obtain⟨xe,xc,xa,xk,gc,hXy⟩:=(qL.keep (w':=World.hide W p) (zg hW λ_ _ h=>h) HX.out).get hEa hk;exact⟨_,xe,xc,xa,xk,λj v h=>zb _ _ (gc j v h),λW' hW'=>HIH.out k hk xe xc xa xk W' (hXy.keep (zg hW' λ_ _ h=>h)) (hW.trans (hW'.mono hW.size))⟩
  rw[hEa]at b8;by_cases h2:s.op=2
  ·have l1:1<s.args.length:=by have:=HSh.out;omega
   have hb:0<=s.lo/\s.lo<=s.hi/\s.hi<=16:=by have:=HSh.out;omega
   have hL1:=HLb.out 1 l1;obtain⟨y2,xe2,xc2,xa2,xk2,gc,HC⟩:=HGt.out w1 1 HB1w.out l1;obtain⟨f0,f1,f2,f3,f4,f5,f6,f7,f8⟩:=Zu gc;have HC2:=Lib.hid (HC w1 (Below.refl _ _));clear gc HC;rw[zo]at HC2;rw[h2]at b0;simp only[Nat.one_mul,Nat.add_assoc,Nat.reduceAdd]at f0 f1 f2 f3 f4 f5 f6 f7 f8;go_wp2_with fail;refine HC2.out.mono ?_;rintro e w2 ⟨rfl,hb2⟩;have HB2:Hid (Below Bx.heap.size Bx w2):=HB1.out.trans (hb2.mono HB1.out.size);clear hb2 b0 b1 b2 b3 b4 b5 b6 b7 b8 f0 f1 f2 f3 f4 f5 f6 f7 f8 HC2;obtain⟨b0,b1,b2,b3,b4,b5,b6,b7,b8⟩:=zt (HBX.out _ HB2.out);have HB2w:Below w.heap.size w w2:=HB0.out.trans (HB2.out.mono hzB);have HE:=Lib.hid λW (hW:Below w2.heap.size w2 W)=>HPo.out ((LL 0).1+s.lo+(LL 1).1-1,(LL 0).2+s.hi+(LL 1).2-1) (HR2.out h2).symm W (HB2w.trans (hW.mono HB2w.size));clear HB2w;generalize (LL 0).1=A1 at hL0 HE⊢;generalize (LL 0).2=A2 at hL0 HE⊢;generalize (LL 1).1=C1 at hL1 HE⊢;generalize (LL 1).2=C2 at hL1 HE⊢;have wr1:IntKind.i64.wrap (A1+s.lo)=A1+s.lo:=by rw[IntKind.wrap_i64];omega
   have wr2:IntKind.i64.wrap (A1+s.lo+C1)=A1+s.lo+C1:=by rw[IntKind.wrap_i64];omega
   have wr3:IntKind.i64.wrap (A1+s.lo+C1-1)=A1+s.lo+C1-1:=by rw[IntKind.wrap_i64];omega
   have wr4:IntKind.i64.wrap (A2+s.hi)=A2+s.hi:=by rw[IntKind.wrap_i64];omega
   have wr5:IntKind.i64.wrap (A2+s.hi+C2)=A2+s.hi+C2:=by rw[IntKind.wrap_i64];omega
   have wr6:IntKind.i64.wrap (A2+s.hi+C2-1)=A2+s.hi+C2-1:=by rw[IntKind.wrap_i64];omega
   go_wp2_with fail;go_quiet (fail);go_wp2_with fail;first|exact HE.out _ yx|(go_ret2;exact HE.out _ yx)
  have m2:(s.op==2)=false:=by simp[h2]
  by_cases h3:s.op=3
  ·have hb:1<=s.lo/\s.lo<=s.hi/\s.hi<=16:=by have:=HSh.out;omega
   have HE:=Lib.hid λW (hW:Below w1.heap.size w1 W)=>HPo.out ((LL 0).1*s.lo,(LL 0).2*s.hi) (HR3.out h3).symm W (HB1w.out.trans (hW.mono hz1));rw[h3]at b0;generalize (LL 0).1=A1 at hL0 HE⊢;generalize (LL 0).2=A2 at hL0 HE⊢;have p1:A1*s.lo<=A1*16:=Int.mul_le_mul_of_nonneg_left (by omega) (by omega);have p2:A2*s.hi<=A2*16:=Int.mul_le_mul_of_nonneg_left (by omega) (by omega);have p3:0<=A1*s.lo:=Int.mul_nonneg (by omega) (by omega);have p4:0<=A2*s.hi:=Int.mul_nonneg (by omega) (by omega);have wr1:IntKind.i64.wrap (A1*s.lo)=A1*s.lo:=by rw[IntKind.wrap_i64];omega
   have wr2:IntKind.i64.wrap (A2*s.hi)=A2*s.hi:=by rw[IntKind.wrap_i64];omega
   go_wp2_with fail;go_quiet (fail);go_wp2_with fail;first|exact HE.out _ yx|(go_ret2;exact HE.out _ yx)
  have m3:(s.op==3)=false:=by simp[h3]
  go_wp2_with fail;clear b0 b1 b2 b3 b4 b5 b6 b7 b8 hL0;clear m1 m2 m3 l0;have HSl:Hid (1<=s.args.length):=by show _<=_;have:=HSh.out;omega
  have HEn:Hid (∀W,Below w.heap.size w W->Po (.returned (.tuple #[.int .i64 (PK s.args.length).1,.int .i64 (PK s.args.length).2])) W):=λW hW=>HPo.out _ (HR4.out h1 h2 h3 HSl.out).symm W hW;have hl1:=HSl.out;go_loopw [8,4,5,9,10] (λi lo hi _ _ wr=>∃k:Nat,i=.int .i64 k/\1<=k/\k<=s.args.length/\lo=.int .i64 (PK k).1/\hi=.int .i64 (PK k).2/\Hid (Below Bx.heap.size Bx wr)) (λi _ _ _ _ _=>s.args.length-(intOf i).toNat);case atStart=>exact⟨1,rfl,Nat.le_refl _,hl1,by rw[HP1.out],by rw[HP1.out],HB1.out⟩
  case round =>
   obtain⟨k,rfl,hk1,hk,rfl,rfl,HBr⟩:=hrel;have HBw:Hid (Below w.heap.size w wr):=HB0.out.trans (HBr.out.mono hzB);obtain⟨b0,-,-,-,-,-,-,-,b8⟩:=zt (HBX.out _ HBr.out);rw[hEa]at b8;by_cases hlt:k<s.args.length
   ·obtain⟨y2,xe2,xc2,xa2,xk2,gc,HC⟩:=HGt.out wr k HBw.out hlt;obtain⟨f0,f1,f2,f3,f4,f5,f6,f7,f8⟩:=Zu gc;have HC2:=Lib.hid (HC wr (Below.refl _ _));have HPk:=Lib.hid (HPs.out k hk1 hlt);clear gc HC;rw[zo]at HC2;go_wp2_with fail;refine HC2.out.mono ?_;rintro e w5 ⟨rfl,hb5⟩;have HB5:Hid (Below Bx.heap.size Bx w5):=HBr.out.trans (hb5.mono HBr.out.size);clear hb5 b0 b8 f0 f1 f2 f3 f4 f5 f6 f7 f8 HC2;obtain⟨b0,-⟩:=zt (HBX.out _ HB5.out);by_cases h4:s.op=4
    ·have HQ1:Hid ((PK (k+1)).1=min (PK k).1 (LL k).1/\(PK (k+1)).2=max (PK k).2 (LL k).2):=by
      show _/\_;rw[HPk.out];unfold zlr;rw[if_pos h4];exact⟨rfl,rfl⟩
     have m4:(s.op==4)=true:=by simp[h4]
     clear h4;go_wp2_with fail;go_roundw;case rel=>exact⟨k+1,by go_num,by omega,by omega,by rw[HQ1.out.1],by rw[HQ1.out.2],HB5.out⟩
     case measure=>(simp[intOf];try omega)
    ·have HQ1:Hid ((PK (k+1)).1=max (PK k).1 (LL k).1/\(PK (k+1)).2=max (PK k).2 (LL k).2):=by
      show _/\_;rw[HPk.out];unfold zlr;rw[if_neg h4];exact⟨rfl,rfl⟩
     have m4:(s.op==4)=false:=by simp[h4]
     clear h4;go_wp2_with fail;go_roundw;case rel=>exact⟨k+1,by go_num,by omega,by omega,by rw[HQ1.out.1],by rw[HQ1.out.2],HB5.out⟩
     case measure=>(simp[intOf];try omega)
   ·obtain rfl:k=s.args.length:=by omega
    have HE:=Lib.hid (HEn.out wr HBw.out);go_wp2_with fail;first|exact HE.out|(go_ret2;exact HE.out)
end Go.Proofs.YthojpomoflhbcaaGreatDoor
