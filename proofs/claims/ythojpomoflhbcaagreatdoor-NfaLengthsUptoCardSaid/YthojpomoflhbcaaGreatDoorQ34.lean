/- Matches of repetitions, plainly. -/
import Derived.Test.YthojpomoflhbcaaGreatDoorQ33
set_option linter.unusedSimpArgs false
set_option linter.unusedVariables false
set_option linter.unnecessarySimpa false
namespace Go.Proofs.YthojpomoflhbcaaGreatDoor
open Go.RowKit
variable {E : Nat → List Sg}
def zkr (A:Nat->Nat->List Sg->List Sg->Prop):Nat->Nat->Nat->List Sg->List Sg->Prop
 |0,k,_,l,l'=>k=0/\l=l'
 |m+1,k,i,l,l'=>∃k1 k2 l1,k=k1+k2/\A k1 i l l1/\zkr A m k2 (i+k1) l1 l'
def RM (n:zm) (E:Nat->List Sg):Nat->Nat->Nat->Int->List Sg->Int->List Sg->Prop
 |0,k,i,s,l,u,l'=>Rn n E k i s l u l'
 |m+1,k,i,s,l,u,l'=>∃k1 k2 l1,k=k1+k2/\(∃a∈n.accept,Rn n E k1 i s l a l1)/\RM n E m k2 (i+k1) 0 l1 u l'
theorem zlO {n:zm} (hn:Qe n):∀{m i:Nat} {l:List Sg} {u:Int} {l':List Sg},1<=u->¬RM n E m 0 i 0 l u l':=by
 intro m;cases m with
 |zero=>rintro i l u l' hu ⟨h,_⟩;omega
 |succ m =>
  rintro i l u l' hu ⟨k1,k2,l1,hk,⟨a,ha,h⟩,_⟩;obtain rfl:k1=0:=by omega
  have:=h.1;have:=hn.ac a ha;omega
theorem zai {n:zm} {m k i:Nat} {s:Int} {l:List Sg} {u:Int} {l':List Sg}:RM n E m (k+1) i s l u l'<->(∃f∈n.edges,f.fr=s/\∃l1,xj f l (E i)=some l1/\RM n E m k (i+1) f.to l1 u l')\/∃m',m=m'+1/\s∈n.accept/\RM n E m' (k+1) i 0 l u l':=by
 cases m with
 |zero =>
  constructor
  ·intro h;exact Or.inl h
  ·rintro (h|⟨m',h,_⟩)
   ·exact h
   ·omega
 |succ m =>
  constructor
  ·rintro ⟨k1,k2,l1,hk,⟨a,ha,h⟩,h2⟩;cases k1 with
   |zero =>
    obtain⟨rfl,rfl⟩:=h;obtain rfl:k2=k+1:=by omega
    exact Or.inr ⟨m,rfl,ha,h2⟩
   |succ k1 =>obtain⟨f,hf,hfr,l2,h3,h4⟩:=h;refine Or.inl ⟨f,hf,hfr,l2,h3,k1,k2,l1,by omega,⟨a,ha,h4⟩,?_⟩;rwa [show i+1+k1=i+(k1+1) by omega]
  ·rintro (⟨f,hf,hfr,l2,h3,k1,k2,l1,hk,⟨a,ha,h4⟩,h2⟩|⟨m',hm,hs,h⟩)
   ·refine⟨k1+1,k2,l1,by omega,⟨a,ha,f,hf,hfr,l2,h3,h4⟩,?_⟩;rwa [show i+(k1+1)=i+1+k1 by omega]
   ·obtain rfl:m=m':=by omega
    exact⟨0,k+1,l,by omega,⟨s,hs,rfl,rfl⟩,h⟩
theorem zkJ {n:zm}:∀{m k i:Nat} {l l':List Sg},(∃a∈n.accept,RM n E m k i 0 l a l')<->zkr (Ac n E) (m+1) k i l l':=by
 intro m
 induction m with
 |zero =>
  intro k i l l';constructor
  ·intro h;exact⟨k,0,l',by omega,h,rfl,rfl⟩
  ·rintro ⟨k1,k2,l1,hk,h,hk2,rfl⟩;subst hk2;rw[hk];exact h
 |succ m ih =>
  intro k i l l';constructor
  ·rintro ⟨a,ha,k1,k2,l1,hk,h1,h2⟩;exact⟨k1,k2,l1,hk,h1,ih.1 ⟨a,ha,h2⟩⟩
  ·rintro ⟨k1,k2,l1,hk,h1,h2⟩;obtain⟨a,ha,h3⟩:=ih.2 h2;exact⟨a,ha,k1,k2,l1,hk,h1,h3⟩
def nC (st:Int) (c:Nat) (t:Int):Int:=(c:Int)*(st-1)+t
theorem zkG {st:Int} {c c':Nat} {t t':Int} (h1:1<=t/\t<st) (h2:1<=t'/\t'<st) (h:nC st c t=nC st c' t'):c=c'/\t=t':=by
 unfold nC at h;have key:∀(a b:Nat),a<b->(a:Int)*(st-1)+(st-1)<=(b:Int)*(st-1):=by intro a b hab;have:((a:Int)+1)*(st-1)<=(b:Int)*(st-1):=Int.mul_le_mul_of_nonneg_right (by omega) (by omega);rw[Int.add_mul,Int.one_mul]at this;exact this
 rcases Nat.lt_trichotomy c c' with hc|hc|hc
 ·have:=key c c' hc;omega
 ·subst hc;exact⟨rfl,by omega⟩
 ·have:=key c' c hc;omega
theorem zhp {st:Int} {c:Nat} {t:Int} (h1:1<=t/\t<st):1<=nC st c t:=by unfold nC;have:0<=(c:Int)*(st-1):=Int.mul_nonneg (by omega) (by omega);omega
theorem Yh {st:Int} {t:Int}:nC st 0 t=t:=by unfold nC;simp
theorem YB {l:List Int} {n:zm} {base:Int} {e:zn}:e∈zJ l n base<->∃s∈l,∃f∈n.edges,f.fr=0/\e=mvE f s (base+f.to):=by
 unfold zJ yo;simp only[List.mem_flatMap,List.mem_map,List.mem_filter,beq_iff_eq];constructor
 ·rintro ⟨s,hs,f,⟨hf,h0⟩,rfl⟩;exact⟨s,hs,f,hf,h0,rfl⟩
 ·rintro ⟨s,hs,f,hf,h0,rfl⟩;exact⟨s,hs,f,⟨hf,h0⟩,rfl⟩
theorem zeB {n:zm} {base:Int} {e:zn}:e∈Qt n base<->∃f∈n.edges,¬f.fr=0/\e=mvE f (base+f.fr) (base+f.to):=by
 unfold Qt yd;simp only[List.mem_map,List.mem_filter,Bool.not_eq_true',beq_eq_false_iff_ne,ne_eq];constructor
 ·rintro ⟨f,⟨hf,h0⟩,rfl⟩;exact⟨f,hf,h0,rfl⟩
 ·rintro ⟨f,hf,h0,rfl⟩;exact⟨f,⟨hf,h0⟩,rfl⟩
theorem zeA {n:zm} {e:zn}:∀{H:Nat},e∈Xy n H<->(1<=H/\e∈n.edges)\/∃c:Nat,c+1<H/\((∃a∈n.accept,∃f∈n.edges,f.fr=0/\e=mvE f (nC n.states c a) (nC n.states (c+1) f.to))\/∃f∈n.edges,¬f.fr=0/\e=mvE f (nC n.states (c+1) f.fr) (nC n.states (c+1) f.to)):=by
 intro H
 induction H with
 |zero =>
  constructor
  ·intro h;simp[Xy]at h
  ·rintro (⟨h,_⟩|⟨c,h,_⟩)<;>omega
 |succ H ih =>
  cases H with
  |zero =>
   show e∈n.edges<->_;constructor
   ·intro h;exact Or.inl ⟨by omega,h⟩
   ·rintro (⟨_,h⟩|⟨c,h,_⟩)
    ·exact h
    ·omega
  |succ H =>
   rw[show Xy n (H+1+1)=Xy n (H+1)++zJ (n.accept.map λa=>(((H+1:Nat):Int)-1)*(n.states-1)+a) n (((H+1:Nat):Int)*(n.states-1))++Qt n (((H+1:Nat):Int)*(n.states-1)) from rfl,List.mem_append,List.mem_append,ih,YB,zeB];have hb:(((H+1:Nat):Int)-1)=(H:Int):=by omega
   constructor
   ·rintro ((h|h)|h)
    ·rcases h with ⟨h1,h2⟩|⟨c,h1,h2⟩
     ·exact Or.inl ⟨by omega,h2⟩
     ·exact Or.inr ⟨c,by omega,h2⟩
    ·obtain⟨s,hs,f,hf,h0,rfl⟩:=h;obtain⟨a,ha,rfl⟩:=List.mem_map.1 hs;refine Or.inr ⟨H,by omega,Or.inl ⟨a,ha,f,hf,h0,?_⟩⟩;rw[hb];rfl
    ·obtain⟨f,hf,h0,rfl⟩:=h;exact Or.inr ⟨H,by omega,Or.inr ⟨f,hf,h0,rfl⟩⟩
   ·rintro (⟨h1,h2⟩|⟨c,h1,h2⟩)
    ·exact Or.inl (Or.inl (Or.inl ⟨by omega,h2⟩))
    ·by_cases hc:c+1<H+1
     ·exact Or.inl (Or.inl (Or.inr ⟨c,hc,h2⟩))
     ·obtain rfl:c=H:=by omega
      rcases h2 with ⟨a,ha,f,hf,h0,rfl⟩|⟨f,hf,h0,rfl⟩
      ·refine Or.inl (Or.inr ⟨_,List.mem_map.2 ⟨a,ha,rfl⟩,f,hf,h0,?_⟩);rw[hb];rfl
      ·exact Or.inr ⟨f,hf,h0,rfl⟩
def OkC (n:zm) (c:Nat) (t:Int):Prop:=(1<=t/\t<n.states)\/(c=0/\t=0)
theorem XS {n:zm} (hn:Qe n) {H c:Nat} (hc:c<H) {t:Int} (ht:OkC n c t) {e:zn}:(e∈Xy n H/\e.fr=nC n.states c t)<->(∃f∈n.edges,f.fr=t/\e=mvE f (nC n.states c t) (nC n.states c f.to))\/(c+1<H/\t∈n.accept/\∃f∈n.edges,f.fr=0/\e=mvE f (nC n.states c t) (nC n.states (c+1) f.to)):=by
 rw[zeA];have inj:∀{c':Nat} {t':Int},(1<=t'/\t'<n.states)->nC n.states c' t'=nC n.states c t->c'=c/\t'=t:=by
  intro c' t' h1 h;rcases ht with h2|⟨rfl,rfl⟩
  ·exact zkG h1 h2 h
  ·rw[Yh]at h;have:=zhp (c:=c') h1;omega
 constructor
 ·rintro ⟨h|⟨c',h1,h|h⟩,hf⟩
  ·left;have he:=hn.es e h.2;have hce:c=0/\t=e.fr:=by
    by_cases h0:e.fr=0
    ·rw[h0]at hf;rcases ht with h2|h2
     ·have:=zhp (c:=c) h2;omega
     ·rw[h0];exact h2
    ·have:=inj (c':=0) (t':=e.fr) ⟨by omega,he.2.1⟩ (by rw[Yh];exact hf);exact⟨this.1.symm,this.2.symm⟩
   obtain⟨rfl,rfl⟩:=hce;refine⟨e,h.2,rfl,?_⟩;rw[Yh,Yh];rfl
  ·obtain⟨a,ha,f,hfm,h0,rfl⟩:=h;obtain⟨rfl,rfl⟩:=inj (hn.ac a ha) hf;exact Or.inr ⟨h1,ha,f,hfm,h0,rfl⟩
  ·obtain⟨f,hfm,h0,rfl⟩:=h;have he:=hn.es f hfm;have:=inj (t':=f.fr) ⟨by omega,he.2.1⟩ hf;obtain⟨rfl,rfl⟩:=this;exact Or.inl ⟨f,hfm,rfl,rfl⟩
 ·rintro (⟨f,hfm,rfl,rfl⟩|⟨h1,ha,f,hfm,h0,rfl⟩)
  ·refine⟨?_,rfl⟩;cases c with
   |zero =>left;rw[Yh,Yh];exact⟨by omega,hfm⟩
   |succ c =>
    right;refine⟨c,hc,Or.inr ⟨f,hfm,?_,rfl⟩⟩;rcases ht with h|h
    ·omega
    ·omega
  ·exact⟨Or.inr ⟨c,h1,Or.inl ⟨t,ha,f,hfm,h0,rfl⟩⟩,rfl⟩
theorem zmY {n:zm} (hn:Qe n) {M:zm} {H:Nat} (hM:M.edges=Xy n H) {d:Nat} {u:Int} (hd:d<H) (hu:1<=u/\u<n.states):∀{k i c:Nat} {t:Int} {l l':List Sg},c<H->OkC n c t->(Rn M E k i (nC n.states c t) l (nC n.states d u) l'<->∃m,d=c+m/\RM n E m k i t l u l'):=by
 intro k
 induction k with
 |zero =>
  intro i c t l l' hc ht;constructor
  ·rintro ⟨h,rfl⟩;rcases ht with h2|⟨rfl,rfl⟩
   ·obtain⟨rfl,rfl⟩:=zkG h2 hu h;exact⟨0,rfl,rfl,rfl⟩
   ·rw[Yh]at h;have:=zhp (c:=d) hu;omega
  ·rintro ⟨m,rfl,h⟩;cases m with
   |zero=>obtain⟨rfl,rfl⟩:=h;exact⟨rfl,rfl⟩
   |succ m =>
    obtain⟨k1,k2,l1,hk,_,h2⟩:=h;obtain rfl:k2=0:=by omega
    exact absurd h2 (zlO hn hu.1)
 |succ k ih =>
  intro i c t l l' hc ht;constructor
  ·rintro ⟨e,he,hf,l1,h1,h2⟩;rw[hM]at he;rcases (XS hn hc ht).1 ⟨he,hf⟩ with ⟨f,hfm,hfr,rfl⟩|⟨hc1,hta,f,hfm,h0,rfl⟩
   ·obtain⟨m,hm,h3⟩:=(ih hc (Or.inl (hn.es f hfm).2.2)).1 h2;exact⟨m,hm,zai.2 (Or.inl ⟨f,hfm,hfr,l1,h1,h3⟩)⟩
   ·obtain⟨m,hm,h3⟩:=(ih hc1 (Or.inl (hn.es f hfm).2.2)).1 h2;exact⟨m+1,by omega,zai.2 (Or.inr ⟨m,rfl,hta,zai.2 (Or.inl ⟨f,hfm,h0,l1,h1,h3⟩)⟩)⟩
  ·rintro ⟨m,rfl,h⟩;rcases zai.1 h with ⟨f,hfm,hfr,l1,h1,h3⟩|⟨m',rfl,hta,h⟩
   ·obtain⟨he,hf⟩:=(XS hn hc ht).2 (Or.inl ⟨f,hfm,hfr,rfl⟩);exact⟨_,by rw[hM];exact he,hf,l1,h1,(ih hc (Or.inl (hn.es f hfm).2.2)).2 ⟨m,rfl,h3⟩⟩
   ·rcases zai.1 h with ⟨f,hfm,h0,l1,h1,h3⟩|⟨_,_,h0,_⟩
    ·obtain⟨he,hf⟩:=(XS hn hc ht).2 (Or.inr ⟨by omega,hta,f,hfm,h0,rfl⟩);exact⟨_,by rw[hM];exact he,hf,l1,h1,(ih (c:=c+1) (by omega) (Or.inl (hn.es f hfm).2.2)).2 ⟨m',by omega,h3⟩⟩
    ·have:=hn.ac 0 h0;omega
theorem zmo {n:zm} (hn:Qe n) {lo hi:Int} {k i:Nat} {l l':List Sg}:Ac (zcP lo hi n) E k i l l'<->∃m:Nat,1<=m/\lo<=m/\(m:Int)<=hi/\zkr (Ac n E) m k i l l':=by
 have h0:∀{c:Nat} {a:Int},c<hi.toNat->a∈n.accept->(Rn (zcP lo hi n) E k i 0 l (nC n.states c a) l'<->RM n E c k i 0 l a l'):=by
  intro c a hc ha;have:=zmY (E:=E) hn (M:=zcP lo hi n) (H:=hi.toNat) rfl hc (hn.ac a ha) (k:=k) (i:=i) (c:=0) (t:=0) (l:=l) (l':=l') (by omega) (Or.inr ⟨rfl,rfl⟩);rw[Yh]at this;rw[this];constructor
  ·rintro ⟨m,hm,h⟩;obtain rfl:c=m:=by omega
   exact h
  ·intro h;exact⟨c,by omega,h⟩
 constructor
 ·rintro ⟨a,ha,h⟩;simp only[zcP,Yn]at ha;obtain⟨c,hc,ha⟩:=List.mem_flatMap.1 ha;have hc:=List.mem_range.1 hc;split at ha
  ·rename_i hlo;obtain⟨b,hb,rfl⟩:=List.mem_map.1 ha;refine⟨c+1,by omega,by omega,by omega,zkJ.1 ⟨b,hb,(h0 hc hb).1 h⟩⟩
  ·simp at ha
 ·rintro ⟨m,h1,h2,h3,h⟩;obtain⟨c,rfl⟩:∃c,m=c+1:=⟨m-1,by omega⟩;obtain⟨a,ha,h4⟩:=zkJ.2 h;refine⟨nC n.states c a,?_,(h0 (by omega) ha).2 h4⟩;simp only[zcP,Yn];refine List.mem_flatMap.2 ⟨c,List.mem_range.2 (by omega),?_⟩;rw[if_pos (by omega)];exact List.mem_map.2 ⟨a,ha,rfl⟩
variable {E : Nat → List Sg}
def baseD (hi:Int) (x:zm):Int:=x.states+zW hi-1
theorem xP {lo hi:Int} {x y:zm} {e:zn}:e∈(yC lo hi x y).edges <->
 e∈x.edges\/(0<zW hi/\∃a∈x.accept,e=⟨a,x.states,[],[]⟩)\/(∃j:Nat,j+1<zW hi/\e=⟨x.states+j,x.states+j+1,[],[]⟩) \/
 (lo=0/\∃g∈x.edges,g.to∈x.accept/\∃f∈y.edges,f.fr=0/\e=zO g f (baseD hi x+f.to))\/((lo<=1/\1<=hi)/\∃s∈x.accept,∃f∈y.edges,f.fr=0/\e=mvE f s (baseD hi x+f.to)) \/
 (∃j:Nat,j<zW hi/\(lo<=j+2/\(j:Int)+2<=hi)/\∃f∈y.edges,f.fr=0/\e=mvE f (x.states+j) (baseD hi x+f.to))\/∃f∈y.edges,¬f.fr=0/\e=mvE f (baseD hi x+f.fr) (baseD hi x+f.to):=by
 show e∈x.edges++(if 0<zW hi then x.accept.map (λa=>⟨a,x.states,[],[]⟩)++qA x.states (zW hi-1) else [])++(if lo=0 then zfy x y (baseD hi x) else [])++(if lo<=1/\1<=hi then zJ x.accept y (baseD hi x) else [])++Ys x y lo hi (baseD hi x) (zW hi)++Qt y (baseD hi x)<->_;simp only[List.mem_append,zeB,or_assoc];have hB:e∈(if 0<zW hi then x.accept.map (λa=>(⟨a,x.states,[],[]⟩:zn))++qA x.states (zW hi-1) else [])<->(0<zW hi/\∃a∈x.accept,e=⟨a,x.states,[],[]⟩)\/(∃j:Nat,j+1<zW hi/\e=⟨x.states+j,x.states+j+1,[],[]⟩):=by
  split
  ·rename_i h;unfold qA;rw[List.mem_append,List.mem_map,List.mem_map];constructor
   ·rintro (⟨a,ha,rfl⟩|⟨j,hj,rfl⟩)
    ·exact Or.inl ⟨h,a,ha,rfl⟩
    ·exact Or.inr ⟨j,by have:=List.mem_range.1 hj;omega,rfl⟩
   ·rintro (⟨_,a,ha,rfl⟩|⟨j,hj,rfl⟩)
    ·exact Or.inl ⟨a,ha,rfl⟩
    ·exact Or.inr ⟨j,List.mem_range.2 (by omega),rfl⟩
  ·rename_i h;constructor
   ·intro h2;cases h2
   ·rintro (⟨h2,_⟩|⟨j,hj,_⟩)
    ·exact absurd h2 h
    ·omega
 have hC:e∈(if lo=0 then zfy x y (baseD hi x) else [])<->(lo=0/\∃g∈x.edges,g.to∈x.accept/\∃f∈y.edges,f.fr=0/\e=zO g f (baseD hi x+f.to)):=by
  split
  ·rename_i h;unfold zfy;rw[List.mem_flatMap];constructor
   ·rintro ⟨g,hg,h2⟩;split at h2
    ·rename_i hc;obtain⟨f,hf,rfl⟩:=List.mem_map.1 h2;obtain⟨hf1,hf2⟩:=List.mem_filter.1 hf;exact⟨h,g,hg,by simpa using hc,f,hf1,by simpa using hf2,rfl⟩
    ·cases h2
   ·rintro ⟨_,g,hg,hc,f,hf,h0,rfl⟩;refine⟨g,hg,?_⟩;rw[if_pos (by simpa using hc)];exact List.mem_map.2 ⟨f,List.mem_filter.2 ⟨hf,by simpa using h0⟩,rfl⟩
  ·rename_i h;constructor
   ·intro h2;cases h2
   ·rintro ⟨h2,_⟩;exact absurd h2 h
 have hD:e∈(if lo<=1/\1<=hi then zJ x.accept y (baseD hi x) else [])<->((lo<=1/\1<=hi)/\∃s∈x.accept,∃f∈y.edges,f.fr=0/\e=mvE f s (baseD hi x+f.to)):=by
  split
  ·rename_i h;rw[YB];exact⟨λh2=>⟨h,h2⟩,λh2=>h2.2⟩
  ·rename_i h;constructor
   ·intro h2;cases h2
   ·rintro ⟨h2,_⟩;exact absurd h2 h
 have hF:e∈Ys x y lo hi (baseD hi x) (zW hi)<->(∃j:Nat,j<zW hi/\(lo<=j+2/\(j:Int)+2<=hi)/\∃f∈y.edges,f.fr=0/\e=mvE f (x.states+j) (baseD hi x+f.to)):=by
  unfold Ys;rw[List.mem_flatMap];constructor
  ·rintro ⟨j,hj,h2⟩;split at h2
   ·rename_i hc;obtain⟨s,hs,f,hf,h0,rfl⟩:=YB.1 h2;obtain rfl:=List.mem_singleton.1 hs;exact⟨j,List.mem_range.1 hj,hc,f,hf,h0,rfl⟩
   ·cases h2
  ·rintro ⟨j,hj,hc,f,hf,h0,rfl⟩;refine⟨j,List.mem_range.2 hj,?_⟩;rw[if_pos hc];exact YB.2 ⟨_,List.mem_singleton.2 rfl,f,hf,h0,rfl⟩
 rw[hB,hC,hD,hF,or_assoc]
theorem XG {a b:Int} {l env r:List Sg}:xj ⟨a,b,[],[]⟩ l env=some r<->l=r:=by rw[yD];simp[zI]
section
variable {lo hi : Int} {x y : zm} (hx : Qe x) (hy : Qe y)
include hx hy
theorem zfZ {k i:Nat} {s:Int} {l:List Sg} {u:Int} {l':List Sg} (hs:1<=s/\s<y.states):Rn (yC lo hi x y) E k i (baseD hi x+s) l (baseD hi x+u) l'<->Rn y E k i s l u l':=by
 have:=zhZ (E:=E) (M:=yC lo hi x y) (N:=y) (φ:=λt=>baseD hi x+t) (P:=λs=>1<=s/\s<y.states) (λf hf _=>(hy.es f hf).2.2) (λs hs e=>by
  rw[xP];constructor
  ·rintro ⟨h|⟨_,a,ha,rfl⟩|⟨j,hj,rfl⟩|⟨_,g,hg,_,f,_,_,rfl⟩|⟨_,a,ha,f,_,_,rfl⟩|⟨j,hj,_,f,_,_,rfl⟩|⟨f,hf,h0,rfl⟩,hfr⟩
   ·have:=(hx.es e h).2.1;unfold baseD at hfr;omega
   ·have:=hx.ac a ha;unfold baseD at hfr;simp only at hfr;omega
   ·unfold baseD at hfr;simp only at hfr;omega
   ·have:=(hx.es g hg).2.1;unfold baseD at hfr;simp only[zO]at hfr;omega
   ·have:=hx.ac a ha;unfold baseD at hfr;simp only[mvE]at hfr;omega
   ·unfold baseD at hfr;simp only[mvE]at hfr;omega
   ·simp only[mvE]at hfr;obtain rfl:f.fr=s:=by omega
    exact⟨f,hf,rfl,rfl⟩
  ·rintro ⟨f,hf,rfl,rfl⟩;exact⟨Or.inr (Or.inr (Or.inr (Or.inr (Or.inr (Or.inr ⟨f,hf,by omega,rfl⟩))))),rfl⟩) (k:=k) (i:=i) (s:=s) (l:=l) (t:=baseD hi x+u) (l':=l') hs
 rw[this];constructor
 ·rintro ⟨v,_,h1,h⟩;obtain rfl:u=v:=by omega
  exact h
 ·intro h;exact⟨u,zeN hy hs h,rfl,h⟩
theorem zh1 {u:Int} (hu:1<=u/\u<y.states):∀{k c j:Nat} {l l':List Sg},j<zW hi->(Rn (yC lo hi x y) E k c (x.states+(j:Int)) l (baseD hi x+u) l'<->∃d k2:Nat,j+2<=d/\(d:Int)<=hi/\lo<=d/\1<=k2/\k=(d-(j+2))+k2/\Rn y E k2 (c+(d-(j+2))) 0 l u l'):=by
 have hw:(zW hi:Int)=hi-1\/zW hi=0:=by unfold zW;omega
 intro k
 induction k with
 |zero =>
  intro c j l l' hj;constructor
  ·rintro ⟨h,_⟩;unfold baseD at h;omega
  ·rintro ⟨d,k2,_,_,_,h1,h2,_⟩;omega
 |succ k ih =>
  intro c j l l' hj;constructor
  ·rintro ⟨e,he,hfr,l1,h1,h2⟩;rcases xP.1 he with h|⟨_,a,ha,rfl⟩|⟨j',hj',rfl⟩|⟨_,g,hg,_,f,_,_,rfl⟩|⟨_,a,ha,f,_,_,rfl⟩|⟨j',hj',hlo,f,hf,h0,rfl⟩|⟨f,hf,h0,rfl⟩
   ·have:=(hx.es e h).2.1;omega
   ·have:=hx.ac a ha;simp only at hfr;omega
   ·simp only at hfr;obtain rfl:j'=j:=by omega
    obtain rfl:=XG.1 h1;rw[show x.states+(j':Int)+1=x.states+((j'+1:Nat):Int) by omega]at h2;obtain⟨d,k2,g1,g2,g3,g4,g5,g6⟩:=(ih hj').1 h2;refine⟨d,k2,by omega,g2,g3,g4,by omega,?_⟩;rwa [show c+1+(d-(j'+1+2))=c+(d-(j'+2)) by omega]at g6
   ·have:=(hx.es g hg).2.1;simp only[zO]at hfr;omega
   ·have:=hx.ac a ha;simp only[mvE]at hfr;omega
   ·simp only[mvE]at hfr;obtain rfl:j'=j:=by omega
    refine⟨j'+2,k+1,by omega,by omega,by omega,by omega,by omega,f,hf,h0,l1,?_,(zfZ (lo:=lo) (hi:=hi) hx hy (hy.es f hf).2.2).1 ?_⟩
    ·rw[show c+(j'+2-(j'+2))=c by omega];exact h1
    ·rw[show c+(j'+2-(j'+2))+1=c+1 by omega];exact h2
   ·have:=hy.es f hf;unfold baseD at hfr;simp only[mvE]at hfr;omega
  ·rintro ⟨d,k2,g1,g2,g3,g4,g5,g6⟩;by_cases hd:d=j+2
   ·subst hd;obtain rfl:k2=k+1:=by omega
    obtain⟨f,hf,h0,l1,h1,h2⟩:=g6;rw[show c+(j+2-(j+2))=c by omega]at h1 h2;exact⟨mvE f (x.states+j) (baseD hi x+f.to),xP.2 (Or.inr (Or.inr (Or.inr (Or.inr (Or.inr (Or.inl ⟨j,hj,⟨by omega,by omega⟩,f,hf,h0,rfl⟩)))))),rfl,l1,h1,(zfZ (lo:=lo) (hi:=hi) hx hy (hy.es f hf).2.2).2 h2⟩
   ·have hj1:j+1<zW hi:=by omega
    refine⟨⟨x.states+j,x.states+j+1,[],[]⟩,xP.2 (Or.inr (Or.inr (Or.inl ⟨j,hj1,rfl⟩))),rfl,l,XG.2 rfl,?_⟩;show Rn _ _ _ _ (x.states+(j:Int)+1) _ _ _;rw[show x.states+(j:Int)+1=x.states+((j+1:Nat):Int) by omega];refine(ih hj1).2 ⟨d,k2,by omega,g2,g3,g4,by omega,?_⟩;rwa [show c+1+(d-(j+1+2))=c+(d-(j+2)) by omega]
theorem zmX {K K':Nat} (hlo:0<=lo) (hlh:lo<=hi) (hrx:qn K x) (hry:qn K' y) (hok:zY (yC lo hi x y)=true) {u:Int} (hu:1<=u/\u<y.states):∀{k c:Nat} {s:Int} {l l':List Sg},qm l->s<x.states->(Rn (yC lo hi x y) E k c s l (baseD hi x+u) l' <->
 ∃(d k1 k2:Nat) (l1:List Sg),(d:Int)<=hi/\lo<=d/\1<=k2/\(∃a∈x.accept,Rn x E k1 c s l a l1)/\(d=0->1<=k1)/\k+1=k1+d+k2/\Rn y E k2 (c+k1+d-1) 0 l1 u l'):=by
 have hw:(zW hi:Int)=hi-1\/zW hi=0:=by unfold zW;omega
 have hw2:0<hi-1->0<zW hi:=by unfold zW;omega
 have hbx:∀e∈x.edges,∀b∈e.sets,zcI b=true:=λe he=>(yj.1 ((zz.1 hrx.ok).2.1 e he)).2.2;have hgy:∀e∈y.edges,∀g∈e.guards,okX g=true:=λe he=>(yj.1 ((zz.1 hry.ok).2.1 e he)).2.1;have hgM:∀e∈(yC lo hi x y).edges,∀g∈e.guards,okX g=true:=λe he=>(yj.1 ((zz.1 hok).2.1 e he)).2.1;intro k
 induction k with
 |zero =>
  intro c s l l' hl hs;constructor
  ·rintro ⟨h,_⟩;unfold baseD at h;omega
  ·rintro ⟨d,k1,k2,l1,_,_,h1,_,h2,h3,_⟩;omega
 |succ k ih =>
  intro c s l l' hl hs;constructor
  ·rintro ⟨e,he,hfr,l1,h1,h2⟩;rcases xP.1 he with h|⟨hW,a,ha,rfl⟩|⟨j',hj',rfl⟩|⟨hl0,g,hg,hga,f,hf,h0,rfl⟩|⟨hl1,a,ha,f,hf,h0,rfl⟩|⟨j',hj',_,f,hf,h0,rfl⟩|⟨f,hf,h0,rfl⟩
   ·obtain⟨d,k1,k2,l2,g1,g2,g3,⟨a,ha,g4⟩,g5,g6,g7⟩:=(ih (YF h1 hl) (hx.es e h).2.2.2).1 h2;refine⟨d,k1+1,k2,l2,g1,g2,g3,⟨a,ha,e,h,hfr,l1,h1,g4⟩,by omega,by omega,?_⟩;rwa [show c+1+k1+d-1=c+(k1+1)+d-1 by omega]at g7
   ·obtain rfl:=XG.1 h1;simp only at hfr;subst hfr;have h2':Rn (yC lo hi x y) E k (c+1) (x.states+((0:Nat):Int)) l (baseD hi x+u) l':=by
     rw[show x.states+((0:Nat):Int)=x.states by omega];exact h2
    obtain⟨d,k2,g1,g2,g3,g4,g5,g6⟩:=(zh1 hx hy hu hW).1 h2';refine⟨d,0,k2,l,g2,g3,g4,⟨a,ha,rfl,rfl⟩,by omega,by omega,?_⟩;rwa [show c+1+(d-(0+2))=c+0+d-1 by omega]at g6
   ·simp only at hfr;omega
   ·obtain⟨l2,h3,h4⟩:=(zat hl (hbx g hg) (hgy f hf) (hgM _ he) l1).1 h1;have h5:=(zfZ (lo:=lo) (hi:=hi) hx hy (hy.es f hf).2.2).1 h2;refine⟨0,1,k+1,l2,by omega,by omega,by omega,⟨g.to,hga,g,hg,hfr,l2,h3,rfl,rfl⟩,by omega,by omega,f,hf,h0,l1,?_,?_⟩
    ·exact h4
    ·exact h5
   ·simp only[mvE]at hfr;subst hfr;have h5:=(zfZ (lo:=lo) (hi:=hi) hx hy (hy.es f hf).2.2).1 h2;refine⟨1,0,k+1,l,hl1.2,hl1.1,by omega,⟨a,ha,rfl,rfl⟩,by omega,by omega,f,hf,h0,l1,?_,?_⟩
    ·exact h1
    ·exact h5
   ·simp only[mvE]at hfr;omega
   ·have:=hy.es f hf;unfold baseD at hfr;simp only[mvE]at hfr;omega
  ·rintro ⟨d,k1,k2,l1,g1,g2,g3,⟨a,ha,g4⟩,g5,g6,g7⟩;cases k1 with
   |zero =>
    obtain⟨rfl,rfl⟩:=g4;by_cases hd:d=1
    ·subst hd;obtain rfl:k2=k+1:=by omega
     obtain⟨f,hf,h0,l2,h1,h2⟩:=g7;rw[show c+0+1-1=c by omega]at h1 h2;exact⟨mvE f s (baseD hi x+f.to),xP.2 (Or.inr (Or.inr (Or.inr (Or.inr (Or.inl ⟨⟨g2,g1⟩,s,ha,f,hf,h0,rfl⟩))))),rfl,l2,h1,(zfZ (lo:=lo) (hi:=hi) hx hy (hy.es f hf).2.2).2 h2⟩
    ·have hW:0<zW hi:=hw2 (by omega);refine⟨⟨s,x.states,[],[]⟩,xP.2 (Or.inr (Or.inl ⟨hW,s,ha,rfl⟩)),rfl,l,XG.2 rfl,?_⟩;show Rn _ _ _ _ x.states _ _ _;rw[show x.states=x.states+((0:Nat):Int) by omega];refine(zh1 hx hy hu hW).2 ⟨d,k2,by omega,g1,g2,g3,by omega,?_⟩;rwa [show c+1+(d-(0+2))=c+0+d-1 by omega]
   |succ k1 =>
    obtain⟨e,he,hfr,l2,h1,h2⟩:=g4;by_cases hd:d=0/\k1=0
    ·obtain⟨rfl,rfl⟩:=hd;obtain⟨h3,rfl⟩:=h2;obtain rfl:k2=k+1:=by omega
     obtain⟨f,hf,h0,l3,h4,h5⟩:=g7;rw[show c+(0+1)+0-1=c by omega]at h4 h5;have hm:zO e f (baseD hi x+f.to)∈(yC lo hi x y).edges:=xP.2 (Or.inr (Or.inr (Or.inr (Or.inl ⟨by omega,e,he,by rw[h3];exact ha,f,hf,h0,rfl⟩))));exact⟨_,hm,hfr,l3,(zat hl (hbx e he) (hgy f hf) (hgM _ hm) l3).2 ⟨l2,h1,h4⟩,(zfZ (lo:=lo) (hi:=hi) hx hy (hy.es f hf).2.2).2 h5⟩
    ·refine⟨e,xP.2 (Or.inl he),hfr,l2,h1,(ih (YF h1 hl) (hx.es e he).2.2.2).2 ⟨d,k1,k2,l1,g1,g2,g3,⟨a,ha,h2⟩,by omega,by omega,?_⟩⟩;rwa [show c+1+k1+d-1=c+(k1+1)+d-1 by omega]
end
theorem ziL {lo hi:Int} {x y:zm} {K K':Nat} (hlo:0<=lo) (hlh:lo<=hi) (hrx:qn K x) (hry:qn K' y) (hok:zY (yC lo hi x y)=true) {k i:Nat} {l l':List Sg} (hl:qm l):Ac (yC lo hi x y) E k i l l'<->∃(d k1 k2:Nat) (l1:List Sg),lo<=d/\(d:Int)<=hi/\Ac x E k1 i l l1/\Ac y E k2 (i+k1+d-1) l1 l'/\k+1=k1+d+k2:=by
 have hx:=hrx.nice;have hy:=hry.nice;have hst:=hx.st;have hac:(yC lo hi x y).accept=y.accept.map (baseD hi x+·):=rfl;constructor
 ·rintro ⟨a,ha,h⟩;rw[hac]at ha;obtain⟨u,hu,rfl⟩:=List.mem_map.1 ha;obtain⟨d,k1,k2,l1,g1,g2,g3,g4,g5,g6,g7⟩:=(zmX hx hy hlo hlh hrx hry hok (hy.ac u hu) hl (by omega)).1 h;exact⟨d,k1,k2,l1,g2,g1,g4,⟨u,hu,g7⟩,g6⟩
 ·rintro ⟨d,k1,k2,l1,g2,g1,g4,⟨u,hu,g7⟩,g6⟩;have:=Qh hx g4;have h2:=Qh hy ⟨u,hu,g7⟩;refine⟨baseD hi x+u,?_,(zmX hx hy hlo hlh hrx hry hok (hy.ac u hu) hl (by omega)).2 ⟨d,k1,k2,l1,g1,g2,h2,g4,by omega,g6,g7⟩⟩;rw[hac];exact List.mem_map.2 ⟨u,hu,rfl⟩
variable {E : Nat → List Sg}
theorem QA {α β γ:Type} (f:γ->β->γ) (g:α->List β):∀(l:List α) (c:γ),(l.flatMap g).foldl f c=l.foldl (λc a=>(g a).foldl f c) c:=by
 intro l
 induction l with
 |nil=>intro c;rfl
 |cons a l ih=>intro c;rw[List.flatMap_cons,List.foldl_append,List.foldl_cons,ih]
def zkO (x y:zm) (p:Int×Int):List (List Ex×(Int×Int)) :=
 if p.1=-1/\p.2=-1 then []
 else if p.1=-1 then (yL y p.2).flatMap λf=>(Xc (-1) f.to false (y.accept.contains f.to)).map λq=>(f.guards,q)
 else if p.2=-1 then (yL x p.1).flatMap λe=>(Xc e.to (-1) (x.accept.contains e.to) false).map λq=>(e.guards,q)
 else (yL x p.1).flatMap λe=>(yL y p.2).flatMap λf=>(Xc e.to f.to (x.accept.contains e.to) (y.accept.contains f.to)).map λq=>(e.guards++f.guards,q)
def zcL (i:Nat) (j:zU) (gq:List Ex×(Int×Int)):zU:=toJ i gq.1 j gq.2
theorem zd4 (i:Nat) (g:List Ex) (s t:Int) (l r:Bool) (j:zU):Y1 i g s t l r j=((Xc s t l r).map λq=>(g,q)).foldl (zcL i) j:=by rw[List.foldl_map];rfl
theorem zjO (x y:zm) (i:Nat) (j:zU):XY x y i j=match j.pairs[i]? with|none=>j|some p=>(zkO x y p).foldl (zcL i) j:=by
 unfold XY;cases j.pairs[i]? with
 |none=>rfl
 |some p =>
  simp only;unfold zkO;split
  ·rfl
  ·split
   ·rw[QA];unfold zhX;congr 1;funext j f;rw[zd4]
   ·split
    ·rw[QA];unfold zlq;congr 1;funext j f;rw[zd4]
    ·rw[QA];unfold zk9;congr 1;funext j e;rw[QA];congr 1;funext j f;rw[zd4]
theorem zdA {a b:List (Int×Int)} {p:Int×Int} (h:p∈a):(a++b).idxOf p=a.idxOf p:=by rw[List.idxOf_append,if_pos h]
theorem zlJ (i:Nat):∀(l:List (List Ex×(Int×Int))) (j:zU),j.pairs.Nodup->(l.foldl (zcL i) j).pairs.Nodup/\(∃m,(l.foldl (zcL i) j).pairs=j.pairs++m)/\(∀gq∈l,gq.2∈(l.foldl (zcL i) j).pairs) /\
 ∀e,e∈(l.foldl (zcL i) j).edges<->e∈j.edges\/∃gq∈l,e=⟨i,((l.foldl (zcL i) j).pairs.idxOf gq.2:Nat),gq.1,[]⟩:=by
 intro l
 induction l with
 |nil=>intro j h;exact⟨h,⟨[],by simp⟩,λ_ h=>(by cases h),λe=>by simp⟩
 |cons gq l ih =>
  intro j h;have h1:(zcL i j gq).pairs.Nodup/\(∃m,(zcL i j gq).pairs=j.pairs++m)/\gq.2∈(zcL i j gq).pairs/\j.pairs.idxOf gq.2=(zcL i j gq).pairs.idxOf gq.2:=by
   unfold zcL toJ;simp only;by_cases hc:gq.2∈j.pairs
   ·rw[if_pos (by simpa using hc)];exact⟨h,⟨[],by simp⟩,hc,rfl⟩
   ·rw[if_neg (by simpa using hc)];refine⟨?_,⟨[gq.2],rfl⟩,by simp,?_⟩
    ·rw[List.nodup_append];refine⟨h,by simp,?_⟩;intro a ha b hb;obtain rfl:=List.mem_singleton.1 hb;rintro rfl;exact hc ha
    ·rw[List.idxOf_append,if_neg hc,List.idxOf_eq_length hc];simp
  obtain⟨n1,⟨m1,hm1⟩,hmem,hidx⟩:=h1;obtain⟨n2,⟨m2,hm2⟩,hall,hes⟩:=ih (zcL i j gq) n1;rw[List.foldl_cons];refine⟨n2,⟨m1++m2,by rw[hm2,hm1,List.append_assoc]⟩,?_,λe=>?_⟩
  ·intro g hg;rcases List.mem_cons.1 hg with rfl|hg
   ·rw[hm2];exact List.mem_append_left _ hmem
   ·exact hall g hg
  ·rw[hes];have he:(zcL i j gq).edges=j.edges++[⟨i,(j.pairs.idxOf gq.2:Nat),gq.1,[]⟩]:=rfl;rw[he,List.mem_append,List.mem_singleton];have hx:j.pairs.idxOf gq.2=(l.foldl (zcL i) (zcL i j gq)).pairs.idxOf gq.2:=by rw[hm2,zdA hmem,hidx]
   rw[hx];simp only[List.mem_cons,exists_eq_or_imp,or_assoc]
structure JI (x y:zm) (i:Nat) (j:zU):Prop where
 nd:j.pairs.Nodup
 hd:j.pairs[0]? = some (0,0)
 cl:∀k p,k<i->j.pairs[k]? = some p->∀gq∈zkO x y p,gq.2∈j.pairs
 es:∀e,e∈j.edges<->∃k p,k<i/\j.pairs[k]? = some p/\∃gq∈zkO x y p,e=⟨k,(j.pairs.idxOf gq.2:Nat),gq.1,[]⟩
theorem zmI (x y:zm):∀i,JI x y i (yc x y i):=by
 intro i
 induction i with
 |zero =>rw[Zs];refine⟨by simp,rfl,λk p h=>by omega,λe=>⟨λh=>(by cases h),?_⟩⟩;rintro ⟨k,p,h,_⟩;omega
 |succ i ih =>
  rw[qP,zjO];cases hp:(yc x y i).pairs[i]? with
  |none =>
   have hno:∀k p,k<i+1->(yc x y i).pairs[k]? = some p->k<i:=by
    intro k p hk h;by_cases e:k=i
    ·subst e;rw[hp]at h;simp at h
    ·omega
   refine⟨ih.nd,ih.hd,λk p hk h=>ih.cl k p (hno k p hk h) h,λe=>?_⟩;rw[ih.es];constructor
   ·rintro ⟨k,p,hk,h⟩;exact⟨k,p,by omega,h⟩
   ·rintro ⟨k,p,hk,h,h2⟩;exact⟨k,p,hno k p hk h,h,h2⟩
  |some p =>
   simp only;obtain⟨n2,⟨m,hm⟩,hall,hes⟩:=zlJ i (zkO x y p) (yc x y i) ih.nd;have hold:∀k,k<(yc x y i).pairs.length->((zkO x y p).foldl (zcL i) (yc x y i)).pairs[k]? = (yc x y i).pairs[k]?:=λk hk=>by rw[hm,List.getElem?_append_left hk]
   have hil:=(List.getElem?_eq_some_iff.1 hp).1;refine⟨n2,?_,?_,?_⟩
   ·rw[hold 0 (by omega)];exact ih.hd
   ·intro k q hk h gq hgq;rw[hold k (by omega)]at h;by_cases e:k=i
    ·subst e;rw[hp]at h;obtain rfl:=Option.some.inj h;exact hall gq hgq
    ·rw[hm];exact List.mem_append_left _ (ih.cl k q (by omega) h gq hgq)
   ·intro e;rw[hes,ih.es];constructor
    ·rintro (⟨k,q,hk,h,gq,hgq,rfl⟩|⟨gq,hgq,rfl⟩)
     ·refine⟨k,q,by omega,by rw[hold k (by omega)];exact h,gq,hgq,?_⟩;rw[hm,zdA (ih.cl k q hk h gq hgq)]
     ·exact⟨i,p,by omega,by rw[hold i hil];exact hp,gq,hgq,rfl⟩
    ·rintro ⟨k,q,hk,h,gq,hgq,rfl⟩;rw[hold k (by omega)]at h;by_cases e:k=i
     ·subst e;rw[hp]at h;obtain rfl:=Option.some.inj h;exact Or.inr ⟨gq,hgq,rfl⟩
     ·refine Or.inl ⟨k,q,by omega,h,gq,hgq,?_⟩;rw[hm,zdA (ih.cl k q (by omega) h gq hgq)]
def x9 (n:zm):Prop:=∀e∈n.edges,e.sets=[]
def GOk (g:List Ex) (l env:List Sg):Prop:=g.all (λg=>qK g l env != 0)=true
theorem ZB {e:zn} (h:e.sets=[]) {l env r:List Sg}:xj e l env=some r<->GOk e.guards l env/\l=r:=by rw[yD,h];simp[zI,GOk]
theorem zaW {a b:List Ex} {l env:List Sg}:GOk (a++b) l env<->GOk a l env/\GOk b l env:=by unfold GOk;rw[List.all_append,Bool.and_eq_true]
theorem zjQ {n:zm} (hn:x9 n):∀{k i:Nat} {s:Int} {l:List Sg} {t:Int} {l':List Sg},Rn n E k i s l t l'->l'=l:=by
 intro k
 induction k with
 |zero=>rintro i s l t l' ⟨_,rfl⟩;rfl
 |succ k ih =>rintro i s l t l' ⟨e,he,_,l1,h1,h2⟩;obtain⟨_,rfl⟩:=(ZB (hn e he)).1 h1;exact ih h2
def AcF (n:zm) (E:Nat->List Sg) (k i:Nat) (s:Int) (l:List Sg):Prop:=∃a∈n.accept,Rn n E k i s l a l
theorem qa {n:zm} {i:Nat} {s:Int} {l:List Sg}:AcF n E 0 i s l<->s∈n.accept:=by
 constructor
 ·rintro ⟨a,ha,rfl,_⟩;exact ha
 ·intro h;exact⟨s,h,rfl,rfl⟩
theorem Zc {n:zm} (hn:x9 n) {k i:Nat} {s:Int} {l:List Sg}:AcF n E (k+1) i s l<->∃f∈yL n s,GOk f.guards l (E i)/\AcF n E k (i+1) f.to l:=by
 unfold yL;constructor
 ·rintro ⟨a,ha,f,hf,hfr,l1,h1,h2⟩;obtain⟨hg,rfl⟩:=(ZB (hn f hf)).1 h1;exact⟨f,List.mem_filter.2 ⟨hf,by simpa using hfr⟩,hg,a,ha,h2⟩
 ·rintro ⟨f,hf,hg,a,ha,h2⟩;obtain⟨hf,hfr⟩:=List.mem_filter.1 hf;exact⟨a,ha,f,hf,by simpa using hfr,l,(ZB (hn f hf)).2 ⟨hg,rfl⟩,h2⟩
def zdb (x y:zm) (E:Nat->List Sg) (p:Int×Int) (k i:Nat) (l:List Sg):Prop :=
 (p.1=-1/\p.2=-1/\k=0)\/(p.1=-1/\p.2≠-1/\1<=k/\AcF y E k i p.2 l)\/(p.1≠-1/\p.2=-1/\1<=k/\AcF x E k i p.1 l) \/
 (p.1≠-1/\p.2≠-1/\∃kx ky,1<=kx/\1<=ky/\k=max kx ky/\AcF x E kx i p.1 l/\AcF y E ky i p.2 l)
theorem Xp {x y:zm} {p:Int×Int} {i:Nat} {l:List Sg}:zdb x y E p 0 i l<->p=(-1,-1):=by
 constructor
 ·rintro (⟨h1,h2,_⟩|⟨_,_,h,_⟩|⟨_,_,h,_⟩|⟨_,_,kx,ky,h1,_,h2,_⟩)
  ·exact Prod.ext h1 h2
  ·omega
  ·omega
  ·omega
 ·rintro rfl;exact Or.inl ⟨rfl,rfl,rfl⟩
theorem qg {s t:Int} {l r:Bool} {q:Int×Int}:q∈Xc s t l r<->q=(s,t)\/(l=true/\q=(-1,t))\/(r=true/\q=(s,-1))\/(l=true/\r=true/\q=(-1,-1)):=by unfold Xc;cases l<;>cases r<;>simp
theorem zhd {x y:zm} (hx:Qe x) (hy:Qe y) (nx:x9 x) (ny:x9 y) {p:Int×Int} {k i:Nat} {l:List Sg}:zdb x y E p (k+1) i l<->∃gq∈zkO x y p,GOk gq.1 l (E i)/\zdb x y E gq.2 k (i+1) l:=by
 have tx:∀{s:Int} {e:zn},e∈yL x s->e.to≠-1:=λh=>by have:=(hx.es _ (List.mem_filter.1 h).1).2.2;omega
 have ty:∀{s:Int} {e:zn},e∈yL y s->e.to≠-1:=λh=>by have:=(hy.es _ (List.mem_filter.1 h).1).2.2;omega
 obtain⟨s,t⟩:=p;unfold zkO;simp only;by_cases h1:s=-1
 ·by_cases h2:t=-1
  ·rw[if_pos ⟨h1,h2⟩];constructor
   ·rintro (⟨_,_,h⟩|⟨_,h,_⟩|⟨h,_⟩|⟨h,_⟩)
    ·omega
    ·exact absurd h2 h
    ·exact absurd h1 h
    ·exact absurd h1 h
   ·rintro ⟨_,h,_⟩;cases h
  ·rw[if_neg (λh=>h2 h.2),if_pos h1];constructor
   ·rintro (⟨_,h,_⟩|⟨_,_,_,h⟩|⟨h,_⟩|⟨h,_⟩)
    ·exact absurd h h2
    ·obtain⟨f,hf,hg,h3⟩:=(Zc ny).1 h;cases k with
     |zero =>have ha:=qa.1 h3;refine⟨(f.guards,(-1,-1)),List.mem_flatMap.2 ⟨f,hf,List.mem_map.2 ⟨_,qg.2 (Or.inr (Or.inr (Or.inl ⟨by simpa using ha,rfl⟩))),rfl⟩⟩,hg,Xp.2 rfl⟩
     |succ k =>refine⟨(f.guards,(-1,f.to)),List.mem_flatMap.2 ⟨f,hf,List.mem_map.2 ⟨_,qg.2 (Or.inl rfl),rfl⟩⟩,hg,Or.inr (Or.inl ⟨rfl,ty hf,by omega,h3⟩)⟩
    ·exact absurd h1 h
    ·exact absurd h1 h
   ·rintro ⟨gq,hm,hg,h3⟩;obtain⟨f,hf,hm⟩:=List.mem_flatMap.1 hm;obtain⟨q,hq,rfl⟩:=List.mem_map.1 hm;refine Or.inr (Or.inl ⟨h1,h2,by omega,(Zc ny).2 ⟨f,hf,hg,?_⟩⟩);rcases qg.1 hq with rfl|⟨h,_⟩|⟨ha,rfl⟩|⟨h,_⟩
    ·rcases h3 with ⟨_,h,_⟩|⟨_,_,_,h⟩|⟨h,_⟩|⟨h,_⟩
     ·exact absurd h (ty hf)
     ·exact h
     ·exact absurd rfl h
     ·exact absurd rfl h
    ·cases h
    ·rcases h3 with ⟨_,_,rfl⟩|⟨_,h,_⟩|⟨h,_⟩|⟨h,_⟩
     ·exact qa.2 (by simpa using ha)
     ·exact absurd rfl h
     ·exact absurd rfl h
     ·exact absurd rfl h
    ·cases h
 ·by_cases h2:t=-1
  ·rw[if_neg (λh=>h1 h.1),if_neg h1,if_pos h2];constructor
   ·rintro (⟨h,_⟩|⟨h,_⟩|⟨_,_,_,h⟩|⟨_,h,_⟩)
    ·exact absurd h h1
    ·exact absurd h h1
    ·obtain⟨f,hf,hg,h3⟩:=(Zc nx).1 h;cases k with
     |zero =>have ha:=qa.1 h3;refine⟨(f.guards,(-1,-1)),List.mem_flatMap.2 ⟨f,hf,List.mem_map.2 ⟨_,qg.2 (Or.inr (Or.inl ⟨by simpa using ha,rfl⟩)),rfl⟩⟩,hg,Xp.2 rfl⟩
     |succ k =>refine⟨(f.guards,(f.to,-1)),List.mem_flatMap.2 ⟨f,hf,List.mem_map.2 ⟨_,qg.2 (Or.inl rfl),rfl⟩⟩,hg,Or.inr (Or.inr (Or.inl ⟨tx hf,rfl,by omega,h3⟩))⟩
    ·exact absurd h2 h
   ·rintro ⟨gq,hm,hg,h3⟩;obtain⟨f,hf,hm⟩:=List.mem_flatMap.1 hm;obtain⟨q,hq,rfl⟩:=List.mem_map.1 hm;refine Or.inr (Or.inr (Or.inl ⟨h1,h2,by omega,(Zc nx).2 ⟨f,hf,hg,?_⟩⟩));rcases qg.1 hq with rfl|⟨ha,rfl⟩|⟨h,_⟩|⟨_,h,_⟩
    ·rcases h3 with ⟨h,_⟩|⟨h,_⟩|⟨_,_,_,h⟩|⟨_,h,_⟩
     ·exact absurd h (tx hf)
     ·exact absurd h (tx hf)
     ·exact h
     ·exact absurd rfl h
    ·rcases h3 with ⟨_,_,rfl⟩|⟨_,h,_⟩|⟨h,_⟩|⟨h,_⟩
     ·exact qa.2 (by simpa using ha)
     ·exact absurd rfl h
     ·exact absurd rfl h
     ·exact absurd rfl h
    ·cases h
    ·cases h
  ·rw[if_neg (λh=>h1 h.1),if_neg h1,if_neg h2];constructor
   ·rintro (⟨h,_⟩|⟨h,_⟩|⟨_,h,_⟩|⟨_,_,kx,ky,g1,g2,g3,hX,hY⟩)
    ·exact absurd h h1
    ·exact absurd h h1
    ·exact absurd h h2
    ·obtain⟨kx,rfl⟩:∃m,kx=m+1:=⟨kx-1,by omega⟩;obtain⟨ky,rfl⟩:∃m,ky=m+1:=⟨ky-1,by omega⟩;obtain⟨e,he,ge,hX⟩:=(Zc nx).1 hX;obtain⟨f,hf,gf,hY⟩:=(Zc ny).1 hY;have mk:∀q,q∈Xc e.to f.to (x.accept.contains e.to) (y.accept.contains f.to)->zdb x y E q k (i+1) l->∃gq∈(yL x s).flatMap λe=>(yL y t).flatMap λf=>(Xc e.to f.to (x.accept.contains e.to) (y.accept.contains f.to)).map λq=>(e.guards++f.guards,q),GOk gq.1 l (E i)/\zdb x y E gq.2 k (i+1) l:=λq hq h =>
      ⟨(e.guards++f.guards,q),List.mem_flatMap.2 ⟨e,he,List.mem_flatMap.2 ⟨f,hf,List.mem_map.2 ⟨q,hq,rfl⟩⟩⟩,zaW.2 ⟨ge,gf⟩,h⟩
     cases kx with
     |zero =>
      have hax:x.accept.contains e.to=true:=by simpa using qa.1 hX
      cases ky with
      |zero =>
       have hay:y.accept.contains f.to=true:=by simpa using qa.1 hY
       obtain rfl:k=0:=by omega
       exact mk (-1,-1) (qg.2 (Or.inr (Or.inr (Or.inr ⟨hax,hay,rfl⟩)))) (Xp.2 rfl)
      |succ ky =>
       obtain rfl:k=ky+1:=by omega
       exact mk (-1,f.to) (qg.2 (Or.inr (Or.inl ⟨hax,rfl⟩))) (Or.inr (Or.inl ⟨rfl,ty hf,by omega,hY⟩))
     |succ kx =>
      cases ky with
      |zero =>
       have hay:y.accept.contains f.to=true:=by simpa using qa.1 hY
       obtain rfl:k=kx+1:=by omega
       exact mk (e.to,-1) (qg.2 (Or.inr (Or.inr (Or.inl ⟨hay,rfl⟩)))) (Or.inr (Or.inr (Or.inl ⟨tx he,rfl,by omega,hX⟩)))
      |succ ky =>exact mk (e.to,f.to) (qg.2 (Or.inl rfl)) (Or.inr (Or.inr (Or.inr ⟨tx he,ty hf,kx+1,ky+1,by omega,by omega,by omega,hX,hY⟩)))
   ·rintro ⟨gq,hm,hg,h3⟩;obtain⟨e,he,hm⟩:=List.mem_flatMap.1 hm;obtain⟨f,hf,hm⟩:=List.mem_flatMap.1 hm;obtain⟨q,hq,rfl⟩:=List.mem_map.1 hm;obtain⟨ge,gf⟩:=zaW.1 hg;have fin:∀kx ky,k=max kx ky->AcF x E kx (i+1) e.to l->AcF y E ky (i+1) f.to l->zdb x y E (s,t) (k+1) i l:=λkx ky hk hX hY =>
     Or.inr (Or.inr (Or.inr ⟨h1,h2,kx+1,ky+1,by omega,by omega,by omega,(Zc nx).2 ⟨e,he,ge,hX⟩,(Zc ny).2 ⟨f,hf,gf,hY⟩⟩))
    rcases qg.1 hq with rfl|⟨ha,rfl⟩|⟨ha,rfl⟩|⟨ha,hb,rfl⟩
    ·rcases h3 with ⟨h,_⟩|⟨h,_⟩|⟨_,h,_⟩|⟨_,_,kx,ky,_,_,hk,hX,hY⟩
     ·exact absurd h (tx he)
     ·exact absurd h (tx he)
     ·exact absurd h (ty hf)
     ·exact fin kx ky hk hX hY
    ·rcases h3 with ⟨_,h,_⟩|⟨_,_,hk,hY⟩|⟨h,_⟩|⟨h,_⟩
     ·exact absurd h (ty hf)
     ·exact fin 0 k (by omega) (qa.2 (by simpa using ha)) hY
     ·exact absurd rfl h
     ·exact absurd rfl h
    ·rcases h3 with ⟨h,_⟩|⟨h,_⟩|⟨_,_,hk,hX⟩|⟨_,h,_⟩
     ·exact absurd h (tx he)
     ·exact absurd h (tx he)
     ·exact fin k 0 (by omega) hX (qa.2 (by simpa using ha))
     ·exact absurd rfl h
    ·obtain rfl:k=0:=by
      rcases h3 with ⟨_,_,h⟩|⟨_,h,_⟩|⟨h,_⟩|⟨h,_⟩
      ·exact h
      ·exact absurd rfl h
      ·exact absurd rfl h
      ·exact absurd rfl h
     exact fin 0 0 rfl (qa.2 (by simpa using ha)) (qa.2 (by simpa using hb))
theorem zdC {x y:zm} {i:Nat} {j:zU} (h:JI x y i j):x9 (xv j):=λe he=>by obtain⟨_,_,_,_,_,_,rfl⟩:=(h.es e).1 he;rfl
theorem zjP {x y:zm} (hx:Qe x) (hy:Qe y) (nx:x9 x) (ny:x9 y) {N:Nat} {j:zU} (h:JI x y N j) (hN:j.pairs.length<=N):∀{k i:Nat} {p:Int×Int} {l:List Sg},p∈j.pairs->((-1,-1)∈j.pairs/\Rn (xv j) E k i (j.pairs.idxOf p:Nat) l (j.pairs.idxOf (-1,-1):Nat) l<->zdb x y E p k i l):=by
 intro k
 induction k with
 |zero =>
  intro i p l hp;rw[Xp];constructor
  ·rintro ⟨hm,h1,_⟩;have h1:j.pairs.idxOf p=j.pairs.idxOf (-1,-1):=by exact_mod_cast h1
   have a:=List.getElem_idxOf (List.idxOf_lt_length_of_mem hp);have b:=List.getElem_idxOf (List.idxOf_lt_length_of_mem hm);rw[←a,←b];congr 1
  ·rintro rfl;exact⟨hp,rfl,rfl⟩
 |succ k ih =>
  intro i p l hp;have hlt:=List.idxOf_lt_length_of_mem hp;have hget:j.pairs[j.pairs.idxOf p]? = some p:=by rw[List.getElem?_eq_getElem hlt,List.getElem_idxOf hlt]
  rw[zhd hx hy nx ny];constructor
  ·rintro ⟨hm,e,he,hfr,l1,h1,h2⟩;obtain⟨k',q,hk',hq,gq,hgq,rfl⟩:=(h.es e).1 he;have hkk0:(k':Int)=(j.pairs.idxOf p:Nat):=hfr;have hkk:k'=j.pairs.idxOf p:=by omega
   subst hkk;rw[hget]at hq;obtain rfl:=Option.some.inj hq;obtain⟨hg,rfl⟩:=(ZB rfl).1 h1;exact⟨gq,hgq,hg,(ih (h.cl _ _ hk' hget gq hgq)).1 ⟨hm,h2⟩⟩
  ·rintro ⟨gq,hgq,hg,h3⟩;have hkN:j.pairs.idxOf p<N:=by omega
   obtain⟨hm,h4⟩:=(ih (h.cl _ _ hkN hget gq hgq)).2 h3;exact⟨hm,_,(h.es _).2 ⟨_,p,hkN,hget,gq,hgq,rfl⟩,rfl,l,(ZB rfl).2 ⟨hg,rfl⟩,h4⟩
theorem zml {x y n:zm} (hx:Qe x) (hy:Qe y) (nx:x9 x) (ny:x9 y) (hn:zb9 x y=some n):x9 n/\∀{k i:Nat} {l l':List Sg},Ac n E k i l l'<->l'=l/\∃kx ky,k=max kx ky/\Ac x E kx i l l/\Ac y E ky i l l:=by
 unfold zb9 at hn;split at hn
 ·rename_i hlen;obtain⟨rfl,_⟩:=zQ hn;have hj:=zmI x y 256;have h0:(0,0)∈(yc x y 256).pairs:=List.mem_of_getElem? hj.hd;have hi0:(yc x y 256).pairs.idxOf (0,0)=0:=by
   obtain⟨h1,h2⟩:=List.getElem?_eq_some_iff.1 hj.hd;rw[←h2];exact List.Nodup.idxOf_getElem hj.nd 0 h1
  have hns:=zdC hj;refine⟨hns,λ{k i l l'}=>?_⟩;have key:=zjP (E:=E) hx hy nx ny hj hlen (k:=k) (i:=i) (l:=l) h0;rw[hi0]at key;constructor
  ·rintro ⟨a,ha,h⟩;obtain rfl:=zjQ hns h;simp only[xv]at ha;split at ha
   ·rename_i hc;obtain rfl:=List.mem_singleton.1 ha;have hc:(-1,-1)∈(yc x y 256).pairs:=by simpa using hc
    rcases key.1 ⟨hc,h⟩ with ⟨h,_⟩|⟨h,_⟩|⟨_,h,_⟩|⟨_,_,kx,ky,_,_,hk,hX,hY⟩
    ·cases h
    ·cases h
    ·cases h
    ·exact⟨rfl,kx,ky,hk,hX,hY⟩
   ·cases ha
  ·rintro ⟨rfl,kx,ky,hk,hX,hY⟩;obtain⟨hm,h⟩:=key.2 (Or.inr (Or.inr (Or.inr ⟨by simp,by simp,kx,ky,Qh hx hX,Qh hy hY,hk,hX,hY⟩)));refine⟨_,?_,h⟩;simp only[xv];rw[if_pos (by simpa using hm)];exact List.mem_singleton.2 rfl
 ·cases hn
def zgk (A:List (Nat->Nat->List Sg->List Sg->Prop)) (k i:Nat) (l:List Sg):Prop:=(∀m∈A,∃k',k'<=k/\m k' i l l)/\∃m∈A,m k i l l
theorem zkt:∀(ps:List zm) (ks:List Nat) {K:Nat} {n m:zm},qn K n->RegL ks ps->x9 n->(∀p∈ps,x9 p)->Xd n ps=some m->x9 m/\∀{k i:Nat} {l l':List Sg},Ac m E k i l l'<->(ps=[]/\Ac m E k i l l')\/(ps≠[]/\l'=l/\zgk ((n::ps).map λp=>Ac p E) k i l):=by
 intro ps
 induction ps with
 |nil =>intro ks K n m hn _ nn _ h;simp only[Xd,Option.some.injEq]at h;subst h;exact⟨nn,λ{k i l l'}=>by simp⟩
 |cons p ps ih =>
  intro ks K n m hn hp nn np h;cases hp with
  | @cons kp _ ks _ hk hks =>
   rw[Xd]at h;cases h2:zb9 n p with
   |none=>rw[h2]at h;simp at h
   |some q =>
    rw[h2]at h;obtain⟨nq,hq⟩:=zml (E:=E) hn.nice hk.nice nn (np p (List.mem_cons_self ..)) h2;obtain⟨nm,hm⟩:=ih ks (zdf hn hk h2) hks nq (λr hr=>np r (List.mem_cons_of_mem _ hr)) h;refine⟨nm,λ{k i l l'}=>?_⟩;have hqk:∀{k:Nat},Ac q E k i l l<->∃kx ky,k=max kx ky/\Ac n E kx i l l/\Ac p E ky i l l:=λ{k}=>by rw[hq];simp
    have two:zgk ([n,p].map λp=>Ac p E) k i l<->Ac q E k i l l:=by
     rw[hqk];unfold zgk;simp only[List.map_cons,List.map_nil,List.mem_cons,List.not_mem_nil,or_false,forall_eq_or_imp,forall_eq,exists_eq_or_imp,exists_eq_left];constructor
     ·rintro ⟨⟨⟨k1,h1,a1⟩,k2,h2,a2⟩,h|h⟩
      ·exact⟨k,k2,by omega,h,a2⟩
      ·exact⟨k1,k,by omega,a1,h⟩
     ·rintro ⟨kx,ky,rfl,a1,a2⟩;refine⟨⟨⟨kx,by omega,a1⟩,ky,by omega,a2⟩,?_⟩;by_cases hc:kx<=ky
      ·right;rw[Nat.max_eq_right hc];exact a2
      ·left;rw[Nat.max_eq_left (by omega)];exact a1
    cases ps with
    |nil =>
     simp only[Xd,Option.some.injEq]at h;subst h;rw[two,hq (l':=l')];constructor
     ·rintro ⟨rfl,h⟩;exact Or.inr ⟨by simp,rfl,hqk.2 h⟩
     ·rintro (⟨h,_⟩|⟨_,rfl,h⟩)
      ·cases h
      ·exact⟨rfl,hqk.1 h⟩
    |cons r ps =>
     rw[hm];have:zgk ((q::r::ps).map λp=>Ac p E) k i l<->zgk ((n::p::r::ps).map λp=>Ac p E) k i l:=by
      unfold zgk;simp only[List.map_cons,List.mem_cons,forall_eq_or_imp,exists_eq_or_imp];constructor
      ·rintro ⟨⟨⟨k1,h1,a1⟩,h2,h3⟩,h4⟩;obtain⟨kx,ky,rfl,b1,b2⟩:=hqk.1 a1;refine⟨⟨⟨kx,by omega,b1⟩,⟨ky,by omega,b2⟩,h2,h3⟩,?_⟩;rcases h4 with h4|h4
       ·obtain⟨kx,ky,rfl,b1,b2⟩:=hqk.1 h4;by_cases hc:kx<=ky
        ·right;left;rw[Nat.max_eq_right hc];exact b2
        ·left;rw[Nat.max_eq_left (by omega)];exact b1
       ·exact Or.inr (Or.inr h4)
      ·rintro ⟨⟨⟨kx,h1,a1⟩,⟨ky,h2,a2⟩,h3,h4⟩,h5⟩;refine⟨⟨⟨max kx ky,by omega,hqk.2 ⟨kx,ky,rfl,a1,a2⟩⟩,h3,h4⟩,?_⟩;rcases h5 with h5|h5|h5
       ·exact Or.inl (hqk.2 ⟨k,ky,by omega,h5,a2⟩)
       ·exact Or.inl (hqk.2 ⟨kx,k,by omega,a1,h5⟩)
       ·exact Or.inr h5
     rw[this];constructor
     ·rintro (⟨h,_⟩|⟨_,h1,h2⟩)
      ·cases h
      ·exact Or.inr ⟨by simp,h1,h2⟩
     ·rintro (⟨h,_⟩|⟨_,h1,h2⟩)
      ·cases h
      ·exact Or.inr ⟨by simp,h1,h2⟩
end Go.Proofs.YthojpomoflhbcaaGreatDoor
