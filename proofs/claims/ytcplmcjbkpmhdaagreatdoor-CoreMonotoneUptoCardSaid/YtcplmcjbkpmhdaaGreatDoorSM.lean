/- law22: SoftGreatest, plain: what the supports mean. -/
import Derived.Test.YtcplmcjbkpmhdaaGreatDoorSE
import Derived.Test.YtcplmcjbkpmhdaaGreatDoorKF
set_option linter.unusedSimpArgs false
set_option linter.unusedVariables false
set_option linter.unnecessarySimpa false
namespace Go.Proofs.YtcplmcjbkpmhdaaGreatDoor
open Go.RowKit
def inP:List Nat→Nat→Bool
 | a::b::r,x=>(decide (a≤x) && decide (x≤b)) || inP r x
 | _,_=>false
theorem inP_append:∀ (a b:List Nat) (x:Nat),a.length % 2=0→inP (a++b) x=(inP a x || inP b x)
 | [],b,x,_=>rfl
 | [_],_,_,h=>by simp at h
 | c::d::r,b,x,h=>by
  have ih:=inP_append r b x (by simp at h;omega)
  show (_ || inP (r++b) x)=((_ || inP r x) || inP b x)
  rw[ih,Bool.or_assoc]
theorem inP_inside:∀ (bs:List Nat) (x:Nat),insideL (x:Int) (bs.map fun (n:Nat)=>(n:Int))=if inP bs x=true then 1 else 0
 | [],x=>rfl
 | [_],x=>rfl
 | a::b::r,x=>by
  have ih:=inP_inside r x
  show (if (a:Int)≤(x:Int)∧(x:Int)≤(b:Int) then 1 else insideL (x:Int) (r.map fun (n:Nat)=>(n:Int)))=_
  rw[ih]
  by_cases h:a≤x∧x≤b
  ·rw[if_pos (by omega)]
   have:inP (a::b::r) x=true:=by
    show (_ || inP r x)=true
    simp[h.1,h.2]
   rw[this];rfl
  ·rw[if_neg (by omega)]
   have:inP (a::b::r) x=inP r x:=by
    show (_ || inP r x)=inP r x
    have h2:(decide (a≤x) && decide (x≤b))=false:=by simp;omega
    rw[h2,Bool.false_or]
   rw[this]
def GoodF (F:List Nat):Prop:=F=[]∨∃ G lo hi,F=G++[lo,hi]∧G.length % 2=0∧lo≤hi
theorem inP_step {F:List Nat} (hF:GoodF F) (n x:Nat):GoodF (flatStep F n)∧inP (flatStep F n) x=(inP F x || decide (x=n)):=by
 have one:∀ a b:Nat,inP [a,b] x=(decide (a≤x) && decide (x≤b)):=fun a b=>by show ((_ && _) || false)=_;rw[Bool.or_false]
 have hnn:(decide (n≤x) && decide (x≤n))=decide (x=n):=by
  by_cases h:x=n
  ·subst h;simp
  ·have:¬ (n≤x∧x≤n):=by omega
   simp[h];omega
 rcases hF with rfl | ⟨G,lo,hi,rfl,hG,hlh⟩
 ·have e:flatStep [] n=[n,n]:=rfl
  rw[e]
  exact⟨Or.inr ⟨[],n,n,rfl,rfl,Nat.le_refl _⟩,by rw[one,hnn];rfl⟩
 ·have hlast:(G++[lo,hi]).getLast? = some hi:=by simp
  have hdrop:(G++[lo,hi]).dropLast=G++[lo]:=by
   rw[show G++[lo,hi]=(G++[lo])++[hi] from by simp]
   exact List.dropLast_concat
  unfold flatStep
  rw[hlast]
  simp only[Option.map_some,Option.some.injEq]
  by_cases h:hi+1=n
  ·rw[if_pos h,hdrop,show G++[lo]++[n]=G++[lo,n] from by simp]
   refine⟨Or.inr ⟨G,lo,n,rfl,hG,by omega⟩,?_⟩
   rw[inP_append _ _ _ hG,inP_append _ _ _ hG,one,one,Bool.or_assoc]
   congr 1
   by_cases h1:lo≤x
   ·by_cases h2:x≤hi
    ·simp[h1,h2];omega
    ·by_cases h3:x=n
     ·simp[h3];omega
     ·have:¬ x≤n:=by omega
      simp[h2,h3,this]
   ·have:¬ x=n:=by omega
    simp[h1,this]
  ·rw[if_neg h]
   refine⟨Or.inr ⟨G++[lo,hi],n,n,rfl,by simp;omega,Nat.le_refl _⟩,?_⟩
   rw[inP_append _ _ _ (by simp;omega),one,hnn]
theorem inP_flat (l:List Nat) (x:Nat):∀ F,GoodF F→inP (l.foldl flatStep F) x=(inP F x || l.contains x):=by
 induction l with
 | nil=>intro F _;simp
 | cons n l ih =>
  intro F hF
  obtain⟨h1,h2⟩:=inP_step hF n x
  rw[List.foldl_cons,ih _ h1,h2,List.contains_cons,Bool.or_assoc]
  congr 1
theorem inP_bounds (P:Nat→Bool) (N x:Nat) (hx:x < N):inP (boundsN P N) x=P x:=by
 rw[← flat_bounds,inP_flat _ _ _ (Or.inl rfl)]
 show (false || _)=_
 rw[Bool.false_or]
 cases hp:P x
 ·rw[Bool.eq_false_iff]
  intro h
  have:=(List.mem_filter.1 (List.contains_iff_mem.1 h)).2
  rw[hp] at this
  simp at this
 ·exact List.contains_iff_mem.2 (List.mem_filter.2 ⟨List.mem_range.2 hx,hp⟩)
theorem val_iE {env:List (ByteArray × Int)} {s:ByteArray} {x:Nat} (hf:(findS env s).getD 0=(x:Int)) (bs:List Nat):valueS env (iE s bs)=if inP bs x=true then 1 else 0:=by
 have hc:∀ n:Int,valueS env (cE n)=n:=fun n=>by rw[valueS_eq];rfl
 have hv:valueS env (vE s)=(x:Int):=by rw[valueS_eq];exact hf
 rw[valueS_eq,iE_args,List.map_cons,List.map_map,hv]
 show operateS 23 ((x:Int)::bs.map (valueS env ∘ fun (n:Nat)=>cE (n:Int)))=_
 have e:(valueS env ∘ fun (n:Nat)=>cE (n:Int))=fun (n:Nat)=>(n:Int):=by funext n;exact hc _
 rw[e]
 exact inP_inside bs x
theorem val_eE (env:List (ByteArray × Int)) (a b:Ex):valueS env (eE a b)=truthS (valueS env a != 0 || valueS env b != 0):=by
 rw[valueS_eq]
 rfl
theorem val_chE {env:List (ByteArray × Int)} {s:ByteArray} {x:Nat} (hf:(findS env s).getD 0=(x:Int)) {bs:List Nat} (he:bs.length % 2=0):∀ c,(valueS env (chE s bs c) != 0)=inP (bs.take (32 * c)) x:=by
 intro c
 induction c with
 | zero=>show (valueS env (cE 0) != 0)=_;rw[valueS_eq];rfl
 | succ c ih =>
  by_cases h0:c=0
  ·subst h0
   rw[chE_one,val_iE hf]
   cases inP (bs.take (32 * (0+1))) x<;>rfl
  ·rw[chE_succ s bs c (by omega),val_eE,ih,val_iE hf]
   have h1:bs.take (32 * (c+1))=bs.take (32 * c)++(bs.drop (32 * c)).take 32:=by rw[show 32 * (c+1)=32 * c+32 from by omega,List.take_add]
   rw[h1,inP_append _ _ _ (by rw[List.length_take];omega)]
   cases inP (bs.take (32 * c)) x<;>cases inP ((bs.drop (32 * c)).take 32) x<;>rfl
theorem val_unE {env:List (ByteArray × Int)} {s:ByteArray} {x:Nat} (hf:(findS env s).getD 0=(x:Int)) {bs:List Nat} (he:bs.length % 2=0):(valueS env (unE s bs) != 0)=inP bs x:=by
 unfold unE
 rw[val_chE hf he,List.take_of_length_le (by omega)]
theorem find_some {l:List (ByteArray × Int)} {s:ByteArray}:∀ (k:Nat) (hk:k < l.length),((l[k]'hk).1.toList == s.toList)=true→(findS l s).isSome=true:=by
 induction l with
 | nil=>intro k hk;simp at hk
 | cons y l ih =>
  intro k hk h
  unfold findS
  split
  ·rfl
  ·rename_i hn
   cases k with
   | zero=>exact absurd h hn
   | succ k=>exact ih k (by simp at hk;omega) h
theorem env_get {vs:List VarD} {A:List Int} (hl:A.length=vs.length) {i:Nat} (hi:i < vs.length):∃ h:i < (envS vs A).length,(envS vs A)[i]'h=((vs[i]'hi).name,A[i]'(by omega)):=by
 have he:envS vs A=(vs.zip A).map fun x=>(x.1.name,x.2):=by unfold envS;rw[if_pos hl]
 have h:i < (envS vs A).length:=by rw[he];simp;omega
 refine⟨h,?_⟩
 simp only[he,List.getElem_map,List.getElem_zip]
theorem known_ok {vs:List VarD} {A:List Int} (hl:A.length=vs.length) {e:Ex} (h:ExprOk vs e):knownS (envS vs A) e=true:=by
 rw[known_eq]
 refine List.all_eq_true.2 fun x hx=>?_
 have h1:=List.any_eq_false.1 h.arr x hx
 have h2:=List.any_eq_false.1 h.names x hx
 unfold knownN
 by_cases ho:x.op=2
 ·rw[if_pos ho]
  have hf:¬ findV vs x.name 0 < 0:=fun h9=>h2 (by unfold forN;simp[ho,h9])
  rcases findV_cases vs x.name with ⟨h3,_⟩ | ⟨k,hk,_,h4,_⟩
  ·rw[h3] at hf;exact absurd (by decide) hf
  ·obtain⟨hk',he⟩:=env_get hl hk
   exact find_some k hk' (by rw[he];exact h4)
 ·rw[if_neg ho,if_neg (fun h9=>h1 (by unfold arrN;rcases h9 with h9 | h9<;>simp[h9]))]
theorem eval_ok {vs:List VarD} {A:List Int} (hl:A.length=vs.length) {e:Ex} (h:ExprOk vs e):(evalS (envS vs A) e).1=valueS (envS vs A) e:=by
 unfold evalS
 rw[h.valid,if_neg (by simp),if_neg (by rw[known_ok hl h];simp)]
theorem find_var {vs:List VarD} (hV:VarsOk vs) {A:List Int} (hl:A.length=vs.length) {i:Nat} (hi:i < vs.length):findS (envS vs A) (vs[i]'hi).name=some (wrapW (A[i]'(by omega))):=by
 obtain⟨h,he⟩:=env_get hl hi
 rw[findS_at (vs[i]'hi).name (envS vs A) i h (fun j hj=>?_) (by rw[he];simp),he]
 obtain⟨h',he'⟩:=env_get hl (show j < vs.length by omega)
 rw[he']
 cases hc:((vs[j]'(by omega)).name.toList == (vs[i]'hi).name.toList)
 ·rfl
 ·exact absurd ⟨hi,j,hj,hc⟩ (hV.dup i hi)
def posA (p:ProbD) (A:List Int):Bool:=p.dists.all fun d=>posW d.weights (A.getD d.var.toNat 0)
theorem supp_hit {p:ProbD} (hp:ProbOk p) (k:Nat):allS p.vars (suppsE p) (nthN p.vars k)=posA p (nthN p.vars k):=by
 have hl:=nthN_len p.vars k
 have hA:=asg_nth hp.vars.ok k
 unfold allS posA suppsE
 rw[List.all_map]
 apply Bool.eq_iff_iff.2
 rw[List.all_eq_true,List.all_eq_true]
 have hd:∀ d,d∈p.dists→((evalS (envS p.vars (nthN p.vars k)) (suppE p.vars d)).1 != 0)=posW d.weights ((nthN p.vars k).getD d.var.toNat 0):=fun d hd=>by
  obtain⟨i,hi,rfl⟩:=List.getElem_of_mem hd
  obtain⟨h0,v,hv,hm⟩:=(hp.dists i hi).var
  have hr:=(supp_rok hp (suppE p.vars (p.dists[i]'hi)) (List.mem_map.2 ⟨_,List.getElem_mem hi,rfl⟩)).1
  rw[eval_ok hl hr]
  obtain⟨hlt,hve⟩:=List.getElem?_eq_some_iff.1 hv
  have hx:=hA.at' _ hlt
  have hok:=hp.vars.ok _ hlt
  rw[hve] at hx hok
  obtain⟨n1,n2,_⟩:=nums_of_ok hok
  obtain⟨_,hx0,hx1⟩:=hx
  have hfv:=find_var hp.vars hl hlt
  rw[hve] at hfv
  have hgd:(nthN p.vars k).getD (p.dists[i]'hi).var.toNat 0=(nthN p.vars k)[(p.dists[i]'hi).var.toNat]'(by rw[hl];exact hlt):=by
   rw[List.getD_eq_getElem?_getD,List.getElem?_eq_getElem (by rw[hl];exact hlt)];rfl
  rw[hgd]
  generalize (nthN p.vars k)[(p.dists[i]'hi).var.toNat]'(by rw[hl];exact hlt)=X at hx0 hx1 hfv
  obtain⟨x,rfl⟩:=Int.eq_ofNat_of_zero_le hx0
  have h8:=(pow8 n2).2
  have hN:((2:Int) ^ v.width.toNat)=((2 ^ v.width.toNat:Nat):Int):=by simp
  have hxN:x < 2 ^ v.width.toNat:=by omega
  have hw:(findS (envS p.vars (nthN p.vars k)) v.name).getD 0=(x:Int):=by
   rw[hfv]
   show wrapW (x:Int)=(x:Int)
   unfold wrapW
   omega
  have hs:suppE p.vars (p.dists[i]'hi)=unE v.name (boundsN (suppP (p.dists[i]'hi)) (2 ^ v.width.toNat)):=by unfold suppE;rw[hv]
  rw[hs,val_unE hw (bounds_even _ _),inP_bounds _ _ _ hxN]
  rfl
 exact⟨fun h d hdm=>by rw[← hd d hdm];exact h d hdm,fun h d hdm=>by show ((evalS _ _).1 != 0)=true;rw[hd d hdm];exact h d hdm⟩
end Go.Proofs.YtcplmcjbkpmhdaaGreatDoor
