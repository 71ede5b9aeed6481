/- The reference of words returns the same. -/
import Derived.Test.YtnfkbliokjjggaaGreatDoorH02
set_option maxHeartbeats 1000000
set_option maxRecDepth 100000
set_option linter.unusedSimpArgs false
set_option linter.unusedVariables false
set_option linter.unnecessarySimpa false
namespace Go.Proofs.YtnfkbliokjjggaaGreatDoor
open Go.RowKit
theorem Xr {l:List ByteArray} {s:ByteArray} (h:∀j (hj:j<l.length),((l[j]'hj).toList==s.toList)=false):Lib.containsS l s=false:=by
 cases hc:Lib.containsS l s
 ·rfl
 ·obtain⟨i,hi,he⟩:=List.mem_iff_getElem.1 ((Lib.containsS_iff l s).1 hc);have:=h i hi;rw[he]at this;simp at this
theorem YR {l:List ByteArray} {s:ByteArray} {k:Nat} (hk:k<l.length) (h:((l[k]'hk).toList==s.toList)=true):Lib.containsS l s=true:=by
 rw[Lib.containsS_iff];have:l[k]=s:=by have h':=eq_of_beq h;rw[ByteArray.toList_eq,ByteArray.toList_eq]at h';exact ByteArray.ext (Array.ext' h')
 rw[←this];exact List.getElem_mem hk
theorem Ye (l:List ByteArray) (a:Option Addr) (cap:Nat) (s:ByteArray) (w:World) (hE:zM w l a cap) :
 Calls Tryz.prog 237 #[.slice a l.length cap,.string s] w λe w'=>e=.returned (.bool (Lib.containsS l s))/\w=w':=by
 have hlen:=hE.2.1;have HA:=Lib.hid hE.addr;have HE:=Lib.hid hE;clear hE;go_enter Tryz.func237, Tryz.ntmps237;go_wp2_with fail;go_loop [5] (λi=>∃k:Nat,i=.int .i64 k/\k<=l.length/\∀j (hj:j<l.length),j<k->((l[j]'hj).toList==s.toList)=false) (λi=>l.length-(intOf i).toNat);case atStart=>exact⟨0,rfl,Nat.zero_le _,λ_ _ h=>absurd h (by omega)⟩
 case round =>
  obtain⟨k,rfl,hk,hall⟩:=hrel;have HAl:=Lib.hid hall;clear hall;by_cases hlt:k<l.length
  ·obtain⟨b,off,ha⟩:=HA.out.resolve_left (by omega);subst ha;have c0:=HE.out.get rfl hlt;cases he:((l[k]'hlt).toList==s.toList)
   ·go_wp2_with fail;go_round;case rel=>exact⟨k+1,by go_num,by omega,λj hj hjk=>by
     by_cases e:j=k
     ·subst e;exact he
     ·exact HAl.out j hj (by omega)⟩
    case measure=>simp[intOf];omega
   ·have HY:=Lib.hid (YR hlt he);go_wp2_with fail;go_ret;exact⟨by rw[HY.out];rfl,rfl⟩
  ·obtain rfl:k=l.length:=by omega
   have HN:=Lib.hid (Xr (l:=l) (s:=s) (λj hj=>HAl.out j hj hj));go_wp2_with fail;go_ret;exact⟨by rw[HN.out];rfl,rfl⟩
theorem qe (l:List ByteArray) (a:Option Addr) (cap:Nat) (s:ByteArray) (w:World) (hE:zM w l a cap) :
 Calls Tryz.prog 275 #[.slice a l.length cap,.string s] w λe w'=>e=.returned (.bool (Lib.containsS l s))/\w=w':=by
 have hlen:=hE.2.1;have HA:=Lib.hid hE.addr;have HE:=Lib.hid hE;clear hE;go_enter Tryz.func275, Tryz.ntmps275;go_wp2_with fail;go_loop [5] (λi=>∃k:Nat,i=.int .i64 k/\k<=l.length/\∀j (hj:j<l.length),j<k->((l[j]'hj).toList==s.toList)=false) (λi=>l.length-(intOf i).toNat);case atStart=>exact⟨0,rfl,Nat.zero_le _,λ_ _ h=>absurd h (by omega)⟩
 case round =>
  obtain⟨k,rfl,hk,hall⟩:=hrel;have HAl:=Lib.hid hall;clear hall;by_cases hlt:k<l.length
  ·obtain⟨b,off,ha⟩:=HA.out.resolve_left (by omega);subst ha;have c0:=HE.out.get rfl hlt;cases he:((l[k]'hlt).toList==s.toList)
   ·go_wp2_with fail;go_round;case rel=>exact⟨k+1,by go_num,by omega,λj hj hjk=>by
     by_cases e:j=k
     ·subst e;exact he
     ·exact HAl.out j hj (by omega)⟩
    case measure=>simp[intOf];omega
   ·have HY:=Lib.hid (YR hlt he);go_wp2_with fail;go_ret;exact⟨by rw[HY.out];rfl,rfl⟩
  ·obtain rfl:k=l.length:=by omega
   have HN:=Lib.hid (Xr (l:=l) (s:=s) (λj hj=>HAl.out j hj hj));go_wp2_with fail;go_ret;exact⟨by rw[HN.out];rfl,rfl⟩
theorem Zx (c:Int) (w:World) :
 Calls Tryz.prog 177 #[.int .u8 c] w λe w'=>e=.returned (.bool (zbK c))/\w=w':=by
 go_enter Tryz.func177, Tryz.ntmps177;go_wp2;all_goals go_ret
 all_goals exact⟨by simp_all [zbK]<;>omega,rfl⟩
theorem zdH (c:Int) (w:World) :
 Calls Tryz.prog 239 #[.int .u8 c] w λe w'=>e=.returned (.bool (ziO c))/\w=w':=by
 go_enter Tryz.func239, Tryz.ntmps239;go_wp2;all_goals go_ret
 all_goals exact⟨by simp_all [ziO]<;>omega,rfl⟩
theorem Qx (c:Int) (w:World) :
 Calls Tryz.prog 179 #[.int .u8 c] w λe w'=>e=.returned (.bool (YB c))/\w=w':=by
 go_enter Tryz.func179, Tryz.ntmps179;go_wp2_with (first|(go_at_call 177;refine(Zx _ _).mono ?_;rintro e w' ⟨rfl,rfl⟩)|(go_at_call 239;refine(zdH _ _).mono ?_;rintro e w' ⟨rfl,rfl⟩));all_goals go_ret
 all_goals exact⟨by simp_all [YB]<;>omega,rfl⟩
theorem zag (w:World):Calls Tryz.prog 238 #[] w λe w'=>(∃a cap,e=.returned (.slice a kwS.length cap)/\zM w' kwS a cap)/\Below w.heap.size w w':=by
 go_enter Tryz.func238, Tryz.ntmps238;go_wp2_with fail;go_ret;refine⟨⟨some ⟨w.heap.size,0,none⟩,24,rfl,by decide,by decide,Or.inr ⟨w.heap.size,0,rfl,?_⟩⟩,bel⟩;intro i hi;refine⟨kwS[i]'hi,List.getElem?_eq_getElem hi,?_⟩;rw[World.cell?_alloc_new];have h24:i<24:=hi
 match i,h24 with
 |0,_|1,_|2,_|3,_|4,_|5,_|6,_|7,_|8,_|9,_|10,_|11,_|12,_|13,_|14,_|15,_|16,_|17,_|18,_|19,_|20,_|21,_|22,_|23,_=>rfl
 |n+24,h=>exact absurd h (by omega)
theorem ZF (s:ByteArray) (w:World) :
 Calls Tryz.prog 178 #[.string s] w λe w'=>e=.returned (.bool (kwL.contains s.data.toList))/\Below w.heap.size w w':=by
 go_enter Tryz.func178, Tryz.ntmps178;go_wp2_with fail;refine(zag _).mono ?_;rintro e w1 ⟨⟨a,cap,rfl,hs⟩,hb⟩;have HH:=Lib.hid (Ye kwS a cap s w1 hs);have HB:=Lib.hid hb;clear hs hb;go_wp2_with (go_at_call 237;refine HH.out.mono ?_;rintro e w' ⟨rfl,rfl⟩);go_ret;exact⟨by rw[←YQ];rfl,HB.out⟩
theorem qM (s:ByteArray) (w:World) (hs:s.size<=1073741824) :
 Calls Tryz.prog 104 #[.string s] w λe w'=>e=.returned (.bool (yQ s.data.toList))/\Below w.heap.size w w':=by
 have hll:s.data.toList.length=s.size:=by simp
 have htl:s.toList=s.data.toList:=ByteArray.toList_eq s;by_cases h0:s.size=0
 ·have he:s.toList=[]:=by rw[htl];exact List.length_eq_zero_iff.1 (by omega)
  have hR:Hid (yQ s.data.toList=false):=by show _=_;rw[←htl,he];rfl
  clear htl hll;go_enter Tryz.func104, Tryz.ntmps104;go_wp2_with fail;go_ret;exact⟨by rw[hR.out];rfl,Below.refl _ _⟩
 ·have hne:(s.toList==[])=false:=by
   rw[htl];cases hc:s.data.toList with
   |nil=>rw[hc]at hll;simp at hll;omega
   |cons c l=>rfl
  have hne2:s.toList≠[]:=by intro h;rw[h]at hne;simp at hne
  have hne3:s.toList.isEmpty=false:=by cases hc:s.toList with
   |nil=>exact absurd hc hne2
   |cons c l=>rfl
  by_cases h16:16<s.size
  ·have hR:Hid (yQ s.data.toList=false):=by
    show _=_;unfold yQ;rw[decide_eq_false (by omega)];simp
   clear htl hll;go_enter Tryz.func104, Tryz.ntmps104;go_wp2_with fail;go_ret;exact⟨by rw[hR.out];rfl,Below.refl _ _⟩
  ·have hp:0<s.size:=by omega
   cases hl:zbK (s[0]'hp).toNat
   ·have hR:Hid (yQ s.data.toList=false):=by
     show _=_;unfold yQ;rw[Zz hp (Or.inr ⟨rfl,hl⟩)];rfl
    clear htl hll;go_enter Tryz.func104, Tryz.ntmps104;go_wp2_with (go_at_call 177;refine(Zx _ _).mono ?_;rintro e w' ⟨rfl,rfl⟩);go_ret;exact⟨by rw[hR.out];rfl,Below.refl _ _⟩
   ·cases hk:kwL.contains s.data.toList
    ·have HN:Hid (yQ s.data.toList=Qa s.data.toList):=by
      show _=_;unfold yQ;rw[hk,decide_eq_true (by omega)];simp
     have Hl:=Lib.hid hl;have HW0:Hid (Yu s 0):=⟨by omega,by simp,by omega⟩;clear htl hll;go_enter Tryz.func104, Tryz.ntmps104;go_wp2_with (first|(go_at_call 177;refine(Zx _ _).mono ?_;rintro e w' ⟨rfl,rfl⟩)|(go_at_call 178;refine(ZF _ _).mono ?_;rintro e w1 ⟨rfl,hb1⟩;rw[hk];have HB1:=Lib.hid hb1;clear hb1));go_loop [3] (λi=>∃k:Nat,i=.int .i64 k/\Yu s k) (λi=>s.size-(intOf i).toNat);case atStart=>exact⟨0,rfl,HW0.out⟩
     case round =>
      obtain⟨k,rfl,hW⟩:=hrel;have hkk:=hW.1;have HW:=Lib.hid hW;clear hW;by_cases hlt:k<s.size
      ·cases hf:YB (s[k]'hlt).toNat
       ·have HBad:=Lib.hid (Zz hlt (Or.inl hf));go_wp2_with (go_at_call 179;refine(Qx _ _).mono ?_;rintro e w' ⟨rfl,rfl⟩);go_ret;exact⟨by rw[HN.out,HBad.out];rfl,(by assumption:Hid (Below w.heap.size w _)).out⟩
       ·have HSt:=Lib.hid (Zo HW.out hlt hf (λe=>by subst e;exact Hl.out));go_wp2_with (go_at_call 179;refine(Qx _ _).mono ?_;rintro e w' ⟨rfl,rfl⟩);go_round;case rel=>exact⟨k+1,by go_num,HSt.out⟩
        case measure=>simp[intOf];omega
      ·have HE:=Lib.hid (X0 HW.out hlt);go_wp2_with fail;go_ret;exact⟨by rw[HN.out,HE.out,←ByteArray.toList_eq,hne3];rfl,(by assumption:Hid (Below w.heap.size w _)).out⟩
    ·have hR:Hid (yQ s.data.toList=false):=by
      show _=_;unfold yQ;rw[hk];simp
     clear htl hll;go_enter Tryz.func104, Tryz.ntmps104;go_wp2_with (first|(go_at_call 177;refine(Zx _ _).mono ?_;rintro e w' ⟨rfl,rfl⟩)|(go_at_call 178;refine(ZF _ _).mono ?_;rintro e w1 ⟨rfl,hb1⟩;rw[hk]));go_ret;exact⟨by rw[hR.out];rfl,by assumption⟩
def yi (w:World) (l:List (ByteArray×Int)) (a:Option Addr) (cap:Nat):Prop:=zw 2 l.length a cap (λi b o=>∃s,l[i]? = some s/\w.cell? ⟨b,o,none⟩=some (.string s.1)/\w.cell? ⟨b,o+1,none⟩=some (.int .i64 s.2))
theorem yi.keep {w w':World} (hk:∀a v,w.cell? a=some v->w'.cell? a=some v) {l:List (ByteArray×Int)} {a:Option Addr} {cap:Nat} (h:yi w l a cap):yi w' l a cap :=
 h.mono λ_ _ _ _ ⟨s,hs,h1,h2⟩=>⟨s,hs,hk _ _ h1,hk _ _ h2⟩
theorem yi.get {w:World} {l:List (ByteArray×Int)} {a:Option Addr} {cap:Nat} (h:yi w l a cap) {b off:Nat} (ha:a=some ⟨b,off,none⟩) {i:Nat} (hi:i<l.length) :
 w.cell? ⟨b,off+i*2,none⟩=some (.string (l[i]'hi).1)/\w.cell? ⟨b,off+i*2+1,none⟩=some (.int .i64 (l[i]'hi).2):=by
 rcases h.2.2 with h|⟨b',off',ha',hq⟩
 ·omega
 ·rw[ha]at ha';simp only[Option.some.injEq,Addr.mk.injEq,and_true]at ha';obtain⟨rfl,rfl⟩:=ha';obtain⟨e',he',hp⟩:=hq i hi;rw[List.getElem?_eq_getElem hi]at he';obtain rfl:=Option.some.inj he';exact hp
def xv:List (ByteArray×Int)->ByteArray->Option Int
 | [],_=>none
 |x::l,s=>if (x.1.toList==s.toList)=true then some (Ys x.2) else xv l s
theorem zgo (s:ByteArray) (l:List (ByteArray×Int)):∀(k:Nat) (hk:k<l.length),(∀j (hj:j<k),((l[j]'(by omega)).1.toList==s.toList)=false)->((l[k]'hk).1.toList==s.toList)=true->xv l s=some (Ys (l[k]'hk).2):=by
 induction l with
 |nil=>intro k hk;simp at hk
 |cons x l ih =>
  intro k hk h1 h2;cases k with
  |zero=>unfold xv;exact if_pos h2
  |succ k =>have h0:=h1 0 (by omega);unfold xv;rw[if_neg (by simpa using h0)];exact ih k (by simpa using hk) (λj hj=>h1 (j+1) (by omega)) h2
theorem zdc (s:ByteArray) (l:List (ByteArray×Int)):(∀j (hj:j<l.length),((l[j]'hj).1.toList==s.toList)=false)->xv l s=none:=by
 induction l with
 |nil=>intro _;rfl
 |cons x l ih =>intro h1;have h0:=h1 0 (by simp);unfold xv;rw[if_neg (by simpa using h0)];exact ih (λj hj=>h1 (j+1) (by simpa using hj))
def zeb (l:List (ByteArray×Int)) (s:ByteArray) (k:Nat):Prop:=k<=l.length/\∀j (hj:j<l.length),j<k->((l[j]'hj).1.toList==s.toList)=false
theorem QY (l:List (ByteArray×Int)) (a:Option Addr) (cap:Nat) (s:ByteArray) (w:World) (hE:yi w l a cap) :
 Calls Tryz.prog 292 #[.agg #[.slice a l.length cap],.string s] w λe w'=>e=.returned (.tuple #[.int .i64 ((xv l s).getD 0),.bool (xv l s).isSome])/\Below w.heap.size w w':=by
 have hlen:=hE.2.1;have hadr:=hE.addr;have HE:=Lib.hid hE;have HA:=Lib.hid hadr;clear hE hadr;go_enter Tryz.func292, Tryz.ntmps292;go_wp2_with fail;go_loopw [11] (λi wr=>∃k:Nat,i=.int .i64 k/\zeb l s k/\Below w.heap.size w wr) (λi _=>l.length-(intOf i).toNat);case atStart=>exact⟨0,rfl,⟨Nat.zero_le _,λ_ _ h=>absurd h (by omega)⟩,bel⟩
 case round =>
  obtain⟨k,rfl,hF,hBr⟩:=hrel;have hk:=hF.1;have HF:=Lib.hid hF;have HBr:=Lib.hid hBr;clear hF hBr;by_cases hlt:k<l.length
  ·obtain⟨b,off,ha⟩:=HA.out.resolve_left (by omega);subst ha;obtain⟨c0,c1⟩:=(HE.out.keep (za HBr.out)).get rfl hlt;have hBA:Below w.heap.size w (wr.alloc (.cells #[.string (l[k]'hlt).1,.int .i64 (l[k]'hlt).2] 68)):=HBr.out.alloc HBr.out.size _;have HBA:=Lib.hid hBA;clear hBA;cases heq:((l[k]'hlt).1.toList==s.toList)
   ·have hstep:zeb l s (k+1):=⟨hlt,λj hj hjk=>by
     by_cases e:j=k
     ·subst e;exact heq
     ·exact HF.out.2 j hj (by omega)⟩
    have HS:=Lib.hid hstep;clear hstep;go_wp2_with fail;go_roundw;case rel=>exact⟨k+1,by go_num,HS.out,HBA.out⟩
    case measure=>simp[intOf];omega
   ·have hfound:=zgo s l k hlt (λj hj=>HF.out.2 j (by omega) hj) heq;have HFd:=Lib.hid hfound;clear hfound;go_wp2_with (go_at_call 77;refine(zat _ _).mono ?_;rintro e w' ⟨rfl,rfl⟩);go_ret2;exact⟨by rw[HFd.out];rfl,HBA.out⟩
  ·obtain rfl:k=l.length:=by omega
   have hnone:=zdc s l (λj hj=>HF.out.2 j hj hj);have HN:=Lib.hid hnone;clear hnone;go_wp2_with fail;go_ret2;exact⟨by rw[HN.out];rfl,HBr.out⟩
def Xu (s:ByteArray) (i:Int):ByteArray:=⟨(s.data.toList++[91]++[UInt8.ofNat (48+i.toNat)]++[93]).toArray⟩
def atS (l:List (ByteArray×Int)) (s:ByteArray) (i:Int):Option Int:=if i<0\/8<=i then none else xv l (Xu s i)
theorem zeL (s:ByteArray) (i:Int) (h:0<=i):s++(⟨#[91]⟩:ByteArray)++strOfNums [48+i]++(⟨#[93]⟩:ByteArray)=Xu s i:=by
 apply ByteArray.ext;apply Array.ext';have:(48+i).toNat=48+i.toNat:=by omega
 simp[Xu,strOfNums,this]
theorem zem (l:List (ByteArray×Int)) (a:Option Addr) (cap:Nat) (s:ByteArray) (i:Int) (w:World) (hs:s.size<=1073741824) (hE:yi w l a cap) :
 Calls Tryz.prog 293 #[.agg #[.slice a l.length cap],.string s,.int .i64 i] w λe w'=>e=.returned (.tuple #[.int .i64 ((atS l s i).getD 0),.bool (atS l s i).isSome])/\Below w.heap.size w w':=by
 have HE:=Lib.hid hE;clear hE;by_cases h0:i<0
 ·go_enter Tryz.func293, Tryz.ntmps293;go_wp2_with fail;go_ret2;exact⟨by rw[atS,if_pos (Or.inl h0)];rfl,bel⟩
 ·by_cases h1:8<=i
  ·go_enter Tryz.func293, Tryz.ntmps293;go_wp2_with fail;go_ret2;exact⟨by rw[atS,if_pos (Or.inr h1)];rfl,bel⟩
  ·have hcv:∀(W:World) (b:Nat),W.cell? ⟨b,0,none⟩=some (.int .u8 (48+i))->(convert 85 9 (.slice (some ⟨b,0,none⟩) 1 1)).run Tryz.prog W=.ok (.string (strOfNums [48+i])) W:=λW b hc =>
    run_convert_bytes_arg W 85 5 Tryz.underlying85 Tryz.underlying5 b 0 1 1 [48+i] rfl (λj hj=>by have hj0:j=0:=(by omega);subst hj0;simpa using hc) 9 Tryz.underlying9
   have HN:=Lib.hid (zeL s i (by omega));have e2:(strOfNums [48+i]).size=1:=strOfNums_size _;have e1:(s++(⟨#[91]⟩:ByteArray)).size=s.size+1:=by simp[ByteArray.size_append];rfl
   have e3:(s++(⟨#[91]⟩:ByteArray)++strOfNums [48+i]).size=s.size+2:=by rw[ByteArray.size_append,e1,e2]
   have hF:=λW (hW:Below w.heap.size w W) (hz:w.heap.size<=W.heap.size)=>fr (W0:=w) (B:=w.heap.size) (QY l a cap (Xu s i) W (HE.out.keep (za hW))) hW hz;have HF:=Lib.hid hF;clear hF;go_enter Tryz.func293, Tryz.ntmps293;go_wp2_with (go_at_call 292;go_must (rw[HN.out];refine(HF.out _ bel sz).mono ?_;rintro e w1 ⟨rfl,hc1,hf1,hz1,hb1⟩));go_ret2;exact⟨by rw[atS,if_neg (by omega)];rfl,by assumption⟩
end Go.Proofs.YtnfkbliokjjggaaGreatDoor
