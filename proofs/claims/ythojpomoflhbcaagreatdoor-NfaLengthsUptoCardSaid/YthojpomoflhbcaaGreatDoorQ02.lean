/- The reference of words returns the same. -/
import Derived.Test.YthojpomoflhbcaaGreatDoorQ01
import Derived.StillTailTactics
set_option maxHeartbeats 2000000
set_option maxRecDepth 100000
set_option linter.unusedSimpArgs false
set_option linter.unusedVariables false
set_option linter.unnecessarySimpa false
namespace Go.Proofs.YthojpomoflhbcaaGreatDoor
open Go.RowKit
theorem YR {l:List ByteArray} {s:ByteArray} (h:∀j (hj:j<l.length),((l[j]'hj).toList==s.toList)=false):Lib.containsS l s=false:=by
 cases hc:Lib.containsS l s
 ·rfl
 ·obtain⟨i,hi,he⟩:=List.mem_iff_getElem.1 ((Lib.containsS_iff l s).1 hc);have:=h i hi;rw[he]at this;simp at this
theorem Z9 {l:List ByteArray} {s:ByteArray} {k:Nat} (hk:k<l.length) (h:((l[k]'hk).toList==s.toList)=true):Lib.containsS l s=true:=by
 rw[Lib.containsS_iff];have:l[k]=s:=by have h':=eq_of_beq h;rw[ByteArray.toList_eq,ByteArray.toList_eq]at h';exact ByteArray.ext (Array.ext' h')
 rw[←this];exact List.getElem_mem hk
theorem Xo (l:List ByteArray) (a:Option Addr) (cap:Nat) (s:ByteArray) (w:World) (hE:zE w l a cap) :
 Calls Tryz.prog 237 #[.slice a l.length cap,.string s] w λe w'=>e=.returned (.bool (Lib.containsS l s))/\w=w':=by
 have hlen:=hE.2.1;have HA:=Lib.hid hE.addr;have HE:=Lib.hid hE;clear hE;go_enter Tryz.func237, Tryz.ntmps237;go_wp2_with fail;go_loop [5] (λi=>∃k:Nat,i=.int .i64 k/\k<=l.length/\∀j (hj:j<l.length),j<k->((l[j]'hj).toList==s.toList)=false) (λi=>l.length-(intOf i).toNat);case atStart=>exact⟨0,rfl,Nat.zero_le _,λ_ _ h=>absurd h (by omega)⟩
 case round =>
  obtain⟨k,rfl,hk,hall⟩:=hrel;have HAl:=Lib.hid hall;clear hall;by_cases hlt:k<l.length
  ·obtain⟨b,off,ha⟩:=HA.out.resolve_left (by omega);subst ha;have c0:=HE.out.get rfl hlt;cases he:((l[k]'hlt).toList==s.toList)
   ·go_wp2_with fail;go_round;case rel=>exact⟨k+1,by go_num,by omega,λj hj hjk=>by
     by_cases e:j=k
     ·subst e;exact he
     ·exact HAl.out j hj (by omega)⟩
    case measure=>simp[intOf];omega
   ·have HY:=Lib.hid (Z9 hlt he);go_wp2_with fail;go_ret;exact⟨by rw[HY.out];rfl,rfl⟩
  ·obtain rfl:k=l.length:=by omega
   have HN:=Lib.hid (YR (l:=l) (s:=s) (λj hj=>HAl.out j hj hj));go_wp2_with fail;go_ret;exact⟨by rw[HN.out];rfl,rfl⟩
theorem Ze (l:List ByteArray) (a:Option Addr) (cap:Nat) (s:ByteArray) (w:World) (hE:zE w l a cap) :
 Calls Tryz.prog 270 #[.slice a l.length cap,.string s] w λe w'=>e=.returned (.bool (Lib.containsS l s))/\w=w':=by
 have hlen:=hE.2.1;have HA:=Lib.hid hE.addr;have HE:=Lib.hid hE;clear hE;go_enter Tryz.func270, Tryz.ntmps270;go_wp2_with fail;go_loop [5] (λi=>∃k:Nat,i=.int .i64 k/\k<=l.length/\∀j (hj:j<l.length),j<k->((l[j]'hj).toList==s.toList)=false) (λi=>l.length-(intOf i).toNat);case atStart=>exact⟨0,rfl,Nat.zero_le _,λ_ _ h=>absurd h (by omega)⟩
 case round =>
  obtain⟨k,rfl,hk,hall⟩:=hrel;have HAl:=Lib.hid hall;clear hall;by_cases hlt:k<l.length
  ·obtain⟨b,off,ha⟩:=HA.out.resolve_left (by omega);subst ha;have c0:=HE.out.get rfl hlt;cases he:((l[k]'hlt).toList==s.toList)
   ·go_wp2_with fail;go_round;case rel=>exact⟨k+1,by go_num,by omega,λj hj hjk=>by
     by_cases e:j=k
     ·subst e;exact he
     ·exact HAl.out j hj (by omega)⟩
    case measure=>simp[intOf];omega
   ·have HY:=Lib.hid (Z9 hlt he);go_wp2_with fail;go_ret;exact⟨by rw[HY.out];rfl,rfl⟩
  ·obtain rfl:k=l.length:=by omega
   have HN:=Lib.hid (YR (l:=l) (s:=s) (λj hj=>HAl.out j hj hj));go_wp2_with fail;go_ret;exact⟨by rw[HN.out];rfl,rfl⟩
theorem YE (c:Int) (w:World) :
 Calls Tryz.prog 191 #[.int .u8 c] w λe w'=>e=.returned (.bool (zdD c))/\w=w':=by
 go_enter Tryz.func191, Tryz.ntmps191;go_wp2;all_goals go_ret
 all_goals exact⟨by simp_all [zdD]<;>omega,rfl⟩
theorem zfV (c:Int) (w:World) :
 Calls Tryz.prog 239 #[.int .u8 c] w λe w'=>e=.returned (.bool (zmf c))/\w=w':=by
 go_enter Tryz.func239, Tryz.ntmps239;go_wp2;all_goals go_ret
 all_goals exact⟨by simp_all [zmf]<;>omega,rfl⟩
theorem za5 (c:Int) (w:World) :
 Calls Tryz.prog 193 #[.int .u8 c] w λe w'=>e=.returned (.bool (XU c))/\w=w':=by
 go_enter Tryz.func193, Tryz.ntmps193;go_wp2_with (first|(go_at_call 191;refine(YE _ _).mono ?_;rintro e w' ⟨rfl,rfl⟩)|(go_at_call 239;refine(zfV _ _).mono ?_;rintro e w' ⟨rfl,rfl⟩));all_goals go_ret
 all_goals exact⟨by simp_all [XU]<;>omega,rfl⟩
theorem zbP (w:World):Calls Tryz.prog 238 #[] w λe w'=>(∃a cap,e=.returned (.slice a kwS.length cap)/\zE w' kwS a cap)/\Below w.heap.size w w':=by
 go_enter Tryz.func238, Tryz.ntmps238;go_wp2_with fail;go_ret;refine⟨⟨some ⟨w.heap.size,0,none⟩,24,rfl,by decide,by decide,Or.inr ⟨w.heap.size,0,rfl,?_⟩⟩,bel⟩;intro i hi;refine⟨kwS[i]'hi,List.getElem?_eq_getElem hi,?_⟩;rw[World.cell?_alloc_new];have h24:i<24:=hi
 match i,h24 with
 |0,_|1,_|2,_|3,_|4,_|5,_|6,_|7,_|8,_|9,_|10,_|11,_|12,_|13,_|14,_|15,_|16,_|17,_|18,_|19,_|20,_|21,_|22,_|23,_=>rfl
 |n+24,h=>exact absurd h (by omega)
theorem YO (s:ByteArray) (w:World) :
 Calls Tryz.prog 192 #[.string s] w λe w'=>e=.returned (.bool (kwL.contains s.data.toList))/\Below w.heap.size w w':=by
 go_enter Tryz.func192, Tryz.ntmps192;go_wp2_with fail;refine(zbP _).mono ?_;rintro e w1 ⟨⟨a,cap,rfl,hs⟩,hb⟩;have HH:=Lib.hid (Xo kwS a cap s w1 hs);have HB:=Lib.hid hb;clear hs hb;go_wp2_with (go_at_call 237;refine HH.out.mono ?_;rintro e w' ⟨rfl,rfl⟩);go_ret;exact⟨by rw[←Ql];rfl,HB.out⟩
theorem ZM (s:ByteArray) (w:World) (hs:s.size<=1073741824) :
 Calls Tryz.prog 125 #[.string s] w λe w'=>e=.returned (.bool (yW s.data.toList))/\Below w.heap.size w w':=by
 have hll:s.data.toList.length=s.size:=by simp
 have htl:s.toList=s.data.toList:=ByteArray.toList_eq s;by_cases h0:s.size=0
 ·have he:s.toList=[]:=by rw[htl];exact List.length_eq_zero_iff.1 (by omega)
  have hR:Hid (yW s.data.toList=false):=by show _=_;rw[←htl,he];rfl
  clear htl hll;go_enter Tryz.func125, Tryz.ntmps125;go_wp2_with fail;go_ret;exact⟨by rw[hR.out];rfl,Below.refl _ _⟩
 ·have hne:(s.toList==[])=false:=by
   rw[htl];cases hc:s.data.toList with
   |nil=>rw[hc]at hll;simp at hll;omega
   |cons c l=>rfl
  have hne2:s.toList≠[]:=by intro h;rw[h]at hne;simp at hne
  have hne3:s.toList.isEmpty=false:=by cases hc:s.toList with
   |nil=>exact absurd hc hne2
   |cons c l=>rfl
  by_cases h16:16<s.size
  ·have hR:Hid (yW s.data.toList=false):=by
    show _=_;unfold yW;rw[decide_eq_false (by omega)];simp
   clear htl hll;go_enter Tryz.func125, Tryz.ntmps125;go_wp2_with fail;go_ret;exact⟨by rw[hR.out];rfl,Below.refl _ _⟩
  ·have hp:0<s.size:=by omega
   cases hl:zdD (s[0]'hp).toNat
   ·have hR:Hid (yW s.data.toList=false):=by
     show _=_;unfold yW;rw[YH hp (Or.inr ⟨rfl,hl⟩)];rfl
    clear htl hll;go_enter Tryz.func125, Tryz.ntmps125;go_wp2_with (go_at_call 191;refine(YE _ _).mono ?_;rintro e w' ⟨rfl,rfl⟩);go_ret;exact⟨by rw[hR.out];rfl,Below.refl _ _⟩
   ·cases hk:kwL.contains s.data.toList
    ·have HN:Hid (yW s.data.toList=zaE s.data.toList):=by
      show _=_;unfold yW;rw[hk,decide_eq_true (by omega)];simp
     have Hl:=Lib.hid hl;have HW0:Hid (XL s 0):=⟨by omega,by simp,by omega⟩;clear htl hll;go_enter Tryz.func125, Tryz.ntmps125;go_wp2_with (first|(go_at_call 191;refine(YE _ _).mono ?_;rintro e w' ⟨rfl,rfl⟩)|(go_at_call 192;refine(YO _ _).mono ?_;rintro e w1 ⟨rfl,hb1⟩;rw[hk];have HB1:=Lib.hid hb1;clear hb1));go_loop [3] (λi=>∃k:Nat,i=.int .i64 k/\XL s k) (λi=>s.size-(intOf i).toNat);case atStart=>exact⟨0,rfl,HW0.out⟩
     case round =>
      obtain⟨k,rfl,hW⟩:=hrel;have hkk:=hW.1;have HW:=Lib.hid hW;clear hW;by_cases hlt:k<s.size
      ·cases hf:XU (s[k]'hlt).toNat
       ·have HBad:=Lib.hid (YH hlt (Or.inl hf));go_wp2_with (go_at_call 193;refine(za5 _ _).mono ?_;rintro e w' ⟨rfl,rfl⟩);go_ret;exact⟨by rw[HN.out,HBad.out];rfl,(by assumption:Hid (Below w.heap.size w _)).out⟩
       ·have HSt:=Lib.hid (Yu HW.out hlt hf (λe=>by subst e;exact Hl.out));go_wp2_with (go_at_call 193;refine(za5 _ _).mono ?_;rintro e w' ⟨rfl,rfl⟩);go_round;case rel=>exact⟨k+1,by go_num,HSt.out⟩
        case measure=>simp[intOf];omega
      ·have HE:=Lib.hid (zav HW.out hlt);go_wp2_with fail;go_ret;exact⟨by rw[HN.out,HE.out,←ByteArray.toList_eq,hne3];rfl,(by assumption:Hid (Below w.heap.size w _)).out⟩
    ·have hR:Hid (yW s.data.toList=false):=by
      show _=_;unfold yW;rw[hk];simp
     clear htl hll;go_enter Tryz.func125, Tryz.ntmps125;go_wp2_with (first|(go_at_call 191;refine(YE _ _).mono ?_;rintro e w' ⟨rfl,rfl⟩)|(go_at_call 192;refine(YO _ _).mono ?_;rintro e w1 ⟨rfl,hb1⟩;rw[hk]));go_ret;exact⟨by rw[hR.out];rfl,by assumption⟩
def zT (w:World) (l:List (ByteArray×Int)) (a:Option Addr) (cap:Nat):Prop:=zr 2 l.length a cap (λi b o=>∃s,l[i]? = some s/\w.cell? ⟨b,o,none⟩=some (.string s.1)/\w.cell? ⟨b,o+1,none⟩=some (.int .i64 s.2))
theorem zT.keep {w w':World} (hk:∀a v,w.cell? a=some v->w'.cell? a=some v) {l:List (ByteArray×Int)} {a:Option Addr} {cap:Nat} (h:zT w l a cap):zT w' l a cap :=
 h.mono λ_ _ _ _ ⟨s,hs,h1,h2⟩=>⟨s,hs,hk _ _ h1,hk _ _ h2⟩
theorem zT.get {w:World} {l:List (ByteArray×Int)} {a:Option Addr} {cap:Nat} (h:zT w l a cap) {b off:Nat} (ha:a=some ⟨b,off,none⟩) {i:Nat} (hi:i<l.length) :
 w.cell? ⟨b,off+i*2,none⟩=some (.string (l[i]'hi).1)/\w.cell? ⟨b,off+i*2+1,none⟩=some (.int .i64 (l[i]'hi).2):=by
 rcases h.2.2 with h|⟨b',off',ha',hq⟩
 ·omega
 ·rw[ha]at ha';simp only[Option.some.injEq,Addr.mk.injEq,and_true]at ha';obtain⟨rfl,rfl⟩:=ha';obtain⟨e',he',hp⟩:=hq i hi;rw[List.getElem?_eq_getElem hi]at he';obtain rfl:=Option.some.inj he';exact hp
def xO:List (ByteArray×Int)->ByteArray->Option Int
 | [],_=>none
 |x::l,s=>if (x.1.toList==s.toList)=true then some (YJ x.2) else xO l s
theorem zjm (s:ByteArray) (l:List (ByteArray×Int)):∀(k:Nat) (hk:k<l.length),(∀j (hj:j<k),((l[j]'(by omega)).1.toList==s.toList)=false)->((l[k]'hk).1.toList==s.toList)=true->xO l s=some (YJ (l[k]'hk).2):=by
 induction l with
 |nil=>intro k hk;simp at hk
 |cons x l ih =>
  intro k hk h1 h2;cases k with
  |zero=>unfold xO;exact if_pos h2
  |succ k =>have h0:=h1 0 (by omega);unfold xO;rw[if_neg (by simpa using h0)];exact ih k (by simpa using hk) (λj hj=>h1 (j+1) (by omega)) h2
theorem zft (s:ByteArray) (l:List (ByteArray×Int)):(∀j (hj:j<l.length),((l[j]'hj).1.toList==s.toList)=false)->xO l s=none:=by
 induction l with
 |nil=>intro _;rfl
 |cons x l ih =>intro h1;have h0:=h1 0 (by simp);unfold xO;rw[if_neg (by simpa using h0)];exact ih (λj hj=>h1 (j+1) (by simpa using hj))
def zgp (l:List (ByteArray×Int)) (s:ByteArray) (k:Nat):Prop:=k<=l.length/\∀j (hj:j<l.length),j<k->((l[j]'hj).1.toList==s.toList)=false
theorem zbx (l:List (ByteArray×Int)) (a:Option Addr) (cap:Nat) (s:ByteArray) (w:World) (hE:zT w l a cap) :
 Calls Tryz.prog 257 #[.agg #[.slice a l.length cap],.string s] w λe w'=>e=.returned (.tuple #[.int .i64 ((xO l s).getD 0),.bool (xO l s).isSome])/\Below w.heap.size w w':=by
 have hlen:=hE.2.1;have hadr:=hE.addr;have HE:=Lib.hid hE;have HA:=Lib.hid hadr;clear hE hadr;go_enter Tryz.func257, Tryz.ntmps257;go_wp2_with fail;go_loopw [11] (λi wr=>∃k:Nat,i=.int .i64 k/\zgp l s k/\Below w.heap.size w wr) (λi _=>l.length-(intOf i).toNat);case atStart=>exact⟨0,rfl,⟨Nat.zero_le _,λ_ _ h=>absurd h (by omega)⟩,bel⟩
 case round =>
  obtain⟨k,rfl,hF,hBr⟩:=hrel;have hk:=hF.1;have HF:=Lib.hid hF;have HBr:=Lib.hid hBr;clear hF hBr;by_cases hlt:k<l.length
  ·obtain⟨b,off,ha⟩:=HA.out.resolve_left (by omega);subst ha;obtain⟨c0,c1⟩:=(HE.out.keep (za HBr.out)).get rfl hlt;have hBA:Below w.heap.size w (wr.alloc (.cells #[.string (l[k]'hlt).1,.int .i64 (l[k]'hlt).2] 78)):=HBr.out.alloc HBr.out.size _;have HBA:=Lib.hid hBA;clear hBA;cases heq:((l[k]'hlt).1.toList==s.toList)
   ·have hstep:zgp l s (k+1):=⟨hlt,λj hj hjk=>by
     by_cases e:j=k
     ·subst e;exact heq
     ·exact HF.out.2 j hj (by omega)⟩
    have HS:=Lib.hid hstep;clear hstep;go_wp2_with fail;go_roundw;case rel=>exact⟨k+1,by go_num,HS.out,HBA.out⟩
    case measure=>simp[intOf];omega
   ·have hfound:=zjm s l k hlt (λj hj=>HF.out.2 j (by omega) hj) heq;have HFd:=Lib.hid hfound;clear hfound;go_wp2_with (go_at_call 57;refine(zb3 _ _).mono ?_;rintro e w' ⟨rfl,rfl⟩);go_ret2;exact⟨by rw[HFd.out];rfl,HBA.out⟩
  ·obtain rfl:k=l.length:=by omega
   have hnone:=zft s l (λj hj=>HF.out.2 j hj hj);have HN:=Lib.hid hnone;clear hnone;go_wp2_with fail;go_ret2;exact⟨by rw[HN.out];rfl,HBr.out⟩
def Xj (s:ByteArray) (i:Int):ByteArray:=⟨(s.data.toList++[91]++[UInt8.ofNat (48+i.toNat)]++[93]).toArray⟩
def atS (l:List (ByteArray×Int)) (s:ByteArray) (i:Int):Option Int:=if i<0\/8<=i then none else xO l (Xj s i)
theorem zgX (s:ByteArray) (i:Int) (h:0<=i):s++(⟨#[91]⟩:ByteArray)++strOfNums [48+i]++(⟨#[93]⟩:ByteArray)=Xj s i:=by
 apply ByteArray.ext;apply Array.ext';have:(48+i).toNat=48+i.toNat:=by omega
 simp[Xj,strOfNums,this]
theorem zgB (l:List (ByteArray×Int)) (a:Option Addr) (cap:Nat) (s:ByteArray) (i:Int) (w:World) (hs:s.size<=1073741824) (hE:zT w l a cap) :
 Calls Tryz.prog 258 #[.agg #[.slice a l.length cap],.string s,.int .i64 i] w λe w'=>e=.returned (.tuple #[.int .i64 ((atS l s i).getD 0),.bool (atS l s i).isSome])/\Below w.heap.size w w':=by
 have HE:=Lib.hid hE;clear hE;by_cases h0:i<0
 ·go_enter Tryz.func258, Tryz.ntmps258;go_wp2_with fail;go_ret2;exact⟨by rw[atS,if_pos (Or.inl h0)];rfl,bel⟩
 ·by_cases h1:8<=i
  ·go_enter Tryz.func258, Tryz.ntmps258;go_wp2_with fail;go_ret2;exact⟨by rw[atS,if_pos (Or.inr h1)];rfl,bel⟩
  ·have hcv:∀(W:World) (b:Nat),W.cell? ⟨b,0,none⟩=some (.int .u8 (48+i))->(convert 119 9 (.slice (some ⟨b,0,none⟩) 1 1)).run Tryz.prog W=.ok (.string (strOfNums [48+i])) W:=λW b hc =>
    run_convert_bytes_arg W 119 5 Tryz.underlying119 Tryz.underlying5 b 0 1 1 [48+i] rfl (λj hj=>by have hj0:j=0:=(by omega);subst hj0;simpa using hc) 9 Tryz.underlying9
   have HN:=Lib.hid (zgX s i (by omega));have e2:(strOfNums [48+i]).size=1:=strOfNums_size _;have e1:(s++(⟨#[91]⟩:ByteArray)).size=s.size+1:=by simp[ByteArray.size_append];rfl
   have e3:(s++(⟨#[91]⟩:ByteArray)++strOfNums [48+i]).size=s.size+2:=by rw[ByteArray.size_append,e1,e2]
   have hF:=λW (hW:Below w.heap.size w W) (hz:w.heap.size<=W.heap.size)=>fr (W0:=w) (B:=w.heap.size) (zbx l a cap (Xj s i) W (HE.out.keep (za hW))) hW hz;have HF:=Lib.hid hF;clear hF;go_enter Tryz.func258, Tryz.ntmps258;go_wp2_with (go_at_call 257;go_must (rw[HN.out];refine(HF.out _ bel sz).mono ?_;rintro e w1 ⟨rfl,hc1,hf1,hz1,hb1⟩));go_ret2;exact⟨by rw[atS,if_neg (by omega)];rfl,by assumption⟩
def sumTo (l:List (ByteArray×Int)) (s:ByteArray):Nat->Int
 |0=>0
 |k+1=>ziy (sumTo l s k) ((atS l s k).getD 0)
def zm5 (l:List (ByteArray×Int)) (s:ByteArray):Int:=sumTo l s 8
theorem zl2 (l:List (ByteArray×Int)) (a:Option Addr) (cap:Nat) (s:ByteArray) (w:World) (hs:s.size<=1073741824) (hE:zT w l a cap) :
 Calls Tryz.prog 259 #[.agg #[.slice a l.length cap],.string s] w λe w'=>e=.returned (.int .i64 (zm5 l s))/\Below w.heap.size w w':=by
 have HE:=Lib.hid hE;clear hE;go_enter Tryz.func259, Tryz.ntmps259;go_wp2_with fail;go_loopw [5,9] (λn i wr=>∃k:Nat,i=.int .i64 k/\k<=8/\n=.int .i64 (sumTo l s k)/\Below w.heap.size w wr/\w.heap.size<wr.heap.size/\wr.cell? ⟨w.heap.size,0,none⟩=some (.slice a l.length cap)) (λ_ i _=>8-(intOf i).toNat);case atStart=>exact⟨0,rfl,by omega,rfl,bel,sz,by simp⟩
 case round =>
  obtain⟨k,rfl,hk,rfl,hBr,hz,hc⟩:=hrel;have HBr:=Lib.hid hBr;clear hBr;by_cases hlt:k<8
  ·have hA:=fr (W0:=w) (B:=w.heap.size) (zgB l a cap s k wr hs (HE.out.keep (za HBr.out))) HBr.out (by omega);have HA:=Lib.hid hA;have HSt:Hid (sumTo l s (k+1)=ziy (sumTo l s k) ((atS l s k).getD 0)):=rfl;clear hA;go_wp2_with (first|(go_at_call 258;refine HA.out.mono ?_;rintro e w1 ⟨rfl,hc1,hf1,hz1,hb1⟩)|(go_at_call 278;refine(zed _ _ _).mono ?_;rintro e w' ⟨rfl,rfl⟩));go_roundw;case rel=>exact⟨k+1,by go_num,by omega,by rw[HSt.out],by assumption,by omega,by simp[*]⟩
   case measure=>simp[intOf];omega
  ·obtain rfl:k=8:=by omega
   go_wp2_with fail;go_ret;exact⟨rfl,HBr.out⟩
def ze5 (p:ByteArray->Bool) (l:List ByteArray) (k:Nat):Prop:=∀j (hj:j<l.length),j<k->p (l[j]'hj)=true
theorem zeg {p:ByteArray->Bool} {l:List ByteArray} {k:Nat} (h:ze5 p l k) (hk:k<l.length) (hp:p (l[k]'hk)=true):ze5 p l (k+1):=by
 intro j hj hjk;by_cases e:j=k
 ·subst e;exact hp
 ·exact h j hj (by omega)
theorem zeh {p:ByteArray->Bool} {l:List ByteArray} (h:ze5 p l l.length):l.all p=true:=by rw[List.all_eq_true];intro x hx;obtain⟨i,hi,rfl⟩:=List.mem_iff_getElem.1 hx;exact h i hi hi
theorem zb7 {p:ByteArray->Bool} {l:List ByteArray} {k:Nat} (_h:ze5 p l k) (hk:k<l.length) (hp:p (l[k]'hk)=false):l.all p=false:=by rw[List.all_eq_false];exact⟨_,List.getElem_mem hk,by simp[hp]⟩
noncomputable def Q4 (l:List (ByteArray×Int)) (e:Ex):Bool:=(zG [2] e).all (λs=>(xO l s).isSome)&&(zG [3,24] e).all (λs=>(atS l s 0).isSome)
theorem zhq (ops:List Int) (l:List Ex):∀(st:List ByteArray) (s:ByteArray),s∈l.foldl (zV ops) st->s∈st\/∃e∈l,e.name=s:=by
 induction l with
 |nil=>intro st s h;exact Or.inl h
 |cons e l ih =>
  intro st s h;rcases ih _ _ h with h|⟨e',he',rfl⟩
  ·unfold zV at h;split at h
   ·rcases List.mem_append.1 h with h|h
    ·exact Or.inl h
    ·exact Or.inr ⟨e,List.mem_cons_self,(List.mem_singleton.1 h).symm⟩
   ·exact Or.inl h
  ·exact Or.inr ⟨e',List.mem_cons_of_mem _ he',rfl⟩
theorem zaC (w:World) (e:Ex):∀(a:Option Addr) (cap:Nat),yY w e a cap->∀x∈e.nodes,x.name.size<=1073741824:=by
 induction e using Ex.ind with
 |h e ih =>
  intro a cap hE x hx;rw[Ex.nodes_eq]at hx;rcases List.mem_cons.1 hx with rfl|hx
  ·exact hE.1
  ·obtain⟨l,hl,hxl⟩:=List.mem_flatten.1 hx;obtain⟨e',he',rfl⟩:=List.mem_map.1 hl;obtain⟨i,hi,rfl⟩:=List.mem_iff_getElem.1 he';obtain⟨b,off,ha⟩:=hE.2.addr.resolve_left (by omega);obtain⟨a',cap',_,_,_,_,hX⟩:=hE.2.get ha hi;exact ih _ he' a' cap' hX x hxl
theorem XW {w:World} {e:Ex} {a:Option Addr} {cap:Nat} (hE:yY w e a cap) (ops:List Int):∀s∈zG ops e,s.size<=1073741824:=by
 intro s hs;rcases zhq ops _ _ _ hs with h|⟨x,hx,rfl⟩
 ·simp at h
 ·exact zaC w e a cap hE x hx
theorem zhi (l:List (ByteArray×Int)) (a:Option Addr) (cap:Nat) (op n:Int) (s:ByteArray) (args:List Ex) (ae:Option Addr) (ce:Nat) (w:World) (hS:zT w l a cap) (hE:yY w (.mk op n s args) ae ce) (hn:(Ex.mk op n s args).nodes.length<=1073741824) :
 Calls Tryz.prog 220 #[.agg #[.slice a l.length cap],.agg #[.int .i64 op,.int .i64 n,.string s,.slice ae args.length ce]] w λe w'=>e=.returned (.bool (Q4 l (.mk op n s args)))/\Below w.heap.size w w':=by
 have HS:=Lib.hid hS;have HE:=Lib.hid hE;have hN:=λW (hW:Below w.heap.size w W) (hz:w.heap.size<=W.heap.size)=>fr (W0:=w) (B:=w.heap.size) (Q:=λ_=>True) ((QH op n s args ae ce W (hE.keep (za hW)) hn).mono λe w' h=>(⟨trivial,h.2⟩:True/\_)) hW hz;have HNs:=Lib.hid (XW hE [2]);have HAs:=Lib.hid (XW hE [3,24]);have Hn:=Lib.hid hn;have HK:Hid (Q4 l (.mk op n s args)=((zG [2] (.mk op n s args)).all (λs=>(xO l s).isSome)&&(zG [3,24] (.mk op n s args)).all (λs=>(atS l s 0).isSome))):=rfl;clear hS hE hn hN;go_enter Tryz.func220, Tryz.ntmps220;go_wp2_with fail;refine(QH op n s args ae ce _ (HE.out.keep (za bel)) Hn.out).mono ?_;rintro e w1 ⟨⟨a1,k1,rfl,hs1⟩,hb1⟩;have hbw:Below w.heap.size w w1:=Below.trans (b:=(w.alloc _).alloc _) bel (hb1.mono sz);have hz1:=hb1.size;simp only[World.size_alloc]at hz1;have hc0:w1.cell? ⟨w.heap.size,0,none⟩=some (.slice a l.length cap):=(hb1.cell (by simp;omega)).trans (by simp);have hbx:w1.heap[w.heap.size+1]? = some (.cells #[.int .i64 op,.int .i64 n,.string s,.slice ae args.length ce] 24):=(hb1.block _ (by simp)).trans (zq _ _ _ (by simp));generalize zG [2] (.mk op n s args)=N at hs1 HNs HK;have hNl:=hs1.2.1;have hNa:=hs1.addr;have HS1:=Lib.hid hs1;have HNa:=Lib.hid hNa;have HBW:=Lib.hid hbw
 have HBX:=Lib.hid hbx;have HC0:=Lib.hid hc0;clear hs1 hbw hb1 hbx hNa hc0;go_wp2_with fail;go_loopw [16] (λi wr=>∃k:Nat,i=.int .i64 k/\k<=N.length/\ze5 (λs=>(xO l s).isSome) N k/\Below w1.heap.size w1 wr) (λi _=>N.length-(intOf i).toNat);case atStart=>exact⟨0,rfl,Nat.zero_le _,λ_ _ h=>absurd h (by omega),Below.refl _ _⟩
 case round =>
  obtain⟨k,rfl,hk,hall,hBr⟩:=hrel;have hzr:=hBr.size;have hc0:wr.cell? ⟨w.heap.size,0,none⟩=some (.slice a l.length cap):=(hBr.cell (by simp;omega)).trans HC0.out;by_cases hlt:k<N.length
  ·obtain⟨b1,o1,ha1⟩:=HNa.out.resolve_left (by omega);subst ha1;have hcs:=(HS1.out.keep (za hBr)).get rfl hlt;have hbr':Below w.heap.size w wr:=HBW.out.trans (hBr.mono HBW.out.size);have hF:=fr (W0:=w1) (B:=w1.heap.size) (zbx l a cap (N[k]'hlt) wr (HS.out.keep (za hbr'))) hBr hzr;have HF:=Lib.hid hF;have HA:=Lib.hid hall;clear hF hBr hall hbr';cases hf:(xO l (N[k]'hlt)).isSome
   ·have hno:=zb7 HA.out hlt hf;have HNo:=Lib.hid hno;clear hno;go_wp2_with (go_at_call 257;refine HF.out.mono ?_;rintro e w2 ⟨rfl,hc2,hf2,hz2,hb2⟩;have HB2:=Lib.hid hb2;clear hb2);go_ret;exact⟨by rw[HK.out,HNo.out];rfl,HBW.out.trans ((by assumption:Hid (Below w1.heap.size w1 _)).out.mono HBW.out.size)⟩
   ·have hyes:=zeg HA.out hlt hf;have HYes:=Lib.hid hyes;clear hyes;go_wp2_with (go_at_call 257;refine HF.out.mono ?_;rintro e w2 ⟨rfl,hc2,hf2,hz2,hb2⟩;have HB2:=Lib.hid hb2;clear hb2);go_roundw;case rel=>exact⟨k+1,by go_num,by omega,HYes.out,(by assumption:Hid (Below w1.heap.size w1 _)).out⟩
    case measure=>simp[intOf];omega
  ·obtain rfl:k=N.length:=by omega
   have hall':=zeh hall;have HK2:Hid (Q4 l (.mk op n s args)=(zG [3,24] (.mk op n s args)).all (λs=>(atS l s 0).isSome)):=by show _=_;rw[HK.out,hall'];rfl
   have hbr':Below w.heap.size w wr:=HBW.out.trans (hBr.mono HBW.out.size);have hbx:=(hBr.block _ (by omega)).trans HBX.out;have b0:wr.cell? ⟨w.heap.size+1,0,none⟩=some (.int .i64 op):=by simp[World.cell?,hbx]
   have b1:wr.cell? ⟨w.heap.size+1,1,none⟩=some (.int .i64 n):=by simp[World.cell?,hbx]
   have b2:wr.cell? ⟨w.heap.size+1,2,none⟩=some (.string s):=by simp[World.cell?,hbx]
   have b3:wr.cell? ⟨w.heap.size+1,3,none⟩=some (.slice ae args.length ce):=by simp[World.cell?,hbx]
   have HBr:=Lib.hid hbr';clear hall hall' hBr hbx hbr';go_wp2_with fail;refine(ze6 op n s args ae ce _ (HE.out.keep (za HBr.out)) Hn.out).mono ?_;rintro e w3 ⟨⟨a3,k3,rfl,hs3⟩,hb3⟩;have hbw3:Below w.heap.size w w3:=HBr.out.trans (hb3.mono HBr.out.size);have hz3:=hb3.size;have hc3:w3.cell? ⟨w.heap.size,0,none⟩=some (.slice a l.length cap):=(hb3.cell (by simp;omega)).trans hc0;generalize zG [3,24] (.mk op n s args)=M at hs3 HAs HK2;have hMl:=hs3.2.1;have HMa:=Lib.hid hs3.addr;have HS3:=Lib.hid hs3;have HBW3:=Lib.hid hbw3;have HC3:=Lib.hid hc3;have hzw:w.heap.size<w3.heap.size:=by omega
   clear hs3 hbw3 hb3 hc3 b0 b1 b2 b3 hc0;go_wp2_with fail;go_loopw [32] (λi wq=>∃k:Nat,i=.int .i64 k/\k<=M.length/\ze5 (λs=>(atS l s 0).isSome) M k/\Below w3.heap.size w3 wq) (λi _=>M.length-(intOf i).toNat);case atStart=>exact⟨0,rfl,Nat.zero_le _,λ_ _ h=>absurd h (by omega),Below.refl _ _⟩
   case round =>
    obtain⟨k,rfl,hk,hall,hBq⟩:=hrel;have hzq:=hBq.size;have hc0:wr.cell? ⟨w.heap.size,0,none⟩=some (.slice a l.length cap):=(hBq.cell (by simp;omega)).trans HC3.out;by_cases hlt:k<M.length
    ·obtain⟨b1,o1,ha1⟩:=HMa.out.resolve_left (by omega);subst ha1;have hcs:=(HS3.out.keep (za hBq)).get rfl hlt;have hbr':Below w.heap.size w wr:=HBW3.out.trans (hBq.mono HBW3.out.size);have hF:=fr (W0:=w3) (B:=w3.heap.size) (zgB l a cap (M[k]'hlt) 0 wr (HAs.out _ (List.getElem_mem hlt)) (HS.out.keep (za hbr'))) hBq hzq;have HF:=Lib.hid hF;have HA:=Lib.hid hall;clear hF hBq hall hbr';cases hf:(atS l (M[k]'hlt) 0).isSome
     ·have hno:=zb7 HA.out hlt hf;have HNo:=Lib.hid hno;clear hno;go_wp2_with (go_at_call 258;refine HF.out.mono ?_;rintro e w4 ⟨rfl,hc2,hf2,hz2,hb2⟩;have HB2:=Lib.hid hb2;clear hb2);go_ret;exact⟨by rw[HK2.out,HNo.out];rfl,HBW3.out.trans ((by assumption:Hid (Below w3.heap.size w3 _)).out.mono HBW3.out.size)⟩
     ·have hyes:=zeg HA.out hlt hf;have HYes:=Lib.hid hyes;clear hyes;go_wp2_with (go_at_call 258;refine HF.out.mono ?_;rintro e w4 ⟨rfl,hc2,hf2,hz2,hb2⟩;have HB2:=Lib.hid hb2;clear hb2);go_roundw;case rel=>exact⟨k+1,by go_num,by omega,HYes.out,(by assumption:Hid (Below w3.heap.size w3 _)).out⟩
      case measure=>simp[intOf];omega
    ·obtain rfl:k=M.length:=by omega
     have hall':=zeh hall;have HA:=Lib.hid hall';have HBq:=Lib.hid hBq;clear hall hall' hBq;go_wp2_with fail;go_ret;exact⟨by rw[HK2.out,HA.out];rfl,HBW3.out.trans (HBq.out.mono HBW3.out.size)⟩
def xK (x:Int):List Int->Int
 |a::b::r=>if a<=x/\x<=b then 1 else xK x r
 |_=>0
def xr (op:Int) (l:List Int):Int :=
 if op=22 then (if l.getD 0 0≠0 then l.getD 1 0 else l.getD 2 0)
 else if op=23 then xK (l.getD 0 0) (l.drop 1)
 else if l.length=1 then Qa op (l.getD 0 0) else XR op (l.getD 0 0) (l.getD 1 0)
def IntsIn (w:World) (l:List Int) (a:Option Addr) (cap:Nat):Prop:=zr 1 l.length a cap (λi b o=>∃n,l[i]? = some n/\w.cell? ⟨b,o,none⟩=some (.int .i64 n))
theorem IntsIn.keep {w w':World} (hk:∀a v,w.cell? a=some v->w'.cell? a=some v) {l:List Int} {a:Option Addr} {cap:Nat} (h:IntsIn w l a cap):IntsIn w' l a cap :=
 h.mono λ_ _ _ _ ⟨s,hs,hp⟩=>⟨s,hs,hk _ _ hp⟩
theorem IntsIn.get {w:World} {l:List Int} {a:Option Addr} {cap:Nat} (h:IntsIn w l a cap) {b off:Nat} (ha:a=some ⟨b,off,none⟩) {i:Nat} (hi:i<l.length):w.cell? ⟨b,off+i,none⟩=some (.int .i64 (l.getD i 0)):=by
 rcases h.2.2 with h|⟨b',off',ha',hq⟩
 ·omega
 ·rw[ha]at ha';simp only[Option.some.injEq,Addr.mk.injEq,and_true]at ha';obtain⟨rfl,rfl⟩:=ha';obtain⟨e',he',hp⟩:=hq i hi;rw[List.getD_eq_getElem?_getD,he'];rw[Nat.mul_one]at hp;exact hp
theorem zdB {w:World} {base:Nat} {e:TypeId} {v:Value} {l:List Int} (h:w.ownsRow base e 1 v l.length (l.map (Value.int .i64))) (hn:l.length<=1073741824):∃a cap,v=.slice a l.length cap/\IntsIn w l a cap:=by obtain⟨a,cap,hv,hs⟩:=xX h hn;refine⟨a,cap,hv,hs.mono λi b o hi hq=>?_⟩;have:=hq 0 (by omega);exact⟨l[i],List.getElem?_eq_getElem hi,by simpa [hi] using this⟩
theorem zdO (op:Int) (l:List Int) (a:Option Addr) (cap:Nat) (w:World) (hE:IntsIn w l a cap) (h1:1<=l.length) (h22:op=22->3<=l.length) (hr:∀i,0<=l.getD i 0/\l.getD i 0<65536) :
 Calls Tryz.prog 260 #[.int .i64 op,.slice a l.length cap] w λe w'=>e=.returned (.int .i64 (xr op l))/\Below w.heap.size w w':=by
 have hlen:=hE.2.1;obtain⟨b,off,ha⟩:=hE.addr.resolve_left (by omega);subst ha;have g0:=hE.get rfl (show 0<l.length by omega);rw[Nat.add_zero]at g0;by_cases e22:op=22
 ·have h3:=h22 e22;have g1:=hE.get rfl (show 1<l.length by omega);have g2:=hE.get rfl (show 2<l.length by omega);have HO:Hid (xr op l=if l.getD 0 0≠0 then l.getD 1 0 else l.getD 2 0):=if_pos e22;clear hE hr h22;generalize l.getD 0 0=x0 at g0 HO;generalize l.getD 1 0=x1 at g1 HO;generalize l.getD 2 0=x2 at g2 HO;by_cases z:x0=0
  all_goals
   go_enter Tryz.func260, Tryz.ntmps260;go_wp2_with fail;go_ret;exact⟨by rw[HO.out];first|(rw[if_neg (by simpa using z)];rfl)|(rw[if_pos (by simpa using z)];rfl),Below.refl _ _⟩
 ·by_cases e23:op=23
  ·have HO:Hid (xr op l=xK (l.getD 0 0) (l.drop 1)):=by
    show _=_;unfold xr;rw[if_neg e22,if_pos e23]
   have HE:=Lib.hid hE;clear hE hr h22;generalize hx0:l.getD 0 0=x0 at g0 HO;clear hx0 e22;subst e23;go_enter Tryz.func260, Tryz.ntmps260;go_wp2_with fail;go_loopw [5] (λi wr=>∃k:Nat,i=.int .i64 ((2*k+1:Nat):Int)/\2*k+1<=l.length/\xK x0 (l.drop 1)=xK x0 (l.drop (2*k+1))/\Below w.heap.size w wr) (λi _=>l.length-(intOf i).toNat);case atStart=>exact⟨0,rfl,h1,rfl,Below.refl _ _⟩
   case round =>
    obtain⟨k,rfl,hk,hI,hBr⟩:=hrel;have HI:=Lib.hid hI;have HBr:=Lib.hid hBr;have g0':=(hBr.cell (p:=⟨b,off,none⟩) (World.block_lt_of_cell? _ _ g0)).trans g0;clear hI hBr;by_cases hlt:2*k+2<l.length
    ·have kk:=za HBr.out;have hE':=HE.out.keep kk;have gA:=hE'.get rfl (show 2*k+1<l.length by omega);have gB:=hE'.get rfl (show 2*k+1+1<l.length by omega);have hdrop:l.drop (2*k+1)=l.getD (2*k+1) 0::l.getD (2*k+1+1) 0::l.drop (2*(k+1)+1):=by
      rw[List.drop_eq_getElem_cons (by omega),List.drop_eq_getElem_cons (i:=2*k+1+1) (by omega)];rw[List.getD_eq_getElem?_getD,List.getD_eq_getElem?_getD,List.getElem?_eq_getElem (by omega),List.getElem?_eq_getElem (by omega)];rfl
     have HD:=Lib.hid hdrop;clear hE' kk hdrop;generalize l.getD (2*k+1) 0=xa at gA HD;generalize l.getD (2*k+1+1) 0=xb at gB HD;by_cases ca:xa<=x0
     ·by_cases cb:x0<=xb
      ·have hfin:xK x0 (l.drop 1)=1:=by rw[HI.out,HD.out];unfold xK;rw[if_pos ⟨ca,cb⟩]
       have HF:=Lib.hid hfin;clear hfin;go_wp2_with fail;go_quiet (fail);go_wp2_with fail;go_ret;exact⟨by rw[HO.out,HF.out];rfl,below_drewN HBr.out _⟩
      ·have hst:xK x0 (l.drop 1)=xK x0 (l.drop (2*(k+1)+1)):=by rw[HI.out,HD.out,xK,if_neg (λh=>cb h.2)]
       have HF:=Lib.hid hst;clear hst;go_wp2_with fail;go_quiet (fail);go_wp2_with fail;go_roundw;case rel=>exact⟨k+1,by go_num,by omega,HF.out,below_drewN HBr.out _⟩
       case measure=>simp[intOf];omega
     ·have hst:xK x0 (l.drop 1)=xK x0 (l.drop (2*(k+1)+1)):=by rw[HI.out,HD.out,xK,if_neg (λh=>ca h.1)]
      have HF:=Lib.hid hst;have hd:decide (xa<=x0)=false:=by simpa using ca
      clear hst;go_wp2_with fail;go_quiet (fail);go_wp2_with fail;go_roundw;case rel=>exact⟨k+1,by go_num,by omega,HF.out,below_drewN HBr.out _⟩
      case measure=>simp[intOf];omega
    ·have hend:xK x0 (l.drop (2*k+1))=0:=by
      match hm:l.drop (2*k+1) with
      | []=>rfl
      | [_]=>rfl
      |_::_::_ =>have:=congrArg List.length hm;simp at this;omega
     have HD:=Lib.hid hend;clear hend;go_wp2_with fail;go_ret;exact⟨by rw[HO.out,HI.out,HD.out];rfl,HBr.out⟩
  ·by_cases h1':l.length=1
   ·have HO:Hid (xr op l=Qa op (l.getD 0 0)):=by
     show _=_;unfold xr;rw[if_neg e22,if_neg e23,if_pos h1']
    clear hE hr h22;generalize l.getD 0 0=x0 at g0 HO;go_enter Tryz.func260, Tryz.ntmps260;go_wp2_with (go_at_call 279;go_must (refine(fr (W0:=w) (B:=w.heap.size) (zf8 _ _ _) bel sz).mono ?_;rintro e w1 ⟨rfl,hc1,hf1,hz1,hb1⟩;try simp only[World.size_alloc,World.size_setCell,World.size_drew,World.heap_drewN]at hz1;try (have hzl0:w.heap.size<w1.heap.size:=by omega);try (have hzl1:w.heap.size+1<w1.heap.size:=by omega);try (have hzl2:w.heap.size+2<w1.heap.size:=by omega);try (have hzl3:w.heap.size+3<w1.heap.size:=by omega);try (have hzl4:w.heap.size+4<w1.heap.size:=by omega);try (have hzl5:w.heap.size+5<w1.heap.size:=by omega)));go_ret;exact⟨by rw[HO.out];rfl,by assumption⟩
   ·have HO:Hid (xr op l=XR op (l.getD 0 0) (l.getD 1 0)):=by
     show _=_;unfold xr;rw[if_neg e22,if_neg e23,if_neg h1']
    have g1:=hE.get rfl (show 1<l.length by omega);obtain⟨r0,r0'⟩:=hr 0;obtain⟨r1,r1'⟩:=hr 1;clear hE hr h22;generalize l.getD 0 0=x0 at g0 HO r0 r0';generalize l.getD 1 0=x1 at g1 HO r1 r1';go_enter Tryz.func260, Tryz.ntmps260;go_wp2_with fail;go_quiet ((go_at_call 280;exact Calls.quiet_of_same ((zfs op x0 x1 r0 r0' r1 r1' _).mono λe w' h=>⟨h.1,h.2.symm⟩)));go_wp2_with fail;go_ret;exact⟨by rw[HO.out];rfl,below_drewN (Below.refl _ _) _⟩
end Go.Proofs.YthojpomoflhbcaaGreatDoor
