/- Traces, as data; ref26: Place, Different; ref35: fits. -/
import Derived.Test.YthojpomoflhbcaaGreatDoorQ29
import Derived.Test.YthojpomoflhbcaaGreatDoorQ05
import Derived.Test.YthojpomoflhbcaaGreatDoorQ07
import Derived.Deep.RegionHeld3
import Derived.BigQuiet
set_option maxHeartbeats 4000000
set_option maxRecDepth 100000
set_option linter.unusedSimpArgs false
set_option linter.unusedVariables false
set_option linter.unnecessarySimpa false
namespace Go.Proofs.YthojpomoflhbcaaGreatDoor
open Go.RowKit
attribute [local go_sem ↓] Go.wp_at_zero Go.wp_at_succ
def niR (w:World) (l:List Int) (vs:List Value):Prop:=∃a cap,vs=[.slice a l.length cap]/\IntsIn w l a cap
def niE:Enc (List Int) where
 sz:=1
 R:=niR
 pos:=by decide
 len:=by rintro _ _ _ ⟨_,_,rfl,_⟩;rfl
 keep:=by rintro _ _ _ _ hk ⟨a,cap,rfl,h⟩;exact⟨a,cap,rfl,h.keep hk⟩
 one:=by rintro _ _ _ ⟨_,_,rfl,_⟩ v hv;simp at hv;subst hv;rfl
theorem zdI {w:World} {l:List (List Int)} {a:Option Addr} {cap:Nat} (h:niE.In w l a cap) {b off:Nat} (ha:a=some ⟨b,off,none⟩) {i:Nat} (hi:i<l.length):∃a' c',w.cell? ⟨b,off+i,none⟩=some (.slice a' (l[i]'hi).length c')/\IntsIn w (l[i]'hi) a' c':=by obtain⟨vs,⟨a',c',rfl,h1⟩,hc⟩:=h.get ha hi;have:=hc 0 _ rfl;rw[show niE.sz=1 from rfl,Nat.mul_one,Nat.add_zero]at this;exact⟨a',c',this,h1⟩
structure zbl where
 names:List ByteArray
 rows:List (List Int)
structure zgh where
 an:Option Addr
 cn:Nat
 ar:Option Addr
 cr:Nat
structure zaz (w:World) (v:zbl) (x:zgh):Prop where
 ns:zE w v.names x.an x.cn
 rs:niE.In w v.rows x.ar x.cr
 sz:∀s∈v.names,s.size<=1073741824
theorem zaz.keep {w w':World} {v:zbl} {x:zgh} (h:zaz w v x) (hk:Kp w w'):zaz w' v x:=⟨h.ns.keep hk,h.rs.keep hk,h.sz⟩
def zbX (v:zbl) (x:zgh):List Value:=[.slice x.an v.names.length x.cn,.slice x.ar v.rows.length x.cr]
def ZV (v:zbl) (x:zgh):Value:=.agg (zbX v x).toArray
theorem Yt (v:zbl) (x:zgh):ZV v x=.agg #[.slice x.an v.names.length x.cn,.slice x.ar v.rows.length x.cr]:=rfl
def xQ:List ByteArray->ByteArray->Nat->Int
 | [],_,_=>-1
 |x::l,s,i=>if x=s then (i:Nat) else xQ l s (i+1)
theorem zhM (l:List ByteArray) (s:ByteArray) {k:Nat} (hk:k<l.length):xQ (l.drop k) s k=if l[k]'hk=s then (k:Int) else xQ (l.drop (k+1)) s (k+1):=by rw[List.drop_eq_getElem_cons hk,xQ]
def ZH (l:List ByteArray) (k:Nat):Bool:=(List.range k).all λi=>zis (l.getD i .empty).data.toList&&decide (xQ l (l.getD i .empty) 0=i)
theorem zaP (l:List ByteArray) {k:Nat} (hk:k<l.length):ZH l (k+1)=(ZH l k&&(zis (l[k]'hk).data.toList&&decide (xQ l (l[k]'hk) 0=k))):=by
 unfold ZH;have e:l.getD k .empty=l[k]'hk:=by rw[List.getD_eq_getElem?_getD,List.getElem?_eq_getElem hk];rfl
 rw[List.range_succ,List.all_append,List.all_cons,List.all_nil,Bool.and_true,e]
theorem zjb {l:List ByteArray} {k m:Nat} (h:ZH l m=true) (hk:k<=m):ZH l k=true:=by unfold ZH at h⊢;rw[List.all_eq_true]at h⊢;intro i hi;exact h i (List.mem_range.2 (by have:=List.mem_range.1 hi;omega))
theorem zjc {l:List ByteArray} {k:Nat} (hk:k<l.length) (h:(zis (l[k]'hk).data.toList&&decide (xQ l (l[k]'hk) 0=k))=false):ZH l l.length=false:=by
 cases e:ZH l l.length with
 |false=>rfl
 |true =>have:=zjb e (show k+1<=l.length by omega);rw[zaP l hk,h]at this;simp at this
theorem zdS (l:List ByteArray) (a:Option Addr) (c:Nat) (s:ByteArray) (w:World) (h:zE w l a c):Calls Tryz.prog 118 #[.slice a l.length c,.string s] w λe w'=>e=.returned (.int .i64 (xQ l s 0))/\w'=w:=by
 have H:=Lib.hid h;have HA:Hid (l.length=0\/∃b off,a=some ⟨b,off,none⟩):=zr.addr h;have hlen:=h.2.1;have HPo:Hid (∀v,v=xQ l s 0->(λ(e:Ending) (w':World)=>e=.returned (.int .i64 (xQ l s 0))/\w'=w) (.returned (.int .i64 v)) w):=λv h=>⟨by rw[h],rfl⟩;generalize (λ(e:Ending) (w':World)=>e=.returned (.int .i64 (xQ l s 0))/\w'=w)=Po at HPo⊢;clear h;go_enter Tryz.func118, Tryz.ntmps118;go_wp2_with fail;go_loop [5] (λi=>∃k:Nat,i=.int .i64 k/\k<=l.length/\Hid (xQ l s 0=xQ (l.drop k) s k)) (λi=>l.length-(intOf i).toNat);case atStart=>exact⟨0,rfl,Nat.zero_le _,rfl⟩
 case round =>
  obtain⟨k,rfl,hk,HQ⟩:=hrel;by_cases hlt:k<l.length
  ·have hkl:(k:Int)<l.length:=by omega
   obtain⟨b,off,ha⟩:=HA.out.resolve_left (by omega);subst ha;have g0:=zE.get H.out rfl hlt;have HSt:Hid (xQ l s 0=if l[k]'hlt=s then (k:Int) else xQ (l.drop (k+1)) s (k+1)):=by show _=_;rw[HQ.out];exact zhM l s hlt
   generalize (l[k]'hlt)=x at g0 HSt;by_cases he:x=s
   ·have HF:=Lib.hid (HPo.out (k:Int) (by rw[HSt.out,if_pos he]));subst he;go_wp2_with fail;first|exact HF.out|(go_ret2;exact HF.out)
   ·have HN:Hid (xQ l s 0=xQ (l.drop (k+1)) s (k+1)):=by show _=_;rw[HSt.out,if_neg he]
    have he1:=zl5 he;have he2:(x.toList==s.toList)=false:=by simpa [bne] using he1
    have he3:¬x.toList=s.toList:=by simpa using he2
    clear he HSt;go_wp2_with fail;go_round;case rel=>exact⟨k+1,by go_num,by omega,HN.out⟩
    case measure=>(simp[intOf];try omega)
  ·have hkl:¬(k:Int)<l.length:=by omega
   have HF:=Lib.hid (HPo.out (-1) (by rw[HQ.out,List.drop_eq_nil_of_le (by omega)];rfl));go_wp2_with fail;first|exact HF.out|(go_ret2;exact HF.out)
theorem zbv (l:List ByteArray) (a:Option Addr) (c:Nat) (w:World) (h:zE w l a c) (hs:∀s∈l,s.size<=1073741824):Calls Tryz.prog 63 #[.slice a l.length c] w (yO (ZH l l.length) w):=by
 have H:=Lib.hid h;have HA:Hid (l.length=0\/∃b off,a=some ⟨b,off,none⟩):=zr.addr h;have hlen:=h.2.1;have HSz:=Lib.hid hs;have HNo:Hid (∀k (hk:k<l.length),(zis (l[k]'hk).data.toList&&decide (xQ l (l[k]'hk) 0=k))=false->∀W,Below w.heap.size w W->yO (ZH l l.length) w (.returned (.bool false)) W):=λk hk h W hW=>⟨by rw[zjc hk h],hW⟩;have HYes:Hid (ZH l l.length=true->∀W,Below w.heap.size w W->yO (ZH l l.length) w (.returned (.bool true)) W):=λh W hW=>⟨by rw[h],hW⟩;generalize yO (ZH l l.length) w=Po at HNo HYes⊢;clear h hs;go_enter Tryz.func63, Tryz.ntmps63;go_wp2_with fail;go_loopw [3] (λi wr=>∃k:Nat,i=.int .i64 k/\k<=l.length/\Hid (ZH l k=true)/\Hid (Below w.heap.size w wr)) (λi _=>l.length-(intOf i).toNat);case atStart=>exact⟨0,rfl,Nat.zero_le _,rfl,Below.refl _ _⟩
 case round =>
  (try rename World=>wr)
  obtain⟨k,rfl,hk,HD,HB⟩:=hrel;have hzr:=HB.out.size;by_cases hlt:k<l.length
  ·have hkl:(k:Int)<l.length:=by omega
   obtain⟨b,off,ha⟩:=HA.out.resolve_left (by omega);subst ha;have g0:=zE.get (zE.keep (za HB.out) H.out) rfl hlt;have HNn:=Lib.hid (HNo.out k hlt);have HNx:Hid ((zis (l[k]'hlt).data.toList&&decide (xQ l (l[k]'hlt) 0=k))=true->ZH l (k+1)=true):=λh=>by rw[zaP l hlt,HD.out,h];rfl
   have hsz:=HSz.out _ (List.getElem_mem hlt);have HPl:Hid (∀W,Below w.heap.size w W->Calls Tryz.prog 118 #[.slice (some ⟨b,off,none⟩) l.length c,.string (l[k]'hlt)] W λe w'=>e=.returned (.int .i64 (xQ l (l[k]'hlt) 0))/\w'=W):=λW hW=>zdS l _ c _ W (zE.keep (za hW) H.out);generalize xQ l (l[k]'hlt) 0=pl at HNn HNx HPl;generalize (l[k]'hlt)=x at g0 HNn HNx hsz HPl;have HVr:=Lib.hid (za4 x wr hsz);generalize zis x.data.toList=vb at HVr HNn HNx;cases vb with
   |false =>have HF:=Lib.hid (HNn.out rfl);go_wp2_with (go_at_call 117;go_must (refine HVr.out.mono ?_;rintro e w5 ⟨rfl,hb5⟩));have HF2:=Lib.hid (HF.out w5 (HB.out.trans (hb5.mono hzr)));clear hb5;first|exact HF2.out|(go_ret2;exact HF2.out)
   |true =>
    by_cases hp:pl=(k:Int)
    ·have HN2:=Lib.hid (HNx.out (by rw[decide_eq_true hp];rfl));subst hp;clear HNn HNx
     go_wp2_with (first
      |(go_at_call 117;go_must (refine HVr.out.mono ?_;rintro e w5 ⟨rfl,hb5⟩;have HB5:Hid (Below w.heap.size w w5):=HB.out.trans (hb5.mono hzr);have q0:=za hb5 _ _ g0;clear hb5))
      |(go_at_call 118;go_must (refine(HPl.out _ HB5.out).mono ?_;rintro e w6 ⟨rfl,h6⟩;have h7:=h6.symm;clear h6;subst h7)))
     go_roundw;case rel=>exact⟨k+1,by go_num,by omega,HN2.out,HB5.out⟩
     case measure=>(simp[intOf];try omega)
    ·have HF:=Lib.hid (HNn.out (by rw[decide_eq_false hp];rfl));have hp2:(pl != (k:Int))=true:=by simpa using hp
     clear HNn HNx hp
     go_wp2_with (first
      |(go_at_call 117;go_must (refine HVr.out.mono ?_;rintro e w5 ⟨rfl,hb5⟩;have HB5:Hid (Below w.heap.size w w5):=HB.out.trans (hb5.mono hzr);have q0:=za hb5 _ _ g0;clear hb5))
      |(go_at_call 118;go_must (refine(HPl.out _ HB5.out).mono ?_;rintro e w6 ⟨rfl,h6⟩;have h7:=h6.symm;clear h6;subst h7)))
     have HF2:=Lib.hid (HF.out _ HB5.out);first|exact HF2.out|(go_ret2;exact HF2.out)
  ·obtain rfl:k=l.length:=by omega
   have hkl:¬((l.length:Int)<l.length):=by omega
   have HF:=Lib.hid (HYes.out HD.out wr HB.out);go_wp2_with fail;first|exact HF.out|(go_ret2;exact HF.out)
def zc8 (l:List Int):Bool:=l.all λn=>decide (0<=n/\n<=65535)
theorem zjn (l:List Int) (a:Option Addr) (c:Nat) (w:World) (h:IntsIn w l a c):Calls Tryz.prog 64 #[.slice a l.length c] w λe w'=>e=.returned (.bool (zc8 l))/\w'=w:=by
 have H:=Lib.hid (qI.2 h);have HA:Hid (l.length=0\/∃b off,a=some ⟨b,off,none⟩):=zr.addr h;have hlen:=h.2.1;have HNo:Hid (∀k (hk:k<l.length),¬(0<=l[k]'hk/\l[k]'hk<=65535)->(λ(e:Ending) (w':World)=>e=.returned (.bool (zc8 l))/\w'=w) (.returned (.bool false)) w):=λk hk h=>⟨by have:zc8 l=false:=zb8 hk (decide_eq_false h);rw[this],rfl⟩;have HYes:Hid ((∀k (hk:k<l.length),0<=l[k]'hk/\l[k]'hk<=65535)->(λ(e:Ending) (w':World)=>e=.returned (.bool (zc8 l))/\w'=w) (.returned (.bool true)) w):=λh=>⟨by have:zc8 l=true:=QK λj hj=>decide_eq_true (h j hj);rw[this],rfl⟩;generalize (λ(e:Ending) (w':World)=>e=.returned (.bool (zc8 l))/\w'=w)=Po at HNo HYes⊢;clear h;go_enter Tryz.func64, Tryz.ntmps64;go_wp2_with fail;go_loop [3] (λi=>∃k:Nat,i=.int .i64 k/\k<=l.length/\Hid (∀j (hj:j<l.length),j<k->0<=l[j]'hj/\l[j]'hj<=65535)) (λi=>l.length-(intOf i).toNat);case atStart=>exact⟨0,rfl,Nat.zero_le _,λ_ _ h=>absurd h (Nat.not_lt_zero _)⟩
 case round =>
  obtain⟨k,rfl,hk,HN⟩:=hrel;by_cases hlt:k<l.length
  ·have hkl:(k:Int)<l.length:=by omega
   obtain⟨b,off,ha⟩:=HA.out.resolve_left (by omega);subst ha;have g0:=Qo.1 (H.out.get rfl hlt);rw[show inE.sz=1 from rfl,Nat.mul_one]at g0;have HNn:=Lib.hid (HNo.out k hlt);have HNx:Hid (0<=l[k]'hlt/\l[k]'hlt<=65535->∀j (hj:j<l.length),j<k+1->0<=l[j]'hj/\l[j]'hj<=65535):=λhe j hj hjk=>by
    by_cases e:j=k
    ·subst e;exact he
    ·exact HN.out j hj (by omega)
   generalize (l[k]'hlt)=y at g0 HNn HNx;by_cases h1:y<0
   ·have HF:=Lib.hid (HNn.out (by omega));go_wp2_with fail;first|exact HF.out|(go_ret2;exact HF.out)
   ·by_cases h2:65535<y
    ·have HF:=Lib.hid (HNn.out (by omega));go_wp2_with fail;first|exact HF.out|(go_ret2;exact HF.out)
    ·have HN2:=Lib.hid (HNx.out ⟨by omega,by omega⟩);go_wp2_with fail;go_round;case rel=>exact⟨k+1,by go_num,by omega,HN2.out⟩
     case measure=>(simp[intOf];try omega)
  ·have hkl:¬(k:Int)<l.length:=by omega
   obtain rfl:k=l.length:=by omega
   have HF:=Lib.hid (HYes.out λj hj=>HN.out j hj hj);go_wp2_with fail;first|exact HF.out|(go_ret2;exact HF.out)
open Go.RowKit Go.ChangeShapes Go.WideShapes Go.ChangeAt Go.Deep Go.Joins
theorem zdj : Tryz.prog.cellsOf 52=1:=by kernel_rfl
theorem zdl : Tryz.prog.cellsOf 54=2:=by kernel_rfl
section
variable {H : Type} {enc : TypeId × Value → H} {w : World} {sp : Nat → Bool} {hd : Bool}
theorem zfN {fuel:Nat} {cs:List Value} {x:DataW H×List MemPlace} (h:DataW.trod enc Tryz.prog w 0 sp hd fuel 52 cs=some x) (hb:Rows.uptoBulk x.1<=1048576) :
 ∃(l:List (List Int)) (a:Option Addr) (cap:Nat),cs=[.slice a l.length cap]/\niE.In w l a cap:=by
 refine YC (λ(v:List Int) b o=>niE.At w v b o) Tryz.underlying52 zfj (by omega) h hb ?_;intro n cs' y hy hlt;obtain⟨l,a,cap,e,hI⟩:=zfM hy (by omega);subst e;exact⟨l,λb o hc=>ziV (E:=niE) ⟨a,cap,rfl,hI⟩ hc⟩
theorem zhF {fuel:Nat} {cs:List Value} {x:DataW H×List MemPlace} (h:DataW.trod enc Tryz.prog w 0 sp hd fuel 54 cs=some x) (hb:Rows.uptoBulk x.1<=1048576) :
 ∃(v:zbl) (z:zgh),cs=zbX v z/\zaz w v z:=by
 obtain⟨y0,y1,m,rfl,hl,h0,h1⟩:=trod_struct2 Tryz.underlying54 h;rw[zdl]at hl;obtain⟨c0,c1,rfl⟩:=zmM hl;simp only[zfk,zdj,List.drop,List.take]at h0 h1;simp only[Rows.uptoBulk,Rows.uptoBulkAll]at hb;obtain⟨ns,an,cn,e0,hn,hs⟩:=open_strs h0 (by omega);obtain⟨rs,ar,cr,e1,hr⟩:=zfN h1 (by omega);simp only[List.cons.injEq,and_true]at e0 e1;subst e0 e1;exact⟨⟨ns,rs⟩,⟨an,cn,ar,cr⟩,rfl,hn,hr,λs h=>by have:=hs s h;omega⟩
end
section
variable {H : Type} {enc : TypeId × Value → H} {w : World} {base b0 : Nat} {sp : Nat → Bool} {hd : Bool} {r : Reach} {v : Value} {d : DataW H} {ps : List MemPlace}
theorem ziS (hv:Value.okWide Tryz.prog w r b0 54 v) (h:DataW.Trod enc Tryz.prog w 0 sp hd 54 v d ps) (hb:Rows.uptoBulk d<=1048576):∃(n:zbl) (y:zgh),v=ZV n y/\zaz w n y:=by
 obtain⟨cs,rfl,_⟩:=okWide_struct Tryz.underlying54 hv;obtain⟨fuel,hf⟩:=h;obtain⟨n,y,e,hP⟩:=zhF hf hb;refine⟨n,y,?_,hP⟩;have:cs=(zbX n y).toArray:=by apply Array.toList_inj.1;exact e
 rw[this];rfl
end
end Go.Proofs.YthojpomoflhbcaaGreatDoor
