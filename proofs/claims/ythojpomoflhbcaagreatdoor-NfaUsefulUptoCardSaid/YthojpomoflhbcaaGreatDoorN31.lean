/- nfa.builder: set. -/
import Derived.Test.YthojpomoflhbcaaGreatDoorN17
import Derived.Test.YthojpomoflhbcaaGreatDoorN20
import Derived.Test.YthojpomoflhbcaaGreatDoorN13
import Derived.Test.YthojpomoflhbcaaGreatDoorN15
import Derived.Test.YthojpomoflhbcaaGreatDoorN14
set_option linter.unusedSimpArgs false
set_option linter.unusedVariables false
set_option linter.unnecessarySimpa false
namespace Go.Proofs.YthojpomoflhbcaaGreatDoor
open Go.RowKit
attribute [local go_sem ↓] Go.wp_at_zero Go.wp_at_succ
def setE (nm:ByteArray) (x:Ex) (st:Int) (acc:List Int) (e:EdgeD):Option EdgeD:=if acc.contains e.to then some ⟨e.fr,st+(acc.idxOf e.to:Nat),e.guards,e.sets++[⟨nm,x⟩]⟩ else none
def setL (nm:ByteArray) (x:Ex) (st:Int) (acc:List Int) (l m:List EdgeD):List EdgeD:=l++m.filterMap (setE nm x st acc)
theorem setL_no {nm:ByteArray} {x:Ex} {st:Int} {acc:List Int} {l es:List EdgeD} {m:Nat} (h:m < es.length) (hc:acc.contains (es[m]'h).to=false):setL nm x st acc l (es.take (m+1))=setL nm x st acc l (es.take m):=by
 unfold setL;rw[List.take_succ_eq_append_getElem h,List.filterMap_append,show (List.filterMap (setE nm x st acc) [es[m]'h])=[] from by rw[List.filterMap_cons,show setE nm x st acc (es[m]'h)=none from by unfold setE;rw[hc];rfl];rfl,List.append_nil]
theorem setL_yes {nm:ByteArray} {x:Ex} {st:Int} {acc:List Int} {l es:List EdgeD} {m:Nat} (h:m < es.length) (hc:acc.contains (es[m]'h).to=true):setL nm x st acc l (es.take (m+1))=setL nm x st acc l (es.take m)++[⟨(es[m]'h).fr,st+(acc.idxOf (es[m]'h).to:Nat),(es[m]'h).guards,(es[m]'h).sets++[⟨nm,x⟩]⟩]:=by
 unfold setL;rw[List.take_succ_eq_append_getElem h,List.filterMap_append,← List.append_assoc];congr 1;simp only[List.filterMap_cons,List.filterMap_nil,setE,hc,if_true]
def endL (st:Int) (k:Nat):List Int:=(List.range k).map fun (i:Nat)=>st+i
theorem endL_succ (st:Int) (k:Nat):endL st (k+1)=endL st k++[st+k]:=by unfold endL;rw[List.range_succ,List.map_append];rfl
theorem endL_len (st:Int) (k:Nat):(endL st k).length=k:=by simp[endL]
set_option maxHeartbeats 16000000 in
set_option maxRecDepth 100000 in
theorem set_any {p:Nat→Bool} {k:Nat} {w0 w:World} (hk:w0.heap.size≤k) (hblk:w.heap[k]? = some (.cells #[.int .i64 0,.slice none 0 0,.slice none 0 0,.bool false] 134 (0,0))) (hb:Below w0.heap.size w0 w) (hp:∀ j,p j=true→j < w0.heap.size)
  (s:Tq) (ae:Option Addr) (ce:Nat) (a:Option Addr) (cap:Nat) (x:NfaD) (ax:NfaA) {K:Nat} (hr:RegN K x) (hK:K≤1000000) (hnm:s.name.size≤1073741824) (hE:ExIn (World.hide w0 p) s.expr ae ce) (hx:NfaIn (World.hide w0 p) x ax) :
  Calls Tryz.prog 88 #[.pointer (some ⟨k,0,none⟩),tqVal s ae ce a cap,nfaVal x ax] w (BldP p k w0 (setN s.name s.expr x)):=by
 have hkw:=lt_of_block hblk
 have hel:=hx.es.len
 have hacl:=hx.ac.2.1
 have hst:=hr.st
 have HXE:=Lib.hid hx.es
 have HXC:=Lib.hid hx.ac
 have HXA:Hid (x.edges.length=0∨∃ b off,ax.ae=some ⟨b,off,none⟩):=hx.es.addr
 have HSE:=Lib.hid hE
 have Hp:=Lib.hid hp
 have HGl:Hid (∀ m (h:m < x.edges.length),(x.edges[m]'h).sets.length+1≤1073741824):=fun m h=>by have:=(hr.es _ (List.getElem_mem h)).2.2;omega
 have HPo:Hid (∀ ve va W,BldS (qk p k) k w0 W (x.states+x.accept.length) (setL s.name s.expr x.states x.accept x.edges x.edges) (endL x.states x.accept.length) ve va→BldP p k w0 (setN s.name s.expr x) (.returned (.tuple #[])) W):=fun ve va W h=>h.post hp rfl rfl rfl (by rw[endL_len];exact hacl)
 have hal:x.accept.length≤256:=by
  have h:=accB_iff.1 (nfaOk_iff.1 hr.ok).2.2
  have:∀ (l:List Int) (lo:Int),(∀ a∈l,lo≤a∧a < 256)→l.Pairwise (· < ·)→(l.length:Int)≤256 - lo∨l.length=0:=by
   intro l
   induction l with
   | nil=>intro lo _ _;exact Or.inr rfl
   | cons y l ih =>
    intro lo h1 h2
    have hp2:=List.pairwise_cons.1 h2
    have hy:=h1 y (List.mem_cons_self ..)
    rcases ih (y+1) (fun a ha=>⟨by have:=hp2.1 a ha;omega,(h1 a (List.mem_cons_of_mem _ ha)).2⟩) hp2.2 with h3 | h3
    ·left;rw[List.length_cons];omega
    ·left;rw[List.length_cons,h3];omega
  have:=this x.accept 0 (fun a ha=>by have:=h.1 a ha;omega) h.2
  omega
 clear hx hE hp hr
 generalize BldP p k w0 (setN s.name s.expr x)=Po at HPo⊢
 rw[tqVal_eq,nfaVal_eq]
 obtain⟨xs,xE,xA⟩:=x
 obtain⟨xae,xce,xaa,xca⟩:=ax
 simp only at hel hacl hst HXE HXA HXC HGl HPo hal⊢
 obtain⟨c0,c1,c2,c3,f0⟩:=cell4B hblk
 have f00:=f0 0
 have HBlk:=Lib.hid hblk
 clear f0 c1 c3 c2 hblk
 go_enter Tryz.func88, Tryz.ntmps88
 go_wp2_with fail
 generalize hW4:World.alloc (World.alloc (World.setCell w _ _) _) _=W4
 have hblk4:W4.heap[k]? = some (.cells #[.int .i64 (xs+xA.length),.slice none 0 0,.slice none 0 0,.bool false] 134 (0,0)):=by
  rw[← hW4]
  refine hx_oldT (hx_oldT ?_)
  rw[blk_set HBlk.out 0];rfl
 have hbs4:W4.heap[w.heap.size]? = some (.cells #[.int .i64 s.op,.int .i64 s.lo,.int .i64 s.hi,.int .i64 s.expr.op,.int .i64 s.expr.n,.string s.expr.name,.slice ae s.expr.args.length ce,.string s.name,.slice a s.args.length cap] 27 (0,0)):=by
  rw[← hW4]
  exact hx_oldT (hx_newT (by simp))
 have hbx4:W4.heap[w.heap.size+1]? = some (.cells #[.int .i64 xs,.slice xae xE.length xce,.slice xaa xA.length xca] 33 (0,0)):=by
  rw[← hW4]
  exact hx_newT (by simp)
 have hb4:Below w0.heap.size w0 W4:=by
  rw[← hW4]
  have hz:=hb.size
  exact((hb.setCell hk _).alloc (by simp;omega) _).alloc (by simp;omega) _
 have hz4:w.heap.size+2≤W4.heap.size:=by rw[← hW4];simp
 clear hW4 c0 f00
 have HS4:Hid (BldS (qk p k) k w0 W4 (xs+xA.length) [] [] (.slice none 0 0) (.slice none 0 0)):=BldS.mk0 hk hblk4 hb4
 have HBS:Hid (∀ wr ve va,BF k W4 ve va wr→wr.heap[w.heap.size]? = some (.cells #[.int .i64 s.op,.int .i64 s.lo,.int .i64 s.hi,.int .i64 s.expr.op,.int .i64 s.expr.n,.string s.expr.name,.slice ae s.expr.args.length ce,.string s.name,.slice a s.args.length cap] 27 (0,0))):=fun wr ve va h=>(h.block w.heap.size (by omega) (by omega)).trans hbs4
 have HBX:Hid (∀ wr ve va,BF k W4 ve va wr→wr.heap[w.heap.size+1]? = some (.cells #[.int .i64 xs,.slice xae xE.length xce,.slice xaa xA.length xca] 33 (0,0))):=fun wr ve va h=>(h.block (w.heap.size+1) (by omega) (by omega)).trans hbx4
 have HKP:Hid (∀ {wr st L A ve va},BldS (qk p k) k w0 wr st L A ve va→Kp (World.hide w0 p) (World.hide wr (hid (hid (qk p k) va) ve))):=fun h=>h.kp (qk_old hk)
 have HQL:Hid (∀ {wr st L A ve va},BldS (qk p k) k w0 wr st L A ve va→∀ j,hid (hid (qk p k) va) ve j=true→j < wr.heap.size):=fun h j hj=>by
  rcases hid_true.1 hj with h1 | h1
  ·rcases hid_true.1 h1 with h2 | h2
   ·rcases qk_true.1 h2 with h3 | h3
    ·have:=Hp.out j h3;have:=h.sz;omega
    ·subst h3;exact h.e.klt
   ·exact(h.alt j h2).2
  ·exact(h.e.vlt j h1).2
 clear hblk4 hbs4 hbx4 hb4 hb HBlk
 generalize hva0:Value.slice none 0 0=va0 at HS4
 have HVA0:=Lib.hid hva0
 clear hva0
 go_loopw [25,7] (fun i _ wr=>∃ (m:Nat) (ve:Value),i=.int .i64 m∧m≤xE.length∧Hid (BldS (qk p k) k w0 wr (xs+xA.length) (xE.take m) [] ve va0)∧Hid (BF k W4 ve va0 wr)) (fun i _ _=>xE.length - (intOf i).toNat)
 case atStart=>exact⟨0,va0,rfl,Nat.zero_le _,by simpa using HS4,by show BF _ _ _ _ _;rw[← HVA0.out];exact BF.refl _ _⟩
 case round =>
  obtain⟨m,ve,rfl,hm,HD,HF⟩:=hrel
  have hzr:=HF.out.size
  by_cases hlt:m < xE.length
  ·obtain⟨bf,of,hfa⟩:=HXA.out.resolve_left (by omega)
   subst hfa
   have HK0:=Lib.hid (HKP.out HD.out)
   obtain⟨ag,cg,aS,cs,g0,g1,g2,g3,h1,h2⟩:=edE_get (HXE.out.keep HK0.out) rfl hlt
   have e0:=hide_cell _ _ g0
   have e1:=hide_cell _ _ g1
   have e2:=hide_cell _ _ g2
   have e3:=hide_cell _ _ g3
   have HTn:Hid (xE.take m++[xE[m]'hlt]=xE.take (m+1)):=(List.take_succ_eq_append_getElem hlt).symm
   have HM:Hid (∀ W,Below wr.heap.size wr W→Calls Tryz.prog 136 #[.pointer (some ⟨k,0,none⟩),edVal (xE[m]'hlt) ag cg aS cs] W (AddPost (hid (qk p k) va0) k w0 W (xs+xA.length) (xE.take m++[xE[m]'hlt]) ve va0)):=fun W hW=>add_any (HD.out.below hW).e (xE[m]'hlt) ag cg aS cs (h1.keep (hid_below hW)) (h2.keep (hid_below hW))
   clear g0 g1 g2 g3 h1 h2
   unfold edVal at HM
   generalize (xE[m]'hlt)=y at e0 e1 e2 e3 HTn HM
   go_wp2_with (go_at_call 136;go_must (refine(HM.out _ bel).mono ?_;rintro e w7 ⟨rfl,u',hD7,hS7⟩))
   have hBa:Below wr.heap.size wr (wr.alloc (.cells #[.int .i64 y.fr,.int .i64 y.to,.slice ag y.guards.length cg,.slice aS y.sets.length cs] 69)):=(Below.refl _ _).alloc (Nat.le_refl _) _
   have HD7:Hid (BldS (qk p k) k w0 w7 (xs+xA.length) (xE.take (m+1)) [] u' va0):=by
    show BldS _ _ _ _ _ _ _ _ _
    rw[← HTn.out];exact(HD.out.below hBa).step hD7 hS7
   have HF7:Hid (BF k W4 u' va0 w7):=(HF.out.below hBa).step hS7
   clear hD7 hS7 hBa
   go_roundw
   case rel=>exact⟨m+1,u',by go_num,by omega,HD7.out,HF7.out⟩
   case measure=>(simp[intOf];try omega)
  ·obtain rfl:m=xE.length:=by omega
   have HDf:Hid (BldS (qk p k) k w0 wr (xs+xA.length) (setL s.name s.expr xs xA xE (xE.take 0)) [] ve va0):=by
    show BldS _ _ _ _ _ _ _ _ _
    have:=HD.out
    rw[List.take_length] at this
    simpa [setL] using this
   have hbx:=HBX.out _ _ _ HF.out
   obtain⟨x0,x1,x2⟩:=cell3T hbx
   clear HD hbx
   go_wp2_with fail
   rename World=>wa
   clear x0 x1 x2
   go_loopw [36,9,10] (fun i _ _ wr=>∃ (m:Nat) (ve:Value),i=.int .i64 m∧m≤xE.length∧Hid (BldS (qk p k) k w0 wr (xs+xA.length) (setL s.name s.expr xs xA xE (xE.take m)) [] ve va0)∧Hid (BF k W4 ve va0 wr)) (fun i _ _ _=>xE.length - (intOf i).toNat)
   case atStart=>exact⟨0,ve,rfl,Nat.zero_le _,HDf.out,HF.out⟩
   case round =>
    clear HDf HF
    obtain⟨m,ve,rfl,hm2,HD,HF⟩:=hrel
    have hzr:=HF.out.size
    by_cases hlt:m < xE.length
    ·obtain⟨bf,of,hfa⟩:=HXA.out.resolve_left (by omega)
     subst hfa
     have HK0:=Lib.hid (HKP.out HD.out)
     obtain⟨ag,cg,aS,cs,g0,g1,g2,g3,h1,h2⟩:=edE_get (HXE.out.keep HK0.out) rfl hlt
     have e0:=hide_cell _ _ g0
     have e1:=hide_cell _ _ g1
     have e2:=hide_cell _ _ g2
     have e3:=hide_cell _ _ g3
     have hgl:=HGl.out m hlt
     have HNo:Hid (xA.contains (xE[m]'hlt).to=false→setL s.name s.expr xs xA xE (xE.take (m+1))=setL s.name s.expr xs xA xE (xE.take m)):=fun h=>setL_no hlt h
     have HYes:Hid (xA.contains (xE[m]'hlt).to=true→setL s.name s.expr xs xA xE (xE.take m)++[⟨(xE[m]'hlt).fr,xs+(xA.idxOf (xE[m]'hlt).to:Nat),(xE[m]'hlt).guards,(xE[m]'hlt).sets++[⟨s.name,s.expr⟩]⟩]=setL s.name s.expr xs xA xE (xE.take (m+1))):=fun h=>(setL_yes hlt h).symm
     have HH1:=Lib.hid h1
     have HH2:=Lib.hid h2
     have HSE1:=Lib.hid (HSE.out.keep HK0.out)
     have hbx:=HBX.out _ _ _ HF.out
     obtain⟨x0,x1,x2⟩:=cell3T hbx
     have x0o:∀ o,(wr.alloc o).cell? ⟨w.heap.size+1,0,none⟩=some (.int .i64 xs):=fun o=>Lib.cell?_alloc_some _ x0
     have x2o:∀ o,(wr.alloc o).cell? ⟨w.heap.size+1,2,none⟩=some (.slice xaa xA.length xca):=fun o=>Lib.cell?_alloc_some _ x2
     have HXI:Hid (∀ W,Below wr.heap.size wr W→IntsIn W xA xaa xca):=fun W hW=>HXC.out.keep fun a u h=>keeps_of_below hW _ _ (hide_cell _ _ (HK0.out _ _ h))
     have HIx:Hid (∀ W,Below wr.heap.size wr W→Calls Tryz.prog 116 #[.slice xaa xA.length xca,.int .i64 (xE[m]'hlt).to] W fun e w'=>e=.returned (.int .i64 (idxZ xA (xE[m]'hlt).to))∧w'=W):=fun W hW=>idxI_any xA xaa xca _ W (HXI.out W hW)
     clear g0 g1 g2 g3 h1 h2 hbx
     generalize (xE[m]'hlt)=y at e0 e1 e2 e3 hgl HNo HYes HH1 HH2 HIx
     cases hc:xA.contains y.to with
     | false =>
      have hiz:idxZ xA y.to=-1:=by unfold idxZ;rw[hc];rfl
      have HTn:=Lib.hid (HNo.out hc)
      rw[hiz] at HIx
      clear hiz hc HNo HYes x0o x0 x1
      go_wp2_with (go_at_call 116;go_must (refine(HIx.out _ bel).mono ?_;rintro e w7 ⟨rfl,rfl⟩))
      have hBa:Below wr.heap.size wr (wr.alloc (.cells #[.int .i64 y.fr,.int .i64 y.to,.slice ag y.guards.length cg,.slice aS y.sets.length cs] 69)):=(Below.refl _ _).alloc (Nat.le_refl _) _
      have HD7:Hid (BldS (qk p k) k w0 (wr.alloc (.cells #[.int .i64 y.fr,.int .i64 y.to,.slice ag y.guards.length cg,.slice aS y.sets.length cs] 69)) (xs+xA.length) (setL s.name s.expr xs xA xE (xE.take (m+1))) [] ve va0):=by
       show BldS _ _ _ _ _ _ _ _ _
       rw[HTn.out];exact HD.out.below hBa
      have HF7:=Lib.hid (HF.out.below hBa)
      clear hBa
      go_roundw
      case rel=>exact⟨m+1,ve,by go_num,by omega,HD7.out,HF7.out⟩
      case measure=>(simp[intOf];try omega)
     | true =>
      have hiz:idxZ xA y.to=(xA.idxOf y.to:Nat):=by unfold idxZ;rw[hc];rfl
      have HTn:=Lib.hid (HYes.out hc)
      have hil:xA.idxOf y.to < 256:=Nat.lt_of_lt_of_le (List.idxOf_lt_length_of_mem (by simpa using hc)) hal
      rw[hiz] at HIx
      clear hiz hc HNo HYes x1
      generalize xA.idxOf y.to=ix at HIx HTn hil
      have hix0:(0:Int)≤(ix:Int):=by omega
      go_upto_region 12 with (go_at_call 116;go_must (refine(HIx.out _ bel).mono ?_;rintro e w7 ⟨rfl,rfl⟩))
      generalize hW5:World.alloc wr _=W5
      have hbw5:W5.heap[wr.heap.size]? = some (.cells #[.int .i64 y.fr,.int .i64 y.to,.slice ag y.guards.length cg,.slice aS y.sets.length cs] 69 (0,0)):=by rw[← hW5];exact hx_newT rfl
      have hB5:Below wr.heap.size wr W5:=by rw[← hW5];exact(Below.refl _ _).alloc (Nat.le_refl _) _
      have hz5:wr.heap.size < W5.heap.size:=by rw[← hW5];simp
      have hbs:=HBS.out _ _ _ HF.out
      obtain⟨-,-,-,x3,x4,x5,x6,x7,-⟩:=cell9T ((hB5.block _ (lt_of_block hbs)).trans hbs)
      have y0:W5.cell? ⟨w.heap.size+1,0,none⟩=some (.int .i64 xs):=by rw[← hW5];exact x0o _
      obtain⟨b0,b1,b2,b3,bF⟩:=cell4B hbw5
      clear hW5 x0o x2o e0 e1 e2 e3 hbs x0 x2
      obtain⟨q6,hq6⟩:∃ q6:Nat→Bool,(fun j=>hid (hid (qk p k) va0) ve j || j == wr.heap.size)=q6:=⟨_,rfl⟩
      have Q6:Hid (∀ j,q6 j=true↔hid (hid (qk p k) va0) ve j=true∨j=wr.heap.size):=fun j=>by rw[← hq6];simp
      have HQlt:=Lib.hid (HQL.out HD.out)
      have hk65:Kp (World.hide wr (hid (hid (qk p k) va0) ve)) (World.hide W5 q6):=hide_below hB5 fun j hj h=>((Q6.out j).1 h).elim id fun e=>by omega
      clear hq6
      have HCl:Hid (∀ W,Below W5.heap.size W5 W→Calls Tryz.prog 145 #[.slice aS y.sets.length cs] W fun e w'=>(∃ a c,e=.returned (.slice a y.sets.length c)∧bdE.Own 85 q6 w' W5.heap.size (.slice a y.sets.length c) y.sets)∧Below W.heap.size W w'∧Below W5.heap.size W5 w'):=fun W hW=>by
       refine(cloneBD q6 y.sets aS cs W (HH2.out.keep (hk65.trans (hide_below hW fun _ _ h=>h)))).mono ?_
       rintro e w' ⟨⟨v,rfl,h1⟩,h2⟩
       obtain⟨a,c,rfl,_⟩:=h1.slice (by omega)
       exact⟨⟨a,c,rfl,own_base h1 hW.size⟩,h2,hW.trans (h2.mono hW.size)⟩
      have HRx:Hid (∀ W v,Below W5.heap.size W5 W→(∀ j,Value.ownBlock v=some j→W5.heap.size≤j)→bdR (World.hide W (hid q6 v)) ⟨s.name,s.expr⟩ [.string s.name,.int .i64 s.expr.op,.int .i64 s.expr.n,.string s.expr.name,.slice ae s.expr.args.length ce]):=fun W v hW hv=>⟨ae,ce,rfl,hnm,HSE1.out.keep (hk65.trans (hide_below hW fun j hj h=>(hid_true.1 h).elim id fun e=>by have:=hv j e;omega))⟩
      have HS5:Hid (∀ W,Below W5.heap.size W5 W→W.cell? ⟨wr.heap.size,3,none⟩=some (.slice aS y.sets.length cs)∧W.cell? ⟨w.heap.size,3,none⟩=some (.int .i64 s.expr.op)∧W.cell? ⟨w.heap.size,4,none⟩=some (.int .i64 s.expr.n)∧W.cell? ⟨w.heap.size,5,none⟩=some (.string s.expr.name)∧W.cell? ⟨w.heap.size,6,none⟩=some (.slice ae s.expr.args.length ce)∧W.cell? ⟨w.heap.size,7,none⟩=some (.string s.name)):=fun W hW=>⟨keeps_of_below hW _ _ b3,keeps_of_below hW _ _ x3,keeps_of_below hW _ _ x4,keeps_of_below hW _ _ x5,keeps_of_below hW _ _ x6,keeps_of_below hW _ _ x7⟩
      have HBw5:=Lib.hid hbw5
      have HB5:=Lib.hid hB5
      have hs5:Below W5.heap.size W5 W5:=Below.refl _ _
      have X3:∀ o,(W5.alloc o).cell? ⟨w.heap.size,3,none⟩=some (.int .i64 s.expr.op):=fun o=>Lib.cell?_alloc_some _ x3
      have X4:∀ o,(W5.alloc o).cell? ⟨w.heap.size,4,none⟩=some (.int .i64 s.expr.n):=fun o=>Lib.cell?_alloc_some _ x4
      have X5:∀ o,(W5.alloc o).cell? ⟨w.heap.size,5,none⟩=some (.string s.expr.name):=fun o=>Lib.cell?_alloc_some _ x5
      have X6:∀ o,(W5.alloc o).cell? ⟨w.heap.size,6,none⟩=some (.slice ae s.expr.args.length ce):=fun o=>Lib.cell?_alloc_some _ x6
      have X7:∀ o,(W5.alloc o).cell? ⟨w.heap.size,7,none⟩=some (.string s.name):=fun o=>Lib.cell?_alloc_some _ x7
      have B3:∀ o,(W5.alloc o).cell? ⟨wr.heap.size,3,none⟩=some (.slice aS y.sets.length cs):=fun o=>Lib.cell?_alloc_some _ b3
      have HY0:=Lib.hid y0
      clear hbw5 hB5 hk65 bF b0 b1 b2 y0
      go_region_law (first
       | (go_simp;go_at_call 145;(with_reducible refine(HCl.out _ (by first | with_reducible assumption | exact belR)).mono ?_);rintro e v1 ⟨⟨a1,k1,rfl,hc1⟩,hb1,hB1⟩;have hs1:=hB1.size;have HC1:=Lib.hid hc1;obtain⟨j2,j3,j4,j5,j6,j7⟩:=HS5.out _ hB1;clear hc1)
       | (refine step_addE (E:=bdE) elemBD (by rfl) _ _ (by rfl) q6 W5.heap.size (.slice a1 y.sets.length k1) (by rfl) (HC1.out.below (by first | exact Below.refl _ _ | exact belR)) ⟨s.name,s.expr⟩ [.string s.name,.int .i64 s.expr.op,.int .i64 s.expr.n,.string s.expr.name,.slice ae s.expr.args.length ce] (HRx.out _ _ (by first | with_reducible assumption | exact belR) (fun j hj=>(own_vlt HC1.out j hj).1)) _ 1 (by rfl) (by first | exact heap_alloc_new' _ _ | exact hbT hb1 (hx_newT rfl)) y.sets.length rfl hgl (by first | omega | (simp;omega)) _ rfl ?_;intro gg gcap wg hownG hgrow hatG hltG;have hbg:wg.heap[wr.heap.size]? = some (.cells #[.int .i64 y.fr,.int .i64 y.to,.slice ag y.guards.length cg,.slice aS y.sets.length cs] 69 (0,0)):=((hgrow.block wr.heap.size (by first | omega | (simp;omega)) (fun e=>by have:=(own_vlt HC1.out _ e.symm).1;omega)).trans ((Below.block (B:=W5.heap.size) (by first | with_reducible assumption | exact belR) _ hz5).trans HBw5.out));obtain⟨i0,i1,i2,i3,iF⟩:=cell4B hbg))
      all_goals
       have hBg:=gr_bel5 hgrow HB5.out (by first | with_reducible assumption | exact belR) (fun j hj=>(own_vlt HC1.out j hj).1)
       have hgg:=own_vlt hownG gg rfl
       have hq6b:q6 wr.heap.size=true:=(Q6.out _).2 (Or.inr rfl)
       have hown9:=own_storeB (o:=3) (u:=.slice (some ⟨gg,0,none⟩) (y.sets.length+1) gcap) hq6b (fun e=>by have:=Option.some.inj e;simp only at this;omega) hownG
       have hIn9:bdE.In (World.hide (wg.setCell ⟨wr.heap.size,3,none⟩ (.slice (some ⟨gg,0,none⟩) (y.sets.length+1) gcap)) (hid (hid (qk p k) va0) ve)) (y.sets++[⟨s.name,s.expr⟩]) (some ⟨gg,0,none⟩) gcap:=own_in hown9 (by rw[List.length_append];simpa using hgl) (fun j hj=>(Q6.out j).2 (Or.inl hj)) fun j hj=>by have:=HQlt.out j hj;omega
       have hB9:Below wr.heap.size wr (wg.setCell ⟨wr.heap.size,3,none⟩ (.slice (some ⟨gg,0,none⟩) (y.sets.length+1) gcap)):=hBg.setCell (Nat.le_refl _) _
       have hbx9:=HBX.out _ _ _ (HF.out.below hB9)
       obtain⟨z0,-,-⟩:=cell3T hbx9
       have HM:Hid (Calls Tryz.prog 142 #[.pointer (some ⟨k,0,none⟩),.agg #[.int .i64 y.fr,.int .i64 y.to,.slice ag y.guards.length cg,.slice (some ⟨gg,0,none⟩) (y.sets.length+1) gcap],.int .i64 y.fr,.int .i64 (xs+(ix:Int))] (wg.setCell ⟨wr.heap.size,3,none⟩ (.slice (some ⟨gg,0,none⟩) (y.sets.length+1) gcap)) (AddPost (hid (qk p k) va0) k w0 (wg.setCell ⟨wr.heap.size,3,none⟩ (.slice (some ⟨gg,0,none⟩) (y.sets.length+1) gcap)) (xs+xA.length) (setL s.name s.expr xs xA xE (xE.take m)++[⟨y.fr,xs+(ix:Int),y.guards,y.sets++[⟨s.name,s.expr⟩]⟩]) ve va0)):=by
        have h:=moved_any (HD.out.below hB9).e ⟨y.fr,y.to,y.guards,y.sets++[⟨s.name,s.expr⟩]⟩ ag cg (some ⟨gg,0,none⟩) gcap y.fr (xs+(ix:Int)) (HH1.out.keep (hid_below hB9)) hIn9
        have e:(y.sets++[(⟨s.name,s.expr⟩:BindD)]).length=y.sets.length+1:=by simp
        unfold edVal at h
        simp only at h
        rw[e] at h
        exact h
       have HB9:=Lib.hid hB9
       clear hBg hgg hq6b hown9 hIn9 hB9 hownG hgrow hatG hltG hbg hbx9
       go_wp2_with fail
       refine HM.out.mono ?_
       rintro e w7 ⟨rfl,u',hD7,hS7⟩
       have HD7:Hid (BldS (qk p k) k w0 w7 (xs+xA.length) (setL s.name s.expr xs xA xE (xE.take (m+1))) [] u' va0):=by
        show BldS _ _ _ _ _ _ _ _ _
        rw[← HTn.out];exact(HD.out.below HB9.out).step hD7 hS7
       have HF7:Hid (BF k W4 u' va0 w7):=(HF.out.below HB9.out).step hS7
       clear hD7 hS7
       go_wp2_with fail
       go_roundw
       case rel=>exact⟨m+1,u',by go_num,by omega,HD7.out,HF7.out⟩
       case measure=>(simp[intOf];try omega)
    ·obtain rfl:m=xE.length:=by omega
     have HDf:Hid (BldS (qk p k) k w0 wr (xs+xA.length) (setL s.name s.expr xs xA xE xE) (endL xs 0) ve va0):=by
      show BldS _ _ _ _ _ _ _ _ _
      have:=HD.out
      rw[List.take_length] at this
      exact this
     have hbx:=HBX.out _ _ _ HF.out
     obtain⟨x0,x1,x2⟩:=cell3T hbx
     clear HD hbx
     go_wp2_with fail
     rename World=>wb
     clear x0 x1 x2
     go_loopw [71,11] (fun i _ wr=>∃ (m:Nat) (va:Value),i=.int .i64 m∧m≤xA.length∧Hid (BldS (qk p k) k w0 wr (xs+xA.length) (setL s.name s.expr xs xA xE xE) (endL xs m) ve va)∧Hid (BF k W4 ve va wr)) (fun i _ _=>xA.length - (intOf i).toNat)
     case atStart=>exact⟨0,va0,rfl,Nat.zero_le _,HDf.out,HF.out⟩
     case round =>
      clear HDf HF
      obtain⟨m,va,rfl,hm3,HD,HF⟩:=hrel
      have hzr:=HF.out.size
      by_cases hlt:m < xA.length
      ·have hbx:=HBX.out _ _ _ HF.out
       obtain⟨x0,-,-⟩:=cell3T hbx
       obtain⟨av,cv,hv,_⟩:=HD.out.a.slice (by rw[endL_len];omega)
       rw[endL_len] at hv
       have hblk:=HD.out.e.blk
       obtain⟨-,-,d2,-,df⟩:=cell4B hblk
       have df2:=df 2
       have hkl:=HD.out.e.klt
       have hne:=HD.out.ane
       subst hv
       have d2o:∀ o,(wr.alloc o).cell? ⟨k,2,none⟩=some (.slice av m cv):=fun o=>Lib.cell?_alloc_some _ d2
       have x0o:∀ o,(wr.alloc o).cell? ⟨w.heap.size+1,0,none⟩=some (.int .i64 xs):=fun o=>Lib.cell?_alloc_some _ x0
       have hzB:=HD.out.sz
       have hm256:(m:Int) < 256:=by omega
       have hst1:=hst.1
       have hst2:=hst.2
       have hkw:IntKind.i64.wrap (xs+(m:Int))=xs+m:=by rw[IntKind.wrap_i64];omega
       clear hbx hblk df
       go_upto_region 18 with fail
       go_region_law ((refine step_addE (E:=inE) elemIN (by rfl) _ _ (by rfl) (qk p k) w0.heap.size (.slice av m cv) (by rfl) (HD.out.a.below belR) (xs+m) [.int .i64 (xs+m)] rfl wr.heap.size 1 (by rfl) (heap_alloc_new' wr _) m (endL_len _ _) (by omega) (by simp;omega) (wr.heap.size+1) (by simp) ?_;intro gg gcap wg hownG hgrow hatG hltG;have f1g:wg.frozen? ⟨k,2,none⟩=false:=((hgrow.frozen_far ⟨k,2,none⟩ (by simp;omega) hne).trans (World.frozen?_alloc_old _ _ _ (Nat.ne_of_lt hkl))).trans df2;have c1g:wg.cell? ⟨k,2,none⟩=some (.slice av m cv):=(hgrow.cell_far ⟨k,2,none⟩ (by simp;omega) hne).trans (d2o _)))
       all_goals
        have hal2:Below wr.heap.size wr (wr.alloc (.cells #[.int .i64 (xs+m)] 3)).drew:=Below.drew ((Below.refl _ _).alloc (Nat.le_refl _) _)
        have hD9:BldS (qk p k) k w0 (wg.setCell ⟨k,2,none⟩ (.slice (some ⟨gg,0,none⟩) (m+1) gcap)) (xs+xA.length) (setL s.name s.expr xs xA xE xE) (endL xs (m+1)) ve (.slice (some ⟨gg,0,none⟩) (m+1) gcap):=by
         rw[endL_succ]
         exact(HD.out.below hal2).acc hownG hgrow (hatG.imp (fun e=>e.symm) fun e=>⟨gg,rfl,by simp;omega⟩)
        have hF9:BF k W4 ve (.slice (some ⟨gg,0,none⟩) (m+1) gcap) (wg.setCell ⟨k,2,none⟩ (.slice (some ⟨gg,0,none⟩) (m+1) gcap)):=(HF.out.below hal2).acc hgrow (hatG.imp (fun e=>e.symm) fun e=>⟨gg,rfl,by simp;omega⟩) _ _
        have HD9:=Lib.hid hD9
        have HF9:=Lib.hid hF9
        clear hD9 hF9 hownG hgrow hatG hltG f1g c1g
        go_wp2_with fail
        go_roundw
        case rel=>exact⟨m+1,_,by go_num,by omega,HD9.out,HF9.out⟩
        case measure=>(simp[intOf];try omega)
      ·obtain rfl:m=xA.length:=by omega
       go_wp2_with fail
       first | exact HPo.out _ _ _ HD.out | (refine bodyPost_ret (results_none rfl _ _ _) rfl ?_;exact HPo.out _ _ _ HD.out)
end Go.Proofs.YthojpomoflhbcaaGreatDoor
namespace Go.Proofs.YthojpomoflhbcaaGreatDoor
open Go.RowKit
def Sm400 (e:EdgeD):Prop:=(∀ g∈e.guards,g.nodes.length≤400)∧∀ b∈e.sets,b.expr.nodes.length≤400
theorem Sm400.small {e:EdgeD} (h:Sm400 e):SmallEd e:=⟨fun g hg=>by have:=h.1 g hg;omega,fun b hb=>by have:=h.2 b hb;omega⟩
theorem sm_attach {l:List Int} {n:NfaD} {base:Int} (h:∀ e∈n.edges,Sm400 e):∀ e∈attachL l n base,Sm400 e:=fun e he=>by
 obtain⟨s,_,he⟩:=List.mem_flatMap.1 he
 obtain⟨f,hf,rfl⟩:=List.mem_map.1 he
 exact h f (List.mem_filter.1 hf).1
theorem sm_rest {n:NfaD} {base:Int} (h:∀ e∈n.edges,Sm400 e):∀ e∈restL n base,Sm400 e:=fun e he=>by
 obtain⟨f,hf,rfl⟩:=List.mem_map.1 he
 exact h f (List.mem_filter.1 hf).1
theorem sm_nil (f t:Int):SmallEd ⟨f,t,[],[]⟩:=⟨fun g hg=>(by cases hg),fun b hb=>(by cases hb)⟩
theorem delay_sm {lo hi:Int} {x y:NfaD} (hx:∀ e∈x.edges,Sm400 e) (hy:∀ e∈y.edges,Sm400 e):SmallN (delayN lo hi x y):=by
 intro e he
 simp only[delayN,List.mem_append] at he
 rcases he with ((((he | he) | he) | he) | he) | he
 ·exact(hx e he).small
 ·split at he
  ·rcases List.mem_append.1 he with he | he
   ·obtain⟨a,_,rfl⟩:=List.mem_map.1 he;exact sm_nil _ _
   ·obtain⟨i,_,rfl⟩:=List.mem_map.1 he;exact sm_nil _ _
  ·cases he
 ·split at he
  ·obtain⟨g,hg,he⟩:=List.mem_flatMap.1 he
   split at he
   ·obtain⟨f,hf,rfl⟩:=List.mem_map.1 he
    have h1:=hx g hg
    have h2:=hy f (List.mem_filter.1 hf).1
    refine⟨fun z hz=>?_,fun b hb=>?_⟩
    ·rcases List.mem_append.1 hz with hz | hz
     ·have:=h1.1 z hz;omega
     ·obtain⟨z0,hz0,rfl⟩:=List.mem_map.1 hz
      have:=undoS_nodes h1.2 g.sets.length z0 (by have:=h2.1 z0 hz0;omega)
      omega
    ·rcases List.mem_append.1 hb with hb | hb
     ·have:=h1.2 b hb;omega
     ·have:=h2.2 b hb;omega
   ·cases he
  ·cases he
 ·split at he
  ·exact(sm_attach hy e he).small
  ·cases he
 ·obtain⟨i,_,he⟩:=List.mem_flatMap.1 he
  split at he
  ·exact(sm_attach hy e he).small
  ·cases he
 ·exact(sm_rest hy e he).small
theorem rep_sm {lo hi:Int} {n:NfaD} (hn:∀ e∈n.edges,Sm400 e):SmallN (repN lo hi n):=by
 have:∀ c,∀ e∈repE n c,Sm400 e:=by
  intro c
  induction c with
  | zero=>intro e he;cases he
  | succ c ih =>
   cases c with
   | zero=>exact hn
   | succ c =>
    intro e he
    rw[repE] at he
    ·rcases List.mem_append.1 he with he | he
     ·rcases List.mem_append.1 he with he | he
      ·exact ih e he
      ·exact sm_attach hn e he
     ·exact sm_rest hn e he
    ·simp
 exact fun e he=>(this _ e he).small
theorem or_sm:∀ (ps:List NfaD) (out:NfaD),(∀ n∈ps,∀ e∈n.edges,Sm400 e)→SmallN out→SmallN (ps.foldl orOne out):=by
 intro ps
 induction ps with
 | nil=>intro out _ h;exact h
 | cons n ps ih =>
  intro out hp h1
  rw[List.foldl_cons]
  refine ih _ (fun m hm=>hp m (List.mem_cons_of_mem _ hm)) fun e he=>?_
  simp only[orOne,List.mem_append] at he
  rcases he with he | he
  ·exact h1 e he
  ·obtain⟨f,hf,rfl⟩:=List.mem_map.1 he
   have h:=(hp n (List.mem_cons_self ..) f hf).small
   exact⟨h.gs,h.ss⟩
theorem set_sm {n:NfaD} {nm:ByteArray} {x:Ex} (hn:∀ e∈n.edges,Sm400 e) (hx:x.nodes.length≤400):SmallN (setN nm x n):=by
 intro e he
 simp only[setN,List.mem_append] at he
 rcases he with he | he
 ·exact(hn e he).small
 ·obtain⟨f,hf,he⟩:=List.mem_filterMap.1 he
  split at he
  ·obtain rfl:=Option.some.inj he
   have h1:=hn f hf
   refine⟨fun g hg=>by have:=h1.1 g hg;omega,fun b hb=>?_⟩
   rcases List.mem_append.1 hb with hb | hb
   ·have:=h1.2 b hb;omega
   ·obtain rfl:=List.mem_singleton.1 hb;show x.nodes.length≤_;omega
  ·cases he
theorem hold_sm {n:NfaD} {x:Ex} (hn:∀ e∈n.edges,Sm400 e) (hx:x.nodes.length≤400):SmallN (holdN x n):=by
 intro e he
 obtain⟨f,hf,rfl⟩:=List.mem_map.1 he
 have h1:=hn f hf
 refine⟨fun g hg=>?_,fun b hb=>by have:=h1.2 b hb;omega⟩
 rcases List.mem_append.1 hg with hg | hg
 ·have:=h1.1 g hg;omega
 ·obtain rfl:=List.mem_singleton.1 hg;omega
theorem reg_400 {K:Nat} {n:NfaD} (h:RegN K n):∀ e∈n.edges,Sm400 e:=fun e he=>ok_small h.ok he
theorem bool_sm {x:Ex} (hx:x.nodes.length≤400):SmallN ⟨2,[⟨0,1,[x],[]⟩],[1]⟩:=fun e he=>by
 obtain rfl:=List.mem_singleton.1 he
 exact⟨fun g hg=>by obtain rfl:=List.mem_singleton.1 hg;omega,fun b hb=>by cases hb⟩
theorem own_one {w:World} {B g size:Nat} {t:TypeId} {vs:List Value} (hB:B≤g) (hl:vs.length=size) (h:w.heap[g]? = some (.cells vs.toArray t (0,0))):w.ownsRow B t size (.slice (some ⟨g,0,none⟩) 1 1) 1 vs :=
 ⟨by simpa using hl,.inr ⟨g,1,vs.toArray,rfl,hB,h,Nat.le_refl _,by unfold maxLen;omega,by simpa using hl,by simp[← hl]⟩⟩
theorem bool_bld {q:Nat→Bool} {wr W:World} {kb g1 g2 g3:Nat} {x:Ex} {xa:Option Addr} {xc:Nat} (hk:wr.heap.size≤kb) (h1:W.heap[g1]? = some (.cells #[.int .i64 x.op,.int .i64 x.n,.string x.name,.slice xa x.args.length xc] 24 (0,0)))
  (h2:W.heap[g2]? = some (.cells #[.int .i64 0,.int .i64 1,.slice (some ⟨g1,0,none⟩) 1 1,.slice none 0 0] 69 (0,0))) (h3:W.heap[g3]? = some (.cells #[.int .i64 1] 3 (0,0)))
  (hkb:W.heap[kb]? = some (.cells #[.int .i64 2,.slice (some ⟨g2,0,none⟩) 1 1,.slice (some ⟨g3,0,none⟩) 1 1,.bool false] 134 (0,0))) (hb:Below wr.heap.size wr W) (hx:ExIn (World.hide wr q) x xa xc) (hq:∀ j,q j=true→j < wr.heap.size) (hg:kb < g1∧g1 < g2∧g2 < g3) :
  BldP q kb wr ⟨2,[⟨0,1,[x],[]⟩],[1]⟩ (.returned (.tuple #[])) W:=by
 have hqo:∀ j,wr.heap.size≤j→q j=false:=fun j hj=>by
  cases h:q j with
  | false=>rfl
  | true=>have:=hq j h;omega
 have hqk:∀ j,j≠kb→wr.heap.size≤j→qk q kb j=false:=fun j hj hl=>by
  cases h:qk q kb j with
  | false=>rfl
  | true =>
   rcases qk_true.1 h with h | h
   ·rw[hqo j hl] at h;cases h
   ·exact absurd h hj
 have hk2:Kp (World.hide wr q) (World.hide W (hid (qk q kb) (.slice (some ⟨g2,0,none⟩) 1 1))):=hide_below hb fun j hj h=>by
  rcases hid_true.1 h with h | h
  ·rcases qk_true.1 h with h | h
   ·exact h
   ·omega
  ·have:=Option.some.inj h;simp only at this;omega
 refine⟨rfl,qk q kb,.slice (some ⟨g2,0,none⟩) 1 1,some ⟨g3,0,none⟩,1,fun j hj=>qk_true.2 (Or.inl hj),⟨hk,qk_true.2 (Or.inr rfl),hkb,⟨_,own_one (vs:=[.int .i64 0,.int .i64 1,.slice (some ⟨g1,0,none⟩) 1 1,.slice none 0 0]) (by omega) rfl h2,Enc.Vals.one ⟨some ⟨g1,0,none⟩,1,none,0,rfl,?_,Enc.In.nil _⟩⟩,hb⟩,?_⟩
 ·refine Enc.Vals.in (E:=exE) (Enc.Vals.one (E:=exE) (x:=x) ⟨xa,xc,rfl,hx.keep hk2⟩) (fun j v hj=>?_) (by simp) (Nat.le_refl _)
  refine cell_hide.2 ⟨?_,?_⟩
  ·show hid _ _ g1=false
   cases h:hid (qk q kb) (.slice (some ⟨g2,0,none⟩) 1 1) g1 with
   | false=>rfl
   | true =>
    rcases hid_true.1 h with h | h
    ·rw[hqk g1 (by omega) (by omega)] at h;cases h
    ·have:=Option.some.inj h;simp only at this;omega
  ·rw[cell_of_blkT h1,Nat.zero_add]
   simpa using hj
 ·refine⟨Nat.le_refl _,by simp,Or.inr ⟨g3,0,rfl,fun i hi=>?_⟩⟩
  have hi0:i=0:=by simpa using hi
  subst hi0
  refine⟨1,rfl,cell_hide.2 ⟨hqo _ (by show _≤g3;omega),?_⟩⟩
  rw[cell_of_blkT h3];rfl
end Go.Proofs.YthojpomoflhbcaaGreatDoor
