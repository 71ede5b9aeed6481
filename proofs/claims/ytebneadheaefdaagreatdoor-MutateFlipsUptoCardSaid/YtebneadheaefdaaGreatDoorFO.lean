/- law34, plain: the injected design runs as the design does, beside its counter. -/
import Derived.Test.YtebneadheaefdaaGreatDoorFC
import Derived.Test.YtebneadheaefdaaGreatDoorFK
import Derived.Test.YtebneadheaefdaaGreatDoorEI
import Derived.Test.YtebneadheaefdaaGreatDoorFJ
import Derived.Test.YtebneadheaefdaaGreatDoorFM
import Derived.Test.YtebneadheaefdaaGreatDoorDE
set_option linter.unusedSimpArgs false
set_option linter.unusedVariables false
set_option linter.unnecessarySimpa false
namespace Go.Proofs.YtebneadheaefdaaGreatDoor
theorem find_snoc (env:Sigs) (x:ByteArray × Int) {s:ByteArray} (h:(findS env s).isSome=true):findS (env++[x]) s=findS env s:=by
 induction env with
 | nil=>simp[findS] at h
 | cons y env ih =>
  rw[List.cons_append]
  unfold findS at h⊢
  by_cases e:(y.1.toList == s.toList)=true
  ·rw[if_pos e,if_pos e]
  ·rw[if_neg e,if_neg e]
   rw[if_neg e] at h
   exact ih h
theorem eval_snoc {d:DesD} (hd:DesOk d) {env:Sigs} (hn:env.map (·.1)=d.names) (x:ByteArray × Int) {e:Ex} (he:e∈d.exprs):evalS (env++[x]) e=evalS env e:=by
 obtain⟨_,h2,h3⟩:=hd.exprs e he
 exact evalS_agree h2 fun s hs=>find_snoc env x (findS_isSome (by rw[hn];exact h3 s hs))
theorem prgE_snoc (first:Nat) (nm:Nat→ByteArray) (val val':Sigs→Nat→Int) (x:ByteArray × Int) (N:List ByteArray) (os:List Nat) (h1:∀ i∈os,N[first+i]? = some (nm i)) (h2:∀ env i,env.map (·.1)=N→i∈os→val' (env++[x]) i=val env i) :
  ∀ start:Sigs,start.map (·.1)=N→prgE first nm val' (start++[x]) os=prgE first nm val start os++[x]:=by
 induction os with
 | nil=>intro start _;rfl
 | cons i os ih =>
  intro start hs
  have hi:=h1 i List.mem_cons_self
  have hlt:first+i < start.length:=by
   have:=(List.getElem?_eq_some_iff.1 hi).1
   rw[← hs] at this
   simpa using this
  have hset:(start++[x]).set (first+i) (nm i,val' (start++[x]) i)=start.set (first+i) (nm i,val start i)++[x]:=by
   rw[List.set_append_left _ _ hlt,h2 start i hs List.mem_cons_self]
  unfold prgE at ih⊢
  rw[List.foldl_cons,List.foldl_cons,hset]
  refine ih (fun j hj=>h1 j (List.mem_cons_of_mem _ hj)) (fun env j he hj=>h2 env j he (List.mem_cons_of_mem _ hj)) _ ?_
  rw[List.map_set,hs]
  refine List.ext_getElem? fun k=>?_
  rw[List.getElem?_set]
  split
  ·rename_i hk
   subst hk
   rw[if_pos (by have:=(List.getElem?_eq_some_iff.1 hi).1;exact this),hi]
  ·rfl
theorem zw_mod {α β γ:Type} (f:α→β→γ) (g:α→α) (hg:∀ a b,f (g a) b=f a b):∀ (l:List α) (i:Nat) (m:List β),List.zipWith f (l.modify i g) m=List.zipWith f l m:=by
 intro l
 induction l with
 | nil=>intro i m;cases i<;>rfl
 | cons a l ih =>
  intro i m
  cases m with
  | nil=>simp
  | cons b m =>
   cases i with
   | zero=>show f (g a) b::List.zipWith f l m=_;rw[hg];rfl
   | succ i=>show f a b::List.zipWith f (l.modify i g) m=_;rw[ih];rfl
theorem inj_start {d:DesD} {st:List Int} (inp:Sigs) (h:st.length=d.regs.length) (at':Nat) (cyc bit v:Int):startS (injD d at' cyc bit) (st++[v]) inp=startS d st inp++[(cntN d,v)]:=by
 unfold startS
 have h1:(injD d at' cyc bit).sts (st++[v])=d.sts st++[(cntN d,v)]:=by
  unfold DesD.sts injD
  simp only
  rw[List.zipWith_append (by rw[List.length_modify,h]),zw_mod (fun (r:RegD) (v:Int)=>(r.name,v)) (fun r=>{ r with next:=hitE (cntN d) cyc bit r.next }) (fun r b=>rfl)]
  rfl
 rw[h1,← List.append_assoc]
 rfl
theorem inj_settle {d:DesD} (hd:DesOk d) {st:List Int} (inp:Sigs) (h:st.length=d.regs.length) (at':Nat) (cyc bit v:Int):settleS (injD d at' cyc bit) (st++[v]) inp=settleS d st inp++[(cntN d,v)]:=by
 unfold settleS
 rw[inj_start inp h]
 refine prgE_snoc d.inputs.length (wireN d) (wireV d) _ (cntN d,v) d.names d.order (fun i hi=>?_) (fun env i he hi=>?_) _ (start_names inp h)
 ·rw[← start_names inp h]
  exact start_at inp h i (order_lt d i hi)
 ·have hw:=order_lt d i hi
  rw[wireV_at hw]
  show wireV (injD d at' cyc bit) (env++[(cntN d,v)]) i=_
  rw[wireV_at (d:=injD d at' cyc bit) (show i < (injD d at' cyc bit).wires.length from hw)]
  show cutW (evalS (env++[(cntN d,v)]) (d.wires[i]'hw).expr).1 (d.wires[i]'hw).width=_
  rw[eval_snoc hd he _ (wire_expr hw)]
theorem eval_val {env:Sigs} {e:Ex} (h:(evalS env e).2=0):(evalS env e).1=valueS env e:=by
 unfold evalS at h⊢
 split
 ·rename_i h1;rw[if_pos h1] at h;simp at h
 ·rename_i h1
  rw[if_neg h1] at h
  split
  ·rename_i h2;rw[if_pos h2] at h;simp at h
  ·rfl
theorem find_last {env:Sigs} {c:ByteArray} (v:Int) (h:c∉env.map (·.1)):findS (env++[(c,v)]) c=some (wrapW v):=by
 induction env with
 | nil =>
  show (if (c.toList == c.toList)=true then some (wrapW v) else findS [] c)=_
  rw[if_pos (by simp)]
 | cons y env ih =>
  simp only[List.map_cons,List.mem_cons,not_or] at h
  rw[List.cons_append]
  unfold findS
  rw[if_neg (fun e=>h.1 ?_),ih h.2]
  have e:=of_decide_eq_true (p:=y.1.toList=c.toList) (by simpa using e)
  rw[ByteArray.toList_eq,ByteArray.toList_eq] at e
  exact(ByteArray.ext (Array.toList_inj.1 e)).symm
theorem val_num (env:Sigs) (n:Int):valueS env (numE n)=n:=by rw[valueS_eq];rfl
theorem val_var (env:Sigs) (c:ByteArray):valueS env (varE c)=(findS env c).getD 0:=by rw[valueS_eq];rfl
theorem val_op (env:Sigs) (op n:Int) (nm:ByteArray) (args:List Ex) (h:op≠1∧op≠2∧op≠3∧op≠24):valueS env (.mk op n nm args)=operateS op (args.map (valueS env)):=by
 rw[valueS_eq]
 show (if op=1 then n else if op=2 then _ else if op=3 then _ else if op=24 then _ else operateS op (args.map (valueS env)))=_
 rw[if_neg h.1,if_neg h.2.1,if_neg h.2.2.1,if_neg h.2.2.2]
theorem val_two (env:Sigs) (op:Int) (a b:Ex) (h:7≤op∧op≤21):valueS env (twoE op a b)=doubleS op (valueS env a) (valueS env b):=by
 unfold twoE
 rw[val_op _ _ _ _ _ (by omega)]
 unfold operateS
 rw[if_neg (by omega),if_neg (by omega)]
 rfl
theorem val_hit (env:Sigs) (c:ByteArray) (cyc bit:Int) (old:Ex):valueS env (hitE c cyc bit old)=if (findS env c).getD 0=cyc then xorW (valueS env old) (2 ^ bit.toNat) else valueS env old:=by
 unfold hitE
 rw[val_op _ _ _ _ _ (by omega)]
 show (if valueS env (twoE 15 (varE c) (numE cyc))≠0 then valueS env (twoE 12 old (numE (2 ^ bit.toNat))) else valueS env old)=_
 rw[val_two _ _ _ _ (by omega),val_two _ _ _ _ (by omega),val_num,val_num,val_var]
 show (if truthS ((findS env c).getD 0 == cyc)≠0 then xorW (valueS env old) (2 ^ bit.toNat) else valueS env old)=_
 by_cases e:(findS env c).getD 0=cyc
 ·rw[if_pos e,if_pos]
  rw[e]
  simp[truthS]
 ·rw[if_neg e,if_neg]
  rw[beq_eq_false_iff_ne.2 e]
  simp[truthS]
theorem cnt_free (d:DesD):cntN d∉d.names:=(freeK_spec d.names).1
theorem inj_names (d:DesD) (at':Nat) (cyc bit:Int):(injD d at' cyc bit).names=d.names++[cntN d]:=by
 unfold DesD.names injD
 simp only[List.map_append,List.map_cons,List.map_nil]
 have:(d.regs.modify at' fun r=>{ r with next:=hitE (cntN d) cyc bit r.next }).map (·.name)=d.regs.map (·.name):=by
  refine List.ext_getElem? fun k=>?_
  rw[List.getElem?_map,List.getElem?_map,List.getElem?_modify]
  cases d.regs[k]? with
  | none=>simp
  | some r =>
   by_cases e:at'=k
   ·simp[e]
   ·simp[e]
 rw[this,← List.append_assoc]
def fltV (v cyc bit:Int) (at' k:Nat) (x:Int):Int:=if k=at'∧v=cyc then xorW x (2 ^ bit.toNat) else x
theorem inj_next {d:DesD} (hd:DesOk d) {at':Nat} {cyc bit:Int} (hb:DesOk (injD d at' cyc bit)) {env:Sigs} (hn:env.map (·.1)=d.names) {v:Int} (hv:0≤v∧v < 65535) :
  nextS (injD d at' cyc bit) (env++[(cntN d,v)])=(d.regs.zipIdx 0).map (fun p=>cutW (fltV v cyc bit at' p.2 (valueS env p.1.next)) p.1.width)++[v+1]:=by
 have hN:(env++[(cntN d,v)]).map (·.1)=(injD d at' cyc bit).names:=by rw[inj_names,List.map_append,hn];rfl
 have hf:findS (env++[(cntN d,v)]) (cntN d)=some (wrapW v):=find_last v (by rw[hn];exact cnt_free d)
 have hw:wrapW v=v:=by unfold wrapW;omega
 have hok:∀ r∈(injD d at' cyc bit).regs,(evalS (env++[(cntN d,v)]) r.next).1=valueS (env++[(cntN d,v)]) r.next:=fun r hr =>
  eval_val (eval_ok hb hN (by unfold DesD.exprs;exact List.mem_append_right _ (List.mem_map.2 ⟨r,hr,rfl⟩)))
 have hold:∀ r∈d.regs,valueS (env++[(cntN d,v)]) r.next=valueS env r.next:=fun r hr=>by
  obtain⟨_,h2,h3⟩:=hd.exprs r.next (by unfold DesD.exprs;exact List.mem_append_right _ (List.mem_map.2 ⟨r,hr,rfl⟩))
  refine valueS_agree r.next h2 fun x hx h=>?_
  exact find_snoc env _ (findS_isSome (by rw[hn];exact h3 _ (names2_mem hx h)))
 have h1:nextS (injD d at' cyc bit) (env++[(cntN d,v)])=(injD d at' cyc bit).regs.map fun r=>cutW (valueS (env++[(cntN d,v)]) r.next) r.width:=by
  unfold nextS
  exact List.map_congr_left fun r hr=>by rw[hok r hr]
 rw[h1]
 unfold injD
 simp only[List.map_append,List.map_cons,List.map_nil]
 congr 1
 ·refine List.ext_getElem? fun k=>?_
  rw[List.getElem?_map,List.getElem?_map,List.getElem?_modify,List.getElem?_zipIdx]
  cases hk:d.regs[k]? with
  | none=>simp
  | some r =>
   have hr:r∈d.regs:=List.mem_of_getElem? hk
   by_cases e:at'=k
   ·subst e
    simp only[if_true,Option.map_some,Nat.zero_add]
    show some (cutW (valueS (env++[(cntN d,v)]) (hitE (cntN d) cyc bit r.next)) r.width)=_
    rw[val_hit,hf,Option.getD_some,hw,hold r hr]
    unfold fltV
    by_cases e2:v=cyc
    ·rw[if_pos e2,if_pos ⟨rfl,e2⟩]
    ·rw[if_neg e2,if_neg (fun h=>e2 h.2)]
   ·simp only[if_neg e,Option.map_some,Nat.zero_add,id_eq]
    show some (cutW (valueS (env++[(cntN d,v)]) r.next) r.width)=_
    rw[hold r hr]
    unfold fltV
    rw[if_neg (fun h=>e h.1.symm)]
 ·rw[val_two _ _ _ _ (by omega),val_num,val_var,hf,Option.getD_some,hw]
  show [cutW ((v+1) % 65536) 16]=[v+1]
  unfold cutW wrapW
  have:(2:Int) ^ (16:Int).toNat=65536:=by decide
  rw[this]
  congr 1
  omega
end Go.Proofs.YtebneadheaefdaaGreatDoor
namespace Go.Proofs.YtebneadheaefdaaGreatDoor
theorem next_val {d:DesD} (hd:DesOk d) {env:Sigs} (hn:env.map (·.1)=d.names):nextS d env=d.regs.map fun r=>cutW (valueS env r.next) r.width:=by
 unfold nextS
 exact List.map_congr_left fun r hr=>by rw[eval_val (eval_ok hd hn (by unfold DesD.exprs;exact List.mem_append_right _ (List.mem_map.2 ⟨r,hr,rfl⟩)))]
theorem flt_none {d:DesD} (hd:DesOk d) {env:Sigs} (hn:env.map (·.1)=d.names) {v cyc bit:Int} {at':Nat} (h:v≠cyc):(d.regs.zipIdx 0).map (fun p=>cutW (fltV v cyc bit at' p.2 (valueS env p.1.next)) p.1.width)=nextS d env:=by
 rw[next_val hd hn]
 refine List.ext_getElem? fun k=>?_
 rw[List.getElem?_map,List.getElem?_map,List.getElem?_zipIdx]
 cases d.regs[k]? with
 | none=>rfl
 | some r =>
  show some (cutW (fltV v cyc bit at' _ (valueS env r.next)) r.width)=some (cutW (valueS env r.next) r.width)
  unfold fltV
  rw[if_neg (fun e=>h e.2)]
theorem inj_inits (d:DesD) (at':Nat) (cyc bit:Int):(injD d at' cyc bit).inits=d.inits++[0]:=by
 unfold DesD.inits injD
 simp only[List.map_append,List.map_cons,List.map_nil]
 congr 1
 refine List.ext_getElem? fun k=>?_
 rw[List.getElem?_map,List.getElem?_map,List.getElem?_modify]
 cases d.regs[k]? with
 | none=>simp
 | some r =>
  by_cases e:at'=k
  ·simp[e]
  ·simp[e]
theorem inj_state {d:DesD} (hd:DesOk d) {at':Nat} {cyc bit:Int} (hb:DesOk (injD d at' cyc bit)) (hc:cyc < 65535) (rows:List Sigs):∀ t:Nat,(t:Int)≤cyc→stN (injD d at' cyc bit) rows t=stN d rows t++[(t:Int)]:=by
 intro t
 induction t with
 | zero=>intro _;exact inj_inits d at' cyc bit
 | succ t ih =>
  intro ht
  have h1:=ih (by omega)
  show nextS (injD d at' cyc bit) (settleS (injD d at' cyc bit) (stN (injD d at' cyc bit) rows t) (rows.getD t []))=nextS d (settleS d (stN d rows t) (rows.getD t []))++_
  rw[h1,inj_settle hd _ (stN_len rows t),inj_next hd hb (settle_names _ (stN_len rows t)) (by omega),flt_none hd (settle_names _ (stN_len rows t)) (by omega)]
  congr 1
theorem inj_fault {d:DesD} (hd:DesOk d) {at':Nat} {cyc:Nat} {bit:Int} (hb:DesOk (injD d at' cyc bit)) (hc:(cyc:Int) < 65535) (rows:List Sigs) :
  stN (injD d at' cyc bit) rows (cyc+1)=((d.regs.zipIdx 0).map fun p=>cutW (fltV cyc cyc bit at' p.2 (valueS (settleS d (stN d rows cyc) (rows.getD cyc [])) p.1.next)) p.1.width)++[(cyc:Int)+1]:=by
 show nextS (injD d at' cyc bit) (settleS (injD d at' cyc bit) (stN (injD d at' cyc bit) rows cyc) (rows.getD cyc []))=_
 rw[inj_state hd hb hc rows cyc (Int.le_refl _),inj_settle hd _ (stN_len rows cyc),inj_next hd hb (settle_names _ (stN_len rows cyc)) (by omega)]
theorem inj_row {d:DesD} (hd:DesOk d) {at':Nat} {cyc bit:Int} (hb:DesOk (injD d at' cyc bit)) (hc:cyc < 65535) (rows:List Sigs) (t:Nat) (ht:(t:Int)≤cyc):rowN (injD d at' cyc bit) rows t=rowN d rows t++[(t:Int)]:=by
 unfold rowN
 rw[inj_state hd hb hc rows t ht,inj_settle hd _ (stN_len rows t),List.map_append]
 rfl
theorem prgE_other (first:Nat) (nm:Nat→ByteArray) (val:Sigs→Nat→Int) (os:List Nat) (j:Nat) (h:∀ i∈os,first+i≠j):∀ start:Sigs,(prgE first nm val start os)[j]? = start[j]?:=by
 induction os with
 | nil=>intro start;rfl
 | cons i os ih =>
  intro start
  have h1:=ih (fun k hk=>h k (List.mem_cons_of_mem _ hk)) (start.set (first+i) (nm i,val start i))
  unfold prgE at h1⊢
  rw[List.foldl_cons,h1,List.getElem?_set_ne (h i List.mem_cons_self)]
theorem settle_reg {d:DesD} {st:List Int} (inp:Sigs) (h:st.length=d.regs.length) (k:Nat) (hk:k < d.regs.length):((settleS d st inp).map (·.2))[d.inputs.length+d.wires.length+k]? = st[k]?:=by
 unfold settleS
 rw[List.getElem?_map,prgE_other _ _ _ _ _ (fun i hi=>by have:=order_lt d i hi;omega)]
 unfold startS
 have hl:(d.ins inp++d.wires.map fun w=>(w.name,(0:Int))).length=d.inputs.length+d.wires.length:=by simp[DesD.ins]
 rw[List.getElem?_append_right (by omega),hl]
 unfold DesD.sts
 rw[show d.inputs.length+d.wires.length+k - (d.inputs.length+d.wires.length)=k by omega,List.getElem?_zipWith]
 rw[List.getElem?_eq_getElem hk,List.getElem?_eq_getElem (by omega:k < st.length)]
 rfl
theorem xor_cut {x bit w:Nat} (h:bit < w):(x ^^^ 2 ^ bit) % 2 ^ w=(x % 2 ^ w) ^^^ 2 ^ bit:=by
 rw[Nat.xor_mod_two_pow,Nat.mod_eq_of_lt (Nat.pow_lt_pow_right (by decide) h)]
theorem cut_flip {x bit w:Int} (hx:0≤x∧x < 65536) (hb:0≤bit∧bit < w) (hw:w≤16):cutW (xorW x (2 ^ bit.toNat)) w=xorW (cutW x w) (2 ^ bit.toNat):=by
 obtain⟨n,rfl⟩:=Int.eq_ofNat_of_zero_le hx.1
 obtain⟨b,rfl⟩:=Int.eq_ofNat_of_zero_le hb.1
 obtain⟨k,rfl⟩:=Int.eq_ofNat_of_zero_le (show 0≤w by omega)
 have h1:(n ^^^ 2 ^ b) < 2 ^ 16:=Nat.xor_lt_two_pow (by omega) (Nat.pow_lt_pow_right (by decide) (by omega))
 have h2:((2:Int) ^ (b:Int).toNat).toNat=2 ^ b:=by rw[Int.toNat_natCast];exact_mod_cast rfl
 unfold cutW wrapW xorW
 rw[h2,Int.toNat_natCast,Int.toNat_natCast]
 have e1:(((n ^^^ 2 ^ b:Nat):Int)) % 65536=((n ^^^ 2 ^ b:Nat):Int):=by omega
 have e2:((n:Int)) % 65536=(n:Int):=by omega
 rw[e1,e2]
 have e3:((n:Int) % 2 ^ k).toNat=n % 2 ^ k:=by exact_mod_cast rfl
 have e4:((n ^^^ 2 ^ b:Nat):Int) % 2 ^ k=(((n ^^^ 2 ^ b) % 2 ^ k:Nat):Int):=by exact_mod_cast rfl
 rw[e3,e4,xor_cut (by omega)]
end Go.Proofs.YtebneadheaefdaaGreatDoor
namespace Go.Proofs.YtebneadheaefdaaGreatDoor
theorem flip_row {d:DesD} (hd:DesOk d) {at' cyc:Nat} {bit:Int} (hb:DesOk (injD d at' cyc bit)) (hc:(cyc:Int) < 65535) (ha:at' < d.regs.length) (hbit:0≤bit∧bit < (d.regs[at']'ha).width) (rows:List Sigs) :
  ∃ v,(rowN d rows (cyc+1))[d.inputs.length+d.wires.length+at']? = some v∧(rowN (injD d at' cyc bit) rows (cyc+1))[d.inputs.length+d.wires.length+at']? = some (xorW v (2 ^ bit.toNat)):=by
 have hw:=reg_width hd (List.getElem_mem ha)
 have hn:=settle_names (d:=d) (rows.getD cyc []) (stN_len rows cyc)
 have hv:Rng (valueS (settleS d (stN d rows cyc) (rows.getD cyc [])) (d.regs[at']'ha).next):=rng_value _ _ (valid_ok (hd.exprs _ (reg_expr ha)).1)
 refine⟨cutW (valueS (settleS d (stN d rows cyc) (rows.getD cyc [])) (d.regs[at']'ha).next) (d.regs[at']'ha).width,?_,?_⟩
 ·unfold rowN
  rw[settle_reg _ (stN_len rows (cyc+1)) at' ha]
  show (nextS d (settleS d (stN d rows cyc) (rows.getD cyc [])))[at']? = _
  rw[next_val hd hn,List.getElem?_map,List.getElem?_eq_getElem ha]
  rfl
 ·have hlB:at' < (injD d at' cyc bit).regs.length:=by
   unfold injD
   simp only[List.length_append,List.length_modify]
   omega
  unfold rowN
  have:=settle_reg (d:=injD d at' cyc bit) (rows.getD (cyc+1) []) (stN_len rows (cyc+1)) at' hlB
  rw[show (injD d at' cyc bit).inputs=d.inputs from rfl,show (injD d at' cyc bit).wires=d.wires from rfl] at this
  rw[this,inj_fault hd hb hc rows,List.getElem?_append_left (by simp;omega),List.getElem?_map,List.getElem?_zipIdx,List.getElem?_eq_getElem ha,← cut_flip hv ⟨hbit.1,hbit.2⟩ hw.2]
  show some (cutW (fltV cyc cyc bit at' (0+at') (valueS (settleS d (stN d rows cyc) (rows.getD cyc [])) (d.regs[at']'ha).next)) (d.regs[at']'ha).width)=_
  unfold fltV
  rw[if_pos ⟨by omega,rfl⟩]
theorem inj_col {d:DesD} (hd:DesOk d) (at':Nat) (cyc bit:Int) (i:Nat) (hi:i < d.names.length):idxT (injD d at' cyc bit).names (d.names[i]'hi)=some i:=by
 have h:∀ (l m:List ByteArray) (s:ByteArray) (k:Nat),idxT l s=some k→idxT (l++m) s=some k:=by
  intro l
  induction l with
  | nil=>intro m s k h;simp[idxT] at h
  | cons x l ih =>
   intro m s k h
   rw[List.cons_append]
   unfold idxT at h⊢
   by_cases e:x.toList=s.toList
   ·rw[if_pos e] at h⊢;exact h
   ·rw[if_neg e] at h⊢
    rw[Option.map_eq_some_iff] at h⊢
    obtain⟨j,hj,rfl⟩:=h
    exact⟨j,ih m s j hj,rfl⟩
 rw[inj_names]
 exact h _ _ _ _ (idxT_at hd.names hi)
end Go.Proofs.YtebneadheaefdaaGreatDoor
namespace Go.Proofs.YtebneadheaefdaaGreatDoor
def isReg (nm:ByteArray) (r:RegD):Bool:=r.name.toList == nm.toList
def regI (d:DesD) (nm:ByteArray):Int:=idxP (isReg nm) d.regs 0
noncomputable def injA (d:DesD) (nm:ByteArray) (cyc bit:Int):DesD × Int:=open Classical in
 if d.err≠0 then (zD,d.err)
 else if h:∃ k:Nat,regI d nm=k∧k < d.regs.length then
  (if cyc < 0∨4096≤cyc∨bit < 0∨(d.regs[h.choose]'h.choose_spec.2).width≤bit then (zD,1) else if (injD d h.choose cyc bit).err=0 then (injD d h.choose cyc bit,0) else (zD,2))
 else (zD,7)
theorem injA_err {d:DesD} (nm:ByteArray) (cyc bit:Int) (h:¬ d.err=0):injA d nm cyc bit=(zD,d.err):=if_pos h
theorem injA_none {d:DesD} {nm:ByteArray} (cyc bit:Int) (h:d.err=0) (h1:regI d nm=-1):injA d nm cyc bit=(zD,7):=by
 unfold injA
 rw[if_neg (by simpa using h),dif_neg]
 rintro ⟨k,hk,_⟩
 omega
theorem injA_at {d:DesD} {nm:ByteArray} (cyc bit:Int) (h:d.err=0) {k:Nat} (h1:regI d nm=k) (hk:k < d.regs.length) :
  injA d nm cyc bit=if cyc < 0∨4096≤cyc∨bit < 0∨(d.regs[k]'hk).width≤bit then (zD,1) else if (injD d k cyc bit).err=0 then (injD d k cyc bit,0) else (zD,2):=by
 have hx:∃ k:Nat,regI d nm=k∧k < d.regs.length:=⟨k,h1,hk⟩
 have e:hx.choose=k:=by have:=hx.choose_spec.1;omega
 unfold injA
 rw[if_neg (by simpa using h),dif_pos hx]
 simp only[e]
theorem injA_arg {d:DesD} {nm:ByteArray} {cyc bit:Int} (h:d.err=0) {k:Nat} (h1:regI d nm=k) (hk:k < d.regs.length) (h2:cyc < 0∨4096≤cyc∨bit < 0∨(d.regs[k]'hk).width≤bit):injA d nm cyc bit=(zD,1):=by
 rw[injA_at cyc bit h h1 hk,if_pos h2]
theorem injA_lim {d:DesD} {nm:ByteArray} {cyc bit:Int} (h:d.err=0) {k:Nat} (h1:regI d nm=k) (hk:k < d.regs.length) (h2:¬ (cyc < 0∨4096≤cyc∨bit < 0∨(d.regs[k]'hk).width≤bit)) (h3:¬ (injD d k cyc bit).err=0):injA d nm cyc bit=(zD,2):=by
 rw[injA_at cyc bit h h1 hk,if_neg h2,if_neg h3]
theorem injA_ok {d:DesD} {nm:ByteArray} {cyc bit:Int} (h:d.err=0) {k:Nat} (h1:regI d nm=k) (hk:k < d.regs.length) (h2:¬ (cyc < 0∨4096≤cyc∨bit < 0∨(d.regs[k]'hk).width≤bit)) (h3:(injD d k cyc bit).err=0):injA d nm cyc bit=(injD d k cyc bit,0):=by
 rw[injA_at cyc bit h h1 hk,if_neg h2,if_pos h3]
theorem injA_inv {d:DesD} {nm:ByteArray} {cyc bit:Int} (h:(injA d nm cyc bit).2=0):d.err=0∧∃ (k:Nat) (hk:k < d.regs.length),regI d nm=k∧0≤cyc∧cyc < 4096∧0≤bit∧bit < (d.regs[k]'hk).width∧(injD d k cyc bit).err=0∧injA d nm cyc bit=(injD d k cyc bit,0):=by
 by_cases he:d.err=0
 ·refine⟨he,?_⟩
  rcases idxP_cases (isReg nm) d.regs with ⟨h1,_⟩ | ⟨k,hk,h1,_⟩
  ·rw[injA_none cyc bit he h1] at h
   simp at h
  ·by_cases h2:cyc < 0∨4096≤cyc∨bit < 0∨(d.regs[k]'hk).width≤bit
   ·rw[injA_arg he h1 hk h2] at h
    simp at h
   ·by_cases h3:(injD d k cyc bit).err=0
    ·exact⟨k,hk,h1,by omega,by omega,by omega,by omega,h3,injA_ok he h1 hk h2 h3⟩
    ·rw[injA_lim he h1 hk h2 h3] at h
     simp at h
 ·rw[injA_err nm cyc bit he] at h
  exact absurd h he
theorem isReg_iff {nm:ByteArray} {r:RegD}:isReg nm r=true↔r.name=nm:=by
 unfold isReg
 rw[beq_iff_eq,bytes_toList]
theorem cnt_size {d:DesD} (h:d.names.length≤65535):(cntN d).size≤70000:=by
 have h1:=(freeK_spec d.names).2.2
 unfold cntN
 generalize freeK d.names=k at h1
 cases k with
 | zero=>decide
 | succ k =>
  have h2:=fmt_len k
  show (kFault++fmtS k).size≤_
  rw[ByteArray.size_append]
  have h3:kFault.size=5:=rfl
  omega
theorem nodes_twoJ (op:Int) (a b:Ex):(twoE op a b).nodes.length=1+a.nodes.length+b.nodes.length:=by
 rw[Ex.nodes_eq]
 simp[twoE,Ex.args_mk]
 omega
theorem nodes_num (n:Int):(numE n).nodes.length=1:=by rw[Ex.nodes_eq];simp[numE,Ex.args_mk]
theorem nodes_var (s:ByteArray):(varE s).nodes.length=1:=by rw[Ex.nodes_eq];simp[varE,Ex.args_mk]
theorem nodes_hit (c:ByteArray) (cyc bit:Int) (old:Ex):(hitE c cyc bit old).nodes.length=6+2 * old.nodes.length:=by
 rw[Ex.nodes_eq]
 simp[hitE,Ex.args_mk,nodes_twoJ,nodes_num,nodes_var]
 omega
theorem inj_exprs {d:DesD} {k:Nat} (cyc bit:Int) {e:Ex} (he:e∈(injD d k cyc bit).exprs):e∈d.exprs∨(∃ r∈d.regs,e=hitE (cntN d) cyc bit r.next)∨e=twoE 7 (varE (cntN d)) (numE 1):=by
 unfold DesD.exprs at he⊢
 rcases List.mem_append.1 he with h | h
 ·exact Or.inl (List.mem_append_left _ h)
 ·obtain⟨r,hr,rfl⟩:=List.mem_map.1 h
  rcases List.mem_append.1 hr with hr | hr
  ·obtain⟨j,hj,rfl⟩:=List.mem_iff_getElem.1 hr
   have hj':j < d.regs.length:=by simpa using hj
   rw[List.getElem_modify]
   split
   ·exact Or.inr (Or.inl ⟨_,List.getElem_mem hj',rfl⟩)
   ·exact Or.inl (List.mem_append_right _ (List.mem_map.2 ⟨_,List.getElem_mem hj',rfl⟩))
  ·obtain rfl:=List.mem_singleton.1 hr
   exact Or.inr (Or.inr rfl)
theorem inj_small {d:DesD} (he:d.err=0) (hs:DesSmall d) (k:Nat) (cyc bit:Int):DesSmall (injD d k cyc bit):=by
 have hn:d.names.length≤48:=(desOk_of_err he).len
 have hc:=cnt_size (d:=d) (by omega)
 have h400:=expr_400 he
 refine⟨hs.nm,?_,?_,?_⟩
 ·rw[inj_names]
  intro s h
  rcases List.mem_append.1 h with h | h
  ·exact hs.names s h
  ·obtain rfl:=List.mem_singleton.1 h
   omega
 ·intro e h
  rcases inj_exprs cyc bit h with h | ⟨r,hr,rfl⟩ | rfl
  ·exact hs.exprs e h
  ·rw[nodes_hit]
   have:=h400 r.next (by unfold DesD.exprs;exact List.mem_append_right _ (List.mem_map.2 ⟨r,hr,rfl⟩))
   omega
  ·rw[nodes_twoJ,nodes_var,nodes_num]
   omega
 ·have h48:=sum_48 he
  refine⟨hs.len.1,hs.len.2.1,?_,hs.len.2.2.2⟩
  show ((d.regs.modify k _)++[_]).length≤_
  rw[List.length_append,List.length_modify,List.length_singleton]
  omega
end Go.Proofs.YtebneadheaefdaaGreatDoor
namespace Go.Proofs.YtebneadheaefdaaGreatDoor
open Go.RowKit
attribute [local go_sem ↓] Go.wp_at_zero Go.wp_at_succ
set_option maxRecDepth 100000 in
set_option maxHeartbeats 1000000 in
theorem indexFunc_inj (c:Nat) (p:RegD→Bool) (l:List RegD) (a:Option Addr) (cap:Nat) (w0 w:World) (hE:RegsIn w l a cap)
  (hf:∀ (v:RegD),v∈l→∀ (ae:Option Addr) (ce:Nat),∀ (w':World),Below w.heap.size w w'→Calls Tryz.prog 64 #[.agg #[.string v.name,.int .i64 v.width,.int .i64 v.init,.int .i64 v.next.op,.int .i64 v.next.n,.string v.next.name,.slice ae v.next.args.length ce],.pointer (some ⟨c,0,none⟩)] w' fun e w2=>e=.returned (.bool (p v))∧Below w'.heap.size w' w2) :
  Calls Tryz.prog 63 #[.slice a l.length cap,.func (.func 64) #[] #[.pointer (some ⟨c,0,none⟩)]] w fun e w'=>e=.returned (.int .i64 (idxP p l 0))∧Below w.heap.size w w':=by
 have hlen:=hE.2.1
 have HA:=Lib.hid hE.addr
 have HE:=Lib.hid hE
 have HF:=Lib.hid hf
 clear hE hf
 go_enter Tryz.func63, Tryz.ntmps63
 go_wp2_with fail
 go_loopw [8] (fun i wr=>∃ k:Nat,i=.int .i64 k∧k≤l.length∧(∀ j (hj:j < l.length),j < k→p (l[j]'hj)=false)∧Below w.heap.size w wr) (fun i _=>l.length - (intOf i).toNat)
 case atStart=>exact⟨0,rfl,Nat.zero_le _,fun _ _ h=>absurd h (by omega),Below.refl _ _⟩
 case round =>
  obtain⟨k,rfl,hk,hall,hBr⟩:=hrel
  have HAl:=Lib.hid hall
  have HB:=Lib.hid hBr
  clear hall
  by_cases hlt:k < l.length
  ·obtain⟨b,off,ha⟩:=HA.out.resolve_left (by omega)
   subst ha
   obtain⟨ae,ce,c0,c1,c2,c3,c4,c5,c6,_⟩:=(HE.out.keep (keeps_of_below hBr)).get rfl hlt
   have HC:=Lib.hid ((HF.out (l[k]'hlt) (List.getElem_mem hlt) ae ce wr hBr).mono fun e w2 h=>(⟨h.1,hBr.trans (h.2.mono hBr.size)⟩:_∧Below w.heap.size w w2))
   clear hBr
   cases he:p (l[k]'hlt)
   ·go_wp2_with fail
    refine HC.out.mono ?_
    rintro e w2 ⟨rfl,hb2⟩
    rw[he]
    have HB2:=Lib.hid hb2
    clear hb2
    (try clear c0);(try clear c1);(try clear c2);(try clear c3);(try clear c4);(try clear c5);(try clear c6)
    go_wp2_with fail
    go_roundw
    case rel=>exact⟨k+1,by go_num,by omega,fun j hj hjk=>by
     by_cases e:j=k
     ·subst e;exact he
     ·exact HAl.out j hj (by omega),HB2.out⟩
    case measure=>simp[intOf];omega
   ·have HY:=Lib.hid (idxP_at p l k 0 hlt (fun j hj=>HAl.out j (by omega) hj) he)
    go_wp2_with fail
    refine HC.out.mono ?_
    rintro e w2 ⟨rfl,hb2⟩
    rw[he]
    have HB2:=Lib.hid hb2
    clear hb2
    (try clear c0);(try clear c1);(try clear c2);(try clear c3);(try clear c4);(try clear c5);(try clear c6)
    go_wp2_with fail
    go_ret
    exact⟨by rw[HY.out];rfl,HB2.out⟩
  ·obtain rfl:k=l.length:=by omega
   have HN:=Lib.hid (idxP_none p l 0 (fun j hj=>HAl.out j hj hj))
   go_wp2_with fail
   go_ret
   exact⟨by rw[HN.out];rfl,HB.out⟩
end Go.Proofs.YtebneadheaefdaaGreatDoor
namespace Go.Proofs.YtebneadheaefdaaGreatDoor
open Go.RowKit
attribute [local go_sem ↓] Go.wp_at_zero Go.wp_at_succ
def ExPost (p:Nat→Bool) (w:World) (e:Ex) (r:Ending) (w':World):Prop:=(∃ a c,r=.returned (exVal e a c)∧ExIn (World.hide w' p) e a c)∧Below w.heap.size w w'
theorem two_row {W:World} {p:Nat→Bool} {x y:Ex} {xa ya:Option Addr} {xc yc g:Nat}
  (hg:W.heap[g]? = some (.cells #[.int .i64 x.op,.int .i64 x.n,.string x.name,.slice xa x.args.length xc,.int .i64 y.op,.int .i64 y.n,.string y.name,.slice ya y.args.length yc] 72 (0,0)))
  (pg:p g=false) (Hx:ExIn (World.hide W p) x xa xc) (Hy:ExIn (World.hide W p) y ya yc):ExsIn (World.hide W p) [x,y] (some ⟨g,0,none⟩) 2:=by
 have C:=fun o v (h:W.cell? ⟨g,o,none⟩=some v)=>cell_hide.2 ⟨pg,h⟩
 refine⟨by show 2≤2;omega,by show 2≤_;omega,Or.inr ⟨g,0,rfl,fun i hi=>?_⟩⟩
 have hi:i < 2:=hi
 have hc:=cell_of_blk hg
 obtain rfl | rfl:i=0∨i=1:=by omega
 ·exact⟨x,rfl,(ExAt_iff _ _ _ _).2 ⟨xa,xc,C _ _ (hc 0),C _ _ (hc 1),C _ _ (hc 2),C _ _ (hc 3),Hx⟩⟩
 ·exact⟨y,rfl,(ExAt_iff _ _ _ _).2 ⟨ya,yc,C _ _ (hc 4),C _ _ (hc 5),C _ _ (hc 6),C _ _ (hc 7),Hy⟩⟩
theorem three_row {W:World} {p:Nat→Bool} {x y z:Ex} {xa ya za:Option Addr} {xc yc zc g:Nat}
  (hg:W.heap[g]? = some (.cells #[.int .i64 x.op,.int .i64 x.n,.string x.name,.slice xa x.args.length xc,.int .i64 y.op,.int .i64 y.n,.string y.name,.slice ya y.args.length yc,.int .i64 z.op,.int .i64 z.n,.string z.name,.slice za z.args.length zc] 72 (0,0)))
  (pg:p g=false) (Hx:ExIn (World.hide W p) x xa xc) (Hy:ExIn (World.hide W p) y ya yc) (Hz:ExIn (World.hide W p) z za zc):ExsIn (World.hide W p) [x,y,z] (some ⟨g,0,none⟩) 3:=by
 have C:=fun o v (h:W.cell? ⟨g,o,none⟩=some v)=>cell_hide.2 ⟨pg,h⟩
 refine⟨by show 3≤3;omega,by show 3≤_;omega,Or.inr ⟨g,0,rfl,fun i hi=>?_⟩⟩
 have hi:i < 3:=hi
 have hc:=cell_of_blk hg
 obtain rfl | rfl | rfl:i=0∨i=1∨i=2:=by omega
 ·exact⟨x,rfl,(ExAt_iff _ _ _ _).2 ⟨xa,xc,C _ _ (hc 0),C _ _ (hc 1),C _ _ (hc 2),C _ _ (hc 3),Hx⟩⟩
 ·exact⟨y,rfl,(ExAt_iff _ _ _ _).2 ⟨ya,yc,C _ _ (hc 4),C _ _ (hc 5),C _ _ (hc 6),C _ _ (hc 7),Hy⟩⟩
 ·exact⟨z,rfl,(ExAt_iff _ _ _ _).2 ⟨za,zc,C _ _ (hc 8),C _ _ (hc 9),C _ _ (hc 10),C _ _ (hc 11),Hz⟩⟩
theorem exIn_leafM {H:World} {op n:Int} {s:ByteArray} (hs:s.size≤1073741824):ExIn H (.mk op n s []) none 0:=⟨hs,Nat.le_refl _,Nat.zero_le _,Or.inl rfl⟩
theorem numM_res (W:World) (tm:Array Value) (b:Nat) (m0 m1 m2 m3:Value) (hW:W.heap[b]? = some (.cells #[m0,m1,m2,m3] 72 (0,0))) (h0:tm.getD 2 undef=.pointer (some ⟨b,0,none⟩)) :
  (results Tryz.f68 tm).run Tryz.prog W=.ok (.agg #[m0,m1,m2,m3]) W:=by
 have hr : Tryz.f68.results=#[.cell 2 72]:=rfl
 obtain⟨c0,c1,c2,c3,_⟩:=cell4 hW
 rw[results_cellC hr,h0]
 simp[asAddr]
 go_simp
set_option maxHeartbeats 2000000 in
set_option maxRecDepth 100000 in
theorem numM_any (n:Int) (w:World):Calls Tryz.prog 68 #[.int .i64 n] w fun r w'=>r=.returned (.agg #[.int .i64 1,.int .i64 n,.string ⟨#[]⟩,.slice none 0 0])∧Below w.heap.size w w':=by
 go_enter Tryz.func68, Tryz.ntmps68
 go_wp2_with fail
 refine bodyPost_ret (v:=.agg #[.int .i64 1,.int .i64 n,.string ⟨#[]⟩,.slice none 0 0]) (numM_res _ _ w.heap.size _ _ _ _ (hx_new rfl) rfl) rfl ?_
 exact⟨rfl,belr⟩
theorem twoM_res (W:World) (tm:Array Value) (b:Nat) (m0 m1 m2 m3:Value) (hW:W.heap[b]? = some (.cells #[m0,m1,m2,m3] 72 (0,0))) (h0:tm.getD 6 undef=.pointer (some ⟨b,0,none⟩)) :
  (results Tryz.f67 tm).run Tryz.prog W=.ok (.agg #[m0,m1,m2,m3]) W:=by
 have hr : Tryz.f67.results=#[.cell 6 72]:=rfl
 obtain⟨c0,c1,c2,c3,_⟩:=cell4 hW
 rw[results_cellC hr,h0]
 simp[asAddr]
 go_simp
set_option maxHeartbeats 4000000 in
set_option maxRecDepth 100000 in
theorem twoM_any (p:Nat→Bool) (op:Int) (a b:Ex) (aa ba:Option Addr) (ac bc:Nat) (w:World) (hp:∀ k,p k=true→k < w.heap.size) (hA:ExIn (World.hide w p) a aa ac) (hB:ExIn (World.hide w p) b ba bc) :
  Calls Tryz.prog 67 #[.int .i64 op,exVal a aa ac,exVal b ba bc] w (ExPost p w (twoE op a b)):=by
 have HP:Hid (∀ g W,W.heap[g]? = some (.cells #[.int .i64 a.op,.int .i64 a.n,.string a.name,.slice aa a.args.length ac,.int .i64 b.op,.int .i64 b.n,.string b.name,.slice ba b.args.length bc] 72 (0,0))→w.heap.size≤g→Below w.heap.size w W→ExPost p w (twoE op a b) (.returned (.agg #[.int .i64 op,.int .i64 0,.string ⟨#[]⟩,.slice (some ⟨g,0,none⟩) 2 2])) W):=fun g W h1 h2 h3=>by
  have hk:=(hk_below (p:=p) (q:=p) h3 fun _ _ h=>h).cell
  have pg:p g=false:=by
   cases e:p g with
   | false=>rfl
   | true=>have:=hp g e;omega
  exact⟨⟨some ⟨g,0,none⟩,2,rfl,by show (0:Nat)≤_;omega,two_row h1 pg (hA.keep hk) (hB.keep hk)⟩,h3⟩
 generalize ExPost p w (twoE op a b)=Po at HP⊢
 simp only[exVal]
 clear hA hB hp
 go_enter Tryz.func67, Tryz.ntmps67
 go_upto_region 1 with fail
 generalize hW1:((w.alloc (.cells #[.int .i64 a.op,.int .i64 a.n,.string a.name,.slice aa a.args.length ac] 72)).alloc (.cells #[.int .i64 b.op,.int .i64 b.n,.string b.name,.slice ba b.args.length bc] 72)).alloc (.cells #[.int .i64 0,.int .i64 0,.string ⟨#[]⟩,.slice none 0 0] 72)=W1
 have hz1:w.heap.size+3≤W1.heap.size:=by rw[← hW1];simp
 have HB1:Hid (Below w.heap.size w W1):=by show Below _ _ _;rw[← hW1];exact belr
 have HXa:Hid (W1.heap[w.heap.size]? = some (.cells #[.int .i64 a.op,.int .i64 a.n,.string a.name,.slice aa a.args.length ac] 72 (0,0))):=by
  show _=_;rw[← hW1]
  exact hx_old (hx_old (hx_new rfl))
 have HXb:Hid (W1.heap[w.heap.size+1]? = some (.cells #[.int .i64 b.op,.int .i64 b.n,.string b.name,.slice ba b.args.length bc] 72 (0,0))):=by
  show _=_;rw[← hW1]
  exact hx_old (hx_new (by simp))
 have HXr:Hid (W1.heap[w.heap.size+1+1]? = some (.cells #[.int .i64 0,.int .i64 0,.string ⟨#[]⟩,.slice none 0 0] 72 (0,0))):=by
  show _=_;rw[← hW1]
  exact hx_new (by simp)
 clear hW1
 obtain⟨a0,a1,a2,a3,_⟩:=cell4 HXa.out
 obtain⟨b0,b1,b2,b3,_⟩:=cell4 HXb.out
 obtain⟨c0,c1,c2,c3,cf⟩:=cell4 HXr.out
 have hlt:w.heap.size+1+1 < W1.heap.size:=by omega
 have CF:=fun (o:Obj) (j:Nat)=>(((Below.refl W1.heap.size W1).alloc (Nat.le_refl _) o).frozen (p:=⟨w.heap.size+1+1,j,none⟩) hlt).trans (cf j)
 have C0:=fun o=>keeps_of_below ((Below.refl W1.heap.size W1).alloc (Nat.le_refl _) o) _ _ c0
 have C1:=fun o=>keeps_of_below ((Below.refl W1.heap.size W1).alloc (Nat.le_refl _) o) _ _ c1
 have C2:=fun o=>keeps_of_below ((Below.refl W1.heap.size W1).alloc (Nat.le_refl _) o) _ _ c2
 have C3:=fun o=>keeps_of_below ((Below.refl W1.heap.size W1).alloc (Nat.le_refl _) o) _ _ c3
 go_wp2_with fail
 generalize hW3:(((W1.setCell ⟨w.heap.size+1+1,0,none⟩ (.int .i64 op)).setCell ⟨w.heap.size+1+1,1,none⟩ (.int .i64 0)).setCell ⟨w.heap.size+1+1,2,none⟩ (.string ⟨#[]⟩)).setCell ⟨w.heap.size+1+1,3,none⟩ (.slice (some ⟨W1.heap.size,0,none⟩) 2 2)=W3
 have hz3:W3.heap.size=W1.heap.size:=by rw[← hW3];simp only[World.size_setCell]
 have hX3:W3.heap[w.heap.size+1+1]? = some (.cells #[.int .i64 op,.int .i64 0,.string ⟨#[]⟩,.slice (some ⟨W1.heap.size,0,none⟩) 2 2] 72 (0,0)):=by rw[← hW3];exact set4M HXr.out
 have hB3:Below w.heap.size w W3:=by rw[← hW3];exact bel4 HB1.out (by omega)
 clear hW3
 refine bodyPost_ret (v:=.agg #[.int .i64 op,.int .i64 0,.string ⟨#[]⟩,.slice (some ⟨W1.heap.size,0,none⟩) 2 2]) (twoM_res _ _ (w.heap.size+1+1) _ _ _ _ (hx_old hX3) rfl) rfl ?_
 exact HP.out W1.heap.size _ (hx_new hz3.symm) (by omega) (hB3.alloc (by omega) _)
set_option maxHeartbeats 2000000 in
set_option maxRecDepth 100000 in
theorem inj_clo (c:Nat) (nm:ByteArray) (r:RegD) (ae:Option Addr) (ce:Nat) (w:World) (hc:w.cell? ⟨c,0,none⟩=some (.string nm)) :
  Calls Tryz.prog 64 #[.agg #[.string r.name,.int .i64 r.width,.int .i64 r.init,.int .i64 r.next.op,.int .i64 r.next.n,.string r.next.name,.slice ae r.next.args.length ce],.pointer (some ⟨c,0,none⟩)] w fun e w'=>e=.returned (.bool (isReg nm r))∧Below w.heap.size w w':=by
 have HB:Hid (∀ o,Below w.heap.size w (w.alloc o)):=fun o=>(Below.refl _ _).alloc (Nat.le_refl _) _
 have HC:Hid (∀ o,(w.alloc o).cell? ⟨c,0,none⟩=some (.string nm)):=fun o=>keeps_of_below (HB.out o) _ _ hc
 clear hc
 have hC:=fun o=>HC.out o
 go_enter Tryz.func64, Tryz.ntmps64
 go_wp2_with fail
 go_ret
 exact⟨rfl,HB.out _⟩
set_option maxHeartbeats 4000000 in
set_option maxRecDepth 100000 in
theorem unused_any (d:DesD) (x:DesA) (w:World) (hF:∀ n:Int,0≤n→n≤65535→FmtC w.heap.size w n) (hE:DesIn w d x) (hn:d.names.length≤65535) :
  Calls Tryz.prog 66 #[desVal d x] w fun e w'=>e=.returned (.string (cntN d))∧Below w.heap.size w w':=by
 obtain⟨hf1,hf2,hf3⟩:=freeK_spec d.names
 have HN:=Lib.hid (fun W (hW:Below w.heap.size w W)=>Names31_any d x W (hE.below hW) (by omega))
 have HCt:=Lib.hid (fun a c s W h=>Contains_strs d.names a c s W h)
 have HFm:Hid (∀ n:Nat,n≤65535→∀ W,Below w.heap.size w W→Calls Tryz.prog 86 #[.int .i64 n] W fun e w'=>e=.returned (.string (fmtS n))∧Below W.heap.size W w'):=fun n h W hW=>hF n (by omega) (by omega) W hW
 have H1:Hid (∀ k,k < freeK d.names→(idxT d.names (tryN k)).isSome=true):=fun k hk=>idxT_mem (hf2 k hk) rfl
 have H0:Hid ((idxT d.names (tryN (freeK d.names))).isSome=false):=by
  show _=_
  cases e:(idxT d.names (tryN (freeK d.names))).isSome with
  | false=>rfl
  | true =>
   obtain⟨y,hy,hy2⟩:=idxT_isSome e
   exact absurd ((bytes_toList.1 hy2) ▸ hy) hf1
 have HT:Hid (∀ k,tryN (k+1)=kFault++fmtS k):=fun k=>rfl
 have HT0:Hid (tryN 0=⟨#[102,97,117,108,116]⟩):=rfl
 have HSz:Hid (∀ k:Nat,k≤65535→(fmtS k).size≤65536):=fun k hk=>by have:=fmt_len k;omega
 have HP:Hid (∀ W,Below w.heap.size w W→(fun e w'=>e=.returned (.string (cntN d))∧Below w.heap.size w w') (Ending.returned (.string (tryN (freeK d.names)))) W):=fun W h=>⟨rfl,h⟩
 generalize (fun e w'=>e=Ending.returned (.string (cntN d))∧Below w.heap.size w w')=Po at HP⊢
 clear hF hE hf1 hf2
 generalize freeK d.names=fk at H1 H0 HP hf3
 generalize tryN=tr at H1 H0 HT HT0 HP
 generalize d.names=N at HN HCt H1 H0 hn hf3
 simp only[desVal,desVals] at HN⊢
 unfold kFault at HT
 go_enter Tryz.func66, Tryz.ntmps66
 go_wp2_with fail
 refine(HN.out _ belr).mono ?_
 rintro r w2 ⟨⟨a,c,rfl,hS⟩,hb2⟩
 have HB2:Hid (Below w.heap.size w w2):=Below.trans belr (hb2.mono sz)
 have HS:=Lib.hid hS
 clear hS hb2
 go_wp2_with fail
 refine(HCt.out a c _ w2 HS.out).mono ?_
 rintro r w3 ⟨rfl,rfl⟩
 by_cases hk0:fk=0
 ·subst hk0
  have h0:=H0.out
  rw[HT0.out] at h0
  rw[h0]
  have HPn:=Lib.hid (HP.out w2 HB2.out)
  rw[HT0.out] at HPn
  clear h0
  go_wp2_with fail
  first | exact HPn.out | (go_ret;exact HPn.out)
 ·have h0:=H1.out 0 (by omega)
  rw[HT0.out] at h0
  rw[h0]
  clear h0
  go_wp2_with fail
  go_loopw [4] (fun i wr=>∃ k:Nat,i=.int .i64 k∧k+1≤fk∧Hid (Below w.heap.size w wr)∧Hid (StrsIn wr N a c)) (fun i _=>fk - (intOf i).toNat)
  case atStart=>exact⟨0,rfl,by omega,HB2,HS⟩
  case round =>
   obtain⟨k,rfl,hk,HB,HSr⟩:=hrel
   have hsz:=HSz.out k (by omega)
   have hn1:¬ 9223372036854775807 < 5+(fmtS k).size:=by omega
   have HFk:=Lib.hid (HFm.out k (by omega))
   have HTk:=Lib.hid (HT.out k)
   generalize fmtS (k:Int)=fs at HFk HTk hsz hn1
   go_wp2_with fail
   refine(HFk.out wr HB.out).mono ?_
   rintro r w4 ⟨rfl,hb4⟩
   have HB4:Hid (Below w.heap.size w w4):=HB.out.trans (hb4.mono HB.out.size)
   have HS4:=Lib.hid (HSr.out.keep (keeps_of_below hb4))
   clear hb4
   go_wp2_with fail
   refine(HCt.out a c _ w4 HS4.out).mono ?_
   rintro r w5 ⟨rfl,rfl⟩
   by_cases hlt:k+1 < fk
   ·have h1:=H1.out (k+1) hlt
    rw[HTk.out] at h1
    rw[h1]
    clear h1
    go_wp2_with fail
    go_roundw
    case rel=>exact⟨k+1,by go_num,by omega,HB4,HS4⟩
    case measure=>(simp[intOf];try omega)
   ·obtain rfl:k+1=fk:=by omega
    have h0:=H0.out
    rw[HTk.out] at h0
    rw[h0]
    clear h0
    go_wp2_with fail
    refine(HFk.out w4 HB4.out).mono ?_
    rintro r w6 ⟨rfl,hb6⟩
    have HPn:=Lib.hid (HP.out w6 (HB4.out.trans (hb6.mono HB4.out.size)))
    rw[HTk.out] at HPn
    clear hb6
    go_wp2_with fail
    first | exact HPn.out | (go_ret;exact HPn.out)
end Go.Proofs.YtebneadheaefdaaGreatDoor
