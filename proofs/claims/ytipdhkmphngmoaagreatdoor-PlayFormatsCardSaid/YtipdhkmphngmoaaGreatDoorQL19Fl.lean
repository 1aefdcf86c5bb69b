/- Part of a law's texts. Conditions: none. -/
import Derived.Test.YtipdhkmphngmoaaGreatDoorQL19Fk
import Derived.Laws.Externs
import Derived.ProofKit
import Derived.OpenShut
import Derived.ChangeOld
import Derived.Below
import Derived.ChangeSlices
import Derived.Deep.Grids
import Derived.Deep.Strs
open Go.Proofs.Tryz
set_option linter.all false
namespace Go.Proofs.YtipdhkmphngmoaaGreatDoor
open Go
structure eT where
 at_:List (Int×Int)
 no:List (Int×Int)
 last:Int
def eu(b:Nat)(T:eT):HP:=hex fun (x:Nat×Nat)=>grp [row b [.map (some x.1),.map (some x.2),i64 T.last] 196,bB .i64 i64 x.1 T.at_,bB .i64 i64 x.2 T.no]
theorem pm{B:World}{n:Nat}{D:List Deferred}{σ:Env}{b:Nat}{T:eT}{Fr:List HP}{K:Act→World→Prop}(h:∀ b1 b2,GO B n D σ (row b [.map (some b1),.map (some b2),i64 T.last] 196::bB .i64 i64 b1 T.at_::bB .i64 i64 b2 T.no::Fr) K):GO B n D σ (eu b T::Fr) K:=fun a w st=>by
 obtain⟨x,hx⟩:=st.holds.hex
 exact h _ _ a w ⟨st.toStA,hx.grp⟩
theorem eU{B:World}{b b1 b2:Nat}{T:eT}{Fr:List HP}{w:World}(h:Holds B (row b [.map (some b1),.map (some b2),i64 T.last] 196::bB .i64 i64 b1 T.at_::bB .i64 i64 b2 T.no::Fr) w):Holds B (eu b T::Fr) w:=
 Holds.unhex (b1,b2) (Holds.ungrp (l:=[row b [.map (some b1),.map (some b2),i64 T.last] 196,bB .i64 i64 b1 T.at_,bB .i64 i64 b2 T.no]) h)
theorem wj(B:World)(H:List HP):
 ∀ w,Holds B H w→Calls Tryz.prog 116 [].toArray w (Ret B (fun rv H'=>∃ b,rv=ptr b∧H'=eu b ⟨[],[],0⟩::H) (fun _ _=>False)):=by
 refine ak func116 aa ntmps116 aa (ac (ab (kPa aa aa (ad (ac (ab (kPb (dP .i64 i64) aa fun b1=>(kPb (dP .i64 i64) aa fun b2=> ?_))))))))
 refine ao aa (aR aa (t7 _ _ (by first | rfl | assumption) (by first | rfl | assumption))) .free rfl rfl ?_;refine kPb (aY aa) aa fun b4=> ?_;refine kPa aa aa ?_;refine ad ?_;refine au ?_
 exact aq results116 aa (fun w hh=>⟨_,⟨_,rfl,rfl⟩,eU (T:=⟨[],[],0⟩) ((hh.front 2 aa).back 1 (by simp))⟩)
theorem mK(B:World)(Fr:List HP)(b:Nat)(T:eT)(n:Int):
 ∀ w,Holds B (eu b T::Fr) w→Calls Tryz.prog 142 [ptr b,i64 n].toArray w (aZ B (eu b T::Fr) (.tuple #[i64 ((bG T.at_ n).getD 0),.bool (bG T.at_ n).isSome])):=by
 refine ak func142 aa ntmps142 aa (pm fun b1 b2=>(ac (ab (kPa aa aa (kPa aa aa (ad (ac (ab (kPf gQ isAgg86 aa aa aa aa (kPm aa aa (kPv ((eR runUnderlying86 runUnderlying3 zeroValue3 aa aa).eq (congrArg (fun v=>Value.tuple #[v,.bool _]) (mE _))) aa ?_)))))))))))
 refine kPm aa aa (kPv (az aa aa) aa (kPv (az aa aa) aa (kPa aa aa (kPa aa aa (ad (aj [7,6,5,4] rfl (ac (ab (kPm aa aa (kPm aa aa (kPa aa aa ?_)))))))))))
 refine kPa aa aa (ad (au ?_))
 exact bz results142 aa aa (fun w hh=>⟨rfl,eU hh⟩)
theorem zD(B:World)(Fr:List HP)(b:Nat)(T:eT)(n:Int):
 ∀ w,Holds B (eu b T::Fr) w→Calls Tryz.prog 84 [ptr b,i64 n].toArray w (Ret B (fun rv H'=>rv= .bool (bG T.at_ n).isSome∧H'=eu b ⟨lW T.at_ n,if (bG T.at_ n).isSome=true then lW T.no ((bG T.at_ n).getD 0) else T.no,T.last⟩::Fr) (fun _ _=>False)):=by
 refine ak func84 aa ntmps84 aa (pm fun b1 b2=>(ac (ab (kPa aa aa (ad (ac (ab (kPf gQ isAgg86 aa aa aa aa (kPm aa aa (kPv ((eR runUnderlying86 runUnderlying3 zeroValue3 aa aa).eq (congrArg (fun v=>Value.tuple #[v,.bool _]) (mE _))) aa (kPm aa aa ?_)))))))))))
 refine kPv (az aa aa) aa (kPv (az aa aa) aa (kPa aa aa (kPa aa aa (ad (aj [6,5,4,0,1] rfl (ac (ab (kPf gQ isAgg86 aa aa aa aa (kPm aa aa (kPs (q5 aa runUnderlying86 runUnderlying3 aa aa) aa (ad ?_)))))))))))
 refine ac (ac (ab (kPm aa aa (ad ?_))))
 refine aV aa (fun h21=> ?_) (fun h21=> ?_)
 ·try simp only[decide_eq_true_eq,decide_eq_false_iff_not,Bool.not_eq_true',Bool.not_eq_false',Bool.or_eq_true,Bool.and_eq_true,Bool.and_eq_false_iff,Bool.or_eq_false_iff,beq_iff_eq,bne_iff_ne,beq_eq_false_iff_ne,bne_eq_false_iff_eq,ge_iff_le,gt_iff_lt,ne_eq] at h21
  refine ab (kPf kw isAgg86 aa aa aa aa (kPm aa aa (kPs (q5 aa runUnderlying86 runUnderlying3 aa aa) aa (ad (aj [6,4] rfl (ac (ab (kPm aa aa (kPa aa aa (ad (au ?_)))))))))))
  exact aq results84 aa (fun w hh=>⟨_,⟨rfl,rfl⟩,by rw[if_pos h21];exact eU hh⟩)
 ·try simp only[decide_eq_true_eq,decide_eq_false_iff_not,Bool.not_eq_true',Bool.not_eq_false',Bool.or_eq_true,Bool.and_eq_true,Bool.and_eq_false_iff,Bool.or_eq_false_iff,beq_iff_eq,bne_iff_ne,beq_eq_false_iff_ne,bne_eq_false_iff_eq,ge_iff_le,gt_iff_lt,ne_eq] at h21
  refine aw (ac (ab (kPm aa aa (kPa aa aa (ad (aj [4] rfl (au ?_)))))))
  exact aq results84 aa (fun w hh=>⟨_,⟨rfl,rfl⟩,by rw[if_neg (by rw[h21];decide)];exact eU hh⟩)
theorem sT{α:Type}{k:Int}{z u:α}:∀ {l:List (Int×α)},(∀ p∈l,p.1≠k)→mset (l++[(k,z)]) k u=l++[(k,u)]
 | [],_=>by simp[mset]
 | p::l,h=>by
   simp only[List.cons_append,mset]
   rw[if_neg (h p (List.mem_cons_self ..)),sT fun q hq=>h q (List.mem_cons_of_mem _ hq)]
theorem jE{α:Type}{k:Int}{z u:α}{l:List (Int×α)}:mset (jH l k z) k u=mset l k u:=by
 unfold jH
 cases hc:ea l k 0 with
 | none=>rw[jG hc];exact sT (gM hc)
 | some v=>rfl
def eT.take(T:eT)(p:Int):Int×eT:=
 if p=0 then (0,T) else if (bG T.no p).isSome=true then ((bG T.no p).getD 0,T)
 else (T.last+1,⟨mset T.at_ (T.last+1) p,mset T.no p (T.last+1),T.last+1⟩)
theorem ip(B:World)(Fr:List HP)(b:Nat)(T:eT)(p:Int)(hT:0≤T.last∧T.last≤1000000000):
 ∀ w,Holds B (eu b T::Fr) w→Calls Tryz.prog 78 [ptr b,i64 p].toArray w (Ret B (fun rv H'=>rv=i64 (T.take p).1∧H'=eu b (T.take p).2::Fr) (fun _ _=>False)):=by
 refine ak func78 aa ntmps78 aa (pm fun b1 b2=>(ac (ab (kPa aa aa (ad (ac (ac (ab (kPm aa aa (kPv (am aa aa aa) aa (ad ?_)))))))))))
 refine aV aa (fun h8=> ?_) (fun h8=> ?_)
 ·have hk:p=0:=by simpa using h8
  have hres:T.take p=(0,T):=by unfold eT.take;rw[if_pos hk]
  refine ac (ab (kPa aa aa (ad (au ?_))))
  exact aq results78 aa (fun w hh=>⟨_,⟨by rw[hres],rfl⟩,by rw[hres];exact eU hh⟩)
 ·have hk:¬ p=0:=by simpa using h8
  refine aw (ac (ac (ab (kPf kw isAgg86 aa aa aa aa (kPm aa aa (kPv ((eR runUnderlying86 runUnderlying3 zeroValue3 aa aa).eq (congrArg (fun v=>Value.tuple #[v,.bool _]) (mE _))) aa (kPm aa aa (kPv (az aa aa) aa (kPv (az aa aa) aa (kPa aa aa (kPa aa aa ?_)))))))))))
  refine ad (aj [6,5,4,0,1] rfl (ac (ab (kPm aa aa (ad ?_)))))
  refine aV aa (fun h18=> ?_) (fun h18=> ?_)
  ·have hres:T.take p=((bG T.no p).getD 0,T):=by unfold eT.take;rw[if_neg hk,if_pos h18]
   refine ac (ab (kPm aa aa (kPa aa aa (ad (au ?_)))))
   exact aq results78 aa (fun w hh=>⟨_,⟨by rw[hres];rfl,rfl⟩,by rw[hres];exact eU hh⟩)
  ·have hres:T.take p=(T.last+1,⟨mset T.at_ (T.last+1) p,mset T.no p (T.last+1),T.last+1⟩):=by unfold eT.take;rw[if_neg hk,if_neg (by rw[h18];decide)]
   refine aw (ac (ab (kPf kv isAgg3 aa aa aa aa (kPv (aP aa aa) aa (kPv (aF aa) aa (kPv (aC (m:=_) kv aa aa) aa (kPs (aO sizeOf3 aa aa aa aa) aa (ad (aj [4,0,1] rfl (ac (cQ [0,1,2,3,4,5,6,7,8,9,10,11,12,13,14,15,16,17,18,19,20,21,22,23] [18,20,21,23] [12,13] [18,20] [] Tryz.mixed (by kernel_rfl) ?_)))))))))))
   refine aT aa aa aa (al aa) .free aa (aT aa aa aa (aF aa) .free aa (aT aa aa aa (aC (m:=_) gQ aa aa) .free aa (aT aa aa aa (ag isAgg86 aa aa) .free aa (aT aa aa aa (al aa) .free aa (aT aa aa aa (aF aa) .free aa (aT aa aa aa (aC (m:=_) kv aa aa) .free aa (aT aa aa aa (ag isAgg3 aa aa) .free aa (aT aa aa aa (al aa) .free aa (aT aa aa aa (aF aa) .free aa (aT aa aa aa (aC (m:=_) kw aa aa) .free aa (aT aa aa aa (ag isAgg86 aa aa) .free aa ?_)))))))))))
   refine an aa aa aa (al aa) .free aa (an aa aa aa (al aa) .free aa (aT aa aa aa (al aa) .free aa (aT aa aa aa (aF aa) .free aa (aT aa aa aa (aC (m:=_) kv aa aa) .free aa (aT aa aa aa (ag isAgg3 aa aa) .free aa (aS aa aa (dE 1 aa ?_)))))))
   simp only[List.eraseIdx_cons_succ,List.eraseIdx_cons_zero]
   refine cX aa (iM (u0:=(0:Int)) runUnderlying86 runUnderlying3 zeroValue3 aa aa) .free aa aa ?_
   rintro _ _ ⟨z1,st1,rfl,rfl⟩
   refine ad (cL (aT aa aa aa (az aa aa) .free aa (aS aa aa (kPs (gE aa aa aa aa) aa (ad (cL (aS aa aa (dE 2 aa ?_))))))))
   simp only[List.eraseIdx_cons_succ,List.eraseIdx_cons_zero]
   refine cX aa (iM (u0:=(0:Int)) runUnderlying86 runUnderlying3 zeroValue3 aa aa) .free aa aa ?_
   rintro _ _ ⟨z2,st2,rfl,rfl⟩
   refine ad (cZ aa (aT aa aa aa (az aa aa) .free aa (aS aa aa (kPs (gE aa aa aa aa) aa (ad (cZ aa (cM (aj [4,0] rfl (ac (ab (kPf kv isAgg3 aa aa aa aa ?_)))))))))))
   refine kPa aa aa (ad (au ?_))
   exact aq results78 aa (fun w hh=>⟨_,⟨by rw[hres],rfl⟩,by rw[hres];rw[jE,jE] at hh;exact eU (T:=⟨_,_,_⟩) ((hh.front 1 aa).front 2 aa)⟩)
theorem nu(B:World)(Fr:List HP)(b:Nat)(T:eT)(hTl:T.at_.length≤1000000):
 ∀ w,Holds B (eu b T::Fr) w→Calls Tryz.prog 87 [ptr b].toArray w (Ret B (fun rv H'=>H'=iC 0 (rv,cq (T.at_.map Prod.fst))::eu b T::Fr) (fun _ _=>False)):=by
 refine ak func87 aa ntmps87 aa (pm fun b1 b2=>(ac (ab (kPa aa aa (ad (ac (ab (kPf gQ isAgg86 aa aa aa aa (aE aa (ar call149 aa) (xA _ _ _) .free aa aa ?_)))))))))
 rintro _ _ ⟨bb,rfl,rfl⟩
 refine aK (H':=row bb [.map (some b1)] 86::bB .i64 i64 b1 T.at_::row b [.map (some b1),.map (some b2),i64 T.last] 196::bB .i64 i64 b2 T.no::Fr) (fun w hh=>(hh.front 2 aa).back 1 (by simp)) (aE aa (ar call145 aa) (uo _ _ b1 bb T.at_ hTl) .free aa aa ?_)
 rintro v8 _ rfl
 refine kPa aa aa (ad (aj [2] rfl (au ?_)))
 exact aq results87 aa (fun w hh=>⟨_,rfl,Holds.front (A:=iC 0 (v8,cq (T.at_.map Prod.fst))) (eU (T:=T) (((hh.front 3 aa).front 2 aa).front 3 aa)) 1 aa⟩)
section
variable {B:World} {σ:Env} {H:List HP} {P:Program} {d:Option Tmp} {ty:TypeId} {p:String} {af:Array Edge} {g:Option (Nat×Bool)}
theorem ux{t k e:TypeId}{q:Option Nat}(ht:∀ w,(underlying t).run P w= .ok (.map k e) w)(w:World):(Op.equal t (.map q) (.map none)).run P w= .ok q.isNone w:=by
 show(Op.equalIn (9999+1) t (.map q) (.map none)).run P w=_
 rw[Op.equalIn];simp only[Sem.run_bind,ht,Result.andThen_ok];cases q<;>rfl
theorem C4{op:BinOp}{x y:Operand}{q:Option Nat}{c:Bool}{t u k e:TypeId}(ht:∀ w,(underlying t).run P w= .ok (.map k e) w)(hx:evO σ x=some (.map q))(hy:evO σ y=some (.map none))(hc:(match op with | .eql=>some q.isNone | .neq=>some (!q.isNone) | _=>none)=some c):
 Evs P B σ H ⟨d,.binOp op t x y u,ty,p,af,g⟩ (.bool c):=by
 intro a w kn _
 cases op<;>simp at hc<;>subst hc<;>simp only[execOp,kn.eval hx,kn.eval hy]<;>simp[binOp,eqGuard,ux ht]
theorem C1{x:Operand}{s t:TypeId}{v:Value}{td:TypeDesc}(ht:∀ w,(underlying t).run P w= .ok td w)(hi:xJ td=false)(hx:evO σ x=some (.iface t v)):Evs P B σ H ⟨d,.typeAssert x s t false,ty,p,af,g⟩ v:=by
 intro a w kn _
 cases td<;>simp[xJ] at hi<;>simp[execOp,kn.eval hx,Instr.typeAssert,ht]
theorem xY{α:Type}{kk:IntKind}{enc:α→Value}{r:Nat}{l:List (Int×α)}{U:List (Int×α)→List HP}{f:FuncId}{x:Operand}{t:TypeId}{at_:Array TypeId}(hc:∀ (args:Array Value) (w:World),(callFunc f args).run P w=((Extern.MapsClone.clone args).run P w).andThen fun v w'=> .ok (.value v) w')
 (hx:evO σ x=some (.iface t (.map (some r)))) [m:jm H r kk enc l U]:
 Chg P B σ H ⟨d,.call ⟨.value (.func f), #[x],at_⟩,ty,p,af,g⟩ (fun v H'=>∃ b,v= .iface t (.map (some b))∧H'=bB kk enc b l::H):=by
 intro a w kn hh
 obtain⟨bn,clock,ho,hm⟩:=m.obj hh
 refine⟨.value (.iface t (.map (some w.heap.size))),{w with heap:=w.heap.push (.map (bU kk enc bn l).toArray clock)},?_,_,.inl aa,_,⟨_,rfl,rfl⟩,?_⟩
 ·have e:Extern.MapsClone.clone #[.iface t (.map (some r))]=(getObj r>>=fun o=>match o with
   | .map entries clock=>(newObj (.map entries clock)>>=fun n=>pure (.iface t (.map (some n))))
   | _=>stuck "maps.clone: a map expected"):=rfl
  have hg:(getObj r).run P w= .ok (.map (bU kk enc bn l).toArray clock) w:=by simp[getObj,Sem.run,ho]
  have hfe:a.eval (.func f)= .func (.func f) #[] #[]:=rfl
  simp[execOp,resolve,Deferred.ofValue,invoke,hfe,kn.eval hx,hc,e,hg]
 ·exact(hh.new (.map (bU kk enc bn l).toArray clock)).map fun _ a=>lP (fun k hk=>⟨bn,clock,hk,hm⟩) a
end
theorem xD(B:World)(H:List HP)(r:Nat)(l:List (Int×Int))(U:List (Int×Int)→List HP)(m:jm H r .i64 i64 l U):
 ∀ w,Holds B H w→Calls Tryz.prog 154 [.map (some r)].toArray w (Ret B (fun rv H'=>∃ b,rv= .map (some b)∧H'=bB .i64 i64 b l::H) (fun _ _=>False)):=by
 refine ak func154 aa ntmps154 aa (ac (ab (kPa aa aa (ad (ac (ac (ab (kPm aa aa (kPv (C4 runUnderlying86 aa aa aa) aa (ad (bH aa (rfl) ?_)))))))))))
 refine aw (ac (ab (kPm aa aa (kPv (zZ runUnderlying86 aa aa) aa (kPb (xY (fun args w=>run_callFunc_extern func188 (by kernel_rfl) (by kernel_rfl) (by kernel_rfl) (e:=Extern.MapsClone.clone) (by kernel_rfl) args w) aa) aa fun b=> ?_)))))
 refine kPv (C1 runUnderlying86 aa aa) aa (kPa aa aa (ad (aj [2] rfl (au ?_))))
 exact aq results154 aa (fun w hh=>⟨_,⟨b,rfl,rfl⟩,hh⟩)
structure AF(B:World)(f:FuncId)(fi ca:List Value)(ε:Type)(ExL:ε→List HP)(okp:Int→Prop)(to_:Int→Int)(st:Int→ε→ε):Prop where
 enter:∀ args w,(callFunc f args).run Tryz.prog w= .ok (.enter f args) w
 says:∀ (Fr:List HP) (p:Int) (e:ε),okp p→∀ w,Holds B (ExL e++Fr) w→Calls Tryz.prog f (fi++[i64 p]++ca).toArray w (Ret B (fun rv H'=>rv=i64 (to_ p)∧H'=ExL (st p e)++Fr) (fun _ _=>False))
def dH(to_:Int→Int)(x:List (Int×Int)×List (Int×Int))(p:Int×Int):List (Int×Int)×List (Int×Int):=if to_ p.2≠0 then (mset x.1 p.1 (to_ p.2),mset x.2 (to_ p.2) p.1) else x
def eT.moved(to_:Int→Int)(last:Int)(ord:List (Int×Int)):eT:=⟨(ord.foldl (dH to_) ([],[])).1,(ord.foldl (dH to_) ([],[])).2,last⟩
theorem Holds.hop0{B:World}{w:World}(L M:List HP){E:List HP}(h:Holds B (L++(M++E)) w):Holds B (M++(L++E)) w:=
 h.perm (by rw[←List.append_assoc, ←List.append_assoc];exact List.Perm.append_right _ List.perm_append_comm)
theorem sR{α:Type}{l:List (Int×α)}(h:(l.map Prod.fst).Nodup):l.Nodup:=List.Pairwise.of_map Prod.fst (fun a b h e=>h (by rw[e])) h
theorem jM{α β:Type}(f:β→α→β)(l:List α)(a:α)(b:β):(l++[a]).foldl f b=f (l.foldl f b) a:=by rw[List.foldl_append];rfl
theorem qI(B:World)(Fr:List HP)(b:Nat)(T:eT)(f:FuncId)(fi ca:List Value)(ε:Type)(ExL:ε→List HP)(okp:Int→Prop)(to_:Int→Int)(st:Int→ε→ε)(hM:AF B f fi ca ε ExL okp to_ st)(hok:∀ p∈T.at_,okp p.2)(e0:ε):
 ∀ w,Holds B (eu b T::(ExL e0++Fr)) w→Calls Tryz.prog 96 [ptr b,.func (.func f) fi.toArray ca.toArray].toArray w (Ret B (fun _ H'=>∃ ord:List (Int×Int),ord.Perm T.at_∧H'=eu b (eT.moved to_ T.last ord)::(ExL (ord.foldl (fun e (p:Int×Int)=>st p.2 e) e0)++Fr)) (fun _ _=>False)):=by
 refine ak func96 aa ntmps96 aa (pm fun b1 b2=>(ac (ab (kPf gQ isAgg86 aa aa aa aa (aE aa (ar call154 aa) (xD B _ b1 T.at_ _ inferInstance) .free aa aa ?_)))))
 rintro _ _ ⟨bo,rfl,rfl⟩
 refine kPa aa aa (ad (ac (ab (kPf gQ isAgg86 aa aa aa aa (kPs (mq aa runUnderlying86 aa) aa (ad (aj [4,0,1] rfl (ac (ab (kPf kw isAgg86 aa aa aa aa (kPs (mq aa runUnderlying86 aa) aa ?_)))))))))))
 refine ad (ac (ab (kPm aa aa (kPb (mp runUnderlying86 aa) aa fun it=>(ad (aI (df (ι:=List (Int×Int)) [22,0,1] (fun done=>(done.length≤T.at_.length)) (fun done=>[]) (fun done=>row b [.map (some b1),.map (some b2),i64 T.last] 196::bB .i64 i64 b1 (done.foldl (dH to_) ([],[])).1::bB .i64 i64 b2 (done.foldl (dH to_) ([],[])).2::fO .i64 i64 bo it T.at_ done::(ExL (done.foldl (fun e (p:Int×Int)=>st p.2 e) e0)++Fr)) (fun done=>T.at_.length - done.length) ([]) (Nat.zero_le _) (fun a w st=>st.to trivial (fun hh=>(hh.pk [1,1,1]))) ?_)))))))
 rintro done hdl
 try simp only at hdl ⊢
 refine cE (σ':=[(22,_),(0,_),(1,_)]) (aG aa) (ac (ab (cX aa (nV aa) .free aa aa ?_)))
 rintro _ _ ⟨bb0,vs,done',rfl,hvs,rfl,hno,hyes⟩
 refine kPv (az aa hvs) aa (ad (ac ?_))
 refine aV aa (fun h24=> ?_) (fun h24=> ?_)
 ·obtain⟨pp,hpl,hpn,rfl⟩:=hyes h24
  refine iH it fun hl hd hsub=>(aw (aI (ac (ab (kPv (mm (p0:=pp) (dn:=done) aa) aa (kPv (az aa aa) aa (kPv (az aa aa) aa (kPa aa aa (kPa aa aa (ad (ac ?_)))))))))))
  refine ab (kPm aa aa (kPm aa aa ?_))
  refine aQ aa (fa hM.enter aa aa) (fun w hh=>hM.says ([row b [.map (some b1),.map (some b2),i64 T.last] 196,bB .i64 i64 b1 (done.foldl (dH to_) ([],[])).1,bB .i64 i64 b2 (done.foldl (dH to_) ([],[])).2,fO .i64 i64 bo it T.at_ (done++[pp])]++Fr) pp.2 (done.foldl (fun e (p:Int×Int)=>st p.2 e) e0) (hok pp hpl) w (Holds.hop0 [row b [.map (some b1),.map (some b2),i64 T.last] 196,bB .i64 i64 b1 (done.foldl (dH to_) ([],[])).1,bB .i64 i64 b2 (done.foldl (dH to_) ([],[])).2,fO .i64 i64 bo it T.at_ (done++[pp])] (ExL (done.foldl (fun e (p:Int×Int)=>st p.2 e) e0)) hh)) .free aa aa ?_ ?_
  rotate_left
  ·rintro _ _ ⟨⟩
  rintro _ _ ⟨rfl,rfl⟩
  refine aK (H':=[row b [.map (some b1),.map (some b2),i64 T.last] 196,bB .i64 i64 b1 (done.foldl (dH to_) ([],[])).1,bB .i64 i64 b2 (done.foldl (dH to_) ([],[])).2,fO .i64 i64 bo it T.at_ (done++[pp])]++(ExL (st pp.2 (done.foldl (fun e (p:Int×Int)=>st p.2 e) e0))++Fr)) (fun w hh=>Holds.hop0 (ExL (st pp.2 (done.foldl (fun e (p:Int×Int)=>st p.2 e) e0))) [row b [.map (some b1),.map (some b2),i64 T.last] 196,bB .i64 i64 b1 (done.foldl (dH to_) ([],[])).1,bB .i64 i64 b2 (done.foldl (dH to_) ([],[])).2,fO .i64 i64 bo it T.at_ (done++[pp])] hh) ?_
  simp only[List.cons_append,List.nil_append]
  refine kPa aa aa (ad (aj [7,5,22,0,1] rfl (ac (ab (kPm aa aa (kPv (am aa aa aa) aa (ad ?_)))))))
  refine aV aa (fun h32=> ?_) (fun h32=> ?_)
  ·have hnz:to_ pp.2≠0:=by simpa using h32
   refine cQ [0,1,2,3,4,5,6,7,8,9,10,11,12,13,14,15,16,17] [12,14,15,17] [9,10,11] [12,14,15] [row b [.map (some b1),.map (some b2),i64 T.last] 196] Tryz.mixed (by kernel_rfl) ?_
   refine aT aa aa aa (al aa) .free aa (aT aa aa aa (aF aa) .free aa (aT aa aa aa (aC (m:=_) gQ aa aa) .free aa (aT aa aa aa (ag isAgg86 aa aa) .free aa (aT aa aa aa (al aa) .free aa (aT aa aa aa (al aa) .free aa (aT aa aa aa (aF aa) .free aa (aT aa aa aa (aC (m:=_) kw aa aa) .free aa (aT aa aa aa (ag isAgg86 aa aa) .free aa (an aa aa aa (al aa) .free aa (an aa aa aa (al aa) .free aa (an aa aa aa (al aa) .free aa ?_)))))))))))
   refine aS aa aa (aM [1] (cX aa (iM (u0:=(0:Int)) runUnderlying86 runUnderlying3 zeroValue3 aa aa) .free aa aa ?_))
   rintro _ _ ⟨z1,st1,rfl,rfl⟩
   refine ad (cL (aT aa aa aa (az aa aa) .free aa (aS aa aa (kPs (gE aa aa aa aa) aa (ad (cL (aS aa aa (aM [2] (cX aa (iM (u0:=(0:Int)) runUnderlying86 runUnderlying3 zeroValue3 aa aa) .free aa aa ?_)))))))))
   rintro _ _ ⟨z2,st2,rfl,rfl⟩
   refine ad (cL (aT aa aa aa (az aa aa) .free aa (aS aa aa (kPs (gE aa aa aa aa) aa (ad (cZ aa (cM (aj [22,0,1] rfl ?_))))))))
   have hle:=iG hd hsub
   exact fun a w st_=>⟨done++[pp],by first | omega | (simp;omega),by first | omega | (simp;omega),st_.to ⟨rfl,rfl,rfl,trivial⟩ (fun hh=>(by have h:=(hh.pk [2,1]);rw[jE,jE] at h;rw[jM,jM,show dH to_ (done.foldl (dH to_) ([],[])) pp=(mset _ pp.1 (to_ pp.2),mset _ (to_ pp.2) pp.1) from if_pos hnz];exact h))⟩
  ·have hnz:to_ pp.2=0:=by simpa using h32
   refine aw ?_
   have hle:=iG hd hsub
   exact fun a w st_=>⟨done++[pp],by first | omega | (simp;omega),by first | omega | (simp;omega),st_.to ⟨rfl,rfl,rfl,trivial⟩ (fun hh=>(by have h:=hh;rw[jM,jM,show dH to_ (done.foldl (dH to_) ([],[])) pp=_ from if_neg (by simpa using hnz)];exact h))⟩
 ·obtain⟨rfl,hall⟩:=hno h24
  refine iH it fun hl hd hsub=>(bJ ?_)
  exact cG results96 (fun w hh=>⟨_,⟨done',(List.perm_ext_iff_of_nodup (sR hd) (sR hl)).2 fun x=>⟨hsub x,hall x⟩,rfl⟩,eU (T:=eT.moved to_ T.last done') (hh.dp [3])⟩)
def dD(c:Cfg)(b:Blk)(ml:List (Int×dq))(v:Int):Bool:=v==0||(b.has c v&&(bG ml v).isSome)
def sD(s:Dev)(nf:Int→Bool)(o:dq):Bool:=(List.range o.2.1.toNat).all fun k=>nf (s.load (o.2.2+1+(k:Int)))
def stC(s:Dev)(nf:Int→Bool)(p:dq×Int)(x:Int):Bool×Int:=if sD s nf p.1=true then (true,x) else (false,9)
def Dev.check(s:Dev)(c:Cfg):Int:=
 if (s.block c).2≠0 then (s.block c).2
 else if (s.starts c (s.block c).1).2≠0 then (s.starts c (s.block c).1).2
 else if (s.block c).1.rts.all (dD c (s.block c).1 (s.starts c (s.block c).1).1)=true then
  (itl (stC s (dD c (s.block c).1 (s.starts c (s.block c).1).1)) (s.objs c (s.block c).1 ((s.block c).1.used.toNat+1) ((s.block c).1.place c 0)) 0).2
 else 9
theorem zf(o:Option dq):pV gL (.agg #[i64 0,i64 0,i64 0]) o=gL (o.getD (0,0,0)):=by cases o<;>rfl
theorem pT{α:Type}{l:List α}{f:α→Bool}{k:Nat}(hk:k<l.length)(h:(l.take k).all f=true)(h2:f l[k]=true):(l.take (k+1)).all f=true:=by
 rw[List.take_succ_eq_append_getElem hk,List.all_append,h];simp[h2]
theorem oG{f:Nat→Bool}{k:Nat}(h:(List.range k).all f=true)(h2:f k=true):(List.range (k+1)).all f=true:=by
 rw[List.range_succ,List.all_append,h];simp[h2]
theorem qZ(B:World)(Fr:List HP)(b1 b2 b3 mb:Nat)(c:Cfg)(hc:bx c)(b:Blk)(sv:Value)(hb:fU c b)(hsv:aN sv=true)(ml:List (Int×dq))(v:Int)(hv:0≤v∧v<18446744073709551616):
 ∀ w,Holds B (row b1 [i64 b.act,i64 b.used,sv] 125::row b2 [i64 c.log,i64 c.roots,i64 c.space] 39::row b3 [.map (some mb)] 220::bB .i64 gL mb ml::Fr) w→Calls Tryz.prog 160 [w64 v,ptr b1,ptr b2,ptr b3].toArray w (aZ B (row b1 [i64 b.act,i64 b.used,sv] 125::row b2 [i64 c.log,i64 c.roots,i64 c.space] 39::row b3 [.map (some mb)] 220::bB .i64 gL mb ml::Fr) (.bool (dD c b ml v))):=by
 refine ak func160 aa ntmps160 aa (ac (ab (kPa aa aa (ad (ac (ac (ab (kPm aa aa (kPv (am aa aa aa) aa (ad ?_))))))))))
 refine aV aa (fun h9=> ?_) (fun h9=> ?_)
 ·have hres:dD c b ml v=true:=by unfold dD;simp[show v=0 by simpa using h9]
  refine ac (ab (kPa aa aa (ad (au ?_))))
  exact aq results160 aa (fun w hh=>⟨by rw[hres],hh⟩)
 ·have hne:¬ v=0:=by simpa using h9
  refine aw (ac (ac (ab (kPv (ah isAgg125 sizeOf125 aa aa) aa ?_))))
  refine kPv (ah isAgg39 sizeOf39 aa aa) aa ?_
  refine kPm aa aa (ap aa (ar call98 aa) (pj _ _ c hc b sv hb hsv _ hv) .free aa aa ?_)
  refine kPv (bu aa) aa (ad (aj [14,5,0,3] rfl ?_))
  refine aV aa (fun h14=> ?_) (fun h14=> ?_)
  ·have hh0:b.has c v=false:=by simpa using h14
   have hres:dD c b ml v=false:=by unfold dD;simp[hne,hh0]
   refine ac (ab (kPa aa aa (ad (au ?_))))
   exact aq results160 aa (fun w hh=>⟨by rw[hres],hh⟩)
  ·have hh0:b.has c v=true:=by simpa using h14
   have hvb:=kJ hc hb hh0
   have hres:dD c b ml v=(bG ml v).isSome:=by unfold dD;simp[hne,hh0]
   refine aw (ac (ab (kPv (ag isAgg220 aa aa) aa (kPm aa aa (kPv (bY runUnderlying24 runUnderlying3 aa) aa (kPv ((eR runUnderlying220 runUnderlying3 zeroValue134 aa aa).eq (congrArg (fun v=>Value.tuple #[v,.bool _]) (zf _))) aa (kPm aa aa (kPv (az aa aa) aa (kPv (az aa aa) aa (kPb (aD zeroValue134 aa) aa fun b6=>(kPs (aA (vs:=[i64 _,i64 _,i64 _]) sizeOf134 aa aa aa aa aa) aa ?_)))))))))))
   refine kPa aa aa (ad (aj [7,5] rfl (ac (ab (kPm aa aa (kPa aa aa (ad (au ?_))))))))
   exact aq results160 aa (fun w hh=>⟨by rw[hres];rfl,hh.tail⟩)
theorem kY(B:World)(Fr:List HP)(bd:Nat)(s:Dev)(c:Cfg)(hc:bx c)(hu:U64 s):
 ∀ w,Holds B (ax bd s::Fr) w→Calls Tryz.prog 114 [ptr bd,dU c].toArray w (aZ B (ax bd s::Fr) (i64 (s.check c))):=by
 refine eK func114 aa ntmps114 aa ?_
 have hrl:=fc (s:=s) hc
 refine ac (ab (kPb (dA aa aa) aa fun b2=>(kPb (aY aa) aa fun b3=>(kPa aa aa (ad (wu (ac (ab (kPv (ag isAgg53 aa aa) aa (kPv (ah isAgg39 sizeOf39 aa aa) aa ?_))))))))))
 refine aM [2] (aE aa (ar call135 aa) (fX _ _ _ _ c hc hu) .free aa aa ?_)
 rintro _ _ ⟨sv,hsv,rfl,rfl⟩
 have hbk:=dB (s:=s) hc hu
 refine kPm aa aa (kPv (az aa aa) aa (kPv (az aa aa) aa (kPb (aD zeroValue125 aa) aa fun b5=>(kPs (aA (vs:=[i64 _,i64 _,sv]) sizeOf125 aa aa aa (eB hsv) aa) aa (kPa aa aa (ad (aj [6,5,4,3,2] rfl (ac (ac (ab (kPm aa aa ?_)))))))))))
 refine kPv (am aa aa aa) aa (ad ?_)
 refine aV aa (fun h21=> ?_) (fun h21=> ?_)
 ·have he:(s.block c).2≠0:=by simpa using h21
  have hres:s.check c=(s.block c).2:=by unfold Dev.check;rw[if_pos he]
  refine ac (ab (kPm aa aa (kPa aa aa (ad (au ?_)))))
  exact fM results114 aa (.nil) (fun w hh=>⟨by rw[hres]<;>rfl,(hh.dp [0,0,1,1])⟩)
 ·have he:(s.block c).2=0:=by simpa using h21
  refine aw (ac (ab (kPv (ag isAgg53 aa aa) aa (kPv (ah isAgg39 sizeOf39 aa aa) aa ?_))))
  refine kPv (ah isAgg125 sizeOf125 aa aa) aa ?_
  refine aM [2] (aE aa (ar call159 aa) (n3 _ _ bd s c hc (s.block c).1 sv hbk hsv) .free aa aa ?_)
  rintro _ _ ⟨mb,rfl,rfl⟩
  refine kPm aa aa (kPv (az aa aa) aa (kPv (az aa aa) aa (kPb (cm zeroValue220 aa) aa fun b7=>(kPs (aO sizeOf220 aa aa aa aa) aa (kPa aa aa (ad (aj [6,7,5,4,3,2] rfl (ac (ac (ab (kPm aa aa ?_)))))))))))
  refine kPv (am aa aa aa) aa (ad ?_)
  refine aV aa (fun h31=> ?_) (fun h31=> ?_)
  ·have he2:(s.starts c (s.block c).1).2≠0:=by simpa using h31
   have hres:s.check c=(s.starts c (s.block c).1).2:=by unfold Dev.check;rw[if_neg (by omega),if_pos he2]
   refine ac (ab (kPm aa aa (kPa aa aa (ad (au ?_)))))
   exact fM results114 aa (.nil) (fun w hh=>⟨by rw[hres]<;>rfl,(hh.dp [0,0,1,1,1,1])⟩)
  ·have he2:(s.starts c (s.block c).1).2=0:=by simpa using h31
   refine aw (ac (ab (kPb (cm zeroValue40 aa) aa fun b8=>(kPs (aO sizeOf40 aa aa aa aa) aa (ad (ac (ab (kPv (c7 aa aa) aa (kPb (cm zeroValue224 aa) aa fun b9=>(kPs (aO sizeOf224 aa aa aa aa) aa (aM [6] ?_)))))))))))
   refine cy fun qo co hqe hqo=> ?_
   subst hqe
   refine ad (ac (ac (ab (kPl eO isAgg22 aa aa aa aa (kPv (bS aa runUnderlying22 ⟨_,rfl⟩ rfl) aa (kPm aa aa (ad (aI (df (ι:=Nat) [36,35,9,8,5,4,3,2] (fun k=>(k≤(s.block c).1.rts.length)∧(((s.block c).1.rts.take k).all (dD c (s.block c).1 (s.starts c (s.block c).1).1)=true)) (fun k=>[(37,i64 k)]) (fun k=>row b5 [i64 (s.block c).1.act,i64 (s.block c).1.used,.slice qo (s.block c).1.rts.length co] 125::row b3 [i64 c.log,i64 c.roots,i64 c.space] 39::row b7 [.map (some mb)] 220::bB .i64 gL mb (s.starts c (s.block c).1).1::da 0 (.slice qo (s.block c).1.rts.length co,(s.block c).1.rts)::ax bd s::row b8 [i64 0] 40::row b9 [.func (.func 160) #[] #[ptr b5,ptr b3,ptr b7]] 224::row b2 [ptr bd] 53::Fr) (fun k=>(s.block c).1.rts.length - k) (0) (⟨Nat.zero_le _,rfl⟩) (fun a w st=>st.to ⟨rfl,trivial⟩ (fun hh=>(hh.pk [6,6,3,3,0,2,1]))) ?_)))))))))
   rintro k ⟨hk0,hkr⟩
   try simp only at hk0 hkr ⊢
   refine cE (σ':=[(37,i64 k),(36,_),(35,_),(9,_),(8,_),(5,_),(4,_),(3,_),(2,_)]) (aG aa) (ac (ab (kPv (am aa aa aa) aa (ad (ac ?_)))))
   refine aV aa (fun h38=> ?_) (fun h38=> ?_)
   ·have hk:k<(s.block c).1.rts.length:=by simp at h38;omega
    obtain⟨bq,oq,rfl⟩:=hqo k hk
    have hul:0≤(s.block c).1.rts[k]∧(s.block c).1.rts[k]<18446744073709551616:=fQ hu _ (List.getElem_mem hk)
    refine aw (ac (aI (ac (ab (kPv (cC runUnderlying22 sizeOf24 aa aa (by omega) (by omega)) aa ?_)))))
    refine kPv (cf (v:=w64 (s.block c).1.rts[k]) isAgg24 (cP 4 aa) aa (by rw[Int.toNat_natCast,List.getElem?_map,List.getElem?_eq_getElem hk];rfl)) aa ?_
    refine kPa aa aa (ad (ac (ab (kPv (ag isAgg224 aa aa) aa (kPm aa aa ?_)))))
    refine ap aa (fa call160 aa aa) (qZ B _ b5 b3 b7 mb c hc (s.block c).1 _ hbk aa (s.starts c (s.block c).1).1 (s.block c).1.rts[k] hul) .free aa aa ?_
    refine kPv (bu aa) aa (ad (aj [44,37,36,35,9,8,5,4,3,2] rfl ?_))
    refine aV aa (fun h44=> ?_) (fun h44=> ?_)
    ·have hnr:¬ (dD c (s.block c).1 (s.starts c (s.block c).1).1) (s.block c).1.rts[k]=true:=by simpa using h44
     have hres:s.check c=9:=by unfold Dev.check;rw[if_neg (by omega),if_neg (by omega),if_neg (fun hh=>hnr (List.all_eq_true.1 hh _ (List.getElem_mem hk)))]
     refine ac (ab (kPa aa aa (ad (au ?_))))
     exact fM results114 aa (.nil) (fun w hh=>⟨by rw[hres]<;>rfl,(hh.dp [0,0,0,0,0,1,1,1])⟩)
    ·have hnr:(dD c (s.block c).1 (s.starts c (s.block c).1).1) (s.block c).1.rts[k]=true:=by simpa using h44
     refine aw (ab (kPv (aP aa aa) aa (kPm aa aa (ad ?_))))
     exact fun a w st_=>⟨k+1,⟨by first | omega | (simp only;omega),pT hk hkr hnr⟩,by first | omega | (simp only;omega),st_.to (aG aa) (fun hh=>hh)⟩
   ·have hk:¬ k<(s.block c).1.rts.length:=by simp at h38;omega
    obtain rfl:k=(s.block c).1.rts.length:=by omega
    have hres:s.check c=(itl (stC s (dD c (s.block c).1 (s.starts c (s.block c).1).1)) (s.objs c (s.block c).1 ((s.block c).1.used.toNat+1) ((s.block c).1.place c 0)) 0).2:=by unfold Dev.check;rw[if_neg (by omega),if_neg (by omega),if_pos (by rw[List.take_length] at hkr;exact hkr)]
    refine bJ (ac (ww (ac (ac (ab (kPv (ag isAgg53 aa aa) aa (kPv (ah isAgg39 sizeOf39 aa aa) aa ?_)))))))
    refine kPv (ah isAgg125 sizeOf125 aa aa) aa ?_
    refine aE aa (ar call161 aa) (oc _ _ bd c (s.block c).1 (.slice qo (s.block c).1.rts.length co) aa) .free aa aa ?_
    rintro _ _ ⟨c3,c4,c5,rfl,rfl⟩
    refine ad (aj [49,9,8,4,2] rfl (aI (kU aa call190 ?_)))
    intro l m tmps hts hkn w hh
    have hk9:=hkn 9 _ rfl
    have hk2:=hkn 2 _ rfl
    have hk8:=hkn 8 _ rfl
    refine(rY B (blk m (.deferred (some []))::da 0 (.slice qo (s.block c).1.rts.length co,(s.block c).1.rts)::Fr) l 114 c3 c4 c5 bd c hc (s.block c).1 _ hbk aa s Int _ aa aa (fun x=>True) (fun x=>[row b8 [i64 x] 40,row b5 [i64 (s.block c).1.act,i64 (s.block c).1.used,.slice qo (s.block c).1.rts.length co] 125,row b3 [i64 c.log,i64 c.roots,i64 c.space] 39,row b7 [.map (some mb)] 220,bB .i64 gL mb (s.starts c (s.block c).1).1,row b9 [.func (.func 160) #[] #[ptr b5,ptr b3,ptr b7]] 224,row b2 [ptr bd] 53]) (fun _=> .exit 2) (stC s (dD c (s.block c).1 (s.starts c (s.block c).1).1)) 0 trivial ?_ w (hh.pk [0,1,1,1,6,6,1,1,1,1,2,2])).mono (Ret.mono ?_ fun _ _ h=>h.elim)
    ·intro p x hpw _
     have hp2:=hpw.r
     have hp1:=hpw.w
     have hp3:=hpw.at_
     refine⟨trivial,fun E=> ?_⟩
     simp only[List.cons_append,List.nil_append]
     refine gI (n:=70) (σ:=[(50,gL p.1),(51,i64 p.2),(9,ptr b9),(2,ptr b2),(8,ptr b8)]) func114 (by simp[fT,hts]) (KnA.knows (by simp[KnA,fT,hts];exact⟨(Array.getElem?_eq_some_iff.1 hk9).2,(Array.getElem?_eq_some_iff.1 hk2).2,(Array.getElem?_eq_some_iff.1 hk8).2⟩)) aa ?_
     refine ab (kPb (aD zeroValue134 aa) aa fun b12=>(kPs (aA (vs:=[i64 p.1.1,i64 p.1.2.1,i64 p.1.2.2]) sizeOf134 aa aa aa aa aa) aa (ad (aM [1] (kr (aI (ac ?_)))))))
     generalize hrec:({state:=LoopState.busy, ..}:Loop)=rec
     refine ab (kPv (aC (m:=_) eN aa aa) aa (kPl gC isAgg3 aa aa aa aa (kPm aa aa (ad (aI ?_)))))
     refine df (ι:=Nat) [54,12,9,2,8] (fun j=>((j:Int)≤p.1.2.1)∧((List.range j).all (fun k=>(dD c (s.block c).1 (s.starts c (s.block c).1).1) (s.load (p.1.2.2+1+(k:Int))))=true)) (fun j=>[(55,i64 j)]) (fun j=>row b5 [i64 (s.block c).1.act,i64 (s.block c).1.used,.slice qo (s.block c).1.rts.length co] 125::row b3 [i64 c.log,i64 c.roots,i64 c.space] 39::row b7 [.map (some mb)] 220::bB .i64 gL mb (s.starts c (s.block c).1).1::row b12 [i64 p.1.1,i64 p.1.2.1,i64 p.1.2.2] 134::blk l (.loop rec)::row c5 [i64 (s.block c).1.act,i64 (s.block c).1.used,.slice qo (s.block c).1.rts.length co] 125::row c4 [i64 c.log,i64 c.roots,i64 c.space] 39::row c3 [ptr bd] 53::ax bd s::row b8 [i64 x] 40::row b9 [.func (.func 160) #[] #[ptr b5,ptr b3,ptr b7]] 224::row b2 [ptr bd] 53::E) (fun j=>p.1.2.1.toNat - j) (0) (⟨by first | omega | (simp only;omega),rfl⟩) (fun a w st=>st.to ⟨rfl,trivial⟩ (fun hh=>(hh.pk [7,7,7,7,1]))) ?_
     rintro j ⟨hj0,hall⟩
     try simp only at hj0 hall ⊢
     refine cE (σ':=[(55,i64 j),(54,_),(12,_),(9,_),(2,_),(8,_)]) (aG aa) (ac (ab (kPv (am aa aa aa) aa (ad (ac ?_)))))
     refine aV aa (fun h56=> ?_) (fun h56=> ?_)
     ·have hj:(j:Int)<p.1.2.1:=by simpa using h56
      refine aw (ac (aI (ac (ab (kPm aa aa (kPa aa aa (ad (ac (cN Tryz.mixed (by kernel_rfl) (by kernel_rfl) ?_)))))))))
      refine kQv (ag isAgg224 aa aa) aa (kQv (ag isAgg53 aa aa) aa (kQv (aC (m:=_) kA aa aa) aa (kQv (ag isAgg3 aa aa) aa (kQv (aP aa aa) aa (kQm aa aa (kQv (aP aa aa) aa (bj aa (ar call101 aa) (bF (q:=ax) (fun Fr=>ck _ Fr _ _ _)) .free aa ?_)))))))
      refine bj aa (fa call160 aa aa) (qZ B _ b5 b3 b7 mb c hc (s.block c).1 _ hbk aa (s.starts c (s.block c).1).1 (s.load (p.1.2.2+1+(j:Int))) (hu.load _)) .free aa ?_
      refine kQv (bu aa) aa (bM (aj [67,55,54,12,9,2,8] rfl ?_))
      refine aV aa (fun h67=> ?_) (fun h67=> ?_)
      ·have hnall:¬ (dD c (s.block c).1 (s.starts c (s.block c).1).1) (s.load (p.1.2.2+1+(j:Int)))=true:=by simpa using h67
       subst hrec
       refine ac (ab (kPs (aO sizeOf40 aa aa aa aa) aa (ad (bJ ?_))))
       have hst:stC s (dD c (s.block c).1 (s.starts c (s.block c).1).1) p x=(false,9):=by unfold stC;rw[if_neg (show ¬ sD s (dD c (s.block c).1 (s.starts c (s.block c).1).1) p.1=true from fun hh=>hnall (List.all_eq_true.1 hh j (List.mem_range.2 (by omega))))]
       refine aM [5] ?_
       exact wp fun w hh=>⟨_,⟨by rw[hst],rfl⟩,by rw[hst];exact((hh.dp [5]).pk [0,4,4,4,4,4])⟩
      ·have hnm:(dD c (s.block c).1 (s.starts c (s.block c).1).1) (s.load (p.1.2.2+1+(j:Int)))=true:=by simpa using h67
       refine aw (ab (kPv (aP aa aa) aa (kPm aa aa (ad ?_))))
       exact fun a w st_=>⟨j+1,⟨by first | omega | (simp only;omega),oG hall hnm⟩,by first | omega | (simp only;omega),st_.to (aG aa) (fun hh=>hh)⟩
     ·have hj:¬ (j:Int)<p.1.2.1:=by simpa using h56
      have hall2:sD s (dD c (s.block c).1 (s.starts c (s.block c).1).1) p.1=true:=by unfold sD;rw[show p.1.2.1.toNat=j by omega];exact hall
      subst hrec
      refine bJ ?_
      have hst:stC s (dD c (s.block c).1 (s.starts c (s.block c).1).1) p x=(true,x):=by unfold stC;rw[if_pos hall2]
      refine aM [5] ?_
      exact kq fun w hh=>⟨_,⟨by rw[hst],rfl⟩,by rw[hst];exact((hh.dp [5]).pk [0,4,4,4,4,4])⟩
    rintro _ _ ⟨_,rfl⟩
    simp only[List.cons_append,List.nil_append]
    refine⟨_,_,fun w hh=>hh,kh (by simp[fT]),fun hp=> ?_,fun c' hc'=> ?_⟩
    rotate_left
    ·obtain⟨h1,rfl⟩:=kg rfl hc'
     refine bJ (ac (ab (kPv (ag isAgg40 aa aa) aa (kPa aa aa (ad (au ?_))))))
     exact fM results114 aa (.at 12 (.nil)) (fun w hh=>⟨by rw[hres]<;>rfl,(hh.dp [0,0,0,0,1,1,1,1,1,1,1,1,1])⟩)
    refine ac (ab (kPv (ag isAgg40 aa aa) aa (kPa aa aa (ad (au ?_)))))
    exact fM results114 aa (.at 12 (.nil)) (fun w hh=>⟨by rw[hres]<;>rfl,(hh.dp [0,0,0,0,1,1,1,1,1,1,1,1,1])⟩)
def iP(x:Blk×Int)(b:Blk)(e:Int):Bool:=x.1.act==b.act&&x.1.used==b.used&&x.1.rts==b.rts&&x.2==e
theorem ef{x:Blk×Int}{b:Blk}{e:Int}(h:iP x b e=true):x=(b,e):=by
 obtain⟨⟨a1,a2,a3⟩,a4⟩:=x
 obtain⟨b1,b2,b3⟩:=b
 simp only[iP,Bool.and_eq_true,beq_iff_eq] at h
 obtain⟨⟨⟨rfl,rfl⟩,rfl⟩,rfl⟩:=h
 rfl
def xq(x:Int×Int)(a e:Int):Bool:=x.1==a&&x.2==e
theorem nO{x:Int×Int}{a e:Int}(h:xq x a e=true):x=(a,e):=by
 simp only[xq,Bool.and_eq_true,beq_iff_eq] at h
 exact Prod.ext h.1 h.2
def CM(x:dq×Int)(o:dq)(e:Int):Bool:=x.1.1==o.1&&x.1.2.1==o.2.1&&x.1.2.2==o.2.2&&x.2==e
theorem A5{x:dq×Int}{o:dq}{e:Int}(h:CM x o e=true):x=(o,e):=by
 simp only[CM,Bool.and_eq_true,beq_iff_eq] at h
 exact Prod.ext (Prod.ext h.1.1.1 (Prod.ext h.1.1.2 h.1.2)) h.2
theorem iO:bx ⟨3,1,48⟩:=⟨by decide,by decide,by decide,by decide,by decide,by decide⟩
theorem sU:(⟨3,1,48⟩:Cfg)=mkC 0 0 40:=rfl
abbrev c8:Cfg:=⟨3,1,8⟩
abbrev c48:Cfg:=⟨3,1,48⟩
theorem n48{N:Nat}(h:(N:Int)=c48.words):N=136:=by have:(N:Int)=136:=h.trans (by decide);omega
theorem uE(B:World)(Fr:List HP)(bd:Nat)(o:dq)(ho:k8 o)(i v:Int)(hv:0≤v∧v<18446744073709551616)(s:Dev)(hl:s.pow.lim<0)(hu:U64 s):
 ∀ w_,Holds B (ax bd s::Fr) w_→Calls Tryz.prog 94 [gL o,i64 i,w64 v,.func (.func 104) [ptr bd].toArray #[]].toArray w_ (Ret B (fun rv H'=>∃ x s',hO gk o i false v s ()= .ok (x,()) s'∧rv=i64 x∧s'.pow.lim<0∧s'.n=s.n∧U64 s'∧H'=ax bd s'::Fr) (fun _ _=>False)):=fun w_ hh=>by
 obtain⟨y,s2,hg,_,hg2,hg3⟩:=tv (o:=o) (i:=i) (v:=v) (r:=false) hl
 refine(qh B Fr _ [ptr bd] bd 0 Unit (fun _ _=>pr True) gk _ (um B bd 0) o ho i v hv s () hu w_ ((hh.unpr (p:=True) trivial).back 1 (by simp))).mono fun en w' h=> ?_
 cases en with
 | returned rv=>
   obtain⟨H,⟨x,e',s',hm,rfl,hok,rfl⟩,hh⟩:=h
   obtain⟨rfl,rfl⟩:y=(x,e')∧s2=s':=by rw[hg] at hm;cases hm;exact⟨rfl,rfl⟩
   exact⟨_,⟨x,s2,hm,rfl,hg2,hg3,hok,rfl⟩,(hh.front 1 aa).tail⟩
 | panicked c=>
   obtain⟨H,⟨s',hm,_⟩,_⟩:=h
   rw[hg] at hm;cases hm
 | outgrown=>exact h
theorem BN(pa:Nat):okB ((iU pa [] 56).format c8) (fun _ s=>iP (s.block c8) ⟨0,0,[0]⟩ 0)=true:=by kernel_rfl
theorem BM(pa:Nat):okB ((iU pa [] 56).format c8) (fun _ s=>okB (cY gk c8 2 0 s ()) fun x s1=>xq x.1 40 0&&okB (cY gk c8 5 0 s1 ()) fun y _=>xq y.1 0 4)=true:=by kernel_rfl
theorem Ak(pa:Nat):okB ((iU pa [] 136).format c48) (fun _ s=>okB (gY c48 [(1,2)] s []) fun out sF=>out==[40]&&iP (sF.block c48) ⟨0,3,[0]⟩ 0&&CM (sF.objOf c48 ⟨0,3,[0]⟩ 40) (2,1,40) 0&&xq (sF.objRead (2,1,40) 0) 0 5&&okB (hO gk (2,1,40) 1 false 9 sF ()) fun a s2=>a.1==0&&xq (s2.objRead (2,1,40) 1) 9 0)=true:=by kernel_rfl
theorem Aj(pa:Nat):okB ((iU pa [] 136).format c48) (fun _ s=>okB (gY c48 [(0,1)] s []) fun out sF=>out==[40]&&iP (sF.block c48) ⟨0,2,[0]⟩ 0&&okB (eI c48 ⟨0,2,[0]⟩ (dC [] [40] 0) [40] 0 sF) fun n1 s1=>n1==some 0&&okB (fN c48 (dC [] [40] 0) 1 0 0 s1) fun _ s2=>iP (s2.block c48) ⟨0,2,[0]⟩ 0&&(s2.starts c48 ⟨0,2,[0]⟩).1==[(40,(1,0,40))]&&(s2.starts c48 ⟨0,2,[0]⟩).2==0)=true:=by kernel_rfl
theorem Ai(pa:Nat):okB ((iU pa [] 56).format c8) (fun _ s=>s.check c8==0&&okB (s.store 34 5) fun _ s1=>s1.check c8==9)=true:=by kernel_rfl
theorem x6(B:World)(Fr:List HP):
 ∀ w,Holds B Fr w→Calls Tryz.prog 263 [].toArray w (aZ B Fr (.bool true)):=by
 refine ak func263 aa ntmps263 aa (ac (ab (kPa aa aa (ad (ac (ac (ab (ap aa (ar call264 aa) (x7 _ _) .free aa aa ?_))))))))
 refine kPv (bu aa) aa (ad (bH aa (rfl) (aw (ac (ab (kPv (aR aa (cW _ _ _ aa aa aa)) aa (kPb (aD zeroValue39 aa) aa fun b1=>(kPs (aA (vs:=_) sizeOf39 aa aa aa aa aa) aa (ad (ac (ab ?_)))))))))))
 refine kPv (ah isAgg39 sizeOf39 aa aa) aa ?_
 refine aE aa (ar call70 aa) (dZ _ _ ⟨3,1,8⟩ gg none 0 [] (by decide) (fun _ h=>absurd h (Nat.not_lt_zero _)) SlR.nil) .free aa aa ?_
 rintro _ _ ⟨bd,pa,N,s0,hN,hf,rfl,rfl⟩
 obtain rfl:N=56:=by have:(N:Int)=56:=hN.trans (by decide);omega
 have hfm:=mN gg hN hf
 have hu0:=gx (jh pa 56) gg hf
 refine kPm aa aa (kPv (az aa aa) aa (kPv (az aa aa) aa (kPa aa aa (kPa aa aa (ad (aj [3,2,1,0] rfl (ac (ac (ab (kPm aa aa (kPv (bu aa) aa ?_)))))))))))
 refine ad (bH aa (rfl) (aw (ac (ab (kPm aa aa (kPv (ah isAgg39 sizeOf39 aa aa) aa ?_))))))
 refine aE aa (ar call135 aa) (fX _ _ _ _ ⟨3,1,8⟩ gg hu0) .free aa aa ?_
 rintro _ _ ⟨sv,hsv,rfl,rfl⟩
 rw[ef (cg (BN pa) hf)]
 refine cy fun qv cv hqv hqi=> ?_
 subst hqv
 refine kPm aa aa (kPv (az aa aa) aa (kPv (az aa aa) aa (kPb (aD zeroValue125 aa) aa fun b4=> ?_)))
 refine kPs (aA (vs:=_) sizeOf125 aa aa aa (by first | rfl | exact eB (by assumption)) rfl) rfl ?_;refine kPa aa aa ?_;refine ad ?_;refine aj [5,4,1,0] rfl ?_;refine ac ?_;refine ab ?_;refine kPm aa aa ?_;refine kPv (am aa aa aa) aa ?_;refine kPm aa aa ?_
 refine ao aa (aC (m:=_) iy aa aa) (.on aa aa (ae aa)) aa aa (ao aa (ag isAgg3 aa aa) (.on aa aa (ae aa)) aa aa (ao aa (am aa aa aa) (.on aa aa (ae aa)) aa aa (kPv (aB aa aa aa) aa (kPm aa aa (ao aa (aC (m:=_) dM aa aa) (.on aa aa (ae aa)) aa aa (ao aa (ag isAgg3 aa aa) (.on aa aa (ae aa)) aa aa (ao aa (am aa aa aa) (.on aa aa (ae aa)) aa aa (kPv (aB aa aa aa) aa (kPm aa aa (ao aa (aC (m:=_) eO aa aa) (.on aa aa (ae aa)) aa aa (ao aa (ag isAgg22 aa aa) (.on aa aa (ae aa)) aa aa ?_)))))))))))
 refine ao aa (bS aa runUnderlying22 ⟨_,rfl⟩ rfl) (.on aa aa (ae aa)) aa aa (ao aa (am aa aa aa) (.on aa aa (ae aa)) aa aa (kPv (aB aa aa aa) aa (kPm aa aa (ao aa (ah isAgg125 sizeOf125 aa aa) (.on aa aa (ae aa)) aa aa ?_))))
 refine ao aa (ah isAgg39 sizeOf39 aa aa) (.on aa aa (ae aa)) aa aa ?_
 refine ap aa (ar call136 aa) (ik _ _ ⟨3,1,8⟩ gg ⟨0,0,[0]⟩ _ ⟨⟨by decide,by decide⟩,⟨by decide,by decide⟩⟩ hsv 3 (by decide)) (.on aa aa (ae aa)) aa aa ?_
 refine ao aa (am aa aa aa) (.on aa aa (ae aa)) aa aa (kPv (aB aa aa aa) aa (kPa aa aa (ad (aj [0] rfl (au ?_)))))
 exact aq results263 aa (fun w hh=>⟨rfl,(hh.dp [0,0,0,0])⟩)
theorem x5(B:World)(Fr:List HP):
 ∀ w,Holds B Fr w→Calls Tryz.prog 262 [].toArray w (aZ B Fr (.bool true)):=by
 refine ak func262 aa ntmps262 aa (ac (ab (kPa aa aa (ad (ac (ac (ab (ap aa (ar call263 aa) (x6 _ _) .free aa aa ?_))))))))
 refine kPv (bu aa) aa (ad (bH aa (rfl) (aw (ac (ab (kPv (aR aa (cW _ _ _ aa aa aa)) aa (kPb (aD zeroValue39 aa) aa fun b1=>(kPs (aA (vs:=_) sizeOf39 aa aa aa aa aa) aa (ad (ac (ab ?_)))))))))))
 refine kPv (ah isAgg39 sizeOf39 aa aa) aa ?_
 refine aE aa (ar call70 aa) (dZ _ _ ⟨3,1,8⟩ gg none 0 [] (by decide) (fun _ h=>absurd h (Nat.not_lt_zero _)) SlR.nil) .free aa aa ?_
 rintro _ _ ⟨bd,pa,N,s0,hN,hf,rfl,rfl⟩
 obtain rfl:N=56:=by have:(N:Int)=56:=hN.trans (by decide);omega
 have hfm:=mN gg hN hf
 have hu0:=gx (jh pa 56) gg hf
 refine kPm aa aa (kPv (az aa aa) aa (kPv (az aa aa) aa (kPa aa aa (kPa aa aa (ad (aj [3,2,1,0] rfl (ac (ac (ab (kPm aa aa (kPv (bu aa) aa ?_)))))))))))
 refine ad (bH aa (rfl) (aw (ac (ab (kPm aa aa (kPv (ah isAgg39 sizeOf39 aa aa) aa ?_))))))
 refine kPv (aR aa (tY _ aa)) aa (kPm aa aa (kPv (c7 aa aa) aa (aE aa (ar call76 aa) (m5 _ _ bd ⟨3,1,8⟩ gg 2 0 s0 hfm.lim hu0) .free aa aa ?_)))
 rintro _ _ ⟨x1,s1,hm1,rfl,hl1,hn1,hu1,rfl⟩
 have hev:=cg (cg (BM pa) hf) hm1
 simp only[Bool.and_eq_true] at hev
 rw[nO hev.1]
 refine kPm aa aa (kPv (az aa aa) aa (kPv (az aa aa) aa (kPa aa aa (kPa aa aa (ad (aj [5,4,2,1,0] rfl (ac (ab (kPm aa aa (kPv (ah isAgg39 sizeOf39 aa aa) aa ?_))))))))))
 refine kPv (aR aa (tY _ aa)) aa (kPm aa aa (kPv (c7 aa aa) aa (aE aa (ar call76 aa) (m5 _ _ bd ⟨3,1,8⟩ gg 5 0 s1 hl1 hu1) .free aa aa ?_)))
 rintro _ _ ⟨x2,s2,hm2,rfl,hl2,hn2,hu2,rfl⟩
 rw[show x2=((0:Int),(4:Int)) from nO (cg hev.2 hm2)]
 refine kPm aa aa (kPv (az aa aa) aa (kPv (az aa aa) aa (kPa aa aa (kPa aa aa (ad (aj [7,5,4,1,0] rfl (ac (ab (kPm aa aa (kPv (ah isAgg39 sizeOf39 aa aa) aa ?_))))))))))
 refine ap aa (ar call67 aa) (jL _ _ ⟨3,1,8⟩ gg 0 (by decide) (by decide)) .free aa aa ?_
 refine kPv (am aa aa aa) aa (kPm aa aa (ao aa (al aa) (.on aa aa (ae aa)) aa aa (ao aa (am aa aa aa) (.on aa aa (ae aa)) aa aa (kPv (aB aa aa aa) aa (kPm aa aa (ao aa (al aa) (.on aa aa (ae aa)) aa aa (ao aa (am aa aa aa) (.on aa aa (ae aa)) aa aa (kPv (aB aa aa aa) aa (kPa aa aa (ad (aj [0] rfl ?_)))))))))))
 refine au ?_
 exact aq results262 aa (fun w hh=>⟨rfl,(hh.dp [0,0])⟩)
abbrev Ef(h:Int×Int):List Value:=[u8 h.1,u8 h.2]
theorem pA:nb 2 Ef:=⟨fun _=>rfl,fun _=>rfl⟩
theorem hh1{a b:Int}(h1:0≤a∧a<256)(h2:0≤b∧b<256):∀ h∈[(a,b)],(0≤h.1∧h.1<256)∧(0≤h.2∧h.2<256):=fun h hm=>by rw[List.mem_singleton.1 hm];exact⟨h1,h2⟩
theorem Cs{B:World}{H:List HP}{b:Nat}{x y:Value}{T1:TypeId}{U:List Value→List HP}[fK H b [x,y] T1 U]{cap:Nat}:SlN B H (.slice (some ⟨b,0,none⟩) 1 cap) 2 [[x,y]]:=
 SlN.row (cs:=[[x,y]]) fun i c h=>by
  cases i with
  | zero=>cases h;exact⟨rfl,fun j _=>by rw[Nat.zero_mul,Nat.zero_add,Nat.zero_add]⟩
  | succ i=>cases h
theorem vp(B:World)(Fr:List HP):
 ∀ w,Holds B Fr w→Calls Tryz.prog 261 [].toArray w (aZ B Fr (.bool true)):=by
 refine ak func261 aa ntmps261 aa (ac (ab (kPa aa aa (ad (ac (ac (ab (ap aa (ar call262 aa) (x5 _ _) .free aa aa ?_))))))))
 refine kPv (bu aa) aa (ad (bH aa (rfl) (aw (ac (ab (kPv (aR aa (jj _ aa)) aa (kPv (aR aa (t6 _ _ aa aa)) aa (kPb (pG pA (v:=(1,2)) runUnderlying280 sizeOf279 zeroValue279 ⟨⟨by decide,by decide⟩,rfl⟩ rfl aa) aa fun b17=>(aE aa (ar call230 aa) (qS _ _ 0 0 40 ⟨by decide,by decide,by decide⟩ ⟨3,1,48⟩ sU [(1,2)] (hh1 ⟨by decide,by decide⟩ ⟨by decide,by decide⟩) (by decide) (some ⟨b17,0,none⟩) 1 Cs) .free aa aa ?_)))))))))
 rintro _ _ ⟨bd,pa,N,s0,sF,out,ov,sv,hfm,hN,⟨hus0,hf⟩,hfill,huF,hlF,hnF,hov,hsv,rfl,rfl⟩
 obtain rfl:=n48 hN
 have hev:=cg (cg (Ak pa) hf) hfill
 simp only[Bool.and_eq_true,beq_iff_eq] at hev
 obtain⟨⟨⟨⟨rfl,e1⟩,e2⟩,e3⟩,e4⟩:=hev
 rw[ef e1]
 refine aM [2] (cy fun qo co hqo hqi=> ?_)
 subst hqo
 obtain⟨bO,oO,rfl⟩:=hqi 0 (by decide)
 have ho:k8 (2,1,40):=⟨⟨by decide,by decide⟩,⟨by decide,by decide⟩,⟨by decide,by decide⟩⟩
 refine kPm aa aa (kPv (az aa aa) aa (kPv (az aa aa) aa (kPv (az aa aa) aa (kPv (az aa aa) aa (kPb (aD zeroValue39 aa) aa fun b2=>(kPb (aD zeroValue125 aa) aa fun b3=>(kPa aa aa (kPs (aA (vs:=_) sizeOf39 aa aa aa aa aa) aa ?_))))))))
 refine kPs (aA (vs:=_) sizeOf125 aa aa aa (by first | rfl | exact eB (by assumption)) rfl) rfl ?_;refine kPa aa aa ?_;refine ad ?_;refine aj [4,1,3,2,0] rfl ?_;refine ac ?_;refine ac ?_;refine ab ?_;refine kPm aa aa ?_;refine kPv (cV runUnderlying53 aa aa aa) aa ?_;refine kPm aa aa ?_;refine ao aa (al aa) (.on aa aa (ae aa)) aa aa ?_
 refine ao aa (bS aa runUnderlying59 ⟨_,rfl⟩ rfl) (.on aa aa (ae aa)) aa aa (ao aa (am aa aa aa) (.on aa aa (ae aa)) aa aa (kPv (aJ aa aa aa) aa (ad (bH aa (rfl) (aw (ac (aK (H':=dQ 3 i64 0 (.slice (some ⟨bO,oO,none⟩) 1 co,[40])::row b3 [i64 0,i64 3,sv] 125::row b2 [i64 3,i64 1,i64 48] 39::da 0 (sv,[0])::ax bd sF::Fr) (fun w hh=>by have h:=((hh.dp [5]).pk [2]);exact h) ?_)))))))
 refine kV (.br [0,1,2,3,4,5] 6 (.fin [7,8,9,10,11,12]) 10 (.fin [6,7,8,9,11,12])) [6,10,11] [0,1,2,3,4,5,7,8,9] [10,11] [row b2 [i64 3,i64 1,i64 48] 39,row b3 [i64 0,i64 3,sv] 125,dQ 3 i64 0 (.slice (some ⟨bO,oO,none⟩) 1 co,[40])] [1,0] (G:=Nat) (fun b5=>[(5,ptr b5),(6,i64 (sF.objOf ⟨3,1,48⟩ ⟨0,3,[0]⟩ 40).2)]) (fun b5=>row b5 [i64 (sF.objOf ⟨3,1,48⟩ ⟨0,3,[0]⟩ 40).1.1,i64 (sF.objOf ⟨3,1,48⟩ ⟨0,3,[0]⟩ 40).1.2.1,i64 (sF.objOf ⟨3,1,48⟩ ⟨0,3,[0]⟩ 40).1.2.2] 134::dQ 3 i64 0 (.slice (some ⟨bO,oO,none⟩) 1 co,[40])::row b3 [i64 0,i64 3,sv] 125::row b2 [i64 3,i64 1,i64 48] 39::da 0 (sv,[0])::ax bd sF::Fr) Tryz.mixed (by kernel_rfl) ?_ ?_
 ·skip
  refine w9 (an aa aa aa (al aa) .free aa (an aa aa aa (ah isAgg39 sizeOf39 aa aa) .free aa ?_))
  refine an aa aa aa (ah isAgg125 sizeOf125 aa aa) .free aa ?_
  refine an aa aa aa (al aa) .free aa (an aa aa aa (cC runUnderlying59 sizeOf3 aa aa (by decide) (by decide)) .free aa (an aa aa aa (cf (v:=i64 40) isAgg3 (cP 2 aa) aa aa) .free aa (cM ?_)))
  refine p8 aa aa ?_ ?_
  ·skip
   refine ap aa (ar call143 aa) (bF (q:=ax) (fun Fr=>kc _ Fr _ _ ⟨3,1,48⟩ iO ⟨0,3,[0]⟩ sv ⟨⟨by decide,by decide⟩,⟨by decide,by decide⟩⟩ hsv 40 (by decide))) .free aa aa ?_
   refine ad (se aa (jV (an aa aa aa (al aa) .free aa (an aa aa aa (az aa aa) .free aa (an aa aa aa (az aa aa) .free aa (aS aa aa (kPb (aD zeroValue134 aa) aa fun b5=>(ad (cL (aS aa aa (kPs (aA (vs:=_) sizeOf134 aa aa aa aa aa) aa ?_)))))))))))
   refine ad (cL (aT aa aa aa (bE aa) .free aa (cM ?_)))
   exact fun a w st_=>⟨b5,st_.to (aG aa) (fun hh=>hh)⟩
  ·skip
   refine kPb (aD zeroValue134 aa) aa fun b5=>(ad (ul (jV (aS aa aa (ap aa (ar call143 aa) (bF (q:=ax) (fun Fr=>kc _ Fr _ _ ⟨3,1,48⟩ iO ⟨0,3,[0]⟩ sv ⟨⟨by decide,by decide⟩,⟨by decide,by decide⟩⟩ hsv 40 (by decide))) .free aa aa ?_)))))
   refine ad (cZ aa (an aa aa aa (al aa) .free aa (an aa aa aa (az aa aa) .free aa (an aa aa aa (az aa aa) .free aa (aS aa aa (kPs (aA (vs:=_) sizeOf134 aa aa aa aa aa) aa (ad (cL (aT aa aa aa (bE aa) .free aa (cM ?_))))))))))
   exact fun a w st_=>⟨b5,st_.to (aG aa) (fun hh=>hh)⟩
 intro b5
 refine cE (σ':=[(5,ptr b5),(6,i64 (sF.objOf ⟨3,1,48⟩ ⟨0,3,[0]⟩ 40).2),(1,_),(0,_)]) (aG aa) (ac ?_)
 rw[show sF.objOf ⟨3,1,48⟩ ⟨0,3,[0]⟩ 40=(((2:Int),(1:Int),(40:Int)),(0:Int)) from A5 e2]
 refine ab (kPv (ah isAgg134 sizeOf134 aa aa) aa ?_)
 refine kPm aa aa (ap aa (ar call99 aa) (bF (q:=ax) (fun Fr=>oR _ Fr _ _ (2,1,40) ho 0)) .free aa aa ?_)
 refine kPm aa aa (kPv (az aa aa) aa (kPv (az aa aa) aa (kPa aa aa (kPa aa aa (ad (aj [8,5,6,1,0] rfl (ac (ab (kPv (ah isAgg134 sizeOf134 aa aa) aa ?_)))))))))
 refine kPm aa aa (kPv (c7 aa aa) aa (aM [5] (aE aa (ar call94 aa) (uE B _ bd (2,1,40) ho 1 9 (by decide) sF hlF huF) .free aa aa ?_)))
 rintro _ _ ⟨x2,s2,hm2,rfl,hl2,hn2,hu2,rfl⟩
 have hev2:=cg e4 hm2
 simp only[Bool.and_eq_true,beq_iff_eq] at hev2
 obtain⟨f1,f2⟩:=hev2
 obtain rfl:x2=0:=f1
 refine kPa aa aa (ad (ac (ab (kPv (ah isAgg134 sizeOf134 aa aa) aa ?_))))
 refine kPm aa aa (ap aa (ar call99 aa) (bF (q:=ax) (fun Fr=>oR _ Fr _ _ (2,1,40) ho 1)) .free aa aa ?_)
 refine kPm aa aa (kPv (az aa aa) aa (kPv (az aa aa) aa (kPa aa aa (kPa aa aa (ad (aj [11,10,9,8,5,6,1,0] rfl (ac ?_)))))))
 rw[show sF.objRead (2,1,40) 0=((0:Int),(5:Int)) from nO e3,show s2.objRead (2,1,40) 1=((9:Int),(0:Int)) from nO f2]
 refine ab (kPm aa aa (kPv (am aa aa aa) aa (kPm aa aa (ao aa (al aa) (.on aa aa (ae aa)) aa aa (ao aa (am aa aa aa) (.on aa aa (ae aa)) aa aa (kPv (aB aa aa aa) aa (kPm aa aa (ao aa (al aa) (.on aa aa (ae aa)) aa aa (ao aa (am aa aa aa) (.on aa aa (ae aa)) aa aa (kPv (aB aa aa aa) aa (kPm aa aa ?_)))))))))))
 refine ao aa (al aa) (.on aa aa (ae aa)) aa aa (ao aa (am aa aa aa) (.on aa aa (ae aa)) aa aa (kPv (aB aa aa aa) aa (kPm aa aa (ao aa (al aa) (.on aa aa (ae aa)) aa aa (ao aa (am aa aa aa) (.on aa aa (ae aa)) aa aa (kPv (aB aa aa aa) aa (kPm aa aa (ao aa (ah isAgg134 sizeOf134 aa aa) (.on aa aa (ae aa)) aa aa ?_))))))))
 refine ao aa (al aa) (.on aa aa (ae aa)) aa aa (aE aa (ar call182 aa) (qj _ _ (2,1,40) bd) (.on aa aa (ae aa)) aa aa ?_)
 rintro _ _ ⟨n1,n2,rfl,rfl⟩
 refine ao aa (nT runUnderlying257 ⟨_,_,_,rfl⟩ rfl aa aa) (.on aa aa (ae aa)) aa aa (kPv (aB aa aa aa) aa (kPa aa aa (ad (aj [0] rfl (au ?_)))))
 exact aq results261 aa (fun w hh=>⟨rfl,(hh.dp [0,0,0,0,0,0,0,0])⟩)
theorem vo(B:World)(Fr:List HP):
 ∀ w,Holds B Fr w→Calls Tryz.prog 258 [].toArray w (aZ B Fr (.bool true)):=by
 refine ak func258 aa ntmps258 aa (ac (ab (kPa aa aa (ad (ac (ac (ab (ap aa (ar call261 aa) (vp _ _) .free aa aa ?_))))))))
 refine kPv (bu aa) aa (ad (bH aa (rfl) (aw (ac (ab (kPv (aR aa (jj _ aa)) aa (kPv (aR aa (ig _ aa)) aa (kPb (pG pA (v:=(0,1)) runUnderlying280 sizeOf279 zeroValue279 ⟨⟨by decide,by decide⟩,rfl⟩ rfl aa) aa fun b12=>(aE aa (ar call208 aa) (kT _ _ 0 0 40 ⟨by decide,by decide,by decide⟩ ⟨3,1,48⟩ sU [(0,1)] (hh1 ⟨by decide,by decide⟩ ⟨by decide,by decide⟩) (by decide) (some ⟨b12,0,none⟩) _ Cs none 0 [] SlR.nil (fun _ h=>(by cases h)) (by decide) (fun _ h=>absurd h (Nat.not_lt_zero _)) 0 (by decide)) .free aa aa ?_)))))))))
 rintro _ _ ⟨bd,pa,N,s0,sF,out,hfm,hN,⟨hus0,hf⟩,hfill,hor⟩
 obtain rfl:=n48 hN
 have hev:=cg (cg (Aj pa) hf) hfill
 simp only[Bool.and_eq_true,beq_iff_eq] at hev
 obtain⟨⟨rfl,e1⟩,e2⟩:=hev
 rw[ef e1] at hor
 rcases hor with ⟨n1,n2,s1,s2,ov,sv,hl1,hl2,hu2,hlm2,hn2,hov,hsv,rfl,rfl⟩ | ⟨s1,hl1,_⟩
 rotate_left
 ·have e3:=cg e2 hl1
  simp only[Bool.and_eq_true,beq_iff_eq] at e3
  exact absurd e3.1 (by simp)
 have e3:=cg e2 hl1
 simp only[Bool.and_eq_true,beq_iff_eq] at e3
 obtain⟨e4,e5⟩:=e3
 obtain rfl:n1=0:=by injection e4
 have e6:=cg e5 hl2
 simp only[Bool.and_eq_true,beq_iff_eq] at e6
 obtain⟨⟨e7,e8⟩,e9⟩:=e6
 rw[ef e7]
 refine aM [2] (cy fun qo co hqo hqi=> ?_)
 subst hqo
 obtain⟨bO,oO,rfl⟩:=hqi 0 (by decide)
 refine kPm aa aa (kPv (az aa aa) aa (kPv (az aa aa) aa (kPv (az aa aa) aa (kPv (az aa aa) aa (kPb (aD zeroValue39 aa) aa fun b2=>(kPb (aD zeroValue125 aa) aa fun b3=>(kPa aa aa (kPs (aA (vs:=_) sizeOf39 aa aa aa aa aa) aa ?_))))))))
 refine kPs (aA (vs:=_) sizeOf125 aa aa aa (by first | rfl | exact eB (by assumption)) rfl) rfl ?_;refine kPa aa aa ?_;refine ad ?_;refine aj [4,1,3,2,0] rfl ?_;refine ac ?_;refine ac ?_;refine ab ?_;refine kPm aa aa ?_;refine kPv (cV runUnderlying53 aa aa aa) aa ?_;refine kPm aa aa ?_;refine ao aa (al aa) (.on aa aa (ae aa)) aa aa ?_
 refine ao aa (ah isAgg39 sizeOf39 aa aa) (.on aa aa (ae aa)) aa aa ?_
 refine ao aa (ah isAgg125 sizeOf125 aa aa) (.on aa aa (ae aa)) aa aa ?_
 refine aE aa (ar call161 aa) (oc _ _ bd ⟨3,1,48⟩ ⟨0,2,[0]⟩ sv hsv) (.on aa aa (ae aa)) aa aa ?_
 rintro _ _ ⟨c3,c4,c5,rfl,rfl⟩
 refine ao aa (nT runUnderlying226 ⟨_,_,_,rfl⟩ rfl aa aa) (.on aa aa (ae aa)) aa aa (kPv (aJ aa aa aa) aa (ad (aj [26,4,1,3,2,0] rfl (bH aa (rfl) (aw (ac (ab (kPm aa aa (kPv (ah isAgg39 sizeOf39 aa aa) aa ?_)))))))))
 refine kPv (ah isAgg125 sizeOf125 aa aa) aa ?_
 refine aM [7] (aE aa (ar call159 aa) (n3 _ _ bd s2 ⟨3,1,48⟩ iO ⟨0,2,[0]⟩ sv ⟨⟨by decide,by decide⟩,⟨by decide,by decide⟩⟩ hsv) .free aa aa ?_)
 rintro _ _ ⟨mb,rfl,rfl⟩
 rw[e8,e9]
 refine kPm aa aa (kPv (az aa aa) aa (kPv (az aa aa) aa (kPa aa aa (kPa aa aa (ad (aj [6,5,4,0] rfl (ac (ab (kPm aa aa (kPv (am aa aa aa) aa (kPm aa aa ?_)))))))))))
 refine ao aa (al aa) (.on aa aa (ae aa)) aa aa (ao aa (wI aa runUnderlying220 aa) (.on aa aa (ae aa)) aa aa (ao aa (am aa aa aa) (.on aa aa (ae aa)) aa aa (kPv (aB aa aa aa) aa (kPm aa aa (ao aa (al aa) (.on aa aa (ae aa)) aa aa (ao aa (bS aa runUnderlying59 ⟨_,rfl⟩ rfl) (.on aa aa (ae aa)) aa aa (ao aa (am aa aa aa) (.on aa aa (ae aa)) aa aa (kPv (aB aa aa aa) aa (kPm aa aa (ao aa (al aa) (.on aa aa (ae aa)) aa aa (ao aa (al aa) (.on aa aa (ae aa)) aa aa ?_)))))))))))
 refine ao aa (cC runUnderlying59 sizeOf3 aa aa (by decide) (by decide)) (.on aa aa (ae aa)) aa aa (ao aa (cf (v:=i64 40) isAgg3 (cP 7 aa) aa aa) (.on aa aa (ae aa)) aa aa (ao aa ((lz runUnderlying220 runUnderlying3 zeroValue134 aa aa).eq (zf _)) (.on aa aa (ae aa)) aa aa (ao aa (xU runUnderlying134 (t:=63) (off:=0) aa isAgg63 sizeOf63 aa) (.on aa aa (ae aa)) aa aa (ao aa (ie runUnderlying63 (t:=3) (off:=0) aa isAgg3 aa aa) (.on aa aa (ae aa)) aa aa (ao aa (am aa aa aa) (.on aa aa (ae aa)) aa aa (kPv (aB aa aa aa) aa (kPa aa aa (ad (aj [0] rfl (au ?_))))))))))
 exact aq results258 aa (fun w hh=>⟨rfl,(hh.dp [0,0,0,0,0,0,0,0,0,0])⟩)
def hs2:List (Int×Int):=[(0,1),(0,2)]
theorem hh2:∀ h∈[((0:Int),(1:Int)),(0,2)],(0≤h.1∧h.1<256)∧(0≤h.2∧h.2<256):=fun h hm=>by
 simp only[List.mem_cons,List.not_mem_nil,or_false] at hm
 rcases hm with rfl | rfl<;>exact⟨by decide,by decide⟩
theorem Dv{B:World}{H:List HP}{b:Nat}{x y z u:Value}{T1:TypeId}{U:List Value→List HP}[fK H b [x,y,z,u] T1 U]{cap:Nat}:SlN B H (.slice (some ⟨b,0,none⟩) 2 cap) 2 [[x,y],[z,u]]:=
 SlN.row (cs:=[[x,y],[z,u]]) fun i c h=>by
  cases i with
  | zero=>
    cases h
    refine⟨rfl,fun j hj=> ?_⟩
    rcases j with _ | _ | j
    ·rfl
    ·rfl
    ·omega
  | succ i=>
    cases i with
    | zero=>
      cases h
      refine⟨rfl,fun j hj=> ?_⟩
      rcases j with _ | _ | j
      ·rfl
      ·rfl
      ·omega
    | succ i=>cases h
theorem wS{α:Type}{B:World}{σ:Env}{H:List HP}{P:Program}{m:Nat}{enc:α→List Value}(he:nb m enc){d:Option Tmp}{ty:TypeId}{p:String}{af:Array Edge}{g:Option (Nat×Bool)}{t e:TypeId}{x y:Operand}{v u:α}{xv yv z:Value}(ht:∀ w,(underlying t).run P w= .ok (.slice e) w)(hs:∀ w,(sizeOf e).run P w= .ok m w)(hz:∀ w,(zeroValue e).run P w= .ok z w)(hm0:(0<m∧m≤1000)∧z.cells.size=m)(hx:evO σ x=some xv)(hv:xv.cells=(enc v).toArray)(hy:evO σ y=some yv)(hu:yv.cells=(enc u).toArray):
 Chg P B σ H ⟨d,.buildSlice t 2 #[(0,x),(1,y)],ty,p,af,g⟩ (fun r H'=>∃ b,r= .slice (some ⟨b,0,none⟩) 2 2∧H'=row b (enc v++enc u) e::H):=by
 intro a w kn hh
 refine⟨.value (.slice (some ⟨w.heap.size,0,none⟩) 2 2),{w with heap:=w.heap.push (.cells (enc v++enc u).toArray e)},?_,_,.inl aa,_,⟨_,rfl,rfl⟩,by simpa [row] using hh.new _⟩
 have h1:m≠0:=by omega
 have h2:¬ 16777216<2*m:=by omega
 have hl:(enc v).length=m:=he.len v
 have hl2:(enc u).length=m:=he.len u
 have key:∀ (k:Nat) (vs:List Value) (a:Array Value) (j:Nat),k+vs.length≤a.size→(List.foldl (fun (cs:Array Value) (x:Value×Nat)=>cs.setIfInBounds (k+x.2) x.1) a vs.zipIdx)[j]? =if k≤j∧j<k+vs.length then vs[j - k]? else a[j]? :=by
  intro k vs a j h
  have:=kW vs k a h j
  rw[←this]
  congr 1
  have hz:vs.zipIdx k=vs.zipIdx.map fun x=>(x.1,k+x.2):=by
   apply List.ext_getElem?
   intro i
   simp[List.getElem?_zipIdx]
   cases vs[i]?<;>simp
  rw[hz,List.foldl_map]
 have hsz:∀ (g:Nat→Nat) (l:List (Value×Nat)) (a:Array Value),(List.foldl (fun (cs:Array Value) (x:Value×Nat)=>cs.setIfInBounds (g x.2) x.1) a l).size=a.size:=by
  intro g l
  induction l with
  | nil=>intro a;rfl
  | cons x l ih=>intro a;rw[List.foldl_cons,ih];simp
 simp[execOp,Instr.buildSlice,ht,hs,Instr.fill,dr,hz,kn.eval hx,hv,kn.eval hy,hu,h1,h2,hl,hl2]
 generalize hA:Array.map (fun x=>z.cells[x%z.cells.size]!) (Array.range (2*m))=A
 have hAs:A.size=2*m:=by rw[←hA];simp
 rw[if_neg (by omega),if_neg (by omega),if_neg (by rw[hsz (fun x=>x) _ A];omega)]
 generalize hF:List.foldl (fun (cs:Array Value) (x:Value×Nat)=>cs.setIfInBounds x.snd x.fst) A (enc v).zipIdx=F
 have hFs:F.size=2*m:=by rw[←hF,hsz (fun x=>x) _ A];exact hAs
 have hF2:∀ j,F[j]? =if j<m then (enc v)[j]? else A[j]? :=fun j=>by
  have:=kW (enc v) 0 A (by omega) j
  rw[←hF,this]
  simp[hl]
 have e9:List.foldl (fun (cs:Array Value) (x:Value×Nat)=>cs.setIfInBounds (m+x.snd) x.fst) F (enc u).zipIdx=(enc v++enc u).toArray:=by
  apply Array.ext_getElem?
  intro j
  rw[key m (enc u) F j (by omega),hF2,show(enc v++enc u).toArray[j]? =(enc v++enc u)[j]? by simp,List.getElem?_append,hl,hl2]
  by_cases h3:j<m
  ·rw[if_neg (by omega),if_pos h3,if_pos h3]
  ·rw[if_neg h3]
   by_cases h4:j<m+m
   ·rw[if_pos (by omega),if_neg h3]
   ·rw[if_neg (by omega),if_neg h3,List.getElem?_eq_none (by omega),Array.getElem?_eq_none (by omega)]
 simp only[e9]
 rfl
theorem Ah(pa:Nat):okB ((iU pa [] 136).format c48) (fun _ s=>okB (gY c48 [(0,1),(0,2)] s []) fun out sF=>out==[40,42]&&iP (sF.block c48) ⟨0,5,[0]⟩ 0&&okB (eI c48 ⟨0,5,[0]⟩ (dC [] [40,42] 0) [40,42] 0 sF) fun n1 s1=>n1==some 0&&okB (fN c48 (dC [] [40,42] 0) 1 0 0 s1) fun _ s2=>iP (s2.block c48) ⟨0,5,[0]⟩ 0&&s2.reachSize c48 ⟨0,5,[0]⟩ []==0&&s2.reachSize c48 ⟨0,5,[0]⟩ [42]==3)=true:=by kernel_rfl
theorem Ag(pa bd:Nat):okB ((iU pa [] 136).format c48) (fun _ s=>okB (gY c48 [(0,1)] s []) fun out sF=>out==[40]&&iP (sF.block c48) ⟨0,2,[0]⟩ 0&&okB (eI c48 ⟨0,2,[0]⟩ (dC [] [40] 0) [40] 0 sF) fun n1 s1=>n1==some 0&&okB (fN c48 (dC [] [40] 0) 1 0 0 s1) fun _ s2=>iP (s2.block c48) ⟨0,2,[0]⟩ 0&&okB ((ei bd c48 ⟨0,2,[0]⟩ [0]).step s2) fun r s3=> !r.1&&okB (r.2.step s3) fun r2 _=>r2.1&&iP (r2.2.block,0) ⟨1,0,[0]⟩ 0)=true:=by kernel_rfl
def B1(o:Option bC)(w v:Int):Bool:=match o with
 | some X=>(bG X.went w).getD 0==v
 | none=>false
theorem Af(pa bd:Nat):okB ((iU pa [] 136).format c48) (fun _ s=>okB (gY c48 [(0,1),(0,2)] s []) fun out sF=>out==[40,42]&&iP (sF.block c48) ⟨0,5,[0]⟩ 0&&okB (eI c48 ⟨0,5,[0]⟩ (dC [] [40,42] 0) [40,42] 0 sF) fun n1 s1=>n1==some 0&&okB (fN c48 (dC [] [40,42] 0) 1 0 0 s1) fun _ s2=>iP (s2.block c48) ⟨0,5,[0]⟩ 0&&(bP bd c48 s2).n==0&&okB (eS bd c48 ⟨bP bd c48 s2,0,0,[],[]⟩ s2 [42]) fun r s3=>r.2.1==0&&B1 r.1 42 88&&iP (s3.block c48) ⟨1,3,[0]⟩ 0)=true:=by kernel_rfl
theorem vn(B:World)(Fr:List HP):
 ∀ w,Holds B Fr w→Calls Tryz.prog 248 [].toArray w (aZ B Fr (.bool true)):=by
 refine ak func248 aa ntmps248 aa (ac (ab (kPa aa aa (ad (ac (ac (ab (ap aa (ar call258 aa) (vo _ _) .free aa aa ?_))))))))
 refine kPv (bu aa) aa (ad (bH aa (rfl) (aw (ac (ab (kPv (aR aa (cW _ _ _ aa aa aa)) aa (kPb (aD zeroValue39 aa) aa fun b1=>(kPs (aA (vs:=_) sizeOf39 aa aa aa aa aa) aa (ad (ac (ab ?_)))))))))))
 refine kPv (ah isAgg39 sizeOf39 aa aa) aa ?_
 refine aE aa (ar call70 aa) (dZ _ _ ⟨3,1,8⟩ gg none 0 [] (by decide) (fun _ h=>absurd h (Nat.not_lt_zero _)) SlR.nil) .free aa aa ?_
 rintro _ _ ⟨bd,pa,N,s0,hN,hf,rfl,rfl⟩
 obtain rfl:N=56:=by have:(N:Int)=56:=hN.trans (by decide);omega
 have hfm:=mN gg hN hf
 have hu0:=gx (jh pa 56) gg hf
 have hev:=cg (Ai pa) hf
 simp only[Bool.and_eq_true,beq_iff_eq] at hev
 refine kPm aa aa (kPv (az aa aa) aa (kPv (az aa aa) aa (kPa aa aa (kPa aa aa (ad (aj [3,2,1,0] rfl (ac (ac (ab (kPm aa aa (kPv (bu aa) aa ?_)))))))))))
 refine kPm aa aa (ao aa (al aa) (.on aa aa (ae aa)) aa aa (ao aa (ah isAgg39 sizeOf39 aa aa) (.on aa aa (ae aa)) aa aa ?_))
 refine ap aa (ar call114 aa) (bF (q:=ax) (fun Fr=>kY _ Fr _ s0 ⟨3,1,8⟩ gg hu0)) (.on aa aa (ae aa)) aa aa ?_
 refine ao aa (am aa aa aa) (.on aa aa (ae aa)) aa aa (kPv (aJ aa aa aa) aa (ad (aj [19,2,1,0] rfl (bH aa (by rw[hev.1];rfl) (aw (ac (ab (kPm aa aa (kPv (ah isAgg39 sizeOf39 aa aa) aa ?_)))))))))
 refine ap aa (ar call82 aa) (jz _ _ ⟨3,1,8⟩ gg 0 (by decide) (by decide)) .free aa aa ?_
 refine aE aa (ar call104 aa) (oU _ _ bd s0 34 5 hfm.lim hu0 (by decide)) .free aa aa ?_
 rintro _ _ ⟨x1,s1,hm1,rfl,hl1,hn1,hu1,rfl⟩
 have hev2:=cg hev.2 hm1
 simp only[beq_iff_eq] at hev2
 refine ad (ac (ab (kPm aa aa (kPv (ah isAgg39 sizeOf39 aa aa) aa ?_))))
 refine ap aa (ar call114 aa) (bF (q:=ax) (fun Fr=>kY _ Fr _ s1 ⟨3,1,8⟩ gg hu1)) .free aa aa ?_
 refine kPv (am aa aa aa) aa (kPa aa aa (ad (aj [0] rfl (au ?_))))
 exact aq results248 aa (fun w hh=>⟨by rw[hev2];rfl,(hh.dp [0,0])⟩)
theorem vm(B:World)(Fr:List HP):
 ∀ w,Holds B Fr w→Calls Tryz.prog 229 [].toArray w (aZ B Fr (.bool true)):=by
 refine ak func229 aa ntmps229 aa (ac (ab (kPa aa aa (ad (ac (ac (ab (ap aa (ar call248 aa) (vn _ _) .free aa aa ?_))))))))
 refine kPv (bu aa) aa (ad (bH aa (rfl) (aw (ac (ab (kPv (aR aa (jj _ aa)) aa (kPv (aR aa (ig _ aa)) aa (kPv (aR aa (ig _ aa)) aa (kPb (wS pA (v:=(0,1)) (u:=(0,2)) runUnderlying280 sizeOf279 zeroValue279 ⟨⟨by decide,by decide⟩,rfl⟩ rfl aa aa aa) aa fun b11=>(aE aa (ar call208 aa) (kT _ _ 0 0 40 ⟨by decide,by decide,by decide⟩ ⟨3,1,48⟩ sU [(0,1),(0,2)] (hh2) (by decide) (some ⟨b11,0,none⟩) _ Dv none 0 [] SlR.nil (fun _ h=>(by cases h)) (by decide) (fun _ h=>absurd h (Nat.not_lt_zero _)) 0 (by decide)) .free aa aa ?_))))))))))
 rintro _ _ ⟨bd,pa,N,s0,sF,out,hfm,hN,⟨hus0,hf⟩,hfill,hor⟩
 obtain rfl:=n48 hN
 have hev:=cg (cg (Ah pa) hf) hfill
 simp only[Bool.and_eq_true,beq_iff_eq] at hev
 obtain⟨⟨rfl,e1⟩,e2⟩:=hev
 rw[ef e1] at hor
 rcases hor with ⟨n1,n2,s1,s2,ov,sv,hl1,hl2,hu2,hlm2,hn2,hov,hsv,rfl,rfl⟩ | ⟨s1,hl1,_⟩
 rotate_left
 ·have e3:=cg e2 hl1
  simp only[Bool.and_eq_true,beq_iff_eq] at e3
  exact absurd e3.1 (by simp)
 have e3:=cg e2 hl1
 simp only[Bool.and_eq_true,beq_iff_eq] at e3
 obtain⟨e4,e5⟩:=e3
 obtain rfl:n1=0:=by injection e4
 have e6:=cg e5 hl2
 simp only[Bool.and_eq_true,beq_iff_eq] at e6
 obtain⟨⟨e7,e8⟩,e9⟩:=e6
 rw[ef e7]
 refine aM [2] (cy fun qo co hqo hqi=> ?_)
 subst hqo
 obtain⟨bO,oO,rfl⟩:=hqi 0 (by decide)
 refine kPm aa aa (kPv (az aa aa) aa (kPv (az aa aa) aa (kPv (az aa aa) aa (kPv (az aa aa) aa (kPb (aD zeroValue39 aa) aa fun b2=>(kPb (aD zeroValue125 aa) aa fun b3=>(kPa aa aa (kPs (aA (vs:=_) sizeOf39 aa aa aa aa aa) aa ?_))))))))
 refine kPs (aA (vs:=_) sizeOf125 aa aa aa (by first | rfl | exact eB (by assumption)) rfl) rfl ?_;refine kPa aa aa ?_;refine ad ?_;refine aj [4,1,3,2,0] rfl ?_;refine ac ?_;refine ac ?_;refine ab ?_;refine kPm aa aa ?_;refine kPv (cV runUnderlying53 aa aa aa) aa ?_;refine kPm aa aa ?_;refine ao aa (al aa) (.on aa aa (ae aa)) aa aa ?_
 refine ao aa (bS aa runUnderlying59 ⟨_,rfl⟩ rfl) (.on aa aa (ae aa)) aa aa (ao aa (am aa aa aa) (.on aa aa (ae aa)) aa aa (kPv (aJ aa aa aa) aa (kPm aa aa (ao aa (al aa) (.on aa aa (ae aa)) aa aa (ao aa (ah isAgg39 sizeOf39 aa aa) (.on aa aa (ae aa)) aa aa ?_)))))
 refine ao aa (ah isAgg125 sizeOf125 aa aa) (.on aa aa (ae aa)) aa aa ?_
 refine aE aa (ar call148 aa) (rZ _ _ bd ⟨3,1,48⟩ ⟨0,5,[0]⟩ sv hsv (.slice none 0 0) aa) (.on aa aa (ae aa)) aa aa ?_
 rintro _ _ ⟨c1,c2,c3,c4,rfl,rfl⟩
 refine ao aa (nT runUnderlying205 ⟨_,_,_,rfl⟩ rfl aa aa) (.on aa aa (ae aa)) aa aa (kPv (aJ aa aa aa) aa (ad (aj [30,4,1,3,2,0] rfl (bH aa (rfl) (aw (ac (aK (H':=ax bd s2::dQ 3 i64 0 (.slice (some ⟨bO,oO,none⟩) 2 co,[40,42])::row b3 [i64 0,i64 5,sv] 125::row b2 [i64 3,i64 1,i64 48] 39::da 0 (sv,[0])::Fr) (fun w hh=>by have h:=((hh.dp [0,0,0,0,5]).pk [4,2]);exact h) (cQ [0,1,2,3,4,5,6,7,8,9,10,11,12,13,14,15,16,17] [3,13,14] [6,7,8] [13] [row b2 [i64 3,i64 1,i64 48] 39,row b3 [i64 0,i64 5,sv] 125,dQ 3 i64 0 (.slice (some ⟨bO,oO,none⟩) 2 co,[40,42])] Tryz.mixed (by kernel_rfl) ?_))))))))
 refine aT aa aa aa (al aa) .free aa (aT aa aa aa (ah isAgg39 sizeOf39 aa aa) .free aa ?_)
 refine aT aa aa aa (ah isAgg125 sizeOf125 aa aa) .free aa ?_
 refine aS aa aa (ap aa (ar call85 aa) (n4 B _ bd ⟨3,1,48⟩ iO ⟨0,5,[0]⟩ sv ⟨⟨by decide,by decide⟩,⟨by decide,by decide⟩⟩ hsv s2 none 0 [] (fun _ h=>(by cases h)) (by decide) (fun _ h=>absurd h (Nat.not_lt_zero _)) SlR.nil) .free aa aa ?_)
 refine ad (cZ aa (aT aa aa aa (am aa aa aa) .free aa (aT aa aa aa (al aa) .free aa (an aa aa aa (al aa) (.on aa aa (ae (by rw[e8];rfl))) aa (an aa aa aa (ah isAgg39 sizeOf39 aa aa) (.on aa aa (ae (by rw[e8];rfl))) aa ?_)))))
 refine an aa aa aa (ah isAgg125 sizeOf125 aa aa) (.on aa aa (ae (by rw[e8];rfl))) aa ?_
 refine aT aa aa aa (al aa) (.on aa aa (ae (by rw[e8];rfl))) aa (aT aa aa aa (cC runUnderlying59 sizeOf3 aa aa (by decide) (by decide)) (.on aa aa (ae (by rw[e8];rfl))) aa (aT aa aa aa (cf (v:=i64 42) isAgg3 (cP 1 aa) aa aa) (.on aa aa (ae (by rw[e8];rfl))) aa (aT aa aa aa (cR (c:=42) runUnderlying3 runUnderlying24 aa (by decide)) (.on aa aa (ae (by rw[e8];rfl))) aa (aS aa aa (cX aa (gA runUnderlying22 sizeOf24 zeroValue24 aa aa aa) (.on aa aa (ae (by rw[e8];rfl))) aa aa ?_)))))
 rintro _ _ ⟨b44,rfl,rfl⟩
 refine ad (cL (aM [1] (aS aa aa (ap aa (ar call85 aa) (n4 B _ bd ⟨3,1,48⟩ iO ⟨0,5,[0]⟩ sv ⟨⟨by decide,by decide⟩,⟨by decide,by decide⟩⟩ hsv s2 (some ⟨b44,0,none⟩) 1 [42] (fun v h=>by rw[List.mem_singleton.1 h];decide) (by decide) (fun _ _=>⟨_,_,rfl⟩) (SlR.row (b:=b44) aa aa)) (.on aa aa (ae (by rw[e8];rfl))) aa aa ?_))))
 refine ad (cZ aa (aT aa aa aa (am aa aa aa) (.on aa aa (ae (by rw[e8];rfl))) aa (aT aa aa aa (aB aa (by rw[e8];rfl) aa) .free aa (aT aa aa aa (bE aa) .free aa (cM (aj [0] rfl (au ?_)))))))
 exact aq results229 aa (fun w hh=>⟨by rw[e9];rfl,(hh.dp [0,0,0,0,0,0])⟩)
theorem vl(B:World)(Fr:List HP):
 ∀ w,Holds B Fr w→Calls Tryz.prog 207 [].toArray w (aZ B Fr (.bool true)):=by
 refine ak func207 aa ntmps207 aa (ac (ab (kPa aa aa (ad (ac (ac (ab (ap aa (ar call229 aa) (vm _ _) .free aa aa ?_))))))))
 refine kPv (bu aa) aa (ad (bH aa (rfl) (aw (ac (ab (kPv (aR aa (jj _ aa)) aa (kPv (aR aa (ig _ aa)) aa (kPb (pG pA (v:=(0,1)) runUnderlying280 sizeOf279 zeroValue279 ⟨⟨by decide,by decide⟩,rfl⟩ rfl aa) aa fun b13=>(aE aa (ar call208 aa) (kT _ _ 0 0 40 ⟨by decide,by decide,by decide⟩ ⟨3,1,48⟩ sU [(0,1)] (hh1 ⟨by decide,by decide⟩ ⟨by decide,by decide⟩) (by decide) (some ⟨b13,0,none⟩) _ Cs none 0 [] SlR.nil (fun _ h=>(by cases h)) (by decide) (fun _ h=>absurd h (Nat.not_lt_zero _)) 0 (by decide)) .free aa aa ?_)))))))))
 rintro _ _ ⟨bd,pa,N,s0,sF,out,hfm,hN,⟨hus0,hf⟩,hfill,hor⟩
 obtain rfl:=n48 hN
 have hev:=cg (cg (Ag pa bd) hf) hfill
 simp only[Bool.and_eq_true,beq_iff_eq] at hev
 obtain⟨⟨rfl,e1⟩,e2⟩:=hev
 rw[ef e1] at hor
 rcases hor with ⟨n1,n2,s1,s2,ov,sv,hl1,hl2,hu2,hlm2,hn2,hov,hsv,rfl,rfl⟩ | ⟨s1,hl1,_⟩
 rotate_left
 ·have e3:=cg e2 hl1
  simp only[Bool.and_eq_true,beq_iff_eq] at e3
  exact absurd e3.1 (by simp)
 have e3:=cg e2 hl1
 simp only[Bool.and_eq_true,beq_iff_eq] at e3
 obtain⟨e4,e5⟩:=e3
 obtain rfl:n1=0:=by injection e4
 have e6:=cg e5 hl2
 simp only[Bool.and_eq_true,beq_iff_eq] at e6
 obtain⟨e7,e8⟩:=e6
 rw[ef e7]
 refine aM [2] (cy fun qo co hqo hqi=> ?_)
 subst hqo
 obtain⟨bO,oO,rfl⟩:=hqi 0 (by decide)
 refine kPm aa aa (kPv (az aa aa) aa (kPv (az aa aa) aa (kPv (az aa aa) aa (kPv (az aa aa) aa (kPb (aD zeroValue39 aa) aa fun b2=>(kPb (aD zeroValue125 aa) aa fun b3=>(kPa aa aa (kPs (aA (vs:=_) sizeOf39 aa aa aa aa aa) aa ?_))))))))
 refine kPs (aA (vs:=_) sizeOf125 aa aa aa (by first | rfl | exact eB (by assumption)) rfl) rfl ?_;refine kPa aa aa ?_;refine ad ?_;refine aj [4,1,3,2,0] rfl ?_;refine ac ?_;refine ac ?_;refine ab ?_;refine kPm aa aa ?_;refine kPv (cV runUnderlying53 aa aa aa) aa ?_;refine kPm aa aa ?_;refine ao aa (al aa) (.on aa aa (ae aa)) aa aa ?_
 refine ao aa (bS aa runUnderlying59 ⟨_,rfl⟩ rfl) (.on aa aa (ae aa)) aa aa (ao aa (am aa aa aa) (.on aa aa (ae aa)) aa aa (kPv (aJ aa aa aa) aa (ad (aj [25,1,3,2,0] rfl (bH aa (rfl) (aw (ac (ab (kPm aa aa (kPv (ah isAgg39 sizeOf39 aa aa) aa ?_))))))))))
 refine kPv (ah isAgg125 sizeOf125 aa aa) aa ?_
 refine kPb (gA runUnderlying22 sizeOf24 zeroValue24 aa aa aa) aa fun b29=>(aM [4] (aE aa (ar call89 aa) (nU B _ bd ⟨3,1,48⟩ iO ⟨0,2,[0]⟩ ⟨⟨by decide,by decide⟩,⟨by decide,by decide⟩⟩ sv hsv (some ⟨b29,0,none⟩) 1 [0] (by decide) (fun h=>by cases h) (SlR.row (b:=b29) aa aa)) .free aa aa ?_))
 rintro _ _ ⟨x,rfl,rfl⟩
 have hX0:fj (ei bd ⟨3,1,48⟩ ⟨0,2,[0]⟩ [0]):=lU iO ⟨⟨by decide,by decide⟩,⟨by decide,by decide⟩⟩ (by decide) (fun v h=>by rw[List.mem_singleton.1 h];decide) (fun v h=>by rw[List.mem_singleton.1 h];decide)
 refine kPa aa aa (ad (aj [5,0] rfl (ac (ac (ab (kPm aa aa (kPv (cV runUnderlying121 aa aa aa) aa (ad (bH aa (rfl) (aw (ac ?_)))))))))))
 refine ab (kPm aa aa (aM [0,4] ?_))
 refine aQ aa (ar call150 aa) (kF B _ x (ei bd ⟨3,1,48⟩ ⟨0,2,[0]⟩ [0]) hX0 s2 hu2) .free aa aa ?_ ?_
 rotate_left
 ·rintro _ _ ⟨s9,hm9,_⟩
  exact(jD e8 hm9).elim
 rintro _ _ ⟨r1,s3,hm1,rfl,rfl⟩
 have e9:=cg e8 hm1
 simp only[Bool.and_eq_true,Bool.not_eq_true'] at e9
 obtain⟨e10,e11⟩:=e9
 obtain⟨hX1,hu3,_,hbd1,_⟩:=mx hX0 hu2 hm1
 refine aK (H':=eD x r1.2::ax r1.2.bd s3::_) (fun w hh=>by rw[hbd1];exact hh) (kPm aa aa ?_)
 refine aQ aa (ar call150 aa) (kF B _ x r1.2 hX1 s3 hu3) .free aa aa ?_ ?_
 rotate_left
 ·rintro _ _ ⟨s9,hm9,_⟩
  exact(jD e11 hm9).elim
 rintro _ _ ⟨r2,s4,hm2,rfl,rfl⟩
 have e12:=cg e11 hm2
 simp only[Bool.and_eq_true] at e12
 obtain⟨hX2,hu4,_⟩:=mx hX1 hu3 hm2
 have hbl:r2.2.block=⟨1,0,[0]⟩:=congrArg Prod.fst (ef e12.2)
 rw[e10,e12.1]
 refine kPa aa aa (kPa aa aa (ad (ac (ab (kPm aa aa (kPv (bu aa) aa (kPm aa aa (ao aa (al aa) (.on aa aa (ae aa)) aa aa (kPv (aB aa aa aa) aa (kPm aa aa (ao aa (al aa) (.on aa aa (ae aa)) aa aa ?_)))))))))))
 refine aE aa (ar call187 aa) (mV B _ x r2.2 hX2) (.on aa aa (ae aa)) aa aa ?_
 rintro _ _ ⟨bv5,hbv5,rfl,rfl⟩
 rw[hbl]
 refine ao aa (ie runUnderlying125 (t:=3) (off:=1) aa isAgg3 aa aa) (.on aa aa (ae aa)) aa aa (ao aa (am aa aa aa) (.on aa aa (ae aa)) aa aa (kPv (aB aa aa aa) aa (kPm aa aa (ao aa (al aa) (.on aa aa (ae aa)) aa aa (aM [1] (aE aa (ar call187 aa) (mV B _ x r2.2 hX2) (.on aa aa (ae aa)) aa aa ?_))))))
 rintro _ _ ⟨bv6,hbv6,rfl,rfl⟩
 rw[hbl]
 refine ao aa (ie runUnderlying125 (t:=3) (off:=0) aa isAgg3 aa aa) (.on aa aa (ae aa)) aa aa (ao aa (am aa aa aa) (.on aa aa (ae aa)) aa aa (kPv (aB aa aa aa) aa (kPa aa aa (ad (aj [0] rfl (au ?_))))))
 exact aq results207 aa (fun w hh=>⟨rfl,(hh.dp [0,0,0,0,0,0,0,0,0])⟩)
theorem vk(B:World)(Fr:List HP):
 ∀ w,Holds B Fr w→Calls Tryz.prog 191 [].toArray w (aZ B Fr (.bool true)):=by
 refine ak func191 aa ntmps191 aa (ac (ab (kPa aa aa (ad (ac (ac (ab (ap aa (ar call207 aa) (vl _ _) .free aa aa ?_))))))))
 refine kPv (bu aa) aa (ad (bH aa (rfl) (aw (ac (ab (kPv (aR aa (jj _ aa)) aa (kPv (aR aa (ig _ aa)) aa (kPv (aR aa (ig _ aa)) aa (kPb (wS pA (v:=(0,1)) (u:=(0,2)) runUnderlying280 sizeOf279 zeroValue279 ⟨⟨by decide,by decide⟩,rfl⟩ rfl aa aa aa) aa fun b16=>(aE aa (ar call208 aa) (kT _ _ 0 0 40 ⟨by decide,by decide,by decide⟩ ⟨3,1,48⟩ sU [(0,1),(0,2)] (hh2) (by decide) (some ⟨b16,0,none⟩) _ Dv none 0 [] SlR.nil (fun _ h=>(by cases h)) (by decide) (fun _ h=>absurd h (Nat.not_lt_zero _)) 0 (by decide)) .free aa aa ?_))))))))))
 rintro _ _ ⟨bd,pa,N,s0,sF,out,hfm,hN,⟨hus0,hf⟩,hfill,hor⟩
 obtain rfl:=n48 hN
 have hev:=cg (cg (Af pa bd) hf) hfill
 simp only[Bool.and_eq_true,beq_iff_eq] at hev
 obtain⟨⟨rfl,e1⟩,e2⟩:=hev
 rw[ef e1] at hor
 rcases hor with ⟨n1,n2,s1,s2,ov,sv,hl1,hl2,hu2,hlm2,hn2,hov,hsv,rfl,rfl⟩ | ⟨s1,hl1,_⟩
 rotate_left
 ·have e3:=cg e2 hl1
  simp only[Bool.and_eq_true,beq_iff_eq] at e3
  exact absurd e3.1 (by simp)
 have e3:=cg e2 hl1
 simp only[Bool.and_eq_true,beq_iff_eq] at e3
 obtain⟨e4,e5⟩:=e3
 obtain rfl:n1=0:=by injection e4
 have e6:=cg e5 hl2
 simp only[Bool.and_eq_true,beq_iff_eq] at e6
 obtain⟨⟨e7,e14⟩,e8⟩:=e6
 rw[ef e7]
 refine aM [2] (cy fun qo co hqo hqi=> ?_)
 subst hqo
 obtain⟨bO,oO,rfl⟩:=hqi 0 (by decide)
 refine kPm aa aa (kPv (az aa aa) aa (kPv (az aa aa) aa (kPv (az aa aa) aa (kPv (az aa aa) aa (kPb (aD zeroValue39 aa) aa fun b2=>(kPb (aD zeroValue125 aa) aa fun b3=>(kPa aa aa (kPs (aA (vs:=_) sizeOf39 aa aa aa aa aa) aa ?_))))))))
 refine kPs (aA (vs:=_) sizeOf125 aa aa aa (by first | rfl | exact eB (by assumption)) rfl) rfl ?_;refine kPa aa aa ?_;refine ad ?_;refine aj [4,1,3,2,0] rfl ?_;refine ac ?_;refine ac ?_;refine ab ?_;refine kPm aa aa ?_;refine kPv (cV runUnderlying53 aa aa aa) aa ?_;refine kPm aa aa ?_;refine ao aa (al aa) (.on aa aa (ae aa)) aa aa ?_
 refine ao aa (bS aa runUnderlying59 ⟨_,rfl⟩ rfl) (.on aa aa (ae aa)) aa aa (ao aa (am aa aa aa) (.on aa aa (ae aa)) aa aa (kPv (aJ aa aa aa) aa (kPm aa aa (ao aa (aC (m:=_) dM aa aa) (.on aa aa (ae aa)) aa aa (ao aa (ag isAgg3 aa aa) (.on aa aa (ae aa)) aa aa (ao aa (am aa aa aa) (.on aa aa (ae aa)) aa aa (kPv (aJ aa aa aa) aa (ad (aj [33,4,1,2,0] rfl (bH aa (rfl) (aw ?_)))))))))))
 refine ac (ab (kPm aa aa (kPv (ah isAgg39 sizeOf39 aa aa) aa ?_)))
 refine aM [4] (aE aa (ar call115 aa) (rj _ _ bd s2 ⟨3,1,48⟩ iO) .free aa aa ?_)
 rintro _ _ ⟨bs,rfl,rfl⟩
 refine kPa aa aa (ad (ac (ac (ab (jJ fun bl o1 o2=>(kPm aa aa (kPv (cV runUnderlying119 aa aa aa) aa (kPm aa aa (ao aa (al aa) (.on aa aa (ae aa)) aa aa (ao aa (aF aa) (.on aa aa (ae aa)) aa aa (ao aa (aC (m:=_) ix aa aa) (.on aa aa (ae aa)) aa aa ?_)))))))))))
 refine ao aa (ag isAgg141 aa aa) (.on aa aa (ae aa)) aa aa (ao aa (cV runUnderlying141 aa aa aa) (.on aa aa (ae aa)) aa aa (kPv (aJ aa aa aa) aa (ad (aj [45,5,4,1,2,0] rfl (bH aa (rfl) (aw (ac (aK (fun w hh=>dN (S:=(⟨bP bd ⟨3,1,48⟩ s2,0,0,[],[]⟩:bD)) hh) (aK (H':=dV bs (⟨bP bd ⟨3,1,48⟩ s2,0,0,[],[]⟩:bD)::ax bd s2::row b2 [i64 3,i64 1,i64 48] 39::dQ 3 i64 0 (.slice (some ⟨bO,oO,none⟩) 2 co,[40,42])::da 0 (sv,[0])::Fr) (fun w hh=>by have h:=(hh.dp [2,5]);exact h) (cQ [0,1,2,3,4,5,6,7,8,9,10,11,12,13] [7,8] [0,1,2] [7] [row b2 [i64 3,i64 1,i64 48] 39,dQ 3 i64 0 (.slice (some ⟨bO,oO,none⟩) 2 co,[40,42])] Tryz.mixed (by kernel_rfl) ?_))))))))))
 refine an aa aa aa (al aa) .free aa (an aa aa aa (ah isAgg39 sizeOf39 aa aa) .free aa ?_)
 refine an aa aa aa (al aa) .free aa (aT aa aa aa (al aa) .free aa (aT aa aa aa (cC runUnderlying59 sizeOf3 aa aa (by decide) (by decide)) .free aa (aT aa aa aa (cf (v:=i64 42) isAgg3 (cP 3 aa) aa aa) .free aa (aT aa aa aa (cR (c:=42) runUnderlying3 runUnderlying24 aa (by decide)) .free aa (aS aa aa (kPb (gA runUnderlying22 sizeOf24 zeroValue24 aa aa aa) aa fun b54=>(ad (cL (aS aa aa (aM [1,1] ?_))))))))))
 refine aQ aa (ar call209 aa) (tF B _ bs bd (⟨bP bd ⟨3,1,48⟩ s2,0,0,[],[]⟩:bD) ⟨3,1,48⟩ iO s2 hu2 ⟨iE iO,by rw[hn2];decide,rfl,rfl⟩ (some ⟨b54,0,none⟩) 1 [42] (by decide) (fun v h=>by rw[List.mem_singleton.1 h];decide) (SlR.row (b:=b54) aa aa)) .free aa aa ?_ ?_
 rotate_left
 ·rintro _ _ ⟨s9,hm9,_⟩
  exact(jD e8 hm9).elim
 rintro _ _ ⟨r,s3,hm3,hor⟩
 have e9:=cg e8 hm3
 simp only[Bool.and_eq_true,beq_iff_eq] at e9
 obtain⟨⟨e10,e11⟩,e12⟩:=e9
 rcases hor with ⟨h1,_⟩ | ⟨x,X,hX,h0,rfl,rfl⟩
 ·rw[h1] at e11;cases e11
 rw[hX] at e11
 have e13:(bG X.went 42).getD 0=88:=by simpa [B1] using e11
 have hu3:=(xX iO (fun v h=>by rw[List.mem_singleton.1 h];decide) (iE iO) hu2 (by rw[hn2];decide) e14 hm3).1
 refine ad (cZ aa (aT aa aa aa (al aa) .free aa (aT aa aa aa (az aa aa) .free aa (aT aa aa aa (az aa aa) .free aa (aT aa aa aa (bE aa) .free aa (aT aa aa aa (bE aa) .free aa (cM (aj [7,6,4,1,2,0] rfl (ac (ab (kPm aa aa ?_)))))))))))
 refine kPv (ah isAgg39 sizeOf39 aa aa) aa ?_
 refine aM [2] (aE aa (ar call135 aa) (fX _ _ _ _ ⟨3,1,48⟩ iO hu3) .free aa aa ?_)
 rintro _ _ ⟨sv3,hsv3,rfl,rfl⟩
 rw[ef e12]
 refine kPm aa aa (kPv (az aa aa) aa (kPv (az aa aa) aa (kPb (aD zeroValue125 aa) aa fun b8=> ?_)))
 refine kPs (aA (vs:=_) sizeOf125 aa aa aa (by first | rfl | exact eB (by assumption)) rfl) rfl ?_;refine kPa aa aa ?_;refine ad ?_;refine aj [9,8,7,6,4,2,0] rfl ?_;refine ac ?_;refine cN Tryz.mixed (by kernel_rfl) (by kernel_rfl) ?_;refine kQm aa aa ?_;refine kQv (am aa aa aa) aa ?_
 refine kQm aa aa (bg aa (al aa) (.on aa aa (ae aa)) aa (bg aa (cV runUnderlying121 aa aa aa) (.on aa aa (ae aa)) aa (kQv (aB aa aa aa) aa (kQm aa aa (bg aa (al aa) (.on aa aa (ae aa)) aa (bg aa (am aa aa aa) (.on aa aa (ae aa)) aa (kQv (aB aa aa aa) aa (kQm aa aa (bg aa (aC (m:=_) iy aa aa) (.on aa aa (ae aa)) aa (bg aa (ag isAgg3 aa aa) (.on aa aa (ae aa)) aa (bg aa (am aa aa aa) (.on aa aa (ae aa)) aa ?_)))))))))))
 refine kQv (aB aa aa aa) aa (kQm aa aa (bg aa (aC (m:=_) dM aa aa) (.on aa aa (ae aa)) aa (bg aa (ag isAgg3 aa aa) (.on aa aa (ae aa)) aa (bg aa (am aa aa aa) (.on aa aa (ae aa)) aa (kQv (aB aa aa aa) aa (kQm aa aa (bg aa (al aa) (.on aa aa (ae aa)) aa (bg aa (al aa) (.on aa aa (ae aa)) aa (bg aa (cC runUnderlying59 sizeOf3 aa aa (by decide) (by decide)) (.on aa aa (ae aa)) aa (bg aa (cf (v:=i64 42) isAgg3 (cP 7 aa) aa aa) (.on aa aa (ae aa)) aa (bg aa (cR (c:=42) runUnderlying3 runUnderlying24 aa (by decide)) (.on aa aa (ae aa)) aa ?_)))))))))))
 refine bj aa (ar call153 aa) (bF (q:=eD) (fun Fr=>tM B Fr x X 42)) (.on aa aa (ae aa)) aa ?_
 refine bg aa (ah isAgg39 sizeOf39 aa aa) (.on aa aa (ae aa)) aa ?_
 refine bj aa (ar call67 aa) (jL _ _ ⟨3,1,48⟩ iO 1 (by decide) (by decide)) (.on aa aa (ae aa)) aa ?_
 refine bg aa (am aa aa aa) (.on aa aa (ae aa)) aa (kQv (aB aa aa aa) aa (kQa aa aa (bM (aj [0] rfl (au ?_)))))
 exact aq results191 aa (fun w hh=>⟨by rw[e13];rfl,(hh.dp [0,0,0,0,0,0,0,0,0])⟩)
theorem Tryz.ownKnobs:ownKnob Tryz.prog.godebug=none:=by kernel_rfl
theorem Tryz.laidOut:laidOutB Tryz.prog=true:=by kernel_rfl
theorem zp{P:Program}{f:FuncId}{vs:Array Value}{W:World}(h:∀ w,Holds W [old W] w→Calls P f vs w (aZ W [old W] (.bool true))):
 Calls P f vs W (fun e w'=>e= .returned (.bool true)∧RowKit.Below W.heap.size W w'):=(h W (qF W)).mono fun _ _ ⟨h1,h2⟩=>⟨h1,h2.oldb⟩
theorem uc{B:World}{sv:Value}{xs:List Int}{Fr:List HP}{w:World}(h:Holds B (iC 0 (sv,xs)::Fr) w):Holds B (dQ 3 i64 0 (sv,xs)::Fr) w:=by
 rcases jI h with ⟨rfl,rfl,h2⟩ | ⟨bd,rest,rfl,h2⟩
 ·exact fE h2
 ·exact gB aa aa h2
def eT.drop(T:eT)(n:Int):eT:=⟨lW T.at_ n,if (bG T.at_ n).isSome=true then lW T.no ((bG T.at_ n).getD 0) else T.no,T.last⟩
theorem vj(B:World)(Fr:List HP):
 ∀ w,Holds B Fr w→Calls Tryz.prog 162 [].toArray w (aZ B Fr (.bool true)):=by
 refine ak func162 aa ntmps162 aa (ac (ab (kPa aa aa (ad (ac (ac (ab (ap aa (ar call191 aa) (vk _ _) .free aa aa ?_))))))))
 refine kPv (bu aa) aa (ad (bH aa (rfl) (aw (ac (ab (aE aa (ar call116 aa) (wj _ _) .free aa aa ?_))))))
 rintro _ _ ⟨tb,rfl,rfl⟩
 refine kPa aa aa (ad (ac (ab (kPm aa aa (kPv (cV runUnderlying120 aa aa aa) aa (kPm aa aa (ao aa (al aa) (.on aa aa (ae aa)) aa aa (de aa (ar call78 aa) (ip _ _ _ _ _ ⟨by decide,by decide⟩) (.on aa aa (ae aa)) aa aa ?_))))))))
 refine ao aa (am aa aa aa) (.on aa aa (ae aa)) aa aa (kPv (aB aa aa aa) aa (kPm aa aa (ao aa (al aa) (.on aa aa (ae aa)) aa aa (de aa (ar call78 aa) (ip _ _ _ _ _ ⟨by decide,by decide⟩) (.on aa aa (ae aa)) aa aa ?_))))
 refine ao aa (am aa aa aa) (.on aa aa (ae aa)) aa aa (kPv (aB aa aa aa) aa (kPm aa aa (ao aa (al aa) (.on aa aa (ae aa)) aa aa (de aa (ar call78 aa) (ip _ _ _ _ _ ⟨by decide,by decide⟩) (.on aa aa (ae aa)) aa aa ?_))))
 refine ao aa (am aa aa aa) (.on aa aa (ae aa)) aa aa (kPv (aB aa aa aa) aa (kPm aa aa (ao aa (al aa) (.on aa aa (ae aa)) aa aa (de aa (ar call78 aa) (ip _ _ _ _ _ ⟨by decide,by decide⟩) (.on aa aa (ae aa)) aa aa ?_))))
 refine ao aa (am aa aa aa) (.on aa aa (ae aa)) aa aa (kPv (aB aa aa aa) aa (kPa aa aa (ad (aj [0] rfl (au ?_)))))
 exact aq results162 aa (fun w hh=>⟨rfl,(hh.dp [0])⟩)
end Go.Proofs.YtipdhkmphngmoaaGreatDoor
