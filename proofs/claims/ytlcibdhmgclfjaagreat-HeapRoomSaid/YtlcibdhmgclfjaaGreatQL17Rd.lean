/- Part of a law's texts. Conditions: none. -/
import Derived.Test.YtlcibdhmgclfjaaGreatQL17Rc
set_option linter.all false
namespace Go.Proofs.YtlcibdhmgclfjaaGreat
open Go
section
variable {B:World} {σ:Env} {H:List HP} {P:Program} {d:Option Tmp} {ty:TypeId} {p:String} {af:Array Edge} {g:Option (Nat×Bool)} {α:Type} {kk:IntKind} {enc:α→Value} {r:Nat} {l:List (Int×α)} {U:List (Int×α)→List HP}
theorem sZ{key:Int}:∀ (l:List (Int×α)) (i j:Nat) (x:α),eS l key i=some (j,x)→i≤j∧ji l key=l.eraseIdx (j - i)
 | [],i,j,x,h=>by cases h
 | q::l,i,j,x,h=>by
   unfold eS at h
   split at h
   ·rename_i hk
    cases h
    refine⟨Nat.le_refl _,?_⟩
    unfold ji
    rw[if_pos hk,Nat.sub_self];rfl
   ·rename_i hk
    obtain⟨h1,h2⟩:=sZ l (i+1) j x h
    refine⟨by omega,?_⟩
    unfold ji
    rw[if_neg hk,h2,show j - i=(j - (i+1))+1 by omega];rfl
theorem ph{key:Int}:∀ (l:List (Int×α)) (i:Nat),eS l key i=none→ji l key=l
 | [],i,h=>rfl
 | q::l,i,h=>by
   unfold eS at h
   split at h
   ·cases h
   ·rename_i hk
    unfold ji
    rw[if_neg hk,ph l (i+1) h]
theorem tc{β γ:Type}(f:β→γ):∀ (l:List β) (j:Nat),(l.map f).eraseIdx j=(l.eraseIdx j).map f
 | [],_=>rfl
 | _::_,0=>rfl
 | a::l,j+1=>by simp only[List.map_cons,List.eraseIdx_cons_succ,tc f l j]
theorem MW.erase{bn:Int→Nat}{clock:Nat}(m:MW bn l clock)(j:Nat):MW bn (l.eraseIdx j) clock:=by
 have hs:(l.eraseIdx j).Sublist l:=List.eraseIdx_sublist l j
 exact⟨(hs.map Prod.fst).nodup m.keys,fun p hp q hq=>m.inj p (hs.subset hp) q (hs.subset hq),fun p hp=>m.lt p (hs.subset hp)⟩
theorem tH{t k e:TypeId}{x y:Operand}{at_:Array TypeId}{key:Int}(ha:at_[0]? =some t)(ht:∀ w,(underlying t).run P w= .ok (.map k e) w)(hk:∀ w,(underlying k).run P w= .ok (.int kk) w)
 (hx:evO σ x=some (.map (some r))) (hy:evO σ y=some (.int kk key)) [m:kB H r kk enc l U]:
 Chg P B σ H ⟨d,.call ⟨.builtin .delete, #[x,y],at_⟩,ty,p,af,g⟩ (fun _ H'=>H'=U (ji l key)):=by
 intro a w kn hh
 obtain⟨bn,clock,ho,hm⟩:=m.obj hh
 have hf:=jb (kk:=kk) (enc:=enc) (bn:=bn) (q:=kk) key l 0
 have hkey:MapKept.IsKey (.int kk) (.int kk key):=rfl
 cases hc:eS l key 0 with
 | none=>
   rw[hc] at hf
   have e:=ph l 0 hc
   refine⟨.value (.tuple #[]),{w with heap:=w.heap.setIfInBounds r (.map (cm kk enc bn (ji l key)).toArray clock)},?_,_,.inl aa,_,rfl,m.put hh (bn:=bn) (clock:=clock) (by rw[e];exact hm)⟩
   rw[e]
   simp[execOp,resolve,invoke,builtin,Builtin.delete_,ha,kn.eval hx,kn.eval hy,ht,MapKept.run_getObj_map ho,MapKept.run_checkKey (gr hk) hkey,MapKept.run_findKey (gr hk) hf,MapKept.run_setObj_map _ ho]
 | some v=>
   obtain⟨j,x'⟩:=v
   rw[hc] at hf
   obtain⟨_,h2⟩:=sZ l 0 j x' hc
   rw[Nat.sub_zero] at h2
   refine⟨.value (.tuple #[]),{w with heap:=w.heap.setIfInBounds r (.map (cm kk enc bn (ji l key)).toArray clock)},?_,_,.inl aa,_,rfl,m.put hh (bn:=bn) (clock:=clock) (by rw[h2];exact hm.erase j)⟩
   have hj:(cm kk enc bn l).eraseIdx j=cm kk enc bn (ji l key):=by rw[h2];exact tc _ l j
   simp[execOp,resolve,invoke,builtin,Builtin.delete_,ha,kn.eval hx,kn.eval hy,ht,MapKept.run_getObj_map ho,MapKept.run_checkKey (gr hk) hkey,MapKept.run_findKey (gr hk) hf,MapKept.run_setObj_map _ ho,hj]
def E2{α:Type}(kk:IntKind)(enc:α→Value)(r:Nat)(l:List (Int×α))(key:Int)(stamp:Nat):HP:=fun h=>∃ bn clock,h r=some (.map (cm kk enc bn l).toArray clock)∧MW bn l clock∧key∈l.map Prod.fst∧bn key=stamp
def kU{α:Type}(l:List (Int×α))(key:Int)(u0:α):List (Int×α):=match eS l key 0 with
 | none=>l++[(key,u0)]
 | some _=>l
theorem jN{t k e:TypeId}{x y:Operand}{key:Int}{u0:α}{Fr:List HP}(ht:∀ w,(underlying t).run P w= .ok (.map k e) w)(hk:∀ w,(underlying k).run P w= .ok (.int kk) w)(hz:∀ w,(zeroValue e).run P w= .ok (enc u0) w)
 (hx:evO σ x=some (.map (some r))) (hy:evO σ y=some (.int kk key)):
 Chg P B σ (bJ kk enc r l::Fr) ⟨d,.mapEntry t x y,ty,p,af,g⟩ (fun v H'=>∃ (z0:Value) (stamp:Nat),v= .tuple #[z0,.int .i64 stamp]∧H'=E2 kk enc r (kU l key u0) key stamp::Fr):=by
 intro a w kn hh
 have m:kB (bJ kk enc r l::Fr) r kk enc l (fun l'=>bJ kk enc r l'::Fr):=kB.head
 obtain⟨bn,clock,ho,hm⟩:=m.obj hh
 have hf:=jb (kk:=kk) (enc:=enc) (bn:=bn) (q:=kk) key l 0
 have hkey:MapKept.IsKey (.int kk) (.int kk key):=rfl
 cases hc:eS l key 0 with
 | none=>
   rw[hc] at hf
   have hn:=iG hc
   have hme:kU l key u0=l++[(key,u0)]:=by unfold kU;rw[hc]
   refine⟨.value (.tuple #[enc u0,.int .i64 clock]),{w with heap:=w.heap.setIfInBounds r (.map (cm kk enc (fun x=>if x=key then clock else bn x) (kU l key u0)).toArray (clock+1))},?_,_,.inl aa,_,⟨_,clock,rfl,rfl⟩,?_⟩
   ·rw[hme, ←q5 hn]
    simp[execOp,kn.eval hx,kn.eval hy,Instr.mapEntry,ht,MapKept.run_getObj_map ho,MapKept.run_checkKey (gr hk) hkey,MapKept.run_findKey (gr hk) hf,MapKept.run_setObj_map _ ho,hz,goInt]
   ·refine jn hh 0 aa ho (fun k s ⟨bn1,c1,hk1,_⟩=> ?_) (fun k k' _ hk' _=>⟨_,_,hk',by rw[hme];exact hm.push hn,by rw[hme];simp,by simp⟩)
    rw[hk1, ←ho];exact(s _ _ hk1).symm
 | some v=>
   obtain⟨j,x'⟩:=v
   rw[hc] at hf
   obtain⟨_,q,h2,h3,h4⟩:=kS (kk:=kk) (enc:=enc) (bn:=bn) hc
   simp only[Nat.sub_zero] at h2 h4
   have hin:key∈l.map Prod.fst:=by rw[←h3];exact List.mem_map_of_mem (List.mem_of_getElem? h2)
   have hme:kU l key u0=l:=by unfold kU;rw[hc]
   have hj:(cm kk enc bn l)[j]? =some ⟨.int kk q.1,enc q.2,bn q.1⟩:=by simp[cm,h2]
   refine⟨.value (.tuple #[enc x',.int .i64 (bn key)]),{w with heap:=w.heap.setIfInBounds r (.map (cm kk enc bn (kU l key u0)).toArray clock)},?_,_,.inl aa,_,⟨_,bn key,rfl,rfl⟩,?_⟩
   ·rw[hme]
    have hid:(cm kk enc bn l).modify j (fun e=>{e with key:= .int kk key})=cm kk enc bn l:=by
     apply List.ext_getElem?
     intro i
     rw[List.getElem?_modify]
     by_cases hij:j=i
     ·subst hij
      rw[hj]
      simp[h3]
     ·simp[hij]
    simp[execOp,kn.eval hx,kn.eval hy,Instr.mapEntry,ht,MapKept.run_getObj_map ho,MapKept.run_checkKey (gr hk) hkey,MapKept.run_findKey (gr hk) hf,MapKept.run_setObj_map _ ho,hj,h3,MapKept.run_keyThatStays hkey,goInt,hid]
   ·refine jn hh 0 aa ho (fun k s ⟨bn1,c1,hk1,_⟩=> ?_) (fun k k' _ hk' _=>⟨_,_,hk',by rw[hme];exact hm,by rw[hme];exact hin,rfl⟩)
    rw[hk1, ←ho];exact(s _ _ hk1).symm
theorem iv{t:TypeId}{x y z:Operand}{key:Int}{stamp:Nat}{u:α}{v:Value}{Fr:List HP}
 (hx:evO σ x=some (.map (some r))) (hy:evO σ y=some (.int .i64 stamp)) (hz:evO σ z=some v) (hv:v=enc u):
 Chg P B σ (E2 kk enc r l key stamp::Fr) ⟨d,.entryStore t x y z,ty,p,af,g⟩ (fun _ H'=>H'=bJ kk enc r (mset l key u)::Fr):=by
 subst hv
 intro a w kn hh
 obtain⟨k0,s0,bn,clock,ho0,hm,hin,hst⟩:=hh.at 0 rfl
 have ho:=s0 _ _ ho0
 cases hc:eS l key 0 with
 | none=>
   obtain⟨q,hq,e⟩:=List.mem_map.1 hin
   exact absurd e (iG hc q hq)
 | some vv=>
   obtain⟨j,x'⟩:=vv
   obtain⟨_,q,h2,h3,h4⟩:=kS (kk:=kk) (enc:=enc) (bn:=bn) hc
   simp only[Nat.sub_zero] at h2 h4
   have hj:(cm kk enc bn l)[j]? =some ⟨.int kk q.1,enc q.2,bn q.1⟩:=by simp[cm,h2]
   have hjl:j<l.length:=(List.getElem?_eq_some_iff.1 h2).1
   have hfi:(cm kk enc bn l).findIdx? (fun e=>(e.born:Int)==(stamp:Int))=some j:=by
    rw[List.findIdx?_eq_some_iff_getElem]
    have hjm:j<(cm kk enc bn l).length:=by simpa [cm] using hjl
    refine⟨hjm,?_,fun i hi=> ?_⟩
    ·rw[List.getElem?_eq_getElem hjm] at hj
     injection hj with hj
     rw[hj];simp[h3,hst]
    ·have hil:i<l.length:=by omega
     have hne:bn (l[i]).1≠stamp:=fun e=>by
      have h5:=hm.inj l[i] (List.getElem_mem hil) q (List.mem_of_getElem? h2) (by rw[e,h3,hst])
      have h6:=List.pairwise_iff_getElem.1 hm.keys i j (by simpa using hil) (by simpa using hjl) hi
      rw[List.getElem?_eq_getElem hjl] at h2
      injection h2 with h2
      apply h6
      simp only[List.getElem_map]
      rw[h2];exact h5
     simp[cm];omega
   have hmo:(cm kk enc bn l).modify j (fun e=>{e with val:=enc u})=cm kk enc bn (mset l key u):=by
    rw[←h4 u]
    apply List.ext_getElem?
    intro i
    rw[List.getElem?_modify,List.getElem?_modify]
    by_cases hij:j=i
    ·subst hij
     rw[hj]
     simp[h3]
    ·simp[hij]
   refine⟨.skip,{w with heap:=w.heap.setIfInBounds r (.map (cm kk enc bn (mset l key u)).toArray clock)},?_,_,.inr ⟨rfl,rfl⟩,_,rfl,?_⟩
   ·simp[execOp,kn.eval hx,kn.eval hy,kn.eval hz,Instr.entryStore,MapKept.run_getObj_map ho,MapKept.run_setObj_map _ ho,asInt,asIntOf,hfi,hmo]
   ·refine jn hh 0 aa ho (fun k s ⟨bn1,c1,hk1,_⟩=> ?_) (fun k k' _ hk' _=>⟨_,_,hk',hm.mset hin⟩)
    rw[hk1, ←ho];exact(s _ _ hk1).symm
end
end Go.Proofs.YtlcibdhmgclfjaaGreat
