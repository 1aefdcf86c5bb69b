/- Part of a law's texts. Conditions: none. -/
import Derived.Test.YtlcibdhmgclfjaaGreatQL17Rh
open Go.Proofs.Tryz
set_option linter.all false
namespace Go.Proofs.YtlcibdhmgclfjaaGreat
open Go
def InL(ids:List Nat)(l:List (Option Nat)):Prop:=∀ b,some b∈l→b∈ids
theorem InL.get{ids:List Nat}{l:List (Option Nat)}(h:InL ids l){k:Nat}(hk:k<l.length):∀ b,l[k]=some b→b∈ids:=fun b e=>h b (e▸List.getElem_mem hk)
theorem InL.nil(ids:List Nat):InL ids []:=fun _ h=>by cases h
theorem InL.snoc{ids:List Nat}{l:List (Option Nat)}(h:InL ids l){x:Option Nat}(hx:∀ b,x=some b→b∈ids):InL ids (l++[x]):=fun b hb=>by
 rcases List.mem_append.1 hb with hb | hb
 ·exact h b hb
 ·exact hx b (List.mem_singleton.1 hb).symm
theorem InL.mono{ids ids':List Nat}{l:List (Option Nat)}(h:InL ids l)(hs:∀ b∈ids,b∈ids'):InL ids' l:=fun b hb=>hs b (h b hb)
theorem InL.set{ids:List Nat}{l:List (Option Nat)}(h:InL ids l){x:Option Nat}(hx:∀ b,x=some b→b∈ids)(i:Nat):InL ids (l.set i x):=fun b hb=>by
 rcases List.mem_or_eq_of_mem_set hb with hb | hb
 ·exact h b hb
 ·exact hx b hb.symm
structure NdW(ids:List Nat)(x:Nd):Prop where
 r0:0≤x.rf∧x.rf≤x.wd∧x.wd≤64
 nl:(x.names.length:Int)=x.rf
 vl:(x.nums.length:Int)=x.wd
 ni:InL ids x.names
 vb:∀ v∈x.nums,0≤v∧v<18446744073709551616
def Un.W(M:Md):Un→Prop
 | .used _ _ was=>0≤was∧was≤100000000
 | .num _ _ _ n i was=>n∈M.ids∧0≤i∧i<(M.g n).wd∧0≤was∧was<18446744073709551616
 | .name _ _ _ n i was=>n∈M.ids∧0≤i∧i<(M.g n).rf∧∀ b,was=some b→b∈M.ids
 | .root _ _ _ i was=>0≤i∧i<M.roots.length∧∀ b,was=some b→b∈M.ids
structure MdW(M:Md)(K:Nat):Prop where
 c:bC M.c
 nd:M.ids.Nodup
 gw:∀ b∈M.ids,NdW M.ids (M.g b)
 ri:InL M.ids M.roots
 rl:(M.roots.length:Int)=M.c.roots
 hi:InL M.ids M.hs
 fi:InL M.ids M.fresh
 si:∀ k∈M.seen,∀ b,k.1=some b→b∈M.ids
 sl:(M.seen.length:Int)≤M.c.log
 uw:∀ u∈M.undo,u.W M
 hl:M.hs.length≤K
 fl:M.fresh.length≤K
 ul:M.undo.length≤K
 il:M.ids.length≤K
 kl:K≤1000000
 us:0≤M.used∧M.used≤100000000
 lf: -1≤M.left∧M.left≤10000000
 th:0≤M.thn∧M.thn≤100000000
def Md.take(M:Md)(x:Option Nat):Int×Md:=if x=none then (0,M) else if x∈M.hs then (ixI M.hs x+1,M) else (M.hs.length+1,{M with hs:=M.hs++[x]})
def Md.node(M:Md)(h:Int):Option Nat×Int:=if 1≤h∧h≤M.hs.length∧M.hs.getD (h - 1).toNat none≠none then (M.hs.getD (h - 1).toNat none,0) else (none,6)
def Md.other(M:Md)(h:Int):Option Nat×Int:=if h=0 then (none,0) else M.node h
def Nd.field(x:Nd)(i:Int)(name:Bool):Int:=if i<0∨x.wd≤i then 1 else if decide (i<x.rf)≠name then 5 else 0
def Md.live(M:Md):Int:=(M.hs.filter (·.isSome)).length
def Md.note(M:Md)(k:Option Nat×Int):Int×Md:=if (k.1∈M.fresh∧k.1≠none)∨k∈M.seen then (0,M) else if (M.seen.length:Int)=M.c.log then (3,M) else (0,{M with seen:=M.seen++[k]})
theorem wQ{ids:List Nat}{k k':Option Nat×Int}{w:World}(hq:∀ b,k.1=some b→∃ cs T,w.heap[b]? =some (.cells cs T (0,0)))(hq':∀ b,k'.1=some b→∃ cs T,w.heap[b]? =some (.cells cs T (0,0))):(Op.equal 198 (.agg (mP k).toArray) (.agg (mP k').toArray)).run Tryz.prog w= .ok (decide (k=k')) w:=by
 have h1:=sP (P:=Tryz.prog) (t:=136) runUnderlying136 sizeOf143 (by decide) hq hq' 9998
 have hs:Tryz.prog.stoodInHeld 198=false:=by kernel_rfl
 have h2:(Op.equalIn 9999 3 (i64 k.2) (i64 k'.2)).run Tryz.prog w= .ok (k.2==k'.2) w:=by
  show(Op.equalIn (9998+1) _ _ _).run _ _=_
  rw[Op.equalIn];simp only[Sem.run_bind,runUnderlying3,Result.andThen_ok];rfl
 show(Op.equalIn (9999+1) _ _ _).run _ _=_
 obtain⟨a,i⟩:=k
 obtain⟨a',i'⟩:=k'
 rw[Op.equalIn];simp only[Sem.run_bind,runUnderlying198,Result.andThen_ok]
 by_cases hi:i=i'
 ·subst hi
  by_cases ha:a=a'<;>simp[hs,part,isAgg136,isAgg3,mP,h1,ha,h2]<;>simp_all [part,isAgg136,isAgg3,h2]
 ·by_cases ha:a=a'<;>simp[hs,part,isAgg136,isAgg3,mP,h1,ha,h2,hi]<;>simp_all [part,isAgg136,isAgg3,h2]
theorem EE{B:World}{σ:Env}{H:List HP}{d:Option Tmp}{ty:TypeId}{p:String}{af:Array Edge}{gd:Option (Nat×Bool)}{x y:Operand}{k k':Option Nat×Int}{u:TypeId}{ids:List Nat}{g:Nat→Nd}(i:Nat)(hi:H[i]? =some (cB ids g))(hx:evO σ x=some (.agg (mP k).toArray))(hy:evO σ y=some (.agg (mP k').toArray))(hq:∀ b,k.1=some b→b∈ids)(hq':∀ b,k'.1=some b→b∈ids):
 Evs Tryz.prog B σ H ⟨d,.binOp .eql 198 x y u,ty,p,af,gd⟩ (.bool (decide (k=k'))):=by
 intro a w kn hh
 have key:=wQ (ids:=ids) (k:=k) (k':=k') (w:=w) (fun b hb=>(pK (hq b hb) i hi hh).imp fun _ h=>⟨_,h⟩) (fun b hb=>(pK (hq' b hb) i hi hh).imp fun _ h=>⟨_,h⟩)
 simp only[execOp,kn.eval hx,kn.eval hy]
 simp[binOp,eqGuard,key]
theorem Bg(B:World)(Fr:List HP)(ids:List Nat)(g:Nat→Nd)(sv:Value)(xs:List (Option Nat))(hl:xs.length≤1000000)(hxs:InL ids xs)(x:Option Nat)(hx:∀ b,x=some b→b∈ids):
 ∀ w,Holds B (VN sv xs::cB ids g::Fr) w→Calls Tryz.prog 178 [sv,pn x].toArray w (bB B (VN sv xs::cB ids g::Fr) (i64 (ixI xs x))):=by
 refine au func178 aa ntmps178 aa (cI fun q qc hq qi=> ?_)
 subst hq
 refine ac (ab (kPa aa aa (ad (ac (ac (ab (kPm aa aa (kPv (bY aa runUnderlying41 ⟨_,rfl⟩ rfl) aa (kPm aa aa (ad (aO ?_)))))))))))
 refine cR (ι:=Nat) [7,4,0,1] (fun k=>(k≤xs.length)∧(∀ j,j<k→xs[j]? ≠some x)) (fun k=>[(8,i64 k)]) (fun k=>VN (.slice q xs.length qc) xs::cB ids g::Fr) (fun k=>xs.length - k) (0) (⟨Nat.zero_le _,fun j hj=>absurd hj (Nat.not_lt_zero _)⟩) (fun a w st=>st.to ⟨rfl,trivial⟩ (fun hh=>hh)) ?_
 rintro k ⟨hk,hn⟩
 try simp only at hk hn ⊢
 refine cg (σ':=[(8,i64 k),(7,_),(4,_),(0,_),(1,_)]) (aF aa) (ac (ab (kPv (an aa aa aa) aa (ad (ac ?_)))))
 refine aW aa (fun h9=> ?_) (fun h9=> ?_)
 ·have hk2:k<xs.length:=by simpa using h9
  obtain⟨ob,off,rfl⟩:=qi k hk2
  refine ay (ac (aO (ac (ab (kPm aa aa (kPa aa aa (ad (ac (ab (kPm aa aa (kPm aa aa ?_)))))))))))
  refine kPm aa aa (kPv (bZ runUnderlying41 sizeOf136 aa aa (by omega) (by omega)) aa (kPv (bX (v:=pn xs[k]) isAgg136 (dw gy 0 aa) aa (by simp[hk2])) aa (kPv (EC 1 aa runUnderlying136 sizeOf143 (by decide) aa aa (hx) (hxs.get hk2) aa) aa (ad (ao [16,5,8,7,4,0,1] rfl ?_)))))
  refine aW aa (fun h16=> ?_) (fun h16=> ?_)
  ·have h16:x=xs[k]:=by simpa using h16
   refine ac (ab (kPm aa aa (kPa aa aa (ad (az ?_)))))
   exact ax results178 aa (fun w hw=>⟨by rw[Bj (k:=k) (by rw[List.getElem?_eq_getElem hk2, ←h16]) hn],hw⟩)
  ·have h16:¬ x=xs[k]:=by simpa using h16
   have hn2:∀ j,j<k+1→xs[j]? ≠some x:=fun j hj=>by
    rcases Nat.lt_succ_iff_lt_or_eq.1 hj with h | rfl
    ·exact hn j h
    ·rw[List.getElem?_eq_getElem hk2];intro e;exact h16 (Option.some.inj e).symm
   refine ay (ab (kPv (aS aa aa) aa (kPm aa aa (ad ?_))))
   exact fun a w st_=>⟨k+1,⟨by omega,hn2⟩,by omega,st_.to (aF aa) (fun hh=>hh)⟩
 ·have hk2:¬ k<xs.length:=by simpa using h9
  refine bT (ac (ab (kPa aa aa (ad (az ?_)))))
  exact ax results178 aa (fun w hw=>⟨by rw[Bh (k:=k) (by omega) hn],hw⟩)
theorem xz(B:World)(Fr:List HP)(ids:List Nat)(g:Nat→Nd)(sv:Value)(xs:List (Option Nat))(hl:xs.length≤1000000)(hxs:InL ids xs)(x:Option Nat)(hx:∀ b,x=some b→b∈ids):
 ∀ w,Holds B (VN sv xs::cB ids g::Fr) w→Calls Tryz.prog 147 [sv,pn x].toArray w (bB B (VN sv xs::cB ids g::Fr) (.bool (decide (x∈xs)))):=by
 refine au func147 aa ntmps147 aa (ac (ab (kPa aa aa (ad (ac (ab (kPm aa aa (kPm aa aa (aE aa (aA call178 aa) (Bg B _ ids g sv xs hl hxs x hx) .free aa aa ?_)))))))))
 refine kPv (an aa aa aa) aa (kPa aa aa (ad (az ?_)))
 exact ax results147 aa (fun w hw=>⟨by rw[show decide (ixI xs x≥0)=decide (x∈xs) from decide_eq_decide.2 (Bi xs x).2.2],hw⟩)
theorem Et(B:World)(Fr:List HP)(ids:List Nat)(g:Nat→Nd)(sv:Value)(xs:List (Option Nat×Int))(hl:xs.length≤1000000)(hxs:∀ k∈xs,∀ b,k.1=some b→b∈ids)(x:Option Nat×Int)(hx:∀ b,x.1=some b→b∈ids):
 ∀ w,Holds B (VK sv xs::cB ids g::Fr) w→Calls Tryz.prog 188 [sv,.agg (mP x).toArray].toArray w (bB B (VK sv xs::cB ids g::Fr) (i64 (ixI xs x))):=by
 refine au func188 aa ntmps188 aa (cI fun q qc hq qi=> ?_)
 subst hq
 refine ac (ab (aC aa (bx aa) .free aa aa ?_))
 rintro _ _ ⟨b3,rfl,rfl⟩
 refine kPa aa aa (ad (ac (ac (ab (kPm aa aa (kPv (bY aa runUnderlying42 ⟨_,rfl⟩ rfl) aa (kPm aa aa (ad (aO (cR (ι:=Nat) [7,4,3,0] (fun k=>(k≤xs.length)∧(∀ j,j<k→xs[j]? ≠some x)) (fun k=>[(8,i64 k)]) (fun k=>row b3 (mP x) 198::VK (.slice q xs.length qc) xs::cB ids g::Fr) (fun k=>xs.length - k) (0) (⟨Nat.zero_le _,fun j hj=>absurd hj (Nat.not_lt_zero _)⟩) (fun a w st=>st.to ⟨rfl,trivial⟩ (fun hh=>hh)) ?_))))))))))
 rintro k ⟨hk,hn⟩
 try simp only at hk hn ⊢
 refine cg (σ':=[(8,i64 k),(7,_),(4,_),(3,_),(0,_)]) (aF aa) (ac (ab (kPv (an aa aa aa) aa (ad (ac ?_)))))
 refine aW aa (fun h9=> ?_) (fun h9=> ?_)
 ·have hk2:k<xs.length:=by simpa using h9
  obtain⟨ob,off,rfl⟩:=qi k hk2
  refine ay (ac (aO (ac (ab (kPm aa aa (kPa aa aa (ad (ac (cK Tryz.mixed (by kernel_rfl) (by kernel_rfl) ?_)))))))))
  refine kQv (am isAgg198 sizeOf198 aa aa) aa ?_
  refine kQm aa aa (kQm aa aa (kQv (tE (m:=off+k*2) runUnderlying42 sizeOf198 aa aa (by omega) (by omega) aa) aa (kQv (rL (i:=k) (c:=mP xs[k]) isAgg198 sizeOf198 (p9 xh 1 aa) aa (by simp[hk2])) aa (kQv (EE 2 aa aa aa hx (hxs _ (List.getElem_mem hk2))) aa (bR (ao [16,5,8,7,4,3,0] rfl ?_))))))
  refine aW aa (fun h16=> ?_) (fun h16=> ?_)
  ·have h16:x=xs[k]:=by simpa using h16
   refine ac (ab (kPm aa aa (kPa aa aa (ad (az ?_)))))
   exact ax results188 aa (fun w hw=>⟨by rw[Bj (k:=k) (by rw[List.getElem?_eq_getElem hk2, ←h16]) hn],(hw.dp [0])⟩)
  ·have h16:¬ x=xs[k]:=by simpa using h16
   have hn2:∀ j,j<k+1→xs[j]? ≠some x:=fun j hj=>by
    rcases Nat.lt_succ_iff_lt_or_eq.1 hj with h | rfl
    ·exact hn j h
    ·rw[List.getElem?_eq_getElem hk2];intro e;exact h16 (Option.some.inj e).symm
   refine ay (ab (kPv (aS aa aa) aa (kPm aa aa (ad ?_))))
   exact fun a w st_=>⟨k+1,⟨by omega,hn2⟩,by omega,st_.to (aF aa) (fun hh=>hh)⟩
 ·have hk2:¬ k<xs.length:=by simpa using h9
  refine bT (ac (ab (kPa aa aa (ad (az ?_)))))
  exact ax results188 aa (fun w hw=>⟨by rw[Bh (k:=k) (by omega) hn],(hw.dp [0])⟩)
theorem EF(B:World)(Fr:List HP)(ids:List Nat)(g:Nat→Nd)(sv:Value)(xs:List (Option Nat×Int))(hl:xs.length≤1000000)(hxs:∀ k∈xs,∀ b,k.1=some b→b∈ids)(x:Option Nat×Int)(hx:∀ b,x.1=some b→b∈ids):
 ∀ w,Holds B (VK sv xs::cB ids g::Fr) w→Calls Tryz.prog 179 [sv,.agg (mP x).toArray].toArray w (bB B (VK sv xs::cB ids g::Fr) (.bool (decide (x∈xs)))):=by
 refine au func179 aa ntmps179 aa (ac (ab (aC aa (bx aa) .free aa aa ?_)))
 rintro _ _ ⟨b3,rfl,rfl⟩
 refine kPa aa aa (ad (ac (ab (kPm aa aa (kPv (am isAgg198 sizeOf198 aa aa) aa ?_)))))
 refine aE aa (aA call188 aa) (cY [1,1] [2] (Et B _ ids g sv xs hl hxs x hx)) .free aa aa ?_
 refine kPv (an aa aa aa) aa (kPa aa aa (ad (ao [4] rfl (az ?_))))
 exact ax results179 aa (fun w hw=>⟨by rw[show decide (ixI xs x≥0)=decide (x∈xs) from decide_eq_decide.2 (Bi xs x).2.2],(hw.dp [0])⟩)
theorem sX(B:World)(Fr:List HP)(b:Nat)(x:Nd)(hw:0≤x.wd∧x.wd≤64):
 ∀ w,Holds B (NdA b x::Fr) w→Calls Tryz.prog 101 [ptr b].toArray w (bB B (NdA b x::Fr) (i64 (x.wd+1))):=by
 refine au func101 aa ntmps101 aa (xp (ac (ab (kPa aa aa (ad (ac (ab (kPm aa aa (kPv (ak aa) aa (kPv (aj (m:=_) nV aa aa) aa (kPv (aj (m:=_) fp aa aa) aa ?_)))))))))))
 refine kPv (ae isAgg3 aa aa) aa (kPv (aS aa aa) aa (kPa aa aa (ad (ao [2] rfl (az ?_)))))
 exact ax results101 aa (fun w hw=>⟨rfl,ic hw⟩)
theorem kP(B:World)(Fr:List HP)(b:Nat)(x:Nd)(i:Int)(nm:Bool):
 ∀ w,Holds B (NdA b x::Fr) w→Calls Tryz.prog 152 [ptr b,i64 i,.bool nm].toArray w (bB B (NdA b x::Fr) (i64 (x.field i nm))):=by
 refine au func152 aa ntmps152 aa (xp (ac (ab (kPa aa aa (ad (ac (aO (ac (ab (kPm aa aa (kPv (an aa aa aa) aa ?_)))))))))))
 refine kPm aa aa ?_
 apply gl (tp:=18) (t:=10) (σ1:=[(10,_),(6,_),(0,_),(1,_),(2,_)]) 8 rfl (aF rfl)
 ·intro hg1
  refine aq aa (ap aa) (.on aa aa (ah hg1)) aa aa (aq aa (ap aa) (.on aa aa (ah hg1)) aa aa (aq aa (ak aa) (.on aa aa (ah hg1)) aa aa (aq aa (aj (m:=_) nV aa aa) (.on aa aa (ah hg1)) aa aa (aq aa (aj (m:=_) fp aa aa) (.on aa aa (ah hg1)) aa aa (aq aa (ae isAgg3 aa aa) (.on aa aa (ah hg1)) aa aa (aq aa (an aa aa aa) (.on aa aa (ah hg1)) aa aa (kPv (aL aa hg1 aa) aa ?_)))))))
  exact ba aa (aF aa) (eZ hg1)
 ·intro hg1
  refine ar aa (.on aa aa (ai hg1)) aa (ar aa (.on aa aa (ai hg1)) aa (ar aa (.on aa aa (ai hg1)) aa (ar aa (.on aa aa (ai hg1)) aa (ar aa (.on aa aa (ai hg1)) aa (ar aa (.on aa aa (ai hg1)) aa (ar aa (.on aa aa (ai hg1)) aa (kPv (aH aa hg1 aa) aa ?_)))))))
  exact ba aa (aF aa) (eY hg1)
 refine kPa aa aa (ad ?_)
 refine aW aa (fun h7=> ?_) (fun h7=> ?_)
 ·have hk:i<0∨x.wd≤i:=by simp at h7;omega
  refine ac (ab (kPa aa aa (ad (az ?_))))
  exact ax results152 aa (fun w hw=>⟨by unfold Nd.field;rw[if_pos hk],ic hw⟩)
 ·have hk:¬ (i<0∨x.wd≤i):=by simp at h7;omega
  refine ac (ab (kPm aa aa (kPm aa aa (kPv (ak aa) aa (kPv (aj (m:=_) nV aa aa) aa (kPv (aj (m:=_) fP aa aa) aa (kPv (ae isAgg3 aa aa) aa (kPv (an aa aa aa) aa (kPm aa aa (kPv (rN runUnderlying4 aa aa aa) aa (kPa aa aa ?_)))))))))))
  refine ad (ao [19,6] rfl ?_)
  refine aW aa (fun h19=> ?_) (fun h19=> ?_)
  ·have hk2:decide (i<x.rf)≠nm:=by simpa using h19
   refine ac (ab (kPa aa aa (ad (az ?_))))
   exact ax results152 aa (fun w hw=>⟨by unfold Nd.field;rw[if_neg hk,if_pos hk2],ic hw⟩)
  ·have hk2:¬ decide (i<x.rf)≠nm:=by simpa using h19
   refine ay (ac (ab (kPa aa aa (ad (az ?_)))))
   exact ax results152 aa (fun w hw=>⟨by unfold Nd.field;rw[if_neg hk,if_neg hk2],ic hw⟩)
theorem AX(B:World)(Fr:List HP)(bm:Nat)(M:Md)(rv hv sv fv uv:Value)(hl:M.hs.length≤1000000):
 ∀ w,Holds B (cx bm M rv hv sv fv uv::VN hv M.hs::Fr) w→Calls Tryz.prog 107 [ptr bm].toArray w (bB B (cx bm M rv hv sv fv uv::VN hv M.hs::Fr) (i64 M.live)):=by
 refine au func107 aa ntmps107 aa (aJ [1] (cI fun q qc hq qi=> ?_))
 subst hq
 refine aJ [1,0] (ac (ab (kPa aa aa (ad (ac (ab (kPa aa aa (ad (ac (ac (ab ?_)))))))))))
 refine kPm aa aa (kPv (ak aa) aa (kPv (aj (m:=_) eK aa aa) aa (kPv (ae isAgg41 aa aa) aa (kPv (bY aa runUnderlying41 ⟨_,rfl⟩ rfl) aa (kPm aa aa (ad (aO (cR (ι:=Nat×Int) [10,9,2] (fun (k,n)=>(k≤M.hs.length)∧(n=((M.hs.take k).filter (·.isSome)).length∧n≤k)) (fun (k,n)=>[(11,i64 k),(3,i64 n)]) (fun (k,n)=>cx bm M rv (.slice q M.hs.length qc) sv fv uv::VN (.slice q M.hs.length qc) M.hs::Fr) (fun (k,n)=>M.hs.length - k) (0,0) (⟨Nat.zero_le _,rfl,Int.le_refl _⟩) (fun a w st=>st.to ⟨rfl,rfl,trivial⟩ (fun hh=>hh)) ?_))))))))
 rintro⟨k,n⟩ ⟨hk,hf⟩
 try simp only at hk hf ⊢
 refine cg (σ':=[(11,i64 k),(3,i64 n),(10,_),(9,_),(2,_)]) (aF aa) (ac (ab (kPv (an aa aa aa) aa (ad (ac ?_)))))
 refine aW aa (fun h12=> ?_) (fun h12=> ?_)
 ·have hk2:k<M.hs.length:=by simpa using h12
  obtain⟨ob,off,rfl⟩:=qi k hk2
  refine ay (ac (aO (ac (ab (kPv (bZ runUnderlying41 sizeOf136 aa aa (by omega) (by omega)) aa (kPv (bX (v:=pn M.hs[k]) isAgg136 (dw gy 1 aa) aa (by simp[hk2])) aa (kPa aa aa (ad (ac (ab (kPm aa aa ?_)))))))))))
  refine kPv (oM runUnderlying136 aa aa aa) aa (ad ?_)
  refine aW aa (fun h16=> ?_) (fun h16=> ?_)
  ·have h16:M.hs[k].isNone=false:=by simpa using h16
   have e2:(((M.hs.take k).filter (·.isSome)).length:Int)+1=((M.hs.take (k+1)).filter (·.isSome)).length:=by
    rw[List.take_succ_eq_append_getElem hk2,List.filter_append,List.length_append]
    cases hx:M.hs[k] with
    | none=>rw[hx] at h16;cases h16
    | some y=>simp[List.filter,hx]
   refine ab (kPm aa aa (kPv (aS aa aa) aa (kPa aa aa (ad (ao [3,11,10,9,2] rfl (ab (kPv (aS aa aa) aa (kPm aa aa (ad ?_)))))))))
   exact fun a w st_=>⟨(k+1,n+1),⟨by omega,by simp only;omega,by omega⟩,by omega,st_.to (aF aa) (fun hh=>hh)⟩
  ·have h16:M.hs[k].isNone=true:=by simpa using h16
   have e2:((M.hs.take k).filter (·.isSome)).length=((M.hs.take (k+1)).filter (·.isSome)).length:=by
    rw[List.take_succ_eq_append_getElem hk2,List.filter_append,List.length_append]
    cases hx:M.hs[k] with
    | none=>simp[List.filter,hx]
    | some y=>rw[hx] at h16;cases h16
   refine ay (ab (kPv (aS aa aa) aa (kPm aa aa (ad (ao [11,3,10,9,2] rfl ?_)))))
   exact fun a w st_=>⟨(k+1,n),⟨by omega,by simp only;omega,by omega⟩,by omega,st_.to (aF aa) (fun hh=>hh)⟩
 ·have hk2:¬ k<M.hs.length:=by simpa using h12
  refine bT (ac (ab (kPm aa aa (kPa aa aa (ad (az ?_))))))
  exact ax results107 aa (fun w hw=>⟨by rw[hf.1,show k=M.hs.length by omega,List.take_length];rfl,hw⟩)
theorem jg(B:World)(Fr:List HP)(bm:Nat)(M:Md)(rv hv sv fv uv:Value)(h:Int)(hl:M.hs.length≤1000000):
 ∀ w,Holds B (cx bm M rv hv sv fv uv::VN hv M.hs::Fr) w→Calls Tryz.prog 151 [ptr bm,i64 h].toArray w (bB B (cx bm M rv hv sv fv uv::VN hv M.hs::Fr) (.tuple #[pn (M.node h).1,i64 (M.node h).2])):=by
 refine au func151 aa ntmps151 aa (aJ [1] (cI fun q qc hq qi=> ?_))
 subst hq
 refine aJ [1,0] (ac (ab (kPa aa aa (kPa aa aa (ad (ac (ac (ab (kPm aa aa (kPv (an aa aa aa) aa (kPm aa aa ?_)))))))))))
 apply gl (tp:=16) (t:=8) (σ1:=[(8,_),(5,_),(4,_),(0,_),(1,_)]) 8 rfl (aF rfl)
 ·intro hg1
  refine aq aa (ap aa) (.on aa aa (ah hg1)) aa aa (aq aa (ap aa) (.on aa aa (ah hg1)) aa aa (aq aa (ak aa) (.on aa aa (ah hg1)) aa aa (aq aa (aj (m:=_) eK aa aa) (.on aa aa (ah hg1)) aa aa (aq aa (ae isAgg41 aa aa) (.on aa aa (ah hg1)) aa aa (aq aa (bY aa runUnderlying41 ⟨_,rfl⟩ rfl) (.on aa aa (ah hg1)) aa aa (aq aa (an aa aa aa) (.on aa aa (ah hg1)) aa aa (kPv (aL aa hg1 aa) aa ?_)))))))
  exact ba aa (aF aa) (eZ hg1)
 ·intro hg1
  refine ar aa (.on aa aa (ai hg1)) aa (ar aa (.on aa aa (ai hg1)) aa (ar aa (.on aa aa (ai hg1)) aa (ar aa (.on aa aa (ai hg1)) aa (ar aa (.on aa aa (ai hg1)) aa (ar aa (.on aa aa (ai hg1)) aa (ar aa (.on aa aa (ai hg1)) aa (kPv (aH aa hg1 aa) aa ?_)))))))
  exact ba aa (aF aa) (eY hg1)
 refine kPm aa aa ?_
 apply gl (tp:=27) (t:=17) (σ1:=[(17,_),(5,_),(4,_),(0,_),(1,_)]) 10 rfl (aF rfl)
 ·intro hg2
  refine aq aa (ap aa) (.on aa aa (ah hg2)) aa aa (aq aa (ak aa) (.on aa aa (ah hg2)) aa aa (aq aa (aj (m:=_) eK aa aa) (.on aa aa (ah hg2)) aa aa (aq aa (ae isAgg41 aa aa) (.on aa aa (ah hg2)) aa aa (aq aa (ap aa) (.on aa aa (ah hg2)) aa aa ?_))))
  first | have hb:1≤h∧h≤M.hs.length:=by(simp at hg2;omega) | skip
  refine aq aa (cU aa aa) (.on aa aa (ah hg2)) aa aa ?_
  skip
  obtain⟨ob,off,rfl⟩:=qi (h - 1).toNat (by omega)
  refine aq aa (bZ runUnderlying41 sizeOf136 aa aa (by omega) (by omega)) (.on aa aa (ah hg2)) aa aa ?_
  refine aq aa (bX (v:=pn (M.hs.getD (h - 1).toNat none)) isAgg136 (dw gy 1 aa) aa (by rw[List.getElem?_map,List.getD_eq_getElem?_getD,List.getElem?_eq_getElem (by omega)];rfl)) (.on aa aa (ah hg2)) aa aa ?_
  refine aq aa (oM runUnderlying136 aa aa aa) (.on aa aa (ah hg2)) aa aa (kPv (aL aa hg2 aa) aa ?_)
  exact ba aa (aF aa) (eZ hg2)
 ·intro hg2
  refine ar aa (.on aa aa (ai hg2)) aa (ar aa (.on aa aa (ai hg2)) aa (ar aa (.on aa aa (ai hg2)) aa (ar aa (.on aa aa (ai hg2)) aa (ar aa (.on aa aa (ai hg2)) aa ?_))))
  first | have hb:1≤h∧h≤M.hs.length:=by(simp at hg2;omega) | skip
  refine ar aa (.on aa aa (ai hg2)) aa (ar aa (.on aa aa (ai hg2)) aa (ar aa (.on aa aa (ai hg2)) aa (ar aa (.on aa aa (ai hg2)) aa (kPv (aH aa hg2 aa) aa ?_))))
  exact ba aa (aF aa) (eY hg2)
 refine ad ?_
 refine aW aa (fun h27=> ?_) (fun h27=> ?_)
 ·have hk:¬ (1≤h∧h≤M.hs.length∧M.hs.getD (h - 1).toNat none≠none):=by
   intro ⟨k1,k2,k3⟩
   rw[←Option.isSome_iff_ne_none] at k3
   simp at h27
   rcases h27 with (h27 | h27) | h27
   ·omega
   ·omega
   ·simp[h27] at k3
  refine ac (ab (kPa aa aa (kPa aa aa (ad (az ?_)))))
  exact bg results151 aa aa (fun w hw=>⟨by unfold Md.node;rw[if_neg hk];rfl,hw⟩)
 ·have hk:(1≤h∧h≤M.hs.length∧M.hs.getD (h - 1).toNat none≠none):=by
   simp at h27
   exact⟨by omega,by omega,by rw[←Option.isSome_iff_ne_none];simpa using h27.2⟩
  refine ay (ac (ab (kPm aa aa (kPv (ak aa) aa (kPv (aj (m:=_) eK aa aa) aa (kPv (ae isAgg41 aa aa) aa ?_))))))
  have hb:=hk
  refine kPm aa aa (kPv (cU aa aa) aa ?_)
  skip
  obtain⟨ob,off,rfl⟩:=qi (h - 1).toNat (by omega)
  refine kPv (bZ runUnderlying41 sizeOf136 aa aa (by omega) (by omega)) aa ?_
  refine kPv (bX (v:=pn (M.hs.getD (h - 1).toNat none)) isAgg136 (dw gy 1 aa) aa (by rw[List.getElem?_map,List.getD_eq_getElem?_getD,List.getElem?_eq_getElem (by omega)];rfl)) aa ?_
  refine kPa aa aa (kPa aa aa (ad (ao [5,4] rfl (az ?_))))
  exact bg results151 aa aa (fun w hw=>⟨by unfold Md.node;rw[if_pos hk],hw⟩)
theorem sY(B:World)(Fr:List HP)(bm:Nat)(M:Md)(rv hv sv fv uv:Value)(h:Int)(hl:M.hs.length≤1000000):
 ∀ w,Holds B (cx bm M rv hv sv fv uv::VN hv M.hs::Fr) w→Calls Tryz.prog 154 [ptr bm,i64 h].toArray w (bB B (cx bm M rv hv sv fv uv::VN hv M.hs::Fr) (.tuple #[pn (M.other h).1,i64 (M.other h).2])):=by
 refine au func154 aa ntmps154 aa (ac (ab (kPa aa aa (kPa aa aa (ad (ac (ac (ab (kPm aa aa (kPv (an aa aa aa) aa (ad ?_)))))))))))
 refine aW aa (fun h7=> ?_) (fun h7=> ?_)
 ·have hk:h=0:=by simpa using h7
  refine ac (ab (kPa aa aa (kPa aa aa (ad (az ?_)))))
  exact bg results154 aa aa (fun w hw=>⟨by unfold Md.other;rw[if_pos hk];rfl,hw⟩)
 ·have hk:¬ h=0:=by simpa using h7
  refine ay (ac (ab (kPm aa aa (kPm aa aa (aE aa (aA call151 aa) (jg B _ bm M rv hv sv fv uv h hl) .free aa aa ?_)))))
  refine kPv (aB aa aa) aa (kPv (aB aa aa) aa (kPa aa aa (kPa aa aa (ad (ao [5,4] rfl (az ?_))))))
  exact bg results154 aa aa (fun w hw=>⟨by unfold Md.other;rw[if_neg hk];rfl,hw⟩)
def Md.handle(M:Md)(a:Int):Int:=Int.tmod a (M.hs.length+2) - Int.tdiv (Int.tmod a 19) 18
theorem Bu{a:Int}(ha:0≤a∧a<256){n:Nat}(hn:n≤1000000):(0≤Int.tmod a ((n:Int)+2)∧Int.tmod a ((n:Int)+2)≤n+1)∧0≤Int.tdiv (Int.tmod a 19) 18∧Int.tdiv (Int.tmod a 19) 18≤1:=by
 rw[Int.tmod_eq_emod_of_nonneg ha.1,Int.tmod_eq_emod_of_nonneg ha.1]
 have h1:=Int.emod_nonneg a (b:=(n:Int)+2) (by omega)
 have h2:=Int.emod_lt_of_pos a (b:=(n:Int)+2) (by omega)
 rw[Int.tdiv_eq_ediv_of_nonneg (by omega)]
 omega
theorem xd(B:World)(Fr:List HP)(bm:Nat)(M:Md)(rv hv sv fv uv:Value)(a:Int)(ha:0≤a∧a<256)(hl:M.hs.length≤1000000):
 ∀ w,Holds B (cx bm M rv hv sv fv uv::VN hv M.hs::Fr) w→Calls Tryz.prog 84 [ptr bm,.int .u8 a].toArray w (bB B (cx bm M rv hv sv fv uv::VN hv M.hs::Fr) (i64 (M.handle a))):=by
 refine au func84 aa ntmps84 aa ?_
 have hb:=Bu ha hl
 refine aJ [1] (cI fun q qc hq qi=> ?_)
 subst hq
 refine aJ [1,0] (ac (ab (kPa aa aa (ad (ac (ab (kPm aa aa (kPv (bP runUnderlying5 runUnderlying3 aa) aa (kPm aa aa (kPv (ak aa) aa (kPv (aj (m:=_) eK aa aa) aa ?_)))))))))))
 refine kPv (ae isAgg41 aa aa) aa (kPv (bY aa runUnderlying41 ⟨_,rfl⟩ rfl) aa (kPv (aS aa aa) aa (kPv (gQ aa aa) aa (kPm aa aa (kPv (gQ aa aa) aa ?_)))))
 first | refine aq rfl (gp rfl rfl (by decide) (wB (by omega))) .free rfl rfl ?_ | refine aq rfl (gp rfl rfl (by decide) rfl) .free rfl rfl ?_ | refine aq rfl (gp rfl rfl (by omega) rfl) .free rfl rfl ?_
 refine kPv (bP runUnderlying5 runUnderlying3 aa) aa (kPv (cU aa aa) aa (kPa aa aa (ad (ao [4] rfl (az ?_)))))
 exact ax results84 aa (fun w hw=>⟨rfl,hw⟩)
def eH(out:List (Option Nat))(x:Option Nat):List (Option Nat):=if x≠none∧x∉out then out++[x] else out
def mq(g:Nat→Nd):Nat→Nat→List (Option Nat)→List (Option Nat)
 | 0,_,out=>out
 | f+1,i,out=>match out[i]? with
   | some (some b)=>mq g f (i+1) ((g b).names.foldl eH out)
   | _=>out
def Md.reached(M:Md):List (Option Nat):=mq M.g (M.ids.length+1) 0 (M.hs.foldl eH (M.roots.foldl eH []))
def Md.szL(M:Md)(l:List (Option Nat)):Int:=l.foldl (fun n x=>n+((M.g (x.getD 0)).wd+1)) 0
def Md.size(M:Md):Int:=M.szL M.reached
theorem gA{α:Type}[BEq α][LawfulBEq α]:∀ {d l:List α},d.Nodup→(∀ x∈d,x∈l)→d.length≤l.length
 | [],_,_,_=>Nat.zero_le _
 | x::d,l,hn,h=>by
   rw[List.nodup_cons] at hn
   have h1:=h x (List.mem_cons_self ..)
   have h2:=gA (l:=l.erase x) hn.2 (fun y hy=>(List.mem_erase_of_ne (by intro e;subst e;exact hn.1 hy)).2 (h y (List.mem_cons_of_mem _ hy)))
   have h3:=List.length_erase_of_mem h1
   have h4:=List.length_pos_of_mem h1
   simp only[List.length_cons];omega
structure gT(ids:List Nat)(out:List (Option Nat)):Prop where
 nd:out.Nodup
 ex:∀ x∈out,∃ b∈ids,x=some b
theorem gT.nil(ids:List Nat):gT ids []:=⟨List.nodup_nil,fun _ h=>by cases h⟩
theorem gT.inl{ids:List Nat}{out:List (Option Nat)}(h:gT ids out):InL ids out:=fun b hb=>by
 obtain⟨c,hc,e⟩:=h.ex _ hb;cases e;exact hc
theorem gT.len{ids:List Nat}{out:List (Option Nat)}(h:gT ids out):out.length≤ids.length:=by
 have h1:∀ x∈out,x∈ids.map some:=fun x hx=>by
  obtain⟨b,hb,rfl⟩:=h.ex x hx;exact List.mem_map_of_mem hb
 simpa using gA h.nd h1
theorem gT.see{ids:List Nat}{out:List (Option Nat)}(h:gT ids out){x:Option Nat}(hx:∀ b,x=some b→b∈ids):gT ids (eH out x):=by
 unfold eH
 split
 ·rename_i hc
  refine⟨?_,fun y hy=> ?_⟩
  ·rw[List.nodup_append]
   refine⟨h.nd,by simp,fun a ha b hb=> ?_⟩
   rw[List.mem_singleton.1 hb]
   exact fun e=>hc.2 (e▸ha)
  ·rcases List.mem_append.1 hy with hy | hy
   ·exact h.ex y hy
   ·rw[List.mem_singleton.1 hy]
    cases x with
    | none=>exact absurd aa hc.1
    | some b=>exact⟨b,hx b aa,rfl⟩
 ·exact h
theorem gT.sees{ids:List Nat}:∀ {l out:List (Option Nat)},gT ids out→InL ids l→gT ids (l.foldl eH out)
 | [],_,h,_=>h
 | x::l,_,h,hl=>gT.sees (l:=l) (h.see fun b e=>hl b (e▸List.mem_cons_self ..)) fun b hb=>hl b (List.mem_cons_of_mem _ hb)
theorem qD{l:List (Option Nat)}{out:List (Option Nat)}{k:Nat}(hk:k<l.length):(l.take (k+1)).foldl eH out=eH ((l.take k).foldl eH out) l[k]:=by
 rw[List.take_succ_eq_append_getElem hk,List.foldl_append];rfl
theorem InL.take{ids:List Nat}{l:List (Option Nat)}(h:InL ids l)(k:Nat):InL ids (l.take k):=fun b hb=>h b (List.mem_of_mem_take hb)
theorem qU(B:World)(Fr:List HP)(bm:Nat)(M:Md)(rv hv sv fv uv:Value)(hl:M.hs.length≤1000000)(hi:InL M.ids M.hs)(x:Option Nat)(hx:∀ b,x=some b→b∈M.ids):
 ∀ w,Holds B (cx bm M rv hv sv fv uv::VN hv M.hs::cB M.ids M.g::Fr) w→Calls Tryz.prog 150 [ptr bm,pn x].toArray w (Ret B (fun r H'=>∃ hv',r=i64 (M.take x).1∧H'=cx bm (M.take x).2 rv hv' sv fv uv::VN hv' (M.take x).2.hs::cB M.ids M.g::Fr) (fun _ _=>False)):=by
 refine au func150 aa ntmps150 aa ?_
 have hb:=Bi M.hs x
 refine ac (ab (kPa aa aa (ad (ac (ac (ab (kPm aa aa (kPv (oM runUnderlying136 aa aa aa) aa (ad ?_)))))))))
 refine aW aa (fun h7=> ?_) (fun h7=> ?_)
 ·have hk:x=none:=by simpa using h7
  refine ac (ab (kPa aa aa (ad (az ?_))))
  exact ax results150 aa (fun w hw=>⟨_,⟨hv,by unfold Md.take;rw[if_pos hk],by unfold Md.take;rw[if_pos hk]⟩,hw⟩)
 ·have hk:¬ x=none:=fun e=>by rw[e] at h7;cases h7
  refine ay (ac (ac (ab (kPm aa aa (kPv (ak aa) aa (kPv (aj (m:=_) eK aa aa) aa (kPv (ae isAgg41 aa aa) aa (kPm aa aa (aE aa (aA call178 aa) (cY [1,1] [2] (Bg B _ M.ids M.g hv M.hs hl hi x hx)) .free aa aa ?_)))))))))
  refine kPa aa aa (ad (ao [5,4,0,1] rfl (ac (ab (kPm aa aa (kPv (an aa aa aa) aa (ad ?_)))))))
  refine aW aa (fun h15=> ?_) (fun h15=> ?_)
  ·have hk2:x∈M.hs:=hb.2.2.1 (by simpa using h15)
   refine ac (ab (kPm aa aa (kPv (aS aa aa) aa (kPa aa aa (ad (az ?_))))))
   exact ax results150 aa (fun w hw=>⟨_,⟨hv,by unfold Md.take;rw[if_neg hk,if_pos hk2],by unfold Md.take;rw[if_neg hk,if_pos hk2]⟩,hw⟩)
  ·have hk2:¬ x∈M.hs:=fun hm=>absurd (hb.2.2.2 hm) (by simpa using h15)
   refine ay (ac (ab (kPm aa aa (kPm aa aa (kPv (ak aa) aa (kPv (aj (m:=_) eK aa aa) aa (kPv (ae isAgg41 aa aa) aa (kPm aa aa (aC aa (iP gy (v:=x) runUnderlying41 sizeOf136 zeroValue136 ⟨⟨by decide,by decide⟩,rfl⟩ rfl (aP (lv _))) .free aa aa ?_)))))))))
   rintro _ _ ⟨b24,rfl,rfl⟩
   refine aJ [2,0] (aC aa (dj gy (ys:=[x]) aa aa runUnderlying41 runUnderlying41 ⟨_,rfl⟩ sizeOf136 zeroValue136 aa oc aa aa (SlM.row (b:=b24) aa aa) (Nat.succ_pos _) (by simp;omega)) .free aa aa ?_)
   rintro rv2 _ ⟨hrv2,rfl⟩
   refine kPv (ak aa) aa (kPv (aj (m:=_) eK aa aa) aa ?_)
   refine aD aa (aR sizeOf41 aa aa (by first | rfl | assumption) rfl) .free rfl ?_
   rintro _ _ rfl
   refine ad (ao [4,0] rfl (ac (cI fun q qc hq qi=> ?_)))
   subst hq
   refine ab (kPm aa aa (kPv (ak aa) aa (kPv (aj (m:=_) eK aa aa) aa (kPv (ae isAgg41 aa aa) aa (kPv (bY aa runUnderlying41 ⟨_,rfl⟩ rfl) aa (kPa aa aa (ad (az ?_))))))))
   exact ax results150 aa (fun w hw=>⟨_,⟨.slice q (M.hs++[x]).length qc,by unfold Md.take;rw[if_neg hk,if_neg hk2];simp,by unfold Md.take;rw[if_neg hk,if_neg hk2];rfl⟩,((hw.dp [1]).pk [1])⟩)
theorem ny(B:World)(Fr:List HP)(bm:Nat)(M:Md)(rv hv sv fv uv:Value)(hc:bC M.c)(hl:M.fresh.length≤1000000)(hi:InL M.ids M.fresh)(hsl:M.seen.length≤1000000)(hsi:∀ k∈M.seen,∀ b,k.1=some b→b∈M.ids)(k:Option Nat×Int)(hx:∀ b,k.1=some b→b∈M.ids):
 ∀ w,Holds B (cx bm M rv hv sv fv uv::VK sv M.seen::VN fv M.fresh::cB M.ids M.g::Fr) w→Calls Tryz.prog 148 [ptr bm,.agg (mP k).toArray].toArray w (Ret B (fun r H'=>∃ sv',r=i64 (M.note k).1∧H'=cx bm (M.note k).2 rv hv sv' fv uv::VK sv' (M.note k).2.seen::VN fv M.fresh::cB M.ids M.g::Fr) (fun _ _=>False)):=by
 refine au func148 aa ntmps148 aa (ac (ab (aC aa (bx aa) .free aa aa ?_)))
 rintro _ _ ⟨b3,rfl,rfl⟩
 refine kPa aa aa (ad (ac (ac (cK Tryz.mixed (by kernel_rfl) (by kernel_rfl) ?_))))
 refine kQm aa aa (kQv (ak aa) aa (kQv (aj (m:=_) mj aa aa) aa (kQv (ae isAgg41 aa aa) aa (kQv (aj (m:=_) vW aa aa) aa (kQv (ae isAgg136 aa aa) aa (bH aa (aA call147 aa) (cY [3,3] [2,2,2] (xz B _ M.ids M.g fv M.fresh hl hi k.1 hx)) .free aa ?_))))))
 refine kQm aa aa ?_
 apply np (tp:=16) (t:=12) (σ1:=[(12,_),(4,_),(3,_),(0,_)]) 4 rfl (aF rfl)
 ·intro hg1
  refine bA aa (aj (m:=_) vW aa aa) (.on aa aa (ah hg1)) aa (bA aa (ae isAgg136 aa aa) (.on aa aa (ah hg1)) aa (bA aa (oM runUnderlying136 aa aa aa) (.on aa aa (ah hg1)) aa (kQv (aH aa hg1 aa) aa ?_)))
  exact eu aa (aF aa) (cV hg1)
 ·intro hg1
  refine bf aa (.on aa aa (ai hg1)) aa (bf aa (.on aa aa (ai hg1)) aa (bf aa (.on aa aa (ai hg1)) aa (kQv (aL aa hg1 aa) aa ?_)))
  exact eu aa (aF aa) (cW hg1)
 refine kQm aa aa ?_
 apply AM (tp:=24) (t:=17) (σ1:=[(17,_),(4,_),(3,_),(0,_)]) 7 rfl (aF rfl)
 ·intro hg2
  refine bA aa (ap aa) (.on aa aa (ah hg2)) aa (bA aa (ak aa) (.on aa aa (ah hg2)) aa (bA aa (aj (m:=_) iY aa aa) (.on aa aa (ah hg2)) aa (bA aa (ae isAgg42 aa aa) (.on aa aa (ah hg2)) aa (bA aa (am isAgg198 sizeOf198 aa aa) (.on aa aa (ah hg2)) aa ?_))))
  refine bH aa (aA call179 aa) (cY [2,3] [2,2,0,1] (EF B _ M.ids M.g sv M.seen hsl hsi k hx)) (.on aa aa (ah hg2)) aa ?_
  refine kQv (aL aa hg2 aa) aa ?_
  exact eu aa (aF aa) (eZ hg2)
 ·intro hg2
  refine bf aa (.on aa aa (ai hg2)) aa (bf aa (.on aa aa (ai hg2)) aa (bf aa (.on aa aa (ai hg2)) aa (bf aa (.on aa aa (ai hg2)) aa (bf aa (.on aa aa (ai hg2)) aa (bf aa (.on aa aa (ai hg2)) aa (kQv (aH aa hg2 aa) aa ?_))))))
  exact eu aa (aF aa) (eY hg2)
 refine bR ?_
 refine aW aa (fun h24=> ?_) (fun h24=> ?_)
 ·have hk:(k.1∈M.fresh∧k.1≠none)∨k∈M.seen:=by simpa [←Option.isSome_iff_ne_none] using h24
  refine ac (ab (kPa aa aa (ad (az ?_))))
  exact ax results148 aa (fun w hw=>⟨_,⟨sv,by unfold Md.note;rw[if_pos hk],by unfold Md.note;rw[if_pos hk]⟩,(hw.dp [0])⟩)
 ·have hk:¬ ((k.1∈M.fresh∧k.1≠none)∨k∈M.seen):=fun e=>by simp[←Option.isSome_iff_ne_none] at e h24;simp_all
  refine ay (ac (ac (aJ [2] (cI fun q qc hq qi=> ?_))))
  subst hq
  refine cK Tryz.mixed (by kernel_rfl) (by kernel_rfl) ?_
  refine kQm aa aa (kQv (ak aa) aa (kQv (aj (m:=_) iY aa aa) aa (kQv (ae isAgg42 aa aa) aa (kQv (bY aa runUnderlying42 ⟨_,rfl⟩ rfl) aa (kQm aa aa (kQv (ak aa) aa (kQv (aj (m:=_) ge aa aa) aa (kQv (aj (m:=_) jM aa aa) aa (kQv (ae isAgg3 aa aa) aa (kQv (an aa aa aa) aa (bR ?_)))))))))))
  refine ao [35,4,3,0] rfl ?_
  refine aW aa (fun h35=> ?_) (fun h35=> ?_)
  ·have hk2:(M.seen.length:Int)=M.c.log:=by simpa using h35
   refine ac (ab (kPa aa aa (ad (az ?_))))
   exact ax results148 aa (fun w hw=>⟨_,⟨.slice q M.seen.length qc,by unfold Md.note;rw[if_neg hk,if_pos hk2],by unfold Md.note;rw[if_neg hk,if_pos hk2]⟩,((hw.dp [1]).pk [1])⟩)
  ·have hk2:¬ (M.seen.length:Int)=M.c.log:=by simpa using h35
   refine ay (ac (cM [0,1,2,3,4,5,6,7,8,9,10] [6,7,10] [0,1,2,3,4] [6,7] [cx bm M rv hv (.slice q M.seen.length qc) fv uv] Tryz.mixed (by kernel_rfl) ?_))
   refine al aa aa aa (ap aa) .free aa (al aa aa aa (ap aa) .free aa (al aa aa aa (ak aa) .free aa (al aa aa aa (aj (m:=_) iY aa aa) .free aa (al aa aa aa (ae isAgg42 aa aa) .free aa (aT aa aa aa (am isAgg198 sizeOf198 aa aa) .free aa ?_)))))
   refine aU aa aa (aC aa (iP xh (v:=k) runUnderlying42 sizeOf198 zeroValue198 ⟨⟨by decide,by decide⟩,rfl⟩ rfl aa) .free aa aa ?_)
   rintro _ _ ⟨b42,rfl,rfl⟩
   refine ad (cN (aU aa aa (aJ [1,0] (aC aa (dj xh (ys:=[k]) aa aa runUnderlying42 runUnderlying42 ⟨_,rfl⟩ sizeOf198 zeroValue198 aa D4 aa aa (SlM.row (b:=b42) aa aa) (Nat.succ_pos _) (by simp;omega)) .free aa aa ?_))))
   rintro rv2 _ ⟨hrv2,rfl⟩
   refine ad (cN (aT aa aa aa (ak aa) .free aa (aT aa aa aa (aj (m:=_) iY aa aa) .free aa (aU aa aa ?_))))
   refine aD aa (aR sizeOf42 aa aa (by first | rfl | assumption) rfl) .free rfl ?_
   rintro _ _ rfl
   refine ad (c9 aa (cJ (ao [4] rfl (ac (ab (kPa aa aa (ad (az ?_))))))))
   exact ax results148 aa (fun w hw=>⟨_,⟨rv2,by unfold Md.note;rw[if_neg hk,if_neg hk2],by unfold Md.note;rw[if_neg hk,if_neg hk2];rfl⟩,((hw.dp [1,1]).pk [1])⟩)
theorem ue(B:World)(Fr:List HP)(c3:Nat)(ids:List Nat)(g:Nat→Nd)(out:List (Option Nat))(hol:out.length≤999999)(hoi:InL ids out)(x:Option Nat)(hx:∀ b,x=some b→b∈ids):
 ∀ w,Holds B (lq 41 136 1 pnE c3 out::cB ids g::Fr) w→Calls Tryz.prog 160 [pn x,ptr c3].toArray w (Ret B (fun r H'=>r= .tuple #[]∧H'=lq 41 136 1 pnE c3 (eH out x)::cB ids g::Fr) (fun _ _=>False)):=by
 refine au func160 aa ntmps160 aa ?_
 have hol':out.length≤1000000:=by omega
 refine pM fun rv hrv=>(ac (ab (kPm aa aa (kPv (oM runUnderlying136 aa aa aa) aa (kPm aa aa ?_)))))
 apply dr (tp:=10) (t:=5) (σ1:=[(5,_),(0,_),(1,_)]) 5 rfl (aF rfl)
 ·intro hg1
  refine aq aa (ae isAgg41 aa aa) (.on aa aa (ah hg1)) aa aa (aq aa (ap aa) (.on aa aa (ah hg1)) aa aa (aE aa (aA call147 aa) (cY [1,1] [2] (xz B _ ids g rv out hol' hoi x hx)) (.on aa aa (ah hg1)) aa aa ?_))
  refine aq aa (bF aa) (.on aa aa (ah hg1)) aa aa (kPv (aH aa hg1 aa) aa ?_)
  exact ba aa (aF aa) (cV hg1)
 ·intro hg1
  refine ar aa (.on aa aa (ai hg1)) aa (ar aa (.on aa aa (ai hg1)) aa (ar aa (.on aa aa (ai hg1)) aa (ar aa (.on aa aa (ai hg1)) aa (kPv (aL aa hg1 aa) aa ?_))))
  exact ba aa (aF aa) (cW hg1)
 refine ad ?_
 refine aW aa (fun h10=> ?_) (fun h10=> ?_)
 ·have hk:x≠none∧x∉out:=by
   simp at h10
   exact⟨fun e=>(by rw[e] at h10;cases h10.1),h10.2⟩
  refine ab (kPv (ae isAgg41 aa aa) aa (kPm aa aa (aC aa (iP gy (v:=x) runUnderlying41 sizeOf136 zeroValue136 ⟨⟨by decide,by decide⟩,rfl⟩ rfl (aP (lv _))) .free aa aa ?_)))
  rintro _ _ ⟨b13,rfl,rfl⟩
  refine aJ [2,0] (aC aa (dj gy (ys:=[x]) aa aa runUnderlying41 runUnderlying41 ⟨_,rfl⟩ sizeOf136 zeroValue136 aa oc aa aa (SlM.row (b:=b13) aa aa) (Nat.succ_pos _) (by simp;omega)) .free aa aa ?_)
  rintro rv2 _ ⟨hrv2,rfl⟩
  refine aD aa (aR sizeOf41 aa aa (by first | rfl | assumption) rfl) .free rfl ?_
  rintro _ _ rfl
  refine ad (ao [] rfl ?_)
  exact cS results160 (fun w hw=>⟨_,⟨rfl,rfl⟩,by unfold eH;rw[if_pos hk];exact gX hrv2 ((hw.dp [1]).pk [1])⟩)
 ·have hk:¬ (x≠none∧x∉out):=fun ⟨e1,e2⟩=>by
   rw[←Option.isSome_iff_ne_none] at e1
   simp[e1,e2] at h10
  refine ay ?_
  exact cS results160 (fun w hw=>⟨_,⟨rfl,rfl⟩,by unfold eH;rw[if_neg hk];exact gX hrv hw⟩)
theorem Ea(out:List (Option Nat))(x:Option Nat):out.length≤(eH out x).length:=by unfold eH;split<;>simp
theorem yb:∀ (l out:List (Option Nat)),out.length≤(l.foldl eH out).length
 | [],_=>Nat.le_refl _
 | x::l,out=>Nat.le_trans (Ea out x) (yb l (eH out x))
theorem B6{g:Nat→Nd}{F i b:Nat}{out R:List (Option Nat)}(e:mq g (F - i) i out=R)(hi:i<F)(h:out[i]? =some (some b)):mq g (F - (i+1)) (i+1) ((g b).names.foldl eH out)=R:=by
 rw[show F - i=(F - (i+1))+1 by omega] at e
 unfold mq at e
 rw[h] at e
 exact e
theorem gT.step{ids:List Nat}{g:Nat→Nd}(hg:∀ b∈ids,InL ids (g b).names){F i:Nat}{out:List (Option Nat)}{R:List (Option Nat)}(h:gT ids out)(hF:ids.length+1≤F+i)(e:mq g F i out=R)(hi:out.length≤i):out=R:=by
 rw[←e]
 cases F with
 | zero=>rfl
 | succ f=>unfold mq;rw[List.getElem?_eq_none hi]
theorem pf(B:World)(Fr:List HP)(bm:Nat)(M:Md)(rv hv sv fv uv:Value)(hW:MdW M 999999):
 ∀ w,Holds B (cx bm M rv hv sv fv uv::VN rv M.roots::VN hv M.hs::cB M.ids M.g::Fr) w→Calls Tryz.prog 100 [ptr bm].toArray w (Ret B (fun r H'=>aV r=true∧H'=VN r M.reached::cx bm M rv hv sv fv uv::VN rv M.roots::VN hv M.hs::cB M.ids M.g::Fr) (fun _ _=>False)):=by
 refine au func100 aa ntmps100 aa ?_
 have hg:∀ b∈M.ids,InL M.ids (M.g b).names:=fun b hb=>(hW.gw b hb).ni
 have hil:=hW.il
 have hhl:=hW.hl
 have hrl:M.roots.length≤1000000:=by have:=hW.rl;have:=hW.c.r2;omega
 refine aJ [1] (cI fun qr qrc hqr qri=> ?_)
 subst hqr
 refine ac (ab (kPa aa aa (ad (ac (ab (aC aa (cA zeroValue41 aa) .free aa aa ?_))))))
 rintro _ _ ⟨b3,rfl,rfl⟩
 refine aK (fun w hh=>uP (α:=Option Nat) (T:=136) (m:=1) (enc:=pnE) hh) (ad (ac (ab (kPv (dm aa aa) aa (kPa aa aa (ad (ac (ac (ab (kPm aa aa (kPv (ak aa) aa ?_)))))))))))
 refine kPv (aj (m:=_) mm aa aa) aa (kPv (ae isAgg41 aa aa) aa (kPv (bY aa runUnderlying41 ⟨_,rfl⟩ rfl) aa (kPm aa aa (ad (aO (cR (ι:=Nat) [17,16,4,3,2,0] (fun k=>(k≤M.roots.length)) (fun k=>[(18,i64 k)]) (fun k=>lq 41 136 1 pnE b3 ((M.roots.take k).foldl eH [])::cx bm M (.slice qr M.roots.length qrc) hv sv fv uv::VN (.slice qr M.roots.length qrc) M.roots::VN hv M.hs::cB M.ids M.g::Fr) (fun k=>M.roots.length - k) (0) (Nat.zero_le _) (fun a w st=>st.to ⟨rfl,trivial⟩ (fun hh=>(hh.pk [0,1]))) ?_))))))
 rintro k hk
 try simp only at hk ⊢
 refine cg (σ':=[(18,i64 k),(17,_),(16,_),(4,_),(3,_),(2,_),(0,_)]) (aF aa) (ac (ab (kPv (an aa aa aa) aa (ad (ac ?_)))))
 refine aW aa (fun h19=> ?_) (fun h19=> ?_)
 ·have hk2:k<M.roots.length:=by simpa using h19
  obtain⟨ob,off,rfl⟩:=qri k hk2
  refine ay (ac (aO (ac ?_)))
  have hO2:gT M.ids ((M.roots.take k).foldl eH []):=(gT.nil _).sees (hW.ri.take k)
  refine ab (kPv (bZ runUnderlying41 sizeOf136 aa aa (by omega) (by omega)) aa (kPv (bX (v:=pn M.roots[k]) isAgg136 (dw gy 2 aa) aa (by simp[hk2])) aa (kPa aa aa (ad (ab (kPm aa aa (kPm aa aa (aJ [0,3] ?_))))))))
  refine aY aa (ku call160 aa aa) (ue B _ b3 M.ids M.g ((M.roots.take k).foldl eH []) (by have:=hO2.len;omega) hO2.inl M.roots[k] (hW.ri.get hk2)) .free aa aa ?_ ?_
  rotate_left
  ·rintro _ _ ⟨⟩
  rintro _ _ ⟨rfl,rfl⟩
  refine ad (ao [18,17,16,4,3,2,0] rfl (ab (kPv (aS aa aa) aa (kPm aa aa (ad ?_)))))
  exact fun a w st_=>⟨k+1,by omega,by omega,st_.to (aF aa) (fun hh=>by rw[qD hk2];exact(hh.pk [0,1,1,1]))⟩
 ·have hk2:¬ k<M.roots.length:=by simpa using h19
  have e0:M.roots.take k=M.roots:=List.take_of_length_le (by omega)
  refine bT (ac (ac (aJ [3] (cI fun qh qhc hqh qhi=> ?_))))
  subst hqh
  refine ab (kPm aa aa (kPv (ak aa) aa (kPv (aj (m:=_) eK aa aa) aa (kPv (ae isAgg41 aa aa) aa (kPv (bY aa runUnderlying41 ⟨_,rfl⟩ rfl) aa (kPm aa aa (ad (ao [31,30,29,4,3,2] rfl (aO (cR (ι:=Nat) [30,29,4,3,2] (fun k=>(k≤M.hs.length)) (fun k=>[(31,i64 k)]) (fun k=>lq 41 136 1 pnE b3 ((M.hs.take k).foldl eH (M.roots.foldl eH []))::cx bm M (.slice qr M.roots.length qrc) (.slice qh M.hs.length qhc) sv fv uv::VN (.slice qr M.roots.length qrc) M.roots::VN (.slice qh M.hs.length qhc) M.hs::cB M.ids M.g::Fr) (fun k=>M.hs.length - k) (0) (Nat.zero_le _) (fun a w st=>st.to ⟨rfl,trivial⟩ (fun hh=>by have h9:=(hh.pk [1,1,1]);rw[e0] at h9;exact h9)) ?_))))))))))
  rintro k hk
  try simp only at hk ⊢
  refine cg (σ':=[(31,i64 k),(30,_),(29,_),(4,_),(3,_),(2,_)]) (aF aa) (ac (ab (kPv (an aa aa aa) aa (ad (ac ?_)))))
  refine aW aa (fun h32=> ?_) (fun h32=> ?_)
  ·have hk2:k<M.hs.length:=by simpa using h32
   obtain⟨ob,off,rfl⟩:=qhi k hk2
   refine ay (ac (aO (ac ?_)))
   have hO2:gT M.ids ((M.hs.take k).foldl eH (M.roots.foldl eH [])):=((gT.nil _).sees hW.ri).sees (hW.hi.take k)
   refine ab (kPv (bZ runUnderlying41 sizeOf136 aa aa (by omega) (by omega)) aa (kPv (bX (v:=pn M.hs[k]) isAgg136 (dw gy 3 aa) aa (by simp[hk2])) aa (kPa aa aa (ad (ab (kPm aa aa (kPm aa aa (aJ [0,3] ?_))))))))
   refine aY aa (ku call160 aa aa) (ue B _ b3 M.ids M.g ((M.hs.take k).foldl eH (M.roots.foldl eH [])) (by have:=hO2.len;omega) hO2.inl M.hs[k] (hW.hi.get hk2)) .free aa aa ?_ ?_
   rotate_left
   ·rintro _ _ ⟨⟩
   rintro _ _ ⟨rfl,rfl⟩
   refine ad (ao [31,30,29,4,3,2] rfl (ab (kPv (aS aa aa) aa (kPm aa aa (ad ?_)))))
   exact fun a w st_=>⟨k+1,by omega,by omega,st_.to (aF aa) (fun hh=>by rw[qD hk2];exact(hh.pk [0,1,1,1]))⟩
  ·have hk2:¬ k<M.hs.length:=by simpa using h32
   have e0:M.hs.take k=M.hs:=List.take_of_length_le (by omega)
   refine bT (ac (ac (ab (kPa aa aa (ad (aO (cR (ι:=Nat×List (Option Nat)) [4,3,2] (fun (i,out)=>(i≤out.length)∧(mq M.g (M.ids.length+1 - i) i out=M.reached)∧(gT M.ids out)) (fun (i,out)=>[(9,i64 i)]) (fun (i,out)=>lq 41 136 1 pnE b3 (out)::cx bm M (.slice qr M.roots.length qrc) (.slice qh M.hs.length qhc) sv fv uv::VN (.slice qr M.roots.length qrc) M.roots::VN (.slice qh M.hs.length qhc) M.hs::cB M.ids M.g::Fr) (fun (i,out)=>M.ids.length+1 - i) (0,M.hs.foldl eH (M.roots.foldl eH [])) (⟨Nat.zero_le _,rfl,((gT.nil _).sees hW.ri).sees hW.hi⟩) (fun a w st=>st.to ⟨rfl,trivial⟩ (fun hh=>by have h9:=hh;rw[e0] at h9;exact h9)) ?_)))))))
   rintro⟨i,out⟩ ⟨hi,he,hO⟩
   try simp only at hi he hO ⊢
   refine cg (σ':=[(9,i64 i),(4,_),(3,_),(2,_)]) (aF aa) (ac (ac (pM fun rv2 hrv2=>(aJ [1] (cI fun q qc hq qi=> ?_)))))
   subst hq
   refine ab (kPm aa aa (kPv (ae isAgg41 aa aa) aa (kPv (bY aa runUnderlying41 ⟨_,rfl⟩ rfl) aa (kPv (an aa aa aa) aa (ad ?_)))))
   refine aW aa (fun h42=> ?_) (fun h42=> ?_)
   ·have hk2:i<out.length:=by simpa using h42
    obtain⟨ob,off,rfl⟩:=qi i hk2
    obtain⟨b,hbi,hbo⟩:=hO.ex out[i] (List.getElem_mem hk2)
    have hle:=hO.len
    have hnl:(M.g b).names.length≤64:=by have:=hW.gw b hbi;have:=this.nl;have:=(hW.gw b hbi).r0;omega
    refine ay (ac (aO (ac (ab (kPv (ae isAgg41 aa aa) aa (kPm aa aa (kPv (bZ runUnderlying41 sizeOf136 aa aa (by omega) (by omega)) aa ?_)))))))
    refine kPv (bX (v:=ptr b) isAgg136 (dw gy 0 aa) aa (by rw[Int.toNat_natCast,List.getElem?_map,List.getElem?_eq_getElem hk2,hbo];rfl)) aa ?_
    refine aJ [1,0] (aK (fun w hh=>gX hrv2 hh) (aJ [4] (nK hbi (aJ [1] (cI fun q2 qc2 hq2 q2i=>(kPv (ak aa) aa (kPv (aj (m:=_) lV aa aa) aa (kPv (ae isAgg41 aa aa) aa (kPv (bY aa runUnderlying41 ⟨_,rfl⟩ (congrArg some hq2)) aa (aJ [1,0,0,0] (aK (fun w hh=>nw hbi hh) ?_)))))))))))
    refine kPm aa aa (ad (ao [53,52,51,9,4,3,2] rfl (aO (cR (ι:=Nat) [52,51,9,4,3,2] (fun k=>(k≤(M.g b).names.length)) (fun k=>[(53,i64 k)]) (fun k=>lq 41 136 1 pnE b3 (((M.g b).names.take k).foldl eH out)::cx bm M (.slice qr M.roots.length qrc) (.slice qh M.hs.length qhc) sv fv uv::VN (.slice qr M.roots.length qrc) M.roots::VN (.slice qh M.hs.length qhc) M.hs::cB M.ids M.g::Fr) (fun k=>(M.g b).names.length - k) (0) (Nat.zero_le _) (fun a w st=>st.to ⟨rfl,trivial⟩ (fun hh=>(hh.pk [1,1,1,1]))) ?_))))
    rintro k hk
    try simp only at hk ⊢
    refine cg (σ':=[(53,i64 k),(52,_),(51,_),(9,_),(4,_),(3,_),(2,_)]) (aF aa) (ac (ab (kPv (an aa aa aa) aa (ad (ac ?_)))))
    refine aW aa (fun h54=> ?_) (fun h54=> ?_)
    ·have hk2:k<(M.g b).names.length:=by simpa using h54
     obtain⟨ob2,off2,rfl⟩:=q2i k hk2
     refine ay (ac (aO (ac (ab (kPv (bZ runUnderlying41 sizeOf136 (congrArg some hq2) aa (by omega) (by omega)) aa (aJ [4] (nK hbi (kPv (bX (v:=pn (M.g b).names[k]) isAgg136 (dw (q:=some ⟨ob2,off2,none⟩) (cap:=qc2) (xs:=(M.g b).names) gy 1 (by rw[←hq2];rfl)) aa (by simp[hk2])) aa (aK (fun w hh=>nw hbi hh) (kPa aa aa (ad ?_)))))))))))
     have hO2:gT M.ids (((M.g b).names.take k).foldl eH out):=hO.sees ((hg b hbi).take k)
     refine ab (kPm aa aa (kPm aa aa (aJ [1,0] ?_)))
     refine aY aa (ku call160 aa aa) (ue B _ b3 M.ids M.g (((M.g b).names.take k).foldl eH out) (by have:=hO2.len;omega) hO2.inl (M.g b).names[k] ((hg b hbi).get hk2)) .free aa aa ?_ ?_
     rotate_left
     ·rintro _ _ ⟨⟩
     rintro _ _ ⟨rfl,rfl⟩
     refine ad (ao [53,52,51,9,4,3,2] rfl (ab (kPv (aS aa aa) aa (kPm aa aa (ad ?_)))))
     exact fun a w st_=>⟨k+1,by omega,by omega,st_.to (aF aa) (fun hh=>by rw[qD hk2];exact(hh.pk [0,1,1,1]))⟩
    ·have hk3:¬ k<(M.g b).names.length:=by simpa using h54
     have e0:(M.g b).names.take k=(M.g b).names:=List.take_of_length_le (by omega)
     have hsl:=yb (M.g b).names out
     refine bT (ab (kPm aa aa (kPv (aS aa aa) aa (kPa aa aa (ad ?_)))))
     exact fun a w st_=>⟨(i+1,(M.g b).names.foldl eH out),⟨by simp only;omega,B6 he (by omega) (by rw[List.getElem?_eq_getElem hk2,hbo]),hO.sees (hg b hbi)⟩,by simp only;omega,st_.to (aF aa) (fun hh=>by have h9:=hh;rw[e0] at h9;exact h9)⟩
   ·have hk2:¬ i<out.length:=by simpa using h42
    have e9:=hO.step hg (F:=M.ids.length+1 - i) (i:=i) (by have:=hO.len;omega) he (by omega)
    refine bT (ac (ab (kPv (ae isAgg41 aa aa) aa (kPa aa aa (ad (ao [2] rfl (az ?_)))))))
    exact ax results100 aa (fun w hw=>⟨_,⟨hrv2,by rw[←e9]⟩,(hw.dp [1])⟩)
theorem y6{ids:List Nat}{g:Nat→Nd}(hg:∀ b∈ids,InL ids (g b).names):∀ (F i:Nat) (out:List (Option Nat)),gT ids out→gT ids (mq g F i out)
 | 0,_,_,h=>h
 | F+1,i,out,h=>by
   unfold mq
   split
   ·rename_i b e
    exact y6 hg F (i+1) _ (h.sees (hg b (h.inl b (List.mem_of_getElem? e))))
   ·exact h
theorem MdW.out{M:Md}{K:Nat}(h:MdW M K):gT M.ids M.reached:=y6 (fun b hb=>(h.gw b hb).ni) _ _ _ (((gT.nil _).sees h.ri).sees h.hi)
theorem DG{M:Md}{K:Nat}(h:MdW M K):∀ (l:List (Option Nat)) (n:Int),(∀ x∈l,∃ b∈M.ids,x=some b)→n≤l.foldl (fun n x=>n+((M.g (x.getD 0)).wd+1)) n∧l.foldl (fun n x=>n+((M.g (x.getD 0)).wd+1)) n≤n+l.length*65
 | [],n,_=>by simp
 | x::l,n,hl=>by
   obtain⟨b,hb,rfl⟩:=hl x (List.mem_cons_self ..)
   have h1:=(h.gw b hb).r0
   have h2:=DG h l (n+((M.g b).wd+1)) fun y hy=>hl y (List.mem_cons_of_mem _ hy)
   simp only[List.foldl_cons,Option.getD_some,List.length_cons]
   omega
theorem MdW.size_b{M:Md}{K:Nat}(h:MdW M K):0≤M.size∧M.size≤65000000:=by
 have h1:=DG h M.reached 0 h.out.ex
 have h2:=h.out.len
 have h3:=h.il
 have h4:=h.kl
 unfold Md.size Md.szL
 omega
theorem Cq{M:Md}{l:List (Option Nat)}{k:Nat}(hk:k<l.length):M.szL (l.take (k+1))=M.szL (l.take k)+((M.g (l[k].getD 0)).wd+1):=by
 unfold Md.szL
 rw[List.take_succ_eq_append_getElem hk,List.foldl_append];rfl
theorem qV(B:World)(Fr:List HP)(bm:Nat)(M:Md)(rv hv sv fv uv:Value)(hW:MdW M 999999):
 ∀ w,Holds B (cx bm M rv hv sv fv uv::VN rv M.roots::VN hv M.hs::cB M.ids M.g::Fr) w→Calls Tryz.prog 31 [ptr bm].toArray w (bB B (cx bm M rv hv sv fv uv::VN rv M.roots::VN hv M.hs::cB M.ids M.g::Fr) (i64 M.size)):=by
 refine au func31 aa ntmps31 aa ?_
 have hO:=hW.out
 have hil:=hW.il
 have hle:=hO.len
 refine ac (ab (kPa aa aa (ad (ac (ab (kPa aa aa (ad (ac (ac (ab (kPm aa aa ?_)))))))))))
 refine aQ aa (aA call100 aa) (pf B _ bm M rv hv sv fv uv hW) .free aa aa ?_
 rintro rv2 _ ⟨hrv2,rfl⟩
 refine cI fun q qc hq qi=> ?_
 subst hq
 refine kPv (bY aa runUnderlying41 ⟨_,rfl⟩ rfl) aa (kPm aa aa (ad (aO (cR (ι:=Nat×Int) [8,7,2] (fun (k,n)=>(k≤M.reached.length)∧(n=M.szL (M.reached.take k)∧0≤n∧n≤k*65)) (fun (k,n)=>[(9,i64 k),(3,i64 n)]) (fun (k,n)=>VN (.slice q M.reached.length qc) M.reached::cx bm M rv hv sv fv uv::VN rv M.roots::VN hv M.hs::cB M.ids M.g::Fr) (fun (k,n)=>M.reached.length - k) (0,0) (⟨Nat.zero_le _,rfl,Int.le_refl _,Int.le_refl _⟩) (fun a w st=>st.to ⟨rfl,rfl,trivial⟩ (fun hh=>hh)) ?_))))
 rintro⟨k,n⟩ ⟨hk,hn⟩
 try simp only at hk hn ⊢
 refine cg (σ':=[(9,i64 k),(3,i64 n),(8,_),(7,_),(2,_)]) (aF aa) (ac (ab (kPv (an aa aa aa) aa (ad (ac ?_)))))
 refine aW aa (fun h10=> ?_) (fun h10=> ?_)
 ·have hk2:k<M.reached.length:=by simpa using h10
  obtain⟨ob,off,rfl⟩:=qi k hk2
  obtain⟨b,hbi,hbo⟩:=hO.ex M.reached[k] (List.getElem_mem hk2)
  have hwd:0≤(M.g b).wd∧(M.g b).wd≤64:=by have:=(hW.gw b hbi).r0;omega
  have hst:=Cq (M:=M) hk2
  rw[hbo] at hst
  simp only[Option.getD_some] at hst
  refine ay (ac (aO (ac (ab (kPv (bZ runUnderlying41 sizeOf136 aa aa (by omega) (by omega)) aa ?_)))))
  refine kPv (bX (v:=ptr b) isAgg136 (dw gy 0 aa) aa (by rw[Int.toNat_natCast,List.getElem?_map,List.getElem?_eq_getElem hk2,hbo];rfl)) aa ?_
  refine kPa aa aa (ad (ab (kPm aa aa (kPm aa aa (aJ [4] (aK (fun w hh=>jf hbi hh) (aE aa (aA call101 aa) (sX B _ b (M.g b) hwd) .free aa aa ?_)))))))
  refine aK (fun w hh=>ki hbi hh) (kPv (aS aa aa) aa (kPa aa aa (ad (ao [3,9,8,7,2] rfl (ab (kPv (aS aa aa) aa (kPm aa aa (ad ?_))))))))
  exact fun a w st_=>⟨(k+1,n+((M.g b).wd+1)),⟨by omega,by simp only;omega,by omega,by simp only;omega⟩,by omega,st_.to (aF aa) (fun hh=>(hh.pk [1,1,1,1]))⟩
 ·have hk2:¬ k<M.reached.length:=by simpa using h10
  refine bT (ac (ab (kPm aa aa (kPa aa aa (ad (az ?_))))))
  exact ax results31 aa (fun w hw=>⟨by rw[hn.1,List.take_of_length_le (by omega)];rfl,(hw.dp [0])⟩)
def Md.begin(M:Md)(room:Int):Int×Md:=
 if M.o=true then (2,M) else if room<0 then (1,M) else
 if M.c.space - M.used<room then (if M.c.space - M.size<room then (4,{M with left:= -1,used:=M.size}) else (0,{M with left:= -1,used:=M.size,o:=true,seen:=[],fresh:=[],undo:=[]}))
 else (0,{M with left:= -1,o:=true,seen:=[],fresh:=[],undo:=[]})
def Md.commit(M:Md):Int×Md:=if M.o=true then (0,{M with o:=false,seen:=[]}) else (2,M)
def Md.collect(M:Md):Int×Md:=if M.o=true then (2,M) else (0,{M with left:= -1,used:=M.size})
def Md.drop(M:Md)(h:Int):Int×Md:=if (M.node h).2≠0 then ((M.node h).2,M) else (0,{M with hs:=M.hs.set (h - 1).toNat none})
abbrev Md.nd(M:Md)(h:Int):Nd:=M.g ((M.node h).1.getD 0)
def Md.head(M:Md)(h:Int):(Int×Int)×Int:=if (M.node h).2≠0 then ((0,0),(M.node h).2) else (((M.nd h).wd,(M.nd h).rf),0)
def Md.read(M:Md)(h i:Int):Int×Int:=if (M.node h).2≠0 then (0,(M.node h).2) else if (M.nd h).field i false≠0 then (0,(M.nd h).field i false) else ((M.nd h).nums.getD i.toNat 0,0)
def Md.ref(M:Md)(h i:Int):(Int×Int)×Md:=if (M.node h).2≠0 then ((0,(M.node h).2),M) else if (M.nd h).field i true≠0 then ((0,(M.nd h).field i true),M) else (((M.take ((M.nd h).names.getD i.toNat none)).1,0),(M.take ((M.nd h).names.getD i.toNat none)).2)
def Md.root(M:Md)(i:Int):(Int×Int)×Md:=if i<0∨M.c.roots≤i then ((0,1),M) else (((M.take (M.roots.getD i.toNat none)).1,0),(M.take (M.roots.getD i.toNat none)).2)
def Md.step0(M:Md):Md:=if M.left<0 then {M with left:=M.c.roots+M.live+M.reached.length+1,thn:=M.size} else M
def cl(n l:Int):Int:=if (if l<n then l else n)<0 then 0 else if l<n then l else n
def Md.step(M:Md)(n:Int):(Bool×Int)×Md:=if M.o=true then ((false,2),M) else if 0<M.step0.left - cl n M.step0.left then ((false,0),{M.step0 with left:=M.step0.left - cl n M.step0.left}) else ((true,0),{M.step0 with left:= -1,used:=M.step0.thn})
theorem MdW.node{M:Md}{K:Nat}(h:MdW M K){x:Int}(e:¬ (M.node x).2≠0):∃ b∈M.ids,(M.node x).1=some b∧1≤x∧x≤M.hs.length∧M.hs[(x - 1).toNat]? =some (some b):=by
 unfold Md.node at e ⊢
 split at e
 ·rename_i hc
  rw[if_pos hc]
  obtain⟨h1,h2,h3⟩:=hc
  have hlt:(x - 1).toNat<M.hs.length:=by omega
  rw[List.getD_eq_getElem?_getD,List.getElem?_eq_getElem hlt] at h3 ⊢
  simp only[Option.getD_some] at h3 ⊢
  cases hb:M.hs[(x - 1).toNat] with
  | none=>exact absurd hb h3
  | some b=>exact⟨b,h.hi.get hlt b hb,rfl,h1,h2,rfl⟩
 ·exact absurd (by decide) e
theorem ta{B:World}{Fr:List HP}{A1 A2 A3 A4:HP}{bm:Nat}{w:World}(h:Holds B (A1::A2::A3::A4::Fr) w):Holds B (A1::A2::A3::VK (.slice none 0 0) []::VN (.slice none 0 0) []::VU (.slice none 0 0) []::A4::iZ bm []::Fr) w:=
 (xY (fX (fX (fX h)))).pk [4,4,4,3,2,1,1]
theorem Md.live_b(M:Md):0≤M.live∧M.live≤M.hs.length:=⟨by unfold Md.live;omega,by unfold Md.live;have:=List.length_filter_le (fun x:Option Nat=>x.isSome) M.hs;omega⟩
theorem MdW.mono{M:Md}{K K':Nat}(h:MdW M K)(hk:K≤K')(hk':K'≤1000000):MdW M K':={h with hl:=Nat.le_trans h.hl hk,fl:=Nat.le_trans h.fl hk,ul:=Nat.le_trans h.ul hk,il:=Nat.le_trans h.il hk,kl:=hk'}
theorem zB(B:World)(Fr:List HP)(bm:Nat)(M:Md)(hW:MdW M 999999)(room:Int):
 ∀ w,Holds B (dI bm M::Fr) w→Calls Tryz.prog 85 [ptr bm,i64 room].toArray w (Ret B (fun r H'=>r=i64 (M.begin room).1∧H'=dI bm ((M.begin room).2)::Fr) (fun _ _=>False)):=by
 refine au func85 aa ntmps85 aa ?_
 have hs1:=hW.c.s1
 have hs2:=hW.c.s2
 have hus:=hW.us
 have hsb:=hW.size_b
 have hW1:MdW {M with left:= -1} 999999:={hW with lf:=(show(-1:Int)≤ -1∧(-1:Int)≤10000000 by decide),uw:=hW.uw}
 have hsb1:0≤({M with left:= -1}:Md).size∧({M with left:= -1}:Md).size≤65000000:=hsb
 refine fC fun rv hv sv fv uv=>(ac (ab (kPa aa aa (ad (ac (aO (ac (ab (kPm aa aa (kPv (ak aa) aa (kPv (aj (m:=_) ew aa aa) aa ?_)))))))))))
 refine kPv (ae isAgg4 aa aa) aa (kPa aa aa (ad ?_))
 refine aW aa (fun h5=> ?_) (fun h5=> ?_)
 ·have h5':M.o=true:=by simpa using h5
  refine ac (ab (kPa aa aa (ad (az ?_))))
  exact ax results85 aa (fun w hw=>⟨_,⟨by unfold Md.begin;rw[if_pos h5'],by unfold Md.begin;rw[if_pos h5']⟩,bj (M:=M) hw⟩)
 ·have h5':¬ (M.o=true):=by simpa using h5
  refine ac (ab (kPm aa aa (kPv (an aa aa aa) aa (kPa aa aa (ad (ao [10,4,0,1] rfl ?_))))))
  refine aW aa (fun h10=> ?_) (fun h10=> ?_)
  ·have h10':room<0:=by simpa using h10
   refine ac (ab (kPa aa aa (ad (az ?_))))
   exact ax results85 aa (fun w hw=>⟨_,⟨by unfold Md.begin;rw[if_neg h5',if_pos h10'],by unfold Md.begin;rw[if_neg h5',if_pos h10']⟩,bj (M:=M) hw⟩)
  ·have h10':¬ (room<0):=by simpa using h10
   refine ay (ac (ab (kPm aa aa (kPv (ak aa) aa (kPv (aj (m:=_) fk aa aa) aa (aD aa (aR sizeOf3 aa aa aa aa) .free aa ?_))))))
   rintro _ _ rfl
   refine ad (ac (ac (cK Tryz.mixed (by kernel_rfl) (by kernel_rfl) ?_)))
   refine kQm aa aa (kQm aa aa (kQv (ak aa) aa (kQv (aj (m:=_) ge aa aa) aa (kQv (aj (m:=_) dX aa aa) aa (kQv (ae isAgg3 aa aa) aa (kQm aa aa (kQv (ak aa) aa (kQv (aj (m:=_) fO aa aa) aa (kQv (ae isAgg3 aa aa) aa (kQv (cU aa aa) aa (kQv (an aa aa aa) aa ?_)))))))))))
   refine bR (ao [27,4,0,1] rfl ?_)
   refine aW aa (fun h27=> ?_) (fun h27=> ?_)
   ·have h27':=of_decide_eq_true h27
    refine ab (kPm aa aa (kPm aa aa (aE aa (aA call31 aa) (cY [0,0,0,3] [0,0,0,1,1,1] (qV B _ bm {M with left:= -1} _ _ _ _ _ hW1)) .free aa aa ?_)))
    refine kPv (ak aa) aa (kPv (aj (m:=_) fO aa aa) aa (aD aa (aR sizeOf3 aa aa aa aa) .free aa ?_))
    rintro _ _ rfl
    refine ad (ac (ac (cK Tryz.mixed (by kernel_rfl) (by kernel_rfl) ?_)))
    refine kQm aa aa (kQm aa aa (kQv (ak aa) aa (kQv (aj (m:=_) ge aa aa) aa (kQv (aj (m:=_) dX aa aa) aa (kQv (ae isAgg3 aa aa) aa (kQm aa aa (kQv (ak aa) aa (kQv (aj (m:=_) fO aa aa) aa (kQv (ae isAgg3 aa aa) aa (kQv (cU aa aa) aa (kQv (an aa aa aa) aa ?_)))))))))))
    refine bR (ao [44,4,0] rfl ?_)
    refine aW aa (fun h44=> ?_) (fun h44=> ?_)
    ·have h44':=of_decide_eq_true h44
     refine ac (ab (kPa aa aa (ad (az ?_))))
     exact ax results85 aa (fun w hw=>⟨_,⟨by unfold Md.begin;rw[if_neg h5',if_neg h10',if_pos (show M.c.space - M.used<room from h27'),if_pos (show M.c.space - M.size<room from h44')],by unfold Md.begin;rw[if_neg h5',if_neg h10',if_pos (show M.c.space - M.used<room from h27'),if_pos (show M.c.space - M.size<room from h44')]⟩,(by have h9:=hw;exact bj (M:={M with left:= -1,used:=M.size}) h9)⟩)
    ·have h44':=of_decide_eq_false h44
     refine ay (ac (ab (kPm aa aa (kPm aa aa (kPm aa aa (kPm aa aa (kPv (ak aa) aa (kPv (aj (m:=_) ew aa aa) aa (aD aa (aR sizeOf4 aa aa aa aa) .free aa ?_)))))))))
     rintro _ _ rfl
     refine kPv (ak aa) aa (kPv (aj (m:=_) iY aa aa) aa ?_)
     refine aD aa (aR sizeOf42 aa aa (by first | rfl | assumption) rfl) .free rfl ?_
     rintro _ _ rfl
     refine kPv (ak aa) aa (kPv (aj (m:=_) mj aa aa) aa ?_)
     refine aD aa (aR sizeOf41 aa aa (by first | rfl | assumption) rfl) .free rfl ?_
     rintro _ _ rfl
     refine kPv (ak aa) aa (kPv (aj (m:=_) gb aa aa) aa ?_)
     refine aD aa (aR sizeOf43 aa aa (by first | rfl | assumption) rfl) .free rfl ?_
     rintro _ _ rfl
     refine ad (ao [4] rfl (ac (ab (kPa aa aa (ad (az ?_))))))
     exact ax results85 aa (fun w hw=>⟨_,⟨by unfold Md.begin;rw[if_neg h5',if_neg h10',if_pos (show M.c.space - M.used<room from h27'),if_neg (show ¬ M.c.space - M.size<room from h44')],by unfold Md.begin;rw[if_neg h5',if_neg h10',if_pos (show M.c.space - M.used<room from h27'),if_neg (show ¬ M.c.space - M.size<room from h44')]⟩,bj (M:={M with left:= -1,used:=M.size,o:=true,seen:=[],fresh:=[],undo:=[]}) (sv:= .slice none 0 0) (fv:= .slice none 0 0) (uv:= .slice none 0 0) (ta (hw.dp [3,3,3,4]))⟩)
   ·have h27':=of_decide_eq_false h27
    refine ay (ac (ac (cK Tryz.mixed (by kernel_rfl) (by kernel_rfl) ?_)))
    refine kQm aa aa (kQm aa aa (kQv (ak aa) aa (kQv (aj (m:=_) ge aa aa) aa (kQv (aj (m:=_) dX aa aa) aa (kQv (ae isAgg3 aa aa) aa (kQm aa aa (kQv (ak aa) aa (kQv (aj (m:=_) fO aa aa) aa (kQv (ae isAgg3 aa aa) aa (kQv (cU aa aa) aa (kQv (an aa aa aa) aa ?_)))))))))))
    refine bR (ao [44,4,0] rfl ?_)
    refine aW aa (fun h44=> ?_) (fun h44=> ?_)
    ·have h44':=of_decide_eq_true h44
     refine ac (ab (kPa aa aa (ad (az ?_))))
     exact ax results85 aa (fun w hw=>absurd h44' h27')
    ·have h44':=of_decide_eq_false h44
     refine ay (ac (ab (kPm aa aa (kPm aa aa (kPm aa aa (kPm aa aa (kPv (ak aa) aa (kPv (aj (m:=_) ew aa aa) aa (aD aa (aR sizeOf4 aa aa aa aa) .free aa ?_)))))))))
     rintro _ _ rfl
     refine kPv (ak aa) aa (kPv (aj (m:=_) iY aa aa) aa ?_)
     refine aD aa (aR sizeOf42 aa aa (by first | rfl | assumption) rfl) .free rfl ?_
     rintro _ _ rfl
     refine kPv (ak aa) aa (kPv (aj (m:=_) mj aa aa) aa ?_)
     refine aD aa (aR sizeOf41 aa aa (by first | rfl | assumption) rfl) .free rfl ?_
     rintro _ _ rfl
     refine kPv (ak aa) aa (kPv (aj (m:=_) gb aa aa) aa ?_)
     refine aD aa (aR sizeOf43 aa aa (by first | rfl | assumption) rfl) .free rfl ?_
     rintro _ _ rfl
     refine ad (ao [4] rfl (ac (ab (kPa aa aa (ad (az ?_))))))
     exact ax results85 aa (fun w hw=>⟨_,⟨by unfold Md.begin;rw[if_neg h5',if_neg h10',if_neg (show ¬ M.c.space - M.used<room from h27')],by unfold Md.begin;rw[if_neg h5',if_neg h10',if_neg (show ¬ M.c.space - M.used<room from h27')]⟩,bj (M:={M with left:= -1,o:=true,seen:=[],fresh:=[],undo:=[]}) (sv:= .slice none 0 0) (fv:= .slice none 0 0) (uv:= .slice none 0 0) (ta (hw.dp [3,3,3,4]))⟩)
theorem xe(B:World)(Fr:List HP)(bm:Nat)(M:Md)(hW:MdW M 999999):
 ∀ w,Holds B (dI bm M::Fr) w→Calls Tryz.prog 29 [ptr bm].toArray w (Ret B (fun r H'=>r=i64 M.commit.1∧H'=dI bm (M.commit.2)::Fr) (fun _ _=>False)):=by
 refine au func29 aa ntmps29 aa (fC fun rv hv sv fv uv=>(ac (ab (kPa aa aa (ad (ac (ac (ab (kPm aa aa (kPv (ak aa) aa (kPv (aj (m:=_) ew aa aa) aa ?_)))))))))))
 refine kPv (ae isAgg4 aa aa) aa (kPv (bF aa) aa (ad ?_))
 refine aW aa (fun h7=> ?_) (fun h7=> ?_)
 ·have h7':¬ (M.o=true):=by simpa using h7
  refine ac (ab (kPa aa aa (ad (az ?_))))
  exact ax results29 aa (fun w hw=>⟨_,⟨by unfold Md.commit;rw[if_neg h7'],by unfold Md.commit;rw[if_neg h7']⟩,bj (M:=M) hw⟩)
 ·have h7':M.o=true:=by simpa using h7
  refine ay (ac (ab (kPm aa aa (kPm aa aa (kPv (ak aa) aa (kPv (aj (m:=_) ew aa aa) aa (aD aa (aR sizeOf4 aa aa aa aa) .free aa ?_)))))))
  rintro _ _ rfl
  refine kPv (ak aa) aa (kPv (aj (m:=_) iY aa aa) aa ?_)
  refine aD aa (aR sizeOf42 aa aa (by first | rfl | assumption) rfl) .free rfl ?_
  rintro _ _ rfl
  refine ad (ao [2] rfl (ac (ab (kPa aa aa (ad (az ?_))))))
  exact ax results29 aa (fun w hw=>⟨_,⟨by unfold Md.commit;rw[if_pos h7'],by unfold Md.commit;rw[if_pos h7']⟩,bj (M:={M with o:=false,seen:=[]}) (sv:= .slice none 0 0) ((fX (hw.dp [3])).pk [1,1,1])⟩)
theorem vy(B:World)(Fr:List HP)(bm:Nat)(M:Md)(hW:MdW M 999999):
 ∀ w,Holds B (dI bm M::Fr) w→Calls Tryz.prog 98 [ptr bm].toArray w (Ret B (fun r H'=>r=i64 M.collect.1∧H'=dI bm (M.collect.2)::Fr) (fun _ _=>False)):=by
 refine au func98 aa ntmps98 aa (fC fun rv hv sv fv uv=>(ac (ab (kPa aa aa (ad (ac (ac (ab (kPm aa aa (kPv (ak aa) aa (kPv (aj (m:=_) ew aa aa) aa ?_)))))))))))
 refine kPv (ae isAgg4 aa aa) aa (ad ?_)
 refine aW aa (fun h6=> ?_) (fun h6=> ?_)
 ·have h6':M.o=true:=by simpa using h6
  refine ac (ab (kPa aa aa (ad (az ?_))))
  exact ax results98 aa (fun w hw=>⟨_,⟨by unfold Md.collect;rw[if_pos h6'],by unfold Md.collect;rw[if_pos h6']⟩,bj (M:=M) hw⟩)
 ·have h6':¬ (M.o=true):=by simpa using h6
  refine ay (ac (ab (kPm aa aa (kPm aa aa (kPm aa aa (aE aa (aA call31 aa) (cY [0,0,0,3] [0,0,0,1,1,1] (qV B _ bm M _ _ _ _ _ hW)) .free aa aa ?_))))))
  refine kPv (ak aa) aa (kPv (aj (m:=_) fk aa aa) aa (aD aa (aR sizeOf3 aa aa aa aa) .free aa ?_))
  rintro _ _ rfl
  refine kPv (ak aa) aa (kPv (aj (m:=_) fO aa aa) aa (aD aa (aR sizeOf3 aa aa aa aa) .free aa ?_))
  rintro _ _ rfl
  refine ad (ao [2] rfl (ac (ab (kPa aa aa (ad (az ?_))))))
  exact ax results98 aa (fun w hw=>⟨_,⟨by unfold Md.collect;rw[if_neg h6'],by unfold Md.collect;rw[if_neg h6']⟩,(by have h9:=hw;exact bj (M:={M with left:= -1,used:=M.size}) h9)⟩)
theorem A0(B:World)(Fr:List HP)(bm:Nat)(M:Md)(hW:MdW M 999999)(h:Int):
 ∀ w,Holds B (dI bm M::Fr) w→Calls Tryz.prog 96 [ptr bm,i64 h].toArray w (Ret B (fun r H'=>r=i64 (M.drop h).1∧H'=dI bm ((M.drop h).2)::Fr) (fun _ _=>False)):=by
 refine au func96 aa ntmps96 aa ?_
 have hhl:M.hs.length≤1000000:=by have:=hW.hl;omega
 refine fC fun rv hv sv fv uv=>(aJ [2] (cI fun qh qhc hqh qhi=> ?_))
 subst hqh
 refine aJ [1,1,0] (ac (ab (kPa aa aa (ad (ac (ab (kPm aa aa (kPm aa aa (aE aa (aA call151 aa) (cY [0,1] [0,1] (jg B _ bm M _ _ _ _ _ h hhl)) .free aa aa ?_)))))))))
 refine kPm aa aa (kPv (aB aa aa) aa (kPv (aB aa aa) aa (kPa aa aa (kPa aa aa (ad (ao [6,4,0,1] rfl (ac (ac (ab (kPm aa aa (kPv (an aa aa aa) aa ?_)))))))))))
 refine ad ?_
 refine aW aa (fun h14=> ?_) (fun h14=> ?_)
 ·have h14':¬ (M.node h).2≠0:=by simpa using h14
  obtain⟨b,hbi,hbo,hb1,hb2,hb3⟩:=hW.node h14'
  obtain⟨ob,off,rfl⟩:=qhi (h - 1).toNat (by omega)
  refine ab (kPm aa aa (kPv (ak aa) aa (kPv (aj (m:=_) eK aa aa) aa (kPv (ae isAgg41 aa aa) aa (kPm aa aa (kPv (cU aa aa) aa (kPv (bZ runUnderlying41 sizeOf136 aa aa (by omega) (by omega)) aa (aJ [2] (aD aa (gF (f:=pn) (v:=none) sizeOf136 aa aa aa aa (by omega)) .free aa ?_)))))))))
  rintro _ _ rfl
  refine ad (ao [6,4] rfl (ac (ab (kPm aa aa (kPa aa aa (ad (az ?_)))))))
  exact ax results96 aa (fun w hw=>⟨_,⟨by unfold Md.drop;rw[if_neg h14',show(M.node h).2=0 by omega];rfl,by unfold Md.drop;rw[if_neg h14']⟩,(by have h9:=(hw.pk [1,1]);exact bj (M:={M with hs:=M.hs.set (h - 1).toNat none}) h9)⟩)
 ·have h14':(M.node h).2≠0:=by simpa using h14
  refine ay (ac (ab (kPm aa aa (kPa aa aa (ad (az ?_))))))
  exact ax results96 aa (fun w hw=>⟨_,⟨by unfold Md.drop;rw[if_pos h14'];rfl,by unfold Md.drop;rw[if_pos h14']⟩,bj (M:=M) hw⟩)
theorem AZ(B:World)(Fr:List HP)(bm:Nat)(M:Md)(hW:MdW M 999999)(h:Int):
 ∀ w,Holds B (dI bm M::Fr) w→Calls Tryz.prog 89 [ptr bm,i64 h].toArray w (bB B (dI bm M::Fr) (.tuple #[.agg #[i64 (M.head h).1.1,i64 (M.head h).1.2],i64 (M.head h).2])):=by
 refine au func89 aa ntmps89 aa ?_
 have hhl:M.hs.length≤1000000:=by have:=hW.hl;omega
 refine fC fun rv hv sv fv uv=>(ac (ab (aC aa (aN zeroValue38 aa) .free aa aa ?_)))
 rintro _ _ ⟨b4,rfl,rfl⟩
 refine kPa aa aa (ad (ac (ab (kPm aa aa (kPm aa aa (aE aa (aA call151 aa) (cY [1,2] [2,0,1] (jg B _ bm M _ _ _ _ _ h hhl)) .free aa aa ?_))))))
 refine kPm aa aa (kPv (aB aa aa) aa (kPv (aB aa aa) aa (kPa aa aa (kPa aa aa (ad (ao [7,6,5,4] rfl (ac (ac (ab (kPm aa aa (kPv (an aa aa aa) aa ?_)))))))))))
 refine ad ?_
 refine aW aa (fun h15=> ?_) (fun h15=> ?_)
 ·have h15':(M.node h).2≠0:=by simpa using h15
  refine ac (ab (kPv (aZ aa (B5)) aa (kPm aa aa (aD aa (aI (vs:=_) sizeOf38 aa aa aa aa aa) .free aa ?_))))
  rintro _ _ rfl
  refine kPa aa aa (ad (az ?_))
  exact iR results89 (.cellA aa isAgg38 sizeOf38 aa aa) (.tmp aa) (fun w hw=>⟨by unfold Md.head;rw[if_pos h15'];rfl,bj (M:=M) (hw.dp [0])⟩)
 ·have h15':¬ (M.node h).2≠0:=by simpa using h15
  obtain⟨b,hbi,hbo,hb1,hb2,hb3⟩:=hW.node h15'
  have hnw:=hW.gw b hbi
  have hnd:M.nd h=M.g b:=by unfold Md.nd;rw[hbo];rfl
  rw[hbo]
  refine ay (ac (ab (kPm aa aa (aJ [7] (nK hbi (kPv (ak aa) aa (kPv (aj (m:=_) nV aa aa) aa (kPv (am isAgg38 sizeOf38 aa aa) aa ?_))))))))
  refine aK (fun w hh=>nw hbi hh) (aD aa (aI (vs:=_) sizeOf38 aa aa aa aa aa) .free aa ?_)
  rintro _ _ rfl
  refine kPa aa aa (ad (ao [5,4] rfl (az ?_)))
  exact iR results89 (.cellA aa isAgg38 sizeOf38 aa aa) (.tmp aa) (fun w hw=>⟨by unfold Md.head;rw[if_neg h15',hnd];rfl,bj (M:=M) ((hw.dp [1]).pk [1,1,1,1,1,1])⟩)
theorem jI{x:Nd}{i:Int}{nm:Bool}(h:¬ x.field i nm≠0):0≤i∧i<x.wd∧decide (i<x.rf)=nm:=by
 unfold Nd.field at h
 split at h
 ·exact absurd (by decide) h
 ·split at h
  ·exact absurd (by decide) h
  ·rename_i h1 h2
   exact⟨by omega,by omega,by simpa using h2⟩
theorem AW(B:World)(Fr:List HP)(bm:Nat)(M:Md)(hW:MdW M 999999)(h i:Int):
 ∀ w,Holds B (dI bm M::Fr) w→Calls Tryz.prog 90 [ptr bm,i64 h,i64 i].toArray w (bB B (dI bm M::Fr) (.tuple #[w64 (M.read h i).1,i64 (M.read h i).2])):=by
 refine au func90 aa ntmps90 aa ?_
 have hhl:M.hs.length≤1000000:=by have:=hW.hl;omega
 refine fC fun rv hv sv fv uv=>(ac (ab (kPa aa aa (kPa aa aa (ad (ac (ab (kPm aa aa (kPm aa aa (aE aa (aA call151 aa) (cY [0,1] [0,1] (jg B _ bm M _ _ _ _ _ h hhl)) .free aa aa ?_))))))))))
 refine kPm aa aa (kPv (aB aa aa) aa (kPv (aB aa aa) aa (kPa aa aa (kPa aa aa (ad (ao [9,8,7,6,2] rfl (ac (ac (ab (kPm aa aa (kPv (an aa aa aa) aa ?_)))))))))))
 refine ad ?_
 refine aW aa (fun h17=> ?_) (fun h17=> ?_)
 ·have h17':¬ (M.node h).2≠0:=by simpa using h17
  obtain⟨b,hbi,hbo,hb1,hb2,hb3⟩:=hW.node h17'
  have hnw:=hW.gw b hbi
  have hnd:M.nd h=M.g b:=by unfold Md.nd;rw[hbo];rfl
  rw[hbo]
  have hz:(M.node h).2=0:=by omega
  refine ab (kPm aa aa (kPm aa aa (aJ [6] (aK (fun w hh=>jf hbi hh) (aE aa (aA call152 aa) (kP B _ b (M.g b) i _) .free aa aa ?_)))))
  refine aK (fun w hh=>ki hbi hh) (kPa aa aa (ad (ac (ac (ab (kPm aa aa (kPv (an aa aa aa) aa (ad ?_))))))))
  refine aW aa (fun h22=> ?_) (fun h22=> ?_)
  ·have h22':(M.g b).field i false≠0:=by simpa using h22
   refine ac (ab (kPm aa aa (kPa aa aa (kPa aa aa (ad (ao [7,6,8,2] rfl (az ?_)))))))
   exact bg results90 aa aa (fun w hw=>⟨by unfold Md.read;rw[if_neg h17',hnd,if_pos h22']<;>rfl,bj (M:=M) (hw.pk [1,1,1,1,1,1])⟩)
  ·have h22':¬ (M.g b).field i false≠0:=by simpa using h22
   have hio:=jI h22'
   refine ay (ac (ab (kPm aa aa (nK hbi (aJ [2] (cI fun qv qvc hqv qvi=> ?_))))))
   have hvl:=hnw.vl
   obtain⟨o1,o2,rfl⟩:=qvi i.toNat (by omega)
   refine kPv (ak aa) aa (kPv (aj (m:=_) nU aa aa) aa (kPv (ae isAgg25 aa aa) aa (kPm aa aa (kPv (bZ runUnderlying25 sizeOf26 (congrArg some hqv) aa (by omega) (by omega)) aa ?_))))
   refine kPv (bX (v:=w64 ((M.g b).nums.getD i.toNat 0)) isAgg26 (dw (f:=w64) (q:=some ⟨o1,o2,none⟩) (cap:=qvc) (xs:=(M.g b).nums) ER 0 (by rw[←hqv];rfl)) aa (by rw[List.getElem?_map,List.getD_eq_getElem?_getD,List.getElem?_eq_getElem (by omega)];rfl)) aa ?_
   refine aJ [1,1,0,0] (aK (fun w hh=>nw hbi hh) (kPa aa aa (kPa aa aa (ad (ao [7,6] rfl (az ?_))))))
   exact bg results90 aa aa (fun w hw=>⟨by unfold Md.read;rw[if_neg h17',hnd,if_neg h22'],bj (M:=M) (hw.pk [1,1,1,1,1,1])⟩)
 ·have h17':(M.node h).2≠0:=by simpa using h17
  refine ay (ac (ac (ab (kPm aa aa (kPv (an aa aa aa) aa (ad (pt aa (by simpa using h17') (ac (ab (kPm aa aa (kPa aa aa ?_)))))))))))
  refine kPa aa aa (ad (az ?_))
  exact bg results90 aa aa (fun w hw=>⟨by unfold Md.read;rw[if_pos h17']<;>rfl,bj (M:=M) hw⟩)
theorem tw{α:Type}{l:List α}{i:Nat}{d:α}(h:i<l.length):l.getD i d∈l:=by
 rw[List.getD_eq_getElem?_getD,List.getElem?_eq_getElem h];exact List.getElem_mem h
theorem qf{B:World}{Fr:List HP}{bm:Nat}{M:Md}{rv hv sv fv uv:Value}{x:Option Nat}{w:World}(h:Holds B (cx bm (M.take x).2 rv hv sv fv uv::VN hv (M.take x).2.hs::cB M.ids M.g::VN rv M.roots::VK sv M.seen::VN fv M.fresh::VU uv M.undo::iZ bm M.undo::Fr) w):
 Holds B (cx bm (M.take x).2 rv hv sv fv uv::VN rv (M.take x).2.roots::VN hv (M.take x).2.hs::VK sv (M.take x).2.seen::VN fv (M.take x).2.fresh::VU uv (M.take x).2.undo::cB (M.take x).2.ids (M.take x).2.g::iZ bm (M.take x).2.undo::Fr) w:=by
 have h2:=h.pk [0,2,0,1,1,1,0,0]
 have e:(M.take x).2.roots=M.roots∧(M.take x).2.seen=M.seen∧(M.take x).2.fresh=M.fresh∧(M.take x).2.undo=M.undo∧(M.take x).2.ids=M.ids∧(M.take x).2.g=M.g:=by
  unfold Md.take;split
  ·exact⟨rfl,rfl,rfl,rfl,rfl,rfl⟩
  ·split<;>exact⟨rfl,rfl,rfl,rfl,rfl,rfl⟩
 rw[e.1,e.2.1,e.2.2.1,e.2.2.2.1,e.2.2.2.2.1,e.2.2.2.2.2]
 exact h2
theorem CL(B:World)(Fr:List HP)(bm:Nat)(M:Md)(hW:MdW M 999999)(h i:Int):
 ∀ w,Holds B (dI bm M::Fr) w→Calls Tryz.prog 92 [ptr bm,i64 h,i64 i].toArray w (Ret B (fun r H'=>r= .tuple #[i64 (M.ref h i).1.1,i64 (M.ref h i).1.2]∧H'=dI bm ((M.ref h i).2)::Fr) (fun _ _=>False)):=by
 refine au func92 aa ntmps92 aa ?_
 have hhl:M.hs.length≤1000000:=by have:=hW.hl;omega
 refine fC fun rv hv sv fv uv=>(ac (ab (kPa aa aa (kPa aa aa (ad (ac (ab (kPm aa aa (kPm aa aa (aE aa (aA call151 aa) (cY [0,1] [0,1] (jg B _ bm M _ _ _ _ _ h hhl)) .free aa aa ?_))))))))))
 refine kPm aa aa (kPv (aB aa aa) aa (kPv (aB aa aa) aa (kPa aa aa (kPa aa aa (ad (ao [9,8,7,6,0,2] rfl (ac (ac (ab (kPm aa aa (kPv (an aa aa aa) aa ?_)))))))))))
 refine ad ?_
 refine aW aa (fun h17=> ?_) (fun h17=> ?_)
 ·have h17':¬ (M.node h).2≠0:=by simpa using h17
  obtain⟨b,hbi,hbo,hb1,hb2,hb3⟩:=hW.node h17'
  have hnw:=hW.gw b hbi
  have hnd:M.nd h=M.g b:=by unfold Md.nd;rw[hbo];rfl
  rw[hbo]
  have hz:(M.node h).2=0:=by omega
  refine ab (kPm aa aa (kPm aa aa (aJ [6] (aK (fun w hh=>jf hbi hh) (aE aa (aA call152 aa) (kP B _ b (M.g b) i _) .free aa aa ?_)))))
  refine aK (fun w hh=>ki hbi hh) (kPa aa aa (ad (ac (ac (ab (kPm aa aa (kPv (an aa aa aa) aa (ad ?_))))))))
  refine aW aa (fun h22=> ?_) (fun h22=> ?_)
  ·have h22':(M.g b).field i true≠0:=by simpa using h22
   refine ac (ab (kPm aa aa (kPa aa aa (kPa aa aa (ad (ao [7,6,8,0,2] rfl (az ?_)))))))
   exact bg results92 aa aa (fun w hw=>⟨_,⟨by unfold Md.ref;rw[if_neg h17',hnd,if_pos h22']<;>rfl,by unfold Md.ref;rw[if_neg h17',hnd,if_pos h22']⟩,bj (M:=M) (hw.pk [1,1,1,1,1,1])⟩)
  ·have h22':¬ (M.g b).field i true≠0:=by simpa using h22
   have hio:=jI h22'
   refine ay (ac (ab (kPm aa aa (kPm aa aa (nK hbi (aJ [1] (cI fun qn qnc hqn qni=> ?_)))))))
   have hnl:=hnw.nl
   have hir:i<(M.g b).rf:=by simpa using hio.2.2
   obtain⟨o1,o2,rfl⟩:=qni i.toNat (by omega)
   refine kPv (ak aa) aa (kPv (aj (m:=_) lV aa aa) aa (kPv (ae isAgg41 aa aa) aa (kPm aa aa (kPv (bZ runUnderlying41 sizeOf136 (congrArg some hqn) aa (by omega) (by omega)) aa ?_))))
   refine kPv (bX (v:=pn ((M.g b).names.getD i.toNat none)) isAgg136 (dw (f:=pn) (q:=some ⟨o1,o2,none⟩) (cap:=qnc) (xs:=(M.g b).names) gy 0 (by rw[←hqn];rfl)) aa (by rw[List.getElem?_map,List.getD_eq_getElem?_getD,List.getElem?_eq_getElem (by omega)];rfl)) aa ?_
   refine aJ [1,0,0,0] (aK (fun w hh=>nw hbi hh) ?_)
   have hxi:∀ c,((M.g b).names.getD i.toNat none)=some c→c∈M.ids:=fun c e=>hnw.ni c (e▸tw (by omega))
   refine aJ [1,2,0,0,0,0,0,0] (aQ aa (aA call150 aa) (qU B _ bm M _ _ _ _ _ hhl hW.hi ((M.g b).names.getD i.toNat none) hxi) .free aa aa ?_)
   rintro _ _ ⟨hv2,rfl,rfl⟩
   refine kPa aa aa (kPa aa aa (ad (ao [7,6] rfl (az ?_))))
   exact bg results92 aa aa (fun w hw=>⟨_,⟨by unfold Md.ref;rw[if_neg h17',hnd,if_neg h22'],by unfold Md.ref;rw[if_neg h17',hnd,if_neg h22']⟩,bj (M:=(M.take ((M.g b).names.getD i.toNat none)).2) (qf hw)⟩)
 ·have h17':(M.node h).2≠0:=by simpa using h17
  refine ay (ac (ac (ab (kPm aa aa (kPv (an aa aa aa) aa (ad (pt aa (by simpa using h17') (ac (ab (kPm aa aa (kPa aa aa ?_)))))))))))
  refine kPa aa aa (ad (az ?_))
  exact bg results92 aa aa (fun w hw=>⟨_,⟨by unfold Md.ref;rw[if_pos h17']<;>rfl,by unfold Md.ref;rw[if_pos h17']⟩,bj (M:=M) hw⟩)
theorem AV(B:World)(Fr:List HP)(bm:Nat)(M:Md)(hW:MdW M 999999)(i:Int):
 ∀ w,Holds B (dI bm M::Fr) w→Calls Tryz.prog 94 [ptr bm,i64 i].toArray w (Ret B (fun r H'=>r= .tuple #[i64 (M.root i).1.1,i64 (M.root i).1.2]∧H'=dI bm ((M.root i).2)::Fr) (fun _ _=>False)):=by
 refine au func94 aa ntmps94 aa ?_
 have hhl:M.hs.length≤1000000:=by have:=hW.hl;omega
 have hrl:=hW.rl
 have hr2:=hW.c.r2
 refine fC fun rv hv sv fv uv=>(aJ [1] (cI fun qr qrc hqr qri=> ?_))
 subst hqr
 refine aJ [1] (ac (ab (kPa aa aa (kPa aa aa (ad (ac (ac (ab (kPm aa aa (kPv (an aa aa aa) aa (kPm aa aa ?_)))))))))))
 apply gl (tp:=16) (t:=8) (σ1:=[(8,_),(5,_),(4,_),(0,_),(1,_)]) 8 rfl (aF rfl)
 ·intro hg1
  refine aq aa (ap aa) (.on aa aa (ah hg1)) aa aa (aq aa (ap aa) (.on aa aa (ah hg1)) aa aa (aq aa (ak aa) (.on aa aa (ah hg1)) aa aa (aq aa (aj (m:=_) ge aa aa) (.on aa aa (ah hg1)) aa aa (aq aa (aj (m:=_) fm aa aa) (.on aa aa (ah hg1)) aa aa (aq aa (ae isAgg3 aa aa) (.on aa aa (ah hg1)) aa aa (aq aa (an aa aa aa) (.on aa aa (ah hg1)) aa aa (kPv (aL aa hg1 aa) aa ?_)))))))
  exact ba aa (aF aa) (eZ hg1)
 ·intro hg1
  refine ar aa (.on aa aa (ai hg1)) aa (ar aa (.on aa aa (ai hg1)) aa (ar aa (.on aa aa (ai hg1)) aa (ar aa (.on aa aa (ai hg1)) aa (ar aa (.on aa aa (ai hg1)) aa (ar aa (.on aa aa (ai hg1)) aa (ar aa (.on aa aa (ai hg1)) aa (kPv (aH aa hg1 aa) aa ?_)))))))
  exact ba aa (aF aa) (eY hg1)
 refine ad ?_
 refine aW aa (fun h16=> ?_) (fun h16=> ?_)
 ·have hk:i<0∨M.c.roots≤i:=by simp at h16;omega
  refine ac (ab (kPa aa aa (kPa aa aa (ad (az ?_)))))
  exact bg results94 aa aa (fun w hw=>⟨_,⟨by unfold Md.root;rw[if_pos hk],by unfold Md.root;rw[if_pos hk]⟩,bj (M:=M) hw⟩)
 ·have hk:¬ (i<0∨M.c.roots≤i):=by simp at h16;omega
  obtain⟨o1,o2,rfl⟩:=qri i.toNat (by omega)
  refine ay (ac (ab (kPm aa aa (kPm aa aa (kPv (ak aa) aa (kPv (aj (m:=_) mm aa aa) aa (kPv (ae isAgg41 aa aa) aa (kPm aa aa (kPv (bZ runUnderlying41 sizeOf136 aa aa (by omega) (by omega)) aa ?_)))))))))
  refine kPv (bX (v:=pn (M.roots.getD i.toNat none)) isAgg136 (dw (f:=pn) gy 1 aa) aa (by rw[List.getElem?_map,List.getD_eq_getElem?_getD,List.getElem?_eq_getElem (by omega)];rfl)) aa ?_
  have hxi:∀ c,(M.roots.getD i.toNat none)=some c→c∈M.ids:=fun c e=>hW.ri c (e▸tw (by omega))
  refine aJ [0,1,4,0,0,0,0,0] (aQ aa (aA call150 aa) (qU B _ bm M _ _ _ _ _ hhl hW.hi (M.roots.getD i.toNat none) hxi) .free aa aa ?_)
  rintro _ _ ⟨hv2,rfl,rfl⟩
  refine kPa aa aa (kPa aa aa (ad (ao [5,4] rfl (az ?_))))
  exact bg results94 aa aa (fun w hw=>⟨_,⟨by unfold Md.root;rw[if_neg hk],by unfold Md.root;rw[if_neg hk]⟩,bj (M:=(M.take (M.roots.getD i.toNat none)).2) (qf hw)⟩)
def AF(b:Nat)(cs:List Value)(T:TypeId):HP:=hex fun (x:Value×Value)=>row b (cs++[x.1,x.2]) T
theorem BP{P:Program}{B:World}{σ:Env}{d:Option Tmp}{ty:TypeId}{p:String}{af:Array Edge}{gd:Option (Nat×Bool)}{t:TypeId}{x:Operand}{b k:Nat}{cs:List Value}{T:TypeId}{v:Value}(ht:∀ w,(isAgg t).run P w= .ok false w)(hx:evO σ x=some (.pointer (some ⟨b,k,none⟩)))(hv:cs[k]? =some v):
 Evs P B σ [AF b cs T] ⟨d,.load t x,ty,p,af,gd⟩ v:=fun a w kn hh=>by
 obtain⟨y,hy⟩:=hh.hex
 have hk:k<cs.length:=(List.getElem?_eq_some_iff.1 hv).1
 exact ae (H:=[row b (cs++[y.1,y.2]) T]) (b:=b) (k:=k) ht hx (by rw[List.getElem?_append_left hk];exact hv) a w kn hy
instance EQ {b:Nat} {a0 a1 a2 a3 a4 a5 a6 a7 a8 a9 l t:Value} {T:TypeId} {L:List HP}:oZ (row b [a0,a1,a2,a3,a4,a5,a6,a7,a8,a9,l,t] T::L) [AF b [a0,a1,a2,a3,a4,a5,a6,a7,a8,a9] T]:=
 ⟨fun k a=>yF (l,t) (eB (fun _ _=>trivial) a)⟩
instance EP {b:Nat} {cs:List Value} {A:HP} {T:TypeId} {L:List HP} [s:oZ L [AF b cs T]]:oZ (A::L) [AF b cs T]:=⟨fun k a=>s.sub k (iD a)⟩
theorem AT(B:World)(Fr:List HP)(bm:Nat)(M:Md)(hW:MdW M 999999)(n:Int)(hnb: -1000000≤n∧n≤3000000000):
 ∀ w,Holds B (dI bm M::Fr) w→Calls Tryz.prog 97 [ptr bm,i64 n].toArray w (Ret B (fun r H'=>r= .tuple #[.bool (M.step n).1.1,i64 (M.step n).1.2]∧H'=dI bm ((M.step n).2)::Fr) (fun _ _=>False)):=by
 refine au func97 aa ntmps97 aa ?_
 have hhl:M.hs.length≤1000000:=by have:=hW.hl;omega
 have hsb:=hW.size_b
 have hr1:=hW.c.r1
 have hr2:=hW.c.r2
 have hlv:=M.live_b
 have hrn:=hW.out.len
 have hil:=hW.il
 have hlf:=hW.lf
 refine fC fun rv hv sv fv uv=>(ac (ab (kPa aa aa (kPa aa aa (ad (ac (ac (ab (kPm aa aa (kPv (ak aa) aa (kPv (aj (m:=_) ew aa aa) aa ?_)))))))))))
 refine kPv (ae isAgg4 aa aa) aa (ad ?_)
 refine aW aa (fun h9=> ?_) (fun h9=> ?_)
 ·have h9':M.o=true:=by simpa using h9
  refine ac (ab (kPa aa aa (kPa aa aa (ad (az ?_)))))
  exact bg results97 aa aa (fun w hw=>⟨_,⟨by unfold Md.step;rw[if_pos h9'],by unfold Md.step;rw[if_pos h9']⟩,bj (M:=M) hw⟩)
 ·have h9':¬ (M.o=true):=by simpa using h9
  refine ay (ac (ac (ab (kPm aa aa (kPv (ak aa) aa (kPv (aj (m:=_) fk aa aa) aa (kPv (ae isAgg3 aa aa) aa (kPv (an aa aa aa) aa (ad (ao [14,5,4,0,1] rfl ?_))))))))))
  refine aW aa (fun h14=> ?_) (fun h14=> ?_)
  ·have h14':M.left<0:=by simpa using h14
   have hst:M.step0={M with left:=M.c.roots+M.live+M.reached.length+1,thn:=M.size}:=by unfold Md.step0;rw[if_pos h14']
   refine cM [0,1,2,3,4,5,6,7,10,15,8,9,11,12,13,14,16,17,18,19,20,21,22] [8,11,16,19,22] [0,1,2,3,4,5,6,10,15,9,12,13,14] [8,11,16,19] [AF bm [i64 M.c.log,i64 M.c.roots,i64 M.c.space,rv,i64 M.used,hv,.bool M.o,sv,fv,uv] 45] Tryz.mixed (by kernel_rfl) ?_
   refine al aa aa aa (ap aa) .free aa (al aa aa aa (ap aa) .free aa (al aa aa aa (ap aa) .free aa (al aa aa aa (ak aa) .free aa (al aa aa aa (aj (m:=_) ge aa aa) .free aa (al aa aa aa (aj (m:=_) fm aa aa) .free aa (al aa aa aa (BP isAgg3 aa aa) .free aa (aT aa aa aa (ap aa) .free aa (al aa aa aa (ap aa) .free aa (al aa aa aa (ap aa) .free aa (aU aa aa (aE aa (aA call107 aa) (cY [0,1] [0,1] (AX B _ bm M _ _ _ _ _ hhl)) .free aa aa ?_)))))))))))
   refine ad (cN (al aa aa aa (aS aa aa) .free aa (aU aa aa (aJ [0,0,0,3] (aQ aa (aA call100 aa) (pf B _ bm M _ _ _ _ _ hW) .free aa aa ?_)))))
   rintro rv2 _ ⟨hrv2,rfl⟩
   refine cI fun q qc hq qi=> ?_
   subst hq
   refine ad (cN (al aa aa aa (bY aa runUnderlying41 ⟨_,rfl⟩ rfl) .free aa (al aa aa aa (aS aa aa) .free aa (al aa aa aa (aS aa aa) .free aa (aU aa aa (aE aa (aA call31 aa) (cY [1,1,1,1] [4] (qV B _ bm M _ _ _ _ _ hW)) .free aa aa ?_))))))
   refine ad (cN (aT aa aa aa (ak aa) .free aa (aT aa aa aa (aj (m:=_) fk aa aa) .free aa (aU aa aa (aD aa (aR sizeOf3 aa aa aa aa) .free aa ?_)))))
   rintro _ _ rfl
   refine aK (H':=_::row bm [i64 M.c.log,i64 M.c.roots,i64 M.c.space,rv,i64 M.used,hv,.bool M.o,sv,fv,uv,i64 (M.c.roots+M.live+M.reached.length+1),i64 M.thn] 45::_) (fun w hh=>hh) (ad (cN (aT aa aa aa (ak aa) .free aa (aT aa aa aa (aj (m:=_) ur aa aa) .free aa (aU aa aa (aD aa (aR sizeOf3 aa aa aa aa) .free aa ?_))))))
   rintro _ _ rfl
   refine ad (c9 aa (cJ (ao [5,4,0,1] rfl (ac (ac (cD 14 Tryz.mixed (by kernel_rfl) (by kernel_rfl) ?_))))))
   refine kQm aa aa (kQv (ak aa) aa (kQv (aj (m:=_) fk aa aa) aa (kQv (ae isAgg3 aa aa) aa (kQm aa aa (kQm aa aa (kQv (ak aa) aa (kQv (aj (m:=_) fk aa aa) aa (kQv (ae isAgg3 aa aa) aa (kQv (BN aa aa aa) aa (kQv (BO aa aa aa) aa (kQv (cU aa aa) aa ?_)))))))))))
   refine kQv (ak aa) aa (kQv (aj (m:=_) fk aa aa) aa (bR (aD aa (aR sizeOf3 aa aa aa aa) .free aa ?_)))
   rintro _ _ rfl
   refine ad (ao [5,4,0] rfl (ac (ab (kPm aa aa (kPv (ak aa) aa (kPv (aj (m:=_) fk aa aa) aa (kPv (ae isAgg3 aa aa) aa (kPv (an aa aa aa) aa (ad ?_)))))))))
   refine aW aa (fun h54=> ?_) (fun h54=> ?_)
   ·have h54':0<({M with left:=M.c.roots+M.live+M.reached.length+1,thn:=M.size}:Md).left - cl n ({M with left:=M.c.roots+M.live+M.reached.length+1,thn:=M.size}:Md).left:=of_decide_eq_true h54
    refine ac (ab (kPa aa aa (kPa aa aa (ad (az ?_)))))
    exact bg results97 aa aa (fun w hw=>⟨_,⟨by unfold Md.step;rw[if_neg h9',hst,if_pos h54'],by unfold Md.step;rw[if_neg h9',hst,if_pos h54']⟩,(by have h9:=((hw.dp [0]).pk [0,0,0,1,1,1]);exact bj (M:={({M with left:=M.c.roots+M.live+M.reached.length+1,thn:=M.size}:Md) with left:=({M with left:=M.c.roots+M.live+M.reached.length+1,thn:=M.size}:Md).left - cl n ({M with left:=M.c.roots+M.live+M.reached.length+1,thn:=M.size}:Md).left}) h9)⟩)
   ·have h54':¬ 0<({M with left:=M.c.roots+M.live+M.reached.length+1,thn:=M.size}:Md).left - cl n ({M with left:=M.c.roots+M.live+M.reached.length+1,thn:=M.size}:Md).left:=of_decide_eq_false h54
    refine ay (ac (ab (kPm aa aa (kPm aa aa (kPm aa aa (kPv (ak aa) aa (kPv (aj (m:=_) ur aa aa) aa (kPv (ae isAgg3 aa aa) aa (kPv (ak aa) aa (kPv (aj (m:=_) fk aa aa) aa (aD aa (aR sizeOf3 aa aa aa aa) .free aa ?_)))))))))))
    rintro _ _ rfl
    refine kPv (ak aa) aa (kPv (aj (m:=_) fO aa aa) aa (aD aa (aR sizeOf3 aa aa aa aa) .free aa ?_))
    rintro _ _ rfl
    refine ad (ao [5,4] rfl (ac (ab (kPa aa aa (kPa aa aa (ad (az ?_)))))))
    exact bg results97 aa aa (fun w hw=>⟨_,⟨by unfold Md.step;rw[if_neg h9',hst,if_neg h54'],by unfold Md.step;rw[if_neg h9',hst,if_neg h54']⟩,(by have h9:=((hw.dp [0]).pk [0,0,0,1,1,1]);exact bj (M:={({M with left:=M.c.roots+M.live+M.reached.length+1,thn:=M.size}:Md) with left:= -1,used:=({M with left:=M.c.roots+M.live+M.reached.length+1,thn:=M.size}:Md).thn}) h9)⟩)
  ·have h14':¬ M.left<0:=by simpa using h14
   have hst:M.step0=M:=by unfold Md.step0;rw[if_neg h14']
   refine ay (ac (ac (cD 14 Tryz.mixed (by kernel_rfl) (by kernel_rfl) ?_)))
   refine kQm aa aa (kQv (ak aa) aa (kQv (aj (m:=_) fk aa aa) aa (kQv (ae isAgg3 aa aa) aa (kQm aa aa (kQm aa aa (kQv (ak aa) aa (kQv (aj (m:=_) fk aa aa) aa (kQv (ae isAgg3 aa aa) aa (kQv (BN aa aa aa) aa (kQv (BO aa aa aa) aa (kQv (cU aa aa) aa ?_)))))))))))
   refine kQv (ak aa) aa (kQv (aj (m:=_) fk aa aa) aa (bR (aD aa (aR sizeOf3 aa aa aa aa) .free aa ?_)))
   rintro _ _ rfl
   refine ad (ao [5,4,0] rfl (ac (ab (kPm aa aa (kPv (ak aa) aa (kPv (aj (m:=_) fk aa aa) aa (kPv (ae isAgg3 aa aa) aa (kPv (an aa aa aa) aa (ad ?_)))))))))
   refine aW aa (fun h54=> ?_) (fun h54=> ?_)
   ·have h54':0<(M).left - cl n (M).left:=of_decide_eq_true h54
    refine ac (ab (kPa aa aa (kPa aa aa (ad (az ?_)))))
    exact bg results97 aa aa (fun w hw=>⟨_,⟨by unfold Md.step;rw[if_neg h9',hst,if_pos h54'],by unfold Md.step;rw[if_neg h9',hst,if_pos h54']⟩,(by have h9:=hw;exact bj (M:={(M:Md) with left:=(M:Md).left - cl n (M:Md).left}) h9)⟩)
   ·have h54':¬ 0<(M).left - cl n (M).left:=of_decide_eq_false h54
    refine ay (ac (ab (kPm aa aa (kPm aa aa (kPm aa aa (kPv (ak aa) aa (kPv (aj (m:=_) ur aa aa) aa (kPv (ae isAgg3 aa aa) aa (kPv (ak aa) aa (kPv (aj (m:=_) fk aa aa) aa (aD aa (aR sizeOf3 aa aa aa aa) .free aa ?_)))))))))))
    rintro _ _ rfl
    refine kPv (ak aa) aa (kPv (aj (m:=_) fO aa aa) aa (aD aa (aR sizeOf3 aa aa aa aa) .free aa ?_))
    rintro _ _ rfl
    refine ad (ao [5,4] rfl (ac (ab (kPa aa aa (kPa aa aa (ad (az ?_)))))))
    exact bg results97 aa aa (fun w hw=>⟨_,⟨by unfold Md.step;rw[if_neg h9',hst,if_neg h54'],by unfold Md.step;rw[if_neg h9',hst,if_neg h54']⟩,(by have h9:=hw;exact bj (M:={(M:Md) with left:= -1,used:=(M:Md).thn}) h9)⟩)
end Go.Proofs.YtlcibdhmgclfjaaGreat
