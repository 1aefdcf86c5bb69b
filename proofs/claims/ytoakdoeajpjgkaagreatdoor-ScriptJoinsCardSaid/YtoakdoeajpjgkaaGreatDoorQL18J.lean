/- ScriptJoins. Conditions: none. -/
import Derived.Test.YtoakdoeajpjgkaaGreatDoorQL18Jo
import Derived.Test.YtoakdoeajpjgkaaGreatDoorTie
import Derived.Test.YtoakdoeajpjgkaaGreatDoorCards
import Derived.SevenTiedAt
open Go.Proofs.Tryz
set_option linter.unusedSimpArgs false
set_option linter.unusedVariables false
set_option linter.unnecessarySimpa false
set_option linter.unusedSectionVars false
namespace Go.Proofs.YtoakdoeajpjgkaaGreatDoor
set_option linter.unusedSimpArgs false
set_option linter.unusedVariables false
open Go
def my(f:Nat→Ln)(i:Nat):List LO:=(List.range i).map fun j=>((f j).t,some (f j).c)
abbrev cmJ(f:Nat→Ln)(i:Nat):List Cmd:=(List.range i).map fun j=>(f j).c
theorem rL(f:Nat→Ln)(i:Nat):(my f i).filterMap Prod.snd=cmJ f i:=by
 unfold my cmJ
 induction List.range i with
 | nil=>rfl
 | cons a t ih=>simp only[List.map_cons,List.filterMap_cons];rw[ih]
theorem zC(f:Nat→Ln)(i:Nat):cD ((my f (i+1)).map Prod.fst)=cD ((my f i).map Prod.fst)++((f i).t++[10]):=by
 unfold my
 rw[List.range_succ,List.map_append,List.map_append,jr]
 simp[cD]
theorem rI{n:Nat}{f:Nat→Ln}(hf:∀ i,i<n→LnW (f i)):∀ p∈my f n,mO p.1 p.2:=fun p hp=>by
 obtain⟨j,hj,rfl⟩:=List.mem_map.1 hp
 exact Ln.t_ok (hf j (List.mem_range.1 hj))
abbrev txJ(f:Nat→Ln)(n:Nat):List UInt8:=cD ((my f n).map Prod.fst)
theorem zk{n:Nat}{f:Nat→Ln}(hf:∀ i,i<n→LnW (f i))(hn:n≤60)(hl:(txJ f n).length≤121*n):eV (txJ f n)=(cmJ f n,0,0):=by
 rw[oE (rI hf) (by show(txJ f n).length≤65536;omega) (by rw[rL];simp;omega) (by simp[my];omega),rL]
theorem Br{n m:Nat}{f g:Nat→Ln}(hf:∀ i,i<n→LnW (f i))(hg:∀ i,i<m→LnW (g i))(hn:n≤60)(hm:m≤60)(hl:(txJ f n).length≤121*n)(hk:(txJ g m).length≤121*m):eV (txJ f n++[10]++txJ g m)=(cmJ f n++cmJ g m,0,0):=by
 have e:txJ f n++[10]++txJ g m=cD ((my f n++([],none)::my g m).map Prod.fst):=by
  rw[List.map_append,List.map_cons,jr]
  show _=cD _++([]++[10]++cD _)
  simp
 have hlen:(txJ f n++[10]++txJ g m).length≤65536:=by simp only[List.length_append,List.length_cons,List.length_nil];omega
 rw[e] at hlen ⊢
 have ec:(my f n++([],none)::my g m).filterMap Prod.snd=cmJ f n++cmJ g m:=by rw[List.filterMap_append,List.filterMap_cons,rL];simp only;rw[rL]
 rw[oE (fun p hp=>by
  rcases List.mem_append.1 hp with h | h
  ·exact rI hf p h
  ·rcases List.mem_cons.1 h with rfl | h
   ·exact tR
   ·exact rI hg p h) hlen (by rw[ec];simp;omega) (by simp[my];omega),ec]
theorem CN{n:Nat}{f:Nat→Ln}(hf:∀ i,i<n→LnW (f i)):∀ c∈cmJ f n,p7 c:=fun c hc=>by
 obtain⟨j,hj,rfl⟩:=List.mem_map.1 hc
 exact Ln.c_w (hf j (List.mem_range.1 hj))
theorem xC(a b:List Cmd):cD ((a++b).map dj)=cD (a.map dj)++cD (b.map dj):=by rw[List.map_append,jr]
theorem rB:∀ {l:List Cmd},(∀ c∈l,p7 c)→(cD (l.map dj)).length≤80*l.length
 | [],_=>Nat.zero_le _
 | c::t,h=>by
   have h1:=rB (l:=t) fun x hx=>h x (List.mem_cons_of_mem _ hx)
   have hc:=h c (List.mem_cons_self ..)
   have h2:=qx (c:=c) (by have:=hc.len;omega) fun n hn=>(hc.b n hn).2
   have h3:=hc.len
   have e:cD ((c::t).map dj)=(dj c++[10])++cD (t.map dj):=rfl
   rw[e]
   simp only[List.length_append,List.length_cons,List.length_nil]
   omega
theorem pY{α:Type}{B:World}{σ:Env}{Fr:List HP}{P:Program}{m T:Nat}{enc:α→List Value}(he:lC m enc){d:Option Tmp}{ty:TypeId}{p:String}{af:Array Edge}{g:Option (Nat×Bool)}{t:TypeId}{x y:Operand}{at_:Array TypeId}{u:TypeId}{ud:TypeDesc}{ys:List α}{z yv:Value}{b:Nat}
 (ha:at_[0]? =some t) (ha':at_[1]? =some u) (ht:∀ w,(underlying t).run P w= .ok (.slice T) w) (hu:∀ w,(underlying u).run P w= .ok ud w) (hud:∃ q,ud= .slice q) (hs:∀ w,(sizeOf T).run P w= .ok m w) (hz:∀ w,(zeroValue T).run P w= .ok z w) (hz1:z.cells.size=m) (hfb:cX P T)
 (hx:evO σ x=some (.slice (some ⟨b,0,none⟩) 0 0)) (hy:evO σ y=some yv) (hr:SlM B (row b [] T::Fr) yv m ys.length (ys.flatMap enc)) (hn:ys.length≤1000000000):
 Chg P B σ (row b [] T::Fr) ⟨d,.call ⟨.builtin .append, #[x,y],at_⟩,ty,p,af,g⟩ (fun v' H'=>aL v'=true∧H'=eO T m enc 0 (v',ys)::Fr):=by
 intro a w kn hh
 obtain⟨r,w',e1,u,e2,H',hY,e5⟩:=lx (H:=row b [] T::Fr) (d:=d) (ty:=ty) (p:=p) (af:=af) (g:=g) (b:=b) ha ha' ht hu hud hs hz hz1 hfb hx hy hr (by simp) (Nat.le_refl _) (by simpa using hn) (wZ he ys) a w kn hh
 rcases hY with ⟨g1,rfl,rfl⟩ | ⟨g1,bn,cn,rest',g2,g3,rfl,rfl⟩
 ·have h0:ys=[]:=List.eq_nil_of_length_eq_zero (by omega)
  subst h0
  refine⟨r,w',e1,_,e2,_,⟨rfl,rfl⟩,?_⟩
  exact eP (pre:=[]) (rest:=[]) (k:=0) aa (by simp) (by simp) aa (by simpa [cU] using e5)
 ·refine⟨r,w',e1,_,e2,_,⟨rfl,rfl⟩,?_⟩
  refine eP (pre:=[]) (k:=cn - ys.length) (rest:=rest') (by simp) (by omega) ?_ aa (by simpa using(e5.front 1 aa).tail)
  rw[Nat.zero_add] at g3;exact Nat.le_of_eq g3.symm
theorem pZ{α:Type}{B:World}{σ:Env}{Fr:List HP}{P:Program}{m T:Nat}{enc:α→List Value}(he:lC m enc){d:Option Tmp}{ty:TypeId}{p:String}{af:Array Edge}{g:Option (Nat×Bool)}{t:TypeId}{x y:Operand}{at_:Array TypeId}{u:TypeId}{ud:TypeDesc}{ys xs:List α}{z yv sv:Value}
 (ha:at_[0]? =some t) (ha':at_[1]? =some u) (ht:∀ w,(underlying t).run P w= .ok (.slice T) w) (hu:∀ w,(underlying u).run P w= .ok ud w) (hud:∃ q,ud= .slice q) (hs:∀ w,(sizeOf T).run P w= .ok m w) (hz:∀ w,(zeroValue T).run P w= .ok z w) (hz1:z.cells.size=m) (hfb:cX P T)
 (hx:evO σ x=some sv) (hy:evO σ y=some yv) (hr:SlM B Fr yv m ys.length (ys.flatMap enc)) (hn:xs.length+ys.length≤1000000000):
 Chg P B σ (eO T m enc 0 (sv,xs)::Fr) ⟨d,.call ⟨.builtin .append, #[x,y],at_⟩,ty,p,af,g⟩ (fun v' H'=>aL v'=true∧H'=eO T m enc 0 (v',xs++ys)::Fr):=by
 by_cases h0:0<ys.length
 ·exact ix he ha ha' ht hu hud hs hz hz1 hfb hx hy hr h0 hn
 have h0:ys=[]:=List.eq_nil_of_length_eq_zero (by omega)
 subst h0
 rw[List.append_nil]
 intro a w kn hh
 have hrc:∀ A:HP,SlM B (A::Fr) yv m 0 []:=fun A=>by
  obtain⟨q,cap,e1,e2,e3⟩:=hr.ex
  exact⟨q,cap,e1,e2,fun w hw=>e3 w hw.tail⟩
 rcases dI hh with ⟨h1,h2,h3⟩ | ⟨bd,pre,rest,k,hk,h1,h3⟩
 ·subst h2;subst h1
  have e2:=(hrc _).first (P:=P) hh
  obtain⟨q,rfl⟩:=hud
  obtain⟨sq,scap,e0,hl,_⟩:=hr.ex
  subst e0
  refine⟨.value (.slice none 0 0),w,?_,_,.inl aa,_,⟨rfl,rfl⟩,hh⟩
  simp only[execOp,resolve,Sem.run_bind,Sem.run_pure,Result.andThen_ok]
  have e3:(Builtin.firstCells m 0 (Value.slice sq ([]:List α).length scap)).run P w= .ok #[] w:=e2
  simp[invoke,builtin,Builtin.append_,ha,ha',hu,kn.eval hx,kn.eval hy,ht,hs,Builtin.lenOf]
  simp at e3
  simp[e3]
 ·subst h1
  obtain⟨r,w',e1,u,e2,H',hY,e5⟩:=lx (H:=row bd (pre++xs.flatMap enc++rest) T::Fr) (d:=d) (ty:=ty) (p:=p) (af:=af) (g:=g) (b:=bd) ha ha' ht hu hud hs hz hz1 hfb hx hy (hrc _) (by simp[fW he,Nat.add_mul];omega) (by omega) (by simpa using hn) rfl a w kn h3
  rcases hY with ⟨g1,rfl,rfl⟩ | ⟨g1,_⟩
  ·refine⟨r,w',e1,_,e2,_,⟨rfl,rfl⟩,?_⟩
   exact eP (k:=k) (rest:=rest) aa aa hk aa (by simpa [cU] using e5)
  ·omega
theorem yf(B:World)(Fr:List HP):
 ∀ w,Holds B Fr w→Calls Tryz.prog 18 [.slice none 0 0].toArray w (Ret B (fun v H'=>aL v=true∧H'=eO 32 2 crE 0 (v,[])::Fr) (fun _ _=>False)):=by
 refine an func18 aa ntmps18 aa (ac (ab (kPa aa aa (ad (ac (ac (ab (kPm aa aa (kPv (nG runUnderlying24 aa aa aa) aa (ad (o7 aa (rfl) ?_)))))))))))
 refine ac (ab (kPa aa aa (ad (az ?_))))
 exact aq results18 aa (fun w hw=>⟨_,⟨rfl,rfl⟩,lE hw⟩)
theorem ye(B:World)(Fr:List HP)(b o cap:Nat)(rs:List CR)(hn:rs.length≤1000000):
 ∀ w,Holds B (eO 32 2 crE 0 (.slice (some ⟨b,o,none⟩) rs.length cap,rs)::Fr) w→Calls Tryz.prog 18 [.slice (some ⟨b,o,none⟩) rs.length cap].toArray w (Ret B (fun v H'=>aL v=true∧H'=eO 32 2 crE 0 (v,rs)::eO 32 2 crE 0 (.slice (some ⟨b,o,none⟩) rs.length cap,rs)::Fr) (fun _ _=>False)):=by
 refine an func18 aa ntmps18 aa (ac (ab (kPa aa aa (ad (ac (ac (ab (kPm aa aa (kPv (nG runUnderlying24 aa aa aa) aa (ad (bH aa (rfl) ?_)))))))))))
 refine ar (ac (ab (kPb (r6 runUnderlying24 sizeOf32) aa fun b5=>(kPm aa aa (cJ aa (pY ky (ys:=rs) aa aa runUnderlying24 runUnderlying24 ⟨_,rfl⟩ sizeOf32 zeroValue32 aa yL aa aa (nX ky 1 aa) (by omega)) .free aa aa ?_)))))
 rintro cv _ ⟨hcv,rfl⟩
 refine kPa aa aa (ad (az ?_))
 exact aq results18 aa (fun w hw=>⟨_,⟨hcv,rfl⟩,hw⟩)
theorem Ce{B:World}{H:List HP}{q:Option Addr}{cap:Nat}{r1 r2:List CR}{l1 l2:List Cmd}(h1:nk r1 l1)(h2:nk r2 l2)(k1:∀ c∈l1,c.2.length≤1000000)(k2:∀ c∈l2,c.2.length≤1000000)(i j k:Nat)(e:H[i]? =some (eO 32 2 crE 0 (.slice q (r1++r2).length cap,r1++r2)))(e1:H[j]? =some (grp (r1.map jk)))(e2:H[k]? =some (grp (r2.map jk))):CmR B H q cap (r1++r2):=by
 refine⟨iS ky i e,fun t ht=> ?_⟩
 rcases List.mem_append.1 ht with hm | hm
 ·exact⟨j3 j e1 hm (h1.2 t hm),h1.2 t hm,k1 (crC t) (by rw[←h1.1];exact List.mem_map_of_mem hm)⟩
 ·exact⟨j3 k e2 hm (h2.2 t hm),h2.2 t hm,k2 (crC t) (by rw[←h2.1];exact List.mem_map_of_mem hm)⟩
theorem vG(B:World)(Fr:List HP){sv:Value}{rs:List CR}(hn:rs.length≤1000000):∀ w,Holds B (eO 32 2 crE 0 (sv,rs)::Fr) w→Calls Tryz.prog 18 [sv].toArray w (Ret B (fun v H'=>aL v=true∧H'=eO 32 2 crE 0 (v,rs)::eO 32 2 crE 0 (sv,rs)::Fr) (fun _ _=>False)):=fun w hw=>by
 rcases dI hw with ⟨rfl,rfl,h1⟩ | ⟨bd,pre,rest,k,_,rfl,_⟩
 ·exact(yf B _ w hw).mono (Ret.mono (fun v H' h=>h) (fun _ _ h=>h))
 ·exact ye B Fr bd pre.length _ rs hn w hw
theorem lT(B:World)(Fr:List HP)[cM Fr B](gl:GL B)(lf:LF B)(q:Option Addr)(n cap:Nat)(f:Nat→Ln)(hf:∀ i,i<n→LnW (f i))(hr:iR B q n 5 (fun i=>(f i).row))(hn:n≤60):
 ∀ w,Holds B Fr w→Calls Tryz.prog 17 [.slice q n cap].toArray w (aZ B Fr (str (txJ f n))):=by
 refine an func17 aa ntmps17 aa (ac (ab (kPa aa aa (ad (ac (ab (kPa aa aa (ad (ac (ac (ab ?_)))))))))))
 refine kPm aa aa (kPv (bD aa runUnderlying22 ⟨_,rfl⟩ rfl) aa (kPm aa aa (ad (aG (cK (ι:=Nat×List UInt8) [10,9,2] (fun (i,s)=>(i≤n)∧(s=txJ f i)∧(s.length≤121*i)) (fun (i,s)=>[(11,i64 i),(3,str s)]) (fun (i,s)=>Fr) (fun (i,s)=>n - i) (0,[]) (⟨Nat.zero_le _,rfl,Nat.zero_le _⟩) (fun a w st=>st.to ⟨rfl,rfl,trivial⟩ (fun hh=>hh)) ?_)))))
 rintro⟨i,s⟩ ⟨hi0,hs,hsl⟩
 try simp only at hi0 hs hsl ⊢
 refine cu (σ':=[(11,i64 i),(3,str s),(10,_),(9,_),(2,_)]) (aE aa) (ac (ab (kPv (ao aa aa aa) aa (ad (ac ?_)))))
 refine a8 aa (fun h12=> ?_) (fun h12=> ?_)
 ·have hi:i<n:=by simp at h12;omega
  obtain⟨bq,oq,rfl,_⟩:=hr.cell i hi
  obtain⟨k1,n1,n2,n3,g1,hfi⟩:=Ln.lit (hf i hi)
  have htl:=Ln.t_len (hf i hi)
  refine ar (ac (aG (ac (ab (kPv (jT (sz:=5) runUnderlying22 sizeOf28 aa aa (by omega) (by omega) aa) aa (kPv (gK (i:=i) (c:=[.int .u8 k1,w64 n1,w64 n2,w64 n3,.int .u8 g1]) (cap:=cap) isAgg28 sizeOf28 (SlN.arg hr) aa (Bn hi hfi)) aa (kPb (aC zeroValue28 aa) aa fun b5=> ?_)))))))
  refine kPs (ax (vs:=_) sizeOf28 aa aa aa (by first | rfl | exact eh (by assumption)) rfl) rfl ?_;refine ad ?_;refine ac ?_;refine ab ?_;refine kPv (ag isAgg28 sizeOf28 aa aa) aa ?_;refine aH aa (au call12 aa) (zy _ _ gl lf (f i) (hf i hi) hfi) .free aa aa ?_
  rintro _ _ ⟨tr,ht1,ht2,rfl,rfl⟩
  refine kPm aa aa (kPv (aA aa aa) aa (kPv (aA aa aa) aa (kPv (aA aa aa) aa (kPb (aC zeroValue32 aa) aa fun b6=> ?_))))
  refine kPs (ax (vs:=_) sizeOf32 aa aa aa (by first | rfl | exact eh (by assumption)) rfl) rfl ?_;refine kPa aa aa ?_;refine kPa aa aa ?_;refine ad ?_;refine am [8,11,3,10,9,2] rfl ?_;refine ab ?_;refine kPm aa aa ?_;refine kPm aa aa ?_
  refine al aa (dF aa aa (by first | omega | (simp only[List.length_append,List.length_cons,List.length_nil];omega))) .free aa aa ?_
  refine al aa (dF aa aa (by first | omega | (simp only[List.length_append,List.length_cons,List.length_nil];omega))) .free aa aa ?_
  refine kPa aa aa (ad (ab (kPv (aN aa aa) aa (kPm aa aa (ad ?_)))))
  exact fun a w st_=>⟨(i+1,s++((f i).t++[10])),⟨by first | omega | (simp only;omega),by rw[txJ,zC,hs],by simp only[List.length_append,List.length_cons,List.length_nil];omega⟩,by first | omega | (simp only;omega),st_.to (aE aa) (fun hh=>(hh.dp [0,0,0]))⟩
 ·have hi:i=n:=by simp at h12;omega
  refine bF (ac (ab (kPm aa aa (kPa aa aa (ad (az ?_))))))
  exact aq results17 aa (fun w hw=>⟨by rw[hs,hi],hw⟩)
theorem rh{f:Nat→Ln}:∀ {n:Nat},(∀ i,i<n→LnW (f i))→(txJ f n).length≤121*n
 | 0,_=>Nat.zero_le _
 | n+1,hf=>by
   have h1:=rh (f:=f) (n:=n) fun i hi=>hf i (by omega)
   have h2:=Ln.t_len (hf n (Nat.lt_succ_self n))
   unfold txJ at h1 ⊢
   rw[zC]
   simp only[List.length_append,List.length_cons,List.length_nil]
   omega
theorem oe(B:World)(Fr:List HP)[cM Fr B](gl:GL B)(fg:FG B)(lf:LF B)(q1:Option Addr)(n1 cap1:Nat)(f1:Nat→Ln)(hf1:∀ i,i<n1→LnW (f1 i))(hr1:iR B q1 n1 5 (fun i=>(f1 i).row))(q2:Option Addr)(n2 cap2:Nat)(f2:Nat→Ln)(hf2:∀ i,i<n2→LnW (f2 i))(hr2:iR B q2 n2 5 (fun i=>(f2 i).row)):
 ∀ w,Holds B Fr w→Calls Tryz.prog 4 [.slice q1 n1 cap1,.slice q2 n2 cap2].toArray w (aZ B Fr (.bool true)):=by
 refine an func4 aa ntmps4 aa (ac (ab (kPa aa aa (ad (ac (ac (ab (aw aa (au call11 aa) (vJ _ _ gl fg) .free aa aa ?_))))))))
 refine kPv (bz aa) aa (ad (bH aa (rfl) (ar (ac (ac (ab (kPm aa aa (kPv (bD aa runUnderlying22 ⟨_,rfl⟩ rfl) aa (kPv (ao aa aa aa) aa (kPm aa aa ?_))))))))))
 apply gP (tp:=24) (t:=20) (σ1:=[(20,_),(4,_),(0,_),(1,_)]) 4 rfl (aE rfl)
 ·intro hg1
  refine al aa (ak aa) (.on aa aa (ae hg1)) aa aa (al aa (bD aa runUnderlying22 ⟨_,rfl⟩ rfl) (.on aa aa (ae hg1)) aa aa (al aa (ao aa aa aa) (.on aa aa (ae hg1)) aa aa (kPv (aJ aa hg1 aa) aa ?_)))
  exact aY aa (aE aa) (gg hg1)
 ·intro hg1
  refine ap aa (.on aa aa (ai hg1)) aa (ap aa (.on aa aa (ai hg1)) aa (ap aa (.on aa aa (ai hg1)) aa (kPv (ay aa hg1 aa) aa ?_)))
  exact aY aa (aE aa) (ge hg1)
 refine ad ?_
 refine a8 aa (fun h24=> ?_) (fun h24=> ?_)
 ·
  refine ac (ab (kPa aa aa (ad (az ?_))))
  exact aq results4 aa (fun w hw=>⟨rfl,hw⟩)
 ·have hn9:n1≤60∧n2≤60:=by simp at h24;omega
  obtain⟨hn1,hn2⟩:=hn9
  have hx1:=rh hf1
  have hx2:=rh hf2
  have hpa:=zk hf1 hn1 hx1
  have hpb:=zk hf2 hn2 hx2
  have hpc:=Br hf1 hf2 hn1 hn2 hx1 hx2
  have hw1:=CN hf1
  have hw2:=CN hf2
  have hpl1:=rB hw1
  have hpl2:=rB hw2
  have hcl1:(cmJ f1 n1).length=n1:=by simp
  have hcl2:(cmJ f2 n2).length=n2:=by simp
  have hw3:∀ c∈cmJ f1 n1++cmJ f2 n2,p7 c:=fun c hc=>(List.mem_append.1 hc).elim (hw1 c) (hw2 c)
  have hk1:∀ c∈cmJ f1 n1,c.2.length≤1000000:=fun c hc=>by have:=(hw1 c hc).len;omega
  have hk2:∀ c∈cmJ f2 n2,c.2.length≤1000000:=fun c hc=>by have:=(hw2 c hc).len;omega
  have hk3:∀ c∈cmJ f1 n1++cmJ f2 n2,c.2.length≤1000000:=fun c hc=>(List.mem_append.1 hc).elim (hk1 c) (hk2 c)
  refine ar (ac (ab (kPa aa aa (ad (ac (ab (kPm aa aa (kPm aa aa ?_))))))))
  refine aw aa (iO call17 aa aa) (lT _ _ gl lf q1 n1 cap1 f1 hf1 hr1 hn1) .free aa aa ?_
  refine aH aa (au call14 aa) (lO _ _ gl fg (txJ f1 n1)) .free aa aa ?_
  rintro _ _ ⟨s1,hs1,rfl,rfl⟩
  rw[hpa]
  refine kPm aa aa (kPv (aA aa aa) aa (kPv (aA aa aa) aa (kPv (aA aa aa) aa (kPa aa aa (kPa aa aa (kPa aa aa (ad (am [8,6,5,4,0,1] rfl (ac (ab (kPm aa aa ?_)))))))))))
  refine kPm aa aa ?_
  refine aw aa (iO call17 aa aa) (lT _ _ gl lf q2 n2 cap2 f2 hf2 hr2 hn2) .free aa aa ?_
  refine aH aa (au call14 aa) (lO _ _ gl fg (txJ f2 n2)) .free aa aa ?_
  rintro _ _ ⟨s2,hs2,rfl,rfl⟩
  rw[hpb]
  refine kPm aa aa (kPv (aA aa aa) aa (kPv (aA aa aa) aa (kPv (aA aa aa) aa (kPa aa aa (kPa aa aa (kPa aa aa (ad (am [11,9,8,6,5,4,0,1] rfl (ac (ab (kPm aa aa ?_)))))))))))
  refine kPm aa aa ?_
  refine aw aa (iO call17 aa aa) (lT _ _ gl lf q1 n1 cap1 f1 hf1 hr1 hn1) .free aa aa ?_
  refine al aa (dF aa aa (by first | omega | (simp only[List.length_append,List.length_cons,List.length_nil];omega))) .free aa aa ?_
  refine kPm aa aa (kPm aa aa ?_)
  refine aw aa (iO call17 aa aa) (lT _ _ gl lf q2 n2 cap2 f2 hf2 hr2 hn2) .free aa aa ?_
  refine al aa (dF aa aa (by first | omega | (simp only[List.length_append,List.length_cons,List.length_nil];omega))) .free aa aa ?_
  refine aH aa (au call14 aa) (lO _ _ gl fg (txJ f1 n1++[10]++txJ f2 n2)) .free aa aa ?_
  rintro _ _ ⟨s3,hs3,rfl,rfl⟩
  rw[hpc]
  refine kPm aa aa (kPv (aA aa aa) aa (kPv (aA aa aa) aa (kPv (aA aa aa) aa (kPa aa aa (kPa aa aa (kPa aa aa (ad (am [14,12,11,9,8,6,4] rfl (ac (aP [2] (lX fun r1 hr1'=> ?_)))))))))))
  refine aP [3] (lX fun r2 hr2'=>(aP [4] (lX fun r3 hr3=>(iZ fun q9 cap9 hq9 hqi9=> ?_))))
  subst hq9
  have hl1':r1.length≤60:=by have:=congrArg List.length hr1'.1;simp at this;omega
  have hl1:r1.length≤1000000:=by omega
  have hl2':r2.length≤60:=by have:=congrArg List.length hr2'.1;simp at this;omega
  have hl2:r2.length≤1000000:=by have:=congrArg List.length hr2'.1;simp at this;omega
  have hl3:r3.length≤1000000:=by have:=congrArg List.length hr3.1;simp at this;omega
  refine ab (kPm aa aa (kPv (ao aa aa aa) aa (kPm aa aa (al aa (ak aa) (.on aa aa (ae (by simp))) aa aa (al aa (ao aa aa aa) (.on aa aa (ae (by simp))) aa aa (kPv (ay aa (by simp) aa) aa (kPm aa aa (al aa (ak aa) (.on aa aa (ae (by simp))) aa aa (al aa (ao aa aa aa) (.on aa aa (ae (by simp))) aa aa (kPv (ay aa (by simp) aa) aa (kPm aa aa ?_)))))))))))
  refine al aa (ak aa) (.on aa aa (ae (by simp))) aa aa (al aa (ak aa) (.on aa aa (ae (by simp))) aa aa (aP [4] (aH aa (au call18 aa) (vG B _ hl1) (.on aa aa (ae (by simp))) aa aa ?_)))
  rintro cv _ ⟨hcv,rfl⟩
  refine aP [4] (iZ fun q7 cap7 hq7 hqi7=> ?_)
  subst hq7
  refine al aa (ak aa) (.on aa aa (ae (by simp))) aa aa (aP [1] (cJ aa (pZ ky (ys:=r2) aa aa runUnderlying24 runUnderlying24 ⟨_,rfl⟩ sizeOf32 zeroValue32 aa yL aa aa (nX ky (1 - 1) aa) (by omega)) (.on aa aa (ae (by simp))) aa aa ?_))
  rintro dv _ ⟨hdv,rfl⟩
  refine iZ fun q8 cap8 hq8 hqi8=> ?_
  subst hq8
  refine aw aa (au call15 aa) (Bm B _ q9 q8 cap9 cap8 r3 (r1++r2) hl3 (by rw[List.length_append];omega) (AI hr3 hk3 3 4 aa aa) (Ce hr1' hr2' hk1 hk2 0 6 5 aa aa aa)) (.on aa aa (ae (by simp))) aa aa ?_
  refine aP [2,5] (aM (fun w hh=>eM hr1' hh) (aP [2,4] (aM (fun w hh=>eM hr2' hh) (aP [3,3] (aM (fun w hh=>eM hr3 hh) (kPv (ay aa (by simp) aa) aa (kPm aa aa (al aa (ak aa) (.on aa aa (ae (by rw[hr3.1,List.map_append,hr1'.1,hr2'.1];simp))) aa aa (aw aa (au call16 aa) (lm _ _ gl fg (by simp;omega) hw3) (.on aa aa (ae (by rw[hr3.1,List.map_append,hr1'.1,hr2'.1];simp))) aa aa ?_)))))))))
  refine al aa (ak aa) (.on aa aa (ae (by rw[hr3.1,List.map_append,hr1'.1,hr2'.1];simp))) aa aa (aw aa (au call16 aa) (rA [2] [1,1] (lm _ _ gl fg (by simp;omega) hw1)) (.on aa aa (ae (by rw[hr3.1,List.map_append,hr1'.1,hr2'.1];simp))) aa aa ?_)
  refine al aa (ak aa) (.on aa aa (ae (by rw[hr3.1,List.map_append,hr1'.1,hr2'.1];simp))) aa aa (aw aa (au call16 aa) (rA [1] [1] (lm _ _ gl fg (by simp;omega) hw2)) (.on aa aa (ae (by rw[hr3.1,List.map_append,hr1'.1,hr2'.1];simp))) aa aa ?_)
  refine al aa (dF aa aa (by omega)) (.on aa aa (ae (by rw[hr3.1,List.map_append,hr1'.1,hr2'.1];simp))) aa aa (al aa (r5 aa aa aa) (.on aa aa (ae (by rw[hr3.1,List.map_append,hr1'.1,hr2'.1];simp))) aa aa (kPv (ay aa (by rw[hr3.1,List.map_append,hr1'.1,hr2'.1];simp) aa) aa (kPa aa aa (ad (am [4] rfl (az ?_))))))
  exact aq results4 aa (fun w hw=>⟨by rw[xC];simp,(hw.dp [0,0,0,0])⟩)
theorem mq(W:World){a0:Option Addr}{n0 cap0:Nat}{f:Nat→Ln}(w0:n0≤9223372036854775807∧(∀ i,i<n0→LnW (f i))∧iR W a0 n0 5 (fun i=>(f i).row)){a1:Option Addr}{n1 cap1:Nat}{g:Nat→Ln}(w1:n1≤9223372036854775807∧(∀ i,i<n1→LnW (g i))∧iR W a1 n1 5 (fun i=>(g i).row))(hsh:W.ShapedOpen Tryz.prog)(hL:laidMet Tryz.prog Rows.scriptJoinsRow.laid W):
 Calls Tryz.prog 4 #[.slice a0 n0 cap0,.slice a1 n1 cap1] W fun e w'=>e= .returned (.bool true)∧RowKit.Below W.heap.size W w':=
 Dm (oe W [old W] (D7 hsh hL) (Ef hL.tail.tail.tail.tail.tail.tail) (D6 hL.tail.tail.tail.tail.tail.tail.tail) a0 n0 cap0 f w0.2.1 w0.2.2 a1 n1 cap1 g w1.2.1 w1.2.2)
namespace scriptJoins
open Go.ChangeShapes Go.WideShapes Go.ChangeAt Go.RowKit
set_option maxRecDepth 100000 in
theorem Dl(os:Os)(started:os.Started)(H:Type)(enc:TypeId×Value→H):
 ReturnsInHanded {} Tryz.checked os 4 .any (fun w args=>(Rows.scriptJoinsSpec.pre enc Tryz.prog Tryz.f4 Rows.scriptJoinsRow.domain false w args∧laidMetH Tryz.prog Rows.scriptJoinsRow.laid w)∧sizedMet enc Tryz.prog Tryz.f4 (OpenSpec.ofChange Rows.scriptJoinsSpec) false w args) (Rows.scriptJoinsSpec.post enc Tryz.prog Tryz.f4 false true false false):=by
 refine rr (C:=Tryz.checked) (laid:=Rows.scriptJoinsRow.laid) Tryz.ownKnobs started (by kernel_rfl) func4
  (ChangeSpec.witness_shaped (enc:=enc) (C:=Tryz.checked) (os:=os) (X:=fun w _=>laidMetH Tryz.prog Rows.scriptJoinsRow.laid w) false (World.laidAll Tryz.prog os Rows.scriptJoinsRow.laid) #[.slice none 0 0,.slice none 0 0] 8 (World.laidAll_os _ _ _)
   (World.shaped_of_ZipB (by kernel_rfl) (by kernel_rfl)) (by kernel_rfl) (by kernel_rfl) (by kernel_rfl)
   (by rw[MakeChecks.laidMetH_plain _ _ _ (by kernel_rfl)];exact laidMet_laidAll _ (by kernel_rfl) (by kernel_rfl))) ?_
 intro W base args ds gs before hval0 hW hcnd hL hsh
 rw[MakeChecks.laidMetH_plain _ _ _ (by kernel_rfl)] at hL
 have hval:∀ (j:Nat) t v,Tryz.f4.params[j]? =some t→args[j]? =some v→Value.okWide Tryz.prog W .any base t v:=hval0
 have hW':=hW
 obtain⟨p,q,hA0,hV,rfl,hfz,hnd⟩:=hW
 have hA:DataW.TrodAll enc Tryz.prog W 0 (fun _=>true) true Tryz.f4.params.toList args.toList ds p:=hA0
 rw[Tryz.params4] at hA hval
 obtain⟨v0,vs0,d0,ds0,p0,q0,hargs,rfl,rfl,h0,r0⟩:=trodAll_cons hA
 obtain⟨v1,vs1,d1,ds1,p1,q1,rfl,rfl,rfl,h1,r1⟩:=trodAll_cons r0
 obtain⟨rfl,rfl,rfl⟩:=trodAll_nil r1
 obtain rfl:args= #[v0,v1]:=by cases args;simp_all
 obtain⟨rfl,rfl⟩:=trodVars_none hV
 obtain⟨a0,len0,cap0,rfl⟩:=okWide_slice underlying22 (hval 0 22 v0 rfl rfl)
 have k0:=h0
 have lt0:∀ x∈p0,x.block<W.heap.size:=by obtain⟨m,hm⟩:=k0;exact DataW.trod_lt m _ _ _ hm
 obtain⟨z0,w0⟩:=fM h0
 obtain⟨a1,len1,cap1,rfl⟩:=okWide_slice underlying22 (hval 1 22 v1 rfl rfl)
 have k1:=h1
 have lt1:∀ x∈p1,x.block<W.heap.size:=by obtain⟨m,hm⟩:=k1;exact DataW.trod_lt m _ _ _ hm
 obtain⟨z1,w1⟩:=fM h1
 clear hA0 hval0
 refine(mq W w0 w1 hsh hL).mono fun e W' ⟨he,bel⟩=> ?_
 subst he
 exact⟨_,rfl,_,_,_,[],_,[],hW',trodAll_mk1 (shut_bool underlying4 _),(trodAll_cons_mk (Below.trod Tryz.laidOut (by kernel_rfl) (of_decide_eq_true (by kernel_rfl)) k0 bel lt0) (trodAll_cons_mk (Below.trod Tryz.laidOut (by kernel_rfl) (of_decide_eq_true (by kernel_rfl)) k1 bel lt1) trodAll_mk0)),rfl,bel.frame _,fun h=>by cases h⟩
theorem Ex:Rows.scriptJoinsRow.holds Tryz.pinned (OpenSpec.ofChange Rows.scriptJoinsSpec):=
 OpenClaim.holds_of_wide 4 Tryz.f4 rfl rfl rfl rfl rfl rfl rfl ⟨rfl,rfl,rfl,rfl,rfl⟩ rfl rfl rfl rfl rfl named func4 Eg EC wrap
  (fun os started H enc _=>Dl os started H enc)
theorem proved:Rows.ScriptJoinsCardSaid:=
 Claim7.holds_tied_plain_at .later [] [.data,.data,.data,.data,.sentinel,.sentinel,.data,.data,.pinned] true (true, "f90e334a796904a9246829541802d2bcc979710ad5f61b09d7205d88cafc73d6") true Ex (fun _ h=>by cases h) (by kernel_rfl) (fun _ h=>by cases h) scriptJoins_row_tie rfl ⟨rfl,rfl⟩ (by kernel_rfl) rfl
  (fun f fn hf hfn=>by
   obtain rfl:f=4:=Option.some.inj ((show Tryz.prog.funcNamed "tumulus/tumuluslaw18.ScriptJoins" =some 4 by kernel_rfl).symm.trans hf) |>.symm
   obtain rfl:fn=Tryz.f4:=(Option.some.inj (Tryz.func4.symm.trans hfn)).symm
   exact⟨by kernel_rfl,fun j t ht=>by
    rw[Tryz.params4] at ht
    have hm:t∈[22,22]:=by simpa using Array.mem_of_getElem? ht
    have hall:([22,22].all fun u=> !Tryz.prog.wantsStandIn u)=true:=by kernel_rfl
    exact(show Tryz.prog.wantsStandIn t=false by simpa using List.all_eq_true.1 hall t hm)⟩)
  (by kernel_rfl)
end scriptJoins
end Go.Proofs.YtoakdoeajpjgkaaGreatDoor
