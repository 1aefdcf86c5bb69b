/- Part of a law's texts. Conditions: none. -/
import Derived.Test.YtlcibdhmgclfjaaGreatQL17Rp
set_option linter.all false
namespace Go.Proofs.YtlcibdhmgclfjaaGreat
open Go
theorem AO:((List.range 65).all fun w=>(List.range (w+1)).all fun r=>unp (eR w r)==((w:Int),(r:Int),true))=true:=by kernel_rfl
theorem uQ{w r:Int}(h:0≤r∧r≤w∧w≤64):unp (eR w r)=(w,r,true):=by
 have h1:=AO
 rw[List.all_eq_true] at h1
 have h2:=h1 w.toNat (List.mem_range.2 (by omega))
 rw[List.all_eq_true] at h2
 have h3:=h2 r.toNat (List.mem_range.2 (by omega))
 rw[beq_iff_eq,Int.toNat_of_nonneg (by omega),Int.toNat_of_nonneg (by omega)] at h3
 exact h3
theorem gq.congr{m m':Int→Int}:∀ {L:List Int} {a e:Int},gq m a L e→(∀ k∈L,m' k=m k)→gq m' a L e
 | [],_,_,h,_=>h
 | x::t,a,e,h,hm=>by
   obtain⟨rfl,h2,h3⟩:=h
   have e1:=hm x (List.mem_cons_self ..)
   refine⟨rfl,by rw[e1];exact h2,?_⟩
   rw[show osz m' x=osz m x by unfold osz;rw[e1]]
   exact h3.congr fun k hk=>hm k (List.mem_cons_of_mem _ hk)
theorem gq.snoc{m:Int→Int}:∀ {L:List Int} {a e:Int},gq m a L e→(unp (m e)).2.2=true→gq m a (L++[e]) (e+osz m e)
 | [],a,e,h,h1=>by cases h;exact⟨rfl,h1,rfl⟩
 | x::t,a,e,h,h1=>⟨h.1,h.2.1,h.2.2.snoc h1⟩
structure HL(c:Cfg)(N:Nat)(k0:Nat→Int)(s:Dev):Prop where
 u:U64 s
 lim:s.pow.lim<0
 n:s.n=N
 kept:s.kept=k0
 q:s.q=fun _=>none
 low:∀ x:Nat,(x:Int)<c.active→s.now x=k0 x
structure Fi(c:Cfg)(N:Nat)(k0:Nat→Int)(s:Dev)(out:List Int)(u:Int):Prop where
 h:HL c N k0 s
 act:s.load c.active=0
 used:s.load (c.active+1)=u
 u0:0≤u∧u≤c.space
 tile:gq s.load (c.frm 0) out (c.frm 0+u)
 names:∀ k∈out,∀ i,0≤i→i<orf s.load k→s.load (k+1+i)=0∨s.load (k+1+i)∈out
 roots:∀ i:Nat,(i:Int)<c.roots→s.load (c.root i)=0∨s.load (c.root i)∈out
theorem Fp{c:Cfg}(hc:bC c){N:Nat}(hN:(N:Int)=c.words):c.frm 0+c.space≤N∧c.active+2+c.roots≤c.frm 0∧24<c.active∧c.frm 0+c.space≤20000:=by
 have hfb:=gE hc (k:=0) (by omega)
 have h1:=hc.act
 have:=hc.s1;have:=hc.r1;have:=hc.l1
 omega
theorem Ez{c:Cfg}(hc:bC c){N:Nat}(hN:(N:Int)=c.words){s:Dev}(h:Fmt c N s)(hu:U64 s):Fi c N s.kept s [] 0:=by
 have hf0:=Fp hc hN
 have hr:=hc.r1
 have hs:=hc.s1
 have hb:∀ x:Int,c.active≤x→x<c.root c.roots→s.load x=0:=fun x h1 h2=>by
  simp only[Cfg.root] at h2
  unfold Dev.load
  split
  ·exact h.st.block x.toNat (by omega) (by simp only[Cfg.root];omega)
  ·rfl
 refine⟨⟨hu,h.lim,h.n,rfl,h.calm.q,fun x _=>by rw[h.calm.kept]⟩,hb _ (by omega) (by simp only[Cfg.root];omega),hb _ (by omega) (by simp only[Cfg.root];omega),by omega,by show c.frm 0=c.frm 0+0;omega,fun _ h=>(by cases h),fun i hi=> .inl (hb _ (by simp only[Cfg.root];omega) (by simp only[Cfg.root];omega))⟩
structure jT(s:Dev):Prop where
 lim:s.pow.lim<0
 q:s.q=fun _=>none
theorem E9{s:Dev}{i:Nat}(hq:s.q=fun _=>none):(s.up.fl i).up.fe.now=s.now∧(s.up.fl i).up.fe.q=(fun _=>none)∧(s.up.fl i).up.fe.n=s.n∧∀ x,(s.up.fl i).up.fe.kept x=if x / 8=i / 8 then s.now x else s.kept x:=by
 refine⟨rfl,rfl,rfl,fun x=> ?_⟩
 have h:=qN s i x
 rw[show s.pk x=s.kept x by simp only[Dev.pk,eT,hq]] at h
 exact h
@[irreducible] def Dev.sv (s:Dev) (i:Nat) (v:Int):Dev:=s.up.st i v
@[irreducible] def Dev.ff (s:Dev) (i:Nat):Dev:=(s.up.fl i).up.fe
theorem kH{α:Type}{s:Dev}{i v:Int}{k:Int→Dev→Out α}(h:s.pow.lim<0)(hi:0≤i∧i<s.n):(s.store i v).then k=k 0 (s.sv i.toNat v):=by rw[ng h hi,aX];unfold Dev.sv;rfl
theorem um{α:Type}{s:Dev}{i:Int}{k:Unit→Dev→Out α}(h:s.pow.lim<0)(hi:0≤i∧i<s.n):((s.flush i).then fun _ s=>s.fence.then k)=k () (s.ff i.toNat):=by rw[rC h hi,aX,nP (s:=s.up.fl i.toNat) h,aX];unfold Dev.ff;rfl
theorem fT(s:Dev)(i:Nat)(v:Int):(s.sv i v).pow.lim=s.pow.lim:=by unfold Dev.sv;rfl
theorem ka(s:Dev)(i:Nat)(v:Int):(s.sv i v).n=s.n:=by unfold Dev.sv;rfl
theorem wG(s:Dev)(i:Nat)(v:Int):(s.sv i v).q=s.q:=by unfold Dev.sv;rfl
theorem dx(s:Dev)(i:Nat)(v:Int):(s.sv i v).now=upd s.now i v:=by unfold Dev.sv;rfl
theorem kI(s:Dev)(i:Nat)(v:Int):(s.sv i v).kept=s.kept:=by unfold Dev.sv;rfl
theorem rE(s:Dev)(i:Nat):(s.ff i).pow.lim=s.pow.lim:=by unfold Dev.ff;rfl
theorem BG(s:Dev)(i:Nat):(s.ff i).n=s.n:=by unfold Dev.ff;rfl
theorem Dc(s:Dev)(i:Nat):(s.ff i).q=fun _=>none:=by unfold Dev.ff;rfl
theorem oK(s:Dev)(i:Nat):(s.ff i).now=s.now:=by unfold Dev.ff;rfl
theorem pO{s:Dev}{i:Nat}(hq:s.q=fun _=>none)(x:Nat):(s.ff i).kept x=if x / 8=i / 8 then s.now x else s.kept x:=by unfold Dev.ff;exact(E9 hq).2.2.2 x
theorem Ak{L:ce}{s:Dev}{i:Int}(hL:dZ L)(hs:jT s)(hi:0≤i∧i<s.n)(hc:L.c.active≤s.n)(hn:L.n<L.c.log){r:Nat}(hr:(r:Int)=L.c.record L.n):
 ∃ s',L.append s i= .ok (0,{L with n:=L.n+1}) s'∧jT s'∧s'.n=s.n∧s'.now=upd (upd (upd s.now (r+1) i) (r+2) (upd s.now (r+1) i i.toNat)) r (gY L.epoch L.n)∧∀ x,s'.kept x=if x / 8=r / 8 then s'.now x else s.kept x:=by
 have hact:=hL.c.act
 have h0:=hL.n1
 have hr':(r:Int)=16+4*L.n:=hr
 have b0:0≤L.c.record L.n∧L.c.record L.n+3<s.n:=by rw[←hr];omega
 have e0:(L.c.record L.n).toNat=r:=by omega
 have e1:(L.c.record L.n+1).toNat=r+1:=by omega
 have e2:(L.c.record L.n+2).toNat=r+2:=by omega
 have hl:=hs.lim
 have hld:∀ v,(s.sv (r+1) v).load i=upd s.now (r+1) v i.toNat:=fun v=>by
  have:(s.sv (r+1) v).has i=true:=by simp[Dev.has,hi,ka]
  simp only[Dev.load,this,if_true,dx]
 unfold ce.append
 rw[if_neg (by omega),if_neg (by omega)]
 rw[kH hl (by omega),e1,hld]
 rw[kH (by rw[fT];exact hl) (by rw[ka];omega),e2]
 rw[um (by rw[fT,fT];exact hl) (by rw[ka,ka];omega),e0]
 rw[kH (by rw[rE,fT,fT];exact hl) (by rw[BG,ka,ka];omega),e0]
 rw[um (by rw[fT,rE,fT,fT];exact hl) (by rw[ka,BG,ka,ka];omega),e0]
 refine⟨_,rfl,⟨by simp only[rE,fT];exact hl,by rw[Dc]⟩,by simp only[BG,ka],by simp only[oK,dx],fun x=> ?_⟩
 rw[pO (by rw[wG,Dc]),oK,kI,pO (by rw[wG,wG,hs.q]),kI,kI]
 split<;>rfl
@[irreducible] def Dev.fq (s:Dev) (i:Nat):Dev:=s.up.fl i
@[irreducible] def Dev.fn (s:Dev):Dev:=s.up.fe
theorem yJ{α:Type}{s:Dev}{i:Int}{k:Int→Dev→Out α}(h:s.pow.lim<0)(hi:0≤i∧i<s.n):(s.flush i).then k=k 0 (s.fq i.toNat):=by rw[rC h hi,aX];unfold Dev.fq;rfl
theorem yK{α:Type}{s:Dev}{k:Unit→Dev→Out α}(h:s.pow.lim<0):s.fence.then k=k () s.fn:=by rw[nP h,aX];unfold Dev.fn;rfl
theorem BC(s:Dev)(i:Nat):(s.fq i).pow.lim=s.pow.lim:=by unfold Dev.fq;rfl
theorem zS(s:Dev)(i:Nat):(s.fq i).n=s.n:=by unfold Dev.fq;rfl
theorem rz(s:Dev)(i:Nat):(s.fq i).now=s.now:=by unfold Dev.fq;rfl
theorem DQ(s:Dev)(i x:Nat):(s.fq i).pk x=if x / 8=i / 8 then s.now x else s.pk x:=by unfold Dev.fq;exact qN s i x
theorem EV(s:Dev)(i:Nat)(v:Int)(x:Nat):(s.sv i v).pk x=s.pk x:=by unfold Dev.sv;rfl
theorem xr(s:Dev):s.fn.pow.lim=s.pow.lim:=by unfold Dev.fn;rfl
theorem C9(s:Dev):s.fn.n=s.n:=by unfold Dev.fn;rfl
theorem uk(s:Dev):s.fn.now=s.now:=by unfold Dev.fn;rfl
theorem E7(s:Dev):s.fn.q=fun _=>none:=by unfold Dev.fn;rfl
theorem yL(s:Dev)(x:Nat):s.fn.kept x=s.pk x:=by unfold Dev.fn;rfl
theorem uX{s:Dev}(h:s.q=fun _=>none)(x:Nat):s.pk x=s.kept x:=by simp only[Dev.pk,eT,h]
theorem ef{s:Dev}{i:Int}{k:Nat}(h:(k:Int)=i)(hk:k<s.n):s.load i=s.now k:=by
 subst h
 have:s.has (k:Int)=true:=by simp[Dev.has,hk]
 simp only[Dev.load,this,if_true,Int.toNat_natCast]
theorem uS{L:ce}{s:Dev}(hl:s.pow.lim<0)(hn:16≤s.n)(h0:L.n≠0):L.truncate s= .ok {L with epoch:=(L.epoch+1)%4294967296,n:=0} ((s.sv 8 ((L.epoch+1)%4294967296)).ff 8):=by
 unfold ce.truncate
 rw[if_neg h0,kH hl (by omega)]
 rw[um (by rw[fT];exact hl) (by rw[ka];omega)]
 rfl
theorem yh{c:Cfg}{js:Nat→Nat}{old:Nat→Int}(hc:bC c):∀ (k:Nat) (s:Dev),s.pow.lim<0→s.n≤1000000→(k:Int)≤c.log→c.active≤s.n→
 (∀ j,j<k→s.now (16+4*j+1)=js j∧s.now (16+4*j+2)=old (js j)∧c.active≤js j∧js j<s.n)→
 ∃ s',jV undoS c k s= .ok () s'∧s'.pow.lim<0∧s'.n=s.n∧(∀ x,s'.now x=if (∃ j,j<k∧js j=x) then old x else s.now x)∧(∀ x,s'.pk x=if (∃ j,j<k∧js j / 8=x / 8) then s'.now x else s.pk x)
 | 0,s,hl,_,_,_,_=>⟨s,rfl,hl,rfl,fun x=>by rw[if_neg (by rintro⟨j,h,_⟩;omega)],fun x=>by rw[if_neg (by rintro⟨j,h,_⟩;omega)]⟩
 | k+1,s,hl,hN,hk,hA,hr=>by
   have hact:=hc.act
   obtain⟨r1,r2,r3,r4⟩:=hr k (by omega)
   have l1:s.load (c.record k+1)=js k:=by rw[ef (k:=16+4*k+1) (by simp only[Cfg.record];omega) (by omega),r1]
   have l2:s.load (c.record k+2)=old (js k):=by rw[ef (k:=16+4*k+2) (by simp only[Cfg.record];omega) (by omega),r2]
   have e:jV undoS c (k+1) s=jV undoS c k ((s.sv (js k) (old (js k))).fq (js k)):=by
    simp only[jV]
    rw[l1,l2,gh (by omega)]
    unfold undoS
    rw[kH hl (by omega),yJ (by rw[fT];exact hl) (by rw[ka];omega)]
    rfl
   rw[e]
   obtain⟨s',e1,e2,e3,e4,e5⟩:=yh (js:=js) (old:=old) hc k ((s.sv (js k) (old (js k))).fq (js k)) (by rw[BC,fT];exact hl) (by rw[zS,ka];exact hN) (by omega) (by rw[zS,ka];exact hA) (fun j hj=>by
    obtain⟨q1,q2,q3,q4⟩:=hr j (by omega)
    rw[rz,dx,zS,ka]
    simp only[upd]
    rw[if_neg (by omega),if_neg (by omega)]
    exact⟨q1,q2,q3,q4⟩)
   refine⟨s',e1,e2,by rw[e3,zS,ka],fun x=> ?_,fun x=> ?_⟩
   ·rw[e4,rz,dx]
    by_cases h1:∃ j,j<k∧js j=x
    ·obtain⟨j,hj,hx⟩:=h1
     rw[if_pos ⟨j,hj,hx⟩,if_pos ⟨j,by omega,hx⟩]
    ·rw[if_neg h1]
     by_cases h2:x=js k
     ·rw[if_pos ⟨k,by omega,h2.symm⟩];simp only[upd,if_pos h2];rw[h2]
     ·rw[if_neg]
      ·simp only[upd,if_neg h2]
      ·rintro⟨j,hj,hx⟩
       rcases Nat.lt_succ_iff_lt_or_eq.1 hj with h | h
       ·exact h1 ⟨j,h,hx⟩
       ·subst h;exact h2 hx.symm
   ·rw[e5,DQ,EV]
    by_cases h1:∃ j,j<k∧js j / 8=x / 8
    ·obtain⟨j,hj,hx⟩:=h1
     rw[if_pos ⟨j,hj,hx⟩,if_pos ⟨j,by omega,hx⟩]
    ·rw[if_neg h1]
     by_cases h2:x / 8=js k / 8
     ·rw[if_pos h2,if_pos ⟨k,by omega,h2.symm⟩,e4,rz,if_neg]
      rintro⟨j,hj,hx⟩
      exact h1 ⟨j,hj,by rw[hx]⟩
     ·rw[if_neg h2,if_neg]
      rintro⟨j,hj,hx⟩
      rcases Nat.lt_succ_iff_lt_or_eq.1 hj with h | h
      ·exact h1 ⟨j,h,hx⟩
      ·subst h;exact h2 hx.symm
theorem pu:∀ (ks:List Int) (s:Dev),s.pow.lim<0→(∀ k∈ks,0≤k∧k*8<s.n)→
 ∃ s',dG ks s= .ok () s'∧s'.pow.lim<0∧s'.n=s.n∧s'.now=s.now∧∀ x,s'.pk x=if ((x / 8:Nat):Int)∈ks then s.now x else s.pk x
 | [],s,hl,_=>⟨s,rfl,hl,rfl,rfl,fun x=>by rw[if_neg (by simp)]⟩
 | k::ks,s,hl,hk=>by
   obtain⟨k1,k2⟩:=hk k (by simp)
   have e:dG (k::ks) s=dG ks (s.fq (k*8).toNat):=by
    simp only[dG]
    rw[yJ hl (by omega)]
   rw[e]
   obtain⟨s',e1,e2,e3,e4,e5⟩:=pu ks (s.fq (k*8).toNat) (by rw[BC];exact hl) (fun j hj=>by rw[zS];exact hk j (by simp[hj]))
   refine⟨s',e1,e2,by rw[e3,zS],by rw[e4,rz],fun x=> ?_⟩
   rw[e5,rz,DQ]
   by_cases h1:((x / 8:Nat):Int)∈ks
   ·rw[if_pos h1,if_pos (List.mem_cons_of_mem _ h1)]
   ·rw[if_neg h1]
    by_cases h2:x / 8=(k*8).toNat / 8
    ·rw[if_pos h2,if_pos]
     have:((x / 8:Nat):Int)=k:=by omega
     rw[this];exact List.mem_cons_self
    ·rw[if_neg h2,if_neg]
     have:((x / 8:Nat):Int)≠k:=by omega
     exact fun h=>(List.mem_cons.1 h).elim this h1
def ce.shut(L:ce):ce:=if L.n=0 then L else {L with epoch:=(L.epoch+1)%4294967296,n:=0}
def ce.shutNow(L:ce)(f:Nat→Int):Nat→Int:=if L.n=0 then f else upd f 8 ((L.epoch+1)%4294967296)
theorem o7{L:ce}{s:Dev}(hs:jT s)(hn:16≤s.n):∃ s',L.truncate s= .ok L.shut s'∧jT s'∧s'.n=s.n∧s'.now=L.shutNow s.now∧(s.kept=s.now→s'.kept=s'.now):=by
 by_cases h0:L.n=0
 ·refine⟨s,?_,hs,rfl,?_,fun h=>h⟩
  ·unfold ce.truncate ce.shut;rw[if_pos h0,if_pos h0]
  ·unfold ce.shutNow;rw[if_pos h0]
 ·refine⟨_,uS hs.lim hn h0 |>.trans (by unfold ce.shut;rw[if_neg h0]),⟨by rw[rE,fT];exact hs.lim,Dc _ _⟩,by rw[BG,ka],by unfold ce.shutNow;rw[if_neg h0,oK,dx],fun hk=>funext fun x=> ?_⟩
  rw[pO (by rw[wG,hs.q]),oK,dx,kI]
  by_cases c:x / 8=8 / 8
  ·rw[if_pos c]
  ·rw[if_neg c,hk];simp only[upd];rw[if_neg (by omega)]
theorem uC{S:bG}{s:Dev}(hs:jT s)(hn:16≤s.n)(hd:∀ k∈S.dirty.map Prod.fst,0≤k∧k*8<s.n):
 ∃ s',S.commit s= .ok {S with L:=S.L.shut} s'∧jT s'∧s'.n=s.n∧s'.now=S.L.shutNow s.now∧((∀ x,((x / 8:Nat):Int)∉S.dirty.map Prod.fst→s.kept x=s.now x)→s'.kept=s'.now):=by
 have hmem:∀ k,k∈cG (S.dirty.map Prod.fst)↔k∈S.dirty.map Prod.fst:=fun k=>List.mem_mergeSort
 obtain⟨s1,e1,e2,e3,e4,e5⟩:=pu (cG (S.dirty.map Prod.fst)) s hs.lim (fun k h=>hd k ((hmem k).1 h))
 have hpk:(∀ x,((x / 8:Nat):Int)∉S.dirty.map Prod.fst→s.kept x=s.now x)→∀ x,s1.pk x=s.now x:=fun hk x=>by
  rw[e5]
  by_cases c:((x / 8:Nat):Int)∈S.dirty.map Prod.fst
  ·rw[if_pos ((hmem _).2 c)]
  ·rw[if_neg (fun h=>c ((hmem _).1 h)),uX hs.q,hk x c]
 unfold bG.commit
 rw[e1,aX]
 by_cases c:0<S.dirty.length
 ·rw[if_pos c,yK e2]
  obtain⟨s',f1,f2,f4,f5,f6⟩:=o7 (L:=S.L) (s:=s1.fn) ⟨by rw[xr];exact e2,E7 _⟩ (by rw[C9,e3];exact hn)
  exact⟨s',by rw[f1,aX],f2,by rw[f4,C9,e3],by rw[f5,uk,e4],fun hk=>f6 (funext fun x=>by rw[yL,uk,hpk hk,e4])⟩
 ·have hd0:S.dirty=[]:=List.length_eq_zero_iff.1 (by omega)
  have hs1:s1=s:=by
   rw[hd0] at e1
   simp[cG,dG] at e1
   exact e1.symm
  subst hs1
  rw[if_neg c,aX]
  obtain⟨s',f1,f2,f4,f5,f6⟩:=o7 (L:=S.L) (s:=s1) hs hn
  exact⟨s',by rw[f1,aX],f2,f4,f5,fun hk=>f6 (funext fun x=>hk x (by rw[hd0];simp))⟩
theorem wy{S:bG}{s:Dev}{js:Nat→Nat}{old:Nat→Int}{k:Nat}(hc:bC S.L.c)(hs:jT s)(hN:s.n≤1000000)(hk:(k:Int)=S.L.n)(hk1:(k:Int)≤S.L.c.log)(hA:S.L.c.active≤s.n)
 (hr:∀ j,j<k→s.now (16+4*j+1)=js j∧s.now (16+4*j+2)=old (js j)∧S.L.c.active≤js j∧js j<s.n):
 ∃ s',S.abort s= .ok {S with L:=S.L.shut} s'∧jT s'∧s'.n=s.n∧s'.now=S.L.shutNow (fun x=>if (∃ j,j<k∧js j=x) then old x else s.now x)∧
  ∀ x,s'.kept x=if (0<k∧x / 8=1)∨(∃ j,j<k∧js j / 8=x / 8) then s'.now x else s.kept x:=by
 have hact:=hc.act
 obtain⟨s1,e1,e2,e3,e4,e5⟩:=yh (js:=js) (old:=old) hc k s hs.lim hN hk1 hA hr
 have hkn:S.L.n.toNat=k:=by omega
 have hnow:s1.now=fun x=>if (∃ j,j<k∧js j=x) then old x else s.now x:=funext e4
 unfold bG.abort ce.undo
 rw[hkn,e1,aX]
 by_cases h0:S.L.n=0
 ·have k0:k=0:=by omega
  subst k0
  simp only[jV] at e1
  have hs1:s1=s:=by injection e1 with _ h;exact h.symm
  subst hs1
  refine⟨s1,?_,hs,rfl,?_,fun x=> ?_⟩
  ·rw[if_neg (by omega),aX];unfold ce.truncate ce.shut;rw[if_pos h0,if_pos h0,aX]
  ·unfold ce.shutNow;rw[if_pos h0];exact hnow
  ·rw[if_neg]
   rintro(⟨h,_⟩ | ⟨j,h,_⟩)
   ·omega
   ·omega
 ·rw[if_pos (by omega),yK e2,uS (by rw[xr];exact e2) (by rw[C9,e3];have:=hc.l1;have:=hc.r1;omega) h0,aX]
  refine⟨_,by unfold ce.shut;rw[if_neg h0],⟨by rw[rE,fT,xr];exact e2,Dc _ _⟩,by rw[BG,ka,C9,e3],?_,fun x=> ?_⟩
  ·unfold ce.shutNow;rw[if_neg h0,oK,dx,uk,hnow]
  ·rw[pO (by rw[wG,E7]),oK,dx,kI,uk,yL,e5]
   by_cases c1:x / 8=1
   ·rw[if_pos (show x / 8=8 / 8 from c1),if_pos (.inl ⟨by omega,c1⟩)]
   ·rw[if_neg (show ¬ x / 8=8 / 8 from c1)]
    have hx:upd s1.now 8 ((S.L.epoch+1)%4294967296) x=s1.now x:=by simp only[upd];rw[if_neg (by omega)]
    rw[hx]
    by_cases c2:∃ j,j<k∧js j / 8=x / 8
    ·rw[if_pos c2,if_pos (.inr c2)]
    ·rw[if_neg c2,if_neg,uX hs.q]
     rintro(⟨_,h⟩ | h)
     ·exact c1 h
     ·exact c2 h
def r5(L:ce)(s:Dev):Prop:=s.now 8=L.epoch∧s.now 16≠gY L.epoch 0
structure In(kp:Prop)(c:Cfg)(N:Nat)(old:Nat→Int)(js:List Nat)(S:bG)(s:Dev):Prop where
 still:jT s
 n:s.n=N
 hN:(N:Int)=c.words
 hc:S.L.c=c
 logw:dZ S.L
 ln:S.L.n=js.length
 seen:∀ i:Int,(bi S.seen i).isSome=true↔∃ j∈js,(j:Int)=i
 recs:∀ k (h:k<js.length),s.now (16+4*k+1)=js[k]∧s.now (16+4*k+2)=old js[k]∧c.active≤js[k]∧js[k]<N
 same:∀ x,x∉js→c.active≤x→¬(S.ff≤x∧(x:Int)<S.ft)→s.now x=old x
 keep:kp→∀ x,((x / 8:Nat):Int)∉S.dirty.map Prod.fst→s.kept x=s.now x
 dirty:∀ k∈S.dirty.map Prod.fst,c.active≤k*8∧k*8<N
 nd:(S.dirty.map Prod.fst).Nodup
 out:∀ j∈js,(j:Int)<S.ff∨S.ft≤j
 jnd:js.Nodup
 ep:s.now 8=S.L.epoch
 st:(js=[]∧s.now 16≠gY S.L.epoch 0)∨(js≠[]∧s.now 16=gY S.L.epoch 0)
theorem vC{kp:Prop}{c:Cfg}{N:Nat}{S:bG}{s:Dev}{f t:Int}(hs:jT s)(hk:kp→s.kept=s.now)(hn:s.n=N)(hN:(N:Int)=c.words)(hc:S.L.c=c)(hL:dZ S.L)(h0:S.L.n=0)(h1:r5 S.L s):In kp c N s.now [] {S with ff:=f,ft:=t,seen:=[],dirty:=[]} s:=
 ⟨hs,hn,hN,hc,hL,h0,fun i=>by simp[bi],fun k h=>absurd h (Nat.not_lt_zero _),fun _ _ _ _=>rfl,fun h x _=>by rw[hk h],fun k h=>by simp at h,by simp,fun j h=>by simp at h,by simp,h1.1,.inl ⟨rfl,h1.2⟩⟩
theorem qz{L:ce}{f:Nat→Int}{s:Dev}(hL:dZ L)(he:f 8=L.epoch)(hs:(L.n=0∧f 16≠gY L.epoch 0)∨(L.n≠0∧f 16=gY L.epoch 0))(hn:s.now=L.shutNow f):r5 L.shut s:=by
 have e1:=hL.e1
 have e2:=hL.e2
 unfold r5
 rw[hn]
 unfold ce.shutNow ce.shut
 by_cases h0:L.n=0
 ·rw[if_pos h0,if_pos h0]
  rcases hs with ⟨_,h⟩ | ⟨h,_⟩
  ·exact⟨he,h⟩
  ·exact absurd h0 h
 ·rw[if_neg h0,if_neg h0]
  rcases hs with ⟨h,_⟩ | ⟨_,h⟩
  ·exact absurd h h0
  ·refine⟨by simp only[upd,if_true],?_⟩
   simp only[upd]
   rw[if_neg (by decide),h]
   simp only[gY]
   omega
theorem tf{kp:Prop}{c:Cfg}{N:Nat}{old:Nat→Int}{js:List Nat}{S:bG}{s:Dev}(h:In kp c N old js S s)(hc:bC c):
 ∃ s',S.commit s= .ok {S with L:=S.L.shut} s'∧jT s'∧s'.n=N∧s'.now=S.L.shutNow s.now∧(kp→Ao s')∧r5 S.L.shut s':=by
 have hw:=words_b hc
 have hact:=hc.act
 have:=h.hN
 have:=hc.r1
 have:=hc.l1
 obtain⟨s',e1,e2,e4,e5,e6⟩:=uC (S:=S) h.still (by rw[h.n];omega) (fun k hk=>by have:=h.dirty k hk;rw[h.n];omega)
 refine⟨s',e1,e2,by rw[e4,h.n],e5,fun hk=>⟨e6 (h.keep hk),e2.q⟩,qz h.logw h.ep ?_ e5⟩
 rcases h.st with ⟨h1,h2⟩ | ⟨h1,h2⟩
 ·exact .inl ⟨by rw[h.ln,h1];rfl,h2⟩
 ·exact .inr ⟨by rw[h.ln];have:=List.length_pos_iff.2 h1;omega,h2⟩
theorem ox{α:Type}{k:Int}{a:α}:∀ {l:List (Int×α)},(mset l k a).length≤l.length+1
 | []=>by simp[mset]
 | p::l=>by
   simp only[mset]
   split
   ·simp
   ·have:=ox (k:=k) (a:=a) (l:=l)
    simp only[List.length_cons];omega
theorem gB{α:Type}{k k':Int}{a:α}:∀ {l:List (Int×α)},k'∈(mset l k a).map Prod.fst↔k'=k∨k'∈l.map Prod.fst
 | []=>by simp[mset]
 | p::l=>by
   simp only[mset]
   split
   ·rename_i h
    simp only[List.map_cons,List.mem_cons,h]
    constructor
    ·rintro(h1 | h1)
     ·exact .inl h1
     ·exact .inr (.inr h1)
    ·rintro(h1 | h1 | h1)
     ·exact .inl h1
     ·exact .inl h1
     ·exact .inr h1
   ·simp only[List.map_cons,List.mem_cons,gB (l:=l)]
    constructor
    ·rintro(h1 | h1 | h1)
     ·exact .inr (.inl h1)
     ·exact .inl h1
     ·exact .inr (.inr h1)
    ·rintro(h1 | h1 | h1)
     ·exact .inr (.inl h1)
     ·exact .inl h1
     ·exact .inr (.inr h1)
theorem lN{α:Type}{k:Int}{a:α}:∀ {l:List (Int×α)},(l.map Prod.fst).Nodup→((mset l k a).map Prod.fst).Nodup
 | [],_=>by simp[mset]
 | p::l,h=>by
   rw[List.map_cons,List.nodup_cons] at h
   simp only[mset]
   split
   ·rename_i e;subst e;rw[List.map_cons,List.nodup_cons];exact h
   ·rename_i e
    rw[List.map_cons,List.nodup_cons]
    refine⟨fun hm=> ?_,lN h.2⟩
    rcases gB.1 hm with h1 | h1
    ·exact e h1
    ·exact h.1 h1
theorem re{kp:Prop}{c:Cfg}{N:Nat}{old:Nat→Int}{js:List Nat}{S:bG}{s:Dev}(h:In kp c N old js S s)(hc:bC c){i:Nat}(v:Int)(hi:c.active≤i∧i<N)(hno:i∈js∨(S.ff≤i∧(i:Int)<S.ft)):
 S.store s i v= .ok (0,{S with dirty:=mset S.dirty ((i:Int) / 8) ()}) (s.sv i v)∧In kp c N old js {S with dirty:=mset S.dirty ((i:Int) / 8) ()} (s.sv i v):=by
 have hact:=hc.act
 have hn:=h.n
 refine⟨?_,⟨⟨by rw[fT];exact h.still.lim,by rw[wG];exact h.still.q⟩,by rw[ka,hn],h.hN,h.hc,h.logw,h.ln,h.seen,fun k hk=> ?_,fun x hx hx1 hx2=> ?_,fun hkp x hx=> ?_,fun k hk=> ?_,lN h.nd,h.out,h.jnd,?_,?_⟩⟩
 ·rw[kJ (by rw[h.hc];omega),kH h.still.lim (by omega)]
  ·rfl
  ·rintro⟨q1,q2⟩
   rcases hno with h1 | h1
   ·rw[(h.seen i).2 ⟨i,h1,rfl⟩] at q1;cases q1
   ·omega
 ·obtain⟨r1,r2,r3,r4⟩:=h.recs k hk
  have hkl:(k:Int)<c.log:=by
   have:=h.logw.n2
   rw[h.hc,h.ln] at this;omega
  rw[dx]
  simp only[upd]
  rw[if_neg (by omega),if_neg (by omega)]
  exact⟨r1,r2,r3,r4⟩
 ·rw[dx]
  simp only[upd]
  rw[if_neg]
  ·exact h.same x hx hx1 hx2
  ·intro e;subst e
   rcases hno with h1 | h1
   ·exact hx h1
   ·exact hx2 h1
 ·rw[gB] at hx
  rw[dx,kI]
  simp only[upd]
  rw[if_neg (by intro e;subst e;exact hx (.inl (by omega)))]
  exact h.keep hkp x fun hd=>hx (.inr hd)
 ·rcases gB.1 hk with e | e
  ·subst e;omega
  ·exact h.dirty k e
 ·have:=hc.l1;have:=hc.r1
  rw[dx];simp only[upd];rw[if_neg (by omega)];exact h.ep
 ·have:=hc.l1;have:=hc.r1
  rw[dx];simp only[upd];rw[if_neg (by omega)];exact h.st
theorem rb{kp:Prop}{c:Cfg}{N:Nat}{old:Nat→Int}{js:List Nat}{S:bG}{s:Dev}(h:In kp c N old js S s)(hc:bC c){i:Nat}(v:Int)(hi:c.active≤i∧i<N)(hno:i∉js)(hf:¬(S.ff≤i∧(i:Int)<S.ft))(hroom:(js.length:Int)<c.log):
 ∃ s',S.store s i v= .ok (0,{S with L:={S.L with n:=S.L.n+1},seen:=mset S.seen i (),dirty:=mset S.dirty ((i:Int) / 8) ()}) s'∧In kp c N old (js++[i]) {S with L:={S.L with n:=S.L.n+1},seen:=mset S.seen i (),dirty:=mset S.dirty ((i:Int) / 8) ()} s'∧s'.now i=v∧∀ x:Nat,c.active≤x→x≠i→s'.now x=s.now x:=by
 have hact:=hc.act
 have hn:=h.n
 have hln:=h.ln
 have hcc:=h.hc
 have hN:=h.hN
 have hlt:=hi
 obtain⟨s1,e1,e2,e3,e4,e5⟩:=Ak (L:=S.L) (s:=s) (i:=i) (r:=16+4*js.length) h.logw h.still (by omega) (by rw[hcc];omega) (by rw[hcc];omega) (by rw[hln];simp only[Cfg.record];omega)
 have hns:(bi S.seen i).isSome=false:=by
  cases hm:(bi S.seen (i:Int)).isSome with
  | false=>rfl
  | true=>obtain⟨j,hj,e⟩:=(h.seen i).1 hm;exact absurd (by rwa [show j=i by omega] at hj) hno
 have hnow:∀ x,x≠16+4*js.length→x≠16+4*js.length+1→x≠16+4*js.length+2→s1.now x=s.now x:=fun x h1 h2 h3=>by
  rw[e4];simp only[upd];rw[if_neg h1,if_neg h3,if_neg h2]
 refine⟨s1.sv i v,?_,⟨⟨by rw[fT];exact e2.lim,by rw[wG];exact e2.q⟩,by rw[ka,e3,hn],hN,hcc,⟨h.logw.c,h.logw.e1,h.logw.e2,?_,?_⟩,?_,fun x=> ?_,fun k hk=> ?_,fun x hx hx1 hx2=> ?_,fun hkp x hx=> ?_,fun k hk=> ?_,lN h.nd,fun j hj=> ?_,List.nodup_append.2 ⟨h.jnd,by simp,fun a ha b hb=>by simp at hb;subst hb;rintro rfl;exact hno ha⟩,?_,.inr ⟨by simp,?_⟩⟩,?_,fun x hx hx1=> ?_⟩
 ·unfold bG.store
  rw[if_neg (by rw[hcc];omega),if_pos ⟨hns,by omega⟩,e1,aX]
  simp only[ne_eq,not_true_eq_false,if_false]
  rw[kH e2.lim (by rw[e3];omega)]
  rfl
 ·show 0≤S.L.n+1
  omega
 ·show S.L.n+1≤S.L.c.log
  rw[hcc];omega
 ·show S.L.n+1=_
  rw[List.length_append,hln];simp
 ·rw[fL]
  by_cases c1:x=i
  ·rw[if_pos c1];simp[c1]
  ·rw[if_neg c1,h.seen x]
   constructor
   ·rintro⟨j,hj,e⟩;exact⟨j,List.mem_append_left _ hj,e⟩
   ·rintro⟨j,hj,e⟩
    rcases List.mem_append.1 hj with h1 | h1
    ·exact⟨j,h1,e⟩
    ·have:j=i:=by simpa using h1
     subst this;exact absurd e.symm c1
 ·rw[dx]
  simp only[upd]
  rw[List.length_append,List.length_singleton] at hk
  rw[if_neg (by omega),if_neg (by omega)]
  by_cases c1:k<js.length
  ·obtain⟨r1,r2,r3,r4⟩:=h.recs k c1
   rw[hnow _ (by omega) (by omega) (by omega),hnow _ (by omega) (by omega) (by omega)]
   simp only[List.getElem_append_left c1]
   exact⟨r1,r2,r3,r4⟩
  ·have:k=js.length:=by omega
   subst this
   simp only[List.getElem_concat_length]
   refine⟨?_,?_,hi.1,hi.2⟩
   ·rw[e4];simp only[upd];rw[if_neg (by omega),if_neg (by omega)];simp only[if_true]
   ·rw[e4];simp only[upd,Int.toNat_natCast];rw[if_neg (by omega)];simp only[if_true];rw[if_neg (by omega)]
    exact h.same i hno hi.1 hf
 ·have h1:x∉js:=fun hh=>hx (List.mem_append_left _ hh)
  have h2:x≠i:=fun e=>hx (by simp[e])
  rw[dx];simp only[upd]
  rw[if_neg h2,hnow _ (by omega) (by omega) (by omega)]
  exact h.same x h1 hx1 hx2
 ·rw[gB] at hx
  rw[dx,kI]
  simp only[upd]
  rw[if_neg (by intro e;subst e;exact hx (.inl (by omega))),e5]
  by_cases c1:x / 8=(16+4*js.length) / 8
  ·rw[if_pos c1]
  ·rw[if_neg c1,hnow _ (by omega) (by omega) (by omega)]
   exact h.keep hkp x fun hd=>hx (.inr hd)
 ·rcases gB.1 hk with e | e
  ·subst e;omega
  ·exact h.dirty k e
 ·rcases List.mem_append.1 hj with h1 | h1
  ·exact h.out j h1
  ·have:j=i:=by simpa using h1
   subst this
   show(j:Int)<S.ff∨S.ft≤j
   omega
 ·have:=hc.l1;have:=hc.r1
  rw[dx];simp only[upd];rw[if_neg (by omega),hnow _ (by omega) (by omega) (by omega)];exact h.ep
 ·have:=hc.l1;have:=hc.r1
  rw[dx];simp only[upd];rw[if_neg (by omega)]
  rcases h.st with ⟨h1,_⟩ | ⟨h1,h2⟩
  ·rw[e4,hln,h1];simp only[upd,List.length_nil];rfl
  ·have:=List.length_pos_iff.2 h1
   rw[hnow _ (by omega) (by omega) (by omega)];exact h2
 ·rw[dx];simp only[upd,if_pos]
 ·rw[dx];simp only[upd];rw[if_neg hx1,hnow _ (by omega) (by omega) (by omega)]
theorem Cd{c:Cfg}(hc:bC c):c.active≤c.words:=by
 have hact:=hc.act
 have hc1:=hc.r1
 have hc3:=hc.l1
 have h1:=dU (n:=c.root c.roots) (by simp only[Cfg.root];omega)
 have h2:=dU (n:=c.space) (by have:=hc.s1;omega)
 have:=hc.s1
 simp only[Cfg.words,Cfg.frm,Cfg.root] at*
 omega
theorem ga{c:Cfg}(hc:bC c):24≤c.active∧c.active<c.words∧c.words≤20000:=by
 have h1:=hc.act
 have h2:=words_b hc
 have:=hc.r1
 have:=hc.l1
 have h3:=dU (n:=c.root c.roots) (by simp only[Cfg.root];omega)
 have h4:=dU (n:=c.space) (by have:=hc.s1;omega)
 have:=hc.s1
 refine⟨by omega,?_,by omega⟩
 simp only[Cfg.words,Cfg.frm,Cfg.root] at*
 omega
theorem Bn{kp:Prop}{c:Cfg}{N:Nat}{old:Nat→Int}{js:List Nat}{S:bG}{s:Dev}(h:In kp c N old js S s)(hc:bC c):
 ∃ s',S.abort s= .ok {S with L:=S.L.shut} s'∧jT s'∧s'.n=N∧(∀ x:Nat,c.active≤x→¬(x∉js∧S.ff≤x∧(x:Int)<S.ft)→s'.now x=old x)∧
  (kp→(∀ k∈S.dirty.map Prod.fst,∃ j∈js,((j / 8:Nat):Int)=k)→Ao s')∧r5 S.L.shut s':=by
 have hact:=hc.act
 have hw:=words_b hc
 have hN:=h.hN
 have hn:=h.n
 have hcc:=h.hc
 have hal:=Cd hc
 have hget:∀ k (hk:k<js.length),js.getD k 0=js[k]:=fun k hk=>by simp[hk]
 have hlog:=h.logw.n2
 rw[hcc,h.ln] at hlog
 obtain⟨s',e1,e2,e3,e4,e5⟩:=wy (S:=S) (s:=s) (js:=fun k=>js.getD k 0) (old:=old) (k:=js.length) (by rw[hcc];exact hc) h.still (by rw[hn];omega) h.ln.symm (by rw[hcc];exact hlog) (by rw[hcc];omega) (fun k hk=>by
  obtain⟨r1,r2,r3,r4⟩:=h.recs k hk
  simp only[hget k hk]
  rw[hcc,hn]
  exact⟨r1,r2,r3,r4⟩)
 have hex:∀ x,(∃ j,j<js.length∧js.getD j 0=x)↔x∈js:=fun x=>by
  constructor
  ·rintro⟨j,hj,e⟩
   rw[hget j hj] at e
   rw[←e];exact List.getElem_mem hj
  ·intro hx
   obtain⟨j,hj,e⟩:=List.mem_iff_getElem.1 hx
   exact⟨j,hj,by rw[hget j hj];exact e⟩
 have hsh:∀ (f:Nat→Int) (x:Nat),x≠8→S.L.shutNow f x=f x:=fun f x hx=>by
  unfold ce.shutNow;split
  ·rfl
  ·simp only[upd];rw[if_neg hx]
 refine⟨s',e1,e2,by rw[e3,hn],fun x hx hf=> ?_,fun hkp hd=>⟨funext fun x=> ?_,e2.q⟩,?_⟩
 ·rw[e4,hsh _ _ (by omega)]
  by_cases c1:x∈js
  ·rw[if_pos ((hex x).2 c1)]
  ·rw[if_neg (fun hh=>c1 ((hex x).1 hh))]
   exact h.same x c1 hx (fun hh=>hf ⟨c1,hh⟩)
 ·rw[e5]
  by_cases c0:(0<js.length∧x / 8=1)∨(∃ j,j<js.length∧js.getD j 0 / 8=x / 8)
  ·rw[if_pos c0]
  ·rw[if_neg c0]
   have hx8:S.L.shutNow (fun x=>if (∃ j,j<js.length∧js.getD j 0=x) then old x else s.now x) x=s.now x:=by
    have hnj:¬ ∃ j,j<js.length∧js.getD j 0=x:=fun ⟨j,hj,e⟩=>c0 (.inr ⟨j,hj,by rw[e]⟩)
    unfold ce.shutNow
    by_cases c1:S.L.n=0
    ·rw[if_pos c1,if_neg hnj]
    ·rw[if_neg c1]
     simp only[upd]
     rw[if_neg,if_neg hnj]
     intro e
     refine c0 (.inl ⟨?_,by omega⟩)
     have:=h.ln;omega
   rw[e4,hx8]
   refine h.keep hkp x fun hd1=>c0 (.inr ?_)
   obtain⟨j,hj,e⟩:=hd _ hd1
   obtain⟨m,hm,e2⟩:=List.mem_iff_getElem.1 hj
   exact⟨m,hm,by rw[hget m hm,e2];omega⟩
 ·have hno:∀ x:Nat,x<24→¬ ∃ j,j<js.length∧js.getD j 0=x:=fun x hx ⟨j,hj,e⟩=>by
   have h1:=(h.recs j hj).2.2.1
   rw[hget j hj] at e
   have:=hc.l1;have:=hc.r1
   omega
  refine qz h.logw ?_ ?_ e4
  ·simp only[if_neg (hno 8 (by omega))];exact h.ep
  ·simp only[if_neg (hno 16 (by omega))]
   rcases h.st with ⟨h1,h2⟩ | ⟨h1,h2⟩
   ·exact .inl ⟨by rw[h.ln,h1];rfl,h2⟩
   ·exact .inr ⟨by rw[h.ln];have:=List.length_pos_iff.2 h1;omega,h2⟩
theorem CV{kp:Prop}{c:Cfg}{N:Nat}{old:Nat→Int}{js:List Nat}{S:bG}{s:Dev}(h:In kp c N old js S s){i:Nat}(v:Int)(hi:c.active≤i∧i<N)(hno:i∉js)(hf:¬(S.ff≤i∧(i:Int)<S.ft))(hfull:(js.length:Int)=c.log):
 S.store s i v= .ok (3,{S with L:=S.L}) s:=by
 have hn:=h.n
 have hns:(bi S.seen i).isSome=false:=by
  cases hm:(bi S.seen (i:Int)).isSome with
  | false=>rfl
  | true=>obtain⟨j,hj,e⟩:=(h.seen i).1 hm;exact absurd (by rwa [show j=i by omega] at hj) hno
 unfold bG.store
 rw[if_neg (by rw[h.hc];omega),if_pos ⟨hns,by omega⟩]
 unfold ce.append
 rw[if_neg (by omega),if_pos (by rw[h.hc,h.ln];exact hfull),aX]
 rfl
def NoF(js:List Nat)(S:bG):Prop:=∀ k∈S.dirty.map Prod.fst,∃ j∈js,((j / 8:Nat):Int)=k
theorem Bl{kp:Prop}{c:Cfg}{N:Nat}{old:Nat→Int}{js:List Nat}{S:bG}{s:Dev}(h:In kp c N old js S s)(hc:bC c)(hd:NoF js S)(hf:S.ff=0∧S.ft=0){i:Nat}(v:Int)(hi:c.active≤i∧i<N)(hroom:(js.length:Int)<c.log):
 ∃ S' s' js',S.store s i v= .ok (0,S') s'∧In kp c N old js' S' s'∧NoF js' S'∧S'.ff=0∧S'.ft=0∧js'.length≤js.length+1∧S'.dirty.length≤S.dirty.length+1∧S'.L.d=S.L.d∧s'.now i=v∧∀ x:Nat,c.active≤x→x≠i→s'.now x=s.now x:=by
 by_cases c1:i∈js
 ·obtain⟨e1,e2⟩:=re h hc v hi (.inl c1)
  refine⟨_,_,js,e1,e2,fun k hk=> ?_,hf.1,hf.2,by omega,ox,rfl,by rw[dx];simp only[upd,if_true],fun x hx hx1=>by rw[dx];simp only[upd];rw[if_neg hx1]⟩
  rcases gB.1 hk with e | e
  ·exact⟨i,c1,by omega⟩
  ·exact hd k e
 ·obtain⟨s',e1,e2,e3,e4⟩:=rb h hc v hi c1 (by rw[hf.1,hf.2];omega) hroom
  refine⟨_,s',js++[i],e1,e2,fun k hk=> ?_,hf.1,hf.2,by simp,ox,rfl,e3,e4⟩
  rcases gB.1 hk with e | e
  ·exact⟨i,by simp,by omega⟩
  ·obtain⟨j,hj,e5⟩:=hd k e
   exact⟨j,List.mem_append_left _ hj,e5⟩
theorem Az{L:ce}(h:dZ L):dZ L.shut∧L.shut.n=0∧L.shut.c=L.c∧L.shut.d=L.d:=by
 have:=h.c.l1
 have:=h.c.r1
 unfold ce.shut
 by_cases c:L.n=0
 ·rw[if_pos c];exact⟨h,c,rfl,rfl⟩
 ·rw[if_neg c]
  exact⟨⟨h.c,by show 0≤(L.epoch+1)%4294967296;omega,by show(L.epoch+1)%4294967296<4294967296;omega,show(0:Int)≤0 by decide,by show(0:Int)≤L.c.log;omega⟩,rfl,rfl,rfl⟩
theorem kK{L:ce}{f:Nat→Int}{x:Nat}(hx:x≠8):L.shutNow f x=f x:=by
 unfold ce.shutNow;split
 ·rfl
 ·simp only[upd];rw[if_neg hx]
theorem uh{kp:Prop}{c:Cfg}{N:Nat}{old:Nat→Int}{js:List Nat}{S:bG}{s:Dev}(h:In kp c N old js S s)(hc:bC c)(hN:N≤1000000):mZ S:=⟨h.logw,fun p hp=>by
 have:=h.dirty p.1 (List.mem_map_of_mem hp)
 have:=hc.act
 have:=hc.r1
 have:=hc.l1
 omega⟩
theorem zX{kp:Prop}{c:Cfg}{N:Nat}{old:Nat→Int}{js:List Nat}{S:bG}{s:Dev}(h:In kp c N old js S s)(hc:bC c)(hN:N≤1000000):S.dirty.length≤1000000:=by
 have hact:=hc.act
 have:=hc.r1
 have:=hc.l1
 have h1:=vo (d:=S.dirty.map Prod.fst) (l:=(List.range 1000000).map fun (i:Nat)=>(i:Int)) h.nd fun x hx=>by
  have:=h.dirty x hx
  exact List.mem_map.2 ⟨x.toNat,List.mem_range.2 (by omega),by omega⟩
 simpa using h1
theorem x6{s s':Dev}{i v a:Int}(e:s.store i v= .ok a s'):s'.q=s.q:=by
 unfold Dev.store at e
 split at e
 ·cases e;rfl
 ·split at e
  ·cases e
  ·cases e;rfl
theorem BZ:∀ (k:Nat) (i a f:Int) (s s':Dev),pB k i a f s= .ok () s'→s'.q=s.q
 | 0,_,_,_,s,s',e=>by cases e;rfl
 | k+1,i,a,f,s,s',e=>by
   rw[kx] at e
   obtain⟨_,s1,e1,e⟩:=aM e
   exact(BZ k _ _ _ s1 s' e).trans (x6 e1)
theorem wg{S:bE}{s s':Dev}{w:Int}{r:Int×bE}(e:S.copied s w= .ok r s'):s'.q=s.q:=by
 unfold bE.copied at e
 split at e
 ·cases e;rfl
 split at e
 ·cases e;rfl
 split at e
 ·cases e;rfl
 obtain⟨_,s1,e1,e⟩:=aM e
 cases e;exact BZ _ _ _ _ _ _ e1
theorem tX:∀ (k:Nat) (i:Int) (S S':bE) (s s':Dev),jG k i S s= .ok S' s'→s'.q=s.q
 | 0,_,S,S',s,s',e=>by cases e;rfl
 | k+1,i,S,S',s,s',e=>by
   rw[gk] at e
   split at e
   ·exact tX k _ S S' s s' e
   ·obtain⟨r,s1,e1,e⟩:=aM e
    obtain⟨_,s2,e2,e⟩:=aM e
    exact((tX k _ _ S' s2 s' e).trans (x6 e2)).trans (wg e1)
theorem Es{S:bE}{s s':Dev}{a:Unit}(h:s.q=fun _=>none)(e:S.keep s= .ok a s'):s'.q=fun _=>none:=by
 unfold bE.keep at e
 obtain⟨_,s1,e1,e⟩:=aM e
 split at e
 ·unfold Dev.fence at e
  split at e
  ·cases e
  ·cases e;rfl
 ·rename_i hn
  rw[fA,if_neg hn] at e1
  cases e1;cases e;exact h
theorem Aw{S:bE}{s s':Dev}{r:Bool×bE}(h:s.q=fun _=>none)(e:S.step s= .ok r s'):s'.q=fun _=>none:=by
 unfold bE.step at e
 split at e
 ·cases e;exact h
 split at e
 ·obtain⟨r1,s1,e1,e⟩:=aM e
  cases e;exact(wg e1).trans h
 ·split at e
  ·obtain⟨S1,s1,e1,e⟩:=aM e
   cases e;exact(tX _ _ _ _ _ _ e1).trans h
  ·obtain⟨_,s1,e1,e⟩:=aM e
   cases e;exact Es h e1
theorem AD:∀ (f:Nat) (S S':bE) (s s':Dev),(s.q=fun _=>none)→so f S s= .ok S' s'→s'.q=fun _=>none
 | 0,S,S',s,s',h,e=>by cases e;exact h
 | f+1,S,S',s,s',h,e=>by
   rw[hZ] at e
   obtain⟨r,s1,e1,e⟩:=aM e
   have h1:=Aw h e1
   split at e
   ·cases e;exact h1
   ·exact AD f _ S' s1 s' h1 e
structure SK(c:Cfg)(N bd:Nat)(S:bG)(s:Dev):Prop where
 still:jT s
 u:U64 s
 n:s.n=N
 hN:(N:Int)=c.words
 lc:S.L.c=c
 lw:dZ S.L
 ln:S.L.n=0
 ld:S.L.d=bd
 sh:r5 S.L s
theorem SK.secK{c:Cfg}{N bd:Nat}{S:bG}{s:Dev}(h:SK c N bd S s)(hc:bC c):Cg S bd c s:=⟨h.lw,by have:=(ga hc).2.2;have:=h.hN;rw[h.n];omega,h.ld,h.lc⟩
theorem mD{c:Cfg}(hc:bC c){N:Nat}{old:Nat→Int}:∀ (l:List Int) (i:Nat) (S:bG) (s:Dev) (js:List Nat),In False c N old js S s→NoF js S→S.ff=0∧S.ft=0→c.active≤i→i+l.length≤N→(js.length:Int)+l.length≤c.log→
 ∃ S' s' js',fS ey l i s S= .ok (0,S') s'∧In False c N old js' S' s'∧NoF js' S'∧(S'.ff=0∧S'.ft=0)∧S'.L.d=S.L.d∧∀ x:Nat,c.active≤x→s'.now x=if i≤x∧x<i+l.length then l.getD (x - i) 0 else s.now x
 | [],i,S,s,js,h,h1,h2,_,_,_=>⟨S,s,js,rfl,h,h1,h2,rfl,fun x _=>by rw[if_neg (by simp only[List.length_nil];omega)]⟩
 | v::t,i,S,s,js,h,h1,h2,h3,h4,h5=>by
   simp only[List.length_cons] at h4 h5
   have hld:s.load i=s.now i:=ef rfl (by rw[h.n];omega)
   unfold fS
   have fin:∀ (s1 s':Dev),(∀ x:Nat,c.active≤x→s1.now x=if x=i then v else s.now x)→(∀ x:Nat,c.active≤x→s'.now x=if i+1≤x∧x<i+1+t.length then t.getD (x - (i+1)) 0 else s1.now x)→∀ x:Nat,c.active≤x→s'.now x=if i≤x∧x<i+(v::t).length then (v::t).getD (x - i) 0 else s.now x:=fun s1 s' g1 g2 x hx=>by
    rw[g2 x hx,List.length_cons]
    by_cases e:x=i
    ·subst e
     rw[if_neg (by omega),g1 x hx,if_pos rfl,if_pos (by omega),Nat.sub_self];rfl
    ·by_cases hr:i+1≤x∧x<i+1+t.length
     ·rw[if_pos hr,if_pos (by omega),show x - i=(x - (i+1))+1 by omega];rfl
     ·rw[if_neg hr,g1 x hx,if_neg e,if_neg (by omega)]
   by_cases he:s.load i=v
   ·rw[if_pos he]
    obtain⟨S',s',js',e1,e2,e3,e4,e5,e6⟩:=mD hc t (i+1) S s js h h1 h2 (by omega) (by omega) (by omega)
    refine⟨S',s',js',e1,e2,e3,e4,e5,fin s s' (fun x hx=> ?_) e6⟩
    split
    ·rename_i e;rw[e, ←hld,he]
    ·rfl
   ·rw[if_neg he]
    obtain⟨S1,s1,js1,e1,e2,e3,e4,e5,e6,_,e7,e8,e9⟩:=Bl h hc h1 h2 (i:=i) v ⟨h3,by omega⟩ (by omega)
    rw[show ey (i:Int) v s S= .ok (0,S1) s1 from e1]
    simp only[aX]
    rw[if_neg (by simp)]
    obtain⟨S',s',js',k1,k2,k3,k4,k5,k6⟩:=mD hc t (i+1) S1 s1 js1 e2 e3 ⟨e4,e5⟩ (by omega) (by omega) (by omega)
    refine⟨S',s',js',k1,k2,k3,k4,k5.trans e7,fin s1 s' (fun x hx=> ?_) k6⟩
    split
    ·rename_i e;rw[e];exact e8
    ·rename_i e;exact e9 x hx e
theorem BF{c:Cfg}(hc:bC c){N bd:Nat}{S:bG}{s:Dev}(h:SK c N bd S s){b:Blk}(hl:(b.rts.length:Int)=c.roots)(hb:∀ v∈b.act::b.used::b.rts,0≤v∧v<18446744073709551616):
 ∃ S' s',fZ c b S s= .ok (0,S') s'∧SK c N bd S' s'∧∀ x:Nat,c.active≤x→s'.now x=if (x:Int)<c.active+2+c.roots then (b.act::b.used::b.rts).getD (x - c.active.toNat) 0 else s.now x:=by
 have hA:=ga hc
 have hf:=gE hc (k:=0) (by omega)
 have hN:=h.hN
 have hr:=hc.r1
 have hlog:=hc.l1
 obtain⟨S1,s1,js,e1,e2,e3,e4,e5,e6⟩:=mD hc (b.act::b.used::b.rts) c.active.toNat (S.fresh 0 0) s [] (vC h.still (fun h=>h.elim) h.n h.hN h.lc h.lw h.ln h.sh) (fun k hk=>by cases hk) ⟨rfl,rfl⟩ (by omega) (by simp only[List.length_cons];omega) (by simp only[List.length_cons,List.length_nil];omega)
 obtain⟨s2,k1,k2,k3,k4,_,k6⟩:=tf e2 hc
 have hk:=Az e2.logw
 have hfl:fZ c b S s= .ok (0,{S1 with L:=S1.L.shut}) s2:=by
  unfold fZ kF
  rw[show(c.active:Int)=((c.active.toNat:Nat):Int) by omega,e1]
  simp only[aX]
  rw[if_neg (by simp),k1];rfl
 refine⟨_,s2,hfl,⟨k2,?_,k3,hN,hk.2.2.1.trans e2.hc,hk.1,hk.2.1,?_,k6⟩,fun x hx=> ?_⟩
 ·exact(xu hb h.lw h.u (by rw[h.n];omega) hfl).1
 ·exact hk.2.2.2.trans (e5.trans h.ld)
 ·rw[k4,kK (by omega),e6 x (by omega)]
  simp only[List.length_cons]
  by_cases hx2:(x:Int)<c.active+2+c.roots
  ·rw[if_pos (by omega),if_pos hx2]
  ·rw[if_neg (by omega),if_neg hx2]
theorem xw{c:Cfg}(hc:bC c){N:Nat}{s s':Dev}{b:Blk}(hn:s'.n=N)(hN:(N:Int)=c.words)(hl:(b.rts.length:Int)=c.roots)(hb:fg c b)(h:∀ x:Nat,c.active≤x→s'.now x=if (x:Int)<c.active+2+c.roots then (b.act::b.used::b.rts).getD (x - c.active.toNat) 0 else s.now x):s'.block c=(b,0):=by
 have hA:=ga hc
 have hf:=gE hc (k:=0) (by omega)
 have hr:=hc.r1
 have hld:∀ k:Nat,(k:Int)<2+c.roots→s'.load (c.active+k)=(b.act::b.used::b.rts).getD k 0:=fun k hk=>by
  rw[ef (k:=c.active.toNat+k) (by omega) (by omega),h _ (by omega),if_pos (by omega)]
  congr 1;omega
 have h0:=hld 0 (by omega)
 have h1:=hld 1 (by omega)
 simp only[Int.ofNat_zero,Int.add_zero] at h0
 have hba:=hb.act;have hbu:=hb.used
 unfold Dev.block
 rw[show c.active+1=c.active+((1:Nat):Int) from rfl,h1,show s'.load c.active=b.act from by simpa using h0]
 have e1:(b.act::b.used::b.rts).getD 1 0=b.used:=rfl
 rw[e1,if_neg (by omega)]
 congr 1
 cases b with
 | mk a u r=>
   congr 1
   simp only at hl hld
   apply List.ext_getElem
   ·rw[bu];omega
   ·intro i h2 h3
    rw[bu] at h2
    have h4:=hld (i+2) (by omega)
    have h5:(tab c.roots.toNat fun i=>s'.load (c.root i))[i]=s'.load (c.root i):=by
     have:(tab c.roots.toNat fun i=>s'.load (c.root i))=(List.range c.roots.toNat).map fun (i:Nat)=>s'.load (c.root i):=rfl
     simp[this]
    rw[h5]
    simp only[Cfg.root]
    rw[show c.active+2+(i:Int)=c.active+((i+2:Nat):Int) by omega,h4]
    simp[List.getD_eq_getElem?_getD,List.getElem?_eq_getElem h3]
theorem GcH.lo0{c:Cfg}{b:Blk}{m0:Int→Int}{L:List Int}{lo hi:Int}(G:GcH c b m0 L lo hi):c.frm 0≤lo:=by
 have h1:=G.hb.act
 have hs1:=G.hc.s1
 have h5:=dU (n:=c.space) (by omega)
 rw[G.lo_]
 rcases (by omega:b.act=0∨b.act=1) with e | e
 ·rw[e];simp[Cfg.frm];omega
 ·rw[e];simp
theorem kA.lim{α:Type}{m:Out α}{ok:α→Dev→Prop}{J:Dev→Prop}(h:kA m ok (r8 J))(hl:∀ s,J s→s.pow.lim<0):∃ a s,m= .ok a s∧ok a s:=by
 cases m with
 | ok a s=>exact⟨a,s,rfl,h⟩
 | off s=>
   have h1:=hl s h.1
   have h2:=h.2
   unfold Pow.out at h2
   simp at h2;omega
structure HM(c:Cfg)(m:Int→Int)(a u:Int)(L:List Int):Prop where
 act:m c.active=a
 a01:0≤a∧a≤1
 used:m (c.active+1)=u
 u0:0≤u∧u≤c.space
 tile:gq m (c.frm a) L (c.frm a+u)
 names:∀ k∈L,∀ i,0≤i→i<orf m k→m (k+1+i)=0∨m (k+1+i)∈L
 roots:∀ i:Nat,(i:Int)<c.roots→m (c.root i)=0∨m (c.root i)∈L
abbrev fu(c:Cfg)(m:Int→Int)(a u:Int):Blk:=⟨a,u,tab c.roots.toNat fun i=>m (c.root i)⟩
theorem HM.block{c:Cfg}{s:Dev}{a u:Int}{L:List Int}(h:HM c s.load a u L):s.block c=(fu c s.load a u,0):=by
 have h1:=h.u0;have h2:=h.a01
 unfold Dev.block
 rw[h.act,h.used,if_neg (by omega)]
theorem HM.heap{c:Cfg}{m:Int→Int}{a u:Int}{L:List Int}(h:HM c m a u L):kD c (fu c m a u) m L:=by
 refine⟨by unfold Blk.place;simp only;rw[Int.add_zero];exact h.tile,h.names,fun w hw=> ?_⟩
 obtain⟨i,hi,rfl⟩:=List.mem_map.1 (show w∈(List.range c.roots.toNat).map fun (i:Nat)=>m (c.root i) from hw)
 have:=List.mem_range.1 hi
 exact h.roots i (by omega)
theorem HM.bw{c:Cfg}{m:Int→Int}{a u:Int}{L:List Int}(h:HM c m a u L):fg c (fu c m a u):=⟨h.a01,h.u0⟩
theorem E4{c:Cfg}{s:Dev}{b:Blk}{L:List Int}(hbw:fg c b)(hb:s.block c=(b,0))(h:kD c b s.load L):HM c s.load b.act b.used L:=by
 unfold Dev.block at hb
 split at hb
 ·cases hb
 ·rename_i hne
  cases hb
  refine⟨rfl,hbw.act,rfl,hbw.used,?_,h.names,fun i hi=>h.roots _ ?_⟩
  ·have h1:=h.tile
   unfold Blk.place at h1
   simp only[Int.add_zero] at h1
   exact h1
  ·show s.load (c.root i)∈tab c.roots.toNat fun i=>s.load (c.root i)
   exact List.mem_map.2 ⟨i,List.mem_range.2 (by omega),rfl⟩
theorem jq{c:Cfg}(hc:bC c){a:Int}(ha:0≤a∧a≤1):c.frm a+c.space≤c.words∧c.active+2+c.roots≤c.frm a∧24≤c.active∧c.frm a+c.space≤20000:=by
 have h1:=gE hc (k:=0) (by omega)
 have h2:=gE hc (k:=1) (by omega)
 have h3:=hc.act;have h4:=hc.l1;have h5:=hc.r1;have h6:=hc.s1
 rcases (by omega:a=0∨a=1) with rfl | rfl<;>omega
theorem HM.congr{c:Cfg}(hc:bC c){m m':Int→Int}{a u:Int}{L:List Int}(h:HM c m a u L)(e:∀ j,c.active≤j→m' j=m j):HM c m' a u L:=by
 have hf:=jq hc h.a01
 have hr:=hc.r1
 have e0:∀ k∈L,m' k=m k:=fun k hk=>e k (by have:=h.tile.mem hk;omega)
 have eo:∀ k∈L,orf m' k=orf m k:=fun k hk=>by unfold orf;rw[e0 k hk]
 refine⟨by rw[e _ (Int.le_refl _)];exact h.act,h.a01,by rw[e _ (by omega)];exact h.used,h.u0,h.tile.congr e0,fun k hk i h1 h2=> ?_,fun i hi=> ?_⟩
 ·have:=h.tile.mem hk
  rw[eo k hk] at h2
  rw[e _ (by omega)];exact h.names k hk i h1 h2
 ·rw[e _ (by simp only[Cfg.root];omega)];exact h.roots i hi
theorem HM.alloc{c:Cfg}(hc:bC c){m m':Int→Int}{a u:Int}{L:List Int}(h:HM c m a u L){w r:Int}(hw:0≤r∧r≤w∧w≤64)(hroom:¬ c.space - u<w+1)
 (hm:∀ j,c.active≤j→m' j=if c.frm a+u≤j∧j<c.frm a+u+(w+1) then (if j=c.frm a+u then eR w r else 0) else if j=c.active+1 then u+(w+1) else m j):HM c m' a (u+(w+1)) (L++[c.frm a+u]):=by
 have hf:=jq hc h.a01
 have hu:=h.u0
 have hr1:=hc.r1
 have hold:∀ k∈L,∀ j,0≤j→j<osz m k→m' (k+j)=m (k+j):=fun k hk j h0 h1=>by
  have:=h.tile.mem hk
  rw[hm _ (by omega),if_neg (by omega),if_neg (by omega)]
 have hold0:∀ k∈L,m' k=m k:=fun k hk=>by
  have:=hold k hk 0 (Int.le_refl 0) (by have:=cu m k;omega)
  simpa using this
 have hnew:m' (c.frm a+u)=eR w r:=by rw[hm _ (by omega),if_pos (by omega),if_pos rfl]
 have hun:unp (m' (c.frm a+u))=(w,r,true):=by rw[hnew];exact uQ hw
 refine⟨by rw[hm _ (Int.le_refl _),if_neg (by omega),if_neg (by omega)];exact h.act,h.a01,by rw[hm _ (by omega),if_neg (by omega),if_pos aa],by omega,?_,fun k hk i h0 h1=> ?_,fun i hi=> ?_⟩
 ·have h1:=(h.tile.congr hold0).snoc (by rw[hun])
  have h2:osz m' (c.frm a+u)=w+1:=by unfold osz;rw[hun]
  rw[h2,Int.add_assoc] at h1
  exact h1
 ·rcases List.mem_append.1 hk with hk | hk
  ·have e:orf m' k=orf m k:=by unfold orf;rw[hold0 k hk]
   rw[e] at h1
   have hz:=cu m k
   have:=hold k hk (1+i) (by omega) (by omega)
   rw[←Int.add_assoc] at this
   rw[this]
   exact(h.names k hk i h0 h1).imp id (List.mem_append_left _)
  ·rw[List.mem_singleton.1 hk] at h1 ⊢
   have:orf m' (c.frm a+u)=r:=by unfold orf;rw[hun]
   rw[this] at h1
   left
   rw[hm _ (by omega),if_pos (by omega),if_neg (by omega)]
 ·have:m' (c.root i)=m (c.root i):=by
   simp only[Cfg.root]
   rw[hm _ (by omega),if_neg (by omega),if_neg (by omega)]
  rw[this]
  exact(h.roots i hi).imp id (List.mem_append_left _)
theorem HM.set{c:Cfg}(hc:bC c){m m':Int→Int}{a u:Int}{L:List Int}(h:HM c m a u L){i v:Int}(hm:∀ j,c.active≤j→m' j=if j=i then v else m j)
 (hi:(∃ k∈L,∃ j,orf m k≤j∧j+1<osz m k∧i=k+1+j)∨((v=0∨v∈L)∧((∃ k∈L,∃ j,0≤j∧j<orf m k∧i=k+1+j)∨∃ r:Nat,(r:Int)<c.roots∧i=c.root r))):HM c m' a u L:=by
 have hf:=jq hc h.a01
 have hu:=h.u0
 have hr1:=hc.r1
 have hin:(∃ k∈L,∃ j,0≤j∧j+1<osz m k∧i=k+1+j)∨∃ r:Nat,(r:Int)<c.roots∧i=c.root r:=by
  rcases hi with ⟨k,hk,j,h1,h2,h3⟩ | ⟨_,⟨k,hk,j,h1,h2,h3⟩ | hr⟩
  ·exact .inl ⟨k,hk,j,by have:=cu m k;omega,h2,h3⟩
  ·exact .inl ⟨k,hk,j,h1,by have:=cu m k;omega,h3⟩
  ·exact .inr hr
 have hnh:∀ k∈L,k≠i:=fun k hk e=>by
  have h1:=h.tile.mem hk
  rcases hin with ⟨k',hk',j,h2,h3,h4⟩ | ⟨r,h2,h3⟩
  ·rcases Int.lt_trichotomy k k' with hl | he | hl
   ·omega
   ·omega
   ·have:=h.tile.disj hk' hk hl;omega
  ·simp only[Cfg.root] at h3;omega
 have hlow:c.active+2≤i:=by
  rcases hin with ⟨k',hk',j,h2,h3,h4⟩ | ⟨r,h2,h3⟩
  ·have h1:=h.tile.mem hk';omega
  ·simp only[Cfg.root] at h3;omega
 have hLa:∀ k∈L,c.active≤k:=fun k hk=>by have:=h.tile.mem hk;omega
 have e0:∀ k∈L,m' k=m k:=fun k hk=>by rw[hm k (hLa k hk),if_neg (hnh k hk)]
 have eo:∀ k∈L,orf m' k=orf m k:=fun k hk=>by unfold orf;rw[e0 k hk]
 refine⟨by rw[hm _ (Int.le_refl _),if_neg (by omega)];exact h.act,h.a01,by rw[hm _ (by omega),if_neg (by omega)];exact h.used,h.u0,h.tile.congr e0,fun k hk j h1 h2=> ?_,fun r hr=> ?_⟩
 ·rw[eo k hk] at h2
  have hka:=hLa k hk
  rw[hm _ (by omega)]
  by_cases hx:k+1+j=i
  ·rw[if_pos hx]
   rcases hi with ⟨k',hk',j',g1,g2,g3⟩ | ⟨hv,_⟩
   ·exfalso
    have hz:=cu m k;have hz':=cu m k'
    rcases Int.lt_trichotomy k k' with hl | he | hl
    ·have:=h.tile.disj hk hk' hl;omega
    ·subst he;omega
    ·have:=h.tile.disj hk' hk hl;omega
   ·exact hv
  ·rw[if_neg hx];exact h.names k hk j h1 h2
 ·rw[hm _ (by simp only[Cfg.root];omega)]
  by_cases hx:c.root r=i
  ·rw[if_pos hx]
   rcases hi with ⟨k',hk',j',g1,g2,g3⟩ | ⟨hv,_⟩
   ·exfalso
    have h1:=h.tile.mem hk'
    have hz':=cu m k'
    simp only[Cfg.root] at hx;omega
   ·exact hv
  ·rw[if_neg hx];exact h.roots r hr
theorem xi{kp:Prop}{c:Cfg}{N:Nat}{old:Nat→Int}{js:List Nat}{S:bG}{s:Dev}(h:In kp c N old js S s)(hc:bC c){i:Nat}(v:Int)(hi:c.active≤i∧i<N)(hv:0≤v∧v<18446744073709551616)(hu:U64 s)(hr:(S.ff≤i∧(i:Int)<S.ft)∨i∈js∨(js.length:Int)<c.log):
 ∃ S' s' js',S.store s i v= .ok (0,S') s'∧In kp c N old js' S' s'∧U64 s'∧(S'.ff=S.ff∧S'.ft=S.ft∧S'.L.d=S.L.d∧S'.L.c=S.L.c)∧(js'=js∨(js'=js++[i]∧¬ (S.ff≤i∧(i:Int)<S.ft)))∧∀ j:Int,c.active≤j→s'.load j=if j=i then v else s.load j:=by
 have hA:=ga hc
 have hN:=h.hN
 have hn:=h.n
 have hsw:=uh h hc (by omega)
 have ldf:∀ s':Dev,s'.n=N→s'.now i=v→(∀ x:Nat,c.active≤x→x≠i→s'.now x=s.now x)→∀ j:Int,c.active≤j→s'.load j=if j=i then v else s.load j:=fun s' hn' h1 h2 j hj=>by
  by_cases hr:j<N
  ·rw[ef (s:=s') (k:=j.toNat) (by omega) (by omega),ef (s:=s) (k:=j.toNat) (by omega) (by omega)]
   by_cases e:j=i
   ·rw[if_pos e,show j.toNat=i by omega];exact h1
   ·rw[if_neg e];exact h2 _ (by omega) (by omega)
  ·have z:∀ t:Dev,t.n=N→t.load j=0:=fun t ht=>by
    unfold Dev.load Dev.has
    rw[if_neg (by simp;omega)]
   rw[z s' hn',z s hn,if_neg (by omega)]
 by_cases hno:i∈js∨(S.ff≤i∧(i:Int)<S.ft)
 ·obtain⟨e1,e2⟩:=re h hc v hi hno
  have hu':=(gZ hsw hu (by omega) hv e1).1
  refine⟨_,_,js,e1,e2,hu',⟨rfl,rfl,rfl,rfl⟩,.inl aa,ldf _ e2.n ?_ fun x _ hx=> ?_⟩
  ·rw[dx];unfold upd;rw[if_pos rfl]
  ·rw[dx];unfold upd;rw[if_neg hx]
 ·have hroom:(js.length:Int)<c.log:=by
   rcases hr with hr | hr | hr
   ·exact absurd (.inr hr) hno
   ·exact absurd (.inl hr) hno
   ·exact hr
  obtain⟨s',e1,e2,e3,e4⟩:=rb h hc v hi (fun hx=>hno (.inl hx)) (fun hx=>hno (.inr hx)) hroom
  have hu':=(gZ hsw hu (by omega) hv e1).1
  exact⟨_,s',_,e1,e2,hu',⟨rfl,rfl,rfl,rfl⟩,.inr ⟨rfl,fun hx=>hno (.inr hx)⟩,ldf s' e2.n e3 e4⟩
theorem yB{kp:Prop}{c:Cfg}{N:Nat}{old:Nat→Int}{js:List Nat}(hc:bC c){a h0:Int}(hh:0≤h0∧h0<18446744073709551616):∀ (f:Nat) (i:Int) (S:bG) (s:Dev),In kp c N old js S s→U64 s→0≤i→c.active≤a→a+i+f≤N→S.ff≤a→a+i+f≤S.ft→
 ∃ S' s',f9 ey a h0 f i s S= .ok ((a,0),S') s'∧In kp c N old js S' s'∧U64 s'∧(S'.ff=S.ff∧S'.ft=S.ft∧S'.L.d=S.L.d∧S'.L.c=S.L.c)∧∀ j:Int,c.active≤j→s'.load j=if a+i≤j∧j<a+i+f then (if j=a then h0 else 0) else s.load j
 | 0,i,S,s,h,hu,hi,ha,hf,_,_=>⟨S,s,rfl,h,hu,⟨rfl,rfl,rfl,rfl⟩,fun j _=>by rw[if_neg (by omega)]⟩
 | f+1,i,S,s,h,hu,hi,ha,hf,h1,h2=>by
   have hA:=ga hc
   obtain⟨v,hvd⟩:∃ v,v=if i=0 then h0 else 0:=⟨_,rfl⟩
   have hv:0≤v∧v<18446744073709551616:=by rw[hvd];split<;>first | exact hh | decide
   obtain⟨S1,s1,js1,e1,e2,e3,e4,e5,e6⟩:=xi h hc (i:=(a+i).toNat) v (by omega) hv hu (.inl (by omega))
   have hjs:js1=js:=by
    rcases e5 with e5 | ⟨_,e5⟩
    ·exact e5
    ·exact absurd (show S.ff≤((a+i).toNat:Int)∧((a+i).toNat:Int)<S.ft by omega) e5
   subst hjs
   obtain⟨S',s',g1,g2,g3,g4,g5⟩:=yB hc hh f (i+1) S1 s1 e2 e3 (by omega) ha (by omega) (by rw[e4.1];exact h1) (by rw[e4.2.1];omega)
   refine⟨S',s',?_,g2,g3,⟨g4.1.trans e4.1,g4.2.1.trans e4.2.1,g4.2.2.1.trans e4.2.2.1,g4.2.2.2.trans e4.2.2.2⟩,fun j hj=> ?_⟩
   ·unfold f9
    rw[←hvd,show ey (a+i) v s S= .ok (0,S1) s1 from by rw[show(a+i)=(((a+i).toNat:Nat):Int) by omega];exact e1]
    simp only[aX]
    rw[if_neg (by decide)]
    exact g1
   ·rw[g5 j hj]
    by_cases hj2:j=a+i
    ·rw[if_neg (by omega),e6 j hj,if_pos (by omega),if_pos (by omega),hvd]
     by_cases h0:i=0
     ·rw[if_pos h0,if_pos (by omega)]
     ·rw[if_neg h0,if_neg (by omega)]
    ·by_cases hr:a+(i+1)≤j∧j<a+(i+1)+f
     ·rw[if_pos hr,if_pos (c:=a+i≤j∧j<a+i+((f+1:Nat):Int)) (by omega)]
     ·rw[if_neg hr,if_neg (c:=a+i≤j∧j<a+i+((f+1:Nat):Int)) (by omega),e6 j hj,if_neg (by omega)]
theorem Bm{kp:Prop}{c:Cfg}(hc:bC c){N:Nat}{old:Nat→Int}{js:List Nat}{S:bG}{s:Dev}(h:In kp c N old js S s)(hu:U64 s){a u:Int}{L:List Int}(hm:HM c s.load a u L){w r:Int}(hw:0≤r∧r≤w∧w≤64)(hroom:¬ c.space - u<w+1)(hff:S.ff≤c.frm a+u)(hft:S.ft=c.frm a+c.space)(hff2:c.frm a≤S.ff)
 (hr:(c.active+1).toNat∈js∨(js.length:Int)<c.log):
 ∃ S' s' js',db ey c w r s S= .ok ((c.frm a+u,0),S') s'∧In kp c N old js' S' s'∧U64 s'∧(S'.ff=S.ff∧S'.ft=S.ft∧S'.L.d=S.L.d∧S'.L.c=S.L.c)∧js'.length≤js.length+1∧(js'=js∨js'=js++[(c.active+1).toNat])∧HM c s'.load a (u+(w+1)) (L++[c.frm a+u])∧
  ∀ j,c.active≤j→s'.load j=if c.frm a+u≤j∧j<c.frm a+u+(w+1) then (if j=c.frm a+u then eR w r else 0) else if j=c.active+1 then u+(w+1) else s.load j:=by
 have hA:=ga hc
 have hf:=jq hc hm.a01
 have hu0:=hm.u0
 have hr1:=hc.r1
 have hN:=h.hN
 obtain⟨S1,s1,js1,e1,e2,e3,e4,e5,e6⟩:=xi h hc (i:=(c.active+1).toNat) (u+(w+1)) (by omega) (by omega) hu (.inr hr)
 obtain⟨S',s',g1,g2,g3,g4,g5⟩:=yB hc (a:=c.frm a+u) (ua w r) (w+1).toNat 0 S1 s1 e2 e3 (Int.le_refl 0) (by omega) (by omega) (by rw[e4.1];omega) (by rw[e4.2.1];omega)
 have hld:∀ j,c.active≤j→s'.load j=if c.frm a+u≤j∧j<c.frm a+u+(w+1) then (if j=c.frm a+u then eR w r else 0) else if j=c.active+1 then u+(w+1) else s.load j:=fun j hj=>by
  rw[g5 j hj,e6 j hj]
  by_cases hj2:c.frm a+u≤j∧j<c.frm a+u+(w+1)
  ·rw[if_pos hj2,if_pos (by omega)]
  ·rw[if_neg hj2,if_neg (by omega)]
   by_cases e:j=c.active+1
   ·rw[if_pos e,if_pos (by omega)]
   ·rw[if_neg e,if_neg (by omega)]
 refine⟨S',s',js1,?_,g2,g3,⟨g4.1.trans e4.1,g4.2.1.trans e4.2.1,g4.2.2.1.trans e4.2.2.1,g4.2.2.2.trans e4.2.2.2⟩,?_,e5.imp id And.left,hm.alloc hc hw hroom hld,hld⟩
 ·have hk:lA w r=0:=by unfold lA;rw[if_pos (by omega)]
  unfold db
  rw[if_neg (by rw[hk];decide),hm.block,if_neg (by simp)]
  simp only
  rw[if_neg hroom,show ey (c.active+1) (u+(w+1)) s S= .ok (0,S1) s1 from by rw[show(c.active+1)=(((c.active+1).toNat:Nat):Int) by omega];exact e1]
  simp only[aX]
  rw[if_neg (by decide)]
  exact g1
 ·rcases e5 with e5 | ⟨e5,_⟩<;>rw[e5]<;>simp
theorem gq.len{m:Int→Int}:∀ {L:List Int} {a e:Int},gq m a L e→(L.length:Int)≤e - a
 | [],a,e,h=>by cases h;simp
 | x::t,a,e,h=>by have:=h.2.2.len;have:=cu m a;simp only[List.length_cons];omega
section
variable {c:Cfg} {b:Blk} {L:List Int} {s:Dev}
def CZ(s:Dev)(k:Int):du:=(osz s.load k - 1,orf s.load k,k)
theorem sW(hc:bC c)(hb:fg c b)(h:kD c b s.load L):∀ (t:List Int) (a:Int) (f:Nat),gq s.load a t (b.place c b.used)→(∀ k∈t,k∈L)→t.length<f→s.objs c b f a=t.map fun k=>(CZ s k,0)
 | [],a,f+1,ht,_,_=>by
   unfold Dev.objs
   rw[if_pos (by rw[show a=b.place c b.used from ht];exact Int.le_refl _)];rfl
 | k::t,a,f+1,ht,hl,hf=>by
   obtain⟨rfl,h2,h3⟩:=ht
   have hz:=cu s.load k
   have hle:=h3.le
   have ho:=(mh hc hb h (hl k (List.mem_cons_self ..))).1
   simp only[List.length_cons] at hf
   unfold Dev.objs
   rw[if_neg (by omega),ho,if_neg (by simp)]
   simp only[List.map_cons]
   rw[show k+(osz s.load k - 1+1)=k+osz s.load k by omega,sW hc hb h t _ f h3 (fun x hx=>hl x (List.mem_cons_of_mem _ hx)) (by omega)]
   rfl
 | _,_,0,_,_,hf=>absurd hf (Nat.not_lt_zero _)
theorem tq(hc:bC c)(hb:fg c b)(h:kD c b s.load L):s.objs c b (b.used.toNat+1) (b.place c 0)=L.map fun k=>(CZ s k,0):=by
 have h1:=h.tile.len
 have h2:=hb.used
 exact sW hc hb h L _ _ h.tile (fun _ h=>h) (by unfold Blk.place at h1;omega)
theorem ug{α ι:Type}{st:α→ι→Bool×ι}{g:ι→α→ι}:∀ (l:List α) (x:ι),(∀ a∈l,∀ x,st a x=(true,g x a))→itl st l x=(true,l.foldl g x)
 | [],x,_=>rfl
 | a::t,x,h=>by
   have e:=h a (List.mem_cons_self ..) x
   unfold itl
   rw[if_pos (by rw[e]),e]
   exact ug t _ fun b hb=>h b (List.mem_cons_of_mem _ hb)
theorem tA{β:Type}(f:Int→β):∀ (l:List Int) (x:List (Int×β)×Int) (k:Int),(k∈l∨(bi x.1 k).isSome=true)→(bi (l.foldl (fun y k=>(mset y.1 k (f k),y.2)) x).1 k).isSome=true
 | [],x,k,h=>h.resolve_left (by simp)
 | a::t,x,k,h=>by
   refine tA f t _ k ?_
   by_cases e:k=a
   ·right;simp only;rw[fL,if_pos e];rfl
   ·rcases h with h | h
    ·exact .inl ((List.mem_cons.1 h).resolve_left e)
    ·right;simp only;rw[fL,if_neg e];exact h
theorem vQ{β:Type}(f:Int→β):∀ (l:List Int) (x:List (Int×β)×Int),(l.foldl (fun y k=>(mset y.1 k (f k),y.2)) x).2=x.2
 | [],_=>rfl
 | a::t,x=>vQ f t _
theorem vF(hc:bC c)(hb:fg c b)(h:kD c b s.load L):(s.starts c b).2=0∧∀ k∈L,(bi (s.starts c b).1 k).isSome=true:=by
 have e:s.starts c b=L.foldl (fun y k=>(mset y.1 k (CZ s k),y.2)) ([],0):=by
  unfold Dev.starts Dev.startsI
  rw[tq hc hb h,ug (g:=fun y (p:du×Int)=>(mset y.1 p.1.2.2 p.1,y.2)) _ _ (fun p hp x=>by
   obtain⟨k,_,rfl⟩:=List.mem_map.1 hp
   unfold stS
   rw[if_neg (by simp)]),List.foldl_map]
  rfl
 rw[e]
 exact⟨vQ _ _ _,fun k hk=>tA _ _ _ _ (.inl hk)⟩
theorem rk(hc:bC c)(hu:U64 s)(hbl:s.block c=(b,0))(h:kD c b s.load L):s.check c=0:=by
 have hb0:b=(s.block c).1:=by rw[hbl]
 have hb:fg c b:=by rw[hb0];exact dM hc hu
 obtain⟨h1,h2⟩:=vF hc hb h
 have hn:∀ v,v=0∨v∈L→dS c b (s.starts c b).1 v=true:=fun v hv=>by
  unfold dS
  rcases hv with rfl | hv
  ·simp
  ·rw[(mh hc hb h hv).2,h2 v hv];simp
 unfold Dev.check
 rw[hbl]
 simp only
 rw[if_neg (by simp),if_neg (by rw[h1];simp),if_pos]
 ·rw[tq hc hb h,ug (g:=fun y _=>y)]
  ·have:∀ (l:List (du×Int)) (x:Int),l.foldl (fun y _=>y) x=x:=fun l=>by
    induction l with
    | nil=>intro x;rfl
    | cons a t ih=>intro x;exact ih x
   rw[this]
  ·intro p hp x
   obtain⟨k,hk,rfl⟩:=List.mem_map.1 hp
   unfold stC
   rw[if_pos]
   unfold ve
   rw[List.all_eq_true]
   intro j hj
   have:=List.mem_range.1 hj
   simp only[CZ] at this ⊢
   exact hn _ (h.names k hk j (by omega) (by omega))
 ·rw[List.all_eq_true]
  exact fun v hv=>hn v (h.roots v hv)
end
theorem jD{L:ce}{s:Dev}(h:L.n=0):L.undo s= .ok L s:=by
 unfold ce.undo
 rw[show L.n.toNat=0 by omega]
 simp[jV,ce.truncate,h,Out.then]
theorem AK{c:Cfg}(hc:bC c){s:Dev}(hn:(s.n:Int)=c.words)(h0:s.load 0=ig)(h1:s.load 1=c.log)(h2:s.load 2=c.roots)(h3:s.load 3=c.space):s.readC=(c,0):=by
 have l1:=hc.l1;have l2:=hc.l2;have r1:=hc.r1;have r2:=hc.r2;have s1:=hc.s1;have s2:=hc.s2
 have e:∀ x:Int,0≤x∧x≤4096→IntKind.i64.wrap x=x:=fun x hx=>gh (by omega)
 have e1:cO s 0=c.log:=by unfold cO;rw[show(1+((0:Nat):Int))=1 from rfl,h1];exact e _ (by omega)
 have e2:cO s 1=c.roots:=by unfold cO;rw[show(1+((1:Nat):Int))=2 from rfl,h2];exact e _ (by omega)
 have e3:cO s 2=c.space:=by unfold cO;rw[show(1+((2:Nat):Int))=3 from rfl,h3];exact e _ (by omega)
 have hcc:(⟨c.log,c.roots,c.space⟩:Cfg)=c:=rfl
 unfold Dev.readC
 rw[if_neg (by rw[h0];simp),if_neg (by omega),e1,e2,e3,hcc,if_neg (by rintro(h | h);exact h hc;exact h hn)]
theorem qQ{s t:Dev}(h:t.load=s.load)(c:Cfg)(e:Int):∀ f n,iE t c e f n=iE s c e f n
 | 0,_=>rfl
 | f+1,n=>by unfold iE;rw[h,qQ h c e f]
theorem w9{s t:Dev}(h:t.load=s.load)(d:Nat)(c:Cfg):cC d c t=cC d c s:=by unfold cC;rw[h,qQ h]
theorem yY(s:Dev)(pa:Nat):(cpD s pa).load=s.load:=by
 funext j
 unfold Dev.load Dev.has
 show(if (decide (0≤j)&&decide (j<(s.n:Int)))=true then (tab s.n s.now).getD j.toNat 0 else 0)=_
 split
 ·rename_i h
  simp only[Bool.and_eq_true,decide_eq_true_eq] at h
  have e:tab s.n s.now=(List.range s.n).map s.now:=rfl
  rw[e,List.getD_eq_getElem?_getD]
  simp[show j.toNat<s.n by omega]
 ·rfl
structure OkD(c:Cfg)(N:Nat)(s:Dev)(e:Int)(a u:Int)(L:List Int):Prop where
 n:s.n=N
 hN:(N:Int)=c.words
 uu:U64 s
 rc:s.readC=(c,0)
 lg:∀ d,cC d c s=⟨d,c,e,0⟩
 hm:HM c s.load a u L
theorem OkD.open_{c:Cfg}(hc:bC c){N:Nat}{s:Dev}{e a u:Int}{L:List Int}(h:OkD c N s e a u L){bd:Nat}{x:Int}(hx:vm bd s x):x=0:=by
 have e0:s.readC.2=0:=by rw[h.rc]
 have e1:s.readC.1=c:=by rw[h.rc]
 rcases hx with ⟨h1,_⟩ | ⟨_,h1,_⟩ | ⟨_,_,bc,pa,L1,t1,h2,h3⟩
 ·exact absurd e0 h1
 ·rw[e1,h.lg] at h1
  exact absurd h1 (show ¬ (0:Int)≤ -1 by decide)
 ·rw[e1,w9 (yY s pa),h.lg,jD rfl] at h2
  cases h2
  rw[h3,e1]
  have hm:HM c (cpD s pa).load a u L:=by rw[yY];exact h.hm
  exact rk hc (DS h.uu pa) hm.block hm.heap
theorem OkD.undo{c:Cfg}{N:Nat}{s:Dev}{e a u:Int}{L:List Int}(h:OkD c N s e a u L){bd:Nat}{L':ce}{s':Dev}(hx:(cC bd s.readC.1 s).undo s= .ok L' s'):s'=s:=by
 rw[show s.readC.1=c by rw[h.rc],h.lg,jD rfl] at hx
 cases hx;rfl
theorem OkD.noff{c:Cfg}{N:Nat}{s:Dev}{e a u:Int}{L:List Int}(h:OkD c N s e a u L){bd:Nat}{s':Dev}(hx:(cC bd s.readC.1 s).undo s= .off s'):False:=by
 rw[show s.readC.1=c by rw[h.rc],h.lg,jD rfl] at hx
 cases hx
structure HC(kp:Prop)(c:Cfg)(N bd:Nat)(h:HpS)(s:Dev)(a u:Int)(L:List Int):Prop where
 hbd:h.bd=bd
 hcc:h.c=c
 ho:h.o=false
 sk:SK c N bd h.S s
 hm:HM c s.load a u L
 rc:s.readC=(c,0)
 hw:dl h s
 hkp:kp→s.kept=s.now
theorem C0{c:Cfg}(hc:bC c){N:Nat}{s:Dev}{e a u:Int}{L:List Int}(h:OkD c N s e a u L)(hs:jT s)(he:0≤e∧e<4294967296)(hsh:s.now 8=e∧s.now 16≠gY e 0)(bd:Nat){kp:Prop}(hk:kp→s.kept=s.now):HC kp c N bd (ik bd c s) s a u L:=by
 have hA:=ga hc
 have hN:=h.hN
 have hlog:0≤c.log:=by have:=hc.l1;have:=hc.r1;omega
 have hlw:dZ ⟨bd,c,e,0⟩:=⟨hc,he.1,he.2,Int.le_refl _,hlog⟩
 have hS:(ik bd c s).S=⟨⟨bd,c,e,0⟩,0,0,[],[]⟩:=by unfold ik;rw[h.lg]
 have hsk:SK c N bd (ik bd c s).S s:=by
  rw[hS]
  exact⟨hs,h.uu,h.n,h.hN,rfl,hlw,rfl,rfl,hsh⟩
 refine⟨rfl,rfl,rfl,hsk,h.hm,h.rc,⟨hc,hsk.secK hc,fun x=>(by cases x),h.uu,⟨Int.le_refl _,by show(0:Int)≤1000000000;decide⟩,Nat.zero_le _,fun p hp=>(by cases hp),fun X hX=>(by cases hX)⟩,hk⟩
theorem Fmt.okd{c:Cfg}(hc:bC c){N:Nat}{s:Dev}(h:Fmt c N s)(hN:(N:Int)=c.words)(hu:U64 s):OkD c N s 1 0 0 []:=by
 have hA:=ga hc
 have hld:∀ k:Nat,k<24→s.load k=s.now k:=fun k hk=>ef rfl (by rw[h.n];omega)
 have hF:=Ez hc hN h hu
 refine⟨h.n,hN,hu,AK hc (by rw[h.n];exact hN) ?_ ?_ ?_ ?_,h.log,⟨hF.act,by omega,hF.used,hF.u0,hF.tile,hF.names,hF.roots⟩⟩
 ·rw[show(0:Int)=((0:Nat):Int) from rfl,hld 0 (by omega)];exact h.st.magic
 ·rw[show(1:Int)=((1:Nat):Int) from rfl,hld 1 (by omega)];exact h.st.cfg.1
 ·rw[show(2:Int)=((2:Nat):Int) from rfl,hld 2 (by omega)];exact h.st.cfg.2.1
 ·rw[show(3:Int)=((3:Nat):Int) from rfl,hld 3 (by omega)];exact h.st.cfg.2.2
theorem Fmt.hc{c:Cfg}(hc:bC c){N:Nat}{s:Dev}(h:Fmt c N s)(hN:(N:Int)=c.words)(hu:U64 s)(bd:Nat):HC True c N bd (ik bd c s) s 0 0 []:=
 C0 hc (h.okd hc hN hu) ⟨h.lim,h.calm.q⟩ ⟨by decide,by decide⟩ ⟨h.ep.1,by rw[h.ep.2];decide⟩ bd fun _=>h.calm.kept
structure K8(s s':Dev):Prop where
 n:s'.n=s.n
 now:∀ x:Nat,x<8→s'.now x=s.now x
theorem K8.refl{s:Dev}:K8 s s:=⟨rfl,fun _ _=>rfl⟩
theorem K8.trans{s s' s'':Dev}(h:K8 s s')(g:K8 s' s''):K8 s s'':=⟨g.n.trans h.n,fun x hx=>(g.now x hx).trans (h.now x hx)⟩
theorem km{s s':Dev}{i v a:Int}(hi:8≤i)(e:s.store i v= .ok a s'):K8 s s':=by
 unfold Dev.store at e
 split at e
 ·cases e;exact .refl
 ·split at e
  ·cases e
  ·cases e
   exact⟨rfl,fun x hx=>by show upd s.now i.toNat v x=_;unfold upd;rw[if_neg (by omega)]⟩
theorem nC{s s':Dev}{i a:Int}(e:s.flush i= .ok a s'):K8 s s':=by
 unfold Dev.flush at e
 split at e
 ·cases e;exact .refl
 ·split at e
  ·cases e
  ·cases e;exact⟨rfl,fun _ _=>rfl⟩
theorem nD{s s':Dev}{a:Unit}(e:s.fence= .ok a s'):K8 s s':=by
 unfold Dev.fence at e
 split at e
 ·cases e
 ·cases e;exact⟨rfl,fun _ _=>rfl⟩
theorem zH{L:ce}{s s':Dev}{i:Int}{r:Int×ce}(hL:dZ L)(e:L.append s i= .ok r s'):K8 s s':=by
 unfold ce.append at e
 split at e
 ·cases e;exact .refl
 split at e
 ·cases e;exact .refl
 have hr:16≤L.c.record L.n:=by have:=hL.n1;simp only[Cfg.record];omega
 obtain⟨_,s1,e1,e⟩:=aM e
 obtain⟨_,s2,e2,e⟩:=aM e
 obtain⟨_,s3,e3,e⟩:=aM e
 obtain⟨_,s4,e4,e⟩:=aM e
 obtain⟨_,s5,e5,e⟩:=aM e
 obtain⟨_,s6,e6,e⟩:=aM e
 obtain⟨_,s7,e7,e⟩:=aM e
 cases e
 exact((((((km (by omega) e1).trans (km (by omega) e2)).trans (nC e3)).trans (nD e4)).trans (km (by omega) e5)).trans (nC e6)).trans (nD e7)
theorem ja{S:bG}{s s':Dev}{i v:Int}{r:Int×bG}(hL:dZ S.L)(e:S.store s i v= .ok r s'):K8 s s':=by
 have hA:=ga hL.c
 unfold bG.store at e
 split at e
 ·cases e;exact .refl
 rename_i hi
 split at e
 ·obtain⟨x,t,e1,e⟩:=aM e
  have h1:=zH hL e1
  split at e
  ·cases e;exact h1
  ·obtain⟨y,u,e2,e⟩:=aM e
   cases e;exact h1.trans (km (by omega) e2)
 ·obtain⟨y,u,e2,e⟩:=aM e
  cases e;exact km (by omega) e2
theorem yy{a h0:Int}:∀ (f:Nat) (i:Int) (S:bG) (s:Dev) (r:(Int×Int)×bG) (s':Dev),dZ S.L→f9 ey a h0 f i s S= .ok r s'→K8 s s'
 | 0,i,S,s,r,s',_,e=>by cases e;exact .refl
 | f+1,i,S,s,r,s',hL,e=>by
   unfold f9 at e
   obtain⟨⟨x,S1⟩,s1,e1,e⟩:=aM e
   have h1:=ja hL e1
   split at e
   ·cases e;exact h1
   ·exact h1.trans (yy f _ _ _ _ _ (kc hL e1) e)
theorem Bf{c:Cfg}{w r:Int}{S:bG}{s:Dev}{x:(Int×Int)×bG}{s':Dev}(hL:dZ S.L)(e:db ey c w r s S= .ok x s'):K8 s s':=by
 unfold db at e
 split at e
 ·cases e;exact .refl
 split at e
 ·cases e;exact .refl
 split at e
 ·cases e;exact .refl
 ·obtain⟨⟨y,S1⟩,s1,e1,e⟩:=aM e
  have h1:=ja hL e1
  split at e
  ·cases e;exact h1
  ·exact h1.trans (yy _ _ _ _ _ _ (kc hL e1) e)
theorem K8.readC{c:Cfg}(hc:bC c){s s':Dev}(h:K8 s s')(hn:(s.n:Int)=c.words)(hr:s.readC=(c,0)):s'.readC=(c,0):=by
 have hA:=ga hc
 have hl:∀ k:Nat,k<8→s'.load k=s.load k:=fun k hk=>by
  rw[ef (k:=k) rfl (by rw[h.n];omega),ef (k:=k) rfl (by omega)];exact h.now k hk
 have hw:∀ k:Nat,k<3→cO s' k=cO s k:=fun k hk=>by
  have:=hl (1+k) (by omega)
  unfold cO
  rw[show(1+(k:Int))=((1+k:Nat):Int) by omega,this]
 have k0:s'.load 0=s.load 0:=hl 0 (by omega)
 have k1:s'.load 1=s.load 1:=hl 1 (by omega)
 have k2:s'.load 2=s.load 2:=hl 2 (by omega)
 have k3:s'.load 3=s.load 3:=hl 3 (by omega)
 rw[←hr]
 unfold Dev.readC
 rw[h.n,k0,k1,k2,k3,hw 0 (by omega),hw 1 (by omega),hw 2 (by omega)]
theorem D6{T:cX}{k:Int}(h1:0≤T.last∧T.last+1≤1000000000)(h2:T.at_.length+1≤800000)(h3:∀ p∈T.at_,0≤p.2∧p.2≤1000000)(hk:0≤k∧k≤1000000):
 (0≤(T.take k).2.last∧(T.take k).2.last≤1000000000)∧(T.take k).2.at_.length≤800000∧(∀ p∈(T.take k).2.at_,0≤p.2∧p.2≤1000000):=by
 unfold cX.take
 split
 ·exact⟨by simp only;omega,by simp only;omega,h3⟩
 split
 ·exact⟨by simp only;omega,by simp only;omega,h3⟩
 ·refine⟨by simp only;omega,?_,fun p hp=> ?_⟩
  ·have:=qX T.at_ (T.last+1) k
   simp only;omega
  ·rcases xb hp with e | e
   ·rw[e];exact hk
   ·exact h3 p e
structure HO(kp:Prop)(c:Cfg)(N bd:Nat)(old:Nat→Int)(js:List Nat)(h:HpS)(s:Dev)(a u u0:Int)(L:List Int):Prop where
 hbd:h.bd=bd
 hcc:h.c=c
 ho:h.o=true
 ss:In kp c N old js h.S s
 dd:h.S.L.d=bd
 hm:HM c s.load a u L
 rc:s.readC=(c,0)
 hw:dl h s
 ff:h.S.ff=c.frm a+u0
 ft:h.S.ft=c.frm a+c.space
 ule:0≤u0∧u0≤u
theorem mg{kp:Prop}{c:Cfg}(hc:bC c){N bd:Nat}{old:Nat→Int}{js:List Nat}{h:HpS}{s:Dev}(hcc:h.c=c)(hbd:h.bd=bd)(hi:In kp c N old js h.S s)(hd:h.S.L.d=bd)(hu:U64 s)(hx:h.X=none)(t1:0≤h.T.last∧h.T.last≤1000000000)(t2:h.T.at_.length≤800000)(t3:∀ p∈h.T.at_,0≤p.2∧p.2≤1000000):dl h s:=by
 have hA:=ga hc
 have hN:=hi.hN
 exact⟨by rw[hcc];exact hc,⟨hi.logw,by rw[hi.n];omega,by rw[hbd];exact hd,by rw[hcc];exact hi.hc⟩,fun _=>⟨uh hi hc (by omega),zX hi hc (by omega)⟩,hu,t1,t2,t3,fun X hX=>by rw[hx] at hX;cases hX⟩
theorem HC.blk{kp:Prop}{c:Cfg}{N bd:Nat}{h:HpS}{s:Dev}{a u:Int}{L:List Int}(H:HC kp c N bd h s a u L):h.blk s=fu c s.load a u:=by
 show(s.block h.c).1=_
 rw[H.hcc,H.hm.block]
theorem HO.blk{kp:Prop}{c:Cfg}{N bd:Nat}{old:Nat→Int}{js:List Nat}{h:HpS}{s:Dev}{a u u0:Int}{L:List Int}(H:HO kp c N bd old js h s a u u0 L):h.blk s=fu c s.load a u:=by
 show(s.block h.c).1=_
 rw[H.hcc,H.hm.block]
theorem HC.bok{kp:Prop}{c:Cfg}{N bd:Nat}{h:HpS}{s:Dev}{a u:Int}{L:List Int}(H:HC kp c N bd h s a u L):(s.block h.c).2=0:=by rw[H.hcc,H.hm.block]
theorem HC.begin{kp:Prop}{c:Cfg}(hc:bC c){N bd:Nat}{h:HpS}{s:Dev}{a u:Int}{L:List Int}(H:HC kp c N bd h s a u L){room:Int}(h0:0≤room)(hr:¬ c.space - u<room){x:Int}{h':HpS}{s':Dev}(hb:h.begR s room x h' s'):
 x=0∧s'=s∧h'.T=h.T∧HO kp c N bd s.now [] h' s a u u L:=by
 have hbl:=H.blk
 rcases hb with ⟨h1,_⟩ | ⟨_,h1,_⟩ | ⟨_,_,a1,h1,s1,hor,hor2⟩
 ·rw[H.ho] at h1;cases h1
 ·omega
 rcases hor with ⟨h2,_⟩ | ⟨h2,rfl,rfl,rfl⟩
 ·rw[hbl,H.hcc] at h2;exact absurd h2 hr
 rcases hor2 with ⟨h3,_⟩ | ⟨_,h3,_⟩ | ⟨_,h3,rfl,rfl,rfl⟩
 ·exact absurd aa h3
 ·rw[show HpS.blk {h with X:=none} s1=h.blk s1 from rfl,hbl,H.hcc] at h3;exact absurd h3 hr
 have hS:=H.sk
 have hi:In kp c N s'.now [] (h.S.fresh ((h.blk s').place h.c (h.blk s').used) ((h.blk s').place h.c h.c.space)) s':=vC hS.still H.hkp hS.n hS.hN hS.lc hS.lw hS.ln hS.sh
 refine⟨rfl,rfl,rfl,⟨H.hbd,H.hcc,rfl,hi,?_,H.hm,H.rc,mg hc H.hcc H.hbd hi ?_ hS.u aa H.hw.t1 H.hw.tl H.hw.tp,?_,?_,H.hm.u0.1,Int.le_refl _⟩⟩
 ·exact hS.ld
 ·exact hS.ld
 ·show(h.blk s').place h.c (h.blk s').used=_
  rw[hbl,H.hcc];rfl
 ·show(h.blk s').place h.c h.c.space=_
  rw[hbl,H.hcc];rfl
section
variable {kp:Prop} {c:Cfg} {N bd:Nat} {old:Nat→Int} {js:List Nat} {h:HpS} {s:Dev} {a u u0:Int} {L:List Int}
theorem HO.uu(H:HO kp c N bd old js h s a u u0 L):U64 s:=H.hw.u
theorem HO.nc(H:HO kp c N bd old js h s a u u0 L):(s.n:Int)=c.words:=by rw[H.ss.n];exact H.ss.hN
theorem HO.put(hc:bC c)(H:HO kp c N bd old js h s a u u0 L)(hx:h.X=none){i v:Int}(hv:0≤v∧v<18446744073709551616)(hi:c.active≤i∧i<N)
 (hk:(∃ k∈L,∃ j,orf s.load k≤j∧j+1<osz s.load k∧i=k+1+j)∨((v=0∨v∈L)∧((∃ k∈L,∃ j,0≤j∧j<orf s.load k∧i=k+1+j)∨∃ r:Nat,(r:Int)<c.roots∧i=c.root r)))
 (hr:(h.S.ff≤i∧i<h.S.ft)∨i.toNat∈js∨(js.length:Int)<c.log):
 ∃ S' s' js',h.S.store s i v= .ok (0,S') s'∧HO kp c N bd old js' {h with S:=S'} s' a u u0 L∧(∀ x∈js,x∈js')∧js'.length≤js.length+1∧(¬ (h.S.ff≤i∧i<h.S.ft)∨js'=js)∧∀ j:Int,c.active≤j→s'.load j=if j=i then v else s.load j:=by
 have hA:=ga hc
 have hN:=H.ss.hN
 obtain⟨S',s',js',e1,e2,e3,e4,e5,e6⟩:=xi H.ss hc (i:=i.toNat) v (by omega) hv H.uu (hr.imp (fun h=>by omega) id)
 rw[show((i.toNat:Nat):Int)=i by omega] at e1 e5 e6
 have hm':=H.hm.set hc e6 hk
 refine⟨S',s',js',e1,⟨H.hbd,H.hcc,H.ho,e2,e4.2.2.1.trans H.dd,hm',(ja H.ss.logw e1).readC hc H.nc H.rc,mg hc H.hcc H.hbd e2 (e4.2.2.1.trans H.dd) e3 hx H.hw.t1 H.hw.tl H.hw.tp,e4.1.trans H.ff,e4.2.1.trans H.ft,H.ule⟩,fun x hx=> ?_,?_,?_,e6⟩
 ·rcases e5 with e5 | ⟨e5,_⟩<;>rw[e5]
  ·exact hx
  ·exact List.mem_append_left _ hx
 ·rcases e5 with e5 | ⟨e5,_⟩<;>rw[e5]<;>simp
 ·rcases e5 with e5 | ⟨_,e5⟩
  ·exact .inr e5
  ·exact .inl (by simpa using e5)
theorem HO.alloc(hc:bC c)(H:HO kp c N bd old js h s a u u0 L)(hx:h.X=none){w r:Int}(hw:0≤r∧r≤w∧w≤64)(hroom:¬ c.space - u<w+1)(hr:(c.active+1).toNat∈js∨(js.length:Int)<c.log)(hl:h.T.last+1≤1000000000)(htl:h.T.at_.length+1≤800000):
 ∃ h' s' js',h.alloc s w r= .ok (((h.T.take (c.frm a+u)).1,0),h') s'∧HO kp c N bd old js' h' s' a (u+(w+1)) u0 (L++[c.frm a+u])∧h'.X=none∧h'.T=(h.T.take (c.frm a+u)).2∧(js'=js∨js'=js++[(c.active+1).toNat])∧js'.length≤js.length+1∧
  ∀ j,c.active≤j→s'.load j=if c.frm a+u≤j∧j<c.frm a+u+(w+1) then (if j=c.frm a+u then eR w r else 0) else if j=c.active+1 then u+(w+1) else s.load j:=by
 have hu0:=H.hm.u0
 have hf:=jq hc H.hm.a01
 have hr1':=hc.r1
 have hle:=H.ule
 obtain⟨S',s',js',e1,e2,e3,e4,e5,e5',e6,e7⟩:=Bm hc H.ss H.uu H.hm hw hroom (by rw[H.ff];omega) H.ft (by rw[H.ff];omega) hr
 have hT:=D6 (T:=h.T) (k:=c.frm a+u) ⟨H.hw.t1.1,hl⟩ htl H.hw.tp (by omega)
 refine⟨{h with S:=S',T:=(h.T.take (c.frm a+u)).2},s',js',?_,⟨H.hbd,H.hcc,H.ho,e2,e4.2.2.1.trans H.dd,e6,(Bf H.ss.logw e1).readC hc H.nc H.rc,mg hc H.hcc H.hbd e2 (e4.2.2.1.trans H.dd) e3 hx hT.1 hT.2.1 hT.2.2,e4.1.trans H.ff,e4.2.1.trans H.ft,by omega⟩,hx,rfl,e5',e5,e7⟩
 unfold HpS.alloc
 rw[if_pos H.ho,H.hcc,e1]
 simp only[aX]
 rw[if_neg (by simp)]
theorem HO.noroom(H:HO kp c N bd old js h s a u u0 L){w r:Int}(hw:0≤r∧r≤w∧w≤64)(hroom:c.space - u<w+1):h.alloc s w r= .ok ((0,4),h) s:=by
 obtain rfl:=H.hcc
 unfold HpS.alloc db
 rw[if_pos H.ho,if_neg (by unfold lA;rw[if_pos (by omega)];decide),H.hm.block,if_neg (by simp)]
 simp only
 rw[if_pos hroom]
 simp only[aX]
 rw[if_pos (by decide)]
theorem HO.obj(hc:bC c)(H:HO kp c N bd old js h s a u u0 L){n k:Int}(hn:bi h.T.at_ n=some k)(hk:k∈L):h.obj s n=((osz s.load k - 1,orf s.load k,k),0):=by
 unfold HpS.obj
 rw[hn,if_pos (show(some k).isSome=true from rfl),H.blk,H.hcc]
 show s.objOf c _ k=_
 exact(mh hc H.hm.bw H.hm.heap hk).1
theorem HO.write(hc:bC c)(H:HO kp c N bd old js h s a u u0 L)(hx:h.X=none){n k i v:Int}(hn:bi h.T.at_ n=some k)(hk:k∈L)(hi:orf s.load k≤i∧i+1<osz s.load k)(hv:0≤v∧v<18446744073709551616)(hr:(h.S.ff≤k+1+i∧k+1+i<h.S.ft)∨(k+1+i).toNat∈js∨(js.length:Int)<c.log):
 ∃ h' s' js',h.write s n i v= .ok (0,h') s'∧HO kp c N bd old js' h' s' a u u0 L∧h'.X=none∧h'.T=h.T∧(∀ x∈js,x∈js')∧js'.length≤js.length+1∧(¬ (h.S.ff≤k+1+i∧k+1+i<h.S.ft)∨js'=js)∧∀ j:Int,c.active≤j→s'.load j=if j=k+1+i then v else s.load j:=by
 have hz:=cu s.load k
 have hf:=jq hc H.hm.a01
 have hr1':=hc.r1
 have ht:=H.hm.tile.mem hk
 have hu0:=H.hm.u0
 have hN:=H.ss.hN
 obtain⟨S',s',js',e1,e2,e3,e4,e5,e6⟩:=H.put hc hx (i:=k+1+i) hv (by omega) (.inl ⟨k,hk,i,hi.1,hi.2,rfl⟩) hr
 refine⟨_,s',js',?_,e2,hx,rfl,e3,e4,e5,e6⟩
 have ho:bS (osz s.load k - 1,orf s.load k,k) i false=(k+1+i,0):=by
  unfold bS
  rw[if_neg (by simp only;omega),if_neg (by simp;omega)]
 unfold HpS.write
 rw[if_pos H.ho,H.obj hc hn hk,if_neg (by simp)]
 unfold iC
 simp only
 rw[ho,if_neg (by simp),show ey (k+1+i) v s h.S= .ok (0,S') s' from e1]
 rfl
theorem HO.commit(hc:bC c)(H:HO kp c N bd old js h s a u u0 L)(hx:h.X=none):
 ∃ h' s',h.commit s= .ok (0,h') s'∧HC kp c N bd h' s' a u L∧h'.X=none∧h'.T=h.T∧(kp→Ao s')∧∀ j:Int,c.active≤j→s'.load j=s.load j:=by
 have hA:=ga hc
 have hN:=H.ss.hN
 obtain⟨s',e1,e2,e3,e4,e5,e6⟩:=tf H.ss hc
 have hk:=Az H.ss.logw
 have hck:=wi H.ss.logw e1
 have hu':=hck.1 H.uu
 have hld:∀ j:Int,c.active≤j→s'.load j=s.load j:=fun j hj=>by
  unfold Dev.load Dev.has
  rw[e3,H.ss.n]
  split
  ·rw[e4,kK (by omega)]
  ·rfl
 have h8:K8 s s':=⟨by rw[e3,H.ss.n],fun x hx=>by rw[e4,kK (by omega)]⟩
 have hsk:SK c N bd {h.S with L:=h.S.L.shut} s':=⟨e2,hu',e3,hN,hk.2.2.1.trans H.ss.hc,hk.1,hk.2.1,hk.2.2.2.trans H.dd,e6⟩
 refine⟨{h with o:=false,S:={h.S with L:=h.S.L.shut}},s',?_,⟨H.hbd,H.hcc,rfl,hsk,H.hm.congr hc hld,h8.readC hc H.nc H.rc,⟨H.hw.c,⟨hsk.lw,by rw[e3];omega,by rw[H.hbd];exact hsk.ld,by rw[H.hcc];exact hsk.lc⟩,fun x=>(by cases x),hu',H.hw.t1,H.hw.tl,H.hw.tp,fun X hX=>by rw[show h.X=some X from hX] at hx;cases hx⟩,fun hp=>(e5 hp).kept⟩,hx,rfl,e5,hld⟩
 unfold HpS.commit
 rw[if_pos H.ho,e1]
 rfl
end
theorem jJ{α:Type}{k:Int}{v:α}:∀ {l:List (Int×α)},bi l k=some v→(k,v)∈l
 | [],h=>by cases h
 | q::l,h=>by
   unfold bi at h
   split at h
   ·rename_i e;cases h;subst e;exact List.mem_cons_self ..
   ·exact List.mem_cons_of_mem _ (jJ h)
theorem ir{α:Type}{k:Int}{v:α}:∀ {l:List (Int×α)},(l.map Prod.fst).Nodup→(k,v)∈l→bi l k=some v
 | [],_,h=>by cases h
 | q::l,hn,h=>by
   rw[List.map_cons,List.nodup_cons] at hn
   unfold bi
   rcases List.mem_cons.1 h with rfl | h
   ·rw[if_pos rfl]
   ·rw[if_neg (fun e=>hn.1 (by rw[e];exact List.mem_map.2 ⟨_,h,rfl⟩))];exact ir hn.2 h
def mvA(to_:Int→Int)(o:List (Int×Int)):List (Int×Int):=(o.filter fun p=>decide (to_ p.2≠0)).map fun p=>(p.1,to_ p.2)
def mvN(to_:Int→Int)(o:List (Int×Int)):List (Int×Int):=(o.filter fun p=>decide (to_ p.2≠0)).map fun p=>(to_ p.2,p.1)
theorem qY{α:Type}{l:List (Int×α)}{k:Int}{a:α}(h:k∉l.map Prod.fst):mset l k a=l++[(k,a)]:=dO (kR h)
theorem mO{to_:Int→Int}:∀ (o A N:List (Int×Int)),(o.map Prod.fst).Nodup→(∀ p∈o,p.1∉A.map Prod.fst)→(∀ p∈o,to_ p.2≠0→to_ p.2∉N.map Prod.fst)→(∀ p∈o,∀ q∈o,to_ p.2=to_ q.2→to_ p.2≠0→p=q)→
 o.foldl (dC to_) (A,N)=(A++mvA to_ o,N++mvN to_ o)
 | [],A,N,_,_,_,_=>by simp[mvA,mvN]
 | x::t,A,N,h1,h2,h3,h4=>by
   rw[List.map_cons,List.nodup_cons] at h1
   by_cases hx:to_ x.2=0
   ·have e1:mvA to_ (x::t)=mvA to_ t:=by simp[mvA,hx]
    have e2:mvN to_ (x::t)=mvN to_ t:=by simp[mvN,hx]
    rw[e1,e2,List.foldl_cons,show dC to_ (A,N) x=(A,N) from if_neg (by simpa using hx)]
    exact mO t A N h1.2 (fun p hp=>h2 p (List.mem_cons_of_mem _ hp)) (fun p hp=>h3 p (List.mem_cons_of_mem _ hp)) (fun p hp q hq=>h4 p (List.mem_cons_of_mem _ hp) q (List.mem_cons_of_mem _ hq))
   ·have e1:mvA to_ (x::t)=(x.1,to_ x.2)::mvA to_ t:=by simp[mvA,hx]
    have e2:mvN to_ (x::t)=(to_ x.2,x.1)::mvN to_ t:=by simp[mvN,hx]
    rw[e1,e2,List.foldl_cons,show dC to_ (A,N) x=(mset A x.1 (to_ x.2),mset N (to_ x.2) x.1) from if_pos hx,qY (h2 x (List.mem_cons_self ..)),qY (h3 x (List.mem_cons_self ..) hx)]
    rw[mO t _ _ h1.2 (fun p hp hm=> ?_) (fun p hp hz hm=> ?_) (fun p hp q hq=>h4 p (List.mem_cons_of_mem _ hp) q (List.mem_cons_of_mem _ hq))]
    ·simp
    ·rw[List.map_append,List.mem_append] at hm
     rcases hm with hm | hm
     ·exact h2 p (List.mem_cons_of_mem _ hp) hm
     ·simp at hm;exact h1.1 (by rw[←hm];exact List.mem_map_of_mem hp)
    ·rw[List.map_append,List.mem_append] at hm
     rcases hm with hm | hm
     ·exact h3 p (List.mem_cons_of_mem _ hp) hz hm
     ·simp at hm
      have:=h4 p (List.mem_cons_of_mem _ hp) x (List.mem_cons_self ..) hm hz
      subst this;exact h1.1 (List.mem_map_of_mem hp)
theorem l7.moved{T:cX}(h:l7 T){to_:Int→Int}(hi:∀ p∈T.at_,∀ q∈T.at_,to_ p.2=to_ q.2→to_ p.2≠0→p.2=q.2){ord:List (Int×Int)}(ho:ord.Perm T.at_):
 l7 (cX.moved to_ T.last ord)∧(∀ n,bi (cX.moved to_ T.last ord).at_ n=match bi T.at_ n with | some p=>if to_ p=0 then none else some (to_ p) | none=>none)∧(cX.moved to_ T.last ord).at_=mvA to_ ord:=by
 have hm:∀ p:Int×Int,p∈ord↔p∈T.at_:=fun p=>ho.mem_iff
 have n1:(ord.map Prod.fst).Nodup:=(ho.map _).nodup_iff.2 h.n1
 have hj:∀ p∈T.at_,∀ q∈T.at_,to_ p.2=to_ q.2→to_ p.2≠0→p=q:=fun p hp q hq e hz=>by
  have e2:=hi p hp q hq e hz
  have a1:=(h.fwd p.1 p.2 (ir h.n1 hp)).1
  have a2:=(h.fwd q.1 q.2 (ir h.n1 hq)).1
  rw[e2,a2] at a1
  exact Prod.ext (by injection a1 with a1;exact a1.symm) e2
 have hf:=mO (to_:=to_) ord [] [] n1 (by simp) (by simp) (fun p hp q hq=>hj p ((hm p).1 hp) q ((hm q).1 hq))
 have eA:(cX.moved to_ T.last ord).at_=mvA to_ ord:=by unfold cX.moved;rw[hf];simp
 have eN:(cX.moved to_ T.last ord).no=mvN to_ ord:=by unfold cX.moved;rw[hf];simp
 have nA:((mvA to_ ord).map Prod.fst).Nodup:=by
  unfold mvA
  rw[List.map_map]
  have:(Prod.fst∘fun p:Int×Int=>(p.1,to_ p.2))=Prod.fst:=rfl
  rw[this]
  exact n1.sublist (List.Sublist.map _ List.filter_sublist)
 have nN:((mvN to_ ord).map Prod.fst).Nodup:=by
  unfold mvN
  rw[List.map_map]
  refine List.Pairwise.map _ (R:=fun a b:Int×Int=>a∈ord∧b∈ord∧a≠b∧to_ a.2≠0) (fun a b hab e=> ?_) ?_
  ·exact hab.2.2.1 (hj a ((hm a).1 hab.1) b ((hm b).1 hab.2.1) e hab.2.2.2)
  ·have hn:(ord.filter fun p=>decide (to_ p.2≠0)).Nodup:=(qS n1).sublist List.filter_sublist
   refine hn.imp_of_mem fun {a b} ha hb hne=> ?_
   have ha:=List.mem_filter.1 ha
   have hb:=List.mem_filter.1 hb
   exact⟨ha.1,hb.1,hne,by simpa using ha.2⟩
 have iA:∀ n q,bi (mvA to_ ord) n=some q↔∃ p,bi T.at_ n=some p∧to_ p≠0∧to_ p=q:=fun n q=>by
  constructor
  ·intro hq
   obtain⟨p,hp,e⟩:=List.mem_map.1 (jJ hq)
   have hp:=List.mem_filter.1 hp
   cases e
   exact⟨p.2,ir h.n1 ((hm _).1 hp.1),by simpa using hp.2,rfl⟩
  ·rintro⟨p,hp,hz,rfl⟩
   exact ir nA (List.mem_map.2 ⟨(n,p),List.mem_filter.2 ⟨(hm _).2 (jJ hp),by simpa using hz⟩,rfl⟩)
 have iN:∀ n q,bi (mvN to_ ord) q=some n↔bi (mvA to_ ord) n=some q:=fun n q=>by
  constructor
  ·intro hq
   obtain⟨p,hp,e⟩:=List.mem_map.1 (jJ hq)
   cases e
   exact ir nA (List.mem_map.2 ⟨p,hp,rfl⟩)
  ·intro hq
   obtain⟨p,hp,e⟩:=List.mem_map.1 (jJ hq)
   cases e
   exact ir nN (List.mem_map.2 ⟨p,hp,rfl⟩)
 refine⟨⟨h.last,by rw[eA];exact nA,by rw[eN];exact nN,fun n q hq=> ?_,fun q n hq=> ?_⟩,fun n=> ?_,eA⟩
 ·rw[eA] at hq;rw[eN]
  obtain⟨p,hp,hz,rfl⟩:=(iA n q).1 hq
  have h1:=h.fwd n p hp
  exact⟨(iN n _).2 hq,h1.2.1,h1.2.2.1,hz⟩
 ·rw[eN] at hq;rw[eA];exact(iN n q).1 hq
 ·rw[eA]
  cases hx:bi T.at_ n with
  | none=>
    cases hy:bi (mvA to_ ord) n with
    | none=>rfl
    | some q=>obtain⟨p,hp,_⟩:=(iA n q).1 hy;rw[hx] at hp;cases hp
  | some p=>
    show _=if to_ p=0 then none else some (to_ p)
    split
    ·rename_i hz
     cases hy:bi (mvA to_ ord) n with
     | none=>rfl
     | some q=>obtain⟨p',hp,hz',_⟩:=(iA n q).1 hy;rw[hx] at hp;cases hp;exact absurd hz hz'
    ·rename_i hz
     exact(iA n _).2 ⟨p,hx,hz,rfl⟩
theorem pl:∀ (l:List Int) (s s':Dev) (a:Unit),dG l s= .ok a s'→K8 s s'
 | [],s,s',a,e=>by cases e;exact .refl
 | i::t,s,s',a,e=>by
   unfold dG at e
   obtain⟨_,s1,e1,e⟩:=aM e
   exact(nC e1).trans (pl t _ _ _ e)
theorem zG{S S':bG}{s s':Dev}(e:S.commit s= .ok S' s'):K8 s s':=by
 unfold bG.commit at e
 obtain⟨_,s1,e1,e⟩:=aM e
 obtain⟨_,s2,e2,e⟩:=aM e
 obtain⟨_,s3,e3,e⟩:=aM e
 cases e
 have h2:K8 s1 s2:=by
  split at e2
  ·exact nD e2
  ·cases e2;exact .refl
 have h3:K8 s2 s':=by
  unfold ce.truncate at e3
  split at e3
  ·cases e3;exact .refl
  ·obtain⟨_,s4,e4,e3⟩:=aM e3
   obtain⟨_,s5,e5,e3⟩:=aM e3
   obtain⟨_,s6,e6,e3⟩:=aM e3
   cases e3
   exact((km (by decide) e4).trans (nC e5)).trans (nD e6)
 exact((pl _ _ _ _ e1).trans h2).trans h3
theorem oC:∀ (l:List Int) (i:Int) (s:Dev) (S:bG) (r:Int×bG) (s':Dev),dZ S.L→fS ey l i s S= .ok r s'→K8 s s'
 | [],i,s,S,r,s',_,e=>by cases e;exact .refl
 | v::t,i,s,S,r,s',hL,e=>by
   unfold fS at e
   split at e
   ·exact oC t _ _ _ _ _ hL e
   ·obtain⟨⟨x,S1⟩,s1,e1,e⟩:=aM e
    have h1:=ja hL e1
    split at e
    ·cases e;exact h1
    ·exact h1.trans (oC t _ _ _ _ _ (kc hL e1) e)
theorem CS{c:Cfg}{b:Blk}{S S':bG}{s s':Dev}(hL:dZ S.L)(e:fZ c b S s= .ok (0,S') s'):K8 s s':=by
 unfold fZ kF at e
 obtain⟨⟨x,S1⟩,s1,e1,e⟩:=aM e
 have h1:=oC _ _ _ _ _ _ (show dZ (S.fresh 0 0).L from hL) e1
 split at e
 ·rename_i hx
  obtain⟨S2,s2,e2,e⟩:=aM e
  cases e;exact absurd aa hx
 ·obtain⟨S2,s2,e2,e⟩:=aM e
  cases e;exact h1.trans (zG e2)
end Go.Proofs.YtlcibdhmgclfjaaGreat
