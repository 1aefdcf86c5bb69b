/- Part of a law's texts. Conditions: none. -/
import Derived.Test.YtipdhkmphngmoaaGreatDoorQL19Fh
open Go.Proofs.Tryz
set_option linter.all false
namespace Go.Proofs.YtipdhkmphngmoaaGreatDoor
open Go
theorem aL{α β:Type}{m:Out α}{f:α→Dev→Out β}{b:β}{s':Dev}(h:m.then f= .ok b s'):∃ a s1,m= .ok a s1∧f a s1= .ok b s':=by
 cases m with
 | ok a s1=>exact⟨a,s1,rfl,h⟩
 | off s=>cases h
theorem cA{s s':Dev}{i v a:Int}(h:U64 s)(hv:0≤v∧v<18446744073709551616)(e:s.store i v= .ok a s'):U64 s'∧s'.n=s.n:=by
 unfold Dev.store at e
 split at e
 ·cases e;exact⟨h,rfl⟩
 ·split at e
  ·cases e
  ·cases e
   refine⟨fun x=> ?_,rfl⟩
   show 0≤upd s.now i.toNat v x∧upd s.now i.toNat v x<_
   unfold upd
   split
   ·exact hv
   ·exact h x
theorem dT{s s':Dev}{i a:Int}(h:U64 s)(e:s.flush i= .ok a s'):U64 s'∧s'.n=s.n:=by
 unfold Dev.flush at e
 split at e
 ·cases e;exact⟨h,rfl⟩
 ·split at e
  ·cases e
  ·cases e;exact⟨h,rfl⟩
theorem eY{s s':Dev}{a:Unit}(h:U64 s)(e:s.fence= .ok a s'):U64 s'∧s'.n=s.n:=by
 unfold Dev.fence at e
 split at e
 ·cases e
 ·cases e;exact⟨h,rfl⟩
theorem vt{L L':bT}{s s':Dev}{i a:Int}(hL:dR L)(h:U64 s)(hn:s.n≤1000000)(e:L.append s i= .ok (a,L') s'):U64 s'∧s'.n=s.n:=by
 have hl1:=hL.e1
 have hl2:=hL.e2
 have hl3:=hL.n1
 have hl4:=hL.n2
 have hl5:=hL.c.l2
 have hld:=h.load
 unfold bT.append at e
 split at e
 ·cases e;exact⟨h,rfl⟩
 split at e
 ·cases e;exact⟨h,rfl⟩
 obtain⟨a1,s1,e1,e⟩:=aL e
 have h1:=cA h ⟨by omega,by omega⟩ e1
 obtain⟨a2,s2,e2,e⟩:=aL e
 have h2:=cA h1.1 (h1.1.load i) e2
 obtain⟨a3,s3,e3,e⟩:=aL e
 have h3:=dT h2.1 e3
 obtain⟨a4,s4,e4,e⟩:=aL e
 have h4:=eY h3.1 e4
 obtain⟨a5,s5,e5,e⟩:=aL e
 have h5:=cA h4.1 (by unfold gp;omega) e5
 obtain⟨a6,s6,e6,e⟩:=aL e
 have h6:=dT h5.1 e6
 obtain⟨a7,s7,e7,e⟩:=aL e
 have h7:=eY h6.1 e7
 cases e
 exact⟨h7.1,by rw[h7.2,h6.2,h5.2,h4.2,h3.2,h2.2,h1.2]⟩
theorem ju{S S':bD}{s s':Dev}{i v a:Int}(hS:lF S)(h:U64 s)(hn:s.n≤1000000)(hv:0≤v∧v<18446744073709551616)(e:S.store s i v= .ok (a,S') s'):U64 s'∧s'.n=s.n:=by
 unfold bD.store at e
 split at e
 ·cases e;exact⟨h,rfl⟩
 ·split at e
  ·obtain⟨⟨x1,x2⟩,t,e1,e⟩:=aL e
   have h1:=vt hS.L h hn e1
   split at e
   ·cases e;exact h1
   ·obtain⟨y,u,e2,e⟩:=aL e
    have h2:=cA h1.1 hv e2
    cases e;exact⟨h2.1,by rw[h2.2,h1.2]⟩
  ·obtain⟨y,u,e2,e⟩:=aL e
   have h2:=cA h hv e2
   cases e;exact h2
theorem um(B:World)(bd be:Nat):m8 B 104 [ptr bd] bd be Unit (fun _ _=>pr True) (fun i v s _=>(s.store i v).then fun a s'=> .ok (a,()) s') (fun s _=>U64 s) where
 enter:=call104
 u64:=fun _ _ h=>h
 says:=fun Fr i v s e hok w hh=>by
  refine(cI B Fr bd s i v w (hh.front 1 aa).tail).mono fun en w' h=> ?_
  cases en with
  | returned rv=>
    obtain⟨H,⟨s',⟨a,hm,rfl⟩,rfl⟩,hh⟩:=h
    exact⟨_,⟨a,(),s',by rw[hm];rfl,rfl,rfl⟩,(hh.unpr (p:=True) trivial).back 1 (by simp)⟩
  | panicked c=>
    obtain⟨H,⟨s',⟨hm,rfl⟩,rfl⟩,hh⟩:=h
    exact⟨_,⟨s',by rw[hm];rfl,rfl,rfl⟩,hh⟩
  | outgrown=>exact h
 keeps:=fun i v s e a e' s' hok hv hm=>by
  obtain⟨a1,s1,e1,hm⟩:=aL hm
  cases hm
  exact(cA hok hv e1).1
theorem oh(B:World)(bd bs:Nat)(c:Cfg):m8 B 77 [ptr bs] bd bs bD (fun b S=>gS b S) (fun i v s S=>S.store s i v) (fun s S=>U64 s∧s.n≤1000000∧lF S∧S.L.d=bd∧S.L.c=c) where
 enter:=call77
 u64:=fun _ _ h=>h.1
 says:=fun Fr i v s S hok w hh=>by
  obtain⟨h1,h2,h3,rfl,h5⟩:=hok
  refine(om B Fr bs S s h3 i v w (hh.front 1 aa)).mono fun en w' h=> ?_
  cases en with
  | returned rv=>
    obtain⟨H,⟨a,S',s',hm,rfl,rfl⟩,hh⟩:=h
    exact⟨_,⟨a,S',s',hm,rfl,rfl⟩,hh.front 1 aa⟩
  | panicked c=>
    obtain⟨H,⟨s',hm,rfl,rfl⟩,hh⟩:=h
    exact⟨_,⟨s',hm,rfl,rfl⟩,hh⟩
  | outgrown=>exact h
 keeps:=fun i v s S a S' s' hok hv hm=>by
  have h1:=ju hok.2.2.1 hok.1 hok.2.1 hv hm
  have h2:=og hm
  have hc:=hok.2.2.1.L.c.act
  exact⟨h1.1,by rw[h1.2];exact hok.2.1,rd hok.2.2.1 hok.2.1 (by have:=hok.2.2.1.L.c.l1;have:=hok.2.2.1.L.c.r1;omega) hm (j7 hok.2.2.1.L hm),by rw[h2.1];exact hok.2.2.2.1,by rw[h2.2.1];exact hok.2.2.2.2⟩
theorem qh(B:World)(Fr:List HP)(f:FuncId)(fi:List Value)(bd be:Nat)(ε:Type)(ExA:Nat→ε→HP)(op:Int→Int→Dev→ε→Out (Int×ε))(ok:Dev→ε→Prop)(hS:m8 B f fi bd be ε ExA op ok)(o:dq)(ho:k8 o)(i v:Int)(hv:0≤v∧v<18446744073709551616)(s:Dev)(e:ε)(hok:ok s e):
 ∀ w_,Holds B (ax bd s::ExA be e::Fr) w_→Calls Tryz.prog 94 [gL o,i64 i,w64 v,.func (.func f) fi.toArray #[]].toArray w_ (Ret B (fun rv H'=>∃ x e' s',hO op o i false v s e= .ok (x,e') s'∧rv=i64 x∧ok s' e'∧H'=ax bd s'::ExA be e'::Fr) (fun ch H'=>∃ s',hO op o i false v s e= .off s'∧ch=dh∧H'=ax bd s'::Fr)):=by
 refine ak func94 aa ntmps94 aa (ac (ab (kPb (aY aa) aa fun b4=>(kPa aa aa (ad (ac (ab (kPv (ah isAgg134 sizeOf134 aa aa) aa ?_))))))))
 refine kPm aa aa (ap aa (ar call144 aa) (l4 _ _ o ho _ _) .free aa aa ?_)
 refine kPm aa aa (kPv (az aa aa) aa (kPv (az aa aa) aa (kPa aa aa (kPa aa aa (ad (aj [10,9,8,2,3] rfl (ac (ac (ab (kPm aa aa (kPv (am aa aa aa) aa ?_)))))))))))
 refine ad ?_
 refine aV aa (fun h18=> ?_) (fun h18=> ?_)
 ·have hk:(bK o i false).2≠0:=by simpa using h18
  refine ac (ab (kPm aa aa (kPa aa aa (ad (au ?_)))))
  exact aq results94 aa (fun w_ hh=>⟨_,⟨_,e,s,by unfold hO;rw[if_pos hk],rfl,hok,rfl⟩,hh.tail⟩)
 ·have hk:¬ (bK o i false).2≠0:=by simpa using h18
  refine aw (ac (ab (kPm aa aa (kPm aa aa (kPm aa aa (dG ExA be (dG ax bd ?_)))))))
  refine aQ aa (fa hS.enter aa aa) (hS.says _ _ _ _ _ hok) .free aa aa ?_ ?_
  rotate_left
  ·rintro _ _ ⟨s9,hm9,rfl,rfl⟩
   exact aX fun w hh=>⟨_,⟨s9,by unfold hO;rw[if_neg hk];exact hm9,rfl,rfl⟩,(hh.front 1 aa).tail⟩
  rintro _ _ ⟨a1,e1,s1,hm1,rfl,rfl⟩
  have hok1:=hS.keeps _ _ _ _ _ _ _ hok ⟨by omega,by omega⟩ hm1
  refine kPa aa aa (ad (aj [8] rfl (au ?_)))
  exact aq results94 aa (fun w_ hh=>⟨_,⟨_,e1,s1,by unfold hO;rw[if_neg hk];exact hm1,rfl,hok1,rfl⟩,(hh.front 2 aa).tail⟩)
theorem qi(B:World)(Fr:List HP)(f:FuncId)(fi:List Value)(bd be:Nat)(ε:Type)(ExA:Nat→ε→HP)(op:Int→Int→Dev→ε→Out (Int×ε))(ok:Dev→ε→Prop)(hS:m8 B f fi bd be ε ExA op ok)(o:dq)(ho:k8 o)(i v:Int)(hv:0≤v∧v≤9223372036854775807)(s:Dev)(e:ε)(hok:ok s e):
 ∀ w_,Holds B (ax bd s::ExA be e::Fr) w_→Calls Tryz.prog 81 [gL o,i64 i,i64 v,.func (.func f) fi.toArray #[]].toArray w_ (Ret B (fun rv H'=>∃ x e' s',hO op o i true v s e= .ok (x,e') s'∧rv=i64 x∧ok s' e'∧H'=ax bd s'::ExA be e'::Fr) (fun ch H'=>∃ s',hO op o i true v s e= .off s'∧ch=dh∧H'=ax bd s'::Fr)):=by
 refine ak func81 aa ntmps81 aa (ac (ab (kPb (aY aa) aa fun b4=>(kPa aa aa (ad (ac (ab (kPv (ah isAgg134 sizeOf134 aa aa) aa ?_))))))))
 refine kPm aa aa (ap aa (ar call144 aa) (l4 _ _ o ho _ _) .free aa aa ?_)
 refine kPm aa aa (kPv (az aa aa) aa (kPv (az aa aa) aa (kPa aa aa (kPa aa aa (ad (aj [10,9,8,2,3] rfl (ac (ac (ab (kPm aa aa (kPv (am aa aa aa) aa ?_)))))))))))
 refine ad ?_
 refine aV aa (fun h18=> ?_) (fun h18=> ?_)
 ·have hk:(bK o i true).2≠0:=by simpa using h18
  refine ac (ab (kPm aa aa (kPa aa aa (ad (au ?_)))))
  exact aq results81 aa (fun w_ hh=>⟨_,⟨_,e,s,by unfold hO;rw[if_pos hk],rfl,hok,rfl⟩,hh.tail⟩)
 ·have hk:¬ (bK o i true).2≠0:=by simpa using h18
  refine aw (ac (ab (kPm aa aa (kPm aa aa (kPm aa aa (kPv (cR runUnderlying3 runUnderlying24 aa (fk (by omega))) aa (dG ExA be (dG ax bd ?_))))))))
  refine aQ aa (fa hS.enter aa aa) (hS.says _ _ _ _ _ hok) .free aa aa ?_ ?_
  rotate_left
  ·rintro _ _ ⟨s9,hm9,rfl,rfl⟩
   exact aX fun w hh=>⟨_,⟨s9,by unfold hO;rw[if_neg hk];exact hm9,rfl,rfl⟩,(hh.front 1 aa).tail⟩
  rintro _ _ ⟨a1,e1,s1,hm1,rfl,rfl⟩
  have hok1:=hS.keeps _ _ _ _ _ _ _ hok ⟨by omega,by omega⟩ hm1
  refine kPa aa aa (ad (aj [8] rfl (au ?_)))
  exact aq results81 aa (fun w_ hh=>⟨_,⟨_,e1,s1,by unfold hO;rw[if_neg hk];exact hm1,rfl,hok1,rfl⟩,(hh.front 2 aa).tail⟩)
theorem xh(B:World)(Fr:List HP)(f:FuncId)(fi:List Value)(bd be:Nat)(ε:Type)(ExA:Nat→ε→HP)(op:Int→Int→Dev→ε→Out (Int×ε))(ok:Dev→ε→Prop)(hS:m8 B f fi bd be ε ExA op ok)(c:Cfg)(hc:bx c)(b:Blk)(hb:0≤b.act∧b.act<9223372036854775808∧0≤b.used∧b.used<9223372036854775808)(hw64:∀ x∈b.rts,0≤x∧x<18446744073709551616)(hl0:0<b.rts.length)(hl1:b.rts.length≤100000)(sv:Value)(hsv:aN sv=true)(hsl:SlR B Fr sv (b.rts.map w64))(s:Dev)(e:ε)(hok:ok s e):
 ∀ w_,Holds B (ax bd s::ExA be e::Fr) w_→Calls Tryz.prog 186 [ptr bd,dU c,lC b sv,.func (.func f) fi.toArray #[]].toArray w_ (Ret B (fun rv H'=>∃ x e' s',lk op c b s e= .ok (x,e') s'∧rv=i64 x∧ok s' e'∧H'=ax bd s'::ExA be e'::Fr) (fun ch H'=>∃ s',lk op c b s e= .off s'∧ch=dh∧H'=ax bd s'::Fr)):=by
 refine ak func186 aa ntmps186 aa ?_
 obtain⟨hA1,hA2,hA3⟩:=AB hc
 have hws:∀ x∈(b.act::b.used::b.rts),0≤x∧x<18446744073709551616:=fun x hx=>by
  simp only[List.mem_cons] at hx
  rcases hx with rfl | rfl | hx
  ·omega
  ·omega
  ·exact hw64 x hx
 refine ac (ab (kPb (aY aa) aa fun b5=>(kPb (aY aa) aa fun b6=>(kPa aa aa (ad (ac (ab (kPl iy isAgg3 aa aa aa aa (kPv (cR runUnderlying3 runUnderlying24 aa (fk (by omega))) aa (kPl dM isAgg3 aa aa aa aa (kPv (cR runUnderlying3 runUnderlying24 aa (fk (by omega))) aa ?_)))))))))))
 refine kPb (vc runUnderlying22 sizeOf24 zeroValue24 aa aa aa aa aa) aa fun b20=>(kPl eO isAgg22 aa aa aa aa (aK (H':=dQ 24 w64 0 (.slice (some ⟨b20,0,none⟩) 2 2,[b.act,b.used])::_) (fun w hh=>gB aa aa hh) (cX aa (kG (yv:=sv) (ys:=b.rts) aa aa runUnderlying22 runUnderlying22 ⟨_,rfl⟩ sizeOf24 zeroValue24 aa (fun _=>rfl) gh aa aa ((((hsl.cons _).cons _).cons _).cons _) hl0 (by simp;omega)) .free aa aa ?_)))
 rintro sv2 _ ⟨hsv2,rfl⟩
 refine zG (by simp) fun bW oW capW hW=> ?_
 subst hW
 refine kPa aa aa (ad (aj [9,8,5,0,3] rfl (ac (ac (ab (kPm aa aa (kPv (bS aa runUnderlying22 ⟨_,rfl⟩ rfl) aa (kPm aa aa (ad (aI (dF (ι:=Nat×Dev×ε) (fun i=>i.1≤(b.act::b.used::b.rts).length∧ok i.2.1 i.2.2∧lk op c b s e=gT op ((b.act::b.used::b.rts).drop i.1) (c.active+i.1) i.2.1 i.2.2) (fun i=>[(0,ptr bd),(3,.func (.func f) fi.toArray #[]),(5,ptr b5),(8,i64 0),(24,.slice (some ⟨bW,oW,none⟩) (b.act::b.used::b.rts).length capW),(25,i64 ((b.act::b.used::b.rts).length:Nat)),(26,i64 i.1)]) (fun i=>dQ 24 w64 0 (.slice (some ⟨bW,oW,none⟩) (b.act::b.used::b.rts).length capW,(b.act::b.used::b.rts))::row b6 [i64 b.act,i64 b.used,sv] 125::row b5 [i64 c.log,i64 c.roots,i64 c.space] 39::ax bd i.2.1::ExA be i.2.2::Fr) (fun i=>(b.act::b.used::b.rts).length - i.1) (0,s,e) ⟨Nat.zero_le _,hok,by simp[lk]⟩ (fun a w st=>st.to ⟨rfl,rfl,rfl,rfl,rfl,rfl,rfl,trivial⟩ id) ?_)))))))))))
 rintro⟨k,sL,eL⟩ ⟨hkw,hok2,hinv⟩
 simp only at hkw hok2 hinv ⊢
 have hr1:=hc.r1
 have hkb:(k:Int)≤200000:=by simp at hkw;omega
 refine ac (ab (kPv (am aa aa aa) aa (ad (ac ?_))))
 refine aV aa (fun h27=> ?_) (fun h27=> ?_)
 ·have hk:k<(b.act::b.used::b.rts).length:=by simp at h27 ⊢;omega
  have hwk:=hws _ (List.getElem_mem hk)
  have hst:gT op ((b.act::b.used::b.rts).drop k) (c.active+k) sL eL=if sL.load (c.active+k)=(b.act::b.used::b.rts)[k] then gT op ((b.act::b.used::b.rts).drop (k+1)) (c.active+(k+1:Nat)) sL eL else (op (c.active+k) ((b.act::b.used::b.rts)[k]) sL eL).then fun x s9=>if x.1≠0 then .ok x s9 else gT op ((b.act::b.used::b.rts).drop (k+1)) (c.active+(k+1:Nat)) s9 x.2:=by
   rw[List.drop_eq_getElem_cons hk]
   push_cast
   rw[←Int.add_assoc]
   rfl
  refine aw (ac (aI (ac (ab (kPm aa aa (kPv (cC runUnderlying22 sizeOf24 aa aa (by omega) (by omega)) aa ?_))))))
  refine kPv (cf (v:=w64 (b.act::b.used::b.rts)[k]) isAgg24 (cP 0 aa) aa (by rw[Int.toNat_natCast,List.getElem?_map,List.getElem?_eq_getElem hk];rfl)) aa ?_
  refine kPa aa aa (kPa aa aa (ad (ac (ab (kPv (ah isAgg39 sizeOf39 aa aa) aa ?_)))))
  refine ap aa (ar call108 aa) (fS _ _ c hc) .free aa aa ?_
  refine kPm aa aa (kPv (aP aa aa) aa (kPa aa aa (ad (aj [12,11,26,25,24,8,5,0,3] rfl (ac (ac (ab (kPm aa aa (kPm aa aa (ap aa (ar call101 aa) (bF (q:=ax) (fun Fr=>ck _ Fr _ _ _)) .free aa aa ?_))))))))))
  refine kPm aa aa (kPv (am aa aa aa) aa (ad ?_))
  refine aV aa (fun h39=> ?_) (fun h39=> ?_)
  ·have hk4:sL.load (c.active+k)=(b.act::b.used::b.rts)[k]:=by simpa using h39
   refine bJ (ab (kPv (aP aa aa) aa (kPm aa aa (ad (aj [26,25,24,8,5,0,3] rfl ?_)))))
   exact fun a w_ st=>⟨(k+1,sL,eL),⟨by simp only;omega,hok2,by rw[hinv,hst,if_pos hk4]⟩,by simp only;omega,st.to ⟨rfl,rfl,rfl,rfl,rfl,rfl,rfl,trivial⟩ id⟩
  ·have hk4:¬ sL.load (c.active+k)=(b.act::b.used::b.rts)[k]:=by simpa using h39
   refine aw (ac (ab (kPm aa aa (kPm aa aa (kPm aa aa (dG ExA be (dG ax bd ?_)))))))
   refine aQ aa (fa hS.enter aa aa) (hS.says _ _ _ _ _ hok2) .free aa aa ?_ ?_
   rotate_left
   ·rintro _ _ ⟨s9,hm9,rfl,rfl⟩
    exact aX fun w hh=>⟨_,⟨s9,by rw[hinv,hst,if_neg hk4,hm9];rfl,rfl,rfl⟩,(((hh.front 3 aa).front 3 aa).front 3 aa).tail.tail.tail⟩
   rintro _ _ ⟨a2,e2,s2,hm2,rfl,rfl⟩
   have hok3:=hS.keeps _ _ _ _ _ _ _ hok2 hwk hm2
   refine kPa aa aa (ad (aj [13,26,25,24,8,5,0,3] rfl (ac (ab (kPm aa aa (kPv (am aa aa aa) aa (ad ?_)))))))
   refine aV aa (fun h45=> ?_) (fun h45=> ?_)
   ·have hk5:a2≠0:=by simpa using h45
    refine ac (ab (kPm aa aa (kPa aa aa (ad (au ?_)))))
    exact aq results186 aa (fun w_ hh=>⟨_,⟨_,e2,s2,by rw[hinv,hst,if_neg hk4,hm2,aU,if_pos hk5],rfl,hok3,rfl⟩,(((hh.front 4 aa).front 4 aa).front 4 aa).tail.tail.tail⟩)
   ·have hk5:¬ a2≠0:=by simpa using h45
    refine aw (ab (kPv (aP aa aa) aa (kPm aa aa (ad ?_))))
    exact fun a w_ st=>⟨(k+1,s2,e2),⟨by simp only;omega,hok3,by rw[hinv,hst,if_neg hk4,hm2,aU,if_neg hk5]⟩,by simp only;omega,st.to ⟨rfl,rfl,rfl,rfl,rfl,rfl,rfl,trivial⟩ (fun hh=>(((((hh.front 1 aa).front 1 aa).front 4 aa).front 4 aa).front 4 aa))⟩
 ·have hk:¬ k<(b.act::b.used::b.rts).length:=by simp at h27 ⊢;omega
  refine bJ (ac (ab (kPa aa aa (ad (aj [8] rfl (au ?_))))))
  exact aq results186 aa (fun w_ hh=>⟨_,⟨0,eL,sL,by rw[hinv,List.drop_eq_nil_of_le (by omega)];rfl,rfl,hok2,rfl⟩,hh.tail.tail.tail⟩)
abbrev gk(i v:Int)(s:Dev)(_:Unit):Out (Int×Unit):=(s.store i v).then fun a s'=> .ok (a,()) s'
theorem rC{s:Dev}{i v:Int}(h:s.pow.lim<0):na (gk i v s ()) (fun _=>True) s.n:=
 cD (fJ h) fun _ s1 _ h1 e1=>⟨_,_,rfl,trivial,h1,e1⟩
theorem qM{a h:Int}:∀ (f:Nat) (i:Int) (s:Dev),s.pow.lim<0→na (fA gk a h f i s ()) (fun _=>True) s.n
 | 0,_,s,h1=>⟨_,_,rfl,trivial,h1,rfl⟩
 | f+1,i,s,h1=>by
   unfold fA
   refine cD (rC h1) fun x s1 _ h2 e2=> ?_
   split
   ·exact⟨_,_,rfl,trivial,h2,e2⟩
   ·exact e2▸qM f (i+1) s1 h2
theorem uT{c:Cfg}{w r:Int}{s:Dev}(h1:s.pow.lim<0):na (cY gk c w r s ()) (fun _=>True) s.n:=by
 unfold cY
 split
 ·exact⟨_,_,rfl,trivial,h1,rfl⟩
 split
 ·exact⟨_,_,rfl,trivial,h1,rfl⟩
 split
 ·exact⟨_,_,rfl,trivial,h1,rfl⟩
 refine cD (rC h1) fun x s1 _ h2 e2=> ?_
 split
 ·exact⟨_,_,rfl,trivial,h2,e2⟩
 ·exact e2▸qM _ _ s1 h2
theorem m5(B:World)(Fr:List HP)(bd:Nat)(c:Cfg)(hc:bx c)(w r:Int)(s:Dev)(hl:s.pow.lim<0)(hu:U64 s):
 ∀ w_,Holds B (ax bd s::Fr) w_→Calls Tryz.prog 76 [ptr bd,dU c,.agg #[i64 w,i64 r],.func (.func 104) [ptr bd].toArray #[]].toArray w_ (Ret B (fun rv H'=>∃ x s',cY gk c w r s ()= .ok (x,()) s'∧rv= .tuple #[i64 x.1,i64 x.2]∧s'.pow.lim<0∧s'.n=s.n∧U64 s'∧H'=ax bd s'::Fr) (fun _ _=>False)):=fun w_ hh=>by
 obtain⟨y,s2,hg,_,hg2,hg3⟩:=uT (c:=c) (w:=w) (r:=r) hl
 refine(ub B Fr _ [ptr bd] bd 0 Unit (fun _ _=>pr True) gk _ (um B bd 0) c hc w r s () hu w_ ((hh.unpr (p:=True) trivial).back 1 (by simp))).mono fun en w' h=> ?_
 cases en with
 | returned rv=>
   obtain⟨H,⟨x,e',s',hm,rfl,hok,rfl⟩,hh⟩:=h
   obtain⟨rfl,rfl⟩:y=(x,e')∧s2=s':=by rw[hg] at hm;cases hm;exact⟨rfl,rfl⟩
   exact⟨_,⟨x,s2,hm,rfl,hg2,hg3,hok,rfl⟩,(hh.front 1 aa).tail⟩
 | panicked c=>
   obtain⟨H,⟨s',hm,_⟩,_⟩:=h
   rw[hg] at hm;cases hm
 | outgrown=>exact h
theorem mv(f:Int→Int):∀ (k:Nat) (i:Int) (s s':Dev) (a:Unit),U64 s→ew f k i s= .ok a s'→U64 s'
 | 0,_,s,s',a,h,e=>by cases e;exact h
 | k+1,i,s,s',a,h,e=>by
   rw[wZ] at e
   obtain⟨_,s1,e1,e⟩:=aL e
   obtain⟨_,s2,e2,e⟩:=aL e
   exact mv f k _ s2 s' a (dT (cA h (by decide) e1).1 e2).1 e
theorem gx{s s':Dev}{c:Cfg}{a:Int}(h:U64 s)(hc:bx c)(e:s.format c= .ok a s'):U64 s':=by
 have:=hc.r1;have:=hc.r2;have:=hc.l1;have:=hc.l2;have:=hc.s1;have:=hc.s2
 unfold Dev.format at e
 split at e
 ·cases e;exact h
 obtain⟨_,s1,e1,e⟩:=aL e
 obtain⟨_,s2,e2,e⟩:=aL e
 obtain⟨_,s3,e3,e⟩:=aL e
 have h3:=(eY (dT (cA h (by decide) e1).1 e2).1 e3).1
 obtain⟨_,s4,e4,e⟩:=aL e
 simp only[st3] at e4
 obtain⟨_,t1,f1,e4⟩:=aL e4
 obtain⟨_,t2,f2,e4⟩:=aL e4
 obtain⟨_,t3,f3,e4⟩:=aL e4
 have g1:=(cA h3 (show 0≤c.log∧c.log<_ by omega) f1).1
 have g2:=(cA g1 (show 0≤c.roots∧c.roots<_ by omega) f2).1
 have g3:=(cA g2 (show 0≤c.space∧c.space<_ by omega) f3).1
 cases e4
 obtain⟨_,s5,e5,e⟩:=aL e
 obtain⟨_,s6,e6,e⟩:=aL e
 obtain⟨_,s7,e7,e⟩:=aL e
 obtain⟨_,s8,e8,e⟩:=aL e
 have h8:=mv _ _ _ _ _ _ (mv _ _ _ _ _ _ (dT (cA g3 (by decide) e5).1 e6).1 e7) e8
 obtain⟨_,s9,e9,e⟩:=aL e
 obtain⟨_,s10,e10,e⟩:=aL e
 have h10:=(eY (dT h8 e9).1 e10).1
 obtain⟨_,s11,e11,e⟩:=aL e
 obtain⟨_,s12,e12,e⟩:=aL e
 obtain⟨_,s13,e13,e⟩:=aL e
 have h13:=(eY (dT (cA h10 (by decide) e11).1 e12).1 e13).1
 cases e;exact h13
theorem jh(pa N:Nat):U64 (iU pa [] N):=fun x=>by
 show 0≤(tab N (jC [])).getD x 0∧(tab N (jC [])).getD x 0<_
 rw[List.getD_eq_getElem?_getD]
 unfold tab
 by_cases h:x<N
 ·simp[h,jC]
 ·simp[h]
abbrev u8(x:Int):Value:= .int .u8 x
def mkH(h:Int×Int):Int×Int:=(h.2%9,h.1%(h.2%9+1))
def gY(c:Cfg):List (Int×Int)→Dev→List Int→Out (List Int)
 | [],s,acc=> .ok acc s
 | h::t,s,acc=>(cY gk c (mkH h).1 (mkH h).2 s ()).then fun x s'=>gY c t s' (if x.1.2=0 then acc++[x.1.1] else acc)
theorem zA(B:World)(H:List HP)(h:Int×Int)(h0:0≤h.1∧h.1<256)(h1:0≤h.2∧h.2<256):
 ∀ w,Holds B H w→Calls Tryz.prog 249 [.agg #[u8 h.1,u8 h.2]].toArray w (aZ B H (.agg #[i64 (mkH h).1,i64 (mkH h).2])):=by
 refine ak func249 aa ntmps249 aa (ac (ab (kPb (aY aa) aa fun b1=>(kPb (aD zeroValue63 aa) aa fun b2=>(ad (ac (ab (kPl zR isAgg5 aa aa aa aa (kPv (et (c:=h.2%9) aa aa (by decide) (lQ 9 (by omega))) aa (kPv (bY runUnderlying5 runUnderlying3 aa) aa (kPa aa aa ?_)))))))))))
 refine ad (ac (ab (kPm aa aa (kPl zS isAgg5 aa aa aa aa (kPv (bY runUnderlying5 runUnderlying3 aa) aa (kPm aa aa (kPv (aP aa aa) aa (kPv (et (c:=h.1%(h.2%9+1)) aa aa (by omega) (lQ _ (by omega))) aa (kPv (aR aa (lD _ _ aa aa)) aa (kPs (aA (vs:=_) sizeOf63 aa aa aa aa aa) aa (ad ?_)))))))))))
 refine aj [2] rfl (au ?_)
 exact qg results249 (.cellA aa isAgg63 sizeOf63 aa aa) (fun w hw=>⟨rfl,hw.tail.tail⟩)
theorem qS(B:World)(Fr:List HP)(x0 x1 x2:Int)(hx:0≤x0∧0≤x1∧0≤x2)(c:Cfg)(hcm:c=mkC x0 x1 x2)(hs:List (Int×Int))(hhs:∀ h∈hs,(0≤h.1∧h.1<256)∧(0≤h.2∧h.2<256))(hlen:hs.length≤100000)(q:Option Addr)(cap:Nat)(hv:SlN B Fr (.slice q hs.length cap) 2 (hs.map fun h=>[u8 h.1,u8 h.2])):
 ∀ w_,Holds B Fr w_→Calls Tryz.prog 230 [.agg #[u16 x0,u16 x1,u16 x2],.slice q hs.length cap].toArray w_ (Ret B (fun rv H'=>∃ (bd pa N:Nat) (s0 s':Dev) (out:List Int) (ov sv:Value),Fmt c N s0∧(N:Int)=c.words∧(U64 s0∧(iU pa [] N).format c= .ok 0 s0)∧gY c hs s0 []= .ok out s'∧U64 s'∧s'.pow.lim<0∧s'.n=N∧aN ov=true∧aN sv=true∧rv= .tuple #[ptr bd,dU c,lC (s'.block c).1 sv,ov]∧H'=da 0 (sv,(s'.block c).1.rts)::ax bd s'::dQ 3 i64 0 (ov,out)::Fr) (fun _ _=>False)):=by
 refine ak func230 aa ntmps230 aa ?_
 have hc:bx c:=by rw[hcm];exact vT hx.1 hx.2.1 hx.2.2
 refine ac (ab (kPb (aY aa) aa fun b2=>(kPa aa aa (kPb (aD zeroValue39 aa) aa fun b5=>(kPb (aD zeroValue125 aa) aa fun b6=>(kPa aa aa (ad (ac (ab (kPv (ah isAgg48 sizeOf48 aa aa) aa ?_))))))))))
 refine ap aa (ar call24 aa) (zj _ _ x0 x1 x2 c hcm hx.1 hx.2.1 hx.2.2) .free aa aa ?_
 refine kPb (aD zeroValue39 aa) aa fun b8=>(kPs (aA (vs:=_) sizeOf39 aa aa aa aa aa) aa (ad (ac (ab (kPv (ah isAgg39 sizeOf39 aa aa) aa ?_)))))
 refine aE aa (ar call70 aa) (dZ _ _ c hc none 0 [] (by decide) (fun _ h=>absurd h (Nat.not_lt_zero _)) SlR.nil) .free aa aa ?_
 rintro _ _ ⟨bd,pa,N,s0,hN,hf,rfl,rfl⟩
 have hfm:=mN hc hN hf
 have hu0:=gx (jh pa N) hc hf
 refine kPm aa aa (kPv (az aa aa) aa (kPv (az aa aa) aa (kPa aa aa (kPa aa aa (ad (aj [10,9,8,7,6,5,4,1] rfl (ac (ac (ab (kPm aa aa (kPv (bu aa) aa ?_)))))))))))
 refine ad (bH aa (rfl) (aw (ac (ab (kPa aa aa (ad (ac (ac (ab (kPm aa aa (kPv (bS aa runUnderlying280 ⟨_,rfl⟩ rfl) aa ?_)))))))))))
 refine kPm aa aa (ad (aI (dF (ι:=Nat×Dev×Value×List Int) (fun i=>i.1≤hs.length∧U64 i.2.1∧i.2.1.pow.lim<0∧i.2.1.n=N∧aN i.2.2.1=true∧i.2.2.2.length≤i.1∧gY c hs s0 []=gY c (hs.drop i.1) i.2.1 i.2.2.2) (fun i=>[(4,.pointer none),(5,ptr b5),(6,ptr b6),(7,.slice none 0 0),(8,ptr b8),(9,ptr bd),(11,i.2.2.1),(29,.slice q hs.length cap),(30,i64 hs.length),(31,i64 i.1)]) (fun i=>ax bd i.2.1::dQ 3 i64 0 (i.2.2.1,i.2.2.2)::row b8 [i64 c.log,i64 c.roots,i64 c.space] 39::row b6 [i64 0,i64 0,.slice none 0 0] 125::row b5 [i64 0,i64 0,i64 0] 39::row b2 [u16 x0,u16 x1,u16 x2] 48::Fr) (fun i=>hs.length - i.1) (0,s0,.slice none 0 0,[]) ⟨Nat.zero_le _,hu0,hfm.lim,hfm.n,rfl,Nat.le_refl _,rfl⟩ (fun a w st=>st.to ⟨rfl,rfl,rfl,rfl,rfl,rfl,rfl,rfl,rfl,rfl,trivial⟩ (fun hh=>(fE hh).front 1 aa)) ?_)))
 rintro⟨k,sL,ov,out⟩ ⟨hk1,huL,hlL,hnL,hov,hol,hinv⟩
 simp only at hk1 huL hlL hnL hov hol hinv ⊢
 refine ac (ab (kPv (am aa aa aa) aa (ad (ac ?_))))
 refine aV aa (fun h32=> ?_) (fun h32=> ?_)
 ·have hk:k<hs.length:=by simpa using h32
  have hst:gY c (hs.drop k) sL out=(cY gk c (mkH hs[k]).1 (mkH hs[k]).2 sL ()).then fun x s'=>gY c (hs.drop (k+1)) s' (if x.1.2=0 then out++[x.1.1] else out):=by
   rw[List.drop_eq_getElem_cons hk]
   rfl
  refine aw (ac (aI (ac (ab (CU ((((((hv.cons _).cons _).cons _).cons _).cons _).cons _) (by simp;omega) fun bV oV hq=> ?_)))))
  subst hq
  refine kPv (qY (m:=oV+k*2) runUnderlying280 sizeOf279 aa aa (by omega) (by omega) (by omega)) aa ?_
  refine kPv (mj (i:=k) (c:=[u8 hs[k].1,u8 hs[k].2]) isAgg279 sizeOf279 ((((((hv.cons _).cons _).cons _).cons _).cons _).cons _) aa (by simp[List.getElem?_eq_getElem hk])) aa ?_
  refine kPb (aD zeroValue279 aa) aa fun b13=>(kPs (aA (vs:=_) sizeOf279 aa aa aa aa aa) aa (ad (aj [13,31,30,29,11,9,8,7,6,5,4] rfl (ac (wx [6] Tryz.mixed (by kernel_rfl) (by kernel_rfl) ?_)))))
  refine B5 (kQm aa aa (kQv (ah isAgg39 sizeOf39 aa aa) aa ?_))
  refine kQv (ah isAgg279 sizeOf279 aa aa) aa ?_
  refine bj aa (ar call249 aa) (zA _ _ (hs[k]) (hhs _ (List.getElem_mem hk)).1 (hhs _ (List.getElem_mem hk)).2) .free aa ?_
  refine kQm aa aa (kQv (c7 aa aa) aa (bM (dG ax bd (aE aa (ar call76 aa) (m5 _ _ bd c hc _ _ sL hlL huL) .free aa aa ?_))))
  rintro _ _ ⟨x1,s1,hm1,rfl,hl1,hn1,hu1,rfl⟩
  refine ad (B6 (kQm aa aa (kQv (az aa aa) aa (kQv (az aa aa) aa (kQa aa aa (kQa aa aa (bM (aj [15,14,31,30,29,11,9,8,7,6,5,4] rfl (ac (ab (kPm aa aa ?_)))))))))))
  refine kPv (am aa aa aa) aa (ad ?_)
  refine aV aa (fun h46=> ?_) (fun h46=> ?_)
  ·have hk2:x1.2=0:=by simpa using h46
   refine ab (kPm aa aa (kPm aa aa (kPb (gA runUnderlying59 sizeOf3 zeroValue3 aa aa aa) aa fun b49=>(dE 3 aa ?_))))
   simp only[List.eraseIdx_cons_succ,List.eraseIdx_cons_zero]
   refine cX aa (fC aa aa runUnderlying59 runUnderlying59 ⟨_,rfl⟩ sizeOf3 zeroValue3 aa (fun _=>rfl) yr aa aa (by omega)) .free aa aa ?_
   rintro ov2 _ ⟨hov2,rfl⟩
   refine kPa aa aa (ad (aj [11,31,30,29,9,8,7,6,5,4] rfl (ab (kPv (aP aa aa) aa (kPm aa aa (ad ?_))))))
   exact fun a w st=>⟨(k+1,s1,ov2,out++[x1.1]),⟨by simp only;omega,hu1,hl1,hn1.trans hnL,hov2,by simp;omega,by rw[hinv,hst,hm1,aU,if_pos hk2]⟩,by simp only;omega,st.to ⟨rfl,rfl,rfl,rfl,rfl,rfl,rfl,rfl,rfl,rfl,trivial⟩ (fun hh=>(((hh.front 2 aa).tail.front 0 aa).front 1 aa))⟩
  ·have hk2:¬ x1.2=0:=by simpa using h46
   refine aw (ab (kPv (aP aa aa) aa (kPm aa aa (ad ?_))))
   exact fun a w st=>⟨(k+1,s1,ov,out),⟨by simp only;omega,hu1,hl1,hn1.trans hnL,hov,by simp only;omega,by rw[hinv,hst,hm1,aU,if_neg hk2]⟩,by simp only;omega,st.to ⟨rfl,rfl,rfl,rfl,rfl,rfl,rfl,rfl,rfl,rfl,trivial⟩ (fun hh=>(((hh.front 1 aa).tail.front 1 aa).front 1 aa))⟩
 ·have hk:¬ k<hs.length:=by simpa using h32
  refine bJ (ac (ab (kPm aa aa (kPv (ah isAgg39 sizeOf39 aa aa) aa ?_))))
  refine dG ax bd (aE aa (ar call135 aa) (fX _ _ _ _ c hc huL) .free aa aa ?_)
  rintro _ _ ⟨sv,hsv,rfl,rfl⟩
  refine kPm aa aa (kPv (az aa aa) aa (kPv (az aa aa) aa (kPb (aD zeroValue125 aa) aa fun b16=>(kPs (aA (vs:=[i64 (sL.block c).1.act,i64 (sL.block c).1.used,sv]) sizeOf125 aa aa aa (eB hsv) aa) aa (aK (H':=row b16 [i64 (sL.block c).1.act,i64 (sL.block c).1.used,sv] 125::_) (fun w hh=>hh) (kPa aa aa (ad (aj [16,11,9,8,7,6,5,4] rfl (ac (cQ [0,1,2,3,4,5,6,7] [5,6] [2,3] [5,6] [row b16 [i64 (sL.block c).1.act,i64 (sL.block c).1.used,sv] 125] Tryz.mixed (by kernel_rfl) ?_))))))))))
  refine aT aa aa aa (al aa) .free aa (aT aa aa aa (ah isAgg39 sizeOf39 aa aa) .free aa ?_)
  refine an aa aa aa (ah isAgg125 sizeOf125 aa aa) .free aa ?_
  refine an aa aa aa (al aa) .free aa (aT aa aa aa (bE aa) .free aa (aS aa aa (kPs (aA (vs:=_) sizeOf39 aa aa aa aa aa) aa (ad (cL (aS aa aa (kPs (aA (vs:=[i64 (sL.block c).1.act,i64 (sL.block c).1.used,sv]) sizeOf125 aa aa aa (eB hsv) aa) aa (ad (cL (aT aa aa aa (bE aa) .free aa (cM ?_)))))))))))
  refine aj [7,4,6,5] rfl (au ?_)
  exact yT results230 (.tmp aa) (.cellA aa isAgg39 sizeOf39 aa aa) (.cellA aa isAgg125 sizeOf125 aa aa) (.tmp aa) (fun w hh=>⟨_,⟨bd,pa,N,s0,sL,out,ov,sv,hfm,hN,⟨hu0,hf⟩,by rw[hinv,List.drop_eq_nil_of_le (by omega)];rfl,huL,hlL,hnL,hov,hsv,rfl,rfl⟩,((((((((hh.front 7 aa).front 7 aa).front 7 aa).front 7 aa).front 4 aa).tail.tail.tail.tail.tail.front 2 aa).front 2 aa).front 2 aa)⟩)
theorem qU{ε:Type}{op:Int→Int→Dev→ε→Out (Int×ε)}{a h:Int}:∀ (f:Nat) (i:Int) (s s':Dev) (e e':ε) (x:Int×Int),fA op a h f i s e= .ok (x,e') s'→x.2=0→x.1=a
 | 0,_,s,s',e,e',x,hm,hx=>by cases hm;rfl
 | f+1,i,s,s',e,e',x,hm,hx=>by
   unfold fA at hm
   obtain⟨y,s1,e1,hm⟩:=aL hm
   split at hm
   ·cases hm;rename_i hne;exact absurd hx hne
   ·exact qU f _ s1 s' _ e' x hm hx
theorem vw{ε:Type}{op:Int→Int→Dev→ε→Out (Int×ε)}{c:Cfg}{w r:Int}{s s':Dev}{e e':ε}{x:Int×Int}(hm:cY op c w r s e= .ok (x,e') s')(hx:x.2=0):x.1=(s.block c).1.place c (s.block c).1.used:=by
 unfold cY at hm
 split at hm
 ·rename_i h;cases hm;exact absurd hx h
 split at hm
 ·rename_i h;cases hm;exact absurd hx h
 split at hm
 ·cases hm;exact absurd hx (by decide)
 obtain⟨y,s1,e1,hm⟩:=aL hm
 split at hm
 ·rename_i h;cases hm;exact absurd hx h
 ·exact qU _ _ _ _ _ _ _ hm hx
theorem nz{ε:Type}{op:Int→Int→Dev→ε→Out (Int×ε)}{ok:Dev→ε→Prop}(K:∀ i v s e a e' s',ok s e→0≤v∧v<18446744073709551616→op i v s e= .ok (a,e') s'→ok s' e'){a h:Int}(hh:0≤h∧h<18446744073709551616):∀ (f:Nat) (i:Int) (s s':Dev) (e e':ε) (x:Int×Int),ok s e→fA op a h f i s e= .ok (x,e') s'→ok s' e'
 | 0,_,s,s',e,e',x,h0,hm=>by cases hm;exact h0
 | f+1,i,s,s',e,e',x,h0,hm=>by
   unfold fA at hm
   obtain⟨⟨y,e1⟩,s1,h1,hm⟩:=aL hm
   have h2:=K _ _ _ _ _ _ _ h0 (by split<;>first | exact hh | decide) h1
   split at hm
   ·cases hm;exact h2
   ·exact nz K hh f _ s1 s' _ e' x h2 hm
theorem rV{ε:Type}{op:Int→Int→Dev→ε→Out (Int×ε)}{ok:Dev→ε→Prop}(K:∀ i v s e a e' s',ok s e→0≤v∧v<18446744073709551616→op i v s e= .ok (a,e') s'→ok s' e'){c:Cfg}(hc:bx c){w r:Int}{s s':Dev}{e e':ε}{x:Int×Int}(hb:fU c (s.block c).1)(h0:ok s e)(hm:cY op c w r s e= .ok (x,e') s'):ok s' e':=by
 have h1:=hb.used
 have h2:=hc.s2
 unfold cY at hm
 split at hm
 ·cases hm;exact h0
 rename_i hk
 have hw:=va (w:=w) (r:=r) (by omega)
 split at hm
 ·cases hm;exact h0
 split at hm
 ·cases hm;exact h0
 obtain⟨⟨y,e1⟩,s1,h3,hm⟩:=aL hm
 have h4:=K _ _ _ _ _ _ _ h0 ⟨by omega,by omega⟩ h3
 split at hm
 ·cases hm;exact h4
 ·exact nz K (rt w r) _ _ _ _ _ _ _ h4 hm
theorem tL:∀ (i v:Int) (s:Dev) (e:Unit) (a:Int) (e':Unit) (s':Dev),U64 s→0≤v∧v<18446744073709551616→gk i v s e= .ok (a,e') s'→U64 s':=fun i v s e a e' s' h hv hm=>by
 obtain⟨_,s1,h1,hm⟩:=aL hm
 cases hm;exact(cA h hv h1).1
theorem vN{c:Cfg}(hc:bx c){b:Blk}(hb:fU c b){i:Int}(hi:0≤i∧i≤c.space):0≤b.place c i∧b.place c i≤20000:=by
 have h1:=iI hc (k:=b.act) (by have:=hb.act;omega)
 have h2:=hb.act
 unfold Blk.place
 rcases (by omega:b.act=0∨b.act=1) with e | e<;>(rw[e] at h1 ⊢;omega)
theorem wA{c:Cfg}(hc:bx c):∀ (hs:List (Int×Int)) (s s':Dev) (acc out:List Int),U64 s→gY c hs s acc= .ok out s'→(∀ a∈acc,0≤a∧a≤20000)→∀ a∈out,0≤a∧a≤20000
 | [],s,s',acc,out,_,hm,h=>by cases hm;exact h
 | t::hs,s,s',acc,out,hu,hm,h=>by
   unfold gY at hm
   obtain⟨⟨x,e'⟩,s1,e1,hm⟩:=aL hm
   have hb:=dB (s:=s) hc hu
   refine wA hc hs s1 s' _ out (rV (ok:=fun s _=>U64 s) tL hc hb hu e1) hm fun a ha=> ?_
   split at ha
   ·rename_i hx
    rcases List.mem_append.1 ha with ha | ha
    ·exact h a ha
    ·rw[List.mem_singleton.1 ha,vw e1 hx]
     exact vN hc hb hb.used
   ·exact h a ha
theorem hZ{s:Dev}{c:Cfg}(hc:bx c){b:Blk}(hb:fU c b){a:Int}(h:(s.objOf c b a).2=0):k8 (s.objOf c b a).1:=by
 unfold Dev.objOf at h ⊢
 split at h
 ·cases h
 split at h
 ·cases h
 rename_i h1 h2
 rw[if_neg h1,if_neg h2]
 have h3:=p7 (s.load a)
 have h4:=kJ hc hb (w:=a) (by cases hh:b.has c a with
  | true=>rfl
  | false=>exact absurd (.inr hh) h1)
 exact⟨⟨h3.1,h3.2.1⟩,⟨h3.2.2.1,h3.2.2.2⟩,⟨by simp only;omega,by simp only;omega⟩⟩
theorem tv{o:dq}{i v:Int}{r:Bool}{s:Dev}(h1:s.pow.lim<0):na (hO gk o i r v s ()) (fun _=>True) s.n:=by
 unfold hO
 split
 ·exact⟨_,_,rfl,trivial,h1,rfl⟩
 ·exact rC h1
theorem uG(B:World)(Fr:List HP)(bd:Nat)(o:dq)(ho:k8 o)(i v:Int)(hv:0≤v∧v≤9223372036854775807)(s:Dev)(hl:s.pow.lim<0)(hu:U64 s):
 ∀ w_,Holds B (ax bd s::Fr) w_→Calls Tryz.prog 81 [gL o,i64 i,i64 v,.func (.func 104) [ptr bd].toArray #[]].toArray w_ (Ret B (fun rv H'=>∃ x s',hO gk o i true v s ()= .ok (x,()) s'∧rv=i64 x∧s'.pow.lim<0∧s'.n=s.n∧U64 s'∧H'=ax bd s'::Fr) (fun _ _=>False)):=fun w_ hh=>by
 obtain⟨y,s2,hg,_,hg2,hg3⟩:=tv (o:=o) (i:=i) (v:=v) (r:=true) hl
 refine(qi B Fr _ [ptr bd] bd 0 Unit (fun _ _=>pr True) gk _ (um B bd 0) o ho i v hv s () hu w_ ((hh.unpr (p:=True) trivial).back 1 (by simp))).mono fun en w' h=> ?_
 cases en with
 | returned rv=>
   obtain⟨H,⟨x,e',s',hm,rfl,hok,rfl⟩,hh⟩:=h
   obtain⟨rfl,rfl⟩:y=(x,e')∧s2=s':=by rw[hg] at hm;cases hm;exact⟨rfl,rfl⟩
   exact⟨_,⟨x,s2,hm,rfl,hg2,hg3,hok,rfl⟩,(hh.front 1 aa).tail⟩
 | panicked c=>
   obtain⟨H,⟨s',hm,_⟩,_⟩:=h
   rw[hg] at hm;cases hm
 | outgrown=>exact h
theorem qT{c:Cfg}:∀ {hs:List (Int×Int)} {s s':Dev} {acc out:List Int},gY c hs s acc= .ok out s'→out.length≤acc.length+hs.length
 | [],s,s',acc,out,hm=>by cases hm;exact Nat.le_add_right _ _
 | t::hs,s,s',acc,out,hm=>by
   unfold gY at hm
   obtain⟨⟨x,e'⟩,s1,e1,hm⟩:=aL hm
   have:=qT hm
   split at this
   ·simp at this ⊢;omega
   ·simp at this ⊢;omega
theorem oU(B:World)(Fr:List HP)(b:Nat)(s:Dev)(i v:Int)(hl:s.pow.lim<0)(hu:U64 s)(hv:0≤v∧v<18446744073709551616):
 ∀ w,Holds B (ax b s::Fr) w→Calls Tryz.prog 104 [ptr b,i64 i,w64 v].toArray w (Ret B (fun rv H'=>∃ x s',s.store i v= .ok x s'∧rv=i64 x∧s'.pow.lim<0∧s'.n=s.n∧U64 s'∧H'=ax b s'::Fr) (fun _ _=>False)):=fun w hh=>by
 obtain⟨y,s2,hg,_,hg2,hg3⟩:=fJ (i:=i) (v:=v) hl
 refine(cI B Fr b s i v w hh).mono fun en w' h=> ?_
 cases en with
 | returned rv=>
   obtain⟨H,⟨s',⟨a,hm,rfl⟩,rfl⟩,hh⟩:=h
   obtain⟨rfl,rfl⟩:y=a∧s2=s':=by rw[hg] at hm;cases hm;exact⟨rfl,rfl⟩
   exact⟨_,⟨y,s2,hg,rfl,hg2,hg3,(cA hu hv hg).1,rfl⟩,hh⟩
 | panicked c=>
   obtain⟨H,⟨s',⟨hm,_⟩,_⟩,_⟩:=h
   rw[hg] at hm;cases hm
 | outgrown=>exact h
theorem cy{B:World}{n:Nat}{D:List Deferred}{σ:Env}{Fr:List HP}{K:Act→World→Prop}{T:TypeId}{enc:Int→Value}{sv:Value}{xs:List Int}(h:∀ q cap,sv= .slice q xs.length cap→(∀ i,i<xs.length→∃ b off,q=some ⟨b,off,none⟩)→GO B n D σ (dQ T enc 0 (sv,xs)::Fr) K):GO B n D σ (dQ T enc 0 (sv,xs)::Fr) K:=fun a w st=>by
 rcases fP st.holds with ⟨e1,e2,_⟩ | ⟨bd,pre,rest,k,_,e,_⟩
 ·exact h none 0 (by rw[e2,e1];rfl) (fun i hi=>by rw[e1] at hi;exact absurd hi (Nat.not_lt_zero _)) a w st
 ·exact h _ _ e (fun _ _=>⟨_,_,rfl⟩) a w st
def dC(l out:List Int)(sp:Int)(k:Nat):Int:=
 if l.length≤k∨out.length=0∨l.getD k 0%5=0 then 0
 else if 0<sp∧l.getD k 0%sp=1 then out.getD (l.getD k 0%out.length).toNat 0+1 else out.getD (l.getD k 0%out.length).toNat 0
theorem rr{l out:List Int}{sp:Int}{k:Nat}(hob:∀ x∈out,0≤x∧x≤20000):0≤dC l out sp k∧dC l out sp k≤20001:=by
 have h:∀ j,0≤out.getD j 0∧out.getD j 0≤20000:=fun j=>by
  rw[List.getD_eq_getElem?_getD]
  by_cases hj:j<out.length
  ·rw[List.getElem?_eq_getElem hj];exact hob _ (List.getElem_mem hj)
  ·rw[List.getElem?_eq_none (by omega)];decide
 unfold dC
 split
 ·decide
 ·have h1:=h (l.getD k 0%(out.length:Int)).toNat
  split<;>omega
def kl(f:Nat→Int)(o:dq):Nat→Nat→Int→Dev→Out Nat
 | 0,n,_,s=> .ok n s
 | k+1,n,i,s=>(hO gk o i true (f n) s ()).then fun _ s'=>kl f o k (n+1) (i+1) s'
def eI(c:Cfg)(b:Blk)(f:Nat→Int):List Int→Nat→Dev→Out (Option Nat)
 | [],n,s=> .ok (some n) s
 | a::t,n,s=>if (s.objOf c b a).2≠0 then .ok none s else (kl f (s.objOf c b a).1 (s.objOf c b a).1.2.1.toNat n 0 s).then fun n' s'=>eI c b f t n' s'
theorem lh(c:Cfg)(b:Blk)(f:Nat→Int)(a:Int)(t:List Int)(n:Nat)(s:Dev):eI c b f (a::t) n s=if (s.objOf c b a).2≠0 then .ok none s else (kl f (s.objOf c b a).1 (s.objOf c b a).1.2.1.toNat n 0 s).then fun n' s'=>eI c b f t n' s':=rfl
def fN(c:Cfg)(f:Nat→Int):Nat→Nat→Int→Dev→Out Nat
 | 0,n,_,s=> .ok n s
 | k+1,n,i,s=>(s.store (c.root i) (f n)).then fun _ s'=>fN c f k (n+1) (i+1) s'
theorem tc(B:World)(Fr:List HP)(b0 b1 b2 b3:Nat)(n:Nat)(ql qo:Option Addr)(cl co:Nat)(l out:List Int)(sp:Int)(hn:n≤1000000000)(hl:SlR B Fr (.slice ql l.length cl) (l.map u16))(ho:SlR B Fr (.slice qo out.length co) (out.map i64))(hlb:∀ x∈l,0≤x∧x<65536)(hob:∀ x∈out,0≤x∧x≤20000)(hlen:l.length≤1000000∧out.length≤1000000)(hsp:0≤sp∧sp<256)(hql:∀ i,i<l.length→∃ b off,ql=some ⟨b,off,none⟩)(hqo:∀ i,i<out.length→∃ b off,qo=some ⟨b,off,none⟩):
 ∀ w,Holds B (row b0 [i64 n] 3::row b1 [.slice ql l.length cl] 303::row b2 [.slice qo out.length co] 59::row b3 [u8 sp] 5::Fr) w→Calls Tryz.prog 231 [ptr b0,ptr b1,ptr b2,ptr b3].toArray w (Ret B (fun rv H'=>rv=w64 (dC l out sp n)∧H'=row b0 [i64 (n+1:Nat)] 3::row b1 [.slice ql l.length cl] 303::row b2 [.slice qo out.length co] 59::row b3 [u8 sp] 5::Fr) (fun _ _=>False)):=by
 refine ak func231 aa ntmps231 aa (ac (ab (kPa aa aa (ad (ac (ac (ab (kPv (ag isAgg3 aa aa) aa (kPv (aP aa aa) aa (kPs (aO sizeOf3 aa aa aa aa) aa (ad ?_)))))))))))
 refine ac (ab (kPv (ag isAgg3 aa aa) aa (kPv (ag isAgg303 aa aa) aa (kPv (bS aa runUnderlying303 ⟨_,rfl⟩ rfl) aa (kPv (am aa aa aa) aa (kPm aa aa ?_))))))
 apply gJ (tp:=16) (t:=12) (σ1:=[(12,_),(4,_),(0,_),(1,_),(2,_),(3,_)]) 4 rfl (aG rfl)
 ·intro hg1
  refine ao aa (ag isAgg59 aa aa) (.on aa aa (ae hg1)) aa aa (ao aa (bS aa runUnderlying59 ⟨_,rfl⟩ rfl) (.on aa aa (ae hg1)) aa aa (ao aa (am aa aa aa) (.on aa aa (ae hg1)) aa aa (kPv (aJ aa hg1 aa) aa ?_)))
  exact bf aa (aG aa) (ga hg1)
 ·intro hg1
  refine ay aa (.on aa aa (ai hg1)) aa (ay aa (.on aa aa (ai hg1)) aa (ay aa (.on aa aa (ai hg1)) aa (kPv (aB aa hg1 aa) aa ?_)))
  exact bf aa (aG aa) (f9 hg1)
 refine kPm aa aa ?_
 apply gJ (tp:=25) (t:=17) (σ1:=[(17,_),(4,_),(0,_),(1,_),(2,_),(3,_)]) 8 rfl (aG rfl)
 ·intro hg2
  refine ao aa (ag isAgg303 aa aa) (.on aa aa (ae hg2)) aa aa (ao aa (ag isAgg3 aa aa) (.on aa aa (ae hg2)) aa aa (ao aa (fF aa aa) (.on aa aa (ae hg2)) aa aa ?_))
  have hnl:n<l.length:=by simp at hg2;omega
  obtain⟨bL,oL,rfl⟩:=hql n hnl
  have hn1:((n:Int)+1 - 1).toNat=n:=by omega
  have hlx:=hlb (l.getD n 0) (by rw[List.getD_eq_getElem?_getD,List.getElem?_eq_getElem hnl];exact List.getElem_mem hnl)
  refine ao aa (cC runUnderlying303 sizeOf46 aa aa (by omega) (by omega)) (.on aa aa (ae hg2)) aa aa (ao aa (cf (v:=u16 (l.getD n 0)) isAgg46 ((((hl.cons _).cons _).cons _).cons _) aa (by rw[hn1];simp[hnl])) (.on aa aa (ae hg2)) aa aa (ao aa (et (c:=l.getD n 0%5) aa aa (by decide) (lQ 5 (by omega))) (.on aa aa (ae hg2)) aa aa (ao aa (am aa aa aa) (.on aa aa (ae hg2)) aa aa (kPv (aJ aa hg2 aa) aa ?_))))
  exact bf aa (aG aa) (ga hg2)
 ·intro hg2
  refine ay aa (.on aa aa (ai hg2)) aa (ay aa (.on aa aa (ai hg2)) aa (ay aa (.on aa aa (ai hg2)) aa (ay aa (.on aa aa (ai hg2)) aa (ay aa (.on aa aa (ai hg2)) aa (ay aa (.on aa aa (ai hg2)) aa (ay aa (.on aa aa (ai hg2)) aa (kPv (aB aa hg2 aa) aa ?_)))))))
  exact bf aa (aG aa) (f9 hg2)
 refine ad ?_
 refine aV aa (fun h25=> ?_) (fun h25=> ?_)
 ·have hres:dC l out sp n=0:=by
   unfold dC
   rw[if_pos (by simp[-List.length_eq_zero_iff] at h25 ⊢;omega)]
  refine ac (ab (kPa aa aa (ad (au ?_))))
  exact aq results231 aa (fun w hw=>⟨_,⟨by rw[hres],rfl⟩,hw⟩)
 ·have hcnd:n<l.length∧out.length≠0∧l.getD n 0%5≠0:=by simp[-List.length_eq_zero_iff] at h25 ⊢;omega
  have hnl:=hcnd.1
  have hlx:=hlb (l.getD n 0) (by rw[List.getD_eq_getElem?_getD,List.getElem?_eq_getElem hnl];exact List.getElem_mem hnl)
  have hn1:((n:Int)+1 - 1).toNat=n:=by omega
  obtain⟨bL,oL,rfl⟩:=hql n hnl
  have hop:(0:Int)<out.length:=by omega
  obtain⟨j,hj0⟩:∃ j:Nat,(j:Int)=l.getD n 0%(out.length:Int):=⟨(l.getD n 0%(out.length:Int)).toNat,by rw[Int.toNat_of_nonneg (Int.emod_nonneg _ (by omega))]⟩
  have hj:j<out.length:=by have:=Int.emod_lt_of_pos (l.getD n 0) hop;omega
  have hjm:(l.getD n 0).tmod (out.length:Int)=j:=by rw[lQ _ (by omega)];omega
  have hox:=hob (out.getD j 0) (by rw[List.getD_eq_getElem?_getD,List.getElem?_eq_getElem hj];exact List.getElem_mem hj)
  obtain⟨bO,oO,rfl⟩:=hqo j hj
  have hjt:(l.getD n 0%(out.length:Int)).toNat=j:=by omega
  have hcnd2:¬(l.length≤n∨out.length=0∨l.getD n 0%5=0):=by omega
  refine aw (ac (cN Tryz.mixed (by kernel_rfl) (by kernel_rfl) ?_))
  refine kQv (ag isAgg59 aa aa) aa (kQv (ag isAgg303 aa aa) aa (kQv (ag isAgg3 aa aa) aa (kQv (fF aa aa) aa (kQv (cC runUnderlying303 sizeOf46 aa aa (by omega) (by omega)) aa (kQv (cf (v:=u16 (l.getD n 0)) isAgg46 ((((hl.cons _).cons _).cons _).cons _) aa (by rw[hn1];simp[hnl])) aa (kQv (bY runUnderlying46 runUnderlying3 aa) aa (kQv (ag isAgg59 aa aa) aa (kQv (bS aa runUnderlying59 ⟨_,rfl⟩ rfl) aa (kQv (et (c:=(j:Int)) aa aa (by omega) hjm) aa (kQv (cC runUnderlying59 sizeOf3 aa aa (by omega) (by omega)) aa (kQv (cf (v:=i64 (out.getD j 0)) isAgg3 ((((ho.cons _).cons _).cons _).cons _) aa (by simp[hj])) aa ?_)))))))))))
  refine kQa aa aa (bM (aj [5,4,0,1,3] rfl (ac (ac (cN Tryz.mixed (by kernel_rfl) (by kernel_rfl) ?_)))))
  refine kQv (ag isAgg5 aa aa) aa (kQv (am aa aa aa) aa (kQm aa aa ?_))
  apply nl (tp:=50) (t:=40) (σ1:=[(40,_),(5,_),(4,_)]) 10 rfl (aG rfl)
  ·intro hg3
   refine bg aa (ag isAgg303 aa aa) (.on aa aa (ae hg3)) aa (bg aa (ag isAgg3 aa aa) (.on aa aa (ae hg3)) aa (bg aa (fF aa aa) (.on aa aa (ae hg3)) aa (bg aa (cC runUnderlying303 sizeOf46 aa aa (by omega) (by omega)) (.on aa aa (ae hg3)) aa (bg aa (cf (v:=u16 (l.getD n 0)) isAgg46 ((((hl.cons _).cons _).cons _).cons _) aa (by rw[hn1];simp[hnl])) (.on aa aa (ae hg3)) aa (bg aa (ag isAgg5 aa aa) (.on aa aa (ae hg3)) aa (bg aa (cR runUnderlying5 runUnderlying46 aa (show IntKind.u16.wrap sp=sp by simp[IntKind.wrap,IntKind.bits,IntKind.signed];omega)) (.on aa aa (ae hg3)) aa ?_))))))
   have hsp0:0<sp:=by simpa using hg3
   refine bg aa (et (c:=l.getD n 0%sp) aa aa (by omega) (lQ _ (by omega))) (.on aa aa (ae hg3)) aa (bg aa (am aa aa aa) (.on aa aa (ae hg3)) aa (kQv (aB aa hg3 aa) aa ?_))
   exact fp aa (aG aa) (dj hg3)
  ·intro hg3
   refine ba aa (.on aa aa (ai hg3)) aa (ba aa (.on aa aa (ai hg3)) aa (ba aa (.on aa aa (ai hg3)) aa (ba aa (.on aa aa (ai hg3)) aa (ba aa (.on aa aa (ai hg3)) aa (ba aa (.on aa aa (ai hg3)) aa (ba aa (.on aa aa (ai hg3)) aa (ba aa (.on aa aa (ai hg3)) aa (ba aa (.on aa aa (ai hg3)) aa (kQv (aJ aa hg3 aa) aa ?_)))))))))
   exact fp aa (aG aa) (dl hg3)
  refine bM ?_
  refine aV aa (fun h50=> ?_) (fun h50=> ?_)
  ·have hk:0<sp∧l.getD n 0%sp=1:=by simpa using h50
   have hres:dC l out sp n=out.getD j 0+1:=by unfold dC;rw[if_neg hcnd2,if_pos hk,hjt]
   refine ab (kPm aa aa (kPv (aP aa aa) aa (kPa aa aa (ad (ac (ab (kPm aa aa (kPv (cR runUnderlying3 runUnderlying24 aa (fk (by omega))) aa (kPa aa aa (ad (aj [4] rfl ?_)))))))))))
   refine au ?_
   exact aq results231 aa (fun w hw=>⟨_,⟨by rw[hres],rfl⟩,hw⟩)
  ·have hk:¬ (0<sp∧l.getD n 0%sp=1):=by simpa using h50
   have hres:dC l out sp n=out.getD j 0:=by unfold dC;rw[if_neg hcnd2,if_neg hk,hjt]
   refine aw (ac (ab (kPm aa aa (kPv (cR runUnderlying3 runUnderlying24 aa (fk (by omega))) aa (kPa aa aa (ad (au ?_)))))))
   exact aq results231 aa (fun w hw=>⟨_,⟨by rw[hres],rfl⟩,hw⟩)
theorem kT(B:World)(Fr:List HP)(x0 x1 x2:Int)(hx:0≤x0∧0≤x1∧0≤x2)(c:Cfg)(hcm:c=mkC x0 x1 x2)(hs:List (Int×Int))(hhs:∀ h∈hs,(0≤h.1∧h.1<256)∧(0≤h.2∧h.2<256))(hlen:hs.length≤100000)(q:Option Addr)(cap:Nat)(hv:SlN B Fr (.slice q hs.length cap) 2 (hs.map fun h=>[u8 h.1,u8 h.2]))(ql:Option Addr)(cl:Nat)(l:List Int)(hl:SlR B Fr (.slice ql l.length cl) (l.map u16))(hlb:∀ x∈l,0≤x∧x<65536)(hll:l.length≤1000000)(hql:∀ i,i<l.length→∃ b off,ql=some ⟨b,off,none⟩)(sp:Int)(hsp:0≤sp∧sp<256):
 ∀ w_,Holds B Fr w_→Calls Tryz.prog 208 [.agg #[u16 x0,u16 x1,u16 x2],.slice q hs.length cap,.slice ql l.length cl,u8 sp].toArray w_ (Ret B (fun rv H'=>∃ (bd pa N:Nat) (s0 sF:Dev) (out:List Int),Fmt c N s0∧(N:Int)=c.words∧(U64 s0∧(iU pa [] N).format c= .ok 0 s0)∧gY c hs s0 []= .ok out sF∧((∃ n1 n2 s1 s2 ov sv,eI c (sF.block c).1 (dC l out sp) out 0 sF= .ok (some n1) s1∧fN c (dC l out sp) c.roots.toNat n1 0 s1= .ok n2 s2∧U64 s2∧s2.pow.lim<0∧s2.n=N∧aN ov=true∧aN sv=true∧rv= .tuple #[ptr bd,dU c,lC (s2.block c).1 sv,ov]∧H'=da 0 (sv,(s2.block c).1.rts)::ax bd s2::dQ 3 i64 0 (ov,out)::Fr)∨(∃ s1,eI c (sF.block c).1 (dC l out sp) out 0 sF= .ok none s1∧H'=Fr))) (fun _ _=>False)):=by
 refine ak func208 aa ntmps208 aa ?_
 have hc:bx c:=by rw[hcm];exact vT hx.1 hx.2.1 hx.2.2
 refine ac (ab (kPb (aY aa) aa fun b4=>(kPb (dA aa aa) aa fun b6=>(kPb (dA aa aa) aa fun b7=>(kPa aa aa (kPb (aD zeroValue39 aa) aa fun b9=>(kPb (aD zeroValue125 aa) aa fun b10=>(kPa aa aa (ad (ac (ab ?_)))))))))))
 refine kPv (ah isAgg48 sizeOf48 aa aa) aa ?_
 refine kPm aa aa (aE aa (ar call230 aa) (qS _ _ x0 x1 x2 hx c hcm hs hhs hlen q cap ((((((hv.cons _).cons _).cons _).cons _).cons _))) .free aa aa ?_)
 rintro _ _ ⟨bd,pa,N,s0,sF,out,ov,sv,hfm,hN,⟨hus0,hf0⟩,hfill,huF,hlF,hnF,hov,hsv,rfl,rfl⟩
 refine kPm aa aa (kPv (az aa aa) aa (kPv (az aa aa) aa (kPv (az aa aa) aa (kPv (az aa aa) aa (kPb (aD zeroValue39 aa) aa fun b13=>(kPb (aD zeroValue125 aa) aa fun b14=>(kPb (cm zeroValue59 aa) aa fun b15=>(kPa aa aa (kPs (aA (vs:=_) sizeOf39 aa aa aa aa aa) aa (kPs (aA (vs:=[i64 (sF.block c).1.act,i64 (sF.block c).1.used,sv]) sizeOf125 aa aa aa (eB hsv) aa) aa (kPs (aO sizeOf59 aa aa hov aa) aa ?_)))))))))))
 refine dE 5 aa ?_
 simp only[List.eraseIdx_cons_succ,List.eraseIdx_cons_zero]
 refine cy fun qo co hqe hqo=> ?_
 subst hqe
 have hbk:=dB (s:=sF) hc huF
 have hob:∀ x∈out,0≤x∧x≤20000:=wA hc hs s0 sF [] out hus0 hfill (fun _ h=>by cases h)
 have hol:out.length≤hs.length:=by have:=qT hfill;simpa using this
 have hr1:=hc.r1
 have hr2:=hc.r2
 refine ad (aj [12,15,14,13,11,10,9,8,7,6] rfl (ac (ac (ab (kPm aa aa (kPv (cV runUnderlying53 aa aa aa) aa (ad (bH aa (rfl) (aw (ac (ab ?_)))))))))))
 refine kPb (cm zeroValue3 aa) aa fun b16=>(kPs (aO sizeOf3 aa aa aa aa) aa (ad (ac (ab (kPv (c7 aa aa) aa (kPa aa aa (ad (ac (ac (ab (kPv (ag isAgg59 aa aa) aa ?_)))))))))))
 refine kPv (bS aa runUnderlying59 ⟨_,rfl⟩ rfl) aa (kPm aa aa (ad (aI (dF (ι:=Nat×Nat×Dev) (fun i=>i.1≤out.length∧i.2.1≤64*i.1∧U64 i.2.2∧i.2.2.pow.lim<0∧i.2.2.n=N∧eI c (sF.block c).1 (dC l out sp) out 0 sF=eI c (sF.block c).1 (dC l out sp) (out.drop i.1) i.2.1 i.2.2) (fun i=>[(8,.pointer none),(9,ptr b9),(10,ptr b10),(11,.slice none 0 0),(12,ptr bd),(13,ptr b13),(14,ptr b14),(15,ptr b15),(17,.func (.func 231) #[] #[ptr b16,ptr b6,ptr b15,ptr b7]),(37,.slice qo out.length co),(38,i64 out.length),(39,i64 i.1)]) (fun i=>row b16 [i64 (i.2.1:Nat)] 3::dQ 3 i64 0 (.slice qo out.length co,out)::row b15 [.slice qo out.length co] 59::row b14 [i64 (sF.block c).1.act,i64 (sF.block c).1.used,sv] 125::row b13 [i64 c.log,i64 c.roots,i64 c.space] 39::da 0 (sv,(sF.block c).1.rts)::ax bd i.2.2::row b10 [i64 0,i64 0,.slice none 0 0] 125::row b9 [i64 0,i64 0,i64 0] 39::row b7 [u8 sp] 5::row b6 [.slice ql l.length cl] 303::row b4 [u16 x0,u16 x1,u16 x2] 48::Fr) (fun i=>out.length - i.1) (0,0,sF) ⟨Nat.zero_le _,Nat.zero_le _,huF,hlF,hnF,rfl⟩ (fun a w st=>st.to ⟨rfl,rfl,rfl,rfl,rfl,rfl,rfl,rfl,rfl,rfl,rfl,rfl,trivial⟩ id) ?_))))
 rintro⟨k,n,sL⟩ ⟨hk1,hn1,huL,hlL,hnL,hinv⟩
 simp only at hk1 hn1 huL hlL hnL hinv ⊢
 refine ac (ab (kPv (am aa aa aa) aa (ad (ac ?_))))
 refine aV aa (fun h40=> ?_) (fun h40=> ?_)
 ·have hk:k<out.length:=by simpa using h40
  have hak:=hob _ (List.getElem_mem hk)
  obtain⟨bQ,oQ,rfl⟩:=hqo k hk
  refine aw (ac (aI (ac (ab (kPv (cC runUnderlying59 sizeOf3 aa aa (by omega) (by omega)) aa ?_)))))
  refine kPv (cf (v:=i64 out[k]) isAgg3 (cP 1 aa) aa (by rw[Int.toNat_natCast,List.getElem?_map,List.getElem?_eq_getElem hk];rfl)) aa ?_
  refine kPa aa aa (ad (aj [19,39,38,37,17,12,15,14,13,11,10,9,8] rfl (ac (ab (kPm aa aa (kPv (ah isAgg39 sizeOf39 aa aa) aa ?_))))))
  refine kPv (ah isAgg125 sizeOf125 aa aa) aa ?_
  refine kPm aa aa (ap aa (ar call143 aa) (bF (q:=ax) (fun Fr=>kc _ Fr _ _ c hc _ _ hbk hsv out[k] (by omega))) .free aa aa ?_)
  refine kPm aa aa (kPv (az aa aa) aa (kPv (az aa aa) aa (kPb (aD zeroValue134 aa) aa fun b20=>(kPs (aA (vs:=_) sizeOf134 aa aa aa aa aa) aa (kPa aa aa (ad (aj [21,20,39,38,37,17,12,15,14,13,11,10,9,8] rfl (ac (ac (ab (kPm aa aa ?_)))))))))))
  refine kPv (am aa aa aa) aa (ad ?_)
  refine aV aa (fun h52=> ?_) (fun h52=> ?_)
  ·have hk2:(sL.objOf c (sF.block c).1 out[k]).2≠0:=by simpa using h52
   refine ac (cQ [0,1,2,3,4,5] [3,4] [1] [3] [row b14 [i64 (sF.block c).1.act,i64 (sF.block c).1.used,sv] 125] Tryz.mixed (by kernel_rfl) ?_)
   refine aT aa aa aa (ah isAgg39 sizeOf39 aa aa) .free aa ?_
   refine an aa aa aa (ah isAgg125 sizeOf125 aa aa) .free aa ?_
   refine aT aa aa aa (bE aa) .free aa (aS aa aa (kPs (aA (vs:=_) sizeOf39 aa aa aa aa aa) aa (ad (cL (aS aa aa (kPs (aA (vs:=[i64 (sF.block c).1.act,i64 (sF.block c).1.used,sv]) sizeOf125 aa aa aa (eB hsv) aa) aa (ad (cZ aa (aT aa aa aa (bE aa) .free aa (cM (au ?_)))))))))))
   exact yT results208 (.tmp aa) (.cellA aa isAgg39 sizeOf39 aa aa) (.cellA aa isAgg125 sizeOf125 aa aa) (.tmp aa) (fun w_ hh=>⟨_,⟨bd,pa,N,s0,sF,out,hfm,hN,⟨hus0,hf0⟩,hfill,.inr ⟨sL,by rw[hinv,List.drop_eq_getElem_cons hk];rw[lh,if_pos hk2],rfl⟩⟩,hh.tail.tail.tail.tail.tail.tail.tail.tail.tail.tail.tail.tail.tail⟩)
  ·have hk2:(sL.objOf c (sF.block c).1 out[k]).2=0:=by simpa using h52
   have ho:=hZ hc hbk hk2
   have ho1:=ho.w
   have ho2:=ho.r
   have ho3:=ho.at_
   refine aw (ac (ab (kPv (aC (m:=_) eN aa aa) aa (kPl gC isAgg3 aa aa aa aa (kPm aa aa (ad (aI (dF (ι:=Nat×Nat×Dev) (fun i=>(i.1:Int)≤(sL.objOf c (sF.block c).1 out[k]).1.2.1∧i.2.1=n+i.1∧U64 i.2.2∧i.2.2.pow.lim<0∧i.2.2.n=N∧kl (dC l out sp) (sL.objOf c (sF.block c).1 out[k]).1 (sL.objOf c (sF.block c).1 out[k]).1.2.1.toNat n 0 sL=kl (dC l out sp) (sL.objOf c (sF.block c).1 out[k]).1 ((sL.objOf c (sF.block c).1 out[k]).1.2.1.toNat - i.1) i.2.1 i.1 i.2.2) (fun i=>[(8,.pointer none),(9,ptr b9),(10,ptr b10),(11,.slice none 0 0),(12,ptr bd),(13,ptr b13),(14,ptr b14),(15,ptr b15),(17,.func (.func 231) #[] #[ptr b16,ptr b6,ptr b15,ptr b7]),(37,.slice (some ⟨bQ,oQ,none⟩) out.length co),(38,i64 out.length),(39,i64 k),(20,ptr b20),(57,i64 (sL.objOf c (sF.block c).1 out[k]).1.2.1),(58,i64 i.1)]) (fun i=>row b20 [i64 (sL.objOf c (sF.block c).1 out[k]).1.1,i64 (sL.objOf c (sF.block c).1 out[k]).1.2.1,i64 (sL.objOf c (sF.block c).1 out[k]).1.2.2] 134::row b16 [i64 (i.2.1:Nat)] 3::dQ 3 i64 0 (.slice (some ⟨bQ,oQ,none⟩) out.length co,out)::row b15 [.slice (some ⟨bQ,oQ,none⟩) out.length co] 59::row b14 [i64 (sF.block c).1.act,i64 (sF.block c).1.used,sv] 125::row b13 [i64 c.log,i64 c.roots,i64 c.space] 39::da 0 (sv,(sF.block c).1.rts)::ax bd i.2.2::row b10 [i64 0,i64 0,.slice none 0 0] 125::row b9 [i64 0,i64 0,i64 0] 39::row b7 [u8 sp] 5::row b6 [.slice ql l.length cl] 303::row b4 [u16 x0,u16 x1,u16 x2] 48::Fr) (fun i=>(sL.objOf c (sF.block c).1 out[k]).1.2.1.toNat - i.1) (0,n,sL) ⟨by simp only;omega,rfl,huL,hlL,hnL,rfl⟩ (fun a w st=>st.to ⟨rfl,rfl,rfl,rfl,rfl,rfl,rfl,rfl,rfl,rfl,rfl,rfl,rfl,rfl,rfl,trivial⟩ id) ?_))))))))
   rintro⟨j,nI,sI⟩ ⟨hj1,hnI,huI,hlI,hnI2,hinvI⟩
   simp only at hj1 hnI huI hlI hnI2 hinvI ⊢
   refine ac (ab (kPv (am aa aa aa) aa (ad (ac ?_))))
   refine aV aa (fun h59=> ?_) (fun h59=> ?_)
   ·have hj:(j:Int)<(sL.objOf c (sF.block c).1 out[k]).1.2.1:=by simpa using h59
    refine aw (ac (aI (ac (ab (kPm aa aa (kPa aa aa (ad (aj [22,58,57,20,39,38,37,17,12,15,14,13,11,10,9,8] rfl (cQ [0,1,2,5,6,3,4,7] [3,7] [0,1,5,6] [3] [row b20 [i64 (sL.objOf c (sF.block c).1 out[k]).1.1,i64 (sL.objOf c (sF.block c).1 out[k]).1.2.1,i64 (sL.objOf c (sF.block c).1 out[k]).1.2.2] 134] Tryz.mixed (by kernel_rfl) ?_)))))))))
    refine an aa aa aa (ah isAgg134 sizeOf134 aa aa) .free aa ?_
    refine an aa aa aa (al aa) .free aa (aT aa aa aa (al aa) .free aa (an aa aa aa (al aa) .free aa (an aa aa aa (c7 aa aa) .free aa (aS aa aa (aK (H':=row b16 [i64 (nI:Nat)] 3::row b6 [.slice ql l.length cl] 303::row b15 [.slice (some ⟨bQ,oQ,none⟩) out.length co] 59::row b7 [u8 sp] 5::row b20 [i64 (sL.objOf c (sF.block c).1 out[k]).1.1,i64 (sL.objOf c (sF.block c).1 out[k]).1.2.1,i64 (sL.objOf c (sF.block c).1 out[k]).1.2.2] 134::dQ 3 i64 0 (.slice (some ⟨bQ,oQ,none⟩) out.length co,out)::row b14 [i64 (sF.block c).1.act,i64 (sF.block c).1.used,sv] 125::row b13 [i64 c.log,i64 c.roots,i64 c.space] 39::da 0 (sv,(sF.block c).1.rts)::ax bd sI::row b10 [i64 0,i64 0,.slice none 0 0] 125::row b9 [i64 0,i64 0,i64 0] 39::row b4 [u16 x0,u16 x1,u16 x2] 48::Fr) (fun w hh=>(hh.pk [1,10,2,8])) ?_)))))
    refine aQ aa (fa call231 aa aa) (tc B _ b16 b6 b15 b7 nI ql (some ⟨bQ,oQ,none⟩) cl co l out sp (by omega) ((((((((((hl.cons _).cons _).cons _).cons _).cons _).cons _).cons _).cons _).cons _)) (cP 1 aa) hlb hob ⟨by omega,by omega⟩ hsp hql hqo) .free aa aa ?_ ?_
    rotate_left
    ·rintro _ _ ⟨⟩
    rintro _ _ ⟨rfl,rfl⟩
    refine ad (cL ?_)
    have hpk:=rr (l:=l) (sp:=sp) (k:=nI) hob
    refine aT aa aa aa (cR runUnderlying24 runUnderlying3 aa (hG (by omega))) .free aa (aS aa aa (dG ax bd (aE aa (ar call81 aa) (uG _ _ bd (sL.objOf c (sF.block c).1 out[k]).1 ho _ ((dC l out sp) nI) (by have:=rr (l:=l) (sp:=sp) (k:=nI) hob;omega) sI hlI huI) .free aa aa ?_)))
    rintro _ _ ⟨x2,s2,hm2,rfl,hl2,hn2,hu2,rfl⟩
    refine ad (cZ aa (cM (aj [58,57,20,39,38,37,17,12,15,14,13,11,10,9,8] rfl (ab (kPv (aP aa aa) aa (kPm aa aa (ad ?_)))))))
    exact fun a w st=>⟨(j+1,nI+1,s2),⟨by simp only;omega,by simp only;omega,hu2,hl2,hn2.trans hnI2,by
     rw[hinvI,show(sL.objOf c (sF.block c).1 out[k]).1.2.1.toNat - j=((sL.objOf c (sF.block c).1 out[k]).1.2.1.toNat - (j+1))+1 by omega]
     show(hO gk (sL.objOf c (sF.block c).1 out[k]).1 j true ((dC l out sp) nI) sI ()).then _=_
     rw[hm2]
     push_cast
     rfl⟩,by simp only;omega,st.to ⟨rfl,rfl,rfl,rfl,rfl,rfl,rfl,rfl,rfl,rfl,rfl,rfl,rfl,rfl,rfl,trivial⟩ (fun hh=>(hh.pk [5,1,4,2,3,3,3,0,2,2,1]))⟩
   ·have hj:¬ (j:Int)<(sL.objOf c (sF.block c).1 out[k]).1.2.1:=by simpa using h59
    refine bJ (ab (kPv (aP aa aa) aa (kPm aa aa (ad (aj [39,38,37,17,12,15,14,13,11,10,9,8] rfl ?_)))))
    exact fun a w st=>⟨(k+1,nI,sI),⟨by simp only;omega,by simp only;omega,huI,hlI,hnI2,by
     rw[hinv,List.drop_eq_getElem_cons hk]
     rw[lh,if_neg (by omega),hinvI,show(sL.objOf c (sF.block c).1 out[k]).1.2.1.toNat - j=0 by omega]
     rfl⟩,by simp only;omega,st.to ⟨rfl,rfl,rfl,rfl,rfl,rfl,rfl,rfl,rfl,rfl,rfl,rfl,trivial⟩ (fun hh=>hh.tail)⟩
 ·have hk:¬ k<out.length:=by simpa using h40
  refine bJ (ac (ac (ab (kPl gc isAgg3 aa aa aa aa (kPm aa aa (ad (aj [73,72,17,12,15,14,13,11,10,9,8] rfl (aI (dF (ι:=Nat×Nat×Dev) (fun i=>(i.1:Int)≤c.roots∧i.2.1=n+i.1∧U64 i.2.2∧i.2.2.pow.lim<0∧i.2.2.n=N∧fN c (dC l out sp) c.roots.toNat n 0 sL=fN c (dC l out sp) (c.roots.toNat - i.1) i.2.1 i.1 i.2.2) (fun i=>[(8,.pointer none),(9,ptr b9),(10,ptr b10),(11,.slice none 0 0),(12,ptr bd),(13,ptr b13),(14,ptr b14),(15,ptr b15),(17,.func (.func 231) #[] #[ptr b16,ptr b6,ptr b15,ptr b7]),(72,i64 c.roots),(73,i64 i.1)]) (fun i=>row b16 [i64 (i.2.1:Nat)] 3::dQ 3 i64 0 (.slice qo out.length co,out)::row b15 [.slice qo out.length co] 59::row b14 [i64 (sF.block c).1.act,i64 (sF.block c).1.used,sv] 125::row b13 [i64 c.log,i64 c.roots,i64 c.space] 39::da 0 (sv,(sF.block c).1.rts)::ax bd i.2.2::row b10 [i64 0,i64 0,.slice none 0 0] 125::row b9 [i64 0,i64 0,i64 0] 39::row b7 [u8 sp] 5::row b6 [.slice ql l.length cl] 303::row b4 [u16 x0,u16 x1,u16 x2] 48::Fr) (fun i=>c.roots.toNat - i.1) (0,n,sL) ⟨by simp only;omega,rfl,huL,hlL,hnL,rfl⟩ (fun a w st=>st.to ⟨rfl,rfl,rfl,rfl,rfl,rfl,rfl,rfl,rfl,rfl,rfl,trivial⟩ id) ?_)))))))))
  rintro⟨i,nJ,sJ⟩ ⟨hi1,hnJ,huJ,hlJ,hnJ2,hinvJ⟩
  simp only at hi1 hnJ huJ hlJ hnJ2 hinvJ ⊢
  refine ac (ab (kPv (am aa aa aa) aa (ad (ac ?_))))
  refine aV aa (fun h74=> ?_) (fun h74=> ?_)
  ·have hi:(i:Int)<c.roots:=by simpa using h74
   refine aw (ac (aI (ac (ab (kPm aa aa (kPa aa aa (ad (ab (kPm aa aa (kPv (ah isAgg39 sizeOf39 aa aa) aa ?_))))))))))
   refine kPm aa aa (ap aa (ar call82 aa) (jz _ _ c hc _ (by omega) (by omega)) .free aa aa ?_)
   refine kPm aa aa (aK (H':=row b16 [i64 (nJ:Nat)] 3::row b6 [.slice ql l.length cl] 303::row b15 [.slice qo out.length co] 59::row b7 [u8 sp] 5::dQ 3 i64 0 (.slice qo out.length co,out)::row b14 [i64 (sF.block c).1.act,i64 (sF.block c).1.used,sv] 125::row b13 [i64 c.log,i64 c.roots,i64 c.space] 39::da 0 (sv,(sF.block c).1.rts)::ax bd sJ::row b10 [i64 0,i64 0,.slice none 0 0] 125::row b9 [i64 0,i64 0,i64 0] 39::row b4 [u16 x0,u16 x1,u16 x2] 48::Fr) (fun w hh=>(hh.pk [0,9,1,7])) ?_)
   refine aQ aa (fa call231 aa aa) (tc B _ b16 b6 b15 b7 nJ ql qo cl co l out sp (by omega) (((((((((hl.cons _).cons _).cons _).cons _).cons _).cons _).cons _).cons _)) (cP 0 aa) hlb hob ⟨by omega,by omega⟩ hsp hql hqo) .free aa aa ?_ ?_
   rotate_left
   ·rintro _ _ ⟨⟩
   rintro _ _ ⟨rfl,rfl⟩
   refine dG ax bd (aE aa (ar call104 aa) (oU _ _ _ _ _ (dC l out sp nJ) hlJ huJ (by have:=rr (l:=l) (sp:=sp) (k:=nJ) hob;omega)) .free aa aa ?_)
   rintro _ _ ⟨x3,s3,hm3,rfl,hl3,hn3,hu3,rfl⟩
   refine ad (aj [73,72,17,12,15,14,13,11,10,9,8] rfl (ab (kPv (aP aa aa) aa (kPm aa aa (ad ?_)))))
   exact fun a w st=>⟨(i+1,nJ+1,s3),⟨by simp only;omega,by simp only;omega,hu3,hl3,hn3.trans hnJ2,by
    rw[hinvJ,show c.roots.toNat - i=(c.roots.toNat - (i+1))+1 by omega]
    show(sJ.store (c.root i) ((dC l out sp) nJ)).then _=_
    rw[hm3]
    push_cast
    rfl⟩,by simp only;omega,st.to ⟨rfl,rfl,rfl,rfl,rfl,rfl,rfl,rfl,rfl,rfl,rfl,trivial⟩ (fun hh=>(hh.pk [1,4,2,3,3,3,0,2,2,1]))⟩
  ·have hi:¬ (i:Int)<c.roots:=by simpa using h74
   refine bJ (ac (ab (kPm aa aa (kPv (ah isAgg39 sizeOf39 aa aa) aa ?_))))
   refine dG ax bd (aE aa (ar call135 aa) (fX _ _ _ _ c hc huJ) .free aa aa ?_)
   rintro _ _ ⟨sv2,hsv2,rfl,rfl⟩
   refine kPm aa aa (kPv (az aa aa) aa (kPv (az aa aa) aa (kPs (aA (vs:=[i64 (sJ.block c).1.act,i64 (sJ.block c).1.used,sv2]) sizeOf125 aa aa aa (eB hsv2) aa) aa (aK (H':=da 0 (sv2,(sJ.block c).1.rts)::ax bd sJ::row b16 [i64 (nJ:Nat)] 3::dQ 3 i64 0 (.slice qo out.length co,out)::row b15 [.slice qo out.length co] 59::row b14 [i64 (sJ.block c).1.act,i64 (sJ.block c).1.used,sv2] 125::row b13 [i64 c.log,i64 c.roots,i64 c.space] 39::da 0 (sv,(sF.block c).1.rts)::row b10 [i64 0,i64 0,.slice none 0 0] 125::row b9 [i64 0,i64 0,i64 0] 39::row b7 [u8 sp] 5::row b6 [.slice ql l.length cl] 303::row b4 [u16 x0,u16 x1,u16 x2] 48::Fr) (fun w hh=>hh) (ad (aj [12,15,14,13,11,10,9,8] rfl (ac (cQ [0,1,2,3,4,5,6,7] [5,6] [2,3] [5,6] [row b14 [i64 (sJ.block c).1.act,i64 (sJ.block c).1.used,sv2] 125,row b15 [.slice qo out.length co] 59] Tryz.mixed (by kernel_rfl) ?_))))))))
   refine aT aa aa aa (al aa) .free aa (aT aa aa aa (ah isAgg39 sizeOf39 aa aa) .free aa ?_)
   refine an aa aa aa (ah isAgg125 sizeOf125 aa aa) .free aa ?_
   refine an aa aa aa (ag isAgg59 aa aa) .free aa (aT aa aa aa (bE aa) .free aa (aS aa aa (kPs (aA (vs:=_) sizeOf39 aa aa aa aa aa) aa (ad (cL (aS aa aa (kPs (aA (vs:=[i64 (sJ.block c).1.act,i64 (sJ.block c).1.used,sv2]) sizeOf125 aa aa aa (eB hsv2) aa) aa (ad (cL (aT aa aa aa (bE aa) .free aa (cM ?_)))))))))))
   refine aj [11,8,10,9] rfl (au ?_)
   exact yT results208 (.tmp aa) (.cellA aa isAgg39 sizeOf39 aa aa) (.cellA aa isAgg125 sizeOf125 aa aa) (.tmp aa) (fun w_ hh=>⟨_,⟨bd,pa,N,s0,sF,out,hfm,hN,⟨hus0,hf0⟩,hfill,.inl ⟨n,nJ,sL,sJ,_,sv2,by rw[hinv,List.drop_eq_nil_of_le (by omega)];rfl,by rw[hinvJ,show c.roots.toNat - i=0 by omega];rfl,huJ,hlJ,hnJ2,rfl,hsv2,rfl,rfl⟩⟩,(hh.dp [2,3,3,3,3,3,3,3,3,3])⟩)
def itl{α ι:Type}(st:α→ι→Bool×ι):List α→ι→Bool×ι
 | [],x=>(true,x)
 | a::t,x=>if (st a x).1=true then itl st t (st a x).2 else (false,(st a x).2)
def lst{ι:Type}(r:Loop)(cd:ι→Code)(y:Bool×ι):Loop:=if y.1=true then r else {r with state:= .done,pending:=some (cd y.2)}
theorem qj(B:World)(H:List HP)(o:dq)(bd:Nat):
 ∀ w,Holds B H w→Calls Tryz.prog 182 [gL o,ptr bd].toArray w (Ret B (fun v H'=>∃ b1 b2,v= .func (.func 206) [].toArray [ptr b1,ptr b2].toArray∧H'=row b2 [ptr bd] 53::row b1 [i64 o.1,i64 o.2.1,i64 o.2.2] 134::H) (fun _ _=>False)):=by
 refine ak func182 aa ntmps182 aa (ac (ab (kPb (aY aa) aa fun b2=>(kPb (dA aa aa) aa fun b3=>(kPa aa aa (ad (ac (ab (kPv (c7 aa aa) aa (kPa aa aa (ad ?_)))))))))))
 refine au ?_
 exact aq results182 aa (fun w hw=>⟨_,⟨_,_,rfl,rfl⟩,hw⟩)
theorem y9(B:World)(l f b1 b2 bd:Nat)(o:dq)(ho:k8 o)(s:Dev)(ι:Type)(r:Loop)(hrf:r.fn=f)(hrp:r.params.size=2)(I:ι→Prop)(Hx:ι→List HP)(cd:ι→Code)(st:(Int×Int)→ι→Bool×ι)(x0:ι)(h0:I x0)(hround:∀ (p:Int×Int) (x:ι),I x→I (st p x).2∧∀ w,Holds B (blk l (.loop r)::row b2 [ptr bd] 53::row b1 [i64 o.1,i64 o.2.1,i64 o.2.2] 134::ax bd s::Hx x) w→RoundIn (Wd (cxF f)) 0 Tryz.prog l f ((r.params.zip [i64 p.1,i64 p.2].toArray).foldl (fun tmps (t,a)=>tmps.setIfInBounds t a) r.tmps) r.assign r.body w (Ret B (fun rv H'=>rv= .bool (st p x).1∧H'=blk l (.loop (lst r cd (st p x)))::row b2 [ptr bd] 53::row b1 [i64 o.1,i64 o.2.1,i64 o.2.2] 134::ax bd s::Hx (st p x).2) (fun _ _=>False))):
 ∀ w,Holds B (blk l (.loop r)::row b2 [ptr bd] 53::row b1 [i64 o.1,i64 o.2.1,i64 o.2.2] 134::ax bd s::Hx x0) w→Calls Tryz.prog 206 [.func (.yield l) #[] #[],ptr b1,ptr b2].toArray w (Ret B (fun _ H'=>I (itl st (s.objNames o o.2.1.toNat 0) x0).2∧H'=blk l (.loop (lst r cd (itl st (s.objNames o o.2.1.toNat 0) x0)))::row b2 [ptr bd] 53::row b1 [i64 o.1,i64 o.2.1,i64 o.2.2] 134::ax bd s::Hx (itl st (s.objNames o o.2.1.toNat 0) x0).2) (fun _ _=>False)):=by
 refine ak func206 aa ntmps206 aa ?_
 have ho1:=ho.w
 have ho2:=ho.r
 have ho3:=ho.at_
 refine ac (ab (kPv (aC (m:=_) eN aa aa) aa (kPl gC isAgg3 aa aa aa aa (kPm aa aa (ad (aI (dF (ι:=Nat×ι) (fun i=>(i.1:Int)≤o.2.1∧I i.2∧itl st (s.objNames o o.2.1.toNat 0) x0=itl st (s.objNames o (o.2.1.toNat - i.1) i.1) i.2) (fun i=>[(0,.func (.yield l) #[] #[]),(1,ptr b1),(2,ptr b2),(8,i64 o.2.1),(9,i64 i.1)]) (fun i=>blk l (.loop r)::row b2 [ptr bd] 53::row b1 [i64 o.1,i64 o.2.1,i64 o.2.2] 134::ax bd s::Hx i.2) (fun i=>o.2.1.toNat - i.1) (0,x0) ⟨by simp only;omega,h0,rfl⟩ (fun a w st=>st.to ⟨rfl,rfl,rfl,rfl,rfl,trivial⟩ id) ?_)))))))
 rintro⟨k,x⟩ ⟨hk1,hIx,hinv⟩
 simp only at hk1 hIx hinv ⊢
 refine ac (ab (kPv (am aa aa aa) aa (ad (ac ?_))))
 refine aV aa (fun h10=> ?_) (fun h10=> ?_)
 ·have hk:(k:Int)<o.2.1:=by simpa using h10
  refine aw (ac (aI (ac (ab (kPm aa aa (kPa aa aa (ad (ac (ab (kPv (ag isAgg53 aa aa) aa (kPl kA isAgg3 aa aa aa aa ?_)))))))))))
  refine kPv (aP aa aa) aa (kPm aa aa (kPv (aP aa aa) aa (ap aa (ar call101 aa) (bF (q:=ax) (fun Fr=>ck _ Fr _ _ _)) .free aa aa ?_)))
  refine kPv (bY runUnderlying24 runUnderlying3 aa) aa (kPa aa aa (ad (aj [5,4,9,8,0,1,2] rfl (ac ?_))))
  rcases Bool.eq_false_or_eq_true (((IntKind.i64.wrap (s.load (o.2.2+1+(k:Int)))) !=0)) with hs4 | hs4
  ·skip
   have hto:(IntKind.i64.wrap (s.load (o.2.2+1+(k:Int))))≠0:=by simpa using hs4
   have hnm:s.objNames o (o.2.1.toNat - k) k=((k:Int),(IntKind.i64.wrap (s.load (o.2.2+1+(k:Int)))))::s.objNames o (o.2.1.toNat - (k+1)) ((k:Int)+1):=by
    rw[show o.2.1.toNat - k=(o.2.1.toNat - (k+1))+1 by omega]
    simp only[Dev.objNames]
    rw[if_pos hto]
   refine ab (kPm aa aa (kPv (am aa aa aa) aa (kPm aa aa (ao aa (al aa) (.on aa aa (ae hs4)) aa aa (ao aa (al aa) (.on aa aa (ae hs4)) aa aa (ao aa (al aa) (.on aa aa (ae hs4)) aa aa ?_))))))
   refine fZ (f:=f) aa aa (fun w hw=>hw) (by rw[hrp];rfl) hrf (hround ((k:Int),(IntKind.i64.wrap (s.load (o.2.2+1+(k:Int))))) x hIx).2 (.on aa aa (ae hs4)) aa ?_ ?_
   rotate_left
   ·rintro _ _ ⟨⟩
   rintro _ _ ⟨rfl,rfl⟩
   refine ao aa (bu aa) (.on aa aa (ae hs4)) aa aa (kPv (aB aa hs4 aa) aa (ad (aj [28,9,8,0,1,2] rfl ?_)))
   refine aV aa (fun h28=> ?_) (fun h28=> ?_)
   ·have hg:(st ((k:Int),(IntKind.i64.wrap (s.load (o.2.2+1+(k:Int))))) x).1=false:=by simpa using h28
    have hres:itl st (s.objNames o o.2.1.toNat 0) x0=st ((k:Int),(IntKind.i64.wrap (s.load (o.2.2+1+(k:Int))))) x:=by rw[hinv,hnm];simp only[itl];rw[if_neg (by rw[hg];decide)];exact Prod.ext hg.symm aa
    refine au ?_
    exact ja results206 (fun w hh=>⟨_,⟨by rw[hres];exact(hround ((k:Int),(IntKind.i64.wrap (s.load (o.2.2+1+(k:Int))))) x hIx).1,by rw[hres]⟩,hh⟩)
   ·have hg:(st ((k:Int),(IntKind.i64.wrap (s.load (o.2.2+1+(k:Int))))) x).1=true:=by simpa using h28
    have hlr:lst r cd (st ((k:Int),(IntKind.i64.wrap (s.load (o.2.2+1+(k:Int))))) x)=r:=by unfold lst;rw[if_pos hg]
    refine aw (ab (kPv (aP aa aa) aa (kPm aa aa (ad ?_))))
    exact fun a w st_=>⟨(k+1,(st ((k:Int),(IntKind.i64.wrap (s.load (o.2.2+1+(k:Int))))) x).2),⟨by simp only;omega,(hround ((k:Int),(IntKind.i64.wrap (s.load (o.2.2+1+(k:Int))))) x hIx).1,by rw[hinv,hnm];simp only[itl];rw[if_pos hg];rfl⟩,by simp only;omega,st_.to ⟨rfl,rfl,rfl,rfl,rfl,trivial⟩ (fun hh=>by rw[hlr] at hh;exact hh)⟩
  ·skip
   have hto:(IntKind.i64.wrap (s.load (o.2.2+1+(k:Int))))=0:=by simpa using hs4
   have hnm:s.objNames o (o.2.1.toNat - k) k=s.objNames o (o.2.1.toNat - (k+1)) ((k:Int)+1):=by
    rw[show o.2.1.toNat - k=(o.2.1.toNat - (k+1))+1 by omega]
    simp only[Dev.objNames]
    rw[if_neg (by omega)]
   refine ab (kPm aa aa (kPv (am aa aa aa) aa (kPm aa aa (ay aa (.on aa aa (ai hs4)) aa (ay aa (.on aa aa (ai hs4)) aa (ay aa (.on aa aa (ai hs4)) aa (ay aa (.on aa aa (ai hs4)) aa (ay aa (.on aa aa (ai hs4)) aa (kPv (aJ aa hs4 aa) aa (ad (aj [28,9,8,0,1,2] rfl ?_)))))))))))
   refine bH aa (rfl) (aw (ab (kPv (aP aa aa) aa (kPm aa aa (ad ?_)))))
   exact fun a w st_=>⟨(k+1,x),⟨by simp only;omega,hIx,by rw[hinv,hnm];rfl⟩,by simp only;omega,st_.to ⟨rfl,rfl,rfl,rfl,rfl,trivial⟩ id⟩
 ·have hk:¬ (k:Int)<o.2.1:=by simpa using h10
  refine bJ ?_
  exact cG results206 (fun w hh=>⟨_,⟨by rw[hinv,show o.2.1.toNat - k=0 by omega];exact hIx,by rw[hinv,show o.2.1.toNat - k=0 by omega];rfl⟩,hh⟩)
theorem Bf{α ι:Type}{st:α→ι→Bool×ι}{a:α}{x:ι}:itl st [a] x=st a x:=by
 simp only[itl]
 split
 ·rename_i h;exact Prod.ext h.symm aa
 ·rename_i h;exact Prod.ext (Bool.eq_false_iff.2 h).symm aa
theorem zs{α ι:Type}{st:α→ι→Bool×ι}{a:α}{t:List α}{x:ι}(h:(st a x).1=false):itl st (a::t) x=st a x:=by
 simp only[itl]
 rw[if_neg (by rw[h];decide)]
 exact Prod.ext h.symm aa
theorem vR{s:Dev}{c:Cfg}{b:Blk}{a:Int}:0≤(s.objOf c b a).1.1∧(s.objOf c b a).1.1≤64:=by
 have h:=p7 (s.load a)
 unfold Dev.objOf
 split
 ·decide
 split
 ·decide
 ·exact⟨h.1,h.2.1⟩
theorem za{a:Int}(h:0≤a∧a≤1000000):k8 (0,0,a):=⟨⟨Int.le_refl 0,(by decide:(0:Int)≤64)⟩,⟨Int.le_refl 0,Int.le_refl 0⟩,h⟩
theorem sO{s:Dev}{c:Cfg}{b:Blk}{at_:Int}(h:b.place c b.used≤at_):∀ f,s.objs c b f at_=[]
 | 0=>rfl
 | f+1=>by simp only[Dev.objs];rw[if_pos h]
theorem oc(B:World)(H:List HP)(bd:Nat)(c:Cfg)(b:Blk)(sv:Value)(hsv:aN sv=true):
 ∀ w,Holds B H w→Calls Tryz.prog 161 [ptr bd,dU c,lC b sv].toArray w (Ret B (fun v H'=>∃ b3 b4 b5,v= .func (.func 190) [].toArray [ptr b5,ptr b4,ptr b3].toArray∧H'=row b5 [i64 b.act,i64 b.used,sv] 125::row b4 [i64 c.log,i64 c.roots,i64 c.space] 39::row b3 [ptr bd] 53::H) (fun _ _=>False)):=by
 refine ak func161 aa ntmps161 aa (ac (ab (kPb (dA aa aa) aa fun b3=>(kPb (aY aa) aa fun b4=>(kPb (aY aa) aa fun b5=>(kPa aa aa (ad (ac (ab (kPv (c7 aa aa) aa (kPa aa aa ?_)))))))))))
 refine ad (aj [6] rfl (au ?_))
 exact aq results161 aa (fun w hw=>⟨_,⟨_,_,_,rfl,rfl⟩,hw⟩)
theorem rY(B:World)(E:List HP)(l f b3 b4 b5 bd:Nat)(c:Cfg)(hc:bx c)(b:Blk)(sv:Value)(hb:fU c b)(hsv:aN sv=true)(s:Dev)(ι:Type)(r:Loop)(hrf:r.fn=f)(hrp:r.params.size=2)(I:ι→Prop)(Hx:ι→List HP)(cd:ι→Code)(st:(dq×Int)→ι→Bool×ι)(x0:ι)(h0:I x0)(hround:∀ (p:dq×Int) (x:ι),k8 p.1→I x→I (st p x).2∧∀ (E:List HP) w,Holds B (blk l (.loop r)::row b5 [i64 b.act,i64 b.used,sv] 125::row b4 [i64 c.log,i64 c.roots,i64 c.space] 39::row b3 [ptr bd] 53::ax bd s::(Hx x++E)) w→RoundIn (Wd (cxF f)) 0 Tryz.prog l f ((r.params.zip [gL p.1,i64 p.2].toArray).foldl (fun tmps (t,a)=>tmps.setIfInBounds t a) r.tmps) r.assign r.body w (Ret B (fun rv H'=>rv= .bool (st p x).1∧H'=blk l (.loop (lst r cd (st p x)))::row b5 [i64 b.act,i64 b.used,sv] 125::row b4 [i64 c.log,i64 c.roots,i64 c.space] 39::row b3 [ptr bd] 53::ax bd s::(Hx (st p x).2++E)) (fun _ _=>False))):
 ∀ w,Holds B (blk l (.loop r)::row b5 [i64 b.act,i64 b.used,sv] 125::row b4 [i64 c.log,i64 c.roots,i64 c.space] 39::row b3 [ptr bd] 53::ax bd s::(Hx x0++E)) w→Calls Tryz.prog 190 [.func (.yield l) #[] #[],ptr b5,ptr b4,ptr b3].toArray w (Ret B (fun _ H'=>I (itl st (s.objs c b (b.used.toNat+1) (b.place c 0)) x0).2∧H'=blk l (.loop (lst r cd (itl st (s.objs c b (b.used.toNat+1) (b.place c 0)) x0)))::row b5 [i64 b.act,i64 b.used,sv] 125::row b4 [i64 c.log,i64 c.roots,i64 c.space] 39::row b3 [ptr bd] 53::ax bd s::(Hx (itl st (s.objs c b (b.used.toNat+1) (b.place c 0)) x0).2++E)) (fun _ _=>False)):=by
 refine ak func190 aa ntmps190 aa ?_
 have hb1:=hb.act
 have hb2:=hb.used
 have hcs:=hc.s2
 have hfb:=iI hc (k:=b.act) (by omega)
 have hpl:=vN hc hb hb2
 have hp0:b.place c 0=c.frm b.act+0:=rfl
 have hp1:b.place c b.used=c.frm b.act+b.used:=rfl
 refine ac (cN Tryz.mixed (by kernel_rfl) (by kernel_rfl) ?_)
 refine kQv (ah isAgg125 sizeOf125 aa aa) aa ?_
 refine kQv (ah isAgg39 sizeOf39 aa aa) aa ?_
 refine bj aa (ar call136 aa) (ik _ _ c hc b sv hb hsv _ (by omega)) .free aa ?_
 refine kQv (ah isAgg125 sizeOf125 aa aa) aa ?_
 refine kQv (ah isAgg39 sizeOf39 aa aa) aa ?_
 refine kQv (aC (m:=_) dM aa aa) aa (kQv (ag isAgg3 aa aa) aa (bj aa (ar call136 aa) (ik _ _ c hc b sv hb hsv _ (by omega)) .free aa ?_))
 refine kQa aa aa (kQa aa aa (bM (aj [6,5,0,1,2,3] rfl (aI (dF (ι:=Int×Nat×ι) (fun i=>I i.2.2∧(0≤i.1∧i.1≤100000)∧b.place c b.used - i.1<i.2.1∧itl st (s.objs c b (b.used.toNat+1) (b.place c 0)) x0=itl st (s.objs c b i.2.1 i.1) i.2.2) (fun i=>[(0,.func (.yield l) #[] #[]),(1,ptr b5),(2,ptr b4),(3,ptr b3),(5,i64 i.1),(6,i64 (b.place c b.used))]) (fun i=>blk l (.loop r)::row b5 [i64 b.act,i64 b.used,sv] 125::row b4 [i64 c.log,i64 c.roots,i64 c.space] 39::row b3 [ptr bd] 53::ax bd s::(Hx i.2.2++E)) (fun i=>i.2.1) (b.place c 0,b.used.toNat+1,x0) ⟨h0,by simp only;omega,by simp only;omega,rfl⟩ (fun a w st=>st.to ⟨rfl,rfl,rfl,rfl,rfl,rfl,trivial⟩ id) ?_)))))
 rintro⟨a,n,x⟩ ⟨hIx,ha1,ha2,hinv⟩
 simp only at hIx ha1 ha2 hinv ⊢
 refine ac (ac (ab (kPm aa aa (kPm aa aa (kPv (am aa aa aa) aa (ad ?_))))))
 refine aV aa (fun h19=> ?_) (fun h19=> ?_)
 ·have hk:a<b.place c b.used:=by simpa using h19
  obtain⟨n,rfl⟩:∃ m,n=m+1:=⟨n - 1,by omega⟩
  refine aw (aI (ac (ab (kPv (ag isAgg53 aa aa) aa (kPv (ah isAgg39 sizeOf39 aa aa) aa ?_)))))
  refine kPv (ah isAgg125 sizeOf125 aa aa) aa ?_
  refine kPm aa aa (ap aa (ar call143 aa) (bF (q:=ax) (fun Fr=>kc _ Fr _ _ c hc b sv hb hsv a (by omega))) .free aa aa ?_)
  refine kPm aa aa (kPv (az aa aa) aa (kPv (az aa aa) aa (kPb (aD zeroValue134 aa) aa fun b7=>(kPs (aA (vs:=_) sizeOf134 aa aa aa aa aa) aa (kPa aa aa (ad (aj [8,7,6,5,0,1,2,3] rfl (ac (ac (ab (kPm aa aa ?_)))))))))))
  refine kPv (am aa aa aa) aa (ad ?_)
  refine aV aa (fun h29=> ?_) (fun h29=> ?_)
  ·have he:(s.objOf c b a).2≠0:=by simpa using h29
   have hob:s.objs c b (n+1) a=[((0,0,a),(s.objOf c b a).2)]:=by
    simp only[Dev.objs]
    rw[if_neg (by omega),if_pos he]
   have ho1:0≤(s.objOf c b a).1.1∧(s.objOf c b a).1.1≤64:=vR
   refine ab (kPm aa aa (kPv (aR aa (x4 _ aa)) aa (kPs (aA (vs:=_) sizeOf134 aa aa aa aa aa) aa (ad (ac (ac (ab (kPm aa aa (kPv (ah isAgg134 sizeOf134 aa aa) aa ?_)))))))))
   refine kPm aa aa ?_
   first | refine fZ (f:=f) (r:=r) (H1:=row b5 [i64 b.act,i64 b.used,sv] 125::row b4 [i64 c.log,i64 c.roots,i64 c.space] 39::row b3 [ptr bd] 53::ax bd s::(Hx x++(row b7 [i64 (s.objOf c b a).1.1,i64 (s.objOf c b a).1.2.1,i64 (s.objOf c b a).1.2.2] 134::E))) aa aa (fun w hh=>hh.perm (List.perm_middle (l₁ :=blk l (.loop r)::row b5 [i64 b.act,i64 b.used,sv] 125::row b4 [i64 c.log,i64 c.roots,i64 c.space] 39::row b3 [ptr bd] 53::ax bd s::Hx x)).symm) (by rw[hrp];rfl) hrf ((hround (s.objOf c b a) x (hZ hc hb he) hIx).2 (row b7 [i64 (s.objOf c b a).1.1,i64 (s.objOf c b a).1.2.1,i64 (s.objOf c b a).1.2.2] 134::E)) .free aa ?_ ?_ | refine fZ (f:=f) (r:=r) (H1:=row b5 [i64 b.act,i64 b.used,sv] 125::row b4 [i64 c.log,i64 c.roots,i64 c.space] 39::row b3 [ptr bd] 53::ax bd s::(Hx x++(row b7 [i64 0,i64 0,i64 a] 134::E))) aa aa (fun w hh=>hh.perm (List.perm_middle (l₁ :=blk l (.loop r)::row b5 [i64 b.act,i64 b.used,sv] 125::row b4 [i64 c.log,i64 c.roots,i64 c.space] 39::row b3 [ptr bd] 53::ax bd s::Hx x)).symm) (by rw[hrp];rfl) hrf ((hround ((0,0,a),(s.objOf c b a).2) x (za (by omega)) hIx).2 (row b7 [i64 0,i64 0,i64 a] 134::E)) .free aa ?_ ?_
   rotate_left
   ·rintro _ _ ⟨⟩
   rintro _ _ ⟨rfl,rfl⟩
   first | refine aK (H':=row b7 [i64 (s.objOf c b a).1.1,i64 (s.objOf c b a).1.2.1,i64 (s.objOf c b a).1.2.2] 134::blk l (.loop (lst r cd (st (s.objOf c b a) x)))::row b5 [i64 b.act,i64 b.used,sv] 125::row b4 [i64 c.log,i64 c.roots,i64 c.space] 39::row b3 [ptr bd] 53::ax bd s::(Hx (st (s.objOf c b a) x).2++E)) (fun w hh=>hh.perm (List.perm_middle (l₁ :=blk l (.loop (lst r cd (st (s.objOf c b a) x)))::row b5 [i64 b.act,i64 b.used,sv] 125::row b4 [i64 c.log,i64 c.roots,i64 c.space] 39::row b3 [ptr bd] 53::ax bd s::Hx (st (s.objOf c b a) x).2))) ?_ | refine aK (H':=row b7 [i64 0,i64 0,i64 a] 134::blk l (.loop (lst r cd (st ((0,0,a),(s.objOf c b a).2) x)))::row b5 [i64 b.act,i64 b.used,sv] 125::row b4 [i64 c.log,i64 c.roots,i64 c.space] 39::row b3 [ptr bd] 53::ax bd s::(Hx (st ((0,0,a),(s.objOf c b a).2) x).2++E)) (fun w hh=>hh.perm (List.perm_middle (l₁ :=blk l (.loop (lst r cd (st ((0,0,a),(s.objOf c b a).2) x)))::row b5 [i64 b.act,i64 b.used,sv] 125::row b4 [i64 c.log,i64 c.roots,i64 c.space] 39::row b3 [ptr bd] 53::ax bd s::Hx (st ((0,0,a),(s.objOf c b a).2) x).2))) ?_
   refine kPv (bu aa) aa (kPm aa aa ?_)
   apply gJ (tp:=40) (t:=37) (σ1:=[(37,_),(7,_),(6,_),(5,_),(0,_),(1,_),(2,_),(3,_)]) 3 rfl (aG rfl)
   ·intro hg1
    refine ao aa (al aa) (.on aa aa (ae hg1)) aa aa (ao aa (am aa aa aa) (.on aa aa (ae hg1)) aa aa (kPv (aJ aa hg1 aa) aa ?_))
    exact bf aa (aG aa) (ga hg1)
   ·intro hg1
    refine ay aa (.on aa aa (ai hg1)) aa (ay aa (.on aa aa (ai hg1)) aa (kPv (aB aa hg1 aa) aa ?_))
    exact bf aa (aG aa) (f9 hg1)
   refine ad ?_
   refine aV aa (fun h40=> ?_) (fun h40=> ?_)
   ·try simp only[decide_eq_true_eq,decide_eq_false_iff_not,Bool.not_eq_true',Bool.not_eq_false',Bool.or_eq_true,Bool.and_eq_true,Bool.and_eq_false_iff,Bool.or_eq_false_iff,beq_iff_eq,bne_iff_ne,beq_eq_false_iff_ne,bne_eq_false_iff_eq,ge_iff_le,gt_iff_lt,ne_eq] at h40
    refine au ?_
    exact ja results190 (fun w hh=>⟨_,⟨by rw[hinv,hob,Bf];exact(hround ((0,0,a),(s.objOf c b a).2) x (za (by omega)) hIx).1,by rw[hinv,hob,Bf]⟩,hh.tail⟩)
   ·have h40':=h40
    have hg:(st (s.objOf c b a) x).1=true∨(s.objOf c b a).2≠0:=by first | exact .inr he | (left;simpa [he] using h40)
    have hlr:(st (s.objOf c b a) x).1=true→lst r cd (st (s.objOf c b a) x)=r:=fun hg=>by unfold lst;rw[if_pos hg]
    refine aw (ab (kPm aa aa (kPv (aC (m:=_) eN aa aa) aa (kPv (ah isAgg63 sizeOf63 aa aa) aa ?_))))
    refine ap aa (ar call138 aa) (eJ _ _ _ _ (by omega)) .free aa aa ?_
    refine kPv (aP aa aa) aa (kPa aa aa (ad (aj [5,6,0,1,2,3] rfl ?_)))
    exact absurd (by simp at h40;exact h40.2) he
  ·have he:(s.objOf c b a).2=0:=by simpa using h29
   have hob:s.objs c b (n+1) a=s.objOf c b a::s.objs c b n (a+((s.objOf c b a).1.1+1)):=by
    simp only[Dev.objs]
    rw[if_neg (by omega),if_neg (by omega)]
   have ho:=hZ hc hb he
   have ho1:=ho.w
   have ho2:=ho.r
   have ho3:=ho.at_
   refine aw (ac (ac (ab (kPm aa aa (kPv (ah isAgg134 sizeOf134 aa aa) aa ?_)))))
   refine kPm aa aa ?_
   first | refine fZ (f:=f) (r:=r) (H1:=row b5 [i64 b.act,i64 b.used,sv] 125::row b4 [i64 c.log,i64 c.roots,i64 c.space] 39::row b3 [ptr bd] 53::ax bd s::(Hx x++(row b7 [i64 (s.objOf c b a).1.1,i64 (s.objOf c b a).1.2.1,i64 (s.objOf c b a).1.2.2] 134::E))) aa aa (fun w hh=>hh.perm (List.perm_middle (l₁ :=blk l (.loop r)::row b5 [i64 b.act,i64 b.used,sv] 125::row b4 [i64 c.log,i64 c.roots,i64 c.space] 39::row b3 [ptr bd] 53::ax bd s::Hx x)).symm) (by rw[hrp];rfl) hrf ((hround (s.objOf c b a) x (hZ hc hb he) hIx).2 (row b7 [i64 (s.objOf c b a).1.1,i64 (s.objOf c b a).1.2.1,i64 (s.objOf c b a).1.2.2] 134::E)) .free aa ?_ ?_ | refine fZ (f:=f) (r:=r) (H1:=row b5 [i64 b.act,i64 b.used,sv] 125::row b4 [i64 c.log,i64 c.roots,i64 c.space] 39::row b3 [ptr bd] 53::ax bd s::(Hx x++(row b7 [i64 0,i64 0,i64 a] 134::E))) aa aa (fun w hh=>hh.perm (List.perm_middle (l₁ :=blk l (.loop r)::row b5 [i64 b.act,i64 b.used,sv] 125::row b4 [i64 c.log,i64 c.roots,i64 c.space] 39::row b3 [ptr bd] 53::ax bd s::Hx x)).symm) (by rw[hrp];rfl) hrf ((hround ((0,0,a),(s.objOf c b a).2) x (za (by omega)) hIx).2 (row b7 [i64 0,i64 0,i64 a] 134::E)) .free aa ?_ ?_
   rotate_left
   ·rintro _ _ ⟨⟩
   rintro _ _ ⟨rfl,rfl⟩
   first | refine aK (H':=row b7 [i64 (s.objOf c b a).1.1,i64 (s.objOf c b a).1.2.1,i64 (s.objOf c b a).1.2.2] 134::blk l (.loop (lst r cd (st (s.objOf c b a) x)))::row b5 [i64 b.act,i64 b.used,sv] 125::row b4 [i64 c.log,i64 c.roots,i64 c.space] 39::row b3 [ptr bd] 53::ax bd s::(Hx (st (s.objOf c b a) x).2++E)) (fun w hh=>hh.perm (List.perm_middle (l₁ :=blk l (.loop (lst r cd (st (s.objOf c b a) x)))::row b5 [i64 b.act,i64 b.used,sv] 125::row b4 [i64 c.log,i64 c.roots,i64 c.space] 39::row b3 [ptr bd] 53::ax bd s::Hx (st (s.objOf c b a) x).2))) ?_ | refine aK (H':=row b7 [i64 0,i64 0,i64 a] 134::blk l (.loop (lst r cd (st ((0,0,a),(s.objOf c b a).2) x)))::row b5 [i64 b.act,i64 b.used,sv] 125::row b4 [i64 c.log,i64 c.roots,i64 c.space] 39::row b3 [ptr bd] 53::ax bd s::(Hx (st ((0,0,a),(s.objOf c b a).2) x).2++E)) (fun w hh=>hh.perm (List.perm_middle (l₁ :=blk l (.loop (lst r cd (st ((0,0,a),(s.objOf c b a).2) x)))::row b5 [i64 b.act,i64 b.used,sv] 125::row b4 [i64 c.log,i64 c.roots,i64 c.space] 39::row b3 [ptr bd] 53::ax bd s::Hx (st ((0,0,a),(s.objOf c b a).2) x).2))) ?_
   refine kPv (bu aa) aa (kPm aa aa ?_)
   apply gJ (tp:=40) (t:=37) (σ1:=[(37,_),(7,_),(6,_),(5,_),(0,_),(1,_),(2,_),(3,_)]) 3 rfl (aG rfl)
   ·intro hg2
    refine ao aa (al aa) (.on aa aa (ae hg2)) aa aa (ao aa (am aa aa aa) (.on aa aa (ae hg2)) aa aa (kPv (aJ aa hg2 aa) aa ?_))
    exact bf aa (aG aa) (ga hg2)
   ·intro hg2
    refine ay aa (.on aa aa (ai hg2)) aa (ay aa (.on aa aa (ai hg2)) aa (kPv (aB aa hg2 aa) aa ?_))
    exact bf aa (aG aa) (f9 hg2)
   refine ad ?_
   refine aV aa (fun h40=> ?_) (fun h40=> ?_)
   ·try simp only[decide_eq_true_eq,decide_eq_false_iff_not,Bool.not_eq_true',Bool.not_eq_false',Bool.or_eq_true,Bool.and_eq_true,Bool.and_eq_false_iff,Bool.or_eq_false_iff,beq_iff_eq,bne_iff_ne,beq_eq_false_iff_ne,bne_eq_false_iff_eq,ge_iff_le,gt_iff_lt,ne_eq] at h40
    refine au ?_
    exact ja results190 (fun w hh=>⟨_,⟨by rw[hinv,hob,zs (by simpa [he] using h40)];exact(hround (s.objOf c b a) x (hZ hc hb he) hIx).1,by rw[hinv,hob,zs (by simpa [he] using h40)]⟩,hh.tail⟩)
   ·have h40':=h40
    have hg:(st (s.objOf c b a) x).1=true∨(s.objOf c b a).2≠0:=by first | exact .inr he | (left;simpa [he] using h40)
    have hlr:(st (s.objOf c b a) x).1=true→lst r cd (st (s.objOf c b a) x)=r:=fun hg=>by unfold lst;rw[if_pos hg]
    refine aw (ab (kPm aa aa (kPv (aC (m:=_) eN aa aa) aa (kPv (ah isAgg63 sizeOf63 aa aa) aa ?_))))
    refine ap aa (ar call138 aa) (eJ _ _ _ _ (by omega)) .free aa aa ?_
    refine kPv (aP aa aa) aa (kPa aa aa (ad (aj [5,6,0,1,2,3] rfl ?_)))
    exact fun a_ w st_=>⟨(_,n,(st (s.objOf c b a) x).2),⟨(hround (s.objOf c b a) x (hZ hc hb he) hIx).1,by simp only;omega,by simp only;omega,by rw[hinv,hob];simp only[itl];rw[if_pos (hg.resolve_right (by omega))]⟩,by simp only;omega,st_.to ⟨rfl,rfl,rfl,rfl,rfl,rfl,trivial⟩ (fun hh=>by have hh:=hh.tail;rw[hlr (hg.resolve_right (by omega))] at hh;exact hh)⟩
 ·have hk:¬ a<b.place c b.used:=by simpa using h19
  refine bJ ?_
  exact cG results190 (fun w hh=>⟨_,⟨by rw[hinv,sO (by omega)];exact hIx,by rw[hinv,sO (by omega)];rfl⟩,hh⟩)
def num(s:List UInt8):Option Nat:=match Lib.parseUintB 64 s with
 | .ok u=>if Lib.decDigits u=s then some u else none
 | _=>none
def pZ(n:Nat):List UInt8→Option Nat
 | []=>some n
 | c::t=>if c.toNat<48∨57<c.toNat∨18446744073709551615<n*10+(c.toNat - 48) then none else pZ (n*10+(c.toNat - 48)) t
def DU(s:List UInt8):Option Nat:=if s=[]∨20<s.length∨(s.getD 0 0=48∧1<s.length) then none else pZ 0 s
theorem lB:∀ (s:List UInt8) (n:Nat),n≤18446744073709551615→pZ n s=(match Lib.parseUintM (2 ^ 64 - 1) n s with
 | .ok u=>some u
 | _=>none)
 | [],n,_=>rfl
 | c::t,n,h=>by
   unfold pZ Lib.parseUintM
   by_cases h1:48≤c.toNat∧c.toNat≤57
   ·rw[if_pos h1]
    by_cases h2:1844674407370955162≤n
    ·rw[if_pos (by omega),if_pos h2]
    ·rw[if_neg h2]
     by_cases h3:2 ^ 64 - 1<n*10+(c.toNat - 48)
     ·rw[if_pos (by omega),if_pos h3]
     ·rw[if_neg h3,if_neg (by omega)]
      exact lB t _ (by omega)
   ·rw[if_neg h1,if_pos (by omega)]
theorem iV{u:Nat}(h:u<10):Lib.decDigits u=[UInt8.ofNat (48+u)]:=by rw[Lib.decDigits,dif_pos h]
theorem u7{u:Nat}(h:¬ u<10):Lib.decDigits u=Lib.decDigits (u / 10)++[UInt8.ofNat (48+u%10)]:=by rw[Lib.decDigits,dif_neg h]
theorem tK{c:UInt8}(h:48≤c.toNat):UInt8.ofNat (48+(c.toNat - 48))=c:=by
 rw[show 48+(c.toNat - 48)=c.toNat by omega];simp
theorem wL:∀ (s:List UInt8) (n u:Nat),1≤n→pZ n s=some u→Lib.decDigits u=Lib.decDigits n++s
 | [],n,u,_,h=>by cases h;simp
 | c::t,n,u,hn,h=>by
   unfold pZ at h
   split at h
   ·cases h
   ·rename_i h1
    have:=wL t _ u (by omega) h
    rw[this,u7 (u:=n*10+(c.toNat - 48)) (by omega),show(n*10+(c.toNat - 48)) / 10=n by omega,show(n*10+(c.toNat - 48))%10=c.toNat - 48 by omega,tK (by omega)]
    simp
theorem rL:∀ (s:List UInt8) (n u:Nat),n≤18446744073709551615→pZ n s=some u→u≤18446744073709551615
 | [],n,u,hn,h=>by cases h;exact hn
 | c::t,n,u,hn,h=>by
   unfold pZ at h
   split at h
   ·cases h
   ·exact rL t _ u (by omega) h
theorem DV(u:Nat):Lib.decDigits u≠[]:=by
 rw[Lib.decDigits];split<;>simp
theorem BL(u:Nat):1≤u→(Lib.decDigits u).getD 0 0≠48:=by
 induction u using Nat.strongRecOn with
 | _ u ih=>
   intro h
   by_cases h1:u<10
   ·rw[iV h1]
    intro e
    have e2:UInt8.ofNat (48+u)=48:=by simpa using e
    have:=congrArg UInt8.toNat e2
    rw[UInt8.toNat_ofNat_of_lt' (by show 48+u<256;omega)] at this
    have h48:(48:UInt8).toNat=48:=rfl
    omega
   ·rw[u7 h1]
    have:=ih (u / 10) (by omega) (by omega)
    have hn:=DV (u / 10)
    cases e:Lib.decDigits (u / 10) with
    | nil=>exact absurd e hn
    | cons a t=>rw[e] at this;simpa using this
theorem pC(u:Nat)(h:u≤18446744073709551615):(Lib.decDigits u).length≤20:=by
 have key:∀ (k u:Nat),u<10 ^ (k+1)→(Lib.decDigits u).length≤k+1:=by
  intro k
  induction k with
  | zero=>intro u h;rw[iV (by omega)];simp
  | succ k ih=>
    intro u h
    by_cases h1:u<10
    ·rw[iV h1];simp
    ·rw[u7 h1]
     have:=ih (u / 10) (by rw[Nat.div_lt_iff_lt_mul (by decide)];rw[Nat.pow_succ] at h;exact h)
     simp;omega
 exact key 19 u (by have:(10:Nat) ^ 20=100000000000000000000:=by decide
                    omega)
theorem wK(s:List UInt8):DU s=num s:=by
 unfold DU num Lib.parseUintB
 by_cases h0:s=[]
 ·rw[if_pos (.inl h0),if_pos h0]
 rw[if_neg h0]
 have hp:=lB s 0 (by decide)
 by_cases hg:20<s.length∨(s.getD 0 0=48∧1<s.length)
 ·rw[if_pos (.inr hg)]
  cases e:Lib.parseUintM (2 ^ 64 - 1) 0 s with
  | ok u=>
    rw[e] at hp
    have hu:=rL s 0 u (by decide) hp
    have hne:¬ Lib.decDigits u=s:=fun hd=>by
     have hl:=pC u hu
     rw[hd] at hl
     rcases hg with hg | ⟨h1,h2⟩
     ·omega
     ·by_cases hz:1≤u
      ·have:=BL u hz
       rw[hd] at this
       exact this h1
      ·rw[show u=0 by omega,iV (by decide)] at hd
       rw[←hd] at h2;simp at h2
    simp only[if_neg hne]
  | _=>rfl
 ·rw[if_neg (by simp only[h0,false_or];exact hg),hp]
  cases e:Lib.parseUintM (2 ^ 64 - 1) 0 s with
  | ok u=>
    rw[e] at hp
    simp only at hp ⊢
    have hd:Lib.decDigits u=s:=by
     cases s with
     | nil=>exact absurd aa h0
     | cons c t=>
       unfold pZ at hp
       split at hp
       ·cases hp
       ·rename_i h1
        simp only[Nat.zero_mul,Nat.zero_add] at h1 hp
        by_cases hz:c.toNat=48
        ·have hc:c=48:=by apply UInt8.toNat_inj.1;rw[hz];rfl
         have ht:t=[]:=by
          cases t with
          | nil=>rfl
          | cons a b=>exact absurd (.inr ⟨by simp[hc],by simp⟩) hg
         subst ht;subst hc
         have:u=0:=by simpa [pZ] using hp.symm
         subst this
         rw[iV (by decide)];rfl
        ·rw[wL t _ u (by omega) hp,iV (by omega),tK (by omega)]
         rfl
    rw[if_pos hd]
  | _=>rfl
abbrev Cmd:=Int×List Int
def zN:List (List UInt8×Nat):=[([98,101,103,105,110],1),([99,111,109,109,105,116],0),([97,98,111,114,116],0),([97,108,108,111,99],2),([104,101,97,100],1),([114,101,97,100],2),([119,114,105,116,101],3),([114,101,102],2),([112,111,105,110,116],3),([114,111,111,116],1),([115,101,116],2),([100,114,111,112],1),([115,116,101,112],1),([99,111,108,108,101,99,116],0),([115,116,97,116,115],0),([99,104,101,99,107],0),([111,102,102],2),([111,112,101,110],0)]
def jb:List (List UInt8)→Option (List Int)
 | []=>some []
 | s::t=>match num s with
   | none=>none
   | some n=>(jb t).map fun l=>(n:Int)::l
def fw(k:Nat):List UInt8:=(zN.getD k ([],0)).1
def fm(k:Nat):Nat:=(zN.getD k ([],0)).2
def km(w:List UInt8):Nat→Nat→Option (Nat×Nat)
 | 0,_=>none
 | f+1,k=>if fw k=w then some (k,fm k) else km w f (k+1)
def ls(w:List UInt8):Option (Nat×Nat):=km w 18 0
theorem A6{s:List UInt8}(h:∀ u,Lib.parseUintB 64 s≠ .ok u):num s=none:=by
 unfold num
 split
 ·rename_i u e;exact absurd e (h u)
 ·rfl
theorem zc{s:List UInt8}{u:Nat}(h:Lib.parseUintB 64 s= .ok u):num s=if Lib.decDigits u=s then some u else none:=by
 unfold num;rw[h]
theorem y6{s:List UInt8}{u:Nat}(h:Lib.parseUintB 64 s= .ok u):u<18446744073709551616:=by
 unfold Lib.parseUintB at h
 split at h
 ·cases h
 ·have hp:=lB s 0 (by decide)
  rw[h] at hp
  have:=rL s 0 u (by decide) hp
  omega
theorem DK:∀ k,k<18→fm k≤3:=by decide
def di(ws:List (List UInt8)):Cmd×Int:=match ls (ws.getD 0 []) with
 | none=>((0,[]),12)
 | some (k,many)=>if ws.length≠many+1 then ((0,[]),13) else match jb (ws.drop 1) with
   | none=>((0,[]),13)
   | some ns=>(((k:Nat),ns),0)
abbrev PSt:=Int×List Cmd×(List Cmd×Int×Int)
def stP(l:List UInt8)(x:PSt):Bool×PSt:=
 let ws:=tok (ee l) none
 let at_:=IntKind.i64.wrap (x.1+1)
 if ws=[] then (true,at_,x.2.1,x.2.2)
 else if x.2.1.length=400 then (false,at_,x.2.1,[],at_,11)
 else if (di ws).2≠0 then (false,at_,x.2.1,[],at_,(di ws).2)
 else (true,at_,x.2.1++[(di ws).1],x.2.2)
def p0:PSt:=(0,[],[],0,0)
def gW(s:List UInt8):List Cmd×Int×Int:=if 65536<s.length then ([],0,11) else
 if (itl stP (spl 10 s) p0).1=true then ((itl stP (spl 10 s) p0).2.2.1,0,0) else (itl stP (spl 10 s) p0).2.2.2
theorem vD:∀ (l:List (List UInt8)) (x:PSt),(itl stP l x).1=false→(itl stP l x).2.2.2.1=[]
 | [],x,h=>by cases h
 | a::t,x,h=>by
   unfold itl at h ⊢
   split at h
   ·rename_i ha;rw[if_pos ha];exact vD t _ h
   ·rename_i ha;rw[if_neg ha]
    unfold stP at ha ⊢
    simp only at ha ⊢
    split
    ·rename_i h1;rw[if_pos h1] at ha;exact absurd aa ha
    ·rename_i h1
     rw[if_neg h1] at ha
     split
     ·rfl
     ·rename_i h2
      rw[if_neg h2] at ha
      split
      ·rfl
      ·rename_i h3;rw[if_neg h3] at ha;exact absurd aa ha
end Go.Proofs.YtipdhkmphngmoaaGreatDoor
