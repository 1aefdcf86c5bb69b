/- Part of a law's texts. Conditions: none. -/
import Derived.Test.YtoakdoeajpjgkaaGreatDoorQL18Jh
open Go.Proofs.Tryz
set_option linter.all false
namespace Go.Proofs.YtoakdoeajpjgkaaGreatDoor
open Go
theorem aK{α β:Type}{m:Out α}{f:α→Dev→Out β}{b:β}{s':Dev}(h:m.then f= .ok b s'):∃ a s1,m= .ok a s1∧f a s1= .ok b s':=by
 cases m with
 | ok a s1=>exact⟨a,s1,rfl,h⟩
 | off s=>cases h
theorem cx{s s':Dev}{i v a:Int}(h:U64 s)(hv:0≤v∧v<18446744073709551616)(e:s.store i v= .ok a s'):U64 s'∧s'.n=s.n:=by
 unfold Dev.store at e
 split at e
 ·cases e;exact⟨h,rfl⟩
 ·split at e
  ·cases e
  ·cases e
   refine⟨fun x=> ?_,rfl⟩
   show 0≤upd s.now i.toNat v x∧upd s.now i.toNat v x<_
   unfold upd
   split
   ·exact hv
   ·exact h x
theorem dO{s s':Dev}{i a:Int}(h:U64 s)(e:s.flush i= .ok a s'):U64 s'∧s'.n=s.n:=by
 unfold Dev.flush at e
 split at e
 ·cases e;exact⟨h,rfl⟩
 ·split at e
  ·cases e
  ·cases e;exact⟨h,rfl⟩
theorem eS{s s':Dev}{a:Unit}(h:U64 s)(e:s.fence= .ok a s'):U64 s'∧s'.n=s.n:=by
 unfold Dev.fence at e
 split at e
 ·cases e
 ·cases e;exact⟨h,rfl⟩
theorem vU{L L':bM}{s s':Dev}{i a:Int}(hL:dK L)(h:U64 s)(hn:s.n≤1000000)(e:L.append s i= .ok (a,L') s'):U64 s'∧s'.n=s.n:=by
 have hl1:=hL.e1
 have hl2:=hL.e2
 have hl3:=hL.n1
 have hl4:=hL.n2
 have hl5:=hL.c.l2
 have hld:=h.load
 unfold bM.append at e
 split at e
 ·cases e;exact⟨h,rfl⟩
 split at e
 ·cases e;exact⟨h,rfl⟩
 obtain⟨a1,s1,e1,e⟩:=aK e
 have h1:=cx h ⟨by omega,by omega⟩ e1
 obtain⟨a2,s2,e2,e⟩:=aK e
 have h2:=cx h1.1 (h1.1.load i) e2
 obtain⟨a3,s3,e3,e⟩:=aK e
 have h3:=dO h2.1 e3
 obtain⟨a4,s4,e4,e⟩:=aK e
 have h4:=eS h3.1 e4
 obtain⟨a5,s5,e5,e⟩:=aK e
 have h5:=cx h4.1 (by unfold gr;omega) e5
 obtain⟨a6,s6,e6,e⟩:=aK e
 have h6:=dO h5.1 e6
 obtain⟨a7,s7,e7,e⟩:=aK e
 have h7:=eS h6.1 e7
 cases e
 exact⟨h7.1,by rw[h7.2,h6.2,h5.2,h4.2,h3.2,h2.2,h1.2]⟩
theorem ju{S S':bC}{s s':Dev}{i v a:Int}(hS:lA S)(h:U64 s)(hn:s.n≤1000000)(hv:0≤v∧v<18446744073709551616)(e:S.store s i v= .ok (a,S') s'):U64 s'∧s'.n=s.n:=by
 unfold bC.store at e
 split at e
 ·cases e;exact⟨h,rfl⟩
 ·split at e
  ·obtain⟨⟨x1,x2⟩,t,e1,e⟩:=aK e
   have h1:=vU hS.L h hn e1
   split at e
   ·cases e;exact h1
   ·obtain⟨y,u,e2,e⟩:=aK e
    have h2:=cx h1.1 hv e2
    cases e;exact⟨h2.1,by rw[h2.2,h1.2]⟩
  ·obtain⟨y,u,e2,e⟩:=aK e
   have h2:=cx h hv e2
   cases e;exact h2
theorem uX(B:World)(bd be:Nat):mN B 145 [ptr bd] bd be Unit (fun _ _=>pr True) (fun i v s _=>(s.store i v).then fun a s'=> .ok (a,()) s') (fun s _=>U64 s) where
 enter:=call145
 u64:=fun _ _ h=>h
 says:=fun Fr i v s e hok w hh=>by
  refine(cA B Fr bd s i v w (hh.front 1 aa).tail).mono fun en w' h=> ?_
  cases en with
  | returned rv=>
    obtain⟨H,⟨s',⟨a,hm,rfl⟩,rfl⟩,hh⟩:=h
    exact⟨_,⟨a,(),s',by rw[hm];rfl,rfl,rfl⟩,(hh.unpr (p:=True) trivial).back 1 (by simp)⟩
  | panicked c=>
    obtain⟨H,⟨s',⟨hm,rfl⟩,rfl⟩,hh⟩:=h
    exact⟨_,⟨s',by rw[hm];rfl,rfl,rfl⟩,hh⟩
  | outgrown=>exact h
 keeps:=fun i v s e a e' s' hok hv hm=>by
  obtain⟨a1,s1,e1,hm⟩:=aK hm
  cases hm
  exact(cx hok hv e1).1
theorem uW(B:World)(bd bs:Nat)(c:Cfg):mN B 86 [ptr bs] bd bs bC (fun b S=>iQ b S) (fun i v s S=>S.store s i v) (fun s S=>U64 s∧s.n≤1000000∧lA S∧S.L.d=bd∧S.L.c=c) where
 enter:=call86
 u64:=fun _ _ h=>h.1
 says:=fun Fr i v s S hok w hh=>by
  obtain⟨h1,h2,h3,rfl,h5⟩:=hok
  refine(n7 B Fr bs S s h3 i v w (hh.front 1 aa)).mono fun en w' h=> ?_
  cases en with
  | returned rv=>
    obtain⟨H,⟨a,S',s',hm,rfl,rfl⟩,hh⟩:=h
    exact⟨_,⟨a,S',s',hm,rfl,rfl⟩,hh.front 1 aa⟩
  | panicked c=>
    obtain⟨H,⟨s',hm,rfl,rfl⟩,hh⟩:=h
    exact⟨_,⟨s',hm,rfl,rfl⟩,hh⟩
  | outgrown=>exact h
 keeps:=fun i v s S a S' s' hok hv hm=>by
  have h1:=ju hok.2.2.1 hok.1 hok.2.1 hv hm
  have h2:=n4 hm
  have hc:=hok.2.2.1.L.c.act
  exact⟨h1.1,by rw[h1.2];exact hok.2.1,rm hok.2.2.1 hok.2.1 (by have:=hok.2.2.1.L.c.l1;have:=hok.2.2.1.L.c.r1;omega) hm (jZ hok.2.2.1.L hm),by rw[h2.1];exact hok.2.2.2.1,by rw[h2.2.1];exact hok.2.2.2.2⟩
theorem qi(B:World)(Fr:List HP)(f:FuncId)(fi:List Value)(bd be:Nat)(ε:Type)(ExA:Nat→ε→HP)(op:Int→Int→Dev→ε→Out (Int×ε))(ok:Dev→ε→Prop)(hS:mN B f fi bd be ε ExA op ok)(o:db)(ho:lB o)(i v:Int)(hv:0≤v∧v<18446744073709551616)(s:Dev)(e:ε)(hok:ok s e):
 ∀ w_,Holds B (aB bd s::ExA be e::Fr) w_→Calls Tryz.prog 88 [gQ o,i64 i,w64 v,.func (.func f) fi.toArray #[]].toArray w_ (Ret B (fun rv H'=>∃ x e' s',iL op o i false v s e= .ok (x,e') s'∧rv=i64 x∧ok s' e'∧H'=aB bd s'::ExA be e'::Fr) (fun ch H'=>∃ s',iL op o i false v s e= .off s'∧ch=dV∧H'=aB bd s'::Fr)):=by
 refine an func88 aa ntmps88 aa (ac (ab (kPb (aX aa) aa fun b4=>(kPa aa aa (ad (ac (ab (kPv (ag isAgg160 sizeOf160 aa aa) aa ?_))))))))
 refine kPm aa aa (aw aa (au call148 aa) (pm _ _ o ho _ _) .free aa aa ?_)
 refine kPm aa aa (kPv (aA aa aa) aa (kPv (aA aa aa) aa (kPa aa aa (kPa aa aa (ad (am [10,9,8,2,3] rfl (ac (ac (ab (kPm aa aa (kPv (ao aa aa aa) aa ?_)))))))))))
 refine ad ?_
 refine a8 aa (fun h18=> ?_) (fun h18=> ?_)
 ·have hk:(cm o i false).2≠0:=by simpa using h18
  refine ac (ab (kPm aa aa (kPa aa aa (ad (az ?_)))))
  exact aq results88 aa (fun w_ hh=>⟨_,⟨_,e,s,by unfold iL;rw[if_pos hk],rfl,hok,rfl⟩,hh.tail⟩)
 ·have hk:¬ (cm o i false).2≠0:=by simpa using h18
  refine ar (ac (ab (kPm aa aa (kPm aa aa (kPm aa aa (dx ExA be (dx aB bd ?_)))))))
  refine aU aa (iO hS.enter aa aa) (hS.says _ _ _ _ _ hok) .free aa aa ?_ ?_
  rotate_left
  ·rintro _ _ ⟨s9,hm9,rfl,rfl⟩
   exact bi fun w hh=>⟨_,⟨s9,by unfold iL;rw[if_neg hk];exact hm9,rfl,rfl⟩,(hh.front 1 aa).tail⟩
  rintro _ _ ⟨a1,e1,s1,hm1,rfl,rfl⟩
  have hok1:=hS.keeps _ _ _ _ _ _ _ hok ⟨by omega,by omega⟩ hm1
  refine kPa aa aa (ad (am [8] rfl (az ?_)))
  exact aq results88 aa (fun w_ hh=>⟨_,⟨_,e1,s1,by unfold iL;rw[if_neg hk];exact hm1,rfl,hok1,rfl⟩,(hh.front 2 aa).tail⟩)
theorem xF(B:World)(Fr:List HP)(f:FuncId)(fi:List Value)(bd be:Nat)(ε:Type)(ExA:Nat→ε→HP)(op:Int→Int→Dev→ε→Out (Int×ε))(ok:Dev→ε→Prop)(hS:mN B f fi bd be ε ExA op ok)(o:db)(ho:lB o)(i v:Int)(hv:0≤v∧v≤9223372036854775807)(s:Dev)(e:ε)(hok:ok s e):
 ∀ w_,Holds B (aB bd s::ExA be e::Fr) w_→Calls Tryz.prog 170 [gQ o,i64 i,i64 v,.func (.func f) fi.toArray #[]].toArray w_ (Ret B (fun rv H'=>∃ x e' s',iL op o i true v s e= .ok (x,e') s'∧rv=i64 x∧ok s' e'∧H'=aB bd s'::ExA be e'::Fr) (fun ch H'=>∃ s',iL op o i true v s e= .off s'∧ch=dV∧H'=aB bd s'::Fr)):=by
 refine an func170 aa ntmps170 aa (ac (ab (kPb (aX aa) aa fun b4=>(kPa aa aa (ad (ac (ab (kPv (ag isAgg160 sizeOf160 aa aa) aa ?_))))))))
 refine kPm aa aa (aw aa (au call148 aa) (pm _ _ o ho _ _) .free aa aa ?_)
 refine kPm aa aa (kPv (aA aa aa) aa (kPv (aA aa aa) aa (kPa aa aa (kPa aa aa (ad (am [10,9,8,2,3] rfl (ac (ac (ab (kPm aa aa (kPv (ao aa aa aa) aa ?_)))))))))))
 refine ad ?_
 refine a8 aa (fun h18=> ?_) (fun h18=> ?_)
 ·have hk:(cm o i true).2≠0:=by simpa using h18
  refine ac (ab (kPm aa aa (kPa aa aa (ad (az ?_)))))
  exact aq results170 aa (fun w_ hh=>⟨_,⟨_,e,s,by unfold iL;rw[if_pos hk],rfl,hok,rfl⟩,hh.tail⟩)
 ·have hk:¬ (cm o i true).2≠0:=by simpa using h18
  refine ar (ac (ab (kPm aa aa (kPm aa aa (kPm aa aa (kPv (dh runUnderlying3 runUnderlying25 aa (fQ (by omega))) aa (dx ExA be (dx aB bd ?_))))))))
  refine aU aa (iO hS.enter aa aa) (hS.says _ _ _ _ _ hok) .free aa aa ?_ ?_
  rotate_left
  ·rintro _ _ ⟨s9,hm9,rfl,rfl⟩
   exact bi fun w hh=>⟨_,⟨s9,by unfold iL;rw[if_neg hk];exact hm9,rfl,rfl⟩,(hh.front 1 aa).tail⟩
  rintro _ _ ⟨a1,e1,s1,hm1,rfl,rfl⟩
  have hok1:=hS.keeps _ _ _ _ _ _ _ hok ⟨by omega,by omega⟩ hm1
  refine kPa aa aa (ad (am [8] rfl (az ?_)))
  exact aq results170 aa (fun w_ hh=>⟨_,⟨_,e1,s1,by unfold iL;rw[if_neg hk];exact hm1,rfl,hok1,rfl⟩,(hh.front 2 aa).tail⟩)
theorem xw(B:World)(Fr:List HP)(f:FuncId)(fi:List Value)(bd be:Nat)(ε:Type)(ExA:Nat→ε→HP)(op:Int→Int→Dev→ε→Out (Int×ε))(ok:Dev→ε→Prop)(hS:mN B f fi bd be ε ExA op ok)(c:Cfg)(hc:bA c)(b:Blk)(hb:0≤b.act∧b.act<9223372036854775808∧0≤b.used∧b.used<9223372036854775808)(hw64:∀ x∈b.rts,0≤x∧x<18446744073709551616)(hl0:0<b.rts.length)(hl1:b.rts.length≤100000)(sv:Value)(hsv:aL sv=true)(hsl:SlR B Fr sv (b.rts.map w64))(s:Dev)(e:ε)(hok:ok s e):
 ∀ w_,Holds B (aB bd s::ExA be e::Fr) w_→Calls Tryz.prog 205 [ptr bd,dY c,ly b sv,.func (.func f) fi.toArray #[]].toArray w_ (Ret B (fun rv H'=>∃ x e' s',lh op c b s e= .ok (x,e') s'∧rv=i64 x∧ok s' e'∧H'=aB bd s'::ExA be e'::Fr) (fun ch H'=>∃ s',lh op c b s e= .off s'∧ch=dV∧H'=aB bd s'::Fr)):=by
 refine an func205 aa ntmps205 aa ?_
 obtain⟨hA1,hA2,hA3⟩:=AZ hc
 have hws:∀ x∈(b.act::b.used::b.rts),0≤x∧x<18446744073709551616:=fun x hx=>by
  simp only[List.mem_cons] at hx
  rcases hx with rfl | rfl | hx
  ·omega
  ·omega
  ·exact hw64 x hx
 refine ac (ab (kPb (aX aa) aa fun b5=>(kPb (aX aa) aa fun b6=>(kPa aa aa (ad (ac (ab (kPl iq isAgg3 aa aa aa aa (kPv (dh runUnderlying3 runUnderlying25 aa (fQ (by omega))) aa (kPl dE isAgg3 aa aa aa aa (kPv (dh runUnderlying3 runUnderlying25 aa (fQ (by omega))) aa ?_)))))))))))
 refine kPb (AL runUnderlying30 sizeOf25 zeroValue25 aa aa aa aa aa) aa fun b20=>(kPl fh isAgg30 aa aa aa aa (aM (H':=dJ 25 w64 0 (.slice (some ⟨b20,0,none⟩) 2 2,[b.act,b.used])::_) (fun w hh=>gX aa aa hh) (cJ aa (kz (yv:=sv) (ys:=b.rts) aa aa runUnderlying30 runUnderlying30 ⟨_,rfl⟩ sizeOf25 zeroValue25 aa (fun _=>rfl) hO aa aa ((((hsl.cons _).cons _).cons _).cons _) hl0 (by simp;omega)) .free aa aa ?_)))
 rintro sv2 _ ⟨hsv2,rfl⟩
 refine zP (by simp) fun bW oW capW hW=> ?_
 subst hW
 refine kPa aa aa (ad (am [9,8,5,0,3] rfl (ac (ac (ab (kPm aa aa (kPv (bD aa runUnderlying30 ⟨_,rfl⟩ rfl) aa (kPm aa aa (ad (aG (du (ι:=Nat×Dev×ε) (fun i=>i.1≤(b.act::b.used::b.rts).length∧ok i.2.1 i.2.2∧lh op c b s e=gM op ((b.act::b.used::b.rts).drop i.1) (c.active+i.1) i.2.1 i.2.2) (fun i=>[(0,ptr bd),(3,.func (.func f) fi.toArray #[]),(5,ptr b5),(8,i64 0),(24,.slice (some ⟨bW,oW,none⟩) (b.act::b.used::b.rts).length capW),(25,i64 ((b.act::b.used::b.rts).length:Nat)),(26,i64 i.1)]) (fun i=>dJ 25 w64 0 (.slice (some ⟨bW,oW,none⟩) (b.act::b.used::b.rts).length capW,(b.act::b.used::b.rts))::row b6 [i64 b.act,i64 b.used,sv] 151::row b5 [i64 c.log,i64 c.roots,i64 c.space] 134::aB bd i.2.1::ExA be i.2.2::Fr) (fun i=>(b.act::b.used::b.rts).length - i.1) (0,s,e) ⟨Nat.zero_le _,hok,by simp[lh]⟩ (fun a w st=>st.to ⟨rfl,rfl,rfl,rfl,rfl,rfl,rfl,trivial⟩ id) ?_)))))))))))
 rintro⟨k,sL,eL⟩ ⟨hkw,hok2,hinv⟩
 simp only at hkw hok2 hinv ⊢
 have hr1:=hc.r1
 have hkb:(k:Int)≤200000:=by simp at hkw;omega
 refine ac (ab (kPv (ao aa aa aa) aa (ad (ac ?_))))
 refine a8 aa (fun h27=> ?_) (fun h27=> ?_)
 ·have hk:k<(b.act::b.used::b.rts).length:=by simp at h27 ⊢;omega
  have hwk:=hws _ (List.getElem_mem hk)
  have hst:gM op ((b.act::b.used::b.rts).drop k) (c.active+k) sL eL=if sL.load (c.active+k)=(b.act::b.used::b.rts)[k] then gM op ((b.act::b.used::b.rts).drop (k+1)) (c.active+(k+1:Nat)) sL eL else (op (c.active+k) ((b.act::b.used::b.rts)[k]) sL eL).then fun x s9=>if x.1≠0 then .ok x s9 else gM op ((b.act::b.used::b.rts).drop (k+1)) (c.active+(k+1:Nat)) s9 x.2:=by
   rw[List.drop_eq_getElem_cons hk]
   push_cast
   rw[←Int.add_assoc]
   rfl
  refine ar (ac (aG (ac (ab (kPm aa aa (kPv (cg runUnderlying30 sizeOf25 aa aa (by omega) (by omega)) aa ?_))))))
  refine kPv (bP (v:=w64 (b.act::b.used::b.rts)[k]) isAgg25 (cP 0 aa) aa (by rw[Int.toNat_natCast,List.getElem?_map,List.getElem?_eq_getElem hk];rfl)) aa ?_
  refine kPa aa aa (kPa aa aa (ad (ac (ab (kPv (ag isAgg134 sizeOf134 aa aa) aa ?_)))))
  refine aw aa (au call142 aa) (fN _ _ c hc) .free aa aa ?_
  refine kPm aa aa (kPv (aN aa aa) aa (kPa aa aa (ad (am [12,11,26,25,24,8,5,0,3] rfl (ac (ac (ab (kPm aa aa (kPm aa aa (aw aa (au call173 aa) (bI (q:=aB) (fun Fr=>cq _ Fr _ _ _)) .free aa aa ?_))))))))))
  refine kPm aa aa (kPv (ao aa aa aa) aa (ad ?_))
  refine a8 aa (fun h39=> ?_) (fun h39=> ?_)
  ·have hk4:sL.load (c.active+k)=(b.act::b.used::b.rts)[k]:=by simpa using h39
   refine bF (ab (kPv (aN aa aa) aa (kPm aa aa (ad (am [26,25,24,8,5,0,3] rfl ?_)))))
   exact fun a w_ st=>⟨(k+1,sL,eL),⟨by simp only;omega,hok2,by rw[hinv,hst,if_pos hk4]⟩,by simp only;omega,st.to ⟨rfl,rfl,rfl,rfl,rfl,rfl,rfl,trivial⟩ id⟩
  ·have hk4:¬ sL.load (c.active+k)=(b.act::b.used::b.rts)[k]:=by simpa using h39
   refine ar (ac (ab (kPm aa aa (kPm aa aa (kPm aa aa (dx ExA be (dx aB bd ?_)))))))
   refine aU aa (iO hS.enter aa aa) (hS.says _ _ _ _ _ hok2) .free aa aa ?_ ?_
   rotate_left
   ·rintro _ _ ⟨s9,hm9,rfl,rfl⟩
    exact bi fun w hh=>⟨_,⟨s9,by rw[hinv,hst,if_neg hk4,hm9];rfl,rfl,rfl⟩,(((hh.front 3 aa).front 3 aa).front 3 aa).tail.tail.tail⟩
   rintro _ _ ⟨a2,e2,s2,hm2,rfl,rfl⟩
   have hok3:=hS.keeps _ _ _ _ _ _ _ hok2 hwk hm2
   refine kPa aa aa (ad (am [13,26,25,24,8,5,0,3] rfl (ac (ab (kPm aa aa (kPv (ao aa aa aa) aa (ad ?_)))))))
   refine a8 aa (fun h45=> ?_) (fun h45=> ?_)
   ·have hk5:a2≠0:=by simpa using h45
    refine ac (ab (kPm aa aa (kPa aa aa (ad (az ?_)))))
    exact aq results205 aa (fun w_ hh=>⟨_,⟨_,e2,s2,by rw[hinv,hst,if_neg hk4,hm2,aR,if_pos hk5],rfl,hok3,rfl⟩,(((hh.front 4 aa).front 4 aa).front 4 aa).tail.tail.tail⟩)
   ·have hk5:¬ a2≠0:=by simpa using h45
    refine ar (ab (kPv (aN aa aa) aa (kPm aa aa (ad ?_))))
    exact fun a w_ st=>⟨(k+1,s2,e2),⟨by simp only;omega,hok3,by rw[hinv,hst,if_neg hk4,hm2,aR,if_neg hk5]⟩,by simp only;omega,st.to ⟨rfl,rfl,rfl,rfl,rfl,rfl,rfl,trivial⟩ (fun hh=>(((((hh.front 1 aa).front 1 aa).front 4 aa).front 4 aa).front 4 aa))⟩
 ·have hk:¬ k<(b.act::b.used::b.rts).length:=by simp at h27 ⊢;omega
  refine bF (ac (ab (kPa aa aa (ad (am [8] rfl (az ?_))))))
  exact aq results205 aa (fun w_ hh=>⟨_,⟨0,eL,sL,by rw[hinv,List.drop_eq_nil_of_le (by omega)];rfl,rfl,hok2,rfl⟩,hh.tail.tail.tail⟩)
abbrev gm(i v:Int)(s:Dev)(_:Unit):Out (Int×Unit):=(s.store i v).then fun a s'=> .ok (a,()) s'
theorem rQ{s:Dev}{i v:Int}(h:s.pow.lim<0):mP (gm i v s ()) (fun _=>True) s.n:=
 cz (fz h) fun _ s1 _ h1 e1=>⟨_,_,rfl,trivial,h1,e1⟩
theorem qL{a h:Int}:∀ (f:Nat) (i:Int) (s:Dev),s.pow.lim<0→mP (fa gm a h f i s ()) (fun _=>True) s.n
 | 0,_,s,h1=>⟨_,_,rfl,trivial,h1,rfl⟩
 | f+1,i,s,h1=>by
   unfold fa
   refine cz (rQ h1) fun x s1 _ h2 e2=> ?_
   split
   ·exact⟨_,_,rfl,trivial,h2,e2⟩
   ·exact e2▸qL f (i+1) s1 h2
theorem vu{c:Cfg}{w r:Int}{s:Dev}(h1:s.pow.lim<0):mP (cO gm c w r s ()) (fun _=>True) s.n:=by
 unfold cO
 split
 ·exact⟨_,_,rfl,trivial,h1,rfl⟩
 split
 ·exact⟨_,_,rfl,trivial,h1,rfl⟩
 split
 ·exact⟨_,_,rfl,trivial,h1,rfl⟩
 refine cz (rQ h1) fun x s1 _ h2 e2=> ?_
 split
 ·exact⟨_,_,rfl,trivial,h2,e2⟩
 ·exact e2▸qL _ _ s1 h2
theorem mL(B:World)(Fr:List HP)(bd:Nat)(c:Cfg)(hc:bA c)(w r:Int)(s:Dev)(hl:s.pow.lim<0)(hu:U64 s):
 ∀ w_,Holds B (aB bd s::Fr) w_→Calls Tryz.prog 85 [ptr bd,dY c,.agg #[i64 w,i64 r],.func (.func 145) [ptr bd].toArray #[]].toArray w_ (Ret B (fun rv H'=>∃ x s',cO gm c w r s ()= .ok (x,()) s'∧rv= .tuple #[i64 x.1,i64 x.2]∧s'.pow.lim<0∧s'.n=s.n∧U64 s'∧H'=aB bd s'::Fr) (fun _ _=>False)):=fun w_ hh=>by
 obtain⟨y,s2,hg,_,hg2,hg3⟩:=vu (c:=c) (w:=w) (r:=r) hl
 refine(uN B Fr _ [ptr bd] bd 0 Unit (fun _ _=>pr True) gm _ (uX B bd 0) c hc w r s () hu w_ ((hh.unpr (p:=True) trivial).back 1 (by simp))).mono fun en w' h=> ?_
 cases en with
 | returned rv=>
   obtain⟨H,⟨x,e',s',hm,rfl,hok,rfl⟩,hh⟩:=h
   obtain⟨rfl,rfl⟩:y=(x,e')∧s2=s':=by rw[hg] at hm;cases hm;exact⟨rfl,rfl⟩
   exact⟨_,⟨x,s2,hm,rfl,hg2,hg3,hok,rfl⟩,(hh.front 1 aa).tail⟩
 | panicked c=>
   obtain⟨H,⟨s',hm,_⟩,_⟩:=h
   rw[hg] at hm;cases hm
 | outgrown=>exact h
theorem mo(f:Int→Int):∀ (k:Nat) (i:Int) (s s':Dev) (a:Unit),U64 s→eB f k i s= .ok a s'→U64 s'
 | 0,_,s,s',a,h,e=>by cases e;exact h
 | k+1,i,s,s',a,h,e=>by
   rw[xk] at e
   obtain⟨_,s1,e1,e⟩:=aK e
   obtain⟨_,s2,e2,e⟩:=aK e
   exact mo f k _ s2 s' a (dO (cx h (by decide) e1).1 e2).1 e
theorem il{s s':Dev}{c:Cfg}{a:Int}(h:U64 s)(hc:bA c)(e:s.format c= .ok a s'):U64 s':=by
 have:=hc.r1;have:=hc.r2;have:=hc.l1;have:=hc.l2;have:=hc.s1;have:=hc.s2
 unfold Dev.format at e
 split at e
 ·cases e;exact h
 obtain⟨_,s1,e1,e⟩:=aK e
 obtain⟨_,s2,e2,e⟩:=aK e
 obtain⟨_,s3,e3,e⟩:=aK e
 have h3:=(eS (dO (cx h (by decide) e1).1 e2).1 e3).1
 obtain⟨_,s4,e4,e⟩:=aK e
 simp only[st3] at e4
 obtain⟨_,t1,f1,e4⟩:=aK e4
 obtain⟨_,t2,f2,e4⟩:=aK e4
 obtain⟨_,t3,f3,e4⟩:=aK e4
 have g1:=(cx h3 (show 0≤c.log∧c.log<_ by omega) f1).1
 have g2:=(cx g1 (show 0≤c.roots∧c.roots<_ by omega) f2).1
 have g3:=(cx g2 (show 0≤c.space∧c.space<_ by omega) f3).1
 cases e4
 obtain⟨_,s5,e5,e⟩:=aK e
 obtain⟨_,s6,e6,e⟩:=aK e
 obtain⟨_,s7,e7,e⟩:=aK e
 obtain⟨_,s8,e8,e⟩:=aK e
 have h8:=mo _ _ _ _ _ _ (mo _ _ _ _ _ _ (dO (cx g3 (by decide) e5).1 e6).1 e7) e8
 obtain⟨_,s9,e9,e⟩:=aK e
 obtain⟨_,s10,e10,e⟩:=aK e
 have h10:=(eS (dO h8 e9).1 e10).1
 obtain⟨_,s11,e11,e⟩:=aK e
 obtain⟨_,s12,e12,e⟩:=aK e
 obtain⟨_,s13,e13,e⟩:=aK e
 have h13:=(eS (dO (cx h10 (by decide) e11).1 e12).1 e13).1
 cases e;exact h13
theorem kv(pa N:Nat):U64 (iP pa [] N):=fun x=>by
 show 0≤(tab N (lp [])).getD x 0∧(tab N (lp [])).getD x 0<_
 rw[List.getD_eq_getElem?_getD]
 unfold tab
 by_cases h:x<N
 ·simp[h,lp]
 ·simp[h]
abbrev u8(x:Int):Value:= .int .u8 x
def mkH(h:Int×Int):Int×Int:=(h.2%9,h.1%(h.2%9+1))
def gT(c:Cfg):List (Int×Int)→Dev→List Int→Out (List Int)
 | [],s,acc=> .ok acc s
 | h::t,s,acc=>(cO gm c (mkH h).1 (mkH h).2 s ()).then fun x s'=>gT c t s' (if x.1.2=0 then acc++[x.1.1] else acc)
theorem zN(B:World)(H:List HP)(h:Int×Int)(h0:0≤h.1∧h.1<256)(h1:0≤h.2∧h.2<256):
 ∀ w,Holds B H w→Calls Tryz.prog 204 [.agg #[u8 h.1,u8 h.2]].toArray w (aZ B H (.agg #[i64 (mkH h).1,i64 (mkH h).2])):=by
 refine an func204 aa ntmps204 aa (ac (ab (kPb (aX aa) aa fun b1=>(kPb (aC zeroValue102 aa) aa fun b2=>(ad (ac (ab (kPl z6 isAgg5 aa aa aa aa (kPv (fA (c:=h.2%9) aa aa (by decide) (jQ 9 (by omega))) aa (kPv (bR runUnderlying5 runUnderlying3 aa) aa (kPa aa aa ?_)))))))))))
 refine ad (ac (ab (kPm aa aa (kPl z7 isAgg5 aa aa aa aa (kPv (bR runUnderlying5 runUnderlying3 aa) aa (kPm aa aa (kPv (aN aa aa) aa (kPv (fA (c:=h.1%(h.2%9+1)) aa aa (by omega) (jQ _ (by omega))) aa (kPv (aQ aa (kB _ _ aa aa)) aa (kPs (ax (vs:=_) sizeOf102 aa aa aa aa aa) aa (ad ?_)))))))))))
 refine am [2] rfl (az ?_)
 exact qh results204 (.cellA aa isAgg102 sizeOf102 aa aa) (fun w hw=>⟨rfl,hw.tail.tail⟩)
theorem qR(B:World)(Fr:List HP)(x0 x1 x2:Int)(hx:0≤x0∧0≤x1∧0≤x2)(c:Cfg)(hcm:c=mkC x0 x1 x2)(hs:List (Int×Int))(hhs:∀ h∈hs,(0≤h.1∧h.1<256)∧(0≤h.2∧h.2<256))(hlen:hs.length≤100000)(q:Option Addr)(cap:Nat)(hv:SlN B Fr (.slice q hs.length cap) 2 (hs.map fun h=>[u8 h.1,u8 h.2])):
 ∀ w_,Holds B Fr w_→Calls Tryz.prog 168 [.agg #[u16 x0,u16 x1,u16 x2],.slice q hs.length cap].toArray w_ (Ret B (fun rv H'=>∃ (bd pa N:Nat) (s0 s':Dev) (out:List Int) (ov sv:Value),Fmt c N s0∧(N:Int)=c.words∧(U64 s0∧(iP pa [] N).format c= .ok 0 s0)∧gT c hs s0 []= .ok out s'∧U64 s'∧s'.pow.lim<0∧s'.n=N∧aL ov=true∧aL sv=true∧rv= .tuple #[ptr bd,dY c,ly (s'.block c).1 sv,ov]∧H'=cS 0 (sv,(s'.block c).1.rts)::aB bd s'::dJ 3 i64 0 (ov,out)::Fr) (fun _ _=>False)):=by
 refine an func168 aa ntmps168 aa ?_
 have hc:bA c:=by rw[hcm];exact wA hx.1 hx.2.1 hx.2.2
 refine ac (ab (kPb (aX aa) aa fun b2=>(kPa aa aa (kPb (aC zeroValue134 aa) aa fun b5=>(kPb (aC zeroValue151 aa) aa fun b6=>(kPa aa aa (ad (ac (ab (kPv (ag isAgg96 sizeOf96 aa aa) aa ?_))))))))))
 refine aw aa (au call73 aa) (zx _ _ x0 x1 x2 c hcm hx.1 hx.2.1 hx.2.2) .free aa aa ?_
 refine kPb (aC zeroValue134 aa) aa fun b8=>(kPs (ax (vs:=_) sizeOf134 aa aa aa aa aa) aa (ad (ac (ab (kPv (ag isAgg134 sizeOf134 aa aa) aa ?_)))))
 refine aH aa (au call74 aa) (dW _ _ c hc none 0 [] (by decide) (fun _ h=>absurd h (Nat.not_lt_zero _)) SlR.nil) .free aa aa ?_
 rintro _ _ ⟨bd,pa,N,s0,hN,hf,rfl,rfl⟩
 have hfm:=pf hc hN hf
 have hu0:=il (kv pa N) hc hf
 refine kPm aa aa (kPv (aA aa aa) aa (kPv (aA aa aa) aa (kPa aa aa (kPa aa aa (ad (am [10,9,8,7,6,5,4,1] rfl (ac (ac (ab (kPm aa aa (kPv (bz aa) aa ?_)))))))))))
 refine ad (bH aa (rfl) (ar (ac (ab (kPa aa aa (ad (ac (ac (ab (kPm aa aa (kPv (bD aa runUnderlying190 ⟨_,rfl⟩ rfl) aa ?_)))))))))))
 refine kPm aa aa (ad (aG (du (ι:=Nat×Dev×Value×List Int) (fun i=>i.1≤hs.length∧U64 i.2.1∧i.2.1.pow.lim<0∧i.2.1.n=N∧aL i.2.2.1=true∧i.2.2.2.length≤i.1∧gT c hs s0 []=gT c (hs.drop i.1) i.2.1 i.2.2.2) (fun i=>[(4,.pointer none),(5,ptr b5),(6,ptr b6),(7,.slice none 0 0),(8,ptr b8),(9,ptr bd),(11,i.2.2.1),(29,.slice q hs.length cap),(30,i64 hs.length),(31,i64 i.1)]) (fun i=>aB bd i.2.1::dJ 3 i64 0 (i.2.2.1,i.2.2.2)::row b8 [i64 c.log,i64 c.roots,i64 c.space] 134::row b6 [i64 0,i64 0,.slice none 0 0] 151::row b5 [i64 0,i64 0,i64 0] 134::row b2 [u16 x0,u16 x1,u16 x2] 96::Fr) (fun i=>hs.length - i.1) (0,s0,.slice none 0 0,[]) ⟨Nat.zero_le _,hu0,hfm.lim,hfm.n,rfl,Nat.le_refl _,rfl⟩ (fun a w st=>st.to ⟨rfl,rfl,rfl,rfl,rfl,rfl,rfl,rfl,rfl,rfl,trivial⟩ (fun hh=>(eQ hh).front 1 aa)) ?_)))
 rintro⟨k,sL,ov,out⟩ ⟨hk1,huL,hlL,hnL,hov,hol,hinv⟩
 simp only at hk1 huL hlL hnL hov hol hinv ⊢
 refine ac (ab (kPv (ao aa aa aa) aa (ad (ac ?_))))
 refine a8 aa (fun h32=> ?_) (fun h32=> ?_)
 ·have hk:k<hs.length:=by simpa using h32
  have hst:gT c (hs.drop k) sL out=(cO gm c (mkH hs[k]).1 (mkH hs[k]).2 sL ()).then fun x s'=>gT c (hs.drop (k+1)) s' (if x.1.2=0 then out++[x.1.1] else out):=by
   rw[List.drop_eq_getElem_cons hk]
   rfl
  refine ar (ac (aG (ac (ab (rS ((((((hv.cons _).cons _).cons _).cons _).cons _).cons _) (by simp;omega) fun bV oV hq=> ?_)))))
  subst hq
  refine kPv (jT (m:=oV+k*2) runUnderlying190 sizeOf189 aa aa (by omega) (by omega) (by omega)) aa ?_
  refine kPv (gK (i:=k) (c:=[u8 hs[k].1,u8 hs[k].2]) isAgg189 sizeOf189 ((((((hv.cons _).cons _).cons _).cons _).cons _).cons _) aa (by simp[List.getElem?_eq_getElem hk])) aa ?_
  refine kPb (aC zeroValue189 aa) aa fun b13=>(kPs (ax (vs:=_) sizeOf189 aa aa aa aa aa) aa (ad (am [13,31,30,29,11,9,8,7,6,5,4] rfl (ac (wV [6] Tryz.mixed (by kernel_rfl) (by kernel_rfl) ?_)))))
  refine CC (kQm aa aa (kQv (ag isAgg134 sizeOf134 aa aa) aa ?_))
  refine kQv (ag isAgg189 sizeOf189 aa aa) aa ?_
  refine bG aa (au call204 aa) (zN _ _ (hs[k]) (hhs _ (List.getElem_mem hk)).1 (hhs _ (List.getElem_mem hk)).2) .free aa ?_
  refine kQm aa aa (kQv (dz aa aa) aa (bY (dx aB bd (aH aa (au call85 aa) (mL _ _ bd c hc _ _ sL hlL huL) .free aa aa ?_))))
  rintro _ _ ⟨x1,s1,hm1,rfl,hl1,hn1,hu1,rfl⟩
  refine ad (CD (kQm aa aa (kQv (aA aa aa) aa (kQv (aA aa aa) aa (kQa aa aa (kQa aa aa (bY (am [15,14,31,30,29,11,9,8,7,6,5,4] rfl (ac (ab (kPm aa aa ?_)))))))))))
  refine kPv (ao aa aa aa) aa (ad ?_)
  refine a8 aa (fun h46=> ?_) (fun h46=> ?_)
  ·have hk2:x1.2=0:=by simpa using h46
   refine ab (kPm aa aa (kPm aa aa (kPb (f9 runUnderlying166 sizeOf3 zeroValue3 aa aa aa) aa fun b49=>(dt 3 aa ?_))))
   simp only[List.eraseIdx_cons_succ,List.eraseIdx_cons_zero]
   refine cJ aa (eu aa aa runUnderlying166 runUnderlying166 ⟨_,rfl⟩ sizeOf3 zeroValue3 aa (fun _=>rfl) yM aa aa (by omega)) .free aa aa ?_
   rintro ov2 _ ⟨hov2,rfl⟩
   refine kPa aa aa (ad (am [11,31,30,29,9,8,7,6,5,4] rfl (ab (kPv (aN aa aa) aa (kPm aa aa (ad ?_))))))
   exact fun a w st=>⟨(k+1,s1,ov2,out++[x1.1]),⟨by simp only;omega,hu1,hl1,hn1.trans hnL,hov2,by simp;omega,by rw[hinv,hst,hm1,aR,if_pos hk2]⟩,by simp only;omega,st.to ⟨rfl,rfl,rfl,rfl,rfl,rfl,rfl,rfl,rfl,rfl,trivial⟩ (fun hh=>(((hh.front 2 aa).tail.front 0 aa).front 1 aa))⟩
  ·have hk2:¬ x1.2=0:=by simpa using h46
   refine ar (ab (kPv (aN aa aa) aa (kPm aa aa (ad ?_))))
   exact fun a w st=>⟨(k+1,s1,ov,out),⟨by simp only;omega,hu1,hl1,hn1.trans hnL,hov,by simp only;omega,by rw[hinv,hst,hm1,aR,if_neg hk2]⟩,by simp only;omega,st.to ⟨rfl,rfl,rfl,rfl,rfl,rfl,rfl,rfl,rfl,rfl,trivial⟩ (fun hh=>(((hh.front 1 aa).tail.front 1 aa).front 1 aa))⟩
 ·have hk:¬ k<hs.length:=by simpa using h32
  refine bF (ac (ab (kPm aa aa (kPv (ag isAgg134 sizeOf134 aa aa) aa ?_))))
  refine dx aB bd (aH aa (au call117 aa) (fT _ _ _ _ c hc huL) .free aa aa ?_)
  rintro _ _ ⟨sv,hsv,rfl,rfl⟩
  refine kPm aa aa (kPv (aA aa aa) aa (kPv (aA aa aa) aa (kPb (aC zeroValue151 aa) aa fun b16=>(kPs (ax (vs:=[i64 (sL.block c).1.act,i64 (sL.block c).1.used,sv]) sizeOf151 aa aa aa (eh hsv) aa) aa (aM (H':=row b16 [i64 (sL.block c).1.act,i64 (sL.block c).1.used,sv] 151::_) (fun w hh=>hh) (kPa aa aa (ad (am [16,11,9,8,7,6,5,4] rfl (ac (cW [0,1,2,3,4,5,6,7] [5,6] [2,3] [5,6] [row b16 [i64 (sL.block c).1.act,i64 (sL.block c).1.used,sv] 151] Tryz.mixed (by kernel_rfl) ?_))))))))))
  refine aS aa aa aa (ak aa) .free aa (aS aa aa aa (ag isAgg134 sizeOf134 aa aa) .free aa ?_)
  refine aj aa aa aa (ag isAgg151 sizeOf151 aa aa) .free aa ?_
  refine aj aa aa aa (ak aa) .free aa (aS aa aa aa (bu aa) .free aa (aT aa aa (kPs (ax (vs:=_) sizeOf134 aa aa aa aa aa) aa (ad (cN (aT aa aa (kPs (ax (vs:=[i64 (sL.block c).1.act,i64 (sL.block c).1.used,sv]) sizeOf151 aa aa aa (eh hsv) aa) aa (ad (cN (aS aa aa aa (bu aa) .free aa (cy ?_)))))))))))
  refine am [7,4,6,5] rfl (az ?_)
  exact zc results168 (.tmp aa) (.cellA aa isAgg134 sizeOf134 aa aa) (.cellA aa isAgg151 sizeOf151 aa aa) (.tmp aa) (fun w hh=>⟨_,⟨bd,pa,N,s0,sL,out,ov,sv,hfm,hN,⟨hu0,hf⟩,by rw[hinv,List.drop_eq_nil_of_le (by omega)];rfl,huL,hlL,hnL,hov,hsv,rfl,rfl⟩,((((((((hh.front 7 aa).front 7 aa).front 7 aa).front 7 aa).front 4 aa).tail.tail.tail.tail.tail.front 2 aa).front 2 aa).front 2 aa)⟩)
theorem qT{ε:Type}{op:Int→Int→Dev→ε→Out (Int×ε)}{a h:Int}:∀ (f:Nat) (i:Int) (s s':Dev) (e e':ε) (x:Int×Int),fa op a h f i s e= .ok (x,e') s'→x.2=0→x.1=a
 | 0,_,s,s',e,e',x,hm,hx=>by cases hm;rfl
 | f+1,i,s,s',e,e',x,hm,hx=>by
   unfold fa at hm
   obtain⟨y,s1,e1,hm⟩:=aK hm
   split at hm
   ·cases hm;rename_i hne;exact absurd hx hne
   ·exact qT f _ s1 s' _ e' x hm hx
theorem vW{ε:Type}{op:Int→Int→Dev→ε→Out (Int×ε)}{c:Cfg}{w r:Int}{s s':Dev}{e e':ε}{x:Int×Int}(hm:cO op c w r s e= .ok (x,e') s')(hx:x.2=0):x.1=(s.block c).1.place c (s.block c).1.used:=by
 unfold cO at hm
 split at hm
 ·rename_i h;cases hm;exact absurd hx h
 split at hm
 ·rename_i h;cases hm;exact absurd hx h
 split at hm
 ·cases hm;exact absurd hx (by decide)
 obtain⟨y,s1,e1,hm⟩:=aK hm
 split at hm
 ·rename_i h;cases hm;exact absurd hx h
 ·exact qT _ _ _ _ _ _ _ hm hx
theorem m9{ε:Type}{op:Int→Int→Dev→ε→Out (Int×ε)}{ok:Dev→ε→Prop}(K:∀ i v s e a e' s',ok s e→0≤v∧v<18446744073709551616→op i v s e= .ok (a,e') s'→ok s' e'){a h:Int}(hh:0≤h∧h<18446744073709551616):∀ (f:Nat) (i:Int) (s s':Dev) (e e':ε) (x:Int×Int),ok s e→fa op a h f i s e= .ok (x,e') s'→ok s' e'
 | 0,_,s,s',e,e',x,h0,hm=>by cases hm;exact h0
 | f+1,i,s,s',e,e',x,h0,hm=>by
   unfold fa at hm
   obtain⟨⟨y,e1⟩,s1,h1,hm⟩:=aK hm
   have h2:=K _ _ _ _ _ _ _ h0 (by split<;>first | exact hh | decide) h1
   split at hm
   ·cases hm;exact h2
   ·exact m9 K hh f _ s1 s' _ e' x h2 hm
theorem sC{ε:Type}{op:Int→Int→Dev→ε→Out (Int×ε)}{ok:Dev→ε→Prop}(K:∀ i v s e a e' s',ok s e→0≤v∧v<18446744073709551616→op i v s e= .ok (a,e') s'→ok s' e'){c:Cfg}(hc:bA c){w r:Int}{s s':Dev}{e e':ε}{x:Int×Int}(hb:gh c (s.block c).1)(h0:ok s e)(hm:cO op c w r s e= .ok (x,e') s'):ok s' e':=by
 have h1:=hb.used
 have h2:=hc.s2
 unfold cO at hm
 split at hm
 ·cases hm;exact h0
 rename_i hk
 have hw:=vH (w:=w) (r:=r) (by omega)
 split at hm
 ·cases hm;exact h0
 split at hm
 ·cases hm;exact h0
 obtain⟨⟨y,e1⟩,s1,h3,hm⟩:=aK hm
 have h4:=K _ _ _ _ _ _ _ h0 ⟨by omega,by omega⟩ h3
 split at hm
 ·cases hm;exact h4
 ·exact m9 K (rE w r) _ _ _ _ _ _ _ h4 hm
theorem ur:∀ (i v:Int) (s:Dev) (e:Unit) (a:Int) (e':Unit) (s':Dev),U64 s→0≤v∧v<18446744073709551616→gm i v s e= .ok (a,e') s'→U64 s':=fun i v s e a e' s' h hv hm=>by
 obtain⟨_,s1,h1,hm⟩:=aK hm
 cases hm;exact(cx h hv h1).1
theorem wq{c:Cfg}(hc:bA c){b:Blk}(hb:gh c b){i:Int}(hi:0≤i∧i≤c.space):0≤b.place c i∧b.place c i≤20000:=by
 have h1:=iF hc (k:=b.act) (by have:=hb.act;omega)
 have h2:=hb.act
 unfold Blk.place
 rcases (by omega:b.act=0∨b.act=1) with e | e<;>(rw[e] at h1 ⊢;omega)
theorem w2{c:Cfg}(hc:bA c):∀ (hs:List (Int×Int)) (s s':Dev) (acc out:List Int),U64 s→gT c hs s acc= .ok out s'→(∀ a∈acc,0≤a∧a≤20000)→∀ a∈out,0≤a∧a≤20000
 | [],s,s',acc,out,_,hm,h=>by cases hm;exact h
 | t::hs,s,s',acc,out,hu,hm,h=>by
   unfold gT at hm
   obtain⟨⟨x,e'⟩,s1,e1,hm⟩:=aK hm
   have hb:=dG (s:=s) hc hu
   refine w2 hc hs s1 s' _ out (sC (ok:=fun s _=>U64 s) ur hc hb hu e1) hm fun a ha=> ?_
   split at ha
   ·rename_i hx
    rcases List.mem_append.1 ha with ha | ha
    ·exact h a ha
    ·rw[List.mem_singleton.1 ha,vW e1 hx]
     exact wq hc hb hb.used
   ·exact h a ha
theorem gY{s:Dev}{c:Cfg}(hc:bA c){b:Blk}(hb:gh c b){a:Int}(h:(s.objOf c b a).2=0):lB (s.objOf c b a).1:=by
 unfold Dev.objOf at h ⊢
 split at h
 ·cases h
 split at h
 ·cases h
 rename_i h1 h2
 rw[if_neg h1,if_neg h2]
 have h3:=qd (s.load a)
 have h4:=kC hc hb (w:=a) (by cases hh:b.has c a with
  | true=>rfl
  | false=>exact absurd (.inr hh) h1)
 exact⟨⟨h3.1,h3.2.1⟩,⟨h3.2.2.1,h3.2.2.2⟩,⟨by simp only;omega,by simp only;omega⟩⟩
theorem t7{o:db}{i v:Int}{r:Bool}{s:Dev}(h1:s.pow.lim<0):mP (iL gm o i r v s ()) (fun _=>True) s.n:=by
 unfold iL
 split
 ·exact⟨_,_,rfl,trivial,h1,rfl⟩
 ·exact rQ h1
theorem vg(B:World)(Fr:List HP)(bd:Nat)(o:db)(ho:lB o)(i v:Int)(hv:0≤v∧v≤9223372036854775807)(s:Dev)(hl:s.pow.lim<0)(hu:U64 s):
 ∀ w_,Holds B (aB bd s::Fr) w_→Calls Tryz.prog 170 [gQ o,i64 i,i64 v,.func (.func 145) [ptr bd].toArray #[]].toArray w_ (Ret B (fun rv H'=>∃ x s',iL gm o i true v s ()= .ok (x,()) s'∧rv=i64 x∧s'.pow.lim<0∧s'.n=s.n∧U64 s'∧H'=aB bd s'::Fr) (fun _ _=>False)):=fun w_ hh=>by
 obtain⟨y,s2,hg,_,hg2,hg3⟩:=t7 (o:=o) (i:=i) (v:=v) (r:=true) hl
 refine(xF B Fr _ [ptr bd] bd 0 Unit (fun _ _=>pr True) gm _ (uX B bd 0) o ho i v hv s () hu w_ ((hh.unpr (p:=True) trivial).back 1 (by simp))).mono fun en w' h=> ?_
 cases en with
 | returned rv=>
   obtain⟨H,⟨x,e',s',hm,rfl,hok,rfl⟩,hh⟩:=h
   obtain⟨rfl,rfl⟩:y=(x,e')∧s2=s':=by rw[hg] at hm;cases hm;exact⟨rfl,rfl⟩
   exact⟨_,⟨x,s2,hm,rfl,hg2,hg3,hok,rfl⟩,(hh.front 1 aa).tail⟩
 | panicked c=>
   obtain⟨H,⟨s',hm,_⟩,_⟩:=h
   rw[hg] at hm;cases hm
 | outgrown=>exact h
theorem qS{c:Cfg}:∀ {hs:List (Int×Int)} {s s':Dev} {acc out:List Int},gT c hs s acc= .ok out s'→out.length≤acc.length+hs.length
 | [],s,s',acc,out,hm=>by cases hm;exact Nat.le_add_right _ _
 | t::hs,s,s',acc,out,hm=>by
   unfold gT at hm
   obtain⟨⟨x,e'⟩,s1,e1,hm⟩:=aK hm
   have:=qS hm
   split at this
   ·simp at this ⊢;omega
   ·simp at this ⊢;omega
theorem oI(B:World)(Fr:List HP)(b:Nat)(s:Dev)(i v:Int)(hl:s.pow.lim<0)(hu:U64 s)(hv:0≤v∧v<18446744073709551616):
 ∀ w,Holds B (aB b s::Fr) w→Calls Tryz.prog 145 [ptr b,i64 i,w64 v].toArray w (Ret B (fun rv H'=>∃ x s',s.store i v= .ok x s'∧rv=i64 x∧s'.pow.lim<0∧s'.n=s.n∧U64 s'∧H'=aB b s'::Fr) (fun _ _=>False)):=fun w hh=>by
 obtain⟨y,s2,hg,_,hg2,hg3⟩:=fz (i:=i) (v:=v) hl
 refine(cA B Fr b s i v w hh).mono fun en w' h=> ?_
 cases en with
 | returned rv=>
   obtain⟨H,⟨s',⟨a,hm,rfl⟩,rfl⟩,hh⟩:=h
   obtain⟨rfl,rfl⟩:y=a∧s2=s':=by rw[hg] at hm;cases hm;exact⟨rfl,rfl⟩
   exact⟨_,⟨y,s2,hg,rfl,hg2,hg3,(cx hu hv hg).1,rfl⟩,hh⟩
 | panicked c=>
   obtain⟨H,⟨s',⟨hm,_⟩,_⟩,_⟩:=h
   rw[hg] at hm;cases hm
 | outgrown=>exact h
theorem cE{B:World}{n:Nat}{D:List Deferred}{σ:Env}{Fr:List HP}{K:Act→World→Prop}{T:TypeId}{enc:Int→Value}{sv:Value}{xs:List Int}(h:∀ q cap,sv= .slice q xs.length cap→(∀ i,i<xs.length→∃ b off,q=some ⟨b,off,none⟩)→GO B n D σ (dJ T enc 0 (sv,xs)::Fr) K):GO B n D σ (dJ T enc 0 (sv,xs)::Fr) K:=fun a w st=>by
 rcases fI st.holds with ⟨e1,e2,_⟩ | ⟨bd,pre,rest,k,_,e,_⟩
 ·exact h none 0 (by rw[e2,e1];rfl) (fun i hi=>by rw[e1] at hi;exact absurd hi (Nat.not_lt_zero _)) a w st
 ·exact h _ _ e (fun _ _=>⟨_,_,rfl⟩) a w st
def dq(l out:List Int)(sp:Int)(k:Nat):Int:=
 if l.length≤k∨out.length=0∨l.getD k 0%5=0 then 0
 else if 0<sp∧l.getD k 0%sp=1 then out.getD (l.getD k 0%out.length).toNat 0+1 else out.getD (l.getD k 0%out.length).toNat 0
theorem rD{l out:List Int}{sp:Int}{k:Nat}(hob:∀ x∈out,0≤x∧x≤20000):0≤dq l out sp k∧dq l out sp k≤20001:=by
 have h:∀ j,0≤out.getD j 0∧out.getD j 0≤20000:=fun j=>by
  rw[List.getD_eq_getElem?_getD]
  by_cases hj:j<out.length
  ·rw[List.getElem?_eq_getElem hj];exact hob _ (List.getElem_mem hj)
  ·rw[List.getElem?_eq_none (by omega)];decide
 unfold dq
 split
 ·decide
 ·have h1:=h (l.getD k 0%(out.length:Int)).toNat
  split<;>omega
def ka(f:Nat→Int)(o:db):Nat→Nat→Int→Dev→Out Nat
 | 0,n,_,s=> .ok n s
 | k+1,n,i,s=>(iL gm o i true (f n) s ()).then fun _ s'=>ka f o k (n+1) (i+1) s'
def eG(c:Cfg)(b:Blk)(f:Nat→Int):List Int→Nat→Dev→Out (Option Nat)
 | [],n,s=> .ok (some n) s
 | a::t,n,s=>if (s.objOf c b a).2≠0 then .ok none s else (ka f (s.objOf c b a).1 (s.objOf c b a).1.2.1.toNat n 0 s).then fun n' s'=>eG c b f t n' s'
theorem k8(c:Cfg)(b:Blk)(f:Nat→Int)(a:Int)(t:List Int)(n:Nat)(s:Dev):eG c b f (a::t) n s=if (s.objOf c b a).2≠0 then .ok none s else (ka f (s.objOf c b a).1 (s.objOf c b a).1.2.1.toNat n 0 s).then fun n' s'=>eG c b f t n' s':=rfl
def fG(c:Cfg)(f:Nat→Int):Nat→Nat→Int→Dev→Out Nat
 | 0,n,_,s=> .ok n s
 | k+1,n,i,s=>(s.store (c.root i) (f n)).then fun _ s'=>fG c f k (n+1) (i+1) s'
theorem tS(B:World)(Fr:List HP)(b0 b1 b2 b3:Nat)(n:Nat)(ql qo:Option Addr)(cl co:Nat)(l out:List Int)(sp:Int)(hn:n≤1000000000)(hl:SlR B Fr (.slice ql l.length cl) (l.map u16))(ho:SlR B Fr (.slice qo out.length co) (out.map i64))(hlb:∀ x∈l,0≤x∧x<65536)(hob:∀ x∈out,0≤x∧x≤20000)(hlen:l.length≤1000000∧out.length≤1000000)(hsp:0≤sp∧sp<256)(hql:∀ i,i<l.length→∃ b off,ql=some ⟨b,off,none⟩)(hqo:∀ i,i<out.length→∃ b off,qo=some ⟨b,off,none⟩):
 ∀ w,Holds B (row b0 [i64 n] 3::row b1 [.slice ql l.length cl] 240::row b2 [.slice qo out.length co] 166::row b3 [u8 sp] 5::Fr) w→Calls Tryz.prog 169 [ptr b0,ptr b1,ptr b2,ptr b3].toArray w (Ret B (fun rv H'=>rv=w64 (dq l out sp n)∧H'=row b0 [i64 (n+1:Nat)] 3::row b1 [.slice ql l.length cl] 240::row b2 [.slice qo out.length co] 166::row b3 [u8 sp] 5::Fr) (fun _ _=>False)):=by
 refine an func169 aa ntmps169 aa (ac (ab (kPa aa aa (ad (ac (ac (ab (kPv (ah isAgg3 aa aa) aa (kPv (aN aa aa) aa (kPs (aO sizeOf3 aa aa aa aa) aa (ad ?_)))))))))))
 refine ac (ab (kPv (ah isAgg3 aa aa) aa (kPv (ah isAgg240 aa aa) aa (kPv (bD aa runUnderlying240 ⟨_,rfl⟩ rfl) aa (kPv (ao aa aa aa) aa (kPm aa aa ?_))))))
 apply gP (tp:=16) (t:=12) (σ1:=[(12,_),(4,_),(0,_),(1,_),(2,_),(3,_)]) 4 rfl (aE rfl)
 ·intro hg1
  refine al aa (ah isAgg166 aa aa) (.on aa aa (ae hg1)) aa aa (al aa (bD aa runUnderlying166 ⟨_,rfl⟩ rfl) (.on aa aa (ae hg1)) aa aa (al aa (ao aa aa aa) (.on aa aa (ae hg1)) aa aa (kPv (aJ aa hg1 aa) aa ?_)))
  exact aY aa (aE aa) (gg hg1)
 ·intro hg1
  refine ap aa (.on aa aa (ai hg1)) aa (ap aa (.on aa aa (ai hg1)) aa (ap aa (.on aa aa (ai hg1)) aa (kPv (ay aa hg1 aa) aa ?_)))
  exact aY aa (aE aa) (ge hg1)
 refine kPm aa aa ?_
 apply gP (tp:=25) (t:=17) (σ1:=[(17,_),(4,_),(0,_),(1,_),(2,_),(3,_)]) 8 rfl (aE rfl)
 ·intro hg2
  refine al aa (ah isAgg240 aa aa) (.on aa aa (ae hg2)) aa aa (al aa (ah isAgg3 aa aa) (.on aa aa (ae hg2)) aa aa (al aa (fu aa aa) (.on aa aa (ae hg2)) aa aa ?_))
  have hnl:n<l.length:=by simp at hg2;omega
  obtain⟨bL,oL,rfl⟩:=hql n hnl
  have hn1:((n:Int)+1 - 1).toNat=n:=by omega
  have hlx:=hlb (l.getD n 0) (by rw[List.getD_eq_getElem?_getD,List.getElem?_eq_getElem hnl];exact List.getElem_mem hnl)
  refine al aa (cg runUnderlying240 sizeOf48 aa aa (by omega) (by omega)) (.on aa aa (ae hg2)) aa aa (al aa (bP (v:=u16 (l.getD n 0)) isAgg48 ((((hl.cons _).cons _).cons _).cons _) aa (by rw[hn1];simp[hnl])) (.on aa aa (ae hg2)) aa aa (al aa (fA (c:=l.getD n 0%5) aa aa (by decide) (jQ 5 (by omega))) (.on aa aa (ae hg2)) aa aa (al aa (ao aa aa aa) (.on aa aa (ae hg2)) aa aa (kPv (aJ aa hg2 aa) aa ?_))))
  exact aY aa (aE aa) (gg hg2)
 ·intro hg2
  refine ap aa (.on aa aa (ai hg2)) aa (ap aa (.on aa aa (ai hg2)) aa (ap aa (.on aa aa (ai hg2)) aa (ap aa (.on aa aa (ai hg2)) aa (ap aa (.on aa aa (ai hg2)) aa (ap aa (.on aa aa (ai hg2)) aa (ap aa (.on aa aa (ai hg2)) aa (kPv (ay aa hg2 aa) aa ?_)))))))
  exact aY aa (aE aa) (ge hg2)
 refine ad ?_
 refine a8 aa (fun h25=> ?_) (fun h25=> ?_)
 ·have hres:dq l out sp n=0:=by
   unfold dq
   rw[if_pos (by simp[-List.length_eq_zero_iff] at h25 ⊢;omega)]
  refine ac (ab (kPa aa aa (ad (az ?_))))
  exact aq results169 aa (fun w hw=>⟨_,⟨by rw[hres],rfl⟩,hw⟩)
 ·have hcnd:n<l.length∧out.length≠0∧l.getD n 0%5≠0:=by simp[-List.length_eq_zero_iff] at h25 ⊢;omega
  have hnl:=hcnd.1
  have hlx:=hlb (l.getD n 0) (by rw[List.getD_eq_getElem?_getD,List.getElem?_eq_getElem hnl];exact List.getElem_mem hnl)
  have hn1:((n:Int)+1 - 1).toNat=n:=by omega
  obtain⟨bL,oL,rfl⟩:=hql n hnl
  have hop:(0:Int)<out.length:=by omega
  obtain⟨j,hj0⟩:∃ j:Nat,(j:Int)=l.getD n 0%(out.length:Int):=⟨(l.getD n 0%(out.length:Int)).toNat,by rw[Int.toNat_of_nonneg (Int.emod_nonneg _ (by omega))]⟩
  have hj:j<out.length:=by have:=Int.emod_lt_of_pos (l.getD n 0) hop;omega
  have hjm:(l.getD n 0).tmod (out.length:Int)=j:=by rw[jQ _ (by omega)];omega
  have hox:=hob (out.getD j 0) (by rw[List.getD_eq_getElem?_getD,List.getElem?_eq_getElem hj];exact List.getElem_mem hj)
  obtain⟨bO,oO,rfl⟩:=hqo j hj
  have hjt:(l.getD n 0%(out.length:Int)).toNat=j:=by omega
  have hcnd2:¬(l.length≤n∨out.length=0∨l.getD n 0%5=0):=by omega
  refine ar (ac (cV Tryz.mixed (by kernel_rfl) (by kernel_rfl) ?_))
  refine kQv (ah isAgg166 aa aa) aa (kQv (ah isAgg240 aa aa) aa (kQv (ah isAgg3 aa aa) aa (kQv (fu aa aa) aa (kQv (cg runUnderlying240 sizeOf48 aa aa (by omega) (by omega)) aa (kQv (bP (v:=u16 (l.getD n 0)) isAgg48 ((((hl.cons _).cons _).cons _).cons _) aa (by rw[hn1];simp[hnl])) aa (kQv (bR runUnderlying48 runUnderlying3 aa) aa (kQv (ah isAgg166 aa aa) aa (kQv (bD aa runUnderlying166 ⟨_,rfl⟩ rfl) aa (kQv (fA (c:=(j:Int)) aa aa (by omega) hjm) aa (kQv (cg runUnderlying166 sizeOf3 aa aa (by omega) (by omega)) aa (kQv (bP (v:=i64 (out.getD j 0)) isAgg3 ((((ho.cons _).cons _).cons _).cons _) aa (by simp[hj])) aa ?_)))))))))))
  refine kQa aa aa (bY (am [5,4,0,1,3] rfl (ac (ac (cV Tryz.mixed (by kernel_rfl) (by kernel_rfl) ?_)))))
  refine kQv (ah isAgg5 aa aa) aa (kQv (ao aa aa aa) aa (kQm aa aa ?_))
  apply mX (tp:=50) (t:=40) (σ1:=[(40,_),(5,_),(4,_)]) 10 rfl (aE rfl)
  ·intro hg3
   refine bj aa (ah isAgg240 aa aa) (.on aa aa (ae hg3)) aa (bj aa (ah isAgg3 aa aa) (.on aa aa (ae hg3)) aa (bj aa (fu aa aa) (.on aa aa (ae hg3)) aa (bj aa (cg runUnderlying240 sizeOf48 aa aa (by omega) (by omega)) (.on aa aa (ae hg3)) aa (bj aa (bP (v:=u16 (l.getD n 0)) isAgg48 ((((hl.cons _).cons _).cons _).cons _) aa (by rw[hn1];simp[hnl])) (.on aa aa (ae hg3)) aa (bj aa (ah isAgg5 aa aa) (.on aa aa (ae hg3)) aa (bj aa (dh runUnderlying5 runUnderlying48 aa (show IntKind.u16.wrap sp=sp by simp[IntKind.wrap,IntKind.bits,IntKind.signed];omega)) (.on aa aa (ae hg3)) aa ?_))))))
   have hsp0:0<sp:=by simpa using hg3
   refine bj aa (fA (c:=l.getD n 0%sp) aa aa (by omega) (jQ _ (by omega))) (.on aa aa (ae hg3)) aa (bj aa (ao aa aa aa) (.on aa aa (ae hg3)) aa (kQv (ay aa hg3 aa) aa ?_))
   exact eU aa (aE aa) (cY hg3)
  ·intro hg3
   refine aV aa (.on aa aa (ai hg3)) aa (aV aa (.on aa aa (ai hg3)) aa (aV aa (.on aa aa (ai hg3)) aa (aV aa (.on aa aa (ai hg3)) aa (aV aa (.on aa aa (ai hg3)) aa (aV aa (.on aa aa (ai hg3)) aa (aV aa (.on aa aa (ai hg3)) aa (aV aa (.on aa aa (ai hg3)) aa (aV aa (.on aa aa (ai hg3)) aa (kQv (aJ aa hg3 aa) aa ?_)))))))))
   exact eU aa (aE aa) (cZ hg3)
  refine bY ?_
  refine a8 aa (fun h50=> ?_) (fun h50=> ?_)
  ·have hk:0<sp∧l.getD n 0%sp=1:=by simpa using h50
   have hres:dq l out sp n=out.getD j 0+1:=by unfold dq;rw[if_neg hcnd2,if_pos hk,hjt]
   refine ab (kPm aa aa (kPv (aN aa aa) aa (kPa aa aa (ad (ac (ab (kPm aa aa (kPv (dh runUnderlying3 runUnderlying25 aa (fQ (by omega))) aa (kPa aa aa (ad (am [4] rfl ?_)))))))))))
   refine az ?_
   exact aq results169 aa (fun w hw=>⟨_,⟨by rw[hres],rfl⟩,hw⟩)
  ·have hk:¬ (0<sp∧l.getD n 0%sp=1):=by simpa using h50
   have hres:dq l out sp n=out.getD j 0:=by unfold dq;rw[if_neg hcnd2,if_neg hk,hjt]
   refine ar (ac (ab (kPm aa aa (kPv (dh runUnderlying3 runUnderlying25 aa (fQ (by omega))) aa (kPa aa aa (ad (az ?_)))))))
   exact aq results169 aa (fun w hw=>⟨_,⟨by rw[hres],rfl⟩,hw⟩)
theorem kM(B:World)(Fr:List HP)(x0 x1 x2:Int)(hx:0≤x0∧0≤x1∧0≤x2)(c:Cfg)(hcm:c=mkC x0 x1 x2)(hs:List (Int×Int))(hhs:∀ h∈hs,(0≤h.1∧h.1<256)∧(0≤h.2∧h.2<256))(hlen:hs.length≤100000)(q:Option Addr)(cap:Nat)(hv:SlN B Fr (.slice q hs.length cap) 2 (hs.map fun h=>[u8 h.1,u8 h.2]))(ql:Option Addr)(cl:Nat)(l:List Int)(hl:SlR B Fr (.slice ql l.length cl) (l.map u16))(hlb:∀ x∈l,0≤x∧x<65536)(hll:l.length≤1000000)(hql:∀ i,i<l.length→∃ b off,ql=some ⟨b,off,none⟩)(sp:Int)(hsp:0≤sp∧sp<256):
 ∀ w_,Holds B Fr w_→Calls Tryz.prog 114 [.agg #[u16 x0,u16 x1,u16 x2],.slice q hs.length cap,.slice ql l.length cl,u8 sp].toArray w_ (Ret B (fun rv H'=>∃ (bd pa N:Nat) (s0 sF:Dev) (out:List Int),Fmt c N s0∧(N:Int)=c.words∧(U64 s0∧(iP pa [] N).format c= .ok 0 s0)∧gT c hs s0 []= .ok out sF∧((∃ n1 n2 s1 s2 ov sv,eG c (sF.block c).1 (dq l out sp) out 0 sF= .ok (some n1) s1∧fG c (dq l out sp) c.roots.toNat n1 0 s1= .ok n2 s2∧U64 s2∧s2.pow.lim<0∧s2.n=N∧aL ov=true∧aL sv=true∧rv= .tuple #[ptr bd,dY c,ly (s2.block c).1 sv,ov]∧H'=cS 0 (sv,(s2.block c).1.rts)::aB bd s2::dJ 3 i64 0 (ov,out)::Fr)∨(∃ s1,eG c (sF.block c).1 (dq l out sp) out 0 sF= .ok none s1∧H'=Fr))) (fun _ _=>False)):=by
 refine an func114 aa ntmps114 aa ?_
 have hc:bA c:=by rw[hcm];exact wA hx.1 hx.2.1 hx.2.2
 refine ac (ab (kPb (aX aa) aa fun b4=>(kPb (dL aa aa) aa fun b6=>(kPb (dL aa aa) aa fun b7=>(kPa aa aa (kPb (aC zeroValue134 aa) aa fun b9=>(kPb (aC zeroValue151 aa) aa fun b10=>(kPa aa aa (ad (ac (ab ?_)))))))))))
 refine kPv (ag isAgg96 sizeOf96 aa aa) aa ?_
 refine kPm aa aa (aH aa (au call168 aa) (qR _ _ x0 x1 x2 hx c hcm hs hhs hlen q cap ((((((hv.cons _).cons _).cons _).cons _).cons _))) .free aa aa ?_)
 rintro _ _ ⟨bd,pa,N,s0,sF,out,ov,sv,hfm,hN,⟨hus0,hf0⟩,hfill,huF,hlF,hnF,hov,hsv,rfl,rfl⟩
 refine kPm aa aa (kPv (aA aa aa) aa (kPv (aA aa aa) aa (kPv (aA aa aa) aa (kPv (aA aa aa) aa (kPb (aC zeroValue134 aa) aa fun b13=>(kPb (aC zeroValue151 aa) aa fun b14=>(kPb (cf zeroValue166 aa) aa fun b15=>(kPa aa aa (kPs (ax (vs:=_) sizeOf134 aa aa aa aa aa) aa (kPs (ax (vs:=[i64 (sF.block c).1.act,i64 (sF.block c).1.used,sv]) sizeOf151 aa aa aa (eh hsv) aa) aa (kPs (aO sizeOf166 aa aa hov aa) aa ?_)))))))))))
 refine dt 5 aa ?_
 simp only[List.eraseIdx_cons_succ,List.eraseIdx_cons_zero]
 refine cE fun qo co hqe hqo=> ?_
 subst hqe
 have hbk:=dG (s:=sF) hc huF
 have hob:∀ x∈out,0≤x∧x≤20000:=w2 hc hs s0 sF [] out hus0 hfill (fun _ h=>by cases h)
 have hol:out.length≤hs.length:=by have:=qS hfill;simpa using this
 have hr1:=hc.r1
 have hr2:=hc.r2
 refine ad (am [12,15,14,13,11,10,9,8,7,6] rfl (ac (ac (ab (kPm aa aa (kPv (df runUnderlying90 aa aa aa) aa (ad (bH aa (rfl) (ar (ac (ab ?_)))))))))))
 refine kPb (cf zeroValue3 aa) aa fun b16=>(kPs (aO sizeOf3 aa aa aa aa) aa (ad (ac (ab (kPv (dz aa aa) aa (kPa aa aa (ad (ac (ac (ab (kPv (ah isAgg166 aa aa) aa ?_)))))))))))
 refine kPv (bD aa runUnderlying166 ⟨_,rfl⟩ rfl) aa (kPm aa aa (ad (aG (du (ι:=Nat×Nat×Dev) (fun i=>i.1≤out.length∧i.2.1≤64*i.1∧U64 i.2.2∧i.2.2.pow.lim<0∧i.2.2.n=N∧eG c (sF.block c).1 (dq l out sp) out 0 sF=eG c (sF.block c).1 (dq l out sp) (out.drop i.1) i.2.1 i.2.2) (fun i=>[(8,.pointer none),(9,ptr b9),(10,ptr b10),(11,.slice none 0 0),(12,ptr bd),(13,ptr b13),(14,ptr b14),(15,ptr b15),(17,.func (.func 169) #[] #[ptr b16,ptr b6,ptr b15,ptr b7]),(37,.slice qo out.length co),(38,i64 out.length),(39,i64 i.1)]) (fun i=>row b16 [i64 (i.2.1:Nat)] 3::dJ 3 i64 0 (.slice qo out.length co,out)::row b15 [.slice qo out.length co] 166::row b14 [i64 (sF.block c).1.act,i64 (sF.block c).1.used,sv] 151::row b13 [i64 c.log,i64 c.roots,i64 c.space] 134::cS 0 (sv,(sF.block c).1.rts)::aB bd i.2.2::row b10 [i64 0,i64 0,.slice none 0 0] 151::row b9 [i64 0,i64 0,i64 0] 134::row b7 [u8 sp] 5::row b6 [.slice ql l.length cl] 240::row b4 [u16 x0,u16 x1,u16 x2] 96::Fr) (fun i=>out.length - i.1) (0,0,sF) ⟨Nat.zero_le _,Nat.zero_le _,huF,hlF,hnF,rfl⟩ (fun a w st=>st.to ⟨rfl,rfl,rfl,rfl,rfl,rfl,rfl,rfl,rfl,rfl,rfl,rfl,trivial⟩ id) ?_))))
 rintro⟨k,n,sL⟩ ⟨hk1,hn1,huL,hlL,hnL,hinv⟩
 simp only at hk1 hn1 huL hlL hnL hinv ⊢
 refine ac (ab (kPv (ao aa aa aa) aa (ad (ac ?_))))
 refine a8 aa (fun h40=> ?_) (fun h40=> ?_)
 ·have hk:k<out.length:=by simpa using h40
  have hak:=hob _ (List.getElem_mem hk)
  obtain⟨bQ,oQ,rfl⟩:=hqo k hk
  refine ar (ac (aG (ac (ab (kPv (cg runUnderlying166 sizeOf3 aa aa (by omega) (by omega)) aa ?_)))))
  refine kPv (bP (v:=i64 out[k]) isAgg3 (cP 1 aa) aa (by rw[Int.toNat_natCast,List.getElem?_map,List.getElem?_eq_getElem hk];rfl)) aa ?_
  refine kPa aa aa (ad (am [19,39,38,37,17,12,15,14,13,11,10,9,8] rfl (ac (ab (kPm aa aa (kPv (ag isAgg134 sizeOf134 aa aa) aa ?_))))))
  refine kPv (ag isAgg151 sizeOf151 aa aa) aa ?_
  refine kPm aa aa (aw aa (au call147 aa) (bI (q:=aB) (fun Fr=>j2 _ Fr _ _ c hc _ _ hbk hsv out[k] (by omega))) .free aa aa ?_)
  refine kPm aa aa (kPv (aA aa aa) aa (kPv (aA aa aa) aa (kPb (aC zeroValue160 aa) aa fun b20=>(kPs (ax (vs:=_) sizeOf160 aa aa aa aa aa) aa (kPa aa aa (ad (am [21,20,39,38,37,17,12,15,14,13,11,10,9,8] rfl (ac (ac (ab (kPm aa aa ?_)))))))))))
  refine kPv (ao aa aa aa) aa (ad ?_)
  refine a8 aa (fun h52=> ?_) (fun h52=> ?_)
  ·have hk2:(sL.objOf c (sF.block c).1 out[k]).2≠0:=by simpa using h52
   refine ac (cW [0,1,2,3,4,5] [3,4] [1] [3] [row b14 [i64 (sF.block c).1.act,i64 (sF.block c).1.used,sv] 151] Tryz.mixed (by kernel_rfl) ?_)
   refine aS aa aa aa (ag isAgg134 sizeOf134 aa aa) .free aa ?_
   refine aj aa aa aa (ag isAgg151 sizeOf151 aa aa) .free aa ?_
   refine aS aa aa aa (bu aa) .free aa (aT aa aa (kPs (ax (vs:=_) sizeOf134 aa aa aa aa aa) aa (ad (cN (aT aa aa (kPs (ax (vs:=[i64 (sF.block c).1.act,i64 (sF.block c).1.used,sv]) sizeOf151 aa aa aa (eh hsv) aa) aa (ad (c7 aa (aS aa aa aa (bu aa) .free aa (cy (az ?_)))))))))))
   exact zc results114 (.tmp aa) (.cellA aa isAgg134 sizeOf134 aa aa) (.cellA aa isAgg151 sizeOf151 aa aa) (.tmp aa) (fun w_ hh=>⟨_,⟨bd,pa,N,s0,sF,out,hfm,hN,⟨hus0,hf0⟩,hfill,.inr ⟨sL,by rw[hinv,List.drop_eq_getElem_cons hk];rw[k8,if_pos hk2],rfl⟩⟩,hh.tail.tail.tail.tail.tail.tail.tail.tail.tail.tail.tail.tail.tail⟩)
  ·have hk2:(sL.objOf c (sF.block c).1 out[k]).2=0:=by simpa using h52
   have ho:=gY hc hbk hk2
   have ho1:=ho.w
   have ho2:=ho.r
   have ho3:=ho.at_
   refine ar (ac (ab (kPv (aD (m:=_) fc aa aa) aa (kPl fZ isAgg3 aa aa aa aa (kPm aa aa (ad (aG (du (ι:=Nat×Nat×Dev) (fun i=>(i.1:Int)≤(sL.objOf c (sF.block c).1 out[k]).1.2.1∧i.2.1=n+i.1∧U64 i.2.2∧i.2.2.pow.lim<0∧i.2.2.n=N∧ka (dq l out sp) (sL.objOf c (sF.block c).1 out[k]).1 (sL.objOf c (sF.block c).1 out[k]).1.2.1.toNat n 0 sL=ka (dq l out sp) (sL.objOf c (sF.block c).1 out[k]).1 ((sL.objOf c (sF.block c).1 out[k]).1.2.1.toNat - i.1) i.2.1 i.1 i.2.2) (fun i=>[(8,.pointer none),(9,ptr b9),(10,ptr b10),(11,.slice none 0 0),(12,ptr bd),(13,ptr b13),(14,ptr b14),(15,ptr b15),(17,.func (.func 169) #[] #[ptr b16,ptr b6,ptr b15,ptr b7]),(37,.slice (some ⟨bQ,oQ,none⟩) out.length co),(38,i64 out.length),(39,i64 k),(20,ptr b20),(57,i64 (sL.objOf c (sF.block c).1 out[k]).1.2.1),(58,i64 i.1)]) (fun i=>row b20 [i64 (sL.objOf c (sF.block c).1 out[k]).1.1,i64 (sL.objOf c (sF.block c).1 out[k]).1.2.1,i64 (sL.objOf c (sF.block c).1 out[k]).1.2.2] 160::row b16 [i64 (i.2.1:Nat)] 3::dJ 3 i64 0 (.slice (some ⟨bQ,oQ,none⟩) out.length co,out)::row b15 [.slice (some ⟨bQ,oQ,none⟩) out.length co] 166::row b14 [i64 (sF.block c).1.act,i64 (sF.block c).1.used,sv] 151::row b13 [i64 c.log,i64 c.roots,i64 c.space] 134::cS 0 (sv,(sF.block c).1.rts)::aB bd i.2.2::row b10 [i64 0,i64 0,.slice none 0 0] 151::row b9 [i64 0,i64 0,i64 0] 134::row b7 [u8 sp] 5::row b6 [.slice ql l.length cl] 240::row b4 [u16 x0,u16 x1,u16 x2] 96::Fr) (fun i=>(sL.objOf c (sF.block c).1 out[k]).1.2.1.toNat - i.1) (0,n,sL) ⟨by simp only;omega,rfl,huL,hlL,hnL,rfl⟩ (fun a w st=>st.to ⟨rfl,rfl,rfl,rfl,rfl,rfl,rfl,rfl,rfl,rfl,rfl,rfl,rfl,rfl,rfl,trivial⟩ id) ?_))))))))
   rintro⟨j,nI,sI⟩ ⟨hj1,hnI,huI,hlI,hnI2,hinvI⟩
   simp only at hj1 hnI huI hlI hnI2 hinvI ⊢
   refine ac (ab (kPv (ao aa aa aa) aa (ad (ac ?_))))
   refine a8 aa (fun h59=> ?_) (fun h59=> ?_)
   ·have hj:(j:Int)<(sL.objOf c (sF.block c).1 out[k]).1.2.1:=by simpa using h59
    refine ar (ac (aG (ac (ab (kPm aa aa (kPa aa aa (ad (am [22,58,57,20,39,38,37,17,12,15,14,13,11,10,9,8] rfl (cW [0,1,2,5,6,3,4,7] [3,7] [0,1,5,6] [3] [row b20 [i64 (sL.objOf c (sF.block c).1 out[k]).1.1,i64 (sL.objOf c (sF.block c).1 out[k]).1.2.1,i64 (sL.objOf c (sF.block c).1 out[k]).1.2.2] 160] Tryz.mixed (by kernel_rfl) ?_)))))))))
    refine aj aa aa aa (ag isAgg160 sizeOf160 aa aa) .free aa ?_
    refine aj aa aa aa (ak aa) .free aa (aS aa aa aa (ak aa) .free aa (aj aa aa aa (ak aa) .free aa (aj aa aa aa (dz aa aa) .free aa (aT aa aa (aM (H':=row b16 [i64 (nI:Nat)] 3::row b6 [.slice ql l.length cl] 240::row b15 [.slice (some ⟨bQ,oQ,none⟩) out.length co] 166::row b7 [u8 sp] 5::row b20 [i64 (sL.objOf c (sF.block c).1 out[k]).1.1,i64 (sL.objOf c (sF.block c).1 out[k]).1.2.1,i64 (sL.objOf c (sF.block c).1 out[k]).1.2.2] 160::dJ 3 i64 0 (.slice (some ⟨bQ,oQ,none⟩) out.length co,out)::row b14 [i64 (sF.block c).1.act,i64 (sF.block c).1.used,sv] 151::row b13 [i64 c.log,i64 c.roots,i64 c.space] 134::cS 0 (sv,(sF.block c).1.rts)::aB bd sI::row b10 [i64 0,i64 0,.slice none 0 0] 151::row b9 [i64 0,i64 0,i64 0] 134::row b4 [u16 x0,u16 x1,u16 x2] 96::Fr) (fun w hh=>(hh.pk [1,10,2,8])) ?_)))))
    refine aU aa (iO call169 aa aa) (tS B _ b16 b6 b15 b7 nI ql (some ⟨bQ,oQ,none⟩) cl co l out sp (by omega) ((((((((((hl.cons _).cons _).cons _).cons _).cons _).cons _).cons _).cons _).cons _)) (cP 1 aa) hlb hob ⟨by omega,by omega⟩ hsp hql hqo) .free aa aa ?_ ?_
    rotate_left
    ·rintro _ _ ⟨⟩
    rintro _ _ ⟨rfl,rfl⟩
    refine ad (cN ?_)
    have hpk:=rD (l:=l) (sp:=sp) (k:=nI) hob
    refine aS aa aa aa (dh runUnderlying25 runUnderlying3 aa (gV (by omega))) .free aa (aT aa aa (dx aB bd (aH aa (au call170 aa) (vg _ _ bd (sL.objOf c (sF.block c).1 out[k]).1 ho _ ((dq l out sp) nI) (by have:=rD (l:=l) (sp:=sp) (k:=nI) hob;omega) sI hlI huI) .free aa aa ?_)))
    rintro _ _ ⟨x2,s2,hm2,rfl,hl2,hn2,hu2,rfl⟩
    refine ad (c7 aa (cy (am [58,57,20,39,38,37,17,12,15,14,13,11,10,9,8] rfl (ab (kPv (aN aa aa) aa (kPm aa aa (ad ?_)))))))
    exact fun a w st=>⟨(j+1,nI+1,s2),⟨by simp only;omega,by simp only;omega,hu2,hl2,hn2.trans hnI2,by
     rw[hinvI,show(sL.objOf c (sF.block c).1 out[k]).1.2.1.toNat - j=((sL.objOf c (sF.block c).1 out[k]).1.2.1.toNat - (j+1))+1 by omega]
     show(iL gm (sL.objOf c (sF.block c).1 out[k]).1 j true ((dq l out sp) nI) sI ()).then _=_
     rw[hm2]
     push_cast
     rfl⟩,by simp only;omega,st.to ⟨rfl,rfl,rfl,rfl,rfl,rfl,rfl,rfl,rfl,rfl,rfl,rfl,rfl,rfl,rfl,trivial⟩ (fun hh=>(hh.pk [5,1,4,2,3,3,3,0,2,2,1]))⟩
   ·have hj:¬ (j:Int)<(sL.objOf c (sF.block c).1 out[k]).1.2.1:=by simpa using h59
    refine bF (ab (kPv (aN aa aa) aa (kPm aa aa (ad (am [39,38,37,17,12,15,14,13,11,10,9,8] rfl ?_)))))
    exact fun a w st=>⟨(k+1,nI,sI),⟨by simp only;omega,by simp only;omega,huI,hlI,hnI2,by
     rw[hinv,List.drop_eq_getElem_cons hk]
     rw[k8,if_neg (by omega),hinvI,show(sL.objOf c (sF.block c).1 out[k]).1.2.1.toNat - j=0 by omega]
     rfl⟩,by simp only;omega,st.to ⟨rfl,rfl,rfl,rfl,rfl,rfl,rfl,rfl,rfl,rfl,rfl,rfl,trivial⟩ (fun hh=>hh.tail)⟩
 ·have hk:¬ k<out.length:=by simpa using h40
  refine bF (ac (ac (ab (kPl fY isAgg3 aa aa aa aa (kPm aa aa (ad (am [73,72,17,12,15,14,13,11,10,9,8] rfl (aG (du (ι:=Nat×Nat×Dev) (fun i=>(i.1:Int)≤c.roots∧i.2.1=n+i.1∧U64 i.2.2∧i.2.2.pow.lim<0∧i.2.2.n=N∧fG c (dq l out sp) c.roots.toNat n 0 sL=fG c (dq l out sp) (c.roots.toNat - i.1) i.2.1 i.1 i.2.2) (fun i=>[(8,.pointer none),(9,ptr b9),(10,ptr b10),(11,.slice none 0 0),(12,ptr bd),(13,ptr b13),(14,ptr b14),(15,ptr b15),(17,.func (.func 169) #[] #[ptr b16,ptr b6,ptr b15,ptr b7]),(72,i64 c.roots),(73,i64 i.1)]) (fun i=>row b16 [i64 (i.2.1:Nat)] 3::dJ 3 i64 0 (.slice qo out.length co,out)::row b15 [.slice qo out.length co] 166::row b14 [i64 (sF.block c).1.act,i64 (sF.block c).1.used,sv] 151::row b13 [i64 c.log,i64 c.roots,i64 c.space] 134::cS 0 (sv,(sF.block c).1.rts)::aB bd i.2.2::row b10 [i64 0,i64 0,.slice none 0 0] 151::row b9 [i64 0,i64 0,i64 0] 134::row b7 [u8 sp] 5::row b6 [.slice ql l.length cl] 240::row b4 [u16 x0,u16 x1,u16 x2] 96::Fr) (fun i=>c.roots.toNat - i.1) (0,n,sL) ⟨by simp only;omega,rfl,huL,hlL,hnL,rfl⟩ (fun a w st=>st.to ⟨rfl,rfl,rfl,rfl,rfl,rfl,rfl,rfl,rfl,rfl,rfl,trivial⟩ id) ?_)))))))))
  rintro⟨i,nJ,sJ⟩ ⟨hi1,hnJ,huJ,hlJ,hnJ2,hinvJ⟩
  simp only at hi1 hnJ huJ hlJ hnJ2 hinvJ ⊢
  refine ac (ab (kPv (ao aa aa aa) aa (ad (ac ?_))))
  refine a8 aa (fun h74=> ?_) (fun h74=> ?_)
  ·have hi:(i:Int)<c.roots:=by simpa using h74
   refine ar (ac (aG (ac (ab (kPm aa aa (kPa aa aa (ad (ab (kPm aa aa (kPv (ag isAgg134 sizeOf134 aa aa) aa ?_))))))))))
   refine kPm aa aa (aw aa (au call171 aa) (lN _ _ c hc _ (by omega) (by omega)) .free aa aa ?_)
   refine kPm aa aa (aM (H':=row b16 [i64 (nJ:Nat)] 3::row b6 [.slice ql l.length cl] 240::row b15 [.slice qo out.length co] 166::row b7 [u8 sp] 5::dJ 3 i64 0 (.slice qo out.length co,out)::row b14 [i64 (sF.block c).1.act,i64 (sF.block c).1.used,sv] 151::row b13 [i64 c.log,i64 c.roots,i64 c.space] 134::cS 0 (sv,(sF.block c).1.rts)::aB bd sJ::row b10 [i64 0,i64 0,.slice none 0 0] 151::row b9 [i64 0,i64 0,i64 0] 134::row b4 [u16 x0,u16 x1,u16 x2] 96::Fr) (fun w hh=>(hh.pk [0,9,1,7])) ?_)
   refine aU aa (iO call169 aa aa) (tS B _ b16 b6 b15 b7 nJ ql qo cl co l out sp (by omega) (((((((((hl.cons _).cons _).cons _).cons _).cons _).cons _).cons _).cons _)) (cP 0 aa) hlb hob ⟨by omega,by omega⟩ hsp hql hqo) .free aa aa ?_ ?_
   rotate_left
   ·rintro _ _ ⟨⟩
   rintro _ _ ⟨rfl,rfl⟩
   refine dx aB bd (aH aa (au call145 aa) (oI _ _ _ _ _ (dq l out sp nJ) hlJ huJ (by have:=rD (l:=l) (sp:=sp) (k:=nJ) hob;omega)) .free aa aa ?_)
   rintro _ _ ⟨x3,s3,hm3,rfl,hl3,hn3,hu3,rfl⟩
   refine ad (am [73,72,17,12,15,14,13,11,10,9,8] rfl (ab (kPv (aN aa aa) aa (kPm aa aa (ad ?_)))))
   exact fun a w st=>⟨(i+1,nJ+1,s3),⟨by simp only;omega,by simp only;omega,hu3,hl3,hn3.trans hnJ2,by
    rw[hinvJ,show c.roots.toNat - i=(c.roots.toNat - (i+1))+1 by omega]
    show(sJ.store (c.root i) ((dq l out sp) nJ)).then _=_
    rw[hm3]
    push_cast
    rfl⟩,by simp only;omega,st.to ⟨rfl,rfl,rfl,rfl,rfl,rfl,rfl,rfl,rfl,rfl,rfl,trivial⟩ (fun hh=>(hh.pk [1,4,2,3,3,3,0,2,2,1]))⟩
  ·have hi:¬ (i:Int)<c.roots:=by simpa using h74
   refine bF (ac (ab (kPm aa aa (kPv (ag isAgg134 sizeOf134 aa aa) aa ?_))))
   refine dx aB bd (aH aa (au call117 aa) (fT _ _ _ _ c hc huJ) .free aa aa ?_)
   rintro _ _ ⟨sv2,hsv2,rfl,rfl⟩
   refine kPm aa aa (kPv (aA aa aa) aa (kPv (aA aa aa) aa (kPs (ax (vs:=[i64 (sJ.block c).1.act,i64 (sJ.block c).1.used,sv2]) sizeOf151 aa aa aa (eh hsv2) aa) aa (aM (H':=cS 0 (sv2,(sJ.block c).1.rts)::aB bd sJ::row b16 [i64 (nJ:Nat)] 3::dJ 3 i64 0 (.slice qo out.length co,out)::row b15 [.slice qo out.length co] 166::row b14 [i64 (sJ.block c).1.act,i64 (sJ.block c).1.used,sv2] 151::row b13 [i64 c.log,i64 c.roots,i64 c.space] 134::cS 0 (sv,(sF.block c).1.rts)::row b10 [i64 0,i64 0,.slice none 0 0] 151::row b9 [i64 0,i64 0,i64 0] 134::row b7 [u8 sp] 5::row b6 [.slice ql l.length cl] 240::row b4 [u16 x0,u16 x1,u16 x2] 96::Fr) (fun w hh=>hh) (ad (am [12,15,14,13,11,10,9,8] rfl (ac (cW [0,1,2,3,4,5,6,7] [5,6] [2,3] [5,6] [row b14 [i64 (sJ.block c).1.act,i64 (sJ.block c).1.used,sv2] 151,row b15 [.slice qo out.length co] 166] Tryz.mixed (by kernel_rfl) ?_))))))))
   refine aS aa aa aa (ak aa) .free aa (aS aa aa aa (ag isAgg134 sizeOf134 aa aa) .free aa ?_)
   refine aj aa aa aa (ag isAgg151 sizeOf151 aa aa) .free aa ?_
   refine aj aa aa aa (ah isAgg166 aa aa) .free aa (aS aa aa aa (bu aa) .free aa (aT aa aa (kPs (ax (vs:=_) sizeOf134 aa aa aa aa aa) aa (ad (cN (aT aa aa (kPs (ax (vs:=[i64 (sJ.block c).1.act,i64 (sJ.block c).1.used,sv2]) sizeOf151 aa aa aa (eh hsv2) aa) aa (ad (cN (aS aa aa aa (bu aa) .free aa (cy ?_)))))))))))
   refine am [11,8,10,9] rfl (az ?_)
   exact zc results114 (.tmp aa) (.cellA aa isAgg134 sizeOf134 aa aa) (.cellA aa isAgg151 sizeOf151 aa aa) (.tmp aa) (fun w_ hh=>⟨_,⟨bd,pa,N,s0,sF,out,hfm,hN,⟨hus0,hf0⟩,hfill,.inl ⟨n,nJ,sL,sJ,_,sv2,by rw[hinv,List.drop_eq_nil_of_le (by omega)];rfl,by rw[hinvJ,show c.roots.toNat - i=0 by omega];rfl,huJ,hlJ,hnJ2,rfl,hsv2,rfl,rfl⟩⟩,(hh.dp [2,3,3,3,3,3,3,3,3,3])⟩)
def itl{α ι:Type}(st:α→ι→Bool×ι):List α→ι→Bool×ι
 | [],x=>(true,x)
 | a::t,x=>if (st a x).1=true then itl st t (st a x).2 else (false,(st a x).2)
def lst{ι:Type}(r:Loop)(cd:ι→Code)(y:Bool×ι):Loop:=if y.1=true then r else {r with state:= .done,pending:=some (cd y.2)}
theorem qj(B:World)(H:List HP)(o:db)(bd:Nat):
 ∀ w,Holds B H w→Calls Tryz.prog 196 [gQ o,ptr bd].toArray w (Ret B (fun v H'=>∃ b1 b2,v= .func (.func 214) [].toArray [ptr b1,ptr b2].toArray∧H'=row b2 [ptr bd] 90::row b1 [i64 o.1,i64 o.2.1,i64 o.2.2] 160::H) (fun _ _=>False)):=by
 refine an func196 aa ntmps196 aa (ac (ab (kPb (aX aa) aa fun b2=>(kPb (dL aa aa) aa fun b3=>(kPa aa aa (ad (ac (ab (kPv (dz aa aa) aa (kPa aa aa (ad ?_)))))))))))
 refine az ?_
 exact aq results196 aa (fun w hw=>⟨_,⟨_,_,rfl,rfl⟩,hw⟩)
theorem zo(B:World)(l f b1 b2 bd:Nat)(o:db)(ho:lB o)(s:Dev)(ι:Type)(r:Loop)(hrf:r.fn=f)(hrp:r.params.size=2)(I:ι→Prop)(Hx:ι→List HP)(cd:ι→Code)(st:(Int×Int)→ι→Bool×ι)(x0:ι)(h0:I x0)(hround:∀ (p:Int×Int) (x:ι),I x→I (st p x).2∧∀ w,Holds B (blk l (.loop r)::row b2 [ptr bd] 90::row b1 [i64 o.1,i64 o.2.1,i64 o.2.2] 160::aB bd s::Hx x) w→RoundIn (Wd (cxF f)) 0 Tryz.prog l f ((r.params.zip [i64 p.1,i64 p.2].toArray).foldl (fun tmps (t,a)=>tmps.setIfInBounds t a) r.tmps) r.assign r.body w (Ret B (fun rv H'=>rv= .bool (st p x).1∧H'=blk l (.loop (lst r cd (st p x)))::row b2 [ptr bd] 90::row b1 [i64 o.1,i64 o.2.1,i64 o.2.2] 160::aB bd s::Hx (st p x).2) (fun _ _=>False))):
 ∀ w,Holds B (blk l (.loop r)::row b2 [ptr bd] 90::row b1 [i64 o.1,i64 o.2.1,i64 o.2.2] 160::aB bd s::Hx x0) w→Calls Tryz.prog 214 [.func (.yield l) #[] #[],ptr b1,ptr b2].toArray w (Ret B (fun _ H'=>I (itl st (s.objNames o o.2.1.toNat 0) x0).2∧H'=blk l (.loop (lst r cd (itl st (s.objNames o o.2.1.toNat 0) x0)))::row b2 [ptr bd] 90::row b1 [i64 o.1,i64 o.2.1,i64 o.2.2] 160::aB bd s::Hx (itl st (s.objNames o o.2.1.toNat 0) x0).2) (fun _ _=>False)):=by
 refine an func214 aa ntmps214 aa ?_
 have ho1:=ho.w
 have ho2:=ho.r
 have ho3:=ho.at_
 refine ac (ab (kPv (aD (m:=_) fc aa aa) aa (kPl fZ isAgg3 aa aa aa aa (kPm aa aa (ad (aG (du (ι:=Nat×ι) (fun i=>(i.1:Int)≤o.2.1∧I i.2∧itl st (s.objNames o o.2.1.toNat 0) x0=itl st (s.objNames o (o.2.1.toNat - i.1) i.1) i.2) (fun i=>[(0,.func (.yield l) #[] #[]),(1,ptr b1),(2,ptr b2),(8,i64 o.2.1),(9,i64 i.1)]) (fun i=>blk l (.loop r)::row b2 [ptr bd] 90::row b1 [i64 o.1,i64 o.2.1,i64 o.2.2] 160::aB bd s::Hx i.2) (fun i=>o.2.1.toNat - i.1) (0,x0) ⟨by simp only;omega,h0,rfl⟩ (fun a w st=>st.to ⟨rfl,rfl,rfl,rfl,rfl,trivial⟩ id) ?_)))))))
 rintro⟨k,x⟩ ⟨hk1,hIx,hinv⟩
 simp only at hk1 hIx hinv ⊢
 refine ac (ab (kPv (ao aa aa aa) aa (ad (ac ?_))))
 refine a8 aa (fun h10=> ?_) (fun h10=> ?_)
 ·have hk:(k:Int)<o.2.1:=by simpa using h10
  refine ar (ac (aG (ac (ab (kPm aa aa (kPa aa aa (ad (ac (ab (kPv (ah isAgg90 aa aa) aa (kPl kq isAgg3 aa aa aa aa ?_)))))))))))
  refine kPv (aN aa aa) aa (kPm aa aa (kPv (aN aa aa) aa (aw aa (au call173 aa) (bI (q:=aB) (fun Fr=>cq _ Fr _ _ _)) .free aa aa ?_)))
  refine kPv (bR runUnderlying25 runUnderlying3 aa) aa (kPa aa aa (ad (am [5,4,9,8,0,1,2] rfl (ac ?_))))
  rcases Bool.eq_false_or_eq_true (((IntKind.i64.wrap (s.load (o.2.2+1+(k:Int)))) !=0)) with hs4 | hs4
  ·skip
   have hto:(IntKind.i64.wrap (s.load (o.2.2+1+(k:Int))))≠0:=by simpa using hs4
   have hnm:s.objNames o (o.2.1.toNat - k) k=((k:Int),(IntKind.i64.wrap (s.load (o.2.2+1+(k:Int)))))::s.objNames o (o.2.1.toNat - (k+1)) ((k:Int)+1):=by
    rw[show o.2.1.toNat - k=(o.2.1.toNat - (k+1))+1 by omega]
    simp only[Dev.objNames]
    rw[if_pos hto]
   refine ab (kPm aa aa (kPv (ao aa aa aa) aa (kPm aa aa (al aa (ak aa) (.on aa aa (ae hs4)) aa aa (al aa (ak aa) (.on aa aa (ae hs4)) aa aa (al aa (ak aa) (.on aa aa (ae hs4)) aa aa ?_))))))
   refine fU (f:=f) aa aa (fun w hw=>hw) (by rw[hrp];rfl) hrf (hround ((k:Int),(IntKind.i64.wrap (s.load (o.2.2+1+(k:Int))))) x hIx).2 (.on aa aa (ae hs4)) aa ?_ ?_
   rotate_left
   ·rintro _ _ ⟨⟩
   rintro _ _ ⟨rfl,rfl⟩
   refine al aa (bz aa) (.on aa aa (ae hs4)) aa aa (kPv (ay aa hs4 aa) aa (ad (am [28,9,8,0,1,2] rfl ?_)))
   refine a8 aa (fun h28=> ?_) (fun h28=> ?_)
   ·have hg:(st ((k:Int),(IntKind.i64.wrap (s.load (o.2.2+1+(k:Int))))) x).1=false:=by simpa using h28
    have hres:itl st (s.objNames o o.2.1.toNat 0) x0=st ((k:Int),(IntKind.i64.wrap (s.load (o.2.2+1+(k:Int))))) x:=by rw[hinv,hnm];simp only[itl];rw[if_neg (by rw[hg];decide)];exact Prod.ext hg.symm aa
    refine az ?_
    exact iX results214 (fun w hh=>⟨_,⟨by rw[hres];exact(hround ((k:Int),(IntKind.i64.wrap (s.load (o.2.2+1+(k:Int))))) x hIx).1,by rw[hres]⟩,hh⟩)
   ·have hg:(st ((k:Int),(IntKind.i64.wrap (s.load (o.2.2+1+(k:Int))))) x).1=true:=by simpa using h28
    have hlr:lst r cd (st ((k:Int),(IntKind.i64.wrap (s.load (o.2.2+1+(k:Int))))) x)=r:=by unfold lst;rw[if_pos hg]
    refine ar (ab (kPv (aN aa aa) aa (kPm aa aa (ad ?_))))
    exact fun a w st_=>⟨(k+1,(st ((k:Int),(IntKind.i64.wrap (s.load (o.2.2+1+(k:Int))))) x).2),⟨by simp only;omega,(hround ((k:Int),(IntKind.i64.wrap (s.load (o.2.2+1+(k:Int))))) x hIx).1,by rw[hinv,hnm];simp only[itl];rw[if_pos hg];rfl⟩,by simp only;omega,st_.to ⟨rfl,rfl,rfl,rfl,rfl,trivial⟩ (fun hh=>by rw[hlr] at hh;exact hh)⟩
  ·skip
   have hto:(IntKind.i64.wrap (s.load (o.2.2+1+(k:Int))))=0:=by simpa using hs4
   have hnm:s.objNames o (o.2.1.toNat - k) k=s.objNames o (o.2.1.toNat - (k+1)) ((k:Int)+1):=by
    rw[show o.2.1.toNat - k=(o.2.1.toNat - (k+1))+1 by omega]
    simp only[Dev.objNames]
    rw[if_neg (by omega)]
   refine ab (kPm aa aa (kPv (ao aa aa aa) aa (kPm aa aa (ap aa (.on aa aa (ai hs4)) aa (ap aa (.on aa aa (ai hs4)) aa (ap aa (.on aa aa (ai hs4)) aa (ap aa (.on aa aa (ai hs4)) aa (ap aa (.on aa aa (ai hs4)) aa (kPv (aJ aa hs4 aa) aa (ad (am [28,9,8,0,1,2] rfl ?_)))))))))))
   refine bH aa (rfl) (ar (ab (kPv (aN aa aa) aa (kPm aa aa (ad ?_)))))
   exact fun a w st_=>⟨(k+1,x),⟨by simp only;omega,hIx,by rw[hinv,hnm];rfl⟩,by simp only;omega,st_.to ⟨rfl,rfl,rfl,rfl,rfl,trivial⟩ id⟩
 ·have hk:¬ (k:Int)<o.2.1:=by simpa using h10
  refine bF ?_
  exact cI results214 (fun w hh=>⟨_,⟨by rw[hinv,show o.2.1.toNat - k=0 by omega];exact hIx,by rw[hinv,show o.2.1.toNat - k=0 by omega];rfl⟩,hh⟩)
theorem BD{α ι:Type}{st:α→ι→Bool×ι}{a:α}{x:ι}:itl st [a] x=st a x:=by
 simp only[itl]
 split
 ·rename_i h;exact Prod.ext h.symm aa
 ·rename_i h;exact Prod.ext (Bool.eq_false_iff.2 h).symm aa
theorem zG{α ι:Type}{st:α→ι→Bool×ι}{a:α}{t:List α}{x:ι}(h:(st a x).1=false):itl st (a::t) x=st a x:=by
 simp only[itl]
 rw[if_neg (by rw[h];decide)]
 exact Prod.ext h.symm aa
theorem ww{s:Dev}{c:Cfg}{b:Blk}{a:Int}:0≤(s.objOf c b a).1.1∧(s.objOf c b a).1.1≤64:=by
 have h:=qd (s.load a)
 unfold Dev.objOf
 split
 ·decide
 split
 ·decide
 ·exact⟨h.1,h.2.1⟩
theorem zp{a:Int}(h:0≤a∧a≤1000000):lB (0,0,a):=⟨⟨Int.le_refl 0,(by decide:(0:Int)≤64)⟩,⟨Int.le_refl 0,Int.le_refl 0⟩,h⟩
theorem tF{s:Dev}{c:Cfg}{b:Blk}{at_:Int}(h:b.place c b.used≤at_):∀ f,s.objs c b f at_=[]
 | 0=>rfl
 | f+1=>by simp only[Dev.objs];rw[if_pos h]
theorem nW(B:World)(H:List HP)(bd:Nat)(c:Cfg)(b:Blk)(sv:Value)(hsv:aL sv=true):
 ∀ w,Holds B H w→Calls Tryz.prog 183 [ptr bd,dY c,ly b sv].toArray w (Ret B (fun v H'=>∃ b3 b4 b5,v= .func (.func 208) [].toArray [ptr b5,ptr b4,ptr b3].toArray∧H'=row b5 [i64 b.act,i64 b.used,sv] 151::row b4 [i64 c.log,i64 c.roots,i64 c.space] 134::row b3 [ptr bd] 90::H) (fun _ _=>False)):=by
 refine an func183 aa ntmps183 aa (ac (ab (kPb (dL aa aa) aa fun b3=>(kPb (aX aa) aa fun b4=>(kPb (aX aa) aa fun b5=>(kPa aa aa (ad (ac (ab (kPv (dz aa aa) aa (kPa aa aa ?_)))))))))))
 refine ad (am [6] rfl (az ?_))
 exact aq results183 aa (fun w hw=>⟨_,⟨_,_,_,rfl,rfl⟩,hw⟩)
theorem sE(B:World)(E:List HP)(l f b3 b4 b5 bd:Nat)(c:Cfg)(hc:bA c)(b:Blk)(sv:Value)(hb:gh c b)(hsv:aL sv=true)(s:Dev)(ι:Type)(r:Loop)(hrf:r.fn=f)(hrp:r.params.size=2)(I:ι→Prop)(Hx:ι→List HP)(cd:ι→Code)(st:(db×Int)→ι→Bool×ι)(x0:ι)(h0:I x0)(hround:∀ (p:db×Int) (x:ι),lB p.1→I x→I (st p x).2∧∀ (E:List HP) w,Holds B (blk l (.loop r)::row b5 [i64 b.act,i64 b.used,sv] 151::row b4 [i64 c.log,i64 c.roots,i64 c.space] 134::row b3 [ptr bd] 90::aB bd s::(Hx x++E)) w→RoundIn (Wd (cxF f)) 0 Tryz.prog l f ((r.params.zip [gQ p.1,i64 p.2].toArray).foldl (fun tmps (t,a)=>tmps.setIfInBounds t a) r.tmps) r.assign r.body w (Ret B (fun rv H'=>rv= .bool (st p x).1∧H'=blk l (.loop (lst r cd (st p x)))::row b5 [i64 b.act,i64 b.used,sv] 151::row b4 [i64 c.log,i64 c.roots,i64 c.space] 134::row b3 [ptr bd] 90::aB bd s::(Hx (st p x).2++E)) (fun _ _=>False))):
 ∀ w,Holds B (blk l (.loop r)::row b5 [i64 b.act,i64 b.used,sv] 151::row b4 [i64 c.log,i64 c.roots,i64 c.space] 134::row b3 [ptr bd] 90::aB bd s::(Hx x0++E)) w→Calls Tryz.prog 208 [.func (.yield l) #[] #[],ptr b5,ptr b4,ptr b3].toArray w (Ret B (fun _ H'=>I (itl st (s.objs c b (b.used.toNat+1) (b.place c 0)) x0).2∧H'=blk l (.loop (lst r cd (itl st (s.objs c b (b.used.toNat+1) (b.place c 0)) x0)))::row b5 [i64 b.act,i64 b.used,sv] 151::row b4 [i64 c.log,i64 c.roots,i64 c.space] 134::row b3 [ptr bd] 90::aB bd s::(Hx (itl st (s.objs c b (b.used.toNat+1) (b.place c 0)) x0).2++E)) (fun _ _=>False)):=by
 refine an func208 aa ntmps208 aa ?_
 have hb1:=hb.act
 have hb2:=hb.used
 have hcs:=hc.s2
 have hfb:=iF hc (k:=b.act) (by omega)
 have hpl:=wq hc hb hb2
 have hp0:b.place c 0=c.frm b.act+0:=rfl
 have hp1:b.place c b.used=c.frm b.act+b.used:=rfl
 refine ac (cV Tryz.mixed (by kernel_rfl) (by kernel_rfl) ?_)
 refine kQv (ag isAgg151 sizeOf151 aa aa) aa ?_
 refine kQv (ag isAgg134 sizeOf134 aa aa) aa ?_
 refine bG aa (au call137 aa) (ib _ _ c hc b sv hb hsv _ (by omega)) .free aa ?_
 refine kQv (ag isAgg151 sizeOf151 aa aa) aa ?_
 refine kQv (ag isAgg134 sizeOf134 aa aa) aa ?_
 refine kQv (aD (m:=_) dE aa aa) aa (kQv (ah isAgg3 aa aa) aa (bG aa (au call137 aa) (ib _ _ c hc b sv hb hsv _ (by omega)) .free aa ?_))
 refine kQa aa aa (kQa aa aa (bY (am [6,5,0,1,2,3] rfl (aG (du (ι:=Int×Nat×ι) (fun i=>I i.2.2∧(0≤i.1∧i.1≤100000)∧b.place c b.used - i.1<i.2.1∧itl st (s.objs c b (b.used.toNat+1) (b.place c 0)) x0=itl st (s.objs c b i.2.1 i.1) i.2.2) (fun i=>[(0,.func (.yield l) #[] #[]),(1,ptr b5),(2,ptr b4),(3,ptr b3),(5,i64 i.1),(6,i64 (b.place c b.used))]) (fun i=>blk l (.loop r)::row b5 [i64 b.act,i64 b.used,sv] 151::row b4 [i64 c.log,i64 c.roots,i64 c.space] 134::row b3 [ptr bd] 90::aB bd s::(Hx i.2.2++E)) (fun i=>i.2.1) (b.place c 0,b.used.toNat+1,x0) ⟨h0,by simp only;omega,by simp only;omega,rfl⟩ (fun a w st=>st.to ⟨rfl,rfl,rfl,rfl,rfl,rfl,trivial⟩ id) ?_)))))
 rintro⟨a,n,x⟩ ⟨hIx,ha1,ha2,hinv⟩
 simp only at hIx ha1 ha2 hinv ⊢
 refine ac (ac (ab (kPm aa aa (kPm aa aa (kPv (ao aa aa aa) aa (ad ?_))))))
 refine a8 aa (fun h19=> ?_) (fun h19=> ?_)
 ·have hk:a<b.place c b.used:=by simpa using h19
  obtain⟨n,rfl⟩:∃ m,n=m+1:=⟨n - 1,by omega⟩
  refine ar (aG (ac (ab (kPv (ah isAgg90 aa aa) aa (kPv (ag isAgg134 sizeOf134 aa aa) aa ?_)))))
  refine kPv (ag isAgg151 sizeOf151 aa aa) aa ?_
  refine kPm aa aa (aw aa (au call147 aa) (bI (q:=aB) (fun Fr=>j2 _ Fr _ _ c hc b sv hb hsv a (by omega))) .free aa aa ?_)
  refine kPm aa aa (kPv (aA aa aa) aa (kPv (aA aa aa) aa (kPb (aC zeroValue160 aa) aa fun b7=>(kPs (ax (vs:=_) sizeOf160 aa aa aa aa aa) aa (kPa aa aa (ad (am [8,7,6,5,0,1,2,3] rfl (ac (ac (ab (kPm aa aa ?_)))))))))))
  refine kPv (ao aa aa aa) aa (ad ?_)
  refine a8 aa (fun h29=> ?_) (fun h29=> ?_)
  ·have he:(s.objOf c b a).2≠0:=by simpa using h29
   have hob:s.objs c b (n+1) a=[((0,0,a),(s.objOf c b a).2)]:=by
    simp only[Dev.objs]
    rw[if_neg (by omega),if_pos he]
   have ho1:0≤(s.objOf c b a).1.1∧(s.objOf c b a).1.1≤64:=ww
   refine ab (kPm aa aa (kPv (aQ aa (yi _ aa)) aa (kPs (ax (vs:=_) sizeOf160 aa aa aa aa aa) aa (ad (ac (ac (ab (kPm aa aa (kPv (ag isAgg160 sizeOf160 aa aa) aa ?_)))))))))
   refine kPm aa aa ?_
   first | refine fU (f:=f) (r:=r) (H1:=row b5 [i64 b.act,i64 b.used,sv] 151::row b4 [i64 c.log,i64 c.roots,i64 c.space] 134::row b3 [ptr bd] 90::aB bd s::(Hx x++(row b7 [i64 (s.objOf c b a).1.1,i64 (s.objOf c b a).1.2.1,i64 (s.objOf c b a).1.2.2] 160::E))) aa aa (fun w hh=>hh.perm (List.perm_middle (l₁ :=blk l (.loop r)::row b5 [i64 b.act,i64 b.used,sv] 151::row b4 [i64 c.log,i64 c.roots,i64 c.space] 134::row b3 [ptr bd] 90::aB bd s::Hx x)).symm) (by rw[hrp];rfl) hrf ((hround (s.objOf c b a) x (gY hc hb he) hIx).2 (row b7 [i64 (s.objOf c b a).1.1,i64 (s.objOf c b a).1.2.1,i64 (s.objOf c b a).1.2.2] 160::E)) .free aa ?_ ?_ | refine fU (f:=f) (r:=r) (H1:=row b5 [i64 b.act,i64 b.used,sv] 151::row b4 [i64 c.log,i64 c.roots,i64 c.space] 134::row b3 [ptr bd] 90::aB bd s::(Hx x++(row b7 [i64 0,i64 0,i64 a] 160::E))) aa aa (fun w hh=>hh.perm (List.perm_middle (l₁ :=blk l (.loop r)::row b5 [i64 b.act,i64 b.used,sv] 151::row b4 [i64 c.log,i64 c.roots,i64 c.space] 134::row b3 [ptr bd] 90::aB bd s::Hx x)).symm) (by rw[hrp];rfl) hrf ((hround ((0,0,a),(s.objOf c b a).2) x (zp (by omega)) hIx).2 (row b7 [i64 0,i64 0,i64 a] 160::E)) .free aa ?_ ?_
   rotate_left
   ·rintro _ _ ⟨⟩
   rintro _ _ ⟨rfl,rfl⟩
   first | refine aM (H':=row b7 [i64 (s.objOf c b a).1.1,i64 (s.objOf c b a).1.2.1,i64 (s.objOf c b a).1.2.2] 160::blk l (.loop (lst r cd (st (s.objOf c b a) x)))::row b5 [i64 b.act,i64 b.used,sv] 151::row b4 [i64 c.log,i64 c.roots,i64 c.space] 134::row b3 [ptr bd] 90::aB bd s::(Hx (st (s.objOf c b a) x).2++E)) (fun w hh=>hh.perm (List.perm_middle (l₁ :=blk l (.loop (lst r cd (st (s.objOf c b a) x)))::row b5 [i64 b.act,i64 b.used,sv] 151::row b4 [i64 c.log,i64 c.roots,i64 c.space] 134::row b3 [ptr bd] 90::aB bd s::Hx (st (s.objOf c b a) x).2))) ?_ | refine aM (H':=row b7 [i64 0,i64 0,i64 a] 160::blk l (.loop (lst r cd (st ((0,0,a),(s.objOf c b a).2) x)))::row b5 [i64 b.act,i64 b.used,sv] 151::row b4 [i64 c.log,i64 c.roots,i64 c.space] 134::row b3 [ptr bd] 90::aB bd s::(Hx (st ((0,0,a),(s.objOf c b a).2) x).2++E)) (fun w hh=>hh.perm (List.perm_middle (l₁ :=blk l (.loop (lst r cd (st ((0,0,a),(s.objOf c b a).2) x)))::row b5 [i64 b.act,i64 b.used,sv] 151::row b4 [i64 c.log,i64 c.roots,i64 c.space] 134::row b3 [ptr bd] 90::aB bd s::Hx (st ((0,0,a),(s.objOf c b a).2) x).2))) ?_
   refine kPv (bz aa) aa (kPm aa aa ?_)
   apply gP (tp:=40) (t:=37) (σ1:=[(37,_),(7,_),(6,_),(5,_),(0,_),(1,_),(2,_),(3,_)]) 3 rfl (aE rfl)
   ·intro hg1
    refine al aa (ak aa) (.on aa aa (ae hg1)) aa aa (al aa (ao aa aa aa) (.on aa aa (ae hg1)) aa aa (kPv (aJ aa hg1 aa) aa ?_))
    exact aY aa (aE aa) (gg hg1)
   ·intro hg1
    refine ap aa (.on aa aa (ai hg1)) aa (ap aa (.on aa aa (ai hg1)) aa (kPv (ay aa hg1 aa) aa ?_))
    exact aY aa (aE aa) (ge hg1)
   refine ad ?_
   refine a8 aa (fun h40=> ?_) (fun h40=> ?_)
   ·try simp only[decide_eq_true_eq,decide_eq_false_iff_not,Bool.not_eq_true',Bool.not_eq_false',Bool.or_eq_true,Bool.and_eq_true,Bool.and_eq_false_iff,Bool.or_eq_false_iff,beq_iff_eq,bne_iff_ne,beq_eq_false_iff_ne,bne_eq_false_iff_eq,ge_iff_le,gt_iff_lt,ne_eq] at h40
    refine az ?_
    exact iX results208 (fun w hh=>⟨_,⟨by rw[hinv,hob,BD];exact(hround ((0,0,a),(s.objOf c b a).2) x (zp (by omega)) hIx).1,by rw[hinv,hob,BD]⟩,hh.tail⟩)
   ·have h40':=h40
    have hg:(st (s.objOf c b a) x).1=true∨(s.objOf c b a).2≠0:=by first | exact .inr he | (left;simpa [he] using h40)
    have hlr:(st (s.objOf c b a) x).1=true→lst r cd (st (s.objOf c b a) x)=r:=fun hg=>by unfold lst;rw[if_pos hg]
    refine ar (ab (kPm aa aa (kPv (aD (m:=_) fc aa aa) aa (kPv (ag isAgg102 sizeOf102 aa aa) aa ?_))))
    refine aw aa (au call139 aa) (eH _ _ _ _ (by omega)) .free aa aa ?_
    refine kPv (aN aa aa) aa (kPa aa aa (ad (am [5,6,0,1,2,3] rfl ?_)))
    exact absurd (by simp at h40;exact h40.2) he
  ·have he:(s.objOf c b a).2=0:=by simpa using h29
   have hob:s.objs c b (n+1) a=s.objOf c b a::s.objs c b n (a+((s.objOf c b a).1.1+1)):=by
    simp only[Dev.objs]
    rw[if_neg (by omega),if_neg (by omega)]
   have ho:=gY hc hb he
   have ho1:=ho.w
   have ho2:=ho.r
   have ho3:=ho.at_
   refine ar (ac (ac (ab (kPm aa aa (kPv (ag isAgg160 sizeOf160 aa aa) aa ?_)))))
   refine kPm aa aa ?_
   first | refine fU (f:=f) (r:=r) (H1:=row b5 [i64 b.act,i64 b.used,sv] 151::row b4 [i64 c.log,i64 c.roots,i64 c.space] 134::row b3 [ptr bd] 90::aB bd s::(Hx x++(row b7 [i64 (s.objOf c b a).1.1,i64 (s.objOf c b a).1.2.1,i64 (s.objOf c b a).1.2.2] 160::E))) aa aa (fun w hh=>hh.perm (List.perm_middle (l₁ :=blk l (.loop r)::row b5 [i64 b.act,i64 b.used,sv] 151::row b4 [i64 c.log,i64 c.roots,i64 c.space] 134::row b3 [ptr bd] 90::aB bd s::Hx x)).symm) (by rw[hrp];rfl) hrf ((hround (s.objOf c b a) x (gY hc hb he) hIx).2 (row b7 [i64 (s.objOf c b a).1.1,i64 (s.objOf c b a).1.2.1,i64 (s.objOf c b a).1.2.2] 160::E)) .free aa ?_ ?_ | refine fU (f:=f) (r:=r) (H1:=row b5 [i64 b.act,i64 b.used,sv] 151::row b4 [i64 c.log,i64 c.roots,i64 c.space] 134::row b3 [ptr bd] 90::aB bd s::(Hx x++(row b7 [i64 0,i64 0,i64 a] 160::E))) aa aa (fun w hh=>hh.perm (List.perm_middle (l₁ :=blk l (.loop r)::row b5 [i64 b.act,i64 b.used,sv] 151::row b4 [i64 c.log,i64 c.roots,i64 c.space] 134::row b3 [ptr bd] 90::aB bd s::Hx x)).symm) (by rw[hrp];rfl) hrf ((hround ((0,0,a),(s.objOf c b a).2) x (zp (by omega)) hIx).2 (row b7 [i64 0,i64 0,i64 a] 160::E)) .free aa ?_ ?_
   rotate_left
   ·rintro _ _ ⟨⟩
   rintro _ _ ⟨rfl,rfl⟩
   first | refine aM (H':=row b7 [i64 (s.objOf c b a).1.1,i64 (s.objOf c b a).1.2.1,i64 (s.objOf c b a).1.2.2] 160::blk l (.loop (lst r cd (st (s.objOf c b a) x)))::row b5 [i64 b.act,i64 b.used,sv] 151::row b4 [i64 c.log,i64 c.roots,i64 c.space] 134::row b3 [ptr bd] 90::aB bd s::(Hx (st (s.objOf c b a) x).2++E)) (fun w hh=>hh.perm (List.perm_middle (l₁ :=blk l (.loop (lst r cd (st (s.objOf c b a) x)))::row b5 [i64 b.act,i64 b.used,sv] 151::row b4 [i64 c.log,i64 c.roots,i64 c.space] 134::row b3 [ptr bd] 90::aB bd s::Hx (st (s.objOf c b a) x).2))) ?_ | refine aM (H':=row b7 [i64 0,i64 0,i64 a] 160::blk l (.loop (lst r cd (st ((0,0,a),(s.objOf c b a).2) x)))::row b5 [i64 b.act,i64 b.used,sv] 151::row b4 [i64 c.log,i64 c.roots,i64 c.space] 134::row b3 [ptr bd] 90::aB bd s::(Hx (st ((0,0,a),(s.objOf c b a).2) x).2++E)) (fun w hh=>hh.perm (List.perm_middle (l₁ :=blk l (.loop (lst r cd (st ((0,0,a),(s.objOf c b a).2) x)))::row b5 [i64 b.act,i64 b.used,sv] 151::row b4 [i64 c.log,i64 c.roots,i64 c.space] 134::row b3 [ptr bd] 90::aB bd s::Hx (st ((0,0,a),(s.objOf c b a).2) x).2))) ?_
   refine kPv (bz aa) aa (kPm aa aa ?_)
   apply gP (tp:=40) (t:=37) (σ1:=[(37,_),(7,_),(6,_),(5,_),(0,_),(1,_),(2,_),(3,_)]) 3 rfl (aE rfl)
   ·intro hg2
    refine al aa (ak aa) (.on aa aa (ae hg2)) aa aa (al aa (ao aa aa aa) (.on aa aa (ae hg2)) aa aa (kPv (aJ aa hg2 aa) aa ?_))
    exact aY aa (aE aa) (gg hg2)
   ·intro hg2
    refine ap aa (.on aa aa (ai hg2)) aa (ap aa (.on aa aa (ai hg2)) aa (kPv (ay aa hg2 aa) aa ?_))
    exact aY aa (aE aa) (ge hg2)
   refine ad ?_
   refine a8 aa (fun h40=> ?_) (fun h40=> ?_)
   ·try simp only[decide_eq_true_eq,decide_eq_false_iff_not,Bool.not_eq_true',Bool.not_eq_false',Bool.or_eq_true,Bool.and_eq_true,Bool.and_eq_false_iff,Bool.or_eq_false_iff,beq_iff_eq,bne_iff_ne,beq_eq_false_iff_ne,bne_eq_false_iff_eq,ge_iff_le,gt_iff_lt,ne_eq] at h40
    refine az ?_
    exact iX results208 (fun w hh=>⟨_,⟨by rw[hinv,hob,zG (by simpa [he] using h40)];exact(hround (s.objOf c b a) x (gY hc hb he) hIx).1,by rw[hinv,hob,zG (by simpa [he] using h40)]⟩,hh.tail⟩)
   ·have h40':=h40
    have hg:(st (s.objOf c b a) x).1=true∨(s.objOf c b a).2≠0:=by first | exact .inr he | (left;simpa [he] using h40)
    have hlr:(st (s.objOf c b a) x).1=true→lst r cd (st (s.objOf c b a) x)=r:=fun hg=>by unfold lst;rw[if_pos hg]
    refine ar (ab (kPm aa aa (kPv (aD (m:=_) fc aa aa) aa (kPv (ag isAgg102 sizeOf102 aa aa) aa ?_))))
    refine aw aa (au call139 aa) (eH _ _ _ _ (by omega)) .free aa aa ?_
    refine kPv (aN aa aa) aa (kPa aa aa (ad (am [5,6,0,1,2,3] rfl ?_)))
    exact fun a_ w st_=>⟨(_,n,(st (s.objOf c b a) x).2),⟨(hround (s.objOf c b a) x (gY hc hb he) hIx).1,by simp only;omega,by simp only;omega,by rw[hinv,hob];simp only[itl];rw[if_pos (hg.resolve_right (by omega))]⟩,by simp only;omega,st_.to ⟨rfl,rfl,rfl,rfl,rfl,rfl,trivial⟩ (fun hh=>by have hh:=hh.tail;rw[hlr (hg.resolve_right (by omega))] at hh;exact hh)⟩
 ·have hk:¬ a<b.place c b.used:=by simpa using h19
  refine bF ?_
  exact cI results208 (fun w hh=>⟨_,⟨by rw[hinv,tF (by omega)];exact hIx,by rw[hinv,tF (by omega)];rfl⟩,hh⟩)
def num(s:List UInt8):Option Nat:=match Lib.parseUintB 64 s with
 | .ok u=>if Lib.decDigits u=s then some u else none
 | _=>none
def je(n:Nat):List UInt8→Option Nat
 | []=>some n
 | c::t=>if c.toNat<48∨57<c.toNat∨18446744073709551615<n*10+(c.toNat - 48) then none else je (n*10+(c.toNat - 48)) t
def DH(s:List UInt8):Option Nat:=if s=[]∨20<s.length∨(s.getD 0 0=48∧1<s.length) then none else je 0 s
theorem lu:∀ (s:List UInt8) (n:Nat),n≤18446744073709551615→je n s=(match Lib.parseUintM (2 ^ 64 - 1) n s with
 | .ok u=>some u
 | _=>none)
 | [],n,_=>rfl
 | c::t,n,h=>by
   unfold je Lib.parseUintM
   by_cases h1:48≤c.toNat∧c.toNat≤57
   ·rw[if_pos h1]
    by_cases h2:1844674407370955162≤n
    ·rw[if_pos (by omega),if_pos h2]
    ·rw[if_neg h2]
     by_cases h3:2 ^ 64 - 1<n*10+(c.toNat - 48)
     ·rw[if_pos (by omega),if_pos h3]
     ·rw[if_neg h3,if_neg (by omega)]
      exact lu t _ (by omega)
   ·rw[if_neg h1,if_pos (by omega)]
theorem iw{u:Nat}(h:u<10):Lib.decDigits u=[UInt8.ofNat (48+u)]:=by rw[Lib.decDigits,dif_pos h]
theorem px{u:Nat}(h:¬ u<10):Lib.decDigits u=Lib.decDigits (u / 10)++[UInt8.ofNat (48+u%10)]:=by rw[Lib.decDigits,dif_neg h]
theorem uq{c:UInt8}(h:48≤c.toNat):UInt8.ofNat (48+(c.toNat - 48))=c:=by
 rw[show 48+(c.toNat - 48)=c.toNat by omega];simp
theorem w7:∀ (s:List UInt8) (n u:Nat),1≤n→je n s=some u→Lib.decDigits u=Lib.decDigits n++s
 | [],n,u,_,h=>by cases h;simp
 | c::t,n,u,hn,h=>by
   unfold je at h
   split at h
   ·cases h
   ·rename_i h1
    have:=w7 t _ u (by omega) h
    rw[this,px (u:=n*10+(c.toNat - 48)) (by omega),show(n*10+(c.toNat - 48)) / 10=n by omega,show(n*10+(c.toNat - 48))%10=c.toNat - 48 by omega,uq (by omega)]
    simp
theorem sf:∀ (s:List UInt8) (n u:Nat),n≤18446744073709551615→je n s=some u→u≤18446744073709551615
 | [],n,u,hn,h=>by cases h;exact hn
 | c::t,n,u,hn,h=>by
   unfold je at h
   split at h
   ·cases h
   ·exact sf t _ u (by omega) h
theorem Aw(u:Nat):Lib.decDigits u≠[]:=by
 rw[Lib.decDigits];split<;>simp
theorem w8(u:Nat):1≤u→(Lib.decDigits u).getD 0 0≠48:=by
 induction u using Nat.strongRecOn with
 | _ u ih=>
   intro h
   by_cases h1:u<10
   ·rw[iw h1]
    intro e
    have e2:UInt8.ofNat (48+u)=48:=by simpa using e
    have:=congrArg UInt8.toNat e2
    rw[UInt8.toNat_ofNat_of_lt' (by show 48+u<256;omega)] at this
    have h48:(48:UInt8).toNat=48:=rfl
    omega
   ·rw[px h1]
    have:=ih (u / 10) (by omega) (by omega)
    have hn:=Aw (u / 10)
    cases e:Lib.decDigits (u / 10) with
    | nil=>exact absurd e hn
    | cons a t=>rw[e] at this;simpa using this
theorem kw(u:Nat)(h:u≤18446744073709551615):(Lib.decDigits u).length≤20:=by
 have key:∀ (k u:Nat),u<10 ^ (k+1)→(Lib.decDigits u).length≤k+1:=by
  intro k
  induction k with
  | zero=>intro u h;rw[iw (by omega)];simp
  | succ k ih=>
    intro u h
    by_cases h1:u<10
    ·rw[iw h1];simp
    ·rw[px h1]
     have:=ih (u / 10) (by rw[Nat.div_lt_iff_lt_mul (by decide)];rw[Nat.pow_succ] at h;exact h)
     simp;omega
 exact key 19 u (by have:(10:Nat) ^ 20=100000000000000000000:=by decide
                    omega)
theorem se(s:List UInt8):DH s=num s:=by
 unfold DH num Lib.parseUintB
 by_cases h0:s=[]
 ·rw[if_pos (.inl h0),if_pos h0]
 rw[if_neg h0]
 have hp:=lu s 0 (by decide)
 by_cases hg:20<s.length∨(s.getD 0 0=48∧1<s.length)
 ·rw[if_pos (.inr hg)]
  cases e:Lib.parseUintM (2 ^ 64 - 1) 0 s with
  | ok u=>
    rw[e] at hp
    have hu:=sf s 0 u (by decide) hp
    have hne:¬ Lib.decDigits u=s:=fun hd=>by
     have hl:=kw u hu
     rw[hd] at hl
     rcases hg with hg | ⟨h1,h2⟩
     ·omega
     ·by_cases hz:1≤u
      ·have:=w8 u hz
       rw[hd] at this
       exact this h1
      ·rw[show u=0 by omega,iw (by decide)] at hd
       rw[←hd] at h2;simp at h2
    simp only[if_neg hne]
  | _=>rfl
 ·rw[if_neg (by simp only[h0,false_or];exact hg),hp]
  cases e:Lib.parseUintM (2 ^ 64 - 1) 0 s with
  | ok u=>
    rw[e] at hp
    simp only at hp ⊢
    have hd:Lib.decDigits u=s:=by
     cases s with
     | nil=>exact absurd aa h0
     | cons c t=>
       unfold je at hp
       split at hp
       ·cases hp
       ·rename_i h1
        simp only[Nat.zero_mul,Nat.zero_add] at h1 hp
        by_cases hz:c.toNat=48
        ·have hc:c=48:=by apply UInt8.toNat_inj.1;rw[hz];rfl
         have ht:t=[]:=by
          cases t with
          | nil=>rfl
          | cons a b=>exact absurd (.inr ⟨by simp[hc],by simp⟩) hg
         subst ht;subst hc
         have:u=0:=by simpa [je] using hp.symm
         subst this
         rw[iw (by decide)];rfl
        ·rw[w7 t _ u (by omega) hp,iw (by omega),uq (by omega)]
         rfl
    rw[if_pos hd]
  | _=>rfl
abbrev Cmd:=Int×List Int
def zW:List (List UInt8×Nat):=[([98,101,103,105,110],1),([99,111,109,109,105,116],0),([97,98,111,114,116],0),([97,108,108,111,99],2),([104,101,97,100],1),([114,101,97,100],2),([119,114,105,116,101],3),([114,101,102],2),([112,111,105,110,116],3),([114,111,111,116],1),([115,101,116],2),([100,114,111,112],1),([115,116,101,112],1),([99,111,108,108,101,99,116],0),([115,116,97,116,115],0),([99,104,101,99,107],0),([111,102,102],2),([111,112,101,110],0)]
def ie:List (List UInt8)→Option (List Int)
 | []=>some []
 | s::t=>match num s with
   | none=>none
   | some n=>(ie t).map fun l=>(n:Int)::l
def fw(k:Nat):List UInt8:=(zW.getD k ([],0)).1
def fm(k:Nat):Nat:=(zW.getD k ([],0)).2
def kc(w:List UInt8):Nat→Nat→Option (Nat×Nat)
 | 0,_=>none
 | f+1,k=>if fw k=w then some (k,fm k) else kc w f (k+1)
def kb(w:List UInt8):Option (Nat×Nat):=kc w 18 0
theorem Bu{s:List UInt8}(h:∀ u,Lib.parseUintB 64 s≠ .ok u):num s=none:=by
 unfold num
 split
 ·rename_i u e;exact absurd e (h u)
 ·rfl
theorem zs{s:List UInt8}{u:Nat}(h:Lib.parseUintB 64 s= .ok u):num s=if Lib.decDigits u=s then some u else none:=by
 unfold num;rw[h]
theorem zj{s:List UInt8}{u:Nat}(h:Lib.parseUintB 64 s= .ok u):u<18446744073709551616:=by
 unfold Lib.parseUintB at h
 split at h
 ·cases h
 ·have hp:=lu s 0 (by decide)
  rw[h] at hp
  have:=sf s 0 u (by decide) hp
  omega
theorem wX:∀ k,k<18→fm k≤3:=by decide
def cR(ws:List (List UInt8)):Cmd×Int:=match kb (ws.getD 0 []) with
 | none=>((0,[]),12)
 | some (k,many)=>if ws.length≠many+1 then ((0,[]),13) else match ie (ws.drop 1) with
   | none=>((0,[]),13)
   | some ns=>(((k:Nat),ns),0)
abbrev PSt:=Int×List Cmd×(List Cmd×Int×Int)
def stP(l:List UInt8)(x:PSt):Bool×PSt:=
 let ws:=tok (dw l) none
 let at_:=IntKind.i64.wrap (x.1+1)
 if ws=[] then (true,at_,x.2.1,x.2.2)
 else if x.2.1.length=400 then (false,at_,x.2.1,[],at_,11)
 else if (cR ws).2≠0 then (false,at_,x.2.1,[],at_,(cR ws).2)
 else (true,at_,x.2.1++[(cR ws).1],x.2.2)
def p0:PSt:=(0,[],[],0,0)
def eV(s:List UInt8):List Cmd×Int×Int:=if 65536<s.length then ([],0,11) else
 if (itl stP (spl 10 s) p0).1=true then ((itl stP (spl 10 s) p0).2.2.1,0,0) else (itl stP (spl 10 s) p0).2.2.2
theorem wf:∀ (l:List (List UInt8)) (x:PSt),(itl stP l x).1=false→(itl stP l x).2.2.2.1=[]
 | [],x,h=>by cases h
 | a::t,x,h=>by
   unfold itl at h ⊢
   split at h
   ·rename_i ha;rw[if_pos ha];exact wf t _ h
   ·rename_i ha;rw[if_neg ha]
    unfold stP at ha ⊢
    simp only at ha ⊢
    split
    ·rename_i h1;rw[if_pos h1] at ha;exact absurd aa ha
    ·rename_i h1
     rw[if_neg h1] at ha
     split
     ·rfl
     ·rename_i h2
      rw[if_neg h2] at ha
      split
      ·rfl
      ·rename_i h3;rw[if_neg h3] at ha;exact absurd aa ha
end Go.Proofs.YtoakdoeajpjgkaaGreatDoor
