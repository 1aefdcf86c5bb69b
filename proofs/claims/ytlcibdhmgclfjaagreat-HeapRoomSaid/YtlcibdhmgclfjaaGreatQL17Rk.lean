/- Part of a law's texts. Conditions: none. -/
import Derived.Test.YtlcibdhmgclfjaaGreatQL17Rj
open Go.Proofs.Tryz
set_option linter.all false
namespace Go.Proofs.YtlcibdhmgclfjaaGreat
open Go
structure o0(B:World)(f:FuncId)(fi:List Value)(bd be:Nat)(ε:Type)(ExA:Nat→ε→HP)(op:Int→Int→Dev→ε→Out (Int×ε))(ok:Dev→ε→Prop):Prop where
 enter:∀ args w,(callFunc f args).run Tryz.prog w= .ok (.enter f args) w
 u64:∀ s e,ok s e→U64 s
 says:∀ (Fr:List HP) (i v:Int) (s:Dev) (e:ε),ok s e→∀ w,Holds B (aG bd s::ExA be e::Fr) w→Calls Tryz.prog f (fi++[i64 i,w64 v]++[]).toArray w (Ret B (fun rv H'=>∃ a e' s',op i v s e= .ok (a,e') s'∧rv=i64 a∧H'=aG bd s'::ExA be e'::Fr) (fun c H'=>∃ s',op i v s e= .off s'∧c=dN∧H'=aG bd s'::Fr))
 keeps:∀ i v s e a e' s',ok s e→0≤v∧v<18446744073709551616→op i v s e= .ok (a,e') s'→ok s' e'
section
variable {ε:Type}
def f9(op:Int→Int→Dev→ε→Out (Int×ε))(at_ h0:Int):Nat→Int→Dev→ε→Out ((Int×Int)×ε)
 | 0,_,s,e=> .ok ((at_,0),e) s
 | f+1,i,s,e=>(op (at_+i) (if i=0 then h0 else 0) s e).then fun x s=>if x.1≠0 then .ok ((0,x.1),x.2) s else f9 op at_ h0 f (i+1) s x.2
def db(op:Int→Int→Dev→ε→Out (Int×ε))(c:Cfg)(w r:Int)(s:Dev)(e:ε):Out ((Int×Int)×ε):=
 if lA w r≠0 then .ok ((0,lA w r),e) s
 else if (s.block c).2≠0 then .ok ((0,(s.block c).2),e) s
 else if c.space - (s.block c).1.used<w+1 then .ok ((0,4),e) s
 else (op (c.active+1) ((s.block c).1.used+(w+1)) s e).then fun x s'=>if x.1≠0 then .ok ((0,x.1),x.2) s' else f9 op ((s.block c).1.place c (s.block c).1.used) (eR w r) (w+1).toNat 0 s' x.2
def iC(op:Int→Int→Dev→ε→Out (Int×ε))(o:du)(i:Int)(ref:Bool)(v:Int)(s:Dev)(e:ε):Out (Int×ε):=
 if (bS o i ref).2≠0 then .ok ((bS o i ref).2,e) s else op (bS o i ref).1 v s e
def fS(op:Int→Int→Dev→ε→Out (Int×ε)):List Int→Int→Dev→ε→Out (Int×ε)
 | [],_,s,e=> .ok (0,e) s
 | v::vs,i,s,e=>if s.load i=v then fS op vs (i+1) s e else (op i v s e).then fun x s=>if x.1≠0 then .ok x s else fS op vs (i+1) s x.2
def kF(op:Int→Int→Dev→ε→Out (Int×ε))(c:Cfg)(b:Blk)(s:Dev)(e:ε):Out (Int×ε):=fS op (b.act::b.used::b.rts) c.active s e
end
theorem ua(w r:Int):0≤eR w r∧eR w r<18446744073709551616:=by
 unfold eR sC
 simp only[IntKind.wrap,IntKind.bits,IntKind.signed]
 simp;omega
theorem wu(B:World)(Fr:List HP)(f:FuncId)(fi:List Value)(bd be:Nat)(ε:Type)(ExA:Nat→ε→HP)(op:Int→Int→Dev→ε→Out (Int×ε))(ok:Dev→ε→Prop)(hS:o0 B f fi bd be ε ExA op ok)(c:Cfg)(hc:bC c)(w r:Int)(s:Dev)(e:ε)(hok:ok s e):
 ∀ w_,Holds B (aG bd s::ExA be e::Fr) w_→Calls Tryz.prog 55 [ptr bd,eO c,.agg #[i64 w,i64 r],.func (.func f) fi.toArray #[]].toArray w_ (Ret B (fun rv H'=>∃ x e' s',db op c w r s e= .ok (x,e') s'∧rv= .tuple #[i64 x.1,i64 x.2]∧ok s' e'∧H'=aG bd s'::ExA be e'::Fr) (fun ch H'=>∃ s',db op c w r s e= .off s'∧ch=dN∧H'=aG bd s'::Fr)):=by
 refine au func55 aa ntmps55 aa ?_
 have hb:=dM (s:=s) hc (hS.u64 _ _ hok)
 have hb1:=hb.act
 have hb2:=hb.used
 have hcs:=hc.s2
 have hfb:=gE hc (k:=(s.block c).1.act) (by omega)
 have hplace:(s.block c).1.place c (s.block c).1.used=c.frm (s.block c).1.act+(s.block c).1.used:=rfl
 refine ac (ab (aC aa (bx aa) .free aa aa ?_))
 rintro _ _ ⟨b5,rfl,rfl⟩
 refine aC aa (bx aa) .free aa aa ?_
 rintro _ _ ⟨b6,rfl,rfl⟩
 refine kPa aa aa (kPa aa aa (ad (ac (ac (ab (kPv (am isAgg38 sizeOf38 aa aa) aa ?_))))))
 refine aE aa (aA call113 aa) (tu _ _ _ _) .free aa aa ?_
 refine kPa aa aa (ad (ac (ab (kPm aa aa (kPv (an aa aa aa) aa (ad ?_))))))
 refine aW aa (fun h21=> ?_) (fun h21=> ?_)
 ·have hk1:lA w r≠0:=by simpa using h21
  refine ac (ab (kPm aa aa (kPa aa aa (kPa aa aa (ad (ao [9,8,6,5,0,3] rfl (az ?_)))))))
  exact bg results55 aa aa (fun w_ hh=>⟨_,⟨_,e,s,by unfold db;rw[if_pos hk1],rfl,hok,rfl⟩,hh.tail.tail⟩)
 ·have hk1:¬ lA w r≠0:=by simpa using h21
  have hwb:=xB (w:=w) (r:=r) (by omega)
  refine ay (ac (ab (kPm aa aa (kPv (am isAgg40 sizeOf40 aa aa) aa ?_))))
  refine dV aG bd (aQ aa (aA call111 aa) (gL _ _ _ _ c hc (hS.u64 _ _ hok)) .free aa aa ?_)
  rintro _ _ ⟨sv,hsv,rfl,rfl⟩
  refine kPm aa aa (kPv (aB aa aa) aa (kPv (aB aa aa) aa (aC aa (aN zeroValue95 aa) .free aa aa ?_)))
  rintro _ _ ⟨b11,rfl,rfl⟩
  refine aD aa (aI (vs:=[i64 (s.block c).1.act,i64 (s.block c).1.used,sv]) sizeOf95 aa aa aa (gK hsv) aa) .free aa ?_
  rintro _ _ rfl
  refine kPa aa aa (ad (ao [12,11,9,8,6,5,3] rfl (ac (ac (ab (kPm aa aa (kPv (an aa aa aa) aa (ad ?_))))))))
  refine aW aa (fun h30=> ?_) (fun h30=> ?_)
  ·have hk2:(s.block c).2≠0:=by simpa using h30
   refine ac (ab (kPm aa aa (kPa aa aa (kPa aa aa (ad (az ?_))))))
   exact bg results55 aa aa (fun w_ hh=>⟨_,⟨_,e,s,by unfold db;rw[if_neg hk1,if_pos hk2],rfl,hok,rfl⟩,((((((hh.front 0 aa).tail.front 0 aa).tail.front 1 aa).tail.front 1 aa).tail.front 1 aa).front 1 aa)⟩)
  ·have hk2:¬ (s.block c).2≠0:=by simpa using h30
   refine ay (ac (ac (cK Tryz.mixed (by kernel_rfl) (by kernel_rfl) ?_)))
   refine kQv (am isAgg38 sizeOf38 aa aa) aa ?_
   refine bH aa (aA call114 aa) (fB _ _ _ _ (by omega)) .free aa ?_
   refine kQv (aj (m:=_) dX aa aa) aa (kQv (ae isAgg3 aa aa) aa (kQv (aj (m:=_) fj aa aa) aa (kQv (ae isAgg3 aa aa) aa (kQv (cU aa aa) aa (kQv (an aa aa aa) aa (bR (ao [39,11,9,8,6,5,3] rfl ?_)))))))
   refine aW aa (fun h39=> ?_) (fun h39=> ?_)
   ·have hk3:c.space - (s.block c).1.used<w+1:=by simpa using h39
    refine ac (ab (kPa aa aa (kPa aa aa (ad (az ?_)))))
    exact bg results55 aa aa (fun w_ hh=>⟨_,⟨_,e,s,by unfold db;rw[if_neg hk1,if_neg hk2,if_pos hk3],rfl,hok,rfl⟩,((((((hh.front 0 aa).tail.front 0 aa).tail.front 1 aa).tail.front 1 aa).tail.front 1 aa).front 1 aa)⟩)
   ·have hk3:¬ c.space - (s.block c).1.used<w+1:=by simpa using h39
    refine ay (ac (ab (kPv (am isAgg95 sizeOf95 aa aa) aa ?_)))
    refine kPv (am isAgg40 sizeOf40 aa aa) aa ?_
    refine kPv (aj (m:=_) fj aa aa) aa (kPv (ae isAgg3 aa aa) aa (aE aa (aA call112 aa) (je _ _ c hc _ sv hb hsv _ (by omega)) .free aa aa ?_))
    refine kPa aa aa (ad (ac (ac (cD 9 Tryz.mixed (by kernel_rfl) (by kernel_rfl) ?_))))
    refine kQm aa aa (kQv (am isAgg40 sizeOf40 aa aa) aa ?_)
    refine bH aa (aA call115 aa) (wc _ _ c hc) .free aa ?_
    refine kQv (aj (m:=_) fj aa aa) aa (kQv (ae isAgg3 aa aa) aa (kQv (am isAgg38 sizeOf38 aa aa) aa ?_))
    refine bH aa (aA call114 aa) (fB _ _ _ _ (by omega)) .free aa ?_
    refine kQv (aS aa aa) aa (kQv (dh runUnderlying3 runUnderlying26 aa (fW (by omega))) aa (bR (dV ExA be (dV aG bd ?_))))
    refine aY aa (ku hS.enter aa aa) (hS.says _ _ _ _ _ hok) .free aa aa ?_ ?_
    rotate_left
    ·rintro _ _ ⟨s9,hm9,rfl,rfl⟩
     exact bz fun w hh=>⟨_,⟨s9,by unfold db;rw[if_neg hk1,if_neg hk2,if_neg hk3];rw[hm9];rfl,rfl,rfl⟩,((((hh.front 4 aa).front 4 aa).front 4 aa).front 4 aa).tail.tail.tail.tail⟩
    rintro _ _ ⟨a1,e1,s1,hm1,rfl,rfl⟩
    have hok1:=hS.keeps _ _ _ _ _ _ _ hok ⟨by omega,by omega⟩ hm1
    refine kPa aa aa (ad (ao [14,13,9,8,6,3] rfl (ac (ab (kPm aa aa (kPv (an aa aa aa) aa (ad ?_)))))))
    refine aW aa (fun h56=> ?_) (fun h56=> ?_)
    ·have hk4:a1≠0:=by simpa using h56
     refine ac (ab (kPm aa aa (kPa aa aa (kPa aa aa (ad (az ?_))))))
     exact bg results55 aa aa (fun w_ hh=>⟨_,⟨_,e1,s1,by unfold db;rw[if_neg hk1,if_neg hk2,if_neg hk3];rw[hm1,aX,if_pos hk4],rfl,hok1,rfl⟩,((((((hh.front 2 aa).tail.front 2 aa).tail.front 2 aa).tail.front 2 aa).tail.front 1 aa).front 1 aa)⟩)
    ·have hk4:¬ a1≠0:=by simpa using h56
     have hmid:db op c w r s e=f9 op ((s.block c).1.place c (s.block c).1.used) (eR w r) (w+1).toNat 0 s1 e1:=by
      unfold db;rw[if_neg hk1,if_neg hk2,if_neg hk3,hm1,aX,if_neg hk4]
     refine ay (ac (ac (ab (kPv (am isAgg38 sizeOf38 aa aa) aa ?_))))
     refine aE aa (aA call114 aa) (fB _ _ _ _ (by omega)) .free aa aa ?_
     refine kPm aa aa (ad (aO (dY (ι:=Nat×Dev×ε) (fun i=>(i.1:Int)≤w+1∧ok i.2.1 i.2.2∧f9 op ((s.block c).1.place c (s.block c).1.used) (eR w r) (w+1).toNat 0 s1 e1=f9 op ((s.block c).1.place c (s.block c).1.used) (eR w r) ((w+1).toNat - i.1) i.1 i.2.1 i.2.2) (fun i=>[(3,.func (.func f) fi.toArray #[]),(6,ptr b6),(8,i64 0),(9,i64 0),(13,i64 ((s.block c).1.place c (s.block c).1.used)),(59,i64 (w+1)),(60,i64 i.1)]) (fun i=>aG bd i.2.1::ExA be i.2.2::row b11 [i64 (s.block c).1.act,i64 (s.block c).1.used,sv] 95::dy 0 (sv,(s.block c).1.rts)::row b6 [i64 w,i64 r] 38::row b5 [i64 c.log,i64 c.roots,i64 c.space] 40::Fr) (fun i=>(w+1).toNat - i.1) (0,s1,e1) ⟨by simp only;omega,hok1,rfl⟩ (fun a w st=>st.to ⟨rfl,rfl,rfl,rfl,rfl,rfl,rfl,trivial⟩ id) ?_)))
     rintro⟨k,sL,eL⟩ ⟨hkw,hok2,hinv⟩
     simp only at hkw hok2 hinv ⊢
     refine ac (ab (kPv (an aa aa aa) aa (ad (ac ?_))))
     refine aW aa (fun h61=> ?_) (fun h61=> ?_)
     ·have hk:(k:Int)<w+1:=by simpa using h61
      refine ay (ac (aO (ac (ab (kPm aa aa (kPa aa aa (ad (ac (ab (kPa aa aa (ad ?_)))))))))))
      refine ac (ac (ab (kPm aa aa (kPv (an aa aa aa) aa (ad (ao [64,16,15,60,59,13,9,8,6,3] rfl ?_))))))
      refine aW aa (fun h64=> ?_) (fun h64=> ?_)
      ·have hk0':k=0:=by simp at h64;omega
       have hst:f9 op ((s.block c).1.place c (s.block c).1.used) (eR w r) ((w+1).toNat - k) k sL eL=(op (((s.block c).1.place c (s.block c).1.used)+k) (eR w r) sL eL).then fun x sz=>if x.1≠0 then .ok ((0,x.1),x.2) sz else f9 op ((s.block c).1.place c (s.block c).1.used) (eR w r) ((w+1).toNat - (k+1)) ((k:Int)+1) sz x.2:=by
        rw[show(w+1).toNat - k=((w+1).toNat - (k+1))+1 by omega]
        simp only[f9]
        rw[if_pos (by omega)]
       have hVb:=ua w r
       refine ab (kPv (am isAgg38 sizeOf38 aa aa) aa ?_)
       refine aE aa (aA call116 aa) (rj _ _ _ _) .free aa aa ?_
       refine kPa aa aa (ad (ac (ab (kPm aa aa (kPm aa aa (kPm aa aa (kPv (aS aa aa) aa (kPm aa aa (dV ExA be (dV aG bd ?_))))))))))
       refine aY aa (ku hS.enter aa aa) (hS.says _ _ _ _ _ hok2) .free aa aa ?_ ?_
       rotate_left
       ·rintro _ _ ⟨s9,hm9,rfl,rfl⟩
        exact bz fun w hh=>⟨_,⟨s9,by rw[hmid,hinv,hst,hm9];rfl,rfl,rfl⟩,((((hh.front 4 aa).front 4 aa).front 4 aa).front 4 aa).tail.tail.tail.tail⟩
       rintro _ _ ⟨a2,e2,s2,hm2,rfl,rfl⟩
       have hok3:=hS.keeps _ _ _ _ _ _ _ hok2 hVb hm2
       refine kPa aa aa (ad (ao [17,60,59,13,9,8,6,3] rfl (ac (ab (kPm aa aa (kPv (an aa aa aa) aa (ad ?_)))))))
       refine aW aa (fun h74=> ?_) (fun h74=> ?_)
       ·have hk5:a2≠0:=by simpa using h74
        refine ac (ab (kPm aa aa (kPa aa aa (kPa aa aa (ad (az ?_))))))
        exact bg results55 aa aa (fun w_ hh=>⟨_,⟨_,e2,s2,by rw[hmid,hinv,hst,hm2,aX,if_pos hk5],rfl,hok3,rfl⟩,((((((hh.front 2 aa).tail.front 2 aa).tail.front 2 aa).tail.front 2 aa).tail.front 1 aa).front 1 aa)⟩)
       ·have hk5:¬ a2≠0:=by simpa using h74
        refine ay (ab (kPv (aS aa aa) aa (kPm aa aa (ad ?_))))
        exact fun a w_ st=>⟨(k+1,s2,e2),⟨by simp only;omega,hok3,by rw[hinv,hst,hm2,aX,if_neg hk5];push_cast;rfl⟩,by simp only;omega,st.to ⟨rfl,rfl,rfl,rfl,rfl,rfl,rfl,trivial⟩ id⟩
      ·have hk0':k≠0:=by simp at h64;omega
       have hst:f9 op ((s.block c).1.place c (s.block c).1.used) (eR w r) ((w+1).toNat - k) k sL eL=(op (((s.block c).1.place c (s.block c).1.used)+k) 0 sL eL).then fun x sz=>if x.1≠0 then .ok ((0,x.1),x.2) sz else f9 op ((s.block c).1.place c (s.block c).1.used) (eR w r) ((w+1).toNat - (k+1)) ((k:Int)+1) sz x.2:=by
        rw[show(w+1).toNat - k=((w+1).toNat - (k+1))+1 by omega]
        simp only[f9]
        rw[if_neg (by omega)]
       have hVb:(0:Int)≤0∧(0:Int)<18446744073709551616:=by decide
       refine ay (ac (ab (kPm aa aa (kPm aa aa (kPm aa aa (kPv (aS aa aa) aa (kPm aa aa (dV ExA be (dV aG bd ?_)))))))))
       refine aY aa (ku hS.enter aa aa) (hS.says _ _ _ _ _ hok2) .free aa aa ?_ ?_
       rotate_left
       ·rintro _ _ ⟨s9,hm9,rfl,rfl⟩
        exact bz fun w hh=>⟨_,⟨s9,by rw[hmid,hinv,hst,hm9];rfl,rfl,rfl⟩,((((hh.front 4 aa).front 4 aa).front 4 aa).front 4 aa).tail.tail.tail.tail⟩
       rintro _ _ ⟨a2,e2,s2,hm2,rfl,rfl⟩
       have hok3:=hS.keeps _ _ _ _ _ _ _ hok2 hVb hm2
       refine kPa aa aa (ad (ao [17,60,59,13,9,8,6,3] rfl (ac (ab (kPm aa aa (kPv (an aa aa aa) aa (ad ?_)))))))
       refine aW aa (fun h74=> ?_) (fun h74=> ?_)
       ·have hk5:a2≠0:=by simpa using h74
        refine ac (ab (kPm aa aa (kPa aa aa (kPa aa aa (ad (az ?_))))))
        exact bg results55 aa aa (fun w_ hh=>⟨_,⟨_,e2,s2,by rw[hmid,hinv,hst,hm2,aX,if_pos hk5],rfl,hok3,rfl⟩,((((((hh.front 2 aa).tail.front 2 aa).tail.front 2 aa).tail.front 2 aa).tail.front 1 aa).front 1 aa)⟩)
       ·have hk5:¬ a2≠0:=by simpa using h74
        refine ay (ab (kPv (aS aa aa) aa (kPm aa aa (ad ?_))))
        exact fun a w_ st=>⟨(k+1,s2,e2),⟨by simp only;omega,hok3,by rw[hinv,hst,hm2,aX,if_neg hk5];push_cast;rfl⟩,by simp only;omega,st.to ⟨rfl,rfl,rfl,rfl,rfl,rfl,rfl,trivial⟩ id⟩
     ·have hk:¬ (k:Int)<w+1:=by simpa using h61
      refine bT (ac (ab (kPm aa aa (kPa aa aa (kPa aa aa (ad (ao [9,8] rfl (az ?_))))))))
      exact bg results55 aa aa (fun w_ hh=>⟨_,⟨(((s.block c).1.place c (s.block c).1.used),0),eL,sL,by rw[hmid,hinv,show(w+1).toNat - k=0 by omega];rfl,rfl,hok2,rfl⟩,((((((hh.front 2 aa).tail.front 2 aa).tail.front 2 aa).tail.front 2 aa).tail.front 1 aa).front 1 aa)⟩)
theorem aM{α β:Type}{m:Out α}{f:α→Dev→Out β}{b:β}{s':Dev}(h:m.then f= .ok b s'):∃ a s1,m= .ok a s1∧f a s1= .ok b s':=by
 cases m with
 | ok a s1=>exact⟨a,s1,rfl,h⟩
 | off s=>cases h
theorem cQ{s s':Dev}{i v a:Int}(h:U64 s)(hv:0≤v∧v<18446744073709551616)(e:s.store i v= .ok a s'):U64 s'∧s'.n=s.n:=by
 unfold Dev.store at e
 split at e
 ·cases e;exact⟨h,rfl⟩
 ·split at e
  ·cases e
  ·cases e
   refine⟨fun x=> ?_,rfl⟩
   show 0≤upd s.now i.toNat v x∧upd s.now i.toNat v x<_
   unfold upd
   split
   ·exact hv
   ·exact h x
theorem eC{s s':Dev}{i a:Int}(h:U64 s)(e:s.flush i= .ok a s'):U64 s'∧s'.n=s.n:=by
 unfold Dev.flush at e
 split at e
 ·cases e;exact⟨h,rfl⟩
 ·split at e
  ·cases e
  ·cases e;exact⟨h,rfl⟩
theorem fN{s s':Dev}{a:Unit}(h:U64 s)(e:s.fence= .ok a s'):U64 s'∧s'.n=s.n:=by
 unfold Dev.fence at e
 split at e
 ·cases e
 ·cases e;exact⟨h,rfl⟩
theorem xR{L L':ce}{s s':Dev}{i a:Int}(hL:dZ L)(h:U64 s)(hn:s.n≤1000000)(e:L.append s i= .ok (a,L') s'):U64 s'∧s'.n=s.n:=by
 have hl1:=hL.e1
 have hl2:=hL.e2
 have hl3:=hL.n1
 have hl4:=hL.n2
 have hl5:=hL.c.l2
 have hld:=h.load
 unfold ce.append at e
 split at e
 ·cases e;exact⟨h,rfl⟩
 split at e
 ·cases e;exact⟨h,rfl⟩
 obtain⟨a1,s1,e1,e⟩:=aM e
 have h1:=cQ h ⟨by omega,by omega⟩ e1
 obtain⟨a2,s2,e2,e⟩:=aM e
 have h2:=cQ h1.1 (h1.1.load i) e2
 obtain⟨a3,s3,e3,e⟩:=aM e
 have h3:=eC h2.1 e3
 obtain⟨a4,s4,e4,e⟩:=aM e
 have h4:=fN h3.1 e4
 obtain⟨a5,s5,e5,e⟩:=aM e
 have h5:=cQ h4.1 (by unfold gY;omega) e5
 obtain⟨a6,s6,e6,e⟩:=aM e
 have h6:=eC h5.1 e6
 obtain⟨a7,s7,e7,e⟩:=aM e
 have h7:=fN h6.1 e7
 cases e
 exact⟨h7.1,by rw[h7.2,h6.2,h5.2,h4.2,h3.2,h2.2,h1.2]⟩
theorem gZ{S S':bG}{s s':Dev}{i v a:Int}(hS:mZ S)(h:U64 s)(hn:s.n≤1000000)(hv:0≤v∧v<18446744073709551616)(e:S.store s i v= .ok (a,S') s'):U64 s'∧s'.n=s.n:=by
 unfold bG.store at e
 split at e
 ·cases e;exact⟨h,rfl⟩
 ·split at e
  ·obtain⟨⟨x1,x2⟩,t,e1,e⟩:=aM e
   have h1:=xR hS.L h hn e1
   split at e
   ·cases e;exact h1
   ·obtain⟨y,u,e2,e⟩:=aM e
    have h2:=cQ h1.1 hv e2
    cases e;exact⟨h2.1,by rw[h2.2,h1.2]⟩
  ·obtain⟨y,u,e2,e⟩:=aM e
   have h2:=cQ h hv e2
   cases e;exact h2
theorem wH(B:World)(bd be:Nat):o0 B 120 [ptr bd] bd be Unit (fun _ _=>pr True) (fun i v s _=>(s.store i v).then fun a s'=> .ok (a,()) s') (fun s _=>U64 s) where
 enter:=call120
 u64:=fun _ _ h=>h
 says:=fun Fr i v s e hok w hh=>by
  refine(cZ B Fr bd s i v w (hh.front 1 aa).tail).mono fun en w' h=> ?_
  cases en with
  | returned rv=>
    obtain⟨H,⟨s',⟨a,hm,rfl⟩,rfl⟩,hh⟩:=h
    exact⟨_,⟨a,(),s',by rw[hm];rfl,rfl,rfl⟩,(hh.unpr (p:=True) trivial).back 1 (by simp)⟩
  | panicked c=>
    obtain⟨H,⟨s',⟨hm,rfl⟩,rfl⟩,hh⟩:=h
    exact⟨_,⟨s',by rw[hm];rfl,rfl,rfl⟩,hh⟩
  | outgrown=>exact h
 keeps:=fun i v s e a e' s' hok hv hm=>by
  obtain⟨a1,s1,e1,hm⟩:=aM hm
  cases hm
  exact(cQ hok hv e1).1
theorem qm(B:World)(bd bs:Nat)(c:Cfg):o0 B 56 [ptr bs] bd bs bG (fun b S=>iK b S) (fun i v s S=>S.store s i v) (fun s S=>U64 s∧s.n≤1000000∧mZ S∧S.L.d=bd∧S.L.c=c) where
 enter:=call56
 u64:=fun _ _ h=>h.1
 says:=fun Fr i v s S hok w hh=>by
  obtain⟨h1,h2,h3,rfl,h5⟩:=hok
  refine(qs B Fr bs S s h3 i v w (hh.front 1 aa)).mono fun en w' h=> ?_
  cases en with
  | returned rv=>
    obtain⟨H,⟨a,S',s',hm,rfl,rfl⟩,hh⟩:=h
    exact⟨_,⟨a,S',s',hm,rfl,rfl⟩,hh.front 1 aa⟩
  | panicked c=>
    obtain⟨H,⟨s',hm,rfl,rfl⟩,hh⟩:=h
    exact⟨_,⟨s',hm,rfl,rfl⟩,hh⟩
  | outgrown=>exact h
 keeps:=fun i v s S a S' s' hok hv hm=>by
  have h1:=gZ hok.2.2.1 hok.1 hok.2.1 hv hm
  have h2:=qk hm
  have hc:=hok.2.2.1.L.c.act
  exact⟨h1.1,by rw[h1.2];exact hok.2.1,tR hok.2.2.1 hok.2.1 (by have:=hok.2.2.1.L.c.l1;have:=hok.2.2.1.L.c.r1;omega) hm (kc hok.2.2.1.L hm),by rw[h2.1];exact hok.2.2.2.1,by rw[h2.2.1];exact hok.2.2.2.2⟩
theorem sS(B:World)(Fr:List HP)(f:FuncId)(fi:List Value)(bd be:Nat)(ε:Type)(ExA:Nat→ε→HP)(op:Int→Int→Dev→ε→Out (Int×ε))(ok:Dev→ε→Prop)(hS:o0 B f fi bd be ε ExA op ok)(o:du)(ho:mu o)(i v:Int)(hv:0≤v∧v<18446744073709551616)(s:Dev)(e:ε)(hok:ok s e):
 ∀ w_,Holds B (aG bd s::ExA be e::Fr) w_→Calls Tryz.prog 61 [iF o,i64 i,w64 v,.func (.func f) fi.toArray #[]].toArray w_ (Ret B (fun rv H'=>∃ x e' s',iC op o i false v s e= .ok (x,e') s'∧rv=i64 x∧ok s' e'∧H'=aG bd s'::ExA be e'::Fr) (fun ch H'=>∃ s',iC op o i false v s e= .off s'∧ch=dN∧H'=aG bd s'::Fr)):=by
 refine au func61 aa ntmps61 aa (ac (ab (aC aa (bx aa) .free aa aa ?_)))
 rintro _ _ ⟨b4,rfl,rfl⟩
 refine kPa aa aa (ad (ac (ab (kPv (am isAgg105 sizeOf105 aa aa) aa ?_))))
 refine kPm aa aa (aE aa (aA call123 aa) (nM _ _ o ho _ _) .free aa aa ?_)
 refine kPm aa aa (kPv (aB aa aa) aa (kPv (aB aa aa) aa (kPa aa aa (kPa aa aa (ad (ao [10,9,8,2,3] rfl (ac (ac (ab (kPm aa aa (kPv (an aa aa aa) aa ?_)))))))))))
 refine ad ?_
 refine aW aa (fun h18=> ?_) (fun h18=> ?_)
 ·have hk:(bS o i false).2≠0:=by simpa using h18
  refine ac (ab (kPm aa aa (kPa aa aa (ad (az ?_)))))
  exact ax results61 aa (fun w_ hh=>⟨_,⟨_,e,s,by unfold iC;rw[if_pos hk],rfl,hok,rfl⟩,hh.tail⟩)
 ·have hk:¬ (bS o i false).2≠0:=by simpa using h18
  refine ay (ac (ab (kPm aa aa (kPm aa aa (kPm aa aa (dV ExA be (dV aG bd ?_)))))))
  refine aY aa (ku hS.enter aa aa) (hS.says _ _ _ _ _ hok) .free aa aa ?_ ?_
  rotate_left
  ·rintro _ _ ⟨s9,hm9,rfl,rfl⟩
   exact bz fun w hh=>⟨_,⟨s9,by unfold iC;rw[if_neg hk];exact hm9,rfl,rfl⟩,(hh.front 1 aa).tail⟩
  rintro _ _ ⟨a1,e1,s1,hm1,rfl,rfl⟩
  have hok1:=hS.keeps _ _ _ _ _ _ _ hok ⟨by omega,by omega⟩ hm1
  refine kPa aa aa (ad (ao [8] rfl (az ?_)))
  exact ax results61 aa (fun w_ hh=>⟨_,⟨_,e1,s1,by unfold iC;rw[if_neg hk];exact hm1,rfl,hok1,rfl⟩,(hh.front 2 aa).tail⟩)
theorem sT(B:World)(Fr:List HP)(f:FuncId)(fi:List Value)(bd be:Nat)(ε:Type)(ExA:Nat→ε→HP)(op:Int→Int→Dev→ε→Out (Int×ε))(ok:Dev→ε→Prop)(hS:o0 B f fi bd be ε ExA op ok)(o:du)(ho:mu o)(i v:Int)(hv:0≤v∧v≤9223372036854775807)(s:Dev)(e:ε)(hok:ok s e):
 ∀ w_,Holds B (aG bd s::ExA be e::Fr) w_→Calls Tryz.prog 77 [iF o,i64 i,i64 v,.func (.func f) fi.toArray #[]].toArray w_ (Ret B (fun rv H'=>∃ x e' s',iC op o i true v s e= .ok (x,e') s'∧rv=i64 x∧ok s' e'∧H'=aG bd s'::ExA be e'::Fr) (fun ch H'=>∃ s',iC op o i true v s e= .off s'∧ch=dN∧H'=aG bd s'::Fr)):=by
 refine au func77 aa ntmps77 aa (ac (ab (aC aa (bx aa) .free aa aa ?_)))
 rintro _ _ ⟨b4,rfl,rfl⟩
 refine kPa aa aa (ad (ac (ab (kPv (am isAgg105 sizeOf105 aa aa) aa ?_))))
 refine kPm aa aa (aE aa (aA call123 aa) (nM _ _ o ho _ _) .free aa aa ?_)
 refine kPm aa aa (kPv (aB aa aa) aa (kPv (aB aa aa) aa (kPa aa aa (kPa aa aa (ad (ao [10,9,8,2,3] rfl (ac (ac (ab (kPm aa aa (kPv (an aa aa aa) aa ?_)))))))))))
 refine ad ?_
 refine aW aa (fun h18=> ?_) (fun h18=> ?_)
 ·have hk:(bS o i true).2≠0:=by simpa using h18
  refine ac (ab (kPm aa aa (kPa aa aa (ad (az ?_)))))
  exact ax results77 aa (fun w_ hh=>⟨_,⟨_,e,s,by unfold iC;rw[if_pos hk],rfl,hok,rfl⟩,hh.tail⟩)
 ·have hk:¬ (bS o i true).2≠0:=by simpa using h18
  refine ay (ac (ab (kPm aa aa (kPm aa aa (kPm aa aa (kPv (dh runUnderlying3 runUnderlying26 aa (fW (by omega))) aa (dV ExA be (dV aG bd ?_))))))))
  refine aY aa (ku hS.enter aa aa) (hS.says _ _ _ _ _ hok) .free aa aa ?_ ?_
  rotate_left
  ·rintro _ _ ⟨s9,hm9,rfl,rfl⟩
   exact bz fun w hh=>⟨_,⟨s9,by unfold iC;rw[if_neg hk];exact hm9,rfl,rfl⟩,(hh.front 1 aa).tail⟩
  rintro _ _ ⟨a1,e1,s1,hm1,rfl,rfl⟩
  have hok1:=hS.keeps _ _ _ _ _ _ _ hok ⟨by omega,by omega⟩ hm1
  refine kPa aa aa (ad (ao [8] rfl (az ?_)))
  exact ax results77 aa (fun w_ hh=>⟨_,⟨_,e1,s1,by unfold iC;rw[if_neg hk];exact hm1,rfl,hok1,rfl⟩,(hh.front 2 aa).tail⟩)
theorem zk(B:World)(Fr:List HP)(f:FuncId)(fi:List Value)(bd be:Nat)(ε:Type)(ExA:Nat→ε→HP)(op:Int→Int→Dev→ε→Out (Int×ε))(ok:Dev→ε→Prop)(hS:o0 B f fi bd be ε ExA op ok)(c:Cfg)(hc:bC c)(b:Blk)(hb:0≤b.act∧b.act<9223372036854775808∧0≤b.used∧b.used<9223372036854775808)(hw64:∀ x∈b.rts,0≤x∧x<18446744073709551616)(hl0:0<b.rts.length)(hl1:b.rts.length≤100000)(sv:Value)(hsv:aV sv=true)(hsl:SlR B Fr sv (b.rts.map w64))(s:Dev)(e:ε)(hok:ok s e):
 ∀ w_,Holds B (aG bd s::ExA be e::Fr) w_→Calls Tryz.prog 175 [ptr bd,eO c,mW b sv,.func (.func f) fi.toArray #[]].toArray w_ (Ret B (fun rv H'=>∃ x e' s',kF op c b s e= .ok (x,e') s'∧rv=i64 x∧ok s' e'∧H'=aG bd s'::ExA be e'::Fr) (fun ch H'=>∃ s',kF op c b s e= .off s'∧ch=dN∧H'=aG bd s'::Fr)):=by
 refine au func175 aa ntmps175 aa ?_
 obtain⟨hA1,hA2,hA3⟩:=Ce hc
 have hws:∀ x∈(b.act::b.used::b.rts),0≤x∧x<18446744073709551616:=fun x hx=>by
  simp only[List.mem_cons] at hx
  rcases hx with rfl | rfl | hx
  ·omega
  ·omega
  ·exact hw64 x hx
 refine ac (ab (aC aa (bx aa) .free aa aa ?_))
 rintro _ _ ⟨b5,rfl,rfl⟩
 refine aC aa (bx aa) .free aa aa ?_
 rintro _ _ ⟨b6,rfl,rfl⟩
 refine kPa aa aa (ad (ac (ab (kPv (aj (m:=_) lj aa aa) aa (kPv (ae isAgg3 aa aa) aa (kPv (dh runUnderlying3 runUnderlying26 aa (fW (by omega))) aa (kPv (aj (m:=_) fj aa aa) aa (kPv (ae isAgg3 aa aa) aa (kPv (dh runUnderlying3 runUnderlying26 aa (fW (by omega))) aa (aC aa (EH runUnderlying25 sizeOf26 zeroValue26 aa aa aa aa aa) .free aa aa ?_))))))))))
 rintro _ _ ⟨b20,rfl,rfl⟩
 refine kPv (aj (m:=_) gM aa aa) aa (kPv (ae isAgg25 aa aa) aa (aK (H':=eP 26 w64 0 (.slice (some ⟨b20,0,none⟩) 2 2,[b.act,b.used])::_) (fun w hh=>iq aa aa hh) (aC aa (l4 (yv:=sv) (ys:=b.rts) aa aa runUnderlying25 runUnderlying25 ⟨_,rfl⟩ sizeOf26 zeroValue26 aa (fun _=>rfl) iy aa aa ((((hsl.cons _).cons _).cons _).cons _) hl0 (by simp;omega)) .free aa aa ?_)))
 rintro sv2 _ ⟨hsv2,rfl⟩
 refine Bw (by simp) fun bW oW capW hW=> ?_
 subst hW
 refine kPa aa aa (ad (ao [9,8,5,0,3] rfl (ac (ac (ab (kPm aa aa (kPv (bY aa runUnderlying25 ⟨_,rfl⟩ rfl) aa (kPm aa aa (ad (aO (dY (ι:=Nat×Dev×ε) (fun i=>i.1≤(b.act::b.used::b.rts).length∧ok i.2.1 i.2.2∧kF op c b s e=fS op ((b.act::b.used::b.rts).drop i.1) (c.active+i.1) i.2.1 i.2.2) (fun i=>[(0,ptr bd),(3,.func (.func f) fi.toArray #[]),(5,ptr b5),(8,i64 0),(24,.slice (some ⟨bW,oW,none⟩) (b.act::b.used::b.rts).length capW),(25,i64 ((b.act::b.used::b.rts).length:Nat)),(26,i64 i.1)]) (fun i=>eP 26 w64 0 (.slice (some ⟨bW,oW,none⟩) (b.act::b.used::b.rts).length capW,(b.act::b.used::b.rts))::row b6 [i64 b.act,i64 b.used,sv] 95::row b5 [i64 c.log,i64 c.roots,i64 c.space] 40::aG bd i.2.1::ExA be i.2.2::Fr) (fun i=>(b.act::b.used::b.rts).length - i.1) (0,s,e) ⟨Nat.zero_le _,hok,by simp[kF]⟩ (fun a w st=>st.to ⟨rfl,rfl,rfl,rfl,rfl,rfl,rfl,trivial⟩ id) ?_)))))))))))
 rintro⟨k,sL,eL⟩ ⟨hkw,hok2,hinv⟩
 simp only at hkw hok2 hinv ⊢
 have hr1:=hc.r1
 have hkb:(k:Int)≤200000:=by simp at hkw;omega
 refine ac (ab (kPv (an aa aa aa) aa (ad (ac ?_))))
 refine aW aa (fun h27=> ?_) (fun h27=> ?_)
 ·have hk:k<(b.act::b.used::b.rts).length:=by simp at h27 ⊢;omega
  have hwk:=hws _ (List.getElem_mem hk)
  have hst:fS op ((b.act::b.used::b.rts).drop k) (c.active+k) sL eL=if sL.load (c.active+k)=(b.act::b.used::b.rts)[k] then fS op ((b.act::b.used::b.rts).drop (k+1)) (c.active+(k+1:Nat)) sL eL else (op (c.active+k) ((b.act::b.used::b.rts)[k]) sL eL).then fun x s9=>if x.1≠0 then .ok x s9 else fS op ((b.act::b.used::b.rts).drop (k+1)) (c.active+(k+1:Nat)) s9 x.2:=by
   rw[List.drop_eq_getElem_cons hk]
   push_cast
   rw[←Int.add_assoc]
   rfl
  refine ay (ac (aO (ac (ab (kPm aa aa (kPv (bZ runUnderlying25 sizeOf26 aa aa (by omega) (by omega)) aa ?_))))))
  refine kPv (bX (v:=w64 (b.act::b.used::b.rts)[k]) isAgg26 (de 0 aa) aa (by rw[Int.toNat_natCast,List.getElem?_map,List.getElem?_eq_getElem hk];rfl)) aa ?_
  refine kPa aa aa (kPa aa aa (ad (ac (ab (kPv (am isAgg40 sizeOf40 aa aa) aa ?_)))))
  refine aE aa (aA call117 aa) (gI _ _ c hc) .free aa aa ?_
  refine kPm aa aa (kPv (aS aa aa) aa (kPa aa aa (ad (ao [12,11,26,25,24,8,5,0,3] rfl (ac (ac (ab (kPm aa aa (kPm aa aa (aE aa (aA call71 aa) (bU (q:=aG) (fun Fr=>cH _ Fr _ _ _)) .free aa aa ?_))))))))))
  refine kPm aa aa (kPv (an aa aa aa) aa (ad ?_))
  refine aW aa (fun h39=> ?_) (fun h39=> ?_)
  ·have hk4:sL.load (c.active+k)=(b.act::b.used::b.rts)[k]:=by simpa using h39
   refine bT (ab (kPv (aS aa aa) aa (kPm aa aa (ad (ao [26,25,24,8,5,0,3] rfl ?_)))))
   exact fun a w_ st=>⟨(k+1,sL,eL),⟨by simp only;omega,hok2,by rw[hinv,hst,if_pos hk4]⟩,by simp only;omega,st.to ⟨rfl,rfl,rfl,rfl,rfl,rfl,rfl,trivial⟩ id⟩
  ·have hk4:¬ sL.load (c.active+k)=(b.act::b.used::b.rts)[k]:=by simpa using h39
   refine ay (ac (ab (kPm aa aa (kPm aa aa (kPm aa aa (dV ExA be (dV aG bd ?_)))))))
   refine aY aa (ku hS.enter aa aa) (hS.says _ _ _ _ _ hok2) .free aa aa ?_ ?_
   rotate_left
   ·rintro _ _ ⟨s9,hm9,rfl,rfl⟩
    exact bz fun w hh=>⟨_,⟨s9,by rw[hinv,hst,if_neg hk4,hm9];rfl,rfl,rfl⟩,(((hh.front 3 aa).front 3 aa).front 3 aa).tail.tail.tail⟩
   rintro _ _ ⟨a2,e2,s2,hm2,rfl,rfl⟩
   have hok3:=hS.keeps _ _ _ _ _ _ _ hok2 hwk hm2
   refine kPa aa aa (ad (ao [13,26,25,24,8,5,0,3] rfl (ac (ab (kPm aa aa (kPv (an aa aa aa) aa (ad ?_)))))))
   refine aW aa (fun h45=> ?_) (fun h45=> ?_)
   ·have hk5:a2≠0:=by simpa using h45
    refine ac (ab (kPm aa aa (kPa aa aa (ad (az ?_)))))
    exact ax results175 aa (fun w_ hh=>⟨_,⟨_,e2,s2,by rw[hinv,hst,if_neg hk4,hm2,aX,if_pos hk5],rfl,hok3,rfl⟩,(((hh.front 4 aa).front 4 aa).front 4 aa).tail.tail.tail⟩)
   ·have hk5:¬ a2≠0:=by simpa using h45
    refine ay (ab (kPv (aS aa aa) aa (kPm aa aa (ad ?_))))
    exact fun a w_ st=>⟨(k+1,s2,e2),⟨by simp only;omega,hok3,by rw[hinv,hst,if_neg hk4,hm2,aX,if_neg hk5]⟩,by simp only;omega,st.to ⟨rfl,rfl,rfl,rfl,rfl,rfl,rfl,trivial⟩ (fun hh=>(((((hh.front 1 aa).front 1 aa).front 4 aa).front 4 aa).front 4 aa))⟩
 ·have hk:¬ k<(b.act::b.used::b.rts).length:=by simp at h27 ⊢;omega
  refine bT (ac (ab (kPa aa aa (ad (ao [8] rfl (az ?_))))))
  exact ax results175 aa (fun w_ hh=>⟨_,⟨0,eL,sL,by rw[hinv,List.drop_eq_nil_of_le (by omega)];rfl,rfl,hok2,rfl⟩,hh.tail.tail.tail⟩)
abbrev gV(i v:Int)(s:Dev)(_:Unit):Out (Int×Unit):=(s.store i v).then fun a s'=> .ok (a,()) s'
theorem uj{s:Dev}{i v:Int}(h:s.pow.lim<0):o5 (gV i v s ()) (fun _=>True) s.n:=
 cT (gn h) fun _ s1 _ h1 e1=>⟨_,_,rfl,trivial,h1,e1⟩
theorem tv{a h:Int}:∀ (f:Nat) (i:Int) (s:Dev),s.pow.lim<0→o5 (f9 gV a h f i s ()) (fun _=>True) s.n
 | 0,_,s,h1=>⟨_,_,rfl,trivial,h1,rfl⟩
 | f+1,i,s,h1=>by
   unfold f9
   refine cT (uj h1) fun x s1 _ h2 e2=> ?_
   split
   ·exact⟨_,_,rfl,trivial,h2,e2⟩
   ·exact e2▸tv f (i+1) s1 h2
theorem xo{c:Cfg}{w r:Int}{s:Dev}(h1:s.pow.lim<0):o5 (db gV c w r s ()) (fun _=>True) s.n:=by
 unfold db
 split
 ·exact⟨_,_,rfl,trivial,h1,rfl⟩
 split
 ·exact⟨_,_,rfl,trivial,h1,rfl⟩
 split
 ·exact⟨_,_,rfl,trivial,h1,rfl⟩
 refine cT (uj h1) fun x s1 _ h2 e2=> ?_
 split
 ·exact⟨_,_,rfl,trivial,h2,e2⟩
 ·exact e2▸tv _ _ s1 h2
theorem oY(B:World)(Fr:List HP)(bd:Nat)(c:Cfg)(hc:bC c)(w r:Int)(s:Dev)(hl:s.pow.lim<0)(hu:U64 s):
 ∀ w_,Holds B (aG bd s::Fr) w_→Calls Tryz.prog 55 [ptr bd,eO c,.agg #[i64 w,i64 r],.func (.func 120) [ptr bd].toArray #[]].toArray w_ (Ret B (fun rv H'=>∃ x s',db gV c w r s ()= .ok (x,()) s'∧rv= .tuple #[i64 x.1,i64 x.2]∧s'.pow.lim<0∧s'.n=s.n∧U64 s'∧H'=aG bd s'::Fr) (fun _ _=>False)):=fun w_ hh=>by
 obtain⟨y,s2,hg,_,hg2,hg3⟩:=xo (c:=c) (w:=w) (r:=r) hl
 refine(wu B Fr _ [ptr bd] bd 0 Unit (fun _ _=>pr True) gV _ (wH B bd 0) c hc w r s () hu w_ ((hh.unpr (p:=True) trivial).back 1 (by simp))).mono fun en w' h=> ?_
 cases en with
 | returned rv=>
   obtain⟨H,⟨x,e',s',hm,rfl,hok,rfl⟩,hh⟩:=h
   obtain⟨rfl,rfl⟩:y=(x,e')∧s2=s':=by rw[hg] at hm;cases hm;exact⟨rfl,rfl⟩
   exact⟨_,⟨x,s2,hm,rfl,hg2,hg3,hok,rfl⟩,(hh.front 1 aa).tail⟩
 | panicked c=>
   obtain⟨H,⟨s',hm,_⟩,_⟩:=h
   rw[hg] at hm;cases hm
 | outgrown=>exact h
theorem oa(f:Int→Int):∀ (k:Nat) (i:Int) (s s':Dev) (a:Unit),U64 s→fh f k i s= .ok a s'→U64 s'
 | 0,_,s,s',a,h,e=>by cases e;exact h
 | k+1,i,s,s',a,h,e=>by
   rw[zb] at e
   obtain⟨_,s1,e1,e⟩:=aM e
   obtain⟨_,s2,e2,e⟩:=aM e
   exact oa f k _ s2 s' a (eC (cQ h (by decide) e1).1 e2).1 e
theorem jr{s s':Dev}{c:Cfg}{a:Int}(h:U64 s)(hc:bC c)(e:s.format c= .ok a s'):U64 s':=by
 have:=hc.r1;have:=hc.r2;have:=hc.l1;have:=hc.l2;have:=hc.s1;have:=hc.s2
 unfold Dev.format at e
 split at e
 ·cases e;exact h
 obtain⟨_,s1,e1,e⟩:=aM e
 obtain⟨_,s2,e2,e⟩:=aM e
 obtain⟨_,s3,e3,e⟩:=aM e
 have h3:=(fN (eC (cQ h (by decide) e1).1 e2).1 e3).1
 obtain⟨_,s4,e4,e⟩:=aM e
 simp only[st3] at e4
 obtain⟨_,t1,f1,e4⟩:=aM e4
 obtain⟨_,t2,f2,e4⟩:=aM e4
 obtain⟨_,t3,f3,e4⟩:=aM e4
 have g1:=(cQ h3 (show 0≤c.log∧c.log<_ by omega) f1).1
 have g2:=(cQ g1 (show 0≤c.roots∧c.roots<_ by omega) f2).1
 have g3:=(cQ g2 (show 0≤c.space∧c.space<_ by omega) f3).1
 cases e4
 obtain⟨_,s5,e5,e⟩:=aM e
 obtain⟨_,s6,e6,e⟩:=aM e
 obtain⟨_,s7,e7,e⟩:=aM e
 obtain⟨_,s8,e8,e⟩:=aM e
 have h8:=oa _ _ _ _ _ _ (oa _ _ _ _ _ _ (eC (cQ g3 (by decide) e5).1 e6).1 e7) e8
 obtain⟨_,s9,e9,e⟩:=aM e
 obtain⟨_,s10,e10,e⟩:=aM e
 have h10:=(fN (eC h8 e9).1 e10).1
 obtain⟨_,s11,e11,e⟩:=aM e
 obtain⟨_,s12,e12,e⟩:=aM e
 obtain⟨_,s13,e13,e⟩:=aM e
 have h13:=(fN (eC (cQ h10 (by decide) e11).1 e12).1 e13).1
 cases e;exact h13
theorem lZ(pa N:Nat):U64 (jW pa [] N):=fun x=>by
 show 0≤(tab N (mM [])).getD x 0∧(tab N (mM [])).getD x 0<_
 rw[List.getD_eq_getElem?_getD]
 unfold tab
 by_cases h:x<N
 ·simp[h,mM]
 ·simp[h]
abbrev u8(x:Int):Value:= .int .u8 x
def mkH(h:Int×Int):Int×Int:=(h.2%9,h.1%(h.2%9+1))
def iT(c:Cfg):List (Int×Int)→Dev→List Int→Out (List Int)
 | [],s,acc=> .ok acc s
 | h::t,s,acc=>(db gV c (mkH h).1 (mkH h).2 s ()).then fun x s'=>iT c t s' (if x.1.2=0 then acc++[x.1.1] else acc)
theorem Bq(B:World)(H:List HP)(h:Int×Int)(h0:0≤h.1∧h.1<256)(h1:0≤h.2∧h.2<256):
 ∀ w,Holds B H w→Calls Tryz.prog 190 [.agg #[u8 h.1,u8 h.2]].toArray w (bB B H (.agg #[i64 (mkH h).1,i64 (mkH h).2])):=by
 refine au func190 aa ntmps190 aa (ac (ab (aC aa (bx aa) .free aa aa ?_)))
 rintro _ _ ⟨b1,rfl,rfl⟩
 refine aC aa (aN zeroValue38 aa) .free aa aa ?_
 rintro _ _ ⟨b2,rfl,rfl⟩
 refine ad (ac (ab (kPv (aj (m:=_) BH aa aa) aa (kPv (ae isAgg5 aa aa) aa (kPv (im (c:=h.2%9) aa aa (by decide) (nn 9 (by omega))) aa (kPv (bP runUnderlying5 runUnderlying3 aa) aa (kPa aa aa (ad (ac (ab (kPm aa aa ?_)))))))))))
 refine kPv (aj (m:=_) BI aa aa) aa (kPv (ae isAgg5 aa aa) aa (kPv (bP runUnderlying5 runUnderlying3 aa) aa (kPm aa aa (kPv (aS aa aa) aa (kPv (im (c:=h.1%(h.2%9+1)) aa aa (by omega) (nn _ (by omega))) aa (kPv (aZ aa (mX _ _ aa aa)) aa (aD aa (aI (vs:=_) sizeOf38 aa aa aa aa aa) .free aa ?_)))))))
 rintro _ _ rfl
 refine ad (ao [2] rfl (az ?_))
 exact sQ results190 (.cellA aa isAgg38 sizeOf38 aa aa) (fun w hw=>⟨rfl,hw.tail.tail⟩)
theorem tB(B:World)(Fr:List HP)(x0 x1 x2:Int)(hx:0≤x0∧0≤x1∧0≤x2)(c:Cfg)(hcm:c=mkC x0 x1 x2)(hs:List (Int×Int))(hhs:∀ h∈hs,(0≤h.1∧h.1<256)∧(0≤h.2∧h.2<256))(hlen:hs.length≤100000)(q:Option Addr)(cap:Nat)(hv:SlN B Fr (.slice q hs.length cap) 2 (hs.map fun h=>[u8 h.1,u8 h.2])):
 ∀ w_,Holds B Fr w_→Calls Tryz.prog 181 [.agg #[u16 x0,u16 x1,u16 x2],.slice q hs.length cap].toArray w_ (Ret B (fun rv H'=>∃ (bd pa N:Nat) (s0 s':Dev) (out:List Int) (ov sv:Value),Fmt c N s0∧(N:Int)=c.words∧(U64 s0∧(jW pa [] N).format c= .ok 0 s0)∧iT c hs s0 []= .ok out s'∧U64 s'∧s'.pow.lim<0∧s'.n=N∧aV ov=true∧aV sv=true∧rv= .tuple #[ptr bd,eO c,mW (s'.block c).1 sv,ov]∧H'=dy 0 (sv,(s'.block c).1.rts)::aG bd s'::eP 3 i64 0 (ov,out)::Fr) (fun _ _=>False)):=by
 refine au func181 aa ntmps181 aa ?_
 have hc:bC c:=by rw[hcm];exact vq hx.1 hx.2.1 hx.2.2
 refine ac (ab (aC aa (bx aa) .free aa aa ?_))
 rintro _ _ ⟨b2,rfl,rfl⟩
 refine kPa aa aa (aC aa (aN zeroValue40 aa) .free aa aa ?_)
 rintro _ _ ⟨b5,rfl,rfl⟩
 refine aC aa (aN zeroValue95 aa) .free aa aa ?_
 rintro _ _ ⟨b6,rfl,rfl⟩
 refine kPa aa aa (ad (ac (ab (kPv (am isAgg24 sizeOf24 aa aa) aa ?_))))
 refine aE aa (aA call48 aa) (A7 _ _ x0 x1 x2 c hcm hx.1 hx.2.1 hx.2.2) .free aa aa ?_
 refine aC aa (aN zeroValue40 aa) .free aa aa ?_
 rintro _ _ ⟨b8,rfl,rfl⟩
 refine aD aa (aI (vs:=_) sizeOf40 aa aa aa aa aa) .free aa ?_
 rintro _ _ rfl
 refine ad (ac (ab (kPv (am isAgg40 sizeOf40 aa aa) aa ?_)))
 refine aQ aa (aA call49 aa) (eJ _ _ c hc none 0 [] (by decide) (fun _ h=>absurd h (Nat.not_lt_zero _)) SlR.nil) .free aa aa ?_
 rintro _ _ ⟨bd,pa,N,s0,hN,hf,rfl,rfl⟩
 have hfm:=rB hc hN hf
 have hu0:=jr (lZ pa N) hc hf
 refine kPm aa aa (kPv (aB aa aa) aa (kPv (aB aa aa) aa (kPa aa aa (kPa aa aa (ad (ao [10,9,8,7,6,5,4,1] rfl (ac (ac (ab (kPm aa aa (kPv (bF aa) aa ?_)))))))))))
 refine ad (cf aa (rfl) (ay (ac (ab (kPa aa aa (ad (ac (ac (ab (kPm aa aa (kPv (bY aa runUnderlying210 ⟨_,rfl⟩ rfl) aa ?_)))))))))))
 refine kPm aa aa (ad (aO (dY (ι:=Nat×Dev×Value×List Int) (fun i=>i.1≤hs.length∧U64 i.2.1∧i.2.1.pow.lim<0∧i.2.1.n=N∧aV i.2.2.1=true∧i.2.2.2.length≤i.1∧iT c hs s0 []=iT c (hs.drop i.1) i.2.1 i.2.2.2) (fun i=>[(4,.pointer none),(5,ptr b5),(6,ptr b6),(7,.slice none 0 0),(8,ptr b8),(9,ptr bd),(11,i.2.2.1),(29,.slice q hs.length cap),(30,i64 hs.length),(31,i64 i.1)]) (fun i=>aG bd i.2.1::eP 3 i64 0 (i.2.2.1,i.2.2.2)::row b8 [i64 c.log,i64 c.roots,i64 c.space] 40::row b6 [i64 0,i64 0,.slice none 0 0] 95::row b5 [i64 0,i64 0,i64 0] 40::row b2 [u16 x0,u16 x1,u16 x2] 24::Fr) (fun i=>hs.length - i.1) (0,s0,.slice none 0 0,[]) ⟨Nat.zero_le _,hu0,hfm.lim,hfm.n,rfl,Nat.le_refl _,rfl⟩ (fun a w st=>st.to ⟨rfl,rfl,rfl,rfl,rfl,rfl,rfl,rfl,rfl,rfl,trivial⟩ (fun hh=>(kG hh).front 1 aa)) ?_)))
 rintro⟨k,sL,ov,out⟩ ⟨hk1,huL,hlL,hnL,hov,hol,hinv⟩
 simp only at hk1 huL hlL hnL hov hol hinv ⊢
 refine ac (ab (kPv (an aa aa aa) aa (ad (ac ?_))))
 refine aW aa (fun h32=> ?_) (fun h32=> ?_)
 ·have hk:k<hs.length:=by simpa using h32
  have hst:iT c (hs.drop k) sL out=(db gV c (mkH hs[k]).1 (mkH hs[k]).2 sL ()).then fun x s'=>iT c (hs.drop (k+1)) s' (if x.1.2=0 then out++[x.1.1] else out):=by
   rw[List.drop_eq_getElem_cons hk]
   rfl
  refine ay (ac (aO (ac (ab (Ew ((((((hv.cons _).cons _).cons _).cons _).cons _).cons _) (by simp;omega) fun bV oV hq=> ?_)))))
  subst hq
  refine kPv (tE (m:=oV+k*2) runUnderlying210 sizeOf209 aa aa (by omega) (by omega) (by omega)) aa ?_
  refine kPv (rL (i:=k) (c:=[u8 hs[k].1,u8 hs[k].2]) isAgg209 sizeOf209 ((((((hv.cons _).cons _).cons _).cons _).cons _).cons _) aa (by simp[List.getElem?_eq_getElem hk])) aa ?_
  refine aC aa (aN zeroValue209 aa) .free aa aa ?_
  rintro _ _ ⟨b13,rfl,rfl⟩
  refine aD aa (aI (vs:=_) sizeOf209 aa aa aa aa aa) .free aa ?_
  rintro _ _ rfl
  refine ad (ao [13,31,30,29,11,9,8,7,6,5,4] rfl (ac (yI [6] Tryz.mixed (by kernel_rfl) (by kernel_rfl) ?_)))
  refine DH (kQm aa aa (kQv (am isAgg40 sizeOf40 aa aa) aa ?_))
  refine kQv (am isAgg209 sizeOf209 aa aa) aa ?_
  refine bH aa (aA call190 aa) (Bq _ _ (hs[k]) (hhs _ (List.getElem_mem hk)).1 (hhs _ (List.getElem_mem hk)).2) .free aa ?_
  refine kQm aa aa (kQv (dm aa aa) aa (bR (dV aG bd (aQ aa (aA call55 aa) (oY _ _ bd c hc _ _ sL hlL huL) .free aa aa ?_))))
  rintro _ _ ⟨x1,s1,hm1,rfl,hl1,hn1,hu1,rfl⟩
  refine ad (DJ (kQm aa aa (kQv (aB aa aa) aa (kQv (aB aa aa) aa (kQa aa aa (kQa aa aa (bR (ao [15,14,31,30,29,11,9,8,7,6,5,4] rfl (ac (ab (kPm aa aa ?_)))))))))))
  refine kPv (an aa aa aa) aa (ad ?_)
  refine aW aa (fun h46=> ?_) (fun h46=> ?_)
  ·have hk2:x1.2=0:=by simpa using h46
   refine ab (kPm aa aa (kPm aa aa (aC aa (iQ runUnderlying125 sizeOf3 zeroValue3 aa aa aa) .free aa aa ?_)))
   rintro _ _ ⟨b49,rfl,rfl⟩
   refine dT 3 aa ?_
   simp only[List.eraseIdx_cons_succ,List.eraseIdx_cons_zero]
   refine aC aa (iw aa aa runUnderlying125 runUnderlying125 ⟨_,rfl⟩ sizeOf3 zeroValue3 aa (fun _=>rfl) Au aa aa (by omega)) .free aa aa ?_
   rintro ov2 _ ⟨hov2,rfl⟩
   refine kPa aa aa (ad (ao [11,31,30,29,9,8,7,6,5,4] rfl (ab (kPv (aS aa aa) aa (kPm aa aa (ad ?_))))))
   exact fun a w st=>⟨(k+1,s1,ov2,out++[x1.1]),⟨by simp only;omega,hu1,hl1,hn1.trans hnL,hov2,by simp;omega,by rw[hinv,hst,hm1,aX,if_pos hk2]⟩,by simp only;omega,st.to ⟨rfl,rfl,rfl,rfl,rfl,rfl,rfl,rfl,rfl,rfl,trivial⟩ (fun hh=>(((hh.front 2 aa).tail.front 0 aa).front 1 aa))⟩
  ·have hk2:¬ x1.2=0:=by simpa using h46
   refine ay (ab (kPv (aS aa aa) aa (kPm aa aa (ad ?_))))
   exact fun a w st=>⟨(k+1,s1,ov,out),⟨by simp only;omega,hu1,hl1,hn1.trans hnL,hov,by simp only;omega,by rw[hinv,hst,hm1,aX,if_neg hk2]⟩,by simp only;omega,st.to ⟨rfl,rfl,rfl,rfl,rfl,rfl,rfl,rfl,rfl,rfl,trivial⟩ (fun hh=>(((hh.front 1 aa).tail.front 1 aa).front 1 aa))⟩
 ·have hk:¬ k<hs.length:=by simpa using h32
  refine bT (ac (ab (kPm aa aa (kPv (am isAgg40 sizeOf40 aa aa) aa ?_))))
  refine dV aG bd (aQ aa (aA call111 aa) (gL _ _ _ _ c hc huL) .free aa aa ?_)
  rintro _ _ ⟨sv,hsv,rfl,rfl⟩
  refine kPm aa aa (kPv (aB aa aa) aa (kPv (aB aa aa) aa (aC aa (aN zeroValue95 aa) .free aa aa ?_)))
  rintro _ _ ⟨b16,rfl,rfl⟩
  refine aD aa (aI (vs:=[i64 (sL.block c).1.act,i64 (sL.block c).1.used,sv]) sizeOf95 aa aa aa (gK hsv) aa) .free aa ?_
  rintro _ _ rfl
  refine aK (H':=row b16 [i64 (sL.block c).1.act,i64 (sL.block c).1.used,sv] 95::_) (fun w hh=>hh) (kPa aa aa (ad (ao [16,11,9,8,7,6,5,4] rfl (ac (cM [0,1,2,3,4,5,6,7] [5,6] [2,3] [5,6] [row b16 [i64 (sL.block c).1.act,i64 (sL.block c).1.used,sv] 95] Tryz.mixed (by kernel_rfl) ?_)))))
  refine aT aa aa aa (ap aa) .free aa (aT aa aa aa (am isAgg40 sizeOf40 aa aa) .free aa ?_)
  refine al aa aa aa (am isAgg95 sizeOf95 aa aa) .free aa ?_
  refine al aa aa aa (ap aa) .free aa (aT aa aa aa (bK aa) .free aa (aU aa aa (aD aa (aI (vs:=_) sizeOf40 aa aa aa aa aa) .free aa ?_)))
  rintro _ _ rfl
  refine ad (cN (aU aa aa (aD aa (aI (vs:=[i64 (sL.block c).1.act,i64 (sL.block c).1.used,sv]) sizeOf95 aa aa aa (gK hsv) aa) .free aa ?_)))
  rintro _ _ rfl
  refine ad (cN (aT aa aa aa (bK aa) .free aa (cJ (ao [7,4,6,5] rfl (az ?_)))))
  exact AG results181 (.tmp aa) (.cellA aa isAgg40 sizeOf40 aa aa) (.cellA aa isAgg95 sizeOf95 aa aa) (.tmp aa) (fun w hh=>⟨_,⟨bd,pa,N,s0,sL,out,ov,sv,hfm,hN,⟨hu0,hf⟩,by rw[hinv,List.drop_eq_nil_of_le (by omega)];rfl,huL,hlL,hnL,hov,hsv,rfl,rfl⟩,((((((((hh.front 7 aa).front 7 aa).front 7 aa).front 7 aa).front 4 aa).tail.tail.tail.tail.tail.front 2 aa).front 2 aa).front 2 aa)⟩)
theorem tD{ε:Type}{op:Int→Int→Dev→ε→Out (Int×ε)}{a h:Int}:∀ (f:Nat) (i:Int) (s s':Dev) (e e':ε) (x:Int×Int),f9 op a h f i s e= .ok (x,e') s'→x.2=0→x.1=a
 | 0,_,s,s',e,e',x,hm,hx=>by cases hm;rfl
 | f+1,i,s,s',e,e',x,hm,hx=>by
   unfold f9 at hm
   obtain⟨y,s1,e1,hm⟩:=aM hm
   split at hm
   ·cases hm;rename_i hne;exact absurd hx hne
   ·exact tD f _ s1 s' _ e' x hm hx
theorem xU{ε:Type}{op:Int→Int→Dev→ε→Out (Int×ε)}{c:Cfg}{w r:Int}{s s':Dev}{e e':ε}{x:Int×Int}(hm:db op c w r s e= .ok (x,e') s')(hx:x.2=0):x.1=(s.block c).1.place c (s.block c).1.used:=by
 unfold db at hm
 split at hm
 ·rename_i h;cases hm;exact absurd hx h
 split at hm
 ·rename_i h;cases hm;exact absurd hx h
 split at hm
 ·cases hm;exact absurd hx (by decide)
 obtain⟨y,s1,e1,hm⟩:=aM hm
 split at hm
 ·rename_i h;cases hm;exact absurd hx h
 ·exact tD _ _ _ _ _ _ _ hm hx
theorem pv{ε:Type}{op:Int→Int→Dev→ε→Out (Int×ε)}{ok:Dev→ε→Prop}(K:∀ i v s e a e' s',ok s e→0≤v∧v<18446744073709551616→op i v s e= .ok (a,e') s'→ok s' e'){a h:Int}(hh:0≤h∧h<18446744073709551616):∀ (f:Nat) (i:Int) (s s':Dev) (e e':ε) (x:Int×Int),ok s e→f9 op a h f i s e= .ok (x,e') s'→ok s' e'
 | 0,_,s,s',e,e',x,h0,hm=>by cases hm;exact h0
 | f+1,i,s,s',e,e',x,h0,hm=>by
   unfold f9 at hm
   obtain⟨⟨y,e1⟩,s1,h1,hm⟩:=aM hm
   have h2:=K _ _ _ _ _ _ _ h0 (by split<;>first | exact hh | decide) h1
   split at hm
   ·cases hm;exact h2
   ·exact pv K hh f _ s1 s' _ e' x h2 hm
theorem uI{ε:Type}{op:Int→Int→Dev→ε→Out (Int×ε)}{ok:Dev→ε→Prop}(K:∀ i v s e a e' s',ok s e→0≤v∧v<18446744073709551616→op i v s e= .ok (a,e') s'→ok s' e'){c:Cfg}(hc:bC c){w r:Int}{s s':Dev}{e e':ε}{x:Int×Int}(hb:fg c (s.block c).1)(h0:ok s e)(hm:db op c w r s e= .ok (x,e') s'):ok s' e':=by
 have h1:=hb.used
 have h2:=hc.s2
 unfold db at hm
 split at hm
 ·cases hm;exact h0
 rename_i hk
 have hw:=xB (w:=w) (r:=r) (by omega)
 split at hm
 ·cases hm;exact h0
 split at hm
 ·cases hm;exact h0
 obtain⟨⟨y,e1⟩,s1,h3,hm⟩:=aM hm
 have h4:=K _ _ _ _ _ _ _ h0 ⟨by omega,by omega⟩ h3
 split at hm
 ·cases hm;exact h4
 ·exact pv K (ua w r) _ _ _ _ _ _ _ h4 hm
theorem vZ:∀ (i v:Int) (s:Dev) (e:Unit) (a:Int) (e':Unit) (s':Dev),U64 s→0≤v∧v<18446744073709551616→gV i v s e= .ok (a,e') s'→U64 s':=fun i v s e a e' s' h hv hm=>by
 obtain⟨_,s1,h1,hm⟩:=aM hm
 cases hm;exact(cQ h hv h1).1
theorem yi{c:Cfg}(hc:bC c){b:Blk}(hb:fg c b){i:Int}(hi:0≤i∧i≤c.space):0≤b.place c i∧b.place c i≤20000:=by
 have h1:=gE hc (k:=b.act) (by have:=hb.act;omega)
 have h2:=hb.act
 unfold Blk.place
 rcases (by omega:b.act=0∨b.act=1) with e | e<;>(rw[e] at h1 ⊢;omega)
theorem yO{c:Cfg}(hc:bC c):∀ (hs:List (Int×Int)) (s s':Dev) (acc out:List Int),U64 s→iT c hs s acc= .ok out s'→(∀ a∈acc,0≤a∧a≤20000)→∀ a∈out,0≤a∧a≤20000
 | [],s,s',acc,out,_,hm,h=>by cases hm;exact h
 | t::hs,s,s',acc,out,hu,hm,h=>by
   unfold iT at hm
   obtain⟨⟨x,e'⟩,s1,e1,hm⟩:=aM hm
   have hb:=dM (s:=s) hc hu
   refine yO hc hs s1 s' _ out (uI (ok:=fun s _=>U64 s) vZ hc hb hu e1) hm fun a ha=> ?_
   split at ha
   ·rename_i hx
    rcases List.mem_append.1 ha with ha | ha
    ·exact h a ha
    ·rw[List.mem_singleton.1 ha,xU e1 hx]
     exact yi hc hb hb.used
   ·exact h a ha
theorem iX{s:Dev}{c:Cfg}(hc:bC c){b:Blk}(hb:fg c b){a:Int}(h:(s.objOf c b a).2=0):mu (s.objOf c b a).1:=by
 unfold Dev.objOf at h ⊢
 split at h
 ·cases h
 split at h
 ·cases h
 rename_i h1 h2
 rw[if_neg h1,if_neg h2]
 have h3:=sE (s.load a)
 have h4:=jX hc hb (w:=a) (by cases hh:b.has c a with
  | true=>rfl
  | false=>exact absurd (.inr hh) h1)
 exact⟨⟨h3.1,h3.2.1⟩,⟨h3.2.2.1,h3.2.2.2⟩,⟨by simp only;omega,by simp only;omega⟩⟩
theorem vM{o:du}{i v:Int}{r:Bool}{s:Dev}(h1:s.pow.lim<0):o5 (iC gV o i r v s ()) (fun _=>True) s.n:=by
 unfold iC
 split
 ·exact⟨_,_,rfl,trivial,h1,rfl⟩
 ·exact uj h1
theorem wY(B:World)(Fr:List HP)(bd:Nat)(o:du)(ho:mu o)(i v:Int)(hv:0≤v∧v≤9223372036854775807)(s:Dev)(hl:s.pow.lim<0)(hu:U64 s):
 ∀ w_,Holds B (aG bd s::Fr) w_→Calls Tryz.prog 77 [iF o,i64 i,i64 v,.func (.func 120) [ptr bd].toArray #[]].toArray w_ (Ret B (fun rv H'=>∃ x s',iC gV o i true v s ()= .ok (x,()) s'∧rv=i64 x∧s'.pow.lim<0∧s'.n=s.n∧U64 s'∧H'=aG bd s'::Fr) (fun _ _=>False)):=fun w_ hh=>by
 obtain⟨y,s2,hg,_,hg2,hg3⟩:=vM (o:=o) (i:=i) (v:=v) (r:=true) hl
 refine(sT B Fr _ [ptr bd] bd 0 Unit (fun _ _=>pr True) gV _ (wH B bd 0) o ho i v hv s () hu w_ ((hh.unpr (p:=True) trivial).back 1 (by simp))).mono fun en w' h=> ?_
 cases en with
 | returned rv=>
   obtain⟨H,⟨x,e',s',hm,rfl,hok,rfl⟩,hh⟩:=h
   obtain⟨rfl,rfl⟩:y=(x,e')∧s2=s':=by rw[hg] at hm;cases hm;exact⟨rfl,rfl⟩
   exact⟨_,⟨x,s2,hm,rfl,hg2,hg3,hok,rfl⟩,(hh.front 1 aa).tail⟩
 | panicked c=>
   obtain⟨H,⟨s',hm,_⟩,_⟩:=h
   rw[hg] at hm;cases hm
 | outgrown=>exact h
theorem tC{c:Cfg}:∀ {hs:List (Int×Int)} {s s':Dev} {acc out:List Int},iT c hs s acc= .ok out s'→out.length≤acc.length+hs.length
 | [],s,s',acc,out,hm=>by cases hm;exact Nat.le_add_right _ _
 | t::hs,s,s',acc,out,hm=>by
   unfold iT at hm
   obtain⟨⟨x,e'⟩,s1,e1,hm⟩:=aM hm
   have:=tC hm
   split at this
   ·simp at this ⊢;omega
   ·simp at this ⊢;omega
theorem qR(B:World)(Fr:List HP)(b:Nat)(s:Dev)(i v:Int)(hl:s.pow.lim<0)(hu:U64 s)(hv:0≤v∧v<18446744073709551616):
 ∀ w,Holds B (aG b s::Fr) w→Calls Tryz.prog 120 [ptr b,i64 i,w64 v].toArray w (Ret B (fun rv H'=>∃ x s',s.store i v= .ok x s'∧rv=i64 x∧s'.pow.lim<0∧s'.n=s.n∧U64 s'∧H'=aG b s'::Fr) (fun _ _=>False)):=fun w hh=>by
 obtain⟨y,s2,hg,_,hg2,hg3⟩:=gn (i:=i) (v:=v) hl
 refine(cZ B Fr b s i v w hh).mono fun en w' h=> ?_
 cases en with
 | returned rv=>
   obtain⟨H,⟨s',⟨a,hm,rfl⟩,rfl⟩,hh⟩:=h
   obtain⟨rfl,rfl⟩:y=a∧s2=s':=by rw[hg] at hm;cases hm;exact⟨rfl,rfl⟩
   exact⟨_,⟨y,s2,hg,rfl,hg2,hg3,(cQ hu hv hg).1,rfl⟩,hh⟩
 | panicked c=>
   obtain⟨H,⟨s',⟨hm,_⟩,_⟩,_⟩:=h
   rw[hg] at hm;cases hm
 | outgrown=>exact h
theorem cP{B:World}{n:Nat}{D:List Deferred}{σ:Env}{Fr:List HP}{K:Act→World→Prop}{T:TypeId}{enc:Int→Value}{sv:Value}{xs:List Int}(h:∀ q cap,sv= .slice q xs.length cap→(∀ i,i<xs.length→∃ b off,q=some ⟨b,off,none⟩)→GO B n D σ (eP T enc 0 (sv,xs)::Fr) K):GO B n D σ (eP T enc 0 (sv,xs)::Fr) K:=fun a w st=>by
 rcases ij st.holds with ⟨e1,e2,_⟩ | ⟨bd,pre,rest,k,_,e,_⟩
 ·exact h none 0 (by rw[e2,e1];rfl) (fun i hi=>by rw[e1] at hi;exact absurd hi (Nat.not_lt_zero _)) a w st
 ·exact h _ _ e (fun _ _=>⟨_,_,rfl⟩) a w st
def dQ(l out:List Int)(sp:Int)(k:Nat):Int:=
 if l.length≤k∨out.length=0∨l.getD k 0%5=0 then 0
 else if 0<sp∧l.getD k 0%sp=1 then out.getD (l.getD k 0%out.length).toNat 0+1 else out.getD (l.getD k 0%out.length).toNat 0
theorem t8{l out:List Int}{sp:Int}{k:Nat}(hob:∀ x∈out,0≤x∧x≤20000):0≤dQ l out sp k∧dQ l out sp k≤20001:=by
 have h:∀ j,0≤out.getD j 0∧out.getD j 0≤20000:=fun j=>by
  rw[List.getD_eq_getElem?_getD]
  by_cases hj:j<out.length
  ·rw[List.getElem?_eq_getElem hj];exact hob _ (List.getElem_mem hj)
  ·rw[List.getElem?_eq_none (by omega)];decide
 unfold dQ
 split
 ·decide
 ·have h1:=h (l.getD k 0%(out.length:Int)).toNat
  split<;>omega
def lP(f:Nat→Int)(o:du):Nat→Nat→Int→Dev→Out Nat
 | 0,n,_,s=> .ok n s
 | k+1,n,i,s=>(iC gV o i true (f n) s ()).then fun _ s'=>lP f o k (n+1) (i+1) s'
def fz(c:Cfg)(b:Blk)(f:Nat→Int):List Int→Nat→Dev→Out (Option Nat)
 | [],n,s=> .ok (some n) s
 | a::t,n,s=>if (s.objOf c b a).2≠0 then .ok none s else (lP f (s.objOf c b a).1 (s.objOf c b a).1.2.1.toNat n 0 s).then fun n' s'=>fz c b f t n' s'
theorem mz(c:Cfg)(b:Blk)(f:Nat→Int)(a:Int)(t:List Int)(n:Nat)(s:Dev):fz c b f (a::t) n s=if (s.objOf c b a).2≠0 then .ok none s else (lP f (s.objOf c b a).1 (s.objOf c b a).1.2.1.toNat n 0 s).then fun n' s'=>fz c b f t n' s':=rfl
def gC(c:Cfg)(f:Nat→Int):Nat→Nat→Int→Dev→Out Nat
 | 0,n,_,s=> .ok n s
 | k+1,n,i,s=>(s.store (c.root i) (f n)).then fun _ s'=>gC c f k (n+1) (i+1) s'
theorem vB(B:World)(Fr:List HP)(b0 b1 b2 b3:Nat)(n:Nat)(ql qo:Option Addr)(cl co:Nat)(l out:List Int)(sp:Int)(hn:n≤1000000000)(hl:SlR B Fr (.slice ql l.length cl) (l.map u16))(ho:SlR B Fr (.slice qo out.length co) (out.map i64))(hlb:∀ x∈l,0≤x∧x<65536)(hob:∀ x∈out,0≤x∧x≤20000)(hlen:l.length≤1000000∧out.length≤1000000)(hsp:0≤sp∧sp<256)(hql:∀ i,i<l.length→∃ b off,ql=some ⟨b,off,none⟩)(hqo:∀ i,i<out.length→∃ b off,qo=some ⟨b,off,none⟩):
 ∀ w,Holds B (row b0 [i64 n] 3::row b1 [.slice ql l.length cl] 229::row b2 [.slice qo out.length co] 125::row b3 [u8 sp] 5::Fr) w→Calls Tryz.prog 182 [ptr b0,ptr b1,ptr b2,ptr b3].toArray w (Ret B (fun rv H'=>rv=w64 (dQ l out sp n)∧H'=row b0 [i64 (n+1:Nat)] 3::row b1 [.slice ql l.length cl] 229::row b2 [.slice qo out.length co] 125::row b3 [u8 sp] 5::Fr) (fun _ _=>False)):=by
 refine au func182 aa ntmps182 aa (ac (ab (kPa aa aa (ad (ac (ac (ab (kPv (ae isAgg3 aa aa) aa (kPv (aS aa aa) aa (aD aa (aR sizeOf3 aa aa aa aa) .free aa ?_))))))))))
 rintro _ _ rfl
 refine ad (ac (ab (kPv (ae isAgg3 aa aa) aa (kPv (ae isAgg229 aa aa) aa (kPv (bY aa runUnderlying229 ⟨_,rfl⟩ rfl) aa (kPv (an aa aa aa) aa (kPm aa aa ?_)))))))
 apply gl (tp:=16) (t:=12) (σ1:=[(12,_),(4,_),(0,_),(1,_),(2,_),(3,_)]) 4 rfl (aF rfl)
 ·intro hg1
  refine aq aa (ae isAgg125 aa aa) (.on aa aa (ah hg1)) aa aa (aq aa (bY aa runUnderlying125 ⟨_,rfl⟩ rfl) (.on aa aa (ah hg1)) aa aa (aq aa (an aa aa aa) (.on aa aa (ah hg1)) aa aa (kPv (aL aa hg1 aa) aa ?_)))
  exact ba aa (aF aa) (eZ hg1)
 ·intro hg1
  refine ar aa (.on aa aa (ai hg1)) aa (ar aa (.on aa aa (ai hg1)) aa (ar aa (.on aa aa (ai hg1)) aa (kPv (aH aa hg1 aa) aa ?_)))
  exact ba aa (aF aa) (eY hg1)
 refine kPm aa aa ?_
 apply gl (tp:=25) (t:=17) (σ1:=[(17,_),(4,_),(0,_),(1,_),(2,_),(3,_)]) 8 rfl (aF rfl)
 ·intro hg2
  refine aq aa (ae isAgg229 aa aa) (.on aa aa (ah hg2)) aa aa (aq aa (ae isAgg3 aa aa) (.on aa aa (ah hg2)) aa aa (aq aa (cU aa aa) (.on aa aa (ah hg2)) aa aa ?_))
  have hnl:n<l.length:=by simp at hg2;omega
  obtain⟨bL,oL,rfl⟩:=hql n hnl
  have hn1:((n:Int)+1 - 1).toNat=n:=by omega
  have hlx:=hlb (l.getD n 0) (by rw[List.getD_eq_getElem?_getD,List.getElem?_eq_getElem hnl];exact List.getElem_mem hnl)
  refine aq aa (bZ runUnderlying229 sizeOf22 aa aa (by omega) (by omega)) (.on aa aa (ah hg2)) aa aa (aq aa (bX (v:=u16 (l.getD n 0)) isAgg22 ((((hl.cons _).cons _).cons _).cons _) aa (by rw[hn1];simp[hnl])) (.on aa aa (ah hg2)) aa aa (aq aa (im (c:=l.getD n 0%5) aa aa (by decide) (nn 5 (by omega))) (.on aa aa (ah hg2)) aa aa (aq aa (an aa aa aa) (.on aa aa (ah hg2)) aa aa (kPv (aL aa hg2 aa) aa ?_))))
  exact ba aa (aF aa) (eZ hg2)
 ·intro hg2
  refine ar aa (.on aa aa (ai hg2)) aa (ar aa (.on aa aa (ai hg2)) aa (ar aa (.on aa aa (ai hg2)) aa (ar aa (.on aa aa (ai hg2)) aa (ar aa (.on aa aa (ai hg2)) aa (ar aa (.on aa aa (ai hg2)) aa (ar aa (.on aa aa (ai hg2)) aa (kPv (aH aa hg2 aa) aa ?_)))))))
  exact ba aa (aF aa) (eY hg2)
 refine ad ?_
 refine aW aa (fun h25=> ?_) (fun h25=> ?_)
 ·have hres:dQ l out sp n=0:=by
   unfold dQ
   rw[if_pos (by simp[-List.length_eq_zero_iff] at h25 ⊢;omega)]
  refine ac (ab (kPa aa aa (ad (az ?_))))
  exact ax results182 aa (fun w hw=>⟨_,⟨by rw[hres],rfl⟩,hw⟩)
 ·have hcnd:n<l.length∧out.length≠0∧l.getD n 0%5≠0:=by simp[-List.length_eq_zero_iff] at h25 ⊢;omega
  have hnl:=hcnd.1
  have hlx:=hlb (l.getD n 0) (by rw[List.getD_eq_getElem?_getD,List.getElem?_eq_getElem hnl];exact List.getElem_mem hnl)
  have hn1:((n:Int)+1 - 1).toNat=n:=by omega
  obtain⟨bL,oL,rfl⟩:=hql n hnl
  have hop:(0:Int)<out.length:=by omega
  obtain⟨j,hj0⟩:∃ j:Nat,(j:Int)=l.getD n 0%(out.length:Int):=⟨(l.getD n 0%(out.length:Int)).toNat,by rw[Int.toNat_of_nonneg (Int.emod_nonneg _ (by omega))]⟩
  have hj:j<out.length:=by have:=Int.emod_lt_of_pos (l.getD n 0) hop;omega
  have hjm:(l.getD n 0).tmod (out.length:Int)=j:=by rw[nn _ (by omega)];omega
  have hox:=hob (out.getD j 0) (by rw[List.getD_eq_getElem?_getD,List.getElem?_eq_getElem hj];exact List.getElem_mem hj)
  obtain⟨bO,oO,rfl⟩:=hqo j hj
  have hjt:(l.getD n 0%(out.length:Int)).toNat=j:=by omega
  have hcnd2:¬(l.length≤n∨out.length=0∨l.getD n 0%5=0):=by omega
  refine ay (ac (cK Tryz.mixed (by kernel_rfl) (by kernel_rfl) ?_))
  refine kQv (ae isAgg125 aa aa) aa (kQv (ae isAgg229 aa aa) aa (kQv (ae isAgg3 aa aa) aa (kQv (cU aa aa) aa (kQv (bZ runUnderlying229 sizeOf22 aa aa (by omega) (by omega)) aa (kQv (bX (v:=u16 (l.getD n 0)) isAgg22 ((((hl.cons _).cons _).cons _).cons _) aa (by rw[hn1];simp[hnl])) aa (kQv (bP runUnderlying22 runUnderlying3 aa) aa (kQv (ae isAgg125 aa aa) aa (kQv (bY aa runUnderlying125 ⟨_,rfl⟩ rfl) aa (kQv (im (c:=(j:Int)) aa aa (by omega) hjm) aa (kQv (bZ runUnderlying125 sizeOf3 aa aa (by omega) (by omega)) aa (kQv (bX (v:=i64 (out.getD j 0)) isAgg3 ((((ho.cons _).cons _).cons _).cons _) aa (by simp[hj])) aa ?_)))))))))))
  refine kQa aa aa (bR (ao [5,4,0,1,3] rfl (ac (ac (cK Tryz.mixed (by kernel_rfl) (by kernel_rfl) ?_)))))
  refine kQv (ae isAgg5 aa aa) aa (kQv (an aa aa aa) aa (kQm aa aa ?_))
  apply np (tp:=50) (t:=40) (σ1:=[(40,_),(5,_),(4,_)]) 10 rfl (aF rfl)
  ·intro hg3
   refine bA aa (ae isAgg229 aa aa) (.on aa aa (ah hg3)) aa (bA aa (ae isAgg3 aa aa) (.on aa aa (ah hg3)) aa (bA aa (cU aa aa) (.on aa aa (ah hg3)) aa (bA aa (bZ runUnderlying229 sizeOf22 aa aa (by omega) (by omega)) (.on aa aa (ah hg3)) aa (bA aa (bX (v:=u16 (l.getD n 0)) isAgg22 ((((hl.cons _).cons _).cons _).cons _) aa (by rw[hn1];simp[hnl])) (.on aa aa (ah hg3)) aa (bA aa (ae isAgg5 aa aa) (.on aa aa (ah hg3)) aa (bA aa (dh runUnderlying5 runUnderlying22 aa (show IntKind.u16.wrap sp=sp by simp[IntKind.wrap,IntKind.bits,IntKind.signed];omega)) (.on aa aa (ah hg3)) aa ?_))))))
   have hsp0:0<sp:=by simpa using hg3
   refine bA aa (im (c:=l.getD n 0%sp) aa aa (by omega) (nn _ (by omega))) (.on aa aa (ah hg3)) aa (bA aa (an aa aa aa) (.on aa aa (ah hg3)) aa (kQv (aH aa hg3 aa) aa ?_))
   exact eu aa (aF aa) (cV hg3)
  ·intro hg3
   refine bf aa (.on aa aa (ai hg3)) aa (bf aa (.on aa aa (ai hg3)) aa (bf aa (.on aa aa (ai hg3)) aa (bf aa (.on aa aa (ai hg3)) aa (bf aa (.on aa aa (ai hg3)) aa (bf aa (.on aa aa (ai hg3)) aa (bf aa (.on aa aa (ai hg3)) aa (bf aa (.on aa aa (ai hg3)) aa (bf aa (.on aa aa (ai hg3)) aa (kQv (aL aa hg3 aa) aa ?_)))))))))
   exact eu aa (aF aa) (cW hg3)
  refine bR ?_
  refine aW aa (fun h50=> ?_) (fun h50=> ?_)
  ·have hk:0<sp∧l.getD n 0%sp=1:=by simpa using h50
   have hres:dQ l out sp n=out.getD j 0+1:=by unfold dQ;rw[if_neg hcnd2,if_pos hk,hjt]
   refine ab (kPm aa aa (kPv (aS aa aa) aa (kPa aa aa (ad (ac (ab (kPm aa aa (kPv (dh runUnderlying3 runUnderlying26 aa (fW (by omega))) aa (kPa aa aa (ad (ao [4] rfl ?_)))))))))))
   refine az ?_
   exact ax results182 aa (fun w hw=>⟨_,⟨by rw[hres],rfl⟩,hw⟩)
  ·have hk:¬ (0<sp∧l.getD n 0%sp=1):=by simpa using h50
   have hres:dQ l out sp n=out.getD j 0:=by unfold dQ;rw[if_neg hcnd2,if_neg hk,hjt]
   refine ay (ac (ab (kPm aa aa (kPv (dh runUnderlying3 runUnderlying26 aa (fW (by omega))) aa (kPa aa aa (ad (az ?_)))))))
   exact ax results182 aa (fun w hw=>⟨_,⟨by rw[hres],rfl⟩,hw⟩)
theorem mf(B:World)(Fr:List HP)(x0 x1 x2:Int)(hx:0≤x0∧0≤x1∧0≤x2)(c:Cfg)(hcm:c=mkC x0 x1 x2)(hs:List (Int×Int))(hhs:∀ h∈hs,(0≤h.1∧h.1<256)∧(0≤h.2∧h.2<256))(hlen:hs.length≤100000)(q:Option Addr)(cap:Nat)(hv:SlN B Fr (.slice q hs.length cap) 2 (hs.map fun h=>[u8 h.1,u8 h.2]))(ql:Option Addr)(cl:Nat)(l:List Int)(hl:SlR B Fr (.slice ql l.length cl) (l.map u16))(hlb:∀ x∈l,0≤x∧x<65536)(hll:l.length≤1000000)(hql:∀ i,i<l.length→∃ b off,ql=some ⟨b,off,none⟩)(sp:Int)(hsp:0≤sp∧sp<256):
 ∀ w_,Holds B Fr w_→Calls Tryz.prog 162 [.agg #[u16 x0,u16 x1,u16 x2],.slice q hs.length cap,.slice ql l.length cl,u8 sp].toArray w_ (Ret B (fun rv H'=>∃ (bd pa N:Nat) (s0 sF:Dev) (out:List Int),Fmt c N s0∧(N:Int)=c.words∧(U64 s0∧(jW pa [] N).format c= .ok 0 s0)∧iT c hs s0 []= .ok out sF∧((∃ n1 n2 s1 s2 ov sv,fz c (sF.block c).1 (dQ l out sp) out 0 sF= .ok (some n1) s1∧gC c (dQ l out sp) c.roots.toNat n1 0 s1= .ok n2 s2∧U64 s2∧s2.pow.lim<0∧s2.n=N∧aV ov=true∧aV sv=true∧rv= .tuple #[ptr bd,eO c,mW (s2.block c).1 sv,ov]∧H'=dy 0 (sv,(s2.block c).1.rts)::aG bd s2::eP 3 i64 0 (ov,out)::Fr)∨(∃ s1,fz c (sF.block c).1 (dQ l out sp) out 0 sF= .ok none s1∧H'=Fr))) (fun _ _=>False)):=by
 refine au func162 aa ntmps162 aa ?_
 have hc:bC c:=by rw[hcm];exact vq hx.1 hx.2.1 hx.2.2
 refine ac (ab (aC aa (bx aa) .free aa aa ?_))
 rintro _ _ ⟨b4,rfl,rfl⟩
 refine aC aa (dA aa aa) .free aa aa ?_
 rintro _ _ ⟨b6,rfl,rfl⟩
 refine aC aa (dA aa aa) .free aa aa ?_
 rintro _ _ ⟨b7,rfl,rfl⟩
 refine kPa aa aa (aC aa (aN zeroValue40 aa) .free aa aa ?_)
 rintro _ _ ⟨b9,rfl,rfl⟩
 refine aC aa (aN zeroValue95 aa) .free aa aa ?_
 rintro _ _ ⟨b10,rfl,rfl⟩
 refine kPa aa aa (ad (ac (ab (kPv (am isAgg24 sizeOf24 aa aa) aa ?_))))
 refine kPm aa aa (aQ aa (aA call181 aa) (tB _ _ x0 x1 x2 hx c hcm hs hhs hlen q cap ((((((hv.cons _).cons _).cons _).cons _).cons _))) .free aa aa ?_)
 rintro _ _ ⟨bd,pa,N,s0,sF,out,ov,sv,hfm,hN,⟨hus0,hf0⟩,hfill,huF,hlF,hnF,hov,hsv,rfl,rfl⟩
 refine kPm aa aa (kPv (aB aa aa) aa (kPv (aB aa aa) aa (kPv (aB aa aa) aa (kPv (aB aa aa) aa (aC aa (aN zeroValue40 aa) .free aa aa ?_)))))
 rintro _ _ ⟨b13,rfl,rfl⟩
 refine aC aa (aN zeroValue95 aa) .free aa aa ?_
 rintro _ _ ⟨b14,rfl,rfl⟩
 refine aC aa (cA zeroValue125 aa) .free aa aa ?_
 rintro _ _ ⟨b15,rfl,rfl⟩
 refine kPa aa aa (aD aa (aI (vs:=_) sizeOf40 aa aa aa aa aa) .free aa ?_)
 rintro _ _ rfl
 refine aD aa (aI (vs:=[i64 (sF.block c).1.act,i64 (sF.block c).1.used,sv]) sizeOf95 aa aa aa (gK hsv) aa) .free aa ?_
 rintro _ _ rfl
 refine aD aa (aR sizeOf125 aa aa hov aa) .free aa ?_
 rintro _ _ rfl
 refine dT 5 aa ?_
 simp only[List.eraseIdx_cons_succ,List.eraseIdx_cons_zero]
 refine cP fun qo co hqe hqo=> ?_
 subst hqe
 have hbk:=dM (s:=sF) hc huF
 have hob:∀ x∈out,0≤x∧x≤20000:=yO hc hs s0 sF [] out hus0 hfill (fun _ h=>by cases h)
 have hol:out.length≤hs.length:=by have:=tC hfill;simpa using this
 have hr1:=hc.r1
 have hr2:=hc.r2
 refine ad (ao [12,15,14,13,11,10,9,8,7,6] rfl (ac (ac (ab (kPm aa aa (kPv (dq runUnderlying28 aa aa aa) aa (ad (cf aa (rfl) (ay (ac (ab ?_)))))))))))
 refine aC aa (cA zeroValue3 aa) .free aa aa ?_
 rintro _ _ ⟨b16,rfl,rfl⟩
 refine aD aa (aR sizeOf3 aa aa aa aa) .free aa ?_
 rintro _ _ rfl
 refine ad (ac (ab (kPv (dm aa aa) aa (kPa aa aa (ad (ac (ac (ab (kPv (ae isAgg125 aa aa) aa (kPv (bY aa runUnderlying125 ⟨_,rfl⟩ rfl) aa (kPm aa aa ?_)))))))))))
 refine ad (aO (dY (ι:=Nat×Nat×Dev) (fun i=>i.1≤out.length∧i.2.1≤64*i.1∧U64 i.2.2∧i.2.2.pow.lim<0∧i.2.2.n=N∧fz c (sF.block c).1 (dQ l out sp) out 0 sF=fz c (sF.block c).1 (dQ l out sp) (out.drop i.1) i.2.1 i.2.2) (fun i=>[(8,.pointer none),(9,ptr b9),(10,ptr b10),(11,.slice none 0 0),(12,ptr bd),(13,ptr b13),(14,ptr b14),(15,ptr b15),(17,.func (.func 182) #[] #[ptr b16,ptr b6,ptr b15,ptr b7]),(37,.slice qo out.length co),(38,i64 out.length),(39,i64 i.1)]) (fun i=>row b16 [i64 (i.2.1:Nat)] 3::eP 3 i64 0 (.slice qo out.length co,out)::row b15 [.slice qo out.length co] 125::row b14 [i64 (sF.block c).1.act,i64 (sF.block c).1.used,sv] 95::row b13 [i64 c.log,i64 c.roots,i64 c.space] 40::dy 0 (sv,(sF.block c).1.rts)::aG bd i.2.2::row b10 [i64 0,i64 0,.slice none 0 0] 95::row b9 [i64 0,i64 0,i64 0] 40::row b7 [u8 sp] 5::row b6 [.slice ql l.length cl] 229::row b4 [u16 x0,u16 x1,u16 x2] 24::Fr) (fun i=>out.length - i.1) (0,0,sF) ⟨Nat.zero_le _,Nat.zero_le _,huF,hlF,hnF,rfl⟩ (fun a w st=>st.to ⟨rfl,rfl,rfl,rfl,rfl,rfl,rfl,rfl,rfl,rfl,rfl,rfl,trivial⟩ id) ?_))
 rintro⟨k,n,sL⟩ ⟨hk1,hn1,huL,hlL,hnL,hinv⟩
 simp only at hk1 hn1 huL hlL hnL hinv ⊢
 refine ac (ab (kPv (an aa aa aa) aa (ad (ac ?_))))
 refine aW aa (fun h40=> ?_) (fun h40=> ?_)
 ·have hk:k<out.length:=by simpa using h40
  have hak:=hob _ (List.getElem_mem hk)
  obtain⟨bQ,oQ,rfl⟩:=hqo k hk
  refine ay (ac (aO (ac (ab (kPv (bZ runUnderlying125 sizeOf3 aa aa (by omega) (by omega)) aa ?_)))))
  refine kPv (bX (v:=i64 out[k]) isAgg3 (de 1 aa) aa (by rw[Int.toNat_natCast,List.getElem?_map,List.getElem?_eq_getElem hk];rfl)) aa ?_
  refine kPa aa aa (ad (ao [19,39,38,37,17,12,15,14,13,11,10,9,8] rfl (ac (ab (kPm aa aa (kPv (am isAgg40 sizeOf40 aa aa) aa ?_))))))
  refine kPv (am isAgg95 sizeOf95 aa aa) aa ?_
  refine kPm aa aa (aE aa (aA call122 aa) (bU (q:=aG) (fun Fr=>lL _ Fr _ _ c hc _ _ hbk hsv out[k] (by omega))) .free aa aa ?_)
  refine kPm aa aa (kPv (aB aa aa) aa (kPv (aB aa aa) aa (aC aa (aN zeroValue105 aa) .free aa aa ?_)))
  rintro _ _ ⟨b20,rfl,rfl⟩
  refine aD aa (aI (vs:=_) sizeOf105 aa aa aa aa aa) .free aa ?_
  rintro _ _ rfl
  refine kPa aa aa (ad (ao [21,20,39,38,37,17,12,15,14,13,11,10,9,8] rfl (ac (ac (ab (kPm aa aa (kPv (an aa aa aa) aa (ad ?_))))))))
  refine aW aa (fun h52=> ?_) (fun h52=> ?_)
  ·have hk2:(sL.objOf c (sF.block c).1 out[k]).2≠0:=by simpa using h52
   refine ac (cM [0,1,2,3,4,5] [3,4] [1] [3] [row b14 [i64 (sF.block c).1.act,i64 (sF.block c).1.used,sv] 95] Tryz.mixed (by kernel_rfl) ?_)
   refine aT aa aa aa (am isAgg40 sizeOf40 aa aa) .free aa ?_
   refine al aa aa aa (am isAgg95 sizeOf95 aa aa) .free aa ?_
   refine aT aa aa aa (bK aa) .free aa (aU aa aa (aD aa (aI (vs:=_) sizeOf40 aa aa aa aa aa) .free aa ?_))
   rintro _ _ rfl
   refine ad (cN (aU aa aa (aD aa (aI (vs:=[i64 (sF.block c).1.act,i64 (sF.block c).1.used,sv]) sizeOf95 aa aa aa (gK hsv) aa) .free aa ?_)))
   rintro _ _ rfl
   refine ad (c9 aa (aT aa aa aa (bK aa) .free aa (cJ (az ?_))))
   exact AG results162 (.tmp aa) (.cellA aa isAgg40 sizeOf40 aa aa) (.cellA aa isAgg95 sizeOf95 aa aa) (.tmp aa) (fun w_ hh=>⟨_,⟨bd,pa,N,s0,sF,out,hfm,hN,⟨hus0,hf0⟩,hfill,.inr ⟨sL,by rw[hinv,List.drop_eq_getElem_cons hk];rw[mz,if_pos hk2],rfl⟩⟩,hh.tail.tail.tail.tail.tail.tail.tail.tail.tail.tail.tail.tail.tail⟩)
  ·have hk2:(sL.objOf c (sF.block c).1 out[k]).2=0:=by simpa using h52
   have ho:=iX hc hbk hk2
   have ho1:=ho.w
   have ho2:=ho.r
   have ho3:=ho.at_
   refine ay (ac (ab (kPv (aj (m:=_) fD aa aa) aa (kPv (aj (m:=_) fP aa aa) aa (kPv (ae isAgg3 aa aa) aa (kPm aa aa (ad (aO (dY (ι:=Nat×Nat×Dev) (fun i=>(i.1:Int)≤(sL.objOf c (sF.block c).1 out[k]).1.2.1∧i.2.1=n+i.1∧U64 i.2.2∧i.2.2.pow.lim<0∧i.2.2.n=N∧lP (dQ l out sp) (sL.objOf c (sF.block c).1 out[k]).1 (sL.objOf c (sF.block c).1 out[k]).1.2.1.toNat n 0 sL=lP (dQ l out sp) (sL.objOf c (sF.block c).1 out[k]).1 ((sL.objOf c (sF.block c).1 out[k]).1.2.1.toNat - i.1) i.2.1 i.1 i.2.2) (fun i=>[(8,.pointer none),(9,ptr b9),(10,ptr b10),(11,.slice none 0 0),(12,ptr bd),(13,ptr b13),(14,ptr b14),(15,ptr b15),(17,.func (.func 182) #[] #[ptr b16,ptr b6,ptr b15,ptr b7]),(37,.slice (some ⟨bQ,oQ,none⟩) out.length co),(38,i64 out.length),(39,i64 k),(20,ptr b20),(57,i64 (sL.objOf c (sF.block c).1 out[k]).1.2.1),(58,i64 i.1)]) (fun i=>row b20 [i64 (sL.objOf c (sF.block c).1 out[k]).1.1,i64 (sL.objOf c (sF.block c).1 out[k]).1.2.1,i64 (sL.objOf c (sF.block c).1 out[k]).1.2.2] 105::row b16 [i64 (i.2.1:Nat)] 3::eP 3 i64 0 (.slice (some ⟨bQ,oQ,none⟩) out.length co,out)::row b15 [.slice (some ⟨bQ,oQ,none⟩) out.length co] 125::row b14 [i64 (sF.block c).1.act,i64 (sF.block c).1.used,sv] 95::row b13 [i64 c.log,i64 c.roots,i64 c.space] 40::dy 0 (sv,(sF.block c).1.rts)::aG bd i.2.2::row b10 [i64 0,i64 0,.slice none 0 0] 95::row b9 [i64 0,i64 0,i64 0] 40::row b7 [u8 sp] 5::row b6 [.slice ql l.length cl] 229::row b4 [u16 x0,u16 x1,u16 x2] 24::Fr) (fun i=>(sL.objOf c (sF.block c).1 out[k]).1.2.1.toNat - i.1) (0,n,sL) ⟨by simp only;omega,rfl,huL,hlL,hnL,rfl⟩ (fun a w st=>st.to ⟨rfl,rfl,rfl,rfl,rfl,rfl,rfl,rfl,rfl,rfl,rfl,rfl,rfl,rfl,rfl,trivial⟩ id) ?_)))))))))
   rintro⟨j,nI,sI⟩ ⟨hj1,hnI,huI,hlI,hnI2,hinvI⟩
   simp only at hj1 hnI huI hlI hnI2 hinvI ⊢
   refine ac (ab (kPv (an aa aa aa) aa (ad (ac ?_))))
   refine aW aa (fun h59=> ?_) (fun h59=> ?_)
   ·have hj:(j:Int)<(sL.objOf c (sF.block c).1 out[k]).1.2.1:=by simpa using h59
    refine ay (ac (aO (ac (ab (kPm aa aa (kPa aa aa (ad (ao [22,58,57,20,39,38,37,17,12,15,14,13,11,10,9,8] rfl (cM [0,1,2,5,6,3,4,7] [3,7] [0,1,5,6] [3] [row b20 [i64 (sL.objOf c (sF.block c).1 out[k]).1.1,i64 (sL.objOf c (sF.block c).1 out[k]).1.2.1,i64 (sL.objOf c (sF.block c).1 out[k]).1.2.2] 105] Tryz.mixed (by kernel_rfl) ?_)))))))))
    refine al aa aa aa (am isAgg105 sizeOf105 aa aa) .free aa ?_
    refine al aa aa aa (ap aa) .free aa (aT aa aa aa (ap aa) .free aa (al aa aa aa (ap aa) .free aa (al aa aa aa (dm aa aa) .free aa (aU aa aa (aK (H':=row b16 [i64 (nI:Nat)] 3::row b6 [.slice ql l.length cl] 229::row b15 [.slice (some ⟨bQ,oQ,none⟩) out.length co] 125::row b7 [u8 sp] 5::row b20 [i64 (sL.objOf c (sF.block c).1 out[k]).1.1,i64 (sL.objOf c (sF.block c).1 out[k]).1.2.1,i64 (sL.objOf c (sF.block c).1 out[k]).1.2.2] 105::eP 3 i64 0 (.slice (some ⟨bQ,oQ,none⟩) out.length co,out)::row b14 [i64 (sF.block c).1.act,i64 (sF.block c).1.used,sv] 95::row b13 [i64 c.log,i64 c.roots,i64 c.space] 40::dy 0 (sv,(sF.block c).1.rts)::aG bd sI::row b10 [i64 0,i64 0,.slice none 0 0] 95::row b9 [i64 0,i64 0,i64 0] 40::row b4 [u16 x0,u16 x1,u16 x2] 24::Fr) (fun w hh=>(hh.pk [1,10,2,8])) ?_)))))
    refine aY aa (ku call182 aa aa) (vB B _ b16 b6 b15 b7 nI ql (some ⟨bQ,oQ,none⟩) cl co l out sp (by omega) ((((((((((hl.cons _).cons _).cons _).cons _).cons _).cons _).cons _).cons _).cons _)) (de 1 aa) hlb hob ⟨by omega,by omega⟩ hsp hql hqo) .free aa aa ?_ ?_
    rotate_left
    ·rintro _ _ ⟨⟩
    rintro _ _ ⟨rfl,rfl⟩
    refine ad (cN ?_)
    have hpk:=t8 (l:=l) (sp:=sp) (k:=nI) hob
    refine aT aa aa aa (dh runUnderlying26 runUnderlying3 aa (gh (by omega))) .free aa (aU aa aa (dV aG bd (aQ aa (aA call77 aa) (wY _ _ bd (sL.objOf c (sF.block c).1 out[k]).1 ho _ ((dQ l out sp) nI) (by have:=t8 (l:=l) (sp:=sp) (k:=nI) hob;omega) sI hlI huI) .free aa aa ?_)))
    rintro _ _ ⟨x2,s2,hm2,rfl,hl2,hn2,hu2,rfl⟩
    refine ad (c9 aa (cJ (ao [58,57,20,39,38,37,17,12,15,14,13,11,10,9,8] rfl (ab (kPv (aS aa aa) aa (kPm aa aa (ad ?_)))))))
    exact fun a w st=>⟨(j+1,nI+1,s2),⟨by simp only;omega,by simp only;omega,hu2,hl2,hn2.trans hnI2,by
     rw[hinvI,show(sL.objOf c (sF.block c).1 out[k]).1.2.1.toNat - j=((sL.objOf c (sF.block c).1 out[k]).1.2.1.toNat - (j+1))+1 by omega]
     show(iC gV (sL.objOf c (sF.block c).1 out[k]).1 j true ((dQ l out sp) nI) sI ()).then _=_
     rw[hm2]
     push_cast
     rfl⟩,by simp only;omega,st.to ⟨rfl,rfl,rfl,rfl,rfl,rfl,rfl,rfl,rfl,rfl,rfl,rfl,rfl,rfl,rfl,trivial⟩ (fun hh=>(hh.pk [5,1,4,2,3,3,3,0,2,2,1]))⟩
   ·have hj:¬ (j:Int)<(sL.objOf c (sF.block c).1 out[k]).1.2.1:=by simpa using h59
    refine bT (ab (kPv (aS aa aa) aa (kPm aa aa (ad (ao [39,38,37,17,12,15,14,13,11,10,9,8] rfl ?_)))))
    exact fun a w st=>⟨(k+1,nI,sI),⟨by simp only;omega,by simp only;omega,huI,hlI,hnI2,by
     rw[hinv,List.drop_eq_getElem_cons hk]
     rw[mz,if_neg (by omega),hinvI,show(sL.objOf c (sF.block c).1 out[k]).1.2.1.toNat - j=0 by omega]
     rfl⟩,by simp only;omega,st.to ⟨rfl,rfl,rfl,rfl,rfl,rfl,rfl,rfl,rfl,rfl,rfl,rfl,trivial⟩ (fun hh=>hh.tail)⟩
 ·have hk:¬ k<out.length:=by simpa using h40
  refine bT (ac (ac (ab (kPv (aj (m:=_) fm aa aa) aa (kPv (ae isAgg3 aa aa) aa (kPm aa aa (ad (ao [73,72,17,12,15,14,13,11,10,9,8] rfl (aO (dY (ι:=Nat×Nat×Dev) (fun i=>(i.1:Int)≤c.roots∧i.2.1=n+i.1∧U64 i.2.2∧i.2.2.pow.lim<0∧i.2.2.n=N∧gC c (dQ l out sp) c.roots.toNat n 0 sL=gC c (dQ l out sp) (c.roots.toNat - i.1) i.2.1 i.1 i.2.2) (fun i=>[(8,.pointer none),(9,ptr b9),(10,ptr b10),(11,.slice none 0 0),(12,ptr bd),(13,ptr b13),(14,ptr b14),(15,ptr b15),(17,.func (.func 182) #[] #[ptr b16,ptr b6,ptr b15,ptr b7]),(72,i64 c.roots),(73,i64 i.1)]) (fun i=>row b16 [i64 (i.2.1:Nat)] 3::eP 3 i64 0 (.slice qo out.length co,out)::row b15 [.slice qo out.length co] 125::row b14 [i64 (sF.block c).1.act,i64 (sF.block c).1.used,sv] 95::row b13 [i64 c.log,i64 c.roots,i64 c.space] 40::dy 0 (sv,(sF.block c).1.rts)::aG bd i.2.2::row b10 [i64 0,i64 0,.slice none 0 0] 95::row b9 [i64 0,i64 0,i64 0] 40::row b7 [u8 sp] 5::row b6 [.slice ql l.length cl] 229::row b4 [u16 x0,u16 x1,u16 x2] 24::Fr) (fun i=>c.roots.toNat - i.1) (0,n,sL) ⟨by simp only;omega,rfl,huL,hlL,hnL,rfl⟩ (fun a w st=>st.to ⟨rfl,rfl,rfl,rfl,rfl,rfl,rfl,rfl,rfl,rfl,rfl,trivial⟩ id) ?_))))))))))
  rintro⟨i,nJ,sJ⟩ ⟨hi1,hnJ,huJ,hlJ,hnJ2,hinvJ⟩
  simp only at hi1 hnJ huJ hlJ hnJ2 hinvJ ⊢
  refine ac (ab (kPv (an aa aa aa) aa (ad (ac ?_))))
  refine aW aa (fun h74=> ?_) (fun h74=> ?_)
  ·have hi:(i:Int)<c.roots:=by simpa using h74
   refine ay (ac (aO (ac (ab (kPm aa aa (kPa aa aa (ad (ab (kPm aa aa (kPv (am isAgg40 sizeOf40 aa aa) aa ?_))))))))))
   refine kPm aa aa (aE aa (aA call59 aa) (kN _ _ c hc _ (by omega) (by omega)) .free aa aa ?_)
   refine kPm aa aa (aK (H':=row b16 [i64 (nJ:Nat)] 3::row b6 [.slice ql l.length cl] 229::row b15 [.slice qo out.length co] 125::row b7 [u8 sp] 5::eP 3 i64 0 (.slice qo out.length co,out)::row b14 [i64 (sF.block c).1.act,i64 (sF.block c).1.used,sv] 95::row b13 [i64 c.log,i64 c.roots,i64 c.space] 40::dy 0 (sv,(sF.block c).1.rts)::aG bd sJ::row b10 [i64 0,i64 0,.slice none 0 0] 95::row b9 [i64 0,i64 0,i64 0] 40::row b4 [u16 x0,u16 x1,u16 x2] 24::Fr) (fun w hh=>(hh.pk [0,9,1,7])) ?_)
   refine aY aa (ku call182 aa aa) (vB B _ b16 b6 b15 b7 nJ ql qo cl co l out sp (by omega) (((((((((hl.cons _).cons _).cons _).cons _).cons _).cons _).cons _).cons _)) (de 0 aa) hlb hob ⟨by omega,by omega⟩ hsp hql hqo) .free aa aa ?_ ?_
   rotate_left
   ·rintro _ _ ⟨⟩
   rintro _ _ ⟨rfl,rfl⟩
   refine dV aG bd (aQ aa (aA call120 aa) (qR _ _ _ _ _ (dQ l out sp nJ) hlJ huJ (by have:=t8 (l:=l) (sp:=sp) (k:=nJ) hob;omega)) .free aa aa ?_)
   rintro _ _ ⟨x3,s3,hm3,rfl,hl3,hn3,hu3,rfl⟩
   refine ad (ao [73,72,17,12,15,14,13,11,10,9,8] rfl (ab (kPv (aS aa aa) aa (kPm aa aa (ad ?_)))))
   exact fun a w st=>⟨(i+1,nJ+1,s3),⟨by simp only;omega,by simp only;omega,hu3,hl3,hn3.trans hnJ2,by
    rw[hinvJ,show c.roots.toNat - i=(c.roots.toNat - (i+1))+1 by omega]
    show(sJ.store (c.root i) ((dQ l out sp) nJ)).then _=_
    rw[hm3]
    push_cast
    rfl⟩,by simp only;omega,st.to ⟨rfl,rfl,rfl,rfl,rfl,rfl,rfl,rfl,rfl,rfl,rfl,trivial⟩ (fun hh=>(hh.pk [1,4,2,3,3,3,0,2,2,1]))⟩
  ·have hi:¬ (i:Int)<c.roots:=by simpa using h74
   refine bT (ac (ab (kPm aa aa (kPv (am isAgg40 sizeOf40 aa aa) aa ?_))))
   refine dV aG bd (aQ aa (aA call111 aa) (gL _ _ _ _ c hc huJ) .free aa aa ?_)
   rintro _ _ ⟨sv2,hsv2,rfl,rfl⟩
   refine kPm aa aa (kPv (aB aa aa) aa (kPv (aB aa aa) aa (aD aa (aI (vs:=[i64 (sJ.block c).1.act,i64 (sJ.block c).1.used,sv2]) sizeOf95 aa aa aa (gK hsv2) aa) .free aa ?_)))
   rintro _ _ rfl
   refine aK (H':=dy 0 (sv2,(sJ.block c).1.rts)::aG bd sJ::row b16 [i64 (nJ:Nat)] 3::eP 3 i64 0 (.slice qo out.length co,out)::row b15 [.slice qo out.length co] 125::row b14 [i64 (sJ.block c).1.act,i64 (sJ.block c).1.used,sv2] 95::row b13 [i64 c.log,i64 c.roots,i64 c.space] 40::dy 0 (sv,(sF.block c).1.rts)::row b10 [i64 0,i64 0,.slice none 0 0] 95::row b9 [i64 0,i64 0,i64 0] 40::row b7 [u8 sp] 5::row b6 [.slice ql l.length cl] 229::row b4 [u16 x0,u16 x1,u16 x2] 24::Fr) (fun w hh=>hh) (ad (ao [12,15,14,13,11,10,9,8] rfl (ac (cM [0,1,2,3,4,5,6,7] [5,6] [2,3] [5,6] [row b14 [i64 (sJ.block c).1.act,i64 (sJ.block c).1.used,sv2] 95,row b15 [.slice qo out.length co] 125] Tryz.mixed (by kernel_rfl) ?_))))
   refine aT aa aa aa (ap aa) .free aa (aT aa aa aa (am isAgg40 sizeOf40 aa aa) .free aa ?_)
   refine al aa aa aa (am isAgg95 sizeOf95 aa aa) .free aa ?_
   refine al aa aa aa (ae isAgg125 aa aa) .free aa (aT aa aa aa (bK aa) .free aa (aU aa aa (aD aa (aI (vs:=_) sizeOf40 aa aa aa aa aa) .free aa ?_)))
   rintro _ _ rfl
   refine ad (cN (aU aa aa (aD aa (aI (vs:=[i64 (sJ.block c).1.act,i64 (sJ.block c).1.used,sv2]) sizeOf95 aa aa aa (gK hsv2) aa) .free aa ?_)))
   rintro _ _ rfl
   refine ad (cN (aT aa aa aa (bK aa) .free aa (cJ (ao [11,8,10,9] rfl (az ?_)))))
   exact AG results162 (.tmp aa) (.cellA aa isAgg40 sizeOf40 aa aa) (.cellA aa isAgg95 sizeOf95 aa aa) (.tmp aa) (fun w_ hh=>⟨_,⟨bd,pa,N,s0,sF,out,hfm,hN,⟨hus0,hf0⟩,hfill,.inl ⟨n,nJ,sL,sJ,_,sv2,by rw[hinv,List.drop_eq_nil_of_le (by omega)];rfl,by rw[hinvJ,show c.roots.toNat - i=0 by omega];rfl,huJ,hlJ,hnJ2,rfl,hsv2,rfl,rfl⟩⟩,(hh.dp [2,3,3,3,3,3,3,3,3,3])⟩)
end Go.Proofs.YtlcibdhmgclfjaaGreat
