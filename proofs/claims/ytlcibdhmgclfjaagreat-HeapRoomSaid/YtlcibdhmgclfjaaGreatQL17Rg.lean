/- Part of a law's texts. Conditions: none. -/
import Derived.Test.YtlcibdhmgclfjaaGreatQL17Rf
open Go.Proofs.Tryz
set_option linter.all false
namespace Go.Proofs.YtlcibdhmgclfjaaGreat
open Go
structure bG where
 L:ce
 ff:Int
 ft:Int
 seen:List (Int×Unit)
 dirty:List (Int×Unit)
abbrev dK(b bl:Nat)(S:bG)(o:Bool)(m1 m2:Option Nat):HP:=row b [ptr bl,ptr S.L.d,i64 S.L.c.log,i64 S.L.c.roots,i64 S.L.c.space,.bool o,i64 S.ff,i64 S.ft,.map m1,.map m2] 129
def eD(b:Nat)(S:bG):HP:=hex fun (x:Nat×Option Nat×Option Nat)=>grp [dK b x.1 S false x.2.1 x.2.2,dz x.1 S.L]
def iK(b:Nat)(S:bG):HP:=hex fun (x:Nat×Nat×Nat)=>grp [dK b x.1 S true (some x.2.1) (some x.2.2),dz x.1 S.L,bJ .i64 cF x.2.1 S.seen,bJ .i64 cF x.2.2 S.dirty]
theorem kY{B:World}{n:Nat}{D:List Deferred}{σ:Env}{b:Nat}{S:bG}{Fr:List HP}{K:Act→World→Prop}(h:∀ bl o1 o2,GO B n D σ (dK b bl S false o1 o2::dz bl S.L::Fr) K):GO B n D σ (eD b S::Fr) K:=fun a w st=>by
 obtain⟨x,hx⟩:=st.holds.hex
 exact h _ _ _ a w ⟨st.toStA,hx.grp⟩
theorem nG{B:World}{n:Nat}{D:List Deferred}{σ:Env}{b:Nat}{S:bG}{Fr:List HP}{K:Act→World→Prop}(h:∀ bl o1 o2,GO B n D σ (dK b bl S true (some o1) (some o2)::dz bl S.L::bJ .i64 cF o1 S.seen::bJ .i64 cF o2 S.dirty::Fr) K):GO B n D σ (iK b S::Fr) K:=fun a w st=>by
 obtain⟨x,hx⟩:=st.holds.hex
 exact h _ _ _ a w ⟨st.toStA,hx.grp⟩
theorem ei{B:World}{b bl:Nat}{o1 o2:Option Nat}{S:bG}{Fr:List HP}{w:World}(h:Holds B (dK b bl S false o1 o2::dz bl S.L::Fr) w):Holds B (eD b S::Fr) w:=
 Holds.unhex (bl,o1,o2) (Holds.ungrp (l:=[dK b bl S false o1 o2,dz bl S.L]) h)
theorem gj{B:World}{b bl o1 o2:Nat}{S:bG}{Fr:List HP}{w:World}(h:Holds B (dK b bl S true (some o1) (some o2)::dz bl S.L::bJ .i64 cF o1 S.seen::bJ .i64 cF o2 S.dirty::Fr) w):Holds B (iK b S::Fr) w:=
 Holds.unhex (bl,o1,o2) (Holds.ungrp (l:=[dK b bl S true (some o1) (some o2),dz bl S.L,bJ .i64 cF o1 S.seen,bJ .i64 cF o2 S.dirty]) h)
structure mZ(S:bG):Prop where
 L:dZ S.L
 dirty:∀ p∈S.dirty,0≤p.1∧p.1≤1000000
theorem yw(o:Option Unit):(Value.tuple #[sr cF (.agg #[]) o,.bool o.isSome])= .tuple #[.agg #[],.bool o.isSome]:=by cases o<;>rfl
def bG.store(S:bG)(s:Dev)(i v:Int):Out (Int×bG):=
 if i<S.L.c.active∨(s.n:Int)≤i then .ok (1,S) s
 else if (bi S.seen i).isSome=false∧(i<S.ff∨S.ft≤i) then
  (S.L.append s i).then fun x s=>if x.1≠0 then .ok (x.1,{S with L:=x.2}) s else
   (s.store i v).then fun _ s=> .ok (0,{S with L:=x.2,seen:=mset S.seen i (),dirty:=mset S.dirty (i / 8) ()}) s
 else (s.store i v).then fun _ s=> .ok (0,{S with dirty:=mset S.dirty (i / 8) ()}) s
def dG:List Int→Dev→Out Unit
 | [],s=> .ok () s
 | k::ks,s=>(s.flush (k*8)).then fun _ s=>dG ks s
def bG.commit(S:bG)(s:Dev):Out bG:=
 (dG (cG (S.dirty.map Prod.fst)) s).then fun _ s=>(if 0<S.dirty.length then s.fence else .ok () s).then fun _ s=>(S.L.truncate s).then fun L s=> .ok {S with L:=L} s
def bG.abort(S:bG)(s:Dev):Out bG:=(S.L.undo s).then fun L s=> .ok {S with L:=L} s
theorem kJ{S:bG}{s:Dev}{i v:Int}(h:¬i<S.L.c.active∧¬(s.n:Int)≤i)(hno:¬((bi S.seen i).isSome=false∧(i<S.ff∨S.ft≤i))):S.store s i v=(s.store i v).then fun _ s=> .ok (0,{S with dirty:=mset S.dirty (i / 8) ()}) s:=by
 unfold bG.store
 rw[if_neg (by omega),if_neg hno]
theorem oX{L L':ce}{s s':Dev}{i a:Int}(h:L.append s i= .ok (a,L') s'):L'.d=L.d∧L'.c=L.c:=by
 unfold ce.append at h
 split at h
 ·cases h;exact⟨rfl,rfl⟩
 ·split at h
  ·cases h;exact⟨rfl,rfl⟩
  ·simp only[Out.then] at h
   repeat' split at h
   all_goals first | (cases h;exact⟨rfl,rfl⟩) | cases h
theorem tO{L L':ce}{s s':Dev}(h:L.truncate s= .ok L' s'):L'.d=L.d∧L'.c=L.c:=by
 unfold ce.truncate at h
 split at h
 ·cases h;exact⟨rfl,rfl⟩
 ·simp only[Out.then] at h
  repeat' split at h
  all_goals first | (cases h;exact⟨rfl,rfl⟩) | cases h
theorem og(B:World)(Fr:List HP)(b:Nat)(S:bG):
 ∀ w,Holds B (eD b S::Fr) w→Calls Tryz.prog 51 [ptr b].toArray w (bB B (eD b S::Fr) (.bool false)):=by
 refine au func51 aa ntmps51 aa (kY fun bl o1 o2=>(ac (ab (kPa aa aa (ad (ac (ab (kPm aa aa (kPv (ak aa) aa (kPv (aj (m:=_) eg aa aa) aa (kPv (ae isAgg4 aa aa) aa ?_)))))))))))
 refine kPa aa aa (ad (az ?_))
 exact ax results51 aa (fun w hh=>⟨rfl,ei hh⟩)
theorem zj(B:World)(Fr:List HP)(b:Nat)(S:bG):
 ∀ w,Holds B (iK b S::Fr) w→Calls Tryz.prog 51 [ptr b].toArray w (bB B (iK b S::Fr) (.bool true)):=by
 refine au func51 aa ntmps51 aa (nG fun bl o1 o2=>(ac (ab (kPa aa aa (ad (ac (ab (kPm aa aa (kPv (ak aa) aa (kPv (aj (m:=_) eg aa aa) aa (kPv (ae isAgg4 aa aa) aa ?_)))))))))))
 refine kPa aa aa (ad (az ?_))
 exact ax results51 aa (fun w hh=>⟨rfl,gj hh⟩)
theorem u6(B:World)(Fr:List HP)(b:Nat)(S:bG):
 ∀ w,Holds B (eD b S::Fr) w→Calls Tryz.prog 62 [ptr b].toArray w (bB B (eD b S::Fr) (i64 2)):=by
 refine au func62 aa ntmps62 aa (kY fun bl o1 o2=>(ac (ab (kPa aa aa (ad (ac (ac (ab (kPm aa aa (kPv (ak aa) aa (kPv (aj (m:=_) eg aa aa) aa ?_)))))))))))
 refine kPv (ae isAgg4 aa aa) aa (kPv (bF aa) aa (ad (pt aa (rfl) (ac (ab (kPa aa aa (ad (az ?_))))))))
 exact ax results62 aa (fun w hh=>⟨rfl,ei hh⟩)
theorem wN(B:World)(Fr:List HP)(b:Nat)(S:bG):
 ∀ w,Holds B (eD b S::Fr) w→Calls Tryz.prog 145 [ptr b].toArray w (bB B (eD b S::Fr) (i64 2)):=by
 refine au func145 aa ntmps145 aa (kY fun bl o1 o2=>(ac (ab (kPa aa aa (ad (ac (ac (ab (kPm aa aa (kPv (ak aa) aa (kPv (aj (m:=_) eg aa aa) aa ?_)))))))))))
 refine kPv (ae isAgg4 aa aa) aa (kPv (bF aa) aa (ad (pt aa (rfl) (ac (ab (kPa aa aa (ad (az ?_))))))))
 exact ax results145 aa (fun w hh=>⟨rfl,ei hh⟩)
theorem qs(B:World)(Fr:List HP)(b:Nat)(S:bG)(s:Dev)(hL:mZ S)(i v:Int):
 ∀ w,Holds B (iK b S::aG S.L.d s::Fr) w→Calls Tryz.prog 56 [ptr b,i64 i,w64 v].toArray w (Ret B (fun rv H'=>∃ a S' s',S.store s i v= .ok (a,S') s'∧rv=i64 a∧H'=iK b S'::aG S.L.d s'::Fr) (fun c H'=>∃ s',S.store s i v= .off s'∧c=dN∧H'=aG S.L.d s'::Fr)):=by
 refine au func56 aa ntmps56 aa ?_
 have hl:=hL.L
 have hc:=hl.c
 have hc1:=hc.r1
 have hc2:=hc.r2
 have hc3:=hc.l1
 have hc4:=hc.l2
 have hact:=hc.act
 refine mA S.L.d fun hn1 hn2 hn3=>(nG fun bl o1 o2=>(ac (ab (kPa aa aa (ad (ac (aO (ac (ab (kPm aa aa (kPv (ak aa) aa ?_)))))))))))
 refine kPv (aj (m:=_) eg aa aa) aa (kPv (ae isAgg4 aa aa) aa (kPv (bF aa) aa (kPa aa aa (ad (cf aa (rfl) (ac (ab (kPm aa aa (kPm aa aa (kPv (ak aa) aa (kPv (aj (m:=_) BJ aa aa) aa ?_)))))))))))
 refine kPv (am isAgg40 sizeOf40 aa aa) aa ?_
 refine aE aa (aA call117 aa) (gI _ _ S.L.c hL.L.c) .free aa aa ?_
 refine kPv (an aa aa aa) aa (kPm aa aa ?_)
 apply gl (tp:=32) (t:=24) (σ1:=[(24,_),(6,_),(0,_),(1,_),(2,_)]) 8 rfl (aF rfl)
 ·intro hg1
  refine aq aa (ap aa) (.on aa aa (ah hg1)) aa aa (aq aa (ap aa) (.on aa aa (ah hg1)) aa aa (aq aa (ak aa) (.on aa aa (ah hg1)) aa aa (aq aa (aj (m:=_) lW aa aa) (.on aa aa (ah hg1)) aa aa (aq aa (ae isAgg28 aa aa) (.on aa aa (ah hg1)) aa aa (aE aa (aA call118 aa) (bU (q:=aG) (fun Fr=>ma _ Fr _ _)) (.on aa aa (ah hg1)) aa aa ?_)))))
  refine aq aa (an aa aa aa) (.on aa aa (ah hg1)) aa aa (kPv (aL aa hg1 aa) aa ?_)
  exact ba aa (aF aa) (eZ hg1)
 ·intro hg1
  refine ar aa (.on aa aa (ai hg1)) aa (ar aa (.on aa aa (ai hg1)) aa (ar aa (.on aa aa (ai hg1)) aa (ar aa (.on aa aa (ai hg1)) aa (ar aa (.on aa aa (ai hg1)) aa (ar aa (.on aa aa (ai hg1)) aa (ar aa (.on aa aa (ai hg1)) aa (kPv (aH aa hg1 aa) aa ?_)))))))
  exact ba aa (aF aa) (eY hg1)
 refine kPa aa aa (ad ?_)
 refine aW aa (fun h16=> ?_) (fun h16=> ?_)
 ·try simp only[decide_eq_true_eq,decide_eq_false_iff_not,Bool.not_eq_true',Bool.not_eq_false',Bool.or_eq_true,Bool.and_eq_true,Bool.and_eq_false_iff,Bool.or_eq_false_iff,beq_iff_eq,bne_iff_ne,beq_eq_false_iff_ne,bne_eq_false_iff_eq,ge_iff_le,gt_iff_lt,ne_eq] at h16
  refine ac (ab (kPa aa aa (ad (az ?_))))
  exact ax results56 aa (fun w hh=>⟨_,⟨1,S,s,by simp[bG.store, *],rfl,rfl⟩,gj hh⟩)
 ·try simp only[decide_eq_true_eq,decide_eq_false_iff_not,Bool.not_eq_true',Bool.not_eq_false',Bool.or_eq_true,Bool.and_eq_true,Bool.and_eq_false_iff,Bool.or_eq_false_iff,beq_iff_eq,bne_iff_ne,beq_eq_false_iff_ne,bne_eq_false_iff_eq,ge_iff_le,gt_iff_lt,ne_eq] at h16
  refine ay (ac (ac (ab (kPm aa aa (kPv (ak aa) aa (kPv (aj (m:=_) nW aa aa) aa (kPv (ae isAgg127 aa aa) aa (kPm aa aa (kPv ((fE runUnderlying127 runUnderlying3 zeroValue149 aa aa).eq (yw _)) aa (kPm aa aa (kPv (aB aa aa) aa ?_)))))))))))
  refine kPv (aB aa aa) aa (aC aa (aN zeroValue149 aa) .free aa aa ?_)
  rintro _ _ ⟨b7,rfl,rfl⟩
  refine aD aa (aI (vs:=[]) sizeOf149 aa aa aa aa aa) .free aa ?_
  rintro _ _ rfl
  refine kPa aa aa (ad (ao [8,6,0,1,2] rfl (ac (ab (kPm aa aa (kPv (bF aa) aa (kPm aa aa ?_)))))))
  apply dr (tp:=61) (t:=44) (σ1:=[(44,_),(6,_),(0,_),(1,_),(2,_)]) 17 rfl (aF rfl)
  ·intro hg2
   refine aq aa (ap aa) (.on aa aa (ah hg2)) aa aa (aq aa (ap aa) (.on aa aa (ah hg2)) aa aa (aq aa (ak aa) (.on aa aa (ah hg2)) aa aa (aq aa (aj (m:=_) nX aa aa) (.on aa aa (ah hg2)) aa aa (aq aa (aj (m:=_) De aa aa) (.on aa aa (ah hg2)) aa aa (aq aa (ae isAgg3 aa aa) (.on aa aa (ah hg2)) aa aa (aq aa (an aa aa aa) (.on aa aa (ah hg2)) aa aa (aq aa (ap aa) (.on aa aa (ah hg2)) aa aa ?_)))))))
   apply gl (tp:=60) (t:=52) (σ1:=[(52,_),(44,_),(6,_),(0,_),(1,_),(2,_)]) 8 rfl (aF rfl)
   ·intro hg3
    refine aq aa (ap aa) (.on aa aa (ah hg3)) aa aa (aq aa (ap aa) (.on aa aa (ah hg3)) aa aa (aq aa (ak aa) (.on aa aa (ah hg3)) aa aa (aq aa (aj (m:=_) nX aa aa) (.on aa aa (ah hg3)) aa aa (aq aa (aj (m:=_) Dd aa aa) (.on aa aa (ah hg3)) aa aa (aq aa (ae isAgg3 aa aa) (.on aa aa (ah hg3)) aa aa (aq aa (an aa aa aa) (.on aa aa (ah hg3)) aa aa (aq aa (aL aa hg3 aa) (.on aa aa (ah hg2)) aa aa ?_)))))))
    exact ba aa (aF aa) (eZ hg3)
   ·intro hg3
    refine ar aa (.on aa aa (ai hg3)) aa (ar aa (.on aa aa (ai hg3)) aa (ar aa (.on aa aa (ai hg3)) aa (ar aa (.on aa aa (ai hg3)) aa (ar aa (.on aa aa (ai hg3)) aa (ar aa (.on aa aa (ai hg3)) aa (ar aa (.on aa aa (ai hg3)) aa (aq aa (aH aa hg3 aa) (.on aa aa (ah hg2)) aa aa ?_)))))))
    exact ba aa (aF aa) (eY hg3)
   refine kPv (aH aa hg2 aa) aa ?_
   exact ba aa (aF aa) (cV hg2)
  ·intro hg2
   refine ar aa (.on aa aa (ai hg2)) aa (ar aa (.on aa aa (ai hg2)) aa (ar aa (.on aa aa (ai hg2)) aa (ar aa (.on aa aa (ai hg2)) aa (ar aa (.on aa aa (ai hg2)) aa (ar aa (.on aa aa (ai hg2)) aa (ar aa (.on aa aa (ai hg2)) aa (ar aa (.on aa aa (ai hg2)) aa (ar aa (.und aa aa) aa (ar aa (.und aa aa) aa (ar aa (.und aa aa) aa (ar aa (.und aa aa) aa ?_)))))))))))
   refine ar aa (.und aa aa) aa (ar aa (.und aa aa) aa (ar aa (.und aa aa) aa (ar aa (.on aa aa (ai hg2)) aa (kPv (aL aa hg2 aa) aa ?_))))
   exact ba aa (aF aa) (cW hg2)
  refine ad ?_
  refine aW aa (fun h61=> ?_) (fun h61=> ?_)
  ·try simp only[decide_eq_true_eq,decide_eq_false_iff_not,Bool.not_eq_true',Bool.not_eq_false',Bool.or_eq_true,Bool.and_eq_true,Bool.and_eq_false_iff,Bool.or_eq_false_iff,beq_iff_eq,bne_iff_ne,beq_eq_false_iff_ne,bne_eq_false_iff_eq,ge_iff_le,gt_iff_lt,ne_eq] at h61
   refine ac (ac (ab (aK (H':=dz bl S.L::aG S.L.d s::row b7 [] 149::dK b bl S true (some o1) (some o2)::bJ .i64 cF o1 S.seen::bJ .i64 cF o2 S.dirty::Fr) (fun w hh=>((hh.front 5 aa).front 3 aa)) (kPm aa aa (kPv (ak aa) aa (kPv (aj (m:=_) jv aa aa) aa (kPv (ae isAgg116 aa aa) aa (kPm aa aa ?_))))))))
   refine aY aa (aA call119 aa) (q9 _ _ bl S.L _ hL.L i) .free aa aa ?_ ?_
   rotate_left
   ·rintro _ _ ⟨s9,hm9,rfl,rfl⟩
    exact bz fun w hh=>⟨_,⟨s9,by simp[bG.store, *],rfl,rfl⟩,(((((hh.front 5 aa).front 5 aa).front 5 aa).front 5 aa).front 4 aa).tail.tail.tail.tail.tail⟩
   rintro _ _ ⟨a1,L1,s1,hm1,rfl,rfl⟩
   refine kPa aa aa (ad (ao [9,6,0,1,2] rfl (ac (ab (kPm aa aa (kPv (an aa aa aa) aa (ad ?_)))))))
   refine aW aa (fun h69=> ?_) (fun h69=> ?_)
   ·try simp only[decide_eq_true_eq,decide_eq_false_iff_not,Bool.not_eq_true',Bool.not_eq_false',Bool.or_eq_true,Bool.and_eq_true,Bool.and_eq_false_iff,Bool.or_eq_false_iff,beq_iff_eq,bne_iff_ne,beq_eq_false_iff_ne,bne_eq_false_iff_eq,ge_iff_le,gt_iff_lt,ne_eq] at h69
    refine ac (ab (kPm aa aa (kPa aa aa (ad (az ?_)))))
    exact ax results56 aa (fun w hh=>by
   have hd1:=oX hm1
   obtain⟨d1,c1,e1,n1⟩:=L1
   obtain⟨hd2,hd3⟩:=hd1
   simp only at hd2 hd3
   subst hd2;subst hd3
   exact⟨_,⟨a1,{S with L:=⟨_,_,e1,n1⟩},_,by simp[bG.store, *],rfl,rfl⟩,gj ((((((hh.front 2 aa).tail.front 1 aa).front 4 aa).front 4 aa).front 3 aa).front 4 aa)⟩)
   ·try simp only[decide_eq_true_eq,decide_eq_false_iff_not,Bool.not_eq_true',Bool.not_eq_false',Bool.or_eq_true,Bool.and_eq_true,Bool.and_eq_false_iff,Bool.or_eq_false_iff,beq_iff_eq,bne_iff_ne,beq_eq_false_iff_ne,bne_eq_false_iff_eq,ge_iff_le,gt_iff_lt,ne_eq] at h69
    refine ay (ab (kPm aa aa (kPv (ak aa) aa (kPv (aj (m:=_) nW aa aa) aa (kPv (ae isAgg127 aa aa) aa (kPm aa aa (kPv (aZ aa (pV)) aa (aD aa (ip (u:=()) runUnderlying127 runUnderlying3 aa aa aa aa) .free aa ?_))))))))
    rintro _ _ rfl
    refine ad (ao [6,0,1,2] rfl (ac (ab (kPm aa aa (kPv (ak aa) aa (kPv (aj (m:=_) lW aa aa) aa (kPv (ae isAgg28 aa aa) aa (kPm aa aa (kPm aa aa ?_)))))))))
    refine aY aa (aA call120 aa) (da (q:=aG) (fun Fr=>cZ _ Fr _ _ _ _)) .free aa aa ?_ ?_
    rotate_left
    ·first
      | (rintro _ _ ⟨s9,⟨hm9,rfl⟩,rfl⟩;exact bz fun w hh=>⟨_,⟨s9,by simp[bG.store, *],rfl,rfl⟩,(((((hh.front 5 aa).front 5 aa).front 5 aa).front 5 aa).front 4 aa).tail.tail.tail.tail.tail⟩)
      | (rintro _ _ ⟨s9,⟨hm9,rfl⟩,rfl⟩;exact bz fun w hh=>⟨_,⟨s9,by simp[kJ h16 hno,hm9],rfl,rfl⟩,(((((hh.front 4 aa).front 4 aa).front 4 aa).front 4 aa).front 4 aa).tail.tail.tail.tail.tail⟩)
    rintro _ _ ⟨s2,⟨e2,hm2,rfl⟩,rfl⟩
    refine ad (ao [6,0,1] rfl (ac (ab (kPm aa aa (kPv (ak aa) aa (kPv (aj (m:=_) kt aa aa) aa (kPv (ae isAgg127 aa aa) aa (kPm aa aa (kPv (gp aa aa (by decide) (Ee (by omega) (by omega))) aa (kPv (aZ aa (pV)) aa (aD aa (ip (u:=()) runUnderlying127 runUnderlying3 aa aa aa aa) .free aa ?_)))))))))))
    rintro _ _ rfl
    refine ad (ao [6] rfl (ac (ab (kPa aa aa (ad (az ?_))))))
    exact ax results56 aa (fun w hh=>by
   have hd1:=oX hm1
   obtain⟨d1,c1,e1,n1⟩:=L1
   obtain⟨hd2,hd3⟩:=hd1
   simp only at hd2 hd3
   subst hd2;subst hd3
   exact⟨_,⟨0,{S with L:=⟨_,_,e1,n1⟩,seen:=mset S.seen i (),dirty:=mset S.dirty (i / 8) ()},_,by simp[bG.store, *],rfl,rfl⟩,gj ((((((hh.front 2 aa).tail.front 1 aa).front 4 aa).front 4 aa).front 3 aa).front 4 aa)⟩)
  ·have hno:¬((bi S.seen i).isSome=false∧(i<S.ff∨S.ft≤i)):=by
    rintro⟨q1,q2⟩
    rw[q1] at h61
    simp at h61;omega
   refine ay (ac (ab (kPm aa aa (kPv (ak aa) aa (kPv (aj (m:=_) lW aa aa) aa (kPv (ae isAgg28 aa aa) aa (kPm aa aa (kPm aa aa ?_))))))))
   refine aY aa (aA call120 aa) (da (q:=aG) (fun Fr=>cZ _ Fr _ _ _ _)) .free aa aa ?_ ?_
   rotate_left
   ·first
     | (rintro _ _ ⟨s9,⟨hm9,rfl⟩,rfl⟩;exact bz fun w hh=>⟨_,⟨s9,by simp[bG.store, *],rfl,rfl⟩,(((((hh.front 5 aa).front 5 aa).front 5 aa).front 5 aa).front 4 aa).tail.tail.tail.tail.tail⟩)
     | (rintro _ _ ⟨s9,⟨hm9,rfl⟩,rfl⟩;exact bz fun w hh=>⟨_,⟨s9,by simp[kJ h16 hno,hm9],rfl,rfl⟩,(((((hh.front 4 aa).front 4 aa).front 4 aa).front 4 aa).front 4 aa).tail.tail.tail.tail.tail⟩)
   rintro _ _ ⟨s3,⟨e3,hm3,rfl⟩,rfl⟩
   refine ad (ao [6,0,1] rfl (ac (ab (kPm aa aa (kPv (ak aa) aa (kPv (aj (m:=_) kt aa aa) aa (kPv (ae isAgg127 aa aa) aa (kPm aa aa (kPv (gp aa aa (by decide) (Ee (by omega) (by omega))) aa (kPv (aZ aa (pV)) aa (aD aa (ip (u:=()) runUnderlying127 runUnderlying3 aa aa aa aa) .free aa ?_)))))))))))
   rintro _ _ rfl
   refine ad (ao [6] rfl (ac (ab (kPa aa aa (ad (az ?_))))))
   exact ax results56 aa (fun w hh=>⟨_,⟨0,{S with dirty:=mset S.dirty (i / 8) ()},_,by simp[kJ h16 hno,hm3],rfl,rfl⟩,gj (((((hh.tail.front 4 aa).front 4 aa).front 4 aa).front 4 aa).front 4 aa)⟩)
theorem Bx{B:World}{n:Nat}{D:List Deferred}{σ:Env}{sv:Value}{xs:List Int}{Fr:List HP}{K:Act→World→Prop}(h:∀ q cap,sv= .slice q xs.length cap→GO B n D σ (jA 0 (sv,xs)::Fr) K):GO B n D σ (jA 0 (sv,xs)::Fr) K:=fun a w st=>by
 rcases kW st.holds with ⟨e1,e2,_⟩ | ⟨bd,rest,e,_⟩
 ·exact h none 0 (by rw[e2,e1];rfl) a w st
 ·exact h _ _ e a w st
theorem C4{B:World}{n:Nat}{D:List Deferred}{σ:Env}{q:Option Addr}{m cap k:Nat}{xs:List Int}{Fr:List HP}{K:Act→World→Prop}(hk:k<xs.length)(h:∀ bd rest,q=some ⟨bd,0,none⟩→m=xs.length→cap=m+rest.length→GO B n D σ (row bd (xs.map i64++rest) 3::Fr) K):GO B n D σ (jA 0 (.slice q m cap,xs)::Fr) K:=fun a w st=>by
 rcases kW st.holds with ⟨e1,e2,_⟩ | ⟨bd,rest,e,hh⟩
 ·subst e1;simp at hk
 ·injection e with e1 e2 e3
  exact h bd rest e1 e2 (by omega) a w ⟨st.toStA,hh⟩
theorem pc(B:World)(Fr:List HP)(b:Nat)(S:bG)(s:Dev)(hL:mZ S)(hdl:S.dirty.length≤1000000):
 ∀ w,Holds B (iK b S::aG S.L.d s::Fr) w→Calls Tryz.prog 62 [ptr b].toArray w (Ret B (fun rv H'=>∃ S' s',S.commit s= .ok S' s'∧rv=i64 0∧H'=eD b S'::aG S.L.d s'::Fr) (fun c H'=>∃ s',S.commit s= .off s'∧c=dN∧H'=aG S.L.d s'::Fr)):=by
 refine au func62 aa ntmps62 aa ?_
 have hl:=hL.L
 have hc:=hl.c
 have hc1:=hc.r1
 have hc2:=hc.r2
 have hc3:=hc.l1
 have hc4:=hc.l2
 have hact:=hc.act
 refine mA S.L.d fun hn1 hn2 hn3=>(nG fun bl o1 o2=> ?_)
 have hks:∀ x∈cG (S.dirty.map Prod.fst),0≤x∧x≤1000000:=fun x hx=>by
  obtain⟨p,hp,rfl⟩:=List.mem_map.1 (List.mem_mergeSort.1 hx)
  exact hL.dirty p hp
 have hkl:(cG (S.dirty.map Prod.fst)).length≤1000000:=by rw[cG,List.length_mergeSort,List.length_map];exact hdl
 refine ac (ab (kPa aa aa (ad (ac (ac (ab (kPm aa aa (kPv (ak aa) aa (kPv (aj (m:=_) eg aa aa) aa (kPv (ae isAgg4 aa aa) aa (kPv (bF aa) aa ?_)))))))))))
 refine ad (cf aa (rfl) (ay (ac (ac (ab (kPm aa aa (kPv (ak aa) aa (kPv (aj (m:=_) kt aa aa) aa (kPv (ae isAgg127 aa aa) aa (aQ aa (aA call125 aa) (AY _ _ _) .free aa aa ?_))))))))))
 rintro _ _ ⟨bb,rfl,rfl⟩
 refine aK (H':=row bb [.map (some o2)] 127::bJ .i64 cF o2 S.dirty::dK b bl S true (some o1) (some o2)::dz bl S.L::bJ .i64 cF o1 S.seen::aG S.L.d s::Fr) (fun w hh=>((hh.front 4 aa).front 1 aa)) (aQ aa (aA call124 aa) (zh _ _ _ _ _ hdl) .free aa aa ?_)
 rintro sv _ rfl
 refine Bx fun q cap hq=> ?_
 subst hq
 refine kPv (bY aa runUnderlying125 ⟨_,rfl⟩ rfl) aa (kPm aa aa (ad (ao [17,16,15,2,0] rfl (aO (dY (ι:=Nat×Dev) (fun i=>i.1≤(cG (S.dirty.map Prod.fst)).length∧dG (cG (S.dirty.map Prod.fst)) s=dG ((cG (S.dirty.map Prod.fst)).drop i.1) i.2) (fun i=>[(0,ptr b),(2,i64 0),(15,.slice q (cG (S.dirty.map Prod.fst)).length cap),(16,i64 (cG (S.dirty.map Prod.fst)).length),(17,i64 i.1)]) (fun i=>jA 0 (.slice q (cG (S.dirty.map Prod.fst)).length cap,cG (S.dirty.map Prod.fst))::bJ .i64 cF o2 S.dirty::dK b bl S true (some o1) (some o2)::dz bl S.L::bJ .i64 cF o1 S.seen::aG S.L.d i.2::Fr) (fun i=>(cG (S.dirty.map Prod.fst)).length - i.1) (0,s) ⟨Nat.zero_le _,by simp⟩ (fun a w st=>st.to ⟨rfl,rfl,rfl,rfl,rfl,trivial⟩ id) ?_)))))
 rintro⟨k,s1⟩ ⟨hk1,hk2⟩
 simp only at hk1 hk2 ⊢
 refine ac (ab (kPv (an aa aa aa) aa (ad (ac ?_))))
 refine aW aa (fun h18=> ?_) (fun h18=> ?_)
 ·have hkn:k<(cG (S.dirty.map Prod.fst)).length:=by simpa using h18
  have hkb:=hks _ (List.getElem_mem hkn)
  refine ay (ac (aO (ac (ab (C4 (k:=k) hkn fun bd rest hq hm hcap=> ?_)))))
  subst hq
  refine kPv (bZ runUnderlying125 sizeOf3 aa aa (by omega) (by omega)) aa ?_
  refine kPv (ae (v:=i64 (cG (S.dirty.map Prod.fst))[k]) isAgg3 aa (by rw[Nat.zero_add,Int.toNat_natCast,List.getElem?_append_left (by rw[List.length_map];exact hkn),List.getElem?_map,List.getElem?_eq_getElem hkn];rfl)) aa ?_
  refine kPa aa aa (ad (ab (kPm aa aa (kPv (ak aa) aa (kPv (aj (m:=_) lW aa aa) aa (kPv (ae isAgg28 aa aa) aa (kPm aa aa (kPv (pR aa aa) aa ?_))))))))
  refine aY aa (aA call126 aa) (da (q:=aG) (fun Fr=>ed _ Fr _ _ _)) .free aa aa ?_ ?_
  rotate_left
  ·rintro _ _ ⟨s9,⟨hm9,rfl⟩,rfl⟩
   exact bz fun w hh=>⟨_,⟨s9,by unfold bG.commit;rw[hk2,List.drop_eq_getElem_cons hkn];simp only[dG];rw[hm9];rfl,rfl,rfl⟩,(((((hh.front 4 aa).front 4 aa).front 4 aa).front 4 aa).front 4 aa).tail.tail.tail.tail.tail⟩
  rintro _ _ ⟨s1',⟨e1,hm1,rfl⟩,rfl⟩
  refine ad (ao [17,16,15,2,0] rfl (ab (kPv (aS aa aa) aa (kPm aa aa (ad ?_)))))
  exact fun a w st=>⟨(k+1,s1'),⟨by simp only;omega,by simp only;rw[hk2,List.drop_eq_getElem_cons hkn];simp only[dG];rw[hm1];rfl⟩,by simp only;omega,st.to ⟨rfl,rfl,rfl,rfl,rfl,trivial⟩ (fun hh=>rZ hm hcap hh)⟩
 ·have hkn:¬k<(cG (S.dirty.map Prod.fst)).length:=by simpa using h18
  have hfl:dG (cG (S.dirty.map Prod.fst)) s= .ok () s1:=by
   rw[hk2,List.drop_eq_nil_of_le (by omega)];rfl
  refine bT (ac (ac (ab (kPm aa aa (kPv (ak aa) aa (kPv (aj (m:=_) kt aa aa) aa (kPv (ae isAgg127 aa aa) aa (kPv (yR aa runUnderlying127 aa) aa (kPv (an aa aa aa) aa (ad (ao [34,2,0] rfl ?_)))))))))))
  refine aW aa (fun h34=> ?_) (fun h34=> ?_)
  ·try simp only[decide_eq_true_eq,decide_eq_false_iff_not,Bool.not_eq_true',Bool.not_eq_false',Bool.or_eq_true,Bool.and_eq_true,Bool.and_eq_false_iff,Bool.or_eq_false_iff,beq_iff_eq,bne_iff_ne,beq_eq_false_iff_ne,bne_eq_false_iff_eq,ge_iff_le,gt_iff_lt,ne_eq] at h34
   refine ab (kPm aa aa (kPv (ak aa) aa (kPv (aj (m:=_) lW aa aa) aa (kPv (ae isAgg28 aa aa) aa ?_))))
   refine aY aa (aA call127 aa) (da (q:=aG) (fun Fr=>fK _ Fr _ _)) .free aa aa ?_ ?_
   rotate_left
   ·rintro _ _ ⟨s9,⟨hm9,rfl⟩,rfl⟩
    exact bz fun w hh=>⟨_,⟨s9,by unfold bG.commit;rw[hfl,aX,if_pos (by omega),hm9];rfl,rfl,rfl⟩,(((((hh.front 4 aa).front 4 aa).front 4 aa).front 4 aa).front 4 aa).tail.tail.tail.tail.tail⟩
   rintro _ _ ⟨s4,⟨e4,hm4,rfl⟩,rfl⟩
   refine ad (ac (ab (aK (H':=dz bl S.L::aG S.L.d _::jA 0 (.slice q (cG (S.dirty.map Prod.fst)).length cap,cG (S.dirty.map Prod.fst))::bJ .i64 cF o2 S.dirty::dK b bl S true (some o1) (some o2)::bJ .i64 cF o1 S.seen::Fr) (fun w hh=>((hh.front 5 aa).front 4 aa)) (kPm aa aa (kPv (ak aa) aa (kPv (aj (m:=_) jv aa aa) aa (kPv (ae isAgg116 aa aa) aa ?_)))))))
   refine aY aa (aA call128 aa) (mc _ _ bl S.L _ hL.L) .free aa aa ?_ ?_
   rotate_left
   ·rintro _ _ ⟨s9,hm9,rfl,rfl⟩
    exact bz fun w hh=>⟨_,⟨s9,by unfold bG.commit;rw[hfl];first | (rw[aX,if_pos (by omega),hm4,aX,hm9];rfl) | (rw[aX,if_neg (by omega),aX,hm9];rfl),rfl,rfl⟩,(((((hh.front 5 aa).front 5 aa).front 5 aa).front 5 aa).front 4 aa).tail.tail.tail.tail.tail⟩
   rintro _ _ ⟨L5,s5,hm5,rfl,rfl⟩
   refine ad (ao [2,0] rfl (ac (ab (kPm aa aa (kPv (ak aa) aa (kPv (aj (m:=_) eg aa aa) aa (aD aa (aR sizeOf4 aa aa aa aa) .free aa ?_)))))))
   rintro _ _ rfl
   refine ad (ac (ab (kPa aa aa (ad (az ?_)))))
   exact ax results62 aa (fun w hh=>by
   have hd1:=tO hm5
   obtain⟨d1,c1,e1,n1⟩:=L5
   obtain⟨hd2,hd3⟩:=hd1
   simp only at hd2 hd3
   subst hd2;subst hd3
   exact⟨_,⟨{S with L:=⟨_,_,e1,n1⟩},_,by unfold bG.commit;rw[hfl,aX,if_pos (by omega),hm4,aX,hm5];rfl,rfl,rfl⟩,ei ((((((hh.front 5 aa).front 4 aa).front 4 aa).tail.tail.tail.front 1 aa).front 1 aa).front 2 aa)⟩)
  ·try simp only[decide_eq_true_eq,decide_eq_false_iff_not,Bool.not_eq_true',Bool.not_eq_false',Bool.or_eq_true,Bool.and_eq_true,Bool.and_eq_false_iff,Bool.or_eq_false_iff,beq_iff_eq,bne_iff_ne,beq_eq_false_iff_ne,bne_eq_false_iff_eq,ge_iff_le,gt_iff_lt,ne_eq] at h34
   refine ay (ac (ab (aK (H':=dz bl S.L::aG S.L.d _::jA 0 (.slice q (cG (S.dirty.map Prod.fst)).length cap,cG (S.dirty.map Prod.fst))::bJ .i64 cF o2 S.dirty::dK b bl S true (some o1) (some o2)::bJ .i64 cF o1 S.seen::Fr) (fun w hh=>((hh.front 5 aa).front 4 aa)) (kPm aa aa (kPv (ak aa) aa (kPv (aj (m:=_) jv aa aa) aa (kPv (ae isAgg116 aa aa) aa ?_)))))))
   refine aY aa (aA call128 aa) (mc _ _ bl S.L _ hL.L) .free aa aa ?_ ?_
   rotate_left
   ·rintro _ _ ⟨s9,hm9,rfl,rfl⟩
    exact bz fun w hh=>⟨_,⟨s9,by unfold bG.commit;rw[hfl];first | (rw[aX,if_pos (by omega),hm4,aX,hm9];rfl) | (rw[aX,if_neg (by omega),aX,hm9];rfl),rfl,rfl⟩,(((((hh.front 5 aa).front 5 aa).front 5 aa).front 5 aa).front 4 aa).tail.tail.tail.tail.tail⟩
   rintro _ _ ⟨L5,s5,hm5,rfl,rfl⟩
   refine ad (ac (ab (kPm aa aa (kPv (ak aa) aa (kPv (aj (m:=_) eg aa aa) aa (aD aa (aR sizeOf4 aa aa aa aa) .free aa ?_))))))
   rintro _ _ rfl
   refine ad (ao [2] rfl (ac (ab (kPa aa aa (ad (az ?_))))))
   exact ax results62 aa (fun w hh=>by
   have hd1:=tO hm5
   obtain⟨d1,c1,e1,n1⟩:=L5
   obtain⟨hd2,hd3⟩:=hd1
   simp only at hd2 hd3
   subst hd2;subst hd3
   exact⟨_,⟨{S with L:=⟨_,_,e1,n1⟩},_,by unfold bG.commit;rw[hfl,aX,if_neg (by omega),aX,hm5];rfl,rfl,rfl⟩,ei ((((((hh.front 5 aa).front 4 aa).front 4 aa).tail.tail.tail.front 1 aa).front 1 aa).front 2 aa)⟩)
theorem kM(B:World)(Fr:List HP)(b:Nat)(S:bG)(f t:Int):
 ∀ w,Holds B (eD b S::Fr) w→Calls Tryz.prog 53 [ptr b,.agg #[i64 f,i64 t]].toArray w (Ret B (fun rv H'=>rv=i64 0∧H'=iK b {S with ff:=f,ft:=t,seen:=[],dirty:=[]}::Fr) (fun _ _=>False)):=by
 refine au func53 aa ntmps53 aa (kY fun bl o1 o2=>(ac (ab (aC aa (bx aa) .free aa aa ?_))))
 rintro _ _ ⟨b3,rfl,rfl⟩
 refine kPa aa aa (ad (ac (ac (ab (kPm aa aa (kPv (ak aa) aa (kPv (aj (m:=_) eg aa aa) aa (kPv (ae isAgg4 aa aa) aa (ad (cf aa (rfl) (ay ?_)))))))))))
 refine ac (aK (H':=row b3 [i64 f,i64 t] 99::dK b bl S false o1 o2::dz bl S.L::pr True::pr True::Fr) (fun w hh=>(((hh.unpr trivial).unpr trivial).front 4 aa |>.front 4 aa |>.front 4 aa)) (cg (σ':=[(0,ptr b),(3,ptr b3)]) ⟨rfl,rfl,trivial⟩ ?_))
 refine Bz (G:=Nat×Nat) [0,3] (fun g i=>match i with | 0=>ptr b | 1=>ptr b | 2=>ptr b | 3=>ptr b | 4=> .agg #[i64 f,i64 t] | 5=> .map (some g.1) | 6=> .map (some g.2) | 7=> .pointer (some ⟨b,0,none⟩) | 8=> .pointer (some ⟨b,5,none⟩) | 10=> .pointer (some ⟨b,0,none⟩) | 11=> .pointer (some ⟨b,6,none⟩) | 13=> .pointer (some ⟨b,0,none⟩) | 14=> .pointer (some ⟨b,8,none⟩) | 16=> .pointer (some ⟨b,0,none⟩) | 17=> .pointer (some ⟨b,9,none⟩) | _=>undef) (fun L g=>row b3 [i64 f,i64 t] 99::row b [ptr bl,ptr S.L.d,i64 S.L.c.log,i64 S.L.c.roots,i64 S.L.c.space,.bool (L.getD 9 false),i64 (if (L.getD 12 false)=true then f else S.ff),i64 (if (L.getD 12 false)=true then t else S.ft),.map (if (L.getD 15 false)=true then some g.1 else o1),.map (if (L.getD 18 false)=true then some g.2 else o2)] 129::dz bl S.L::(if (L.getD 5 false)=true then bJ .i64 cF g.1 [] else pr True)::(if (L.getD 6 false)=true then bJ .i64 cF g.2 [] else pr True)::Fr) (0,0) (fun g=>[(0,ptr b)]) (fun g=>row b3 [i64 f,i64 t] 99::dK b bl {S with ff:=f,ft:=t} true (some g.1) (some g.2)::dz bl S.L::bJ .i64 cF g.1 []::bJ .i64 cF g.2 []::Fr) Tryz.mixed (by kernel_rfl) (fun t v h=>q7 h) aa ?_ ?_ ?_
 ·intro i o ho L g hsz hun hcl hdep a hk hd w hw
  have hi:i<19:=(Array.getElem?_eq_some_iff.1 ho).1
  have hL:L.size=19:=hsz
  obtain rfl | rfl | rfl | rfl | rfl | rfl | rfl | rfl | rfl | rfl | rfl | rfl | rfl | rfl | rfl | rfl | rfl | rfl | rfl:i=0∨i=1∨i=2∨i=3∨i=4∨i=5∨i=6∨i=7∨i=8∨i=9∨i=10∨i=11∨i=12∨i=13∨i=14∨i=15∨i=16∨i=17∨i=18:=by omega
  ·obtain rfl:=Option.some.inj (show some _=some o from ho)
   have hk':=hk
   have hun':L.getD 0 false=false:=getD_both hun
   refine dL (v:=ptr b) ?_ hk' hw ⟨g,fun _=>rfl,fun _ _ _=>rfl,by simpa only[getD_set_ne false (show(0:Nat)≠5 by decide),getD_set_ne false (show(0:Nat)≠6 by decide),getD_set_ne false (show(0:Nat)≠9 by decide),getD_set_ne false (show(0:Nat)≠12 by decide),getD_set_ne false (show(0:Nat)≠15 by decide),getD_set_ne false (show(0:Nat)≠18 by decide)] using hw⟩
   first | exact ap rfl | exact Evs.eq (ap rfl) rfl
  ·obtain rfl:=Option.some.inj (show some _=some o from ho)
   have hk':=hk
   have hun':L.getD 1 false=false:=getD_both hun
   refine dL (v:=ptr b) ?_ hk' hw ⟨g,fun _=>rfl,fun _ _ _=>rfl,by simpa only[getD_set_ne false (show(1:Nat)≠5 by decide),getD_set_ne false (show(1:Nat)≠6 by decide),getD_set_ne false (show(1:Nat)≠9 by decide),getD_set_ne false (show(1:Nat)≠12 by decide),getD_set_ne false (show(1:Nat)≠15 by decide),getD_set_ne false (show(1:Nat)≠18 by decide)] using hw⟩
   first | exact ap rfl | exact Evs.eq (ap rfl) rfl
  ·obtain rfl:=Option.some.inj (show some _=some o from ho)
   have hk':=hk
   have hun':L.getD 2 false=false:=getD_both hun
   refine dL (v:=ptr b) ?_ hk' hw ⟨g,fun _=>rfl,fun _ _ _=>rfl,by simpa only[getD_set_ne false (show(2:Nat)≠5 by decide),getD_set_ne false (show(2:Nat)≠6 by decide),getD_set_ne false (show(2:Nat)≠9 by decide),getD_set_ne false (show(2:Nat)≠12 by decide),getD_set_ne false (show(2:Nat)≠15 by decide),getD_set_ne false (show(2:Nat)≠18 by decide)] using hw⟩
   first | exact ap rfl | exact Evs.eq (ap rfl) rfl
  ·obtain rfl:=Option.some.inj (show some _=some o from ho)
   have hk':=hk
   have hun':L.getD 3 false=false:=getD_both hun
   refine dL (v:=ptr b) ?_ hk' hw ⟨g,fun _=>rfl,fun _ _ _=>rfl,by simpa only[getD_set_ne false (show(3:Nat)≠5 by decide),getD_set_ne false (show(3:Nat)≠6 by decide),getD_set_ne false (show(3:Nat)≠9 by decide),getD_set_ne false (show(3:Nat)≠12 by decide),getD_set_ne false (show(3:Nat)≠15 by decide),getD_set_ne false (show(3:Nat)≠18 by decide)] using hw⟩
   first | exact ap rfl | exact Evs.eq (ap rfl) rfl
  ·obtain rfl:=Option.some.inj (show some _=some o from ho)
   have hk':=hk
   have hun':L.getD 4 false=false:=getD_both hun
   refine dL (v:= .agg #[i64 f,i64 t]) ?_ hk' hw ⟨g,fun _=>rfl,fun _ _ _=>rfl,by simpa only[getD_set_ne false (show(4:Nat)≠5 by decide),getD_set_ne false (show(4:Nat)≠6 by decide),getD_set_ne false (show(4:Nat)≠9 by decide),getD_set_ne false (show(4:Nat)≠12 by decide),getD_set_ne false (show(4:Nat)≠15 by decide),getD_set_ne false (show(4:Nat)≠18 by decide)] using hw⟩
   first | exact am isAgg99 sizeOf99 rfl rfl | exact Evs.eq (am isAgg99 sizeOf99 rfl rfl) rfl
  ·obtain rfl:=Option.some.inj (show some _=some o from ho)
   have hk':=hk
   have hun':L.getD 5 false=false:=getD_both hun
   have n15:L.getD 15 false=false:=by
    cases h:L.getD 15 false with
    | false=>rfl
    | true=>have h2:=hcl 15 _ rfl h ⟨5,.data⟩ (by simp) rfl;rw[hun'] at h2;cases h2
   refine ll (eM .i64 cF) hk' hw ?_
   rintro v H' ⟨bn,rfl,rfl⟩ w' hw'
   refine⟨(bn,g.2),fun _=>rfl,fun j hj hl=> ?_,?_⟩
   ·match j with
    | 5=>exact absurd aa hj
    | 0 | 1 | 2 | 3 | 4 | 6 | 7 | 8 | 10 | 11 | 13 | 14 | 16 | 17=>rfl
    | 9 | 12 | 15 | 18 | _+19=>rfl
   ·simp only[getD_set_ne false (show(5:Nat)≠6 by decide),getD_set_ne false (show(5:Nat)≠9 by decide),getD_set_ne false (show(5:Nat)≠12 by decide),getD_set_ne false (show(5:Nat)≠15 by decide),getD_set_ne false (show(5:Nat)≠18 by decide),eE (show 5<L.size by omega)]
    simp only[hun',n15] at hw' ⊢
    exact(((hw'.front 4 aa).tail).front 3 aa |>.front 3 aa |>.front 3 aa)
  ·obtain rfl:=Option.some.inj (show some _=some o from ho)
   have hk':=hk
   have hun':L.getD 6 false=false:=getD_both hun
   have n18:L.getD 18 false=false:=by
    cases h:L.getD 18 false with
    | false=>rfl
    | true=>have h2:=hcl 18 _ rfl h ⟨6,.data⟩ (by simp) rfl;rw[hun'] at h2;cases h2
   refine ll (eM .i64 cF) hk' hw ?_
   rintro v H' ⟨bn,rfl,rfl⟩ w' hw'
   refine⟨(g.1,bn),fun _=>rfl,fun j hj hl=> ?_,?_⟩
   ·match j with
    | 6=>exact absurd aa hj
    | 0 | 1 | 2 | 3 | 4 | 5 | 7 | 8 | 10 | 11 | 13 | 14 | 16 | 17=>rfl
    | 9 | 12 | 15 | 18 | _+19=>rfl
   ·simp only[getD_set_ne false (show(6:Nat)≠5 by decide),getD_set_ne false (show(6:Nat)≠9 by decide),getD_set_ne false (show(6:Nat)≠12 by decide),getD_set_ne false (show(6:Nat)≠15 by decide),getD_set_ne false (show(6:Nat)≠18 by decide),eE (show 6<L.size by omega)]
    simp only[hun',n18] at hw' ⊢
    exact(((hw'.front 5 aa).tail).front 4 aa |>.front 4 aa |>.front 4 aa |>.front 4 aa)
  ·obtain rfl:=Option.some.inj (show some _=some o from ho)
   have d0_data:L.getD 0 false=true:=hdep ⟨0,.data⟩ (by simp) rfl
   have d0:=d0_data
   have d0_phase:L.getD 0 false=true:=hdep ⟨0,.phase⟩ (by simp) rfl
   have d0:=d0_phase
   have v0:a.tmps[9]? =some (ptr b):=hd 0 _ 9 rfl rfl d0
   have hk':=(ck v0 hk)
   have hun':L.getD 7 false=false:=getD_both hun
   refine dL (v:= .pointer (some ⟨b,0,none⟩)) ?_ hk' hw ⟨g,fun _=>rfl,fun _ _ _=>rfl,by simpa only[getD_set_ne false (show(7:Nat)≠5 by decide),getD_set_ne false (show(7:Nat)≠6 by decide),getD_set_ne false (show(7:Nat)≠9 by decide),getD_set_ne false (show(7:Nat)≠12 by decide),getD_set_ne false (show(7:Nat)≠15 by decide),getD_set_ne false (show(7:Nat)≠18 by decide)] using hw⟩
   first | exact ak rfl | exact Evs.eq (ak rfl) rfl
  ·obtain rfl:=Option.some.inj (show some _=some o from ho)
   have d7_data:L.getD 7 false=true:=hdep ⟨7,.data⟩ (by simp) rfl
   have d7:=d7_data
   have v7:a.tmps[16]? =some (.pointer (some ⟨b,0,none⟩)):=hd 7 _ 16 rfl rfl d7
   have hk':=(ck v7 hk)
   have hun':L.getD 8 false=false:=getD_both hun
   refine dL (v:= .pointer (some ⟨b,5,none⟩)) ?_ hk' hw ⟨g,fun _=>rfl,fun _ _ _=>rfl,by simpa only[getD_set_ne false (show(8:Nat)≠5 by decide),getD_set_ne false (show(8:Nat)≠6 by decide),getD_set_ne false (show(8:Nat)≠9 by decide),getD_set_ne false (show(8:Nat)≠12 by decide),getD_set_ne false (show(8:Nat)≠15 by decide),getD_set_ne false (show(8:Nat)≠18 by decide)] using hw⟩
   first | exact aj (m:=_) eg aa aa | exact Evs.eq (aj (m:=_) eg aa aa) aa
  ·obtain rfl:=Option.some.inj (show some _=some o from ho)
   have d8_data:L.getD 8 false=true:=hdep ⟨8,.data⟩ (by simp) rfl
   have d8:=d8_data
   have v8:a.tmps[17]? =some (.pointer (some ⟨b,5,none⟩)):=hd 8 _ 17 rfl rfl d8
   have hk':=(ck v8 hk)
   have hun':L.getD 9 false=false:=getD_both hun
   refine ll (aR sizeOf4 aa aa aa aa) hk' hw ?_
   rintro v H' rfl w' hw'
   refine⟨g,fun h=>absurd aa h,fun _ _ _=>rfl,?_⟩
   simp only[getD_set_ne false (show(9:Nat)≠5 by decide),getD_set_ne false (show(9:Nat)≠6 by decide),getD_set_ne false (show(9:Nat)≠12 by decide),getD_set_ne false (show(9:Nat)≠15 by decide),getD_set_ne false (show(9:Nat)≠18 by decide),eE (show 9<L.size by omega)]
   simp only[hun',if_true] at hw' ⊢
   exact hw'
  ·obtain rfl:=Option.some.inj (show some _=some o from ho)
   have d1_data:L.getD 1 false=true:=hdep ⟨1,.data⟩ (by simp) rfl
   have d1:=d1_data
   have d1_phase:L.getD 1 false=true:=hdep ⟨1,.phase⟩ (by simp) rfl
   have d1:=d1_phase
   have d9_phase:L.getD 9 false=true:=hdep ⟨9,.phase⟩ (by simp) rfl
   have d9:=d9_phase
   have v1:a.tmps[10]? =some (ptr b):=hd 1 _ 10 rfl rfl d1
   have hk':=(ck v1 hk)
   have hun':L.getD 10 false=false:=getD_both hun
   refine dL (v:= .pointer (some ⟨b,0,none⟩)) ?_ hk' hw ⟨g,fun _=>rfl,fun _ _ _=>rfl,by simpa only[getD_set_ne false (show(10:Nat)≠5 by decide),getD_set_ne false (show(10:Nat)≠6 by decide),getD_set_ne false (show(10:Nat)≠9 by decide),getD_set_ne false (show(10:Nat)≠12 by decide),getD_set_ne false (show(10:Nat)≠15 by decide),getD_set_ne false (show(10:Nat)≠18 by decide)] using hw⟩
   first | exact ak rfl | exact Evs.eq (ak rfl) rfl
  ·obtain rfl:=Option.some.inj (show some _=some o from ho)
   have d10_data:L.getD 10 false=true:=hdep ⟨10,.data⟩ (by simp) rfl
   have d10:=d10_data
   have d9_phase:L.getD 9 false=true:=hdep ⟨9,.phase⟩ (by simp) rfl
   have d9:=d9_phase
   have v10:a.tmps[18]? =some (.pointer (some ⟨b,0,none⟩)):=hd 10 _ 18 rfl rfl d10
   have hk':=(ck v10 hk)
   have hun':L.getD 11 false=false:=getD_both hun
   refine dL (v:= .pointer (some ⟨b,6,none⟩)) ?_ hk' hw ⟨g,fun _=>rfl,fun _ _ _=>rfl,by simpa only[getD_set_ne false (show(11:Nat)≠5 by decide),getD_set_ne false (show(11:Nat)≠6 by decide),getD_set_ne false (show(11:Nat)≠9 by decide),getD_set_ne false (show(11:Nat)≠12 by decide),getD_set_ne false (show(11:Nat)≠15 by decide),getD_set_ne false (show(11:Nat)≠18 by decide)] using hw⟩
   first | exact aj (m:=_) nX aa aa | exact Evs.eq (aj (m:=_) nX aa aa) aa
  ·obtain rfl:=Option.some.inj (show some _=some o from ho)
   have d11_data:L.getD 11 false=true:=hdep ⟨11,.data⟩ (by simp) rfl
   have d11:=d11_data
   have d4_data:L.getD 4 false=true:=hdep ⟨4,.data⟩ (by simp) rfl
   have d4:=d4_data
   have d9_chain:L.getD 9 false=true:=hdep ⟨9,.chain⟩ (by simp) rfl
   have d9:=d9_chain
   have d4_phase:L.getD 4 false=true:=hdep ⟨4,.phase⟩ (by simp) rfl
   have d4:=d4_phase
   have d9_phase:L.getD 9 false=true:=hdep ⟨9,.phase⟩ (by simp) rfl
   have d9:=d9_phase
   have v4:a.tmps[13]? =some (.agg #[i64 f,i64 t]):=hd 4 _ 13 rfl rfl d4
   have v11:a.tmps[19]? =some (.pointer (some ⟨b,6,none⟩)):=hd 11 _ 19 rfl rfl d11
   have hk':=(ck v11 (ck v4 hk))
   have hun':L.getD 12 false=false:=getD_both hun
   refine ll (aI (vs:=[i64 f,i64 t]) sizeOf99 aa aa aa aa aa) hk' hw ?_
   rintro v H' rfl w' hw'
   refine⟨g,fun h=>absurd aa h,fun _ _ _=>rfl,?_⟩
   simp only[getD_set_ne false (show(12:Nat)≠5 by decide),getD_set_ne false (show(12:Nat)≠6 by decide),getD_set_ne false (show(12:Nat)≠9 by decide),getD_set_ne false (show(12:Nat)≠15 by decide),getD_set_ne false (show(12:Nat)≠18 by decide),eE (show 12<L.size by omega)]
   simp only[hun',if_true] at hw' ⊢
   exact hw'
  ·obtain rfl:=Option.some.inj (show some _=some o from ho)
   have d2_data:L.getD 2 false=true:=hdep ⟨2,.data⟩ (by simp) rfl
   have d2:=d2_data
   have d2_phase:L.getD 2 false=true:=hdep ⟨2,.phase⟩ (by simp) rfl
   have d2:=d2_phase
   have d5_phase:L.getD 5 false=true:=hdep ⟨5,.phase⟩ (by simp) rfl
   have d5:=d5_phase
   have d9_phase:L.getD 9 false=true:=hdep ⟨9,.phase⟩ (by simp) rfl
   have d9:=d9_phase
   have d12_phase:L.getD 12 false=true:=hdep ⟨12,.phase⟩ (by simp) rfl
   have d12:=d12_phase
   have v2:a.tmps[11]? =some (ptr b):=hd 2 _ 11 rfl rfl d2
   have hk':=(ck v2 hk)
   have hun':L.getD 13 false=false:=getD_both hun
   refine dL (v:= .pointer (some ⟨b,0,none⟩)) ?_ hk' hw ⟨g,fun _=>rfl,fun _ _ _=>rfl,by simpa only[getD_set_ne false (show(13:Nat)≠5 by decide),getD_set_ne false (show(13:Nat)≠6 by decide),getD_set_ne false (show(13:Nat)≠9 by decide),getD_set_ne false (show(13:Nat)≠12 by decide),getD_set_ne false (show(13:Nat)≠15 by decide),getD_set_ne false (show(13:Nat)≠18 by decide)] using hw⟩
   first | exact ak rfl | exact Evs.eq (ak rfl) rfl
  ·obtain rfl:=Option.some.inj (show some _=some o from ho)
   have d13_data:L.getD 13 false=true:=hdep ⟨13,.data⟩ (by simp) rfl
   have d13:=d13_data
   have d5_phase:L.getD 5 false=true:=hdep ⟨5,.phase⟩ (by simp) rfl
   have d5:=d5_phase
   have d9_phase:L.getD 9 false=true:=hdep ⟨9,.phase⟩ (by simp) rfl
   have d9:=d9_phase
   have d12_phase:L.getD 12 false=true:=hdep ⟨12,.phase⟩ (by simp) rfl
   have d12:=d12_phase
   have v13:a.tmps[20]? =some (.pointer (some ⟨b,0,none⟩)):=hd 13 _ 20 rfl rfl d13
   have hk':=(ck v13 hk)
   have hun':L.getD 14 false=false:=getD_both hun
   refine dL (v:= .pointer (some ⟨b,8,none⟩)) ?_ hk' hw ⟨g,fun _=>rfl,fun _ _ _=>rfl,by simpa only[getD_set_ne false (show(14:Nat)≠5 by decide),getD_set_ne false (show(14:Nat)≠6 by decide),getD_set_ne false (show(14:Nat)≠9 by decide),getD_set_ne false (show(14:Nat)≠12 by decide),getD_set_ne false (show(14:Nat)≠15 by decide),getD_set_ne false (show(14:Nat)≠18 by decide)] using hw⟩
   first | exact aj (m:=_) nW aa aa | exact Evs.eq (aj (m:=_) nW aa aa) aa
  ·obtain rfl:=Option.some.inj (show some _=some o from ho)
   have d14_data:L.getD 14 false=true:=hdep ⟨14,.data⟩ (by simp) rfl
   have d14:=d14_data
   have d5_data:L.getD 5 false=true:=hdep ⟨5,.data⟩ (by simp) rfl
   have d5:=d5_data
   have d12_chain:L.getD 12 false=true:=hdep ⟨12,.chain⟩ (by simp) rfl
   have d12:=d12_chain
   have d5_phase:L.getD 5 false=true:=hdep ⟨5,.phase⟩ (by simp) rfl
   have d5:=d5_phase
   have d9_phase:L.getD 9 false=true:=hdep ⟨9,.phase⟩ (by simp) rfl
   have d9:=d9_phase
   have d12_phase:L.getD 12 false=true:=hdep ⟨12,.phase⟩ (by simp) rfl
   have d12:=d12_phase
   have v5:a.tmps[14]? =some (.map (some g.1)):=hd 5 _ 14 rfl rfl d5
   have v14:a.tmps[21]? =some (.pointer (some ⟨b,8,none⟩)):=hd 14 _ 21 rfl rfl d14
   have hk':=(ck v14 (ck v5 hk))
   have hun':L.getD 15 false=false:=getD_both hun
   refine ll (aR sizeOf127 aa aa aa aa) hk' hw ?_
   rintro v H' rfl w' hw'
   refine⟨g,fun h=>absurd aa h,fun _ _ _=>rfl,?_⟩
   simp only[getD_set_ne false (show(15:Nat)≠5 by decide),getD_set_ne false (show(15:Nat)≠6 by decide),getD_set_ne false (show(15:Nat)≠9 by decide),getD_set_ne false (show(15:Nat)≠12 by decide),getD_set_ne false (show(15:Nat)≠18 by decide),eE (show 15<L.size by omega)]
   simp only[hun',if_true] at hw' ⊢
   exact hw'
  ·obtain rfl:=Option.some.inj (show some _=some o from ho)
   have d3_data:L.getD 3 false=true:=hdep ⟨3,.data⟩ (by simp) rfl
   have d3:=d3_data
   have d3_phase:L.getD 3 false=true:=hdep ⟨3,.phase⟩ (by simp) rfl
   have d3:=d3_phase
   have d5_phase:L.getD 5 false=true:=hdep ⟨5,.phase⟩ (by simp) rfl
   have d5:=d5_phase
   have d6_phase:L.getD 6 false=true:=hdep ⟨6,.phase⟩ (by simp) rfl
   have d6:=d6_phase
   have d9_phase:L.getD 9 false=true:=hdep ⟨9,.phase⟩ (by simp) rfl
   have d9:=d9_phase
   have d12_phase:L.getD 12 false=true:=hdep ⟨12,.phase⟩ (by simp) rfl
   have d12:=d12_phase
   have d15_phase:L.getD 15 false=true:=hdep ⟨15,.phase⟩ (by simp) rfl
   have d15:=d15_phase
   have v3:a.tmps[12]? =some (ptr b):=hd 3 _ 12 rfl rfl d3
   have hk':=(ck v3 hk)
   have hun':L.getD 16 false=false:=getD_both hun
   refine dL (v:= .pointer (some ⟨b,0,none⟩)) ?_ hk' hw ⟨g,fun _=>rfl,fun _ _ _=>rfl,by simpa only[getD_set_ne false (show(16:Nat)≠5 by decide),getD_set_ne false (show(16:Nat)≠6 by decide),getD_set_ne false (show(16:Nat)≠9 by decide),getD_set_ne false (show(16:Nat)≠12 by decide),getD_set_ne false (show(16:Nat)≠15 by decide),getD_set_ne false (show(16:Nat)≠18 by decide)] using hw⟩
   first | exact ak rfl | exact Evs.eq (ak rfl) rfl
  ·obtain rfl:=Option.some.inj (show some _=some o from ho)
   have d16_data:L.getD 16 false=true:=hdep ⟨16,.data⟩ (by simp) rfl
   have d16:=d16_data
   have d5_phase:L.getD 5 false=true:=hdep ⟨5,.phase⟩ (by simp) rfl
   have d5:=d5_phase
   have d6_phase:L.getD 6 false=true:=hdep ⟨6,.phase⟩ (by simp) rfl
   have d6:=d6_phase
   have d9_phase:L.getD 9 false=true:=hdep ⟨9,.phase⟩ (by simp) rfl
   have d9:=d9_phase
   have d12_phase:L.getD 12 false=true:=hdep ⟨12,.phase⟩ (by simp) rfl
   have d12:=d12_phase
   have d15_phase:L.getD 15 false=true:=hdep ⟨15,.phase⟩ (by simp) rfl
   have d15:=d15_phase
   have v16:a.tmps[22]? =some (.pointer (some ⟨b,0,none⟩)):=hd 16 _ 22 rfl rfl d16
   have hk':=(ck v16 hk)
   have hun':L.getD 17 false=false:=getD_both hun
   refine dL (v:= .pointer (some ⟨b,9,none⟩)) ?_ hk' hw ⟨g,fun _=>rfl,fun _ _ _=>rfl,by simpa only[getD_set_ne false (show(17:Nat)≠5 by decide),getD_set_ne false (show(17:Nat)≠6 by decide),getD_set_ne false (show(17:Nat)≠9 by decide),getD_set_ne false (show(17:Nat)≠12 by decide),getD_set_ne false (show(17:Nat)≠15 by decide),getD_set_ne false (show(17:Nat)≠18 by decide)] using hw⟩
   first | exact aj (m:=_) kt aa aa | exact Evs.eq (aj (m:=_) kt aa aa) aa
  ·obtain rfl:=Option.some.inj (show some _=some o from ho)
   have d17_data:L.getD 17 false=true:=hdep ⟨17,.data⟩ (by simp) rfl
   have d17:=d17_data
   have d6_data:L.getD 6 false=true:=hdep ⟨6,.data⟩ (by simp) rfl
   have d6:=d6_data
   have d15_chain:L.getD 15 false=true:=hdep ⟨15,.chain⟩ (by simp) rfl
   have d15:=d15_chain
   have d5_phase:L.getD 5 false=true:=hdep ⟨5,.phase⟩ (by simp) rfl
   have d5:=d5_phase
   have d6_phase:L.getD 6 false=true:=hdep ⟨6,.phase⟩ (by simp) rfl
   have d6:=d6_phase
   have d9_phase:L.getD 9 false=true:=hdep ⟨9,.phase⟩ (by simp) rfl
   have d9:=d9_phase
   have d12_phase:L.getD 12 false=true:=hdep ⟨12,.phase⟩ (by simp) rfl
   have d12:=d12_phase
   have d15_phase:L.getD 15 false=true:=hdep ⟨15,.phase⟩ (by simp) rfl
   have d15:=d15_phase
   have v6:a.tmps[15]? =some (.map (some g.2)):=hd 6 _ 15 rfl rfl d6
   have v17:a.tmps[23]? =some (.pointer (some ⟨b,9,none⟩)):=hd 17 _ 23 rfl rfl d17
   have hk':=(ck v17 (ck v6 hk))
   have hun':L.getD 18 false=false:=getD_both hun
   refine ll (aR sizeOf127 aa aa aa aa) hk' hw ?_
   rintro v H' rfl w' hw'
   refine⟨g,fun h=>absurd aa h,fun _ _ _=>rfl,?_⟩
   simp only[getD_set_ne false (show(18:Nat)≠5 by decide),getD_set_ne false (show(18:Nat)≠6 by decide),getD_set_ne false (show(18:Nat)≠9 by decide),getD_set_ne false (show(18:Nat)≠12 by decide),getD_set_ne false (show(18:Nat)≠15 by decide),eE (show 18<L.size by omega)]
   simp only[hun',if_true] at hw' ⊢
   exact hw'
 ·intro L g hall a w hk hd hw
  have h5:=hall 5 (by decide)
  have h6:=hall 6 (by decide)
  have h9:=hall 9 (by decide)
  have h12:=hall 12 (by decide)
  have h15:=hall 15 (by decide)
  have h18:=hall 18 (by decide)
  simp only[h5,h6,h9,h12,h15,h18,if_true] at hw
  exact⟨fun u x e=>hk u x (by simp only[look] at e ⊢;cases hb:Nat.beq 0 u<;>simp_all),hw⟩
 intro g
 refine ac (ab (kPa aa aa (ad (ao [4] rfl (az ?_)))))
 exact ax results53 aa (fun w hh=>⟨_,⟨rfl,rfl⟩,gj (S:={S with ff:=f,ft:=t,seen:=[],dirty:=[]}) hh.tail⟩)
theorem Cn{L L':ce}{s s':Dev}(h:L.undo s= .ok L' s'):L'.d=L.d∧L'.c=L.c:=by
 unfold ce.undo at h
 cases h1:jV undoS L.c L.n.toNat s with
 | off s1=>rw[h1] at h;cases h
 | ok u s1=>
   rw[h1,aX] at h
   cases h2:(if 0<L.n then s1.fence else Out.ok () s1) with
   | off s2=>rw[h2] at h;cases h
   | ok u s2=>rw[h2,aX] at h;exact tO h
theorem mJ(B:World)(Fr:List HP)(b:Nat)(S:bG)(s:Dev)(hL:mZ S):
 ∀ w,Holds B (iK b S::aG S.L.d s::Fr) w→Calls Tryz.prog 145 [ptr b].toArray w (Ret B (fun rv H'=>∃ S' s',S.abort s= .ok S' s'∧rv=i64 0∧H'=eD b S'::aG S.L.d s'::Fr) (fun c H'=>∃ s',S.abort s= .off s'∧c=dN∧H'=aG S.L.d s'::Fr)):=by
 refine au func145 aa ntmps145 aa ?_
 have hl:=hL.L
 have hc:=hl.c
 have hc1:=hc.r1
 have hc2:=hc.r2
 have hc3:=hc.l1
 have hc4:=hc.l2
 have hact:=hc.act
 refine mA S.L.d fun hn1 hn2 hn3=>(nG fun bl o1 o2=>(ac (ab (kPa aa aa (ad (ac (ac (ab (kPm aa aa (kPv (ak aa) aa (kPv (aj (m:=_) eg aa aa) aa ?_)))))))))))
 refine kPv (ae isAgg4 aa aa) aa (kPv (bF aa) aa (ad (cf aa (rfl) (ay (ac (ab (aK (H':=dz bl S.L::aG S.L.d s::dK b bl S true (some o1) (some o2)::bJ .i64 cF o1 S.seen::bJ .i64 cF o2 S.dirty::Fr) (fun w hh=>((hh.front 4 aa).front 2 aa)) (kPm aa aa (kPv (ak aa) aa (kPv (aj (m:=_) jv aa aa) aa (kPv (ae isAgg116 aa aa) aa ?_)))))))))))
 refine aY aa (aA call67 aa) (q6 _ _ bl S.L _ hL.L) .free aa aa ?_ ?_
 rotate_left
 ·rintro _ _ ⟨s9,hm9,rfl,rfl⟩
  exact bz fun w hh=>⟨_,⟨s9,by simp[bG.abort,hm9],rfl,rfl⟩,((((hh.front 4 aa).front 4 aa).front 4 aa).front 3 aa).tail.tail.tail.tail⟩
 rintro _ _ ⟨L5,s5,hm5,rfl,rfl⟩
 refine ad (ao [2,0] rfl (ac (ab (kPm aa aa (kPv (ak aa) aa (kPv (aj (m:=_) eg aa aa) aa (aD aa (aR sizeOf4 aa aa aa aa) .free aa ?_)))))))
 rintro _ _ rfl
 refine ad (ac (ab (kPa aa aa (ad (az ?_)))))
 exact ax results145 aa (fun w hh=>by
  have hd1:=Cn hm5
  obtain⟨d1,c1,e1,n1⟩:=L5
  obtain⟨hd2,hd3⟩:=hd1
  simp only at hd2 hd3
  subst hd2;subst hd3
  exact⟨_,⟨{S with L:=⟨_,_,e1,n1⟩},_,by simp[bG.abort,hm5],rfl,rfl⟩,ei (((((hh.front 4 aa).front 4 aa).tail.tail.front 1 aa).front 1 aa).front 2 aa)⟩)
theorem tU(B:World)(Fr:List HP)(bd:Nat)(s:Dev)(c:Cfg)(hc:bC c):
 ∀ w,Holds B (aG bd s::Fr) w→Calls Tryz.prog 69 [ptr bd,eO c].toArray w (Ret B (fun rv H'=>∃ b,rv=ptr b∧H'=eD b ⟨cC bd c s,0,0,[],[]⟩::aG bd s::Fr) (fun _ _=>False)):=by
 refine au func69 aa ntmps69 aa (ac (ab (aC aa (bx aa) .free aa aa ?_)))
 rintro _ _ ⟨b3,rfl,rfl⟩
 refine kPa aa aa (ad (ac (aK (H':=pr True::aG bd s::row b3 [i64 c.log,i64 c.roots,i64 c.space] 40::pr True::Fr) (fun w hh=>((((hh.unpr trivial).front 1 aa).front 2 aa).unpr trivial)) (cg (σ':=[(0,ptr bd),(3,ptr b3)]) ⟨rfl,rfl,trivial⟩ ?_))))
 refine Bz (G:=Nat×Nat) [0,3] (fun g i=>match i with | 0=>ptr bd | 1=>eO c | 2=>ptr g.1 | 3=>ptr bd | 4=>eO c | 5=> .agg #[ptr g.1,ptr bd,i64 c.log,i64 c.roots,i64 c.space,.bool false,i64 0,i64 0,.map none,.map none] | 6=>ptr g.2 | 7=>ptr g.2 | _=>undef) (fun L g=>(if (L.getD 2 false)=true then dz g.1 (cC bd c s) else pr True)::aG bd s::row b3 [i64 c.log,i64 c.roots,i64 c.space] 40::(if (L.getD 6 false)=true then dK g.2 g.1 ⟨cC bd c s,0,0,[],[]⟩ false none none else pr True)::Fr) (0,0) (fun g=>[(4,ptr g.2)]) (fun g=>dz g.1 (cC bd c s)::aG bd s::row b3 [i64 c.log,i64 c.roots,i64 c.space] 40::dK g.2 g.1 ⟨cC bd c s,0,0,[],[]⟩ false none none::Fr) Tryz.mixed (by kernel_rfl) (fun t v h=>q7 h) aa ?_ ?_ ?_
 ·intro i o ho L g hsz hun hcl hdep a hk hd w hw
  have hi:i<8:=(Array.getElem?_eq_some_iff.1 ho).1
  have hL:L.size=8:=hsz
  obtain rfl | rfl | rfl | rfl | rfl | rfl | rfl | rfl:i=0∨i=1∨i=2∨i=3∨i=4∨i=5∨i=6∨i=7:=by omega
  ·obtain rfl:=Option.some.inj (show some _=some o from ho)
   have hk':=hk
   have hun':L.getD 0 false=false:=getD_both hun
   refine dL (v:=ptr bd) ?_ hk' hw ⟨g,fun _=>rfl,fun _ _ _=>rfl,by simpa only[getD_set_ne false (show(0:Nat)≠2 by decide),getD_set_ne false (show(0:Nat)≠6 by decide)] using hw⟩
   first | exact ap rfl | exact Evs.eq (ap rfl) rfl
  ·obtain rfl:=Option.some.inj (show some _=some o from ho)
   have hk':=hk
   have hun':L.getD 1 false=false:=getD_both hun
   refine dL (v:=eO c) ?_ hk' hw ⟨g,fun _=>rfl,fun _ _ _=>rfl,by simpa only[getD_set_ne false (show(1:Nat)≠2 by decide),getD_set_ne false (show(1:Nat)≠6 by decide)] using hw⟩
   first | exact am isAgg40 sizeOf40 rfl rfl | exact Evs.eq (am isAgg40 sizeOf40 rfl rfl) rfl
  ·obtain rfl:=Option.some.inj (show some _=some o from ho)
   have d0_data:L.getD 0 false=true:=hdep ⟨0,.data⟩ (by simp) rfl
   have d0:=d0_data
   have d1_data:L.getD 1 false=true:=hdep ⟨1,.data⟩ (by simp) rfl
   have d1:=d1_data
   have v0:a.tmps[5]? =some (ptr bd):=hd 0 _ 5 rfl rfl d0
   have v1:a.tmps[6]? =some (eO c):=hd 1 _ 6 rfl rfl d1
   have hk':=(ck v1 (ck v0 hk))
   have hun':L.getD 2 false=false:=getD_both hun
   have n6:L.getD 6 false=false:=by
    cases h:L.getD 6 false with
    | false=>rfl
    | true=>have h2:=hcl 6 _ rfl h ⟨5,.data⟩ (by simp) rfl;have h3:=hcl 5 _ rfl h2 ⟨2,.data⟩ (by simp) rfl;rw[hun'] at h3;cases h3
   simp only[hun',n6] at hw
   refine BR (aA call64 aa) (lO B _ bd s c hc) hk' (hw.tail) ?_
   rintro v H' ⟨bl,rfl,rfl⟩ w' hw'
   refine⟨(bl,g.2),fun _=>rfl,fun j hj hl=> ?_,?_⟩
   ·match j with
    | 2=>exact absurd aa hj
    | 5=>have h3:=hcl 5 _ rfl hl ⟨2,.data⟩ (by simp) rfl;rw[hun'] at h3;cases h3
    | 0 | 1 | 3 | 4 | 6 | 7=>rfl
    | _+8=>rfl
   ·simp only[getD_set_ne false (show(2:Nat)≠6 by decide),eE (show 2<L.size by omega)]
    simp only[n6,if_true] at hw' ⊢
    exact hw'
  ·obtain rfl:=Option.some.inj (show some _=some o from ho)
   have hk':=hk
   have hun':L.getD 3 false=false:=getD_both hun
   refine dL (v:=ptr bd) ?_ hk' hw ⟨g,fun _=>rfl,fun _ _ _=>rfl,by simpa only[getD_set_ne false (show(3:Nat)≠2 by decide),getD_set_ne false (show(3:Nat)≠6 by decide)] using hw⟩
   first | exact ap rfl | exact Evs.eq (ap rfl) rfl
  ·obtain rfl:=Option.some.inj (show some _=some o from ho)
   have hk':=hk
   have hun':L.getD 4 false=false:=getD_both hun
   refine dL (v:=eO c) ?_ hk' hw ⟨g,fun _=>rfl,fun _ _ _=>rfl,by simpa only[getD_set_ne false (show(4:Nat)≠2 by decide),getD_set_ne false (show(4:Nat)≠6 by decide)] using hw⟩
   first | exact am isAgg40 sizeOf40 rfl rfl | exact Evs.eq (am isAgg40 sizeOf40 rfl rfl) rfl
  ·obtain rfl:=Option.some.inj (show some _=some o from ho)
   have d2_data:L.getD 2 false=true:=hdep ⟨2,.data⟩ (by simp) rfl
   have d2:=d2_data
   have d3_data:L.getD 3 false=true:=hdep ⟨3,.data⟩ (by simp) rfl
   have d3:=d3_data
   have d4_data:L.getD 4 false=true:=hdep ⟨4,.data⟩ (by simp) rfl
   have d4:=d4_data
   have v2:a.tmps[7]? =some (ptr g.1):=hd 2 _ 7 rfl rfl d2
   have v3:a.tmps[8]? =some (ptr bd):=hd 3 _ 8 rfl rfl d3
   have v4:a.tmps[9]? =some (eO c):=hd 4 _ 9 rfl rfl d4
   have hk':=(ck v4 (ck v3 (ck v2 hk)))
   have hun':L.getD 5 false=false:=getD_both hun
   refine dL (v:= .agg #[ptr g.1,ptr bd,i64 c.log,i64 c.roots,i64 c.space,.bool false,i64 0,i64 0,.map none,.map none]) ?_ hk' hw ⟨g,fun _=>rfl,fun _ _ _=>rfl,by simpa only[getD_set_ne false (show(5:Nat)≠2 by decide),getD_set_ne false (show(5:Nat)≠6 by decide)] using hw⟩
   first | exact aZ rfl (mC _ _ _ _ _ (by first | rfl | assumption) (by first | rfl | assumption)) | exact Evs.eq (aZ rfl (mC _ _ _ _ _ (by first | rfl | assumption) (by first | rfl | assumption))) rfl
  ·obtain rfl:=Option.some.inj (show some _=some o from ho)
   have d5_data:L.getD 5 false=true:=hdep ⟨5,.data⟩ (by simp) rfl
   have d5:=d5_data
   have v5:a.tmps[10]? =some (.agg #[ptr g.1,ptr bd,i64 c.log,i64 c.roots,i64 c.space,.bool false,i64 0,i64 0,.map none,.map none]):=hd 5 _ 10 rfl rfl d5
   have hk':=(ck v5 hk)
   have hun':L.getD 6 false=false:=getD_both hun
   have d2:L.getD 2 false=true:=hcl 5 _ rfl d5 ⟨2,.data⟩ (by simp) rfl
   refine ll (bx aa) hk' hw ?_
   rintro v H' ⟨b,rfl,rfl⟩ w' hw'
   refine⟨(g.1,b),fun _=>rfl,fun j hj hl=> ?_,?_⟩
   ·match j with
    | 6=>exact absurd aa hj
    | 7=>have h3:=hcl 7 _ rfl hl ⟨6,.data⟩ (by simp) rfl;rw[hun'] at h3;cases h3
    | 0 | 1 | 2 | 3 | 4 | 5=>rfl
    | _+8=>rfl
   ·simp only[getD_set_ne false (show(6:Nat)≠2 by decide),eE (show 6<L.size by omega)]
    simp only[hun',if_true] at hw' ⊢
    exact(((hw'.front 4 aa).tail).front 3 aa |>.front 3 aa |>.front 3 aa)
  ·obtain rfl:=Option.some.inj (show some _=some o from ho)
   have d6_data:L.getD 6 false=true:=hdep ⟨6,.data⟩ (by simp) rfl
   have d6:=d6_data
   have d2_chain:L.getD 2 false=true:=hdep ⟨2,.chain⟩ (by simp) rfl
   have d2:=d2_chain
   have d2_phase:L.getD 2 false=true:=hdep ⟨2,.phase⟩ (by simp) rfl
   have d2:=d2_phase
   have d6_phase:L.getD 6 false=true:=hdep ⟨6,.phase⟩ (by simp) rfl
   have d6:=d6_phase
   have v6:a.tmps[11]? =some (ptr g.2):=hd 6 _ 11 rfl rfl d6
   have hk':=(ck v6 hk)
   have hun':L.getD 7 false=false:=getD_both hun
   refine dL (v:=ptr g.2) ?_ hk' hw ⟨g,fun _=>rfl,fun _ _ _=>rfl,by simpa only[getD_set_ne false (show(7:Nat)≠2 by decide),getD_set_ne false (show(7:Nat)≠6 by decide)] using hw⟩
   first | exact bK rfl | exact Evs.eq (bK rfl) rfl
 ·intro L g hall a w hk hd hw
  have h2:=hall 2 (by decide)
  have h6:=hall 6 (by decide)
  have h7:=hall 7 (by decide)
  simp only[h2,h6,if_true] at hw
  exact⟨KnA.knows ⟨hd 7 _ 4 aa aa h7,trivial⟩,hw⟩
 intro g
 refine az ?_
 exact ax results69 aa (fun w hh=>⟨_,⟨_,rfl,rfl⟩,ei (S:=⟨cC bd c s,0,0,[],[]⟩) ((((hh.front 2 aa).tail).front 2 aa).front 1 aa |>.front 1 aa)⟩)
theorem wo(c:Cfg):bC c↔1≤c.roots∧c.roots≤16∧c.roots+2≤c.log∧c.log≤200∧8≤c.space∧c.space≤4096:=⟨fun h=>⟨h.r1,h.r2,h.l1,h.l2,h.s1,h.s2⟩,fun ⟨a,b,c,d,e,f⟩=>⟨a,b,c,d,e,f⟩⟩
def chk(c:Cfg):Int:=if bC c then 0 else 1
theorem DT{c:Cfg}(h:(chk c !=0)=false):bC c:=by
 unfold chk at h;split at h
 ·assumption
 ·simp at h
def fh(f:Int→Int):Nat→Int→Dev→Out Unit
 | 0,_,s=> .ok () s
 | k+1,i,s=>(s.store (f i) 0).then fun _ s=>(s.flush (f i)).then fun _ s=>fh f k (i+1) s
def ig:Int:=6076848300954571569
def st3(l:List Int):Nat→Nat→Dev→Out Unit
 | 0,_,s=> .ok () s
 | k+1,i,s=>(s.store (1+(i:Int)) (l.getD i 0)).then fun _ s=>st3 l k (i+1) s
theorem Ep{a b c:Int}{k:Nat}(h:k<3):([i64 a,i64 b,i64 c]:List Value)[k]? =some (i64 ([a,b,c].getD k 0)):=by
 rcases (by omega:k=0∨k=1∨k=2) with rfl | rfl | rfl<;>rfl
theorem Fo{a b c:Int}{k:Nat}(h:k<3)(ha:0≤a∧a≤100000)(hb:0≤b∧b≤100000)(hc:0≤c∧c≤100000):0≤[a,b,c].getD k 0∧[a,b,c].getD k 0≤100000:=by
 rcases (by omega:k=0∨k=1∨k=2) with rfl | rfl | rfl<;>simpa
def Dev.format(s:Dev)(c:Cfg):Out Int:=
 if ¬ bC c∨(s.n:Int)≠c.words then .ok 1 s else
  (s.store 0 0).then fun _ s=>(s.flush 0).then fun _ s=>s.fence.then fun _ s=>
  (st3 [c.log,c.roots,c.space] 3 0 s).then fun _ s=>
  (s.store 8 1).then fun _ s=>(s.flush 8).then fun _ s=>(fh c.record c.log.toNat 0 s).then fun _ s=>
  (fh id (c.root c.roots - c.active).toNat c.active s).then fun _ s=>(s.flush 0).then fun _ s=>s.fence.then fun _ s=>
  (s.store 0 ig).then fun _ s=>(s.flush 0).then fun _ s=>s.fence.then fun _ s=> .ok 0 s
theorem rQ(B:World)(H:List HP)(c:Cfg):
 ∀ w,Holds B H w→Calls Tryz.prog 129 [eO c].toArray w (bB B H (i64 (chk c))):=by
 refine au func129 aa ntmps129 aa (ac (ab (aC aa (bx aa) .free aa aa ?_)))
 rintro _ _ ⟨b1,rfl,rfl⟩
 refine kPa aa aa (ad (ac (ac (ab (kPv (aj (m:=_) fm aa aa) aa (kPv (ae isAgg3 aa aa) aa (kPv (an aa aa aa) aa (kPm aa aa ?_))))))))
 apply gl (tp:=10) (t:=6) (σ1:=[(6,_),(2,_),(1,_)]) 4 rfl (aF rfl)
 ·intro hg1
  refine aq aa (aj (m:=_) fm aa aa) (.on aa aa (ah hg1)) aa aa (aq aa (ae isAgg3 aa aa) (.on aa aa (ah hg1)) aa aa (aq aa (an aa aa aa) (.on aa aa (ah hg1)) aa aa (kPv (aL aa hg1 aa) aa ?_)))
  exact ba aa (aF aa) (eZ hg1)
 ·intro hg1
  refine ar aa (.on aa aa (ai hg1)) aa (ar aa (.on aa aa (ai hg1)) aa (ar aa (.on aa aa (ai hg1)) aa (kPv (aH aa hg1 aa) aa ?_)))
  exact ba aa (aF aa) (eY hg1)
 refine kPm aa aa ?_
 apply gl (tp:=18) (t:=11) (σ1:=[(11,_),(2,_),(1,_)]) 7 rfl (aF rfl)
 ·intro hg2
  refine aq aa (aj (m:=_) jM aa aa) (.on aa aa (ah hg2)) aa aa (aq aa (ae isAgg3 aa aa) (.on aa aa (ah hg2)) aa aa (aq aa (aj (m:=_) fm aa aa) (.on aa aa (ah hg2)) aa aa (aq aa (ae isAgg3 aa aa) (.on aa aa (ah hg2)) aa aa (aq aa (oP (c:=c.roots+2) aa aa (by simp only[Bool.or_eq_false_iff,decide_eq_false_iff_not] at*;rw[gh (by omega)])) (.on aa aa (ah hg2)) aa aa (aq aa (an aa aa aa) (.on aa aa (ah hg2)) aa aa (kPv (aL aa hg2 aa) aa ?_))))))
  exact ba aa (aF aa) (eZ hg2)
 ·intro hg2
  refine ar aa (.on aa aa (ai hg2)) aa (ar aa (.on aa aa (ai hg2)) aa (ar aa (.on aa aa (ai hg2)) aa (ar aa (.on aa aa (ai hg2)) aa (ar aa (.on aa aa (ai hg2)) aa (ar aa (.on aa aa (ai hg2)) aa (kPv (aH aa hg2 aa) aa ?_))))))
  exact ba aa (aF aa) (eY hg2)
 refine kPm aa aa ?_
 apply gl (tp:=23) (t:=19) (σ1:=[(19,_),(2,_),(1,_)]) 4 rfl (aF rfl)
 ·intro hg3
  refine aq aa (aj (m:=_) jM aa aa) (.on aa aa (ah hg3)) aa aa (aq aa (ae isAgg3 aa aa) (.on aa aa (ah hg3)) aa aa (aq aa (an aa aa aa) (.on aa aa (ah hg3)) aa aa (kPv (aL aa hg3 aa) aa ?_)))
  exact ba aa (aF aa) (eZ hg3)
 ·intro hg3
  refine ar aa (.on aa aa (ai hg3)) aa (ar aa (.on aa aa (ai hg3)) aa (ar aa (.on aa aa (ai hg3)) aa (kPv (aH aa hg3 aa) aa ?_)))
  exact ba aa (aF aa) (eY hg3)
 refine kPm aa aa ?_
 apply gl (tp:=28) (t:=24) (σ1:=[(24,_),(2,_),(1,_)]) 4 rfl (aF rfl)
 ·intro hg4
  refine aq aa (aj (m:=_) dX aa aa) (.on aa aa (ah hg4)) aa aa (aq aa (ae isAgg3 aa aa) (.on aa aa (ah hg4)) aa aa (aq aa (an aa aa aa) (.on aa aa (ah hg4)) aa aa (kPv (aL aa hg4 aa) aa ?_)))
  exact ba aa (aF aa) (eZ hg4)
 ·intro hg4
  refine ar aa (.on aa aa (ai hg4)) aa (ar aa (.on aa aa (ai hg4)) aa (ar aa (.on aa aa (ai hg4)) aa (kPv (aH aa hg4 aa) aa ?_)))
  exact ba aa (aF aa) (eY hg4)
 refine kPm aa aa ?_
 apply gl (tp:=33) (t:=29) (σ1:=[(29,_),(2,_)]) 4 rfl ⟨rfl,rfl,trivial⟩
 ·intro hg5
  refine aq aa (aj (m:=_) dX aa aa) (.on aa aa (ah hg5)) aa aa (aq aa (ae isAgg3 aa aa) (.on aa aa (ah hg5)) aa aa (aq aa (an aa aa aa) (.on aa aa (ah hg5)) aa aa (kPv (aL aa hg5 aa) aa ?_)))
  exact ba aa ⟨rfl,rfl,trivial⟩ (eZ hg5)
 ·intro hg5
  refine ar aa (.on aa aa (ai hg5)) aa (ar aa (.on aa aa (ai hg5)) aa (ar aa (.on aa aa (ai hg5)) aa (kPv (aH aa hg5 aa) aa ?_)))
  exact ba aa ⟨rfl,rfl,trivial⟩ (eY hg5)
 refine ad ?_
 refine aW aa (fun h33=> ?_) (fun h33=> ?_)
 ·try simp only[decide_eq_true_eq,decide_eq_false_iff_not,Bool.not_eq_true',Bool.not_eq_false',Bool.or_eq_true,Bool.and_eq_true,Bool.and_eq_false_iff,Bool.or_eq_false_iff,beq_iff_eq,bne_iff_ne,beq_eq_false_iff_ne,bne_eq_false_iff_eq,ge_iff_le,gt_iff_lt,ne_eq] at h33
  refine ac (ab (kPa aa aa (ad (az ?_))))
  exact ax results129 aa (fun w hw=>⟨by unfold chk;rw[if_neg (by rw[wo];omega)],hw.tail⟩)
 ·try simp only[decide_eq_true_eq,decide_eq_false_iff_not,Bool.not_eq_true',Bool.not_eq_false',Bool.or_eq_true,Bool.and_eq_true,Bool.and_eq_false_iff,Bool.or_eq_false_iff,beq_iff_eq,bne_iff_ne,beq_eq_false_iff_ne,bne_eq_false_iff_eq,ge_iff_le,gt_iff_lt,ne_eq] at h33
  refine ay (ac (ab (kPa aa aa (ad (az ?_)))))
  exact ax results129 aa (fun w hw=>⟨by unfold chk;rw[if_pos (by rw[wo];omega)],hw.tail⟩)
theorem c6{s:Dev}{c:Cfg}(h:bC c)(hn:(s.n:Int)=c.words):¬ (¬ bC c∨(s.n:Int)≠c.words):=by simp[h,hn]
theorem zb(f:Int→Int):∀ (k:Nat) (i:Int) (s:Dev),fh f (k+1) i s=(s.store (f i) 0).then fun _ s=>(s.flush (f i)).then fun _ s=>fh f k (i+1) s:=fun _ _ _=>rfl
theorem rA(B:World)(Fr:List HP)(b:Nat)(s:Dev)(c:Cfg):
 ∀ w,Holds B (aG b s::Fr) w→Calls Tryz.prog 110 [ptr b,eO c].toArray w (Ret B (fun rv H'=>∃ a s',s.format c= .ok a s'∧rv=i64 a∧H'=aG b s'::Fr) (fun k H'=>∃ s',s.format c= .off s'∧k=dN∧H'=aG b s'::Fr)):=by
 refine au func110 aa ntmps110 aa (ac (ab (aC aa (bx aa) .free aa aa ?_)))
 rintro _ _ ⟨b3,rfl,rfl⟩
 refine kPa aa aa (ad (ac (ac (cK Tryz.mixed (by kernel_rfl) (by kernel_rfl) ?_))))
 refine kQv (am isAgg40 sizeOf40 aa aa) aa ?_
 refine bH aa (aA call129 aa) (rQ _ _ c) .free aa ?_
 refine kQv (an aa aa aa) aa (kQm aa aa ?_)
 apply AM (tp:=18) (t:=12) (σ1:=[(12,_),(4,_),(3,_),(0,_)]) 6 rfl (aF rfl)
 ·intro hg1
  refine bA aa (ap aa) (.on aa aa (ah hg1)) aa (bH aa (aA call118 aa) (bU (q:=aG) (fun Fr=>ma _ Fr _ _)) (.on aa aa (ah hg1)) aa ?_)
  refine bA aa (am isAgg40 sizeOf40 aa aa) (.on aa aa (ah hg1)) aa ?_
  refine bH aa (aA call108 aa) (kv _ _ c (DT hg1)) (.on aa aa (ah hg1)) aa ?_
  refine bA aa (an aa aa aa) (.on aa aa (ah hg1)) aa (kQv (aL aa hg1 aa) aa ?_)
  exact eu aa (aF aa) (eZ hg1)
 ·intro hg1
  refine bf aa (.on aa aa (ai hg1)) aa (bf aa (.on aa aa (ai hg1)) aa (bf aa (.on aa aa (ai hg1)) aa (bf aa (.on aa aa (ai hg1)) aa (bf aa (.on aa aa (ai hg1)) aa (kQv (aH aa hg1 aa) aa ?_)))))
  exact eu aa (aF aa) (eY hg1)
 refine bR ?_
 refine aW aa (fun h18=> ?_) (fun h18=> ?_)
 ·have hbad:¬ bC c∨(s.n:Int)≠c.words:=by
   by_cases q:bC c
   ·right;simpa [chk,q] using h18
   ·exact .inl q
  refine ac (ab (kPa aa aa (ad (az ?_))))
  exact ax results110 aa (fun w hh=>⟨_,⟨1,s,by unfold Dev.format;rw[if_pos hbad],rfl,rfl⟩,hh.tail⟩)
 ·have hgd:bC c∧(s.n:Int)=c.words:=by
   by_cases q:bC c
   ·exact⟨q,by simpa [chk,q] using h18⟩
   ·simp[chk,q] at h18
  obtain⟨hc,hn⟩:=hgd
  have hc1:=hc.r1
  have hc2:=hc.r2
  have hc3:=hc.l1
  have hc4:=hc.l2
  have hc5:=hc.s1
  have hc6:=hc.s2
  have hact:=hc.act
  refine ay (ac (ab (kPm aa aa ?_)))
  refine aY aa (aA call120 aa) (da (q:=aG) (fun Fr=>cZ _ Fr _ _ _ _)) .free aa aa ?_ ?_
  rotate_left
  ·rintro _ _ ⟨sx,⟨hx,rfl⟩,rfl⟩
   have hfo:s.format c= .off sx:=by
    simp[Dev.format,c6 hc hn,hx]
   exact bz fun w hh=>⟨_,⟨sx,hfo,rfl,rfl⟩,hh.tail⟩
  rintro _ _ ⟨s1,⟨e1,hm1,rfl⟩,rfl⟩
  refine ad (ac (ab (kPm aa aa ?_)))
  refine aY aa (aA call126 aa) (da (q:=aG) (fun Fr=>ed _ Fr _ _ _)) .free aa aa ?_ ?_
  rotate_left
  ·rintro _ _ ⟨sx,⟨hx,rfl⟩,rfl⟩
   have hfo:s.format c= .off sx:=by
    simp[Dev.format,c6 hc hn,hm1,hx]
   exact bz fun w hh=>⟨_,⟨sx,hfo,rfl,rfl⟩,hh.tail⟩
  rintro _ _ ⟨s2,⟨e2,hm2,rfl⟩,rfl⟩
  refine ad (ac (ab (kPm aa aa ?_)))
  refine aY aa (aA call127 aa) (da (q:=aG) (fun Fr=>fK _ Fr _ _)) .free aa aa ?_ ?_
  rotate_left
  ·rintro _ _ ⟨sx,⟨hx,rfl⟩,rfl⟩
   have hfo:s.format c= .off sx:=by
    simp[Dev.format,c6 hc hn,hm1,hm2,hx]
   exact bz fun w hh=>⟨_,⟨sx,hfo,rfl,rfl⟩,hh.tail⟩
  rintro _ _ ⟨s3,⟨e3,hm3,rfl⟩,rfl⟩
  refine ad (ao [4,3,0] rfl (ac (ac (ab (kPv (aj (m:=_) jM aa aa) aa (kPv (ae isAgg3 aa aa) aa (kPv (aj (m:=_) fm aa aa) aa (kPv (ae isAgg3 aa aa) aa (kPv (aj (m:=_) dX aa aa) aa (kPv (ae isAgg3 aa aa) aa (aC aa (EG runUnderlying125 sizeOf3 zeroValue3 aa aa aa aa aa aa aa) .free aa aa ?_)))))))))))
  rintro _ _ ⟨b31,rfl,rfl⟩
  refine kPv (bY aa runUnderlying125 ⟨_,rfl⟩ rfl) aa (kPm aa aa (ad (aO (dY (ι:=Nat×Dev) (fun i=>i.1≤3∧st3 [c.log,c.roots,c.space] 3 0 s3=st3 [c.log,c.roots,c.space] (3 - i.1) i.1 i.2) (fun i=>[(0,ptr b),(3,ptr b3),(4,i64 0),(31,.slice (some ⟨b31,0,none⟩) 3 3),(32,i64 3),(33,i64 i.1)]) (fun i=>row b31 [i64 c.log,i64 c.roots,i64 c.space] 3::row b3 [i64 c.log,i64 c.roots,i64 c.space] 40::aG b i.2::Fr) (fun i=>3 - i.1) (0,s3) ⟨Nat.zero_le _,rfl⟩ (fun a w st=>st.to ⟨rfl,rfl,rfl,rfl,rfl,rfl,trivial⟩ id) ?_))))
  rintro⟨k,sa⟩ ⟨hk1,hk2⟩
  simp only at hk1 hk2 ⊢
  refine ac (ab (kPv (an aa aa aa) aa (ad (ac ?_))))
  refine aW aa (fun h34=> ?_) (fun h34=> ?_)
  ·have hk3:k<3:=by simp at h34;omega
   refine ay (ac (aO (ac (ab ?_))))
   have hlb:=Fo (k:=k) hk3 (a:=c.log) (b:=c.roots) (c:=c.space) (by omega) (by omega) (by omega)
   refine kPm aa aa (kPv (bZ runUnderlying125 sizeOf3 aa aa (by omega) (by omega)) aa (kPv (ae (v:=i64 ([c.log,c.roots,c.space].getD k 0)) isAgg3 aa (by rw[Nat.zero_add,Int.toNat_natCast];exact Ep hk3)) aa (kPa aa aa (kPa aa aa (ad (ao [6,5,33,32,31,4,3,0] rfl (ab (kPm aa aa (kPm aa aa (kPv (aS aa aa) aa (kPm aa aa ?_)))))))))))
   refine kPv (bP runUnderlying3 runUnderlying26 aa) aa ?_
   refine aY aa (aA call120 aa) (da (q:=aG) (fun Fr=>cZ _ Fr _ _ _ _)) .free aa aa ?_ ?_
   rotate_left
   ·rintro _ _ ⟨sx,⟨hx,rfl⟩,rfl⟩
    have hfo:s.format c= .off sx:=by
     have hz:st3 [c.log,c.roots,c.space] 3 0 s3= .off sx:=by rw[hk2,show 3 - k=(3 - (k+1))+1 by omega];simp only[st3];rw[hx];rfl
     simp[Dev.format,c6 hc hn,hm1,hm2,hm3,hz]
    exact bz fun w hh=>⟨_,⟨sx,hfo,rfl,rfl⟩,hh.tail.tail⟩
   rintro _ _ ⟨s4,⟨e4,hm4,rfl⟩,rfl⟩
   refine ad (ao [33,32,31,4,3,0] rfl (ab (kPv (aS aa aa) aa (kPm aa aa (ad ?_)))))
   exact fun a w st=>⟨(k+1,s4),⟨by simp only;omega,by simp only;rw[hk2,show 3 - k=(3 - (k+1))+1 by omega];simp only[st3];rw[hm4];rfl⟩,by simp only;omega,st.to ⟨rfl,rfl,rfl,rfl,rfl,rfl,trivial⟩ id⟩
  ·have hk3:¬ k<3:=by simp at h34;omega
   have hA:st3 [c.log,c.roots,c.space] 3 0 s3= .ok () sa:=by
    rw[hk2,show 3 - k=0 by omega];rfl
   refine bT (ac (ab (kPm aa aa ?_)))
   refine aY aa (aA call120 aa) (da (q:=aG) (fun Fr=>cZ _ Fr _ _ _ _)) .free aa aa ?_ ?_
   rotate_left
   ·rintro _ _ ⟨sx,⟨hx,rfl⟩,rfl⟩
    have hfo:s.format c= .off sx:=by
     simp[Dev.format,c6 hc hn,hm1,hm2,hm3,hA,hx]
    exact bz fun w hh=>⟨_,⟨sx,hfo,rfl,rfl⟩,hh.tail.tail⟩
   rintro _ _ ⟨s5,⟨e5,hm5,rfl⟩,rfl⟩
   refine ad (ao [4,3,0] rfl (ac (ab (kPm aa aa ?_))))
   refine aY aa (aA call126 aa) (da (q:=aG) (fun Fr=>ed _ Fr _ _ _)) .free aa aa ?_ ?_
   rotate_left
   ·rintro _ _ ⟨sx,⟨hx,rfl⟩,rfl⟩
    have hfo:s.format c= .off sx:=by
     simp[Dev.format,c6 hc hn,hm1,hm2,hm3,hA,hm5,hx]
    exact bz fun w hh=>⟨_,⟨sx,hfo,rfl,rfl⟩,hh.tail.tail⟩
   rintro _ _ ⟨s6,⟨e6,hm6,rfl⟩,rfl⟩
   refine ad (ac (ac (ab (kPa aa aa (ad (aO (dY (ι:=Int×Dev) (fun i=>(0≤i.1∧i.1≤c.log)∧fh c.record c.log.toNat 0 s6=fh c.record (c.log - i.1).toNat i.1 i.2) (fun i=>[(0,ptr b),(3,ptr b3),(4,i64 0),(7,i64 i.1)]) (fun i=>row b31 [i64 c.log,i64 c.roots,i64 c.space] 3::row b3 [i64 c.log,i64 c.roots,i64 c.space] 40::aG b i.2::Fr) (fun i=>(c.log - i.1).toNat) (0,s6) ⟨⟨by simp only;omega,by simp only;omega⟩,by simp only;rw[Int.sub_zero]⟩ (fun a w st=>st.to ⟨rfl,rfl,rfl,rfl,trivial⟩ id) ?_)))))))
   rintro⟨i,sb⟩ ⟨⟨hi1,hi2⟩,hi3⟩
   simp only at hi1 hi2 hi3 ⊢
   have hri:16≤c.record i∧c.record i≤10000:=by simp only[Cfg.record];omega
   refine ac (ac (ab (kPm aa aa (kPv (aj (m:=_) jM aa aa) aa (kPv (ae isAgg3 aa aa) aa (kPv (an aa aa aa) aa (ad ?_)))))))
   refine aW aa (fun h52=> ?_) (fun h52=> ?_)
   ·have hlt:i<c.log:=by simpa using h52
    refine ay (ac (aO (ac (ab (kPm aa aa (kPv (am isAgg40 sizeOf40 aa aa) aa ?_))))))
    refine kPm aa aa (aE aa (aA call130 aa) (ia _ _ c _ (by omega) (by omega)) .free aa aa ?_)
    refine aY aa (aA call120 aa) (da (q:=aG) (fun Fr=>cZ _ Fr _ _ _ _)) .free aa aa ?_ ?_
    rotate_left
    ·rintro _ _ ⟨sx,⟨hx,rfl⟩,rfl⟩
     have hfo:s.format c= .off sx:=by
      have hz:fh c.record c.log.toNat 0 s6= .off sx:=by rw[hi3,show(c.log - i).toNat=(c.log - (i+1)).toNat+1 by omega];simp only[fh];rw[hx];rfl
      simp[Dev.format,c6 hc hn,hm1,hm2,hm3,hA,hm5,hm6,hz]
     exact bz fun w hh=>⟨_,⟨sx,hfo,rfl,rfl⟩,hh.tail.tail⟩
    rintro _ _ ⟨s7,⟨e7,hm7,rfl⟩,rfl⟩
    refine ad (ao [7,4,3,0] rfl (ab (kPm aa aa (kPv (am isAgg40 sizeOf40 aa aa) aa ?_))))
    refine kPm aa aa (aE aa (aA call130 aa) (ia _ _ c _ (by omega) (by omega)) .free aa aa ?_)
    refine aY aa (aA call126 aa) (da (q:=aG) (fun Fr=>ed _ Fr _ _ _)) .free aa aa ?_ ?_
    rotate_left
    ·rintro _ _ ⟨sx,⟨hx,rfl⟩,rfl⟩
     have hfo:s.format c= .off sx:=by
      have hz:fh c.record c.log.toNat 0 s6= .off sx:=by rw[hi3,show(c.log - i).toNat=(c.log - (i+1)).toNat+1 by omega];simp only[fh];rw[hm7,aX,hx];rfl
      simp[Dev.format,c6 hc hn,hm1,hm2,hm3,hA,hm5,hm6,hz]
     exact bz fun w hh=>⟨_,⟨sx,hfo,rfl,rfl⟩,hh.tail.tail⟩
    rintro _ _ ⟨s8,⟨e8,hm8,rfl⟩,rfl⟩
    refine ad (ab (kPm aa aa (kPv (aS aa aa) aa (kPa aa aa (ad (ao [7,4,3,0] rfl ?_))))))
    exact fun a w st=>⟨(i+1,s8),⟨⟨by simp only;omega,by simp only;omega⟩,by simp only;rw[hi3,show(c.log - i).toNat=(c.log - (i+1)).toNat+1 by omega];simp only[fh];rw[hm7,aX,hm8];rfl⟩,by simp only;omega,st.to ⟨rfl,rfl,rfl,rfl,trivial⟩ id⟩
   ·have hlt:¬ i<c.log:=by simpa using h52
    have hB:fh c.record c.log.toNat 0 s6= .ok () sb:=by
     rw[hi3,show(c.log - i).toNat=0 by omega];rfl
    refine bT (ac (ac (ab (kPv (am isAgg40 sizeOf40 aa aa) aa ?_))))
    refine aE aa (aA call117 aa) (gI _ _ c hc) .free aa aa ?_
    refine kPa aa aa (ad (ao [8,4,3,0] rfl (aO ?_)))
    have hroot:c.active≤c.root c.roots∧c.root c.roots≤2000:=by simp only[Cfg.root];omega
    refine dY (ι:=Int×Dev) (fun i=>(c.active≤i.1∧i.1≤c.root c.roots)∧fh id (c.root c.roots - c.active).toNat c.active sb=fh id (c.root c.roots - i.1).toNat i.1 i.2) (fun i=>[(0,ptr b),(3,ptr b3),(4,i64 0),(8,i64 i.1)]) (fun i=>row b31 [i64 c.log,i64 c.roots,i64 c.space] 3::row b3 [i64 c.log,i64 c.roots,i64 c.space] 40::aG b i.2::Fr) (fun i=>(c.root c.roots - i.1).toNat) (c.active,sb) ⟨⟨by simp only;omega,by simp only;omega⟩,rfl⟩ (fun a w st=>st.to ⟨rfl,rfl,rfl,rfl,trivial⟩ id) ?_
    rintro⟨j,sc⟩ ⟨⟨hj1,hj2⟩,hj3⟩
    simp only at hj1 hj2 hj3 ⊢
    refine ac (ac (ab (kPm aa aa (kPv (am isAgg40 sizeOf40 aa aa) aa ?_))))
    refine kPv (aj (m:=_) fm aa aa) aa (kPv (ae isAgg3 aa aa) aa (aE aa (aA call59 aa) (kN _ _ c hc _ (by omega) (by omega)) .free aa aa ?_))
    refine kPv (an aa aa aa) aa (ad ?_)
    refine aW aa (fun h72=> ?_) (fun h72=> ?_)
    ·have hlt2:j<c.root c.roots:=by simpa using h72
     refine ay (ac (aO (ac (ab (kPm aa aa (kPm aa aa ?_))))))
     refine aY aa (aA call120 aa) (da (q:=aG) (fun Fr=>cZ _ Fr _ _ _ _)) .free aa aa ?_ ?_
     rotate_left
     ·rintro _ _ ⟨sx,⟨hx,rfl⟩,rfl⟩
      have hfo:s.format c= .off sx:=by
       have hz:fh id (c.root c.roots - c.active).toNat c.active sb= .off sx:=by rw[hj3,show(c.root c.roots - j).toNat=(c.root c.roots - (j+1)).toNat+1 by omega];simp only[fh,id];rw[hx];rfl
       simp[Dev.format,c6 hc hn,hm1,hm2,hm3,hA,hm5,hm6,hB,hz]
      exact bz fun w hh=>⟨_,⟨sx,hfo,rfl,rfl⟩,hh.tail.tail⟩
     rintro _ _ ⟨s9,⟨e9,hm9,rfl⟩,rfl⟩
     refine ad (ao [8,4,3,0] rfl (ab (kPm aa aa (kPm aa aa ?_))))
     refine aY aa (aA call126 aa) (da (q:=aG) (fun Fr=>ed _ Fr _ _ _)) .free aa aa ?_ ?_
     rotate_left
     ·rintro _ _ ⟨sx,⟨hx,rfl⟩,rfl⟩
      have hfo:s.format c= .off sx:=by
       have hz:fh id (c.root c.roots - c.active).toNat c.active sb= .off sx:=by rw[hj3,show(c.root c.roots - j).toNat=(c.root c.roots - (j+1)).toNat+1 by omega];simp only[fh,id];rw[hm9,aX,hx];rfl
       simp[Dev.format,c6 hc hn,hm1,hm2,hm3,hA,hm5,hm6,hB,hz]
      exact bz fun w hh=>⟨_,⟨sx,hfo,rfl,rfl⟩,hh.tail.tail⟩
     rintro _ _ ⟨s10,⟨e10,hm10,rfl⟩,rfl⟩
     refine ad (ab (kPm aa aa (kPv (aS aa aa) aa (kPa aa aa (ad ?_)))))
     exact fun a w st=>⟨(j+1,s10),⟨⟨by simp only;omega,by simp only;omega⟩,by simp only;rw[hj3,show(c.root c.roots - j).toNat=(c.root c.roots - (j+1)).toNat+1 by omega];simp only[fh,id];rw[hm9,aX,hm10];rfl⟩,by simp only;omega,st.to ⟨rfl,rfl,rfl,rfl,trivial⟩ id⟩
    ·have hlt2:¬ j<c.root c.roots:=by simpa using h72
     have hC:fh id (c.root c.roots - c.active).toNat c.active sb= .ok () sc:=by
      rw[hj3,show(c.root c.roots - j).toNat=0 by omega];rfl
     refine bT (ac (ab (kPm aa aa ?_)))
     refine aY aa (aA call126 aa) (da (q:=aG) (fun Fr=>ed _ Fr _ _ _)) .free aa aa ?_ ?_
     rotate_left
     ·rintro _ _ ⟨sx,⟨hx,rfl⟩,rfl⟩
      have hfo:s.format c= .off sx:=by
       simp[Dev.format,c6 hc hn,hm1,hm2,hm3,hA,hm5,hm6,hB,hC,hx]
      exact bz fun w hh=>⟨_,⟨sx,hfo,rfl,rfl⟩,hh.tail.tail⟩
     rintro _ _ ⟨s11,⟨e11,hm11,rfl⟩,rfl⟩
     refine ad (ao [4,0] rfl (ac (ab (kPm aa aa ?_))))
     refine aY aa (aA call127 aa) (da (q:=aG) (fun Fr=>fK _ Fr _ _)) .free aa aa ?_ ?_
     rotate_left
     ·rintro _ _ ⟨sx,⟨hx,rfl⟩,rfl⟩
      have hfo:s.format c= .off sx:=by
       simp[Dev.format,c6 hc hn,hm1,hm2,hm3,hA,hm5,hm6,hB,hC,hm11,hx]
      exact bz fun w hh=>⟨_,⟨sx,hfo,rfl,rfl⟩,hh.tail.tail⟩
     rintro _ _ ⟨s12,⟨e12,hm12,rfl⟩,rfl⟩
     refine ad (ac (ab (kPm aa aa ?_)))
     refine aY aa (aA call120 aa) (da (q:=aG) (fun Fr=>cZ _ Fr _ _ _ _)) .free aa aa ?_ ?_
     rotate_left
     ·rintro _ _ ⟨sx,⟨hx,rfl⟩,rfl⟩
      have hfo:s.format c= .off sx:=by
       simp[Dev.format,c6 hc hn,hm1,hm2,hm3,hA,hm5,hm6,hB,hC,hm11,hm12,ig,hx]
      exact bz fun w hh=>⟨_,⟨sx,hfo,rfl,rfl⟩,hh.tail.tail⟩
     rintro _ _ ⟨s13,⟨e13,hm13,rfl⟩,rfl⟩
     refine ad (ac (ab (kPm aa aa ?_)))
     refine aY aa (aA call126 aa) (da (q:=aG) (fun Fr=>ed _ Fr _ _ _)) .free aa aa ?_ ?_
     rotate_left
     ·rintro _ _ ⟨sx,⟨hx,rfl⟩,rfl⟩
      have hfo:s.format c= .off sx:=by
       simp[Dev.format,c6 hc hn,hm1,hm2,hm3,hA,hm5,hm6,hB,hC,hm11,hm12,ig,hm13,hx]
      exact bz fun w hh=>⟨_,⟨sx,hfo,rfl,rfl⟩,hh.tail.tail⟩
     rintro _ _ ⟨s14,⟨e14,hm14,rfl⟩,rfl⟩
     refine ad (ac (ab (kPm aa aa ?_)))
     refine aY aa (aA call127 aa) (da (q:=aG) (fun Fr=>fK _ Fr _ _)) .free aa aa ?_ ?_
     rotate_left
     ·rintro _ _ ⟨sx,⟨hx,rfl⟩,rfl⟩
      have hfo:s.format c= .off sx:=by
       simp[Dev.format,c6 hc hn,hm1,hm2,hm3,hA,hm5,hm6,hB,hC,hm11,hm12,ig,hm13,hm14,hx]
      exact bz fun w hh=>⟨_,⟨sx,hfo,rfl,rfl⟩,hh.tail.tail⟩
     rintro _ _ ⟨s15,⟨e15,hm15,rfl⟩,rfl⟩
     refine ad (ao [4] rfl (ac (ab (kPa aa aa (ad (az ?_))))))
     exact ax results110 aa (fun w hh=>⟨_,⟨0,s15,by simp[Dev.format,c6 hc hn,hm1,hm2,hm3,hA,hm5,hm6,hB,hC,hm11,hm12,ig,hm13,hm14,hm15],rfl,rfl⟩,hh.tail.tail⟩)
end Go.Proofs.YtlcibdhmgclfjaaGreat
