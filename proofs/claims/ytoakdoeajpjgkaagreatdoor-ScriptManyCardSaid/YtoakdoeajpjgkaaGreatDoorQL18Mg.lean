/- Part of a law's texts. Conditions: none. -/
import Derived.Test.YtoakdoeajpjgkaaGreatDoorQL18Mf
open Go.Proofs.Tryz
set_option linter.all false
namespace Go.Proofs.YtoakdoeajpjgkaaGreatDoor
open Go
structure bz where
 L:bJ
 ff:Int
 ft:Int
 seen:List (Int×Unit)
 dirty:List (Int×Unit)
abbrev cZ(b bl:Nat)(S:bz)(o:Bool)(m1 m2:Option Nat):HP:=row b [ptr bl,ptr S.L.d,i64 S.L.c.log,i64 S.L.c.roots,i64 S.L.c.space,.bool o,i64 S.ff,i64 S.ft,.map m1,.map m2] 171
def fa(b:Nat)(S:bz):HP:=hex fun (x:Nat×Option Nat×Option Nat)=>grp [cZ b x.1 S false x.2.1 x.2.2,cO x.1 S.L]
def iB(b:Nat)(S:bz):HP:=hex fun (x:Nat×Nat×Nat)=>grp [cZ b x.1 S true (some x.2.1) (some x.2.2),cO x.1 S.L,bi .i64 bS x.2.1 S.seen,bi .i64 bS x.2.2 S.dirty]
theorem kr{B:World}{n:Nat}{D:List Deferred}{σ:Env}{b:Nat}{S:bz}{Fr:List HP}{K:Act→World→Prop}(h:∀ bl o1 o2,GO B n D σ (cZ b bl S false o1 o2::cO bl S.L::Fr) K):GO B n D σ (fa b S::Fr) K:=fun a w st=>by
 obtain⟨x,hx⟩:=st.holds.hex
 exact h _ _ _ a w ⟨st.toStA,hx.grp⟩
theorem lq{B:World}{n:Nat}{D:List Deferred}{σ:Env}{b:Nat}{S:bz}{Fr:List HP}{K:Act→World→Prop}(h:∀ bl o1 o2,GO B n D σ (cZ b bl S true (some o1) (some o2)::cO bl S.L::bi .i64 bS o1 S.seen::bi .i64 bS o2 S.dirty::Fr) K):GO B n D σ (iB b S::Fr) K:=fun a w st=>by
 obtain⟨x,hx⟩:=st.holds.hex
 exact h _ _ _ a w ⟨st.toStA,hx.grp⟩
theorem dL{B:World}{b bl:Nat}{o1 o2:Option Nat}{S:bz}{Fr:List HP}{w:World}(h:Holds B (cZ b bl S false o1 o2::cO bl S.L::Fr) w):Holds B (fa b S::Fr) w:=
 Holds.unhex (bl,o1,o2) (Holds.ungrp (l:=[cZ b bl S false o1 o2,cO bl S.L]) h)
theorem eX{B:World}{b bl o1 o2:Nat}{S:bz}{Fr:List HP}{w:World}(h:Holds B (cZ b bl S true (some o1) (some o2)::cO bl S.L::bi .i64 bS o1 S.seen::bi .i64 bS o2 S.dirty::Fr) w):Holds B (iB b S::Fr) w:=
 Holds.unhex (bl,o1,o2) (Holds.ungrp (l:=[cZ b bl S true (some o1) (some o2),cO bl S.L,bi .i64 bS o1 S.seen,bi .i64 bS o2 S.dirty]) h)
structure kT(S:bz):Prop where
 L:dD S.L
 dirty:∀ p∈S.dirty,0≤p.1∧p.1≤1000000
theorem vl(o:Option Unit):(Value.tuple #[o8 bS (.agg #[]) o,.bool o.isSome])= .tuple #[.agg #[],.bool o.isSome]:=by cases o<;>rfl
def bz.store(S:bz)(s:Dev)(i v:Int):Out (Int×bz):=
 if i<S.L.c.active∨(s.n:Int)≤i then .ok (1,S) s
 else if (bI S.seen i).isSome=false∧(i<S.ff∨S.ft≤i) then
  (S.L.append s i).then fun x s=>if x.1≠0 then .ok (x.1,{S with L:=x.2}) s else
   (s.store i v).then fun _ s=> .ok (0,{S with L:=x.2,seen:=mset S.seen i (),dirty:=mset S.dirty (i / 8) ()}) s
 else (s.store i v).then fun _ s=> .ok (0,{S with dirty:=mset S.dirty (i / 8) ()}) s
def dy:List Int→Dev→Out Unit
 | [],s=> .ok () s
 | k::ks,s=>(s.flush (k*8)).then fun _ s=>dy ks s
def bz.commit(S:bz)(s:Dev):Out bz:=
 (dy (bT (S.dirty.map Prod.fst)) s).then fun _ s=>(if 0<S.dirty.length then s.fence else .ok () s).then fun _ s=>(S.L.truncate s).then fun L s=> .ok {S with L:=L} s
def bz.abort(S:bz)(s:Dev):Out bz:=(S.L.undo s).then fun L s=> .ok {S with L:=L} s
theorem i6{S:bz}{s:Dev}{i v:Int}(h:¬i<S.L.c.active∧¬(s.n:Int)≤i)(hno:¬((bI S.seen i).isSome=false∧(i<S.ff∨S.ft≤i))):S.store s i v=(s.store i v).then fun _ s=> .ok (0,{S with dirty:=mset S.dirty (i / 8) ()}) s:=by
 unfold bz.store
 rw[if_neg (by omega),if_neg hno]
theorem l5{L L':bJ}{s s':Dev}{i a:Int}(h:L.append s i= .ok (a,L') s'):L'.d=L.d∧L'.c=L.c:=by
 unfold bJ.append at h
 split at h
 ·cases h;exact⟨rfl,rfl⟩
 ·split at h
  ·cases h;exact⟨rfl,rfl⟩
  ·simp only[Out.then] at h
   repeat' split at h
   all_goals first | (cases h;exact⟨rfl,rfl⟩) | cases h
theorem qg{L L':bJ}{s s':Dev}(h:L.truncate s= .ok L' s'):L'.d=L.d∧L'.c=L.c:=by
 unfold bJ.truncate at h
 split at h
 ·cases h;exact⟨rfl,rfl⟩
 ·simp only[Out.then] at h
  repeat' split at h
  all_goals first | (cases h;exact⟨rfl,rfl⟩) | cases h
theorem lM(B:World)(Fr:List HP)(b:Nat)(S:bz):
 ∀ w,Holds B (fa b S::Fr) w→Calls Tryz.prog 80 [ptr b].toArray w (aZ B (fa b S::Fr) (.bool false)):=by
 refine ap func80 aa ntmps80 aa (kr fun bl o1 o2=>(ac (ab (kPa aa aa (ad (ac (ab (kPf dG isAgg4 aa aa aa aa (kPa aa aa (ad (aB ?_)))))))))))
 exact aw results80 aa (fun w hh=>⟨rfl,dL hh⟩)
theorem wt(B:World)(Fr:List HP)(b:Nat)(S:bz):
 ∀ w,Holds B (iB b S::Fr) w→Calls Tryz.prog 80 [ptr b].toArray w (aZ B (iB b S::Fr) (.bool true)):=by
 refine ap func80 aa ntmps80 aa (lq fun bl o1 o2=>(ac (ab (kPa aa aa (ad (ac (ab (kPf dG isAgg4 aa aa aa aa (kPa aa aa (ad (aB ?_)))))))))))
 exact aw results80 aa (fun w hh=>⟨rfl,eX hh⟩)
theorem rC(B:World)(Fr:List HP)(b:Nat)(S:bz):
 ∀ w,Holds B (fa b S::Fr) w→Calls Tryz.prog 89 [ptr b].toArray w (aZ B (fa b S::Fr) (i64 2)):=by
 refine ap func89 aa ntmps89 aa (kr fun bl o1 o2=>(ac (ab (kPa aa aa (ad (ac (ac (ab (kPf dG isAgg4 aa aa aa aa (kPv (bu aa) aa (ad ?_)))))))))))
 refine sB aa (rfl) (ac (ab (kPa aa aa (ad (aB ?_)))))
 exact aw results89 aa (fun w hh=>⟨rfl,dL hh⟩)
theorem nj(B:World)(Fr:List HP)(b:Nat)(S:bz)(s:Dev)(hL:kT S)(i v:Int):
 ∀ w,Holds B (iB b S::az S.L.d s::Fr) w→Calls Tryz.prog 86 [ptr b,i64 i,w64 v].toArray w (Ret B (fun rv H'=>∃ a S' s',S.store s i v= .ok (a,S') s'∧rv=i64 a∧H'=iB b S'::az S.L.d s'::Fr) (fun c H'=>∃ s',S.store s i v= .off s'∧c=dN∧H'=az S.L.d s'::Fr)):=by
 refine ap func86 aa ntmps86 aa ?_
 have hl:=hL.L
 have hc:=hl.c
 have hc1:=hc.r1
 have hc2:=hc.r2
 have hc3:=hc.l1
 have hc4:=hc.l2
 have hact:=hc.act
 refine kE S.L.d fun hn1 hn2 hn3=>(lq fun bl o1 o2=>(ac (ab (kPa aa aa (ad (ac (aK (ac (ab (kPf dG isAgg4 aa aa aa aa (kPv (bu aa) aa ?_)))))))))))
 refine kPa aa aa (ad (bE aa (rfl) (ac (ab (kPm aa aa (kPm aa aa (kPv (aJ aa) aa (kPv (aF (m:=_) yU aa aa) aa (kPv (ah isAgg134 sizeOf134 aa aa) aa ?_)))))))))
 refine ax aa (ar call142 aa) (fA _ _ S.L.c hL.L.c) .free aa aa ?_
 refine kPv (am aa aa aa) aa (kPm aa aa ?_)
 apply fK (tp:=32) (t:=24) (σ1:=[(24,_),(6,_),(0,_),(1,_),(2,_)]) 8 rfl (aC rfl)
 ·intro hg1
  refine aj aa (ak aa) (.on aa aa (ae hg1)) aa aa (aj aa (ak aa) (.on aa aa (ae hg1)) aa aa (aj aa (aJ aa) (.on aa aa (ae hg1)) aa aa (aj aa (aF (m:=_) j1 aa aa) (.on aa aa (ae hg1)) aa aa (aj aa (ai isAgg90 aa aa) (.on aa aa (ae hg1)) aa aa (ax aa (ar call143 aa) (bF (q:=az) (fun Fr=>kj _ Fr _ _)) (.on aa aa (ae hg1)) aa aa ?_)))))
  refine aj aa (am aa aa aa) (.on aa aa (ae hg1)) aa aa (kPv (aD aa hg1 aa) aa ?_)
  exact aT aa (aC aa) (eM hg1)
 ·intro hg1
  refine al aa (.on aa aa (ag hg1)) aa (al aa (.on aa aa (ag hg1)) aa (al aa (.on aa aa (ag hg1)) aa (al aa (.on aa aa (ag hg1)) aa (al aa (.on aa aa (ag hg1)) aa (al aa (.on aa aa (ag hg1)) aa (al aa (.on aa aa (ag hg1)) aa (kPv (au aa hg1 aa) aa ?_)))))))
  exact aT aa (aC aa) (eK hg1)
 refine kPa aa aa (ad ?_)
 refine ba aa (fun h16=> ?_) (fun h16=> ?_)
 ·try simp only[decide_eq_true_eq,decide_eq_false_iff_not,Bool.not_eq_true',Bool.not_eq_false',Bool.or_eq_true,Bool.and_eq_true,Bool.and_eq_false_iff,Bool.or_eq_false_iff,beq_iff_eq,bne_iff_ne,beq_eq_false_iff_ne,bne_eq_false_iff_eq,ge_iff_le,gt_iff_lt,ne_eq] at h16
  refine ac (ab (kPa aa aa (ad (aB ?_))))
  exact aw results86 aa (fun w hh=>⟨_,⟨1,S,s,by simp[bz.store, *],rfl,rfl⟩,eX hh⟩)
 ·try simp only[decide_eq_true_eq,decide_eq_false_iff_not,Bool.not_eq_true',Bool.not_eq_false',Bool.or_eq_true,Bool.and_eq_true,Bool.and_eq_false_iff,Bool.or_eq_false_iff,beq_iff_eq,bne_iff_ne,beq_eq_false_iff_ne,bne_eq_false_iff_eq,ge_iff_le,gt_iff_lt,ne_eq] at h16
  refine aq (ac (ac (ab (kPf lA isAgg169 aa aa aa aa (kPm aa aa (kPv ((eZ runUnderlying169 runUnderlying3 zeroValue214 aa aa).eq (vl _)) aa (kPm aa aa (kPv (aA aa aa) aa (kPv (aA aa aa) aa (kPb (aE zeroValue214 aa) aa fun b7=>(kPs (ay (vs:=[]) sizeOf214 aa aa aa aa aa) aa ?_)))))))))))
  refine kPa aa aa (ad (ao [8,6,0,1,2] rfl (ac (ab (kPm aa aa (kPv (bu aa) aa (kPm aa aa ?_)))))))
  apply dq (tp:=61) (t:=44) (σ1:=[(44,_),(6,_),(0,_),(1,_),(2,_)]) 17 rfl (aC rfl)
  ·intro hg2
   refine aj aa (ak aa) (.on aa aa (ae hg2)) aa aa (aj aa (ak aa) (.on aa aa (ae hg2)) aa aa (aj aa (aJ aa) (.on aa aa (ae hg2)) aa aa (aj aa (aF (m:=_) lB aa aa) (.on aa aa (ae hg2)) aa aa (aj aa (aF (m:=_) yW aa aa) (.on aa aa (ae hg2)) aa aa (aj aa (ai isAgg3 aa aa) (.on aa aa (ae hg2)) aa aa (aj aa (am aa aa aa) (.on aa aa (ae hg2)) aa aa (aj aa (ak aa) (.on aa aa (ae hg2)) aa aa ?_)))))))
   apply fK (tp:=60) (t:=52) (σ1:=[(52,_),(44,_),(6,_),(0,_),(1,_),(2,_)]) 8 rfl (aC rfl)
   ·intro hg3
    refine aj aa (ak aa) (.on aa aa (ae hg3)) aa aa (aj aa (ak aa) (.on aa aa (ae hg3)) aa aa (aj aa (aJ aa) (.on aa aa (ae hg3)) aa aa (aj aa (aF (m:=_) lB aa aa) (.on aa aa (ae hg3)) aa aa (aj aa (aF (m:=_) yV aa aa) (.on aa aa (ae hg3)) aa aa (aj aa (ai isAgg3 aa aa) (.on aa aa (ae hg3)) aa aa (aj aa (am aa aa aa) (.on aa aa (ae hg3)) aa aa (aj aa (aD aa hg3 aa) (.on aa aa (ae hg2)) aa aa ?_)))))))
    exact aT aa (aC aa) (eM hg3)
   ·intro hg3
    refine al aa (.on aa aa (ag hg3)) aa (al aa (.on aa aa (ag hg3)) aa (al aa (.on aa aa (ag hg3)) aa (al aa (.on aa aa (ag hg3)) aa (al aa (.on aa aa (ag hg3)) aa (al aa (.on aa aa (ag hg3)) aa (al aa (.on aa aa (ag hg3)) aa (aj aa (au aa hg3 aa) (.on aa aa (ae hg2)) aa aa ?_)))))))
    exact aT aa (aC aa) (eK hg3)
   refine kPv (au aa hg2 aa) aa ?_
   exact aT aa (aC aa) (cE hg2)
  ·intro hg2
   refine al aa (.on aa aa (ag hg2)) aa (al aa (.on aa aa (ag hg2)) aa (al aa (.on aa aa (ag hg2)) aa (al aa (.on aa aa (ag hg2)) aa (al aa (.on aa aa (ag hg2)) aa (al aa (.on aa aa (ag hg2)) aa (al aa (.on aa aa (ag hg2)) aa (al aa (.on aa aa (ag hg2)) aa (al aa (.und aa aa) aa (al aa (.und aa aa) aa (al aa (.und aa aa) aa (al aa (.und aa aa) aa ?_)))))))))))
   refine al aa (.und aa aa) aa (al aa (.und aa aa) aa (al aa (.und aa aa) aa (al aa (.on aa aa (ag hg2)) aa (kPv (aD aa hg2 aa) aa ?_))))
   exact aT aa (aC aa) (cF hg2)
  refine ad ?_
  refine ba aa (fun h61=> ?_) (fun h61=> ?_)
  ·try simp only[decide_eq_true_eq,decide_eq_false_iff_not,Bool.not_eq_true',Bool.not_eq_false',Bool.or_eq_true,Bool.and_eq_true,Bool.and_eq_false_iff,Bool.or_eq_false_iff,beq_iff_eq,bne_iff_ne,beq_eq_false_iff_ne,bne_eq_false_iff_eq,ge_iff_le,gt_iff_lt,ne_eq] at h61
   refine ac (ac (ab (aM (H':=cO bl S.L::az S.L.d s::row b7 [] 214::cZ b bl S true (some o1) (some o2)::bi .i64 bS o1 S.seen::bi .i64 bS o2 S.dirty::Fr) (fun w hh=>((hh.front 5 aa).front 3 aa)) (kPf hG isAgg168 aa aa aa aa (kPm aa aa ?_)))))
   refine aS aa (ar call144 aa) (nZ _ _ bl S.L _ hL.L i) .free aa aa ?_ ?_
   rotate_left
   ·rintro _ _ ⟨s9,hm9,rfl,rfl⟩
    exact a8 fun w hh=>⟨_,⟨s9,by simp[bz.store, *],rfl,rfl⟩,(((((hh.front 5 aa).front 5 aa).front 5 aa).front 5 aa).front 4 aa).tail.tail.tail.tail.tail⟩
   rintro _ _ ⟨a1,L1,s1,hm1,rfl,rfl⟩
   refine kPa aa aa (ad (ao [9,6,0,1,2] rfl (ac (ab (kPm aa aa (kPv (am aa aa aa) aa (ad ?_)))))))
   refine ba aa (fun h69=> ?_) (fun h69=> ?_)
   ·try simp only[decide_eq_true_eq,decide_eq_false_iff_not,Bool.not_eq_true',Bool.not_eq_false',Bool.or_eq_true,Bool.and_eq_true,Bool.and_eq_false_iff,Bool.or_eq_false_iff,beq_iff_eq,bne_iff_ne,beq_eq_false_iff_ne,bne_eq_false_iff_eq,ge_iff_le,gt_iff_lt,ne_eq] at h69
    refine ac (ab (kPm aa aa (kPa aa aa (ad (aB ?_)))))
    exact aw results86 aa (fun w hh=>by
   have hd1:=l5 hm1
   obtain⟨d1,c1,e1,n1⟩:=L1
   obtain⟨hd2,hd3⟩:=hd1
   simp only at hd2 hd3
   subst hd2;subst hd3
   exact⟨_,⟨a1,{S with L:=⟨_,_,e1,n1⟩},_,by simp[bz.store, *],rfl,rfl⟩,eX ((((((hh.front 2 aa).tail.front 1 aa).front 4 aa).front 4 aa).front 3 aa).front 4 aa)⟩)
   ·try simp only[decide_eq_true_eq,decide_eq_false_iff_not,Bool.not_eq_true',Bool.not_eq_false',Bool.or_eq_true,Bool.and_eq_true,Bool.and_eq_false_iff,Bool.or_eq_false_iff,beq_iff_eq,bne_iff_ne,beq_eq_false_iff_ne,bne_eq_false_iff_eq,ge_iff_le,gt_iff_lt,ne_eq] at h69
    refine aq (ab (kPf lA isAgg169 aa aa aa aa (kPm aa aa (kPv (aP aa (mY)) aa (kPs (gj (u:=()) runUnderlying169 runUnderlying3 aa aa aa aa) aa (ad (ao [6,0,1,2] rfl (ac (ab (kPf j1 isAgg90 aa aa aa aa (kPm aa aa ?_)))))))))))
    refine kPm aa aa ?_
    refine aS aa (ar call145 aa) (cy (q:=az) (fun Fr=>cm _ Fr _ _ _ _)) .free aa aa ?_ ?_
    rotate_left
    ·first
      | (rintro _ _ ⟨s9,⟨hm9,rfl⟩,rfl⟩;exact a8 fun w hh=>⟨_,⟨s9,by simp[bz.store, *],rfl,rfl⟩,(((((hh.front 5 aa).front 5 aa).front 5 aa).front 5 aa).front 4 aa).tail.tail.tail.tail.tail⟩)
      | (rintro _ _ ⟨s9,⟨hm9,rfl⟩,rfl⟩;exact a8 fun w hh=>⟨_,⟨s9,by simp[i6 h16 hno,hm9],rfl,rfl⟩,(((((hh.front 4 aa).front 4 aa).front 4 aa).front 4 aa).front 4 aa).tail.tail.tail.tail.tail⟩)
    rintro _ _ ⟨s2,⟨e2,hm2,rfl⟩,rfl⟩
    refine ad (ao [6,0,1] rfl (ac (ab (kPf iN isAgg169 aa aa aa aa (kPm aa aa (kPv (lX aa aa (by decide) (Bz (by omega) (by omega))) aa (kPv (aP aa (mY)) aa (kPs (gj (u:=()) runUnderlying169 runUnderlying3 aa aa aa aa) aa (ad (ao [6] rfl (ac ?_)))))))))))
    refine ab (kPa aa aa (ad (aB ?_)))
    exact aw results86 aa (fun w hh=>by
   have hd1:=l5 hm1
   obtain⟨d1,c1,e1,n1⟩:=L1
   obtain⟨hd2,hd3⟩:=hd1
   simp only at hd2 hd3
   subst hd2;subst hd3
   exact⟨_,⟨0,{S with L:=⟨_,_,e1,n1⟩,seen:=mset S.seen i (),dirty:=mset S.dirty (i / 8) ()},_,by simp[bz.store, *],rfl,rfl⟩,eX ((((((hh.front 2 aa).tail.front 1 aa).front 4 aa).front 4 aa).front 3 aa).front 4 aa)⟩)
  ·have hno:¬((bI S.seen i).isSome=false∧(i<S.ff∨S.ft≤i)):=by
    rintro⟨q1,q2⟩
    rw[q1] at h61
    simp at h61;omega
   refine aq (ac (ab (kPf j1 isAgg90 aa aa aa aa (kPm aa aa (kPm aa aa ?_)))))
   refine aS aa (ar call145 aa) (cy (q:=az) (fun Fr=>cm _ Fr _ _ _ _)) .free aa aa ?_ ?_
   rotate_left
   ·first
     | (rintro _ _ ⟨s9,⟨hm9,rfl⟩,rfl⟩;exact a8 fun w hh=>⟨_,⟨s9,by simp[bz.store, *],rfl,rfl⟩,(((((hh.front 5 aa).front 5 aa).front 5 aa).front 5 aa).front 4 aa).tail.tail.tail.tail.tail⟩)
     | (rintro _ _ ⟨s9,⟨hm9,rfl⟩,rfl⟩;exact a8 fun w hh=>⟨_,⟨s9,by simp[i6 h16 hno,hm9],rfl,rfl⟩,(((((hh.front 4 aa).front 4 aa).front 4 aa).front 4 aa).front 4 aa).tail.tail.tail.tail.tail⟩)
   rintro _ _ ⟨s3,⟨e3,hm3,rfl⟩,rfl⟩
   refine ad (ao [6,0,1] rfl (ac (ab (kPf iN isAgg169 aa aa aa aa (kPm aa aa (kPv (lX aa aa (by decide) (Bz (by omega) (by omega))) aa (kPv (aP aa (mY)) aa (kPs (gj (u:=()) runUnderlying169 runUnderlying3 aa aa aa aa) aa (ad (ao [6] rfl (ac ?_)))))))))))
   refine ab (kPa aa aa (ad (aB ?_)))
   exact aw results86 aa (fun w hh=>⟨_,⟨0,{S with dirty:=mset S.dirty (i / 8) ()},_,by simp[i6 h16 hno,hm3],rfl,rfl⟩,eX (((((hh.tail.front 4 aa).front 4 aa).front 4 aa).front 4 aa).front 4 aa)⟩)
theorem yH{B:World}{n:Nat}{D:List Deferred}{σ:Env}{sv:Value}{xs:List Int}{Fr:List HP}{K:Act→World→Prop}(h:∀ q cap,sv= .slice q xs.length cap→GO B n D σ (ii 0 (sv,xs)::Fr) K):GO B n D σ (ii 0 (sv,xs)::Fr) K:=fun a w st=>by
 rcases ji st.holds with ⟨e1,e2,_⟩ | ⟨bd,rest,e,_⟩
 ·exact h none 0 (by rw[e2,e1];rfl) a w st
 ·exact h _ _ e a w st
theorem Av{B:World}{n:Nat}{D:List Deferred}{σ:Env}{q:Option Addr}{m cap k:Nat}{xs:List Int}{Fr:List HP}{K:Act→World→Prop}(hk:k<xs.length)(h:∀ bd rest,q=some ⟨bd,0,none⟩→m=xs.length→cap=m+rest.length→GO B n D σ (row bd (xs.map i64++rest) 3::Fr) K):GO B n D σ (ii 0 (.slice q m cap,xs)::Fr) K:=fun a w st=>by
 rcases ji st.holds with ⟨e1,e2,_⟩ | ⟨bd,rest,e,hh⟩
 ·subst e1;simp at hk
 ·injection e with e1 e2 e3
  exact h bd rest e1 e2 (by omega) a w ⟨st.toStA,hh⟩
theorem mi(B:World)(Fr:List HP)(b:Nat)(S:bz)(s:Dev)(hL:kT S)(hdl:S.dirty.length≤1000000):
 ∀ w,Holds B (iB b S::az S.L.d s::Fr) w→Calls Tryz.prog 89 [ptr b].toArray w (Ret B (fun rv H'=>∃ S' s',S.commit s= .ok S' s'∧rv=i64 0∧H'=fa b S'::az S.L.d s'::Fr) (fun c H'=>∃ s',S.commit s= .off s'∧c=dN∧H'=az S.L.d s'::Fr)):=by
 refine ap func89 aa ntmps89 aa ?_
 have hl:=hL.L
 have hc:=hl.c
 have hc1:=hc.r1
 have hc2:=hc.r2
 have hc3:=hc.l1
 have hc4:=hc.l2
 have hact:=hc.act
 refine kE S.L.d fun hn1 hn2 hn3=>(lq fun bl o1 o2=> ?_)
 have hks:∀ x∈bT (S.dirty.map Prod.fst),0≤x∧x≤1000000:=fun x hx=>by
  obtain⟨p,hp,rfl⟩:=List.mem_map.1 (List.mem_mergeSort.1 hx)
  exact hL.dirty p hp
 have hkl:(bT (S.dirty.map Prod.fst)).length≤1000000:=by rw[bT,List.length_mergeSort,List.length_map];exact hdl
 refine ac (ab (kPa aa aa (ad (ac (ac (ab (kPf dG isAgg4 aa aa aa aa (kPv (bu aa) aa (ad (bE aa (rfl) (aq ?_)))))))))))
 refine ac (ac (ab (kPf iN isAgg169 aa aa aa aa (aI aa (ar call150 aa) (yl _ _ _) .free aa aa ?_))))
 rintro _ _ ⟨bb,rfl,rfl⟩
 refine aM (H':=row bb [.map (some o2)] 169::bi .i64 bS o2 S.dirty::cZ b bl S true (some o1) (some o2)::cO bl S.L::bi .i64 bS o1 S.seen::az S.L.d s::Fr) (fun w hh=>((hh.front 4 aa).front 1 aa)) (aI aa (ar call149 aa) (wq _ _ _ _ _ hdl) .free aa aa ?_)
 rintro sv _ rfl
 refine yH fun q cap hq=> ?_
 subst hq
 refine kPv (bH aa runUnderlying166 ⟨_,rfl⟩ rfl) aa (kPm aa aa (ad (ao [17,16,15,2,0] rfl (aK (di (ι:=Nat×Dev) (fun i=>i.1≤(bT (S.dirty.map Prod.fst)).length∧dy (bT (S.dirty.map Prod.fst)) s=dy ((bT (S.dirty.map Prod.fst)).drop i.1) i.2) (fun i=>[(0,ptr b),(2,i64 0),(15,.slice q (bT (S.dirty.map Prod.fst)).length cap),(16,i64 (bT (S.dirty.map Prod.fst)).length),(17,i64 i.1)]) (fun i=>ii 0 (.slice q (bT (S.dirty.map Prod.fst)).length cap,bT (S.dirty.map Prod.fst))::bi .i64 bS o2 S.dirty::cZ b bl S true (some o1) (some o2)::cO bl S.L::bi .i64 bS o1 S.seen::az S.L.d i.2::Fr) (fun i=>(bT (S.dirty.map Prod.fst)).length - i.1) (0,s) ⟨Nat.zero_le _,by simp⟩ (fun a w st=>st.to ⟨rfl,rfl,rfl,rfl,rfl,trivial⟩ id) ?_)))))
 rintro⟨k,s1⟩ ⟨hk1,hk2⟩
 simp only at hk1 hk2 ⊢
 refine ac (ab (kPv (am aa aa aa) aa (ad (ac ?_))))
 refine ba aa (fun h18=> ?_) (fun h18=> ?_)
 ·have hkn:k<(bT (S.dirty.map Prod.fst)).length:=by simpa using h18
  have hkb:=hks _ (List.getElem_mem hkn)
  refine aq (ac (aK (ac (ab (Av (k:=k) hkn fun bd rest hq hm hcap=> ?_)))))
  subst hq
  refine kPv (cA runUnderlying166 sizeOf3 aa aa (by omega) (by omega)) aa ?_
  refine kPv (ai (v:=i64 (bT (S.dirty.map Prod.fst))[k]) isAgg3 aa (by rw[Nat.zero_add,Int.toNat_natCast,List.getElem?_append_left (by rw[List.length_map];exact hkn),List.getElem?_map,List.getElem?_eq_getElem hkn];rfl)) aa ?_
  refine kPa aa aa (ad (ab (kPf j1 isAgg90 aa aa aa aa (kPm aa aa (kPv (mS aa aa) aa ?_)))))
  refine aS aa (ar call151 aa) (cy (q:=az) (fun Fr=>dx _ Fr _ _ _)) .free aa aa ?_ ?_
  rotate_left
  ·rintro _ _ ⟨s9,⟨hm9,rfl⟩,rfl⟩
   exact a8 fun w hh=>⟨_,⟨s9,by unfold bz.commit;rw[hk2,List.drop_eq_getElem_cons hkn];simp only[dy];rw[hm9];rfl,rfl,rfl⟩,(((((hh.front 4 aa).front 4 aa).front 4 aa).front 4 aa).front 4 aa).tail.tail.tail.tail.tail⟩
  rintro _ _ ⟨s1',⟨e1,hm1,rfl⟩,rfl⟩
  refine ad (ao [17,16,15,2,0] rfl (ab (kPv (aN aa aa) aa (kPm aa aa (ad ?_)))))
  exact fun a w st=>⟨(k+1,s1'),⟨by simp only;omega,by simp only;rw[hk2,List.drop_eq_getElem_cons hkn];simp only[dy];rw[hm1];rfl⟩,by simp only;omega,st.to ⟨rfl,rfl,rfl,rfl,rfl,trivial⟩ (fun hh=>oR hm hcap hh)⟩
 ·have hkn:¬k<(bT (S.dirty.map Prod.fst)).length:=by simpa using h18
  have hfl:dy (bT (S.dirty.map Prod.fst)) s= .ok () s1:=by
   rw[hk2,List.drop_eq_nil_of_le (by omega)];rfl
  refine bD (ac (ac (ab (kPf iN isAgg169 aa aa aa aa (kPv (vM aa runUnderlying169 aa) aa (kPv (am aa aa aa) aa (ad (ao [34,2,0] rfl ?_))))))))
  refine ba aa (fun h34=> ?_) (fun h34=> ?_)
  ·try simp only[decide_eq_true_eq,decide_eq_false_iff_not,Bool.not_eq_true',Bool.not_eq_false',Bool.or_eq_true,Bool.and_eq_true,Bool.and_eq_false_iff,Bool.or_eq_false_iff,beq_iff_eq,bne_iff_ne,beq_eq_false_iff_ne,bne_eq_false_iff_eq,ge_iff_le,gt_iff_lt,ne_eq] at h34
   refine ab (kPf j1 isAgg90 aa aa aa aa ?_)
   refine aS aa (ar call152 aa) (cy (q:=az) (fun Fr=>eD _ Fr _ _)) .free aa aa ?_ ?_
   rotate_left
   ·rintro _ _ ⟨s9,⟨hm9,rfl⟩,rfl⟩
    exact a8 fun w hh=>⟨_,⟨s9,by unfold bz.commit;rw[hfl,aQ,if_pos (by omega),hm9];rfl,rfl,rfl⟩,(((((hh.front 4 aa).front 4 aa).front 4 aa).front 4 aa).front 4 aa).tail.tail.tail.tail.tail⟩
   rintro _ _ ⟨s4,⟨e4,hm4,rfl⟩,rfl⟩
   refine ad (ac (ab (aM (H':=cO bl S.L::az S.L.d _::ii 0 (.slice q (bT (S.dirty.map Prod.fst)).length cap,bT (S.dirty.map Prod.fst))::bi .i64 bS o2 S.dirty::cZ b bl S true (some o1) (some o2)::bi .i64 bS o1 S.seen::Fr) (fun w hh=>((hh.front 5 aa).front 4 aa)) (kPf hG isAgg168 aa aa aa aa ?_))))
   refine aS aa (ar call153 aa) (kl _ _ bl S.L _ hL.L) .free aa aa ?_ ?_
   rotate_left
   ·rintro _ _ ⟨s9,hm9,rfl,rfl⟩
    exact a8 fun w hh=>⟨_,⟨s9,by unfold bz.commit;rw[hfl];first | (rw[aQ,if_pos (by omega),hm4,aQ,hm9];rfl) | (rw[aQ,if_neg (by omega),aQ,hm9];rfl),rfl,rfl⟩,(((((hh.front 5 aa).front 5 aa).front 5 aa).front 5 aa).front 4 aa).tail.tail.tail.tail.tail⟩
   rintro _ _ ⟨L5,s5,hm5,rfl,rfl⟩
   refine ad (ao [2,0] rfl (ac (ab (kPm aa aa (kPv (aJ aa) aa (kPv (aF (m:=_) dG aa aa) aa (kPs (aO sizeOf4 aa aa aa aa) aa (ad (ac (ab (kPa aa aa ?_)))))))))))
   refine ad (aB ?_)
   exact aw results89 aa (fun w hh=>by
   have hd1:=qg hm5
   obtain⟨d1,c1,e1,n1⟩:=L5
   obtain⟨hd2,hd3⟩:=hd1
   simp only at hd2 hd3
   subst hd2;subst hd3
   exact⟨_,⟨{S with L:=⟨_,_,e1,n1⟩},_,by unfold bz.commit;rw[hfl,aQ,if_pos (by omega),hm4,aQ,hm5];rfl,rfl,rfl⟩,dL ((((((hh.front 5 aa).front 4 aa).front 4 aa).tail.tail.tail.front 1 aa).front 1 aa).front 2 aa)⟩)
  ·try simp only[decide_eq_true_eq,decide_eq_false_iff_not,Bool.not_eq_true',Bool.not_eq_false',Bool.or_eq_true,Bool.and_eq_true,Bool.and_eq_false_iff,Bool.or_eq_false_iff,beq_iff_eq,bne_iff_ne,beq_eq_false_iff_ne,bne_eq_false_iff_eq,ge_iff_le,gt_iff_lt,ne_eq] at h34
   refine aq (ac (ab (aM (H':=cO bl S.L::az S.L.d _::ii 0 (.slice q (bT (S.dirty.map Prod.fst)).length cap,bT (S.dirty.map Prod.fst))::bi .i64 bS o2 S.dirty::cZ b bl S true (some o1) (some o2)::bi .i64 bS o1 S.seen::Fr) (fun w hh=>((hh.front 5 aa).front 4 aa)) (kPf hG isAgg168 aa aa aa aa ?_))))
   refine aS aa (ar call153 aa) (kl _ _ bl S.L _ hL.L) .free aa aa ?_ ?_
   rotate_left
   ·rintro _ _ ⟨s9,hm9,rfl,rfl⟩
    exact a8 fun w hh=>⟨_,⟨s9,by unfold bz.commit;rw[hfl];first | (rw[aQ,if_pos (by omega),hm4,aQ,hm9];rfl) | (rw[aQ,if_neg (by omega),aQ,hm9];rfl),rfl,rfl⟩,(((((hh.front 5 aa).front 5 aa).front 5 aa).front 5 aa).front 4 aa).tail.tail.tail.tail.tail⟩
   rintro _ _ ⟨L5,s5,hm5,rfl,rfl⟩
   refine ad (ac (ab (kPm aa aa (kPv (aJ aa) aa (kPv (aF (m:=_) dG aa aa) aa (kPs (aO sizeOf4 aa aa aa aa) aa (ad (ao [2] rfl (ac (ab (kPa aa aa ?_)))))))))))
   refine ad (aB ?_)
   exact aw results89 aa (fun w hh=>by
   have hd1:=qg hm5
   obtain⟨d1,c1,e1,n1⟩:=L5
   obtain⟨hd2,hd3⟩:=hd1
   simp only at hd2 hd3
   subst hd2;subst hd3
   exact⟨_,⟨{S with L:=⟨_,_,e1,n1⟩},_,by unfold bz.commit;rw[hfl,aQ,if_neg (by omega),aQ,hm5];rfl,rfl,rfl⟩,dL ((((((hh.front 5 aa).front 4 aa).front 4 aa).tail.tail.tail.front 1 aa).front 1 aa).front 2 aa)⟩)
theorem jb(B:World)(Fr:List HP)(b:Nat)(S:bz)(f t:Int):
 ∀ w,Holds B (fa b S::Fr) w→Calls Tryz.prog 83 [ptr b,.agg #[i64 f,i64 t]].toArray w (Ret B (fun rv H'=>rv=i64 0∧H'=iB b {S with ff:=f,ft:=t,seen:=[],dirty:=[]}::Fr) (fun _ _=>False)):=by
 refine ap func83 aa ntmps83 aa (kr fun bl o1 o2=>(ac (ab (kPb (aY aa) aa fun b3=>(kPa aa aa (ad (ac (ac (ab (kPf dG isAgg4 aa aa aa aa (ad ?_)))))))))))
 refine bE aa (rfl) (aq (ac (aM (H':=row b3 [i64 f,i64 t] 155::cZ b bl S false o1 o2::cO bl S.L::pr True::pr True::Fr) (fun w hh=>(((hh.unpr trivial).unpr trivial).front 4 aa |>.front 4 aa |>.front 4 aa)) (cB (σ':=[(0,ptr b),(3,ptr b3)]) ⟨rfl,rfl,trivial⟩ ?_))))
 refine yJ (G:=Nat×Nat) [0,3] (fun g i=>match i with | 0=>ptr b | 1=>ptr b | 2=>ptr b | 3=>ptr b | 4=> .agg #[i64 f,i64 t] | 5=> .map (some g.1) | 6=> .map (some g.2) | 7=> .pointer (some ⟨b,0,none⟩) | 8=> .pointer (some ⟨b,5,none⟩) | 10=> .pointer (some ⟨b,0,none⟩) | 11=> .pointer (some ⟨b,6,none⟩) | 13=> .pointer (some ⟨b,0,none⟩) | 14=> .pointer (some ⟨b,8,none⟩) | 16=> .pointer (some ⟨b,0,none⟩) | 17=> .pointer (some ⟨b,9,none⟩) | _=>undef) (fun L g=>row b3 [i64 f,i64 t] 155::row b [ptr bl,ptr S.L.d,i64 S.L.c.log,i64 S.L.c.roots,i64 S.L.c.space,.bool (L.getD 9 false),i64 (if (L.getD 12 false)=true then f else S.ff),i64 (if (L.getD 12 false)=true then t else S.ft),.map (if (L.getD 15 false)=true then some g.1 else o1),.map (if (L.getD 18 false)=true then some g.2 else o2)] 171::cO bl S.L::(if (L.getD 5 false)=true then bi .i64 bS g.1 [] else pr True)::(if (L.getD 6 false)=true then bi .i64 bS g.2 [] else pr True)::Fr) (0,0) (fun g=>[(0,ptr b)]) (fun g=>row b3 [i64 f,i64 t] 155::cZ b bl {S with ff:=f,ft:=t} true (some g.1) (some g.2)::cO bl S.L::bi .i64 bS g.1 []::bi .i64 bS g.2 []::Fr) Tryz.mixed (by kernel_rfl) (fun t v h=>nX h) aa ?_ ?_ ?_
 ·intro i o ho L g hsz hun hcl hdep a hk hd w hw
  have hi:i<19:=(Array.getElem?_eq_some_iff.1 ho).1
  have hL:L.size=19:=hsz
  obtain rfl | rfl | rfl | rfl | rfl | rfl | rfl | rfl | rfl | rfl | rfl | rfl | rfl | rfl | rfl | rfl | rfl | rfl | rfl:i=0∨i=1∨i=2∨i=3∨i=4∨i=5∨i=6∨i=7∨i=8∨i=9∨i=10∨i=11∨i=12∨i=13∨i=14∨i=15∨i=16∨i=17∨i=18:=by omega
  ·obtain rfl:=Option.some.inj (show some _=some o from ho)
   exact c9 (v:=ptr b) (by first | exact ak rfl | exact Evs.eq (ak rfl) rfl) hk hw ⟨g,fun _=>rfl,fun _ _ _=>rfl,by simpa (disch:=decide) only[getD_set_ne] using hw⟩
  ·obtain rfl:=Option.some.inj (show some _=some o from ho)
   exact c9 (v:=ptr b) (by first | exact ak rfl | exact Evs.eq (ak rfl) rfl) hk hw ⟨g,fun _=>rfl,fun _ _ _=>rfl,by simpa (disch:=decide) only[getD_set_ne] using hw⟩
  ·obtain rfl:=Option.some.inj (show some _=some o from ho)
   exact c9 (v:=ptr b) (by first | exact ak rfl | exact Evs.eq (ak rfl) rfl) hk hw ⟨g,fun _=>rfl,fun _ _ _=>rfl,by simpa (disch:=decide) only[getD_set_ne] using hw⟩
  ·obtain rfl:=Option.some.inj (show some _=some o from ho)
   exact c9 (v:=ptr b) (by first | exact ak rfl | exact Evs.eq (ak rfl) rfl) hk hw ⟨g,fun _=>rfl,fun _ _ _=>rfl,by simpa (disch:=decide) only[getD_set_ne] using hw⟩
  ·obtain rfl:=Option.some.inj (show some _=some o from ho)
   exact c9 (v:= .agg #[i64 f,i64 t]) (by first | exact ah isAgg155 sizeOf155 rfl rfl | exact Evs.eq (ah isAgg155 sizeOf155 rfl rfl) rfl) hk hw ⟨g,fun _=>rfl,fun _ _ _=>rfl,by simpa (disch:=decide) only[getD_set_ne] using hw⟩
  ·obtain rfl:=Option.some.inj (show some _=some o from ho)
   have hk':=hk
   have hun':L.getD 5 false=false:=getD_both hun
   have n15:L.getD 15 false=false:=by
    cases h:L.getD 15 false with
    | false=>rfl
    | true=>have h2:=hcl 15 _ rfl h ⟨5,.data⟩ (by simp) rfl;rw[hun'] at h2;cases h2
   refine jn (dP .i64 bS) hk' hw ?_
   rintro v H' ⟨bn,rfl,rfl⟩ w' hw'
   refine⟨(bn,g.2),fun _=>rfl,fun j hj hl=> ?_,?_⟩
   ·match j with
    | 5=>exact absurd aa hj
    | 0 | 1 | 2 | 3 | 4 | 6 | 7 | 8 | 10 | 11 | 13 | 14 | 16 | 17=>rfl
    | 9 | 12 | 15 | 18 | _+19=>rfl
   ·simp only[getD_set_ne false (show(5:Nat)≠6 by decide),getD_set_ne false (show(5:Nat)≠9 by decide),getD_set_ne false (show(5:Nat)≠12 by decide),getD_set_ne false (show(5:Nat)≠15 by decide),getD_set_ne false (show(5:Nat)≠18 by decide),dI (show 5<L.size by omega)]
    simp only[hun',n15] at hw' ⊢
    exact(((hw'.front 4 aa).tail).front 3 aa |>.front 3 aa |>.front 3 aa)
  ·obtain rfl:=Option.some.inj (show some _=some o from ho)
   have hk':=hk
   have hun':L.getD 6 false=false:=getD_both hun
   have n18:L.getD 18 false=false:=by
    cases h:L.getD 18 false with
    | false=>rfl
    | true=>have h2:=hcl 18 _ rfl h ⟨6,.data⟩ (by simp) rfl;rw[hun'] at h2;cases h2
   refine jn (dP .i64 bS) hk' hw ?_
   rintro v H' ⟨bn,rfl,rfl⟩ w' hw'
   refine⟨(g.1,bn),fun _=>rfl,fun j hj hl=> ?_,?_⟩
   ·match j with
    | 6=>exact absurd aa hj
    | 0 | 1 | 2 | 3 | 4 | 5 | 7 | 8 | 10 | 11 | 13 | 14 | 16 | 17=>rfl
    | 9 | 12 | 15 | 18 | _+19=>rfl
   ·simp only[getD_set_ne false (show(6:Nat)≠5 by decide),getD_set_ne false (show(6:Nat)≠9 by decide),getD_set_ne false (show(6:Nat)≠12 by decide),getD_set_ne false (show(6:Nat)≠15 by decide),getD_set_ne false (show(6:Nat)≠18 by decide),dI (show 6<L.size by omega)]
    simp only[hun',n18] at hw' ⊢
    exact(((hw'.front 5 aa).tail).front 4 aa |>.front 4 aa |>.front 4 aa |>.front 4 aa)
  ·obtain rfl:=Option.some.inj (show some _=some o from ho)
   have d0_data:L.getD 0 false=true:=hdep ⟨0,.data⟩ (by simp) rfl
   have d0:=d0_data
   have d0_phase:L.getD 0 false=true:=hdep ⟨0,.phase⟩ (by simp) rfl
   have d0:=d0_phase
   have v0:a.tmps[9]? =some (ptr b):=hd 0 _ 9 rfl rfl d0
   exact c9 (v:= .pointer (some ⟨b,0,none⟩)) (by first | exact aJ rfl | exact Evs.eq (aJ rfl) rfl) (bG v0 hk) hw ⟨g,fun _=>rfl,fun _ _ _=>rfl,by simpa (disch:=decide) only[getD_set_ne] using hw⟩
  ·obtain rfl:=Option.some.inj (show some _=some o from ho)
   have d7_data:L.getD 7 false=true:=hdep ⟨7,.data⟩ (by simp) rfl
   have d7:=d7_data
   have v7:a.tmps[16]? =some (.pointer (some ⟨b,0,none⟩)):=hd 7 _ 16 rfl rfl d7
   exact c9 (v:= .pointer (some ⟨b,5,none⟩)) (by first | exact aF (m:=_) dG aa aa | exact Evs.eq (aF (m:=_) dG aa aa) aa) (bG v7 hk) hw ⟨g,fun _=>rfl,fun _ _ _=>rfl,by simpa (disch:=decide) only[getD_set_ne] using hw⟩
  ·obtain rfl:=Option.some.inj (show some _=some o from ho)
   have d8_data:L.getD 8 false=true:=hdep ⟨8,.data⟩ (by simp) rfl
   have d8:=d8_data
   have v8:a.tmps[17]? =some (.pointer (some ⟨b,5,none⟩)):=hd 8 _ 17 rfl rfl d8
   have hk':=(bG v8 hk)
   have hun':L.getD 9 false=false:=getD_both hun
   refine jn (aO sizeOf4 aa aa aa aa) hk' hw ?_
   rintro v H' rfl w' hw'
   refine⟨g,fun h=>absurd aa h,fun _ _ _=>rfl,?_⟩
   simp only[getD_set_ne false (show(9:Nat)≠5 by decide),getD_set_ne false (show(9:Nat)≠6 by decide),getD_set_ne false (show(9:Nat)≠12 by decide),getD_set_ne false (show(9:Nat)≠15 by decide),getD_set_ne false (show(9:Nat)≠18 by decide),dI (show 9<L.size by omega)]
   simp only[hun',if_true] at hw' ⊢
   exact hw'
  ·obtain rfl:=Option.some.inj (show some _=some o from ho)
   have d1_data:L.getD 1 false=true:=hdep ⟨1,.data⟩ (by simp) rfl
   have d1:=d1_data
   have d1_phase:L.getD 1 false=true:=hdep ⟨1,.phase⟩ (by simp) rfl
   have d1:=d1_phase
   have d9_phase:L.getD 9 false=true:=hdep ⟨9,.phase⟩ (by simp) rfl
   have d9:=d9_phase
   have v1:a.tmps[10]? =some (ptr b):=hd 1 _ 10 rfl rfl d1
   exact c9 (v:= .pointer (some ⟨b,0,none⟩)) (by first | exact aJ rfl | exact Evs.eq (aJ rfl) rfl) (bG v1 hk) hw ⟨g,fun _=>rfl,fun _ _ _=>rfl,by simpa (disch:=decide) only[getD_set_ne] using hw⟩
  ·obtain rfl:=Option.some.inj (show some _=some o from ho)
   have d10_data:L.getD 10 false=true:=hdep ⟨10,.data⟩ (by simp) rfl
   have d10:=d10_data
   have d9_phase:L.getD 9 false=true:=hdep ⟨9,.phase⟩ (by simp) rfl
   have d9:=d9_phase
   have v10:a.tmps[18]? =some (.pointer (some ⟨b,0,none⟩)):=hd 10 _ 18 rfl rfl d10
   exact c9 (v:= .pointer (some ⟨b,6,none⟩)) (by first | exact aF (m:=_) lB aa aa | exact Evs.eq (aF (m:=_) lB aa aa) aa) (bG v10 hk) hw ⟨g,fun _=>rfl,fun _ _ _=>rfl,by simpa (disch:=decide) only[getD_set_ne] using hw⟩
  ·obtain rfl:=Option.some.inj (show some _=some o from ho)
   have d11_data:L.getD 11 false=true:=hdep ⟨11,.data⟩ (by simp) rfl
   have d11:=d11_data
   have d4_data:L.getD 4 false=true:=hdep ⟨4,.data⟩ (by simp) rfl
   have d4:=d4_data
   have d9_chain:L.getD 9 false=true:=hdep ⟨9,.chain⟩ (by simp) rfl
   have d9:=d9_chain
   have d4_phase:L.getD 4 false=true:=hdep ⟨4,.phase⟩ (by simp) rfl
   have d4:=d4_phase
   have d9_phase:L.getD 9 false=true:=hdep ⟨9,.phase⟩ (by simp) rfl
   have d9:=d9_phase
   have v4:a.tmps[13]? =some (.agg #[i64 f,i64 t]):=hd 4 _ 13 rfl rfl d4
   have v11:a.tmps[19]? =some (.pointer (some ⟨b,6,none⟩)):=hd 11 _ 19 rfl rfl d11
   have hk':=(bG v11 (bG v4 hk))
   have hun':L.getD 12 false=false:=getD_both hun
   refine jn (ay (vs:=[i64 f,i64 t]) sizeOf155 aa aa aa aa aa) hk' hw ?_
   rintro v H' rfl w' hw'
   refine⟨g,fun h=>absurd aa h,fun _ _ _=>rfl,?_⟩
   simp only[getD_set_ne false (show(12:Nat)≠5 by decide),getD_set_ne false (show(12:Nat)≠6 by decide),getD_set_ne false (show(12:Nat)≠9 by decide),getD_set_ne false (show(12:Nat)≠15 by decide),getD_set_ne false (show(12:Nat)≠18 by decide),dI (show 12<L.size by omega)]
   simp only[hun',if_true] at hw' ⊢
   exact hw'
  ·obtain rfl:=Option.some.inj (show some _=some o from ho)
   have d2_data:L.getD 2 false=true:=hdep ⟨2,.data⟩ (by simp) rfl
   have d2:=d2_data
   have d2_phase:L.getD 2 false=true:=hdep ⟨2,.phase⟩ (by simp) rfl
   have d2:=d2_phase
   have d5_phase:L.getD 5 false=true:=hdep ⟨5,.phase⟩ (by simp) rfl
   have d5:=d5_phase
   have d9_phase:L.getD 9 false=true:=hdep ⟨9,.phase⟩ (by simp) rfl
   have d9:=d9_phase
   have d12_phase:L.getD 12 false=true:=hdep ⟨12,.phase⟩ (by simp) rfl
   have d12:=d12_phase
   have v2:a.tmps[11]? =some (ptr b):=hd 2 _ 11 rfl rfl d2
   exact c9 (v:= .pointer (some ⟨b,0,none⟩)) (by first | exact aJ rfl | exact Evs.eq (aJ rfl) rfl) (bG v2 hk) hw ⟨g,fun _=>rfl,fun _ _ _=>rfl,by simpa (disch:=decide) only[getD_set_ne] using hw⟩
  ·obtain rfl:=Option.some.inj (show some _=some o from ho)
   have d13_data:L.getD 13 false=true:=hdep ⟨13,.data⟩ (by simp) rfl
   have d13:=d13_data
   have d5_phase:L.getD 5 false=true:=hdep ⟨5,.phase⟩ (by simp) rfl
   have d5:=d5_phase
   have d9_phase:L.getD 9 false=true:=hdep ⟨9,.phase⟩ (by simp) rfl
   have d9:=d9_phase
   have d12_phase:L.getD 12 false=true:=hdep ⟨12,.phase⟩ (by simp) rfl
   have d12:=d12_phase
   have v13:a.tmps[20]? =some (.pointer (some ⟨b,0,none⟩)):=hd 13 _ 20 rfl rfl d13
   exact c9 (v:= .pointer (some ⟨b,8,none⟩)) (by first | exact aF (m:=_) lA aa aa | exact Evs.eq (aF (m:=_) lA aa aa) aa) (bG v13 hk) hw ⟨g,fun _=>rfl,fun _ _ _=>rfl,by simpa (disch:=decide) only[getD_set_ne] using hw⟩
  ·obtain rfl:=Option.some.inj (show some _=some o from ho)
   have d14_data:L.getD 14 false=true:=hdep ⟨14,.data⟩ (by simp) rfl
   have d14:=d14_data
   have d5_data:L.getD 5 false=true:=hdep ⟨5,.data⟩ (by simp) rfl
   have d5:=d5_data
   have d12_chain:L.getD 12 false=true:=hdep ⟨12,.chain⟩ (by simp) rfl
   have d12:=d12_chain
   have d5_phase:L.getD 5 false=true:=hdep ⟨5,.phase⟩ (by simp) rfl
   have d5:=d5_phase
   have d9_phase:L.getD 9 false=true:=hdep ⟨9,.phase⟩ (by simp) rfl
   have d9:=d9_phase
   have d12_phase:L.getD 12 false=true:=hdep ⟨12,.phase⟩ (by simp) rfl
   have d12:=d12_phase
   have v5:a.tmps[14]? =some (.map (some g.1)):=hd 5 _ 14 rfl rfl d5
   have v14:a.tmps[21]? =some (.pointer (some ⟨b,8,none⟩)):=hd 14 _ 21 rfl rfl d14
   have hk':=(bG v14 (bG v5 hk))
   have hun':L.getD 15 false=false:=getD_both hun
   refine jn (aO sizeOf169 aa aa aa aa) hk' hw ?_
   rintro v H' rfl w' hw'
   refine⟨g,fun h=>absurd aa h,fun _ _ _=>rfl,?_⟩
   simp only[getD_set_ne false (show(15:Nat)≠5 by decide),getD_set_ne false (show(15:Nat)≠6 by decide),getD_set_ne false (show(15:Nat)≠9 by decide),getD_set_ne false (show(15:Nat)≠12 by decide),getD_set_ne false (show(15:Nat)≠18 by decide),dI (show 15<L.size by omega)]
   simp only[hun',if_true] at hw' ⊢
   exact hw'
  ·obtain rfl:=Option.some.inj (show some _=some o from ho)
   have d3_data:L.getD 3 false=true:=hdep ⟨3,.data⟩ (by simp) rfl
   have d3:=d3_data
   have d3_phase:L.getD 3 false=true:=hdep ⟨3,.phase⟩ (by simp) rfl
   have d3:=d3_phase
   have d5_phase:L.getD 5 false=true:=hdep ⟨5,.phase⟩ (by simp) rfl
   have d5:=d5_phase
   have d6_phase:L.getD 6 false=true:=hdep ⟨6,.phase⟩ (by simp) rfl
   have d6:=d6_phase
   have d9_phase:L.getD 9 false=true:=hdep ⟨9,.phase⟩ (by simp) rfl
   have d9:=d9_phase
   have d12_phase:L.getD 12 false=true:=hdep ⟨12,.phase⟩ (by simp) rfl
   have d12:=d12_phase
   have d15_phase:L.getD 15 false=true:=hdep ⟨15,.phase⟩ (by simp) rfl
   have d15:=d15_phase
   have v3:a.tmps[12]? =some (ptr b):=hd 3 _ 12 rfl rfl d3
   exact c9 (v:= .pointer (some ⟨b,0,none⟩)) (by first | exact aJ rfl | exact Evs.eq (aJ rfl) rfl) (bG v3 hk) hw ⟨g,fun _=>rfl,fun _ _ _=>rfl,by simpa (disch:=decide) only[getD_set_ne] using hw⟩
  ·obtain rfl:=Option.some.inj (show some _=some o from ho)
   have d16_data:L.getD 16 false=true:=hdep ⟨16,.data⟩ (by simp) rfl
   have d16:=d16_data
   have d5_phase:L.getD 5 false=true:=hdep ⟨5,.phase⟩ (by simp) rfl
   have d5:=d5_phase
   have d6_phase:L.getD 6 false=true:=hdep ⟨6,.phase⟩ (by simp) rfl
   have d6:=d6_phase
   have d9_phase:L.getD 9 false=true:=hdep ⟨9,.phase⟩ (by simp) rfl
   have d9:=d9_phase
   have d12_phase:L.getD 12 false=true:=hdep ⟨12,.phase⟩ (by simp) rfl
   have d12:=d12_phase
   have d15_phase:L.getD 15 false=true:=hdep ⟨15,.phase⟩ (by simp) rfl
   have d15:=d15_phase
   have v16:a.tmps[22]? =some (.pointer (some ⟨b,0,none⟩)):=hd 16 _ 22 rfl rfl d16
   exact c9 (v:= .pointer (some ⟨b,9,none⟩)) (by first | exact aF (m:=_) iN aa aa | exact Evs.eq (aF (m:=_) iN aa aa) aa) (bG v16 hk) hw ⟨g,fun _=>rfl,fun _ _ _=>rfl,by simpa (disch:=decide) only[getD_set_ne] using hw⟩
  ·obtain rfl:=Option.some.inj (show some _=some o from ho)
   have d17_data:L.getD 17 false=true:=hdep ⟨17,.data⟩ (by simp) rfl
   have d17:=d17_data
   have d6_data:L.getD 6 false=true:=hdep ⟨6,.data⟩ (by simp) rfl
   have d6:=d6_data
   have d15_chain:L.getD 15 false=true:=hdep ⟨15,.chain⟩ (by simp) rfl
   have d15:=d15_chain
   have d5_phase:L.getD 5 false=true:=hdep ⟨5,.phase⟩ (by simp) rfl
   have d5:=d5_phase
   have d6_phase:L.getD 6 false=true:=hdep ⟨6,.phase⟩ (by simp) rfl
   have d6:=d6_phase
   have d9_phase:L.getD 9 false=true:=hdep ⟨9,.phase⟩ (by simp) rfl
   have d9:=d9_phase
   have d12_phase:L.getD 12 false=true:=hdep ⟨12,.phase⟩ (by simp) rfl
   have d12:=d12_phase
   have d15_phase:L.getD 15 false=true:=hdep ⟨15,.phase⟩ (by simp) rfl
   have d15:=d15_phase
   have v6:a.tmps[15]? =some (.map (some g.2)):=hd 6 _ 15 rfl rfl d6
   have v17:a.tmps[23]? =some (.pointer (some ⟨b,9,none⟩)):=hd 17 _ 23 rfl rfl d17
   have hk':=(bG v17 (bG v6 hk))
   have hun':L.getD 18 false=false:=getD_both hun
   refine jn (aO sizeOf169 aa aa aa aa) hk' hw ?_
   rintro v H' rfl w' hw'
   refine⟨g,fun h=>absurd aa h,fun _ _ _=>rfl,?_⟩
   simp only[getD_set_ne false (show(18:Nat)≠5 by decide),getD_set_ne false (show(18:Nat)≠6 by decide),getD_set_ne false (show(18:Nat)≠9 by decide),getD_set_ne false (show(18:Nat)≠12 by decide),getD_set_ne false (show(18:Nat)≠15 by decide),dI (show 18<L.size by omega)]
   simp only[hun',if_true] at hw' ⊢
   exact hw'
 ·intro L g hall a w hk hd hw
  have h5:=hall 5 (by decide)
  have h6:=hall 6 (by decide)
  have h9:=hall 9 (by decide)
  have h12:=hall 12 (by decide)
  have h15:=hall 15 (by decide)
  have h18:=hall 18 (by decide)
  simp only[h5,h6,h9,h12,h15,h18,if_true] at hw
  exact⟨fun u x e=>hk u x (by simp only[look] at e ⊢;cases hb:Nat.beq 0 u<;>simp_all),hw⟩
 intro g
 refine ac (ab (kPa aa aa (ad (ao [4] rfl (aB ?_)))))
 exact aw results83 aa (fun w hh=>⟨_,⟨rfl,rfl⟩,eX (S:={S with ff:=f,ft:=t,seen:=[],dirty:=[]}) hh.tail⟩)
theorem zP{L L':bJ}{s s':Dev}(h:L.undo s= .ok L' s'):L'.d=L.d∧L'.c=L.c:=by
 unfold bJ.undo at h
 cases h1:kx jv L.c L.n.toNat s with
 | off s1=>rw[h1] at h;cases h
 | ok u s1=>
   rw[h1,aQ] at h
   cases h2:(if 0<L.n then s1.fence else Out.ok () s1) with
   | off s2=>rw[h2] at h;cases h
   | ok u s2=>rw[h2,aQ] at h;exact qg h
theorem nx(B:World)(Fr:List HP)(b:Nat)(S:bz)(s:Dev)(hL:kT S):
 ∀ w,Holds B (iB b S::az S.L.d s::Fr) w→Calls Tryz.prog 206 [ptr b].toArray w (Ret B (fun rv H'=>∃ S' s',S.abort s= .ok S' s'∧rv=i64 0∧H'=fa b S'::az S.L.d s'::Fr) (fun c H'=>∃ s',S.abort s= .off s'∧c=dN∧H'=az S.L.d s'::Fr)):=by
 refine ap func206 aa ntmps206 aa ?_
 have hl:=hL.L
 have hc:=hl.c
 have hc1:=hc.r1
 have hc2:=hc.r2
 have hc3:=hc.l1
 have hc4:=hc.l2
 have hact:=hc.act
 refine kE S.L.d fun hn1 hn2 hn3=>(lq fun bl o1 o2=>(ac (ab (kPa aa aa (ad (ac (ac (ab (kPf dG isAgg4 aa aa aa aa (kPv (bu aa) aa (ad ?_)))))))))))
 refine bE aa (rfl) (aq (ac (ab (aM (H':=cO bl S.L::az S.L.d s::cZ b bl S true (some o1) (some o2)::bi .i64 bS o1 S.seen::bi .i64 bS o2 S.dirty::Fr) (fun w hh=>((hh.front 4 aa).front 2 aa)) (kPf hG isAgg168 aa aa aa aa ?_)))))
 refine aS aa (ar call129 aa) (nW _ _ bl S.L _ hL.L) .free aa aa ?_ ?_
 rotate_left
 ·rintro _ _ ⟨s9,hm9,rfl,rfl⟩
  exact a8 fun w hh=>⟨_,⟨s9,by simp[bz.abort,hm9],rfl,rfl⟩,((((hh.front 4 aa).front 4 aa).front 4 aa).front 3 aa).tail.tail.tail.tail⟩
 rintro _ _ ⟨L5,s5,hm5,rfl,rfl⟩
 refine ad (ao [2,0] rfl (ac (ab (kPm aa aa (kPv (aJ aa) aa (kPv (aF (m:=_) dG aa aa) aa (kPs (aO sizeOf4 aa aa aa aa) aa (ad (ac (ab (kPa aa aa ?_)))))))))))
 refine ad (aB ?_)
 exact aw results206 aa (fun w hh=>by
  have hd1:=zP hm5
  obtain⟨d1,c1,e1,n1⟩:=L5
  obtain⟨hd2,hd3⟩:=hd1
  simp only at hd2 hd3
  subst hd2;subst hd3
  exact⟨_,⟨{S with L:=⟨_,_,e1,n1⟩},_,by simp[bz.abort,hm5],rfl,rfl⟩,dL (((((hh.front 4 aa).front 4 aa).tail.tail.front 1 aa).front 1 aa).front 2 aa)⟩)
theorem qk(B:World)(Fr:List HP)(bd:Nat)(s:Dev)(c:Cfg)(hc:bj c):
 ∀ w,Holds B (az bd s::Fr) w→Calls Tryz.prog 115 [ptr bd,dQ c].toArray w (Ret B (fun rv H'=>∃ b,rv=ptr b∧H'=fa b ⟨bP bd c s,0,0,[],[]⟩::az bd s::Fr) (fun _ _=>False)):=by
 refine ap func115 aa ntmps115 aa (ac (ab (kPb (aY aa) aa fun b3=>(kPa aa aa (ad (ac (aM (H':=pr True::az bd s::row b3 [i64 c.log,i64 c.roots,i64 c.space] 134::pr True::Fr) (fun w hh=>((((hh.unpr trivial).front 1 aa).front 2 aa).unpr trivial)) (cB (σ':=[(0,ptr bd),(3,ptr b3)]) ⟨rfl,rfl,trivial⟩ ?_))))))))
 refine yJ (G:=Nat×Nat) [0,3] (fun g i=>match i with | 0=>ptr bd | 1=>dQ c | 2=>ptr g.1 | 3=>ptr bd | 4=>dQ c | 5=> .agg #[ptr g.1,ptr bd,i64 c.log,i64 c.roots,i64 c.space,.bool false,i64 0,i64 0,.map none,.map none] | 6=>ptr g.2 | 7=>ptr g.2 | _=>undef) (fun L g=>(if (L.getD 2 false)=true then cO g.1 (bP bd c s) else pr True)::az bd s::row b3 [i64 c.log,i64 c.roots,i64 c.space] 134::(if (L.getD 6 false)=true then cZ g.2 g.1 ⟨bP bd c s,0,0,[],[]⟩ false none none else pr True)::Fr) (0,0) (fun g=>[(4,ptr g.2)]) (fun g=>cO g.1 (bP bd c s)::az bd s::row b3 [i64 c.log,i64 c.roots,i64 c.space] 134::cZ g.2 g.1 ⟨bP bd c s,0,0,[],[]⟩ false none none::Fr) Tryz.mixed (by kernel_rfl) (fun t v h=>nX h) aa ?_ ?_ ?_
 ·intro i o ho L g hsz hun hcl hdep a hk hd w hw
  have hi:i<8:=(Array.getElem?_eq_some_iff.1 ho).1
  have hL:L.size=8:=hsz
  obtain rfl | rfl | rfl | rfl | rfl | rfl | rfl | rfl:i=0∨i=1∨i=2∨i=3∨i=4∨i=5∨i=6∨i=7:=by omega
  ·obtain rfl:=Option.some.inj (show some _=some o from ho)
   exact c9 (v:=ptr bd) (by first | exact ak rfl | exact Evs.eq (ak rfl) rfl) hk hw ⟨g,fun _=>rfl,fun _ _ _=>rfl,by simpa (disch:=decide) only[getD_set_ne] using hw⟩
  ·obtain rfl:=Option.some.inj (show some _=some o from ho)
   exact c9 (v:=dQ c) (by first | exact ah isAgg134 sizeOf134 rfl rfl | exact Evs.eq (ah isAgg134 sizeOf134 rfl rfl) rfl) hk hw ⟨g,fun _=>rfl,fun _ _ _=>rfl,by simpa (disch:=decide) only[getD_set_ne] using hw⟩
  ·obtain rfl:=Option.some.inj (show some _=some o from ho)
   have d0_data:L.getD 0 false=true:=hdep ⟨0,.data⟩ (by simp) rfl
   have d0:=d0_data
   have d1_data:L.getD 1 false=true:=hdep ⟨1,.data⟩ (by simp) rfl
   have d1:=d1_data
   have v0:a.tmps[5]? =some (ptr bd):=hd 0 _ 5 rfl rfl d0
   have v1:a.tmps[6]? =some (dQ c):=hd 1 _ 6 rfl rfl d1
   have hk':=(bG v1 (bG v0 hk))
   have hun':L.getD 2 false=false:=getD_both hun
   have n6:L.getD 6 false=false:=by
    cases h:L.getD 6 false with
    | false=>rfl
    | true=>have h2:=hcl 6 _ rfl h ⟨5,.data⟩ (by simp) rfl;have h3:=hcl 5 _ rfl h2 ⟨2,.data⟩ (by simp) rfl;rw[hun'] at h3;cases h3
   simp only[hun',n6] at hw
   refine zh (ar call124 aa) (jO B _ bd s c hc) hk' (hw.tail) ?_
   rintro v H' ⟨bl,rfl,rfl⟩ w' hw'
   refine⟨(bl,g.2),fun _=>rfl,fun j hj hl=> ?_,?_⟩
   ·match j with
    | 2=>exact absurd aa hj
    | 5=>have h3:=hcl 5 _ rfl hl ⟨2,.data⟩ (by simp) rfl;rw[hun'] at h3;cases h3
    | 0 | 1 | 3 | 4 | 6 | 7=>rfl
    | _+8=>rfl
   ·simp only[getD_set_ne false (show(2:Nat)≠6 by decide),dI (show 2<L.size by omega)]
    simp only[n6,if_true] at hw' ⊢
    exact hw'
  ·obtain rfl:=Option.some.inj (show some _=some o from ho)
   exact c9 (v:=ptr bd) (by first | exact ak rfl | exact Evs.eq (ak rfl) rfl) hk hw ⟨g,fun _=>rfl,fun _ _ _=>rfl,by simpa (disch:=decide) only[getD_set_ne] using hw⟩
  ·obtain rfl:=Option.some.inj (show some _=some o from ho)
   exact c9 (v:=dQ c) (by first | exact ah isAgg134 sizeOf134 rfl rfl | exact Evs.eq (ah isAgg134 sizeOf134 rfl rfl) rfl) hk hw ⟨g,fun _=>rfl,fun _ _ _=>rfl,by simpa (disch:=decide) only[getD_set_ne] using hw⟩
  ·obtain rfl:=Option.some.inj (show some _=some o from ho)
   have d2_data:L.getD 2 false=true:=hdep ⟨2,.data⟩ (by simp) rfl
   have d2:=d2_data
   have d3_data:L.getD 3 false=true:=hdep ⟨3,.data⟩ (by simp) rfl
   have d3:=d3_data
   have d4_data:L.getD 4 false=true:=hdep ⟨4,.data⟩ (by simp) rfl
   have d4:=d4_data
   have v2:a.tmps[7]? =some (ptr g.1):=hd 2 _ 7 rfl rfl d2
   have v3:a.tmps[8]? =some (ptr bd):=hd 3 _ 8 rfl rfl d3
   have v4:a.tmps[9]? =some (dQ c):=hd 4 _ 9 rfl rfl d4
   exact c9 (v:= .agg #[ptr g.1,ptr bd,i64 c.log,i64 c.roots,i64 c.space,.bool false,i64 0,i64 0,.map none,.map none]) (by first | exact aP rfl (kF _ _ _ _ _ (by first | rfl | assumption) (by first | rfl | assumption)) | exact Evs.eq (aP rfl (kF _ _ _ _ _ (by first | rfl | assumption) (by first | rfl | assumption))) rfl) (bG v4 (bG v3 (bG v2 hk))) hw ⟨g,fun _=>rfl,fun _ _ _=>rfl,by simpa (disch:=decide) only[getD_set_ne] using hw⟩
  ·obtain rfl:=Option.some.inj (show some _=some o from ho)
   have d5_data:L.getD 5 false=true:=hdep ⟨5,.data⟩ (by simp) rfl
   have d5:=d5_data
   have v5:a.tmps[10]? =some (.agg #[ptr g.1,ptr bd,i64 c.log,i64 c.roots,i64 c.space,.bool false,i64 0,i64 0,.map none,.map none]):=hd 5 _ 10 rfl rfl d5
   have hk':=(bG v5 hk)
   have hun':L.getD 6 false=false:=getD_both hun
   have d2:L.getD 2 false=true:=hcl 5 _ rfl d5 ⟨2,.data⟩ (by simp) rfl
   refine jn (aY aa) hk' hw ?_
   rintro v H' ⟨b,rfl,rfl⟩ w' hw'
   refine⟨(g.1,b),fun _=>rfl,fun j hj hl=> ?_,?_⟩
   ·match j with
    | 6=>exact absurd aa hj
    | 7=>have h3:=hcl 7 _ rfl hl ⟨6,.data⟩ (by simp) rfl;rw[hun'] at h3;cases h3
    | 0 | 1 | 2 | 3 | 4 | 5=>rfl
    | _+8=>rfl
   ·simp only[getD_set_ne false (show(6:Nat)≠2 by decide),dI (show 6<L.size by omega)]
    simp only[hun',if_true] at hw' ⊢
    exact(((hw'.front 4 aa).tail).front 3 aa |>.front 3 aa |>.front 3 aa)
  ·obtain rfl:=Option.some.inj (show some _=some o from ho)
   have d6_data:L.getD 6 false=true:=hdep ⟨6,.data⟩ (by simp) rfl
   have d6:=d6_data
   have d2_chain:L.getD 2 false=true:=hdep ⟨2,.chain⟩ (by simp) rfl
   have d2:=d2_chain
   have d2_phase:L.getD 2 false=true:=hdep ⟨2,.phase⟩ (by simp) rfl
   have d2:=d2_phase
   have d6_phase:L.getD 6 false=true:=hdep ⟨6,.phase⟩ (by simp) rfl
   have d6:=d6_phase
   have v6:a.tmps[11]? =some (ptr g.2):=hd 6 _ 11 rfl rfl d6
   exact c9 (v:=ptr g.2) (by first | exact bA rfl | exact Evs.eq (bA rfl) rfl) (bG v6 hk) hw ⟨g,fun _=>rfl,fun _ _ _=>rfl,by simpa (disch:=decide) only[getD_set_ne] using hw⟩
 ·intro L g hall a w hk hd hw
  have h2:=hall 2 (by decide)
  have h6:=hall 6 (by decide)
  have h7:=hall 7 (by decide)
  simp only[h2,h6,if_true] at hw
  exact⟨KnA.knows ⟨hd 7 _ 4 aa aa h7,trivial⟩,hw⟩
 intro g
 refine aB ?_
 exact aw results115 aa (fun w hh=>⟨_,⟨_,rfl,rfl⟩,dL (S:=⟨bP bd c s,0,0,[],[]⟩) ((((hh.front 2 aa).tail).front 2 aa).front 1 aa |>.front 1 aa)⟩)
theorem tj(c:Cfg):bj c↔1≤c.roots∧c.roots≤16∧c.roots+2≤c.log∧c.log≤200∧8≤c.space∧c.space≤4096:=⟨fun h=>⟨h.r1,h.r2,h.l1,h.l2,h.s1,h.s2⟩,fun ⟨a,b,c,d,e,f⟩=>⟨a,b,c,d,e,f⟩⟩
def chk(c:Cfg):Int:=if bj c then 0 else 1
theorem Bi{c:Cfg}(h:(chk c !=0)=false):bj c:=by
 unfold chk at h;split at h
 ·assumption
 ·simp at h
def dZ(f:Int→Int):Nat→Int→Dev→Out Unit
 | 0,_,s=> .ok () s
 | k+1,i,s=>(s.store (f i) 0).then fun _ s=>(s.flush (f i)).then fun _ s=>dZ f k (i+1) s
def gg:Int:=6076848300954571569
def st3(l:List Int):Nat→Nat→Dev→Out Unit
 | 0,_,s=> .ok () s
 | k+1,i,s=>(s.store (1+(i:Int)) (l.getD i 0)).then fun _ s=>st3 l k (i+1) s
theorem BP{a b c:Int}{k:Nat}(h:k<3):([i64 a,i64 b,i64 c]:List Value)[k]? =some (i64 ([a,b,c].getD k 0)):=by
 rcases (by omega:k=0∨k=1∨k=2) with rfl | rfl | rfl<;>rfl
theorem C4{a b c:Int}{k:Nat}(h:k<3)(ha:0≤a∧a≤100000)(hb:0≤b∧b≤100000)(hc:0≤c∧c≤100000):0≤[a,b,c].getD k 0∧[a,b,c].getD k 0≤100000:=by
 rcases (by omega:k=0∨k=1∨k=2) with rfl | rfl | rfl<;>simpa
def Dev.format(s:Dev)(c:Cfg):Out Int:=
 if ¬ bj c∨(s.n:Int)≠c.words then .ok 1 s else
  (s.store 0 0).then fun _ s=>(s.flush 0).then fun _ s=>s.fence.then fun _ s=>
  (st3 [c.log,c.roots,c.space] 3 0 s).then fun _ s=>
  (s.store 8 1).then fun _ s=>(s.flush 8).then fun _ s=>(dZ c.record c.log.toNat 0 s).then fun _ s=>
  (dZ id (c.root c.roots - c.active).toNat c.active s).then fun _ s=>(s.flush 0).then fun _ s=>s.fence.then fun _ s=>
  (s.store 0 gg).then fun _ s=>(s.flush 0).then fun _ s=>s.fence.then fun _ s=> .ok 0 s
theorem oI(B:World)(H:List HP)(c:Cfg):
 ∀ w,Holds B H w→Calls Tryz.prog 175 [dQ c].toArray w (aZ B H (i64 (chk c))):=by
 refine ap func175 aa ntmps175 aa (ac (ab (kPb (aY aa) aa fun b1=>(kPa aa aa (ad (ac (ac (ab (kPl fN isAgg3 aa aa aa aa (kPv (am aa aa aa) aa (kPm aa aa ?_)))))))))))
 apply fK (tp:=10) (t:=6) (σ1:=[(6,_),(2,_),(1,_)]) 4 rfl (aC rfl)
 ·intro hg1
  refine aj aa (aF (m:=_) fN aa aa) (.on aa aa (ae hg1)) aa aa (aj aa (ai isAgg3 aa aa) (.on aa aa (ae hg1)) aa aa (aj aa (am aa aa aa) (.on aa aa (ae hg1)) aa aa (kPv (aD aa hg1 aa) aa ?_)))
  exact aT aa (aC aa) (eM hg1)
 ·intro hg1
  refine al aa (.on aa aa (ag hg1)) aa (al aa (.on aa aa (ag hg1)) aa (al aa (.on aa aa (ag hg1)) aa (kPv (au aa hg1 aa) aa ?_)))
  exact aT aa (aC aa) (eK hg1)
 refine kPm aa aa ?_
 apply fK (tp:=18) (t:=11) (σ1:=[(11,_),(2,_),(1,_)]) 7 rfl (aC rfl)
 ·intro hg2
  refine aj aa (aF (m:=_) hZ aa aa) (.on aa aa (ae hg2)) aa aa (aj aa (ai isAgg3 aa aa) (.on aa aa (ae hg2)) aa aa (aj aa (aF (m:=_) fN aa aa) (.on aa aa (ae hg2)) aa aa (aj aa (ai isAgg3 aa aa) (.on aa aa (ae hg2)) aa aa (aj aa (ib (c:=c.roots+2) aa aa (by simp only[Bool.or_eq_false_iff,decide_eq_false_iff_not] at*;rw[gp (by omega)])) (.on aa aa (ae hg2)) aa aa (aj aa (am aa aa aa) (.on aa aa (ae hg2)) aa aa (kPv (aD aa hg2 aa) aa ?_))))))
  exact aT aa (aC aa) (eM hg2)
 ·intro hg2
  refine al aa (.on aa aa (ag hg2)) aa (al aa (.on aa aa (ag hg2)) aa (al aa (.on aa aa (ag hg2)) aa (al aa (.on aa aa (ag hg2)) aa (al aa (.on aa aa (ag hg2)) aa (al aa (.on aa aa (ag hg2)) aa (kPv (au aa hg2 aa) aa ?_))))))
  exact aT aa (aC aa) (eK hg2)
 refine kPm aa aa ?_
 apply fK (tp:=23) (t:=19) (σ1:=[(19,_),(2,_),(1,_)]) 4 rfl (aC rfl)
 ·intro hg3
  refine aj aa (aF (m:=_) hZ aa aa) (.on aa aa (ae hg3)) aa aa (aj aa (ai isAgg3 aa aa) (.on aa aa (ae hg3)) aa aa (aj aa (am aa aa aa) (.on aa aa (ae hg3)) aa aa (kPv (aD aa hg3 aa) aa ?_)))
  exact aT aa (aC aa) (eM hg3)
 ·intro hg3
  refine al aa (.on aa aa (ag hg3)) aa (al aa (.on aa aa (ag hg3)) aa (al aa (.on aa aa (ag hg3)) aa (kPv (au aa hg3 aa) aa ?_)))
  exact aT aa (aC aa) (eK hg3)
 refine kPm aa aa ?_
 apply fK (tp:=28) (t:=24) (σ1:=[(24,_),(2,_),(1,_)]) 4 rfl (aC rfl)
 ·intro hg4
  refine aj aa (aF (m:=_) eQ aa aa) (.on aa aa (ae hg4)) aa aa (aj aa (ai isAgg3 aa aa) (.on aa aa (ae hg4)) aa aa (aj aa (am aa aa aa) (.on aa aa (ae hg4)) aa aa (kPv (aD aa hg4 aa) aa ?_)))
  exact aT aa (aC aa) (eM hg4)
 ·intro hg4
  refine al aa (.on aa aa (ag hg4)) aa (al aa (.on aa aa (ag hg4)) aa (al aa (.on aa aa (ag hg4)) aa (kPv (au aa hg4 aa) aa ?_)))
  exact aT aa (aC aa) (eK hg4)
 refine kPm aa aa ?_
 apply fK (tp:=33) (t:=29) (σ1:=[(29,_),(2,_)]) 4 rfl ⟨rfl,rfl,trivial⟩
 ·intro hg5
  refine aj aa (aF (m:=_) eQ aa aa) (.on aa aa (ae hg5)) aa aa (aj aa (ai isAgg3 aa aa) (.on aa aa (ae hg5)) aa aa (aj aa (am aa aa aa) (.on aa aa (ae hg5)) aa aa (kPv (aD aa hg5 aa) aa ?_)))
  exact aT aa ⟨rfl,rfl,trivial⟩ (eM hg5)
 ·intro hg5
  refine al aa (.on aa aa (ag hg5)) aa (al aa (.on aa aa (ag hg5)) aa (al aa (.on aa aa (ag hg5)) aa (kPv (au aa hg5 aa) aa ?_)))
  exact aT aa ⟨rfl,rfl,trivial⟩ (eK hg5)
 refine ad ?_
 refine ba aa (fun h33=> ?_) (fun h33=> ?_)
 ·try simp only[decide_eq_true_eq,decide_eq_false_iff_not,Bool.not_eq_true',Bool.not_eq_false',Bool.or_eq_true,Bool.and_eq_true,Bool.and_eq_false_iff,Bool.or_eq_false_iff,beq_iff_eq,bne_iff_ne,beq_eq_false_iff_ne,bne_eq_false_iff_eq,ge_iff_le,gt_iff_lt,ne_eq] at h33
  refine ac (ab (kPa aa aa (ad (aB ?_))))
  exact aw results175 aa (fun w hw=>⟨by unfold chk;rw[if_neg (by rw[tj];omega)],hw.tail⟩)
 ·try simp only[decide_eq_true_eq,decide_eq_false_iff_not,Bool.not_eq_true',Bool.not_eq_false',Bool.or_eq_true,Bool.and_eq_true,Bool.and_eq_false_iff,Bool.or_eq_false_iff,beq_iff_eq,bne_iff_ne,beq_eq_false_iff_ne,bne_eq_false_iff_eq,ge_iff_le,gt_iff_lt,ne_eq] at h33
  refine aq (ac (ab (kPa aa aa (ad (aB ?_)))))
  exact aw results175 aa (fun w hw=>⟨by unfold chk;rw[if_pos (by rw[tj];omega)],hw.tail⟩)
theorem cq{s:Dev}{c:Cfg}(h:bj c)(hn:(s.n:Int)=c.words):¬ (¬ bj c∨(s.n:Int)≠c.words):=by simp[h,hn]
theorem we(f:Int→Int):∀ (k:Nat) (i:Int) (s:Dev),dZ f (k+1) i s=(s.store (f i) 0).then fun _ s=>(s.flush (f i)).then fun _ s=>dZ f k (i+1) s:=fun _ _ _=>rfl
theorem of(B:World)(Fr:List HP)(b:Nat)(s:Dev)(c:Cfg):
 ∀ w,Holds B (az b s::Fr) w→Calls Tryz.prog 122 [ptr b,dQ c].toArray w (Ret B (fun rv H'=>∃ a s',s.format c= .ok a s'∧rv=i64 a∧H'=az b s'::Fr) (fun k H'=>∃ s',s.format c= .off s'∧k=dN∧H'=az b s'::Fr)):=by
 refine ap func122 aa ntmps122 aa (ac (ab (kPb (aY aa) aa fun b3=>(kPa aa aa (ad (ac (ac (cL Tryz.mixed (by kernel_rfl) (by kernel_rfl) ?_))))))))
 refine kQv (ah isAgg134 sizeOf134 aa aa) aa ?_
 refine bC aa (ar call175 aa) (oI _ _ c) .free aa ?_
 refine kQv (am aa aa aa) aa (kQm aa aa ?_)
 apply BB (tp:=18) (t:=12) (σ1:=[(12,_),(4,_),(3,_),(0,_)]) 6 rfl (aC rfl)
 ·intro hg1
  refine bf aa (ak aa) (.on aa aa (ae hg1)) aa (bC aa (ar call143 aa) (bF (q:=az) (fun Fr=>kj _ Fr _ _)) (.on aa aa (ae hg1)) aa ?_)
  refine bf aa (ah isAgg134 sizeOf134 aa aa) (.on aa aa (ae hg1)) aa ?_
  refine bC aa (ar call120 aa) (iQ _ _ c (Bi hg1)) (.on aa aa (ae hg1)) aa ?_
  refine bf aa (am aa aa aa) (.on aa aa (ae hg1)) aa (kQv (aD aa hg1 aa) aa ?_)
  exact eG aa (aC aa) (eM hg1)
 ·intro hg1
  refine aW aa (.on aa aa (ag hg1)) aa (aW aa (.on aa aa (ag hg1)) aa (aW aa (.on aa aa (ag hg1)) aa (aW aa (.on aa aa (ag hg1)) aa (aW aa (.on aa aa (ag hg1)) aa (kQv (au aa hg1 aa) aa ?_)))))
  exact eG aa (aC aa) (eK hg1)
 refine bU ?_
 refine ba aa (fun h18=> ?_) (fun h18=> ?_)
 ·have hbad:¬ bj c∨(s.n:Int)≠c.words:=by
   by_cases q:bj c
   ·right;simpa [chk,q] using h18
   ·exact .inl q
  refine ac (ab (kPa aa aa (ad (aB ?_))))
  exact aw results122 aa (fun w hh=>⟨_,⟨1,s,by unfold Dev.format;rw[if_pos hbad],rfl,rfl⟩,hh.tail⟩)
 ·have hgd:bj c∧(s.n:Int)=c.words:=by
   by_cases q:bj c
   ·exact⟨q,by simpa [chk,q] using h18⟩
   ·simp[chk,q] at h18
  obtain⟨hc,hn⟩:=hgd
  have hc1:=hc.r1
  have hc2:=hc.r2
  have hc3:=hc.l1
  have hc4:=hc.l2
  have hc5:=hc.s1
  have hc6:=hc.s2
  have hact:=hc.act
  refine aq (ac (ab (kPm aa aa ?_)))
  refine aS aa (ar call145 aa) (cy (q:=az) (fun Fr=>cm _ Fr _ _ _ _)) .free aa aa ?_ ?_
  rotate_left
  ·rintro _ _ ⟨sx,⟨hx,rfl⟩,rfl⟩
   have hfo:s.format c= .off sx:=by
    simp[Dev.format,cq hc hn,hx]
   exact a8 fun w hh=>⟨_,⟨sx,hfo,rfl,rfl⟩,hh.tail⟩
  rintro _ _ ⟨s1,⟨e1,hm1,rfl⟩,rfl⟩
  refine ad (ac (ab (kPm aa aa ?_)))
  refine aS aa (ar call151 aa) (cy (q:=az) (fun Fr=>dx _ Fr _ _ _)) .free aa aa ?_ ?_
  rotate_left
  ·rintro _ _ ⟨sx,⟨hx,rfl⟩,rfl⟩
   have hfo:s.format c= .off sx:=by
    simp[Dev.format,cq hc hn,hm1,hx]
   exact a8 fun w hh=>⟨_,⟨sx,hfo,rfl,rfl⟩,hh.tail⟩
  rintro _ _ ⟨s2,⟨e2,hm2,rfl⟩,rfl⟩
  refine ad (ac (ab (kPm aa aa ?_)))
  refine aS aa (ar call152 aa) (cy (q:=az) (fun Fr=>eD _ Fr _ _)) .free aa aa ?_ ?_
  rotate_left
  ·rintro _ _ ⟨sx,⟨hx,rfl⟩,rfl⟩
   have hfo:s.format c= .off sx:=by
    simp[Dev.format,cq hc hn,hm1,hm2,hx]
   exact a8 fun w hh=>⟨_,⟨sx,hfo,rfl,rfl⟩,hh.tail⟩
  rintro _ _ ⟨s3,⟨e3,hm3,rfl⟩,rfl⟩
  refine ad (ao [4,3,0] rfl (ac (ac (ab (kPl hZ isAgg3 aa aa aa aa (kPl fN isAgg3 aa aa aa aa (kPl eQ isAgg3 aa aa aa aa (kPb (Ce runUnderlying166 sizeOf3 zeroValue3 aa aa aa aa aa aa aa) aa fun b31=>(kPv (bH aa runUnderlying166 ⟨_,rfl⟩ rfl) aa (kPm aa aa (ad ?_)))))))))))
  refine aK (di (ι:=Nat×Dev) (fun i=>i.1≤3∧st3 [c.log,c.roots,c.space] 3 0 s3=st3 [c.log,c.roots,c.space] (3 - i.1) i.1 i.2) (fun i=>[(0,ptr b),(3,ptr b3),(4,i64 0),(31,.slice (some ⟨b31,0,none⟩) 3 3),(32,i64 3),(33,i64 i.1)]) (fun i=>row b31 [i64 c.log,i64 c.roots,i64 c.space] 3::row b3 [i64 c.log,i64 c.roots,i64 c.space] 134::az b i.2::Fr) (fun i=>3 - i.1) (0,s3) ⟨Nat.zero_le _,rfl⟩ (fun a w st=>st.to ⟨rfl,rfl,rfl,rfl,rfl,rfl,trivial⟩ id) ?_)
  rintro⟨k,sa⟩ ⟨hk1,hk2⟩
  simp only at hk1 hk2 ⊢
  refine ac (ab (kPv (am aa aa aa) aa (ad (ac ?_))))
  refine ba aa (fun h34=> ?_) (fun h34=> ?_)
  ·have hk3:k<3:=by simp at h34;omega
   refine aq (ac (aK (ac (ab ?_))))
   have hlb:=C4 (k:=k) hk3 (a:=c.log) (b:=c.roots) (c:=c.space) (by omega) (by omega) (by omega)
   refine kPm aa aa (kPv (cA runUnderlying166 sizeOf3 aa aa (by omega) (by omega)) aa (kPv (ai (v:=i64 ([c.log,c.roots,c.space].getD k 0)) isAgg3 aa (by rw[Nat.zero_add,Int.toNat_natCast];exact BP hk3)) aa (kPa aa aa (kPa aa aa (ad (ao [6,5,33,32,31,4,3,0] rfl (ab (kPm aa aa (kPm aa aa (kPv (aN aa aa) aa (kPm aa aa ?_)))))))))))
   refine kPv (bK runUnderlying3 runUnderlying25 aa) aa ?_
   refine aS aa (ar call145 aa) (cy (q:=az) (fun Fr=>cm _ Fr _ _ _ _)) .free aa aa ?_ ?_
   rotate_left
   ·rintro _ _ ⟨sx,⟨hx,rfl⟩,rfl⟩
    have hfo:s.format c= .off sx:=by
     have hz:st3 [c.log,c.roots,c.space] 3 0 s3= .off sx:=by rw[hk2,show 3 - k=(3 - (k+1))+1 by omega];simp only[st3];rw[hx];rfl
     simp[Dev.format,cq hc hn,hm1,hm2,hm3,hz]
    exact a8 fun w hh=>⟨_,⟨sx,hfo,rfl,rfl⟩,hh.tail.tail⟩
   rintro _ _ ⟨s4,⟨e4,hm4,rfl⟩,rfl⟩
   refine ad (ao [33,32,31,4,3,0] rfl (ab (kPv (aN aa aa) aa (kPm aa aa (ad ?_)))))
   exact fun a w st=>⟨(k+1,s4),⟨by simp only;omega,by simp only;rw[hk2,show 3 - k=(3 - (k+1))+1 by omega];simp only[st3];rw[hm4];rfl⟩,by simp only;omega,st.to ⟨rfl,rfl,rfl,rfl,rfl,rfl,trivial⟩ id⟩
  ·have hk3:¬ k<3:=by simp at h34;omega
   have hA:st3 [c.log,c.roots,c.space] 3 0 s3= .ok () sa:=by
    rw[hk2,show 3 - k=0 by omega];rfl
   refine bD (ac (ab (kPm aa aa ?_)))
   refine aS aa (ar call145 aa) (cy (q:=az) (fun Fr=>cm _ Fr _ _ _ _)) .free aa aa ?_ ?_
   rotate_left
   ·rintro _ _ ⟨sx,⟨hx,rfl⟩,rfl⟩
    have hfo:s.format c= .off sx:=by
     simp[Dev.format,cq hc hn,hm1,hm2,hm3,hA,hx]
    exact a8 fun w hh=>⟨_,⟨sx,hfo,rfl,rfl⟩,hh.tail.tail⟩
   rintro _ _ ⟨s5,⟨e5,hm5,rfl⟩,rfl⟩
   refine ad (ao [4,3,0] rfl (ac (ab (kPm aa aa ?_))))
   refine aS aa (ar call151 aa) (cy (q:=az) (fun Fr=>dx _ Fr _ _ _)) .free aa aa ?_ ?_
   rotate_left
   ·rintro _ _ ⟨sx,⟨hx,rfl⟩,rfl⟩
    have hfo:s.format c= .off sx:=by
     simp[Dev.format,cq hc hn,hm1,hm2,hm3,hA,hm5,hx]
    exact a8 fun w hh=>⟨_,⟨sx,hfo,rfl,rfl⟩,hh.tail.tail⟩
   rintro _ _ ⟨s6,⟨e6,hm6,rfl⟩,rfl⟩
   refine ad (ac (ac (ab (kPa aa aa (ad (aK (di (ι:=Int×Dev) (fun i=>(0≤i.1∧i.1≤c.log)∧dZ c.record c.log.toNat 0 s6=dZ c.record (c.log - i.1).toNat i.1 i.2) (fun i=>[(0,ptr b),(3,ptr b3),(4,i64 0),(7,i64 i.1)]) (fun i=>row b31 [i64 c.log,i64 c.roots,i64 c.space] 3::row b3 [i64 c.log,i64 c.roots,i64 c.space] 134::az b i.2::Fr) (fun i=>(c.log - i.1).toNat) (0,s6) ⟨⟨by simp only;omega,by simp only;omega⟩,by simp only;rw[Int.sub_zero]⟩ (fun a w st=>st.to ⟨rfl,rfl,rfl,rfl,trivial⟩ id) ?_)))))))
   rintro⟨i,sb⟩ ⟨⟨hi1,hi2⟩,hi3⟩
   simp only at hi1 hi2 hi3 ⊢
   have hri:16≤c.record i∧c.record i≤10000:=by simp only[Cfg.record];omega
   refine ac (ac (ab (kPm aa aa (kPl hZ isAgg3 aa aa aa aa (kPv (am aa aa aa) aa (ad ?_))))))
   refine ba aa (fun h52=> ?_) (fun h52=> ?_)
   ·have hlt:i<c.log:=by simpa using h52
    refine aq (ac (aK (ac (ab (kPm aa aa (kPv (ah isAgg134 sizeOf134 aa aa) aa ?_))))))
    refine kPm aa aa (ax aa (ar call176 aa) (gb _ _ c _ (by omega) (by omega)) .free aa aa ?_)
    refine aS aa (ar call145 aa) (cy (q:=az) (fun Fr=>cm _ Fr _ _ _ _)) .free aa aa ?_ ?_
    rotate_left
    ·rintro _ _ ⟨sx,⟨hx,rfl⟩,rfl⟩
     have hfo:s.format c= .off sx:=by
      have hz:dZ c.record c.log.toNat 0 s6= .off sx:=by rw[hi3,show(c.log - i).toNat=(c.log - (i+1)).toNat+1 by omega];simp only[dZ];rw[hx];rfl
      simp[Dev.format,cq hc hn,hm1,hm2,hm3,hA,hm5,hm6,hz]
     exact a8 fun w hh=>⟨_,⟨sx,hfo,rfl,rfl⟩,hh.tail.tail⟩
    rintro _ _ ⟨s7,⟨e7,hm7,rfl⟩,rfl⟩
    refine ad (ao [7,4,3,0] rfl (ab (kPm aa aa (kPv (ah isAgg134 sizeOf134 aa aa) aa ?_))))
    refine kPm aa aa (ax aa (ar call176 aa) (gb _ _ c _ (by omega) (by omega)) .free aa aa ?_)
    refine aS aa (ar call151 aa) (cy (q:=az) (fun Fr=>dx _ Fr _ _ _)) .free aa aa ?_ ?_
    rotate_left
    ·rintro _ _ ⟨sx,⟨hx,rfl⟩,rfl⟩
     have hfo:s.format c= .off sx:=by
      have hz:dZ c.record c.log.toNat 0 s6= .off sx:=by rw[hi3,show(c.log - i).toNat=(c.log - (i+1)).toNat+1 by omega];simp only[dZ];rw[hm7,aQ,hx];rfl
      simp[Dev.format,cq hc hn,hm1,hm2,hm3,hA,hm5,hm6,hz]
     exact a8 fun w hh=>⟨_,⟨sx,hfo,rfl,rfl⟩,hh.tail.tail⟩
    rintro _ _ ⟨s8,⟨e8,hm8,rfl⟩,rfl⟩
    refine ad (ab (kPm aa aa (kPv (aN aa aa) aa (kPa aa aa (ad (ao [7,4,3,0] rfl ?_))))))
    exact fun a w st=>⟨(i+1,s8),⟨⟨by simp only;omega,by simp only;omega⟩,by simp only;rw[hi3,show(c.log - i).toNat=(c.log - (i+1)).toNat+1 by omega];simp only[dZ];rw[hm7,aQ,hm8];rfl⟩,by simp only;omega,st.to ⟨rfl,rfl,rfl,rfl,trivial⟩ id⟩
   ·have hlt:¬ i<c.log:=by simpa using h52
    have hB:dZ c.record c.log.toNat 0 s6= .ok () sb:=by
     rw[hi3,show(c.log - i).toNat=0 by omega];rfl
    refine bD (ac (ac (ab (kPv (ah isAgg134 sizeOf134 aa aa) aa ?_))))
    refine ax aa (ar call142 aa) (fA _ _ c hc) .free aa aa ?_
    refine kPa aa aa (ad (ao [8,4,3,0] rfl (aK ?_)))
    have hroot:c.active≤c.root c.roots∧c.root c.roots≤2000:=by simp only[Cfg.root];omega
    refine di (ι:=Int×Dev) (fun i=>(c.active≤i.1∧i.1≤c.root c.roots)∧dZ id (c.root c.roots - c.active).toNat c.active sb=dZ id (c.root c.roots - i.1).toNat i.1 i.2) (fun i=>[(0,ptr b),(3,ptr b3),(4,i64 0),(8,i64 i.1)]) (fun i=>row b31 [i64 c.log,i64 c.roots,i64 c.space] 3::row b3 [i64 c.log,i64 c.roots,i64 c.space] 134::az b i.2::Fr) (fun i=>(c.root c.roots - i.1).toNat) (c.active,sb) ⟨⟨by simp only;omega,by simp only;omega⟩,rfl⟩ (fun a w st=>st.to ⟨rfl,rfl,rfl,rfl,trivial⟩ id) ?_
    rintro⟨j,sc⟩ ⟨⟨hj1,hj2⟩,hj3⟩
    simp only at hj1 hj2 hj3 ⊢
    refine ac (ac (ab (kPm aa aa (kPv (ah isAgg134 sizeOf134 aa aa) aa ?_))))
    refine kPl fN isAgg3 aa aa aa aa (ax aa (ar call171 aa) (lh _ _ c hc _ (by omega) (by omega)) .free aa aa ?_)
    refine kPv (am aa aa aa) aa (ad ?_)
    refine ba aa (fun h72=> ?_) (fun h72=> ?_)
    ·have hlt2:j<c.root c.roots:=by simpa using h72
     refine aq (ac (aK (ac (ab (kPm aa aa (kPm aa aa ?_))))))
     refine aS aa (ar call145 aa) (cy (q:=az) (fun Fr=>cm _ Fr _ _ _ _)) .free aa aa ?_ ?_
     rotate_left
     ·rintro _ _ ⟨sx,⟨hx,rfl⟩,rfl⟩
      have hfo:s.format c= .off sx:=by
       have hz:dZ id (c.root c.roots - c.active).toNat c.active sb= .off sx:=by rw[hj3,show(c.root c.roots - j).toNat=(c.root c.roots - (j+1)).toNat+1 by omega];simp only[dZ,id];rw[hx];rfl
       simp[Dev.format,cq hc hn,hm1,hm2,hm3,hA,hm5,hm6,hB,hz]
      exact a8 fun w hh=>⟨_,⟨sx,hfo,rfl,rfl⟩,hh.tail.tail⟩
     rintro _ _ ⟨s9,⟨e9,hm9,rfl⟩,rfl⟩
     refine ad (ao [8,4,3,0] rfl (ab (kPm aa aa (kPm aa aa ?_))))
     refine aS aa (ar call151 aa) (cy (q:=az) (fun Fr=>dx _ Fr _ _ _)) .free aa aa ?_ ?_
     rotate_left
     ·rintro _ _ ⟨sx,⟨hx,rfl⟩,rfl⟩
      have hfo:s.format c= .off sx:=by
       have hz:dZ id (c.root c.roots - c.active).toNat c.active sb= .off sx:=by rw[hj3,show(c.root c.roots - j).toNat=(c.root c.roots - (j+1)).toNat+1 by omega];simp only[dZ,id];rw[hm9,aQ,hx];rfl
       simp[Dev.format,cq hc hn,hm1,hm2,hm3,hA,hm5,hm6,hB,hz]
      exact a8 fun w hh=>⟨_,⟨sx,hfo,rfl,rfl⟩,hh.tail.tail⟩
     rintro _ _ ⟨s10,⟨e10,hm10,rfl⟩,rfl⟩
     refine ad (ab (kPm aa aa (kPv (aN aa aa) aa (kPa aa aa (ad ?_)))))
     exact fun a w st=>⟨(j+1,s10),⟨⟨by simp only;omega,by simp only;omega⟩,by simp only;rw[hj3,show(c.root c.roots - j).toNat=(c.root c.roots - (j+1)).toNat+1 by omega];simp only[dZ,id];rw[hm9,aQ,hm10];rfl⟩,by simp only;omega,st.to ⟨rfl,rfl,rfl,rfl,trivial⟩ id⟩
    ·have hlt2:¬ j<c.root c.roots:=by simpa using h72
     have hC:dZ id (c.root c.roots - c.active).toNat c.active sb= .ok () sc:=by
      rw[hj3,show(c.root c.roots - j).toNat=0 by omega];rfl
     refine bD (ac (ab (kPm aa aa ?_)))
     refine aS aa (ar call151 aa) (cy (q:=az) (fun Fr=>dx _ Fr _ _ _)) .free aa aa ?_ ?_
     rotate_left
     ·rintro _ _ ⟨sx,⟨hx,rfl⟩,rfl⟩
      have hfo:s.format c= .off sx:=by
       simp[Dev.format,cq hc hn,hm1,hm2,hm3,hA,hm5,hm6,hB,hC,hx]
      exact a8 fun w hh=>⟨_,⟨sx,hfo,rfl,rfl⟩,hh.tail.tail⟩
     rintro _ _ ⟨s11,⟨e11,hm11,rfl⟩,rfl⟩
     refine ad (ao [4,0] rfl (ac (ab (kPm aa aa ?_))))
     refine aS aa (ar call152 aa) (cy (q:=az) (fun Fr=>eD _ Fr _ _)) .free aa aa ?_ ?_
     rotate_left
     ·rintro _ _ ⟨sx,⟨hx,rfl⟩,rfl⟩
      have hfo:s.format c= .off sx:=by
       simp[Dev.format,cq hc hn,hm1,hm2,hm3,hA,hm5,hm6,hB,hC,hm11,hx]
      exact a8 fun w hh=>⟨_,⟨sx,hfo,rfl,rfl⟩,hh.tail.tail⟩
     rintro _ _ ⟨s12,⟨e12,hm12,rfl⟩,rfl⟩
     refine ad (ac (ab (kPm aa aa ?_)))
     refine aS aa (ar call145 aa) (cy (q:=az) (fun Fr=>cm _ Fr _ _ _ _)) .free aa aa ?_ ?_
     rotate_left
     ·rintro _ _ ⟨sx,⟨hx,rfl⟩,rfl⟩
      have hfo:s.format c= .off sx:=by
       simp[Dev.format,cq hc hn,hm1,hm2,hm3,hA,hm5,hm6,hB,hC,hm11,hm12,gg,hx]
      exact a8 fun w hh=>⟨_,⟨sx,hfo,rfl,rfl⟩,hh.tail.tail⟩
     rintro _ _ ⟨s13,⟨e13,hm13,rfl⟩,rfl⟩
     refine ad (ac (ab (kPm aa aa ?_)))
     refine aS aa (ar call151 aa) (cy (q:=az) (fun Fr=>dx _ Fr _ _ _)) .free aa aa ?_ ?_
     rotate_left
     ·rintro _ _ ⟨sx,⟨hx,rfl⟩,rfl⟩
      have hfo:s.format c= .off sx:=by
       simp[Dev.format,cq hc hn,hm1,hm2,hm3,hA,hm5,hm6,hB,hC,hm11,hm12,gg,hm13,hx]
      exact a8 fun w hh=>⟨_,⟨sx,hfo,rfl,rfl⟩,hh.tail.tail⟩
     rintro _ _ ⟨s14,⟨e14,hm14,rfl⟩,rfl⟩
     refine ad (ac (ab (kPm aa aa ?_)))
     refine aS aa (ar call152 aa) (cy (q:=az) (fun Fr=>eD _ Fr _ _)) .free aa aa ?_ ?_
     rotate_left
     ·rintro _ _ ⟨sx,⟨hx,rfl⟩,rfl⟩
      have hfo:s.format c= .off sx:=by
       simp[Dev.format,cq hc hn,hm1,hm2,hm3,hA,hm5,hm6,hB,hC,hm11,hm12,gg,hm13,hm14,hx]
      exact a8 fun w hh=>⟨_,⟨sx,hfo,rfl,rfl⟩,hh.tail.tail⟩
     rintro _ _ ⟨s15,⟨e15,hm15,rfl⟩,rfl⟩
     refine ad (ao [4] rfl (ac (ab (kPa aa aa (ad (aB ?_))))))
     exact aw results122 aa (fun w hh=>⟨_,⟨0,s15,by simp[Dev.format,cq hc hn,hm1,hm2,hm3,hA,hm5,hm6,hB,hC,hm11,hm12,gg,hm13,hm14,hm15],rfl,rfl⟩,hh.tail.tail⟩)
theorem nO{p:Pow}(h:p.lim<0):p.out=false:=by simp[Pow.out];omega
theorem k8{s:Dev}{i v:Int}(h:s.pow.lim<0)(hi:0≤i∧i<s.n):s.store i v= .ok 0 (s.up.st i.toNat v):=by
 have:s.has i=true:=by simp[Dev.has,hi]
 simp[Dev.store,this,nO h]
theorem oh{s:Dev}{i:Int}(h:s.pow.lim<0)(hi:0≤i∧i<s.n):s.flush i= .ok 0 (s.up.fl i.toNat):=by
 have:s.has i=true:=by simp[Dev.has,hi]
 simp[Dev.flush,this,nO h]
theorem lr{s:Dev}(h:s.pow.lim<0):s.fence= .ok () s.up.fe:=by simp[Dev.fence,nO h]
theorem rG{x:Bool}(h:x=true):Ending.returned (.bool x)=Ending.returned (.bool true):=by rw[h]
theorem BH{α:Type}{a b:α}{s t:Dev}(h:Out.ok a s=Out.ok b t):a=b∧s=t:=by cases h;exact⟨rfl,rfl⟩
theorem BG{α:Type}{a:α}{s t:Dev}(h:Out.ok a s=Out.off t):False:=by cases h
theorem Cl(B:World)(Fr:List HP)(bp pb:Nat):
 ∀ w,Holds B (row bp [ptr pb] 206::jr pb ⟨1,0⟩::Fr) w→Calls Tryz.prog 251 [ptr bp].toArray w (Ret B (fun _ _=>False) (fun c H'=>c=dN∧H'=row bp [ptr pb] 206::jr pb ⟨1,1⟩::Fr)):=by
 refine ap func251 aa ntmps251 aa (ac (ab (kPv (ai isAgg206 aa aa) aa ?_)))
 refine aS aa (ar call189 aa) (cy (fun Fr=>kY _ Fr _ _)) .free aa aa ?_ ?_
 rotate_left
 ·rintro _ _ ⟨_,⟨ho,rfl,rfl⟩,rfl⟩
  first | (exfalso;revert ho;decide) | exact a8 fun w hw=>⟨_,⟨rfl,rfl⟩,hw⟩
 rintro _ _ ⟨_,⟨ho,rfl,rfl⟩,rfl⟩
 refine ad (ab (kPv (ai isAgg206 aa aa) aa ?_))
 refine aS aa (ar call189 aa) (cy (fun Fr=>kY _ Fr _ _)) .free aa aa ?_ ?_
 rotate_left
 ·rintro _ _ ⟨_,⟨ho,rfl,rfl⟩,rfl⟩
  first | (exfalso;revert ho;decide) | exact a8 fun w hw=>⟨_,⟨rfl,rfl⟩,hw⟩
 rintro _ _ ⟨_,⟨ho,rfl,rfl⟩,rfl⟩
 exfalso;revert ho;decide
theorem Ck(B:World)(H:List HP):
 ∀ w,Holds B H w→Calls Tryz.prog 253 [].toArray w (aZ B H (.tuple #[])):=by
 refine ap func253 aa ntmps253 aa (aq ?_)
 exact cJ results253 (fun w hw=>⟨rfl,hw⟩)
theorem xn(B:World)(H:List HP):
 ∀ w,Holds B H w→Calls Tryz.prog 247 [].toArray w (aZ B H (.bool true)):=by
 refine ap func247 aa ntmps247 aa (ac (ab (kPa aa aa (ad (ac (ab (aI aa (ar call127 aa) (qA _ _ _) .free aa aa ?_)))))))
 rintro _ _ ⟨pb,rfl,rfl⟩
 refine kPb (bX zeroValue206 aa) aa fun b1=> ?_
 refine kPs (aO sizeOf206 aa aa (by first | rfl | assumption) rfl) rfl ?_;refine ad ?_;refine ac ?_;refine ac ?_;refine ab ?_;refine kPv (ai isAgg206 aa aa) aa ?_;refine kPv (du runUnderlying206 aa aa aa) aa ?_;refine ad ?_;refine bE aa (rfl) ?_;refine aq ?_;refine ac ?_;refine ab ?_;refine kPv (dt aa aa) aa ?_
 refine dM aa (ar call250 aa) (u4 false (row b1 [ptr pb] 206::jr pb ⟨1,1⟩::H) call251 (fun A w hw=>(Cl B (A::H) b1 pb w ((hw.front 2 aa).front 2 aa)).mono (Ret.mono (fun _ _ h=>h.elim) (fun c H' h=>⟨rfl,h.1,fun w hw=>h.2▸hw |>.front 2 aa⟩)))) .free aa aa ?_
 refine kPa aa aa (ad (ac (ab (kPm aa aa (kPv (bu aa) aa (kPm aa aa ?_))))))
 apply dq (tp:=14) (t:=10) (σ1:=[(10,_),(0,_)]) 4 rfl ⟨rfl,rfl,trivial⟩
 ·intro hg1
  refine aj aa (ai isAgg206 aa aa) (.on aa aa (ae hg1)) aa aa (ax aa (ar call252 aa) (bF (fun Fr=>zN _ Fr _ _)) (.on aa aa (ae hg1)) aa aa ?_)
  refine aj aa (am aa aa aa) (.on aa aa (ae hg1)) aa aa (kPv (au aa hg1 aa) aa ?_)
  exact aT aa ⟨rfl,rfl,trivial⟩ (cE hg1)
 ·intro hg1
  refine al aa (.on aa aa (ag hg1)) aa (al aa (.on aa aa (ag hg1)) aa (al aa (.on aa aa (ag hg1)) aa (kPv (aD aa hg1 aa) aa ?_)))
  exact aT aa ⟨rfl,rfl,trivial⟩ (cF hg1)
 refine kPm aa aa ?_
 apply dq (tp:=17) (t:=15) (σ1:=[(15,_),(0,_)]) 2 rfl ⟨rfl,rfl,trivial⟩
 ·intro hg2
  refine dM aa (ar call250 aa) (u4 true (row b1 [ptr pb] 206::jr pb ⟨1,1⟩::H) call253 (fun A w hw=>(Ck B _ w hw).mono fun _ _ h=>h.ret ⟨rfl,fun _ h=>h⟩)) (.on aa aa (ae hg2)) aa aa ?_
  refine kPv (au aa hg2 aa) aa ?_
  exact aT aa ⟨rfl,rfl,trivial⟩ (cE hg2)
 ·intro hg2
  refine al aa (.on aa aa (ag hg2)) aa (kPv (aD aa hg2 aa) aa ?_)
  exact aT aa ⟨rfl,rfl,trivial⟩ (cF hg2)
 refine kPa aa aa (ad (aB ?_))
 exact aw results247 aa (fun w hw=>⟨rfl,hw.tail.tail⟩)
theorem qF(B:World)(Fr:List HP)(sv:Value)(xs:List Int)(hx0:0<xs.length)(hx1:xs.length≤100000)(hr:SlR B Fr sv (xs.map w64)):
 ∀ w,Holds B Fr w→Calls Tryz.prog 121 [sv].toArray w (Ret B (fun rv H'=>∃ b pa,rv=ptr b∧H'=az b ⟨pa,⟨-1,0⟩,(xs.length+7) / 8*8,fun i=>xs.getD i 0,fun i=>xs.getD i 0,fun _=>none⟩::Fr) (fun _ _=>False)):=by
 refine ap func121 aa ntmps121 aa (ac (ab (kPa aa aa (ad (ac (ab (aI aa (ar call127 aa) (qA _ _ _) .free aa aa ?_)))))))
 rintro _ _ ⟨pb,rfl,rfl⟩
 refine kPm aa aa (aI aa (ar call126 aa) (vg _ _ _ _ _ xs hx0 hx1 hr) .free aa aa ?_)
 rintro _ _ ⟨b,rfl,rfl⟩
 refine kPa aa aa (ad (aB ?_))
 exact aw results121 aa (fun w hw=>⟨_,⟨b,pb,rfl,rfl⟩,hw⟩)
theorem AZ(B:World)(H:List HP)(i:Int):
 ∀ w,Holds B H w→Calls Tryz.prog 249 [i64 i].toArray w (aZ B H (.int .u8 0)):=by
 refine ap func249 aa ntmps249 aa (ac (ab (kPa aa aa (ad (ac (ab (kPa aa aa (ad (aB ?_)))))))))
 exact aw results249 aa (fun w hw=>⟨rfl,hw⟩)
theorem xm(B:World)(H:List HP):
 ∀ w,Holds B H w→Calls Tryz.prog 246 [].toArray w (aZ B H (.bool true)):=by
 refine ap func246 aa ntmps246 aa (ac (ab (kPa aa aa (ad (ac (ac (ab (ax aa (ar call247 aa) (xn _ _) .free aa aa ?_))))))))
 refine kPv (bu aa) aa (ad (bE aa (rfl) (aq (ac (ab (kPb (gk runUnderlying30 sizeOf25 zeroValue25 aa aa aa) aa fun b6=>(aI aa (ar call121 aa) (qF _ _ _ [1] (by decide) (by decide) (SlR.row aa aa)) .free aa aa ?_)))))))
 rintro _ _ ⟨bd,pa,rfl,rfl⟩
 refine kPa aa aa (ad (ac (ac (ab (kPm aa aa (kPv (du runUnderlying90 aa aa aa) aa (ad (bE aa (rfl) (aq (ac (ab ?_)))))))))))
 refine kPm aa aa ?_
 refine aS aa (ar call145 aa) (cy (q:=az) (fun Fr=>cm _ Fr _ _ _ _)) .free aa aa ?_ ?_
 rotate_left
 ·rintro _ _ ⟨s9,⟨hm9,rfl⟩,rfl⟩
  exact(BG ((k8 (s:=(⟨pa,⟨-1,0⟩,8,fun i=>([1]:List Int).getD i 0,fun i=>([1]:List Int).getD i 0,fun _=>none⟩:Dev)) (i:=0) (v:=5) (show(-1:Int)<0 by decide) ⟨by decide,show(0:Int)<8 by decide⟩).symm.trans hm9)).elim
 rintro _ _ ⟨s1,⟨e1,hm1,rfl⟩,rfl⟩
 obtain⟨rfl,rfl⟩:=BH ((k8 (s:=(⟨pa,⟨-1,0⟩,8,fun i=>([1]:List Int).getD i 0,fun i=>([1]:List Int).getD i 0,fun _=>none⟩:Dev)) (i:=0) (v:=5) (show(-1:Int)<0 by decide) ⟨by decide,show(0:Int)<8 by decide⟩).symm.trans hm1)
 refine kPa aa aa (ad (ao [2,1,0] rfl (ac (ab (kPm aa aa (ax aa (ar call173 aa) (bF (q:=az) (fun Fr=>cf _ Fr _ _ _)) .free aa aa ?_))))))
 refine kPa aa aa (ad (ac (ab (kPm aa aa (aI aa (ar call248 aa) (wH _ _ _ ((⟨pa,⟨-1,0⟩,8,fun i=>([1]:List Int).getD i 0,fun i=>([1]:List Int).getD i 0,fun _=>none⟩:Dev).up.st 0 5) 249 [] (fun _=>0) ⟨call249,fun _=>by decide,fun H _ i _=>AZ B H i⟩) .free aa aa ?_)))))
 rintro _ _ rfl
 refine ad (ac (ab (kPm aa aa (kPv (am aa aa aa) aa (kPm aa aa ?_)))))
 apply dq (tp:=21) (t:=18) (σ1:=[(18,_),(1,_),(0,_)]) 3 rfl (aC rfl)
 ·intro hg1
  refine aj aa (ak aa) (.on aa aa (ae hg1)) aa aa (aj aa (am aa aa aa) (.on aa aa (ae hg1)) aa aa (kPv (au aa hg1 aa) aa ?_))
  exact aT aa (aC aa) (cE hg1)
 ·intro hg1
  refine al aa (.on aa aa (ag hg1)) aa (al aa (.on aa aa (ag hg1)) aa (kPv (aD aa hg1 aa) aa ?_))
  exact aT aa (aC aa) (cF hg1)
 refine kPm aa aa ?_
 apply dq (tp:=26) (t:=22) (σ1:=[(22,_),(1,_),(0,_)]) 4 rfl (aC rfl)
 ·intro hg2
  refine aj aa (ak aa) (.on aa aa (ae hg2)) aa aa (ax aa (ar call173 aa) (bF (q:=az) (fun Fr=>cf _ Fr _ _ _)) (.on aa aa (ae hg2)) aa aa ?_)
  refine aj aa (am aa aa aa) (.on aa aa (ae hg2)) aa aa (kPv (au aa hg2 aa) aa ?_)
  exact aT aa (aC aa) (cE hg2)
 ·intro hg2
  refine al aa (.on aa aa (ag hg2)) aa (al aa (.on aa aa (ag hg2)) aa (al aa (.on aa aa (ag hg2)) aa (kPv (aD aa hg2 aa) aa ?_)))
  exact aT aa (aC aa) (cF hg2)
 refine kPm aa aa ?_
 apply dq (tp:=31) (t:=27) (σ1:=[(27,_),(0,_)]) 4 rfl ⟨rfl,rfl,trivial⟩
 ·intro hg3
  refine aj aa (ak aa) (.on aa aa (ae hg3)) aa aa (ax aa (ar call143 aa) (bF (q:=az) (fun Fr=>kj _ Fr _ _)) (.on aa aa (ae hg3)) aa aa ?_)
  refine aj aa (am aa aa aa) (.on aa aa (ae hg3)) aa aa (kPv (au aa hg3 aa) aa ?_)
  exact aT aa ⟨rfl,rfl,trivial⟩ (cE hg3)
 ·intro hg3
  refine al aa (.on aa aa (ag hg3)) aa (al aa (.on aa aa (ag hg3)) aa (al aa (.on aa aa (ag hg3)) aa (kPv (aD aa hg3 aa) aa ?_)))
  exact aT aa ⟨rfl,rfl,trivial⟩ (cF hg3)
 refine kPa aa aa (ad (aB ?_))
 exact aw results246 aa (fun w hw=>⟨rfl,hw.tail.tail⟩)
theorem fQ:bj ⟨3,1,8⟩:=⟨by decide,by decide,by decide,by decide,by decide,by decide⟩
def ea(w r:Int):Int:=pi .or .u64 (pi .or .u64 12754194144713244672 (IntKind.u64.wrap (IntKind.u64.wrap r*2 ^ min (32:Int).toNat IntKind.u64.bits))) (IntKind.u64.wrap w)
def lG(w r:Int):Int:=if 0≤w∧w≤64∧0≤r∧r≤w then 0 else 5
def qe(w:Int):Int:=IntKind.i64.wrap (IntKind.u32.wrap w)
def qf(w:Int):Int:=IntKind.i64.wrap (pi .and .u64 (w.fdiv (2 ^ min (32:Int).toNat IntKind.u64.bits)) 16777215)
def unp(w:Int):Int×Int×Bool:=if lG (qe w) (qf w)=0∧ea (qe w) (qf w)=w then (qe w,qf w,true) else (0,0,false)
theorem xl(B:World)(H:List HP):
 ∀ w,Holds B H w→Calls Tryz.prog 245 [].toArray w (aZ B H (.bool true)):=by
 refine ap func245 aa ntmps245 aa (ac (ab (kPa aa aa (ad (ac (ac (ab (ax aa (ar call246 aa) (xm _ _) .free aa aa ?_))))))))
 refine kPv (bu aa) aa (ad (bE aa (rfl) (aq (ac (ab (kPv (aP aa (da _ _ _ aa aa aa)) aa (kPb (aE zeroValue134 aa) aa fun b1=>(kPs (ay (vs:=_) sizeOf134 aa aa aa aa aa) aa (ad (ac (ab ?_)))))))))))
 refine kPv (ah isAgg134 sizeOf134 aa aa) aa ?_
 refine ax aa (ar call175 aa) (oI _ _ ⟨3,1,8⟩) .free aa aa ?_
 refine kPv (am aa aa aa) aa (kPm aa aa ?_)
 apply dq (tp:=12) (t:=8) (σ1:=[(8,_),(1,_),(0,_)]) 4 rfl (aC rfl)
 ·intro hg1
  refine aj aa (ah isAgg134 sizeOf134 aa aa) (.on aa aa (ae hg1)) aa aa ?_
  refine ax aa (ar call142 aa) (fA _ _ ⟨3,1,8⟩ fQ) (.on aa aa (ae hg1)) aa aa ?_
  refine aj aa (am aa aa aa) (.on aa aa (ae hg1)) aa aa (kPv (au aa hg1 aa) aa ?_)
  exact aT aa (aC aa) (cE hg1)
 ·intro hg1
  refine al aa (.on aa aa (ag hg1)) aa (al aa (.on aa aa (ag hg1)) aa (al aa (.on aa aa (ag hg1)) aa (kPv (aD aa hg1 aa) aa ?_)))
  exact aT aa (aC aa) (cF hg1)
 refine kPm aa aa ?_
 apply dq (tp:=17) (t:=13) (σ1:=[(13,_),(1,_),(0,_)]) 4 rfl (aC rfl)
 ·intro hg2
  refine aj aa (ah isAgg134 sizeOf134 aa aa) (.on aa aa (ae hg2)) aa aa ?_
  refine ax aa (ar call119 aa) (jk _ _ ⟨3,1,8⟩ fQ _ (by omega) (by omega)) (.on aa aa (ae hg2)) aa aa ?_
  refine aj aa (am aa aa aa) (.on aa aa (ae hg2)) aa aa (kPv (au aa hg2 aa) aa ?_)
  exact aT aa (aC aa) (cE hg2)
 ·intro hg2
  refine al aa (.on aa aa (ag hg2)) aa (al aa (.on aa aa (ag hg2)) aa (al aa (.on aa aa (ag hg2)) aa (kPv (aD aa hg2 aa) aa ?_)))
  exact aT aa (aC aa) (cF hg2)
 refine kPm aa aa ?_
 apply dq (tp:=22) (t:=18) (σ1:=[(18,_),(0,_)]) 4 rfl ⟨rfl,rfl,trivial⟩
 ·intro hg3
  refine aj aa (ah isAgg134 sizeOf134 aa aa) (.on aa aa (ae hg3)) aa aa ?_
  refine ax aa (ar call120 aa) (iQ _ _ ⟨3,1,8⟩ fQ) (.on aa aa (ae hg3)) aa aa ?_
  refine aj aa (am aa aa aa) (.on aa aa (ae hg3)) aa aa (kPv (au aa hg3 aa) aa ?_)
  exact aT aa ⟨rfl,rfl,trivial⟩ (cE hg3)
 ·intro hg3
  refine al aa (.on aa aa (ag hg3)) aa (al aa (.on aa aa (ag hg3)) aa (al aa (.on aa aa (ag hg3)) aa (kPv (aD aa hg3 aa) aa ?_)))
  exact aT aa ⟨rfl,rfl,trivial⟩ (cF hg3)
 refine kPa aa aa (ad (aB ?_))
 exact aw results245 aa (fun w hw=>⟨rG (by decide+kernel),hw.tail⟩)
theorem pP(B:World)(H:List HP)(x r:Int):
 ∀ w,Holds B H w→Calls Tryz.prog 138 [.agg #[i64 x,i64 r]].toArray w (aZ B H (i64 (lG x r))):=by
 refine ap func138 aa ntmps138 aa (ac (ab (kPb (aY aa) aa fun b1=>(kPa aa aa (ad (ac (ac (ab (kPl ia isAgg3 aa aa aa aa (kPv (am aa aa aa) aa (kPm aa aa ?_)))))))))))
 apply fK (tp:=10) (t:=6) (σ1:=[(6,_),(2,_),(1,_)]) 4 rfl (aC rfl)
 ·intro hg1
  refine aj aa (aF (m:=_) ia aa aa) (.on aa aa (ae hg1)) aa aa (aj aa (ai isAgg3 aa aa) (.on aa aa (ae hg1)) aa aa (aj aa (am aa aa aa) (.on aa aa (ae hg1)) aa aa (kPv (aD aa hg1 aa) aa ?_)))
  exact aT aa (aC aa) (eM hg1)
 ·intro hg1
  refine al aa (.on aa aa (ag hg1)) aa (al aa (.on aa aa (ag hg1)) aa (al aa (.on aa aa (ag hg1)) aa (kPv (au aa hg1 aa) aa ?_)))
  exact aT aa (aC aa) (eK hg1)
 refine kPm aa aa ?_
 apply fK (tp:=15) (t:=11) (σ1:=[(11,_),(2,_),(1,_)]) 4 rfl (aC rfl)
 ·intro hg2
  refine aj aa (aF (m:=_) fO aa aa) (.on aa aa (ae hg2)) aa aa (aj aa (ai isAgg3 aa aa) (.on aa aa (ae hg2)) aa aa (aj aa (am aa aa aa) (.on aa aa (ae hg2)) aa aa (kPv (aD aa hg2 aa) aa ?_)))
  exact aT aa (aC aa) (eM hg2)
 ·intro hg2
  refine al aa (.on aa aa (ag hg2)) aa (al aa (.on aa aa (ag hg2)) aa (al aa (.on aa aa (ag hg2)) aa (kPv (au aa hg2 aa) aa ?_)))
  exact aT aa (aC aa) (eK hg2)
 refine kPm aa aa ?_
 apply fK (tp:=22) (t:=16) (σ1:=[(16,_),(2,_)]) 6 rfl ⟨rfl,rfl,trivial⟩
 ·intro hg3
  refine aj aa (aF (m:=_) fO aa aa) (.on aa aa (ae hg3)) aa aa (aj aa (ai isAgg3 aa aa) (.on aa aa (ae hg3)) aa aa (aj aa (aF (m:=_) ia aa aa) (.on aa aa (ae hg3)) aa aa (aj aa (ai isAgg3 aa aa) (.on aa aa (ae hg3)) aa aa (aj aa (am aa aa aa) (.on aa aa (ae hg3)) aa aa (kPv (aD aa hg3 aa) aa ?_)))))
  exact aT aa ⟨rfl,rfl,trivial⟩ (eM hg3)
 ·intro hg3
  refine al aa (.on aa aa (ag hg3)) aa (al aa (.on aa aa (ag hg3)) aa (al aa (.on aa aa (ag hg3)) aa (al aa (.on aa aa (ag hg3)) aa (al aa (.on aa aa (ag hg3)) aa (kPv (au aa hg3 aa) aa ?_)))))
  exact aT aa ⟨rfl,rfl,trivial⟩ (eK hg3)
 refine ad ?_
 refine ba aa (fun h22=> ?_) (fun h22=> ?_)
 ·try simp only[decide_eq_true_eq,decide_eq_false_iff_not,Bool.not_eq_true',Bool.not_eq_false',Bool.or_eq_true,Bool.and_eq_true,Bool.and_eq_false_iff,Bool.or_eq_false_iff,beq_iff_eq,bne_iff_ne,beq_eq_false_iff_ne,bne_eq_false_iff_eq,ge_iff_le,gt_iff_lt,ne_eq] at h22
  refine ac (ab (kPa aa aa (ad (aB ?_))))
  exact aw results138 aa (fun w hw=>⟨by unfold lG;rw[if_neg (by omega)],hw.tail⟩)
 ·try simp only[decide_eq_true_eq,decide_eq_false_iff_not,Bool.not_eq_true',Bool.not_eq_false',Bool.or_eq_true,Bool.and_eq_true,Bool.and_eq_false_iff,Bool.or_eq_false_iff,beq_iff_eq,bne_iff_ne,beq_eq_false_iff_ne,bne_eq_false_iff_eq,ge_iff_le,gt_iff_lt,ne_eq] at h22
  refine aq (ac (ab (kPa aa aa (ad (aB ?_)))))
  exact aw results138 aa (fun w hw=>⟨by unfold lG;rw[if_pos (by omega)],hw.tail⟩)
theorem n4(B:World)(H:List HP)(x r:Int):
 ∀ w,Holds B H w→Calls Tryz.prog 141 [.agg #[i64 x,i64 r]].toArray w (aZ B H (w64 (ea x r))):=by
 refine ap func141 aa ntmps141 aa (ac (ab (kPb (aY aa) aa fun b1=>(kPa aa aa (ad (ac (ab (kPl fO isAgg3 aa aa aa aa (kPv (bK runUnderlying3 runUnderlying25 aa) aa ?_)))))))))
 first | refine aj rfl (uo rfl rfl (by decide) rfl) .free rfl rfl ?_ | refine aj rfl (uo rfl rfl (by omega) rfl) .free rfl rfl ?_
 refine kPv (zb aa aa aa) aa (kPl ia isAgg3 aa aa aa aa (kPv (bK runUnderlying3 runUnderlying25 aa) aa (kPv (zb aa aa aa) aa (kPa aa aa (ad (ao [2] rfl (aB ?_)))))))
 exact aw results141 aa (fun w hw=>⟨rfl,hw.tail⟩)
theorem et(B:World)(H:List HP)(x r:Int)(h:0≤x∧x≤1000000):
 ∀ w,Holds B H w→Calls Tryz.prog 139 [.agg #[i64 x,i64 r]].toArray w (aZ B H (i64 (x+1))):=by
 refine ap func139 aa ntmps139 aa (ac (ab (kPb (aY aa) aa fun b1=>(kPa aa aa (ad (ac (ab (kPl ia isAgg3 aa aa aa aa (kPv (aN aa aa) aa (kPa aa aa (ad ?_)))))))))))
 refine aB ?_
 exact aw results139 aa (fun w hw=>⟨rfl,hw.tail⟩)
theorem iC(B:World)(H:List HP)(v:Int):
 ∀ w,Holds B H w→Calls Tryz.prog 190 [w64 v].toArray w (aZ B H (.tuple #[.agg #[i64 (unp v).1,i64 (unp v).2.1],.bool (unp v).2.2])):=by
 refine ap func190 aa ntmps190 aa (ac (ab (kPb (aE zeroValue102 aa) aa fun b2=>(kPa aa aa (ad (ac (ab (kPm aa aa (kPv (c7 runUnderlying25 runUnderlying116 aa aa) aa (kPv (bK runUnderlying116 runUnderlying3 aa) aa (kPm aa aa ?_)))))))))))
 first | refine aj rfl (za rfl rfl (by decide) rfl) .free rfl rfl ?_ | refine aj rfl (za rfl rfl (by omega) rfl) .free rfl rfl ?_
 refine kPv (qS aa aa aa) aa (kPv (bK runUnderlying25 runUnderlying3 aa) aa (kPv (aP aa (ka _ _ aa aa)) aa (kPb (aE zeroValue102 aa) aa fun b4=>(kPs (ay (vs:=_) sizeOf102 aa aa aa aa aa) aa (ad (ao [4,3,2,0] rfl (ac (ac (ab (kPv (ah isAgg102 sizeOf102 aa aa) aa ?_))))))))))
 refine ax aa (ar call138 aa) (pP _ _ (qe v) (qf v)) .free aa aa ?_
 refine kPv (am aa aa aa) aa (kPm aa aa ?_)
 apply fK (tp:=21) (t:=16) (σ1:=[(16,_),(4,_),(3,_),(2,_)]) 5 rfl (aC rfl)
 ·intro hg1
  refine aj aa (ah isAgg102 sizeOf102 aa aa) (.on aa aa (ae hg1)) aa aa ?_
  refine ax aa (ar call141 aa) (n4 _ _ (qe v) (qf v)) (.on aa aa (ae hg1)) aa aa ?_
  refine aj aa (ak aa) (.on aa aa (ae hg1)) aa aa (aj aa (am aa aa aa) (.on aa aa (ae hg1)) aa aa (kPv (aD aa hg1 aa) aa ?_))
  exact aT aa (aC aa) (eM hg1)
 ·intro hg1
  refine al aa (.on aa aa (ag hg1)) aa (al aa (.on aa aa (ag hg1)) aa (al aa (.on aa aa (ag hg1)) aa (al aa (.on aa aa (ag hg1)) aa (kPv (au aa hg1 aa) aa ?_))))
  exact aT aa (aC aa) (eK hg1)
 refine ad ?_
 refine ba aa (fun h21=> ?_) (fun h21=> ?_)
 ·have hbad:¬ (lG (qe v) (qf v)=0∧ea (qe v) (qf v)=v):=by
   rintro⟨q1,q2⟩
   rw[q1,q2] at h21;simp at h21
  refine ac (ab (kPv (aP aa (AV)) aa (kPs (ay (vs:=_) sizeOf102 aa aa aa aa aa) aa (kPa aa aa (ad (aB ?_))))))
  exact fU results190 (.cellA aa isAgg102 sizeOf102 aa aa) (.tmp aa) (fun w hw=>⟨by unfold unp;rw[if_neg hbad];rfl,hw.tail.tail⟩)
 ·have hgd:lG (qe v) (qf v)=0∧ea (qe v) (qf v)=v:=by simpa using h21
  refine aq (ac (ab (kPv (ah isAgg102 sizeOf102 aa aa) aa ?_)))
  refine kPs (ay (vs:=_) sizeOf102 aa aa aa aa aa) aa (kPa aa aa (ad (aB ?_)))
  exact fU results190 (.cellA aa isAgg102 sizeOf102 aa aa) (.tmp aa) (fun w hw=>⟨by unfold unp;rw[if_pos hgd];rfl,hw.tail.tail⟩)
theorem xk(B:World)(H:List HP):
 ∀ w,Holds B H w→Calls Tryz.prog 244 [].toArray w (aZ B H (.bool true)):=by
 refine ap func244 aa ntmps244 aa (ac (ab (kPa aa aa (ad (ac (ac (ab (ax aa (ar call245 aa) (xl _ _) .free aa aa ?_))))))))
 refine kPv (bu aa) aa (ad (bE aa (rfl) (aq (ac (ab (ax aa (ar call190 aa) (iC _ _ _) .free aa aa ?_))))))
 refine kPm aa aa (kPv (aA aa aa) aa (kPv (aA aa aa) aa (kPb (aE zeroValue102 aa) aa fun b1=>(kPs (ay (vs:=_) sizeOf102 aa aa aa aa aa) aa (kPa aa aa (ad (ac (ab (kPm aa aa (kPm aa aa ?_))))))))))
 apply dq (tp:=14) (t:=10) (σ1:=[(10,_),(1,_),(0,_)]) 4 rfl (aC rfl)
 ·intro hg1
  refine aj aa (aF (m:=_) ia aa aa) (.on aa aa (ae hg1)) aa aa (aj aa (ai isAgg3 aa aa) (.on aa aa (ae hg1)) aa aa (aj aa (am aa aa aa) (.on aa aa (ae hg1)) aa aa (kPv (au aa hg1 aa) aa ?_)))
  exact aT aa (aC aa) (cE hg1)
 ·intro hg1
  refine al aa (.on aa aa (ag hg1)) aa (al aa (.on aa aa (ag hg1)) aa (al aa (.on aa aa (ag hg1)) aa (kPv (aD aa hg1 aa) aa ?_)))
  exact aT aa (aC aa) (cF hg1)
 refine kPm aa aa ?_
 apply dq (tp:=19) (t:=15) (σ1:=[(15,_),(1,_),(0,_)]) 4 rfl (aC rfl)
 ·intro hg2
  refine aj aa (aF (m:=_) fO aa aa) (.on aa aa (ae hg2)) aa aa (aj aa (ai isAgg3 aa aa) (.on aa aa (ae hg2)) aa aa (aj aa (am aa aa aa) (.on aa aa (ae hg2)) aa aa (kPv (au aa hg2 aa) aa ?_)))
  exact aT aa (aC aa) (cE hg2)
 ·intro hg2
  refine al aa (.on aa aa (ag hg2)) aa (al aa (.on aa aa (ag hg2)) aa (al aa (.on aa aa (ag hg2)) aa (kPv (aD aa hg2 aa) aa ?_)))
  exact aT aa (aC aa) (cF hg2)
 refine kPm aa aa ?_
 apply dq (tp:=24) (t:=20) (σ1:=[(20,_),(1,_),(0,_)]) 4 rfl (aC rfl)
 ·intro hg3
  refine aj aa (ah isAgg102 sizeOf102 aa aa) (.on aa aa (ae hg3)) aa aa ?_
  refine ax aa (ar call139 aa) (et _ _ _ _ ⟨by decide,by decide⟩) (.on aa aa (ae hg3)) aa aa ?_
  refine aj aa (am aa aa aa) (.on aa aa (ae hg3)) aa aa (kPv (au aa hg3 aa) aa ?_)
  exact aT aa (aC aa) (cE hg3)
 ·intro hg3
  refine al aa (.on aa aa (ag hg3)) aa (al aa (.on aa aa (ag hg3)) aa (al aa (.on aa aa (ag hg3)) aa (kPv (aD aa hg3 aa) aa ?_)))
  exact aT aa (aC aa) (cF hg3)
 refine kPm aa aa ?_
 apply dq (tp:=29) (t:=25) (σ1:=[(25,_),(0,_)]) 4 rfl ⟨rfl,rfl,trivial⟩
 ·intro hg4
  refine aj aa (ah isAgg102 sizeOf102 aa aa) (.on aa aa (ae hg4)) aa aa ?_
  refine ax aa (ar call141 aa) (n4 _ _ _ _) (.on aa aa (ae hg4)) aa aa ?_
  refine aj aa (am aa aa aa) (.on aa aa (ae hg4)) aa aa (kPv (au aa hg4 aa) aa ?_)
  exact aT aa ⟨rfl,rfl,trivial⟩ (cE hg4)
 ·intro hg4
  refine al aa (.on aa aa (ag hg4)) aa (al aa (.on aa aa (ag hg4)) aa (al aa (.on aa aa (ag hg4)) aa (kPv (aD aa hg4 aa) aa ?_)))
  exact aT aa ⟨rfl,rfl,trivial⟩ (cF hg4)
 refine kPa aa aa (ad (aB ?_))
 exact aw results244 aa (fun w hw=>⟨rG (by decide+kernel),hw.tail⟩)
end Go.Proofs.YtoakdoeajpjgkaaGreatDoor
