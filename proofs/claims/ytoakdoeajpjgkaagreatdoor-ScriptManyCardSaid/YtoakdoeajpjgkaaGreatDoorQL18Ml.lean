/- Part of a law's texts. Conditions: none. -/
import Derived.Test.YtoakdoeajpjgkaaGreatDoorQL18Mk
import Derived.Laws.Externs
open Go.Proofs.Tryz
set_option linter.all false
namespace Go.Proofs.YtoakdoeajpjgkaaGreatDoor
open Go
theorem nh{L L':bJ}{s s':Dev}(hL:dD L)(e:L.truncate s= .ok L' s'):(U64 s→U64 s')∧s'.n=s.n∧dD L'∧L'.d=L.d∧L'.c=L.c∧L'.n=0:=by
 unfold bJ.truncate at e
 split at e
 ·rename_i h;cases e;exact⟨id,rfl,hL,rfl,rfl,h⟩
 obtain⟨_,s1,e1,e⟩:=aG e
 obtain⟨_,s2,e2,e⟩:=aG e
 obtain⟨_,s3,e3,e⟩:=aG e
 cases e
 have h1:=hL.c.l1;have h2:=hL.c.r1
 refine⟨fun hu=> ?_,((mP e3).trans (mO e2)).trans (mJ e1),⟨hL.c,by simp only;omega,by simp only;omega,Int.le_refl 0,by simp only;omega⟩,rfl,rfl,rfl⟩
 exact(eE (dF (cg hu (by omega) e1).1 e2).1 e3).1
theorem x5{c:Cfg}:∀ (k:Nat) (s s':Dev),kx jv c k s= .ok () s'→(U64 s→U64 s')∧s'.n=s.n
 | 0,s,s',e=>by cases e;exact⟨id,rfl⟩
 | k+1,s,s',e=>by
   unfold kx at e
   obtain⟨_,s1,e1,e⟩:=aG e
   unfold jv at e1
   obtain⟨_,s2,e2,e1⟩:=aG e1
   obtain⟨_,s3,e3,e1⟩:=aG e1
   cases e1
   obtain⟨g1,g2⟩:=x5 k s1 s' e
   exact⟨fun hu=>g1 (dF (cg hu (hu.load _) e2).1 e3).1,g2.trans ((mO e3).trans (mJ e2))⟩
theorem xB{L L':bJ}{s s':Dev}(hL:dD L)(e:L.undo s= .ok L' s'):(U64 s→U64 s')∧s'.n=s.n∧dD L'∧L'.d=L.d∧L'.c=L.c∧L'.n=0:=by
 unfold bJ.undo at e
 obtain⟨_,s1,e1,e⟩:=aG e
 obtain⟨_,s2,e2,e⟩:=aG e
 obtain⟨g1,g2⟩:=x5 _ _ _ e1
 obtain⟨h1,h2,h3,h4,h5,h6⟩:=nh hL e
 have k:(U64 s1→U64 s2)∧s2.n=s1.n:=by
  split at e2
  ·exact⟨fun hu=>(eE hu e2).1,mP e2⟩
  ·cases e2;exact⟨id,rfl⟩
 exact⟨fun hu=>h1 (k.1 (g1 hu)),(h2.trans k.2).trans g2,h3,h4,h5,h6⟩
theorem ol:∀ (l:List Int) (s s':Dev),dy l s= .ok () s'→(U64 s→U64 s')∧s'.n=s.n
 | [],s,s',e=>by cases e;exact⟨id,rfl⟩
 | k::ks,s,s',e=>by
   unfold dy at e
   obtain⟨_,s1,e1,e⟩:=aG e
   obtain⟨g1,g2⟩:=ol ks s1 s' e
   exact⟨fun hu=>g1 (dF hu e1).1,g2.trans (mO e1)⟩
theorem sZ{S S':bz}{s s':Dev}(hL:dD S.L)(e:S.commit s= .ok S' s'):(U64 s→U64 s')∧s'.n=s.n∧dD S'.L∧S'.L.d=S.L.d∧S'.L.c=S.L.c∧S'.L.n=0:=by
 unfold bz.commit at e
 obtain⟨_,s1,e1,e⟩:=aG e
 obtain⟨_,s2,e2,e⟩:=aG e
 obtain⟨_,s3,e3,e⟩:=aG e
 cases e
 obtain⟨g1,g2⟩:=ol _ _ _ e1
 obtain⟨h1,h2,h3,h4,h5,h6⟩:=nh hL e3
 have k:(U64 s1→U64 s2)∧s2.n=s1.n:=by
  split at e2
  ·exact⟨fun hu=>(eE hu e2).1,mP e2⟩
  ·cases e2;exact⟨id,rfl⟩
 exact⟨fun hu=>h1 (k.1 (g1 hu)),(h2.trans k.2).trans g2,h3,h4,h5,h6⟩
theorem A0{S S':bz}{s s':Dev}(hL:dD S.L)(e:S.abort s= .ok S' s'):(U64 s→U64 s')∧s'.n=s.n∧dD S'.L∧S'.L.d=S.L.d∧S'.L.c=S.L.c∧S'.L.n=0:=by
 unfold bz.abort at e
 obtain⟨_,s1,e1,e⟩:=aG e
 cases e
 exact xB hL e1
theorem m9:∀ (l:List Int) (i:Int) (S S':bz) (s s':Dev) (a:Int),(∀ v∈l,0≤v∧v<18446744073709551616)→kT S→U64 s→s.n≤1000000→gz fT l i s S= .ok (a,S') s'→U64 s'∧s'.n=s.n∧dD S'.L∧S'.L.d=S.L.d∧S'.L.c=S.L.c
 | [],i,S,S',s,s',a,_,hS,hu,_,e=>by cases e;exact⟨hu,rfl,hS.L,rfl,rfl⟩
 | v::vs,i,S,S',s,s',a,hv,hS,hu,hn,e=>by
   unfold gz at e
   split at e
   ·exact m9 vs _ _ _ _ _ _ (fun v hv'=>hv v (List.mem_cons_of_mem _ hv')) hS hu hn e
   ·obtain⟨⟨x,S1⟩,s1,e1,e⟩:=aG e
    have h1:=i7 hS hu hn (hv v (List.mem_cons_self ..)) e1
    have h2:=jF hS.L e1
    have h3:=ni e1
    have h4:kT S1:=qh hS hn (by have:=(zG hS.L.c).1;omega) e1 h2
    split at e
    ·cases e;exact⟨h1.1,h1.2,h2,h3.1,h3.2.1⟩
    ·obtain⟨g1,g2,g3,g4,g5⟩:=m9 vs _ _ _ _ _ _ (fun v hv'=>hv v (List.mem_cons_of_mem _ hv')) h4 h1.1 (by rw[h1.2];exact hn) e
     exact⟨g1,g2.trans h1.2,g3,g4.trans h3.1,g5.trans h3.2.1⟩
theorem Ay{S:bz}(h:dD S.L)(f t:Int):kT (S.fresh f t):=⟨h,fun p hp=>(List.not_mem_nil (show p∈([]:List (Int×Unit)) from hp)).elim⟩
theorem yR{c:Cfg}{b:Blk}{S S':bz}{s s':Dev}{a:Int}(hb:∀ v∈b.act::b.used::b.rts,0≤v∧v<18446744073709551616)(hL:dD S.L)(hu:U64 s)(hn:s.n≤1000000)(e:iI c b S s= .ok (a,S') s'):U64 s'∧s'.n=s.n∧dD S'.L∧S'.L.d=S.L.d∧S'.L.c=S.L.c∧S'.L.n=0:=by
 unfold iI kG at e
 obtain⟨⟨x,S1⟩,s1,e1,e⟩:=aG e
 obtain⟨g1,g2,g3,g4,g5⟩:=m9 _ _ _ _ _ _ _ hb (Ay hL 0 0) hu hn e1
 split at e
 ·obtain⟨S2,s2,e2,e⟩:=aG e
  cases e
  obtain⟨h1,h2,h3,h4,h5,h6⟩:=A0 g3 e2
  exact⟨h1 g1,h2.trans g2,h3,h4.trans g4,h5.trans g5,h6⟩
 ·obtain⟨S2,s2,e2,e⟩:=aG e
  cases e
  obtain⟨h1,h2,h3,h4,h5,h6⟩:=sZ g3 e2
  exact⟨h1 g1,h2.trans g2,h3,h4.trans g4,h5.trans g5,h6⟩
theorem tc{X:bB}(h:eT X):∀ v∈X.block.act::X.block.used::X.block.rts,0≤v∧v<18446744073709551616:=fun v hv=>by
 have h1:=h.b.act;have h2:=h.free;have h3:=h.fb;have h4:=h.to_
 simp only[List.mem_cons] at hv
 rcases hv with rfl | rfl | hv
 ·simp only[bB.block];omega
 ·simp only[bB.block];omega
 ·obtain⟨u,_,rfl⟩:=List.mem_map.1 hv
  have:=h.vb u
  omega
theorem xb{bd:Nat}{c:Cfg}{S:bz}{s s':Dev}{ws:List Int}{r:Option bB×Int×bz}(hc:bj c)(hw:∀ v∈ws,0≤v∧v<18446744073709551616)(hL:dD S.L)(hu:U64 s)(hn:s.n≤1000000)(hL0:S.L.n=0)(e:eB bd c S s ws= .ok r s'):U64 s'∧s'.n=s.n∧dD r.2.2.L∧r.2.2.L.d=S.L.d∧r.2.2.L.c=S.L.c∧r.2.2.L.n=0∧(∀ X,r.1=some X→eT X):=by
 unfold eB at e
 split at e
 ·cases e;exact⟨hu,rfl,hL,rfl,rfl,hL0,fun _ h=>by cases h⟩
 obtain⟨X,s1,e1,e⟩:=aG e
 have hX0:eT (dY bd c (s.block c).1 ((s.block c).1.rts++ws)):=lj hc (dA hc hu) (fy hc) (fx hu) fun v hv=>by
  rcases List.mem_append.1 hv with hv | hv
  ·exact fx hu v hv
  ·exact hw v hv
 obtain⟨hX,u1,_⟩:=nA _ _ _ _ _ hX0 hu e1
 have n1:=u3 e1
 obtain⟨⟨a,S2⟩,s2,e2,e⟩:=aG e
 obtain⟨g1,g2,g3,g4,g5,g6⟩:=yR (tc hX) hL u1 (by rw[n1];exact hn) e2
 split at e
 ·cases e;exact⟨g1,g2.trans n1,g3,g4,g5,g6,fun _ h=>by cases h⟩
 ·cases e;exact⟨g1,g2.trans n1,g3,g4,g5,g6,fun X' h=>by cases h;exact hX⟩
theorem wK(B:World)(H:List HP)(r:Nat):
 ∀ w,Holds B H w→Calls Tryz.prog 155 [.map (some r)].toArray w (Ret B (fun v H'=>∃ bb,v= .func (.func 197) [].toArray [ptr bb].toArray∧H'=row bb [.map (some r)] 196::H) (fun _ _=>False)):=by
 refine ap func155 aa ntmps155 aa (ac (ab (kPb (dE aa aa) aa fun b1=>(kPa aa aa (ad (ac (ab (kPv (dt aa aa) aa (kPa aa aa (ad (aB ?_)))))))))))
 exact aw results155 aa (fun w hw=>⟨_,⟨_,rfl,rfl⟩,hw⟩)
theorem tZ(B:World)(Fr:List HP)(l f mr bb b2:Nat)(ml:List (Int×Int))(r:Loop)(hrf:r.fn=f)(hrp:r.params.size=1)(hround:∀ (A1 A2:HP) (v:Int) (xs:List Int),xs.length<ml.length→∀ w,Holds B (blk l (.loop r)::A1::A2::jA b2 xs::Fr) w→RoundIn (Wd (cxF f)) 0 Tryz.prog l f ((r.params.zip [i64 v].toArray).foldl (fun tmps (t,a)=>tmps.setIfInBounds t a) r.tmps) r.assign r.body w (Ret B (fun rv H'=>rv= .bool true∧H'=blk l (.loop r)::A1::A2::jA b2 (xs++[v])::Fr) (fun _ _=>False))):
 ∀ w,Holds B (blk l (.loop r)::row bb [.map (some mr)] 196::bi .i64 i64 mr ml::jA b2 []::Fr) w→Calls Tryz.prog 197 [.func (.yield l) #[] #[],ptr bb].toArray w (Ret B (fun rv H'=>∃ ks:List Int,ks.Perm (ml.map Prod.fst)∧H'=blk l (.loop r)::row bb [.map (some mr)] 196::bi .i64 i64 mr ml::jA b2 ks::Fr) (fun _ _=>False)):=by
 refine ap func197 aa ntmps197 aa (ac (ab (kPv (ai isAgg196 aa aa) aa (kPb (lH runUnderlying196 aa) aa fun it=>(ad (aK (di (ι:=List (Int×Int)) (fun d=>d.length≤ml.length) (fun d=>[(0,.func (.yield l) #[] #[]),(1,ptr bb),(5,.pointer (some ⟨it,0,none⟩))]) (fun done=>blk l (.loop r)::row bb [.map (some mr)] 196::fp .i64 i64 mr it ml done::jA b2 (done.map Prod.fst)::Fr) (fun d=>ml.length - d.length) [] (Nat.zero_le _) (fun a w st=>st.to ⟨rfl,rfl,rfl,trivial⟩ id) ?_)))))))
 intro done hdone
 refine ac (ab (cP aa (mW aa) .free aa aa ?_))
 rintro _ _ ⟨bb0,vs,done',rfl,hvs,rfl,hno,hyes⟩
 refine kPv (aA aa hvs) aa (ad (ac ?_))
 refine ba aa (fun h7=> ?_) (fun h7=> ?_)
 ·obtain⟨pp,hpl,hpn,rfl⟩:=hyes h7
  refine io it fun hl hd hsub=>(aq (aK (ac (ab (kPv (lE (p0:=pp) (dn:=done) aa) aa (kPv (aA aa aa) aa (kPa aa aa (ad (ac (ab (kPm aa aa ?_)))))))))))
  refine kPm aa aa ?_
  refine fJ (f:=f) aa aa (fun w hw=>hw) (by rw[hrp];rfl) hrf (hround _ _ _ _ (by have:=im hd hsub;simp;omega)) .free aa ?_ ?_
  rotate_left
  ·rintro _ _ ⟨⟩
  rintro _ _ ⟨rfl,rfl⟩
  refine kPv (bu aa) aa (ad (ao [13,5,0,1] rfl (bE aa (rfl) (aq ?_))))
  have hle:=im hd hsub
  exact fun a w st=>⟨done++[pp],by simp;omega,by simp;omega,st.to ⟨rfl,rfl,rfl,trivial⟩ (fun hh=>by rw[List.map_append];exact hh)⟩
 ·obtain⟨rfl,hall⟩:=hno h7
  refine io it fun hl hd hsub=>(aM (fun w hh=>hh.iter_end it) (bD ?_))
  exact cJ results197 (fun w hh=>⟨_,⟨_,(List.perm_ext_iff_of_nodup hd hl).2 fun x=>⟨fun hx=>by obtain⟨p,hp,rfl⟩:=List.mem_map.1 hx;exact List.mem_map_of_mem (hsub p hp),fun hx=>by obtain⟨p,hp,rfl⟩:=List.mem_map.1 hx;exact List.mem_map_of_mem (hall p hp)⟩,rfl⟩,hh⟩)
theorem uJ(B:World)(Fr:List HP)(mr bb:Nat)(ml:List (Int×Int))(hml:ml.length≤1000000):
 ∀ w,Holds B (row bb [.map (some mr)] 196::bi .i64 i64 mr ml::Fr) w→Calls Tryz.prog 211 [.slice none 0 0,.func (.func 197) [].toArray [ptr bb].toArray].toArray w (Ret B (fun rv H'=>∃ ks:List Int,ks.Perm (ml.map Prod.fst)∧H'=ii 0 (rv,ks)::bi .i64 i64 mr ml::Fr) (fun _ _=>False)):=by
 refine ew func211 aa ntmps211 aa (ac (ab (kPb (dE aa aa) aa fun b2=>(kPa aa aa (ad (ac (ac (ab (kPm aa aa (ad (aK ?_)))))))))))
 refine oc (ι:=List Int) (fun ks=>row bb [.map (some mr)] 196::bi .i64 i64 mr ml::jA b2 ks::Fr) (fun ks=>ks.Perm (ml.map Prod.fst)) (fun _=>False) [] rfl call197 ?_ ?_ ?_
 ·intro l m tmps hts hkn w hh
  have hk2:=hkn 2 _ rfl
  refine(tZ B (blk m (.deferred (some []))::Fr) l 211 mr bb b2 ml _ aa aa ?_ w (((((wc ((((hh.front 4 aa).front 4 aa).front 2 aa).front 4 aa)).front 0 aa).front 3 aa).front 3 aa).front 3 aa)).mono (Ret.mono ?_ ?_)
  rotate_left
  ·rintro v H' ⟨ks,hks,rfl⟩
   exact⟨ks,hks,fun w hh=>((hh.front 4 aa).front 1 aa)⟩
  ·rintro c H' ⟨⟩
  intro A1 A2 v xs hxs
  have hxs:xs.length≤1000000:=by omega
  refine gr (n:=13) (σ:=[(7,i64 v),(2,ptr b2)]) func211 (by simp[fB,hts]) (KnA.knows (by simp[KnA,fB,hts];exact(Array.getElem?_eq_some_iff.1 hk2).2)) aa ?_;refine ab ?_;refine kPa aa aa ?_;refine ad ?_;refine jW ?_;refine dh 3 aa ?_
  refine yI (fun hxe=> ?_) (fun bd rest=> ?_)
  ·subst hxe
   refine aK (ab (kPv (ai isAgg166 aa aa) aa (kPm aa aa (kPb (gk runUnderlying166 sizeOf3 zeroValue3 aa aa aa) aa fun b1=>(cP aa (go aa aa runUnderlying166 runUnderlying166 ⟨_,rfl⟩ sizeOf3 zeroValue3 aa xE aa aa (SlR.row (xs:=[i64 v]) aa aa) (by simp) (by simp)) .free aa aa ?_)))))
   rintro _ _ ⟨bn,cn,rest',hcn,hrest,rfl,rfl⟩
   refine kPs (aO sizeOf166 aa aa aa aa) aa (ad (ao [] rfl (dh 3 aa ?_)))
   exact jV fun w hh=>⟨_,⟨rfl,rfl⟩,((((((m5 (xs:=[]++[v]) (by simp) (by first | omega | (simp at*;omega)) ((hh.front 1 aa).front 3 aa)).front 2 aa).tail.front 0 aa).front 3 aa).front 3 aa).front 3 aa)⟩
  ·skip
   refine aK (ab (kPv (ai isAgg166 aa aa) aa (kPm aa aa (kPb (gk runUnderlying166 sizeOf3 zeroValue3 aa aa aa) aa fun b1=>(cP aa (iR aa aa runUnderlying166 runUnderlying166 ⟨_,rfl⟩ sizeOf3 zeroValue3 aa xE aa aa (SlR.row (xs:=[i64 v]) aa aa) (by simp) (by omega) (by simp;omega) aa) .free aa aa (fun v2 H2 hY=> ?_))))))
   revert hY
   generalize hob:Obj.loop _=ob
   intro hY
   have hY2:∃ bn c' rest',c'=xs.length+1+rest'.length∧v2= .slice (some ⟨bn,0,none⟩) (xs.length+1) c'∧∀ w,Holds B H2 w→Holds B (row b2 [.slice (some ⟨bd,0,none⟩) xs.length (xs.length+rest.length)] 166::row bn ((xs++[v]).map i64++rest') 3::blk l ob::A1::A2::blk m (.deferred (some []))::Fr) w:=by
    rcases hY with ⟨h1,rfl,rfl⟩ | ⟨h1,bn,cn,rest',h2,_,rfl,rfl⟩
    ·refine⟨bd,_,rest.drop 1,by simp at h1 ⊢;omega,rfl,fun w hh=> ?_⟩
     have h3:=hh.tail
     rw[wb (by simp at h1;omega)] at h3
     exact h3
    ·refine⟨bn,_,rest',by simpa using h2.symm,rfl,fun w hh=> ?_⟩
     have h3:=((((hh.front 1 rfl).tail).front 2 rfl).tail).front 1 rfl
     have e:(xs++[v]).map i64++rest'=((xs.map i64++rest).drop 0).take xs.length++[i64 v]++rest':=by simp
     rw[e]
     exact h3
   obtain⟨bn,c',rest',hc',rfl,hY3⟩:=hY2
   refine aM hY3 (kPs (aO sizeOf166 aa aa aa aa) aa (ad (ao [] rfl ?_)))
   subst hob
   refine dh 2 aa ?_
   exact jV fun w hh=>⟨_,⟨rfl,rfl⟩,(((((m5 (xs:=xs++[v]) (by simp) (by first | omega | (simp at*;omega)) ((hh.front 2 aa).front 2 aa)).front 0 aa).front 3 aa).front 3 aa).front 3 aa)⟩
 rotate_left
 ·rintro m x ⟨⟩
 intro m ks hks
 refine dh 3 aa (vE fun sv=>(ac (ab (kPv (ai isAgg166 aa aa) aa (kPa aa aa (ad (aB ?_)))))))
 exact fh results211 aa (.cons (i:=2) aa .nil) (fun w hh=>⟨_,⟨ks,hks,rfl⟩,(((hh.front 3 aa).front 3 aa).front 2 aa).tail.tail.tail⟩)
theorem ta(B:World)(Fr:List HP)(mr bb:Nat)(ml:List (Int×Int))(hml:ml.length≤1000000):
 ∀ w,Holds B (row bb [.map (some mr)] 196::bi .i64 i64 mr ml::Fr) w→Calls Tryz.prog 191 [.func (.func 197) [].toArray [ptr bb].toArray].toArray w (Ret B (fun rv H'=>∃ ks:List Int,ks.Perm (ml.map Prod.fst)∧H'=ii 0 (rv,ks)::bi .i64 i64 mr ml::Fr) (fun _ _=>False)):=by
 refine ap func191 aa ntmps191 aa (ac (ab (kPa aa aa (ad (ac (ab (kPm aa aa (aI aa (ar call211 aa) (uJ _ _ mr bb ml hml) .free aa aa ?_))))))))
 rintro _ _ ⟨ks,hks,rfl⟩
 refine kPa aa aa (ad (aB ?_))
 exact aw results191 aa (fun w hw=>⟨_,⟨ks,hks,rfl⟩,hw⟩)
theorem tJ(B:World)(Fr:List HP)(mr bb:Nat)(ml:List (Int×Int))(hml:ml.length≤1000000):
 ∀ w,Holds B (row bb [.map (some mr)] 196::bi .i64 i64 mr ml::Fr) w→Calls Tryz.prog 149 [.func (.func 197) [].toArray [ptr bb].toArray].toArray w (Ret B (fun rv H'=>H'=ii 0 (rv,bT (ml.map Prod.fst))::bi .i64 i64 mr ml::Fr) (fun _ _=>False)):=by
 refine ap func149 aa ntmps149 aa (ac (ab (kPa aa aa (ad (ac (ab (kPm aa aa (aI aa (ar call191 aa) (ta _ _ mr bb ml hml) .free aa aa ?_))))))))
 rintro v5 _ ⟨ks,hks,rfl⟩
 have hkl:ks.length≤1000000:=by rw[hks.length_eq,List.length_map];exact hml
 refine kPa aa aa (ad (ac (ab (kPm aa aa (aI aa (ar call192 aa) (rx _ _ _ ks hkl) .free aa aa ?_)))))
 rintro _ _ rfl
 refine ad (ac (ab (kPm aa aa (kPa aa aa (ad (ao [2] rfl (aB ?_)))))))
 exact aw results149 aa (fun w hw=>⟨_,rfl,by rw[←nn hks];exact hw⟩)
structure gm where
 at_:List (Int×Int)
 no:List (Int×Int)
 last:Int
def fR(b:Nat)(T:gm):HP:=hex fun (x:Nat×Nat)=>grp [row b [.map (some x.1),.map (some x.2),i64 T.last] 198,bi .i64 i64 x.1 T.at_,bi .i64 i64 x.2 T.no]
theorem qM{B:World}{n:Nat}{D:List Deferred}{σ:Env}{b:Nat}{T:gm}{Fr:List HP}{K:Act→World→Prop}(h:∀ b1 b2,GO B n D σ (row b [.map (some b1),.map (some b2),i64 T.last] 198::bi .i64 i64 b1 T.at_::bi .i64 i64 b2 T.no::Fr) K):GO B n D σ (fR b T::Fr) K:=fun a w st=>by
 obtain⟨x,hx⟩:=st.holds.hex
 exact h _ _ a w ⟨st.toStA,hx.grp⟩
theorem fZ{B:World}{b b1 b2:Nat}{T:gm}{Fr:List HP}{w:World}(h:Holds B (row b [.map (some b1),.map (some b2),i64 T.last] 198::bi .i64 i64 b1 T.at_::bi .i64 i64 b2 T.no::Fr) w):Holds B (fR b T::Fr) w:=
 Holds.unhex (b1,b2) (Holds.ungrp (l:=[row b [.map (some b1),.map (some b2),i64 T.last] 198,bi .i64 i64 b1 T.at_,bi .i64 i64 b2 T.no]) h)
theorem vw(B:World)(H:List HP):
 ∀ w,Holds B H w→Calls Tryz.prog 71 [].toArray w (Ret B (fun rv H'=>∃ b,rv=ptr b∧H'=fR b ⟨[],[],0⟩::H) (fun _ _=>False)):=by
 refine ap func71 aa ntmps71 aa (ac (ab (kPa aa aa (ad (ac (ab (kPb (dP .i64 i64) aa fun b1=>(kPb (dP .i64 i64) aa fun b2=> ?_))))))))
 refine aj aa (aP aa (tn _ _ (by first | rfl | assumption) (by first | rfl | assumption))) .free rfl rfl ?_;refine kPb (aY aa) aa fun b4=> ?_;refine kPa aa aa ?_;refine ad ?_;refine aB ?_
 exact aw results71 aa (fun w hh=>⟨_,⟨_,rfl,rfl⟩,fZ (T:=⟨[],[],0⟩) ((hh.front 2 aa).back 1 (by simp))⟩)
theorem pJ(B:World)(Fr:List HP)(b:Nat)(T:gm)(n:Int):
 ∀ w,Holds B (fR b T::Fr) w→Calls Tryz.prog 146 [ptr b,i64 n].toArray w (aZ B (fR b T::Fr) (.tuple #[i64 ((bI T.at_ n).getD 0),.bool (bI T.at_ n).isSome])):=by
 refine ap func146 aa ntmps146 aa (qM fun b1 b2=>(ac (ab (kPa aa aa (kPa aa aa (ad (ac (ab (kPf iM isAgg196 aa aa aa aa (kPm aa aa (kPv ((eZ runUnderlying196 runUnderlying3 zeroValue3 aa aa).eq (congrArg (fun v=>Value.tuple #[v,.bool _]) (nS _))) aa ?_)))))))))))
 refine kPm aa aa (kPv (aA aa aa) aa (kPv (aA aa aa) aa (kPa aa aa (kPa aa aa (ad (ao [7,6,5,4] rfl (ac (ab (kPm aa aa (kPm aa aa (kPa aa aa ?_)))))))))))
 refine kPa aa aa (ad (aB ?_))
 exact bY results146 aa aa (fun w hh=>⟨rfl,fZ hh⟩)
theorem rV{α:Type}{k:Int}{z u:α}:∀ {l:List (Int×α)},(∀ p∈l,p.1≠k)→mset (l++[(k,z)]) k u=l++[(k,u)]
 | [],_=>by simp[mset]
 | p::l,h=>by
   simp only[List.cons_append,mset]
   rw[if_neg (h p (List.mem_cons_self ..)),rV fun q hq=>h q (List.mem_cons_of_mem _ hq)]
theorem je{α:Type}{k:Int}{z u:α}{l:List (Int×α)}:mset (jh l k z) k u=mset l k u:=by
 unfold jh
 cases hc:fj l k 0 with
 | none=>rw[jg hc];exact rV (gv hc)
 | some v=>rfl
def gm.take(T:gm)(p:Int):Int×gm:=
 if p=0 then (0,T) else if (bI T.no p).isSome=true then ((bI T.no p).getD 0,T)
 else (T.last+1,⟨mset T.at_ (T.last+1) p,mset T.no p (T.last+1),T.last+1⟩)
theorem jU(B:World)(Fr:List HP)(b:Nat)(T:gm)(p:Int)(hT:0≤T.last∧T.last≤1000000000):
 ∀ w,Holds B (fR b T::Fr) w→Calls Tryz.prog 72 [ptr b,i64 p].toArray w (Ret B (fun rv H'=>rv=i64 (T.take p).1∧H'=fR b (T.take p).2::Fr) (fun _ _=>False)):=by
 refine ap func72 aa ntmps72 aa (qM fun b1 b2=>(ac (ab (kPa aa aa (ad (ac (ac (ab (kPm aa aa (kPv (am aa aa aa) aa (ad ?_)))))))))))
 refine ba aa (fun h8=> ?_) (fun h8=> ?_)
 ·have hk:p=0:=by simpa using h8
  have hres:T.take p=(0,T):=by unfold gm.take;rw[if_pos hk]
  refine ac (ab (kPa aa aa (ad (aB ?_))))
  exact aw results72 aa (fun w hh=>⟨_,⟨by rw[hres],rfl⟩,by rw[hres];exact fZ hh⟩)
 ·have hk:¬ p=0:=by simpa using h8
  refine aq (ac (ac (ab (kPf lz isAgg196 aa aa aa aa (kPm aa aa (kPv ((eZ runUnderlying196 runUnderlying3 zeroValue3 aa aa).eq (congrArg (fun v=>Value.tuple #[v,.bool _]) (nS _))) aa (kPm aa aa (kPv (aA aa aa) aa (kPv (aA aa aa) aa (kPa aa aa (kPa aa aa ?_)))))))))))
  refine ad (ao [6,5,4,0,1] rfl (ac (ab (kPm aa aa (ad ?_)))))
  refine ba aa (fun h18=> ?_) (fun h18=> ?_)
  ·have hres:T.take p=((bI T.no p).getD 0,T):=by unfold gm.take;rw[if_neg hk,if_pos h18]
   refine ac (ab (kPm aa aa (kPa aa aa (ad (aB ?_)))))
   exact aw results72 aa (fun w hh=>⟨_,⟨by rw[hres];rfl,rfl⟩,by rw[hres];exact fZ hh⟩)
  ·have hres:T.take p=(T.last+1,⟨mset T.at_ (T.last+1) p,mset T.no p (T.last+1),T.last+1⟩):=by unfold gm.take;rw[if_neg hk,if_neg (by rw[h18];decide)]
   refine aq (ac (ab (kPf j0 isAgg3 aa aa aa aa (kPv (aN aa aa) aa (kPv (aJ aa) aa (kPv (aF (m:=_) j0 aa aa) aa (kPs (aO sizeOf3 aa aa aa aa) aa (ad (ao [4,0,1] rfl (ac (cM [0,1,2,3,4,5,6,7,8,9,10,11,12,13,14,15,16,17,18,19,20,21,22,23] [18,20,21,23] [12,13] [18,20] [] Tryz.mixed (by kernel_rfl) ?_)))))))))))
   refine aV aa aa aa (ak aa) .free aa (aV aa aa aa (aJ aa) .free aa (aV aa aa aa (aF (m:=_) iM aa aa) .free aa (aV aa aa aa (ai isAgg196 aa aa) .free aa (aV aa aa aa (ak aa) .free aa (aV aa aa aa (aJ aa) .free aa (aV aa aa aa (aF (m:=_) j0 aa aa) .free aa (aV aa aa aa (ai isAgg3 aa aa) .free aa (aV aa aa aa (ak aa) .free aa (aV aa aa aa (aJ aa) .free aa (aV aa aa aa (aF (m:=_) lz aa aa) .free aa (aV aa aa aa (ai isAgg196 aa aa) .free aa ?_)))))))))))
   refine an aa aa aa (ak aa) .free aa (an aa aa aa (ak aa) .free aa (aV aa aa aa (ak aa) .free aa (aV aa aa aa (aJ aa) .free aa (aV aa aa aa (aF (m:=_) j0 aa aa) .free aa (aV aa aa aa (ai isAgg3 aa aa) .free aa (aR aa aa (dh 1 aa ?_)))))))
   simp only[List.eraseIdx_cons_succ,List.eraseIdx_cons_zero]
   refine cP aa (iq (u0:=(0:Int)) runUnderlying196 runUnderlying3 zeroValue3 aa aa) .free aa aa ?_
   rintro _ _ ⟨z1,st1,rfl,rfl⟩
   refine ad (cK (aV aa aa aa (aA aa aa) .free aa (aR aa aa (kPs (gn aa aa aa aa) aa (ad (cK (aR aa aa (dh 2 aa ?_))))))))
   simp only[List.eraseIdx_cons_succ,List.eraseIdx_cons_zero]
   refine cP aa (iq (u0:=(0:Int)) runUnderlying196 runUnderlying3 zeroValue3 aa aa) .free aa aa ?_
   rintro _ _ ⟨z2,st2,rfl,rfl⟩
   refine ad (cU aa (aV aa aa aa (aA aa aa) .free aa (aR aa aa (kPs (gn aa aa aa aa) aa (ad (cU aa (cC (ao [4,0] rfl (ac (ab (kPf j0 isAgg3 aa aa aa aa ?_)))))))))))
   refine kPa aa aa (ad (aB ?_))
   exact aw results72 aa (fun w hh=>⟨_,⟨by rw[hres],rfl⟩,by rw[hres];rw[je,je] at hh;exact fZ (T:=⟨_,_,_⟩) ((hh.front 1 aa).front 2 aa)⟩)
theorem mt(B:World)(Fr:List HP)(b:Nat)(T:gm)(hTl:T.at_.length≤1000000):
 ∀ w,Holds B (fR b T::Fr) w→Calls Tryz.prog 92 [ptr b].toArray w (Ret B (fun rv H'=>H'=ii 0 (rv,bT (T.at_.map Prod.fst))::fR b T::Fr) (fun _ _=>False)):=by
 refine ap func92 aa ntmps92 aa (qM fun b1 b2=>(ac (ab (kPa aa aa (ad (ac (ab (kPf iM isAgg196 aa aa aa aa (aI aa (ar call155 aa) (wK _ _ _) .free aa aa ?_)))))))))
 rintro _ _ ⟨bb,rfl,rfl⟩
 refine aM (H':=row bb [.map (some b1)] 196::bi .i64 i64 b1 T.at_::row b [.map (some b1),.map (some b2),i64 T.last] 198::bi .i64 i64 b2 T.no::Fr) (fun w hh=>(hh.front 2 aa).back 1 (by simp)) (aI aa (ar call149 aa) (tJ _ _ b1 bb T.at_ hTl) .free aa aa ?_)
 rintro v8 _ rfl
 refine kPa aa aa (ad (ao [2] rfl (aB ?_)))
 exact aw results92 aa (fun w hh=>⟨_,rfl,Holds.front (A:=ii 0 (v8,bT (T.at_.map Prod.fst))) (fZ (T:=T) (((hh.front 3 aa).front 2 aa).front 3 aa)) 1 aa⟩)
section
variable {B:World} {σ:Env} {H:List HP} {P:Program} {d:Option Tmp} {ty:TypeId} {p:String} {af:Array Edge} {g:Option (Nat×Bool)}
theorem tN{t k e:TypeId}{q:Option Nat}(ht:∀ w,(underlying t).run P w= .ok (.map k e) w)(w:World):(Op.equal t (.map q) (.map none)).run P w= .ok q.isNone w:=by
 show(Op.equalIn (9999+1) t (.map q) (.map none)).run P w=_
 rw[Op.equalIn];simp only[Sem.run_bind,ht,Result.andThen_ok];cases q<;>rfl
theorem B6{op:BinOp}{x y:Operand}{q:Option Nat}{c:Bool}{t u k e:TypeId}(ht:∀ w,(underlying t).run P w= .ok (.map k e) w)(hx:evO σ x=some (.map q))(hy:evO σ y=some (.map none))(hc:(match op with | .eql=>some q.isNone | .neq=>some (!q.isNone) | _=>none)=some c):
 Evs P B σ H ⟨d,.binOp op t x y u,ty,p,af,g⟩ (.bool c):=by
 intro a w kn _
 cases op<;>simp at hc<;>subst hc<;>simp only[execOp,kn.eval hx,kn.eval hy]<;>simp[binOp,eqGuard,tN ht]
theorem B3{x:Operand}{s t:TypeId}{v:Value}{td:TypeDesc}(ht:∀ w,(underlying t).run P w= .ok td w)(hi:wU td=false)(hx:evO σ x=some (.iface t v)):Evs P B σ H ⟨d,.typeAssert x s t false,ty,p,af,g⟩ v:=by
 intro a w kn _
 cases td<;>simp[wU] at hi<;>simp[execOp,kn.eval hx,Instr.typeAssert,ht]
theorem xc{α:Type}{kk:IntKind}{enc:α→Value}{r:Nat}{l:List (Int×α)}{U:List (Int×α)→List HP}{f:FuncId}{x:Operand}{t:TypeId}{at_:Array TypeId}(hc:∀ (args:Array Value) (w:World),(callFunc f args).run P w=((Extern.MapsClone.clone args).run P w).andThen fun v w'=> .ok (.value v) w')
 (hx:evO σ x=some (.iface t (.map (some r)))) [m:jt H r kk enc l U]:
 Chg P B σ H ⟨d,.call ⟨.value (.func f), #[x],at_⟩,ty,p,af,g⟩ (fun v H'=>∃ b,v= .iface t (.map (some b))∧H'=bi kk enc b l::H):=by
 intro a w kn hh
 obtain⟨bn,clock,ho,hm⟩:=m.obj hh
 refine⟨.value (.iface t (.map (some w.heap.size))),{w with heap:=w.heap.push (.map (bM kk enc bn l).toArray clock)},?_,_,.inl aa,_,⟨_,rfl,rfl⟩,?_⟩
 ·have e:Extern.MapsClone.clone #[.iface t (.map (some r))]=(getObj r>>=fun o=>match o with
   | .map entries clock=>(newObj (.map entries clock)>>=fun n=>pure (.iface t (.map (some n))))
   | _=>stuck "maps.clone: a map expected"):=rfl
  have hg:(getObj r).run P w= .ok (.map (bM kk enc bn l).toArray clock) w:=by simp[getObj,Sem.run,ho]
  have hfe:a.eval (.func f)= .func (.func f) #[] #[]:=rfl
  simp[execOp,resolve,Deferred.ofValue,invoke,hfe,kn.eval hx,hc,e,hg]
 ·exact(hh.new (.map (bM kk enc bn l).toArray clock)).map fun _ a=>lf (fun k hk=>⟨bn,clock,hk,hm⟩) a
end
theorem wN(B:World)(H:List HP)(r:Nat)(l:List (Int×Int))(U:List (Int×Int)→List HP)(m:jt H r .i64 i64 l U):
 ∀ w,Holds B H w→Calls Tryz.prog 210 [.map (some r)].toArray w (Ret B (fun rv H'=>∃ b,rv= .map (some b)∧H'=bi .i64 i64 b l::H) (fun _ _=>False)):=by
 refine ap func210 aa ntmps210 aa (ac (ab (kPa aa aa (ad (ac (ac (ab (kPm aa aa (kPv (B6 runUnderlying196 aa aa aa) aa (ad (bE aa (rfl) ?_)))))))))))
 refine aq (ac (ab (kPm aa aa (kPv (zc runUnderlying196 aa aa) aa (kPb (xc (fun args w=>run_callFunc_extern func217 (by kernel_rfl) (by kernel_rfl) (by kernel_rfl) (e:=Extern.MapsClone.clone) (by kernel_rfl) args w) aa) aa fun b=> ?_)))))
 refine kPv (B3 runUnderlying196 aa aa) aa (kPa aa aa (ad (ao [2] rfl (aB ?_))))
 exact aw results210 aa (fun w hh=>⟨_,⟨b,rfl,rfl⟩,hh⟩)
structure Bl(B:World)(f:FuncId)(fi ca:List Value)(ε:Type)(ExL:ε→List HP)(okp:Int→Prop)(to_:Int→Int)(st:Int→ε→ε):Prop where
 enter:∀ args w,(callFunc f args).run Tryz.prog w= .ok (.enter f args) w
 says:∀ (Fr:List HP) (p:Int) (e:ε),okp p→∀ w,Holds B (ExL e++Fr) w→Calls Tryz.prog f (fi++[i64 p]++ca).toArray w (Ret B (fun rv H'=>rv=i64 (to_ p)∧H'=ExL (st p e)++Fr) (fun _ _=>False))
def dr(to_:Int→Int)(x:List (Int×Int)×List (Int×Int))(p:Int×Int):List (Int×Int)×List (Int×Int):=if to_ p.2≠0 then (mset x.1 p.1 (to_ p.2),mset x.2 (to_ p.2) p.1) else x
def gm.moved(to_:Int→Int)(last:Int)(ord:List (Int×Int)):gm:=⟨(ord.foldl (dr to_) ([],[])).1,(ord.foldl (dr to_) ([],[])).2,last⟩
theorem Holds.hop0{B:World}{w:World}(L M:List HP){E:List HP}(h:Holds B (L++(M++E)) w):Holds B (M++(L++E)) w:=
 h.perm (by rw[←List.append_assoc, ←List.append_assoc];exact List.Perm.append_right _ List.perm_append_comm)
theorem rT{α:Type}{l:List (Int×α)}(h:(l.map Prod.fst).Nodup):l.Nodup:=List.Pairwise.of_map Prod.fst (fun a b h e=>h (by rw[e])) h
theorem jl{α β:Type}(f:β→α→β)(l:List α)(a:α)(b:β):(l++[a]).foldl f b=f (l.foldl f b) a:=by rw[List.foldl_append];rfl
theorem wY(B:World)(Fr:List HP)(b:Nat)(T:gm)(f:FuncId)(fi ca:List Value)(ε:Type)(ExL:ε→List HP)(okp:Int→Prop)(to_:Int→Int)(st:Int→ε→ε)(hM:Bl B f fi ca ε ExL okp to_ st)(hok:∀ p∈T.at_,okp p.2)(e0:ε):
 ∀ w,Holds B (fR b T::(ExL e0++Fr)) w→Calls Tryz.prog 186 [ptr b,.func (.func f) fi.toArray ca.toArray].toArray w (Ret B (fun _ H'=>∃ ord:List (Int×Int),ord.Perm T.at_∧H'=fR b (gm.moved to_ T.last ord)::(ExL (ord.foldl (fun e (p:Int×Int)=>st p.2 e) e0)++Fr)) (fun _ _=>False)):=by
 refine ap func186 aa ntmps186 aa (qM fun b1 b2=>(ac (ab (kPf iM isAgg196 aa aa aa aa (aI aa (ar call210 aa) (wN B _ b1 T.at_ _ inferInstance) .free aa aa ?_)))))
 rintro _ _ ⟨bo,rfl,rfl⟩
 refine kPa aa aa (ad (ac (ab (kPf iM isAgg196 aa aa aa aa (kPs (lI aa runUnderlying196 aa) aa (ad (ao [4,0,1] rfl (ac (ab (kPf lz isAgg196 aa aa aa aa (kPs (lI aa runUnderlying196 aa) aa ?_)))))))))))
 refine ad (ac (ab (kPm aa aa (kPb (lH runUnderlying196 aa) aa fun it=>(ad (aK (c6 (ι:=List (Int×Int)) [22,0,1] (fun done=>(done.length≤T.at_.length)) (fun done=>[]) (fun done=>row b [.map (some b1),.map (some b2),i64 T.last] 198::bi .i64 i64 b1 (done.foldl (dr to_) ([],[])).1::bi .i64 i64 b2 (done.foldl (dr to_) ([],[])).2::fp .i64 i64 bo it T.at_ done::(ExL (done.foldl (fun e (p:Int×Int)=>st p.2 e) e0)++Fr)) (fun done=>T.at_.length - done.length) ([]) (Nat.zero_le _) (fun a w st=>st.to trivial (fun hh=>(hh.pk [1,1,1]))) ?_)))))))
 rintro done hdl
 try simp only at hdl ⊢
 refine cB (σ':=[(22,_),(0,_),(1,_)]) (aC aa) (ac (ab (cP aa (mW aa) .free aa aa ?_)))
 rintro _ _ ⟨bb0,vs,done',rfl,hvs,rfl,hno,hyes⟩
 refine kPv (aA aa hvs) aa (ad (ac ?_))
 refine ba aa (fun h24=> ?_) (fun h24=> ?_)
 ·obtain⟨pp,hpl,hpn,rfl⟩:=hyes h24
  refine io it fun hl hd hsub=>(aq (aK (ac (ab (kPv (lE (p0:=pp) (dn:=done) aa) aa (kPv (aA aa aa) aa (kPv (aA aa aa) aa (kPa aa aa (kPa aa aa (ad (ac ?_)))))))))))
  refine ab (kPm aa aa (kPm aa aa ?_))
  refine aS aa (ky hM.enter aa aa) (fun w hh=>hM.says ([row b [.map (some b1),.map (some b2),i64 T.last] 198,bi .i64 i64 b1 (done.foldl (dr to_) ([],[])).1,bi .i64 i64 b2 (done.foldl (dr to_) ([],[])).2,fp .i64 i64 bo it T.at_ (done++[pp])]++Fr) pp.2 (done.foldl (fun e (p:Int×Int)=>st p.2 e) e0) (hok pp hpl) w (Holds.hop0 [row b [.map (some b1),.map (some b2),i64 T.last] 198,bi .i64 i64 b1 (done.foldl (dr to_) ([],[])).1,bi .i64 i64 b2 (done.foldl (dr to_) ([],[])).2,fp .i64 i64 bo it T.at_ (done++[pp])] (ExL (done.foldl (fun e (p:Int×Int)=>st p.2 e) e0)) hh)) .free aa aa ?_ ?_
  rotate_left
  ·rintro _ _ ⟨⟩
  rintro _ _ ⟨rfl,rfl⟩
  refine aM (H':=[row b [.map (some b1),.map (some b2),i64 T.last] 198,bi .i64 i64 b1 (done.foldl (dr to_) ([],[])).1,bi .i64 i64 b2 (done.foldl (dr to_) ([],[])).2,fp .i64 i64 bo it T.at_ (done++[pp])]++(ExL (st pp.2 (done.foldl (fun e (p:Int×Int)=>st p.2 e) e0))++Fr)) (fun w hh=>Holds.hop0 (ExL (st pp.2 (done.foldl (fun e (p:Int×Int)=>st p.2 e) e0))) [row b [.map (some b1),.map (some b2),i64 T.last] 198,bi .i64 i64 b1 (done.foldl (dr to_) ([],[])).1,bi .i64 i64 b2 (done.foldl (dr to_) ([],[])).2,fp .i64 i64 bo it T.at_ (done++[pp])] hh) ?_
  simp only[List.cons_append,List.nil_append]
  refine kPa aa aa (ad (ao [7,5,22,0,1] rfl (ac (ab (kPm aa aa (kPv (am aa aa aa) aa (ad ?_)))))))
  refine ba aa (fun h32=> ?_) (fun h32=> ?_)
  ·have hnz:to_ pp.2≠0:=by simpa using h32
   refine cM [0,1,2,3,4,5,6,7,8,9,10,11,12,13,14,15,16,17] [12,14,15,17] [9,10,11] [12,14,15] [row b [.map (some b1),.map (some b2),i64 T.last] 198] Tryz.mixed (by kernel_rfl) ?_
   refine aV aa aa aa (ak aa) .free aa (aV aa aa aa (aJ aa) .free aa (aV aa aa aa (aF (m:=_) iM aa aa) .free aa (aV aa aa aa (ai isAgg196 aa aa) .free aa (aV aa aa aa (ak aa) .free aa (aV aa aa aa (ak aa) .free aa (aV aa aa aa (aJ aa) .free aa (aV aa aa aa (aF (m:=_) lz aa aa) .free aa (aV aa aa aa (ai isAgg196 aa aa) .free aa (an aa aa aa (ak aa) .free aa (an aa aa aa (ak aa) .free aa (an aa aa aa (ak aa) .free aa ?_)))))))))))
   refine aR aa aa (aU [1] (cP aa (iq (u0:=(0:Int)) runUnderlying196 runUnderlying3 zeroValue3 aa aa) .free aa aa ?_))
   rintro _ _ ⟨z1,st1,rfl,rfl⟩
   refine ad (cK (aV aa aa aa (aA aa aa) .free aa (aR aa aa (kPs (gn aa aa aa aa) aa (ad (cK (aR aa aa (aU [2] (cP aa (iq (u0:=(0:Int)) runUnderlying196 runUnderlying3 zeroValue3 aa aa) .free aa aa ?_)))))))))
   rintro _ _ ⟨z2,st2,rfl,rfl⟩
   refine ad (cK (aV aa aa aa (aA aa aa) .free aa (aR aa aa (kPs (gn aa aa aa aa) aa (ad (cU aa (cC (ao [22,0,1] rfl ?_))))))))
   have hle:=im hd hsub
   exact fun a w st_=>⟨done++[pp],by first | omega | (simp;omega),by first | omega | (simp;omega),st_.to ⟨rfl,rfl,rfl,trivial⟩ (fun hh=>(by have h:=(hh.pk [2,1]);rw[je,je] at h;rw[jl,jl,show dr to_ (done.foldl (dr to_) ([],[])) pp=(mset _ pp.1 (to_ pp.2),mset _ (to_ pp.2) pp.1) from if_pos hnz];exact h))⟩
  ·have hnz:to_ pp.2=0:=by simpa using h32
   refine aq ?_
   have hle:=im hd hsub
   exact fun a w st_=>⟨done++[pp],by first | omega | (simp;omega),by first | omega | (simp;omega),st_.to ⟨rfl,rfl,rfl,trivial⟩ (fun hh=>(by have h:=hh;rw[jl,jl,show dr to_ (done.foldl (dr to_) ([],[])) pp=_ from if_neg (by simpa using hnz)];exact h))⟩
 ·obtain⟨rfl,hall⟩:=hno h24
  refine io it fun hl hd hsub=>(bD ?_)
  exact cJ results186 (fun w hh=>⟨_,⟨done',(List.perm_ext_iff_of_nodup (rT hd) (rT hl)).2 fun x=>⟨hsub x,hall x⟩,rfl⟩,fZ (T:=gm.moved to_ T.last done') (hh.dp [3])⟩)
def df(c:Cfg)(b:Blk)(ml:List (Int×cX))(v:Int):Bool:=v==0||(b.has c v&&(bI ml v).isSome)
def rI(s:Dev)(nf:Int→Bool)(o:cX):Bool:=(List.range o.2.1.toNat).all fun k=>nf (s.load (o.2.2+1+(k:Int)))
def stC(s:Dev)(nf:Int→Bool)(p:cX×Int)(x:Int):Bool×Int:=if rI s nf p.1=true then (true,x) else (false,9)
def Dev.check(s:Dev)(c:Cfg):Int:=
 if (s.block c).2≠0 then (s.block c).2
 else if (s.starts c (s.block c).1).2≠0 then (s.starts c (s.block c).1).2
 else if (s.block c).1.rts.all (df c (s.block c).1 (s.starts c (s.block c).1).1)=true then
  (itl (stC s (df c (s.block c).1 (s.starts c (s.block c).1).1)) (s.objs c (s.block c).1 ((s.block c).1.used.toNat+1) ((s.block c).1.place c 0)) 0).2
 else 9
theorem yi(o:Option cX):o8 gC (.agg #[i64 0,i64 0,i64 0]) o=gC (o.getD (0,0,0)):=by cases o<;>rfl
theorem o3{α:Type}{l:List α}{f:α→Bool}{k:Nat}(hk:k<l.length)(h:(l.take k).all f=true)(h2:f l[k]=true):(l.take (k+1)).all f=true:=by
 rw[List.take_succ_eq_append_getElem hk,List.all_append,h];simp[h2]
theorem nE{f:Nat→Bool}{k:Nat}(h:(List.range k).all f=true)(h2:f k=true):(List.range (k+1)).all f=true:=by
 rw[List.range_succ,List.all_append,h];simp[h2]
theorem p6(B:World)(Fr:List HP)(b1 b2 b3 mb:Nat)(c:Cfg)(hc:bj c)(b:Blk)(sv:Value)(hb:fS c b)(hsv:aL sv=true)(ml:List (Int×cX))(v:Int)(hv:0≤v∧v<18446744073709551616):
 ∀ w,Holds B (row b1 [i64 b.act,i64 b.used,sv] 151::row b2 [i64 c.log,i64 c.roots,i64 c.space] 134::row b3 [.map (some mb)] 259::bi .i64 gC mb ml::Fr) w→Calls Tryz.prog 181 [w64 v,ptr b1,ptr b2,ptr b3].toArray w (aZ B (row b1 [i64 b.act,i64 b.used,sv] 151::row b2 [i64 c.log,i64 c.roots,i64 c.space] 134::row b3 [.map (some mb)] 259::bi .i64 gC mb ml::Fr) (.bool (df c b ml v))):=by
 refine ap func181 aa ntmps181 aa (ac (ab (kPa aa aa (ad (ac (ac (ab (kPm aa aa (kPv (am aa aa aa) aa (ad ?_))))))))))
 refine ba aa (fun h9=> ?_) (fun h9=> ?_)
 ·have hres:df c b ml v=true:=by unfold df;simp[show v=0 by simpa using h9]
  refine ac (ab (kPa aa aa (ad (aB ?_))))
  exact aw results181 aa (fun w hh=>⟨by rw[hres],hh⟩)
 ·have hne:¬ v=0:=by simpa using h9
  refine aq (ac (ac (ab (kPv (ah isAgg151 sizeOf151 aa aa) aa ?_))))
  refine kPv (ah isAgg134 sizeOf134 aa aa) aa ?_
  refine kPm aa aa (ax aa (ar call182 aa) (qK _ _ c hc b sv hb hsv _ hv) .free aa aa ?_)
  refine kPv (bu aa) aa (ad (ao [14,5,0,3] rfl ?_))
  refine ba aa (fun h14=> ?_) (fun h14=> ?_)
  ·have hh0:b.has c v=false:=by simpa using h14
   have hres:df c b ml v=false:=by unfold df;simp[hne,hh0]
   refine ac (ab (kPa aa aa (ad (aB ?_))))
   exact aw results181 aa (fun w hh=>⟨by rw[hres],hh⟩)
  ·have hh0:b.has c v=true:=by simpa using h14
   have hvb:=kb hc hb hh0
   have hres:df c b ml v=(bI ml v).isSome:=by unfold df;simp[hne,hh0]
   refine aq (ac (ab (kPv (ai isAgg259 aa aa) aa (kPm aa aa (kPv (bK runUnderlying25 runUnderlying3 aa) aa (kPv ((eZ runUnderlying259 runUnderlying3 zeroValue160 aa aa).eq (congrArg (fun v=>Value.tuple #[v,.bool _]) (yi _))) aa (kPm aa aa (kPv (aA aa aa) aa (kPv (aA aa aa) aa (kPb (aE zeroValue160 aa) aa fun b6=>(kPs (ay (vs:=[i64 _,i64 _,i64 _]) sizeOf160 aa aa aa aa aa) aa ?_)))))))))))
   refine kPa aa aa (ad (ao [7,5] rfl (ac (ab (kPm aa aa (kPa aa aa (ad (aB ?_))))))))
   exact aw results181 aa (fun w hh=>⟨by rw[hres];rfl,hh.tail⟩)
theorem kw(B:World)(Fr:List HP)(bd:Nat)(s:Dev)(c:Cfg)(hc:bj c)(hu:U64 s):
 ∀ w,Holds B (az bd s::Fr) w→Calls Tryz.prog 130 [ptr bd,dQ c].toArray w (aZ B (az bd s::Fr) (i64 (s.check c))):=by
 refine ew func130 aa ntmps130 aa ?_
 have hrl:=fy (s:=s) hc
 refine ac (ab (kPb (dE aa aa) aa fun b2=>(kPb (aY aa) aa fun b3=>(kPa aa aa (ad (vF (ac (ab (kPv (ai isAgg90 aa aa) aa (kPv (ah isAgg134 sizeOf134 aa aa) aa ?_))))))))))
 refine aU [2] (aI aa (ar call117 aa) (fI _ _ _ _ c hc hu) .free aa aa ?_)
 rintro _ _ ⟨sv,hsv,rfl,rfl⟩
 have hbk:=dA (s:=s) hc hu
 refine kPm aa aa (kPv (aA aa aa) aa (kPv (aA aa aa) aa (kPb (aE zeroValue151 aa) aa fun b5=>(kPs (ay (vs:=[i64 _,i64 _,sv]) sizeOf151 aa aa aa (eC hsv) aa) aa (kPa aa aa (ad (ao [6,5,4,3,2] rfl (ac (ac (ab (kPm aa aa ?_)))))))))))
 refine kPv (am aa aa aa) aa (ad ?_)
 refine ba aa (fun h21=> ?_) (fun h21=> ?_)
 ·have he:(s.block c).2≠0:=by simpa using h21
  have hres:s.check c=(s.block c).2:=by unfold Dev.check;rw[if_pos he]
  refine ac (ab (kPm aa aa (kPa aa aa (ad (aB ?_)))))
  exact fh results130 aa (.nil) (fun w hh=>⟨by rw[hres]<;>rfl,(hh.dp [0,0,1,1])⟩)
 ·have he:(s.block c).2=0:=by simpa using h21
  refine aq (ac (ab (kPv (ai isAgg90 aa aa) aa (kPv (ah isAgg134 sizeOf134 aa aa) aa ?_))))
  refine kPv (ah isAgg151 sizeOf151 aa aa) aa ?_
  refine aU [2] (aI aa (ar call180 aa) (m7 _ _ bd s c hc (s.block c).1 sv hbk hsv) .free aa aa ?_)
  rintro _ _ ⟨mb,rfl,rfl⟩
  refine kPm aa aa (kPv (aA aa aa) aa (kPv (aA aa aa) aa (kPb (bX zeroValue259 aa) aa fun b7=>(kPs (aO sizeOf259 aa aa aa aa) aa (kPa aa aa (ad (ao [6,7,5,4,3,2] rfl (ac (ac (ab (kPm aa aa ?_)))))))))))
  refine kPv (am aa aa aa) aa (ad ?_)
  refine ba aa (fun h31=> ?_) (fun h31=> ?_)
  ·have he2:(s.starts c (s.block c).1).2≠0:=by simpa using h31
   have hres:s.check c=(s.starts c (s.block c).1).2:=by unfold Dev.check;rw[if_neg (by omega),if_pos he2]
   refine ac (ab (kPm aa aa (kPa aa aa (ad (aB ?_)))))
   exact fh results130 aa (.nil) (fun w hh=>⟨by rw[hres]<;>rfl,(hh.dp [0,0,1,1,1,1])⟩)
  ·have he2:(s.starts c (s.block c).1).2=0:=by simpa using h31
   refine aq (ac (ab (kPb (bX zeroValue36 aa) aa fun b8=>(kPs (aO sizeOf36 aa aa aa aa) aa (ad (ac (ab (kPv (dt aa aa) aa (kPb (bX zeroValue264 aa) aa fun b9=>(kPs (aO sizeOf264 aa aa aa aa) aa (aU [6] ?_)))))))))))
   refine cx fun qo co hqe hqo=> ?_
   subst hqe
   refine ad (ac (ac (ab (kPl eP isAgg30 aa aa aa aa (kPv (bH aa runUnderlying30 ⟨_,rfl⟩ rfl) aa (kPm aa aa (ad (aK (c6 (ι:=Nat) [36,35,9,8,5,4,3,2] (fun k=>(k≤(s.block c).1.rts.length)∧(((s.block c).1.rts.take k).all (df c (s.block c).1 (s.starts c (s.block c).1).1)=true)) (fun k=>[(37,i64 k)]) (fun k=>row b5 [i64 (s.block c).1.act,i64 (s.block c).1.used,.slice qo (s.block c).1.rts.length co] 151::row b3 [i64 c.log,i64 c.roots,i64 c.space] 134::row b7 [.map (some mb)] 259::bi .i64 gC mb (s.starts c (s.block c).1).1::cN 0 (.slice qo (s.block c).1.rts.length co,(s.block c).1.rts)::az bd s::row b8 [i64 0] 36::row b9 [.func (.func 181) #[] #[ptr b5,ptr b3,ptr b7]] 264::row b2 [ptr bd] 90::Fr) (fun k=>(s.block c).1.rts.length - k) (0) (⟨Nat.zero_le _,rfl⟩) (fun a w st=>st.to ⟨rfl,trivial⟩ (fun hh=>(hh.pk [6,6,3,3,0,2,1]))) ?_)))))))))
   rintro k ⟨hk0,hkr⟩
   try simp only at hk0 hkr ⊢
   refine cB (σ':=[(37,i64 k),(36,_),(35,_),(9,_),(8,_),(5,_),(4,_),(3,_),(2,_)]) (aC aa) (ac (ab (kPv (am aa aa aa) aa (ad (ac ?_)))))
   refine ba aa (fun h38=> ?_) (fun h38=> ?_)
   ·have hk:k<(s.block c).1.rts.length:=by simp at h38;omega
    obtain⟨bq,oq,rfl⟩:=hqo k hk
    have hul:0≤(s.block c).1.rts[k]∧(s.block c).1.rts[k]<18446744073709551616:=fx hu _ (List.getElem_mem hk)
    refine aq (ac (aK (ac (ab (kPv (cA runUnderlying30 sizeOf25 aa aa (by omega) (by omega)) aa ?_)))))
    refine kPv (cj (v:=w64 (s.block c).1.rts[k]) isAgg25 (cH 4 aa) aa (by rw[Int.toNat_natCast,List.getElem?_map,List.getElem?_eq_getElem hk];rfl)) aa ?_
    refine kPa aa aa (ad (ac (ab (kPv (ai isAgg264 aa aa) aa (kPm aa aa ?_)))))
    refine ax aa (ky call181 aa aa) (p6 B _ b5 b3 b7 mb c hc (s.block c).1 _ hbk aa (s.starts c (s.block c).1).1 (s.block c).1.rts[k] hul) .free aa aa ?_
    refine kPv (bu aa) aa (ad (ao [44,37,36,35,9,8,5,4,3,2] rfl ?_))
    refine ba aa (fun h44=> ?_) (fun h44=> ?_)
    ·have hnr:¬ (df c (s.block c).1 (s.starts c (s.block c).1).1) (s.block c).1.rts[k]=true:=by simpa using h44
     have hres:s.check c=9:=by unfold Dev.check;rw[if_neg (by omega),if_neg (by omega),if_neg (fun hh=>hnr (List.all_eq_true.1 hh _ (List.getElem_mem hk)))]
     refine ac (ab (kPa aa aa (ad (aB ?_))))
     exact fh results130 aa (.nil) (fun w hh=>⟨by rw[hres]<;>rfl,(hh.dp [0,0,0,0,0,1,1,1])⟩)
    ·have hnr:(df c (s.block c).1 (s.starts c (s.block c).1).1) (s.block c).1.rts[k]=true:=by simpa using h44
     refine aq (ab (kPv (aN aa aa) aa (kPm aa aa (ad ?_))))
     exact fun a w st_=>⟨k+1,⟨by first | omega | (simp only;omega),o3 hk hkr hnr⟩,by first | omega | (simp only;omega),st_.to (aC aa) (fun hh=>hh)⟩
   ·have hk:¬ k<(s.block c).1.rts.length:=by simp at h38;omega
    obtain rfl:k=(s.block c).1.rts.length:=by omega
    have hres:s.check c=(itl (stC s (df c (s.block c).1 (s.starts c (s.block c).1).1)) (s.objs c (s.block c).1 ((s.block c).1.used.toNat+1) ((s.block c).1.place c 0)) 0).2:=by unfold Dev.check;rw[if_neg (by omega),if_neg (by omega),if_pos (by rw[List.take_length] at hkr;exact hkr)]
    refine bD (ac (vG (ac (ac (ab (kPv (ai isAgg90 aa aa) aa (kPv (ah isAgg134 sizeOf134 aa aa) aa ?_)))))))
    refine kPv (ah isAgg151 sizeOf151 aa aa) aa ?_
    refine aI aa (ar call183 aa) (ne _ _ bd c (s.block c).1 (.slice qo (s.block c).1.rts.length co) aa) .free aa aa ?_
    rintro _ _ ⟨c3,c4,c5,rfl,rfl⟩
    refine ad (ao [49,9,8,4,2] rfl (aK (kt aa call208 ?_)))
    intro l m tmps hts hkn w hh
    have hk9:=hkn 9 _ rfl
    have hk2:=hkn 2 _ rfl
    have hk8:=hkn 8 _ rfl
    refine(rg B (blk m (.deferred (some []))::cN 0 (.slice qo (s.block c).1.rts.length co,(s.block c).1.rts)::Fr) l 130 c3 c4 c5 bd c hc (s.block c).1 _ hbk aa s Int _ aa aa (fun x=>True) (fun x=>[row b8 [i64 x] 36,row b5 [i64 (s.block c).1.act,i64 (s.block c).1.used,.slice qo (s.block c).1.rts.length co] 151,row b3 [i64 c.log,i64 c.roots,i64 c.space] 134,row b7 [.map (some mb)] 259,bi .i64 gC mb (s.starts c (s.block c).1).1,row b9 [.func (.func 181) #[] #[ptr b5,ptr b3,ptr b7]] 264,row b2 [ptr bd] 90]) (fun _=> .exit 2) (stC s (df c (s.block c).1 (s.starts c (s.block c).1).1)) 0 trivial ?_ w (hh.pk [0,1,1,1,6,6,1,1,1,1,2,2])).mono (Ret.mono ?_ fun _ _ h=>h.elim)
    ·intro p x hpw _
     have hp2:=hpw.r
     have hp1:=hpw.w
     have hp3:=hpw.at_
     refine⟨trivial,fun E=> ?_⟩
     simp only[List.cons_append,List.nil_append]
     refine gr (n:=70) (σ:=[(50,gC p.1),(51,i64 p.2),(9,ptr b9),(2,ptr b2),(8,ptr b8)]) func130 (by simp[fB,hts]) (KnA.knows (by simp[KnA,fB,hts];exact⟨(Array.getElem?_eq_some_iff.1 hk9).2,(Array.getElem?_eq_some_iff.1 hk2).2,(Array.getElem?_eq_some_iff.1 hk8).2⟩)) aa ?_
     refine ab (kPb (aE zeroValue160 aa) aa fun b12=>(kPs (ay (vs:=[i64 p.1.1,i64 p.1.2.1,i64 p.1.2.2]) sizeOf160 aa aa aa aa aa) aa (ad (aU [1] (jW (aK (ac ?_)))))))
     generalize hrec:({state:=LoopState.busy, ..}:Loop)=rec
     refine ab (kPv (aF (m:=_) eO aa aa) aa (kPl fO isAgg3 aa aa aa aa (kPm aa aa (ad (aK ?_)))))
     refine c6 (ι:=Nat) [54,12,9,2,8] (fun j=>((j:Int)≤p.1.2.1)∧((List.range j).all (fun k=>(df c (s.block c).1 (s.starts c (s.block c).1).1) (s.load (p.1.2.2+1+(k:Int))))=true)) (fun j=>[(55,i64 j)]) (fun j=>row b5 [i64 (s.block c).1.act,i64 (s.block c).1.used,.slice qo (s.block c).1.rts.length co] 151::row b3 [i64 c.log,i64 c.roots,i64 c.space] 134::row b7 [.map (some mb)] 259::bi .i64 gC mb (s.starts c (s.block c).1).1::row b12 [i64 p.1.1,i64 p.1.2.1,i64 p.1.2.2] 160::blk l (.loop rec)::row c5 [i64 (s.block c).1.act,i64 (s.block c).1.used,.slice qo (s.block c).1.rts.length co] 151::row c4 [i64 c.log,i64 c.roots,i64 c.space] 134::row c3 [ptr bd] 90::az bd s::row b8 [i64 x] 36::row b9 [.func (.func 181) #[] #[ptr b5,ptr b3,ptr b7]] 264::row b2 [ptr bd] 90::E) (fun j=>p.1.2.1.toNat - j) (0) (⟨by first | omega | (simp only;omega),rfl⟩) (fun a w st=>st.to ⟨rfl,trivial⟩ (fun hh=>(hh.pk [7,7,7,7,1]))) ?_
     rintro j ⟨hj0,hall⟩
     try simp only at hj0 hall ⊢
     refine cB (σ':=[(55,i64 j),(54,_),(12,_),(9,_),(2,_),(8,_)]) (aC aa) (ac (ab (kPv (am aa aa aa) aa (ad (ac ?_)))))
     refine ba aa (fun h56=> ?_) (fun h56=> ?_)
     ·have hj:(j:Int)<p.1.2.1:=by simpa using h56
      refine aq (ac (aK (ac (ab (kPm aa aa (kPa aa aa (ad (ac (cL Tryz.mixed (by kernel_rfl) (by kernel_rfl) ?_)))))))))
      refine kQv (ai isAgg264 aa aa) aa (kQv (ai isAgg90 aa aa) aa (kQv (aF (m:=_) j2 aa aa) aa (kQv (ai isAgg3 aa aa) aa (kQv (aN aa aa) aa (kQm aa aa (kQv (aN aa aa) aa (bC aa (ar call173 aa) (bF (q:=az) (fun Fr=>cf _ Fr _ _ _)) .free aa ?_)))))))
      refine bC aa (ky call181 aa aa) (p6 B _ b5 b3 b7 mb c hc (s.block c).1 _ hbk aa (s.starts c (s.block c).1).1 (s.load (p.1.2.2+1+(j:Int))) (hu.load _)) .free aa ?_
      refine kQv (bu aa) aa (bU (ao [67,55,54,12,9,2,8] rfl ?_))
      refine ba aa (fun h67=> ?_) (fun h67=> ?_)
      ·have hnall:¬ (df c (s.block c).1 (s.starts c (s.block c).1).1) (s.load (p.1.2.2+1+(j:Int)))=true:=by simpa using h67
       subst hrec
       refine ac (ab (kPs (aO sizeOf36 aa aa aa aa) aa (ad (bD ?_))))
       have hst:stC s (df c (s.block c).1 (s.starts c (s.block c).1).1) p x=(false,9):=by unfold stC;rw[if_neg (show ¬ rI s (df c (s.block c).1 (s.starts c (s.block c).1).1) p.1=true from fun hh=>hnall (List.all_eq_true.1 hh j (List.mem_range.2 (by omega))))]
       refine aU [5] ?_
       exact vB fun w hh=>⟨_,⟨by rw[hst],rfl⟩,by rw[hst];exact((hh.dp [5]).pk [0,4,4,4,4,4])⟩
      ·have hnm:(df c (s.block c).1 (s.starts c (s.block c).1).1) (s.load (p.1.2.2+1+(j:Int)))=true:=by simpa using h67
       refine aq (ab (kPv (aN aa aa) aa (kPm aa aa (ad ?_))))
       exact fun a w st_=>⟨j+1,⟨by first | omega | (simp only;omega),nE hall hnm⟩,by first | omega | (simp only;omega),st_.to (aC aa) (fun hh=>hh)⟩
     ·have hj:¬ (j:Int)<p.1.2.1:=by simpa using h56
      have hall2:rI s (df c (s.block c).1 (s.starts c (s.block c).1).1) p.1=true:=by unfold rI;rw[show p.1.2.1.toNat=j by omega];exact hall
      subst hrec
      refine bD ?_
      have hst:stC s (df c (s.block c).1 (s.starts c (s.block c).1).1) p x=(true,x):=by unfold stC;rw[if_pos hall2]
      refine aU [5] ?_
      exact jV fun w hh=>⟨_,⟨by rw[hst],rfl⟩,by rw[hst];exact((hh.dp [5]).pk [0,4,4,4,4,4])⟩
    rintro _ _ ⟨_,rfl⟩
    simp only[List.cons_append,List.nil_append]
    refine⟨_,_,fun w hh=>hh,jN (by simp[fB]),fun hp=> ?_,fun c' hc'=> ?_⟩
    rotate_left
    ·obtain⟨h1,rfl⟩:=jM rfl hc'
     refine bD (ac (ab (kPv (ai isAgg36 aa aa) aa (kPa aa aa (ad (aB ?_))))))
     exact fh results130 aa (.at 12 (.nil)) (fun w hh=>⟨by rw[hres]<;>rfl,(hh.dp [0,0,0,0,1,1,1,1,1,1,1,1,1])⟩)
    refine ac (ab (kPv (ai isAgg36 aa aa) aa (kPa aa aa (ad (aB ?_)))))
    exact fh results130 aa (.at 12 (.nil)) (fun w hh=>⟨by rw[hres]<;>rfl,(hh.dp [0,0,0,0,1,1,1,1,1,1,1,1,1])⟩)
def iv(x:Blk×Int)(b:Blk)(e:Int):Bool:=x.1.act==b.act&&x.1.used==b.used&&x.1.rts==b.rts&&x.2==e
theorem dU{x:Blk×Int}{b:Blk}{e:Int}(h:iv x b e=true):x=(b,e):=by
 obtain⟨⟨a1,a2,a3⟩,a4⟩:=x
 obtain⟨b1,b2,b3⟩:=b
 simp only[iv,Bool.and_eq_true,beq_iff_eq] at h
 obtain⟨⟨⟨rfl,rfl⟩,rfl⟩,rfl⟩:=h
 rfl
def wA(x:Int×Int)(a e:Int):Bool:=x.1==a&&x.2==e
theorem mN{x:Int×Int}{a e:Int}(h:wA x a e=true):x=(a,e):=by
 simp only[wA,Bool.and_eq_true,beq_iff_eq] at h
 exact Prod.ext h.1 h.2
def BJ(x:cX×Int)(o:cX)(e:Int):Bool:=x.1.1==o.1&&x.1.2.1==o.2.1&&x.1.2.2==o.2.2&&x.2==e
theorem Ab{x:cX×Int}{o:cX}{e:Int}(h:BJ x o e=true):x=(o,e):=by
 simp only[BJ,Bool.and_eq_true,beq_iff_eq] at h
 exact Prod.ext (Prod.ext h.1.1.1 (Prod.ext h.1.1.2 h.1.2)) h.2
theorem iu:bj ⟨3,1,48⟩:=⟨by decide,by decide,by decide,by decide,by decide,by decide⟩
theorem rW:(⟨3,1,48⟩:Cfg)=mkC 0 0 40:=rfl
abbrev c8:Cfg:=⟨3,1,8⟩
abbrev c48:Cfg:=⟨3,1,48⟩
theorem n48{N:Nat}(h:(N:Int)=c48.words):N=136:=by have:(N:Int)=136:=h.trans (by decide);omega
theorem tT(B:World)(Fr:List HP)(bd:Nat)(o:cX)(ho:kU o)(i v:Int)(hv:0≤v∧v<18446744073709551616)(s:Dev)(hl:s.pow.lim<0)(hu:U64 s):
 ∀ w_,Holds B (az bd s::Fr) w_→Calls Tryz.prog 88 [gC o,i64 i,w64 v,.func (.func 145) [ptr bd].toArray #[]].toArray w_ (Ret B (fun rv H'=>∃ x s',iw fW o i false v s ()= .ok (x,()) s'∧rv=i64 x∧s'.pow.lim<0∧s'.n=s.n∧U64 s'∧H'=az bd s'::Fr) (fun _ _=>False)):=fun w_ hh=>by
 obtain⟨y,s2,hg,_,hg2,hg3⟩:=sy (o:=o) (i:=i) (v:=v) (r:=false) hl
 refine(px B Fr _ [ptr bd] bd 0 Unit (fun _ _=>pr True) fW _ (tH B bd 0) o ho i v hv s () hu w_ ((hh.unpr (p:=True) trivial).back 1 (by simp))).mono fun en w' h=> ?_
 cases en with
 | returned rv=>
   obtain⟨H,⟨x,e',s',hm,rfl,hok,rfl⟩,hh⟩:=h
   obtain⟨rfl,rfl⟩:y=(x,e')∧s2=s':=by rw[hg] at hm;cases hm;exact⟨rfl,rfl⟩
   exact⟨_,⟨x,s2,hm,rfl,hg2,hg3,hok,rfl⟩,(hh.front 1 aa).tail⟩
 | panicked c=>
   obtain⟨H,⟨s',hm,_⟩,_⟩:=h
   rw[hg] at hm;cases hm
 | outgrown=>exact h
theorem AP(pa:Nat):okB ((iz pa [] 56).format c8) (fun _ s=>iv (s.block c8) ⟨0,0,[0]⟩ 0)=true:=by kernel_rfl
theorem AO(pa:Nat):okB ((iz pa [] 56).format c8) (fun _ s=>okB (cG fW c8 2 0 s ()) fun x s1=>wA x.1 40 0&&okB (cG fW c8 5 0 s1 ()) fun y _=>wA y.1 0 4)=true:=by kernel_rfl
theorem zr(pa:Nat):okB ((iz pa [] 136).format c48) (fun _ s=>okB (gE c48 [(1,2)] s []) fun out sF=>out==[40]&&iv (sF.block c48) ⟨0,3,[0]⟩ 0&&BJ (sF.objOf c48 ⟨0,3,[0]⟩ 40) (2,1,40) 0&&wA (sF.objRead (2,1,40) 0) 0 5&&okB (iw fW (2,1,40) 1 false 9 sF ()) fun a s2=>a.1==0&&wA (s2.objRead (2,1,40) 1) 9 0)=true:=by kernel_rfl
theorem zq(pa:Nat):okB ((iz pa [] 136).format c48) (fun _ s=>okB (gE c48 [(0,1)] s []) fun out sF=>out==[40]&&iv (sF.block c48) ⟨0,2,[0]⟩ 0&&okB (ei c48 ⟨0,2,[0]⟩ (de [] [40] 0) [40] 0 sF) fun n1 s1=>n1==some 0&&okB (fk c48 (de [] [40] 0) 1 0 0 s1) fun _ s2=>iv (s2.block c48) ⟨0,2,[0]⟩ 0&&(s2.starts c48 ⟨0,2,[0]⟩).1==[(40,(1,0,40))]&&(s2.starts c48 ⟨0,2,[0]⟩).2==0)=true:=by kernel_rfl
theorem zp(pa:Nat):okB ((iz pa [] 56).format c8) (fun _ s=>s.check c8==0&&okB (s.store 34 5) fun _ s1=>s1.check c8==9)=true:=by kernel_rfl
theorem xg(B:World)(Fr:List HP):
 ∀ w,Holds B Fr w→Calls Tryz.prog 239 [].toArray w (aZ B Fr (.bool true)):=by
 refine ap func239 aa ntmps239 aa (ac (ab (kPa aa aa (ad (ac (ac (ab (ax aa (ar call240 aa) (xh _ _) .free aa aa ?_))))))))
 refine kPv (bu aa) aa (ad (bE aa (rfl) (aq (ac (ab (kPv (aP aa (da _ _ _ aa aa aa)) aa (kPb (aE zeroValue134 aa) aa fun b1=>(kPs (ay (vs:=_) sizeOf134 aa aa aa aa aa) aa (ad (ac (ab ?_)))))))))))
 refine kPv (ah isAgg134 sizeOf134 aa aa) aa ?_
 refine aI aa (ar call74 aa) (dO _ _ ⟨3,1,8⟩ fQ none 0 [] (by decide) (fun _ h=>absurd h (Nat.not_lt_zero _)) SlR.nil) .free aa aa ?_
 rintro _ _ ⟨bd,pa,N,s0,hN,hf,rfl,rfl⟩
 obtain rfl:N=56:=by have:(N:Int)=56:=hN.trans (by decide);omega
 have hfm:=og fQ hN hf
 have hu0:=gX (j5 pa 56) fQ hf
 refine kPm aa aa (kPv (aA aa aa) aa (kPv (aA aa aa) aa (kPa aa aa (kPa aa aa (ad (ao [3,2,1,0] rfl (ac (ac (ab (kPm aa aa (kPv (bu aa) aa ?_)))))))))))
 refine ad (bE aa (rfl) (aq (ac (ab (kPm aa aa (kPv (ah isAgg134 sizeOf134 aa aa) aa ?_))))))
 refine aI aa (ar call117 aa) (fI _ _ _ _ ⟨3,1,8⟩ fQ hu0) .free aa aa ?_
 rintro _ _ ⟨sv,hsv,rfl,rfl⟩
 rw[dU (bR (AP pa) hf)]
 refine cx fun qv cv hqv hqi=> ?_
 subst hqv
 refine kPm aa aa (kPv (aA aa aa) aa (kPv (aA aa aa) aa (kPb (aE zeroValue151 aa) aa fun b4=> ?_)))
 refine kPs (ay (vs:=_) sizeOf151 aa aa aa (by first | rfl | exact eC (by assumption)) rfl) rfl ?_;refine kPa aa aa ?_;refine ad ?_;refine ao [5,4,1,0] rfl ?_;refine ac ?_;refine ab ?_;refine kPm aa aa ?_;refine kPv (am aa aa aa) aa ?_;refine kPm aa aa ?_
 refine aj aa (aF (m:=_) hJ aa aa) (.on aa aa (ae aa)) aa aa (aj aa (ai isAgg3 aa aa) (.on aa aa (ae aa)) aa aa (aj aa (am aa aa aa) (.on aa aa (ae aa)) aa aa (kPv (au aa aa aa) aa (kPm aa aa (aj aa (aF (m:=_) dz aa aa) (.on aa aa (ae aa)) aa aa (aj aa (ai isAgg3 aa aa) (.on aa aa (ae aa)) aa aa (aj aa (am aa aa aa) (.on aa aa (ae aa)) aa aa (kPv (au aa aa aa) aa (kPm aa aa (aj aa (aF (m:=_) eP aa aa) (.on aa aa (ae aa)) aa aa (aj aa (ai isAgg30 aa aa) (.on aa aa (ae aa)) aa aa ?_)))))))))))
 refine aj aa (bH aa runUnderlying30 ⟨_,rfl⟩ rfl) (.on aa aa (ae aa)) aa aa (aj aa (am aa aa aa) (.on aa aa (ae aa)) aa aa (kPv (au aa aa aa) aa (kPm aa aa (aj aa (ah isAgg151 sizeOf151 aa aa) (.on aa aa (ae aa)) aa aa ?_))))
 refine aj aa (ah isAgg134 sizeOf134 aa aa) (.on aa aa (ae aa)) aa aa ?_
 refine ax aa (ar call137 aa) (gQ _ _ ⟨3,1,8⟩ fQ ⟨0,0,[0]⟩ _ ⟨⟨by decide,by decide⟩,⟨by decide,by decide⟩⟩ hsv 3 (by decide)) (.on aa aa (ae aa)) aa aa ?_
 refine aj aa (am aa aa aa) (.on aa aa (ae aa)) aa aa (kPv (au aa aa aa) aa (kPa aa aa (ad (ao [0] rfl (aB ?_)))))
 exact aw results239 aa (fun w hh=>⟨rfl,(hh.dp [0,0,0,0])⟩)
theorem xf(B:World)(Fr:List HP):
 ∀ w,Holds B Fr w→Calls Tryz.prog 236 [].toArray w (aZ B Fr (.bool true)):=by
 refine ap func236 aa ntmps236 aa (ac (ab (kPa aa aa (ad (ac (ac (ab (ax aa (ar call239 aa) (xg _ _) .free aa aa ?_))))))))
 refine kPv (bu aa) aa (ad (bE aa (rfl) (aq (ac (ab (kPv (aP aa (da _ _ _ aa aa aa)) aa (kPb (aE zeroValue134 aa) aa fun b1=>(kPs (ay (vs:=_) sizeOf134 aa aa aa aa aa) aa (ad (ac (ab ?_)))))))))))
 refine kPv (ah isAgg134 sizeOf134 aa aa) aa ?_
 refine aI aa (ar call74 aa) (dO _ _ ⟨3,1,8⟩ fQ none 0 [] (by decide) (fun _ h=>absurd h (Nat.not_lt_zero _)) SlR.nil) .free aa aa ?_
 rintro _ _ ⟨bd,pa,N,s0,hN,hf,rfl,rfl⟩
 obtain rfl:N=56:=by have:(N:Int)=56:=hN.trans (by decide);omega
 have hfm:=og fQ hN hf
 have hu0:=gX (j5 pa 56) fQ hf
 refine kPm aa aa (kPv (aA aa aa) aa (kPv (aA aa aa) aa (kPa aa aa (kPa aa aa (ad (ao [3,2,1,0] rfl (ac (ac (ab (kPm aa aa (kPv (bu aa) aa ?_)))))))))))
 refine ad (bE aa (rfl) (aq (ac (ab (kPm aa aa (kPv (ah isAgg134 sizeOf134 aa aa) aa ?_))))))
 refine kPv (aP aa (p8 _ aa)) aa (kPm aa aa (kPv (dt aa aa) aa (aI aa (ar call85 aa) (l7 _ _ bd ⟨3,1,8⟩ fQ 2 0 s0 hfm.lim hu0) .free aa aa ?_)))
 rintro _ _ ⟨x1,s1,hm1,rfl,hl1,hn1,hu1,rfl⟩
 have hev:=bR (bR (AO pa) hf) hm1
 simp only[Bool.and_eq_true] at hev
 rw[mN hev.1]
 refine kPm aa aa (kPv (aA aa aa) aa (kPv (aA aa aa) aa (kPa aa aa (kPa aa aa (ad (ao [5,4,2,1,0] rfl (ac (ab (kPm aa aa (kPv (ah isAgg134 sizeOf134 aa aa) aa ?_))))))))))
 refine kPv (aP aa (p8 _ aa)) aa (kPm aa aa (kPv (dt aa aa) aa (aI aa (ar call85 aa) (l7 _ _ bd ⟨3,1,8⟩ fQ 5 0 s1 hl1 hu1) .free aa aa ?_)))
 rintro _ _ ⟨x2,s2,hm2,rfl,hl2,hn2,hu2,rfl⟩
 rw[show x2=((0:Int),(4:Int)) from mN (bR hev.2 hm2)]
 refine kPm aa aa (kPv (aA aa aa) aa (kPv (aA aa aa) aa (kPa aa aa (kPa aa aa (ad (ao [7,5,4,1,0] rfl (ac (ab (kPm aa aa (kPv (ah isAgg134 sizeOf134 aa aa) aa ?_))))))))))
 refine ax aa (ar call119 aa) (jk _ _ ⟨3,1,8⟩ fQ 0 (by decide) (by decide)) .free aa aa ?_
 refine kPv (am aa aa aa) aa (kPm aa aa (aj aa (ak aa) (.on aa aa (ae aa)) aa aa (aj aa (am aa aa aa) (.on aa aa (ae aa)) aa aa (kPv (au aa aa aa) aa (kPm aa aa (aj aa (ak aa) (.on aa aa (ae aa)) aa aa (aj aa (am aa aa aa) (.on aa aa (ae aa)) aa aa (kPv (au aa aa aa) aa (kPa aa aa (ad (ao [0] rfl ?_)))))))))))
 refine aB ?_
 exact aw results236 aa (fun w hh=>⟨rfl,(hh.dp [0,0])⟩)
abbrev Da(h:Int×Int):List Value:=[u8 h.1,u8 h.2]
theorem oB:me 2 Da:=⟨fun _=>rfl,fun _=>rfl⟩
theorem hh1{a b:Int}(h1:0≤a∧a<256)(h2:0≤b∧b<256):∀ h∈[(a,b)],(0≤h.1∧h.1<256)∧(0≤h.2∧h.2<256):=fun h hm=>by rw[List.mem_singleton.1 hm];exact⟨h1,h2⟩
theorem Bu{B:World}{H:List HP}{b:Nat}{x y:Value}{T1:TypeId}{U:List Value→List HP}[fC H b [x,y] T1 U]{cap:Nat}:SlN B H (.slice (some ⟨b,0,none⟩) 1 cap) 2 [[x,y]]:=
 SlN.row (cs:=[[x,y]]) fun i c h=>by
  cases i with
  | zero=>cases h;exact⟨rfl,fun j _=>by rw[Nat.zero_mul,Nat.zero_add,Nat.zero_add]⟩
  | succ i=>cases h
theorem uH(B:World)(Fr:List HP):
 ∀ w,Holds B Fr w→Calls Tryz.prog 229 [].toArray w (aZ B Fr (.bool true)):=by
 refine ap func229 aa ntmps229 aa (ac (ab (kPa aa aa (ad (ac (ac (ab (ax aa (ar call236 aa) (xf _ _) .free aa aa ?_))))))))
 refine kPv (bu aa) aa (ad (bE aa (rfl) (aq (ac (ab (kPv (aP aa (iS _ aa)) aa (kPv (aP aa (tq _ _ aa aa)) aa (kPb (oJ oB (v:=(1,2)) runUnderlying190 sizeOf189 zeroValue189 ⟨⟨by decide,by decide⟩,rfl⟩ rfl aa) aa fun b17=>(aI aa (ar call168 aa) (pU _ _ 0 0 40 ⟨by decide,by decide,by decide⟩ ⟨3,1,48⟩ rW [(1,2)] (hh1 ⟨by decide,by decide⟩ ⟨by decide,by decide⟩) (by decide) (some ⟨b17,0,none⟩) 1 Bu) .free aa aa ?_)))))))))
 rintro _ _ ⟨bd,pa,N,s0,sF,out,ov,sv,hfm,hN,⟨hus0,hf⟩,hfill,huF,hlF,hnF,hov,hsv,rfl,rfl⟩
 obtain rfl:=n48 hN
 have hev:=bR (bR (zr pa) hf) hfill
 simp only[Bool.and_eq_true,beq_iff_eq] at hev
 obtain⟨⟨⟨⟨rfl,e1⟩,e2⟩,e3⟩,e4⟩:=hev
 rw[dU e1]
 refine aU [2] (cx fun qo co hqo hqi=> ?_)
 subst hqo
 obtain⟨bO,oO,rfl⟩:=hqi 0 (by decide)
 have ho:kU (2,1,40):=⟨⟨by decide,by decide⟩,⟨by decide,by decide⟩,⟨by decide,by decide⟩⟩
 refine kPm aa aa (kPv (aA aa aa) aa (kPv (aA aa aa) aa (kPv (aA aa aa) aa (kPv (aA aa aa) aa (kPb (aE zeroValue134 aa) aa fun b2=>(kPb (aE zeroValue151 aa) aa fun b3=>(kPa aa aa (kPs (ay (vs:=_) sizeOf134 aa aa aa aa aa) aa ?_))))))))
 refine kPs (ay (vs:=_) sizeOf151 aa aa aa (by first | rfl | exact eC (by assumption)) rfl) rfl ?_;refine kPa aa aa ?_;refine ad ?_;refine ao [4,1,3,2,0] rfl ?_;refine ac ?_;refine ac ?_;refine ab ?_;refine kPm aa aa ?_;refine kPv (du runUnderlying90 aa aa aa) aa ?_;refine kPm aa aa ?_;refine aj aa (ak aa) (.on aa aa (ae aa)) aa aa ?_
 refine aj aa (bH aa runUnderlying166 ⟨_,rfl⟩ rfl) (.on aa aa (ae aa)) aa aa (aj aa (am aa aa aa) (.on aa aa (ae aa)) aa aa (kPv (aD aa aa aa) aa (ad (bE aa (rfl) (aq (ac (aM (H':=dC 3 i64 0 (.slice (some ⟨bO,oO,none⟩) 1 co,[40])::row b3 [i64 0,i64 3,sv] 151::row b2 [i64 3,i64 1,i64 48] 134::cN 0 (sv,[0])::az bd sF::Fr) (fun w hh=>by have h:=((hh.dp [5]).pk [2]);exact h) ?_)))))))
 refine ku (.br [0,1,2,3,4,5] 6 (.fin [7,8,9,10,11,12]) 10 (.fin [6,7,8,9,11,12])) [6,10,11] [0,1,2,3,4,5,7,8,9] [10,11] [row b2 [i64 3,i64 1,i64 48] 134,row b3 [i64 0,i64 3,sv] 151,dC 3 i64 0 (.slice (some ⟨bO,oO,none⟩) 1 co,[40])] [1,0] (G:=Nat) (fun b5=>[(5,ptr b5),(6,i64 (sF.objOf ⟨3,1,48⟩ ⟨0,3,[0]⟩ 40).2)]) (fun b5=>row b5 [i64 (sF.objOf ⟨3,1,48⟩ ⟨0,3,[0]⟩ 40).1.1,i64 (sF.objOf ⟨3,1,48⟩ ⟨0,3,[0]⟩ 40).1.2.1,i64 (sF.objOf ⟨3,1,48⟩ ⟨0,3,[0]⟩ 40).1.2.2] 160::dC 3 i64 0 (.slice (some ⟨bO,oO,none⟩) 1 co,[40])::row b3 [i64 0,i64 3,sv] 151::row b2 [i64 3,i64 1,i64 48] 134::cN 0 (sv,[0])::az bd sF::Fr) Tryz.mixed (by kernel_rfl) ?_ ?_
 ·skip
  refine wm (an aa aa aa (ak aa) .free aa (an aa aa aa (ah isAgg134 sizeOf134 aa aa) .free aa ?_))
  refine an aa aa aa (ah isAgg151 sizeOf151 aa aa) .free aa ?_
  refine an aa aa aa (ak aa) .free aa (an aa aa aa (cA runUnderlying166 sizeOf3 aa aa (by decide) (by decide)) .free aa (an aa aa aa (cj (v:=i64 40) isAgg3 (cH 2 aa) aa aa) .free aa (cC ?_)))
  refine po aa aa ?_ ?_
  ·skip
   refine ax aa (ar call147 aa) (bF (q:=az) (fun Fr=>jJ _ Fr _ _ ⟨3,1,48⟩ iu ⟨0,3,[0]⟩ sv ⟨⟨by decide,by decide⟩,⟨by decide,by decide⟩⟩ hsv 40 (by decide))) .free aa aa ?_
   refine ad (rq aa (jw (an aa aa aa (ak aa) .free aa (an aa aa aa (aA aa aa) .free aa (an aa aa aa (aA aa aa) .free aa (aR aa aa (kPb (aE zeroValue160 aa) aa fun b5=>(ad (cK (aR aa aa (kPs (ay (vs:=_) sizeOf160 aa aa aa aa aa) aa ?_)))))))))))
   refine ad (cK (aV aa aa aa (bA aa) .free aa (cC ?_)))
   exact fun a w st_=>⟨b5,st_.to (aC aa) (fun hh=>hh)⟩
  ·skip
   refine kPb (aE zeroValue160 aa) aa fun b5=>(ad (tF (jw (aR aa aa (ax aa (ar call147 aa) (bF (q:=az) (fun Fr=>jJ _ Fr _ _ ⟨3,1,48⟩ iu ⟨0,3,[0]⟩ sv ⟨⟨by decide,by decide⟩,⟨by decide,by decide⟩⟩ hsv 40 (by decide))) .free aa aa ?_)))))
   refine ad (cU aa (an aa aa aa (ak aa) .free aa (an aa aa aa (aA aa aa) .free aa (an aa aa aa (aA aa aa) .free aa (aR aa aa (kPs (ay (vs:=_) sizeOf160 aa aa aa aa aa) aa (ad (cK (aV aa aa aa (bA aa) .free aa (cC ?_))))))))))
   exact fun a w st_=>⟨b5,st_.to (aC aa) (fun hh=>hh)⟩
 intro b5
 refine cB (σ':=[(5,ptr b5),(6,i64 (sF.objOf ⟨3,1,48⟩ ⟨0,3,[0]⟩ 40).2),(1,_),(0,_)]) (aC aa) (ac ?_)
 rw[show sF.objOf ⟨3,1,48⟩ ⟨0,3,[0]⟩ 40=(((2:Int),(1:Int),(40:Int)),(0:Int)) from Ab e2]
 refine ab (kPv (ah isAgg160 sizeOf160 aa aa) aa ?_)
 refine kPm aa aa (ax aa (ar call237 aa) (bF (q:=az) (fun Fr=>rN _ Fr _ _ (2,1,40) ho 0)) .free aa aa ?_)
 refine kPm aa aa (kPv (aA aa aa) aa (kPv (aA aa aa) aa (kPa aa aa (kPa aa aa (ad (ao [8,5,6,1,0] rfl (ac (ab (kPv (ah isAgg160 sizeOf160 aa aa) aa ?_)))))))))
 refine kPm aa aa (kPv (dt aa aa) aa (aU [5] (aI aa (ar call88 aa) (tT B _ bd (2,1,40) ho 1 9 (by decide) sF hlF huF) .free aa aa ?_)))
 rintro _ _ ⟨x2,s2,hm2,rfl,hl2,hn2,hu2,rfl⟩
 have hev2:=bR e4 hm2
 simp only[Bool.and_eq_true,beq_iff_eq] at hev2
 obtain⟨f1,f2⟩:=hev2
 obtain rfl:x2=0:=f1
 refine kPa aa aa (ad (ac (ab (kPv (ah isAgg160 sizeOf160 aa aa) aa ?_))))
 refine kPm aa aa (ax aa (ar call237 aa) (bF (q:=az) (fun Fr=>rN _ Fr _ _ (2,1,40) ho 1)) .free aa aa ?_)
 refine kPm aa aa (kPv (aA aa aa) aa (kPv (aA aa aa) aa (kPa aa aa (kPa aa aa (ad (ao [11,10,9,8,5,6,1,0] rfl (ac ?_)))))))
 rw[show sF.objRead (2,1,40) 0=((0:Int),(5:Int)) from mN e3,show s2.objRead (2,1,40) 1=((9:Int),(0:Int)) from mN f2]
 refine ab (kPm aa aa (kPv (am aa aa aa) aa (kPm aa aa (aj aa (ak aa) (.on aa aa (ae aa)) aa aa (aj aa (am aa aa aa) (.on aa aa (ae aa)) aa aa (kPv (au aa aa aa) aa (kPm aa aa (aj aa (ak aa) (.on aa aa (ae aa)) aa aa (aj aa (am aa aa aa) (.on aa aa (ae aa)) aa aa (kPv (au aa aa aa) aa (kPm aa aa ?_)))))))))))
 refine aj aa (ak aa) (.on aa aa (ae aa)) aa aa (aj aa (am aa aa aa) (.on aa aa (ae aa)) aa aa (kPv (au aa aa aa) aa (kPm aa aa (aj aa (ak aa) (.on aa aa (ae aa)) aa aa (aj aa (am aa aa aa) (.on aa aa (ae aa)) aa aa (kPv (au aa aa aa) aa (kPm aa aa (aj aa (ah isAgg160 sizeOf160 aa aa) (.on aa aa (ae aa)) aa aa ?_))))))))
 refine aj aa (ak aa) (.on aa aa (ae aa)) aa aa (aI aa (ar call196 aa) (py _ _ (2,1,40) bd) (.on aa aa (ae aa)) aa aa ?_)
 rintro _ _ ⟨n1,n2,rfl,rfl⟩
 refine aj aa (mU runUnderlying282 ⟨_,_,_,rfl⟩ rfl aa aa) (.on aa aa (ae aa)) aa aa (kPv (au aa aa aa) aa (kPa aa aa (ad (ao [0] rfl (aB ?_)))))
 exact aw results229 aa (fun w hh=>⟨rfl,(hh.dp [0,0,0,0,0,0,0,0])⟩)
theorem uG(B:World)(Fr:List HP):
 ∀ w,Holds B Fr w→Calls Tryz.prog 216 [].toArray w (aZ B Fr (.bool true)):=by
 refine ap func216 aa ntmps216 aa (ac (ab (kPa aa aa (ad (ac (ac (ab (ax aa (ar call229 aa) (uH _ _) .free aa aa ?_))))))))
 refine kPv (bu aa) aa (ad (bE aa (rfl) (aq (ac (ab (kPv (aP aa (iS _ aa)) aa (kPv (aP aa (gN _ aa)) aa (kPb (oJ oB (v:=(0,1)) runUnderlying190 sizeOf189 zeroValue189 ⟨⟨by decide,by decide⟩,rfl⟩ rfl aa) aa fun b12=>(aI aa (ar call114 aa) (ko _ _ 0 0 40 ⟨by decide,by decide,by decide⟩ ⟨3,1,48⟩ rW [(0,1)] (hh1 ⟨by decide,by decide⟩ ⟨by decide,by decide⟩) (by decide) (some ⟨b12,0,none⟩) _ Bu none 0 [] SlR.nil (fun _ h=>(by cases h)) (by decide) (fun _ h=>absurd h (Nat.not_lt_zero _)) 0 (by decide)) .free aa aa ?_)))))))))
 rintro _ _ ⟨bd,pa,N,s0,sF,out,hfm,hN,⟨hus0,hf⟩,hfill,hor⟩
 obtain rfl:=n48 hN
 have hev:=bR (bR (zq pa) hf) hfill
 simp only[Bool.and_eq_true,beq_iff_eq] at hev
 obtain⟨⟨rfl,e1⟩,e2⟩:=hev
 rw[dU e1] at hor
 rcases hor with ⟨n1,n2,s1,s2,ov,sv,hl1,hl2,hu2,hlm2,hn2,hov,hsv,rfl,rfl⟩ | ⟨s1,hl1,_⟩
 rotate_left
 ·have e3:=bR e2 hl1
  simp only[Bool.and_eq_true,beq_iff_eq] at e3
  exact absurd e3.1 (by simp)
 have e3:=bR e2 hl1
 simp only[Bool.and_eq_true,beq_iff_eq] at e3
 obtain⟨e4,e5⟩:=e3
 obtain rfl:n1=0:=by injection e4
 have e6:=bR e5 hl2
 simp only[Bool.and_eq_true,beq_iff_eq] at e6
 obtain⟨⟨e7,e8⟩,e9⟩:=e6
 rw[dU e7]
 refine aU [2] (cx fun qo co hqo hqi=> ?_)
 subst hqo
 obtain⟨bO,oO,rfl⟩:=hqi 0 (by decide)
 refine kPm aa aa (kPv (aA aa aa) aa (kPv (aA aa aa) aa (kPv (aA aa aa) aa (kPv (aA aa aa) aa (kPb (aE zeroValue134 aa) aa fun b2=>(kPb (aE zeroValue151 aa) aa fun b3=>(kPa aa aa (kPs (ay (vs:=_) sizeOf134 aa aa aa aa aa) aa ?_))))))))
 refine kPs (ay (vs:=_) sizeOf151 aa aa aa (by first | rfl | exact eC (by assumption)) rfl) rfl ?_;refine kPa aa aa ?_;refine ad ?_;refine ao [4,1,3,2,0] rfl ?_;refine ac ?_;refine ac ?_;refine ab ?_;refine kPm aa aa ?_;refine kPv (du runUnderlying90 aa aa aa) aa ?_;refine kPm aa aa ?_;refine aj aa (ak aa) (.on aa aa (ae aa)) aa aa ?_
 refine aj aa (ah isAgg134 sizeOf134 aa aa) (.on aa aa (ae aa)) aa aa ?_
 refine aj aa (ah isAgg151 sizeOf151 aa aa) (.on aa aa (ae aa)) aa aa ?_
 refine aI aa (ar call183 aa) (ne _ _ bd ⟨3,1,48⟩ ⟨0,2,[0]⟩ sv hsv) (.on aa aa (ae aa)) aa aa ?_
 rintro _ _ ⟨c3,c4,c5,rfl,rfl⟩
 refine aj aa (mU runUnderlying266 ⟨_,_,_,rfl⟩ rfl aa aa) (.on aa aa (ae aa)) aa aa (kPv (aD aa aa aa) aa (ad (ao [26,4,1,3,2,0] rfl (bE aa (rfl) (aq (ac (ab (kPm aa aa (kPv (ah isAgg134 sizeOf134 aa aa) aa ?_)))))))))
 refine kPv (ah isAgg151 sizeOf151 aa aa) aa ?_
 refine aU [7] (aI aa (ar call180 aa) (m7 _ _ bd s2 ⟨3,1,48⟩ iu ⟨0,2,[0]⟩ sv ⟨⟨by decide,by decide⟩,⟨by decide,by decide⟩⟩ hsv) .free aa aa ?_)
 rintro _ _ ⟨mb,rfl,rfl⟩
 rw[e8,e9]
 refine kPm aa aa (kPv (aA aa aa) aa (kPv (aA aa aa) aa (kPa aa aa (kPa aa aa (ad (ao [6,5,4,0] rfl (ac (ab (kPm aa aa (kPv (am aa aa aa) aa (kPm aa aa ?_)))))))))))
 refine aj aa (ak aa) (.on aa aa (ae aa)) aa aa (aj aa (vM aa runUnderlying259 aa) (.on aa aa (ae aa)) aa aa (aj aa (am aa aa aa) (.on aa aa (ae aa)) aa aa (kPv (au aa aa aa) aa (kPm aa aa (aj aa (ak aa) (.on aa aa (ae aa)) aa aa (aj aa (bH aa runUnderlying166 ⟨_,rfl⟩ rfl) (.on aa aa (ae aa)) aa aa (aj aa (am aa aa aa) (.on aa aa (ae aa)) aa aa (kPv (au aa aa aa) aa (kPm aa aa (aj aa (ak aa) (.on aa aa (ae aa)) aa aa (aj aa (ak aa) (.on aa aa (ae aa)) aa aa ?_)))))))))))
 refine aj aa (cA runUnderlying166 sizeOf3 aa aa (by decide) (by decide)) (.on aa aa (ae aa)) aa aa (aj aa (cj (v:=i64 40) isAgg3 (cH 7 aa) aa aa) (.on aa aa (ae aa)) aa aa (aj aa ((kN runUnderlying259 runUnderlying3 zeroValue160 aa aa).eq (yi _)) (.on aa aa (ae aa)) aa aa (aj aa (w9 runUnderlying160 (t:=102) (off:=0) aa isAgg102 sizeOf102 aa) (.on aa aa (ae aa)) aa aa (aj aa (gM runUnderlying102 (t:=3) (off:=0) aa isAgg3 aa aa) (.on aa aa (ae aa)) aa aa (aj aa (am aa aa aa) (.on aa aa (ae aa)) aa aa (kPv (au aa aa aa) aa (kPa aa aa (ad (ao [0] rfl (aB ?_))))))))))
 exact aw results216 aa (fun w hh=>⟨rfl,(hh.dp [0,0,0,0,0,0,0,0,0,0])⟩)
end Go.Proofs.YtoakdoeajpjgkaaGreatDoor
