/- Part of a law's texts. Conditions: none. -/
import Derived.Test.YtoakdoeajpjgkaaGreatDoorQL18Jm
import Derived.LaidEql
open Go.Proofs.Tryz
set_option linter.all false
namespace Go.Proofs.YtoakdoeajpjgkaaGreatDoor
open Go
theorem vf{s:Dev}(h:s.pow.lim<0):s.pow.out=false:=by unfold Pow.out;simp;omega
theorem sU{s:Dev}(h:s.pow.lim<0)(i v:Int):∃ a s',s.store i v= .ok a s'∧s'.pow.lim<0:=by
 unfold Dev.store
 split
 ·exact⟨_,_,rfl,h⟩
 ·rw[if_neg (by rw[vf h];decide)];exact⟨_,_,rfl,h⟩
theorem uf{s:Dev}(h:s.pow.lim<0)(i:Int):∃ a s',s.flush i= .ok a s'∧s'.pow.lim<0:=by
 unfold Dev.flush
 split
 ·exact⟨_,_,rfl,h⟩
 ·rw[if_neg (by rw[vf h];decide)];exact⟨_,_,rfl,h⟩
theorem uh{s:Dev}(h:s.pow.lim<0):∃ s',s.fence= .ok () s'∧s'.pow.lim<0:=by
 unfold Dev.fence
 rw[if_neg (by rw[vf h];decide)];exact⟨_,rfl,h⟩
theorem wp{c:Cfg}:∀ (k:Nat) (s:Dev),s.pow.lim<0→∃ s',kX jP c k s= .ok () s'∧s'.pow.lim<0
 | 0,s,h=>⟨s,rfl,h⟩
 | k+1,s,h=>by
   unfold kX jP
   obtain⟨a,s1,e1,h1⟩:=sU h (IntKind.i64.wrap (s.load (c.record k+1))) (s.load (c.record k+2))
   obtain⟨a2,s2,e2,h2⟩:=uf h1 (IntKind.i64.wrap (s.load (c.record k+1)))
   rw[e1]
   simp only[aR]
   rw[e2]
   simp only[aR]
   exact wp k s2 h2
theorem sM{L:bM}{s:Dev}(h:s.pow.lim<0):∃ L' s',L.truncate s= .ok L' s'∧s'.pow.lim<0:=by
 unfold bM.truncate
 split
 ·exact⟨_,_,rfl,h⟩
 ·obtain⟨a,s1,e1,h1⟩:=sU h 8 ((L.epoch+1)%4294967296)
  obtain⟨a2,s2,e2,h2⟩:=uf h1 8
  obtain⟨s3,e3,h3⟩:=uh h2
  rw[e1];simp only[aR];rw[e2];simp only[aR];rw[e3]
  exact⟨_,_,rfl,h3⟩
theorem A9{L:bM}{s:Dev}(h:s.pow.lim<0):∃ L' s',L.undo s= .ok L' s'∧s'.pow.lim<0:=by
 unfold bM.undo
 obtain⟨s1,e1,h1⟩:=wp (c:=L.c) L.n.toNat s h
 rw[e1]
 simp only[aR]
 split
 ·obtain⟨s2,e2,h2⟩:=uh h1
  rw[e2];exact sM h2
 ·exact sM h1
def cpD(s:Dev)(pa:Nat):Dev:=⟨pa,⟨-1,0⟩,s.n,fun i=>(tab s.n s.now).getD i 0,fun i=>(tab s.n s.now).getD i 0,fun _=>none⟩
theorem CM{s:Dev}(hu:U64 s)(pa:Nat):U64 (cpD s pa):=fun i=>by
 show 0≤(tab s.n s.now).getD i 0∧(tab s.n s.now).getD i 0<_
 by_cases hi:i<s.n
 ·have e:tab s.n s.now=(List.range s.n).map s.now:=rfl
  rw[e,List.getD_eq_getElem?_getD]
  simp[hi];exact hu i
 ·rw[List.getD_eq_getElem?_getD,List.getElem?_eq_none (by rw[aW];omega)];decide
theorem SlR.tb{B:World}{H:List HP}{n b cap:Nat}{f:Nat→Value}{rest:List Value}{T:TypeId}{U:List Value→List HP}[eX H b (tab n f++rest) T U]:SlR B H (.slice (some ⟨b,0,none⟩) n cap) (tab n f):=
 SlR.row (cs:=Proofs.YtoakdoeajpjgkaaGreatDoor.tab n f++rest) (T:=T) (U:=U) (by rw[List.drop_zero,List.take_append_of_le_length (by rw[aW];omega),List.take_of_length_le (by rw[aW];omega)]) (by rw[aW])
theorem Bp{s:Dev}(h:s.readC.2=0):bA s.readC.1∧(s.n:Int)=s.readC.1.words:=by
 unfold Dev.readC at h ⊢
 split at h
 ·cases h
 split at h
 ·cases h
 split at h
 ·cases h
 ·rename_i h1 h2 h3
  rw[if_neg h1,if_neg h2,if_neg h3]
  simp only
  constructor
  ·exact Classical.byContradiction fun h4=>h3 (.inl h4)
  ·exact Classical.byContradiction fun h4=>h3 (.inr h4)
def tE(bd:Nat)(s:Dev)(e:Int):Prop:=
 (s.readC.2≠0∧e=s.readC.2)∨(s.readC.2=0∧0≤jS s s.readC.1 (bT bd s.readC.1 s).n.toNat 0∧e=9)∨
 (s.readC.2=0∧jS s s.readC.1 (bT bd s.readC.1 s).n.toNat 0<0∧∃ bc pa L1 t1,(bT bc s.readC.1 (cpD s pa)).undo (cpD s pa)= .ok L1 t1∧e=t1.check s.readC.1)
def iM(bd:Nat)(c:Cfg)(s:Dev):HpS:=⟨bd,c,⟨bT bd c s,0,0,[],[]⟩,false,⟨[],[],0⟩,none⟩
theorem xZ(B:World)(Fr:List HP)(bd:Nat)(s:Dev)(hu:U64 s)(hn:s.n≤100000):
 ∀ w,Holds B (aB bd s::Fr) w→Calls Tryz.prog 75 [ptr bd].toArray w (Ret B (fun rv H'=>(∃ e,e≠0∧tE bd s e∧rv= .tuple #[.pointer none,i64 e]∧H'=aB bd s::Fr)∨(∃ bh L' s',tE bd s 0∧(bT bd s.readC.1 s).undo s= .ok L' s'∧rv= .tuple #[ptr bh,i64 0]∧H'=dH bh (iM bd s.readC.1 s')::aB bd s'::Fr)) (fun ch H'=>∃ s',tE bd s 0∧(bT bd s.readC.1 s).undo s= .off s'∧ch=dV∧H'=aB bd s'::Fr)):=by
 refine an func75 aa ntmps75 aa (k9 bd fun hn1 hn2 hn3=>(ac (ab (kPa aa aa (kPa aa aa (ad (ac (ab (kPm aa aa (aw aa (au call123 aa) (bI (q:=aB) (fun Fr=>ry _ Fr bd s)) .free aa aa ?_))))))))))
 refine kPm aa aa (kPv (aA aa aa) aa (kPv (aA aa aa) aa (kPb (aC zeroValue134 aa) aa fun b4=>(kPs (ax (vs:=_) sizeOf134 aa aa aa aa aa) aa (kPa aa aa (ad (ac (ac (ab (kPm aa aa (kPv (ao aa aa aa) aa ?_)))))))))))
 refine ad ?_
 refine a8 aa (fun h15=> ?_) (fun h15=> ?_)
 ·have hc0:s.readC.2≠0:=by simpa using h15
  refine ac (ab (kPm aa aa (kPa aa aa (kPa aa aa (ad (am [3,2,4,0] rfl (az ?_)))))))
  exact ce results75 aa aa (fun w hw=>⟨_,.inl ⟨_,hc0,.inl ⟨hc0,rfl⟩,rfl,rfl⟩,(hw.dp [0])⟩)
 ·have hc0:s.readC.2=0:=by simpa using h15
  have hc:=(Bp hc0).1
  have hLw:dK (bT bd s.readC.1 s):=iB hc
  refine ar (ac (ab (kPm aa aa (kPv (ag isAgg134 sizeOf134 aa aa) aa ?_))))
  refine aP [1] (aH aa (au call124 aa) (j8 B _ bd s s.readC.1 hc) .free aa aa ?_)
  rintro _ _ ⟨bl,rfl,rfl⟩
  refine kPa aa aa (ad (am [6,4,3,2,0] rfl (ac (ac (ab (kPm aa aa (aw aa (au call125 aa) (zD B _ bl (bT bd s.readC.1 s) s hLw) .free aa aa ?_)))))))
  refine kPv (ao aa aa aa) aa (ad ?_)
  refine a8 aa (fun h22=> ?_) (fun h22=> ?_)
  ·have hg:0≤jS s s.readC.1 (bT bd s.readC.1 s).n.toNat 0:=by
    have h9:0≤jS s (bT bd s.readC.1 s).c (bT bd s.readC.1 s).n.toNat 0:=by simpa using h22
    exact h9
   refine ac (ab (kPa aa aa (kPa aa aa (ad (az ?_)))))
   exact ce results75 aa aa (fun w hw=>⟨_,.inl ⟨9,by decide,.inr (.inl ⟨hc0,hg,rfl⟩),rfl,rfl⟩,(hw.dp [0,1])⟩)
  ·have hg:jS s s.readC.1 (bT bd s.readC.1 s).n.toNat 0<0:=by
    have h9:jS s (bT bd s.readC.1 s).c (bT bd s.readC.1 s).n.toNat 0<0:=by simpa using h22
    exact h9
   refine ar (ac (ab (aH aa (au call127 aa) (rC _ _ _) .free aa aa ?_)))
   rintro _ _ ⟨pb,rfl,rfl⟩
   refine kPm aa aa (aP [2] (aH aa (au call128 aa) (xH _ _ bd s) .free aa aa ?_))
   rintro _ _ ⟨bw,rest,rfl,rfl⟩
   refine aP [2] (aH aa (au call126 aa) (wx B _ pb ⟨-1,0⟩ _ (tab s.n s.now) (by rw[aW];omega) (by rw[aW];omega) (by rw[lH];exact SlR.tb)) .free aa aa ?_)
   rintro _ _ ⟨bc,rfl,rfl⟩
   refine aM (H':=aB bc (cpD s pb)::_) (fun w hh=>by unfold cpD;rw[aW,show(s.n+7) / 8*8=s.n by omega] at hh;exact hh) ?_
   obtain⟨L1,t1,hu1,_⟩:=A9 (s:=cpD s pb) (L:=bT bc s.readC.1 (cpD s pb)) (show(-1:Int)<0 by decide)
   have hk1:=yI (iB hc) hu1
   have hut1:=hk1.1 (CM hu pb)
   refine kPa aa aa (ad (am [7,6,4,3,2,0] rfl (ac (ab (kPm aa aa (kPv (ag isAgg134 sizeOf134 aa aa) aa ?_))))))
   refine aH aa (au call124 aa) (j8 B _ bc (cpD s pb) s.readC.1 hc) .free aa aa ?_
   rintro _ _ ⟨bl2,rfl,rfl⟩
   refine aU aa (au call129 aa) (oR B _ bl2 (bT bc s.readC.1 (cpD s pb)) (cpD s pb) (iB hc)) .free aa aa ?_ ?_
   rotate_left
   ·rintro _ _ ⟨s9,hm9, -, -⟩
    cases hu1.symm.trans hm9
   rintro _ _ ⟨L9,t9,hm9,rfl,rfl⟩
   cases hu1.symm.trans hm9
   refine aM (H':=c6 bl2 _::aB bc t1::_) (fun w hh=>hh) (ad (ac (ac (aP [1] (ab (kPm aa aa (kPv (ag isAgg134 sizeOf134 aa aa) aa ?_)))))))
   refine aw aa (au call130 aa) (kV B _ bc t1 s.readC.1 hc hut1) .free aa aa ?_
   refine kPa aa aa (ad (am [8,6,4,3,2,0] rfl (ac (ab (kPm aa aa (kPv (ao aa aa aa) aa (ad ?_)))))))
   refine a8 aa (fun h35=> ?_) (fun h35=> ?_)
   ·have hk:t1.check s.readC.1≠0:=by simpa using h35
    refine ac (ab (kPm aa aa (kPa aa aa (kPa aa aa (ad (az ?_))))))
    exact ce results75 aa aa (fun w hw=>⟨_,.inl ⟨_,hk,.inr (.inr ⟨hc0,hg,bc,pb,L1,t1,hu1,rfl⟩),rfl,rfl⟩,(hw.dp [0,0,0,1,1])⟩)
   ·have hk:t1.check s.readC.1=0:=by simpa using h35
    have hE:tE bd s 0:= .inr (.inr ⟨hc0,hg,bc,pb,L1,t1,hu1,hk.symm⟩)
    refine ar (ac (ab (kPm aa aa (aP [4,3] ?_))))
    refine aU aa (au call129 aa) (oR B _ bl (bT bd s.readC.1 s) s hLw) .free aa aa ?_ ?_
    rotate_left
    ·rintro _ _ ⟨s9,hm9,rfl,rfl⟩
     exact bi fun w hh=>⟨_,⟨s9,hE,hm9,rfl,rfl⟩,(show Holds B (c6 bl _::aB bd s9::_) w from hh).dp [0,1,1,1,1]⟩
    rintro _ _ ⟨L3,s2,hm3,rfl,rfl⟩
    refine aM (H':=c6 bl _::aB bd s2::_) (fun w hh=>hh) (ad (ac (aP [5] (aM (H':=row b4 [i64 s.readC.1.log,i64 s.readC.1.roots,i64 s.readC.1.space] 134::_) (fun w hh=>hh) (cW [0,1,2,3,4,5,6,7,8,9] [4,5,7] [0,1] [4,5] [row b4 [i64 s.readC.1.log,i64 s.readC.1.roots,i64 s.readC.1.space] 134] Tryz.mixed (by kernel_rfl) ?_)))))
    refine aj aa aa aa (ak aa) .free aa (aj aa aa aa (ag isAgg134 sizeOf134 aa aa) .free aa ?_)
    refine aS aa aa aa (ak aa) .free aa (aS aa aa aa (ag isAgg134 sizeOf134 aa aa) .free aa ?_)
    refine aT aa aa (aP [2] (aH aa (au call115 aa) (rq B _ bd s2 s.readC.1 hc) .free aa aa ?_))
    rintro _ _ ⟨bs,rfl,rfl⟩
    refine ad (cN (aT aa aa (aH aa (au call71 aa) (wL _ _) .free aa aa ?_)))
    rintro _ _ ⟨bt,rfl,rfl⟩
    refine ad (cN ?_)
    refine aS aa aa aa (aQ aa (np _ _ _ _ _ _ (by first | rfl | assumption) (by first | rfl | assumption) (by first | rfl | assumption))) .free rfl ?_;refine aT aa aa ?_;refine kPb (aX aa) aa fun b46=> ?_;refine ad ?_;refine c7 aa ?_;refine aS aa aa aa (bu aa) .free aa ?_;refine aS aa aa aa (bu aa) .free aa ?_;refine cy ?_;refine am [3,2] rfl ?_;refine az ?_
    exact ce results75 aa aa (fun w hw=>⟨_,.inr ⟨b46,L3,s2,hE,hm3,rfl,rfl⟩,tV (h:=iM bd s.readC.1 s2) (bs:=bs) (bt:=bt) (x:=0) aa aa ((hw.dp [4,4,4,4,4]).pk [0,1])⟩)
structure Nd where
 wd:Int
 rf:Int
 names:List (Option Nat)
 nums:List Int
 nv:Value
 vv:Value
inductive Un where
 | used (c1 c2:Nat) (was:Int)
 | num (c1 c2 c3 n:Nat) (i was:Int)
 | name (c1 c2 c3 n:Nat) (i:Int) (was:Option Nat)
 | root (c1 c2 c3:Nat) (i:Int) (was:Option Nat)
structure Md where
 c:Cfg
 roots:List (Option Nat)
 used:Int
 hs:List (Option Nat)
 o:Bool
 seen:List (Option Nat×Int)
 fresh:List (Option Nat)
 undo:List Un
 left:Int
 thn:Int
 ids:List Nat
 g:Nat→Nd
section
variable {B:World} {n:Nat} {D:List Deferred} {σ:Env} {H Fr:List HP} {P:Program} {K:Act→World→Prop} {bm b:Nat} {M:Md} {x:Nd} {ids:List Nat} {g:Nat→Nd} {w:World} {rv hv sv fv uv:Value} {us us':List Un} {u:Un}
section
variable {d:Option Tmp} {ty:TypeId} {p:String} {af:Array Edge} {gd:Option (Nat×Bool)}
end
theorem rA{f:FuncId}{vs:Array Value}{v:Value}{H H1:List HP}(is js:List Nat)[mn is H H1][mn js H1 H](h:∀ w,Holds B H1 w→Calls P f vs w (aZ B H1 v)):∀ w,Holds B H w→Calls P f vs w (aZ B H v):=
 fun w hw=>(h w (hw.pk is)).mono fun _ _ ⟨h1,h2⟩=>⟨h1,h2.pk js⟩
end
abbrev eF(bm br n:Nat)(c:Cfg):HP:=row bm [i64 c.log,i64 c.roots,i64 c.space,.slice (some ⟨br,0,none⟩) n n,i64 0,.slice none 0 0,.bool false,.slice none 0 0,.slice none 0 0,.slice none 0 0,i64 (-1),i64 0] 145
abbrev eE(br n:Nat):HP:=row br (List.replicate n (.pointer none)) 209
theorem By(B:World)(H:List HP)(c:Cfg)(hc:bA c)(n:Nat)(hn:(n:Int)=c.roots):
 ∀ w,Holds B H w→Calls Tryz.prog 76 [dY c].toArray w (Ret B (fun rv H'=>∃ bm br,rv=ptr bm∧H'=eF bm br n c::eE br n::H) (fun _ _=>False)):=by
 refine an func76 aa ntmps76 aa ?_
 have hr2:=hc.r2
 refine ac (ab (kPb (aX aa) aa fun b1=>(kPa aa aa (ad (ac (cW [0,1,2,3,4,5,6] [3,5] [0] [3] [row b1 [i64 c.log,i64 c.roots,i64 c.space] 134] Tryz.mixed (by kernel_rfl) ?_))))))
 refine aj aa aa aa (ag isAgg134 sizeOf134 aa aa) .free aa ?_
 refine aS aa aa aa (aD (m:=_) fY aa aa) .free aa (aS aa aa aa (ah isAgg3 aa aa) .free aa (aT aa aa (kPb (nM (n:=n) runUnderlying141 CV sizeOf209 zeroValue209 aa (by rw[hn];rfl) (by rw[hn];rfl) (by omega)) aa fun br=>(ad (cN ?_)))))
 refine aS aa aa aa (aQ aa (p4 _ _ _ _ _ (by first | rfl | assumption) rfl)) .free rfl ?_;refine aT aa aa ?_;refine kPb (aX aa) aa fun b8=> ?_;refine ad ?_;refine c7 aa ?_;refine aS aa aa aa (bu aa) .free aa ?_;refine cy ?_;refine am [2] rfl ?_;refine az ?_
 exact aq results76 aa (fun w hw=>⟨_,⟨b8,br,rfl,rfl⟩,(hw.dp [2])⟩)
theorem zu(B:World)(Fr:List HP)(c3:Nat):
 ∀ w,Holds B (row c3 [.slice none 0 0] 141::Fr) w→Calls Tryz.prog 184 [.pointer none,ptr c3].toArray w (aZ B (row c3 [.slice none 0 0] 141::Fr) (.tuple #[])):=by
 refine an func184 aa ntmps184 aa (ac (ab (kPm aa aa (kPv (df runUnderlying209 aa aa aa) aa (kPm aa aa ?_)))))
 apply dN (tp:=10) (t:=5) (σ1:=[(5,_),(0,_),(1,_)]) 5 rfl (aE rfl)
 ·intro hg1
  refine al aa (ah isAgg141 aa aa) (.on aa aa (ae hg1)) aa aa (al aa (ak aa) (.on aa aa (ae hg1)) aa aa (aw aa (au call185 aa) ((False.elim (by cases hg1):∀ w,Holds B (row c3 [.slice none 0 0] 141::Fr) w→Calls Tryz.prog 185 [.slice none 0 0,.pointer none].toArray w (aZ B (row c3 [.slice none 0 0] 141::Fr) (.bool true)))) (.on aa aa (ae hg1)) aa aa ?_))
  refine al aa (bz aa) (.on aa aa (ae hg1)) aa aa (kPv (ay aa hg1 aa) aa ?_)
  exact aY aa (aE aa) (cY hg1)
 ·intro hg1
  refine ap aa (.on aa aa (ai hg1)) aa (ap aa (.on aa aa (ai hg1)) aa (ap aa (.on aa aa (ai hg1)) aa (ap aa (.on aa aa (ai hg1)) aa (kPv (aJ aa hg1 aa) aa ?_))))
  exact aY aa (aE aa) (cZ hg1)
 refine ad (bH aa (rfl) (ar ?_))
 exact cI results184 (fun w hw=>⟨rfl,hw⟩)
theorem rH(B:World)(Fr:List HP)(bm br n:Nat)(c:Cfg)(hn:n≤1000):
 ∀ w,Holds B (eF bm br n c::eE br n::Fr) w→Calls Tryz.prog 131 [ptr bm].toArray w (aZ B (eF bm br n c::eE br n::Fr) (.slice none 0 0)):=by
 refine an func131 aa ntmps131 aa (ac (ab (kPa aa aa (ad (ac (ab (kPb (cf zeroValue141 aa) aa fun b3=>(ad (ac (ab (kPv (dz aa aa) aa ?_)))))))))))
 refine kPa aa aa (ad (ac (ac (ab (kPf Af isAgg141 aa aa aa aa (kPv (bD aa runUnderlying141 ⟨_,rfl⟩ rfl) aa (kPm aa aa (ad (aG (cK (ι:=Nat) [17,16,4,3,2,0] (fun k=>(k≤n)) (fun k=>[(18,i64 k)]) (fun k=>row b3 [.slice none 0 0] 141::eF bm br n c::eE br n::Fr) (fun k=>n - k) (0) (Nat.zero_le _) (fun a w st=>st.to ⟨rfl,trivial⟩ (fun hh=>hh)) ?_))))))))))
 rintro k hk0
 try simp only at hk0 ⊢
 refine cu (σ':=[(18,i64 k),(17,_),(16,_),(4,_),(3,_),(2,_),(0,_)]) (aE aa) (ac (ab (kPv (ao aa aa aa) aa (ad (ac ?_)))))
 refine a8 aa (fun h19=> ?_) (fun h19=> ?_)
 ·have hk:k<n:=by simpa using h19
  refine ar (ac (aG (ac (ab (kPv (cg runUnderlying141 sizeOf209 aa aa (by omega) (by omega)) aa ?_)))))
  refine kPv (bP (v:= .pointer none) isAgg209 (show SlR B _ (Value.slice (some (⟨br,0,none⟩:Addr)) n n) (List.replicate n (Value.pointer none)) from SlR.row (b:=br) (by simp) (by simp)) aa (by simp[List.getElem?_replicate,hk])) aa ?_
  refine kPa aa aa (ad (ab (kPm aa aa (kPm aa aa ?_))))
  refine aw aa (iO call184 aa aa) (zu B _ b3) .free aa aa ?_
  refine ad (am [18,17,16,4,3,2,0] rfl (ab (kPv (aN aa aa) aa (kPm aa aa (ad ?_)))))
  exact fun a w st_=>⟨k+1,by omega,by omega,st_.to (aE aa) (fun hh=>hh)⟩
 ·skip
  refine bF (ac (ac (ab (kPf ul isAgg141 aa aa aa aa (kPv (bD aa runUnderlying141 ⟨_,rfl⟩ rfl) aa (kPm aa aa (ad (am [31,30,29,4,3,2] rfl (aG (cK (ι:=Nat) [30,29,4,3,2] (fun k2=>(k2≤0)) (fun k2=>[(31,i64 k2)]) (fun k2=>row b3 [.slice none 0 0] 141::eF bm br n c::eE br n::Fr) (fun k2=>0) (0) (Nat.zero_le _) (fun a w st=>st.to ⟨rfl,trivial⟩ (fun hh=>hh)) ?_))))))))))
  rintro k2 hk20
  try simp only at hk20 ⊢
  refine cu (σ':=[(31,i64 k2),(30,_),(29,_),(4,_),(3,_),(2,_)]) (aE aa) (ac (ab (kPv (ao aa aa aa) aa (ad (ac (bH aa ((by simp)) (bF (ac (ac (ab (kPa aa aa ?_)))))))))))
  refine ad (aG (cK (ι:=Nat) [4,3,2] (fun k3=>(k3≤0)) (fun k3=>[(9,i64 k3)]) (fun k3=>row b3 [.slice none 0 0] 141::eF bm br n c::eE br n::Fr) (fun k3=>0) (0) (Nat.zero_le _) (fun a w st=>st.to ⟨rfl,trivial⟩ (fun hh=>hh)) ?_))
  rintro k3 hk30
  try simp only at hk30 ⊢
  refine cu (σ':=[(9,i64 k3),(4,_),(3,_),(2,_)]) (aE aa) (ac (ac (ab (kPm aa aa (kPv (ah isAgg141 aa aa) aa (kPv (bD aa runUnderlying141 ⟨_,rfl⟩ rfl) aa (kPv (ao aa aa aa) aa (ad (bH aa ((by simp)) (bF (ac ?_)))))))))))
  refine ab (kPv (ah isAgg141 aa aa) aa (kPa aa aa (ad (am [2] rfl (az ?_)))))
  exact aq results131 aa (fun w hw=>⟨rfl,(hw.dp [0])⟩)
theorem xL(B:World)(Fr:List HP)(bm br n:Nat)(c:Cfg)(hn:n≤1000):
 ∀ w,Holds B (eF bm br n c::eE br n::Fr) w→Calls Tryz.prog 77 [ptr bm].toArray w (aZ B (eF bm br n c::eE br n::Fr) (i64 0)):=by
 refine an func77 aa ntmps77 aa (ac (ab (kPa aa aa (ad (ac (ab (kPa aa aa (ad (ac (ac (ab ?_)))))))))))
 refine kPm aa aa (aw aa (au call131 aa) (rH B _ bm br n c hn) .free aa aa ?_)
 refine kPv (bD aa runUnderlying141 ⟨_,rfl⟩ rfl) aa (kPm aa aa (ad (aG (cK (ι:=Nat) [8,7,3,2] (fun k=>(k≤0)) (fun k=>[(9,i64 k)]) (fun k=>eF bm br n c::eE br n::Fr) (fun k=>0) (0) (Nat.zero_le _) (fun a w st=>st.to ⟨rfl,trivial⟩ (fun hh=>hh)) ?_))))
 rintro k hk0
 try simp only at hk0 ⊢
 refine cu (σ':=[(9,i64 k),(8,_),(7,_),(3,_),(2,_)]) (aE aa) (ac (ab (kPv (ao aa aa aa) aa (ad (ac (bH aa ((by simp)) (bF (ac (ab (kPm aa aa (kPa aa aa ?_)))))))))))
 refine ad (az ?_)
 exact aq results77 aa (fun w hw=>⟨rfl,hw⟩)
theorem xM(B:World)(Fr:List HP)(bm br n:Nat)(c:Cfg)(hn:n≤1000):
 ∀ w,Holds B (eF bm br n c::eE br n::Fr) w→Calls Tryz.prog 78 [ptr bm].toArray w (aZ B (eF bm br n c::eE br n::Fr) (i64 0)):=by
 refine an func78 aa ntmps78 aa (ac (ab (kPa aa aa (ad (ac (ab (kPa aa aa (ad (ac (ac (ab ?_)))))))))))
 refine kPf ul isAgg141 aa aa aa aa (kPv (bD aa runUnderlying141 ⟨_,rfl⟩ rfl) aa (kPm aa aa (ad (aG (cK (ι:=Nat) [10,9,3,2] (fun k=>(k≤0)) (fun k=>[(11,i64 k)]) (fun k=>eF bm br n c::eE br n::Fr) (fun k=>0) (0) (Nat.zero_le _) (fun a w st=>st.to ⟨rfl,trivial⟩ (fun hh=>hh)) ?_)))))
 rintro k hk0
 try simp only at hk0 ⊢
 refine cu (σ':=[(11,i64 k),(10,_),(9,_),(3,_),(2,_)]) (aE aa) (ac (ab (kPv (ao aa aa aa) aa (ad (ac (bH aa ((by simp)) (bF (ac (ab (kPm aa aa (kPa aa aa ?_)))))))))))
 refine ad (az ?_)
 exact aq results78 aa (fun w hw=>⟨rfl,hw⟩)
theorem Bz(B:World)(Fr:List HP)(bm br n:Nat)(c:Cfg)(hn:n≤1000)(bh:Nat)(h:HpS)(s:Dev)(hW:ei h s)(hst:h.stats s=⟨0,0,0,0,false⟩)(hck:s.check h.c=0):
 ∀ w,Holds B (dH bh h::aB h.bd s::eF bm br n c::eE br n::Fr) w→Calls Tryz.prog 45 [ptr bm,ptr bh].toArray w (aZ B (dH bh h::aB h.bd s::eF bm br n c::eE br n::Fr) (.bool true)):=by
 refine an func45 aa ntmps45 aa (ac (ab (kPa aa aa (ad (ac (ab (kPm aa aa (aw aa (au call50 aa) (qB B _ bh h s hW) .free aa aa ?_))))))))
 rw[hst]
 refine kPb (aC zeroValue106 aa) aa fun b5=>(kPs (ax (vs:=_) sizeOf106 aa aa aa aa aa) aa (ad (ac (aM (H':=row b5 [i64 0,i64 0,i64 0,i64 0,.bool false] 106::_) (fun w hh=>hh) (aP [3,3,1,1,0] (cV Tryz.mixed (by kernel_rfl) (by kernel_rfl) ?_))))))
 refine kQv (aD (m:=_) Ak aa aa) aa (kQv (ah isAgg3 aa aa) aa (kQm aa aa (kQv (aI aa) aa (kQv (aD (m:=_) Ae aa aa) aa (kQv (ah isAgg3 aa aa) aa (kQv (ao aa aa aa) aa (kQm aa aa ?_)))))))
 apply mX (tp:=21) (t:=15) (σ1:=[(15,_),(5,_),(4,_),(0,_),(1,_)]) 6 rfl (aE rfl)
 ·intro hg1
  refine bj aa (aD (m:=_) Aj aa aa) (.on aa aa (ae hg1)) aa (bj aa (ah isAgg3 aa aa) (.on aa aa (ae hg1)) aa (bj aa (ak aa) (.on aa aa (ae hg1)) aa (bG aa (au call77 aa) (xL B _ bm br n c hn) (.on aa aa (ae hg1)) aa ?_)))
  refine bj aa (ao aa aa aa) (.on aa aa (ae hg1)) aa (kQv (ay aa hg1 aa) aa ?_)
  exact eU aa (aE aa) (cY hg1)
 ·intro hg1
  refine aV aa (.on aa aa (ai hg1)) aa (aV aa (.on aa aa (ai hg1)) aa (aV aa (.on aa aa (ai hg1)) aa (aV aa (.on aa aa (ai hg1)) aa (aV aa (.on aa aa (ai hg1)) aa (kQv (aJ aa hg1 aa) aa ?_)))))
  exact eU aa (aE aa) (cZ hg1)
 refine kQm aa aa ?_
 apply mX (tp:=28) (t:=22) (σ1:=[(22,_),(5,_),(4,_),(0,_),(1,_)]) 6 rfl (aE rfl)
 ·intro hg2
  refine bj aa (aD (m:=_) Ai aa aa) (.on aa aa (ae hg2)) aa (bj aa (ah isAgg3 aa aa) (.on aa aa (ae hg2)) aa (bj aa (ak aa) (.on aa aa (ae hg2)) aa (bG aa (au call78 aa) (xM B _ bm br n c hn) (.on aa aa (ae hg2)) aa ?_)))
  refine bj aa (ao aa aa aa) (.on aa aa (ae hg2)) aa (kQv (ay aa hg2 aa) aa ?_)
  exact eU aa (aE aa) (cY hg2)
 ·intro hg2
  refine aV aa (.on aa aa (ai hg2)) aa (aV aa (.on aa aa (ai hg2)) aa (aV aa (.on aa aa (ai hg2)) aa (aV aa (.on aa aa (ai hg2)) aa (aV aa (.on aa aa (ai hg2)) aa (kQv (aJ aa hg2 aa) aa ?_)))))
  exact eU aa (aE aa) (cZ hg2)
 refine kQm aa aa ?_
 apply mX (tp:=38) (t:=29) (σ1:=[(29,_),(5,_),(4,_),(0,_),(1,_)]) 9 rfl (aE rfl)
 ·intro hg3
  refine bj aa (aD (m:=_) Ah aa aa) (.on aa aa (ae hg3)) aa (bj aa (ah isAgg3 aa aa) (.on aa aa (ae hg3)) aa (bj aa (ak aa) (.on aa aa (ae hg3)) aa (bj aa (aI aa) (.on aa aa (ae hg3)) aa (bj aa (aD (m:=_) Ac aa aa) (.on aa aa (ae hg3)) aa (bj aa (ah isAgg142 aa aa) (.on aa aa (ae hg3)) aa (bj aa (bD aa runUnderlying142 ⟨_,rfl⟩ rfl) (.on aa aa (ae hg3)) aa (bj aa (ao aa aa aa) (.on aa aa (ae hg3)) aa (kQv (ay aa hg3 aa) aa ?_))))))))
  exact eU aa (aE aa) (cY hg3)
 ·intro hg3
  refine aV aa (.on aa aa (ai hg3)) aa (aV aa (.on aa aa (ai hg3)) aa (aV aa (.on aa aa (ai hg3)) aa (aV aa (.on aa aa (ai hg3)) aa (aV aa (.on aa aa (ai hg3)) aa (aV aa (.on aa aa (ai hg3)) aa (aV aa (.on aa aa (ai hg3)) aa (aV aa (.on aa aa (ai hg3)) aa (kQv (aJ aa hg3 aa) aa ?_))))))))
  exact eU aa (aE aa) (cZ hg3)
 refine kQm aa aa ?_
 apply mX (tp:=47) (t:=39) (σ1:=[(39,_),(4,_),(1,_)]) 8 rfl (aE rfl)
 ·intro hg4
  refine bj aa (aD (m:=_) Ag aa aa) (.on aa aa (ae hg4)) aa (bj aa (ah isAgg4 aa aa) (.on aa aa (ae hg4)) aa (bj aa (ak aa) (.on aa aa (ae hg4)) aa (bj aa (aI aa) (.on aa aa (ae hg4)) aa (bj aa (aD (m:=_) Ad aa aa) (.on aa aa (ae hg4)) aa (bj aa (ah isAgg4 aa aa) (.on aa aa (ae hg4)) aa (bj aa (As runUnderlying4 aa aa aa) (.on aa aa (ae hg4)) aa (kQv (ay aa hg4 aa) aa ?_)))))))
  exact eU aa (aE aa) (cY hg4)
 ·intro hg4
  refine aV aa (.on aa aa (ai hg4)) aa (aV aa (.on aa aa (ai hg4)) aa (aV aa (.on aa aa (ai hg4)) aa (aV aa (.on aa aa (ai hg4)) aa (aV aa (.on aa aa (ai hg4)) aa (aV aa (.on aa aa (ai hg4)) aa (aV aa (.on aa aa (ai hg4)) aa (kQv (aJ aa hg4 aa) aa ?_)))))))
  exact eU aa (aE aa) (cZ hg4)
 refine kQm aa aa ?_
 apply mX (tp:=52) (t:=48) (σ1:=[(48,_),(4,_)]) 4 rfl ⟨rfl,rfl,trivial⟩
 ·intro hg5
  refine bj aa (ak aa) (.on aa aa (ae hg5)) aa (bG aa (au call79 aa) (rA [2,2] [2,2] (vo B _ bh h s hW)) (.on aa aa (ae hg5)) aa ?_)
  refine bj aa (ao aa aa aa) (.on aa aa (ae hg5)) aa (kQv (ay aa hg5 aa) aa ?_)
  exact eU aa ⟨rfl,rfl,trivial⟩ (cY hg5)
 ·intro hg5
  refine aV aa (.on aa aa (ai hg5)) aa (aV aa (.on aa aa (ai hg5)) aa (aV aa (.on aa aa (ai hg5)) aa (kQv (aJ aa hg5 aa) aa ?_)))
  exact eU aa ⟨rfl,rfl,trivial⟩ (cZ hg5)
 refine kQa aa aa (bY (az ?_))
 exact aq results45 aa (fun w hw=>⟨by rw[hck];rfl,((hw.dp [4]).pk [2,2])⟩)
def osz(m:Int→Int)(k:Int):Int:=(unp (m k)).1+1
def orf(m:Int→Int)(k:Int):Int:=(unp (m k)).2.1
theorem ic(m:Int→Int)(k:Int):1≤osz m k∧osz m k≤65∧0≤orf m k∧orf m k+1≤osz m k:=by
 have:=qd (m k);unfold osz orf;omega
def iy(m:Int→Int):Int→List Int→Int→Prop
 | a,[],e=>a=e
 | a,k::t,e=>k=a∧(unp (m a)).2.2=true∧iy m (a+osz m a) t e
theorem iy.le{m:Int→Int}:∀ {L:List Int} {a e:Int},iy m a L e→a≤e
 | [],a,e,h=>Int.le_of_eq h
 | k::t,a,e,h=>by have:=h.2.2.le;have:=ic m a;omega
theorem iy.mem{m:Int→Int}:∀ {L:List Int} {a e k:Int},iy m a L e→k∈L→a≤k∧k+osz m k≤e∧(unp (m k)).2.2=true
 | [],_,_,_,_,h=>by cases h
 | x::t,a,e,k,h,hk=>by
   obtain⟨rfl,h2,h3⟩:=h
   have:=ic m x
   rcases List.mem_cons.1 hk with rfl | hk
   ·exact⟨Int.le_refl _,h3.le,h2⟩
   ·have:=iy.mem h3 hk;exact⟨by omega,this.2⟩
theorem iy.disj{m:Int→Int}:∀ {L:List Int} {a e k k':Int},iy m a L e→k∈L→k'∈L→k<k'→k+osz m k≤k'
 | [],_,_,_,_,_,h,_,_=>by cases h
 | x::t,a,e,k,k',h,hk,hk',hlt=>by
   obtain⟨rfl,h2,h3⟩:=h
   rcases List.mem_cons.1 hk with e1 | hk2
   ·rcases List.mem_cons.1 hk' with e2 | hk3
    ·omega
    ·subst e1;exact(iy.mem h3 hk3).1
   ·rcases List.mem_cons.1 hk' with e2 | hk3
    ·have:=(iy.mem h3 hk2).1;have:=ic m x;omega
    ·exact iy.disj h3 hk2 hk3 hlt
structure pN(c:Cfg)(b:Blk)(m:Int→Int)(L:List Int):Prop where
 tile:iy m (b.place c 0) L (b.place c b.used)
 names:∀ k∈L,∀ i,0≤i→i<orf m k→m (k+1+i)=0∨m (k+1+i)∈L
 roots:∀ w∈b.rts,w=0∨w∈L
inductive Rch (m:Int→Int) (ws:List Int):Int→Prop
 | word {w:Int}:w∈ws→w≠0→Rch m ws w
 | name {k i:Int}:Rch m ws k→0≤i→i<orf m k→m (k+1+i)≠0→Rch m ws (m (k+1+i))
theorem Dq{c:Cfg}(hc:bA c){b:Blk}(hb:gh c b){m:Int→Int}{L:List Int}(h:pN c b m L){k:Int}(hk:k∈L):c.frm b.act≤k∧k+osz m k≤c.frm b.act+b.used∧24<k∧k<20000:=by
 have h1:=h.tile.mem hk
 have h2:=hb.act;have h3:=hb.used
 have h4:=iF hc (k:=b.act) (by omega)
 have:=ic m k;have:=hc.s1
 have h5:(2 - b.act)*c.space=c.space∨(2 - b.act)*c.space=2*c.space:=by
  rcases (by omega:b.act=0∨b.act=1) with e | e<;>rw[e]
  ·exact .inr (by omega)
  ·exact .inl (by omega)
 unfold Blk.place at h1
 omega
theorem rO{c:Cfg}(hc:bA c){b:Blk}(hb:gh c b){s:Dev}{L:List Int}(h:pN c b s.load L){k:Int}(hk:k∈L):s.objOf c b k=((osz s.load k - 1,orf s.load k,k),0)∧b.has c k=true:=by
 have h1:=h.tile.mem hk
 have h2:=Dq hc hb h hk
 have h5:=ic s.load k
 have hh:b.has c k=true:=by unfold Blk.has;simp;omega
 refine⟨?_,hh⟩
 unfold Dev.objOf
 rw[if_neg (by rw[hh];simp;omega),if_neg (by rw[h1.2.2];unfold osz at h1;simp;omega)]
 unfold osz orf
 simp
def DV(m:Int→Int):Int→List (Int×Int)→Int→Prop
 | a,[],e=>a=e
 | a,q::t,e=>q.2=a∧DV m (a+osz m q.1) t e
def tr(W:List (Int×Int))(w:Int):Int:=(bK W w).getD 0
structure CI(c:Cfg)(b:Blk)(m0:Int→Int)(L:List Int)(lo:Int)(ws:List Int)(S:bE)(m:Int→Int)(p:Int):Prop where
 cc:S.c=c
 bb:S.b=b
 tt:S.to_=lo
 nd:(S.went.map Prod.fst).Nodup
 inL:∀ q∈S.went,q.1∈L
 offs:DV m0 lo S.went S.free
 out:∀ j,j<lo∨S.free≤j→m j=m0 j
 hd:∀ q∈S.went,m q.2=m0 q.1
 cp:∀ q∈S.went,∀ j,0≤j→j+1<osz m0 q.1→m (q.2+1+j)=if j<orf m0 q.1∧q.2+1+j<p then tr S.went (m0 (q.1+1+j)) else m0 (q.1+1+j)
 dn:∀ q∈S.went,∀ j,0≤j→j<orf m0 q.1→q.2+1+j<p→m0 (q.1+1+j)=0∨m0 (q.1+1+j)∈S.went.map Prod.fst
 rc:∀ q∈S.went,Rch m0 ws q.1
 u:∀ x,0≤m x∧m x<18446744073709551616
section
variable {c:Cfg} {b:Blk} {m0 m:Int→Int} {L ws:List Int} {lo hi p:Int} {S:bE} {J:Dev→Prop} {s:Dev}
end
section
variable {c:Cfg} {b:Blk} {m0 m:Int→Int} {L ws:List Int} {lo hi p:Int} {S:bE} {J:Dev→Prop} {s:Dev}
structure SI(c:Cfg)(b:Blk)(m0:Int→Int)(L:List Int)(lo:Int)(ws:List Int)(S:bE)(s:Dev):Prop where
 ci:CI c b m0 L lo ws S s.load S.scan
 bd:∃ W V,S.went=W++V∧DV m0 lo W S.scan
 td:∃ pre,ws=pre++S.todo∧∀ w∈pre,w=0∨w∈S.went.map Prod.fst
 dn:S.done=false
def Dur(lo hi:Int)(s:Dev):Prop:=∀ i:Nat,lo≤i→i<hi→s.kept i=s.now i∧s.q (i / 8)=none
structure DI(c:Cfg)(b:Blk)(m0:Int→Int)(L:List Int)(lo:Int)(ws:List Int)(S:bE)(s:Dev):Prop where
 ci:CI c b m0 L lo ws S s.load S.free
 ws:∀ w∈ws,w=0∨w∈S.went.map Prod.fst
 dur:Dur lo S.free s
end
theorem zm:((List.range 65).all fun w=>(List.range (w+1)).all fun r=>unp (eC w r)==((w:Int),(r:Int),true))=true:=by kernel_rfl
theorem sK{w r:Int}(h:0≤r∧r≤w∧w≤64):unp (eC w r)=(w,r,true):=by
 have h1:=zm
 rw[List.all_eq_true] at h1
 have h2:=h1 w.toNat (List.mem_range.2 (by omega))
 rw[List.all_eq_true] at h2
 have h3:=h2 r.toNat (List.mem_range.2 (by omega))
 rw[beq_iff_eq,Int.toNat_of_nonneg (by omega),Int.toNat_of_nonneg (by omega)] at h3
 exact h3
theorem iy.congr{m m':Int→Int}:∀ {L:List Int} {a e:Int},iy m a L e→(∀ k∈L,m' k=m k)→iy m' a L e
 | [],_,_,h,_=>h
 | x::t,a,e,h,hm=>by
   obtain⟨rfl,h2,h3⟩:=h
   have e1:=hm x (List.mem_cons_self ..)
   refine⟨rfl,by rw[e1];exact h2,?_⟩
   rw[show osz m' x=osz m x by unfold osz;rw[e1]]
   exact h3.congr fun k hk=>hm k (List.mem_cons_of_mem _ hk)
theorem iy.snoc{m:Int→Int}:∀ {L:List Int} {a e:Int},iy m a L e→(unp (m e)).2.2=true→iy m a (L++[e]) (e+osz m e)
 | [],a,e,h,h1=>by cases h;exact⟨rfl,h1,rfl⟩
 | x::t,a,e,h,h1=>⟨h.1,h.2.1,h.2.2.snoc h1⟩
structure HL(c:Cfg)(N:Nat)(k0:Nat→Int)(s:Dev):Prop where
 u:U64 s
 lim:s.pow.lim<0
 n:s.n=N
 kept:s.kept=k0
 q:s.q=fun _=>none
 low:∀ x:Nat,(x:Int)<c.active→s.now x=k0 x
structure Fi(c:Cfg)(N:Nat)(k0:Nat→Int)(s:Dev)(out:List Int)(u:Int):Prop where
 h:HL c N k0 s
 act:s.load c.active=0
 used:s.load (c.active+1)=u
 u0:0≤u∧u≤c.space
 tile:iy s.load (c.frm 0) out (c.frm 0+u)
 names:∀ k∈out,∀ i,0≤i→i<orf s.load k→s.load (k+1+i)=0∨s.load (k+1+i)∈out
 roots:∀ i:Nat,(i:Int)<c.roots→s.load (c.root i)=0∨s.load (c.root i)∈out
theorem ED{c:Cfg}(hc:bA c){N:Nat}(hN:(N:Int)=c.words):c.frm 0+c.space≤N∧c.active+2+c.roots≤c.frm 0∧24<c.active∧c.frm 0+c.space≤20000:=by
 have hfb:=iF hc (k:=0) (by omega)
 have h1:=hc.act
 have:=hc.s1;have:=hc.r1;have:=hc.l1
 omega
theorem Dx{c:Cfg}(hc:bA c){N:Nat}(hN:(N:Int)=c.words){s:Dev}(h:Fmt c N s)(hu:U64 s):Fi c N s.kept s [] 0:=by
 have hf0:=ED hc hN
 have hr:=hc.r1
 have hs:=hc.s1
 have hb:∀ x:Int,c.active≤x→x<c.root c.roots→s.load x=0:=fun x h1 h2=>by
  simp only[Cfg.root] at h2
  unfold Dev.load
  split
  ·exact h.st.block x.toNat (by omega) (by simp only[Cfg.root];omega)
  ·rfl
 refine⟨⟨hu,h.lim,h.n,rfl,h.calm.q,fun x _=>by rw[h.calm.kept]⟩,hb _ (by omega) (by simp only[Cfg.root];omega),hb _ (by omega) (by simp only[Cfg.root];omega),by omega,by show c.frm 0=c.frm 0+0;omega,fun _ h=>(by cases h),fun i hi=> .inl (hb _ (by simp only[Cfg.root];omega) (by simp only[Cfg.root];omega))⟩
structure kD(s:Dev):Prop where
 lim:s.pow.lim<0
 q:s.q=fun _=>none
theorem Ed{s:Dev}{i:Nat}(hq:s.q=fun _=>none):(s.up.fl i).up.fe.now=s.now∧(s.up.fl i).up.fe.q=(fun _=>none)∧(s.up.fl i).up.fe.n=s.n∧∀ x,(s.up.fl i).up.fe.kept x=if x / 8=i / 8 then s.now x else s.kept x:=by
 refine⟨rfl,rfl,rfl,fun x=> ?_⟩
 have h:=oC s i x
 rw[show s.pk x=s.kept x by simp only[Dev.pk,eJ,hq]] at h
 exact h
@[irreducible] def Dev.sv (s:Dev) (i:Nat) (v:Int):Dev:=s.up.st i v
@[irreducible] def Dev.ff (s:Dev) (i:Nat):Dev:=(s.up.fl i).up.fe
theorem kF{α:Type}{s:Dev}{i v:Int}{k:Int→Dev→Out α}(h:s.pow.lim<0)(hi:0≤i∧i<s.n):(s.store i v).then k=k 0 (s.sv i.toNat v):=by rw[lJ h hi,aR];unfold Dev.sv;rfl
theorem rU{α:Type}{s:Dev}{i:Int}{k:Unit→Dev→Out α}(h:s.pow.lim<0)(hi:0≤i∧i<s.n):((s.flush i).then fun _ s=>s.fence.then k)=k () (s.ff i.toNat):=by rw[pg h hi,aR,lY (s:=s.up.fl i.toNat) h,aR];unfold Dev.ff;rfl
theorem gq(s:Dev)(i:Nat)(v:Int):(s.sv i v).pow.lim=s.pow.lim:=by unfold Dev.sv;rfl
theorem lI(s:Dev)(i:Nat)(v:Int):(s.sv i v).n=s.n:=by unfold Dev.sv;rfl
theorem xp(s:Dev)(i:Nat)(v:Int):(s.sv i v).q=s.q:=by unfold Dev.sv;rfl
theorem ew(s:Dev)(i:Nat)(v:Int):(s.sv i v).now=upd s.now i v:=by unfold Dev.sv;rfl
theorem kG(s:Dev)(i:Nat)(v:Int):(s.sv i v).kept=s.kept:=by unfold Dev.sv;rfl
theorem rW(s:Dev)(i:Nat):(s.ff i).pow.lim=s.pow.lim:=by unfold Dev.ff;rfl
theorem BW(s:Dev)(i:Nat):(s.ff i).n=s.n:=by unfold Dev.ff;rfl
theorem Dy(s:Dev)(i:Nat):(s.ff i).q=fun _=>none:=by unfold Dev.ff;rfl
theorem rV(s:Dev)(i:Nat):(s.ff i).now=s.now:=by unfold Dev.ff;rfl
theorem rY{s:Dev}{i:Nat}(hq:s.q=fun _=>none)(x:Nat):(s.ff i).kept x=if x / 8=i / 8 then s.now x else s.kept x:=by unfold Dev.ff;exact(Ed hq).2.2.2 x
theorem yx{L:bM}{s:Dev}{i:Int}(hL:dK L)(hs:kD s)(hi:0≤i∧i<s.n)(hc:L.c.active≤s.n)(hn:L.n<L.c.log){r:Nat}(hr:(r:Int)=L.c.record L.n):
 ∃ s',L.append s i= .ok (0,{L with n:=L.n+1}) s'∧kD s'∧s'.n=s.n∧s'.now=upd (upd (upd s.now (r+1) i) (r+2) (upd s.now (r+1) i i.toNat)) r (gr L.epoch L.n)∧∀ x,s'.kept x=if x / 8=r / 8 then s'.now x else s.kept x:=by
 have hact:=hL.c.act
 have h0:=hL.n1
 have hr':(r:Int)=16+4*L.n:=hr
 have b0:0≤L.c.record L.n∧L.c.record L.n+3<s.n:=by rw[←hr];omega
 have e0:(L.c.record L.n).toNat=r:=by omega
 have e1:(L.c.record L.n+1).toNat=r+1:=by omega
 have e2:(L.c.record L.n+2).toNat=r+2:=by omega
 have hl:=hs.lim
 have hld:∀ v,(s.sv (r+1) v).load i=upd s.now (r+1) v i.toNat:=fun v=>by
  have:(s.sv (r+1) v).has i=true:=by simp[Dev.has,hi,lI]
  simp only[Dev.load,this,if_true,ew]
 unfold bM.append
 rw[if_neg (by omega),if_neg (by omega)]
 rw[kF hl (by omega),e1,hld]
 rw[kF (by rw[gq];exact hl) (by rw[lI];omega),e2]
 rw[rU (by rw[gq,gq];exact hl) (by rw[lI,lI];omega),e0]
 rw[kF (by rw[rW,gq,gq];exact hl) (by rw[BW,lI,lI];omega),e0]
 rw[rU (by rw[gq,rW,gq,gq];exact hl) (by rw[lI,BW,lI,lI];omega),e0]
 refine⟨_,rfl,⟨by simp only[rW,gq];exact hl,by rw[Dy]⟩,by simp only[BW,lI],by simp only[rV,ew],fun x=> ?_⟩
 rw[rY (by rw[xp,Dy]),rV,kG,rY (by rw[xp,xp,hs.q]),kG,kG]
 split<;>rfl
@[irreducible] def Dev.fq (s:Dev) (i:Nat):Dev:=s.up.fl i
@[irreducible] def Dev.fn (s:Dev):Dev:=s.up.fe
theorem BQ{α:Type}{s:Dev}{i:Int}{k:Int→Dev→Out α}(h:s.pow.lim<0)(hi:0≤i∧i<s.n):(s.flush i).then k=k 0 (s.fq i.toNat):=by rw[pg h hi,aR];unfold Dev.fq;rfl
theorem BR{α:Type}{s:Dev}{k:Unit→Dev→Out α}(h:s.pow.lim<0):s.fence.then k=k () s.fn:=by rw[lY h,aR];unfold Dev.fn;rfl
theorem Dv(s:Dev)(i:Nat):(s.fq i).pow.lim=s.pow.lim:=by unfold Dev.fq;rfl
theorem Ea(s:Dev)(i:Nat):(s.fq i).n=s.n:=by unfold Dev.fq;rfl
theorem zV(s:Dev)(i:Nat):(s.fq i).now=s.now:=by unfold Dev.fq;rfl
theorem D9(s:Dev)(i x:Nat):(s.fq i).pk x=if x / 8=i / 8 then s.now x else s.pk x:=by unfold Dev.fq;exact oC s i x
theorem Dw(s:Dev):s.fn.pow.lim=s.pow.lim:=by unfold Dev.fn;rfl
theorem Eb(s:Dev):s.fn.n=s.n:=by unfold Dev.fn;rfl
theorem zX(s:Dev):s.fn.now=s.now:=by unfold Dev.fn;rfl
theorem EE(s:Dev):s.fn.q=fun _=>none:=by unfold Dev.fn;rfl
theorem BS(s:Dev)(x:Nat):s.fn.kept x=s.pk x:=by unfold Dev.fn;rfl
theorem yR{s:Dev}(h:s.q=fun _=>none)(x:Nat):s.pk x=s.kept x:=by simp only[Dev.pk,eJ,h]
theorem j9{s:Dev}{i:Int}{k:Nat}(h:(k:Int)=i)(hk:k<s.n):s.load i=s.now k:=by
 subst h
 have:s.has (k:Int)=true:=by simp[Dev.has,hk]
 simp only[Dev.load,this,if_true,Int.toNat_natCast]
theorem yJ{L:bM}{s:Dev}(hl:s.pow.lim<0)(hn:16≤s.n)(h0:L.n≠0):L.truncate s= .ok {L with epoch:=(L.epoch+1)%4294967296,n:=0} ((s.sv 8 ((L.epoch+1)%4294967296)).ff 8):=by
 unfold bM.truncate
 rw[if_neg h0,kF hl (by omega)]
 rw[rU (by rw[gq];exact hl) (by rw[lI];omega)]
 rfl
theorem m8:∀ (ks:List Int) (s:Dev),s.pow.lim<0→(∀ k∈ks,0≤k∧k*8<s.n)→
 ∃ s',dD ks s= .ok () s'∧s'.pow.lim<0∧s'.n=s.n∧s'.now=s.now∧∀ x,s'.pk x=if ((x / 8:Nat):Int)∈ks then s.now x else s.pk x
 | [],s,hl,_=>⟨s,rfl,hl,rfl,rfl,fun x=>by rw[if_neg (by simp)]⟩
 | k::ks,s,hl,hk=>by
   obtain⟨k1,k2⟩:=hk k (by simp)
   have e:dD (k::ks) s=dD ks (s.fq (k*8).toNat):=by
    simp only[dD]
    rw[BQ hl (by omega)]
   rw[e]
   obtain⟨s',e1,e2,e3,e4,e5⟩:=m8 ks (s.fq (k*8).toNat) (by rw[Dv];exact hl) (fun j hj=>by rw[Ea];exact hk j (by simp[hj]))
   refine⟨s',e1,e2,by rw[e3,Ea],by rw[e4,zV],fun x=> ?_⟩
   rw[e5,zV,D9]
   by_cases h1:((x / 8:Nat):Int)∈ks
   ·rw[if_pos h1,if_pos (List.mem_cons_of_mem _ h1)]
   ·rw[if_neg h1]
    by_cases h2:x / 8=(k*8).toNat / 8
    ·rw[if_pos h2,if_pos]
     have:((x / 8:Nat):Int)=k:=by omega
     rw[this];exact List.mem_cons_self
    ·rw[if_neg h2,if_neg]
     have:((x / 8:Nat):Int)≠k:=by omega
     exact fun h=>(List.mem_cons.1 h).elim this h1
def bM.shut(L:bM):bM:=if L.n=0 then L else {L with epoch:=(L.epoch+1)%4294967296,n:=0}
def bM.shutNow(L:bM)(f:Nat→Int):Nat→Int:=if L.n=0 then f else upd f 8 ((L.epoch+1)%4294967296)
theorem mR{L:bM}{s:Dev}(hs:kD s)(hn:16≤s.n):∃ s',L.truncate s= .ok L.shut s'∧kD s'∧s'.n=s.n∧s'.now=L.shutNow s.now∧(s.kept=s.now→s'.kept=s'.now):=by
 by_cases h0:L.n=0
 ·refine⟨s,?_,hs,rfl,?_,fun h=>h⟩
  ·unfold bM.truncate bM.shut;rw[if_pos h0,if_pos h0]
  ·unfold bM.shutNow;rw[if_pos h0]
 ·refine⟨_,yJ hs.lim hn h0 |>.trans (by unfold bM.shut;rw[if_neg h0]),⟨by rw[rW,gq];exact hs.lim,Dy _ _⟩,by rw[BW,lI],by unfold bM.shutNow;rw[if_neg h0,rV,ew],fun hk=>funext fun x=> ?_⟩
  rw[rY (by rw[xp,hs.q]),rV,ew,kG]
  by_cases c:x / 8=8 / 8
  ·rw[if_pos c]
  ·rw[if_neg c,hk];simp only[upd];rw[if_neg (by omega)]
theorem si{S:bC}{s:Dev}(hs:kD s)(hn:16≤s.n)(hd:∀ k∈S.dirty.map Prod.fst,0≤k∧k*8<s.n):
 ∃ s',S.commit s= .ok {S with L:=S.L.shut} s'∧kD s'∧s'.n=s.n∧s'.now=S.L.shutNow s.now∧((∀ x,((x / 8:Nat):Int)∉S.dirty.map Prod.fst→s.kept x=s.now x)→s'.kept=s'.now):=by
 have hmem:∀ k,k∈bZ (S.dirty.map Prod.fst)↔k∈S.dirty.map Prod.fst:=fun k=>List.mem_mergeSort
 obtain⟨s1,e1,e2,e3,e4,e5⟩:=m8 (bZ (S.dirty.map Prod.fst)) s hs.lim (fun k h=>hd k ((hmem k).1 h))
 have hpk:(∀ x,((x / 8:Nat):Int)∉S.dirty.map Prod.fst→s.kept x=s.now x)→∀ x,s1.pk x=s.now x:=fun hk x=>by
  rw[e5]
  by_cases c:((x / 8:Nat):Int)∈S.dirty.map Prod.fst
  ·rw[if_pos ((hmem _).2 c)]
  ·rw[if_neg (fun h=>c ((hmem _).1 h)),yR hs.q,hk x c]
 unfold bC.commit
 rw[e1,aR]
 by_cases c:0<S.dirty.length
 ·rw[if_pos c,BR e2]
  obtain⟨s',f1,f2,f4,f5,f6⟩:=mR (L:=S.L) (s:=s1.fn) ⟨by rw[Dw];exact e2,EE _⟩ (by rw[Eb,e3];exact hn)
  exact⟨s',by rw[f1,aR],f2,by rw[f4,Eb,e3],by rw[f5,zX,e4],fun hk=>f6 (funext fun x=>by rw[BS,zX,hpk hk,e4])⟩
 ·have hd0:S.dirty=[]:=List.length_eq_zero_iff.1 (by omega)
  have hs1:s1=s:=by
   rw[hd0] at e1
   simp[bZ,dD] at e1
   exact e1.symm
  subst hs1
  rw[if_neg c,aR]
  obtain⟨s',f1,f2,f4,f5,f6⟩:=mR (L:=S.L) (s:=s1) hs hn
  exact⟨s',by rw[f1,aR],f2,f4,f5,fun hk=>f6 (funext fun x=>hk x (by rw[hd0];simp))⟩
def uQ(L:bM)(s:Dev):Prop:=s.now 8=L.epoch∧s.now 16≠gr L.epoch 0
structure In(kp:Prop)(c:Cfg)(N:Nat)(old:Nat→Int)(js:List Nat)(S:bC)(s:Dev):Prop where
 still:kD s
 n:s.n=N
 hN:(N:Int)=c.words
 hc:S.L.c=c
 logw:dK S.L
 ln:S.L.n=js.length
 seen:∀ i:Int,(bK S.seen i).isSome=true↔∃ j∈js,(j:Int)=i
 recs:∀ k (h:k<js.length),s.now (16+4*k+1)=js[k]∧s.now (16+4*k+2)=old js[k]∧c.active≤js[k]∧js[k]<N
 same:∀ x,x∉js→c.active≤x→¬(S.ff≤x∧(x:Int)<S.ft)→s.now x=old x
 keep:kp→∀ x,((x / 8:Nat):Int)∉S.dirty.map Prod.fst→s.kept x=s.now x
 dirty:∀ k∈S.dirty.map Prod.fst,c.active≤k*8∧k*8<N
 nd:(S.dirty.map Prod.fst).Nodup
 out:∀ j∈js,(j:Int)<S.ff∨S.ft≤j
 jnd:js.Nodup
 ep:s.now 8=S.L.epoch
 st:(js=[]∧s.now 16≠gr S.L.epoch 0)∨(js≠[]∧s.now 16=gr S.L.epoch 0)
theorem zJ{kp:Prop}{c:Cfg}{N:Nat}{S:bC}{s:Dev}{f t:Int}(hs:kD s)(hk:kp→s.kept=s.now)(hn:s.n=N)(hN:(N:Int)=c.words)(hc:S.L.c=c)(hL:dK S.L)(h0:S.L.n=0)(h1:uQ S.L s):In kp c N s.now [] {S with ff:=f,ft:=t,seen:=[],dirty:=[]} s:=
 ⟨hs,hn,hN,hc,hL,h0,fun i=>by simp[bK],fun k h=>absurd h (Nat.not_lt_zero _),fun _ _ _ _=>rfl,fun h x _=>by rw[hk h],fun k h=>by simp at h,by simp,fun j h=>by simp at h,by simp,h1.1,.inl ⟨rfl,h1.2⟩⟩
theorem u3{L:bM}{f:Nat→Int}{s:Dev}(hL:dK L)(he:f 8=L.epoch)(hs:(L.n=0∧f 16≠gr L.epoch 0)∨(L.n≠0∧f 16=gr L.epoch 0))(hn:s.now=L.shutNow f):uQ L.shut s:=by
 have e1:=hL.e1
 have e2:=hL.e2
 unfold uQ
 rw[hn]
 unfold bM.shutNow bM.shut
 by_cases h0:L.n=0
 ·rw[if_pos h0,if_pos h0]
  rcases hs with ⟨_,h⟩ | ⟨h,_⟩
  ·exact⟨he,h⟩
  ·exact absurd h0 h
 ·rw[if_neg h0,if_neg h0]
  rcases hs with ⟨h,_⟩ | ⟨_,h⟩
  ·exact absurd h h0
  ·refine⟨by simp only[upd,if_true],?_⟩
   simp only[upd]
   rw[if_neg (by decide),h]
   simp only[gr]
   omega
theorem xX{kp:Prop}{c:Cfg}{N:Nat}{old:Nat→Int}{js:List Nat}{S:bC}{s:Dev}(h:In kp c N old js S s)(hc:bA c):
 ∃ s',S.commit s= .ok {S with L:=S.L.shut} s'∧kD s'∧s'.n=N∧s'.now=S.L.shutNow s.now∧(kp→A5 s')∧uQ S.L.shut s':=by
 have hw:=words_b hc
 have hact:=hc.act
 have:=h.hN
 have:=hc.r1
 have:=hc.l1
 obtain⟨s',e1,e2,e4,e5,e6⟩:=si (S:=S) h.still (by rw[h.n];omega) (fun k hk=>by have:=h.dirty k hk;rw[h.n];omega)
 refine⟨s',e1,e2,by rw[e4,h.n],e5,fun hk=>⟨e6 (h.keep hk),e2.q⟩,u3 h.logw h.ep ?_ e5⟩
 rcases h.st with ⟨h1,h2⟩ | ⟨h1,h2⟩
 ·exact .inl ⟨by rw[h.ln,h1];rfl,h2⟩
 ·exact .inr ⟨by rw[h.ln];have:=List.length_pos_iff.2 h1;omega,h2⟩
theorem gZ{α:Type}{k k':Int}{a:α}:∀ {l:List (Int×α)},k'∈(mset l k a).map Prod.fst↔k'=k∨k'∈l.map Prod.fst
 | []=>by simp[mset]
 | p::l=>by
   simp only[mset]
   split
   ·rename_i h
    simp only[List.map_cons,List.mem_cons,h]
    constructor
    ·rintro(h1 | h1)
     ·exact .inl h1
     ·exact .inr (.inr h1)
    ·rintro(h1 | h1 | h1)
     ·exact .inl h1
     ·exact .inl h1
     ·exact .inr h1
   ·simp only[List.map_cons,List.mem_cons,gZ (l:=l)]
    constructor
    ·rintro(h1 | h1 | h1)
     ·exact .inr (.inl h1)
     ·exact .inl h1
     ·exact .inr (.inr h1)
    ·rintro(h1 | h1 | h1)
     ·exact .inr (.inl h1)
     ·exact .inl h1
     ·exact .inr (.inr h1)
theorem j5{α:Type}{k:Int}{a:α}:∀ {l:List (Int×α)},(l.map Prod.fst).Nodup→((mset l k a).map Prod.fst).Nodup
 | [],_=>by simp[mset]
 | p::l,h=>by
   rw[List.map_cons,List.nodup_cons] at h
   simp only[mset]
   split
   ·rename_i e;subst e;rw[List.map_cons,List.nodup_cons];exact h
   ·rename_i e
    rw[List.map_cons,List.nodup_cons]
    refine⟨fun hm=> ?_,j5 h.2⟩
    rcases gZ.1 hm with h1 | h1
    ·exact e h1
    ·exact h.1 h1
theorem zL{kp:Prop}{c:Cfg}{N:Nat}{old:Nat→Int}{js:List Nat}{S:bC}{s:Dev}(h:In kp c N old js S s)(hc:bA c){i:Nat}(v:Int)(hi:c.active≤i∧i<N)(hno:i∈js∨(S.ff≤i∧(i:Int)<S.ft)):
 S.store s i v= .ok (0,{S with dirty:=mset S.dirty ((i:Int) / 8) ()}) (s.sv i v)∧In kp c N old js {S with dirty:=mset S.dirty ((i:Int) / 8) ()} (s.sv i v):=by
 have hact:=hc.act
 have hn:=h.n
 refine⟨?_,⟨⟨by rw[gq];exact h.still.lim,by rw[xp];exact h.still.q⟩,by rw[lI,hn],h.hN,h.hc,h.logw,h.ln,h.seen,fun k hk=> ?_,fun x hx hx1 hx2=> ?_,fun hkp x hx=> ?_,fun k hk=> ?_,j5 h.nd,h.out,h.jnd,?_,?_⟩⟩
 ·rw[jt (by rw[h.hc];omega),kF h.still.lim (by omega)]
  ·rfl
  ·rintro⟨q1,q2⟩
   rcases hno with h1 | h1
   ·rw[(h.seen i).2 ⟨i,h1,rfl⟩] at q1;cases q1
   ·omega
 ·obtain⟨r1,r2,r3,r4⟩:=h.recs k hk
  have hkl:(k:Int)<c.log:=by
   have:=h.logw.n2
   rw[h.hc,h.ln] at this;omega
  rw[ew]
  simp only[upd]
  rw[if_neg (by omega),if_neg (by omega)]
  exact⟨r1,r2,r3,r4⟩
 ·rw[ew]
  simp only[upd]
  rw[if_neg]
  ·exact h.same x hx hx1 hx2
  ·intro e;subst e
   rcases hno with h1 | h1
   ·exact hx h1
   ·exact hx2 h1
 ·rw[gZ] at hx
  rw[ew,kG]
  simp only[upd]
  rw[if_neg (by intro e;subst e;exact hx (.inl (by omega)))]
  exact h.keep hkp x fun hd=>hx (.inr hd)
 ·rcases gZ.1 hk with e | e
  ·subst e;omega
  ·exact h.dirty k e
 ·have:=hc.l1;have:=hc.r1
  rw[ew];simp only[upd];rw[if_neg (by omega)];exact h.ep
 ·have:=hc.l1;have:=hc.r1
  rw[ew];simp only[upd];rw[if_neg (by omega)];exact h.st
theorem zI{kp:Prop}{c:Cfg}{N:Nat}{old:Nat→Int}{js:List Nat}{S:bC}{s:Dev}(h:In kp c N old js S s)(hc:bA c){i:Nat}(v:Int)(hi:c.active≤i∧i<N)(hno:i∉js)(hf:¬(S.ff≤i∧(i:Int)<S.ft))(hroom:(js.length:Int)<c.log):
 ∃ s',S.store s i v= .ok (0,{S with L:={S.L with n:=S.L.n+1},seen:=mset S.seen i (),dirty:=mset S.dirty ((i:Int) / 8) ()}) s'∧In kp c N old (js++[i]) {S with L:={S.L with n:=S.L.n+1},seen:=mset S.seen i (),dirty:=mset S.dirty ((i:Int) / 8) ()} s'∧s'.now i=v∧∀ x:Nat,c.active≤x→x≠i→s'.now x=s.now x:=by
 have hact:=hc.act
 have hn:=h.n
 have hln:=h.ln
 have hcc:=h.hc
 have hN:=h.hN
 have hlt:=hi
 obtain⟨s1,e1,e2,e3,e4,e5⟩:=yx (L:=S.L) (s:=s) (i:=i) (r:=16+4*js.length) h.logw h.still (by omega) (by rw[hcc];omega) (by rw[hcc];omega) (by rw[hln];simp only[Cfg.record];omega)
 have hns:(bK S.seen i).isSome=false:=by
  cases hm:(bK S.seen (i:Int)).isSome with
  | false=>rfl
  | true=>obtain⟨j,hj,e⟩:=(h.seen i).1 hm;exact absurd (by rwa [show j=i by omega] at hj) hno
 have hnow:∀ x,x≠16+4*js.length→x≠16+4*js.length+1→x≠16+4*js.length+2→s1.now x=s.now x:=fun x h1 h2 h3=>by
  rw[e4];simp only[upd];rw[if_neg h1,if_neg h3,if_neg h2]
 refine⟨s1.sv i v,?_,⟨⟨by rw[gq];exact e2.lim,by rw[xp];exact e2.q⟩,by rw[lI,e3,hn],hN,hcc,⟨h.logw.c,h.logw.e1,h.logw.e2,?_,?_⟩,?_,fun x=> ?_,fun k hk=> ?_,fun x hx hx1 hx2=> ?_,fun hkp x hx=> ?_,fun k hk=> ?_,j5 h.nd,fun j hj=> ?_,List.nodup_append.2 ⟨h.jnd,by simp,fun a ha b hb=>by simp at hb;subst hb;rintro rfl;exact hno ha⟩,?_,.inr ⟨by simp,?_⟩⟩,?_,fun x hx hx1=> ?_⟩
 ·unfold bC.store
  rw[if_neg (by rw[hcc];omega),if_pos ⟨hns,by omega⟩,e1,aR]
  simp only[ne_eq,not_true_eq_false,if_false]
  rw[kF e2.lim (by rw[e3];omega)]
  rfl
 ·show 0≤S.L.n+1
  omega
 ·show S.L.n+1≤S.L.c.log
  rw[hcc];omega
 ·show S.L.n+1=_
  rw[List.length_append,hln];simp
 ·rw[iY]
  by_cases c1:x=i
  ·rw[if_pos c1];simp[c1]
  ·rw[if_neg c1,h.seen x]
   constructor
   ·rintro⟨j,hj,e⟩;exact⟨j,List.mem_append_left _ hj,e⟩
   ·rintro⟨j,hj,e⟩
    rcases List.mem_append.1 hj with h1 | h1
    ·exact⟨j,h1,e⟩
    ·have:j=i:=by simpa using h1
     subst this;exact absurd e.symm c1
 ·rw[ew]
  simp only[upd]
  rw[List.length_append,List.length_singleton] at hk
  rw[if_neg (by omega),if_neg (by omega)]
  by_cases c1:k<js.length
  ·obtain⟨r1,r2,r3,r4⟩:=h.recs k c1
   rw[hnow _ (by omega) (by omega) (by omega),hnow _ (by omega) (by omega) (by omega)]
   simp only[List.getElem_append_left c1]
   exact⟨r1,r2,r3,r4⟩
  ·have:k=js.length:=by omega
   subst this
   simp only[List.getElem_concat_length]
   refine⟨?_,?_,hi.1,hi.2⟩
   ·rw[e4];simp only[upd];rw[if_neg (by omega),if_neg (by omega)];simp only[if_true]
   ·rw[e4];simp only[upd,Int.toNat_natCast];rw[if_neg (by omega)];simp only[if_true];rw[if_neg (by omega)]
    exact h.same i hno hi.1 hf
 ·have h1:x∉js:=fun hh=>hx (List.mem_append_left _ hh)
  have h2:x≠i:=fun e=>hx (by simp[e])
  rw[ew];simp only[upd]
  rw[if_neg h2,hnow _ (by omega) (by omega) (by omega)]
  exact h.same x h1 hx1 hx2
 ·rw[gZ] at hx
  rw[ew,kG]
  simp only[upd]
  rw[if_neg (by intro e;subst e;exact hx (.inl (by omega))),e5]
  by_cases c1:x / 8=(16+4*js.length) / 8
  ·rw[if_pos c1]
  ·rw[if_neg c1,hnow _ (by omega) (by omega) (by omega)]
   exact h.keep hkp x fun hd=>hx (.inr hd)
 ·rcases gZ.1 hk with e | e
  ·subst e;omega
  ·exact h.dirty k e
 ·rcases List.mem_append.1 hj with h1 | h1
  ·exact h.out j h1
  ·have:j=i:=by simpa using h1
   subst this
   show(j:Int)<S.ff∨S.ft≤j
   omega
 ·have:=hc.l1;have:=hc.r1
  rw[ew];simp only[upd];rw[if_neg (by omega),hnow _ (by omega) (by omega) (by omega)];exact h.ep
 ·have:=hc.l1;have:=hc.r1
  rw[ew];simp only[upd];rw[if_neg (by omega)]
  rcases h.st with ⟨h1,_⟩ | ⟨h1,h2⟩
  ·rw[e4,hln,h1];simp only[upd,List.length_nil];rfl
  ·have:=List.length_pos_iff.2 h1
   rw[hnow _ (by omega) (by omega) (by omega)];exact h2
 ·rw[ew];simp only[upd,if_pos]
 ·rw[ew];simp only[upd];rw[if_neg hx1,hnow _ (by omega) (by omega) (by omega)]
theorem ji{c:Cfg}(hc:bA c):24≤c.active∧c.active<c.words∧c.words≤20000:=by
 have h1:=hc.act
 have h2:=words_b hc
 have:=hc.r1
 have:=hc.l1
 have h3:=fV (n:=c.root c.roots) (by simp only[Cfg.root];omega)
 have h4:=fV (n:=c.space) (by have:=hc.s1;omega)
 have:=hc.s1
 refine⟨by omega,?_,by omega⟩
 simp only[Cfg.words,Cfg.frm,Cfg.root] at*
 omega
theorem C2{L:bM}(h:dK L):dK L.shut∧L.shut.n=0∧L.shut.c=L.c∧L.shut.d=L.d:=by
 have:=h.c.l1
 have:=h.c.r1
 unfold bM.shut
 by_cases c:L.n=0
 ·rw[if_pos c];exact⟨h,c,rfl,rfl⟩
 ·rw[if_neg c]
  exact⟨⟨h.c,by show 0≤(L.epoch+1)%4294967296;omega,by show(L.epoch+1)%4294967296<4294967296;omega,show(0:Int)≤0 by decide,by show(0:Int)≤L.c.log;omega⟩,rfl,rfl,rfl⟩
theorem oa{L:bM}{f:Nat→Int}{x:Nat}(hx:x≠8):L.shutNow f x=f x:=by
 unfold bM.shutNow;split
 ·rfl
 ·simp only[upd];rw[if_neg hx]
theorem wI{kp:Prop}{c:Cfg}{N:Nat}{old:Nat→Int}{js:List Nat}{S:bC}{s:Dev}(h:In kp c N old js S s)(hc:bA c)(hN:N≤1000000):lA S:=⟨h.logw,fun p hp=>by
 have:=h.dirty p.1 (List.mem_map_of_mem hp)
 have:=hc.act
 have:=hc.r1
 have:=hc.l1
 omega⟩
theorem yc{kp:Prop}{c:Cfg}{N:Nat}{old:Nat→Int}{js:List Nat}{S:bC}{s:Dev}(h:In kp c N old js S s)(hc:bA c)(hN:N≤1000000):S.dirty.length≤1000000:=by
 have hact:=hc.act
 have:=hc.r1
 have:=hc.l1
 have h1:=tI (d:=S.dirty.map Prod.fst) (l:=(List.range 1000000).map fun (i:Nat)=>(i:Int)) h.nd fun x hx=>by
  have:=h.dirty x hx
  exact List.mem_map.2 ⟨x.toNat,List.mem_range.2 (by omega),by omega⟩
 simpa using h1
structure SK(c:Cfg)(N bd:Nat)(S:bC)(s:Dev):Prop where
 still:kD s
 u:U64 s
 n:s.n=N
 hN:(N:Int)=c.words
 lc:S.L.c=c
 lw:dK S.L
 ln:S.L.n=0
 ld:S.L.d=bd
 sh:uQ S.L s
theorem SK.secK{c:Cfg}{N bd:Nat}{S:bC}{s:Dev}(h:SK c N bd S s)(hc:bA c):A3 S bd c s:=⟨h.lw,by have:=(ji hc).2.2;have:=h.hN;rw[h.n];omega,h.ld,h.lc⟩
structure HM(c:Cfg)(m:Int→Int)(a u:Int)(L:List Int):Prop where
 act:m c.active=a
 a01:0≤a∧a≤1
 used:m (c.active+1)=u
 u0:0≤u∧u≤c.space
 tile:iy m (c.frm a) L (c.frm a+u)
 names:∀ k∈L,∀ i,0≤i→i<orf m k→m (k+1+i)=0∨m (k+1+i)∈L
 roots:∀ i:Nat,(i:Int)<c.roots→m (c.root i)=0∨m (c.root i)∈L
abbrev AR(c:Cfg)(m:Int→Int)(a u:Int):Blk:=⟨a,u,tab c.roots.toNat fun i=>m (c.root i)⟩
theorem HM.block{c:Cfg}{s:Dev}{a u:Int}{L:List Int}(h:HM c s.load a u L):s.block c=(AR c s.load a u,0):=by
 have h1:=h.u0;have h2:=h.a01
 unfold Dev.block
 rw[h.act,h.used,if_neg (by omega)]
theorem HM.heap{c:Cfg}{m:Int→Int}{a u:Int}{L:List Int}(h:HM c m a u L):pN c (AR c m a u) m L:=by
 refine⟨by unfold Blk.place;simp only;rw[Int.add_zero];exact h.tile,h.names,fun w hw=> ?_⟩
 obtain⟨i,hi,rfl⟩:=List.mem_map.1 (show w∈(List.range c.roots.toNat).map fun (i:Nat)=>m (c.root i) from hw)
 have:=List.mem_range.1 hi
 exact h.roots i (by omega)
theorem HM.bw{c:Cfg}{m:Int→Int}{a u:Int}{L:List Int}(h:HM c m a u L):gh c (AR c m a u):=⟨h.a01,h.u0⟩
theorem vx{c:Cfg}(hc:bA c){a:Int}(ha:0≤a∧a≤1):c.frm a+c.space≤c.words∧c.active+2+c.roots≤c.frm a∧24≤c.active∧c.frm a+c.space≤20000:=by
 have h1:=iF hc (k:=0) (by omega)
 have h2:=iF hc (k:=1) (by omega)
 have h3:=hc.act;have h4:=hc.l1;have h5:=hc.r1;have h6:=hc.s1
 rcases (by omega:a=0∨a=1) with rfl | rfl<;>omega
theorem HM.congr{c:Cfg}(hc:bA c){m m':Int→Int}{a u:Int}{L:List Int}(h:HM c m a u L)(e:∀ j,c.active≤j→m' j=m j):HM c m' a u L:=by
 have hf:=vx hc h.a01
 have hr:=hc.r1
 have e0:∀ k∈L,m' k=m k:=fun k hk=>e k (by have:=h.tile.mem hk;omega)
 have eo:∀ k∈L,orf m' k=orf m k:=fun k hk=>by unfold orf;rw[e0 k hk]
 refine⟨by rw[e _ (Int.le_refl _)];exact h.act,h.a01,by rw[e _ (by omega)];exact h.used,h.u0,h.tile.congr e0,fun k hk i h1 h2=> ?_,fun i hi=> ?_⟩
 ·have:=h.tile.mem hk
  rw[eo k hk] at h2
  rw[e _ (by omega)];exact h.names k hk i h1 h2
 ·rw[e _ (by simp only[Cfg.root];omega)];exact h.roots i hi
theorem HM.alloc{c:Cfg}(hc:bA c){m m':Int→Int}{a u:Int}{L:List Int}(h:HM c m a u L){w r:Int}(hw:0≤r∧r≤w∧w≤64)(hroom:¬ c.space - u<w+1)
 (hm:∀ j,c.active≤j→m' j=if c.frm a+u≤j∧j<c.frm a+u+(w+1) then (if j=c.frm a+u then eC w r else 0) else if j=c.active+1 then u+(w+1) else m j):HM c m' a (u+(w+1)) (L++[c.frm a+u]):=by
 have hf:=vx hc h.a01
 have hu:=h.u0
 have hr1:=hc.r1
 have hold:∀ k∈L,∀ j,0≤j→j<osz m k→m' (k+j)=m (k+j):=fun k hk j h0 h1=>by
  have:=h.tile.mem hk
  rw[hm _ (by omega),if_neg (by omega),if_neg (by omega)]
 have hold0:∀ k∈L,m' k=m k:=fun k hk=>by
  have:=hold k hk 0 (Int.le_refl 0) (by have:=ic m k;omega)
  simpa using this
 have hnew:m' (c.frm a+u)=eC w r:=by rw[hm _ (by omega),if_pos (by omega),if_pos rfl]
 have hun:unp (m' (c.frm a+u))=(w,r,true):=by rw[hnew];exact sK hw
 refine⟨by rw[hm _ (Int.le_refl _),if_neg (by omega),if_neg (by omega)];exact h.act,h.a01,by rw[hm _ (by omega),if_neg (by omega),if_pos aa],by omega,?_,fun k hk i h0 h1=> ?_,fun i hi=> ?_⟩
 ·have h1:=(h.tile.congr hold0).snoc (by rw[hun])
  have h2:osz m' (c.frm a+u)=w+1:=by unfold osz;rw[hun]
  rw[h2,Int.add_assoc] at h1
  exact h1
 ·rcases List.mem_append.1 hk with hk | hk
  ·have e:orf m' k=orf m k:=by unfold orf;rw[hold0 k hk]
   rw[e] at h1
   have hz:=ic m k
   have:=hold k hk (1+i) (by omega) (by omega)
   rw[←Int.add_assoc] at this
   rw[this]
   exact(h.names k hk i h0 h1).imp id (List.mem_append_left _)
  ·rw[List.mem_singleton.1 hk] at h1 ⊢
   have:orf m' (c.frm a+u)=r:=by unfold orf;rw[hun]
   rw[this] at h1
   left
   rw[hm _ (by omega),if_pos (by omega),if_neg (by omega)]
 ·have:m' (c.root i)=m (c.root i):=by
   simp only[Cfg.root]
   rw[hm _ (by omega),if_neg (by omega),if_neg (by omega)]
  rw[this]
  exact(h.roots i hi).imp id (List.mem_append_left _)
theorem HM.set{c:Cfg}(hc:bA c){m m':Int→Int}{a u:Int}{L:List Int}(h:HM c m a u L){i v:Int}(hm:∀ j,c.active≤j→m' j=if j=i then v else m j)
 (hi:(∃ k∈L,∃ j,orf m k≤j∧j+1<osz m k∧i=k+1+j)∨((v=0∨v∈L)∧((∃ k∈L,∃ j,0≤j∧j<orf m k∧i=k+1+j)∨∃ r:Nat,(r:Int)<c.roots∧i=c.root r))):HM c m' a u L:=by
 have hf:=vx hc h.a01
 have hu:=h.u0
 have hr1:=hc.r1
 have hin:(∃ k∈L,∃ j,0≤j∧j+1<osz m k∧i=k+1+j)∨∃ r:Nat,(r:Int)<c.roots∧i=c.root r:=by
  rcases hi with ⟨k,hk,j,h1,h2,h3⟩ | ⟨_,⟨k,hk,j,h1,h2,h3⟩ | hr⟩
  ·exact .inl ⟨k,hk,j,by have:=ic m k;omega,h2,h3⟩
  ·exact .inl ⟨k,hk,j,h1,by have:=ic m k;omega,h3⟩
  ·exact .inr hr
 have hnh:∀ k∈L,k≠i:=fun k hk e=>by
  have h1:=h.tile.mem hk
  rcases hin with ⟨k',hk',j,h2,h3,h4⟩ | ⟨r,h2,h3⟩
  ·rcases Int.lt_trichotomy k k' with hl | he | hl
   ·omega
   ·omega
   ·have:=h.tile.disj hk' hk hl;omega
  ·simp only[Cfg.root] at h3;omega
 have hlow:c.active+2≤i:=by
  rcases hin with ⟨k',hk',j,h2,h3,h4⟩ | ⟨r,h2,h3⟩
  ·have h1:=h.tile.mem hk';omega
  ·simp only[Cfg.root] at h3;omega
 have hLa:∀ k∈L,c.active≤k:=fun k hk=>by have:=h.tile.mem hk;omega
 have e0:∀ k∈L,m' k=m k:=fun k hk=>by rw[hm k (hLa k hk),if_neg (hnh k hk)]
 have eo:∀ k∈L,orf m' k=orf m k:=fun k hk=>by unfold orf;rw[e0 k hk]
 refine⟨by rw[hm _ (Int.le_refl _),if_neg (by omega)];exact h.act,h.a01,by rw[hm _ (by omega),if_neg (by omega)];exact h.used,h.u0,h.tile.congr e0,fun k hk j h1 h2=> ?_,fun r hr=> ?_⟩
 ·rw[eo k hk] at h2
  have hka:=hLa k hk
  rw[hm _ (by omega)]
  by_cases hx:k+1+j=i
  ·rw[if_pos hx]
   rcases hi with ⟨k',hk',j',g1,g2,g3⟩ | ⟨hv,_⟩
   ·exfalso
    have hz:=ic m k;have hz':=ic m k'
    rcases Int.lt_trichotomy k k' with hl | he | hl
    ·have:=h.tile.disj hk hk' hl;omega
    ·subst he;omega
    ·have:=h.tile.disj hk' hk hl;omega
   ·exact hv
  ·rw[if_neg hx];exact h.names k hk j h1 h2
 ·rw[hm _ (by simp only[Cfg.root];omega)]
  by_cases hx:c.root r=i
  ·rw[if_pos hx]
   rcases hi with ⟨k',hk',j',g1,g2,g3⟩ | ⟨hv,_⟩
   ·exfalso
    have h1:=h.tile.mem hk'
    have hz':=ic m k'
    simp only[Cfg.root] at hx;omega
   ·exact hv
  ·rw[if_neg hx];exact h.roots r hr
theorem vn{kp:Prop}{c:Cfg}{N:Nat}{old:Nat→Int}{js:List Nat}{S:bC}{s:Dev}(h:In kp c N old js S s)(hc:bA c){i:Nat}(v:Int)(hi:c.active≤i∧i<N)(hv:0≤v∧v<18446744073709551616)(hu:U64 s)(hr:(S.ff≤i∧(i:Int)<S.ft)∨i∈js∨(js.length:Int)<c.log):
 ∃ S' s' js',S.store s i v= .ok (0,S') s'∧In kp c N old js' S' s'∧U64 s'∧(S'.ff=S.ff∧S'.ft=S.ft∧S'.L.d=S.L.d∧S'.L.c=S.L.c)∧(js'=js∨(js'=js++[i]∧¬ (S.ff≤i∧(i:Int)<S.ft)))∧∀ j:Int,c.active≤j→s'.load j=if j=i then v else s.load j:=by
 have hA:=ji hc
 have hN:=h.hN
 have hn:=h.n
 have hsw:=wI h hc (by omega)
 have ldf:∀ s':Dev,s'.n=N→s'.now i=v→(∀ x:Nat,c.active≤x→x≠i→s'.now x=s.now x)→∀ j:Int,c.active≤j→s'.load j=if j=i then v else s.load j:=fun s' hn' h1 h2 j hj=>by
  by_cases hr:j<N
  ·rw[j9 (s:=s') (k:=j.toNat) (by omega) (by omega),j9 (s:=s) (k:=j.toNat) (by omega) (by omega)]
   by_cases e:j=i
   ·rw[if_pos e,show j.toNat=i by omega];exact h1
   ·rw[if_neg e];exact h2 _ (by omega) (by omega)
  ·have z:∀ t:Dev,t.n=N→t.load j=0:=fun t ht=>by
    unfold Dev.load Dev.has
    rw[if_neg (by simp;omega)]
   rw[z s' hn',z s hn,if_neg (by omega)]
 by_cases hno:i∈js∨(S.ff≤i∧(i:Int)<S.ft)
 ·obtain⟨e1,e2⟩:=zL h hc v hi hno
  have hu':=(ju hsw hu (by omega) hv e1).1
  refine⟨_,_,js,e1,e2,hu',⟨rfl,rfl,rfl,rfl⟩,.inl aa,ldf _ e2.n ?_ fun x _ hx=> ?_⟩
  ·rw[ew];unfold upd;rw[if_pos rfl]
  ·rw[ew];unfold upd;rw[if_neg hx]
 ·have hroom:(js.length:Int)<c.log:=by
   rcases hr with hr | hr | hr
   ·exact absurd (.inr hr) hno
   ·exact absurd (.inl hr) hno
   ·exact hr
  obtain⟨s',e1,e2,e3,e4⟩:=zI h hc v hi (fun hx=>hno (.inl hx)) (fun hx=>hno (.inr hx)) hroom
  have hu':=(ju hsw hu (by omega) hv e1).1
  exact⟨_,s',_,e1,e2,hu',⟨rfl,rfl,rfl,rfl⟩,.inr ⟨rfl,fun hx=>hno (.inr hx)⟩,ldf s' e2.n e3 e4⟩
theorem wJ{kp:Prop}{c:Cfg}{N:Nat}{old:Nat→Int}{js:List Nat}(hc:bA c){a h0:Int}(hh:0≤h0∧h0<18446744073709551616):∀ (f:Nat) (i:Int) (S:bC) (s:Dev),In kp c N old js S s→U64 s→0≤i→c.active≤a→a+i+f≤N→S.ff≤a→a+i+f≤S.ft→
 ∃ S' s',fa gi a h0 f i s S= .ok ((a,0),S') s'∧In kp c N old js S' s'∧U64 s'∧(S'.ff=S.ff∧S'.ft=S.ft∧S'.L.d=S.L.d∧S'.L.c=S.L.c)∧∀ j:Int,c.active≤j→s'.load j=if a+i≤j∧j<a+i+f then (if j=a then h0 else 0) else s.load j
 | 0,i,S,s,h,hu,hi,ha,hf,_,_=>⟨S,s,rfl,h,hu,⟨rfl,rfl,rfl,rfl⟩,fun j _=>by rw[if_neg (by omega)]⟩
 | f+1,i,S,s,h,hu,hi,ha,hf,h1,h2=>by
   have hA:=ji hc
   obtain⟨v,hvd⟩:∃ v,v=if i=0 then h0 else 0:=⟨_,rfl⟩
   have hv:0≤v∧v<18446744073709551616:=by rw[hvd];split<;>first | exact hh | decide
   obtain⟨S1,s1,js1,e1,e2,e3,e4,e5,e6⟩:=vn h hc (i:=(a+i).toNat) v (by omega) hv hu (.inl (by omega))
   have hjs:js1=js:=by
    rcases e5 with e5 | ⟨_,e5⟩
    ·exact e5
    ·exact absurd (show S.ff≤((a+i).toNat:Int)∧((a+i).toNat:Int)<S.ft by omega) e5
   subst hjs
   obtain⟨S',s',g1,g2,g3,g4,g5⟩:=wJ hc hh f (i+1) S1 s1 e2 e3 (by omega) ha (by omega) (by rw[e4.1];exact h1) (by rw[e4.2.1];omega)
   refine⟨S',s',?_,g2,g3,⟨g4.1.trans e4.1,g4.2.1.trans e4.2.1,g4.2.2.1.trans e4.2.2.1,g4.2.2.2.trans e4.2.2.2⟩,fun j hj=> ?_⟩
   ·unfold fa
    rw[←hvd,show gi (a+i) v s S= .ok (0,S1) s1 from by rw[show(a+i)=(((a+i).toNat:Nat):Int) by omega];exact e1]
    simp only[aR]
    rw[if_neg (by decide)]
    exact g1
   ·rw[g5 j hj]
    by_cases hj2:j=a+i
    ·rw[if_neg (by omega),e6 j hj,if_pos (by omega),if_pos (by omega),hvd]
     by_cases h0:i=0
     ·rw[if_pos h0,if_pos (by omega)]
     ·rw[if_neg h0,if_neg (by omega)]
    ·by_cases hr:a+(i+1)≤j∧j<a+(i+1)+f
     ·rw[if_pos hr,if_pos (c:=a+i≤j∧j<a+i+((f+1:Nat):Int)) (by omega)]
     ·rw[if_neg hr,if_neg (c:=a+i≤j∧j<a+i+((f+1:Nat):Int)) (by omega),e6 j hj,if_neg (by omega)]
theorem zK{kp:Prop}{c:Cfg}(hc:bA c){N:Nat}{old:Nat→Int}{js:List Nat}{S:bC}{s:Dev}(h:In kp c N old js S s)(hu:U64 s){a u:Int}{L:List Int}(hm:HM c s.load a u L){w r:Int}(hw:0≤r∧r≤w∧w≤64)(hroom:¬ c.space - u<w+1)(hff:S.ff≤c.frm a+u)(hft:S.ft=c.frm a+c.space)(hff2:c.frm a≤S.ff)
 (hr:(c.active+1).toNat∈js∨(js.length:Int)<c.log):
 ∃ S' s' js',cO gi c w r s S= .ok ((c.frm a+u,0),S') s'∧In kp c N old js' S' s'∧U64 s'∧(S'.ff=S.ff∧S'.ft=S.ft∧S'.L.d=S.L.d∧S'.L.c=S.L.c)∧js'.length≤js.length+1∧(js'=js∨js'=js++[(c.active+1).toNat])∧HM c s'.load a (u+(w+1)) (L++[c.frm a+u])∧
  ∀ j,c.active≤j→s'.load j=if c.frm a+u≤j∧j<c.frm a+u+(w+1) then (if j=c.frm a+u then eC w r else 0) else if j=c.active+1 then u+(w+1) else s.load j:=by
 have hA:=ji hc
 have hf:=vx hc hm.a01
 have hu0:=hm.u0
 have hr1:=hc.r1
 have hN:=h.hN
 obtain⟨S1,s1,js1,e1,e2,e3,e4,e5,e6⟩:=vn h hc (i:=(c.active+1).toNat) (u+(w+1)) (by omega) (by omega) hu (.inr hr)
 obtain⟨S',s',g1,g2,g3,g4,g5⟩:=wJ hc (a:=c.frm a+u) (rE w r) (w+1).toNat 0 S1 s1 e2 e3 (Int.le_refl 0) (by omega) (by omega) (by rw[e4.1];omega) (by rw[e4.2.1];omega)
 have hld:∀ j,c.active≤j→s'.load j=if c.frm a+u≤j∧j<c.frm a+u+(w+1) then (if j=c.frm a+u then eC w r else 0) else if j=c.active+1 then u+(w+1) else s.load j:=fun j hj=>by
  rw[g5 j hj,e6 j hj]
  by_cases hj2:c.frm a+u≤j∧j<c.frm a+u+(w+1)
  ·rw[if_pos hj2,if_pos (by omega)]
  ·rw[if_neg hj2,if_neg (by omega)]
   by_cases e:j=c.active+1
   ·rw[if_pos e,if_pos (by omega)]
   ·rw[if_neg e,if_neg (by omega)]
 refine⟨S',s',js1,?_,g2,g3,⟨g4.1.trans e4.1,g4.2.1.trans e4.2.1,g4.2.2.1.trans e4.2.2.1,g4.2.2.2.trans e4.2.2.2⟩,?_,e5.imp id And.left,hm.alloc hc hw hroom hld,hld⟩
 ·have hk:mh w r=0:=by unfold mh;rw[if_pos (by omega)]
  unfold cO
  rw[if_neg (by rw[hk];decide),hm.block,if_neg (by simp)]
  simp only
  rw[if_neg hroom,show gi (c.active+1) (u+(w+1)) s S= .ok (0,S1) s1 from by rw[show(c.active+1)=(((c.active+1).toNat:Nat):Int) by omega];exact e1]
  simp only[aR]
  rw[if_neg (by decide)]
  exact g1
 ·rcases e5 with e5 | ⟨e5,_⟩<;>rw[e5]<;>simp
theorem iy.len{m:Int→Int}:∀ {L:List Int} {a e:Int},iy m a L e→(L.length:Int)≤e - a
 | [],a,e,h=>by cases h;simp
 | x::t,a,e,h=>by have:=h.2.2.len;have:=ic m a;simp only[List.length_cons];omega
section
variable {c:Cfg} {b:Blk} {L:List Int} {s:Dev}
def BF(s:Dev)(k:Int):db:=(osz s.load k - 1,orf s.load k,k)
theorem qm(hc:bA c)(hb:gh c b)(h:pN c b s.load L):∀ (t:List Int) (a:Int) (f:Nat),iy s.load a t (b.place c b.used)→(∀ k∈t,k∈L)→t.length<f→s.objs c b f a=t.map fun k=>(BF s k,0)
 | [],a,f+1,ht,_,_=>by
   unfold Dev.objs
   rw[if_pos (by rw[show a=b.place c b.used from ht];exact Int.le_refl _)];rfl
 | k::t,a,f+1,ht,hl,hf=>by
   obtain⟨rfl,h2,h3⟩:=ht
   have hz:=ic s.load k
   have hle:=h3.le
   have ho:=(rO hc hb h (hl k (List.mem_cons_self ..))).1
   simp only[List.length_cons] at hf
   unfold Dev.objs
   rw[if_neg (by omega),ho,if_neg (by simp)]
   simp only[List.map_cons]
   rw[show k+(osz s.load k - 1+1)=k+osz s.load k by omega,qm hc hb h t _ f h3 (fun x hx=>hl x (List.mem_cons_of_mem _ hx)) (by omega)]
   rfl
 | _,_,0,_,_,hf=>absurd hf (Nat.not_lt_zero _)
theorem qJ(hc:bA c)(hb:gh c b)(h:pN c b s.load L):s.objs c b (b.used.toNat+1) (b.place c 0)=L.map fun k=>(BF s k,0):=by
 have h1:=h.tile.len
 have h2:=hb.used
 exact qm hc hb h L _ _ h.tile (fun _ h=>h) (by unfold Blk.place at h1;omega)
theorem rM{α ι:Type}{st:α→ι→Bool×ι}{g:ι→α→ι}:∀ (l:List α) (x:ι),(∀ a∈l,∀ x,st a x=(true,g x a))→itl st l x=(true,l.foldl g x)
 | [],x,_=>rfl
 | a::t,x,h=>by
   have e:=h a (List.mem_cons_self ..) x
   unfold itl
   rw[if_pos (by rw[e]),e]
   exact rM t _ fun b hb=>h b (List.mem_cons_of_mem _ hb)
theorem qP{β:Type}(f:Int→β):∀ (l:List Int) (x:List (Int×β)×Int) (k:Int),(k∈l∨(bK x.1 k).isSome=true)→(bK (l.foldl (fun y k=>(mset y.1 k (f k),y.2)) x).1 k).isSome=true
 | [],x,k,h=>h.resolve_left (by simp)
 | a::t,x,k,h=>by
   refine qP f t _ k ?_
   by_cases e:k=a
   ·right;simp only;rw[iY,if_pos e];rfl
   ·rcases h with h | h
    ·exact .inl ((List.mem_cons.1 h).resolve_left e)
    ·right;simp only;rw[iY,if_neg e];exact h
theorem ue{β:Type}(f:Int→β):∀ (l:List Int) (x:List (Int×β)×Int),(l.foldl (fun y k=>(mset y.1 k (f k),y.2)) x).2=x.2
 | [],_=>rfl
 | a::t,x=>ue f t _
theorem tW(hc:bA c)(hb:gh c b)(h:pN c b s.load L):(s.starts c b).2=0∧∀ k∈L,(bK (s.starts c b).1 k).isSome=true:=by
 have e:s.starts c b=L.foldl (fun y k=>(mset y.1 k (BF s k),y.2)) ([],0):=by
  unfold Dev.starts Dev.startsI
  rw[qJ hc hb h,rM (g:=fun y (p:db×Int)=>(mset y.1 p.1.2.2 p.1,y.2)) _ _ (fun p hp x=>by
   obtain⟨k,_,rfl⟩:=List.mem_map.1 hp
   unfold stS
   rw[if_neg (by simp)]),List.foldl_map]
  rfl
 rw[e]
 exact⟨ue _ _ _,fun k hk=>qP _ _ _ _ (.inl hk)⟩
theorem o5(hc:bA c)(hu:U64 s)(hbl:s.block c=(b,0))(h:pN c b s.load L):s.check c=0:=by
 have hb0:b=(s.block c).1:=by rw[hbl]
 have hb:gh c b:=by rw[hb0];exact dG hc hu
 obtain⟨h1,h2⟩:=tW hc hb h
 have hn:∀ v,v=0∨v∈L→dr c b (s.starts c b).1 v=true:=fun v hv=>by
  unfold dr
  rcases hv with rfl | hv
  ·simp
  ·rw[(rO hc hb h hv).2,h2 v hv];simp
 unfold Dev.check
 rw[hbl]
 simp only
 rw[if_neg (by simp),if_neg (by rw[h1];simp),if_pos]
 ·rw[qJ hc hb h,rM (g:=fun y _=>y)]
  ·have:∀ (l:List (db×Int)) (x:Int),l.foldl (fun y _=>y) x=x:=fun l=>by
    induction l with
    | nil=>intro x;rfl
    | cons a t ih=>intro x;exact ih x
   rw[this]
  ·intro p hp x
   obtain⟨k,hk,rfl⟩:=List.mem_map.1 hp
   unfold stC
   rw[if_pos]
   unfold tw
   rw[List.all_eq_true]
   intro j hj
   have:=List.mem_range.1 hj
   simp only[BF] at this ⊢
   exact hn _ (h.names k hk j (by omega) (by omega))
 ·rw[List.all_eq_true]
  exact fun v hv=>hn v (h.roots v hv)
end
theorem jY{L:bM}{s:Dev}(h:L.n=0):L.undo s= .ok L s:=by
 unfold bM.undo
 rw[show L.n.toNat=0 by omega]
 simp[kX,bM.truncate,h,Out.then]
theorem zf{c:Cfg}(hc:bA c){s:Dev}(hn:(s.n:Int)=c.words)(h0:s.load 0=gx)(h1:s.load 1=c.log)(h2:s.load 2=c.roots)(h3:s.load 3=c.space):s.readC=(c,0):=by
 have l1:=hc.l1;have l2:=hc.l2;have r1:=hc.r1;have r2:=hc.r2;have s1:=hc.s1;have s2:=hc.s2
 have e:∀ x:Int,0≤x∧x≤4096→IntKind.i64.wrap x=x:=fun x hx=>gV (by omega)
 have e1:cj s 0=c.log:=by unfold cj;rw[show(1+((0:Nat):Int))=1 from rfl,h1];exact e _ (by omega)
 have e2:cj s 1=c.roots:=by unfold cj;rw[show(1+((1:Nat):Int))=2 from rfl,h2];exact e _ (by omega)
 have e3:cj s 2=c.space:=by unfold cj;rw[show(1+((2:Nat):Int))=3 from rfl,h3];exact e _ (by omega)
 have hcc:(⟨c.log,c.roots,c.space⟩:Cfg)=c:=rfl
 unfold Dev.readC
 rw[if_neg (by rw[h0];simp),if_neg (by omega),e1,e2,e3,hcc,if_neg (by rintro(h | h);exact h hc;exact h hn)]
theorem oG{s t:Dev}(h:t.load=s.load)(c:Cfg)(e:Int):∀ f n,gH t c e f n=gH s c e f n
 | 0,_=>rfl
 | f+1,n=>by unfold gH;rw[h,oG h c e f]
theorem vi{s t:Dev}(h:t.load=s.load)(d:Nat)(c:Cfg):bT d c t=bT d c s:=by unfold bT;rw[h,oG h]
theorem xe(s:Dev)(pa:Nat):(cpD s pa).load=s.load:=by
 funext j
 unfold Dev.load Dev.has
 show(if (decide (0≤j)&&decide (j<(s.n:Int)))=true then (tab s.n s.now).getD j.toNat 0 else 0)=_
 split
 ·rename_i h
  simp only[Bool.and_eq_true,decide_eq_true_eq] at h
  have e:tab s.n s.now=(List.range s.n).map s.now:=rfl
  rw[e,List.getD_eq_getElem?_getD]
  simp[show j.toNat<s.n by omega]
 ·rfl
structure OkD(c:Cfg)(N:Nat)(s:Dev)(e:Int)(a u:Int)(L:List Int):Prop where
 n:s.n=N
 hN:(N:Int)=c.words
 uu:U64 s
 rc:s.readC=(c,0)
 lg:∀ d,bT d c s=⟨d,c,e,0⟩
 hm:HM c s.load a u L
theorem OkD.open_{c:Cfg}(hc:bA c){N:Nat}{s:Dev}{e a u:Int}{L:List Int}(h:OkD c N s e a u L){bd:Nat}{x:Int}(hx:tE bd s x):x=0:=by
 have e0:s.readC.2=0:=by rw[h.rc]
 have e1:s.readC.1=c:=by rw[h.rc]
 rcases hx with ⟨h1,_⟩ | ⟨_,h1,_⟩ | ⟨_,_,bc,pa,L1,t1,h2,h3⟩
 ·exact absurd e0 h1
 ·rw[e1,h.lg] at h1
  exact absurd h1 (show ¬ (0:Int)≤ -1 by decide)
 ·rw[e1,vi (xe s pa),h.lg,jY rfl] at h2
  cases h2
  rw[h3,e1]
  have hm:HM c (cpD s pa).load a u L:=by rw[xe];exact h.hm
  exact o5 hc (CM h.uu pa) hm.block hm.heap
theorem OkD.undo{c:Cfg}{N:Nat}{s:Dev}{e a u:Int}{L:List Int}(h:OkD c N s e a u L){bd:Nat}{L':bM}{s':Dev}(hx:(bT bd s.readC.1 s).undo s= .ok L' s'):s'=s:=by
 rw[show s.readC.1=c by rw[h.rc],h.lg,jY rfl] at hx
 cases hx;rfl
theorem OkD.noff{c:Cfg}{N:Nat}{s:Dev}{e a u:Int}{L:List Int}(h:OkD c N s e a u L){bd:Nat}{s':Dev}(hx:(bT bd s.readC.1 s).undo s= .off s'):False:=by
 rw[show s.readC.1=c by rw[h.rc],h.lg,jY rfl] at hx
 cases hx
structure HC(kp:Prop)(c:Cfg)(N bd:Nat)(h:HpS)(s:Dev)(a u:Int)(L:List Int):Prop where
 hbd:h.bd=bd
 hcc:h.c=c
 ho:h.o=false
 sk:SK c N bd h.S s
 hm:HM c s.load a u L
 rc:s.readC=(c,0)
 hw:ei h s
 hkp:kp→s.kept=s.now
theorem BH{c:Cfg}(hc:bA c){N:Nat}{s:Dev}{e a u:Int}{L:List Int}(h:OkD c N s e a u L)(hs:kD s)(he:0≤e∧e<4294967296)(hsh:s.now 8=e∧s.now 16≠gr e 0)(bd:Nat){kp:Prop}(hk:kp→s.kept=s.now):HC kp c N bd (iM bd c s) s a u L:=by
 have hA:=ji hc
 have hN:=h.hN
 have hlog:0≤c.log:=by have:=hc.l1;have:=hc.r1;omega
 have hlw:dK ⟨bd,c,e,0⟩:=⟨hc,he.1,he.2,Int.le_refl _,hlog⟩
 have hS:(iM bd c s).S=⟨⟨bd,c,e,0⟩,0,0,[],[]⟩:=by unfold iM;rw[h.lg]
 have hsk:SK c N bd (iM bd c s).S s:=by
  rw[hS]
  exact⟨hs,h.uu,h.n,h.hN,rfl,hlw,rfl,rfl,hsh⟩
 refine⟨rfl,rfl,rfl,hsk,h.hm,h.rc,⟨hc,hsk.secK hc,fun x=>(by cases x),h.uu,⟨Int.le_refl _,by show(0:Int)≤1000000000;decide⟩,Nat.zero_le _,fun p hp=>(by cases hp),fun X hX=>(by cases hX)⟩,hk⟩
theorem Fmt.okd{c:Cfg}(hc:bA c){N:Nat}{s:Dev}(h:Fmt c N s)(hN:(N:Int)=c.words)(hu:U64 s):OkD c N s 1 0 0 []:=by
 have hA:=ji hc
 have hld:∀ k:Nat,k<24→s.load k=s.now k:=fun k hk=>j9 rfl (by rw[h.n];omega)
 have hF:=Dx hc hN h hu
 refine⟨h.n,hN,hu,zf hc (by rw[h.n];exact hN) ?_ ?_ ?_ ?_,h.log,⟨hF.act,by omega,hF.used,hF.u0,hF.tile,hF.names,hF.roots⟩⟩
 ·rw[show(0:Int)=((0:Nat):Int) from rfl,hld 0 (by omega)];exact h.st.magic
 ·rw[show(1:Int)=((1:Nat):Int) from rfl,hld 1 (by omega)];exact h.st.cfg.1
 ·rw[show(2:Int)=((2:Nat):Int) from rfl,hld 2 (by omega)];exact h.st.cfg.2.1
 ·rw[show(3:Int)=((3:Nat):Int) from rfl,hld 3 (by omega)];exact h.st.cfg.2.2
theorem Fmt.hc{c:Cfg}(hc:bA c){N:Nat}{s:Dev}(h:Fmt c N s)(hN:(N:Int)=c.words)(hu:U64 s)(bd:Nat):HC True c N bd (iM bd c s) s 0 0 []:=
 BH hc (h.okd hc hN hu) ⟨h.lim,h.calm.q⟩ ⟨by decide,by decide⟩ ⟨h.ep.1,by rw[h.ep.2];decide⟩ bd fun _=>h.calm.kept
structure K8(s s':Dev):Prop where
 n:s'.n=s.n
 now:∀ x:Nat,x<8→s'.now x=s.now x
theorem K8.refl{s:Dev}:K8 s s:=⟨rfl,fun _ _=>rfl⟩
theorem K8.trans{s s' s'':Dev}(h:K8 s s')(g:K8 s' s''):K8 s s'':=⟨g.n.trans h.n,fun x hx=>(g.now x hx).trans (h.now x hx)⟩
theorem ke{s s':Dev}{i v a:Int}(hi:8≤i)(e:s.store i v= .ok a s'):K8 s s':=by
 unfold Dev.store at e
 split at e
 ·cases e;exact .refl
 ·split at e
  ·cases e
  ·cases e
   exact⟨rfl,fun x hx=>by show upd s.now i.toNat v x=_;unfold upd;rw[if_neg (by omega)]⟩
theorem tT{s s':Dev}{i a:Int}(e:s.flush i= .ok a s'):K8 s s':=by
 unfold Dev.flush at e
 split at e
 ·cases e;exact .refl
 ·split at e
  ·cases e
  ·cases e;exact⟨rfl,fun _ _=>rfl⟩
theorem tU{s s':Dev}{a:Unit}(e:s.fence= .ok a s'):K8 s s':=by
 unfold Dev.fence at e
 split at e
 ·cases e
 ·cases e;exact⟨rfl,fun _ _=>rfl⟩
theorem xV{L:bM}{s s':Dev}{i:Int}{r:Int×bM}(hL:dK L)(e:L.append s i= .ok r s'):K8 s s':=by
 unfold bM.append at e
 split at e
 ·cases e;exact .refl
 split at e
 ·cases e;exact .refl
 have hr:16≤L.c.record L.n:=by have:=hL.n1;simp only[Cfg.record];omega
 obtain⟨_,s1,e1,e⟩:=aK e
 obtain⟨_,s2,e2,e⟩:=aK e
 obtain⟨_,s3,e3,e⟩:=aK e
 obtain⟨_,s4,e4,e⟩:=aK e
 obtain⟨_,s5,e5,e⟩:=aK e
 obtain⟨_,s6,e6,e⟩:=aK e
 obtain⟨_,s7,e7,e⟩:=aK e
 cases e
 exact((((((ke (by omega) e1).trans (ke (by omega) e2)).trans (tT e3)).trans (tU e4)).trans (ke (by omega) e5)).trans (tT e6)).trans (tU e7)
theorem mA{S:bC}{s s':Dev}{i v:Int}{r:Int×bC}(hL:dK S.L)(e:S.store s i v= .ok r s'):K8 s s':=by
 have hA:=ji hL.c
 unfold bC.store at e
 split at e
 ·cases e;exact .refl
 rename_i hi
 split at e
 ·obtain⟨x,t,e1,e⟩:=aK e
  have h1:=xV hL e1
  split at e
  ·cases e;exact h1
  ·obtain⟨y,u,e2,e⟩:=aK e
   cases e;exact h1.trans (ke (by omega) e2)
 ·obtain⟨y,u,e2,e⟩:=aK e
  cases e;exact ke (by omega) e2
theorem wG{a h0:Int}:∀ (f:Nat) (i:Int) (S:bC) (s:Dev) (r:(Int×Int)×bC) (s':Dev),dK S.L→fa gi a h0 f i s S= .ok r s'→K8 s s'
 | 0,i,S,s,r,s',_,e=>by cases e;exact .refl
 | f+1,i,S,s,r,s',hL,e=>by
   unfold fa at e
   obtain⟨⟨x,S1⟩,s1,e1,e⟩:=aK e
   have h1:=mA hL e1
   split at e
   ·cases e;exact h1
   ·exact h1.trans (wG f _ _ _ _ _ (jZ hL e1) e)
theorem zF{c:Cfg}{w r:Int}{S:bC}{s:Dev}{x:(Int×Int)×bC}{s':Dev}(hL:dK S.L)(e:cO gi c w r s S= .ok x s'):K8 s s':=by
 unfold cO at e
 split at e
 ·cases e;exact .refl
 split at e
 ·cases e;exact .refl
 split at e
 ·cases e;exact .refl
 ·obtain⟨⟨y,S1⟩,s1,e1,e⟩:=aK e
  have h1:=mA hL e1
  split at e
  ·cases e;exact h1
  ·exact h1.trans (wG _ _ _ _ _ _ (jZ hL e1) e)
theorem K8.readC{c:Cfg}(hc:bA c){s s':Dev}(h:K8 s s')(hn:(s.n:Int)=c.words)(hr:s.readC=(c,0)):s'.readC=(c,0):=by
 have hA:=ji hc
 have hl:∀ k:Nat,k<8→s'.load k=s.load k:=fun k hk=>by
  rw[j9 (k:=k) rfl (by rw[h.n];omega),j9 (k:=k) rfl (by omega)];exact h.now k hk
 have hw:∀ k:Nat,k<3→cj s' k=cj s k:=fun k hk=>by
  have:=hl (1+k) (by omega)
  unfold cj
  rw[show(1+(k:Int))=((1+k:Nat):Int) by omega,this]
 have k0:s'.load 0=s.load 0:=hl 0 (by omega)
 have k1:s'.load 1=s.load 1:=hl 1 (by omega)
 have k2:s'.load 2=s.load 2:=hl 2 (by omega)
 have k3:s'.load 3=s.load 3:=hl 3 (by omega)
 rw[←hr]
 unfold Dev.readC
 rw[h.n,k0,k1,k2,k3,hw 0 (by omega),hw 1 (by omega),hw 2 (by omega)]
theorem CX{T:gB}{k:Int}(h1:0≤T.last∧T.last+1≤1000000000)(h2:T.at_.length+1≤800000)(h3:∀ p∈T.at_,0≤p.2∧p.2≤1000000)(hk:0≤k∧k≤1000000):
 (0≤(T.take k).2.last∧(T.take k).2.last≤1000000000)∧(T.take k).2.at_.length≤800000∧(∀ p∈(T.take k).2.at_,0≤p.2∧p.2≤1000000):=by
 unfold gB.take
 split
 ·exact⟨by simp only;omega,by simp only;omega,h3⟩
 split
 ·exact⟨by simp only;omega,by simp only;omega,h3⟩
 ·refine⟨by simp only;omega,?_,fun p hp=> ?_⟩
  ·have:=oK T.at_ (T.last+1) k
   simp only;omega
  ·rcases vj hp with e | e
   ·rw[e];exact hk
   ·exact h3 p e
structure HO(kp:Prop)(c:Cfg)(N bd:Nat)(old:Nat→Int)(js:List Nat)(h:HpS)(s:Dev)(a u u0:Int)(L:List Int):Prop where
 hbd:h.bd=bd
 hcc:h.c=c
 ho:h.o=true
 ss:In kp c N old js h.S s
 dd:h.S.L.d=bd
 hm:HM c s.load a u L
 rc:s.readC=(c,0)
 hw:ei h s
 ff:h.S.ff=c.frm a+u0
 ft:h.S.ft=c.frm a+c.space
 ule:0≤u0∧u0≤u
theorem mC{kp:Prop}{c:Cfg}(hc:bA c){N bd:Nat}{old:Nat→Int}{js:List Nat}{h:HpS}{s:Dev}(hcc:h.c=c)(hbd:h.bd=bd)(hi:In kp c N old js h.S s)(hd:h.S.L.d=bd)(hu:U64 s)(hx:h.X=none)(t1:0≤h.T.last∧h.T.last≤1000000000)(t2:h.T.at_.length≤800000)(t3:∀ p∈h.T.at_,0≤p.2∧p.2≤1000000):ei h s:=by
 have hA:=ji hc
 have hN:=hi.hN
 exact⟨by rw[hcc];exact hc,⟨hi.logw,by rw[hi.n];omega,by rw[hbd];exact hd,by rw[hcc];exact hi.hc⟩,fun _=>⟨wI hi hc (by omega),yc hi hc (by omega)⟩,hu,t1,t2,t3,fun X hX=>by rw[hx] at hX;cases hX⟩
theorem HC.blk{kp:Prop}{c:Cfg}{N bd:Nat}{h:HpS}{s:Dev}{a u:Int}{L:List Int}(H:HC kp c N bd h s a u L):h.blk s=AR c s.load a u:=by
 show(s.block h.c).1=_
 rw[H.hcc,H.hm.block]
theorem HO.blk{kp:Prop}{c:Cfg}{N bd:Nat}{old:Nat→Int}{js:List Nat}{h:HpS}{s:Dev}{a u u0:Int}{L:List Int}(H:HO kp c N bd old js h s a u u0 L):h.blk s=AR c s.load a u:=by
 show(s.block h.c).1=_
 rw[H.hcc,H.hm.block]
theorem HC.bok{kp:Prop}{c:Cfg}{N bd:Nat}{h:HpS}{s:Dev}{a u:Int}{L:List Int}(H:HC kp c N bd h s a u L):(s.block h.c).2=0:=by rw[H.hcc,H.hm.block]
theorem HC.begin{kp:Prop}{c:Cfg}(hc:bA c){N bd:Nat}{h:HpS}{s:Dev}{a u:Int}{L:List Int}(H:HC kp c N bd h s a u L){room:Int}(h0:0≤room)(hr:¬ c.space - u<room){x:Int}{h':HpS}{s':Dev}(hb:h.begR s room x h' s'):
 x=0∧s'=s∧h'.T=h.T∧HO kp c N bd s.now [] h' s a u u L:=by
 have hbl:=H.blk
 rcases hb with ⟨h1,_⟩ | ⟨_,h1,_⟩ | ⟨_,_,a1,h1,s1,hor,hor2⟩
 ·rw[H.ho] at h1;cases h1
 ·omega
 rcases hor with ⟨h2,_⟩ | ⟨h2,rfl,rfl,rfl⟩
 ·rw[hbl,H.hcc] at h2;exact absurd h2 hr
 rcases hor2 with ⟨h3,_⟩ | ⟨_,h3,_⟩ | ⟨_,h3,rfl,rfl,rfl⟩
 ·exact absurd aa h3
 ·rw[show HpS.blk {h with X:=none} s1=h.blk s1 from rfl,hbl,H.hcc] at h3;exact absurd h3 hr
 have hS:=H.sk
 have hi:In kp c N s'.now [] (h.S.fresh ((h.blk s').place h.c (h.blk s').used) ((h.blk s').place h.c h.c.space)) s':=zJ hS.still H.hkp hS.n hS.hN hS.lc hS.lw hS.ln hS.sh
 refine⟨rfl,rfl,rfl,⟨H.hbd,H.hcc,rfl,hi,?_,H.hm,H.rc,mC hc H.hcc H.hbd hi ?_ hS.u aa H.hw.t1 H.hw.tl H.hw.tp,?_,?_,H.hm.u0.1,Int.le_refl _⟩⟩
 ·exact hS.ld
 ·exact hS.ld
 ·show(h.blk s').place h.c (h.blk s').used=_
  rw[hbl,H.hcc];rfl
 ·show(h.blk s').place h.c h.c.space=_
  rw[hbl,H.hcc];rfl
section
variable {kp:Prop} {c:Cfg} {N bd:Nat} {old:Nat→Int} {js:List Nat} {h:HpS} {s:Dev} {a u u0:Int} {L:List Int}
theorem HO.uu(H:HO kp c N bd old js h s a u u0 L):U64 s:=H.hw.u
theorem HO.nc(H:HO kp c N bd old js h s a u u0 L):(s.n:Int)=c.words:=by rw[H.ss.n];exact H.ss.hN
theorem HO.put(hc:bA c)(H:HO kp c N bd old js h s a u u0 L)(hx:h.X=none){i v:Int}(hv:0≤v∧v<18446744073709551616)(hi:c.active≤i∧i<N)
 (hk:(∃ k∈L,∃ j,orf s.load k≤j∧j+1<osz s.load k∧i=k+1+j)∨((v=0∨v∈L)∧((∃ k∈L,∃ j,0≤j∧j<orf s.load k∧i=k+1+j)∨∃ r:Nat,(r:Int)<c.roots∧i=c.root r)))
 (hr:(h.S.ff≤i∧i<h.S.ft)∨i.toNat∈js∨(js.length:Int)<c.log):
 ∃ S' s' js',h.S.store s i v= .ok (0,S') s'∧HO kp c N bd old js' {h with S:=S'} s' a u u0 L∧(∀ x∈js,x∈js')∧js'.length≤js.length+1∧(¬ (h.S.ff≤i∧i<h.S.ft)∨js'=js)∧∀ j:Int,c.active≤j→s'.load j=if j=i then v else s.load j:=by
 have hA:=ji hc
 have hN:=H.ss.hN
 obtain⟨S',s',js',e1,e2,e3,e4,e5,e6⟩:=vn H.ss hc (i:=i.toNat) v (by omega) hv H.uu (hr.imp (fun h=>by omega) id)
 rw[show((i.toNat:Nat):Int)=i by omega] at e1 e5 e6
 have hm':=H.hm.set hc e6 hk
 refine⟨S',s',js',e1,⟨H.hbd,H.hcc,H.ho,e2,e4.2.2.1.trans H.dd,hm',(mA H.ss.logw e1).readC hc H.nc H.rc,mC hc H.hcc H.hbd e2 (e4.2.2.1.trans H.dd) e3 hx H.hw.t1 H.hw.tl H.hw.tp,e4.1.trans H.ff,e4.2.1.trans H.ft,H.ule⟩,fun x hx=> ?_,?_,?_,e6⟩
 ·rcases e5 with e5 | ⟨e5,_⟩<;>rw[e5]
  ·exact hx
  ·exact List.mem_append_left _ hx
 ·rcases e5 with e5 | ⟨e5,_⟩<;>rw[e5]<;>simp
 ·rcases e5 with e5 | ⟨_,e5⟩
  ·exact .inr e5
  ·exact .inl (by simpa using e5)
theorem HO.alloc(hc:bA c)(H:HO kp c N bd old js h s a u u0 L)(hx:h.X=none){w r:Int}(hw:0≤r∧r≤w∧w≤64)(hroom:¬ c.space - u<w+1)(hr:(c.active+1).toNat∈js∨(js.length:Int)<c.log)(hl:h.T.last+1≤1000000000)(htl:h.T.at_.length+1≤800000):
 ∃ h' s' js',h.alloc s w r= .ok (((h.T.take (c.frm a+u)).1,0),h') s'∧HO kp c N bd old js' h' s' a (u+(w+1)) u0 (L++[c.frm a+u])∧h'.X=none∧h'.T=(h.T.take (c.frm a+u)).2∧(js'=js∨js'=js++[(c.active+1).toNat])∧js'.length≤js.length+1∧
  ∀ j,c.active≤j→s'.load j=if c.frm a+u≤j∧j<c.frm a+u+(w+1) then (if j=c.frm a+u then eC w r else 0) else if j=c.active+1 then u+(w+1) else s.load j:=by
 have hu0:=H.hm.u0
 have hf:=vx hc H.hm.a01
 have hr1':=hc.r1
 have hle:=H.ule
 obtain⟨S',s',js',e1,e2,e3,e4,e5,e5',e6,e7⟩:=zK hc H.ss H.uu H.hm hw hroom (by rw[H.ff];omega) H.ft (by rw[H.ff];omega) hr
 have hT:=CX (T:=h.T) (k:=c.frm a+u) ⟨H.hw.t1.1,hl⟩ htl H.hw.tp (by omega)
 refine⟨{h with S:=S',T:=(h.T.take (c.frm a+u)).2},s',js',?_,⟨H.hbd,H.hcc,H.ho,e2,e4.2.2.1.trans H.dd,e6,(zF H.ss.logw e1).readC hc H.nc H.rc,mC hc H.hcc H.hbd e2 (e4.2.2.1.trans H.dd) e3 hx hT.1 hT.2.1 hT.2.2,e4.1.trans H.ff,e4.2.1.trans H.ft,by omega⟩,hx,rfl,e5',e5,e7⟩
 unfold HpS.alloc
 rw[if_pos H.ho,H.hcc,e1]
 simp only[aR]
 rw[if_neg (by simp)]
theorem HO.obj(hc:bA c)(H:HO kp c N bd old js h s a u u0 L){n k:Int}(hn:bK h.T.at_ n=some k)(hk:k∈L):h.obj s n=((osz s.load k - 1,orf s.load k,k),0):=by
 unfold HpS.obj
 rw[hn,if_pos (show(some k).isSome=true from rfl),H.blk,H.hcc]
 show s.objOf c _ k=_
 exact(rO hc H.hm.bw H.hm.heap hk).1
theorem HO.write(hc:bA c)(H:HO kp c N bd old js h s a u u0 L)(hx:h.X=none){n k i v:Int}(hn:bK h.T.at_ n=some k)(hk:k∈L)(hi:orf s.load k≤i∧i+1<osz s.load k)(hv:0≤v∧v<18446744073709551616)(hr:(h.S.ff≤k+1+i∧k+1+i<h.S.ft)∨(k+1+i).toNat∈js∨(js.length:Int)<c.log):
 ∃ h' s' js',h.write s n i v= .ok (0,h') s'∧HO kp c N bd old js' h' s' a u u0 L∧h'.X=none∧h'.T=h.T∧(∀ x∈js,x∈js')∧js'.length≤js.length+1∧(¬ (h.S.ff≤k+1+i∧k+1+i<h.S.ft)∨js'=js)∧∀ j:Int,c.active≤j→s'.load j=if j=k+1+i then v else s.load j:=by
 have hz:=ic s.load k
 have hf:=vx hc H.hm.a01
 have hr1':=hc.r1
 have ht:=H.hm.tile.mem hk
 have hu0:=H.hm.u0
 have hN:=H.ss.hN
 obtain⟨S',s',js',e1,e2,e3,e4,e5,e6⟩:=H.put hc hx (i:=k+1+i) hv (by omega) (.inl ⟨k,hk,i,hi.1,hi.2,rfl⟩) hr
 refine⟨_,s',js',?_,e2,hx,rfl,e3,e4,e5,e6⟩
 have ho:cm (osz s.load k - 1,orf s.load k,k) i false=(k+1+i,0):=by
  unfold cm
  rw[if_neg (by simp only;omega),if_neg (by simp;omega)]
 unfold HpS.write
 rw[if_pos H.ho,H.obj hc hn hk,if_neg (by simp)]
 unfold iL
 simp only
 rw[ho,if_neg (by simp),show gi (k+1+i) v s h.S= .ok (0,S') s' from e1]
 rfl
theorem HO.commit(hc:bA c)(H:HO kp c N bd old js h s a u u0 L)(hx:h.X=none):
 ∃ h' s',h.commit s= .ok (0,h') s'∧HC kp c N bd h' s' a u L∧h'.X=none∧h'.T=h.T∧(kp→A5 s')∧∀ j:Int,c.active≤j→s'.load j=s.load j:=by
 have hA:=ji hc
 have hN:=H.ss.hN
 obtain⟨s',e1,e2,e3,e4,e5,e6⟩:=xX H.ss hc
 have hk:=C2 H.ss.logw
 have hck:=uA H.ss.logw e1
 have hu':=hck.1 H.uu
 have hld:∀ j:Int,c.active≤j→s'.load j=s.load j:=fun j hj=>by
  unfold Dev.load Dev.has
  rw[e3,H.ss.n]
  split
  ·rw[e4,oa (by omega)]
  ·rfl
 have h8:K8 s s':=⟨by rw[e3,H.ss.n],fun x hx=>by rw[e4,oa (by omega)]⟩
 have hsk:SK c N bd {h.S with L:=h.S.L.shut} s':=⟨e2,hu',e3,hN,hk.2.2.1.trans H.ss.hc,hk.1,hk.2.1,hk.2.2.2.trans H.dd,e6⟩
 refine⟨{h with o:=false,S:={h.S with L:=h.S.L.shut}},s',?_,⟨H.hbd,H.hcc,rfl,hsk,H.hm.congr hc hld,h8.readC hc H.nc H.rc,⟨H.hw.c,⟨hsk.lw,by rw[e3];omega,by rw[H.hbd];exact hsk.ld,by rw[H.hcc];exact hsk.lc⟩,fun x=>(by cases x),hu',H.hw.t1,H.hw.tl,H.hw.tp,fun X hX=>by rw[show h.X=some X from hX] at hx;cases hx⟩,fun hp=>(e5 hp).kept⟩,hx,rfl,e5,hld⟩
 unfold HpS.commit
 rw[if_pos H.ho,e1]
 rfl
end
theorem xG(B:World)(Fr:List HP)(x0 x1 x2:Int)(hx:0≤x0∧0≤x1∧0≤x2)(c:Cfg)(hcm:c=mkC x0 x1 x2):
 ∀ w,Holds B Fr w→Calls Tryz.prog 44 [.agg #[u16 x0,u16 x1,u16 x2],.slice none 0 0].toArray w (Ret B (fun rv H'=>∃ (bd bh bm br N:Nat) (s:Dev),(N:Int)=c.words∧HC True c N bd (iM bd c s) s 0 0 []∧rv= .tuple #[ptr bd,ptr bh,ptr bm]∧H'=dH bh (iM bd c s)::aB bd s::eF bm br c.roots.toNat c::eE br c.roots.toNat::Fr) (fun _ _=>False)):=by
 refine an func44 aa ntmps44 aa ?_
 have hc:bA c:=by rw[hcm];exact wA hx.1 hx.2.1 hx.2.2
 have hA:=ji hc
 have hr1:=hc.r1
 refine ac (ab (kPb (aX aa) aa fun b2=>(kPa aa aa (kPa aa aa (kPa aa aa (ad (ac (ab (kPv (ag isAgg96 sizeOf96 aa aa) aa ?_)))))))))
 refine aw aa (au call73 aa) (wB _ _ x0 x1 x2 hx.1 hx.2.1 hx.2.2) .free aa aa ?_
 refine kPb (aC zeroValue134 aa) aa fun b7=>(kPs (ax (vs:=_) sizeOf134 aa aa aa aa aa) aa (ad (ac ?_)))
 rw[←hcm]
 refine ab (kPv (ag isAgg134 sizeOf134 aa aa) aa ?_)
 refine kPm aa aa (aH aa (au call74 aa) (dW _ _ c hc none 0 [] (by decide) (fun _ h=>absurd h (Nat.not_lt_zero _)) SlR.nil) .free aa aa ?_)
 rintro _ _ ⟨bd,pa,N,s0,hN,hf,rfl,rfl⟩
 have hfm:=pf hc hN hf
 have hu0:=il (kv pa N) hc hf
 have hOk:=hfm.okd hc hN hu0
 have hHC:=hfm.hc hc hN hu0 bd
 have hsn:=hfm.n
 refine kPm aa aa (kPv (aA aa aa) aa (kPv (aA aa aa) aa (kPa aa aa (kPa aa aa (ad (am [9,8,7,6,5,4] rfl (ac (ac (ab (kPm aa aa (kPv (bz aa) aa ?_)))))))))))
 refine ad (bH aa (rfl) (ar (ac (ab (kPm aa aa ?_)))))
 refine aU aa (au call75 aa) (xZ B _ bd s0 hu0 (by omega)) .free aa aa ?_ ?_
 rotate_left
 ·rintro _ _ ⟨s9,hE,hun,rfl,rfl⟩
  exact(hOk.noff hun).elim
 rintro _ _ hor
 rcases hor with ⟨e,he,hE,_,_⟩ | ⟨bh,L',s',hE,hun,rfl,rfl⟩
 ·exact absurd (hOk.open_ hc hE) he
 obtain rfl:=hOk.undo hun
 rw[show s'.readC.1=c by rw[hOk.rc]]
 refine kPm aa aa (kPv (aA aa aa) aa (kPv (aA aa aa) aa (kPa aa aa (kPa aa aa (ad (am [11,10,8,7,6,5,4] rfl (ac (ac (ab (kPm aa aa (kPv (ao aa aa aa) aa ?_)))))))))))
 refine kPm aa aa ?_
 apply gP (tp:=32) (t:=29) (σ1:=[(29,_),(10,_),(8,_),(7,_),(6,_),(5,_),(4,_)]) 3 rfl (aE rfl)
 ·intro hg1
  refine al aa (ak aa) (.on aa aa (ae hg1)) aa aa (al aa (df runUnderlying91 aa aa aa) (.on aa aa (ae hg1)) aa aa (kPv (aJ aa hg1 aa) aa ?_))
  exact aY aa (aE aa) (gg hg1)
 ·intro hg1
  refine ap aa (.on aa aa (ai hg1)) aa (ap aa (.on aa aa (ai hg1)) aa (kPv (ay aa hg1 aa) aa ?_))
  exact aY aa (aE aa) (ge hg1)
 refine ad (bH aa (rfl) (ar (ac (ab (kPm aa aa (kPm aa aa (kPv (ag isAgg134 sizeOf134 aa aa) aa ?_)))))))
 refine aH aa (au call76 aa) (By B _ c hc c.roots.toNat (by omega)) .free aa aa ?_
 rintro _ _ ⟨bm,br,rfl,rfl⟩
 refine kPa aa aa (kPa aa aa (kPa aa aa (ad (am [6,5,4] rfl (az ?_)))))
 exact tv results44 (.tmp aa) (.tmp aa) (.tmp aa) (fun w hw=>⟨_,⟨bd,bh,bm,br,N,_,hN,hHC,rfl,rfl⟩,((hw.dp [4,4]).pk [2,2])⟩)
theorem mJ{B:World}{P:Program}{f:FuncId}{vs:Array Value}{bh bd:Nat}{Fr:List HP}{α:Type}{m:Out (α×HpS)}{enc:α→Value}{a:α}{h':HpS}{s':Dev}(e:m= .ok (a,h') s'){w:World}(h:Calls P f vs w (Ret B (fun rv H'=>∃ a h' s',m= .ok (a,h') s'∧rv=enc a∧H'=dH bh h'::aB bd s'::Fr) (fun ch H'=>∃ s',m= .off s'∧ch=dV∧H'=aB bd s'::Fr))):
 Calls P f vs w (Ret B (fun rv H'=>rv=enc a∧H'=dH bh h'::aB bd s'::Fr) (fun _ _=>False)):=
 h.mono (Ret.mono (fun rv H' ⟨a1,h1,s1,e1,e2,e3⟩=>by rw[e] at e1;cases e1;exact⟨e2,e3⟩) (fun ch H' ⟨s1,e1,_⟩=>by rw[e] at e1;cases e1))
theorem Cp{h h':HpS}{s s':Dev}{room:Int}(ho:h.o=false)(hb:h.begR s room 0 h' s'):h'.X=none:=by
 rcases hb with ⟨h1,_⟩ | ⟨_,_,h1,_⟩ | ⟨_,_,a1,h1,s1,hor,hor2⟩
 ·rw[ho] at h1;cases h1
 ·cases h1
 rcases hor2 with ⟨h3,h4,_⟩ | ⟨_,_,h4,_⟩ | ⟨rfl,_,_,rfl,_⟩
 ·exact absurd h4.symm h3
 ·cases h4
 ·rcases hor with ⟨_,h2⟩ | ⟨_,_,rfl,_⟩
  ·rcases h2 with ⟨h5,_⟩ | ⟨_,X,s2,_,S',_,hor3⟩
   ·rw[show h.o=true from h5] at ho;cases ho
   ·rcases hor3 with ⟨_,rfl⟩ | ⟨_,ord,_,rfl⟩<;>rfl
  ·rfl
section
variable {B:World} {Fr:List HP} {bh bd:Nat} {h h':HpS} {s s':Dev}
theorem CT(hW:ei h s)(hb:h.bd=bd){n i v x:Int}(hv:0≤v∧v<18446744073709551616)(e:h.write s n i v= .ok (x,h') s'):∀ w,Holds B (dH bh h::aB bd s::Fr) w→Calls Tryz.prog 48 [ptr bh,i64 n,i64 i,w64 v].toArray w (Ret B (fun rv H'=>rv=i64 x∧H'=dH bh h'::aB bd s'::Fr) (fun _ _=>False)):=by
 subst hb;exact fun w hw=>mJ e (xY B Fr bh h s hW n i v hv w hw)
theorem Cd(hW:ei h s)(hb:h.bd=bd){x:Int}(e:h.commit s= .ok (x,h') s'):∀ w,Holds B (dH bh h::aB bd s::Fr) w→Calls Tryz.prog 49 [ptr bh].toArray w (Ret B (fun rv H'=>rv=i64 x∧H'=dH bh h'::aB bd s'::Fr) (fun _ _=>False)):=by
 subst hb;exact fun w hw=>mJ e (vt B Fr bh h s hW w hw)
theorem DT(hW:ei h s)(hb:h.bd=bd){w_ r at_ x:Int}(e:h.alloc s w_ r= .ok ((at_,x),h') s'):∀ w,Holds B (dH bh h::aB bd s::Fr) w→Calls Tryz.prog 47 [ptr bh,.agg #[i64 w_,i64 r]].toArray w (Ret B (fun rv H'=>rv= .tuple #[i64 at_,i64 x]∧H'=dH bh h'::aB bd s'::Fr) (fun _ _=>False)):=by
 subst hb;exact fun w hw=>mJ (enc:=fun a:Int×Int=> .tuple #[i64 a.1,i64 a.2]) e (vp B Fr bh h s hW w_ r w hw)
theorem C0(hW:ei h s)(hb:h.bd=bd):∀ w,Holds B (dH bh h::aB bd s::Fr) w→Calls Tryz.prog 50 [ptr bh].toArray w (aZ B (dH bh h::aB bd s::Fr) (CB (h.stats s))):=by
 subst hb;exact qB B Fr bh h s hW
theorem DO{kp:Prop}{c:Cfg}(hc:bA c){N:Nat}{a u:Int}{L:List Int}(H:HC kp c N bd h s a u L){room:Int}(h0:0≤room)(hr:¬ c.space - u<room):∀ w,Holds B (dH bh h::aB bd s::Fr) w→Calls Tryz.prog 46 [ptr bh,i64 room].toArray w (Ret B (fun rv H'=>∃ h',h'.X=none∧h'.T=h.T∧HO kp c N bd s.now [] h' s a u u L∧rv=i64 0∧H'=dH bh h'::aB bd s::Fr) (fun _ _=>False)):=by
 have hb:=H.hbd
 subst hb
 refine fun w hw=>(x6 B Fr bh h s H.hw H.bok room w hw).mono (Ret.mono ?_ ?_)
 ·rintro rv H' ⟨x,h',s',hb,rfl,rfl⟩
  obtain⟨rfl,rfl,hT,HO'⟩:=H.begin hc h0 hr hb
  have hx:h'.X=none:=Cp H.ho hb
  exact⟨h',hx,hT,HO',rfl,rfl⟩
 ·rintro ch H' ⟨s',⟨_,h1,_⟩,_⟩
  rw[H.blk,H.hcc] at h1
  exact absurd h1 hr
end
end Go.Proofs.YtoakdoeajpjgkaaGreatDoor
