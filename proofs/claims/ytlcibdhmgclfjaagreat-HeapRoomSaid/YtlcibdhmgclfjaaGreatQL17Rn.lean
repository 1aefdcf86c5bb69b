/- Part of a law's texts. Conditions: none. -/
import Derived.Test.YtlcibdhmgclfjaaGreatQL17Rm
import Derived.ProofKit
import Derived.OpenShut
import Derived.ChangeOld
import Derived.Below
import Derived.ChangeSlices
import Derived.Deep.Grids
import Derived.Deep.Strs
open Go.Proofs.Tryz
set_option linter.all false
namespace Go.Proofs.YtlcibdhmgclfjaaGreat
open Go
def dS(c:Cfg)(b:Blk)(ml:List (Int×du))(v:Int):Bool:=v==0||(b.has c v&&(bi ml v).isSome)
def ve(s:Dev)(nf:Int→Bool)(o:du):Bool:=(List.range o.2.1.toNat).all fun k=>nf (s.load (o.2.2+1+(k:Int)))
def stC(s:Dev)(nf:Int→Bool)(p:du×Int)(x:Int):Bool×Int:=if ve s nf p.1=true then (true,x) else (false,9)
def Dev.check(s:Dev)(c:Cfg):Int:=
 if (s.block c).2≠0 then (s.block c).2
 else if (s.starts c (s.block c).1).2≠0 then (s.starts c (s.block c).1).2
 else if (s.block c).1.rts.all (dS c (s.block c).1 (s.starts c (s.block c).1).1)=true then
  (itl (stC s (dS c (s.block c).1 (s.starts c (s.block c).1).1)) (s.objs c (s.block c).1 ((s.block c).1.used.toNat+1) ((s.block c).1.place c 0)) 0).2
 else 9
theorem AS(o:Option du):sr iF (.agg #[i64 0,i64 0,i64 0]) o=iF (o.getD (0,0,0)):=by cases o<;>rfl
theorem sm{α:Type}{l:List α}{f:α→Bool}{k:Nat}(hk:k<l.length)(h:(l.take k).all f=true)(h2:f l[k]=true):(l.take (k+1)).all f=true:=by
 rw[List.take_succ_eq_append_getElem hk,List.all_append,h];simp[h2]
theorem qK{f:Nat→Bool}{k:Nat}(h:(List.range k).all f=true)(h2:f k=true):(List.range (k+1)).all f=true:=by
 rw[List.range_succ,List.all_append,h];simp[h2]
theorem tG(B:World)(Fr:List HP)(b1 b2 b3 mb:Nat)(c:Cfg)(hc:bC c)(b:Blk)(sv:Value)(hb:fg c b)(hsv:aV sv=true)(ml:List (Int×du))(v:Int)(hv:0≤v∧v<18446744073709551616):
 ∀ w,Holds B (row b1 [i64 b.act,i64 b.used,sv] 95::row b2 [i64 c.log,i64 c.roots,i64 c.space] 40::row b3 [.map (some mb)] 176::bJ .i64 iF mb ml::Fr) w→Calls Tryz.prog 134 [w64 v,ptr b1,ptr b2,ptr b3].toArray w (bB B (row b1 [i64 b.act,i64 b.used,sv] 95::row b2 [i64 c.log,i64 c.roots,i64 c.space] 40::row b3 [.map (some mb)] 176::bJ .i64 iF mb ml::Fr) (.bool (dS c b ml v))):=by
 refine au func134 aa ntmps134 aa (ac (ab (kPa aa aa (ad (ac (ac (ab (kPm aa aa (kPv (an aa aa aa) aa (ad ?_))))))))))
 refine aW aa (fun h9=> ?_) (fun h9=> ?_)
 ·have hres:dS c b ml v=true:=by unfold dS;simp[show v=0 by simpa using h9]
  refine ac (ab (kPa aa aa (ad (az ?_))))
  exact ax results134 aa (fun w hh=>⟨by rw[hres],hh⟩)
 ·have hne:¬ v=0:=by simpa using h9
  refine ay (ac (ac (ab (kPv (am isAgg95 sizeOf95 aa aa) aa ?_))))
  refine kPv (am isAgg40 sizeOf40 aa aa) aa ?_
  refine kPm aa aa (aE aa (aA call135 aa) (rq _ _ c hc b sv hb hsv _ hv) .free aa aa ?_)
  refine kPv (bF aa) aa (ad (ao [14,5,0,3] rfl ?_))
  refine aW aa (fun h14=> ?_) (fun h14=> ?_)
  ·have hh0:b.has c v=false:=by simpa using h14
   have hres:dS c b ml v=false:=by unfold dS;simp[hne,hh0]
   refine ac (ab (kPa aa aa (ad (az ?_))))
   exact ax results134 aa (fun w hh=>⟨by rw[hres],hh⟩)
  ·have hh0:b.has c v=true:=by simpa using h14
   have hvb:=jX hc hb hh0
   have hres:dS c b ml v=(bi ml v).isSome:=by unfold dS;simp[hne,hh0]
   refine ay (ac (ab (kPv (ae isAgg176 aa aa) aa (kPm aa aa (kPv (bP runUnderlying26 runUnderlying3 aa) aa (kPv ((fE runUnderlying176 runUnderlying3 zeroValue105 aa aa).eq (congrArg (fun v=>Value.tuple #[v,.bool _]) (AS _))) aa (kPm aa aa (kPv (aB aa aa) aa (kPv (aB aa aa) aa (aC aa (aN zeroValue105 aa) .free aa aa ?_))))))))))
   rintro _ _ ⟨b6,rfl,rfl⟩
   refine aD aa (aI (vs:=[i64 _,i64 _,i64 _]) sizeOf105 aa aa aa aa aa) .free aa ?_
   rintro _ _ rfl
   refine kPa aa aa (ad (ao [7,5] rfl (ac (ab (kPm aa aa (kPa aa aa (ad (az ?_))))))))
   exact ax results134 aa (fun w hh=>⟨by rw[hres];rfl,hh.tail⟩)
theorem mn(B:World)(Fr:List HP)(bd:Nat)(s:Dev)(c:Cfg)(hc:bC c)(hu:U64 s):
 ∀ w,Holds B (aG bd s::Fr) w→Calls Tryz.prog 68 [ptr bd,eO c].toArray w (bB B (aG bd s::Fr) (i64 (s.check c))):=by
 refine go func68 aa ntmps68 aa ?_
 have hrl:=fQ (s:=s) hc
 refine ac (ab (aC aa (dA aa aa) .free aa aa ?_))
 rintro _ _ ⟨b2,rfl,rfl⟩
 refine aC aa (bx aa) .free aa aa ?_
 rintro _ _ ⟨b3,rfl,rfl⟩
 refine kPa aa aa (ad (C5 (ac (ab (kPv (ae isAgg28 aa aa) aa (kPv (am isAgg40 sizeOf40 aa aa) aa ?_))))))
 refine aJ [2] (aQ aa (aA call111 aa) (gL _ _ _ _ c hc hu) .free aa aa ?_)
 rintro _ _ ⟨sv,hsv,rfl,rfl⟩
 have hbk:=dM (s:=s) hc hu
 refine kPm aa aa (kPv (aB aa aa) aa (kPv (aB aa aa) aa (aC aa (aN zeroValue95 aa) .free aa aa ?_)))
 rintro _ _ ⟨b5,rfl,rfl⟩
 refine aD aa (aI (vs:=[i64 _,i64 _,sv]) sizeOf95 aa aa aa (gK hsv) aa) .free aa ?_
 rintro _ _ rfl
 refine kPa aa aa (ad (ao [6,5,4,3,2] rfl (ac (ac (ab (kPm aa aa (kPv (an aa aa aa) aa (ad ?_))))))))
 refine aW aa (fun h21=> ?_) (fun h21=> ?_)
 ·have he:(s.block c).2≠0:=by simpa using h21
  have hres:s.check c=(s.block c).2:=by unfold Dev.check;rw[if_pos he]
  refine ac (ab (kPm aa aa (kPa aa aa (ad (az ?_)))))
  exact gx results68 aa (.nil) (fun w hh=>⟨by rw[hres]<;>rfl,(hh.dp [0,0,1,1])⟩)
 ·have he:(s.block c).2=0:=by simpa using h21
  refine ay (ac (ab (kPv (ae isAgg28 aa aa) aa (kPv (am isAgg40 sizeOf40 aa aa) aa ?_))))
  refine kPv (am isAgg95 sizeOf95 aa aa) aa ?_
  refine aJ [2] (aQ aa (aA call133 aa) (pZ _ _ bd s c hc (s.block c).1 sv hbk hsv) .free aa aa ?_)
  rintro _ _ ⟨mb,rfl,rfl⟩
  refine kPm aa aa (kPv (aB aa aa) aa (kPv (aB aa aa) aa (aC aa (cA zeroValue176 aa) .free aa aa ?_)))
  rintro _ _ ⟨b7,rfl,rfl⟩
  refine aD aa (aR sizeOf176 aa aa aa aa) .free aa ?_
  rintro _ _ rfl
  refine kPa aa aa (ad (ao [6,7,5,4,3,2] rfl (ac (ac (ab (kPm aa aa (kPv (an aa aa aa) aa (ad ?_))))))))
  refine aW aa (fun h31=> ?_) (fun h31=> ?_)
  ·have he2:(s.starts c (s.block c).1).2≠0:=by simpa using h31
   have hres:s.check c=(s.starts c (s.block c).1).2:=by unfold Dev.check;rw[if_neg (by omega),if_pos he2]
   refine ac (ab (kPm aa aa (kPa aa aa (ad (az ?_)))))
   exact gx results68 aa (.nil) (fun w hh=>⟨by rw[hres]<;>rfl,(hh.dp [0,0,1,1,1,1])⟩)
  ·have he2:(s.starts c (s.block c).1).2=0:=by simpa using h31
   refine ay (ac (ab (aC aa (cA zeroValue33 aa) .free aa aa ?_)))
   rintro _ _ ⟨b8,rfl,rfl⟩
   refine aD aa (aR sizeOf33 aa aa aa aa) .free aa ?_
   rintro _ _ rfl
   refine ad (ac (ab (kPv (dm aa aa) aa (aC aa (cA zeroValue181 aa) .free aa aa ?_))))
   rintro _ _ ⟨b9,rfl,rfl⟩
   refine aD aa (aR sizeOf181 aa aa aa aa) .free aa ?_
   rintro _ _ rfl
   refine aJ [6] (cP fun qo co hqe hqo=> ?_)
   subst hqe
   refine ad (ac (ac (ab (kPv (aj (m:=_) gM aa aa) aa (kPv (ae isAgg25 aa aa) aa (kPv (bY aa runUnderlying25 ⟨_,rfl⟩ rfl) aa (kPm aa aa (ad (aO (cR (ι:=Nat) [36,35,9,8,5,4,3,2] (fun k=>(k≤(s.block c).1.rts.length)∧(((s.block c).1.rts.take k).all (dS c (s.block c).1 (s.starts c (s.block c).1).1)=true)) (fun k=>[(37,i64 k)]) (fun k=>row b5 [i64 (s.block c).1.act,i64 (s.block c).1.used,.slice qo (s.block c).1.rts.length co] 95::row b3 [i64 c.log,i64 c.roots,i64 c.space] 40::row b7 [.map (some mb)] 176::bJ .i64 iF mb (s.starts c (s.block c).1).1::dy 0 (.slice qo (s.block c).1.rts.length co,(s.block c).1.rts)::aG bd s::row b8 [i64 0] 33::row b9 [.func (.func 134) #[] #[ptr b5,ptr b3,ptr b7]] 181::row b2 [ptr bd] 28::Fr) (fun k=>(s.block c).1.rts.length - k) (0) (⟨Nat.zero_le _,rfl⟩) (fun a w st=>st.to ⟨rfl,trivial⟩ (fun hh=>(hh.pk [6,6,3,3,0,2,1]))) ?_))))))))))
   rintro k ⟨hk0,hkr⟩
   try simp only at hk0 hkr ⊢
   refine cg (σ':=[(37,i64 k),(36,_),(35,_),(9,_),(8,_),(5,_),(4,_),(3,_),(2,_)]) (aF aa) (ac (ab (kPv (an aa aa aa) aa (ad (ac ?_)))))
   refine aW aa (fun h38=> ?_) (fun h38=> ?_)
   ·have hk:k<(s.block c).1.rts.length:=by simp at h38;omega
    obtain⟨bq,oq,rfl⟩:=hqo k hk
    have hul:0≤(s.block c).1.rts[k]∧(s.block c).1.rts[k]<18446744073709551616:=gG hu _ (List.getElem_mem hk)
    refine ay (ac (aO (ac (ab (kPv (bZ runUnderlying25 sizeOf26 aa aa (by omega) (by omega)) aa ?_)))))
    refine kPv (bX (v:=w64 (s.block c).1.rts[k]) isAgg26 (de 4 aa) aa (by rw[Int.toNat_natCast,List.getElem?_map,List.getElem?_eq_getElem hk];rfl)) aa ?_
    refine kPa aa aa (ad (ac (ab (kPv (ae isAgg181 aa aa) aa (kPm aa aa ?_)))))
    refine aE aa (ku call134 aa aa) (tG B _ b5 b3 b7 mb c hc (s.block c).1 _ hbk aa (s.starts c (s.block c).1).1 (s.block c).1.rts[k] hul) .free aa aa ?_
    refine kPv (bF aa) aa (ad (ao [44,37,36,35,9,8,5,4,3,2] rfl ?_))
    refine aW aa (fun h44=> ?_) (fun h44=> ?_)
    ·have hnr:¬ (dS c (s.block c).1 (s.starts c (s.block c).1).1) (s.block c).1.rts[k]=true:=by simpa using h44
     have hres:s.check c=9:=by unfold Dev.check;rw[if_neg (by omega),if_neg (by omega),if_neg (fun hh=>hnr (List.all_eq_true.1 hh _ (List.getElem_mem hk)))]
     refine ac (ab (kPa aa aa (ad (az ?_))))
     exact gx results68 aa (.nil) (fun w hh=>⟨by rw[hres]<;>rfl,(hh.dp [0,0,0,0,0,1,1,1])⟩)
    ·have hnr:(dS c (s.block c).1 (s.starts c (s.block c).1).1) (s.block c).1.rts[k]=true:=by simpa using h44
     refine ay (ab (kPv (aS aa aa) aa (kPm aa aa (ad ?_))))
     exact fun a w st_=>⟨k+1,⟨by first | omega | (simp only;omega),sm hk hkr hnr⟩,by first | omega | (simp only;omega),st_.to (aF aa) (fun hh=>hh)⟩
   ·have hk:¬ k<(s.block c).1.rts.length:=by simp at h38;omega
    obtain rfl:k=(s.block c).1.rts.length:=by omega
    have hres:s.check c=(itl (stC s (dS c (s.block c).1 (s.starts c (s.block c).1).1)) (s.objs c (s.block c).1 ((s.block c).1.used.toNat+1) ((s.block c).1.place c 0)) 0).2:=by unfold Dev.check;rw[if_neg (by omega),if_neg (by omega),if_pos (by rw[List.take_length] at hkr;exact hkr)]
    refine bT (ac (C7 (ac (ac (ab (kPv (ae isAgg28 aa aa) aa (kPv (am isAgg40 sizeOf40 aa aa) aa ?_)))))))
    refine kPv (am isAgg95 sizeOf95 aa aa) aa ?_
    refine aQ aa (aA call136 aa) (p8 _ _ bd c (s.block c).1 (.slice qo (s.block c).1.rts.length co) aa) .free aa aa ?_
    rintro _ _ ⟨c3,c4,c5,rfl,rfl⟩
    refine ad (ao [49,9,8,4,2] rfl (aO (nL aa call170 ?_)))
    intro l m tmps hts hkn w hh
    have hk9:=hkn 9 _ rfl
    have hk2:=hkn 2 _ rfl
    have hk8:=hkn 8 _ rfl
    refine(uM B (blk m (.deferred (some []))::dy 0 (.slice qo (s.block c).1.rts.length co,(s.block c).1.rts)::Fr) l 68 c3 c4 c5 bd c hc (s.block c).1 _ hbk aa s Int _ aa aa (fun x=>True) (fun x=>[row b8 [i64 x] 33,row b5 [i64 (s.block c).1.act,i64 (s.block c).1.used,.slice qo (s.block c).1.rts.length co] 95,row b3 [i64 c.log,i64 c.roots,i64 c.space] 40,row b7 [.map (some mb)] 176,bJ .i64 iF mb (s.starts c (s.block c).1).1,row b9 [.func (.func 134) #[] #[ptr b5,ptr b3,ptr b7]] 181,row b2 [ptr bd] 28]) (fun _=> .exit 2) (stC s (dS c (s.block c).1 (s.starts c (s.block c).1).1)) 0 trivial ?_ w (hh.pk [0,1,1,1,6,6,1,1,1,1,2,2])).mono (Ret.mono ?_ fun _ _ h=>h.elim)
    ·intro p x hpw _
     have hp2:=hpw.r
     have hp1:=hpw.w
     have hp3:=hpw.at_
     refine⟨trivial,fun E=> ?_⟩
     simp only[List.cons_append,List.nil_append]
     refine jd (n:=70) (σ:=[(50,iF p.1),(51,i64 p.2),(9,ptr b9),(2,ptr b2),(8,ptr b8)]) func68 (by simp[ii,hts]) (KnA.knows (by simp[KnA,ii,hts];exact⟨(Array.getElem?_eq_some_iff.1 hk9).2,(Array.getElem?_eq_some_iff.1 hk2).2,(Array.getElem?_eq_some_iff.1 hk8).2⟩)) aa ?_
     refine ab (aC aa (aN zeroValue105 aa) .free aa aa ?_)
     rintro _ _ ⟨b12,rfl,rfl⟩
     refine aD aa (aI (vs:=[i64 p.1.1,i64 p.1.2.1,i64 p.1.2.2]) sizeOf105 aa aa aa aa aa) .free aa ?_
     rintro _ _ rfl
     refine ad (aJ [1] (mS (aO (ac ?_))))
     generalize hrec:({state:=LoopState.busy, ..}:Loop)=rec
     refine ab (kPv (aj (m:=_) fD aa aa) aa (kPv (aj (m:=_) fP aa aa) aa (kPv (ae isAgg3 aa aa) aa (kPm aa aa (ad (aO ?_))))))
     refine cR (ι:=Nat) [54,12,9,2,8] (fun j=>((j:Int)≤p.1.2.1)∧((List.range j).all (fun k=>(dS c (s.block c).1 (s.starts c (s.block c).1).1) (s.load (p.1.2.2+1+(k:Int))))=true)) (fun j=>[(55,i64 j)]) (fun j=>row b5 [i64 (s.block c).1.act,i64 (s.block c).1.used,.slice qo (s.block c).1.rts.length co] 95::row b3 [i64 c.log,i64 c.roots,i64 c.space] 40::row b7 [.map (some mb)] 176::bJ .i64 iF mb (s.starts c (s.block c).1).1::row b12 [i64 p.1.1,i64 p.1.2.1,i64 p.1.2.2] 105::blk l (.loop rec)::row c5 [i64 (s.block c).1.act,i64 (s.block c).1.used,.slice qo (s.block c).1.rts.length co] 95::row c4 [i64 c.log,i64 c.roots,i64 c.space] 40::row c3 [ptr bd] 28::aG bd s::row b8 [i64 x] 33::row b9 [.func (.func 134) #[] #[ptr b5,ptr b3,ptr b7]] 181::row b2 [ptr bd] 28::E) (fun j=>p.1.2.1.toNat - j) (0) (⟨by first | omega | (simp only;omega),rfl⟩) (fun a w st=>st.to ⟨rfl,trivial⟩ (fun hh=>(hh.pk [7,7,7,7,1]))) ?_
     rintro j ⟨hj0,hall⟩
     try simp only at hj0 hall ⊢
     refine cg (σ':=[(55,i64 j),(54,_),(12,_),(9,_),(2,_),(8,_)]) (aF aa) (ac (ab (kPv (an aa aa aa) aa (ad (ac ?_)))))
     refine aW aa (fun h56=> ?_) (fun h56=> ?_)
     ·have hj:(j:Int)<p.1.2.1:=by simpa using h56
      refine ay (ac (aO (ac (ab (kPm aa aa (kPa aa aa (ad (ac (cK Tryz.mixed (by kernel_rfl) (by kernel_rfl) ?_)))))))))
      refine kQv (ae isAgg181 aa aa) aa (kQv (ae isAgg28 aa aa) aa (kQv (aj (m:=_) lY aa aa) aa (kQv (ae isAgg3 aa aa) aa (kQv (aS aa aa) aa (kQm aa aa (kQv (aS aa aa) aa (bH aa (aA call71 aa) (bU (q:=aG) (fun Fr=>cH _ Fr _ _ _)) .free aa ?_)))))))
      refine bH aa (ku call134 aa aa) (tG B _ b5 b3 b7 mb c hc (s.block c).1 _ hbk aa (s.starts c (s.block c).1).1 (s.load (p.1.2.2+1+(j:Int))) (hu.load _)) .free aa ?_
      refine kQv (bF aa) aa (bR (ao [67,55,54,12,9,2,8] rfl ?_))
      refine aW aa (fun h67=> ?_) (fun h67=> ?_)
      ·have hnall:¬ (dS c (s.block c).1 (s.starts c (s.block c).1).1) (s.load (p.1.2.2+1+(j:Int)))=true:=by simpa using h67
       subst hrec
       refine ac (ab (aD aa (aR sizeOf33 aa aa aa aa) .free aa ?_))
       rintro _ _ rfl
       refine ad (bT ?_)
       have hst:stC s (dS c (s.block c).1 (s.starts c (s.block c).1).1) p x=(false,9):=by unfold stC;rw[if_neg (show ¬ ve s (dS c (s.block c).1 (s.starts c (s.block c).1).1) p.1=true from fun hh=>hnall (List.all_eq_true.1 hh j (List.mem_range.2 (by omega))))]
       refine aJ [5] ?_
       exact DP fun w hh=>⟨_,⟨by rw[hst],rfl⟩,by rw[hst];exact((hh.dp [5]).pk [0,4,4,4,4,4])⟩
      ·have hnm:(dS c (s.block c).1 (s.starts c (s.block c).1).1) (s.load (p.1.2.2+1+(j:Int)))=true:=by simpa using h67
       refine ay (ab (kPv (aS aa aa) aa (kPm aa aa (ad ?_))))
       exact fun a w st_=>⟨j+1,⟨by first | omega | (simp only;omega),qK hall hnm⟩,by first | omega | (simp only;omega),st_.to (aF aa) (fun hh=>hh)⟩
     ·have hj:¬ (j:Int)<p.1.2.1:=by simpa using h56
      have hall2:ve s (dS c (s.block c).1 (s.starts c (s.block c).1).1) p.1=true:=by unfold ve;rw[show p.1.2.1.toNat=j by omega];exact hall
      subst hrec
      refine bT ?_
      have hst:stC s (dS c (s.block c).1 (s.starts c (s.block c).1).1) p x=(true,x):=by unfold stC;rw[if_pos hall2]
      refine aJ [5] ?_
      exact nH fun w hh=>⟨_,⟨by rw[hst],rfl⟩,by rw[hst];exact((hh.dp [5]).pk [0,4,4,4,4,4])⟩
    rintro _ _ ⟨_,rfl⟩
    simp only[List.cons_append,List.nil_append]
    refine⟨_,_,fun w hh=>hh,nB (by simp[ii]),fun hp=> ?_,fun c' hc'=> ?_⟩
    rotate_left
    ·obtain⟨h1,rfl⟩:=nz rfl hc'
     refine bT (ac (ab (kPv (ae isAgg33 aa aa) aa (kPa aa aa (ad (az ?_))))))
     exact gx results68 aa (.at 12 (.nil)) (fun w hh=>⟨by rw[hres]<;>rfl,(hh.dp [0,0,0,0,1,1,1,1,1,1,1,1,1])⟩)
    refine ac (ab (kPv (ae isAgg33 aa aa) aa (kPa aa aa (ad (az ?_)))))
    exact gx results68 aa (.at 12 (.nil)) (fun w hh=>⟨by rw[hres]<;>rfl,(hh.dp [0,0,0,0,1,1,1,1,1,1,1,1,1])⟩)
def jR(x:Blk×Int)(b:Blk)(e:Int):Bool:=x.1.act==b.act&&x.1.used==b.used&&x.1.rts==b.rts&&x.2==e
theorem eV{x:Blk×Int}{b:Blk}{e:Int}(h:jR x b e=true):x=(b,e):=by
 obtain⟨⟨a1,a2,a3⟩,a4⟩:=x
 obtain⟨b1,b2,b3⟩:=b
 simp only[jR,Bool.and_eq_true,beq_iff_eq] at h
 obtain⟨⟨⟨rfl,rfl⟩,rfl⟩,rfl⟩:=h
 rfl
def zp(x:Int×Int)(a e:Int):Bool:=x.1==a&&x.2==e
theorem pJ{x:Int×Int}{a e:Int}(h:zp x a e=true):x=(a,e):=by
 simp only[zp,Bool.and_eq_true,beq_iff_eq] at h
 exact Prod.ext h.1 h.2
def El(x:du×Int)(o:du)(e:Int):Bool:=x.1.1==o.1&&x.1.2.1==o.2.1&&x.1.2.2==o.2.2&&x.2==e
theorem CD{x:du×Int}{o:du}{e:Int}(h:El x o e=true):x=(o,e):=by
 simp only[El,Bool.and_eq_true,beq_iff_eq] at h
 exact Prod.ext (Prod.ext h.1.1.1 (Prod.ext h.1.1.2 h.1.2)) h.2
theorem jQ:bC ⟨3,1,48⟩:=⟨by decide,by decide,by decide,by decide,by decide,by decide⟩
theorem vr:(⟨3,1,48⟩:Cfg)=mkC 0 0 40:=rfl
abbrev c8:Cfg:=⟨3,1,8⟩
abbrev c48:Cfg:=⟨3,1,48⟩
theorem n48{N:Nat}(h:(N:Int)=c48.words):N=136:=by have:(N:Int)=136:=h.trans (by decide);omega
theorem wW(B:World)(Fr:List HP)(bd:Nat)(o:du)(ho:mu o)(i v:Int)(hv:0≤v∧v<18446744073709551616)(s:Dev)(hl:s.pow.lim<0)(hu:U64 s):
 ∀ w_,Holds B (aG bd s::Fr) w_→Calls Tryz.prog 61 [iF o,i64 i,w64 v,.func (.func 120) [ptr bd].toArray #[]].toArray w_ (Ret B (fun rv H'=>∃ x s',iC gV o i false v s ()= .ok (x,()) s'∧rv=i64 x∧s'.pow.lim<0∧s'.n=s.n∧U64 s'∧H'=aG bd s'::Fr) (fun _ _=>False)):=fun w_ hh=>by
 obtain⟨y,s2,hg,_,hg2,hg3⟩:=vM (o:=o) (i:=i) (v:=v) (r:=false) hl
 refine(sS B Fr _ [ptr bd] bd 0 Unit (fun _ _=>pr True) gV _ (wH B bd 0) o ho i v hv s () hu w_ ((hh.unpr (p:=True) trivial).back 1 (by simp))).mono fun en w' h=> ?_
 cases en with
 | returned rv=>
   obtain⟨H,⟨x,e',s',hm,rfl,hok,rfl⟩,hh⟩:=h
   obtain⟨rfl,rfl⟩:y=(x,e')∧s2=s':=by rw[hg] at hm;cases hm;exact⟨rfl,rfl⟩
   exact⟨_,⟨x,s2,hm,rfl,hg2,hg3,hok,rfl⟩,(hh.front 1 aa).tail⟩
 | panicked c=>
   obtain⟨H,⟨s',hm,_⟩,_⟩:=h
   rw[hg] at hm;cases hm
 | outgrown=>exact h
theorem Ds(pa:Nat):okB ((jW pa [] 56).format c8) (fun _ s=>jR (s.block c8) ⟨0,0,[0]⟩ 0)=true:=by kernel_rfl
theorem Dr(pa:Nat):okB ((jW pa [] 56).format c8) (fun _ s=>okB (db gV c8 2 0 s ()) fun x s1=>zp x.1 40 0&&okB (db gV c8 5 0 s1 ()) fun y _=>zp y.1 0 4)=true:=by kernel_rfl
theorem BY(pa:Nat):okB ((jW pa [] 136).format c48) (fun _ s=>okB (iT c48 [(1,2)] s []) fun out sF=>out==[40]&&jR (sF.block c48) ⟨0,3,[0]⟩ 0&&El (sF.objOf c48 ⟨0,3,[0]⟩ 40) (2,1,40) 0&&zp (sF.objRead (2,1,40) 0) 0 5&&okB (iC gV (2,1,40) 1 false 9 sF ()) fun a s2=>a.1==0&&zp (s2.objRead (2,1,40) 1) 9 0)=true:=by kernel_rfl
theorem BX(pa:Nat):okB ((jW pa [] 136).format c48) (fun _ s=>okB (iT c48 [(0,1)] s []) fun out sF=>out==[40]&&jR (sF.block c48) ⟨0,2,[0]⟩ 0&&okB (fz c48 ⟨0,2,[0]⟩ (dQ [] [40] 0) [40] 0 sF) fun n1 s1=>n1==some 0&&okB (gC c48 (dQ [] [40] 0) 1 0 0 s1) fun _ s2=>jR (s2.block c48) ⟨0,2,[0]⟩ 0&&(s2.starts c48 ⟨0,2,[0]⟩).1==[(40,(1,0,40))]&&(s2.starts c48 ⟨0,2,[0]⟩).2==0)=true:=by kernel_rfl
theorem BW(pa:Nat):okB ((jW pa [] 56).format c8) (fun _ s=>s.check c8==0&&okB (s.store 34 5) fun _ s1=>s1.check c8==9)=true:=by kernel_rfl
theorem Ab(B:World)(Fr:List HP):
 ∀ w,Holds B Fr w→Calls Tryz.prog 212 [].toArray w (bB B Fr (.bool true)):=by
 refine au func212 aa ntmps212 aa (ac (ab (kPa aa aa (ad (ac (ac (ab (aE aa (aA call213 aa) (Ac _ _) .free aa aa ?_))))))))
 refine kPv (bF aa) aa (ad (cf aa (rfl) (ay (ac (ab (kPv (aZ aa (eh _ _ _ aa aa aa)) aa (aC aa (aN zeroValue40 aa) .free aa aa ?_)))))))
 rintro _ _ ⟨b1,rfl,rfl⟩
 refine aD aa (aI (vs:=_) sizeOf40 aa aa aa aa aa) .free aa ?_
 rintro _ _ rfl
 refine ad (ac (ab (kPv (am isAgg40 sizeOf40 aa aa) aa ?_)))
 refine aQ aa (aA call49 aa) (eJ _ _ ⟨3,1,8⟩ gR none 0 [] (by decide) (fun _ h=>absurd h (Nat.not_lt_zero _)) SlR.nil) .free aa aa ?_
 rintro _ _ ⟨bd,pa,N,s0,hN,hf,rfl,rfl⟩
 obtain rfl:N=56:=by have:(N:Int)=56:=hN.trans (by decide);omega
 have hfm:=rB gR hN hf
 have hu0:=jr (lZ pa 56) gR hf
 refine kPm aa aa (kPv (aB aa aa) aa (kPv (aB aa aa) aa (kPa aa aa (kPa aa aa (ad (ao [3,2,1,0] rfl (ac (ac (ab (kPm aa aa (kPv (bF aa) aa ?_)))))))))))
 refine ad (cf aa (rfl) (ay (ac (ab (kPm aa aa (kPv (am isAgg40 sizeOf40 aa aa) aa ?_))))))
 refine aQ aa (aA call111 aa) (gL _ _ _ _ ⟨3,1,8⟩ gR hu0) .free aa aa ?_
 rintro _ _ ⟨sv,hsv,rfl,rfl⟩
 rw[eV (cE (Ds pa) hf)]
 refine cP fun qv cv hqv hqi=> ?_
 subst hqv
 refine kPm aa aa (kPv (aB aa aa) aa (kPv (aB aa aa) aa (aC aa (aN zeroValue95 aa) .free aa aa ?_)))
 rintro _ _ ⟨b4,rfl,rfl⟩
 refine aD aa (aI (vs:=_) sizeOf95 aa aa aa (by first | rfl | exact gK (by assumption)) rfl) .free rfl ?_
 rintro _ _ rfl
 refine kPa aa aa (ad (ao [5,4,1,0] rfl (ac (ab (kPm aa aa (kPv (an aa aa aa) aa (kPm aa aa (aq aa (aj (m:=_) lj aa aa) (.on aa aa (ah aa)) aa aa (aq aa (ae isAgg3 aa aa) (.on aa aa (ah aa)) aa aa (aq aa (an aa aa aa) (.on aa aa (ah aa)) aa aa (kPv (aH aa aa aa) aa ?_)))))))))))
 refine kPm aa aa (aq aa (aj (m:=_) fj aa aa) (.on aa aa (ah aa)) aa aa (aq aa (ae isAgg3 aa aa) (.on aa aa (ah aa)) aa aa (aq aa (an aa aa aa) (.on aa aa (ah aa)) aa aa (kPv (aH aa aa aa) aa (kPm aa aa (aq aa (aj (m:=_) gM aa aa) (.on aa aa (ah aa)) aa aa (aq aa (ae isAgg25 aa aa) (.on aa aa (ah aa)) aa aa (aq aa (bY aa runUnderlying25 ⟨_,rfl⟩ rfl) (.on aa aa (ah aa)) aa aa (aq aa (an aa aa aa) (.on aa aa (ah aa)) aa aa (kPv (aH aa aa aa) aa (kPm aa aa ?_)))))))))))
 refine aq aa (am isAgg95 sizeOf95 aa aa) (.on aa aa (ah aa)) aa aa ?_
 refine aq aa (am isAgg40 sizeOf40 aa aa) (.on aa aa (ah aa)) aa aa ?_
 refine aE aa (aA call112 aa) (je _ _ ⟨3,1,8⟩ gR ⟨0,0,[0]⟩ _ ⟨⟨by decide,by decide⟩,⟨by decide,by decide⟩⟩ hsv 3 (by decide)) (.on aa aa (ah aa)) aa aa ?_
 refine aq aa (an aa aa aa) (.on aa aa (ah aa)) aa aa (kPv (aH aa aa aa) aa (kPa aa aa (ad (ao [0] rfl (az ?_)))))
 exact ax results212 aa (fun w hh=>⟨rfl,(hh.dp [0,0,0,0])⟩)
theorem Aa(B:World)(Fr:List HP):
 ∀ w,Holds B Fr w→Calls Tryz.prog 211 [].toArray w (bB B Fr (.bool true)):=by
 refine au func211 aa ntmps211 aa (ac (ab (kPa aa aa (ad (ac (ac (ab (aE aa (aA call212 aa) (Ab _ _) .free aa aa ?_))))))))
 refine kPv (bF aa) aa (ad (cf aa (rfl) (ay (ac (ab (kPv (aZ aa (eh _ _ _ aa aa aa)) aa (aC aa (aN zeroValue40 aa) .free aa aa ?_)))))))
 rintro _ _ ⟨b1,rfl,rfl⟩
 refine aD aa (aI (vs:=_) sizeOf40 aa aa aa aa aa) .free aa ?_
 rintro _ _ rfl
 refine ad (ac (ab (kPv (am isAgg40 sizeOf40 aa aa) aa ?_)))
 refine aQ aa (aA call49 aa) (eJ _ _ ⟨3,1,8⟩ gR none 0 [] (by decide) (fun _ h=>absurd h (Nat.not_lt_zero _)) SlR.nil) .free aa aa ?_
 rintro _ _ ⟨bd,pa,N,s0,hN,hf,rfl,rfl⟩
 obtain rfl:N=56:=by have:(N:Int)=56:=hN.trans (by decide);omega
 have hfm:=rB gR hN hf
 have hu0:=jr (lZ pa 56) gR hf
 refine kPm aa aa (kPv (aB aa aa) aa (kPv (aB aa aa) aa (kPa aa aa (kPa aa aa (ad (ao [3,2,1,0] rfl (ac (ac (ab (kPm aa aa (kPv (bF aa) aa ?_)))))))))))
 refine ad (cf aa (rfl) (ay (ac (ab (kPm aa aa (kPv (am isAgg40 sizeOf40 aa aa) aa ?_))))))
 refine kPv (aZ aa (rV _ aa)) aa (kPm aa aa (kPv (dm aa aa) aa (aQ aa (aA call55 aa) (oY _ _ bd ⟨3,1,8⟩ gR 2 0 s0 hfm.lim hu0) .free aa aa ?_)))
 rintro _ _ ⟨x1,s1,hm1,rfl,hl1,hn1,hu1,rfl⟩
 have hev:=cE (cE (Dr pa) hf) hm1
 simp only[Bool.and_eq_true] at hev
 rw[pJ hev.1]
 refine kPm aa aa (kPv (aB aa aa) aa (kPv (aB aa aa) aa (kPa aa aa (kPa aa aa (ad (ao [5,4,2,1,0] rfl (ac (ab (kPm aa aa (kPv (am isAgg40 sizeOf40 aa aa) aa ?_))))))))))
 refine kPv (aZ aa (rV _ aa)) aa (kPm aa aa (kPv (dm aa aa) aa (aQ aa (aA call55 aa) (oY _ _ bd ⟨3,1,8⟩ gR 5 0 s1 hl1 hu1) .free aa aa ?_)))
 rintro _ _ ⟨x2,s2,hm2,rfl,hl2,hn2,hu2,rfl⟩
 rw[show x2=((0:Int),(4:Int)) from pJ (cE hev.2 hm2)]
 refine kPm aa aa (kPv (aB aa aa) aa (kPv (aB aa aa) aa (kPa aa aa (kPa aa aa (ad (ao [7,5,4,1,0] rfl (ac (ab (kPm aa aa (kPv (am isAgg40 sizeOf40 aa aa) aa ?_))))))))))
 refine aE aa (aA call140 aa) (lh _ _ ⟨3,1,8⟩ gR 0 (by decide) (by decide)) .free aa aa ?_
 refine kPv (an aa aa aa) aa (kPm aa aa (aq aa (ap aa) (.on aa aa (ah aa)) aa aa (aq aa (an aa aa aa) (.on aa aa (ah aa)) aa aa (kPv (aH aa aa aa) aa (kPm aa aa (aq aa (ap aa) (.on aa aa (ah aa)) aa aa (aq aa (an aa aa aa) (.on aa aa (ah aa)) aa aa (kPv (aH aa aa aa) aa (kPa aa aa (ad (ao [0] rfl ?_)))))))))))
 refine az ?_
 exact ax results211 aa (fun w hh=>⟨rfl,(hh.dp [0,0])⟩)
abbrev Ft(h:Int×Int):List Value:=[u8 h.1,u8 h.2]
theorem rO:m3 2 Ft:=⟨fun _=>rfl,fun _=>rfl⟩
theorem hh1{a b:Int}(h1:0≤a∧a<256)(h2:0≤b∧b<256):∀ h∈[(a,b)],(0≤h.1∧h.1<256)∧(0≤h.2∧h.2<256):=fun h hm=>by rw[List.mem_singleton.1 hm];exact⟨h1,h2⟩
theorem D9{B:World}{H:List HP}{b:Nat}{x y:Value}{T1:TypeId}{U:List Value→List HP}[gS H b [x,y] T1 U]{cap:Nat}:SlN B H (.slice (some ⟨b,0,none⟩) 1 cap) 2 [[x,y]]:=
 SlN.row (cs:=[[x,y]]) fun i c h=>by
  cases i with
  | zero=>cases h;exact⟨rfl,fun j _=>by rw[Nat.zero_mul,Nat.zero_add,Nat.zero_add]⟩
  | succ i=>cases h
theorem xO(B:World)(Fr:List HP):
 ∀ w,Holds B Fr w→Calls Tryz.prog 209 [].toArray w (bB B Fr (.bool true)):=by
 refine au func209 aa ntmps209 aa (ac (ab (kPa aa aa (ad (ac (ac (ab (aE aa (aA call211 aa) (Aa _ _) .free aa aa ?_))))))))
 refine kPv (bF aa) aa (ad (cf aa (rfl) (ay (ac (ab (kPv (aZ aa (kz _ aa)) aa (kPv (aZ aa (wp _ _ aa aa)) aa (aC aa (iP rO (v:=(1,2)) runUnderlying210 sizeOf209 zeroValue209 ⟨⟨by decide,by decide⟩,rfl⟩ rfl aa) .free aa aa ?_))))))))
 rintro _ _ ⟨b17,rfl,rfl⟩
 refine aQ aa (aA call181 aa) (tB _ _ 0 0 40 ⟨by decide,by decide,by decide⟩ ⟨3,1,48⟩ vr [(1,2)] (hh1 ⟨by decide,by decide⟩ ⟨by decide,by decide⟩) (by decide) (some ⟨b17,0,none⟩) 1 D9) .free aa aa ?_
 rintro _ _ ⟨bd,pa,N,s0,sF,out,ov,sv,hfm,hN,⟨hus0,hf⟩,hfill,huF,hlF,hnF,hov,hsv,rfl,rfl⟩
 obtain rfl:=n48 hN
 have hev:=cE (cE (BY pa) hf) hfill
 simp only[Bool.and_eq_true,beq_iff_eq] at hev
 obtain⟨⟨⟨⟨rfl,e1⟩,e2⟩,e3⟩,e4⟩:=hev
 rw[eV e1]
 refine aJ [2] (cP fun qo co hqo hqi=> ?_)
 subst hqo
 obtain⟨bO,oO,rfl⟩:=hqi 0 (by decide)
 have ho:mu (2,1,40):=⟨⟨by decide,by decide⟩,⟨by decide,by decide⟩,⟨by decide,by decide⟩⟩
 refine kPm aa aa (kPv (aB aa aa) aa (kPv (aB aa aa) aa (kPv (aB aa aa) aa (kPv (aB aa aa) aa (aC aa (aN zeroValue40 aa) .free aa aa ?_)))))
 rintro _ _ ⟨b2,rfl,rfl⟩
 refine aC aa (aN zeroValue95 aa) .free aa aa ?_
 rintro _ _ ⟨b3,rfl,rfl⟩
 refine kPa aa aa (aD aa (aI (vs:=_) sizeOf40 aa aa aa aa aa) .free aa ?_)
 rintro _ _ rfl
 refine aD aa (aI (vs:=_) sizeOf95 aa aa aa (by first | rfl | exact gK (by assumption)) rfl) .free rfl ?_
 rintro _ _ rfl
 refine kPa aa aa (ad (ao [4,1,3,2,0] rfl (ac (ac (ab (kPm aa aa (kPv (dq runUnderlying28 aa aa aa) aa (kPm aa aa (aq aa (ap aa) (.on aa aa (ah aa)) aa aa (aq aa (bY aa runUnderlying125 ⟨_,rfl⟩ rfl) (.on aa aa (ah aa)) aa aa (aq aa (an aa aa aa) (.on aa aa (ah aa)) aa aa ?_)))))))))))
 refine kPv (aL aa aa aa) aa (ad (cf aa (rfl) (ay (ac (aK (H':=eP 3 i64 0 (.slice (some ⟨bO,oO,none⟩) 1 co,[40])::row b3 [i64 0,i64 3,sv] 95::row b2 [i64 3,i64 1,i64 48] 40::dy 0 (sv,[0])::aG bd sF::Fr) (fun w hh=>by have h:=((hh.dp [5]).pk [2]);exact h) ?_)))))
 refine lb (.br [0,1,2,3,4,5] 6 (.fin [7,8,9,10,11,12]) 10 (.fin [6,7,8,9,11,12])) [6,10,11] [0,1,2,3,4,5,7,8,9] [10,11] [row b2 [i64 3,i64 1,i64 48] 40,row b3 [i64 0,i64 3,sv] 95,eP 3 i64 0 (.slice (some ⟨bO,oO,none⟩) 1 co,[40])] [1,0] (G:=Nat) (fun b5=>[(5,ptr b5),(6,i64 (sF.objOf ⟨3,1,48⟩ ⟨0,3,[0]⟩ 40).2)]) (fun b5=>row b5 [i64 (sF.objOf ⟨3,1,48⟩ ⟨0,3,[0]⟩ 40).1.1,i64 (sF.objOf ⟨3,1,48⟩ ⟨0,3,[0]⟩ 40).1.2.1,i64 (sF.objOf ⟨3,1,48⟩ ⟨0,3,[0]⟩ 40).1.2.2] 105::eP 3 i64 0 (.slice (some ⟨bO,oO,none⟩) 1 co,[40])::row b3 [i64 0,i64 3,sv] 95::row b2 [i64 3,i64 1,i64 48] 40::dy 0 (sv,[0])::aG bd sF::Fr) Tryz.mixed (by kernel_rfl) ?_ ?_
 ·skip
  refine wF (al aa aa aa (ap aa) .free aa (al aa aa aa (am isAgg40 sizeOf40 aa aa) .free aa ?_))
  refine al aa aa aa (am isAgg95 sizeOf95 aa aa) .free aa ?_
  refine al aa aa aa (ap aa) .free aa (al aa aa aa (bZ runUnderlying125 sizeOf3 aa aa (by decide) (by decide)) .free aa (al aa aa aa (bX (v:=i64 40) isAgg3 (de 2 aa) aa aa) .free aa (cJ ?_)))
  refine qg aa aa ?_ ?_
  ·skip
   refine aE aa (aA call122 aa) (bU (q:=aG) (fun Fr=>lL _ Fr _ _ ⟨3,1,48⟩ jQ ⟨0,3,[0]⟩ sv ⟨⟨by decide,by decide⟩,⟨by decide,by decide⟩⟩ hsv 40 (by decide))) .free aa aa ?_
   refine ad (uV aa (jE (al aa aa aa (ap aa) .free aa (al aa aa aa (aB aa aa) .free aa (al aa aa aa (aB aa aa) .free aa (aU aa aa (aC aa (aN zeroValue105 aa) .free aa aa ?_)))))))
   rintro _ _ ⟨b5,rfl,rfl⟩
   refine ad (cN (aU aa aa (aD aa (aI (vs:=_) sizeOf105 aa aa aa aa aa) .free aa ?_)))
   rintro _ _ rfl
   refine ad (cN (aT aa aa aa (bK aa) .free aa (cJ ?_)))
   exact fun a w st_=>⟨b5,st_.to (aF aa) (fun hh=>hh)⟩
  ·skip
   refine aC aa (aN zeroValue105 aa) .free aa aa ?_
   rintro _ _ ⟨b5,rfl,rfl⟩
   refine ad (tP (jE (aU aa aa (aE aa (aA call122 aa) (bU (q:=aG) (fun Fr=>lL _ Fr _ _ ⟨3,1,48⟩ jQ ⟨0,3,[0]⟩ sv ⟨⟨by decide,by decide⟩,⟨by decide,by decide⟩⟩ hsv 40 (by decide))) .free aa aa ?_))))
   refine ad (c9 aa (al aa aa aa (ap aa) .free aa (al aa aa aa (aB aa aa) .free aa (al aa aa aa (aB aa aa) .free aa (aU aa aa (aD aa (aI (vs:=_) sizeOf105 aa aa aa aa aa) .free aa ?_))))))
   rintro _ _ rfl
   refine ad (cN (aT aa aa aa (bK aa) .free aa (cJ ?_)))
   exact fun a w st_=>⟨b5,st_.to (aF aa) (fun hh=>hh)⟩
 intro b5
 refine cg (σ':=[(5,ptr b5),(6,i64 (sF.objOf ⟨3,1,48⟩ ⟨0,3,[0]⟩ 40).2),(1,_),(0,_)]) (aF aa) (ac ?_)
 rw[show sF.objOf ⟨3,1,48⟩ ⟨0,3,[0]⟩ 40=(((2:Int),(1:Int),(40:Int)),(0:Int)) from CD e2]
 refine ab (kPv (am isAgg105 sizeOf105 aa aa) aa ?_)
 refine kPm aa aa (aE aa (aA call72 aa) (bU (q:=aG) (fun Fr=>qP _ Fr _ _ (2,1,40) ho 0)) .free aa aa ?_)
 refine kPm aa aa (kPv (aB aa aa) aa (kPv (aB aa aa) aa (kPa aa aa (kPa aa aa (ad (ao [8,5,6,1,0] rfl (ac (ab (kPv (am isAgg105 sizeOf105 aa aa) aa ?_)))))))))
 refine kPm aa aa (kPv (dm aa aa) aa (aJ [5] (aQ aa (aA call61 aa) (wW B _ bd (2,1,40) ho 1 9 (by decide) sF hlF huF) .free aa aa ?_)))
 rintro _ _ ⟨x2,s2,hm2,rfl,hl2,hn2,hu2,rfl⟩
 have hev2:=cE e4 hm2
 simp only[Bool.and_eq_true,beq_iff_eq] at hev2
 obtain⟨f1,f2⟩:=hev2
 obtain rfl:x2=0:=f1
 refine kPa aa aa (ad (ac (ab (kPv (am isAgg105 sizeOf105 aa aa) aa ?_))))
 refine kPm aa aa (aE aa (aA call72 aa) (bU (q:=aG) (fun Fr=>qP _ Fr _ _ (2,1,40) ho 1)) .free aa aa ?_)
 refine kPm aa aa (kPv (aB aa aa) aa (kPv (aB aa aa) aa (kPa aa aa (kPa aa aa (ad (ao [11,10,9,8,5,6,1,0] rfl (ac ?_)))))))
 rw[show sF.objRead (2,1,40) 0=((0:Int),(5:Int)) from pJ e3,show s2.objRead (2,1,40) 1=((9:Int),(0:Int)) from pJ f2]
 refine ab (kPm aa aa (kPv (an aa aa aa) aa (kPm aa aa (aq aa (ap aa) (.on aa aa (ah aa)) aa aa (aq aa (an aa aa aa) (.on aa aa (ah aa)) aa aa (kPv (aH aa aa aa) aa (kPm aa aa (aq aa (ap aa) (.on aa aa (ah aa)) aa aa (aq aa (an aa aa aa) (.on aa aa (ah aa)) aa aa (kPv (aH aa aa aa) aa (kPm aa aa ?_)))))))))))
 refine aq aa (ap aa) (.on aa aa (ah aa)) aa aa (aq aa (an aa aa aa) (.on aa aa (ah aa)) aa aa (kPv (aH aa aa aa) aa (kPm aa aa (aq aa (ap aa) (.on aa aa (ah aa)) aa aa (aq aa (an aa aa aa) (.on aa aa (ah aa)) aa aa (kPv (aH aa aa aa) aa (kPm aa aa (aq aa (am isAgg105 sizeOf105 aa aa) (.on aa aa (ah aa)) aa aa ?_))))))))
 refine aq aa (ap aa) (.on aa aa (ah aa)) aa aa (aQ aa (aA call173 aa) (sV _ _ (2,1,40) bd) (.on aa aa (ah aa)) aa aa ?_)
 rintro _ _ ⟨n1,n2,rfl,rfl⟩
 refine aq aa (pS runUnderlying222 ⟨_,_,_,rfl⟩ rfl aa aa) (.on aa aa (ah aa)) aa aa (kPv (aH aa aa aa) aa (kPa aa aa (ad (ao [0] rfl (az ?_)))))
 exact ax results209 aa (fun w hh=>⟨rfl,(hh.dp [0,0,0,0,0,0,0,0])⟩)
theorem xN(B:World)(Fr:List HP):
 ∀ w,Holds B Fr w→Calls Tryz.prog 202 [].toArray w (bB B Fr (.bool true)):=by
 refine au func202 aa ntmps202 aa (ac (ab (kPa aa aa (ad (ac (ac (ab (aE aa (aA call209 aa) (xO _ _) .free aa aa ?_))))))))
 refine kPv (bF aa) aa (ad (cf aa (rfl) (ay (ac (ab (kPv (aZ aa (kz _ aa)) aa (kPv (aZ aa (jc _ aa)) aa (aC aa (iP rO (v:=(0,1)) runUnderlying210 sizeOf209 zeroValue209 ⟨⟨by decide,by decide⟩,rfl⟩ rfl aa) .free aa aa ?_))))))))
 rintro _ _ ⟨b12,rfl,rfl⟩
 refine aQ aa (aA call162 aa) (mf _ _ 0 0 40 ⟨by decide,by decide,by decide⟩ ⟨3,1,48⟩ vr [(0,1)] (hh1 ⟨by decide,by decide⟩ ⟨by decide,by decide⟩) (by decide) (some ⟨b12,0,none⟩) _ D9 none 0 [] SlR.nil (fun _ h=>(by cases h)) (by decide) (fun _ h=>absurd h (Nat.not_lt_zero _)) 0 (by decide)) .free aa aa ?_
 rintro _ _ ⟨bd,pa,N,s0,sF,out,hfm,hN,⟨hus0,hf⟩,hfill,hor⟩
 obtain rfl:=n48 hN
 have hev:=cE (cE (BX pa) hf) hfill
 simp only[Bool.and_eq_true,beq_iff_eq] at hev
 obtain⟨⟨rfl,e1⟩,e2⟩:=hev
 rw[eV e1] at hor
 rcases hor with ⟨n1,n2,s1,s2,ov,sv,hl1,hl2,hu2,hlm2,hn2,hov,hsv,rfl,rfl⟩ | ⟨s1,hl1,_⟩
 rotate_left
 ·have e3:=cE e2 hl1
  simp only[Bool.and_eq_true,beq_iff_eq] at e3
  exact absurd e3.1 (by simp)
 have e3:=cE e2 hl1
 simp only[Bool.and_eq_true,beq_iff_eq] at e3
 obtain⟨e4,e5⟩:=e3
 obtain rfl:n1=0:=by injection e4
 have e6:=cE e5 hl2
 simp only[Bool.and_eq_true,beq_iff_eq] at e6
 obtain⟨⟨e7,e8⟩,e9⟩:=e6
 rw[eV e7]
 refine aJ [2] (cP fun qo co hqo hqi=> ?_)
 subst hqo
 obtain⟨bO,oO,rfl⟩:=hqi 0 (by decide)
 refine kPm aa aa (kPv (aB aa aa) aa (kPv (aB aa aa) aa (kPv (aB aa aa) aa (kPv (aB aa aa) aa (aC aa (aN zeroValue40 aa) .free aa aa ?_)))))
 rintro _ _ ⟨b2,rfl,rfl⟩
 refine aC aa (aN zeroValue95 aa) .free aa aa ?_
 rintro _ _ ⟨b3,rfl,rfl⟩
 refine kPa aa aa (aD aa (aI (vs:=_) sizeOf40 aa aa aa aa aa) .free aa ?_)
 rintro _ _ rfl
 refine aD aa (aI (vs:=_) sizeOf95 aa aa aa (by first | rfl | exact gK (by assumption)) rfl) .free rfl ?_
 rintro _ _ rfl
 refine kPa aa aa (ad (ao [4,1,3,2,0] rfl (ac (ac (ab (kPm aa aa (kPv (dq runUnderlying28 aa aa aa) aa (kPm aa aa (aq aa (ap aa) (.on aa aa (ah aa)) aa aa (aq aa (am isAgg40 sizeOf40 aa aa) (.on aa aa (ah aa)) aa aa ?_))))))))))
 refine aq aa (am isAgg95 sizeOf95 aa aa) (.on aa aa (ah aa)) aa aa ?_
 refine aQ aa (aA call136 aa) (p8 _ _ bd ⟨3,1,48⟩ ⟨0,2,[0]⟩ sv hsv) (.on aa aa (ah aa)) aa aa ?_
 rintro _ _ ⟨c3,c4,c5,rfl,rfl⟩
 refine aq aa (pS runUnderlying183 ⟨_,_,_,rfl⟩ rfl aa aa) (.on aa aa (ah aa)) aa aa (kPv (aL aa aa aa) aa (ad (ao [26,4,1,3,2,0] rfl (cf aa (rfl) (ay (ac (ab (kPm aa aa (kPv (am isAgg40 sizeOf40 aa aa) aa ?_)))))))))
 refine kPv (am isAgg95 sizeOf95 aa aa) aa ?_
 refine aJ [7] (aQ aa (aA call133 aa) (pZ _ _ bd s2 ⟨3,1,48⟩ jQ ⟨0,2,[0]⟩ sv ⟨⟨by decide,by decide⟩,⟨by decide,by decide⟩⟩ hsv) .free aa aa ?_)
 rintro _ _ ⟨mb,rfl,rfl⟩
 rw[e8,e9]
 refine kPm aa aa (kPv (aB aa aa) aa (kPv (aB aa aa) aa (kPa aa aa (kPa aa aa (ad (ao [6,5,4,0] rfl (ac (ab (kPm aa aa (kPv (an aa aa aa) aa (kPm aa aa ?_)))))))))))
 refine aq aa (ap aa) (.on aa aa (ah aa)) aa aa (aq aa (yR aa runUnderlying176 aa) (.on aa aa (ah aa)) aa aa (aq aa (an aa aa aa) (.on aa aa (ah aa)) aa aa (kPv (aH aa aa aa) aa (kPm aa aa (aq aa (ap aa) (.on aa aa (ah aa)) aa aa (aq aa (bY aa runUnderlying125 ⟨_,rfl⟩ rfl) (.on aa aa (ah aa)) aa aa (aq aa (an aa aa aa) (.on aa aa (ah aa)) aa aa (kPv (aH aa aa aa) aa (kPm aa aa (aq aa (ap aa) (.on aa aa (ah aa)) aa aa (aq aa (ap aa) (.on aa aa (ah aa)) aa aa ?_)))))))))))
 refine aq aa (bZ runUnderlying125 sizeOf3 aa aa (by decide) (by decide)) (.on aa aa (ah aa)) aa aa (aq aa (bX (v:=i64 40) isAgg3 (de 7 aa) aa aa) (.on aa aa (ah aa)) aa aa (aq aa ((mT runUnderlying176 runUnderlying3 zeroValue105 aa aa).eq (AS _)) (.on aa aa (ah aa)) aa aa (aq aa (zW runUnderlying105 (t:=38) (off:=0) aa isAgg38 sizeOf38 aa) (.on aa aa (ah aa)) aa aa (aq aa (io runUnderlying38 (t:=3) (off:=0) aa isAgg3 aa aa) (.on aa aa (ah aa)) aa aa (aq aa (an aa aa aa) (.on aa aa (ah aa)) aa aa (kPv (aH aa aa aa) aa (kPa aa aa (ad (ao [0] rfl (az ?_))))))))))
 exact ax results202 aa (fun w hh=>⟨rfl,(hh.dp [0,0,0,0,0,0,0,0,0,0])⟩)
def hs2:List (Int×Int):=[(0,1),(0,2)]
theorem hh2:∀ h∈[((0:Int),(1:Int)),(0,2)],(0≤h.1∧h.1<256)∧(0≤h.2∧h.2<256):=fun h hm=>by
 simp only[List.mem_cons,List.not_mem_nil,or_false] at hm
 rcases hm with rfl | rfl<;>exact⟨by decide,by decide⟩
theorem EW{B:World}{H:List HP}{b:Nat}{x y z u:Value}{T1:TypeId}{U:List Value→List HP}[gS H b [x,y,z,u] T1 U]{cap:Nat}:SlN B H (.slice (some ⟨b,0,none⟩) 2 cap) 2 [[x,y],[z,u]]:=
 SlN.row (cs:=[[x,y],[z,u]]) fun i c h=>by
  cases i with
  | zero=>
    cases h
    refine⟨rfl,fun j hj=> ?_⟩
    rcases j with _ | _ | j
    ·rfl
    ·rfl
    ·omega
  | succ i=>
    cases i with
    | zero=>
      cases h
      refine⟨rfl,fun j hj=> ?_⟩
      rcases j with _ | _ | j
      ·rfl
      ·rfl
      ·omega
    | succ i=>cases h
theorem y5{α:Type}{B:World}{σ:Env}{H:List HP}{P:Program}{m:Nat}{enc:α→List Value}(he:m3 m enc){d:Option Tmp}{ty:TypeId}{p:String}{af:Array Edge}{g:Option (Nat×Bool)}{t e:TypeId}{x y:Operand}{v u:α}{xv yv z:Value}(ht:∀ w,(underlying t).run P w= .ok (.slice e) w)(hs:∀ w,(sizeOf e).run P w= .ok m w)(hz:∀ w,(zeroValue e).run P w= .ok z w)(hm0:(0<m∧m≤1000)∧z.cells.size=m)(hx:evO σ x=some xv)(hv:xv.cells=(enc v).toArray)(hy:evO σ y=some yv)(hu:yv.cells=(enc u).toArray):
 Chg P B σ H ⟨d,.buildSlice t 2 #[(0,x),(1,y)],ty,p,af,g⟩ (fun r H'=>∃ b,r= .slice (some ⟨b,0,none⟩) 2 2∧H'=row b (enc v++enc u) e::H):=by
 intro a w kn hh
 refine⟨.value (.slice (some ⟨w.heap.size,0,none⟩) 2 2),{w with heap:=w.heap.push (.cells (enc v++enc u).toArray e)},?_,_,.inl aa,_,⟨_,rfl,rfl⟩,by simpa [row] using hh.new _⟩
 have h1:m≠0:=by omega
 have h2:¬ 16777216<2*m:=by omega
 have hl:(enc v).length=m:=he.len v
 have hl2:(enc u).length=m:=he.len u
 have key:∀ (k:Nat) (vs:List Value) (a:Array Value) (j:Nat),k+vs.length≤a.size→(List.foldl (fun (cs:Array Value) (x:Value×Nat)=>cs.setIfInBounds (k+x.2) x.1) a vs.zipIdx)[j]? =if k≤j∧j<k+vs.length then vs[j - k]? else a[j]? :=by
  intro k vs a j h
  have:=mi vs k a h j
  rw[←this]
  congr 1
  have hz:vs.zipIdx k=vs.zipIdx.map fun x=>(x.1,k+x.2):=by
   apply List.ext_getElem?
   intro i
   simp[List.getElem?_zipIdx]
   cases vs[i]?<;>simp
  rw[hz,List.foldl_map]
 have hsz:∀ (g:Nat→Nat) (l:List (Value×Nat)) (a:Array Value),(List.foldl (fun (cs:Array Value) (x:Value×Nat)=>cs.setIfInBounds (g x.2) x.1) a l).size=a.size:=by
  intro g l
  induction l with
  | nil=>intro a;rfl
  | cons x l ih=>intro a;rw[List.foldl_cons,ih];simp
 simp[execOp,Instr.buildSlice,ht,hs,Instr.fill,dB,hz,kn.eval hx,hv,kn.eval hy,hu,h1,h2,hl,hl2]
 generalize hA:Array.map (fun x=>z.cells[x%z.cells.size]!) (Array.range (2*m))=A
 have hAs:A.size=2*m:=by rw[←hA];simp
 rw[if_neg (by omega),if_neg (by omega),if_neg (by rw[hsz (fun x=>x) _ A];omega)]
 generalize hF:List.foldl (fun (cs:Array Value) (x:Value×Nat)=>cs.setIfInBounds x.snd x.fst) A (enc v).zipIdx=F
 have hFs:F.size=2*m:=by rw[←hF,hsz (fun x=>x) _ A];exact hAs
 have hF2:∀ j,F[j]? =if j<m then (enc v)[j]? else A[j]? :=fun j=>by
  have:=mi (enc v) 0 A (by omega) j
  rw[←hF,this]
  simp[hl]
 have e9:List.foldl (fun (cs:Array Value) (x:Value×Nat)=>cs.setIfInBounds (m+x.snd) x.fst) F (enc u).zipIdx=(enc v++enc u).toArray:=by
  apply Array.ext_getElem?
  intro j
  rw[key m (enc u) F j (by omega),hF2,show(enc v++enc u).toArray[j]? =(enc v++enc u)[j]? by simp,List.getElem?_append,hl,hl2]
  by_cases h3:j<m
  ·rw[if_neg (by omega),if_pos h3,if_pos h3]
  ·rw[if_neg h3]
   by_cases h4:j<m+m
   ·rw[if_pos (by omega),if_neg h3]
   ·rw[if_neg (by omega),if_neg h3,List.getElem?_eq_none (by omega),Array.getElem?_eq_none (by omega)]
 simp only[e9]
 rfl
theorem BU(pa:Nat):okB ((jW pa [] 136).format c48) (fun _ s=>okB (iT c48 [(0,1),(0,2)] s []) fun out sF=>out==[40,42]&&jR (sF.block c48) ⟨0,5,[0]⟩ 0&&okB (fz c48 ⟨0,5,[0]⟩ (dQ [] [40,42] 0) [40,42] 0 sF) fun n1 s1=>n1==some 0&&okB (gC c48 (dQ [] [40,42] 0) 1 0 0 s1) fun _ s2=>jR (s2.block c48) ⟨0,5,[0]⟩ 0&&s2.reachSize c48 ⟨0,5,[0]⟩ []==0&&s2.reachSize c48 ⟨0,5,[0]⟩ [42]==3)=true:=by kernel_rfl
theorem BT(pa bd:Nat):okB ((jW pa [] 136).format c48) (fun _ s=>okB (iT c48 [(0,1)] s []) fun out sF=>out==[40]&&jR (sF.block c48) ⟨0,2,[0]⟩ 0&&okB (fz c48 ⟨0,2,[0]⟩ (dQ [] [40] 0) [40] 0 sF) fun n1 s1=>n1==some 0&&okB (gC c48 (dQ [] [40] 0) 1 0 0 s1) fun _ s2=>jR (s2.block c48) ⟨0,2,[0]⟩ 0&&okB ((dR bd c48 ⟨0,2,[0]⟩ [0]).step s2) fun r s3=> !r.1&&okB (r.2.step s3) fun r2 _=>r2.1&&jR (r2.2.block,0) ⟨1,0,[0]⟩ 0)=true:=by kernel_rfl
def DD(o:Option bE)(w v:Int):Bool:=match o with
 | some X=>(bi X.went w).getD 0==v
 | none=>false
theorem BS(pa bd:Nat):okB ((jW pa [] 136).format c48) (fun _ s=>okB (iT c48 [(0,1),(0,2)] s []) fun out sF=>out==[40,42]&&jR (sF.block c48) ⟨0,5,[0]⟩ 0&&okB (fz c48 ⟨0,5,[0]⟩ (dQ [] [40,42] 0) [40,42] 0 sF) fun n1 s1=>n1==some 0&&okB (gC c48 (dQ [] [40,42] 0) 1 0 0 s1) fun _ s2=>jR (s2.block c48) ⟨0,5,[0]⟩ 0&&(cC bd c48 s2).n==0&&okB (fF bd c48 ⟨cC bd c48 s2,0,0,[],[]⟩ s2 [42]) fun r s3=>r.2.1==0&&DD r.1 42 88&&jR (s3.block c48) ⟨1,3,[0]⟩ 0)=true:=by kernel_rfl
theorem xM(B:World)(Fr:List HP):
 ∀ w,Holds B Fr w→Calls Tryz.prog 189 [].toArray w (bB B Fr (.bool true)):=by
 refine au func189 aa ntmps189 aa (ac (ab (kPa aa aa (ad (ac (ac (ab (aE aa (aA call202 aa) (xN _ _) .free aa aa ?_))))))))
 refine kPv (bF aa) aa (ad (cf aa (rfl) (ay (ac (ab (kPv (aZ aa (eh _ _ _ aa aa aa)) aa (aC aa (aN zeroValue40 aa) .free aa aa ?_)))))))
 rintro _ _ ⟨b1,rfl,rfl⟩
 refine aD aa (aI (vs:=_) sizeOf40 aa aa aa aa aa) .free aa ?_
 rintro _ _ rfl
 refine ad (ac (ab (kPv (am isAgg40 sizeOf40 aa aa) aa ?_)))
 refine aQ aa (aA call49 aa) (eJ _ _ ⟨3,1,8⟩ gR none 0 [] (by decide) (fun _ h=>absurd h (Nat.not_lt_zero _)) SlR.nil) .free aa aa ?_
 rintro _ _ ⟨bd,pa,N,s0,hN,hf,rfl,rfl⟩
 obtain rfl:N=56:=by have:(N:Int)=56:=hN.trans (by decide);omega
 have hfm:=rB gR hN hf
 have hu0:=jr (lZ pa 56) gR hf
 have hev:=cE (BW pa) hf
 simp only[Bool.and_eq_true,beq_iff_eq] at hev
 refine kPm aa aa (kPv (aB aa aa) aa (kPv (aB aa aa) aa (kPa aa aa (kPa aa aa (ad (ao [3,2,1,0] rfl (ac (ac (ab (kPm aa aa (kPv (bF aa) aa ?_)))))))))))
 refine kPm aa aa (aq aa (ap aa) (.on aa aa (ah aa)) aa aa (aq aa (am isAgg40 sizeOf40 aa aa) (.on aa aa (ah aa)) aa aa ?_))
 refine aE aa (aA call68 aa) (bU (q:=aG) (fun Fr=>mn _ Fr _ s0 ⟨3,1,8⟩ gR hu0)) (.on aa aa (ah aa)) aa aa ?_
 refine aq aa (an aa aa aa) (.on aa aa (ah aa)) aa aa (kPv (aL aa aa aa) aa (ad (ao [19,2,1,0] rfl (cf aa (by rw[hev.1];rfl) (ay (ac (ab (kPm aa aa (kPv (am isAgg40 sizeOf40 aa aa) aa ?_)))))))))
 refine aE aa (aA call59 aa) (kN _ _ ⟨3,1,8⟩ gR 0 (by decide) (by decide)) .free aa aa ?_
 refine aQ aa (aA call120 aa) (qR _ _ bd s0 34 5 hfm.lim hu0 (by decide)) .free aa aa ?_
 rintro _ _ ⟨x1,s1,hm1,rfl,hl1,hn1,hu1,rfl⟩
 have hev2:=cE hev.2 hm1
 simp only[beq_iff_eq] at hev2
 refine ad (ac (ab (kPm aa aa (kPv (am isAgg40 sizeOf40 aa aa) aa ?_))))
 refine aE aa (aA call68 aa) (bU (q:=aG) (fun Fr=>mn _ Fr _ s1 ⟨3,1,8⟩ gR hu1)) .free aa aa ?_
 refine kPv (an aa aa aa) aa (kPa aa aa (ad (ao [0] rfl (az ?_))))
 exact ax results189 aa (fun w hh=>⟨by rw[hev2];rfl,(hh.dp [0,0])⟩)
theorem xL(B:World)(Fr:List HP):
 ∀ w,Holds B Fr w→Calls Tryz.prog 180 [].toArray w (bB B Fr (.bool true)):=by
 refine au func180 aa ntmps180 aa (ac (ab (kPa aa aa (ad (ac (ac (ab (aE aa (aA call189 aa) (xM _ _) .free aa aa ?_))))))))
 refine kPv (bF aa) aa (ad (cf aa (rfl) (ay (ac (ab (kPv (aZ aa (kz _ aa)) aa (kPv (aZ aa (jc _ aa)) aa (kPv (aZ aa (jc _ aa)) aa (aC aa (y5 rO (v:=(0,1)) (u:=(0,2)) runUnderlying210 sizeOf209 zeroValue209 ⟨⟨by decide,by decide⟩,rfl⟩ rfl aa aa aa) .free aa aa ?_)))))))))
 rintro _ _ ⟨b11,rfl,rfl⟩
 refine aQ aa (aA call162 aa) (mf _ _ 0 0 40 ⟨by decide,by decide,by decide⟩ ⟨3,1,48⟩ vr [(0,1),(0,2)] (hh2) (by decide) (some ⟨b11,0,none⟩) _ EW none 0 [] SlR.nil (fun _ h=>(by cases h)) (by decide) (fun _ h=>absurd h (Nat.not_lt_zero _)) 0 (by decide)) .free aa aa ?_
 rintro _ _ ⟨bd,pa,N,s0,sF,out,hfm,hN,⟨hus0,hf⟩,hfill,hor⟩
 obtain rfl:=n48 hN
 have hev:=cE (cE (BU pa) hf) hfill
 simp only[Bool.and_eq_true,beq_iff_eq] at hev
 obtain⟨⟨rfl,e1⟩,e2⟩:=hev
 rw[eV e1] at hor
 rcases hor with ⟨n1,n2,s1,s2,ov,sv,hl1,hl2,hu2,hlm2,hn2,hov,hsv,rfl,rfl⟩ | ⟨s1,hl1,_⟩
 rotate_left
 ·have e3:=cE e2 hl1
  simp only[Bool.and_eq_true,beq_iff_eq] at e3
  exact absurd e3.1 (by simp)
 have e3:=cE e2 hl1
 simp only[Bool.and_eq_true,beq_iff_eq] at e3
 obtain⟨e4,e5⟩:=e3
 obtain rfl:n1=0:=by injection e4
 have e6:=cE e5 hl2
 simp only[Bool.and_eq_true,beq_iff_eq] at e6
 obtain⟨⟨e7,e8⟩,e9⟩:=e6
 rw[eV e7]
 refine aJ [2] (cP fun qo co hqo hqi=> ?_)
 subst hqo
 obtain⟨bO,oO,rfl⟩:=hqi 0 (by decide)
 refine kPm aa aa (kPv (aB aa aa) aa (kPv (aB aa aa) aa (kPv (aB aa aa) aa (kPv (aB aa aa) aa (aC aa (aN zeroValue40 aa) .free aa aa ?_)))))
 rintro _ _ ⟨b2,rfl,rfl⟩
 refine aC aa (aN zeroValue95 aa) .free aa aa ?_
 rintro _ _ ⟨b3,rfl,rfl⟩
 refine kPa aa aa (aD aa (aI (vs:=_) sizeOf40 aa aa aa aa aa) .free aa ?_)
 rintro _ _ rfl
 refine aD aa (aI (vs:=_) sizeOf95 aa aa aa (by first | rfl | exact gK (by assumption)) rfl) .free rfl ?_
 rintro _ _ rfl
 refine kPa aa aa (ad (ao [4,1,3,2,0] rfl (ac (ac (ab (kPm aa aa (kPv (dq runUnderlying28 aa aa aa) aa (kPm aa aa (aq aa (ap aa) (.on aa aa (ah aa)) aa aa (aq aa (bY aa runUnderlying125 ⟨_,rfl⟩ rfl) (.on aa aa (ah aa)) aa aa (aq aa (an aa aa aa) (.on aa aa (ah aa)) aa aa ?_)))))))))))
 refine kPv (aL aa aa aa) aa (kPm aa aa (aq aa (ap aa) (.on aa aa (ah aa)) aa aa (aq aa (am isAgg40 sizeOf40 aa aa) (.on aa aa (ah aa)) aa aa ?_)))
 refine aq aa (am isAgg95 sizeOf95 aa aa) (.on aa aa (ah aa)) aa aa ?_
 refine aQ aa (aA call138 aa) (uN _ _ bd ⟨3,1,48⟩ ⟨0,5,[0]⟩ sv hsv (.slice none 0 0) aa) (.on aa aa (ah aa)) aa aa ?_
 rintro _ _ ⟨c1,c2,c3,c4,rfl,rfl⟩
 refine aq aa (pS runUnderlying186 ⟨_,_,_,rfl⟩ rfl aa aa) (.on aa aa (ah aa)) aa aa (kPv (aL aa aa aa) aa (ad (ao [30,4,1,3,2,0] rfl (cf aa (rfl) (ay (ac (aK (H':=aG bd s2::eP 3 i64 0 (.slice (some ⟨bO,oO,none⟩) 2 co,[40,42])::row b3 [i64 0,i64 5,sv] 95::row b2 [i64 3,i64 1,i64 48] 40::dy 0 (sv,[0])::Fr) (fun w hh=>by have h:=((hh.dp [0,0,0,0,5]).pk [4,2]);exact h) (cM [0,1,2,3,4,5,6,7,8,9,10,11,12,13,14,15,16,17] [3,13,14] [6,7,8] [13] [row b2 [i64 3,i64 1,i64 48] 40,row b3 [i64 0,i64 5,sv] 95,eP 3 i64 0 (.slice (some ⟨bO,oO,none⟩) 2 co,[40,42])] Tryz.mixed (by kernel_rfl) ?_))))))))
 refine aT aa aa aa (ap aa) .free aa (aT aa aa aa (am isAgg40 sizeOf40 aa aa) .free aa ?_)
 refine aT aa aa aa (am isAgg95 sizeOf95 aa aa) .free aa ?_
 refine aU aa aa (aE aa (aA call73 aa) (p5 B _ bd ⟨3,1,48⟩ jQ ⟨0,5,[0]⟩ sv ⟨⟨by decide,by decide⟩,⟨by decide,by decide⟩⟩ hsv s2 none 0 [] (fun _ h=>(by cases h)) (by decide) (fun _ h=>absurd h (Nat.not_lt_zero _)) SlR.nil) .free aa aa ?_)
 refine ad (c9 aa (aT aa aa aa (an aa aa aa) .free aa (aT aa aa aa (ap aa) .free aa (al aa aa aa (ap aa) (.on aa aa (ah (by rw[e8];rfl))) aa (al aa aa aa (am isAgg40 sizeOf40 aa aa) (.on aa aa (ah (by rw[e8];rfl))) aa ?_)))))
 refine al aa aa aa (am isAgg95 sizeOf95 aa aa) (.on aa aa (ah (by rw[e8];rfl))) aa ?_
 refine aT aa aa aa (ap aa) (.on aa aa (ah (by rw[e8];rfl))) aa (aT aa aa aa (bZ runUnderlying125 sizeOf3 aa aa (by decide) (by decide)) (.on aa aa (ah (by rw[e8];rfl))) aa (aT aa aa aa (bX (v:=i64 42) isAgg3 (de 1 aa) aa aa) (.on aa aa (ah (by rw[e8];rfl))) aa (aT aa aa aa (dh (c:=42) runUnderlying3 runUnderlying26 aa (by decide)) (.on aa aa (ah (by rw[e8];rfl))) aa (aU aa aa (aC aa (iQ runUnderlying25 sizeOf26 zeroValue26 aa aa aa) (.on aa aa (ah (by rw[e8];rfl))) aa aa ?_)))))
 rintro _ _ ⟨b44,rfl,rfl⟩
 refine ad (cN (aJ [1] (aU aa aa (aE aa (aA call73 aa) (p5 B _ bd ⟨3,1,48⟩ jQ ⟨0,5,[0]⟩ sv ⟨⟨by decide,by decide⟩,⟨by decide,by decide⟩⟩ hsv s2 (some ⟨b44,0,none⟩) 1 [42] (fun v h=>by rw[List.mem_singleton.1 h];decide) (by decide) (fun _ _=>⟨_,_,rfl⟩) (SlR.row (b:=b44) aa aa)) (.on aa aa (ah (by rw[e8];rfl))) aa aa ?_))))
 refine ad (c9 aa (aT aa aa aa (an aa aa aa) (.on aa aa (ah (by rw[e8];rfl))) aa (aT aa aa aa (aH aa (by rw[e8];rfl) aa) .free aa (aT aa aa aa (bK aa) .free aa (cJ (ao [0] rfl (az ?_)))))))
 exact ax results180 aa (fun w hh=>⟨by rw[e9];rfl,(hh.dp [0,0,0,0,0,0])⟩)
theorem xK(B:World)(Fr:List HP):
 ∀ w,Holds B Fr w→Calls Tryz.prog 161 [].toArray w (bB B Fr (.bool true)):=by
 refine au func161 aa ntmps161 aa (ac (ab (kPa aa aa (ad (ac (ac (ab (aE aa (aA call180 aa) (xL _ _) .free aa aa ?_))))))))
 refine kPv (bF aa) aa (ad (cf aa (rfl) (ay (ac (ab (kPv (aZ aa (kz _ aa)) aa (kPv (aZ aa (jc _ aa)) aa (aC aa (iP rO (v:=(0,1)) runUnderlying210 sizeOf209 zeroValue209 ⟨⟨by decide,by decide⟩,rfl⟩ rfl aa) .free aa aa ?_))))))))
 rintro _ _ ⟨b13,rfl,rfl⟩
 refine aQ aa (aA call162 aa) (mf _ _ 0 0 40 ⟨by decide,by decide,by decide⟩ ⟨3,1,48⟩ vr [(0,1)] (hh1 ⟨by decide,by decide⟩ ⟨by decide,by decide⟩) (by decide) (some ⟨b13,0,none⟩) _ D9 none 0 [] SlR.nil (fun _ h=>(by cases h)) (by decide) (fun _ h=>absurd h (Nat.not_lt_zero _)) 0 (by decide)) .free aa aa ?_
 rintro _ _ ⟨bd,pa,N,s0,sF,out,hfm,hN,⟨hus0,hf⟩,hfill,hor⟩
 obtain rfl:=n48 hN
 have hev:=cE (cE (BT pa bd) hf) hfill
 simp only[Bool.and_eq_true,beq_iff_eq] at hev
 obtain⟨⟨rfl,e1⟩,e2⟩:=hev
 rw[eV e1] at hor
 rcases hor with ⟨n1,n2,s1,s2,ov,sv,hl1,hl2,hu2,hlm2,hn2,hov,hsv,rfl,rfl⟩ | ⟨s1,hl1,_⟩
 rotate_left
 ·have e3:=cE e2 hl1
  simp only[Bool.and_eq_true,beq_iff_eq] at e3
  exact absurd e3.1 (by simp)
 have e3:=cE e2 hl1
 simp only[Bool.and_eq_true,beq_iff_eq] at e3
 obtain⟨e4,e5⟩:=e3
 obtain rfl:n1=0:=by injection e4
 have e6:=cE e5 hl2
 simp only[Bool.and_eq_true,beq_iff_eq] at e6
 obtain⟨e7,e8⟩:=e6
 rw[eV e7]
 refine aJ [2] (cP fun qo co hqo hqi=> ?_)
 subst hqo
 obtain⟨bO,oO,rfl⟩:=hqi 0 (by decide)
 refine kPm aa aa (kPv (aB aa aa) aa (kPv (aB aa aa) aa (kPv (aB aa aa) aa (kPv (aB aa aa) aa (aC aa (aN zeroValue40 aa) .free aa aa ?_)))))
 rintro _ _ ⟨b2,rfl,rfl⟩
 refine aC aa (aN zeroValue95 aa) .free aa aa ?_
 rintro _ _ ⟨b3,rfl,rfl⟩
 refine kPa aa aa (aD aa (aI (vs:=_) sizeOf40 aa aa aa aa aa) .free aa ?_)
 rintro _ _ rfl
 refine aD aa (aI (vs:=_) sizeOf95 aa aa aa (by first | rfl | exact gK (by assumption)) rfl) .free rfl ?_
 rintro _ _ rfl
 refine kPa aa aa (ad (ao [4,1,3,2,0] rfl (ac (ac (ab (kPm aa aa (kPv (dq runUnderlying28 aa aa aa) aa (kPm aa aa (aq aa (ap aa) (.on aa aa (ah aa)) aa aa (aq aa (bY aa runUnderlying125 ⟨_,rfl⟩ rfl) (.on aa aa (ah aa)) aa aa (aq aa (an aa aa aa) (.on aa aa (ah aa)) aa aa ?_)))))))))))
 refine kPv (aL aa aa aa) aa (ad (ao [25,1,3,2,0] rfl (cf aa (rfl) (ay (ac (ab (kPm aa aa (kPv (am isAgg40 sizeOf40 aa aa) aa ?_))))))))
 refine kPv (am isAgg95 sizeOf95 aa aa) aa ?_
 refine aC aa (iQ runUnderlying25 sizeOf26 zeroValue26 aa aa aa) .free aa aa ?_
 rintro _ _ ⟨b29,rfl,rfl⟩
 refine aJ [4] (aQ aa (aA call78 aa) (pT B _ bd ⟨3,1,48⟩ jQ ⟨0,2,[0]⟩ ⟨⟨by decide,by decide⟩,⟨by decide,by decide⟩⟩ sv hsv (some ⟨b29,0,none⟩) 1 [0] (by decide) (fun h=>by cases h) (SlR.row (b:=b29) aa aa)) .free aa aa ?_)
 rintro _ _ ⟨x,rfl,rfl⟩
 have hX0:ev (dR bd ⟨3,1,48⟩ ⟨0,2,[0]⟩ [0]):=nt jQ ⟨⟨by decide,by decide⟩,⟨by decide,by decide⟩⟩ (by decide) (fun v h=>by rw[List.mem_singleton.1 h];decide) (fun v h=>by rw[List.mem_singleton.1 h];decide)
 refine kPa aa aa (ad (ao [5,0] rfl (ac (ac (ab (kPm aa aa (kPv (dq runUnderlying91 aa aa aa) aa (ad (cf aa (rfl) (ay (ac ?_)))))))))))
 refine ab (kPm aa aa (aJ [0,4] ?_))
 refine aY aa (aA call99 aa) (l3 B _ x (dR bd ⟨3,1,48⟩ ⟨0,2,[0]⟩ [0]) hX0 s2 hu2) .free aa aa ?_ ?_
 rotate_left
 ·rintro _ _ ⟨s9,hm9,_⟩
  exact(kO e8 hm9).elim
 rintro _ _ ⟨r1,s3,hm1,rfl,rfl⟩
 have e9:=cE e8 hm1
 simp only[Bool.and_eq_true,Bool.not_eq_true'] at e9
 obtain⟨e10,e11⟩:=e9
 obtain⟨hX1,hu3,_,hbd1,_⟩:=lI hX0 hu2 hm1
 refine aK (H':=fw x r1.2::aG r1.2.bd s3::_) (fun w hh=>by rw[hbd1];exact hh) (kPm aa aa ?_)
 refine aY aa (aA call99 aa) (l3 B _ x r1.2 hX1 s3 hu3) .free aa aa ?_ ?_
 rotate_left
 ·rintro _ _ ⟨s9,hm9,_⟩
  exact(kO e11 hm9).elim
 rintro _ _ ⟨r2,s4,hm2,rfl,rfl⟩
 have e12:=cE e11 hm2
 simp only[Bool.and_eq_true] at e12
 obtain⟨hX2,hu4,_⟩:=lI hX1 hu3 hm2
 have hbl:r2.2.block=⟨1,0,[0]⟩:=congrArg Prod.fst (eV e12.2)
 rw[e10,e12.1]
 refine kPa aa aa (kPa aa aa (ad (ac (ab (kPm aa aa (kPv (bF aa) aa (kPm aa aa (aq aa (ap aa) (.on aa aa (ah aa)) aa aa (kPv (aH aa aa aa) aa (kPm aa aa (aq aa (ap aa) (.on aa aa (ah aa)) aa aa ?_)))))))))))
 refine aQ aa (aA call176 aa) (oR B _ x r2.2 hX2) (.on aa aa (ah aa)) aa aa ?_
 rintro _ _ ⟨bv5,hbv5,rfl,rfl⟩
 rw[hbl]
 refine aq aa (io runUnderlying95 (t:=3) (off:=1) aa isAgg3 aa aa) (.on aa aa (ah aa)) aa aa (aq aa (an aa aa aa) (.on aa aa (ah aa)) aa aa (kPv (aH aa aa aa) aa (kPm aa aa (aq aa (ap aa) (.on aa aa (ah aa)) aa aa (aJ [1] (aQ aa (aA call176 aa) (oR B _ x r2.2 hX2) (.on aa aa (ah aa)) aa aa ?_))))))
 rintro _ _ ⟨bv6,hbv6,rfl,rfl⟩
 rw[hbl]
 refine aq aa (io runUnderlying95 (t:=3) (off:=0) aa isAgg3 aa aa) (.on aa aa (ah aa)) aa aa (aq aa (an aa aa aa) (.on aa aa (ah aa)) aa aa (kPv (aH aa aa aa) aa (kPa aa aa (ad (ao [0] rfl (az ?_))))))
 exact ax results161 aa (fun w hh=>⟨rfl,(hh.dp [0,0,0,0,0,0,0,0,0])⟩)
theorem xJ(B:World)(Fr:List HP):
 ∀ w,Holds B Fr w→Calls Tryz.prog 106 [].toArray w (bB B Fr (.bool true)):=by
 refine au func106 aa ntmps106 aa (ac (ab (kPa aa aa (ad (ac (ac (ab (aE aa (aA call161 aa) (xK _ _) .free aa aa ?_))))))))
 refine kPv (bF aa) aa (ad (cf aa (rfl) (ay (ac (ab (kPv (aZ aa (kz _ aa)) aa (kPv (aZ aa (jc _ aa)) aa (kPv (aZ aa (jc _ aa)) aa (aC aa (y5 rO (v:=(0,1)) (u:=(0,2)) runUnderlying210 sizeOf209 zeroValue209 ⟨⟨by decide,by decide⟩,rfl⟩ rfl aa aa aa) .free aa aa ?_)))))))))
 rintro _ _ ⟨b16,rfl,rfl⟩
 refine aQ aa (aA call162 aa) (mf _ _ 0 0 40 ⟨by decide,by decide,by decide⟩ ⟨3,1,48⟩ vr [(0,1),(0,2)] (hh2) (by decide) (some ⟨b16,0,none⟩) _ EW none 0 [] SlR.nil (fun _ h=>(by cases h)) (by decide) (fun _ h=>absurd h (Nat.not_lt_zero _)) 0 (by decide)) .free aa aa ?_
 rintro _ _ ⟨bd,pa,N,s0,sF,out,hfm,hN,⟨hus0,hf⟩,hfill,hor⟩
 obtain rfl:=n48 hN
 have hev:=cE (cE (BS pa bd) hf) hfill
 simp only[Bool.and_eq_true,beq_iff_eq] at hev
 obtain⟨⟨rfl,e1⟩,e2⟩:=hev
 rw[eV e1] at hor
 rcases hor with ⟨n1,n2,s1,s2,ov,sv,hl1,hl2,hu2,hlm2,hn2,hov,hsv,rfl,rfl⟩ | ⟨s1,hl1,_⟩
 rotate_left
 ·have e3:=cE e2 hl1
  simp only[Bool.and_eq_true,beq_iff_eq] at e3
  exact absurd e3.1 (by simp)
 have e3:=cE e2 hl1
 simp only[Bool.and_eq_true,beq_iff_eq] at e3
 obtain⟨e4,e5⟩:=e3
 obtain rfl:n1=0:=by injection e4
 have e6:=cE e5 hl2
 simp only[Bool.and_eq_true,beq_iff_eq] at e6
 obtain⟨⟨e7,e14⟩,e8⟩:=e6
 rw[eV e7]
 refine aJ [2] (cP fun qo co hqo hqi=> ?_)
 subst hqo
 obtain⟨bO,oO,rfl⟩:=hqi 0 (by decide)
 refine kPm aa aa (kPv (aB aa aa) aa (kPv (aB aa aa) aa (kPv (aB aa aa) aa (kPv (aB aa aa) aa (aC aa (aN zeroValue40 aa) .free aa aa ?_)))))
 rintro _ _ ⟨b2,rfl,rfl⟩
 refine aC aa (aN zeroValue95 aa) .free aa aa ?_
 rintro _ _ ⟨b3,rfl,rfl⟩
 refine kPa aa aa (aD aa (aI (vs:=_) sizeOf40 aa aa aa aa aa) .free aa ?_)
 rintro _ _ rfl
 refine aD aa (aI (vs:=_) sizeOf95 aa aa aa (by first | rfl | exact gK (by assumption)) rfl) .free rfl ?_
 rintro _ _ rfl
 refine kPa aa aa (ad (ao [4,1,3,2,0] rfl (ac (ac (ab (kPm aa aa (kPv (dq runUnderlying28 aa aa aa) aa (kPm aa aa (aq aa (ap aa) (.on aa aa (ah aa)) aa aa (aq aa (bY aa runUnderlying125 ⟨_,rfl⟩ rfl) (.on aa aa (ah aa)) aa aa (aq aa (an aa aa aa) (.on aa aa (ah aa)) aa aa ?_)))))))))))
 refine kPv (aL aa aa aa) aa (kPm aa aa (aq aa (aj (m:=_) fj aa aa) (.on aa aa (ah aa)) aa aa (aq aa (ae isAgg3 aa aa) (.on aa aa (ah aa)) aa aa (aq aa (an aa aa aa) (.on aa aa (ah aa)) aa aa (kPv (aL aa aa aa) aa (ad (ao [33,4,1,2,0] rfl (cf aa (rfl) (ay (ac (ab ?_)))))))))))
 refine kPm aa aa (kPv (am isAgg40 sizeOf40 aa aa) aa ?_)
 refine aJ [4] (aQ aa (aA call69 aa) (tU _ _ bd s2 ⟨3,1,48⟩ jQ) .free aa aa ?_)
 rintro _ _ ⟨bs,rfl,rfl⟩
 refine kPa aa aa (ad (ac (ac (ab (kY fun bl o1 o2=>(kPm aa aa (kPv (dq runUnderlying89 aa aa aa) aa (kPm aa aa (aq aa (ap aa) (.on aa aa (ah aa)) aa aa (aq aa (ak aa) (.on aa aa (ah aa)) aa aa (aq aa (aj (m:=_) jv aa aa) (.on aa aa (ah aa)) aa aa ?_)))))))))))
 refine aq aa (ae isAgg116 aa aa) (.on aa aa (ah aa)) aa aa (aq aa (dq runUnderlying116 aa aa aa) (.on aa aa (ah aa)) aa aa (kPv (aL aa aa aa) aa (ad (ao [45,5,4,1,2,0] rfl (cf aa (rfl) (ay (ac (aK (fun w hh=>ei (S:=(⟨cC bd ⟨3,1,48⟩ s2,0,0,[],[]⟩:bG)) hh) (aK (H':=eD bs (⟨cC bd ⟨3,1,48⟩ s2,0,0,[],[]⟩:bG)::aG bd s2::row b2 [i64 3,i64 1,i64 48] 40::eP 3 i64 0 (.slice (some ⟨bO,oO,none⟩) 2 co,[40,42])::dy 0 (sv,[0])::Fr) (fun w hh=>by have h:=(hh.dp [2,5]);exact h) (cM [0,1,2,3,4,5,6,7,8,9,10,11,12,13] [7,8] [0,1,2] [7] [row b2 [i64 3,i64 1,i64 48] 40,eP 3 i64 0 (.slice (some ⟨bO,oO,none⟩) 2 co,[40,42])] Tryz.mixed (by kernel_rfl) ?_))))))))))
 refine al aa aa aa (ap aa) .free aa (al aa aa aa (am isAgg40 sizeOf40 aa aa) .free aa ?_)
 refine al aa aa aa (ap aa) .free aa (aT aa aa aa (ap aa) .free aa (aT aa aa aa (bZ runUnderlying125 sizeOf3 aa aa (by decide) (by decide)) .free aa (aT aa aa aa (bX (v:=i64 42) isAgg3 (de 3 aa) aa aa) .free aa (aT aa aa aa (dh (c:=42) runUnderlying3 runUnderlying26 aa (by decide)) .free aa (aU aa aa (aC aa (iQ runUnderlying25 sizeOf26 zeroValue26 aa aa aa) .free aa aa ?_))))))
 rintro _ _ ⟨b54,rfl,rfl⟩
 refine ad (cN (aU aa aa (aJ [1,1] ?_)))
 refine aY aa (aA call163 aa) (vV B _ bs bd (⟨cC bd ⟨3,1,48⟩ s2,0,0,[],[]⟩:bG) ⟨3,1,48⟩ jQ s2 hu2 ⟨jH jQ,by rw[hn2];decide,rfl,rfl⟩ (some ⟨b54,0,none⟩) 1 [42] (by decide) (fun v h=>by rw[List.mem_singleton.1 h];decide) (SlR.row (b:=b54) aa aa)) .free aa aa ?_ ?_
 rotate_left
 ·rintro _ _ ⟨s9,hm9,_⟩
  exact(kO e8 hm9).elim
 rintro _ _ ⟨r,s3,hm3,hor⟩
 have e9:=cE e8 hm3
 simp only[Bool.and_eq_true,beq_iff_eq] at e9
 obtain⟨⟨e10,e11⟩,e12⟩:=e9
 rcases hor with ⟨h1,_⟩ | ⟨x,X,hX,h0,rfl,rfl⟩
 ·rw[h1] at e11;cases e11
 rw[hX] at e11
 have e13:(bi X.went 42).getD 0=88:=by simpa [DD] using e11
 have hu3:=(zY jQ (fun v h=>by rw[List.mem_singleton.1 h];decide) (jH jQ) hu2 (by rw[hn2];decide) e14 hm3).1
 refine ad (c9 aa (aT aa aa aa (ap aa) .free aa (aT aa aa aa (aB aa aa) .free aa (aT aa aa aa (aB aa aa) .free aa (aT aa aa aa (bK aa) .free aa (aT aa aa aa (bK aa) .free aa (cJ (ao [7,6,4,1,2,0] rfl (ac (ab (kPm aa aa ?_)))))))))))
 refine kPv (am isAgg40 sizeOf40 aa aa) aa ?_
 refine aJ [2] (aQ aa (aA call111 aa) (gL _ _ _ _ ⟨3,1,48⟩ jQ hu3) .free aa aa ?_)
 rintro _ _ ⟨sv3,hsv3,rfl,rfl⟩
 rw[eV e12]
 refine kPm aa aa (kPv (aB aa aa) aa (kPv (aB aa aa) aa (aC aa (aN zeroValue95 aa) .free aa aa ?_)))
 rintro _ _ ⟨b8,rfl,rfl⟩
 refine aD aa (aI (vs:=_) sizeOf95 aa aa aa (by first | rfl | exact gK (by assumption)) rfl) .free rfl ?_
 rintro _ _ rfl
 refine kPa aa aa (ad (ao [9,8,7,6,4,2,0] rfl (ac (cK Tryz.mixed (by kernel_rfl) (by kernel_rfl) ?_))))
 refine kQm aa aa (kQv (an aa aa aa) aa (kQm aa aa (bA aa (ap aa) (.on aa aa (ah aa)) aa (bA aa (dq runUnderlying91 aa aa aa) (.on aa aa (ah aa)) aa (kQv (aH aa aa aa) aa (kQm aa aa (bA aa (ap aa) (.on aa aa (ah aa)) aa (bA aa (an aa aa aa) (.on aa aa (ah aa)) aa (kQv (aH aa aa aa) aa (kQm aa aa (bA aa (aj (m:=_) lj aa aa) (.on aa aa (ah aa)) aa ?_)))))))))))
 refine bA aa (ae isAgg3 aa aa) (.on aa aa (ah aa)) aa (bA aa (an aa aa aa) (.on aa aa (ah aa)) aa (kQv (aH aa aa aa) aa (kQm aa aa (bA aa (aj (m:=_) fj aa aa) (.on aa aa (ah aa)) aa (bA aa (ae isAgg3 aa aa) (.on aa aa (ah aa)) aa (bA aa (an aa aa aa) (.on aa aa (ah aa)) aa (kQv (aH aa aa aa) aa (kQm aa aa (bA aa (ap aa) (.on aa aa (ah aa)) aa (bA aa (ap aa) (.on aa aa (ah aa)) aa (bA aa (bZ runUnderlying125 sizeOf3 aa aa (by decide) (by decide)) (.on aa aa (ah aa)) aa ?_)))))))))))
 refine bA aa (bX (v:=i64 42) isAgg3 (de 7 aa) aa aa) (.on aa aa (ah aa)) aa (bA aa (dh (c:=42) runUnderlying3 runUnderlying26 aa (by decide)) (.on aa aa (ah aa)) aa (bH aa (aA call144 aa) (bU (q:=fw) (fun Fr=>wb B Fr x X 42)) (.on aa aa (ah aa)) aa ?_))
 refine bA aa (am isAgg40 sizeOf40 aa aa) (.on aa aa (ah aa)) aa ?_
 refine bH aa (aA call140 aa) (lh _ _ ⟨3,1,48⟩ jQ 1 (by decide) (by decide)) (.on aa aa (ah aa)) aa ?_
 refine bA aa (an aa aa aa) (.on aa aa (ah aa)) aa (kQv (aH aa aa aa) aa (kQa aa aa (bR (ao [0] rfl (az ?_)))))
 exact ax results106 aa (fun w hh=>⟨by rw[e13];rfl,(hh.dp [0,0,0,0,0,0,0,0,0])⟩)
theorem Tryz.ownKnobs:ownKnob Tryz.prog.godebug=none:=by kernel_rfl
theorem Tryz.laidOut:laidOutB Tryz.prog=true:=by kernel_rfl
theorem Eo{P:Program}{f:FuncId}{vs:Array Value}{W:World}(h:∀ w,Holds W [old W] w→Calls P f vs w (bB W [old W] (.bool true))):
 Calls P f vs W (fun e w'=>e= .returned (.bool true)∧RowKit.Below W.heap.size W w'):=(h W (zO W)).mono fun _ _ ⟨h1,h2⟩=>⟨h1,h2.oldb⟩
theorem zV{B:World}{σ:Env}{H:List HP}{P:Program}{d:Option Tmp}{ty:TypeId}{p:String}{af:Array Edge}{g:Option (Nat×Bool)}{t:TypeId}{x:Operand}{b off m:Nat}{cs:List Value}(ht:∀ w,(isAgg t).run P w= .ok true w)(hs:∀ w,(sizeOf t).run P w= .ok m w)(hx:evO σ x=some (.pointer (some ⟨b,off,none⟩)))[ls H B](hl:cs.length=m)(hv:∀ i,i<cs.length→B.cell? ⟨b,off+i,none⟩=cs[i]?):Evs P B σ H ⟨d,.load t x,ty,p,af,g⟩ (.agg cs.toArray):=by
 intro a w kn hh
 have h1:∀ i,i<cs.length→w.cell? ⟨b,off+i,none⟩=cs[i]? :=fun i hi=>by
  have h2:=hv i hi
  rw[List.getElem?_eq_getElem hi] at h2 ⊢
  exact hh.oldcell h2
 have h3:=fy (P:=P) h1 m 0 #[] (by omega)
 rw[List.drop_zero,List.take_of_length_le (by omega)] at h3
 simp[execOp,kn.eval hx,Instr.loadAt,Instr.sureAddr,loadVar,ht,hs,loadCells,h3,Sem.run]
open Go.ChangeShapes Go.WideShapes in
set_option maxRecDepth 100000 in
theorem mY{H:Type}{enc:TypeId×Value→H}{W:World}{r:Reach}{base b1:Nat}{held:Bool}{sp:Nat→Bool}{v:Value}{x:DataW H×List MemPlace}
 (hv:Value.okWide Tryz.prog W r b1 24 v) (h:∃ fuel,DataW.trod enc Tryz.prog W base sp held fuel 24 v.cells.toList=some x):
 ∃ z:Int×Int×Int,v= .agg #[u16 z.1,u16 z.2.1,u16 z.2.2]∧(Lit.int .u16 z.1).wf=true∧(Lit.int .u16 z.2.1).wf=true∧(Lit.int .u16 z.2.2).wf=true:=by
 obtain⟨fuel,hf⟩:=h
 obtain⟨cs,rfl,hsz⟩:=okWide_struct underlying24 hv
 have hsz:cs.size=3:=hsz
 obtain⟨y0,y1,y2,n,_,_,h0,h1,h2⟩:=Go.Deep.trod_struct3 underlying24 hf
 obtain⟨a,e0,_,w0⟩:=DataW.trod_int underlying22 h0
 obtain⟨b,e1,_,w1⟩:=DataW.trod_int underlying22 h1
 obtain⟨c,e2,_,w2⟩:=DataW.trod_int underlying22 h2
 refine⟨(a,b,c),?_,w0,w1,w2⟩
 obtain⟨l⟩:=cs
 match l,hsz with
 | [p,q,s],_=>
   have e0:[p]=[Value.int .u16 a]:=e0
   have e1:[q]=[Value.int .u16 b]:=e1
   have e2:[s]=[Value.int .u16 c]:=e2
   cases e0;cases e1;cases e2;rfl
theorem ww{B:World}{sv:Value}{xs:List Int}{Fr:List HP}{w:World}(h:Holds B (jA 0 (sv,xs)::Fr) w):Holds B (eP 3 i64 0 (sv,xs)::Fr) w:=by
 rcases kW h with ⟨rfl,rfl,h2⟩ | ⟨bd,rest,rfl,h2⟩
 ·exact kG h2
 ·exact iq aa aa h2
theorem vx{α:Type}{k:Int}{p:Int×α}:∀ {l:List (Int×α)},p∈ji l k→p∈l
 | [],h=>h
 | q::l,h=>by
   unfold ji at h
   split at h
   ·exact List.mem_cons_of_mem _ h
   ·rcases List.mem_cons.1 h with rfl | h
    ·exact List.mem_cons_self ..
    ·exact List.mem_cons_of_mem _ (vx h)
theorem kV{α:Type}{k:Int}:∀ {l:List (Int×α)},(l.map Prod.fst).Nodup→((ji l k).map Prod.fst).Nodup
 | [],h=>h
 | q::l,h=>by
   rw[List.map_cons,List.nodup_cons] at h
   unfold ji
   split
   ·exact h.2
   ·rw[List.map_cons,List.nodup_cons]
    refine⟨fun hm=>h.1 ?_,kV h.2⟩
    obtain⟨p,hp,e⟩:=List.mem_map.1 hm
    exact List.mem_map.2 ⟨p,vx hp,e⟩
theorem kR{α:Type}{k:Int}:∀ {l:List (Int×α)},k∉l.map Prod.fst→bi l k=none
 | [],_=>rfl
 | q::l,h=>by
   rw[List.map_cons,List.mem_cons] at h
   unfold bi
   rw[if_neg (fun e=>h (.inl e.symm)),kR fun hm=>h (.inr hm)]
theorem oz{α:Type}{k j:Int}:∀ {l:List (Int×α)},(l.map Prod.fst).Nodup→bi (ji l k) j=if j=k then none else bi l j
 | [],_=>by unfold ji bi;split<;>rfl
 | q::l,h=>by
   rw[List.map_cons,List.nodup_cons] at h
   unfold ji
   split
   ·rename_i hq
    by_cases hj:j=k
    ·rw[if_pos hj];subst hj;subst hq;exact kR h.1
    ·rw[if_neg hj];conv=>rhs;unfold bi
     rw[if_neg (fun e=>hj (by rw[←e,hq]))]
   ·rename_i hq
    conv=>lhs;unfold bi
    by_cases hj:q.1=j
    ·rw[if_pos hj,if_neg (fun e=>hq (by rw[hj,e]))];unfold bi;rw[if_pos hj]
    ·rw[if_neg hj,oz h.2];conv=>rhs;unfold bi
     rw[if_neg hj]
theorem qW{α:Type}{k:Int}{a:α}{l:List (Int×α)}(h:(l.map Prod.fst).Nodup):((mset l k a).map Prod.fst).Nodup:=by
 by_cases hk:k∈l.map Prod.fst
 ·rw[oy hk];exact h
 ·rw[dO (kR hk),List.map_append,List.nodup_append]
  exact⟨h,by simp,fun x hx y hy=>by simp at hy;subst hy;intro e;subst e;exact hk hx⟩
structure l7(T:cX):Prop where
 last:0≤T.last
 n1:(T.at_.map Prod.fst).Nodup
 n2:(T.no.map Prod.fst).Nodup
 fwd:∀ n p,bi T.at_ n=some p→bi T.no p=some n∧1≤n∧n≤T.last∧p≠0
 bwd:∀ p n,bi T.no p=some n→bi T.at_ n=some p
theorem D7:l7 ⟨[],[],0⟩:=⟨Int.le_refl 0,List.nodup_nil,List.nodup_nil,(fun _ _ h=>by cases h),(fun _ _ h=>by cases h)⟩
theorem l7.len{T:cX}(h:l7 T):(T.at_.length:Int)≤T.last:=by
 have h0:=h.last
 have:=kh T.last.toNat 1 _ h.n1 fun k hk=>by
  cases hm:bi T.at_ k with
  | none=>exact absurd hk (i0 hm)
  | some p=>have:=h.fwd k p hm;omega
 simp only[List.length_map] at this;omega
theorem l7.take{T:cX}(h:l7 T){p:Int}(hp:p≠0):l7 (T.take p).2∧bi (T.take p).2.at_ (T.take p).1=some p∧(1≤(T.take p).1∧(T.take p).1≤(T.take p).2.last)∧(T.last≤(T.take p).2.last∧(T.take p).2.last≤T.last+1)∧(∀ n,n≠(T.take p).1→bi (T.take p).2.at_ n=bi T.at_ n)∧
 ((bi T.no p=some (T.take p).1∧(T.take p).2=T)∨(bi T.no p=none∧(T.take p).1=T.last+1∧(T.take p).2=⟨T.at_++[(T.last+1,p)],T.no++[(p,T.last+1)],T.last+1⟩)):=by
 have h0:=h.last
 unfold cX.take
 rw[if_neg hp]
 cases hm:bi T.no p with
 | some n=>
   simp only[Option.isSome_some,if_true,Option.getD_some]
   have h1:=h.bwd p n hm
   have h2:=h.fwd n p h1
   exact⟨h,h1,⟨h2.2.1,h2.2.2.1⟩,⟨by omega,by omega⟩,fun _ _=>by first | rfl | trivial,.inl (by simp)⟩
 | none=>
   simp only[Option.isSome_none,Bool.false_eq_true,if_false]
   have hn:bi T.at_ (T.last+1)=none:=by
    cases hx:bi T.at_ (T.last+1) with
    | none=>rfl
    | some q=>have:=h.fwd _ _ hx;omega
   refine⟨⟨by first | omega | (simp only;omega),qW h.n1,qW h.n2,fun n q hq=> ?_,fun q n hq=> ?_⟩,by simp only[fL,if_true],⟨by first | omega | (simp only;omega),by first | omega | (simp only;omega)⟩,⟨by first | omega | (simp only;omega),by first | omega | (simp only;omega)⟩,fun n hne=>by simp only[fL];rw[if_neg hne],.inr ⟨trivial,trivial,by rw[dO hn,dO hm]⟩⟩
   ·simp only[fL] at hq ⊢
    split at hq
    ·rename_i e;cases hq;subst e;exact⟨if_pos aa,by omega,by omega,hp⟩
    ·rename_i e
     have h1:=h.fwd n q hq
     exact⟨by rw[if_neg (fun e=>by subst e;rw[hm] at h1;cases h1.1)];exact h1.1,h1.2.1,by omega,h1.2.2.2⟩
   ·simp only[fL] at hq ⊢
    split at hq
    ·rename_i e;cases hq;subst e;exact if_pos aa
    ·rename_i e
     have h1:=h.bwd q n hq
     have h2:=h.fwd n q h1
     rw[if_neg (by omega)];exact h1
def cX.drop(T:cX)(n:Int):cX:=⟨ji T.at_ n,if (bi T.at_ n).isSome=true then ji T.no ((bi T.at_ n).getD 0) else T.no,T.last⟩
theorem l7.drop{T:cX}(h:l7 T)(n:Int):l7 (T.drop n)∧(∀ j,bi (T.drop n).at_ j=if j=n then none else bi T.at_ j):=by
 unfold cX.drop
 have hd:∀ j,bi (ji T.at_ n) j=if j=n then none else bi T.at_ j:=fun j=>oz h.n1
 refine⟨?_,hd⟩
 cases hm:bi T.at_ n with
 | none=>
   simp only[Option.isSome_none,Bool.false_eq_true,if_false]
   refine⟨h.last,kV h.n1,h.n2,fun j p hj=> ?_,fun p j hj=> ?_⟩
   ·simp only[hd] at hj;split at hj
    ·cases hj
    ·exact h.fwd j p hj
   ·have h1:=h.bwd p j hj
    simp only[hd]
    rw[if_neg (fun e=>by subst e;rw[hm] at h1;cases h1)];exact h1
 | some q=>
   simp only[Option.isSome_some,if_true,Option.getD_some]
   have hq:=h.fwd n q hm
   have hd2:∀ j,bi (ji T.no q) j=if j=q then none else bi T.no j:=fun j=>oz h.n2
   refine⟨h.last,kV h.n1,kV h.n2,fun j p hj=> ?_,fun p j hj=> ?_⟩
   ·simp only[hd] at hj;split at hj
    ·cases hj
    ·rename_i hjn
     have h1:=h.fwd j p hj
     refine⟨?_,h1.2⟩
     simp only[hd2]
     rw[if_neg (fun e=>by subst e;rw[h1.1] at hq;exact hjn (by injection hq.1))];exact h1.1
   ·simp only[hd2] at hj;split at hj
    ·cases hj
    ·rename_i hpq
     have h1:=h.bwd p j hj
     simp only[hd]
     rw[if_neg (fun e=>by subst e;rw[hm] at h1;exact hpq (by injection h1 with h1;exact h1.symm))];exact h1
theorem xI(B:World)(Fr:List HP):
 ∀ w,Holds B Fr w→Calls Tryz.prog 46 [].toArray w (bB B Fr (.bool true)):=by
 refine au func46 aa ntmps46 aa (ac (ab (kPa aa aa (ad (ac (ac (ab (aE aa (aA call106 aa) (xJ _ _) .free aa aa ?_))))))))
 refine kPv (bF aa) aa (ad (cf aa (rfl) (ay (ac (ab (aQ aa (aA call70 aa) (yE _ _) .free aa aa ?_))))))
 rintro _ _ ⟨tb,rfl,rfl⟩
 refine kPa aa aa (ad (ac (ab (kPm aa aa (kPv (dq runUnderlying90 aa aa aa) aa (kPm aa aa (aq aa (ap aa) (.on aa aa (ah aa)) aa aa (cL aa (aA call57 aa) (jj _ _ _ _ _ ⟨by decide,by decide⟩) (.on aa aa (ah aa)) aa aa ?_))))))))
 refine aq aa (an aa aa aa) (.on aa aa (ah aa)) aa aa (kPv (aH aa aa aa) aa (kPm aa aa (aq aa (ap aa) (.on aa aa (ah aa)) aa aa (cL aa (aA call57 aa) (jj _ _ _ _ _ ⟨by decide,by decide⟩) (.on aa aa (ah aa)) aa aa ?_))))
 refine aq aa (an aa aa aa) (.on aa aa (ah aa)) aa aa (kPv (aH aa aa aa) aa (kPm aa aa (aq aa (ap aa) (.on aa aa (ah aa)) aa aa (cL aa (aA call57 aa) (jj _ _ _ _ _ ⟨by decide,by decide⟩) (.on aa aa (ah aa)) aa aa ?_))))
 refine aq aa (an aa aa aa) (.on aa aa (ah aa)) aa aa (kPv (aH aa aa aa) aa (kPm aa aa (aq aa (ap aa) (.on aa aa (ah aa)) aa aa (cL aa (aA call57 aa) (jj _ _ _ _ _ ⟨by decide,by decide⟩) (.on aa aa (ah aa)) aa aa ?_))))
 refine aq aa (an aa aa aa) (.on aa aa (ah aa)) aa aa (kPv (aH aa aa aa) aa (kPa aa aa (ad (ao [0] rfl (az ?_)))))
 exact ax results46 aa (fun w hh=>⟨rfl,(hh.dp [0])⟩)
structure HpS where
 bd:Nat
 c:Cfg
 S:bG
 o:Bool
 T:cX
 X:Option bE
def mt:Bool→Nat→bG→HP
 | true=>iK
 | false=>eD
def xV(x:Nat):Option bE→HP
 | none=>pr True
 | some X=>fw x X
def Dt(x:Nat):Option bE→Value
 | none=> .pointer none
 | some _=>ptr x
abbrev cq(bh bs bt x:Nat)(h:HpS):HP:=row bh [ptr h.bd,i64 h.c.log,i64 h.c.roots,i64 h.c.space,ptr bs,ptr bt,Dt x h.X] 93
def cy(bh:Nat)(h:HpS):HP:=hex fun (x:Nat×Nat×Nat)=>grp [cq bh x.1 x.2.1 x.2.2 h,mt h.o x.1 h.S,fc x.2.1 h.T,xV x.2.2 h.X]
section
variable {B:World} {n:Nat} {D:List Deferred} {σ:Env} {Fr:List HP} {K:Act→World→Prop} {bh bs bt x:Nat} {h:HpS} {w:World}
theorem ek(g:∀ bs bt x,GO B n D σ (cq bh bs bt x h::mt h.o bs h.S::fc bt h.T::xV x h.X::Fr) K):GO B n D σ (cy bh h::Fr) K:=fun a w st=>by
 obtain⟨x,hx⟩:=st.holds.hex
 exact g x.1 x.2.1 x.2.2 a w ⟨st.toStA,hx.grp⟩
theorem cz(hh:Holds B (cq bh bs bt x h::mt h.o bs h.S::fc bt h.T::xV x h.X::Fr) w):Holds B (cy bh h::Fr) w:=
 Holds.unhex (bs,bt,x) (Holds.ungrp (l:=[cq bh bs bt x h,mt h.o bs h.S,fc bt h.T,xV x h.X]) hh)
end
structure dl(h:HpS)(s:Dev):Prop where
 c:bC h.c
 k:Cg h.S h.bd h.c s
 sw:h.o=true→mZ h.S∧h.S.dirty.length≤1000000
 u:U64 s
 t1:0≤h.T.last∧h.T.last≤1000000000
 tl:h.T.at_.length≤800000
 tp:∀ p∈h.T.at_,0≤p.2∧p.2≤1000000
 x:∀ X,h.X=some X→ev X∧X.bd=h.bd∧X.c=h.c∧0<X.b.rts.length
abbrev HpS.blk(h:HpS)(s:Dev):Blk:=(s.block h.c).1
def HpS.obj(h:HpS)(s:Dev)(n:Int):du×Int:=if (bi h.T.at_ n).isSome=true then s.objOf h.c (h.blk s) ((bi h.T.at_ n).getD 0) else ((0,0,0),6)
def HpS.plc(h:HpS)(n:Int):Int×Int:=if (bi h.T.at_ n).isSome=true∨n=0 then ((bi h.T.at_ n).getD 0,0) else (0,6)
def HpS.words(h:HpS):List Int:=(cG (h.T.at_.map Prod.fst)).map fun n=>(bi h.T.at_ n).getD 0
theorem fM(B:World)(Fr:List HP)(bh bs bt x:Nat)(h:HpS)(s:Dev)(hc:bC h.c)(hu:U64 s):
 ∀ w,Holds B (cq bh bs bt x h::aG h.bd s::Fr) w→Calls Tryz.prog 52 [ptr bh].toArray w (Ret B (fun rv H'=>∃ sv,aV sv=true∧rv=mW (h.blk s) sv∧H'=dy 0 (sv,(h.blk s).rts)::cq bh bs bt x h::aG h.bd s::Fr) (fun _ _=>False)):=by
 refine au func52 aa ntmps52 aa (ac (ab (aC aa (aN zeroValue95 aa) .free aa aa ?_)))
 rintro _ _ ⟨b2,rfl,rfl⟩
 refine ad (ac ?_)
 refine lb (.br [0,1,2,3,4,5,6,7] 8 (.fin [9,10,11,12,13,14]) 12 (.fin [8,9,10,11,13,14])) [8,12,13] [0,1,2,3,4,5,6,7,9,10,11] [12,13] [cq bh bs bt x h] [] (G:=Nat×Value) (fun (b3,sv)=>[(3,ptr b3),(2,ptr b2)]) (fun (b3,sv)=>row b3 [i64 (h.blk s).act,i64 (h.blk s).used,sv] 95::dy 0 (sv,(h.blk s).rts)::cq bh bs bt x h::aG h.bd s::row b2 [i64 0,i64 0,.slice none 0 0] 95::Fr) Tryz.mixed (by kernel_rfl) ?_ ?_
 ·skip
  refine wF (al aa aa aa (ap aa) .free aa (al aa aa aa (ak aa) .free aa (al aa aa aa (aj (m:=_) gO aa aa) .free aa (al aa aa aa (ae isAgg28 aa aa) .free aa (al aa aa aa (ap aa) .free aa (al aa aa aa (ak aa) .free aa (al aa aa aa (aj (m:=_) dW aa aa) .free aa (al aa aa aa (am isAgg40 sizeOf40 aa aa) .free aa ?_))))))))
  refine cJ ?_
  refine qg aa aa ?_ ?_
  ·skip
   refine aJ [2] (aQ aa (aA call111 aa) (gL _ _ _ _ h.c hc hu) .free aa aa ?_)
   rintro _ _ ⟨sv14,hsv14,rfl,rfl⟩
   refine ad (uV aa (jE (al aa aa aa (ap aa) .free aa (al aa aa aa (aB aa aa) .free aa (al aa aa aa (aB aa aa) .free aa (aU aa aa (aC aa (aN zeroValue95 aa) .free aa aa ?_)))))))
   rintro _ _ ⟨b3,rfl,rfl⟩
   refine ad (cN (aU aa aa ?_))
   refine aD aa (aI (vs:=_) sizeOf95 aa aa aa (by first | rfl | exact gK (by assumption)) rfl) .free rfl ?_
   rintro _ _ rfl
   refine ad (cN (aT aa aa aa (bK aa) .free aa (cJ ?_)))
   exact fun a w st_=>⟨(b3,sv14),st_.to ⟨rfl,rfl,trivial⟩ (fun hh=>(hh.pk [0,0,2]))⟩
  ·skip
   refine aC aa (aN zeroValue95 aa) .free aa aa ?_
   rintro _ _ ⟨b3,rfl,rfl⟩
   refine ad (tP (jE (aU aa aa (aJ [3] (aQ aa (aA call111 aa) (gL _ _ _ _ h.c hc hu) .free aa aa ?_)))))
   rintro _ _ ⟨sv14,hsv14,rfl,rfl⟩
   refine ad (c9 aa (al aa aa aa (ap aa) .free aa (al aa aa aa (aB aa aa) .free aa (al aa aa aa (aB aa aa) .free aa (aU aa aa ?_)))))
   refine aD aa (aI (vs:=_) sizeOf95 aa aa aa (by first | rfl | exact gK (by assumption)) rfl) .free rfl ?_
   rintro _ _ rfl
   refine ad (cN (aT aa aa aa (bK aa) .free aa (cJ ?_)))
   exact fun a w st_=>⟨(b3,sv14),st_.to ⟨rfl,rfl,trivial⟩ (fun hh=>(hh.pk [2,0,2]))⟩
 rintro⟨b3,sv⟩
 refine cg (σ':=[(3,ptr b3),(2,ptr b2)]) ⟨rfl,rfl,trivial⟩ (ac (aJ [1] (cP fun qv cv hqv hqi=> ?_)))
 subst hqv
 refine ab (kPv (am isAgg95 sizeOf95 aa aa) aa ?_)
 refine aD aa (aI (vs:=_) sizeOf95 aa aa aa (by first | rfl | exact gK (by assumption)) rfl) .free rfl ?_
 rintro _ _ rfl
 refine ad (az ?_)
 exact sQ results52 (.cellA aa isAgg95 sizeOf95 aa aa) (fun w hw=>⟨_,⟨.slice qv (h.blk s).rts.length cv,rfl,rfl,rfl⟩,(hw.dp [1,3])⟩)
theorem vt{α:Type}{k:Int}{v:α}:∀ {l:List (Int×α)},bi l k=some v→(k,v)∈l
 | [],h=>by cases h
 | q::l,h=>by
   unfold bi at h
   split at h
   ·rename_i e;cases h;rw[←e];exact List.mem_cons_self ..
   ·exact List.mem_cons_of_mem _ (vt h)
theorem dl.pb{h:HpS}{s:Dev}(hW:dl h s)(n:Int):0≤(bi h.T.at_ n).getD 0∧(bi h.T.at_ n).getD 0≤1000000:=by
 cases hm:bi h.T.at_ n with
 | none=>simp
 | some v=>exact hW.tp _ (vt hm)
theorem jo(B:World)(Fr:List HP)(bh bs bt x:Nat)(h:HpS)(s:Dev)(hW:dl h s)(n:Int):
 ∀ w,Holds B (cq bh bs bt x h::fc bt h.T::aG h.bd s::Fr) w→Calls Tryz.prog 60 [ptr bh,i64 n].toArray w (bB B (cq bh bs bt x h::fc bt h.T::aG h.bd s::Fr) (.tuple #[iF (h.obj s n).1,i64 (h.obj s n).2])):=by
 refine au func60 aa ntmps60 aa ?_
 have hc:=hW.c
 have hu:=hW.u
 have hbk:=dM (s:=s) hc hu
 have hbl:(h.blk s).rts.length≤16:=fQ (s:=s) hc
 refine ac (ab (aC aa (aN zeroValue105 aa) .free aa aa ?_))
 rintro _ _ ⟨b4,rfl,rfl⟩
 refine kPa aa aa (ad (ac (ab (kPm aa aa (kPv (ak aa) aa (kPv (aj (m:=_) gN aa aa) aa (kPv (ae isAgg90 aa aa) aa (kPm aa aa (aE aa (aA call121 aa) (bU (q:=fc) (fun Fr=>oF _ Fr bt h.T n)) .free aa aa ?_)))))))))
 refine kPm aa aa (kPv (aB aa aa) aa (kPv (aB aa aa) aa (kPa aa aa (kPa aa aa (ad (ao [7,6,5,4,0] rfl (ac (ac (ab (kPm aa aa (kPv (bF aa) aa ?_)))))))))))
 refine ad ?_
 refine aW aa (fun h18=> ?_) (fun h18=> ?_)
 ·have hk:¬ (bi h.T.at_ n).isSome=true:=by simpa using h18
  have hres:h.obj s n=((0,0,0),6):=by unfold HpS.obj;rw[if_neg hk]
  refine ac (ab (kPv (aZ aa (uH)) aa (aD aa (aI (vs:=_) sizeOf105 aa aa aa aa aa) .free aa ?_)))
  rintro _ _ rfl
  refine kPa aa aa (ad (az ?_))
  exact iR results60 (.cellA aa isAgg105 sizeOf105 aa aa) (.tmp aa) (fun w hw=>⟨by rw[hres];rfl,(hw.dp [0])⟩)
 ·have hk:(bi h.T.at_ n).isSome=true:=by simpa using h18
  have hres:h.obj s n=s.objOf h.c (h.blk s) ((bi h.T.at_ n).getD 0):=by unfold HpS.obj;rw[if_pos hk]
  refine ay (ac (cM [0,1,2,3,4,5,6,7,8,10,9,11,12,13,14,15] [9,11,14] [0,1,2,3,4,5,6,7,10] [9] [cq bh bs bt x h] Tryz.mixed (by kernel_rfl) ?_))
  refine al aa aa aa (ap aa) .free aa (al aa aa aa (ak aa) .free aa (al aa aa aa (aj (m:=_) gO aa aa) .free aa (al aa aa aa (ae isAgg28 aa aa) .free aa (al aa aa aa (ap aa) .free aa (al aa aa aa (ak aa) .free aa (al aa aa aa (aj (m:=_) dW aa aa) .free aa (al aa aa aa (am isAgg40 sizeOf40 aa aa) .free aa ?_)))))))
  refine aT aa aa aa (ap aa) .free aa (al aa aa aa (ap aa) .free aa (aU aa aa (aJ [1,2] (aQ aa (aA call52 aa) (fM B _ bh bs bt x h s hc hu) .free aa aa ?_))))
  rintro _ _ ⟨sv,hsv,rfl,rfl⟩
  refine ad (cN (aU aa aa (aE aa (aA call122 aa) (bU (q:=aG) (fun Fr=>lL _ Fr _ _ h.c hc (h.blk s) sv hbk hsv _ (by have:=hW.pb n;omega))) .free aa aa ?_)))
  refine ad (c9 aa (aT aa aa aa (aB aa aa) .free aa (aT aa aa aa (aB aa aa) .free aa (aU aa aa (aD aa (aI (vs:=_) sizeOf105 aa aa aa aa aa) .free aa ?_)))))
  rintro _ _ rfl
  refine ad (c9 aa (aT aa aa aa (bK aa) .free aa (cJ (ao [5,4] rfl (az ?_)))))
  exact iR results60 (.cellA aa isAgg105 sizeOf105 aa aa) (.tmp aa) (fun w hw=>⟨by rw[hres];rfl,((hw.dp [0,2]).pk [0,1])⟩)
theorem yD(B:World)(Fr:List HP)(bh bs bt x:Nat)(h:HpS)(s:Dev)(n:Int):
 ∀ w,Holds B (cq bh bs bt x h::fc bt h.T::Fr) w→Calls Tryz.prog 58 [ptr bh,i64 n].toArray w (bB B (cq bh bs bt x h::fc bt h.T::Fr) (.tuple #[i64 (h.plc n).1,i64 (h.plc n).2])):=by
 refine au func58 aa ntmps58 aa (ac (ab (kPa aa aa (kPa aa aa (ad (ac (ab (kPm aa aa (kPv (ak aa) aa (kPv (aj (m:=_) gN aa aa) aa (kPv (ae isAgg90 aa aa) aa ?_)))))))))))
 refine kPm aa aa (aE aa (aA call121 aa) (bU (q:=fc) (fun Fr=>oF _ Fr bt h.T n)) .free aa aa ?_)
 refine kPm aa aa (kPv (aB aa aa) aa (kPv (aB aa aa) aa (kPa aa aa (kPa aa aa (ad (ao [7,6,5,4,1] rfl (ac (ac (ab (kPm aa aa (kPv (bF aa) aa ?_)))))))))))
 refine kPm aa aa ?_
 apply dr (tp:=22) (t:=19) (σ1:=[(19,_),(6,_),(5,_),(4,_)]) 3 rfl (aF rfl)
 ·intro hg1
  refine aq aa (ap aa) (.on aa aa (ah hg1)) aa aa (aq aa (an aa aa aa) (.on aa aa (ah hg1)) aa aa (kPv (aH aa hg1 aa) aa ?_))
  exact ba aa (aF aa) (cV hg1)
 ·intro hg1
  refine ar aa (.on aa aa (ai hg1)) aa (ar aa (.on aa aa (ai hg1)) aa (kPv (aL aa hg1 aa) aa ?_))
  exact ba aa (aF aa) (cW hg1)
 refine ad ?_
 refine aW aa (fun h22=> ?_) (fun h22=> ?_)
 ·have hk:¬ ((bi h.T.at_ n).isSome=true∨n=0):=by simpa using h22
  have hres:h.plc n=(0,6):=by unfold HpS.plc;rw[if_neg hk]
  refine ac (ab (kPa aa aa (kPa aa aa (ad (az ?_)))))
  exact bg results58 aa aa (fun w hw=>⟨by rw[hres],hw⟩)
 ·have hk:(bi h.T.at_ n).isSome=true∨n=0:=by
   cases hm:(bi h.T.at_ n).isSome<;>simp[hm] at h22<;>simp[h22]
  have hres:h.plc n=((bi h.T.at_ n).getD 0,0):=by unfold HpS.plc;rw[if_pos hk]
  refine ay (ac (ab (kPm aa aa (kPa aa aa (kPa aa aa (ad (az ?_)))))))
  exact bg results58 aa aa (fun w hw=>⟨by rw[hres];rfl,hw⟩)
theorem oD(B:World)(Fr:List HP)(bh bs bt x:Nat)(h:HpS)(s:Dev)(hW:dl h s):
 ∀ w,Holds B (cq bh bs bt x h::fc bt h.T::Fr) w→Calls Tryz.prog 79 [ptr bh].toArray w (Ret B (fun rv H'=>aV rv=true∧H'=dy 0 (rv,h.words)::cq bh bs bt x h::fc bt h.T::Fr) (fun _ _=>False)):=by
 refine au func79 aa ntmps79 aa ?_
 have hkl:(cG (h.T.at_.map Prod.fst)).length≤800000:=by have:=hW.tl;rw[cG,List.length_mergeSort,List.length_map];exact this
 refine ac (ab (kPa aa aa (ad (ac (ab (kPa aa aa (ad (ac (ac (aK (fun w hh=>kG (T:=26) (enc:=w64) hh) (ab ?_)))))))))))
 refine kPm aa aa (kPv (ak aa) aa (kPv (aj (m:=_) gN aa aa) aa (kPv (ae isAgg90 aa aa) aa (aJ [2] (aQ aa (aA call75 aa) (pm B _ bt h.T (by have:=hW.tl;omega)) .free aa aa ?_)))))
 rintro rv _ rfl
 refine aK (fun w hh=>ww hh) (cP fun qn cn hqn hqi=> ?_)
 subst hqn
 refine kPv (bY aa runUnderlying125 ⟨_,rfl⟩ rfl) aa (kPm aa aa (ad (aO (cR (ι:=Nat×Value×List Int) [13,12,2,0] (fun (k,sv,ws)=>(k≤(cG (h.T.at_.map Prod.fst)).length)∧(aV sv=true)∧(ws=((cG (h.T.at_.map Prod.fst)).take k).map (fun n=>(bi h.T.at_ n).getD 0))∧(ws.length=k)) (fun (k,sv,ws)=>[(14,i64 k),(3,sv)]) (fun (k,sv,ws)=>eP 26 w64 0 (sv,ws)::eP 3 i64 0 (.slice qn (cG (h.T.at_.map Prod.fst)).length cn,(cG (h.T.at_.map Prod.fst)))::fc bt h.T::cq bh bs bt x h::Fr) (fun (k,sv,ws)=>(cG (h.T.at_.map Prod.fst)).length - k) (0,.slice none 0 0,[]) (⟨Nat.zero_le _,rfl,rfl,rfl⟩) (fun a w st=>st.to ⟨rfl,rfl,trivial⟩ (fun hh=>(hh.pk [2]))) ?_))))
 rintro⟨k,sv,ws⟩ ⟨hk0,hsv,hws,hwl⟩
 try simp only at hk0 hsv hws hwl ⊢
 refine cg (σ':=[(14,i64 k),(3,sv),(13,_),(12,_),(2,_),(0,_)]) (aF aa) (ac (ab (kPv (an aa aa aa) aa (ad (ac ?_)))))
 refine aW aa (fun h15=> ?_) (fun h15=> ?_)
 ·have hk:k<(cG (h.T.at_.map Prod.fst)).length:=by simpa using h15
  obtain⟨bN,oN,rfl⟩:=hqi k hk
  have hpb:=hW.pb (cG (h.T.at_.map Prod.fst))[k]
  refine ay (ac (aO (ac (ab (kPv (bZ runUnderlying125 sizeOf3 aa aa (by omega) (by omega)) aa ?_)))))
  refine kPv (bX (v:=i64 (cG (h.T.at_.map Prod.fst))[k]) isAgg3 (de 1 aa) aa (by rw[Int.toNat_natCast,List.getElem?_map,List.getElem?_eq_getElem hk];rfl)) aa ?_
  refine kPa aa aa (ad (ac (ab (kPm aa aa (kPv (ak aa) aa (kPv (aj (m:=_) gN aa aa) aa (kPv (ae isAgg90 aa aa) aa (kPm aa aa (aE aa (aA call121 aa) (bU (q:=fc) (fun Fr=>oF _ Fr bt h.T (cG (h.T.at_.map Prod.fst))[k])) .free aa aa ?_)))))))))
  refine kPm aa aa (kPv (aB aa aa) aa (kPv (aB aa aa) aa (kPa aa aa (kPa aa aa (ad (ao [6,14,3,13,12,2,0] rfl (ab (kPm aa aa (kPm aa aa (kPv (dh runUnderlying3 runUnderlying26 aa (fW (by omega))) aa (aC aa (iQ runUnderlying25 sizeOf26 zeroValue26 aa aa aa) .free aa aa ?_)))))))))))
  rintro _ _ ⟨b30,rfl,rfl⟩
  refine aJ [1,0] (aC aa (iw aa aa runUnderlying25 runUnderlying25 ⟨_,rfl⟩ sizeOf26 zeroValue26 aa (fun _=>rfl) iy aa aa (by omega)) .free aa aa ?_)
  rintro sv9 _ ⟨hsv9,rfl⟩
  refine kPa aa aa (ad (ab (kPv (aS aa aa) aa (kPm aa aa (ad (ao [14,3,13,12,2,0] rfl ?_))))))
  exact fun a w st_=>⟨(k+1,sv9,ws++[(bi h.T.at_ (cG (h.T.at_.map Prod.fst))[k]).getD 0]),⟨by omega,hsv9,by rw[List.take_succ_eq_append_getElem hk,List.map_append, ←hws];rfl,by simp[hwl]⟩,by omega,st_.to (aF aa) (fun hh=>hh)⟩
 ·have h9:¬ k<(cG (h.T.at_.map Prod.fst)).length:=by simpa using h15
  have hk:k=(cG (h.T.at_.map Prod.fst)).length:=by omega
  have hres:ws=h.words:=by rw[hws,hk,List.take_length];rfl
  refine bT (ac (ab (kPm aa aa (kPa aa aa (ad (ao [2] rfl (az ?_)))))))
  exact ax results79 aa (fun w hw=>⟨_,⟨hsv,rfl⟩,by rw[←hres];exact((hw.dp [1]).pk [0,1])⟩)
theorem C1(B:World)(Fr:List HP)(bh bs bt x:Nat)(h:HpS)(s:Dev)(hW:dl h s):
 ∀ w,Holds B (cq bh bs bt x h::fc bt h.T::aG h.bd s::Fr) w→Calls Tryz.prog 74 [ptr bh].toArray w (Ret B (fun rv H'=>aV rv=true∧H'=dy 0 (rv,h.words++(h.blk s).rts)::cq bh bs bt x h::fc bt h.T::aG h.bd s::Fr) (fun _ _=>False)):=by
 refine au func74 aa ntmps74 aa ?_
 have hc:=hW.c
 have hu:=hW.u
 have hbk:=dM (s:=s) hc hu
 have hbl:(h.blk s).rts.length≤16:=fQ (s:=s) hc
 have hwl:h.words.length≤800000:=by have:=hW.tl;simp[HpS.words,cG];exact this
 refine ac (ab (kPa aa aa (ad (ac (ab (kPm aa aa (aQ aa (aA call79 aa) (oD B _ bh bs bt x h s hW) .free aa aa ?_)))))))
 rintro wv _ ⟨hwv,rfl⟩
 refine kPm aa aa (aJ [1,2] (aQ aa (aA call52 aa) (fM B _ bh bs bt x h s hW.c hW.u) .free aa aa ?_))
 rintro _ _ ⟨sv,hsv,rfl,rfl⟩
 refine cP fun qb cb hqb hqbi=> ?_
 subst hqb
 refine kPv (io runUnderlying95 (t:=25) (off:=2) aa isAgg25 aa aa) aa (aJ [3] (aC aa (dD (yv:=(.slice qb (h.blk s).rts.length cb)) (ys:=(h.blk s).rts) aa aa runUnderlying25 runUnderlying25 ⟨_,rfl⟩ sizeOf26 zeroValue26 aa (fun _=>rfl) iy aa aa (de (1 - 1) aa) (by omega)) .free aa aa ?_))
 rintro nv _ ⟨hnv,rfl⟩
 refine kPa aa aa (ad (ao [2] rfl (az ?_)))
 exact ax results74 aa (fun w hw=>⟨_,⟨hnv,rfl⟩,((hw.dp [1]).pk [0,0,1])⟩)
end Go.Proofs.YtlcibdhmgclfjaaGreat
