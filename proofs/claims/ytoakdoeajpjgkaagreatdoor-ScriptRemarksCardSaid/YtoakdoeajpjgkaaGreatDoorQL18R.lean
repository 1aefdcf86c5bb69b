/- ScriptRemarks. Conditions: none. -/
import Derived.Test.YtoakdoeajpjgkaaGreatDoorQL18Ro
import Derived.Test.YtoakdoeajpjgkaaGreatDoorTie
import Derived.Test.YtoakdoeajpjgkaaGreatDoorCards
import Derived.SevenTiedAt
open Go.Proofs.Tryz
set_option linter.unusedSimpArgs false
set_option linter.unusedVariables false
set_option linter.unnecessarySimpa false
set_option linter.unusedSectionVars false
namespace Go.Proofs.YtoakdoeajpjgkaaGreatDoor
set_option linter.unusedSimpArgs false
set_option linter.unusedVariables false
open Go
theorem si(c x y:UInt8):∀ l:List UInt8,(iw c [x,y] l).length≤2*l.length
 | []=>by simp[iw]
 | a::t=>by
   have:=si c x y t
   have e:iw c [x,y] (a::t)=(if a=c then [x,y] else [a])++iw c [x,y] t:=rfl
   rw[e,List.length_append,List.length_cons]
   split<;>simp only[List.length_cons,List.length_nil]<;>omega
def sm(f:Nat→Ln)(i:Nat):List LO:=(List.range i).map fun j=>(dI (f j).c,some (f j).c)
def qP(f:Nat→Ln)(note:List UInt8)(m:Nat)(i:Nat):List LO:=(List.range i).flatMap fun j=>(sT (f j).c note,some (f j).c)::List.replicate m ([],none)
theorem vC(f:Nat→Ln)(note:List UInt8)(m:Nat):∀ i,(sm f i).filterMap Prod.snd=(List.range i).map (fun j=>(f j).c)∧(qP f note m i).filterMap Prod.snd=(List.range i).map (fun j=>(f j).c):=fun i=>by
 unfold sm qP
 induction List.range i with
 | nil=>exact⟨rfl,rfl⟩
 | cons a t ih=>
   have hr:∀ m:Nat,(List.replicate m (([],none):LO)).filterMap Prod.snd=[]:=fun m=>by
    induction m with
    | zero=>rfl
    | succ m ih=>rw[List.replicate_succ,List.filterMap_cons];exact ih
   refine⟨?_,?_⟩
   ·simp only[List.map_cons,List.filterMap_cons];rw[ih.1]
   ·rw[List.flatMap_cons,List.cons_append,List.filterMap_cons,List.filterMap_append,hr,ih.2];rfl
theorem yJ:∀ m:Nat,di ((List.replicate m (([],none):LO)).map Prod.fst)=Lib.repeatL [10] m
 | 0=>rfl
 | m+1=>by rw[List.replicate_succ,List.map_cons];show[]++[10]++di _=_;rw[yJ m];rfl
theorem Cv(f:Nat→Ln)(i:Nat):di ((sm f (i+1)).map Prod.fst)=di ((sm f i).map Prod.fst)++(dI (f i).c++[10]):=by
 unfold sm
 rw[List.range_succ,List.map_append,List.map_append,nK]
 simp[di]
theorem Cu(f:Nat→Ln)(note:List UInt8)(m i:Nat):di ((qP f note m (i+1)).map Prod.fst)=di ((qP f note m i).map Prod.fst)++([32]++iw 32 [32,9] (dI (f i).c)++[32,35]++note++[10]++Lib.repeatL [10] m):=by
 unfold qP
 rw[List.range_succ,List.flatMap_append,List.map_append,nK]
 congr 1
 rw[List.flatMap_singleton,List.map_cons]
 show(sT (f i).c note++[10])++di _=_
 rw[yJ]
 unfold sT
 simp
theorem yK(f:Nat→Ln)(note:List UInt8)(m:Nat)(hm:m≤1):∀ i,(qP f note m i).length≤2*i:=fun i=>by
 unfold qP
 induction i with
 | zero=>simp
 | succ i ih=>
   rw[List.range_succ,List.flatMap_append,List.length_append,List.flatMap_singleton,List.length_cons,List.length_replicate]
   omega
theorem Ct{n:Nat}{f:Nat→Ln}(hf:∀ i,i<n→LnW (f i)){note:List UInt8}(hn:∀ x∈note,x≠10)(m:Nat):(∀ p∈sm f n,kC p.1 p.2)∧∀ p∈qP f note m n,kC p.1 p.2:=by
 refine⟨fun p hp=> ?_,fun p hp=> ?_⟩
 ·obtain⟨j,hj,rfl⟩:=List.mem_map.1 hp
  exact ze (Ln.c_w (hf j (List.mem_range.1 hj)))
 ·obtain⟨j,hj,h⟩:=List.mem_flatMap.1 hp
  rcases List.mem_cons.1 h with rfl | h
  ·exact zf (Ln.c_w (hf j (List.mem_range.1 hj))) hn
  ·rw[(List.mem_replicate.1 h).2];exact sR
theorem mf(B:World)(Fr:List HP)[cP Fr B](gl:GL B)(fg:FG B)(lf:LF B)(q:Option Addr)(n cap:Nat)(f:Nat→Ln)(hf:∀ i,i<n→LnW (f i))(hr:ly B q n 5 (fun i=>(f i).row))(note:List UInt8)(m:Nat)(hm:m≤255):
 ∀ w,Holds B Fr w→Calls Tryz.prog 10 [.slice q n cap,str note,.int .u8 m].toArray w (aZ B Fr (.bool true)):=by
 refine ao func10 aa ntmps10 aa (ac (ab (kPa aa aa (ad (ac (ac (ab (aw aa (ar call11 aa) (u5 _ _ gl fg) .free aa aa ?_))))))))
 refine kPv (bz aa) aa (ad (bI aa (rfl) (aq (ac (ac (ab (kPm aa aa (kPv (bG aa runUnderlying22 ⟨_,rfl⟩ rfl) aa (kPv (an aa aa aa) aa (kPm aa aa ?_))))))))))
 apply gB (tp:=29) (t:=25) (σ1:=[(25,_),(6,_),(0,_),(1,_),(2,_)]) 4 rfl (aE rfl)
 ·intro hg1
  refine al aa (ak aa) (.on aa aa (ae hg1)) aa aa (al aa (l0 aa runUnderlying9 aa) (.on aa aa (ae hg1)) aa aa (al aa (an aa aa aa) (.on aa aa (ae hg1)) aa aa (kPv (aG aa hg1 aa) aa ?_)))
  exact aY aa (aE aa) (fR hg1)
 ·intro hg1
  refine ap aa (.on aa aa (ah hg1)) aa (ap aa (.on aa aa (ah hg1)) aa (ap aa (.on aa aa (ah hg1)) aa (kPv (ay aa hg1 aa) aa ?_)))
  exact aY aa (aE aa) (fQ hg1)
 refine kPm aa aa ?_
 apply gB (tp:=33) (t:=30) (σ1:=[(30,_),(6,_),(0,_),(1,_),(2,_)]) 3 rfl (aE rfl)
 ·intro hg2
  refine al aa (ak aa) (.on aa aa (ae hg2)) aa aa (aw aa (ar call22 aa) (yD _ note 10) (.on aa aa (ae hg2)) aa aa ?_)
  refine kPv (aG aa hg2 aa) aa ?_
  exact aY aa (aE aa) (fR hg2)
 ·intro hg2
  refine ap aa (.on aa aa (ah hg2)) aa (ap aa (.on aa aa (ah hg2)) aa (kPv (ay aa hg2 aa) aa ?_))
  exact aY aa (aE aa) (fQ hg2)
 refine ad ?_
 refine a8 aa (fun h33=> ?_) (fun h33=> ?_)
 ·
  refine ac (ab (kPa aa aa (ad (az ?_))))
  exact au results10 aa (fun w hw=>⟨rfl,hw⟩)
 ·have h9:(n:Int)≤50∧(note.length:Int)≤30∧¬ 0≤Lib.indexByte note 10:=by simp at h33;omega
  obtain⟨hn,hno,hnx⟩:=h9
  have hnn:∀ x∈note,x≠10:=ka (by have:=Lib.indexByte_ge note 10;omega)
  refine aq (ac (ab (kPa aa aa (kPa aa aa (ad (ac (ac (ab (kPm aa aa (kPv (bG aa runUnderlying22 ⟨_,rfl⟩ rfl) aa (kPm aa aa ?_)))))))))))
  refine ad (aH (cJ (ι:=Nat×List UInt8×List UInt8) [35,34,6,1,2] (fun (i,s,t)=>(i≤n)∧(s=di ((sm f i).map Prod.fst))∧(t=di ((qP f note (m%2) i).map Prod.fst))∧(s.length≤71*i)∧(t.length≤180*i)) (fun (i,s,t)=>[(36,i64 i),(7,str s),(8,str t)]) (fun (i,s,t)=>Fr) (fun (i,s,t)=>n - i) (0,[],[]) (⟨Nat.zero_le _,rfl,rfl,Nat.zero_le _,Nat.zero_le _⟩) (fun a w st=>st.to (aE aa) (fun hh=>hh)) ?_))
  rintro⟨i,s,t⟩ ⟨hi0,hs,ht,hsl,htl⟩
  try simp only at hi0 hs ht hsl htl ⊢
  refine cx (σ':=[(36,i64 i),(7,str s),(8,str t),(35,_),(34,_),(6,_),(1,_),(2,_)]) (aE aa) (ac (ab (kPv (an aa aa aa) aa (ad (ac ?_)))))
  refine a8 aa (fun h37=> ?_) (fun h37=> ?_)
  ·have hi:i<n:=by simp at h37;omega
   obtain⟨bq,oq,rfl,_⟩:=hr.cell i hi
   obtain⟨k1,n1,n2,n3,g1,hfi⟩:=Ln.lit (hf i hi)
   have hcw:=Ln.c_w (hf i hi)
   have hll:=xn (c:=(f i).c) (by have:=hcw.len;omega) (fun x hx=>(hcw.b x hx).2)
   have hc3:=hcw.len
   have hrl:=si 32 32 9 (dI (f i).c)
   have hrp:(Lib.repeatL [10] (m%2)).length≤1:=by rw[Lib.repeatL_length];simp only[List.length_cons,List.length_nil];omega
   refine aq (ac (aH (ac (ab (kPv (kr (sz:=5) runUnderlying22 sizeOf28 aa aa (by omega) (by omega) aa) aa (kPv (iq (i:=i) (c:=[.int .u8 k1,w64 n1,w64 n2,w64 n3,.int .u8 g1]) (cap:=cap) isAgg28 sizeOf28 (SlN.arg hr) aa (AT hi hfi)) aa (kPb (aC zeroValue28 aa) aa fun b10=> ?_)))))))
   refine kPs (ax (vs:=_) sizeOf28 aa aa aa (by first | rfl | exact ei (by assumption)) rfl) rfl ?_;refine ad ?_;refine ac ?_;refine ab ?_;refine kPv (ag isAgg28 sizeOf28 aa aa) aa ?_;refine aJ aa (ar call12 aa) (y9 _ _ gl lf (f i) (hf i hi) hfi) .free aa aa ?_
   rintro _ _ ⟨tr,ht1,ht2,rfl,rfl⟩
   refine kPm aa aa (kPv (aA aa aa) aa (kPv (aA aa aa) aa (kPv (aA aa aa) aa (kPb (aC zeroValue32 aa) aa fun b11=> ?_))))
   refine kPs (ax (vs:=_) sizeOf32 aa aa aa (by first | rfl | exact ei (by assumption)) rfl) rfl ?_;refine kPa aa aa ?_;refine kPa aa aa ?_;refine ad ?_;refine am [12,36,7,8,35,34,6,1,2] rfl ?_;refine ac ?_;refine ab ?_;refine kPm aa aa ?_
   refine kPm aa aa ?_
   refine al aa (db aa aa (by first | omega | (simp only[List.length_append,List.length_cons,List.length_nil];omega))) .free aa aa ?_
   refine al aa (db aa aa (by first | omega | (simp only[List.length_append,List.length_cons,List.length_nil];omega))) .free aa aa ?_
   refine kPa aa aa (ad (ab (kPm aa aa (kPm aa aa (aw aa (ar call23 aa) (yp gl (dI (f i).c) (by omega) 32 [32,9] (by decide) aa) .free aa aa ?_)))))
   refine al aa (db aa aa (by first | omega | (simp only[List.length_append,List.length_cons,List.length_nil];omega))) .free aa aa ?_
   refine al aa (db aa aa (by first | omega | (simp only[List.length_append,List.length_cons,List.length_nil];omega))) .free aa aa ?_
   refine kPm aa aa ?_
   refine al aa (db aa aa (by first | omega | (simp only[List.length_append,List.length_cons,List.length_nil];omega))) .free aa aa ?_
   refine al aa (db aa aa (by first | omega | (simp only[List.length_append,List.length_cons,List.length_nil];omega))) .free aa aa ?_
   refine kPm aa aa (kPv (eQ (c:=((m%2:Nat):Int)) aa aa (by decide) ((iU 2 (by omega)).trans (by omega))) aa (kPv (bP runUnderlying5 runUnderlying3 aa) aa (aw aa (ar call19 aa) (AK [10] (m%2) (by decide) (by omega)) .free aa aa ?_)))
   refine al aa (db aa aa (by first | omega | (simp only[List.length_append,List.length_cons,List.length_nil];omega))) .free aa aa ?_
   refine al aa (db aa aa (by first | omega | (simp only[List.length_append,List.length_cons,List.length_nil];omega))) .free aa aa ?_
   refine kPa aa aa (ad (am [8,7,36,35,34,6,1,2] rfl (ab (kPv (aN aa aa) aa (kPm aa aa (ad ?_))))))
   exact fun a w st_=>⟨(i+1,s++(dI (f i).c++[10]),t++([32]++iw 32 [32,9] (dI (f i).c)++[32,35]++note++[10]++Lib.repeatL [10] (m%2))),⟨by first | omega | (simp only;omega),by rw[Cv,hs],by rw[Cu,ht],by simp only[List.length_append,List.length_cons,List.length_nil];omega,by simp only[List.length_append,List.length_cons,List.length_nil];omega⟩,by first | omega | (simp only;omega),st_.to (aE aa) (fun hh=>(hh.dp [0,0,0]))⟩
  ·have hi:i=n:=by simp at h37;omega
   subst hi
   have hrk:=Ct hf hnn (m%2)
   obtain⟨cs,hcs⟩:∃ cs,cs=(List.range i).map fun j=>(f j).c:=⟨_,rfl⟩
   have hpa:eP s=(cs,0,0):=by
    rw[hs,oe hrk.1 (by rw[←hs];omega) (by rw[(vC f note (m%2) i).1];simp;omega) (by simp[sm];omega),(vC f note (m%2) i).1,hcs]
   have hpb:eP t=(cs,0,0):=by
    rw[ht,oe hrk.2 (by rw[←ht];omega) (by rw[(vC f note (m%2) i).2];simp;omega) (by have:=yK f note (m%2) (by omega) i;omega),(vC f note (m%2) i).2,hcs]
   have hlw:∀ c∈cs,c.2.length≤1000000:=fun c hc=>by
    rw[hcs] at hc
    obtain⟨j,hj,rfl⟩:=List.mem_map.1 hc
    have:=(Ln.c_w (hf j (List.mem_range.1 hj))).len
    omega
   have hln:cs.length≤1000000:=by rw[hcs];simp;omega
   refine bE (ac (ab (kPm aa aa (aJ aa (ar call14 aa) (of _ _ gl fg s) .free aa aa ?_))))
   rintro _ _ ⟨s1,hs1,rfl,rfl⟩
   rw[hpa]
   refine kPm aa aa (kPv (aA aa aa) aa (kPv (aA aa aa) aa (kPv (aA aa aa) aa (kPa aa aa (kPa aa aa (kPa aa aa (ad (am [16,14,8,6] rfl (ac (ab (kPm aa aa ?_)))))))))))
   refine aJ aa (ar call14 aa) (of _ _ gl fg t) .free aa aa ?_
   rintro _ _ ⟨s2,hs2,rfl,rfl⟩
   rw[hpb]
   refine kPm aa aa (kPv (aA aa aa) aa (kPv (aA aa aa) aa (kPv (aA aa aa) aa (kPa aa aa (kPa aa aa (kPa aa aa (ad (am [19,17,16,14,6] rfl (ac (aT [1,0] (ab ?_)))))))))))
   refine kPm aa aa (kPv (an aa aa aa) aa (kPm aa aa (al aa (ak aa) (.on aa aa (ae (by simp))) aa aa (al aa (an aa aa aa) (.on aa aa (ae (by simp))) aa aa (kPv (ay aa (by simp) aa) aa (kPm aa aa (al aa (ak aa) (.on aa aa (ae (by simp))) aa aa (al aa (ak aa) (.on aa aa (ae (by simp))) aa aa (aw aa (ar call15 aa) (wW hlw hlw hln hln) (.on aa aa (ae (by simp))) aa aa ?_)))))))))
   refine kPv (ay aa (by simp) aa) aa (kPa aa aa (ad (am [6] rfl (az ?_))))
   exact au results10 aa (fun w hw=>⟨by simp,(hw.dp [0,0])⟩)
theorem lh(W:World){a0:Option Addr}{n0 cap0:Nat}{f:Nat→Ln}(w0:n0≤9223372036854775807∧(∀ i,i<n0→LnW (f i))∧ly W a0 n0 5 (fun i=>(f i).row))(s:ByteArray)(ws:s.size≤maxLen)(c:Int)(wc:(Lit.int .u8 c).wf=true)(hsh:W.ShapedOpen Tryz.prog)(hL:laidMet Tryz.prog Rows.scriptRemarksRow.laid W):
 Calls Tryz.prog 10 #[.slice a0 n0 cap0,.string s,.int .u8 c] W fun e w'=>e= .returned (.bool true)∧RowKit.Below W.heap.size W w':=by
 obtain⟨l,hl,_⟩:=xH s
 have hc:=bounds_u8 wc
 obtain⟨m,rfl⟩:=Int.eq_ofNat_of_zero_le hc.1
 rw[hl]
 exact CN (mf W [old W] (Dw hsh hL) (DE hL.tail.tail.tail.tail.tail.tail) (Dv hL.tail.tail.tail.tail.tail.tail.tail) a0 n0 cap0 f w0.2.1 w0.2.2 l m (by omega))
namespace scriptRemarks
open Go.ChangeShapes Go.WideShapes Go.ChangeAt Go.RowKit
set_option maxRecDepth 100000 in
theorem CM(os:Os)(started:os.Started)(H:Type)(enc:TypeId×Value→H):
 ReturnsInHanded {} Tryz.checked os 10 .any (fun w args=>(Rows.scriptRemarksSpec.pre enc Tryz.prog Tryz.f10 Rows.scriptRemarksRow.domain false w args∧laidMetH Tryz.prog Rows.scriptRemarksRow.laid w)∧sizedMet enc Tryz.prog Tryz.f10 (OpenSpec.ofChange Rows.scriptRemarksSpec) false w args) (Rows.scriptRemarksSpec.post enc Tryz.prog Tryz.f10 false true false false):=by
 refine qN (C:=Tryz.checked) (laid:=Rows.scriptRemarksRow.laid) Tryz.ownKnobs started (by kernel_rfl) func10
  (ChangeSpec.witness_shaped (enc:=enc) (C:=Tryz.checked) (os:=os) (X:=fun w _=>laidMetH Tryz.prog Rows.scriptRemarksRow.laid w) false (World.laidAll Tryz.prog os Rows.scriptRemarksRow.laid) #[.slice none 0 0,.string ByteArray.empty,.int .u8 0] 8 (World.laidAll_os _ _ _)
   (World.shaped_of_ZipB (by kernel_rfl) (by kernel_rfl)) (by kernel_rfl) (by kernel_rfl) (by kernel_rfl)
   (by rw[MakeChecks.laidMetH_plain _ _ _ (by kernel_rfl)];exact laidMet_laidAll _ (by kernel_rfl) (by kernel_rfl))) ?_
 intro W base args ds gs before hval0 hW hcnd hL hsh
 rw[MakeChecks.laidMetH_plain _ _ _ (by kernel_rfl)] at hL
 have hval:∀ (j:Nat) t v,Tryz.f10.params[j]? =some t→args[j]? =some v→Value.okWide Tryz.prog W .any base t v:=hval0
 have hW':=hW
 obtain⟨p,q,hA0,hV,rfl,hfz,hnd⟩:=hW
 have hA:DataW.TrodAll enc Tryz.prog W 0 (fun _=>true) true Tryz.f10.params.toList args.toList ds p:=hA0
 rw[Tryz.params10] at hA hval
 obtain⟨v0,vs0,d0,ds0,p0,q0,hargs,rfl,rfl,h0,r0⟩:=trodAll_cons hA
 obtain⟨v1,vs1,d1,ds1,p1,q1,rfl,rfl,rfl,h1,r1⟩:=trodAll_cons r0
 obtain⟨v2,vs2,d2,ds2,p2,q2,rfl,rfl,rfl,h2,r2⟩:=trodAll_cons r1
 obtain⟨rfl,rfl,rfl⟩:=trodAll_nil r2
 obtain rfl:args= #[v0,v1,v2]:=by cases args;simp_all
 obtain⟨rfl,rfl⟩:=trodVars_none hV
 obtain⟨a0,len0,cap0,rfl⟩:=okWide_slice underlying22 (hval 0 22 v0 rfl rfl)
 have k0:=h0
 have lt0:∀ x∈p0,x.block<W.heap.size:=by obtain⟨m,hm⟩:=k0;exact DataW.trod_lt m _ _ _ hm
 obtain⟨z0,w0⟩:=je h0
 have k1:=h1
 have lt1:∀ x∈p1,x.block<W.heap.size:=by obtain⟨m,hm⟩:=k1;exact DataW.trod_lt m _ _ _ hm
 obtain⟨s1,rfl,w1⟩:∃ s,v1= .string s∧s.size≤maxLen:=by
  obtain⟨s,e,_,_,ws⟩:=Go.ChangeMaps.open_string underlying9 (hval 1 9 v1 rfl rfl) h1
  exact⟨s,e,ws⟩
 have k2:=h2
 have lt2:∀ x∈p2,x.block<W.heap.size:=by obtain⟨m,hm⟩:=k2;exact DataW.trod_lt m _ _ _ hm
 obtain⟨a2,rfl,w2⟩:∃ a,v2= .int .u8 a∧(Lit.int .u8 a).wf=true:=by
  obtain⟨a,e,_,_,wa⟩:=open_int underlying5 (hval 2 5 v2 rfl rfl) h2
  exact⟨a,e,wa⟩
 clear hA0 hval0
 refine(lh W w0 s1 w1 a2 w2 hsh hL).mono fun e W' ⟨he,bel⟩=> ?_
 subst he
 exact⟨_,rfl,_,_,_,[],_,[],hW',trodAll_mk1 (shut_bool underlying4 _),(trodAll_cons_mk (Below.trod Tryz.laidOut (by kernel_rfl) (of_decide_eq_true (by kernel_rfl)) k0 bel lt0) (trodAll_cons_mk (Below.trod Tryz.laidOut (by kernel_rfl) (of_decide_eq_true (by kernel_rfl)) k1 bel lt1) (trodAll_cons_mk (Below.trod Tryz.laidOut (by kernel_rfl) (of_decide_eq_true (by kernel_rfl)) k2 bel lt2) trodAll_mk0))),rfl,bel.frame _,fun h=>by cases h⟩
theorem DU:Rows.scriptRemarksRow.holds Tryz.pinned (OpenSpec.ofChange Rows.scriptRemarksSpec):=
 OpenClaim.holds_of_wide 10 Tryz.f10 rfl rfl rfl rfl rfl rfl rfl ⟨rfl,rfl,rfl,rfl,rfl⟩ rfl rfl rfl rfl rfl named func10 DF DZ wrap
  (fun os started H enc _=>CM os started H enc)
theorem proved:Rows.ScriptRemarksCardSaid:=
 Claim7.holds_tied_plain_at .later [] [.data,.data,.data,.data,.sentinel,.sentinel,.data,.data,.pinned] true (true, "f90e334a796904a9246829541802d2bcc979710ad5f61b09d7205d88cafc73d6") true DU (fun _ h=>by cases h) (by kernel_rfl) (fun _ h=>by cases h) scriptRemarks_row_tie rfl ⟨rfl,rfl⟩ (by kernel_rfl) rfl
  (fun f fn hf hfn=>by
   obtain rfl:f=10:=Option.some.inj ((show Tryz.prog.funcNamed "tumulus/tumuluslaw18.ScriptRemarks" =some 10 by kernel_rfl).symm.trans hf) |>.symm
   obtain rfl:fn=Tryz.f10:=(Option.some.inj (Tryz.func10.symm.trans hfn)).symm
   exact⟨by kernel_rfl,fun j t ht=>by
    rw[Tryz.params10] at ht
    have hm:t∈[22,9,5]:=by simpa using Array.mem_of_getElem? ht
    have hall:([22,9,5].all fun u=> !Tryz.prog.wantsStandIn u)=true:=by kernel_rfl
    exact(show Tryz.prog.wantsStandIn t=false by simpa using List.all_eq_true.1 hall t hm)⟩)
  (by kernel_rfl)
end scriptRemarks
end Go.Proofs.YtoakdoeajpjgkaaGreatDoor
