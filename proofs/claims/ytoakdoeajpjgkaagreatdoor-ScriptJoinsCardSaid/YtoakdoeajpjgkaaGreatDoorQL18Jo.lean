/- Part of a law's texts. Conditions: none. -/
import Derived.Test.YtoakdoeajpjgkaaGreatDoorQL18Jn
import Derived.LaidLaws
import Derived.Lib.LaidTab
import Derived.Stop.LaidErr
import Derived.Shelf.Vars
import Derived.MakeChecks
import Derived.ChangeSame
import Derived.Deep.Slices
import Derived.SizedLaws
import Derived.Stop.Joined
import Derived.Lay
import Derived.Lib.Builder
import Derived.Lib.UnsafeStr
import Derived.JoinedOf
open Go.Proofs.Tryz
set_option linter.all false
namespace Go.Proofs.YtoakdoeajpjgkaaGreatDoor
open Go
theorem D1{s:Dev}{c:Cfg}{b:Blk}(h0:b.has c 0=false):∀ (ws:List Int) (x:gU),(∀ v∈ws,v=0)→ws.foldl (s.see c b) x=x
 | [],_,_=>rfl
 | v::t,x,h=>by
   have hv:=h v (List.mem_cons_self ..)
   subst hv
   simp only[List.foldl_cons]
   rw[show s.see c b x 0=x from by unfold Dev.see;rw[if_pos (.inr h0)]]
   exact D1 h0 t x fun v hv=>h v (List.mem_cons_of_mem _ hv)
theorem rz{s:Dev}{c:Cfg}(hc:bA c){b:Blk}(hb:gh c b){ws:List Int}(h:∀ v∈ws,v=0):s.reachSize c b ws=0:=by
 have h1:=hb.act
 have h4:=iF hc (k:=b.act) (by omega)
 have h0:b.has c 0=false:=by unfold Blk.has;simp;omega
 unfold Dev.reachSize Dev.reach
 rw[D1 h0 ws _ h]
 unfold Dev.reachL
 rfl
theorem x5{kp:Prop}{c:Cfg}(hc:bA c){N bd:Nat}{h:HpS}{s:Dev}{a:Int}(H:HC kp c N bd h s a 0 [])(hT:h.T.at_=[]):h.stats s=⟨0,0,0,0,false⟩:=by
 have hz:∀ v∈h.words++(h.blk s).rts,v=0:=fun v hv=>by
  rcases List.mem_append.1 hv with hv | hv
  ·unfold HpS.words at hv
   rw[hT] at hv
   simp[bZ] at hv
  ·rw[H.blk] at hv
   exact(H.hm.heap.roots v hv).resolve_right fun h=>by cases h
 unfold HpS.stats
 rw[hT,H.sk.ln,H.ho,rz H.hw.c (dG H.hw.c H.hw.u) hz,H.blk]
 rfl
theorem isW{B:World}{Fr:List HP}{bm br n bh bd:Nat}{c:Cfg}{h:HpS}{s:Dev}(hn:n≤1000)(hW:ei h s)(hb:h.bd=bd)(hst:h.stats s=⟨0,0,0,0,false⟩)(hck:s.check h.c=0):∀ w,Holds B (dH bh h::aB bd s::eF bm br n c::eE br n::Fr) w→Calls Tryz.prog 45 [ptr bm,ptr bh].toArray w (aZ B (dH bh h::aB bd s::eF bm br n c::eE br n::Fr) (.bool true)):=by
 subst hb;exact Bz B Fr bm br n c hn bh h s hW hst hck
theorem HC.check{kp:Prop}{c:Cfg}(hc:bA c){N bd:Nat}{h:HpS}{s:Dev}{a u:Int}{L:List Int}(H:HC kp c N bd h s a u L):s.check h.c=0:=by
 rw[H.hcc];exact o5 hc H.hw.u H.hm.block H.hm.heap
theorem uV{p:Int}(hp:p≠0):(⟨[],[],0⟩:gB).take p=(1,⟨[(1,p)],[(p,1)],1⟩):=by
 unfold gB.take
 rw[if_neg hp,if_neg (by simp[bK])]
 rfl
theorem Bv{m:Int→Int}{k w r:Int}(h:0≤r∧r≤w∧w≤64)(e:m k=eC w r):orf m k=r∧osz m k=w+1:=by
 unfold orf osz
 rw[e,sK h];exact⟨rfl,rfl⟩
theorem vK(B:World)(Fr:List HP):
 ∀ w,Holds B Fr w→Calls Tryz.prog 24 [].toArray w (aZ B Fr (.bool true)):=by
 refine an func24 aa ntmps24 aa ?_
 obtain⟨c,hcm,hcs,hcl,hcr⟩:∃ c,c=mkC 0 0 40∧c.space=48∧c.log=3∧c.roots=1:=⟨_,rfl,rfl,rfl,rfl⟩
 have hc:bA c:=by rw[hcm];exact wA (by decide) (by decide) (by decide)
 have hA:=ji hc
 have hf0:=vx hc (a:=0) (by decide)
 refine ac (ab (kPa aa aa (ad (ac (ac (ab (aw aa (au call43 aa) (vL _ _) .free aa aa ?_)))))))
 refine kPv (bz aa) aa (ad (bH aa (rfl) (ar (ac (ab (kPv (aQ aa (jh _ aa)) aa (aH aa (au call44 aa) (xG B _ 0 0 40 (by decide) c hcm) .free aa aa ?_)))))))
 rintro _ _ ⟨bd,bh,bm,br,N,s,hN,H0,rfl,rfl⟩
 obtain⟨h0,hh0⟩:∃ h0:HpS,h0=iM bd c s:=⟨_,rfl⟩
 rw[←hh0] at H0 ⊢
 have hT0:h0.T=⟨[],[],0⟩:=by rw[hh0];rfl
 refine kPm aa aa (kPv (aA aa aa) aa (kPv (aA aa aa) aa (kPv (aA aa aa) aa (kPa aa aa (kPa aa aa (kPa aa aa (ad (am [3,2,0] rfl (ac (ac (ab ?_)))))))))))
 refine kPm aa aa (kPv (df runUnderlying91 aa aa aa) aa (kPm aa aa (al aa (ak aa) (.on aa aa (ae aa)) aa aa (al aa (ak aa) (.on aa aa (ae aa)) aa aa (aw aa (au call45 aa) (isW (by omega) H0.hw H0.hbd (x5 hc H0 (by rw[hT0])) (H0.check hc)) (.on aa aa (ae aa)) aa aa ?_)))))
 refine al aa (bz aa) (.on aa aa (ae aa)) aa aa (kPv (aJ aa aa aa) aa (ad (am [22,2,0] rfl (bH aa (rfl) (ar (ac (ab (kPm aa aa (aH aa (au call46 aa) (DO hc H0 (by decide) (by omega)) .free aa aa ?_)))))))))
 rintro _ _ ⟨h1,hx1,hT1,H1,rfl,rfl⟩
 have hk1:h1.T.take (c.frm 0+0)=(1,⟨[(1,c.frm 0+0)],[(c.frm 0+0,1)],1⟩):=by rw[hT1,hT0];exact uV (by omega)
 obtain⟨h2,s2,js2,e2,H2,hx2,hT2,_,hjl2,hl2⟩:=H1.alloc hc hx1 (w:=2) (r:=1) ⟨by decide,by decide,by decide⟩ (by omega) (.inr (by simp;omega)) (by rw[hT1,hT0];decide) (by rw[hT1,hT0];decide)
 rw[hk1] at e2 hT2
 have hk2:=Bv (m:=s2.load) (k:=c.frm 0+0) (w:=2) (r:=1) ⟨by decide,by decide,by decide⟩ (by rw[hl2 _ (by omega),if_pos (by omega),if_pos rfl])
 obtain⟨h3,s3,js3,e3,H3,hx3,hT3,_⟩:=H2.write hc hx2 (n:=1) (k:=c.frm 0+0) (i:=1) (v:=7) (by rw[hT2];rfl) (by simp) (by omega) (by decide) (.inl (by rw[H2.ff,H2.ft];omega))
 obtain⟨h4,s4,e4,H4,hx4,hT4,_⟩:=H3.commit hc hx3
 have hu4:(h4.stats s4).used=3:=by
  show(h4.blk s4).used=3
  rw[H4.blk];rfl
 refine kPa aa aa (ad (ac (ab (kPm aa aa (kPv (aQ aa (kB _ _ aa aa)) aa (dC aa (au call47 aa) (DT H1.hw H1.hbd e2) .free aa aa ?_))))))
 refine kPm aa aa (kPv (aA aa aa) aa (kPv (aA aa aa) aa (kPa aa aa (kPa aa aa (ad (am [6,5,4,2,0] rfl (ac (ab (kPm aa aa (kPv (ao aa aa aa) aa (kPm aa aa ?_)))))))))))
 refine al aa (ak aa) (.on aa aa (ae aa)) aa aa (al aa (ao aa aa aa) (.on aa aa (ae aa)) aa aa (kPv (ay aa aa aa) aa (kPm aa aa (al aa (ak aa) (.on aa aa (ae aa)) aa aa (al aa (ao aa aa aa) (.on aa aa (ae aa)) aa aa (kPv (ay aa aa aa) aa (kPm aa aa (al aa (ak aa) (.on aa aa (ae aa)) aa aa (dC aa (au call48 aa) (CT H2.hw H2.hbd (by decide) e3) (.on aa aa (ae aa)) aa aa ?_)))))))))
 refine al aa (ao aa aa aa) (.on aa aa (ae aa)) aa aa (kPv (ay aa aa aa) aa (kPm aa aa (al aa (ak aa) (.on aa aa (ae aa)) aa aa (dC aa (au call49 aa) (Cd H3.hw H3.hbd e4) (.on aa aa (ae aa)) aa aa ?_))))
 refine al aa (ao aa aa aa) (.on aa aa (ae aa)) aa aa (kPv (ay aa aa aa) aa (kPm aa aa (al aa (ak aa) (.on aa aa (ae aa)) aa aa (aw aa (au call50 aa) (C0 H4.hw H4.hbd) (.on aa aa (ae aa)) aa aa ?_))))
 refine al aa (hG runUnderlying106 (t:=3) (off:=0) aa isAgg3 aa aa) (.on aa aa (ae aa)) aa aa (al aa (ao aa aa aa) (.on aa aa (ae aa)) aa aa (kPv (ay aa aa aa) aa (kPa aa aa (ad (am [0] rfl (az ?_))))))
 exact aq results24 aa (fun w hw=>⟨by simp[hu4],(hw.dp [0,0,0,0])⟩)
def awS:List UInt8:=[97,108,108,111,99,32,49,32,50,32,35,32,97,32,110,111,100,101]
theorem EA:num [49]=some 1:=by rw[←se];rfl
theorem Ez:num [50]=some 2:=by rw[←se];rfl
theorem AV:eV awS=([(3,[1,2])],0,0):=by
 have h1:spl 10 awS=[awS]:=by decide
 have h2:tok (dw awS) none=[[97,108,108,111,99],[49],[50]]:=by decide
 have h3:cR [[97,108,108,111,99],[49],[50]]=((3,[1,2]),0):=wE (ws:=[[97,108,108,111,99],[49],[50]]) (k:=3) (by decide) rfl (by simp[ie,EA,Ez])
 have h4:stP awS p0=(true,1,[(3,[1,2])],[],0,0):=by
  unfold stP p0
  simp only
  rw[h2,h3]
  rfl
 exact xE (by decide) (by rw[h1,Do (by rw[h4]),h4];rfl)
theorem AG{rs:List CR}(h:nk rs [(3,[1,2])]):∃ q c,rs=[(3,(q,2,c),[1,2])]:=by
 obtain⟨h1,h2⟩:=h
 match rs,h1 with
 | [(k,(q,n,c),l)],h1=>
   simp only[List.map_cons,List.map_nil,crC,List.cons.injEq,Prod.mk.injEq,and_true] at h1
   obtain⟨rfl,rfl⟩:=h1
   have h3:n=2:=h2 _ (List.mem_cons_self ..)
   subst h3
   exact⟨q,c,rfl⟩
theorem kU{B:World}{P:Program}{σ:Env}{H:List HP}{d:Option Tmp}{ty:TypeId}{p:String}{af:Array Edge}{g:Option (Nat×Bool)}{t:TypeId}{x:Operand}{b off k i j m cap:Nat}{cs:List (List Value)}{c:List Value}{v:Value}(ht:∀ w,(isAgg t).run P w= .ok false w)(hr:SlN B H (.slice (some ⟨b,off,none⟩) k cap) m cs)(hx:evO σ x=some (.pointer (some ⟨b,off+i*m+j,none⟩)))(hi:cs[i]? =some c)(hj:c[j]? =some v):
 Evs P B σ H ⟨d,.load t x,ty,p,af,g⟩ v:=by
 intro a w kn hh
 obtain⟨q,cp,e,hc⟩:=hr.ex
 obtain⟨b',off',e',hl,h2⟩:=hc w hh i c hi
 cases e
 cases e'
 have h3:=h2 j (by rw[←hl];exact(List.getElem?_eq_some_iff.1 hj).1)
 rw[hj, ←Nat.add_assoc] at h3
 simp[execOp,kn.eval hx,Instr.loadAt,Instr.sureAddr,loadVar,ht,load,Sem.run,h3]
theorem DG{B:World}{H:List HP}{q:Option Addr}{c b:Nat}(h:SlR B H (.slice q 2 c) [w64 1,w64 2])(g:SlR B H (.slice (some ⟨b,0,none⟩) 2 2) [w64 1,w64 2]):
 ∀ w,Holds B H w→Calls Tryz.prog 25 [.slice q 2 c,.slice (some ⟨b,0,none⟩) 2 2].toArray w (aZ B H (.bool true)):=fun w hw=>
 uo B H q (some ⟨b,0,none⟩) c 2 [1,2] [1,2] (by decide) (by decide) (fun i hi=>tc h hw i hi) (fun _ _=>⟨_,_,rfl⟩) h g w hw
theorem Cr:dj (3,[1,2])=[97,108,108,111,99,32,49,32,50]:=by
 unfold dj
 rw[if_neg (by decide)]
 show([97,108,108,111,99]++([32]++Lib.decDigits 1))++([32]++Lib.decDigits 2)=_
 rw[iw (by decide),iw (by decide)]
 rfl
theorem DQ{B:World}{H:List HP}[cM H B](gl:GL B)(fg:FG B){q:Option Addr}{c:Nat}(h:SlR B H (.slice q 2 c) [w64 1,w64 2]):
 ∀ w,Holds B H w→Calls Tryz.prog 13 [.agg #[i64 3,.slice q 2 c]].toArray w (aZ B H (str [97,108,108,111,99,32,49,32,50])):=fun w hw=>by
 rw[←Cr]
 exact ux B H gl fg 3 q c [1,2] (by decide) (by decide) h (fun i hi=>tc h hw i hi) w hw
theorem vJ(B:World)(Fr:List HP)[cM Fr B](gl:GL B)(fg:FG B):
 ∀ w,Holds B Fr w→Calls Tryz.prog 11 [].toArray w (aZ B Fr (.bool true)):=by
 refine an func11 aa ntmps11 aa (ac (ab (kPa aa aa (ad (ac (ac (ab (aw aa (au call24 aa) (vK _ _) .free aa aa ?_))))))))
 refine kPv (bz aa) aa (ad (bH aa (rfl) (ar (ac (ab (aH aa (au call14 aa) (lO B Fr gl fg awS) .free aa aa ?_))))))
 rintro _ _ ⟨sv,hsv,rfl,rfl⟩
 rw[AV]
 refine kPm aa aa (kPv (aA aa aa) aa (kPv (aA aa aa) aa (kPv (aA aa aa) aa (kPa aa aa (kPa aa aa (kPa aa aa (ad (am [3,2,1,0] rfl (ac (lX fun rs hrs=> ?_))))))))))
 obtain⟨qa,ca,hrs1⟩:=AG hrs
 subst hrs1
 refine iZ fun q4 cap4 hq4 hqi4=> ?_
 subst hq4
 obtain⟨b4,o4,rfl⟩:=hqi4 0 (Nat.zero_lt_succ _)
 refine ab (kPm aa aa (kPv (ao aa aa aa) aa (kPm aa aa (al aa (ak aa) (.on aa aa (ae aa)) aa aa (al aa (ao aa aa aa) (.on aa aa (ae aa)) aa aa (kPv (ay aa aa aa) aa (kPm aa aa (al aa (ak aa) (.on aa aa (ae aa)) aa aa (al aa (bD aa runUnderlying24 ⟨_,rfl⟩ rfl) (.on aa aa (ae aa)) aa aa (al aa (ao aa aa aa) (.on aa aa (ae aa)) aa aa (kPv (ay aa aa aa) aa ?_)))))))))))
 refine kPm aa aa (al aa (ak aa) (.on aa aa (ae aa)) aa aa (al aa (jT (sz:=2) (m:=o4+0*2) runUnderlying24 sizeOf32 aa aa (by decide) (by simp) aa) (.on aa aa (ae aa)) aa aa (al aa (aD (m:=_) kS aa aa) (.on aa aa (ae aa)) aa aa (al aa (kU (i:=0) (j:=0) (c:=crE (3,(qa,2,ca),[1,2])) (v:=i64 3) isAgg29 (iS ky 0 aa) aa aa aa) (.on aa aa (ae aa)) aa aa (al aa (ao aa aa aa) (.on aa aa (ae aa)) aa aa (kPv (ay aa aa aa) aa (kPm aa aa (al aa (ak aa) (.on aa aa (ae aa)) aa aa (al aa (jT (sz:=2) (m:=o4+0*2) runUnderlying24 sizeOf32 aa aa (by decide) (by simp) aa) (.on aa aa (ae aa)) aa aa (al aa (aD (m:=_) iG aa aa) (.on aa aa (ae aa)) aa aa (al aa (kU (i:=0) (j:=1) (c:=crE (3,(qa,2,ca),[1,2])) (v:= .slice qa 2 ca) isAgg30 (iS ky 0 aa) aa aa aa) (.on aa aa (ae aa)) aa aa ?_)))))))))))
 refine cJ aa (AL runUnderlying30 sizeOf25 zeroValue25 aa aa aa aa aa) (.on aa aa (ae aa)) aa aa ?_
 rintro _ _ ⟨b34,rfl,rfl⟩
 refine aw aa (au call25 aa) (DG (j3 2 aa (t:=(3,(qa,2,ca),[1,2])) (List.mem_cons_self ..) aa) (SlR.row (b:=b34) (n:=2) (cap:=2) (off:=0) (cs:=[w64 1,w64 2]) aa aa)) (.on aa aa (ae aa)) aa aa ?_
 refine kPv (ay aa aa aa) aa (kPm aa aa (al aa (ak aa) (.on aa aa (ae aa)) aa aa (al aa (jT (sz:=2) (m:=o4+0*2) runUnderlying24 sizeOf32 aa aa (by decide) (by simp) aa) (.on aa aa (ae aa)) aa aa (al aa (gK (i:=0) (c:=crE (3,(qa,2,ca),[1,2])) isAgg32 sizeOf32 (iS ky 1 aa) aa aa) (.on aa aa (ae aa)) aa aa (aw aa (au call13 aa) (DQ gl fg (j3 2 aa (t:=(3,(qa,2,ca),[1,2])) (List.mem_cons_self ..) aa)) (.on aa aa (ae aa)) aa aa ?_)))))
 refine al aa (r5 aa aa aa) (.on aa aa (ae aa)) aa aa (kPv (ay aa aa aa) aa (kPa aa aa (ad (am [0] rfl (az ?_)))))
 exact aq results11 aa (fun w hw=>⟨by rfl,(hw.dp [0,0,0])⟩)
theorem mz{P:Program}{n:String}{d:DataW Unit}{r:List (String×DataW Unit)}{W:World}{g:Nat}{t:TypeId}(h:laidMet P ((n,d)::r) W)(hg:P.globalNamed n=some g)(ht:(P.globals[g]?).map (·.type)=some t):
 ∃ cs fuel p,W.var? P n=some cs∧DataW.trod (fun _=>()) P W 0 (fun _=>true) false fuel t cs.toList=some (d,p):=by
 obtain⟨ps,⟨g',t',cs,fuel,p,q,hg',ht',hv,hd,_⟩,_⟩:=h
 obtain rfl:=Option.some.inj (hg.symm.trans hg')
 obtain rfl:=Option.some.inj (ht.symm.trans ht')
 exact⟨cs,fuel,p,hv,hd⟩
theorem CY(s:ByteArray):str s.data.toList= .string s:=by
 show Value.string ⟨s.data.toList.toArray⟩=_
 rw[Array.toArray_toList]
theorem pc{H:Type}{enc:TypeId×Value→H}{P:Program}{W:World}{base fuel:Nat}{sp:Nat→Bool}{held:Bool}{TE:TypeId}{cs:List Value}{f0 f1:Field}{l:List UInt8}{n:Int}{p:List MemPlace}
 (ht:P.underlying TE=some (.struct #[f0,f1])) (o0:f0.offset=0) (o1:f1.offset=1) (c0:P.cellsOf f0.type=1) (c1:P.cellsOf f1.type=1) (cT:P.cellsOf TE=2) (h0:P.underlying f0.type=some .string) (h1:P.underlying f1.type=some (.int .i64))
 (h:DataW.trod enc P W base sp held fuel TE cs=some (.agg [.lit (.string l),.lit (.int .i64 n)],p)):cs=[str l,.int .i64 n]:=by
 obtain⟨y0,y1,m,e,hl,g0,g1⟩:=Go.ChangeShapes.trod_struct2 ht h
 rw[o0,c0] at g0
 rw[o1,c1] at g1
 rw[cT] at hl
 match cs,hl with
 | [u,v],_=>
   obtain⟨s,es,ey,_⟩:=DataW.trod_string h0 g0
   obtain⟨k,ek,ez,_⟩:=DataW.trod_int h1 g1
   have es:[u]=[Value.string s]:=es
   have ek:[v]=[Value.int .i64 k]:=ek
   cases es;cases ek
   rw[ey,ez] at e
   simp only[Prod.mk.injEq,DataW.agg.injEq,List.cons.injEq,DataW.lit.injEq,Lit.string.injEq,Lit.int.injEq,true_and,and_true] at e
   obtain⟨⟨rfl,rfl⟩,_⟩:=e
   rw[CY]
theorem rr{H:Type}{enc:TypeId×Value→H}{C:Checked}{os:Os}{f:FuncId}{fn:Func}{s:ChangeSpec}{conds:List PathCond}{apart fresh handsOn again:Bool}{laid:List (String×DataW Unit)}
 (own:ownKnob C.prog.godebug=none) (started:os.Started) (noInit:C.prog.inits.idxOf? f=none) (hfn:C.prog.funcs[f]? =some fn)
 (witness:∃ (w:World) (tape:Tape) (i:Input),w.os=os∧(w.forCall tape i).Shaped C.prog∧i.vars=[]∧Input.okWide C.prog (w.forCall tape i) .any w.heap.size f i∧
  ((s.pre enc C.prog fn conds apart (w.forCall tape i).memory i.args∧laidMetH C.prog laid (w.forCall tape i).memory)∧sizedMet enc C.prog fn (OpenSpec.ofChange s) apart (w.forCall tape i).memory i.args)∧({}:Assume).holds C.prog (lone (Frame.enter C.prog f i.args .normal) [] (w.forCall tape i)))
 (contract:∀ (W:World) (base:Nat) (args:Array Value) (ds gs:List (DataW H)) (before:List MemPlace),(∀ (j:Nat) t v,fn.params[j]? =some t→args[j]? =some v→Value.okWide C.prog W .any base t v)→
  DataW.Whole enc C.prog fn.params.toList s.vars apart W args.toList ds gs before→conds.all (PathCond.test C.prog ⟨fn.params.toList,ds,s.plain.varTypes C.prog,gs⟩)=true→laidMetH C.prog laid W→W.ShapedOpen C.prog→
  Calls C.prog f args W fun e W'=>∃ v,e= .returned v∧s.post enc C.prog fn apart fresh handsOn again W args v W'):
 ReturnsInHanded {} C os f .any (fun w args=>(s.pre enc C.prog fn conds apart w args∧laidMetH C.prog laid w)∧sizedMet enc C.prog fn (OpenSpec.ofChange s) apart w args) (s.post enc C.prog fn apart fresh handsOn again):=by
 refine returnsInHanded_of_calls own started noInit witness ?_
 intro w tape i _ hsh _ hok hpre _
 obtain⟨_,_,_,fn',hfn',_,_,_,_,hval⟩:=hok
 obtain rfl:fn'=fn:=Option.some.inj (hfn'.symm.trans hfn)
 obtain⟨⟨⟨ds,gs,before,hw,hc⟩,hx⟩,hz⟩:=hpre
 refine(contract (w.forCall tape i) w.heap.size i.args ds gs before hval (DataW.Whole.of_heap (w':=w.forCall tape i) (by rfl) hw) hc (laidMetH.of_heap (by rfl) hx) hsh).mono fun e W' ⟨v,he,hp⟩=> ?_
 subst he
 exact ChangeSpec.post_blind hp
def qN{H:Type}(k:Nat):DataW H:= .agg [.lit (.string (fw k)),.lit (.int .i64 (fm k))]
set_option maxRecDepth 100000 in
theorem Ef{W:World}{r:List (String×DataW Unit)}(h:laidMet Tryz.prog (("tumulus/script.forms",Rows.laid_tumulus_script_forms)::r) W):FG W:=by
 obtain⟨cs,fuel,p,hv,hd⟩:=mz (g:=1) (t:=62) h (by kernel_rfl) (by kernel_rfl)
 obtain⟨xs,m,_,ex,_,hxl,hel⟩:=DataW.trod_array underlying62 hd
 have em:xs.map (·.1)=(List.range 18).map qN:=(DataW.agg.inj (Prod.mk.inj ex).1).symm.trans (by kernel_rfl)
 have c2:Tryz.prog.cellsOf 61=2:=by kernel_rfl
 have each:∀ i,i<18→(cs.toList.drop (i*2)).take 2=[str (fw i),i64 (fm i)]:=fun i hi=>by
  have h1:=hel i hi
  rw[c2,List.getElem?_eq_getElem (by omega)] at h1
  have h2:(xs[i]'(by omega)).1=qN i:=by
   have:=congrArg (fun l=>l[i]?) em
   simp only[List.getElem?_map,List.getElem?_eq_getElem (show i<xs.length by omega),List.getElem?_range hi,Option.map_some,Option.some.injEq] at this
   exact this
  rw[show xs[i]'(by omega)=(qN i,(xs[i]'(by omega)).2) from Prod.ext h2 rfl] at h1
  exact pc underlying61 aa aa (by kernel_rfl) (by kernel_rfl) (by kernel_rfl) underlying9 underlying3 h1
 refine⟨fun i hi=>⟨_,_,rfl,rfl,fun j hj=> ?_⟩⟩
 have h1:=each (j / 2) (by omega)
 have h2:=mE (j / 2) (by omega)
 have h3:=congrArg (fun l=>l[j%2]?) (h1.trans h2.symm)
 simp only[List.getElem?_take,List.getElem?_drop,if_pos (show j%2<2 by omega),show j / 2*2+j%2=j by omega] at h3
 rw[←h3,show 0+(i*36+j)=j by omega]
 exact(World.var?_cell (by kernel_rfl) hv j).trans (by simp)
set_option maxRecDepth 100000 in
theorem D6{W:World}{r:List (String×DataW Unit)}(h:laidMet Tryz.prog (("tumulus/tumuluslaw18.forms",Rows.laid_tumulus_tumuluslaw18_forms)::r) W):LF W:=by
 obtain⟨cs,fuel,p,hv,hd⟩:=mz (g:=0) (t:=56) h (by kernel_rfl) (by kernel_rfl)
 have e0:(Rows.laid_tumulus_tumuluslaw18_forms:DataW Unit)= .slice ((List.range 18).map qN) []:=by kernel_rfl
 rw[e0] at hd
 rcases Go.Deep.open_slice underlying56 hd with ⟨_,hx⟩ | ⟨y,len,cap,m,n,D,Pl,hcs,_,hl,hm,hmm,hx,hel⟩
 ·cases hx
 ·have hx1:(List.range 18).map qN=(List.range len).map D:=by injection hx with hx _;injection hx with hx _
  have hlen:len=18:=by have:=congrArg List.length hx1;simpa using this.symm
  subst hlen
  have hD:∀ i,i<18→D i=qN i:=fun i hi=>by
   have:=congrArg (fun l=>l[i]?) hx1
   simp only[List.getElem?_map,List.getElem?_range hi,Option.map_some,Option.some.injEq] at this
   exact this.symm
  have hm18:18≤m:=by rw[hmm];split<;>omega
  have c2:Tryz.prog.cellsOf 55=2:=by kernel_rfl
  have each:∀ i,i<18→W.cell? (y.add (i*2))=some (str (fw i))∧W.cell? ((y.add (i*2)).add 1)=some (i64 (fm i)):=fun i hi=>by
   obtain⟨cs',h1,h2⟩:=hel i (by omega)
   rw[c2] at h1
   rw[hD i hi] at h2
   have h3:=pc underlying55 rfl rfl (by kernel_rfl) (by kernel_rfl) (by kernel_rfl) underlying9 underlying3 h2
   subst h3
   have hs:=World.cells?_some h1
   exact⟨hs.2.2 0 (by decide),hs.2.2 1 (by decide)⟩
  obtain⟨b,o,s⟩:=y
  have hs:s=none:=by
   have h1:=(each 0 (by decide)).1
   have e0:(⟨b,o,s⟩:Addr).add (0*2)=⟨b,o,s⟩:=rfl
   rw[e0] at h1
   unfold World.cell? at h1
   split at h1
   ·cases s with
    | none=>rfl
    | some q=>simp at h1
   ·cases h1
  subst hs
  refine⟨b,o,cap,?_,⟨fun i hi=>⟨b,o,rfl,rfl,fun j hj=> ?_⟩⟩⟩
  ·have:=World.var?_cell (g:=0) (by kernel_rfl) hv 0
   rw[this, ←Array.getElem?_toList,hcs];rfl
  ·obtain⟨h1,h2⟩:=each i hi
   match j,hj with
   | 0,_=>exact(congrArg W.cell? (eN b o (i*2))).symm.trans h1
   | 1,_=>exact((congrArg (fun a:Addr=>W.cell? (a.add 1)) (eN b o (i*2))).trans (congrArg W.cell? (eN b (o+i*2) 1))).symm.trans h2
set_option maxRecDepth 100000 in
theorem D7{W:World}{r:List (String×DataW Unit)}(hs:W.ShapedOpen Tryz.prog)(h:laidMet Tryz.prog (("math/bits.deBruijn32tab",Rows.laid_math_bits_deBruijn32tab)::("math/bits.deBruijn64tab",Rows.laid_math_bits_deBruijn64tab)::("internal/strconv.uint64pow10",Rows.laid_internal_strconv_uint64pow10)::("unicode/utf8.acceptRanges",Rows.laid_unicode_utf8_acceptRanges)::("strconv.ErrRange",Rows.laid_strconv_ErrRange)::("strconv.ErrSyntax",Rows.laid_strconv_ErrSyntax)::r) W):GL W:=by
 have h2:=h.tail.tail
 have h4:=h2.tail.tail
 have cell:∀ {nm:String} {d d2:DataW Unit} {r:List (String×DataW Unit)} {g ti:Nat},laidMet Tryz.prog ((nm,.iface "*errors.errorString" d)::r) W→Tryz.prog.globalNamed nm=some g→(Tryz.prog.globals[g]?).map (·.type)=some ti→ti=76→∃ te pe,W.cell? ⟨g,0,none⟩=some (.iface te pe):=by
  intro nm d d2 r g ti h hg ht e
  subst e
  obtain⟨cs,fuel,p,hv,hd⟩:=mz h hg ht
  obtain⟨_,u,v,e,_⟩:=iface_of_trod underlying76 hd
  refine⟨u,v,?_⟩
  rw[World.var?_cell hg hv 0, ←Array.getElem?_toList,e];rfl
 refine⟨Lib.tabIs_of_head (g:=2) (by kernel_rfl) (by kernel_rfl) underlying181 underlying25 (by kernel_rfl) (by kernel_rfl) (show laidMet Tryz.prog (("internal/strconv.uint64pow10",Lib.tabData .u64 Lib.pow10Tab)::_) W from h2),?_,cell (g:=6) (d2:= .nil) h4.tail (by kernel_rfl) (by kernel_rfl) aa,cell (g:=7) (d2:= .nil) h4 (by kernel_rfl) (by kernel_rfl) aa⟩
 exact cell_of_shapedOpen_int (g:=3) (zero:= #[.int .i64 0]) hs (by decide+kernel) (by kernel_rfl) (by kernel_rfl) (by kernel_rfl) (by kernel_rfl) underlying3
structure p7(c:Cmd):Prop where
 k:0≤c.1∧c.1<18
 n:c.2.length=fm c.1.toNat
 b:∀ n∈c.2,0≤n∧n<18446744073709551616
theorem p7.len{c:Cmd}(h:p7 c):c.2.length≤3:=by
 rw[h.n];exact wX _ (by have:=h.k;omega)
theorem AI{B:World}{H:List HP}{q:Option Addr}{cap:Nat}{rs:List CR}{l:List Cmd}(hr:nk rs l)(hl:∀ c∈l,c.2.length≤1000000)(i j:Nat)(e:H[i]? =some (eO 32 2 crE 0 (.slice q rs.length cap,rs)))(e2:H[j]? =some (grp (rs.map jk))):CmR B H q cap rs:=by
 refine⟨iS ky i e,fun t ht=>⟨j3 j e2 ht (hr.2 t ht),hr.2 t ht,hl (crC t) ?_⟩⟩
 rw[←hr.1];exact List.mem_map_of_mem ht
theorem zM{B:World}{Fr:List HP}{sv:Value}{rs:List CR}{w:World}(h:Holds B (eO 32 2 crE 0 (sv,rs)::Fr) w):∃ q cap,sv= .slice q rs.length cap:=by
 rcases dI h with ⟨e1,e2,_⟩ | ⟨bd,pre,rest,k,_,e,_⟩
 ·exact⟨none,0,by rw[e2,e1];rfl⟩
 ·exact⟨_,_,e⟩
structure Ln where
 k:Nat
 n:List Int
 g:Nat
structure LnW(x:Ln):Prop where
 k:x.k≤255
 n:x.n.length=3
 b:∀ n∈x.n,0≤n∧n<18446744073709551616
 g:x.g≤255
def ni(g:Nat):List UInt8:=[[],[32],[9,32]].getD (g%3) []
def kW(g:Nat):List UInt8:=[[32],[32,32],[9]].getD (g / 3%3) []
def nh(g:Nat):List UInt8:=[[],[32],[32,35,32,97,32,114,101,109,97,114,107],[35]].getD (g / 9%4) []
def Ln.c(x:Ln):Cmd:=((x.k%18:Nat),x.n.take (fm (x.k%18)))
def Ln.m(x:Ln):List UInt8:=x.c.2.foldl (fun l n=>l++(kW x.g++Lib.decDigits n.toNat)) (ni x.g++fw (x.k%18))
def Ln.t(x:Ln):List UInt8:=x.m++nh x.g
theorem Ln.line(x:Ln):dj x.c=x.c.2.foldl (fun l n=>l++([32]++Lib.decDigits n.toNat)) (fw (x.k%18)):=by
 unfold dj
 rw[if_neg (by show ¬ (((x.k%18:Nat):Int)<0∨18≤((x.k%18:Nat):Int));omega)]
 rfl
theorem tz(g:Nat):[str [],str [32],str [9,32]][g%3]? =some (str (ni g))∧(ni g).length≤2:=by
 unfold ni
 rcases (show g%3=0∨g%3=1∨g%3=2 by omega) with h | h | h<;>rw[h]<;>exact⟨rfl,by decide⟩
theorem tg(g:Nat):[str [32],str [32,32],str [9]][g / 3%3]? =some (str (kW g))∧(kW g).length≤2:=by
 unfold kW
 rcases (show g / 3%3=0∨g / 3%3=1∨g / 3%3=2 by omega) with h | h | h<;>rw[h]<;>exact⟨rfl,by decide⟩
theorem sP(g:Nat):[str [],str [32],str [32,35,32,97,32,114,101,109,97,114,107],str [35]][g / 9%4]? =some (str (nh g))∧(nh g).length≤11:=by
 unfold nh
 rcases (show g / 9%4=0∨g / 9%4=1∨g / 9%4=2∨g / 9%4=3 by omega) with h | h | h | h<;>rw[h]<;>exact⟨rfl,by decide⟩
theorem Di{a b c:Int}:∀ i,i<3→[w64 a,w64 b,w64 c][i]? =some (w64 ([a,b,c].getD i 0))∧[a,b,c].getD i 0∈[a,b,c]
 | 0,_=>⟨rfl,by simp⟩
 | 1,_=>⟨rfl,by simp⟩
 | 2,_=>⟨rfl,by simp⟩
theorem yC{u v:Value}{a b c:Int}:∀ i,i<3→[u,w64 a,w64 b,w64 c,v][1+i]? =some (w64 ([a,b,c].getD i 0))
 | 0,_=>rfl
 | 1,_=>rfl
 | 2,_=>rfl
theorem CK{a b c:Int}{i m:Nat}(h:i<m)(hm:m≤3):∃ hl:i<([a,b,c].take m).length,([a,b,c].take m)[i]=[a,b,c].getD i 0:=by
 refine⟨by simp;omega,?_⟩
 rw[List.getElem_take,List.getD_eq_getElem?_getD,List.getElem?_eq_getElem (by simp;omega)];rfl
theorem wy{α:Type}{f:α→Int→α}{x:α}{a b c:Int}{i m:Nat}(h:i<m)(hm:m≤3):(([a,b,c].take m).take (i+1)).foldl f x=f ((([a,b,c].take m).take i).foldl f x) ([a,b,c].getD i 0):=by
 obtain⟨hl,e⟩:=CK (a:=a) (b:=b) (c:=c) h hm
 rw[qe hl,e]
theorem D4{a b c:Int}{i m:Nat}(h:i<m)(hm:m≤3):([a,b,c].take m).take (i+1)=([a,b,c].take m).take i++[[a,b,c].getD i 0]:=by
 obtain⟨hl,e⟩:=CK (a:=a) (b:=b) (c:=c) h hm
 rw[List.take_succ_eq_append_getElem hl,e]
theorem yD(B:World)(Fr:List HP)[cM Fr B](gl:GL B)(lf:LF B)(k0 g:Nat)(hk0:k0≤255)(hg:g≤255)(n0 n1 n2:Int)(hnb:∀ n∈[n0,n1,n2],0≤n∧n<18446744073709551616):
 ∀ w,Holds B Fr w→Calls Tryz.prog 12 [.agg #[.int .u8 k0,w64 n0,w64 n1,w64 n2,.int .u8 g]].toArray w (Ret B (fun v H'=>∃ t:CR,t.2.1.2.1=t.2.2.length∧crC t=(Ln.mk k0 [n0,n1,n2] g).c∧v= .tuple #[crV t,str (dj (Ln.mk k0 [n0,n1,n2] g).c),str (Ln.mk k0 [n0,n1,n2] g).t]∧H'=jk t::Fr) (fun _ _=>False)):=by
 refine an func12 aa ntmps12 aa ?_
 obtain⟨k,hk⟩:∃ k,k=k0%18:=⟨_,rfl⟩
 have hk18:k<18:=by omega
 have hfk:=rT k hk18
 have hfm:=wX k hk18
 obtain⟨hp1,hp2⟩:=tz g
 obtain⟨hs1,hs2⟩:=tg g
 obtain⟨ht1,ht2⟩:=sP g
 obtain⟨bf,of_,capf,hlf1,hlf2⟩:=lf
 refine ac (ab (kPb (aX aa) aa fun b1=>(kPb (aC zeroValue32 aa) aa fun b2=>(kPa aa aa (kPa aa aa (ad (ac (ab (kPl B5 isAgg5 aa aa aa aa (kPv (bR runUnderlying5 runUnderlying3 aa) aa (kPv (mc isAgg56 aa hlf1) aa ?_)))))))))))
 refine kPv (bD aa runUnderlying56 ⟨_,rfl⟩ rfl) aa (kPv (fA (c:=((k:Nat):Int)) aa aa (by decide) ((jQ 18 (by omega)).trans (by omega))) aa (kPa aa aa (ad (am [5,4,3,2,1] rfl (ac (ab (kPm aa aa (kPv (aQ aa (uI _ aa)) aa (kPb (aC zeroValue32 aa) aa fun b6=> ?_)))))))))
 refine kPs (ax (vs:=_) sizeOf32 aa aa aa (by first | rfl | exact eh (by assumption)) rfl) rfl ?_;refine ad ?_
 refine ac (ab (kPv (mc isAgg56 aa hlf1) aa (kPm aa aa (kPv (jT (sz:=2) runUnderlying56 sizeOf55 aa aa (by omega) (by omega) aa) aa (kPv (aD (m:=_) B3 aa aa) aa (kPv (kU (i:=k) (j:=0) (c:=[str (fw k),i64 (fm k)]) (v:=str (fw k)) isAgg9 (SlN.arg (cap:=capf) hlf2) aa (by simp[hk18]) aa) aa (kPa aa aa (ad (am [7,6,5,4,3,2,1] rfl (ac (ab ?_)))))))))))
 refine kPb (sr runUnderlying50 sizeOf9 zeroValue9 aa aa aa aa aa aa aa) aa fun b24=>(kPl rZ isAgg5 aa aa aa aa (kPv (fA (c:=((g%3:Nat):Int)) aa aa (by decide) ((jQ 3 (by omega)).trans (by omega))) aa (kPv (cg runUnderlying50 sizeOf9 aa aa (by omega) (by omega)) aa (kPv (bP (v:=str (ni g)) isAgg9 (SlR.row (b:=b24) (n:=3) (cap:=3) (off:=0) (cs:=[str [],str [32],str [9,32]]) aa aa) aa (by rw[Int.toNat_natCast];exact hp1)) aa (kPm aa aa ?_)))))
 refine al aa (dF aa aa (by first | omega | (simp only[List.length_append,List.length_cons,List.length_nil];omega))) .free aa aa ?_
 refine kPa aa aa (ad (am [8,7,6,5,4,3,2,1] rfl (ac (ac (aM (fun w hh=>eQ (T:=25) (enc:=w64) hh) (ab (kPv (aD (m:=_) B4 aa aa) aa (kPv (mc isAgg56 aa hlf1) aa (kPm aa aa (kPv (jT (sz:=2) runUnderlying56 sizeOf55 aa aa (by omega) (by omega) aa) aa (kPv (aD (m:=_) B2 aa aa) aa ?_)))))))))))
 refine kPv (kU (i:=k) (j:=1) (c:=[str (fw k),i64 (fm k)]) (v:=i64 (fm k)) isAgg3 (SlN.arg (cap:=capf) hlf2) aa (by simp[hk18]) aa) aa (kPv (kT runUnderlying26 sizeOf25 aa .no (.yesi aa aa) (Nat.zero_le _) hfm (.inr aa) aa) aa (kPv (bD aa runUnderlying30 ⟨_,rfl⟩ rfl) aa (kPm aa aa (ad (am [40,39,38,8,7,6,4,3,2,1] rfl (aG (cK (ι:=Nat×List UInt8×List UInt8×List Int×Value) [39,38,6,4,3,2,1] (fun (i,pl,tx,ns,nv)=>(i≤fm k)∧(pl=((([n0,n1,n2].take (fm k)).take i).foldl (fun l n=>l++([32]++Lib.decDigits n.toNat)) (fw k)))∧(tx=((([n0,n1,n2].take (fm k)).take i).foldl (fun l n=>l++(kW g++Lib.decDigits n.toNat)) (ni g++fw k)))∧(ns=([n0,n1,n2].take (fm k)).take i)∧(aL nv=true)∧(ns.length=i)∧(pl.length≤7+21*i)∧(tx.length≤9+22*i)) (fun (i,pl,tx,ns,nv)=>[(40,i64 i),(7,str pl),(8,str tx)]) (fun (i,pl,tx,ns,nv)=>cS 0 (nv,ns)::row b6 [i64 k,nv] 32::row b24 [str [],str [32],str [9,32]] 9::row b1 [.int .u8 k0,w64 n0,w64 n1,w64 n2,.int .u8 g] 28::row b2 [i64 0,.slice none 0 0] 32::Fr) (fun (i,pl,tx,ns,nv)=>fm k - i) (0,fw k,ni g++fw k,[],.slice none 0 0) (⟨Nat.zero_le _,rfl,rfl,rfl,rfl,rfl,by omega,by simp only[List.length_append];omega⟩) (fun a w st=>st.to (aE aa) (fun hh=>(hh.pk [0,1,0,1]))) ?_)))))))
 rintro⟨i,pl,tx,ns,nv⟩ ⟨hi0,hpl,htx,hns,hnv,hnl,hpll,htxl⟩
 try simp only at hi0 hpl htx hns hnv hnl hpll htxl ⊢
 refine cu (σ':=[(40,i64 i),(7,str pl),(8,str tx),(39,_),(38,_),(6,_),(4,_),(3,_),(2,_),(1,_)]) (aE aa) (ac (ab (kPv (ao aa aa aa) aa (ad (ac ?_)))))
 refine a8 aa (fun h41=> ?_) (fun h41=> ?_)
 ·have hi:i<fm k:=by simp at h41;omega
  obtain⟨hn1,hni⟩:=Di (a:=n0) (b:=n1) (c:=n2) i (by omega)
  have hdl:=kw ([n0,n1,n2].getD i 0).toNat (by have:=hnb _ hni;omega)
  refine ar (ac (aG (ac (ab ?_))))
  refine al aa ((cg runUnderlying30 sizeOf25 aa aa (by omega) (by omega)).eq (show _=Value.pointer (some ⟨b1,1+i,none⟩) by first | rfl | (simp;done))) .free aa aa ?_
  refine kPv (ah (k:=1+i) (v:=w64 ([n0,n1,n2].getD i 0)) isAgg25 aa (yC i (by omega))) aa (kPa aa aa (ad (ac (ab (kPl iG isAgg30 aa aa aa aa (kPm aa aa (kPb (f9 runUnderlying30 sizeOf25 zeroValue25 aa aa aa) aa fun b47=>(aP [1,0] (cJ aa (eu aa aa runUnderlying30 runUnderlying30 ⟨_,rfl⟩ sizeOf25 zeroValue25 aa (fun _=>rfl) hO aa aa (by omega)) .free aa aa ?_)))))))))
  rintro nv9 _ ⟨hnv9,rfl⟩
  refine kPv (aD (m:=_) iG aa aa) aa ?_
  refine kPs (aO sizeOf30 aa aa (by first | rfl | assumption) rfl) rfl ?_;refine ad ?_;refine am [10,40,7,8,39,38,6,4,3,2,1] rfl ?_;refine ac ?_;refine ab ?_;refine kPm aa aa ?_;refine kPm aa aa ?_;refine aw aa (au call21 aa) (kP B _ gl (hnb _ hni)) .free aa aa ?_
  refine al aa (dF aa aa (by first | omega | (simp only[List.length_append,List.length_cons,List.length_nil];omega))) .free aa aa ?_
  refine al aa (dF aa aa (by first | omega | (simp only[List.length_append,List.length_cons,List.length_nil];omega))) .free aa aa ?_
  refine kPa aa aa (ad ?_)
  refine iE (.br [0,2,3,4,5,8] 1 (.fin [6,7,9,10,11,12]) 9 (.br1 [] 1 (.fin [6,7,10,11,12]))) [1,9] [0,2,3,4,5,6,7,8] [1,9] [row b1 [.int .u8 k0,w64 n0,w64 n1,w64 n2,.int .u8 g] 28] [7,40,39,38,6,4,3,2,1] (G:=Nat) (fun b56=>[(8,str (tx++(kW g++Lib.decDigits ([n0,n1,n2].getD i 0).toNat)))]) (fun b56=>cS 0 (nv9,ns++[([n0,n1,n2].getD i 0)])::row b6 [i64 k,nv9] 32::row b24 [str [],str [32],str [9,32]] 9::row b1 [.int .u8 k0,w64 n0,w64 n1,w64 n2,.int .u8 g] 28::row b2 [i64 0,.slice none 0 0] 32::Fr) Tryz.mixed (by kernel_rfl) ?_ ?_
  ·skip
   refine sS (aj aa aa aa (ak aa) .free aa (aj aa aa aa (aD (m:=_) rZ aa aa) .free aa (aj aa aa aa (ah isAgg5 aa aa) .free aa (aj aa aa aa (ku (c:=((g / 3:Nat):Int)) aa aa (by decide) (by rw[Int.tdiv_eq_ediv_of_nonneg (by omega)];exact(xl (by omega)).trans (by omega))) .free aa (aj aa aa aa (fA (c:=((g / 3%3:Nat):Int)) aa aa (by decide) ((jQ 3 (by omega)).trans (by omega))) .free aa (aj aa aa aa (ak aa) .free aa (cy ?_)))))))
   refine mT aa aa ?_ ?_
   ·skip
    refine kPb (sr runUnderlying50 sizeOf9 zeroValue9 aa aa aa aa aa aa aa) aa fun b56=>(ad (rk (row b56 [str [32],str [32,32],str [9]] 9) (gR (aj aa aa aa (cg runUnderlying50 sizeOf9 aa aa (by omega) (by omega)) .free aa (aj aa aa aa (bP (v:=str (kW g)) isAgg9 (SlR.row (b:=b56) (n:=3) (cap:=3) (off:=0) (cs:=[str [32],str [32,32],str [9]]) aa aa) aa (by rw[Int.toNat_natCast];exact hs1)) .free aa (aT aa aa (aw aa (au call21 aa) (kP B _ gl (hnb _ hni)) .free aa aa ?_)))))))
    refine ad (cN ?_)
    refine aS aa aa aa (dF aa aa (by first | omega | (simp only[List.length_append,List.length_cons,List.length_nil];omega))) .free aa ?_
    refine aS aa aa aa (dF aa aa (by first | omega | (simp only[List.length_append,List.length_cons,List.length_nil];omega))) .free aa ?_
    refine aS aa aa aa (bu aa) .free aa (cy ?_)
    exact fun a w st_=>⟨b56,st_.to (aE aa) (fun hh=>(hh.dp [0]))⟩
   ·skip
    refine aw aa (au call21 aa) (kP B _ gl (hnb _ hni)) .free aa aa ?_
    refine ad (rj (CA (cy (Cz aa ?_))))
    ·skip
     refine kPb (sr runUnderlying50 sizeOf9 zeroValue9 aa aa aa aa aa aa aa) aa fun b56=>(ad (rk (row b56 [str [32],str [32,32],str [9]] 9) (gR (aj aa aa aa (cg runUnderlying50 sizeOf9 aa aa (by omega) (by omega)) .free aa (aj aa aa aa (bP (v:=str (kW g)) isAgg9 (SlR.row (b:=b56) (n:=3) (cap:=3) (off:=0) (cs:=[str [32],str [32,32],str [9]]) aa aa) aa (by rw[Int.toNat_natCast];exact hs1)) .free aa ?_)))))
     refine aS aa aa aa (dF aa aa (by first | omega | (simp only[List.length_append,List.length_cons,List.length_nil];omega))) .free aa ?_
     refine aS aa aa aa (dF aa aa (by first | omega | (simp only[List.length_append,List.length_cons,List.length_nil];omega))) .free aa ?_
     refine aS aa aa aa (bu aa) .free aa (cy ?_)
     exact fun a w st_=>⟨b56,st_.to (aE aa) (fun hh=>(hh.dp [0]))⟩
  intro b56
  refine cu (σ':=[(8,str (tx++(kW g++Lib.decDigits ([n0,n1,n2].getD i 0).toNat))),(7,_),(40,_),(39,_),(38,_),(6,_),(4,_),(3,_),(2,_),(1,_)]) (aE aa) (ab (kPv (aN aa aa) aa (kPm aa aa (ad ?_))))
  exact fun a w st_=>⟨(i+1,pl++([32]++Lib.decDigits ([n0,n1,n2].getD i 0).toNat),tx++(kW g++Lib.decDigits ([n0,n1,n2].getD i 0).toNat),ns++[([n0,n1,n2].getD i 0)],nv9),⟨by first | omega | (simp only;omega),by rw[wy hi hfm,hpl],by rw[wy hi hfm,htx],by rw[D4 hi hfm,hns],hnv9,by simp[hnl],by simp only[List.length_append,List.length_cons,List.length_nil];omega,by simp only[List.length_append,List.length_cons,List.length_nil];omega⟩,by first | omega | (simp only;omega),st_.to (aE aa) (fun hh=>hh)⟩
 ·have hi:i=fm k:=by simp at h41;omega
  have hns2:ns=([n0,n1,n2].take (fm k)):=by rw[hns,hi,List.take_take,Nat.min_self]
  have hc:(Ln.mk k0 [n0,n1,n2] g).c=((k:Int),ns):=by rw[hns2];subst hk;rfl
  have hp:dj (Ln.mk k0 [n0,n1,n2] g).c=pl:=by rw[Ln.line,hpl,hi,List.take_take,Nat.min_self];subst hk;rfl
  have ht:(Ln.mk k0 [n0,n1,n2] g).t=tx++nh g:=by unfold Ln.t Ln.m;rw[htx,hi,List.take_take,Nat.min_self];subst hk;rfl
  refine bF (ac (t8 fun q5 c5 hq5=> ?_))
  subst hq5
  refine iE (.br [0,1,2,4,5,6,7] 3 (.fin [8,9,10,11,12,13]) 11 (.br1 [12] 3 (.fin [8,9,10,13]))) [3,11] [0,1,2,4,5,6,7,8,9,10,12] [3,11] [row b1 [.int .u8 k0,w64 n0,w64 n1,w64 n2,.int .u8 g] 28,row b6 [i64 k,.slice q5 ns.length c5] 32] [2] (G:=Nat) (fun b71=>[(3,str pl),(4,str (tx++nh g))]) (fun b71=>cS 0 (.slice q5 ns.length c5,ns)::row b2 [i64 k,.slice q5 ns.length c5] 32::Fr) Tryz.mixed (by kernel_rfl) ?_ ?_
  ·skip
   refine sS (aj aa aa aa (ag isAgg32 sizeOf32 aa aa) .free aa ?_)
   refine aj aa aa aa (ak aa) .free aa (aj aa aa aa (ak aa) .free aa (aj aa aa aa (aD (m:=_) rZ aa aa) .free aa (aj aa aa aa (ah isAgg5 aa aa) .free aa (aj aa aa aa (ku (c:=((g / 9:Nat):Int)) aa aa (by decide) (by rw[Int.tdiv_eq_ediv_of_nonneg (by omega)];exact(xl (by omega)).trans (by omega))) .free aa (aj aa aa aa (fA (c:=((g / 9%4:Nat):Int)) aa aa (by decide) ((jQ 4 (by omega)).trans (by omega))) .free aa (cy ?_))))))
   refine mT aa aa ?_ ?_
   ·skip
    refine kPb (AK runUnderlying50 sizeOf9 zeroValue9 aa aa aa aa aa aa aa aa aa) aa fun b71=>(ad (rk (row b71 [str [],str [32],str [32,35,32,97,32,114,101,109,97,114,107],str [35]] 9) (gR (aj aa aa aa (cg runUnderlying50 sizeOf9 aa aa (by omega) (by omega)) .free aa (aj aa aa aa (bP (v:=str (nh g)) isAgg9 (SlR.row (b:=b71) (n:=4) (cap:=4) (off:=0) (cs:=[str [],str [32],str [32,35,32,97,32,114,101,109,97,114,107],str [35]]) aa aa) aa (by rw[Int.toNat_natCast];exact ht1)) .free aa ?_)))))
    refine aj aa aa aa (dF aa aa (by first | omega | (simp only[List.length_append,List.length_cons,List.length_nil];omega))) .free aa ?_
    refine aT aa aa (kPs (ax (vs:=[i64 k,.slice q5 ns.length c5]) sizeOf32 aa aa aa aa aa) aa (ad (cN (aj aa aa aa (bu aa) .free aa (aS aa aa aa (bu aa) .free aa (cy ?_))))))
    exact fun a w st_=>⟨b71,st_.to (aE aa) (fun hh=>(hh.dp [0,1,1,1]))⟩
   ·skip
    refine kPs (ax (vs:=[i64 k,.slice q5 ns.length c5]) sizeOf32 aa aa aa aa aa) aa (ad (rj (CA (aj aa aa aa (bu aa) .free aa (cy (Cz aa ?_))))))
    ·skip
     refine kPb (AK runUnderlying50 sizeOf9 zeroValue9 aa aa aa aa aa aa aa aa aa) aa fun b71=>(ad (rk (row b71 [str [],str [32],str [32,35,32,97,32,114,101,109,97,114,107],str [35]] 9) (gR (aj aa aa aa (cg runUnderlying50 sizeOf9 aa aa (by omega) (by omega)) .free aa (aj aa aa aa (bP (v:=str (nh g)) isAgg9 (SlR.row (b:=b71) (n:=4) (cap:=4) (off:=0) (cs:=[str [],str [32],str [32,35,32,97,32,114,101,109,97,114,107],str [35]]) aa aa) aa (by rw[Int.toNat_natCast];exact ht1)) .free aa ?_)))))
     refine aj aa aa aa (dF aa aa (by first | omega | (simp only[List.length_append,List.length_cons,List.length_nil];omega))) .free aa ?_
     refine aS aa aa aa (bu aa) .free aa (cy ?_)
     exact fun a w st_=>⟨b71,st_.to (aE aa) (fun hh=>(hh.dp [0,1,1,1]))⟩
  intro b71
  refine cu (σ':=[(3,str pl),(4,str (tx++nh g)),(2,_)]) (aE aa) (az ?_)
  exact tv results12 (.cellA aa isAgg32 sizeOf32 aa aa) (.tmp aa) (.tmp aa) (fun w hh=>⟨_,⟨((k:Int),(q5,ns.length,c5),ns),rfl,hc.symm,by rw[hp,ht];rfl,rfl⟩,(hh.dp [1])⟩)
def Ln.row(x:Ln):List Value:= .int .u8 x.k::(x.n.map w64++[.int .u8 x.g])
theorem Ln.row_len{x:Ln}(h:LnW x):x.row.length=5:=by
 have:=h.n
 unfold Ln.row
 simp only[List.length_cons,List.length_append,List.length_map,List.length_nil]
 omega
theorem BA(B:World)(Fr:List HP)[cM Fr B](gl:GL B)(lf:LF B)(x:Ln)(hx:LnW x):
 ∀ w,Holds B Fr w→Calls Tryz.prog 12 [.agg x.row.toArray].toArray w (Ret B (fun v H'=>∃ t:CR,t.2.1.2.1=t.2.2.length∧crC t=x.c∧v= .tuple #[crV t,str (dj x.c),str x.t]∧H'=jk t::Fr) (fun _ _=>False)):=by
 obtain⟨k,n,g⟩:=x
 match n,hx.n with
 | [a,b,c],_=>exact yD B Fr gl lf k g hx.k hx.g a b c hx.b
theorem Ln.c_w{x:Ln}(hx:LnW x):p7 x.c:=by
 obtain⟨k,n,g⟩:=x
 have hn:=hx.n
 have hf:=wX (k%18) (Nat.mod_lt _ (by decide))
 refine⟨⟨by show 0≤((k%18:Nat):Int);omega,by show((k%18:Nat):Int)<18;omega⟩,?_,fun m hm=>hx.b m (List.mem_of_mem_take hm)⟩
 show(n.take (fm (k%18))).length=fm ((k%18:Nat):Int).toNat
 rw[List.length_take,Int.toNat_natCast]
 simp only at hn
 omega
set_option maxRecDepth 100000 in
theorem fM{H:Type}{enc:TypeId×Value→H}{W:World}{base:Nat}{held:Bool}{a:Option Addr}{len cap:Nat}{x:DataW H×List MemPlace}
 (h:∃ fuel,DataW.trod enc Tryz.prog W base (fun _=>true) held fuel 22 (Value.slice a len cap).cells.toList=some x):∃ f:Nat→Ln,len≤9223372036854775807∧(∀ i,i<len→LnW (f i))∧iR W a len 5 (fun i=>(f i).row):=by
 obtain⟨fuel,hf⟩:=h
 rcases Go.Deep.open_slice underlying22 hf with ⟨hcs,_⟩ | ⟨y,l,c,m,n,D,Pl,hcs,_,hl,hm,hmm,_,hx⟩
 ·simp[Value.cells] at hcs
  obtain⟨rfl,rfl,rfl⟩:=hcs
  exact⟨fun _=>⟨0,[],0⟩,by omega,fun i hi=>by omega,⟨fun i hi=>by omega⟩⟩
 ·simp[Value.cells] at hcs
  obtain⟨rfl,rfl,rfl⟩:=hcs
  unfold maxLen at hm
  simp only[if_true] at hmm
  have hc2:Tryz.prog.cellsOf 28=5:=by kernel_rfl
  have c1:Tryz.prog.cellsOf 25=1:=by kernel_rfl
  have each:∀ i,i<len→∃ x:Ln,LnW x∧∀ j,j<5→W.cell? ((y.add (i*5)).add j)=x.row[j]? :=fun i hi=>by
   obtain⟨cs,h1,h2⟩:=hx i (by omega)
   rw[hc2] at h1
   obtain⟨y0,y1,y2,n,_,hlen,g0,g1,g2⟩:=Go.Deep.trod_struct3 underlying28 h2
   rw[hc2] at hlen
   match cs,hlen with
   | [u,p,q,r,v],_=>
     obtain⟨k,ek,_,wk⟩:=DataW.trod_int underlying5 g0
     obtain⟨g,eg,_,wg⟩:=DataW.trod_int underlying5 g2
     have ek:[u]=[Value.int .u8 k]:=ek
     have eg:[v]=[Value.int .u8 g]:=eg
     cases ek;cases eg
     have bk:=bounds_u8 wk
     have bg:=bounds_u8 wg
     obtain⟨k,rfl⟩:=Int.eq_ofNat_of_zero_le bk.1
     obtain⟨g,rfl⟩:=Int.eq_ofNat_of_zero_le bg.1
     have g1:DataW.trod enc Tryz.prog W base (fun _=>true) held n 26 [p,q,r]=some y1:=g1
     obtain⟨xs,m',_,_,_,hxl,hel⟩:=DataW.trod_array underlying26 g1
     have one:∀ i,(hi:i<3)→∃ a,[p,q,r][i]? =some (w64 a)∧0≤a∧a<18446744073709551616:=fun i hi=>by
      have h1:=hel i hi
      rw[c1,List.getElem?_eq_getElem (by omega),Nat.mul_one] at h1
      obtain⟨a,e,_,wa⟩:=DataW.trod_int underlying25 h1
      have e2:(([p,q,r].drop i).take 1)[0]? =some (w64 a):=congrArg (fun l=>l[0]?) e
      have hw:=bounds_u64 wa
      exact⟨a,by simpa using e2,by omega,by omega⟩
     obtain⟨a,ea,ha⟩:=one 0 (by decide)
     obtain⟨b,eb,hb⟩:=one 1 (by decide)
     obtain⟨c,ec,hc⟩:=one 2 (by decide)
     cases ea;cases eb;cases ec
     have hs:=World.cells?_some h1
     refine⟨⟨k,[a,b,c],g⟩,⟨by simp only;omega,rfl,fun n hn=> ?_,by simp only;omega⟩,fun j hj=> ?_⟩
     ·simp only[List.mem_cons,List.not_mem_nil,or_false] at hn
      rcases hn with rfl | rfl | rfl
      ·exact ha
      ·exact hb
      ·exact hc
     ·match j,hj with
      | 0,_=>exact hs.2.2 0 (by decide)
      | 1,_=>exact hs.2.2 1 (by decide)
      | 2,_=>exact hs.2.2 2 (by decide)
      | 3,_=>exact hs.2.2 3 (by decide)
      | 4,_=>exact hs.2.2 4 (by decide)
  obtain⟨b,o,s⟩:=y
  by_cases h0:len=0
  ·exact⟨fun _=>⟨0,[],0⟩,by omega,fun i hi=>by omega,⟨fun i hi=>by omega⟩⟩
  have hs:s=none:=by
   obtain⟨p,_,h1⟩:=each 0 (by omega)
   have h1:W.cell? ⟨b,o,s⟩=some _:=h1 0 (by decide)
   unfold World.cell? at h1
   split at h1
   ·cases s with
    | none=>rfl
    | some q=>simp at h1
   ·cases h1
  subst hs
  have each:∀ i,i<len→∃ x:Ln,LnW x∧∀ j,j<5→W.cell? ⟨b,o+(i*5+j),none⟩=x.row[j]? :=fun i hi=>by
   obtain⟨x,h1,h2⟩:=each i hi
   exact⟨x,h1,fun j hj=>by rw[←h2 j hj,eN,eN,Nat.add_assoc]⟩
  refine⟨fun i=>if hi:i<len then (each i hi).choose else ⟨0,[],0⟩,by omega,fun i hi=> ?_,⟨fun i hi=>⟨b,o,rfl,?_,fun j hj=> ?_⟩⟩⟩
  ·simp only[dif_pos hi]
   exact(each i hi).choose_spec.1
  ·simp only[dif_pos hi]
   exact Ln.row_len (each i hi).choose_spec.1
  ·have h2:=(each i hi).choose_spec.2 j hj
   simp only[dif_pos hi]
   exact h2
theorem wW{α:Type}{f:List UInt8→α→List UInt8}{m:Nat}:∀ (l:List α) (a:List UInt8),(∀ a n,n∈l→(f a n).length≤a.length+m)→(l.foldl f a).length≤a.length+m*l.length
 | [],a,_=>by simp
 | n::t,a,h=>by
   have h1:=wW (m:=m) t (f a n) fun b k hk=>h b k (List.mem_cons_of_mem _ hk)
   have h2:=h a n (List.mem_cons_self ..)
   simp only[List.foldl_cons,List.length_cons,Nat.mul_succ]
   omega
theorem Ln.t_len{x:Ln}(hx:LnW x):x.t.length≤120:=by
 have hc:=Ln.c_w hx
 have h3:=hc.len
 have hp:=(tz x.g).2
 have hs:=(tg x.g).2
 have ht:=(sP x.g).2
 have hf:=rT (x.k%18) (Nat.mod_lt _ (by decide))
 have h1:=wW (m:=22) (f:=fun l n=>l++(kW x.g++Lib.decDigits n.toNat)) x.c.2 (ni x.g++fw (x.k%18)) fun a n hn=>by
  have hb:=hc.b n hn
  have hd:=kw n.toNat (by omega)
  simp only[List.length_append]
  omega
 unfold Ln.t
 simp only[List.length_append] at h1 ⊢
 unfold Ln.m
 omega
theorem Ln.lit{x:Ln}(hx:LnW x):∃ k a b c g,x=⟨k,[a,b,c],g⟩:=by
 obtain⟨k,n,g⟩:=x
 match n,hx.n with
 | [a,b,c],_=>exact⟨k,a,b,c,g,rfl⟩
theorem zy(B:World)(Fr:List HP)[cM Fr B](gl:GL B)(lf:LF B)(x:Ln)(hx:LnW x){k g:Nat}{a b c:Int}(e:x=⟨k,[a,b,c],g⟩):
 ∀ w,Holds B Fr w→Calls Tryz.prog 12 [.agg #[.int .u8 k,w64 a,w64 b,w64 c,.int .u8 g]].toArray w (Ret B (fun v H'=>∃ t:CR,t.2.1.2.1=t.2.2.length∧crC t=x.c∧v= .tuple #[crV t,str (dj x.c),str x.t]∧H'=jk t::Fr) (fun _ _=>False)):=by
 subst e
 exact BA B Fr gl lf _ hx
theorem Bn{n:Nat}{f:Nat→Ln}{i k g:Nat}{a b c:Int}(hi:i<n)(e:f i=⟨k,[a,b,c],g⟩):((List.range n).map fun i=>(f i).row)[i]? =some [.int .u8 k,w64 a,w64 b,w64 c,.int .u8 g]:=by
 rw[List.getElem?_map,List.getElem?_range hi,Option.map_some,e];rfl
theorem qW(c:UInt8):∀ (s:List UInt8) (n:Nat),je n (s++[c])=(je n s).bind fun m=>je m [c]
 | [],n=>rfl
 | d::t,n=>by
   rw[List.cons_append]
   unfold je
   split
   ·rfl
   ·exact qW c t _
theorem nK{d:Nat}(h:d<10):(UInt8.ofNat (48+d)).toNat=48+d:=by
 rw[UInt8.toNat_ofNat_of_lt' (by show 48+d<256;omega)]
theorem Av(u:Nat):u<18446744073709551616→je 0 (Lib.decDigits u)=some u:=by
 induction u using Nat.strongRecOn with
 | _ u ih=>
   intro h
   by_cases h1:u<10
   ·rw[iw h1]
    unfold je
    rw[nK h1,if_neg (by omega)]
    unfold je
    congr 1
    omega
   ·rw[px h1,qW,ih (u / 10) (by omega) (by omega)]
    show je (u / 10) [_]=_
    unfold je
    rw[nK (Nat.mod_lt _ (by decide)),if_neg (by omega)]
    unfold je
    congr 1
    omega
theorem Ax(u:Nat):∀ x∈Lib.decDigits u,48≤x.toNat∧x.toNat≤57:=by
 induction u using Nat.strongRecOn with
 | _ u ih=>
   intro x hx
   by_cases h1:u<10
   ·rw[iw h1] at hx
    rw[List.mem_singleton.1 hx,nK h1]
    omega
   ·rw[px h1] at hx
    rcases List.mem_append.1 hx with hx | hx
    ·exact ih (u / 10) (by omega) x hx
    ·rw[List.mem_singleton.1 hx,nK (Nat.mod_lt _ (by decide))]
     have:=Nat.mod_lt u (show 0<10 by decide)
     omega
theorem Dh{u:Nat}(h:u<18446744073709551616):num (Lib.decDigits u)=some u:=by
 rw[←se]
 unfold DH
 have hl:=kw u (by omega)
 rw[if_neg,Av u h]
 rintro(h1 | h1 | ⟨h1,h2⟩)
 ·exact Aw u h1
 ·omega
 ·by_cases hz:1≤u
  ·exact w8 u hz h1
  ·obtain rfl:u=0:=by omega
   rw[iw (by decide)] at h2
   simp at h2
abbrev ddI(n:Int):List UInt8:=Lib.decDigits n.toNat
theorem tG:∀ (ns:List Int),(∀ n∈ns,0≤n∧n<18446744073709551616)→ie (ns.map ddI)=some ns
 | [],_=>rfl
 | n::t,h=>by
   have h1:=h n (List.mem_cons_self ..)
   have h2:=tG t fun m hm=>h m (List.mem_cons_of_mem _ hm)
   simp only[List.map_cons,ie]
   rw[Dh (by omega),h2]
   simp only[Option.map_some]
   rw[Int.toNat_of_nonneg h1.1]
abbrev Bla(l:List UInt8):Prop:=∀ x∈l,pU x=true
abbrev Sol(l:List UInt8):Prop:=∀ x∈l,pU x=false
theorem uU:∀ {b t:List UInt8},Bla b→tok (b++t) none=tok t none
 | [],t,_=>rfl
 | x::b,t,h=>by
   rw[List.cons_append,tok,if_pos (h x (List.mem_cons_self ..))]
   exact uU fun y hy=>h y (List.mem_cons_of_mem _ hy)
theorem vZ{b t c:List UInt8}(hb:Bla b)(hn:b≠[]):tok (b++t) (some c)=c::tok t none:=by
 cases b with
 | nil=>exact absurd aa hn
 | cons x b=>
   rw[List.cons_append,tok,if_pos (hb x (List.mem_cons_self ..))]
   rw[uU fun y hy=>hb y (List.mem_cons_of_mem _ hy)]
theorem Bb{b c:List UInt8}(hb:Bla b):tok b (some c)=[c]:=by
 cases b with
 | nil=>rfl
 | cons x b=>
   have:=vZ (t:=[]) (c:=c) hb (by simp)
   rw[List.append_nil] at this
   rw[this];rfl
theorem vY:∀ {w t c:List UInt8},Sol w→tok (w++t) (some c)=tok t (some (c++w))
 | [],t,c,_=>by simp
 | x::w,t,c,h=>by
   rw[List.cons_append,tok,if_neg (by rw[h x (List.mem_cons_self ..)];decide),vY fun y hy=>h y (List.mem_cons_of_mem _ hy)]
   simp
theorem yK{w t:List UInt8}(h:Sol w)(hn:w≠[]):tok (w++t) none=tok t (some w):=by
 cases w with
 | nil=>exact absurd aa hn
 | cons x w=>
   rw[List.cons_append,tok,if_neg (by rw[h x (List.mem_cons_self ..)];decide),vY fun y hy=>h y (List.mem_cons_of_mem _ hy)]
   simp
theorem DK(n:Int):Sol (ddI n):=fun x hx=>by
 have h:=Ax _ x hx
 unfold pU
 simp only[Bool.or_eq_false_iff,beq_eq_false_iff_ne,ne_eq]
 constructor<;>rintro rfl<;>revert h<;>decide
theorem sN{sep tl:List UInt8}(hs:Bla sep)(hn:sep≠[])(ht:Bla tl):∀ (ns:List Int) (c:List UInt8),tok ((ns.flatMap fun n=>sep++ddI n)++tl) (some c)=c::ns.map ddI
 | [],c=>Bb ht
 | n::t,c=>by
   rw[List.flatMap_cons,List.append_assoc,List.append_assoc,vZ hs hn,yK (DK n) (Aw _),sN hs hn ht t]
   rfl
theorem pd{sep:List UInt8}:∀ (ns:List Int) (a:List UInt8),ns.foldl (fun l n=>l++(sep++ddI n)) a=a++ns.flatMap fun n=>sep++ddI n
 | [],a=>by simp
 | n::t,a=>by
   rw[List.foldl_cons,pd t,List.flatMap_cons]
   simp only[List.append_assoc]
abbrev Cal(l:List UInt8):Prop:=∀ x∈l,x≠10∧x≠35
theorem Cal.app{a b:List UInt8}(ha:Cal a)(hb:Cal b):Cal (a++b):=fun x hx=>by
 rcases List.mem_append.1 hx with h | h
 ·exact ha x h
 ·exact hb x h
theorem Cc{a b:List UInt8}(ha:Cal a):dw (a++b)=a++dw b:=by
 unfold dw
 rw[List.takeWhile_append_of_pos fun x hx=>by simpa using(ha x hx).2]
theorem DL(n:Int):Cal (ddI n):=fun x hx=>by
 have h:=Ax _ x hx
 constructor<;>rintro rfl<;>revert h<;>decide
theorem zq{sep:List UInt8}(hs:Cal sep)(ns:List Int):Cal (ns.flatMap fun n=>sep++ddI n):=fun x hx=>by
 obtain⟨n,_,h⟩:=List.mem_flatMap.1 hx
 exact(Cal.app hs (DL n)) x h
theorem vw:∀ k,k<18→((fw k).all fun x=> !pU x&&(x !=10&&x !=35))=true∧fw k≠[]:=by decide
theorem Dt{k:Nat}(h:k<18):Sol (fw k):=fun x hx=>by
 have:=List.all_eq_true.1 (vw k h).1 x hx
 simp only[Bool.and_eq_true,Bool.not_eq_true'] at this
 exact this.1
theorem Du{k:Nat}(h:k<18):Cal (fw k):=fun x hx=>by
 have:=List.all_eq_true.1 (vw k h).1 x hx
 simp only[Bool.and_eq_true,bne_iff_ne] at this
 exact this.2
theorem BB:∀ k,k<18→kb (fw k)=some (k,fm k):=by decide
structure mO(l:List UInt8)(o:Option Cmd):Prop where
 nl:∀ x∈l,x≠10
 p:(o=none∧tok (dw l) none=[])∨∃ c,o=some c∧tok (dw l) none≠[]∧cR (tok (dw l) none)=(c,0)
theorem Dj{k:Nat}(hk:k<18){ns:List Int}(hl:ns.length=fm k)(hb:∀ n∈ns,0≤n∧n<18446744073709551616){pre sep tl:List UInt8}(hp:Bla pre)(hp2:Cal pre)(hs:Bla sep)(hs2:Cal sep)(hn:sep≠[])(ht:Bla (dw tl))(ht2:∀ x∈tl,x≠10):
 mO (pre++fw k++(ns.flatMap fun n=>sep++ddI n)++tl) (some ((k:Int),ns)):=by
 have hc:Cal (pre++fw k++ns.flatMap fun n=>sep++ddI n):=(hp2.app (Du hk)).app (zq hs2 ns)
 have ht3:tok (dw (pre++fw k++(ns.flatMap fun n=>sep++ddI n)++tl)) none=fw k::ns.map ddI:=by
  rw[Cc hc,List.append_assoc,List.append_assoc,uU hp,yK (Dt hk) (vw k hk).2,sN hs hn ht]
 refine⟨fun x hx=> ?_,.inr ⟨_,rfl,by rw[ht3];simp,?_⟩⟩
 ·rcases List.mem_append.1 hx with h | h
  ·exact(hc x h).1
  ·exact ht2 x h
 ·rw[ht3]
  unfold cR
  rw[show(fw k::ns.map ddI).getD 0 []=fw k from rfl,BB k hk]
  simp only
  rw[if_neg (by simp[hl]),show(fw k::ns.map ddI).drop 1=ns.map ddI from rfl,tG ns hb]
theorem Bq(g:Nat):Bla (ni g)∧Cal (ni g):=by
 unfold ni
 rcases (show g%3=0∨g%3=1∨g%3=2 by omega) with h | h | h<;>rw[h]<;>decide
theorem Bg(g:Nat):Bla (kW g)∧Cal (kW g)∧kW g≠[]:=by
 unfold kW
 rcases (show g / 3%3=0∨g / 3%3=1∨g / 3%3=2 by omega) with h | h | h<;>rw[h]<;>decide
theorem Bc(g:Nat):Bla (dw (nh g))∧∀ x∈nh g,x≠10:=by
 unfold nh
 rcases (show g / 9%4=0∨g / 9%4=1∨g / 9%4=2∨g / 9%4=3 by omega) with h | h | h | h<;>rw[h]<;>decide
theorem p7.nat{c:Cmd}(h:p7 c):∃ k:Nat,k<18∧c.1=k∧c.2.length=fm k:=by
 obtain⟨k,ns⟩:=c
 have h1:=h.k
 have h2:=h.n
 obtain⟨k,rfl⟩:=Int.eq_ofNat_of_zero_le h1.1
 exact⟨k,by simp only at h1;omega,rfl,h2⟩
theorem Ln.t_ok{x:Ln}(hx:LnW x):mO x.t (some x.c):=by
 have h:=Ln.c_w hx
 obtain⟨k,hk,e,hl⟩:=h.nat
 have e2:x.k%18=k:=by
  have:((x.k%18:Nat):Int)=k:=e
  omega
 obtain⟨p1,p2⟩:=Bq x.g
 obtain⟨s1,s2,s3⟩:=Bg x.g
 obtain⟨t1,t2⟩:=Bc x.g
 have:=Dj hk hl h.b p1 p2 s1 s2 s3 t1 t2
 unfold Ln.t Ln.m
 rw[e2]
 rw[←e] at this
 rw[show x.c.2.foldl (fun l n=>l++(kW x.g++Lib.decDigits n.toNat)) (ni x.g++fw k)=_ from pd x.c.2 _]
 exact this
def cD(L:List (List UInt8)):List UInt8:=L.flatMap fun l=>l++[10]
theorem jr(a b:List (List UInt8)):cD (a++b)=cD a++cD b:=by unfold cD;rw[List.flatMap_append]
theorem sX(r:List UInt8):∀ (L:List (List UInt8)),(∀ l∈L,∀ x∈l,x≠10)→spl 10 (cD L++r)=L++spl 10 r
 | [],_=>rfl
 | l::L,h=>by
   have h1:=sX r L fun a ha=>h a (List.mem_cons_of_mem _ ha)
   have e:cD (l::L)++r=l++(10::(cD L++r)):=by simp[cD]
   rw[e,nx _ _ (h l (List.mem_cons_self ..))]
   rw[show spl 10 (10::(cD L++r))=[]::spl 10 (cD L++r) by rw[spl,if_pos rfl],h1]
   simp
abbrev LO:=List UInt8×Option Cmd
theorem mB:∀ (L:List LO) (x:PSt),(∀ p∈L,mO p.1 p.2)→0≤x.1→x.1+L.length≤1000000→x.2.1.length+(L.filterMap Prod.snd).length≤400→
 itl stP (L.map Prod.fst) x=(true,x.1+L.length,x.2.1++L.filterMap Prod.snd,x.2.2)
 | [],x,_,_,_,_=>by simp[itl]
 | (l,o)::L,x,h,h0,h1,h2=>by
   have hl:=h _ (List.mem_cons_self ..)
   have hw:IntKind.i64.wrap (x.1+1)=x.1+1:=gV (by simp only[List.length_cons] at h1;omega)
   rw[List.map_cons,itl]
   simp only[List.length_cons] at h1
   rcases hl.p with ⟨e1,e2⟩ | ⟨c,e1,e2,e3⟩
   ·simp only at e1 e2
    subst e1
    have hs:stP l x=(true,x.1+1,x.2.1,x.2.2):=by unfold stP;simp only[e2,hw,if_true]
    rw[hs,if_pos rfl,mB L _ (fun p hp=>h p (List.mem_cons_of_mem _ hp)) (by simp only;omega) (by simp only;omega) (by simpa using h2)]
    simp only[List.length_cons,List.filterMap_cons,Prod.mk.injEq,true_and,and_true]
    omega
   ·simp only at e1 e2 e3
    subst e1
    simp only[List.filterMap_cons,List.length_cons] at h2
    have hs:stP l x=(true,x.1+1,x.2.1++[c],x.2.2):=by
     unfold stP
     simp only[hw]
     rw[if_neg e2,if_neg (by omega),if_neg (by rw[e3];simp),e3]
    rw[hs,if_pos rfl,mB L _ (fun p hp=>h p (List.mem_cons_of_mem _ hp)) (by simp only;omega) (by simp only;omega) (by simp only[List.length_append,List.length_cons,List.length_nil];omega)]
    simp only[List.length_cons,List.filterMap_cons,Prod.mk.injEq,true_and,List.append_assoc,List.cons_append,List.nil_append,and_true]
    omega
theorem tR:mO [] none:=⟨by decide,.inl ⟨rfl,rfl⟩⟩
theorem oE{L:List LO}(h:∀ p∈L,mO p.1 p.2)(hl:(cD (L.map Prod.fst)).length≤65536)(hn:(L.filterMap Prod.snd).length≤400)(hL:L.length≤100000):eV (cD (L.map Prod.fst))=(L.filterMap Prod.snd,0,0):=by
 have e:=sX [] (L.map Prod.fst) fun l hl x hx=>by
  obtain⟨p,hp,rfl⟩:=List.mem_map.1 hl
  exact(h p hp).nl x hx
 rw[List.append_nil] at e
 have e2:spl 10 (cD (L.map Prod.fst))=(L++[([],none)]).map Prod.fst:=by rw[e];simp[spl]
 have e3:=mB (L++[([],none)]) p0 (fun p hp=>by
  rcases List.mem_append.1 hp with h1 | h1
  ·exact h p h1
  ·rw[List.mem_singleton.1 h1];exact tR) (by decide) (by simp[p0];omega) (by simpa [p0] using hn)
 unfold eV
 rw[if_neg (by omega),e2,e3]
 simp[p0]
section
variable {B:World} {σ:Env} {H Fr:List HP} {P:Program} {d:Option Tmp} {ty:TypeId} {p:String} {af:Array Edge} {g:Option (Nat×Bool)} {w:World}
theorem qQ(l:List UInt8)(w:World):(Builtin.firstCells 1 l.length (str l)).run P w= .ok (l.map u8v).toArray w:=by
 have e:(⟨l.toArray⟩:ByteArray).extract 0 l.length=⟨l.toArray⟩:=by rw[AU];simp
 simp[Builtin.firstCells,e,u8v]
theorem vI{t e:TypeId}{x y:Operand}{at_:Array TypeId}{u:TypeId}{b off len cap:Nat}{cs:List Value}{l:List UInt8}{T:TypeId}{U:List Value→List HP}{z:Value}
 (ha:at_[0]? =some t) (ha':at_[1]? =some u) (ht:∀ w,(underlying t).run P w= .ok (.slice e) w) (hu:∀ w,(underlying u).run P w= .ok .string w) (hs:∀ w,(sizeOf e).run P w= .ok 1 w) (hz:∀ w,(zeroValue e).run P w= .ok z w) (hz1:z.cells.size=1) (hfb:cX P e)
 (hx:evO σ x=some (.slice (some ⟨b,off,none⟩) len cap)) (hy:evO σ y=some (str l)) [r:eX H b cs T U] (h1:off+cap≤cs.length) (hlc:len≤cap) (hn:len+l.length≤1000000000):
 Chg P B σ H ⟨d,.call ⟨.builtin .append, #[x,y],at_⟩,ty,p,af,g⟩ (fun v H'=>
  (len+l.length≤cap∧v= .slice (some ⟨b,off,none⟩) (len+l.length) cap∧H'=U (cU cs (off+len) (l.map u8v)))∨
  (cap<len+l.length∧∃ bn cn rest,len+l.length≤cn∧rest.length=cn - (len+l.length)∧v= .slice (some ⟨bn,0,none⟩) (len+l.length) cn∧H'=row bn ((cs.drop off).take len++l.map u8v++rest) e::H)):=by
 obtain⟨ti,hti,hb,hb0⟩:=nZ hfb
 intro a w kn hh
 have e4:=(SlM.row (B:=B) (H:=H) (b:=b) (off:=off) (n:=len) (cap:=cap) (m:=1) (xs:=(cs.drop off).take (len*1)) rfl (by simp;omega))
 obtain⟨n,hnl⟩:∃ n,n=l.length:=⟨_,rfl⟩
 have hv:(l.map u8v).all aL=true:=by simp[aL]
 have e2:∀ w,(Builtin.firstCells 1 n (str l)).run P w= .ok (l.map u8v).toArray w:=fun w=>by rw[hnl];exact qQ l w
 have hln:(Builtin.lenOf (str l)).run P w= .ok n w:=by simp[Builtin.lenOf,gb,hnl]
 have hsz:∀ w,(Builtin.lenOf (str l)).run P w= .ok n w:=fun w=>by simp[Builtin.lenOf,gb,hnl]
 rw[←hnl] at hn ⊢
 by_cases hcap:len+n≤cap
 ·obtain⟨w',e1,hw'⟩:=dM (P:=P) (l.map u8v) (off+len) 0 r hh (by simp;omega) (fun v h=>List.all_eq_true.1 hv v h)
  refine⟨.value (.slice (some ⟨b,off,none⟩) (len+n) cap),w',?_,_,.inl aa,_,.inl ⟨hcap,rfl,rfl⟩,by simpa using hw'⟩
  simp only[execOp,resolve,Sem.run_bind,Sem.run_pure,Result.andThen_ok]
  simp only[invoke,builtin,Builtin.append_,ha,ha',Sem.run_bind,hu,kn.eval hx,kn.eval hy,ht,hs,hsz,Result.andThen_ok,Sem.run_pure,List.map_toArray,List.map_cons,List.map_nil,List.getElem?_toArray,List.getElem?_cons_zero,List.getElem?_cons_succ]
  simp[hcap,e2,eN,hsz]
  simp[e1]
 ·have hb2:=nz (n:=len+n) (cap:=cap) hn (by omega) hb
  have hq:(Question.appendCap (len+n) cap e).forced=false:=rfl
  have hcut:∃ cn,(Question.appendCap (len+n) cap e).cut (w.tape w.drawn (.appendCap (len+n) cap e))=cn∧len+n≤cn:=⟨_,rfl,by simp[Question.cut]⟩
  obtain⟨cn,ec,hcn⟩:=hcut
  obtain⟨zl,hzl⟩:∃ l:List Value,Builtin.zeroCells z.cells (cn - (len+n))=l.toArray:=⟨_,(Array.toArray_toList).symm⟩
  have hzs:zl.length=cn - (len+n):=by have:=fP z.cells (cn - (len+n));rw[hzl,hz1] at this;simpa using this
  refine⟨.value (.slice (some ⟨w.heap.size,0,none⟩) (len+n) cn),{w with drawn:=w.drawn+1,heap:=w.heap.push (.cells ((cs.drop off).take len++l.map u8v++zl).toArray e)},?_,_,.inl aa,_,.inr ⟨by omega,w.heap.size,cn,zl,hcn,hzs,rfl,rfl⟩,by simpa [row] using(hh.drew (w.drawn+1)).new (.cells ((cs.drop off).take len++l.map u8v++zl).toArray e)⟩
  ·simp only[execOp,resolve,Sem.run_bind,Sem.run_pure,Result.andThen_ok]
   have e4w:(Builtin.firstCells 1 len (Value.slice (some ⟨b,off,none⟩) len cap)).run P w.drew= .ok ((cs.drop off).take len).toArray w.drew:=by
    have:=e4.first (P:=P) (hh.drew (w.drawn+1))
    rw[Nat.mul_one] at this
    exact this
   simp only[invoke,builtin,Builtin.append_,ha,ha',Sem.run_bind,hu,kn.eval hx,kn.eval hy,ht,hs,hsz,Result.andThen_ok,Sem.run_pure,List.map_toArray,List.map_cons,List.map_nil,List.getElem?_toArray,List.getElem?_cons_zero,List.getElem?_cons_succ]
   simp[hcap,hti,hq,ec,Nat.not_lt.2 hb2,hb0,hsz,e2,e4w,hz,cG,show ¬ (2 ^ 63 - 1:Int)<(len:Int)+n by omega]
   have e9:((List.take len (List.drop off cs)).toArray++((l.map u8v).toArray++Builtin.zeroCells z.cells (cn - (len+n))))=(List.take len (List.drop off cs)++(l.map u8v++zl)).toArray:=by rw[hzl];simp
   rw[e9];rfl
theorem pF{t e:TypeId}{x y:Operand}{at_:Array TypeId}{u:TypeId}{l:List UInt8}{z:Value}
 (ha:at_[0]? =some t) (ha':at_[1]? =some u) (ht:∀ w,(underlying t).run P w= .ok (.slice e) w) (hu:∀ w,(underlying u).run P w= .ok .string w) (hs:∀ w,(sizeOf e).run P w= .ok 1 w) (hz:∀ w,(zeroValue e).run P w= .ok z w) (hz1:z.cells.size=1) (hfb:cX P e)
 (hx:evO σ x=some (.slice none 0 0)) (hy:evO σ y=some (str l)) (hn0:0<l.length) (hn:l.length≤1000000000):
 Chg P B σ H ⟨d,.call ⟨.builtin .append, #[x,y],at_⟩,ty,p,af,g⟩ (fun v H'=>∃ bn cn rest,l.length≤cn∧rest.length=cn - l.length∧v= .slice (some ⟨bn,0,none⟩) l.length cn∧H'=row bn (l.map u8v++rest) e::H):=by
 obtain⟨ti,hti,hb,hb0⟩:=nZ hfb
 intro a w kn hh
 obtain⟨n,hnl⟩:∃ n,n=l.length:=⟨_,rfl⟩
 have e2:∀ w,(Builtin.firstCells 1 n (str l)).run P w= .ok (l.map u8v).toArray w:=fun w=>by rw[hnl];exact qQ l w
 have hsz:∀ w,(Builtin.lenOf (str l)).run P w= .ok n w:=fun w=>by simp[Builtin.lenOf,gb,hnl]
 rw[←hnl] at hn hn0 ⊢
 have hb2:=nz (n:=n) (cap:=0) hn (by omega) hb
 have hq:(Question.appendCap n 0 e).forced=false:=rfl
 have hcut:∃ cn,(Question.appendCap n 0 e).cut (w.tape w.drawn (.appendCap n 0 e))=cn∧n≤cn:=⟨_,rfl,by simp[Question.cut]⟩
 obtain⟨cn,ec,hcn⟩:=hcut
 obtain⟨zl,hzl⟩:∃ l:List Value,Builtin.zeroCells z.cells (cn - n)=l.toArray:=⟨_,(Array.toArray_toList).symm⟩
 have hzs:zl.length=cn - n:=by have:=fP z.cells (cn - n);rw[hzl,hz1] at this;simpa using this
 refine⟨.value (.slice (some ⟨w.heap.size,0,none⟩) n cn),{w with drawn:=w.drawn+1,heap:=w.heap.push (.cells (l.map u8v++zl).toArray e)},?_,_,.inl aa,_,⟨w.heap.size,cn,zl,hcn,hzs,rfl,rfl⟩,by simpa [row] using(hh.drew (w.drawn+1)).new (.cells (l.map u8v++zl).toArray e)⟩
 ·simp only[execOp,resolve,Sem.run_bind,Sem.run_pure,Result.andThen_ok]
  have e4w:(Builtin.firstCells 1 0 (Value.slice none 0 0)).run P w.drew= .ok #[] w.drew:=by simp[Builtin.firstCells]
  simp only[invoke,builtin,Builtin.append_,ha,ha',Sem.run_bind,hu,kn.eval hx,kn.eval hy,ht,hs,hsz,Result.andThen_ok,Sem.run_pure,List.map_toArray,List.map_cons,List.map_nil,List.getElem?_toArray,List.getElem?_cons_zero,List.getElem?_cons_succ]
  simp[show ¬ n=0 by omega,hti,hq,ec,Nat.not_lt.2 hb2,hb0,hsz,e2,e4w,hz,cG,show ¬ (2 ^ 63 - 1:Int)<(n:Int) by omega]
  have e9:((l.map u8v).toArray++Builtin.zeroCells z.cells (cn - n))=(l.map u8v++zl).toArray:=by rw[hzl];simp
  rw[e9];rfl
def p8(sv:Value)(l:List UInt8):HP:=hex fun (o:Option (Nat×List Value))=>match o with
 | none=>pr (l=[]∧sv= .slice none 0 0)
 | some (r,rest)=>grp [row r (l.map u8v++rest) 5,pr (l≠[]∧sv= .slice (some ⟨r,0,none⟩) l.length (l.length+rest.length))]
theorem Cj{B:World}{Fr:List HP}{w:World}(h:Holds B Fr w):Holds B (p8 (.slice none 0 0) []::Fr) w:=Holds.unhex none (h.unpr ⟨rfl,rfl⟩)
theorem su{B:World}{Fr:List HP}{w:World}{r n c:Nat}{l:List UInt8}{rest:List Value}(h0:l≠[])(hn:n=l.length)(hc:c=l.length+rest.length)(h:Holds B (row r (l.map u8v++rest) 5::Fr) w):Holds B (p8 (.slice (some ⟨r,0,none⟩) n c) l::Fr) w:=by
 subst hn;subst hc
 exact Holds.unhex (some (r,rest)) (Holds.ungrp (l:=[row r (l.map u8v++rest) 5,pr (l≠[]∧_=_)]) ((h.unpr ⟨h0,rfl⟩).front 1 aa))
theorem qF{B:World}{Fr:List HP}{w:World}{sv:Value}{l:List UInt8}(h:Holds B (p8 sv l::Fr) w):(l=[]∧sv= .slice none 0 0∧Holds B Fr w)∨∃ r rest,l≠[]∧sv= .slice (some ⟨r,0,none⟩) l.length (l.length+rest.length)∧Holds B (row r (l.map u8v++rest) 5::Fr) w:=by
 obtain⟨o,h1⟩:=h.hex
 match o with
 | none=>exact .inl ⟨h1.pr.1.1,h1.pr.1.2,h1.pr.2⟩
 | some (r,rest)=>
   have h2:=(h1.grp).front 1 rfl
   exact .inr ⟨r,rest,h2.pr.1.1,h2.pr.1.2,h2.pr.2⟩
theorem pX{t:TypeId}{x y:Operand}{at_:Array TypeId}{u:TypeId}{l xs:List UInt8}{sv z:Value}
 (ha:at_[0]? =some t) (ha':at_[1]? =some u) (ht:∀ w,(underlying t).run P w= .ok (.slice 5) w) (hu:∀ w,(underlying u).run P w= .ok .string w) (hs:∀ w,(sizeOf 5).run P w= .ok 1 w) (hz:∀ w,(zeroValue 5).run P w= .ok z w) (hz1:z.cells.size=1) (hfb:cX P 5)
 (hx:evO σ x=some sv) (hy:evO σ y=some (str l)) (h0:0<l.length) (hn:xs.length+l.length≤1000000000):
 Chg P B σ (p8 sv xs::Fr) ⟨d,.call ⟨.builtin .append, #[x,y],at_⟩,ty,p,af,g⟩ (fun v' H'=>aL v'=true∧H'=p8 v' (xs++l)::Fr):=by
 intro a w kn hh
 have hne:∀ xs:List UInt8,xs++l≠[]:=fun xs e=>by have:=congrArg List.length e;simp at this;rw[this.2] at h0;simp at h0
 rcases qF hh with ⟨h1,h2,h3⟩ | ⟨bd,rest,hx0,h1,h3⟩
 ·subst h2;subst h1
  obtain⟨r,w',e1,u,e2,H',⟨bn,cn,rest,e3,e3',e4,rfl⟩,e5⟩:=pF (H:=Fr) (d:=d) (ty:=ty) (p:=p) (af:=af) (g:=g) ha ha' ht hu hs hz hz1 hfb hx hy h0 (by simpa using hn) a w kn h3
  subst e4
  exact⟨r,w',e1,_,e2,_,⟨rfl,rfl⟩,su (hne []) aa (by simp;omega) e5⟩
 ·subst h1
  obtain⟨r,w',e1,u,e2,H',hY,e5⟩:=vI (H:=row bd (xs.map u8v++rest) 5::Fr) (d:=d) (ty:=ty) (p:=p) (af:=af) (g:=g) (b:=bd) ha ha' ht hu hs hz hz1 hfb hx hy (by simp) (by omega) (by simpa using hn) a w kn h3
  rcases hY with ⟨g1,rfl,rfl⟩ | ⟨g1,bn,cn,rest',g2,g3,rfl,rfl⟩
  ·refine⟨r,w',e1,_,e2,_,⟨rfl,rfl⟩,?_⟩
   have e:xs.map u8v++rest=xs.map u8v++rest.take l.length++rest.drop l.length:=by simp
   have el:0+xs.length=(xs.map u8v).length:=by simp
   rw[e,el,lk _ _ _ _ (by rw[List.length_take,List.length_map];omega)] at e5
   refine su (rest:=rest.drop l.length) (hne xs) (by simp) (by simp;omega) ?_
   rw[List.map_append]
   exact e5
  ·refine⟨r,w',e1,_,e2,_,⟨rfl,rfl⟩,?_⟩
   have e:(xs++l).map u8v++rest'=((xs.map u8v++rest).drop 0).take xs.length++l.map u8v++rest':=by
    rw[List.drop_zero,List.take_left' (by simp)];simp
   rw[←e] at e5
   exact su (rest:=rest') (hne xs) (by simp) (by simp;omega) ((e5.front 1 aa).tail)
theorem un{s t e te:TypeId}{j:TypeInfo}{x:Operand}{b:Nat}{cs:List Value}{T:TypeId}{U:List Value→List HP}(hs:P.underlying s=some (.pointer te))(hd:P.underlying t=some .unsafePointer)(ht:P.info? te=some j)(hj:j.size≠0)(hx:evO σ x=some (ptr b))[r:eX H b cs T U](h0:0<cs.length):
 Evs P B σ H ⟨d,.convert s t x,ty,p,af,g⟩ (ptr b):=by
 intro a w kn hh
 obtain⟨i,hi,_⟩:=r.get
 have hr:=hh.read i hi
 simp only[execOp,kn.eval hx]
 have:=Lib.run_to_unsafe (P:=P) w (src:=s) (dst:=t) ⟨b,0,none⟩ hs hd ht hj (e:=T) (cells:=cs.length) (by simp[World.shape?,hr]) h0
 simp[this]
theorem pV{s t te:TypeId}{j:TypeInfo}{x:Operand}{b:Nat}{cs:List Value}{T:TypeId}{U:List Value→List HP}(hs:P.underlying s=some .unsafePointer)(hd:P.underlying t=some (.pointer te))(ht:P.info? te=some j)(hx:evO σ x=some (ptr b))[r:eX H b cs T U](hl:liesAt P P.depth T (cs.length / P.cellsOf T) 0 te 1=true):
 Evs P B σ H ⟨d,.convert s t x,ty,p,af,g⟩ (ptr b):=by
 intro a w kn hh
 obtain⟨i,hi,_⟩:=r.get
 have hr:=hh.read i hi
 simp only[execOp,kn.eval hx]
 have:=Lib.run_from_unsafe (P:=P) w (src:=s) (dst:=t) ⟨b,0,none⟩ hs hd ht (e:=T) (cells:=cs.length) (by simp[World.shape?,hr]) hl
 simp[this]
theorem An{x y:Operand}{q:Addr}{t u te:TypeId}{j:TypeInfo}(ht:P.underlying t=some (.pointer te))(hj:P.info? te=some j)(hx:evO σ x=some (.pointer (some q)))(hy:evO σ y=some (.pointer (some q))):Evs P B σ H ⟨d,.binOp .neq t x y u,ty,p,af,g⟩ (.bool false):=by
 intro a w kn _
 simp only[execOp,kn.eval hx,kn.eval hy]
 have:=Lib.run_neq_ptr_same (P:=P) w q ht hj
 simp[eqGuard,this]
theorem Dz{x:Operand}{at_:Array TypeId}{q:Addr}{n c:Nat}(hx:evO σ x=some (.slice (some q) n c))(hc:c≠0):Evs P B σ H ⟨d,.call ⟨.builtin .unsafeSliceData, #[x],at_⟩,ty,p,af,g⟩ (.pointer (some q)):=by
 intro a w kn _
 simp only[execOp,resolve,Sem.run_bind,Sem.run_pure,Result.andThen_ok]
 simp only[invoke,builtin,Sem.run_bind,Sem.run_pure,Result.andThen_ok,List.map_toArray,List.map_cons,List.map_nil,kn.eval hx]
 rw[Lib.run_unsafeSliceData_row (P:=P) w at_ _ q n c hc]
 rfl
theorem vC{x:Operand}{at_:Array TypeId}{n c:Nat}(hx:evO σ x=some (.slice none n c)):Evs P B σ H ⟨d,.call ⟨.builtin .unsafeSliceData, #[x],at_⟩,ty,p,af,g⟩ (.pointer none):=by
 intro a w kn _
 simp only[execOp,resolve,Sem.run_bind,Sem.run_pure,Result.andThen_ok]
 simp only[invoke,builtin,Sem.run_bind,Sem.run_pure,Result.andThen_ok,List.map_toArray,List.map_cons,List.map_nil,kn.eval hx]
 rw[Lib.run_unsafeSliceData_nil (P:=P) w at_ _ n c]
 rfl
theorem Cf{x y:Operand}{pt it:TypeId}{e r:Nat}{l:List UInt8}{rest:List Value}(hp:P.underlying pt=some (.pointer e))(hc:P.cellsOf e=1)(hx:evO σ x=some (ptr r))(hy:evO σ y=some (i64 l.length))(h0:l≠[])(hl:l.length≤1000000000):
 Chg P B σ (row r (l.map u8v++rest) e::Fr) ⟨d,.call ⟨.builtin .unsafeString, #[x,y], #[pt,it]⟩,ty,p,af,g⟩ (fun v' H'=>v'=str l∧H'=Fr):=by
 intro a w kn hh
 have hr:=hh.read 0 rfl
 have hl0:l.length≠0:=by simpa using h0
 have hus:=Lib.run_unsafeString_row (P:=P) w pt it ty e hp hc r (l.map u8v++rest).length (by simp[World.shape?,hr]) l h0 (by simp) (by omega) (fun j x hj=>by
  rw[eN]
  have hj2:=(List.getElem?_eq_some_iff.1 hj).1
  simp[World.cell?,hr,List.getElem?_append_left,hj2]
  have:=(List.getElem?_eq_some_iff.1 hj).2
  rw[this])
 refine⟨.value (str l),w.freeze ⟨r,0,none⟩ l.length,?_,_,.inl aa,_,⟨rfl,rfl⟩,?_⟩
 ·simp only[execOp,resolve,Sem.run_bind,Sem.run_pure,Result.andThen_ok]
  simp only[invoke,builtin,Sem.run_bind,Sem.run_pure,Result.andThen_ok,List.map_toArray,List.map_cons,List.map_nil,kn.eval hx,kn.eval hy]
  rw[hus]
  rfl
 ·obtain⟨o',he⟩:∃ o',w.freeze ⟨r,0,none⟩ l.length={w with heap:=w.heap.setIfInBounds r o'}:=by
   obtain⟨hlt,hg⟩:=Array.getElem?_eq_some_iff.1 hr
   refine⟨.cells (l.map u8v++rest).toArray e (0,0+l.length),?_⟩
   unfold World.freeze
   rw[if_neg hl0]
   congr 1
   apply Array.ext_getElem?
   intro k
   rw[Array.getElem?_modify]
   by_cases hk:r=k
   ·subst hk;rw[hr];simp[hlt]
   ·simp[hk]
  rw[he]
  exact(hh.put 0 aa o').tail
theorem um{x y:Operand}{pt it:TypeId}{q:Option Addr}(hx:evO σ x=some (.pointer q))(hy:evO σ y=some (i64 0)):Evs P B σ H ⟨d,.call ⟨.builtin .unsafeString, #[x,y], #[pt,it]⟩,ty,p,af,g⟩ (str []):=by
 intro a w kn _
 simp only[execOp,resolve,Sem.run_bind,Sem.run_pure,Result.andThen_ok]
 simp only[invoke,builtin,Sem.run_bind,Sem.run_pure,Result.andThen_ok,List.map_toArray,List.map_cons,List.map_nil,kn.eval hx,kn.eval hy]
 rw[Lib.run_unsafeString_none (P:=P) w pt it ty q]
 rfl
theorem B7{f:FuncId}{x:Operand}{v:Value}{at_:Array TypeId}{e:Array Value→Sem Value}(hc:∀ args w,(callFunc f args).run P w=((e args).run P w).andThen fun v w=> .ok (.value v) w)(hv:∀ w,(e #[v]).run P w= .ok v w)(hx:evO σ x=some v):
 Evs P B σ H ⟨d,.call ⟨.value (.func f), #[x],at_⟩,ty,p,af,g⟩ v:=by
 intro a w kn _
 have e1: #[x].map a.eval= #[v]:=kn.evalsA (vs:=[v]) (by simp[evL,hx])
 simp only[execOp,resolve,Deferred.ofValue,invoke,Act.eval,Sem.run_bind,Sem.run_pure,Result.andThen_ok]
 rw[show(Array.map (fun x=>Act.eval a x) #[x])= #[v] from e1]
 simp[hc,hv]
end
def uS(b:Nat)(l:List UInt8):HP:=hex fun (a:Value×Value)=>grp [row b [a.1,a.2] 74,p8 a.2 l,pr ((a.1= .pointer none∨a.1=ptr b)∧aL a.2=true)]
section
variable {B:World} {n:Nat} {D:List Deferred} {σ:Env} {Fr:List HP} {P:Program} {K:Act→World→Prop} {l:List UInt8} {w:World} {b:Nat}
theorem qG(h:Holds B (uS b l::Fr) w):∃ a sv,(a= .pointer none∨a=ptr b)∧aL sv=true∧Holds B (row b [a,sv] 74::p8 sv l::Fr) w:=by
 obtain⟨x,h1⟩:=h.hex
 have h2:=(h1.grp).front 2 rfl
 exact⟨x.1,x.2,h2.pr.1.1,h2.pr.1.2,h2.pr.2⟩
theorem qZ{a sv:Value}(ha:a= .pointer none∨a=ptr b)(hv:aL sv=true)(h:Holds B (row b [a,sv] 74::p8 sv l::Fr) w):Holds B (uS b l::Fr) w:=
 Holds.unhex (a,sv) (Holds.ungrp (l:=[row b [a,sv] 74,p8 sv l,pr ((a= .pointer none∨a=ptr b)∧aL sv=true)]) ((h.unpr ⟨ha,hv⟩).back 2 (by simp)))
theorem Cl(h:Holds B (row b [.pointer none,.slice none 0 0] 74::Fr) w):Holds B (uS b []::Fr) w:=
 qZ (.inl rfl) rfl ((Cj h).front 1 rfl)
theorem Ds(h:∀ a sv,(a= .pointer none∨a=ptr b)→aL sv=true→GO B n D σ (row b [a,sv] 74::p8 sv l::Fr) K):GO B n D σ (uS b l::Fr) K:=fun a w st=>by
 obtain⟨x,sv,h1,h2,h3⟩:=qG st.holds
 exact h x sv h1 h2 a w ⟨st.toStA,h3⟩
end
theorem uH:∃ j,Tryz.prog.info? 74=some j∧j.size≠0:=by
 have h:(Tryz.prog.info? 74).map (fun j=>decide (j.size≠0))=some true:=by kernel_rfl
 obtain⟨j,h1,h2⟩:=Option.map_eq_some_iff.1 h
 exact⟨j,h1,by simpa using h2⟩
theorem AS:liesAt Tryz.prog Tryz.prog.depth 74 (2 / Tryz.prog.cellsOf 74) 0 74 1=true:=by kernel_rfl
set_option maxRecDepth 100000 in
theorem AO(B:World)(Fr:List HP)(b:Nat)(sv:Value):
 ∀ w,Holds B (row b [.pointer none,sv] 74::Fr) w→Calls Tryz.prog 56 [ptr b].toArray w (Ret B (fun v H'=>v= .tuple #[]∧H'=row b [ptr b,sv] 74::Fr) (fun _ _=>False)):=by
 refine an func56 aa ntmps56 aa ?_
 obtain⟨j,hj,hj0⟩:=uH
 refine ac (ab (kPf nE isAgg71 aa aa aa aa (kPv (df runUnderlying71 aa aa aa) aa (ad (o7 aa (rfl) (ab (kPm aa aa (kPm aa aa (kPv (un (e:=0) (dZ runUnderlying71) (dZ runUnderlying176) hj hj0 aa (by exact Nat.succ_pos _)) aa (kPv (B7 (fun args w=>run_callFunc_extern func98 (by kernel_rfl) (by kernel_rfl) (by kernel_rfl) (e:=Extern.AbiNoEscape.same) (by kernel_rfl) args w) (fun w=>Lib.run_noEscape w _) aa) aa ?_))))))))))
 refine kPv (pV (dZ runUnderlying176) (dZ runUnderlying71) hj aa AS) aa (kPv (aI aa) aa (kPv (aD (m:=_) nE aa aa) aa ?_))
 refine kPs (aO sizeOf71 aa aa (by first | rfl | assumption) rfl) rfl ?_
 refine ad (am [] rfl ?_)
 exact cI results56 (fun w hw=>⟨_,⟨rfl,rfl⟩,hw⟩)
theorem Ch(B:World)(Fr:List HP)(b:Nat)(sv:Value):
 ∀ w,Holds B (row b [ptr b,sv] 74::Fr) w→Calls Tryz.prog 56 [ptr b].toArray w (Ret B (fun v H'=>v= .tuple #[]∧H'=row b [ptr b,sv] 74::Fr) (fun _ _=>False)):=by
 refine an func56 aa ntmps56 aa ?_
 obtain⟨j,hj,hj0⟩:=uH
 refine ac (ab (kPf nE isAgg71 aa aa aa aa (kPv (df runUnderlying71 aa aa aa) aa (ad (bH aa (rfl) (ac (ab (kPf nE isAgg71 aa aa aa aa (kPm aa aa (kPv (An (dZ runUnderlying71) hj aa aa) aa (ad ?_)))))))))))
 refine am [19] rfl (bH aa (rfl) (ar ?_))
 exact cI results56 (fun w hw=>⟨_,⟨rfl,rfl⟩,hw⟩)
theorem Er(B:World)(Fr:List HP)(b:Nat)(a sv:Value)(ha:a= .pointer none∨a=ptr b):∀ w,Holds B (row b [a,sv] 74::Fr) w→Calls Tryz.prog 56 [ptr b].toArray w (Ret B (fun v H'=>v= .tuple #[]∧H'=row b [ptr b,sv] 74::Fr) (fun _ _=>False)):=by
 rcases ha with rfl | rfl
 ·exact AO B Fr b sv
 ·exact Ch B Fr b sv
theorem A6(B:World)(Fr:List HP)(b:Nat)(l s:List UInt8)(h0:0<s.length)(hn:l.length+s.length≤1000000000):
 ∀ w,Holds B (uS b l::Fr) w→Calls Tryz.prog 31 [ptr b,str s].toArray w (Ret B (fun _ H'=>H'=uS b (l++s)::Fr) (fun _ _=>False)):=by
 refine an func31 aa ntmps31 aa (Ds fun a sv ha hsv=>(ac (ab (kPa aa aa (kPa aa aa (ad (ac (ab (kPm aa aa (dC aa (au call56 aa) (Er _ _ b a sv ha) .free aa aa ?_))))))))))
 refine ad (ac (ab (kPm aa aa (kPf kR isAgg72 aa aa aa aa (kPm aa aa (aP [1] (cJ aa (pX aa aa runUnderlying72 runUnderlying9 sizeOf5 zeroValue5 aa Et aa aa h0 (by omega)) .free aa aa ?_)))))))
 rintro nv _ ⟨hnv,rfl⟩
 refine kPv (aI aa) aa (kPv (aD (m:=_) kR aa aa) aa ?_)
 refine kPs (aO sizeOf72 aa aa (by first | rfl | assumption) rfl) rfl ?_;refine ad ?_;refine am [5,4,1] rfl ?_;refine ac ?_;refine ab ?_;refine kPm aa aa ?_;refine kPv (me aa runUnderlying9 aa) aa ?_;refine kPa aa aa ?_;refine kPa aa aa ?_;refine ad ?_;refine az ?_
 exact ce results31 aa aa (fun w hw=>⟨_,rfl,qZ (.inr aa) hnv (hw.pk [1])⟩)
theorem AP(B:World)(Fr:List HP)(b r:Nat)(a:Value)(l:List UInt8)(rest:List Value)(h0:l≠[])(hl:l.length≤1000000000):
 ∀ w,Holds B (row r (l.map u8v++rest) 5::row b [a,.slice (some ⟨r,0,none⟩) l.length (l.length+rest.length)] 74::Fr) w→Calls Tryz.prog 32 [ptr b].toArray w (aZ B Fr (str l)):=by
 refine an func32 aa ntmps32 aa ?_
 have hl0:l.length≠0:=by simpa using h0
 refine ac (ab (kPa aa aa (ad (ac (cQ 10 Tryz.mixed (by kernel_rfl) (by kernel_rfl) ?_)))))
 refine kQm aa aa (kQv (aI aa) aa (kQv (aD (m:=_) kR aa aa) aa (kQv (ah isAgg72 aa aa) aa (kQv (Dz aa (by omega)) aa (kQm aa aa (kQv (aI aa) aa (kQv (aD (m:=_) kR aa aa) aa (kQv (ah isAgg72 aa aa) aa (kQv (bD aa runUnderlying72 ⟨_,rfl⟩ rfl) aa (bY (cJ aa (Cf (dZ runUnderlying115) (by kernel_rfl) aa aa h0 hl) .free aa aa ?_)))))))))))
 rintro _ _ ⟨rfl,rfl⟩
 refine kPa aa aa (ad (am [2] rfl (az ?_)))
 exact aq results32 aa (fun w hw=>⟨rfl,(hw.dp [0])⟩)
theorem AQ(B:World)(Fr:List HP)(b:Nat)(a:Value):
 ∀ w,Holds B (row b [a,.slice none 0 0] 74::Fr) w→Calls Tryz.prog 32 [ptr b].toArray w (aZ B Fr (str [])):=by
 refine an func32 aa ntmps32 aa (ac (ab (kPa aa aa (ad (ac (cQ 10 Tryz.mixed (by kernel_rfl) (by kernel_rfl) ?_))))))
 refine kQm aa aa (kQv (aI aa) aa (kQv (aD (m:=_) kR aa aa) aa (kQv (ah isAgg72 aa aa) aa (kQv (vC aa) aa (kQm aa aa (kQv (aI aa) aa (kQv (aD (m:=_) kR aa aa) aa (kQv (ah isAgg72 aa aa) aa (kQv (bD aa runUnderlying72 ⟨_,rfl⟩ rfl) aa (bY (kPv (um aa aa) aa ?_)))))))))))
 refine kPa aa aa (ad (am [2] rfl (az ?_)))
 exact aq results32 aa (fun w hw=>⟨rfl,(hw.dp [0])⟩)
theorem Ck(B:World)(Fr:List HP)(b:Nat)(l:List UInt8)(hl:l.length≤1000000000):∀ w,Holds B (uS b l::Fr) w→Calls Tryz.prog 32 [ptr b].toArray w (Ret B (fun v H'=>v=str l∧H'=Fr) (fun _ _=>False)):=fun w hw=>by
 obtain⟨a,sv,ha,hsv,h⟩:=qG hw
 rcases qF (h.front 1 rfl) with ⟨rfl,rfl,h2⟩ | ⟨r,rest,h0,rfl,h2⟩
 ·exact(AQ B Fr b a w h2).mono fun e w' h=>h.ret ⟨rfl,rfl⟩
 ·exact(AP B Fr b r a l rest h0 hl w h2).mono fun e w' h=>h.ret ⟨rfl,rfl⟩
theorem sO{rs:List CR}{k:Nat}(h:k<rs.length):cD ((rs.take (k+1)).map fun t=>dj (crC t))=cD ((rs.take k).map fun t=>dj (crC t))++(dj (crC rs[k])++[10]):=by
 rw[List.take_succ_eq_append_getElem h,List.map_append,jr]
 simp[cD]
theorem xB(B:World)(Fr:List HP)[cM Fr B](gl:GL B)(fg:FG B)(q:Option Addr)(cap:Nat)(rs:List CR)(hn:rs.length≤1000)(hr:CmR B Fr q cap rs)(hcw:∀ t∈rs,p7 (crC t))(hq:∀ t∈rs,∀ i,i<t.2.2.length→∃ b off,t.2.1.1=some ⟨b,off,none⟩):
 ∀ w,Holds B Fr w→Calls Tryz.prog 16 [.slice q rs.length cap].toArray w (aZ B Fr (str (cD (rs.map fun t=>dj (crC t))))):=by
 refine an func16 aa ntmps16 aa (ac (ab (kPa aa aa (ad (ac (ab (kPb (aC zeroValue74 aa) aa fun b3=>(ad (ac (ac (aM (fun w hh=>Cl hh) ?_)))))))))))
 refine ab (kPm aa aa (kPv (bD aa runUnderlying24 ⟨_,rfl⟩ rfl) aa (kPm aa aa (ad (aG (cK (ι:=Nat×List UInt8) [7,6,3,2] (fun (k,o)=>(k≤rs.length)∧(o=cD ((rs.take k).map fun t=>dj (crC t)))∧(o.length≤71*k)) (fun (k,o)=>[(8,i64 k)]) (fun (k,o)=>uS b3 o::Fr) (fun (k,o)=>rs.length - k) (0,[]) (⟨Nat.zero_le _,rfl,Nat.zero_le _⟩) (fun a w st=>st.to ⟨rfl,trivial⟩ (fun hh=>hh)) ?_))))))
 rintro⟨k,o⟩ ⟨hk0,ho,hol⟩
 try simp only at hk0 ho hol ⊢
 refine cu (σ':=[(8,i64 k),(7,_),(6,_),(3,_),(2,_)]) (aE aa) (ac (ab (kPv (ao aa aa aa) aa (ad (ac ?_)))))
 refine a8 aa (fun h9=> ?_) (fun h9=> ?_)
 ·have hk:k<rs.length:=by simp at h9;omega
  refine rS hr.sl.up (by rw[List.length_map];omega) fun bq oq eq_=> ?_
  subst eq_
  obtain⟨hn1,hn2,hn3⟩:=hr.nm _ (List.getElem_mem hk)
  have hcm:=hcw _ (List.getElem_mem hk)
  have hqq:=hq _ (List.getElem_mem hk)
  have htx:=sO hk
  generalize hrk:rs[k]=tk at*
  obtain⟨kd,⟨qk,mk,ck⟩,ns⟩:=tk
  simp only at hn2 hqq
  subst hn2
  have hc3:=hcm.len
  have hll:=qx (c:=(kd,ns)) (by simp only;have:ns.length≤3:=hc3;omega) (fun n hn=>(hcm.b n hn).2)
  have hnl:ns.length≤3:=hc3
  simp only at hll
  refine ar (ac (aG (ac (ab (kPv (jT (sz:=2) runUnderlying24 sizeOf32 aa aa (by omega) (by omega) aa) aa ?_)))))
  refine kPv (gK (i:=k) (c:=[i64 kd,.slice qk ns.length ck]) isAgg32 sizeOf32 hr.sl.up aa (by rw[List.getElem?_map,List.getElem?_eq_getElem hk,hrk];rfl)) aa ?_
  refine kPb (aC zeroValue32 aa) aa fun b5=> ?_
  refine kPs (ax (vs:=_) sizeOf32 aa aa aa (by first | rfl | exact eh (by assumption)) rfl) rfl ?_;refine ad ?_;refine ab ?_;refine kPv (ag isAgg32 sizeOf32 aa aa) aa ?_;refine aw aa (au call13 aa) (ux _ _ gl fg kd qk ck ns (by omega) hcm.b hn1.up hqq) .free aa aa ?_
  refine al aa (dF aa aa (by first | omega | (simp only[List.length_append,List.length_cons,List.length_nil];omega))) .free aa aa ?_
  refine aP [1] (aH aa (au call31 aa) (A6 _ _ b3 o (dj (kd,ns)++[10]) (by simp) (by simp only[List.length_append,List.length_cons,List.length_nil];omega)) .free aa aa ?_)
  rintro _ _ rfl
  refine ad (am [8,7,6,3,2] rfl (ab (kPv (aN aa aa) aa (kPm aa aa (ad ?_)))))
  exact fun a w st_=>⟨(k+1,o++(dj (kd,ns)++[10])),⟨by first | omega | (simp only;omega),by rw[htx,ho],by simp only[List.length_append,List.length_cons,List.length_nil];omega⟩,by first | omega | (simp only;omega),st_.to (aE aa) (fun hh=>(hh.dp [1]))⟩
 ·have hk:k=rs.length:=by simp at h9;omega
  rw[hk,List.take_length] at ho
  refine bF (ac (ab (dC aa (au call32 aa) (Ck _ _ b3 o (by omega)) .free aa aa ?_)))
  refine kPa aa aa (ad (az ?_))
  exact aq results16 aa (fun w hw=>⟨by rw[ho],hw⟩)
theorem lm(B:World)(Fr:List HP)[cM Fr B](gl:GL B)(fg:FG B){sv:Value}{l:List Cmd}(hl:l.length≤1000)(hw:∀ c∈l,p7 c):
 ∀ w,Holds B (kE 0 (sv,l)::Fr) w→Calls Tryz.prog 16 [sv].toArray w (aZ B (kE 0 (sv,l)::Fr) (str (cD (l.map dj)))):=fun w hh=>by
 obtain⟨rs,hr,h1⟩:=o3 hh
 obtain⟨q,cap,rfl⟩:=zM h1
 have hlen:rs.length=l.length:=by rw[←hr.1,List.length_map]
 have hm:∀ t∈rs,crC t∈l:=fun t ht=>by rw[←hr.1];exact List.mem_map_of_mem ht
 have hcm:CmR B (eO 32 2 crE 0 (.slice q rs.length cap,rs)::grp (rs.map jk)::Fr) q cap rs:=AI hr (fun c hc=>by have:=(hw c hc).len;omega) 0 1 rfl rfl
 have hp:=xB B _ gl fg q cap rs (by omega) hcm (fun t ht=>hw _ (hm t ht)) (fun t ht i hi=>by
  have h2:=hcm.nm t ht
  obtain⟨kd,⟨q2,m2,c2⟩,ns⟩:=t
  exact tc h2.1 h1 i (by simpa using hi)) w h1
 have e:(rs.map fun t=>dj (crC t))=l.map dj:=by rw[←hr.1,List.map_map];rfl
 rw[e] at hp
 exact hp.mono fun e w' h=>⟨h.1,eM hr h.2⟩
namespace scriptJoins
theorem Ek:(Rows.scriptJoinsRow.inPlace==Tryz.pinned.checked.prog.inPlace 4)=true:=by kernel_rfl
theorem Ej:(Rows.scriptJoinsRow.unfollowed==Tryz.pinned.checked.prog.unfollowed 4)=true:=by kernel_rfl
theorem Ei:(Rows.scriptJoinsRow.recurses==Tryz.pinned.checked.prog.recurses 4)=true:=by kernel_rfl
theorem Eh:(Rows.scriptJoinsRow.named==Tryz.pinned.checked.prog.varsNamed 4)=true:=by kernel_rfl
theorem Eg:joinedFacts Tryz.pinned.checked.prog 4 Tryz.f4 Rows.scriptJoinsSpec Rows.scriptJoinsRow=true:=by
 unfold joinedFacts
 rw[Ek,Ej,Ei,Eh]
 kernel_rfl
theorem named:Tryz.pinned.checked.prog.funcNamed Rows.scriptJoinsRow.func=some 4:=by kernel_rfl
theorem EC:Tryz.f4.isInstance Tryz.pinned.checked.prog Rows.scriptJoinsRow.origin Rows.scriptJoinsRow.targs:=of_decide_eq_true (by kernel_rfl)
theorem wrap:Tryz.f4.isWrapper Tryz.pinned.checked.prog Rows.scriptJoinsRow.wrapper Rows.scriptJoinsRow.mainSum:=by unfold Func.isWrapper;first | (rw[if_pos (by decide+kernel)];kernel_rfl) | (rw[if_neg (by decide+kernel)];exact⟨rfl,rfl⟩)
end scriptJoins
end Go.Proofs.YtoakdoeajpjgkaaGreatDoor
